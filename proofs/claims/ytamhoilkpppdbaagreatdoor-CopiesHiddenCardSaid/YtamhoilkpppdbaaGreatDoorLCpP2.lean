/- testamurlaw19.CopiesHidden returns true for every input, and the input reads as it did: what is shown of two copies that have the same values in the fields that are shown, and the same link, is the same. No condition of size; the package-level table testamur/digest.constants is listed, and tied to the program's text. -/
import Derived.Test.YtamhoilkpppdbaaGreatDoorLCpHi
import Derived.Test.YtamhoilkpppdbaaGreatDoorLCpRw
namespace Go.Proofs.YtamhoilkpppdbaaGreatDoor
set_option maxHeartbeats 8000000
set_option maxRecDepth 100000
open Go.Proofs.Tryz
open Go.Value renaming slice→AA, int→AB, agg→AP
open Go.IntKind renaming i64→AE
open Go.ChangeShapes Go.WideShapes Go.ChangeAt Go.RowKit
theorem XK (os:Os) (started:os.Started) (H:Type) (enc:TypeId×Value->H):
 ReturnsInHanded {} checked os 4 .any (fun w args=>(Rows.copiesHiddenSpec.pre enc prog f4 [] false w args/\laidMetH prog Rows.copiesHiddenRow.laid w)/\sizedMet enc prog f4 (OpenSpec.ofChange Rows.copiesHiddenSpec) false w args) (Rows.copiesHiddenSpec.post enc prog f4 false true false false):=by
 refine returnsInHanded_of_change_and (C:=checked) (X:=fun w _=>laidMetH prog Rows.copiesHiddenRow.laid w) (fun _ _ _ hh h=>h.of_heap hh) own started AJ func4
  (ChangeSpec.witness_at (enc:=enc) (C:=checked) (os:=os) (X:=fun w _=>laidMetH prog Rows.copiesHiddenRow.laid w) false (AF4 os) #[AP #[AA none 0 0,AA none 0 0,AA none 0 0,AA none 0 0,AA none 0 0,AA none 0 0,AA none 0 0],AP (yA (zeros 32)),AP (rdA ⟨0,0,0,0,0,0,zeros 32⟩),AB AE 0,AP (Hp 0 0 (zeros 32) (AA none 0 0)),AP (Hp 0 0 (zeros 32) (AA none 0 0)),AP #[AB AE 0,AB AE 0,AB AE 0,AA none 0 0],AP #[AB AE 0,AB AE 0,AB AE 0,AA none 0 0],AA none 0 0,AB AE 0] 8 rfl AJ AJ AJ AJ AJ (laidMet_of_run' 8 AJ AJ)) ?_
 intro W base args ds gs before hval0 hW _ hsz hL _;have hval:∀(j:Nat) t v,f4.params[j]? =some t->args[j]? =some v->Value.okWide prog W .any base t v:=hval0;have hW':=hW;obtain ⟨p,q,hA0,hV,rfl,hfz,hnd⟩:=hW;have hA:DataW.TrodAll enc prog W 0 (fun _=>true) true f4.params.toList args.toList ds p:=hA0;rw [params4] at hA hval;obtain ⟨v0,vs0,d0,ds0,p0,q0,hargs,rfl,rfl,h0,r0⟩:=trodAll_cons hA;obtain ⟨v1,vs1,d1,ds1,p1,q1,rfl,rfl,rfl,h1,r1⟩:=trodAll_cons r0;obtain ⟨v2,vs2,d2,ds2,p2,q2,rfl,rfl,rfl,h2,r2⟩:=trodAll_cons r1;obtain ⟨v3,vs3,d3,ds3,p3,q3,rfl,rfl,rfl,h3,r3⟩:=trodAll_cons r2;obtain ⟨v4,vs4,d4,ds4,p4,q4,rfl,rfl,rfl,h4,r4⟩:=trodAll_cons r3;obtain ⟨v5,vs5,d5,ds5,p5,q5,rfl,rfl,rfl,h5,r5⟩:=trodAll_cons r4;obtain ⟨v6,vs6,d6,ds6,p6,q6,rfl,rfl,rfl,h6,r6⟩:=trodAll_cons r5;obtain ⟨v7,vs7,d7,ds7,p7,q7,rfl,rfl,rfl,h7,r7⟩:=trodAll_cons r6;obtain ⟨v8,vs8,d8,ds8,p8,q8,rfl,rfl,rfl,h8,r8⟩:=trodAll_cons r7;obtain ⟨v9,vs9,d9,ds9,p9,q9,rfl,rfl,rfl,h9,r9⟩:=trodAll_cons r8;obtain ⟨rfl,rfl,rfl⟩:=trodAll_nil r9;obtain rfl:args=#[v0,v1,v2,v3,v4,v5,v6,v7,v8,v9]:=by cases args;simp_all
 obtain ⟨rfl,rfl⟩:=trodVars_none hV;have w0:M5 prog 32 d0:=fun n hn=>by have:=DM.1 hsz n (DataW.weights_mem_each (j:=0) (t:=32) (d:=d0) SR rfl n hn);simpa using this
 obtain ⟨A1,n1,c1,A2,n2,c2,A3,n3,c3,A4,n4,c4,A5,n5,c5,A6,n6,c6,A7,n7,c7,s,l,rfl,k1,k2,k3,k4,k5,k6,k7,hI⟩:=eZ (hval 0 _ v0 rfl rfl) h0 w0;obtain ⟨hK,hF⟩:=Zo k1 k2 k3 k4 k5 k6 k7 hI;have hc:=ACZ k3.1;have w1:M5 prog 34 d1:=fun n hn=>by have:=DM.1 hsz n (DataW.weights_mem_each (j:=1) (t:=34) (d:=d1) SR rfl n hn);simpa using this
 obtain ⟨sd,hsd,rfl⟩:=AHI (hval 1 _ v1 rfl rfl) h1 w1;have w2:M5 prog 36 d2:=fun n hn=>by have:=DM.1 hsz n (DataW.weights_mem_each (j:=2) (t:=36) (d:=d2) SR rfl n hn);simpa using this
 obtain ⟨r_,hr,rfl⟩:=lF (hval 2 _ v2 rfl rfl) h2 w2;obtain ⟨a3,rfl,rfl,rfl,wi3⟩:=open_int underlying3 (hval 3 _ v3 rfl rfl) h3;have hb3:FI a3:=by simpa [FI,Lit.wf,IntKind.min,IntKind.max,IntKind.signed,IntKind.bits] using wi3
 have w4:M5 prog 39 d4:=fun n hn=>by have:=DM.1 hsz n (DataW.weights_mem_each (j:=4) (t:=39) (d:=d4) SR rfl n hn);simpa using this
 obtain ⟨oa,ob,ho,OA,on,oc,ol,hh,ho',rfl⟩:=lH (hval 4 _ v4 rfl rfl) h4 w4;have w5:M5 prog 39 d5:=fun n hn=>by have:=DM.1 hsz n (DataW.weights_mem_each (j:=5) (t:=39) (d:=d5) SR rfl n hn);simpa using this
 obtain ⟨oa2,ob2,ho2,OA2,on2,oc2,ol2,hh2,AEM,rfl⟩:=lH (hval 5 _ v5 rfl rfl) h5 w5;have w6:M5 prog 41 d6:=fun n hn=>by have:=DM.1 hsz n (DataW.weights_mem_each (j:=6) (t:=41) (d:=d6) SR rfl n hn);simpa using this
 obtain ⟨xa,xb,xc,XA,xn,xk,xl,hx,rfl⟩:=qo (hval 6 _ v6 rfl rfl) h6 w6;have w7:M5 prog 41 d7:=fun n hn=>by have:=DM.1 hsz n (DataW.weights_mem_each (j:=7) (t:=41) (d:=d7) SR rfl n hn);simpa using this
 obtain ⟨xa2,xb2,xc2,XA2,xn2,xk2,xl2,hx2,rfl⟩:=qo (hval 7 _ v7 rfl rfl) h7 w7;obtain ⟨IA,i_,ic,il,rfl,hi⟩:=AFJ (hval 8 _ v8 rfl rfl) h8;obtain ⟨a9,rfl,rfl,rfl,wi9⟩:=open_int underlying3 (hval 9 _ v9 rfl rfl) h9;have Oe:FI a9:=by simpa [FI,Lit.wf,IntKind.min,IntKind.max,IntKind.signed,IntKind.bits] using wi9
 have hT:=oM hL;refine (pw (AA A1 n1 c1) (AA A2 n2 c2) (AA A4 n4 c4) (AA A5 n5 c5) (AA A6 n6 c6) (AA A7 n7 c7) A3 n3 c3 _ _ _ sd r_ a3 oa ob oa2 ob2 xa xb xc xa2 xb2 xc2 a9 ho ho2 ol ol2 xl xl2 il XA OA OA2 XA2 IA xn xk on oc on2 oc2 xn2 xk2 i_ ic W hc hK hx.1 ho'.1 AEM.1 hx2.1 hi (by rw [hx2.1.len];exact hx2.2) (by rw [AEM.1.len];exact AEM.2) hsd hh hh2 hr hT (oT hT) hF).mono ?_;exact AAU
theorem YR:joinedFacts checked.prog 4 f4 Rows.copiesHiddenSpec Rows.copiesHiddenRow=true:=by
 exact AAJ
theorem Zz:Rows.CopiesHiddenSaid:=
 OpenClaim.holds_of_wide 4 f4 rfl rfl rfl rfl rfl rfl rfl ⟨rfl,rfl,rfl,rfl,rfl⟩ rfl rfl rfl rfl rfl AJ func4 YR
  (F4 AJ) AAw
  (fun os started H enc _=>XK os started H enc)
theorem YQ (f:FuncId) (fn:Func) (hf:Tryz.pinned.checked.prog.funcNamed "testamur/testamurlaw19.CopiesHidden"=some f) (hfn:Tryz.pinned.checked.prog.funcs[f]? =some fn):
 true=Tryz.pinned.checked.prog.looks []/\∀(j:Nat) t,fn.params[j]? =some t->Tryz.pinned.checked.prog.wantsStandIn t=false:=by
 obtain rfl:f=4:=DE ((show prog.funcNamed "testamur/testamurlaw19.CopiesHidden"=some 4 by kernel_rfl).symm.trans hf) |>.symm;obtain rfl:fn=f4:=(DE (func4.symm.trans hfn)).symm;refine ⟨by kernel_rfl,fun j t ht=> ?_⟩;have h:f4.params.all (fun t=> !prog.wantsStandIn t)=true:=AJ
 exact AAM
theorem copiesHidden_holds:Rows.CopiesHiddenCardSaid:=
 Claim7.holds_tied_plain_at .later [] _ _ _ _ Zz (fun _ h=>by cases h) AJ (fun _ h=>by cases h) copiesHidden_row_tie rfl ⟨rfl,rfl⟩ AJ rfl YQ AJ
end Go.Proofs.YtamhoilkpppdbaaGreatDoor
