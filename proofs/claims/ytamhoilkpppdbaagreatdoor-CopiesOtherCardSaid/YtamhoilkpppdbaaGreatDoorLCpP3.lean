/- testamurlaw19.CopiesOther returns true for every input, and the input reads as it did: an accepted copy, and what is shown of it, is refused for a round with another number, another issuer or another schema, and a copy without one of its signatures is refused. No condition of size; the package-level table testamur/digest.constants is listed, and tied to the program's text. -/
import Derived.Test.YtamhoilkpppdbaaGreatDoorLCpLo
import Derived.Test.YtamhoilkpppdbaaGreatDoorLCpRw
import Derived.Test.YtamhoilkpppdbaaGreatDoorLCpOc
namespace Go.Proofs.YtamhoilkpppdbaaGreatDoor
set_option maxHeartbeats 8000000
set_option maxRecDepth 100000
open Go.Proofs.Tryz
open Go.Value renaming slice→AA
open Go.ChangeShapes Go.WideShapes Go.ChangeAt Go.RowKit
theorem YP (os:Os) (started:os.Started) (H:Type) (enc:TypeId×Value->H):
 ReturnsInHanded {} checked os 5 .any (fun w args=>(Rows.copiesOtherSpec.pre enc prog f5 [] false w args/\laidMetH prog Rows.copiesOtherRow.laid w)/\sizedMet enc prog f5 (OpenSpec.ofChange Rows.copiesOtherSpec) false w args) (Rows.copiesOtherSpec.post enc prog f5 false true false false):=by
 refine returnsInHanded_of_change_and (C:=checked) (X:=fun w _=>laidMetH prog Rows.copiesOtherRow.laid w) (fun _ _ _ hh h=>h.of_heap hh) own started AJ func5
  (ChangeSpec.witness_at (enc:=enc) (C:=checked) (os:=os) (X:=fun w _=>laidMetH prog Rows.copiesOtherRow.laid w) false (AF4 os) #[.agg #[AA none 0 0,AA none 0 0,AA none 0 0,AA none 0 0,AA none 0 0,AA none 0 0,AA none 0 0],.agg (rdA ⟨0,0,0,0,0,0,zeros 32⟩),.agg (Fo ⟨0,0,0,0,zeros 32,AA none 0 0,AA none 0 0,AA none 0 0⟩),.int .i64 0,.int .u64 0] 8 rfl AJ AJ AJ AJ AJ (laidMet_of_run' 8 AJ AJ)) ?_
 intro W base args ds gs before hval0 hW _ hsz hL _;have hval:∀(j:Nat) t v,f5.params[j]? =some t->args[j]? =some v->Value.okWide prog W .any base t v:=hval0;have hW':=hW;obtain ⟨p,q,hA0,hV,rfl,hfz,hnd⟩:=hW;have hA:DataW.TrodAll enc prog W 0 (fun _=>true) true f5.params.toList args.toList ds p:=hA0;rw [params5] at hA hval;obtain ⟨v0,vs0,d0,ds0,p0,q0,hargs,rfl,rfl,h0,r0⟩:=trodAll_cons hA;obtain ⟨v1,vs1,d1,ds1,p1,q1,rfl,rfl,rfl,h1,r1⟩:=trodAll_cons r0;obtain ⟨v2,vs2,d2,ds2,p2,q2,rfl,rfl,rfl,h2,r2⟩:=trodAll_cons r1;obtain ⟨v3,vs3,d3,ds3,p3,q3,rfl,rfl,rfl,h3,r3⟩:=trodAll_cons r2;obtain ⟨v4,vs4,d4,ds4,p4,q4,rfl,rfl,rfl,h4,r4⟩:=trodAll_cons r3;obtain ⟨rfl,rfl,rfl⟩:=trodAll_nil r4;obtain rfl:args=#[v0,v1,v2,v3,v4]:=by cases args;simp_all
 obtain ⟨rfl,rfl⟩:=trodVars_none hV;have w0:M5 prog 32 d0:=fun n hn=>by have:=DM.1 hsz n (DataW.weights_mem_each (j:=0) (t:=32) (d:=d0) gx rfl n hn);simpa using this
 obtain ⟨A1,n1,c1,A2,n2,c2,A3,n3,c3,A4,n4,c4,A5,n5,c5,A6,n6,c6,A7,n7,c7,s,l,rfl,k1,k2,k3,k4,k5,k6,k7,hI⟩:=eZ (hval 0 _ v0 rfl rfl) h0 w0;obtain ⟨hK,hF⟩:=Zo k1 k2 k3 k4 k5 k6 k7 hI;have hc:=ACZ k3.1;have w1:M5 prog 36 d1:=fun n hn=>by have:=DM.1 hsz n (DataW.weights_mem_each (j:=1) (t:=36) (d:=d1) gx rfl n hn);simpa using this
 obtain ⟨r_,hr,rfl⟩:=lF (hval 1 _ v1 rfl rfl) h1 w1;have w2:M5 prog 46 d2:=fun n hn=>by have:=DM.1 hsz n (DataW.weights_mem_each (j:=2) (t:=46) (d:=d2) gx rfl n hn);simpa using this
 obtain ⟨cq,CV,cvn,cvc,CL,cln,clc,CK,ckn,ckc,hch,hcv,hcl,hck,rfl⟩:=AFK (hval 2 _ v2 rfl rfl) h2 w2;obtain ⟨a3,rfl,rfl,rfl,wi3⟩:=open_int underlying3 (hval 3 _ v3 rfl rfl) h3;have hb3:FI a3:=by simpa [FI,Lit.wf,IntKind.min,IntKind.max,IntKind.signed,IntKind.bits] using wi3
 obtain ⟨a4,rfl,rfl,rfl,wi4⟩:=open_int underlying64 (hval 4 _ v4 rfl rfl) h4;have hb4:0<=a4/\a4<=18446744073709551615:=by simpa [Lit.wf,IntKind.min,IntKind.max,IntKind.signed,IntKind.bits] using wi4
 have hT:=oM hL;refine (sU (AA A1 n1 c1) (AA A2 n2 c2) (AA A4 n4 c4) (AA A5 n5 c5) (AA A6 n6 c6) (AA A7 n7 c7) A3 n3 c3 _ _ _ r_ cq CV CL CK cvn cvc cln clc ckn ckc a3 a4 W hc hK hcv hcl hck hch hr hb3 hb4 hT (oT hT) hF).mono ?_;exact AAU
theorem Zy:joinedFacts checked.prog 5 f5 Rows.copiesOtherSpec Rows.copiesOtherRow=true:=by
 exact AAJ
theorem bw:Rows.CopiesOtherSaid:=
 OpenClaim.holds_of_wide 5 f5 rfl rfl rfl rfl rfl rfl rfl ⟨rfl,rfl,rfl,rfl,rfl⟩ rfl rfl rfl rfl rfl AJ func5 Zy
  (F4 AJ) AAw
  (fun os started H enc _=>YP os started H enc)
theorem Zx (f:FuncId) (fn:Func) (hf:Tryz.pinned.checked.prog.funcNamed "testamur/testamurlaw19.CopiesOther"=some f) (hfn:Tryz.pinned.checked.prog.funcs[f]? =some fn):
 true=Tryz.pinned.checked.prog.looks []/\∀(j:Nat) t,fn.params[j]? =some t->Tryz.pinned.checked.prog.wantsStandIn t=false:=by
 obtain rfl:f=5:=DE ((show prog.funcNamed "testamur/testamurlaw19.CopiesOther"=some 5 by kernel_rfl).symm.trans hf) |>.symm;obtain rfl:fn=f5:=(DE (func5.symm.trans hfn)).symm;refine ⟨by kernel_rfl,fun j t ht=> ?_⟩;have h:f5.params.all (fun t=> !prog.wantsStandIn t)=true:=AJ
 exact AAM
theorem copiesOther_holds:Rows.CopiesOtherCardSaid:=
 Claim7.holds_tied_plain_at .later [] _ _ _ _ bw (fun _ h=>by cases h) AJ (fun _ h=>by cases h) copiesOther_row_tie rfl ⟨rfl,rfl⟩ AJ rfl Zx AJ
end Go.Proofs.YtamhoilkpppdbaaGreatDoor
