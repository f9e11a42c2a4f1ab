/- testamurlaw19.CopiesTrue returns true for every input, and the input reads as it did: whatever is accepted for a round's root is what was made, or two strings have one digest, or a signature is forged as keys.Forged says. No condition of size; the package-level table testamur/digest.constants is listed, and tied to the program's text. -/
import Derived.Test.YtpmpddfgifhlbaaGreatDoorMCpLts
import Derived.Test.YtpmpddfgifhlbaaGreatDoorMCpRw
import Derived.Test.YtpmpddfgifhlbaaGreatDoorMCpOc
namespace Go.Proofs.YtpmpddfgifhlbaaGreatDoor
set_option maxHeartbeats 8000000
set_option maxRecDepth 100000
open Go.Proofs.Tryz
open Go.Value renaming slice→AA
open Go.ChangeShapes Go.WideShapes Go.ChangeAt Go.RowKit
theorem ZK (os:Os) (started:os.Started) (H:Type) (enc:TypeId×Value->H):
 ReturnsInHanded {} checked os 3 .any (fun w args=>(Rows.copiesTrueSpec.pre enc prog f3 [] false w args/\laidMetH prog Rows.copiesTrueRow.laid w)/\sizedMet enc prog f3 (OpenSpec.ofChange Rows.copiesTrueSpec) false w args) (Rows.copiesTrueSpec.post enc prog f3 false true false false):=by
 refine returnsInHanded_of_change_and (C:=checked) (X:=fun w _=>laidMetH prog Rows.copiesTrueRow.laid w) (fun _ _ _ hh h=>h.of_heap hh) own started AL func3
  (ChangeSpec.witness_at (enc:=enc) (C:=checked) (os:=os) (X:=fun w _=>laidMetH prog Rows.copiesTrueRow.laid w) false (AJI os) #[.agg #[AA none 0 0,AA none 0 0,AA none 0 0,AA none 0 0,AA none 0 0,AA none 0 0,AA none 0 0],.agg (yA (zeros 32)),.agg (rdA ⟨0,0,0,0,0,0,zeros 32⟩),.int .i64 0,.agg (Qc 0 0 (zeros 32) (AA none 0 0)),.agg #[.int .i64 0,.int .i64 0,.int .i64 0,AA none 0 0],.agg (Et ⟨0,0,0,0,zeros 32,AA none 0 0,AA none 0 0,0,zeros 32,AA none 0 0,AA none 0 0,AA none 0 0,0,0⟩)] 8 rfl AL AL AL AL AL (laidMet_of_run' 8 AL AL)) ?_
 intro W base args ds gs before hval0 hW _ hsz hL _;have hval:∀(j:Nat) t v,f3.params[j]? =some t->args[j]? =some v->Value.okWide prog W .any base t v:=hval0;have hW':=hW;obtain ⟨p,q,hA0,hV,rfl,hfz,hnd⟩:=hW;have hA:DataW.TrodAll enc prog W 0 (fun _=>true) true f3.params.toList args.toList ds p:=hA0;rw [params3] at hA hval;obtain ⟨v0,vs0,d0,ds0,p0,q0,hargs,rfl,rfl,h0,r0⟩:=trodAll_cons hA;obtain ⟨v1,vs1,d1,ds1,p1,q1,rfl,rfl,rfl,h1,r1⟩:=trodAll_cons r0;obtain ⟨v2,vs2,d2,ds2,p2,q2,rfl,rfl,rfl,h2,r2⟩:=trodAll_cons r1;obtain ⟨v3,vs3,d3,ds3,p3,q3,rfl,rfl,rfl,h3,r3⟩:=trodAll_cons r2;obtain ⟨v4,vs4,d4,ds4,p4,q4,rfl,rfl,rfl,h4,r4⟩:=trodAll_cons r3;obtain ⟨v5,vs5,d5,ds5,p5,q5,rfl,rfl,rfl,h5,r5⟩:=trodAll_cons r4;obtain ⟨v6,vs6,d6,ds6,p6,q6,rfl,rfl,rfl,h6,r6⟩:=trodAll_cons r5;obtain ⟨rfl,rfl,rfl⟩:=trodAll_nil r6;obtain rfl:args=#[v0,v1,v2,v3,v4,v5,v6]:=by cases args;simp_all
 obtain ⟨rfl,rfl⟩:=trodVars_none hV;have w0:PG prog 32 d0:=fun n hn=>by have:=Dr.1 hsz n (DataW.weights_mem_each (j:=0) (t:=32) (d:=d0) UH rfl n hn);simpa using this
 obtain ⟨A1,n1,c1,A2,n2,c2,A3,n3,c3,A4,n4,c4,A5,n5,c5,A6,n6,c6,A7,n7,c7,s,l,rfl,k1,k2,k3,k4,k5,k6,k7,hI⟩:=yN (hval 0 _ v0 rfl rfl) h0 w0;obtain ⟨hK,hF⟩:=gS k1 k2 k3 k4 k5 k6 k7 hI;have hc:=AH6 k3.1;have w1:PG prog 34 d1:=fun n hn=>by have:=Dr.1 hsz n (DataW.weights_mem_each (j:=1) (t:=34) (d:=d1) UH rfl n hn);simpa using this
 obtain ⟨sd,hsd,rfl⟩:=AGj (hval 1 _ v1 rfl rfl) h1 w1;have w2:PG prog 36 d2:=fun n hn=>by have:=Dr.1 hsz n (DataW.weights_mem_each (j:=2) (t:=36) (d:=d2) UH rfl n hn);simpa using this
 obtain ⟨r_,hr,rfl⟩:=ACO (hval 2 _ v2 rfl rfl) h2 w2;obtain ⟨a3,rfl,rfl,rfl,wi3⟩:=open_int underlying3 (hval 3 _ v3 rfl rfl) h3;have hb3:EZ a3:=by simpa [EZ,Lit.wf,IntKind.min,IntKind.max,IntKind.signed,IntKind.bits] using wi3
 have w4:PG prog 39 d4:=fun n hn=>by have:=Dr.1 hsz n (DataW.weights_mem_each (j:=4) (t:=39) (d:=d4) UH rfl n hn);simpa using this
 obtain ⟨oa,ob,ho,OA,on,oc,ol,hh,ho',rfl⟩:=ACP (hval 4 _ v4 rfl rfl) h4 w4;have w5:PG prog 41 d5:=fun n hn=>by have:=Dr.1 hsz n (DataW.weights_mem_each (j:=5) (t:=41) (d:=d5) UH rfl n hn);simpa using this
 obtain ⟨xa,xb,xc,XA,xn,xk,xl,hx,rfl⟩:=AEk (hval 5 _ v5 rfl rfl) h5 w5;have w6:PG prog 44 d6:=fun n hn=>by have:=Dr.1 hsz n (DataW.weights_mem_each (j:=6) (t:=44) (d:=d6) UH rfl n hn);simpa using this
 obtain ⟨sq,SF,sfn,sfc,SV,svn,svc,SK,skn,skc,hsh,hst,hsl,hsf,hsv,hsk,rfl⟩:=ACN (hval 6 _ v6 rfl rfl) h6 w6;have hT:=ACb hL;refine (AAy.main ⟨AI4.main ⟨AI5⟩⟩ (AA A1 n1 c1) (AA A2 n2 c2) (AA A4 n4 c4) (AA A5 n5 c5) (AA A6 n6 c6) (AA A7 n7 c7) A3 n3 c3 _ _ _ sd r_ a3 oa ob xa xb xc ho ol xl sq XA OA SF SV SK xn xk on oc sfn sfc svn svc skn skc W hc hK hx.1 ho'.1 hsd hh hr hsh hst hsl hsf hsv hsk hT (ACr hT) hF).mono ?_;rintro e W' ⟨rfl,hb⟩;exact ⟨_,rfl,ADM laidOut hW' rfl AL underlying4 AL rfl rfl rfl hb⟩
theorem ah:joinedFacts checked.prog 3 f3 Rows.copiesTrueSpec Rows.copiesTrueRow=true:=by
 unfold joinedFacts
 repeat' with_reducible refine Bool.and_eq_true_iff.2 ⟨?_,?_⟩
 all_goals as_aux_lemma=>kernel_rfl
theorem db:Rows.CopiesTrueSaid:=
 OpenClaim.holds_of_wide 3 f3 rfl rfl rfl rfl rfl rfl rfl ⟨rfl,rfl,rfl,rfl,rfl⟩ rfl rfl rfl rfl rfl AL func3 ah
  (Fj AL) (by unfold Func.isWrapper;first | (rw [Am UW];kernel_rfl) | (rw [Ah UW];exact ⟨rfl,rfl⟩))
  (fun os started H enc _=>ZK os started H enc)
theorem ag (f:FuncId) (fn:Func) (hf:Tryz.pinned.checked.prog.funcNamed "testamur/testamurlaw19.CopiesTrue"=some f) (hfn:Tryz.pinned.checked.prog.funcs[f]? =some fn):
 true=Tryz.pinned.checked.prog.looks []/\∀(j:Nat) t,fn.params[j]? =some t->Tryz.pinned.checked.prog.wantsStandIn t=false:=by
 obtain rfl:f=3:=FO ((show prog.funcNamed "testamur/testamurlaw19.CopiesTrue"=some 3 by kernel_rfl).symm.trans hf) |>.symm;obtain rfl:fn=f3:=(FO (func3.symm.trans hfn)).symm;refine ⟨by kernel_rfl,fun j t ht=> ?_⟩;have h:f3.params.all (fun t=> !prog.wantsStandIn t)=true:=AL
 have h2:=eT.1 h t (Array.mem_of_getElem? ht);show prog.wantsStandIn t=false;simpa using h2
theorem copiesTrue_holds:Rows.CopiesTrueCardSaid:=
 Claim7.holds_tied_plain_at .later [] _ _ _ _ db (fun _ h=>by cases h) AL (fun _ h=>by cases h) copiesTrue_row_tie rfl ⟨rfl,rfl⟩ AL rfl ag AL
end Go.Proofs.YtpmpddfgifhlbaaGreatDoor
