import Derived.Test.YtamhoilkpppdbaaGreatDoorL15
import Derived.Test.YtamhoilkpppdbaaGreatDoorL16
namespace Go.Proofs.YtamhoilkpppdbaaGreatDoor
set_option maxHeartbeats 8000000
set_option maxRecDepth 100000
open Go renaming World→AH, Value→AN, TypeId→Ae
open Go.Proofs.Tryz
open Go.Value renaming pointer→AU
open Go.Obj renaming cells→AO
open Go.RowKit Go.Shelf
theorem g7 {x b:Int} (hb:FI b) (h:b≠0):wrap64 (x+b)≠x:=by unfold FI at hb;unfold wrap64;omega
theorem AHP {k:Nat} (h:k<=1000):IntKind.u64.wrap (k:Int)=k:=by simp only [IntKind.wrap,IntKind.bits,IntKind.signed,Bool.false_and,IU,He];omega
theorem AIm {a:Int} {n:Nat} (ha:0<=a) (hn:0 < n):∃k:Nat,k < n/\a.tmod (n:Int)=k:=by
 refine ⟨(a % (n:Int)).toNat,?_,?_⟩
 ·have h1:=Int.emod_nonneg a (show (n:Int)≠0 by omega)
  have h2:=Int.emod_lt_of_pos a (show (0:Int) < n by omega);omega
 · rw [Int.tmod_eq_emod_of_nonneg ha,Ul (Int.emod_nonneg a AG)]
theorem sT {ns:List Nat} {ck:Int} {val:Int->Int->Int->Bool} {r:Br} {q:EG} (h:DZ Aw ck (Ba ns r.schema) (val r.schema) r q=0):
 ck=0/\Kq (Ba ns r.schema) (val r.schema) r q=true/\q.schema=r.schema/\FS 0 (Ba ns q.schema) q [] 0=0/\DJ Aw 0 (Ba ns r.schema) (val r.schema) r (Hx ((Ba ns q.schema).getD 0) q [] 0)=0/\(5<=q.claims.length/\q.claims.length<=256):=by
 obtain ⟨h0,hok⟩:=QO h;subst h0;have hok2:=hok;rw [Fk] at hok2;obtain ⟨⟨⟨hf,_,hsc⟩,hp,hac⟩,hln,hcl⟩:=hok2;obtain ⟨x,hx,hp1,_,hp3⟩:=ME hf;have hm:=P0 hp1 (show (0:Int)<=(x:Int)+4+1 by omega);have hval:q.values.length=x:=by rw [hx] at hac;simp only [Ce,Dx,Bb,By] at hac;exact hac.1
 have ho:GI (some x) q [] 0=true:=by rw [hx] at hcl;simp only [GI,Bb,By];exact ⟨⟨⟨hval,hln⟩,hcl⟩,⟨rfl,by decide⟩,by decide⟩
 refine ⟨rfl,hok,hsc,?_,?_,by rw [hcl,hx];simp only [Ce];omega⟩
 ·rw [hsc,hx]
  unfold FS;rw [Ah AZ,Ak ho]
 rw [hsc,hx];rw [hx] at h;exact oP (n:=x) rfl h ho
theorem Ag.AJs {w:AH} {v:AN} {l:List (AQ)} (h:Ag 32 CP w v l):∀d∈l,d.length=32:=by obtain ⟨A,cap,_,_,_,h⟩:=h;intro d hd;obtain ⟨i,hi⟩:=Y9 hd;obtain ⟨_,_,cs,_,_,_,_,hr⟩:=h i d hi;exact hr.2
theorem ADY {q:EG} (h:∀d∈q.links,d.length=32) (n:Nat) (fs:AQ) (link:Int):(Hx n q fs link).token.length=32:=by
 exact AAf
theorem Ag.AHX {α:Type} {sz:Nat} {R:AH->List AN->α->Prop} (hC:Qg R) {w:AH} {v:AN} {l:List α} (h:Ag sz R w v l):Ag sz R (veil [] w) v l:=
 h.PT hC gW (fun a v hv=>by rw [Ke (Iy AZ)];exact hv)
structure Oo (w:AH) (T:Ae) (ZZ RR:Array AN) (a1 a2 a3 s1 s2 s3:Bool) (x1 x2 x3:AN) (W:AH):Prop where
 bel:AK w W
 p1:a1=true->∃g,x1=AU (some ⟨g,0,none⟩)/\w.heap.size<=g/\AY W g T (if s1 then RR else ZZ)
 p2:a2=true->∃g,x2=AU (some ⟨g,0,none⟩)/\w.heap.size<=g/\AY W g T (if s2 then RR else ZZ)
 p3:a3=true->∃g,x3=AU (some ⟨g,0,none⟩)/\w.heap.size<=g/\AY W g T (if s3 then RR else ZZ)
 d12:a1=true->a2=true->x1≠x2
 d13:a1=true->a3=true->x1≠x3
 d23:a2=true->a3=true->x2≠x3
 o1:s1=true->a1=true
 o2:s2=true->a2=true
 o3:s3=true->a3=true
section
variable {w W:AH} {T:Ae} {ZZ RR:Array AN} {a1 a2 a3 s1 s2 s3:Bool} {x1 x2 x3:AN}
theorem Oo.swap (h:Oo w T ZZ RR a1 a2 a3 s1 s2 s3 x1 x2 x3 W):Oo w T ZZ RR a2 a1 a3 s2 s1 s3 x2 x1 x3 W:=
 ⟨h.bel,h.p2,h.p1,h.p3,fun a b e=>h.d12 b a e.symm,h.d23,h.d13,h.o2,h.o1,h.o3⟩
theorem Oo.turn (h:Oo w T ZZ RR a1 a2 a3 s1 s2 s3 x1 x2 x3 W):Oo w T ZZ RR a3 a2 a1 s3 s2 s1 x3 x2 x1 W:=
 ⟨h.bel,h.p3,h.p2,h.p1,fun a b e=>h.d23 b a e.symm,fun a b e=>h.d13 b a e.symm,fun a b e=>h.d12 b a e.symm,h.o3,h.o2,h.o1⟩
theorem Oo.start (w:AH) (T:Ae) (ZZ RR:Array AN) (x1 x2 x3:AN):Oo w T ZZ RR false false false false false false x1 x2 x3 w.drew:=
 ⟨(Af _ _).drew,(fun h=>by cases h),(fun h=>by cases h),(fun h=>by cases h),(fun h=>by cases h),(fun h=>by cases h),(fun h=>by cases h),(fun h=>by cases h),(fun h=>by cases h),(fun h=>by cases h)⟩
theorem Oo.new (h:Oo w T ZZ RR false a2 a3 s1 s2 s3 x1 x2 x3 W):Oo w T ZZ RR true a2 a3 s1 s2 s3 (AU (some ⟨W.heap.size,0,none⟩)) x2 x3 (W.alloc (AO ZZ T)):=by
 have hs:s1=false:=by
  cases s1 with
  | false=>rfl
  | true=>exact absurd (h.o1 rfl) AZ
 have hne:∀{a:Bool} {s:Bool} {x:AN},(∃g,x=AU (some ⟨g,0,none⟩)/\w.heap.size<=g/\AY W g T (if s then RR else ZZ))->Value.pointer (some ⟨W.heap.size,0,none⟩)≠x:=fun {a s x} ⟨g,e,_,k⟩ hx=>by rw [e] at hx;injection hx with hx;injection hx with hx;injection hx with hx;have:=k.lt;omega
 exact ⟨h.bel.alloc h.bel.size _,fun _=>⟨_,rfl,h.bel.size,by rw [hs];exact AY.new _ _ _⟩,
  fun e=>let ⟨g,a,b,c⟩:=h.p2 e;⟨g,a,b,c.alloc _⟩,fun e=>let ⟨g,a,b,c⟩:=h.p3 e;⟨g,a,b,c.alloc _⟩,
  fun _ e=>hne (a:=true) (h.p2 e),fun _ e=>hne (a:=true) (h.p3 e),h.d23,fun _=>rfl,h.o2,h.o3⟩
theorem Oo.fill (h:Oo w T ZZ RR true a2 a3 false s2 s3 x1 x2 x3 W):∃g,x1=AU (some ⟨g,0,none⟩)/\AY W g T ZZ/\Oo w T ZZ RR true a2 a3 true s2 s3 x1 x2 x3 (W.setRow g RR):=by
 obtain ⟨g,e,hg,hb⟩:=h.p1 rfl;have hot:∀{s:Bool} {x:AN},x1≠x->(∃g,x=AU (some ⟨g,0,none⟩)/\w.heap.size<=g/\AY W g T (if s then RR else ZZ))->(∃g',x=AU (some ⟨g',0,none⟩)/\w.heap.size<=g'/\AY (W.setRow g RR) g' T (if s then RR else ZZ)):=fun {s x} hn ⟨g',e',k,b⟩=>
  ⟨g',e',k,(Gb W g g' RR (fun h=>hn (by rw [e,e',h]))).trans b⟩
 exact ⟨g,e,hb,below_setRow h.bel hg RR,fun _=>⟨g,e,hg,hb.row RR⟩,fun a=>hot (h.d12 rfl a) (h.p2 a),fun a=>hot (h.d13 rfl a) (h.p3 a),h.d12,h.d13,h.d23,fun _=>rfl,h.o2,h.o3⟩
end
section
variable {P:Program} {md:Region.Mode} {ops:Array Oper} {Q:Exit->Act->AH->Prop} {S:AH->Prop} {fuel:Nat} {l:List AN} {D:List Deferred} {w:AH}
theorem Oo.all {ZZ RR:Array AN} {T:Ae} {w0:AH} {g1 g2 g3:Nat} (h:Oo w0 T ZZ RR true true true true true true (AU (some ⟨g1,0,none⟩)) (AU (some ⟨g2,0,none⟩)) (AU (some ⟨g3,0,none⟩)) w):
 AK w0 w/\(w0.heap.size<=g1/\w0.heap.size<=g2/\w0.heap.size<=g3)/\AY w g1 T RR/\AY w g2 T RR/\AY w g3 T RR/\g1≠g2/\g1≠g3/\g2≠g3:=by
 obtain ⟨_,e1,a1,b1⟩:=h.p1 rfl;obtain ⟨_,e2,a2,b2⟩:=h.p2 rfl;obtain ⟨_,e3,a3,b3⟩:=h.p3 rfl;cases e1;cases e2;cases e3;exact ⟨h.bel,⟨a1,a2,a3⟩,b1,b2,b3,fun e=>h.d12 rfl rfl Kg,fun e=>h.d13 rfl rfl Kg,fun e=>h.d23 rfl rfl Kg⟩
theorem Om {W:AH} {g g' i:Nat} {T:Ae} {cs:Array AN} (h:AY W g T cs) (hne:g≠g') (v:AN):AY (W.setCell ⟨g',i,none⟩ v) g T cs:=(C5 W ⟨g',i,none⟩ v g hne).trans h
theorem OB {i:Nat} {o:Oper} (d:Nat) (T:Ae) {ZZ:Array AN} (hi:ops[i]? =some o) (hd:o.dst=some d) (hg:o.guard=none) (ho:o.op=.alloc T) (hz:(P.info? T).bind (·.zero)=some (.agg ZZ)) {K:Act->AH->Prop}
 (h:K ⟨(l.set d (AU (some ⟨w.heap.size,0,none⟩))).toArray,D⟩ (w.alloc (AO ZZ T))):wpOp P ops Q i K ⟨l.toArray,D⟩ w:=by
 obtain ⟨z,hi',hzi⟩:=ZH.1 hz;refine iC hi hg ?_;unfold Oper.wp execOp;simp [ho,Instr.alloc,zeroValue,typeInfo,hi',hzi,newVar,newRow,Value.cells];show K ((⟨l.toArray,D⟩:Act).put o.dst _) _;rw [hd,Lx];exact h
theorem AJy (i j k d e f:Nat) (T:Ae) {ZZ RR:Array AN} {L L3:Array Bool} {w0:AH} {x1 x2 x3:AN} (hde:d≠e) (hdf:d≠f) (hef:e≠f) (h0:Oo w0 T ZZ RR false false false false false false x1 x2 x3 w) (hS:∀W,AK w0 W->S W) (hz:(P.info? T).bind (·.zero)=some (.agg ZZ))
 (h:∀x1 x2 x3 W,Oo w0 T ZZ RR true true true false false false x1 x2 x3 W->wpAnyH P md ops Q S fuel L3 ⟨(((l.set d x1).set e x2).set f x3).toArray,D⟩ W) {o1 o2 o3:Oper}
 (r0:Region.ready md ops L=[i,j,k]:=by kernel_rfl) (r1:Region.ready md ops (L.setIfInBounds i true)=[j,k]:=by kernel_rfl) (r2:Region.ready md ops (L.setIfInBounds j true)=[i,k]:=by kernel_rfl) (r3:Region.ready md ops (L.setIfInBounds k true)=[i,j]:=by kernel_rfl)
 (r12:Region.ready md ops ((L.setIfInBounds i true).setIfInBounds j true)=[k]:=by kernel_rfl) (r13:Region.ready md ops ((L.setIfInBounds i true).setIfInBounds k true)=[j]:=by kernel_rfl) (r23:Region.ready md ops ((L.setIfInBounds j true).setIfInBounds k true)=[i]:=by kernel_rfl)
 (hc12:(L.setIfInBounds j true).setIfInBounds i true=(L.setIfInBounds i true).setIfInBounds j true:=by kernel_rfl) (hc13:(L.setIfInBounds k true).setIfInBounds i true=(L.setIfInBounds i true).setIfInBounds k true:=by kernel_rfl) (AKr:(L.setIfInBounds k true).setIfInBounds j true=(L.setIfInBounds j true).setIfInBounds k true:=by kernel_rfl)
 (e3:((L.setIfInBounds i true).setIfInBounds j true).setIfInBounds k true=L3:=by kernel_rfl) (e2:((L.setIfInBounds i true).setIfInBounds k true).setIfInBounds j true=L3:=by kernel_rfl) (e1:((L.setIfInBounds j true).setIfInBounds k true).setIfInBounds i true=L3:=by kernel_rfl)
 (a1:ops[i]? =some o1:=by rfl) (a2:ops[j]? =some o2:=by rfl) (a3:ops[k]? =some o3:=by rfl) (b1:o1.dst=some d:=by rfl) (b2:o2.dst=some e:=by rfl) (b3:o3.dst=some f:=by rfl) (g1:o1.guard=none:=by rfl) (g2:o2.guard=none:=by rfl) (g3:o3.guard=none:=by rfl) (p1:o1.op=.alloc T:=by rfl) (p2:o2.op=.alloc T:=by rfl) (p3:o3.op=.alloc T:=by rfl):
 wpAnyH P md ops Q S (fuel+1+1+1) L ⟨l.toArray,D⟩ w:=by
 have N1:∀{b c:Bool} {x y z:AN} {W:AH},Oo w0 T ZZ RR false b c false false false x y z W->S (W.alloc (AO ZZ T)):=fun h=>hS _ h.new.bel;refine wpAnyH_all r0 AZ fun q hq=> ?_;simp only [B0,DX,DW] at hq;rcases hq with rfl | rfl | rfl
 ·refine OB d T a1 b1 g1 p1 hz ⟨N1 h0,wpAnyH_all r1 AZ fun q hq=> ?_⟩
  have t1:=h0.new;simp only [B0,DX,DW] at hq;rcases hq with rfl | rfl
  ·have t2:=t1.swap.new.swap
   refine OB e T a2 b2 g2 p2 hz ⟨hS _ t2.bel,wpAnyH_all r12 AZ fun q hq=> ?_⟩;obtain rfl:q=k:=by simpa using hq
   exact AAC
  have t2:=t1.turn.new.turn;refine OB f T a3 b3 g3 p3 hz ⟨hS _ t2.bel,wpAnyH_all r13 AZ fun q hq=> ?_⟩;obtain rfl:q=j:=by simpa using hq
  exact AAQ
 ·have t1:=h0.swap.new.swap
  refine OB e T a2 b2 g2 p2 hz ⟨hS _ t1.bel,wpAnyH_all r2 AZ fun q hq=> ?_⟩;simp only [B0,DX,DW] at hq;rcases hq with rfl | rfl
  ·have t2:=t1.new
   refine OB d T a1 b1 g1 p1 hz ⟨hS _ t2.bel,?_⟩;rw [hc12,List.set_comm _ _ hde.symm];refine wpAnyH_all r12 AZ fun q hq=> ?_;obtain rfl:q=k:=by simpa using hq
   exact AAC
  have t2:=t1.turn.new.turn;refine OB f T a3 b3 g3 p3 hz ⟨hS _ t2.bel,wpAnyH_all r23 AZ fun q hq=> ?_⟩;obtain rfl:q=i:=by simpa using hq
  exact AAW
 have t1:=h0.turn.new.turn;refine OB f T a3 b3 g3 p3 hz ⟨hS _ t1.bel,wpAnyH_all r3 AZ fun q hq=> ?_⟩;simp only [B0,DX,DW] at hq;rcases hq with rfl | rfl
 ·have t2:=t1.new
  refine OB d T a1 b1 g1 p1 hz ⟨hS _ t2.bel,?_⟩;rw [hc13,List.set_comm _ _ hdf.symm];refine wpAnyH_all r13 AZ fun q hq=> ?_;obtain rfl:q=j:=by simpa using hq
  exact AAQ
 have t2:=t1.swap.new.swap;refine OB e T a2 b2 g2 p2 hz ⟨hS _ t2.bel,?_⟩;rw [AKr,List.set_comm _ _ hef.symm];refine wpAnyH_all r23 AZ fun q hq=> ?_;obtain rfl:q=i:=by simpa using hq
 exact AAW
end
theorem ADQ (r:Br) (x:Int):(rdA r).setIfInBounds 0 (.int .i64 x)=rdA {r with Ar:=x}:=by rw [rdA,Array.setIfInBounds_append_left AZ];rfl
theorem ADP (r:Br) (x:Int):(rdA r).setIfInBounds 1 (.int .i64 x)=rdA {r with no:=x}:=by rw [rdA,Array.setIfInBounds_append_left AZ];rfl
theorem ADO (r:Br) (x:Int):(rdA r).setIfInBounds 2 (.int .i64 x)=rdA {r with schema:=x}:=by rw [rdA,Array.setIfInBounds_append_left AZ];rfl
def o6:Br:=⟨0,0,0,0,0,0,zeros 32⟩
theorem wL:(prog.info? 36).bind (·.zero)=some (.agg (rdA o6)):=by kernel_rfl
theorem AGb (r:Br):(rdA r).all (·.oneCell')=true:=by rw [rdA,Array.all_append];simp only [Bb];exact ⟨by simp [Value.oneCell'],Kh _⟩
theorem AB5:(prog.info? 71).map (fun i=>(i.zero,i.size,i.bytes))=some (some (.agg #[.int .i64 0,.slice none 0 0,.slice none 0 0]),3,56):=by kernel_rfl
theorem sJ (W:AH):(Instr.buildSlice 44 0 #[]).run prog W=.ok (.slice (some ⟨W.heap.size,0,none⟩) 0 0) (W.alloc (AO #[] 71)):=by go_simp
theorem AL4 {P:Program} {o:Oper} {a:Act} {w w':AH} {K:Act->AH->Prop} {Q:Exit->Act->AH->Prop} {v:AN} (t:Ae) (ho:o.op=.buildSlice t 0 #[]) (h:(Instr.buildSlice t 0 #[]).run P w=.ok v w') (hk:K (a.put o.dst v) w'):o.wp P a w K Q:=by unfold Oper.wp execOp;simp only [ho,Cp,DL,Uj,NF,h,Result.andThen_ok];exact hk
end Go.Proofs.YtamhoilkpppdbaaGreatDoor
