import Derived.Test.YtamhoilkpppdbaaGreatDoorK01
import Derived.Deep.OwnRows
import Derived.RangeFuncNested
import Derived.RangeFuncBound
import Derived.Shelf.RegionOpen
import Derived.OwnWalkIn
import Derived.LoopNIn
import Derived.LoopIn
namespace Go.Proofs.YtamhoilkpppdbaaGreatDoor
set_option maxHeartbeats 8000000
set_option maxRecDepth 100000
open Go renaming World→AH, Value→AN, Calls→AS, TypeId→Af, Program→BA
open Go.Proofs.Tryz
open Go.Value renaming slice→AB, int→AE, pointer→AW, bool→Ab, tuple→BQ
open Go.IntKind renaming i64→AF
open Go.Ending renaming returned→AU
open Go.Obj renaming cells→AO
open Go.RowKit
def AHH (w:AH) (cs:List AN) (l:AQ):Prop:=∃A n c,cs=[AB A n c]/\Ag 1 iR w (AB A n c) l
theorem M6 {w:AH} {base:Nat} {v:AN} {n:Nat} {l:AQ} (h:w.ownsRow base 3 1 v n (l.map (Value.int .i64))):Ag 1 iR w v l:=by
 have hlen:l.length=n:=by have:=h.1;simpa using this
 rcases h.2 with ⟨rfl,h0⟩ | ⟨g,cap,cur,rfl,hg,hh,hn,hc,hsz,htk⟩
 ·have hl0:l=[]:=Ie AG
  subst hl0;exact Ag.nil _ _ Ah
 refine ⟨some ⟨g,0,none⟩,cap,by rw [hlen],by omega,hc,fun i x hi=>⟨g,0,[AE AF x],rfl,(C6.1 hh).1,rfl,fun j u hu=> ?_,rfl⟩⟩;have hj:j=0:=by
  rcases j with _ | j
  · rfl
  · simp at hu
 subst hj;simp at hu;subst hu;have hil:i < l.length:=(BD.1 hi).1;have:=h.cellAt i AG;rw [Bb,hi] at this;simpa using this
structure DI (w:AH) (base U n:Nat) (vs:List AN) (r:Nat->AQ):Prop where
 blk:AZ w U 30 vs.toArray
 len:vs.length=n
 ge:base<=U
 row:∀(x:Nat) (v:AN),vs[x]? =some v->w.ownsRow base 3 1 v (r x).length ((r x).map (Value.int .i64))/\v.ownBlock≠some U
 apart:∀(x y:Nat) (v u:AN) (b:Nat),vs[x]? =some v->vs[y]? =some u->v.ownBlock=some b->u.ownBlock=some b->x=y
theorem DI.alloc {w:AH} {base U n:Nat} {vs:List AN} {r:Nat->AQ} (h:DI w base U n vs r) (o:Obj):DI (w.alloc o) base U n vs r:=
 ⟨h.blk.alloc o,h.len,h.ge,fun x v hx=>⟨(h.row x v hx).1.alloc o,(h.row x v hx).2⟩,h.apart⟩
theorem DI.same {w w':AH} {base U n:Nat} {vs:List AN} {r:Nat->AQ} (h:DI w base U n vs r) (hb:∀(b:Nat) (cs:Array AN) (t:Af) (fz:Nat×Nat),w.heap[b]? =some (Obj.cells cs t fz)->w'.heap[b]? =w.heap[b]?):DI w' base U n vs r:=
 ⟨(
  hb _ _ _ _ h.blk).trans h.blk,h.len,h.ge,fun x v hx=>⟨by
  obtain ⟨h1,h2⟩:=(h.row x v hx).1;refine ⟨h1,?_⟩;rcases h2 with h2 | ⟨g,cap,cur,hv,hg,hh,rest⟩
  · exact .inl h2
  · exact .inr ⟨g,cap,cur,hv,hg,(hb _ _ _ _ hh).trans hh,rest⟩,(h.row x v hx).2⟩,h.apart⟩
def Tc (U:Nat) (vs:List AN) (b:Nat):Prop:=b=U\/∃(x:Nat) (v:AN),vs[x]? =some v/\v.ownBlock=some b
theorem DI.keep {w w':AH} {base U n:Nat} {vs:List AN} {r:Nat->AQ} (h:DI w base U n vs r) (hb:∀b,Tc U vs b->w'.heap[b]? =w.heap[b]?):DI w' base U n vs r:=
 ⟨(
  hb U (.inl rfl)).trans h.blk,h.len,h.ge,fun x v hx=>⟨by
  obtain ⟨h1,h2⟩:=(h.row x v hx).1;refine ⟨h1,?_⟩;rcases h2 with h2 | ⟨g,cap,cur,hv,hg,hh,rest⟩
  · exact .inl h2
  · exact .inr ⟨g,cap,cur,hv,hg,(hb g (.inr ⟨x,v,hx,by rw [hv];rfl⟩)).trans hh,rest⟩,(h.row x v hx).2⟩,h.apart⟩
theorem DI.lt {w:AH} {base U n:Nat} {vs:List AN} {r:Nat->AQ} (h:DI w base U n vs r) {b:Nat} (hb:Tc U vs b):base<=b/\b < w.heap.size:=by
 rcases hb with rfl | ⟨x,v,hx,hv⟩
 · exact ⟨h.ge,h.blk.lt⟩
 · exact (h.row x v hx).1.lt b hv
theorem DI.read {w:AH} {base U n:Nat} {vs:List AN} {r:Nat->AQ} (h:DI w base U n vs r) (hn:n<=maxLen):Ag 1 AHH w (AB (some ⟨U,0,none⟩) n n) ((List.range n).map r):=by
 refine ⟨some ⟨U,0,none⟩,n,by simp,by simp,hn,fun i x hi=> ?_⟩;have hil:i < n:=by have:=(BD.1 hi).1;simpa using this
 have hx:r i=x:=by rw [Bb,Lp hil] at hi;simpa using hi
 obtain ⟨v,hv⟩:∃v,vs[i]? =some v:=⟨vs[i]'(by have:=h.len;omega),BJ (by have:=h.len;omega)⟩;have hrow:=M6 (h.row i v hv).1;rw [hx] at hrow;obtain ⟨A,c,rfl⟩:=hrow.form;refine ⟨U,0,[AB A x.length c],rfl,h.blk.lt,rfl,fun j u hu=> ?_,A,_,c,rfl,hrow⟩;have hj:j=0:=by
  rcases j with _ | j
  · rfl
  · simp at hu
 subst hj;simp at hu;subst hu;have:=h.blk.cell i;rw [Ak,hv] at this;simpa using this
theorem DI.push {w w5:AH} {base U n:Nat} {vs:List AN} {r:Nat->AQ} (h:DI w base U n vs r) {x:Nat} {v v':AN} {z:Int} (o:Obj) (hx:vs[x]? =some v)
 (hown:w5.ownsRow base 3 1 v' ((r x).length+1) ((r x).map (Value.int .i64)++[AE AF z])) (hg:(w.alloc o).grownBy w5 v.ownBlock) (hat:v'.ownBlock=v.ownBlock\/v'.ownBlock=some (w.alloc o).heap.size):
 DI (w5.setCell ⟨U,x,none⟩ v') base U n (vs.set x v') (fun y=>if y=x then r x++[z] else r y):=by
 have hU:=h.blk.lt;have hUv:some U≠v.ownBlock:=fun e=>(h.row x v hx).2 e.symm;have AFu:v'.ownBlock≠some U:=by
  rcases hat with e | e
  · rw [e];exact (h.row x v hx).2
  rw [e];intro e2;injection e2 with e2;simp at e2;omega
 have hk5:AZ w5 U 30 vs.toArray:=(h.blk.alloc o).grown hg hUv;refine ⟨?_,by simpa using h.len,h.ge,?_,?_⟩
 ·have:=hk5.put x v'
  simpa using this
 ·intro y u hy
  by_cases e:y=x
  ·subst e
   have hyl:y < vs.length:=(BD.1 hx).1;rw [F9 hyl] at hy;injection hy with hy;subst hy;simp only [C5];refine ⟨PX ?_ (by simpa using AFu) _,AFu⟩;rw [CQ,DE];exact hown
  rw [JM (fun e2=>e e2.symm)] at hy;simp only [Ai e];obtain ⟨h1,h2⟩:=h.row y u hy;refine ⟨PX ((h1.alloc o).kept hg ?_) (by simpa using h2) _,h2⟩;cases hub:u.ownBlock with
  | none=>exact .inl rfl
  |
   some b=>
   refine .inr (fun e2=> ?_);exact e (h.apart y x u v b hy hx hub e2.symm)
 intro y1 y2 u1 u2 b hy1 hy2 hb1 hb2;have hlt:∀(y:Nat) (u:AN),vs[y]? =some u->u.ownBlock=some b->b < w.heap.size:=fun y u hy hb=>((h.row y u hy).1.lt b hb).2;have hxl:x < vs.length:=(BD.1 hx).1;by_cases e1:y1=x
 ·by_cases e2:y2=x
  · rw [e1,e2]
  exfalso;subst e1;rw [F9 hxl] at hy1;rw [JM (fun e=>e2 e.symm)] at hy2;injection hy1 with hy1;subst hy1;rcases hat with e | e
  · exact e2 (h.apart y2 y1 u2 v b hy2 hx hb2 (e ▸ hb1))
  rw [e] at hb1;injection hb1 with hb1;have:=hlt y2 u2 hy2 hb2;simp at hb1;omega
 rw [JM (fun e=>e1 e.symm)] at hy1;by_cases e2:y2=x
 ·exfalso
  subst e2;rw [F9 hxl] at hy2;injection hy2 with hy2;subst hy2;rcases hat with e | e
  · exact e1 (h.apart y1 y2 u1 v b hy1 hx hb1 (e ▸ hb2))
  rw [e] at hb2;injection hb2 with hb2;have:=hlt y1 u1 hy1 hb1;simp at hb2;omega
 rw [JM (fun e=>e2 e.symm)] at hy2;exact h.apart y1 y2 u1 u2 b hy1 hy2 hb1 hb2
theorem XG:∀(D F:AQ),D.Nodup->(∀x∈D,x∈F)->D.length<=F.length
 | [],_,_,_=>Av _
 |
  x::D,F,h,hs=>by
  have hx:=hs x N7;have h2:=Q6.1 h;have:=XG D (F.erase x) h2.2 (fun y hy=>by have hne:y≠x:=fun e=>h2.1 (e ▸ hy);exact (List.mem_erase_of_ne hne).2 (hs y (Mu _ hy)))
  have hl:=List.length_erase_of_mem hx;have hpos:0 < F.length:=List.length_pos_of_mem hx;exact bE
theorem oW {l:AQ} {x:Int} (h:l.Nodup):(FF l x).Nodup:=by
 unfold FF;split
 · exact h
 · next hx=>exact YO.2 ⟨h,by simp,fun a ha b hb e=>by simp at hb;subst hb;subst e;exact hx ha⟩
theorem WI:∀(xs l:AQ),l.Nodup->(xs.foldl FF l).Nodup
 | [],_,h=>h
 | _::xs,_,h=>WI xs _ (oW h)
theorem XH (rs:List Ce) (x:Int):(Ba rs x).Nodup:=by
 have:∀(rs:List Ce) (l:AQ),l.Nodup->(rs.foldl (fun l r=>if r.schema=x then uy l r else l) l).Nodup:=by
  intro rs
  induction rs with
  | nil=>intro l h;exact h
  |
   cons r rs ih=>
   intro l h;simp only [YI];apply ih;split
   · exact WI _ _ h
   · exact h
 exact this rs [] List.nodup_nil
structure Mf (w:AH) (r bm:Nat) (F D:AQ):Prop where
 ex:∃es clock seen,w.heap[r]? =some (.mapIter (some bm) clock seen clock)/\w.heap[bm]? =some (.map es clock)/\es.toList.map (fun e=>(e.key,e.val))=(Ep F).map (fun p=>(Value.int .i64 p.1,Value.bool p.2))/\
  (es.toList.map (·.born)).Nodup/\(∀x∈es.toList,x.born < clock)/\(∀e∈es.toList,∀y,e.key=AE AF y->(seen.contains e.born=true↔y∈D))
 nodup:D.Nodup
 sub:∀x∈D,x∈F
theorem Mf.kept {w w':AH} {r bm:Nat} {F D:AQ} (h:Mf w r bm F D) (h1:w'.heap[r]? =w.heap[r]?) (h2:w'.heap[bm]? =w.heap[bm]?):Mf w' r bm F D:=by obtain ⟨⟨es,clock,seen,k1,k2,k3⟩,h4,h5⟩:=h;exact ⟨⟨es,clock,seen,h1.trans k1,h2.trans k2,k3⟩,h4,h5⟩
theorem Mf.start {w:AH} {bm:Nat} {F:AQ} {P:BA} {t kt et:Af} (h:KU (Value.int .i64) Value.bool w bm (Ep F)) (ht:P.underlying t=some (.map kt et)):
 ∃clock,(Instr.range t (.map (some bm))).run P w=.ok (AW (some ⟨w.heap.size,0,none⟩)) (w.alloc (.mapIter (some bm) clock #[] clock))/\Mf (w.alloc (.mapIter (some bm) clock #[] clock)) w.heap.size bm F []:=by
 have hlt:=h.lt;obtain ⟨es,clock,h1,h2,h3,h4⟩:=h;refine ⟨clock,run_range_map w t kt et bm es clock ht h1,⟨es,clock,#[],heap_alloc_new _ _,(heap_alloc_old w _ hlt).trans h1,h2,h3,h4,fun e he y hy=>by simp⟩,List.nodup_nil,fun x hx=>by simp at hx⟩
theorem Mf.step {w:AH} {r bm:Nat} {F D:AQ} {P:BA} (h:Mf w r bm F D) (hF:F.Nodup) (ty:Af):
 ((∀y∈F,y∈D)/\(Instr.next (AW (some ⟨r,0,none⟩)) false ty).run P w=.ok (BQ #[Ab false]) w)\/
 ∃y w1,y∈F/\y∉D/\(Instr.next (AW (some ⟨r,0,none⟩)) false ty).run P w=.ok (BQ #[Ab true,AE AF y,Ab true]) w1/\w.grownBy w1 (some r)/\
  (Instr.entry (AW (some ⟨r,0,none⟩))).run P w1=.ok (BQ #[AE AF y,Ab true]) w1/\Mf w1 r bm F (y::D):=by
 obtain ⟨⟨es,clock,seen,k1,k2,k3,k4,k5,k6⟩,hnd,hsub⟩:=h;have hne:r≠bm:=by rintro rfl;rw [k1] at k2;injection k2 with k2;cases k2
 have hkey:∀e∈es.toList,∃y,y∈F/\e.key=AE AF y/\e.val=Ab true:=by
  intro e he;have:(e.key,e.val)∈(Ep F).map (fun p=>(Value.int .i64 p.1,Value.bool p.2)):=by rw [<-k3];exact YS he
  obtain ⟨p,hp,hpe⟩:=Dd.1 this;obtain ⟨y,hy,rfl⟩:=Dd.1 hp;simp only [F7] at hpe;exact ⟨y,hy,hpe.1.symm,hpe.2.symm⟩
 have hkeys:(es.toList.map (·.key)).Nodup:=by
  have:es.toList.map (·.key)=F.map (Value.int .i64):=by have:=congrArg (List.map (·.1)) k3;simpa [Ep,List.map_map,Function.comp_def] using this
  rw [this];have hin:∀(l:AQ),l.Nodup->(l.map (Value.int .i64)).Nodup:=by
   intro l
   induction l with
   | nil=>intro _;simp
   |
    cons a l ih=>
    intro hl;have h2:=Q6.1 hl;simp only [Fe];exact Q6.2 ⟨fun hm=>by obtain ⟨b,hb,e⟩:=Dd.1 hm;injection e with _ e;exact h2.1 (e ▸ hb),ih h2.2⟩
  exact hin F hF
 have hex:∀y∈F,∃e∈es.toList,e.key=AE AF y:=by
  intro y hy;have:(Value.int .i64 y,Value.bool true)∈es.toList.map (fun e=>(e.key,e.val)):=by rw [k3];exact Dd.2 ⟨(y,true),Dd.2 ⟨y,hy,rfl⟩,rfl⟩
  obtain ⟨e,he,hee⟩:=Dd.1 this;simp only [F7] at hee;exact ⟨e,he,hee.1⟩
 rcases run_next_at (P:=P) w ty r bm clock clock seen es clock k1 k2 k5 (Ac _) with ⟨hl,hrun⟩ | ⟨e,he,w1,hw1,hrun⟩
 ·refine .inl ⟨fun y hy=> ?_,hrun⟩
  obtain ⟨e,he,hek⟩:=hex y hy;refine (k6 e he y hek).1 ?_;cases hc:seen.contains e.born with
  | true=>rfl
  |
   false=>
   exfalso;have hm:e∈(leftOf es seen).toList:=by unfold leftOf;simp only [Array.toList_filter,List.mem_filter,hc,Bool.not_false,and_true];exact he
   have hz:(leftOf es seen).toList.length=0:=by simpa using hl
   have:=List.length_pos_of_mem hm;omega
 have hes:e∈es.toList/\seen.contains e.born=false:=by unfold leftOf at he;simp only [Array.toList_filter,List.mem_filter,Bool.not_eq_true'] at he;exact he
 obtain ⟨y,hy,hek,hev⟩:=hkey e hes.1;rw [hek,hev] at hrun;have nK:y∉D:=fun hd=>by have:=(k6 e hes.1 y hek).2 hd;rw [hes.2] at this;cases this
 have AHT:w1.heap[r]? =some (.mapIter (some bm) clock seen clock):=by rcases hw1 with rfl | rfl <;> exact k1
 have AHU:w1.heap[bm]? =some (.map es clock):=by rcases hw1 with rfl | rfl <;> exact k2
 have hset:=Go.MapKept.heap_set (o':=.mapIter (some bm) clock (seen.push e.born) clock) AHT;have hr2:(Go.ChangeMaps.setBlock w1 r (.mapIter (some bm) clock (seen.push e.born) clock)).heap[r]? =some (.mapIter (some bm) clock (seen.push e.born) clock):=hset.1;have hm2:(Go.ChangeMaps.setBlock w1 r (.mapIter (some bm) clock (seen.push e.born) clock)).heap[bm]? =some (.map es clock):=(hset.2 bm (fun e=>hne e.symm)).trans AHU;refine .inr ⟨y,_,hy,nK,hrun,?_,?_,⟨⟨es,clock,seen.push e.born,hr2,hm2,k3,k4,k5,fun e2 he2 z hz=> ?_⟩,Q6.2 ⟨nK,hnd⟩,fun x hx=> ?_⟩⟩
 ·have hg1:w.grownBy w1 (some r):=by rcases hw1 with rfl | rfl <;> exact ⟨rfl,rfl,rfl,Ac _,fun _ _ _=>rfl⟩
  exact ⟨hg1.os,hg1.tape,hg1.output,by simpa [Go.ChangeMaps.setBlock] using hg1.size,fun i hi hn=>(hset.2 i (fun e=>hn M0)).trans (hg1.block i hi hn)⟩
 ·have:=run_entry_at (P:=P) _ r bm clock seen es clock e hr2 hm2 hes.1 k4
  rw [hek,hev] at this;exact this
 ·have hiff:e2.born=e.born↔z=y:=by
   constructor
   ·intro hb
    have:e2=e:=QR k4 he2 hes.1 hb;subst this;rw [hek] at hz;injection hz with _ hz;exact hz.symm
   rintro rfl;have:e2=e:=QR hkeys he2 hes.1 (hz.trans hek.symm);rw [this]
  rw [Array.contains_push];simp only [YH,beq_iff_eq,CJ,k6 e2 he2 z hz,hiff];exact Or.comm
 rcases CJ.1 hx with rfl | hx
 · exact hy
 · exact hsub x hx
theorem ABq:(prog.info? 30).map (fun i=>(i.zero,i.size,i.bytes))=some (some (AB none 0 0),1,24):=by kernel_rfl
theorem WC (z:AN) (n:Nat):madeCells #[z] n=(List.replicate n z).toArray:=by
 apply Array.ext
 · simp [madeCells]
 intro i h1 h2;simp [madeCells,Nat.mod_one]
theorem Wi (rs:List Ce) (k:Nat) (x:Int):Bf rs (k+1) x=if x∈Ba rs k then Bf rs k x++[(k:Int)] else Bf rs k x:=by
 unfold Bf;rw [PW,DE,List.filter_append];by_cases h:x∈Ba rs k
 · rw [Ao h];simp [h]
 · rw [Ai h];simp [h]
theorem TN (rs:List Ce) (k:Nat) (x:Int):(Bf rs k x).length<=k:=by unfold Bf;refine BH (List.length_filter_le _ _) ?_;simp
theorem mT {w:AH} {base:Nat} {e:Af} {sz:Nat} {v:AN} {n:Nat} {xs:List AN} (h:w.ownsRow base e sz v n xs) {g:Nat} (hg:v.ownBlock=some g):∃cur,w.heap[g]? =some (Obj.cells cur e (0,0)):=by
 rcases h.2 with ⟨rfl,_⟩ | ⟨g',cap,cur,rfl,_,hh,_⟩
 · cases hg
 simp only [Value.ownBlock,Bu] at hg;subst hg;exact ⟨cur,hh⟩
theorem iL (base M n:Nat) (hs:List (Int×Nat)) (rs:List Ce) (w:AH) (hG:FU w base M hs (Ba rs)) (hin:∀h y,y∈Ba rs h->0<=y/\y < n) (hn:n<=1000):
 AS prog 183 #[.agg #[AE AF n,.map (some M)]] w fun e w'=>∃(U:Nat) (us:List AN),e=AU (AB (some ⟨U,0,none⟩) n n)/\DI w' (w.heap.size+1) U n us (fun x:Nat=>Bf rs n x)/\AK w w':=by
 have HG:=AA hG;have Qo:=AA hin;clear hG hin;have hmk:=run_make_row' (P:=prog) 300 30 (AB none 0 0) 24 underlying300 ABq rfl .i64 .i64 n AG AG;rw [WC] at hmk;go_enter func183,ntmps183;go_wp2_with fail;obtain ⟨wb,hwb⟩:=Ad ((w.alloc (AO #[AE AF n,.map (some M)] 214)).alloc (AO (Array.replicate n (AB none 0 0)) 30));rw [<-hwb];have hbb:AK w wb:=by rw [hwb];exact (BE _ _).alloc AX _
 have kA:AZ wb w.heap.size 214 #[AE AF n,.map (some M)]:=by rw [hwb];exact (AZ.new _ _ _).alloc _
 obtain ⟨U,hU⟩:=Ad (w.heap.size+1);have kU:DI wb (w.heap.size+1) U n (List.replicate n (AB none 0 0)) (fun x=>Bf rs 0 x):=by
  refine ⟨?_,by simp,by omega,?_,?_⟩
  ·rw [hwb,hU,List.toArray_replicate]
   exact DY AX
  ·intro x v hx
   have:v=AB none 0 0:=by
    rw [YX] at hx;split at hx
    · injection hx with hx;exact hx.symm
    · cases hx
   subst this;exact ⟨Ev _ _ _ _,by simp [Value.ownBlock]⟩
  intro x y v u b hx hy hb;have:v=AB none 0 0:=by
   rw [YX] at hx;split at hx
   · injection hx with hx;exact hx.symm
   · cases hx
  subst this;simp [Value.ownBlock] at hb
 rw [<-hU];have BG:=AA hbb;have Zo:=AA kA;have dk:=AA kU;have AJU:w.heap.size < U:=AG
 obtain ⟨ga,hga⟩:=Ad w.heap.size;clear hwb hbb kA kU hU hmk;go_loopg [11] n (fun q i wr=>∃(k:Nat) (vs:List AN),k<=n/\q=n - k/\i=AE AF k/\DI wr (w.heap.size+1) U n vs (fun x=>Bf rs k x)/\AZ wr w.heap.size 214 #[AE AF n,.map (some M)]/\AK w wr)
 case atStart=>exact ⟨0,_,Av _,rfl,rfl,dk.o,Zo.o,BG.o⟩
 clear dk Zo BG;obtain ⟨k,vs,hk,hq,rfl,hr,hka,hb⟩:=hrel;have HQ:=AA hq;have HR:=AA hr;have HK:=AA hka;have HB:=AA hb;clear hq hr hka hb;by_cases hlt:k < n
 case neg=>
  have hkn:k=n:=AG
  subst hkn;go_wp2_with fail;go_ret;exact ⟨U,vs,rfl,HR.o,HB.o⟩
 have hkn:(k:Int) < (n:Int):=AG
 have b0:=HK.o.cell 0;have b1:=HK.o.cell 1;have lb:=HK.o.lt;simp only [Ak,Al,Az] at b0 b1;have HG2:=AA (HG.o.below HB.o);have hlook:=C8 (GI underlying3) underlying212 (z:=.map none) AJ HG2.o.o (k:Int) false;by_cases hin:(k:Int)∈hs.map (·.1)
 case neg=>
  rw [getM_none.2 hin] at hlook;simp only [JJ,Jj,Gu,F5] at hlook;have HE:AI ((fun x:Nat=>Bf rs (k+1) x)=fun x:Nat=>Bf rs k x):=AA (by funext x;rw [Wi,HG.o.rest _ hin];simp)
  have hrange:=run_range_nilMap (P:=prog) wr 209 _ _ underlying209;have hnext:=run_next_nilMap (P:=prog) wr 0 0 0 #[];have HNX:=AA hnext;clear hnext;go_wp2_with fail;clear hrange hlook;obtain ⟨wi,hwi⟩:=Ad (wr.alloc (.mapIter none 0 #[] 0));have HRI:AI (DI wi (w.heap.size+1) U n vs (fun x:Nat=>Bf rs (k+1) x)):=AA (by rw [HE.o,hwi];exact HR.o.alloc _);have HKI:AI (AZ wi w.heap.size 214 #[AE AF n,.map (some M)]):=AA (by rw [hwi];exact HK.o.alloc _);have HBI:AI (AK w wi):=AA rV;have HNI:AI ((Instr.next (AW (some ⟨wr.heap.size,0,none⟩)) false 0).run prog wi=.ok (BQ #[Ab false]) wi):=AA (by rw [hwi];exact HNX.o);rw [<-hwi];clear hwi;obtain ⟨wy,rfl⟩:=Ad wr;go_loopg [19] 0 (fun _ _ wx=>wx=wi)
  case atStart=>rfl
  obtain rfl:=hrel;have hnext:=HNI.o;go_wp2_with fail;go_roundg (n - (k+1))
  case measure=>exact BS
  case rel=>exact ⟨k+1,vs,by omega,rfl,by go_num,HRI.o,HKI.o,HBI.o⟩
 obtain ⟨hb,hhb⟩:∃hb,getM hs (k:Int)=some hb:=by
  cases h:getM hs (k:Int) with
  | none=>exact absurd hin (getM_none.1 h)
  | some v=>exact ⟨v,rfl⟩
 rw [hhb] at hlook;simp only [Cl,Cc,Gu,F5] at hlook;obtain ⟨_,_,hmt⟩:=HG2.o.ins _ (Ry hhb);obtain ⟨F,hF⟩:∃F,Ba rs (k:Int)=F:=⟨_,rfl⟩;have HF:=AA hF;simp only [hF] at hmt;have hFn:F.Nodup:=by rw [<-hF];exact XH _ _
 have Li:=AA hFn;obtain ⟨clock,hrange,hrd⟩:=Mf.start (P:=prog) hmt underlying209;have HRD:=AA hrd;have hbl:hb < wr.heap.size:=hmt.lt;have HHN:AI (∀cs t fz,wr.heap[hb]? ≠some (Obj.cells cs t fz)):=AA (by obtain ⟨es,cl,h1,_⟩:=hmt;intro cs t fz h2;rw [h1] at h2;injection h2 with h2;cases h2)
 clear hF hFn hmt hrd hhb hin;go_wp2_with fail;clear hrange hlook b0 b1;obtain ⟨wi,hwi⟩:=Ad (wr.alloc (.mapIter (some hb) clock #[] clock));have HRI:AI (DI wi (w.heap.size+1) U n vs (fun x:Nat=>if (x:Int)∈([]:AQ) then Bf rs k x++[(k:Int)] else Bf rs k x)):=AA (by rw [hwi];have:=HR.o.alloc (.mapIter (some hb) clock #[] clock);simpa using this)
 have HKI:AI (AZ wi w.heap.size 214 #[AE AF n,.map (some M)]):=AA (by rw [hwi];exact HK.o.alloc _);have HBI:AI (AK w wi):=AA rV;have HDI:AI (Mf wi wr.heap.size hb F []):=AA (by rw [hwi];exact HRD.o);rw [<-hwi];clear hwi;obtain ⟨wy,rfl⟩:=Ad wr;go_loopg [19] F.length (fun q _ wx=>∃(D:AQ) (us:List AN),q=F.length - D.length/\Mf wx wy.heap.size hb F D/\DI wx (w.heap.size+1) U n us (fun x:Nat=>if (x:Int)∈D then Bf rs k x++[(k:Int)] else Bf rs k x)/\AZ wx w.heap.size 214 #[AE AF n,.map (some M)]/\AK w wx)
 case atStart=>exact ⟨[],vs,rfl,HDI.o,HRI.o,HKI.o,HBI.o⟩
 clear HDI HRI HKI HBI;obtain ⟨D,us,hq,hd,hr,hka,hb2⟩:=hrel;have Io:=AA hq;have HR2:=AA hr;have JG:=AA hka;have HB2:=AA hb2;have HRK:AI (wy.heap.size < wr.heap.size/\∀cs t fz,wr.heap[wy.heap.size]? ≠some (Obj.cells cs t fz)):=AA (by obtain ⟨es,cl,seen,h1,_⟩:=hd.ex;refine ⟨(C6.1 h1).1,fun cs t fz h2=> ?_⟩;rw [h1] at h2;injection h2 with h2;cases h2)
 have PH:AI (hb < wr.heap.size/\hb≠wy.heap.size/\∀cs t fz,wr.heap[hb]? ≠some (Obj.cells cs t fz)):=AA (by
  obtain ⟨es,cl,seen,h0,h1,_⟩:=hd.ex;refine ⟨(C6.1 h1).1,fun e=> ?_,fun cs t fz h2=> ?_⟩
  ·rw [e,h0] at h1
   injection h1 with h1;cases h1
  rw [h1] at h2;injection h2 with h2;cases h2)
 have hdn:=hd.nodup;have hds:=hd.sub;rcases hd.step (P:=prog) Li.o 0 with ⟨hall,hnext⟩ | ⟨y,w1,hyF,nK,hnext,hg1,AFm,hd1⟩
 ·have HE:AI ((fun x:Nat=>Bf rs (k+1) x)=fun x:Nat=>if (x:Int)∈D then Bf rs k x++[(k:Int)] else Bf rs k x):=AA (by
   funext x;rw [Wi,HF.o];by_cases h:(x:Int)∈F
   · rw [Ao h,Ao (hall _ h)]
   · rw [Ai h,Ai (fun h2=>h (hds _ h2))])
  clear hq hd hr hka hb2 hall hdn hds;go_wp2_with fail;go_roundg (n - (k+1))
  case measure=>exact BS
  case rel=>exact ⟨k+1,us,by omega,rfl,by go_num,by rw [HE.o];exact HR2.o,JG.o,HB2.o⟩
 have hy:=Qo.o k y (by rw [HF.o];exact hyF);obtain ⟨x,rfl⟩:∃x:Nat,y=x:=⟨y.toNat,by omega⟩;have hxn:x < n:=AG
 have hlen:=XG (x::D) F (Q6.2 ⟨nK,hdn⟩) (fun z hz=>by
  rcases CJ.1 hz with rfl | hz
  · exact hyF
  · exact hds _ hz)
 have HLEN:AI (D.length < F.length):=AA (by simp only [Gw] at hlen;omega);clear hq hd hr hka hb2 hdn hds hlen hyF hy;have hR1:DI w1 (w.heap.size+1) U n us (fun x:Nat=>if (x:Int)∈D then Bf rs k x++[(k:Int)] else Bf rs k x):=HR2.o.same (fun b cs t fz h=>hg1.block b (C6.1 h).1 (fun e=>by injection e with e;subst e;exact HRK.o.2 _ _ _ h))
 have hK1:AZ w1 w.heap.size 214 #[AE AF n,.map (some M)]:=JG.o.grown hg1 (fun e=>by injection e with e;omega);have HB1:AI (AK w w1):=AA (HB2.o.grown hg1 HB2.o.size (fun r e=>by cases e;omega));have AGP:AI (wy.heap.size < w1.heap.size/\∀cs t fz,w1.heap[wy.heap.size]? ≠some (Obj.cells cs t fz)):=AA (by obtain ⟨es,cl,seen,h1,_⟩:=hd1.ex;refine ⟨(C6.1 h1).1,fun cs t fz h2=> ?_⟩;rw [h1] at h2;injection h2 with h2;cases h2)
 have AGZ:AI (hb < w1.heap.size/\∀cs t fz,w1.heap[hb]? ≠some (Obj.cells cs t fz)):=AA (by have h1:=hg1.block hb PH.o.1 (fun e=>by injection e with e;exact PH.o.2.1 e);refine ⟨Au PH.o.1 hg1.size,fun cs t fz h2=> ?_⟩;rw [h1] at h2;exact PH.o.2.2 _ _ _ h2)
 have hxl:x < us.length:=by rw [hR1.len];exact hxn
 obtain ⟨v,hv⟩:∃v,us[x]? =some v:=⟨_,BJ hxl⟩;have hown:=(hR1.row x v hv).1;simp only [Ai nK] at hown;have hcell:=hR1.blk.cell x;rw [Ak,hv] at hcell;have hvf:∃A m c,v=AB A m c:=by
  rcases hown.2 with ⟨rfl,_⟩ | ⟨g,cap,cur,rfl,_⟩
  · exact NS
  · exact NS
 obtain ⟨A,m,c,rfl⟩:=hvf;have cp:=TN rs k x;have hUv:some U≠(Value.slice A m c).ownBlock:=fun e=>(hR1.row x _ hv).2 e.symm;obtain ⟨i0,hi,hz0,hz1,hz2⟩:=Kh Vj;have HI:=AA hi;have HZ:=AA (And.intro hz0 (And.intro hz1 hz2));have HR1:=AA hR1;have pK:=AA hK1;have wY:=AA hown;have HUV:=AA hUv;have HV:=AA hv;have HD1:=AA hd1;have HYD:=AA nK;have hx0:(0:Int)<=(x:Int):=AG
 have hx1:(x:Int) < (n:Int):=AG
 have lU:=hR1.blk.lt;have hs1:w.heap.size < w1.heap.size:=hK1.lt;clear hg1 hR1 hK1 hown hUv hi hz0 hz1 hz2 hd1 nK hv hxl;go_wp2_with (at_builtin;refine wpList_append_own_at _ rfl (.tmp 28) (.tmp 30) 30 rfl (w.heap.size+1) 3 i0 (AE AF 0) 1 8 underlying30 HI.o HZ.o.1 HZ.o.2.1 HZ.o.2.2 rfl Ah (AB A m c) (Bf rs k x).length _ rfl (wY.o.alloc _) ⟨w1.heap.size,0,none⟩ 1 1 [AE AF k] rfl rfl (cell_one_new _ _ _) N9 FN AG BN ?_;intro v' w5 hown' hgrow _ hat;obtain ⟨g',cap',rfl⟩:=Joins.ownsRow_form hown' AG;have k5:AZ w5 U 30 us.toArray:=(HR1.o.blk.alloc _).grown hgrow HUV.o;have f5:=k5.frozen x;have c5:=k5.cell x;rw [Ak,HV.o] at c5;have HOW:=AA hown';have GU:=AA hgrow;have HAT:=AA hat;have TF:=AA k5;clear hown' hgrow hat k5);have HP:=AA (HR1.o.push (AO #[AE AF k] 3) (z:=(k:Int)) HV.o (by simp only [Ai HYD.o];exact HOW.o) GU.o HAT.o);have HNC:AI (∀b,b < w1.heap.size->(∀cs t fz,w1.heap[b]? ≠some (Obj.cells cs t fz))->(w5.setCell ⟨U,x,none⟩ (AB (some ⟨g',0,none⟩) ((Bf rs k x).length+1) cap')).heap[b]? =w1.heap[b]?):=AA (fun b hb1 hnc=>by
  refine (D6 _ _ _ b (fun e=> ?_)).trans ((GU.o.block b BN (fun e=> ?_)).trans (Kk w1 _ b hb1))
  · subst e;exact hnc _ _ _ HR1.o.blk
  obtain ⟨cur,hc⟩:=mT wY.o e.symm;exact hnc _ _ _ hc)
 have AIN:=AA (HD1.o.kept (HNC.o _ AGP.o.1 AGP.o.2) (HNC.o _ AGZ.o.1 AGZ.o.2));have HK6:AI (AZ (w5.setCell ⟨U,x,none⟩ (AB (some ⟨g',0,none⟩) ((Bf rs k x).length+1) cap')) w.heap.size 214 #[AE AF n,.map (some M)]):=AA (((pK.o.alloc _).grown GU.o (fun e=>by have:=(wY.o.lt _ e.symm).1;omega)).far BN _);have Fu:AI (AK w (w5.setCell ⟨U,x,none⟩ (AB (some ⟨g',0,none⟩) ((Bf rs k x).length+1) cap'))):=AA (by have h5:AK w w5:=(HB1.o.alloc HB1.o.size (AO #[AE AF k] 3)).grown GU.o BN (fun r e=>by have:=(wY.o.lt r e).1;omega);exact h5.setCell (show w.heap.size<=U by omega) _)
 have HE:AI ((fun y:Nat=>if y=x then (if (x:Int)∈D then Bf rs k x++[(k:Int)] else Bf rs k x)++[(k:Int)] else (if (y:Int)∈D then Bf rs k y++[(k:Int)] else Bf rs k y))=fun y:Nat=>if (y:Int)∈((x:Int)::D) then Bf rs k y++[(k:Int)] else Bf rs k y):=AA (by
  funext y;by_cases e:y=x
  ·subst e
   rw [Ao rfl,Ai HYD.o,Ao N7]
  have e2:¬(y:Int)=(x:Int):=AG
  rw [Ai e];by_cases h:(y:Int)∈D
  · rw [Ao h,Ao (Mu _ h)]
  · rw [Ai h,Ai (fun h2=>by rcases CJ.1 h2 with h2 | h2;exact e2 h2;exact h h2)])
 clear hnext AFm hcell f5 c5;go_wp2_with fail;go_roundg (F.length - (D.length+1))
 case measure=>have:=Io.o;have:=HLEN.o;omega
 case rel=>exact ⟨(x:Int)::D,_,by simp,AIN.o,by rw [<-HE.o];exact HP.o,HK6.o,Fu.o⟩
structure KpC (n₀ B B2:Nat) (W W':AH):Prop where
 size:W.heap.size<=W'.heap.size
 block:∀b,(b < n₀\/B<=b)->b < W.heap.size->some b≠Dx B2 W->W'.heap[b]? =W.heap[b]?
 pt:Dx B2 W'=Dx B2 W\/∃b,Dx B2 W'=some b/\W.heap.size<=b
 lt:∀b,Dx B2 W'=some b->b < W'.heap.size
structure Off (B B2:Nat) (A C:AH):Prop where
 os:C.os=A.os
 tape:C.tape=A.tape
 output:C.output=A.output
 size:A.heap.size<=C.heap.size
 block:∀b,b < A.heap.size->(b < B\/some b=Dx B2 A)->C.heap[b]? =A.heap[b]?
theorem Off.LS {B B2:Nat} {A C:AH} {row:Option Nat} (hg:A.grownBy C row) (hr:∀r,row=some r->B<=r/\some r≠Dx B2 A):Off B B2 A C:=
 ⟨hg.os,hg.tape,hg.output,hg.size,fun b hb h=>hg.block b hb (fun e=>by
  obtain ⟨h1,h2⟩:=hr b e.symm;rcases h with h | h
  · omega
  · exact h2 h)⟩
def AbC {α:Type} (B B2:Nat) (J:List α->AH->Prop):Prop:=∀s A C,J s A->Off B B2 A C->J s C
def AGC {α:Type} (F:Fence) (n:Nat) (P:BA) (g:Nat) (lb:Array AN) (encs:α->Array AN) (n₀ B2:Nat) (S:List α->Prop) (N:Nat) (w:AH):Prop:=
 ∀(l:Nat) (J:List α->AH->Prop) (W:AH),AK w W->(∀b,Dx B2 W=some b->n₀<=b/\b < W.heap.size)->AbC W.heap.size B2 J->
  (∀pre x W1,J pre W1->pre.length < N->YieldAt F (n - 1) P l (encs x) W1 fun e W'=>e=AU (Ab true)/\J (pre++[x]) W'/\KpC n₀ W.heap.size B2 W1 W')->
  J [] W->
  CallsIn F n P g (#[.func (.yield l) #[] #[]]++lb) W fun e W'=>(∃v,e=AU v)/\∃xs,S xs/\J xs W'
theorem VZ {B2 l:Nat} {W:AH} {o:Obj} (h:l≠B2):Dx B2 (W.putObj l o)=Dx B2 W:=by unfold Dx World.cell?;rw [World.putObj_heap_other (fun e=>h e.symm)]
theorem Zu {F:Fence} {n:Nat} {P:BA} {α:Type} {g:Operand} {ps:Array Tmp} {assign body:Code} {Q:Exit->Act->AH->Prop} {a:Act} {w:AH}
 (hro:F.round=none) (h1:1<=n) {gf:Nat} {lb:Array AN} (hg:a.eval g=.func (.func gf) #[] lb) (hFg:F.fn gf) (eg:∀args w,(callFunc gf args).run P w=.ok (.enter gf args) w)
 {encs:α->Array AN} {n₀ B2:Nat} {S:List α->Prop} {N:Nat} (hseq:AGC F (n - 1) P gf lb encs n₀ B2 S N w)
 (hps:∀x,(encs x).size=ps.size) (hn₀:n₀<=w.heap.size) (hB2:B2 < w.heap.size)
 (I:List α->AH->Prop) (hI:AbC w.heap.size B2 I) (hpt:∀pre W,I pre W->∀b,Dx B2 W=some b->n₀<=b/\∃cs t fz,W.heap[b]? =some (Obj.cells cs t fz)) (h0:I [] w) (a₁:α->Act)
 (hassign:∀(l:Nat) (x:α) (W:AH) (K:Act->AH->Prop),K (a₁ x) W->
  assign.wpIn (F.inRound l) (n - 1 - 1) P (Exit.then K (fun _ _ _=>False)) {tmps:=(ps.zip (encs x)).foldl (fun t (p,v)=>t.setIfInBounds p v) a.tmps,defers:=[]} W)
 (hbody:∀(l:Nat) (pre:List α) (x:α) (W:AH),I pre W->pre.length < N->
  body.wpIn (F.inRound l) (n - 1 - 1) P (fun e _ W'=>e=.normal/\KeepsOthers W W'/\KpC n₀ (w.heap.size+2) B2 W W'/\I (pre++[x]) W') (a₁ x) W)
 (hdone:∀(D:Nat) (xs:List α) (W:AH),w.heap.size<=D->S xs->I xs W->W.heap[D]? =some (.deferred (some []))->Q .normal {a with defers:={target:=.collected D,args:=#[]}::a.defers} W):
 (Code.rangeFunc g ps assign body).wpIn F n P Q a w:=by
 refine wpIn_rangeFunc ?_;intro fn hfn;rw [hro];obtain ⟨rec,hrec⟩:∃rec:LoopState->Option Code->Loop,rec=fun st pe=>{state:=st,pending:=pe,fn,tmps:=a.tmps,params:=ps,assign,body,defers:=w.heap.size}:=⟨_,rfl⟩;obtain ⟨W1,hW1⟩:=BP ((w.alloc (.deferred (some []))).alloc (.loop (rec .ready none)));have hsz1:W1.heap.size=w.heap.size+2:=by rw [<-hW1];simp
 have hL1:W1.heap[w.heap.size+1]? =some (.loop (rec .ready none)):=by rw [<-hW1];have:=World.alloc_heap_new (w.alloc (.deferred (some []))) (.loop (rec .ready none));rwa [Ee] at this
 have hK1:W1.heap[w.heap.size]? =some (.deferred (some [])):=by rw [<-hW1];exact (Kk _ _ _ AX).trans (World.alloc_heap_new w _)
 have hI1:I [] W1:=by rw [<-hW1];exact hI _ _ _ (hI _ _ _ h0 (Off.LS (EQ _ _ none) (fun r e=>by cases e))) (Off.LS (EQ _ _ none) (fun r e=>by cases e))
 have hb1:AK w W1:=by rw [<-hW1];exact ((Ae _ w).alloc (Ac _) _).alloc AX _
 -- the turn of a block of book-keeping
 have vV:∀(pre:List α) (W:AH) (l:Nat) (o o':Obj),I pre W->w.heap.size<=l->W.heap[l]? =some o->o.isCells=false->I pre (W.putObj l o'):=by intro pre W l o o' hi hl ho hc;refine hI _ _ _ hi (Off.LS (grownBy_putObj' W l o') (fun r e=> ?_));cases e;refine ⟨hl,fun e=> ?_⟩;obtain ⟨_,cs,t,fz,hcs⟩:=hpt _ _ hi _ e.symm;rw [ho] at hcs;injection hcs with hcs;subst hcs;cases hc
 refine ⟨w.heap.size+1,[{target:=.collected w.heap.size,args:=#[]}],W1,{target:=.fn (.func gf) lb,args:=#[.func (.yield (w.heap.size+1)) #[] #[]]},W1,gf,
  #[.func (.yield (w.heap.size+1)) #[] #[]]++lb,W1,?_,?_,?_,?_,fun _=>h1,?_⟩
 · rw [<-hW1,hrec];exact run_enterLoop_outer _ _ _ _ _
 ·simp only [resolve,hg]
  simp [go_sem]
 · intro f' hf';simp [Target.leads] at hf';subst hf';exact hFg
 · simp [invoke,go_sem,eg]
 refine (hseq (w.heap.size+1)
  (fun pre W=>I pre W/\W.heap[w.heap.size+1]? =some (.loop (rec .ready none))/\W.heap[w.heap.size]? =some (.deferred (some [])))
  W1 hb1 (fun b hb=>by obtain ⟨h0,cs,t,fz,h⟩:=hpt _ _ hI1 b hb;exact ⟨h0,(C6.1 h).1⟩)
  (fun s A C hs ho=>⟨hI s A C hs.1 ⟨ho.os,ho.tape,ho.output,ho.size,fun b hb h=>ho.block b hb (h.imp (fun h=>by omega) id)⟩,
   (ho.block _ (C6.1 hs.2.1).1 (.inl AG)).trans hs.2.1,
   (ho.block _ (C6.1 hs.2.2).1 (.inl AG)).trans hs.2.2⟩)
  ?_ ⟨hI1,hL1,hK1⟩).mono ?_
 ·rintro pre x W ⟨hi,hl,hk⟩ hlen
  have hlt:w.heap.size+1 < W.heap.size:=(C6.1 hl).1;have hy:=run_yield (P:=P) (args:=encs x) hl eL;rw [hrec] at hy;refine ⟨fn,_,assign,body,hy,roundIn_of_wpIn hfn (hassign _ x W _ ⟨_,run_beginRound hl (by rw [hrec]),?_⟩)⟩;have hl2:(W.putObj (w.heap.size+1) (.loop {rec .ready none with state:=.busy})).heap[w.heap.size+1]? =some (.loop {rec .ready none with state:=.busy}):=World.putObj_heap_same hlt;have hk2:(W.putObj (w.heap.size+1) (.loop {rec .ready none with state:=.busy})).heap[w.heap.size]? =some (.deferred (some [])):=(World.putObj_heap_other AG).trans hk;refine wpIn_mono (hbody _ pre x _ (vV _ _ _ _ _ hi AG hl rfl) hlen) ?_;rintro e a3 W3 ⟨rfl,hk3,hkp3,hi3⟩;have hl3:=hk3.same _ _ hl2 rfl;have hend:=run_endRound (P:=P) none hl3;rw [hrec] at hend;have hlt3:w.heap.size+1 < W3.heap.size:=(C6.1 hl3).1;refine ⟨_,_,hend,rfl,⟨vV _ _ _ _ _ hi3 AG hl3 rfl,?_,(World.putObj_heap_other AG).trans (hk3.same _ _ hk2 rfl)⟩,?_⟩
  ·rw [World.putObj_heap_same hlt3,hrec]
   rfl
  have hsz:∀(X:AH) (l:Nat) (o:Obj),(X.putObj l o).heap.size=X.heap.size:=fun X l o=>by simp [World.putObj]
  have hne:w.heap.size+1≠B2:=AG
  refine ⟨by rw [hsz];have:=hkp3.size;rw [hsz] at this;exact this,fun b hb hbl hbp=> ?_,?_,?_⟩
  ·have hbne:b≠w.heap.size+1:=by omega
   rw [World.putObj_heap_other AG];have:=hkp3.block b AG (by rw [hsz];exact hbl) (by rw [VZ hne];exact hbp);rw [this,World.putObj_heap_other AG]
  ·rw [VZ hne]
   rcases hkp3.pt with h | ⟨b,h,hb⟩
   · exact .inl (by rw [h,VZ hne])
   · exact .inr ⟨b,h,by rw [hsz] at hb;exact hb⟩
  intro b hb;rw [VZ hne] at hb;rw [hsz];exact hkp3.lt b hb
 rintro e W2 ⟨⟨v,rfl⟩,xs,hS,hi,hl,hk⟩;exact ⟨none,_,by have:=run_endLoop (P:=P) hl Ye;rw [hrec] at this;exact this,hdone _ xs _ (Ac _) hS (vV _ _ _ _ _ hi AG hl rfl) ((World.putObj_heap_other AG).trans hk)⟩
theorem getD_mem {l:AQ} {i:Nat} (h:i < l.length):l.getD i 0∈l:=by rw [Cv,BJ h];exact Tm h
theorem Wm {l:AQ} {i j:Nat} {y:Int} (hi:i < l.length) (hj:j < l.length) (h:y∈Ih l i j):y∈l:=by
 rcases Tz h with h | rfl
 ·rcases Tz h with h | rfl
  · exact h
  · exact getD_mem hj
 · exact getD_mem hi
theorem AD0 {y:Int}:∀(j:Nat) (l:AQ),j < l.length->y∈QL l j->y∈l:=by
 intro j
 induction j using Nat.strongRecOn with
 |
  _ j ih=>
  intro l hj h;unfold QL at h;split at h
  · next hc=>exact Wm AG hj (ih _ AG _ eM h)
  · exact h
theorem Wy {l:AQ} {x y:Int} (h:y∈LQ l x):y∈l\/y=x:=by have:=AD0 _ _ AX h;simpa using this
theorem AAT {y:Int} {n:Nat}:∀(k i:Nat) (l:AQ),n - i<=k->n<=l.length->y∈FQ l i n->y∈l:=by
 intro k
 induction k with
 |
  zero=>
  intro i l hk hn h;unfold FQ at h;split at h
  · next hc=>omega
  · exact h
 |
  succ k ih=>
  intro i l hk hn h;unfold FQ at h;split at h
  ·next hc=>have h1:=XP (l:=l) hc.1;have h2:=XQ l i n;exact Wm AG AG (ih _ _ AG (by rw [EZ];exact hn) h)
  · exact h
theorem Va {l:AQ} {y:Int} (hp:0 < l.length) (h:y∈MO l):y∈l:=
 Wm hp AG (AAT _ _ _ (Ac _) eM h)
def ABN (o:AQ):Nat:=o.countP fun c=>decide (0 < c)
def JC (o h:AQ):Nat:=h.length+ABN o
theorem lh {o h:AQ} {u:Int} (hu:u.toNat < o.length):JC (Jd (o,h) u).1 (Jd (o,h) u).2<=JC o h:=by
 unfold JC Jd ABN;simp only;have hs:(o.set u.toNat (o.getD u.toNat 0 - 1)).getD u.toNat 0=o.getD u.toNat 0 - 1:=by rw [Cv,F9 hu];rfl
 rw [hs];have hg:o.getD u.toNat 0=o[u.toNat]:=by rw [Cv,BJ hu];rfl
 rw [hg,List.countP_set hu];have hle:0 < o[u.toNat]->1<=o.countP fun c=>decide (0 < c):=fun hp=>
  List.countP_pos_iff.2 ⟨_,Tm hu,by simpa using hp⟩
 by_cases h1:o[u.toNat] - 1=0
 ·rw [Ao h1,Wz]
  have h2:0 < o[u.toNat]:=AG
  have h3:¬0 < o[u.toNat] - 1:=AG
  have:=hle h2;simp only [BR h2,Bc h3,C5,Gu,F5];omega
 rw [Ai h1];by_cases h2:0 < o[u.toNat]
 ·have h3:0 < o[u.toNat] - 1:=by omega
  have:=hle h2;simp only [BR h2,BR h3,C5];omega
 have h3:¬0 < o[u.toNat] - 1:=AG
 simp only [Bc h2,Bc h3,Gu,F5];omega
def Hy (rs:List Ce) (k:Nat):AQ:=(List.range k).map fun x:Nat=>((Ba rs x).length:Int)
theorem P3 (rs:List Ce) (k:Nat):(Hy rs k).length=k:=by simp [Hy]
theorem Xm (rs:List Ce) (k:Nat):Hy rs (k+1)=Hy rs k++[((Ba rs k).length:Int)]:=by simp [Hy,List.range_succ]
theorem NT (rs:List Ce) (k:Nat):DV rs (k+1)=if (Ba rs k).length=0 then LQ (DV rs k) k else DV rs k:=by unfold DV;rw [PW,RL];rfl
theorem OE (rs:List Ce):∀k:Nat,JC (Hy rs k) (DV rs k)=k
 | 0=>rfl
 |
  k+1=>by
  have ih:=OE rs k;unfold JC ABN at ih ⊢;rw [Xm,NT,List.countP_append];by_cases h:(Ba rs k).length=0
  ·rw [Ao h,Wz]
   simp only [List.countP_cons,List.countP_nil,h];simp;omega
  rw [Ai h];have:(0:Int) < ((Ba rs k).length:Int):=AG
  simp only [List.countP_cons,List.countP_nil,BR this,C5];omega
theorem VS {rs:List Ce} {y:Int}:∀{k:Nat},y∈DV rs k->0<=y/\y < k
 | 0,h=>by simp [DV] at h
 |
  k+1,h=>by
  rw [NT] at h;split at h
  ·rcases Wy h with h | h
   · have:=VS h;omega
   · omega
  · have:=VS h;omega
theorem ZI {rs:List Ce} {k:Nat} {x y:Int} (h:y∈Bf rs k x):0<=y/\y < k:=by unfold Bf at h;obtain ⟨h1,_⟩:=List.mem_filter.1 h;obtain ⟨z,hz,rfl⟩:=Dd.1 h1;have:=Ed.1 hz;exact ⟨by show (0:Int)<=((z:Nat):Int);omega,by show ((z:Nat):Int) < k;omega⟩
theorem zN (rs:List Ce) (n:Nat):Cg rs n=Jt (fun x:Nat=>Bf rs n x) (n+1) (Hy rs n) (DV rs n):=rfl
theorem qL (us:Nat->AQ) (fuel:Nat) (o:AQ):Jt us fuel o []=[]:=by cases fuel <;> simp [Jt]
theorem mW {us:Nat->AQ} {fuel:Nat} {o h:AQ} (hp:0 < h.length):Jt us (fuel+1) o h=
 (MO h).getD (h.length - 1) 0::Jt us fuel ((us ((MO h).getD (h.length - 1) 0).toNat).foldl Jd (o,(MO h).take (h.length - 1))).1 ((us ((MO h).getD (h.length - 1) 0).toNat).foldl Jd (o,(MO h).take (h.length - 1))).2:=by
 rw [Jt,Ai AG]
theorem FT.drewN {w:AH} {base G:Nat} {l:AQ} (h:FT w base G l) (n:Nat):FT (w.drewN n) base G l:=h
theorem FT.grown {w w':AH} {base G g:Nat} {v:AN} {t:Af} {l:AQ} (hk:AZ w G t #[v]) (ht:t=305) (hown:w'.ownsRow base 3 1 v l.length (l.map (Value.int .i64))) (hg:w.grownBy w' (some g)) (hbg:base<=g) (hG:G < base) (hs:base<=w.heap.size):FT w' base G l:=by subst ht;exact ⟨v,hk.grown hg (fun e=>by injection e;omega),hown,hG,BH hs hg.size⟩
theorem yt (k:Nat):((k:Int) - 1).tdiv 2=(((k - 1) / 2:Nat):Int):=by
 rcases k with _ | k
 · rfl
 have h:((k+1:Nat):Int) - 1=(k:Int):=AG
 rw [h];rw [Int.tdiv_eq_ediv_of_nonneg AG];simp
theorem vO (base G:Nat) (l:AQ) (j:Nat) (w:AH) (hq:FT w base G l) (hj:j < l.length) (hl:l.length<=1000000):
 AS prog 226 #[.iface 302 (AW (some ⟨G,0,none⟩)),AE AF j] w fun e w'=>(∃u,e=AU u)/\FT w' base G (QL l j)/\Kept G w w':=by
 have HQ:=AA hq;clear hq;go_enter func226,ntmps226;go_wp2_with fail;go_loopg [1] j (fun q i wr=>∃k:Nat,∃r:AQ,q=k/\i=AE AF k/\k < r.length/\r.length=l.length/\FT wr base G r/\Kept G w wr/\QL r k=QL l j)
 case atStart=>exact ⟨j,l,rfl,rfl,hj,rfl,HQ.o,Kept.refl _ _,rfl⟩
 clear HQ;obtain ⟨k,r,hg,rfl,hk,hlen,hq,hkept,hup⟩:=hrel;have hrl:r.length<=1000000:=AG
 have pF:=AA hlen;have HG:=AA hg;have Qn:=AA hup;have Zl:=AA hkept;have HQ:=AA hq;clear hg hup hkept hq hlen;obtain ⟨p,hp⟩:=Ad ((k - 1) / 2);have HPP:=AA hp;have e1:IntKind.i64.wrap ((k:Int) - 1)=(k:Int) - 1:=CN _ AG;have e2:((k:Int) - 1).tdiv 2=(p:Int):=by rw [yt,hp]
 have e3:IntKind.i64.wrap (p:Int)=(p:Int):=CN _ AG;by_cases h0:k=0
 ·subst h0
  have hp0:p=0:=AG
  subst hp0;clear hp;have HU:AI (QL r 0=r):=AA (by unfold QL;simp);go_wp2_with fail
  go_end0
  exact xQ
 have hpk:p < k:=AG
 have hpn:p < r.length:=AG
 obtain ⟨g,cap,hbg,hGb,hbs,hkb,hown⟩:=HQ.o.form AG;have c0:=hkb.cell 0;simp only [Ak,Al] at c0;have HM:AI (∀q,(wr.drewN q).cell? ⟨G,0,none⟩=some (AB (some ⟨g,0,none⟩) r.length cap)):=AA (fun _=>c0);have hm:=Qv G _ wr c0 (prog.types.size+Made.depth) JO;simp only [types_size,Made.depth,Nat.reduceAdd] at hm;have HKB:=AA hkb;have HOWN:=AA hown;obtain ⟨v,hv⟩:=BP (decide (r.getD k 0 < r.getD p 0));have HV:=AA hv;have HC:AI (AS prog 244 #[AB (some ⟨g,0,none⟩) r.length cap,AE AF k,AE AF p] wr fun e w'=>e=AU (Ab v)/\∃k,w'=wr.drewN k):=AA (by have:=Rr base g cap r.length r k p wr hown hk hpn;rw [hv] at this;exact this)
 clear hkb hown c0 hv hp;have hne:¬(p:Int)=(k:Int):=AG
 go_upto_region 1 with fail;clear e1 e2 e3;go_wp2_with (go_at_call 244;refine HC.o.mono ?_;clear HC hm);rintro e w1 ⟨rfl,q,rfl⟩;cases v with
 |
  false=>
  have HU:AI (QL r k=r):=AA (by unfold QL;rw [Lj];rintro ⟨_,h⟩;have:=HV.o;rw [HPP.o] at this;exact absurd h (RM this))
  go_wp2_with fail
  go_end0
  exact ⟨⟨_,rfl⟩,by rw [<-Qn.o,HU.o];exact HQ.o,Zl.o.drewN _⟩
 |
  true=>
  have HU:AI (QL r k=QL (Ih r p k) p):=AA (by
   have h2:=HV.o;rw [HPP.o] at h2 ⊢
   conv=>lhs;unfold QL
   rw [Gr ⟨by omega,F8 h2⟩])
  have hm2:=Oi G _ (wr.drewN q) (HM.o q) (prog.types.size+Made.depth) JO;simp only [types_size,Made.depth,Nat.reduceAdd] at hm2;go_wp2_with (go_at_call 248;refine (swap_any base g cap r.length r p k (wr.drewN q) HOWN.o hpn hk).mono ?_;clear hm2);rintro e w2 ⟨⟨u,rfl⟩,hown2,JW⟩;have Io:=AA (FT.grown (w:=wr.drewN q) HKB.o rfl UM JW hbg hGb hbs);have JG:=AA (Zl.o.trans (((Kept.refl G wr).drewN q).trans (Kept.LS (a:=wr.drewN q) HKB.o rfl (Ki (Au hGb hbg)) JW)));clear hown2 JW;go_wp2_with fail;go_roundg p
  case measure=>exact EF
  case rel=>exact ⟨p,Ih r p k,rfl,rfl,by rw [EZ];exact hpn,by rw [EZ];exact pF.o,Io.o,JG.o,by rw [<-HU.o];exact Qn.o⟩
theorem Ov (base G:Nat) (l:AQ) (x:Int) (w:AH) (hq:FT w base G l) (hl:l.length < 1000000):
 AS prog 184 #[.iface 302 (AW (some ⟨G,0,none⟩)),.iface 3 (AE AF x)] w fun e w'=>(∃u,e=AU u)/\FT w' base G (LQ l x)/\Kept G w w':=by
 have hbs:base<=w.heap.size:=by obtain ⟨_,_,_,_,h⟩:=hq;exact h
 have HQ:=AA hq;clear hq;have hm:=uz ⟨G,0,none⟩ w (prog.types.size+Made.depth) JO;simp only [types_size,Made.depth,Nat.reduceAdd] at hm;go_enter func184,ntmps184;go_wp2_with (go_at_call 246;refine (zF base G l x w HQ.o hbs AG).mono ?_;clear hm);rintro e w1 ⟨⟨u,rfl⟩,hq1,hk1⟩;obtain ⟨r,hr⟩:=BP (l++[x]);have HR:=AA hr;rw [hr] at hq1;have hlen:r.length=l.length+1:=by rw [<-hr];simp
 clear hr;obtain ⟨g,cap,hbg,hGb,AJR,hkb,hown⟩:=hq1.form AG;have c0:=hkb.cell 0;simp only [Ak,Al] at c0;have hm:=ij G _ w1 c0 (prog.types.size+Made.depth) JO;simp only [types_size,Made.depth,Nat.reduceAdd] at hm;have df:=AA hq1;have pK:=AA hk1;have e1:IntKind.i64.wrap ((r.length:Int) - 1)=(l.length:Int):=by rw [CN _ AG];omega
 have HLEN:=AA hlen;clear hkb hown hq1 hk1 c0 hlen;have HU:AI (QL r l.length=LQ l x):=AA (by rw [LQ,HR.o]);go_wp2_with (first
  | (go_at_call 185;refine (len_any _ _ _ _).mono ?_;rintro e w2 ⟨rfl,rfl⟩)
  | (go_at_call 226;refine (vO base G r l.length _ df.o Pf Pf).mono ?_))
 rintro e w2 ⟨⟨u2,rfl⟩,hq2,hk2⟩;rw [HU.o] at hq2;have Io:=AA hq2;have JG:=AA (pK.o.trans hk2);clear hq2 hk2 e1 hm;go_wp2_with fail
 go_end0
 exact ⟨⟨_,rfl⟩,Io.o,JG.o⟩
theorem nh (base G:Nat) (l:AQ) (i n:Nat) (w:AH) (hq:FT w base G l) (hn:n<=l.length) (hl:l.length<=1000000) (hi:i<=n):
 AS prog 227 #[.iface 302 (AW (some ⟨G,0,none⟩)),AE AF i,AE AF n] w fun e w'=>(∃u,e=AU u)/\FT w' base G (FQ l i n)/\Kept G w w':=by
 have HQ:=AA hq;clear hq;go_enter func227,ntmps227;go_wp2_with fail;go_loopg [7] (n - i) (fun q z wr=>∃k:Nat,∃r:AQ,q=n - k/\z=AE AF k/\k<=n/\r.length=l.length/\FT wr base G r/\Kept G w wr/\FQ r k n=FQ l i n)
 case atStart=>exact ⟨i,l,rfl,rfl,hi,rfl,HQ.o,Kept.refl _ _,rfl⟩
 clear HQ;obtain ⟨k,r,hg,rfl,hk,hlen,hq,hkept,hup⟩:=hrel;have hrl:r.length<=1000000:=AG
 have hnr:n<=r.length:=AG
 have pF:=AA hlen;have HG:=AA hg;have Qn:=AA hup;have Zl:=AA hkept;have HQ:=AA hq;clear hg hup hkept hq hlen;obtain ⟨a,ha⟩:=Ad (2*k+1);obtain ⟨b,hb⟩:=Ad (2*k+2);have e1:IntKind.i64.wrap (2*(k:Int))=2*(k:Int):=CN _ AG;have e2:IntKind.i64.wrap (2*(k:Int)+1)=(a:Int):=by rw [CN _ AG];omega
 have e3:IntKind.i64.wrap ((a:Int)+1)=(b:Int):=by rw [CN _ AG];omega
 have a0:¬(a:Int) < 0:=AG
 have HAB:AI (a=2*k+1/\b=2*k+2):=AA ⟨ha,hb⟩;by_cases han:a < n
 case neg=>
  have AHw:(n:Int)<=(a:Int):=AG
  have HU:AI (FQ r k n=r):=AA (by unfold FQ;rw [Lj];rintro ⟨h,_⟩;omega)
  clear ha hb;go_upto_region 3 with fail;clear e1 e2 e3;go_wp2_with fail;go_ret;exact xQ
 have AHw:(a:Int) < (n:Int):=AG
 have hkn:k < n:=AG
 have hkr:k < r.length:=AG
 have har:a < r.length:=AG
 obtain ⟨g,cap,hbg,hGb,hbs,hkb,hown⟩:=HQ.o.form AG;have c0:=hkb.cell 0;simp only [Ak,Al] at c0;have HM:AI (∀q,(wr.drewN q).cell? ⟨G,0,none⟩=some (AB (some ⟨g,0,none⟩) r.length cap)):=AA (fun _=>c0);have hm:=Qv G _ wr c0 (prog.types.size+Made.depth) JO;simp only [types_size,Made.depth,Nat.reduceAdd] at hm;have HKB:=AA hkb;have HOWN:=AA hown;clear hkb hown c0;by_cases hbn:b < n
 case neg=>
  have AHs:(n:Int)<=(b:Int):=AG
  have HJ:AI (Kv r k n=a):=AA (by unfold Kv;rw [Ai (fun h=>by omega)];omega);clear ha hb;go_upto_region 6 with fail;clear e1 e2 e3;obtain ⟨v2,hv2⟩:=BP (decide (r.getD a 0 < r.getD k 0));have Dw:=AA hv2;have HC:AI (AS prog 244 #[AB (some ⟨g,0,none⟩) r.length cap,AE AF a,AE AF k] wr fun e w'=>e=AU (Ab v2)/\∃k,w'=World.drewN wr k):=AA (by have:=Rr base g cap r.length r a k wr HOWN.o har hkr;rw [hv2] at this;exact this)
  clear hv2;go_wp2_with (go_at_call 244;refine HC.o.mono ?_;clear HC hm)
  first | rintro e w1 rfl q rfl | rintro e w1 ⟨rfl,q,rfl⟩
  have Mi:AI ((wr.drewN q).cell? ⟨G,0,none⟩=some (AB (some ⟨g,0,none⟩) r.length cap)):=AA (HM.o 0);cases v2 with
  |
   false=>
   have HU:AI (FQ r k n=r):=AA fB
   go_wp2_with fail;go_ret;exact ⟨⟨_,rfl⟩,by rw [<-Qn.o,HU.o];exact HQ.o,Zl.o.drewN _⟩
  |
   true=>
   have HU:AI (FQ r k n=FQ (Ih r k a) a n):=AA (by
    conv=>lhs;unfold FQ
    rw [Gr ⟨by have:=HAB.o;omega,by rw [HJ.o];exact F8 Dw.o⟩,HJ.o])
   have hm2:=Oi G _ (wr.drewN q) Mi.o (prog.types.size+Made.depth) JO;simp only [types_size,Made.depth,Nat.reduceAdd] at hm2;go_wp2_with (go_at_call 248;refine (swap_any base g cap r.length r k a (wr.drewN q) HOWN.o hkr har).mono ?_;clear hm2)
   first | rintro e w2 u rfl hown2 JW | rintro e w2 ⟨⟨u,rfl⟩,hown2,JW⟩
   have Io:=AA (FT.grown (w:=(wr.drewN q)) HKB.o rfl UM JW hbg hGb hbs);have JG:AI (Kept G w w2):=AA ((Zl.o.drewN _).trans (Kept.LS (a:=(wr.drewN q)) HKB.o rfl (Ki (Au hGb hbg)) JW));clear hown2 JW;go_wp2_with fail;go_roundg (n - a)
   case measure=>have:=HG.o;have:=HAB.o;omega
   case rel=>exact ⟨a,Ih r k a,rfl,rfl,by have:=HAB.o;omega,by rw [EZ];exact pF.o,Io.o,JG.o,by rw [<-HU.o];exact Qn.o⟩
 have AHs:(b:Int) < (n:Int):=AG
 have hbr:b < r.length:=AG
 obtain ⟨v,hv⟩:=BP (decide (r.getD b 0 < r.getD a 0));have HV:=AA hv;have Kd:AI (AS prog 244 #[AB (some ⟨g,0,none⟩) r.length cap,AE AF b,AE AF a] wr fun e w'=>e=AU (Ab v)/\∃k,w'=wr.drewN k):=AA (by have:=Rr base g cap r.length r b a wr HOWN.o hbr har;rw [hv] at this;exact this)
 clear hv;have WV:AI (Kv r k n=if v then b else a):=AA (by
  unfold Kv;rw [<-ha,<-hb,<-HV.o];by_cases h:r.getD b 0 < r.getD a 0
  · rw [Ao ⟨hbn,h⟩,BR h];rfl
  · rw [Ai (fun x=>h x.2),Bc h];rfl)
 clear ha hb;go_upto_region 6 with fail;clear e1 e2 e3;go_wp2_with (go_at_call 244;refine Kd.o.mono ?_;clear Kd hm)
 first | rintro e w1 rfl q0 rfl | rintro e w1 ⟨rfl,q0,rfl⟩
 cases v with
 |
  false=>
  have HJ:AI (Kv r k n=a):=WV;obtain ⟨v2,hv2⟩:=BP (decide (r.getD a 0 < r.getD k 0));have Dw:=AA hv2;have HC:AI (AS prog 244 #[AB (some ⟨g,0,none⟩) r.length cap,AE AF a,AE AF k] (wr.drewN q0) fun e w'=>e=AU (Ab v2)/\∃k,w'=World.drewN (wr.drewN q0) k):=AA (by have:=Rr base g cap r.length r a k (wr.drewN q0) HOWN.o har hkr;rw [hv2] at this;exact this)
  clear hv2;have hm:=Qv G _ (wr.drewN q0) (HM.o q0) (prog.types.size+Made.depth) JO;simp only [types_size,Made.depth,Nat.reduceAdd] at hm;go_wp2_with (go_at_call 244;refine HC.o.mono ?_;clear HC hm)
  first | rintro e w1 rfl q rfl | rintro e w1 ⟨rfl,q,rfl⟩
  have Mi:AI ((wr.drewN (q0+q)).cell? ⟨G,0,none⟩=some (AB (some ⟨g,0,none⟩) r.length cap)):=AA (HM.o 0);cases v2 with
  |
   false=>
   have HU:AI (FQ r k n=r):=AA fB
   go_wp2_with fail;go_ret;exact ⟨⟨_,rfl⟩,by rw [<-Qn.o,HU.o];exact HQ.o,Zl.o.drewN _⟩
  |
   true=>
   have HU:AI (FQ r k n=FQ (Ih r k a) a n):=AA (by
    conv=>lhs;unfold FQ
    rw [Gr ⟨by have:=HAB.o;omega,by rw [HJ.o];exact F8 Dw.o⟩,HJ.o])
   have hm2:=Oi G _ (wr.drewN (q0+q)) Mi.o (prog.types.size+Made.depth) JO;simp only [types_size,Made.depth,Nat.reduceAdd] at hm2;go_wp2_with (go_at_call 248;refine (swap_any base g cap r.length r k a (wr.drewN (q0+q)) HOWN.o hkr har).mono ?_;clear hm2)
   first | rintro e w2 u rfl hown2 JW | rintro e w2 ⟨⟨u,rfl⟩,hown2,JW⟩
   have Io:=AA (FT.grown (w:=(wr.drewN (q0+q))) HKB.o rfl UM JW hbg hGb hbs);have JG:AI (Kept G w w2):=AA ((Zl.o.drewN _).trans (Kept.LS (a:=(wr.drewN (q0+q))) HKB.o rfl (Ki (Au hGb hbg)) JW));clear hown2 JW;go_wp2_with fail;go_roundg (n - a)
   case measure=>have:=HG.o;have:=HAB.o;omega
   case rel=>exact ⟨a,Ih r k a,rfl,rfl,by have:=HAB.o;omega,by rw [EZ];exact pF.o,Io.o,JG.o,by rw [<-HU.o];exact Qn.o⟩
 |
  true=>
  have HJ:AI (Kv r k n=b):=WV;obtain ⟨v2,hv2⟩:=BP (decide (r.getD b 0 < r.getD k 0));have Dw:=AA hv2;have HC:AI (AS prog 244 #[AB (some ⟨g,0,none⟩) r.length cap,AE AF b,AE AF k] (wr.drewN q0) fun e w'=>e=AU (Ab v2)/\∃k,w'=World.drewN (wr.drewN q0) k):=AA (by have:=Rr base g cap r.length r b k (wr.drewN q0) HOWN.o hbr hkr;rw [hv2] at this;exact this)
  clear hv2;have hm:=Qv G _ (wr.drewN q0) (HM.o q0) (prog.types.size+Made.depth) JO;simp only [types_size,Made.depth,Nat.reduceAdd] at hm;go_wp2_with (go_at_call 244;refine HC.o.mono ?_;clear HC hm)
  first | rintro e w1 rfl q rfl | rintro e w1 ⟨rfl,q,rfl⟩
  have Mi:AI ((wr.drewN (q0+q)).cell? ⟨G,0,none⟩=some (AB (some ⟨g,0,none⟩) r.length cap)):=AA (HM.o 0);cases v2 with
  |
   false=>
   have HU:AI (FQ r k n=r):=AA fB
   go_wp2_with fail;go_ret;exact ⟨⟨_,rfl⟩,by rw [<-Qn.o,HU.o];exact HQ.o,Zl.o.drewN _⟩
  |
   true=>
   have HU:AI (FQ r k n=FQ (Ih r k b) b n):=AA (by
    conv=>lhs;unfold FQ
    rw [Gr ⟨by have:=HAB.o;omega,by rw [HJ.o];exact F8 Dw.o⟩,HJ.o])
   have hm2:=Oi G _ (wr.drewN (q0+q)) Mi.o (prog.types.size+Made.depth) JO;simp only [types_size,Made.depth,Nat.reduceAdd] at hm2;go_wp2_with (go_at_call 248;refine (swap_any base g cap r.length r k b (wr.drewN (q0+q)) HOWN.o hkr hbr).mono ?_;clear hm2)
   first | rintro e w2 u rfl hown2 JW | rintro e w2 ⟨⟨u,rfl⟩,hown2,JW⟩
   have Io:=AA (FT.grown (w:=(wr.drewN (q0+q))) HKB.o rfl UM JW hbg hGb hbs);have JG:AI (Kept G w w2):=AA ((Zl.o.drewN _).trans (Kept.LS (a:=(wr.drewN (q0+q))) HKB.o rfl (Ki (Au hGb hbg)) JW));clear hown2 JW;go_wp2_with fail;go_roundg (n - b)
   case measure=>have:=HG.o;have:=HAB.o;omega
   case rel=>exact ⟨b,Ih r k b,rfl,rfl,by have:=HAB.o;omega,by rw [EZ];exact pF.o,Io.o,JG.o,by rw [<-HU.o];exact Qn.o⟩
theorem ZS (base G:Nat) (l:AQ) (w:AH) (hq:FT w base G l) (hpos:0 < l.length) (hl:l.length<=1000000):
 AS prog 186 #[.iface 302 (AW (some ⟨G,0,none⟩))] w fun e w'=>e=AU (.iface 3 (AE AF ((MO l).getD (l.length - 1) 0)))/\FT w' base G ((MO l).take (l.length - 1))/\Kept G w w':=by
 obtain ⟨g,cap,hbg,hGb,hbs,hkb,hown⟩:=hq.form hpos;have c0:=hkb.cell 0;simp only [Ak,Al] at c0;have HQ:=AA hq;have HKB:=AA hkb;have HOWN:=AA hown;obtain ⟨n,hn⟩:=Ad (l.length - 1);have HN:=AA hn;have e1:IntKind.i64.wrap ((l.length:Int) - 1)=(n:Int):=by rw [CN _ AG];omega
 have hnl:n < l.length:=AG
 have hm:=ij G _ w c0 (prog.types.size+Made.depth) JO;simp only [types_size,Made.depth,Nat.reduceAdd] at hm;have hms:=Oi G _ w c0 (prog.types.size+Made.depth) JO;simp only [types_size,Made.depth,Nat.reduceAdd] at hms;clear hq hkb hown c0 hn;obtain ⟨r,hr⟩:=BP (MO l);have HR:AI (FQ (Ih l 0 n) 0 n=r):=AA (by rw [<-hr,MO,HN.o]);have hrl:r.length=l.length:=by rw [<-hr,QD]
 have S5:=AA hrl;rw [hr];clear hr hrl;go_enter func186,ntmps186;go_wp2_with (first
  | (go_at_call 185;refine (len_any _ _ _ _).mono ?_;rintro e w2 ⟨rfl,rfl⟩)
  | (go_at_call 248;refine (swap_any base g cap l.length l 0 n w HOWN.o hpos hnl).mono ?_;clear hm hms e1))
 first | rintro e w1 u rfl hown2 JW | rintro e w1 ⟨⟨u,rfl⟩,hown2,JW⟩
 have hq1:FT w1 base G (Ih l 0 n):=FT.grown (w:=w) HKB.o rfl UM JW hbg hGb hbs;have pK:AI (Kept G w w1):=AA (Kept.LS (a:=w) HKB.o rfl (Ki (Au hGb hbg)) JW);have df:=AA hq1;clear hq1 hown2 JW;go_wp2_with (go_at_call 227;refine (nh base G (Ih l 0 n) 0 n w1 df.o eM (by rw [EZ];exact hl) (Av _)).mono ?_)
 first | rintro e w2 u2 rfl hq2 hk2 | rintro e w2 ⟨⟨u2,rfl⟩,hq2,hk2⟩
 rw [HR.o] at hq2;have Io:=AA hq2;have JG:=AA (pK.o.trans hk2);have Dm:=zZ ⟨G,0,none⟩ w2 (prog.types.size+Made.depth) JO;simp only [types_size,Made.depth,Nat.reduceAdd] at Dm;clear hq2 hk2;go_wp2_with (go_at_call 245;refine (ABL base G r w2 Io.o (by have:=S5.o;omega) (by have:=S5.o;omega)).mono ?_;clear Dm)
 first | rintro e w3 rfl hq3 hk3 | rintro e w3 ⟨rfl,hq3,hk3⟩
 rw [S5.o] at hq3 ⊢;have Xz:=AA hq3;have SK:=AA (JG.o.trans hk3);clear hq3 hk3;go_wp2_with fail;go_ret;exact ⟨rfl,Xz.o,SK.o⟩
theorem FT.put {w:AH} {base G O:Nat} {l:AQ} (h:FT w base G l) (hO:O < base) (hne:O≠G) (i:Nat) (u:AN):FT (w.setCell ⟨O,i,none⟩ u) base G l:=by obtain ⟨v,h1,h2,h3,h4⟩:=h;exact ⟨v,h1.far (fun e=>hne e.symm) u,Ew h2 hO u,h3,by simpa [World.setCell] using h4⟩
theorem FT.pt {w:AH} {base G:Nat} {l:AQ} (h:FT w base G l):∀b,Dx G w=some b->base<=b/\b < w.heap.size:=by obtain ⟨v,h1,h2,h3,h4⟩:=h;intro b hb;rw [Fz h1] at hb;exact h2.lt b hb
theorem Kept.low {w w':AH} {base G:Nat} {l:AQ} (hk:Kept G w w') (h:FT w base G l) {b:Nat} (hb:b < base) (hne:b≠G):w'.heap[b]? =w.heap[b]? :=by
 have hs:base<=w.heap.size:=by obtain ⟨_,_,_,_,h⟩:=h;exact h
 exact hk.block b AG hne (fun e=>by have:=(h.pt b e.symm).1;omega)
theorem Kept.below {w w':AH} {base G B:Nat} {l:AQ} (hk:Kept G w w') (h:FT w base G l) (hB:B<=G):Below B w w':=by
 have hG:G < base:=by obtain ⟨_,_,_,h,_⟩:=h;exact h
 exact ⟨hk.os,hk.tape,hk.output,hk.size,fun b hb=>hk.low h AG AG⟩
structure ItC (B B2 U O G base:Nat) (us:List AN):Prop where
 b2:B2 < B
 oB:B<=O
 ob:O < base
 og:O≠G
 gB:B<=G
 rb:∀b,Tc U us b->B<=b/\b < base/\b≠O/\b≠G
structure R5 (n₀ B2 bU U O G base n:Nat) (us:List AN) (f:Nat->AQ) (X:AH) (o h:AQ):Prop where
 op:AZ X O 3 ((o.map (Value.int .i64)).toArray)
 q:FT X base G h
 rows:DI X bU U n us f
 cK:∀b,Dx B2 X=some b->n₀<=b/\b < X.heap.size/\¬Tc U us b/\b≠O/\b≠G/\some b≠Dx G X
section
variable {n₀ B B2 bU U O G base n:Nat} {us:List AN} {f:Nat->AQ} {X X':AH} {o h h':AQ}
theorem OH {B2:Nat} {X X':AH} (h:X'.heap[B2]? =X.heap[B2]?):Dx B2 X'=Dx B2 X:=by unfold Dx World.cell?;rw [h]
theorem R5.put (hc:ItC B B2 U O G base us) (hs:R5 n₀ B2 bU U O G base n us f X o h) (i:Nat) (z:Int):
 R5 n₀ B2 bU U O G base n us f (X.setCell ⟨O,i,none⟩ (AE AF z)) (o.set i z) h/\Off B B2 X (X.setCell ⟨O,i,none⟩ (AE AF z)):=by
 have hpt:Dx B2 (X.setCell ⟨O,i,none⟩ (AE AF z))=Dx B2 X:=OH (D6 _ _ _ B2 (fun e=>by have:=hc.b2;have:=hc.oB;simp at e;omega));have hpg:Dx G (X.setCell ⟨O,i,none⟩ (AE AF z))=Dx G X:=OH (D6 _ _ _ G (fun e=>hc.og e.symm));have hsz:(X.setCell ⟨O,i,none⟩ (AE AF z)).heap.size=X.heap.size:=by simp [World.setCell]
 refine ⟨⟨?_,hs.q.put hc.ob hc.og _ _,hs.rows.keep (fun b hb=>D6 _ _ _ b (hc.rb b hb).2.2.1),?_⟩,?_⟩
 ·have:=hs.op.put i (AE AF z)
  rw [Lr,<-Q8] at this;exact this
 ·intro b hb
  rw [hpt] at hb;rw [hpg,hsz];exact hs.cK b hb
 refine ⟨rfl,rfl,rfl,by rw [hsz];exact Ac _,fun b hb hor=>D6 _ _ _ b (fun e=> ?_)⟩;have e:b=O:=e;subst e;rcases hor with hor | hor
 · have:=hc.oB;omega
 · exact (hs.cK _ hor.symm).2.2.2.1 rfl
theorem R5.kept (hc:ItC B B2 U O G base us) (hs:R5 n₀ B2 bU U O G base n us f X o h) (hk:Kept G X X') (hq:FT X' base G h'):
 R5 n₀ B2 bU U O G base n us f X' o h'/\Off B B2 X X':=by
 have hB2:B2 < base:=by have:=hc.b2;have:=hc.oB;have:=hc.ob;omega
 have hpt:Dx B2 X'=Dx B2 X:=OH (hk.low hs.q hB2 (by have:=hc.b2;have:=hc.gB;omega));refine ⟨⟨(hk.low hs.q hc.ob hc.og).trans hs.op,hq,hs.rows.keep (fun b hb=>hk.low hs.q (hc.rb b hb).2.1 (hc.rb b hb).2.2.2),?_⟩,?_⟩
 ·intro b hb
  rw [hpt] at hb;obtain ⟨h1,h2,h3,h4,h5,h6⟩:=hs.cK b hb;refine ⟨h1,Au h2 hk.size,h3,h4,h5,?_⟩;rcases hk.pt with e | ⟨y,e,hy⟩
  · rw [e];exact h6
  rw [e];intro e2;injection e2 with e2;omega
 refine ⟨hk.os,hk.tape,hk.output,hk.size,fun b hb hor=> ?_⟩;rcases hor with hor | hor
 · exact hk.low hs.q (by have:=hc.oB;have:=hc.ob;omega) (by have:=hc.gB;omega)
 obtain ⟨h1,h2,h3,h4,h5,h6⟩:=hs.cK b hor.symm;exact hk.block b hb h5 h6
theorem FT.keep {w w':AH} {base G:Nat} {l:AQ} (h:FT w base G l) (hs:w.heap.size<=w'.heap.size) (hb:∀b,b=G\/Dx G w=some b->w'.heap[b]? =w.heap[b]?):FT w' base G l:=by
 obtain ⟨v,h1,h2,h3,h4⟩:=h;refine ⟨v,(hb G (.inl rfl)).trans h1,⟨h2.1,?_⟩,h3,BH h4 hs⟩;rcases h2.2 with h2 | ⟨g,cap,cur,hv,hg,hh,rest⟩
 · exact .inl h2
 · exact .inr ⟨g,cap,cur,hv,hg,(hb g (.inr (by rw [Fz h1,hv];rfl))).trans hh,rest⟩
theorem R5.round (hc:ItC B B2 U O G base us) (hs:R5 n₀ B2 bU U O G base n us f X o h) (hk:KpC n₀ B B2 X X') (hn:n₀<=B) (hBX:B<=X.heap.size):R5 n₀ B2 bU U O G base n us f X' o h:=by
 have same:∀b,B<=b->b < X.heap.size->(∀c,Dx B2 X=some c->c≠b)->X'.heap[b]? =X.heap[b]? :=fun b h1 h2 h3=>hk.block b (.inr h1) h2 (fun e=>h3 b e.symm rfl);have hG:=hs.q.pt;have hGs:G < X.heap.size:=by obtain ⟨v,h1,_⟩:=hs.q;exact h1.lt
 have sG:X'.heap[G]? =X.heap[G]? :=same G hc.gB hGs (fun c hcc=>(hs.cK c hcc).2.2.2.2.1);have sO:X'.heap[O]? =X.heap[O]? :=same O hc.oB hs.op.lt (fun c hcc=>(hs.cK c hcc).2.2.2.1);have hbase:G < base:=by obtain ⟨v,_,_,h3,_⟩:=hs.q;exact h3
 have hpg:Dx G X'=Dx G X:=OH sG;refine ⟨sO.trans hs.op,hs.q.keep hk.size (fun b hb=> ?_),hs.rows.keep (fun b hb=>same b (hc.rb b hb).1 (hs.rows.lt hb).2 (fun c hcc e=>(hs.cK c hcc).2.2.1 (e ▸ hb))),?_⟩
 ·rcases hb with rfl | hb
  · exact sG
  · exact same b (by have:=(hG b hb).1;have:=hc.gB;omega) (hG b hb).2 (fun c hcc e=>(hs.cK c hcc).2.2.2.2.2 (by rw [hb,e]))
 intro b hb;rw [hpg];rcases hk.pt with e | ⟨y,e,hy⟩
 ·rw [e] at hb
  obtain ⟨h1,h2,h3⟩:=hs.cK b hb;exact ⟨h1,Au h2 hk.size,h3⟩
 have hlt:=hk.lt b hb;rw [e] at hb;injection hb with hb;subst hb;refine ⟨by omega,hlt,fun hr=>by have:=(hs.rows.lt hr).2;omega,by have:=hs.op.lt;omega,by omega,fun e2=> ?_⟩;have:=(hG _ e2.symm).2;omega
end
theorem cR {rs:List Ce} {n:Nat} {x:Int} (h:∀y∈Ba rs x,0<=y/\y < n):(Ba rs x).length<=n:=by
 have:=XG (Ba rs x) ((List.range n).map Int.ofNat) (XH rs x) (fun y hy=>by have:=h y hy;exact Dd.2 ⟨y.toNat,Ed.2 AG,by show ((y.toNat:Nat):Int)=y;omega⟩)
 simpa using this
open Go.Shelf
attribute [local go_sem] Oper.semAt_some
theorem zl {w:AH} {b:Nat} {m:List (Int×Bool)} (h:KU (Value.int .i64) Value.bool w b m) (ty:Af):(Builtin.len_ #[209] ty #[.map (some b)]).run prog w=.ok (AE AF m.length) w:=by
 obtain ⟨es,clock,h1,h2,_⟩:=h;have hl:es.size=m.length:=by have:=congrArg List.length h2;simpa using this
 have:=run_len_map (P:=prog) w 209 ty b es clock AJ h1;rw [this,hl];rfl
theorem zk (w:AH) (ty:Af):(Builtin.len_ #[209] ty #[.map none]).run prog w=.ok (AE AF 0) w:=by have:=run_len_nilMap (P:=prog) w 209 ty AJ;rw [this];rfl
theorem qx (m n₀ B2 bg M n base0:Nat) (hs:List (Int×Nat)) (rs:List Ce) (w:AH) (hbg:AZ w bg 214 #[AE AF n,.map (some M)]) (hG:FU w base0 M hs (Ba rs)) (hin:∀h y,y∈Ba rs h->0<=y/\y < n) (hn:n<=1000) (hB2:B2 < w.heap.size) (hn₀:n₀<=w.heap.size):
 AGC Fence.wide m prog 182 #[AW (some ⟨bg,0,none⟩)] (fun x:Int=>#[AE AF x]) n₀ B2 (fun xs=>xs=Cg rs n) n w:=by
 intro l J W hW hp0 hJ hY h0;refine Et.2 ?_;have nj:=hbg.below hW hbg.lt;have b0:=nj.cell 0;have b1:=nj.cell 1;have lb:=nj.lt;simp only [Ak,Al,Az] at b0 b1;have uB:=AA (hG.below hW);have Qo:=AA hin;have HP0:=AA hp0;have HJ:=AA hJ;have HY:=AA hY;have WV:=AA h0;have dp:=AA nj;have hnW:n₀<=W.heap.size:=BH hn₀ hW.size;have vX:B2 < W.heap.size:=Au hB2 hW.size;clear hbg hG hin hp0 hJ hY h0 nj hW hB2;have hmk:=run_make_row' (P:=prog) 30 3 (AE AF 0) 8 underlying30 Vj rfl .i64 .i64 n AG AG;rw [WC] at hmk;go_enter func182,ntmps182;go_wp2_with fail
 go_region_held3 (fun w'=>w'.cell? ⟨bg,0,none⟩=some (AE AF n)/\w'.cell? ⟨bg,1,none⟩=some (.map (some M))/\AK W w')
  (first
   | exact ⟨(Lk ((Ae _ W).drew) (p:=⟨bg,0,none⟩) lb).trans b0,(Lk ((Ae _ W).drew) (p:=⟨bg,1,none⟩) lb).trans b1,(Ae _ W).drew⟩
   | exact ⟨(Lk ((Ae _ W).drew.trans hbu) (p:=⟨bg,0,none⟩) lb).trans b0,(Lk ((Ae _ W).drew.trans hbu) (p:=⟨bg,1,none⟩) lb).trans b1,(Ae _ W).drew.trans hbu⟩
   | exact ⟨(Lk (((Ae _ W).drew.trans hbu).alloc hbu.size _) (p:=⟨bg,0,none⟩) lb).trans b0,(Lk (((Ae _ W).drew.trans hbu).alloc hbu.size _) (p:=⟨bg,1,none⟩) lb).trans b1,((Ae _ W).drew.trans hbu).alloc hbu.size _⟩
   | exact ⟨(Lk ((Ae _ W).drew.alloc (Ac _) _) (p:=⟨bg,0,none⟩) lb).trans b0,(Lk ((Ae _ W).drew.alloc (Ac _) _) (p:=⟨bg,1,none⟩) lb).trans b1,(Ae _ W).drew.alloc (Ac _) _⟩
   | exact ⟨(Lk (((Ae _ W).drew.alloc (Ac _) _).trans (hbu.mono AX)) (p:=⟨bg,0,none⟩) lb).trans b0,(Lk (((Ae _ W).drew.alloc (Ac _) _).trans (hbu.mono AX)) (p:=⟨bg,1,none⟩) lb).trans b1,((Ae _ W).drew.alloc (Ac _) _).trans (hbu.mono AX)⟩)
  (first
   | (go_at_call 183;refine (iL base0 M n hs rs _ (uB.o.below (Ae _ W).drew) Qo.o hn).mono ?_;rintro e w' ⟨U,us,rfl,Qh,hbu⟩)
   | (go_at_call 183;refine (iL base0 M n hs rs _ (uB.o.below ((Ae _ W).drew.alloc (Ac _) _)) Qo.o hn).mono ?_;rintro e w' ⟨U,us,rfl,Qh,hbu⟩))
 ·obtain ⟨X,hX⟩:=Ad (w'.alloc (AO (Array.replicate n (AE AF 0)) 3))
  obtain ⟨O,hO⟩:=Ad w'.heap.size;have hwb:AK W w':=(Ae _ W).drew.trans hbu;have HX:AI (AK W X):=AA (by rw [hX];exact hwb.alloc hwb.size _);have de:AI (DI X (W.heap.size+1) U n us (fun x:Nat=>Bf rs n x)):=AA (by rw [hX];exact DI.alloc (base:=W.heap.size+1) Qh _);have I3:AI (AZ X O 3 (Array.replicate n (AE AF 0))):=AA (by rw [hX,hO];exact AZ.new _ _ _);have ny:W.heap.size<=O:=by rw [hO];exact hwb.size
  have Cf:AI (∀b,Tc U us b->b≠O):=AA (fun b hb=>by have:=(Qh.lt hb).2;omega);rw [<-hX,<-hO];clear hX hO hwb Qh hbu;have QT:=dp.o.below HX.o lb;have b0:=QT.cell 0;have b1:=QT.cell 1;have lbX:=QT.lt;simp only [Ak,Al,Az] at b0 b1;have hOX:=I3.o.lt;have Jb:AI (∀b,Tc U us b->W.heap.size<=b/\b < X.heap.size/\b≠O):=AA (fun b hb=>⟨by have:=(de.o.lt hb).1;omega,(de.o.lt hb).2,Cf.o b hb⟩);clear QT hmk;go_wp2_with fail;obtain ⟨Y,hY⟩:=Ad (X.alloc (AO #[AB none 0 0] 305));obtain ⟨G,hG⟩:=Ad X.heap.size;obtain ⟨base,hbase⟩:=Ad (X.heap.size+1);have hXW:=HX.o.size;have X9:AI (AK W Y):=AA rU;have HRY:AI (DI Y (W.heap.size+1) U n us (fun x:Nat=>Bf rs n x)):=AA (by rw [hY];exact de.o.alloc _);have tx:AI (AZ Y O 3 (Array.replicate n (AE AF 0))):=AA (by rw [hY];exact I3.o.alloc _);have Nf:AI (FT Y base G (DV rs 0)):=AA sI;have hGW:W.heap.size<=G:=AG
  have nz:O≠G:=AG
  have hOb:O < base:=AG
  have SE:AI (∀b,Tc U us b->W.heap.size<=b/\b < base/\b≠O/\b≠G):=AA (fun b hb=>by have:=Jb.o b hb;omega);rw [<-hY,<-hG];clear hY hG hbase b0 b1 hXW de I3 HX;go_loopg [20] n (fun q i wr=>∃k:Nat,k<=n/\q=n - k/\i=AE AF k/\AZ wr O 3 (((Hy rs k++List.replicate (n - k) 0).map (Value.int .i64)).toArray)/\FT wr base G (DV rs k)/\DI wr (W.heap.size+1) U n us (fun x:Nat=>Bf rs n x)/\AK W wr)
  case atStart=>exact xg
  clear X9 HRY tx Nf;obtain ⟨k,hk,hq,rfl,ho,hqa,hr,hb⟩:=hrel;have HQ:=AA hq;have HO:=AA ho;have jU:=AA hqa;have HR:=AA hr;have HB:=AA hb;clear hq ho hqa hr hb;by_cases hlt:k < n
  case neg=>
   obtain rfl:k=n:=AG
   go_wp2_with fail
   skip
   have tZ:ItC W.heap.size B2 U O G base us:=⟨vX,ny,hOb,nz,hGW,fun b hb=>SE.o b hb⟩;have vH:Dx B2 wr=Dx B2 W:=OH (HB.o.block B2 vX);have hIS:R5 n₀ B2 (W.heap.size+1) U O G base k us (fun x:Nat=>Bf rs k x) wr (Hy rs k) (DV rs k):=by
    refine ⟨?_,jU.o,HR.o,fun b hb=> ?_⟩
    ·have:=HO.o
     simpa using this
    exact yM
   have hJ1:J [] wr:=HJ.o _ _ _ WV.o ⟨HB.o.os,HB.o.tape,HB.o.output,HB.o.size,fun b hb h=>by
    rcases h with h | h
    · exact HB.o.block b h
    · exact HB.o.block b (HP0.o b h.symm).2⟩
   have hcb:∀c∈Hy rs k, -(1000*((([]:AQ)).length:Int))<=c/\c<=1000:=by intro c hcc;unfold Hy at hcc;obtain ⟨y,hy,rfl⟩:=Dd.1 hcc;have:=cR (rs:=rs) (n:=k) (x:=(y:Int)) (fun z hz=>Qo.o _ z hz);simp;omega
   have SL:=AA tZ;have xF:=AA hIS;have Zp:=AA hJ1;have xK:=AA hcb;have i7:W.heap.size<=wr.heap.size:=HB.o.size;clear tZ vH hIS hJ1 hcb HO jU HR HB HQ hk hlt Jb SE Cf dp uB Qo HP0;obtain ⟨wy,rfl⟩:=Ad wr;go_loopg [46] k (fun q _ wr=>∃(o h pre:AQ) (fuel:Nat),q=JC o h/\o.length=k/\R5 n₀ B2 (W.heap.size+1) U O G base k us (fun x:Nat=>Bf rs k x) wr o h/\J pre wr/\W.heap.size<=wr.heap.size/\(∀y∈h,0<=y/\y < k)/\pre.length+JC o h<=k/\JC o h<=fuel/\pre++Jt (fun x:Nat=>Bf rs k x) fuel o h=Cg rs k/\(∀c∈o, -(1000*(pre.length:Int))<=c/\c<=1000))
   case atStart=>exact yI
   clear xF Zp xK i7;obtain ⟨o,h,pre,fuel,hq,hol,his,hj,i7,hhm,hpl,hpf,hgo,hcb⟩:=hrel;have HQ:=AA hq;have HOL:=AA hol;have HIS:=AA his;have HJP:=AA hj;have HHM:=AA hhm;have SF:=AA hpl;have HPF:=AA hpf;have pM:=AA hgo;have MD:=AA hcb;have hhl:h.length<=k:=by unfold JC at hpl;omega
   clear hq hol his hj hhm hpl hpf hgo hcb;by_cases hpos:0 < h.length
   case neg=>
    obtain rfl:h=[]:=Ie AG;have HF:AI (pre=Cg rs k):=AA sB;have hvf:∃A c,AZ wr G 305 #[AB A 0 c]:=by
     obtain ⟨v,h1,h2,_⟩:=HIS.o.q;rcases h2.2 with ⟨rfl,_⟩ | ⟨g,cap,cur,rfl,_⟩
     · exact ⟨_,_,h1⟩
     · exact ⟨_,_,h1⟩
    obtain ⟨A,c,hkb⟩:=hvf;have c0:=hkb.cell 0;have lG:=hkb.lt;simp only [Ak,Al] at c0;clear hkb;go_wp2_with (go_at_call 185;refine (len_any _ _ _ _).mono ?_;rintro e w2 ⟨rfl,rfl⟩)
    go_end0
    exact ⟨⟨_,rfl⟩,pre,HF.o,HJP.o⟩
   obtain ⟨g,cap,AHt,AHy,AHr,hkb,hown⟩:=HIS.o.q.form hpos;have c0:=hkb.cell 0;have lG:=hkb.lt;simp only [Ak,Al] at c0;have AHj:(0:Int) < (h.length:Int):=AG
   have AB9:h.length<=1000000:=AG
   obtain ⟨x,hx⟩:=BP ((MO h).getD (h.length - 1) 0);obtain ⟨h1,hh1⟩:=BP ((MO h).take (h.length - 1));have HX1:=AA hx;have HH1:=AA hh1;have hpc:=ZS base G h wr HIS.o.q hpos AB9;rw [hx,hh1] at hpc;have hxm:0<=x/\x < k:=HHM.o x (Va hpos ru);have nY:∀y∈h1,0<=y/\y < k:=fun y hy=>HHM.o y (Va hpos (List.mem_of_mem_take (by rw [hh1];exact hy)));have hl1:h1.length=h.length - 1:=by rw [<-hh1,ER,QD];omega
   have AGi:=AA nY;have SJ:=AA hl1;have HPC:=AA hpc;have hta:=Xo x;clear hkb hown hx hh1 hpc nY hl1;go_upto_region 11 with (first
    | (go_at_call 185;refine (len_any _ _ _ _).mono ?_;rintro e w2 ⟨rfl,rfl⟩)
    | (go_at_call 186;refine HPC.o.mono ?_))
   first | rintro e w1 rfl hq1 hk1 | rintro e w1 ⟨rfl,hq1,hk1⟩
   obtain ⟨hs1,nP⟩:=HIS.o.kept SL.o hk1 hq1;have hj1:=HJ.o _ _ _ HJP.o nP;have nw:W.heap.size<=w1.heap.size:=BH i7 hk1.size;obtain ⟨fn,tmps,assign,body,hy,hR⟩:=HY.o pre x w1 hj1 rP;have JY:=AA hs1;have HR:=AA hR;clear hq1 hk1 hs1 nP hj1 hR;go_upto_region 11 with fail;refine (Dr (n:=m)).1 ?_
   gi_wp2
   refine ⟨(fun h=>by cases h),HR.o.mono ?_⟩;rintro e w2 ⟨rfl,hj2,hkp⟩;have hs2:=JY.o.round SL.o hkp hnW nw;have Vy:AI (W.heap.size<=w2.heap.size):=AA (BH nw hkp.size);have HJ2:=AA hj2;have HS2:=AA hs2;obtain ⟨xn,rfl⟩:∃xn:Nat,x=xn:=⟨x.toNat,by omega⟩;have hxk:xn < k:=AG
   have hx0:(0:Int)<=(xn:Int):=AG
   have hx1:(xn:Int) < (k:Int):=AG
   have hxl:xn < us.length:=by rw [hs2.rows.len];exact hxk
   obtain ⟨v,hv⟩:∃v,us[xn]? =some v:=⟨_,BJ hxl⟩;have hrow:=(hs2.rows.row xn v hv).1;have hcell:=hs2.rows.blk.cell xn;rw [Ak,hv] at hcell;have cp:=TN rs k xn;have hvf:∃A c,v=AB A (Bf rs k xn).length c:=by
    rcases hrow.2 with ⟨rfl,h0⟩ | ⟨g,cap,cur,rfl,_⟩
    · exact ⟨_,_,by rw [h0]⟩
    · exact ⟨_,_,rfl⟩
   obtain ⟨A,c,rfl⟩:=hvf;obtain ⟨L,hL⟩:=BP (Bf rs k xn);have HL:=AA hL;have HV:=AA hv;rw [hL] at cp hcell;have hLn:L.length<=1000:=AG
   have HLM:AI (∀y∈L,0<=y/\y < k):=AA (fun y hy=>ZI (rs:=rs) (k:=k) (x:=xn) (by rw [hL];exact hy));clear hj2 hkp hs2 hrow hv hL hy hxl
   gi_wp2
   go_wp2_with fail;clear hcell;obtain ⟨wz,rfl⟩:=Ad wr;go_loopg [68] L.length (fun q i wr=>∃(j:Nat) (o2 h2:AQ),j<=L.length/\q=L.length - j/\i=AE AF j/\(L.take j).foldl Jd (o,h1)=(o2,h2)/\o2.length=k/\R5 n₀ B2 (W.heap.size+1) U O G base k us (fun x:Nat=>Bf rs k x) wr o2 h2/\J (pre++[(xn:Int)]) wr/\W.heap.size<=wr.heap.size/\(∀y∈h2,0<=y/\y < k)/\JC o2 h2<=JC o h1/\(∀c∈o2, -(1000*(pre.length:Int)) - j<=c/\c<=1000))
   case atStart=>exact xw
   clear HS2 HJ2 Vy;obtain ⟨j,o2,h2,hj,hq,rfl,hf,Vm,hs,hjp,nu,nX,hpo,hcb2⟩:=hrel;have Io:=AA hq;have HF:=AA hf;have wd:=AA Vm;have HS:=AA hs;have xD:=AA hjp;have pL:=AA nX;have o6:=AA hpo;have g9:=AA hcb2;have Vy:=AA nu;clear hq hf hjp nX hpo hcb2 nu;by_cases hlt:j < L.length
   case neg=>
    have pO:AI (L.foldl Jd (o,h1)=(o2,h2)):=AA sC;have AGk:AI (∃f',fuel=f'+1/\(pre++[(xn:Int)])++Jt (fun x:Nat=>Bf rs k x) f' o2 h2=Cg rs k):=AA sN
    clear hs Vm;go_wp2_with fail;go_roundg (JC o2 h2)
    case measure=>exact xY
    exact yR
   obtain ⟨u,hu⟩:∃u,L[j]? =some u:=⟨_,BJ hlt⟩;have hum:=HLM.o u (CS hu);obtain ⟨un,rfl⟩:∃un:Nat,u=un:=⟨u.toNat,by omega⟩;have hrow:=(hs.rows.row xn _ HV.o).1;rw [HL.o] at hrow;obtain ⟨rg,AEz,hre⟩:=Joins.ownsRow_form hrow AG;injection hre with hA _ hc2;subst hA;subst hc2;have hcj:=hrow.cellAt j AG;rw [Bb,hu] at hcj;have hcj:wr.cell? ⟨rg,j,none⟩=some (AE AF un):=hcj;have Vl:un < o2.length:=by rw [Vm];omega
   obtain ⟨ov,hov⟩:∃ov,o2[un]? =some ov:=⟨_,BJ Vl⟩;have hco:=hs.op.cell un;rw [Ak,Bb,hov] at hco;have hco:wr.cell? ⟨O,un,none⟩=some (AE AF ov):=hco;have hfo:=hs.op.frozen un;have AB2:=g9.o ov (CS hov);have AB1:pre.length<=1000:=by have:=SF.o;omega
   have e1:IntKind.i64.wrap (ov - 1)=ov - 1:=CN _ AG;have hu0:(0:Int)<=(un:Int):=AG
   have hu1:(un:Int) < (k:Int):=AG
   have hj0:(0:Int)<=(j:Int):=AG
   have hj1:(j:Int) < (L.length:Int):=AG
   have lrg:=(hrow.lt rg rfl).2;have lO:=hs.op.lt;obtain ⟨hsp,aL⟩:=hs.put SL.o un (ov - 1);have Sz:=AA hsp;have gy:=AA (HJ.o _ _ _ xD.o aL);have gX:AI (W.heap.size<=(wr.setCell ⟨O,un,none⟩ (AE AF (ov - 1))).heap.size):=AA (BH Vy.o aL.size);have hgd:o2.getD un 0=ov:=by rw [Cv,hov];rfl
   have VD:AI (Jd (o2,h2) (un:Int)=(o2.set un (ov - 1),if ov - 1=0 then LQ h2 un else h2)):=AA (by
    unfold Jd;simp only [Cm,hgd];have:(o2.set un (ov - 1)).getD un 0=ov - 1:=by rw [Cv,F9 Vl];rfl
    rw [this])
   have HPU:AI (JC (Jd (o2,h2) (un:Int)).1 (Jd (o2,h2) (un:Int)).2<=JC o2 h2):=AA (lh (by simpa using Vl));have HF2:AI ((L.take (j+1)).foldl Jd (o,h1)=Jd (o2,h2) (un:Int)):=AA rk;have pU:AI (∀c∈o2.set un (ov - 1), -(1000*(pre.length:Int)) - ((j+1:Nat):Int)<=c/\c<=1000):=AA (fun c hc=>by
    rcases Tz hc with hc | rfl
    · have:=g9.o c hc;omega
    · omega)
   have hh2:h2.length < 1000000:=by have h1':=o6.o;have h2':=SF.o;have h3':=SJ.o;unfold JC at h1' h2';omega
   have HUM:AI ((0:Int)<=(un:Int)/\(un:Int) < k):=AA hum;clear hrow hs Vm hu hum hov AB2 hsp aL hgd AB1 Vl;by_cases hz:ov - 1=0
   ·have ft:ov=1:=by omega
    subst ft;have e3:(1:Int) - 1=0:=Ah
    simp only [e3] at Sz gy gX VD pU;rw [Ao trivial] at VD;clear e1 hz;go_wp2_with (go_at_call 184;refine (Ov base G h2 un _ Sz.o.q hh2).mono ?_)
    first | rintro e w3 u rfl hq3 hk3 | rintro e w3 ⟨⟨u,rfl⟩,hq3,hk3⟩
    obtain ⟨hs3,aM⟩:=Sz.o.kept SL.o hk3 hq3;have J6:=AA hs3;have AGg:=AA (HJ.o _ _ _ gy.o aM);have AGI:AI (W.heap.size<=w3.heap.size):=AA (BH gX.o aM.size);have AGh:AI (∀y∈LQ h2 (un:Int),0<=y/\y < k):=AA (fun y hy=>by
     rcases Wy hy with hy | rfl
     · exact pL.o y hy
     · exact HUM.o)
    clear hq3 hk3 hs3 aM hco hfo hcj;go_wp2_with fail;go_roundg (L.length - (j+1))
    case measure=>exact Jw
    exact yK
   rw [Ai hz] at VD;go_wp2_with fail;go_roundg (L.length - (j+1))
   case measure=>exact Jw
   exact yL
  have hkn:(k:Int) < (n:Int):=AG
  have hk0:=Int.natCast_nonneg k
  have QT:=dp.o.below HB.o lb;have b0:=QT.cell 0;have b1:=QT.cell 1;simp only [Ak,Al,Az] at b0 b1;have hck:=HO.o.cell k;have hfk:=HO.o.frozen k;have hke:((Hy rs k++List.replicate (n - k) 0).map (Value.int .i64))[k]? =some (AE AF 0):=by rw [Bb,Cp Yk,P3,PK,YX,Ao AG];rfl
  rw [Ak,hke] at hck;have hG2:=uB.o.below HB.o;have hlook:=C8 (GI underlying3) underlying212 (z:=.map none) AJ hG2.o (k:Int) false;have HLV:AI (∃v,(Instr.lookup 212 (.map (some M)) (AE AF k) false).run prog wr=.ok v wr/\∀ty,(Builtin.len_ #[209] ty #[v]).run prog wr=.ok (AE AF (Ba rs k).length) wr):=AA (by
   cases hm:getM hs (k:Int) with
   |
    none=>
    rw [hm] at hlook;refine ⟨_,hlook,fun ty=> ?_⟩;have:=zk wr ty;rw [hG2.rest _ (getM_none.1 hm)];exact this
   |
    some b=>
    rw [hm] at hlook;refine ⟨_,hlook,fun ty=> ?_⟩;have:=zl (hG2.ins _ (Ry hm)).2.2 ty;rw [show (Ep (Ba rs (k:Int))).length=(Ba rs (k:Int)).length by simp [Ep]] at this;exact this)
  obtain ⟨v,hlv,cy⟩:=HLV.o;obtain ⟨c,hc⟩:∃c,(Ba rs (k:Int)).length=c:=⟨_,rfl⟩;have HC:=AA hc;rw [hc] at cy;clear hG2 hlook QT hke hc;have Jc:AI (AZ (wr.setCell ⟨O,k,none⟩ (AE AF c)) O 3 (((Hy rs (k+1)++List.replicate (n - (k+1)) 0).map (Value.int .i64)).toArray)):=AA (by
   have:=HO.o.put k (AE AF c);have he:(((Hy rs k++List.replicate (n - k) 0).map (Value.int .i64)).toArray).setIfInBounds k (AE AF c)=(((Hy rs (k+1)++List.replicate (n - (k+1)) 0).map (Value.int .i64)).toArray):=by rw [Lr,<-Q8,Xm,HC.o];congr 2;rw [YV _ _ Yk,P3,PK,show n - k=(n - (k+1))+1 by omega,List.replicate_succ,Ct];simp
   rw [he] at this;exact this)
  have Io:AI (FT (wr.setCell ⟨O,k,none⟩ (AE AF c)) base G (DV rs k)):=AA (jU.o.put hOb nz _ _);have HR2:AI (DI (wr.setCell ⟨O,k,none⟩ (AE AF c)) (W.heap.size+1) U n us (fun x:Nat=>Bf rs n x)):=AA (HR.o.keep (fun b hb=>D6 _ _ _ b (SE.o b hb).2.2.1));have HB2:AI (AK W (wr.setCell ⟨O,k,none⟩ (AE AF c))):=AA (HB.o.setCell (show W.heap.size<=O from ny) _);have hsl:(DV rs k).length<=k:=by have:=OE rs k;unfold JC at this;omega
  by_cases hc0:c=0
  ·subst hc0
   have HS:AI (DV rs (k+1)=LQ (DV rs k) k):=AA (by rw [NT,Ao HC.o]);go_wp2_with (go_at_call 184;refine (Ov base G (DV rs k) k _ Io.o AG).mono ?_)
   first | rintro e w2 u rfl hq2 hk2 | rintro e w2 ⟨⟨u,rfl⟩,hq2,hk2⟩
   have I4:AI (AZ w2 O 3 (((Hy rs (k+1)++List.replicate (n - (k+1)) 0).map (Value.int .i64)).toArray)):=AA ((hk2.low Io.o hOb nz).trans Jc.o);have HR3:=AA (HR2.o.keep (fun b hb=>hk2.low Io.o (SE.o b hb).2.1 (SE.o b hb).2.2.2));have HB3:AI (AK W w2):=AA (HB2.o.trans (hk2.below Io.o hGW));rw [<-HS.o] at hq2;have Xz:=AA hq2;clear hq2 hk2 hlv cy;go_wp2_with fail;go_roundg (n - (k+1))
   case measure=>exact BS
   case rel=>exact xP
  have hcz:¬(c:Int)=0:=AG
  have HS:AI (DV rs (k+1)=DV rs k):=AA ro;go_wp2_with fail;go_roundg (n - (k+1))
  case measure=>exact BS
  case rel=>exact xZ
 obtain ⟨X,hX⟩:=Ad w';obtain ⟨O,hO⟩:=Ad W.heap.size;have hwb:AK W w':=((Ae _ W).drew.alloc (Ac _) (AO (Array.replicate n (AE AF 0)) 3)).trans (hbu.mono AX);have HX:AI (AK W X):=AA (by rw [hX];exact hwb);have de:AI (DI X (W.heap.size+1+1) U n us (fun x:Nat=>Bf rs n x)):=AA (by rw [hX];have:=Qh;simp only [Ee] at this;exact this);have I3:AI (AZ X O 3 (Array.replicate n (AE AF 0))):=AA (by rw [hX,hO];exact (AZ.new W.drew _ _).below hbu AX);have ny:W.heap.size<=O:=AG
 have Cf:AI (∀b,Tc U us b->b≠O):=AA (fun b hb=>by have:=(Qh.lt hb).1;simp at this;omega);rw [<-hX,<-hO];clear hX hO hwb Qh hbu;have QT:=dp.o.below HX.o lb;have b0:=QT.cell 0;have b1:=QT.cell 1;have lbX:=QT.lt;simp only [Ak,Al,Az] at b0 b1;have hOX:=I3.o.lt;have Jb:AI (∀b,Tc U us b->W.heap.size<=b/\b < X.heap.size/\b≠O):=AA (fun b hb=>⟨by have:=(de.o.lt hb).1;omega,(de.o.lt hb).2,Cf.o b hb⟩);clear QT hmk;go_wp2_with fail;obtain ⟨Y,hY⟩:=Ad (X.alloc (AO #[AB none 0 0] 305));obtain ⟨G,hG⟩:=Ad X.heap.size;obtain ⟨base,hbase⟩:=Ad (X.heap.size+1);have hXW:=HX.o.size;have X9:AI (AK W Y):=AA rU;have HRY:AI (DI Y (W.heap.size+1+1) U n us (fun x:Nat=>Bf rs n x)):=AA (by rw [hY];exact de.o.alloc _);have tx:AI (AZ Y O 3 (Array.replicate n (AE AF 0))):=AA (by rw [hY];exact I3.o.alloc _);have Nf:AI (FT Y base G (DV rs 0)):=AA sI;have hGW:W.heap.size<=G:=AG
 have nz:O≠G:=AG
 have hOb:O < base:=AG
 have SE:AI (∀b,Tc U us b->W.heap.size<=b/\b < base/\b≠O/\b≠G):=AA (fun b hb=>by have:=Jb.o b hb;omega);rw [<-hY,<-hG];clear hY hG hbase b0 b1 hXW de I3 HX;go_loopg [20] n (fun q i wr=>∃k:Nat,k<=n/\q=n - k/\i=AE AF k/\AZ wr O 3 (((Hy rs k++List.replicate (n - k) 0).map (Value.int .i64)).toArray)/\FT wr base G (DV rs k)/\DI wr (W.heap.size+1+1) U n us (fun x:Nat=>Bf rs n x)/\AK W wr)
 case atStart=>exact xg
 clear X9 HRY tx Nf;obtain ⟨k,hk,hq,rfl,ho,hqa,hr,hb⟩:=hrel;have HQ:=AA hq;have HO:=AA ho;have jU:=AA hqa;have HR:=AA hr;have HB:=AA hb;clear hq ho hqa hr hb;by_cases hlt:k < n
 case neg=>
  obtain rfl:k=n:=AG
  go_wp2_with fail
  skip
  have tZ:ItC W.heap.size B2 U O G base us:=⟨vX,ny,hOb,nz,hGW,fun b hb=>SE.o b hb⟩;have vH:Dx B2 wr=Dx B2 W:=OH (HB.o.block B2 vX);have hIS:R5 n₀ B2 (W.heap.size+1+1) U O G base k us (fun x:Nat=>Bf rs k x) wr (Hy rs k) (DV rs k):=by
   refine ⟨?_,jU.o,HR.o,fun b hb=> ?_⟩
   ·have:=HO.o
    simpa using this
   exact yM
  have hJ1:J [] wr:=HJ.o _ _ _ WV.o ⟨HB.o.os,HB.o.tape,HB.o.output,HB.o.size,fun b hb h=>by
   rcases h with h | h
   · exact HB.o.block b h
   · exact HB.o.block b (HP0.o b h.symm).2⟩
  have hcb:∀c∈Hy rs k, -(1000*((([]:AQ)).length:Int))<=c/\c<=1000:=by intro c hcc;unfold Hy at hcc;obtain ⟨y,hy,rfl⟩:=Dd.1 hcc;have:=cR (rs:=rs) (n:=k) (x:=(y:Int)) (fun z hz=>Qo.o _ z hz);simp;omega
  have SL:=AA tZ;have xF:=AA hIS;have Zp:=AA hJ1;have xK:=AA hcb;have i7:W.heap.size<=wr.heap.size:=HB.o.size;clear tZ vH hIS hJ1 hcb HO jU HR HB HQ hk hlt Jb SE Cf dp uB Qo HP0;obtain ⟨wy,rfl⟩:=Ad wr;go_loopg [46] k (fun q _ wr=>∃(o h pre:AQ) (fuel:Nat),q=JC o h/\o.length=k/\R5 n₀ B2 (W.heap.size+1+1) U O G base k us (fun x:Nat=>Bf rs k x) wr o h/\J pre wr/\W.heap.size<=wr.heap.size/\(∀y∈h,0<=y/\y < k)/\pre.length+JC o h<=k/\JC o h<=fuel/\pre++Jt (fun x:Nat=>Bf rs k x) fuel o h=Cg rs k/\(∀c∈o, -(1000*(pre.length:Int))<=c/\c<=1000))
  case atStart=>exact yI
  clear xF Zp xK i7;obtain ⟨o,h,pre,fuel,hq,hol,his,hj,i7,hhm,hpl,hpf,hgo,hcb⟩:=hrel;have HQ:=AA hq;have HOL:=AA hol;have HIS:=AA his;have HJP:=AA hj;have HHM:=AA hhm;have SF:=AA hpl;have HPF:=AA hpf;have pM:=AA hgo;have MD:=AA hcb;have hhl:h.length<=k:=by unfold JC at hpl;omega
  clear hq hol his hj hhm hpl hpf hgo hcb;by_cases hpos:0 < h.length
  case neg=>
   obtain rfl:h=[]:=Ie AG;have HF:AI (pre=Cg rs k):=AA sB;have hvf:∃A c,AZ wr G 305 #[AB A 0 c]:=by
    obtain ⟨v,h1,h2,_⟩:=HIS.o.q;rcases h2.2 with ⟨rfl,_⟩ | ⟨g,cap,cur,rfl,_⟩
    · exact ⟨_,_,h1⟩
    · exact ⟨_,_,h1⟩
   obtain ⟨A,c,hkb⟩:=hvf;have c0:=hkb.cell 0;have lG:=hkb.lt;simp only [Ak,Al] at c0;clear hkb;go_wp2_with (go_at_call 185;refine (len_any _ _ _ _).mono ?_;rintro e w2 ⟨rfl,rfl⟩)
   go_end0
   exact ⟨⟨_,rfl⟩,pre,HF.o,HJP.o⟩
  obtain ⟨g,cap,AHt,AHy,AHr,hkb,hown⟩:=HIS.o.q.form hpos;have c0:=hkb.cell 0;have lG:=hkb.lt;simp only [Ak,Al] at c0;have AHj:(0:Int) < (h.length:Int):=AG
  have AB9:h.length<=1000000:=AG
  obtain ⟨x,hx⟩:=BP ((MO h).getD (h.length - 1) 0);obtain ⟨h1,hh1⟩:=BP ((MO h).take (h.length - 1));have HX1:=AA hx;have HH1:=AA hh1;have hpc:=ZS base G h wr HIS.o.q hpos AB9;rw [hx,hh1] at hpc;have hxm:0<=x/\x < k:=HHM.o x (Va hpos ru);have nY:∀y∈h1,0<=y/\y < k:=fun y hy=>HHM.o y (Va hpos (List.mem_of_mem_take (by rw [hh1];exact hy)));have hl1:h1.length=h.length - 1:=by rw [<-hh1,ER,QD];omega
  have AGi:=AA nY;have SJ:=AA hl1;have HPC:=AA hpc;have hta:=Xo x;clear hkb hown hx hh1 hpc nY hl1;go_upto_region 11 with (first
   | (go_at_call 185;refine (len_any _ _ _ _).mono ?_;rintro e w2 ⟨rfl,rfl⟩)
   | (go_at_call 186;refine HPC.o.mono ?_))
  first | rintro e w1 rfl hq1 hk1 | rintro e w1 ⟨rfl,hq1,hk1⟩
  obtain ⟨hs1,nP⟩:=HIS.o.kept SL.o hk1 hq1;have hj1:=HJ.o _ _ _ HJP.o nP;have nw:W.heap.size<=w1.heap.size:=BH i7 hk1.size;obtain ⟨fn,tmps,assign,body,hy,hR⟩:=HY.o pre x w1 hj1 rP;have JY:=AA hs1;have HR:=AA hR;clear hq1 hk1 hs1 nP hj1 hR;go_upto_region 11 with fail;refine (Dr (n:=m)).1 ?_
  gi_wp2
  refine ⟨(fun h=>by cases h),HR.o.mono ?_⟩;rintro e w2 ⟨rfl,hj2,hkp⟩;have hs2:=JY.o.round SL.o hkp hnW nw;have Vy:AI (W.heap.size<=w2.heap.size):=AA (BH nw hkp.size);have HJ2:=AA hj2;have HS2:=AA hs2;obtain ⟨xn,rfl⟩:∃xn:Nat,x=xn:=⟨x.toNat,by omega⟩;have hxk:xn < k:=AG
  have hx0:(0:Int)<=(xn:Int):=AG
  have hx1:(xn:Int) < (k:Int):=AG
  have hxl:xn < us.length:=by rw [hs2.rows.len];exact hxk
  obtain ⟨v,hv⟩:∃v,us[xn]? =some v:=⟨_,BJ hxl⟩;have hrow:=(hs2.rows.row xn v hv).1;have hcell:=hs2.rows.blk.cell xn;rw [Ak,hv] at hcell;have cp:=TN rs k xn;have hvf:∃A c,v=AB A (Bf rs k xn).length c:=by
   rcases hrow.2 with ⟨rfl,h0⟩ | ⟨g,cap,cur,rfl,_⟩
   · exact ⟨_,_,by rw [h0]⟩
   · exact ⟨_,_,rfl⟩
  obtain ⟨A,c,rfl⟩:=hvf;obtain ⟨L,hL⟩:=BP (Bf rs k xn);have HL:=AA hL;have HV:=AA hv;rw [hL] at cp hcell;have hLn:L.length<=1000:=AG
  have HLM:AI (∀y∈L,0<=y/\y < k):=AA (fun y hy=>ZI (rs:=rs) (k:=k) (x:=xn) (by rw [hL];exact hy));clear hj2 hkp hs2 hrow hv hL hy hxl
  gi_wp2
  go_wp2_with fail;clear hcell;obtain ⟨wz,rfl⟩:=Ad wr;go_loopg [68] L.length (fun q i wr=>∃(j:Nat) (o2 h2:AQ),j<=L.length/\q=L.length - j/\i=AE AF j/\(L.take j).foldl Jd (o,h1)=(o2,h2)/\o2.length=k/\R5 n₀ B2 (W.heap.size+1+1) U O G base k us (fun x:Nat=>Bf rs k x) wr o2 h2/\J (pre++[(xn:Int)]) wr/\W.heap.size<=wr.heap.size/\(∀y∈h2,0<=y/\y < k)/\JC o2 h2<=JC o h1/\(∀c∈o2, -(1000*(pre.length:Int)) - j<=c/\c<=1000))
  case atStart=>exact xw
  clear HS2 HJ2 Vy;obtain ⟨j,o2,h2,hj,hq,rfl,hf,Vm,hs,hjp,nu,nX,hpo,hcb2⟩:=hrel;have Io:=AA hq;have HF:=AA hf;have wd:=AA Vm;have HS:=AA hs;have xD:=AA hjp;have pL:=AA nX;have o6:=AA hpo;have g9:=AA hcb2;have Vy:=AA nu;clear hq hf hjp nX hpo hcb2 nu;by_cases hlt:j < L.length
  case neg=>
   have pO:AI (L.foldl Jd (o,h1)=(o2,h2)):=AA sC;have AGk:AI (∃f',fuel=f'+1/\(pre++[(xn:Int)])++Jt (fun x:Nat=>Bf rs k x) f' o2 h2=Cg rs k):=AA sN
   clear hs Vm;go_wp2_with fail;go_roundg (JC o2 h2)
   case measure=>exact xY
   exact yR
  obtain ⟨u,hu⟩:∃u,L[j]? =some u:=⟨_,BJ hlt⟩;have hum:=HLM.o u (CS hu);obtain ⟨un,rfl⟩:∃un:Nat,u=un:=⟨u.toNat,by omega⟩;have hrow:=(hs.rows.row xn _ HV.o).1;rw [HL.o] at hrow;obtain ⟨rg,AEz,hre⟩:=Joins.ownsRow_form hrow AG;injection hre with hA _ hc2;subst hA;subst hc2;have hcj:=hrow.cellAt j AG;rw [Bb,hu] at hcj;have hcj:wr.cell? ⟨rg,j,none⟩=some (AE AF un):=hcj;have Vl:un < o2.length:=by rw [Vm];omega
  obtain ⟨ov,hov⟩:∃ov,o2[un]? =some ov:=⟨_,BJ Vl⟩;have hco:=hs.op.cell un;rw [Ak,Bb,hov] at hco;have hco:wr.cell? ⟨O,un,none⟩=some (AE AF ov):=hco;have hfo:=hs.op.frozen un;have AB2:=g9.o ov (CS hov);have AB1:pre.length<=1000:=by have:=SF.o;omega
  have e1:IntKind.i64.wrap (ov - 1)=ov - 1:=CN _ AG;have hu0:(0:Int)<=(un:Int):=AG
  have hu1:(un:Int) < (k:Int):=AG
  have hj0:(0:Int)<=(j:Int):=AG
  have hj1:(j:Int) < (L.length:Int):=AG
  have lrg:=(hrow.lt rg rfl).2;have lO:=hs.op.lt;obtain ⟨hsp,aL⟩:=hs.put SL.o un (ov - 1);have Sz:=AA hsp;have gy:=AA (HJ.o _ _ _ xD.o aL);have gX:AI (W.heap.size<=(wr.setCell ⟨O,un,none⟩ (AE AF (ov - 1))).heap.size):=AA (BH Vy.o aL.size);have hgd:o2.getD un 0=ov:=by rw [Cv,hov];rfl
  have VD:AI (Jd (o2,h2) (un:Int)=(o2.set un (ov - 1),if ov - 1=0 then LQ h2 un else h2)):=AA (by
   unfold Jd;simp only [Cm,hgd];have:(o2.set un (ov - 1)).getD un 0=ov - 1:=by rw [Cv,F9 Vl];rfl
   rw [this])
  have HPU:AI (JC (Jd (o2,h2) (un:Int)).1 (Jd (o2,h2) (un:Int)).2<=JC o2 h2):=AA (lh (by simpa using Vl));have HF2:AI ((L.take (j+1)).foldl Jd (o,h1)=Jd (o2,h2) (un:Int)):=AA rk;have pU:AI (∀c∈o2.set un (ov - 1), -(1000*(pre.length:Int)) - ((j+1:Nat):Int)<=c/\c<=1000):=AA (fun c hc=>by
   rcases Tz hc with hc | rfl
   · have:=g9.o c hc;omega
   · omega)
  have hh2:h2.length < 1000000:=by have h1':=o6.o;have h2':=SF.o;have h3':=SJ.o;unfold JC at h1' h2';omega
  have HUM:AI ((0:Int)<=(un:Int)/\(un:Int) < k):=AA hum;clear hrow hs Vm hu hum hov AB2 hsp aL hgd AB1 Vl;by_cases hz:ov - 1=0
  ·have ft:ov=1:=by omega
   subst ft;have e3:(1:Int) - 1=0:=Ah
   simp only [e3] at Sz gy gX VD pU;rw [Ao trivial] at VD;clear e1 hz;go_wp2_with (go_at_call 184;refine (Ov base G h2 un _ Sz.o.q hh2).mono ?_)
   first | rintro e w3 u rfl hq3 hk3 | rintro e w3 ⟨⟨u,rfl⟩,hq3,hk3⟩
   obtain ⟨hs3,aM⟩:=Sz.o.kept SL.o hk3 hq3;have J6:=AA hs3;have AGg:=AA (HJ.o _ _ _ gy.o aM);have AGI:AI (W.heap.size<=w3.heap.size):=AA (BH gX.o aM.size);have AGh:AI (∀y∈LQ h2 (un:Int),0<=y/\y < k):=AA (fun y hy=>by
    rcases Wy hy with hy | rfl
    · exact pL.o y hy
    · exact HUM.o)
   clear hq3 hk3 hs3 aM hco hfo hcj;go_wp2_with fail;go_roundg (L.length - (j+1))
   case measure=>exact Jw
   exact yK
  rw [Ai hz] at VD;go_wp2_with fail;go_roundg (L.length - (j+1))
  case measure=>exact Jw
  exact yL
 have hkn:(k:Int) < (n:Int):=AG
 have hk0:=Int.natCast_nonneg k
 have QT:=dp.o.below HB.o lb;have b0:=QT.cell 0;have b1:=QT.cell 1;simp only [Ak,Al,Az] at b0 b1;have hck:=HO.o.cell k;have hfk:=HO.o.frozen k;have hke:((Hy rs k++List.replicate (n - k) 0).map (Value.int .i64))[k]? =some (AE AF 0):=by rw [Bb,Cp Yk,P3,PK,YX,Ao AG];rfl
 rw [Ak,hke] at hck;have hG2:=uB.o.below HB.o;have hlook:=C8 (GI underlying3) underlying212 (z:=.map none) AJ hG2.o (k:Int) false;have HLV:AI (∃v,(Instr.lookup 212 (.map (some M)) (AE AF k) false).run prog wr=.ok v wr/\∀ty,(Builtin.len_ #[209] ty #[v]).run prog wr=.ok (AE AF (Ba rs k).length) wr):=AA (by
  cases hm:getM hs (k:Int) with
  |
   none=>
   rw [hm] at hlook;refine ⟨_,hlook,fun ty=> ?_⟩;have:=zk wr ty;rw [hG2.rest _ (getM_none.1 hm)];exact this
  |
   some b=>
   rw [hm] at hlook;refine ⟨_,hlook,fun ty=> ?_⟩;have:=zl (hG2.ins _ (Ry hm)).2.2 ty;rw [show (Ep (Ba rs (k:Int))).length=(Ba rs (k:Int)).length by simp [Ep]] at this;exact this)
 obtain ⟨v,hlv,cy⟩:=HLV.o;obtain ⟨c,hc⟩:∃c,(Ba rs (k:Int)).length=c:=⟨_,rfl⟩;have HC:=AA hc;rw [hc] at cy;clear hG2 hlook QT hke hc;have Jc:AI (AZ (wr.setCell ⟨O,k,none⟩ (AE AF c)) O 3 (((Hy rs (k+1)++List.replicate (n - (k+1)) 0).map (Value.int .i64)).toArray)):=AA (by
  have:=HO.o.put k (AE AF c);have he:(((Hy rs k++List.replicate (n - k) 0).map (Value.int .i64)).toArray).setIfInBounds k (AE AF c)=(((Hy rs (k+1)++List.replicate (n - (k+1)) 0).map (Value.int .i64)).toArray):=by rw [Lr,<-Q8,Xm,HC.o];congr 2;rw [YV _ _ Yk,P3,PK,show n - k=(n - (k+1))+1 by omega,List.replicate_succ,Ct];simp
  rw [he] at this;exact this)
 have Io:AI (FT (wr.setCell ⟨O,k,none⟩ (AE AF c)) base G (DV rs k)):=AA (jU.o.put hOb nz _ _);have HR2:AI (DI (wr.setCell ⟨O,k,none⟩ (AE AF c)) (W.heap.size+1+1) U n us (fun x:Nat=>Bf rs n x)):=AA (HR.o.keep (fun b hb=>D6 _ _ _ b (SE.o b hb).2.2.1));have HB2:AI (AK W (wr.setCell ⟨O,k,none⟩ (AE AF c))):=AA (HB.o.setCell (show W.heap.size<=O from ny) _);have hsl:(DV rs k).length<=k:=by have:=OE rs k;unfold JC at this;omega
 by_cases hc0:c=0
 ·subst hc0
  have HS:AI (DV rs (k+1)=LQ (DV rs k) k):=AA (by rw [NT,Ao HC.o]);go_wp2_with (go_at_call 184;refine (Ov base G (DV rs k) k _ Io.o AG).mono ?_)
  first | rintro e w2 u rfl hq2 hk2 | rintro e w2 ⟨⟨u,rfl⟩,hq2,hk2⟩
  have I4:AI (AZ w2 O 3 (((Hy rs (k+1)++List.replicate (n - (k+1)) 0).map (Value.int .i64)).toArray)):=AA ((hk2.low Io.o hOb nz).trans Jc.o);have HR3:=AA (HR2.o.keep (fun b hb=>hk2.low Io.o (SE.o b hb).2.1 (SE.o b hb).2.2.2));have HB3:AI (AK W w2):=AA (HB2.o.trans (hk2.below Io.o hGW));rw [<-HS.o] at hq2;have Xz:=AA hq2;clear hq2 hk2 hlv cy;go_wp2_with fail;go_roundg (n - (k+1))
  case measure=>exact BS
  case rel=>exact xP
 have hcz:¬(c:Int)=0:=AG
 have HS:AI (DV rs (k+1)=DV rs k):=AA ro;go_wp2_with fail;go_roundg (n - (k+1))
 case measure=>exact BS
 case rel=>exact xZ
end Go.Proofs.YtamhoilkpppdbaaGreatDoor
