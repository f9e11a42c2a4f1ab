import Derived.Test.YtamhoilkpppdbaaGreatDoorL01
namespace Go.Proofs.YtamhoilkpppdbaaGreatDoor
set_option maxHeartbeats 8000000
set_option maxRecDepth 100000
open Go renaming World→AH, Value→AN, Calls→AS, TypeId→Ae, Program→BE
open Go.Proofs.Tryz
open Go.Value renaming slice→AA, int→AB, pointer→AU, bool→Ab, tuple→BU
open Go.IntKind renaming i64→AE
open Go.Ending renaming returned→AW
open Go.Obj renaming cells→AO
open Go.RowKit
def AKB (w:AH) (cs:List AN) (l:AQ):Prop:=∃A n c,cs=[AA A n c]/\Ag 1 iR w (AA A n c) l
theorem NR {w:AH} {base:Nat} {v:AN} {n:Nat} {l:AQ} (h:w.ownsRow base 3 1 v n (l.map (Value.int .i64))):Ag 1 iR w v l:=by
 have hlen:l.length=n:=by have:=h.1;simpa using this
 rcases h.2 with ⟨rfl,h0⟩ | ⟨g,cap,cur,rfl,hg,hh,hn,hc,hsz,htk⟩
 ·have hl0:l=[]:=Jh AG
  subst hl0;exact Ag.nil _ _ Ai
 refine ⟨some ⟨g,0,none⟩,cap,by rw [hlen],by omega,hc,fun i x hi=>⟨g,0,[AB AE x],rfl,(DF.1 hh).1,rfl,fun j u hu=> ?_,rfl⟩⟩;have hj:j=0:=by
  rcases j with _ | j
  · rfl
  · simp at hu
 subst hj;simp at hu;subst hu;have hil:i < l.length:=(BF.1 hi).1;have:=h.cellAt i AG;rw [Bg,hi] at this;simpa using this
structure DV (w:AH) (base U n:Nat) (vs:List AN) (r:Nat->AQ):Prop where
 blk:AY w U 30 vs.toArray
 len:vs.length=n
 ge:base<=U
 row:∀(x:Nat) (v:AN),vs[x]? =some v->w.ownsRow base 3 1 v (r x).length ((r x).map (Value.int .i64))/\v.ownBlock≠some U
 apart:∀(x y:Nat) (v u:AN) (b:Nat),vs[x]? =some v->vs[y]? =some u->v.ownBlock=some b->u.ownBlock=some b->x=y
theorem DV.alloc {w:AH} {base U n:Nat} {vs:List AN} {r:Nat->AQ} (h:DV w base U n vs r) (o:Obj):DV (w.alloc o) base U n vs r:=
 ⟨h.blk.alloc o,h.len,h.ge,fun x v hx=>⟨(h.row x v hx).1.alloc o,(h.row x v hx).2⟩,h.apart⟩
theorem DV.same {w w':AH} {base U n:Nat} {vs:List AN} {r:Nat->AQ} (h:DV w base U n vs r) (hb:∀(b:Nat) (cs:Array AN) (t:Ae) (fz:Nat×Nat),w.heap[b]? =some (Obj.cells cs t fz)->w'.heap[b]? =w.heap[b]?):DV w' base U n vs r:=
 ⟨(
  hb _ _ _ _ h.blk).trans h.blk,h.len,h.ge,fun x v hx=>⟨by
  obtain ⟨h1,h2⟩:=(h.row x v hx).1;refine ⟨h1,?_⟩;rcases h2 with h2 | ⟨g,cap,cur,hv,hg,hh,rest⟩
  · exact .inl h2
  · exact .inr ⟨g,cap,cur,hv,hg,(hb _ _ _ _ hh).trans hh,rest⟩,(h.row x v hx).2⟩,h.apart⟩
def UX (U:Nat) (vs:List AN) (b:Nat):Prop:=b=U\/∃(x:Nat) (v:AN),vs[x]? =some v/\v.ownBlock=some b
theorem DV.keep {w w':AH} {base U n:Nat} {vs:List AN} {r:Nat->AQ} (h:DV w base U n vs r) (hb:∀b,UX U vs b->w'.heap[b]? =w.heap[b]?):DV w' base U n vs r:=
 ⟨(
  hb U (.inl rfl)).trans h.blk,h.len,h.ge,fun x v hx=>⟨by
  obtain ⟨h1,h2⟩:=(h.row x v hx).1;refine ⟨h1,?_⟩;rcases h2 with h2 | ⟨g,cap,cur,hv,hg,hh,rest⟩
  · exact .inl h2
  · exact .inr ⟨g,cap,cur,hv,hg,(hb g (.inr ⟨x,v,hx,by rw [hv];rfl⟩)).trans hh,rest⟩,(h.row x v hx).2⟩,h.apart⟩
theorem DV.lt {w:AH} {base U n:Nat} {vs:List AN} {r:Nat->AQ} (h:DV w base U n vs r) {b:Nat} (hb:UX U vs b):base<=b/\b < w.heap.size:=by
 rcases hb with rfl | ⟨x,v,hx,hv⟩
 · exact ⟨h.ge,h.blk.lt⟩
 · exact (h.row x v hx).1.lt b hv
theorem DV.read {w:AH} {base U n:Nat} {vs:List AN} {r:Nat->AQ} (h:DV w base U n vs r) (hn:n<=maxLen):Ag 1 AKB w (AA (some ⟨U,0,none⟩) n n) ((List.range n).map r):=by
 refine ⟨some ⟨U,0,none⟩,n,by simp,by simp,hn,fun i x hi=> ?_⟩;have hil:i < n:=by have:=(BF.1 hi).1;simpa using this
 have hx:r i=x:=by rw [Bg,MV hil] at hi;simpa using hi
 obtain ⟨v,hv⟩:∃v,vs[i]? =some v:=⟨vs[i]'(by have:=h.len;omega),BN (by have:=h.len;omega)⟩;have hrow:=NR (h.row i v hv).1;rw [hx] at hrow;obtain ⟨A,c,rfl⟩:=hrow.form;refine ⟨U,0,[AA A x.length c],rfl,h.blk.lt,rfl,fun j u hu=> ?_,A,_,c,rfl,hrow⟩;have hj:j=0:=by
  rcases j with _ | j
  · rfl
  · simp at hu
 subst hj;simp at hu;subst hu;have:=h.blk.cell i;rw [Aj,hv] at this;simpa using this
theorem DV.push {w w5:AH} {base U n:Nat} {vs:List AN} {r:Nat->AQ} (h:DV w base U n vs r) {x:Nat} {v v':AN} {z:Int} (o:Obj) (hx:vs[x]? =some v)
 (hown:w5.ownsRow base 3 1 v' ((r x).length+1) ((r x).map (Value.int .i64)++[AB AE z])) (hg:(w.alloc o).grownBy w5 v.ownBlock) (hat:v'.ownBlock=v.ownBlock\/v'.ownBlock=some (w.alloc o).heap.size):
 DV (w5.setCell ⟨U,x,none⟩ v') base U n (vs.set x v') (fun y=>if y=x then r x++[z] else r y):=by
 have hU:=h.blk.lt;have hUv:some U≠v.ownBlock:=fun e=>(h.row x v hx).2 e.symm;have AIX:v'.ownBlock≠some U:=by
  rcases hat with e | e
  · rw [e];exact (h.row x v hx).2
  rw [e];intro e2;injection e2 with e2;simp at e2;omega
 have hk5:AY w5 U 30 vs.toArray:=(h.blk.alloc o).grown hg hUv;refine ⟨?_,by simpa using h.len,h.ge,?_,?_⟩
 ·have:=hk5.put x v'
  simpa using this
 ·intro y u hy
  by_cases e:y=x
  ·subst e
   have hyl:y < vs.length:=(BF.1 hx).1;rw [Hg hyl] at hy;injection hy with hy;subst hy;simp only [C4];refine ⟨Pz ?_ (by simpa using AIX) _,AIX⟩;rw [CX,DY];exact hown
  rw [Jf (fun e2=>e e2.symm)] at hy;simp only [Ah e];obtain ⟨h1,h2⟩:=h.row y u hy;refine ⟨Pz ((h1.alloc o).kept hg ?_) (by simpa using h2) _,h2⟩;cases hub:u.ownBlock with
  | none=>exact .inl rfl
  |
   some b=>
   refine .inr (fun e2=> ?_);exact e (h.apart y x u v b hy hx hub e2.symm)
 intro y1 y2 u1 u2 b hy1 hy2 hb1 hb2;have hlt:∀(y:Nat) (u:AN),vs[y]? =some u->u.ownBlock=some b->b < w.heap.size:=fun y u hy hb=>((h.row y u hy).1.lt b hb).2;have hxl:x < vs.length:=(BF.1 hx).1;by_cases e1:y1=x
 ·by_cases e2:y2=x
  · rw [e1,e2]
  exfalso;subst e1;rw [Hg hxl] at hy1;rw [Jf (fun e=>e2 e.symm)] at hy2;injection hy1 with hy1;subst hy1;rcases hat with e | e
  · exact e2 (h.apart y2 y1 u2 v b hy2 hx hb2 (e ▸ hb1))
  rw [e] at hb1;injection hb1 with hb1;have:=hlt y2 u2 hy2 hb2;simp at hb1;omega
 rw [Jf (fun e=>e1 e.symm)] at hy1;by_cases e2:y2=x
 ·exfalso
  subst e2;rw [Hg hxl] at hy2;injection hy2 with hy2;subst hy2;rcases hat with e | e
  · exact e1 (h.apart y1 y2 u1 v b hy1 hx hb1 (e ▸ hb2))
  rw [e] at hb2;injection hb2 with hb2;have:=hlt y1 u1 hy1 hb1;simp at hb2;omega
 rw [Jf (fun e=>e2 e.symm)] at hy2;exact h.apart y1 y2 u1 u2 b hy1 hy2 hb1 hb2
theorem Xt:∀(D F:AQ),D.Nodup->(∀x∈D,x∈F)->D.length<=F.length
 | [],_,_,_=>Ay _
 |
  x::D,F,h,hs=>by
  have hx:=hs x OX;have h2:=Ry.1 h;have:=Xt D (F.erase x) h2.2 (fun y hy=>by have hne:y≠x:=fun e=>h2.1 (e ▸ hy);exact (List.mem_erase_of_ne hne).2 (hs y (NI _ hy)))
  have hl:=List.length_erase_of_mem hx;have hpos:0 < F.length:=List.length_pos_of_mem hx;exact dE
theorem qp {l:AQ} {x:Int} (h:l.Nodup):(G9 l x).Nodup:=by
 unfold G9;split
 · exact h
 · next hx=>exact ZG.2 ⟨h,by simp,fun a ha b hb e=>by simp at hb;subst hb;subst e;exact hx ha⟩
theorem Wr:∀(xs l:AQ),l.Nodup->(xs.foldl G9 l).Nodup
 | [],_,h=>h
 | _::xs,_,h=>Wr xs _ (qp h)
theorem Xu (rs:List Cm) (x:Int):(Bp rs x).Nodup:=by
 have:∀(rs:List Cm) (l:AQ),l.Nodup->(rs.foldl (fun l r=>if r.schema=x then xZ l r else l) l).Nodup:=by
  intro rs
  induction rs with
  | nil=>intro l h;exact h
  |
   cons r rs ih=>
   intro l h;simp only [Y7];apply ih;split
   · exact Wr _ _ h
   · exact h
 exact this rs [] List.nodup_nil
structure M6 (w:AH) (r bm:Nat) (F D:AQ):Prop where
 ex:∃es clock seen,w.heap[r]? =some (.mapIter (some bm) clock seen clock)/\w.heap[bm]? =some (.map es clock)/\es.toList.map (fun e=>(e.key,e.val))=(FH F).map (fun p=>(Value.int .i64 p.1,Value.bool p.2))/\
  (es.toList.map (·.born)).Nodup/\(∀x∈es.toList,x.born < clock)/\(∀e∈es.toList,∀y,e.key=AB AE y->(seen.contains e.born=true↔y∈D))
 nodup:D.Nodup
 sub:∀x∈D,x∈F
theorem M6.kept {w w':AH} {r bm:Nat} {F D:AQ} (h:M6 w r bm F D) (h1:w'.heap[r]? =w.heap[r]?) (h2:w'.heap[bm]? =w.heap[bm]?):M6 w' r bm F D:=by obtain ⟨⟨es,clock,seen,k1,k2,k3⟩,h4,h5⟩:=h;exact ⟨⟨es,clock,seen,h1.trans k1,h2.trans k2,k3⟩,h4,h5⟩
theorem M6.start {w:AH} {bm:Nat} {F:AQ} {P:BE} {t kt et:Ae} (h:Kz (Value.int .i64) Value.bool w bm (FH F)) (ht:P.underlying t=some (.map kt et)):
 ∃clock,(Instr.range t (.map (some bm))).run P w=.ok (AU (some ⟨w.heap.size,0,none⟩)) (w.alloc (.mapIter (some bm) clock #[] clock))/\M6 (w.alloc (.mapIter (some bm) clock #[] clock)) w.heap.size bm F []:=by
 have hlt:=h.lt;obtain ⟨es,clock,h1,h2,h3,h4⟩:=h;refine ⟨clock,run_range_map w t kt et bm es clock ht h1,⟨es,clock,#[],heap_alloc_new _ _,(heap_alloc_old w _ hlt).trans h1,h2,h3,h4,fun e he y hy=>by simp⟩,List.nodup_nil,fun x hx=>by simp at hx⟩
theorem M6.step {w:AH} {r bm:Nat} {F D:AQ} {P:BE} (h:M6 w r bm F D) (hF:F.Nodup) (ty:Ae):
 ((∀y∈F,y∈D)/\(Instr.next (AU (some ⟨r,0,none⟩)) false ty).run P w=.ok (BU #[Ab false]) w)\/
 ∃y w1,y∈F/\y∉D/\(Instr.next (AU (some ⟨r,0,none⟩)) false ty).run P w=.ok (BU #[Ab true,AB AE y,Ab true]) w1/\w.grownBy w1 (some r)/\
  (Instr.entry (AU (some ⟨r,0,none⟩))).run P w1=.ok (BU #[AB AE y,Ab true]) w1/\M6 w1 r bm F (y::D):=by
 obtain ⟨⟨es,clock,seen,k1,k2,k3,k4,k5,k6⟩,hnd,hsub⟩:=h;have hne:r≠bm:=by rintro rfl;rw [k1] at k2;injection k2 with k2;cases k2
 have hkey:∀e∈es.toList,∃y,y∈F/\e.key=AB AE y/\e.val=Ab true:=by
  intro e he;have:(e.key,e.val)∈(FH F).map (fun p=>(Value.int .i64 p.1,Value.bool p.2)):=by rw [<-k3];exact ZK he
  obtain ⟨p,hp,hpe⟩:=Dr.1 this;obtain ⟨y,hy,rfl⟩:=Dr.1 hp;simp only [Gd] at hpe;exact ⟨y,hy,hpe.1.symm,hpe.2.symm⟩
 have hkeys:(es.toList.map (·.key)).Nodup:=by
  have:es.toList.map (·.key)=F.map (Value.int .i64):=by have:=congrArg (List.map (·.1)) k3;simpa [FH,List.map_map,Function.comp_def] using this
  rw [this];have hin:∀(l:AQ),l.Nodup->(l.map (Value.int .i64)).Nodup:=by
   intro l
   induction l with
   | nil=>intro _;simp
   |
    cons a l ih=>
    intro hl;have h2:=Ry.1 hl;simp only [Fz];exact Ry.2 ⟨fun hm=>by obtain ⟨b,hb,e⟩:=Dr.1 hm;injection e with _ e;exact h2.1 (e ▸ hb),ih h2.2⟩
  exact hin F hF
 have hex:∀y∈F,∃e∈es.toList,e.key=AB AE y:=by
  intro y hy;have:(Value.int .i64 y,Value.bool true)∈es.toList.map (fun e=>(e.key,e.val)):=by rw [k3];exact Dr.2 ⟨(y,true),Dr.2 ⟨y,hy,rfl⟩,rfl⟩
  obtain ⟨e,he,hee⟩:=Dr.1 this;simp only [Gd] at hee;exact ⟨e,he,hee.1⟩
 rcases run_next_at (P:=P) w ty r bm clock clock seen es clock k1 k2 k5 (Ac _) with ⟨hl,hrun⟩ | ⟨e,he,w1,hw1,hrun⟩
 ·refine .inl ⟨fun y hy=> ?_,hrun⟩
  obtain ⟨e,he,hek⟩:=hex y hy;refine (k6 e he y hek).1 ?_;cases hc:seen.contains e.born with
  | true=>rfl
  |
   false=>
   exfalso;have hm:e∈(leftOf es seen).toList:=by unfold leftOf;simp only [Array.toList_filter,List.mem_filter,hc,Bool.not_false,and_true];exact he
   have hz:(leftOf es seen).toList.length=0:=by simpa using hl
   have:=List.length_pos_of_mem hm;omega
 have hes:e∈es.toList/\seen.contains e.born=false:=by unfold leftOf at he;simp only [Array.toList_filter,List.mem_filter,Bool.not_eq_true'] at he;exact he
 obtain ⟨y,hy,hek,hev⟩:=hkey e hes.1;rw [hek,hev] at hrun;have pZ:y∉D:=fun hd=>by have:=(k6 e hes.1 y hek).2 hd;rw [hes.2] at this;cases this
 have AKO:w1.heap[r]? =some (.mapIter (some bm) clock seen clock):=by rcases hw1 with rfl | rfl <;> exact k1
 have AKP:w1.heap[bm]? =some (.map es clock):=by rcases hw1 with rfl | rfl <;> exact k2
 have hset:=Go.MapKept.heap_set (o':=.mapIter (some bm) clock (seen.push e.born) clock) AKO;have hr2:(Go.ChangeMaps.setBlock w1 r (.mapIter (some bm) clock (seen.push e.born) clock)).heap[r]? =some (.mapIter (some bm) clock (seen.push e.born) clock):=hset.1;have hm2:(Go.ChangeMaps.setBlock w1 r (.mapIter (some bm) clock (seen.push e.born) clock)).heap[bm]? =some (.map es clock):=(hset.2 bm (fun e=>hne e.symm)).trans AKP;refine .inr ⟨y,_,hy,pZ,hrun,?_,?_,⟨⟨es,clock,seen.push e.born,hr2,hm2,k3,k4,k5,fun e2 he2 z hz=> ?_⟩,Ry.2 ⟨pZ,hnd⟩,fun x hx=> ?_⟩⟩
 ·have hg1:w.grownBy w1 (some r):=by rcases hw1 with rfl | rfl <;> exact ⟨rfl,rfl,rfl,Ac _,fun _ _ _=>rfl⟩
  exact ⟨hg1.os,hg1.tape,hg1.output,by simpa [Go.ChangeMaps.setBlock] using hg1.size,fun i hi hn=>(hset.2 i (fun e=>hn Kg)).trans (hg1.block i hi hn)⟩
 ·have:=run_entry_at (P:=P) _ r bm clock seen es clock e hr2 hm2 hes.1 k4
  rw [hek,hev] at this;exact this
 ·have hiff:e2.born=e.born↔z=y:=by
   constructor
   ·intro hb
    have:e2=e:=Qw k4 he2 hes.1 hb;subst this;rw [hek] at hz;injection hz with _ hz;exact hz.symm
   rintro rfl;have:e2=e:=Qw hkeys he2 hes.1 (hz.trans hek.symm);rw [this]
  rw [Array.contains_push];simp only [Y6,beq_iff_eq,B0,k6 e2 he2 z hz,hiff];exact Or.comm
 rcases B0.1 hx with rfl | hx
 · exact hy
 · exact hsub x hx
theorem AD3:(prog.info? 30).map (fun i=>(i.zero,i.size,i.bytes))=some (some (AA none 0 0),1,24):=by kernel_rfl
theorem Wn (z:AN) (n:Nat):madeCells #[z] n=(List.replicate n z).toArray:=by
 apply Array.ext
 · simp [madeCells]
 intro i h1 h2;simp [madeCells,Nat.mod_one]
theorem XV (rs:List Cm) (k:Nat) (x:Int):Bl rs (k+1) x=if x∈Bp rs k then Bl rs k x++[(k:Int)] else Bl rs k x:=by
 unfold Bl;rw [Py,DY,List.filter_append];by_cases h:x∈Bp rs k
 · rw [Ak h];simp [h]
 · rw [Ah h];simp [h]
theorem UK (rs:List Cm) (k:Nat) (x:Int):(Bl rs k x).length<=k:=by unfold Bl;refine BH (List.length_filter_le _ _) ?_;simp
theorem pE {w:AH} {base:Nat} {e:Ae} {sz:Nat} {v:AN} {n:Nat} {xs:List AN} (h:w.ownsRow base e sz v n xs) {g:Nat} (hg:v.ownBlock=some g):∃cur,w.heap[g]? =some (Obj.cells cur e (0,0)):=by
 rcases h.2 with ⟨rfl,_⟩ | ⟨g',cap,cur,rfl,_,hh,_⟩
 · cases hg
 simp only [Value.ownBlock,Bz] at hg;subst hg;exact ⟨cur,hh⟩
theorem ja (base M n:Nat) (hs:List (Int×Nat)) (rs:List Cm) (w:AH) (hG:Fq w base M hs (Bp rs)) (hin:∀h y,y∈Bp rs h->0<=y/\y < n) (hn:n<=1000):
 AS prog 183 #[.agg #[AB AE n,.map (some M)]] w fun e w'=>∃(U:Nat) (us:List AN),e=AW (AA (some ⟨U,0,none⟩) n n)/\DV w' (w.heap.size+1) U n us (fun x:Nat=>Bl rs n x)/\AK w w':=by
 obtain ⟨HG,Rg⟩:=Al hG hin;clear hG hin;have hmk:=run_make_row' (P:=prog) 300 30 (AA none 0 0) 24 underlying300 AD3 rfl .i64 .i64 n AG AG;rw [Wn] at hmk;go_enter func183,ntmps183;go_wp2_with fail;obtain ⟨wb,hwb⟩:=Ad ((w.alloc (AO #[AB AE n,.map (some M)] 214)).alloc (AO (Array.replicate n (AA none 0 0)) 30));rw [<-hwb];have hbb:AK w wb:=by rw [hwb];exact (BK _ _).alloc AZ _
 have kA:AY wb w.heap.size 214 #[AB AE n,.map (some M)]:=by rw [hwb];exact (AY.new _ _ _).alloc _
 obtain ⟨U,hU⟩:=Ad (w.heap.size+1);have kU:DV wb (w.heap.size+1) U n (List.replicate n (AA none 0 0)) (fun x=>Bl rs 0 x):=by
  refine ⟨?_,by simp,by omega,?_,?_⟩
  ·rw [hwb,hU,List.toArray_replicate]
   exact Dk AZ
  ·intro x v hx
   have:v=AA none 0 0:=by
    exact AAA
   subst this;exact ⟨Ef _ _ _ _,by simp [Value.ownBlock]⟩
  intro x y v u b hx hy hb;have:v=AA none 0 0:=by
   exact AAA
  subst this;simp [Value.ownBlock] at hb
 rw [<-hU];obtain ⟨BJ,af,fR⟩:=BB hbb kA kU;have AMa:w.heap.size < U:=AG
 obtain ⟨ga,hga⟩:=Ad w.heap.size;clear hwb hbb kA kU hU hmk;go_loopg [11] n (fun q i wr=>∃(k:Nat) (vs:List AN),k<=n/\q=n - k/\i=AB AE k/\DV wr (w.heap.size+1) U n vs (fun x=>Bl rs k x)/\AY wr w.heap.size 214 #[AB AE n,.map (some M)]/\AK w wr)
 case atStart=>exact ⟨0,_,Ay _,rfl,rfl,fR.o,af.o,BJ.o⟩
 clear fR af BJ;obtain ⟨k,vs,hk,hq,rfl,hr,hka,hb⟩:=hrel;obtain ⟨HQ,HR,HK,HB⟩:=CD hq hr hka hb;clear hq hr hka hb;by_cases hlt:k < n
 case neg=>
  have hkn:k=n:=AG
  subst hkn;go_wp2;go_ret;exact ⟨U,vs,rfl,HR.o,HB.o⟩
 have hkn:(k:Int) < (n:Int):=AG
 have b0:=HK.o.cell 0;have b1:=HK.o.cell 1;have lb:=HK.o.lt;simp only [Aj,Ao,BA] at b0 b1;have HG2:=AF (HG.o.below HB.o);have hlook:=DT (I0 underlying3) underlying212 (z:=.map none) AJ HG2.o.o (k:Int) false;by_cases hin:(k:Int)∈hs.map (·.1)
 case neg=>
  rw [getM_none.2 hin] at hlook;simp only [Jd,Kd,IU,He] at hlook;have HE:AI ((fun x:Nat=>Bl rs (k+1) x)=fun x:Nat=>Bl rs k x):=AF (by funext x;rw [XV,HG.o.rest _ hin];simp)
  have hrange:=run_range_nilMap (P:=prog) wr 209 _ _ underlying209;have hnext:=run_next_nilMap (P:=prog) wr 0 0 0 #[];have HNX:=AF hnext;clear hnext;go_wp2_with fail;clear hrange hlook;obtain ⟨wi,hwi⟩:=Ad (wr.alloc (.mapIter none 0 #[] 0));have HRI:AI (DV wi (w.heap.size+1) U n vs (fun x:Nat=>Bl rs (k+1) x)):=AF (by rw [HE.o,hwi];exact HR.o.alloc _);have HKI:AI (AY wi w.heap.size 214 #[AB AE n,.map (some M)]):=AF (by rw [hwi];exact HK.o.alloc _);have mA:AI (AK w wi):=AF uJ;have HNI:AI ((Instr.next (AU (some ⟨wr.heap.size,0,none⟩)) false 0).run prog wi=.ok (BU #[Ab false]) wi):=AF (by rw [hwi];exact HNX.o);rw [<-hwi];clear hwi;obtain ⟨wy,rfl⟩:=Ad wr;go_loopg [19] 0 (fun _ _ wx=>wx=wi)
  case atStart=>rfl
  obtain rfl:=hrel;have hnext:=HNI.o;go_wp2;go_roundg (n - (k+1))
  case measure=>exact Bi
  case rel=>exact ⟨k+1,vs,by omega,rfl,by go_num,HRI.o,HKI.o,mA.o⟩
 obtain ⟨hb,hhb⟩:∃hb,getM hs (k:Int)=some hb:=by
  cases h:getM hs (k:Int) with
  | none=>exact absurd hin (getM_none.1 h)
  | some v=>exact ⟨v,rfl⟩
 rw [hhb] at hlook;simp only [C6,Ce,IU,He] at hlook;obtain ⟨_,_,hmt⟩:=HG2.o.ins _ (WQ hhb);obtain ⟨F,hF⟩:∃F,Bp rs (k:Int)=F:=⟨_,rfl⟩;have HF:=AF hF;simp only [hF] at hmt;have hFn:F.Nodup:=by rw [<-hF];exact Xu _ _
 have MQ:=AF hFn;obtain ⟨clock,hrange,hrd⟩:=M6.start (P:=prog) hmt underlying209;have HRD:=AF hrd;have hbl:hb < wr.heap.size:=hmt.lt;have HHN:AI (∀cs t fz,wr.heap[hb]? ≠some (Obj.cells cs t fz)):=AF (by obtain ⟨es,cl,h1,_⟩:=hmt;intro cs t fz h2;rw [h1] at h2;injection h2 with h2;cases h2)
 clear hF hFn hmt hrd hhb hin;go_wp2_with fail;clear hrange hlook b0 b1;obtain ⟨wi,hwi⟩:=Ad (wr.alloc (.mapIter (some hb) clock #[] clock));have HRI:AI (DV wi (w.heap.size+1) U n vs (fun x:Nat=>if (x:Int)∈([]:AQ) then Bl rs k x++[(k:Int)] else Bl rs k x)):=AF (by rw [hwi];have:=HR.o.alloc (.mapIter (some hb) clock #[] clock);simpa using this)
 have HKI:AI (AY wi w.heap.size 214 #[AB AE n,.map (some M)]):=AF (by rw [hwi];exact HK.o.alloc _);have mA:AI (AK w wi):=AF uJ;have HDI:AI (M6 wi wr.heap.size hb F []):=AF (by rw [hwi];exact HRD.o);rw [<-hwi];clear hwi;obtain ⟨wy,rfl⟩:=Ad wr;go_loopg [19] F.length (fun q _ wx=>∃(D:AQ) (us:List AN),q=F.length - D.length/\M6 wx wy.heap.size hb F D/\DV wx (w.heap.size+1) U n us (fun x:Nat=>if (x:Int)∈D then Bl rs k x++[(k:Int)] else Bl rs k x)/\AY wx w.heap.size 214 #[AB AE n,.map (some M)]/\AK w wx)
 case atStart=>exact ⟨[],vs,rfl,HDI.o,HRI.o,HKI.o,mA.o⟩
 clear HDI HRI HKI mA;obtain ⟨D,us,hq,hd,hr,hka,hb2⟩:=hrel;obtain ⟨Ks,HR2,FC,HB2⟩:=CD hq hr hka hb2;have HRK:AI (wy.heap.size < wr.heap.size/\∀cs t fz,wr.heap[wy.heap.size]? ≠some (Obj.cells cs t fz)):=AF (by obtain ⟨es,cl,seen,h1,_⟩:=hd.ex;refine ⟨(DF.1 h1).1,fun cs t fz h2=> ?_⟩;rw [h1] at h2;injection h2 with h2;cases h2)
 have Rc:AI (hb < wr.heap.size/\hb≠wy.heap.size/\∀cs t fz,wr.heap[hb]? ≠some (Obj.cells cs t fz)):=AF (by
  obtain ⟨es,cl,seen,h0,h1,_⟩:=hd.ex;refine ⟨(DF.1 h1).1,fun e=> ?_,fun cs t fz h2=> ?_⟩
  ·rw [e,h0] at h1
   injection h1 with h1;cases h1
  rw [h1] at h2;injection h2 with h2;cases h2)
 have hdn:=hd.nodup;have hds:=hd.sub;rcases hd.step (P:=prog) MQ.o 0 with ⟨hall,hnext⟩ | ⟨y,w1,hyF,pZ,hnext,hg1,AIL,hd1⟩
 ·have HE:AI ((fun x:Nat=>Bl rs (k+1) x)=fun x:Nat=>if (x:Int)∈D then Bl rs k x++[(k:Int)] else Bl rs k x):=AF (by
   funext x;rw [XV,HF.o];by_cases h:(x:Int)∈F
   · rw [Ak h,Ak (hall _ h)]
   · rw [Ah h,Ah (fun h2=>h (hds _ h2))])
  clear hq hd hr hka hb2 hall hdn hds;go_wp2;go_roundg (n - (k+1))
  case measure=>exact Bi
  case rel=>exact ⟨k+1,us,by omega,rfl,by go_num,by rw [HE.o];exact HR2.o,FC.o,HB2.o⟩
 have hy:=Rg.o k y (by rw [HF.o];exact hyF);obtain ⟨x,rfl⟩:∃x:Nat,y=x:=⟨y.toNat,by omega⟩;have hxn:x < n:=AG
 have hlen:=Xt (x::D) F (Ry.2 ⟨pZ,hdn⟩) (fun z hz=>by
  rcases B0.1 hz with rfl | hz
  · exact hyF
  · exact hds _ hz)
 have HLEN:AI (D.length < F.length):=AF (by simp only [F6] at hlen;omega);clear hq hd hr hka hb2 hdn hds hlen hyF hy;have hR1:DV w1 (w.heap.size+1) U n us (fun x:Nat=>if (x:Int)∈D then Bl rs k x++[(k:Int)] else Bl rs k x):=HR2.o.same (fun b cs t fz h=>hg1.block b (DF.1 h).1 (fun e=>by injection e with e;subst e;exact HRK.o.2 _ _ _ h))
 have hK1:AY w1 w.heap.size 214 #[AB AE n,.map (some M)]:=FC.o.grown hg1 (fun e=>by injection e with e;omega);have HB1:AI (AK w w1):=AF (HB2.o.grown hg1 HB2.o.size (fun r e=>by cases e;omega));have AI1:AI (wy.heap.size < w1.heap.size/\∀cs t fz,w1.heap[wy.heap.size]? ≠some (Obj.cells cs t fz)):=AF (by obtain ⟨es,cl,seen,h1,_⟩:=hd1.ex;refine ⟨(DF.1 h1).1,fun cs t fz h2=> ?_⟩;rw [h1] at h2;injection h2 with h2;cases h2)
 have AJD:AI (hb < w1.heap.size/\∀cs t fz,w1.heap[hb]? ≠some (Obj.cells cs t fz)):=AF (by have h1:=hg1.block hb Rc.o.1 (fun e=>by injection e with e;exact Rc.o.2.1 e);refine ⟨Av Rc.o.1 hg1.size,fun cs t fz h2=> ?_⟩;rw [h1] at h2;exact Rc.o.2.2 _ _ _ h2)
 have hxl:x < us.length:=by rw [hR1.len];exact hxn
 obtain ⟨v,hv⟩:∃v,us[x]? =some v:=⟨_,BN hxl⟩;have hown:=(hR1.row x v hv).1;simp only [Ah pZ] at hown;have hcell:=hR1.blk.cell x;rw [Aj,hv] at hcell;have hvf:∃A m c,v=AA A m c:=by
  rcases hown.2 with ⟨rfl,_⟩ | ⟨g,cap,cur,rfl,_⟩
  · exact SY
  · exact SY
 obtain ⟨A,m,c,rfl⟩:=hvf;have eJ:=UK rs k x;have hUv:some U≠(Value.slice A m c).ownBlock:=fun e=>(hR1.row x _ hv).2 e.symm;obtain ⟨i0,hi,hz0,hz1,hz2⟩:=I8 WL;obtain ⟨HI,HZ,HR1,MP,zQ,HUV,HV,HD1,HYD⟩:=P4 hi (And.intro hz0 (And.intro hz1 hz2)) hR1 hK1 hown hUv hv hd1 pZ;have hx0:(0:Int)<=(x:Int):=AG
 have hx1:(x:Int) < (n:Int):=AG
 have lU:=hR1.blk.lt;have hs1:w.heap.size < w1.heap.size:=hK1.lt;clear hg1 hR1 hK1 hown hUv hi hz0 hz1 hz2 hd1 pZ hv hxl;go_wp2_with (at_builtin;refine wpList_append_own_at _ rfl (.tmp 28) (.tmp 30) 30 rfl (w.heap.size+1) 3 i0 (AB AE 0) 1 8 underlying30 HI.o HZ.o.1 HZ.o.2.1 HZ.o.2.2 rfl Ai (AA A m c) (Bl rs k x).length _ rfl (zQ.o.alloc _) ⟨w1.heap.size,0,none⟩ 1 1 [AB AE k] rfl rfl (cell_one_new _ _ _) Qi Gx AG Bd ?_;intro v' w5 hown' hgrow _ hat;obtain ⟨g',cap',rfl⟩:=Joins.ownsRow_form hown' AG;have k5:AY w5 U 30 us.toArray:=(HR1.o.blk.alloc _).grown hgrow HUV.o;have f5:=k5.frozen x;have c5:=k5.cell x;rw [Aj,HV.o] at c5;have HOW:=AF hown';have Gp:=AF hgrow;have HAT:=AF hat;have Yv:=AF k5;clear hown' hgrow hat k5);have HP:=AF (HR1.o.push (AO #[AB AE k] 3) (z:=(k:Int)) HV.o (by simp only [Ah HYD.o];exact HOW.o) Gp.o HAT.o);have HNC:AI (∀b,b < w1.heap.size->(∀cs t fz,w1.heap[b]? ≠some (Obj.cells cs t fz))->(w5.setCell ⟨U,x,none⟩ (AA (some ⟨g',0,none⟩) ((Bl rs k x).length+1) cap')).heap[b]? =w1.heap[b]?):=AF (fun b hb1 hnc=>by
  refine (C5 _ _ _ b (fun e=> ?_)).trans ((Gp.o.block b Bd (fun e=> ?_)).trans (LR w1 _ b hb1))
  · subst e;exact hnc _ _ _ HR1.o.blk
  obtain ⟨cur,hc⟩:=pE zQ.o e.symm;exact hnc _ _ _ hc)
 have ALP:=AF (HD1.o.kept (HNC.o _ AI1.o.1 AI1.o.2) (HNC.o _ AJD.o.1 AJD.o.2));have HK6:AI (AY (w5.setCell ⟨U,x,none⟩ (AA (some ⟨g',0,none⟩) ((Bl rs k x).length+1) cap')) w.heap.size 214 #[AB AE n,.map (some M)]):=AF (((MP.o.alloc _).grown Gp.o (fun e=>by have:=(zQ.o.lt _ e.symm).1;omega)).far Bd _);have Fb:AI (AK w (w5.setCell ⟨U,x,none⟩ (AA (some ⟨g',0,none⟩) ((Bl rs k x).length+1) cap'))):=AF (by have h5:AK w w5:=(HB1.o.alloc HB1.o.size (AO #[AB AE k] 3)).grown Gp.o Bd (fun r e=>by have:=(zQ.o.lt r e).1;omega);exact h5.setCell (show w.heap.size<=U by omega) _)
 have HE:AI ((fun y:Nat=>if y=x then (if (x:Int)∈D then Bl rs k x++[(k:Int)] else Bl rs k x)++[(k:Int)] else (if (y:Int)∈D then Bl rs k y++[(k:Int)] else Bl rs k y))=fun y:Nat=>if (y:Int)∈((x:Int)::D) then Bl rs k y++[(k:Int)] else Bl rs k y):=AF (by
  funext y;by_cases e:y=x
  ·subst e
   rw [Ak rfl,Ah HYD.o,Ak OX]
  have e2:¬(y:Int)=(x:Int):=AG
  rw [Ah e];by_cases h:(y:Int)∈D
  · rw [Ak h,Ak (NI _ h)]
  · rw [Ah h,Ah (fun h2=>by rcases B0.1 h2 with h2 | h2;exact e2 h2;exact h h2)])
 clear hnext AIL hcell f5 c5;go_wp2;go_roundg (F.length - (D.length+1))
 case measure=>have:=Ks.o;have:=HLEN.o;omega
 case rel=>exact ⟨(x:Int)::D,_,by simp,ALP.o,by rw [<-HE.o];exact HP.o,HK6.o,Fb.o⟩
structure KpC (n₀ B B2:Nat) (W W':AH):Prop where
 size:W.heap.size<=W'.heap.size
 block:∀b,(b < n₀\/B<=b)->b < W.heap.size->some b≠EK B2 W->W'.heap[b]? =W.heap[b]?
 pt:EK B2 W'=EK B2 W\/∃b,EK B2 W'=some b/\W.heap.size<=b
 lt:∀b,EK B2 W'=some b->b < W'.heap.size
structure Off (B B2:Nat) (A C:AH):Prop where
 os:C.os=A.os
 tape:C.tape=A.tape
 output:C.output=A.output
 size:A.heap.size<=C.heap.size
 block:∀b,b < A.heap.size->(b < B\/some b=EK B2 A)->C.heap[b]? =A.heap[b]?
theorem Off.Lz {B B2:Nat} {A C:AH} {row:Option Nat} (hg:A.grownBy C row) (hr:∀r,row=some r->B<=r/\some r≠EK B2 A):Off B B2 A C:=
 ⟨hg.os,hg.tape,hg.output,hg.size,fun b hb h=>hg.block b hb (fun e=>by
  obtain ⟨h1,h2⟩:=hr b e.symm;rcases h with h | h
  · omega
  · exact h2 h)⟩
def AbC {α:Type} (B B2:Nat) (J:List α->AH->Prop):Prop:=∀s A C,J s A->Off B B2 A C->J s C
def AIo {α:Type} (F:Fence) (n:Nat) (P:BE) (g:Nat) (lb:Array AN) (encs:α->Array AN) (n₀ B2:Nat) (S:List α->Prop) (N:Nat) (w:AH):Prop:=
 ∀(l:Nat) (J:List α->AH->Prop) (W:AH),AK w W->(∀b,EK B2 W=some b->n₀<=b/\b < W.heap.size)->AbC W.heap.size B2 J->
  (∀pre x W1,J pre W1->pre.length < N->YieldAt F (n - 1) P l (encs x) W1 fun e W'=>e=AW (Ab true)/\J (pre++[x]) W'/\KpC n₀ W.heap.size B2 W1 W')->
  J [] W->
  CallsIn F n P g (#[.func (.yield l) #[] #[]]++lb) W fun e W'=>(∃v,e=AW v)/\∃xs,S xs/\J xs W'
theorem WB {B2 l:Nat} {W:AH} {o:Obj} (h:l≠B2):EK B2 (W.putObj l o)=EK B2 W:=by unfold EK World.cell?;rw [World.putObj_heap_other (fun e=>h e.symm)]
theorem ap {F:Fence} {n:Nat} {P:BE} {α:Type} {g:Operand} {ps:Array Tmp} {assign body:Code} {Q:Exit->Act->AH->Prop} {a:Act} {w:AH}
 (hro:F.round=none) (h1:1<=n) {gf:Nat} {lb:Array AN} (hg:a.eval g=.func (.func gf) #[] lb) (hFg:F.fn gf) (eg:∀args w,(callFunc gf args).run P w=.ok (.enter gf args) w)
 {encs:α->Array AN} {n₀ B2:Nat} {S:List α->Prop} {N:Nat} (hseq:AIo F (n - 1) P gf lb encs n₀ B2 S N w)
 (hps:∀x,(encs x).size=ps.size) (hn₀:n₀<=w.heap.size) (hB2:B2 < w.heap.size)
 (I:List α->AH->Prop) (hI:AbC w.heap.size B2 I) (hpt:∀pre W,I pre W->∀b,EK B2 W=some b->n₀<=b/\∃cs t fz,W.heap[b]? =some (Obj.cells cs t fz)) (h0:I [] w) (a₁:α->Act)
 (hassign:∀(l:Nat) (x:α) (W:AH) (K:Act->AH->Prop),K (a₁ x) W->
  assign.wpIn (F.inRound l) (n - 1 - 1) P (Exit.then K (fun _ _ _=>False)) {tmps:=(ps.zip (encs x)).foldl (fun t (p,v)=>t.setIfInBounds p v) a.tmps,defers:=[]} W)
 (hbody:∀(l:Nat) (pre:List α) (x:α) (W:AH),I pre W->pre.length < N->
  body.wpIn (F.inRound l) (n - 1 - 1) P (fun e _ W'=>e=.normal/\KeepsOthers W W'/\KpC n₀ (w.heap.size+2) B2 W W'/\I (pre++[x]) W') (a₁ x) W)
 (hdone:∀(D:Nat) (xs:List α) (W:AH),w.heap.size<=D->S xs->I xs W->W.heap[D]? =some (.deferred (some []))->Q .normal {a with defers:={target:=.collected D,args:=#[]}::a.defers} W):
 (Code.rangeFunc g ps assign body).wpIn F n P Q a w:=by
 refine wpIn_rangeFunc ?_;intro fn hfn;rw [hro];obtain ⟨rec,hrec⟩:∃rec:LoopState->Option Code->Loop,rec=fun st pe=>{state:=st,pending:=pe,fn,tmps:=a.tmps,params:=ps,assign,body,defers:=w.heap.size}:=⟨_,rfl⟩;obtain ⟨W1,hW1⟩:=BR ((w.alloc (.deferred (some []))).alloc (.loop (rec .ready none)));have hsz1:W1.heap.size=w.heap.size+2:=by rw [<-hW1];simp
 have hL1:W1.heap[w.heap.size+1]? =some (.loop (rec .ready none)):=by rw [<-hW1];have:=World.alloc_heap_new (w.alloc (.deferred (some []))) (.loop (rec .ready none));rwa [Ev] at this
 have hK1:W1.heap[w.heap.size]? =some (.deferred (some [])):=by rw [<-hW1];exact (LR _ _ _ AZ).trans (World.alloc_heap_new w _)
 have hI1:I [] W1:=by rw [<-hW1];exact hI _ _ _ (hI _ _ _ h0 (Off.Lz (D8 _ _ none) (fun r e=>by cases e))) (Off.Lz (D8 _ _ none) (fun r e=>by cases e))
 have hb1:AK w W1:=by rw [<-hW1];exact ((Af _ w).alloc (Ac _) _).alloc AZ _
 -- the turn of a block of book-keeping
 have yQ:∀(pre:List α) (W:AH) (l:Nat) (o o':Obj),I pre W->w.heap.size<=l->W.heap[l]? =some o->o.isCells=false->I pre (W.putObj l o'):=by intro pre W l o o' hi hl ho hc;refine hI _ _ _ hi (Off.Lz (grownBy_putObj' W l o') (fun r e=> ?_));cases e;refine ⟨hl,fun e=> ?_⟩;obtain ⟨_,cs,t,fz,hcs⟩:=hpt _ _ hi _ e.symm;rw [ho] at hcs;injection hcs with hcs;subst hcs;cases hc
 refine ⟨w.heap.size+1,[{target:=.collected w.heap.size,args:=#[]}],W1,{target:=.fn (.func gf) lb,args:=#[.func (.yield (w.heap.size+1)) #[] #[]]},W1,gf,
  #[.func (.yield (w.heap.size+1)) #[] #[]]++lb,W1,?_,?_,?_,?_,fun _=>h1,?_⟩
 · rw [<-hW1,hrec];exact run_enterLoop_outer _ _ _ _ _
 ·simp only [resolve,hg]
  simp [go_sem]
 · intro f' hf';simp [Target.leads] at hf';subst hf';exact hFg
 · simp [invoke,go_sem,eg]
 refine (hseq (w.heap.size+1)
  (fun pre W=>I pre W/\W.heap[w.heap.size+1]? =some (.loop (rec .ready none))/\W.heap[w.heap.size]? =some (.deferred (some [])))
  W1 hb1 (fun b hb=>by obtain ⟨h0,cs,t,fz,h⟩:=hpt _ _ hI1 b hb;exact ⟨h0,(DF.1 h).1⟩)
  (fun s A C hs ho=>⟨hI s A C hs.1 ⟨ho.os,ho.tape,ho.output,ho.size,fun b hb h=>ho.block b hb (h.imp (fun h=>by omega) id)⟩,
   (ho.block _ (DF.1 hs.2.1).1 (.inl AG)).trans hs.2.1,
   (ho.block _ (DF.1 hs.2.2).1 (.inl AG)).trans hs.2.2⟩)
  ?_ ⟨hI1,hL1,hK1⟩).mono ?_
 ·rintro pre x W ⟨hi,hl,hk⟩ hlen
  have hlt:w.heap.size+1 < W.heap.size:=(DF.1 hl).1;have hy:=run_yield (P:=P) (args:=encs x) hl gN;rw [hrec] at hy;refine ⟨fn,_,assign,body,hy,roundIn_of_wpIn hfn (hassign _ x W _ ⟨_,run_beginRound hl (by rw [hrec]),?_⟩)⟩;have hl2:(W.putObj (w.heap.size+1) (.loop {rec .ready none with state:=.busy})).heap[w.heap.size+1]? =some (.loop {rec .ready none with state:=.busy}):=World.putObj_heap_same hlt;have hk2:(W.putObj (w.heap.size+1) (.loop {rec .ready none with state:=.busy})).heap[w.heap.size]? =some (.deferred (some [])):=(World.putObj_heap_other AG).trans hk;refine wpIn_mono (hbody _ pre x _ (yQ _ _ _ _ _ hi AG hl rfl) hlen) ?_;rintro e a3 W3 ⟨rfl,hk3,hkp3,hi3⟩;have hl3:=hk3.same _ _ hl2 rfl;have hend:=run_endRound (P:=P) none hl3;rw [hrec] at hend;have hlt3:w.heap.size+1 < W3.heap.size:=(DF.1 hl3).1;refine ⟨_,_,hend,rfl,⟨yQ _ _ _ _ _ hi3 AG hl3 rfl,?_,(World.putObj_heap_other AG).trans (hk3.same _ _ hk2 rfl)⟩,?_⟩
  ·rw [World.putObj_heap_same hlt3,hrec]
   rfl
  have hsz:∀(X:AH) (l:Nat) (o:Obj),(X.putObj l o).heap.size=X.heap.size:=fun X l o=>by simp [World.putObj]
  have hne:w.heap.size+1≠B2:=AG
  refine ⟨by rw [hsz];have:=hkp3.size;rw [hsz] at this;exact this,fun b hb hbl hbp=> ?_,?_,?_⟩
  ·have hbne:b≠w.heap.size+1:=by omega
   rw [World.putObj_heap_other AG];have:=hkp3.block b AG (by rw [hsz];exact hbl) (by rw [WB hne];exact hbp);rw [this,World.putObj_heap_other AG]
  ·rw [WB hne]
   rcases hkp3.pt with h | ⟨b,h,hb⟩
   · exact .inl (by rw [h,WB hne])
   · exact .inr ⟨b,h,by rw [hsz] at hb;exact hb⟩
  intro b hb;rw [WB hne] at hb;rw [hsz];exact hkp3.lt b hb
 rintro e W2 ⟨⟨v,rfl⟩,xs,hS,hi,hl,hk⟩;exact ⟨none,_,by have:=run_endLoop (P:=P) hl ZV;rw [hrec] at this;exact this,hdone _ xs _ (Ac _) hS (yQ _ _ _ _ _ hi AG hl rfl) ((World.putObj_heap_other AG).trans hk)⟩
theorem getD_mem {l:AQ} {i:Nat} (h:i < l.length):l.getD i 0∈l:=by rw [Ck,BN h];exact Um h
theorem XZ {l:AQ} {i j:Nat} {y:Int} (hi:i < l.length) (hj:j < l.length) (h:y∈JD l i j):y∈l:=by
 rcases ZT h with h | rfl
 ·rcases ZT h with h | rfl
  · exact h
  · exact getD_mem hj
 · exact getD_mem hi
theorem AGO {y:Int}:∀(j:Nat) (l:AQ),j < l.length->y∈Qp l j->y∈l:=by
 intro j
 induction j using Nat.strongRecOn with
 |
  _ j ih=>
  intro l hj h;unfold Qp at h;split at h
  · next hc=>exact XZ AG hj (ih _ AG _ gO h)
  · exact h
theorem ju {l:AQ} {x y:Int} (h:y∈N7 l x):y∈l\/y=x:=by have:=AGO _ _ AZ h;simpa using this
theorem ACV {y:Int} {n:Nat}:∀(k i:Nat) (l:AQ),n - i<=k->n<=l.length->y∈Fj l i n->y∈l:=by
 intro k
 induction k with
 |
  zero=>
  intro i l hk hn h;unfold Fj at h;split at h
  · next hc=>omega
  · exact h
 |
  succ k ih=>
  intro i l hk hn h;unfold Fj at h;split at h
  ·next hc=>have h1:=X3 (l:=l) hc.1;have h2:=X4 l i n;exact XZ AG AG (ih _ _ AG (by rw [El];exact hn) h)
  · exact h
theorem WC {l:AQ} {y:Int} (hp:0 < l.length) (h:y∈Ms l):y∈l:=
 XZ hp AG (ACV _ _ _ (Ac _) gO h)
def ADT (o:AQ):Nat:=o.countP fun c=>decide (0 < c)
def LZ (o h:AQ):Nat:=h.length+ADT o
theorem ACs {o h:AQ} {u:Int} (hu:u.toNat < o.length):LZ (OD (o,h) u).1 (OD (o,h) u).2<=LZ o h:=by
 unfold LZ OD ADT;simp only;have hs:(o.set u.toNat (o.getD u.toNat 0 - 1)).getD u.toNat 0=o.getD u.toNat 0 - 1:=by rw [Ck,Hg hu];rfl
 rw [hs];have hg:o.getD u.toNat 0=o[u.toNat]:=by rw [Ck,BN hu];rfl
 rw [hg,List.countP_set hu];have hle:0 < o[u.toNat]->1<=o.countP fun c=>decide (0 < c):=fun hp=>
  List.countP_pos_iff.2 ⟨_,Um hu,by simpa using hp⟩
 by_cases h1:o[u.toNat] - 1=0
 ·rw [Ak h1,Xm]
  have h2:0 < o[u.toNat]:=AG
  have h3:¬0 < o[u.toNat] - 1:=AG
  have:=hle h2;simp only [Bk h2,BS h3,C4,IU,He];omega
 rw [Ah h1];by_cases h2:0 < o[u.toNat]
 ·have h3:0 < o[u.toNat] - 1:=by omega
  have:=hle h2;simp only [Bk h2,Bk h3,C4];omega
 have h3:¬0 < o[u.toNat] - 1:=AG
 simp only [BS h2,BS h3,IU,He];omega
def I5 (rs:List Cm) (k:Nat):AQ:=(List.range k).map fun x:Nat=>((Bp rs x).length:Int)
theorem QR (rs:List Cm) (k:Nat):(I5 rs k).length=k:=by simp [I5]
theorem YU (rs:List Cm) (k:Nat):I5 rs (k+1)=I5 rs k++[((Bp rs k).length:Int)]:=by simp [I5,List.range_succ]
theorem Qa (rs:List Cm) (k:Nat):FG rs (k+1)=if (Bp rs k).length=0 then N7 (FG rs k) k else FG rs k:=by unfold FG;rw [Py,R7];rfl
theorem Qs (rs:List Cm):∀k:Nat,LZ (I5 rs k) (FG rs k)=k
 | 0=>rfl
 |
  k+1=>by
  have ih:=Qs rs k;unfold LZ ADT at ih ⊢;rw [YU,Qa,List.countP_append];by_cases h:(Bp rs k).length=0
  ·rw [Ak h,Xm]
   simp only [List.countP_cons,List.countP_nil,h];simp;omega
  rw [Ah h];have:(0:Int) < ((Bp rs k).length:Int):=AG
  simp only [List.countP_cons,List.countP_nil,Bk this,C4];omega
theorem V3 {rs:List Cm} {y:Int}:∀{k:Nat},y∈FG rs k->0<=y/\y < k
 | 0,h=>by simp [FG] at h
 |
  k+1,h=>by
  rw [Qa] at h;split at h
  ·rcases ju h with h | h
   · have:=V3 h;omega
   · omega
  · have:=V3 h;omega
theorem Z5 {rs:List Cm} {k:Nat} {x y:Int} (h:y∈Bl rs k x):0<=y/\y < k:=by unfold Bl at h;obtain ⟨h1,_⟩:=List.mem_filter.1 h;obtain ⟨z,hz,rfl⟩:=Dr.1 h1;have:=Eu.1 hz;exact ⟨by show (0:Int)<=((z:Nat):Int);omega,by show ((z:Nat):Int) < k;omega⟩
theorem ABj (rs:List Cm) (n:Nat):Cx rs n=La (fun x:Nat=>Bl rs n x) (n+1) (I5 rs n) (FG rs n):=rfl
theorem sW (us:Nat->AQ) (fuel:Nat) (o:AQ):La us fuel o []=[]:=by cases fuel <;> simp [La]
theorem pH {us:Nat->AQ} {fuel:Nat} {o h:AQ} (hp:0 < h.length):La us (fuel+1) o h=
 (Ms h).getD (h.length - 1) 0::La us fuel ((us ((Ms h).getD (h.length - 1) 0).toNat).foldl OD (o,(Ms h).take (h.length - 1))).1 ((us ((Ms h).getD (h.length - 1) 0).toNat).foldl OD (o,(Ms h).take (h.length - 1))).2:=by
 rw [La,Ah AG]
theorem Fp.drewN {w:AH} {base G:Nat} {l:AQ} (h:Fp w base G l) (n:Nat):Fp (w.drewN n) base G l:=h
theorem Fp.grown {w w':AH} {base G g:Nat} {v:AN} {t:Ae} {l:AQ} (hk:AY w G t #[v]) (ht:t=305) (hown:w'.ownsRow base 3 1 v l.length (l.map (Value.int .i64))) (hg:w.grownBy w' (some g)) (hbg:base<=g) (hG:G < base) (hs:base<=w.heap.size):Fp w' base G l:=by subst ht;exact ⟨v,hk.grown hg (fun e=>by injection e;omega),hown,hG,BH hs hg.size⟩
theorem ABT (k:Nat):((k:Int) - 1).tdiv 2=(((k - 1) / 2:Nat):Int):=by
 rcases k with _ | k
 · rfl
 have h:((k+1:Nat):Int) - 1=(k:Int):=AG
 rw [h];rw [Int.tdiv_eq_ediv_of_nonneg AG];simp
theorem yH (base G:Nat) (l:AQ) (j:Nat) (w:AH) (hq:Fp w base G l) (hj:j < l.length) (hl:l.length<=1000000):
 AS prog 226 #[.iface 302 (AU (some ⟨G,0,none⟩)),AB AE j] w fun e w'=>(∃u,e=AW u)/\Fp w' base G (Qp l j)/\Kept G w w':=by
 have HQ:=AF hq;clear hq;go_enter func226,ntmps226;go_wp2_with fail;go_loopg [1] j (fun q i wr=>∃k:Nat,∃r:AQ,q=k/\i=AB AE k/\k < r.length/\r.length=l.length/\Fp wr base G r/\Kept G w wr/\Qp r k=Qp l j)
 case atStart=>exact ⟨j,l,rfl,rfl,hj,rfl,HQ.o,Kept.refl _ _,rfl⟩
 clear HQ;obtain ⟨k,r,hg,rfl,hk,hlen,hq,hkept,hup⟩:=hrel;have hrl:r.length<=1000000:=AG
 obtain ⟨aX,HG,RU,Vp,HQ⟩:=Db hlen hg hup hkept hq;clear hg hup hkept hq hlen;obtain ⟨p,hp⟩:=Ad ((k - 1) / 2);have rF:=AF hp;have e1:IntKind.i64.wrap ((k:Int) - 1)=(k:Int) - 1:=Ca _ AG;have e2:((k:Int) - 1).tdiv 2=(p:Int):=by rw [ABT,hp]
 have e3:IntKind.i64.wrap (p:Int)=(p:Int):=Ca _ AG;by_cases h0:k=0
 ·subst h0
  have hp0:p=0:=AG
  subst hp0;clear hp;have HU:AI (Qp r 0=r):=AF (by unfold Qp;simp);go_wp2_with fail
  go_end0
  exact AA5
 have hpk:p < k:=AG
 have hpn:p < r.length:=AG
 obtain ⟨g,cap,hbg,hGb,hbs,hkb,hown⟩:=HQ.o.form AG;have c0:=hkb.cell 0;simp only [Aj,Ao] at c0;have HM:AI (∀q,(wr.drewN q).cell? ⟨G,0,none⟩=some (AA (some ⟨g,0,none⟩) r.length cap)):=AF (fun _=>c0);have hm:=Rq G _ wr c0 (prog.types.size+Made.depth) LN;simp only [types_size,Made.depth,Nat.reduceAdd] at hm;obtain ⟨HKB,HOWN⟩:=Al hkb hown;obtain ⟨v,hv⟩:=BR (decide (r.getD k 0 < r.getD p 0));have HV:=AF hv;have HC:AI (AS prog 244 #[AA (some ⟨g,0,none⟩) r.length cap,AB AE k,AB AE p] wr fun e w'=>e=AW (Ab v)/\∃k,w'=wr.drewN k):=AF (by have:=Sv base g cap r.length r k p wr hown hk hpn;rw [hv] at this;exact this)
 clear hkb hown c0 hv hp;have hne:¬(p:Int)=(k:Int):=AG
 go_upto_region 1 with fail;clear e1 e2 e3;go_wp2_with (go_at_call 244;refine HC.o.mono ?_;clear HC hm);rintro e w1 ⟨rfl,q,rfl⟩;cases v with
 |
  false=>
  have HU:AI (Qp r k=r):=AF (by unfold Qp;rw [MR];rintro ⟨_,h⟩;have:=HV.o;rw [rF.o] at this;exact absurd h (R8 this))
  go_wp2_with fail
  go_end0
  exact ⟨⟨_,rfl⟩,by rw [<-RU.o,HU.o];exact HQ.o,Vp.o.drewN _⟩
 |
  true=>
  have HU:AI (Qp r k=Qp (JD r p k) p):=AF (by
   have h2:=HV.o;rw [rF.o] at h2 ⊢
   conv=>lhs;unfold Qp
   rw [Hd ⟨by omega,F4 h2⟩])
  have hm2:=O8 G _ (wr.drewN q) (HM.o q) (prog.types.size+Made.depth) LN;simp only [types_size,Made.depth,Nat.reduceAdd] at hm2;go_wp2_with (go_at_call 248;refine (swap_any base g cap r.length r p k (wr.drewN q) HOWN.o hpn hk).mono ?_;clear hm2);rintro e w2 ⟨⟨u,rfl⟩,hown2,Jv⟩;obtain ⟨Ks,FC⟩:=Al (Fp.grown (w:=wr.drewN q) HKB.o rfl XP Jv hbg hGb hbs) (Vp.o.trans (((Kept.refl G wr).drewN q).trans (Kept.Lz (a:=wr.drewN q) HKB.o rfl (LP (Av hGb hbg)) Jv)));clear hown2 Jv;go_wp2;go_roundg p
  case measure=>exact Ej
  case rel=>exact ⟨p,JD r p k,rfl,rfl,by rw [El];exact hpn,by rw [El];exact aX.o,Ks.o,FC.o,by rw [<-HU.o];exact RU.o⟩
theorem X8 (base G:Nat) (l:AQ) (x:Int) (w:AH) (hq:Fp w base G l) (hl:l.length < 1000000):
 AS prog 184 #[.iface 302 (AU (some ⟨G,0,none⟩)),.iface 3 (AB AE x)] w fun e w'=>(∃u,e=AW u)/\Fp w' base G (N7 l x)/\Kept G w w':=by
 have hbs:base<=w.heap.size:=by obtain ⟨_,_,_,_,h⟩:=hq;exact h
 have HQ:=AF hq;clear hq;have hm:=xe ⟨G,0,none⟩ w (prog.types.size+Made.depth) LN;simp only [types_size,Made.depth,Nat.reduceAdd] at hm;go_enter func184,ntmps184;go_wp2_with (go_at_call 246;refine (ABc base G l x w HQ.o hbs AG).mono ?_;clear hm);rintro e w1 ⟨⟨u,rfl⟩,hq1,hk1⟩;obtain ⟨r,hr⟩:=BR (l++[x]);have HR:=AF hr;rw [hr] at hq1;have hlen:r.length=l.length+1:=by rw [<-hr];simp
 clear hr;obtain ⟨g,cap,hbg,hGb,AMX,hkb,hown⟩:=hq1.form AG;have c0:=hkb.cell 0;simp only [Aj,Ao] at c0;have hm:=jv G _ w1 c0 (prog.types.size+Made.depth) LN;simp only [types_size,Made.depth,Nat.reduceAdd] at hm;obtain ⟨fL,MP⟩:=Al hq1 hk1;have e1:IntKind.i64.wrap ((r.length:Int) - 1)=(l.length:Int):=by rw [Ca _ AG];omega
 have HLEN:=AF hlen;clear hkb hown hq1 hk1 c0 hlen;have HU:AI (Qp r l.length=N7 l x):=AF (by rw [N7,HR.o]);go_wp2_with (first
  | (go_at_call 185;refine (len_any _ _ _ _).mono ?_;rintro e w2 ⟨rfl,rfl⟩)
  | (go_at_call 226;refine (yH base G r l.length _ fL.o SQ SQ).mono ?_))
 rintro e w2 ⟨⟨u2,rfl⟩,hq2,hk2⟩;rw [HU.o] at hq2;obtain ⟨Ks,FC⟩:=Al hq2 (MP.o.trans hk2);clear hq2 hk2 e1 hm;go_wp2_with fail
 go_end0
 exact ⟨⟨_,rfl⟩,Ks.o,FC.o⟩
theorem qC (base G:Nat) (l:AQ) (i n:Nat) (w:AH) (hq:Fp w base G l) (hn:n<=l.length) (hl:l.length<=1000000) (hi:i<=n):
 AS prog 227 #[.iface 302 (AU (some ⟨G,0,none⟩)),AB AE i,AB AE n] w fun e w'=>(∃u,e=AW u)/\Fp w' base G (Fj l i n)/\Kept G w w':=by
 have HQ:=AF hq;clear hq;go_enter func227,ntmps227;go_wp2_with fail;go_loopg [7] (n - i) (fun q z wr=>∃k:Nat,∃r:AQ,q=n - k/\z=AB AE k/\k<=n/\r.length=l.length/\Fp wr base G r/\Kept G w wr/\Fj r k n=Fj l i n)
 case atStart=>exact ⟨i,l,rfl,rfl,hi,rfl,HQ.o,Kept.refl _ _,rfl⟩
 clear HQ;obtain ⟨k,r,hg,rfl,hk,hlen,hq,hkept,hup⟩:=hrel;have hrl:r.length<=1000000:=AG
 have hnr:n<=r.length:=AG
 obtain ⟨aX,HG,RU,Vp,HQ⟩:=Db hlen hg hup hkept hq;clear hg hup hkept hq hlen;obtain ⟨a,ha⟩:=Ad (2*k+1);obtain ⟨b,hb⟩:=Ad (2*k+2);have e1:IntKind.i64.wrap (2*(k:Int))=2*(k:Int):=Ca _ AG;have e2:IntKind.i64.wrap (2*(k:Int)+1)=(a:Int):=by rw [Ca _ AG];omega
 have e3:IntKind.i64.wrap ((a:Int)+1)=(b:Int):=by rw [Ca _ AG];omega
 have a0:¬(a:Int) < 0:=AG
 have HAB:AI (a=2*k+1/\b=2*k+2):=AF ⟨ha,hb⟩;by_cases han:a < n
 case neg=>
  have AKx:(n:Int)<=(a:Int):=AG
  have HU:AI (Fj r k n=r):=AF (by unfold Fj;rw [MR];rintro ⟨h,_⟩;omega)
  clear ha hb;go_upto_region 3 with fail;clear e1 e2 e3;go_wp2;go_ret;exact AA5
 have AKx:(a:Int) < (n:Int):=AG
 have hkn:k < n:=AG
 have hkr:k < r.length:=AG
 have har:a < r.length:=AG
 obtain ⟨g,cap,hbg,hGb,hbs,hkb,hown⟩:=HQ.o.form AG;have c0:=hkb.cell 0;simp only [Aj,Ao] at c0;have HM:AI (∀q,(wr.drewN q).cell? ⟨G,0,none⟩=some (AA (some ⟨g,0,none⟩) r.length cap)):=AF (fun _=>c0);have hm:=Rq G _ wr c0 (prog.types.size+Made.depth) LN;simp only [types_size,Made.depth,Nat.reduceAdd] at hm;obtain ⟨HKB,HOWN⟩:=Al hkb hown;clear hkb hown c0;by_cases hbn:b < n
 case neg=>
  have AKt:(n:Int)<=(b:Int):=AG
  have HJ:AI (Lb r k n=a):=AF (by unfold Lb;rw [Ah (fun h=>by omega)];omega);clear ha hb;go_upto_region 6 with fail;clear e1 e2 e3;obtain ⟨v2,hv2⟩:=BR (decide (r.getD a 0 < r.getD k 0));have EJ:=AF hv2;have HC:AI (AS prog 244 #[AA (some ⟨g,0,none⟩) r.length cap,AB AE a,AB AE k] wr fun e w'=>e=AW (Ab v2)/\∃k,w'=World.drewN wr k):=AF (by have:=Sv base g cap r.length r a k wr HOWN.o har hkr;rw [hv2] at this;exact this)
  clear hv2;go_wp2_with (go_at_call 244;refine HC.o.mono ?_;clear HC hm)
  first | rintro e w1 rfl q rfl | rintro e w1 ⟨rfl,q,rfl⟩
  have M9:AI ((wr.drewN q).cell? ⟨G,0,none⟩=some (AA (some ⟨g,0,none⟩) r.length cap)):=AF (HM.o 0);cases v2 with
  |
   false=>
   have HU:AI (Fj r k n=r):=AF ng
   go_wp2;go_ret;exact ⟨⟨_,rfl⟩,by rw [<-RU.o,HU.o];exact HQ.o,Vp.o.drewN _⟩
  |
   true=>
   have HU:AI (Fj r k n=Fj (JD r k a) a n):=AF (by
    conv=>lhs;unfold Fj
    rw [Hd ⟨by have:=HAB.o;omega,by rw [HJ.o];exact F4 EJ.o⟩,HJ.o])
   have hm2:=O8 G _ (wr.drewN q) M9.o (prog.types.size+Made.depth) LN;simp only [types_size,Made.depth,Nat.reduceAdd] at hm2;go_wp2_with (go_at_call 248;refine (swap_any base g cap r.length r k a (wr.drewN q) HOWN.o hkr har).mono ?_;clear hm2)
   first | rintro e w2 u rfl hown2 Jv | rintro e w2 ⟨⟨u,rfl⟩,hown2,Jv⟩
   have Ks:=AF (Fp.grown (w:=(wr.drewN q)) HKB.o rfl XP Jv hbg hGb hbs);have FC:AI (Kept G w w2):=AF ((Vp.o.drewN _).trans (Kept.Lz (a:=(wr.drewN q)) HKB.o rfl (LP (Av hGb hbg)) Jv));clear hown2 Jv;go_wp2;go_roundg (n - a)
   case measure=>have:=HG.o;have:=HAB.o;omega
   case rel=>exact ⟨a,JD r k a,rfl,rfl,by have:=HAB.o;omega,by rw [El];exact aX.o,Ks.o,FC.o,by rw [<-HU.o];exact RU.o⟩
 have AKt:(b:Int) < (n:Int):=AG
 have hbr:b < r.length:=AG
 obtain ⟨v,hv⟩:=BR (decide (r.getD b 0 < r.getD a 0));have HV:=AF hv;have J7:AI (AS prog 244 #[AA (some ⟨g,0,none⟩) r.length cap,AB AE b,AB AE a] wr fun e w'=>e=AW (Ab v)/\∃k,w'=wr.drewN k):=AF (by have:=Sv base g cap r.length r b a wr HOWN.o hbr har;rw [hv] at this;exact this)
 clear hv;have XH:AI (Lb r k n=if v then b else a):=AF (by
  unfold Lb;rw [<-ha,<-hb,<-HV.o];by_cases h:r.getD b 0 < r.getD a 0
  · rw [Ak ⟨hbn,h⟩,Bk h];rfl
  · rw [Ah (fun x=>h x.2),BS h];rfl)
 clear ha hb;go_upto_region 6 with fail;clear e1 e2 e3;go_wp2_with (go_at_call 244;refine J7.o.mono ?_;clear J7 hm)
 first | rintro e w1 rfl q0 rfl | rintro e w1 ⟨rfl,q0,rfl⟩
 cases v with
 |
  false=>
  have HJ:AI (Lb r k n=a):=XH;obtain ⟨v2,hv2⟩:=BR (decide (r.getD a 0 < r.getD k 0));have EJ:=AF hv2;have HC:AI (AS prog 244 #[AA (some ⟨g,0,none⟩) r.length cap,AB AE a,AB AE k] (wr.drewN q0) fun e w'=>e=AW (Ab v2)/\∃k,w'=World.drewN (wr.drewN q0) k):=AF (by have:=Sv base g cap r.length r a k (wr.drewN q0) HOWN.o har hkr;rw [hv2] at this;exact this)
  clear hv2;have hm:=Rq G _ (wr.drewN q0) (HM.o q0) (prog.types.size+Made.depth) LN;simp only [types_size,Made.depth,Nat.reduceAdd] at hm;go_wp2_with (go_at_call 244;refine HC.o.mono ?_;clear HC hm)
  first | rintro e w1 rfl q rfl | rintro e w1 ⟨rfl,q,rfl⟩
  have M9:AI ((wr.drewN (q0+q)).cell? ⟨G,0,none⟩=some (AA (some ⟨g,0,none⟩) r.length cap)):=AF (HM.o 0);cases v2 with
  |
   false=>
   have HU:AI (Fj r k n=r):=AF ng
   go_wp2;go_ret;exact ⟨⟨_,rfl⟩,by rw [<-RU.o,HU.o];exact HQ.o,Vp.o.drewN _⟩
  |
   true=>
   have HU:AI (Fj r k n=Fj (JD r k a) a n):=AF (by
    conv=>lhs;unfold Fj
    rw [Hd ⟨by have:=HAB.o;omega,by rw [HJ.o];exact F4 EJ.o⟩,HJ.o])
   have hm2:=O8 G _ (wr.drewN (q0+q)) M9.o (prog.types.size+Made.depth) LN;simp only [types_size,Made.depth,Nat.reduceAdd] at hm2;go_wp2_with (go_at_call 248;refine (swap_any base g cap r.length r k a (wr.drewN (q0+q)) HOWN.o hkr har).mono ?_;clear hm2)
   first | rintro e w2 u rfl hown2 Jv | rintro e w2 ⟨⟨u,rfl⟩,hown2,Jv⟩
   have Ks:=AF (Fp.grown (w:=(wr.drewN (q0+q))) HKB.o rfl XP Jv hbg hGb hbs);have FC:AI (Kept G w w2):=AF ((Vp.o.drewN _).trans (Kept.Lz (a:=(wr.drewN (q0+q))) HKB.o rfl (LP (Av hGb hbg)) Jv));clear hown2 Jv;go_wp2;go_roundg (n - a)
   case measure=>have:=HG.o;have:=HAB.o;omega
   case rel=>exact ⟨a,JD r k a,rfl,rfl,by have:=HAB.o;omega,by rw [El];exact aX.o,Ks.o,FC.o,by rw [<-HU.o];exact RU.o⟩
 |
  true=>
  have HJ:AI (Lb r k n=b):=XH;obtain ⟨v2,hv2⟩:=BR (decide (r.getD b 0 < r.getD k 0));have EJ:=AF hv2;have HC:AI (AS prog 244 #[AA (some ⟨g,0,none⟩) r.length cap,AB AE b,AB AE k] (wr.drewN q0) fun e w'=>e=AW (Ab v2)/\∃k,w'=World.drewN (wr.drewN q0) k):=AF (by have:=Sv base g cap r.length r b k (wr.drewN q0) HOWN.o hbr hkr;rw [hv2] at this;exact this)
  clear hv2;have hm:=Rq G _ (wr.drewN q0) (HM.o q0) (prog.types.size+Made.depth) LN;simp only [types_size,Made.depth,Nat.reduceAdd] at hm;go_wp2_with (go_at_call 244;refine HC.o.mono ?_;clear HC hm)
  first | rintro e w1 rfl q rfl | rintro e w1 ⟨rfl,q,rfl⟩
  have M9:AI ((wr.drewN (q0+q)).cell? ⟨G,0,none⟩=some (AA (some ⟨g,0,none⟩) r.length cap)):=AF (HM.o 0);cases v2 with
  |
   false=>
   have HU:AI (Fj r k n=r):=AF ng
   go_wp2;go_ret;exact ⟨⟨_,rfl⟩,by rw [<-RU.o,HU.o];exact HQ.o,Vp.o.drewN _⟩
  |
   true=>
   have HU:AI (Fj r k n=Fj (JD r k b) b n):=AF (by
    conv=>lhs;unfold Fj
    rw [Hd ⟨by have:=HAB.o;omega,by rw [HJ.o];exact F4 EJ.o⟩,HJ.o])
   have hm2:=O8 G _ (wr.drewN (q0+q)) M9.o (prog.types.size+Made.depth) LN;simp only [types_size,Made.depth,Nat.reduceAdd] at hm2;go_wp2_with (go_at_call 248;refine (swap_any base g cap r.length r k b (wr.drewN (q0+q)) HOWN.o hkr hbr).mono ?_;clear hm2)
   first | rintro e w2 u rfl hown2 Jv | rintro e w2 ⟨⟨u,rfl⟩,hown2,Jv⟩
   have Ks:=AF (Fp.grown (w:=(wr.drewN (q0+q))) HKB.o rfl XP Jv hbg hGb hbs);have FC:AI (Kept G w w2):=AF ((Vp.o.drewN _).trans (Kept.Lz (a:=(wr.drewN (q0+q))) HKB.o rfl (LP (Av hGb hbg)) Jv));clear hown2 Jv;go_wp2;go_roundg (n - b)
   case measure=>have:=HG.o;have:=HAB.o;omega
   case rel=>exact ⟨b,JD r k b,rfl,rfl,by have:=HAB.o;omega,by rw [El];exact aX.o,Ks.o,FC.o,by rw [<-HU.o];exact RU.o⟩
theorem aG (base G:Nat) (l:AQ) (w:AH) (hq:Fp w base G l) (hpos:0 < l.length) (hl:l.length<=1000000):
 AS prog 186 #[.iface 302 (AU (some ⟨G,0,none⟩))] w fun e w'=>e=AW (.iface 3 (AB AE ((Ms l).getD (l.length - 1) 0)))/\Fp w' base G ((Ms l).take (l.length - 1))/\Kept G w w':=by
 obtain ⟨g,cap,hbg,hGb,hbs,hkb,hown⟩:=hq.form hpos;have c0:=hkb.cell 0;simp only [Aj,Ao] at c0;obtain ⟨HQ,HKB,HOWN⟩:=BB hq hkb hown;obtain ⟨n,hn⟩:=Ad (l.length - 1);have HN:=AF hn;have e1:IntKind.i64.wrap ((l.length:Int) - 1)=(n:Int):=by rw [Ca _ AG];omega
 have hnl:n < l.length:=AG
 have hm:=jv G _ w c0 (prog.types.size+Made.depth) LN;simp only [types_size,Made.depth,Nat.reduceAdd] at hm;have hms:=O8 G _ w c0 (prog.types.size+Made.depth) LN;simp only [types_size,Made.depth,Nat.reduceAdd] at hms;clear hq hkb hown c0 hn;obtain ⟨r,hr⟩:=BR (Ms l);have HR:AI (Fj (JD l 0 n) 0 n=r):=AF (by rw [<-hr,Ms,HN.o]);have hrl:r.length=l.length:=by rw [<-hr,Qd]
 have T8:=AF hrl;rw [hr];clear hr hrl;go_enter func186,ntmps186;go_wp2_with (first
  | (go_at_call 185;refine (len_any _ _ _ _).mono ?_;rintro e w2 ⟨rfl,rfl⟩)
  | (go_at_call 248;refine (swap_any base g cap l.length l 0 n w HOWN.o hpos hnl).mono ?_;clear hm hms e1))
 first | rintro e w1 u rfl hown2 Jv | rintro e w1 ⟨⟨u,rfl⟩,hown2,Jv⟩
 have hq1:Fp w1 base G (JD l 0 n):=Fp.grown (w:=w) HKB.o rfl XP Jv hbg hGb hbs;have MP:AI (Kept G w w1):=AF (Kept.Lz (a:=w) HKB.o rfl (LP (Av hGb hbg)) Jv);have fL:=AF hq1;clear hq1 hown2 Jv;go_wp2_with (go_at_call 227;refine (qC base G (JD l 0 n) 0 n w1 fL.o gO (by rw [El];exact hl) (Ay _)).mono ?_)
 first | rintro e w2 u2 rfl hq2 hk2 | rintro e w2 ⟨⟨u2,rfl⟩,hq2,hk2⟩
 rw [HR.o] at hq2;obtain ⟨Ks,FC⟩:=Al hq2 (MP.o.trans hk2);have ER:=ABt ⟨G,0,none⟩ w2 (prog.types.size+Made.depth) LN;simp only [types_size,Made.depth,Nat.reduceAdd] at ER;clear hq2 hk2;go_wp2_with (go_at_call 245;refine (ADR base G r w2 Ks.o (by have:=T8.o;omega) (by have:=T8.o;omega)).mono ?_;clear ER)
 first | rintro e w3 rfl hq3 hk3 | rintro e w3 ⟨rfl,hq3,hk3⟩
 rw [T8.o] at hq3 ⊢;obtain ⟨fK,Ls⟩:=Al hq3 (FC.o.trans hk3);clear hq3 hk3;go_wp2;go_ret;exact ⟨rfl,fK.o,Ls.o⟩
theorem Fp.put {w:AH} {base G O:Nat} {l:AQ} (h:Fp w base G l) (hO:O < base) (hne:O≠G) (i:Nat) (u:AN):Fp (w.setCell ⟨O,i,none⟩ u) base G l:=by obtain ⟨v,h1,h2,h3,h4⟩:=h;exact ⟨v,h1.far (fun e=>hne e.symm) u,FO h2 hO u,h3,by simpa [World.setCell] using h4⟩
theorem Fp.pt {w:AH} {base G:Nat} {l:AQ} (h:Fp w base G l):∀b,EK G w=some b->base<=b/\b < w.heap.size:=by obtain ⟨v,h1,h2,h3,h4⟩:=h;intro b hb;rw [GR h1] at hb;exact h2.lt b hb
theorem Kept.low {w w':AH} {base G:Nat} {l:AQ} (hk:Kept G w w') (h:Fp w base G l) {b:Nat} (hb:b < base) (hne:b≠G):w'.heap[b]? =w.heap[b]? :=by
 have hs:base<=w.heap.size:=by obtain ⟨_,_,_,_,h⟩:=h;exact h
 exact hk.block b AG hne (fun e=>by have:=(h.pt b e.symm).1;omega)
theorem Kept.below {w w':AH} {base G B:Nat} {l:AQ} (hk:Kept G w w') (h:Fp w base G l) (hB:B<=G):Below B w w':=by
 have hG:G < base:=by obtain ⟨_,_,_,h,_⟩:=h;exact h
 exact ⟨hk.os,hk.tape,hk.output,hk.size,fun b hb=>hk.low h AG AG⟩
structure ItC (B B2 U O G base:Nat) (us:List AN):Prop where
 b2:B2 < B
 oB:B<=O
 ob:O < base
 og:O≠G
 gB:B<=G
 rb:∀b,UX U us b->B<=b/\b < base/\b≠O/\b≠G
structure TH (n₀ B2 bU U O G base n:Nat) (us:List AN) (f:Nat->AQ) (X:AH) (o h:AQ):Prop where
 op:AY X O 3 ((o.map (Value.int .i64)).toArray)
 q:Fp X base G h
 rows:DV X bU U n us f
 dk:∀b,EK B2 X=some b->n₀<=b/\b < X.heap.size/\¬UX U us b/\b≠O/\b≠G/\some b≠EK G X
section
variable {n₀ B B2 bU U O G base n:Nat} {us:List AN} {f:Nat->AQ} {X X':AH} {o h h':AQ}
theorem Oc {B2:Nat} {X X':AH} (h:X'.heap[B2]? =X.heap[B2]?):EK B2 X'=EK B2 X:=by unfold EK World.cell?;rw [h]
theorem TH.put (hc:ItC B B2 U O G base us) (hs:TH n₀ B2 bU U O G base n us f X o h) (i:Nat) (z:Int):
 TH n₀ B2 bU U O G base n us f (X.setCell ⟨O,i,none⟩ (AB AE z)) (o.set i z) h/\Off B B2 X (X.setCell ⟨O,i,none⟩ (AB AE z)):=by
 have hpt:EK B2 (X.setCell ⟨O,i,none⟩ (AB AE z))=EK B2 X:=Oc (C5 _ _ _ B2 (fun e=>by have:=hc.b2;have:=hc.oB;simp at e;omega));have hpg:EK G (X.setCell ⟨O,i,none⟩ (AB AE z))=EK G X:=Oc (C5 _ _ _ G (fun e=>hc.og e.symm));have hsz:(X.setCell ⟨O,i,none⟩ (AB AE z)).heap.size=X.heap.size:=by simp [World.setCell]
 refine ⟨⟨?_,hs.q.put hc.ob hc.og _ _,hs.rows.keep (fun b hb=>C5 _ _ _ b (hc.rb b hb).2.2.1),?_⟩,?_⟩
 ·have:=hs.op.put i (AB AE z)
  rw [Kf,<-R0] at this;exact this
 ·intro b hb
  rw [hpt] at hb;rw [hpg,hsz];exact hs.dk b hb
 refine ⟨rfl,rfl,rfl,by rw [hsz];exact Ac _,fun b hb hor=>C5 _ _ _ b (fun e=> ?_)⟩;have e:b=O:=e;subst e;rcases hor with hor | hor
 · have:=hc.oB;omega
 · exact (hs.dk _ hor.symm).2.2.2.1 rfl
theorem TH.kept (hc:ItC B B2 U O G base us) (hs:TH n₀ B2 bU U O G base n us f X o h) (hk:Kept G X X') (hq:Fp X' base G h'):
 TH n₀ B2 bU U O G base n us f X' o h'/\Off B B2 X X':=by
 have hB2:B2 < base:=by have:=hc.b2;have:=hc.oB;have:=hc.ob;omega
 have hpt:EK B2 X'=EK B2 X:=Oc (hk.low hs.q hB2 (by have:=hc.b2;have:=hc.gB;omega));refine ⟨⟨(hk.low hs.q hc.ob hc.og).trans hs.op,hq,hs.rows.keep (fun b hb=>hk.low hs.q (hc.rb b hb).2.1 (hc.rb b hb).2.2.2),?_⟩,?_⟩
 ·intro b hb
  rw [hpt] at hb;obtain ⟨h1,h2,h3,h4,h5,h6⟩:=hs.dk b hb;refine ⟨h1,Av h2 hk.size,h3,h4,h5,?_⟩;rcases hk.pt with e | ⟨y,e,hy⟩
  · rw [e];exact h6
  rw [e];intro e2;injection e2 with e2;omega
 refine ⟨hk.os,hk.tape,hk.output,hk.size,fun b hb hor=> ?_⟩;rcases hor with hor | hor
 · exact hk.low hs.q (by have:=hc.oB;have:=hc.ob;omega) (by have:=hc.gB;omega)
 obtain ⟨h1,h2,h3,h4,h5,h6⟩:=hs.dk b hor.symm;exact hk.block b hb h5 h6
theorem Fp.keep {w w':AH} {base G:Nat} {l:AQ} (h:Fp w base G l) (hs:w.heap.size<=w'.heap.size) (hb:∀b,b=G\/EK G w=some b->w'.heap[b]? =w.heap[b]?):Fp w' base G l:=by
 obtain ⟨v,h1,h2,h3,h4⟩:=h;refine ⟨v,(hb G (.inl rfl)).trans h1,⟨h2.1,?_⟩,h3,BH h4 hs⟩;rcases h2.2 with h2 | ⟨g,cap,cur,hv,hg,hh,rest⟩
 · exact .inl h2
 · exact .inr ⟨g,cap,cur,hv,hg,(hb g (.inr (by rw [GR h1,hv];rfl))).trans hh,rest⟩
theorem TH.round (hc:ItC B B2 U O G base us) (hs:TH n₀ B2 bU U O G base n us f X o h) (hk:KpC n₀ B B2 X X') (hn:n₀<=B) (hBX:B<=X.heap.size):TH n₀ B2 bU U O G base n us f X' o h:=by
 have same:∀b,B<=b->b < X.heap.size->(∀c,EK B2 X=some c->c≠b)->X'.heap[b]? =X.heap[b]? :=fun b h1 h2 h3=>hk.block b (.inr h1) h2 (fun e=>h3 b e.symm rfl);have hG:=hs.q.pt;have hGs:G < X.heap.size:=by obtain ⟨v,h1,_⟩:=hs.q;exact h1.lt
 have sG:X'.heap[G]? =X.heap[G]? :=same G hc.gB hGs (fun c hcc=>(hs.dk c hcc).2.2.2.2.1);have sO:X'.heap[O]? =X.heap[O]? :=same O hc.oB hs.op.lt (fun c hcc=>(hs.dk c hcc).2.2.2.1);have hbase:G < base:=by obtain ⟨v,_,_,h3,_⟩:=hs.q;exact h3
 have hpg:EK G X'=EK G X:=Oc sG;refine ⟨sO.trans hs.op,hs.q.keep hk.size (fun b hb=> ?_),hs.rows.keep (fun b hb=>same b (hc.rb b hb).1 (hs.rows.lt hb).2 (fun c hcc e=>(hs.dk c hcc).2.2.1 (e ▸ hb))),?_⟩
 ·rcases hb with rfl | hb
  · exact sG
  · exact same b (by have:=(hG b hb).1;have:=hc.gB;omega) (hG b hb).2 (fun c hcc e=>(hs.dk c hcc).2.2.2.2.2 (by rw [hb,e]))
 intro b hb;rw [hpg];rcases hk.pt with e | ⟨y,e,hy⟩
 ·rw [e] at hb
  obtain ⟨h1,h2,h3⟩:=hs.dk b hb;exact ⟨h1,Av h2 hk.size,h3⟩
 have hlt:=hk.lt b hb;rw [e] at hb;injection hb with hb;subst hb;refine ⟨by omega,hlt,fun hr=>by have:=(hs.rows.lt hr).2;omega,by have:=hs.op.lt;omega,by omega,fun e2=> ?_⟩;have:=(hG _ e2.symm).2;omega
end
theorem dw {rs:List Cm} {n:Nat} {x:Int} (h:∀y∈Bp rs x,0<=y/\y < n):(Bp rs x).length<=n:=by
 have:=Xt (Bp rs x) ((List.range n).map Int.ofNat) (Xu rs x) (fun y hy=>by have:=h y hy;exact Dr.2 ⟨y.toNat,Eu.2 AG,by show ((y.toNat:Nat):Int)=y;omega⟩)
 simpa using this
open Go.Shelf
attribute [local go_sem] Oper.semAt_some
theorem AB4 {w:AH} {b:Nat} {m:List (Int×Bool)} (h:Kz (Value.int .i64) Value.bool w b m) (ty:Ae):(Builtin.len_ #[209] ty #[.map (some b)]).run prog w=.ok (AB AE m.length) w:=by
 obtain ⟨es,clock,h1,h2,_⟩:=h;have hl:es.size=m.length:=by have:=congrArg List.length h2;simpa using this
 have:=run_len_map (P:=prog) w 209 ty b es clock AJ h1;rw [this,hl];rfl
theorem AB3 (w:AH) (ty:Ae):(Builtin.len_ #[209] ty #[.map none]).run prog w=.ok (AB AE 0) w:=by have:=run_len_nilMap (P:=prog) w 209 ty AJ;rw [this];rfl
theorem tW (m n₀ B2 bg M n base0:Nat) (hs:List (Int×Nat)) (rs:List Cm) (w:AH) (hbg:AY w bg 214 #[AB AE n,.map (some M)]) (hG:Fq w base0 M hs (Bp rs)) (hin:∀h y,y∈Bp rs h->0<=y/\y < n) (hn:n<=1000) (hB2:B2 < w.heap.size) (hn₀:n₀<=w.heap.size):
 AIo Fence.wide m prog 182 #[AU (some ⟨bg,0,none⟩)] (fun x:Int=>#[AB AE x]) n₀ B2 (fun xs=>xs=Cx rs n) n w:=by
 intro l J W hW hp0 hJ hY h0;refine FK.2 ?_;have qD:=hbg.below hW hbg.lt;have b0:=qD.cell 0;have b1:=qD.cell 1;have lb:=qD.lt;simp only [Aj,Ao,BA] at b0 b1;obtain ⟨wB,Rg,HP0,HJ,HY,XH,fW⟩:=LU (hG.below hW) hin hp0 hJ hY h0 qD;have hnW:n₀<=W.heap.size:=BH hn₀ hW.size;have yS:B2 < W.heap.size:=Av hB2 hW.size;clear hbg hG hin hp0 hJ hY h0 qD hW hB2;have hmk:=run_make_row' (P:=prog) 30 3 (AB AE 0) 8 underlying30 WL rfl .i64 .i64 n AG AG;rw [Wn] at hmk;go_enter func182,ntmps182;go_wp2_with fail
 go_region_held3 (fun w'=>w'.cell? ⟨bg,0,none⟩=some (AB AE n)/\w'.cell? ⟨bg,1,none⟩=some (.map (some M))/\AK W w')
  (first
   | exact ⟨(MS ((Af _ W).drew) (p:=⟨bg,0,none⟩) lb).trans b0,(MS ((Af _ W).drew) (p:=⟨bg,1,none⟩) lb).trans b1,(Af _ W).drew⟩
   | exact ⟨(MS ((Af _ W).drew.trans hbu) (p:=⟨bg,0,none⟩) lb).trans b0,(MS ((Af _ W).drew.trans hbu) (p:=⟨bg,1,none⟩) lb).trans b1,(Af _ W).drew.trans hbu⟩
   | exact ⟨(MS (((Af _ W).drew.trans hbu).alloc hbu.size _) (p:=⟨bg,0,none⟩) lb).trans b0,(MS (((Af _ W).drew.trans hbu).alloc hbu.size _) (p:=⟨bg,1,none⟩) lb).trans b1,((Af _ W).drew.trans hbu).alloc hbu.size _⟩
   | exact ⟨(MS ((Af _ W).drew.alloc (Ac _) _) (p:=⟨bg,0,none⟩) lb).trans b0,(MS ((Af _ W).drew.alloc (Ac _) _) (p:=⟨bg,1,none⟩) lb).trans b1,(Af _ W).drew.alloc (Ac _) _⟩
   | exact ⟨(MS (((Af _ W).drew.alloc (Ac _) _).trans (hbu.mono AZ)) (p:=⟨bg,0,none⟩) lb).trans b0,(MS (((Af _ W).drew.alloc (Ac _) _).trans (hbu.mono AZ)) (p:=⟨bg,1,none⟩) lb).trans b1,((Af _ W).drew.alloc (Ac _) _).trans (hbu.mono AZ)⟩)
  (first
   | (go_at_call 183;refine (ja base0 M n hs rs _ (wB.o.below (Af _ W).drew) Rg.o hn).mono ?_;rintro e w' ⟨U,us,rfl,RN,hbu⟩)
   | (go_at_call 183;refine (ja base0 M n hs rs _ (wB.o.below ((Af _ W).drew.alloc (Ac _) _)) Rg.o hn).mono ?_;rintro e w' ⟨U,us,rfl,RN,hbu⟩))
 ·obtain ⟨X,hX⟩:=Ad (w'.alloc (AO (Array.replicate n (AB AE 0)) 3))
  obtain ⟨O,hO⟩:=Ad w'.heap.size;have hwb:AK W w':=(Af _ W).drew.trans hbu;have HX:AI (AK W X):=AF (by rw [hX];exact hwb.alloc hwb.size _);have fJ:AI (DV X (W.heap.size+1) U n us (fun x:Nat=>Bl rs n x)):=AF (by rw [hX];exact DV.alloc (base:=W.heap.size+1) RN _);have Ii:AI (AY X O 3 (Array.replicate n (AB AE 0))):=AF (by rw [hX,hO];exact AY.new _ _ _);have yP:W.heap.size<=O:=by rw [hO];exact hwb.size
  have Co:AI (∀b,UX U us b->b≠O):=AF (fun b hb=>by have:=(RN.lt hb).2;omega);rw [<-hX,<-hO];clear hX hO hwb RN hbu;have Qx:=fW.o.below HX.o lb;have b0:=Qx.cell 0;have b1:=Qx.cell 1;have lbX:=Qx.lt;simp only [Aj,Ao,BA] at b0 b1;have hOX:=Ii.o.lt;have J5:AI (∀b,UX U us b->W.heap.size<=b/\b < X.heap.size/\b≠O):=AF (fun b hb=>⟨by have:=(fJ.o.lt hb).1;omega,(fJ.o.lt hb).2,Co.o b hb⟩);clear Qx hmk;go_wp2_with fail;obtain ⟨Y,hY⟩:=Ad (X.alloc (AO #[AA none 0 0] 305));obtain ⟨G,hG⟩:=Ad X.heap.size;obtain ⟨base,hbase⟩:=Ad (X.heap.size+1);have hXW:=HX.o.size;have Yz:AI (AK W Y):=AF uI;have lW:AI (DV Y (W.heap.size+1) U n us (fun x:Nat=>Bl rs n x)):=AF (by rw [hY];exact fJ.o.alloc _);have fN:AI (AY Y O 3 (Array.replicate n (AB AE 0))):=AF (by rw [hY];exact Ii.o.alloc _);have Pf:AI (Fp Y base G (FG rs 0)):=AF uq;have hGW:W.heap.size<=G:=AG
  have vY:O≠G:=AG
  have hOb:O < base:=AG
  have WZ:AI (∀b,UX U us b->W.heap.size<=b/\b < base/\b≠O/\b≠G):=AF (fun b hb=>by have:=J5.o b hb;omega);rw [<-hY,<-hG];clear hY hG hbase b0 b1 hXW fJ Ii HX;go_loopg [20] n (fun q i wr=>∃k:Nat,k<=n/\q=n - k/\i=AB AE k/\AY wr O 3 (((I5 rs k++List.replicate (n - k) 0).map (Value.int .i64)).toArray)/\Fp wr base G (FG rs k)/\DV wr (W.heap.size+1) U n us (fun x:Nat=>Bl rs n x)/\AK W wr)
  case atStart=>exact AA8
  clear Yz lW fN Pf;obtain ⟨k,hk,hq,rfl,ho,hqa,hr,hb⟩:=hrel;obtain ⟨HQ,HO,rE,HR,HB⟩:=Db hq ho hqa hr hb;clear hq ho hqa hr hb;by_cases hlt:k < n
  case neg=>
   obtain rfl:k=n:=AG
   go_wp2_with fail
   skip
   have vg:ItC W.heap.size B2 U O G base us:=⟨yS,yP,hOb,vY,hGW,fun b hb=>WZ.o b hb⟩;have xy:EK B2 wr=EK B2 W:=Oc (HB.o.block B2 yS);have hIS:TH n₀ B2 (W.heap.size+1) U O G base k us (fun x:Nat=>Bl rs k x) wr (I5 rs k) (FG rs k):=by
    exact AAl
   have hJ1:J [] wr:=HJ.o _ _ _ XH.o ⟨HB.o.os,HB.o.tape,HB.o.output,HB.o.size,fun b hb h=>by
    rcases h with h | h
    · exact HB.o.block b h
    · exact HB.o.block b (HP0.o b h.symm).2⟩
   have hcb:∀c∈I5 rs k, -(1000*((([]:AQ)).length:Int))<=c/\c<=1000:=by intro c hcc;unfold I5 at hcc;obtain ⟨y,hy,rfl⟩:=Dr.1 hcc;have:=dw (rs:=rs) (n:=k) (x:=(y:Int)) (fun z hz=>Rg.o _ z hz);simp;omega
   obtain ⟨Vs,zb,ag,zk⟩:=CD vg hIS hJ1 hcb;have j9:W.heap.size<=wr.heap.size:=HB.o.size;clear vg xy hIS hJ1 hcb HO rE HR HB HQ hk hlt J5 WZ Co fW wB Rg HP0;obtain ⟨wy,rfl⟩:=Ad wr;go_loopg [46] k (fun q _ wr=>∃(o h pre:AQ) (fuel:Nat),q=LZ o h/\o.length=k/\TH n₀ B2 (W.heap.size+1) U O G base k us (fun x:Nat=>Bl rs k x) wr o h/\J pre wr/\W.heap.size<=wr.heap.size/\(∀y∈h,0<=y/\y < k)/\pre.length+LZ o h<=k/\LZ o h<=fuel/\pre++La (fun x:Nat=>Bl rs k x) fuel o h=Cx rs k/\(∀c∈o, -(1000*(pre.length:Int))<=c/\c<=1000))
   case atStart=>exact ABD
   clear zb ag zk j9;obtain ⟨o,h,pre,fuel,hq,hol,his,hj,j9,hhm,hpl,hpf,hgo,hcb⟩:=hrel;obtain ⟨HQ,HOL,HIS,HJP,HHM,XE,HPF,rW,Mj⟩:=P4 hq hol his hj hhm hpl hpf hgo hcb;have hhl:h.length<=k:=by unfold LZ at hpl;omega
   clear hq hol his hj hhm hpl hpf hgo hcb;by_cases hpos:0 < h.length
   case neg=>
    exact AAu
   obtain ⟨g,cap,AKu,AKz,AKs,hkb,hown⟩:=HIS.o.q.form hpos;have c0:=hkb.cell 0;have lG:=hkb.lt;simp only [Aj,Ao] at c0;have AKh:(0:Int) < (h.length:Int):=AG
   have AES:h.length<=1000000:=AG
   obtain ⟨x,hx⟩:=BR ((Ms h).getD (h.length - 1) 0);obtain ⟨h1,hh1⟩:=BR ((Ms h).take (h.length - 1));obtain ⟨HX1,PX⟩:=Al hx hh1;have hpc:=aG base G h wr HIS.o.q hpos AES;rw [hx,hh1] at hpc;have hxm:0<=x/\x < k:=HHM.o x (WC hpos uX);have px:∀y∈h1,0<=y/\y < k:=fun y hy=>HHM.o y (WC hpos (List.mem_of_mem_take (by rw [hh1];exact hy)));have hl1:h1.length=h.length - 1:=by rw [<-hh1,Df,Qd];omega
   obtain ⟨AJP,UC,HPC⟩:=BB px hl1 hpc;have hta:=YX x;clear hkb hown hx hh1 hpc px hl1;go_upto_region 11 with (first
    | (go_at_call 185;refine (len_any _ _ _ _).mono ?_;rintro e w2 ⟨rfl,rfl⟩)
    | (go_at_call 186;refine HPC.o.mono ?_))
   first | rintro e w1 rfl hq1 hk1 | rintro e w1 ⟨rfl,hq1,hk1⟩
   obtain ⟨hs1,pk⟩:=HIS.o.kept Vs.o hk1 hq1;have hj1:=HJ.o _ _ _ HJP.o pk;have qI:W.heap.size<=w1.heap.size:=BH j9 hk1.size;obtain ⟨fn,tmps,assign,body,hy,hR⟩:=HY.o pre x w1 hj1 uD;obtain ⟨LG,HR⟩:=Al hs1 hR;clear hq1 hk1 hs1 pk hj1 hR;go_upto_region 11 with fail;refine (D6 (n:=m)).1 ?_
   gi_wp2
   refine ⟨(fun h=>by cases h),HR.o.mono ?_⟩;rintro e w2 ⟨rfl,hj2,hkp⟩;have hs2:=LG.o.round Vs.o hkp hnW qI;have jD:AI (W.heap.size<=w2.heap.size):=AF (BH qI hkp.size);obtain ⟨HJ2,HS2⟩:=Al hj2 hs2;obtain ⟨xn,rfl⟩:∃xn:Nat,x=xn:=⟨x.toNat,by omega⟩;have hxk:xn < k:=AG
   have hx0:(0:Int)<=(xn:Int):=AG
   have hx1:(xn:Int) < (k:Int):=AG
   have hxl:xn < us.length:=by rw [hs2.rows.len];exact hxk
   obtain ⟨v,hv⟩:∃v,us[xn]? =some v:=⟨_,BN hxl⟩;have hrow:=(hs2.rows.row xn v hv).1;have hcell:=hs2.rows.blk.cell xn;rw [Aj,hv] at hcell;have eJ:=UK rs k xn;have hvf:∃A c,v=AA A (Bl rs k xn).length c:=by
    exact AAG
   obtain ⟨A,c,rfl⟩:=hvf;obtain ⟨L,hL⟩:=BR (Bl rs k xn);obtain ⟨HL,HV⟩:=Al hL hv;rw [hL] at eJ hcell;have hLn:L.length<=1000:=AG
   have HLM:AI (∀y∈L,0<=y/\y < k):=AF (fun y hy=>Z5 (rs:=rs) (k:=k) (x:=xn) (by rw [hL];exact hy));clear hj2 hkp hs2 hrow hv hL hy hxl
   gi_wp2
   go_wp2_with fail;clear hcell;obtain ⟨wz,rfl⟩:=Ad wr;go_loopg [68] L.length (fun q i wr=>∃(j:Nat) (o2 h2:AQ),j<=L.length/\q=L.length - j/\i=AB AE j/\(L.take j).foldl OD (o,h1)=(o2,h2)/\o2.length=k/\TH n₀ B2 (W.heap.size+1) U O G base k us (fun x:Nat=>Bl rs k x) wr o2 h2/\J (pre++[(xn:Int)]) wr/\W.heap.size<=wr.heap.size/\(∀y∈h2,0<=y/\y < k)/\LZ o2 h2<=LZ o h1/\(∀c∈o2, -(1000*(pre.length:Int)) - j<=c/\c<=1000))
   case atStart=>exact ABA
   exact AFx
  have hkn:(k:Int) < (n:Int):=AG
  have hk0:=Int.natCast_nonneg k
  have Qx:=fW.o.below HB.o lb;have b0:=Qx.cell 0;have b1:=Qx.cell 1;simp only [Aj,Ao,BA] at b0 b1;have hck:=HO.o.cell k;have hfk:=HO.o.frozen k;have hke:((I5 rs k++List.replicate (n - k) 0).map (Value.int .i64))[k]? =some (AB AE 0):=by rw [Bg,Cj Zc,QR,Pm,fZ,Ak AG];rfl
  rw [Aj,hke] at hck;have hG2:=wB.o.below HB.o;have hlook:=DT (I0 underlying3) underlying212 (z:=.map none) AJ hG2.o (k:Int) false;have HLV:AI (∃v,(Instr.lookup 212 (.map (some M)) (AB AE k) false).run prog wr=.ok v wr/\∀ty,(Builtin.len_ #[209] ty #[v]).run prog wr=.ok (AB AE (Bp rs k).length) wr):=AF (by
   cases hm:getM hs (k:Int) with
   |
    none=>
    rw [hm] at hlook;refine ⟨_,hlook,fun ty=> ?_⟩;have:=AB3 wr ty;rw [hG2.rest _ (getM_none.1 hm)];exact this
   |
    some b=>
    rw [hm] at hlook;refine ⟨_,hlook,fun ty=> ?_⟩;have:=AB4 (hG2.ins _ (WQ hm)).2.2 ty;rw [show (FH (Bp rs (k:Int))).length=(Bp rs (k:Int)).length by simp [FH]] at this;exact this)
  obtain ⟨v,hlv,m9⟩:=HLV.o;obtain ⟨c,hc⟩:∃c,(Bp rs (k:Int)).length=c:=⟨_,rfl⟩;have HC:=AF hc;rw [hc] at m9;clear hG2 hlook Qx hke hc;have Jz:AI (AY (wr.setCell ⟨O,k,none⟩ (AB AE c)) O 3 (((I5 rs (k+1)++List.replicate (n - (k+1)) 0).map (Value.int .i64)).toArray)):=AF (by
   have:=HO.o.put k (AB AE c);have he:(((I5 rs k++List.replicate (n - k) 0).map (Value.int .i64)).toArray).setIfInBounds k (AB AE c)=(((I5 rs (k+1)++List.replicate (n - (k+1)) 0).map (Value.int .i64)).toArray):=by rw [Kf,<-R0,YU,HC.o];congr 2;rw [ZO _ _ Zc,QR,Pm,show n - k=(n - (k+1))+1 by omega,List.replicate_succ,CZ];simp
   rw [he] at this;exact this)
  have Ks:AI (Fp (wr.setCell ⟨O,k,none⟩ (AB AE c)) base G (FG rs k)):=AF (rE.o.put hOb vY _ _);have HR2:AI (DV (wr.setCell ⟨O,k,none⟩ (AB AE c)) (W.heap.size+1) U n us (fun x:Nat=>Bl rs n x)):=AF (HR.o.keep (fun b hb=>C5 _ _ _ b (WZ.o b hb).2.2.1));exact AFv
 obtain ⟨X,hX⟩:=Ad w';obtain ⟨O,hO⟩:=Ad W.heap.size;have hwb:AK W w':=((Af _ W).drew.alloc (Ac _) (AO (Array.replicate n (AB AE 0)) 3)).trans (hbu.mono AZ);have HX:AI (AK W X):=AF (by rw [hX];exact hwb);have fJ:AI (DV X (W.heap.size+1+1) U n us (fun x:Nat=>Bl rs n x)):=AF (by rw [hX];have:=RN;simp only [Ev] at this;exact this);have Ii:AI (AY X O 3 (Array.replicate n (AB AE 0))):=AF (by rw [hX,hO];exact (AY.new W.drew _ _).below hbu AZ);have yP:W.heap.size<=O:=AG
 have Co:AI (∀b,UX U us b->b≠O):=AF (fun b hb=>by have:=(RN.lt hb).1;simp at this;omega);rw [<-hX,<-hO];clear hX hO hwb RN hbu;have Qx:=fW.o.below HX.o lb;have b0:=Qx.cell 0;have b1:=Qx.cell 1;have lbX:=Qx.lt;simp only [Aj,Ao,BA] at b0 b1;have hOX:=Ii.o.lt;have J5:AI (∀b,UX U us b->W.heap.size<=b/\b < X.heap.size/\b≠O):=AF (fun b hb=>⟨by have:=(fJ.o.lt hb).1;omega,(fJ.o.lt hb).2,Co.o b hb⟩);clear Qx hmk;go_wp2_with fail;obtain ⟨Y,hY⟩:=Ad (X.alloc (AO #[AA none 0 0] 305));obtain ⟨G,hG⟩:=Ad X.heap.size;obtain ⟨base,hbase⟩:=Ad (X.heap.size+1);have hXW:=HX.o.size;have Yz:AI (AK W Y):=AF uI;have lW:AI (DV Y (W.heap.size+1+1) U n us (fun x:Nat=>Bl rs n x)):=AF (by rw [hY];exact fJ.o.alloc _);have fN:AI (AY Y O 3 (Array.replicate n (AB AE 0))):=AF (by rw [hY];exact Ii.o.alloc _);have Pf:AI (Fp Y base G (FG rs 0)):=AF uq;have hGW:W.heap.size<=G:=AG
 have vY:O≠G:=AG
 have hOb:O < base:=AG
 have WZ:AI (∀b,UX U us b->W.heap.size<=b/\b < base/\b≠O/\b≠G):=AF (fun b hb=>by have:=J5.o b hb;omega);rw [<-hY,<-hG];clear hY hG hbase b0 b1 hXW fJ Ii HX;go_loopg [20] n (fun q i wr=>∃k:Nat,k<=n/\q=n - k/\i=AB AE k/\AY wr O 3 (((I5 rs k++List.replicate (n - k) 0).map (Value.int .i64)).toArray)/\Fp wr base G (FG rs k)/\DV wr (W.heap.size+1+1) U n us (fun x:Nat=>Bl rs n x)/\AK W wr)
 case atStart=>exact AA8
 clear Yz lW fN Pf;obtain ⟨k,hk,hq,rfl,ho,hqa,hr,hb⟩:=hrel;obtain ⟨HQ,HO,rE,HR,HB⟩:=Db hq ho hqa hr hb;clear hq ho hqa hr hb;by_cases hlt:k < n
 case neg=>
  obtain rfl:k=n:=AG
  go_wp2_with fail
  skip
  have vg:ItC W.heap.size B2 U O G base us:=⟨yS,yP,hOb,vY,hGW,fun b hb=>WZ.o b hb⟩;have xy:EK B2 wr=EK B2 W:=Oc (HB.o.block B2 yS);have hIS:TH n₀ B2 (W.heap.size+1+1) U O G base k us (fun x:Nat=>Bl rs k x) wr (I5 rs k) (FG rs k):=by
   exact AAl
  have hJ1:J [] wr:=HJ.o _ _ _ XH.o ⟨HB.o.os,HB.o.tape,HB.o.output,HB.o.size,fun b hb h=>by
   rcases h with h | h
   · exact HB.o.block b h
   · exact HB.o.block b (HP0.o b h.symm).2⟩
  have hcb:∀c∈I5 rs k, -(1000*((([]:AQ)).length:Int))<=c/\c<=1000:=by intro c hcc;unfold I5 at hcc;obtain ⟨y,hy,rfl⟩:=Dr.1 hcc;have:=dw (rs:=rs) (n:=k) (x:=(y:Int)) (fun z hz=>Rg.o _ z hz);simp;omega
  obtain ⟨Vs,zb,ag,zk⟩:=CD vg hIS hJ1 hcb;have j9:W.heap.size<=wr.heap.size:=HB.o.size;clear vg xy hIS hJ1 hcb HO rE HR HB HQ hk hlt J5 WZ Co fW wB Rg HP0;obtain ⟨wy,rfl⟩:=Ad wr;go_loopg [46] k (fun q _ wr=>∃(o h pre:AQ) (fuel:Nat),q=LZ o h/\o.length=k/\TH n₀ B2 (W.heap.size+1+1) U O G base k us (fun x:Nat=>Bl rs k x) wr o h/\J pre wr/\W.heap.size<=wr.heap.size/\(∀y∈h,0<=y/\y < k)/\pre.length+LZ o h<=k/\LZ o h<=fuel/\pre++La (fun x:Nat=>Bl rs k x) fuel o h=Cx rs k/\(∀c∈o, -(1000*(pre.length:Int))<=c/\c<=1000))
  case atStart=>exact ABD
  clear zb ag zk j9;obtain ⟨o,h,pre,fuel,hq,hol,his,hj,j9,hhm,hpl,hpf,hgo,hcb⟩:=hrel;obtain ⟨HQ,HOL,HIS,HJP,HHM,XE,HPF,rW,Mj⟩:=P4 hq hol his hj hhm hpl hpf hgo hcb;have hhl:h.length<=k:=by unfold LZ at hpl;omega
  clear hq hol his hj hhm hpl hpf hgo hcb;by_cases hpos:0 < h.length
  case neg=>
   exact AAu
  obtain ⟨g,cap,AKu,AKz,AKs,hkb,hown⟩:=HIS.o.q.form hpos;have c0:=hkb.cell 0;have lG:=hkb.lt;simp only [Aj,Ao] at c0;have AKh:(0:Int) < (h.length:Int):=AG
  have AES:h.length<=1000000:=AG
  obtain ⟨x,hx⟩:=BR ((Ms h).getD (h.length - 1) 0);obtain ⟨h1,hh1⟩:=BR ((Ms h).take (h.length - 1));obtain ⟨HX1,PX⟩:=Al hx hh1;have hpc:=aG base G h wr HIS.o.q hpos AES;rw [hx,hh1] at hpc;have hxm:0<=x/\x < k:=HHM.o x (WC hpos uX);have px:∀y∈h1,0<=y/\y < k:=fun y hy=>HHM.o y (WC hpos (List.mem_of_mem_take (by rw [hh1];exact hy)));have hl1:h1.length=h.length - 1:=by rw [<-hh1,Df,Qd];omega
  obtain ⟨AJP,UC,HPC⟩:=BB px hl1 hpc;have hta:=YX x;clear hkb hown hx hh1 hpc px hl1;go_upto_region 11 with (first
   | (go_at_call 185;refine (len_any _ _ _ _).mono ?_;rintro e w2 ⟨rfl,rfl⟩)
   | (go_at_call 186;refine HPC.o.mono ?_))
  first | rintro e w1 rfl hq1 hk1 | rintro e w1 ⟨rfl,hq1,hk1⟩
  obtain ⟨hs1,pk⟩:=HIS.o.kept Vs.o hk1 hq1;have hj1:=HJ.o _ _ _ HJP.o pk;have qI:W.heap.size<=w1.heap.size:=BH j9 hk1.size;obtain ⟨fn,tmps,assign,body,hy,hR⟩:=HY.o pre x w1 hj1 uD;obtain ⟨LG,HR⟩:=Al hs1 hR;clear hq1 hk1 hs1 pk hj1 hR;go_upto_region 11 with fail;refine (D6 (n:=m)).1 ?_
  gi_wp2
  refine ⟨(fun h=>by cases h),HR.o.mono ?_⟩;rintro e w2 ⟨rfl,hj2,hkp⟩;have hs2:=LG.o.round Vs.o hkp hnW qI;have jD:AI (W.heap.size<=w2.heap.size):=AF (BH qI hkp.size);obtain ⟨HJ2,HS2⟩:=Al hj2 hs2;obtain ⟨xn,rfl⟩:∃xn:Nat,x=xn:=⟨x.toNat,by omega⟩;have hxk:xn < k:=AG
  have hx0:(0:Int)<=(xn:Int):=AG
  have hx1:(xn:Int) < (k:Int):=AG
  have hxl:xn < us.length:=by rw [hs2.rows.len];exact hxk
  obtain ⟨v,hv⟩:∃v,us[xn]? =some v:=⟨_,BN hxl⟩;have hrow:=(hs2.rows.row xn v hv).1;have hcell:=hs2.rows.blk.cell xn;rw [Aj,hv] at hcell;have eJ:=UK rs k xn;have hvf:∃A c,v=AA A (Bl rs k xn).length c:=by
   exact AAG
  obtain ⟨A,c,rfl⟩:=hvf;obtain ⟨L,hL⟩:=BR (Bl rs k xn);obtain ⟨HL,HV⟩:=Al hL hv;rw [hL] at eJ hcell;have hLn:L.length<=1000:=AG
  have HLM:AI (∀y∈L,0<=y/\y < k):=AF (fun y hy=>Z5 (rs:=rs) (k:=k) (x:=xn) (by rw [hL];exact hy));clear hj2 hkp hs2 hrow hv hL hy hxl
  gi_wp2
  go_wp2_with fail;clear hcell;obtain ⟨wz,rfl⟩:=Ad wr;go_loopg [68] L.length (fun q i wr=>∃(j:Nat) (o2 h2:AQ),j<=L.length/\q=L.length - j/\i=AB AE j/\(L.take j).foldl OD (o,h1)=(o2,h2)/\o2.length=k/\TH n₀ B2 (W.heap.size+1+1) U O G base k us (fun x:Nat=>Bl rs k x) wr o2 h2/\J (pre++[(xn:Int)]) wr/\W.heap.size<=wr.heap.size/\(∀y∈h2,0<=y/\y < k)/\LZ o2 h2<=LZ o h1/\(∀c∈o2, -(1000*(pre.length:Int)) - j<=c/\c<=1000))
  case atStart=>exact ABA
  exact AFx
 have hkn:(k:Int) < (n:Int):=AG
 have hk0:=Int.natCast_nonneg k
 have Qx:=fW.o.below HB.o lb;have b0:=Qx.cell 0;have b1:=Qx.cell 1;simp only [Aj,Ao,BA] at b0 b1;have hck:=HO.o.cell k;have hfk:=HO.o.frozen k;have hke:((I5 rs k++List.replicate (n - k) 0).map (Value.int .i64))[k]? =some (AB AE 0):=by rw [Bg,Cj Zc,QR,Pm,fZ,Ak AG];rfl
 rw [Aj,hke] at hck;have hG2:=wB.o.below HB.o;have hlook:=DT (I0 underlying3) underlying212 (z:=.map none) AJ hG2.o (k:Int) false;have HLV:AI (∃v,(Instr.lookup 212 (.map (some M)) (AB AE k) false).run prog wr=.ok v wr/\∀ty,(Builtin.len_ #[209] ty #[v]).run prog wr=.ok (AB AE (Bp rs k).length) wr):=AF (by
  cases hm:getM hs (k:Int) with
  |
   none=>
   rw [hm] at hlook;refine ⟨_,hlook,fun ty=> ?_⟩;have:=AB3 wr ty;rw [hG2.rest _ (getM_none.1 hm)];exact this
  |
   some b=>
   rw [hm] at hlook;refine ⟨_,hlook,fun ty=> ?_⟩;have:=AB4 (hG2.ins _ (WQ hm)).2.2 ty;rw [show (FH (Bp rs (k:Int))).length=(Bp rs (k:Int)).length by simp [FH]] at this;exact this)
 obtain ⟨v,hlv,m9⟩:=HLV.o;obtain ⟨c,hc⟩:∃c,(Bp rs (k:Int)).length=c:=⟨_,rfl⟩;have HC:=AF hc;rw [hc] at m9;clear hG2 hlook Qx hke hc;have Jz:AI (AY (wr.setCell ⟨O,k,none⟩ (AB AE c)) O 3 (((I5 rs (k+1)++List.replicate (n - (k+1)) 0).map (Value.int .i64)).toArray)):=AF (by
  have:=HO.o.put k (AB AE c);have he:(((I5 rs k++List.replicate (n - k) 0).map (Value.int .i64)).toArray).setIfInBounds k (AB AE c)=(((I5 rs (k+1)++List.replicate (n - (k+1)) 0).map (Value.int .i64)).toArray):=by rw [Kf,<-R0,YU,HC.o];congr 2;rw [ZO _ _ Zc,QR,Pm,show n - k=(n - (k+1))+1 by omega,List.replicate_succ,CZ];simp
  rw [he] at this;exact this)
 have Ks:AI (Fp (wr.setCell ⟨O,k,none⟩ (AB AE c)) base G (FG rs k)):=AF (rE.o.put hOb vY _ _);have HR2:AI (DV (wr.setCell ⟨O,k,none⟩ (AB AE c)) (W.heap.size+1+1) U n us (fun x:Nat=>Bl rs n x)):=AF (HR.o.keep (fun b hb=>C5 _ _ _ b (WZ.o b hb).2.2.1));exact AFv
end Go.Proofs.YtamhoilkpppdbaaGreatDoor
