import Derived.Test.YtpmpddfgifhlbaaGreatDoorM01
namespace Go.Proofs.YtpmpddfgifhlbaaGreatDoor
set_option maxHeartbeats 8000000
set_option maxRecDepth 100000
open Go renaming World→AH, Value→AK, Calls→AS, TypeId→Ae, Program→BB
open Go.Proofs.Tryz
open Go.Value renaming slice→AA, int→AB, pointer→AU, bool→AX, tuple→BS
open Go.IntKind renaming i64→AE
open Go.Ending renaming returned→AV
open Go.Obj renaming cells→AQ
open Go.RowKit
def AJV (w:AH) (cs:List AK) (l:AP):Prop:=∃A n c,cs=[AA A n c]/\Ag 1 iR w (AA A n c) l
theorem M6 {w:AH} {base:Nat} {v:AK} {n:Nat} {l:AP} (h:w.ownsRow base 3 1 v n (l.map (Value.int .i64))):Ag 1 iR w v l:=by
 have hlen:l.length=n:=by have:=h.1;simpa using this
 rcases h.2 with ⟨rfl,h0⟩ | ⟨g,cap,cur,rfl,hg,hh,hn,hc,hsz,htk⟩
 ·have hl0:l=[]:=JO AG
  subst hl0;exact Ag.nil _ _ BE
 refine ⟨some ⟨g,0,none⟩,cap,by rw [hlen],by omega,hc,fun i x hi=>⟨g,0,[AB AE x],rfl,(Cz.1 hh).1,rfl,fun j u hu=> ?_,rfl⟩⟩;have hj:j=0:=by
  rcases j with _ | j
  · rfl
  · simp at hu
 subst hj;simp at hu;subst hu;have hil:i < l.length:=(BA.1 hi).1;have:=h.cellAt i AG;rw [Be,hi] at this;simpa using this
structure DK (w:AH) (base U n:Nat) (vs:List AK) (r:Nat->AP):Prop where
 blk:AZ w U 30 vs.toArray
 len:vs.length=n
 ge:base<=U
 row:∀(x:Nat) (v:AK),vs[x]? =some v->w.ownsRow base 3 1 v (r x).length ((r x).map (Value.int .i64))/\v.ownBlock≠some U
 apart:∀(x y:Nat) (v u:AK) (b:Nat),vs[x]? =some v->vs[y]? =some u->v.ownBlock=some b->u.ownBlock=some b->x=y
theorem DK.alloc {w:AH} {base U n:Nat} {vs:List AK} {r:Nat->AP} (h:DK w base U n vs r) (o:Obj):DK (w.alloc o) base U n vs r:=
 ⟨h.blk.alloc o,h.len,h.ge,fun x v hx=>⟨(h.row x v hx).1.alloc o,(h.row x v hx).2⟩,h.apart⟩
theorem DK.same {w w':AH} {base U n:Nat} {vs:List AK} {r:Nat->AP} (h:DK w base U n vs r) (hb:∀(b:Nat) (cs:Array AK) (t:Ae) (fz:Nat×Nat),w.heap[b]? =some (Obj.cells cs t fz)->w'.heap[b]? =w.heap[b]?):DK w' base U n vs r:=
 ⟨(
  hb _ _ _ _ h.blk).trans h.blk,h.len,h.ge,fun x v hx=>⟨by
  obtain ⟨h1,h2⟩:=(h.row x v hx).1;refine ⟨h1,?_⟩;rcases h2 with h2 | ⟨g,cap,cur,hv,hg,hh,rest⟩
  · exact .inl h2
  · exact .inr ⟨g,cap,cur,hv,hg,(hb _ _ _ _ hh).trans hh,rest⟩,(h.row x v hx).2⟩,h.apart⟩
def Ty (U:Nat) (vs:List AK) (b:Nat):Prop:=b=U\/∃(x:Nat) (v:AK),vs[x]? =some v/\v.ownBlock=some b
theorem DK.keep {w w':AH} {base U n:Nat} {vs:List AK} {r:Nat->AP} (h:DK w base U n vs r) (hb:∀b,Ty U vs b->w'.heap[b]? =w.heap[b]?):DK w' base U n vs r:=
 ⟨(
  hb U (.inl rfl)).trans h.blk,h.len,h.ge,fun x v hx=>⟨by
  obtain ⟨h1,h2⟩:=(h.row x v hx).1;refine ⟨h1,?_⟩;rcases h2 with h2 | ⟨g,cap,cur,hv,hg,hh,rest⟩
  · exact .inl h2
  · exact .inr ⟨g,cap,cur,hv,hg,(hb g (.inr ⟨x,v,hx,by rw [hv];rfl⟩)).trans hh,rest⟩,(h.row x v hx).2⟩,h.apart⟩
theorem DK.lt {w:AH} {base U n:Nat} {vs:List AK} {r:Nat->AP} (h:DK w base U n vs r) {b:Nat} (hb:Ty U vs b):base<=b/\b < w.heap.size:=by
 rcases hb with rfl | ⟨x,v,hx,hv⟩
 · exact ⟨h.ge,h.blk.lt⟩
 · exact (h.row x v hx).1.lt b hv
theorem DK.read {w:AH} {base U n:Nat} {vs:List AK} {r:Nat->AP} (h:DK w base U n vs r) (hn:n<=maxLen):Ag 1 AJV w (AA (some ⟨U,0,none⟩) n n) ((List.range n).map r):=by
 refine ⟨some ⟨U,0,none⟩,n,by simp,by simp,hn,fun i x hi=> ?_⟩;have hil:i < n:=by have:=(BA.1 hi).1;simpa using this
 have hx:r i=x:=by rw [Be,Ly hil] at hi;simpa using hi
 obtain ⟨v,hv⟩:∃v,vs[i]? =some v:=⟨vs[i]'(by have:=h.len;omega),BJ (by have:=h.len;omega)⟩;have hrow:=M6 (h.row i v hv).1;rw [hx] at hrow;obtain ⟨A,c,rfl⟩:=hrow.form;refine ⟨U,0,[AA A x.length c],rfl,h.blk.lt,rfl,fun j u hu=> ?_,A,_,c,rfl,hrow⟩;have hj:j=0:=by
  rcases j with _ | j
  · rfl
  · simp at hu
 subst hj;simp at hu;subst hu;have:=h.blk.cell i;rw [Ai,hv] at this;simpa using this
theorem DK.push {w w5:AH} {base U n:Nat} {vs:List AK} {r:Nat->AP} (h:DK w base U n vs r) {x:Nat} {v v':AK} {z:Int} (o:Obj) (hx:vs[x]? =some v)
 (hown:w5.ownsRow base 3 1 v' ((r x).length+1) ((r x).map (Value.int .i64)++[AB AE z])) (hg:(w.alloc o).grownBy w5 v.ownBlock) (hat:v'.ownBlock=v.ownBlock\/v'.ownBlock=some (w.alloc o).heap.size):
 DK (w5.setCell ⟨U,x,none⟩ v') base U n (vs.set x v') (fun y=>if y=x then r x++[z] else r y):=by
 have hU:=h.blk.lt;have hUv:some U≠v.ownBlock:=fun e=>(h.row x v hx).2 e.symm;have AHz:v'.ownBlock≠some U:=by
  rcases hat with e | e
  · rw [e];exact (h.row x v hx).2
  rw [e];intro e2;injection e2 with e2;simp at e2;omega
 have hk5:AZ w5 U 30 vs.toArray:=(h.blk.alloc o).grown hg hUv;refine ⟨?_,by simpa using h.len,h.ge,?_,?_⟩
 ·have:=hk5.put x v'
  simpa using this
 ·intro y u hy
  by_cases e:y=x
  ·subst e
   have hyl:y < vs.length:=(BA.1 hx).1;rw [Gv hyl] at hy;injection hy with hy;subst hy;simp only [Ct];refine ⟨Pm ?_ (by simpa using AHz) _,AHz⟩;rw [CT,DM];exact hown
  rw [JM (fun e2=>e e2.symm)] at hy;simp only [Ah e];obtain ⟨h1,h2⟩:=h.row y u hy;refine ⟨Pm ((h1.alloc o).kept hg ?_) (by simpa using h2) _,h2⟩;cases hub:u.ownBlock with
  | none=>exact .inl rfl
  |
   some b=>
   refine .inr (fun e2=> ?_);exact e (h.apart y x u v b hy hx hub e2.symm)
 intro y1 y2 u1 u2 b hy1 hy2 hb1 hb2;have hlt:∀(y:Nat) (u:AK),vs[y]? =some u->u.ownBlock=some b->b < w.heap.size:=fun y u hy hb=>((h.row y u hy).1.lt b hb).2;have hxl:x < vs.length:=(BA.1 hx).1;by_cases e1:y1=x
 ·by_cases e2:y2=x
  · rw [e1,e2]
  exfalso;subst e1;rw [Gv hxl] at hy1;rw [JM (fun e=>e2 e.symm)] at hy2;injection hy1 with hy1;subst hy1;rcases hat with e | e
  · exact e2 (h.apart y2 y1 u2 v b hy2 hx hb2 (e ▸ hb1))
  rw [e] at hb1;injection hb1 with hb1;have:=hlt y2 u2 hy2 hb2;simp at hb1;omega
 rw [JM (fun e=>e1 e.symm)] at hy1;by_cases e2:y2=x
 ·exfalso
  subst e2;rw [Gv hxl] at hy2;injection hy2 with hy2;subst hy2;rcases hat with e | e
  · exact e1 (h.apart y1 y2 u1 v b hy1 hx hb1 (e ▸ hb2))
  rw [e] at hb2;injection hb2 with hb2;have:=hlt y1 u1 hy1 hb1;simp at hb2;omega
 rw [JM (fun e=>e2 e.symm)] at hy2;exact h.apart y1 y2 u1 u2 b hy1 hy2 hb1 hb2
theorem Xb:∀(D F:AP),D.Nodup->(∀x∈D,x∈F)->D.length<=F.length
 | [],_,_,_=>Ar _
 |
  x::D,F,h,hs=>by
  have hx:=hs x OI;have h2:=RU.1 h;have:=Xb D (F.erase x) h2.2 (fun y hy=>by have hne:y≠x:=fun e=>h2.1 (e ▸ hy);exact (List.mem_erase_of_ne hne).2 (hs y (Mx _ hy)))
  have hl:=List.length_erase_of_mem hx;have hpos:0 < F.length:=List.length_pos_of_mem hx;exact bu
theorem qC {l:AP} {x:Int} (h:l.Nodup):(Gq l x).Nodup:=by
 unfold Gq;split
 · exact h
 · next hx=>exact Yg.2 ⟨h,by simp,fun a ha b hb e=>by simp at hb;subst hb;subst e;exact hx ha⟩
theorem WT:∀(xs l:AP),l.Nodup->(xs.foldl Gq l).Nodup
 | [],_,h=>h
 | _::xs,_,h=>WT xs _ (qC h)
theorem Xc (rs:List Ck) (x:Int):(Bj rs x).Nodup:=by
 have:∀(rs:List Ck) (l:AP),l.Nodup->(rs.foldl (fun l r=>if r.schema=x then wS l r else l) l).Nodup:=by
  intro rs
  induction rs with
  | nil=>intro l h;exact h
  |
   cons r rs ih=>
   intro l h;simp only [Ya];apply ih;split
   · exact WT _ _ h
   · exact h
 exact this rs [] List.nodup_nil
structure Mm (w:AH) (r bm:Nat) (F D:AP):Prop where
 ex:∃es clock seen,w.heap[r]? =some (.mapIter (some bm) clock seen clock)/\w.heap[bm]? =some (.map es clock)/\es.toList.map (fun e=>(e.key,e.val))=(Ev F).map (fun p=>(Value.int .i64 p.1,Value.bool p.2))/\
  (es.toList.map (·.born)).Nodup/\(∀x∈es.toList,x.born < clock)/\(∀e∈es.toList,∀y,e.key=AB AE y->(seen.contains e.born=true↔y∈D))
 nodup:D.Nodup
 sub:∀x∈D,x∈F
theorem Mm.kept {w w':AH} {r bm:Nat} {F D:AP} (h:Mm w r bm F D) (h1:w'.heap[r]? =w.heap[r]?) (h2:w'.heap[bm]? =w.heap[bm]?):Mm w' r bm F D:=by obtain ⟨⟨es,clock,seen,k1,k2,k3⟩,h4,h5⟩:=h;exact ⟨⟨es,clock,seen,h1.trans k1,h2.trans k2,k3⟩,h4,h5⟩
theorem Mm.start {w:AH} {bm:Nat} {F:AP} {P:BB} {t kt et:Ae} (h:Kg (Value.int .i64) Value.bool w bm (Ev F)) (ht:P.underlying t=some (.map kt et)):
 ∃clock,(Instr.range t (.map (some bm))).run P w=.ok (AU (some ⟨w.heap.size,0,none⟩)) (w.alloc (.mapIter (some bm) clock #[] clock))/\Mm (w.alloc (.mapIter (some bm) clock #[] clock)) w.heap.size bm F []:=by
 have hlt:=h.lt;obtain ⟨es,clock,h1,h2,h3,h4⟩:=h;refine ⟨clock,run_range_map w t kt et bm es clock ht h1,⟨es,clock,#[],heap_alloc_new _ _,(heap_alloc_old w _ hlt).trans h1,h2,h3,h4,fun e he y hy=>by simp⟩,List.nodup_nil,fun x hx=>by simp at hx⟩
theorem Mm.step {w:AH} {r bm:Nat} {F D:AP} {P:BB} (h:Mm w r bm F D) (hF:F.Nodup) (ty:Ae):
 ((∀y∈F,y∈D)/\(Instr.next (AU (some ⟨r,0,none⟩)) false ty).run P w=.ok (BS #[AX false]) w)\/
 ∃y w1,y∈F/\y∉D/\(Instr.next (AU (some ⟨r,0,none⟩)) false ty).run P w=.ok (BS #[AX true,AB AE y,AX true]) w1/\w.grownBy w1 (some r)/\
  (Instr.entry (AU (some ⟨r,0,none⟩))).run P w1=.ok (BS #[AB AE y,AX true]) w1/\Mm w1 r bm F (y::D):=by
 obtain ⟨⟨es,clock,seen,k1,k2,k3,k4,k5,k6⟩,hnd,hsub⟩:=h;have hne:r≠bm:=by rintro rfl;rw [k1] at k2;injection k2 with k2;cases k2
 have hkey:∀e∈es.toList,∃y,y∈F/\e.key=AB AE y/\e.val=AX true:=by
  intro e he;have:(e.key,e.val)∈(Ev F).map (fun p=>(Value.int .i64 p.1,Value.bool p.2)):=by rw [<-k3];exact Yk he
  obtain ⟨p,hp,hpe⟩:=Df.1 this;obtain ⟨y,hy,rfl⟩:=Df.1 hp;simp only [GD] at hpe;exact ⟨y,hy,hpe.1.symm,hpe.2.symm⟩
 have hkeys:(es.toList.map (·.key)).Nodup:=by
  have:es.toList.map (·.key)=F.map (Value.int .i64):=by have:=congrArg (List.map (·.1)) k3;simpa [Ev,List.map_map,Function.comp_def] using this
  rw [this];have hin:∀(l:AP),l.Nodup->(l.map (Value.int .i64)).Nodup:=by
   intro l
   induction l with
   | nil=>intro _;simp
   |
    cons a l ih=>
    intro hl;have h2:=RU.1 hl;simp only [Fi];exact RU.2 ⟨fun hm=>by obtain ⟨b,hb,e⟩:=Df.1 hm;injection e with _ e;exact h2.1 (e ▸ hb),ih h2.2⟩
  exact hin F hF
 have hex:∀y∈F,∃e∈es.toList,e.key=AB AE y:=by
  intro y hy;have:(Value.int .i64 y,Value.bool true)∈es.toList.map (fun e=>(e.key,e.val)):=by rw [k3];exact Df.2 ⟨(y,true),Df.2 ⟨y,hy,rfl⟩,rfl⟩
  obtain ⟨e,he,hee⟩:=Df.1 this;simp only [GD] at hee;exact ⟨e,he,hee.1⟩
 rcases run_next_at (P:=P) w ty r bm clock clock seen es clock k1 k2 k5 (Ad _) with ⟨hl,hrun⟩ | ⟨e,he,w1,hw1,hrun⟩
 ·refine .inl ⟨fun y hy=> ?_,hrun⟩
  obtain ⟨e,he,hek⟩:=hex y hy;refine (k6 e he y hek).1 ?_;cases hc:seen.contains e.born with
  | true=>rfl
  |
   false=>
   exfalso;have hm:e∈(leftOf es seen).toList:=by unfold leftOf;simp only [Array.toList_filter,List.mem_filter,hc,Bool.not_false,and_true];exact he
   have hz:(leftOf es seen).toList.length=0:=by simpa using hl
   have:=List.length_pos_of_mem hm;omega
 have hes:e∈es.toList/\seen.contains e.born=false:=by unfold leftOf at he;simp only [Array.toList_filter,List.mem_filter,Bool.not_eq_true'] at he;exact he
 obtain ⟨y,hy,hek,hev⟩:=hkey e hes.1;rw [hek,hev] at hrun;have ox:y∉D:=fun hd=>by have:=(k6 e hes.1 y hek).2 hd;rw [hes.2] at this;cases this
 have AJk:w1.heap[r]? =some (.mapIter (some bm) clock seen clock):=by rcases hw1 with rfl | rfl <;> exact k1
 have AJl:w1.heap[bm]? =some (.map es clock):=by rcases hw1 with rfl | rfl <;> exact k2
 have hset:=Go.MapKept.heap_set (o':=.mapIter (some bm) clock (seen.push e.born) clock) AJk;have hr2:(Go.ChangeMaps.setBlock w1 r (.mapIter (some bm) clock (seen.push e.born) clock)).heap[r]? =some (.mapIter (some bm) clock (seen.push e.born) clock):=hset.1;have hm2:(Go.ChangeMaps.setBlock w1 r (.mapIter (some bm) clock (seen.push e.born) clock)).heap[bm]? =some (.map es clock):=(hset.2 bm (fun e=>hne e.symm)).trans AJl;refine .inr ⟨y,_,hy,ox,hrun,?_,?_,⟨⟨es,clock,seen.push e.born,hr2,hm2,k3,k4,k5,fun e2 he2 z hz=> ?_⟩,RU.2 ⟨ox,hnd⟩,fun x hx=> ?_⟩⟩
 ·have hg1:w.grownBy w1 (some r):=by rcases hw1 with rfl | rfl <;> exact ⟨rfl,rfl,rfl,Ad _,fun _ _ _=>rfl⟩
  exact ⟨hg1.os,hg1.tape,hg1.output,by simpa [Go.ChangeMaps.setBlock] using hg1.size,fun i hi hn=>(hset.2 i (fun e=>hn M1)).trans (hg1.block i hi hn)⟩
 ·have:=run_entry_at (P:=P) _ r bm clock seen es clock e hr2 hm2 hes.1 k4
  rw [hek,hev] at this;exact this
 ·have hiff:e2.born=e.born↔z=y:=by
   constructor
   ·intro hb
    have:e2=e:=Qd k4 he2 hes.1 hb;subst this;rw [hek] at hz;injection hz with _ hz;exact hz.symm
   rintro rfl;have:e2=e:=Qd hkeys he2 hes.1 (hz.trans hek.symm);rw [this]
  rw [Array.contains_push];simp only [YZ,beq_iff_eq,CO,k6 e2 he2 z hz,hiff];exact Or.comm
 rcases CO.1 hx with rfl | hx
 · exact hy
 · exact hsub x hx
theorem ADX:(prog.info? 30).map (fun i=>(i.zero,i.size,i.bytes))=some (some (AA none 0 0),1,24):=by kernel_rfl
theorem WK (z:AK) (n:Nat):madeCells #[z] n=(List.replicate n z).toArray:=by
 apply Array.ext
 · simp [madeCells]
 intro i h1 h2;simp [madeCells,Nat.mod_one]
theorem XE (rs:List Ck) (k:Nat) (x:Int):Bf rs (k+1) x=if x∈Bj rs k then Bf rs k x++[(k:Int)] else Bf rs k x:=by
 unfold Bf;rw [Pk,DM,List.filter_append];by_cases h:x∈Bj rs k
 · rw [Am h];simp [h]
 · rw [Ah h];simp [h]
theorem Tk (rs:List Ck) (k:Nat) (x:Int):(Bf rs k x).length<=k:=by unfold Bf;refine BF (List.length_filter_le _ _) ?_;simp
theorem oF {w:AH} {base:Nat} {e:Ae} {sz:Nat} {v:AK} {n:Nat} {xs:List AK} (h:w.ownsRow base e sz v n xs) {g:Nat} (hg:v.ownBlock=some g):∃cur,w.heap[g]? =some (Obj.cells cur e (0,0)):=by
 rcases h.2 with ⟨rfl,_⟩ | ⟨g',cap,cur,rfl,_,hh,_⟩
 · cases hg
 simp only [Value.ownBlock,Bq] at hg;subst hg;exact ⟨cur,hh⟩
theorem il (base M n:Nat) (hs:List (Int×Nat)) (rs:List Ck) (w:AH) (hG:FX w base M hs (Bj rs)) (hin:∀h y,y∈Bj rs h->0<=y/\y < n) (hn:n<=1000):
 AS prog 174 #[.agg #[AB AE n,.map (some M)]] w fun e w'=>∃(U:Nat) (us:List AK),e=AV (AA (some ⟨U,0,none⟩) n n)/\DK w' (w.heap.size+1) U n us (fun x:Nat=>Bf rs n x)/\AJ w w':=by
 obtain ⟨HG,RD⟩:=Aj hG hin;clear hG hin;have hmk:=run_make_row' (P:=prog) 292 30 (AA none 0 0) 24 underlying292 ADX rfl .i64 .i64 n AG AG;rw [WK] at hmk;go_enter func174,ntmps174;go_wp2_with fail;obtain ⟨wb,hwb⟩:=Ab ((w.alloc (AQ #[AB AE n,.map (some M)] 206)).alloc (AQ (Array.replicate n (AA none 0 0)) 30));rw [<-hwb];have hbb:AJ w wb:=by rw [hwb];exact Sx
 have kA:AZ wb w.heap.size 206 #[AB AE n,.map (some M)]:=by rw [hwb];exact (AZ.new _ _ _).alloc _
 obtain ⟨U,hU⟩:=Ab (w.heap.size+1);have kU:DK wb (w.heap.size+1) U n (List.replicate n (AA none 0 0)) (fun x=>Bf rs 0 x):=by
  refine ⟨?_,by simp,by omega,?_,?_⟩
  ·rw [hwb,hU,List.toArray_replicate]
   exact EJ Ac
  ·intro x v hx
   have:v=AA none 0 0:=by
    exact zo
   subst this;exact ⟨ED _ _ _ _,by simp [Value.ownBlock]⟩
  intro x y v u b hx hy hb;have:v=AA none 0 0:=by
   exact zo
  subst this;simp [Value.ownBlock] at hb
 rw [<-hU];obtain ⟨BV,Zu,eK⟩:=Az hbb kA kU;have ANA:w.heap.size < U:=AG
 obtain ⟨ga,hga⟩:=Ab w.heap.size;clear hwb hbb kA kU hU hmk;go_loopg [11] n (fun q i wr=>∃(k:Nat) (vs:List AK),k<=n/\q=n - k/\i=AB AE k/\DK wr (w.heap.size+1) U n vs (fun x=>Bf rs k x)/\AZ wr w.heap.size 206 #[AB AE n,.map (some M)]/\AJ w wr)
 case atStart=>exact ⟨0,_,Ar _,rfl,rfl,eK.o,Zu.o,BV.o⟩
 clear eK Zu BV;obtain ⟨k,vs,hk,hq,rfl,hr,hka,hb⟩:=hrel;obtain ⟨HQ,HR,HK,HB⟩:=CJ hq hr hka hb;clear hq hr hka hb;by_cases hlt:k < n
 case neg=>
  have hkn:k=n:=AG
  subst hkn;go_wp2;go_ret;exact ⟨U,vs,rfl,HR.o,HB.o⟩
 have hkn:(k:Int) < (n:Int):=AG
 have b0:=HK.o.cell 0;have b1:=HK.o.cell 1;have lb:=HK.o.lt;simp only [Ai,An,Aw] at b0 b1;have HG2:=AF (HG.o.below HB.o);have hlook:=DH (IW underlying3) underlying204 (z:=.map none) AL HG2.o.o (k:Int) false;by_cases hin:(k:Int)∈hs.map (·.1)
 case neg=>
  rw [getM_none.2 hin] at hlook;simp only [JJ,Jt,If,Hn] at hlook;have HE:AI ((fun x:Nat=>Bf rs (k+1) x)=fun x:Nat=>Bf rs k x):=AF (by funext x;rw [XE,HG.o.rest _ hin];simp)
  have hrange:=run_range_nilMap (P:=prog) wr 201 _ _ underlying201;have hnext:=run_next_nilMap (P:=prog) wr 0 0 0 #[];have HNX:=AF hnext;clear hnext;go_wp2_with fail;clear hrange hlook;obtain ⟨wi,hwi⟩:=Ab (wr.alloc (.mapIter none 0 #[] 0));have HRI:AI (DK wi (w.heap.size+1) U n vs (fun x:Nat=>Bf rs (k+1) x)):=AF (by rw [HE.o,hwi];exact HR.o.alloc _);have HKI:AI (AZ wi w.heap.size 206 #[AB AE n,.map (some M)]):=AF (by rw [hwi];exact HK.o.alloc _);have HBI:AI (AJ w wi):=AF tJ;have HNI:AI ((Instr.next (AU (some ⟨wr.heap.size,0,none⟩)) false 0).run prog wi=.ok (BS #[AX false]) wi):=AF (by rw [hwi];exact HNX.o);rw [<-hwi];clear hwi;obtain ⟨wy,rfl⟩:=Ab wr;go_loopg [19] 0 (fun _ _ wx=>wx=wi)
  case atStart=>rfl
  obtain rfl:=hrel;have hnext:=HNI.o;go_wp2;go_roundg (n - (k+1))
  case measure=>exact Bc
  case rel=>exact ⟨k+1,vs,by omega,rfl,by go_num,HRI.o,HKI.o,HBI.o⟩
 obtain ⟨hb,hhb⟩:∃hb,getM hs (k:Int)=some hb:=by
  cases h:getM hs (k:Int) with
  | none=>exact absurd hin (getM_none.1 h)
  | some v=>exact ⟨v,rfl⟩
 rw [hhb] at hlook;simp only [Cu,Ce,If,Hn] at hlook;obtain ⟨_,_,hmt⟩:=HG2.o.ins _ (Vs hhb);obtain ⟨F,hF⟩:∃F,Bj rs (k:Int)=F:=⟨_,rfl⟩;have HF:=AF hF;simp only [hF] at hmt;have hFn:F.Nodup:=by rw [<-hF];exact Xc _ _
 have Lt:=AF hFn;obtain ⟨clock,hrange,hrd⟩:=Mm.start (P:=prog) hmt underlying201;have HRD:=AF hrd;have hbl:hb < wr.heap.size:=hmt.lt;have HHN:AI (∀cs t fz,wr.heap[hb]? ≠some (Obj.cells cs t fz)):=AF (by obtain ⟨es,cl,h1,_⟩:=hmt;intro cs t fz h2;rw [h1] at h2;injection h2 with h2;cases h2)
 clear hF hFn hmt hrd hhb hin;go_wp2_with fail;clear hrange hlook b0 b1;obtain ⟨wi,hwi⟩:=Ab (wr.alloc (.mapIter (some hb) clock #[] clock));have HRI:AI (DK wi (w.heap.size+1) U n vs (fun x:Nat=>if (x:Int)∈([]:AP) then Bf rs k x++[(k:Int)] else Bf rs k x)):=AF (by rw [hwi];have:=HR.o.alloc (.mapIter (some hb) clock #[] clock);simpa using this)
 have HKI:AI (AZ wi w.heap.size 206 #[AB AE n,.map (some M)]):=AF (by rw [hwi];exact HK.o.alloc _);have HBI:AI (AJ w wi):=AF tJ;have HDI:AI (Mm wi wr.heap.size hb F []):=AF (by rw [hwi];exact HRD.o);rw [<-hwi];clear hwi;obtain ⟨wy,rfl⟩:=Ab wr;go_loopg [19] F.length (fun q _ wx=>∃(D:AP) (us:List AK),q=F.length - D.length/\Mm wx wy.heap.size hb F D/\DK wx (w.heap.size+1) U n us (fun x:Nat=>if (x:Int)∈D then Bf rs k x++[(k:Int)] else Bf rs k x)/\AZ wx w.heap.size 206 #[AB AE n,.map (some M)]/\AJ w wx)
 case atStart=>exact ⟨[],vs,rfl,HDI.o,HRI.o,HKI.o,HBI.o⟩
 clear HDI HRI HKI HBI;obtain ⟨D,us,hq,hd,hr,hka,hb2⟩:=hrel;obtain ⟨Kj,HR2,Jd,HB2⟩:=CJ hq hr hka hb2;have HRK:AI (wy.heap.size < wr.heap.size/\∀cs t fz,wr.heap[wy.heap.size]? ≠some (Obj.cells cs t fz)):=AF (by obtain ⟨es,cl,seen,h1,_⟩:=hd.ex;refine ⟨(Cz.1 h1).1,fun cs t fz h2=> ?_⟩;rw [h1] at h2;injection h2 with h2;cases h2)
 have Nm:AI (hb < wr.heap.size/\hb≠wy.heap.size/\∀cs t fz,wr.heap[hb]? ≠some (Obj.cells cs t fz)):=AF (by
  obtain ⟨es,cl,seen,h0,h1,_⟩:=hd.ex;refine ⟨(Cz.1 h1).1,fun e=> ?_,fun cs t fz h2=> ?_⟩
  ·rw [e,h0] at h1
   injection h1 with h1;cases h1
  rw [h1] at h2;injection h2 with h2;cases h2)
 have hdn:=hd.nodup;have hds:=hd.sub;rcases hd.step (P:=prog) Lt.o 0 with ⟨hall,hnext⟩ | ⟨y,w1,hyF,ox,hnext,hg1,AHm,hd1⟩
 ·have HE:AI ((fun x:Nat=>Bf rs (k+1) x)=fun x:Nat=>if (x:Int)∈D then Bf rs k x++[(k:Int)] else Bf rs k x):=AF (by
   funext x;rw [XE,HF.o];by_cases h:(x:Int)∈F
   · rw [Am h,Am (hall _ h)]
   · rw [Ah h,Ah (fun h2=>h (hds _ h2))])
  clear hq hd hr hka hb2 hall hdn hds;go_wp2;go_roundg (n - (k+1))
  case measure=>exact Bc
  case rel=>exact ⟨k+1,us,by omega,rfl,by go_num,by rw [HE.o];exact HR2.o,Jd.o,HB2.o⟩
 have hy:=RD.o k y (by rw [HF.o];exact hyF);obtain ⟨x,rfl⟩:∃x:Nat,y=x:=⟨y.toNat,by omega⟩;have hxn:x < n:=AG
 have hlen:=Xb (x::D) F (RU.2 ⟨ox,hdn⟩) (fun z hz=>by
  rcases CO.1 hz with rfl | hz
  · exact hyF
  · exact hds _ hz)
 have HLEN:AI (D.length < F.length):=AF (by simp only [Fl] at hlen;omega);clear hq hd hr hka hb2 hdn hds hlen hyF hy;have hR1:DK w1 (w.heap.size+1) U n us (fun x:Nat=>if (x:Int)∈D then Bf rs k x++[(k:Int)] else Bf rs k x):=HR2.o.same (fun b cs t fz h=>hg1.block b (Cz.1 h).1 (fun e=>by injection e with e;subst e;exact HRK.o.2 _ _ _ h))
 have hK1:AZ w1 w.heap.size 206 #[AB AE n,.map (some M)]:=Jd.o.grown hg1 (fun e=>by injection e with e;omega);have HB1:AI (AJ w w1):=AF (HB2.o.grown hg1 HB2.o.size (fun r e=>by cases e;omega));have AIU:AI (wy.heap.size < w1.heap.size/\∀cs t fz,w1.heap[wy.heap.size]? ≠some (Obj.cells cs t fz)):=AF (by obtain ⟨es,cl,seen,h1,_⟩:=hd1.ex;refine ⟨(Cz.1 h1).1,fun cs t fz h2=> ?_⟩;rw [h1] at h2;injection h2 with h2;cases h2)
 have AIe:AI (hb < w1.heap.size/\∀cs t fz,w1.heap[hb]? ≠some (Obj.cells cs t fz)):=AF (by have h1:=hg1.block hb Nm.o.1 (fun e=>by injection e with e;exact Nm.o.2.1 e);refine ⟨Ay Nm.o.1 hg1.size,fun cs t fz h2=> ?_⟩;rw [h1] at h2;exact Nm.o.2.2 _ _ _ h2)
 have hxl:x < us.length:=by rw [hR1.len];exact hxn
 obtain ⟨v,hv⟩:∃v,us[x]? =some v:=⟨_,BJ hxl⟩;have hown:=(hR1.row x v hv).1;simp only [Ah ox] at hown;have hcell:=hR1.blk.cell x;rw [Ai,hv] at hcell;have hvf:∃A m c,v=AA A m c:=by
  rcases hown.2 with ⟨rfl,_⟩ | ⟨g,cap,cur,rfl,_⟩
  · exact Rz
  · exact Rz
 obtain ⟨A,m,c,rfl⟩:=hvf;have dP:=Tk rs k x;have hUv:some U≠(Value.slice A m c).ownBlock:=fun e=>(hR1.row x _ hv).2 e.symm;obtain ⟨i0,hi,hz0,hz1,hz2⟩:=JF Vj;obtain ⟨HI,HZ,HR1,eL,ya,HUV,HV,HD1,HYD⟩:=Po hi (And.intro hz0 (And.intro hz1 hz2)) hR1 hK1 hown hUv hv hd1 ox;have hx0:(0:Int)<=(x:Int):=AG
 have hx1:(x:Int) < (n:Int):=AG
 have lU:=hR1.blk.lt;have hs1:w.heap.size < w1.heap.size:=hK1.lt;clear hg1 hR1 hK1 hown hUv hi hz0 hz1 hz2 hd1 ox hv hxl;go_wp2_with (at_builtin;refine wpList_append_own_at _ rfl (.tmp 28) (.tmp 30) 30 rfl (w.heap.size+1) 3 i0 (AB AE 0) 1 8 underlying30 HI.o HZ.o.1 HZ.o.2.1 HZ.o.2.2 rfl BE (AA A m c) (Bf rs k x).length _ rfl (ya.o.alloc _) ⟨w1.heap.size,0,none⟩ 1 1 [AB AE k] rfl rfl (cell_one_new _ _ _) Og Gj AG BX ?_;intro v' w5 hown' hgrow _ hat;obtain ⟨g',cap',rfl⟩:=Joins.ownsRow_form hown' AG;have k5:AZ w5 U 30 us.toArray:=(HR1.o.blk.alloc _).grown hgrow HUV.o;have f5:=k5.frozen x;have c5:=k5.cell x;rw [Ai,HV.o] at c5;have HOW:=AF hown';have Ga:=AF hgrow;have HAT:=AF hat;have Tb:=AF k5;clear hown' hgrow hat k5);have HP:=AF (HR1.o.push (AQ #[AB AE k] 3) (z:=(k:Int)) HV.o (by simp only [Ah HYD.o];exact HOW.o) Ga.o HAT.o);have HNC:AI (∀b,b < w1.heap.size->(∀cs t fz,w1.heap[b]? ≠some (Obj.cells cs t fz))->(w5.setCell ⟨U,x,none⟩ (AA (some ⟨g',0,none⟩) ((Bf rs k x).length+1) cap')).heap[b]? =w1.heap[b]?):=AF (fun b hb1 hnc=>by
  refine (EB _ _ _ b (fun e=> ?_)).trans ((Ga.o.block b BX (fun e=> ?_)).trans (Mw w1 _ b hb1))
  · subst e;exact hnc _ _ _ HR1.o.blk
  obtain ⟨cur,hc⟩:=oF ya.o e.symm;exact hnc _ _ _ hc)
 have AKj:=AF (HD1.o.kept (HNC.o _ AIU.o.1 AIU.o.2) (HNC.o _ AIe.o.1 AIe.o.2));have HK6:AI (AZ (w5.setCell ⟨U,x,none⟩ (AA (some ⟨g',0,none⟩) ((Bf rs k x).length+1) cap')) w.heap.size 206 #[AB AE n,.map (some M)]):=AF (((eL.o.alloc _).grown Ga.o (fun e=>by have:=(ya.o.lt _ e.symm).1;omega)).far BX _);have FK:AI (AJ w (w5.setCell ⟨U,x,none⟩ (AA (some ⟨g',0,none⟩) ((Bf rs k x).length+1) cap'))):=AF (by have h5:AJ w w5:=(HB1.o.alloc HB1.o.size (AQ #[AB AE k] 3)).grown Ga.o BX (fun r e=>by have:=(ya.o.lt r e).1;omega);exact h5.setCell (show w.heap.size<=U by omega) _)
 have HE:AI ((fun y:Nat=>if y=x then (if (x:Int)∈D then Bf rs k x++[(k:Int)] else Bf rs k x)++[(k:Int)] else (if (y:Int)∈D then Bf rs k y++[(k:Int)] else Bf rs k y))=fun y:Nat=>if (y:Int)∈((x:Int)::D) then Bf rs k y++[(k:Int)] else Bf rs k y):=AF (by
  funext y;by_cases e:y=x
  ·subst e
   rw [Am rfl,Ah HYD.o,Am OI]
  have e2:¬(y:Int)=(x:Int):=AG
  rw [Ah e];by_cases h:(y:Int)∈D
  · rw [Am h,Am (Mx _ h)]
  · rw [Ah h,Ah (fun h2=>by rcases CO.1 h2 with h2 | h2;exact e2 h2;exact h h2)])
 clear hnext AHm hcell f5 c5;go_wp2;go_roundg (F.length - (D.length+1))
 case measure=>have:=Kj.o;have:=HLEN.o;omega
 case rel=>exact ⟨(x:Int)::D,_,by simp,AKj.o,by rw [<-HE.o];exact HP.o,HK6.o,FK.o⟩
structure KpC (n₀ B B2:Nat) (W W':AH):Prop where
 size:W.heap.size<=W'.heap.size
 block:∀b,(b < n₀\/B<=b)->b < W.heap.size->some b≠Dx B2 W->W'.heap[b]? =W.heap[b]?
 pt:Dx B2 W'=Dx B2 W\/∃b,Dx B2 W'=some b/\W.heap.size<=b
 lt:∀b,Dx B2 W'=some b->b < W'.heap.size
structure Off (B B2:Nat) (A C:AH):Prop where
 os:C.os=A.os
 tape:C.tape=A.tape
 output:C.output=A.output
 size:A.heap.size<=C.heap.size
 block:∀b,b < A.heap.size->(b < B\/some b=Dx B2 A)->C.heap[b]? =A.heap[b]?
theorem Off.LZ {B B2:Nat} {A C:AH} {row:Option Nat} (hg:A.grownBy C row) (hr:∀r,row=some r->B<=r/\some r≠Dx B2 A):Off B B2 A C:=
 ⟨hg.os,hg.tape,hg.output,hg.size,fun b hb h=>hg.block b hb (fun e=>by
  obtain ⟨h1,h2⟩:=hr b e.symm;rcases h with h | h
  · omega
  · exact h2 h)⟩
def AbC {α:Type} (B B2:Nat) (J:List α->AH->Prop):Prop:=∀s A C,J s A->Off B B2 A C->J s C
def AIC {α:Type} (F:Fence) (n:Nat) (P:BB) (g:Nat) (lb:Array AK) (encs:α->Array AK) (n₀ B2:Nat) (S:List α->Prop) (N:Nat) (w:AH):Prop:=
 ∀(l:Nat) (J:List α->AH->Prop) (W:AH),AJ w W->(∀b,Dx B2 W=some b->n₀<=b/\b < W.heap.size)->AbC W.heap.size B2 J->
  (∀pre x W1,J pre W1->pre.length < N->YieldAt F (n - 1) P l (encs x) W1 fun e W'=>e=AV (AX true)/\J (pre++[x]) W'/\KpC n₀ W.heap.size B2 W1 W')->
  J [] W->
  CallsIn F n P g (#[.func (.yield l) #[] #[]]++lb) W fun e W'=>(∃v,e=AV v)/\∃xs,S xs/\J xs W'
theorem VY {B2 l:Nat} {W:AH} {o:Obj} (h:l≠B2):Dx B2 (W.putObj l o)=Dx B2 W:=by unfold Dx World.cell?;rw [World.putObj_heap_other (fun e=>h e.symm)]
theorem Zy {F:Fence} {n:Nat} {P:BB} {α:Type} {g:Operand} {ps:Array Tmp} {assign body:Code} {Q:Exit->Act->AH->Prop} {a:Act} {w:AH}
 (hro:F.round=none) (h1:1<=n) {gf:Nat} {lb:Array AK} (hg:a.eval g=.func (.func gf) #[] lb) (hFg:F.fn gf) (eg:∀args w,(callFunc gf args).run P w=.ok (.enter gf args) w)
 {encs:α->Array AK} {n₀ B2:Nat} {S:List α->Prop} {N:Nat} (hseq:AIC F (n - 1) P gf lb encs n₀ B2 S N w)
 (hps:∀x,(encs x).size=ps.size) (hn₀:n₀<=w.heap.size) (hB2:B2 < w.heap.size)
 (I:List α->AH->Prop) (hI:AbC w.heap.size B2 I) (hpt:∀pre W,I pre W->∀b,Dx B2 W=some b->n₀<=b/\∃cs t fz,W.heap[b]? =some (Obj.cells cs t fz)) (h0:I [] w) (a₁:α->Act)
 (hassign:∀(l:Nat) (x:α) (W:AH) (K:Act->AH->Prop),K (a₁ x) W->
  assign.wpIn (F.inRound l) (n - 1 - 1) P (Exit.then K (fun _ _ _=>False)) {tmps:=(ps.zip (encs x)).foldl (fun t (p,v)=>t.setIfInBounds p v) a.tmps,defers:=[]} W)
 (hbody:∀(l:Nat) (pre:List α) (x:α) (W:AH),I pre W->pre.length < N->
  body.wpIn (F.inRound l) (n - 1 - 1) P (fun e _ W'=>e=.normal/\KeepsOthers W W'/\KpC n₀ (w.heap.size+2) B2 W W'/\I (pre++[x]) W') (a₁ x) W)
 (hdone:∀(D:Nat) (xs:List α) (W:AH),w.heap.size<=D->S xs->I xs W->W.heap[D]? =some (.deferred (some []))->Q .normal {a with defers:={target:=.collected D,args:=#[]}::a.defers} W):
 (Code.rangeFunc g ps assign body).wpIn F n P Q a w:=by
 refine wpIn_rangeFunc ?_;intro fn hfn;rw [hro];obtain ⟨rec,hrec⟩:∃rec:LoopState->Option Code->Loop,rec=fun st pe=>{state:=st,pending:=pe,fn,tmps:=a.tmps,params:=ps,assign,body,defers:=w.heap.size}:=⟨_,rfl⟩;obtain ⟨W1,hW1⟩:=BH ((w.alloc (.deferred (some []))).alloc (.loop (rec .ready none)));have hsz1:W1.heap.size=w.heap.size+2:=by rw [<-hW1];simp
 have hL1:W1.heap[w.heap.size+1]? =some (.loop (rec .ready none)):=by rw [<-hW1];have:=World.alloc_heap_new (w.alloc (.deferred (some []))) (.loop (rec .ready none));rwa [Eg] at this
 have hK1:W1.heap[w.heap.size]? =some (.deferred (some [])):=by rw [<-hW1];exact vO
 have hI1:I [] W1:=by rw [<-hW1];exact hI _ _ _ (hI _ _ _ h0 (Off.LZ (Fm _ _ none) (fun r e=>by cases e))) (Off.LZ (Fm _ _ none) (fun r e=>by cases e))
 have hb1:AJ w W1:=by rw [<-hW1];exact vP
 -- the turn of a block of book-keeping
 have xQ:∀(pre:List α) (W:AH) (l:Nat) (o o':Obj),I pre W->w.heap.size<=l->W.heap[l]? =some o->o.isCells=false->I pre (W.putObj l o'):=by intro pre W l o o' hi hl ho hc;refine hI _ _ _ hi (Off.LZ (grownBy_putObj' W l o') (fun r e=> ?_));cases e;refine ⟨hl,fun e=> ?_⟩;obtain ⟨_,cs,t,fz,hcs⟩:=hpt _ _ hi _ e.symm;rw [ho] at hcs;injection hcs with hcs;subst hcs;cases hc
 refine ⟨w.heap.size+1,[{target:=.collected w.heap.size,args:=#[]}],W1,{target:=.fn (.func gf) lb,args:=#[.func (.yield (w.heap.size+1)) #[] #[]]},W1,gf,
  #[.func (.yield (w.heap.size+1)) #[] #[]]++lb,W1,?_,?_,?_,?_,fun _=>h1,?_⟩
 · rw [<-hW1,hrec];exact mD
 ·simp only [resolve,hg]
  simp [go_sem]
 · intro f' hf';simp [Target.leads] at hf';subst hf';exact hFg
 · simp [invoke,go_sem,eg]
 refine (hseq (w.heap.size+1)
  (fun pre W=>I pre W/\W.heap[w.heap.size+1]? =some (.loop (rec .ready none))/\W.heap[w.heap.size]? =some (.deferred (some [])))
  W1 hb1 (fun b hb=>by obtain ⟨h0,cs,t,fz,h⟩:=hpt _ _ hI1 b hb;exact ⟨h0,(Cz.1 h).1⟩)
  (fun s A C hs ho=>⟨hI s A C hs.1 ⟨ho.os,ho.tape,ho.output,ho.size,fun b hb h=>ho.block b hb (h.imp (fun h=>by omega) id)⟩,
   (ho.block _ (Cz.1 hs.2.1).1 (.inl AG)).trans hs.2.1,
   (ho.block _ (Cz.1 hs.2.2).1 (.inl AG)).trans hs.2.2⟩)
  ?_ ⟨hI1,hL1,hK1⟩).mono ?_
 ·rintro pre x W ⟨hi,hl,hk⟩ hlen
  have hlt:w.heap.size+1 < W.heap.size:=(Cz.1 hl).1;have hy:=run_yield (P:=P) (args:=encs x) hl fG;rw [hrec] at hy;refine ⟨fn,_,assign,body,hy,roundIn_of_wpIn hfn (hassign _ x W _ ⟨_,run_beginRound hl (by rw [hrec]),?_⟩)⟩;have hl2:(W.putObj (w.heap.size+1) (.loop {rec .ready none with state:=.busy})).heap[w.heap.size+1]? =some (.loop {rec .ready none with state:=.busy}):=World.putObj_heap_same hlt;have hk2:(W.putObj (w.heap.size+1) (.loop {rec .ready none with state:=.busy})).heap[w.heap.size]? =some (.deferred (some [])):=(World.putObj_heap_other AG).trans hk;refine wpIn_mono (hbody _ pre x _ (xQ _ _ _ _ _ hi AG hl rfl) hlen) ?_;rintro e a3 W3 ⟨rfl,hk3,hkp3,hi3⟩;have hl3:=hk3.same _ _ hl2 rfl;have hend:=run_endRound (P:=P) none hl3;rw [hrec] at hend;have hlt3:w.heap.size+1 < W3.heap.size:=(Cz.1 hl3).1;refine ⟨_,_,hend,rfl,⟨xQ _ _ _ _ _ hi3 AG hl3 rfl,?_,(World.putObj_heap_other AG).trans (hk3.same _ _ hk2 rfl)⟩,?_⟩
  ·rw [World.putObj_heap_same hlt3,hrec]
   rfl
  have hsz:∀(X:AH) (l:Nat) (o:Obj),(X.putObj l o).heap.size=X.heap.size:=fun X l o=>by simp [World.putObj]
  have hne:w.heap.size+1≠B2:=AG
  refine ⟨by rw [hsz];have:=hkp3.size;rw [hsz] at this;exact this,fun b hb hbl hbp=> ?_,?_,?_⟩
  ·have hbne:b≠w.heap.size+1:=by omega
   rw [World.putObj_heap_other AG];have:=hkp3.block b AG (by rw [hsz];exact hbl) (by rw [VY hne];exact hbp);rw [this,World.putObj_heap_other AG]
  ·rw [VY hne]
   rcases hkp3.pt with h | ⟨b,h,hb⟩
   · exact .inl (by rw [h,VY hne])
   · exact .inr ⟨b,h,by rw [hsz] at hb;exact hb⟩
  intro b hb;rw [VY hne] at hb;rw [hsz];exact hkp3.lt b hb
 rintro e W2 ⟨⟨v,rfl⟩,xs,hS,hi,hl,hk⟩;exact ⟨none,_,by have:=run_endLoop (P:=P) hl Yw;rw [hrec] at this;exact this,hdone _ xs _ (Ad _) hS (xQ _ _ _ _ _ hi AG hl rfl) ((World.putObj_heap_other AG).trans hk)⟩
theorem getD_mem {l:AP} {i:Nat} (h:i < l.length):l.getD i 0∈l:=by rw [C0,BJ h];exact UJ h
theorem XH {l:AP} {i j:Nat} {y:Int} (hi:i < l.length) (hj:j < l.length) (h:y∈I6 l i j):y∈l:=by
 rcases Yu h with h | rfl
 ·rcases Yu h with h | rfl
  · exact h
  · exact getD_mem hj
 · exact getD_mem hi
theorem AFv {y:Int}:∀(j:Nat) (l:AP),j < l.length->y∈QW l j->y∈l:=by
 intro j
 induction j using Nat.strongRecOn with
 |
  _ j ih=>
  intro l hj h;unfold QW at h;split at h
  · next hc=>exact XH AG hj (ih _ AG _ fH h)
  · exact h
theorem jE {l:AP} {x y:Int} (h:y∈Nt l x):y∈l\/y=x:=by have:=AFv _ _ Ac h;simpa using this
theorem AB4 {y:Int} {n:Nat}:∀(k i:Nat) (l:AP),n - i<=k->n<=l.length->y∈FS l i n->y∈l:=by
 intro k
 induction k with
 |
  zero=>
  intro i l hk hn h;unfold FS at h;split at h
  · next hc=>omega
  · exact h
 |
  succ k ih=>
  intro i l hk hn h;unfold FS at h;split at h
  ·next hc=>have h1:=Xj (l:=l) hc.1;have h2:=Xk l i n;exact XH AG AG (ih _ _ AG (by rw [FF];exact hn) h)
  · exact h
theorem VZ {l:AP} {y:Int} (hp:0 < l.length) (h:y∈MX l):y∈l:=
 XH hp AG (AB4 _ _ _ (Ad _) fH h)
def AC1 (o:AP):Nat:=o.countP fun c=>decide (0 < c)
def Ky (o h:AP):Nat:=h.length+AC1 o
theorem ACW {o h:AP} {u:Int} (hu:u.toNat < o.length):Ky (Nw (o,h) u).1 (Nw (o,h) u).2<=Ky o h:=by
 unfold Ky Nw AC1;simp only;have hs:(o.set u.toNat (o.getD u.toNat 0 - 1)).getD u.toNat 0=o.getD u.toNat 0 - 1:=by rw [C0,Gv hu];rfl
 rw [hs];have hg:o.getD u.toNat 0=o[u.toNat]:=by rw [C0,BJ hu];rfl
 rw [hg,List.countP_set hu];have hle:0 < o[u.toNat]->1<=o.countP fun c=>decide (0 < c):=fun hp=>
  List.countP_pos_iff.2 ⟨_,UJ hu,by simpa using hp⟩
 by_cases h1:o[u.toNat] - 1=0
 ·rw [Am h1,XU]
  have h2:0 < o[u.toNat]:=AG
  have h3:¬0 < o[u.toNat] - 1:=AG
  have:=hle h2;simp only [Bg h2,BO h3,Ct,If,Hn];omega
 rw [Ah h1];by_cases h2:0 < o[u.toNat]
 ·have h3:0 < o[u.toNat] - 1:=by omega
  have:=hle h2;simp only [Bg h2,Bg h3,Ct];omega
 have h3:¬0 < o[u.toNat] - 1:=AG
 simp only [BO h2,BO h3,If,Hn];omega
def IZ (rs:List Ck) (k:Nat):AP:=(List.range k).map fun x:Nat=>((Bj rs x).length:Int)
theorem QA (rs:List Ck) (k:Nat):(IZ rs k).length=k:=by simp [IZ]
theorem X4 (rs:List Ck) (k:Nat):IZ rs (k+1)=IZ rs k++[((Bj rs k).length:Int)]:=by simp [IZ,List.range_succ]
theorem QH (rs:List Ck) (k:Nat):Eu rs (k+1)=if (Bj rs k).length=0 then Nt (Eu rs k) k else Eu rs k:=by unfold Eu;rw [Pk,Rg];rfl
theorem QY (rs:List Ck):∀k:Nat,Ky (IZ rs k) (Eu rs k)=k
 | 0=>rfl
 |
  k+1=>by
  have ih:=QY rs k;unfold Ky AC1 at ih ⊢;rw [X4,QH,List.countP_append];by_cases h:(Bj rs k).length=0
  ·rw [Am h,XU]
   simp only [List.countP_cons,List.countP_nil,h];simp;omega
  rw [Ah h];have:(0:Int) < ((Bj rs k).length:Int):=AG
  simp only [List.countP_cons,List.countP_nil,Bg this,Ct];omega
theorem VP {rs:List Ck} {y:Int}:∀{k:Nat},y∈Eu rs k->0<=y/\y < k
 | 0,h=>by simp [Eu] at h
 |
  k+1,h=>by
  rw [QH] at h;split at h
  ·rcases jE h with h | h
   · have:=VP h;omega
   · omega
  · have:=VP h;omega
theorem ZP {rs:List Ck} {k:Nat} {x y:Int} (h:y∈Bf rs k x):0<=y/\y < k:=by unfold Bf at h;obtain ⟨h1,_⟩:=List.mem_filter.1 h;obtain ⟨z,hz,rfl⟩:=Df.1 h1;have:=Ef.1 hz;exact ⟨by show (0:Int)<=((z:Nat):Int);omega,by show ((z:Nat):Int) < k;omega⟩
theorem ABL (rs:List Ck) (n:Nat):Cr rs n=Kz (fun x:Nat=>Bf rs n x) (n+1) (IZ rs n) (Eu rs n):=rfl
theorem rX (us:Nat->AP) (fuel:Nat) (o:AP):Kz us fuel o []=[]:=by cases fuel <;> simp [Kz]
theorem oI {us:Nat->AP} {fuel:Nat} {o h:AP} (hp:0 < h.length):Kz us (fuel+1) o h=
 (MX h).getD (h.length - 1) 0::Kz us fuel ((us ((MX h).getD (h.length - 1) 0).toNat).foldl Nw (o,(MX h).take (h.length - 1))).1 ((us ((MX h).getD (h.length - 1) 0).toNat).foldl Nw (o,(MX h).take (h.length - 1))).2:=by
 rw [Kz,Ah AG]
theorem FW.drewN {w:AH} {base G:Nat} {l:AP} (h:FW w base G l) (n:Nat):FW (w.drewN n) base G l:=h
theorem FW.grown {w w':AH} {base G g:Nat} {v:AK} {t:Ae} {l:AP} (hk:AZ w G t #[v]) (ht:t=297) (hown:w'.ownsRow base 3 1 v l.length (l.map (Value.int .i64))) (hg:w.grownBy w' (some g)) (hbg:base<=g) (hG:G < base) (hs:base<=w.heap.size):FW w' base G l:=by subst ht;exact ⟨v,hk.grown hg (fun e=>by injection e;omega),hown,hG,BF hs hg.size⟩
theorem AA3 (k:Nat):((k:Int) - 1).tdiv 2=(((k - 1) / 2:Nat):Int):=by
 rcases k with _ | k
 · rfl
 have h:((k+1:Nat):Int) - 1=(k:Int):=AG
 rw [h];rw [Int.tdiv_eq_ediv_of_nonneg AG];simp
theorem xH (base G:Nat) (l:AP) (j:Nat) (w:AH) (hq:FW w base G l) (hj:j < l.length) (hl:l.length<=1000000):
 AS prog 217 #[.iface 294 (AU (some ⟨G,0,none⟩)),AB AE j] w fun e w'=>(∃u,e=AV u)/\FW w' base G (QW l j)/\Kept G w w':=by
 have HQ:=AF hq;clear hq;go_enter func217,ntmps217;go_wp2_with fail;go_loopg [1] j (fun q i wr=>∃k:Nat,∃r:AP,q=k/\i=AB AE k/\k < r.length/\r.length=l.length/\FW wr base G r/\Kept G w wr/\QW r k=QW l j)
 case atStart=>exact ⟨j,l,rfl,rfl,hj,rfl,HQ.o,Kept.refl _ _,rfl⟩
 clear HQ;obtain ⟨k,r,hg,rfl,hk,hlen,hq,hkept,hup⟩:=hrel;have hrl:r.length<=1000000:=AG
 obtain ⟨vB,HG,WV,qm,HQ⟩:=EG hlen hg hup hkept hq;clear hg hup hkept hq hlen;obtain ⟨p,hp⟩:=Ab ((k - 1) / 2);have HPP:=AF hp;have e1:IntKind.i64.wrap ((k:Int) - 1)=(k:Int) - 1:=Bv _ AG;have e2:((k:Int) - 1).tdiv 2=(p:Int):=by rw [AA3,hp]
 have e3:IntKind.i64.wrap (p:Int)=(p:Int):=Bv _ AG;by_cases h0:k=0
 ·subst h0
  have hp0:p=0:=AG
  subst hp0;clear hp;have HU:AI (QW r 0=r):=AF (by unfold QW;simp);go_wp2_with fail
  go_end0
  exact y9
 have hpk:p < k:=AG
 have hpn:p < r.length:=AG
 obtain ⟨g,cap,hbg,hGb,hbs,hkb,hown⟩:=HQ.o.form AG;have c0:=hkb.cell 0;simp only [Ai,An] at c0;have HM:AI (∀q,(wr.drewN q).cell? ⟨G,0,none⟩=some (AA (some ⟨g,0,none⟩) r.length cap)):=AF (fun _=>c0);have hm:=RL G _ wr c0 (prog.types.size+Made.depth) Kq;simp only [types_size,Made.depth,Nat.reduceAdd] at hm;obtain ⟨HKB,HOWN⟩:=Aj hkb hown;obtain ⟨v,hv⟩:=BH (decide (r.getD k 0 < r.getD p 0));have HV:=AF hv;have HC:AI (AS prog 235 #[AA (some ⟨g,0,none⟩) r.length cap,AB AE k,AB AE p] wr fun e w'=>e=AV (AX v)/\∃k,w'=wr.drewN k):=AF (by have:=SR base g cap r.length r k p wr hown hk hpn;rw [hv] at this;exact this)
 clear hkb hown c0 hv hp;have hne:¬(p:Int)=(k:Int):=AG
 go_upto_region 1 with fail;clear e1 e2 e3;go_wp2_with (go_at_call 235;refine HC.o.mono ?_;clear HC hm);rintro e w1 ⟨rfl,q,rfl⟩;cases v with
 |
  false=>
  have HU:AI (QW r k=r):=AF (by unfold QW;rw [Lu];rintro ⟨_,h⟩;have:=HV.o;rw [HPP.o] at this;exact absurd h (Mu this))
  go_wp2_with fail
  go_end0
  exact bG
 |
  true=>
  have HU:AI (QW r k=QW (I6 r p k) p):=AF (by
   have h2:=HV.o;rw [HPP.o] at h2 ⊢
   conv=>lhs;unfold QW
   rw [Gt ⟨by omega,Fj h2⟩])
  have hm2:=Oq G _ (wr.drewN q) (HM.o q) (prog.types.size+Made.depth) Kq;simp only [types_size,Made.depth,Nat.reduceAdd] at hm2;go_wp2_with (go_at_call 239;refine (swap_any base g cap r.length r p k (wr.drewN q) HOWN.o hpn hk).mono ?_;clear hm2);rintro e w2 ⟨⟨u,rfl⟩,hown2,Ja⟩;obtain ⟨Kj,Jd⟩:=Aj (FW.grown (w:=wr.drewN q) HKB.o rfl Wu Ja hbg hGb hbs) (qm.o.trans (((Kept.refl G wr).drewN q).trans (Kept.LZ (a:=wr.drewN q) HKB.o rfl (Ks (Ay hGb hbg)) Ja)));clear hown2 Ja;go_wp2;go_roundg p
  case measure=>exact Ec
  case rel=>exact ⟨p,I6 r p k,rfl,rfl,by rw [FF];exact hpn,by rw [FF];exact vB.o,Kj.o,Jd.o,by rw [<-HU.o];exact WV.o⟩
theorem Xp (base G:Nat) (l:AP) (x:Int) (w:AH) (hq:FW w base G l) (hl:l.length < 1000000):
 AS prog 175 #[.iface 294 (AU (some ⟨G,0,none⟩)),.iface 3 (AB AE x)] w fun e w'=>(∃u,e=AV u)/\FW w' base G (Nt l x)/\Kept G w w':=by
 have hbs:base<=w.heap.size:=by obtain ⟨_,_,_,_,h⟩:=hq;exact h
 have HQ:=AF hq;clear hq;have hm:=wT ⟨G,0,none⟩ w (prog.types.size+Made.depth) Kq;simp only [types_size,Made.depth,Nat.reduceAdd] at hm;go_enter func175,ntmps175;go_wp2_with (go_at_call 237;refine (ABA base G l x w HQ.o hbs AG).mono ?_;clear hm);rintro e w1 ⟨⟨u,rfl⟩,hq1,hk1⟩;obtain ⟨r,hr⟩:=BH (l++[x]);have HR:=AF hr;rw [hr] at hq1;have hlen:r.length=l.length+1:=by rw [<-hr];simp
 clear hr;obtain ⟨g,cap,hbg,hGb,AM7,hkb,hown⟩:=hq1.form AG;have c0:=hkb.cell 0;simp only [Ai,An] at c0;have hm:=jG G _ w1 c0 (prog.types.size+Made.depth) Kq;simp only [types_size,Made.depth,Nat.reduceAdd] at hm;obtain ⟨eG,eL⟩:=Aj hq1 hk1;have e1:IntKind.i64.wrap ((r.length:Int) - 1)=(l.length:Int):=by rw [Bv _ AG];omega
 have HLEN:=AF hlen;clear hkb hown hq1 hk1 c0 hlen;have HU:AI (QW r l.length=Nt l x):=AF (by rw [Nt,HR.o]);go_wp2_with (first
  | (go_at_call 176;refine (len_any _ _ _ _).mono ?_;rintro e w2 ⟨rfl,rfl⟩)
  | (go_at_call 217;refine (xH base G r l.length _ eG.o Rv Rv).mono ?_))
 rintro e w2 ⟨⟨u2,rfl⟩,hq2,hk2⟩;rw [HU.o] at hq2;obtain ⟨Kj,Jd⟩:=Aj hq2 (eL.o.trans hk2);clear hq2 hk2 e1 hm;go_wp2_with fail
 go_end0
 exact ⟨⟨_,rfl⟩,Kj.o,Jd.o⟩
theorem pJ (base G:Nat) (l:AP) (i n:Nat) (w:AH) (hq:FW w base G l) (hn:n<=l.length) (hl:l.length<=1000000) (hi:i<=n):
 AS prog 218 #[.iface 294 (AU (some ⟨G,0,none⟩)),AB AE i,AB AE n] w fun e w'=>(∃u,e=AV u)/\FW w' base G (FS l i n)/\Kept G w w':=by
 have HQ:=AF hq;clear hq;go_enter func218,ntmps218;go_wp2_with fail;go_loopg [7] (n - i) (fun q z wr=>∃k:Nat,∃r:AP,q=n - k/\z=AB AE k/\k<=n/\r.length=l.length/\FW wr base G r/\Kept G w wr/\FS r k n=FS l i n)
 case atStart=>exact ⟨i,l,rfl,rfl,hi,rfl,HQ.o,Kept.refl _ _,rfl⟩
 clear HQ;obtain ⟨k,r,hg,rfl,hk,hlen,hq,hkept,hup⟩:=hrel;have hrl:r.length<=1000000:=AG
 have hnr:n<=r.length:=AG
 obtain ⟨vB,HG,WV,qm,HQ⟩:=EG hlen hg hup hkept hq;clear hg hup hkept hq hlen;obtain ⟨a,ha⟩:=Ab (2*k+1);obtain ⟨b,hb⟩:=Ab (2*k+2);have e1:IntKind.i64.wrap (2*(k:Int))=2*(k:Int):=Bv _ AG;have e2:IntKind.i64.wrap (2*(k:Int)+1)=(a:Int):=by rw [Bv _ AG];omega
 have e3:IntKind.i64.wrap ((a:Int)+1)=(b:Int):=by rw [Bv _ AG];omega
 have a0:¬(a:Int) < 0:=AG
 have HAB:AI (a=2*k+1/\b=2*k+2):=AF ⟨ha,hb⟩;by_cases han:a < n
 case neg=>
  have AKI:(n:Int)<=(a:Int):=AG
  have HU:AI (FS r k n=r):=AF (by unfold FS;rw [Lu];rintro ⟨h,_⟩;omega)
  clear ha hb;go_upto_region 3 with fail;clear e1 e2 e3;go_wp2;go_ret;exact y9
 have AKI:(a:Int) < (n:Int):=AG
 have hkn:k < n:=AG
 have hkr:k < r.length:=AG
 have har:a < r.length:=AG
 obtain ⟨g,cap,hbg,hGb,hbs,hkb,hown⟩:=HQ.o.form AG;have c0:=hkb.cell 0;simp only [Ai,An] at c0;have HM:AI (∀q,(wr.drewN q).cell? ⟨G,0,none⟩=some (AA (some ⟨g,0,none⟩) r.length cap)):=AF (fun _=>c0);have hm:=RL G _ wr c0 (prog.types.size+Made.depth) Kq;simp only [types_size,Made.depth,Nat.reduceAdd] at hm;obtain ⟨HKB,HOWN⟩:=Aj hkb hown;clear hkb hown c0;by_cases hbn:b < n
 case neg=>
  have AKE:(n:Int)<=(b:Int):=AG
  have HJ:AI (LD r k n=a):=AF (by unfold LD;rw [Ah (fun h=>by omega)];omega);clear ha hb;go_upto_region 6 with fail;clear e1 e2 e3;obtain ⟨v2,hv2⟩:=BH (decide (r.getD a 0 < r.getD k 0));have Dw:=AF hv2;have HC:AI (AS prog 235 #[AA (some ⟨g,0,none⟩) r.length cap,AB AE a,AB AE k] wr fun e w'=>e=AV (AX v2)/\∃k,w'=World.drewN wr k):=AF (by have:=SR base g cap r.length r a k wr HOWN.o har hkr;rw [hv2] at this;exact this)
  clear hv2;go_wp2_with (go_at_call 235;refine HC.o.mono ?_;clear HC hm)
  first | rintro e w1 rfl q rfl | rintro e w1 ⟨rfl,q,rfl⟩
  have Ls:AI ((wr.drewN q).cell? ⟨G,0,none⟩=some (AA (some ⟨g,0,none⟩) r.length cap)):=AF (HM.o 0);cases v2 with
  |
   false=>
   have HU:AI (FS r k n=r):=AF mZ
   go_wp2;go_ret;exact bG
  |
   true=>
   have HU:AI (FS r k n=FS (I6 r k a) a n):=AF (by
    conv=>lhs;unfold FS
    rw [Gt ⟨by have:=HAB.o;omega,by rw [HJ.o];exact Fj Dw.o⟩,HJ.o])
   have hm2:=Oq G _ (wr.drewN q) Ls.o (prog.types.size+Made.depth) Kq;simp only [types_size,Made.depth,Nat.reduceAdd] at hm2;go_wp2_with (go_at_call 239;refine (swap_any base g cap r.length r k a (wr.drewN q) HOWN.o hkr har).mono ?_;clear hm2)
   first | rintro e w2 u rfl hown2 Ja | rintro e w2 ⟨⟨u,rfl⟩,hown2,Ja⟩
   have Kj:=AF (FW.grown (w:=(wr.drewN q)) HKB.o rfl Wu Ja hbg hGb hbs);have Jd:AI (Kept G w w2):=AF ((qm.o.drewN _).trans (Kept.LZ (a:=(wr.drewN q)) HKB.o rfl (Ks (Ay hGb hbg)) Ja));clear hown2 Ja;go_wp2;go_roundg (n - a)
   case measure=>have:=HG.o;have:=HAB.o;omega
   case rel=>exact zO
 have AKE:(b:Int) < (n:Int):=AG
 have hbr:b < r.length:=AG
 obtain ⟨v,hv⟩:=BH (decide (r.getD b 0 < r.getD a 0));have HV:=AF hv;have Kl:AI (AS prog 235 #[AA (some ⟨g,0,none⟩) r.length cap,AB AE b,AB AE a] wr fun e w'=>e=AV (AX v)/\∃k,w'=wr.drewN k):=AF (by have:=SR base g cap r.length r b a wr HOWN.o hbr har;rw [hv] at this;exact this)
 clear hv;have Wd:AI (LD r k n=if v then b else a):=AF (by
  unfold LD;rw [<-ha,<-hb,<-HV.o];by_cases h:r.getD b 0 < r.getD a 0
  · rw [Am ⟨hbn,h⟩,Bg h];rfl
  · rw [Ah (fun x=>h x.2),BO h];rfl)
 clear ha hb;go_upto_region 6 with fail;clear e1 e2 e3;go_wp2_with (go_at_call 235;refine Kl.o.mono ?_;clear Kl hm)
 first | rintro e w1 rfl q0 rfl | rintro e w1 ⟨rfl,q0,rfl⟩
 cases v with
 |
  false=>
  have HJ:AI (LD r k n=a):=Wd;obtain ⟨v2,hv2⟩:=BH (decide (r.getD a 0 < r.getD k 0));have Dw:=AF hv2;have HC:AI (AS prog 235 #[AA (some ⟨g,0,none⟩) r.length cap,AB AE a,AB AE k] (wr.drewN q0) fun e w'=>e=AV (AX v2)/\∃k,w'=World.drewN (wr.drewN q0) k):=AF (by have:=SR base g cap r.length r a k (wr.drewN q0) HOWN.o har hkr;rw [hv2] at this;exact this)
  clear hv2;have hm:=RL G _ (wr.drewN q0) (HM.o q0) (prog.types.size+Made.depth) Kq;simp only [types_size,Made.depth,Nat.reduceAdd] at hm;go_wp2_with (go_at_call 235;refine HC.o.mono ?_;clear HC hm)
  first | rintro e w1 rfl q rfl | rintro e w1 ⟨rfl,q,rfl⟩
  have Ls:AI ((wr.drewN (q0+q)).cell? ⟨G,0,none⟩=some (AA (some ⟨g,0,none⟩) r.length cap)):=AF (HM.o 0);cases v2 with
  |
   false=>
   have HU:AI (FS r k n=r):=AF mZ
   go_wp2;go_ret;exact bG
  |
   true=>
   have HU:AI (FS r k n=FS (I6 r k a) a n):=AF (by
    conv=>lhs;unfold FS
    rw [Gt ⟨by have:=HAB.o;omega,by rw [HJ.o];exact Fj Dw.o⟩,HJ.o])
   have hm2:=Oq G _ (wr.drewN (q0+q)) Ls.o (prog.types.size+Made.depth) Kq;simp only [types_size,Made.depth,Nat.reduceAdd] at hm2;go_wp2_with (go_at_call 239;refine (swap_any base g cap r.length r k a (wr.drewN (q0+q)) HOWN.o hkr har).mono ?_;clear hm2)
   first | rintro e w2 u rfl hown2 Ja | rintro e w2 ⟨⟨u,rfl⟩,hown2,Ja⟩
   have Kj:=AF (FW.grown (w:=(wr.drewN (q0+q))) HKB.o rfl Wu Ja hbg hGb hbs);have Jd:AI (Kept G w w2):=AF ((qm.o.drewN _).trans (Kept.LZ (a:=(wr.drewN (q0+q))) HKB.o rfl (Ks (Ay hGb hbg)) Ja));clear hown2 Ja;go_wp2;go_roundg (n - a)
   case measure=>have:=HG.o;have:=HAB.o;omega
   case rel=>exact zO
 |
  true=>
  have HJ:AI (LD r k n=b):=Wd;obtain ⟨v2,hv2⟩:=BH (decide (r.getD b 0 < r.getD k 0));have Dw:=AF hv2;have HC:AI (AS prog 235 #[AA (some ⟨g,0,none⟩) r.length cap,AB AE b,AB AE k] (wr.drewN q0) fun e w'=>e=AV (AX v2)/\∃k,w'=World.drewN (wr.drewN q0) k):=AF (by have:=SR base g cap r.length r b k (wr.drewN q0) HOWN.o hbr hkr;rw [hv2] at this;exact this)
  clear hv2;have hm:=RL G _ (wr.drewN q0) (HM.o q0) (prog.types.size+Made.depth) Kq;simp only [types_size,Made.depth,Nat.reduceAdd] at hm;go_wp2_with (go_at_call 235;refine HC.o.mono ?_;clear HC hm)
  first | rintro e w1 rfl q rfl | rintro e w1 ⟨rfl,q,rfl⟩
  have Ls:AI ((wr.drewN (q0+q)).cell? ⟨G,0,none⟩=some (AA (some ⟨g,0,none⟩) r.length cap)):=AF (HM.o 0);cases v2 with
  |
   false=>
   have HU:AI (FS r k n=r):=AF mZ
   go_wp2;go_ret;exact bG
  |
   true=>
   have HU:AI (FS r k n=FS (I6 r k b) b n):=AF (by
    conv=>lhs;unfold FS
    rw [Gt ⟨by have:=HAB.o;omega,by rw [HJ.o];exact Fj Dw.o⟩,HJ.o])
   have hm2:=Oq G _ (wr.drewN (q0+q)) Ls.o (prog.types.size+Made.depth) Kq;simp only [types_size,Made.depth,Nat.reduceAdd] at hm2;go_wp2_with (go_at_call 239;refine (swap_any base g cap r.length r k b (wr.drewN (q0+q)) HOWN.o hkr hbr).mono ?_;clear hm2)
   first | rintro e w2 u rfl hown2 Ja | rintro e w2 ⟨⟨u,rfl⟩,hown2,Ja⟩
   have Kj:=AF (FW.grown (w:=(wr.drewN (q0+q))) HKB.o rfl Wu Ja hbg hGb hbs);have Jd:AI (Kept G w w2):=AF ((qm.o.drewN _).trans (Kept.LZ (a:=(wr.drewN (q0+q))) HKB.o rfl (Ks (Ay hGb hbg)) Ja));clear hown2 Ja;go_wp2;go_roundg (n - b)
   case measure=>have:=HG.o;have:=HAB.o;omega
   case rel=>exact ⟨b,I6 r k b,rfl,rfl,by have:=HAB.o;omega,by rw [FF];exact vB.o,Kj.o,Jd.o,by rw [<-HU.o];exact WV.o⟩
theorem Za (base G:Nat) (l:AP) (w:AH) (hq:FW w base G l) (hpos:0 < l.length) (hl:l.length<=1000000):
 AS prog 177 #[.iface 294 (AU (some ⟨G,0,none⟩))] w fun e w'=>e=AV (.iface 3 (AB AE ((MX l).getD (l.length - 1) 0)))/\FW w' base G ((MX l).take (l.length - 1))/\Kept G w w':=by
 obtain ⟨g,cap,hbg,hGb,hbs,hkb,hown⟩:=hq.form hpos;have c0:=hkb.cell 0;simp only [Ai,An] at c0;obtain ⟨HQ,HKB,HOWN⟩:=Az hq hkb hown;obtain ⟨n,hn⟩:=Ab (l.length - 1);have HN:=AF hn;have e1:IntKind.i64.wrap ((l.length:Int) - 1)=(n:Int):=by rw [Bv _ AG];omega
 have hnl:n < l.length:=AG
 have hm:=jG G _ w c0 (prog.types.size+Made.depth) Kq;simp only [types_size,Made.depth,Nat.reduceAdd] at hm;have hms:=Oq G _ w c0 (prog.types.size+Made.depth) Kq;simp only [types_size,Made.depth,Nat.reduceAdd] at hms;clear hq hkb hown c0 hn;obtain ⟨r,hr⟩:=BH (MX l);have HR:AI (FS (I6 l 0 n) 0 n=r):=AF (by rw [<-hr,MX,HN.o]);have hrl:r.length=l.length:=by rw [<-hr,QL]
 have TW:=AF hrl;rw [hr];clear hr hrl;go_enter func177,ntmps177;go_wp2_with (first
  | (go_at_call 176;refine (len_any _ _ _ _).mono ?_;rintro e w2 ⟨rfl,rfl⟩)
  | (go_at_call 239;refine (swap_any base g cap l.length l 0 n w HOWN.o hpos hnl).mono ?_;clear hm hms e1))
 first | rintro e w1 u rfl hown2 Ja | rintro e w1 ⟨⟨u,rfl⟩,hown2,Ja⟩
 have hq1:FW w1 base G (I6 l 0 n):=FW.grown (w:=w) HKB.o rfl Wu Ja hbg hGb hbs;have eL:AI (Kept G w w1):=AF (Kept.LZ (a:=w) HKB.o rfl (Ks (Ay hGb hbg)) Ja);have eG:=AF hq1;clear hq1 hown2 Ja;go_wp2_with (go_at_call 218;refine (pJ base G (I6 l 0 n) 0 n w1 eG.o fH (by rw [FF];exact hl) (Ar _)).mono ?_)
 first | rintro e w2 u2 rfl hq2 hk2 | rintro e w2 ⟨⟨u2,rfl⟩,hq2,hk2⟩
 rw [HR.o] at hq2;obtain ⟨Kj,Jd⟩:=Aj hq2 (eL.o.trans hk2);have EI:=ABU ⟨G,0,none⟩ w2 (prog.types.size+Made.depth) Kq;simp only [types_size,Made.depth,Nat.reduceAdd] at EI;clear hq2 hk2;go_wp2_with (go_at_call 236;refine (ACz base G r w2 Kj.o (by have:=TW.o;omega) (by have:=TW.o;omega)).mono ?_;clear EI)
 first | rintro e w3 rfl hq3 hk3 | rintro e w3 ⟨rfl,hq3,hk3⟩
 rw [TW.o] at hq3 ⊢;obtain ⟨eF,YN⟩:=Aj hq3 (Jd.o.trans hk3);clear hq3 hk3;go_wp2;go_ret;exact ⟨rfl,eF.o,YN.o⟩
theorem FW.put {w:AH} {base G O:Nat} {l:AP} (h:FW w base G l) (hO:O < base) (hne:O≠G) (i:Nat) (u:AK):FW (w.setCell ⟨O,i,none⟩ u) base G l:=by obtain ⟨v,h1,h2,h3,h4⟩:=h;exact ⟨v,h1.far (fun e=>hne e.symm) u,E9 h2 hO u,h3,by simpa [World.setCell] using h4⟩
theorem FW.pt {w:AH} {base G:Nat} {l:AP} (h:FW w base G l):∀b,Dx G w=some b->base<=b/\b < w.heap.size:=by obtain ⟨v,h1,h2,h3,h4⟩:=h;intro b hb;rw [F4 h1] at hb;exact h2.lt b hb
theorem Kept.low {w w':AH} {base G:Nat} {l:AP} (hk:Kept G w w') (h:FW w base G l) {b:Nat} (hb:b < base) (hne:b≠G):w'.heap[b]? =w.heap[b]? :=by
 have hs:base<=w.heap.size:=by obtain ⟨_,_,_,_,h⟩:=h;exact h
 exact hk.block b AG hne (fun e=>by have:=(h.pt b e.symm).1;omega)
theorem Kept.below {w w':AH} {base G B:Nat} {l:AP} (hk:Kept G w w') (h:FW w base G l) (hB:B<=G):Below B w w':=by
 have hG:G < base:=by obtain ⟨_,_,_,h,_⟩:=h;exact h
 exact ⟨hk.os,hk.tape,hk.output,hk.size,fun b hb=>hk.low h AG AG⟩
structure ItC (B B2 U O G base:Nat) (us:List AK):Prop where
 b2:B2 < B
 oB:B<=O
 ob:O < base
 og:O≠G
 gB:B<=G
 rb:∀b,Ty U us b->B<=b/\b < base/\b≠O/\b≠G
structure Sg (n₀ B2 bU U O G base n:Nat) (us:List AK) (f:Nat->AP) (X:AH) (o h:AP):Prop where
 op:AZ X O 3 ((o.map (Value.int .i64)).toArray)
 q:FW X base G h
 rows:DK X bU U n us f
 cw:∀b,Dx B2 X=some b->n₀<=b/\b < X.heap.size/\¬Ty U us b/\b≠O/\b≠G/\some b≠Dx G X
section
variable {n₀ B B2 bU U O G base n:Nat} {us:List AK} {f:Nat->AP} {X X':AH} {o h h':AP}
theorem OQ {B2:Nat} {X X':AH} (h:X'.heap[B2]? =X.heap[B2]?):Dx B2 X'=Dx B2 X:=by unfold Dx World.cell?;rw [h]
theorem Sg.put (hc:ItC B B2 U O G base us) (hs:Sg n₀ B2 bU U O G base n us f X o h) (i:Nat) (z:Int):
 Sg n₀ B2 bU U O G base n us f (X.setCell ⟨O,i,none⟩ (AB AE z)) (o.set i z) h/\Off B B2 X (X.setCell ⟨O,i,none⟩ (AB AE z)):=by
 have hpt:Dx B2 (X.setCell ⟨O,i,none⟩ (AB AE z))=Dx B2 X:=OQ (EB _ _ _ B2 (fun e=>by have:=hc.b2;have:=hc.oB;simp at e;omega));have hpg:Dx G (X.setCell ⟨O,i,none⟩ (AB AE z))=Dx G X:=OQ (EB _ _ _ G (fun e=>hc.og e.symm));have hsz:(X.setCell ⟨O,i,none⟩ (AB AE z)).heap.size=X.heap.size:=by simp [World.setCell]
 refine ⟨⟨?_,hs.q.put hc.ob hc.og _ _,hs.rows.keep (fun b hb=>EB _ _ _ b (hc.rb b hb).2.2.1),?_⟩,?_⟩
 ·have:=hs.op.put i (AB AE z)
  rw [Ju,<-RW] at this;exact this
 ·intro b hb
  rw [hpt] at hb;rw [hpg,hsz];exact hs.cw b hb
 refine ⟨rfl,rfl,rfl,by rw [hsz];exact Ad _,fun b hb hor=>EB _ _ _ b (fun e=> ?_)⟩;have e:b=O:=e;subst e;rcases hor with hor | hor
 · have:=hc.oB;omega
 · exact (hs.cw _ hor.symm).2.2.2.1 rfl
theorem Sg.kept (hc:ItC B B2 U O G base us) (hs:Sg n₀ B2 bU U O G base n us f X o h) (hk:Kept G X X') (hq:FW X' base G h'):
 Sg n₀ B2 bU U O G base n us f X' o h'/\Off B B2 X X':=by
 have hB2:B2 < base:=by have:=hc.b2;have:=hc.oB;have:=hc.ob;omega
 have hpt:Dx B2 X'=Dx B2 X:=OQ (hk.low hs.q hB2 (by have:=hc.b2;have:=hc.gB;omega));refine ⟨⟨(hk.low hs.q hc.ob hc.og).trans hs.op,hq,hs.rows.keep (fun b hb=>hk.low hs.q (hc.rb b hb).2.1 (hc.rb b hb).2.2.2),?_⟩,?_⟩
 ·intro b hb
  rw [hpt] at hb;obtain ⟨h1,h2,h3,h4,h5,h6⟩:=hs.cw b hb;refine ⟨h1,Ay h2 hk.size,h3,h4,h5,?_⟩;rcases hk.pt with e | ⟨y,e,hy⟩
  · rw [e];exact h6
  rw [e];intro e2;injection e2 with e2;omega
 refine ⟨hk.os,hk.tape,hk.output,hk.size,fun b hb hor=> ?_⟩;rcases hor with hor | hor
 · exact hk.low hs.q (by have:=hc.oB;have:=hc.ob;omega) (by have:=hc.gB;omega)
 obtain ⟨h1,h2,h3,h4,h5,h6⟩:=hs.cw b hor.symm;exact hk.block b hb h5 h6
theorem FW.keep {w w':AH} {base G:Nat} {l:AP} (h:FW w base G l) (hs:w.heap.size<=w'.heap.size) (hb:∀b,b=G\/Dx G w=some b->w'.heap[b]? =w.heap[b]?):FW w' base G l:=by
 obtain ⟨v,h1,h2,h3,h4⟩:=h;refine ⟨v,(hb G (.inl rfl)).trans h1,⟨h2.1,?_⟩,h3,BF h4 hs⟩;rcases h2.2 with h2 | ⟨g,cap,cur,hv,hg,hh,rest⟩
 · exact .inl h2
 · exact .inr ⟨g,cap,cur,hv,hg,(hb g (.inr (by rw [F4 h1,hv];rfl))).trans hh,rest⟩
theorem Sg.round (hc:ItC B B2 U O G base us) (hs:Sg n₀ B2 bU U O G base n us f X o h) (hk:KpC n₀ B B2 X X') (hn:n₀<=B) (hBX:B<=X.heap.size):Sg n₀ B2 bU U O G base n us f X' o h:=by
 have same:∀b,B<=b->b < X.heap.size->(∀c,Dx B2 X=some c->c≠b)->X'.heap[b]? =X.heap[b]? :=fun b h1 h2 h3=>hk.block b (.inr h1) h2 (fun e=>h3 b e.symm rfl);have hG:=hs.q.pt;have hGs:G < X.heap.size:=by obtain ⟨v,h1,_⟩:=hs.q;exact h1.lt
 have sG:X'.heap[G]? =X.heap[G]? :=same G hc.gB hGs (fun c hcc=>(hs.cw c hcc).2.2.2.2.1);have sO:X'.heap[O]? =X.heap[O]? :=same O hc.oB hs.op.lt (fun c hcc=>(hs.cw c hcc).2.2.2.1);have hbase:G < base:=by obtain ⟨v,_,_,h3,_⟩:=hs.q;exact h3
 have hpg:Dx G X'=Dx G X:=OQ sG;refine ⟨sO.trans hs.op,hs.q.keep hk.size (fun b hb=> ?_),hs.rows.keep (fun b hb=>same b (hc.rb b hb).1 (hs.rows.lt hb).2 (fun c hcc e=>(hs.cw c hcc).2.2.1 (e ▸ hb))),?_⟩
 ·rcases hb with rfl | hb
  · exact sG
  · exact same b (by have:=(hG b hb).1;have:=hc.gB;omega) (hG b hb).2 (fun c hcc e=>(hs.cw c hcc).2.2.2.2.2 (by rw [hb,e]))
 intro b hb;rw [hpg];rcases hk.pt with e | ⟨y,e,hy⟩
 ·rw [e] at hb
  obtain ⟨h1,h2,h3⟩:=hs.cw b hb;exact ⟨h1,Ay h2 hk.size,h3⟩
 have hlt:=hk.lt b hb;rw [e] at hb;injection hb with hb;subst hb;refine ⟨by omega,hlt,fun hr=>by have:=(hs.rows.lt hr).2;omega,by have:=hs.op.lt;omega,by omega,fun e2=> ?_⟩;have:=(hG _ e2.symm).2;omega
end
theorem dD {rs:List Ck} {n:Nat} {x:Int} (h:∀y∈Bj rs x,0<=y/\y < n):(Bj rs x).length<=n:=by
 have:=Xb (Bj rs x) ((List.range n).map Int.ofNat) (Xc rs x) (fun y hy=>by have:=h y hy;exact Df.2 ⟨y.toNat,Ef.2 AG,by show ((y.toNat:Nat):Int)=y;omega⟩)
 simpa using this
open Go.Shelf
attribute [local go_sem] Oper.semAt_some
theorem ABf {w:AH} {b:Nat} {m:List (Int×Bool)} (h:Kg (Value.int .i64) Value.bool w b m) (ty:Ae):(Builtin.len_ #[201] ty #[.map (some b)]).run prog w=.ok (AB AE m.length) w:=by
 obtain ⟨es,clock,h1,h2,_⟩:=h;have hl:es.size=m.length:=by have:=congrArg List.length h2;simpa using this
 have:=run_len_map (P:=prog) w 201 ty b es clock AL h1;rw [this,hl];rfl
theorem ABe (w:AH) (ty:Ae):(Builtin.len_ #[201] ty #[.map none]).run prog w=.ok (AB AE 0) w:=by have:=run_len_nilMap (P:=prog) w 201 ty AL;rw [this];rfl
theorem sQ (m n₀ B2 bg M n base0:Nat) (hs:List (Int×Nat)) (rs:List Ck) (w:AH) (hbg:AZ w bg 206 #[AB AE n,.map (some M)]) (hG:FX w base0 M hs (Bj rs)) (hin:∀h y,y∈Bj rs h->0<=y/\y < n) (hn:n<=1000) (hB2:B2 < w.heap.size) (hn₀:n₀<=w.heap.size):
 AIC Fence.wide m prog 173 #[AU (some ⟨bg,0,none⟩)] (fun x:Int=>#[AB AE x]) n₀ B2 (fun xs=>xs=Cr rs n) n w:=by
 intro l J W hW hp0 hJ hY h0;refine Ey.2 ?_;have pK:=hbg.below hW hbg.lt;have b0:=pK.cell 0;have b1:=pK.cell 1;have lb:=pK.lt;simp only [Ai,An,Aw] at b0 b1;obtain ⟨vG,RD,HP0,HJ,HY,Wd,eN⟩:=LW (hG.below hW) hin hp0 hJ hY h0 pK;have hnW:n₀<=W.heap.size:=BF hn₀ hW.size;have xT:B2 < W.heap.size:=Ay hB2 hW.size;clear hbg hG hin hp0 hJ hY h0 pK hW hB2;have hmk:=run_make_row' (P:=prog) 30 3 (AB AE 0) 8 underlying30 Vj rfl .i64 .i64 n AG AG;rw [WK] at hmk;go_enter func173,ntmps173;go_wp2_with fail
 go_region_held3 (fun w'=>w'.cell? ⟨bg,0,none⟩=some (AB AE n)/\w'.cell? ⟨bg,1,none⟩=some (.map (some M))/\AJ W w')
  (first
   | exact ⟨(Lv ((Af _ W).drew) (p:=⟨bg,0,none⟩) lb).trans b0,(Lv ((Af _ W).drew) (p:=⟨bg,1,none⟩) lb).trans b1,(Af _ W).drew⟩
   | exact ⟨(Lv ((Af _ W).drew.trans hbu) (p:=⟨bg,0,none⟩) lb).trans b0,(Lv ((Af _ W).drew.trans hbu) (p:=⟨bg,1,none⟩) lb).trans b1,(Af _ W).drew.trans hbu⟩
   | exact ⟨(Lv (((Af _ W).drew.trans hbu).alloc hbu.size _) (p:=⟨bg,0,none⟩) lb).trans b0,(Lv (((Af _ W).drew.trans hbu).alloc hbu.size _) (p:=⟨bg,1,none⟩) lb).trans b1,((Af _ W).drew.trans hbu).alloc hbu.size _⟩
   | exact ⟨(Lv ((Af _ W).drew.alloc (Ad _) _) (p:=⟨bg,0,none⟩) lb).trans b0,(Lv ((Af _ W).drew.alloc (Ad _) _) (p:=⟨bg,1,none⟩) lb).trans b1,(Af _ W).drew.alloc (Ad _) _⟩
   | exact ⟨(Lv (((Af _ W).drew.alloc (Ad _) _).trans (hbu.mono Ac)) (p:=⟨bg,0,none⟩) lb).trans b0,(Lv (((Af _ W).drew.alloc (Ad _) _).trans (hbu.mono Ac)) (p:=⟨bg,1,none⟩) lb).trans b1,((Af _ W).drew.alloc (Ad _) _).trans (hbu.mono Ac)⟩)
  (first
   | (go_at_call 174;refine (il base0 M n hs rs _ (vG.o.below (Af _ W).drew) RD.o hn).mono ?_;rintro e w' ⟨U,us,rfl,Q0,hbu⟩)
   | (go_at_call 174;refine (il base0 M n hs rs _ (vG.o.below ((Af _ W).drew.alloc (Ad _) _)) RD.o hn).mono ?_;rintro e w' ⟨U,us,rfl,Q0,hbu⟩))
 ·obtain ⟨X,hX⟩:=Ab (w'.alloc (AQ (Array.replicate n (AB AE 0)) 3))
  obtain ⟨O,hO⟩:=Ab w'.heap.size;have hwb:AJ W w':=(Af _ W).drew.trans hbu;have HX:AI (AJ W X):=AF (by rw [hX];exact hwb.alloc hwb.size _);have eD:AI (DK X (W.heap.size+1) U n us (fun x:Nat=>Bf rs n x)):=AF (by rw [hX];exact DK.alloc (base:=W.heap.size+1) Q0 _);have I5:AI (AZ X O 3 (Array.replicate n (AB AE 0))):=AF (by rw [hX,hO];exact AZ.new _ _ _);have xP:W.heap.size<=O:=by rw [hO];exact hwb.size
  have Cl:AI (∀b,Ty U us b->b≠O):=AF (fun b hb=>by have:=(Q0.lt hb).2;omega);rw [<-hX,<-hO];clear hX hO hwb Q0 hbu;have Qf:=eN.o.below HX.o lb;have b0:=Qf.cell 0;have b1:=Qf.cell 1;have lbX:=Qf.lt;simp only [Ai,An,Aw] at b0 b1;have hOX:=I5.o.lt;have Jh:AI (∀b,Ty U us b->W.heap.size<=b/\b < X.heap.size/\b≠O):=AF (fun b hb=>⟨by have:=(eD.o.lt hb).1;omega,(eD.o.lt hb).2,Cl.o b hb⟩);clear Qf hmk;go_wp2_with fail;obtain ⟨Y,hY⟩:=Ab (X.alloc (AQ #[AA none 0 0] 297));obtain ⟨G,hG⟩:=Ab X.heap.size;obtain ⟨base,hbase⟩:=Ab (X.heap.size+1);have hXW:=HX.o.size;have YR:AI (AJ W Y):=AF tI;have HRY:AI (DK Y (W.heap.size+1) U n us (fun x:Nat=>Bf rs n x)):=AF (by rw [hY];exact eD.o.alloc _);have uz:AI (AZ Y O 3 (Array.replicate n (AB AE 0))):=AF (by rw [hY];exact I5.o.alloc _);have PW:AI (FW Y base G (Eu rs 0)):=AF (by rw [hY,hG,hbase];exact zR);have hGW:W.heap.size<=G:=AG
  have uf:O≠G:=AG
  have hOb:O < base:=AG
  have V5:AI (∀b,Ty U us b->W.heap.size<=b/\b < base/\b≠O/\b≠G):=AF (fun b hb=>by have:=Jh.o b hb;omega);rw [<-hY,<-hG];clear hY hG hbase b0 b1 hXW eD I5 HX;go_loopg [20] n (fun q i wr=>∃k:Nat,k<=n/\q=n - k/\i=AB AE k/\AZ wr O 3 (((IZ rs k++List.replicate (n - k) 0).map (Value.int .i64)).toArray)/\FW wr base G (Eu rs k)/\DK wr (W.heap.size+1) U n us (fun x:Nat=>Bf rs n x)/\AJ W wr)
  case atStart=>exact AAn
  clear YR HRY uz PW;obtain ⟨k,hk,hq,rfl,ho,hqa,hr,hb⟩:=hrel;obtain ⟨HQ,HO,qU,HR,HB⟩:=EG hq ho hqa hr hb;clear hq ho hqa hr hb;by_cases hlt:k < n
  case neg=>
   obtain rfl:k=n:=AG
   go_wp2_with fail
   skip
   have ui:ItC W.heap.size B2 U O G base us:=⟨xT,xP,hOb,uf,hGW,fun b hb=>V5.o b hb⟩;have wd:Dx B2 wr=Dx B2 W:=OQ (HB.o.block B2 xT);have hIS:Sg n₀ B2 (W.heap.size+1) U O G base k us (fun x:Nat=>Bf rs k x) wr (IZ rs k) (Eu rs k):=by
    exact AAV
   have hJ1:J [] wr:=HJ.o _ _ _ Wd.o ⟨HB.o.os,HB.o.tape,HB.o.output,HB.o.size,fun b hb h=>by
    rcases h with h | h
    · exact HB.o.block b h
    · exact HB.o.block b (HP0.o b h.symm).2⟩
   have hcb:∀c∈IZ rs k, -(1000*((([]:AP)).length:Int))<=c/\c<=1000:=by intro c hcc;unfold IZ at hcc;obtain ⟨y,hy,rfl⟩:=Df.1 hcc;have:=dD (rs:=rs) (n:=k) (x:=(y:Int)) (fun z hz=>RD.o _ z hz);simp;omega
   obtain ⟨VG,yp,Zv,yx⟩:=CJ ui hIS hJ1 hcb;have jR:W.heap.size<=wr.heap.size:=HB.o.size;clear ui wd hIS hJ1 hcb HO qU HR HB HQ hk hlt Jh V5 Cl eN vG RD HP0;obtain ⟨wy,rfl⟩:=Ab wr;go_loopg [46] k (fun q _ wr=>∃(o h pre:AP) (fuel:Nat),q=Ky o h/\o.length=k/\Sg n₀ B2 (W.heap.size+1) U O G base k us (fun x:Nat=>Bf rs k x) wr o h/\J pre wr/\W.heap.size<=wr.heap.size/\(∀y∈h,0<=y/\y < k)/\pre.length+Ky o h<=k/\Ky o h<=fuel/\pre++Kz (fun x:Nat=>Bf rs k x) fuel o h=Cr rs k/\(∀c∈o, -(1000*(pre.length:Int))<=c/\c<=1000))
   case atStart=>exact zM
   clear yp Zv yx jR;obtain ⟨o,h,pre,fuel,hq,hol,his,hj,jR,hhm,hpl,hpf,hgo,hcb⟩:=hrel;obtain ⟨HQ,HOL,HIS,HJP,HHM,WZ,HPF,qo,LV⟩:=Po hq hol his hj hhm hpl hpf hgo hcb;have hhl:h.length<=k:=by unfold Ky at hpl;omega
   clear hq hol his hj hhm hpl hpf hgo hcb;by_cases hpos:0 < h.length
   case neg=>
    exact AAd
   obtain ⟨g,cap,AKF,AKK,AKD,hkb,hown⟩:=HIS.o.q.form hpos;have c0:=hkb.cell 0;have lG:=hkb.lt;simp only [Ai,An] at c0;have AJ4:(0:Int) < (h.length:Int):=AG
   have ADs:h.length<=1000000:=AG
   obtain ⟨x,hx⟩:=BH ((MX h).getD (h.length - 1) 0);obtain ⟨h1,hh1⟩:=BH ((MX h).take (h.length - 1));obtain ⟨ji,HH1⟩:=Aj hx hh1;have hpc:=Za base G h wr HIS.o.q hpos ADs;rw [hx,hh1] at hpc;have hxm:0<=x/\x < k:=HHM.o x (VZ hpos tX);have pE:∀y∈h1,0<=y/\y < k:=fun y hy=>HHM.o y (VZ hpos (List.mem_of_mem_take (by rw [hh1];exact hy)));have hl1:h1.length=h.length - 1:=by rw [<-hh1,DR,QL];omega
   obtain ⟨AIo,Q9,HPC⟩:=Az pE hl1 hpc;have hta:=X6 x;clear hkb hown hx hh1 hpc pE hl1;go_upto_region 11 with (first
    | (go_at_call 176;refine (len_any _ _ _ _).mono ?_;rintro e w2 ⟨rfl,rfl⟩)
    | (go_at_call 177;refine HPC.o.mono ?_))
   first | rintro e w1 rfl hq1 hk1 | rintro e w1 ⟨rfl,hq1,hk1⟩
   obtain ⟨hs1,o7⟩:=HIS.o.kept VG.o hk1 hq1;have hj1:=HJ.o _ _ _ HJP.o o7;have pN:W.heap.size<=w1.heap.size:=BF jR hk1.size;obtain ⟨fn,tmps,assign,body,hy,hR⟩:=HY.o pre x w1 hj1 tD;obtain ⟨Ki,HR⟩:=Aj hs1 hR;clear hq1 hk1 hs1 o7 hj1 hR;go_upto_region 11 with fail;refine (Dq (n:=m)).1 ?_
   gi_wp2
   refine ⟨(fun h=>by cases h),HR.o.mono ?_⟩;rintro e w2 ⟨rfl,hj2,hkp⟩;have hs2:=Ki.o.round VG.o hkp hnW pN;have iL:AI (W.heap.size<=w2.heap.size):=AF (BF pN hkp.size);obtain ⟨HJ2,HS2⟩:=Aj hj2 hs2;obtain ⟨xn,rfl⟩:∃xn:Nat,x=xn:=⟨x.toNat,by omega⟩;have hxk:xn < k:=AG
   have hx0:(0:Int)<=(xn:Int):=AG
   have hx1:(xn:Int) < (k:Int):=AG
   have hxl:xn < us.length:=by rw [hs2.rows.len];exact hxk
   obtain ⟨v,hv⟩:∃v,us[xn]? =some v:=⟨_,BJ hxl⟩;have hrow:=(hs2.rows.row xn v hv).1;have hcell:=hs2.rows.blk.cell xn;rw [Ai,hv] at hcell;have dP:=Tk rs k xn;have hvf:∃A c,v=AA A (Bf rs k xn).length c:=by
    exact zu
   obtain ⟨A,c,rfl⟩:=hvf;obtain ⟨L,hL⟩:=BH (Bf rs k xn);obtain ⟨HL,HV⟩:=Aj hL hv;rw [hL] at dP hcell;have hLn:L.length<=1000:=AG
   have HLM:AI (∀y∈L,0<=y/\y < k):=AF (fun y hy=>ZP (rs:=rs) (k:=k) (x:=xn) (by rw [hL];exact hy));clear hj2 hkp hs2 hrow hv hL hy hxl
   gi_wp2
   go_wp2_with fail;clear hcell;obtain ⟨wz,rfl⟩:=Ab wr;go_loopg [68] L.length (fun q i wr=>∃(j:Nat) (o2 h2:AP),j<=L.length/\q=L.length - j/\i=AB AE j/\(L.take j).foldl Nw (o,h1)=(o2,h2)/\o2.length=k/\Sg n₀ B2 (W.heap.size+1) U O G base k us (fun x:Nat=>Bf rs k x) wr o2 h2/\J (pre++[(xn:Int)]) wr/\W.heap.size<=wr.heap.size/\(∀y∈h2,0<=y/\y < k)/\Ky o2 h2<=Ky o h1/\(∀c∈o2, -(1000*(pre.length:Int)) - j<=c/\c<=1000))
   case atStart=>exact zQ
   exact AFU
  have hkn:(k:Int) < (n:Int):=AG
  have hk0:=Int.natCast_nonneg k
  have Qf:=eN.o.below HB.o lb;have b0:=Qf.cell 0;have b1:=Qf.cell 1;simp only [Ai,An,Aw] at b0 b1;have hck:=HO.o.cell k;have hfk:=HO.o.frozen k;have hke:((IZ rs k++List.replicate (n - k) 0).map (Value.int .i64))[k]? =some (AB AE 0):=by rw [Be,Cf Y2,QA,PY,eS,Am AG];rfl
  rw [Ai,hke] at hck;have hG2:=vG.o.below HB.o;have hlook:=DH (IW underlying3) underlying204 (z:=.map none) AL hG2.o (k:Int) false;have HLV:AI (∃v,(Instr.lookup 204 (.map (some M)) (AB AE k) false).run prog wr=.ok v wr/\∀ty,(Builtin.len_ #[201] ty #[v]).run prog wr=.ok (AB AE (Bj rs k).length) wr):=AF (by
   cases hm:getM hs (k:Int) with
   |
    none=>
    rw [hm] at hlook;refine ⟨_,hlook,fun ty=> ?_⟩;have:=ABe wr ty;rw [hG2.rest _ (getM_none.1 hm)];exact this
   |
    some b=>
    rw [hm] at hlook;refine ⟨_,hlook,fun ty=> ?_⟩;have:=ABf (hG2.ins _ (Vs hm)).2.2 ty;rw [show (Ev (Bj rs (k:Int))).length=(Bj rs (k:Int)).length by simp [Ev]] at this;exact this)
  obtain ⟨v,hlv,lx⟩:=HLV.o;obtain ⟨c,hc⟩:∃c,(Bj rs (k:Int)).length=c:=⟨_,rfl⟩;have HC:=AF hc;rw [hc] at lx;clear hG2 hlook Qf hke hc;have KU:AI (AZ (wr.setCell ⟨O,k,none⟩ (AB AE c)) O 3 (((IZ rs (k+1)++List.replicate (n - (k+1)) 0).map (Value.int .i64)).toArray)):=AF (by
   have:=HO.o.put k (AB AE c);have he:(((IZ rs k++List.replicate (n - k) 0).map (Value.int .i64)).toArray).setIfInBounds k (AB AE c)=(((IZ rs (k+1)++List.replicate (n - (k+1)) 0).map (Value.int .i64)).toArray):=by rw [Ju,<-RW,X4,HC.o];congr 2;rw [Yo _ _ Y2,QA,PY,show n - k=(n - (k+1))+1 by omega,List.replicate_succ,Bp];simp
   rw [he] at this;exact this)
  have Kj:AI (FW (wr.setCell ⟨O,k,none⟩ (AB AE c)) base G (Eu rs k)):=AF (qU.o.put hOb uf _ _);have HR2:AI (DK (wr.setCell ⟨O,k,none⟩ (AB AE c)) (W.heap.size+1) U n us (fun x:Nat=>Bf rs n x)):=AF (HR.o.keep (fun b hb=>EB _ _ _ b (V5.o b hb).2.2.1));exact AFR
 obtain ⟨X,hX⟩:=Ab w';obtain ⟨O,hO⟩:=Ab W.heap.size;have hwb:AJ W w':=((Af _ W).drew.alloc (Ad _) (AQ (Array.replicate n (AB AE 0)) 3)).trans (hbu.mono Ac);have HX:AI (AJ W X):=AF (by rw [hX];exact hwb);have eD:AI (DK X (W.heap.size+1+1) U n us (fun x:Nat=>Bf rs n x)):=AF (by rw [hX];have:=Q0;simp only [Eg] at this;exact this);have I5:AI (AZ X O 3 (Array.replicate n (AB AE 0))):=AF (by rw [hX,hO];exact (AZ.new W.drew _ _).below hbu Ac);have xP:W.heap.size<=O:=AG
 have Cl:AI (∀b,Ty U us b->b≠O):=AF (fun b hb=>by have:=(Q0.lt hb).1;simp at this;omega);rw [<-hX,<-hO];clear hX hO hwb Q0 hbu;have Qf:=eN.o.below HX.o lb;have b0:=Qf.cell 0;have b1:=Qf.cell 1;have lbX:=Qf.lt;simp only [Ai,An,Aw] at b0 b1;have hOX:=I5.o.lt;have Jh:AI (∀b,Ty U us b->W.heap.size<=b/\b < X.heap.size/\b≠O):=AF (fun b hb=>⟨by have:=(eD.o.lt hb).1;omega,(eD.o.lt hb).2,Cl.o b hb⟩);clear Qf hmk;go_wp2_with fail;obtain ⟨Y,hY⟩:=Ab (X.alloc (AQ #[AA none 0 0] 297));obtain ⟨G,hG⟩:=Ab X.heap.size;obtain ⟨base,hbase⟩:=Ab (X.heap.size+1);have hXW:=HX.o.size;have YR:AI (AJ W Y):=AF tI;have HRY:AI (DK Y (W.heap.size+1+1) U n us (fun x:Nat=>Bf rs n x)):=AF (by rw [hY];exact eD.o.alloc _);have uz:AI (AZ Y O 3 (Array.replicate n (AB AE 0))):=AF (by rw [hY];exact I5.o.alloc _);have PW:AI (FW Y base G (Eu rs 0)):=AF (by rw [hY,hG,hbase];exact zR);have hGW:W.heap.size<=G:=AG
 have uf:O≠G:=AG
 have hOb:O < base:=AG
 have V5:AI (∀b,Ty U us b->W.heap.size<=b/\b < base/\b≠O/\b≠G):=AF (fun b hb=>by have:=Jh.o b hb;omega);rw [<-hY,<-hG];clear hY hG hbase b0 b1 hXW eD I5 HX;go_loopg [20] n (fun q i wr=>∃k:Nat,k<=n/\q=n - k/\i=AB AE k/\AZ wr O 3 (((IZ rs k++List.replicate (n - k) 0).map (Value.int .i64)).toArray)/\FW wr base G (Eu rs k)/\DK wr (W.heap.size+1+1) U n us (fun x:Nat=>Bf rs n x)/\AJ W wr)
 case atStart=>exact AAn
 clear YR HRY uz PW;obtain ⟨k,hk,hq,rfl,ho,hqa,hr,hb⟩:=hrel;obtain ⟨HQ,HO,qU,HR,HB⟩:=EG hq ho hqa hr hb;clear hq ho hqa hr hb;by_cases hlt:k < n
 case neg=>
  obtain rfl:k=n:=AG
  go_wp2_with fail
  skip
  have ui:ItC W.heap.size B2 U O G base us:=⟨xT,xP,hOb,uf,hGW,fun b hb=>V5.o b hb⟩;have wd:Dx B2 wr=Dx B2 W:=OQ (HB.o.block B2 xT);have hIS:Sg n₀ B2 (W.heap.size+1+1) U O G base k us (fun x:Nat=>Bf rs k x) wr (IZ rs k) (Eu rs k):=by
   exact AAV
  have hJ1:J [] wr:=HJ.o _ _ _ Wd.o ⟨HB.o.os,HB.o.tape,HB.o.output,HB.o.size,fun b hb h=>by
   rcases h with h | h
   · exact HB.o.block b h
   · exact HB.o.block b (HP0.o b h.symm).2⟩
  have hcb:∀c∈IZ rs k, -(1000*((([]:AP)).length:Int))<=c/\c<=1000:=by intro c hcc;unfold IZ at hcc;obtain ⟨y,hy,rfl⟩:=Df.1 hcc;have:=dD (rs:=rs) (n:=k) (x:=(y:Int)) (fun z hz=>RD.o _ z hz);simp;omega
  obtain ⟨VG,yp,Zv,yx⟩:=CJ ui hIS hJ1 hcb;have jR:W.heap.size<=wr.heap.size:=HB.o.size;clear ui wd hIS hJ1 hcb HO qU HR HB HQ hk hlt Jh V5 Cl eN vG RD HP0;obtain ⟨wy,rfl⟩:=Ab wr;go_loopg [46] k (fun q _ wr=>∃(o h pre:AP) (fuel:Nat),q=Ky o h/\o.length=k/\Sg n₀ B2 (W.heap.size+1+1) U O G base k us (fun x:Nat=>Bf rs k x) wr o h/\J pre wr/\W.heap.size<=wr.heap.size/\(∀y∈h,0<=y/\y < k)/\pre.length+Ky o h<=k/\Ky o h<=fuel/\pre++Kz (fun x:Nat=>Bf rs k x) fuel o h=Cr rs k/\(∀c∈o, -(1000*(pre.length:Int))<=c/\c<=1000))
  case atStart=>exact zM
  clear yp Zv yx jR;obtain ⟨o,h,pre,fuel,hq,hol,his,hj,jR,hhm,hpl,hpf,hgo,hcb⟩:=hrel;obtain ⟨HQ,HOL,HIS,HJP,HHM,WZ,HPF,qo,LV⟩:=Po hq hol his hj hhm hpl hpf hgo hcb;have hhl:h.length<=k:=by unfold Ky at hpl;omega
  clear hq hol his hj hhm hpl hpf hgo hcb;by_cases hpos:0 < h.length
  case neg=>
   exact AAd
  obtain ⟨g,cap,AKF,AKK,AKD,hkb,hown⟩:=HIS.o.q.form hpos;have c0:=hkb.cell 0;have lG:=hkb.lt;simp only [Ai,An] at c0;have AJ4:(0:Int) < (h.length:Int):=AG
  have ADs:h.length<=1000000:=AG
  obtain ⟨x,hx⟩:=BH ((MX h).getD (h.length - 1) 0);obtain ⟨h1,hh1⟩:=BH ((MX h).take (h.length - 1));obtain ⟨ji,HH1⟩:=Aj hx hh1;have hpc:=Za base G h wr HIS.o.q hpos ADs;rw [hx,hh1] at hpc;have hxm:0<=x/\x < k:=HHM.o x (VZ hpos tX);have pE:∀y∈h1,0<=y/\y < k:=fun y hy=>HHM.o y (VZ hpos (List.mem_of_mem_take (by rw [hh1];exact hy)));have hl1:h1.length=h.length - 1:=by rw [<-hh1,DR,QL];omega
  obtain ⟨AIo,Q9,HPC⟩:=Az pE hl1 hpc;have hta:=X6 x;clear hkb hown hx hh1 hpc pE hl1;go_upto_region 11 with (first
   | (go_at_call 176;refine (len_any _ _ _ _).mono ?_;rintro e w2 ⟨rfl,rfl⟩)
   | (go_at_call 177;refine HPC.o.mono ?_))
  first | rintro e w1 rfl hq1 hk1 | rintro e w1 ⟨rfl,hq1,hk1⟩
  obtain ⟨hs1,o7⟩:=HIS.o.kept VG.o hk1 hq1;have hj1:=HJ.o _ _ _ HJP.o o7;have pN:W.heap.size<=w1.heap.size:=BF jR hk1.size;obtain ⟨fn,tmps,assign,body,hy,hR⟩:=HY.o pre x w1 hj1 tD;obtain ⟨Ki,HR⟩:=Aj hs1 hR;clear hq1 hk1 hs1 o7 hj1 hR;go_upto_region 11 with fail;refine (Dq (n:=m)).1 ?_
  gi_wp2
  refine ⟨(fun h=>by cases h),HR.o.mono ?_⟩;rintro e w2 ⟨rfl,hj2,hkp⟩;have hs2:=Ki.o.round VG.o hkp hnW pN;have iL:AI (W.heap.size<=w2.heap.size):=AF (BF pN hkp.size);obtain ⟨HJ2,HS2⟩:=Aj hj2 hs2;obtain ⟨xn,rfl⟩:∃xn:Nat,x=xn:=⟨x.toNat,by omega⟩;have hxk:xn < k:=AG
  have hx0:(0:Int)<=(xn:Int):=AG
  have hx1:(xn:Int) < (k:Int):=AG
  have hxl:xn < us.length:=by rw [hs2.rows.len];exact hxk
  obtain ⟨v,hv⟩:∃v,us[xn]? =some v:=⟨_,BJ hxl⟩;have hrow:=(hs2.rows.row xn v hv).1;have hcell:=hs2.rows.blk.cell xn;rw [Ai,hv] at hcell;have dP:=Tk rs k xn;have hvf:∃A c,v=AA A (Bf rs k xn).length c:=by
   exact zu
  obtain ⟨A,c,rfl⟩:=hvf;obtain ⟨L,hL⟩:=BH (Bf rs k xn);obtain ⟨HL,HV⟩:=Aj hL hv;rw [hL] at dP hcell;have hLn:L.length<=1000:=AG
  have HLM:AI (∀y∈L,0<=y/\y < k):=AF (fun y hy=>ZP (rs:=rs) (k:=k) (x:=xn) (by rw [hL];exact hy));clear hj2 hkp hs2 hrow hv hL hy hxl
  gi_wp2
  go_wp2_with fail;clear hcell;obtain ⟨wz,rfl⟩:=Ab wr;go_loopg [68] L.length (fun q i wr=>∃(j:Nat) (o2 h2:AP),j<=L.length/\q=L.length - j/\i=AB AE j/\(L.take j).foldl Nw (o,h1)=(o2,h2)/\o2.length=k/\Sg n₀ B2 (W.heap.size+1+1) U O G base k us (fun x:Nat=>Bf rs k x) wr o2 h2/\J (pre++[(xn:Int)]) wr/\W.heap.size<=wr.heap.size/\(∀y∈h2,0<=y/\y < k)/\Ky o2 h2<=Ky o h1/\(∀c∈o2, -(1000*(pre.length:Int)) - j<=c/\c<=1000))
  case atStart=>exact zQ
  exact AFU
 have hkn:(k:Int) < (n:Int):=AG
 have hk0:=Int.natCast_nonneg k
 have Qf:=eN.o.below HB.o lb;have b0:=Qf.cell 0;have b1:=Qf.cell 1;simp only [Ai,An,Aw] at b0 b1;have hck:=HO.o.cell k;have hfk:=HO.o.frozen k;have hke:((IZ rs k++List.replicate (n - k) 0).map (Value.int .i64))[k]? =some (AB AE 0):=by rw [Be,Cf Y2,QA,PY,eS,Am AG];rfl
 rw [Ai,hke] at hck;have hG2:=vG.o.below HB.o;have hlook:=DH (IW underlying3) underlying204 (z:=.map none) AL hG2.o (k:Int) false;have HLV:AI (∃v,(Instr.lookup 204 (.map (some M)) (AB AE k) false).run prog wr=.ok v wr/\∀ty,(Builtin.len_ #[201] ty #[v]).run prog wr=.ok (AB AE (Bj rs k).length) wr):=AF (by
  cases hm:getM hs (k:Int) with
  |
   none=>
   rw [hm] at hlook;refine ⟨_,hlook,fun ty=> ?_⟩;have:=ABe wr ty;rw [hG2.rest _ (getM_none.1 hm)];exact this
  |
   some b=>
   rw [hm] at hlook;refine ⟨_,hlook,fun ty=> ?_⟩;have:=ABf (hG2.ins _ (Vs hm)).2.2 ty;rw [show (Ev (Bj rs (k:Int))).length=(Bj rs (k:Int)).length by simp [Ev]] at this;exact this)
 obtain ⟨v,hlv,lx⟩:=HLV.o;obtain ⟨c,hc⟩:∃c,(Bj rs (k:Int)).length=c:=⟨_,rfl⟩;have HC:=AF hc;rw [hc] at lx;clear hG2 hlook Qf hke hc;have KU:AI (AZ (wr.setCell ⟨O,k,none⟩ (AB AE c)) O 3 (((IZ rs (k+1)++List.replicate (n - (k+1)) 0).map (Value.int .i64)).toArray)):=AF (by
  have:=HO.o.put k (AB AE c);have he:(((IZ rs k++List.replicate (n - k) 0).map (Value.int .i64)).toArray).setIfInBounds k (AB AE c)=(((IZ rs (k+1)++List.replicate (n - (k+1)) 0).map (Value.int .i64)).toArray):=by rw [Ju,<-RW,X4,HC.o];congr 2;rw [Yo _ _ Y2,QA,PY,show n - k=(n - (k+1))+1 by omega,List.replicate_succ,Bp];simp
  rw [he] at this;exact this)
 have Kj:AI (FW (wr.setCell ⟨O,k,none⟩ (AB AE c)) base G (Eu rs k)):=AF (qU.o.put hOb uf _ _);have HR2:AI (DK (wr.setCell ⟨O,k,none⟩ (AB AE c)) (W.heap.size+1+1) U n us (fun x:Nat=>Bf rs n x)):=AF (HR.o.keep (fun b hb=>EB _ _ _ b (V5.o b hb).2.2.1));exact AFR
end Go.Proofs.YtpmpddfgifhlbaaGreatDoor
