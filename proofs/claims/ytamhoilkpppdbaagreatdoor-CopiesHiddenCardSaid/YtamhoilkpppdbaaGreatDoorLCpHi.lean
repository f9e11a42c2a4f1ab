import Derived.Test.YtamhoilkpppdbaaGreatDoorL18
namespace Go.Proofs.YtamhoilkpppdbaaGreatDoor
set_option maxHeartbeats 8000000
set_option maxRecDepth 100000
open Go renaming World→AH, Value→AN, Calls→AS, TypeId→Ae, Addr→Aa
open Go.Proofs.Tryz
open Go.Value renaming slice→AA, int→AB, pointer→AU, agg→AP
open Go.IntKind renaming i64→AE
open Go.Ending renaming returned→AW
open Go.Obj renaming cells→AO
open Go.Operand renaming tmp→AX
open Go.RowKit Go.Shelf
attribute [local go_sem] Oper.semAt_some
theorem sI (w:AH) (A B C D E F G:Array AN) (T1 T2 T3 T4 T5 T6 T7:Ae):∃w',w'=(((((((w.alloc (AO A T1)).alloc (AO B T2)).alloc (AO C T3)).alloc (AO D T4)).alloc (AO E T5)).alloc (AO F T6)).alloc (AO G T7))/\AY w' w.heap.size T1 A/\AY w' (w.heap.size+1) T2 B/\AY w' (w.heap.size+1+1) T3 C/\AY w' (w.heap.size+1+1+1) T4 D/\AY w' (w.heap.size+1+1+1+1) T5 E/\AY w' (w.heap.size+1+1+1+1+1) T6 F/\AY w' (w.heap.size+1+1+1+1+1+1) T7 G/\AK w w'/\w'.heap.size=w.heap.size+1+1+1+1+1+1+1:=by obtain ⟨w5,e5,k1,k2,k3,k4,k5,b5,s5⟩:=yZ w A B C D E T1 T2 T3 T4 T5;obtain ⟨k6,b6,s6⟩:=bx w5 F T6;rw [s5] at k6 b6 s6;obtain ⟨k7,b7,s7⟩:=bx (w5.alloc (AO F T6)) G T7;rw [s6] at k7 b7 s7;have vi:=b6.trans (b7.mono AG);rw [<-e5];exact ⟨_,rfl,k1.below vi AG,k2.below vi AG,k3.below vi AG,k4.below vi AG,k5.below vi AG,k6.below b7 AG,k7,b5.trans (vi.mono AG),s7⟩
theorem Ap.AJl {α:Type} {sz:Nat} {R:AH->List AN->α->Prop} {w:AH} {cs:List AN} {l:List α} (h:Ap sz R w cs l) (k:Nat) (hk:k<=l.length):Ap sz R w (cs.take (k*sz)) (l.take k):=by
 have hle:k*sz<=cs.length:=by rw [h.1];exact Kb _ hk
 refine ⟨by rw [Df,Df,NE hle,NE hk],fun i x hi=> ?_⟩;have hil:i < k:=by have:=(BF.1 hi).1;rw [Df] at this;omega
 rw [Jg hil] at hi;have h1:i*sz+sz<=k*sz:=by rw [<-KQ];exact Kb _ hil
 rw [List.drop_take,List.take_take,NE AG];exact h.2 i x hi
theorem Ap.AJ3 {α:Type} {sz:Nat} {R:AH->List AN->α->Prop} {w:AH} {cs:List AN} {l:List α} (h:Ap sz R w cs l) (k:Nat):Ap sz R w (cs.drop (k*sz)) (l.drop k):=by refine ⟨by rw [IQ,IQ,h.1,Nat.sub_mul],fun i x hi=> ?_⟩;rw [EO] at hi;rw [List.drop_drop,<-Nat.add_mul];exact h.2 _ x hi
theorem Ap.AKD {α:Type} {sz:Nat} {R:AH->List AN->α->Prop} {w:AH} {cs vs:List AN} {l:List α} (h:Ap sz R w cs l) {k:Nat} (hk:k < l.length) {x:α} (hv:vs.length=sz) (hx:R w vs x):Ap sz R w (cs.take (k*sz)++vs++cs.drop (k*sz+sz)) (l.set k x):=by rw [List.set_eq_take_append_cons_drop,Ak hk,<-KQ,show l.take k++x::l.drop (k+1)=l.take k++[x]++l.drop (k+1) by simp];exact ((h.AJl k (Nat.le_of_lt hk)).append (Ap.one hv hx)).append (h.AJ3 (k+1))
theorem dq {base:Nat} {e:Ae} {sz g n cap:Nat}:∀(vs:List AN) (o:Nat) (w:AH) (cs:List AN),w.ownsRow base e sz (AA (some ⟨g,0,none⟩) n cap) n cs->o+vs.length<=cs.length->(w.setCells g o vs).ownsRow base e sz (AA (some ⟨g,0,none⟩) n cap) n (cs.take o++vs++cs.drop (o+vs.length))
 | [],o,w,cs,h,_=>by simpa [World.setCells] using h
 |
  u::r,o,w,cs,h,hl=>by
  simp only [F6] at hl;have h2:=dq r (o+1) _ _ (h.stored o u).1 (by rw [D7];omega);rw [World.setCells];have e1:(cs.set o u).take (o+1)=cs.take o++[u]:=by
   have hlt:o < cs.length:=AG
   rw [List.set_eq_take_append_cons_drop,Ak hlt,List.take_append,C7 Ql,Df,NE AG,show o+1 - o=1 by omega];rfl
  have e2:(cs.set o u).drop (o+1+r.length)=cs.drop (o+1+r.length):=by rw [List.drop_set_of_lt AG]
  rw [e1,e2] at h2;rw [F6,show o+(r.length+1)=o+1+r.length by omega,show cs.take o++u::r=cs.take o++[u]++r by simp];exact h2
theorem pD {α:Type} {R:AH->List AN->α->Prop} (hR:∀w w' cs x,R w cs x->R w' cs x) {base:Nat} {e:Ae} {sz g n cap:Nat} {w:AH} {cs vs:List AN} {l:List α} {x:α} {k:Nat} (h:w.ownsRow base e sz (AA (some ⟨g,0,none⟩) n cap) n cs) (hc:Ap sz R w cs l) (hn:n=l.length) (hk:k < n) (hv:vs.length=sz) (hx:R w vs x):
 ∃cs',(w.setCells g (k*sz) vs).ownsRow base e sz (AA (some ⟨g,0,none⟩) n cap) n cs'/\Ap sz R (w.setCells g (k*sz) vs) cs' (l.set k x):=by
 have hle:k*sz+sz<=cs.length:=by rw [hc.1,<-KQ,<-hn];exact Kb _ hk
 have h1:=dq vs (k*sz) w cs h AG;have h2:=hc.AKD (hn ▸ hk) hv hx;rw [hv] at h1;exact ⟨_,h1,h2.1,fun i y hi=>hR _ _ _ _ (h2.2 i y hi)⟩
theorem ADa {w:AH} {g:Nat} {t:Ae} {p i:Int} {h d:AQ} {l:AN} (hb:AY w g t (Hp p i h l)) (hh:h.length=32) (hd:d.length=32):AY (w.setCells g 2 (d.map (Value.int .u8))) g t (Hp p i d l):=by
 have e:∀q:AQ,Hp p i q l=([Value.int .i64 p,AB AE i]++q.map (Value.int .u8)++[l]).toArray:=fun q=>by simp [Hp,yA]
 rw [e] at hb ⊢;have h1:=Rs (d.map (Value.int .u8)) 2 w _ hb (by simp [hh,hd]);have e2:∀q:List AN,q.length=32->([Value.int .i64 p,AB AE i]++q++[l]).take 2++d.map (Value.int .u8)++([Value.int .i64 p,AB AE i]++q++[l]).drop (2+(d.map (Value.int .u8)).length)=[Value.int .i64 p,AB AE i]++d.map (Value.int .u8)++[l]:=fun q hq=>by rw [CY,hd,List.drop_left' (by simp [hq]),Gc [Value.int .i64 p,AB AE i],List.take_left' DR]
 rw [e2 _ SA] at h1;exact h1
theorem Ly {w:AH} {g:Nat} {t:Ae} {p i:Int} {h:AQ} {l:AN} (hb:AY w g t (Hp p i h l)) (hh:h.length=32):w.cell? ⟨g,34,none⟩=some l/\w.rangeAt g 2 (h.map (Value.int .u8)):=by
 have e:Hp p i h l=([Value.int .i64 p,AB AE i]++h.map (Value.int .u8)++[l]).toArray:=by simp [Hp,yA]
 rw [e] at hb;refine ⟨by rw [hb.cell,Aj,Cj SA];simp [hh],fun j v hj=> ?_⟩;have hj2:=(BF.1 hj).1;rw [hb.cell,Aj,EB (by simp at hj2 ⊢;omega),Cj AZ];simpa using hj
theorem ADZ {p i:Int} {h:AQ} {l v:AN} (hh:h.length=32):(Hp p i h l).setIfInBounds 34 v=Hp p i h v:=by rw [Hp,Array.setIfInBounds_append_right (by simp [CJ,hh])];simp [CJ,hh,Hp]
def MkS (ns:List Nat) (ck:Int) (val:Int->Int->Int->Bool) (seed:AQ) (r:Br) (place:Int) (holder:AQ) (links:List (AQ)) (xs:Int) (vs:AQ) (q:EG) (E:Int):Prop:=
 (E=0->Eo ck (Ba ns r.schema) (val r.schema) r place links xs vs=true/\q=C9 Aw seed ((Ba ns r.schema).getD 0) r place holder links vs)/\q.holder.length=32/\∀d∈q.links,d.length=32
theorem ABw {ns:List Nat} {val:Int->Int->Int->Bool} {seed:AQ} {r:Br} {place link xs ys:Int} {h:AQ} {ls ms:List (AQ)} {vs us fs:AQ}
 (m1:Eo 0 (Ba ns r.schema) (val r.schema) r place ls xs vs=true) (m2:Eo 0 (Ba ns r.schema) (val r.schema) r place ms ys us=true)
 (hf:∀f∈fs,0<=f->f < vs.length->f < us.length->us.getD f.toNat 0=vs.getD f.toNat 0) (hl:0<=link->link < ls.length->link < ms.length->ms.getD link.toNat Gq=ls.getD link.toNat Gq):
 FS 0 (Ba ns r.schema) (C9 Aw seed ((Ba ns r.schema).getD 0) r place h ls vs) fs link=FS 0 (Ba ns r.schema) (C9 Aw seed ((Ba ns r.schema).getD 0) r place h ms us) fs link/\
 (FS 0 (Ba ns r.schema) (C9 Aw seed ((Ba ns r.schema).getD 0) r place h ls vs) fs link=0->Hx ((Ba ns r.schema).getD 0) (C9 Aw seed ((Ba ns r.schema).getD 0) r place h ls vs) fs link=Hx ((Ba ns r.schema).getD 0) (C9 Aw seed ((Ba ns r.schema).getD 0) r place h ms us) fs link):=by
 have q1:=m1;have q2:=m2;simp only [Eo,Bb,By] at q1 q2;obtain ⟨⟨⟨⟨⟨⟨_,hft⟩,_⟩,_⟩,l1⟩,_⟩,a1⟩:=q1;obtain ⟨⟨⟨⟨⟨⟨_,_⟩,_⟩,_⟩,l2⟩,_⟩,a2⟩:=q2;obtain ⟨x,hnf,_,_,_⟩:=ME hft;rw [hnf] at m1 m2 a1 a2 ⊢;simp only [Ce] at a1 a2 ⊢;simp only [Dx,Bb,By] at a1 a2;have v1:=a1.1;have v2:=a2.1;have c1:=(Fk.1 (QO (iY (H:=Aw) (seed:=seed) (holder:=h) rfl m1 _ rfl)).2).2.2;have c2:=(Fk.1 (QO (iY (H:=Aw) (seed:=seed) (holder:=h) rfl m2 _ rfl)).2).2.2;obtain ⟨c,hc⟩:=Ad (C9 Aw seed x r place h ls vs);obtain ⟨d,hd⟩:=Ad (C9 Aw seed x r place h ms us);have e1:c.values.length=x/\c.links.length=4:=by rw [hc];exact ⟨v1,l1⟩
 have e2:d.values.length=x/\d.links.length=4:=by rw [hd];exact ⟨v2,l2⟩
 have e3:c.claims.length=x+5:=by rw [hc];exact c1
 have e4:d.claims.length=x+5:=by rw [hd];exact c2
 rw [<-hc,<-hd];have eo:GI (some x) c fs link=GI (some x) d fs link:=by simp only [GI,e1.1,e1.2,e2.1,e2.2,e3,e4]
 refine ⟨by unfold FS;rw [eo],fun h0=> ?_⟩;have ho:GI (some x) c fs link=true:=by
  unfold FS at h0;rw [Ah AZ] at h0;by_cases hx:GI (some x) c fs link=true
  · exact hx
  · rw [Ah hx] at h0;cases h0
 simp only [GI,Bb,By] at ho;obtain ⟨_,⟨hi,_⟩,hk⟩:=ho;rw [hc,hd];refine wd v1 v2 l1 l2 (fun f hm=> ?_) fun h0=>⟨hk,(hl h0 AG AG).symm⟩;obtain ⟨b0,b1⟩:=QI hi f hm;exact ⟨by omega,b1,(hf f hm AG AG AG).symm⟩
structure Vj (w w5:AH) (p q:Nat) (W:AH):Prop where
 old:AK w W
 sz:w5.heap.size<=W.heap.size
 fix:∀b,b < w5.heap.size->b≠p->b≠q->W.heap[b]? =w5.heap[b]?
theorem Vj.below {w w5 W W':AH} {p q:Nat} (h:Vj w w5 p q W) (hw:w.heap.size<=w5.heap.size) (hb:AK W W'):Vj w w5 p q W':=
 ⟨h.old.trans (hb.mono (by have:=h.sz;omega)),BH h.sz hb.size,fun b h1 h2 h3=>(hb.block b (Av h1 h.sz)).trans (h.fix b h1 h2 h3)⟩
theorem Vj.grown {w w5 W W':AH} {p q:Nat} {row:Option Nat} (h:Vj w w5 p q W) (hw:w.heap.size<=w5.heap.size) (hp:w.heap.size<=p) (hq:w.heap.size<=q) (hg:W.grownBy W' row) (hr:∀r,row=some r->r=p\/r=q\/w5.heap.size<=r):Vj w w5 p q W':=by
 refine ⟨h.old.trans ⟨hg.os,hg.tape,hg.output,by have:=h.sz;have:=hg.size;omega,fun b hb=>hg.block b (by have:=h.sz;omega) fun e=> ?_⟩,BH h.sz hg.size,fun b h1 h2 h3=>(hg.block b (Av h1 h.sz) fun e=> ?_).trans (h.fix b h1 h2 h3)⟩
 ·rcases hr b e.symm with rfl | rfl | h
  · omega
  · omega
  · omega
 rcases hr b e.symm with h | h | h
 · exact h2 h
 · exact h3 h
 · omega
def Yd (w w5:AH) (p q base:Nat) (PB:Array AN) (a b c:Int) (vs fs:AQ) (UA:Option Aa) (un uc:Nat) (W:AH):Prop:=
 Vj w w5 p q W/\AY W p 39 PB/\AY W q 41 #[AB AE a,AB AE b,AB AE c,AA UA un uc]/\
 ∃cs us,W.ownsRow base 3 1 (AA UA un uc) un cs/\Ap 1 Bt W cs us/\us.length=un/\∀f∈fs,0<=f->f < vs.length->f < un->us.getD f.toNat 0=vs.getD f.toNat 0
theorem bG {w:AH} {base:Nat} {e:Ae} {sz g n cap:Nat} {cs:List AN} (h:w.ownsRow base e sz (AA (some ⟨g,0,none⟩) n cap) n cs):base<=g/\∃cur,AY w g e cur:=by
 rcases h.2 with ⟨h',_⟩ | ⟨g',cap',cur,h',hb,hg,_⟩
 · cases h'
 injection h' with h';injection h' with h';injection h' with h';subst h';exact ⟨hb,cur,hg⟩
theorem Yd.below {w w5 W W':AH} {p q base:Nat} {PB:Array AN} {a b c:Int} {vs fs:AQ} {UA:Option Aa} {un uc:Nat} (h:Yd w w5 p q base PB a b c vs fs UA un uc W) (hw:w.heap.size<=w5.heap.size) (hb:AK W W'):Yd w w5 p q base PB a b c vs fs UA un uc W':=by obtain ⟨h1,h2,h3,cs,us,ho,hc,hu,hf⟩:=h;exact ⟨h1.below hw hb,h2.below hb h2.lt,h3.below hb h3.lt,cs,us,JL ho (fun g _ hg=>hb.block g hg),⟨hc.1,hc.2⟩,hu,hf⟩
theorem Yd.skip {w w5 W:AH} {p q base j:Nat} {PB:Array AN} {a b c f:Int} {vs fs:AQ} {UA:Option Aa} {un uc:Nat} (h:Yd w w5 p q base PB a b c vs (fs.take j) UA un uc W) (hf:fs[j]? =some f) (hn:¬(0<=f/\f < vs.length/\f < un)):Yd w w5 p q base PB a b c vs (fs.take (j+1)) UA un uc W:=by
 obtain ⟨h1,h2,h3,cs,us,ho,hc,hu,hh⟩:=h;refine ⟨h1,h2,h3,cs,us,ho,hc,hu,fun x hx a1 a2 a3=> ?_⟩;rw [Pn,hf,Ka] at hx;rcases hx with hx | hx
 · exact hh x hx a1 a2 a3
 obtain rfl:x=f:=by simpa using hx
 exact absurd ⟨a1,a2,a3⟩ hn
theorem Yd.put {w w5 W:AH} {p q base j k g:Nat} {PB:Array AN} {a b c x:Int} {vs fs:AQ} {un uc:Nat} (h:Yd w w5 p q base PB a b c vs (fs.take j) (some ⟨g,0,none⟩) un uc W) (hw:w.heap.size<=w5.heap.size) (hp:w.heap.size<=p) (hq:w.heap.size<=q) (hp5:p < w5.heap.size) (hq5:q < w5.heap.size) (hB:w5.heap.size<=base)
 (hf:fs[j]? =some (k:Int)) (hk:k < un) (hx:vs[k]? =some x) (hr:FI x):Yd w w5 p q base PB a b c vs (fs.take (j+1)) (some ⟨g,0,none⟩) un uc (W.setCell ⟨g,k,none⟩ (AB AE x)):=by
 obtain ⟨h1,h2,h3,cs,us,ho,hc,hu,hh⟩:=h;obtain ⟨hg,_⟩:=bG ho;obtain ⟨cs',ho2,hc2⟩:=pD (R:=Bt) (x:=x) (vs:=[AB AE x]) (k:=k) Iw ho hc hu.symm hk rfl ⟨rfl,hr⟩;rw [Ga] at ho2 hc2;refine ⟨h1.grown hw hp hq (Dt [AB AE x] k _ (Cu W (some g))) (fun r e=>by injection e with e;omega),(C5 W ⟨g,k,none⟩ _ _ (show p≠g by omega)).trans h2,(C5 W ⟨g,k,none⟩ _ _ (show q≠g by omega)).trans h3,cs',us.set k x,ho2,hc2,by rw [D7];exact hu,fun y hy a1 a2 a3=> ?_⟩;rw [Pn,hf,Ka] at hy;have e:∀z:Nat,z < un->(us.set k x).getD z 0=if k=z then x else us.getD z 0:=fun z hz=>by
  rw [Ck,OT,Ck];split
  · rw [Ak AG];rfl
  · rfl
 rw [e y.toNat AG];split
 · next h=>rw [<-h,Ck,hx];rfl
 next h=>
 rcases hy with hy | hy
 · exact hh y hy a1 a2 a3
 obtain rfl:y=k:=by simpa using hy
 exact absurd (Cq k).symm h
theorem ADF (W:AH) (g o:Nat) (a:Option Aa) (b c:Nat) (h:W.cell? ⟨g,o,none⟩=some (AA a b c)):(Instr.loadAt 30 (AU (some ⟨g,o,none⟩))).run prog W=.ok (AA a b c) W:=by go_simp
theorem ADG (W:AH) (g o:Nat) (a:Option Aa) (b c:Nat) (h:W.cell? ⟨g,o,none⟩=some (AA a b c)):(Instr.loadAt 37 (AU (some ⟨g,o,none⟩))).run prog W=.ok (AA a b c) W:=by go_simp
theorem ABZ (W:AH) (g o:Nat) (v:AN) (x:Int) (h:W.cell? ⟨g,o,none⟩=some v) (hf:W.frozen? ⟨g,o,none⟩=false):(Instr.storeAt 3 (AU (some ⟨g,o,none⟩)) (AB AE x)).run prog W=.ok () (W.setCell ⟨g,o,none⟩ (AB AE x)):=by go_simp
def HiP (w w5:AH) (p q:Nat) (pf jt ys yp yi link:Int) (h1:AQ) (ls:List (AQ)) (us:AQ) (UA:Option Aa) (un uc:Nat) (NA:Option Aa) (mn nc:Nat) (W:AH):Prop:=
 Vj w w5 p q W/\AY W p 39 (Hp pf jt h1 (AA NA mn nc))/\AY W q 41 #[AB AE ys,AB AE yp,AB AE yi,AA UA un uc]/\Ag 1 Bt W (AA UA un uc) us/\
 ∃ms,Ag 32 CP W (AA NA mn nc) ms/\∀k:Nat,link=k->k < ls.length->k < mn->ms.getD k Gq=ls.getD k Gq
theorem ADX {w:AH} {base:Nat} {e:Ae} {sz g n cap k:Nat} {cs:List AN} {cur:Array AN} (h:w.ownsRow base e sz (AA (some ⟨g,0,none⟩) n cap) n cs) (hb:AY w g e cur) (hk:k < n):k*sz+sz<=cur.size:=by
 rcases h.2 with ⟨h',_⟩ | ⟨g',cap',cur',h',_,hg,hnc,_,hsz,_⟩
 · cases h'
 injection h' with h1 h2 h3;injection h1 with h1;injection h1 with h1;subst h1;obtain rfl:cur=cur':=by have e:=hb.symm.trans hg;injection e with e;injection e
 rw [hsz,<-KQ];exact Kb _ AG
theorem Ag.AIb {w w':AH} {row:Option Nat} {A:Option Aa} {n c:Nat} {l:AQ} (h:Ag 1 Bt w (AA A n c) l) (hg:w.grownBy w' row) (hn:row≠(Value.slice A n c).ownBlock):Ag 1 Bt w' (AA A n c) l:=by obtain ⟨A',cap,e,a1,a2,a3⟩:=h;refine ⟨A',cap,e,a1,a2,fun i x hi=> ?_⟩;obtain ⟨b,off,cs,rfl,hlt,hl,hc,hr⟩:=a3 i x hi;injection e with e;subst e;exact ⟨b,off,cs,rfl,Av hlt hg.size,hl,fun j u hu=>hg.cell (hc j u hu) (fun e=>hn e.symm),hr⟩
theorem jw (v0 v1 v3 v4 v5 v6:AN) (A:Option Aa) (n c:Nat) (ns:List Nat) (ck:Int) (val:Int->Int->Int->Bool) (seed:AQ) (r:Br) (place pe it xs xp xi:Int) (holder:AQ) (links:List (AQ)) (vs:AQ) (VA LA:Option Aa) (vn vc ln lc:Nat) (w W0:AH) (hb:AK w W0) (hs:Ag 6 Kx w (AA A n c) ns)
 (hK:PU (AP #[v0,v1,AA A n c,v3,v4,v5]) (AP #[v0,v1,AA A n c,v3,v4,v5,v6]) ck val w) (hv:Ag 1 Bt W0 (AA VA vn vc) vs) (hl:Ag 32 CP W0 (AA LA ln lc) links) (hsd:seed.length=32) (hh:holder.length=32) (hro:r.root.length=32) (LC:Cc w):
 ∃q E,MkS ns ck val seed r place holder links xs vs q E/\∀W,AK W0 W->AS prog 9 #[AP #[v0,v1,AA A n c,v3,v4,v5,v6],AP (yA seed),AP (rdA r),AB AE place,AP (Hp pe it holder (AA LA ln lc)),AP #[AB AE xs,AB AE xp,AB AE xi,AA VA vn vc]] W (Iu W q E):=by
 have h:=fun W (hW:AK W0 W)=>bL v0 v1 v3 v4 v5 v6 A n c ns ck val seed r place pe it xs xp xi holder links vs VA LA vn vc ln lc W (hs.mono Di (AV hb hW)) (hK.below (AV hb hW)) (hv.mono BT hW) (hl.mono BO hW) hsd hh hro (LC.below (AV hb hW));by_cases hm:Eo ck (Ba ns r.schema) (val r.schema) r place links xs vs=true
 ·simp only [Ak hm] at h
  exact ⟨_,0,⟨fun _=>⟨hm,rfl⟩,hh,hl.AK2⟩,h⟩
 simp only [Ah hm] at h;exact ⟨_,_,⟨(fun e=>absurd e (by unfold eD;split <;> decide)),rfl,(fun d hd=>by cases hd)⟩,h⟩
theorem ABl (v0 v1 v3 v4 v5 v6:AN) (A:Option Aa) (n c:Nat) (ns:List Nat) (val:Int->Int->Int->Bool) (seed:AQ) (r:Br) (place xs ys link:Int) (h:AQ) (ls ms:List (AQ)) (vs us fs:AQ) (FA:Option Aa) (fn fc:Nat) (w:AH) (hs:Ag 6 Kx w (AA A n c) ns)
 (hK:PU (AP #[v0,v1,AA A n c,v3,v4,v5]) (AP #[v0,v1,AA A n c,v3,v4,v5,v6]) 0 val w) (hf:Ag 1 Bt w (AA FA fn fc) fs) (hfl:fs.length<=1000) {q1 q2:EG} {E1 E2:Int} (m1:MkS ns 0 val seed r place h ls xs vs q1 E1) (m2:MkS ns 0 val seed r place h ms ys us q2 E2) (e1:E1=0) (e2:E2=0)
 (hv:∀f∈fs,0<=f->f < vs.length->f < us.length->us.getD f.toNat 0=vs.getD f.toNat 0) (hl:∀k:Nat,link=k->k < ls.length->k < ms.length->ms.getD k Gq=ls.getD k Gq):
 ∃s E,(s.holder.length=32/\s.token.length=32)/\∀(q:EG) (VA LA KA:Option Aa) (vn vc ln lc kn kc:Nat) (W0:AH),q=q1\/q=q2->AK w W0->Ag 1 Bt W0 (AA VA vn vc) q.values->Ag 32 CP W0 (AA LA ln lc) q.links->Ag 3 Cy W0 (AA KA kn kc) q.claims->
  ∀W,AK W0 W->AS prog 14 #[AP #[v0,v1,AA A n c,v3,v4,v5,v6],AP (Fo ⟨q.Ar,q.round,q.schema,q.place,q.holder,AA VA vn vc,AA LA ln lc,AA KA kn kc⟩),AA FA fn fc,AB AE link] W (NW [] W s E):=by
 obtain ⟨o1,rfl⟩:=m1.1 e1;obtain ⟨o2,rfl⟩:=m2.1 e2;obtain ⟨ho,hp⟩:=ABw (h:=h) o1 o2 hv (link:=link) (fun a b d=>hl link.toNat AG AG AG);have H:∀(q:EG) (VA LA KA:Option Aa) (vn vc ln lc kn kc:Nat) (W0:AH),(q.schema=r.schema/\q.holder.length=32)->AK w W0->Ag 1 Bt W0 (AA VA vn vc) q.values->Ag 32 CP W0 (AA LA ln lc) q.links->Ag 3 Cy W0 (AA KA kn kc) q.claims->
  ∀W,AK W0 W->AS prog 14 #[AP #[v0,v1,AA A n c,v3,v4,v5,v6],AP (Fo ⟨q.Ar,q.round,q.schema,q.place,q.holder,AA VA vn vc,AA LA ln lc,AA KA kn kc⟩),AA FA fn fc,AB AE link] W (if FS 0 (Ba ns r.schema) q fs link=0 then NW [] W (Hx ((Ba ns r.schema).getD 0) q fs link) 0 else NW [] W ML (FS 0 (Ba ns r.schema) q fs link)):=fun q VA LA KA vn vc ln lc kn kc W0 hq hb a1 a2 a3 W hW=>by
  have h2:=AV hb hW;have h:=open_any v0 v1 v3 v4 v5 v6 A n c ns 0 val q VA LA KA FA vn vc ln lc kn kc fn fc fs link [] W (hs.mono Di h2) (hK.below h2) (a1.mono BT hW) (a2.mono BO hW) ((a3.mono Bc hW).AHe JY) (hf.mono BT h2) hq.2 hfl (fun _ h=>by cases h)
  rwa [show Ba ns q.schema=Ba ns r.schema by rw [hq.1]] at h
 by_cases e:FS 0 (Ba ns r.schema) (C9 Aw seed ((Ba ns r.schema).getD 0) r place h ls vs) fs link=0
 ·refine ⟨Hx ((Ba ns r.schema).getD 0) (C9 Aw seed ((Ba ns r.schema).getD 0) r place h ls vs) fs link,0,⟨m1.2.1,AGQ m1.2.2 _ _ _⟩,fun q VA LA KA vn vc ln lc kn kc W0 hq hb a1 a2 a3 W hW=> ?_⟩
  rcases hq with rfl | rfl
  ·have h:=H _ VA LA KA vn vc ln lc kn kc W0 ⟨rfl,m1.2.1⟩ hb a1 a2 a3 W hW
   rwa [Ak e] at h
  have h:=H _ VA LA KA vn vc ln lc kn kc W0 ⟨rfl,m2.2.1⟩ hb a1 a2 a3 W hW
  rwa [Ak (ho ▸ e),<-hp e] at h
 refine ⟨ML,FS 0 (Ba ns r.schema) (C9 Aw seed ((Ba ns r.schema).getD 0) r place h ls vs) fs link,⟨rfl,rfl⟩,fun q VA LA KA vn vc ln lc kn kc W0 hq hb a1 a2 a3 W hW=> ?_⟩;rcases hq with rfl | rfl
 ·have h:=H _ VA LA KA vn vc ln lc kn kc W0 ⟨rfl,m1.2.1⟩ hb a1 a2 a3 W hW
  rwa [Ah e] at h
 have h:=H _ VA LA KA vn vc ln lc kn kc W0 ⟨rfl,m2.2.1⟩ hb a1 a2 a3 W hW;rw [<-ho] at h
 rwa [Ah e] at h
theorem pw (v0 v1 v3 v4 v5 v6:AN) (A:Option Aa) (n c:Nat) (ns:List Nat) (ck:Int) (val:Int->Int->Int->Bool) (seed:AQ) (r:Br) (place pe it pf jt xs xp xi ys yp yi link:Int) (h1 h2:AQ) (ls ms:List (AQ)) (vs us fs:AQ) (VA LA MA UA FA:Option Aa) (vn vc ln lc mn mc un uc fn fc:Nat) (w:AH) (hs:Ag 6 Kx w (AA A n c) ns)
 (hK:PU (AP #[v0,v1,AA A n c,v3,v4,v5]) (AP #[v0,v1,AA A n c,v3,v4,v5,v6]) ck val w) (hv:Ag 1 Bt w (AA VA vn vc) vs) (hl:Ag 32 CP w (AA LA ln lc) ls) (hm:Ag 32 CP w (AA MA mn mc) ms) (hu:Ag 1 Bt w (AA UA un uc) us) (hf:Ag 1 Bt w (AA FA fn fc) fs) (hun:un*8<=140737488355328) (hmn:mn*32<=140737488355328)
 (hsd:seed.length=32) (hh1:h1.length=32) (hh2:h2.length=32) (hro:r.root.length=32) (LC:Cc w)
 (hS:∀W,AK w W->AS prog 7 #[] W fun e w'=>e=AW (.bool true)/\AK W w')
 (hF:∀W,AK w W->AS prog 24 #[AP #[v0,v1,AA A n c,v3,v4,v5,v6]] W (LM W)):
 AS prog 4 #[AP #[v0,v1,AA A n c,v3,v4,v5,v6],AP (yA seed),AP (rdA r),AB AE place,AP (Hp pe it h1 (AA LA ln lc)),AP (Hp pf jt h2 (AA MA mn mc)),AP #[AB AE xs,AB AE xp,AB AE xi,AA VA vn vc],AP #[AB AE ys,AB AE yp,AB AE yi,AA UA un uc],AA FA fn fc,AB AE link] w fun e w'=>e=AW (.bool true)/\AK w w':=by
 obtain ⟨RR,hRR⟩:=Ad (rdA r);obtain ⟨OO,Oh⟩:=Ad (Hp pe it h1 (AA LA ln lc));obtain ⟨PP,RQ⟩:=Ad (Hp pf jt h2 (AA MA mn mc));obtain ⟨SD,hSD⟩:=Ad (yA seed);obtain ⟨CB,hCB⟩:=Ad (Fo ⟨0,0,0,0,zeros 32,AA VA vn vc,AA LA ln lc,AA none 0 0⟩);obtain ⟨CE,hCE⟩:=Ad (Fo ⟨0,0,0,0,zeros 32,AA UA un uc,AA MA mn mc,AA none 0 0⟩);rw [<-hRR,<-Oh,<-RQ,<-hSD];have MN:AI ((prog.info? 36).map (·.size)=some RR.size):=AF Uh;have aU:AI ((prog.info? 39).map (·.size)=some OO.size):=AF (by rw [Oh,pI hh1];kernel_rfl);have Yj:AI ((prog.info? 34).map (·.size)=some SD.size):=AF (by rw [hSD,CJ,hsd];kernel_rfl);have HBC:AI (prog.built 46 [(5,AA VA vn vc),(6,AA LA ln lc)]=some CB):=AF (by rw [hCB];exact k9 _ _ _ _ _ _);have XJ:AI (prog.built 46 [(5,AA UA un uc),(6,AA MA mn mc)]=some CE):=AF (by rw [hCE];exact k9 _ _ _ _ _ _);have aj:AI (∀W,AK w W->AS prog 8 #[AP #[v0,v1,AA A n c,v3,v4,v5,v6],.agg RR,.agg CB] W (LM W)/\AS prog 8 #[AP #[v0,v1,AA A n c,v3,v4,v5,v6],.agg RR,.agg CE] W (LM W)):=AF (fun W hW=>by
  rw [hRR,hCB,hCE];exact ⟨YK v0 v1 v3 v4 v5 v6 A n c ns r _ VA LA none vn vc ln lc 0 0 [] W (hs.mono Di hW) (fun W' hW'=>hF W' (AV hW hW')) rfl rfl rfl rfl (Ag.nil _ _ (Ay _)),
   YK v0 v1 v3 v4 v5 v6 A n c ns r _ UA MA none un uc mn mc 0 0 [] W (hs.mono Di hW) (fun W' hW'=>hF W' (AV hW hW')) rfl rfl rfl rfl (Ag.nil _ _ (Ay _))⟩)
 have Vt:AI (∀W,AK w W->AS prog 8 #[AP #[v0,v1,AA A n c,v3,v4,v5,v6],.agg RR,.agg CB] W (LM W)):=AF (fun W hW=>(aj.o W hW).1);have HF2:AI (∀W,AK w W->AS prog 8 #[AP #[v0,v1,AA A n c,v3,v4,v5,v6],.agg RR,.agg CE] W (LM W)):=AF (fun W hW=>(aj.o W hW).2);obtain ⟨RV,HS,HK,HV,HL,HM,HU,Ph,HUN,MO,PX,rU⟩:=QX hS hs hK hv hl hm hu hf hun hmn hh1 hh2;obtain ⟨AI0,Ra,I7,HRR,lZ,rF,Nd⟩:=LU hsd hro LC hRR Oh RQ hSD;clear hs hK hv hl hm hu hf hun hmn hsd hh1 hh2 hro LC hS hF hRR Oh RQ hSD hCB hCE aj;go_enter func4,ntmps4;go_upto_region 1 with fail;obtain ⟨w5,hw5,k1,k2,k3,k4,k5,k6,k7,hb5,hz5⟩:=sI w #[v0,v1,AA A n c,v3,v4,v5,v6] SD RR OO PP #[AB AE xs,AB AE xp,AB AE xi,AA VA vn vc] #[AB AE ys,AB AE yp,AB AE yi,AA UA un uc] 32 34 36 39 39 41 41;rw [<-hw5];obtain ⟨Cg,H5⟩:=Al hb5 hz5;have HE:AI (∀W,AK w5 W->(AY W w.heap.size 32 #[v0,v1,AA A n c,v3,v4,v5,v6]/\AY W (w.heap.size+1) 34 SD/\AY W (w.heap.size+1+1) 36 RR/\AY W (w.heap.size+1+1+1) 39 OO)/\AY W (w.heap.size+1+1+1+1) 39 PP/\AY W (w.heap.size+1+1+1+1+1) 41 #[AB AE xs,AB AE xp,AB AE xi,AA VA vn vc]/\AY W (w.heap.size+1+1+1+1+1+1) 41 #[AB AE ys,AB AE yp,AB AE yi,AA UA un uc]):=AF (fun W hW=>⟨⟨k1.below hW k1.lt,k2.below hW k2.lt,k3.below hW k3.lt,k4.below hW k4.lt⟩,k5.below hW k5.lt,k6.below hW k6.lt,k7.below hW k7.lt⟩);have HT:AI (∀W,AY W w.heap.size 32 #[v0,v1,AA A n c,v3,v4,v5,v6]->W.cell? ⟨w.heap.size,0,none⟩=some v0/\W.cell? ⟨w.heap.size,1,none⟩=some v1/\W.cell? ⟨w.heap.size,2,none⟩=some (AA A n c)/\W.cell? ⟨w.heap.size,3,none⟩=some v3/\W.cell? ⟨w.heap.size,4,none⟩=some v4/\W.cell? ⟨w.heap.size,5,none⟩=some v5/\W.cell? ⟨w.heap.size,6,none⟩=some v6):=AF (fun W b=>⟨b.cell 0,b.cell 1,b.cell 2,b.cell 3,b.cell 4,b.cell 5,b.cell 6⟩);clear hw5 k1 k2 k3 k4 k5 k6 k7 hb5 hz5;go_upto_region 3 with (go_at_call 7;refine (RV.o _ Cg.o).mono ?_;rintro e w6 ⟨rfl,hb⟩;have Fb:=AF hb;clear hb);have HX:AI (∀W,AK w5 W->AK w W/\W.cell? ⟨w.heap.size+1+1+1,34,none⟩=some (AA LA ln lc)/\W.cell? ⟨w.heap.size+1+1+1+1,34,none⟩=some (AA MA mn mc)/\W.cell? ⟨w.heap.size+1+1+1+1+1,3,none⟩=some (AA VA vn vc)/\W.cell? ⟨w.heap.size+1+1+1+1+1+1,3,none⟩=some (AA UA un uc)/\(Instr.loadAt 36 (AU (some ⟨w.heap.size+1+1,0,none⟩))).run prog W=.ok (.agg RR) W):=AF (fun W hW=>by obtain ⟨⟨_,_,kr,ko⟩,kp,ki,kj⟩:=HE.o W hW;have kr2:=loadRow kr underlying36 rfl MN.o;rw [lZ.o] at ko;rw [rF.o] at kp;exact ⟨AV Cg.o hW,(Ly ko PX.o).1,(Ly kp rU.o).1,ki.cell 3,kj.cell 3,kr2⟩)
 obtain ⟨d0,d1,d2,d3,d4,d5,d6⟩:=HT.o w6 (HE.o w6 Fb.o).1.1;obtain ⟨AIU,Sp,p34,i3,j3,lr⟩:=HX.o w6 Fb.o;obtain ⟨AJf,HL6⟩:=Al AIU lr;clear AIU lr;by_cases hfn:(fn:Int)<=16
 rotate_left
 ·have hfn2:(16:Int) < (fn:Int):=by omega
  go_wp2_with (first
   | (refine Az AJ 36 (AX 12) rfl _ AJ HL6.o ?_)
   | (refine IW AJ 46 #[(5,.tmp 36),(6,.tmp 38)] rfl CB (Er (congrArg (prog.built 46) AJ) HBC.o) ?_)
   | (go_at_call 8;(with_reducible refine (Vt.o _ AJf.o).mono ?_);rintro e w7 ⟨⟨b,rfl⟩,hb⟩;have D4:=AF (AV Fb.o hb);clear hb d0 d1 d2 d3 d4 d5 d6 Sp p34 i3 j3;obtain ⟨d0,d1,d2,d3,d4,d5,d6⟩:=HT.o w7 (HE.o w7 D4.o).1.1;obtain ⟨qE,Sp,p34,i3,j3,lr⟩:=HX.o w7 D4.o;have jT:=AF qE;have HL7:=AF lr;clear qE lr;cases b;case false=>(go_wp2;go_ret;exact ⟨rfl,jT.o⟩))
   | (refine Az AJ 36 (AX 12) rfl _ AJ HL7.o ?_)
   | (refine IW AJ 46 #[(5,.tmp 46),(6,.tmp 48)] rfl CE (Er (congrArg (prog.built 46) AJ) XJ.o) ?_)
   | (go_at_call 8;(with_reducible refine (HF2.o _ jT.o).mono ?_);rintro e w8 ⟨⟨b,rfl⟩,hb⟩;have IH:=AF (AV jT.o hb);clear hb d0 d1 d2 d3 d4 d5 d6 Sp p34 i3 j3;cases b;case false=>(go_wp2;go_ret;exact ⟨rfl,IH.o⟩))
   | fail)
  go_ret;exact ⟨rfl,IH.o⟩
 have hfn2:¬(16:Int) < (fn:Int):=AG
 go_upto_region 5 with (first
  | (refine Az AJ 36 (AX 12) rfl _ AJ HL6.o ?_)
  | (refine IW AJ 46 #[(5,.tmp 36),(6,.tmp 38)] rfl CB (Er (congrArg (prog.built 46) AJ) HBC.o) ?_)
  | (go_at_call 8;(with_reducible refine (Vt.o _ AJf.o).mono ?_);rintro e w7 ⟨⟨b,rfl⟩,hb⟩;have D4:=AF (AV Fb.o hb);clear hb d0 d1 d2 d3 d4 d5 d6 Sp p34 i3 j3;obtain ⟨d0,d1,d2,d3,d4,d5,d6⟩:=HT.o w7 (HE.o w7 D4.o).1.1;obtain ⟨qE,Sp,p34,i3,j3,lr⟩:=HX.o w7 D4.o;have jT:=AF qE;have HL7:=AF lr;clear qE lr;cases b;case false=>(go_wp2;go_ret;exact ⟨rfl,jT.o⟩))
  | (refine Az AJ 36 (AX 12) rfl _ AJ HL7.o ?_)
  | (refine IW AJ 46 #[(5,.tmp 46),(6,.tmp 48)] rfl CE (Er (congrArg (prog.built 46) AJ) XJ.o) ?_)
  | (go_at_call 8;(with_reducible refine (HF2.o _ jT.o).mono ?_);rintro e w8 ⟨⟨b,rfl⟩,hb⟩;have IH:=AF (AV D4.o hb);clear hb d0 d1 d2 d3 d4 d5 d6 Sp p34 i3 j3;cases b;case false=>(go_wp2;go_ret;exact ⟨rfl,AV Cg.o IH.o⟩))
  | fail)
 obtain ⟨⟨_,_,_,ko8⟩,kp8,_,_⟩:=HE.o w8 IH.o;rw [rF.o] at kp8;rw [lZ.o] at ko8;have N0:AI (w8.rangeAt (w.heap.size+1+1+1) 2 (h1.map (Value.int .u8))):=AF (Ly ko8 PX.o).2;have Tz:AI (w8.there (w.heap.size+1+1+1+1) 2 (yA h1).size):=AF (Qr kp8 (by rw [pI rU.o,CJ,PX.o];decide));have HYZ:AI ((prog.info? 34).map (·.size)=some (yA h1).size):=AF (by rw [CJ,PX.o];exact Fw);obtain ⟨HDZ,Vp⟩:=Al Fw kp8;clear kp8 ko8;go_upto_region 6 with (first
  | (refine Kj rfl 34 (AX 58) rfl (w.heap.size+1+1+1) 2 rfl h1 _ N0.o underlying34 rfl HDZ.o PX.o ?_)
  | (refine Un rfl 34 (AX 60) (AX 59) rfl (w.heap.size+1+1+1+1) 2 (yA h1) rfl rfl Tz.o HYZ.o (Kh h1) ?_)
  | fail)
 have h5:=H5.o;have hi9:Vj w w5 (w.heap.size+1+1+1+1) (w.heap.size+1+1+1+1+1+1) (w8.setCells (w.heap.size+1+1+1+1) 2 (yA h1).toList):=
  Vj.grown (W:=w8) ⟨AV Cg.o IH.o,IH.o.size,fun b hb _ _=>IH.o.block b hb⟩ AG AG AG (Dt _ _ _ (Cu _ _)) (fun r e=>by injection e with e;exact .inl e.symm)
 have kp9:AY (w8.setCells (w.heap.size+1+1+1+1) 2 (yA h1).toList) (w.heap.size+1+1+1+1) 39 (Hp pf jt h1 (AA MA mn mc)):=ADa Vp.o rU.o PX.o;have kj9:AY (w8.setCells (w.heap.size+1+1+1+1) 2 (yA h1).toList) (w.heap.size+1+1+1+1+1+1) 41 #[AB AE ys,AB AE yp,AB AE yi,AA UA un uc]:=by have hg:w8.grownBy (w8.setCells (w.heap.size+1+1+1+1) 2 (yA h1).toList) (some (w.heap.size+1+1+1+1)):=Dt _ _ _ (Cu _ _);have k:=(HE.o w8 IH.o).2.2.2;exact (hg.block _ k.lt (fun e=>by injection e with e;omega)).trans k
 generalize w8.setCells (w.heap.size+1+1+1+1) 2 (yA h1).toList=w9 at hi9 kp9 kj9 ⊢;have HG:AI (∀W,Vj w w5 (w.heap.size+1+1+1+1) (w.heap.size+1+1+1+1+1+1) W->AY W w.heap.size 32 #[v0,v1,AA A n c,v3,v4,v5,v6]/\AY W (w.heap.size+1) 34 SD/\AY W (w.heap.size+1+1) 36 RR/\AY W (w.heap.size+1+1+1) 39 OO/\AY W (w.heap.size+1+1+1+1+1) 41 #[AB AE xs,AB AE xp,AB AE xi,AA VA vn vc]):=AF (fun W hW=>by obtain ⟨⟨a1,a2,a3,a4⟩,_,a6,_⟩:=HE.o w5 (Af _ _);exact ⟨(hW.fix _ AG AG AG).trans a1,(hW.fix _ AG AG AG).trans a2,(hW.fix _ AG AG AG).trans a3,(hW.fix _ AG AG AG).trans a4,(hW.fix _ AG AG AG).trans a6⟩)
 obtain ⟨UE,HP9,HJ9⟩:=BB hi9 kp9 kj9;have j3:w9.cell? ⟨w.heap.size+1+1+1+1+1+1,3,none⟩=some (AA UA un uc):=kj9.cell 3;have AEN:(w.heap.size+1+1+1+1+1+1) < w9.heap.size:=kj9.lt;clear hi9 kp9 kj9 h5 N0 Tz HYZ Vp Vt HF2 HBC XJ HX;have Yr:AI ((Instr.loadAt 30 (AU (some ⟨w.heap.size+1+1+1+1+1+1,3,none⟩))).run prog (w9.alloc (AO #[] 3))=.ok (AA UA un uc) (w9.alloc (AO #[] 3))):=AF (ADF _ _ _ _ _ _ ((((Af w9.heap.size w9).alloc (Ac _) (AO #[] 3)).cell (p:=⟨w.heap.size+1+1+1+1+1+1,3,none⟩) AEN).trans j3));obtain ⟨i0,hi0,hz0,hz1,hz2⟩:=I8 pU;have hmx:0+un<=maxLen/\(0+un)*8<=140737488355328:=by have:=HUN.o;unfold maxLen;omega
 go_upto_region 7 with (first
  | (refine Az AJ 30 (AX 62) rfl _ AJ Yr.o ?_)
  | (
   at_builtin
   refine CQ _ rfl (AX 61) (AX 63) 30 3 rfl i0 _ 8 underlying30 hi0 hz0 hz1 hz2 rfl Ai (R:=fun _=>Bt w) (fun _=>Sy w) w9.heap.size (AA (some ⟨w9.heap.size,0,none⟩) 0 0) 0 [] rfl (Ui w9 #[] 0 (Ac _) (Ay _) rfl) UA un uc us rfl (HU.o.fix (UE.o.old.alloc UE.o.old.size _)) hmx.1 hmx.2 AZ ?_;intro v' w10 cs hcs hown hgr hat;rw [Es,IJ] at hown;obtain ⟨Ny,NZ,rfl⟩:=CG hown;have AEW:w9.grownBy w10 (some w9.heap.size):=Kl (D8 w9 (AO #[] 3) (some w9.heap.size)) hgr;have k10:AY w10 (w.heap.size+1+1+1+1+1+1) 41 #[AB AE ys,AB AE yp,AB AE yi,AA UA un uc]:=(AEW.block _ AEN (fun e=>by injection e with e;omega)).trans HJ9.o;have c3:=k10.cell 3;have f3:=k10.frozen 3;obtain ⟨AJM,AFi,AJA,AJa⟩:=CD k10 AEW hown hcs;clear AEW k10 hown hcs hgr hat)
  | fail)
 have h5:=H5.o;have AER:Vj w w5 (w.heap.size+1+1+1+1) (w.heap.size+1+1+1+1+1+1) (w10.setCell ⟨w.heap.size+1+1+1+1+1+1,3,none⟩ (AA Ny un NZ)):=by have h10:=UE.o.grown AG AG AG AFi.o (fun r e=>by injection e with e;have:=UE.o.sz;omega);exact h10.grown AG AG AG (Dt [AA Ny un NZ] 3 _ (Cu w10 (some (w.heap.size+1+1+1+1+1+1)))) (fun r e=>by injection e with e;exact .inr (.inl e.symm))
 have ADs:AY (w10.setCell ⟨w.heap.size+1+1+1+1+1+1,3,none⟩ (AA Ny un NZ)) (w.heap.size+1+1+1+1) 39 (Hp pf jt h1 (AA MA mn mc)):=
  (C5 w10 ⟨w.heap.size+1+1+1+1+1+1,3,none⟩ _ _ (show w.heap.size+1+1+1+1≠w.heap.size+1+1+1+1+1+1 by omega)).trans ((AFi.o.block _ HP9.o.lt (fun e=>by injection e with e;have:=HP9.o.lt;omega)).trans HP9.o)
 have ADu:AY (w10.setCell ⟨w.heap.size+1+1+1+1+1+1,3,none⟩ (AA Ny un NZ)) (w.heap.size+1+1+1+1+1+1) 41 #[AB AE ys,AB AE yp,AB AE yi,AA Ny un NZ]:=AJM.o.put 3 (AA Ny un NZ);have AEL:=JL (W:=w10.setCell ⟨w.heap.size+1+1+1+1+1+1,3,none⟩ (AA Ny un NZ)) AJA.o (fun g hg _=>C5 w10 ⟨w.heap.size+1+1+1+1+1+1,3,none⟩ _ _ (show g≠w.heap.size+1+1+1+1+1+1 by have:=UE.o.sz;omega));generalize w10.setCell ⟨w.heap.size+1+1+1+1+1+1,3,none⟩ (AA Ny un NZ)=JC at AER ADs ADu AEL ⊢;have HY0:AI (Yd w w5 (w.heap.size+1+1+1+1) (w.heap.size+1+1+1+1+1+1) w9.heap.size (Hp pf jt h1 (AA MA mn mc)) ys yp yi vs (fs.take 0) Ny un NZ JC):=AF ⟨AER,ADs,ADu,_,us,AEL,AJa.o,HU.o.len.symm,fun f hf=>by simp at hf⟩;have wH:=AF UE.o.sz;clear AER ADs ADu AEL h5 c3 f3 Yr AEN j3 hi0 hz0 hz1 hz2 hmx AJM AFi AJA AJa UE HP9 HJ9;go_upto_region 8 with fail;go_loopg [21] fn (fun q' i wr=>∃j:Nat,j<=fn/\q'=fn - j/\i=AB AE j/\Yd w w5 (w.heap.size+1+1+1+1) (w.heap.size+1+1+1+1+1+1) w9.heap.size (Hp pf jt h1 (AA MA mn mc)) ys yp yi vs (fs.take j) Ny un NZ wr)
 case atStart=>exact ⟨0,Ay _,rfl,rfl,HY0.o⟩
 obtain ⟨j,hj,hq,rfl,hI⟩:=hrel;obtain ⟨HQ,HI⟩:=Al hq hI;clear hq hI;by_cases hlt:j < fn
 ·obtain ⟨fb,fo,f,rfl,hfb,hf,ef,hf1,hf2⟩:=ints_at (Ph.o.mono BT HI.o.1.old) hlt
  have hj1:(j:Int) < (fn:Int):=AG
  have hj0:(0:Int)<=(j:Int):=AG
  have fT:=AF hf;clear hf;go_upto_region 11 with fail;obtain ⟨hiw,_,hky,cs,dP,ho,hc,AD9,_⟩:=HI.o;have i3:wr.cell? ⟨w.heap.size+1+1+1+1+1,3,none⟩=some (AA VA vn vc):=(HG.o wr hiw).2.2.2.2.cell 3;have j3:wr.cell? ⟨w.heap.size+1+1+1+1+1+1,3,none⟩=some (AA Ny un NZ):=hky.cell 3;have hvl:=HV.o.len;by_cases hc1:0<=f/\f < vn/\f < un
  ·obtain ⟨hf0,hfv,hfu⟩:=hc1
   obtain ⟨k,rfl⟩:∃k:Nat,f=k:=⟨f.toNat,by omega⟩;have hku:k < un:=AG
   obtain ⟨vb,vo,u,rfl,hvb,hu,eu,hu1,hu2⟩:=ints_at HV.o (show k < vn by omega);obtain ⟨g,rfl⟩:∃g,Ny=some ⟨g,0,none⟩:=by
    rcases WD ho with ⟨_,h⟩ | ⟨g,cap,h,_⟩
    · omega
    injection h with h;exact ⟨g,h⟩
   obtain ⟨hgb,cur,hcur⟩:=bG ho;obtain ⟨gb,go,y,ey,_,_,cy,_,_⟩:=ints_at (B9 ho hc AD9.symm) hku;injection ey with ey;injection ey with ey1 ey2;subst ey1 ey2;rw [Es] at cy;have hfr:=hcur.frozen k;have hz:=wH.o;have h5:=H5.o;have HEU:AI (∀W,wr.drew.grownBy W (some g)->W.cell? ⟨w.heap.size+1+1+1+1+1+1,3,none⟩=some (AA (some ⟨g,0,none⟩) un NZ)/\W.cell? ⟨w.heap.size+1+1+1+1+1,3,none⟩=some (AA (some ⟨vb,vo,none⟩) vn vc)/\W.cell? ⟨vb,vo+k,none⟩=some (AB AE u)):=AF (fun W hW=>
    ⟨hW.cell (show wr.drew.cell? _=_ from j3) (fun e=>absurd (DE e) (show w.heap.size+1+1+1+1+1+1≠g by omega)),hW.cell (show wr.drew.cell? _=_ from i3) (fun e=>absurd (DE e) (show w.heap.size+1+1+1+1+1≠g by omega)),hW.cell (show wr.drew.cell? _=_ from (hiw.old.cell (p:=⟨vb,vo+k,none⟩) hvb).trans eu) (fun e=>absurd (DE e) (show vb≠g by omega))⟩)
   obtain ⟨HU2,fV,TU⟩:=BB (And.intro hu (And.intro hu1 hu2)) (And.intro cy hfr) hgb;clear hiw hky ho hc AD9 hu hu1 hu2 cy hfr hgb hcur hvb eu hvl hz h5;go_upto_region 12 with fail;clear i3 j3;have TK:=HEU.o;have Fs:prog.follows .mixedOrders=true:=AJ
   have hS:=Cu wr.drew (some g);refine Pe (fun W=>wr.drew.grownBy W (some g)) 10 _ Fs AJ rfl ?_;refine qT 0 92 hS ?_;refine qT 1 93 hS ?_ (v:=AA (some ⟨g,0,none⟩) un NZ);refine qM 2 94 22 hS ?_;refine qT 3 95 hS ?_;refine qT 4 96 hS ?_ (v:=AA (some ⟨vb,vo,none⟩) vn vc);refine qM 5 97 22 hS ?_;refine qT 6 98 hS ?_ (v:=AU (some ⟨vb,vo+k,none⟩));refine qT 7 99 hS ?_ (v:=AB AE u);refine qT 8 100 hS ?_ (v:=AU (some ⟨g,k,none⟩));refine qS 9 3 100 99 (ABZ _ g k _ u (show wr.drew.cell? _=_ from fV.o.1) fV.o.2) (Dt [AB AE u] k _ hS) ?_;refine Ed AJ ?_ _;simp only [CZ,Ch];have hI2:=(HI.o.below Ov (Af wr.heap.size wr).drew).put (x:=u) Ov AG AG Ov Ov wH.o fT.o hku HU2.o.1 HU2.o.2;generalize wr.drew.setCell ⟨g,k,none⟩ (AB AE u)=wn at hI2 ⊢;have HI2:=AF hI2;clear hI2 hS TK;exact cZ
  have HI2:=AF (HI.o.skip fT.o (by rw [<-hvl];exact hc1));clear hiw hky ho hc AD9 hvl;by_cases hf0:0<=f
  ·by_cases hfv:f < vn
   ·have hfu:¬f < un:=fun h=>hc1 ⟨hf0,hfv,h⟩
    clear hc1;exact cZ
   clear hc1;exact cZ
  clear hc1;exact cZ
 obtain rfl:fn=j:=AG
 rw [C7 (by rw [Ph.o.len];exact Ac _)] at HI;obtain ⟨AIE,xh,AHi,csy,dP,hoy,hcy,huy,AF9⟩:=HI.o;obtain ⟨rT,AI4⟩:=Al AIE xh;have Yf:AI (Ag 1 Bt wr (AA Ny un NZ) dP):=AF (B9 hoy hcy huy.symm);have HYB:AI (∀g,wr.heap.size<=g->some g≠(Value.slice Ny un NZ).ownBlock):=AF (fun g hg e=>absurd (hoy.lt g e.symm).2 AG);obtain ⟨zZ,fN,fV,HUY,AGF⟩:=Db AHi hoy hcy huy AF9;have p34:wr.cell? ⟨w.heap.size+1+1+1+1,34,none⟩=some (AA MA mn mc):=(Ly xh PX.o).1;have yC:w.heap.size+1+1+1+1 < wr.heap.size:=xh.lt;clear AIE xh AHi hoy hcy huy AF9;have HLP:AI ((Instr.loadAt 37 (AU (some ⟨w.heap.size+1+1+1+1,34,none⟩))).run prog (wr.alloc (AO #[] 34))=.ok (AA MA mn mc) (wr.alloc (AO #[] 34))):=AF (ADG _ _ _ _ _ _ ((((Af wr.heap.size wr).alloc (Ac _) (AO #[] 34)).cell (p:=⟨w.heap.size+1+1+1+1,34,none⟩) yC).trans p34));obtain ⟨i0,hi0,hz0,hz1,hz2⟩:=I8 ACE;have hmx:0+mn<=maxLen/\(0+mn)*32<=140737488355328:=by have:=MO.o;unfold maxLen;omega
 go_upto_region 14 with (first
  | (refine Az AJ 37 (AX 102) rfl _ AJ HLP.o ?_)
  | (
   at_builtin
   refine CQ _ rfl (AX 101) (AX 103) 37 34 rfl i0 _ 32 underlying37 hi0 hz0 hz1 hz2 rfl Ai (R:=fun _=>CP w) (fun _=>TC w) wr.heap.size (AA (some ⟨wr.heap.size,0,none⟩) 0 0) 0 [] rfl (Ui wr #[] 0 (Ac _) (Ay _) rfl) MA mn mc ms rfl (HM.o.fix (rT.o.old.alloc rT.o.old.size _)) hmx.1 hmx.2 AZ ?_;intro v' EH cs hcs hown hgr hat;rw [Es,IJ] at hown;obtain ⟨NA,nc,rfl⟩:=CG hown;have AEV:wr.grownBy EH (some wr.heap.size):=Kl (D8 wr (AO #[] 34) (some wr.heap.size)) hgr;have k13:AY EH (w.heap.size+1+1+1+1) 39 (Hp pf jt h1 (AA MA mn mc)):=(AEV.block _ yC (fun e=>absurd (DE e) AG)).trans AI4.o;have c3:=(Ly k13 PX.o).1;have f3:=k13.frozen 34;obtain ⟨rS,zf,AI9,cR⟩:=CD k13 AEV hown hcs;clear AEV k13 hown hcs hgr hat)
  | fail)
 have h5:=H5.o;have RI:=rT.o.sz;have pX:=wH.o;have AEQ:Vj w w5 (w.heap.size+1+1+1+1) (w.heap.size+1+1+1+1+1+1) (EH.setCell ⟨w.heap.size+1+1+1+1,34,none⟩ (AA NA mn nc)):=by have h13:=rT.o.grown AG AG AG zf.o (fun r e=>by have e:=DE e;omega);exact h13.grown AG AG AG (Dt [AA NA mn nc] 34 _ (Cu EH (some (w.heap.size+1+1+1+1)))) (fun r e=>.inl (DE e).symm)
 have ADr:AY (EH.setCell ⟨w.heap.size+1+1+1+1,34,none⟩ (AA NA mn nc)) (w.heap.size+1+1+1+1) 39 (Hp pf jt h1 (AA NA mn nc)):=by
  have h:=rS.o.put 34 (AA NA mn nc)
  rwa [ADZ PX.o] at h
 have ADt:AY (EH.setCell ⟨w.heap.size+1+1+1+1,34,none⟩ (AA NA mn nc)) (w.heap.size+1+1+1+1+1+1) 41 #[AB AE ys,AB AE yp,AB AE yi,AA Ny un NZ]:=
  (C5 EH ⟨w.heap.size+1+1+1+1,34,none⟩ _ _ (show w.heap.size+1+1+1+1+1+1≠w.heap.size+1+1+1+1 by omega)).trans ((zf.o.block _ zZ.o.lt (fun e=>absurd (DE e) (by have:=zZ.o.lt;omega))).trans zZ.o)
 have AD8:Ag 1 Bt (EH.setCell ⟨w.heap.size+1+1+1+1,34,none⟩ (AA NA mn nc)) (AA Ny un NZ) dP:=B9 (JL fN.o (fun g hg hg2=>(C5 EH ⟨w.heap.size+1+1+1+1,34,none⟩ _ _ (show g≠w.heap.size+1+1+1+1 by omega)).trans (zf.o.block g hg2 (fun e=>absurd (DE e) AG)))) ⟨fV.o.1,fV.o.2⟩ HUY.o.symm;have AEK:=JL (W:=EH.setCell ⟨w.heap.size+1+1+1+1,34,none⟩ (AA NA mn nc)) AI9.o (fun g hg _=>C5 EH ⟨w.heap.size+1+1+1+1,34,none⟩ _ _ (show g≠w.heap.size+1+1+1+1 by omega));generalize EH.setCell ⟨w.heap.size+1+1+1+1,34,none⟩ (AA NA mn nc)=If at AEQ ADr ADt AD8 AEK ⊢;obtain ⟨jQ,jL,zY,AFT,rM⟩:=Db AEQ ADr ADt AD8 AEK;have AFp:AI (Ap 32 CP If cs ms):=AF ⟨cR.o.1,cR.o.2⟩;obtain ⟨zU,ALg,cK⟩:=BB HM.o.len HL.o.len RI;clear AEQ ADr ADt AD8 AEK h5 RI pX c3 f3 HLP yC p34 hi0 hz0 hz1 hz2 hmx rS zf AI9 cR fN fV rT AI4 zZ Yf HY0;have Sp:If.cell? ⟨w.heap.size+1+1+1,34,none⟩=some (AA LA ln lc):=by have k:=(HG.o If jQ.o).2.2.2.1;rw [lZ.o] at k;exact (Ly k PX.o).1
 have p34:If.cell? ⟨w.heap.size+1+1+1+1,34,none⟩=some (AA NA mn nc):=(Ly jL.o PX.o).1;go_cut [121] from 106 to 121 (fun t wx=>t=.bool (decide (0<=link/\link < mn/\link < ln))/\wx=If)
 case first=>
  by_cases hf0:0<=link
  ·by_cases hfm:link < mn
   ·by_cases hfl:link < ln
    ·go_wp2
     go_meet
     case rel=>exact ⟨congrArg Value.bool (Bk (p:=0<=link/\link < mn/\link < ln) ⟨hf0,hfm,hfl⟩).symm,rfl⟩
    go_wp2
    go_meet
    case rel=>exact ⟨congrArg Value.bool (BS (p:=0<=link/\link < mn/\link < ln) (fun h=>absurd h.2.2 AG)).symm,rfl⟩
   go_wp2
   go_meet
   case rel=>exact ⟨congrArg Value.bool (BS (p:=0<=link/\link < mn/\link < ln) (fun h=>absurd h.2.1 AG)).symm,rfl⟩
  go_wp2
  go_meet
  case rel=>exact ⟨congrArg Value.bool (BS (p:=0<=link/\link < mn/\link < ln) (fun h=>absurd h.1 AG)).symm,rfl⟩
 obtain ⟨rfl,rfl⟩:=hcut;clear Sp p34
 go_upto_if 121 with fail
 go_cut [121] from 122 to 130 (fun _ wx=>HiP w w5 (w.heap.size+1+1+1+1) (w.heap.size+1+1+1+1+1+1) pf jt ys yp yi link h1 ls dP Ny un NZ NA mn nc wx)
 case first=>
  have Sp:wc.cell? ⟨w.heap.size+1+1+1,34,none⟩=some (AA LA ln lc):=by have k:=(HG.o wc jQ.o).2.2.2.1;rw [lZ.o] at k;exact (Ly k PX.o).1
  have p34:wc.cell? ⟨w.heap.size+1+1+1+1,34,none⟩=some (AA NA mn nc):=(Ly jL.o PX.o).1;by_cases hc1:0<=link/\link < mn/\link < ln
  ·have hdt:=Bk hc1
   rw [hdt];obtain ⟨hf0,hfm,hfl⟩:=hc1;obtain ⟨k,rfl⟩:∃k:Nat,link=k:=⟨link.toNat,by omega⟩;have hkm:k < mn:=AG
   have hkl:k < ln:=AG
   obtain ⟨lb,lo,d,dcs,rfl,hlb,hd,hlen,hdc,rfl,hdl⟩:=HL.o.at_ hkl;obtain ⟨g,rfl⟩:∃g,NA=some ⟨g,0,none⟩:=by
    rcases WD rM.o with ⟨_,h⟩ | ⟨g,cap,h,_⟩
    · omega
    injection h with h;exact ⟨g,h⟩
   obtain ⟨hgb,cur,hcur⟩:=bG rM.o;have h5:=H5.o;have RI:=cK.o;have pX:=wH.o;have N0:AI (∀W,wc.drew.grownBy W (some g)->(W.cell? ⟨w.heap.size+1+1+1+1,34,none⟩=some (AA (some ⟨g,0,none⟩) mn nc)/\W.cell? ⟨w.heap.size+1+1+1,34,none⟩=some (AA (some ⟨lb,lo,none⟩) ln lc))/\W.rangeAt lb (lo+k*32) (d.map (Value.int .u8))):=AF (fun W hW=>
    ⟨⟨hW.cell (show wc.drew.cell? _=_ from p34) (fun e=>absurd (DE e) (show w.heap.size+1+1+1+1≠g by omega)),hW.cell (show wc.drew.cell? _=_ from Sp) (fun e=>absurd (DE e) (show w.heap.size+1+1+1≠g by omega))⟩,fun j' v hv=>hW.cell (show wc.drew.cell? ⟨lb,lo+k*32+j',none⟩=_ from (jQ.o.old.cell (p:=⟨lb,lo+k*32+j',none⟩) hlb).trans (by have:=hdc j' v hv;rwa [<-Ji] at this)) (fun e=>absurd (DE e) (show lb≠g by omega))⟩)
   have hown:=rM.o;have AEc:Ap 32 CP wc cs ms:=AFp.o;obtain ⟨cs',ho2,hc2⟩:=pD (w:=wc.drew) (R:=CP) (x:=d) (vs:=(yA d).toList) (k:=k) Iw (JL hown (fun _ _ _=>rfl)) ⟨AEc.1,AEc.2⟩ zU.o hkm (by show (d.map (Value.int .u8)).length=32;rw [CY,hdl]) ⟨rfl,hdl⟩;have htr:wc.drew.there g (k*32) 32:=Qr (show AY wc.drew g 34 cur from hcur) (ADX hown hcur hkm);obtain ⟨HD,ET,HTR,Cd,Q9⟩:=Db hd hdl htr Fw (And.intro ho2 hc2);clear hdt hd hdl hdc hlb htr ho2 hc2 AEc hown hcur pX RI h5 hlen;go_upto_region 15 with fail;clear Sp p34;have TK:=fun W hW=>(N0.o W hW).1;have Fs:prog.follows .mixedOrders=true:=AJ
   have hS:=Cu wc.drew (some g);refine Pe (fun W=>wc.drew.grownBy W (some g)) 10 _ Fs AJ rfl ?_;refine qT 0 122 hS ?_;refine qT 1 123 hS ?_ (v:=AA (some ⟨g,0,none⟩) mn nc);refine qM 2 124 9 hS ?_;refine qT 3 125 hS ?_;refine qT 4 126 hS ?_ (v:=AA (some ⟨lb,lo,none⟩) ln lc);refine qM 5 127 9 hS ?_;refine qT 6 128 hS ?_ (v:=AU (some ⟨lb,lo+k*32,none⟩));refine qT 7 129 hS ?_ (v:=AP (yA d)) (hv:=fun W hW=>Cv rfl AJ (Ei _ (lo+k*32) ET.o (N0.o W hW).2));refine qT 8 130 hS ?_ (v:=AU (some ⟨g,k*32,none⟩));refine rgS 9 34 (AX 130) (AX 129) g (k*32) (yA d) AJ rfl rfl rfl rfl AJ AJ (n:=32) (by rw [CJ,ET.o]) HTR.o Cd.o (Kh d) (Dt _ _ _ hS) ?_;refine Ed AJ ?_ _;simp only [CZ,Ch];have hg:wc.grownBy (wc.drew.setCells g (k*32) (yA d).toList) (some g):=Dt _ _ _ (Kl (Lc (Af wc.heap.size wc).drew (some g)) (Cu wc.drew (some g)));have hP:HiP w w5 (w.heap.size+1+1+1+1) (w.heap.size+1+1+1+1+1+1) pf jt ys yp yi k h1 ls dP Ny un NZ (some ⟨g,0,none⟩) mn nc (wc.drew.setCells g (k*32) (yA d).toList):=by
    have h5:=H5.o;have RI:=cK.o;have pX:=wH.o;refine ⟨jQ.o.grown AG AG AG hg (fun r e=>by have e:=DE e;omega),(hg.block _ jL.o.lt (fun e=>absurd (DE e) AG)).trans jL.o,(hg.block _ zY.o.lt (fun e=>absurd (DE e) AG)).trans zY.o,AFT.o.AIb hg (HYB.o g AG),_,B9 Q9.o.1 Q9.o.2 (by rw [D7];exact zU.o),fun k' e h1 h2=> ?_⟩;obtain rfl:k=k':=AG
    rw [Ck,OT,Ak rfl,Ak (by rw [<-zU.o];exact h2),Ck,HD.o]
   generalize wc.drew.setCells g (k*32) (yA d).toList=Hn at hP ⊢;have AFZ:=AF hP;clear hP hg hS TK;go_wp2
   go_meet
   case rel=>exact AFZ.o
  have AFZ:AI (HiP w w5 (w.heap.size+1+1+1+1) (w.heap.size+1+1+1+1+1+1) pf jt ys yp yi link h1 ls dP Ny un NZ NA mn nc wc):=AF ⟨jQ.o,jL.o,zY.o,AFT.o,ms,B9 rM.o AFp.o zU.o,fun k e h1 h2=>absurd (show 0<=link/\link < mn/\link < ln by have:=ALg.o;omega) hc1⟩;rw [BS hc1];clear hc1;go_wp2
  go_meet
  case rel=>exact AFZ.o
 clear jQ jL zY AFT rM AFp cK wH HUN MO HM HU;obtain ⟨hi,hp,hj,hy,ms2,hm2,hl2⟩:=hcut;obtain ⟨PQ,hPQ⟩:=Ad (Hp pf jt h1 (AA NA mn nc));rw [<-hPQ] at hp;have Pg:AI (∀W,AK wc W->((Instr.loadAt 32 (AU (some ⟨w.heap.size,0,none⟩))).run prog W=.ok (AP #[v0,v1,AA A n c,v3,v4,v5,v6]) W)/\((Instr.loadAt 34 (AU (some ⟨w.heap.size+1,0,none⟩))).run prog W=.ok (.agg SD) W)/\((Instr.loadAt 36 (AU (some ⟨w.heap.size+1+1,0,none⟩))).run prog W=.ok (.agg RR) W)/\((Instr.loadAt 39 (AU (some ⟨w.heap.size+1+1+1,0,none⟩))).run prog W=.ok (.agg OO) W)/\((Instr.loadAt 41 (AU (some ⟨w.heap.size+1+1+1+1+1,0,none⟩))).run prog W=.ok (AP #[AB AE xs,AB AE xp,AB AE xi,AA VA vn vc]) W)/\((Instr.loadAt 39 (AU (some ⟨w.heap.size+1+1+1+1,0,none⟩))).run prog W=.ok (.agg PQ) W)/\((Instr.loadAt 41 (AU (some ⟨w.heap.size+1+1+1+1+1+1,0,none⟩))).run prog W=.ok (AP #[AB AE ys,AB AE yp,AB AE yi,AA Ny un NZ]) W)):=AF (fun W hW=>by obtain ⟨a1,a2,a3,a4,a5⟩:=HG.o W (hi.below Ov hW);have a6:=hp.below hW hp.lt;have a7:=hj.below hW hj.lt;exact ⟨loadRow a1 underlying32 rfl AJ,loadRow a2 underlying34 rfl Yj.o,loadRow a3 underlying36 rfl MN.o,loadRow a4 underlying39 rfl aU.o,loadRow a5 underlying41 rfl AJ,loadRow a6 underlying39 rfl (by rw [hPQ,pI PX.o];kernel_rfl),loadRow a7 underlying41 rfl AJ⟩)
 obtain ⟨q1,E1,hm1,hk1⟩:=jw v0 v1 v3 v4 v5 v6 A n c ns ck val seed r place pe it xs xp xi h1 ls vs VA LA vn vc ln lc w wc hi.old HS.o HK.o (HV.o.mono BT hi.old) (HL.o.mono BO hi.old) AI0.o PX.o Ra.o I7.o;obtain ⟨q2,E2,hn2,hk2⟩:=jw v0 v1 v3 v4 v5 v6 A n c ns ck val seed r place pf jt ys yp yi h1 ms2 dP Ny NA un NZ mn nc w wc hi.old HS.o HK.o hy hm2 AI0.o PX.o Ra.o I7.o;rw [<-Nd.o,<-HRR.o,<-lZ.o] at hk1;rw [<-Nd.o,<-HRR.o,<-hPQ] at hk2;have HOLD:=AF hi.old;have XC:AI (dP.length=un/\ms2.length=mn):=AF ⟨hy.len.symm,hm2.len.symm⟩;obtain ⟨HL2,LI,Q9,MP,FC,wG⟩:=Fg hl2 hm1 hn2 hk1 hk2 (Pg.o wc (Af _ _));clear hi hp hj hy hm2 hl2 hPQ hm1 hn2 hk1 hk2;go_upto_region 17 with (first
  | (refine Az AJ 32 (AX 10) rfl _ AJ wG.o.1 ?_)
  | (refine Az AJ 34 (AX 11) rfl _ AJ wG.o.2.1 ?_)
  | (refine Az AJ 36 (AX 12) rfl _ AJ wG.o.2.2.1 ?_)
  | (refine Az AJ 39 (AX 14) rfl _ AJ wG.o.2.2.2.1 ?_)
  | (refine Az AJ 41 (AX 16) rfl _ AJ wG.o.2.2.2.2.1 ?_)
  | (
   go_at_call 9
   (with_reducible refine (MP.o _ (Af _ _)).mono ?_)
   rintro e Hn ⟨YA,yn,yc,YB,zn,zc,YC,an,ac,rfl,s1,s2,s3,hb⟩;obtain ⟨C1,hC1⟩:=Ad (Fo ⟨q1.Ar,q1.round,q1.schema,q1.place,q1.holder,AA YA yn yc,AA YB zn zc,AA YC an ac⟩);rw [<-hC1];have AJY:AI (C1.size=39):=AF (by rw [hC1];exact Jw LI.o.2.1);have ALu:AI (C1.all (·.oneCell')=true):=AF (by rw [hC1];exact QN rfl rfl rfl);obtain ⟨cV,LG,HS2,LD,J7⟩:=Db hb (s1.MK Ju) (s2.MK S8) (s3.MK Mu) hC1;clear s1 s2 s3 hb hC1)
  | (refine FE 46 23 139 39 C1 AJY.o ALu.o rfl ?_)
  | fail)
 obtain ⟨k16,b16,s16⟩:=bx Hn C1 46;generalize (Hn.alloc (AO C1 46))=w16 at k16 b16 s16 ⊢;obtain ⟨g1,hg1⟩:=Ad Hn.heap.size;rw [<-hg1] at k16 s16 ⊢;have hb16:AK wc w16:=AV cV.o b16;obtain ⟨Uf,AJL,ALG,HA1⟩:=CD hb16 k16 b16 (Pg.o w16 hb16);clear k16 b16 s16 hg1 hb16;go_upto_region 18 with (first
  | (refine Az AJ 32 (AX 10) rfl _ AJ HA1.o.1 ?_)
  | (refine Az AJ 34 (AX 11) rfl _ AJ HA1.o.2.1 ?_)
  | (refine Az AJ 36 (AX 12) rfl _ AJ HA1.o.2.2.1 ?_)
  | (refine Az AJ 39 (AX 15) rfl _ AJ HA1.o.2.2.2.2.2.1 ?_)
  | (refine Az AJ 41 (AX 17) rfl _ AJ HA1.o.2.2.2.2.2.2 ?_)
  | (
   go_at_call 9
   (with_reducible refine (FC.o _ Uf.o).mono ?_)
   rintro e Td ⟨ZA,bn,bc,ZB,dn,dc,ZC,en,ec,rfl,s1,s2,s3,hb⟩;obtain ⟨C2,hC2⟩:=Ad (Fo ⟨q2.Ar,q2.round,q2.schema,q2.place,q2.holder,AA ZA bn bc,AA ZB dn dc,AA ZC en ec⟩);rw [<-hC2];have zj:AI (C2.size=39):=AF (by rw [hC2];exact Jw Q9.o.2.1);have AFm:AI (C2.all (·.oneCell')=true):=AF tg;obtain ⟨RL,HT1,HT2,HT3,HC2⟩:=Db hb (s1.MK Ju) (s2.MK S8) (s3.MK Mu) hC2;clear s1 s2 s3 hb hC2)
  | (refine FE 46 25 149 39 C2 zj.o AFm.o rfl ?_)
  | fail)
 obtain ⟨k18,b18,jk⟩:=bx Td C2 46;generalize (Td.alloc (AO C2 46))=H9 at k18 b18 jk ⊢;obtain ⟨g2,hg2⟩:=Ad Td.heap.size;rw [<-hg2] at k18 jk ⊢;have UT:AK w16 H9:=AV RL.o b18;have AJX:=AF UT;have hc18:AK wc H9:=AV Uf.o UT;obtain ⟨Pc,AJK,AFU,rC⟩:=CD hc18 k18 b18 (AV HOLD.o hc18);clear k18 b18 jk hg2 UT hc18;by_cases hE1:E1=0
 rotate_left
 ·have hne:(E1==0)=false:=Hf hE1
  go_wp2;go_ret;exact ⟨rfl,rC.o⟩
 by_cases hE2:E2=0
 rotate_left
 ·have hne:(E2==0)=false:=Hf hE2
  subst hE1;go_wp2;go_ret;exact ⟨rfl,rC.o⟩
 subst hE1;subst hE2;obtain rfl:ck=0:=by have h:=(LI.o.1 rfl).1;simp only [Eo,Bb,By] at h;exact h.1.1.1.1.1.1
 obtain ⟨s0,F0,hs0,hop⟩:=ABl v0 v1 v3 v4 v5 v6 A n c ns val seed r place xs ys link h1 ls ms2 vs dP fs FA fn fc w HS.o HK.o Ph.o (by rw [<-Ph.o.len];omega) LI.o Q9.o rfl rfl (fun f hf a b d=>AGF.o f hf a b (by rw [XC.o.1] at d;exact d)) (fun k e a b=>HL2.o k e a (by rw [XC.o.2] at b;exact b));have IG:AI (∀W,AK H9 W->AS prog 14 #[AP #[v0,v1,AA A n c,v3,v4,v5,v6],.agg C1,AA FA fn fc,AB AE link] W (NW [] W s0 F0)):=AF (fun W hW=>by rw [J7.o];have hx:AK Hn H9:=AV ALG.o AJX.o;exact hop q1 YA YB YC yn yc zn zc an ac H9 (.inl rfl) rC.o (LG.o.mono BT hx) (HS2.o.mono BO hx) (LD.o.mono Bc hx) W hW)
 have Jz:AI (∀W,AK H9 W->AS prog 14 #[AP #[v0,v1,AA A n c,v3,v4,v5,v6],.agg C2,AA FA fn fc,AB AE link] W (NW [] W s0 F0)):=AF (fun W hW=>by rw [HC2.o];exact hop q2 ZA ZB ZC bn bc dn dc en ec H9 (.inr rfl) rC.o (HT1.o.mono BT AFU.o) (HT2.o.mono BO AFU.o) (HT3.o.mono Bc AFU.o) W hW)
 have aX:AI (∀W,AK H9 W->((Instr.loadAt 32 (AU (some ⟨w.heap.size,0,none⟩))).run prog W=.ok (AP #[v0,v1,AA A n c,v3,v4,v5,v6]) W)/\((Instr.loadAt 46 (AU (some ⟨g1,0,none⟩))).run prog W=.ok (.agg C1) W)/\((Instr.loadAt 46 (AU (some ⟨g2,0,none⟩))).run prog W=.ok (.agg C2) W)):=AF (fun W hW=>⟨(Pg.o W (AV Pc.o hW)).1,loadRow (AJL.o.below (AV AJX.o hW) AJL.o.lt) underlying46 rfl (by rw [AJY.o];kernel_rfl),loadRow (AJK.o.below hW AJK.o.lt) underlying46 rfl (by rw [zj.o];kernel_rfl)⟩);obtain ⟨RW,AJV⟩:=Al hs0 (aX.o H9 (Af _ _));clear hop hs0 MP FC wG HA1 LI Q9 HL2 AGF;go_upto_region 21 with (first
  | (refine Az AJ 32 (AX 10) rfl _ AJ AJV.o.1 ?_)
  | (refine Az AJ 46 (AX 23) rfl _ AJ AJV.o.2.1 ?_)
  | (
   go_at_call 14
   (with_reducible refine (IG.o _ (Af _ _)).mono ?_)
   rintro e Z4 ⟨F1,f1n,f1c,U1,u1n,u1c,X1,x1n,x1c,rfl,s1,s2,s3,hb⟩;obtain ⟨SS,hSS⟩:=Ad (Em ⟨s0.Ar,s0.round,s0.schema,s0.place,s0.holder,AA F1 f1n f1c,AA U1 u1n u1c,s0.link,s0.token,AA X1 x1n x1c,undef,undef,0,0⟩);rw [<-hSS];have cM:AI (SS.size=72):=AF (by rw [hSS];exact G0 RW.o.1 RW.o.2);have aS:AI (SS.all (·.oneCell')=true):=AF gV;obtain ⟨rG,HP2,HP3,Wc,AFX⟩:=Db (s1.MK Ju) (s2.MK Ju) (s3.MK Mu) hb hSS;clear s1 s2 s3 hb hSS)
  | (refine FE 57 27 163 72 SS cM.o aS.o rfl ?_)
  | fail)
 obtain ⟨k20,b20,s20⟩:=bx Z4 SS 57;generalize (Z4.alloc (AO SS 57))=dO at k20 b20 s20 ⊢;obtain ⟨g3,hg3⟩:=Ad Z4.heap.size;rw [<-hg3] at k20 s20 ⊢;have AEf:AK H9 dO:=AV Wc.o b20;obtain ⟨Ue,AJJ,ALF,AJU⟩:=CD AEf k20 b20 (aX.o dO AEf);clear k20 b20 s20 hg3 AEf;go_upto_region 22 with (first
  | (refine Az AJ 32 (AX 10) rfl _ AJ AJU.o.1 ?_)
  | (refine Az AJ 46 (AX 25) rfl _ AJ AJU.o.2.2 ?_)
  | (
   go_at_call 14
   (with_reducible refine (Jz.o _ Ue.o).mono ?_)
   rintro e oF ⟨F2,f2n,f2c,U2,u2n,u2c,X2,x2n,x2c,rfl,s1,s2,s3,hb⟩;obtain ⟨SU,hSU⟩:=Ad (Em ⟨s0.Ar,s0.round,s0.schema,s0.place,s0.holder,AA F2 f2n f2c,AA U2 u2n u2c,s0.link,s0.token,AA X2 x2n x2c,undef,undef,0,0⟩);rw [<-hSU];have AIw:AI (SU.size=72):=AF (by rw [hSU];exact G0 RW.o.1 RW.o.2);have HUO:AI (SU.all (·.oneCell')=true):=AF (by rw [hSU];exact SF rfl rfl rfl);obtain ⟨HR1,HR2,HR3,cT,ALN⟩:=Db (s1.MK Ju) (s2.MK Ju) (s3.MK Mu) hb hSU;clear s1 s2 s3 hb hSU)
  | (refine FE 57 29 171 72 SU AIw.o HUO.o rfl ?_)
  | fail)
 obtain ⟨k22,b22,s22⟩:=bx oF SU 57;generalize (oF.alloc (AO SU 57))=jW at k22 b22 s22 ⊢;obtain ⟨g4,hg4⟩:=Ad oF.heap.size;rw [<-hg4] at k22 s22 ⊢;have yK:AK dO jW:=AV cT.o b22;have AJI:=AF (And.intro (loadRow (AJJ.o.below yK AJJ.o.lt) underlying57 rfl (by rw [cM.o];kernel_rfl)) (loadRow k22 underlying57 rfl (by rw [AIw.o];kernel_rfl)));have xt:AK Z4 jW:=AV ALF.o yK;have vr:AI (AS prog 16 #[.agg SS,.agg SU] jW fun e w'=>e=AW (.bool true)/\AK jW w'):=AF (by rw [AFX.o,ALN.o];exact oU s0 F1 f1n f1c U1 u1n u1c X1 x1n x1c F2 f2n f2c U2 u2n u2c X2 x2n x2c jW RW.o.1 RW.o.2 (rG.o.mono BT xt) (HP2.o.mono BT xt) (HP3.o.mono Bc xt) (HR1.o.mono BT b22) (HR2.o.mono BT b22) (HR3.o.mono Bc b22))
 have ALI:=AF (AV rC.o (AV Ue.o yK));clear k22 b22 s22 hg4 yK xt;go_wp2_with (first
  | (refine Az AJ 57 (AX 27) rfl _ AJ AJI.o.1 ?_)
  | (refine Az AJ 57 (AX 29) rfl _ AJ AJI.o.2 ?_)
  | (go_at_call 16;(with_reducible refine vr.o.mono ?_);rintro e w23 ⟨rfl,hb⟩;have rk:=AF (AV ALI.o hb);clear hb)
  | fail)
 go_ret;exact ⟨rfl,rk.o⟩
end Go.Proofs.YtamhoilkpppdbaaGreatDoor
