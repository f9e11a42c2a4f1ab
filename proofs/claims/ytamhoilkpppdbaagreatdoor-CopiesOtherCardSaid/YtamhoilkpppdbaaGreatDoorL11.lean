import Derived.Test.YtamhoilkpppdbaaGreatDoorL10
namespace Go.Proofs.YtamhoilkpppdbaaGreatDoor
set_option maxHeartbeats 8000000
set_option maxRecDepth 100000
open Go renaming World→AH, Value→AN, Calls→AS
open Go.Proofs.Tryz
open Go.Value renaming slice→AA, int→AB, pointer→AU, agg→AP
open Go.IntKind renaming i64→AE
open Go.Ending renaming returned→AW
open Go.Obj renaming cells→AO
open Go.RowKit Go.Shelf
attribute [local go_sem] Oper.semAt_some
theorem Ag.heap {α:Type} {sz:Nat} {R:AH->List AN->α->Prop} (hR:∀w w' cs x,R w cs x->R w' cs x) {w W:AH} {v:AN} {l:List α} (h:Ag sz R w v l) (hb:∀b,b < w.heap.size->W.heap[b]? =w.heap[b]?) (hs:w.heap.size<=W.heap.size):Ag sz R W v l:=by obtain ⟨A,cap,e,h1,h2,h3⟩:=h;refine ⟨A,cap,e,h1,h2,fun i x hi=> ?_⟩;obtain ⟨b,off,cs,rfl,hlt,hl,hc,hr⟩:=h3 i x hi;exact ⟨b,off,cs,rfl,Av hlt hs,hl,fun j u hu=>(Ke (hb b hlt)).trans (hc j u hu),hR _ _ _ _ hr⟩
theorem KX.put {n e g l:Nat} (W:AH) (o:Obj) (hn:n<=l) (hg:g < l):KX n e g W (W.putObj l o):=
 ⟨by simp [World.putObj],fun b h1 _=>World.putObj_heap_other AG,World.putObj_heap_other AG,fun t=>Mr (World.putObj_heap_other AG) (by simp [World.putObj]) t⟩
theorem KX.book {n k e g:Nat} {w A C:AH} (h:KX n e g w A) (b:Book k A C) (hn:n<=k) (hg:g < k) (hk:0 < k):KX n e g w C:=
 ⟨BH h.size b.size,fun i h1 h2=>(b.block i AG).trans (h.same i h1 h2),(b.block g hg).trans h.box,fun t=>Mr (b.block 0 hk) b.size (h.tab t)⟩
theorem KX.V7 {n e g:Nat} {A C:AH} (h:KX n e g A C) (o:Nat) (v:AN) (hg:e≠g) (h0:e≠0):KX n e g A (C.setCell ⟨e,o,none⟩ v):=
 ⟨by simpa [World.setCell] using h.size,fun b h1 h2=>(C5 C _ v b (fun x=>h2 x)).trans (h.same b h1 h2),(C5 C _ v g (fun x=>hg x.symm)).trans h.box,fun t=>Mr (C5 C _ v 0 (fun x=>h0 x.symm)) (by simp [World.setCell]) (h.tab t)⟩
def AJi (k:Int) (e:Ending):Prop:=(k=0/\∃v,e=AW v)\/(k≠0/\e=.panicked (Hk k))
theorem j5 {root:AQ} {many:Int} {ms:List (Int×AQ)} {cs:List Cn} {j:Nat} {m:Int×AQ} {q:Cn} (h1:ms[j]? =some m) (h2:cs[j]? =some q) (h:¬q.index=m.1):JG Aw root many ms cs=190:=by unfold JG;rw [Ah];intro e;unfold eH at e;rw [DM] at e;have:=e (m,q) (Cr (i:=j) uU);exact h (F4 this)
theorem wN {root:AQ} {many:Int} {ms:List (Int×AQ)} {cs:List Cn} {j:Nat} {m:Int×AQ} {q:Cn} (hi:∀(j:Nat) (m:Int×AQ) (q:Cn),ms[j]? =some m->cs[j]? =some q->q.index=m.1) (h1:ms[j]? =some m) (h2:cs[j]? =some q) (h:¬Fi Aw root many m.2 q=true):JG Aw root many ms cs=60:=by
 unfold JG;rw [Ak,Ah]
 ·intro e
  unfold zF at e;rw [DM] at e;exact h (e (m,q) (Cr (i:=j) uU))
 unfold eH;rw [DM];rintro ⟨m,q⟩ hp;obtain ⟨j,hj,e⟩:=ZJ hp;have e2:(ms.zip cs)[j]? =some (m,q):=by rw [BN hj,e]
 rw [JA] at e2;exact Bk (hi j m q e2.1 e2.2)
theorem qZ (h:AQ):∀i,∀x∈Nj h i,0<=x/\x < 256
 |
  0,x,hx=>by
  rw [Nj,zeros,List.mem_replicate] at hx;omega
 |
  i+1,x,hx=>by
  rcases ZT hx with h1 | rfl
  · exact qZ h i x h1
  · exact ⟨Int.emod_nonneg _ Ai,Int.emod_lt_of_pos _ Ai⟩
theorem AEh (ps:List (AQ)):∀x∈PO ps,0<=x/\x < 256:=by rw [PO];exact qZ _ 32
theorem vB (t b:AQ):(Aw t b).length=32/\∀x∈Aw t b,0<=x/\x < 256:=by refine ⟨DN t b,?_⟩;rw [Aw];exact AEh _
theorem AGq (a b c:Int) (d:AQ):(msgP Aw a b c d).length=32/\∀x∈msgP Aw a b c d,0<=x/\x < 256:=by rw [msgP];exact vB ACb (d++M0 [a,b,c])
theorem ADm (a b:Int) (c d:AQ):(L8 Aw a b c d).length=32/\∀x∈L8 Aw a b c d,0<=x/\x < 256:=by rw [L8];exact vB AF3 (d++c++M0 [a,b])
theorem AGp {H:AQ->AQ->AQ} {Pd:AQ->Prop} {first present schema:Int} {holder:AQ} {fs vs ls:AQ} {ts:List (AQ)} (h1:∀a b c d,Pd (msgP H a b c d)) (h2:∀a b c d,Pd (L8 H a b c d)):∀m∈Gt H first present schema holder fs vs ls ts,Pd m.2:=by
 intro m hm;simp only [Gt,F8,Mt,Ka,Dr,F5] at hm;rcases hm with (⟨p,_,rfl⟩ | ⟨p,_,rfl⟩) | rfl
 · exact h1 _ _ _ _
 · exact h2 _ _ _ _
 · exact h1 _ _ _ _
theorem pN {first present schema:Int} {holder:AQ} {fs vs ls:AQ} {ts:List (AQ)}:∀m∈Gt Aw first present schema holder fs vs ls ts,m.2.length=32/\∀x∈m.2,0<=x/\x < 256:=
 AGp (Pd:=fun d=>d.length=32/\∀x∈d,0<=x/\x < 256) AGq ADm
structure Y1 (Pq:Int×AQ->Cn->Prop) (ms:List (Int×AQ)) (cs:List Cn) (X RR:Array AN) (w:AH) (pre:List (Int×AQ)) (W:AH):Prop where
 pC:pre=ms.take pre.length
 le:pre.length<=ms.length
 ok:∀(j:Nat) (m:Int×AQ) (q:Cn),j < pre.length->ms[j]? =some m->cs[j]? =some q->Pq m q
 cnt:AY W (w.heap.size+1+1) 3 #[AB AE (pre.length:Int)]
 old:AK w W
 box:AY W w.heap.size 96 X
 oe:AY W (w.heap.size+1) 36 RR
section
variable {Pq:Int×AQ->Cn->Prop} {ms:List (Int×AQ)} {cs:List Cn} {X RR:Array AN} {w:AH} {pre:List (Int×AQ)} {A C:AH}
theorem Y1.below (h:Y1 Pq ms cs X RR w pre A) (t:AK A C):Y1 Pq ms cs X RR w pre C:=
 ⟨h.pC,h.le,h.ok,h.cnt.below t h.cnt.lt,AV h.old t,h.box.below t h.box.lt,h.oe.below t h.oe.lt⟩
theorem Y1.book {k:Nat} (h:Y1 Pq ms cs X RR w pre A) (b:Book k A C) (hk:w.heap.size<=k):Y1 Pq ms cs X RR w pre C:=
 ⟨h.pC,h.le,h.ok,GU h.cnt b,Below.book h.old b hk,GU h.box b,GU h.oe b⟩
theorem Y1.push {x:Int×AQ} {q:Cn} (h:Y1 Pq ms cs X RR w pre A) (hG:GM ms pre x) (hq:cs[pre.length]? =some q) (hp:Pq x q) (t:AK A C):Y1 Pq ms cs X RR w (pre++[x]) (C.setCell ⟨w.heap.size+1+1,0,none⟩ (AB AE ((pre.length:Int)+1))):=by
 have hl:(pre++[x]).length=pre.length+1:=AZ
 have hlt:=(BF.1 hG.2).1;have h':=h.below t;refine ⟨?_,by omega,fun j m q' hj hm hq'=> ?_,?_,h'.old.setCell cw _,h'.box.far (LP uG) _,h'.oe.far (LP (I9 _)) _⟩
 · rw [hl,<-(Va hG.2).2,<-hG.1]
 ·by_cases e:j=pre.length
  ·subst e
   rw [hG.2] at hm;rw [hq] at hq';cases hm;cases hq';exact hp
  · exact h.ok j m q' AG hm hq'
 have:=h'.cnt.put 0 (AB AE ((pre.length:Int)+1));rw [hl];exact this
end
theorem WU (s:JS) (FA VA LA TA CA:Option Addr) (nf cf nv cv nl cl nt ct nc cc:Nat) (fs vs ls:AQ) (ts:List (AQ)) (cs:List Cn) (r:Br) (w:AH)
 (hF:s.fields=AA FA nf cf) (hV:s.values=AA VA nv cv) (hL:s.links=AA LA nl cl) (hT:s.tokens=AA TA nt ct) (hCl:s.claims=AA CA nc cc)
 (h1:Ag 1 Bt w (AA FA nf cf) fs) (h2:Ag 1 Bt w (AA VA nv cv) vs) (h3:Ag 1 Bt w (AA LA nl cl) ls) (h4:Ag 32 CP w (AA TA nt ct) ts) (h5:Ag 3 Cy w (AA CA nc cc) cs)
 (hh:s.holder.length=32) (ht:s.token.length=32) (hro:r.root.length=32) (hfv:nf<=nv) (hlt:nl<=nt) (hnc:nc=nf+nl+1) (hsc:FI s.schema)
 (hpl:0<=s.place/\s.place<=1000) (hw:0<=s.width/\s.width<=1000) (hpr:0<=s.present/\s.present<=1000) (hfr:∀f∈fs,0<=f/\f<=1000) (hlr:∀l∈ls,0<=l/\l<=1000) (hps:0<=r.places/\r.places<=1000) (LC:Cc w):
 AS prog 41 #[AP (JW s),AP (rdA r)] w fun e w'=>AJi (JG Aw r.root (r.places*s.width) (Gt Aw (s.place*s.width) s.present s.schema s.holder fs vs ls ts) cs) e/\AK w w':=by
 obtain ⟨ms,hms⟩:=Ad (Gt Aw (s.place*s.width) s.present s.schema s.holder fs vs ls ts);obtain ⟨many,eL⟩:=Ad (r.places*s.width);obtain ⟨X,hX⟩:=Ad (JW s);obtain ⟨RR,hRR⟩:=Ad (rdA r);rw [<-hms,<-eL,<-hX,<-hRR];have rB:AI ((prog.info? 96).map (·.size)=some X.size):=AF (by rw [hX,P9 hh ht];exact AC7);have HM:AI (∀W,AS prog 57 #[.agg X] W fun e w'=>e=AW (.func (.func 81) #[] #[AU (some ⟨W.heap.size,0,none⟩)])/\w'=W.alloc (AO X 96)):=AF (fun W=>by rw [hX];exact Xx s W);obtain ⟨HX,HRR,HMS,MO,I7,H5,WY,HNC,HW,HPS⟩:=dF hX hRR hms eL LC h5 hro hnc hw hps;have HXC:AI (X[71]? =some (AA CA nc cc)/\X[74]? =some (AB AE s.width)):=AF (by
  rw [hX,JW,shL];have hl:([Value.int .i64 s.Ar,Value.int .i64 s.round,Value.int .i64 s.schema,Value.int .i64 s.place]++s.holder.map (Value.int .u8)++[s.fields,s.values,Value.int .i64 s.link]++s.token.map (Value.int .u8)).length=71:=by simp [hh,ht]
  rw [Aj,Aj,Cj AG,Cj AG,hl,hCl];exact ⟨rfl,rfl⟩)
 have Ym:AI (RR[5]? =some (AB AE r.places)):=AF (by rw [hRR,rdA,P1 AZ];rfl);have zP:AI (∀(W:AH) (e g:Nat),AK w W->w.heap.size<=e->e < W.heap.size->AY W g 96 X->zJ Fence.wide 2 prog 81 #[AU (some ⟨g,0,none⟩)] vN TB (KX W.heap.size e g) (GM ms) (fun xs=>xs=ms) W):=AF (fun W e g hb he1 he2 hg=>by
  rw [hX] at hg;rw [hms];have hsl:∀W',KX W.heap.size e g W W'->∀b,b < w.heap.size->W'.heap[b]? =w.heap[b]? :=fun W' k b hlt=>(k.same b (Av hlt hb.size) AG).trans (hb.block b hlt);exact vM 2 W.heap.size e g s FA VA LA TA nf cf nv cv nl cl nt ct fs vs ls ts W hF hV hL hT
   (fun W' k=>⟨h1.heap Iw (hsl W' k) (BH hb.size k.size),h2.heap Iw (hsl W' k) (BH hb.size k.size),h3.heap Iw (hsl W' k) (BH hb.size k.size),h4.heap Iw (hsl W' k) (BH hb.size k.size)⟩)
   hg hh ht (Ac _) hfv hlt hsc hpl hw hpr hfr hlr (LC.below hb))
 have aV:AI (ms.length=nc):=AF (by rw [hms,hnc];have e1:=h1.len;have e2:=h2.len;have e3:=h3.len;have e4:=h4.len;simp [Gt,F8,Mt];omega)
 have aW:AI (∀m∈ms,m.2.length=32/\∀x∈m.2,0<=x/\x < 256):=AF (by rw [hms];exact pN);have AJC:AI (nc<=9223372036854775807):=AF (by have:=h5.le;omega);clear hX hRR hms eL LC h1 h2 h3 h4 h5 hfr hlr hF hV hL hT hCl hh ht hro hnc hpl hw hpr hps hsc;refine Wz func41 rfl ?_;simp only [ntmps41,R2,F6,Pw,Nat.reduceAdd,Nat.reduceSub,Ur,Us,Uo,Uq,IJ,MU];refine JK (Gy (n:=1) (D6.2 ?_));go_wp2_with fail;obtain ⟨k1,b1,s1⟩:=bx w X 96;generalize (w.alloc (AO X 96))=w1 at k1 b1 s1 ⊢;obtain ⟨k2,b2,s2⟩:=bx w1 RR 36;generalize (w1.alloc (AO RR 36))=w2 at k2 b2 s2 ⊢;rw [s1] at k2 b2 s2;refine JK (Gy (n:=1) (D6.2 ?_));go_wp2_with fail
 -- THE RANGES
 obtain ⟨k3,b3,s3⟩:=bx w2 #[AB AE 0] 3;generalize (w2.alloc (AO #[AB AE 0] 3))=w3 at k3 b3 s3 ⊢;rw [s2] at k3 b3 s3;obtain ⟨K2,K3,K4,HB3⟩:=CD ((k1.below b2 AG).below b3 AG) (k2.below b3 AG) k3 ((b1.trans (b2.mono AG)).trans (b3.mono AG));have H3:AI (w3.heap.size=w.heap.size+1+1+1):=AF AG;clear k1 b1 s1 k2 b2 s2 k3 b3 s3;refine JK (JK (Gy (n:=1) (D6.2 ?_)));go_wp2_with (first
  | (refine Ci rfl 96 (.tmp 2) rfl w.heap.size rfl 96 X (0,0) _ K2.o underlying96 rfl rB.o ?_)
  | (go_at_call 57;refine (HM.o _).mono ?_;rintro e w4 ⟨rfl,rfl⟩)
  | fail)
 obtain ⟨k5,b5,s5⟩:=bx w3 X 96;generalize (w3.alloc (AO X 96))=w4 at k5 b5 s5 ⊢;have h3:=H3.o;rw [h3] at k5 ⊢;obtain ⟨vm,lK,K44,K54,HB4⟩:=Db (K2.o.below b5 AG) (K3.o.below b5 AG) (K4.o.below b5 AG) k5 (HB3.o.trans (b5.mono AG));have H4:AI (w4.heap.size=w.heap.size+1+1+1+1):=AF AG;clear k5 b5 s5 h3 K2 K3 K4 HB3 H3;have hs4:=H4.o;refine Vx ?_;refine UJ rfl (gf:=81) (lb:=#[AU (some ⟨w.heap.size+1+1+1,0,none⟩)]) rfl (enters_of func81 AJ rfl) (zP.o w4 (w.heap.size+1+1) (w.heap.size+1+1+1) HB4.o AG AG K54.o) (fun _=>rfl) ms.length
  (Y1 (fun m q=>q.index=m.1) ms cs X RR w)
  (fun ch W=>(ch=Hk 190/\JG Aw r.root many ms cs=190)/\AK w W)
  (fun s A C h t=>h.below t) (fun s A C h b=>h.book b AG) (fun s A h=>h.le) (fun A C h=>h.others) (fun A B C h k=>h.trans k) (fun W l o o' hl _ _=>KX.put W o' hl AG)
  ⟨rfl,Ay _,fun j m q h=>absurd h (Y8 _),K44.o,HB4.o,vm.o,lK.o⟩
  (fun x a' _=>a'={tmps:=#[.agg X,.agg RR,AU (some ⟨w.heap.size,0,none⟩),AU (some ⟨w.heap.size+1,0,none⟩),AU (some ⟨w.heap.size+1+1,0,none⟩),AB AE x.1,undef,undef,undef,.agg X,.func (.func 81) #[] #[AU (some ⟨w.heap.size+1+1+1,0,none⟩)],AB AE x.1,AP (yA x.2),undef,undef,undef,undef,undef,undef,undef,undef,undef,undef,undef,undef,undef,undef,undef,undef,undef,undef,undef,undef,undef,undef,undef,undef,undef,undef,undef,undef,undef,undef,undef,undef,undef,undef,undef,undef,undef],defers:=[]}) (fun x a' A C h _=>h)
  ?assign ?body ?done ?pan
 case assign=>
  rintro l pre x W hI hG hsz
  dsimp only [vN]
  have HI:=AF hI;clear hI
  gi_wp2_with fail
  exact ⟨KeepsOthers.refl _,KX.refl _ _ _ _,HI.o⟩
 case body=>
  rintro l pre x a' W hI hG rfl hsz;have hpl:pre.length < nc:=by rw [<-aV.o];exact (BF.1 hG.2).1
  obtain ⟨lb,lo,q,B1,m1,d1,C1,m2,d2,rfl,hlb,hq,hs1,hs2,hcell⟩:=Od (H5.o.mono Bc hI.old) hpl;have hpn:((pre.length:Nat):Int) < (nc:Int):=AG
  have hp0:(0:Int)<=((pre.length:Nat):Int):=AG
  have c4:=hI.cnt.cell 0;have f4:=hI.cnt.frozen 0;have l4:=hI.cnt.lt;simp only [Aj,Ao] at c4;have c71:W.cell? ⟨w.heap.size,71,none⟩=some (AA (some ⟨lb,lo,none⟩) nc cc):=(hI.box.cell 71).trans HXC.o.1;have e0:W.cell? ⟨lb,lo+pre.length*3,none⟩=some (AB AE q.index):=hcell 0 _ rfl;obtain ⟨k,hk⟩:=Ad pre.length;rw [<-hk] at hpn hp0 c4 e0;obtain ⟨HI,HG,HQ,HK,XE⟩:=Db hI hG hq hk hpl;clear hcell hI hG hq hs1 hs2 hk hpl;by_cases hix:q.index=x.1
  ·gi_wp2_with (first
    | (refine ⟨trivial,(CallsIn.inRound l (FK.2 (Ew 190 _))).mono ?_⟩;rintro e w5 ⟨⟨v,rfl⟩,rfl⟩)
    | fail)
   have hk:=HK.o;rw [Pr ((k:Int)+1) (by have:=XE.o;have:=AJC.o;omega)];subst hk;exact ⟨KeepsOthers.setCell _ _ _,(KX.refl _ _ _ _).V7 0 _ AG AG,HI.o.push HG.o HQ.o hix (Af _ _)⟩
  gi_wp2_with (first
   | (rw [show (q.index==x.1)=false from by simpa using hix];refine ⟨trivial,(CallsIn.inRound l (FK.2 (EP 190 _))).mono ?_⟩;rintro e w5 ⟨rfl,rfl⟩)
   | fail)
  exact ⟨KeepsOthers.refl _,j5 HG.o.2 HQ.o hix,HI.o.old⟩
 case pan=>rintro D ch W hD ⟨⟨rfl,h1⟩,hb⟩ hdf;refine ⟨by simp,.inl ⟨_,_,rfl,run_takeDeferred hdf,?_⟩⟩;exact ⟨by rw [h1];exact .inr ⟨by decide,rfl⟩,Below.book hb (Book.put W _ _ hD hdf rfl) AG⟩
 case done=>
  rintro D xs W hD rfl hI hdf;have Ij:AI (∀(j:Nat) (m:Int×AQ) (q:Cn),xs[j]? =some m->cs[j]? =some q->q.index=m.1):=AF (fun j m q h1 h2=>hI.ok j m q (BF.1 h1).1 h1 h2);obtain ⟨HD,Yx,K2,K3,K4,HB⟩:=Fg hD hdf hI.box hI.oe hI.cnt hI.old;have c4:=hI.cnt.cell 0;have f4:=hI.cnt.frozen 0;have l4:=hI.cnt.lt;simp only [Aj,Ao] at c4;clear hI hdf;refine JK (Gy (n:=1) (D6.2 ?_));go_wp2_with fail;obtain ⟨K25,K35,K45⟩:=BB (K2.o.far (p:=⟨w.heap.size+1+1,0,none⟩) (LP uG) (AB AE 0)) (K3.o.far (p:=⟨w.heap.size+1+1,0,none⟩) (LP (I9 _)) (AB AE 0)) (K4.o.put 0 (AB AE 0));have Cg:AI (AK w (W.setCell ⟨w.heap.size+1+1,0,none⟩ (AB AE 0))):=AF (HB.o.setCell cw _);have AFl:AI ((W.setCell ⟨w.heap.size+1+1,0,none⟩ (AB AE 0)).heap[D]? =some (.deferred (some []))):=AF ((C5 W _ _ D (by show D≠w.heap.size+1+1;omega)).trans Yx.o);clear K2 K3 K4 HB c4 f4 l4 Yx;generalize W.setCell ⟨w.heap.size+1+1,0,none⟩ (AB AE 0)=W5 at *;refine JK (Gy (n:=1) (D6.2 ?_));go_wp2_with (first
   | (refine Ci rfl 96 (.tmp 2) rfl w.heap.size rfl 96 X (0,0) _ K25.o underlying96 rfl rB.o ?_)
   | (go_at_call 57;refine (HM.o _).mono ?_;rintro e w6 ⟨rfl,rfl⟩)
   | fail)
  obtain ⟨k6,b6,s6⟩:=bx W5 X 96;generalize (W5.alloc (AO X 96))=W6 at k6 b6 s6 ⊢;obtain ⟨g6,Na⟩:=Ad W5.heap.size;rw [<-Na] at k6 s6 ⊢;have hd5:D < W5.heap.size:=(DF.1 AFl.o).1;have hd4:=HD.o;obtain ⟨K26,K36,K46,K66,Fb⟩:=Db (K25.o.below b6 K25.o.lt) (K35.o.below b6 K35.o.lt) (K45.o.below b6 K45.o.lt) k6 (AV Cg.o b6);have ALt:AI (W6.heap[D]? =some (.deferred (some []))):=AF ((b6.block D hd5).trans AFl.o);clear k6 b6 K25 K35 K45 Cg AFl;refine Vx ?_;refine UJ rfl (gf:=81) (lb:=#[AU (some ⟨g6,0,none⟩)]) rfl (enters_of func81 AJ rfl) (zP.o W6 (w.heap.size+1+1) g6 Fb.o AG AG K66.o) (fun _=>rfl) xs.length
   (fun pre W=>Y1 (fun m q=>Fi Aw r.root many m.2 q=true) xs cs X RR w pre W/\W.heap[D]? =some (.deferred (some [])))
   (fun ch W=>(ch=Hk 60/\JG Aw r.root many xs cs=60)/\AK w W/\W.heap[D]? =some (.deferred (some [])))
   (fun s A C h t=>⟨h.1.below t,(t.block D (DF.1 h.2).1).trans h.2⟩) (fun s A C h b=>⟨h.1.book b AG,(b.block D AG).trans h.2⟩) (fun s A h=>h.1.le) (fun A C h=>h.others) (fun A B C h k=>h.trans k) (fun W l o o' hl _ _=>KX.put W o' hl AG)
   ⟨⟨rfl,Ay _,fun j m q h=>absurd h (Y8 _),K46.o,Fb.o,K26.o,K36.o⟩,ALt.o⟩
   (fun x a' W=>∃Bx,(w.heap.size+1+1 < Bx/\AY W Bx 34 (yA x.2))/\a'={tmps:=#[.agg X,.agg RR,AU (some ⟨w.heap.size,0,none⟩),AU (some ⟨w.heap.size+1,0,none⟩),AU (some ⟨w.heap.size+1+1,0,none⟩),undef,undef,AU (some ⟨Bx,0,none⟩),undef,.agg X,.func (.func 81) #[] #[AU (some ⟨w.heap.size+1+1+1,0,none⟩)],undef,undef,undef,undef,undef,undef,undef,undef,undef,undef,undef,undef,undef,undef,.agg X,.func (.func 81) #[] #[AU (some ⟨g6,0,none⟩)],AB AE x.1,AP (yA x.2),undef,undef,undef,undef,undef,undef,undef,undef,undef,undef,undef,undef,undef,undef,undef,undef,undef,undef,undef,undef,undef],defers:=[]}) (fun x a' A C h b=>by obtain ⟨Bx,⟨h1,h2⟩,h3⟩:=h;exact ⟨Bx,⟨h1,GU h2 b⟩,h3⟩)
   ?assign ?body ?done ?pan
  case assign=>
   rintro l pre x W hI hG hsz;have hxl:=(aW.o x (Cr hG.2)).1;have hzb:=JJ W 34;obtain ⟨Cd,Ih,HI⟩:=BB Fw hxl hI;clear hI hG hxl
   dsimp only [vN]
   gi_wp2_with (refine Jo rfl 34 (.tmp 7) (.tmp 28) rfl W.heap.size x.2 rfl rfl 34 (yA (zeros 32)) hzb.1 Cd.o EY Ih.o ?_;intro w7 k7 hb7 Ec)
   have hbW:=((Af W.heap.size W).alloc (Ac _) _).trans hb7;exact ⟨(KeepsOthers.alloc _ _).trans (TE.others ⟨Ec,_,_,_,hzb.1⟩),(KX.refl _ _ _ _).below hbW AG AG,⟨HI.o.1.below hbW,(hbW.block D AG).trans HI.o.2⟩,by omega⟩
  case body=>
   rintro l pre x a' W ⟨hI,hD2⟩ hG ⟨Bx,⟨hBx,hbx⟩,rfl⟩ hsz;have hpl:pre.length < nc:=by rw [<-aV.o];exact (BF.1 hG.2).1
   obtain ⟨lb,lo,q,B1,m1,d1,C1,m2,d2,rfl,hlb,hq,hs1,hs2,hcell⟩:=Od (H5.o.mono Bc hI.old) hpl;obtain ⟨hxl,hxr⟩:=aW.o x (Cr hG.2);obtain ⟨k,hk⟩:=Ad pre.length;have hpn:(k:Int) < (nc:Int):=AG
   have hp0:(0:Int)<=(k:Int):=AG
   obtain ⟨vk,hvk⟩:∃vk:Int,vk=if Fi Aw r.root many x.2 q=true then 0 else 60:=⟨_,rfl⟩
   have HC:AI (∀W',AK W W'->W'.cell? ⟨w.heap.size+1,5,none⟩=some (AB AE r.places)/\W'.cell? ⟨w.heap.size,74,none⟩=some (AB AE s.width)/\W'.cell? ⟨w.heap.size,71,none⟩=some (AA (some ⟨lb,lo,none⟩) nc cc)/\W'.cell? ⟨w.heap.size+1+1,0,none⟩=some (AB AE k)):=AF (fun W' hW=>by have b:=hI.below hW;exact ⟨(b.oe.cell 5).trans Ym.o,(b.box.cell 74).trans HXC.o.2,(b.box.cell 71).trans HXC.o.1,by rw [hk];exact b.cnt.cell 0⟩)
   have HL:AI (∀W',AK W W'->(Instr.loadAt 34 (AU (some ⟨w.heap.size+1,6,none⟩))).run prog W'=.ok (AP (yA r.root)) W'/\(Instr.loadAt 34 (AU (some ⟨Bx,0,none⟩))).run prog W'=.ok (AP (yA x.2)) W'/\(Instr.loadAt 71 (AU (some ⟨lb,lo+k*3,none⟩))).run prog W'=.ok (AP #[AB AE q.index,AA B1 m1 d1,AA C1 m2 d2]) W'):=AF (fun W' hW=>by
    have b:=hI.below hW;refine ⟨Ei _ 6 WY.o (fun j v hv=> ?_),Tl Bx x.2 hxl W' (hbx.below hW hbx.lt),?_⟩
    ·rw [b.oe.cell,HRR.o,rdA,yA,fq AZ,Aj]
     simpa using hv
    have hr:W'.rangeAt lb (lo+k*3) [AB AE q.index,AA B1 m1 d1,AA C1 m2 d2]:=fun j v hj=>(hW.cell (p:=⟨lb,lo+k*3+j,none⟩) hlb).trans (by rw [hk];exact hcell j v hj);simp only [Instr.loadAt,Instr.sureAddr,Cp,DL,Result.andThen_ok,Rz W' lb (lo+k*3) 71 _ _ hr underlying71 rfl AJ])
   have HV:AI (∀W',AK W W'->AS prog 64 #[AP (yA r.root),AB AE many,AP (yA x.2),AP #[AB AE q.index,AA B1 m1 d1,AA C1 m2 d2]] W' fun e w'=>e=AW (AB AE vk)/\AK W' w'):=AF (fun W' hW=>by rw [hvk];exact iZ r.root x.2 many q _ _ W' WY.o hxl hxr ((I7.o.below hI.old).below hW) (hs1.mono BO hW) (hs2.mono BO hW))
   have hmul:IntKind.i64.wrap (r.places*s.width)=many:=by rw [MO.o];exact Ca _ (by have h1:0<=r.places*s.width:=LQ HPS.o.1 HW.o.1;have h2:r.places*s.width<=1000*1000:=Po HPS.o.2 HW.o.2 HW.o.1 AG;omega)
   have Fs:prog.follows .mixedOrders=true:=AJ
   have hC:∀ops,ops.all QF=true->Clear (Fence.wide.inRound l) ops:=fun ops h=>⟨fun _=>trivial,h⟩;have hS:AK W W.drew:=(Af _ _).drew;obtain ⟨HI,HG,HQ,HK,XE,HD2,HVK⟩:=LU hI hG hq hk hpl hD2 hvk;clear hcell hI hG hq hs1 hs2 hk hpl hD2 hbx hxl hxr hvk;refine wpIn_block (wpIn_seq ?_);refine rhB (fun W'=>AK W W') 16 _ Fs AJ rfl ?_;refine EZ (hC _ AJ) 0 29 AJ rfl rfl An hS rfl Nn ?_;refine EZ (hC _ AJ) 1 30 AJ rfl rfl An hS rfl (v:=AP (yA r.root)) (fun W hW=>Cv rfl AJ (HL.o W hW).1) ?_;refine EZ (hC _ AJ) 2 31 AJ rfl rfl An hS rfl Nn ?_;refine EZ (hC _ AJ) 3 32 AJ rfl rfl An hS rfl Nn ?_;refine EZ (hC _ AJ) 4 33 AJ rfl rfl An hS rfl Nn ?_;refine EZ (hC _ AJ) 5 34 AJ rfl rfl An hS rfl Nn ?_;refine EZ (hC _ AJ) 6 35 AJ rfl rfl An hS rfl (v:=AB AE many) gj ?_;refine EZ (hC _ AJ) 7 36 AJ rfl rfl An hS rfl (v:=AP (yA x.2)) (fun W hW=>Cv rfl AJ (HL.o W hW).2.1) ?_;refine EZ (hC _ AJ) 8 37 AJ rfl rfl An hS rfl Nn ?_;refine EZ (hC _ AJ) 9 38 AJ rfl rfl An hS rfl Nn ?_;refine EZ (hC _ AJ) 10 39 AJ rfl rfl An hS rfl Nn ?_;refine EZ (hC _ AJ) 11 40 AJ rfl rfl An hS rfl Nn ?_;refine EZ (hC _ AJ) 12 41 AJ rfl rfl An hS rfl Nn ?_;refine EZ (hC _ AJ) 13 42 AJ rfl rfl An hS rfl (v:=AP #[AB AE q.index,AA B1 m1 d1,AA C1 m2 d2]) (fun W hW=>Cv rfl AJ (HL.o W hW).2.2) ?_;refine rhF (hC _ AJ) 14 43 AJ rfl rfl rfl rfl (enters_of func64 AJ rfl) QY (CallsIn.inRound l (FK.2 (HV.o _ hS))) AJ ?_;rintro e W' ⟨rfl,hb'⟩;have hS':AK W W':=hS.trans hb';refine ⟨_,rfl,hS',?_⟩;refine VK (hC _ AJ) 15 8 43 AJ rfl rfl An hS' rfl (.inr rfl) rfl ?_;refine rhD AJ ?_ _;simp only [CZ,Ch];have c4:=(HC.o W' hS').2.2.2;have hI':=HI.o.below hS';have f4:=hI'.cnt.frozen 0;have l4:=hI'.cnt.lt;obtain ⟨TN,HI'⟩:=Al hS' hI';have AML:w.heap.size+1+1 < W6.heap.size:=AG
   clear hC hS hS' hb' hI' hmul;by_cases hv:Fi Aw r.root many x.2 q=true
   ·obtain rfl:vk=0:=by rw [HVK.o,Ak hv]
    gi_wp2_with (first
     | (refine ⟨trivial,(CallsIn.inRound l (FK.2 (Ew 0 _))).mono ?_⟩;rintro e w8 ⟨⟨v,rfl⟩,rfl⟩)
     | fail)
    have hk:=HK.o;have hk1:=XE.o;have hk2:=AJC.o;rw [Pr ((k:Int)+1) AG];subst hk;have hle:=TN.o.size;exact .inl ⟨trivial,(KeepsOthers.of_grownBy (row:=none) (Lc TN.o _) AZ).trans (KeepsOthers.setCell _ _ _),((KX.refl _ _ _ _).below TN.o AG AG).V7 0 _ AG AG,HI.o.push HG.o HQ.o hv TN.o,(C5 _ _ _ D (by show D≠w.heap.size+1+1;omega)).trans ((TN.o.block D AG).trans HD2.o)⟩
   obtain rfl:vk=60:=by rw [HVK.o,Ah hv]
   gi_wp2_with (first
    | (refine ⟨trivial,(CallsIn.inRound l (FK.2 (EP 60 _))).mono ?_⟩;rintro e w8 ⟨rfl,rfl⟩)
    | fail)
   exact .inr ⟨_,rfl,trivial,KeepsOthers.of_grownBy (row:=none) (Lc TN.o _) AZ,⟨rfl,wN Ij.o HG.o.2 HQ.o hv⟩,HI'.o.old,(TN.o.block D AG).trans HD2.o⟩
  case pan=>
   rintro D' ch W' hD' ⟨⟨rfl,h1⟩,hb,hdD⟩ hdf;have hne:D≠D':=AG
   refine ⟨by simp,.inl ⟨_,_,rfl,run_takeDeferred hdf,?_⟩⟩;refine ⟨by simp,.inl ⟨_,_,rfl,run_takeDeferred ((World.putObj_heap_other AG).trans hdD),?_⟩⟩;exact ⟨by rw [h1];exact .inr ⟨by decide,rfl⟩,Below.book (Below.book hb (Book.put W' _ _ hD' hdf rfl) AG) (Book.put (n₀:=w.heap.size) _ _ _ AG ((World.putObj_heap_other AG).trans hdD) rfl) (Ac _)⟩
  rintro D' ys W' hD' rfl ⟨hI,hdD⟩ hdf;have hne:D≠D':=AG
  refine ⟨by simp,.inl ⟨_,_,rfl,run_takeDeferred hdf,?_⟩⟩;refine ⟨by simp,.inl ⟨_,_,rfl,run_takeDeferred ((World.putObj_heap_other AG).trans hdD),?_⟩⟩;exact ⟨_,results_none rfl _ _ _,.inl ⟨M2.2 (fun j m q h1 h2=>⟨Ij.o j m q h1 h2,hI.ok j m q (BF.1 h1).1 h1 h2⟩),_,rfl⟩,Below.book (Below.book hI.old (Book.put W' _ _ hD' hdf rfl) AG) (Book.put (n₀:=w.heap.size) _ _ _ AG ((World.putObj_heap_other AG).trans hdD) rfl) (Ac _)⟩
end Go.Proofs.YtamhoilkpppdbaaGreatDoor
