import Derived.Test.YtamhoilkpppdbaaGreatDoorK10
namespace Go.Proofs.YtamhoilkpppdbaaGreatDoor
set_option maxHeartbeats 8000000
set_option maxRecDepth 100000
open Go renaming World→AH, Value→AN, Calls→AS
open Go.Proofs.Tryz
open Go.Value renaming slice→AB, int→AE, pointer→AW, agg→AP
open Go.IntKind renaming i64→AF
open Go.Ending renaming returned→AU
open Go.Obj renaming cells→AO
open Go.RowKit Go.Shelf
attribute [local go_sem] Oper.semAt_some
theorem Ag.heap {α:Type} {sz:Nat} {R:AH->List AN->α->Prop} (hR:∀w w' cs x,R w cs x->R w' cs x) {w W:AH} {v:AN} {l:List α} (h:Ag sz R w v l) (hb:∀b,b < w.heap.size->W.heap[b]? =w.heap[b]?) (hs:w.heap.size<=W.heap.size):Ag sz R W v l:=by obtain ⟨A,cap,e,h1,h2,h3⟩:=h;refine ⟨A,cap,e,h1,h2,fun i x hi=> ?_⟩;obtain ⟨b,off,cs,rfl,hlt,hl,hc,hr⟩:=h3 i x hi;exact ⟨b,off,cs,rfl,Au hlt hs,hl,fun j u hu=>(Kl (hb b hlt)).trans (hc j u hu),hR _ _ _ _ hr⟩
theorem KX.put {n e g l:Nat} (W:AH) (o:Obj) (hn:n<=l) (hg:g < l):KX n e g W (W.putObj l o):=
 ⟨by simp [World.putObj],fun b h1 _=>World.putObj_heap_other AG,World.putObj_heap_other AG,fun t=>ML (World.putObj_heap_other AG) (by simp [World.putObj]) t⟩
theorem KX.book {n k e g:Nat} {w A C:AH} (h:KX n e g w A) (b:Book k A C) (hn:n<=k) (hg:g < k) (hk:0 < k):KX n e g w C:=
 ⟨BH h.size b.size,fun i h1 h2=>(b.block i AG).trans (h.same i h1 h2),(b.block g hg).trans h.box,fun t=>ML (b.block 0 hk) b.size (h.tab t)⟩
theorem KX.VX {n e g:Nat} {A C:AH} (h:KX n e g A C) (o:Nat) (v:AN) (hg:e≠g) (h0:e≠0):KX n e g A (C.setCell ⟨e,o,none⟩ v):=
 ⟨by simpa [World.setCell] using h.size,fun b h1 h2=>(D6 C _ v b (fun x=>h2 x)).trans (h.same b h1 h2),(D6 C _ v g (fun x=>hg x.symm)).trans h.box,fun t=>ML (D6 C _ v 0 (fun x=>h0 x.symm)) (by simp [World.setCell]) (h.tab t)⟩
def AGw (k:Int) (e:Ending):Prop:=(k=0/\∃v,e=AU v)\/(k≠0/\e=.panicked (G4 k))
theorem iu {root:AQ} {many:Int} {ms:List (Int×AQ)} {cs:List Cj} {j:Nat} {m:Int×AQ} {q:Cj} (h1:ms[j]? =some m) (h2:cs[j]? =some q) (h:¬q.index=m.1):Ik Aw root many ms cs=190:=by unfold Ik;rw [Ai];intro e;unfold cn at e;rw [De] at e;have:=e (m,q) (CS (i:=j) rm);exact h (F8 this)
theorem uI {root:AQ} {many:Int} {ms:List (Int×AQ)} {cs:List Cj} {j:Nat} {m:Int×AQ} {q:Cj} (hi:∀(j:Nat) (m:Int×AQ) (q:Cj),ms[j]? =some m->cs[j]? =some q->q.index=m.1) (h1:ms[j]? =some m) (h2:cs[j]? =some q) (h:¬FO Aw root many m.2 q=true):Ik Aw root many ms cs=60:=by
 unfold Ik;rw [Ao,Ai]
 ·intro e
  unfold wM at e;rw [De] at e;exact h (e (m,q) (CS (i:=j) rm))
 unfold cn;rw [De];rintro ⟨m,q⟩ hp;obtain ⟨j,hj,e⟩:=YR hp;have e2:(ms.zip cs)[j]? =some (m,q):=by rw [BJ hj,e]
 rw [Ic] at e2;exact BR (hi j m q e2.1 e2.2)
theorem oL (h:AQ):∀i,∀x∈NQ h i,0<=x/\x < 256
 |
  0,x,hx=>by
  rw [NQ,zeros,List.mem_replicate] at hx;omega
 |
  i+1,x,hx=>by
  rcases Tz hx with h1 | rfl
  · exact oL h i x h1
  · exact ⟨Int.emod_nonneg _ Ah,Int.emod_lt_of_pos _ Ah⟩
theorem ACK (ps:List (AQ)):∀x∈Ox ps,0<=x/\x < 256:=by rw [Ox];exact oL _ 32
theorem sw (t b:AQ):(Aw t b).length=32/\∀x∈Aw t b,0<=x/\x < 256:=by refine ⟨C7 t b,?_⟩;rw [Aw];exact ACK _
theorem AER (a b c:Int) (d:AQ):(msgP Aw a b c d).length=32/\∀x∈msgP Aw a b c d,0<=x/\x < 256:=by rw [msgP];exact sw AAX (d++MY [a,b,c])
theorem ABd (a b:Int) (c d:AQ):(NB Aw a b c d).length=32/\∀x∈NB Aw a b c d,0<=x/\x < 256:=by rw [NB];exact sw ADe (d++c++MY [a,b])
theorem AEQ {H:AQ->AQ->AQ} {Pd:AQ->Prop} {first present schema:Int} {holder:AQ} {fs vs ls:AQ} {ts:List (AQ)} (h1:∀a b c d,Pd (msgP H a b c d)) (h2:∀a b c d,Pd (NB H a b c d)):∀m∈Ga H first present schema holder fs vs ls ts,Pd m.2:=by
 intro m hm;simp only [Ga,Fm,MP,Ll,Dd,Fg] at hm;rcases hm with (⟨p,_,rfl⟩ | ⟨p,_,rfl⟩) | rfl
 · exact h1 _ _ _ _
 · exact h2 _ _ _ _
 · exact h1 _ _ _ _
theorem mg {first present schema:Int} {holder:AQ} {fs vs ls:AQ} {ts:List (AQ)}:∀m∈Ga Aw first present schema holder fs vs ls ts,m.2.length=32/\∀x∈m.2,0<=x/\x < 256:=
 AEQ (Pd:=fun d=>d.length=32/\∀x∈d,0<=x/\x < 256) AER ABd
structure YE (Pq:Int×AQ->Cj->Prop) (ms:List (Int×AQ)) (cs:List Cj) (X RR:Array AN) (w:AH) (pre:List (Int×AQ)) (W:AH):Prop where
 mS:pre=ms.take pre.length
 le:pre.length<=ms.length
 ok:∀(j:Nat) (m:Int×AQ) (q:Cj),j < pre.length->ms[j]? =some m->cs[j]? =some q->Pq m q
 cnt:AZ W (w.heap.size+1+1) 3 #[AE AF (pre.length:Int)]
 old:AK w W
 box:AZ W w.heap.size 96 X
 mI:AZ W (w.heap.size+1) 36 RR
section
variable {Pq:Int×AQ->Cj->Prop} {ms:List (Int×AQ)} {cs:List Cj} {X RR:Array AN} {w:AH} {pre:List (Int×AQ)} {A C:AH}
theorem YE.below (h:YE Pq ms cs X RR w pre A) (t:AK A C):YE Pq ms cs X RR w pre C:=
 ⟨h.mS,h.le,h.ok,h.cnt.below t h.cnt.lt,AV h.old t,h.box.below t h.box.lt,h.mI.below t h.mI.lt⟩
theorem YE.book {k:Nat} (h:YE Pq ms cs X RR w pre A) (b:Book k A C) (hk:w.heap.size<=k):YE Pq ms cs X RR w pre C:=
 ⟨h.mS,h.le,h.ok,F4 h.cnt b,Below.book h.old b hk,F4 h.box b,F4 h.mI b⟩
theorem YE.push {x:Int×AQ} {q:Cj} (h:YE Pq ms cs X RR w pre A) (hG:GM ms pre x) (hq:cs[pre.length]? =some q) (hp:Pq x q) (t:AK A C):YE Pq ms cs X RR w (pre++[x]) (C.setCell ⟨w.heap.size+1+1,0,none⟩ (AE AF ((pre.length:Int)+1))):=by
 have hl:(pre++[x]).length=pre.length+1:=AX
 have hlt:=(BD.1 hG.2).1;have h':=h.below t;refine ⟨?_,by omega,fun j m q' hj hm hq'=> ?_,?_,h'.old.setCell Yo _,h'.box.far (Ki rS) _,h'.mI.far (Ki (Ib _)) _⟩
 · rw [hl,<-(Ux hG.2).2,<-hG.1]
 ·by_cases e:j=pre.length
  ·subst e
   rw [hG.2] at hm;rw [hq] at hq';cases hm;cases hq';exact hp
  · exact h.ok j m q' AG hm hq'
 have:=h'.cnt.put 0 (AE AF ((pre.length:Int)+1));rw [hl];exact this
end
theorem Vt (s:JF) (FA VA LA TA CA:Option Addr) (nf cf nv cv nl cl nt ct nc cc:Nat) (fs vs ls:AQ) (ts:List (AQ)) (cs:List Cj) (r:CM) (w:AH)
 (hF:s.fields=AB FA nf cf) (hV:s.values=AB VA nv cv) (hL:s.links=AB LA nl cl) (hT:s.tokens=AB TA nt ct) (hCl:s.claims=AB CA nc cc)
 (h1:Ag 1 CK w (AB FA nf cf) fs) (h2:Ag 1 CK w (AB VA nv cv) vs) (h3:Ag 1 CK w (AB LA nl cl) ls) (h4:Ag 32 CV w (AB TA nt ct) ts) (h5:Ag 3 Dt w (AB CA nc cc) cs)
 (hh:s.holder.length=32) (ht:s.token.length=32) (hro:r.root.length=32) (hfv:nf<=nv) (hlt:nl<=nt) (hnc:nc=nf+nl+1) (hsc:Gk s.schema)
 (hpl:0<=s.place/\s.place<=1000) (hw:0<=s.width/\s.width<=1000) (hpr:0<=s.present/\s.present<=1000) (hfr:∀f∈fs,0<=f/\f<=1000) (hlr:∀l∈ls,0<=l/\l<=1000) (hps:0<=r.places/\r.places<=1000) (MT:Ca w):
 AS prog 41 #[AP (JA s),AP (rdA r)] w fun e w'=>AGw (Ik Aw r.root (r.places*s.width) (Ga Aw (s.place*s.width) s.present s.schema s.holder fs vs ls ts) cs) e/\AK w w':=by
 obtain ⟨ms,hms⟩:=Ad (Ga Aw (s.place*s.width) s.present s.schema s.holder fs vs ls ts);obtain ⟨many,cx⟩:=Ad (r.places*s.width);obtain ⟨X,hX⟩:=Ad (JA s);obtain ⟨RR,hRR⟩:=Ad (rdA r);rw [<-hms,<-cx,<-hX,<-hRR];have HXS:AI ((prog.info? 96).map (·.size)=some X.size):=AA (by rw [hX,Pp hh ht];exact AA7);have HM:AI (∀W,AS prog 57 #[.agg X] W fun e w'=>e=AU (.func (.func 81) #[] #[AW (some ⟨W.heap.size,0,none⟩)])/\w'=W.alloc (AO X 96)):=AA (fun W=>by rw [hX];exact XK s W);have HX:=AA hX;have HRR:=AA hRR;have HMS:=AA hms;have Lh:=AA cx;have I0:=AA MT;have H5:=AA h5;have Vz:=AA hro;have HNC:=AA hnc;have HW:=AA hw;have HPS:=AA hps;have HXC:AI (X[71]? =some (AB CA nc cc)/\X[74]? =some (AE AF s.width)):=AA (by
  rw [hX,JA,shL];have hl:([Value.int .i64 s.Ar,Value.int .i64 s.round,Value.int .i64 s.schema,Value.int .i64 s.place]++s.holder.map (Value.int .u8)++[s.fields,s.values,Value.int .i64 s.link]++s.token.map (Value.int .u8)).length=71:=by simp [hh,ht]
  rw [Ak,Ak,Cp AG,Cp AG,hl,hCl];exact ⟨rfl,rfl⟩)
 have S6:AI (RR[5]? =some (AE AF r.places)):=AA (by rw [hRR,rdA,T7 AX];rfl);have wX:AI (∀(W:AH) (e g:Nat),AK w W->w.heap.size<=e->e < W.heap.size->AZ W g 96 X->wQ Fence.wide 2 prog 81 #[AW (some ⟨g,0,none⟩)] tL TB (KX W.heap.size e g) (GM ms) (fun xs=>xs=ms) W):=AA (fun W e g hb he1 he2 hg=>by
  rw [hX] at hg;rw [hms];have hsl:∀W',KX W.heap.size e g W W'->∀b,b < w.heap.size->W'.heap[b]? =w.heap[b]? :=fun W' k b hlt=>(k.same b (Au hlt hb.size) AG).trans (hb.block b hlt);exact tK 2 W.heap.size e g s FA VA LA TA nf cf nv cv nl cl nt ct fs vs ls ts W hF hV hL hT
   (fun W' k=>⟨h1.heap Ho (hsl W' k) (BH hb.size k.size),h2.heap Ho (hsl W' k) (BH hb.size k.size),h3.heap Ho (hsl W' k) (BH hb.size k.size),h4.heap Ho (hsl W' k) (BH hb.size k.size)⟩)
   hg hh ht (Ac _) hfv hlt hsc hpl hw hpr hfr hlr (MT.below hb))
 have Zh:AI (ms.length=nc):=AA (by rw [hms,hnc];have e1:=h1.len;have e2:=h2.len;have e3:=h3.len;have e4:=h4.len;simp [Ga,Fm,MP];omega)
 have Zi:AI (∀m∈ms,m.2.length=32/\∀x∈m.2,0<=x/\x < 256):=AA (by rw [hms];exact mg);have AGY:AI (nc<=9223372036854775807):=AA (by have:=h5.le;omega);clear hX hRR hms cx MT h1 h2 h3 h4 h5 hfr hlr hF hV hL hT hCl hh ht hro hnc hpl hw hpr hps hsc;refine WR func41 rfl ?_;simp only [ntmps41,RF,Gw,PU,Nat.reduceAdd,Nat.reduceSub,Ts,Tv,To,Tr,Jh,Ln];refine Ir (Gd (n:=1) (Dr.2 ?_));go_wp2_with fail;obtain ⟨k1,b1,s1⟩:=bx w X 96;generalize (w.alloc (AO X 96))=w1 at k1 b1 s1 ⊢;obtain ⟨k2,b2,s2⟩:=bx w1 RR 36;generalize (w1.alloc (AO RR 36))=w2 at k2 b2 s2 ⊢;rw [s1] at k2 b2 s2;refine Ir (Gd (n:=1) (Dr.2 ?_));go_wp2_with fail
 -- THE RANGES
 obtain ⟨k3,b3,s3⟩:=bx w2 #[AE AF 0] 3;generalize (w2.alloc (AO #[AE AF 0] 3))=w3 at k3 b3 s3 ⊢;rw [s2] at k3 b3 s3;have K2:=AA ((k1.below b2 AG).below b3 AG);have K3:=AA (k2.below b3 AG);have K4:=AA k3;have HB3:=AA ((b1.trans (b2.mono AG)).trans (b3.mono AG));have H3:AI (w3.heap.size=w.heap.size+1+1+1):=AA AG;clear k1 b1 s1 k2 b2 s2 k3 b3 s3;refine Ir (Ir (Gd (n:=1) (Dr.2 ?_)));go_wp2_with (first
  | (refine Bv rfl 96 (.tmp 2) rfl w.heap.size rfl 96 X (0,0) _ K2.o underlying96 rfl HXS.o ?_)
  | (go_at_call 57;refine (HM.o _).mono ?_;rintro e w4 ⟨rfl,rfl⟩)
  | fail)
 obtain ⟨k5,b5,s5⟩:=bx w3 X 96;generalize (w3.alloc (AO X 96))=w4 at k5 b5 s5 ⊢;have h3:=H3.o;rw [h3] at k5 ⊢;have tq:=AA (K2.o.below b5 AG);have jM:=AA (K3.o.below b5 AG);have K44:=AA (K4.o.below b5 AG);have K54:=AA k5;have HB4:=AA (HB3.o.trans (b5.mono AG));have H4:AI (w4.heap.size=w.heap.size+1+1+1+1):=AA AG;clear k5 b5 s5 h3 K2 K3 K4 HB3 H3;have hs4:=H4.o;refine VN ?_;refine TM rfl (gf:=81) (lb:=#[AW (some ⟨w.heap.size+1+1+1,0,none⟩)]) rfl (enters_of func81 AJ rfl) (wX.o w4 (w.heap.size+1+1) (w.heap.size+1+1+1) HB4.o AG AG K54.o) (fun _=>rfl) ms.length
  (YE (fun m q=>q.index=m.1) ms cs X RR w)
  (fun ch W=>(ch=G4 190/\Ik Aw r.root many ms cs=190)/\AK w W)
  (fun s A C h t=>h.below t) (fun s A C h b=>h.book b AG) (fun s A h=>h.le) (fun A C h=>h.others) (fun A B C h k=>h.trans k) (fun W l o o' hl _ _=>KX.put W o' hl AG)
  ⟨rfl,Av _,fun j m q h=>absurd h (YJ _),K44.o,HB4.o,tq.o,jM.o⟩
  (fun x a' _=>a'={tmps:=#[.agg X,.agg RR,AW (some ⟨w.heap.size,0,none⟩),AW (some ⟨w.heap.size+1,0,none⟩),AW (some ⟨w.heap.size+1+1,0,none⟩),AE AF x.1,undef,undef,undef,.agg X,.func (.func 81) #[] #[AW (some ⟨w.heap.size+1+1+1,0,none⟩)],AE AF x.1,AP (yA x.2),undef,undef,undef,undef,undef,undef,undef,undef,undef,undef,undef,undef,undef,undef,undef,undef,undef,undef,undef,undef,undef,undef,undef,undef,undef,undef,undef,undef,undef,undef,undef,undef,undef,undef,undef,undef,undef],defers:=[]}) (fun x a' A C h _=>h)
  ?assign ?body ?done ?zL
 case assign=>
  rintro l pre x W hI hG hsz
  dsimp only [tL]
  have HI:=AA hI;clear hI
  gi_wp2_with fail
  exact ⟨KeepsOthers.refl _,KX.refl _ _ _ _,HI.o⟩
 case body=>
  rintro l pre x a' W hI hG rfl hsz;have hpl:pre.length < nc:=by rw [<-Zh.o];exact (BD.1 hG.2).1
  obtain ⟨lb,lo,q,B1,m1,d1,C1,m2,d2,rfl,hlb,hq,hs1,hs2,hcell⟩:=OJ (H5.o.mono Bd hI.old) hpl;have hpn:((pre.length:Nat):Int) < (nc:Int):=AG
  have hp0:(0:Int)<=((pre.length:Nat):Int):=AG
  have c4:=hI.cnt.cell 0;have f4:=hI.cnt.frozen 0;have l4:=hI.cnt.lt;simp only [Ak,Al] at c4;have c71:W.cell? ⟨w.heap.size,71,none⟩=some (AB (some ⟨lb,lo,none⟩) nc cc):=(hI.box.cell 71).trans HXC.o.1;have e0:W.cell? ⟨lb,lo+pre.length*3,none⟩=some (AE AF q.index):=hcell 0 _ rfl;obtain ⟨k,hk⟩:=Ad pre.length;rw [<-hk] at hpn hp0 c4 e0;have HI:=AA hI;have HG:=AA hG;have HQ:=AA hq;have HK:=AA hk;have SF:=AA hpl;clear hcell hI hG hq hs1 hs2 hk hpl;by_cases hix:q.index=x.1
  ·gi_wp2_with (first
    | (refine ⟨trivial,(CallsIn.inRound l (Et.2 (Eg 190 _))).mono ?_⟩;rintro e w5 ⟨⟨v,rfl⟩,rfl⟩)
    | fail)
   have hk:=HK.o;rw [RD ((k:Int)+1) (by have:=SF.o;have:=AGY.o;omega)];subst hk;exact ⟨KeepsOthers.setCell _ _ _,(KX.refl _ _ _ _).VX 0 _ AG AG,HI.o.push HG.o HQ.o hix (Ae _ _)⟩
  gi_wp2_with (first
   | (rw [show (q.index==x.1)=false from by simpa using hix];refine ⟨trivial,(CallsIn.inRound l (Et.2 (DN 190 _))).mono ?_⟩;rintro e w5 ⟨rfl,rfl⟩)
   | fail)
  exact ⟨KeepsOthers.refl _,iu HG.o.2 HQ.o hix,HI.o.old⟩
 case zL=>rintro D ch W hD ⟨⟨rfl,h1⟩,hb⟩ hdf;refine ⟨by simp,.inl ⟨_,_,rfl,run_takeDeferred hdf,?_⟩⟩;exact ⟨by rw [h1];exact .inr ⟨by decide,rfl⟩,Below.book hb (Book.put W _ _ hD hdf rfl) AG⟩
 case done=>
  rintro D xs W hD rfl hI hdf;have IC:AI (∀(j:Nat) (m:Int×AQ) (q:Cj),xs[j]? =some m->cs[j]? =some q->q.index=m.1):=AA (fun j m q h1 h2=>hI.ok j m q (BD.1 h1).1 h1 h2);have HD:=AA hD;have X7:=AA hdf;have K2:=AA hI.box;have K3:=AA hI.mI;have K4:=AA hI.cnt;have HB:=AA hI.old;have c4:=hI.cnt.cell 0;have f4:=hI.cnt.frozen 0;have l4:=hI.cnt.lt;simp only [Ak,Al] at c4;clear hI hdf;refine Ir (Gd (n:=1) (Dr.2 ?_));go_wp2_with fail;have K25:=AA (K2.o.far (p:=⟨w.heap.size+1+1,0,none⟩) (Ki rS) (AE AF 0));have K35:=AA (K3.o.far (p:=⟨w.heap.size+1+1,0,none⟩) (Ki (Ib _)) (AE AF 0));have K45:=AA (K4.o.put 0 (AE AF 0));have CP:AI (AK w (W.setCell ⟨w.heap.size+1+1,0,none⟩ (AE AF 0))):=AA (HB.o.setCell Yo _);have ADO:AI ((W.setCell ⟨w.heap.size+1+1,0,none⟩ (AE AF 0)).heap[D]? =some (.deferred (some []))):=AA ((D6 W _ _ D (by show D≠w.heap.size+1+1;omega)).trans X7.o);clear K2 K3 K4 HB c4 f4 l4 X7;generalize W.setCell ⟨w.heap.size+1+1,0,none⟩ (AE AF 0)=W5 at *;refine Ir (Gd (n:=1) (Dr.2 ?_));go_wp2_with (first
   | (refine Bv rfl 96 (.tmp 2) rfl w.heap.size rfl 96 X (0,0) _ K25.o underlying96 rfl HXS.o ?_)
   | (go_at_call 57;refine (HM.o _).mono ?_;rintro e w6 ⟨rfl,rfl⟩)
   | fail)
  obtain ⟨k6,b6,s6⟩:=bx W5 X 96;generalize (W5.alloc (AO X 96))=W6 at k6 b6 s6 ⊢;obtain ⟨g6,NI⟩:=Ad W5.heap.size;rw [<-NI] at k6 s6 ⊢;have hd5:D < W5.heap.size:=(C6.1 ADO.o).1;have hd4:=HD.o;have K26:=AA (K25.o.below b6 K25.o.lt);have K36:=AA (K35.o.below b6 K35.o.lt);have K46:=AA (K45.o.below b6 K45.o.lt);have K66:=AA k6;have Fu:=AA (AV CP.o b6);have AIq:AI (W6.heap[D]? =some (.deferred (some []))):=AA ((b6.block D hd5).trans ADO.o);clear k6 b6 K25 K35 K45 CP ADO;refine VN ?_;refine TM rfl (gf:=81) (lb:=#[AW (some ⟨g6,0,none⟩)]) rfl (enters_of func81 AJ rfl) (wX.o W6 (w.heap.size+1+1) g6 Fu.o AG AG K66.o) (fun _=>rfl) xs.length
   (fun pre W=>YE (fun m q=>FO Aw r.root many m.2 q=true) xs cs X RR w pre W/\W.heap[D]? =some (.deferred (some [])))
   (fun ch W=>(ch=G4 60/\Ik Aw r.root many xs cs=60)/\AK w W/\W.heap[D]? =some (.deferred (some [])))
   (fun s A C h t=>⟨h.1.below t,(t.block D (C6.1 h.2).1).trans h.2⟩) (fun s A C h b=>⟨h.1.book b AG,(b.block D AG).trans h.2⟩) (fun s A h=>h.1.le) (fun A C h=>h.others) (fun A B C h k=>h.trans k) (fun W l o o' hl _ _=>KX.put W o' hl AG)
   ⟨⟨rfl,Av _,fun j m q h=>absurd h (YJ _),K46.o,Fu.o,K26.o,K36.o⟩,AIq.o⟩
   (fun x a' W=>∃Bx,(w.heap.size+1+1 < Bx/\AZ W Bx 34 (yA x.2))/\a'={tmps:=#[.agg X,.agg RR,AW (some ⟨w.heap.size,0,none⟩),AW (some ⟨w.heap.size+1,0,none⟩),AW (some ⟨w.heap.size+1+1,0,none⟩),undef,undef,AW (some ⟨Bx,0,none⟩),undef,.agg X,.func (.func 81) #[] #[AW (some ⟨w.heap.size+1+1+1,0,none⟩)],undef,undef,undef,undef,undef,undef,undef,undef,undef,undef,undef,undef,undef,undef,.agg X,.func (.func 81) #[] #[AW (some ⟨g6,0,none⟩)],AE AF x.1,AP (yA x.2),undef,undef,undef,undef,undef,undef,undef,undef,undef,undef,undef,undef,undef,undef,undef,undef,undef,undef,undef,undef,undef],defers:=[]}) (fun x a' A C h b=>by obtain ⟨Bx,⟨h1,h2⟩,h3⟩:=h;exact ⟨Bx,⟨h1,F4 h2 b⟩,h3⟩)
   ?assign ?body ?done ?zL
  case assign=>
   rintro l pre x W hI hG hsz;have hxl:=(Zi.o x (CS hG.2)).1;have hzb:=Iq W 34;have CY:=AA Gm;have H9:=AA hxl;have HI:=AA hI;clear hI hG hxl
   dsimp only [tL]
   gi_wp2_with (refine JQ rfl 34 (.tmp 7) (.tmp 28) rfl W.heap.size x.2 rfl rfl 34 (yA (zeros 32)) hzb.1 CY.o DU H9.o ?_;intro w7 k7 hb7 EJ)
   have hbW:=((Ae W.heap.size W).alloc (Ac _) _).trans hb7;exact ⟨(KeepsOthers.alloc _ _).trans (TE.others ⟨EJ,_,_,_,hzb.1⟩),(KX.refl _ _ _ _).below hbW AG AG,⟨HI.o.1.below hbW,(hbW.block D AG).trans HI.o.2⟩,by omega⟩
  case body=>
   rintro l pre x a' W ⟨hI,hD2⟩ hG ⟨Bx,⟨hBx,hbx⟩,rfl⟩ hsz;have hpl:pre.length < nc:=by rw [<-Zh.o];exact (BD.1 hG.2).1
   obtain ⟨lb,lo,q,B1,m1,d1,C1,m2,d2,rfl,hlb,hq,hs1,hs2,hcell⟩:=OJ (H5.o.mono Bd hI.old) hpl;obtain ⟨hxl,hxr⟩:=Zi.o x (CS hG.2);obtain ⟨k,hk⟩:=Ad pre.length;have hpn:(k:Int) < (nc:Int):=AG
   have hp0:(0:Int)<=(k:Int):=AG
   obtain ⟨vk,hvk⟩:∃vk:Int,vk=if FO Aw r.root many x.2 q=true then 0 else 60:=⟨_,rfl⟩
   have HC:AI (∀W',AK W W'->W'.cell? ⟨w.heap.size+1,5,none⟩=some (AE AF r.places)/\W'.cell? ⟨w.heap.size,74,none⟩=some (AE AF s.width)/\W'.cell? ⟨w.heap.size,71,none⟩=some (AB (some ⟨lb,lo,none⟩) nc cc)/\W'.cell? ⟨w.heap.size+1+1,0,none⟩=some (AE AF k)):=AA (fun W' hW=>by have b:=hI.below hW;exact ⟨(b.mI.cell 5).trans S6.o,(b.box.cell 74).trans HXC.o.2,(b.box.cell 71).trans HXC.o.1,by rw [hk];exact b.cnt.cell 0⟩)
   have HL:AI (∀W',AK W W'->(Instr.loadAt 34 (AW (some ⟨w.heap.size+1,6,none⟩))).run prog W'=.ok (AP (yA r.root)) W'/\(Instr.loadAt 34 (AW (some ⟨Bx,0,none⟩))).run prog W'=.ok (AP (yA x.2)) W'/\(Instr.loadAt 71 (AW (some ⟨lb,lo+k*3,none⟩))).run prog W'=.ok (AP #[AE AF q.index,AB B1 m1 d1,AB C1 m2 d2]) W'):=AA (fun W' hW=>by
    have b:=hI.below hW;refine ⟨FV _ 6 Vz.o (fun j v hv=> ?_),Si Bx x.2 hxl W' (hbx.below hW hbx.lt),?_⟩
    ·rw [b.mI.cell,HRR.o,rdA,yA,Yc AX,Ak]
     simpa using hv
    have hr:W'.rangeAt lb (lo+k*3) [AE AF q.index,AB B1 m1 d1,AB C1 m2 d2]:=fun j v hj=>(hW.cell (p:=⟨lb,lo+k*3+j,none⟩) hlb).trans (by rw [hk];exact hcell j v hj);simp only [Instr.loadAt,Instr.sureAddr,Ck,DC,Result.andThen_ok,Q7 W' lb (lo+k*3) 71 _ _ hr underlying71 rfl AJ])
   have HV:AI (∀W',AK W W'->AS prog 64 #[AP (yA r.root),AE AF many,AP (yA x.2),AP #[AE AF q.index,AB B1 m1 d1,AB C1 m2 d2]] W' fun e w'=>e=AU (AE AF vk)/\AK W' w'):=AA (fun W' hW=>by rw [hvk];exact fh r.root x.2 many q _ _ W' Vz.o hxl hxr ((I0.o.below hI.old).below hW) (hs1.mono BK hW) (hs2.mono BK hW))
   have hmul:IntKind.i64.wrap (r.places*s.width)=many:=by rw [Lh.o];exact CN _ (by have h1:0<=r.places*s.width:=Kj HPS.o.1 HW.o.1;have h2:r.places*s.width<=1000*1000:=PN HPS.o.2 HW.o.2 HW.o.1 AG;omega)
   have I7:prog.follows .mixedOrders=true:=AJ
   have hC:∀ops,ops.all Pv=true->Clear (Fence.wide.inRound l) ops:=fun ops h=>⟨fun _=>trivial,h⟩;have hS:AK W W.drew:=(Ae _ _).drew;have HI:=AA hI;have HG:=AA hG;have HQ:=AA hq;have HK:=AA hk;have SF:=AA hpl;have HD2:=AA hD2;have HVK:=AA hvk;clear hcell hI hG hq hs1 hs2 hk hpl hD2 hbx hxl hxr hvk;refine wpIn_block (wpIn_seq ?_);refine rhB (fun W'=>AK W W') 16 _ I7 AJ rfl ?_;refine EG (hC _ AJ) 0 29 AJ rfl rfl Aj hS rfl Lt ?_;refine EG (hC _ AJ) 1 30 AJ rfl rfl Aj hS rfl (v:=AP (yA r.root)) (fun W hW=>Cs rfl AJ (HL.o W hW).1) ?_;refine EG (hC _ AJ) 2 31 AJ rfl rfl Aj hS rfl Lt ?_;refine EG (hC _ AJ) 3 32 AJ rfl rfl Aj hS rfl Lt ?_;refine EG (hC _ AJ) 4 33 AJ rfl rfl Aj hS rfl Lt ?_;refine EG (hC _ AJ) 5 34 AJ rfl rfl Aj hS rfl Lt ?_;refine EG (hC _ AJ) 6 35 AJ rfl rfl Aj hS rfl (v:=AE AF many) eZ ?_;refine EG (hC _ AJ) 7 36 AJ rfl rfl Aj hS rfl (v:=AP (yA x.2)) (fun W hW=>Cs rfl AJ (HL.o W hW).2.1) ?_;refine EG (hC _ AJ) 8 37 AJ rfl rfl Aj hS rfl Lt ?_;refine EG (hC _ AJ) 9 38 AJ rfl rfl Aj hS rfl Lt ?_;refine EG (hC _ AJ) 10 39 AJ rfl rfl Aj hS rfl Lt ?_;refine EG (hC _ AJ) 11 40 AJ rfl rfl Aj hS rfl Lt ?_;refine EG (hC _ AJ) 12 41 AJ rfl rfl Aj hS rfl Lt ?_;refine EG (hC _ AJ) 13 42 AJ rfl rfl Aj hS rfl (v:=AP #[AE AF q.index,AB B1 m1 d1,AB C1 m2 d2]) (fun W hW=>Cs rfl AJ (HL.o W hW).2.2) ?_;refine rhF (hC _ AJ) 14 43 AJ rfl rfl rfl rfl (enters_of func64 AJ rfl) P9 (CallsIn.inRound l (Et.2 (HV.o _ hS))) AJ ?_;rintro e W' ⟨rfl,hb'⟩;have hS':AK W W':=hS.trans hb';refine ⟨_,rfl,hS',?_⟩;refine Ui (hC _ AJ) 15 8 43 AJ rfl rfl Aj hS' rfl (.inr rfl) rfl ?_;refine rhD AJ ?_ _;simp only [Ct,DF];have c4:=(HC.o W' hS').2.2.2;have hI':=HI.o.below hS';have f4:=hI'.cnt.frozen 0;have l4:=hI'.cnt.lt;have SB:=AA hS';have HI':=AA hI';have AJG:w.heap.size+1+1 < W6.heap.size:=AG
   clear hC hS hS' hb' hI' hmul;by_cases hv:FO Aw r.root many x.2 q=true
   ·obtain rfl:vk=0:=by rw [HVK.o,Ao hv]
    gi_wp2_with (first
     | (refine ⟨trivial,(CallsIn.inRound l (Et.2 (Eg 0 _))).mono ?_⟩;rintro e w8 ⟨⟨v,rfl⟩,rfl⟩)
     | fail)
    have hk:=HK.o;have hk1:=SF.o;have hk2:=AGY.o;rw [RD ((k:Int)+1) AG];subst hk;have hle:=SB.o.size;exact .inl ⟨trivial,(KeepsOthers.of_grownBy (row:=none) (MV SB.o _) AX).trans (KeepsOthers.setCell _ _ _),((KX.refl _ _ _ _).below SB.o AG AG).VX 0 _ AG AG,HI.o.push HG.o HQ.o hv SB.o,(D6 _ _ _ D (by show D≠w.heap.size+1+1;omega)).trans ((SB.o.block D AG).trans HD2.o)⟩
   obtain rfl:vk=60:=by rw [HVK.o,Ai hv]
   gi_wp2_with (first
    | (refine ⟨trivial,(CallsIn.inRound l (Et.2 (DN 60 _))).mono ?_⟩;rintro e w8 ⟨rfl,rfl⟩)
    | fail)
   exact .inr ⟨_,rfl,trivial,KeepsOthers.of_grownBy (row:=none) (MV SB.o _) AX,⟨rfl,uI IC.o HG.o.2 HQ.o hv⟩,HI'.o.old,(SB.o.block D AG).trans HD2.o⟩
  case zL=>
   rintro D' ch W' hD' ⟨⟨rfl,h1⟩,hb,hdD⟩ hdf;have hne:D≠D':=AG
   refine ⟨by simp,.inl ⟨_,_,rfl,run_takeDeferred hdf,?_⟩⟩;refine ⟨by simp,.inl ⟨_,_,rfl,run_takeDeferred ((World.putObj_heap_other AG).trans hdD),?_⟩⟩;exact ⟨by rw [h1];exact .inr ⟨by decide,rfl⟩,Below.book (Below.book hb (Book.put W' _ _ hD' hdf rfl) AG) (Book.put (n₀:=w.heap.size) _ _ _ AG ((World.putObj_heap_other AG).trans hdD) rfl) (Ac _)⟩
  rintro D' ys W' hD' rfl ⟨hI,hdD⟩ hdf;have hne:D≠D':=AG
  refine ⟨by simp,.inl ⟨_,_,rfl,run_takeDeferred hdf,?_⟩⟩;refine ⟨by simp,.inl ⟨_,_,rfl,run_takeDeferred ((World.putObj_heap_other AG).trans hdD),?_⟩⟩;exact ⟨_,results_none rfl _ _ _,.inl ⟨Mb.2 (fun j m q h1 h2=>⟨IC.o j m q h1 h2,hI.ok j m q (BD.1 h1).1 h1 h2⟩),_,rfl⟩,Below.book (Below.book hI.old (Book.put W' _ _ hD' hdf rfl) AG) (Book.put (n₀:=w.heap.size) _ _ _ AG ((World.putObj_heap_other AG).trans hdD) rfl) (Ac _)⟩
end Go.Proofs.YtamhoilkpppdbaaGreatDoor
