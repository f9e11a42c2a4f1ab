import Derived.Test.YtpmpddfgifhlbaaGreatDoorM10
namespace Go.Proofs.YtpmpddfgifhlbaaGreatDoor
set_option maxHeartbeats 8000000
set_option maxRecDepth 100000
open Go renaming World→AH, Value→AK, Calls→AS
open Go.Proofs.Tryz
open Go.Value renaming slice→AA, int→AB, pointer→AU, agg→AO
open Go.IntKind renaming i64→AE
open Go.Ending renaming returned→AV
open Go.Obj renaming cells→AQ
open Go.RowKit Go.Shelf
attribute [local go_sem] Oper.semAt_some
theorem Ag.heap {α:Type} {sz:Nat} {R:AH->List AK->α->Prop} (hR:∀w w' cs x,R w cs x->R w' cs x) {w W:AH} {v:AK} {l:List α} (h:Ag sz R w v l) (hb:∀b,b < w.heap.size->W.heap[b]? =w.heap[b]?) (hs:w.heap.size<=W.heap.size):Ag sz R W v l:=by obtain ⟨A,cap,e,h1,h2,h3⟩:=h;refine ⟨A,cap,e,h1,h2,fun i x hi=> ?_⟩;obtain ⟨b,off,cs,rfl,hlt,hl,hc,hr⟩:=h3 i x hi;exact ⟨b,off,cs,rfl,Ay hlt hs,hl,fun j u hu=>(Lz (hb b hlt)).trans (hc j u hu),hR _ _ _ _ hr⟩
theorem KX.put {n e g l:Nat} (W:AH) (o:Obj) (hn:n<=l) (hg:g < l):KX n e g W (W.putObj l o):=
 ⟨by simp [World.putObj],fun b h1 _=>World.putObj_heap_other AG,World.putObj_heap_other AG,fun t=>MW (World.putObj_heap_other AG) (by simp [World.putObj]) t⟩
theorem KX.book {n k e g:Nat} {w A C:AH} (h:KX n e g w A) (b:Book k A C) (hn:n<=k) (hg:g < k) (hk:0 < k):KX n e g w C:=
 ⟨BF h.size b.size,fun i h1 h2=>(b.block i AG).trans (h.same i h1 h2),(b.block g hg).trans h.box,fun t=>MW (b.block 0 hk) b.size (h.tab t)⟩
theorem KX.VU {n e g:Nat} {A C:AH} (h:KX n e g A C) (o:Nat) (v:AK) (hg:e≠g) (h0:e≠0):KX n e g A (C.setCell ⟨e,o,none⟩ v):=
 ⟨by simpa [World.setCell] using h.size,fun b h1 h2=>(EB C _ v b (fun x=>h2 x)).trans (h.same b h1 h2),(EB C _ v g (fun x=>hg x.symm)).trans h.box,fun t=>MW (EB C _ v 0 (fun x=>h0 x.symm)) (by simp [World.setCell]) (h.tab t)⟩
def AI2 (k:Int) (e:Ending):Prop:=(k=0/\∃v,e=AV v)\/(k≠0/\e=.panicked (G0 k))
theorem jM {root:AP} {many:Int} {ms:List (Int×AP)} {cs:List Cd} {j:Nat} {m:Int×AP} {q:Cd} (h1:ms[j]? =some m) (h2:cs[j]? =some q) (h:¬q.index=m.1):Il Aq root many ms cs=190:=by unfold Il;rw [Ah];intro e;unfold dN at e;rw [Dr] at e;have:=e (m,q) (Ci (i:=j) tU);exact h (Fj this)
theorem vX {root:AP} {many:Int} {ms:List (Int×AP)} {cs:List Cd} {j:Nat} {m:Int×AP} {q:Cd} (hi:∀(j:Nat) (m:Int×AP) (q:Cd),ms[j]? =some m->cs[j]? =some q->q.index=m.1) (h1:ms[j]? =some m) (h2:cs[j]? =some q) (h:¬C7 Aq root many m.2 q=true):Il Aq root many ms cs=60:=by
 unfold Il;rw [Am,Ah]
 ·intro e
  unfold yQ at e;rw [Dr] at e;exact h (e (m,q) (Ci (i:=j) tU))
 unfold dN;rw [Dr];rintro ⟨m,q⟩ hp;obtain ⟨j,hj,e⟩:=Yj hp;have e2:(ms.zip cs)[j]? =some (m,q):=by rw [BJ hj,e]
 rw [Ig] at e2;exact Bg (hi j m q e2.1 e2.2)
theorem pq (h:AP):∀i,∀x∈NQ h i,0<=x/\x < 256
 |
  0,x,hx=>by
  rw [NQ,zeros,List.mem_replicate] at hx;omega
 |
  i+1,x,hx=>by
  rcases Yu hx with h1 | rfl
  · exact pq h i x h1
  · exact ⟨Int.emod_nonneg _ BE,Int.emod_lt_of_pos _ BE⟩
theorem AD6 (ps:List (AP)):∀x∈O8 ps,0<=x/\x < 256:=by rw [O8];exact pq _ 32
theorem uD (t b:AP):(Aq t b).length=32/\∀x∈Aq t b,0<=x/\x < 256:=by refine ⟨C3 t b,?_⟩;rw [Aq];exact AD6 _
theorem uP (a b c:Int) (d:AP):(msgP Aq a b c d).length=32/\∀x∈msgP Aq a b c d,0<=x/\x < 256:=by rw [msgP];exact uD AB9 (d++Mf [a,b,c])
theorem oR (a b:Int) (c d:AP):(Ko Aq a b c d).length=32/\∀x∈Ko Aq a b c d,0<=x/\x < 256:=by rw [Ko];exact uD AFb (d++c++Mf [a,b])
theorem AGN {H:AP->AP->AP} {Pd:AP->Prop} {first present schema:Int} {holder:AP} {fs vs ls:AP} {ts:List (AP)} (h1:∀a b c d,Pd (msgP H a b c d)) (h2:∀a b c d,Pd (Ko H a b c d)):∀m∈Fb H first present schema holder fs vs ls ts,Pd m.2:=by
 intro m hm;simp only [Fb,FC,LC,Jq,Df,Fk] at hm;rcases hm with (⟨p,_,rfl⟩ | ⟨p,_,rfl⟩) | rfl
 · exact h1 _ _ _ _
 · exact h2 _ _ _ _
 · exact h1 _ _ _ _
theorem oN {first present schema:Int} {holder:AP} {fs vs ls:AP} {ts:List (AP)}:∀m∈Fb Aq first present schema holder fs vs ls ts,m.2.length=32/\∀x∈m.2,0<=x/\x < 256:=
 AGN (Pd:=fun d=>d.length=32/\∀x∈d,0<=x/\x < 256) uP oR
structure YU (Pq:Int×AP->Cd->Prop) (ms:List (Int×AP)) (cs:List Cd) (X RR:Array AK) (w:AH) (pre:List (Int×AP)) (W:AH):Prop where
 oE:pre=ms.take pre.length
 le:pre.length<=ms.length
 ok:∀(j:Nat) (m:Int×AP) (q:Cd),j < pre.length->ms[j]? =some m->cs[j]? =some q->Pq m q
 cnt:AZ W (w.heap.size+1+1) 3 #[AB AE (pre.length:Int)]
 old:AJ w W
 box:AZ W w.heap.size 88 X
 nj:AZ W (w.heap.size+1) 36 RR
section
variable {Pq:Int×AP->Cd->Prop} {ms:List (Int×AP)} {cs:List Cd} {X RR:Array AK} {w:AH} {pre:List (Int×AP)} {A C:AH}
theorem YU.below (h:YU Pq ms cs X RR w pre A) (t:AJ A C):YU Pq ms cs X RR w pre C:=
 ⟨h.oE,h.le,h.ok,h.cnt.below t h.cnt.lt,AW h.old t,h.box.below t h.box.lt,h.nj.below t h.nj.lt⟩
theorem YU.book {k:Nat} (h:YU Pq ms cs X RR w pre A) (b:Book k A C) (hk:w.heap.size<=k):YU Pq ms cs X RR w pre C:=
 ⟨h.oE,h.le,h.ok,F6 h.cnt b,Below.book h.old b hk,F6 h.box b,F6 h.nj b⟩
theorem YU.push {x:Int×AP} {q:Cd} (h:YU Pq ms cs X RR w pre A) (hG:GM ms pre x) (hq:cs[pre.length]? =some q) (hp:Pq x q) (t:AJ A C):YU Pq ms cs X RR w (pre++[x]) (C.setCell ⟨w.heap.size+1+1,0,none⟩ (AB AE ((pre.length:Int)+1))):=by
 have hl:(pre++[x]).length=pre.length+1:=Ac
 have hlt:=(BA.1 hG.2).1;have h':=h.below t;refine ⟨?_,by omega,fun j m q' hj hm hq'=> ?_,?_,h'.old.setCell bf _,h'.box.far (Ks tG) _,h'.nj.far (Ks (Ie _)) _⟩
 · rw [hl,<-(Uz hG.2).2,<-hG.1]
 ·by_cases e:j=pre.length
  ·subst e
   rw [hG.2] at hm;rw [hq] at hq';cases hm;cases hq';exact hp
  · exact h.ok j m q' AG hm hq'
 have:=h'.cnt.put 0 (AB AE ((pre.length:Int)+1));rw [hl];exact this
end
theorem Vy (s:Iq) (FA VA LA TA CA:Option Addr) (nf cf nv cv nl cl nt ct nc cc:Nat) (fs vs ls:AP) (ts:List (AP)) (cs:List Cd) (r:CS) (w:AH)
 (hF:s.fields=AA FA nf cf) (hV:s.values=AA VA nv cv) (hL:s.links=AA LA nl cl) (hT:s.tokens=AA TA nt ct) (hCl:s.claims=AA CA nc cc)
 (h1:Ag 1 CF w (AA FA nf cf) fs) (h2:Ag 1 CF w (AA VA nv cv) vs) (h3:Ag 1 CF w (AA LA nl cl) ls) (h4:Ag 32 CQ w (AA TA nt ct) ts) (h5:Ag 3 Dc w (AA CA nc cc) cs)
 (hh:s.holder.length=32) (ht:s.token.length=32) (hro:r.root.length=32) (hfv:nf<=nv) (hlt:nl<=nt) (hnc:nc=nf+nl+1) (hsc:EZ s.schema)
 (hpl:0<=s.place/\s.place<=1000) (hw:0<=s.width/\s.width<=1000) (hpr:0<=s.present/\s.present<=1000) (hfr:∀f∈fs,0<=f/\f<=1000) (hlr:∀l∈ls,0<=l/\l<=1000) (hps:0<=r.places/\r.places<=1000) (MJ:Cc w):
 AS prog 34 #[AO (I9 s),AO (rdA r)] w fun e w'=>AI2 (Il Aq r.root (r.places*s.width) (Fb Aq (s.place*s.width) s.present s.schema s.holder fs vs ls ts) cs) e/\AJ w w':=by
 obtain ⟨ms,hms⟩:=Ab (Fb Aq (s.place*s.width) s.present s.schema s.holder fs vs ls ts);obtain ⟨many,O2⟩:=Ab (r.places*s.width);obtain ⟨X,hX⟩:=Ab (I9 s);obtain ⟨RR,hRR⟩:=Ab (rdA r);rw [<-hms,<-O2,<-hX,<-hRR];have du:AI ((prog.info? 88).map (·.size)=some X.size):=AF (by rw [hX,Pu hh ht];exact ACm);have HM:AI (∀W,AS prog 49 #[.agg X] W fun e w'=>e=AV (.func (.func 72) #[] #[AU (some ⟨W.heap.size,0,none⟩)])/\w'=W.alloc (AQ X 88)):=AF (fun W=>by rw [hX];exact Xf s W);obtain ⟨HX,HRR,YM,NI,Hk,H5,V4,HNC,HW,HPS⟩:=bw hX hRR hms O2 MJ h5 hro hnc hw hps;have HXC:AI (X[71]? =some (AA CA nc cc)/\X[74]? =some (AB AE s.width)):=AF (by
  rw [hX,I9,shL];have hl:([Value.int .i64 s.Au,Value.int .i64 s.round,Value.int .i64 s.schema,Value.int .i64 s.place]++s.holder.map (Value.int .u8)++[s.fields,s.values,Value.int .i64 s.link]++s.token.map (Value.int .u8)).length=71:=by simp [hh,ht]
  rw [Ai,Ai,Cf AG,Cf AG,hl,hCl];exact ⟨rfl,rfl⟩)
 have YH:AI (RR[5]? =some (AB AE r.places)):=AF (by rw [hRR,rdA,Ri Ac];rfl);have yZ:AI (∀(W:AH) (e g:Nat),AJ w W->w.heap.size<=e->e < W.heap.size->AZ W g 88 X->yU Fence.wide 2 prog 72 #[AU (some ⟨g,0,none⟩)] uQ TB (KX W.heap.size e g) (GM ms) (fun xs=>xs=ms) W):=AF (fun W e g hb he1 he2 hg=>by
  rw [hX] at hg;rw [hms];have hsl:∀W',KX W.heap.size e g W W'->∀b,b < w.heap.size->W'.heap[b]? =w.heap[b]? :=fun W' k b hlt=>(k.same b (Ay hlt hb.size) AG).trans (hb.block b hlt);exact uO 2 W.heap.size e g s FA VA LA TA nf cf nv cv nl cl nt ct fs vs ls ts W hF hV hL hT
   (fun W' k=>⟨h1.heap Iz (hsl W' k) (BF hb.size k.size),h2.heap Iz (hsl W' k) (BF hb.size k.size),h3.heap Iz (hsl W' k) (BF hb.size k.size),h4.heap Iz (hsl W' k) (BF hb.size k.size)⟩)
   hg hh ht (Ad _) hfv hlt hsc hpl hw hpr hfr hlr (MJ.below hb))
 have Zp:AI (ms.length=nc):=AF (by rw [hms,hnc];have e1:=h1.len;have e2:=h2.len;have e3:=h3.len;have e4:=h4.len;simp [Fb,FC,LC];omega)
 have Zq:AI (∀m∈ms,m.2.length=32/\∀x∈m.2,0<=x/\x < 256):=AF (by rw [hms];exact oN);have AId:AI (nc<=9223372036854775807):=AF (by have:=h5.le;omega);clear hX hRR hms O2 MJ h1 h2 h3 h4 h5 hfr hlr hF hV hL hT hCl hh ht hro hnc hpl hw hpr hps hsc;refine WU func34 rfl ?_;simp only [ntmps34,Pb,Fl,Ph,Nat.reduceAdd,Nat.reduceSub,UO,UQ,UK,UN,Ic,Lx];refine Iv (Gk (n:=1) (Dq.2 ?_));go_wp2_with fail;obtain ⟨k1,b1,s1⟩:=bx w X 88;generalize (w.alloc (AQ X 88))=w1 at k1 b1 s1 ⊢;obtain ⟨k2,b2,s2⟩:=bx w1 RR 36;generalize (w1.alloc (AQ RR 36))=w2 at k2 b2 s2 ⊢;rw [s1] at k2 b2 s2;refine Iv (Gk (n:=1) (Dq.2 ?_));go_wp2_with fail
 -- THE RANGES
 obtain ⟨k3,b3,s3⟩:=bx w2 #[AB AE 0] 3;generalize (w2.alloc (AQ #[AB AE 0] 3))=w3 at k3 b3 s3 ⊢;rw [s2] at k3 b3 s3;obtain ⟨K2,K3,K4,HB3⟩:=CJ ((k1.below b2 AG).below b3 AG) (k2.below b3 AG) k3 ((b1.trans (b2.mono AG)).trans (b3.mono AG));have H3:AI (w3.heap.size=w.heap.size+1+1+1):=AF AG;clear k1 b1 s1 k2 b2 s2 k3 b3 s3;refine Iv (Iv (Gk (n:=1) (Dq.2 ?_)));go_wp2_with (first
  | (refine Cm rfl 88 (.tmp 2) rfl w.heap.size rfl 88 X (0,0) _ K2.o underlying88 rfl du.o ?_)
  | (go_at_call 49;refine (HM.o _).mono ?_;rintro e w4 ⟨rfl,rfl⟩)
  | fail)
 obtain ⟨k5,b5,s5⟩:=bx w3 X 88;generalize (w3.alloc (AQ X 88))=w4 at k5 b5 s5 ⊢;have h3:=H3.o;rw [h3] at k5 ⊢;obtain ⟨um,jg,K44,K54,HB4⟩:=EG (K2.o.below b5 AG) (K3.o.below b5 AG) (K4.o.below b5 AG) k5 (HB3.o.trans (b5.mono AG));have H4:AI (w4.heap.size=w.heap.size+1+1+1+1):=AF AG;clear k5 b5 s5 h3 K2 K3 K4 HB3 H3;have hs4:=H4.o;refine VK ?_;refine Tj rfl (gf:=72) (lb:=#[AU (some ⟨w.heap.size+1+1+1,0,none⟩)]) rfl (enters_of func72 AL rfl) (yZ.o w4 (w.heap.size+1+1) (w.heap.size+1+1+1) HB4.o AG AG K54.o) (fun _=>rfl) ms.length
  (YU (fun m q=>q.index=m.1) ms cs X RR w)
  (fun ch W=>(ch=G0 190/\Il Aq r.root many ms cs=190)/\AJ w W)
  (fun s A C h t=>h.below t) (fun s A C h b=>h.book b AG) (fun s A h=>h.le) (fun A C h=>h.others) (fun A B C h k=>h.trans k) (fun W l o o' hl _ _=>KX.put W o' hl AG)
  ⟨rfl,Ar _,fun j m q h=>absurd h (Yb _),K44.o,HB4.o,um.o,jg.o⟩
  (fun x a' _=>a'={tmps:=#[.agg X,.agg RR,AU (some ⟨w.heap.size,0,none⟩),AU (some ⟨w.heap.size+1,0,none⟩),AU (some ⟨w.heap.size+1+1,0,none⟩),AB AE x.1,undef,undef,undef,.agg X,.func (.func 72) #[] #[AU (some ⟨w.heap.size+1+1+1,0,none⟩)],AB AE x.1,AO (yA x.2),undef,undef,undef,undef,undef,undef,undef,undef,undef,undef,undef,undef,undef,undef,undef,undef,undef,undef,undef,undef,undef,undef,undef,undef,undef,undef,undef,undef,undef,undef,undef,undef,undef,undef,undef,undef,undef],defers:=[]}) (fun x a' A C h _=>h)
  ?assign ?body ?done ?pan
 case assign=>
  rintro l pre x W hI hG hsz
  dsimp only [uQ]
  have HI:=AF hI;clear hI
  gi_wp2_with fail
  exact ⟨KeepsOthers.refl _,KX.refl _ _ _ _,HI.o⟩
 case body=>
  rintro l pre x a' W hI hG rfl hsz;have hpl:pre.length < nc:=by rw [<-Zp.o];exact (BA.1 hG.2).1
  obtain ⟨lb,lo,q,B1,m1,d1,C1,m2,d2,rfl,hlb,hq,hs1,hs2,hcell⟩:=P2 (H5.o.mono CD hI.old) hpl;have hpn:((pre.length:Nat):Int) < (nc:Int):=AG
  have hp0:(0:Int)<=((pre.length:Nat):Int):=AG
  have c4:=hI.cnt.cell 0;have f4:=hI.cnt.frozen 0;have l4:=hI.cnt.lt;simp only [Ai,An] at c4;have c71:W.cell? ⟨w.heap.size,71,none⟩=some (AA (some ⟨lb,lo,none⟩) nc cc):=(hI.box.cell 71).trans HXC.o.1;have e0:W.cell? ⟨lb,lo+pre.length*3,none⟩=some (AB AE q.index):=hcell 0 _ rfl;obtain ⟨k,hk⟩:=Ab pre.length;rw [<-hk] at hpn hp0 c4 e0;obtain ⟨HI,HG,HQ,HK,WZ⟩:=EG hI hG hq hk hpl;clear hcell hI hG hq hs1 hs2 hk hpl;by_cases hix:q.index=x.1
  ·gi_wp2_with (first
    | (refine ⟨trivial,(CallsIn.inRound l (Ey.2 (Eh 190 _))).mono ?_⟩;rintro e w5 ⟨⟨v,rfl⟩,rfl⟩)
    | fail)
   have hk:=HK.o;rw [Yr ((k:Int)+1) (by have:=WZ.o;have:=AId.o;omega)];subst hk;exact ⟨KeepsOthers.setCell _ _ _,(KX.refl _ _ _ _).VU 0 _ AG AG,HI.o.push HG.o HQ.o hix (Af _ _)⟩
  gi_wp2_with (first
   | (rw [show (q.index==x.1)=false from by simpa using hix];refine ⟨trivial,(CallsIn.inRound l (Ey.2 (EH 190 _))).mono ?_⟩;rintro e w5 ⟨rfl,rfl⟩)
   | fail)
  exact ⟨KeepsOthers.refl _,jM HG.o.2 HQ.o hix,HI.o.old⟩
 case pan=>rintro D ch W hD ⟨⟨rfl,h1⟩,hb⟩ hdf;refine ⟨by simp,.inl ⟨_,_,rfl,run_takeDeferred hdf,?_⟩⟩;exact ⟨by rw [h1];exact .inr ⟨by decide,rfl⟩,Below.book hb (Book.put W _ _ hD hdf rfl) AG⟩
 case done=>
  rintro D xs W hD rfl hI hdf;have IA:AI (∀(j:Nat) (m:Int×AP) (q:Cd),xs[j]? =some m->cs[j]? =some q->q.index=m.1):=AF (fun j m q h1 h2=>hI.ok j m q (BA.1 h1).1 h1 h2);obtain ⟨HD,YP,K2,K3,K4,HB⟩:=FR hD hdf hI.box hI.nj hI.cnt hI.old;have c4:=hI.cnt.cell 0;have f4:=hI.cnt.frozen 0;have l4:=hI.cnt.lt;simp only [Ai,An] at c4;clear hI hdf;refine Iv (Gk (n:=1) (Dq.2 ?_));go_wp2_with fail;obtain ⟨K25,K35,K45⟩:=Az (K2.o.far (p:=⟨w.heap.size+1+1,0,none⟩) (Ks tG) (AB AE 0)) (K3.o.far (p:=⟨w.heap.size+1+1,0,none⟩) (Ks (Ie _)) (AB AE 0)) (K4.o.put 0 (AB AE 0));have CW:AI (AJ w (W.setCell ⟨w.heap.size+1+1,0,none⟩ (AB AE 0))):=AF (HB.o.setCell bf _);have AFE:AI ((W.setCell ⟨w.heap.size+1+1,0,none⟩ (AB AE 0)).heap[D]? =some (.deferred (some []))):=AF ((EB W _ _ D (by show D≠w.heap.size+1+1;omega)).trans YP.o);clear K2 K3 K4 HB c4 f4 l4 YP;generalize W.setCell ⟨w.heap.size+1+1,0,none⟩ (AB AE 0)=W5 at *;refine Iv (Gk (n:=1) (Dq.2 ?_));go_wp2_with (first
   | (refine Cm rfl 88 (.tmp 2) rfl w.heap.size rfl 88 X (0,0) _ K25.o underlying88 rfl du.o ?_)
   | (go_at_call 49;refine (HM.o _).mono ?_;rintro e w6 ⟨rfl,rfl⟩)
   | fail)
  obtain ⟨k6,b6,s6⟩:=bx W5 X 88;generalize (W5.alloc (AQ X 88))=W6 at k6 b6 s6 ⊢;obtain ⟨g6,NF⟩:=Ab W5.heap.size;rw [<-NF] at k6 s6 ⊢;have hd5:D < W5.heap.size:=(Cz.1 AFE.o).1;have hd4:=HD.o;obtain ⟨K26,K36,K46,K66,FK⟩:=EG (K25.o.below b6 K25.o.lt) (K35.o.below b6 K35.o.lt) (K45.o.below b6 K45.o.lt) k6 (AW CW.o b6);have ALJ:AI (W6.heap[D]? =some (.deferred (some []))):=AF ((b6.block D hd5).trans AFE.o);clear k6 b6 K25 K35 K45 CW AFE;refine VK ?_;refine Tj rfl (gf:=72) (lb:=#[AU (some ⟨g6,0,none⟩)]) rfl (enters_of func72 AL rfl) (yZ.o W6 (w.heap.size+1+1) g6 FK.o AG AG K66.o) (fun _=>rfl) xs.length
   (fun pre W=>YU (fun m q=>C7 Aq r.root many m.2 q=true) xs cs X RR w pre W/\W.heap[D]? =some (.deferred (some [])))
   (fun ch W=>(ch=G0 60/\Il Aq r.root many xs cs=60)/\AJ w W/\W.heap[D]? =some (.deferred (some [])))
   (fun s A C h t=>⟨h.1.below t,(t.block D (Cz.1 h.2).1).trans h.2⟩) (fun s A C h b=>⟨h.1.book b AG,(b.block D AG).trans h.2⟩) (fun s A h=>h.1.le) (fun A C h=>h.others) (fun A B C h k=>h.trans k) (fun W l o o' hl _ _=>KX.put W o' hl AG)
   ⟨⟨rfl,Ar _,fun j m q h=>absurd h (Yb _),K46.o,FK.o,K26.o,K36.o⟩,ALJ.o⟩
   (fun x a' W=>∃Bx,(w.heap.size+1+1 < Bx/\AZ W Bx 34 (yA x.2))/\a'={tmps:=#[.agg X,.agg RR,AU (some ⟨w.heap.size,0,none⟩),AU (some ⟨w.heap.size+1,0,none⟩),AU (some ⟨w.heap.size+1+1,0,none⟩),undef,undef,AU (some ⟨Bx,0,none⟩),undef,.agg X,.func (.func 72) #[] #[AU (some ⟨w.heap.size+1+1+1,0,none⟩)],undef,undef,undef,undef,undef,undef,undef,undef,undef,undef,undef,undef,undef,undef,.agg X,.func (.func 72) #[] #[AU (some ⟨g6,0,none⟩)],AB AE x.1,AO (yA x.2),undef,undef,undef,undef,undef,undef,undef,undef,undef,undef,undef,undef,undef,undef,undef,undef,undef,undef,undef,undef,undef],defers:=[]}) (fun x a' A C h b=>by obtain ⟨Bx,⟨h1,h2⟩,h3⟩:=h;exact ⟨Bx,⟨h1,F6 h2 b⟩,h3⟩)
   ?assign ?body ?done ?pan
  case assign=>
   rintro l pre x W hI hG hsz;have hxl:=(Zq.o x (Ci hG.2)).1;have hzb:=Ir W 34;obtain ⟨CV,Fx,HI⟩:=Az Du hxl hI;clear hI hG hxl
   dsimp only [uQ]
   gi_wp2_with (refine JV rfl 34 (.tmp 7) (.tmp 28) rfl W.heap.size x.2 rfl rfl 34 (yA (zeros 32)) hzb.1 CV.o EO Fx.o ?_;intro w7 k7 hb7 DZ)
   have hbW:=((Af W.heap.size W).alloc (Ad _) _).trans hb7;exact ⟨(KeepsOthers.alloc _ _).trans (TE.others ⟨DZ,_,_,_,hzb.1⟩),(KX.refl _ _ _ _).below hbW AG AG,⟨HI.o.1.below hbW,(hbW.block D AG).trans HI.o.2⟩,by omega⟩
  case body=>
   rintro l pre x a' W ⟨hI,hD2⟩ hG ⟨Bx,⟨hBx,hbx⟩,rfl⟩ hsz;have hpl:pre.length < nc:=by rw [<-Zp.o];exact (BA.1 hG.2).1
   obtain ⟨lb,lo,q,B1,m1,d1,C1,m2,d2,rfl,hlb,hq,hs1,hs2,hcell⟩:=P2 (H5.o.mono CD hI.old) hpl;obtain ⟨hxl,hxr⟩:=Zq.o x (Ci hG.2);obtain ⟨k,hk⟩:=Ab pre.length;have hpn:(k:Int) < (nc:Int):=AG
   have hp0:(0:Int)<=(k:Int):=AG
   obtain ⟨vk,hvk⟩:∃vk:Int,vk=if C7 Aq r.root many x.2 q=true then 0 else 60:=⟨_,rfl⟩
   have HC:AI (∀W',AJ W W'->W'.cell? ⟨w.heap.size+1,5,none⟩=some (AB AE r.places)/\W'.cell? ⟨w.heap.size,74,none⟩=some (AB AE s.width)/\W'.cell? ⟨w.heap.size,71,none⟩=some (AA (some ⟨lb,lo,none⟩) nc cc)/\W'.cell? ⟨w.heap.size+1+1,0,none⟩=some (AB AE k)):=AF (fun W' hW=>by have b:=hI.below hW;exact ⟨(b.nj.cell 5).trans YH.o,(b.box.cell 74).trans HXC.o.2,(b.box.cell 71).trans HXC.o.1,by rw [hk];exact b.cnt.cell 0⟩)
   have HL:AI (∀W',AJ W W'->(Instr.loadAt 34 (AU (some ⟨w.heap.size+1,6,none⟩))).run prog W'=.ok (AO (yA r.root)) W'/\(Instr.loadAt 34 (AU (some ⟨Bx,0,none⟩))).run prog W'=.ok (AO (yA x.2)) W'/\(Instr.loadAt 62 (AU (some ⟨lb,lo+k*3,none⟩))).run prog W'=.ok (AO #[AB AE q.index,AA B1 m1 d1,AA C1 m2 d2]) W'):=AF (fun W' hW=>by
    have b:=hI.below hW;refine ⟨EY _ 6 V4.o (fun j v hv=> ?_),Qe Bx x.2 hxl W' (hbx.below hW hbx.lt),?_⟩
    ·rw [b.nj.cell,HRR.o,rdA,yA,Yt Ac,Ai]
     simpa using hv
    have hr:W'.rangeAt lb (lo+k*3) [AB AE q.index,AA B1 m1 d1,AA C1 m2 d2]:=fun j v hj=>(hW.cell (p:=⟨lb,lo+k*3+j,none⟩) hlb).trans (by rw [hk];exact hcell j v hj);simp only [Instr.loadAt,Instr.sureAddr,Cs,DL,Result.andThen_ok,RV W' lb (lo+k*3) 62 _ _ hr underlying62 rfl AL])
   have HV:AI (∀W',AJ W W'->AS prog 57 #[AO (yA r.root),AB AE many,AO (yA x.2),AO #[AB AE q.index,AA B1 m1 d1,AA C1 m2 d2]] W' fun e w'=>e=AV (AB AE vk)/\AJ W' w'):=AF (fun W' hW=>by rw [hvk];exact Uv r.root x.2 many q _ _ W' V4.o hxl hxr ((Hk.o.below hI.old).below hW) (hs1.mono BL hW) (hs2.mono BL hW))
   have hmul:IntKind.i64.wrap (r.places*s.width)=many:=by rw [NI.o];exact Bv _ (by have h1:0<=r.places*s.width:=JH HPS.o.1 HW.o.1;have h2:r.places*s.width<=1000*1000:=PZ HPS.o.2 HW.o.2 HW.o.1 AG;omega)
   have DE:prog.follows .mixedOrders=true:=AL
   have hC:∀ops,ops.all P0=true->Clear (Fence.wide.inRound l) ops:=fun ops h=>⟨fun _=>trivial,h⟩;have hS:AJ W W.drew:=(Af _ _).drew;obtain ⟨HI,HG,HQ,HK,WZ,HD2,HVK⟩:=LW hI hG hq hk hpl hD2 hvk;clear hcell hI hG hq hs1 hs2 hk hpl hD2 hbx hxl hxr hvk;refine wpIn_block (wpIn_seq ?_);refine rhB (fun W'=>AJ W W') 16 _ DE AL rfl ?_;refine EP (hC _ AL) 0 29 AL rfl rfl Al hS rfl NU ?_;refine EP (hC _ AL) 1 30 AL rfl rfl Al hS rfl (v:=AO (yA r.root)) (fun W hW=>Ch rfl AL (HL.o W hW).1) ?_;refine EP (hC _ AL) 2 31 AL rfl rfl Al hS rfl NU ?_;refine EP (hC _ AL) 3 32 AL rfl rfl Al hS rfl NU ?_;refine EP (hC _ AL) 4 33 AL rfl rfl Al hS rfl NU ?_;refine EP (hC _ AL) 5 34 AL rfl rfl Al hS rfl NU ?_;refine EP (hC _ AL) 6 35 AL rfl rfl Al hS rfl (v:=AB AE many) fV ?_;refine EP (hC _ AL) 7 36 AL rfl rfl Al hS rfl (v:=AO (yA x.2)) (fun W hW=>Ch rfl AL (HL.o W hW).2.1) ?_;refine EP (hC _ AL) 8 37 AL rfl rfl Al hS rfl NU ?_;refine EP (hC _ AL) 9 38 AL rfl rfl Al hS rfl NU ?_;refine EP (hC _ AL) 10 39 AL rfl rfl Al hS rfl NU ?_;refine EP (hC _ AL) 11 40 AL rfl rfl Al hS rfl NU ?_;refine EP (hC _ AL) 12 41 AL rfl rfl Al hS rfl NU ?_;refine EP (hC _ AL) 13 42 AL rfl rfl Al hS rfl (v:=AO #[AB AE q.index,AA B1 m1 d1,AA C1 m2 d2]) (fun W hW=>Ch rfl AL (HL.o W hW).2.2) ?_;refine rhF (hC _ AL) 14 43 AL rfl rfl rfl rfl (enters_of func57 AL rfl) QG (CallsIn.inRound l (Ey.2 (HV.o _ hS))) AL ?_;rintro e W' ⟨rfl,hb'⟩;have hS':AJ W W':=hS.trans hb';refine ⟨_,rfl,hS',?_⟩;refine Uq (hC _ AL) 15 8 43 AL rfl rfl Al hS' rfl (.inr rfl) rfl ?_;refine rhD AL ?_ _;simp only [Bp,B9];have c4:=(HC.o W' hS').2.2.2;have hI':=HI.o.below hS';have f4:=hI'.cnt.frozen 0;have l4:=hI'.cnt.lt;obtain ⟨Sk,HI'⟩:=Aj hS' hI';have AMw:w.heap.size+1+1 < W6.heap.size:=AG
   clear hC hS hS' hb' hI' hmul;by_cases hv:C7 Aq r.root many x.2 q=true
   ·obtain rfl:vk=0:=by rw [HVK.o,Am hv]
    gi_wp2_with (first
     | (refine ⟨trivial,(CallsIn.inRound l (Ey.2 (Eh 0 _))).mono ?_⟩;rintro e w8 ⟨⟨v,rfl⟩,rfl⟩)
     | fail)
    have hk:=HK.o;have hk1:=WZ.o;have hk2:=AId.o;rw [Yr ((k:Int)+1) AG];subst hk;have hle:=Sk.o.size;exact .inl ⟨trivial,(KeepsOthers.of_grownBy (row:=none) (Mb Sk.o _) Ac).trans (KeepsOthers.setCell _ _ _),((KX.refl _ _ _ _).below Sk.o AG AG).VU 0 _ AG AG,HI.o.push HG.o HQ.o hv Sk.o,(EB _ _ _ D (by show D≠w.heap.size+1+1;omega)).trans ((Sk.o.block D AG).trans HD2.o)⟩
   obtain rfl:vk=60:=by rw [HVK.o,Ah hv]
   gi_wp2_with (first
    | (refine ⟨trivial,(CallsIn.inRound l (Ey.2 (EH 60 _))).mono ?_⟩;rintro e w8 ⟨rfl,rfl⟩)
    | fail)
   exact .inr ⟨_,rfl,trivial,KeepsOthers.of_grownBy (row:=none) (Mb Sk.o _) Ac,⟨rfl,vX IA.o HG.o.2 HQ.o hv⟩,HI'.o.old,(Sk.o.block D AG).trans HD2.o⟩
  case pan=>
   rintro D' ch W' hD' ⟨⟨rfl,h1⟩,hb,hdD⟩ hdf;have hne:D≠D':=AG
   refine ⟨by simp,.inl ⟨_,_,rfl,run_takeDeferred hdf,?_⟩⟩;refine ⟨by simp,.inl ⟨_,_,rfl,run_takeDeferred ((World.putObj_heap_other AG).trans hdD),?_⟩⟩;exact ⟨by rw [h1];exact .inr ⟨by decide,rfl⟩,Below.book (Below.book hb (Book.put W' _ _ hD' hdf rfl) AG) (Book.put (n₀:=w.heap.size) _ _ _ AG ((World.putObj_heap_other AG).trans hdD) rfl) (Ad _)⟩
  rintro D' ys W' hD' rfl ⟨hI,hdD⟩ hdf;have hne:D≠D':=AG
  refine ⟨by simp,.inl ⟨_,_,rfl,run_takeDeferred hdf,?_⟩⟩;refine ⟨by simp,.inl ⟨_,_,rfl,run_takeDeferred ((World.putObj_heap_other AG).trans hdD),?_⟩⟩;exact ⟨_,results_none rfl _ _ _,.inl ⟨Mi.2 (fun j m q h1 h2=>⟨IA.o j m q h1 h2,hI.ok j m q (BA.1 h1).1 h1 h2⟩),_,rfl⟩,Below.book (Below.book hI.old (Book.put W' _ _ hD' hdf rfl) AG) (Book.put (n₀:=w.heap.size) _ _ _ AG ((World.putObj_heap_other AG).trans hdD) rfl) (Ad _)⟩
end Go.Proofs.YtpmpddfgifhlbaaGreatDoor
