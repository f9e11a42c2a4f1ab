import Derived.Test.YtamhoilkpppdbaaGreatDoorL13
namespace Go.Proofs.YtamhoilkpppdbaaGreatDoor
set_option maxHeartbeats 8000000
set_option maxRecDepth 100000
open Go renaming World→AH, Value→AN, Calls→AS, TypeId→Ae, Program→BE
open Go.Proofs.Tryz
open Go.Value renaming slice→AA, int→AB, pointer→AU, agg→AP
open Go.IntKind renaming i64→AE
open Go.Ending renaming returned→AW
open Go.Obj renaming cells→AO
open Go.RowKit Go.Shelf
attribute [local go_sem] Oper.semAt_some
theorem De {P:BE} {fn:Func} {R:Ending->AH->Prop} {d p:Nat} {ty:Ae} (hr:fn.results=#[.cell p ty]) (hd:d≠p):∀c (a:Act) v w,Leaves P fn (a.put (some d) v).tmps R (a.put (some d) v).defers (.panicking c) w->Leaves P fn a.tmps R a.defers (.panicking c) w:=
 fun c a v w h=>EQ (K:=fun _ _=>True) hr hd c a v w h
theorem AFB {α:Type} {l:List α} {j:Nat} {x:α} (h:l[j]? =some x):l.drop j=x::l.drop (j+1):=by obtain ⟨hl,rfl⟩:=BF.1 h;exact Ut hl
theorem pW {n:Nat}:∀{l:AQ} {last:Int},last < n->Nh n last l=true->(l.length:Int)<=n - 1 - last
 | [],last,h,_=>by simp;omega
 |
  f::l,last,_,h=>by
  simp only [Nh,Bb,By] at h;have:=pW (l:=l) h.1.2 h.2;rw [F6];omega
theorem U7 {P:BE} {w:AH} {ops:Array Oper} {rest:List Oper} {o:Oper} {a:Act} {Q:Exit->Act->AH->Prop} (hw:Region.wanted o (yielded ops a.tmps)=true) (ty:Ae) (x:Operand) (ho:o.op=.load ty x) (p v:AN) (hx:a.eval x=p) (h:(Instr.loadAt ty p).run P w=.ok v w)
 (hk:wpList P ops Q rest (a.put o.dst v) w):wpList P ops Q (o::rest) a w:=
 Uu hw fun _ hK=>by unfold Oper.wp execOp;exact AA7
theorem Tb {P:BE} {w:AH} {ops:Array Oper} {rest:List Oper} {o:Oper} {a:Act} {Q:Exit->Act->AH->Prop} (hw:Region.wanted o (yielded ops a.tmps)=true) (t:Ae) (ho:o.op=.build t #[]) (cells:Array AN) (h:P.built t []=some cells)
 (hk:wpList P ops Q rest (a.put o.dst (.agg cells)) w):wpList P ops Q (o::rest) a w:=
 Uu hw fun K hK=>wp_build (P:=P) t #[] ho (by simp [h]) (by simp only [Uj,NF,h];exact hK _ _ hk)
theorem ABH {tmps:Array AN} {w W:AH} {g:Nat} {e k:Int} {R:Ending->AH->Prop} (hg:tmps.getD 6 undef=AU (some ⟨g,0,none⟩)) (hk:W.cell? ⟨g,0,none⟩=some (AB AE k)) (hz:W.frozen? ⟨g,0,none⟩=false) (hlt:g < W.heap.size) (hgw:w.heap.size<=g) (hb:AK w W)
 (hR:∀w'',AK w w''->R (AW (AB AE e)) w''):Leaves prog f15 tmps R [{target:=.fn (.func 45) #[AU (some ⟨g,0,none⟩)],args:=#[]}] (.panicking (Hk e)) W:=by
 refine OP (f:=45) (args:=#[AU (some ⟨g,0,none⟩)]) AZ LS ?_;refine (Zv g k e W hk hz hlt).mono ?_;rintro en u' w'' ⟨rfl,rfl,hc,hb'⟩;have hg':tmps[6]?.getD undef=AU (some ⟨g,0,none⟩):=by simpa using hg
 exact ⟨_,by simp [results,results15,hg',asAddr,go_sem,hc],hR _ (hb.trans (hb' _ hgw))⟩
theorem AGH {tmps:Array AN} {W:AH} {g:Nat} {e:Int} {R:Ending->AH->Prop} (hg:tmps.getD 6 undef=AU (some ⟨g,0,none⟩)) (hk:W.cell? ⟨g,0,none⟩=some (AB AE e)) (hR:R (AW (AB AE e)) W):
 Leaves prog f15 tmps R [{target:=.fn (.func 45) #[AU (some ⟨g,0,none⟩)],args:=#[]}] .returning W:=by
 refine OP (f:=45) (args:=#[AU (some ⟨g,0,none⟩)]) AZ LS ?_;refine (Zw ⟨g,0,none⟩ W).mono ?_;rintro en u' w'' ⟨rfl,rfl,rfl⟩;have hg':tmps[6]?.getD undef=AU (some ⟨g,0,none⟩):=by simpa using hg
 exact ⟨_,by simp [results,results15,hg',asAddr,go_sem,hk],hR⟩
theorem ew (
 v0 v1 v3 v4 v5 v6:AN) (A:Option Addr) (n c:Nat) (ns:List Nat) (ck:Int) (val:Int->Int->Int->Bool) (r:Br) (q:Ha) (FA VA KA:Option Addr) (fn fc vn vc kn kc:Nat) (w:AH) (hs:Ag 6 Kx w (AA A n c) ns)
 (hK:PU (AP #[v0,v1,AA A n c,v3,v4,v5]) (AP #[v0,v1,AA A n c,v3,v4,v5,v6]) ck val w) (hf:Ag 1 Bt w (AA FA fn fc) q.fields) (hv:Ag 1 Bt w (AA VA vn vc) q.values) (hk:Ag 3 Cy w (AA KA kn kc) q.claims)
 (hh:q.holder.length=32) (ht:q.token.length=32) (hli:FI q.link) (hro:r.root.length=32) (LC:Cc w):
 AS prog 15 #[AP #[v0,v1,AA A n c,v3,v4,v5,v6],AP (rdA r),AP (Em ⟨q.Ar,q.round,q.schema,q.place,q.holder,AA FA fn fc,AA VA vn vc,q.link,q.token,AA KA kn kc,AA none 0 0,AA none 0 0,0,0⟩)] w fun e w'=>
  e=AW (AB AE (DJ Aw ck (Ba ns r.schema) (val r.schema) r q))/\AK w w':=by
 obtain ⟨p,hp⟩:=Ad (⟨q.Ar,q.round,q.schema,q.place,q.holder,AA FA fn fc,AA VA vn vc,q.link,q.token,AA KA kn kc,AA none 0 0,AA none 0 0,0,0⟩:JS);rw [<-hp];obtain ⟨RR,hRR⟩:=Ad (rdA r);obtain ⟨Y,hY⟩:=Ad (Em p);obtain ⟨res,hres⟩:=Ad (DJ Aw ck (Ba ns r.schema) (val r.schema) r q);have Wo:p.holder.length=32:=by rw [hp];exact hh
 have hpt:p.token.length=32:=by rw [hp];exact ht
 rw [<-hY,<-hRR,<-hres];have Yf:AI ((prog.info? 57).map (·.size)=some Y.size):=AF (by rw [hY,G0 Wo hpt];exact iH);have MN:AI ((prog.info? 36).map (·.size)=some RR.size):=AF Uh;have Mj:AI (∀W g,AY W g 57 Y->SwB W g p):=AF (fun W g h=>by rw [hY] at h;exact JO h Wo hpt);have Lm:AI (RR[0]? =some (AB AE r.Ar)/\RR[1]? =some (AB AE r.no)/\RR[2]? =some (AB AE r.schema)/\RR[5]? =some (AB AE r.places)):=AF nZ
 have Ou:AI (∀W,AK w W->AS prog 27 #[AP #[v0,v1,AA A n c,v3,v4,v5,v6],.agg RR] W fun e w'=>e=AW (.bool (Gk (Ba ns r.schema) r.places))/\AK W w'):=AF (fun W hW=>by rw [hRR];exact YI v0 v1 v3 v4 v5 v6 A n c ns r W (hs.mono Di hW));have HPT:AI (∀(k x:Nat) (W:AH),AK w W->ns[k]? =some x->q.schema=k->AS prog 47 #[AP #[v0,v1,AA A n c,v3,v4,v5,v6],.agg Y] W fun e w'=>∃L T,e=AW (AP (JW ⟨q.Ar,q.round,q.schema,q.place,q.holder,AA FA fn fc,AA VA vn vc,q.link,q.token,AA KA kn kc,L,T,(x:Int)+4+1,(x:Int)+4⟩))/\Ag 1 Bt w' L (if 0<=q.link then [q.link] else [])/\Ag 32 CP w' T (if 0<=q.link then [q.token] else [])/\AK W w'):=AF (fun k x W hW hx hsc=>by rw [hY,hp];exact ADW v0 v1 v3 v4 v5 v6 A n c ns k x ⟨q.Ar,q.round,q.schema,q.place,q.holder,AA FA fn fc,AA VA vn vc,q.link,q.token,AA KA kn kc,AA none 0 0,AA none 0 0,0,0⟩ W (hs.mono Di hW) hx hh ht hsc rfl rfl rfl hli)
 obtain ⟨TM,HLI,HF,TP,Lh,HK,HS,HV,J6,I7,WY,HPH⟩:=QX ht hli hf hh hK.chk hK hs hv hk LC hro Wo;obtain ⟨HP,Hb,HRR,HY⟩:=CD hp hres hRR hY;clear hs hK hf hv hk hh ht hli hro LC Wo hpt hp hres hRR hY;have hmf:∀(fn:Fn) (first cap:Array AN) (w:AH),(Instr.makeFunc fn first cap).run prog w=.ok (.func fn first cap) w:=fun _ _ _ _=>rfl
 go_enter_defers func15,ntmps15
 go_upto_region 2 with fail;obtain ⟨k1,b1,s1⟩:=bx w #[v0,v1,AA A n c,v3,v4,v5,v6] 32;generalize (w.alloc (AO #[v0,v1,AA A n c,v3,v4,v5,v6] 32))=w1 at k1 b1 s1 ⊢;obtain ⟨k2,b2,s2⟩:=bx w1 RR 36;generalize (w1.alloc (AO RR 36))=w2 at k2 b2 s2 ⊢;obtain ⟨k3,b3,s3⟩:=bx w2 Y 57;generalize (w2.alloc (AO Y 57))=w3 at k3 b3 s3 ⊢;obtain ⟨k4,b4,s4⟩:=bx w3 #[AB AE 0] 47;generalize (w3.alloc (AO #[AB AE 0] 47))=w4 at k4 b4 s4 ⊢;rw [s1] at k2 b2 s2;rw [s2] at k3 b3 s3;rw [s3] at k4 b4 s4;have Cf:AI (AK w w4):=AF (((b1.trans (b2.mono AG)).trans (b3.mono AG)).trans (b4.mono AG));have H4:AI (w4.heap.size=w.heap.size+1+1+1+1):=AF AG;have HE:AI (∀W,AK w4 W->AY W (w.heap.size+1) 36 RR/\AY W (w.heap.size+1+1) 57 Y/\AY W (w.heap.size+1+1+1) 47 #[AB AE 0]):=AF (fun W hW=>⟨((k2.below b3 AG).below b4 AG).below hW AG,(k3.below b4 AG).below hW AG,k4.below hW AG⟩);have HD:AI (∀W,AK w4 W->W.cell? ⟨w.heap.size,0,none⟩=some v0/\W.cell? ⟨w.heap.size,1,none⟩=some v1/\W.cell? ⟨w.heap.size,2,none⟩=some (AA A n c)/\W.cell? ⟨w.heap.size,3,none⟩=some v3/\W.cell? ⟨w.heap.size,4,none⟩=some v4/\W.cell? ⟨w.heap.size,5,none⟩=some v5/\W.cell? ⟨w.heap.size,6,none⟩=some v6):=AF (fun W hW=>by have b:=(((k1.below b2 AG).below b3 AG).below b4 AG).below hW AG;exact ⟨b.cell 0,b.cell 1,b.cell 2,b.cell 3,b.cell 4,b.cell 5,b.cell 6⟩)
 clear k1 b1 s1 k2 b2 s2 k3 b3 s3 k4 b4 s4;have JN:AI (∀(tmps:Array AN) (W:AH) (e:Int),tmps.getD 6 undef=AU (some ⟨w.heap.size+1+1+1,0,none⟩)->AK w4 W->res=e->Leaves prog f15 tmps (fun e w'=>e=AW (AB AE res)/\AK w w') [{target:=.fn (.func 45) #[AU (some ⟨w.heap.size+1+1+1,0,none⟩)],args:=#[]}] (.panicking (Hk e)) W):=AF (fun tmps W e ht hW he=>by have k:=(HE.o W hW).2.2;refine ABH ht (k.cell 0) (k.frozen 0) k.lt AG (AV Cf.o hW) (fun w'' hb=>⟨by rw [he],hb⟩))
 have Dz:AI (∀W,AK w4 W->(W.cell? ⟨w.heap.size+1+1,0,none⟩=some (AB AE q.Ar)/\W.cell? ⟨w.heap.size+1+1,1,none⟩=some (AB AE q.round)/\W.cell? ⟨w.heap.size+1+1,2,none⟩=some (AB AE q.schema)/\W.cell? ⟨w.heap.size+1+1,3,none⟩=some (AB AE q.place))/\(W.cell? ⟨w.heap.size+1+1,36,none⟩=some (AA FA fn fc)/\W.cell? ⟨w.heap.size+1+1,37,none⟩=some (AA VA vn vc)/\W.cell? ⟨w.heap.size+1+1,38,none⟩=some (AB AE q.link)/\W.cell? ⟨w.heap.size+1+1,71,none⟩=some (AA KA kn kc))/\
  (W.cell? ⟨w.heap.size+1,0,none⟩=some (AB AE r.Ar)/\W.cell? ⟨w.heap.size+1,1,none⟩=some (AB AE r.no)/\W.cell? ⟨w.heap.size+1,2,none⟩=some (AB AE r.schema)/\W.cell? ⟨w.heap.size+1,5,none⟩=some (AB AE r.places))/\(Instr.loadAt 34 (AU (some ⟨w.heap.size+1+1,39,none⟩))).run prog W=.ok (AP (yA q.token)) W):=AF (fun W hW=>by
  obtain ⟨b1,b2,_⟩:=HE.o W hW;have b:=Mj.o _ _ b2;rw [HP.o] at b;exact ⟨⟨b.Ar,b.round,b.schema,b.place⟩,⟨b.fields,b.values,b.link,b.claims⟩,⟨(b1.cell 0).trans Lm.o.1,(b1.cell 1).trans Lm.o.2.1,(b1.cell 2).trans Lm.o.2.2.1,(b1.cell 5).trans Lm.o.2.2.2⟩,Ei _ 39 TM.o b.token⟩)
 obtain ⟨d0,d1,d2,d3,d4,d5,d6⟩:=HD.o w4 (Af _ _);by_cases hck:ck=0
 ·subst hck
  have Co:AI (¬Jj (Ba ns r.schema) (val r.schema) r q=true->res=190):=AF (fun h=>Hb.o.trans (RH h));go_upto_region 3 with (first
   | (
    go_at_call 23;refine (Lh.o _ Cf.o).mono ?_;rintro e w5 ⟨rfl,hb5⟩;obtain ⟨c0,c1,c2,c3,c4,c5,c6⟩:=HD.o w5 hb5;have Cg:=AF hb5;have Nz:=AF (HE.o w5 hb5).1;clear hb5 d0 d1 d2 d3 d4 d5 d6)
   | (go_at_call 38;refine (Ew 160 _).mono ?_;rintro e w6 ⟨⟨v,rfl⟩,rfl⟩))
  cases hft:Gk (Ba ns r.schema) r.places with
  |
   false=>
   rw [hft] at Ou;have HN:=AF (Co.o (fun h=>by have:=(EV.1 h).1.1.1.1.1.1;rw [hft] at this;cases this));clear hft;go_wp2_with (first
    | (refine Ci rfl 36 (.tmp 4) rfl (w.heap.size+1) AJ 36 RR (0,0) _ Nz.o underlying36 rfl MN.o ?_)
    | (
     go_at_call 27;refine (Ou.o _ (AV Cf.o Cg.o)).mono ?_;rintro e w7 ⟨rfl,hb7⟩;have D4:=AF (AV Cg.o hb7);clear hb7)
    | (go_at_call 38;refine (EP 190 _).mono ?_;rintro e w8 ⟨rfl,rfl⟩)
    | fail)
   (refine JN.o _ _ _ ?_ D4.o HN.o;rfl)
  |
   true=>
   rw [hft] at Ou;obtain ⟨x,hnf,hp1,AHx,m8⟩:=ME hft;have AKR:0<=r.schema:=by
    unfold Ba at hnf;split at hnf
    · assumption
    · cases hnf
   obtain ⟨k,hk⟩:∃k:Nat,r.schema=(k:Int):=⟨r.schema.toNat,by omega⟩;have hx:ns[k]? =some x:=by rw [hk,Ba,Ak AG] at hnf;exact hnf
   have hx1:x<=251:=by have h1:1*((x:Int)+4+1)<=r.places*((x:Int)+4+1):=P0 hp1 AG;omega
   obtain ⟨JI,zh⟩:=Al hnf hft;go_upto_region 4 with (first
    | (refine Ci rfl 36 (.tmp 4) rfl (w.heap.size+1) AJ 36 RR (0,0) _ Nz.o underlying36 rfl MN.o ?_)
    | (
     go_at_call 27;refine (Ou.o _ (AV Cf.o Cg.o)).mono ?_;rintro e w7 ⟨rfl,hb7⟩;have D4:=AF (AV Cg.o hb7);clear hb7)
    | (go_at_call 38;refine (Ew 190 _).mono ?_;rintro e w8 ⟨⟨v,rfl⟩,rfl⟩)
    | fail)
   have Lr:=AF hk;clear c0 c1 c2 c3 c4 c5 c6 hft hnf hk;obtain ⟨⟨f0,f1,f2,f3⟩,_,⟨e0,e1,e2,e5⟩,_⟩:=Dz.o _ D4.o;have hcase:(¬q.Ar=r.Ar\/(q.Ar=r.Ar/\¬q.round=r.no)\/(q.Ar=r.Ar/\q.round=r.no/\¬q.schema=r.schema))\/(q.Ar=r.Ar/\q.round=r.no/\q.schema=r.schema):=AG
   rcases hcase with hno | ⟨h1,h2,h3⟩
   ·have HN:=AF (Co.o (fun h=>by have:=(EV.1 h).1.1.1.1.1.2;omega))
    exact AAi
   go_upto_region 5 with (go_at_call 38;refine (Ew 190 _).mono ?_;rintro e w9 ⟨⟨v,rfl⟩,rfl⟩);obtain ⟨Vn,HX,H12⟩:=BB h3 hx (And.intro h1 h2);clear h1 h2 h3 hx f0 f1 e0 e1 e2;have hcase:(¬0<=q.place\/(0<=q.place/\¬q.place < r.places))\/(0<=q.place/\q.place < r.places):=AG
   rcases hcase with hno | ⟨h1,h2⟩
   ·have HN:=AF (Co.o (fun h=>by have:=(EV.1 h).1.1.1.1.2;omega))
    exact AAd
   go_upto_region 6 with (go_at_call 38;refine (Ew 190 _).mono ?_;rintro e w8 ⟨⟨v,rfl⟩,rfl⟩);clear f2 f3 e5;have Fs:prog.follows .mixedOrders=true:=AJ
   have lX:AI (q.schema=(k:Int)):=AF (Vn.o.trans Lr.o);have hkn':k < n:=by rw [HS.o.len];exact (BF.1 HX.o).1
   have hk1:(k:Int) < (n:Int):=AG
   have hk0:=Int.natCast_nonneg k
   obtain ⟨b,off,x',x0,x1,x2,x3,B,cc,x5,hA,hb,hx',hxl,hone,hcell⟩:=Nv HS.o hkn';rw [HX.o] at hx';injection hx' with hx';subst hx';subst hA;have hS:=D4.o.drew;have HE4:AI (∀W,AK w4 W->W.cell? ⟨b,off+k*6+4,none⟩=some (AA B x cc)):=AF (fun W hW=>((AV Cf.o hW).cell (p:=⟨b,off+k*6+4,none⟩) hb).trans (hcell 4 _ rfl));have hsz:(prog.info? 85).map (·.size)=some 6:=AJ
   clear hcell hone;refine Pe (fun W=>AK w4 W) 22 _ Fs AJ rfl ?_;refine Bm 0 50 AJ rfl rfl (De rfl Ai) hS AJ GZ ?_;refine Bm 1 51 AJ rfl rfl (De rfl Ai) hS AJ GZ ?_;refine Bm 2 52 AJ rfl rfl (De rfl Ai) hS AJ GZ ?_;refine Bm 3 53 AJ rfl rfl (De rfl Ai) hS AJ GZ ?_;refine Bm 4 54 AJ rfl rfl (De rfl Ai) hS AJ GZ ?_;refine Bm 5 55 AJ rfl rfl (De rfl Ai) hS AJ GZ ?_;refine Bm 6 56 AJ rfl rfl (De rfl Ai) hS AJ GZ ?_;refine Bm 7 57 AJ rfl rfl (De rfl Ai) hS AJ GZ ?_;refine Bm 8 58 AJ rfl rfl (De rfl Ai) hS AJ GZ ?_;refine Bm 9 59 AJ rfl rfl (De rfl Ai) hS AJ GZ ?_;refine Bm 10 60 AJ rfl rfl (De rfl Ai) hS AJ GZ ?_;refine Wm 11 61 AJ rfl rfl rfl rfl (enters_of func43 AJ rfl) (VX FA fn fc q.fields x _ (HF.o.mono BT (AV Cf.o hS))) AJ ?_;rintro e JC ⟨rfl,AKQ⟩;subst AKQ;refine ⟨_,rfl,hS,?_⟩;cases hin:Nh x (-1) q.fields with
   |
    false=>
    have HN:=AF (Co.o (fun h=>by have:=(EV.1 h).1.1.1.2.1;rw [JI.o] at this;exact Bool.noConfusion (hin.symm.trans this)));refine Bm 12 62 AJ rfl rfl (De rfl Ai) hS AJ GZ ?_;refine Lw 13 63 AJ rfl rfl (De rfl Ai) hS AJ ?_;refine Lw 14 64 AJ rfl rfl (De rfl Ai) hS AJ ?_;refine Lw 15 65 AJ rfl rfl (De rfl Ai) hS AJ ?_;refine Lw 16 66 AJ rfl rfl (De rfl Ai) hS AJ ?_;refine Lw 17 67 AJ rfl rfl (De rfl Ai) hS AJ ?_;refine Lw 18 68 AJ rfl rfl (De rfl Ai) hS AJ ?_;refine Lw 19 69 AJ rfl rfl (De rfl Ai) hS AJ ?_;refine Bm 20 70 AJ rfl rfl (De rfl Ai) hS AJ GZ ?_;refine Xh 21 71 AJ rfl rfl rfl rfl (enters_of func38 AJ rfl) (EP 190 _) AJ ?_;rintro e w12 ⟨rfl,rfl⟩;refine .inr ⟨_,rfl,?_⟩;refine JN.o _ _ _ ?_ hS HN.o;kernel_rfl
   |
    true=>
    refine Bm 12 62 AJ rfl rfl (De rfl Ai) hS AJ GZ ?_;refine Bm 13 63 AJ rfl rfl (De rfl Ai) hS AJ GZ ?_;refine Bm 14 64 AJ rfl rfl (De rfl Ai) hS AJ GZ ?_;refine Bm 15 65 AJ rfl rfl (De rfl Ai) hS AJ GZ ?_;refine Bm 16 66 AJ rfl rfl (De rfl Ai) hS AJ GZ ?_;refine Bm 17 67 AJ rfl rfl (De rfl Ai) hS AJ GZ ?_;refine Bm 18 68 AJ rfl rfl (De rfl Ai) hS AJ GZ ?_;by_cases hvf:vn=fn
    rotate_left
    ·have hkf:((vn:Int)==(fn:Int))=false:=Hf AG
     have HN:=AF (Co.o (fun h=>by have:=(EV.1 h).1.1.1.2.2;have:=HF.o.len;have:=HV.o.len;omega));refine Bm 19 69 AJ rfl rfl (De rfl Ai) hS AJ (v:=.bool false) GV ?_;refine Bm 20 70 AJ rfl rfl (De rfl Ai) hS AJ GV ?_;refine Xh 21 71 AJ rfl rfl rfl rfl (enters_of func38 AJ rfl) (EP 190 _) AJ ?_;rintro e w12 ⟨rfl,rfl⟩;refine .inr ⟨_,rfl,?_⟩;refine JN.o _ _ _ ?_ hS HN.o;kernel_rfl
    subst hvf;refine Bm 19 69 AJ rfl rfl (De rfl Ai) hS AJ (v:=.bool true) GV ?_;refine Bm 20 70 AJ rfl rfl (De rfl Ai) hS AJ GV ?_;refine Xh 21 71 AJ rfl rfl rfl rfl (enters_of func38 AJ rfl) (Ew 190 _) AJ ?_;rintro e w12 ⟨⟨v,rfl⟩,rfl⟩;refine .inl ⟨_,rfl,hS,?_⟩;refine Ed AJ ?_ _;simp only [CZ,Ch];have f36:=(Dz.o _ hS).2.1.1;have LG:=AF hS;have hle:vn<=9223372036854775807:=by have:=HF.o.le;omega
    obtain ⟨Z,hZ⟩:=Ad (q.fields.zip q.values);have HZ:AI (∀(j:Nat) (f v:Int),q.fields[j]? =some f->q.values[j]? =some v->Z[j]? =some (f,v)):=AF (fun j f v h1 h2=>by rw [hZ,JA];exact ⟨h1,h2⟩);have fF:AI (Z.length=vn):=AF (by rw [hZ,List.length_zip,<-HF.o.len,<-HV.o.len,Nat.min_self]);obtain ⟨fE,Rg⟩:=Al hZ hin;clear hS hZ hin;go_upto_region 8 with fail;clear f36;go_loopg [75] vn (fun q' i wr=>∃j:Nat,j<=vn/\q'=vn - j/\i=AB AE j/\(Z.all fun p=>val r.schema p.1 p.2)=((Z.drop j).all fun p=>val r.schema p.1 p.2)/\AK w4 wr)
    case atStart=>exact ⟨0,Ay _,rfl,rfl,rfl,LG.o⟩
    obtain ⟨j,hj,hq,rfl,hall,hbw⟩:=hrel;obtain ⟨HQ,EU,CW⟩:=BB hq hall hbw;have vS:AK w wr:=AV Cf.o hbw;clear hq hall hbw;by_cases hlt:j < vn
    ·obtain ⟨fb,fo,f,rfl,hfb,hf,ef,hf1,hf2⟩:=ints_at (HF.o.mono BT vS) hlt
     obtain ⟨vb,vo,u,rfl,hvb,hu,eu,hu1,hu2⟩:=ints_at (HV.o.mono BT vS) hlt;have hj1:(j:Int) < (vn:Int):=AG
     have hj0:(0:Int)<=(j:Int):=AG
     have hdr:=AFB (HZ.o j f u hf hu);have HEU:AI (∀W,AK wr W->W.cell? ⟨vb,vo+j,none⟩=some (AB AE u)):=AF (fun W hW=>(hW.cell (p:=⟨vb,vo+j,none⟩) hvb).trans eu);have HDR:=AF hdr;clear hf hu eu hdr vS;go_upto_region 10 with fail;have hS:AK w4 wr.drew:=CW.o.drew;have hR:AK wr wr.drew:=(Af _ _).drew;refine Pe (fun W=>AK wr W) 12 _ Fs AJ rfl ?_;refine Bm 0 80 AJ rfl rfl (De rfl Ai) hR AJ Np ?_;refine Bm 1 81 AJ rfl rfl (De rfl Ai) hR AJ Np ?_;refine Bm 2 82 AJ rfl rfl (De rfl Ai) hR AJ Np ?_;refine Bm 3 83 AJ rfl rfl (De rfl Ai) hR AJ Np ?_;refine Bm 4 84 AJ rfl rfl (De rfl Ai) hR AJ Np ?_;refine Bm 5 85 AJ rfl rfl (De rfl Ai) hR AJ Np ?_;refine Bm 6 86 AJ rfl rfl (De rfl Ai) hR AJ Np ?_;refine Bm 7 87 AJ rfl rfl (De rfl Ai) hR AJ Np ?_;refine Bm 8 88 AJ rfl rfl (De rfl Ai) hR AJ Np ?_;refine Bm 9 89 AJ rfl rfl (De rfl Ai) hR AJ Np ?_;refine Wm 10 90 AJ rfl rfl rfl rfl (enters_of func46 AJ rfl) (HK.o.val k f u _ (AV Cf.o hS)) AJ ?_;rintro e JC ⟨rfl,MY⟩;have hS2:AK w4 JC:=AV hS MY;have hR2:AK wr JC:=AV hR MY;refine ⟨_,rfl,hR2,?_⟩;cases hvl:val k f u with
     |
      false=>
      have HN:=AF (Co.o (fun h=>by have h2:=(EV.1 h).1.1.2;rw [<-fE.o,EU.o,HDR.o,Pp,Bb,Lr.o] at h2;exact Bool.noConfusion (hvl.symm.trans h2.1)))
      refine Xh 11 91 AJ rfl rfl rfl rfl (enters_of func38 AJ rfl) (EP 190 _) AJ ?_;rintro e w12 ⟨rfl,rfl⟩;refine .inr ⟨_,rfl,?_⟩;refine JN.o _ _ _ ?_ hS2 HN.o;kernel_rfl
     |
      true=>
      refine Xh 11 91 AJ rfl rfl rfl rfl (enters_of func38 AJ rfl) (Ew 190 _) AJ ?_;rintro e w12 ⟨⟨v,rfl⟩,rfl⟩;refine .inl ⟨_,rfl,hR2,?_⟩;refine Ed AJ ?_ _;simp only [CZ,Ch];obtain ⟨HS2,Vl⟩:=Al hS2 hvl;clear hS hR hS2 hR2 MY hvl;go_wp2;go_roundg (vn - (j+1))
      case measure=>exact Bi
      refine ⟨j+1,by omega,rfl,by go_num,?_,HS2.o⟩;rw [EU.o,HDR.o,Pp,show val r.schema (f,u).1 (f,u).2=true by rw [Lr.o];exact Vl.o,Jc]
    have hjv:j=vn:=AG
    have HALT:AI ((Z.all fun p=>val r.schema p.1 p.2)=true):=AF (by rw [EU.o,FQ (by rw [fF.o];omega)];rfl);subst hjv;have hvx:(j:Int)<=251:=by have h:=pW (n:=x) (l:=q.fields) (last:= -1) AG Rg.o;have h2:=HF.o.len;omega
    obtain ⟨tz,htz⟩:∃tz,tz=decide (q.token=zeros 32):=⟨_,rfl⟩;have hde:∀W,(Op.equalIn 10000 34 (AP (yA q.token)) (AP (yA (zeros 32)))).run prog W=.ok tz W:=fun W=>by rw [htz];exact Zq TM.o rfl W
    have hgd:=TD;have w1:IntKind.i64.wrap ((j:Int)+1)=(j:Int)+1:=Ca _ AG;have w2:IntKind.i64.wrap ((j:Int)+1+1)=(j:Int)+1+1:=Ca _ AG;obtain ⟨⟨f0,f1,f2,f3⟩,⟨f36,f37,f38,f71⟩,⟨e0,e1,e2,e5⟩,hld⟩:=Dz.o wr CW.o;obtain ⟨Pg,HTZ⟩:=Al hld htz;clear f0 f1 f3 e0 e1 e2 e5 hld htz EU vS;have hcase:(¬ -1<=q.link\/(-1<=q.link/\¬q.link < 4))\/(-1<=q.link/\q.link < 4):=AG
    rcases hcase with hno | ⟨hl1,hl2⟩
    ·have HN:=AF (Co.o (fun h=>by have:=(EV.1 h).1.2.1;omega))
     rcases hno with h | ⟨hl1,h⟩
     all_goals go_wp2_with (go_at_call 38;refine (EP 190 _).mono ?_;rintro e w9 ⟨rfl,rfl⟩)
     all_goals (refine JN.o _ _ _ ?_ CW.o HN.o;rfl)
    by_cases hl3:q.link= -1
    ·cases tz with
     |
      false=>
      have HN:=AF (Co.o (fun h=>by
       have h2:=(EV.1 h).1.2.2;rcases h2 with h2 | h2
       · exact h2 hl3
       · exact R8 HTZ.o.symm h2))
      go_wp2_with (first
       | (refine U7 AJ 34 (.tmp 106) rfl _ _ rfl Pg.o ?_)
       | (refine Tb AJ 34 rfl (yA (zeros 32)) AJ ?_)
       | (go_at_call 38;refine (EP 190 _).mono ?_;rintro e w9 ⟨rfl,rfl⟩)
       | fail)
      (refine JN.o _ _ _ ?_ CW.o HN.o;rfl)
     |
      true=>
      go_upto_region 16 with (first
       | (refine U7 AJ 34 (.tmp 106) rfl _ _ rfl Pg.o ?_)
       | (refine Tb AJ 34 rfl (yA (zeros 32)) AJ ?_)
       | (go_at_call 38;refine (Ew 190 _).mono ?_;rintro e w9 ⟨⟨v,rfl⟩,rfl⟩)
       | fail)
      by_cases hkm:kn=j+1
      rotate_left
      ·have HN:=AF (Co.o (fun h=>by have h2:=(EV.1 h).2;rw [Ak hl3] at h2;have:=HF.o.len;have:=J6.o.len;omega))
       have hkf:((kn:Int)==(j:Int)+1)=false:=Hf AG;go_wp2_with (go_at_call 38;refine (EP 190 _).mono ?_;rintro e w9 ⟨rfl,rfl⟩)
       (refine JN.o _ _ _ ?_ CW.o HN.o;rfl)
      have hkt:((kn:Int)==(j:Int)+1)=true:=beq_iff_eq.2 AG;have Vq:=AF hkm;clear hkm;go_upto_region 17 with (go_at_call 38;refine (Ew 190 _).mono ?_;rintro e w9 ⟨⟨v,rfl⟩,rfl⟩);have hkm:=Vq.o;have hS3:=CW.o.drew;have hrl:res=JG Aw r.root (r.places*((x:Int)+4+1)) (Gt Aw (q.place*((x:Int)+4+1)) ((x:Int)+4) q.schema q.holder q.fields q.values (if 0<=q.link then [q.link] else []) (if 0<=q.link then [q.token] else [])) q.claims:=by have hok:Jj (Ba ns r.schema) (val r.schema) r q=true:=EV.2 ⟨⟨⟨⟨⟨⟨zh.o,H12.o,Vn.o⟩,⟨h1,h2⟩⟩,by rw [JI.o];exact Rg.o,by have:=HF.o.len;have:=HV.o.len;omega⟩,by rw [<-fE.o];exact HALT.o⟩,⟨hl1,hl2⟩,.inr (F4 HTZ.o.symm)⟩,by rw [Ak hl3];have:=HF.o.len;have:=J6.o.len;omega⟩;rw [Hb.o,DJ,Ah AZ,Ak hok,JI.o];rfl
      have T8:=AF hrl;have Yr:AI (∀W,AK w4 W->(Instr.loadAt 57 (AU (some ⟨w.heap.size+1+1,0,none⟩))).run prog W=.ok (.agg Y) W/\(Instr.loadAt 36 (AU (some ⟨w.heap.size+1,0,none⟩))).run prog W=.ok (.agg RR) W):=AF (fun W hW=>by obtain ⟨b1,b2,_⟩:=HE.o W hW;exact ⟨by simp only [Instr.loadAt,Instr.sureAddr,Cp,DL,Result.andThen_ok,NL W _ 57 57 Y (0,0) _ b2 underlying57 rfl Yf.o],by simp only [Instr.loadAt,Instr.sureAddr,Cp,DL,Result.andThen_ok,NL W _ 36 36 RR (0,0) _ b1 underlying36 rfl MN.o]⟩)
      refine Pe (fun W=>AK w4 W) 5 _ Fs AJ rfl ?_;refine Bm 0 128 AJ rfl rfl (De rfl Ai) hS3 AJ nY ?_;refine Bm 1 129 AJ rfl rfl (De rfl Ai) hS3 AJ (v:=.agg Y) (fun W hW=>Cv rfl AJ (Yr.o W hW).1) ?_;refine Bm 3 131 AJ rfl rfl (De rfl Ai) hS3 AJ (v:=.agg RR) (fun W hW=>Cv rfl AJ (Yr.o W hW).2) ?_;refine Wm 2 130 AJ rfl rfl rfl rfl (enters_of func47 AJ rfl) (HPT.o k x _ (AV Cf.o hS3) HX.o lX.o) AJ ?_;rintro e EH ⟨L,T,rfl,hL,hT,S4⟩;have hS4:AK w4 EH:=AV hS3 S4;have Ni:AK w EH:=AV Cf.o hS4;refine ⟨_,rfl,hS4,?_⟩;obtain ⟨MA,mc,rfl⟩:=hL.form;obtain ⟨NA,nc',rfl⟩:=hT.form;have PK:=WU ⟨q.Ar,q.round,q.schema,q.place,q.holder,AA FA j fc,AA VA j vc,q.link,q.token,AA KA kn kc,AA MA _ mc,AA NA _ nc',(x:Int)+4+1,(x:Int)+4⟩ FA VA MA NA KA j fc j vc _ mc _ nc' kn kc q.fields q.values _ _ q.claims r EH rfl rfl rfl rfl rfl (HF.o.mono BT Ni) (HV.o.mono BT Ni) hL hT (J6.o.mono Bc Ni)
       TP.o TM.o WY.o (Ac _) (by rw [Ah (by omega:¬0<=q.link),Ah (by omega:¬0<=q.link)];exact Ac _) (by rw [Ah (by omega:¬0<=q.link)];show kn=j+0+1;omega) nX
       gY cz cx (fun f hf=>by have:=QI Rg.o f hf;omega) (fun l hl=>by rw [Ah (by omega:¬0<=q.link)] at hl;cases hl) AG (I7.o.below Ni)
      rw [<-HRR.o] at PK;refine Xh 4 132 AJ rfl rfl rfl rfl (enters_of func41 AJ rfl) PK AJ ?_;rintro e If ⟨hR,QK⟩;have hS5:AK w4 If:=AV hS4 QK;rcases hR with ⟨h0,v,rfl⟩ | ⟨hne,rfl⟩
      ·refine .inl ⟨_,rfl,hS5,?_⟩
       exact AAt
      exact nu
    go_upto_region 16 with (go_at_call 38;refine (Ew 190 _).mono ?_;rintro e w9 ⟨⟨v,rfl⟩,rfl⟩);by_cases hkm:kn=j+2
    rotate_left
    ·have HN:=AF (Co.o (fun h=>by have h2:=(EV.1 h).2;rw [Ah hl3] at h2;have:=HF.o.len;have:=J6.o.len;omega))
     have hkf:((kn:Int)==(j:Int)+1+1)=false:=Hf AG;go_wp2_with (go_at_call 38;refine (EP 190 _).mono ?_;rintro e w9 ⟨rfl,rfl⟩)
     (refine JN.o _ _ _ ?_ CW.o HN.o;rfl)
    have hkt:((kn:Int)==(j:Int)+1+1)=true:=beq_iff_eq.2 AG;have Vq:=AF hkm;clear hkm;go_upto_region 17 with (go_at_call 38;refine (Ew 190 _).mono ?_;rintro e w9 ⟨⟨v,rfl⟩,rfl⟩);have hkm:=Vq.o;have hS3:=CW.o.drew;have hrl:res=JG Aw r.root (r.places*((x:Int)+4+1)) (Gt Aw (q.place*((x:Int)+4+1)) ((x:Int)+4) q.schema q.holder q.fields q.values (if 0<=q.link then [q.link] else []) (if 0<=q.link then [q.token] else [])) q.claims:=by have hok:Jj (Ba ns r.schema) (val r.schema) r q=true:=EV.2 ⟨⟨⟨⟨⟨⟨zh.o,H12.o,Vn.o⟩,⟨h1,h2⟩⟩,by rw [JI.o];exact Rg.o,by have:=HF.o.len;have:=HV.o.len;omega⟩,by rw [<-fE.o];exact HALT.o⟩,⟨hl1,hl2⟩,.inl hl3⟩,by rw [Ah hl3];have:=HF.o.len;have:=J6.o.len;omega⟩;rw [Hb.o,DJ,Ah AZ,Ak hok,JI.o];rfl
    have T8:=AF hrl;have Yr:AI (∀W,AK w4 W->(Instr.loadAt 57 (AU (some ⟨w.heap.size+1+1,0,none⟩))).run prog W=.ok (.agg Y) W/\(Instr.loadAt 36 (AU (some ⟨w.heap.size+1,0,none⟩))).run prog W=.ok (.agg RR) W):=AF (fun W hW=>by obtain ⟨b1,b2,_⟩:=HE.o W hW;exact ⟨by simp only [Instr.loadAt,Instr.sureAddr,Cp,DL,Result.andThen_ok,NL W _ 57 57 Y (0,0) _ b2 underlying57 rfl Yf.o],by simp only [Instr.loadAt,Instr.sureAddr,Cp,DL,Result.andThen_ok,NL W _ 36 36 RR (0,0) _ b1 underlying36 rfl MN.o]⟩)
    refine Pe (fun W=>AK w4 W) 5 _ Fs AJ rfl ?_;refine Bm 0 128 AJ rfl rfl (De rfl Ai) hS3 AJ nY ?_;refine Bm 1 129 AJ rfl rfl (De rfl Ai) hS3 AJ (v:=.agg Y) (fun W hW=>Cv rfl AJ (Yr.o W hW).1) ?_;refine Bm 3 131 AJ rfl rfl (De rfl Ai) hS3 AJ (v:=.agg RR) (fun W hW=>Cv rfl AJ (Yr.o W hW).2) ?_;refine Wm 2 130 AJ rfl rfl rfl rfl (enters_of func47 AJ rfl) (HPT.o k x _ (AV Cf.o hS3) HX.o lX.o) AJ ?_;rintro e EH ⟨L,T,rfl,hL,hT,S4⟩;have hS4:AK w4 EH:=AV hS3 S4;have Ni:AK w EH:=AV Cf.o hS4;refine ⟨_,rfl,hS4,?_⟩;obtain ⟨MA,mc,rfl⟩:=hL.form;obtain ⟨NA,nc',rfl⟩:=hT.form;have PK:=WU ⟨q.Ar,q.round,q.schema,q.place,q.holder,AA FA j fc,AA VA j vc,q.link,q.token,AA KA kn kc,AA MA _ mc,AA NA _ nc',(x:Int)+4+1,(x:Int)+4⟩ FA VA MA NA KA j fc j vc _ mc _ nc' kn kc q.fields q.values _ _ q.claims r EH rfl rfl rfl rfl rfl (HF.o.mono BT Ni) (HV.o.mono BT Ni) hL hT (J6.o.mono Bc Ni)
     TP.o TM.o WY.o (Ac _) (by rw [Ak (by omega:0<=q.link),Ak (by omega:0<=q.link)];exact Ac _) (by rw [Ak (by omega:0<=q.link)];show kn=j+1+1;omega) nX
     gY cz cx (fun f hf=>by have:=QI Rg.o f hf;omega) (fun l hl=>by rw [Ak (by omega:0<=q.link),F5] at hl;omega) AG (I7.o.below Ni)
    rw [<-HRR.o] at PK;refine Xh 4 132 AJ rfl rfl rfl rfl (enters_of func41 AJ rfl) PK AJ ?_;rintro e If ⟨hR,QK⟩;have hS5:AK w4 If:=AV hS4 QK;rcases hR with ⟨h0,v,rfl⟩ | ⟨hne,rfl⟩
    ·refine .inl ⟨_,rfl,hS5,?_⟩
     exact AAt
    exact nu
 have hcf:(ck==0)=false:=by simpa using hck
 have HN:AI (res=160):=AF (Hb.o.trans (by rw [DJ,Ak hck]));go_wp2_with (first
  | (
   go_at_call 23;refine (Lh.o _ Cf.o).mono ?_;rintro e w5 ⟨rfl,hb5⟩;have Cg:=AF hb5;clear hb5)
  | (go_at_call 38;refine (EP 160 _).mono ?_;rintro e w6 ⟨rfl,rfl⟩))
 (refine JN.o _ _ _ ?_ Cg.o HN.o;rfl)
end Go.Proofs.YtamhoilkpppdbaaGreatDoor
