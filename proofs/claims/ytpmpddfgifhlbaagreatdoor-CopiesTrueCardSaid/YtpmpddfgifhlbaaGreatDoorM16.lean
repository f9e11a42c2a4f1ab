import Derived.Test.YtpmpddfgifhlbaaGreatDoorM13
namespace Go.Proofs.YtpmpddfgifhlbaaGreatDoor
set_option maxHeartbeats 8000000
set_option maxRecDepth 100000
open Go renaming World→AH, Value→AK, Calls→AS, TypeId→Ae, Program→BB
open Go.Proofs.Tryz
open Go.Value renaming slice→AA, int→AB, pointer→AU, agg→AO
open Go.IntKind renaming i64→AE
open Go.Ending renaming returned→AV
open Go.Obj renaming cells→AQ
open Go.RowKit Go.Shelf
attribute [local go_sem] Oper.semAt_some
theorem AHL {P:BB} {fn:Func} {R:Ending->AH->Prop} {d p:Nat} {ty:Ae} (hr:fn.results=#[.cell p ty]) (hd:d≠p):∀c (a:Act) v w,Leaves P fn (a.put (some d) v).tmps R (a.put (some d) v).defers (.panicking c) w->Leaves P fn a.tmps R a.defers (.panicking c) w:=
 fun c a v w h=>ADg (K:=fun _ _=>True) hr hd c a v w h
theorem AEZ {α:Type} {l:List α} {j:Nat} {x:α} (h:l[j]? =some x):l.drop j=x::l.drop (j+1):=by obtain ⟨hl,rfl⟩:=BA.1 h;exact UR hl
theorem oZ {n:Nat}:∀{l:AP} {last:Int},last < n->NM n last l=true->(l.length:Int)<=n - 1 - last
 | [],last,h,_=>by simp;omega
 |
  f::l,last,_,h=>by
  simp only [NM,BZ,Bw] at h;have:=oZ (l:=l) h.1.2 h.2;rw [Fl];omega
theorem Ud {P:BB} {w:AH} {ops:Array Oper} {rest:List Oper} {o:Oper} {a:Act} {Q:Exit->Act->AH->Prop} (hw:Region.wanted o (yielded ops a.tmps)=true) (ty:Ae) (x:Operand) (ho:o.op=.load ty x) (p v:AK) (hx:a.eval x=p) (h:(Instr.loadAt ty p).run P w=.ok v w)
 (hk:wpList P ops Q rest (a.put o.dst v) w):wpList P ops Q (o::rest) a w:=
 US hw fun _ hK=>by unfold Oper.wp execOp;exact AAl
theorem Sz {P:BB} {w:AH} {ops:Array Oper} {rest:List Oper} {o:Oper} {a:Act} {Q:Exit->Act->AH->Prop} (hw:Region.wanted o (yielded ops a.tmps)=true) (t:Ae) (ho:o.op=.build t #[]) (cells:Array AK) (h:P.built t []=some cells)
 (hk:wpList P ops Q rest (a.put o.dst (.agg cells)) w):wpList P ops Q (o::rest) a w:=
 US hw fun K hK=>wp_build (P:=P) t #[] ho (by simp [h]) (by simp only [Yc,OD,h];exact hK _ _ hk)
theorem AAs {tmps:Array AK} {w W:AH} {g:Nat} {e k:Int} {R:Ending->AH->Prop} (hg:tmps.getD 6 undef=AU (some ⟨g,0,none⟩)) (hk:W.cell? ⟨g,0,none⟩=some (AB AE k)) (hz:W.frozen? ⟨g,0,none⟩=false) (hlt:g < W.heap.size) (hgw:w.heap.size<=g) (hb:AJ w W)
 (hR:∀w'',AJ w w''->R (AV (AB AE e)) w''):Leaves prog f10 tmps R [{target:=.fn (.func 28) #[AU (some ⟨g,0,none⟩)],args:=#[]}] (.panicking (G0 e)) W:=by
 refine OB (f:=28) (args:=#[AU (some ⟨g,0,none⟩)]) Ac MO ?_;refine (ZI g k e W hk hz hlt).mono ?_;rintro en u' w'' ⟨rfl,rfl,hc,hb'⟩;have hg':tmps[6]?.getD undef=AU (some ⟨g,0,none⟩):=by simpa using hg
 exact ⟨_,by simp [results,results10,hg',asAddr,go_sem,hc],hR _ (hb.trans (hb' _ hgw))⟩
theorem AFo {tmps:Array AK} {W:AH} {g:Nat} {e:Int} {R:Ending->AH->Prop} (hg:tmps.getD 6 undef=AU (some ⟨g,0,none⟩)) (hk:W.cell? ⟨g,0,none⟩=some (AB AE e)) (hR:R (AV (AB AE e)) W):
 Leaves prog f10 tmps R [{target:=.fn (.func 28) #[AU (some ⟨g,0,none⟩)],args:=#[]}] .returning W:=by
 refine OB (f:=28) (args:=#[AU (some ⟨g,0,none⟩)]) Ac MO ?_;refine (ZJ ⟨g,0,none⟩ W).mono ?_;rintro en u' w'' ⟨rfl,rfl,rfl⟩;have hg':tmps[6]?.getD undef=AU (some ⟨g,0,none⟩):=by simpa using hg
 exact ⟨_,by simp [results,results10,hg',asAddr,go_sem,hk],hR⟩
theorem dp (
 v0 v1 v3 v4 v5 v6:AK) (A:Option Addr) (n c:Nat) (ns:List Nat) (ck:Int) (val:Int->Int->Int->Bool) (r:CS) (q:Fw) (FA VA KA:Option Addr) (fn fc vn vc kn kc:Nat) (w:AH) (hs:Ag 6 LG w (AA A n c) ns)
 (hK:Qm (AO #[v0,v1,AA A n c,v3,v4,v5]) (AO #[v0,v1,AA A n c,v3,v4,v5,v6]) ck val w) (hf:Ag 1 CF w (AA FA fn fc) q.fields) (hv:Ag 1 CF w (AA VA vn vc) q.values) (hk:Ag 3 Dc w (AA KA kn kc) q.claims)
 (hh:q.holder.length=32) (ht:q.token.length=32) (hli:EZ q.link) (hro:r.root.length=32) (MJ:Cc w):
 AS prog 10 #[AO #[v0,v1,AA A n c,v3,v4,v5,v6],AO (rdA r),AO (Et ⟨q.Au,q.round,q.schema,q.place,q.holder,AA FA fn fc,AA VA vn vc,q.link,q.token,AA KA kn kc,AA none 0 0,AA none 0 0,0,0⟩)] w fun e w'=>
  e=AV (AB AE (DC Aq ck (Bt ns r.schema) (val r.schema) r q))/\AJ w w':=by
 obtain ⟨p,hp⟩:=Ab (⟨q.Au,q.round,q.schema,q.place,q.holder,AA FA fn fc,AA VA vn vc,q.link,q.token,AA KA kn kc,AA none 0 0,AA none 0 0,0,0⟩:Iq);rw [<-hp];obtain ⟨RR,hRR⟩:=Ab (rdA r);obtain ⟨Y,hY⟩:=Ab (Et p);obtain ⟨res,hres⟩:=Ab (DC Aq ck (Bt ns r.schema) (val r.schema) r q);have WM:p.holder.length=32:=by rw [hp];exact hh
 have hpt:p.token.length=32:=by rw [hp];exact ht
 rw [<-hY,<-hRR,<-hres];have U8:AI ((prog.info? 44).map (·.size)=some Y.size):=AF (by rw [hY,Iw WM hpt];exact fh);have PI:AI ((prog.info? 36).map (·.size)=some RR.size):=AF Ww;have LV:AI (∀W g,AZ W g 44 Y->SwB W g p):=AF (fun W g h=>by rw [hY] at h;exact IQ h WM hpt);have LI:AI (RR[0]? =some (AB AE r.Au)/\RR[1]? =some (AB AE r.no)/\RR[2]? =some (AB AE r.schema)/\RR[5]? =some (AB AE r.places)):=AF mr
 have NJ:AI (∀W,AJ w W->AS prog 22 #[AO #[v0,v1,AA A n c,v3,v4,v5,v6],.agg RR] W fun e w'=>e=AV (.bool (GR (Bt ns r.schema) r.places))/\AJ W w'):=AF (fun W hW=>by rw [hRR];exact mF);have HPT:AI (∀(k x:Nat) (W:AH),AJ w W->ns[k]? =some x->q.schema=k->AS prog 33 #[AO #[v0,v1,AA A n c,v3,v4,v5,v6],.agg Y] W fun e w'=>∃L T,e=AV (AO (I9 ⟨q.Au,q.round,q.schema,q.place,q.holder,AA FA fn fc,AA VA vn vc,q.link,q.token,AA KA kn kc,L,T,(x:Int)+4+1,(x:Int)+4⟩))/\Ag 1 CF w' L (if 0<=q.link then [q.link] else [])/\Ag 32 CQ w' T (if 0<=q.link then [q.token] else [])/\AJ W w'):=AF (fun k x W hW hx hsc=>by rw [hY,hp];exact AC4 v0 v1 v3 v4 v5 v6 A n c ns k x ⟨q.Au,q.round,q.schema,q.place,q.holder,AA FA fn fc,AA VA vn vc,q.link,q.token,AA KA kn kc,AA none 0 0,AA none 0 0,0,0⟩ W (hs.mono FI hW) hx hh ht hsc rfl rfl rfl hli)
 obtain ⟨Mp,HLI,HF,Sl,Mr,HK,HS,HV,Nn,Hk,V4,HPH⟩:=RG ht hli hf hh hK.chk hK hs hv hk MJ hro WM;obtain ⟨HP,Gs,HRR,HY⟩:=CJ hp hres hRR hY;clear hs hK hf hv hk hh ht hli hro MJ WM hpt hp hres hRR hY;have hmf:∀(fn:Fn) (first cap:Array AK) (w:AH),(Instr.makeFunc fn first cap).run prog w=.ok (.func fn first cap) w:=fun _ _ _ _=>rfl
 go_enter_defers func10,ntmps10
 go_upto_region 2 with fail;obtain ⟨k1,b1,s1⟩:=bx w #[v0,v1,AA A n c,v3,v4,v5,v6] 32;generalize (w.alloc (AQ #[v0,v1,AA A n c,v3,v4,v5,v6] 32))=w1 at k1 b1 s1 ⊢;obtain ⟨k2,b2,s2⟩:=bx w1 RR 36;generalize (w1.alloc (AQ RR 36))=w2 at k2 b2 s2 ⊢;obtain ⟨k3,b3,s3⟩:=bx w2 Y 44;generalize (w2.alloc (AQ Y 44))=w3 at k3 b3 s3 ⊢;obtain ⟨k4,b4,s4⟩:=bx w3 #[AB AE 0] 50;generalize (w3.alloc (AQ #[AB AE 0] 50))=w4 at k4 b4 s4 ⊢;rw [s1] at k2 b2 s2;rw [s2] at k3 b3 s3;rw [s3] at k4 b4 s4;have Cg:AI (AJ w w4):=AF (((b1.trans (b2.mono AG)).trans (b3.mono AG)).trans (b4.mono AG));have H4:AI (w4.heap.size=w.heap.size+1+1+1+1):=AF AG;have HE:AI (∀W,AJ w4 W->AZ W (w.heap.size+1) 36 RR/\AZ W (w.heap.size+1+1) 44 Y/\AZ W (w.heap.size+1+1+1) 50 #[AB AE 0]):=AF (fun W hW=>⟨((k2.below b3 AG).below b4 AG).below hW AG,(k3.below b4 AG).below hW AG,k4.below hW AG⟩);have HD:AI (∀W,AJ w4 W->W.cell? ⟨w.heap.size,0,none⟩=some v0/\W.cell? ⟨w.heap.size,1,none⟩=some v1/\W.cell? ⟨w.heap.size,2,none⟩=some (AA A n c)/\W.cell? ⟨w.heap.size,3,none⟩=some v3/\W.cell? ⟨w.heap.size,4,none⟩=some v4/\W.cell? ⟨w.heap.size,5,none⟩=some v5/\W.cell? ⟨w.heap.size,6,none⟩=some v6):=AF (fun W hW=>by have b:=(((k1.below b2 AG).below b3 AG).below b4 AG).below hW AG;exact Wo)
 clear k1 b1 s1 k2 b2 s2 k3 b3 s3 k4 b4 s4;have Jc:AI (∀(tmps:Array AK) (W:AH) (e:Int),tmps.getD 6 undef=AU (some ⟨w.heap.size+1+1+1,0,none⟩)->AJ w4 W->res=e->Leaves prog f10 tmps (fun e w'=>e=AV (AB AE res)/\AJ w w') [{target:=.fn (.func 28) #[AU (some ⟨w.heap.size+1+1+1,0,none⟩)],args:=#[]}] (.panicking (G0 e)) W):=AF (fun tmps W e ht hW he=>by have k:=(HE.o W hW).2.2;refine AAs ht (k.cell 0) (k.frozen 0) k.lt AG (AW Cg.o hW) (fun w'' hb=>⟨by rw [he],hb⟩))
 have ES:AI (∀W,AJ w4 W->(W.cell? ⟨w.heap.size+1+1,0,none⟩=some (AB AE q.Au)/\W.cell? ⟨w.heap.size+1+1,1,none⟩=some (AB AE q.round)/\W.cell? ⟨w.heap.size+1+1,2,none⟩=some (AB AE q.schema)/\W.cell? ⟨w.heap.size+1+1,3,none⟩=some (AB AE q.place))/\(W.cell? ⟨w.heap.size+1+1,36,none⟩=some (AA FA fn fc)/\W.cell? ⟨w.heap.size+1+1,37,none⟩=some (AA VA vn vc)/\W.cell? ⟨w.heap.size+1+1,38,none⟩=some (AB AE q.link)/\W.cell? ⟨w.heap.size+1+1,71,none⟩=some (AA KA kn kc))/\
  (W.cell? ⟨w.heap.size+1,0,none⟩=some (AB AE r.Au)/\W.cell? ⟨w.heap.size+1,1,none⟩=some (AB AE r.no)/\W.cell? ⟨w.heap.size+1,2,none⟩=some (AB AE r.schema)/\W.cell? ⟨w.heap.size+1,5,none⟩=some (AB AE r.places))/\(Instr.loadAt 34 (AU (some ⟨w.heap.size+1+1,39,none⟩))).run prog W=.ok (AO (yA q.token)) W):=AF (fun W hW=>by
  obtain ⟨b1,b2,_⟩:=HE.o W hW;have b:=LV.o _ _ b2;rw [HP.o] at b;exact ⟨⟨b.Au,b.round,b.schema,b.place⟩,⟨b.fields,b.values,b.link,b.claims⟩,⟨(b1.cell 0).trans LI.o.1,(b1.cell 1).trans LI.o.2.1,(b1.cell 2).trans LI.o.2.2.1,(b1.cell 5).trans LI.o.2.2.2⟩,EY _ 39 Mp.o b.token⟩)
 obtain ⟨d0,d1,d2,d3,d4,d5,d6⟩:=HD.o w4 (Af _ _);by_cases hck:ck=0
 ·subst hck
  have Cl:AI (¬Jw (Bt ns r.schema) (val r.schema) r q=true->res=190):=AF (fun h=>Gs.o.trans (WG h));go_upto_region 3 with (first
   | (
    go_at_call 17;refine (Mr.o _ Cg.o).mono ?_;rintro e w5 ⟨rfl,hb5⟩;obtain ⟨c0,c1,c2,c3,c4,c5,c6⟩:=HD.o w5 hb5;have CW:=AF hb5;have Nl:=AF (HE.o w5 hb5).1;clear hb5 d0 d1 d2 d3 d4 d5 d6)
   | (go_at_call 30;refine (Eh 160 _).mono ?_;rintro e w6 ⟨⟨v,rfl⟩,rfl⟩))
  cases hft:GR (Bt ns r.schema) r.places with
  |
   false=>
   rw [hft] at NJ;have HN:=AF (Cl.o (fun h=>by have:=(EM.1 h).1.1.1.1.1.1;rw [hft] at this;cases this));clear hft;go_wp2_with (first
    | (refine Cm rfl 36 (.tmp 4) rfl (w.heap.size+1) AL 36 RR (0,0) _ Nl.o underlying36 rfl PI.o ?_)
    | (
     go_at_call 22;refine (NJ.o _ (AW Cg.o CW.o)).mono ?_;rintro e w7 ⟨rfl,hb7⟩;have ET:=AF (AW CW.o hb7);clear hb7)
    | (go_at_call 30;refine (EH 190 _).mono ?_;rintro e w8 ⟨rfl,rfl⟩)
    | fail)
   (refine Jc.o _ _ _ ?_ ET.o HN.o;rfl)
  |
   true=>
   rw [hft] at NJ;obtain ⟨x,hnf,hp1,o5,Vm⟩:=NB hft;have AJn:0<=r.schema:=by
    unfold Bt at hnf;split at hnf
    · assumption
    · cases hnf
   obtain ⟨k,hk⟩:∃k:Nat,r.schema=(k:Int):=⟨r.schema.toNat,by omega⟩;have hx:ns[k]? =some x:=by rw [hk,Bt,Am AG] at hnf;exact hnf
   have hx1:x<=251:=by have h1:1*((x:Int)+4+1)<=r.places*((x:Int)+4+1):=OL hp1 AG;omega
   obtain ⟨Hm,yt⟩:=Aj hnf hft;go_upto_region 4 with (first
    | (refine Cm rfl 36 (.tmp 4) rfl (w.heap.size+1) AL 36 RR (0,0) _ Nl.o underlying36 rfl PI.o ?_)
    | (
     go_at_call 22;refine (NJ.o _ (AW Cg.o CW.o)).mono ?_;rintro e w7 ⟨rfl,hb7⟩;have ET:=AF (AW CW.o hb7);clear hb7)
    | (go_at_call 30;refine (Eh 190 _).mono ?_;rintro e w8 ⟨⟨v,rfl⟩,rfl⟩)
    | fail)
   have LR:=AF hk;clear c0 c1 c2 c3 c4 c5 c6 hft hnf hk;obtain ⟨⟨f0,f1,f2,f3⟩,_,⟨e0,e1,e2,e5⟩,_⟩:=ES.o _ ET.o;have hcase:(¬q.Au=r.Au\/(q.Au=r.Au/\¬q.round=r.no)\/(q.Au=r.Au/\q.round=r.no/\¬q.schema=r.schema))\/(q.Au=r.Au/\q.round=r.no/\q.schema=r.schema):=AG
   rcases hcase with hno | ⟨h1,h2,h3⟩
   ·have HN:=AF (Cl.o (fun h=>by have:=(EM.1 h).1.1.1.1.1.2;omega))
    exact AAS
   go_upto_region 5 with (go_at_call 30;refine (Eh 190 _).mono ?_;rintro e w9 ⟨⟨v,rfl⟩,rfl⟩);obtain ⟨VD,HX,H12⟩:=Az h3 hx (And.intro h1 h2);clear h1 h2 h3 hx f0 f1 e0 e1 e2;have hcase:(¬0<=q.place\/(0<=q.place/\¬q.place < r.places))\/(0<=q.place/\q.place < r.places):=AG
   rcases hcase with hno | ⟨h1,h2⟩
   ·have HN:=AF (Cl.o (fun h=>by have:=(EM.1 h).1.1.1.1.2;omega))
    exact AAQ
   go_upto_region 6 with (go_at_call 30;refine (Eh 190 _).mono ?_;rintro e w8 ⟨⟨v,rfl⟩,rfl⟩);clear f2 f3 e5;have DE:prog.follows .mixedOrders=true:=AL
   have jn:AI (q.schema=(k:Int)):=AF (VD.o.trans LR.o);have hkn':k < n:=by rw [HS.o.len];exact (BA.1 HX.o).1
   have hk1:(k:Int) < (n:Int):=AG
   have hk0:=Int.natCast_nonneg k
   obtain ⟨b,off,x',x0,x1,x2,x3,B,cc,x5,hA,hb,hx',hxl,hone,hcell⟩:=Ni HS.o hkn';rw [HX.o] at hx';injection hx' with hx';subst hx';subst hA;have hS:=ET.o.drew;have HE4:AI (∀W,AJ w4 W->W.cell? ⟨b,off+k*6+4,none⟩=some (AA B x cc)):=AF (fun W hW=>((AW Cg.o hW).cell (p:=⟨b,off+k*6+4,none⟩) hb).trans (hcell 4 _ rfl));have hsz:(prog.info? 79).map (·.size)=some 6:=AL
   clear hcell hone;refine JA (fun W=>AJ w4 W) 22 _ DE AL rfl ?_;refine uT 0 50 hS ?_ (hv:=F8);refine uT 1 51 hS ?_ (hv:=F8);refine uT 2 52 hS ?_ (hv:=F8);refine uT 3 53 hS ?_ (hv:=F8);refine uT 4 54 hS ?_ (hv:=F8);refine uT 5 55 hS ?_ (hv:=F8);refine uT 6 56 hS ?_ (hv:=F8);refine uT 7 57 hS ?_ (hv:=F8);refine uT 8 58 hS ?_ (hv:=F8);refine uT 9 59 hS ?_ (hv:=F8);refine uT 10 60 hS ?_ (hv:=F8);refine WJ 11 61 AL rfl rfl rfl rfl (enters_of func31 AL rfl) (Uw FA fn fc q.fields x _ (HF.o.mono BU (AW Cg.o hS))) AL ?_;rintro e MF ⟨rfl,AJm⟩;subst AJm;refine ⟨_,rfl,hS,?_⟩;cases hin:NM x (-1) q.fields with
   |
    false=>
    have HN:=AF (Cl.o (fun h=>by have:=(EM.1 h).1.1.1.2.1;rw [Hm.o] at this;exact Bool.noConfusion (hin.symm.trans this)));refine uT 12 62 hS ?_ (hv:=F8);refine uN 13 63 hS ?_;refine uN 14 64 hS ?_;refine uN 15 65 hS ?_;refine uN 16 66 hS ?_;refine uN 17 67 hS ?_;refine uN 18 68 hS ?_;refine uN 19 69 hS ?_;refine uT 20 70 hS ?_ (hv:=F8);refine XP 21 71 AL rfl rfl rfl rfl (enters_of func30 AL rfl) (EH 190 _) AL ?_;rintro e w12 ⟨rfl,rfl⟩;refine .inr ⟨_,rfl,?_⟩;refine Jc.o _ _ _ ?_ hS HN.o;kernel_rfl
   |
    true=>
    refine uT 12 62 hS ?_ (hv:=F8);refine uT 13 63 hS ?_ (hv:=F8);refine uT 14 64 hS ?_ (hv:=F8);refine uT 15 65 hS ?_ (hv:=F8);refine uT 16 66 hS ?_ (hv:=F8);refine uT 17 67 hS ?_ (hv:=F8);refine uT 18 68 hS ?_ (hv:=F8);by_cases hvf:vn=fn
    rotate_left
    ·have hkf:((vn:Int)==(fn:Int))=false:=JK AG
     have HN:=AF (Cl.o (fun h=>by have:=(EM.1 h).1.1.1.2.2;have:=HF.o.len;have:=HV.o.len;omega));refine uT 19 69 hS ?_ (v:=.bool false) (hv:=F7);refine uT 20 70 hS ?_ (hv:=F7);refine XP 21 71 AL rfl rfl rfl rfl (enters_of func30 AL rfl) (EH 190 _) AL ?_;rintro e w12 ⟨rfl,rfl⟩;refine .inr ⟨_,rfl,?_⟩;refine Jc.o _ _ _ ?_ hS HN.o;kernel_rfl
    subst hvf;refine uT 19 69 hS ?_ (v:=.bool true) (hv:=F7);refine uT 20 70 hS ?_ (hv:=F7);refine XP 21 71 AL rfl rfl rfl rfl (enters_of func30 AL rfl) (Eh 190 _) AL ?_;rintro e w12 ⟨⟨v,rfl⟩,rfl⟩;refine .inl ⟨_,rfl,hS,?_⟩;refine Cx AL ?_ _;simp only [Bp,B9];have f36:=(ES.o _ hS).2.1.1;have Ki:=AF hS;have hle:vn<=9223372036854775807:=by have:=HF.o.le;omega
    obtain ⟨Z,hZ⟩:=Ab (q.fields.zip q.values);have HZ:AI (∀(j:Nat) (f v:Int),q.fields[j]? =some f->q.values[j]? =some v->Z[j]? =some (f,v)):=AF (fun j f v h1 h2=>by rw [hZ,Ig];exact ⟨h1,h2⟩);have Ib:AI (Z.length=vn):=AF (by rw [hZ,List.length_zip,<-HF.o.len,<-HV.o.len,Nat.min_self]);obtain ⟨dt,RD⟩:=Aj hZ hin;clear hS hZ hin;go_upto_region 8 with fail;clear f36;go_loopg [75] vn (fun q' i wr=>∃j:Nat,j<=vn/\q'=vn - j/\i=AB AE j/\(Z.all fun p=>val r.schema p.1 p.2)=((Z.drop j).all fun p=>val r.schema p.1 p.2)/\AJ w4 wr)
    case atStart=>exact ⟨0,Ar _,rfl,rfl,rfl,Ki.o⟩
    obtain ⟨j,hj,hq,rfl,hall,hbw⟩:=hrel;obtain ⟨HQ,EL,CY⟩:=Az hq hall hbw;have uW:AJ w wr:=AW Cg.o hbw;clear hq hall hbw;by_cases hlt:j < vn
    ·obtain ⟨fb,fo,f,rfl,hfb,hf,ef,hf1,hf2⟩:=ints_at (HF.o.mono BU uW) hlt
     obtain ⟨vb,vo,u,rfl,hvb,hu,eu,hu1,hu2⟩:=ints_at (HV.o.mono BU uW) hlt;have hj1:(j:Int) < (vn:Int):=AG
     have hj0:(0:Int)<=(j:Int):=AG
     have hdr:=AEZ (HZ.o j f u hf hu);have HEU:AI (∀W,AJ wr W->W.cell? ⟨vb,vo+j,none⟩=some (AB AE u)):=AF (fun W hW=>(hW.cell (p:=⟨vb,vo+j,none⟩) hvb).trans eu);have HDR:=AF hdr;clear hf hu eu hdr uW;go_upto_region 10 with fail;have hS:AJ w4 wr.drew:=CY.o.drew;have hR:AJ wr wr.drew:=(Af _ _).drew;refine JA (fun W=>AJ wr W) 12 _ DE AL rfl ?_;refine uT 0 80 hR ?_ (hv:=NV);refine uT 1 81 hR ?_ (hv:=NV);refine uT 2 82 hR ?_ (hv:=NV);refine uT 3 83 hR ?_ (hv:=NV);refine uT 4 84 hR ?_ (hv:=NV);refine uT 5 85 hR ?_ (hv:=NV);refine uT 6 86 hR ?_ (hv:=NV);refine uT 7 87 hR ?_ (hv:=NV);refine uT 8 88 hR ?_ (hv:=NV);refine uT 9 89 hR ?_ (hv:=NV);refine WJ 10 90 AL rfl rfl rfl rfl (enters_of func32 AL rfl) (HK.o.val k f u _ (AW Cg.o hS)) AL ?_;rintro e MF ⟨rfl,L9⟩;have hS2:AJ w4 MF:=AW hS L9;have hR2:AJ wr MF:=AW hR L9;refine ⟨_,rfl,hR2,?_⟩;cases hvl:val k f u with
     |
      false=>
      have HN:=AF (Cl.o (fun h=>by have h2:=(EM.1 h).1.1.2;rw [<-dt.o,EL.o,HDR.o,Pa,BZ,LR.o] at h2;exact Bool.noConfusion (hvl.symm.trans h2.1)))
      refine XP 11 91 AL rfl rfl rfl rfl (enters_of func30 AL rfl) (EH 190 _) AL ?_;rintro e w12 ⟨rfl,rfl⟩;refine .inr ⟨_,rfl,?_⟩;refine Jc.o _ _ _ ?_ hS2 HN.o;kernel_rfl
     |
      true=>
      refine XP 11 91 AL rfl rfl rfl rfl (enters_of func30 AL rfl) (Eh 190 _) AL ?_;rintro e w12 ⟨⟨v,rfl⟩,rfl⟩;refine .inl ⟨_,rfl,hR2,?_⟩;refine Cx AL ?_ _;simp only [Bp,B9];obtain ⟨HS2,VB⟩:=Aj hS2 hvl;clear hS hR hS2 hR2 L9 hvl;go_wp2;go_roundg (vn - (j+1))
      case measure=>exact Bc
      refine ⟨j+1,by omega,rfl,by go_num,?_,HS2.o⟩;rw [EL.o,HDR.o,Pa,show val r.schema (f,u).1 (f,u).2=true by rw [LR.o];exact VB.o,JI]
    have hjv:j=vn:=AG
    have HALT:AI ((Z.all fun p=>val r.schema p.1 p.2)=true):=AF (by rw [EL.o,EV (by rw [Ib.o];omega)];rfl);subst hjv;have hvx:(j:Int)<=251:=by have h:=oZ (n:=x) (l:=q.fields) (last:= -1) AG RD.o;have h2:=HF.o.len;omega
    obtain ⟨tz,htz⟩:∃tz,tz=decide (q.token=zeros 32):=⟨_,rfl⟩;have hde:∀W,(Op.equalIn 10000 34 (AO (yA q.token)) (AO (yA (zeros 32)))).run prog W=.ok tz W:=fun W=>by rw [htz];exact QN Mp.o rfl W
    have hgd:=Mg;have w1:IntKind.i64.wrap ((j:Int)+1)=(j:Int)+1:=Bv _ AG;have w2:IntKind.i64.wrap ((j:Int)+1+1)=(j:Int)+1+1:=Bv _ AG;obtain ⟨⟨f0,f1,f2,f3⟩,⟨f36,f37,f38,f71⟩,⟨e0,e1,e2,e5⟩,hld⟩:=ES.o wr CY.o;obtain ⟨PK,uv⟩:=Aj hld htz;clear f0 f1 f3 e0 e1 e2 e5 hld htz EL uW;have hcase:(¬ -1<=q.link\/(-1<=q.link/\¬q.link < 4))\/(-1<=q.link/\q.link < 4):=AG
    rcases hcase with hno | ⟨hl1,hl2⟩
    ·have HN:=AF (Cl.o (fun h=>by have:=(EM.1 h).1.2.1;omega))
     rcases hno with h | ⟨hl1,h⟩
     all_goals go_wp2_with (go_at_call 30;refine (EH 190 _).mono ?_;rintro e w9 ⟨rfl,rfl⟩)
     all_goals (refine Jc.o _ _ _ ?_ CY.o HN.o;rfl)
    by_cases hl3:q.link= -1
    ·cases tz with
     |
      false=>
      have HN:=AF (Cl.o (fun h=>by
       have h2:=(EM.1 h).1.2.2;rcases h2 with h2 | h2
       · exact h2 hl3
       · exact Mu uv.o.symm h2))
      go_wp2_with (first
       | (refine Ud AL 34 (.tmp 106) rfl _ _ rfl PK.o ?_)
       | (refine Sz AL 34 rfl (yA (zeros 32)) AL ?_)
       | (go_at_call 30;refine (EH 190 _).mono ?_;rintro e w9 ⟨rfl,rfl⟩)
       | fail)
      (refine Jc.o _ _ _ ?_ CY.o HN.o;rfl)
     |
      true=>
      go_upto_region 16 with (first
       | (refine Ud AL 34 (.tmp 106) rfl _ _ rfl PK.o ?_)
       | (refine Sz AL 34 rfl (yA (zeros 32)) AL ?_)
       | (go_at_call 30;refine (Eh 190 _).mono ?_;rintro e w9 ⟨⟨v,rfl⟩,rfl⟩)
       | fail)
      by_cases hkm:kn=j+1
      rotate_left
      ·have HN:=AF (Cl.o (fun h=>by have h2:=(EM.1 h).2;rw [Am hl3] at h2;have:=HF.o.len;have:=Nn.o.len;omega))
       have hkf:((kn:Int)==(j:Int)+1)=false:=JK AG;go_wp2_with (go_at_call 30;refine (EH 190 _).mono ?_;rintro e w9 ⟨rfl,rfl⟩)
       (refine Jc.o _ _ _ ?_ CY.o HN.o;rfl)
      have hkt:((kn:Int)==(j:Int)+1)=true:=beq_iff_eq.2 AG;have JE:=AF hkm;clear hkm;go_upto_region 17 with (go_at_call 30;refine (Eh 190 _).mono ?_;rintro e w9 ⟨⟨v,rfl⟩,rfl⟩);have hkm:=JE.o;have hS3:=CY.o.drew;have hrl:res=Il Aq r.root (r.places*((x:Int)+4+1)) (Fb Aq (q.place*((x:Int)+4+1)) ((x:Int)+4) q.schema q.holder q.fields q.values (if 0<=q.link then [q.link] else []) (if 0<=q.link then [q.token] else [])) q.claims:=by have hok:Jw (Bt ns r.schema) (val r.schema) r q=true:=EM.2 ⟨⟨⟨⟨⟨⟨yt.o,H12.o,VD.o⟩,⟨h1,h2⟩⟩,by rw [Hm.o];exact RD.o,by have:=HF.o.len;have:=HV.o.len;omega⟩,by rw [<-dt.o];exact HALT.o⟩,⟨hl1,hl2⟩,.inr (Fj uv.o.symm)⟩,by rw [Am hl3];have:=HF.o.len;have:=Nn.o.len;omega⟩;rw [Gs.o,DC,Ah Ac,Am hok,Hm.o];rfl
      have TW:=AF hrl;have jv:AI (∀W,AJ w4 W->(Instr.loadAt 44 (AU (some ⟨w.heap.size+1+1,0,none⟩))).run prog W=.ok (.agg Y) W/\(Instr.loadAt 36 (AU (some ⟨w.heap.size+1,0,none⟩))).run prog W=.ok (.agg RR) W):=AF (fun W hW=>by obtain ⟨b1,b2,_⟩:=HE.o W hW;exact zN)
      refine JA (fun W=>AJ w4 W) 5 _ DE AL rfl ?_;refine uT 0 128 hS3 ?_ (hv:=me);refine uT 1 129 hS3 ?_ (v:=.agg Y) (hv:=fun W hW=>Ch rfl AL (jv.o W hW).1);refine uT 3 131 hS3 ?_ (v:=.agg RR) (hv:=fun W hW=>Ch rfl AL (jv.o W hW).2);refine WJ 2 130 AL rfl rfl rfl rfl (enters_of func33 AL rfl) (HPT.o k x _ (AW Cg.o hS3) HX.o jn.o) AL ?_;rintro e Fs ⟨L,T,rfl,hL,hT,Sb⟩;have hS4:AJ w4 Fs:=AW hS3 Sb;have NP:AJ w Fs:=AW Cg.o hS4;refine ⟨_,rfl,hS4,?_⟩;obtain ⟨MA,mc,rfl⟩:=hL.form;obtain ⟨NA,nc',rfl⟩:=hT.form;have O5:=Vy ⟨q.Au,q.round,q.schema,q.place,q.holder,AA FA j fc,AA VA j vc,q.link,q.token,AA KA kn kc,AA MA _ mc,AA NA _ nc',(x:Int)+4+1,(x:Int)+4⟩ FA VA MA NA KA j fc j vc _ mc _ nc' kn kc q.fields q.values _ _ q.claims r Fs rfl rfl rfl rfl rfl (HF.o.mono BU NP) (HV.o.mono BU NP) hL hT (Nn.o.mono CD NP)
       Sl.o Mp.o V4.o (Ad _) (by rw [Ah (by omega:¬0<=q.link),Ah (by omega:¬0<=q.link)];exact Ad _) (by rw [Ah (by omega:¬0<=q.link)];show kn=j+0+1;omega) mY
       fS bj bh (fun f hf=>by have:=P4 RD.o f hf;omega) (fun l hl=>by rw [Ah (by omega:¬0<=q.link)] at hl;cases hl) AG (Hk.o.below NP)
      rw [<-HRR.o] at O5;refine XP 4 132 AL rfl rfl rfl rfl (enters_of func34 AL rfl) O5 AL ?_;rintro e NW ⟨hR,MZ⟩;have hS5:AJ w4 NW:=AW hS4 MZ;rcases hR with ⟨h0,v,rfl⟩ | ⟨hne,rfl⟩
      ·refine .inl ⟨_,rfl,hS5,?_⟩
       exact AAc
      exact m9
    go_upto_region 16 with (go_at_call 30;refine (Eh 190 _).mono ?_;rintro e w9 ⟨⟨v,rfl⟩,rfl⟩);by_cases hkm:kn=j+2
    rotate_left
    ·have HN:=AF (Cl.o (fun h=>by have h2:=(EM.1 h).2;rw [Ah hl3] at h2;have:=HF.o.len;have:=Nn.o.len;omega))
     have hkf:((kn:Int)==(j:Int)+1+1)=false:=JK AG;go_wp2_with (go_at_call 30;refine (EH 190 _).mono ?_;rintro e w9 ⟨rfl,rfl⟩)
     (refine Jc.o _ _ _ ?_ CY.o HN.o;rfl)
    have hkt:((kn:Int)==(j:Int)+1+1)=true:=beq_iff_eq.2 AG;have JE:=AF hkm;clear hkm;go_upto_region 17 with (go_at_call 30;refine (Eh 190 _).mono ?_;rintro e w9 ⟨⟨v,rfl⟩,rfl⟩);have hkm:=JE.o;have hS3:=CY.o.drew;have hrl:res=Il Aq r.root (r.places*((x:Int)+4+1)) (Fb Aq (q.place*((x:Int)+4+1)) ((x:Int)+4) q.schema q.holder q.fields q.values (if 0<=q.link then [q.link] else []) (if 0<=q.link then [q.token] else [])) q.claims:=by have hok:Jw (Bt ns r.schema) (val r.schema) r q=true:=EM.2 ⟨⟨⟨⟨⟨⟨yt.o,H12.o,VD.o⟩,⟨h1,h2⟩⟩,by rw [Hm.o];exact RD.o,by have:=HF.o.len;have:=HV.o.len;omega⟩,by rw [<-dt.o];exact HALT.o⟩,⟨hl1,hl2⟩,.inl hl3⟩,by rw [Ah hl3];have:=HF.o.len;have:=Nn.o.len;omega⟩;rw [Gs.o,DC,Ah Ac,Am hok,Hm.o];rfl
    have TW:=AF hrl;have jv:AI (∀W,AJ w4 W->(Instr.loadAt 44 (AU (some ⟨w.heap.size+1+1,0,none⟩))).run prog W=.ok (.agg Y) W/\(Instr.loadAt 36 (AU (some ⟨w.heap.size+1,0,none⟩))).run prog W=.ok (.agg RR) W):=AF (fun W hW=>by obtain ⟨b1,b2,_⟩:=HE.o W hW;exact zN)
    refine JA (fun W=>AJ w4 W) 5 _ DE AL rfl ?_;refine uT 0 128 hS3 ?_ (hv:=me);refine uT 1 129 hS3 ?_ (v:=.agg Y) (hv:=fun W hW=>Ch rfl AL (jv.o W hW).1);refine uT 3 131 hS3 ?_ (v:=.agg RR) (hv:=fun W hW=>Ch rfl AL (jv.o W hW).2);refine WJ 2 130 AL rfl rfl rfl rfl (enters_of func33 AL rfl) (HPT.o k x _ (AW Cg.o hS3) HX.o jn.o) AL ?_;rintro e Fs ⟨L,T,rfl,hL,hT,Sb⟩;have hS4:AJ w4 Fs:=AW hS3 Sb;have NP:AJ w Fs:=AW Cg.o hS4;refine ⟨_,rfl,hS4,?_⟩;obtain ⟨MA,mc,rfl⟩:=hL.form;obtain ⟨NA,nc',rfl⟩:=hT.form;have O5:=Vy ⟨q.Au,q.round,q.schema,q.place,q.holder,AA FA j fc,AA VA j vc,q.link,q.token,AA KA kn kc,AA MA _ mc,AA NA _ nc',(x:Int)+4+1,(x:Int)+4⟩ FA VA MA NA KA j fc j vc _ mc _ nc' kn kc q.fields q.values _ _ q.claims r Fs rfl rfl rfl rfl rfl (HF.o.mono BU NP) (HV.o.mono BU NP) hL hT (Nn.o.mono CD NP)
     Sl.o Mp.o V4.o (Ad _) (by rw [Am (by omega:0<=q.link),Am (by omega:0<=q.link)];exact Ad _) (by rw [Am (by omega:0<=q.link)];show kn=j+1+1;omega) mY
     fS bj bh (fun f hf=>by have:=P4 RD.o f hf;omega) (fun l hl=>by rw [Am (by omega:0<=q.link),Fk] at hl;omega) AG (Hk.o.below NP)
    rw [<-HRR.o] at O5;refine XP 4 132 AL rfl rfl rfl rfl (enters_of func34 AL rfl) O5 AL ?_;rintro e NW ⟨hR,MZ⟩;have hS5:AJ w4 NW:=AW hS4 MZ;rcases hR with ⟨h0,v,rfl⟩ | ⟨hne,rfl⟩
    ·refine .inl ⟨_,rfl,hS5,?_⟩
     exact AAc
    exact m9
 have hcf:(ck==0)=false:=by simpa using hck
 have HN:AI (res=160):=AF (Gs.o.trans (by rw [DC,Am hck]));go_wp2_with (first
  | (
   go_at_call 17;refine (Mr.o _ Cg.o).mono ?_;rintro e w5 ⟨rfl,hb5⟩;have CW:=AF hb5;clear hb5)
  | (go_at_call 30;refine (EH 160 _).mono ?_;rintro e w6 ⟨rfl,rfl⟩))
 (refine Jc.o _ _ _ ?_ CW.o HN.o;rfl)
end Go.Proofs.YtpmpddfgifhlbaaGreatDoor
