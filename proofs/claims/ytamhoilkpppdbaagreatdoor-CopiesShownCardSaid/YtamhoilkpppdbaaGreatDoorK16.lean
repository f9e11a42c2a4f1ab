import Derived.Test.YtamhoilkpppdbaaGreatDoorK13
namespace Go.Proofs.YtamhoilkpppdbaaGreatDoor
set_option maxHeartbeats 8000000
set_option maxRecDepth 100000
open Go renaming World→AH, Value→AN, Calls→AS, TypeId→Af, Program→BA
open Go.Proofs.Tryz
open Go.Value renaming slice→AB, int→AE, pointer→AW, agg→AP
open Go.IntKind renaming i64→AF
open Go.Ending renaming returned→AU
open Go.Obj renaming cells→AO
open Go.RowKit Go.Shelf
attribute [local go_sem] Oper.semAt_some
theorem DR {P:BA} {fn:Func} {R:Ending->AH->Prop} {d p:Nat} {ty:Af} (hr:fn.results=#[.cell p ty]) (hd:d≠p):∀c (a:Act) v w,Leaves P fn (a.put (some d) v).tmps R (a.put (some d) v).defers (.panicking c) w->Leaves P fn a.tmps R a.defers (.panicking c) w:=
 fun c a v w h=>D8 (K:=fun _ _=>True) hr hd c a v w h
theorem ACq {α:Type} {l:List α} {j:Nat} {x:α} (h:l[j]? =some x):l.drop j=x::l.drop (j+1):=by obtain ⟨hl,rfl⟩:=BD.1 h;exact Ya hl
theorem nI {n:Nat}:∀{l:AQ} {last:Int},last < n->NM n last l=true->(l.length:Int)<=n - 1 - last
 | [],last,h,_=>by simp;omega
 |
  f::l,last,_,h=>by
  simp only [NM,Bj,B8] at h;have:=nI (l:=l) h.1.2 h.2;rw [Gw];omega
theorem UT {P:BA} {w:AH} {ops:Array Oper} {rest:List Oper} {o:Oper} {a:Act} {Q:Exit->Act->AH->Prop} (hw:Region.wanted o (yielded ops a.tmps)=true) (ty:Af) (x:Operand) (ho:o.op=.load ty x) (p v:AN) (hx:a.eval x=p) (h:(Instr.loadAt ty p).run P w=.ok v w)
 (hk:wpList P ops Q rest (a.put o.dst v) w):wpList P ops Q (o::rest) a w:=
 Tx hw fun _ hK=>by unfold Oper.wp execOp;exact xW
theorem SV {P:BA} {w:AH} {ops:Array Oper} {rest:List Oper} {o:Oper} {a:Act} {Q:Exit->Act->AH->Prop} (hw:Region.wanted o (yielded ops a.tmps)=true) (t:Af) (ho:o.op=.build t #[]) (cells:Array AN) (h:P.built t []=some cells)
 (hk:wpList P ops Q rest (a.put o.dst (.agg cells)) w):wpList P ops Q (o::rest) a w:=
 Tx hw fun K hK=>wp_build (P:=P) t #[] ho (by simp [h]) (by simp only [YK,N2,h];exact hK _ _ hk)
theorem yY {tmps:Array AN} {w W:AH} {g:Nat} {e k:Int} {R:Ending->AH->Prop} (hg:tmps.getD 6 undef=AW (some ⟨g,0,none⟩)) (hk:W.cell? ⟨g,0,none⟩=some (AE AF k)) (hz:W.frozen? ⟨g,0,none⟩=false) (hlt:g < W.heap.size) (hgw:w.heap.size<=g) (hb:AK w W)
 (hR:∀w'',AK w w''->R (AU (AE AF e)) w''):Leaves prog f15 tmps R [{target:=.fn (.func 45) #[AW (some ⟨g,0,none⟩)],args:=#[]}] (.panicking (G4 e)) W:=by
 refine N0 (f:=45) (args:=#[AW (some ⟨g,0,none⟩)]) AX Kp ?_;refine (Y9 g k e W hk hz hlt).mono ?_;rintro en u' w'' ⟨rfl,rfl,hc,hb'⟩;have hg':tmps[6]?.getD undef=AW (some ⟨g,0,none⟩):=by simpa using hg
 exact ⟨_,by simp [results,results15,hg',asAddr,go_sem,hc],hR _ (hb.trans (hb' _ hgw))⟩
theorem ADt {tmps:Array AN} {W:AH} {g:Nat} {e:Int} {R:Ending->AH->Prop} (hg:tmps.getD 6 undef=AW (some ⟨g,0,none⟩)) (hk:W.cell? ⟨g,0,none⟩=some (AE AF e)) (hR:R (AU (AE AF e)) W):
 Leaves prog f15 tmps R [{target:=.fn (.func 45) #[AW (some ⟨g,0,none⟩)],args:=#[]}] .returning W:=by
 refine N0 (f:=45) (args:=#[AW (some ⟨g,0,none⟩)]) AX Kp ?_;refine (ZA ⟨g,0,none⟩ W).mono ?_;rintro en u' w'' ⟨rfl,rfl,rfl⟩;have hg':tmps[6]?.getD undef=AW (some ⟨g,0,none⟩):=by simpa using hg
 exact ⟨_,by simp [results,results15,hg',asAddr,go_sem,hk],hR⟩
theorem dT (
 v0 v1 v3 v4 v5 v6:AN) (A:Option Addr) (n c:Nat) (ns:List Nat) (ck:Int) (val:Int->Int->Int->Bool) (r:CM) (q:IX) (FA VA KA:Option Addr) (fn fc vn vc kn kc:Nat) (w:AH) (hs:Ag 6 Lz w (AB A n c) ns)
 (hK:Ql (AP #[v0,v1,AB A n c,v3,v4,v5]) (AP #[v0,v1,AB A n c,v3,v4,v5,v6]) ck val w) (hf:Ag 1 CK w (AB FA fn fc) q.fields) (hv:Ag 1 CK w (AB VA vn vc) q.values) (hk:Ag 3 Dt w (AB KA kn kc) q.claims)
 (hh:q.holder.length=32) (ht:q.token.length=32) (iy:Gk q.link) (hro:r.root.length=32) (MT:Ca w):
 AS prog 15 #[AP #[v0,v1,AB A n c,v3,v4,v5,v6],AP (rdA r),AP (GD ⟨q.Ar,q.round,q.schema,q.place,q.holder,AB FA fn fc,AB VA vn vc,q.link,q.token,AB KA kn kc,AB none 0 0,AB none 0 0,0,0⟩)] w fun e w'=>
  e=AU (AE AF (DK Aw ck (Bm ns r.schema) (val r.schema) r q))/\AK w w':=by
 obtain ⟨p,hp⟩:=Ad (⟨q.Ar,q.round,q.schema,q.place,q.holder,AB FA fn fc,AB VA vn vc,q.link,q.token,AB KA kn kc,AB none 0 0,AB none 0 0,0,0⟩:JF);rw [<-hp];obtain ⟨RR,hRR⟩:=Ad (rdA r);obtain ⟨Y,hY⟩:=Ad (GD p);obtain ⟨res,hres⟩:=Ad (DK Aw ck (Bm ns r.schema) (val r.schema) r q);have WD:p.holder.length=32:=by rw [hp];exact hh
 have hpt:p.token.length=32:=by rw [hp];exact ht
 rw [<-hY,<-hRR,<-hres];have WS:AI ((prog.info? 57).map (·.size)=some Y.size):=AA (by rw [hY,Iu WD hpt];exact fI);have NK:AI ((prog.info? 36).map (·.size)=some RR.size):=AA UO;have MD:AI (∀W g,AZ W g 57 Y->SwB W g p):=AA (fun W g h=>by rw [hY] at h;exact JR h WD hpt);have Lg:AI (RR[0]? =some (AE AF r.Ar)/\RR[1]? =some (AE AF r.no)/\RR[2]? =some (AE AF r.schema)/\RR[5]? =some (AE AF r.places)):=AA ew
 have OW:AI (∀W,AK w W->AS prog 27 #[AP #[v0,v1,AB A n c,v3,v4,v5,v6],.agg RR] W fun e w'=>e=AU (.bool (GN (Bm ns r.schema) r.places))/\AK W w'):=AA (fun W hW=>by rw [hRR];exact Xd v0 v1 v3 v4 v5 v6 A n c ns r W (hs.mono EK hW));have HPT:AI (∀(k x:Nat) (W:AH),AK w W->ns[k]? =some x->q.schema=k->AS prog 47 #[AP #[v0,v1,AB A n c,v3,v4,v5,v6],.agg Y] W fun e w'=>∃L T,e=AU (AP (JA ⟨q.Ar,q.round,q.schema,q.place,q.holder,AB FA fn fc,AB VA vn vc,q.link,q.token,AB KA kn kc,L,T,(x:Int)+4+1,(x:Int)+4⟩))/\Ag 1 CK w' L (if 0<=q.link then [q.link] else [])/\Ag 32 CV w' T (if 0<=q.link then [q.token] else [])/\AK W w'):=AA (fun k x W hW hx hsc=>by rw [hY,hp];exact ABQ v0 v1 v3 v4 v5 v6 A n c ns k x ⟨q.Ar,q.round,q.schema,q.place,q.holder,AB FA fn fc,AB VA vn vc,q.link,q.token,AB KA kn kc,AB none 0 0,AB none 0 0,0,0⟩ W (hs.mono EK hW) hx hh ht hsc rfl rfl rfl iy)
 have R9:=AA ht;have HLI:=AA iy;have HF:=AA hf;have OV:=AA hh;have Mn:=AA hK.chk;have HK:=AA hK;have HS:=AA hs;have HV:=AA hv;have Ng:=AA hk;have I0:=AA MT;have Vz:=AA hro;have HPH:=AA WD;have HP:=AA hp;have Gp:=AA hres;have HRR:=AA hRR;have HY:=AA hY;clear hs hK hf hv hk hh ht iy hro MT WD hpt hp hres hRR hY;have hmf:∀(fn:Fn) (first cap:Array AN) (w:AH),(Instr.makeFunc fn first cap).run prog w=.ok (.func fn first cap) w:=fun _ _ _ _=>rfl
 go_enter_defers func15,ntmps15
 go_upto_region 2 with fail;obtain ⟨k1,b1,s1⟩:=bx w #[v0,v1,AB A n c,v3,v4,v5,v6] 32;generalize (w.alloc (AO #[v0,v1,AB A n c,v3,v4,v5,v6] 32))=w1 at k1 b1 s1 ⊢;obtain ⟨k2,b2,s2⟩:=bx w1 RR 36;generalize (w1.alloc (AO RR 36))=w2 at k2 b2 s2 ⊢;obtain ⟨k3,b3,s3⟩:=bx w2 Y 57;generalize (w2.alloc (AO Y 57))=w3 at k3 b3 s3 ⊢;obtain ⟨k4,b4,s4⟩:=bx w3 #[AE AF 0] 47;generalize (w3.alloc (AO #[AE AF 0] 47))=w4 at k4 b4 s4 ⊢;rw [s1] at k2 b2 s2;rw [s2] at k3 b3 s3;rw [s3] at k4 b4 s4;have CX:AI (AK w w4):=AA (((b1.trans (b2.mono AG)).trans (b3.mono AG)).trans (b4.mono AG));have H4:AI (w4.heap.size=w.heap.size+1+1+1+1):=AA AG;have HE:AI (∀W,AK w4 W->AZ W (w.heap.size+1) 36 RR/\AZ W (w.heap.size+1+1) 57 Y/\AZ W (w.heap.size+1+1+1) 47 #[AE AF 0]):=AA (fun W hW=>⟨((k2.below b3 AG).below b4 AG).below hW AG,(k3.below b4 AG).below hW AG,k4.below hW AG⟩);have HD:AI (∀W,AK w4 W->W.cell? ⟨w.heap.size,0,none⟩=some v0/\W.cell? ⟨w.heap.size,1,none⟩=some v1/\W.cell? ⟨w.heap.size,2,none⟩=some (AB A n c)/\W.cell? ⟨w.heap.size,3,none⟩=some v3/\W.cell? ⟨w.heap.size,4,none⟩=some v4/\W.cell? ⟨w.heap.size,5,none⟩=some v5/\W.cell? ⟨w.heap.size,6,none⟩=some v6):=AA (fun W hW=>by have b:=(((k1.below b2 AG).below b3 AG).below b4 AG).below hW AG;exact ⟨b.cell 0,b.cell 1,b.cell 2,b.cell 3,b.cell 4,b.cell 5,b.cell 6⟩)
 clear k1 b1 s1 k2 b2 s2 k3 b3 s3 k4 b4 s4;have Gq:AI (∀(tmps:Array AN) (W:AH) (e:Int),tmps.getD 6 undef=AW (some ⟨w.heap.size+1+1+1,0,none⟩)->AK w4 W->res=e->Leaves prog f15 tmps (fun e w'=>e=AU (AE AF res)/\AK w w') [{target:=.fn (.func 45) #[AW (some ⟨w.heap.size+1+1+1,0,none⟩)],args:=#[]}] (.panicking (G4 e)) W):=AA (fun tmps W e ht hW he=>by have k:=(HE.o W hW).2.2;refine yY ht (k.cell 0) (k.frozen 0) k.lt AG (AV CX.o hW) (fun w'' hb=>⟨by rw [he],hb⟩))
 have EN:AI (∀W,AK w4 W->(W.cell? ⟨w.heap.size+1+1,0,none⟩=some (AE AF q.Ar)/\W.cell? ⟨w.heap.size+1+1,1,none⟩=some (AE AF q.round)/\W.cell? ⟨w.heap.size+1+1,2,none⟩=some (AE AF q.schema)/\W.cell? ⟨w.heap.size+1+1,3,none⟩=some (AE AF q.place))/\(W.cell? ⟨w.heap.size+1+1,36,none⟩=some (AB FA fn fc)/\W.cell? ⟨w.heap.size+1+1,37,none⟩=some (AB VA vn vc)/\W.cell? ⟨w.heap.size+1+1,38,none⟩=some (AE AF q.link)/\W.cell? ⟨w.heap.size+1+1,71,none⟩=some (AB KA kn kc))/\
  (W.cell? ⟨w.heap.size+1,0,none⟩=some (AE AF r.Ar)/\W.cell? ⟨w.heap.size+1,1,none⟩=some (AE AF r.no)/\W.cell? ⟨w.heap.size+1,2,none⟩=some (AE AF r.schema)/\W.cell? ⟨w.heap.size+1,5,none⟩=some (AE AF r.places))/\(Instr.loadAt 34 (AW (some ⟨w.heap.size+1+1,39,none⟩))).run prog W=.ok (AP (yA q.token)) W):=AA (fun W hW=>by
  obtain ⟨b1,b2,_⟩:=HE.o W hW;have b:=MD.o _ _ b2;rw [HP.o] at b;exact ⟨⟨b.Ar,b.round,b.schema,b.place⟩,⟨b.fields,b.values,b.link,b.claims⟩,⟨(b1.cell 0).trans Lg.o.1,(b1.cell 1).trans Lg.o.2.1,(b1.cell 2).trans Lg.o.2.2.1,(b1.cell 5).trans Lg.o.2.2.2⟩,FV _ 39 R9.o b.token⟩)
 obtain ⟨d0,d1,d2,d3,d4,d5,d6⟩:=HD.o w4 (Ae _ _);by_cases hck:ck=0
 ·subst hck
  have Cf:AI (¬Js (Bm ns r.schema) (val r.schema) r q=true->res=190):=AA (fun h=>Gp.o.trans (V8 h));go_upto_region 3 with (first
   | (
    go_at_call 23;refine (Mn.o _ CX.o).mono ?_;rintro e w5 ⟨rfl,hb5⟩;obtain ⟨c0,c1,c2,c3,c4,c5,c6⟩:=HD.o w5 hb5;have CP:=AA hb5;have Nc:=AA (HE.o w5 hb5).1;clear hb5 d0 d1 d2 d3 d4 d5 d6)
   | (go_at_call 38;refine (Eg 160 _).mono ?_;rintro e w6 ⟨⟨v,rfl⟩,rfl⟩))
  cases hft:GN (Bm ns r.schema) r.places with
  |
   false=>
   rw [hft] at OW;have HN:=AA (Cf.o (fun h=>by have:=(Ef.1 h).1.1.1.1.1.1;rw [hft] at this;cases this));clear hft;go_wp2_with (first
    | (refine Bv rfl 36 (.tmp 4) rfl (w.heap.size+1) rfl 36 RR (0,0) _ Nc.o underlying36 rfl NK.o ?_)
    | (
     go_at_call 27;refine (OW.o _ (AV CX.o CP.o)).mono ?_;rintro e w7 ⟨rfl,hb7⟩;have Da:=AA (AV CP.o hb7);clear hb7)
    | (go_at_call 38;refine (DN 190 _).mono ?_;rintro e w8 ⟨rfl,rfl⟩)
    | fail)
   (refine Gq.o _ _ _ ?_ Da.o HN.o;rfl)
  |
   true=>
   rw [hft] at OW;obtain ⟨x,hnf,hp1,nN,Y1⟩:=NE hft;have AHW:0<=r.schema:=by
    unfold Bm at hnf;split at hnf
    · assumption
    · cases hnf
   obtain ⟨k,hk⟩:∃k:Nat,r.schema=(k:Int):=⟨r.schema.toNat,by omega⟩;have hx:ns[k]? =some x:=by rw [hk,Bm,Ao AG] at hnf;exact hnf
   have hx1:x<=251:=by have h1:1*((x:Int)+4+1)<=r.places*((x:Int)+4+1):=PZ hp1 AG;omega
   have Hk:=AA hnf;have xJ:=AA hft;go_upto_region 4 with (first
    | (refine Bv rfl 36 (.tmp 4) rfl (w.heap.size+1) rfl 36 RR (0,0) _ Nc.o underlying36 rfl NK.o ?_)
    | (
     go_at_call 27;refine (OW.o _ (AV CX.o CP.o)).mono ?_;rintro e w7 ⟨rfl,hb7⟩;have Da:=AA (AV CP.o hb7);clear hb7)
    | (go_at_call 38;refine (Eg 190 _).mono ?_;rintro e w8 ⟨⟨v,rfl⟩,rfl⟩)
    | fail)
   have LJ:=AA hk;clear c0 c1 c2 c3 c4 c5 c6 hft hnf hk;obtain ⟨⟨f0,f1,f2,f3⟩,_,⟨e0,e1,e2,e5⟩,_⟩:=EN.o _ Da.o;have hcase:(¬q.Ar=r.Ar\/(q.Ar=r.Ar/\¬q.round=r.no)\/(q.Ar=r.Ar/\q.round=r.no/\¬q.schema=r.schema))\/(q.Ar=r.Ar/\q.round=r.no/\q.schema=r.schema):=AG
   rcases hcase with hno | ⟨h1,h2,h3⟩
   ·have HN:=AA (Cf.o (fun h=>by have:=(Ef.1 h).1.1.1.1.1.2;omega))
    rcases hno with h | ⟨h1,h⟩ | ⟨h1,h2,h⟩
    all_goals have hf:=JK h
    all_goals go_wp2_with (go_at_call 38;refine (DN 190 _).mono ?_;rintro e w9 ⟨rfl,rfl⟩)
    all_goals (refine Gq.o _ _ _ ?_ Da.o HN.o;rfl)
   go_upto_region 5 with (go_at_call 38;refine (Eg 190 _).mono ?_;rintro e w9 ⟨⟨v,rfl⟩,rfl⟩);have VG:=AA h3;have HX:=AA hx;have H12:=AA (And.intro h1 h2);clear h1 h2 h3 hx f0 f1 e0 e1 e2;have hcase:(¬0<=q.place\/(0<=q.place/\¬q.place < r.places))\/(0<=q.place/\q.place < r.places):=AG
   rcases hcase with hno | ⟨h1,h2⟩
   ·have HN:=AA (Cf.o (fun h=>by have:=(Ef.1 h).1.1.1.1.2;omega))
    rcases hno with h | ⟨h1,h⟩
    all_goals go_wp2_with (go_at_call 38;refine (DN 190 _).mono ?_;rintro e w9 ⟨rfl,rfl⟩)
    all_goals (refine Gq.o _ _ _ ?_ Da.o HN.o;rfl)
   go_upto_region 6 with (go_at_call 38;refine (Eg 190 _).mono ?_;rintro e w8 ⟨⟨v,rfl⟩,rfl⟩);clear f2 f3 e5;have I7:prog.follows .mixedOrders=true:=AJ
   have jT:AI (q.schema=(k:Int)):=AA (VG.o.trans LJ.o);have hkn':k < n:=by rw [HS.o.len];exact (BD.1 HX.o).1
   have hk1:(k:Int) < (n:Int):=AG
   have hk0:=Int.natCast_nonneg k
   obtain ⟨b,off,x',x0,x1,x2,x3,B,cc,x5,hA,hb,hx',hxl,hone,hcell⟩:=Na HS.o hkn';rw [HX.o] at hx';injection hx' with hx';subst hx';subst hA;have hS:=Da.o.drew;have HE4:AI (∀W,AK w4 W->W.cell? ⟨b,off+k*6+4,none⟩=some (AB B x cc)):=AA (fun W hW=>((AV CX.o hW).cell (p:=⟨b,off+k*6+4,none⟩) hb).trans (hcell 4 _ rfl));have hsz:(prog.info? 85).map (·.size)=some 6:=AJ
   clear hcell hone;refine Sd (fun W=>AK w4 W) 22 _ I7 AJ rfl ?_;refine Bl 0 50 AJ rfl rfl (DR rfl Ah) hS AJ Ez ?_;refine Bl 1 51 AJ rfl rfl (DR rfl Ah) hS AJ Ez ?_;refine Bl 2 52 AJ rfl rfl (DR rfl Ah) hS AJ Ez ?_;refine Bl 3 53 AJ rfl rfl (DR rfl Ah) hS AJ Ez ?_;refine Bl 4 54 AJ rfl rfl (DR rfl Ah) hS AJ Ez ?_;refine Bl 5 55 AJ rfl rfl (DR rfl Ah) hS AJ Ez ?_;refine Bl 6 56 AJ rfl rfl (DR rfl Ah) hS AJ Ez ?_;refine Bl 7 57 AJ rfl rfl (DR rfl Ah) hS AJ Ez ?_;refine Bl 8 58 AJ rfl rfl (DR rfl Ah) hS AJ Ez ?_;refine Bl 9 59 AJ rfl rfl (DR rfl Ah) hS AJ Ez ?_;refine Bl 10 60 AJ rfl rfl (DR rfl Ah) hS AJ Ez ?_;refine WB 11 61 AJ rfl rfl rfl rfl (enters_of func43 AJ rfl) (Uu FA fn fc q.fields x _ (HF.o.mono BX (AV CX.o hS))) AJ ?_;rintro e Le ⟨rfl,AHV⟩;subst AHV;refine ⟨_,rfl,hS,?_⟩;cases hin:NM x (-1) q.fields with
   |
    false=>
    have HN:=AA (Cf.o (fun h=>by have:=(Ef.1 h).1.1.1.2.1;rw [Hk.o] at this;exact Bool.noConfusion (hin.symm.trans this)));refine Bl 12 62 AJ rfl rfl (DR rfl Ah) hS AJ Ez ?_;refine LO 13 63 AJ rfl rfl (DR rfl Ah) hS AJ ?_;refine LO 14 64 AJ rfl rfl (DR rfl Ah) hS AJ ?_;refine LO 15 65 AJ rfl rfl (DR rfl Ah) hS AJ ?_;refine LO 16 66 AJ rfl rfl (DR rfl Ah) hS AJ ?_;refine LO 17 67 AJ rfl rfl (DR rfl Ah) hS AJ ?_;refine LO 18 68 AJ rfl rfl (DR rfl Ah) hS AJ ?_;refine LO 19 69 AJ rfl rfl (DR rfl Ah) hS AJ ?_;refine Bl 20 70 AJ rfl rfl (DR rfl Ah) hS AJ Ez ?_;refine Wu 21 71 AJ rfl rfl rfl rfl (enters_of func38 AJ rfl) (DN 190 _) AJ ?_;rintro e w12 ⟨rfl,rfl⟩;refine .inr ⟨_,rfl,?_⟩;refine Gq.o _ _ _ ?_ hS HN.o;kernel_rfl
   |
    true=>
    refine Bl 12 62 AJ rfl rfl (DR rfl Ah) hS AJ Ez ?_;refine Bl 13 63 AJ rfl rfl (DR rfl Ah) hS AJ Ez ?_;refine Bl 14 64 AJ rfl rfl (DR rfl Ah) hS AJ Ez ?_;refine Bl 15 65 AJ rfl rfl (DR rfl Ah) hS AJ Ez ?_;refine Bl 16 66 AJ rfl rfl (DR rfl Ah) hS AJ Ez ?_;refine Bl 17 67 AJ rfl rfl (DR rfl Ah) hS AJ Ez ?_;refine Bl 18 68 AJ rfl rfl (DR rfl Ah) hS AJ Ez ?_;by_cases hvf:vn=fn
    rotate_left
    ·have hkf:((vn:Int)==(fn:Int))=false:=JK AG
     have HN:=AA (Cf.o (fun h=>by have:=(Ef.1 h).1.1.1.2.2;have:=HF.o.len;have:=HV.o.len;omega));refine Bl 19 69 AJ rfl rfl (DR rfl Ah) hS AJ (v:=.bool false) Ey ?_;refine Bl 20 70 AJ rfl rfl (DR rfl Ah) hS AJ Ey ?_;refine Wu 21 71 AJ rfl rfl rfl rfl (enters_of func38 AJ rfl) (DN 190 _) AJ ?_;rintro e w12 ⟨rfl,rfl⟩;refine .inr ⟨_,rfl,?_⟩;refine Gq.o _ _ _ ?_ hS HN.o;kernel_rfl
    subst hvf;refine Bl 19 69 AJ rfl rfl (DR rfl Ah) hS AJ (v:=.bool true) Ey ?_;refine Bl 20 70 AJ rfl rfl (DR rfl Ah) hS AJ Ey ?_;refine Wu 21 71 AJ rfl rfl rfl rfl (enters_of func38 AJ rfl) (Eg 190 _) AJ ?_;rintro e w12 ⟨⟨v,rfl⟩,rfl⟩;refine .inl ⟨_,rfl,hS,?_⟩;refine F6 AJ ?_ _;simp only [Ct,DF];have f36:=(EN.o _ hS).2.1.1;have JY:=AA hS;have hle:vn<=9223372036854775807:=by have:=HF.o.le;omega
    obtain ⟨Z,hZ⟩:=Ad (q.fields.zip q.values);have HZ:AI (∀(j:Nat) (f v:Int),q.fields[j]? =some f->q.values[j]? =some v->Z[j]? =some (f,v)):=AA (fun j f v h1 h2=>by rw [hZ,Ic];exact ⟨h1,h2⟩);have dW:AI (Z.length=vn):=AA (by rw [hZ,List.length_zip,<-HF.o.len,<-HV.o.len,Nat.min_self]);have dV:=AA hZ;have Qo:=AA hin;clear hS hZ hin;go_upto_region 8 with fail;clear f36;go_loopg [75] vn (fun q' i wr=>∃j:Nat,j<=vn/\q'=vn - j/\i=AE AF j/\(Z.all fun p=>val r.schema p.1 p.2)=((Z.drop j).all fun p=>val r.schema p.1 p.2)/\AK w4 wr)
    case atStart=>exact ⟨0,Av _,rfl,rfl,rfl,JY.o⟩
    obtain ⟨j,hj,hq,rfl,hall,hbw⟩:=hrel;have HQ:=AA hq;have EC:=AA hall;have CO:=AA hbw;have tR:AK w wr:=AV CX.o hbw;clear hq hall hbw;by_cases hlt:j < vn
    ·obtain ⟨fb,fo,f,rfl,hfb,hf,ef,hf1,hf2⟩:=ints_at (HF.o.mono BX tR) hlt
     obtain ⟨vb,vo,u,rfl,hvb,hu,eu,hu1,hu2⟩:=ints_at (HV.o.mono BX tR) hlt;have hj1:(j:Int) < (vn:Int):=AG
     have hj0:(0:Int)<=(j:Int):=AG
     have hdr:=ACq (HZ.o j f u hf hu);have HEU:AI (∀W,AK wr W->W.cell? ⟨vb,vo+j,none⟩=some (AE AF u)):=AA (fun W hW=>(hW.cell (p:=⟨vb,vo+j,none⟩) hvb).trans eu);have HDR:=AA hdr;clear hf hu eu hdr tR;go_upto_region 10 with fail;have hS:AK w4 wr.drew:=CO.o.drew;have hR:AK wr wr.drew:=(Ae _ _).drew;refine Sd (fun W=>AK wr W) 12 _ I7 AJ rfl ?_;refine Bl 0 80 AJ rfl rfl (DR rfl Ah) hR AJ Lu ?_;refine Bl 1 81 AJ rfl rfl (DR rfl Ah) hR AJ Lu ?_;refine Bl 2 82 AJ rfl rfl (DR rfl Ah) hR AJ Lu ?_;refine Bl 3 83 AJ rfl rfl (DR rfl Ah) hR AJ Lu ?_;refine Bl 4 84 AJ rfl rfl (DR rfl Ah) hR AJ Lu ?_;refine Bl 5 85 AJ rfl rfl (DR rfl Ah) hR AJ Lu ?_;refine Bl 6 86 AJ rfl rfl (DR rfl Ah) hR AJ Lu ?_;refine Bl 7 87 AJ rfl rfl (DR rfl Ah) hR AJ Lu ?_;refine Bl 8 88 AJ rfl rfl (DR rfl Ah) hR AJ Lu ?_;refine Bl 9 89 AJ rfl rfl (DR rfl Ah) hR AJ Lu ?_;refine WB 10 90 AJ rfl rfl rfl rfl (enters_of func46 AJ rfl) (HK.o.val k f u _ (AV CX.o hS)) AJ ?_;rintro e Le ⟨rfl,Lx⟩;have hS2:AK w4 Le:=AV hS Lx;have hR2:AK wr Le:=AV hR Lx;refine ⟨_,rfl,hR2,?_⟩;cases hvl:val k f u with
     |
      false=>
      have HN:=AA (Cf.o (fun h=>by have h2:=(Ef.1 h).1.1.2;rw [<-dV.o,EC.o,HDR.o,N3,Bj,LJ.o] at h2;exact Bool.noConfusion (hvl.symm.trans h2.1)))
      refine Wu 11 91 AJ rfl rfl rfl rfl (enters_of func38 AJ rfl) (DN 190 _) AJ ?_;rintro e w12 ⟨rfl,rfl⟩;refine .inr ⟨_,rfl,?_⟩;refine Gq.o _ _ _ ?_ hS2 HN.o;kernel_rfl
     |
      true=>
      refine Wu 11 91 AJ rfl rfl rfl rfl (enters_of func38 AJ rfl) (Eg 190 _) AJ ?_;rintro e w12 ⟨⟨v,rfl⟩,rfl⟩;refine .inl ⟨_,rfl,hR2,?_⟩;refine F6 AJ ?_ _;simp only [Ct,DF];have HS2:=AA hS2;have VC:=AA hvl;clear hS hR hS2 hR2 Lx hvl;go_wp2_with fail;go_roundg (vn - (j+1))
      case measure=>exact BS
      refine ⟨j+1,by omega,rfl,by go_num,?_,HS2.o⟩;rw [EC.o,HDR.o,N3,show val r.schema (f,u).1 (f,u).2=true by rw [LJ.o];exact VC.o,JI]
    have hjv:j=vn:=AG
    have HALT:AI ((Z.all fun p=>val r.schema p.1 p.2)=true):=AA (by rw [EC.o,Ex (by rw [dW.o];omega)];rfl);subst hjv;have hvx:(j:Int)<=251:=by have h:=nI (n:=x) (l:=q.fields) (last:= -1) AG Qo.o;have h2:=HF.o.len;omega
    obtain ⟨tz,htz⟩:∃tz,tz=decide (q.token=zeros 32):=⟨_,rfl⟩;have hde:∀W,(Op.equalIn 10000 34 (AP (yA q.token)) (AP (yA (zeros 32)))).run prog W=.ok tz W:=fun W=>by rw [htz];exact dJ R9.o rfl W
    have hgd:=R2;have w1:IntKind.i64.wrap ((j:Int)+1)=(j:Int)+1:=CN _ AG;have w2:IntKind.i64.wrap ((j:Int)+1+1)=(j:Int)+1+1:=CN _ AG;obtain ⟨⟨f0,f1,f2,f3⟩,⟨f36,f37,f38,f71⟩,⟨e0,e1,e2,e5⟩,hld⟩:=EN.o wr CO.o;have t8:=AA hld;have HTZ:=AA htz;clear f0 f1 f3 e0 e1 e2 e5 hld htz EC tR;have hcase:(¬ -1<=q.link\/(-1<=q.link/\¬q.link < 4))\/(-1<=q.link/\q.link < 4):=AG
    rcases hcase with hno | ⟨hl1,hl2⟩
    ·have HN:=AA (Cf.o (fun h=>by have:=(Ef.1 h).1.2.1;omega))
     rcases hno with h | ⟨hl1,h⟩
     all_goals go_wp2_with (go_at_call 38;refine (DN 190 _).mono ?_;rintro e w9 ⟨rfl,rfl⟩)
     all_goals (refine Gq.o _ _ _ ?_ CO.o HN.o;rfl)
    by_cases hl3:q.link= -1
    ·cases tz with
     |
      false=>
      have HN:=AA (Cf.o (fun h=>by
       have h2:=(Ef.1 h).1.2.2;rcases h2 with h2 | h2
       · exact h2 hl3
       · exact RM HTZ.o.symm h2))
      go_wp2_with (first
       | (refine UT AJ 34 (.tmp 106) rfl _ _ rfl t8.o ?_)
       | (refine SV AJ 34 rfl (yA (zeros 32)) AJ ?_)
       | (go_at_call 38;refine (DN 190 _).mono ?_;rintro e w9 ⟨rfl,rfl⟩)
       | fail)
      (refine Gq.o _ _ _ ?_ CO.o HN.o;rfl)
     |
      true=>
      go_upto_region 16 with (first
       | (refine UT AJ 34 (.tmp 106) rfl _ _ rfl t8.o ?_)
       | (refine SV AJ 34 rfl (yA (zeros 32)) AJ ?_)
       | (go_at_call 38;refine (Eg 190 _).mono ?_;rintro e w9 ⟨⟨v,rfl⟩,rfl⟩)
       | fail)
      by_cases hkm:kn=j+1
      rotate_left
      ·have HN:=AA (Cf.o (fun h=>by have h2:=(Ef.1 h).2;rw [Ao hl3] at h2;have:=HF.o.len;have:=Ng.o.len;omega))
       have hkf:((kn:Int)==(j:Int)+1)=false:=JK AG;go_wp2_with (go_at_call 38;refine (DN 190 _).mono ?_;rintro e w9 ⟨rfl,rfl⟩)
       (refine Gq.o _ _ _ ?_ CO.o HN.o;rfl)
      have hkt:((kn:Int)==(j:Int)+1)=true:=beq_iff_eq.2 AG;have VH:=AA hkm;clear hkm;go_upto_region 17 with (go_at_call 38;refine (Eg 190 _).mono ?_;rintro e w9 ⟨⟨v,rfl⟩,rfl⟩);have hkm:=VH.o;have hS3:=CO.o.drew;have hrl:res=Ik Aw r.root (r.places*((x:Int)+4+1)) (Ga Aw (q.place*((x:Int)+4+1)) ((x:Int)+4) q.schema q.holder q.fields q.values (if 0<=q.link then [q.link] else []) (if 0<=q.link then [q.token] else [])) q.claims:=by have hok:Js (Bm ns r.schema) (val r.schema) r q=true:=Ef.2 ⟨⟨⟨⟨⟨⟨xJ.o,H12.o,VG.o⟩,⟨h1,h2⟩⟩,by rw [Hk.o];exact Qo.o,by have:=HF.o.len;have:=HV.o.len;omega⟩,by rw [<-dV.o];exact HALT.o⟩,⟨hl1,hl2⟩,.inr (F8 HTZ.o.symm)⟩,by rw [Ao hl3];have:=HF.o.len;have:=Ng.o.len;omega⟩;rw [Gp.o,DK,Ai AX,Ao hok,Hk.o];rfl
      have S5:=AA hrl;have jY:AI (∀W,AK w4 W->(Instr.loadAt 57 (AW (some ⟨w.heap.size+1+1,0,none⟩))).run prog W=.ok (.agg Y) W/\(Instr.loadAt 36 (AW (some ⟨w.heap.size+1,0,none⟩))).run prog W=.ok (.agg RR) W):=AA (fun W hW=>by obtain ⟨b1,b2,_⟩:=HE.o W hW;exact ⟨by simp only [Instr.loadAt,Instr.sureAddr,Ck,DC,Result.andThen_ok,My W _ 57 57 Y (0,0) _ b2 underlying57 rfl WS.o],by simp only [Instr.loadAt,Instr.sureAddr,Ck,DC,Result.andThen_ok,My W _ 36 36 RR (0,0) _ b1 underlying36 rfl NK.o]⟩)
      refine Sd (fun W=>AK w4 W) 5 _ I7 AJ rfl ?_;refine Bl 0 128 AJ rfl rfl (DR rfl Ah) hS3 AJ ep ?_;refine Bl 1 129 AJ rfl rfl (DR rfl Ah) hS3 AJ (v:=.agg Y) (fun W hW=>Cs rfl AJ (jY.o W hW).1) ?_;refine Bl 3 131 AJ rfl rfl (DR rfl Ah) hS3 AJ (v:=.agg RR) (fun W hW=>Cs rfl AJ (jY.o W hW).2) ?_;refine WB 2 130 AJ rfl rfl rfl rfl (enters_of func47 AJ rfl) (HPT.o k x _ (AV CX.o hS3) HX.o jT.o) AJ ?_;rintro e Hd ⟨L,T,rfl,hL,hT,Nu⟩;have hS4:AK w4 Hd:=AV hS3 Nu;have NP:AK w Hd:=AV CX.o hS4;refine ⟨_,rfl,hS4,?_⟩;obtain ⟨MA,mc,rfl⟩:=hL.form;obtain ⟨NA,zY,rfl⟩:=hT.form;have MS:=Vt ⟨q.Ar,q.round,q.schema,q.place,q.holder,AB FA j fc,AB VA j vc,q.link,q.token,AB KA kn kc,AB MA _ mc,AB NA _ zY,(x:Int)+4+1,(x:Int)+4⟩ FA VA MA NA KA j fc j vc _ mc _ zY kn kc q.fields q.values _ _ q.claims r Hd rfl rfl rfl rfl rfl (HF.o.mono BX NP) (HV.o.mono BX NP) hL hT (Ng.o.mono Bd NP)
       OV.o R9.o Vz.o (Ac _) (by rw [Ai (by omega:¬0<=q.link),Ai (by omega:¬0<=q.link)];exact Ac _) (by rw [Ai (by omega:¬0<=q.link)];show kn=j+0+1;omega) em
       eW Yq Yp (fun f hf=>by have:=Ru Qo.o f hf;omega) (fun l hl=>by rw [Ai (by omega:¬0<=q.link)] at hl;cases hl) AG (I0.o.below NP)
      rw [<-HRR.o] at MS;refine Wu 4 132 AJ rfl rfl rfl rfl (enters_of func41 AJ rfl) MS AJ ?_;rintro e QJ ⟨hR,Pz⟩;have hS5:AK w4 QJ:=AV hS4 Pz;rcases hR with ⟨h0,v,rfl⟩ | ⟨hne,rfl⟩
      ·refine .inl ⟨_,rfl,hS5,?_⟩
       exact yT
      exact lI
    go_upto_region 16 with (go_at_call 38;refine (Eg 190 _).mono ?_;rintro e w9 ⟨⟨v,rfl⟩,rfl⟩);by_cases hkm:kn=j+2
    rotate_left
    ·have HN:=AA (Cf.o (fun h=>by have h2:=(Ef.1 h).2;rw [Ai hl3] at h2;have:=HF.o.len;have:=Ng.o.len;omega))
     have hkf:((kn:Int)==(j:Int)+1+1)=false:=JK AG;go_wp2_with (go_at_call 38;refine (DN 190 _).mono ?_;rintro e w9 ⟨rfl,rfl⟩)
     (refine Gq.o _ _ _ ?_ CO.o HN.o;rfl)
    have hkt:((kn:Int)==(j:Int)+1+1)=true:=beq_iff_eq.2 AG;have VH:=AA hkm;clear hkm;go_upto_region 17 with (go_at_call 38;refine (Eg 190 _).mono ?_;rintro e w9 ⟨⟨v,rfl⟩,rfl⟩);have hkm:=VH.o;have hS3:=CO.o.drew;have hrl:res=Ik Aw r.root (r.places*((x:Int)+4+1)) (Ga Aw (q.place*((x:Int)+4+1)) ((x:Int)+4) q.schema q.holder q.fields q.values (if 0<=q.link then [q.link] else []) (if 0<=q.link then [q.token] else [])) q.claims:=by have hok:Js (Bm ns r.schema) (val r.schema) r q=true:=Ef.2 ⟨⟨⟨⟨⟨⟨xJ.o,H12.o,VG.o⟩,⟨h1,h2⟩⟩,by rw [Hk.o];exact Qo.o,by have:=HF.o.len;have:=HV.o.len;omega⟩,by rw [<-dV.o];exact HALT.o⟩,⟨hl1,hl2⟩,.inl hl3⟩,by rw [Ai hl3];have:=HF.o.len;have:=Ng.o.len;omega⟩;rw [Gp.o,DK,Ai AX,Ao hok,Hk.o];rfl
    have S5:=AA hrl;have jY:AI (∀W,AK w4 W->(Instr.loadAt 57 (AW (some ⟨w.heap.size+1+1,0,none⟩))).run prog W=.ok (.agg Y) W/\(Instr.loadAt 36 (AW (some ⟨w.heap.size+1,0,none⟩))).run prog W=.ok (.agg RR) W):=AA (fun W hW=>by obtain ⟨b1,b2,_⟩:=HE.o W hW;exact ⟨by simp only [Instr.loadAt,Instr.sureAddr,Ck,DC,Result.andThen_ok,My W _ 57 57 Y (0,0) _ b2 underlying57 rfl WS.o],by simp only [Instr.loadAt,Instr.sureAddr,Ck,DC,Result.andThen_ok,My W _ 36 36 RR (0,0) _ b1 underlying36 rfl NK.o]⟩)
    refine Sd (fun W=>AK w4 W) 5 _ I7 AJ rfl ?_;refine Bl 0 128 AJ rfl rfl (DR rfl Ah) hS3 AJ ep ?_;refine Bl 1 129 AJ rfl rfl (DR rfl Ah) hS3 AJ (v:=.agg Y) (fun W hW=>Cs rfl AJ (jY.o W hW).1) ?_;refine Bl 3 131 AJ rfl rfl (DR rfl Ah) hS3 AJ (v:=.agg RR) (fun W hW=>Cs rfl AJ (jY.o W hW).2) ?_;refine WB 2 130 AJ rfl rfl rfl rfl (enters_of func47 AJ rfl) (HPT.o k x _ (AV CX.o hS3) HX.o jT.o) AJ ?_;rintro e Hd ⟨L,T,rfl,hL,hT,Nu⟩;have hS4:AK w4 Hd:=AV hS3 Nu;have NP:AK w Hd:=AV CX.o hS4;refine ⟨_,rfl,hS4,?_⟩;obtain ⟨MA,mc,rfl⟩:=hL.form;obtain ⟨NA,zY,rfl⟩:=hT.form;have MS:=Vt ⟨q.Ar,q.round,q.schema,q.place,q.holder,AB FA j fc,AB VA j vc,q.link,q.token,AB KA kn kc,AB MA _ mc,AB NA _ zY,(x:Int)+4+1,(x:Int)+4⟩ FA VA MA NA KA j fc j vc _ mc _ zY kn kc q.fields q.values _ _ q.claims r Hd rfl rfl rfl rfl rfl (HF.o.mono BX NP) (HV.o.mono BX NP) hL hT (Ng.o.mono Bd NP)
     OV.o R9.o Vz.o (Ac _) (by rw [Ao (by omega:0<=q.link),Ao (by omega:0<=q.link)];exact Ac _) (by rw [Ao (by omega:0<=q.link)];show kn=j+1+1;omega) em
     eW Yq Yp (fun f hf=>by have:=Ru Qo.o f hf;omega) (fun l hl=>by rw [Ao (by omega:0<=q.link),Fg] at hl;omega) AG (I0.o.below NP)
    rw [<-HRR.o] at MS;refine Wu 4 132 AJ rfl rfl rfl rfl (enters_of func41 AJ rfl) MS AJ ?_;rintro e QJ ⟨hR,Pz⟩;have hS5:AK w4 QJ:=AV hS4 Pz;rcases hR with ⟨h0,v,rfl⟩ | ⟨hne,rfl⟩
    ·refine .inl ⟨_,rfl,hS5,?_⟩
     exact yT
    exact lI
 have hcf:(ck==0)=false:=by simpa using hck
 have HN:AI (res=160):=AA (Gp.o.trans (by rw [DK,Ao hck]));go_wp2_with (first
  | (
   go_at_call 23;refine (Mn.o _ CX.o).mono ?_;rintro e w5 ⟨rfl,hb5⟩;have CP:=AA hb5;clear hb5)
  | (go_at_call 38;refine (DN 160 _).mono ?_;rintro e w6 ⟨rfl,rfl⟩))
 (refine Gq.o _ _ _ ?_ CP.o HN.o;rfl)
end Go.Proofs.YtamhoilkpppdbaaGreatDoor
