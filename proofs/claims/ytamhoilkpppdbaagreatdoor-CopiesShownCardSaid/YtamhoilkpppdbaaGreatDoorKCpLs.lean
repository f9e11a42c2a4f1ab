import Derived.Test.YtamhoilkpppdbaaGreatDoorK15
import Derived.Test.YtamhoilkpppdbaaGreatDoorK16
namespace Go.Proofs.YtamhoilkpppdbaaGreatDoor
set_option maxHeartbeats 8000000
set_option maxRecDepth 100000
open Go renaming World→AH, Value→AN, Calls→AS, Addr→Aa
open Go.Proofs.Tryz
open Go.Value renaming slice→AB, int→AE, agg→AP
open Go.IntKind renaming i64→AF
open Go.Ending renaming returned→AU
open Go.Obj renaming cells→AO
open Go.Operand renaming tmp→AY
open Go.RowKit Go.Shelf
attribute [local go_sem] Oper.semAt_some
theorem AAe (VA LA:Option Aa) (vn vc ln lc:Nat):prog.built 46 [(5,AB VA vn vc),(6,AB LA ln lc)]=some (Fs ⟨0,0,0,0,zeros 32,AB VA vn vc,AB LA ln lc,AB none 0 0⟩):=by kernel_rfl
theorem AAd:prog.built 46 []=some (Fs ⟨Ci.Ar,Ci.round,Ci.schema,Ci.place,Ci.holder,AB none 0 0,AB none 0 0,AB none 0 0⟩):=by kernel_rfl
theorem vj (w:AH) (A B C D E:Array AN) (T1 T2 T3 T4 T5:TypeId):∃w',w'=(((((w.alloc (AO A T1)).alloc (AO B T2)).alloc (AO C T3)).alloc (AO D T4)).alloc (AO E T5))/\AZ w' w.heap.size T1 A/\AZ w' (w.heap.size+1) T2 B/\AZ w' (w.heap.size+1+1) T3 C/\AZ w' (w.heap.size+1+1+1) T4 D/\AZ w' (w.heap.size+1+1+1+1) T5 E/\AK w w'/\w'.heap.size=w.heap.size+1+1+1+1+1:=by obtain ⟨k1,b1,s1⟩:=bx w A T1;obtain ⟨k2,b2,s2⟩:=bx (w.alloc (AO A T1)) B T2;rw [s1] at k2 b2 s2;obtain ⟨k3,b3,s3⟩:=bx ((w.alloc (AO A T1)).alloc (AO B T2)) C T3;rw [s2] at k3 b3 s3;obtain ⟨k4,b4,s4⟩:=bx (((w.alloc (AO A T1)).alloc (AO B T2)).alloc (AO C T3)) D T4;rw [s3] at k4 b4 s4;obtain ⟨k5,b5,s5⟩:=bx ((((w.alloc (AO A T1)).alloc (AO B T2)).alloc (AO C T3)).alloc (AO D T4)) E T5;rw [s4] at k5 b5 s5;exact ⟨_,rfl,(((k1.below b2 AG).below b3 AG).below b4 AG).below b5 AG,((k2.below b3 AG).below b4 AG).below b5 AG,(k3.below b4 AG).below b5 AG,k4.below b5 AG,k5,(((b1.trans (b2.mono AG)).trans (b3.mono AG)).trans (b4.mono AG)).trans (b5.mono AG),s5⟩
theorem Ag.AE9 {α:Type} {sz:Nat} {R:AH->List AN->α->Prop} (hC:Qw R) {w:AH} {v:AN} {l:List α} (h:Ag sz R w v l):Ag sz R (veil [] w) v l:=
 h.QW hC rE (fun a v hv=>by rw [Kl (I9 AX)];exact hv)
theorem Ag.AH1 {w:AH} {v:AN} {l:List (AQ)} (h:Ag 32 CV w v l):∀d∈l,d.length=32:=by obtain ⟨A,cap,_,_,_,h⟩:=h;intro d hd;obtain ⟨i,hi⟩:=dq hd;obtain ⟨_,_,cs,_,_,_,_,hr⟩:=h i d hi;exact hr.2
theorem AD2 {q:Fb} (h:∀d∈q.links,d.length=32) (n:Nat) (fs:AQ) (link:Int):(LR n q fs link).token.length=32:=by
 show (if 0<=link then q.links.getD link.toNat Ni else Ni).length=32;split
 ·rw [Cv]
  cases e:q.links[link.toNat]? with
  | none=>rfl
  | some d=>exact h d (CS e)
 · rfl
theorem uq {ns:List Nat} {val:Int->Int->Int->Bool} {r:CM} {RO:AQ} {q:Fb} {s:IX} {fs:AQ} {link:Int} {x:Nat} (hn:Bm ns r.schema=some x) (hq:q.schema=r.schema) (hc:EX Aw 0 (Bm ns r.schema) (val r.schema) {r with root:=RO} q=0)
 (hs:s=LR ((Bm ns q.schema).getD 0) q fs link) (ho:Gi 0 (Bm ns q.schema) q fs link=0):DK Aw 0 (Bm ns r.schema) (val r.schema) {r with root:=RO} s=0:=by
 rw [hq,hn] at ho hs;rw [hn] at hc ⊢;have ho2:JV (some x) q fs link=true:=by
  unfold Gi at ho;rw [Ai AX] at ho;by_cases hx:JV (some x) q fs link=true
  · exact hx
  · rw [Ai hx] at ho;cases ho
 rw [hs];exact mA (n:=x) rfl hc ho2
theorem qA (v0 v1 v3 v4 v5 v6:AN) (A:Option Aa) (n c:Nat) (ns:List Nat) (ck:Int) (val:Int->Int->Int->Bool) (seed:AQ) (r:CM) (place pe it xs xp xi link:Int) (holder:AQ) (links:List (AQ)) (vs fs:AQ) (VA LA FA:Option Aa) (vn vc ln lc fn fc:Nat) (w:AH) (hs:Ag 6 Lz w (AB A n c) ns)
 (hK:Ql (AP #[v0,v1,AB A n c,v3,v4,v5]) (AP #[v0,v1,AB A n c,v3,v4,v5,v6]) ck val w) (hv:Ag 1 CK w (AB VA vn vc) vs) (hl:Ag 32 CV w (AB LA ln lc) links) (hf:Ag 1 CK w (AB FA fn fc) fs) (hsd:seed.length=32) (hh:holder.length=32) (hro:r.root.length=32) (iy:Gk link) (MT:Ca w)
 (hS:∀W,AK w W->AS prog 7 #[] W fun e w'=>e=AU (.bool true)/\AK W w')
 (hF:∀W,AK w W->AS prog 24 #[AP #[v0,v1,AB A n c,v3,v4,v5,v6]] W (PF W)):
 AS prog 3 #[AP #[v0,v1,AB A n c,v3,v4,v5,v6],AP (yA seed),AP (rdA r),AE AF place,AP (Qg pe it holder (AB LA ln lc)),AP #[AE AF xs,AE AF xp,AE AF xi,AB VA vn vc],AB FA fn fc,AE AF link] w fun e w'=>e=AU (.bool true)/\AK w w':=by
 obtain ⟨RR,hRR⟩:=Ad (rdA r);obtain ⟨OO,Oy⟩:=Ad (Qg pe it holder (AB LA ln lc));obtain ⟨SD,hSD⟩:=Ad (yA seed);obtain ⟨CB,hCB⟩:=Ad (Fs ⟨0,0,0,0,zeros 32,AB VA vn vc,AB LA ln lc,AB none 0 0⟩);obtain ⟨CZ,hCZ⟩:=Ad (Fs ⟨Ci.Ar,Ci.round,Ci.schema,Ci.place,Ci.holder,AB none 0 0,AB none 0 0,AB none 0 0⟩);rw [<-hRR,<-Oy,<-hSD];have NK:AI ((prog.info? 36).map (·.size)=some RR.size):=AA UO;have X2:AI ((prog.info? 39).map (·.size)=some OO.size):=AA eQ;have VE:AI ((prog.info? 34).map (·.size)=some SD.size):=AA (by rw [hSD,B9,hsd];kernel_rfl);have Lg:AI (RR[2]? =some (AE AF r.schema)/\RR[5]? =some (AE AF r.places)):=AA sD
 have dh:AI (OO[34]? =some (AB LA ln lc)):=AA (by rw [Oy,Qg,Yc (by simp [B9,hh])];simp [B9,hh])
 have HBC:AI (prog.built 46 [(5,AB VA vn vc),(6,AB LA ln lc)]=some CB):=AA (by rw [hCB];exact AAe _ _ _ _ _ _);have JH:AI (prog.built 46 []=some CZ):=AA (by rw [hCZ];exact AAd);have uC:AI (∀W,AK w W->AS prog 8 #[AP #[v0,v1,AB A n c,v3,v4,v5,v6],.agg RR,.agg CB] W (PF W)):=AA (fun W hW=>by rw [hRR,hCB];exact AAR v0 v1 v3 v4 v5 v6 A n c ns r _ VA LA none vn vc ln lc 0 0 [] W (hs.mono EK hW) (fun W' hW'=>hF W' (AV hW hW')) rfl rfl rfl rfl (Ag.nil _ _ (Av _)))
 have PH:AI (∀W,AK w W->AS prog 9 #[AP #[v0,v1,AB A n c,v3,v4,v5,v6],.agg SD,.agg RR,AE AF place,.agg OO,AP #[AE AF xs,AE AF xp,AE AF xi,AB VA vn vc]] W (if FS ck (Bm ns r.schema) (val r.schema) r place links xs vs=true then Gn W (IJ Aw seed ((Bm ns r.schema).getD 0) r place holder links vs) 0 else Gn W Ci (Ve ck))):=AA (fun W hW=>by rw [hSD,hRR,Oy];exact aE v0 v1 v3 v4 v5 v6 A n c ns ck val seed r place pe it xs xp xi holder links vs VA LA vn vc ln lc W (hs.mono EK hW) (hK.below hW) (hv.mono BX hW) (hl.mono BK hW) hsd hh hro (MT.below hW))
 have Ze:AI (∀W,AK w W->AS prog 10 #[AP #[v0,v1,AB A n c,v3,v4,v5,v6],AE AF r.schema] W fun e w'=>e=AU (.tuple #[AE AF (UV ck (Bm ns r.schema)).1,AE AF (UV ck (Bm ns r.schema)).2])/\AK W w'):=AA (fun W hW=>Xt v0 v1 v3 v4 v5 v6 A n c ns r.schema ck val W (hs.mono EK hW) (hK.below hW));have SA:=AA hS;have HS:=AA hs;have HK:=AA hK;have Qb:=AA hf;have HH:=AA hh;have AIK:=AA hsd;have HRO:=AA hro;have I0:=AA MT;have HLI:=AA iy;have HRR:=AA hRR;have Nd:=AA hSD;have HCZ:=AA hCZ;clear hs hK hv hl hf hsd hh hro iy MT hS hF hRR Oy hSD hCB hCZ;go_enter func3,ntmps3;go_upto_region 1 with fail;obtain ⟨w5,hw5,k1,k2,k3,k4,k5,hb5,hz5⟩:=vj w #[v0,v1,AB A n c,v3,v4,v5,v6] SD RR OO #[AE AF xs,AE AF xp,AE AF xi,AB VA vn vc] 32 34 36 39 41;rw [<-hw5];have CP:=AA hb5;have H5:=AA hz5;have HE:AI (∀W,AK w5 W->AZ W w.heap.size 32 #[v0,v1,AB A n c,v3,v4,v5,v6]/\AZ W (w.heap.size+1) 34 SD/\AZ W (w.heap.size+1+1) 36 RR/\AZ W (w.heap.size+1+1+1) 39 OO/\AZ W (w.heap.size+1+1+1+1) 41 #[AE AF xs,AE AF xp,AE AF xi,AB VA vn vc]):=AA (fun W hW=>⟨k1.below hW k1.lt,k2.below hW k2.lt,k3.below hW k3.lt,k4.below hW k4.lt,k5.below hW k5.lt⟩);have HT:AI (∀W,AZ W w.heap.size 32 #[v0,v1,AB A n c,v3,v4,v5,v6]->W.cell? ⟨w.heap.size,0,none⟩=some v0/\W.cell? ⟨w.heap.size,1,none⟩=some v1/\W.cell? ⟨w.heap.size,2,none⟩=some (AB A n c)/\W.cell? ⟨w.heap.size,3,none⟩=some v3/\W.cell? ⟨w.heap.size,4,none⟩=some v4/\W.cell? ⟨w.heap.size,5,none⟩=some v5/\W.cell? ⟨w.heap.size,6,none⟩=some v6):=AA (fun W b=>⟨b.cell 0,b.cell 1,b.cell 2,b.cell 3,b.cell 4,b.cell 5,b.cell 6⟩);clear hw5 k1 k2 k3 k4 k5 hb5 hz5;go_upto_region 3 with (go_at_call 7;refine (SA.o _ CP.o).mono ?_;rintro e w6 ⟨rfl,hb⟩;have Fu:=AA hb;clear hb);have xL:=AA (AV CP.o Fu.o);obtain ⟨kt6,_,kr6,ko6,ki6⟩:=HE.o w6 Fu.o;obtain ⟨d0,d1,d2,d3,d4,d5,d6⟩:=HT.o w6 kt6;have zW:w6.cell? ⟨w.heap.size+1+1+1,34,none⟩=some (AB LA ln lc):=(ko6.cell 34).trans dh.o;have i3:w6.cell? ⟨w.heap.size+1+1+1+1,3,none⟩=some (AB VA vn vc):=ki6.cell 3;have U8:=AA kr6;clear kt6 kr6 ko6 ki6;by_cases hfn:(fn:Int)<=16
 rotate_left
 ·go_wp2_with (first
   | (refine Bv rfl 36 (AY 10) rfl (w.heap.size+1+1) rfl 36 RR (0,0) _ U8.o underlying36 rfl NK.o ?_)
   | (refine wpList_buildTo rfl 46 #[(5,.tmp 30),(6,.tmp 32)] rfl (some 33) rfl CB (Es (congrArg (prog.built 46) AJ) HBC.o) ?_)
   | (go_at_call 8;refine (uC.o _ xL.o).mono ?_;rintro e w7 ⟨⟨b,rfl⟩,hb⟩;have Da:=AA (AV xL.o hb);clear hb;cases b)
   | fail)
  all_goals (go_ret;exact ⟨rfl,Da.o⟩)
 go_upto_region 5 with (first
  | (refine Bv rfl 36 (AY 10) rfl (w.heap.size+1+1) rfl 36 RR (0,0) _ U8.o underlying36 rfl NK.o ?_)
  | (refine wpList_buildTo rfl 46 #[(5,.tmp 30),(6,.tmp 32)] rfl (some 33) rfl CB (Es (congrArg (prog.built 46) AJ) HBC.o) ?_)
  | (go_at_call 8;refine (uC.o _ xL.o).mono ?_;rintro e w7 ⟨⟨b,rfl⟩,hb⟩;have Da:=AA (AV Fu.o hb);clear hb;cases b)
  | fail)
 ·go_wp2_with fail
  go_ret;exact ⟨rfl,AV CP.o Da.o⟩
 have AIv:=AA (AV CP.o Da.o);obtain ⟨kt7,ks7,kr7,ko7,zw⟩:=HE.o w7 Da.o;have KT7:=AA kt7;have KS7:=AA ks7;have tp:=AA kr7;have KO7:=AA ko7;have i0:w7.cell? ⟨w.heap.size+1+1+1+1,0,none⟩=some (AE AF xs):=zw.cell 0;have i1:w7.cell? ⟨w.heap.size+1+1+1+1,1,none⟩=some (AE AF xp):=zw.cell 1;have i2:w7.cell? ⟨w.heap.size+1+1+1+1,2,none⟩=some (AE AF xi):=zw.cell 2;have i3':w7.cell? ⟨w.heap.size+1+1+1+1,3,none⟩=some (AB VA vn vc):=zw.cell 3;clear d0 d1 d2 d3 d4 d5 d6 zW i3 kt7 ks7 kr7 ko7 zw U8 Fu xL uC SA;obtain ⟨d0,d1,d2,d3,d4,d5,d6⟩:=HT.o w7 KT7.o;have az:=PH.o w7 AIv.o;by_cases hm:FS ck (Bm ns r.schema) (val r.schema) r place links xs vs=true
 rotate_left
 ·rw [Ai hm] at az
  have HM7:=AA az;have hne:(Ve ck==0)=false:=by unfold Ve;split <;> rfl
  have HX:AI (∀W,AK w W->∀(YA YB YC:Option Aa) (yn yc zn zc un uc:Nat),Ag 1 CK W (AB YA yn yc) Ci.values->Ag 32 CV W (AB YB zn zc) Ci.links->Ag 3 Dt W (AB YC un uc) Ci.claims->AS prog 11 #[AP (Fs ⟨Ci.Ar,Ci.round,Ci.schema,Ci.place,Ci.holder,AB YA yn yc,AB YB zn zc,AB YC un uc⟩),.agg CZ] W fun e w'=>e=AU (.bool true)/\AK W w'):=AA (fun W hW YA YB YC yn yc zn zc un uc a b c=>by rw [HCZ.o];exact y6 Ci YA yn yc YB zn zc YC un uc none 0 0 none 0 0 none 0 0 W rfl a b c (Ag.nil _ _ (Av _)) (Ag.nil _ _ (Av _)) (Ag.nil _ _ (Av _)))
  clear az hm;go_upto_region 6 with (first
   | (refine Bv rfl 34 (AY 9) rfl (w.heap.size+1) rfl 34 SD (0,0) _ KS7.o underlying34 rfl VE.o ?_)
   | (refine Bv rfl 36 (AY 10) rfl (w.heap.size+1+1) rfl 36 RR (0,0) _ tp.o underlying36 rfl NK.o ?_)
   | (refine Bv rfl 39 (AY 12) rfl (w.heap.size+1+1+1) rfl 39 OO (0,0) _ KO7.o underlying39 rfl X2.o ?_)
   | (
    go_at_call 9;refine HM7.o.mono ?_;rintro e w8 ⟨YA,yn,yc,YB,zn,zc,YC,un,uc,rfl,s1,s2,s3,hb⟩;obtain ⟨C2,hC2⟩:=Ad (Fs ⟨Ci.Ar,Ci.round,Ci.schema,Ci.place,Ci.holder,AB YA yn yc,AB YB zn zc,AB YC un uc⟩);rw [<-hC2];have bA:AI (C2.size=39):=AA (by rw [hC2];exact Ma rfl);have pR:AI (C2.all (·.oneCell')=true):=AA eU;have Ke:=AA hb;have JY:=AA (s1.Ob Ns);have HS2:=AA (s2.Ob R0);have J6:=AA (s3.Ob QS);have HC2:=AA hC2;clear s1 s2 s3 hb hC2)
   | (refine Fv 46 17 49 39 C2 bA.o pR.o rfl ?_)
   | fail)
  obtain ⟨k9,b9,s9⟩:=bx w8 C2 46;generalize (w8.alloc (AO C2 46))=w9 at k9 b9 s9 ⊢;have Lf:AK w7 w9:=AV Ke.o b9;have XW:AK w5 w9:=AV Da.o Lf;have LM:=AA (AV CP.o XW);have pJ:=AA k9;have ADE:=AA (JY.o.mono BX b9);have ADC:=AA (HS2.o.mono BK b9);have ADB:=AA (J6.o.mono Bd b9);obtain ⟨kt9,_,zp,_⟩:=HE.o w9 XW;have r2:w9.cell? ⟨w.heap.size+1+1,2,none⟩=some (AE AF r.schema):=(zp.cell 2).trans Lg.o.1;have OX:AI ((prog.info? 46).map (·.size)=some C2.size):=AA (by rw [bA.o];kernel_rfl);clear d0 d1 d2 d3 d4 d5 d6 i0 i1 i2 i3' k9 b9 s9 Lf XW zp;obtain ⟨d0,d1,d2,d3,d4,d5,d6⟩:=HT.o w9 kt9;go_wp2_with (first
   | (go_at_call 10;refine (Ze.o _ LM.o).mono ?_;rintro e w10 ⟨rfl,hb⟩;have Mq:=AA (AV LM.o hb);have AIj:=AA (pJ.o.below hb pJ.o.lt);have HY:=AA (HX.o w10 Mq.o YA YB YC yn yc zn zc un uc (ADE.o.mono BX hb) (ADC.o.mono BK hb) (ADB.o.mono Bd hb));clear hb)
   | (refine Bv rfl 46 (AY 17) rfl w8.heap.size rfl 46 C2 (0,0) _ AIj.o underlying46 rfl OX.o ?_)
   | (refine wpList_buildTo rfl 46 #[] rfl (some 61) rfl CZ (Es (congrArg (prog.built 46) AJ) JH.o) ?_)
   | (go_at_call 11;rw [HC2.o];refine HY.o.mono ?_;rintro e Le ⟨rfl,hb⟩;have ADW:=AA (AV Mq.o hb);clear hb)
   | fail)
  go_ret;exact ⟨rfl,ADW.o⟩
 rw [Ao hm] at az;have hm2:=hm;simp only [FS,Bj,B8] at hm2;obtain ⟨⟨⟨⟨⟨⟨hck,hft⟩,hp0⟩,hpp⟩, -⟩, -⟩, -⟩:=hm2;subst hck;obtain ⟨x,hnf,hp1,nN,Y1⟩:=NE hft;rw [hnf] at az;obtain ⟨q0,hq0⟩:=Ad (IJ Aw seed x r place holder links vs:Fb);have HM7:AI (AS prog 9 #[AP #[v0,v1,AB A n c,v3,v4,v5,v6],.agg SD,.agg RR,AE AF place,.agg OO,AP #[AE AF xs,AE AF xp,AE AF xi,AB VA vn vc]] w7 (Gn w7 q0 0)):=AA (by rw [hq0];exact az);have Nf:=AA hq0;have OV:AI (q0.holder.length=32):=AA (by rw [hq0];exact HH.o);have HM:=AA hm;have Hk:=AA hnf;obtain ⟨m,hmm⟩:=Ad (r.places*((x:Int)+4+1));have hm1:1<=m:=by have h:=PZ hp1 (show (0:Int)<=(x:Int)+4+1 by omega);omega
 have HMB:AI (1<=m/\m<=256):=AA ⟨hm1,by omega⟩;obtain ⟨RO,dE⟩:=Ad (M7 Aw seed m.toNat);have Nx:AI (RO.length=32):=AA (by rw [dE,M7];exact MK _);have HRT:AI (∀W,AK w W->AS prog 12 #[.agg SD,AE AF m] W (Y6 RO 0 W)):=AA (fun W hW=>by rw [Nd.o,dE];exact mH seed m W AIK.o HMB.o.1 HMB.o.2 (I0.o.below hW));have AFH:UV 0 (Bm ns r.schema)=((x:Int)+4+1,0):=by rw [hnf];rfl
 rw [AFH] at Ze;have hmul:IntKind.i64.wrap (r.places*((x:Int)+4+1))=m:=by rw [<-hmm];exact CN _ (by have:=HMB.o;omega)
 have HMM:=AA hmm;have AIL:=AA dE;have SF:=AA (And.intro hp1 nN);have vI:¬r.places < 1:=AG
 have hpl2:¬16 < r.places:=AG
 clear az hm hq0 hft hp0 hpp hp1 nN Y1 hnf hmm hm1 dE AFH;go_upto_region 6 with (first
  | (refine Bv rfl 34 (AY 9) rfl (w.heap.size+1) rfl 34 SD (0,0) _ KS7.o underlying34 rfl VE.o ?_)
  | (refine Bv rfl 36 (AY 10) rfl (w.heap.size+1+1) rfl 36 RR (0,0) _ tp.o underlying36 rfl NK.o ?_)
  | (refine Bv rfl 39 (AY 12) rfl (w.heap.size+1+1+1) rfl 39 OO (0,0) _ KO7.o underlying39 rfl X2.o ?_)
  | (
   go_at_call 9;refine HM7.o.mono ?_;rintro e w8 ⟨YA,yn,yc,YB,zn,zc,YC,un,uc,rfl,s1,s2,s3,hb⟩;obtain ⟨C2,hC2⟩:=Ad (Fs ⟨q0.Ar,q0.round,q0.schema,q0.place,q0.holder,AB YA yn yc,AB YB zn zc,AB YC un uc⟩);rw [<-hC2];have bA:AI (C2.size=39):=AA (by rw [hC2];exact Ma OV.o);have pR:AI (C2.all (·.oneCell')=true):=AA eU;have Ke:=AA hb;have JY:=AA s1;have HS2:=AA s2;have J6:=AA s3;have HC2:=AA hC2;clear s1 s2 s3 hb hC2)
  | (refine Fv 46 17 49 39 C2 bA.o pR.o rfl ?_)
  | fail)
 obtain ⟨k9,b9,s9⟩:=bx w8 C2 46;generalize (w8.alloc (AO C2 46))=w9 at k9 b9 s9 ⊢;obtain ⟨gc,hgc⟩:=Ad w8.heap.size;rw [<-hgc] at k9 s9 ⊢;have Lf:AK w7 w9:=AV Ke.o b9;have XW:AK w5 w9:=AV Da.o Lf;have AGt:=AA XW;have LM:=AA (AV CP.o XW);have pJ:=AA k9;have HGC:AI (w.heap.size+1+1+1+1+1<=gc/\w.heap.size+1+1 < w7.heap.size):=AA (by have:=Ke.o.size;have:=Da.o.size;have:=H5.o;omega);have ADE:=AA (JY.o.Yu BX b9);have ADC:=AA (HS2.o.Yu BK b9);have ADB:=AA (J6.o.Yu Bd b9);obtain ⟨kt9,_,zp,_⟩:=HE.o w9 XW;have r2:w9.cell? ⟨w.heap.size+1+1,2,none⟩=some (AE AF r.schema):=(zp.cell 2).trans Lg.o.1;have OX:AI ((prog.info? 46).map (·.size)=some C2.size):=AA (by rw [bA.o];kernel_rfl);clear d0 d1 d2 d3 d4 d5 d6 i0 i1 i2 i3' k9 b9 s9 Lf XW zp hgc JY HS2 J6 Ke;obtain ⟨d0,d1,d2,d3,d4,d5,d6⟩:=HT.o w9 kt9;go_upto_region 11 with (first
  | (
   go_at_call 10;refine (Ze.o _ LM.o).mono ?_;rintro e w10 ⟨rfl,hb⟩;have Mq:=AA (AV LM.o hb);have PI:=AA hb;obtain ⟨_,ks,kr,_⟩:=HE.o w10 (AV AGt.o hb);have r5:w10.cell? ⟨w.heap.size+1+1,5,none⟩=some (AE AF r.places):=(kr.cell 5).trans Lg.o.2;have AH8:=AA ks;have gW:=AA kr;clear hb ks kr)
  | fail)
 clear d0 d1 d2 d3 d4 d5 d6 r2;go_upto_region 12 with (first
  | (refine Bv rfl 34 (AY 9) rfl (w.heap.size+1) rfl 34 SD (0,0) _ AH8.o underlying34 rfl VE.o ?_)
  | (go_at_call 12;refine (HRT.o _ Mq.o).mono ?_;rintro e Le ⟨rfl,hb⟩;have ADW:=AA hb;clear hb)
  | (refine Fv 34 21 82 32 (yA RO) (by rw [B9,Nx.o]) (Kq RO) rfl ?_)
  | fail)
 obtain ⟨k12,b12,s12⟩:=bx Le (yA RO) 34;generalize (Le.alloc (AO (yA RO) 34))=w12 at k12 b12 s12 ⊢;obtain ⟨gd,hgd⟩:=Ad Le.heap.size;rw [<-hgd] at k12 s12 ⊢;have hbx:AK w10 w12:=AV ADW.o b12;have Y2:AK w9 w12:=AV PI.o hbx;have AC5:=AA (gW.o.below hbx gW.o.lt);have AIB:=AA k12;have ADJ:=AA (pJ.o.below Y2 pJ.o.lt);have xM:=AA (AV Mq.o hbx);have ADr:=AA (AV AGt.o Y2);have ADq:=AA (ADE.o.Yu BX Y2);have ADp:=AA (ADC.o.Yu BK Y2);have ADo:=AA (ADB.o.Yu Bd Y2);have WS:AI ((prog.info? 34).map (·.size)=some (yA RO).size):=AA q8;have Sy:AI (w12.there (w.heap.size+1+1) 6 (yA RO).size):=AA (Sc AC5.o (by rw [HRR.o,rdA,T6,B9,B9,Nx.o,HRO.o];show 6+32<=6+32;exact Ac _));clear k12 b12 s12 hgd hbx Y2 r5;go_upto_region 13 with (first
  | (refine Bv rfl 34 (AY 21) rfl gd rfl 34 (yA RO) (0,0) _ AIB.o underlying34 rfl WS.o ?_)
  | (refine Tn rfl 34 (AY 85) (AY 84) rfl (w.heap.size+1+1) 6 (yA RO) rfl rfl Sy.o WS.o (Kq RO) ?_)
  | fail)
 obtain ⟨R1,hR1⟩:∃R,R=rdA {r with root:=RO}:=⟨_,rfl⟩;have gE:w12.grownBy (w12.setCells (w.heap.size+1+1) 6 (yA RO).toList) (some (w.heap.size+1+1)):=Kw _ _ _ (DS _ _);have ABz:AZ (w12.setCells (w.heap.size+1+1) 6 (yA RO).toList) (w.heap.size+1+1) 36 R1:=by have h:=AC5.o;rw [HRR.o] at h;rw [hR1];exact mN h HRO.o Nx.o
 have Nu:AK w (w12.setCells (w.heap.size+1+1) 6 (yA RO).toList):=below_setCells _ _ _ _ xM.o AG;generalize w12.setCells (w.heap.size+1+1) 6 (yA RO).toList=Hd at gE ABz Nu ⊢;have AB6:∀b,b < w12.heap.size->b≠w.heap.size+1+1->Hd.heap[b]? =w12.heap[b]? :=fun b hb hne=>gE.block b hb (fun e=>by injection e with e;exact hne e);have hgc:=HGC.o;have hz5:=H5.o;have XT:=ADr.o.size;have iF:=AA Nu;have oz:=AA ((ADq.o.Yt (b:=w.heap.size) BX Vi gE hgc.2 AG).Ob Ns);have ADH:=AA ((ADp.o.Yt (b:=w.heap.size) BK O2 gE hgc.2 AG).Ob R0);have iB:=AA ((ADo.o.Yt (b:=w.heap.size) Bd JD gE hgc.2 AG).Ob QS);have Xv:AI (AZ Hd gc 46 C2):=AA ((AB6 _ ADJ.o.lt AG).trans ADJ.o);have gU:AI (AZ Hd w.heap.size 32 #[v0,v1,AB A n c,v3,v4,v5,v6]):=AA ((AB6 _ AG AG).trans (HE.o w12 ADr.o).1);have wS:=AA ABz;have AGQ:AI ((prog.info? 36).map (·.size)=some R1.size):=AA (by rw [hR1,rdA,T6,B9];show (prog.info? 36).map (·.size)=some (6+RO.length);rw [Nx.o];kernel_rfl);have HR1:=AA hR1;have MS:EX Aw 0 (Bm ns r.schema) (val r.schema) {r with root:=RO} q0=0:=by rw [Nf.o];exact tM Hk.o HM.o _ (by rw [AIL.o,HMM.o])
 have AGp:=AA MS;clear gE ABz Nu AB6 hgc hz5 XT hR1 MS AC5 Sy ADq ADp ADo;have OY:AI (∀W,AK Hd W->AS prog 13 #[AP #[v0,v1,AB A n c,v3,v4,v5,v6],.agg R1,.agg C2] W fun e w'=>e=AU (AE AF 0)/\AK W w'):=AA (fun W hW=>by have h2:AK w W:=AV iF.o hW;have h:=jl v0 v1 v3 v4 v5 v6 A n c ns 0 val {r with root:=RO} q0 YA YB YC yn yc zn zc un uc W (HS.o.mono EK h2) (HK.o.below h2) (oz.o.mono BX hW) (ADH.o.mono BK hW) (iB.o.mono Bd hW) OV.o Nx.o (I0.o.below h2);rw [show EX Aw 0 (Bm ns ({r with root:=RO}:CM).schema) (val ({r with root:=RO}:CM).schema) {r with root:=RO} q0=0 from AGp.o,<-HC2.o] at h;rw [HR1.o];exact h)
 have xC:=AA (And.intro (loadRow wS.o underlying36 rfl AGQ.o) (loadRow Xv.o underlying46 rfl OX.o));obtain ⟨d0,d1,d2,d3,d4,d5,d6⟩:=HT.o Hd gU.o;go_upto_region 15 with (first
  | (refine Dh AJ 36 (AY 10) rfl _ rfl xC.o.1 ?_)
  | (refine Dh AJ 46 (AY 17) rfl _ rfl xC.o.2 ?_)
  | (go_at_call 13;refine (OY.o _ (Ae _ _)).mono ?_;rintro e QJ ⟨rfl,hb⟩;have V1:=AA hb;clear hb)
  | fail)
 clear d0 d1 d2 d3 d4 d5 d6;have LL:AI (fs.length<=1000):=AA (by have:=Qb.o.len;omega);have HOP:AI (∀W,AK QJ W->AS prog 14 #[AP #[v0,v1,AB A n c,v3,v4,v5,v6],.agg C2,AB FA fn fc,AE AF link] W (if Gi 0 (Bm ns q0.schema) q0 fs link=0 then QG [] W (LR ((Bm ns q0.schema).getD 0) q0 fs link) 0 else QG [] W MN (Gi 0 (Bm ns q0.schema) q0 fs link))):=AA (fun W hW=>by have hx:AK Hd W:=AV V1.o hW;have h2:AK w W:=AV iF.o hx;have h:=open_any v0 v1 v3 v4 v5 v6 A n c ns 0 val q0 YA YB YC FA yn yc zn zc un uc fn fc fs link [] W (HS.o.mono EK h2) (HK.o.below h2) (oz.o.mono BX hx) (ADH.o.mono BK hx) ((iB.o.mono Bd hx).AE9 JD) (Qb.o.mono BX h2) OV.o LL.o (fun _ h=>by cases h);rw [<-HC2.o] at h;exact h)
 have AIC:=AA (Xv.o.below V1.o Xv.o.lt);have AC2:=AA (gU.o.below V1.o gU.o.lt);have AGE:=AA (wS.o.below V1.o wS.o.lt);clear OY xC ADJ Xv gU wS;obtain ⟨s0,E0,hE0,hOP⟩:∃(s:IX) (E:Int),((s.holder.length=32/\s.token.length=32)/\(E=0->s=LR ((Bm ns q0.schema).getD 0) q0 fs link/\Gi 0 (Bm ns q0.schema) q0 fs link=0))/\(∀W,AK QJ W->AS prog 14 #[AP #[v0,v1,AB A n c,v3,v4,v5,v6],.agg C2,AB FA fn fc,AE AF link] W (QG [] W s E)):=by
  have h:=HOP.o;by_cases e:Gi 0 (Bm ns q0.schema) q0 fs link=0
  ·simp only [Ao e] at h
   exact ⟨_,0,⟨⟨OV.o,AD2 ADH.o.AH1 _ _ _⟩,fun _=>⟨rfl,e⟩⟩,h⟩
  simp only [Ai e] at h;exact ⟨_,_,⟨⟨rfl,rfl⟩,fun e2=>absurd e2 e⟩,h⟩
 have AIS:=AA hOP;have VJ:=AA hE0;clear hOP hE0 HOP;obtain ⟨d0,d1,d2,d3,d4,d5,d6⟩:=HT.o QJ AC2.o;go_upto_region 16 with (first
  | (refine Bv rfl 46 (AY 17) rfl gc rfl 46 C2 (0,0) _ AIC.o underlying46 rfl OX.o ?_)
  | (
   go_at_call 14;refine (AIS.o _ (Ae _ _)).mono ?_;rintro e Ig ⟨FA',fn',PG,UA,un',uc',XA,sW,sX,rfl,s1,s2,s3,hb⟩;obtain ⟨SS,hSS⟩:=Ad (GD ⟨s0.Ar,s0.round,s0.schema,s0.place,s0.holder,AB FA' fn' PG,AB UA un' uc',s0.link,s0.token,AB XA sW sX,undef,undef,0,0⟩);rw [<-hSS];have wW:AI (SS.size=72):=AA (by rw [hSS];exact Iu VJ.o.1.1 VJ.o.1.2);have jQ:AI (SS.all (·.oneCell')=true):=AA rD;have Kb:=AA (s1.Ob Ns);have HSU:=AA (s2.Ob Ns);have HSX:=AA (s3.Ob QS);have ADV:=AA hb;have AGO:=AA hSS;clear s1 s2 s3 hb hSS)
  | (refine Fv 57 23 101 72 SS wW.o jQ.o rfl ?_)
  | fail)
 clear d0 d1 d2 d3 d4 d5 d6;obtain ⟨k16,b16,s16⟩:=bx Ig SS 57;generalize (Ig.alloc (AO SS 57))=w16 at k16 b16 s16 ⊢;obtain ⟨gs,hgs⟩:=Ad Ig.heap.size;rw [<-hgs] at k16 s16 ⊢;have hb16:AK QJ w16:=AV ADV.o b16;have iE:AI (AK w w16):=AA (AV iF.o (AV V1.o hb16));have AJX:AI (AK Hd w16):=AA (AV V1.o hb16);have AIE:=AA b16;have AC3:=AA k16;have AGD:=AA (AC2.o.below hb16 AC2.o.lt);have AH9:=AA (AGE.o.below hb16 AGE.o.lt);clear hb16 b16 k16 s16 hgs;by_cases hE:E0=0
 rotate_left
 ·have hne:(E0==0)=false:=JK hE
  obtain ⟨d0,d1,d2,d3,d4,d5,d6⟩:=HT.o w16 AGD.o;go_wp2_with fail;go_ret;exact ⟨rfl,iE.o⟩
 subst hE;obtain ⟨hse,hoe⟩:=VJ.o.2 rfl;have hsh:=uq Hk.o (by rw [Nf.o];rfl) AGp.o hse hoe;have hfe:s0.fields=fs:=by rw [hse];rfl
 have hfn':fn'=fn:=by have a:=Kb.o.len;have b:=Qb.o.len;rw [hfe] at a;omega
 have hsl:Gk s0.link:=by rw [hse];exact HLI.o
 have HSL:=AA hsl;have Hj:=AA hsh;have dZ:AI (∀W,AK w16 W->AS prog 15 #[AP #[v0,v1,AB A n c,v3,v4,v5,v6],.agg R1,.agg SS] W fun e w'=>e=AU (AE AF 0)/\AK W w'):=AA (fun W hW=>by have h2:AK w W:=AV iE.o hW;have h5:AK Ig W:=AV AIE.o hW;have h:=dT v0 v1 v3 v4 v5 v6 A n c ns 0 val {r with root:=RO} s0 FA' UA XA fn' PG un' uc' sW sX W (HS.o.mono EK h2) (HK.o.below h2) (Kb.o.mono BX h5) (HSU.o.mono BX h5) (HSX.o.mono Bd h5) VJ.o.1.1 VJ.o.1.2 HSL.o Nx.o (I0.o.below h2);rw [show DK Aw 0 (Bm ns ({r with root:=RO}:CM).schema) (val ({r with root:=RO}:CM).schema) {r with root:=RO} s0=0 from Hj.o] at h;rw [HR1.o,AGO.o];exact h)
 have O7:AI ((prog.info? 57).map (·.size)=some SS.size):=AA (by rw [wW.o];kernel_rfl);have pH:=AA (And.intro (loadRow AH9.o underlying36 rfl AGQ.o) (loadRow AC3.o underlying57 rfl O7.o));have AIr:AI (∀W,AK w16 W->W.cell? ⟨gs,36,none⟩=some (AB FA' fn PG)):=AA (fun W hW=>by have h:=AC3.o.below hW AC3.o.lt;rw [AGO.o] at h;rw [<-hfn'];exact (JR h VJ.o.1.1 VJ.o.1.2).fields)
 obtain ⟨d0,d1,d2,d3,d4,d5,d6⟩:=HT.o w16 AGD.o;clear hse hoe hsh hfe hfn' hsl;go_wp2_with (first
  | (refine Dh AJ 36 (AY 10) rfl _ rfl pH.o.1 ?_)
  | (refine Dh AJ 57 (AY 23) rfl _ rfl pH.o.2 ?_)
  | (go_at_call 15;refine (dZ.o _ (Ae _ _)).mono ?_;rintro e bY ⟨rfl,hb⟩;have bC:=AA (AV iE.o hb);have jJ:=AIr.o bY hb;clear hb)
  | fail)
 go_ret;exact ⟨rfl,bC.o⟩
end Go.Proofs.YtamhoilkpppdbaaGreatDoor
