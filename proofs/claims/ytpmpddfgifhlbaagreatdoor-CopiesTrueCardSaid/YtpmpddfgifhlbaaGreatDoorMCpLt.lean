import Derived.Test.YtpmpddfgifhlbaaGreatDoorMCpTw
import Derived.Test.YtpmpddfgifhlbaaGreatDoorMCpTp
namespace Go.Proofs.YtpmpddfgifhlbaaGreatDoor
set_option maxHeartbeats 8000000
set_option maxRecDepth 100000
open Go renaming Calls→AS
open Go.Proofs.Tryz
open Go.Value renaming slice→AA, int→AB, pointer→AU, bool→AX, agg→AO
open Go.IntKind renaming i64→AE
open Go.Ending renaming returned→AV
open Go.Obj renaming cells→AQ
open Go.Operand renaming tmp→AY
open Go.RowKit Go.Shelf
attribute [local go_sem] Oper.semAt_some
theorem AA5 (w:World) (A B C D E F:Array Value) (T1 T2 T3 T4 T5 T6:TypeId):∃w',w'=((((((w.alloc (AQ A T1)).alloc (AQ B T2)).alloc (AQ C T3)).alloc (AQ D T4)).alloc (AQ E T5)).alloc (AQ F T6))/\AZ w' w.heap.size T1 A/\AZ w' (w.heap.size+1) T2 B/\AZ w' (w.heap.size+1+1) T3 C/\AZ w' (w.heap.size+1+1+1) T4 D/\AZ w' (w.heap.size+1+1+1+1) T5 E/\AZ w' (w.heap.size+1+1+1+1+1) T6 F/\AJ w w'/\w'.heap.size=w.heap.size+1+1+1+1+1+1:=by obtain ⟨w5,e5,k1,k2,k3,k4,k5,b5,s5⟩:=xh w A B C D E T1 T2 T3 T4 T5;obtain ⟨k6,b6,s6⟩:=bx w5 F T6;rw [s5] at k6 b6 s6;rw [<-e5];exact ⟨_,rfl,k1.below b6 AG,k2.below b6 AG,k3.below b6 AG,k4.below b6 AG,k5.below b6 AG,k6,b5.trans (b6.mono AG),s6⟩
structure AGk (P:Prop):Prop where
 o:P
structure AEm (M:Prop) where
 (R:Prop)
 main:AGk R->M
def AAy:AEm (∀(v0 v1 v3 v4 v5 v6:Value) (A:Option Addr) (n c:Nat) (ns:List Nat) (ck:Int) (val:Int->Int->Int->Bool) (seed:AP) (r:CS) (place pe it xs xp xi:Int) (holder:AP) (links:List (AP)) (vs:AP) (s:Fw) (VA LA FA UA XA:Option Addr) (vn vc ln lc fn fc un uc xn xc:Nat) (w:World),
 Ag 6 LG w (AA A n c) ns->
 Qm (AO #[v0,v1,AA A n c,v3,v4,v5]) (AO #[v0,v1,AA A n c,v3,v4,v5,v6]) ck val w->
 Ag 1 CF w (AA VA vn vc) vs->
 Ag 32 CQ w (AA LA ln lc) links->
 seed.length=32->
 holder.length=32->
 r.root.length=32->
 s.holder.length=32->
 s.token.length=32->
 EZ s.link->
 Ag 1 CF w (AA FA fn fc) s.fields->
 Ag 1 CF w (AA UA un uc) s.values->
 Ag 3 Dc w (AA XA xn xc) s.claims->
 Cc w->
 (∀W,AJ w W->AS prog 4 #[] W fun e w'=>e=AV (AX true)/\AJ W w')->
 (∀W,AJ w W->AS prog 19 #[AO #[v0,v1,AA A n c,v3,v4,v5,v6]] W (Kp W))->
 AS prog 3 #[AO #[v0,v1,AA A n c,v3,v4,v5,v6],AO (yA seed),AO (rdA r),AB AE place,AO (Qc pe it holder (AA LA ln lc)),AO #[AB AE xs,AB AE xp,AB AE xi,AA VA vn vc],AO (Et ⟨s.Au,s.round,s.schema,s.place,s.holder,AA FA fn fc,AA UA un uc,s.link,s.token,AA XA xn xc,undef,undef,0,0⟩)] w fun e w'=>e=AV (AX true)/\AJ w w'):=⟨_,by
 intro hR v0 v1 v3 v4 v5 v6 A n c ns ck val seed r place pe it xs xp xi holder links vs s VA LA FA UA XA vn vc ln lc fn fc un uc xn xc w hs hK hv hl hsd hh hro hsh hst hsl hf hu hx MJ hS hF;obtain ⟨RR,hRR⟩:=Ab (rdA r);obtain ⟨OO,PS⟩:=Ab (Qc pe it holder (AA LA ln lc));obtain ⟨SD,hSD⟩:=Ab (yA seed);obtain ⟨SS,hSS⟩:=Ab (Et ⟨s.Au,s.round,s.schema,s.place,s.holder,AA FA fn fc,AA UA un uc,s.link,s.token,AA XA xn xc,undef,undef,0,0⟩);obtain ⟨CB,hCB⟩:=Ab (Hf ⟨0,0,0,0,zeros 32,AA VA vn vc,AA LA ln lc,AA none 0 0⟩);obtain ⟨n0,hn0⟩:=Ab ((Uf ck (Bt ns r.schema)).1);obtain ⟨e0,he0⟩:=Ab ((Uf ck (Bt ns r.schema)).2);rw [<-hRR,<-PS,<-hSD,<-hSS];have PI:AI ((prog.info? 36).map (·.size)=some RR.size):=AF Ww;have YJ:AI ((prog.info? 39).map (·.size)=some OO.size):=AF fM;have qt:AI ((prog.info? 34).map (·.size)=some SD.size):=AF (by rw [hSD,Bb,hsd];kernel_rfl);have Q8:AI ((prog.info? 44).map (·.size)=some SS.size):=AF (by rw [hSS,Iw hsh hst];kernel_rfl);have LI:AI (RR[2]? =some (AB AE r.schema)/\RR[5]? =some (AB AE r.places)):=AF mg
 have HBC:AI (prog.built 48 [(5,AA VA vn vc),(6,AA LA ln lc)]=some CB):=AF (by rw [hCB];exact ACF _ _ _ _ _ _);have Wi:AI (∀W,AJ w W->AS prog 5 #[AO #[v0,v1,AA A n c,v3,v4,v5,v6],.agg RR,.agg CB] W (Kp W)):=AF (fun W hW=>by rw [hRR,hCB];exact AB2 v0 v1 v3 v4 v5 v6 A n c ns r _ VA LA none vn vc ln lc 0 0 [] W (hs.mono FI hW) (fun W' hW'=>hF W' (AW hW hW')) rfl rfl rfl rfl (Ag.nil _ _ (Ar _)))
 have HF2:AI (∀W,AJ w W->AS prog 6 #[AO #[v0,v1,AA A n c,v3,v4,v5,v6],.agg RR,.agg SS] W (Kp W)):=AF (fun W hW=>by rw [hRR,hSS];exact pX v0 v1 v3 v4 v5 v6 A n c ns r _ FA UA XA fn fc un uc xn xc s.claims W (hs.mono FI hW) (fun W' hW'=>hF W' (AW hW hW')) hsh hst rfl rfl rfl (hx.mono CD hW))
 have dx:AI (∀W,AJ w W->AS prog 8 #[AO #[v0,v1,AA A n c,v3,v4,v5,v6],AB AE r.schema] W fun e w'=>e=AV (.tuple #[AB AE n0,AB AE e0])/\AJ W w'):=AF (fun W hW=>by rw [hn0,he0];exact YD v0 v1 v3 v4 v5 v6 A n c ns r.schema ck val W (hs.mono FI hW) (hK.below hW))
 obtain ⟨Sj,HS,HK,HV,HL,HH,AE1,HRO,Ff,HST,HSL,PO⟩:=RG hS hs hK hv hl hh hsd hro hsh hst hsl hf;obtain ⟨ut,du,Hk,HRR,HOO,Lr,AE0,qh⟩:=Wy hu hx MJ hRR PS hSD hSS (And.intro hn0 he0);clear hs hK hv hl hsd hh hro hsh hst hsl hf hu hx MJ hS hF hRR PS hSD hSS hCB hn0 he0;go_enter func3,ntmps3;go_upto_region 1 with fail;obtain ⟨w5,hw5,k1,k2,k3,k4,k5,k6,hb5,hz5⟩:=AA5 w #[v0,v1,AA A n c,v3,v4,v5,v6] SD RR OO #[AB AE xs,AB AE xp,AB AE xi,AA VA vn vc] SS 32 34 36 39 41 44;rw [<-hw5];obtain ⟨CW,H5⟩:=Aj hb5 hz5;have HE:AI (∀W,AJ w5 W->AZ W w.heap.size 32 #[v0,v1,AA A n c,v3,v4,v5,v6]/\AZ W (w.heap.size+1) 34 SD/\AZ W (w.heap.size+1+1) 36 RR/\AZ W (w.heap.size+1+1+1) 39 OO/\AZ W (w.heap.size+1+1+1+1) 41 #[AB AE xs,AB AE xp,AB AE xi,AA VA vn vc]/\AZ W (w.heap.size+1+1+1+1+1) 44 SS):=AF (fun W hW=>⟨k1.below hW k1.lt,k2.below hW k2.lt,k3.below hW k3.lt,k4.below hW k4.lt,k5.below hW k5.lt,k6.below hW k6.lt⟩);have HT:AI (∀W,AZ W w.heap.size 32 #[v0,v1,AA A n c,v3,v4,v5,v6]->W.cell? ⟨w.heap.size,0,none⟩=some v0/\W.cell? ⟨w.heap.size,1,none⟩=some v1/\W.cell? ⟨w.heap.size,2,none⟩=some (AA A n c)/\W.cell? ⟨w.heap.size,3,none⟩=some v3/\W.cell? ⟨w.heap.size,4,none⟩=some v4/\W.cell? ⟨w.heap.size,5,none⟩=some v5/\W.cell? ⟨w.heap.size,6,none⟩=some v6):=AF (fun W b=>⟨b.cell 0,b.cell 1,b.cell 2,b.cell 3,b.cell 4,b.cell 5,b.cell 6⟩);clear hw5 k1 k2 k3 k4 k5 k6 hb5 hz5;go_upto_region 3 with (go_at_call 4;refine (Sj.o _ CW.o).mono ?_;rintro e w6 ⟨rfl,hb⟩;have FK:=AF hb;clear hb);have HX:AI (∀W,AJ w5 W->AJ w W/\W.cell? ⟨w.heap.size+1+1+1,34,none⟩=some (AA LA ln lc)/\W.cell? ⟨w.heap.size+1+1+1+1,3,none⟩=some (AA VA vn vc)/\(Instr.loadAt 36 (AU (some ⟨w.heap.size+1+1,0,none⟩))).run prog W=.ok (.agg RR) W/\(Instr.loadAt 44 (AU (some ⟨w.heap.size+1+1+1+1+1,0,none⟩))).run prog W=.ok (.agg SS) W/\(Instr.loadAt 34 (AU (some ⟨w.heap.size+1,0,none⟩))).run prog W=.ok (.agg SD) W/\(Instr.loadAt 39 (AU (some ⟨w.heap.size+1+1+1,0,none⟩))).run prog W=.ok (.agg OO) W/\W.cell? ⟨w.heap.size+1+1,2,none⟩=some (AB AE r.schema)/\W.cell? ⟨w.heap.size+1+1,5,none⟩=some (AB AE r.places)):=AF (fun W hW=>by obtain ⟨-,kd,kr,ko,ki,ks⟩:=HE.o W hW;have ko2:=ko;rw [HOO.o] at ko2;refine ⟨AW CW.o hW,?_,ki.cell 3,loadRow kr underlying36 rfl PI.o,loadRow ks underlying44 rfl Q8.o,loadRow kd underlying34 rfl qt.o,loadRow ko underlying39 rfl YJ.o,(kr.cell 2).trans LI.o.1,(kr.cell 5).trans LI.o.2⟩;rw [ko2.cell,Qc,Yt (by simp [Bb,HH.o])];simp [Bb,HH.o])
 obtain ⟨d0,d1,d2,d3,d4,d5,d6⟩:=HT.o w6 (HE.o w6 FK.o).1;obtain ⟨AHw,o34,i3,lr,ls, -⟩:=HX.o w6 FK.o;obtain ⟨ALP,HL6⟩:=Aj AHw lr;clear AHw lr ls;go_upto_region 5 with (first
  | (refine Bd AL 36 (AY 9) rfl _ AL HL6.o ?_)
  | (refine M2 AL 48 #[(5,.tmp 33),(6,.tmp 35)] rfl CB (Fg (congrArg (prog.built 48) AL) HBC.o) ?_)
  | (go_at_call 5;(with_reducible refine (Wi.o _ ALP.o).mono ?_);rintro e w7 ⟨⟨b,rfl⟩,hb⟩;have ET:=AF (AW FK.o hb);clear hb d0 d1 d2 d3 d4 d5 d6 o34 i3;obtain ⟨d0,d1,d2,d3,d4,d5,d6⟩:=HT.o w7 (HE.o w7 ET.o).1;obtain ⟨AHv, -, -,lr,ls, -⟩:=HX.o w7 ET.o;have AIz:=AF AHv;have HL7:=AF (And.intro lr ls);clear AHv lr ls;cases b;case false=>(go_wp2;go_ret;exact ⟨rfl,AIz.o⟩))
  | (refine Bd AL 36 (AY 9) rfl _ AL HL7.o.1 ?_)
  | (refine Bd AL 44 (AY 13) rfl _ AL HL7.o.2 ?_)
  | (go_at_call 6;(with_reducible refine (HF2.o _ AIz.o).mono ?_);rintro e w8 ⟨⟨b,rfl⟩,hb⟩;have Je:=AF (AW ET.o hb);clear hb d0 d1 d2 d3 d4 d5 d6;cases b;case false=>(go_wp2;go_ret;exact ⟨rfl,AW CW.o Je.o⟩))
  | fail)
 obtain ⟨d0,d1,d2,d3,d4,d5,d6⟩:=HT.o w8 (HE.o w8 Je.o).1;obtain ⟨xK, -, -,lr, -,ld,lo, -⟩:=HX.o w8 Je.o;obtain ⟨-, -, -, -,ki8, -⟩:=HE.o w8 Je.o;obtain ⟨q0,E0,hmk,hcm⟩:=ABW v0 v1 v3 v4 v5 v6 A n c ns ck val seed r place pe it xs xp xi holder links vs VA LA vn vc ln lc w w8 xK HS.o HK.o (HV.o.mono BU xK) (HL.o.mono BL xK) AE1.o HH.o HRO.o Hk.o;rw [<-Lr.o,<-HRR.o,<-HOO.o] at hcm;obtain ⟨Nm,HCM,VF⟩:=Az hmk (hcm w8 (Af _ _)) (And.intro lr (And.intro ld lo));have i0:w8.cell? ⟨w.heap.size+1+1+1+1,0,none⟩=some (AB AE xs):=ki8.cell 0;have i1:w8.cell? ⟨w.heap.size+1+1+1+1,1,none⟩=some (AB AE xp):=ki8.cell 1;have i2:w8.cell? ⟨w.heap.size+1+1+1+1,2,none⟩=some (AB AE xi):=ki8.cell 2;have i3:w8.cell? ⟨w.heap.size+1+1+1+1,3,none⟩=some (AA VA vn vc):=ki8.cell 3;clear xK lr ld lo ki8 hmk hcm Wi HF2 Sj HBC;go_upto_region 6 with (first
  | (refine Bd AL 34 (AY 8) rfl _ AL VF.o.2.1 ?_)
  | (refine Bd AL 36 (AY 9) rfl _ AL VF.o.1 ?_)
  | (refine Bd AL 39 (AY 11) rfl _ AL VF.o.2.2 ?_)
  | (
   go_at_call 7;refine HCM.o.mono ?_;rintro e w9 ⟨YA,yn,yc,YB,zn,zc,YC,un',uc',rfl,s1,s2,s3,hb⟩;obtain ⟨C2,hC2⟩:=Ab (Hf ⟨q0.Au,q0.round,q0.schema,q0.place,q0.holder,AA YA yn yc,AA YB zn zc,AA YC un' uc'⟩);rw [<-hC2];have yw:AI (C2.size=39):=AF (by rw [hC2];exact N2 Nm.o.2.1);have yv:AI (C2.all (·.oneCell')=true):=AF sY;obtain ⟨LL,Ki,HS2,HC2⟩:=CJ hb s1 s2 hC2;clear s1 s2 s3 hb hC2)
  | (refine Fy 48 15 54 39 C2 yw.o yv.o rfl ?_)
  | fail)
 obtain ⟨k10,b10,s10⟩:=bx w9 C2 48;generalize (w9.alloc (AQ C2 48))=w10 at k10 b10 s10 ⊢;obtain ⟨gc,hgc⟩:=Ab w9.heap.size;rw [<-hgc] at k10 s10 ⊢;have AHx:AJ w8 w10:=AW LL.o b10;have dV:AJ w5 w10:=AW Je.o AHx;obtain ⟨y6,MD,qn⟩:=Az dV (AW CW.o dV) k10;have HGC:AI (w.heap.size+1+1+1+1+1+1<=gc/\w.heap.size+1+1 < w8.heap.size):=AF (by have:=LL.o.size;have:=Je.o.size;have:=H5.o;omega);obtain ⟨AEz,AEw⟩:=Aj (Ki.o.lj BU b10) (HS2.o.lj BL b10);obtain ⟨-, -, -, -, -, -, -,r2, -⟩:=HX.o w10 dV;clear d0 d1 d2 d3 d4 d5 d6 i0 i1 i2 i3 k10 b10 s10 AHx hgc Ki HS2 VF HCM LL;obtain ⟨d0,d1,d2,d3,d4,d5,d6⟩:=HT.o w10 (HE.o w10 dV).1;clear dV;go_upto_region 7 with (first
  | (
   go_at_call 8;refine (dx.o _ MD.o).mono ?_;rintro e MF ⟨rfl,hb⟩;obtain ⟨bE,Ob⟩:=Aj (AW y6.o hb) hb;clear hb)
  | fail)
 clear d0 d1 d2 d3 d4 d5 d6 r2;have y7:=AF (AW CW.o bE.o);by_cases hE:E0=0
 rotate_left
 ·have hne:(E0==0)=false:=JK hE
  clear hE;go_wp2;go_ret;exact ⟨rfl,y7.o⟩
 subst hE;obtain ⟨hm,hq0⟩:=Nm.o.1 rfl;have hm2:=hm;simp only [FV,BZ,Bw] at hm2;obtain ⟨⟨⟨⟨⟨⟨hck,hft⟩,hp0⟩,hpp⟩,hl4⟩, -⟩,hacc⟩:=hm2;subst hck;obtain ⟨x,hnf,hp1,o5,Vm⟩:=NB hft;rw [hnf] at hq0 hacc;simp only [D4,Ce,BZ,Bw] at hacc;obtain ⟨N,hN⟩:=Ab (x+4+1:Nat);have hNi:(x:Int)+4+1=(N:Int):=AG
 rw [hNi] at Vm;obtain ⟨M,hM⟩:∃M:Nat,r.places*(N:Int)=M:=⟨(r.places*(N:Int)).toNat,by have:=JH (show 0<=r.places by omega) (show 0<=(N:Int) by omega);omega⟩;have hM1:N<=M:=by have h:=OL hp1 (show (0:Int)<=(N:Int) by omega);omega
 obtain ⟨p0,ADi⟩:∃p:Nat,place*(N:Int)=p:=⟨(place*(N:Int)).toNat,by have:=JH hp0 (show 0<=(N:Int) by omega);omega⟩;have hpM:p0+N<=M:=by have h:=OL (show place+1<=r.places by omega) (show (0:Int)<=(N:Int) by omega);rw [Int.add_mul,ADi,hM,Int.one_mul] at h;omega
 have hqv:q0.values=vs:=by rw [hq0];rfl
 have WL:q0.links=links:=by rw [hq0];rfl
 have ZX:q0.holder=holder:=by rw [hq0];rfl
 obtain rfl:yn=x:=by have:=AEz.o.len;rw [hqv,hacc.1] at this;exact this
 obtain rfl:zn=4:=by have:=AEw.o.len;rw [WL,hl4] at this;exact this
 have hwp:Uf 0 (Bt ns r.schema)=((N:Int),0):=by rw [hnf,<-hNi];rfl
 obtain ⟨hn0,he0⟩:=qh.o;rw [hwp] at hn0 he0;obtain rfl:n0=(N:Int):=hn0;obtain rfl:e0=0:=he0;have HM:AI (1<=M/\M<=256):=AF ⟨by omega,by omega⟩;have Zn:AI (N=yn+4+1/\p0+N<=M):=AF ⟨hN,hpM⟩;obtain ⟨HHQ,HPP⟩:=Aj (And.intro ZX (And.intro hqv WL)) (And.intro hp0 (And.intro hpp o5));obtain ⟨RO,WO⟩:=Ab (LY Aq seed M);have N4:AI (RO.length=32):=AF fQ;have eE:AI (∀W,AJ w W->AS prog 9 #[.agg SD,AB AE M] W (V3 RO 0 W)):=AF (fun W hW=>by have h:=Z9 seed M W AE1.o Uc Uc (Hk.o.below hW);rw [CZ] at h;rw [Lr.o,WO];exact h)
 obtain ⟨AKh,ju,Hm,HNI⟩:=CJ WO hM hnf hNi;have hmul:IntKind.i64.wrap (r.places*(N:Int))=(M:Int):=by rw [hM];exact Bv _ Uc
 have AJL:IntKind.i64.wrap ((yn:Int)+4)=(yn:Int)+4:=Bv _ fP;have AJK:IntKind.i64.wrap ((yn:Int)+4+1)=(N:Int):=by rw [<-hNi];exact Bv _ fP
 have oz:¬r.places < 1:=AG
 have hpl2:¬16 < r.places:=AG
 have AJq:¬place < 0:=AG
 have AJp:¬r.places<=place:=AG
 obtain ⟨-, -, -, -, -,ld, -, -,r5⟩:=HX.o MF bE.o;have ADq:=qn.o.below Ob.o qn.o.lt;rw [HC2.o] at ADq;have cpb:=Nh ADq Nm.o.2.1;have di:=cpb.values;have c37:=cpb.links;obtain ⟨PK,HPN⟩:=Aj ld ADi;clear hm hq0 hft hp0 hpp hl4 hacc hnf hp1 o5 Vm hN hNi hM hM1 ADi hpM hqv WL ZX hwp WO ld ADq cpb qh dx Nm;go_upto_region 11 with fail;clear di c37;go_upto_region 12 with (first
  | (refine Bd AL 34 (AY 8) rfl _ AL PK.o ?_)
  | (go_at_call 9;refine (eE.o _ y7.o).mono ?_;rintro e w12 ⟨rfl,hb⟩;have q9:=AF hb;clear hb)
  | (refine Fy 34 19 106 32 (yA RO) fF (GH RO) rfl ?_)
  | fail)
 obtain ⟨k12,b12,s12⟩:=bx w12 (yA RO) 34;generalize (w12.alloc (AQ (yA RO) 34))=Fs at k12 b12 s12 ⊢;obtain ⟨gd,hgd⟩:=Ab w12.heap.size;rw [<-hgd] at k12 s12 ⊢;have hbx:AJ MF Fs:=AW q9.o b12;have Xr:AJ w10 Fs:=AW Ob.o hbx;have ly:AJ w5 Fs:=AW y6.o Xr;have AEp:=AF (HE.o Fs ly).2.2.1;obtain ⟨AIf,q8,yz,qR,AIK,iX⟩:=FR (loadRow k12 underlying34 rfl bd) (AW CW.o ly) ly (AEz.o.lj BU Xr) (AEw.o.lj BL Xr) (qn.o.below Xr qn.o.lt);have U8:AI ((prog.info? 34).map (·.size)=some (yA RO).size):=AF bd;have OZ:AI (Fs.there (w.heap.size+1+1) 6 (yA RO).size):=AF (MV AEp.o (by rw [HRR.o,rdA,UU,Bb,Bb,N4.o,HRO.o];show 6+32<=6+32;exact Ad _));clear k12 b12 s12 hgd hbx Xr ly r5 PK eE q9 bE y7 AEz AEw qn;go_upto_region 13 with (first
  | (refine Bd AL 34 (AY 19) rfl _ AL AIf.o ?_)
  | (refine N9 rfl 34 (AY 109) (AY 108) rfl (w.heap.size+1+1) 6 (yA RO) rfl rfl OZ.o U8.o (GH RO) ?_)
  | fail)
 obtain ⟨R1,hR1⟩:∃R,R=rdA {r with root:=RO}:=⟨_,rfl⟩;have pI:Fs.grownBy (Fs.setCells (w.heap.size+1+1) 6 (yA RO).toList) (some (w.heap.size+1+1)):=JT _ _ _ (DN _ _);have ADf:AZ (Fs.setCells (w.heap.size+1+1) 6 (yA RO).toList) (w.heap.size+1+1) 36 R1:=by have h:=AEp.o;rw [HRR.o] at h;rw [hR1];exact n8 h HRO.o N4.o
 have MZ:AJ w (Fs.setCells (w.heap.size+1+1) 6 (yA RO).toList):=below_setCells _ _ _ _ q8.o AG;generalize Fs.setCells (w.heap.size+1+1) 6 (yA RO).toList=NW at pI ADf MZ ⊢;have o9:∀b,b < Fs.heap.size->b≠w.heap.size+1+1->NW.heap[b]? =Fs.heap[b]? :=fun b hb hne=>pI.block b hb (fun e=>by injection e with e;exact hne e);have hgc:=HGC.o;have hz5:=H5.o;have oq:=yz.o.size;obtain ⟨ia,AIO,AIJ⟩:=Az MZ ((qR.o.cM (b:=w.heap.size) BU Vi pI hgc.2 AG).WC Vh) ((AIK.o.cM (b:=w.heap.size) BL PB pI hgc.2 AG).WC Vv);obtain ⟨AG3,AG8, -, -, -,AG4⟩:=HE.o Fs yz.o;have yW:AI (AZ NW gc 48 C2):=AF ((o9 _ iX.o.lt AG).trans iX.o);have AKU:AI (AZ NW w.heap.size 32 #[v0,v1,AA A n c,v3,v4,v5,v6]):=AF ((o9 _ AG AG).trans AG3);have AID:AI (AZ NW (w.heap.size+1) 34 SD):=AF ((o9 _ AG AG).trans AG8);have qJ:AI (AZ NW (w.heap.size+1+1+1+1+1) 44 SS):=AF ((o9 _ AG AG).trans AG4);have AEo:=AF ADf;have AKk:AI ((prog.info? 36).map (·.size)=some R1.size):=AF (by rw [hR1,rdA,UU,Bb];show (prog.info? 36).map (·.size)=some (6+RO.length);rw [N4.o];kernel_rfl);have AIV:AI (R1[2]? =some (AB AE r.schema)/\R1[5]? =some (AB AE r.places)):=AF (by rw [hR1,rdA];refine ⟨?_,?_⟩ <;> (rw [Ri Ac];rfl))
 obtain ⟨V,hV⟩:∃V,V=DC Aq 0 (Bt ns r.schema) (val r.schema) {r with root:=RO} s:=⟨_,rfl⟩;have Sh:AI (∀W,AJ NW W->AS prog 10 #[AO #[v0,v1,AA A n c,v3,v4,v5,v6],.agg R1,.agg SS] W fun e w'=>e=AV (AB AE V)/\AJ W w'):=AF (fun W hW=>by have h2:AJ w W:=AW ia.o hW;have h:=dp v0 v1 v3 v4 v5 v6 A n c ns 0 val {r with root:=RO} s FA UA XA fn fc un uc xn xc W (HS.o.mono FI h2) (HK.o.below h2) (PO.o.mono BU h2) (ut.o.mono BU h2) (du.o.mono CD h2) Ff.o HST.o HSL.o N4.o (Hk.o.below h2);rw [show DC Aq 0 (Bt ns ({r with root:=RO}:CS).schema) (val ({r with root:=RO}:CS).schema) {r with root:=RO} s=V from hV.symm] at h;rw [hR1,AE0.o];exact h)
 obtain ⟨qk,HVV⟩:=Aj (And.intro (loadRow AEo.o underlying36 rfl AKk.o) (loadRow qJ.o underlying44 rfl Q8.o)) hV;obtain ⟨d0,d1,d2,d3,d4,d5,d6⟩:=HT.o NW AKU.o;clear pI ADf MZ o9 hgc hz5 oq AG3 AG8 AG4 hR1 hV AEp OZ U8 AIf qR AIK iX yz;by_cases hV0:V=0
 rotate_left
 ·have hne1:(V==0)=false:=JK hV0
  have hne2:(V !=0)=true:=bne_iff_ne.2 hV0;clear hV0;go_wp2_with (first
   | (refine Bd AL 36 (AY 9) rfl _ AL qk.o.1 ?_)
   | (refine Bd AL 44 (AY 13) rfl _ AL qk.o.2 ?_)
   | (go_at_call 10;refine (Sh.o _ (Af _ _)).mono ?_;rintro e CU ⟨rfl,hb⟩;have V7:=AF (AW ia.o hb);clear hb)
   | fail)
  go_ret;exact ⟨rfl,V7.o⟩
 subst hV0;go_upto_region 15 with (first
  | (refine Bd AL 36 (AY 9) rfl _ AL qk.o.1 ?_)
  | (refine Bd AL 44 (AY 13) rfl _ AL qk.o.2 ?_)
  | (go_at_call 10;refine (Sh.o _ (Af _ _)).mono ?_;rintro e CU ⟨rfl,hb⟩;have V7:=AF hb;clear hb)
  | fail)
 have htq:AFj RO (r.places*((yn:Int)+4+1)) yn r.schema s:=AFx (r:={r with root:=RO}) Hm.o HVV.o.symm;rw [HNI.o,ju.o] at htq;have qS:=AF htq;have CY:AI (∀W,AJ CU W->AJ w W):=AF (fun W hW=>AW ia.o (AW V7.o hW));obtain ⟨AIN,AII⟩:=Aj (AIO.o.mono BU V7.o) (AIJ.o.mono BL V7.o);have HZ:AI (∀W,AJ CU W->W.cell? ⟨w.heap.size+1+1,2,none⟩=some (AB AE r.schema)/\W.cell? ⟨w.heap.size+1+1,5,none⟩=some (AB AE r.places)/\W.cell? ⟨gc,36,none⟩=some (AA YA yn yc)/\W.cell? ⟨gc,37,none⟩=some (AA YB 4 zc)/\W.cell? ⟨w.heap.size+1+1+1+1+1,3,none⟩=some (AB AE s.place)/\W.cell? ⟨w.heap.size+1+1+1+1+1,36,none⟩=some (AA FA fn fc)/\W.cell? ⟨w.heap.size+1+1+1+1+1,37,none⟩=some (AA UA un uc)/\W.cell? ⟨w.heap.size+1+1+1+1+1,38,none⟩=some (AB AE s.link)/\W.cell? ⟨w.heap.size+1+1+1+1+1,71,none⟩=some (AA XA xn xc)):=AF (fun W hW=>by have hb:=AW V7.o hW;have kr:=AEo.o.below hb AEo.o.lt;have kc:=yW.o.below hb yW.o.lt;have ks:=qJ.o.below hb qJ.o.lt;rw [HC2.o] at kc;rw [AE0.o] at ks;have b:=Nh kc fL;have d:=IQ ks Ff.o HST.o;exact ⟨(kr.cell 2).trans AIV.o.1,(kr.cell 5).trans AIV.o.2,b.values,b.links,d.place,d.fields,d.values,d.link,d.claims⟩)
 have HQL:AI (q0.holder.length=32):=AF fL;have Ib:AI (∀W,AJ CU W->(Instr.loadAt 34 (AU (some ⟨w.heap.size+1,0,none⟩))).run prog W=.ok (.agg SD) W/\(Instr.loadAt 34 (AU (some ⟨gc,4,none⟩))).run prog W=.ok (AO (yA q0.holder)) W/\(Instr.loadAt 34 (AU (some ⟨w.heap.size+1+1+1+1+1,4,none⟩))).run prog W=.ok (AO (yA s.holder)) W/\(Instr.loadAt 34 (AU (some ⟨w.heap.size+1+1+1+1+1,39,none⟩))).run prog W=.ok (AO (yA s.token)) W):=AF (fun W hW=>by have hb:=AW V7.o hW;have kd:=AID.o.below hb AID.o.lt;have kc:=yW.o.below hb yW.o.lt;have ks:=qJ.o.below hb qJ.o.lt;rw [HC2.o] at kc;rw [AE0.o] at ks;have b:=Nh kc fL;have d:=IQ ks Ff.o HST.o;exact ⟨loadRow kd underlying34 rfl qt.o,EY gc 4 HQL.o b.holder,EY _ 4 Ff.o (ACh ks),EY _ 39 HST.o d.token⟩)
 have Zl:AI (EZ r.schema):=AF (by obtain ⟨k,hk,hk2⟩:=jF Hm.o;have h1:=(BA.1 hk2).1;have h2:=HS.o.len;have h3:=HS.o.le;rw [hk];unfold EZ;omega)
 have YM:AI (∀(b c:Int) (h:AP),EZ b->EZ c->h.length=32->∃D,D=msgP Aq r.schema b c h/\(D.length=32/\∀x∈D,0<=x/\x < 256)/\∀W,AJ CU W->AS prog 11 #[AB AE r.schema,AB AE b,AB AE c,AO (yA h)] W (DW D W)):=AF (fun b c h h1 h2 h3=>⟨_,rfl,uP _ _ _ _,fun W hW=>Tq r.schema b c h W Zl.o h1 h2 h3 (Hk.o.below (CY.o W hW))⟩);have HLK:AI (∀(b:Int) (t h:AP),EZ b->t.length=32->h.length=32->∃D,D=Ko Aq r.schema b t h/\(D.length=32/\∀x∈D,0<=x/\x < 256)/\∀W,AJ CU W->AS prog 12 #[AB AE r.schema,AB AE b,AO (yA t),AO (yA h)] W (DW D W)):=AF (fun b t h h1 h2 h3=>⟨_,rfl,oR _ _ _ _,fun W hW=>link_any r.schema b t h W Zl.o h1 h2 h3 (Hk.o.below (CY.o W hW))⟩);have HEX:AI (∀(m:AP) (q:Cd) (A1 A2:Option Addr) (n1 c1 n2 c2:Nat) W,(m.length=32/\∀x∈m,0<=x/\x < 256)->C7 Aq RO M m q=true->Ag 32 CQ w (AA A1 n1 c1) q.chains->Ag 32 CQ w (AA A2 n2 c2) q.path->Eo CU M W->AS prog 13 #[.agg SD,AA (some ⟨CU.heap.size,0,none⟩) M M,AO (yA m),AO #[AB AE q.index,AA A1 n1 c1,AA A2 n2 c2]] W fun e w'=>e=AV (AX true)/\AJ W w'):=AF (fun m q A1 A2 n1 c1 n2 c2 W hm hv h1 h2 hW=>by obtain ⟨l,hl⟩:=hW.slR;have hb:=CY.o W hW.1;rw [AKh.o] at hv;rw [Lr.o];exact lE seed m M q A1 A2 _ n1 c1 n2 c2 M l W AE1.o hm.1 hm.2 HM.o hl (h1.mono BL hb) (h2.mono BL hb) hv (Hk.o.below hb))
 obtain ⟨i0,hi0,hz0,hz1,hz2⟩:=JF ABn;have hmb:i0.bytes*M<=281474976710656:=by rw [hz2];have:=HM.o;omega
 have hml:M<=maxLen:=by have:=HM.o;unfold maxLen;omega
 have hpn:IntKind.i64.wrap (place*(N:Int))=(p0:Int):=by rw [HPN.o];exact Bv _ fP
 obtain ⟨-,r5, -⟩:=HZ.o CU (Af _ _);obtain ⟨ALb,CV⟩:=Aj (CY.o CU (Af _ _)) Du;clear htq d0 d1 d2 d3 d4 d5 d6 oz hpl2 AJq AJp AJL AJK qk Sh HVV HE HT HX q8 y6 MD Ob yw yv PI YJ AIO AIJ HK HS Hk;go_upto_region 17 with (first
  | (
   at_make
   refine wpList_make_full _ rfl (AY 124) (AY 124) 37 rfl CU.heap.size 34 i0 _ 32 underlying37 hi0 hz0 hz1 .i64 .i64 (M:Int) (M:Int) M AL AL rfl rfl hmb hml (Ad _) ?_;intro w16 AHX AHj;have ALE:=AF (Eo.new AHX AHj);clear AHX AHj)
  | fail)
 clear hi0 hz0 hz1 hz2 hmb hml r5 hmul;have DE:prog.follows .mixedOrders=true:=AL
 go_loopg [22] yn (fun q' i wr=>∃j:Nat,j<=yn/\q'=yn - j/\i=AB AE j/\Eo CU M wr)
 case atStart=>exact ⟨0,Ar _,rfl,rfl,ALE.o⟩
 obtain ⟨j,hj,hq,rfl,hI⟩:=hrel;obtain ⟨HQ,HI⟩:=Aj hq hI;clear hq hI;obtain ⟨z1,z2,z3,z4,z5,z6,z7,z8,z9⟩:=HZ.o wr HI.o.1;by_cases hlt:j < yn
 ·obtain ⟨yb,yo,u,rfl,hyb,hu,eu,hu1,hu2⟩:=ints_at AIN.o hlt
  have hj1:(j:Int) < (yn:Int):=AG
  have hj0:(0:Int)<=(j:Int):=AG
  have hjb:(j:Int) < 300:=by have:=HM.o;have:=Zn.o;omega
  obtain ⟨D, -,PT,Qi⟩:=YM.o j u q0.holder (by unfold EZ;have:=HM.o;have:=Zn.o;omega) Oe HQL.o;obtain ⟨HDR,So⟩:=Aj PT Qi;obtain ⟨kk,hkk⟩:=Ab (p0+j:Nat);have JE:AI (kk < M):=AF eZ;have hsu:IntKind.i64.wrap ((p0:Int)+(j:Int))=(kk:Int):=by rw [Bv _ Wv];omega
  have hk0:(0:Int)<=(kk:Int):=AG
  have hk1:(kk:Int) < (M:Int):=by have:=JE.o;omega
  have Mp:AI (∀W,Eo CU M W->W.cell? ⟨w.heap.size+1+1,2,none⟩=some (AB AE r.schema)/\W.cell? ⟨gc,36,none⟩=some (AA (some ⟨yb,yo,none⟩) yn yc)/\W.cell? ⟨yb,yo+j,none⟩=some (AB AE u)):=AF (fun W hW=>by obtain ⟨z1, -,z3, -⟩:=HZ.o W hW.1;exact ⟨z1,z3,(hW.1.cell (p:=⟨yb,yo+j,none⟩) hyb).trans eu⟩)
  clear hyb hu eu hu1 hu2 PT Qi hkk;go_upto_region 19 with fail;clear z1 z2 z3 z4 z5 z6 z7 z8 z9;have TK:=Mp.o;have hS:Eo CU M wr.drew:=HI.o.below (Af wr.heap.size wr).drew;refine JA (fun W=>Eo CU M W) 19 _ DE AL rfl ?_;refine qV 0 133 21 (AA (some ⟨CU.heap.size,0,none⟩) M M) hS ?_;refine qV 1 134 3 (AB AE place) hS ?_;refine qV 2 135 17 (AB AE N) hS ?_;refine qT 3 136 hS ?_ (v:=AB AE p0);refine qV 4 137 22 (AB AE j) hS ?_;refine qT 5 138 hS ?_ (v:=AB AE kk);refine qT 6 139 hS ?_;refine qL 7 140 hS (fun W hW=>Nc (TK W hW).1) ?_;refine qV 8 141 22 (AB AE j) hS ?_;refine qT 9 142 hS ?_;refine qL 10 143 hS (fun W hW=>gR (TK W hW).2.1) ?_;refine qV 11 144 22 (AB AE j) hS ?_;refine qT 12 145 hS ?_ (v:=AU (some ⟨yb,yo+j,none⟩));refine qL 13 146 hS (fun W hW=>Nc (TK W hW).2.2) ?_;refine qT 14 147 hS ?_;refine qL 15 148 hS (fun W hW=>(Ib.o W hW.1).2.1) ?_;refine qF 16 149 (So.o _ hS.1) ?_;rintro e wm ⟨rfl,P6⟩;have hS2:=hS.below P6;refine ⟨_,rfl,hS2,?_⟩;refine qT 17 150 hS2 ?_ (v:=AU (some ⟨CU.heap.size,kk*32,none⟩));refine rgS 18 34 (AY 150) (AY 149) CU.heap.size (kk*32) (yA D) AL rfl rfl rfl rfl AL AL (n:=32) (by rw [Bb,HDR.o.1]) (hS2.room JE.o) CV.o (GH D) (hS2.put JE.o HDR.o) ?_;refine Cx AL ?_ _;simp only [Bp,B9];have hS3:=hS2.put JE.o HDR.o;generalize wm.setCells CU.heap.size (kk*32) (yA D).toList=wn at hS3 ⊢;have Gr:=AF hS3;clear hS hS2 hS3 TK P6;go_wp2;go_roundg (yn - (j+1))
  case measure=>exact Bc
  case rel=>exact ⟨j+1,by omega,rfl,by go_num,Gr.o⟩
 have hj1:¬(j:Int) < (yn:Int):=AG
 have ALD:=AF HI.o;clear HQ hlt;go_upto_region 21 with fail;clear z1 z2 z3 z4 z5 z6 z7 z8 z9 hj1 HI hj;obtain ⟨wl,rfl⟩:=Ab wr;go_loopg [23] 4 (fun q' i wr=>∃j:Nat,j<=4/\q'=4 - j/\i=AB AE j/\Eo CU M wr)
 case atStart=>exact ⟨0,Ar _,rfl,rfl,ALD.o⟩
 obtain ⟨j,hj,hq,rfl,hI⟩:=hrel;obtain ⟨HQ,HI⟩:=Aj hq hI;clear hq hI;obtain ⟨z1,z2,z3,z4,z5,z6,z7,z8,z9⟩:=HZ.o wr HI.o.1;by_cases hlt:j < 4
 ·obtain ⟨lb,lo,t,rfl,hlb,ht,htl, -,htr⟩:=GU AII.o hlt
  have hj1:(j:Int) < 4:=AG
  have hj0:(0:Int)<=(j:Int):=AG
  obtain ⟨D, -,PT,Qi⟩:=HLK.o j t q0.holder Oe htl HQL.o;obtain ⟨HDR,So,OY⟩:=Az PT Qi htl;obtain ⟨k1,ADp⟩:=Ab (p0+yn:Nat);obtain ⟨kk,hkk⟩:=Ab (k1+j:Nat);have JE:AI (kk < M):=AF eZ;have AHJ:IntKind.i64.wrap ((p0:Int)+(yn:Int))=(k1:Int):=by rw [Bv _ Wv];omega
  have hsu:IntKind.i64.wrap ((k1:Int)+(j:Int))=(kk:Int):=by rw [Bv _ Wv];omega
  have hk0:(0:Int)<=(kk:Int):=AG
  have hk1:(kk:Int) < (M:Int):=by have:=JE.o;omega
  have Mp:AI (∀W,Eo CU M W->W.cell? ⟨w.heap.size+1+1,2,none⟩=some (AB AE r.schema)/\W.cell? ⟨gc,36,none⟩=some (AA YA yn yc)/\W.cell? ⟨gc,37,none⟩=some (AA (some ⟨lb,lo,none⟩) 4 zc)):=AF (fun W hW=>by obtain ⟨z1, -,z3,z4, -⟩:=HZ.o W hW.1;exact ⟨z1,z3,z4⟩)
  have HTR:AI (∀W,AJ CU W->W.rangeAt lb (lo+j*32) (t.map (Value.int .u8))):=AF (fun W hW i v hv=>(hW.cell (p:=⟨lb,lo+j*32+i,none⟩) hlb).trans (htr i v hv));clear hlb ht htl htr PT Qi hkk ADp;go_upto_region 23 with fail;clear z1 z2 z3 z4 z5 z6 z7 z8 z9;have TK:=Mp.o;have hS:Eo CU M wr.drew:=HI.o.below (Af wr.heap.size wr).drew;refine JA (fun W=>Eo CU M W) 23 _ DE AL rfl ?_;refine qV 0 158 21 (AA (some ⟨CU.heap.size,0,none⟩) M M) hS ?_;refine qV 1 159 3 (AB AE place) hS ?_;refine qV 2 160 17 (AB AE N) hS ?_;refine qT 3 161 hS ?_ (v:=AB AE p0);refine qT 4 162 hS ?_;refine qL 5 163 hS (fun W hW=>gR (TK W hW).2.1) ?_;refine qT 6 164 hS ?_ (v:=AB AE yn);refine qT 7 165 hS ?_ (v:=AB AE k1);refine qV 8 166 23 (AB AE j) hS ?_;refine qT 9 167 hS ?_ (v:=AB AE kk);refine qT 10 168 hS ?_;refine qL 11 169 hS (fun W hW=>Nc (TK W hW).1) ?_;refine qV 12 170 23 (AB AE j) hS ?_;refine qT 13 171 hS ?_;refine qL 14 172 hS (fun W hW=>AG2 (TK W hW).2.2) ?_;refine qV 15 173 23 (AB AE j) hS ?_;refine qT 16 174 hS ?_ (v:=AU (some ⟨lb,lo+j*32,none⟩));refine qL 17 175 hS (fun W hW=>EY _ (lo+j*32) OY.o (HTR.o W hW.1)) ?_;refine qT 18 176 hS ?_;refine qL 19 177 hS (fun W hW=>(Ib.o W hW.1).2.1) ?_;refine qF 20 178 (So.o _ hS.1) ?_;rintro e wm ⟨rfl,P6⟩;have hS2:=hS.below P6;refine ⟨_,rfl,hS2,?_⟩;refine qT 21 179 hS2 ?_ (v:=AU (some ⟨CU.heap.size,kk*32,none⟩));refine rgS 22 34 (AY 179) (AY 178) CU.heap.size (kk*32) (yA D) AL rfl rfl rfl rfl AL AL (n:=32) (by rw [Bb,HDR.o.1]) (hS2.room JE.o) CV.o (GH D) (hS2.put JE.o HDR.o) ?_;refine Cx AL ?_ _;simp only [Bp,B9];have hS3:=hS2.put JE.o HDR.o;generalize wm.setCells CU.heap.size (kk*32) (yA D).toList=wn at hS3 ⊢;have Gr:=AF hS3;clear hS hS2 hS3 TK P6;go_wp2;go_roundg (4 - (j+1))
  case measure=>exact Bc
  case rel=>exact ⟨j+1,by omega,rfl,by go_num,Gr.o⟩
 have hj1:¬(j:Int) < 4:=AG
 have AFC:=AF HI.o;clear HQ hlt hj;obtain ⟨D, -,PT,Qi⟩:=YM.o (-1) 0 q0.holder Oe Oe HQL.o;obtain ⟨HDR,So⟩:=Aj PT Qi;obtain ⟨k1,ADp⟩:=Ab (p0+N:Nat);obtain ⟨kk,hkk⟩:∃k:Nat,k+1=k1:=⟨k1 - 1,by have:=Zn.o;omega⟩;have JE:AI (kk < M):=AF eZ;have AHJ:IntKind.i64.wrap ((p0:Int)+(N:Int))=(k1:Int):=by rw [Bv _ Wv];omega
 have hsu:IntKind.i64.wrap ((k1:Int) - 1)=(kk:Int):=by rw [Bv _ Wv];omega
 have hk0:(0:Int)<=(kk:Int):=AG
 have hk1:(kk:Int) < (M:Int):=by have:=JE.o;omega
 have bC:=AF (Ib.o wr HI.o.1).2.1;have uq:AI ((prog.info? 34).map (·.size)=some (yA D).size):=AF (by rw [Bb,PT.1];exact Du);clear PT Qi ADp HI;go_upto_region 25 with (first
  | (refine Bd AL 34 (AY 189) rfl _ AL bC.o ?_)
  | (go_at_call 11;refine (So.o _ AFC.o.1).mono ?_;rintro e wm ⟨rfl,hb⟩;have AFB:=AF (AFC.o.below hb);have OZ:AI (wm.there CU.heap.size (kk*32) (yA D).size):=AF (by rw [Bb,HDR.o.1];exact AFB.o.room JE.o);clear hb)
  | (refine N9 rfl 34 (AY 192) (AY 191) rfl CU.heap.size (kk*32) (yA D) rfl rfl OZ.o uq.o (GH D) ?_)
  | fail)
 have ADv:=AFB.o.put JE.o HDR.o;generalize wm.setCells CU.heap.size (kk*32) (yA D).toList=wg at ADv ⊢;have AFA:=AF ADv;clear z1 z2 z3 z4 z5 z6 z7 z8 z9 hj1 ADv hk0 hk1 hsu AHJ hkk bC uq OZ AFB AFC So HDR JE;obtain rfl:un=fn:=by have a:=qS.o.vals;have b:=PO.o.len;have d:=ut.o.len;omega
 have PU:AI (xn=un+(if s.link= -1 then 1 else 2)):=AF (by have a:=qS.o.many;have b:=PO.o.len;have d:=du.o.len;rw [b,d];exact a)
 have ji:AI (un < xn):=AF (by have h:=PU.o;split at h <;> omega)
 have hxn:¬(xn:Int)<=(un:Int):=by have:=ji.o;omega
 have AFI:=AF du.o.le;obtain ⟨xb,xo, -, -, -, -, -, -, -,rfl, -⟩:=jH (k:=0) du.o (by have:=ji.o;omega);have jy:AI (∀k,k < xn->∃q B m d C i j,s.claims[k]? =some q/\Ag 32 CQ w (AA B m d) q.chains/\Ag 32 CQ w (AA C i j) q.path/\∀W',Eo CU M W'->(Instr.loadAt 62 (AU (some ⟨xb,xo+k*3,none⟩))).run prog W'=.ok (AO #[AB AE q.index,AA B m d,AA C i j]) W'):=AF (fun k hk=>by obtain ⟨b,off,q,B,m,d,C,i,j,e,hq,h1,h2,h3⟩:=jH du.o hk;injection e with e;injection e with e1 e2;subst e1 e2;exact ⟨q,B,m,d,C,i,j,hq,h1,h2,fun W' hW=>h3 W' (CY.o W' hW.1)⟩)
 obtain ⟨z1,z2,z3,z4,z5,z6,z7,z8,z9⟩:=HZ.o wg AFA.o.1;go_upto_region 27 with fail;clear z1 z2 z3 z4 z5 z6 z7 z8 z9 hxn;obtain ⟨eb,heb⟩:∃b,decide (s.holder=q0.holder)=b:=⟨_,rfl⟩;have hdq:=fun W=>QN Ff.o HQL.o W;simp only [heb] at hdq;clear heb;have hgd:=Mg;have uv:AI (∀W,Eo CU M W->W.cell? ⟨w.heap.size+1+1,2,none⟩=some (AB AE r.schema)/\W.cell? ⟨gc,36,none⟩=some (AA YA yn yc)/\W.cell? ⟨gc,37,none⟩=some (AA YB 4 zc)/\W.cell? ⟨w.heap.size+1+1+1+1+1,3,none⟩=some (AB AE s.place)/\W.cell? ⟨w.heap.size+1+1+1+1+1,36,none⟩=some (AA FA un fc)/\W.cell? ⟨w.heap.size+1+1+1+1+1,37,none⟩=some (AA UA un uc)/\W.cell? ⟨w.heap.size+1+1+1+1+1,38,none⟩=some (AB AE s.link)/\W.cell? ⟨w.heap.size+1+1+1+1+1,71,none⟩=some (AA (some ⟨xb,xo,none⟩) xn xc)):=AF (fun W hW=>by obtain ⟨z1, -,z⟩:=HZ.o W hW.1;exact ⟨z1,z⟩)
 go_cut [238] from 209 to 238 (fun t wx=>t=AX false/\Eo CU M wx)
 case first=>
  obtain ⟨kx,hkx⟩:∃k:Nat,k+1=xn:=⟨xn - 1,by have:=ji.o;omega⟩;obtain ⟨q,B1,m1,d1,C1,m2,d2,WL,hq1,hq2,jN⟩:=jy.o kx AG;obtain ⟨D,hD,PT,Qi⟩:=YM.o (-1) 0 s.holder Oe Oe Ff.o;have Xn:C7 Aq RO M D q=true:=by
   have h:=qS.o.last q (by rw [<-du.o.len,<-hkx];exact WL);rw [hD]
   with_reducible exact h
  obtain ⟨PV,So,iT⟩:=Az (And.intro PT (And.intro Xn (And.intro hq1 hq2))) Qi jN;have hsx:IntKind.i64.wrap ((xn:Int) - 1)=(kx:Int):=by rw [Bv _ (by have:=AFI.o;omega)];omega
  have hk0:(0:Int)<=(kx:Int):=AG
  have hk1:(kx:Int) < (xn:Int):=AG
  have TK:=uv.o;have hS:Eo CU M wg.drew:=AFA.o.below (Af wg.heap.size wg).drew;clear WL hq1 hq2 jN hD PT Qi Xn hkx;by_cases hP:s.place=place
  ·cases eb
   ·refine JA (fun W=>Eo CU M W) 30 _ DE AL rfl ?_
    refine qT 0 209 hS ?_;refine qL 1 210 hS (fun W hW=>Nc (TK W hW).2.2.2.1) ?_;refine qV 2 211 3 (AB AE place) hS ?_;refine qT 3 212 hS ?_ (v:=AX false);refine qV 4 213 212 (AX false) hS ?_;refine qT 5 214 hS ?_;refine qL 6 215 hS (fun W hW=>(Ib.o W hW.1).2.2.1) ?_;refine qT 7 216 hS ?_;refine qL 8 217 hS (fun W hW=>(Ib.o W hW.1).2.1) ?_;refine qT 9 218 hS ?_ (v:=AX true);refine qT 10 219 hS ?_ (v:=AX true);refine qV 11 220 219 (AX true) hS ?_;refine qL 12 221 hS (fun W hW=>(Ib.o W hW.1).1) ?_;refine qV 13 222 21 (AA (some ⟨CU.heap.size,0,none⟩) M M) hS ?_;refine qT 14 223 hS ?_;refine qL 15 224 hS (fun W hW=>Nc (TK W hW).1) ?_;refine qT 16 225 hS ?_;refine qL 17 226 hS (fun W hW=>(Ib.o W hW.1).2.2.1) ?_;refine qT 19 228 hS ?_;refine qL 20 229 hS (fun W hW=>gQ (TK W hW).2.2.2.2.2.2.2) ?_;refine qT 21 230 hS ?_;refine qL 22 231 hS (fun W hW=>gQ (TK W hW).2.2.2.2.2.2.2) ?_;refine qT 23 232 hS ?_ (v:=AB AE xn);refine qT 24 233 hS ?_ (v:=AB AE kx);refine qT 25 234 hS ?_ (v:=AU (some ⟨xb,xo+kx*3,none⟩));refine qL 26 235 hS (fun W hW=>(iT.o W hW)) ?_;refine qF 18 227 (So.o _ hS.1) ?_;rintro e wm ⟨rfl,P6⟩;have hS2:=hS.below P6;refine ⟨_,rfl,hS2,?_⟩;refine qF 27 236 (HEX.o D q B1 C1 m1 d1 m2 d2 _ PV.o.1 PV.o.2.1 PV.o.2.2.1 PV.o.2.2.2 hS2) ?_;rintro e wo ⟨rfl,aT⟩;have hS4:=hS2.below aT;refine ⟨_,rfl,hS4,?_⟩;refine qT 28 237 hS4 ?_ (v:=AX false);refine qT 29 238 hS4 ?_ (v:=AX false);refine Cx AL ?_ _;simp only [Bp,B9];have Gr:=AF hS4;clear TK;go_wp2
    go_meet
    case rel=>exact R0
   refine JA (fun W=>Eo CU M W) 30 _ DE AL rfl ?_;refine qT 0 209 hS ?_;refine qL 1 210 hS (fun W hW=>Nc (TK W hW).2.2.2.1) ?_;refine qV 2 211 3 (AB AE place) hS ?_;refine qT 3 212 hS ?_ (v:=AX false);refine qV 4 213 212 (AX false) hS ?_;refine qT 5 214 hS ?_;refine qL 6 215 hS (fun W hW=>(Ib.o W hW.1).2.2.1) ?_;refine qT 7 216 hS ?_;refine qL 8 217 hS (fun W hW=>(Ib.o W hW.1).2.1) ?_;refine qT 9 218 hS ?_ (v:=AX false);refine qT 10 219 hS ?_ (v:=AX false);refine qV 11 220 219 (AX false) hS ?_;refine qN 12 221 hS ?_;refine qN 13 222 hS ?_;refine qN 14 223 hS ?_;refine qN 15 224 hS ?_;refine qN 16 225 hS ?_;refine qN 17 226 hS ?_;refine qN 18 227 hS ?_;refine qN 19 228 hS ?_;refine qN 20 229 hS ?_;refine qN 21 230 hS ?_;refine qN 22 231 hS ?_;refine qN 23 232 hS ?_;refine qN 24 233 hS ?_;refine qN 25 234 hS ?_;refine qN 26 235 hS ?_;refine qN 27 236 hS ?_;refine qN 28 237 hS ?_;refine qT 29 238 hS ?_ (v:=AX false);refine Cx AL ?_ _;simp only [Bp,B9];have Gr:=AF hS;clear TK;go_wp2
   go_meet
   case rel=>exact R0
  refine JA (fun W=>Eo CU M W) 30 _ DE AL rfl ?_;refine qT 0 209 hS ?_;refine qL 1 210 hS (fun W hW=>Nc (TK W hW).2.2.2.1) ?_;refine qV 2 211 3 (AB AE place) hS ?_;refine qT 3 212 hS ?_ (v:=AX true);refine qV 4 213 212 (AX true) hS ?_;refine qN 5 214 hS ?_;refine qN 6 215 hS ?_;refine qN 7 216 hS ?_;refine qN 8 217 hS ?_;refine qN 9 218 hS ?_;refine qT 10 219 hS ?_ (v:=AX true);refine qV 11 220 219 (AX true) hS ?_;refine qL 12 221 hS (fun W hW=>(Ib.o W hW.1).1) ?_;refine qV 13 222 21 (AA (some ⟨CU.heap.size,0,none⟩) M M) hS ?_;refine qT 14 223 hS ?_;refine qL 15 224 hS (fun W hW=>Nc (TK W hW).1) ?_;refine qT 16 225 hS ?_;refine qL 17 226 hS (fun W hW=>(Ib.o W hW.1).2.2.1) ?_;refine qT 19 228 hS ?_;refine qL 20 229 hS (fun W hW=>gQ (TK W hW).2.2.2.2.2.2.2) ?_;refine qT 21 230 hS ?_;refine qL 22 231 hS (fun W hW=>gQ (TK W hW).2.2.2.2.2.2.2) ?_;refine qT 23 232 hS ?_ (v:=AB AE xn);refine qT 24 233 hS ?_ (v:=AB AE kx);refine qT 25 234 hS ?_ (v:=AU (some ⟨xb,xo+kx*3,none⟩));refine qL 26 235 hS (fun W hW=>(iT.o W hW)) ?_;refine qF 18 227 (So.o _ hS.1) ?_;rintro e wm ⟨rfl,P6⟩;have hS2:=hS.below P6;refine ⟨_,rfl,hS2,?_⟩;refine qF 27 236 (HEX.o D q B1 C1 m1 d1 m2 d2 _ PV.o.1 PV.o.2.1 PV.o.2.2.1 PV.o.2.2.2 hS2) ?_;rintro e wo ⟨rfl,aT⟩;have hS4:=hS2.below aT;refine ⟨_,rfl,hS4,?_⟩;refine qT 28 237 hS4 ?_ (v:=AX false);refine qT 29 238 hS4 ?_ (v:=AX false);refine Cx AL ?_ _;simp only [Bp,B9];have Gr:=AF hS4;clear TK;go_wp2
  go_meet
  case rel=>exact R0
 obtain ⟨rfl,hg⟩:=hcut;have ALC:=AF hg;clear hg AFA;go_upto_region 30 with fail
 rename_i x1 x2 x3 x4 x5 x6 x7 x8 x9 x10 x11 x12 x13 x14 x15 x16 x17 x18
 revert v0 v1 v3 v4 v5 v6 A n c ns seed r place pe it xs xp xi holder links vs s VA LA FA UA vn vc ln lc fc un uc xn xc w RR OO SD SS CB w5 w6 w7 w8 q0 YA yn yc YB zc YC un' uc' C2 gc N M p0 RO gd R1 NW CU w16 x1 x2 u126 u127 u128 u129 u130 u131 u132 u133 u134 u135 u136 u137 u138 u139 u140 u141 u142 u143 u144 u145 u146 u147 u148 u149 u150 x3 x4 x7 x8 x10 wl gk u151 u152 u153 u154 u155 u156 u157 u158 u159 u160 u161 u162 u163 u164 u165 u166 u167 u168 u169 u170 u171 u172 u173 u174 u175 u176 u177 u178 u179 x11 x12 j D k1 kk x15 xb xo eb wc u209 u210 u211 u212 u213 u214 u215 u216 u217 u218 u219 u220 u221 u222 u223 u224 u225 u226 u227 u228 u229 u230 u231 u232 u233 u234 u235 u236 u237 x17 CV DE hgd;exact hR.o⟩
end Go.Proofs.YtpmpddfgifhlbaaGreatDoor
