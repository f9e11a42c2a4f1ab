import Derived.Test.YtpmpddfgifhlbaaGreatDoorMCpDg
import Derived.Test.YtpmpddfgifhlbaaGreatDoorM18
namespace Go.Proofs.YtpmpddfgifhlbaaGreatDoor
set_option maxHeartbeats 8000000
set_option maxRecDepth 100000
open Go renaming World→AH, Value→AK, Calls→AS
open Go.Proofs.Tryz
open Go.Value renaming slice→AA, int→AB, pointer→AU, bool→AX, agg→AO
open Go.IntKind renaming i64→AE
open Go.Ending renaming returned→AV
open Go.Obj renaming cells→AQ
open Go.Operand renaming tmp→AY
open Go.RowKit Go.Shelf
attribute [local go_sem] Oper.semAt_some
def gy (w:AH) (cs:List AK) (d:AP):Prop:=CQ w cs d/\∀x∈d,0<=x/\x < 256
theorem AB5:Ea gy:=fun _ _ _ _ _ h=>h
theorem iE {w:AH} {v:AK} {l:AP} (h:Ag 1 CF w v l):Ag 1 iR w v l:=by obtain ⟨A,c,e,a,b,k⟩:=h;refine ⟨A,c,e,a,b,fun i x hi=> ?_⟩;obtain ⟨b,o,cs,e1,e2,e3,e4,e5⟩:=k i x hi;exact ⟨b,o,cs,e1,e2,e3,e4,e5.1⟩
theorem AF7 (W:AH):AS prog 61 #[AA (some ⟨W.heap.size,0,none⟩) 1 1,AB AE 19] (W.alloc (AQ #[AB AE 3] 3)) fun e w'=>∃A l,e=AV (AA A 19 19)/\Ag 1 CF w' (AA A 19 19) l/\Below (W.alloc (AQ #[AB AE 3] 3)).heap.size (W.alloc (AQ #[AB AE 3] 3)) w':=
 nx W.heap.size 0 1 _ ((AZ.new W 3 #[AB AE 3]).cell 0) (AZ.new W 3 #[AB AE 3]).lt
theorem xg (seed m:AP) (many:Nat) (q:Cd) (A1 A2 SA:Option Addr) (c1 n2 c2 sc:Nat) (l:List (AP)) (w:AH) (hs:seed.length=32) (hm:m.length=32) (hr:∀x∈m,0<=x/\x < 256) (O2:1<=many/\many<=256) (hl:Ag 32 gy w (AA SA many sc) l) (hs1:Ag 32 CQ w (AA A1 19 c1) q.chains) (hs2:Ag 32 CQ w (AA A2 n2 c2) q.path)
 (hv:C7 Aq (LY Aq seed many) many m q=true) (hne:l[q.index.toNat]? ≠some m) (hT:Cc w):
 AS prog 37 #[AO (yA seed),AB AE many,AA SA many sc,AO (yA m),AO #[AB AE q.index,AA A1 19 c1,AA A2 n2 c2]] w fun e w'=>∃a b:Int,e=AV (.tuple #[AB AE a,AB AE b])/\a≠0/\AJ w w':=by
 obtain ⟨SD,hSD⟩:=Ab (yA seed);obtain ⟨MM,Xu⟩:=Ab (yA m);obtain ⟨RO,WO⟩:=Ab (LY Aq seed many);rw [<-WO] at hv;have N4:AI (RO.length=32):=AF fQ;have eE:AI (∀W,AJ w W->AS prog 9 #[.agg SD,AB AE many] W (V3 RO 0 W)):=AF (fun W hW=>by have h:=Z9 seed many W hs AG AG (hT.below hW);rw [CZ,<-WO,<-hSD] at h;exact h)
 have Sh:AI (∀W,AJ w W->AS prog 57 #[AO (yA RO),AB AE many,.agg MM,AO #[AB AE q.index,AA A1 19 c1,AA A2 n2 c2]] W fun e w'=>e=AV (AB AE 0)/\AJ W w'):=AF (fun W hW=>by have h:=Uv RO m many q (AA A1 19 c1) (AA A2 n2 c2) W N4.o hm hr (hT.below hW) (hs1.mono BL hW) (hs2.mono BL hW);rw [Am hv,<-Xu] at h;exact h)
 have hidx:0<=q.index/\q.index < many:=by simp only [C7,BZ,Bw] at hv;exact ⟨hv.1.1.1.2,hv.1.1.2⟩
 obtain ⟨k,hk⟩:∃k:Nat,q.index=k:=⟨q.index.toNat,by omega⟩;obtain ⟨sb,so,d,dcs,rfl,hsb,hd,hdl,hdc,⟨rfl,hd32⟩,hdr⟩:=hl.at_ (k:=k) AG;rw [hk] at hne ⊢;have hdm:d≠m:=fun e=>hne (by rw [CZ,hd,e]);have Q8:AI ((prog.info? 34).map (·.size)=some SD.size):=AF (by rw [hSD,Bb,hs];exact Du);have YM:AI ((prog.info? 34).map (·.size)=some MM.size):=AF (by rw [Xu,Bb,hm];exact Du);rw [<-hSD,<-Xu];obtain ⟨w1,hw1,oV,oU,dL,hb1,hz1⟩:=XG w SD MM #[AB AE k,AA A1 19 c1,AA A2 n2 c2] 34 34 62;have HB1:=AF hb1;have HE:AI (∀W,AJ w1 W->AZ W w.heap.size 34 SD/\AZ W (w.heap.size+1) 34 MM/\AZ W (w.heap.size+1+1) 62 #[AB AE k,AA A1 19 c1,AA A2 n2 c2]):=AF (fun W hW=>⟨oV.below hW oV.lt,oU.below hW oU.lt,dL.below hW dL.lt⟩);have PK:AI (∀W,AJ w1 W->(Instr.loadAt 34 (AU (some ⟨w.heap.size,0,none⟩))).run prog W=.ok (.agg SD) W/\(Instr.loadAt 34 (AU (some ⟨w.heap.size+1,0,none⟩))).run prog W=.ok (.agg MM) W/\(Instr.loadAt 62 (AU (some ⟨w.heap.size+1+1,0,none⟩))).run prog W=.ok (AO #[AB AE k,AA A1 19 c1,AA A2 n2 c2]) W):=AF (fun W hW=>by obtain ⟨a,b,c⟩:=HE.o W hW;exact ⟨loadRow a underlying34 rfl Q8.o,loadRow b underlying34 rfl YM.o,loadRow c underlying62 rfl AL⟩)
 rw [hk] at Sh;obtain ⟨HS,HM,HMR,AJT,Ki,HT,Lr,jt⟩:=Wy hs hm hr O2 hs1 hT hSD Xu;have vE:AI (k < many):=AF AG;obtain ⟨So,NH,Qx,HDR,HDM,HZ,CV⟩:=LW hdc hsb hd32 hdr hdm oe Du;clear hs hm hr O2 hs1 hs2 hT hSD Xu WO hv hidx hk hdc hsb hd32 hdr hdm hd hdl hne hl oV oU dL hb1 hz1;go_enter func37,ntmps37;go_upto_region 1 with fail;rw [<-hw1];clear hw1;have Q9:=AF (PK.o w1 (Af _ _));go_upto_region 2 with (first
  | (refine Bd AL 34 (AY 5) rfl _ AL Q9.o.1 ?_)
  | (go_at_call 9;(with_reducible refine (eE.o _ HB1.o).mono ?_);rintro e w2 ⟨rfl,hb⟩;have HB2:=AF hb;clear hb)
  | (refine Fy 34 12 25 32 (yA RO) fF (GH RO) rfl ?_)
  | fail)
 obtain ⟨k3,b3,s3⟩:=bx w2 (yA RO) 34;generalize (w2.alloc (AQ (yA RO) 34))=w3 at k3 b3 s3 ⊢;obtain ⟨gr,hgr⟩:=Ab w2.heap.size;rw [<-hgr] at k3 s3 ⊢;have hb3:AJ w1 w3:=AW HB2.o b3;obtain ⟨HB3,jz,HR3,HW3⟩:=CJ hb3 (PK.o w3 hb3) (loadRow k3 underlying34 rfl bd) (AW HB1.o hb3);clear k3 b3 s3 hgr hb3;go_upto_region 4 with (first
  | (refine Bd AL 34 (AY 12) rfl _ AL HR3.o ?_)
  | (refine Bd AL 34 (AY 8) rfl _ AL jz.o.2.1 ?_)
  | (refine Bd AL 62 (AY 9) rfl _ AL jz.o.2.2 ?_)
  | (go_at_call 57;(with_reducible refine (Sh.o _ HW3.o).mono ?_);rintro e w4 ⟨rfl,hb⟩;have HB4:=AF (AW HB3.o hb);clear hb)
  | fail)
 go_upto_region 5 with (first
  | (refine Di rfl 34 rfl _ HZ.o ?_)
  | fail)
 obtain ⟨k5,b5,s5⟩:=bx w4 (yA (zeros 32)) 34;generalize (w4.alloc (AQ (yA (zeros 32)) 34))=w5 at k5 b5 s5 ⊢;obtain ⟨k6,b6,s6⟩:=bx w5 (yA (zeros 32)) 34;generalize (w5.alloc (AQ (yA (zeros 32)) 34))=w6 at k6 b6 s6 ⊢;obtain ⟨gm,hgm⟩:=Ab w4.heap.size;obtain ⟨gz,hgz⟩:=Ab w5.heap.size;rw [<-hgm] at k5 s5;rw [<-hgz] at k6 s6;rw [<-hgm,<-hgz];have k56:=k5.below b6 k5.lt;have hb6:AJ w1 w6:=AW HB4.o (AW b5 b6);have FK:=AF hb6;have HGM:AI (w1.heap.size<=gm/\gm < gz):=AF ⟨by rw [hgm];exact HB4.o.size,by omega⟩;obtain ⟨JE,vD⟩:=Aj k56 k6;have l0:w6.cell? ⟨w.heap.size+1+1,0,none⟩=some (AB AE k):=(HE.o w6 hb6).2.2.cell 0;have hkn:(k:Int) < (many:Int):=by have:=vE.o;omega
 have hk0:=Int.natCast_nonneg k
 have Oa:AI (w6.rangeAt sb (so+k*32) (d.map (Value.int .u8))):=AF (fun j' v hv=>((AW HB1.o hb6).cell (p:=⟨sb,so+k*32+j',none⟩) NH.o).trans (by have:=So.o j' v hv;rwa [<-L0] at this));have OZ:AI (w6.there gm 0 (yA d).size):=AF (MV k56 (by rw [Bb,Bb,Qx.o];decide));have uq:AI ((prog.info? 34).map (·.size)=some (yA d).size):=AF sS;clear k5 b5 s5 k6 b6 s6 hgm hgz k56 hb6;go_upto_region 7 with (first
  | (refine Iu rfl 34 (AY 45) rfl sb (so+k*32) rfl d _ Oa.o underlying34 rfl CV.o Qx.o ?_)
  | (refine N9 rfl 34 (AY 14) (AY 46) rfl gm 0 (yA d) rfl rfl OZ.o uq.o (GH d) ?_)
  | fail)
 have DZ:w6.grownBy (w6.setCells gm 0 (yA d).toList) (some gm):=JT _ _ _ (DN _ _);have km7:AZ (w6.setCells gm 0 (yA d).toList) gm 34 (yA d):=by have h:=PF (yA d).toList 0 w6 (yA (zeros 32)).toList JE.o (by simp [yA,zeros,Qx.o]);rw [Ee,Ic,EV (by simp [yA,zeros,Qx.o]),EU] at h;exact h
 generalize w6.setCells gm 0 (yA d).toList=w7 at DZ km7 ⊢;have kz7:AZ w7 gz 34 (yA (zeros 32)):=(DZ.block _ vD.o.lt (fun e=>absurd (FO e) (by have:=HGM.o;omega))).trans vD.o;have hb7:AJ w1 w7:=FK.o.trans ⟨DZ.os,DZ.tape,DZ.output,DZ.size,fun i hi=>DZ.block i (Ay hi FK.o.size) (fun e=>absurd (FO e) (by have:=HGM.o;omega))⟩;have ET:=AF hb7;have HM7:AI (∀W,AJ w7 W->((Instr.loadAt 34 (AU (some ⟨gm,0,none⟩))).run prog W=.ok (AO (yA d)) W/\(Instr.loadAt 34 (AU (some ⟨gz,0,none⟩))).run prog W=.ok (AO (yA (zeros 32))) W)):=AF (fun W hW=>⟨loadRow (km7.below hW km7.lt) underlying34 rfl sS,loadRow (kz7.below hW kz7.lt) underlying34 rfl (by rw [Bb];exact Du)⟩);obtain ⟨HL7,iW,ur⟩:=Az (PK.o w7 hb7) (HM7.o w7 (Af _ _)) (AW HB1.o hb7);have ADy:=fun W=>QN Qx.o (show (zeros 32).length=32 from rfl) W;have AHn:=fun W=>QN Qx.o HM.o W;rw [<-jt.o] at AHn;have hgd:=Mg;have hdm:¬d=m:=HDM.o;clear DZ km7 kz7 hb7 l0 Oa OZ JE vD;simp only [Act.put,Ju,Bp,B9];go_cut [54] from 47 to 54 (fun t wx=>t=AX false/\wx=w7)
 case first=>
  have hb2:decide (d=m)=false:=BO hdm;clear hdm;obtain ⟨bz,hbz⟩:∃b,decide (d=zeros 32)=b:=⟨_,rfl⟩;cases bz
  ·go_wp2_with (first
    | (refine GI rfl 34 (AY 14) rfl _ _ AL iW.o.1 ?_)
    | (refine GI rfl 34 (AY 15) rfl _ _ AL iW.o.2 ?_)
    | (refine Bd AL 34 (AY 14) rfl _ AL iW.o.1 ?_)
    | (refine Bd AL 34 (AY 8) rfl _ AL HL7.o.2.1 ?_)
    | fail)
   go_meet
   case rel=>exact Rx
  go_wp2_with (first
   | (refine GI rfl 34 (AY 14) rfl _ _ AL iW.o.1 ?_)
   | (refine GI rfl 34 (AY 15) rfl _ _ AL iW.o.2 ?_)
   | fail)
  go_meet
  case rel=>exact Rx
 obtain ⟨rfl,rfl⟩:=hcut;clear hdm ADy AHn hgd;have HDG:AI (∀(x:AP) (X:Array AK) W,x.length=32->(∀y∈x,0<=y/\y < 256)->X=yA x->AS prog 60 #[.agg X] W fun e w'=>∃A c,e=AV (AA A 19 c)/\Ag 1 CF w' (AA A 19 c) (Dk x)/\AJ W w'):=AF (fun x X W h1 h2 e=>by rw [e];refine (xu x W h1 h2).mono ?_;rintro e w' ⟨v,cs,rfl,hc,ho,hb⟩;obtain ⟨A,c,rfl⟩:=Bz ho;exact ⟨A,c,rfl,CP ho hc (LX x).symm,hb⟩)
 have VF:=AF (PK.o wc ET.o);go_upto_region 11 with (first
  | (refine Bd AL 34 (AY 8) rfl _ AL VF.o.2.1 ?_)
  | (go_at_call 60;refine (HDG.o m MM _ HM.o HMR.o jt.o).mono ?_;rintro e w8 ⟨DA,dc,rfl,hsd,hb⟩;have Je:=AF hb;have AKg:=AF hsd;clear hsd hb)
  | (go_at_call 61;refine (AF7 _).mono ?_;rintro e w9 ⟨RA,rl,rfl,hsr,hb⟩;have LL:AI (AJ w8 w9):=AF ((BP _ _).trans (hb.mono (Nat.le_of_lt (AZ.new w8 3 #[AB AE 3]).lt)));have AIS:=AF hsr;clear hsr hb)
  | fail)
 have AFJ:AI (AJ wc w9):=AF (AW Je.o LL.o);obtain ⟨u9,AFD⟩:=Aj (HM7.o w9 AFJ.o) (AKg.o.mono BU LL.o);obtain ⟨bz,hbz⟩:∃b,decide (d=zeros 32)=b:=⟨_,rfl⟩;have ADy:=fun W=>QN Qx.o (show (zeros 32).length=32 from rfl) W;have hgd:=Mg
 go_upto_if 63 with (first
  | (refine GI rfl 34 (AY 14) rfl _ _ AL u9.o.1 ?_)
  | (refine GI rfl 34 (AY 15) rfl _ _ AL u9.o.2 ?_)
  | fail)
 clear ADy hgd;have HEQ:AI (∀W (B:Option Addr) (e:Nat) (l':AP),Ag 1 CF W (AA DA 19 dc) (Dk m)->Ag 1 CF W (AA B 19 e) l'->AS prog 62 #[AA DA 19 dc,AA B 19 e] W fun x w'=>∃b,x=AV (AX b)/\AJ W w'):=AF (fun W B e l' h1 h2=>(Sd DA B 19 dc 19 e _ _ W (iE h1) (iE h2)).mono fun x w' h=>⟨_,h.1,h.2⟩);go_cut [17] from 64 to 68 (fun v wx=>∃KA kc kl,v=AA KA 19 kc/\Ag 1 CF wx (AA KA 19 kc) kl/\AJ w9 wx)
 case first=>
  cases bz
  ·go_wp2_with (first
    | (refine GI rfl 34 (AY 14) rfl _ _ AL u9.o.1 ?_)
    | (go_at_call 60;refine (HDG.o d _ _ Qx.o HDR.o rfl).mono ?_;rintro e w10 ⟨KA,kc,rfl,hsk,hb⟩;have MD:=AF hb;have Qo:=AF hsk;clear hsk hb)
    | (go_at_call 62;refine (HEQ.o _ _ _ _ (AFD.o.mono BU MD.o) Qo.o).mono ?_;rintro e MF ⟨b,rfl,hb⟩;have bE:=AF hb;clear hb;cases b)
    | fail)
   ·go_meet
    case rel=>exact ⟨_,_,_,rfl,Qo.o.mono BU bE.o,AW MD.o bE.o⟩
   go_ret2;exact ⟨1,0,rfl,by decide,AW ur.o (AW AFJ.o (AW MD.o bE.o))⟩
  go_wp2
  go_meet
  case rel=>exact ⟨_,_,_,rfl,AIS.o,Af _ _⟩
 obtain ⟨KA,kc,kl,rfl,hsk,hbk⟩:=hcut;obtain ⟨Qo,ALT,qt⟩:=Az hsk (AW ET.o (AW AFJ.o hbk)) (AFD.o.mono BU hbk);clear hsk hbk hbz HEQ HDG AFD AIS u9 VF HM7 iW Sh eE;obtain ⟨D,hD⟩:=Ab (J7 Aq seed k);have WR:D.length=32:=by rw [hD,J7];exact C3 _ _
 obtain ⟨ss,hss⟩:=Ab (J0 Aq D m);have HSL:AI (ss.length=19):=AF (by rw [hss];exact Zh Aq _ _);have HC:AI (∀W,AJ w1 W->AS prog 64 #[.agg SD,AB AE k] W (DW D W)):=AF (fun W hW=>by rw [hD,Lr.o];exact Z6 seed k W HS.o (by have:=vE.o;have:=AJT.o;omega) (HT.o.below (AW HB1.o hW)));have HG:AI (∀W,AJ w1 W->AS prog 63 #[AO (yA D),.agg MM] W (Qw ss W)):=AF (fun W hW=>by rw [hss,jt.o];exact nS D m W WR HM.o HMR.o (HT.o.below (AW HB1.o hW)));clear hD WR hss;have Qr:AI (∀W,AJ w1 W->W.cell? ⟨w.heap.size+1+1,0,none⟩=some (AB AE k)):=AF (fun W hW=>(HE.o W hW).2.2.cell 0);go_upto_region 15 with fail;have TK:=Qr.o;have DE:prog.follows .mixedOrders=true:=AL
 have hS:=ALT.o.drew;refine JA (fun W=>AJ w1 W) 7 _ DE AL rfl ?_;refine qT 0 69 hS ?_ (v:=.agg SD) (hv:=fun W hW=>Ch rfl AL (PK.o W hW).1);refine qT 1 70 hS ?_;refine qT 2 71 hS ?_;refine qT 4 73 hS ?_ (v:=.agg MM) (hv:=fun W hW=>Ch rfl AL (PK.o W hW).2.1);refine qF 3 72 (HC.o _ hS) ?_;rintro e w2' ⟨rfl,hb2⟩;have hS2:=AW hS hb2;refine ⟨_,rfl,hS2,?_⟩;refine qF 5 74 (HG.o _ hS2) ?_;rintro e w3' ⟨v3,X0,rfl,ho3,hc3,hb3⟩;have hS3:=AW hS2 hb3;refine ⟨_,rfl,hS3,?_⟩;obtain ⟨sA,sc3,rfl⟩:=Bz ho3;refine qM 6 18 74 hS3 ?_;refine Cx AL ?_ _;simp only [Bp,B9];have hso:=CP ho3 hc3 rfl;rw [HSL.o] at hso ⊢;have AD3:AJ wc w3':=(Af _ _).drew.trans ((AW hb2 hb3).mono (Af wc.heap.size wc).drew.size);obtain ⟨jk,Gr,AKf,ALI⟩:=CJ hso hS3 (Qo.o.mono BU AD3) (qt.o.mono BU AD3);clear TK hS hS2 hS3 hb2 ho3 hc3 hb3 hso AD3 Qo qt HC HG;go_upto_region 17 with fail;go_loopg [77] 19 (fun q' i wr=>∃j:Nat,j<=19/\q'=19 - j/\i=AB AE j/\AJ w3' wr)
 case atStart=>exact ⟨0,Ar _,rfl,rfl,Af _ _⟩
 obtain ⟨j,hj,hq,rfl,hI⟩:=hrel;obtain ⟨HQ,HI,AIT⟩:=Az hq hI (AW Gr.o hI);clear hq hI;by_cases hlt:j < 19
 ·obtain ⟨ob,oo,x,rfl,hob,hx,hxl,_,hxr⟩:=GU (jk.o.mono BL HI.o) hlt
  have hj1:(j:Int) < 19:=AG
  have hj0:(0:Int)<=(j:Int):=AG
  obtain ⟨HXR,Fx⟩:=Aj hxr hxl;have HXZ:AI ((prog.info? 34).map (·.size)=some (yA x).size):=AF (by rw [Bb,hxl];exact Du);clear hob hx hxl hxr;go_upto_region 19 with (first
   | (refine Iu rfl 34 (AY 80) rfl ob (oo+j*32) rfl x _ HXR.o underlying34 rfl CV.o Fx.o ?_)
   | (
    refine Di rfl 34 rfl _ HZ.o ?_;obtain ⟨k5,b5,s5⟩:=bx wr (yA (zeros 32)) 34;generalize (wr.alloc (AQ (yA (zeros 32)) 34))=wa at k5 b5 s5 ⊢;obtain ⟨Tb,CW⟩:=Aj k5 b5;have HTX:AI (wa.there wr.heap.size 0 (yA x).size):=AF (MV k5 (by rw [Bb,Bb,Fx.o];decide));clear k5 b5 s5)
   | (refine N9 rfl 34 (AY 20) (AY 81) rfl wr.heap.size 0 (yA x) rfl rfl HTX.o HXZ.o (GH x) ?_)
   | fail)
  have hb:=below_setCells (yA x).toList 0 wr wa CW.o (Ad _);have kx:AZ (wa.setCells wr.heap.size 0 (yA x).toList) wr.heap.size 34 (yA x):=by have h:=PF (yA x).toList 0 wa (yA (zeros 32)).toList Tb.o (by simp [yA,zeros,Fx.o]);rw [Ee,Ic,EV (by simp [yA,zeros,Fx.o]),EU] at h;exact h
  generalize wa.setCells wr.heap.size 0 (yA x).toList=wb at hb kx ⊢;have hIb:=AW HI.o hb;have hSb:=AW AIT.o hb;obtain ⟨ub,uo,u,rfl,hub, -,cu, -, -⟩:=ints_at (ALI.o.mono BU hIb) hlt;obtain ⟨vb,vo,v,rfl,hvb, -,cv, -, -⟩:=ints_at (AKf.o.mono BU hIb) hlt;obtain ⟨cb,co,y,rfl,hcb, -,hyl, -,uV⟩:=GU (Ki.o.mono BL (AW HB1.o hSb)) hlt;have HYR:AI (∀W,AJ wb W->W.rangeAt cb (co+j*32) (y.map (Value.int .u8))):=AF (fun W hW i v hv=>(hW.cell (p:=⟨cb,co+j*32+i,none⟩) hcb).trans (uV i v hv));have Wc:AI (∀W,AJ wb W->AZ W wr.heap.size 34 (yA x)):=AF (fun W hW=>kx.below hW kx.lt);have Mp:AI (∀W,AJ wb W->W.cell? ⟨ub,uo+j,none⟩=some (AB AE u)/\W.cell? ⟨vb,vo+j,none⟩=some (AB AE v)/\W.cell? ⟨w.heap.size+1+1,1,none⟩=some (AA (some ⟨cb,co,none⟩) 19 c1)):=AF (fun W hW=>⟨(hW.cell (p:=⟨ub,uo+j,none⟩) hub).trans cu,(hW.cell (p:=⟨vb,vo+j,none⟩) hvb).trans cv,(HE.o W (AW hSb hW)).2.2.cell 1⟩);obtain ⟨Zk,Wf,AE2⟩:=Az hyl hIb (AW HB1.o hSb);clear hb kx hIb hSb hub cu hvb cv hcb hyl uV HTX HXR HXZ CW Tb;obtain ⟨e,he⟩:∃e,decide (y=x)=e:=⟨_,rfl⟩;have hde:=fun W=>QN Zk.o Fx.o W;simp only [he] at hde;clear he;have hgd:=Mg;have TK:=Mp.o;have DE:prog.follows .mixedOrders=true:=AL
  have hS:=(Af wb.heap.size wb).drew;simp only [Act.put];by_cases huv:u < v
  ·have hd:decide (u < v)=true:=Bg huv
   clear huv;refine JA (fun W=>AJ wb W) 18 _ DE AL rfl ?_;refine qM 0 82 16 hS ?_;refine qM 1 83 19 hS ?_;refine qT 2 84 hS ?_ (v:=AU (some ⟨ub,uo+j,none⟩));refine qT 3 85 hS ?_ (v:=AB AE u);refine qM 4 86 17 hS ?_;refine qM 5 87 19 hS ?_;refine qT 6 88 hS ?_ (v:=AU (some ⟨vb,vo+j,none⟩));refine qT 7 89 hS ?_ (v:=AB AE v);refine qT 8 90 hS ?_ (v:=AX true);refine qM 9 91 90 hS ?_;refine qT 10 92 hS ?_ (v:=AU (some ⟨w.heap.size+1+1,1,none⟩));refine qT 11 93 hS ?_ (v:=AA (some ⟨cb,co,none⟩) 19 c1);refine qM 12 94 19 hS ?_;refine qT 13 95 hS ?_ (v:=AU (some ⟨cb,co+j*32,none⟩));refine qT 14 96 hS ?_ (v:=AO (yA y)) (hv:=fun W hW=>Ch rfl AL (EY _ (co+j*32) Zk.o (HYR.o W hW)));refine qT 15 97 hS ?_ (v:=AO (yA x)) (hv:=fun W hW=>Ch rfl AL (Qe _ x Fx.o W (Wc.o W hW)));refine qT 16 98 hS ?_ (v:=AX e);refine qT 17 99 hS ?_ (v:=AX e);refine Cx AL ?_ _;simp only [Bp,B9];clear hS TK hde hgd;cases e
   ·go_wp2_with fail
    exact zy
   go_wp2;go_ret2;exact ⟨2,j,rfl,by decide,AE2.o.drew⟩
  have hd:decide (u < v)=false:=BO huv;clear huv;refine JA (fun W=>AJ wb W) 18 _ DE AL rfl ?_;refine qM 0 82 16 hS ?_;refine qM 1 83 19 hS ?_;refine qT 2 84 hS ?_ (v:=AU (some ⟨ub,uo+j,none⟩));refine qT 3 85 hS ?_ (v:=AB AE u);refine qM 4 86 17 hS ?_;refine qM 5 87 19 hS ?_;refine qT 6 88 hS ?_ (v:=AU (some ⟨vb,vo+j,none⟩));refine qT 7 89 hS ?_ (v:=AB AE v);refine qT 8 90 hS ?_ (v:=AX false);refine qM 9 91 90 hS ?_;refine qN 10 92 hS ?_;refine qN 11 93 hS ?_;refine qN 12 94 hS ?_;refine qN 13 95 hS ?_;refine qN 14 96 hS ?_;refine qN 15 97 hS ?_;refine qN 16 98 hS ?_;refine qT 17 99 hS ?_ (v:=AX false);refine Cx AL ?_ _;simp only [Bp,B9];clear hS TK hde hgd;go_wp2_with fail;exact zy
 have hj1:¬(j:Int) < 19:=AG
 have AE2:=AF (AW HB1.o AIT.o);go_wp2;go_ret2;exact ⟨3,⟨0,rfl⟩,by decide,AE2.o⟩
end Go.Proofs.YtpmpddfgifhlbaaGreatDoor
