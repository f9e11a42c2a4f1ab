import Derived.Test.YtamhoilkpppdbaaGreatDoorL15
import Derived.Test.YtamhoilkpppdbaaGreatDoorL16
namespace Go.Proofs.YtamhoilkpppdbaaGreatDoor
set_option maxHeartbeats 8000000
set_option maxRecDepth 100000
open Go renaming World→AH, Calls→AS
open Go.Proofs.Tryz
open Go.Value renaming slice→AA, int→AB, pointer→AU, agg→AP
open Go.IntKind renaming i64→AE
open Go.Ending renaming returned→AW
open Go.Obj renaming cells→AO
open Go.Operand renaming tmp→AX
open Go.RowKit Go.Shelf
attribute [local go_sem] Oper.semAt_some
def Sk:Br:=⟨0,0,0,0,0,1,zeros 32⟩
theorem ACg:prog.built 36 [(5,AB AE 1)]=some (rdA Sk):=by kernel_rfl
theorem cG (k:Int):prog.built 34 [(0,AB .u8 k)]=some (yA (JR k)):=by kernel_rfl
theorem AFI (g:Nat):prog.built 39 [(2,AP (yA (JR 9))),(3,AA (some ⟨g,0,none⟩) 4 4)]=some (Hp 0 0 (JR 9) (AA (some ⟨g,0,none⟩) 4 4)):=by kernel_rfl
theorem AGg (g:Nat):(Hp 0 0 (JR 9) (AA (some ⟨g,0,none⟩) 4 4)).all (·.oneCell')=true:=by kernel_rfl
theorem AF2 {val:Int->Int->Int->Bool} {RO:AQ} (h1:val 0 0 5=true) (h2:val 0 1 3=true):Eo 0 (Ba [2] ({Sk with root:=RO}:Br).schema) (val ({Sk with root:=RO}:Br).schema) {Sk with root:=RO} 0 Hl 0 [5,3]=true:=by
 have e:Dx 2 (val 0) [5,3]=true:=by show (true && (val 0 0 5 && (val 0 1 3 && true)))=true;rw [h1,h2];rfl
 show (_ && Dx 2 (val 0) [5,3])=true;rw [e];rfl
theorem AJv {val:Int->Int->Int->Bool} {RO:AQ}:¬Eo 0 (Ba [2] ({Sk with root:=RO}:Br).schema) (val ({Sk with root:=RO}:Br).schema) {Sk with root:=RO} 1 Hl 0 [5,3]=true:=fun h=>by simp only [Eo,Bb,By] at h;exact absurd h.1.1.1.2 Ai
theorem Ag.AJj {α:Type} {sz:Nat} {R:AH->List Value->α->Prop} (hC:Qg R) {w:AH} {v:Value} {l:List α} (h:Ag sz R w v l):Ag sz R (veil [] w) v l:=
 h.PT hC gW (fun a v hv=>by rw [Ke (Iy AZ)];exact hv)
theorem jj {RO:AQ}:FS 0 (Ba [2] (C9 Aw (JR 7) 2 ({Sk with root:=RO}:Br) 0 (JR 9) Hl [5,3]).schema) (C9 Aw (JR 7) 2 ({Sk with root:=RO}:Br) 0 (JR 9) Hl [5,3]) [1] 2=0:=by
 have e:(C9 Aw (JR 7) 2 ({Sk with root:=RO}:Br) 0 (JR 9) Hl [5,3]).claims.length=7:=by rw [C9,QS,CY,Qn] <;> rfl
 have ho:GI (some 2) (C9 Aw (JR 7) 2 ({Sk with root:=RO}:Br) 0 (JR 9) Hl [5,3]) [1] 2=true:=by simp only [GI,Bb,By];exact ⟨⟨⟨rfl,rfl⟩,e⟩,⟨rfl,by decide⟩,by decide⟩
 show (if (0:Int)≠0 then (160:Int) else if GI (some 2) _ [1] 2=true then 0 else 190)=0;rw [Ah AZ,Ak ho]
theorem ACh:prog.built 46 []=some (Fo ⟨Gu.Ar,Gu.round,Gu.schema,Gu.place,Gu.holder,AA none 0 0,AA none 0 0,AA none 0 0⟩):=by kernel_rfl
def shM:Ha:=⟨0,0,0,0,zeros 32,[],[], -1,zeros 32,[]⟩
def db:Br:=⟨0,0,0,0,0,0,zeros 32⟩
theorem ACf:prog.built 36 []=some (rdA db):=by kernel_rfl
theorem ACe:prog.built 57 [(7,AB AE (-1))]=some (Em ⟨0,0,0,0,zeros 32,AA none 0 0,AA none 0 0, -1,zeros 32,AA none 0 0,AA none 0 0,AA none 0 0,0,0⟩):=by kernel_rfl
theorem ADC {val:Int->Int->Int->Bool} {r1:Br} (hr:r1={Sk with root:=O2 Aw (JR 7) 7}) (h1:val 0 0 5=true) (h2:val 0 1 3=true):DZ Aw 0 (Ba [2] r1.schema) (val r1.schema) r1 (C9 Aw (JR 7) 2 r1 0 (JR 9) Hl [5,3])=0:=by have h:=AF2 (RO:=O2 Aw (JR 7) 7) h1 h2;rw [<-hr] at h;exact iY (n:=2) (by rw [hr];rfl) h r1 (by rw [hr];rfl)
theorem ADE {val:Int->Int->Int->Bool}:DJ Aw 0 (Ba [2] db.schema) (val db.schema) db shM=190:=RH (fun h=>by have:Jj (Ba [2] db.schema) (val db.schema) db shM=false:=rfl;rw [this] at h;cases h)
theorem wh {val:Int->Int->Bool} {r1:Br} {s0:Ha} (hf:s0.fields=[1]) (hv:s0.values.length=1) (hc:s0.claims.length=3) (hz:DJ Aw 0 (some 2) val r1 s0=0):DJ Aw 0 (some 2) val r1 {s0 with fields:=[0]}=190:=by
 obtain ⟨_,_,h⟩:=VF hz;have hc0:s0.claims[0]? =some (s0.claims[0]' AG):=BN _;have hm:=dm (H:=Aw) (n:=2) (s:=s0) (by rw [hf,hv];rfl) (j:=0) (f:=1) (by rw [hf];rfl);have hi:=(h 0 _ _ hm hc0).1;unfold DJ;rw [Ah AZ];by_cases ho:Jj (some 2) val r1 {s0 with fields:=[0]}=true
 ·rw [Ak ho]
  have hm':=dm (H:=Aw) (n:=2) (s:={s0 with fields:=[0]}) hv (j:=0) (f:=0) rfl;refine j5 hm' hc0 ?_;rw [hi];show ¬s0.place*((2:Nat)+4+1:Int)+1=s0.place*((2:Nat)+4+1:Int)+0;omega
 · rw [Ah ho]
theorem QP {g1 g3 g4:Nat} {W:AH} (h:WV g1 g3 g4 W):Ag 6 Kx W (AA (some ⟨g3,0,none⟩) 1 1) [2]:=by
 obtain ⟨g2,_,_,h3,_⟩:=h;refine P8 (l:=[2]) h3 ⟨rfl,fun i x hi=> ?_⟩ Ai;rcases i with _ | i
 ·simp only [Ao,Bz] at hi
  subst hi;exact ⟨_,_,_,_,_,_,_,rfl,by decide,fun u hu=>by simp only [B0,DX,DW] at hu;rcases hu with rfl | rfl | rfl | rfl | rfl <;> rfl⟩
 · simp at hi
theorem wj (P6 AHO:Int->Int->Int->Bool) (w:AH) (hT:Cc w) (hv1:P6 0 0 5=true) (hv2:P6 0 1 3=true)
 (hK:∀g1 g3 g4 W,AK w W->WV g1 g3 g4 W->PU (AP #[AA (some ⟨g1,0,none⟩) 1 1,AA none 0 0,AA (some ⟨g3,0,none⟩) 1 1,AA none 0 0,AA none 0 0,AA none 0 0]) (AP #[AA (some ⟨g1,0,none⟩) 1 1,AA none 0 0,AA (some ⟨g3,0,none⟩) 1 1,AA none 0 0,AA none 0 0,AA none 0 0,AA (some ⟨g4,0,none⟩) 1 1]) 0 P6 W)
 (hZ:∀W,AK w W->PU (AP #[AA none 0 0,AA none 0 0,AA none 0 0,AA none 0 0,AA none 0 0,AA none 0 0]) (AP #[AA none 0 0,AA none 0 0,AA none 0 0,AA none 0 0,AA none 0 0,AA none 0 0,AA none 0 0]) 0 AHO W):
 AS prog 7 #[] w fun e w'=>e=AW (.bool true)/\AK w w':=by
 obtain ⟨HT,HV,HK,HZ⟩:=CD hT (And.intro hv1 hv2) hK hZ;clear hT hv1 hv2 hK hZ;go_enter func7,ntmps7;go_upto_region 2 with (go_at_call 21;refine (oL _).mono ?_;rintro e w1 ⟨g1,g3,g4,rfl,ht,hb⟩;have HT1:=AF ht;have HB1:=AF hb;clear ht hb;simp only [wZ]);obtain ⟨k2,b2,s2⟩:=bx w1 #[AA (some ⟨g1,0,none⟩) 1 1,AA none 0 0,AA (some ⟨g3,0,none⟩) 1 1,AA none 0 0,AA none 0 0,AA none 0 0,AA (some ⟨g4,0,none⟩) 1 1] 32;generalize (w1.alloc (AO #[AA (some ⟨g1,0,none⟩) 1 1,AA none 0 0,AA (some ⟨g3,0,none⟩) 1 1,AA none 0 0,AA none 0 0,AA none 0 0,AA (some ⟨g4,0,none⟩) 1 1] 32))=w2 at k2 b2 s2 ⊢;obtain ⟨gt,hgt⟩:=Ad w1.heap.size;rw [<-hgt] at k2 s2 ⊢;have HW2:AI (AK w w2):=AF (AV HB1.o b2);obtain ⟨I7,KT⟩:=Al (HT1.o.below b2) k2;have Lt:AI (w2.heap.size=gt+1):=AF s2;clear k2 b2 s2 hgt
 -- the tables,in every later world
 have HD:AI (∀W,(AY W gt 32 #[AA (some ⟨g1,0,none⟩) 1 1,AA none 0 0,AA (some ⟨g3,0,none⟩) 1 1,AA none 0 0,AA none 0 0,AA none 0 0,AA (some ⟨g4,0,none⟩) 1 1])->W.cell? ⟨gt,0,none⟩=some (AA (some ⟨g1,0,none⟩) 1 1)/\W.cell? ⟨gt,1,none⟩=some (AA none 0 0)/\W.cell? ⟨gt,2,none⟩=some (AA (some ⟨g3,0,none⟩) 1 1)/\W.cell? ⟨gt,3,none⟩=some (AA none 0 0)/\W.cell? ⟨gt,4,none⟩=some (AA none 0 0)/\W.cell? ⟨gt,5,none⟩=some (AA none 0 0)/\W.cell? ⟨gt,6,none⟩=some (AA (some ⟨g4,0,none⟩) 1 1)):=AF (fun W b=>⟨b.cell 0,b.cell 1,b.cell 2,b.cell 3,b.cell 4,b.cell 5,b.cell 6⟩);obtain ⟨d0,d1,d2,d3,d4,d5,d6⟩:=HD.o w2 KT.o;have vp:AI (∀W,AK w2 W->AS prog 10 #[AP #[AA (some ⟨g1,0,none⟩) 1 1,AA none 0 0,AA (some ⟨g3,0,none⟩) 1 1,AA none 0 0,AA none 0 0,AA none 0 0,AA (some ⟨g4,0,none⟩) 1 1],AB AE 0] W fun e w'=>e=AW (.tuple #[AB AE 7,AB AE 0])/\AK W w'):=AF (fun W hW=>
  lJ _ _ _ _ _ _ _ _ _ [2] 0 0 P6 W (QP (I7.o.below hW)) (HK.o g1 g3 g4 W (AV HW2.o hW) (I7.o.below hW)))
 have HWZ:AI (∀W,AK w2 W->AS prog 10 #[AP #[AA none 0 0,AA none 0 0,AA none 0 0,AA none 0 0,AA none 0 0,AA none 0 0,AA none 0 0],AB AE 0] W fun e w'=>e=AW (.tuple #[AB AE 0,AB AE 1])/\AK W w'):=AF (fun W hW=>
  lJ _ _ _ _ _ _ _ _ _ [] 0 0 AHO W (Ag.nil _ _ (Ay _)) (HZ.o W (AV HW2.o hW)))
 go_upto_region 4 with (first
  | (go_at_call 10;refine (vp.o _ (Af _ _)).mono ?_;rintro e w3 ⟨rfl,hb⟩;have HB3:=AF hb;clear hb vp)
  | (go_at_call 10;refine (HWZ.o _ HB3.o).mono ?_;rintro e w4 ⟨rfl,hb⟩;have HB4:=AF (AV HB3.o hb);clear hb)
  | fail)
 clear d0 d1 d2 d3 d4 d5 d6;obtain ⟨RR,hRR⟩:=Ad (rdA Sk);obtain ⟨SD,hSD⟩:=Ad (yA (JR 7));obtain ⟨RO,hRO⟩:=Ad (O2 Aw (JR 7) 7);have DK:AI (prog.built 36 [(5,AB AE 1)]=some RR):=AF (by rw [hRR];exact ACg);have Ri:AI (prog.built 34 [(0,AB .u8 7)]=some SD):=AF (by rw [hSD];exact cG 7);have HRN:AI (RR.size=38):=AF (by rw [hRR];rfl);have ALO:AI (RR.all (·.oneCell')=true):=AF (by rw [hRR];kernel_rfl);have Yl:AI (RO.length=32):=AF (by rw [hRO,O2];exact Oa _);have HRT:AI (∀W,AK w W->AS prog 12 #[.agg SD,AB AE 7] W (fB RO 0 W)):=AF (fun W hW=>by rw [hSD,hRO];exact ADI (JR 7) 7 W rfl Ai Ai (HT.o.below hW));obtain ⟨HRR,Nd,Ra⟩:=BB hRR hSD hRO;clear hRR hSD hRO;go_upto_region 5 with (first
  | (refine wpList_buildTo rfl 36 #[(5,.const (AB AE 1))] rfl (some 30) rfl RR (Er (congrArg (prog.built 36) AJ) DK.o) ?_)
  | (refine FE 36 6 30 38 RR HRN.o ALO.o rfl ?_)
  | fail)
 obtain ⟨k5,b5,s5⟩:=bx w4 RR 36;generalize (w4.alloc (AO RR 36))=w5 at k5 b5 s5 ⊢;obtain ⟨gr,hgr⟩:=Ad w4.heap.size;rw [<-hgr] at k5 s5 ⊢;obtain ⟨Cg,Nz⟩:=Al (AV HB4.o b5) k5;have Gp:AI (gt < gr):=AF (by have:=HB4.o.size;have:=Lt.o;omega);clear k5 b5 s5 hgr;go_upto_region 6 with (first
  | (refine wpList_buildTo rfl 34 #[(0,.const (AB .u8 7))] rfl (some 32) rfl SD (Er (congrArg (prog.built 34) AJ) Ri.o) ?_)
  | (go_at_call 12;refine (HRT.o _ (AV HW2.o Cg.o)).mono ?_;rintro e w6 ⟨rfl,hb⟩;have Fb:=AF (AV Cg.o hb);have fC:=AF (Nz.o.below hb Nz.o.lt);clear hb)
  | (refine FE 34 7 34 32 (yA RO) (by rw [CJ,Yl.o]) (Kh RO) rfl ?_)
  | fail)
 obtain ⟨k7,b7,s7⟩:=bx w6 (yA RO) 34;generalize (w6.alloc (AO (yA RO) 34))=w7 at k7 b7 s7 ⊢;obtain ⟨gd,hgd⟩:=Ad w6.heap.size;rw [<-hgd] at k7 s7 ⊢;obtain ⟨D4,KR7,KD7⟩:=BB (AV Fb.o b7) (fC.o.below b7 fC.o.lt) k7;have HGD:AI (gr < gd):=AF (by have:=fC.o.lt;omega);have Tz:AI (w7.there gr 6 (yA RO).size):=AF (Qr KR7.o (by rw [HRN.o,CJ,Yl.o];decide));have Yf:AI ((prog.info? 34).map (·.size)=some (yA RO).size):=AF (by rw [CJ,Yl.o];exact Fw);clear k7 b7 s7 hgd;go_upto_region 7 with (first
  | (refine Ci rfl 34 (AX 7) rfl gd AJ 34 (yA RO) (0,0) _ KD7.o underlying34 rfl Yf.o ?_)
  | (refine Un rfl 34 (AX 37) (AX 36) rfl gr 6 (yA RO) rfl rfl Tz.o Yf.o (Kh RO) ?_)
  | fail)
 obtain ⟨R1,hR1⟩:∃R,R=rdA {Sk with root:=RO}:=⟨_,rfl⟩;have hr8:AY (w7.setCells gr 6 (yA RO).toList) gr 36 R1:=by have h:=KR7.o;rw [HRR.o] at h;rw [hR1];exact ADN h rfl Yl.o
 have hn8:∀b,b < w7.heap.size->b≠gr->(w7.setCells gr 6 (yA RO).toList).heap[b]? =w7.heap[b]? :=fun b hb hne=>(Dt (yA RO).toList 6 w7 (Cu w7 (some gr))).block b hb (fun e=>by injection e with e;exact hne e);have hb8:AK w2 (w7.setCells gr 6 (yA RO).toList):=below_setCells _ _ _ _ D4.o (by have:=Lt.o;have:=Gp.o;omega);generalize w7.setCells gr 6 (yA RO).toList=w8 at hr8 hn8 hb8 ⊢;obtain ⟨IH,KR8⟩:=Al hb8 hr8;have KT8:AI (AY w8 gt 32 #[AA (some ⟨g1,0,none⟩) 1 1,AA none 0 0,AA (some ⟨g3,0,none⟩) 1 1,AA none 0 0,AA none 0 0,AA none 0 0,AA (some ⟨g4,0,none⟩) 1 1]):=AF (KT.o.below hb8 KT.o.lt);have ALQ:AI (R1.size=38):=AF (by rw [hR1,rdA,OY,CJ];show 6+RO.length=38;rw [Yl.o]);have HR1:=AF hR1;clear hr8 hn8 hb8 hR1 KR7 Tz;obtain ⟨D9,hD9⟩:=Ad (yA (JR 9));have Nf:AI (prog.built 34 [(0,AB .u8 9)]=some D9):=AF (by rw [hD9];exact cG 9);have HD9:=AF hD9;clear hD9;go_upto_region 8 with (first
  | (refine wpList_buildTo rfl 34 #[(0,.const (AB .u8 9))] rfl (some 38) rfl D9 (Er (congrArg (prog.built 34) AJ) Nf.o) ?_)
  | (
   go_at_call 22;refine (s9 _).mono ?_;rintro e w9 ⟨gl,rfl,hl,hb⟩;obtain ⟨OO,Oh⟩:=Ad (Hp 0 0 (JR 9) (AA (some ⟨gl,0,none⟩) 4 4));have HBO:AI (prog.built 39 [(2,.agg D9),(3,AA (some ⟨gl,0,none⟩) 4 4)]=some OO):=AF (by rw [Oh,HD9.o];exact AFI gl);have Vo:AI (OO.size=35):=AF (by rw [Oh];rfl);have IG:AI (OO.all (·.oneCell')=true):=AF (by rw [Oh];exact AGg gl);obtain ⟨lZ,HL9,AJe⟩:=BB Oh hl hb;clear Oh hl hb)
  | (refine wpList_buildTo rfl 39 #[(2,.tmp 38),(3,.tmp 39)] rfl (some 40) rfl OO (Er (congrArg (prog.built 39) AJ) HBO.o) ?_)
  | (refine FE 39 9 40 35 OO Vo.o IG.o rfl ?_)
  | fail)
 obtain ⟨k10,b10,s10⟩:=bx w9 OO 39;generalize (w9.alloc (AO OO 39))=w10 at k10 b10 s10 ⊢;obtain ⟨go_,hgo⟩:=Ad w9.heap.size;rw [<-hgo] at k10 s10 ⊢;have eO:AK w8 w10:=AV AJe.o b10;obtain ⟨AMA,ND,jN,AFO,AFN,qs⟩:=Fg eO (AV IH.o eO) (HL9.o.mono BO b10) k10 (KR8.o.below eO KR8.o.lt) (KT8.o.below eO KT8.o.lt);clear k10 b10 s10 hgo eO HL9 AJe;obtain ⟨r1,hr1⟩:∃r:Br,r={Sk with root:=RO}:=⟨_,rfl⟩;obtain ⟨q0,hq0⟩:=Ad (C9 Aw (JR 7) 2 r1 0 (JR 9) Hl [5,3]:EG);have Mh:AI (∀g W,AK w10 W->AY W g 3 #[AB AE 5,AB AE 3]->AS prog 9 #[AP #[AA (some ⟨g1,0,none⟩) 1 1,AA none 0 0,AA (some ⟨g3,0,none⟩) 1 1,AA none 0 0,AA none 0 0,AA none 0 0,AA (some ⟨g4,0,none⟩) 1 1],.agg SD,.agg R1,AB AE 0,.agg OO,AP #[AB AE 0,AB AE 0,AB AE 0,AA (some ⟨g,0,none⟩) 2 2]] W (Iu W q0 0)):=AF (fun g W hW hg=>by have h2:AK w2 W:=AV ND.o hW;have h:=bL _ _ _ _ _ _ _ 1 1 [2] 0 P6 (JR 7) r1 0 0 0 0 0 0 (JR 9) Hl [5,3] _ _ 2 2 4 4 W (QP (I7.o.below h2)) (HK.o g1 g3 g4 W (AV HW2.o h2) (I7.o.below h2)) (Mv (l:=[5,3]) hg Ai Ai) (jN.o.mono BO hW) rfl rfl (by rw [hr1];exact Yl.o) (HT.o.below (AV HW2.o h2));rw [hr1,Ak (AF2 HV.o.1 HV.o.2),<-hr1,show Ba [2] r1.schema=some 2 from by rw [hr1];rfl] at h;rw [Nd.o,HR1.o,lZ.o,hq0,<-hr1];exact h)
 have LI:AI (∀g W,AK w10 W->AY W g 3 #[AB AE 5,AB AE 3]->AS prog 9 #[AP #[AA (some ⟨g1,0,none⟩) 1 1,AA none 0 0,AA (some ⟨g3,0,none⟩) 1 1,AA none 0 0,AA none 0 0,AA none 0 0,AA (some ⟨g4,0,none⟩) 1 1],.agg SD,.agg R1,AB AE 1,.agg OO,AP #[AB AE 0,AB AE 0,AB AE 0,AA (some ⟨g,0,none⟩) 2 2]] W (Iu W Gu 190)):=AF (fun g W hW hg=>by have h2:AK w2 W:=AV ND.o hW;have h:=bL _ _ _ _ _ _ _ 1 1 [2] 0 P6 (JR 7) r1 1 0 0 0 0 0 (JR 9) Hl [5,3] _ _ 2 2 4 4 W (QP (I7.o.below h2)) (HK.o g1 g3 g4 W (AV HW2.o h2) (I7.o.below h2)) (Mv (l:=[5,3]) hg Ai Ai) (jN.o.mono BO hW) rfl rfl (by rw [hr1];exact Yl.o) (HT.o.below (AV HW2.o h2));rw [hr1,Ah AJv,<-hr1] at h;rw [Nd.o,HR1.o,lZ.o,<-hr1];exact h)
 obtain ⟨UZ,Pf⟩:=Al hr1 hq0;clear hr1 hq0;have aU:AI ((prog.info? 39).map (·.size)=some OO.size):=AF (by rw [Vo.o];kernel_rfl);have MN:AI ((prog.info? 36).map (·.size)=some R1.size):=AF (by rw [ALQ.o];kernel_rfl);have TP:AI (q0.holder.length=32):=AF (by rw [Pf.o];rfl);obtain ⟨d0,d1,d2,d3,d4,d5,d6⟩:=HD.o w10 qs.o;go_upto_region 9 with (first
  | (refine wpList_buildTo rfl 34 #[(0,.const (AB .u8 7))] rfl (some 43) rfl SD (Er (congrArg (prog.built 34) AJ) Ri.o) ?_)
  | (refine Ci rfl 36 (AX 6) rfl gr AJ 36 R1 (0,0) _ AFN.o underlying36 rfl MN.o ?_)
  | (refine Ci rfl 39 (AX 9) rfl go_ AJ 39 OO (0,0) _ AFO.o underlying39 rfl aU.o ?_)
  | (
   go_at_call 9;refine (Mh.o _ _ (BK _ _) (AY.new _ _ _)).mono ?_;rintro e w12 ⟨VA,vn,vc,LA,ln,lc,KA,kn,kc,rfl,s1,s2,s3,hb⟩;obtain ⟨CC,hCC⟩:=Ad (Fo ⟨q0.Ar,q0.round,q0.schema,q0.place,q0.holder,AA VA vn vc,AA LA ln lc,AA KA kn kc⟩);rw [<-hCC];have HCN:AI (CC.size=39):=AF (by rw [hCC];exact Jw TP.o);have HCO:AI (CC.all (·.oneCell')=true):=AF (by rw [hCC];exact QN rfl rfl rfl);obtain ⟨LG,HS2,LD,AJh,Dz⟩:=Db (s1.MK Ju) (s2.MK S8) (s3.MK Mu) (((Af w10.heap.size w10).alloc (Ac _) (AO #[AB AE 5,AB AE 3] 3)).trans (hb.mono AZ)) hCC;clear s1 s2 s3 hb hCC)
  | (refine FE 46 10 49 39 CC HCN.o HCO.o rfl ?_)
  | fail)
 clear d0 d1 d2 d3 d4 d5 d6;obtain ⟨k13,b13,s13⟩:=bx w12 CC 46;generalize (w12.alloc (AO CC 46))=EH at k13 b13 s13 ⊢;obtain ⟨gc,hgc⟩:=Ad w12.heap.size;rw [<-hgc] at k13 s13 ⊢;have S4:AK w10 EH:=AV AJh.o b13;obtain ⟨AFt,AIv,rS,cR,AFS,AK8⟩:=Fg S4 (LG.o.mono BT b13) (HS2.o.mono BO b13) (LD.o.mono Bc b13) k13 (qs.o.below S4 qs.o.lt);have PZ:AI ((prog.info? 46).map (·.size)=some CC.size):=AF (by rw [HCN.o];kernel_rfl);clear k13 b13 s13 hgc S4 LG HS2 LD AJh;obtain ⟨s0,hs0⟩:=Ad (Hx 2 q0 [1] 2:Ha);have HO0:AI (∀g W,AK EH W->AY W g 3 #[AB AE 1]->AS prog 14 #[AP #[AA (some ⟨g1,0,none⟩) 1 1,AA none 0 0,AA (some ⟨g3,0,none⟩) 1 1,AA none 0 0,AA none 0 0,AA none 0 0,AA (some ⟨g4,0,none⟩) 1 1],.agg CC,AA (some ⟨g,0,none⟩) 1 1,AB AE 2] W (NW [] W s0 0)):=AF (fun g W hW hg=>by
  have h2:AK w2 W:=AV ND.o (AV AFt.o hW);have h:=open_any _ _ _ _ _ _ _ 1 1 [2] 0 P6 q0 VA LA KA _ vn vc ln lc kn kc 1 1 [1] 2 [] W (QP (I7.o.below h2)) (HK.o g1 g3 g4 W (AV HW2.o h2) (I7.o.below h2)) (AIv.o.mono BT hW) (rS.o.mono BO hW) ((cR.o.mono Bc hW).AJj JY) (Mv (l:=[1]) hg Ai Ai) TP.o Ai (fun _ h=>by cases h);have e:FS 0 (Ba [2] q0.schema) q0 [1] 2=0:=by rw [Pf.o,UZ.o];exact jj
  rw [Ak e,show Ba [2] q0.schema=some 2 from by rw [Pf.o,UZ.o];rfl,<-Dz.o] at h;rw [hs0];exact h)
 have T0:=AF hs0;have Hr:AI (s0.holder.length=32/\s0.token.length=32):=AF (by rw [hs0];exact ⟨TP.o,by rw [Pf.o];rfl⟩);clear hs0;obtain ⟨d0,d1,d2,d3,d4,d5,d6⟩:=HD.o EH AK8.o;go_upto_region 10 with (first
  | (refine Ci rfl 46 (AX 10) rfl gc AJ 46 CC (0,0) _ AFS.o underlying46 rfl PZ.o ?_)
  | (
   go_at_call 14;refine (HO0.o _ _ (BK _ _) (AY.new _ _ _)).mono ?_;rintro e If ⟨FA,fn,fc,UA,un,uc,XA,xn,xc,rfl,s1,s2,s3,hb⟩;obtain ⟨SS,hSS⟩:=Ad (Em ⟨s0.Ar,s0.round,s0.schema,s0.place,s0.holder,AA FA fn fc,AA UA un uc,s0.link,s0.token,AA XA xn xc,undef,undef,0,0⟩);rw [<-hSS];have RV:AI (SS.size=72):=AF (by rw [hSS];exact G0 Hr.o.1 Hr.o.2);have aS:AI (SS.all (·.oneCell')=true):=AF gV;obtain ⟨LG,HS2,LD,rl,Yj⟩:=Db (s1.MK Ju) (s2.MK Ju) (s3.MK Mu) (((Af EH.heap.size EH).alloc (Ac _) (AO #[AB AE 1] 3)).trans (hb.mono AZ)) hSS;clear s1 s2 s3 hb hSS)
  | (refine FE 57 12 56 72 SS RV.o aS.o rfl ?_)
  | fail)
 clear d0 d1 d2 d3 d4 d5 d6;obtain ⟨k15,b15,s15⟩:=bx If SS 57;generalize (If.alloc (AO SS 57))=Hn at k15 b15 s15 ⊢;obtain ⟨gs,hgs⟩:=Ad If.heap.size;rw [<-hgs] at k15 s15 ⊢;have WN:AK EH Hn:=AV rl.o b15;have hbx:AK w10 Hn:=AV AFt.o WN;obtain ⟨cV,Rh,ALr,zM,AFV,jC,zL,qr,AFM,ALA⟩:=dF WN hbx (LG.o.mono BT b15) (HS2.o.mono BT b15) (LD.o.mono Bc b15) k15 (AFS.o.below WN AFS.o.lt) (qs.o.below hbx qs.o.lt) (AFN.o.below hbx AFN.o.lt) (AFO.o.below hbx AFO.o.lt);have Cd:AI ((prog.info? 57).map (·.size)=some SS.size):=AF (by rw [RV.o];kernel_rfl);clear k15 b15 s15 hgs WN hbx LG HS2 LD rl;obtain ⟨d0,d1,d2,d3,d4,d5,d6⟩:=HD.o Hn qr.o;go_upto_region 11 with (first
  | (refine wpList_buildTo rfl 34 #[(0,.const (AB .u8 7))] rfl (some 60) rfl SD (Er (congrArg (prog.built 34) AJ) Ri.o) ?_)
  | (refine Ci rfl 36 (AX 6) rfl gr AJ 36 R1 (0,0) _ AFM.o underlying36 rfl MN.o ?_)
  | (refine Ci rfl 39 (AX 9) rfl go_ AJ 39 OO (0,0) _ ALA.o underlying39 rfl aU.o ?_)
  | (
   go_at_call 9;refine (LI.o _ _ (AV Rh.o ((Af Hn.heap.size Hn).alloc (Ac _) _)) (AY.new _ _ _)).mono ?_;rintro e w16 ⟨YA,yn,yc,YB,zn,zc,YC,ut,uv,rfl,_,_,_,hb⟩;obtain ⟨C2,hC2⟩:=Ad (Fo ⟨Gu.Ar,Gu.round,Gu.schema,Gu.place,Gu.holder,AA YA yn yc,AA YB zn zc,AA YC ut uv⟩);rw [<-hC2];have zj:AI (C2.size=39):=AF (by rw [hC2];exact Jw rfl);have AFm:AI (C2.all (·.oneCell')=true):=AF tg;have Uf:=AF (((Af Hn.heap.size Hn).alloc (Ac _) (AO #[AB AE 5,AB AE 3] 3)).trans (hb.mono AZ));clear hb hC2)
  | (refine FE 46 14 66 39 C2 zj.o AFm.o rfl ?_)
  | fail)
 obtain ⟨_,b17,_⟩:=bx w16 C2 46;generalize (w16.alloc (AO C2 46))=Td at b17 ⊢;have ik:AK Hn Td:=AV Uf.o b17;obtain ⟨RL,AK7⟩:=Al ik (qr.o.below ik qr.o.lt);obtain ⟨ZC,hZC⟩:=Ad (Fo ⟨Gu.Ar,Gu.round,Gu.schema,Gu.place,Gu.holder,AA none 0 0,AA none 0 0,AA none 0 0⟩);have J8:AI (prog.built 46 []=some ZC):=AF (by rw [hZC];exact ACh);have IG:AI (∀W,AK Td W->AS prog 14 #[AP #[AA (some ⟨g1,0,none⟩) 1 1,AA none 0 0,AA (some ⟨g3,0,none⟩) 1 1,AA none 0 0,AA none 0 0,AA none 0 0,AA (some ⟨g4,0,none⟩) 1 1],.agg ZC,AA none 0 0,AB AE (-1)] W (NW [] W ML 190)):=AF (fun W hW=>by have h2:AK w2 W:=AV ND.o (AV Rh.o (AV RL.o hW));have h:=open_any _ _ _ _ _ _ _ 1 1 [2] 0 P6 Gu none none none none 0 0 0 0 0 0 0 0 [] (-1) [] W (QP (I7.o.below h2)) (HK.o g1 g3 g4 W (AV HW2.o h2) (I7.o.below h2)) (Ag.nil _ _ (Ay _)) (Ag.nil _ _ (Ay _)) (Ag.nil _ _ (Ay _)) (Ag.nil _ _ (Ay _)) rfl Ai (fun _ h=>by cases h);rw [Ah Ai,<-hZC] at h;exact h)
 clear b17 ik hZC Uf d0 d1 d2 d3 d4 d5 d6;obtain ⟨d0,d1,d2,d3,d4,d5,d6⟩:=HD.o Td AK7.o;go_upto_region 12 with (first
  | (refine wpList_buildTo rfl 46 #[] rfl (some 70) rfl ZC (Er (congrArg (prog.built 46) AJ) J8.o) ?_)
  | (
   go_at_call 14;refine (IG.o _ (Af _ _)).mono ?_;rintro e H9 ⟨YA,yn,yc,YB,zn,zc,YC,ut,uv,rfl,_,_,_,hb⟩;obtain ⟨S2,hS2⟩:=Ad (Em ⟨ML.Ar,ML.round,ML.schema,ML.place,ML.holder,AA YA yn yc,AA YB zn zc,ML.link,ML.token,AA YC ut uv,undef,undef,0,0⟩);rw [<-hS2];have cM:AI (S2.size=72):=AF (by rw [hS2];exact G0 rfl rfl);have zO:AI (S2.all (·.oneCell')=true):=AF (by rw [hS2];exact SF rfl rfl rfl);have Pc:=AF hb;clear hb hS2)
  | (refine FE 57 16 72 72 S2 cM.o zO.o rfl ?_)
  | fail)
 obtain ⟨_,b19,_⟩:=bx H9 S2 57;generalize (H9.alloc (AO S2 57))=Z4 at b19 ⊢;have Wc:=AF (AV RL.o (AV Pc.o b19));clear b19 Pc d0 d1 d2 d3 d4 d5 d6;have Yz:AI (∀W,AK Hn W->AK w2 W):=AF (fun W hW=>AV ND.o (AV Rh.o hW));have Lh:AI (∀W,AK Hn W->AS prog 23 #[AP #[AA (some ⟨g1,0,none⟩) 1 1,AA none 0 0,AA (some ⟨g3,0,none⟩) 1 1,AA none 0 0,AA none 0 0,AA none 0 0,AA (some ⟨g4,0,none⟩) 1 1]] W fun e w'=>e=AW (AB AE 0)/\AK W w'):=AF (fun W hW=>by have h2:=Yz.o W hW;exact (HK.o g1 g3 g4 W (AV HW2.o h2) (I7.o.below h2)).chk W (Af _ _))
 have PK:DZ Aw 0 (Ba [2] r1.schema) (P6 r1.schema) r1 q0=0:=by rw [Pf.o];exact ADC (by rw [UZ.o,Ra.o]) HV.o.1 HV.o.2
 have RD:AI (∀W,AK Hn W->AS prog 13 #[AP #[AA (some ⟨g1,0,none⟩) 1 1,AA none 0 0,AA (some ⟨g3,0,none⟩) 1 1,AA none 0 0,AA none 0 0,AA none 0 0,AA (some ⟨g4,0,none⟩) 1 1],.agg R1,.agg CC] W fun e w'=>e=AW (AB AE 0)/\AK W w'):=AF (fun W hW=>by have h2:=Yz.o W hW;have hd:=AV cV.o hW;have h:=Y0 _ _ _ _ _ _ _ 1 1 [2] 0 P6 r1 q0 VA LA KA vn vc ln lc kn kc W (QP (I7.o.below h2)) (HK.o g1 g3 g4 W (AV HW2.o h2) (I7.o.below h2)) (AIv.o.mono BT hd) (rS.o.mono BO hd) (cR.o.mono Bc hd) TP.o gS (HT.o.below (AV HW2.o h2));rw [PK,<-Dz.o] at h;rw [HR1.o,<-UZ.o];exact h)
 have AEC:DJ Aw 0 (Ba [2] r1.schema) (P6 r1.schema) r1 s0=0:=by
  have ho:FS 0 (Ba [2] q0.schema) q0 [1] 2=0:=by rw [Pf.o,UZ.o];exact jj
  have ho2:GI (Ba [2] r1.schema) q0 [1] 2=true:=by
   have e:Ba [2] q0.schema=Ba [2] r1.schema:=by rw [Pf.o];rfl
   rw [e] at ho;unfold FS at ho;rw [Ah AZ] at ho;by_cases hx:GI (Ba [2] r1.schema) q0 [1] 2=true
   · exact hx
   · rw [Ah hx] at ho;cases ho
  rw [T0.o];exact oP (n:=2) (by rw [UZ.o];rfl) PK ho2
 have Yh:AI (∀(s:Ha) (A3 A4 A5:Option Addr) (n3 c3 n4 c4 n5 c5:Nat) (k:Int) (r:Br) (W:AH),AK Hn W->Ag 1 Bt W (AA A3 n3 c3) s.fields->Ag 1 Bt W (AA A4 n4 c4) s.values->Ag 3 Cy W (AA A5 n5 c5) s.claims->s.holder.length=32->s.token.length=32->FI s.link->r.root.length=32->DJ Aw 0 (Ba [2] r.schema) (P6 r.schema) r s=k->
  AS prog 15 #[AP #[AA (some ⟨g1,0,none⟩) 1 1,AA none 0 0,AA (some ⟨g3,0,none⟩) 1 1,AA none 0 0,AA none 0 0,AA none 0 0,AA (some ⟨g4,0,none⟩) 1 1],AP (rdA r),AP (Em ⟨s.Ar,s.round,s.schema,s.place,s.holder,AA A3 n3 c3,AA A4 n4 c4,s.link,s.token,AA A5 n5 c5,AA none 0 0,AA none 0 0,0,0⟩)] W fun e w'=>e=AW (AB AE k)/\AK W w'):=AF (fun s A3 A4 A5 n3 c3 n4 c4 n5 c5 k r W hW a b c d e f g hk=>by
  have h2:=Yz.o W hW;have h:=ew _ _ _ _ _ _ _ 1 1 [2] 0 P6 r s A3 A4 A5 n3 c3 n4 c4 n5 c5 W (QP (I7.o.below h2)) (HK.o g1 g3 g4 W (AV HW2.o h2) (I7.o.below h2)) a b c d e f g (HT.o.below (AV HW2.o h2));rw [hk] at h;exact h)
 have HV1:AI (∀W,AK Hn W->AS prog 15 #[AP #[AA (some ⟨g1,0,none⟩) 1 1,AA none 0 0,AA (some ⟨g3,0,none⟩) 1 1,AA none 0 0,AA none 0 0,AA none 0 0,AA (some ⟨g4,0,none⟩) 1 1],.agg R1,.agg SS] W fun e w'=>e=AW (AB AE 0)/\AK W w'):=AF (fun W hW=>by have h:=Yh.o s0 FA UA XA fn fc un uc xn xc 0 r1 W hW (ALr.o.mono BT hW) (zM.o.mono BT hW) (AFV.o.mono Bc hW) Hr.o.1 Hr.o.2 (by rw [T0.o];show FI 2;unfold FI;decide) gS AEC;rw [HR1.o,<-UZ.o,Yj.o];exact h)
 obtain ⟨RZ,kG⟩:=Ad (rdA db);obtain ⟨SM,hSM⟩:=Ad (Em ⟨0,0,0,0,zeros 32,AA none 0 0,AA none 0 0, -1,zeros 32,AA none 0 0,AA none 0 0,AA none 0 0,0,0⟩);have cS:AI (prog.built 36 []=some RZ):=AF (by rw [kG];exact ACf);have HBM:AI (prog.built 57 [(7,AB AE (-1))]=some SM):=AF (by rw [hSM];exact ACe);have EJ:AI (∀W,AK Hn W->AS prog 15 #[AP #[AA (some ⟨g1,0,none⟩) 1 1,AA none 0 0,AA (some ⟨g3,0,none⟩) 1 1,AA none 0 0,AA none 0 0,AA none 0 0,AA (some ⟨g4,0,none⟩) 1 1],.agg RZ,.agg SM] W fun e w'=>e=AW (AB AE 190)/\AK W w'):=AF (fun W hW=>by have h:=Yh.o shM none none none 0 0 0 0 0 0 190 db W hW (Ag.nil _ _ (Ay _)) (Ag.nil _ _ (Ay _)) (Ag.nil _ _ (Ay _)) rfl rfl (by show FI (-1);unfold FI;decide) rfl ADE;rw [kG,hSM];exact h)
 have Rf:AI (∀W,AK Hn W->AY W gt 32 #[AA (some ⟨g1,0,none⟩) 1 1,AA none 0 0,AA (some ⟨g3,0,none⟩) 1 1,AA none 0 0,AA none 0 0,AA none 0 0,AA (some ⟨g4,0,none⟩) 1 1]/\(Instr.loadAt 36 (AU (some ⟨gr,0,none⟩))).run prog W=.ok (.agg R1) W/\(Instr.loadAt 46 (AU (some ⟨gc,0,none⟩))).run prog W=.ok (.agg CC) W/\(Instr.loadAt 57 (AU (some ⟨gs,0,none⟩))).run prog W=.ok (.agg SS) W):=AF (fun W hW=>
  ⟨qr.o.below hW qr.o.lt,loadRow (AFM.o.below hW AFM.o.lt) underlying36 rfl MN.o,loadRow (zL.o.below hW zL.o.lt) underlying46 rfl PZ.o,loadRow (jC.o.below hW jC.o.lt) underlying57 rfl Cd.o⟩)
 have XD:=AF AEC;clear PK AEC kG hSM;obtain ⟨d0,d1,d2,d3,d4,d5,d6⟩:=HD.o Z4 (Rf.o Z4 Wc.o).1;go_upto_region 14 with (first
  | (go_at_call 23;refine (Lh.o _ Wc.o).mono ?_;rintro e dO ⟨rfl,hb⟩;have Ue:=AF (AV Wc.o hb);have Yu:=AF (Rf.o dO Ue.o);obtain ⟨d0,d1,d2,d3,d4,d5,d6⟩:=HD.o dO Yu.o.1;clear hb)
  | (refine Az AJ 46 (AX 10) rfl _ AJ Yu.o.2.2.1 ?_)
  | (go_at_call 13;refine (RD.o _ Ue.o).mono ?_;rintro e oF ⟨rfl,hb⟩;have cT:=AF (AV Ue.o hb);have AFb:=AF (Rf.o oF cT.o);obtain ⟨d0,d1,d2,d3,d4,d5,d6⟩:=HD.o oF AFb.o.1;clear hb Yu)
  | (refine Az AJ 36 (AX 6) rfl _ AJ Yu.o.2.1 ?_)
  | (refine Az AJ 36 (AX 6) rfl _ AJ AFb.o.2.1 ?_)
  | (refine Az AJ 57 (AX 12) rfl _ AJ AFb.o.2.2.2 ?_)
  | (go_at_call 15;refine (HV1.o _ cT.o).mono ?_;rintro e jW ⟨rfl,hb⟩;have AFs:=AF (AV cT.o hb);obtain ⟨d0,d1,d2,d3,d4,d5,d6⟩:=HD.o jW (Rf.o jW AFs.o).1;clear hb HV1)
  | (refine IW AJ 36 #[] rfl RZ (Er (congrArg (prog.built 36) AJ) cS.o) ?_)
  | (refine IW AJ 57 #[(7,.const (AB AE (-1)))] rfl SM (Er (congrArg (prog.built 57) AJ) HBM.o) ?_)
  | (go_at_call 15;refine (EJ.o _ AFs.o).mono ?_;rintro e w23 ⟨rfl,hb⟩;have rk:=AF (AV AFs.o hb);clear hb)
  | fail)
 clear d0 d1 d2 d3 d4 d5 d6;have AK9:=AF (jC.o.below rk.o jC.o.lt);go_upto_region 15 with (first
  | (refine Ci rfl 57 (AX 12) rfl gs AJ 57 SS (0,0) _ AK9.o underlying57 rfl Cd.o ?_)
  | (refine FE 57 18 130 72 SS RV.o aS.o rfl ?_)
  | fail)
 obtain ⟨k24,b24,s24⟩:=bx w23 SS 57;generalize (w23.alloc (AO SS 57))=dN at k24 b24 s24 ⊢;obtain ⟨gw,hgw⟩:=Ad w23.heap.size;rw [<-hgw] at k24 s24 ⊢;have AF8:Hn.heap.size<=gw:=by have:=rk.o.size;omega
 have qm:dN.cell? ⟨gw,36,none⟩=some (AA FA fn fc):=by have h:=k24;rw [Yj.o] at h;exact (JO h Hr.o.1 Hr.o.2).fields
 have f36:=k24.frozen 36;have l24:=k24.lt;obtain ⟨AJg,vm,AJR⟩:=BB (AV rk.o b24) k24 AF8;clear k24 b24 hgw AF8 s24;go_upto_region 16 with fail;have pu:=(vm.o.put 36 (AA (some ⟨dN.heap.size,0,none⟩) 1 1)).alloc (AO #[AB AE 0] 3);rw [Yj.o,AC1 ⟨s0.Ar,s0.round,s0.schema,s0.place,s0.holder,AA FA fn fc,AA UA un uc,s0.link,s0.token,AA XA xn xc,undef,undef,0,0⟩ Hr.o.1 Hr.o.2] at pu;have yG:AY ((dN.setCell ⟨gw,36,none⟩ (AA (some ⟨dN.heap.size,0,none⟩) 1 1)).alloc (AO #[AB AE 0] 3)) dN.heap.size 3 #[AB AE 0]:=Vf (R4 ..);have RJ:AK Hn ((dN.setCell ⟨gw,36,none⟩ (AA (some ⟨dN.heap.size,0,none⟩) 1 1)).alloc (AO #[AB AE 0] 3)):=(AJg.o.setCell AJR.o _).alloc (AJg.o.setCell (p:=⟨gw,36,none⟩) AJR.o _).size _;obtain ⟨gz,hgz⟩:=Ad dN.heap.size;rw [<-hgz] at pu yG RJ ⊢;generalize ((dN.setCell ⟨gw,36,none⟩ (AA (some ⟨gz,0,none⟩) 1 1)).alloc (AO #[AB AE 0] 3))=Z3 at pu yG RJ ⊢;have AL1:=AF RJ;obtain ⟨SW,hSW⟩:=Ad (Em ⟨s0.Ar,s0.round,s0.schema,s0.place,s0.holder,AA (some ⟨gz,0,none⟩) 1 1,AA UA un uc,s0.link,s0.token,AA XA xn xc,undef,undef,0,0⟩);have KW:AI (AY Z3 gw 57 SW):=AF (by rw [hSW];exact pu);have HWS:AI ((prog.info? 57).map (·.size)=some SW.size):=AF (by rw [hSW,G0 Hr.o.1 Hr.o.2];exact iH);have hs2:Ba [2] r1.schema=some 2:=by rw [UZ.o];rfl
 have hcl:s0.claims.length=3:=by rw [T0.o];rfl
 have HVW:AI (∀W,W=Z3->AS prog 15 #[AP #[AA (some ⟨g1,0,none⟩) 1 1,AA none 0 0,AA (some ⟨g3,0,none⟩) 1 1,AA none 0 0,AA none 0 0,AA none 0 0,AA (some ⟨g4,0,none⟩) 1 1],.agg R1,.agg SW] W fun e w'=>e=AW (AB AE 190)/\AK W w'):=AF (fun W hW=>by subst hW;have hz:=XD.o;rw [hs2] at hz;have hw:=wh (by rw [T0.o];rfl) (by rw [T0.o];rfl) hcl hz;rw [<-hs2] at hw;have h:=Yh.o {s0 with fields:=[0]} (some ⟨gz,0,none⟩) UA XA 1 1 un uc xn xc 190 r1 W RJ (Mv (l:=[0]) yG Ai Ai) (zM.o.mono BT RJ) (AFV.o.mono Bc RJ) Hr.o.1 Hr.o.2 (by show FI s0.link;rw [T0.o];show FI 2;unfold FI;decide) gS hw;rw [HR1.o,<-UZ.o,hSW];exact h)
 have hkn:kn=7:=by
  rw [cR.o.len,Pf.o,C9,QS,CY,Qn]
  all_goals rfl
 have hxn:xn=3:=by rw [AFV.o.len,hcl]
 have hun:un=1:=by rw [zM.o.len,T0.o];rfl
 have htk:s0.token=JR 3:=by rw [T0.o,Pf.o];rfl
 obtain ⟨ub,uo,u,hUA,hub,hu,eu,_,_⟩:=ints_at (zM.o.mono BT RJ) (show 0 < un by omega);have hu3:u=3:=by rw [T0.o,Pf.o] at hu;injection hu with hu;exact hu.symm
 obtain ⟨D3,hD3⟩:=Ad (yA (JR 3));have ALz:AI (prog.built 34 [(0,AB .u8 3)]=some D3):=AF (by rw [hD3];exact cG 3);have hde:∀W,(Op.equalIn 10000 34 (AP (yA s0.token)) (.agg D3)).run prog W=.ok true W:=fun W=>by rw [hD3,htk,Zq rfl rfl W];simp
 have hdg:=TD;have qt:=jC.o.below RJ jC.o.lt;have AFR:=zL.o.below RJ zL.o.lt;rw [Yj.o] at qt;rw [Dz.o] at AFR;have HLK:AI ((Instr.loadAt 34 (AU (some ⟨gs,39,none⟩))).run prog Z3=.ok (AP (yA s0.token)) Z3):=AF (Ei gs 39 Hr.o.2 (JO qt Hr.o.1 Hr.o.2).token);have c38:Z3.cell? ⟨gc,38,none⟩=some (AA KA kn kc):=(PS AFR TP.o).claims;have c71:Z3.cell? ⟨gs,71,none⟩=some (AA XA xn xc):=(JO qt Hr.o.1 Hr.o.2).claims;have c37:Z3.cell? ⟨gs,37,none⟩=some (AA UA un uc):=(JO qt Hr.o.1 Hr.o.2).values;rw [hkn] at c38;rw [hxn] at c71;rw [hun,hUA] at c37;rw [hu3,Ee] at eu;have lh:=AF (loadRow KW.o underlying57 rfl HWS.o);have ALh:=AF (Rf.o Z3 RJ).2.1;have AIZ:=(Rf.o Z3 RJ).1;obtain ⟨d0,d1,d2,d3,d4,d5,d6⟩:=HD.o Z3 AIZ;clear pu yG RJ hgz hSW hs2 hcl hkn hxn hun htk hUA hub hu hu3 hD3 qt AFR AIZ qm f36 l24;go_wp2_with (first
  | (refine Az AJ 34 (AX 144) rfl _ AJ HLK.o ?_)
  | (refine IW AJ 34 #[(0,.const (AB .u8 3))] rfl D3 (Er (congrArg (prog.built 34) AJ) ALz.o) ?_)
  | (refine Az AJ 36 (AX 6) rfl _ AJ ALh.o ?_)
  | (refine Az AJ 57 (AX 18) rfl _ AJ lh.o ?_)
  | (go_at_call 15;refine (HVW.o _ rfl).mono ?_;rintro e w26 ⟨rfl,hb⟩;have AL0:=AF (AV AL1.o hb);clear hb)
  | fail)
 go_ret;exact ⟨rfl,AV HW2.o (Yz.o _ AL0.o)⟩
end Go.Proofs.YtamhoilkpppdbaaGreatDoor
