import Derived.Test.YtpmpddfgifhlbaaGreatDoorM15
import Derived.Test.YtpmpddfgifhlbaaGreatDoorM16
namespace Go.Proofs.YtpmpddfgifhlbaaGreatDoor
set_option maxHeartbeats 8000000
set_option maxRecDepth 100000
open Go renaming World→AH, Calls→AS
open Go.Proofs.Tryz
open Go.Value renaming slice→AA, int→AB, pointer→AU, agg→AO
open Go.IntKind renaming i64→AE
open Go.Ending renaming returned→AV
open Go.Obj renaming cells→AQ
open Go.Operand renaming tmp→AY
open Go.RowKit Go.Shelf
attribute [local go_sem] Oper.semAt_some
def SG:CS:=⟨0,0,0,0,0,1,zeros 32⟩
theorem ACE:prog.built 36 [(5,AB AE 1)]=some (rdA SG):=by kernel_rfl
theorem av (k:Int):prog.built 34 [(0,AB .u8 k)]=some (yA (I4 k)):=by kernel_rfl
theorem AEj (g:Nat):prog.built 39 [(2,AO (yA (I4 9))),(3,AA (some ⟨g,0,none⟩) 4 4)]=some (Qc 0 0 (I4 9) (AA (some ⟨g,0,none⟩) 4 4)):=by kernel_rfl
theorem AGE (g:Nat):(Qc 0 0 (I4 9) (AA (some ⟨g,0,none⟩) 4 4)).all (·.oneCell')=true:=by kernel_rfl
theorem AFa {val:Int->Int->Int->Bool} {RO:AP} (h1:val 0 0 5=true) (h2:val 0 1 3=true):FV 0 (Bt [2] ({SG with root:=RO}:CS).schema) (val ({SG with root:=RO}:CS).schema) {SG with root:=RO} 0 G4 0 [5,3]=true:=by
 have e:D4 2 (val 0) [5,3]=true:=by show (true && (val 0 0 5 && (val 0 1 3 && true)))=true;rw [h1,h2];rfl
 show (_ && D4 2 (val 0) [5,3])=true;rw [e];rfl
theorem AJF {val:Int->Int->Int->Bool} {RO:AP}:¬FV 0 (Bt [2] ({SG with root:=RO}:CS).schema) (val ({SG with root:=RO}:CS).schema) {SG with root:=RO} 1 G4 0 [5,3]=true:=fun h=>by simp only [FV,BZ,Bw] at h;exact absurd h.1.1.1.2 BE
theorem Ag.AI3 {α:Type} {sz:Nat} {R:AH->List Value->α->Prop} (hC:TR R) {w:AH} {v:Value} {l:List α} (h:Ag sz R w v l):Ag sz R (veil [] w) v l:=
 h.Se hC (by rw [Dz];exact Ad _) (fun a v hv=>by rw [Lz (J6 Ac)];exact hv)
theorem i7 {RO:AP}:J9 0 (Bt [2] (Ij Aq (I4 7) 2 ({SG with root:=RO}:CS) 0 (I4 9) G4 [5,3]).schema) (Ij Aq (I4 7) 2 ({SG with root:=RO}:CS) 0 (I4 9) G4 [5,3]) [1] 2=0:=by
 have e:(Ij Aq (I4 7) 2 ({SG with root:=RO}:CS) 0 (I4 9) G4 [5,3]).claims.length=7:=by rw [Ij,U1,CX,QU] <;> rfl
 have ho:LB (some 2) (Ij Aq (I4 7) 2 ({SG with root:=RO}:CS) 0 (I4 9) G4 [5,3]) [1] 2=true:=by simp only [LB,BZ,Bw];exact ⟨⟨⟨rfl,rfl⟩,e⟩,⟨rfl,by decide⟩,by decide⟩
 show (if (0:Int)≠0 then (160:Int) else if LB (some 2) _ [1] 2=true then 0 else 190)=0;rw [Ah Ac,Am ho]
theorem ACG:prog.built 48 []=some (Hf ⟨Gd.Au,Gd.round,Gd.schema,Gd.place,Gd.holder,AA none 0 0,AA none 0 0,AA none 0 0⟩):=by kernel_rfl
def shM:Fw:=⟨0,0,0,0,zeros 32,[],[], -1,zeros 32,[]⟩
def cX:CS:=⟨0,0,0,0,0,0,zeros 32⟩
theorem ACD:prog.built 36 []=some (rdA cX):=by kernel_rfl
theorem ACC:prog.built 44 [(7,AB AE (-1))]=some (Et ⟨0,0,0,0,zeros 32,AA none 0 0,AA none 0 0, -1,zeros 32,AA none 0 0,AA none 0 0,AA none 0 0,0,0⟩):=by kernel_rfl
theorem ACs {val:Int->Int->Int->Bool} {r1:CS} (hr:r1={SG with root:=LY Aq (I4 7) 7}) (h1:val 0 0 5=true) (h2:val 0 1 3=true):F0 Aq 0 (Bt [2] r1.schema) (val r1.schema) r1 (Ij Aq (I4 7) 2 r1 0 (I4 9) G4 [5,3])=0:=by have h:=AFa (RO:=LY Aq (I4 7) 7) h1 h2;rw [<-hr] at h;exact AGO (n:=2) (by rw [hr];rfl) h r1 (by rw [hr];rfl)
theorem ACt {val:Int->Int->Int->Bool}:DC Aq 0 (Bt [2] cX.schema) (val cX.schema) cX shM=190:=WG (fun h=>by have:Jw (Bt [2] cX.schema) (val cX.schema) cX shM=false:=rfl;rw [this] at h;cases h)
theorem vr {val:Int->Int->Bool} {r1:CS} {s0:Fw} (hf:s0.fields=[1]) (hv:s0.values.length=1) (hc:s0.claims.length=3) (hz:DC Aq 0 (some 2) val r1 s0=0):DC Aq 0 (some 2) val r1 {s0 with fields:=[0]}=190:=by
 obtain ⟨_,_,h⟩:=Um hz;have hc0:s0.claims[0]? =some (s0.claims[0]' AG):=BJ _;have hm:=Va (H:=Aq) (n:=2) (s:=s0) (by rw [hf,hv];rfl) (j:=0) (f:=1) (by rw [hf];rfl);have hi:=(h 0 _ _ hm hc0).1;unfold DC;rw [Ah Ac];by_cases ho:Jw (some 2) val r1 {s0 with fields:=[0]}=true
 ·rw [Am ho]
  have hm':=Va (H:=Aq) (n:=2) (s:={s0 with fields:=[0]}) hv (j:=0) (f:=0) rfl;refine jM hm' hc0 ?_;rw [hi];show ¬s0.place*((2:Nat)+4+1:Int)+1=s0.place*((2:Nat)+4+1:Int)+0;omega
 · rw [Ah ho]
theorem P9 {g1 g3 g4:Nat} {W:AH} (h:Vz g1 g3 g4 W):Ag 6 LG W (AA (some ⟨g3,0,none⟩) 1 1) [2]:=by
 obtain ⟨g2,_,_,h3,_⟩:=h;refine Pt (l:=[2]) h3 ⟨rfl,fun i x hi=> ?_⟩ BE;rcases i with _ | i
 ·simp only [An,Bq] at hi
  subst hi;exact ⟨_,_,_,_,_,_,_,rfl,by decide,fun u hu=>by simp only [CO,D7,D5] at hu;rcases hu with rfl | rfl | rfl | rfl | rfl <;> rfl⟩
 · simp at hi
theorem vu (Pr AGn:Int->Int->Int->Bool) (w:AH) (hT:Cc w) (hv1:Pr 0 0 5=true) (hv2:Pr 0 1 3=true)
 (hK:∀g1 g3 g4 W,AJ w W->Vz g1 g3 g4 W->Qm (AO #[AA (some ⟨g1,0,none⟩) 1 1,AA none 0 0,AA (some ⟨g3,0,none⟩) 1 1,AA none 0 0,AA none 0 0,AA none 0 0]) (AO #[AA (some ⟨g1,0,none⟩) 1 1,AA none 0 0,AA (some ⟨g3,0,none⟩) 1 1,AA none 0 0,AA none 0 0,AA none 0 0,AA (some ⟨g4,0,none⟩) 1 1]) 0 Pr W)
 (hZ:∀W,AJ w W->Qm (AO #[AA none 0 0,AA none 0 0,AA none 0 0,AA none 0 0,AA none 0 0,AA none 0 0]) (AO #[AA none 0 0,AA none 0 0,AA none 0 0,AA none 0 0,AA none 0 0,AA none 0 0,AA none 0 0]) 0 AGn W):
 AS prog 4 #[] w fun e w'=>e=AV (.bool true)/\AJ w w':=by
 obtain ⟨HT,HV,HK,HZ⟩:=CJ hT (And.intro hv1 hv2) hK hZ;clear hT hv1 hv2 hK hZ;go_enter func4,ntmps4;go_upto_region 2 with (go_at_call 14;refine (nP _).mono ?_;rintro e w1 ⟨g1,g3,g4,rfl,ht,hb⟩;have HT1:=AF ht;have HB1:=AF hb;clear ht hb;simp only [vq]);obtain ⟨k2,b2,s2⟩:=bx w1 #[AA (some ⟨g1,0,none⟩) 1 1,AA none 0 0,AA (some ⟨g3,0,none⟩) 1 1,AA none 0 0,AA none 0 0,AA none 0 0,AA (some ⟨g4,0,none⟩) 1 1] 32;generalize (w1.alloc (AQ #[AA (some ⟨g1,0,none⟩) 1 1,AA none 0 0,AA (some ⟨g3,0,none⟩) 1 1,AA none 0 0,AA none 0 0,AA none 0 0,AA (some ⟨g4,0,none⟩) 1 1] 32))=w2 at k2 b2 s2 ⊢;obtain ⟨gt,hgt⟩:=Ab w1.heap.size;rw [<-hgt] at k2 s2 ⊢;have HW2:AI (AJ w w2):=AF (AW HB1.o b2);obtain ⟨Hk,KT⟩:=Aj (HT1.o.below b2) k2;have LS:AI (w2.heap.size=gt+1):=AF s2;clear k2 b2 s2 hgt
 -- the tables,in every later world
 have HD:AI (∀W,(AZ W gt 32 #[AA (some ⟨g1,0,none⟩) 1 1,AA none 0 0,AA (some ⟨g3,0,none⟩) 1 1,AA none 0 0,AA none 0 0,AA none 0 0,AA (some ⟨g4,0,none⟩) 1 1])->W.cell? ⟨gt,0,none⟩=some (AA (some ⟨g1,0,none⟩) 1 1)/\W.cell? ⟨gt,1,none⟩=some (AA none 0 0)/\W.cell? ⟨gt,2,none⟩=some (AA (some ⟨g3,0,none⟩) 1 1)/\W.cell? ⟨gt,3,none⟩=some (AA none 0 0)/\W.cell? ⟨gt,4,none⟩=some (AA none 0 0)/\W.cell? ⟨gt,5,none⟩=some (AA none 0 0)/\W.cell? ⟨gt,6,none⟩=some (AA (some ⟨g4,0,none⟩) 1 1)):=AF (fun W b=>⟨b.cell 0,b.cell 1,b.cell 2,b.cell 3,b.cell 4,b.cell 5,b.cell 6⟩);obtain ⟨d0,d1,d2,d3,d4,d5,d6⟩:=HD.o w2 KT.o;have dx:AI (∀W,AJ w2 W->AS prog 8 #[AO #[AA (some ⟨g1,0,none⟩) 1 1,AA none 0 0,AA (some ⟨g3,0,none⟩) 1 1,AA none 0 0,AA none 0 0,AA none 0 0,AA (some ⟨g4,0,none⟩) 1 1],AB AE 0] W fun e w'=>e=AV (.tuple #[AB AE 7,AB AE 0])/\AJ W w'):=AF (fun W hW=>
  YD _ _ _ _ _ _ _ _ _ [2] 0 0 Pr W (P9 (Hk.o.below hW)) (HK.o g1 g3 g4 W (AW HW2.o hW) (Hk.o.below hW)))
 have HWZ:AI (∀W,AJ w2 W->AS prog 8 #[AO #[AA none 0 0,AA none 0 0,AA none 0 0,AA none 0 0,AA none 0 0,AA none 0 0,AA none 0 0],AB AE 0] W fun e w'=>e=AV (.tuple #[AB AE 0,AB AE 1])/\AJ W w'):=AF (fun W hW=>
  YD _ _ _ _ _ _ _ _ _ [] 0 0 AGn W (Ag.nil _ _ (Ar _)) (HZ.o W (AW HW2.o hW)))
 go_upto_region 4 with (first
  | (go_at_call 8;refine (dx.o _ (Af _ _)).mono ?_;rintro e w3 ⟨rfl,hb⟩;have HB3:=AF hb;clear hb dx)
  | (go_at_call 8;refine (HWZ.o _ HB3.o).mono ?_;rintro e w4 ⟨rfl,hb⟩;have HB4:=AF (AW HB3.o hb);clear hb)
  | fail)
 clear d0 d1 d2 d3 d4 d5 d6;obtain ⟨RR,hRR⟩:=Ab (rdA SG);obtain ⟨SD,hSD⟩:=Ab (yA (I4 7));obtain ⟨RO,WO⟩:=Ab (LY Aq (I4 7) 7);have DF:AI (prog.built 36 [(5,AB AE 1)]=some RR):=AF (by rw [hRR];exact ACE);have RE:AI (prog.built 34 [(0,AB .u8 7)]=some SD):=AF (by rw [hSD];exact av 7);have HRN:AI (RR.size=38):=AF (by rw [hRR];rfl);have AKi:AI (RR.all (·.oneCell')=true):=AF (by rw [hRR];kernel_rfl);have N4:AI (RO.length=32):=AF fQ;have eE:AI (∀W,AJ w W->AS prog 9 #[.agg SD,AB AE 7] W (V3 RO 0 W)):=AF (fun W hW=>by rw [hSD,WO];exact Z9 (I4 7) 7 W rfl BE BE (HT.o.below hW));obtain ⟨HRR,Lr,HRO⟩:=Az hRR hSD WO;clear hRR hSD WO;go_upto_region 5 with (first
  | (refine wpList_buildTo rfl 36 #[(5,.const (AB AE 1))] rfl (some 30) rfl RR (Fg (congrArg (prog.built 36) AL) DF.o) ?_)
  | (refine Fy 36 6 30 38 RR HRN.o AKi.o rfl ?_)
  | fail)
 obtain ⟨k5,b5,s5⟩:=bx w4 RR 36;generalize (w4.alloc (AQ RR 36))=w5 at k5 b5 s5 ⊢;obtain ⟨gr,hgr⟩:=Ab w4.heap.size;rw [<-hgr] at k5 s5 ⊢;obtain ⟨CW,Nl⟩:=Aj (AW HB4.o b5) k5;have Ga:AI (gt < gr):=AF (by have:=HB4.o.size;have:=LS.o;omega);clear k5 b5 s5 hgr;go_upto_region 6 with (first
  | (refine wpList_buildTo rfl 34 #[(0,.const (AB .u8 7))] rfl (some 32) rfl SD (Fg (congrArg (prog.built 34) AL) RE.o) ?_)
  | (go_at_call 9;refine (eE.o _ (AW HW2.o CW.o)).mono ?_;rintro e w6 ⟨rfl,hb⟩;have FK:=AF (AW CW.o hb);have dq:=AF (Nl.o.below hb Nl.o.lt);clear hb)
  | (refine Fy 34 7 34 32 (yA RO) fF (GH RO) rfl ?_)
  | fail)
 obtain ⟨k7,b7,s7⟩:=bx w6 (yA RO) 34;generalize (w6.alloc (AQ (yA RO) 34))=w7 at k7 b7 s7 ⊢;obtain ⟨gd,hgd⟩:=Ab w6.heap.size;rw [<-hgd] at k7 s7 ⊢;obtain ⟨ET,KR7,KD7⟩:=Az (AW FK.o b7) (dq.o.below b7 dq.o.lt) k7;have HGD:AI (gr < gd):=AF (by have:=dq.o.lt;omega);have OZ:AI (w7.there gr 6 (yA RO).size):=AF (MV KR7.o (by rw [HRN.o,Bb,N4.o];decide));have U8:AI ((prog.info? 34).map (·.size)=some (yA RO).size):=AF bd;clear k7 b7 s7 hgd;go_upto_region 7 with (first
  | (refine Cm rfl 34 (AY 7) rfl gd AL 34 (yA RO) (0,0) _ KD7.o underlying34 rfl U8.o ?_)
  | (refine N9 rfl 34 (AY 37) (AY 36) rfl gr 6 (yA RO) rfl rfl OZ.o U8.o (GH RO) ?_)
  | fail)
 obtain ⟨R1,hR1⟩:∃R,R=rdA {SG with root:=RO}:=⟨_,rfl⟩;have hr8:AZ (w7.setCells gr 6 (yA RO).toList) gr 36 R1:=by have h:=KR7.o;rw [HRR.o] at h;rw [hR1];exact n8 h rfl N4.o
 have hn8:∀b,b < w7.heap.size->b≠gr->(w7.setCells gr 6 (yA RO).toList).heap[b]? =w7.heap[b]? :=fun b hb hne=>(JT (yA RO).toList 6 w7 (DN w7 (some gr))).block b hb (fun e=>by injection e with e;exact hne e);have hb8:AJ w2 (w7.setCells gr 6 (yA RO).toList):=below_setCells _ _ _ _ ET.o (by have:=LS.o;have:=Ga.o;omega);generalize w7.setCells gr 6 (yA RO).toList=w8 at hr8 hn8 hb8 ⊢;obtain ⟨Je,KR8⟩:=Aj hb8 hr8;have KT8:AI (AZ w8 gt 32 #[AA (some ⟨g1,0,none⟩) 1 1,AA none 0 0,AA (some ⟨g3,0,none⟩) 1 1,AA none 0 0,AA none 0 0,AA none 0 0,AA (some ⟨g4,0,none⟩) 1 1]):=AF (KT.o.below hb8 KT.o.lt);have AKl:AI (R1.size=38):=AF (by rw [hR1,rdA,UU,Bb];show 6+RO.length=38;rw [N4.o]);have HR1:=AF hR1;clear hr8 hn8 hb8 hR1 KR7 OZ;obtain ⟨D9,hD9⟩:=Ab (yA (I4 9));have LL:AI (prog.built 34 [(0,AB .u8 9)]=some D9):=AF (by rw [hD9];exact av 9);have HD9:=AF hD9;clear hD9;go_upto_region 8 with (first
  | (refine wpList_buildTo rfl 34 #[(0,.const (AB .u8 9))] rfl (some 38) rfl D9 (Fg (congrArg (prog.built 34) AL) LL.o) ?_)
  | (
   go_at_call 15;refine (rn _).mono ?_;rintro e w9 ⟨gl,rfl,hl,hb⟩;obtain ⟨OO,PS⟩:=Ab (Qc 0 0 (I4 9) (AA (some ⟨gl,0,none⟩) 4 4));have HBO:AI (prog.built 39 [(2,.agg D9),(3,AA (some ⟨gl,0,none⟩) 4 4)]=some OO):=AF (by rw [PS,HD9.o];exact AEj gl);have jq:AI (OO.size=35):=AF (by rw [PS];rfl);have Hl:AI (OO.all (·.oneCell')=true):=AF (by rw [PS];exact AGE gl);obtain ⟨HOO,HL9,AIy⟩:=Az PS hl hb;clear PS hl hb)
  | (refine wpList_buildTo rfl 39 #[(2,.tmp 38),(3,.tmp 39)] rfl (some 40) rfl OO (Fg (congrArg (prog.built 39) AL) HBO.o) ?_)
  | (refine Fy 39 9 40 35 OO jq.o Hl.o rfl ?_)
  | fail)
 obtain ⟨k10,b10,s10⟩:=bx w9 OO 39;generalize (w9.alloc (AQ OO 39))=w10 at k10 b10 s10 ⊢;obtain ⟨go_,hgo⟩:=Ab w9.heap.size;rw [<-hgo] at k10 s10 ⊢;have dU:AJ w8 w10:=AW AIy.o b10;obtain ⟨ALa,MD,AIi,AEr,AEq,qH⟩:=FR dU (AW Je.o dU) (HL9.o.mono BL b10) k10 (KR8.o.below dU KR8.o.lt) (KT8.o.below dU KT8.o.lt);clear k10 b10 s10 hgo dU HL9 AIy;obtain ⟨r1,hr1⟩:∃r:CS,r={SG with root:=RO}:=⟨_,rfl⟩;obtain ⟨q0,hq0⟩:=Ab (Ij Aq (I4 7) 2 r1 0 (I4 9) G4 [5,3]:Ge);have ML:AI (∀g W,AJ w10 W->AZ W g 3 #[AB AE 5,AB AE 3]->AS prog 7 #[AO #[AA (some ⟨g1,0,none⟩) 1 1,AA none 0 0,AA (some ⟨g3,0,none⟩) 1 1,AA none 0 0,AA none 0 0,AA none 0 0,AA (some ⟨g4,0,none⟩) 1 1],.agg SD,.agg R1,AB AE 0,.agg OO,AO #[AB AE 0,AB AE 0,AB AE 0,AA (some ⟨g,0,none⟩) 2 2]] W (IK W q0 0)):=AF (fun g W hW hg=>by have h2:AJ w2 W:=AW MD.o hW;have h:=aJ _ _ _ _ _ _ _ 1 1 [2] 0 Pr (I4 7) r1 0 0 0 0 0 0 (I4 9) G4 [5,3] _ _ 2 2 4 4 W (P9 (Hk.o.below h2)) (HK.o g1 g3 g4 W (AW HW2.o h2) (Hk.o.below h2)) (MY (l:=[5,3]) hg BE BE) (AIi.o.mono BL hW) rfl rfl (by rw [hr1];exact N4.o) (HT.o.below (AW HW2.o h2));rw [hr1,Am (AFa HV.o.1 HV.o.2),<-hr1,show Bt [2] r1.schema=some 2 from by rw [hr1];rfl] at h;rw [Lr.o,HR1.o,HOO.o,hq0,<-hr1];exact h)
 have LK:AI (∀g W,AJ w10 W->AZ W g 3 #[AB AE 5,AB AE 3]->AS prog 7 #[AO #[AA (some ⟨g1,0,none⟩) 1 1,AA none 0 0,AA (some ⟨g3,0,none⟩) 1 1,AA none 0 0,AA none 0 0,AA none 0 0,AA (some ⟨g4,0,none⟩) 1 1],.agg SD,.agg R1,AB AE 1,.agg OO,AO #[AB AE 0,AB AE 0,AB AE 0,AA (some ⟨g,0,none⟩) 2 2]] W (IK W Gd 190)):=AF (fun g W hW hg=>by have h2:AJ w2 W:=AW MD.o hW;have h:=aJ _ _ _ _ _ _ _ 1 1 [2] 0 Pr (I4 7) r1 1 0 0 0 0 0 (I4 9) G4 [5,3] _ _ 2 2 4 4 W (P9 (Hk.o.below h2)) (HK.o g1 g3 g4 W (AW HW2.o h2) (Hk.o.below h2)) (MY (l:=[5,3]) hg BE BE) (AIi.o.mono BL hW) rfl rfl (by rw [hr1];exact N4.o) (HT.o.below (AW HW2.o h2));rw [hr1,Ah AJF,<-hr1] at h;rw [Lr.o,HR1.o,HOO.o,<-hr1];exact h)
 obtain ⟨T0,PW⟩:=Aj hr1 hq0;clear hr1 hq0;have YJ:AI ((prog.info? 39).map (·.size)=some OO.size):=AF (by rw [jq.o];kernel_rfl);have PI:AI ((prog.info? 36).map (·.size)=some R1.size):=AF (by rw [AKl.o];kernel_rfl);have Sl:AI (q0.holder.length=32):=AF (by rw [PW.o];rfl);obtain ⟨d0,d1,d2,d3,d4,d5,d6⟩:=HD.o w10 qH.o;go_upto_region 9 with (first
  | (refine wpList_buildTo rfl 34 #[(0,.const (AB .u8 7))] rfl (some 43) rfl SD (Fg (congrArg (prog.built 34) AL) RE.o) ?_)
  | (refine Cm rfl 36 (AY 6) rfl gr AL 36 R1 (0,0) _ AEq.o underlying36 rfl PI.o ?_)
  | (refine Cm rfl 39 (AY 9) rfl go_ AL 39 OO (0,0) _ AEr.o underlying39 rfl YJ.o ?_)
  | (
   go_at_call 7;refine (ML.o _ _ (BP _ _) (AZ.new _ _ _)).mono ?_;rintro e w12 ⟨VA,vn,vc,LA,ln,lc,KA,kn,kc,rfl,s1,s2,s3,hb⟩;obtain ⟨CC,hCC⟩:=Ab (Hf ⟨q0.Au,q0.round,q0.schema,q0.place,q0.holder,AA VA vn vc,AA LA ln lc,AA KA kn kc⟩);rw [<-hCC];have HCN:AI (CC.size=39):=AF (by rw [hCC];exact N2 Sl.o);have HCO:AI (CC.all (·.oneCell')=true):=AF (by rw [hCC];exact U0 rfl rfl rfl);obtain ⟨Ki,HS2,Gr,q9,ES⟩:=EG (s1.WC Vh) (s2.WC Vv) (s3.WC jI) (((Af w10.heap.size w10).alloc (Ad _) (AQ #[AB AE 5,AB AE 3] 3)).trans (hb.mono Ac)) hCC;clear s1 s2 s3 hb hCC)
  | (refine Fy 48 10 49 39 CC HCN.o HCO.o rfl ?_)
  | fail)
 clear d0 d1 d2 d3 d4 d5 d6;obtain ⟨k13,b13,s13⟩:=bx w12 CC 48;generalize (w12.alloc (AQ CC 48))=Fs at k13 b13 s13 ⊢;obtain ⟨gc,hgc⟩:=Ab w12.heap.size;rw [<-hgc] at k13 s13 ⊢;have Sb:AJ w10 Fs:=AW q9.o b13;obtain ⟨q8,qR,iX,AFH,AEu,AKV⟩:=FR Sb (Ki.o.mono BU b13) (HS2.o.mono BL b13) (Gr.o.mono CD b13) k13 (qH.o.below Sb qH.o.lt);have Sp:AI ((prog.info? 48).map (·.size)=some CC.size):=AF (by rw [HCN.o];kernel_rfl);clear k13 b13 s13 hgc Sb Ki HS2 Gr q9;obtain ⟨s0,hs0⟩:=Ab (Ok 2 q0 [1] 2:Fw);have HO0:AI (∀g W,AJ Fs W->AZ W g 3 #[AB AE 1]->AS prog 16 #[AO #[AA (some ⟨g1,0,none⟩) 1 1,AA none 0 0,AA (some ⟨g3,0,none⟩) 1 1,AA none 0 0,AA none 0 0,AA none 0 0,AA (some ⟨g4,0,none⟩) 1 1],.agg CC,AA (some ⟨g,0,none⟩) 1 1,AB AE 2] W (V1 [] W s0 0)):=AF (fun g W hW hg=>by
  have h2:AJ w2 W:=AW MD.o (AW q8.o hW);have h:=open_any _ _ _ _ _ _ _ 1 1 [2] 0 Pr q0 VA LA KA _ vn vc ln lc kn kc 1 1 [1] 2 [] W (P9 (Hk.o.below h2)) (HK.o g1 g3 g4 W (AW HW2.o h2) (Hk.o.below h2)) (qR.o.mono BU hW) (iX.o.mono BL hW) ((AFH.o.mono CD hW).AI3 L8) (MY (l:=[1]) hg BE BE) Sl.o BE (fun _ h=>by cases h);have e:J9 0 (Bt [2] q0.schema) q0 [1] 2=0:=by rw [PW.o,T0.o];exact i7
  rw [Am e,show Bt [2] q0.schema=some 2 from by rw [PW.o,T0.o];rfl,<-ES.o] at h;rw [hs0];exact h)
 have TV:=AF hs0;have Ff:AI (s0.holder.length=32/\s0.token.length=32):=AF (by rw [hs0];exact ⟨Sl.o,by rw [PW.o];rfl⟩);clear hs0;obtain ⟨d0,d1,d2,d3,d4,d5,d6⟩:=HD.o Fs AKV.o;go_upto_region 10 with (first
  | (refine Cm rfl 48 (AY 10) rfl gc AL 48 CC (0,0) _ AEu.o underlying48 rfl Sp.o ?_)
  | (
   go_at_call 16;refine (HO0.o _ _ (BP _ _) (AZ.new _ _ _)).mono ?_;rintro e NW ⟨FA,fn,fc,UA,un,uc,XA,xn,xc,rfl,s1,s2,s3,hb⟩;obtain ⟨SS,hSS⟩:=Ab (Et ⟨s0.Au,s0.round,s0.schema,s0.place,s0.holder,AA FA fn fc,AA UA un uc,s0.link,s0.token,AA XA xn xc,undef,undef,0,0⟩);rw [<-hSS];have Sj:AI (SS.size=72):=AF (by rw [hSS];exact Iw Ff.o.1 Ff.o.2);have jk:AI (SS.all (·.oneCell')=true):=AF (by rw [hSS];exact Uj rfl rfl rfl);obtain ⟨Ki,HS2,Gr,ia,Q8⟩:=EG (s1.WC Vh) (s2.WC Vh) (s3.WC jI) (((Af Fs.heap.size Fs).alloc (Ad _) (AQ #[AB AE 1] 3)).trans (hb.mono Ac)) hSS;clear s1 s2 s3 hb hSS)
  | (refine Fy 44 12 56 72 SS Sj.o jk.o rfl ?_)
  | fail)
 clear d0 d1 d2 d3 d4 d5 d6;obtain ⟨k15,b15,s15⟩:=bx NW SS 44;generalize (NW.alloc (AQ SS 44))=CU at k15 b15 s15 ⊢;obtain ⟨gs,hgs⟩:=Ab NW.heap.size;rw [<-hgs] at k15 s15 ⊢;have Vq:AJ Fs CU:=AW ia.o b15;have hbx:AJ w10 CU:=AW q8.o Vq;obtain ⟨V7,Ob,ALG,yX,AEx,iK,yV,qG,AEn,AKX⟩:=bw Vq hbx (Ki.o.mono BU b15) (HS2.o.mono BU b15) (Gr.o.mono CD b15) k15 (AEu.o.below Vq AEu.o.lt) (qH.o.below hbx qH.o.lt) (AEq.o.below hbx AEq.o.lt) (AEr.o.below hbx AEr.o.lt);have CV:AI ((prog.info? 44).map (·.size)=some SS.size):=AF (by rw [Sj.o];kernel_rfl);clear k15 b15 s15 hgs Vq hbx Ki HS2 Gr ia;obtain ⟨d0,d1,d2,d3,d4,d5,d6⟩:=HD.o CU qG.o;go_upto_region 11 with (first
  | (refine wpList_buildTo rfl 34 #[(0,.const (AB .u8 7))] rfl (some 60) rfl SD (Fg (congrArg (prog.built 34) AL) RE.o) ?_)
  | (refine Cm rfl 36 (AY 6) rfl gr AL 36 R1 (0,0) _ AEn.o underlying36 rfl PI.o ?_)
  | (refine Cm rfl 39 (AY 9) rfl go_ AL 39 OO (0,0) _ AKX.o underlying39 rfl YJ.o ?_)
  | (
   go_at_call 7;refine (LK.o _ _ (AW Ob.o ((Af CU.heap.size CU).alloc (Ad _) _)) (AZ.new _ _ _)).mono ?_;rintro e w16 ⟨YA,yn,yc,YB,zn,zc,YC,xn',xc',rfl,_,_,_,hb⟩;obtain ⟨C2,hC2⟩:=Ab (Hf ⟨Gd.Au,Gd.round,Gd.schema,Gd.place,Gd.holder,AA YA yn yc,AA YB zn zc,AA YC xn' xc'⟩);rw [<-hC2];have yw:AI (C2.size=39):=AF (by rw [hC2];exact N2 rfl);have yv:AI (C2.all (·.oneCell')=true):=AF sY;have AI1:=AF (((Af CU.heap.size CU).alloc (Ad _) (AQ #[AB AE 5,AB AE 3] 3)).trans (hb.mono Ac));clear hb hC2)
  | (refine Fy 48 14 66 39 C2 yw.o yv.o rfl ?_)
  | fail)
 obtain ⟨_,b17,_⟩:=bx w16 C2 48;generalize (w16.alloc (AQ C2 48))=nI at b17 ⊢;have gg:AJ CU nI:=AW AI1.o b17;obtain ⟨q7,AKT⟩:=Aj gg (qG.o.below gg qG.o.lt);obtain ⟨ZC,hZC⟩:=Ab (Hf ⟨Gd.Au,Gd.round,Gd.schema,Gd.place,Gd.holder,AA none 0 0,AA none 0 0,AA none 0 0⟩);have Ji:AI (prog.built 48 []=some ZC):=AF (by rw [hZC];exact ACG);have Hl:AI (∀W,AJ nI W->AS prog 16 #[AO #[AA (some ⟨g1,0,none⟩) 1 1,AA none 0 0,AA (some ⟨g3,0,none⟩) 1 1,AA none 0 0,AA none 0 0,AA none 0 0,AA (some ⟨g4,0,none⟩) 1 1],.agg ZC,AA none 0 0,AB AE (-1)] W (V1 [] W NZ 190)):=AF (fun W hW=>by have h2:AJ w2 W:=AW MD.o (AW Ob.o (AW q7.o hW));have h:=open_any _ _ _ _ _ _ _ 1 1 [2] 0 Pr Gd none none none none 0 0 0 0 0 0 0 0 [] (-1) [] W (P9 (Hk.o.below h2)) (HK.o g1 g3 g4 W (AW HW2.o h2) (Hk.o.below h2)) (Ag.nil _ _ (Ar _)) (Ag.nil _ _ (Ar _)) (Ag.nil _ _ (Ar _)) (Ag.nil _ _ (Ar _)) rfl BE (fun _ h=>by cases h);rw [Ah BE,<-hZC] at h;exact h)
 clear b17 gg hZC AI1 d0 d1 d2 d3 d4 d5 d6;obtain ⟨d0,d1,d2,d3,d4,d5,d6⟩:=HD.o nI AKT.o;go_upto_region 12 with (first
  | (refine wpList_buildTo rfl 48 #[] rfl (some 70) rfl ZC (Fg (congrArg (prog.built 48) AL) Ji.o) ?_)
  | (
   go_at_call 16;refine (Hl.o _ (Af _ _)).mono ?_;rintro e MP ⟨YA,yn,yc,YB,zn,zc,YC,xn',xc',rfl,_,_,_,hb⟩;obtain ⟨S2,hS2⟩:=Ab (Et ⟨NZ.Au,NZ.round,NZ.schema,NZ.place,NZ.holder,AA YA yn yc,AA YB zn zc,NZ.link,NZ.token,AA YC xn' xc',undef,undef,0,0⟩);rw [<-hS2];have AKe:AI (S2.size=72):=AF (by rw [hS2];exact Iw rfl rfl);have AKd:AI (S2.all (·.oneCell')=true):=AF (by rw [hS2];exact Uj rfl rfl rfl);have YT:=AF hb;clear hb hS2)
  | (refine Fy 44 16 72 72 S2 AKe.o AKd.o rfl ?_)
  | fail)
 obtain ⟨_,b19,_⟩:=bx MP S2 44;generalize (MP.alloc (AQ S2 44))=w19 at b19 ⊢;have AFO:=AF (AW q7.o (AW YT.o b19));clear b19 YT d0 d1 d2 d3 d4 d5 d6;have YR:AI (∀W,AJ CU W->AJ w2 W):=AF (fun W hW=>AW MD.o (AW Ob.o hW));have Mr:AI (∀W,AJ CU W->AS prog 17 #[AO #[AA (some ⟨g1,0,none⟩) 1 1,AA none 0 0,AA (some ⟨g3,0,none⟩) 1 1,AA none 0 0,AA none 0 0,AA none 0 0,AA (some ⟨g4,0,none⟩) 1 1]] W fun e w'=>e=AV (AB AE 0)/\AJ W w'):=AF (fun W hW=>by have h2:=YR.o W hW;exact (HK.o g1 g3 g4 W (AW HW2.o h2) (Hk.o.below h2)).chk W (Af _ _))
 have O5:F0 Aq 0 (Bt [2] r1.schema) (Pr r1.schema) r1 q0=0:=by rw [PW.o];exact ACs (by rw [T0.o,HRO.o]) HV.o.1 HV.o.2
 have Qs:AI (∀W,AJ CU W->AS prog 18 #[AO #[AA (some ⟨g1,0,none⟩) 1 1,AA none 0 0,AA (some ⟨g3,0,none⟩) 1 1,AA none 0 0,AA none 0 0,AA none 0 0,AA (some ⟨g4,0,none⟩) 1 1],.agg R1,.agg CC] W fun e w'=>e=AV (AB AE 0)/\AJ W w'):=AF (fun W hW=>by have h2:=YR.o W hW;have hd:=AW V7.o hW;have h:=ACS _ _ _ _ _ _ _ 1 1 [2] 0 Pr r1 q0 VA LA KA vn vc ln lc kn kc W (P9 (Hk.o.below h2)) (HK.o g1 g3 g4 W (AW HW2.o h2) (Hk.o.below h2)) (qR.o.mono BU hd) (iX.o.mono BL hd) (AFH.o.mono CD hd) Sl.o fN (HT.o.below (AW HW2.o h2));rw [O5,<-ES.o] at h;rw [HR1.o,<-T0.o];exact h)
 have ADe:DC Aq 0 (Bt [2] r1.schema) (Pr r1.schema) r1 s0=0:=by
  have ho:J9 0 (Bt [2] q0.schema) q0 [1] 2=0:=by rw [PW.o,T0.o];exact i7
  have ho2:LB (Bt [2] r1.schema) q0 [1] 2=true:=by
   have e:Bt [2] q0.schema=Bt [2] r1.schema:=by rw [PW.o];rfl
   rw [e] at ho;unfold J9 at ho;rw [Ah Ac] at ho;by_cases hx:LB (Bt [2] r1.schema) q0 [1] 2=true
   · exact hx
   · rw [Ah hx] at ho;cases ho
  rw [TV.o];exact ACl (n:=2) (by rw [T0.o];rfl) O5 ho2
 have Sh:AI (∀(s:Fw) (A3 A4 A5:Option Addr) (n3 c3 n4 c4 n5 c5:Nat) (k:Int) (r:CS) (W:AH),AJ CU W->Ag 1 CF W (AA A3 n3 c3) s.fields->Ag 1 CF W (AA A4 n4 c4) s.values->Ag 3 Dc W (AA A5 n5 c5) s.claims->s.holder.length=32->s.token.length=32->EZ s.link->r.root.length=32->DC Aq 0 (Bt [2] r.schema) (Pr r.schema) r s=k->
  AS prog 10 #[AO #[AA (some ⟨g1,0,none⟩) 1 1,AA none 0 0,AA (some ⟨g3,0,none⟩) 1 1,AA none 0 0,AA none 0 0,AA none 0 0,AA (some ⟨g4,0,none⟩) 1 1],AO (rdA r),AO (Et ⟨s.Au,s.round,s.schema,s.place,s.holder,AA A3 n3 c3,AA A4 n4 c4,s.link,s.token,AA A5 n5 c5,AA none 0 0,AA none 0 0,0,0⟩)] W fun e w'=>e=AV (AB AE k)/\AJ W w'):=AF (fun s A3 A4 A5 n3 c3 n4 c4 n5 c5 k r W hW a b c d e f g hk=>by
  have h2:=YR.o W hW;have h:=dp _ _ _ _ _ _ _ 1 1 [2] 0 Pr r s A3 A4 A5 n3 c3 n4 c4 n5 c5 W (P9 (Hk.o.below h2)) (HK.o g1 g3 g4 W (AW HW2.o h2) (Hk.o.below h2)) a b c d e f g (HT.o.below (AW HW2.o h2));rw [hk] at h;exact h)
 have HV1:AI (∀W,AJ CU W->AS prog 10 #[AO #[AA (some ⟨g1,0,none⟩) 1 1,AA none 0 0,AA (some ⟨g3,0,none⟩) 1 1,AA none 0 0,AA none 0 0,AA none 0 0,AA (some ⟨g4,0,none⟩) 1 1],.agg R1,.agg SS] W fun e w'=>e=AV (AB AE 0)/\AJ W w'):=AF (fun W hW=>by have h:=Sh.o s0 FA UA XA fn fc un uc xn xc 0 r1 W hW (ALG.o.mono BU hW) (yX.o.mono BU hW) (AEx.o.mono CD hW) Ff.o.1 Ff.o.2 (by rw [TV.o];show EZ 2;unfold EZ;decide) fN ADe;rw [HR1.o,<-T0.o,Q8.o];exact h)
 obtain ⟨RZ,hRZ⟩:=Ab (rdA cX);obtain ⟨SM,hSM⟩:=Ab (Et ⟨0,0,0,0,zeros 32,AA none 0 0,AA none 0 0, -1,zeros 32,AA none 0 0,AA none 0 0,AA none 0 0,0,0⟩);have bD:AI (prog.built 36 []=some RZ):=AF (by rw [hRZ];exact ACD);have HBM:AI (prog.built 44 [(7,AB AE (-1))]=some SM):=AF (by rw [hSM];exact ACC);have Dw:AI (∀W,AJ CU W->AS prog 10 #[AO #[AA (some ⟨g1,0,none⟩) 1 1,AA none 0 0,AA (some ⟨g3,0,none⟩) 1 1,AA none 0 0,AA none 0 0,AA none 0 0,AA (some ⟨g4,0,none⟩) 1 1],.agg RZ,.agg SM] W fun e w'=>e=AV (AB AE 190)/\AJ W w'):=AF (fun W hW=>by have h:=Sh.o shM none none none 0 0 0 0 0 0 190 cX W hW (Ag.nil _ _ (Ar _)) (Ag.nil _ _ (Ar _)) (Ag.nil _ _ (Ar _)) rfl rfl (by show EZ (-1);unfold EZ;decide) rfl ACt;rw [hRZ,hSM];exact h)
 have Zr:AI (∀W,AJ CU W->AZ W gt 32 #[AA (some ⟨g1,0,none⟩) 1 1,AA none 0 0,AA (some ⟨g3,0,none⟩) 1 1,AA none 0 0,AA none 0 0,AA none 0 0,AA (some ⟨g4,0,none⟩) 1 1]/\(Instr.loadAt 36 (AU (some ⟨gr,0,none⟩))).run prog W=.ok (.agg R1) W/\(Instr.loadAt 48 (AU (some ⟨gc,0,none⟩))).run prog W=.ok (.agg CC) W/\(Instr.loadAt 44 (AU (some ⟨gs,0,none⟩))).run prog W=.ok (.agg SS) W):=AF (fun W hW=>
  ⟨qG.o.below hW qG.o.lt,loadRow (AEn.o.below hW AEn.o.lt) underlying36 rfl PI.o,loadRow (yV.o.below hW yV.o.lt) underlying48 rfl Sp.o,loadRow (iK.o.below hW iK.o.lt) underlying44 rfl CV.o⟩)
 have WX:=AF ADe;clear O5 ADe hRZ hSM;obtain ⟨d0,d1,d2,d3,d4,d5,d6⟩:=HD.o w19 (Zr.o w19 AFO.o).1;go_upto_region 14 with (first
  | (go_at_call 17;refine (Mr.o _ AFO.o).mono ?_;rintro e w20 ⟨rfl,hb⟩;have AFN:=AF (AW AFO.o hb);have bC:=AF (Zr.o w20 AFN.o);obtain ⟨d0,d1,d2,d3,d4,d5,d6⟩:=HD.o w20 bC.o.1;clear hb)
  | (refine Bd AL 48 (AY 10) rfl _ AL bC.o.2.2.1 ?_)
  | (go_at_call 18;refine (Qs.o _ AFN.o).mono ?_;rintro e w21 ⟨rfl,hb⟩;have AFM:=AF (AW AFN.o hb);have AE5:=AF (Zr.o w21 AFM.o);obtain ⟨d0,d1,d2,d3,d4,d5,d6⟩:=HD.o w21 AE5.o.1;clear hb bC)
  | (refine Bd AL 36 (AY 6) rfl _ AL bC.o.2.1 ?_)
  | (refine Bd AL 36 (AY 6) rfl _ AL AE5.o.2.1 ?_)
  | (refine Bd AL 44 (AY 12) rfl _ AL AE5.o.2.2.2 ?_)
  | (go_at_call 10;refine (HV1.o _ AFM.o).mono ?_;rintro e w22 ⟨rfl,hb⟩;have AFL:=AF (AW AFM.o hb);obtain ⟨d0,d1,d2,d3,d4,d5,d6⟩:=HD.o w22 (Zr.o w22 AFL.o).1;clear hb HV1)
  | (refine M2 AL 36 #[] rfl RZ (Fg (congrArg (prog.built 36) AL) bD.o) ?_)
  | (refine M2 AL 44 #[(7,.const (AB AE (-1)))] rfl SM (Fg (congrArg (prog.built 44) AL) HBM.o) ?_)
  | (go_at_call 10;refine (Dw.o _ AFL.o).mono ?_;rintro e w23 ⟨rfl,hb⟩;have AFK:=AF (AW AFL.o hb);clear hb)
  | fail)
 clear d0 d1 d2 d3 d4 d5 d6;have AKW:=AF (iK.o.below AFK.o iK.o.lt);go_upto_region 15 with (first
  | (refine Cm rfl 44 (AY 12) rfl gs AL 44 SS (0,0) _ AKW.o underlying44 rfl CV.o ?_)
  | (refine Fy 44 18 130 72 SS Sj.o jk.o rfl ?_)
  | fail)
 obtain ⟨k24,b24,s24⟩:=bx w23 SS 44;generalize (w23.alloc (AQ SS 44))=cL at k24 b24 s24 ⊢;obtain ⟨gw,hgw⟩:=Ab w23.heap.size;rw [<-hgw] at k24 s24 ⊢;have AFg:CU.heap.size<=gw:=by have:=AFK.o.size;omega
 have di:cL.cell? ⟨gw,36,none⟩=some (AA FA fn fc):=by have h:=k24;rw [Q8.o] at h;exact (IQ h Ff.o.1 Ff.o.2).fields
 have f36:=k24.frozen 36;have l24:=k24.lt;obtain ⟨AI0,um,AIq⟩:=Az (AW AFK.o b24) k24 AFg;clear k24 b24 hgw AFg s24;go_upto_region 16 with fail;have pD:=(um.o.put 36 (AA (some ⟨cL.heap.size,0,none⟩) 1 1)).alloc (AQ #[AB AE 0] 3);rw [Q8.o,ACg ⟨s0.Au,s0.round,s0.schema,s0.place,s0.holder,AA FA fn fc,AA UA un uc,s0.link,s0.token,AA XA xn xc,undef,undef,0,0⟩ Ff.o.1 Ff.o.2] at pD;have xF:AZ ((cL.setCell ⟨gw,36,none⟩ (AA (some ⟨cL.heap.size,0,none⟩) 1 1)).alloc (AQ #[AB AE 0] 3)) cL.heap.size 3 #[AB AE 0]:=U4 (Ra ..);have Qv:AJ CU ((cL.setCell ⟨gw,36,none⟩ (AA (some ⟨cL.heap.size,0,none⟩) 1 1)).alloc (AQ #[AB AE 0] 3)):=(AI0.o.setCell AIq.o _).alloc (AI0.o.setCell (p:=⟨gw,36,none⟩) AIq.o _).size _;obtain ⟨gz,hgz⟩:=Ab cL.heap.size;rw [<-hgz] at pD xF Qv ⊢;generalize ((cL.setCell ⟨gw,36,none⟩ (AA (some ⟨gz,0,none⟩) 1 1)).alloc (AQ #[AB AE 0] 3))=ZO at pD xF Qv ⊢;have ALS:=AF Qv;obtain ⟨SW,hSW⟩:=Ab (Et ⟨s0.Au,s0.round,s0.schema,s0.place,s0.holder,AA (some ⟨gz,0,none⟩) 1 1,AA UA un uc,s0.link,s0.token,AA XA xn xc,undef,undef,0,0⟩);have KW:AI (AZ ZO gw 44 SW):=AF (by rw [hSW];exact pD);have HWS:AI ((prog.info? 44).map (·.size)=some SW.size):=AF (by rw [hSW,Iw Ff.o.1 Ff.o.2];exact fh);have hs2:Bt [2] r1.schema=some 2:=by rw [T0.o];rfl
 have hcl:s0.claims.length=3:=by rw [TV.o];rfl
 have HVW:AI (∀W,W=ZO->AS prog 10 #[AO #[AA (some ⟨g1,0,none⟩) 1 1,AA none 0 0,AA (some ⟨g3,0,none⟩) 1 1,AA none 0 0,AA none 0 0,AA none 0 0,AA (some ⟨g4,0,none⟩) 1 1],.agg R1,.agg SW] W fun e w'=>e=AV (AB AE 190)/\AJ W w'):=AF (fun W hW=>by subst hW;have hz:=WX.o;rw [hs2] at hz;have hw:=vr (by rw [TV.o];rfl) (by rw [TV.o];rfl) hcl hz;rw [<-hs2] at hw;have h:=Sh.o {s0 with fields:=[0]} (some ⟨gz,0,none⟩) UA XA 1 1 un uc xn xc 190 r1 W Qv (MY (l:=[0]) xF BE BE) (yX.o.mono BU Qv) (AEx.o.mono CD Qv) Ff.o.1 Ff.o.2 (by show EZ s0.link;rw [TV.o];show EZ 2;unfold EZ;decide) fN hw;rw [HR1.o,<-T0.o,hSW];exact h)
 have hkn:kn=7:=by
  rw [AFH.o.len,PW.o,Ij,U1,CX,QU]
  all_goals rfl
 have hxn:xn=3:=by rw [AEx.o.len,hcl]
 have hun:un=1:=by rw [yX.o.len,TV.o];rfl
 have htk:s0.token=I4 3:=by rw [TV.o,PW.o];rfl
 obtain ⟨ub,uo,u,hUA,hub,hu,eu,_,_⟩:=ints_at (yX.o.mono BU Qv) (show 0 < un by omega);have hu3:u=3:=by rw [TV.o,PW.o] at hu;injection hu with hu;exact hu.symm
 obtain ⟨D3,hD3⟩:=Ab (yA (I4 3));have ALQ:AI (prog.built 34 [(0,AB .u8 3)]=some D3):=AF (by rw [hD3];exact av 3);have hde:∀W,(Op.equalIn 10000 34 (AO (yA s0.token)) (.agg D3)).run prog W=.ok true W:=fun W=>by rw [hD3,htk,QN rfl rfl W];simp
 have hdg:=Mg;have qI:=iK.o.below Qv iK.o.lt;have AEt:=yV.o.below Qv yV.o.lt;rw [Q8.o] at qI;rw [ES.o] at AEt;have HLK:AI ((Instr.loadAt 34 (AU (some ⟨gs,39,none⟩))).run prog ZO=.ok (AO (yA s0.token)) ZO):=AF (EY gs 39 Ff.o.2 (IQ qI Ff.o.1 Ff.o.2).token);have c38:ZO.cell? ⟨gc,38,none⟩=some (AA KA kn kc):=(Nh AEt Sl.o).claims;have c71:ZO.cell? ⟨gs,71,none⟩=some (AA XA xn xc):=(IQ qI Ff.o.1 Ff.o.2).claims;have c37:ZO.cell? ⟨gs,37,none⟩=some (AA UA un uc):=(IQ qI Ff.o.1 Ff.o.2).values;rw [hkn] at c38;rw [hxn] at c71;rw [hun,hUA] at c37;rw [hu3,D6] at eu;have jw:=AF (loadRow KW.o underlying44 rfl HWS.o);have AK1:=AF (Zr.o ZO Qv).2.1;have AH1:=(Zr.o ZO Qv).1;obtain ⟨d0,d1,d2,d3,d4,d5,d6⟩:=HD.o ZO AH1;clear pD xF Qv hgz hSW hs2 hcl hkn hxn hun htk hUA hub hu hu3 hD3 qI AEt AH1 di f36 l24;go_wp2_with (first
  | (refine Bd AL 34 (AY 144) rfl _ AL HLK.o ?_)
  | (refine M2 AL 34 #[(0,.const (AB .u8 3))] rfl D3 (Fg (congrArg (prog.built 34) AL) ALQ.o) ?_)
  | (refine Bd AL 36 (AY 6) rfl _ AL AK1.o ?_)
  | (refine Bd AL 44 (AY 18) rfl _ AL jw.o ?_)
  | (go_at_call 10;refine (HVW.o _ rfl).mono ?_;rintro e w26 ⟨rfl,hb⟩;have ALR:=AF (AW ALS.o hb);clear hb)
  | fail)
 go_ret;exact ⟨rfl,AW HW2.o (YR.o _ ALR.o)⟩
end Go.Proofs.YtpmpddfgifhlbaaGreatDoor
