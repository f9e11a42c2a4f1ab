import Derived.Test.YtamhoilkpppdbaaGreatDoorK15
import Derived.Test.YtamhoilkpppdbaaGreatDoorK16
namespace Go.Proofs.YtamhoilkpppdbaaGreatDoor
set_option maxHeartbeats 8000000
set_option maxRecDepth 100000
open Go renaming World→AH, Calls→AS
open Go.Proofs.Tryz
open Go.Value renaming slice→AB, int→AE, pointer→AW, agg→AP
open Go.IntKind renaming i64→AF
open Go.Ending renaming returned→AU
open Go.Obj renaming cells→AO
open Go.Operand renaming tmp→AY
open Go.RowKit Go.Shelf
attribute [local go_sem] Oper.semAt_some
def Rj:CM:=⟨0,0,0,0,0,1,zeros 32⟩
theorem AAc:prog.built 36 [(5,AE AF 1)]=some (rdA Rj):=by kernel_rfl
theorem ap (k:Int):prog.built 34 [(0,AE .u8 k)]=some (yA (Iz k)):=by kernel_rfl
theorem ACy (g:Nat):prog.built 39 [(2,AP (yA (Iz 9))),(3,AB (some ⟨g,0,none⟩) 4 4)]=some (Qg 0 0 (Iz 9) (AB (some ⟨g,0,none⟩) 4 4)):=by kernel_rfl
theorem AEH (g:Nat):(Qg 0 0 (Iz 9) (AB (some ⟨g,0,none⟩) 4 4)).all (·.oneCell')=true:=by kernel_rfl
theorem ADd {val:Int->Int->Int->Bool} {RO:AQ} (h1:val 0 0 5=true) (h2:val 0 1 3=true):FS 0 (Bm [2] ({Rj with root:=RO}:CM).schema) (val ({Rj with root:=RO}:CM).schema) {Rj with root:=RO} 0 G5 0 [5,3]=true:=by
 have e:EL 2 (val 0) [5,3]=true:=by show (true && (val 0 0 5 && (val 0 1 3 && true)))=true;rw [h1,h2];rfl
 show (_ && EL 2 (val 0) [5,3])=true;rw [e];rfl
theorem AG6 {val:Int->Int->Int->Bool} {RO:AQ}:¬FS 0 (Bm [2] ({Rj with root:=RO}:CM).schema) (val ({Rj with root:=RO}:CM).schema) {Rj with root:=RO} 1 G5 0 [5,3]=true:=fun h=>by simp only [FS,Bj,B8] at h;exact absurd h.1.1.1.2 Ah
theorem Ag.AGx {α:Type} {sz:Nat} {R:AH->List Value->α->Prop} (hC:Qw R) {w:AH} {v:Value} {l:List α} (h:Ag sz R w v l):Ag sz R (veil [] w) v l:=
 h.QW hC rE (fun a v hv=>by rw [Kl (I9 AX)];exact hv)
theorem iW {RO:AQ}:Gi 0 (Bm [2] (IJ Aw (Iz 7) 2 ({Rj with root:=RO}:CM) 0 (Iz 9) G5 [5,3]).schema) (IJ Aw (Iz 7) 2 ({Rj with root:=RO}:CM) 0 (Iz 9) G5 [5,3]) [1] 2=0:=by
 have e:(IJ Aw (Iz 7) 2 ({Rj with root:=RO}:CM) 0 (Iz 9) G5 [5,3]).claims.length=7:=by rw [IJ,U1,Cb,QI] <;> rfl
 have ho:JV (some 2) (IJ Aw (Iz 7) 2 ({Rj with root:=RO}:CM) 0 (Iz 9) G5 [5,3]) [1] 2=true:=by simp only [JV,Bj,B8];exact ⟨⟨⟨rfl,rfl⟩,e⟩,⟨rfl,by decide⟩,by decide⟩
 show (if (0:Int)≠0 then (160:Int) else if JV (some 2) _ [1] 2=true then 0 else 190)=0;rw [Ai AX,Ao ho]
theorem AAf:prog.built 46 []=some (Fs ⟨Ci.Ar,Ci.round,Ci.schema,Ci.place,Ci.holder,AB none 0 0,AB none 0 0,AB none 0 0⟩):=by kernel_rfl
def shM:IX:=⟨0,0,0,0,zeros 32,[],[], -1,zeros 32,[]⟩
def cB:CM:=⟨0,0,0,0,0,0,zeros 32⟩
theorem AAb:prog.built 36 []=some (rdA cB):=by kernel_rfl
theorem AAa:prog.built 57 [(7,AE AF (-1))]=some (GD ⟨0,0,0,0,zeros 32,AB none 0 0,AB none 0 0, -1,zeros 32,AB none 0 0,AB none 0 0,AB none 0 0,0,0⟩):=by kernel_rfl
theorem ABE {val:Int->Int->Int->Bool} {r1:CM} (hr:r1={Rj with root:=M7 Aw (Iz 7) 7}) (h1:val 0 0 5=true) (h2:val 0 1 3=true):EX Aw 0 (Bm [2] r1.schema) (val r1.schema) r1 (IJ Aw (Iz 7) 2 r1 0 (Iz 9) G5 [5,3])=0:=by have h:=ADd (RO:=M7 Aw (Iz 7) 7) h1 h2;rw [<-hr] at h;exact tM (n:=2) (by rw [hr];rfl) h r1 (by rw [hr];rfl)
theorem ABF {val:Int->Int->Int->Bool}:DK Aw 0 (Bm [2] cB.schema) (val cB.schema) cB shM=190:=V8 (fun h=>by have:Js (Bm [2] cB.schema) (val cB.schema) cB shM=false:=rfl;rw [this] at h;cases h)
theorem uT {val:Int->Int->Bool} {r1:CM} {s0:IX} (hf:s0.fields=[1]) (hv:s0.values.length=1) (hc:s0.claims.length=3) (hz:DK Aw 0 (some 2) val r1 s0=0):DK Aw 0 (some 2) val r1 {s0 with fields:=[0]}=190:=by
 obtain ⟨_,_,h⟩:=fK hz;have hc0:s0.claims[0]? =some (s0.claims[0]' AG):=BJ _;have hm:=cL (H:=Aw) (n:=2) (s:=s0) (by rw [hf,hv];rfl) (j:=0) (f:=1) (by rw [hf];rfl);have hi:=(h 0 _ _ hm hc0).1;unfold DK;rw [Ai AX];by_cases ho:Js (some 2) val r1 {s0 with fields:=[0]}=true
 ·rw [Ao ho]
  have hm':=cL (H:=Aw) (n:=2) (s:={s0 with fields:=[0]}) hv (j:=0) (f:=0) rfl;refine iu hm' hc0 ?_;rw [hi];show ¬s0.place*((2:Nat)+4+1:Int)+1=s0.place*((2:Nat)+4+1:Int)+0;omega
 · rw [Ai ho]
theorem P2 {g1 g3 g4:Nat} {W:AH} (h:Vv g1 g3 g4 W):Ag 6 Lz W (AB (some ⟨g3,0,none⟩) 1 1) [2]:=by
 obtain ⟨g2,_,_,h3,_⟩:=h;refine Po (l:=[2]) h3 ⟨rfl,fun i x hi=> ?_⟩ Ah;rcases i with _ | i
 ·simp only [Al,Bu] at hi
  subst hi;exact ⟨_,_,_,_,_,_,_,rfl,by decide,fun u hu=>by simp only [CJ,D5,D4] at hu;rcases hu with rfl | rfl | rfl | rfl | rfl <;> rfl⟩
 · simp at hi
theorem uU (Pm AEt:Int->Int->Int->Bool) (w:AH) (hT:Ca w) (hv1:Pm 0 0 5=true) (hv2:Pm 0 1 3=true)
 (hK:∀g1 g3 g4 W,AK w W->Vv g1 g3 g4 W->Ql (AP #[AB (some ⟨g1,0,none⟩) 1 1,AB none 0 0,AB (some ⟨g3,0,none⟩) 1 1,AB none 0 0,AB none 0 0,AB none 0 0]) (AP #[AB (some ⟨g1,0,none⟩) 1 1,AB none 0 0,AB (some ⟨g3,0,none⟩) 1 1,AB none 0 0,AB none 0 0,AB none 0 0,AB (some ⟨g4,0,none⟩) 1 1]) 0 Pm W)
 (hZ:∀W,AK w W->Ql (AP #[AB none 0 0,AB none 0 0,AB none 0 0,AB none 0 0,AB none 0 0,AB none 0 0]) (AP #[AB none 0 0,AB none 0 0,AB none 0 0,AB none 0 0,AB none 0 0,AB none 0 0,AB none 0 0]) 0 AEt W):
 AS prog 7 #[] w fun e w'=>e=AU (.bool true)/\AK w w':=by
 have HT:=AA hT;have HV:=AA (And.intro hv1 hv2);have HK:=AA hK;have HZ:=AA hZ;clear hT hv1 hv2 hK hZ;go_enter func7,ntmps7;go_upto_region 2 with (go_at_call 21;refine (lx _).mono ?_;rintro e w1 ⟨g1,g3,g4,rfl,ht,hb⟩;have HT1:=AA ht;have HB1:=AA hb;clear ht hb;simp only [uS]);obtain ⟨k2,b2,s2⟩:=bx w1 #[AB (some ⟨g1,0,none⟩) 1 1,AB none 0 0,AB (some ⟨g3,0,none⟩) 1 1,AB none 0 0,AB none 0 0,AB none 0 0,AB (some ⟨g4,0,none⟩) 1 1] 32;generalize (w1.alloc (AO #[AB (some ⟨g1,0,none⟩) 1 1,AB none 0 0,AB (some ⟨g3,0,none⟩) 1 1,AB none 0 0,AB none 0 0,AB none 0 0,AB (some ⟨g4,0,none⟩) 1 1] 32))=w2 at k2 b2 s2 ⊢;obtain ⟨gt,hgt⟩:=Ad w1.heap.size;rw [<-hgt] at k2 s2 ⊢;have HW2:AI (AK w w2):=AA (AV HB1.o b2);have I0:=AA (HT1.o.below b2);have KT:=AA k2;have LK:AI (w2.heap.size=gt+1):=AA s2;clear k2 b2 s2 hgt
 -- the tables,in every later world
 have HD:AI (∀W,(AZ W gt 32 #[AB (some ⟨g1,0,none⟩) 1 1,AB none 0 0,AB (some ⟨g3,0,none⟩) 1 1,AB none 0 0,AB none 0 0,AB none 0 0,AB (some ⟨g4,0,none⟩) 1 1])->W.cell? ⟨gt,0,none⟩=some (AB (some ⟨g1,0,none⟩) 1 1)/\W.cell? ⟨gt,1,none⟩=some (AB none 0 0)/\W.cell? ⟨gt,2,none⟩=some (AB (some ⟨g3,0,none⟩) 1 1)/\W.cell? ⟨gt,3,none⟩=some (AB none 0 0)/\W.cell? ⟨gt,4,none⟩=some (AB none 0 0)/\W.cell? ⟨gt,5,none⟩=some (AB none 0 0)/\W.cell? ⟨gt,6,none⟩=some (AB (some ⟨g4,0,none⟩) 1 1)):=AA (fun W b=>⟨b.cell 0,b.cell 1,b.cell 2,b.cell 3,b.cell 4,b.cell 5,b.cell 6⟩);obtain ⟨d0,d1,d2,d3,d4,d5,d6⟩:=HD.o w2 KT.o;have Ze:AI (∀W,AK w2 W->AS prog 10 #[AP #[AB (some ⟨g1,0,none⟩) 1 1,AB none 0 0,AB (some ⟨g3,0,none⟩) 1 1,AB none 0 0,AB none 0 0,AB none 0 0,AB (some ⟨g4,0,none⟩) 1 1],AE AF 0] W fun e w'=>e=AU (.tuple #[AE AF 7,AE AF 0])/\AK W w'):=AA (fun W hW=>
  Xt _ _ _ _ _ _ _ _ _ [2] 0 0 Pm W (P2 (I0.o.below hW)) (HK.o g1 g3 g4 W (AV HW2.o hW) (I0.o.below hW)))
 have HWZ:AI (∀W,AK w2 W->AS prog 10 #[AP #[AB none 0 0,AB none 0 0,AB none 0 0,AB none 0 0,AB none 0 0,AB none 0 0,AB none 0 0],AE AF 0] W fun e w'=>e=AU (.tuple #[AE AF 0,AE AF 1])/\AK W w'):=AA (fun W hW=>
  Xt _ _ _ _ _ _ _ _ _ [] 0 0 AEt W (Ag.nil _ _ (Av _)) (HZ.o W (AV HW2.o hW)))
 go_upto_region 4 with (first
  | (go_at_call 10;refine (Ze.o _ (Ae _ _)).mono ?_;rintro e w3 ⟨rfl,hb⟩;have HB3:=AA hb;clear hb Ze)
  | (go_at_call 10;refine (HWZ.o _ HB3.o).mono ?_;rintro e w4 ⟨rfl,hb⟩;have HB4:=AA (AV HB3.o hb);clear hb)
  | fail)
 clear d0 d1 d2 d3 d4 d5 d6;obtain ⟨RR,hRR⟩:=Ad (rdA Rj);obtain ⟨SD,hSD⟩:=Ad (yA (Iz 7));obtain ⟨RO,dE⟩:=Ad (M7 Aw (Iz 7) 7);have C4:AI (prog.built 36 [(5,AE AF 1)]=some RR):=AA (by rw [hRR];exact AAc);have Qp:AI (prog.built 34 [(0,AE .u8 7)]=some SD):=AA (by rw [hSD];exact ap 7);have HRN:AI (RR.size=38):=AA (by rw [hRR];rfl);have AIM:AI (RR.all (·.oneCell')=true):=AA (by rw [hRR];kernel_rfl);have Nx:AI (RO.length=32):=AA (by rw [dE,M7];exact MK _);have HRT:AI (∀W,AK w W->AS prog 12 #[.agg SD,AE AF 7] W (Y6 RO 0 W)):=AA (fun W hW=>by rw [hSD,dE];exact mH (Iz 7) 7 W rfl Ah Ah (HT.o.below hW));have HRR:=AA hRR;have Nd:=AA hSD;have HRO:=AA dE;clear hRR hSD dE;go_upto_region 5 with (first
  | (refine wpList_buildTo rfl 36 #[(5,.const (AE AF 1))] rfl (some 30) rfl RR (Es (congrArg (prog.built 36) AJ) C4.o) ?_)
  | (refine Fv 36 6 30 38 RR HRN.o AIM.o rfl ?_)
  | fail)
 obtain ⟨k5,b5,s5⟩:=bx w4 RR 36;generalize (w4.alloc (AO RR 36))=w5 at k5 b5 s5 ⊢;obtain ⟨gr,hgr⟩:=Ad w4.heap.size;rw [<-hgr] at k5 s5 ⊢;have CP:=AA (AV HB4.o b5);have Nc:=AA k5;have GU:AI (gt < gr):=AA (by have:=HB4.o.size;have:=LK.o;omega);clear k5 b5 s5 hgr;go_upto_region 6 with (first
  | (refine wpList_buildTo rfl 34 #[(0,.const (AE .u8 7))] rfl (some 32) rfl SD (Es (congrArg (prog.built 34) AJ) Qp.o) ?_)
  | (go_at_call 12;refine (HRT.o _ (AV HW2.o CP.o)).mono ?_;rintro e w6 ⟨rfl,hb⟩;have Fu:=AA (AV CP.o hb);have U8:=AA (Nc.o.below hb Nc.o.lt);clear hb)
  | (refine Fv 34 7 34 32 (yA RO) (by rw [B9,Nx.o]) (Kq RO) rfl ?_)
  | fail)
 obtain ⟨k7,b7,s7⟩:=bx w6 (yA RO) 34;generalize (w6.alloc (AO (yA RO) 34))=w7 at k7 b7 s7 ⊢;obtain ⟨gd,hgd⟩:=Ad w6.heap.size;rw [<-hgd] at k7 s7 ⊢;have Da:=AA (AV Fu.o b7);have tp:=AA (U8.o.below b7 U8.o.lt);have KD7:=AA k7;have HGD:AI (gr < gd):=AA (by have:=U8.o.lt;omega);have Sy:AI (w7.there gr 6 (yA RO).size):=AA (Sc tp.o (by rw [HRN.o,B9,Nx.o];decide));have WS:AI ((prog.info? 34).map (·.size)=some (yA RO).size):=AA q8;clear k7 b7 s7 hgd;go_upto_region 7 with (first
  | (refine Bv rfl 34 (AY 7) rfl gd rfl 34 (yA RO) (0,0) _ KD7.o underlying34 rfl WS.o ?_)
  | (refine Tn rfl 34 (AY 37) (AY 36) rfl gr 6 (yA RO) rfl rfl Sy.o WS.o (Kq RO) ?_)
  | fail)
 obtain ⟨R1,hR1⟩:∃R,R=rdA {Rj with root:=RO}:=⟨_,rfl⟩;have hr8:AZ (w7.setCells gr 6 (yA RO).toList) gr 36 R1:=by have h:=tp.o;rw [HRR.o] at h;rw [hR1];exact mN h rfl Nx.o
 have hn8:∀b,b < w7.heap.size->b≠gr->(w7.setCells gr 6 (yA RO).toList).heap[b]? =w7.heap[b]? :=fun b hb hne=>(Kw (yA RO).toList 6 w7 (DS w7 (some gr))).block b hb (fun e=>by injection e with e;exact hne e);have hb8:AK w2 (w7.setCells gr 6 (yA RO).toList):=below_setCells _ _ _ _ Da.o (by have:=LK.o;have:=GU.o;omega);generalize w7.setCells gr 6 (yA RO).toList=w8 at hr8 hn8 hb8 ⊢;have Ke:=AA hb8;have KR8:=AA hr8;have KT8:AI (AZ w8 gt 32 #[AB (some ⟨g1,0,none⟩) 1 1,AB none 0 0,AB (some ⟨g3,0,none⟩) 1 1,AB none 0 0,AB none 0 0,AB none 0 0,AB (some ⟨g4,0,none⟩) 1 1]):=AA (KT.o.below hb8 KT.o.lt);have AIO:AI (R1.size=38):=AA (by rw [hR1,rdA,T6,B9];show 6+RO.length=38;rw [Nx.o]);have HR1:=AA hR1;clear hr8 hn8 hb8 hR1 tp Sy;obtain ⟨D9,hD9⟩:=Ad (yA (Iz 9));have LM:AI (prog.built 34 [(0,AE .u8 9)]=some D9):=AA (by rw [hD9];exact ap 9);have HD9:=AA hD9;clear hD9;go_upto_region 8 with (first
  | (refine wpList_buildTo rfl 34 #[(0,.const (AE .u8 9))] rfl (some 38) rfl D9 (Es (congrArg (prog.built 34) AJ) LM.o) ?_)
  | (
   go_at_call 22;refine (qW _).mono ?_;rintro e w9 ⟨gl,rfl,hl,hb⟩;obtain ⟨OO,Oy⟩:=Ad (Qg 0 0 (Iz 9) (AB (some ⟨gl,0,none⟩) 4 4));have HBO:AI (prog.built 39 [(2,.agg D9),(3,AB (some ⟨gl,0,none⟩) 4 4)]=some OO):=AA (by rw [Oy,HD9.o];exact ACy gl);have jW:AI (OO.size=35):=AA (by rw [Oy];rfl);have IY:AI (OO.all (·.oneCell')=true):=AA (by rw [Oy];exact AEH gl);have HOO:=AA Oy;have HL9:=AA hl;have AGu:=AA hb;clear Oy hl hb)
  | (refine wpList_buildTo rfl 39 #[(2,.tmp 38),(3,.tmp 39)] rfl (some 40) rfl OO (Es (congrArg (prog.built 39) AJ) HBO.o) ?_)
  | (refine Fv 39 9 40 35 OO jW.o IY.o rfl ?_)
  | fail)
 obtain ⟨k10,b10,s10⟩:=bx w9 OO 39;generalize (w9.alloc (AO OO 39))=w10 at k10 b10 s10 ⊢;obtain ⟨go_,hgo⟩:=Ad w9.heap.size;rw [<-hgo] at k10 s10 ⊢;have dC:AK w8 w10:=AV AGu.o b10;have AI5:=AA dC;have Mq:=AA (AV Ke.o dC);have AGb:=AA (HL9.o.mono BK b10);have AC6:=AA k10;have gW:=AA (KR8.o.below dC KR8.o.lt);have oZ:=AA (KT8.o.below dC KT8.o.lt);clear k10 b10 s10 hgo dC HL9 AGu;obtain ⟨r1,hr1⟩:∃r:CM,r={Rj with root:=RO}:=⟨_,rfl⟩;obtain ⟨q0,hq0⟩:=Ad (IJ Aw (Iz 7) 2 r1 0 (Iz 9) G5 [5,3]:Fb);have MC:AI (∀g W,AK w10 W->AZ W g 3 #[AE AF 5,AE AF 3]->AS prog 9 #[AP #[AB (some ⟨g1,0,none⟩) 1 1,AB none 0 0,AB (some ⟨g3,0,none⟩) 1 1,AB none 0 0,AB none 0 0,AB none 0 0,AB (some ⟨g4,0,none⟩) 1 1],.agg SD,.agg R1,AE AF 0,.agg OO,AP #[AE AF 0,AE AF 0,AE AF 0,AB (some ⟨g,0,none⟩) 2 2]] W (Gn W q0 0)):=AA (fun g W hW hg=>by have h2:AK w2 W:=AV Mq.o hW;have h:=aE _ _ _ _ _ _ _ 1 1 [2] 0 Pm (Iz 7) r1 0 0 0 0 0 0 (Iz 9) G5 [5,3] _ _ 2 2 4 4 W (P2 (I0.o.below h2)) (HK.o g1 g3 g4 W (AV HW2.o h2) (I0.o.below h2)) (MQ (l:=[5,3]) hg Ah Ah) (AGb.o.mono BK hW) rfl rfl (by rw [hr1];exact Nx.o) (HT.o.below (AV HW2.o h2));rw [hr1,Ao (ADd HV.o.1 HV.o.2),<-hr1,show Bm [2] r1.schema=some 2 from by rw [hr1];rfl] at h;rw [Nd.o,HR1.o,HOO.o,hq0,<-hr1];exact h)
 have Mj:AI (∀g W,AK w10 W->AZ W g 3 #[AE AF 5,AE AF 3]->AS prog 9 #[AP #[AB (some ⟨g1,0,none⟩) 1 1,AB none 0 0,AB (some ⟨g3,0,none⟩) 1 1,AB none 0 0,AB none 0 0,AB none 0 0,AB (some ⟨g4,0,none⟩) 1 1],.agg SD,.agg R1,AE AF 1,.agg OO,AP #[AE AF 0,AE AF 0,AE AF 0,AB (some ⟨g,0,none⟩) 2 2]] W (Gn W Ci 190)):=AA (fun g W hW hg=>by have h2:AK w2 W:=AV Mq.o hW;have h:=aE _ _ _ _ _ _ _ 1 1 [2] 0 Pm (Iz 7) r1 1 0 0 0 0 0 (Iz 9) G5 [5,3] _ _ 2 2 4 4 W (P2 (I0.o.below h2)) (HK.o g1 g3 g4 W (AV HW2.o h2) (I0.o.below h2)) (MQ (l:=[5,3]) hg Ah Ah) (AGb.o.mono BK hW) rfl rfl (by rw [hr1];exact Nx.o) (HT.o.below (AV HW2.o h2));rw [hr1,Ai AG6,<-hr1] at h;rw [Nd.o,HR1.o,HOO.o,<-hr1];exact h)
 have Te:=AA hr1;have Nf:=AA hq0;clear hr1 hq0;have X2:AI ((prog.info? 39).map (·.size)=some OO.size):=AA (by rw [jW.o];kernel_rfl);have NK:AI ((prog.info? 36).map (·.size)=some R1.size):=AA (by rw [AIO.o];kernel_rfl);have OV:AI (q0.holder.length=32):=AA (by rw [Nf.o];rfl);obtain ⟨d0,d1,d2,d3,d4,d5,d6⟩:=HD.o w10 oZ.o;go_upto_region 9 with (first
  | (refine wpList_buildTo rfl 34 #[(0,.const (AE .u8 7))] rfl (some 43) rfl SD (Es (congrArg (prog.built 34) AJ) Qp.o) ?_)
  | (refine Bv rfl 36 (AY 6) rfl gr rfl 36 R1 (0,0) _ gW.o underlying36 rfl NK.o ?_)
  | (refine Bv rfl 39 (AY 9) rfl go_ rfl 39 OO (0,0) _ AC6.o underlying39 rfl X2.o ?_)
  | (
   go_at_call 9;refine (MC.o _ _ (BE _ _) (AZ.new _ _ _)).mono ?_;rintro e w12 ⟨VA,vn,vc,LA,ln,lc,KA,kn,kc,rfl,s1,s2,s3,hb⟩;obtain ⟨CC,hCC⟩:=Ad (Fs ⟨q0.Ar,q0.round,q0.schema,q0.place,q0.holder,AB VA vn vc,AB LA ln lc,AB KA kn kc⟩);rw [<-hCC];have HCN:AI (CC.size=39):=AA (by rw [hCC];exact Ma OV.o);have HCO:AI (CC.all (·.oneCell')=true):=AA (by rw [hCC];exact U0 rfl rfl rfl);have JY:=AA (s1.Ob Ns);have HS2:=AA (s2.Ob R0);have J6:=AA (s3.Ob QS);have xM:=AA (((Ae w10.heap.size w10).alloc (Ac _) (AO #[AE AF 5,AE AF 3] 3)).trans (hb.mono AX));have EN:=AA hCC;clear s1 s2 s3 hb hCC)
  | (refine Fv 46 10 49 39 CC HCN.o HCO.o rfl ?_)
  | fail)
 clear d0 d1 d2 d3 d4 d5 d6;obtain ⟨k13,b13,s13⟩:=bx w12 CC 46;generalize (w12.alloc (AO CC 46))=Hd at k13 b13 s13 ⊢;obtain ⟨gc,hgc⟩:=Ad w12.heap.size;rw [<-hgc] at k13 s13 ⊢;have Nu:AK w10 Hd:=AV xM.o b13;have iF:=AA Nu;have oz:=AA (JY.o.mono BX b13);have AGf:=AA (HS2.o.mono BK b13);have iB:=AA (J6.o.mono Bd b13);have Xv:=AA k13;have gU:=AA (oZ.o.below Nu oZ.o.lt);have OX:AI ((prog.info? 46).map (·.size)=some CC.size):=AA (by rw [HCN.o];kernel_rfl);clear k13 b13 s13 hgc Nu JY HS2 J6 xM;obtain ⟨s0,hs0⟩:=Ad (LR 2 q0 [1] 2:IX);have HO0:AI (∀g W,AK Hd W->AZ W g 3 #[AE AF 1]->AS prog 14 #[AP #[AB (some ⟨g1,0,none⟩) 1 1,AB none 0 0,AB (some ⟨g3,0,none⟩) 1 1,AB none 0 0,AB none 0 0,AB none 0 0,AB (some ⟨g4,0,none⟩) 1 1],.agg CC,AB (some ⟨g,0,none⟩) 1 1,AE AF 2] W (QG [] W s0 0)):=AA (fun g W hW hg=>by
  have h2:AK w2 W:=AV Mq.o (AV iF.o hW);have h:=open_any _ _ _ _ _ _ _ 1 1 [2] 0 Pm q0 VA LA KA _ vn vc ln lc kn kc 1 1 [1] 2 [] W (P2 (I0.o.below h2)) (HK.o g1 g3 g4 W (AV HW2.o h2) (I0.o.below h2)) (oz.o.mono BX hW) (AGf.o.mono BK hW) ((iB.o.mono Bd hW).AGx JD) (MQ (l:=[1]) hg Ah Ah) OV.o Ah (fun _ h=>by cases h);have e:Gi 0 (Bm [2] q0.schema) q0 [1] 2=0:=by rw [Nf.o,Te.o];exact iW
  rw [Ao e,show Bm [2] q0.schema=some 2 from by rw [Nf.o,Te.o];rfl,<-EN.o] at h;rw [hs0];exact h)
 have S4:=AA hs0;have Hj:AI (s0.holder.length=32/\s0.token.length=32):=AA (by rw [hs0];exact ⟨OV.o,by rw [Nf.o];rfl⟩);clear hs0;obtain ⟨d0,d1,d2,d3,d4,d5,d6⟩:=HD.o Hd gU.o;go_upto_region 10 with (first
  | (refine Bv rfl 46 (AY 10) rfl gc rfl 46 CC (0,0) _ Xv.o underlying46 rfl OX.o ?_)
  | (
   go_at_call 14;refine (HO0.o _ _ (BE _ _) (AZ.new _ _ _)).mono ?_;rintro e QJ ⟨FA,fn,fc,UA,un,uc,XA,xn,xc,rfl,s1,s2,s3,hb⟩;obtain ⟨SS,hSS⟩:=Ad (GD ⟨s0.Ar,s0.round,s0.schema,s0.place,s0.holder,AB FA fn fc,AB UA un uc,s0.link,s0.token,AB XA xn xc,undef,undef,0,0⟩);rw [<-hSS];have SA:AI (SS.size=72):=AA (by rw [hSS];exact Iu Hj.o.1 Hj.o.2);have jQ:AI (SS.all (·.oneCell')=true):=AA rD;have JY:=AA (s1.Ob Ns);have HS2:=AA (s2.Ob Ns);have J6:=AA (s3.Ob QS);have V1:=AA (((Ae Hd.heap.size Hd).alloc (Ac _) (AO #[AE AF 1] 3)).trans (hb.mono AX));have VE:=AA hSS;clear s1 s2 s3 hb hSS)
  | (refine Fv 57 12 56 72 SS SA.o jQ.o rfl ?_)
  | fail)
 clear d0 d1 d2 d3 d4 d5 d6;obtain ⟨k15,b15,s15⟩:=bx QJ SS 57;generalize (QJ.alloc (AO SS 57))=Ig at k15 b15 s15 ⊢;obtain ⟨gs,hgs⟩:=Ad QJ.heap.size;rw [<-hgs] at k15 s15 ⊢;have Vn:AK Hd Ig:=AV V1.o b15;have hbx:AK w10 Ig:=AV iF.o Vn;have ADV:=AA Vn;have PI:=AA hbx;have AIo:=AA (JY.o.mono BX b15);have wU:=AA (HS2.o.mono BX b15);have ADA:=AA (J6.o.mono Bd b15);have gV:=AA k15;have wT:=AA (Xv.o.below Vn Xv.o.lt);have oY:=AA (oZ.o.below hbx oZ.o.lt);have AC4:=AA (gW.o.below hbx gW.o.lt);have AIA:=AA (AC6.o.below hbx AC6.o.lt);have CY:AI ((prog.info? 57).map (·.size)=some SS.size):=AA (by rw [SA.o];kernel_rfl);clear k15 b15 s15 hgs Vn hbx JY HS2 J6 V1;obtain ⟨d0,d1,d2,d3,d4,d5,d6⟩:=HD.o Ig oY.o;go_upto_region 11 with (first
  | (refine wpList_buildTo rfl 34 #[(0,.const (AE .u8 7))] rfl (some 60) rfl SD (Es (congrArg (prog.built 34) AJ) Qp.o) ?_)
  | (refine Bv rfl 36 (AY 6) rfl gr rfl 36 R1 (0,0) _ AC4.o underlying36 rfl NK.o ?_)
  | (refine Bv rfl 39 (AY 9) rfl go_ rfl 39 OO (0,0) _ AIA.o underlying39 rfl X2.o ?_)
  | (
   go_at_call 9;refine (Mj.o _ _ (AV PI.o ((Ae Ig.heap.size Ig).alloc (Ac _) _)) (AZ.new _ _ _)).mono ?_;rintro e w16 ⟨YA,yn,yc,YB,zn,zc,YC,sW,sX,rfl,_,_,_,hb⟩;obtain ⟨C2,hC2⟩:=Ad (Fs ⟨Ci.Ar,Ci.round,Ci.schema,Ci.place,Ci.holder,AB YA yn yc,AB YB zn zc,AB YC sW sX⟩);rw [<-hC2];have bA:AI (C2.size=39):=AA (by rw [hC2];exact Ma rfl);have pR:AI (C2.all (·.oneCell')=true):=AA eU;have iE:=AA (((Ae Ig.heap.size Ig).alloc (Ac _) (AO #[AE AF 5,AE AF 3] 3)).trans (hb.mono AX));clear hb hC2)
  | (refine Fv 46 14 66 39 C2 bA.o pR.o rfl ?_)
  | fail)
 obtain ⟨_,b17,_⟩:=bx w16 C2 46;generalize (w16.alloc (AO C2 46))=bY at b17 ⊢;have gH:AK Ig bY:=AV iE.o b17;have bC:=AA gH;have AH6:=AA (oY.o.below gH oY.o.lt);obtain ⟨ZC,hZC⟩:=Ad (Fs ⟨Ci.Ar,Ci.round,Ci.schema,Ci.place,Ci.holder,AB none 0 0,AB none 0 0,AB none 0 0⟩);have JH:AI (prog.built 46 []=some ZC):=AA (by rw [hZC];exact AAf);have IY:AI (∀W,AK bY W->AS prog 14 #[AP #[AB (some ⟨g1,0,none⟩) 1 1,AB none 0 0,AB (some ⟨g3,0,none⟩) 1 1,AB none 0 0,AB none 0 0,AB none 0 0,AB (some ⟨g4,0,none⟩) 1 1],.agg ZC,AB none 0 0,AE AF (-1)] W (QG [] W MN 190)):=AA (fun W hW=>by have h2:AK w2 W:=AV Mq.o (AV PI.o (AV bC.o hW));have h:=open_any _ _ _ _ _ _ _ 1 1 [2] 0 Pm Ci none none none none 0 0 0 0 0 0 0 0 [] (-1) [] W (P2 (I0.o.below h2)) (HK.o g1 g3 g4 W (AV HW2.o h2) (I0.o.below h2)) (Ag.nil _ _ (Av _)) (Ag.nil _ _ (Av _)) (Ag.nil _ _ (Av _)) (Ag.nil _ _ (Av _)) rfl Ah (fun _ h=>by cases h);rw [Ai Ah,<-hZC] at h;exact h)
 clear b17 gH hZC iE d0 d1 d2 d3 d4 d5 d6;obtain ⟨d0,d1,d2,d3,d4,d5,d6⟩:=HD.o bY AH6.o;go_upto_region 12 with (first
  | (refine wpList_buildTo rfl 46 #[] rfl (some 70) rfl ZC (Es (congrArg (prog.built 46) AJ) JH.o) ?_)
  | (
   go_at_call 14;refine (IY.o _ (Ae _ _)).mono ?_;rintro e ME ⟨YA,yn,yc,YB,zn,zc,YC,sW,sX,rfl,_,_,_,hb⟩;obtain ⟨S2,hS2⟩:=Ad (GD ⟨MN.Ar,MN.round,MN.schema,MN.place,MN.holder,AB YA yn yc,AB YB zn zc,MN.link,MN.token,AB YC sW sX,undef,undef,0,0⟩);rw [<-hS2];have wW:AI (S2.size=72):=AA (by rw [hS2];exact Iu rfl rfl);have AIJ:AI (S2.all (·.oneCell')=true):=AA (by rw [hS2];exact UZ rfl rfl rfl);have YD:=AA hb;clear hb hS2)
  | (refine Fv 57 16 72 72 S2 wW.o AIJ.o rfl ?_)
  | fail)
 obtain ⟨_,b19,_⟩:=bx ME S2 57;generalize (ME.alloc (AO S2 57))=w19 at b19 ⊢;have ADU:=AA (AV bC.o (AV YD.o b19));clear b19 YD d0 d1 d2 d3 d4 d5 d6;have X9:AI (∀W,AK Ig W->AK w2 W):=AA (fun W hW=>AV Mq.o (AV PI.o hW));have Mn:AI (∀W,AK Ig W->AS prog 23 #[AP #[AB (some ⟨g1,0,none⟩) 1 1,AB none 0 0,AB (some ⟨g3,0,none⟩) 1 1,AB none 0 0,AB none 0 0,AB none 0 0,AB (some ⟨g4,0,none⟩) 1 1]] W fun e w'=>e=AU (AE AF 0)/\AK W w'):=AA (fun W hW=>by have h2:=X9.o W hW;exact (HK.o g1 g3 g4 W (AV HW2.o h2) (I0.o.below h2)).chk W (Ae _ _))
 have MS:EX Aw 0 (Bm [2] r1.schema) (Pm r1.schema) r1 q0=0:=by rw [Nf.o];exact ABE (by rw [Te.o,HRO.o]) HV.o.1 HV.o.2
 have OY:AI (∀W,AK Ig W->AS prog 13 #[AP #[AB (some ⟨g1,0,none⟩) 1 1,AB none 0 0,AB (some ⟨g3,0,none⟩) 1 1,AB none 0 0,AB none 0 0,AB none 0 0,AB (some ⟨g4,0,none⟩) 1 1],.agg R1,.agg CC] W fun e w'=>e=AU (AE AF 0)/\AK W w'):=AA (fun W hW=>by have h2:=X9.o W hW;have hd:=AV ADV.o hW;have h:=jl _ _ _ _ _ _ _ 1 1 [2] 0 Pm r1 q0 VA LA KA vn vc ln lc kn kc W (P2 (I0.o.below h2)) (HK.o g1 g3 g4 W (AV HW2.o h2) (I0.o.below h2)) (oz.o.mono BX hd) (AGf.o.mono BK hd) (iB.o.mono Bd hd) OV.o eR (HT.o.below (AV HW2.o h2));rw [MS,<-EN.o] at h;rw [HR1.o,<-Te.o];exact h)
 have ABy:DK Aw 0 (Bm [2] r1.schema) (Pm r1.schema) r1 s0=0:=by
  have ho:Gi 0 (Bm [2] q0.schema) q0 [1] 2=0:=by rw [Nf.o,Te.o];exact iW
  have ho2:JV (Bm [2] r1.schema) q0 [1] 2=true:=by
   have e:Bm [2] q0.schema=Bm [2] r1.schema:=by rw [Nf.o];rfl
   rw [e] at ho;unfold Gi at ho;rw [Ai AX] at ho;by_cases hx:JV (Bm [2] r1.schema) q0 [1] 2=true
   · exact hx
   · rw [Ai hx] at ho;cases ho
  rw [S4.o];exact mA (n:=2) (by rw [Te.o];rfl) MS ho2
 have dZ:AI (∀(s:IX) (A3 A4 A5:Option Addr) (n3 c3 n4 c4 n5 c5:Nat) (k:Int) (r:CM) (W:AH),AK Ig W->Ag 1 CK W (AB A3 n3 c3) s.fields->Ag 1 CK W (AB A4 n4 c4) s.values->Ag 3 Dt W (AB A5 n5 c5) s.claims->s.holder.length=32->s.token.length=32->Gk s.link->r.root.length=32->DK Aw 0 (Bm [2] r.schema) (Pm r.schema) r s=k->
  AS prog 15 #[AP #[AB (some ⟨g1,0,none⟩) 1 1,AB none 0 0,AB (some ⟨g3,0,none⟩) 1 1,AB none 0 0,AB none 0 0,AB none 0 0,AB (some ⟨g4,0,none⟩) 1 1],AP (rdA r),AP (GD ⟨s.Ar,s.round,s.schema,s.place,s.holder,AB A3 n3 c3,AB A4 n4 c4,s.link,s.token,AB A5 n5 c5,AB none 0 0,AB none 0 0,0,0⟩)] W fun e w'=>e=AU (AE AF k)/\AK W w'):=AA (fun s A3 A4 A5 n3 c3 n4 c4 n5 c5 k r W hW a b c d e f g hk=>by
  have h2:=X9.o W hW;have h:=dT _ _ _ _ _ _ _ 1 1 [2] 0 Pm r s A3 A4 A5 n3 c3 n4 c4 n5 c5 W (P2 (I0.o.below h2)) (HK.o g1 g3 g4 W (AV HW2.o h2) (I0.o.below h2)) a b c d e f g (HT.o.below (AV HW2.o h2));rw [hk] at h;exact h)
 have HV1:AI (∀W,AK Ig W->AS prog 15 #[AP #[AB (some ⟨g1,0,none⟩) 1 1,AB none 0 0,AB (some ⟨g3,0,none⟩) 1 1,AB none 0 0,AB none 0 0,AB none 0 0,AB (some ⟨g4,0,none⟩) 1 1],.agg R1,.agg SS] W fun e w'=>e=AU (AE AF 0)/\AK W w'):=AA (fun W hW=>by have h:=dZ.o s0 FA UA XA fn fc un uc xn xc 0 r1 W hW (AIo.o.mono BX hW) (wU.o.mono BX hW) (ADA.o.mono Bd hW) Hj.o.1 Hj.o.2 (by rw [S4.o];show Gk 2;unfold Gk;decide) eR ABy;rw [HR1.o,<-Te.o,VE.o];exact h)
 obtain ⟨RZ,hRZ⟩:=Ad (rdA cB);obtain ⟨SM,hSM⟩:=Ad (GD ⟨0,0,0,0,zeros 32,AB none 0 0,AB none 0 0, -1,zeros 32,AB none 0 0,AB none 0 0,AB none 0 0,0,0⟩);have bB:AI (prog.built 36 []=some RZ):=AA (by rw [hRZ];exact AAb);have HBM:AI (prog.built 57 [(7,AE AF (-1))]=some SM):=AA (by rw [hSM];exact AAa);have Dw:AI (∀W,AK Ig W->AS prog 15 #[AP #[AB (some ⟨g1,0,none⟩) 1 1,AB none 0 0,AB (some ⟨g3,0,none⟩) 1 1,AB none 0 0,AB none 0 0,AB none 0 0,AB (some ⟨g4,0,none⟩) 1 1],.agg RZ,.agg SM] W fun e w'=>e=AU (AE AF 190)/\AK W w'):=AA (fun W hW=>by have h:=dZ.o shM none none none 0 0 0 0 0 0 190 cB W hW (Ag.nil _ _ (Av _)) (Ag.nil _ _ (Av _)) (Ag.nil _ _ (Av _)) rfl rfl (by show Gk (-1);unfold Gk;decide) rfl ABF;rw [hRZ,hSM];exact h)
 have Zj:AI (∀W,AK Ig W->AZ W gt 32 #[AB (some ⟨g1,0,none⟩) 1 1,AB none 0 0,AB (some ⟨g3,0,none⟩) 1 1,AB none 0 0,AB none 0 0,AB none 0 0,AB (some ⟨g4,0,none⟩) 1 1]/\(Instr.loadAt 36 (AW (some ⟨gr,0,none⟩))).run prog W=.ok (.agg R1) W/\(Instr.loadAt 46 (AW (some ⟨gc,0,none⟩))).run prog W=.ok (.agg CC) W/\(Instr.loadAt 57 (AW (some ⟨gs,0,none⟩))).run prog W=.ok (.agg SS) W):=AA (fun W hW=>
  ⟨oY.o.below hW oY.o.lt,loadRow (AC4.o.below hW AC4.o.lt) underlying36 rfl NK.o,loadRow (wT.o.below hW wT.o.lt) underlying46 rfl OX.o,loadRow (gV.o.below hW gV.o.lt) underlying57 rfl CY.o⟩)
 have WT:=AA ABy;clear MS ABy hRZ hSM;obtain ⟨d0,d1,d2,d3,d4,d5,d6⟩:=HD.o w19 (Zj.o w19 ADU.o).1;go_upto_region 14 with (first
  | (go_at_call 23;refine (Mn.o _ ADU.o).mono ?_;rintro e w20 ⟨rfl,hb⟩;have ADT:=AA (AV ADU.o hb);have xB:=AA (Zj.o w20 ADT.o);obtain ⟨d0,d1,d2,d3,d4,d5,d6⟩:=HD.o w20 xB.o.1;clear hb)
  | (refine Dh AJ 46 (AY 10) rfl _ rfl xB.o.2.2.1 ?_)
  | (go_at_call 13;refine (OY.o _ ADT.o).mono ?_;rintro e w21 ⟨rfl,hb⟩;have ADS:=AA (AV ADT.o hb);have ADG:=AA (Zj.o w21 ADS.o);obtain ⟨d0,d1,d2,d3,d4,d5,d6⟩:=HD.o w21 ADG.o.1;clear hb xB)
  | (refine Dh AJ 36 (AY 6) rfl _ rfl xB.o.2.1 ?_)
  | (refine Dh AJ 36 (AY 6) rfl _ rfl ADG.o.2.1 ?_)
  | (refine Dh AJ 57 (AY 12) rfl _ rfl ADG.o.2.2.2 ?_)
  | (go_at_call 15;refine (HV1.o _ ADS.o).mono ?_;rintro e w22 ⟨rfl,hb⟩;have ADR:=AA (AV ADS.o hb);obtain ⟨d0,d1,d2,d3,d4,d5,d6⟩:=HD.o w22 (Zj.o w22 ADR.o).1;clear hb HV1)
  | (refine Pk AJ 36 #[] rfl RZ (Es (congrArg (prog.built 36) AJ) bB.o) ?_)
  | (refine Pk AJ 57 #[(7,.const (AE AF (-1)))] rfl SM (Es (congrArg (prog.built 57) AJ) HBM.o) ?_)
  | (go_at_call 15;refine (Dw.o _ ADR.o).mono ?_;rintro e w23 ⟨rfl,hb⟩;have ADQ:=AA (AV ADR.o hb);clear hb)
  | fail)
 clear d0 d1 d2 d3 d4 d5 d6;have AH7:=AA (gV.o.below ADQ.o gV.o.lt);go_upto_region 15 with (first
  | (refine Bv rfl 57 (AY 12) rfl gs rfl 57 SS (0,0) _ AH7.o underlying57 rfl CY.o ?_)
  | (refine Fv 57 18 130 72 SS SA.o jQ.o rfl ?_)
  | fail)
 obtain ⟨k24,b24,s24⟩:=bx w23 SS 57;generalize (w23.alloc (AO SS 57))=bX at k24 b24 s24 ⊢;obtain ⟨gw,hgw⟩:=Ad w23.heap.size;rw [<-hgw] at k24 s24 ⊢;have ADi:Ig.heap.size<=gw:=by have:=ADQ.o.size;omega
 have jJ:bX.cell? ⟨gw,36,none⟩=some (AB FA fn fc):=by have h:=k24;rw [VE.o] at h;exact (JR h Hj.o.1 Hj.o.2).fields
 have f36:=k24.frozen 36;have l24:=k24.lt;have AGv:=AA (AV ADQ.o b24);have tq:=AA k24;have AGl:=AA ADi;clear k24 b24 hgw ADi s24;go_upto_region 16 with fail;have nW:=(tq.o.put 36 (AB (some ⟨bX.heap.size,0,none⟩) 1 1)).alloc (AO #[AE AF 0] 3);rw [VE.o,AA1 ⟨s0.Ar,s0.round,s0.schema,s0.place,s0.holder,AB FA fn fc,AB UA un uc,s0.link,s0.token,AB XA xn xc,undef,undef,0,0⟩ Hj.o.1 Hj.o.2] at nW;have vN:AZ ((bX.setCell ⟨gw,36,none⟩ (AB (some ⟨bX.heap.size,0,none⟩) 1 1)).alloc (AO #[AE AF 0] 3)) bX.heap.size 3 #[AE AF 0]:=U4 (RI ..);have Qe:AK Ig ((bX.setCell ⟨gw,36,none⟩ (AB (some ⟨bX.heap.size,0,none⟩) 1 1)).alloc (AO #[AE AF 0] 3)):=(AGv.o.setCell AGl.o _).alloc (AGv.o.setCell (p:=⟨gw,36,none⟩) AGl.o _).size _;obtain ⟨gz,hgz⟩:=Ad bX.heap.size;rw [<-hgz] at nW vN Qe ⊢;generalize ((bX.setCell ⟨gw,36,none⟩ (AB (some ⟨gz,0,none⟩) 1 1)).alloc (AO #[AE AF 0] 3))=ZH at nW vN Qe ⊢;have AIy:=AA Qe;obtain ⟨SW,hSW⟩:=Ad (GD ⟨s0.Ar,s0.round,s0.schema,s0.place,s0.holder,AB (some ⟨gz,0,none⟩) 1 1,AB UA un uc,s0.link,s0.token,AB XA xn xc,undef,undef,0,0⟩);have KW:AI (AZ ZH gw 57 SW):=AA (by rw [hSW];exact nW);have HWS:AI ((prog.info? 57).map (·.size)=some SW.size):=AA (by rw [hSW,Iu Hj.o.1 Hj.o.2];exact fI);have hs2:Bm [2] r1.schema=some 2:=by rw [Te.o];rfl
 have hcl:s0.claims.length=3:=by rw [S4.o];rfl
 have HVW:AI (∀W,W=ZH->AS prog 15 #[AP #[AB (some ⟨g1,0,none⟩) 1 1,AB none 0 0,AB (some ⟨g3,0,none⟩) 1 1,AB none 0 0,AB none 0 0,AB none 0 0,AB (some ⟨g4,0,none⟩) 1 1],.agg R1,.agg SW] W fun e w'=>e=AU (AE AF 190)/\AK W w'):=AA (fun W hW=>by subst hW;have hz:=WT.o;rw [hs2] at hz;have hw:=uT (by rw [S4.o];rfl) (by rw [S4.o];rfl) hcl hz;rw [<-hs2] at hw;have h:=dZ.o {s0 with fields:=[0]} (some ⟨gz,0,none⟩) UA XA 1 1 un uc xn xc 190 r1 W Qe (MQ (l:=[0]) vN Ah Ah) (wU.o.mono BX Qe) (ADA.o.mono Bd Qe) Hj.o.1 Hj.o.2 (by show Gk s0.link;rw [S4.o];show Gk 2;unfold Gk;decide) eR hw;rw [HR1.o,<-Te.o,hSW];exact h)
 have hkn:kn=7:=by
  rw [iB.o.len,Nf.o,IJ,U1,Cb,QI]
  all_goals rfl
 have hxn:xn=3:=by rw [ADA.o.len,hcl]
 have hun:un=1:=by rw [wU.o.len,S4.o];rfl
 have htk:s0.token=Iz 3:=by rw [S4.o,Nf.o];rfl
 obtain ⟨ub,uo,u,hUA,hub,hu,eu,_,_⟩:=ints_at (wU.o.mono BX Qe) (show 0 < un by omega);have hu3:u=3:=by rw [S4.o,Nf.o] at hu;injection hu with hu;exact hu.symm
 obtain ⟨D3,hD3⟩:=Ad (yA (Iz 3));have AIw:AI (prog.built 34 [(0,AE .u8 3)]=some D3):=AA (by rw [hD3];exact ap 3);have hde:∀W,(Op.equalIn 10000 34 (AP (yA s0.token)) (.agg D3)).run prog W=.ok true W:=fun W=>by rw [hD3,htk,dJ rfl rfl W];simp
 have hdg:=R2;have oe:=gV.o.below Qe gV.o.lt;have AC8:=wT.o.below Qe wT.o.lt;rw [VE.o] at oe;rw [EN.o] at AC8;have HLK:AI ((Instr.loadAt 34 (AW (some ⟨gs,39,none⟩))).run prog ZH=.ok (AP (yA s0.token)) ZH):=AA (FV gs 39 Hj.o.2 (JR oe Hj.o.1 Hj.o.2).token);have c38:ZH.cell? ⟨gc,38,none⟩=some (AB KA kn kc):=(O4 AC8 OV.o).claims;have c71:ZH.cell? ⟨gs,71,none⟩=some (AB XA xn xc):=(JR oe Hj.o.1 Hj.o.2).claims;have c37:ZH.cell? ⟨gs,37,none⟩=some (AB UA un uc):=(JR oe Hj.o.1 Hj.o.2).values;rw [hkn] at c38;rw [hxn] at c71;rw [hun,hUA] at c37;rw [hu3,EO] at eu;have jZ:=AA (loadRow KW.o underlying57 rfl HWS.o);have AIf:=AA (Zj.o ZH Qe).2.1;have AFw:=(Zj.o ZH Qe).1;obtain ⟨d0,d1,d2,d3,d4,d5,d6⟩:=HD.o ZH AFw;clear nW vN Qe hgz hSW hs2 hcl hkn hxn hun htk hUA hub hu hu3 hD3 oe AC8 AFw jJ f36 l24;go_wp2_with (first
  | (refine Dh AJ 34 (AY 144) rfl _ rfl HLK.o ?_)
  | (refine Pk AJ 34 #[(0,.const (AE .u8 3))] rfl D3 (Es (congrArg (prog.built 34) AJ) AIw.o) ?_)
  | (refine Dh AJ 36 (AY 6) rfl _ rfl AIf.o ?_)
  | (refine Dh AJ 57 (AY 18) rfl _ rfl jZ.o ?_)
  | (go_at_call 15;refine (HVW.o _ rfl).mono ?_;rintro e w26 ⟨rfl,hb⟩;have AIx:=AA (AV AIy.o hb);clear hb)
  | fail)
 go_ret;exact ⟨rfl,AV HW2.o (X9.o _ AIx.o)⟩
end Go.Proofs.YtamhoilkpppdbaaGreatDoor
