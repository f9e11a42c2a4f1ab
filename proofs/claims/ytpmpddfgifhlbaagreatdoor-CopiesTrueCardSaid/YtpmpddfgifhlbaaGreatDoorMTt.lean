import Derived.Test.YtpmpddfgifhlbaaGreatDoorMAl
import Derived.Deep.DeepCutAuto
import Derived.Deep.Light
import Derived.Deep.OwnRows
import Derived.Deep.WholeRow
import Derived.Great.BuildSlice
import Derived.Laws.CopyOwn
import Derived.Laws.EntriesVeiled
import Derived.Lib.SmallJoins
import Derived.LoopIn
import Derived.LoopNIn
import Derived.Maps.OwnIn
import Derived.RangeFuncBound
import Derived.RangeFuncNested
import Derived.RegionDies
import Derived.Shelf.RegionOpen
import Derived.StillTailTactics
import Derived.WalkLawsBesides
import Derived.WalkSpells
namespace Go.Proofs.YtpmpddfgifhlbaaGreatDoor
set_option maxHeartbeats 8000000
set_option maxRecDepth 100000
open Go.Value renaming slice→AA, int→AB, string→AN, bool→AX
open Go.IntKind renaming i64→AE
theorem bT{p:Prop}(h:p:=by
 have htn:(t !=0)=true:=by simpa using ht0
 have hlp:=ABa HV.o HT.o ht0;have b0:=kB.cell 0;have b1:=kB.cell 1;have b2:=kB.cell 2;have b3:=kB.cell 3;have b4:=kB.cell 4;have b5:=kB.cell 5;have b6:=kB.cell 6;have f0:=kB.frozen 0;have f1:=kB.frozen 1;have f2:=kB.frozen 2;have f3:=kB.frozen 3;have f4:=kB.frozen 4;have f5:=kB.frozen 5;have f6:=kB.frozen 6;have jJ:=kB.lt;simp only [Ai,An,Aw] at b0 b1 b2 b3 b4 b5 b6;have kE:=(((((((kB.put 0 (AA none 0 0)).put 1 (AA none 0 0)).put 2 (AA none 0 0)).put 3 (AA none 0 0)).put 4 (AA none 0 0)).put 5 (AA none 0 0)).put 6 (AA none 0 0));go_wp2_with fail;have x0:=kE.cell 0;have x1:=kE.cell 1;have x2:=kE.cell 2;have x3:=kE.cell 3;have x4:=kE.cell 4;have x5:=kE.cell 5;have x6:=kE.cell 6;simp only [Ju,Bp,B9,Ai,An,Aw] at x0 x1 x2 x3 x4 x5 x6;exact E8 (v:=.tuple #[.agg #[AA none 0 0,AA none 0 0,AA none 0 0,AA none 0 0,AA none 0 0,AA none 0 0,AA none 0 0],AB AE t]) tp rfl ⟨.inl ⟨by rw [hlp];exact ht0,by rw [hlp]⟩,(((((((HB1.o.setCell (p:=⟨gb,0,none⟩) O4 (AA none 0 0)).setCell (p:=⟨gb,1,none⟩) O4 (AA none 0 0)).setCell (p:=⟨gb,2,none⟩) O4 (AA none 0 0)).setCell (p:=⟨gb,3,none⟩) O4 (AA none 0 0)).setCell (p:=⟨gb,4,none⟩) O4 (AA none 0 0)).setCell (p:=⟨gb,5,none⟩) O4 (AA none 0 0)).setCell (p:=⟨gb,6,none⟩) O4 (AA none 0 0))⟩):p:=h
theorem AFU{p:Prop}(h:p:=by
 clear HS2 HJ2 iL;obtain ⟨j,o2,h2,hj,hq,rfl,hf,wj,hs,hjp,AHy,AHg,hpo,hcb2⟩:=hrel;obtain ⟨Kj,HF,AE4,HS,AIm,AE9,HPO,AFG,iL⟩:=Po hq hf wj hs hjp AHg hpo hcb2 AHy;clear hq hf hjp AHg hpo hcb2 AHy;by_cases hlt:j < L.length
 case neg=>
  have vI:AI (L.foldl Nw (o,h1)=(o2,h2)):=AF (by have:=HF.o;rw [Cy AG] at this;exact this);have AK9:AI (∃f',fuel=f'+1/\(pre++[(xn:Int)])++Kz (fun x:Nat=>Bf rs k x) f' o2 h2=Cr rs k):=AF (by have hpf:=HPF.o;obtain ⟨f',rfl⟩:∃f',fuel=f'+1:=⟨fuel - 1,by unfold Ky at hpf;omega⟩;refine ⟨f',rfl,?_⟩;have:=qo.o;rw [oI hpos] at this;rw [ji.o,HH1.o] at this;simp only [CZ] at this;rw [HL.o,vI.o] at this;simpa using this)
  clear hs wj;go_wp2;go_roundg (Ky o2 h2)
  case measure=>have h1':=HQ.o;have h2':=HPO.o;have h3':=Q9.o;rw [h1'];unfold Ky at h2' ⊢;omega
  obtain ⟨f',hf1,AJ6⟩:=AK9.o;have hp1:=WZ.o;have hp2:=HPF.o;have hp3:=HPO.o;have hp4:=Q9.o;exact ⟨o2,h2,pre++[(xn:Int)],f',rfl,AE4.o,HS.o,AIm.o,iL.o,AE9.o,by simp;unfold Ky at hp1 hp3 ⊢;omega,by unfold Ky at hp2 hp3 ⊢;omega,AJ6,fun c hc=>by have:=AFG.o c hc;simp;omega⟩
 obtain ⟨u,hu⟩:∃u,L[j]? =some u:=⟨_,BJ hlt⟩;have hum:=HLM.o u (Ci hu);obtain ⟨un,rfl⟩:∃un:Nat,u=un:=⟨u.toNat,by omega⟩;have hrow:=(hs.rows.row xn _ HV.o).1;rw [HL.o] at hrow;obtain ⟨rg,AJX,hre⟩:=Joins.ownsRow_form hrow AG;injection hre with hA _ hc2;subst hA;subst hc2;have hcj:=hrow.cellAt j AG;rw [Be,hu] at hcj;have hcj:wr.cell? ⟨rg,j,none⟩=some (AB AE un):=hcj;have wY:un < o2.length:=by rw [wj];omega
 obtain ⟨ov,hov⟩:∃ov,o2[un]? =some ov:=⟨_,BJ wY⟩;have hco:=hs.op.cell un;rw [Ai,Be,hov] at hco;have hco:wr.cell? ⟨O,un,none⟩=some (AB AE ov):=hco;have hfo:=hs.op.frozen un;have AJs:=AFG.o ov (Ci hov);have AJo:pre.length<=1000:=by have:=WZ.o;omega
 have e1:IntKind.i64.wrap (ov - 1)=ov - 1:=Bv _ AG;have hu0:(0:Int)<=(un:Int):=AG
 have hu1:(un:Int) < (k:Int):=AG
 have hj0:(0:Int)<=(j:Int):=AG
 have hj1:(j:Int) < (L.length:Int):=AG
 have lrg:=(hrow.lt rg rfl).2;have lO:=hs.op.lt;obtain ⟨hsp,ADl⟩:=hs.put VG.o un (ov - 1);obtain ⟨WY,AE7⟩:=Aj hsp (HJ.o _ _ _ AIm.o ADl);have AEy:AI (W.heap.size<=(wr.setCell ⟨O,un,none⟩ (AB AE (ov - 1))).heap.size):=AF (BF iL.o ADl.size);have hgd:o2.getD un 0=ov:=by rw [C0,hov];rfl
 have eA:AI (Nw (o2,h2) (un:Int)=(o2.set un (ov - 1),if ov - 1=0 then Nt h2 un else h2)):=AF (by
  unfold Nw;simp only [CZ,hgd];have:(o2.set un (ov - 1)).getD un 0=ov - 1:=by rw [C0,Gv wY];rfl
  rw [this])
 have HPU:AI (Ky (Nw (o2,h2) (un:Int)).1 (Nw (o2,h2) (un:Int)).2<=Ky o2 h2):=AF (ACW (by simpa using wY));have HF2:AI ((L.take (j+1)).foldl Nw (o,h1)=Nw (o2,h2) (un:Int)):=AF (by rw [take_snoc hu,Rg,HF.o];rfl);have AFF:AI (∀c∈o2.set un (ov - 1), -(1000*(pre.length:Int)) - ((j+1:Nat):Int)<=c/\c<=1000):=AF (fun c hc=>by
  rcases Yu hc with hc | rfl
  · have:=AFG.o c hc;omega
  · omega)
 have hh2:h2.length < 1000000:=by have h1':=HPO.o;have h2':=WZ.o;have h3':=Q9.o;unfold Ky at h1' h2';omega
 have HUM:AI ((0:Int)<=(un:Int)/\(un:Int) < k):=AF hum;clear hrow hs wj hu hum hov AJs hsp ADl hgd AJo wY;by_cases hz:ov - 1=0
 ·have wh:ov=1:=by omega
  subst wh;have e3:(1:Int) - 1=0:=BE
  simp only [e3] at WY AE7 AEy eA AFF;rw [Am trivial] at eA;clear e1 hz;go_wp2_with (go_at_call 175;refine (Xp base G h2 un _ WY.o.q hh2).mono ?_)
  first | rintro e w3 u rfl hq3 hk3 | rintro e w3 ⟨⟨u,rfl⟩,hq3,hk3⟩
  obtain ⟨hs3,ADm⟩:=WY.o.kept VG.o hk3 hq3;obtain ⟨Gr,AK5⟩:=Aj hs3 (HJ.o _ _ _ AE7.o ADm);have AKZ:AI (W.heap.size<=w3.heap.size):=AF (BF AEy.o ADm.size);have AK7:AI (∀y∈Nt h2 (un:Int),0<=y/\y < k):=AF (fun y hy=>by
   rcases jE hy with hy | rfl
   · exact AE9.o y hy
   · exact HUM.o)
  clear hq3 hk3 hs3 ADm hco hfo hcj;go_wp2;go_roundg (L.length - (j+1))
  case measure=>exact Ln
  have hpu:=HPU.o;rw [eA.o] at hpu;exact ⟨j+1,_,_,by omega,rfl,by go_num,by rw [HF2.o,eA.o],by rw [D8];exact AE4.o,Gr.o,AK5.o,AKZ.o,AK7.o,BF hpu HPO.o,AFF.o⟩
 rw [Ah hz] at eA;go_wp2;go_roundg (L.length - (j+1))
 case measure=>exact Ln
 have hpu:=HPU.o;rw [eA.o] at hpu;exact ⟨j+1,_,_,by omega,rfl,by go_num,by rw [HF2.o,eA.o],by rw [D8];exact AE4.o,WY.o,AE7.o,AEy.o,AE9.o,BF hpu HPO.o,AFF.o⟩):p:=h
theorem AFT{p:Prop}(h:p:=by
 clear hgs hgt;clear a0 b0 a1 b1 a2 b2 a3 b3 a4 b4 a5 b5 a6 b6 a7 b7 a8 b8 a9 b9 a10 b10;have a0:=(HA.o.below C5.o la).cell 0;have b0:=(HB.o.below C5.o lb).cell 0;have a1:=(HA.o.below C5.o la).cell 1;have b1:=(HB.o.below C5.o lb).cell 1;have a2:=(HA.o.below C5.o la).cell 2;have b2:=(HB.o.below C5.o lb).cell 2;have a3:=(HA.o.below C5.o la).cell 3;have b3:=(HB.o.below C5.o lb).cell 3;have a4:=(HA.o.below C5.o la).cell 4;have b4:=(HB.o.below C5.o lb).cell 4;have a5:=(HA.o.below C5.o la).cell 5;have b5:=(HB.o.below C5.o lb).cell 5;have a6:=(HA.o.below C5.o la).cell 6;have b6:=(HB.o.below C5.o lb).cell 6;have a7:=(HA.o.below C5.o la).cell 7;have b7:=(HB.o.below C5.o lb).cell 7;have a8:=(HA.o.below C5.o la).cell 8;have b8:=(HB.o.below C5.o lb).cell 8;have a9:=(HA.o.below C5.o la).cell 9;have b9:=(HB.o.below C5.o lb).cell 9;have a10:=(HA.o.below C5.o la).cell 10;have b10:=(HB.o.below C5.o lb).cell 10;simp only [Ai,An,Aw] at a0 b0 a1 b1 a2 b2 a3 b3 a4 b4 a5 b5 a6 b6 a7 b7 a8 b8 a9 b9 a10 b10;have s0c:=kS.cell 0;have t0c:=kT.cell 0;have s1c:=kS.cell 1;have t1c:=kT.cell 1;have s2c:=kS.cell 2;have t2c:=kT.cell 2;have s3c:=kS.cell 3;have t3c:=kT.cell 3;have s4c:=kS.cell 4;have t4c:=kT.cell 4;have s5c:=kS.cell 5;have t5c:=kT.cell 5;simp only [Ai,An,Aw] at s0c t0c s1c t1c s2c t2c s3c t3c s4c t4c s5c t5c;have ls:=kS.lt;have lt:=kT.lt;clear kS kT;by_cases e0:x.name=y.name
 case neg=>
  have s0:(x.name.toList==y.name.toList)=false:=by rw [Dt];exact BO e0
  have E0:=AF e0;clear e0;go_wp2;go_ret;refine ⟨A8 ?_,AW BV.o C5.o⟩;exact (BO (fun h=>E0.o Fq)).symm
 have s0:(x.name.toList==y.name.toList)=true:=by rw [Dt];exact Bg e0
 have E0:=AF e0;clear e0;have hfo:=AGY x.w0 x.w1 x.w2 x.w3 y.w0 y.w1 y.w2 y.w3;by_cases e1:(decide (x.w0=y.w0) && decide (x.w1=y.w1) && decide (x.w2=y.w2) && decide (x.w3=y.w3))=true
 case neg=>
  have s1:(decide (x.w0=y.w0) && decide (x.w1=y.w1) && decide (x.w2=y.w2) && decide (x.w3=y.w3))=false:=by simpa using e1
  rw [s1] at hfo;have E1:=AF e1;clear e1 s1;go_wp2;go_ret;exact ⟨A8 (BO (fun h=>E1.o (by rw [h];simp))).symm,AW BV.o C5.o⟩
 rw [e1] at hfo;have E1:=AF e1;clear e1;by_cases e2:x.type.kind=y.type.kind
 case neg=>exact vS
 have E2:=AF e2;by_cases e3:x.type.lo=y.type.lo
 case neg=>exact vT
 have E3:=AF e3;by_cases e4:x.type.hi=y.type.hi
 case neg=>have E4:=AF e4;go_wp2;go_ret;refine ⟨A8 ?_,AW BV.o C5.o⟩;exact (BO (fun h=>E4.o Fq)).symm
 have E4:=AF e4;by_cases e5:x.type.Av=y.type.Av
 case neg=>
  have s5:(x.type.Av.toList==y.type.Av.toList)=false:=by rw [Dt];exact BO e5
  have E5:=AF e5;clear e5;go_wp2;go_ret;refine ⟨A8 ?_,AW BV.o C5.o⟩;exact (BO (fun h=>E5.o Fq)).symm
 have s5:(x.type.Av.toList==y.type.Av.toList)=true:=by rw [Dt];exact Bg e5
 have E5:=AF e5;clear e5;by_cases e6:x.type.unit=y.type.unit
 case neg=>have E6:=AF e6;go_wp2;go_ret;refine ⟨A8 ?_,AW BV.o C5.o⟩;exact (BO (fun h=>E6.o Fq)).symm
 have E6:=AF e6;obtain ⟨v7,e7⟩:=BH (BW x.type.names y.type.names);have HC:AI (Calls prog 111 #[AA A1 n1 c1,AA B1 m1 d1] wc fun e w'=>e=.returned (AX v7)/\AJ wc w'):=AF (by have hq:=AW BV.o C5.o;rw [<-e7];exact Me A1 B1 n1 c1 m1 d1 x.type.names y.type.names wc (H1.o.mono Ba hq) (K1.o.mono Ba hq))
 have E7:=AF e7;clear e7;go_wp2_with (go_at_call 111;refine HC.o.mono ?_;clear HC);rintro e w1 ⟨rfl,hb1⟩;have CG:=AF (AW C5.o hb1);clear hb1;cases v7
 case false=>go_wp2;go_ret;exact ⟨A8 (BO (fun h=>JP E7.o Fq)).symm,AW BV.o CG.o⟩
 go_wp2;go_ret;exact ⟨A8 (rR E0.o E1.o E2.o E3.o E4.o E5.o E6.o (Gx E7.o)),AW BV.o CG.o⟩):p:=h
theorem AFS{p:Prop}(h:p:=by
 obtain ⟨fb,fo,y,rfl,hfl,hy,z0,z1,z2,z3,z4,z5,z6,z7⟩:=Px (G1.o.mono FL HB3.o) hlt2;have hym:=HXM.o.2 y (Ci hy);have HY:=AF hy;have hjn:(j:Int) < (m1:Int):=AG
 have hj0:(0:Int)<=(j:Int):=AG
 have HC:AI (∀W,Calls prog 171 #[.agg #[AB AE n3,.map (some M)],AB AE y.schema] W fun e w'=>e=.returned (AX true)/\AJ W w'):=AF (fun W=>by have:=Xa n3 y.schema (.map (some M)) W;rw [Bg hym.1,Bg hym.2] at this;exact this)
 clear hym hy;go_upto_region 12 with fail;clear z0 z1 z2 z3 z4 z5 z6 z7;obtain ⟨w4,hw4⟩:=Ab (wr.alloc (.cells #[AN y.name,AN y.kind,AB AE y.schema,AN y.Av.name,AN y.Av.path,AB AE y.Av.var,AB AE y.Av.field,AB AE y.Av.n] 290));obtain ⟨gf,hgf⟩:=Ab wr.heap.size;have kF:AZ w4 gf 290 #[AN y.name,AN y.kind,AB AE y.schema,AN y.Av.name,AN y.Av.path,AB AE y.Av.var,AB AE y.Av.field,AB AE y.Av.n]:=by rw [hw4,hgf];exact AZ.new _ _ _
 have hb4:AJ wr w4:=by rw [hw4];exact (Af _ _).alloc (Ad _) _
 rw [<-hw4,<-hgf];clear hw4 hgf;have d2:=kF.cell 2;have lf:=kF.lt;have lb:=YN.o.lt;have b0:=(YN.o.below hb4 lb).cell 0;have b1:=(YN.o.below hb4 lb).cell 1;simp only [Ai,An,Aw] at b0 b1 d2;obtain ⟨HF4,HB4⟩:=Aj kF hb4;clear kF hb4;go_wp2_with (go_at_call 171;refine (HC.o w4).mono ?_)
 first | rintro e w5 rfl hb5 | rintro e w5 ⟨rfl,hb5⟩
 have CW:AI (AJ wr w5):=AF (AW HB4.o hb5);have kF5:=HF4.o.below hb5 lf;have d2:=kF5.cell 2;have kB5:=YN.o.below CW.o lb;have b0:=kB5.cell 0;have b1:=kB5.cell 1;have kR5:=HR3.o.below CW.o HR3.o.lt;have c1r:=kR5.cell 1;simp only [Ai,An,Aw] at c1r d2 b0 b1;obtain ⟨Tb,YH⟩:=Aj kB5 kR5;have hG5:=eM.o.below CW.o;have AIu:AI (AJ w w5):=AF (AW HB3.o CW.o);obtain ⟨hb,hhb⟩:=AIn.o;have hlook:=DH (IW underlying3) underlying204 (z:=.map none) AL hG5.o x.schema false;rw [hhb] at hlook;simp only [Cu,Ce,If,Hn] at hlook;have hmem:=Vs hhb;obtain ⟨hb1,hb2,hb3⟩:=hG5.ins _ hmem;obtain ⟨w6,hrun6,hm6,pG⟩:=nZ (IW underlying3) underlying201 hb3 y.schema true;have hG6:=hG5.insert hmem hm6 pG;have hfe:(fun z=>if z=x.schema then Gq ((fun z=>if z=x.schema then ((x.froms.take j).map fun f=>f.schema).foldl Gq (Bj (rs.take k) x.schema) else Bj (rs.take k) z) x.schema) y.schema else (fun z=>if z=x.schema then ((x.froms.take j).map fun f=>f.schema).foldl Gq (Bj (rs.take k) x.schema) else Bj (rs.take k) z) z)=(fun z=>if z=x.schema then ((x.froms.take (j+1)).map fun f=>f.schema).foldl Gq (Bj (rs.take k) x.schema) else Bj (rs.take k) z):=by
  funext z;rw [take_snoc HY.o,DM,Rg];by_cases e:z=x.schema
  · subst e;simp only [Ct];rfl
  · simp only [Ah e]
 rw [hfe] at hG6;obtain ⟨qq,HK6,HR6⟩:=Az hG6 (Tb.o.grown pG (fun e=>by injection e with e;subst e;exact Rm Tb.o hb3.at_)) (YH.o.grown pG (fun e=>by injection e with e;subst e;exact Rm YH.o hb3.at_));have ALM:AI (AJ w w6):=AF (AIu.o.grown pG AIu.o.size (fun r e=>by cases e;exact hb1));clear hfe hG6 hmem hb1 hb2 hb3 hm6 pG hG5 hhb kF5 kB5 kR5 hb5;go_wp2;go_roundg (m1 - (j+1))
 case measure=>have:=eF.o;omega
 case rel=>exact ⟨j+1,by omega,rfl,by go_num,qq.o,HK6.o,HR6.o,ALM.o⟩):p:=h
theorem YW{p:Prop}(h:p:=by
 rintro e w1 ⟨rfl,hb1⟩;have HB1:=AF (HB.o.trans (((BP _ _).alloc Ac _).trans (hb1.mono BX) |>.mono HB.o.size));by_cases exy:x=y
 ·have hd:decide (x=y)=true:=Bg exy
  rw [hd];have HXE:=AF exy;clear exy hd hb1;go_wp2;go_roundg (n - (k+1))
  case measure=>exact Bc
  case rel=>exact ⟨k+1,by omega,rfl,by go_num,Z8 HX.o HY.o Dw.o HXE.o,HB1.o⟩
 obtain rfl:=RJ HX.o HY.o Dw.o exy;have hd:decide (x=y)=false:=BO exy;rw [hd];clear hd exy hb1;go_wp2;go_ret;exact ⟨rfl,HB1.o⟩):p:=h
theorem YV{p:Prop}(h:p:=by
 by_cases exy:x=y
 ·have hd:decide (x=y)=true:=Bg exy
  simp only [hd,Bool.not_true] at hne;clear hd;have HXE:=AF exy;clear exy;go_wp2_with fail;go_quiet (fail);go_wp2;go_roundg (n - (k+1))
  case measure=>exact Bc
  case rel=>exact ⟨k+1,by omega,rfl,by go_num,Z8 HX.o HY.o Dw.o HXE.o,below_drewN HB.o _⟩
 obtain rfl:=RJ HX.o HY.o Dw.o exy;have hd:decide (x=y)=false:=BO exy;simp only [hd,Bool.not_false] at hne;clear hd exy;go_wp2_with fail;go_quiet (fail);go_wp2;go_ret;exact ⟨rfl,below_drewN HB.o _⟩):p:=h
theorem AFR{p:Prop}(h:p:=by
 have HB2:AI (AJ W (wr.setCell ⟨O,k,none⟩ (AB AE c))):=AF (HB.o.setCell (show W.heap.size<=O from xP) _);have hsl:(Eu rs k).length<=k:=by have:=QY rs k;unfold Ky at this;omega
 by_cases hc0:c=0
 ·subst hc0
  have HS:AI (Eu rs (k+1)=Nt (Eu rs k) k):=AF (by rw [QH,Am HC.o]);go_wp2_with (go_at_call 175;refine (Xp base G (Eu rs k) k _ Kj.o AG).mono ?_)
  first | rintro e w2 u rfl hq2 hk2 | rintro e w2 ⟨⟨u,rfl⟩,hq2,hk2⟩
  have JD:AI (AZ w2 O 3 (((IZ rs (k+1)++List.replicate (n - (k+1)) 0).map (Value.int .i64)).toArray)):=AF ((hk2.low Kj.o hOb uf).trans KU.o);have HR3:=AF (HR2.o.keep (fun b hb=>hk2.low Kj.o (V5.o b hb).2.1 (V5.o b hb).2.2.2));have HB3:AI (AJ W w2):=AF (HB2.o.trans (hk2.below Kj.o hGW));rw [<-HS.o] at hq2;have eF:=AF hq2;clear hq2 hk2 hlv lx;go_wp2;go_roundg (n - (k+1))
  case measure=>exact Bc
  case rel=>exact ⟨k+1,by omega,rfl,by go_num,JD.o,eF.o,HR3.o,HB3.o⟩
 have hcz:¬(c:Int)=0:=AG
 have HS:AI (Eu rs (k+1)=Eu rs k):=AF (by rw [QH,Ah (by rw [HC.o];exact hc0)]);go_wp2;go_roundg (n - (k+1))
 case measure=>exact Bc
 case rel=>exact ⟨k+1,by omega,rfl,by go_num,KU.o,by rw [HS.o];exact Kj.o,HR2.o,HB2.o⟩):p:=h
theorem ME{p:Prop}(h:p:=by
 obtain rfl:=AA7 Dw.o HE.o Lj;go_wp2;go_ret;exact ⟨rfl,HB.o⟩):p:=h
theorem bO{p:Prop}(h:p:=by
 have HE:AI (B0 (l.map (·.name)) k=col (l.map (·.name))):=by show _=_;have:=HN.o;rw [col,show k=(l.map (·.name)).length by first | omega | (simp;omega)]
 go_wp2;go_ret2;exact ⟨_,by rw [HE.o];rfl,by rw [<-HE.o];exact HM.o,Ad _,HB.o⟩):p:=h
theorem bX{p:Prop}(h:p:=by
 refine Cx AL ?_ _;simp only [Bp,B9];have Gr:=AF hS;clear TK;go_wp2
 go_meet
 case rel=>exact ⟨_,rfl,Gr.o⟩):p:=h
theorem Wq{p:Prop}(h:p:=by
 have HT:AI (l.all p=true):=by have:=HV.o;rw [Cy Lj] at this;exact this
 go_wp2;go_ret;exact ⟨⟨_,rfl,by rw [HT.o];rfl⟩,HB.o⟩):p:=h
theorem AAd{p:Prop}(h:p:=by
 obtain rfl:h=[]:=JO AG;have HF:AI (pre=Cr rs k):=AF (by have:=qo.o;rw [rX,EU] at this;exact this);have hvf:∃A c,AZ wr G 297 #[AA A 0 c]:=by
  obtain ⟨v,h1,h2,_⟩:=HIS.o.q;rcases h2.2 with ⟨rfl,_⟩ | ⟨g,cap,cur,rfl,_⟩
  · exact ⟨_,_,h1⟩
  · exact ⟨_,_,h1⟩
 obtain ⟨A,c,hkb⟩:=hvf;have c0:=hkb.cell 0;have lG:=hkb.lt;simp only [Ai,An] at c0;clear hkb;go_wp2_with (go_at_call 176;refine (len_any _ _ _ _).mono ?_;rintro e w2 ⟨rfl,rfl⟩)
 go_end0
 exact ⟨⟨_,rfl⟩,pre,HF.o,HJP.o⟩):p:=h
theorem mW{p:Prop}(h:p:=by
 go_quiet (fail);go_wp2;go_roundg (n - (k+1))
 case measure=>exact Bc
 case rel=>exact ⟨k+1,_,_,by omega,rfl,by go_num,HST.o 0 HZ.o,grown_drewN PN.o _,Kk.o.kept (row:=none) (grown_drewN (DN _ _) _) NS,by rw [<-set_drop HLEN.o HU.o];exact YQ.o⟩):p:=h
theorem J5{p:Prop}(h:p:=by
 go_wp2;go_ret;exact ⟨rfl,Af _ _⟩):p:=h
theorem Wp{p:Prop}(h:p:=by
 rintro e w1 ⟨⟨i,rfl,hi⟩,hb1⟩;obtain ⟨HB1,HI⟩:=Aj hb1 hi;clear hb1 hi;go_wp2;go_ret;exact ⟨by rw [<-HI.o];rfl,HB1.o⟩):p:=h
theorem AAc{p:Prop}(h:p:=by
 refine Cx AL ?_ _;simp only [Bp,B9];have k:=(HE.o _ hS5).2.2;have e0:=k.cell 0;have f0:=k.frozen 0;have l0:=k.lt;obtain ⟨K,VC,HR0⟩:=Az k hS5 (hrl.trans h0);simp only [Ai,An] at e0;clear hS3 hS4 hS5 Sb MZ hL hT O5 NP k h0 hrl;go_wp2_with fail;refine AFo (e:=0) ?_ ((K.o.put 0 (AB AE 0)).cell 0) ⟨by rw [HR0.o],(AW Cg.o VC.o).setCell tK _⟩;rfl):p:=h
theorem bW{p:Prop}(h:p:=by
 go_wp2;go_ret;refine ⟨A8 ?_,BV.o.trans (Below.mono (((Af wb.heap.size wb).drew.trans hb).trans (hc.mono hb.size)) BV.o.size)⟩;rw [NI.o];simp [JW]):p:=h
theorem bV{p:Prop}(h:p:=by
 rintro e w1 ⟨rfl,hb1⟩;have HB1:=AF (Below.trans (BP _ _) (hb1.mono Ac));clear hb1;go_wp2;go_ret;exact ⟨rfl,HB1.o⟩):p:=h
theorem AAb{p:Prop}(h:p:=by
 rw [HT.o];go_enter func55,ntmps55;go_wp2_with fail
 all_goals first
  | (exfalso;omega)
  | exact E8 (v:=.tuple #[.agg #[AB AE 0,AB AE 0,AB AE 0,AN ⟨#[]⟩,AB AE 0,AA none 0 0],AX false]) ti rfl ⟨⟨_,_,_,rfl,Ag.nil _ _ (Ar _),by simp [zT]⟩,(BP _ _).alloc Ac _⟩):p:=h
theorem mV{p:Prop}(h:p:=by
 go_enter func100,ntmps100;go_wp2_with fail
 all_goals first
  | (exfalso;omega)
  | (go_ret;exact ⟨rfl,((BP _ _).alloc Ac _)⟩)):p:=h
theorem bS{p:Prop}(h:p:=by
 rintro e w1 ⟨rfl,hb1⟩;have HB1:=AF (AW hal hb1);clear hb1 hal hk hs hc hmf;go_wp2;go_ret;exact ⟨by simp,HB1.o⟩):p:=h
theorem bR{p:Prop}(h:p:=by
 have hz:prog.cellsOf 271=5:=AL
 simp [part,isAgg,run_underlying (P:=prog) underlying271]):p:=h
theorem AAa{p:Prop}(h:p:=by
 have e:xs.map (Act.eval ⟨l.toArray,D⟩)=args:=by apply Yl.1;rw [UM];exact ha
 have hex:(execOp (Act.eval ⟨l.toArray,D⟩) o).run P w=.ok (.enter f args) w:=by unfold execOp;rw [ho];simp [resolve,Act.eval,Deferred.ofValue,invoke,<-e];exact he _ w
 unfold Oper.wp;rw [hex];exact hc.mono fun e w' hR=>by obtain ⟨v,rfl,hS,hk⟩:=h e w' hR;rw [<-MG,<-hd] at hk;exact ⟨hS,hk⟩):p:=h
theorem mU{p:Prop}(h:p:=by
 go_wp2_with fail
 all_goals
  go_ret;refine ⟨A8 ?_,(Af _ _).alloc (Ad _) _⟩
  go_light
  first
   | (simp_all;done)
   | (simp_all [AGi];done)
   | (simp_all;intros;exfalso;omega)):p:=h
theorem mT{p:Prop}(h:p:=by
 by_cases e1:x1=y1
 case neg=>simp [e0,e1]
 by_cases e2:x2=y2
 case neg=>simp [e0,e1,e2]
 by_cases e3:x3=y3
 case neg=>simp [e0,e1,e2,e3]
 by_cases e4:x4=y4
 case neg=>simp [e0,e1,e2,e3,e4]
 simp [e0,e1,e2,e3,e4]):p:=h
theorem mS{p:Prop}(h:p:=by
 unfold method;simp [typeInfo,run_program,hi,hm,follow,run_underlying underlying297,Place.get,asAddr,fieldPlace,receiverAt,run_underlying underlying295,go_sem,h]):p:=h
theorem AAZ{p:Prop}(h:p:=by
 simp only [Option.all_none,Option.all_some,Pa,List.all_nil,Nj,Hr,GF,Vb,List.isEmpty_cons];generalize decide (1<=a.op)=p1;generalize decide (a.op<=4)=p2;generalize decide (a.op=2)=p3;generalize decide (a.op=3)=p4;generalize isNum a.a=p5;generalize isNum a.b=p6;generalize Py y=p7;revert p1 p2 p3 p4 p5 p6 p7;decide):p:=h
theorem mR{p:Prop}(h:p:=by
 clear h;go_wp2_with (first | (go_at_call 30;refine (EH 190 _).mono ?_;rintro e w8 ⟨rfl,rfl⟩) | fail);exact Jc.o _ _ _ rfl rfl ET.o HN.o BE):p:=h
theorem AAY{p:Prop}(h:p:=by
 rw [XT _ _ hmem,<-take_snoc hx] at EI;rw [<-take_snoc hx] at hv;obtain ⟨HB3,G8,HV3⟩:=Az (HB.o.grown hg3 HB.o.size (fun r e=>by cases e;exact Ad _)) EI hv;clear EI hg3 hv hx hg hb hm hmem;go_wp2;go_roundg (n - (k+1))
 case measure=>exact Ec
 case rel=>exact ⟨k+1,by omega,rfl,by go_num,HV3.o,G8.o,HB3.o⟩):p:=h
theorem AAX{p:Prop}(h:p:=by
 go_roundg (m - (j+1))
 case measure=>have:=HG2.o;have:=LQ.o;omega
 have hlt:=LQ.o;refine ⟨j+1,by omega,rfl,by go_num,?_,Qp.o.kept DZ (.inr (by intro e;have:=(Qp.o.lt _ e).1;have:=YF.o;omega)),H6.o.trans (hb7.mono (Ed _))⟩;rw [AFu Aq (by rw [<-Zp.o,NI.o]) HX.o NK.o,<-ES.o];simpa [<-HNE.o] using k7):p:=h
theorem AAW{p:Prop}(h:p:=by
 obtain ⟨b,off,x,cs,e,hb,hl,hlen,hc,hR⟩:=h.at_ hk;have hR':cs=_:=hR;subst hR';exact ⟨b,off,x,e,hb,hl,by simpa using hc 0 _ rfl,by simpa [Nat.add_assoc] using hc 1 _ rfl,by simpa [Nat.add_assoc] using hc 2 _ rfl,by simpa [Nat.add_assoc] using hc 3 _ rfl,by simpa [Nat.add_assoc] using hc 4 _ rfl⟩):p:=h
theorem AAV{p:Prop}(h:p:=by
 refine ⟨?_,qU.o,HR.o,fun b hb=> ?_⟩
 ·have:=HO.o
  simpa using this
 rw [wd] at hb;obtain ⟨h1,h2⟩:=HP0.o b hb;have hqp:=qU.o.pt;exact ⟨h1,Ay h2 HB.o.size,fun hr=>by have:=(ui.rb b hr).1;omega,by omega,by omega,fun e=>by have:=(hqp b e.symm).1;omega⟩):p:=h
theorem mQ{p:Prop}(h:p:=by
 have e:Act.eval ⟨l.toArray,D⟩ (.tmp t)=v:=by simp [Act.eval,hv]
 unfold execOp;rcases ho with ho | ho
 · rw [ho];simp [e]
 · rw [ho];simp [e]):p:=h
theorem AAU{p:Prop}(h:p:=by
 go_wp2;go_roundg (vn - (k+1))
 case measure=>exact Bc
 refine ⟨k+1,_,_,by omega,rfl,by go_num,Fc Db.o HM.o HST.o,PN.o,T7.o,?_,by rw [<-set_drop HLEN.o HM.o];exact YI.o⟩;have:=LN.o;have h3:=Kk.o;rw [this] at h3 ⊢;exact h3):p:=h
theorem AAT{p:Prop}(h:p:=by
 go_enter func239,ntmps239;go_wp2_with fail;go_region
 go_end0
 refine ⟨⟨_,rfl⟩,?_,grown_drew (OT (OT (xV _ _) _ _) _ _)⟩;rw [<-HS.o];exact ((HO.o.stored _ _).1.stored _ _).1.drew):p:=h
theorem AAS{p:Prop}(h:p:=by
 rcases hno with h | ⟨h1,h⟩ | ⟨h1,h2,h⟩
 all_goals have hf:=JK h
 all_goals go_wp2_with (go_at_call 30;refine (EH 190 _).mono ?_;rintro e w9 ⟨rfl,rfl⟩)
 all_goals (refine Jc.o _ _ _ ?_ ET.o HN.o;rfl)):p:=h
theorem mP{p:Prop}(h:p:=by
 refine hfree k ok hk hki ?_ hno;by_cases hjk:j=k
 · subst hjk;exact hjun
 · rw [RS true hjk] at hun;exact hun):p:=h
theorem AAR{p:Prop}(h:p:=by
 go_wp2_with fail;go_quiet (fail);go_wp2;go_roundg (n - (k+1))
 case measure=>exact Bc
 case rel=>exact ⟨k+1,by omega,rfl,by go_num,Z8 HX.o HY.o Dw.o rfl,below_drewN HB.o _⟩):p:=h
theorem mO{p:Prop}(h:p:=by
 rcases hx with rfl | rfl
 · exact E8 hr hdf ⟨rfl,hb⟩
 · exact bodyPost_end hr hdf ⟨rfl,hb⟩):p:=h
theorem AAQ{p:Prop}(h:p:=by
 rcases hno with h | ⟨h1,h⟩
 all_goals go_wp2_with (go_at_call 30;refine (EH 190 _).mono ?_;rintro e w9 ⟨rfl,rfl⟩)
 all_goals (refine Jc.o _ _ _ ?_ ET.o HN.o;rfl)):p:=h
theorem AAP{p:Prop}(h:p:=by
 have h1:=hall e he hb;have h0:=(JG.1 hr).1;rw [heq] at h1;rcases Ez i listed.size with h' | h'
 · simp [h'] at h0 h1;rw [h0] at h1;cases h1
 · simp [Array.getElem?_eq_none h'] at h1):p:=h
theorem AAO{p:Prop}(h:p:=by
 simp only [BZ] at hB;rw [<-MG,<-hd] at h;exact wpAnyH_take hi hB.1 hB.2.1 hB.2.2 (fun c a w hq=>by rw [hd] at hq;exact hQ c a _ w hq) (.inr ⟨hw,rfl⟩) hS h):p:=h
theorem AAN{p:Prop}(h:p:=by
 have E1:=AF e1;clear e1;go_wp2;go_ret;refine ⟨A8 ?_,AW BV.o C5.o⟩;exact (BO (fun h=>E1.o Fq)).symm):p:=h
theorem AAM{p:Prop}(h:p:=by
 simp only [BZ] at hB;rw [<-MG,<-hd] at h;exact wpAnyH_take hi hB.1 hB.2.1 hB.2.2 (fun c a w hq=>by rw [hd] at hq;exact hQ c a _ w hq) (.inl ⟨hw,hv⟩) hS h):p:=h
theorem Rq{p:Prop}(h:p:=by
 rw [Ou hh,Ou ht];kernel_rfl):p:=h
theorem AAL{p:Prop}(h:p:=by
 subst hv;simp only [Cu,Ce,If,Hn] at hlook;clear hx hg hb hm hmem;go_wp2;go_ret;exact ⟨rfl,HB.o⟩):p:=h
theorem Rp{p:Prop}(h:p:=by
 go_wp2
 go_ret;exact ⟨rfl,rfl⟩):p:=h
theorem AAK{p:Prop}(h:p:=by
 go_wp2;go_ret;exact ⟨v7,cs1++cs7,rfl,by rw [CT];exact qe.o,Ao.append (Ik Wj.o) (Ik HC7.o),ET.o⟩):p:=h
theorem AAJ{p:Prop}(h:p:=by
 by_cases e1:x1=y1
 case neg=>simp [e0,e1]
 by_cases e2:x2=y2
 case neg=>simp [e0,e1,e2]
 by_cases e3:x3=y3
 case neg=>simp [e0,e1,e2,e3]
 simp [e0,e1,e2,e3]):p:=h
theorem AAI{p:Prop}(h:p:=by
 have e:(a.tmps.setIfInBounds d v)[p]?.getD undef=a.tmps[p]?.getD undef:=by rw [Rh,Ah hd]
 simp [results,hr,Act.put,e]):p:=h
theorem bQ{p:Prop}(h:p:=by
 go_wp2;go_ret;exact ⟨rfl,HW.o _ _ _⟩):p:=h
theorem mN{p:Prop}(h:p:=by
 rw [World.putObj_heap_same (Cz.1 hl3).1,hrec];rfl):p:=h
theorem AAH{p:Prop}(h:p:=by
 by_cases e0:x0=y0
 case neg=>simp [e0]
 by_cases e1:x1=y1
 case neg=>simp [e0,e1]
 by_cases e2:x2=y2
 case neg=>simp [e0,e1,e2]
 simp [e0,e1,e2]):p:=h
theorem AAG{p:Prop}(h:p:=by
 have hle:i*sz+sz<=cs.length:=by rw [hc.1,<-Jm];exact Jr _ hil
 rw [DR,Hq];omega):p:=h
theorem mM{p:Prop}(h:p:=by
 go_ret;exact ⟨⟨_,rfl⟩,(Af _ _).alloc (Ad _) _⟩):p:=h
theorem AAF{p:Prop}(h:p:=by
 clear hth hit hon;go_wp2_with fail;exact VW (.inl rfl) rfl rfl rfl KD.o underlying34 rfl HI.o Eb.o YS.o):p:=h
theorem AAE{p:Prop}(h:p:=by
 exact VW (.inl rfl) rfl rfl rfl k7 underlying34 rfl CV.o Eb.o (FK.o.trans (hb7.mono (Ed _)))):p:=h
theorem AAD{p:Prop}(h:p:=by
 exact VW (.inl rfl) rfl rfl rfl k4 underlying34 rfl HI.o Eb.o (HB3.o.trans (hb4.mono (Ed _)))):p:=h
theorem AAC{p:Prop}(h:p:=by
 rw [EV Lj] at hv;subst hv;clear hm hb;go_wp2;go_ret;exact ⟨rfl,HB.o⟩):p:=h
theorem AAB{p:Prop}(h:p:=by
 unfold method;simp [typeInfo,run_program,hi,hm,follow,run_underlying underlying294,Place.get,receiverAt]):p:=h
theorem AAA{p:Prop}(h:p:=by
 go_upto_region 10 with fail;go_quiet (fail);go_wp2;go_ret;exact ⟨A8 HE.o.symm,below_drewN CY.o _⟩):p:=h
theorem zy{p:Prop}(h:p:=by
 go_roundg (19 - (j+1))
 case measure=>exact Bc
 case rel=>exact ⟨j+1,by omega,rfl,by go_num,Wf.o.drew⟩):p:=h
theorem zx{p:Prop}(h:p:=by
 go_wp2_with fail
 all_goals
  go_ret;refine ⟨A8 ?_,HW.o _ _⟩
  go_light
  first
   | rfl
   | (simp_all;done)):p:=h
theorem zw{p:Prop}(h:p:=by
 have hw:Region.wanted o (yielded ops a.tmps)=true:=by simp [Region.wanted,hg]
 simp only [hw,Ct];exact .inl h):p:=h
theorem zu{p:Prop}(h:p:=by
 rcases hrow.2 with ⟨rfl,h0⟩ | ⟨g,cap,cur,rfl,_⟩
 · exact ⟨_,_,by rw [h0]⟩
 · exact ⟨_,_,rfl⟩):p:=h
theorem zt{p:Prop}(h:p:=by
 obtain ⟨b,off,x,cs,e,hb,hl,hlen,hc,rfl⟩:=h.at_ hk;exact ⟨b,off,x,e,hb,hl,by simpa using hc 0 _ rfl⟩):p:=h
theorem zr{p:Prop}(h:p:=by
 exact VW (.inl rfl) rfl rfl rfl k3 underlying34 rfl HI.o Eb.o (HB2.o.trans hb3)):p:=h
theorem zq{p:Prop}(h:p:=by
 rcases JR ho1 with ⟨rfl,_⟩ | ⟨g,cap,rfl,_⟩
 · exact Rz
 · exact ⟨_,_,_,rfl⟩):p:=h
theorem bP{p:Prop}(h:p:=by
 rw [Hp,<-ht] at h2;exact h2):p:=h
theorem zp{p:Prop}(h:p:=by
 rcases JR hi2 with ⟨h,h0⟩ | ⟨g,cap,h,_⟩
 · injection h with _ h;omega
 · injection h):p:=h
theorem zo{p:Prop}(h:p:=by
 rw [eS] at hx;split at hx
 · injection hx with hx;exact hx.symm
 · cases hx):p:=h
theorem zl{p:Prop}(h:p:=by
 rcases hx with rfl | rfl
 · exact E8 hr hdf hR
 · exact bodyPost_end hr hdf hR):p:=h
theorem mL{p:Prop}(h:p:=by
 go_wp2;go_ret;exact ⟨rfl,HB2.o⟩):p:=h
theorem zk{p:Prop}(h:p:=by
 go_wp2
 go_ret;exact ⟨_,[],rfl,Ao.nil,ED _ _ _ _,Af _ _⟩):p:=h
theorem zj{p:Prop}(h:p:=by
 go_ret;exact ⟨rfl,((BP _ _).alloc Ac _)⟩):p:=h
theorem zh{p:Prop}(h:p:=by
 obtain ⟨u0,u1,u2,u3,u4,u5⟩:=x;obtain ⟨v0,v1,v2,v3,v4,v5⟩:=y
 skip
 simp_all):p:=h
theorem zg{p:Prop}(h:p:=by
 go_wp2;go_ret;exact ⟨rfl,(Af _ _).alloc (Ad _) _⟩):p:=h
theorem zf{p:Prop}(h:p:=by
 exact Pp D (k*32) w3 _ Zj.o (by rw [VJ LU.o hk,Eb.o];omega)):p:=h
theorem mK{p:Prop}(h:p:=by
 have E0:=AF e0;clear e0;go_wp2;go_ret;refine ⟨A8 ?_,AW BV.o C5.o⟩;exact (BO (fun h=>E0.o Fq)).symm):p:=h
theorem ze{p:Prop}(h:p:=by
 refine qT 10 270 hS ?_ (v:=AX false);refine qV 11 271 270 (AX false) hS ?_;refine qN 12 272 hS ?_;refine qN 13 273 hS ?_;refine qN 14 274 hS ?_;refine qN 15 275 hS ?_;refine qN 16 276 hS ?_;refine qN 17 277 hS ?_;refine qN 18 278 hS ?_;refine qN 19 279 hS ?_;refine qN 20 280 hS ?_;refine qN 21 281 hS ?_;refine qN 22 282 hS ?_;refine qT 23 283 hS ?_ (v:=AX false);refine qV 24 26 283 (AX false) hS ?_;exact bX):p:=h
theorem zb{p:Prop}(h:p:=by
 refine qT 10 337 hS ?_ (v:=AX false);refine qV 11 338 337 (AX false) hS ?_;refine qN 12 339 hS ?_;refine qN 13 340 hS ?_;refine qN 14 341 hS ?_;refine qN 15 342 hS ?_;refine qN 16 343 hS ?_;refine qN 17 344 hS ?_;refine qN 18 345 hS ?_;refine qN 19 346 hS ?_;refine qN 20 347 hS ?_;refine qT 21 348 hS ?_ (v:=AX false);refine qV 22 27 348 (AX false) hS ?_;exact bX):p:=h
theorem za{p:Prop}(h:p:=by
 go_wp2_with fail;go_quiet (fail);go_wp2;go_ret;exact ⟨rfl,below_drewN HB.o _⟩):p:=h
theorem mJ{p:Prop}(h:p:=by
 go_wp2;go_ret;exact ⟨rfl,HB.o⟩):p:=h
theorem zZ{p:Prop}(h:p:=by
 have s0:(x.name.toList==y.name.toList)=false:=by rw [Dt];exact BO e0
 exact mK):p:=h
theorem Od{p:Prop}(h:p:=by exact ((BP _ _).alloc Ac _)):p:=h
theorem vQ{p:Prop}(h:p:=by exact ((BP _ _).alloc Ac _).alloc BX _):p:=h
theorem Sx{p:Prop}(h:p:=by exact (BP _ _).alloc Ac _):p:=h
theorem vP{p:Prop}(h:p:=by exact ((Af _ w).alloc (Ad _) _).alloc Ac _):p:=h
theorem bI{p:Prop}(h:p:=by exact ((AZ.new _ _ _).alloc _).alloc _):p:=h
theorem vO{p:Prop}(h:p:=by exact (Mw _ _ _ Ac).trans (World.alloc_heap_new w _)):p:=h
theorem bF{p:Prop}(h:p:=by exact (Af _ _).alloc (Ad _) _):p:=h
theorem vN{p:Prop}(h:p:=by exact (HB.o.mono AG).setCell (by exact hb) _):p:=h
theorem AFQ{p:Prop}(h:p:=by exact (HB2.o.alloc HB2.o.size _).alloc UF _):p:=h
theorem li{p:Prop}(h:p:=by exact (EJ Ac).alloc _):p:=h
theorem zY{p:Prop}(h:p:=by exact (BO (fun h=>E1.o Fq)).symm):p:=h
theorem zX{p:Prop}(h:p:=by exact (h.els.mono hR hb).append ((Ao.one hnl hx).mono hR hb)):p:=h
theorem mI{p:Prop}(h:p:=by exact .inr ⟨ch,rfl,rfl,.inr ⟨ch,rfl,aU⟩⟩):p:=h
theorem mH{p:Prop}(h:p:=by exact Jc.o _ _ _ rfl rfl ET.o HN.o BE):p:=h
theorem bN{p:Prop}(h:p:=by exact Bv _ AG):p:=h
theorem mG{p:Prop}(h:p:=by exact Yr _ (by rw [<-hfi] at h1 h2 ⊢;omega)):p:=h
theorem AGm{p:Prop}(h:p:=by exact absurd h (Mu Dw.o)):p:=h
theorem zW{p:Prop}(h:p:=by exact below_drewN ((BP _ _).alloc Ac _) 1):p:=h
theorem mF{p:Prop}(h:p:=by exact AB0 v0 v1 v3 v4 v5 v6 A n c ns r W (hs.mono FI hW)):p:=h
theorem Oc{p:Prop}(h:p:=by exact fun _ _ _ _ h=>by cases h.1):p:=h
theorem zV{p:Prop}(h:p:=by exact hIB _ _ _ (hIB _ _ _ h0 (Book.alloc _ _ (Ad _))) (Book.alloc _ _ Ac)):p:=h
theorem Ro{p:Prop}(h:p:=by exact AJM rfl BE BE):p:=h
theorem mE{p:Prop}(h:p:=by exact vx (Dr.1 h4 r hr)):p:=h
theorem mD{p:Prop}(h:p:=by exact run_enterLoop_outer _ _ _ _ _):p:=h
theorem zU{p:Prop}(h:p:=by exact uF (cs:=[AB AE yk,AB AE yl,AB AE yh,AN yf,AB AE yu,AA B m' d']) (t:=97) (EJ Ac) rfl ⟨B,m',d',rfl,HS.o⟩):p:=h
theorem bM{p:Prop}(h:p:=by exact ⟨((hc.cell (p:=⟨ga,1,none⟩) (Ay la hb.size)).trans (hb.cell (p:=⟨ga,1,none⟩) la)).trans a1,((hc.cell (p:=⟨gb,0,none⟩) (Ay lb hb.size)).trans (hb.cell (p:=⟨gb,0,none⟩) lb)).trans b0,((hc.cell (p:=⟨gb,1,none⟩) (Ay lb hb.size)).trans (hb.cell (p:=⟨gb,1,none⟩) lb)).trans b1,((hc.cell (p:=⟨gb,2,none⟩) (Ay lb hb.size)).trans (hb.cell (p:=⟨gb,2,none⟩) lb)).trans b2,((hc.cell (p:=⟨gb,3,none⟩) (Ay lb hb.size)).trans (hb.cell (p:=⟨gb,3,none⟩) lb)).trans b3,((hc.cell (p:=⟨gb,4,none⟩) (Ay lb hb.size)).trans (hb.cell (p:=⟨gb,4,none⟩) lb)).trans b4,((hc.cell (p:=⟨gb,5,none⟩) (Ay lb hb.size)).trans (hb.cell (p:=⟨gb,5,none⟩) lb)).trans b5,((Af wb.heap.size wb).drew.trans hb).trans (hc.mono hb.size)⟩):p:=h
theorem bL{p:Prop}(h:p:=by exact ⟨(hb.cell (p:=⟨ga,1,none⟩) la).trans a1,(hb.cell (p:=⟨gb,0,none⟩) lb).trans b0,(hb.cell (p:=⟨gb,1,none⟩) lb).trans b1,(hb.cell (p:=⟨gb,2,none⟩) lb).trans b2,(hb.cell (p:=⟨gb,3,none⟩) lb).trans b3,(hb.cell (p:=⟨gb,4,none⟩) lb).trans b4,(hb.cell (p:=⟨gb,5,none⟩) lb).trans b5,(Af wb.heap.size wb).drew.trans hb⟩):p:=h
theorem zS{p:Prop}(h:p:=by exact ⟨.ret,a',w',hq,fun hr=>(harr.1 hr).imp fun _ h=>s1.trans h,fun hr=>by rw [hro] at hr;cases hr⟩):p:=h
theorem zR{p:Prop}(h:p:=by exact ⟨AA none 0 0,AZ.new _ _ _,ED _ _ _ _,by omega,by simp⟩):p:=h
theorem J4{p:Prop}(h:p:=by exact ⟨0,Ar _,rfl,rfl,HV.o,Af _ _⟩):p:=h
theorem Li{p:Prop}(h:p:=by exact ⟨0,Ar _,rfl,rfl,rfl,Af _ _⟩):p:=h
theorem UD{p:Prop}(h:p:=by exact ⟨0,Ar _,rfl,rfl,rfl,ML.o,HB0.o⟩):p:=h
theorem mC{p:Prop}(h:p:=by exact ⟨0,[],cs1,Ar _,rfl,rfl,rfl,HG2.o,KU.o,HI2.o,Kl.o⟩):p:=h
theorem zQ{p:Prop}(h:p:=by exact ⟨0,o,h1,Ar _,rfl,rfl,rfl,HOL.o,HS2.o,HJ2.o,iL.o,AIo.o,Ad _,fun c hc=>by have:=LV.o c hc;simp;omega⟩):p:=h
theorem zP{p:Prop}(h:p:=by exact ⟨_,_,_,_,_,_,_,_,_,rfl,Ag.nil _ _ (Ar _),Ag.nil _ _ (Ar _),Ag.nil _ _ (Ar _),hb⟩):p:=h
theorem zO{p:Prop}(h:p:=by exact ⟨a,I6 r k a,rfl,rfl,by have:=HAB.o;omega,by rw [FF];exact vB.o,Kj.o,Jd.o,by rw [<-HU.o];exact WV.o⟩):p:=h
theorem bK{p:Prop}(h:p:=by exact ⟨a1,b0,b1,b2,b3,b4,b5,(Af _ _).drew⟩):p:=h
theorem Wo{p:Prop}(h:p:=by exact ⟨b.cell 0,b.cell 1,b.cell 2,b.cell 3,b.cell 4,b.cell 5,b.cell 6⟩):p:=h
theorem zN{p:Prop}(h:p:=by exact ⟨by simp only [Instr.loadAt,Instr.sureAddr,Cs,DL,Result.andThen_ok,Pn W _ 44 44 Y (0,0) _ b2 underlying44 rfl U8.o],by simp only [Instr.loadAt,Instr.sureAddr,Cs,DL,Result.andThen_ok,Pn W _ 36 36 RR (0,0) _ b1 underlying36 rfl PI.o]⟩):p:=h
theorem zM{p:Prop}(h:p:=by exact ⟨IZ rs k,Eu rs k,[],k+1,(QY rs k).symm,QA rs k,yp.o,Zv.o,jR,fun y hy=>VP hy,by rw [QY];simp,by rw [QY];omega,(ABL rs k).symm,yx.o⟩):p:=h
theorem Wn{p:Prop}(h:p:=by exact ⟨fun h=>h.resolve_left AG,.inr⟩):p:=h
theorem bJ{p:Prop}(h:p:=by exact ⟨k+1,by omega,rfl,by go_num,DF.o⟩):p:=h
theorem Wm{p:Prop}(h:p:=by exact ⟨k+1,by omega,rfl,by go_num,Er HX.o HP.o HV.o,HB1.o⟩):p:=h
theorem UC{p:Prop}(h:p:=by exact ⟨k+1,by omega,rfl,by go_num,by rw [he,HT.o],by rw [he];exact G8.o,HB3.o⟩):p:=h
theorem UB{p:Prop}(h:p:=by exact ⟨k+1,by omega,rfl,by go_num,by rw [he],by rw [he];exact PX.o,CY.o⟩):p:=h
theorem zL{p:Prop}(h:p:=by exact ⟨keep a hy u,by rw [<-RP a v u h2];exact he⟩):p:=h
theorem zK{p:Prop}(h:p:=by exact ⟨A8 (BO (fun h=>JP E0.o Fq)).symm,AW BV.o CG.o⟩):p:=h
theorem zJ{p:Prop}(h:p:=by exact ⟨A8 (BO (fun h=>JP E2.o Fq)).symm,AW BV.o CG.o⟩):p:=h
theorem zI{p:Prop}(h:p:=by exact ⟨A8 (BO (fun h=>JP E4.o Fq)).symm,AW BV.o CG.o⟩):p:=h
theorem zH{p:Prop}(h:p:=by exact ⟨A8 HE.o.symm,AW BV.o HB1.o⟩):p:=h
theorem zG{p:Prop}(h:p:=by exact ⟨A8 HE.o.symm,AW BV.o HB2.o⟩):p:=h
theorem zF{p:Prop}(h:p:=by exact ⟨A8 HE.o.symm,AW BV.o NK.o⟩):p:=h
theorem mB{p:Prop}(h:p:=by exact ⟨A8 HE.o.symm,CY.o.alloc CY.o.size _⟩):p:=h
theorem zE{p:Prop}(h:p:=by exact ⟨A8 HE.o.symm,AW qw.o HB3.o⟩):p:=h
theorem zD{p:Prop}(h:p:=by exact ⟨A8 HN.o.symm,AW HB1.o (HB2.o.alloc HB2.o.size _)⟩):p:=h
theorem zC{p:Prop}(h:p:=by exact ⟨C8 (by rw [Kb,Am HT.o,uM,<-LJ.o,<-I5.o];rfl),HB2.o⟩):p:=h
theorem mA{p:Prop}(h:p:=by exact ⟨rfl,(Af _ _).alloc (Ad _) _⟩):p:=h
theorem AGl{p:Prop}(h:p:=by exact ⟨⟨_,rfl,by rw [Jb HX.o HP.o];simp⟩,HB1.o⟩):p:=h
theorem bH{p:Prop}(h:p:=by exact ⟨⟨_,rfl⟩,AW HB.o DF.o⟩):p:=h
theorem bG{p:Prop}(h:p:=by exact ⟨⟨_,rfl⟩,by rw [<-WV.o,HU.o];exact HQ.o,qm.o.drewN _⟩):p:=h
theorem y9{p:Prop}(h:p:=by exact ⟨⟨_,rfl⟩,by rw [<-WV.o,HU.o];exact HQ.o,qm.o⟩):p:=h
end Go.Proofs.YtpmpddfgifhlbaaGreatDoor
