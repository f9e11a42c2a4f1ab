import Derived.Test.YtamhoilkpppdbaaGreatDoorLAl
import Derived.Deep.DeepCutAuto
import Derived.Deep.Light
import Derived.Deep.OwnRows
import Derived.Deep.WholeRow
import Derived.Great.BuildSlice
import Derived.Laws.CopyOwn
import Derived.Laws.EntriesVeiled
import Derived.Lib.SmallJoins
import Derived.LoopIn
import Derived.LoopNIn
import Derived.Maps.OwnIn
import Derived.RangeFuncBound
import Derived.RangeFuncNested
import Derived.RegionDies
import Derived.Shelf.RegionOpen
import Derived.StillTailTactics
import Derived.WalkLawsBesides
import Derived.WalkSpells
namespace Go.Proofs.YtamhoilkpppdbaaGreatDoor
set_option maxHeartbeats 8000000
set_option maxRecDepth 100000
open Go renaming Calls→AS
open Go.Value renaming slice→AA, int→AB, string→AL
open Go.IntKind renaming i64→AE
open Go.Ending renaming returned→AW
theorem cn{p:Prop}(h:p:=by
 have htn:(t !=0)=true:=by simpa using ht0
 have hlp:=ABy HV.o HT.o ht0;have b0:=kB.cell 0;have b1:=kB.cell 1;have b2:=kB.cell 2;have b3:=kB.cell 3;have b4:=kB.cell 4;have b5:=kB.cell 5;have b6:=kB.cell 6;have f0:=kB.frozen 0;have f1:=kB.frozen 1;have f2:=kB.frozen 2;have f3:=kB.frozen 3;have f4:=kB.frozen 4;have f5:=kB.frozen 5;have f6:=kB.frozen 6;have jy:=kB.lt;simp only [Aj,Ao,BA] at b0 b1 b2 b3 b4 b5 b6;have kE:=(((((((kB.put 0 (AA none 0 0)).put 1 (AA none 0 0)).put 2 (AA none 0 0)).put 3 (AA none 0 0)).put 4 (AA none 0 0)).put 5 (AA none 0 0)).put 6 (AA none 0 0));go_wp2_with fail;have x0:=kE.cell 0;have x1:=kE.cell 1;have x2:=kE.cell 2;have x3:=kE.cell 3;have x4:=kE.cell 4;have x5:=kE.cell 5;have x6:=kE.cell 6;simp only [Kf,CZ,Ch,Aj,Ao,BA] at x0 x1 x2 x3 x4 x5 x6;exact FN (v:=.tuple #[.agg #[AA none 0 0,AA none 0 0,AA none 0 0,AA none 0 0,AA none 0 0,AA none 0 0,AA none 0 0],AB AE t]) ui rfl ⟨.inl ⟨by rw [hlp];exact ht0,by rw [hlp]⟩,(((((((HB1.o.setCell (p:=⟨gb,0,none⟩) PJ (AA none 0 0)).setCell (p:=⟨gb,1,none⟩) PJ (AA none 0 0)).setCell (p:=⟨gb,2,none⟩) PJ (AA none 0 0)).setCell (p:=⟨gb,3,none⟩) PJ (AA none 0 0)).setCell (p:=⟨gb,4,none⟩) PJ (AA none 0 0)).setCell (p:=⟨gb,5,none⟩) PJ (AA none 0 0)).setCell (p:=⟨gb,6,none⟩) PJ (AA none 0 0))⟩):p:=h
theorem AFy{p:Prop}(h:p:=by
 clear hgs hgt;clear a0 b0 a1 b1 a2 b2 a3 b3 a4 b4 a5 b5 a6 b6 a7 b7 a8 b8 a9 b9 a10 b10;have a0:=(HA.o.below CH.o la).cell 0;have b0:=(HB.o.below CH.o lb).cell 0;have a1:=(HA.o.below CH.o la).cell 1;have b1:=(HB.o.below CH.o lb).cell 1;have a2:=(HA.o.below CH.o la).cell 2;have b2:=(HB.o.below CH.o lb).cell 2;have a3:=(HA.o.below CH.o la).cell 3;have b3:=(HB.o.below CH.o lb).cell 3;have a4:=(HA.o.below CH.o la).cell 4;have b4:=(HB.o.below CH.o lb).cell 4;have a5:=(HA.o.below CH.o la).cell 5;have b5:=(HB.o.below CH.o lb).cell 5;have a6:=(HA.o.below CH.o la).cell 6;have b6:=(HB.o.below CH.o lb).cell 6;have a7:=(HA.o.below CH.o la).cell 7;have b7:=(HB.o.below CH.o lb).cell 7;have a8:=(HA.o.below CH.o la).cell 8;have b8:=(HB.o.below CH.o lb).cell 8;have a9:=(HA.o.below CH.o la).cell 9;have b9:=(HB.o.below CH.o lb).cell 9;have a10:=(HA.o.below CH.o la).cell 10;have b10:=(HB.o.below CH.o lb).cell 10;simp only [Aj,Ao,BA] at a0 b0 a1 b1 a2 b2 a3 b3 a4 b4 a5 b5 a6 b6 a7 b7 a8 b8 a9 b9 a10 b10;have s0c:=kS.cell 0;have t0c:=kT.cell 0;have s1c:=kS.cell 1;have t1c:=kT.cell 1;have s2c:=kS.cell 2;have t2c:=kT.cell 2;have s3c:=kS.cell 3;have t3c:=kT.cell 3;have s4c:=kS.cell 4;have t4c:=kT.cell 4;have s5c:=kS.cell 5;have t5c:=kT.cell 5;simp only [Aj,Ao,BA] at s0c t0c s1c t1c s2c t2c s3c t3c s4c t4c s5c t5c;have ls:=kS.lt;have lt:=kT.lt;clear kS kT;by_cases e0:x.name=y.name
 case neg=>
  have s0:(x.name.toList==y.name.toList)=false:=by rw [ED];exact BS e0
  have E0:=AF e0;clear e0;go_wp2;go_ret;refine ⟨A8 ?_,AV BJ.o CH.o⟩;exact (BS (fun h=>E0.o F9)).symm
 have s0:(x.name.toList==y.name.toList)=true:=by rw [ED];exact Bk e0
 have E0:=AF e0;clear e0;have hfo:=AG0 x.w0 x.w1 x.w2 x.w3 y.w0 y.w1 y.w2 y.w3;by_cases e1:(decide (x.w0=y.w0) && decide (x.w1=y.w1) && decide (x.w2=y.w2) && decide (x.w3=y.w3))=true
 case neg=>
  have s1:(decide (x.w0=y.w0) && decide (x.w1=y.w1) && decide (x.w2=y.w2) && decide (x.w3=y.w3))=false:=by simpa using e1
  rw [s1] at hfo;have E1:=AF e1;clear e1 s1;go_wp2;go_ret;exact ⟨A8 (BS (fun h=>E1.o (by rw [h];simp))).symm,AV BJ.o CH.o⟩
 rw [e1] at hfo;have E1:=AF e1;clear e1;by_cases e2:x.type.kind=y.type.kind
 case neg=>exact ny
 have E2:=AF e2;by_cases e3:x.type.lo=y.type.lo
 case neg=>exact nz
 have E3:=AF e3;by_cases e4:x.type.hi=y.type.hi
 case neg=>have E4:=AF e4;go_wp2;go_ret;refine ⟨A8 ?_,AV BJ.o CH.o⟩;exact (BS (fun h=>E4.o F9)).symm
 have E4:=AF e4;by_cases e5:x.type.Au=y.type.Au
 case neg=>
  have s5:(x.type.Au.toList==y.type.Au.toList)=false:=by rw [ED];exact BS e5
  have E5:=AF e5;clear e5;go_wp2;go_ret;refine ⟨A8 ?_,AV BJ.o CH.o⟩;exact (BS (fun h=>E5.o F9)).symm
 have s5:(x.type.Au.toList==y.type.Au.toList)=true:=by rw [ED];exact Bk e5
 have E5:=AF e5;clear e5;by_cases e6:x.type.unit=y.type.unit
 case neg=>have E6:=AF e6;go_wp2;go_ret;refine ⟨A8 ?_,AV BJ.o CH.o⟩;exact (BS (fun h=>E6.o F9)).symm
 have E6:=AF e6;by_cases e7:x.type.names=y.type.names
 case neg=>
  have HC:AI (AS prog 120 #[AA A1 n1 c1,AA B1 m1 d1] wc fun e w'=>e=AW (.bool false)/\AK wc w'):=AF (by have:=I3 A1 B1 n1 c1 m1 d1 x.type.names y.type.names wc (H1.o.mono BX (AV BJ.o CH.o)) (K1.o.mono BX (AV BJ.o CH.o));rw [show BD x.type.names y.type.names=false by simp [BD,e7]] at this;exact this)
  have E7:=AF e7;clear e7;go_wp2_with (go_at_call 120;refine HC.o.mono ?_;clear HC);rintro e w1 ⟨rfl,hb1⟩;have Bj:=AF (AV CH.o hb1);clear hb1;go_wp2;go_ret;exact ⟨A8 (BS (fun h=>E7.o F9)).symm,AV BJ.o Bj.o⟩
 have HC:AI (AS prog 120 #[AA A1 n1 c1,AA B1 m1 d1] wc fun e w'=>e=AW (.bool true)/\AK wc w'):=AF (by have:=I3 A1 B1 n1 c1 m1 d1 x.type.names y.type.names wc (H1.o.mono BX (AV BJ.o CH.o)) (K1.o.mono BX (AV BJ.o CH.o));rw [show BD x.type.names y.type.names=true by simp [BD,e7]] at this;exact this)
 have E7:=AF e7;clear e7;go_wp2_with (go_at_call 120;refine HC.o.mono ?_;clear HC);rintro e w1 ⟨rfl,hb1⟩;have Bj:=AF (AV CH.o hb1);clear hb1;go_wp2;go_ret;exact ⟨A8 (sM E0.o E1.o E2.o E3.o E4.o E5.o E6.o E7.o),AV BJ.o Bj.o⟩):p:=h
theorem AFx{p:Prop}(h:p:=by
 clear HS2 HJ2 jD;obtain ⟨j,o2,h2,hj,hq,rfl,hf,x8,hs,hjp,AIW,AIF,hpo,hcb2⟩:=hrel;obtain ⟨Ks,HF,AFa,HS,AJN,AFh,HPO,AFo,jD⟩:=P4 hq hf x8 hs hjp AIF hpo hcb2 AIW;clear hq hf hjp AIF hpo hcb2 AIW;by_cases hlt:j < L.length
 case neg=>
  have fT:AI (L.foldl OD (o,h1)=(o2,h2)):=AF (by have:=HF.o;rw [C7 AG] at this;exact this);have ALo:AI (∃f',fuel=f'+1/\(pre++[(xn:Int)])++La (fun x:Nat=>Bl rs k x) f' o2 h2=Cx rs k):=AF (by have hpf:=HPF.o;obtain ⟨f',rfl⟩:∃f',fuel=f'+1:=⟨fuel - 1,by unfold LZ at hpf;omega⟩;refine ⟨f',rfl,?_⟩;have:=rW.o;rw [pH hpos] at this;rw [HX1.o,PX.o] at this;simp only [Cq] at this;rw [HL.o,fT.o] at this;simpa using this)
  clear hs x8;go_wp2;go_roundg (LZ o2 h2)
  case measure=>have h1':=HQ.o;have h2':=HPO.o;have h3':=UC.o;rw [h1'];unfold LZ at h2' ⊢;omega
  obtain ⟨f',hf1,AKk⟩:=ALo.o;have hp1:=XE.o;have hp2:=HPF.o;have hp3:=HPO.o;have hp4:=UC.o;exact ⟨o2,h2,pre++[(xn:Int)],f',rfl,AFa.o,HS.o,AJN.o,jD.o,AFh.o,by simp;unfold LZ at hp1 hp3 ⊢;omega,by unfold LZ at hp2 hp3 ⊢;omega,AKk,fun c hc=>by have:=AFo.o c hc;simp;omega⟩
 obtain ⟨u,hu⟩:∃u,L[j]? =some u:=⟨_,BN hlt⟩;have hum:=HLM.o u (Cr hu);obtain ⟨un,rfl⟩:∃un:Nat,u=un:=⟨u.toNat,by omega⟩;have hrow:=(hs.rows.row xn _ HV.o).1;rw [HL.o] at hrow;obtain ⟨rg,AKC,hre⟩:=Joins.ownsRow_form hrow AG;injection hre with hA _ hc2;subst hA;subst hc2;have hcj:=hrow.cellAt j AG;rw [Bg,hu] at hcj;have hcj:wr.cell? ⟨rg,j,none⟩=some (AB AE un):=hcj;have xv:un < o2.length:=by rw [x8];omega
 obtain ⟨ov,hov⟩:∃ov,o2[un]? =some ov:=⟨_,BN xv⟩;have hco:=hs.op.cell un;rw [Aj,Bg,hov] at hco;have hco:wr.cell? ⟨O,un,none⟩=some (AB AE ov):=hco;have hfo:=hs.op.frozen un;have AKU:=AFo.o ov (Cr hov);have AKS:pre.length<=1000:=by have:=XE.o;omega
 have e1:IntKind.i64.wrap (ov - 1)=ov - 1:=Ca _ AG;have hu0:(0:Int)<=(un:Int):=AG
 have hu1:(un:Int) < (k:Int):=AG
 have hj0:(0:Int)<=(j:Int):=AG
 have hj1:(j:Int) < (L.length:Int):=AG
 have lrg:=(hrow.lt rg rfl).2;have lO:=hs.op.lt;obtain ⟨hsp,AEH⟩:=hs.put Vs.o un (ov - 1);obtain ⟨aR,AFf⟩:=Al hsp (HJ.o _ _ _ AJN.o AEH);have AFW:AI (W.heap.size<=(wr.setCell ⟨O,un,none⟩ (AB AE (ov - 1))).heap.size):=AF (BH jD.o AEH.size);have hgd:o2.getD un 0=ov:=by rw [Ck,hov];rfl
 have XC:AI (OD (o2,h2) (un:Int)=(o2.set un (ov - 1),if ov - 1=0 then N7 h2 un else h2)):=AF (by
  unfold OD;simp only [Cq,hgd];have:(o2.set un (ov - 1)).getD un 0=ov - 1:=by rw [Ck,Hg xv];rfl
  rw [this])
 have HPU:AI (LZ (OD (o2,h2) (un:Int)).1 (OD (o2,h2) (un:Int)).2<=LZ o2 h2):=AF (ACs (by simpa using xv));have HF2:AI ((L.take (j+1)).foldl OD (o,h1)=OD (o2,h2) (un:Int)):=AF (by rw [take_snoc hu,R7,HF.o];rfl);have AFn:AI (∀c∈o2.set un (ov - 1), -(1000*(pre.length:Int)) - ((j+1:Nat):Int)<=c/\c<=1000):=AF (fun c hc=>by
  rcases ZT hc with hc | rfl
  · have:=AFo.o c hc;omega
  · omega)
 have hh2:h2.length < 1000000:=by have h1':=HPO.o;have h2':=XE.o;have h3':=UC.o;unfold LZ at h1' h2';omega
 have HUM:AI ((0:Int)<=(un:Int)/\(un:Int) < k):=AF hum;clear hrow hs x8 hu hum hov AKU hsp AEH hgd AKS xv;by_cases hz:ov - 1=0
 ·have x7:ov=1:=by omega
  subst x7;have e3:(1:Int) - 1=0:=Ai
  simp only [e3] at aR AFf AFW XC AFn;rw [Ak trivial] at XC;clear e1 hz;go_wp2_with (go_at_call 184;refine (X8 base G h2 un _ aR.o.q hh2).mono ?_)
  first | rintro e w3 u rfl hq3 hk3 | rintro e w3 ⟨⟨u,rfl⟩,hq3,hk3⟩
  obtain ⟨hs3,AEI⟩:=aR.o.kept Vs.o hk3 hq3;obtain ⟨LD,ALk⟩:=Al hs3 (HJ.o _ _ _ AFf.o AEI);have ALH:AI (W.heap.size<=w3.heap.size):=AF (BH AFW.o AEI.size);have ALm:AI (∀y∈N7 h2 (un:Int),0<=y/\y < k):=AF (fun y hy=>by
   rcases ju hy with hy | rfl
   · exact AFh.o y hy
   · exact HUM.o)
  clear hq3 hk3 hs3 AEI hco hfo hcj;go_wp2;go_roundg (L.length - (j+1))
  case measure=>exact MJ
  have hpu:=HPU.o;rw [XC.o] at hpu;exact ⟨j+1,_,_,by omega,rfl,by go_num,by rw [HF2.o,XC.o],by rw [D7];exact AFa.o,LD.o,ALk.o,ALH.o,ALm.o,BH hpu HPO.o,AFn.o⟩
 rw [Ah hz] at XC;go_wp2;go_roundg (L.length - (j+1))
 case measure=>exact MJ
 have hpu:=HPU.o;rw [XC.o] at hpu;exact ⟨j+1,_,_,by omega,rfl,by go_num,by rw [HF2.o,XC.o],by rw [D7];exact AFa.o,aR.o,AFf.o,AFW.o,AFh.o,BH hpu HPO.o,AFn.o⟩):p:=h
theorem AFw{p:Prop}(h:p:=by
 obtain ⟨fb,fo,y,rfl,hfl,hy,z0,z1,z2,z3,z4,z5,z6,z7⟩:=QC (G1.o.mono EW HB3.o) hlt2;have hym:=HXM.o.2 y (Cr hy);have HY:=AF hy;have hjn:(j:Int) < (m1:Int):=AG
 have hj0:(0:Int)<=(j:Int):=AG
 have HC:AI (∀W,AS prog 180 #[.agg #[AB AE n3,.map (some M)],AB AE y.schema] W fun e w'=>e=AW (.bool true)/\AK W w'):=AF (fun W=>by have:=Xr n3 y.schema (.map (some M)) W;rw [Bk hym.1,Bk hym.2] at this;exact this)
 clear hym hy;go_upto_region 12 with fail;clear z0 z1 z2 z3 z4 z5 z6 z7;obtain ⟨w4,hw4⟩:=Ad (wr.alloc (.cells #[AL y.name,AL y.kind,AB AE y.schema,AL y.Au.name,AL y.Au.path,AB AE y.Au.var,AB AE y.Au.field,AB AE y.Au.n] 298));obtain ⟨gf,hgf⟩:=Ad wr.heap.size;have kF:AY w4 gf 298 #[AL y.name,AL y.kind,AB AE y.schema,AL y.Au.name,AL y.Au.path,AB AE y.Au.var,AB AE y.Au.field,AB AE y.Au.n]:=by rw [hw4,hgf];exact AY.new _ _ _
 have hb4:AK wr w4:=by rw [hw4];exact (Af _ _).alloc (Ac _) _
 rw [<-hw4,<-hgf];clear hw4 hgf;have d2:=kF.cell 2;have lf:=kF.lt;have lb:=Ls.o.lt;have b0:=(Ls.o.below hb4 lb).cell 0;have b1:=(Ls.o.below hb4 lb).cell 1;simp only [Aj,Ao,BA] at b0 b1 d2;obtain ⟨HF4,HB4⟩:=Al kF hb4;clear kF hb4;go_wp2_with (go_at_call 180;refine (HC.o w4).mono ?_)
 first | rintro e w5 rfl hb5 | rintro e w5 ⟨rfl,hb5⟩
 have Cg:AI (AK wr w5):=AF (AV HB4.o hb5);have kF5:=HF4.o.below hb5 lf;have d2:=kF5.cell 2;have kB5:=Ls.o.below Cg.o lb;have b0:=kB5.cell 0;have b1:=kB5.cell 1;have kR5:=HR3.o.below Cg.o HR3.o.lt;have c1r:=kR5.cell 1;simp only [Aj,Ao,BA] at c1r d2 b0 b1;obtain ⟨Yv,Ym⟩:=Al kB5 kR5;have hG5:=fS.o.below Cg.o;have AJb:AI (AK w w5):=AF (AV HB3.o Cg.o);obtain ⟨hb,hhb⟩:=AJO.o;have hlook:=DT (I0 underlying3) underlying212 (z:=.map none) AJ hG5.o x.schema false;rw [hhb] at hlook;simp only [C6,Ce,IU,He] at hlook;have hmem:=WQ hhb;obtain ⟨hb1,hb2,hb3⟩:=hG5.ins _ hmem;obtain ⟨w6,hrun6,hm6,pz⟩:=oX (I0 underlying3) underlying209 hb3 y.schema true;have hG6:=hG5.insert hmem hm6 pz;have hfe:(fun z=>if z=x.schema then G9 ((fun z=>if z=x.schema then ((x.froms.take j).map fun f=>f.schema).foldl G9 (Bp (rs.take k) x.schema) else Bp (rs.take k) z) x.schema) y.schema else (fun z=>if z=x.schema then ((x.froms.take j).map fun f=>f.schema).foldl G9 (Bp (rs.take k) x.schema) else Bp (rs.take k) z) z)=(fun z=>if z=x.schema then ((x.froms.take (j+1)).map fun f=>f.schema).foldl G9 (Bp (rs.take k) x.schema) else Bp (rs.take k) z):=by
  funext z;rw [take_snoc HY.o,DY,R7];by_cases e:z=x.schema
  · subst e;simp only [C4];rfl
  · simp only [Ah e]
 rw [hfe] at hG6;obtain ⟨rY,HK6,HR6⟩:=BB hG6 (Yv.o.grown pz (fun e=>by injection e with e;subst e;exact SH Yv.o hb3.at_)) (Ym.o.grown pz (fun e=>by injection e with e;subst e;exact SH Ym.o hb3.at_));have ALw:AI (AK w w6):=AF (AJb.o.grown pz AJb.o.size (fun r e=>by cases e;exact hb1));clear hfe hG6 hmem hb1 hb2 hb3 hm6 pz hG5 hhb kF5 kB5 kR5 hb5;go_wp2;go_roundg (m1 - (j+1))
 case measure=>have:=fK.o;omega
 case rel=>exact ⟨j+1,by omega,rfl,by go_num,rY.o,HK6.o,HR6.o,ALw.o⟩):p:=h
theorem Y3{p:Prop}(h:p:=by
 rintro e w1 ⟨rfl,hb1⟩;have HB1:=AF (HB.o.trans (((BK _ _).alloc AZ _).trans (hb1.mono Bd) |>.mono HB.o.size));by_cases exy:x=y
 ·have hd:decide (x=y)=true:=Bk exy
  rw [hd];have HXE:=AF exy;clear exy hd hb1;go_wp2;go_roundg (n - (k+1))
  case measure=>exact Bi
  case rel=>exact ⟨k+1,by omega,rfl,by go_num,bB HX.o HY.o EJ.o HXE.o,HB1.o⟩
 obtain rfl:=Ro HX.o HY.o EJ.o exy;have hd:decide (x=y)=false:=BS exy;rw [hd];clear hd exy hb1;go_wp2;go_ret;exact ⟨rfl,HB1.o⟩):p:=h
theorem Y2{p:Prop}(h:p:=by
 by_cases exy:x=y
 ·have hd:decide (x=y)=true:=Bk exy
  simp only [hd,Bool.not_true] at hne;clear hd;have HXE:=AF exy;clear exy;go_wp2_with fail;go_quiet (fail);go_wp2;go_roundg (n - (k+1))
  case measure=>exact Bi
  case rel=>exact ⟨k+1,by omega,rfl,by go_num,bB HX.o HY.o EJ.o HXE.o,below_drewN HB.o _⟩
 obtain rfl:=Ro HX.o HY.o EJ.o exy;have hd:decide (x=y)=false:=BS exy;simp only [hd,Bool.not_false] at hne;clear hd exy;go_wp2_with fail;go_quiet (fail);go_wp2;go_ret;exact ⟨rfl,below_drewN HB.o _⟩):p:=h
theorem AFv{p:Prop}(h:p:=by
 have HB2:AI (AK W (wr.setCell ⟨O,k,none⟩ (AB AE c))):=AF (HB.o.setCell (show W.heap.size<=O from yP) _);have hsl:(FG rs k).length<=k:=by have:=Qs rs k;unfold LZ at this;omega
 by_cases hc0:c=0
 ·subst hc0
  have HS:AI (FG rs (k+1)=N7 (FG rs k) k):=AF (by rw [Qa,Ak HC.o]);go_wp2_with (go_at_call 184;refine (X8 base G (FG rs k) k _ Ks.o AG).mono ?_)
  first | rintro e w2 u rfl hq2 hk2 | rintro e w2 ⟨⟨u,rfl⟩,hq2,hk2⟩
  have Ja:AI (AY w2 O 3 (((I5 rs (k+1)++List.replicate (n - (k+1)) 0).map (Value.int .i64)).toArray)):=AF ((hk2.low Ks.o hOb vY).trans Jz.o);have HR3:=AF (HR2.o.keep (fun b hb=>hk2.low Ks.o (WZ.o b hb).2.1 (WZ.o b hb).2.2.2));have HB3:AI (AK W w2):=AF (HB2.o.trans (hk2.below Ks.o hGW));rw [<-HS.o] at hq2;have fK:=AF hq2;clear hq2 hk2 hlv m9;go_wp2;go_roundg (n - (k+1))
  case measure=>exact Bi
  case rel=>exact ⟨k+1,by omega,rfl,by go_num,Ja.o,fK.o,HR3.o,HB3.o⟩
 have hcz:¬(c:Int)=0:=AG
 have HS:AI (FG rs (k+1)=FG rs k):=AF (by rw [Qa,Ah (by rw [HC.o];exact hc0)]);go_wp2;go_roundg (n - (k+1))
 case measure=>exact Bi
 case rel=>exact ⟨k+1,by omega,rfl,by go_num,Jz.o,by rw [HS.o];exact Ks.o,HR2.o,HB2.o⟩):p:=h
theorem Mc{p:Prop}(h:p:=by
 obtain rfl:=ABX EJ.o HE.o MF;go_wp2;go_ret;exact ⟨rfl,HB.o⟩):p:=h
theorem cW{p:Prop}(h:p:=by
 have HE:AI (Bw (l.map (·.name)) k=col (l.map (·.name))):=by show _=_;have:=HN.o;rw [col,show k=(l.map (·.name)).length by first | omega | (simp;omega)]
 go_wp2;go_ret2;exact ⟨_,by rw [HE.o];rfl,by rw [<-HE.o];exact HM.o,Ac _,HB.o⟩):p:=h
theorem Qh{p:Prop}(h:p:=by
 have hz:prog.cellsOf 279=5:=AJ
 simp [part,isAgg,run_underlying (P:=prog) underlying279]):p:=h
theorem AAv{p:Prop}(h:p:=by
 rw [List.getElem?_ofFn] at hix;split at hix
 ·rename_i hlt
  injection hix with hix;obtain ⟨cs,h1,h2⟩:=Classical.choose_spec (hex i hlt);rw [hix] at h2;have hsp:a.spot=none:=by obtain ⟨_,cs0,h3,_⟩:=hex 0 AG;obtain ⟨_,k1,k2⟩:=ZR h3;have k3:=k2 0 hz;rw [BN AG] at k3;have:=World.cell?_spot k3;simpa [Addr.add] using this
  obtain ⟨b,off,spot⟩:=a;subst hsp;obtain ⟨_,k1,k2⟩:=ZR h1;have hcell:∀j u,cs[j]? =some u->w.cell? ⟨b,off+(i*sz+j),none⟩=some u:=by
   intro j u hu;have hj:j < sz:=by have:=(BF.1 hu).1;omega
   have:=k2 j hj;rw [lI,lI,hu] at this;rw [<-this,Ji]
  refine ⟨b,off,cs,rfl,?_,k1,hcell,h2⟩;have h0:=hcell 0 cs[0] (BN AG);exact World.block_lt_of_cell? _ _ h0
 · exact absurd hix AZ):p:=h
theorem XO{p:Prop}(h:p:=by
 have HT:AI (l.all p=true):=by have:=HV.o;rw [C7 MF] at this;exact this
 go_wp2;go_ret;exact ⟨⟨_,rfl,by rw [HT.o];rfl⟩,HB.o⟩):p:=h
theorem AAu{p:Prop}(h:p:=by
 obtain rfl:h=[]:=Jh AG;have HF:AI (pre=Cx rs k):=AF (by have:=rW.o;rw [sW,FM] at this;exact this);have hvf:∃A c,AY wr G 305 #[AA A 0 c]:=by
  obtain ⟨v,h1,h2,_⟩:=HIS.o.q;rcases h2.2 with ⟨rfl,_⟩ | ⟨g,cap,cur,rfl,_⟩
  · exact ⟨_,_,h1⟩
  · exact ⟨_,_,h1⟩
 obtain ⟨A,c,hkb⟩:=hvf;have c0:=hkb.cell 0;have lG:=hkb.lt;simp only [Aj,Ao] at c0;clear hkb;go_wp2_with (go_at_call 185;refine (len_any _ _ _ _).mono ?_;rintro e w2 ⟨rfl,rfl⟩)
 go_end0
 exact ⟨⟨_,rfl⟩,pre,HF.o,HJP.o⟩):p:=h
theorem nW{p:Prop}(h:p:=by
 go_quiet (fail);go_wp2;go_roundg (n - (k+1))
 case measure=>exact Bi
 case rel=>exact ⟨k+1,_,_,by omega,rfl,by go_num,HST.o 0 HZ.o,grown_drewN PY.o _,LH.o.kept (row:=none) (grown_drewN (Cu _ _) _) Nl,by rw [<-set_drop HLEN.o HU.o];exact Yy.o⟩):p:=h
theorem Ko{p:Prop}(h:p:=by
 go_wp2;go_ret;exact ⟨rfl,Af _ _⟩):p:=h
theorem XM{p:Prop}(h:p:=by
 rintro e w1 ⟨⟨i,rfl,hi⟩,hb1⟩;obtain ⟨HB1,HI⟩:=Al hb1 hi;clear hb1 hi;go_wp2;go_ret;exact ⟨by rw [<-HI.o];rfl,HB1.o⟩):p:=h
theorem AAt{p:Prop}(h:p:=by
 refine Ed AJ ?_ _;simp only [CZ,Ch];have k:=(HE.o _ hS5).2.2;have e0:=k.cell 0;have f0:=k.frozen 0;have l0:=k.lt;obtain ⟨K,Vm,HR0⟩:=BB k hS5 (hrl.trans h0);simp only [Aj,Ao] at e0;clear hS3 hS4 hS5 S4 QK hL hT PK Ni k h0 hrl;go_wp2_with fail;refine AGH (e:=0) ?_ ((K.o.put 0 (AB AE 0)).cell 0) ⟨by rw [HR0.o],(AV Cf.o Vm.o).setCell uK _⟩;rfl):p:=h
theorem cp{p:Prop}(h:p:=by
 go_wp2;go_ret;refine ⟨A8 ?_,BJ.o.trans (Below.mono (((Af wb.heap.size wb).drew.trans hb).trans (hc.mono hb.size)) BJ.o.size)⟩;rw [MO.o];simp [Jq]):p:=h
theorem co{p:Prop}(h:p:=by
 rintro e w1 ⟨rfl,hb1⟩;have HB1:=AF (Below.trans (BK _ _) (hb1.mono AZ));clear hb1;go_wp2;go_ret;exact ⟨rfl,HB1.o⟩):p:=h
theorem AAs{p:Prop}(h:p:=by
 rw [HT.o];go_enter func65,ntmps65;go_wp2_with fail
 all_goals first
  | (exfalso;omega)
  | exact FN (v:=.tuple #[.agg #[AB AE 0,AB AE 0,AB AE 0,AL ⟨#[]⟩,AB AE 0,AA none 0 0],.bool false]) uh rfl ⟨⟨_,_,_,rfl,Ag.nil _ _ (Ay _),by simp [zT]⟩,(BK _ _).alloc AZ _⟩):p:=h
theorem nT{p:Prop}(h:p:=by
 go_enter func109,ntmps109;go_wp2_with fail
 all_goals first
  | (exfalso;omega)
  | (go_ret;exact ⟨rfl,((BK _ _).alloc AZ _)⟩)):p:=h
theorem nS{p:Prop}(h:p:=by
 by_cases e0:x0=y0
 case neg=>simp [e0]
 by_cases e1:x1=y1
 case neg=>simp [e0,e1]
 by_cases e2:x2=y2
 case neg=>simp [e0,e1,e2]
 by_cases e3:x3=y3
 case neg=>simp [e0,e1,e2,e3]
 by_cases e4:x4=y4
 case neg=>simp [e0,e1,e2,e3,e4]
 simp [e0,e1,e2,e3,e4]):p:=h
theorem cm{p:Prop}(h:p:=by
 rintro e w1 ⟨rfl,hb1⟩;have HB1:=AF (AV hal hb1);clear hb1 hal hk hs hc hmf;go_wp2;go_ret;exact ⟨by simp,HB1.o⟩):p:=h
theorem AAr{p:Prop}(h:p:=by
 have e:xs.map (Act.eval ⟨l.toArray,D⟩)=args:=by apply ZL.1;rw [Up];exact ha
 have hex:(execOp (Act.eval ⟨l.toArray,D⟩) o).run P w=.ok (.enter f args) w:=by unfold execOp;rw [ho];simp [resolve,Act.eval,Deferred.ofValue,invoke,<-e];exact he _ w
 unfold Oper.wp;rw [hex];exact hc.mono fun e w' hR=>by obtain ⟨v,rfl,hS,hk⟩:=h e w' hR;rw [<-Lx,<-hd] at hk;exact ⟨hS,hk⟩):p:=h
theorem nQ{p:Prop}(h:p:=by
 go_wp2_with fail
 all_goals
  go_ret;refine ⟨A8 ?_,(Af _ _).alloc (Ac _) _⟩
  go_light
  first
   | (simp_all;done)
   | (simp_all [AHA];done)
   | (simp_all;intros;exfalso;omega)):p:=h
theorem nP{p:Prop}(h:p:=by
 unfold method;simp [typeInfo,run_program,hi,hm,follow,run_underlying underlying305,Place.get,asAddr,fieldPlace,receiverAt,run_underlying underlying303,go_sem,h]):p:=h
theorem cZ{p:Prop}(h:p:=by
 go_wp2;go_roundg (fn - (j+1))
 case measure=>exact Bi
 case rel=>exact ⟨j+1,by omega,rfl,by go_num,HI2.o⟩):p:=h
theorem AAq{p:Prop}(h:p:=by
 simp only [Option.all_none,Option.all_some,Pp,List.all_nil,Nw,IV,Ge,WE,List.isEmpty_cons];generalize decide (1<=a.op)=p1;generalize decide (a.op<=4)=p2;generalize decide (a.op=2)=p3;generalize decide (a.op=3)=p4;generalize isNum a.a=p5;generalize isNum a.b=p6;generalize QD y=p7;revert p1 p2 p3 p4 p5 p6 p7;decide):p:=h
theorem nO{p:Prop}(h:p:=by
 clear h;go_wp2_with (first | (go_at_call 38;refine (EP 190 _).mono ?_;rintro e w8 ⟨rfl,rfl⟩) | fail);exact JN.o _ _ _ rfl rfl D4.o HN.o Ai):p:=h
theorem AAp{p:Prop}(h:p:=by
 rw [Xl _ _ hmem,<-take_snoc hx] at ER;rw [<-take_snoc hx] at hv;obtain ⟨HB3,Ht,HV3⟩:=BB (HB.o.grown hg3 HB.o.size (fun r e=>by cases e;exact Ac _)) ER hv;clear ER hg3 hv hx hg hb hm hmem;go_wp2;go_roundg (n - (k+1))
 case measure=>exact Ej
 case rel=>exact ⟨k+1,by omega,rfl,by go_num,HV3.o,Ht.o,HB3.o⟩):p:=h
theorem AAo{p:Prop}(h:p:=by
 have E0:=AF e0;clear e0;go_wp2_with (go_at_call 120;refine HC.o.mono ?_;clear HC);rintro e w1 ⟨rfl,hb1⟩;have Bj:=AF (AV CH.o hb1);clear hb1;go_wp2;go_ret;exact ⟨A8 (BS (fun h=>E0.o F9)).symm,AV BJ.o Bj.o⟩):p:=h
theorem AAn{p:Prop}(h:p:=by
 go_roundg (m - (j+1))
 case measure=>have:=HG2.o;have:=LJ.o;omega
 have hlt:=LJ.o;refine ⟨j+1,by omega,rfl,by go_num,?_,Q7.o.kept Ec (.inr (by intro e;have:=(Q7.o.lt _ e).1;have:=Ye.o;omega)),H6.o.trans (hb7.mono (Et _))⟩;rw [AGN Aw (by rw [<-aV.o,MO.o]) HX.o NC.o,<-Dz.o];simpa [<-XF.o] using k7):p:=h
theorem AAm{p:Prop}(h:p:=by
 obtain ⟨b,off,x,cs,e,hb,hl,hlen,hc,hR⟩:=h.at_ hk;have hR':cs=_:=hR;subst hR';exact ⟨b,off,x,e,hb,hl,by simpa using hc 0 _ rfl,by simpa [Nat.add_assoc] using hc 1 _ rfl,by simpa [Nat.add_assoc] using hc 2 _ rfl,by simpa [Nat.add_assoc] using hc 3 _ rfl,by simpa [Nat.add_assoc] using hc 4 _ rfl⟩):p:=h
theorem AAl{p:Prop}(h:p:=by
 refine ⟨?_,rE.o,HR.o,fun b hb=> ?_⟩
 ·have:=HO.o
  simpa using this
 rw [xy] at hb;obtain ⟨h1,h2⟩:=HP0.o b hb;have hqp:=rE.o.pt;exact ⟨h1,Av h2 HB.o.size,fun hr=>by have:=(vg.rb b hr).1;omega,by omega,by omega,fun e=>by have:=(hqp b e.symm).1;omega⟩):p:=h
theorem nN{p:Prop}(h:p:=by
 have e:Act.eval ⟨l.toArray,D⟩ (.tmp t)=v:=by simp [Act.eval,hv]
 unfold execOp;rcases ho with ho | ho
 · rw [ho];simp [e]
 · rw [ho];simp [e]):p:=h
theorem AAk{p:Prop}(h:p:=by
 go_wp2;go_roundg (vn - (k+1))
 case measure=>exact Bi
 refine ⟨k+1,_,_,by omega,rfl,by go_num,Fx Dl.o HM.o HST.o,PY.o,Ua.o,?_,by rw [<-set_drop HLEN.o HM.o];exact Yn.o⟩;have:=Ll.o;have h3:=LH.o;rw [this] at h3 ⊢;exact h3):p:=h
theorem AAj{p:Prop}(h:p:=by
 go_enter func248,ntmps248;go_wp2_with fail;go_region
 go_end0
 refine ⟨⟨_,rfl⟩,?_,grown_drew (Oi (Oi (yT _ _) _ _) _ _)⟩;rw [<-HS.o];exact ((HO.o.stored _ _).1.stored _ _).1.drew):p:=h
theorem AAi{p:Prop}(h:p:=by
 rcases hno with h | ⟨h1,h⟩ | ⟨h1,h2,h⟩
 all_goals have hf:=Hf h
 all_goals go_wp2_with (go_at_call 38;refine (EP 190 _).mono ?_;rintro e w9 ⟨rfl,rfl⟩)
 all_goals (refine JN.o _ _ _ ?_ D4.o HN.o;rfl)):p:=h
theorem AAh{p:Prop}(h:p:=by
 rintro e w1 ⟨rfl,hb1⟩;have Bj:=AF (AV CH.o hb1);clear hb1;go_wp2;go_ret;exact ⟨A8 (BS (fun h=>E4.o F9)).symm,AV BJ.o Bj.o⟩):p:=h
theorem AAg{p:Prop}(h:p:=by
 rintro e w1 ⟨rfl,hb1⟩;have Bj:=AF (AV CH.o hb1);clear hb1;go_wp2;go_ret;exact ⟨A8 (BS (fun h=>E2.o F9)).symm,AV BJ.o Bj.o⟩):p:=h
theorem nM{p:Prop}(h:p:=by
 refine hfree k ok hk hki ?_ hno;by_cases hjk:j=k
 · subst hjk;exact hjun
 · rw [Rw true hjk] at hun;exact hun):p:=h
theorem AAf{p:Prop}(h:p:=by
 show (if 0<=link then q.links.getD link.toNat Gq else Gq).length=32;split
 ·rw [Ck]
  cases e:q.links[link.toNat]? with
  | none=>rfl
  | some d=>exact h d (Cr e)
 · rfl):p:=h
theorem AAe{p:Prop}(h:p:=by
 go_wp2_with fail;go_quiet (fail);go_wp2;go_roundg (n - (k+1))
 case measure=>exact Bi
 case rel=>exact ⟨k+1,by omega,rfl,by go_num,bB HX.o HY.o EJ.o rfl,below_drewN HB.o _⟩):p:=h
theorem nL{p:Prop}(h:p:=by
 rcases hx with rfl | rfl
 · exact FN hr hdf ⟨rfl,hb⟩
 · exact bodyPost_end hr hdf ⟨rfl,hb⟩):p:=h
theorem AAd{p:Prop}(h:p:=by
 rcases hno with h | ⟨h1,h⟩
 all_goals go_wp2_with (go_at_call 38;refine (EP 190 _).mono ?_;rintro e w9 ⟨rfl,rfl⟩)
 all_goals (refine JN.o _ _ _ ?_ D4.o HN.o;rfl)):p:=h
theorem AAc{p:Prop}(h:p:=by
 have h1:=hall e he hb;have h0:=(Jb.1 hr).1;rw [heq] at h1;rcases FL i listed.size with h' | h'
 · simp [h'] at h0 h1;rw [h0] at h1;cases h1
 · simp [Array.getElem?_eq_none h'] at h1):p:=h
theorem AAb{p:Prop}(h:p:=by
 by_cases e0:x0=y0
 case neg=>simp [e0]
 by_cases e1:x1=y1
 case neg=>simp [e0,e1]
 by_cases e2:x2=y2
 case neg=>simp [e0,e1,e2]
 by_cases e3:x3=y3
 case neg=>simp [e0,e1,e2,e3]
 simp [e0,e1,e2,e3]):p:=h
theorem AAa{p:Prop}(h:p:=by
 have E1:=AF e1;clear e1;go_wp2;go_ret;refine ⟨A8 ?_,AV BJ.o CH.o⟩;exact (BS (fun h=>E1.o F9)).symm):p:=h
theorem AAZ{p:Prop}(h:p:=by
 simp only [Bb] at hB;rw [<-Lx,<-hd] at h;exact wpAnyH_take hi hB.1 hB.2.1 hB.2.2 (fun c a w hq=>by rw [hd] at hq;exact hQ c a _ w hq) (.inl ⟨hw,hv⟩) hS h):p:=h
theorem SL{p:Prop}(h:p:=by
 rw [PD hh,PD ht];kernel_rfl):p:=h
theorem AAY{p:Prop}(h:p:=by
 subst hv;simp only [C6,Ce,IU,He] at hlook;clear hx hg hb hm hmem;go_wp2;go_ret;exact ⟨rfl,HB.o⟩):p:=h
theorem SK{p:Prop}(h:p:=by
 go_wp2
 go_ret;exact ⟨rfl,rfl⟩):p:=h
theorem AAX{p:Prop}(h:p:=by
 go_wp2;go_ret;exact ⟨v7,cs1++cs7,rfl,by rw [CX];exact rL.o,Ap.append (JF TV.o) (JF HC7.o),D4.o⟩):p:=h
theorem AAW{p:Prop}(h:p:=by
 have t3:=t2.new;refine OB d T a1 b1 g1 p1 hz ⟨hS _ t3.bel,?_⟩;rw [e1,List.set_comm _ _ hdf.symm,List.set_comm _ _ hde.symm];exact h _ _ _ _ t3):p:=h
theorem AAV{p:Prop}(h:p:=by
 have e:(a.tmps.setIfInBounds d v)[p]?.getD undef=a.tmps[p]?.getD undef:=by rw [R9,Ah hd]
 simp [results,hr,Act.put,e]):p:=h
theorem AAU{p:Prop}(h:p:=by
 rintro e W' ⟨rfl,hb⟩;exact ⟨_,rfl,ADo laidOut hW' rfl AJ underlying4 AJ rfl rfl rfl hb⟩):p:=h
theorem cY{p:Prop}(h:p:=by
 go_wp2;go_ret;exact ⟨rfl,HW.o _ _ _⟩):p:=h
theorem nK{p:Prop}(h:p:=by
 rw [World.putObj_heap_same (DF.1 hl3).1,hrec];rfl):p:=h
theorem AAT{p:Prop}(h:p:=by
 by_cases e0:x0=y0
 case neg=>simp [e0]
 by_cases e1:x1=y1
 case neg=>simp [e0,e1]
 by_cases e2:x2=y2
 case neg=>simp [e0,e1,e2]
 simp [e0,e1,e2]):p:=h
theorem AAS{p:Prop}(h:p:=by
 have hle:i*sz+sz<=cs.length:=by rw [hc.1,<-KQ];exact Kb _ hil
 rw [Df,IQ];omega):p:=h
theorem nJ{p:Prop}(h:p:=by
 obtain rfl:k=n:=AG
 go_wp2;go_ret;exact ⟨rfl,HB.o⟩):p:=h
theorem nI{p:Prop}(h:p:=by
 go_ret;exact ⟨⟨_,rfl⟩,(Af _ _).alloc (Ac _) _⟩):p:=h
theorem AAR{p:Prop}(h:p:=by
 clear hth hit hon;go_wp2_with fail;exact V9 (.inl rfl) rfl rfl rfl KD.o underlying34 rfl HI.o ET.o XJ.o):p:=h
theorem AAQ{p:Prop}(h:p:=by
 have t3:=t2.swap.new.swap;refine OB e T a2 b2 g2 p2 hz ⟨hS _ t3.bel,?_⟩;rw [e2,List.set_comm _ _ hef.symm];exact h _ _ _ _ t3):p:=h
theorem AAP{p:Prop}(h:p:=by
 exact V9 (.inl rfl) rfl rfl rfl k7 underlying34 rfl Cd.o ET.o (Fb.o.trans (hb7.mono (Et _)))):p:=h
theorem AAO{p:Prop}(h:p:=by
 exact V9 (.inl rfl) rfl rfl rfl k4 underlying34 rfl HI.o ET.o (HB3.o.trans (hb4.mono (Et _)))):p:=h
theorem AAN{p:Prop}(h:p:=by
 rw [FQ MF] at hv;subst hv;clear hm hb;go_wp2;go_ret;exact ⟨rfl,HB.o⟩):p:=h
theorem AAM{p:Prop}(h:p:=by
 have h2:=fd.1 h t (Array.mem_of_getElem? ht);show prog.wantsStandIn t=false;simpa using h2):p:=h
theorem AAL{p:Prop}(h:p:=by
 unfold method;simp [typeInfo,run_program,hi,hm,follow,run_underlying underlying302,Place.get,receiverAt]):p:=h
theorem AAK{p:Prop}(h:p:=by
 go_upto_region 10 with fail;go_quiet (fail);go_wp2;go_ret;exact ⟨A8 HE.o.symm,below_drewN CW.o _⟩):p:=h
theorem AAJ{p:Prop}(h:p:=by
 unfold joinedFacts
 repeat' with_reducible refine Bool.and_eq_true_iff.2 ⟨?_,?_⟩
 all_goals as_aux_lemma=>kernel_rfl):p:=h
theorem AAI{p:Prop}(h:p:=by
 go_wp2_with fail
 all_goals
  go_ret;refine ⟨A8 ?_,HW.o _ _⟩
  go_light
  first
   | rfl
   | (simp_all;done)):p:=h
theorem AAH{p:Prop}(h:p:=by
 have hw:Region.wanted o (yielded ops a.tmps)=true:=by simp [Region.wanted,hg]
 simp only [hw,C4];exact .inl h):p:=h
theorem AAG{p:Prop}(h:p:=by
 rcases hrow.2 with ⟨rfl,h0⟩ | ⟨g,cap,cur,rfl,_⟩
 · exact ⟨_,_,by rw [h0]⟩
 · exact ⟨_,_,rfl⟩):p:=h
theorem AAF{p:Prop}(h:p:=by
 obtain ⟨b,off,x,cs,e,hb,hl,hlen,hc,rfl⟩:=h.at_ hk;exact ⟨b,off,x,e,hb,hl,by simpa using hc 0 _ rfl⟩):p:=h
theorem AAE{p:Prop}(h:p:=by
 exact V9 (.inl rfl) rfl rfl rfl k3 underlying34 rfl HI.o ET.o (HB2.o.trans hb3)):p:=h
theorem AAD{p:Prop}(h:p:=by
 rcases Jl ho1 with ⟨rfl,_⟩ | ⟨g,cap,rfl,_⟩
 · exact SY
 · exact ⟨_,_,_,rfl⟩):p:=h
theorem AAC{p:Prop}(h:p:=by
 have t3:=t2.turn.new.turn;refine OB f T a3 b3 g3 p3 hz ⟨hS _ t3.bel,?_⟩;rw [e3];exact h _ _ _ _ t3):p:=h
theorem cX{p:Prop}(h:p:=by
 rw [IL,<-ht] at h2;exact h2):p:=h
theorem AAB{p:Prop}(h:p:=by
 rcases Jl hi2 with ⟨h,h0⟩ | ⟨g,cap,h,_⟩
 · injection h with _ h;omega
 · injection h):p:=h
theorem AAA{p:Prop}(h:p:=by
 rw [fZ] at hx;split at hx
 · injection hx with hx;exact hx.symm
 · cases hx):p:=h
theorem zy{p:Prop}(h:p:=by
 rcases hx with rfl | rfl
 · exact FN hr hdf hR
 · exact bodyPost_end hr hdf hR):p:=h
theorem zx{p:Prop}(h:p:=by
 go_wp2
 go_ret;exact ⟨_,[],rfl,Ap.nil,Ef _ _ _ _,Af _ _⟩):p:=h
theorem zw{p:Prop}(h:p:=by
 go_ret;exact ⟨rfl,((BK _ _).alloc AZ _)⟩):p:=h
theorem zu{p:Prop}(h:p:=by
 obtain ⟨u0,u1,u2,u3,u4,u5⟩:=x;obtain ⟨v0,v1,v2,v3,v4,v5⟩:=y
 skip
 simp_all):p:=h
theorem zt{p:Prop}(h:p:=by
 go_wp2;go_ret;exact ⟨rfl,(Af _ _).alloc (Ac _) _⟩):p:=h
theorem zr{p:Prop}(h:p:=by
 exact P5 D (k*32) w3 _ aQ.o (by rw [Vw Mi.o hk,ET.o];omega)):p:=h
theorem nH{p:Prop}(h:p:=by
 have E0:=AF e0;clear e0;go_wp2;go_ret;refine ⟨A8 ?_,AV BJ.o CH.o⟩;exact (BS (fun h=>E0.o F9)).symm):p:=h
theorem zq{p:Prop}(h:p:=by
 go_wp2_with fail;go_quiet (fail);go_wp2;go_ret;exact ⟨rfl,below_drewN HB.o _⟩):p:=h
theorem nE{p:Prop}(h:p:=by
 go_wp2;go_ret;exact ⟨rfl,HB.o⟩):p:=h
theorem zp{p:Prop}(h:p:=by
 have s0:(x.name.toList==y.name.toList)=false:=by rw [ED];exact BS e0
 exact nH):p:=h
end Go.Proofs.YtamhoilkpppdbaaGreatDoor
