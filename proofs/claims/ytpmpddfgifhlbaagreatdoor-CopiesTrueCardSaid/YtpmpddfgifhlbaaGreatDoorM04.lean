import Derived.Test.YtpmpddfgifhlbaaGreatDoorM03
namespace Go.Proofs.YtpmpddfgifhlbaaGreatDoor
set_option maxHeartbeats 8000000
set_option maxRecDepth 100000
open Go renaming World→AH, Value→AK, Calls→AS, TypeId→Ae, Program→BB, Addr→Aa
open Go.Proofs.Tryz
open Go.Value renaming slice→AA, int→AB, string→AN, pointer→AU, bool→AX, agg→AO
open Go.IntKind renaming i64→AE
open Go.Ending renaming returned→AV, panicked→B8
open Go.Obj renaming cells→AQ
open Go.RowKit
theorem rR {x y:GZ} (e0:x.name=y.name) (e1:(decide (x.w0=y.w0) && decide (x.w1=y.w1) && decide (x.w2=y.w2) && decide (x.w3=y.w3))=true) (e2:x.type.kind=y.type.kind) (e3:x.type.lo=y.type.lo) (e4:x.type.hi=y.type.hi) (e5:x.type.Av=y.type.Av) (e6:x.type.unit=y.type.unit) (e7:x.type.names=y.type.names):true=decide (x=y):=by obtain ⟨n,⟨t0,t1,t2,t3,t4,t5⟩,v0,v1,v2,v3⟩:=x;obtain ⟨n',⟨t0',t1',t2',t3',t4',t5'⟩,v0',v1',v2',v3'⟩:=y;simp only [BZ,Bw] at e1;simp_all
theorem kP (A1 B1:Option Aa) (n1 c1 m1 d1:Nat) (x y:GZ) (w:AH) (h1:Ag 1 DV w (AA A1 n1 c1) x.type.names) (k1:Ag 1 DV w (AA B1 m1 d1) y.type.names):
 AS prog 179 #[AO #[AN x.name,AB AE x.type.kind,AB AE x.type.lo,AB AE x.type.hi,AN x.type.Av,AB AE x.type.unit,AA A1 n1 c1,AB AE x.w0,AB AE x.w1,AB AE x.w2,AB AE x.w3],AO #[AN y.name,AB AE y.type.kind,AB AE y.type.lo,AB AE y.type.hi,AN y.type.Av,AB AE y.type.unit,AA B1 m1 d1,AB AE y.w0,AB AE y.w1,AB AE y.w2,AB AE y.w3]] w fun e w'=>e=AV (AX (decide (x=y)))/\AJ w w':=by
 obtain ⟨H1,K1⟩:=Aj h1 k1;clear h1 k1;go_enter func179,ntmps179;go_upto_region 1 with fail;obtain ⟨wb,hwb⟩:=Ab ((w.alloc (AQ #[AN x.name,AB AE x.type.kind,AB AE x.type.lo,AB AE x.type.hi,AN x.type.Av,AB AE x.type.unit,AA A1 n1 c1,AB AE x.w0,AB AE x.w1,AB AE x.w2,AB AE x.w3] 100)).alloc (AQ #[AN y.name,AB AE y.type.kind,AB AE y.type.lo,AB AE y.type.hi,AN y.type.Av,AB AE y.type.unit,AA B1 m1 d1,AB AE y.w0,AB AE y.w1,AB AE y.w2,AB AE y.w3] 100));rw [<-hwb];have hbb:AJ w wb:=by rw [hwb];exact Sx
 have kA:AZ wb w.heap.size 100 #[AN x.name,AB AE x.type.kind,AB AE x.type.lo,AB AE x.type.hi,AN x.type.Av,AB AE x.type.unit,AA A1 n1 c1,AB AE x.w0,AB AE x.w1,AB AE x.w2,AB AE x.w3]:=by rw [hwb];exact (AZ.new _ _ _).alloc _
 have kB:AZ wb (w.heap.size+1) 100 #[AN y.name,AB AE y.type.kind,AB AE y.type.lo,AB AE y.type.hi,AN y.type.Av,AB AE y.type.unit,AA B1 m1 d1,AB AE y.w0,AB AE y.w1,AB AE y.w2,AB AE y.w3]:=by rw [hwb];exact EJ Ac
 obtain ⟨ga,hga⟩:=Ab w.heap.size;obtain ⟨gb,hgb⟩:=Ab (w.heap.size+1);rw [<-hgb] at kB ⊢;rw [<-hga] at kA ⊢;have G9:ga=w.heap.size:=hga;clear hwb hga hgb;have la:=kA.lt;have lb:=kB.lt;have a0:=kA.cell 0;have b0:=kB.cell 0;have a1:=kA.cell 1;have b1:=kB.cell 1;have a2:=kA.cell 2;have b2:=kB.cell 2;have a3:=kA.cell 3;have b3:=kB.cell 3;have a4:=kA.cell 4;have b4:=kB.cell 4;have a5:=kA.cell 5;have b5:=kB.cell 5;have a6:=kA.cell 6;have b6:=kB.cell 6;have a7:=kA.cell 7;have b7:=kB.cell 7;have a8:=kA.cell 8;have b8:=kB.cell 8;have a9:=kA.cell 9;have b9:=kB.cell 9;have a10:=kA.cell 10;have b10:=kB.cell 10;simp only [Ai,An,Aw] at a0 b0 a1 b1 a2 b2 a3 b3 a4 b4 a5 b5 a6 b6 a7 b7 a8 b8 a9 b9 a10 b10;obtain ⟨HA,HB,BV⟩:=Az kA kB hbb;have C5:AI (AJ wb wb):=AF (Af _ _);clear kA kB hbb G9;clear C5;go_region
 ·obtain ⟨wc,hwc⟩:=Ab (((wb.alloc (AQ #[AB AE x.type.kind,AB AE x.type.lo,AB AE x.type.hi,AN x.type.Av,AB AE x.type.unit,AA A1 n1 c1] 97)).alloc (AQ #[AB AE y.type.kind,AB AE y.type.lo,AB AE y.type.hi,AN y.type.Av,AB AE y.type.unit,AA B1 m1 d1] 97)).drew)
  rw [<-hwc];have kS:AZ wc wb.heap.size 97 #[AB AE x.type.kind,AB AE x.type.lo,AB AE x.type.hi,AN x.type.Av,AB AE x.type.unit,AA A1 n1 c1]:=by rw [hwc];exact ((AZ.new _ _ _).alloc _).drew
  have kT:AZ wc (wb.heap.size+1) 97 #[AB AE y.type.kind,AB AE y.type.lo,AB AE y.type.hi,AN y.type.Av,AB AE y.type.unit,AA B1 m1 d1]:=by rw [hwc];exact (EJ Ac).drew
  have C5:AI (AJ wb wc):=AF (by rw [hwc];exact zW);clear hwc;obtain ⟨gs,hgs⟩:=Ab wb.heap.size;obtain ⟨gt,hgt⟩:=Ab (wb.heap.size+1);rw [<-hgt] at kT ⊢;rw [<-hgs] at kS ⊢;exact AFT
 obtain ⟨wc,hwc⟩:=Ab (((wb.alloc (AQ #[AB AE y.type.kind,AB AE y.type.lo,AB AE y.type.hi,AN y.type.Av,AB AE y.type.unit,AA B1 m1 d1] 97)).alloc (AQ #[AB AE x.type.kind,AB AE x.type.lo,AB AE x.type.hi,AN x.type.Av,AB AE x.type.unit,AA A1 n1 c1] 97)).drew);rw [<-hwc];have kS:AZ wc (wb.heap.size+1) 97 #[AB AE x.type.kind,AB AE x.type.lo,AB AE x.type.hi,AN x.type.Av,AB AE x.type.unit,AA A1 n1 c1]:=by rw [hwc];exact (EJ Ac).drew
 have kT:AZ wc wb.heap.size 97 #[AB AE y.type.kind,AB AE y.type.lo,AB AE y.type.hi,AN y.type.Av,AB AE y.type.unit,AA B1 m1 d1]:=by rw [hwc];exact ((AZ.new _ _ _).alloc _).drew
 have C5:AI (AJ wb wc):=AF (by rw [hwc];exact zW);clear hwc;obtain ⟨gs,hgs⟩:=Ab (wb.heap.size+1);obtain ⟨gt,hgt⟩:=Ab wb.heap.size;rw [<-hgs] at kS ⊢;rw [<-hgt] at kT ⊢;exact AFT
theorem pj (A B:Option Aa) (n c m d:Nat) (l r:List GZ) (w:AH) (hl:Ag 11 EW w (AA A n c) l) (hr:Ag 11 EW w (AA B m d) r):
 AS prog 178 #[AA A n c,AA B m d,.func (.func 179) #[] #[]] w fun e w'=>e=AV (AX (BW l r))/\AJ w w':=by
 have hn2:n<=9223372036854775807:=by have:=hl.le;omega
 have hln:=hl.len;have hrn:=hr.len;obtain ⟨HL,HR⟩:=Aj hl hr;clear hl hr;by_cases e:n=m
 ·subst e
  have el:l.length=r.length:=AG
  obtain ⟨HN,HE⟩:=Aj hln el;clear hln hrn el;obtain ⟨v,hv⟩:=BH (BW l r);rw [hv];have HV:AI (BW (l.drop 0) (r.drop 0)=v):=AF hv;clear hv;go_enter func178,ntmps178;go_wp2_with fail;go_loopg [17] n (fun q i wr=>∃k:Nat,k<=n/\q=n - k/\i=AB AE k/\BW (l.drop k) (r.drop k)=v/\AJ w wr)
  case atStart=>exact J4
  obtain ⟨k,hk,hq,rfl,hv,hb⟩:=hrel;obtain ⟨HQ,HB,Dw⟩:=Az hq hb hv;clear hq hb hv HV;by_cases hlt:k < n
  ·obtain ⟨a,ao,x,A1,n1,c1,rfl,hal,hx,e0,e1,e2,e3,e4,e5,e6,e7,e8,e9,e10,g1⟩:=IV (HL.o.mono DJ HB.o) hlt
   obtain ⟨b,bo,y,B1,m1,d1,rfl,hbl,hy,f0,f1,f2,f3,f4,f5,f6,f7,f8,f9,f10,j1⟩:=IV (HR.o.mono DJ HB.o) hlt;obtain ⟨HX,HY,G1,J1⟩:=CJ hx hy g1 j1;have hkn:(k:Int) < (n:Int):=AG
   have hk0:=Int.natCast_nonneg k
   clear hx hy g1 j1;go_wp2_with (go_at_call 179;refine (kP A1 B1 n1 c1 m1 d1 x y _ (G1.o.1.mono Ba ((BP _ _).alloc Ac _)) (J1.o.1.mono Ba ((BP _ _).alloc Ac _))).mono ?_);exact YW
  exact ME
 have el:¬l.length=r.length:=AG
 rw [FZ el];go_enter func178,ntmps178;exact J5
theorem ABE {x y:Mn} (e0:x.names=y.names) (e1:x.name=y.name) (e2:x.src=y.src) (e3:x.dst=y.dst):true=decide (x=y):=by
 obtain ⟨u0,u1,u2,u3⟩:=x;obtain ⟨v0,v1,v2,v3⟩:=y
 skip
 simp_all
theorem gE (A1 B1 A2 B2:Option Aa) (n1 c1 m1 d1 n2 c2 m2 d2:Nat) (x y:Mn) (w:AH) (h1:Ag 1 DV w (AA A1 n1 c1) x.names) (k1:Ag 1 DV w (AA B1 m1 d1) y.names) (h2:Ag 1 iR w (AA A2 n2 c2) x.src) (k2:Ag 1 iR w (AA B2 m2 d2) y.src):
 AS prog 181 #[AO #[AA A1 n1 c1,AN x.name,AA A2 n2 c2,AB AE x.dst],AO #[AA B1 m1 d1,AN y.name,AA B2 m2 d2,AB AE y.dst]] w fun e w'=>e=AV (AX (decide (x=y)))/\AJ w w':=by
 obtain ⟨H1,K1,H2,K2⟩:=CJ h1 k1 h2 k2;clear h1 k1 h2 k2;go_enter func181,ntmps181;go_upto_region 1 with fail;obtain ⟨wb,hwb⟩:=Ab ((w.alloc (AQ #[AA A1 n1 c1,AN x.name,AA A2 n2 c2,AB AE x.dst] 282)).alloc (AQ #[AA B1 m1 d1,AN y.name,AA B2 m2 d2,AB AE y.dst] 282));rw [<-hwb];have hbb:AJ w wb:=by rw [hwb];exact Sx
 have kA:AZ wb w.heap.size 282 #[AA A1 n1 c1,AN x.name,AA A2 n2 c2,AB AE x.dst]:=by rw [hwb];exact (AZ.new _ _ _).alloc _
 have kB:AZ wb (w.heap.size+1) 282 #[AA B1 m1 d1,AN y.name,AA B2 m2 d2,AB AE y.dst]:=by rw [hwb];exact EJ Ac
 obtain ⟨ga,hga⟩:=Ab w.heap.size;obtain ⟨gb,hgb⟩:=Ab (w.heap.size+1);rw [<-hgb] at kB ⊢;rw [<-hga] at kA ⊢;have G9:ga=w.heap.size:=hga;clear hwb hga hgb;have la:=kA.lt;have lb:=kB.lt;have a0:=kA.cell 0;have b0:=kB.cell 0;have a1:=kA.cell 1;have b1:=kB.cell 1;have a2:=kA.cell 2;have b2:=kB.cell 2;have a3:=kA.cell 3;have b3:=kB.cell 3;simp only [Ai,An,Aw] at a0 b0 a1 b1 a2 b2 a3 b3;obtain ⟨HA,HB,BV⟩:=Az kA kB hbb;have C5:AI (AJ wb wb):=AF (Af _ _);clear kA kB hbb G9;obtain ⟨v0,e0⟩:=BH (BW x.names y.names);have HC:AI (AS prog 111 #[AA A1 n1 c1,AA B1 m1 d1] wb fun e w'=>e=AV (AX v0)/\AJ wb w'):=AF (by have hq:=AW BV.o C5.o;rw [<-e0];exact Me A1 B1 n1 c1 m1 d1 x.names y.names wb (H1.o.mono Ba hq) (K1.o.mono Ba hq))
 have E0:=AF e0;clear e0;go_wp2_with (go_at_call 111;refine HC.o.mono ?_;clear HC);rintro e w1 ⟨rfl,hb1⟩;have CG:=AF (AW C5.o hb1);clear hb1;cases v0
 case false=>go_wp2;go_ret;exact zK
 clear a0 b0 a1 b1 a2 b2 a3 b3;have a0:=(HA.o.below CG.o la).cell 0;have b0:=(HB.o.below CG.o lb).cell 0;have a1:=(HA.o.below CG.o la).cell 1;have b1:=(HB.o.below CG.o lb).cell 1;have a2:=(HA.o.below CG.o la).cell 2;have b2:=(HB.o.below CG.o lb).cell 2;have a3:=(HA.o.below CG.o la).cell 3;have b3:=(HB.o.below CG.o lb).cell 3;simp only [Ai,An,Aw] at a0 b0 a1 b1 a2 b2 a3 b3;by_cases e1:x.name=y.name
 case neg=>
  have s1:(x.name.toList==y.name.toList)=false:=by rw [Dt];exact BO e1
  have E1:=AF e1;clear e1;go_wp2;go_ret;refine ⟨A8 ?_,AW BV.o CG.o⟩;exact zY
 have s1:(x.name.toList==y.name.toList)=true:=by rw [Dt];exact Bg e1
 have E1:=AF e1;clear e1;obtain ⟨v2,e2⟩:=BH (BW x.src y.src);have HC:AI (AS prog 62 #[AA A2 n2 c2,AA B2 m2 d2] w1 fun e w'=>e=AV (AX v2)/\AJ w1 w'):=AF (by have hq:=AW BV.o CG.o;rw [<-e2];exact Sd A2 B2 n2 c2 m2 d2 x.src y.src w1 (H2.o.mono JS hq) (K2.o.mono JS hq))
 have E2:=AF e2;clear e2;go_wp2_with (go_at_call 62;refine HC.o.mono ?_;clear HC);rintro e w2 ⟨rfl,hb2⟩;have DX:=AF (AW CG.o hb2);clear hb2;cases v2
 case false=>go_wp2;go_ret;exact ⟨A8 (BO (fun h=>JP E2.o Fq)).symm,AW BV.o DX.o⟩
 clear a0 b0 a1 b1 a2 b2 a3 b3;have a0:=(HA.o.below DX.o la).cell 0;have b0:=(HB.o.below DX.o lb).cell 0;have a1:=(HA.o.below DX.o la).cell 1;have b1:=(HB.o.below DX.o lb).cell 1;have a2:=(HA.o.below DX.o la).cell 2;have b2:=(HB.o.below DX.o lb).cell 2;have a3:=(HA.o.below DX.o la).cell 3;have b3:=(HB.o.below DX.o lb).cell 3;simp only [Ai,An,Aw] at a0 b0 a1 b1 a2 b2 a3 b3;by_cases e3:x.dst=y.dst
 case neg=>have E3:=AF e3;go_wp2;go_ret;refine ⟨A8 ?_,AW BV.o DX.o⟩;rw [BO (fun h=>E3.o Fq)];simpa using E3.o
 have E3:=AF e3;go_wp2;go_ret;exact ⟨A8 (by rw [<-ABE (Gx E0.o) E1.o (Gx E2.o) E3.o] <;> simp [E3.o]),AW BV.o DX.o⟩
theorem lN (A B:Option Aa) (n c m d:Nat) (l r:List Mn) (w:AH) (hl:Ag 4 Hb w (AA A n c) l) (hr:Ag 4 Hb w (AA B m d) r):
 AS prog 180 #[AA A n c,AA B m d,.func (.func 181) #[] #[]] w fun e w'=>e=AV (AX (BW l r))/\AJ w w':=by
 have hn2:n<=9223372036854775807:=by have:=hl.le;omega
 have hln:=hl.len;have hrn:=hr.len;obtain ⟨HL,HR⟩:=Aj hl hr;clear hl hr;by_cases e:n=m
 ·subst e
  have el:l.length=r.length:=AG
  obtain ⟨HN,HE⟩:=Aj hln el;clear hln hrn el;obtain ⟨v,hv⟩:=BH (BW l r);rw [hv];have HV:AI (BW (l.drop 0) (r.drop 0)=v):=AF hv;clear hv;go_enter func180,ntmps180;go_wp2_with fail;go_loopg [17] n (fun q i wr=>∃k:Nat,k<=n/\q=n - k/\i=AB AE k/\BW (l.drop k) (r.drop k)=v/\AJ w wr)
  case atStart=>exact J4
  obtain ⟨k,hk,hq,rfl,hv,hb⟩:=hrel;obtain ⟨HQ,HB,Dw⟩:=Az hq hb hv;clear hq hb hv HV;by_cases hlt:k < n
  ·obtain ⟨a,ao,x,A1,n1,c1,A2,n2,c2,rfl,hal,hx,e0,e1,e2,e3,g1,g2⟩:=uJ (HL.o.mono IH HB.o) hlt
   obtain ⟨b,bo,y,B1,m1,d1,B2,m2,d2,rfl,hbl,hy,f0,f1,f2,f3,j1,j2⟩:=uJ (HR.o.mono IH HB.o) hlt;obtain ⟨HX,HY,G1,J1,G2,J2⟩:=FR hx hy g1 j1 g2 j2;have hkn:(k:Int) < (n:Int):=AG
   have hk0:=Int.natCast_nonneg k
   clear hx hy g1 g2 j1 j2;go_wp2_with (go_at_call 181;refine (gE A1 B1 A2 B2 n1 c1 m1 d1 n2 c2 m2 d2 x y _ (G1.o.1.mono Ba ((BP _ _).alloc Ac _)) (J1.o.1.mono Ba ((BP _ _).alloc Ac _)) (G2.o.1.mono JS ((BP _ _).alloc Ac _)) (J2.o.1.mono JS ((BP _ _).alloc Ac _))).mono ?_);exact YW
  exact ME
 have el:¬l.length=r.length:=AG
 rw [FZ el];go_enter func180,ntmps180;exact J5
theorem kV {x y:Cj} (e0:x.name=y.name) (e1:x.most=y.most) (e2:x.may=y.may):true=decide (x=y):=by
 obtain ⟨u0,u1,u2⟩:=x;obtain ⟨v0,v1,v2⟩:=y
 skip
 simp_all
theorem cS (A1 B1:Option Aa) (n1 c1 m1 d1:Nat) (x y:Cj) (w:AH) (h1:Ag 4 IF w (AA A1 n1 c1) x.may) (k1:Ag 4 IF w (AA B1 m1 d1) y.may):
 AS prog 120 #[AO #[AN x.name,AA A1 n1 c1,AB AE x.most],AO #[AN y.name,AA B1 m1 d1,AB AE y.most]] w fun e w'=>e=AV (AX (decide (x=y)))/\AJ w w':=by
 obtain ⟨H1,K1⟩:=Aj h1 k1;clear h1 k1;go_enter func120,ntmps120;go_upto_region 1 with fail;obtain ⟨wb,hwb⟩:=Ab ((w.alloc (AQ #[AN x.name,AA A1 n1 c1,AB AE x.most] 157)).alloc (AQ #[AN y.name,AA B1 m1 d1,AB AE y.most] 157));rw [<-hwb];have hbb:AJ w wb:=by rw [hwb];exact Sx
 have kA:AZ wb w.heap.size 157 #[AN x.name,AA A1 n1 c1,AB AE x.most]:=by rw [hwb];exact (AZ.new _ _ _).alloc _
 have kB:AZ wb (w.heap.size+1) 157 #[AN y.name,AA B1 m1 d1,AB AE y.most]:=by rw [hwb];exact EJ Ac
 obtain ⟨ga,hga⟩:=Ab w.heap.size;obtain ⟨gb,hgb⟩:=Ab (w.heap.size+1);rw [<-hgb] at kB ⊢;rw [<-hga] at kA ⊢;have G9:ga=w.heap.size:=hga;clear hwb hga hgb;have la:=kA.lt;have lb:=kB.lt;have a0:=kA.cell 0;have b0:=kB.cell 0;have a1:=kA.cell 1;have b1:=kB.cell 1;have a2:=kA.cell 2;have b2:=kB.cell 2;simp only [Ai,An,Aw] at a0 b0 a1 b1 a2 b2;obtain ⟨HA,HB,BV⟩:=Az kA kB hbb;have C5:AI (AJ wb wb):=AF (Af _ _);clear kA kB hbb G9;by_cases e0:x.name=y.name
 case neg=>
  exact zZ
 have s0:(x.name.toList==y.name.toList)=true:=by rw [Dt];exact Bg e0
 have E0:=AF e0;clear e0;by_cases e1:x.most=y.most
 case neg=>exact AAm
 have E1:=AF e1;obtain ⟨v2,e2⟩:=BH (BW x.may y.may);have HC:AI (AS prog 186 #[AA A1 n1 c1,AA B1 m1 d1] wb fun e w'=>e=AV (AX v2)/\AJ wb w'):=AF (by have hq:=AW BV.o C5.o;rw [<-e2];exact ph A1 B1 n1 c1 m1 d1 x.may y.may wb (H1.o.mono J8 hq) (K1.o.mono J8 hq))
 have E2:=AF e2;clear e2;go_wp2_with (go_at_call 186;refine HC.o.mono ?_;clear HC);rintro e w1 ⟨rfl,hb1⟩;have CG:=AF (AW C5.o hb1);clear hb1;cases v2
 case false=>go_wp2;go_ret;exact zJ
 go_wp2;go_ret;exact ⟨A8 (kV E0.o E1.o (Gx E2.o)),AW BV.o CG.o⟩
theorem gj (A B:Option Aa) (n c m d:Nat) (l r:List Cj) (w:AH) (hl:Ag 3 BT w (AA A n c) l) (hr:Ag 3 BT w (AA B m d) r):
 AS prog 119 #[AA A n c,AA B m d,.func (.func 120) #[] #[]] w fun e w'=>e=AV (AX (BW l r))/\AJ w w':=by
 have hn2:n<=9223372036854775807:=by have:=hl.le;omega
 have hln:=hl.len;have hrn:=hr.len;obtain ⟨HL,HR⟩:=Aj hl hr;clear hl hr;by_cases e:n=m
 ·subst e
  have el:l.length=r.length:=AG
  obtain ⟨HN,HE⟩:=Aj hln el;clear hln hrn el;obtain ⟨v,hv⟩:=BH (BW l r);rw [hv];have HV:AI (BW (l.drop 0) (r.drop 0)=v):=AF hv;clear hv;go_enter func119,ntmps119;go_wp2_with fail;go_loopg [17] n (fun q i wr=>∃k:Nat,k<=n/\q=n - k/\i=AB AE k/\BW (l.drop k) (r.drop k)=v/\AJ w wr)
  case atStart=>exact J4
  obtain ⟨k,hk,hq,rfl,hv,hb⟩:=hrel;obtain ⟨HQ,HB,Dw⟩:=Az hq hb hv;clear hq hb hv HV;by_cases hlt:k < n
  ·obtain ⟨a,ao,x,A1,n1,c1,rfl,hal,hx,e0,e1,e2,g1⟩:=L7 (HL.o.mono BN HB.o) hlt
   obtain ⟨b,bo,y,B1,m1,d1,rfl,hbl,hy,f0,f1,f2,j1⟩:=L7 (HR.o.mono BN HB.o) hlt;obtain ⟨HX,HY,G1,J1⟩:=CJ hx hy g1 j1;have hkn:(k:Int) < (n:Int):=AG
   have hk0:=Int.natCast_nonneg k
   clear hx hy g1 j1;go_wp2_with (go_at_call 120;refine (cS A1 B1 n1 c1 m1 d1 x y _ (G1.o.1.mono J8 ((BP _ _).alloc Ac _)) (J1.o.1.mono J8 ((BP _ _).alloc Ac _))).mono ?_);exact YW
  exact ME
 have el:¬l.length=r.length:=AG
 rw [FZ el];go_enter func119,ntmps119;exact J5
theorem oA {x y:BI} (e0:x.name=y.name) (e1:x.Hh=y.Hh) (e2:x.Au=y.Au) (e3:x.version=y.version) (e4:x.fields=y.fields) (e5:x.deps=y.deps):true=decide (x=y):=by
 exact zh
theorem gD (A1 B1 A2 B2:Option Aa) (n1 c1 m1 d1 n2 c2 m2 d2:Nat) (x y:BI) (w:AH) (h1:Ag 11 EW w (AA A1 n1 c1) x.fields) (k1:Ag 11 EW w (AA B1 m1 d1) y.fields) (h2:Ag 4 Hb w (AA A2 n2 c2) x.deps) (k2:Ag 4 Hb w (AA B2 m2 d2) y.deps):
 AS prog 114 #[AO #[AN x.name,AN x.Hh,AB AE x.Au,AB AE x.version,AA A1 n1 c1,AA A2 n2 c2],AO #[AN y.name,AN y.Hh,AB AE y.Au,AB AE y.version,AA B1 m1 d1,AA B2 m2 d2]] w fun e w'=>e=AV (AX (decide (x=y)))/\AJ w w':=by
 obtain ⟨H1,K1,H2,K2⟩:=CJ h1 k1 h2 k2;clear h1 k1 h2 k2;go_enter func114,ntmps114;go_upto_region 1 with fail;obtain ⟨wb,hwb⟩:=Ab ((w.alloc (AQ #[AN x.name,AN x.Hh,AB AE x.Au,AB AE x.version,AA A1 n1 c1,AA A2 n2 c2] 79)).alloc (AQ #[AN y.name,AN y.Hh,AB AE y.Au,AB AE y.version,AA B1 m1 d1,AA B2 m2 d2] 79));rw [<-hwb];have hbb:AJ w wb:=by rw [hwb];exact Sx
 have kA:AZ wb w.heap.size 79 #[AN x.name,AN x.Hh,AB AE x.Au,AB AE x.version,AA A1 n1 c1,AA A2 n2 c2]:=by rw [hwb];exact (AZ.new _ _ _).alloc _
 have kB:AZ wb (w.heap.size+1) 79 #[AN y.name,AN y.Hh,AB AE y.Au,AB AE y.version,AA B1 m1 d1,AA B2 m2 d2]:=by rw [hwb];exact EJ Ac
 obtain ⟨ga,hga⟩:=Ab w.heap.size;obtain ⟨gb,hgb⟩:=Ab (w.heap.size+1);rw [<-hgb] at kB ⊢;rw [<-hga] at kA ⊢;have G9:ga=w.heap.size:=hga;clear hwb hga hgb;have la:=kA.lt;have lb:=kB.lt;have a0:=kA.cell 0;have b0:=kB.cell 0;have a1:=kA.cell 1;have b1:=kB.cell 1;have a2:=kA.cell 2;have b2:=kB.cell 2;have a3:=kA.cell 3;have b3:=kB.cell 3;have a4:=kA.cell 4;have b4:=kB.cell 4;have a5:=kA.cell 5;have b5:=kB.cell 5;simp only [Ai,An,Aw] at a0 b0 a1 b1 a2 b2 a3 b3 a4 b4 a5 b5;obtain ⟨HA,HB,BV⟩:=Az kA kB hbb;have C5:AI (AJ wb wb):=AF (Af _ _);clear kA kB hbb G9;by_cases e0:x.name=y.name
 case neg=>
  exact zZ
 have s0:(x.name.toList==y.name.toList)=true:=by rw [Dt];exact Bg e0
 have E0:=AF e0;clear e0;by_cases e1:x.Hh=y.Hh
 case neg=>
  have s1:(x.Hh.toList==y.Hh.toList)=false:=by rw [Dt];exact BO e1
  exact AAN
 have s1:(x.Hh.toList==y.Hh.toList)=true:=by rw [Dt];exact Bg e1
 have E1:=AF e1;clear e1;by_cases e2:x.Au=y.Au
 case neg=>exact vS
 have E2:=AF e2;by_cases e3:x.version=y.version
 case neg=>exact vT
 have E3:=AF e3;obtain ⟨v4,e4⟩:=BH (BW x.fields y.fields);have HC:AI (AS prog 178 #[AA A1 n1 c1,AA B1 m1 d1,.func (.func 179) #[] #[]] wb fun e w'=>e=AV (AX v4)/\AJ wb w'):=AF (by have hq:=AW BV.o C5.o;rw [<-e4];exact pj A1 B1 n1 c1 m1 d1 x.fields y.fields wb (H1.o.mono DJ hq) (K1.o.mono DJ hq))
 have E4:=AF e4;clear e4;go_wp2_with (go_at_call 178;refine HC.o.mono ?_;clear HC);rintro e w1 ⟨rfl,hb1⟩;have CG:=AF (AW C5.o hb1);clear hb1;cases v4
 case false=>go_wp2;go_ret;exact zI
 clear a0 b0 a1 b1 a2 b2 a3 b3 a4 b4 a5 b5;have a0:=(HA.o.below CG.o la).cell 0;have b0:=(HB.o.below CG.o lb).cell 0;have a1:=(HA.o.below CG.o la).cell 1;have b1:=(HB.o.below CG.o lb).cell 1;have a2:=(HA.o.below CG.o la).cell 2;have b2:=(HB.o.below CG.o lb).cell 2;have a3:=(HA.o.below CG.o la).cell 3;have b3:=(HB.o.below CG.o lb).cell 3;have a4:=(HA.o.below CG.o la).cell 4;have b4:=(HB.o.below CG.o lb).cell 4;have a5:=(HA.o.below CG.o la).cell 5;have b5:=(HB.o.below CG.o lb).cell 5;simp only [Ai,An,Aw] at a0 b0 a1 b1 a2 b2 a3 b3 a4 b4 a5 b5;obtain ⟨v5,e5⟩:=BH (BW x.deps y.deps);have HC:AI (AS prog 180 #[AA A2 n2 c2,AA B2 m2 d2,.func (.func 181) #[] #[]] w1 fun e w'=>e=AV (AX v5)/\AJ w1 w'):=AF (by have hq:=AW BV.o CG.o;rw [<-e5];exact lN A2 B2 n2 c2 m2 d2 x.deps y.deps w1 (H2.o.mono IH hq) (K2.o.mono IH hq))
 have E5:=AF e5;clear e5;go_wp2_with (go_at_call 180;refine HC.o.mono ?_;clear HC);rintro e w2 ⟨rfl,hb2⟩;have DX:=AF (AW CG.o hb2);clear hb2;cases v5
 case false=>go_wp2;go_ret;exact ⟨A8 (BO (fun h=>JP E5.o Fq)).symm,AW BV.o DX.o⟩
 go_wp2;go_ret;exact ⟨A8 (oA E0.o E1.o E2.o E3.o (Gx E4.o) (Gx E5.o)),AW BV.o DX.o⟩
theorem lK (A B:Option Aa) (n c m d:Nat) (l r:List BI) (w:AH) (hl:Ag 6 BR w (AA A n c) l) (hr:Ag 6 BR w (AA B m d) r):
 AS prog 113 #[AA A n c,AA B m d,.func (.func 114) #[] #[]] w fun e w'=>e=AV (AX (BW l r))/\AJ w w':=by
 have hn2:n<=9223372036854775807:=by have:=hl.le;omega
 have hln:=hl.len;have hrn:=hr.len;obtain ⟨HL,HR⟩:=Aj hl hr;clear hl hr;by_cases e:n=m
 ·subst e
  have el:l.length=r.length:=AG
  obtain ⟨HN,HE⟩:=Aj hln el;clear hln hrn el;obtain ⟨v,hv⟩:=BH (BW l r);rw [hv];have HV:AI (BW (l.drop 0) (r.drop 0)=v):=AF hv;clear hv;go_enter func113,ntmps113;go_wp2_with fail;go_loopg [17] n (fun q i wr=>∃k:Nat,k<=n/\q=n - k/\i=AB AE k/\BW (l.drop k) (r.drop k)=v/\AJ w wr)
  case atStart=>exact J4
  obtain ⟨k,hk,hq,rfl,hv,hb⟩:=hrel;obtain ⟨HQ,HB,Dw⟩:=Az hq hb hv;clear hq hb hv HV;by_cases hlt:k < n
  ·obtain ⟨a,ao,x,A1,n1,c1,A2,n2,c2,rfl,hal,hx,e0,e1,e2,e3,e4,e5,g1,g2⟩:=Fz (HL.o.mono BM HB.o) hlt
   obtain ⟨b,bo,y,B1,m1,d1,B2,m2,d2,rfl,hbl,hy,f0,f1,f2,f3,f4,f5,j1,j2⟩:=Fz (HR.o.mono BM HB.o) hlt;obtain ⟨HX,HY,G1,J1,G2,J2⟩:=FR hx hy g1 j1 g2 j2;have hkn:(k:Int) < (n:Int):=AG
   have hk0:=Int.natCast_nonneg k
   clear hx hy g1 g2 j1 j2;go_wp2_with (go_at_call 114;refine (gD A1 B1 A2 B2 n1 c1 m1 d1 n2 c2 m2 d2 x y _ (G1.o.1.mono DJ ((BP _ _).alloc Ac _)) (J1.o.1.mono DJ ((BP _ _).alloc Ac _)) (G2.o.1.mono IH ((BP _ _).alloc Ac _)) (J2.o.1.mono IH ((BP _ _).alloc Ac _))).mono ?_);exact YW
  exact ME
 have el:¬l.length=r.length:=AG
 rw [FZ el];go_enter func113,ntmps113;exact J5
theorem wB {x y:Ck} (e0:x.head=y.head) (e1:x.schema=y.schema) (e2:x.froms=y.froms) (e3:x.DQ=y.DQ) (e4:x.sets=y.sets):true=decide (x=y):=by
 obtain ⟨u0,u1,u2,u3,u4⟩:=x;obtain ⟨v0,v1,v2,v3,v4⟩:=y
 skip
 simp_all
theorem nY (A1 B1 A2 B2 A3 B3:Option Aa) (n1 c1 m1 d1 n2 c2 m2 d2 n3 c3 m3 d3:Nat) (x y:Ck) (w:AH) (h1:Ag 8 DI w (AA A1 n1 c1) x.froms) (k1:Ag 8 DI w (AA B1 m1 d1) y.froms) (h2:Ag 11 EQ w (AA A2 n2 c2) x.DQ) (k2:Ag 11 EQ w (AA B2 m2 d2) y.DQ) (h3:Ag 7 Gc w (AA A3 n3 c3) x.sets) (k3:Ag 7 Gc w (AA B3 m3 d3) y.sets):
 AS prog 116 #[AO #[AN x.head,AB AE x.schema,AA A1 n1 c1,AA A2 n2 c2,AA A3 n3 c3],AO #[AN y.head,AB AE y.schema,AA B1 m1 d1,AA B2 m2 d2,AA B3 m3 d3]] w fun e w'=>e=AV (AX (decide (x=y)))/\AJ w w':=by
 obtain ⟨H1,K1,H2,K2,H3,K3⟩:=FR h1 k1 h2 k2 h3 k3;clear h1 k1 h2 k2 h3 k3;go_enter func116,ntmps116;go_upto_region 1 with fail;obtain ⟨wb,hwb⟩:=Ab ((w.alloc (AQ #[AN x.head,AB AE x.schema,AA A1 n1 c1,AA A2 n2 c2,AA A3 n3 c3] 151)).alloc (AQ #[AN y.head,AB AE y.schema,AA B1 m1 d1,AA B2 m2 d2,AA B3 m3 d3] 151));rw [<-hwb];have hbb:AJ w wb:=by rw [hwb];exact Sx
 have kA:AZ wb w.heap.size 151 #[AN x.head,AB AE x.schema,AA A1 n1 c1,AA A2 n2 c2,AA A3 n3 c3]:=by rw [hwb];exact (AZ.new _ _ _).alloc _
 have kB:AZ wb (w.heap.size+1) 151 #[AN y.head,AB AE y.schema,AA B1 m1 d1,AA B2 m2 d2,AA B3 m3 d3]:=by rw [hwb];exact EJ Ac
 obtain ⟨ga,hga⟩:=Ab w.heap.size;obtain ⟨gb,hgb⟩:=Ab (w.heap.size+1);rw [<-hgb] at kB ⊢;rw [<-hga] at kA ⊢;have G9:ga=w.heap.size:=hga;clear hwb hga hgb;have la:=kA.lt;have lb:=kB.lt;have a0:=kA.cell 0;have b0:=kB.cell 0;have a1:=kA.cell 1;have b1:=kB.cell 1;have a2:=kA.cell 2;have b2:=kB.cell 2;have a3:=kA.cell 3;have b3:=kB.cell 3;have a4:=kA.cell 4;have b4:=kB.cell 4;simp only [Ai,An,Aw] at a0 b0 a1 b1 a2 b2 a3 b3 a4 b4;obtain ⟨HA,HB,BV⟩:=Az kA kB hbb;have C5:AI (AJ wb wb):=AF (Af _ _);clear kA kB hbb G9;by_cases e0:x.head=y.head
 case neg=>
  have s0:(x.head.toList==y.head.toList)=false:=by rw [Dt];exact BO e0
  exact mK
 have s0:(x.head.toList==y.head.toList)=true:=by rw [Dt];exact Bg e0
 have E0:=AF e0;clear e0;by_cases e1:x.schema=y.schema
 case neg=>exact AAm
 have E1:=AF e1;obtain ⟨v2,e2⟩:=BH (BW x.froms y.froms);have HC:AI (AS prog 182 #[AA A1 n1 c1,AA B1 m1 d1] wb fun e w'=>e=AV (AX v2)/\AJ wb w'):=AF (by have hq:=AW BV.o C5.o;rw [<-e2];exact lI A1 B1 n1 c1 m1 d1 x.froms y.froms wb (H1.o.mono FL hq) (K1.o.mono FL hq))
 have E2:=AF e2;clear e2;go_wp2_with (go_at_call 182;refine HC.o.mono ?_;clear HC);rintro e w1 ⟨rfl,hb1⟩;have CG:=AF (AW C5.o hb1);clear hb1;cases v2
 case false=>go_wp2;go_ret;exact zJ
 clear a0 b0 a1 b1 a2 b2 a3 b3 a4 b4;have a0:=(HA.o.below CG.o la).cell 0;have b0:=(HB.o.below CG.o lb).cell 0;have a1:=(HA.o.below CG.o la).cell 1;have b1:=(HB.o.below CG.o lb).cell 1;have a2:=(HA.o.below CG.o la).cell 2;have b2:=(HB.o.below CG.o lb).cell 2;have a3:=(HA.o.below CG.o la).cell 3;have b3:=(HB.o.below CG.o lb).cell 3;have a4:=(HA.o.below CG.o la).cell 4;have b4:=(HB.o.below CG.o lb).cell 4;simp only [Ai,An,Aw] at a0 b0 a1 b1 a2 b2 a3 b3 a4 b4;obtain ⟨v3,e3⟩:=BH (BW x.DQ y.DQ);have HC:AI (AS prog 183 #[AA A2 n2 c2,AA B2 m2 d2] w1 fun e w'=>e=AV (AX v3)/\AJ w1 w'):=AF (by have hq:=AW BV.o CG.o;rw [<-e3];exact lJ A2 B2 n2 c2 m2 d2 x.DQ y.DQ w1 (H2.o.mono Gi hq) (K2.o.mono Gi hq))
 have E3:=AF e3;clear e3;go_wp2_with (go_at_call 183;refine HC.o.mono ?_;clear HC);rintro e w2 ⟨rfl,hb2⟩;have DX:=AF (AW CG.o hb2);clear hb2;cases v3
 case false=>go_wp2;go_ret;exact ⟨A8 (BO (fun h=>JP E3.o Fq)).symm,AW BV.o DX.o⟩
 clear a0 b0 a1 b1 a2 b2 a3 b3 a4 b4;have a0:=(HA.o.below DX.o la).cell 0;have b0:=(HB.o.below DX.o lb).cell 0;have a1:=(HA.o.below DX.o la).cell 1;have b1:=(HB.o.below DX.o lb).cell 1;have a2:=(HA.o.below DX.o la).cell 2;have b2:=(HB.o.below DX.o lb).cell 2;have a3:=(HA.o.below DX.o la).cell 3;have b3:=(HB.o.below DX.o lb).cell 3;have a4:=(HA.o.below DX.o la).cell 4;have b4:=(HB.o.below DX.o lb).cell 4;simp only [Ai,An,Aw] at a0 b0 a1 b1 a2 b2 a3 b3 a4 b4;obtain ⟨v4,e4⟩:=BH (BW x.sets y.sets);have HC:AI (AS prog 184 #[AA A3 n3 c3,AA B3 m3 d3] w2 fun e w'=>e=AV (AX v4)/\AJ w2 w'):=AF (by have hq:=AW BV.o DX.o;rw [<-e4];exact pg A3 B3 n3 c3 m3 d3 x.sets y.sets w2 (H3.o.mono IE hq) (K3.o.mono IE hq))
 have E4:=AF e4;clear e4;go_wp2_with (go_at_call 184;refine HC.o.mono ?_;clear HC);rintro e w3 ⟨rfl,hb3⟩;have MC:=AF (AW DX.o hb3);clear hb3;cases v4
 case false=>go_wp2;go_ret;exact ⟨A8 (BO (fun h=>JP E4.o Fq)).symm,AW BV.o MC.o⟩
 go_wp2;go_ret;exact ⟨A8 (wB E0.o E1.o (Gx E2.o) (Gx E3.o) (Gx E4.o)),AW BV.o MC.o⟩
theorem rz (A B:Option Aa) (n c m d:Nat) (l r:List Ck) (w:AH) (hl:Ag 5 CM w (AA A n c) l) (hr:Ag 5 CM w (AA B m d) r):
 AS prog 115 #[AA A n c,AA B m d,.func (.func 116) #[] #[]] w fun e w'=>e=AV (AX (BW l r))/\AJ w w':=by
 have hn2:n<=9223372036854775807:=by have:=hl.le;omega
 have hln:=hl.len;have hrn:=hr.len;obtain ⟨HL,HR⟩:=Aj hl hr;clear hl hr;by_cases e:n=m
 ·subst e
  have el:l.length=r.length:=AG
  obtain ⟨HN,HE⟩:=Aj hln el;clear hln hrn el;obtain ⟨v,hv⟩:=BH (BW l r);rw [hv];have HV:AI (BW (l.drop 0) (r.drop 0)=v):=AF hv;clear hv;go_enter func115,ntmps115;go_wp2_with fail;go_loopg [17] n (fun q i wr=>∃k:Nat,k<=n/\q=n - k/\i=AB AE k/\BW (l.drop k) (r.drop k)=v/\AJ w wr)
  case atStart=>exact J4
  obtain ⟨k,hk,hq,rfl,hv,hb⟩:=hrel;obtain ⟨HQ,HB,Dw⟩:=Az hq hb hv;clear hq hb hv HV;by_cases hlt:k < n
  ·obtain ⟨a,ao,x,A1,n1,c1,A2,n2,c2,A3,n3,c3,rfl,hal,hx,e0,e1,e2,e3,e4,g1,g2,g3⟩:=Pw (HL.o.mono Bh HB.o) hlt
   obtain ⟨b,bo,y,B1,m1,d1,B2,m2,d2,B3,m3,d3,rfl,hbl,hy,f0,f1,f2,f3,f4,j1,j2,j3⟩:=Pw (HR.o.mono Bh HB.o) hlt;obtain ⟨HX,HY,G1,J1,G2,J2,G3,J3⟩:=Wy hx hy g1 j1 g2 j2 g3 j3;have hkn:(k:Int) < (n:Int):=AG
   have hk0:=Int.natCast_nonneg k
   clear hx hy g1 g2 g3 j1 j2 j3;go_wp2_with (go_at_call 116;refine (nY A1 B1 A2 B2 A3 B3 n1 c1 m1 d1 n2 c2 m2 d2 n3 c3 m3 d3 x y _ (G1.o.1.mono FL ((BP _ _).alloc Ac _)) (J1.o.1.mono FL ((BP _ _).alloc Ac _)) (G2.o.1.mono Gi ((BP _ _).alloc Ac _)) (J2.o.1.mono Gi ((BP _ _).alloc Ac _)) (G3.o.1.mono IE ((BP _ _).alloc Ac _)) (J3.o.1.mono IE ((BP _ _).alloc Ac _))).mono ?_);exact YW
  exact ME
 have el:¬l.length=r.length:=AG
 rw [FZ el];go_enter func115,ntmps115;exact J5
theorem kY {x y:C4} (e0:x.from_=y.from_) (e1:x.DU=y.DU) (e2:x.a=y.a) (e3:x.b=y.b) (e4:x.moves=y.moves):true=decide (x=y):=by
 obtain ⟨u0,u1,u2,u3,u4⟩:=x;obtain ⟨v0,v1,v2,v3,v4⟩:=y
 skip
 simp_all
theorem cT (A1 B1:Option Aa) (n1 c1 m1 d1:Nat) (x y:C4) (w:AH) (h1:Ag 5 GJ w (AA A1 n1 c1) x.moves) (k1:Ag 5 GJ w (AA B1 m1 d1) y.moves):
 AS prog 118 #[AO #[AN x.from_,AN x.DU,AB AE x.a,AB AE x.b,AA A1 n1 c1],AO #[AN y.from_,AN y.DU,AB AE y.a,AB AE y.b,AA B1 m1 d1]] w fun e w'=>e=AV (AX (decide (x=y)))/\AJ w w':=by
 obtain ⟨H1,K1⟩:=Aj h1 k1;clear h1 k1;go_enter func118,ntmps118;go_upto_region 1 with fail;obtain ⟨wb,hwb⟩:=Ab ((w.alloc (AQ #[AN x.from_,AN x.DU,AB AE x.a,AB AE x.b,AA A1 n1 c1] 154)).alloc (AQ #[AN y.from_,AN y.DU,AB AE y.a,AB AE y.b,AA B1 m1 d1] 154));rw [<-hwb];have hbb:AJ w wb:=by rw [hwb];exact Sx
 have kA:AZ wb w.heap.size 154 #[AN x.from_,AN x.DU,AB AE x.a,AB AE x.b,AA A1 n1 c1]:=by rw [hwb];exact (AZ.new _ _ _).alloc _
 have kB:AZ wb (w.heap.size+1) 154 #[AN y.from_,AN y.DU,AB AE y.a,AB AE y.b,AA B1 m1 d1]:=by rw [hwb];exact EJ Ac
 obtain ⟨ga,hga⟩:=Ab w.heap.size;obtain ⟨gb,hgb⟩:=Ab (w.heap.size+1);rw [<-hgb] at kB ⊢;rw [<-hga] at kA ⊢;have G9:ga=w.heap.size:=hga;clear hwb hga hgb;have la:=kA.lt;have lb:=kB.lt;have a0:=kA.cell 0;have b0:=kB.cell 0;have a1:=kA.cell 1;have b1:=kB.cell 1;have a2:=kA.cell 2;have b2:=kB.cell 2;have a3:=kA.cell 3;have b3:=kB.cell 3;have a4:=kA.cell 4;have b4:=kB.cell 4;simp only [Ai,An,Aw] at a0 b0 a1 b1 a2 b2 a3 b3 a4 b4;obtain ⟨HA,HB,BV⟩:=Az kA kB hbb;have C5:AI (AJ wb wb):=AF (Af _ _);clear kA kB hbb G9;by_cases e0:x.from_=y.from_
 case neg=>
  have s0:(x.from_.toList==y.from_.toList)=false:=by rw [Dt];exact BO e0
  exact mK
 have s0:(x.from_.toList==y.from_.toList)=true:=by rw [Dt];exact Bg e0
 have E0:=AF e0;clear e0;by_cases e1:x.DU=y.DU
 case neg=>
  have s1:(x.DU.toList==y.DU.toList)=false:=by rw [Dt];exact BO e1
  exact AAN
 have s1:(x.DU.toList==y.DU.toList)=true:=by rw [Dt];exact Bg e1
 have E1:=AF e1;clear e1;by_cases e2:x.a=y.a
 case neg=>exact vS
 have E2:=AF e2;by_cases e3:x.b=y.b
 case neg=>exact vT
 have E3:=AF e3;obtain ⟨v4,e4⟩:=BH (BW x.moves y.moves);have HC:AI (AS prog 185 #[AA A1 n1 c1,AA B1 m1 d1] wb fun e w'=>e=AV (AX v4)/\AJ wb w'):=AF (by have hq:=AW BV.o C5.o;rw [<-e4];exact lH A1 B1 n1 c1 m1 d1 x.moves y.moves wb (H1.o.mono IG hq) (K1.o.mono IG hq))
 have E4:=AF e4;clear e4;go_wp2_with (go_at_call 185;refine HC.o.mono ?_;clear HC);rintro e w1 ⟨rfl,hb1⟩;have CG:=AF (AW C5.o hb1);clear hb1;cases v4
 case false=>go_wp2;go_ret;exact zI
 go_wp2;go_ret;exact ⟨A8 (kY E0.o E1.o E2.o E3.o (Gx E4.o)),AW BV.o CG.o⟩
theorem gp (A B:Option Aa) (n c m d:Nat) (l r:List C4) (w:AH) (hl:Ag 5 By w (AA A n c) l) (hr:Ag 5 By w (AA B m d) r):
 AS prog 117 #[AA A n c,AA B m d,.func (.func 118) #[] #[]] w fun e w'=>e=AV (AX (BW l r))/\AJ w w':=by
 have hn2:n<=9223372036854775807:=by have:=hl.le;omega
 have hln:=hl.len;have hrn:=hr.len;obtain ⟨HL,HR⟩:=Aj hl hr;clear hl hr;by_cases e:n=m
 ·subst e
  have el:l.length=r.length:=AG
  obtain ⟨HN,HE⟩:=Aj hln el;clear hln hrn el;obtain ⟨v,hv⟩:=BH (BW l r);rw [hv];have HV:AI (BW (l.drop 0) (r.drop 0)=v):=AF hv;clear hv;go_enter func117,ntmps117;go_wp2_with fail;go_loopg [17] n (fun q i wr=>∃k:Nat,k<=n/\q=n - k/\i=AB AE k/\BW (l.drop k) (r.drop k)=v/\AJ w wr)
  case atStart=>exact J4
  obtain ⟨k,hk,hq,rfl,hv,hb⟩:=hrel;obtain ⟨HQ,HB,Dw⟩:=Az hq hb hv;clear hq hb hv HV;by_cases hlt:k < n
  ·obtain ⟨a,ao,x,A1,n1,c1,rfl,hal,hx,e0,e1,e2,e3,e4,g1⟩:=QK (HL.o.mono Bo HB.o) hlt
   obtain ⟨b,bo,y,B1,m1,d1,rfl,hbl,hy,f0,f1,f2,f3,f4,j1⟩:=QK (HR.o.mono Bo HB.o) hlt;obtain ⟨HX,HY,G1,J1⟩:=CJ hx hy g1 j1;have hkn:(k:Int) < (n:Int):=AG
   have hk0:=Int.natCast_nonneg k
   clear hx hy g1 j1;go_wp2_with (go_at_call 118;refine (cT A1 B1 n1 c1 m1 d1 x y _ (G1.o.1.mono IG ((BP _ _).alloc Ac _)) (J1.o.1.mono IG ((BP _ _).alloc Ac _))).mono ?_);exact YW
  exact ME
 have el:¬l.length=r.length:=AG
 rw [FZ el];go_enter func117,ntmps117;exact J5
theorem n9 {x y:BD} (e0:x.Bl=y.Bl) (e1:x.units=y.units) (e2:x.Ap=y.Ap) (e3:x.rules=y.rules) (e4:x.converts=y.converts) (e5:x.purposes=y.purposes):true=decide (x=y):=by
 exact zh
theorem Uo (A1 B1 A2 B2 A3 B3 A4 B4 A5 B5 A6 B6:Option Aa) (n1 c1 m1 d1 n2 c2 m2 d2 n3 c3 m3 d3 n4 c4 m4 d4 n5 c5 m5 d5 n6 c6 m6 d6:Nat) (x y:BD) (w:AH) (h1:Ag 1 DV w (AA A1 n1 c1) x.Bl) (k1:Ag 1 DV w (AA B1 m1 d1) y.Bl) (h2:Ag 5 CK w (AA A2 n2 c2) x.units) (k2:Ag 5 CK w (AA B2 m2 d2) y.units) (h3:Ag 6 BR w (AA A3 n3 c3) x.Ap) (k3:Ag 6 BR w (AA B3 m3 d3) y.Ap) (h4:Ag 5 CM w (AA A4 n4 c4) x.rules) (k4:Ag 5 CM w (AA B4 m4 d4) y.rules) (h5:Ag 5 By w (AA A5 n5 c5) x.converts) (k5:Ag 5 By w (AA B5 m5 d5) y.converts) (h6:Ag 3 BT w (AA A6 n6 c6) x.purposes) (k6:Ag 3 BT w (AA B6 m6 d6) y.purposes):
 AS prog 71 #[AO #[AA A1 n1 c1,AA A2 n2 c2,AA A3 n3 c3,AA A4 n4 c4,AA A5 n5 c5,AA A6 n6 c6],AO #[AA B1 m1 d1,AA B2 m2 d2,AA B3 m3 d3,AA B4 m4 d4,AA B5 m5 d5,AA B6 m6 d6]] w fun e w'=>e=AV (AX (decide (x=y)))/\AJ w w':=by
 obtain ⟨H1,K1,H2,K2,H3,K3,H4,K4,H5,K5,H6,K6⟩:=RG h1 k1 h2 k2 h3 k3 h4 k4 h5 k5 h6 k6;clear h1 k1 h2 k2 h3 k3 h4 k4 h5 k5 h6 k6;go_enter func71,ntmps71;go_upto_region 1 with fail;obtain ⟨wb,hwb⟩:=Ab ((w.alloc (AQ #[AA A1 n1 c1,AA A2 n2 c2,AA A3 n3 c3,AA A4 n4 c4,AA A5 n5 c5,AA A6 n6 c6] 29)).alloc (AQ #[AA B1 m1 d1,AA B2 m2 d2,AA B3 m3 d3,AA B4 m4 d4,AA B5 m5 d5,AA B6 m6 d6] 29));rw [<-hwb];have hbb:AJ w wb:=by rw [hwb];exact Sx
 have kA:AZ wb w.heap.size 29 #[AA A1 n1 c1,AA A2 n2 c2,AA A3 n3 c3,AA A4 n4 c4,AA A5 n5 c5,AA A6 n6 c6]:=by rw [hwb];exact (AZ.new _ _ _).alloc _
 have kB:AZ wb (w.heap.size+1) 29 #[AA B1 m1 d1,AA B2 m2 d2,AA B3 m3 d3,AA B4 m4 d4,AA B5 m5 d5,AA B6 m6 d6]:=by rw [hwb];exact EJ Ac
 obtain ⟨ga,hga⟩:=Ab w.heap.size;obtain ⟨gb,hgb⟩:=Ab (w.heap.size+1);rw [<-hgb] at kB ⊢;rw [<-hga] at kA ⊢;have G9:ga=w.heap.size:=hga;clear hwb hga hgb;have la:=kA.lt;have lb:=kB.lt;have a0:=kA.cell 0;have b0:=kB.cell 0;have a1:=kA.cell 1;have b1:=kB.cell 1;have a2:=kA.cell 2;have b2:=kB.cell 2;have a3:=kA.cell 3;have b3:=kB.cell 3;have a4:=kA.cell 4;have b4:=kB.cell 4;have a5:=kA.cell 5;have b5:=kB.cell 5;simp only [Ai,An,Aw] at a0 b0 a1 b1 a2 b2 a3 b3 a4 b4 a5 b5;obtain ⟨HA,HB,BV⟩:=Az kA kB hbb;have C5:AI (AJ wb wb):=AF (Af _ _);clear kA kB hbb G9;obtain ⟨v0,e0⟩:=BH (BW x.Bl y.Bl);have HC:AI (AS prog 111 #[AA A1 n1 c1,AA B1 m1 d1] wb fun e w'=>e=AV (AX v0)/\AJ wb w'):=AF (by have hq:=AW BV.o C5.o;rw [<-e0];exact Me A1 B1 n1 c1 m1 d1 x.Bl y.Bl wb (H1.o.mono Ba hq) (K1.o.mono Ba hq))
 have E0:=AF e0;clear e0;go_wp2_with (go_at_call 111;refine HC.o.mono ?_;clear HC);rintro e w1 ⟨rfl,hb1⟩;have CG:=AF (AW C5.o hb1);clear hb1;cases v0
 case false=>go_wp2;go_ret;exact zK
 clear a0 b0 a1 b1 a2 b2 a3 b3 a4 b4 a5 b5;have a0:=(HA.o.below CG.o la).cell 0;have b0:=(HB.o.below CG.o lb).cell 0;have a1:=(HA.o.below CG.o la).cell 1;have b1:=(HB.o.below CG.o lb).cell 1;have a2:=(HA.o.below CG.o la).cell 2;have b2:=(HB.o.below CG.o lb).cell 2;have a3:=(HA.o.below CG.o la).cell 3;have b3:=(HB.o.below CG.o lb).cell 3;have a4:=(HA.o.below CG.o la).cell 4;have b4:=(HB.o.below CG.o lb).cell 4;have a5:=(HA.o.below CG.o la).cell 5;have b5:=(HB.o.below CG.o lb).cell 5;simp only [Ai,An,Aw] at a0 b0 a1 b1 a2 b2 a3 b3 a4 b4 a5 b5;obtain ⟨v1,e1⟩:=BH (BW x.units y.units);have HC:AI (AS prog 112 #[AA A2 n2 c2,AA B2 m2 d2] w1 fun e w'=>e=AV (AX v1)/\AJ w1 w'):=AF (by have hq:=AW BV.o CG.o;rw [<-e1];exact lF A2 B2 n2 c2 m2 d2 x.units y.units w1 (H2.o.mono Bn hq) (K2.o.mono Bn hq))
 have E1:=AF e1;clear e1;go_wp2_with (go_at_call 112;refine HC.o.mono ?_;clear HC);rintro e w2 ⟨rfl,hb2⟩;have DX:=AF (AW CG.o hb2);clear hb2;cases v1
 case false=>go_wp2;go_ret;exact ⟨A8 (BO (fun h=>JP E1.o Fq)).symm,AW BV.o DX.o⟩
 clear a0 b0 a1 b1 a2 b2 a3 b3 a4 b4 a5 b5;have a0:=(HA.o.below DX.o la).cell 0;have b0:=(HB.o.below DX.o lb).cell 0;have a1:=(HA.o.below DX.o la).cell 1;have b1:=(HB.o.below DX.o lb).cell 1;have a2:=(HA.o.below DX.o la).cell 2;have b2:=(HB.o.below DX.o lb).cell 2;have a3:=(HA.o.below DX.o la).cell 3;have b3:=(HB.o.below DX.o lb).cell 3;have a4:=(HA.o.below DX.o la).cell 4;have b4:=(HB.o.below DX.o lb).cell 4;have a5:=(HA.o.below DX.o la).cell 5;have b5:=(HB.o.below DX.o lb).cell 5;simp only [Ai,An,Aw] at a0 b0 a1 b1 a2 b2 a3 b3 a4 b4 a5 b5;obtain ⟨v2,e2⟩:=BH (BW x.Ap y.Ap);have HC:AI (AS prog 113 #[AA A3 n3 c3,AA B3 m3 d3,.func (.func 114) #[] #[]] w2 fun e w'=>e=AV (AX v2)/\AJ w2 w'):=AF (by have hq:=AW BV.o DX.o;rw [<-e2];exact lK A3 B3 n3 c3 m3 d3 x.Ap y.Ap w2 (H3.o.mono BM hq) (K3.o.mono BM hq))
 have E2:=AF e2;clear e2;go_wp2_with (go_at_call 113;refine HC.o.mono ?_;clear HC);rintro e w3 ⟨rfl,hb3⟩;have MC:=AF (AW DX.o hb3);clear hb3;cases v2
 case false=>go_wp2;go_ret;exact ⟨A8 (BO (fun h=>JP E2.o Fq)).symm,AW BV.o MC.o⟩
 clear a0 b0 a1 b1 a2 b2 a3 b3 a4 b4 a5 b5;have a0:=(HA.o.below MC.o la).cell 0;have b0:=(HB.o.below MC.o lb).cell 0;have a1:=(HA.o.below MC.o la).cell 1;have b1:=(HB.o.below MC.o lb).cell 1;have a2:=(HA.o.below MC.o la).cell 2;have b2:=(HB.o.below MC.o lb).cell 2;have a3:=(HA.o.below MC.o la).cell 3;have b3:=(HB.o.below MC.o lb).cell 3;have a4:=(HA.o.below MC.o la).cell 4;have b4:=(HB.o.below MC.o lb).cell 4;have a5:=(HA.o.below MC.o la).cell 5;have b5:=(HB.o.below MC.o lb).cell 5;simp only [Ai,An,Aw] at a0 b0 a1 b1 a2 b2 a3 b3 a4 b4 a5 b5;obtain ⟨v3,e3⟩:=BH (BW x.rules y.rules);have HC:AI (AS prog 115 #[AA A4 n4 c4,AA B4 m4 d4,.func (.func 116) #[] #[]] w3 fun e w'=>e=AV (AX v3)/\AJ w3 w'):=AF (by have hq:=AW BV.o MC.o;rw [<-e3];exact rz A4 B4 n4 c4 m4 d4 x.rules y.rules w3 (H4.o.mono Bh hq) (K4.o.mono Bh hq))
 have E3:=AF e3;clear e3;go_wp2_with (go_at_call 115;refine HC.o.mono ?_;clear HC);rintro e w4 ⟨rfl,hb4⟩;have N6:=AF (AW MC.o hb4);clear hb4;cases v3
 case false=>go_wp2;go_ret;exact ⟨A8 (BO (fun h=>JP E3.o Fq)).symm,AW BV.o N6.o⟩
 clear a0 b0 a1 b1 a2 b2 a3 b3 a4 b4 a5 b5;have a0:=(HA.o.below N6.o la).cell 0;have b0:=(HB.o.below N6.o lb).cell 0;have a1:=(HA.o.below N6.o la).cell 1;have b1:=(HB.o.below N6.o lb).cell 1;have a2:=(HA.o.below N6.o la).cell 2;have b2:=(HB.o.below N6.o lb).cell 2;have a3:=(HA.o.below N6.o la).cell 3;have b3:=(HB.o.below N6.o lb).cell 3;have a4:=(HA.o.below N6.o la).cell 4;have b4:=(HB.o.below N6.o lb).cell 4;have a5:=(HA.o.below N6.o la).cell 5;have b5:=(HB.o.below N6.o lb).cell 5;simp only [Ai,An,Aw] at a0 b0 a1 b1 a2 b2 a3 b3 a4 b4 a5 b5;obtain ⟨v4,e4⟩:=BH (BW x.converts y.converts);have HC:AI (AS prog 117 #[AA A5 n5 c5,AA B5 m5 d5,.func (.func 118) #[] #[]] w4 fun e w'=>e=AV (AX v4)/\AJ w4 w'):=AF (by have hq:=AW BV.o N6.o;rw [<-e4];exact gp A5 B5 n5 c5 m5 d5 x.converts y.converts w4 (H5.o.mono Bo hq) (K5.o.mono Bo hq))
 have E4:=AF e4;clear e4;go_wp2_with (go_at_call 117;refine HC.o.mono ?_;clear HC);rintro e w5 ⟨rfl,hb5⟩;have N5:=AF (AW N6.o hb5);clear hb5;cases v4
 case false=>go_wp2;go_ret;exact ⟨A8 (BO (fun h=>JP E4.o Fq)).symm,AW BV.o N5.o⟩
 clear a0 b0 a1 b1 a2 b2 a3 b3 a4 b4 a5 b5;have a0:=(HA.o.below N5.o la).cell 0;have b0:=(HB.o.below N5.o lb).cell 0;have a1:=(HA.o.below N5.o la).cell 1;have b1:=(HB.o.below N5.o lb).cell 1;have a2:=(HA.o.below N5.o la).cell 2;have b2:=(HB.o.below N5.o lb).cell 2;have a3:=(HA.o.below N5.o la).cell 3;have b3:=(HB.o.below N5.o lb).cell 3;have a4:=(HA.o.below N5.o la).cell 4;have b4:=(HB.o.below N5.o lb).cell 4;have a5:=(HA.o.below N5.o la).cell 5;have b5:=(HB.o.below N5.o lb).cell 5;simp only [Ai,An,Aw] at a0 b0 a1 b1 a2 b2 a3 b3 a4 b4 a5 b5;obtain ⟨v5,e5⟩:=BH (BW x.purposes y.purposes);have HC:AI (AS prog 119 #[AA A6 n6 c6,AA B6 m6 d6,.func (.func 120) #[] #[]] w5 fun e w'=>e=AV (AX v5)/\AJ w5 w'):=AF (by have hq:=AW BV.o N5.o;rw [<-e5];exact gj A6 B6 n6 c6 m6 d6 x.purposes y.purposes w5 (H6.o.mono BN hq) (K6.o.mono BN hq))
 have E5:=AF e5;clear e5;go_wp2_with (go_at_call 119;refine HC.o.mono ?_;clear HC);rintro e w6 ⟨rfl,hb6⟩;have AIw:=AF (AW N5.o hb6);clear hb6;cases v5
 case false=>go_wp2;go_ret;exact ⟨A8 (BO (fun h=>JP E5.o Fq)).symm,AW BV.o AIw.o⟩
 go_wp2;go_ret;exact ⟨A8 (n9 (Gx E0.o) (Gx E1.o) (Gx E2.o) (Gx E3.o) (Gx E4.o) (Gx E5.o)),AW BV.o AIw.o⟩
def fieldStep (s:BD) (f:GZ):Option GZ:=
 if f.type.kind=1/\f.type.Av≠Oo then (idx (G6 s) f.type.Av).map (fun n=>{f with type:={f.type with unit:=(n:Int)}})
 else some {f with type:={f.type with unit:= -1}}
def Vk (l:List ByteArray) (x:ByteArray):Option Int:=(idx l x).map (fun n:Nat=>(n:Int))
def Rn (x:BI) (d:Mn):Option Mn:=
 match Fv (fun _=>Vk (fieldNames x)) d.names,Vk (fieldNames x) d.name with
 | some l,some n=>some {d with src:=l,dst:=n}
 | _,_=>none
def Fp (s:BD) (x:BI):Option BI:=
 match idx s.Bl x.Hh with
 | none=>none
 |
  some a=>match Fv (fun _=>fieldStep s) x.fields with
  | none=>none
  |
   some fs=>match Fv (fun _=>Rn x) x.deps with
   | none=>none
   | some ds=>some {x with Au:=(a:Int),fields:=fs,deps:=ds}
theorem jU {w:AH} {cs:List AK} {l:List GZ} {k:Nat} {u:GZ} (h:Ao 11 EW w cs l) (hk:l[k]? =some u) (a:Int):Ao 11 EW w (cs.set (k*11+5) (AB AE a)) (l.set k {u with type:={u.type with unit:=a}}):=
 h.put AG (BA.1 hk).1 (by obtain ⟨A1,n1,c1,he,hs⟩:=h.chunk hk;rw [show chunk cs 11 k=_ from he];exact ⟨A1,n1,c1,rfl,hs⟩)
theorem AEb {w:AH} {cs:List AK} {l:List Mn} {k:Nat} {u:Mn} (h:Ao 4 Hb w cs l) (hk:l[k]? =some u) {v:AK} {s:AP} {A:Option Aa} {n c:Nat} (hv:v=AA A n c) (hs:BQ 1 8 iR w v s):Ao 4 Hb w (cs.set (k*4+2) v) (l.set k {u with src:=s}):=
 h.put AG (BA.1 hk).1 (by obtain ⟨A1,n1,c1,A2,n2,c2,he,h1,h2⟩:=h.chunk hk;subst hv;rw [show chunk cs 4 k=_ from he];exact ⟨A1,n1,c1,_,_,_,rfl,h1,hs⟩)
theorem AEa {w:AH} {cs:List AK} {l:List Mn} {k:Nat} {u:Mn} (h:Ao 4 Hb w cs l) (hk:l[k]? =some u) (a:Int):Ao 4 Hb w (cs.set (k*4+3) (AB AE a)) (l.set k {u with dst:=a}):=
 h.put AG (BA.1 hk).1 (by obtain ⟨A1,n1,c1,A2,n2,c2,he,h1,h2⟩:=h.chunk hk;rw [show chunk cs 4 k=_ from he];exact ⟨A1,n1,c1,A2,n2,c2,rfl,h1,h2⟩)
def Lf (v:AK) (w:AH):AH:=match v.ownBlock with
 | some H=>mask H (H+1) w
 | none=>w
theorem ZY {v:AK} {w w':AH} (hg:w.grownBy w' v.ownBlock):Below (Lf v w).heap.size (Lf v w) (Lf v w'):=by
 unfold Lf;cases hv:v.ownBlock with
 | none=>rw [hv] at hg;exact ⟨hg.os,hg.tape,hg.output,hg.size,fun k hk=>hg.block k hk Ac⟩
 | some H=>rw [hv] at hg;exact Cv hg (Ad _) (Ie _)
theorem ABt {v:AK} {w0 w:AH} (h:AJ w0 w) (hv:∀H,v.ownBlock=some H->w0.heap.size<=H):AJ w0 (Lf v w):=by
 unfold Lf;cases hb:v.ownBlock with
 | none=>exact h
 | some H=>exact Ve w0 h (hv H hb)
theorem ABs {u v:AK} {w:AH} {base:Nat} {e:Ae} {sz n:Nat} {cs:List AK} (h:w.ownsRow base e sz v n cs) (hb:∀H,u.ownBlock=some H->H < base):(Lf u w).ownsRow base e sz v n cs:=by
 unfold Lf;cases hu:u.ownBlock with
 | none=>exact h
 | some H=>exact Lb h (hb H hu)
theorem ABr {α:Type} {sz:Nat} {R:AH->List AK->α->Prop} (hR:Nk R) {v:AK} {w:AH} {cs:List AK} {l:List α} (h:Ao sz R (Lf v w) cs l):Ao sz R w cs l:=by
 unfold Lf at h;cases hu:v.ownBlock with
 | none=>rw [hu] at h;exact h
 | some H=>rw [hu] at h;exact h.Hz hR
theorem ADr {α:Type} {sz:Nat} {R:AH->List AK->α->Prop} (hR:Nk R) {v u:AK} {w:AH} {l:List α} (h:Ag sz R (Lf v w) u l):Ag sz R w u l:=by
 unfold Lf at h;cases hu:v.ownBlock with
 | none=>rw [hu] at h;exact h
 | some H=>rw [hu] at h;exact h.Hz hR
theorem ABK {w:AH} {base:Nat} {e:Ae} {sz:Nat} {v:AK} {n:Nat} {cs:List AK} (h:w.ownsRow base e sz v n cs) {H:Nat} (hH:H < base):v.ownBlock≠some H:=fun e=>by have:=h.lt _ e;omega
theorem OU {a b c:AH} {G H:Nat} (h:a.grownBy b (some G)) (h':b.grownBy c (some H)) (hH:a.heap.size<=H):a.grownBy c (some G):=
 ⟨h'.os.trans h.os,h'.tape.trans h.tape,h'.output.trans h.output,BF h.size h'.size,fun k hk hne=>(h'.block k (Ay hk h.size) (fun e=>by injection e;omega)).trans (h.block k hk hne)⟩
theorem xX {w wa w':AH} {G:Nat} (h:w.grownBy wa (some G)) (h':w.grownBy w' (some G)) (hs:wa.heap.size=w.heap.size):wa.grownBy w' (some G):=
 ⟨h'.os.trans h.os.symm,h'.tape.trans h.tape.symm,h'.output.trans h.output.symm,by rw [hs];exact h'.size,fun k hk hne=>(h'.block k AG hne).trans (h.block k AG hne).symm⟩
theorem ABw {a b c:AH} {H:Nat} {row:Option Nat} (h:a.grownBy b (some H)) (h':b.grownBy c row) (hr:∀r,row=some r->a.heap.size<=r):a.grownBy c (some H):=
 ⟨h'.os.trans h.os,h'.tape.trans h.tape,h'.output.trans h.output,BF h.size h'.size,fun k hk hne=>(h'.block k (Ay hk h.size) (fun e=>by have:=hr _ e.symm;omega)).trans (h.block k hk hne)⟩
theorem pR {a b:AH} {row:Option Nat} (h:a.grownBy b row) (o:Obj):a.grownBy (b.alloc o) row:=Ei h (Ej (BP _ _) _)
theorem AGC {w:AH} {base:Nat} {e:Ae} {sz:Nat} {v:AK} {n:Nat} {cs:List AK} (h:w.ownsRow base e sz v n cs) {p:Aa} (hp:v.ownBlock≠some p.block) (u:AK):(w.setCell p u).ownsRow base e sz v n cs:=Pm h hp u
theorem AH9 (w:AH) (l:AP):Ao 1 iR w (l.map Gg) l:=by
 refine ⟨by simp,fun i x hi=> ?_⟩;show _=_;rw [F9,List.map_drop.symm,List.map_take.symm];have:(l.drop i).take 1=[x]:=by rw [drop_cons hi];rfl
 rw [this];rfl
theorem GK {w:AH} {base:Nat} {e:Ae} {sz:Nat} {v:AK} {n:Nat} {cs:List AK} (h:w.ownsRow base e sz v n cs):∃A m c,v=AA A m c/\m=n:=by
 rcases JR h with ⟨rfl,h0⟩ | ⟨g,cap,rfl,_⟩
 · exact ⟨_,_,_,rfl,h0.symm⟩
 · exact ⟨_,_,_,rfl,rfl⟩
section
variable {P:BB} {ops:Array Oper} {md:Region.Mode} {w:AH} {Q:Exit->Act->AH->Prop}
def Sw (P:BB) (ops:Array Oper) (w:AH) (Q:Exit->Act->AH->Prop) (n:Nat) (a:Act):Prop:=
 ∃o f args chain,ops[n]? =some o/\Region.wanted o (yielded ops a.tmps)=true/\(execOp a.eval o).run P w=.ok (.enter f args) w/\AS P f args w (fun e w''=>e=B8 chain/\w''=w)/\Q (.panic chain) a w
def XC (P:BB) (md:Region.Mode) (ops:Array Oper) (w:AH) (Q:Exit->Act->AH->Prop) (n:Nat):Nat->Array Bool->Act->Prop
 | 0,listed,a=>Region.ready md ops listed≠[]/\∀i∈Region.ready md ops listed,i=n/\Sw P ops w Q n a
 | f+1,listed,a=>Region.ready md ops listed≠[]/\∀i∈Region.ready md ops listed,(i=n/\Sw P ops w Q n a)\/(i≠n/\stOp P ops w i (XC P md ops w Q n f (listed.setIfInBounds i true)) a)
theorem ib {n:Nat} {a:Act} {K:Act->AH->Prop} (h:Sw P ops w Q n a):wpOp P ops Q n K a w:=by obtain ⟨o,f,args,chain,ho,hw,hr,hc,hq⟩:=h;unfold wpOp;simp only [ho,hw,Ct];refine .inl ?_;unfold Oper.wp;rw [hr];exact hc.mono fun e w'' ⟨he,hw⟩=>by subst he;subst hw;exact hq
theorem WA {n g:Nat}:∀(f:Nat) (listed:Array Bool) (a:Act),XC P md ops w Q n f listed a->wpAny P md ops Q (f+1+g) listed a w
 |
  0,listed,a,h=>by
  rw [show 0+1+g=g+1 by omega];refine ⟨fun h0=>absurd h0 h.1,fun i hi=> ?_⟩;obtain ⟨rfl,hd⟩:=h.2 i hi;exact ib hd
 |
  f+1,listed,a,h=>by
  rw [show f+1+1+g=(f+1+g)+1 by omega];refine ⟨fun h0=>absurd h0 h.1,fun i hi=> ?_⟩;rcases h.2 i hi with ⟨rfl,hd⟩ | ⟨_,hs⟩
  · exact ib hd
  · exact wpOp_of_stOp (fun a' h'=>WA f _ a' h') hs
theorem nH {n i:Nat} {oi:Oper} {v:AK} (hi:ops[i]? =some oi) (hin:i≠n) (hsel:∀(j:Nat) (o:Oper) cs b,ops[j]? =some o->o.op≠.select cs b)
 (hQ:∀(d:Option Tmp) (u:AK) (c:List PanicEntry) (a:Act),Q (.panic c) (a.put d u) w->Q (.panic c) a w):
 ∀(f:Nat) (listed:Array Bool) (a:Act),
  (∀j oj,ops[j]? =some oj->j≠i->listed.getD j true=false->(∀e∈oj.after,Region.binds md e=true->e.on≠i)->oi.apart ops oj=true)->
  i∈Region.ready md ops listed->YieldsAt P ops w oi v a->
  XC P md ops w Q n f (listed.setIfInBounds i true) (a.put oi.dst v)->XC P md ops w Q n (f+1) listed a:=by
 intro f
 induction f with
 |
  zero=>
  intro listed a hfree hr hy H;have hun:=(JG.1 hr).1;refine ⟨fun h=>QR,fun j hj=> ?_⟩;by_cases hji:j=i
  · subst hji;exact .inr ⟨hin,hy.stOp hi H⟩
  ·obtain ⟨hjun,oj,hoj,hall⟩:=JG.1 hj
   have hnot:∀e∈oj.after,Region.binds md e=true->e.on≠i:=fun e he hb heq=>by have h1:=hall e he hb;rw [heq,getD_both hun] at h1;cases h1
   obtain ⟨h1,h2,h3⟩:=Oper.apart_spec (hfree j oj hoj hji hjun hnot);obtain ⟨rfl,o,fn,args,chain,ho,hw,Q0,hc,hq⟩:=H.2 j (Jo hj hji);have e:o=oj:=FO (ho.symm.trans hoj);subst e;refine .inl ⟨rfl,o,fn,args,chain,ho,?_,?_,hc,hQ _ _ _ _ hq⟩
   · rw [<-wanted_put o a oi.dst v h1];exact hw
   · rw [<-execOp_put o (fun cs b=>hsel j o cs b ho) a oi.dst v h1];exact Q0
 |
  succ f ih=>
  intro listed a hfree hr hy H;have hun:=(JG.1 hr).1;refine ⟨fun h=>QR,fun j hj=> ?_⟩;by_cases hji:j=i
  · subst hji;exact .inr ⟨hin,hy.stOp hi H⟩
  obtain ⟨hjun,oj,hoj,hall⟩:=JG.1 hj;have hnot:∀e∈oj.after,Region.binds md e=true->e.on≠i:=fun e he hb heq=>by have h1:=hall e he hb;rw [heq,getD_both hun] at h1;cases h1
  have hap:=hfree j oj hoj hji hjun hnot;obtain ⟨h1,h2,h3⟩:=Oper.apart_spec hap;rcases H.2 j (Jo hj hji) with ⟨rfl,o,fn,args,chain,ho,hw,Q0,hc,hq⟩ | ⟨hjn,hst⟩
  ·have e:o=oj:=FO (ho.symm.trans hoj)
   subst e;refine .inl ⟨rfl,o,fn,args,chain,ho,?_,?_,hc,hQ _ _ _ _ hq⟩
   · rw [<-wanted_put o a oi.dst v h1];exact hw
   · rw [<-execOp_put o (fun cs b=>hsel j o cs b ho) a oi.dst v h1];exact Q0
  refine .inr ⟨hjn,?_⟩;have hs2:=stOp_put hoj hap (fun cs b=>hsel i oi cs b hi) (fun cs b=>hsel j oj cs b hoj) hy hst;have hfree':∀k ok,ops[k]? =some ok->k≠i->(listed.setIfInBounds j true).getD k true=false->
   (∀e∈ok.after,Region.binds md e=true->e.on≠i)->oi.apart ops ok=true:=fun k ok hk hki hun hno=>by
   exact mP
  refine stOp_mono (fun a' h3=>ih (listed.setIfInBounds j true) a' hfree' (Jo hr (Ne.symm hji)) h3.1 ?_) hs2;rw [Yq _ _ hji];exact h3.2
def dZ (md:Region.Mode) (ops:Array Oper) (n:Nat):List Nat->Array Bool->Bool
 | [],listed=>decide (Region.ready md ops listed=[n])
 | k::ks,listed=>(Region.ready md ops listed).contains k && Region.free md ops listed k && decide (k≠n) && dZ md ops n ks (listed.setIfInBounds k true)
theorem cD {n:Nat} (hsel:Region.noSelect ops=true) (hQ:∀(d:Option Tmp) (u:AK) (c:List PanicEntry) (a:Act),Q (.panic c) (a.put d u) w->Q (.panic c) a w):
 ∀(l:List Oper) (ks:List Nat) (listed:Array Bool) (a:Act),ks.map (fun k=>ops[k]?)=l.map some->
 dZ md ops n ks listed=true->wpStill P ops w (Sw P ops w Q n) l a->XC P md ops w Q n l.length listed a
 |
  [],[],listed,a,_,hB,h=>by
  have hB':Region.ready md ops listed=[n]:=by simpa [dZ] using hB
  have h':Sw P ops w Q n a:=h;refine ⟨by rw [hB'];simp,fun i hi=> ?_⟩;rw [hB',Fk] at hi;exact ⟨hi,h'⟩
 | [],_::_,_,_,hm,_,_=>by simp at hm
 | _::_,[],_,_,hm,_,_=>by simp at hm
 |
  o::l,k::ks,listed,a,hm,hB,h=>by
  simp only [Fi,RT] at hm;simp only [dZ,BZ,Bw] at hB;obtain ⟨⟨⟨hr,hf⟩,hkn⟩,hB'⟩:=hB;have hr':k∈Region.ready md ops listed:=by simpa using hr
  have hst:stOp P ops w k (wpStill P ops w (Sw P ops w Q n) l) a:=by unfold stOp;simp only [hm.1];exact h
  obtain ⟨v,hy,hK⟩:=yieldsAt_of_stOp hm.1 hst;exact nH hm.1 hkn (Ym hsel) hQ l.length listed a (Yd hm.1 hf) hr' hy (cD hsel hQ l ks _ _ hm.2 hB' hK)
theorem Dj {id:Nat} {a:Act} {w:AH} {l:List Oper} (n:Nat) (ks:List Nat) (pick:List Oper->List Oper) (hm:P.follows .mixedOrders=true) (hk:ks.map (fun k=>l.toArray[k]?)=(pick l).map some)
 (hB:(decide (ks.length < l.length) && Region.noSelect l.toArray && dZ .any l.toArray n ks (Array.replicate l.toArray.size false))=true)
 (hQ:∀(d:Option Tmp) (u:AK) (c:List PanicEntry) (a:Act),Q (.panic c) (a.put d u) w.drew->Q (.panic c) a w.drew)
 (h:wpStill P l.toArray w.drew (Sw P l.toArray w.drew Q n) (pick l) a):(Code.region id l.toArray true).wp P Q a w:=by
 simp only [BZ,Bw] at hB;obtain ⟨⟨hn,hsel⟩,hB⟩:=hB;have hl:(pick l).length=ks.length:=by have:=congrArg List.length hk;simpa using this.symm
 have H:=cD (md:=.any) hsel hQ (pick l) ks _ a hk hB h;refine wp_region_any hm ?_;have:=WA (Q:=Q) (g:=l.toArray.size - ks.length - 1) _ _ _ H;rw [hl,show ks.length+1+(l.toArray.size - ks.length - 1)=l.toArray.size by simp;omega] at this;exact this
end
theorem XJ {P:BB} (w:AH) {ops:Array Oper} {o:Oper} {a:Act} {K:Act->AH->Prop} {Q:Exit->Act->AH->Prop} {E:Prop} (hgd:o.guard=none) (s x:Operand) (t:Ae)
 (ho:o.op=.call {callee:=.builtin .append,args:=#[s,x],argTypes:=#[t,t]})
 (base:Nat) (e:Ae) (i:TypeInfo) (z:AK) (size bytes:Nat) (ht:P.underlying t=some (.slice e)) (hi:P.info? e=some i) (hz:i.zero=some z)
 (hsize:i.size=size) (hby:i.bytes=bytes) (hzs:z.cells.size=size) (hsz:0 < size)
 (v:AK) (n:Nat) (xs:List AK) (hs:a.eval s=v) (hown:w.ownsRow base e size v n xs)
 (ad:Aa) (m c:Nat) (news:List AK) (hx:a.eval x=AA (some ad) m c) (hl:news.length=m*size) (hnews:∀j u,news[j]? =some u->w.cell? (ad.add j)=some u) (h1:∀u∈news,u.oneCell'=true)
 (h63:n+m<=maxLen) (hbytes:(n+m)*bytes<=140737488355328) (hbase:base<=w.heap.size)
 (h:∀v' w',w'.ownsRow base e size v' (n+m) (xs++news)->w.grownBy w' v.ownBlock->(v'.ownBlock=v.ownBlock\/v'.ownBlock=some w.heap.size)->K (a.put o.dst v') w'):
 if Region.wanted o (yielded ops a.tmps)=true then Oper.wp P o a w K Q else E:=by
 have hw:Region.wanted o (yielded ops a.tmps)=true:=by simp [Region.wanted,hgd]
 rw [Am hw];obtain ⟨v',w',hr,h2,h3,_,h5⟩:=run_append_own_at (P:=P) w base t o.type e i z size bytes ht hi hz hsize hby hzs hsz v n xs hown ad m c news hl hnews h1 h63 hbytes hbase;unfold Oper.wp execOp;simp only [ho,resolve,invoke,builtin,Cs,DL,Result.andThen_ok,Yc,Fi,OD,hs,hx,hr];exact h v' w' h2 h3 h5
theorem cQ {P:BB} {w:AH} {ops:Array Oper} {o:Oper} {a:Act} {K:Act->AH->Prop} {Q:Exit->Act->AH->Prop} {E:Prop} (hgd:o.guard=none) (f:FuncId) (args:Array AK) {v:AK}
 (hex:(execOp a.eval o).run P w=.ok (.enter f args) w) (hc:AS P f args w (fun e w'=>e=AV v/\w'=w)) (hK:K (a.put o.dst v) w):
 if Region.wanted o (yielded ops a.tmps)=true then Oper.wp P o a w K Q else E:=by
 have hw:Region.wanted o (yielded ops a.tmps)=true:=by simp [Region.wanted,hgd]
 rw [Am hw];unfold Oper.wp;rw [hex];exact hc.mono fun e w' ⟨he,hw⟩=>by subst he;subst hw;exact hK
theorem Qu {P:BB} {w:AH} {ops:Array Oper} {o:Oper} {a:Act} {K:Act->AH->Prop} {Q:Exit->Act->AH->Prop} {E:Prop} (hgd:o.guard=none) (f:FuncId) (args:Array AK) {R:Ending->AH->Prop}
 (hex:(execOp a.eval o).run P w=.ok (.enter f args) w) (hc:AS P f args w R) (hK:∀e w',R e w'->∃v,e=AV v/\K (a.put o.dst v) w'):
 if Region.wanted o (yielded ops a.tmps)=true then Oper.wp P o a w K Q else E:=by
 have hw:Region.wanted o (yielded ops a.tmps)=true:=by simp [Region.wanted,hgd]
 rw [Am hw];unfold Oper.wp;rw [hex];exact hc.mono fun e w' h=>by obtain ⟨v,rfl,hk⟩:=hK e w' h;exact hk
def AKS {α β γ:Type} (F:α->β->γ->Act) (G:α->β->γ->AH->Prop):Exit->Act->AH->Prop
 | .normal,a',w'=>∃x y z,a'=F x y z/\G x y z w'
 | _,_,_=>False
theorem fW {P:BB} {c:Code} {Q:Exit->Act->AH->Prop} {a:Act} {w:AH} {α β γ:Type} (F:α->β->γ->Act) (G:α->β->γ->AH->Prop) (h1:c.wp P (AKS F G) a w) (h2:∀x y z w',G x y z w'->Q .normal (F x y z) w'):c.wp P Q a w:=
 Code.wp_mono (fun e a' w' h=>by
  cases e with
  | normal=>obtain ⟨x,y,z,rfl,hg⟩:=h;exact h2 x y z w' hg
  | _=>exact h.elim) h1
theorem AGU:(prog.info? 3).map (fun i=>(i.zero,i.size,i.bytes))=some (some (AB AE 0),1,8):=by kernel_rfl
theorem aF (R lo M base G n cap i mb:Nat) (cs:List AK) (s:BD) (p:BI) (w:AH) (hres:Jk (mask lo M w) R s) (hlo:lo<=G) (Gp:G < M) (ug:M<=w.heap.size)
 (hmb:MapAt Hu Gg (mask lo M w) mb (fieldMap p))
 (ho:w.ownsRow base 79 6 (AA (some ⟨G,0,none⟩) n cap) n cs) (hi:i < n) (hp:BR (mask lo M w) (chunk cs 6 i) p):
 AS prog 151 #[AU (some ⟨R,0,none⟩),AU (some ⟨G,i*6,none⟩),.map (some mb)] w (EK 79 6 BR base G n cap i cs lo M (Fp s p) w):=by
 obtain ⟨A1,n1,c1,A2,n2,c2,hch,hfl,hdp⟩:=hp;have p1:=BG ho hi AG hch (j:=1) rfl;have p2:=BG ho hi AG hch (j:=2) rfl;have p4:=BG ho hi AG hch (j:=4) rfl;have f2:=ho.frozenAt (i*6+2);have Uy:G < w.heap.size:=AG
 obtain ⟨b1,b2,b3,fA,fn,fc,hbR,hm1,hm2,EI,hfs⟩:=hres.Hz;have r0:=hbR.cell 0;have lR:=hbR.lt;simp only [Ai,An] at r0;have hget:=Hy s.Bl p.Hh;obtain ⟨Gs,HO,Qs,LU,HDP,qy,HBD,HMB,LK⟩:=Po hres ho hch hfl hdp hfl.2 hdp.2 hmb (hm1.same (w':=w.drew) rfl);clear hres ho hch hfl hdp hmb hbR hm1 hm2 EI hfs;go_enter func151,ntmps151;go_wp2_with fail;cases hix:idx s.Bl p.Hh with
 |
  none=>
  rw [hix] at hget;have Cl:AI (EK 79 6 BR base G n cap i cs lo M (Fp s p) w (B8 Bm) w.drew):=
   Dl (by unfold Fp;rw [hix]) (grown_drew (DN _ _))
  have V6:=AF hget;clear hix hget
  go_region_dies
  all_goals
   refine (G5 b1 _ _ _ LK.o V6.o).mono ?_;rintro e w' ⟨rfl,rfl⟩;exact ⟨rfl,Cl.o⟩
 |
  some a=>
  rw [hix] at hget;obtain ⟨IA,HF⟩:=Aj hix ((FY b1 _ _ (a:Int) w.drew LK.o hget).mono (R':=fun e w'=>e=AV (AB AE a)/\w'=w.drew) FT);clear hix hget;refine wp_region_still_tail 12 AL AL ?_;simp only [FQ,Ee,JL,Ho]
  repeat still_step
  still_call HF.o
  repeat still_step
  refine FN ?_;change wpList _ _ _ _ _ w.drew;go_wp2_with fail;have ho2:=(HO.o.stored (i*6+2) (AB AE a)).1.drew;have hga:w.grownBy (w.setCell ⟨G,i*6+2,none⟩ (AB AE a)).drew (some G):=grown_drew (Cw (DN _ _) _ _);have Oy:(w.setCell ⟨G,i*6+2,none⟩ (AB AE a)).drew.heap.size=w.heap.size:=by simp [World.setCell]
  have P5:chunk (cs.set (i*6+2) (AB AE a)) 6 i=[AN p.name,AN p.Hh,AB AE a,AB AE p.version,AA A1 n1 c1,AA A2 n2 c2]:=by rw [El _ AG,Qs.o];rfl
  have hoth:∀j,j≠i->chunk (cs.set (i*6+2) (AB AE a)) 6 j=chunk cs 6 j:=fun j hj=>by rw [FM _ AG hj]
  generalize (w.setCell ⟨G,i*6+2,none⟩ (AB AE a)).drew=wa at ho2 hga Oy ⊢;generalize cs.set (i*6+2) (AB AE a)=ca at ho2 P5 hoth;have hfw:BQ 11 120 (fun _=>EW (mask lo M wa)) wa (AA A1 n1 c1) p.fields:=⟨(LU.o.mono DJ (Cv hga hlo Gp)).1.uB,LU.o.2⟩;have Qh:G < wa.heap.size:=by rw [Oy];exact Uy
  obtain ⟨TX,G9,T9,bB,CV⟩:=EG ho2 hga P5 hoth Oy;clear ho2 hga P5 hoth Oy p1 p2 p4 f2 r0 lR HF LK HO Qs;refine (qA (fun _=>rT _) A1 n1 c1 p.fields _ hfw).mono ?_;rintro e w1 ⟨v,cs1,rfl,hcs1,ho1,hb1⟩;obtain ⟨vA,vn,vc,rfl,hvn⟩:=GK ho1;have p4:=BG TX.o hi AG T9.o (j:=4) rfl;have q1:w1.cell? ⟨G,i*6+4,none⟩=some (AA A1 n1 c1):=((Jg hb1).1 _ _ Qh).trans p4;have hf1:w1.frozen? ⟨G,i*6+4,none⟩=false:=((Jg hb1).2 _ _ Qh).trans (TX.o.frozenAt _);have hG1:G < w1.heap.size:=Ay Qh hb1.size;have Hl:=AF ho1;have Kl:AI (Ao 11 EW (mask lo M wa) cs1 p.fields):=AF ⟨hcs1.1,hcs1.2⟩;obtain ⟨HB1,LN⟩:=Aj hb1 hvn;clear ho1 hcs1 hb1 p4 hfw hvn;go_wp2_with fail;have ho2:(w1.setCell ⟨G,i*6+4,none⟩ (AA vA vn vc)).ownsRow base 79 6 (AA (some ⟨G,0,none⟩) n cap) n (ca.set (i*6+4) (AA vA vn vc)):=((Co TX.o HB1.o).stored (i*6+4) (AA vA vn vc)).1;have hi2:(w1.setCell ⟨G,i*6+4,none⟩ (AA vA vn vc)).ownsRow wa.heap.size 100 11 (AA vA vn vc) p.fields.length cs1:=Gz Hl.o Yx _;have hg2:w.grownBy (w1.setCell ⟨G,i*6+4,none⟩ (AA vA vn vc)) (some G):=Cw (Ei G9.o (Ej HB1.o _)) _ _;have hcb:chunk (ca.set (i*6+4) (AA vA vn vc)) 6 i=[AN p.name,AN p.Hh,AB AE a,AB AE p.version,AA vA vn vc,AA A2 n2 c2]:=by rw [El _ AG,T9.o];rfl
  have aO:∀j,j≠i->chunk (ca.set (i*6+4) (AA vA vn vc)) 6 j=chunk cs 6 j:=fun j hj=>by rw [FM _ AG hj];exact bB.o j hj
  generalize w1.setCell ⟨G,i*6+4,none⟩ (AA vA vn vc)=w2 at ho2 hi2 hg2 ⊢;generalize ca.set (i*6+4) (AA vA vn vc)=cb at ho2 hcb aO;obtain ⟨KU,HI2,HG2,LV,qX⟩:=EG ho2 hi2 hg2 hcb aO;clear ho2 hi2 hg2 hcb aO q1 hf1 hG1 Hl HB1 bB T9 TX;go_loopg [37] vn (fun q j wr=>∃(k:Nat) (out:List GZ) (cr:List AK),k<=vn/\q=vn - k/\j=AB AE k/\EN (fun _=>fieldStep s) p.fields k=some out/\w.grownBy wr (some G)/\wr.ownsRow base 79 6 (AA (some ⟨G,0,none⟩) n cap) n cb/\
   wr.ownsRow wa.heap.size 100 11 (AA vA vn vc) p.fields.length cr/\Ao 11 EW (mask lo M wa) cr (out++p.fields.drop k))
  case atStart=>exact mC
  clear KU HI2 HG2 Kl;obtain ⟨k,out,cr,hk,hq,rfl,hto,hgr,hog,Gh,hcr⟩:=hrel;obtain ⟨HQ,Db⟩:=Aj hq hto;clear hq hto;by_cases hlt:k < vn
  ·rcases JR Gh with ⟨h,h0⟩ | ⟨H,hcap,h,hH,hHw,hn2⟩
   · exact R2
   injection h with h1 h2 h3;subst h1 h3;clear h2;have wX:vn<=9223372036854775807:=by have:=LN.o;omega
   have xS:w.heap.size<=H:=by have:=CV.o;omega
   obtain ⟨m,hm⟩:∃m,p.fields[k]? =some m:=⟨p.fields[k]' JU,BJ _⟩;have hlen:=Cq JU Db.o;have hat:(out++p.fields.drop k)[k]? =some m:=by rw [Cf AG,EC,hlen];simpa using hm
   obtain ⟨B1,m1,d1,hch,hnm⟩:=hcr.chunk hat;have Dy:wr.ownsRow wa.heap.size 100 11 (AA (some ⟨H,0,none⟩) vn vc) vn cr:=by have:=LN.o;rw [this] at Gh ⊢;exact Gh
   have e1:=BG Dy hlt AG hch (j:=1) rfl;have e4:=BG Dy hlt AG hch (j:=4) rfl;have e5:=BG Dy hlt AG hch (j:=5) rfl;have f5:=Dy.frozenAt (k*11+5);have g4:=BG hog hi AG LV.o (j:=4) rfl;obtain ⟨Ga,LP,LO,Te,HM,HLEN,HAT⟩:=LW hgr hog Dy hcr hm hlen hat;clear hgr hog Gh Dy hcr hm hlen hat hch hnm;have hkn:(k:Int) < (vn:Int):=AG
   have hk0:=Int.natCast_nonneg k
   have hput:Ao 11 EW (mask lo M wa) (cr.set (k*11+5) (AB AE (-1))) ((out++p.fields.drop k).set k {m with type:={m.type with unit:= -1}}):=jU Te.o HAT.o (-1);have hoq:=(LO.o.stored (k*11+5) (AB AE (-1))).1;have hgq:w.grownBy (wr.setCell ⟨H,k*11+5,none⟩ (AB AE (-1))) (some G):=Ma Ga.o UZ _;have N0:=own_ne LP.o (p:=⟨H,k*11+5,none⟩) BX (AB AE (-1));obtain ⟨YI,Kk,PN,T7⟩:=CJ hput hoq hgq N0;clear hput hoq hgq N0;by_cases hkd:m.type.kind=1/\m.type.Av≠Oo
   ·obtain ⟨hk1,hof⟩:=hkd
    have t1:m.type.Av.toList.isEmpty=false:=aI hof;have t2:¬m.type.Av.toList=[]:=by intro e;rw [e] at t1;cases t1
    have HKD:=AF (show m.type.kind=1/\m.type.Av≠Oo from ⟨hk1,hof⟩);clear hof;go_upto_region 8 with fail;have HB:=AF (Gs.o.below (Cv PN.o hlo Gp)).Hz;generalize wr.setCell ⟨H,k*11+5,none⟩ (AB AE (-1))=wq at Kk PN T7 HB ⊢;have hkl:k < (out++p.fields.drop k).length:=(BA.1 HAT.o).1;have Lh:((out++p.fields.drop k).set k {m with type:={m.type with unit:= -1}})[k]? =some {m with type:={m.type with unit:= -1}}:=Gv hkl;obtain ⟨B2,m2,d2,hck,hnm⟩:=YI.o.chunk Lh;have d4:=BG Kk.o hlt AG hck (j:=4) rfl;have d5:=BG Kk.o hlt AG hck (j:=5) rfl;have fd5:=Kk.o.frozenAt (k*11+5);obtain ⟨b1',b2',b3',TN,fn',TM,Hv,_,gX,_,_⟩:=HB.o;have s1:=Hv.cell 1;have lR':=Hv.lt;simp only [Ai,An,Aw] at s1;have hget:=Hy (G6 s) m.type.Av;obtain ⟨Ls,Sv⟩:=Aj (gX.same (w':=wq.drew) rfl) Lh;clear Hv gX hkl Lh hck hnm HB e1 e4 e5 f5 g4;cases hix:idx (G6 s) m.type.Av with
    |
     none=>
     rw [hix] at hget;have Cl:AI (EK 79 6 BR base G n cap i cs lo M (Fp s p) w (B8 Bm) wq.drew):=by refine Dl ?_ (grown_drew PN.o);unfold Fp;rw [IA.o];simp only;rw [En (k:=k+1) JU (FJ Db.o HM.o tM)]
     have V6:=AF hget;clear hix hget
     go_region_dies
     all_goals
      refine (G5 b2' _ _ _ Ls.o V6.o).mono ?_;rintro e w' ⟨rfl,rfl⟩;exact ⟨rfl,Cl.o⟩
    |
     some f=>
     rw [hix] at hget;have HST:AI (fieldStep s m=some {m with type:={m.type with unit:=(f:Int)}}):=AF tM;have HF:=AF ((FY b2' _ _ (f:Int) wq.drew Ls.o hget).mono (R':=fun e w'=>e=AV (AB AE f)/\w'=wq.drew) FT);clear hix hget;refine wp_region_still_tail 12 AL AL ?_;simp only [FQ,Ee,JL,Ho]
     repeat still_step
     still_call HF.o
     repeat still_step
     refine FN ?_;change wpList _ _ _ _ _ wq.drew;go_wp2;go_roundg (vn - (k+1))
     case measure=>exact Bc
     have ho3:=(Kk.o.drew.stored (k*11+5) (AB AE f)).1;have hc3:=jU YI.o Sv.o (f:Int);rw [Hp,Hp] at hc3;refine ⟨k+1,_,_,by omega,rfl,by go_num,Fc Db.o HM.o HST.o,Ma (grown_drew PN.o) UZ _,own_ne T7.o.drew BX _,?_,by rw [<-set_drop HLEN.o HM.o];exact hc3⟩;rw [Hp] at ho3;have:=LN.o;rw [this] at ho3 ⊢;exact ho3
   have HST:AI (fieldStep s m=some {m with type:={m.type with unit:= -1}}):=AF (by unfold fieldStep;rw [Ah hkd]);by_cases hk1:m.type.kind=1
   ·have hof:m.type.Av=Oo:=Decidable.byContradiction fun h=>hkd ⟨hk1,h⟩
    have t1:m.type.Av.toList.isEmpty=true:=by rw [hof,La];rfl
    have t2:m.type.Av.toList=[]:=by rw [hof,La]
    clear hof hkd;exact AAU
   have t0:decide (m.type.kind=1)=false:=by simpa using hk1
   clear hkd;exact AAU
  have hke:k=p.fields.length:=by have:=LN.o;omega
  have hcf:Ao 11 EW (mask lo M wa) cr out:=by rw [hke,Js,EU] at hcr;exact hcr
  have PO:AI (Fv (fun _=>fieldStep s) p.fields=some out):=AF tA;obtain ⟨wz,rfl⟩:=Ab wr;have hdw:BQ 4 72 (fun _=>Hb (mask lo M wz)) wz (AA A2 n2 c2) p.deps:=⟨(HDP.o.mono IH (Cv hgr hlo Gp)).1.uB,HDP.o.2⟩;have g5:=BG hog hi AG LV.o (j:=5) rfl;have jT:G < wz.heap.size:=Ay Uy hgr.size;obtain ⟨Ga,LP,LO,qu,HOL⟩:=EG hgr hog Gh hcf (Cq AG Db.o);clear hgr hog Gh hcr hcf Db HQ;go_wp2_with fail;refine (yE (fun _=>ABF _) A2 n2 c2 p.deps _ hdw).mono ?_;rintro e w3 ⟨v,X0,rfl,hcs3,ho3,hb3⟩;obtain ⟨xA,xn,xc,rfl,hxn⟩:=GK ho3;have q5:w3.cell? ⟨G,i*6+5,none⟩=some (AA A2 n2 c2):=((Jg hb3).1 _ _ jT).trans g5;have hf5:w3.frozen? ⟨G,i*6+5,none⟩=false:=((Jg hb3).2 _ _ jT).trans (LP.o.frozenAt _);have hG3:G < w3.heap.size:=Ay jT hb3.size;have JD:=AF ho3;have Wj:AI (Ao 4 Hb (mask lo M wz) X0 p.deps):=AF ⟨hcs3.1,hcs3.2⟩;obtain ⟨HB3,PU⟩:=Aj hb3 hxn;clear ho3 hcs3 hb3 g5 hdw hxn;go_wp2_with fail;have Oz:(w3.setCell ⟨G,i*6+5,none⟩ (AA xA xn xc)).ownsRow base 79 6 (AA (some ⟨G,0,none⟩) n cap) n (cb.set (i*6+5) (AA xA xn xc)):=((Co LP.o HB3.o).stored (i*6+5) (AA xA xn xc)).1;have ADw:(w3.setCell ⟨G,i*6+5,none⟩ (AA xA xn xc)).ownsRow wa.heap.size 100 11 (AA vA vn vc) p.fields.length cr:=Gz (Co LO.o HB3.o) Yx _;have xI:(w3.setCell ⟨G,i*6+5,none⟩ (AA xA xn xc)).ownsRow wz.heap.size 282 4 (AA xA xn xc) p.deps.length X0:=Gz JD.o (by simpa using jT) _;have pF:wz.grownBy (w3.setCell ⟨G,i*6+5,none⟩ (AA xA xn xc)) (some G):=Cw (Ej HB3.o _) _ _;have hg4:w.grownBy (w3.setCell ⟨G,i*6+5,none⟩ (AA xA xn xc)) (some G):=Ei Ga.o pF;have hcc:chunk (cb.set (i*6+5) (AA xA xn xc)) 6 i=[AN p.name,AN p.Hh,AB AE a,AB AE p.version,AA vA vn vc,AA xA xn xc]:=by rw [El _ AG,LV.o];rfl
  have aN:∀j,j≠i->chunk (cb.set (i*6+5) (AA xA xn xc)) 6 j=chunk cs 6 j:=fun j hj=>by rw [FM _ AG hj];exact qX.o j hj
  have hfb:∀r,(Value.slice vA vn vc).ownBlock=some r->r < wz.heap.size:=fun r e=>(LO.o.lt r e).2;generalize w3.setCell ⟨G,i*6+5,none⟩ (AA xA xn xc)=w4 at Oz ADw xI pF hg4 ⊢;generalize cb.set (i*6+5) (AA xA xn xc)=cc at Oz hcc aN;have hc4:Ao 4 Hb (Lf (AA xA xn xc) (mask lo M w4)) X0 p.deps:=
   Wj.o.mono IH (ABt (Cv pF hlo Gp) (fun H e=>by rw [ER];exact (xI.lt H e).1))
  obtain ⟨YK,AIr,AIt,vH,ES,ye,qr,PR⟩:=Wy Oz ADw xI hg4 hcc aN hfb hc4;have hwz:w.heap.size<=wz.heap.size:=Ga.o.size;have HZ4:=AF pF.size;clear Oz ADw xI pF hg4 hcc aN hfb hc4 q5 hf5 hG3 JD Wj HB3 LP LO LV qX HDP LU Ga;go_loopg [88] xn (fun q j wr=>∃(k:Nat) (ou:List Mn) (cd:List AK),k<=xn/\q=xn - k/\j=AB AE k/\EN (fun _=>Rn p) p.deps k=some ou/\w.grownBy wr (some G)/\wz.heap.size<=wr.heap.size/\wr.ownsRow base 79 6 (AA (some ⟨G,0,none⟩) n cap) n cc/\
   wr.ownsRow wa.heap.size 100 11 (AA vA vn vc) p.fields.length cr/\wr.ownsRow wz.heap.size 282 4 (AA xA xn xc) p.deps.length cd/\Ao 4 Hb (Lf (AA xA xn xc) (mask lo M wr)) cd (ou++p.deps.drop k))
  case atStart=>exact ⟨0,[],X0,Ar _,rfl,rfl,rfl,vH.o,HZ4.o,YK.o,AIr.o,AIt.o,PR.o⟩
  clear YK AIr AIt vH PR;obtain ⟨k',ou,cd,hk',hq',rfl,oy,hgr,hzr,hog,hof,hod,hcd⟩:=hrel;obtain ⟨HQ,Db⟩:=Aj hq' oy;clear hq' oy;by_cases hlt':k' < xn
  ·rcases JR hod with ⟨h,h0⟩ | ⟨H,hcap,h,hH,hHw,hn2⟩
   · exact R2
   injection h with h1 h2 h3;subst h1 h3;clear h2;have AJj:xn<=9223372036854775807:=by have:=PU.o;omega
   have xS:w.heap.size<=H:=AG
   obtain ⟨d,hd⟩:∃m,p.deps[k']? =some m:=⟨p.deps[k']' Ru,BJ _⟩;have hlen:=Cq Ru Db.o;have hat:(ou++p.deps.drop k')[k']? =some d:=by rw [Cf AG,EC,hlen];simpa using hd
   obtain ⟨B1,m1,d1,B2,m2,d2,hch,hnm,hsrc⟩:=hcd.chunk hat;have gW:wr.ownsRow wz.heap.size 282 4 (AA (some ⟨H,0,none⟩) xn xc) xn cd:=by have:=PU.o;rw [this] at hod ⊢;exact hod
   have e0:=BG gW hlt' AG hch (j:=0) rfl;simp only [D6] at e0;have e2:=BG gW hlt' AG hch (j:=2) rfl;have f2:=gW.frozenAt (k'*4+2);have g5:=BG hog hi AG ES.o (j:=5) rfl;have hnl:=hnm.1.len;have AHU:=(gW.stored (k'*4+2) (AA none 0 0)).1;have AHi:wr.grownBy (wr.setCell ⟨H,k'*4+2,none⟩ (AA none 0 0)) (some H):=Cw (DN _ _) _ _;obtain ⟨wy,rfl⟩:=Ab wr;obtain ⟨Ga,LP,PJ,HOD,qv,HD,HLEN,HAT,Qs,eI,Sn,AIa⟩:=RG hgr hog hof gW hcd hd hlen hat hch hnm hnl AHU;have AIp:=AF AHi;clear hgr hog hof hod gW hcd hd hlen hat hch hnm hsrc hnl AHU AHi;have hkn:(k':Int) < (xn:Int):=AG
   have hk0:(0:Int)<=(k':Int):=AG
   go_wp2_with fail;go_loopg [105] m1 (fun q j wr=>∃(k2:Nat) (o3:AP) (fA:Option Aa) (fn fc:Nat),k2<=m1/\q=m1 - k2/\j=AB AE k2/\EN (fun _=>Vk (fieldNames p)) d.names k2=some o3/\wy.grownBy wr (some H)/\
    wr.ownsRow wz.heap.size 282 4 (AA (some ⟨H,0,none⟩) xn xc) xn (cd.set (k'*4+2) (AA fA fn fc))/\wr.ownsRow wy.heap.size 3 1 (AA fA fn fc) k2 (o3.map Gg))
   case atStart=>exact ⟨0,[],none,0,0,Ar _,rfl,rfl,rfl,AIp.o,AIa.o,ED _ _ _ _⟩
   clear AIa AIp e0 e2 f2 g5;obtain ⟨k2,o3,TN,fn',TM,hk2,hq2,rfl,Xo,hgi,aQ,AHT⟩:=hrel;obtain ⟨Kj,Tz⟩:=Aj hq2 Xo;clear hq2 Xo;have hwi:w.grownBy wr (some G):=OU Ga.o hgi xS;have hHy:H < wy.heap.size:=hHw;have hHi:H < wr.heap.size:=Ay hHy hgi.size;have xJ:chunk (cd.set (k'*4+2) (AA TN fn' TM)) 4 k'=[AA B1 m1 d1,AN d.name,AA TN fn' TM,AB AE d.dst]:=by rw [El _ AG,Qs.o];rfl
   have i1:=BG aQ hlt' AG xJ (j:=1) rfl;have i2:=BG aQ hlt' AG xJ (j:=2) rfl;have i3:=BG aQ hlt' AG xJ (j:=3) rfl;have fi2:=aQ.frozenAt (k'*4+2);have fi3:=aQ.frozenAt (k'*4+3);have jO:=SQ (HMB.o.below (Cv hwi hlo Gp));obtain ⟨ju,HMJ,dx,qp,AIZ,yg⟩:=FR (jO.same (w':=wr.drew) rfl) jO hwi hgi aQ AHT;clear jO hwi hgi aQ AHT xJ;by_cases hlt2:k2 < m1
   ·obtain ⟨nb,AJe,nm,rfl,hnb,hnk,hnc⟩:=XI ((ADr (v:=AA (some ⟨H,0,none⟩) xn xc) SC (eI.o.1.mono Ba (ZY (dG qp.o)))).Hz SC) hlt2
    have hget:=Hy (fieldNames p) nm;have hkn2:(k2:Int) < (m1:Int):=AG
    have AM0:(0:Int)<=(k2:Int):=AG
    have AMu:m1*16<=140737488355328:=by rw [Sn.o];exact eI.o.2
    have jr:=AF hnk;clear hnk;go_wp2_with fail;cases hix:idx (fieldNames p) nm with
    |
     none=>
     rw [hix] at hget;have Cl:AI (EK 79 6 BR base G n cap i cs lo M (Fp s p) w (B8 Bm) wr.drew):=by
      refine Dl ?_ (grown_drew dx.o);unfold Fp;rw [IA.o];simp only;rw [PO.o];simp only;rw [En (k:=k'+1) Ru (FJ Db.o HD.o (by unfold Rn;rw [En (k:=k2+1) (by have:=Sn.o;omega) (FJ Tz.o jr.o (by unfold Vk;rw [hix];rfl))]))]
     have V6:=AF hget;clear hix hget
     go_region_dies
     all_goals
      refine (G5 mb _ _ _ ju.o V6.o).mono ?_;rintro e w' ⟨rfl,rfl⟩;exact ⟨rfl,Cl.o⟩
    |
     some f=>
     rw [hix] at hget;have HIF:AI (Vk (fieldNames p) nm=some (f:Int)):=AF (by unfold Vk;rw [hix];rfl);have HF:=AF ((FY mb _ _ (f:Int) wr.drew ju.o hget).mono (R':=fun e w'=>e=AV (AB AE f)/\w'=wr.drew) FT);clear hix hget;obtain ⟨i0,hi0,hz0,hz1,hz2⟩:=JF AGU;have uV:wy.heap.size<=wr.heap.size:=qp.o.size
     go_region_law (first
      | (
       refine XJ _ DG (.tmp 113) (.tmp 117) 30 DG wy.heap.size 3 i0 (AB AE 0) 1 8 underlying30 hi0 hz0 hz1 hz2 rfl BE (AA TN fn' TM) k2 (o3.map Gg) DG (yg.o.drew.alloc _) ⟨wr.heap.size,0,none⟩ 1 1 [AB AE f] DG rfl (cell_one_new _ _ _) Og Gj AG BX ?_;intro v' w5 hown' hgrow hat';obtain ⟨zA,zn,zc,rfl,hzn⟩:=GK hown';have xB:=(AIZ.o.drew.alloc (AQ #[AB AE f] 3)).kept hgrow (.inr (fun e=>ABK yg.o hHy e.symm));have AHh:wy.grownBy w5 (some H):=ABw (pR (grown_drew qp.o) _) hgrow (fun r e=>(yg.o.lt r e).1);have AHs:chunk (cd.set (k'*4+2) (AA TN fn' TM)) 4 k'=[AA (some ⟨nb,AJe,none⟩) m1 d1,AN d.name,AA TN fn' TM,AB AE d.dst]:=by rw [El _ AG,Qs.o];rfl
       have j2:=BG xB hlt' AG AHs (j:=2) rfl;have fj2:=xB.frozenAt (k'*4+2);obtain ⟨AKt,AK8,AKn⟩:=Az xB AHh hown';clear xB AHh hown' hgrow hat' AHs hzn)
      | (refine cQ DG 200 #[.map (some mb),AN nm] (by go_simp) HF.o ?_))
     all_goals
      go_wp2;go_roundg (m1 - (k2+1))
      case measure=>exact Ln
      have Q5:=(AKt.o.stored (k'*4+2) (AA zA zn zc)).1;rw [Hp] at Q5;refine ⟨k2+1,o3++[(f:Int)],zA,zn,zc,by omega,rfl,by go_num,Fc Tz.o jr.o HIF.o,Cw AK8.o _ _,Q5,?_⟩;have:=Gz AKn.o (p:=⟨H,k'*4+2,none⟩) (by simpa using hHy) (AA zA zn zc);rw [DM];exact this
   have hke2:k2=d.names.length:=by have:=Sn.o;omega
   have iQ:AI (Fv (fun _=>Vk (fieldNames p)) d.names=some o3):=AF tF;have hget:=Hy (fieldNames p) d.name;go_wp2_with fail;cases hix:idx (fieldNames p) d.name with
   |
    none=>
    rw [hix] at hget;have Cl:AI (EK 79 6 BR base G n cap i cs lo M (Fp s p) w (B8 Bm) wr):=by
     refine Dl ?_ dx.o;unfold Fp;rw [IA.o];simp only;rw [PO.o];simp only;rw [En (k:=k'+1) Ru (FJ Db.o HD.o (by unfold Rn Vk;rw [hix];cases Fv (fun _ x=>Option.map (fun n:Nat=>(n:Int)) (idx (fieldNames p) x)) d.names <;> rfl))]
    refine (G5 mb _ _ wr HMJ.o hget).mono ?_;rintro e w' ⟨rfl,rfl⟩;clear hix hget
    go_wp2
    exact ⟨rfl,Cl.o⟩
   |
    some f=>
    rw [hix] at hget;have qt:AI (Rn p d=some {d with src:=o3,dst:=(f:Int)}):=AF (by unfold Rn;rw [iQ.o];unfold Vk;rw [hix];rfl)
    refine (FY mb _ _ (f:Int) wr HMJ.o hget).mono ?_;rintro e w' ⟨rfl,rfl⟩;clear hix hget;go_wp2;go_roundg (xn - (k'+1))
    case measure=>exact Bc
    have hHy:H < wy.heap.size:=hHw;have Q5:=(AIZ.o.stored (k'*4+3) (AB AE f)).1;have hgn:wy.grownBy (wr.setCell ⟨H,k'*4+3,none⟩ (AB AE f)) (some H):=Cw qp.o _ _;have hfb:=qr.o;refine ⟨k'+1,ou++[{d with src:=o3,dst:=(f:Int)}],(cd.set (k'*4+2) (AA TN fn' TM)).set (k'*4+3) (AB AE f),by omega,rfl,by go_num,Fc Db.o HD.o qt.o,Ma dx.o UZ _,by have:=qp.o.size;simp [World.setCell];omega,own_ne (LP.o.kept qp.o (.inr Oh)) BX _,AGC (PJ.o.kept qp.o (.inr (fun e=>by have:=hfb _ e;omega))) (fun e=>by have:=hfb _ e;simp at this;omega) _,?_,?_⟩
    · have:=PU.o;rw [this] at Q5 ⊢;exact Q5
    have hsl:BQ 1 8 iR (Lf (AA (some ⟨H,0,none⟩) xn xc) (mask lo M (wr.setCell ⟨H,k'*4+3,none⟩ (AB AE f)))) (AA TN fn' TM) o3:=by have hl3:=Cq AG Tz.o;refine ⟨CP (ABs (Lb (Gz yg.o (p:=⟨H,k'*4+3,none⟩) (by simpa using hHy) (AB AE f)) AG) (fun H' e=>by simp [Value.ownBlock] at e;omega)) (AH9 _ _) (by rw [hl3]),?_⟩;have:=eI.o.2;rw [hl3,hke2];omega
    have hc6:=AEa (AEb (qv.o.mono IH (ZY (dG hgn))) HAT.o rfl hsl) (Gv (BA.1 HAT.o).1) (f:Int);rw [Hp] at hc6;rw [<-set_drop HLEN.o HD.o];exact hc6
  have aR:k'=p.deps.length:=by have:=PU.o;omega
  go_wp2_with fail
  go_end0
  have hP:Fp s p=some {p with Au:=(a:Int),fields:=out,deps:=ou}:=by unfold Fp;rw [IA.o];simp only;rw [PO.o];simp only;unfold Fv;rw [<-aR,Db.o]
  have hwa:wa.grownBy wr (some G):=xX G9.o hgr CV.o;refine QJ hP hgr hog ye.o ⟨vA,vn,vc,xA,xn,xc,ES.o,⟨CP (Lb hof (by rw [CV.o];exact ug)) (qu.o.mono DJ (Cv hwa hlo Gp)) (by rw [HOL.o,hke]),?_⟩,⟨CP (Lb hod AG) ?_ (by rw [Cq AG Db.o,aR]),?_⟩⟩
  · rw [HOL.o,hke];exact qy.o
  ·rw [aR,Js,EU] at hcd
   exact ABr jC hcd
  · rw [Cq AG Db.o,aR];exact HBD.o
def Gl (s:BD) (vars:SMap) (froms:List Br) (t:DP):Option DP:=
 if t.name=Oo then some {t with var:= -1,field:=0}
 else match getM vars t.name with
  | none=>none
  |
   some v=>match froms[v.toNat]? with
   | none=>none
   |
    some f=>match s.Ap[f.schema.toNat]? with
    | none=>none
    | some x=>(idx (fieldNames x) t.path).map (fun n=>{t with var:=v,field:=(n:Int)})
theorem ABV (a b c d:Nat) (w:AH):mask a b (mask c d w)=mask c d (mask a b w):=by
 unfold mask;congr 1;apply RY;intro k;simp only [Rf,Option.map_map];cases w.heap[k]? with
 | none=>rfl
 |
  some o=>
  simp only [Cu,Function.comp,Bq];split <;> split <;> rfl
def U6 (base:Nat) (T:Ae) (sz HT n cap:Nat) (cs:List AK) (ot:Nat) (res:Option DP) (w:AH) (e:Ending) (w':AH):Prop:=
 w.grownBy w' (some HT)/\match res with
  | none=>e=B8 Bm
  | some t=>e=AV (.tuple #[])/\w'.ownsRow base T sz (AA (some ⟨HT,0,none⟩) n cap) n ((cs.set (ot+2) (AB AE t.var)).set (ot+3) (AB AE t.field))
theorem cV {base:Nat} {T:Ae} {sz HT n cap:Nat} {cs:List AK} {ot:Nat} {res:Option DP} {w w':AH} (h:res=none) (hg:w.grownBy w' (some HT)):U6 base T sz HT n cap cs ot res w (B8 Bm) w':=by subst h;exact ⟨hg,rfl⟩
theorem ZS {base:Nat} {T:Ae} {sz HT n cap:Nat} {cs:List AK} {ot:Nat} {res:Option DP} {t:DP} {w w':AH} (h:res=some t) (hg:w.grownBy w' (some HT)) (ho:w'.ownsRow base T sz (AA (some ⟨HT,0,none⟩) n cap) n ((cs.set (ot+2) (AB AE t.var)).set (ot+3) (AB AE t.field))):U6 base T sz HT n cap cs ot res w (AV (.tuple #[])) w':=by subst h;exact ⟨hg,rfl,ho⟩
theorem JZ {w:AH} {base:Nat} {e:Ae} {sz g n cap:Nat} {cs:List AK} (h:w.ownsRow base e sz (AA (some ⟨g,0,none⟩) n cap) n cs) {j:Nat} {u:AK} (hu:cs[j]? =some u):w.cell? ⟨g,j,none⟩=some u:=by have hl:=(BA.1 hu).1;rw [h.1] at hl;rw [h.cellAt _ hl,hu]
theorem cz (V Rb Ub vb R G gi H fn fc base sz HT n cap ot:Nat) (T:Ae) (cs:List AK) (s:BD) (vars:SMap) (froms:List Br) (t:DP) (w:AH)
 (hV:w.cell? ⟨V,0,none⟩=some (.map (some vb))) (hVT:V≠HT) (hRb:w.cell? ⟨Rb,0,none⟩=some (AU (some ⟨R,0,none⟩))) (hRT:Rb≠HT) (hUb:w.cell? ⟨Ub,0,none⟩=some (AU (some ⟨G,gi,none⟩))) (hUT:Ub≠HT)
 (hG:froms≠[]->w.cell? ⟨G,gi+2,none⟩=some (AA (some ⟨H,0,none⟩) fn fc)) (hGT:G≠HT) (hm:MapAt Hu Gg w vb vars) (hres:Jk (mask HT (HT+1) w) R s)
 (hfr:∀v,getM vars t.name=some v->∃(vn a:Nat) (f:Br) (x:BI),v=(vn:Int)/\vn < fn/\fn<=9223372036854775807/\froms[vn]? =some f/\f.schema=(a:Int)/\s.Ap[a]? =some x/\w.cell? ⟨H,vn*8+2,none⟩=some (AB AE a)/\(H≠HT\/(vn*8+2≠ot+2/\vn*8+2≠ot+3)))
 (ho:w.ownsRow base T sz (AA (some ⟨HT,0,none⟩) n cap) n cs) (h0:cs[ot]? =some (AN t.name)) (h1:cs[ot+1]? =some (AN t.path)) (h2:cs[ot+2]? =some (AB AE t.var)) (h3:cs[ot+3]? =some (AB AE t.field)):
 AS prog 204 #[AU (some ⟨HT,ot,none⟩),AU (some ⟨V,0,none⟩),AU (some ⟨Rb,0,none⟩),AU (some ⟨Ub,0,none⟩)] w (U6 base T sz HT n cap cs ot (Gl s vars froms t) w):=by
 have c0:=JZ ho h0;have c1:=JZ ho h1;have c2:=JZ ho h2;have c3:=JZ ho h3;have f2:=ho.frozenAt (ot+2);have f3:=ho.frozenAt (ot+3);have hoq:=((ho.stored (ot+2) (AB AE (-1))).1.stored (ot+3) (AB AE 0)).1;have hgq:w.grownBy ((w.setCell ⟨HT,ot+2,none⟩ (AB AE (-1))).setCell ⟨HT,ot+3,none⟩ (AB AE 0)) (some HT):=Cw (Cw (DN _ _) _ _) _ _;obtain ⟨Kk,PN,JE,HV,Jh,HUB,HG,HM,Gs,j5,H0,H1⟩:=RG hoq hgq (LM ho) hV hRb hUb hG hm hres hfr h0 h1;have hl3:=(BA.1 h3).1;have hl2:=(BA.1 h2).1;clear hoq hgq hV hRb hUb hG hm hres hfr ho h0 h1 h2 h3;go_enter func204,ntmps204;by_cases hof:t.name=Oo
 ·have t1:t.name.toList.isEmpty=true:=by rw [hof,La];rfl
  have t2:t.name.toList=[]:=by rw [hof,La]
  have HP:AI (Gl s vars froms t=some {t with var:= -1,field:=0}):=AF (by unfold Gl;rw [Am hof]);clear hof;go_wp2_with fail
  go_end0
  exact ZS HP.o PN.o Kk.o
 have t1:t.name.toList.isEmpty=false:=aI hof;have t2:¬t.name.toList=[]:=by intro e;rw [e] at t1;cases t1
 have PJ:=AF hof;clear hof;have hVq:=PN.o.cell HV.o (by simpa using hVT);have WN:MapAt Hu Gg ((w.setCell ⟨HT,ot+2,none⟩ (AB AE (-1))).setCell ⟨HT,ot+3,none⟩ (AB AE 0)).drew vb vars:=(HM.o.keeps (CN.grown PN.o (fun x e=>by cases e;exact JE.o))).same rfl;have g0:((cs.set (ot+2) (AB AE (-1))).set (ot+3) (AB AE 0))[ot]? =some (AN t.name):=by rw [JM AG,JM AG];exact H0.o
 have g1:((cs.set (ot+2) (AB AE (-1))).set (ot+3) (AB AE 0))[ot+1]? =some (AN t.path):=by rw [JM AG,JM AG];exact H1.o
 have g2:((cs.set (ot+2) (AB AE (-1))).set (ot+3) (AB AE 0))[ot+2]? =some (AB AE (-1)):=by rw [JM AG,Gv hl2]
 have g3:((cs.set (ot+2) (AB AE (-1))).set (ot+3) (AB AE 0))[ot+3]? =some (AB AE 0):=by rw [Gv (by simpa using hl3)]
 cases hgv:getM vars t.name with
 |
  none=>
  have eI:AI (Gl s vars froms t=none):=AF (by unfold Gl;rw [Ah PJ.o,hgv]);go_upto_region 2 with fail;generalize (w.setCell ⟨HT,ot+2,none⟩ (AB AE (-1))).setCell ⟨HT,ot+3,none⟩ (AB AE 0)=wq at Kk PN hVq WN ⊢;have d0:=JZ Kk.o g0;have d2:=JZ Kk.o g2;obtain ⟨qi,HGV⟩:=Aj WN hgv;clear WN c0 c1 c2 c3 f2 f3 g0 g1 g2 g3 hgv
  go_region_dies
  all_goals
   refine (G5 vb _ _ _ qi.o HGV.o).mono ?_;rintro e w' ⟨rfl,rfl⟩;exact ⟨rfl,cV eI.o (grown_drew PN.o)⟩
 |
  some v=>
  obtain ⟨vn,a,f,x,rfl,hvf,hfn,hfv,hfa,hsa,hcf,hne⟩:=j5.o v hgv;have AD1:((w.setCell ⟨HT,ot+2,none⟩ (AB AE (-1))).setCell ⟨HT,ot+3,none⟩ (AB AE 0)).cell? ⟨H,vn*8+2,none⟩=some (AB AE a):=by rw [Ys _ _ _ _ (fun e=>by injection e;omega),Ys _ _ _ _ (fun e=>by injection e;omega)];exact hcf
  have hne2:(⟨HT,ot+2,none⟩:Aa)≠⟨H,vn*8+2,none⟩:=fun e=>by injection e;omega
  have HP:AI (∀r,(idx (fieldNames x) t.path).map (fun n=>({t with var:=(vn:Int),field:=(n:Int)}:DP))=r->Gl s vars froms t=r):=AF (fun r hr=>by unfold Gl;rw [Ah PJ.o,hgv];simp only;rw [show ((vn:Int)).toNat=vn from rfl,hfv];simp only;rw [hfa,show ((a:Int)).toNat=a from rfl,hsa];exact hr)
  have HF:=AF ((FY vb _ _ (vn:Int) _ WN hgv).mono (R':=fun e w'=>e=AV (AB AE vn)/\w'=((w.setCell ⟨HT,ot+2,none⟩ (AB AE (-1))).setCell ⟨HT,ot+3,none⟩ (AB AE 0)).drew) FT);have hGc:=HG.o (fun e=>by rw [e] at hfv;simp at hfv);have AMx:=hl3;go_upto_region 2 with fail;clear WN;generalize (w.setCell ⟨HT,ot+2,none⟩ (AB AE (-1))).setCell ⟨HT,ot+3,none⟩ (AB AE 0)=wq at Kk PN hVq AD1 HF ⊢;have d0:=JZ Kk.o g0;have d2:=JZ Kk.o g2;have fd2:=Kk.o.frozenAt (ot+2);clear c0 c1 c2 c3 f2 f3 hgv;refine wp_region_still_tail 9 AL AL ?_;simp only [FQ,Ee,JL,Ho]
  repeat still_step
  still_call HF.o
  repeat still_step
  refine FN ?_;change wpList _ _ _ _ _ wq.drew;go_upto_region 3 with fail;have hox:=(Kk.o.stored (ot+2) (AB AE vn)).1.drew;have hgx:w.grownBy (wq.setCell ⟨HT,ot+2,none⟩ (AB AE vn)).drew (some HT):=grown_drew (Cw PN.o _ _);have hcx:(wq.setCell ⟨HT,ot+2,none⟩ (AB AE vn)).drew.cell? ⟨H,vn*8+2,none⟩=some (AB AE a):=(Ys _ _ _ _ hne2).trans AD1;generalize (wq.setCell ⟨HT,ot+2,none⟩ (AB AE vn)).drew=wx at hox hgx hcx ⊢;have k1:=JZ hox (j:=ot+1) (u:=AN t.path) (by rw [JM AG];exact g1);have k2:=JZ hox (j:=ot+2) (u:=AB AE vn) (by rw [Gv (by simpa using hl2)]);have k3:=JZ hox (j:=ot+3) (u:=AB AE 0) (by rw [JM AG];exact g3);have fk3:=hox.frozenAt (ot+3);have xR:=hgx.cell Jh.o (by simpa using hRT);have xU:=hgx.cell HUB.o (by simpa using hUT);have xG:=hgx.cell hGc (by simpa using hGT);obtain ⟨b1,b2,b3,fA,fl,fcc,hbR,hm1,hm2,EI,hfs⟩:=(Gs.o.below (Cv hgx (Ad _) (Ie _))).Hz;have r3:=hbR.cell 3;have lR:=hbR.lt;simp only [Ai,An,Aw] at r3;have hal:a < fl:=by have:=hfs.len;rw [this,CX];exact (BA.1 hsa).1
  have AHk:fl<=9223372036854775807:=by have:=hfs.le;omega
  obtain ⟨fb,pV,fm,fg,rfl,hfb,hfm,hfc,MI⟩:=Ut hfs hal;have hfx:fm=fieldMap x:=by rw [Be,hsa,Cu,Bq] at hfm;exact hfm.symm
  subst hfx;have hget:=Hy (fieldNames x) t.path;obtain ⟨Wh,qW,HGX⟩:=Az (MI.same (w':=wx.drew) rfl) hox hgx;have h01:(0:Int)<=(vn:Int):=AG
  have h02:(vn:Int) < (fn:Int):=AG
  have h03:(0:Int)<=(a:Int):=AG
  have h04:(a:Int) < (fl:Int):=AG
  clear hfs hfm MI hbR hm1 hm2 EI hox hgx g0 g1 g2 g3 d0 d2 fd2 HF AD1 hVq hcf hne hne2 hGc hfa hfv hsa;cases hix:idx (fieldNames x) t.path with
  |
   none=>
   rw [hix] at hget;have eI:=AF (HP.o none (by rw [hix];rfl));have Cl:AI (U6 base T sz HT n cap cs ot (Gl s vars froms t) w (B8 Bm) wx.drew):=AF (cV eI.o (grown_drew HGX.o));have HF:=AF ((G5 fg _ _ wx.drew Wh.o hget).mono (R':=fun e w'=>e=B8 Bm/\w'=wx.drew) FT);clear hix hget;refine Dj 22 [0,1,2,3,4,5,6,7,8,9,10,11,12,13,14,15,16,17,18,19,20,21] (fun l=>l.take 22) AL rfl AL (fun d u c a h=>by cases d <;> exact h) ?_;simp only [FQ,Ee]
   repeat still_step
   refine FN ?_;refine ⟨_,200,#[.map (some fg),AN t.path],Bm,rfl,rfl,?_,HF.o,rfl,Cl.o⟩;go_simp
  |
   some g=>
   rw [hix] at hget;obtain ⟨U8,HF⟩:=Aj (HP.o (some {t with var:=(vn:Int),field:=(g:Int)}) (by rw [hix];rfl)) ((FY fg _ _ (g:Int) wx.drew Wh.o hget).mono (R':=fun e w'=>e=AV (AB AE g)/\w'=wx.drew) FT);clear hix hget;refine wp_region_still_tail 25 AL AL ?_;simp only [FQ,Ee,JL,Ho]
   repeat still_step
   still_call HF.o
   repeat still_step
   refine FN ?_;change wpList _ _ _ _ _ wx.drew;go_wp2_with fail
   go_end0
   refine ZS U8.o (Cw (grown_drew HGX.o) _ _) ?_;have:=(qW.o.drew.stored (ot+3) (AB AE g)).1;have e:((((cs.set (ot+2) (AB AE (-1))).set (ot+3) (AB AE 0)).set (ot+2) (AB AE vn)).set (ot+3) (AB AE g))=(cs.set (ot+2) (AB AE vn)).set (ot+3) (AB AE g):=by rw [List.set_comm _ _ (by omega:ot+3≠ot+2),Hp,Hp]
   rw [e] at this;exact this
def M4 (l:List Br):Nat->SMap
 | 0=>[]
 |
  k+1=>match l[k]? with
  | some f=>Ha (M4 l k) f.name (k:Int)
  | none=>M4 l k
def varsOf (l:List Br):SMap:=M4 l l.length
theorem ij (l r:List Br):∀k,k<=l.length->M4 (l++r) k=M4 l k
 | 0,_=>rfl
 | k+1,h=>by rw [M4,M4,ij l r k AG,EF AG]
theorem rH (l:List Br) (f:Br):varsOf (l++[f])=Ha (varsOf l) f.name (l.length:Int):=by unfold varsOf;rw [CT];show M4 (l++[f]) (l.length+1)=_;rw [M4,Cf (Ad _),PY,ij l _ _ (Ad _)];rfl
theorem S6 (l:List Br):∀k x v,getM (M4 l k) x=some v->∃n:Nat,v=(n:Int)/\n < k/\∃f,l[n]? =some f/\f.name=x
 | 0,x,v,h=>by simp [M4,P7] at h
 |
  k+1,x,v,h=>by
  rw [M4] at h;cases hk:l[k]? with
  |
   none=>
   rw [hk] at h;obtain ⟨n,h1,h2,h3⟩:=S6 l k x v h;exact ⟨n,h1,by omega,h3⟩
  |
   some f=>
   rw [hk] at h;simp only [pS] at h;split at h
   ·rename_i e
    exact ⟨k,by simpa using h.symm,by omega,f,hk,e.symm⟩
   obtain ⟨n,h1,h2,h3⟩:=S6 l k x v h;exact ⟨n,h1,by omega,h3⟩
def P8 (s:BD) (out:List Br) (f:Br):Option Br:=
 match idx (CH s) f.kind with
 | none=>none
 | some a=>(Gl s (varsOf out) out f.Av).map (fun t=>{f with schema:=(a:Int),Av:=t})
def QD (s:BD) (fo:List Br) (a:Gf):Option Gf:=
 match Gl s (varsOf fo) fo a.a,Gl s (varsOf fo) fo a.b with
 | some x,some y=>some {a with a:=x,b:=y}
 | _,_=>none
def Un (s:BD) (xa:BI) (fo:List Br) (c:Kf):Option Kf:=
 match idx (fieldNames xa) c.path,Gl s (varsOf fo) fo c.term with
 | some n,some t=>some {c with field:=(n:Int),term:=t}
 | _,_=>none
def Gb (s:BD) (r:Ck):Option Ck:=
 match idx (CH s) r.head with
 | none=>none
 |
  some a=>match Fv (P8 s) r.froms with
  | none=>none
  |
   some fo=>match Fv (fun _=>QD s fo) r.DQ with
   | none=>none
   |
    some wo=>match s.Ap[a]? with
    | none=>none
    |
     some xa=>match Fv (fun _=>Un s xa fo) r.sets with
     | none=>none
     | some so=>some {r with schema:=(a:Int),froms:=fo,DQ:=wo,sets:=so}
def rB (s:BD) (l:List Br):Prop:=∀f∈l,∃(a:Nat) (x:BI),f.schema=(a:Int)/\s.Ap[a]? =some x
theorem RI {s:BD} {vars:SMap} {fo:List Br} {t t':DP} (h:Gl s vars fo t=some t'):t'={t with var:=t'.var,field:=t'.field}:=by
 unfold Gl at h;split at h
 · injection h with h;subst h;rfl
 split at h
 · cases h
 split at h
 · cases h
 split at h
 · cases h
 simp only [Ds] at h;obtain ⟨n,_,rfl⟩:=h;rfl
structure RB (w0:AH) (R G gi Rb Ub V vb:Nat) (wr:AH):Prop where
 gr:w0.grownBy wr (some G)
 rb:wr.cell? ⟨Rb,0,none⟩=some (AU (some ⟨R,0,none⟩))
 ub:wr.cell? ⟨Ub,0,none⟩=some (AU (some ⟨G,gi,none⟩))
 vv:wr.cell? ⟨V,0,none⟩=some (.map (some vb))
section
variable {w0:AH} {R G gi Rb Ub V vb:Nat} {wr wr':AH}
theorem RB.far (h:RB w0 R G gi Rb Ub V vb wr) {K:Nat} (hg:wr.grownBy wr' (some K)) (h0:w0.heap.size<=K) (h1:Rb≠K) (h2:Ub≠K) (h3:V≠K):RB w0 R G gi Rb Ub V vb wr':=
 ⟨OU h.gr hg h0,hg.cell h.rb (by simpa using h1),hg.cell h.ub (by simpa using h2),hg.cell h.vv (by simpa using h3)⟩
theorem RB.near (h:RB w0 R G gi Rb Ub V vb wr) (hg:wr.grownBy wr' (some G)) (h1:Rb≠G) (h2:Ub≠G) (h3:V≠G):RB w0 R G gi Rb Ub V vb wr':=
 ⟨Ei h.gr hg,hg.cell h.rb (by simpa using h1),hg.cell h.ub (by simpa using h2),hg.cell h.vv (by simpa using h3)⟩
theorem RB.below (h:RB w0 R G gi Rb Ub V vb wr) (hb:AJ wr wr'):RB w0 R G gi Rb Ub V vb wr':=by have hg:wr.grownBy wr' none:=Ej hb _;exact ⟨Ei h.gr (Ej hb _),hg.cell h.rb Ac,hg.cell h.ub Ac,hg.cell h.vv Ac⟩
theorem RB.drew (h:RB w0 R G gi Rb Ub V vb wr):RB w0 R G gi Rb Ub V vb wr.drew:=⟨grown_drew h.gr,h.rb,h.ub,h.vv⟩
end
theorem nw {lo M R G HT:Nat} {s:BD} {w0 wr:AH} (h:Jk (mask lo M w0) R s) (hg:w0.grownBy wr (some G)) (hlo:lo<=G) (Gp:G < M) (hHT:w0.heap.size<=HT):Jk (mask HT (HT+1) wr) R s:=by have:=h.below (Ve (lo:=HT) (M:=HT+1) (mask lo M w0) (Cv hg hlo Gp) (by rw [ER];exact hHT));rw [ABV] at this;exact this.Hz
theorem ABy {w:AH} {cs:List AK} {l:List Br} {k:Nat} {u:Br} (h:Ao 8 DI w cs l) (hk:l[k]? =some u) (a:Int):Ao 8 DI w (cs.set (k*8+2) (AB AE a)) (l.set k {u with schema:=a}):=
 h.put AG (BA.1 hk).1 tO
theorem ABx {w:AH} {cs:List AK} {l:List Br} {k:Nat} {u:Br} (h:Ao 8 DI w cs l) (hk:l[k]? =some u) (t:DP) (ht:t={u.Av with var:=t.var,field:=t.field}):Ao 8 DI w ((cs.set (k*8+3+2) (AB AE t.var)).set (k*8+3+3) (AB AE t.field)) (l.set k {u with Av:=t}):=by
 have hkl:=(BA.1 hk).1;have h1:Ao 8 DI w (cs.set (k*8+5) (AB AE t.var)) (l.set k {u with Av:={u.Av with var:=t.var}}):=h.put AG hkl tO
 have h2:=h1.put (i:=k) (j:=6) (x':={u with Av:={u.Av with var:=t.var,field:=t.field}}) (u:=AB AE t.field) AG UE (by have:chunk _ 8 k=_:=h1.chunk (i:=k) AAe;rw [this];rfl)
 exact bP
theorem ACJ {w:AH} {cs:List AK} {l:List Gf} {k:Nat} {u:Gf} (h:Ao 11 EQ w cs l) (hk:l[k]? =some u) (t:DP) (ht:t={u.a with var:=t.var,field:=t.field}):Ao 11 EQ w ((cs.set (k*11+1+2) (AB AE t.var)).set (k*11+1+3) (AB AE t.field)) (l.set k {u with a:=t}):=by
 have hkl:=(BA.1 hk).1;have h1:Ao 11 EQ w (cs.set (k*11+3) (AB AE t.var)) (l.set k {u with a:={u.a with var:=t.var}}):=h.put AG hkl tS
 have h2:=h1.put (i:=k) (j:=4) (x':={u with a:={u.a with var:=t.var,field:=t.field}}) (u:=AB AE t.field) AG UE tr
 exact bP
theorem ACI {w:AH} {cs:List AK} {l:List Gf} {k:Nat} {u:Gf} (h:Ao 11 EQ w cs l) (hk:l[k]? =some u) (t:DP) (ht:t={u.b with var:=t.var,field:=t.field}):Ao 11 EQ w ((cs.set (k*11+6+2) (AB AE t.var)).set (k*11+6+3) (AB AE t.field)) (l.set k {u with b:=t}):=by
 have hkl:=(BA.1 hk).1;have h1:Ao 11 EQ w (cs.set (k*11+8) (AB AE t.var)) (l.set k {u with b:={u.b with var:=t.var}}):=h.put AG hkl tS
 have h2:=h1.put (i:=k) (j:=9) (x':={u with b:={u.b with var:=t.var,field:=t.field}}) (u:=AB AE t.field) AG UE tr
 exact bP
theorem ACq {w:AH} {cs:List AK} {l:List Kf} {k:Nat} {u:Kf} (h:Ao 7 Gc w cs l) (hk:l[k]? =some u) (a:Int):Ao 7 Gc w (cs.set (k*7+1) (AB AE a)) (l.set k {u with field:=a}):=
 h.put AG (BA.1 hk).1 tN
theorem ACp {w:AH} {cs:List AK} {l:List Kf} {k:Nat} {u:Kf} (h:Ao 7 Gc w cs l) (hk:l[k]? =some u) (t:DP) (ht:t={u.term with var:=t.var,field:=t.field}):Ao 7 Gc w ((cs.set (k*7+2+2) (AB AE t.var)).set (k*7+2+3) (AB AE t.field)) (l.set k {u with term:=t}):=by
 have hkl:=(BA.1 hk).1;have h1:Ao 7 Gc w (cs.set (k*7+4) (AB AE t.var)) (l.set k {u with term:={u.term with var:=t.var}}):=h.put AG hkl tN
 have h2:=h1.put (i:=k) (j:=5) (x':={u with term:={u.term with var:=t.var,field:=t.field}}) (u:=AB AE t.field) AG UE (by have:chunk _ 7 k=_:=h1.chunk (i:=k) AAe;rw [this];rfl)
 exact bP
theorem Em {cs:List AK} {sz k j:Nat} {c:List AK} {u:AK} (hc:chunk cs sz k=c) (hj:j < sz) (hu:c[j]? =some u):cs[k*sz+j]? =some u:=by rw [<-QB hj,hc,hu]
theorem xZ {s:BD} {w wx:AH} {base:Nat} {vA:Option Aa} {vn vc:Nat} {cr:List AK} {fo:List Br} (ho:w.ownsRow base 290 8 (AA vA vn vc) vn cr) (hc:Ao 8 DI wx cr fo) (hl:fo.length=vn) (hp:rB s fo):
 ∃H,(fo≠[]->vA=some ⟨H,0,none⟩/\base<=H/\H < w.heap.size)/\∀(x:ByteArray) (v:Int),getM (varsOf fo) x=some v->∃(n a:Nat) (f:Br) (sc:BI),v=(n:Int)/\n < vn/\vn<=9223372036854775807/\fo[n]? =some f/\f.schema=(a:Int)/\s.Ap[a]? =some sc/\w.cell? ⟨H,n*8+2,none⟩=some (AB AE a):=by
 rcases JR ho with ⟨h,h0⟩ | ⟨H,hcap,h,hH,hHw,hn2⟩
 ·have:fo=[]:=JO AG
  subst this;exact ⟨0,fun e=>absurd rfl e,fun x v hv=>by simp [varsOf,M4,P7] at hv⟩
 injection h with h1 h2 h3;subst h1 h3;refine ⟨H,fun _=>⟨rfl,hH,hHw⟩,fun x v hv=> ?_⟩;obtain ⟨n,rfl,hn,f,hf,_⟩:=S6 fo _ x v hv;obtain ⟨a,sc,ha,hs⟩:=hp f (Ci hf);refine ⟨n,a,f,sc,rfl,by omega,by omega,hf,ha,hs,?_⟩;have hch:chunk cr 8 n=_:=hc.chunk hf;have:=BG ho (show n < vn by omega) AG hch (j:=2) rfl;rw [ha] at this;exact this
theorem Vd {w0 w wx:AH} {R G gi Rb Ub V vb lo M bz base sz HT n cap ot:Nat} {vA:Option Aa} {vn vc:Nat} {T:Ae} {cs cr:List AK} {s:BD} {fo:List Br} {t:DP}
 (hrb:RB w0 R G gi Rb Ub V vb w) (hG2:w.cell? ⟨G,gi+2,none⟩=some (AA vA vn vc)) (hof:w.ownsRow bz 290 8 (AA vA vn vc) vn cr) (hcf:Ao 8 DI wx cr fo) (hl:fo.length=vn) (hok:rB s fo) (hm:MapAt Hu Gg w vb (varsOf fo))
 (hres:Jk (mask lo M w0) R s) (hlo:lo<=G) (Gp:G < M) (hHT:w0.heap.size<=HT) (nV:V≠HT) (nR:Rb≠HT) (nU:Ub≠HT) (nG:G≠HT) (nF:∀r,(Value.slice vA vn vc).ownBlock=some r->r≠HT)
 (ho:w.ownsRow base T sz (AA (some ⟨HT,0,none⟩) n cap) n cs) (h0:cs[ot]? =some (AN t.name)) (h1:cs[ot+1]? =some (AN t.path)) (h2:cs[ot+2]? =some (AB AE t.var)) (h3:cs[ot+3]? =some (AB AE t.field)):
 AS prog 204 #[AU (some ⟨HT,ot,none⟩),AU (some ⟨V,0,none⟩),AU (some ⟨Rb,0,none⟩),AU (some ⟨Ub,0,none⟩)] w (U6 base T sz HT n cap cs ot (Gl s (varsOf fo) fo t) w):=by
 obtain ⟨H,hne,hlook⟩:=xZ hof hcf hl hok;refine cz V Rb Ub vb R G gi H vn vc base sz HT n cap ot T cs s (varsOf fo) fo t w hrb.vv nV hrb.rb nR hrb.ub nU (fun e=>by rw [hG2,(hne e).1]) nG hm (nw hres hrb.gr hlo Gp hHT) (fun v hv=> ?_) ho h0 h1 h2 h3;obtain ⟨n',a,f,sc,h1,h2,h3,h4,h5,h6,h7⟩:=hlook t.name v hv;have hnn:fo≠[]:=fun e=>by rw [e] at h4;simp at h4
 exact ⟨n',a,f,sc,h1,h2,h3,h4,h5,h6,h7,.inl (nF H (by rw [(hne hnn).1];rfl))⟩
theorem gO (R lo M base G n cap i:Nat) (cs:List AK) (s:BD) (p:Ck) (w:AH) (hres:Jk (mask lo M w) R s) (hlo:lo<=G) (Gp:G < M) (ug:M<=w.heap.size)
 (ho:w.ownsRow base 151 5 (AA (some ⟨G,0,none⟩) n cap) n cs) (hi:i < n) (hp:CM (mask lo M w) (chunk cs 5 i) p):
 AS prog 152 #[AU (some ⟨R,0,none⟩),AU (some ⟨G,i*5,none⟩)] w (EK 151 5 CM base G n cap i cs lo M (Gb s p) w):=by
 obtain ⟨A1,n1,c1,A2,n2,c2,A3,n3,c3,hch,hfr,hwh,hse⟩:=hp;have Uy:G < w.heap.size:=AG
 obtain ⟨Gs,HO,Qs,j5,dy,TV,CY⟩:=LW hres ho hch hfr hwh hse hwh.2;clear hres ho hch hfr hwh hse;have hmf:∀(fn:Fn) (first cap:Array AK) (w:AH),(Instr.makeFunc fn first cap).run prog w=.ok (.func fn first cap) w:=fun _ _ _ _=>rfl;go_enter func152,ntmps152;go_upto_region 1 with fail;have hbb:AJ w ((w.alloc (AQ #[AU (some ⟨R,0,none⟩)] 245)).alloc (AQ #[AU (some ⟨G,i*5,none⟩)] 265)):=(BP _ _).alloc Ac _;have krb:((w.alloc (AQ #[AU (some ⟨R,0,none⟩)] 245)).alloc (AQ #[AU (some ⟨G,i*5,none⟩)] 265)).cell? ⟨w.heap.size,0,none⟩=some (AU (some ⟨R,0,none⟩)):=MO
 have kub:((w.alloc (AQ #[AU (some ⟨R,0,none⟩)] 245)).alloc (AQ #[AU (some ⟨G,i*5,none⟩)] 265)).cell? ⟨w.heap.size+1,0,none⟩=some (AU (some ⟨G,i*5,none⟩)):=MO
 have aM:((w.alloc (AQ #[AU (some ⟨R,0,none⟩)] 245)).alloc (AQ #[AU (some ⟨G,i*5,none⟩)] 265)).heap.size=w.heap.size+2:=Ac
 generalize (w.alloc (AQ #[AU (some ⟨R,0,none⟩)] 245)).alloc (AQ #[AU (some ⟨G,i*5,none⟩)] 265)=wb at hbb krb kub aM ⊢;have hgb:w.grownBy wb (some G):=Ej hbb _;have hob:=Co HO.o hbb;have p0:=BG hob hi AG Qs.o (j:=0) rfl;simp only [D6] at p0;have p1:=BG hob hi AG Qs.o (j:=1) rfl;have f1:=hob.frozenAt (i*5+1);obtain ⟨b1,b2,b3,fA,fn,fc,hbR,hm1,hm2,EI,hfs⟩:=(Gs.o.below (Cv hgb hlo Gp)).Hz;have r2:=hbR.cell 2;have lR:=hbR.lt;simp only [Ai,An,Aw] at r2;have hget:=Hy (CH s) p.head;obtain ⟨G8,Tc,HOB,AIR⟩:=CJ (EI.same (w':=wb.drew) rfl) hgb hob aM;clear hbb hgb hob hbR hm1 hm2 EI hfs aM;cases hix:idx (CH s) p.head with
 |
  none=>
  rw [hix] at hget;have Cl:AI (EK 151 5 CM base G n cap i cs lo M (Gb s p) w (B8 Bm) wb.drew):=
   AF (Dl (by unfold Gb;rw [hix]) (grown_drew Tc.o))
  have HF:=AF ((G5 b3 _ _ wb.drew G8.o hget).mono (R':=fun e w'=>e=B8 Bm/\w'=wb.drew) FT);clear hix hget;refine Dj 9 [0,1,2,3,4,5,6,7,8] (fun l=>l.take 9) AL rfl AL (fun d u c a h=>by cases d <;> exact h) ?_;simp only [FQ,Ee]
  repeat still_step
  refine FN ?_;refine ⟨_,200,#[.map (some b3),AN p.head],Bm,rfl,rfl,?_,HF.o,rfl,Cl.o⟩;go_simp
 |
  some a=>
  rw [hix] at hget;have IA:=AF hix;have hal:=Xm hix;have HF:=AF ((FY b3 _ _ (a:Int) wb.drew G8.o hget).mono (R':=fun e w'=>e=AV (AB AE a)/\w'=wb.drew) FT);clear hix hget;obtain ⟨xa,hxa⟩:∃x,s.Ap[a]? =some x:=⟨s.Ap[a]'(by simpa [CH] using hal),BJ _⟩;have dw:=AF hxa;clear hxa hal;refine wp_region_still_tail 12 AL AL ?_;simp only [FQ,Ee,JL,Ho]
  repeat still_step
  still_call HF.o
  repeat still_step
  refine FN ?_;change wpList _ _ _ _ _ wb.drew;go_upto_region 2 with fail;have ho2:=(HOB.o.stored (i*5+1) (AB AE a)).1.drew;have hga:w.grownBy (wb.setCell ⟨G,i*5+1,none⟩ (AB AE a)).drew (some G):=grown_drew (Cw Tc.o _ _);have Oy:(wb.setCell ⟨G,i*5+1,none⟩ (AB AE a)).drew.heap.size=w.heap.size+2:=by rw [<-AIR.o];simp [World.setCell]
  have ADt:wb.grownBy (wb.setCell ⟨G,i*5+1,none⟩ (AB AE a)).drew (some G):=grown_drew (Cw (DN _ _) _ _);have ADO:=ADt.cell krb BX;have ADN:=ADt.cell kub BX;have P5:chunk (cs.set (i*5+1) (AB AE a)) 5 i=[AN p.head,AB AE a,AA A1 n1 c1,AA A2 n2 c2,AA A3 n3 c3]:=by rw [El _ AG,Qs.o];rfl
  have hoth:∀j,j≠i->chunk (cs.set (i*5+1) (AB AE a)) 5 j=chunk cs 5 j:=fun j hj=>by rw [FM _ AG hj]
  generalize (wb.setCell ⟨G,i*5+1,none⟩ (AB AE a)).drew=wa at ho2 hga Oy ADO ADN ⊢;generalize cs.set (i*5+1) (AB AE a)=ca at ho2 P5 hoth;have hfw:BQ 8 96 DI wa (AA A1 n1 c1) p.froms:=(j5.o.mono FL (Cv hga hlo Gp)).Hz cm;have Qh:G < wa.heap.size:=by rw [Oy];omega
  have p2:=BG ho2 hi AG P5 (j:=2) rfl;have f2:=ho2.frozenAt (i*5+2);obtain ⟨TX,G9,T9,bB,CV,HFW⟩:=FR ho2 hga P5 hoth Oy (show BQ 8 96 DI wa.drew (AA A1 n1 c1) p.froms from hfw.mono FL (Af _ _).drew);have hne:¬G=w.heap.size+1:=AG
  clear ho2 hga ADt P5 hoth Oy hfw p0 p1 f1 r2 lR HF G8 HOB Tc AIR krb kub;apply fW (G:=fun vA vn vc w2=>∃cs1,w2.ownsRow base 151 5 (AA (some ⟨G,0,none⟩) n cap) n (ca.set (i*5+2) (AA vA vn vc))/\w2.ownsRow wa.heap.size 290 8 (AA vA vn vc) p.froms.length cs1/\Ao 8 DI w cs1 p.froms/\vn=p.froms.length/\
   w.grownBy w2 (some G)/\w2.cell? ⟨w.heap.size,0,none⟩=some (AU (some ⟨R,0,none⟩))/\w2.cell? ⟨w.heap.size+1,0,none⟩=some (AU (some ⟨G,i*5,none⟩))/\wa.heap.size<=w2.heap.size)
  ·go_region_law (first
    | (
     refine Qu DG 203 #[AA A1 n1 c1] (by go_simp) (lW A1 n1 c1 p.froms _ HFW.o) ?_;rintro e w1 ⟨v,cs1,rfl,hcs1,ho1,hb1⟩;refine ⟨_,rfl,?_⟩;obtain ⟨vA,vn,vc,rfl,hvn⟩:=GK ho1;have q2:w1.cell? ⟨G,i*5+2,none⟩=some (AA A1 n1 c1):=((Jg hb1).1 _ _ Qh).trans p2;have hf2:w1.frozen? ⟨G,i*5+2,none⟩=false:=((Jg hb1).2 _ _ Qh).trans f2;have kr1:w1.cell? ⟨w.heap.size,0,none⟩=some (AU (some ⟨R,0,none⟩)):=((Jg hb1).1 _ _ (by have:=CV.o;simp;omega)).trans ADO;have ku1:w1.cell? ⟨w.heap.size+1,0,none⟩=some (AU (some ⟨G,i*5,none⟩)):=((Jg hb1).1 _ _ (by have:=CV.o;simp;omega)).trans ADN;obtain ⟨Hl,Kl,HB1,LN⟩:=CJ ho1 hcs1 hb1 hvn;clear ho1 hcs1 hb1 hvn))
   all_goals
    have hg1:w.grownBy (w1.setCell ⟨G,i*5+2,none⟩ (AA vA vn vc)) (some G):=Cw (Ei (grown_drew G9.o) (Ej HB1.o _)) _ _;have hg2:w1.grownBy (w1.setCell ⟨G,i*5+2,none⟩ (AA vA vn vc)) (some G):=Cw (DN _ _) _ _;exact ⟨vA,vn,vc,rfl,cs1,((Co TX.o.drew HB1.o).stored (i*5+2) (AA vA vn vc)).1,Gz Hl.o Yx _,Kl.o,LN.o,hg1,hg2.cell kr1 BX,hg2.cell ku1 BX,by have:=HB1.o.size;simp [World.setCell] at this ⊢;exact this⟩
  rintro vA vn vc w2 ⟨cs1,ho2,hi2,hc1,hvn,hg2,kr2,ku2,hsz2⟩;have hcb:chunk (ca.set (i*5+2) (AA vA vn vc)) 5 i=[AN p.head,AB AE a,AA vA vn vc,AA A2 n2 c2,AA A3 n3 c3]:=by rw [El _ AG,T9.o];rfl
  have aO:∀j,j≠i->chunk (ca.set (i*5+2) (AA vA vn vc)) 5 j=chunk cs 5 j:=fun j hj=>by rw [FM _ AG hj];exact bB.o j hj
  generalize ca.set (i*5+2) (AA vA vn vc)=cb at ho2 hcb aO;have g2:=BG ho2 hi AG hcb (j:=2) rfl;obtain ⟨KU,HI2,Kl,LN,HG2,LV,qX⟩:=LW ho2 hi2 hc1 hvn hg2 hcb aO;clear ho2 hi2 hc1 hvn hg2 hcb aO bB T9 TX HFW ADO ADN p2 f2 hne;have hmm:=@run_makeMap prog;go_upto_region 5 with fail;clear hmm;have hbc:AJ w2 ((w2.alloc (.map #[] 0)).alloc (AQ #[.map (some w2.heap.size)] 260)):=(BP _ _).alloc Ac _;have hmc:MapAt Hu Gg ((w2.alloc (.map #[] 0)).alloc (AQ #[.map (some w2.heap.size)] 260)) w2.heap.size (varsOf []):=(MapAt.new Hu Gg w2).below (BP _ _);have uX:((w2.alloc (.map #[] 0)).alloc (AQ #[.map (some w2.heap.size)] 260)).cell? ⟨w2.heap.size+1,0,none⟩=some (.map (some w2.heap.size)):=MO
  have ADd:((w2.alloc (.map #[] 0)).alloc (AQ #[.map (some w2.heap.size)] 260)).heap.size=w2.heap.size+2:=Ac
  have hoc:=Co KU.o hbc;have hic:=Co HI2.o hbc;have hrb:RB w R G (i*5) w.heap.size (w.heap.size+1) (w2.heap.size+1) w2.heap.size ((w2.alloc (.map #[] 0)).alloc (AQ #[.map (some w2.heap.size)] 260)):=
   ⟨Ei HG2.o (Ej hbc _),(Jg hbc).1 _ _ fD |>.trans kr2,(Jg hbc).1 _ _ fD |>.trans ku2,uX⟩
  have gc2:=BG hoc hi AG LV.o (j:=2) rfl;have hfb:∀r,(Value.slice vA vn vc).ownBlock=some r->w.heap.size+2<=r/\r < w2.heap.size:=fun r e=>by have:=HI2.o.lt r e;have:=CV.o;omega
  have hwv:w.heap.size+2<=w2.heap.size:=by have:=CV.o;omega
  generalize (w2.alloc (.map #[] 0)).alloc (AQ #[.map (some w2.heap.size)] 260)=wc at hmc ADd hoc hic hrb gc2 ⊢;obtain ⟨vb,hvb⟩:=Ab w2.heap.size;rw [<-hvb] at hmc ADd hrb hfb hwv ⊢;have k1:=hrb.rb;have k2:=hrb.ub;have k3:=hrb.vv;obtain ⟨HMC,qZ,VG,Jh,qr⟩:=EG hmc hoc hic hrb hfb;have hsz3:w.heap.size+2=wa.heap.size:=CV.o.symm;have Gr:=AF hsz3;clear hmc hoc hic hrb hfb hbc uX kr2 ku2 g2 hsz2 ADd KU HI2 HG2 hsz3 CV hvb;go_wp2_with fail;clear k1 k2 k3 gc2;go_loopg [37] vn (fun q j wr=>∃(k:Nat) (out:List Br) (cr:List AK),k<=vn/\q=vn - k/\j=AB AE k/\EN (P8 s) p.froms k=some out/\RB w R G (i*5) w.heap.size (w.heap.size+1) (vb+1) vb wr/\wr.ownsRow base 151 5 (AA (some ⟨G,0,none⟩) n cap) n cb/\
   wr.ownsRow wa.heap.size 290 8 (AA vA vn vc) p.froms.length cr/\Ao 8 DI w cr (out++p.froms.drop k)/\MapAt Hu Gg wr vb (varsOf out)/\rB s out)
  case atStart=>exact ⟨0,[],cs1,Ar _,rfl,rfl,rfl,Jh.o,qZ.o,VG.o,Kl.o,HMC.o,fun f hf=>by simp at hf⟩
  clear Jh qZ VG Kl HMC;obtain ⟨k,out,cr,hk,hq,rfl,hto,hrb,hog,Gh,hcr,hmp,hok⟩:=hrel;obtain ⟨HQ,Db,I5⟩:=Az hq hto hok;clear hq hto hok;by_cases hlt:k < vn
  ·rcases JR Gh with ⟨h,h0⟩ | ⟨H,hcap,h,hH,hHw,hn2⟩
   · exact R2
   injection h with h1 h2 h3;subst h1 h3;clear h2;have wX:vn<=9223372036854775807:=by have:=LN.o;omega
   have hHb:=qr.o H rfl;obtain ⟨m,hm⟩:∃m,p.froms[k]? =some m:=⟨p.froms[k]' JU,BJ _⟩;have hlen:=Cq JU Db.o;have hat:(out++p.froms.drop k)[k]? =some m:=by rw [Cf AG,EC,hlen];simpa using hm
   have hch:chunk cr 8 k=_:=hcr.chunk hat;have Dy:wr.ownsRow wa.heap.size 290 8 (AA (some ⟨H,0,none⟩) vn vc) vn cr:=by have:=LN.o;rw [this] at Gh ⊢;exact Gh
   have e1:=BG Dy hlt AG hch (j:=1) rfl;have e2:=BG Dy hlt AG hch (j:=2) rfl;have f2:=Dy.frozenAt (k*8+2);have g2:=BG hog hi AG LV.o (j:=2) rfl;have k1:=hrb.rb;have k2:=hrb.ub;obtain ⟨b1',b2',b3',TN,fn',TM,Hv,_,_,pB,_⟩:=(Gs.o.below (Cv hrb.gr hlo Gp)).Hz;have s2:=Hv.cell 2;have lR':=Hv.lt;simp only [Ai,An,Aw] at s2;have hget:=Hy (CH s) m.kind;obtain ⟨G8,Jh,LP,LO,Te,TY,HM,HLEN,HAT⟩:=Po (pB.same (w':=wr.drew) rfl) hrb hog Dy hcr hmp hm hlen hat;clear hrb hog Gh Dy hcr hmp hm hlen hat hch Hv pB;have hkn:(k:Int) < (vn:Int):=AG
   have hk0:=Int.natCast_nonneg k
   go_upto_region 9 with fail;cases hix:idx (CH s) m.kind with
   |
    none=>
    rw [hix] at hget;have Cl:AI (EK 151 5 CM base G n cap i cs lo M (Gb s p) w (B8 Bm) wr.drew):=by refine Dl ?_ (grown_drew Jh.o.gr);unfold Gb;rw [IA.o];simp only;rw [En (k:=k+1) JU (FJ Db.o HM.o (by unfold P8;rw [hix]))]
    have HF:=AF ((G5 b3' _ _ wr.drew G8.o hget).mono (R':=fun e w'=>e=B8 Bm/\w'=wr.drew) FT);clear hix hget;refine Dj 9 [0,1,2,3,4,5,6,7,8] (fun l=>l.take 9) AL rfl AL (fun d u c a h=>by cases d <;> exact h) ?_;simp only [FQ,Ee]
    repeat still_step
    refine FN ?_;refine ⟨_,200,#[.map (some b3'),AN m.kind],Bm,rfl,rfl,?_,HF.o,rfl,Cl.o⟩;go_simp
   |
    some b=>
    rw [hix] at hget;obtain ⟨HF,Wf⟩:=Aj ((FY b3' _ _ (b:Int) wr.drew G8.o hget).mono (R':=fun e w'=>e=AV (AB AE b)/\w'=wr.drew) FT) hix;have hbl:=Xm hix;clear hix hget;obtain ⟨xb,hxb⟩:∃x,s.Ap[b]? =some x:=⟨s.Ap[b]'(by simpa [CH] using hbl),BJ _⟩;have HXB:=AF hxb;clear hxb hbl;refine wp_region_still_tail 12 AL AL ?_;simp only [FQ,Ee,JL,Ho]
    repeat still_step
    still_call HF.o
    repeat still_step
    refine FN ?_;change wpList _ _ _ _ _ wr.drew;go_upto_region 10 with fail;have hoq:=(LO.o.stored (k*8+2) (AB AE b)).1.drew;have hgq:wr.grownBy (wr.setCell ⟨H,k*8+2,none⟩ (AB AE b)).drew (some H):=grown_drew (Cw (DN _ _) _ _);have hcq:=ABy Te.o HAT.o (b:Int);generalize (wr.setCell ⟨H,k*8+2,none⟩ (AB AE b)).drew=wq at hoq hgq ⊢;generalize cr.set (k*8+2) (AB AE b)=cq at hoq hcq;have hrq:=Jh.o.far hgq AG AG AG AG;have N0:=LP.o.kept hgq (.inr Oh);have WN:MapAt Hu Gg wq vb (varsOf out):=TY.o.keeps (CN.grown hgq (fun x e=>by cases e;exact LM LO.o));have hkl:k < (out++p.froms.drop k).length:=(BA.1 HAT.o).1;have Lh:((out++p.froms.drop k).set k {m with schema:=(b:Int)})[k]? =some {m with schema:=(b:Int)}:=Gv hkl;have hck:chunk cq 8 k=_:=hcq.chunk Lh;have gq2:=BG N0 hi AG LV.o (j:=2) rfl;obtain ⟨Kk,YQ,Zm,T7,qi,Sv,Mr⟩:=LW hoq hcq hrq N0 WN Lh hck;clear hoq hcq hrq N0 WN hgq hkl Lh hck e1 e2 f2 g2 k1 k2 s2 lR' HF G8 Jh LP LO Te TY;go_wp2_with fail;have hnum:=cz (vb+1) w.heap.size (w.heap.size+1) vb R G (i*5) H vn vc wa.heap.size 8 H vn vc (k*8+3) 290 cq s (varsOf out) out m.Av wq Zm.o.vv AG Zm.o.rb AG Zm.o.ub AG (fun _=>gq2) AG qi.o (nw Gs.o Zm.o.gr hlo Gp AG)
     (fun v hv=>by
      obtain ⟨n',rfl,hn',f,hf,_⟩:=S6 out _ _ v hv;obtain ⟨a',sc,ha',hs'⟩:=I5.o f (Ci hf);have hl:=HLEN.o;have AKG:((out++p.froms.drop k).set k {m with schema:=(b:Int)})[n']? =some f:=by rw [JM AG,EF AG];exact hf
      have hcn:chunk cq 8 n'=_:=YQ.o.chunk AKG;refine ⟨n',a',f,sc,rfl,by omega,wX,hf,ha',hs',?_,.inr AG⟩;have:=BG Kk.o (show n' < vn by omega) AG hcn (j:=2) rfl;rw [ha'] at this;exact this)
     Kk.o (Em Mr.o AG rfl) (Em Mr.o AG (j:=4) rfl) (Em Mr.o AG (j:=5) rfl) (Em Mr.o AG (j:=6) rfl)
    refine hnum.mono ?_;clear hnum;rintro e w' ⟨hg',hr⟩;cases htp:Gl s (varsOf out) out m.Av with
    |
     none=>
     rw [htp] at hr;subst hr;have Cl:AI (EK 151 5 CM base G n cap i cs lo M (Gb s p) w (B8 Bm) w'):=by refine Dl ?_ (OU Zm.o.gr hg' AG);unfold Gb;rw [IA.o];simp only;rw [En (k:=k+1) JU (FJ Db.o HM.o tW)]
     clear htp hg'
     go_wp2
     exact ⟨rfl,Cl.o⟩
    |
     some t'=>
     rw [htp] at hr;obtain ⟨rfl,ho'⟩:=hr;have hr':=Zm.o.far hg' AG AG AG AG;have aP:=T7.o.kept hg' (.inr Oh);have hm':MapAt Hu Gg w' vb (varsOf out):=qi.o.keeps (CN.grown hg' (fun x e=>by cases e;exact LM Kk.o));have hc':=ABx YQ.o Sv.o t' (RI htp);rw [Hp] at hc';have hat':((out++p.froms.drop k).set k {m with schema:=(b:Int),Av:=t'})[k]? =some {m with schema:=(b:Int),Av:=t'}:=Gv (BA.1 HAT.o).1;have Xq:chunk _ 8 k=_:=hc'.chunk hat';have d0:=BG ho' hlt AG Xq (j:=0) rfl;simp only [D6] at d0;have k3:=hr'.vv;obtain ⟨w3,hrun3,EI,hg3⟩:=FG (DB underlying9) underlying260 (hm'.same (w':=w'.drew) rfl) m.name (k:Int);have hr3:=hr'.drew.far hg3 AG AG AG AG;have AHS:=aP.drew.kept hg3 (.inr Oh);have ho3:=ho'.drew.kept hg3 (.inr Oh);have HST:AI (P8 s out m=some {m with schema:=(b:Int),Av:=t'}):=AF tW;obtain ⟨HC',HR3,AKp,JD,G8⟩:=EG hc' hr3 AHS ho3 EI;clear hr' aP hm' hc' hat' Xq ho' hg' hg3 hr3 AHS ho3 EI htp Zm T7 Kk qi YQ gq2 Sv Mr;go_wp2_with fail
     go_still_tail 6,AL
     change wpList _ _ _ _ _ w'.drew;go_wp2;go_roundg (vn - (k+1))
     case measure=>exact Bc
     refine ⟨k+1,out++[{m with schema:=(b:Int),Av:=t'}],(cq.set (k*8+3+2) (AB AE t'.var)).set (k*8+3+3) (AB AE t'.field),by omega,rfl,by go_num,Fc Db.o HM.o HST.o,HR3.o,AKp.o,?_,?_,?_,?_⟩
     rotate_left 1
     · rw [<-set_drop HLEN.o HM.o];exact HC'.o
     · rw [rH,HLEN.o];exact G8.o
     ·intro f hf
      rw [Jq,Fk] at hf;rcases hf with hf | rfl
      · exact I5.o f hf
      · exact ⟨b,xb,rfl,HXB.o⟩
     · have h3:=JD.o;have:=LN.o;rw [this] at h3 ⊢;exact h3
  have hke:k=p.froms.length:=by have:=LN.o;omega
  have hcf:Ao 8 DI w cr out:=by rw [hke,Js,EU] at hcr;exact hcr
  have j6:AI (Fv (P8 s) p.froms=some out):=AF tA;obtain ⟨wz,rfl⟩:=Ab wr;have hol:out.length=vn:=by rw [Cq AG Db.o];have:=LN.o;omega
  have Dy:wz.ownsRow wa.heap.size 290 8 (AA vA vn vc) vn cr:=by have:=LN.o;rw [this] at Gh ⊢;exact Gh
  have jT:G < wz.heap.size:=Ay Uy hrb.gr.size;have hvz:vb+1 < wz.heap.size:=by
   have:=hrb.vv;rcases Ez (vb+1) wz.heap.size with h | h
   · exact h
   · simp [World.cell?,Array.getElem?_eq_none h] at this
  have g3:=BG hog hi AG LV.o (j:=3) rfl;have fg3:=hog.frozenAt (i*5+3);have k2:=hrb.ub;obtain ⟨jj,Jh,LP,LO,qu,TY,HOL,HVZ⟩:=Wy (show BQ 11 120 EQ wz.drew (AA A2 n2 c2) p.DQ from ((dy.o.mono Gi (Cv hrb.gr hlo Gp)).Hz cn).mono Gi (Af _ _).drew) hrb hog Dy hcf hmp hol hvz;clear hrb hog Gh Dy hcr hcf hmp Db HQ hol hvz;go_upto_region 13 with fail;apply fW (G:=fun xA xn xc w4=>∃da,RB w R G (i*5) w.heap.size (w.heap.size+1) (vb+1) vb w4/\w4.ownsRow base 151 5 (AA (some ⟨G,0,none⟩) n cap) n (cb.set (i*5+3) (AA xA xn xc))/\w4.ownsRow wz.heap.size 273 11 (AA xA xn xc) p.DQ.length da/\Ao 11 EQ w da p.DQ/\xn=p.DQ.length/\
   w4.ownsRow wa.heap.size 290 8 (AA vA vn vc) vn cr/\MapAt Hu Gg w4 vb (varsOf out)/\wz.heap.size<=w4.heap.size)
  ·go_region_law (first
    | (
     refine Qu DG 205 #[AA A2 n2 c2] (by go_simp) (lX A2 n2 c2 p.DQ _ jj.o) ?_;rintro e w1 ⟨v,da,rfl,hcs1,ho1,hb1⟩;refine ⟨_,rfl,?_⟩;obtain ⟨xA,xn,xc,rfl,hxn⟩:=GK ho1;have q2:w1.cell? ⟨G,i*5+3,none⟩=some (AA A2 n2 c2):=((Jg hb1).1 _ _ jT).trans g3;have hf2:w1.frozen? ⟨G,i*5+3,none⟩=false:=((Jg hb1).2 _ _ jT).trans fg3;have ku1:=((Jh.o.drew).below hb1).ub;obtain ⟨Hl,PR,HB1,PU⟩:=CJ ho1 hcs1 hb1 hxn;clear ho1 hcs1 hb1 hxn))
   all_goals
    have hg2:w1.grownBy (w1.setCell ⟨G,i*5+3,none⟩ (AA xA xn xc)) (some G):=Cw (DN _ _) _ _;exact ⟨xA,xn,xc,rfl,da,((Jh.o.drew).below HB1.o).near hg2 AG AG AG,((Co LP.o.drew HB1.o).stored (i*5+3) (AA xA xn xc)).1,Gz Hl.o (by simpa using jT) _,PR.o,PU.o,(Co LO.o.drew HB1.o).kept hg2 (.inr (fun e=>by have:=(qr.o _ e).1;omega)),
     ((TY.o.same (w':=wz.drew) rfl).below HB1.o).keeps (CN.put _ _ _),by have:=HB1.o.size;simp [World.setCell] at this ⊢;exact this⟩
  rintro xA xn xc w4 ⟨da,hr4,Oz,SZ,hc4,hxn,o6,hm4,hz4⟩;have hcc:chunk (cb.set (i*5+3) (AA xA xn xc)) 5 i=[AN p.head,AB AE a,AA vA vn vc,AA xA xn xc,AA A3 n3 c3]:=by rw [El _ AG,LV.o];rfl
  have aN:∀j,j≠i->chunk (cb.set (i*5+3) (AA xA xn xc)) 5 j=chunk cs 5 j:=fun j hj=>by rw [FM _ AG hj];exact qX.o j hj
  generalize cb.set (i*5+3) (AA xA xn xc)=cc at Oz hcc aN;have g3':=BG Oz hi AG hcc (j:=3) rfl;have ku4:=hr4.ub;have hzz:vb+1 < wz.heap.size:=HVZ.o;obtain ⟨HR4,YK,Qq,PR,PU,qY,HM4,ES,ye⟩:=Po hr4 Oz SZ hc4 hxn o6 hm4 hcc aN;clear hr4 Oz SZ hc4 hxn o6 hm4 hcc aN Jh LP LO TY LV qX g3 fg3 k2 jj dy;go_wp2_with fail;clear g3' ku4;go_loopg [83] xn (fun q j wr=>∃(k:Nat) (ou:List Gf) (ja:List AK),k<=xn/\q=xn - k/\j=AB AE k/\EN (fun _=>QD s out) p.DQ k=some ou/\RB w R G (i*5) w.heap.size (w.heap.size+1) (vb+1) vb wr/\wr.ownsRow base 151 5 (AA (some ⟨G,0,none⟩) n cap) n cc/\
   wr.ownsRow wz.heap.size 273 11 (AA xA xn xc) p.DQ.length ja/\Ao 11 EQ w ja (ou++p.DQ.drop k)/\wr.ownsRow wa.heap.size 290 8 (AA vA vn vc) vn cr/\MapAt Hu Gg wr vb (varsOf out))
  case atStart=>exact ⟨0,[],da,Ar _,rfl,rfl,rfl,HR4.o,YK.o,Qq.o,PR.o,qY.o,HM4.o⟩
  clear HR4 YK Qq PR qY HM4;obtain ⟨k',ou,ja,hk',hq',rfl,oy,hrb,hog,Gh,hcr2,hof,hmp⟩:=hrel;obtain ⟨HQ,Db⟩:=Aj hq' oy;clear hq' oy;by_cases hlt':k' < xn
  ·rcases JR Gh with ⟨h,h0⟩ | ⟨H,hcap,h,hH,hHw,hn2⟩
   · exact R2
   injection h with h1 h2 h3;subst h1 h3;clear h2;have AJj:xn<=9223372036854775807:=by have:=PU.o;omega
   obtain ⟨m,hm⟩:∃m,p.DQ[k']? =some m:=⟨p.DQ[k']' Ru,BJ _⟩;have hlen:=Cq Ru Db.o;have hat:(ou++p.DQ.drop k')[k']? =some m:=by rw [Cf AG,EC,hlen];simpa using hm
   have hch:chunk ja 11 k'=_:=hcr2.chunk hat;have Dy:wr.ownsRow wz.heap.size 273 11 (AA (some ⟨H,0,none⟩) xn xc) xn ja:=by have:=PU.o;rw [this] at Gh ⊢;exact Gh
   have g2:=BG hog hi AG ES.o (j:=2) rfl;have g3:=BG hog hi AG ES.o (j:=3) rfl;have k2:=hrb.ub;have hnF:∀r,(Value.slice vA vn vc).ownBlock=some r->r≠H:=fun r e=>by have:=(qr.o r e).2;omega
   obtain ⟨Hm,VE,Jh,LP,LO,Te,PJ,TY,HM,HLEN,HAT⟩:=vV hnF (Vd (ot:=k'*11+1) (t:=m.a) hrb g2 hof qu.o HOL.o I5.o hmp Gs.o hlo Gp AG AG AG AG AG hnF Dy (Em hch AG (j:=1) rfl) (Em hch AG (j:=2) rfl) (Em hch AG (j:=3) rfl) (Em hch AG (j:=4) rfl)) hrb hog Dy hcr2 hof hmp hm hlen hat;clear hrb hog Gh Dy hcr2 hof hmp hm hlen hat hch hnF;have hkn:(k':Int) < (xn:Int):=AG
   have hk0:(0:Int)<=(k':Int):=AG
   go_wp2_with fail;refine VE.o.mono ?_;rintro e w' ⟨hg',hr⟩;have KJ:(Gl s (varsOf out) out m.a=none\/Gl s (varsOf out) out m.b=none)->Gb s p=none:=fun hh=>by
    unfold Gb;rw [IA.o];simp only;rw [j6.o];simp only;rw [En (k:=k'+1) Ru (FJ Db.o HM.o (by
     unfold QD;rcases hh with hh | hh
     · rw [hh]
     · rw [hh];cases Gl s (varsOf out) out m.a <;> rfl))]
   have NE:=AF KJ;clear KJ VE;cases htp:Gl s (varsOf out) out m.a with
   |
    none=>
    rw [htp] at hr;subst hr;have Cl:AI (EK 151 5 CM base G n cap i cs lo M (Gb s p) w (B8 Bm) w'):=AF (Dl (NE.o (.inl htp)) (OU Jh.o.gr hg' AG));clear htp hg'
    go_wp2
    exact ⟨rfl,Cl.o⟩
   |
    some t'=>
    rw [htp] at hr;obtain ⟨rfl,ho'⟩:=hr;have hr':=Jh.o.far hg' AG AG AG AG;have aP:=LP.o.kept hg' (.inr Oh);have ADn:=PJ.o.kept hg' (.inr (fun e=>Hm.o _ e rfl));have hm':MapAt Hu Gg w' vb (varsOf out):=TY.o.keeps (CN.grown hg' (fun x e=>by cases e;exact LM LO.o));have hc':=ACJ Te.o HAT.o t' (RI htp);have hat':((ou++p.DQ.drop k').set k' {m with a:=t'})[k']? =some {m with a:=t'}:=Gv (BA.1 HAT.o).1;have Xq:chunk _ 11 k'=_:=hc'.chunk hat';have g2':=BG aP hi AG ES.o (j:=2) rfl;have g3':=BG aP hi AG ES.o (j:=3) rfl;have k2':=hr'.ub;obtain ⟨Zo,eB,HR',AKq,AKs,HM',HC',ALV,qf⟩:=Po (Vd (ot:=k'*11+6) (t:=m.b) hr' g2' ADn qu.o HOL.o I5.o hm' Gs.o hlo Gp AG AG AG AG AG Hm.o ho' (Em Xq AG (j:=6) rfl) (Em Xq AG (j:=7) rfl) (Em Xq AG (j:=8) rfl) (Em Xq AG (j:=9) rfl)) htp hr' aP ADn hm' hc' hat' ho';clear hr' aP ADn hm' hc' hat' Xq htp ho' hg' g2 g3 k2 Jh LP PJ TY Te LO;go_wp2_with fail;refine Zo.o.mono ?_;rintro e w'' ⟨hg'',hr⟩;clear Zo;cases htp:Gl s (varsOf out) out m.b with
    |
     none=>
     rw [htp] at hr;subst hr;have Cl:AI (EK 151 5 CM base G n cap i cs lo M (Gb s p) w (B8 Bm) w''):=AF (Dl (NE.o (.inr htp)) (OU HR'.o.gr hg'' AG));clear htp hg''
     go_wp2
     exact ⟨rfl,Cl.o⟩
    |
     some t''=>
     rw [htp] at hr;obtain ⟨rfl,AHY⟩:=hr;have hc'':=ACI HC'.o ALV.o t'' (RI htp);rw [Hp] at hc'';have HST:AI (QD s out m=some {m with a:=t',b:=t''}):=AF (by unfold QD;rw [eB.o,htp]);obtain ⟨ALK,AKw,yr⟩:=Az hc'' AHY hg'';clear hc'' AHY hg'' htp g2' g3' k2';go_wp2;go_roundg (xn - (k'+1))
     case measure=>exact Bc
     refine ⟨k'+1,ou++[{m with a:=t',b:=t''}],_,by omega,rfl,by go_num,Fc Db.o HM.o HST.o,HR'.o.far yr.o AG AG AG AG,AKq.o.kept yr.o (.inr Oh),?_,by rw [<-set_drop HLEN.o HM.o];exact ALK.o,AKs.o.kept yr.o (.inr (fun e=>Hm.o _ e rfl)),HM'.o.keeps (CN.grown yr.o (fun x e=>by cases e;exact LM qf.o))⟩;have h3:=AKw.o;have:=PU.o;rw [this] at h3 ⊢;exact h3
  have aR:k'=p.DQ.length:=by have:=PU.o;omega
  have hca:Ao 11 EQ w ja ou:=by rw [aR,Js,EU] at hcr2;exact hcr2
  have HAO:AI (Fv (fun _=>QD s out) p.DQ=some ou):=AF (by unfold Fv;rw [<-aR];exact Db.o);obtain ⟨wy,rfl⟩:=Ab wr;have hal2:ou.length=xn:=by rw [Cq AG Db.o];have:=PU.o;omega
  have hGy:G < wy.heap.size:=Ay Uy hrb.gr.size;have hvy:vb+1 < wy.heap.size:=by
   have:=hrb.vv;rcases Ez (vb+1) wy.heap.size with h | h
   · exact h
   · simp [World.cell?,Array.getElem?_eq_none h] at this
  have hxb:∀r,(Value.slice xA xn xc).ownBlock=some r->wz.heap.size<=r/\r < wy.heap.size:=fun r e=>Gh.lt r e;have g4:=BG hog hi AG ES.o (j:=4) rfl;have fg4:=hog.frozenAt (i*5+4);have k2:=hrb.ub;obtain ⟨jj,Jh,LP,LO,HCA,PJ,TY,HAL,HVY,HXB⟩:=bw (show BQ 7 80 Gc wy.drew (AA A3 n3 c3) p.sets from ((TV.o.mono IE (Cv hrb.gr hlo Gp)).Hz jA).mono IE (Af _ _).drew) hrb hog Gh hca hof hmp hal2 hvy hxb;clear hrb hog Gh hcr2 hca hof hmp Db HQ hal2 hvy hxb;go_upto_region 20 with fail;apply fW (G:=fun yA yn yc w4=>∃Ng,RB w R G (i*5) w.heap.size (w.heap.size+1) (vb+1) vb w4/\w4.ownsRow base 151 5 (AA (some ⟨G,0,none⟩) n cap) n (cc.set (i*5+4) (AA yA yn yc))/\w4.ownsRow wy.heap.size 276 7 (AA yA yn yc) p.sets.length Ng/\Ao 7 Gc w Ng p.sets/\yn=p.sets.length/\
   w4.ownsRow wa.heap.size 290 8 (AA vA vn vc) vn cr/\MapAt Hu Gg w4 vb (varsOf out)/\w4.ownsRow wz.heap.size 273 11 (AA xA xn xc) p.DQ.length ja/\wy.heap.size<=w4.heap.size)
  ·go_region_law (first
    | (
     refine Qu DG 206 #[AA A3 n3 c3] (by go_simp) (py A3 n3 c3 p.sets _ jj.o) ?_;rintro e w1 ⟨v,Ng,rfl,hcs1,ho1,hb1⟩;refine ⟨_,rfl,?_⟩;obtain ⟨yA,yn,yc,rfl,hyn⟩:=GK ho1;have q2:w1.cell? ⟨G,i*5+4,none⟩=some (AA A3 n3 c3):=((Jg hb1).1 _ _ hGy).trans g4;have hf2:w1.frozen? ⟨G,i*5+4,none⟩=false:=((Jg hb1).2 _ _ hGy).trans fg4;have ku1:=((Jh.o.drew).below hb1).ub;obtain ⟨Hl,PR,HB1,qO⟩:=CJ ho1 hcs1 hb1 hyn;clear ho1 hcs1 hb1 hyn))
   all_goals
    have hg2:w1.grownBy (w1.setCell ⟨G,i*5+4,none⟩ (AA yA yn yc)) (some G):=Cw (DN _ _) _ _;exact ⟨yA,yn,yc,rfl,Ng,((Jh.o.drew).below HB1.o).near hg2 AG AG AG,((Co LP.o.drew HB1.o).stored (i*5+4) (AA yA yn yc)).1,Gz Hl.o (by simpa using hGy) _,PR.o,qO.o,(Co PJ.o.drew HB1.o).kept hg2 (.inr (fun e=>by have:=(qr.o _ e).1;omega)),
     ((TY.o.same (w':=wy.drew) rfl).below HB1.o).keeps (CN.put _ _ _),(Co LO.o.drew HB1.o).kept hg2 (.inr (fun e=>by have:=(HXB.o _ e).1;omega)),by have:=HB1.o.size;simp [World.setCell] at this ⊢;exact this⟩
  rintro yA yn yc w4 ⟨Ng,hr4,Oz,SZ,hc4,hyn,o6,hm4,AHW,hz4⟩;have hcd:chunk (cc.set (i*5+4) (AA yA yn yc)) 5 i=[AN p.head,AB AE a,AA vA vn vc,AA xA xn xc,AA yA yn yc]:=by rw [El _ AG,ES.o];rfl
  have ADj:∀j,j≠i->chunk (cc.set (i*5+4) (AA yA yn yc)) 5 j=chunk cs 5 j:=fun j hj=>by rw [FM _ AG hj];exact ye.o j hj
  generalize cc.set (i*5+4) (AA yA yn yc)=cd at Oz hcd ADj;have g4':=BG Oz hi AG hcd (j:=4) rfl;have ku4:=hr4.ub;have hyy:vb+1 < wy.heap.size:=HVY.o;obtain ⟨HR4,YK,Qq,PR,qO,qY,HM4,AIb,qv,AKo⟩:=bw hr4 Oz SZ hc4 hyn o6 hm4 AHW hcd ADj;clear hr4 Oz SZ hc4 hyn o6 hm4 AHW hcd ADj Jh LP LO PJ TY ES ye g4 fg4 k2 jj;go_wp2_with fail;clear g4' ku4;go_loopg [118] yn (fun q j wr=>∃(k:Nat) (ov:List Kf) (cr3:List AK),k<=yn/\q=yn - k/\j=AB AE k/\EN (fun _=>Un s xa out) p.sets k=some ov/\RB w R G (i*5) w.heap.size (w.heap.size+1) (vb+1) vb wr/\wr.ownsRow base 151 5 (AA (some ⟨G,0,none⟩) n cap) n cd/\
   wr.ownsRow wy.heap.size 276 7 (AA yA yn yc) p.sets.length cr3/\Ao 7 Gc w cr3 (ov++p.sets.drop k)/\wr.ownsRow wa.heap.size 290 8 (AA vA vn vc) vn cr/\MapAt Hu Gg wr vb (varsOf out)/\wr.ownsRow wz.heap.size 273 11 (AA xA xn xc) p.DQ.length ja)
  case atStart=>exact ⟨0,[],Ng,Ar _,rfl,rfl,rfl,HR4.o,YK.o,Qq.o,PR.o,qY.o,HM4.o,AIb.o⟩
  clear HR4 YK Qq PR qY HM4 AIb;obtain ⟨k2,ov,cr3,hk2,hq2,rfl,Xo,hrb,hog,Gh,hcr3,hof,hmp,hoa⟩:=hrel;obtain ⟨HQ,Db⟩:=Aj hq2 Xo;clear hq2 Xo;by_cases hlt2:k2 < yn
  ·rcases JR Gh with ⟨h,h0⟩ | ⟨H,hcap,h,hH,hHw,hn2⟩
   · exact R2
   injection h with h1 h2 h3;subst h1 h3;clear h2;have AMn:yn<=9223372036854775807:=by have:=qO.o;omega
   obtain ⟨m,hm⟩:∃m,p.sets[k2]? =some m:=⟨p.sets[k2]' fC,BJ _⟩;have hlen:=Cq fC Db.o;have hat:(ov++p.sets.drop k2)[k2]? =some m:=by rw [Cf AG,EC,hlen];simpa using hm
   have hch:chunk cr3 7 k2=_:=hcr3.chunk hat;have Dy:wr.ownsRow wy.heap.size 276 7 (AA (some ⟨H,0,none⟩) yn yc) yn cr3:=by have:=qO.o;rw [this] at Gh ⊢;exact Gh
   have e0:=BG Dy hlt2 AG hch (j:=0) rfl;simp only [D6] at e0;have e1:=BG Dy hlt2 AG hch (j:=1) rfl;have f1:=Dy.frozenAt (k2*7+1);have g1:=BG hog hi AG qv.o (j:=1) rfl;have g4:=BG hog hi AG qv.o (j:=4) rfl;have kr:=hrb.rb;have ku:=hrb.ub;obtain ⟨b1',b2',b3',TN,fl,TM,Hv,_,_,_,Kd⟩:=(Gs.o.below (Cv hrb.gr hlo Gp)).Hz;have s3:=Hv.cell 3;have lR':=Hv.lt;simp only [Ai,An,Aw] at s3;have AD8:a < fl:=by have:=Kd.len;rw [this,CX];exact (BA.1 dw.o).1
   have AHk:fl<=9223372036854775807:=by have:=Kd.le;omega
   obtain ⟨fb,pV,fm,fg,rfl,hfb,hfm,hfc,MI⟩:=Ut Kd AD8;have hfx:fm=fieldMap xa:=by rw [Be,dw.o,Cu,Bq] at hfm;exact hfm.symm
   subst hfx;have hget:=Hy (fieldNames xa) m.path;have Wh:=AF (MI.same (w':=wr.drew) rfl);have hnF:∀r,(Value.slice vA vn vc).ownBlock=some r->r≠H:=fun r e=>by have:=(qr.o r e).2;omega
   have hnA:∀r,(Value.slice xA xn xc).ownBlock=some r->r≠H:=fun r e=>by have:=(HXB.o r e).2;omega
   obtain ⟨Hm,HNA,Jh,LP,LO,Te,PJ,TY,TX,HM,HLEN,HAT⟩:=RG hnF hnA hrb hog Dy hcr3 hof hmp hoa hm hlen hat;clear hrb hog Gh Dy hcr3 hof hmp hoa hm hlen hat hch hnF hnA Kd hfm MI Hv;have hkn:(k2:Int) < (yn:Int):=AG
   have hk0:(0:Int)<=(k2:Int):=AG
   have ha0:(0:Int)<=(a:Int):=AG
   have han:(a:Int) < (fl:Int):=AG
   have KJ:(idx (fieldNames xa) m.path=none\/Gl s (varsOf out) out m.term=none)->Gb s p=none:=fun hh=>by
    unfold Gb;rw [IA.o];simp only;rw [j6.o];simp only;rw [HAO.o];simp only;rw [dw.o];simp only;rw [En (k:=k2+1) fC (FJ Db.o HM.o (by
     unfold Un;rcases hh with hh | hh
     · rw [hh]
     · rw [hh];cases idx (fieldNames xa) m.path <;> rfl))]
   have NE:=AF KJ;clear KJ;go_upto_region 24 with fail;cases hix:idx (fieldNames xa) m.path with
   |
    none=>
    rw [hix] at hget;have Cl:AI (EK 151 5 CM base G n cap i cs lo M (Gb s p) w (B8 Bm) wr.drew):=AF (Dl (NE.o (.inl hix)) (grown_drew Jh.o.gr));have HF:=AF ((G5 fg _ _ wr.drew Wh.o hget).mono (R':=fun e w'=>e=B8 Bm/\w'=wr.drew) FT);clear hix hget;refine Dj 23 [0,1,2,3,4,5,6,7,8,9,10,11,12,13,14,15,16,17,18,19,20,21,22] (fun l=>l.take 23) AL rfl AL (fun d u c a h=>by cases d <;> exact h) ?_;simp only [FQ,Ee]
    repeat still_step
    refine FN ?_;refine ⟨_,200,#[.map (some fg),AN m.path],Bm,rfl,rfl,?_,HF.o,rfl,Cl.o⟩;go_simp
   |
    some f=>
    rw [hix] at hget;obtain ⟨HF,HIF⟩:=Aj ((FY fg _ _ (f:Int) wr.drew Wh.o hget).mono (R':=fun e w'=>e=AV (AB AE f)/\w'=wr.drew) FT) hix;clear hix hget;refine wp_region_still_tail 26 AL AL ?_;simp only [FQ,Ee,JL,Ho]
    repeat still_step
    still_call HF.o
    repeat still_step
    refine FN ?_;change wpList _ _ _ _ _ wr.drew;go_upto_region 25 with fail;have hoq:=(LO.o.stored (k2*7+1) (AB AE f)).1.drew;have hgq:wr.grownBy (wr.setCell ⟨H,k2*7+1,none⟩ (AB AE f)).drew (some H):=grown_drew (Cw (DN _ _) _ _);have hcq:=ACq Te.o HAT.o (f:Int);generalize (wr.setCell ⟨H,k2*7+1,none⟩ (AB AE f)).drew=wq at hoq hgq ⊢;generalize cr3.set (k2*7+1) (AB AE f)=cq at hoq hcq;have hrq:=Jh.o.far hgq AG AG AG AG;have N0:=LP.o.kept hgq (.inr Oh);have ADk:=PJ.o.kept hgq (.inr (fun e=>Hm.o _ e rfl));have AHV:=TX.o.kept hgq (.inr (fun e=>HNA.o _ e rfl));have WN:MapAt Hu Gg wq vb (varsOf out):=TY.o.keeps (CN.grown hgq (fun x e=>by cases e;exact LM LO.o));have Lh:((ov++p.sets.drop k2).set k2 {m with field:=(f:Int)})[k2]? =some {m with field:=(f:Int)}:=Gv (BA.1 HAT.o).1;have hck:chunk cq 7 k2=_:=hcq.chunk Lh;have gq2:=BG N0 hi AG qv.o (j:=2) rfl;have gq4:=BG N0 hi AG qv.o (j:=4) rfl;have kuq:=hrq.ub;obtain ⟨VE,Kk,YQ,Zm,T7,AKr,AKu,qi,Sv⟩:=Po (Vd (ot:=k2*7+2) (t:=m.term) hrq gq2 ADk qu.o HOL.o I5.o WN Gs.o hlo Gp AG AG AG AG AG Hm.o hoq (Em hck AG (j:=2) rfl) (Em hck AG (j:=3) rfl) (Em hck AG (j:=4) rfl) (Em hck AG (j:=5) rfl)) hoq hcq hrq N0 ADk AHV WN Lh;clear hoq hcq hrq N0 ADk AHV WN hgq Lh hck e0 e1 f1 g1 g4 kr ku s3 lR' HF Wh Jh LP LO Te TY PJ TX gq2 hfc;go_wp2_with fail;refine VE.o.mono ?_;rintro e w' ⟨hg',hr⟩;clear VE;cases htp:Gl s (varsOf out) out m.term with
    |
     none=>
     rw [htp] at hr;subst hr;have Cl:AI (EK 151 5 CM base G n cap i cs lo M (Gb s p) w (B8 Bm) w'):=AF (Dl (NE.o (.inr htp)) (OU Zm.o.gr hg' AG));clear htp hg'
     go_wp2
     exact ⟨rfl,Cl.o⟩
    |
     some t'=>
     rw [htp] at hr;obtain ⟨rfl,ho'⟩:=hr;have hc':=ACp YQ.o Sv.o t' (RI htp);rw [Hp] at hc';have HST:AI (Un s xa out m=some {m with field:=(f:Int),term:=t'}):=AF (by unfold Un;rw [HIF.o,htp]);obtain ⟨HC',qf,HG'⟩:=Az hc' ho' hg';clear hc' ho' hg' htp gq4 kuq;go_wp2;go_roundg (yn - (k2+1))
     case measure=>exact Bc
     refine ⟨k2+1,ov++[{m with field:=(f:Int),term:=t'}],_,by omega,rfl,by go_num,Fc Db.o HM.o HST.o,Zm.o.far HG'.o AG AG AG AG,T7.o.kept HG'.o (.inr Oh),?_,by rw [<-set_drop HLEN.o HM.o];exact HC'.o,AKr.o.kept HG'.o (.inr (fun e=>Hm.o _ e rfl)),qi.o.keeps (CN.grown HG'.o (fun x e=>by cases e;exact LM Kk.o)),AKu.o.kept HG'.o (.inr (fun e=>HNA.o _ e rfl))⟩;have h3:=qf.o;have:=qO.o;rw [this] at h3 ⊢;exact h3
  have hke2:k2=p.sets.length:=by have:=qO.o;omega
  go_wp2_with fail
  go_end0
  have hP:Gb s p=some {p with schema:=(a:Int),froms:=out,DQ:=ou,sets:=ov}:=by unfold Gb;rw [IA.o];simp only;rw [j6.o];simp only;rw [HAO.o];simp only;rw [dw.o];simp only;unfold Fv;rw [<-hke2,Db.o]
  have hs3:=Gr.o;refine QJ hP hrb.gr hog AKo.o ⟨vA,vn,vc,xA,xn,xc,yA,yn,yc,qv.o,⟨CP (Lb hof AG) ⟨qu.o.1,qu.o.2⟩ HOL.o.symm,?_⟩,⟨CP (Lb hoa AG) ⟨HCA.o.1,HCA.o.2⟩ (by rw [HAL.o,PU.o]),?_⟩,⟨CP (Lb Gh AG) ?_ (by rw [Cq AG Db.o,hke2]),?_⟩⟩
  · have:=j5.o.2;rw [HOL.o,LN.o];exact this
  · have:=CY.o;rw [HAL.o,PU.o];exact this
  ·rw [hke2,Js,EU] at hcr3
   exact ⟨hcr3.1,hcr3.2⟩
  · have:=TV.o.2;rw [Cq AG Db.o,hke2];exact this
section
variable {P:BB} {ops:Array Oper} {md:Region.Mode} {w:AH} {Q:Exit->Act->AH->Prop}
def VS (md:Region.Mode) (ops:Array Oper) (n:Nat) (E:List Nat):Bool:=
 (List.range n).all fun i=>E.contains i || (List.range (n+1)).any fun j=>decide (i < j) && !E.contains j && Region.waitsFor md ops j i
def U3 (md:Region.Mode) (ops:Array Oper) (n:Nat):Bool:=(List.range ops.size).all fun t=>decide (t<=n) || Region.waitsFor md ops t (t - 1)
structure TU (md:Region.Mode) (ops:Array Oper) (n:Nat) (E:List Nat) (listed:Array Bool):Prop where
 size:listed.size=ops.size
 closed:∀(j:Nat) (oj:Oper),ops[j]? =some oj->listed.getD j false=true->∀e∈oj.after,Region.binds md e=true->listed.getD e.on false=true
 tail:∀t,n<=t->t < ops.size->listed.getD t true=false
 float:∀i∈E,listed.getD i false=true
theorem TU.set {n i:Nat} {E:List Nat} {listed:Array Bool} (inv:TU md ops n E listed) (hi:i∈Region.ready md ops listed) (hin:i < n):TU md ops n E (listed.setIfInBounds i true):=by
 obtain ⟨_,oi,hoi,hall⟩:=JG.1 hi;refine ⟨by simp [inv.size],fun j oj hj hl e he hb=> ?_,fun t ht ht'=>by rw [RS true AG];exact inv.tail t ht ht',fun k hk=>getD_set_true (inv.float k hk)⟩;by_cases hij:i=j
 ·subst hij
  have:oj=oi:=FO (hj.symm.trans hoi);subst this;exact getD_set_true (hall e he hb)
 rw [RS false hij] at hl;exact getD_set_true (inv.closed j oj hj hl e he hb)
theorem ABv {n:Nat} {E:List Nat} {listed:Array Bool} (hs:VS md ops n E=true) (inv:TU md ops n E listed) (hr:n∈Region.ready md ops listed):∀d i,i+d=n->i < n->listed.getD i false=true:=by
 obtain ⟨_,on,hon,hall⟩:=JG.1 hr;intro d
 induction d using Nat.strongRecOn with
 |
  _ d ih=>
  intro i hid hin;unfold VS at hs;have h1:=Dr.1 hs i (Ef.2 hin);rw [YZ] at h1;rcases h1 with h1 | h1
  · exact inv.float i (by simpa using h1)
  obtain ⟨j,hj,hjw⟩:=List.any_eq_true.1 h1;simp only [BZ,Bw] at hjw;obtain ⟨⟨hij,_⟩,hw⟩:=hjw;obtain ⟨oj,hoj,e,he,hb,heq⟩:=Region.waitsFor_spec hw;have hjn:j<=n:=by have:=Ef.1 hj;omega
  rcases Ez j n with hlt | hge
  ·have:=ih (n - j) AG j AG hlt
   rw [<-heq];exact inv.closed j oj hoj this e he hb
  have hj2:j=n:=AG
  subst hj2;have:oj=on:=FO (hoj.symm.trans hon);subst this;rw [<-heq];exact hall e he hb
theorem iy {n i:Nat} {E:List Nat} {listed:Array Bool} (hs:VS md ops n E=true) (hc:U3 md ops n=true) (inv:TU md ops n E listed) (hin:i < n) (hun:listed.getD i true=false) {j:Nat} (hj:j∈Region.ready md ops listed):j < n:=by
 rcases Ez j n with h | h
 · exact h
 exfalso;obtain ⟨hjun,oj,hoj,hall⟩:=JG.1 hj;rcases Nat.eq_or_lt_of_le h with e | hlt
 ·subst e
  have:=ABv hs inv hj (n - i) i AG hin;rw [getD_both hun] at this;cases this
 have hjs:j < ops.size:=(Cz.1 hoj).1;unfold U3 at hc;have h1:=Dr.1 hc j (Ef.2 hjs);rw [YZ,Bw] at h1;rcases h1 with h1 | h1
 · omega
 obtain ⟨o',ho',e,he,hb,heq⟩:=Region.waitsFor_spec h1;have:o'=oj:=FO (ho'.symm.trans hoj);subst this;have h2:=hall e he hb;rw [heq,getD_both (inv.tail (j - 1) AG AG)] at h2;cases h2
theorem nE {n i:Nat} {E:List Nat} {oi:Oper} {v:AK} {L:Array Bool->Act->Prop} (hi:ops[i]? =some oi) (hsel:∀(j:Nat) (o:Oper) cs b,ops[j]? =some o->o.op≠.select cs b)
 (hs:VS md ops n E=true) (hc:U3 md ops n=true) (hin:i < n) (hdone:∀listed a,L listed a->∀j∈Region.ready md ops listed,n<=j):
 ∀(f:Nat) (listed:Array Bool) (a:Act),TU md ops n E listed->
  (∀j oj,ops[j]? =some oj->j≠i->listed.getD j true=false->(∀e∈oj.after,Region.binds md e=true->e.on≠i)->oi.apart ops oj=true)->
  i∈Region.ready md ops listed->YieldsAt P ops w oi v a->
  wpAnyL P md ops w n L f (listed.setIfInBounds i true) (a.put oi.dst v)->wpAnyL P md ops w n L (f+1) listed a:=by
 intro f
 induction f with
 |
  zero=>
  intro listed a inv _ hr hy H;have hun:=(JG.1 hr).1;refine ⟨fun h=>QR,fun j hj=> ?_⟩;have hjn:=iy hs hc inv hin hun hj;refine ⟨hjn,?_⟩;by_cases hji:j=i
  · subst hji;exact hy.stOp hi H
  ·have:=hdone _ _ H j (Jo hj hji)
   omega
 |
  succ f ih=>
  intro listed a inv hfree hr hy H;have hun:=(JG.1 hr).1;refine ⟨fun h=>QR,fun j hj=> ?_⟩;have hjn:=iy hs hc inv hin hun hj;refine ⟨hjn,?_⟩;by_cases hji:j=i
  · subst hji;exact hy.stOp hi H
  have h1:=(H.2 j (Jo hj hji)).2;obtain ⟨hjun,oj,hoj,hall⟩:=JG.1 hj;have hnot:∀e∈oj.after,Region.binds md e=true->e.on≠i:=fun e he hb heq=>by have h2:=hall e he hb;rw [heq,getD_both hun] at h2;cases h2
  have hs2:=stOp_put hoj (hfree j oj hoj hji hjun hnot) (fun cs b=>hsel i oi cs b hi) (fun cs b=>hsel j oj cs b hoj) hy h1;refine stOp_mono (fun a' h3=>ih (listed.setIfInBounds j true) a' (inv.set hj hjn) (fun k ok hk hki hun' hno=> ?_) (Jo hr (Ne.symm hji)) h3.1 ?_) hs2
  ·refine hfree k ok hk hki ?_ hno
   by_cases hjk:j=k
   · subst hjk;exact hjun
   · rw [RS true hjk] at hun';exact hun'
  rw [Yq _ _ hji];exact h3.2
def Xx (md:Region.Mode) (ops:Array Oper) (g n:Nat):List Nat->Array Bool->Bool
 | [],listed=>Region.seqB md ops g n listed
 | k::ks,listed=>(Region.ready md ops listed).contains k && Region.free md ops listed k && decide (k < n) && Xx md ops g n ks (listed.setIfInBounds k true)
theorem cC {n g:Nat} {E:List Nat} {Lq:Act->Prop} (hsel:Region.noSelect ops=true) (hs:VS md ops n E=true) (hc:U3 md ops n=true):
 ∀(l:List Oper) (ks:List Nat) (listed:Array Bool) (a:Act),ks.map (fun k=>ops[k]?)=l.map some->TU md ops n E listed->Xx md ops g n ks listed=true->wpStill P ops w Lq l a->
 wpAnyL P md ops w n (fun listed' a'=>Region.seqB md ops g n listed'=true/\Lq a') l.length listed a
 | [],[],listed,a,_,_,hB,h=>⟨hB,h⟩
 | [],_::_,_,_,hm,_,_,_=>by simp at hm
 | _::_,[],_,_,hm,_,_,_=>by simp at hm
 |
  o::l,k::ks,listed,a,hm,inv,hB,h=>by
  simp only [Fi,RT] at hm;simp only [Xx,BZ,Bw] at hB;obtain ⟨⟨⟨hr,hf⟩,hkn⟩,hB'⟩:=hB;have hr':k∈Region.ready md ops listed:=by simpa using hr
  have hst:stOp P ops w k (wpStill P ops w Lq l) a:=by unfold stOp;simp only [hm.1];exact h
  obtain ⟨v,hy,hK⟩:=yieldsAt_of_stOp hm.1 hst;exact nE hm.1 (Ym hsel) hs hc hkn (fun listed' a' hL=>seqB_ready hL.1) l.length listed a inv (Yd hm.1 hf) hr' hy
   (cC hsel hs hc l ks _ _ hm.2 (inv.set hr' hkn) hB' hK)
theorem rF {n:Nat} {E:List Nat} {a:Act} {w:AH} {hd tl:List Oper} {listed:Array Bool} {fuel:Nat} (ks:List Nat) (hk:ks.map (fun k=>ops[k]?)=hd.map some) (htl:∀j,tl[j]? =ops[n+j]?)
 (hB:(Region.noSelect ops && VS md ops n E && U3 md ops n && Xx md ops tl.length n ks listed)=true) (inv:TU md ops n E listed) (hf:fuel=ks.length+tl.length)
 (h:wpStill P ops w (fun a'=>wpList P ops Q tl a' w) hd a):wpAny P md ops Q fuel listed a w:=by
 simp only [BZ] at hB;obtain ⟨⟨⟨hsel,hs⟩,hc⟩,hlex⟩:=hB;have H:=cC (g:=tl.length) hsel hs hc hd ks listed a hk inv hlex h;have hl:hd.length=ks.length:=by have:=congrArg List.length hk;simpa using this.symm
 have:=wpAny_of_head (Q':=Q) (g:=tl.length) (fun listed' a' hL=>wpAny_of_seq (Q':=Q) tl n listed' a' w htl hL.1 hL.2) _ _ _ H;rw [hf,<-hl];exact this
theorem Sy {id:Nat} {a:Act} {w:AH} {l:List Oper} (n i:Nat) (oi:Oper) (v:AK) (ks:List Nat) (pick:List Oper->List Oper) (hm:P.follows .mixedOrders=true) (hi:l.toArray[i]? =some oi) (hin:i < n) (hnl:n<=l.length) (hks:ks.length+1=n)
 (haf:oi.after.all (fun e=> !Region.binds .any e)=true) (hsel:Region.noSelect l.toArray=true) (hfr:Region.free .any l.toArray (Array.replicate l.toArray.size false) i=true) (hrd:(Region.ready .any l.toArray (Array.replicate l.toArray.size false)).contains i=true)
 (hQ:∀c a w,Q (.panic c) (a.put oi.dst v) w->Q (.panic c) a w) (hy:Yields P l.toArray oi v a) (hk:ks.map (fun k=>l.toArray[k]?)=(pick l).map some)
 (hB:(Region.noSelect l.toArray && VS .any l.toArray n [i] && U3 .any l.toArray n && Xx .any l.toArray (l.length - n) n ks ((Array.replicate l.toArray.size false).setIfInBounds i true))=true)
 (h:wpStill P l.toArray w.drew (fun a'=>wpList P l.toArray Q (l.drop n) a' w.drew) (pick l) (a.put oi.dst v)):(Code.region id l.toArray true).wp P Q a w:=by
 refine wp_region_any hm ?_;have hil:i < l.length:=AG
 have hsz:l.toArray.size=(l.length - 1)+1:=by simp;omega
 have hmain:wpAny P .any l.toArray Q (l.length - 1) ((Array.replicate l.toArray.size false).setIfInBounds i true) (a.put oi.dst v) w.drew:=by
  refine rF (n:=n) (E:=[i]) (tl:=l.drop n) ks hk (fun j=>by simp [List.getElem?_drop]) (by rw [Hq];exact hB) ⟨by simp,?_,?_,?_⟩ Ws h
  ·intro j oj hj hl e he hb
   by_cases hij:i=j
   ·subst hij
    have:oj=oi:=FO (hj.symm.trans hi);subst this;have:=Array.all_eq_true'.1 haf e he;rw [hb] at this;cases this
   rw [RS false hij,getD_replicate_false] at hl;cases hl
  ·intro t ht hts
   rw [RS true AG];exact getD_in (by simpa using hts) (getD_replicate_false _ _)
  intro k hk;rw [Fk] at hk;subst hk;simp [Array.getD_eq_getD_getElem?,hil]
 have:=wpAny_take (md:=.any) (fuel:=l.length - 1) (w:=w.drew) hi hsel hfr hrd hQ hy hmain;rw [<-hsz] at this;exact this
end
def SP (xa xb:BI) (m:IL):Option IL:=
 match idx (fieldNames xa) m.from_,idx (fieldNames xb) m.DU with
 | some a,some b=>some {m with a:=(a:Int),b:=(b:Int)}
 | _,_=>none
def Ep (s:BD) (c:C4):Option C4:=
 match idx (CH s) c.from_,idx (CH s) c.DU with
 |
  some a,some b=>match s.Ap[a]?,s.Ap[b]? with
  | some xa,some xb=>(Fv (fun _=>SP xa xb) c.moves).map (fun l=>{c with a:=(a:Int),b:=(b:Int),moves:=l})
  | _,_=>none
 | _,_=>none
theorem ADJ {w:AH} {cs:List AK} {l:List IL} {k:Nat} {u:IL} (h:Ao 5 GJ w cs l) (hk:l[k]? =some u) (x y:Int):Ao 5 GJ w ((cs.set (k*5+3) (AB AE x)).set (k*5+2) (AB AE y)) (l.set k {u with a:=x,b:=y}):=by
 have hkl:=(BA.1 hk).1;have h1:Ao 5 GJ w (cs.set (k*5+3) (AB AE x)) (l.set k {u with a:=x}):=h.put AG hkl tQ
 have h2:=h1.put (i:=k) (j:=2) (x':={u with a:=x,b:=y}) (u:=AB AE y) AG UE tq
 rwa [Hp] at h2
theorem ZH (R lo M base G n cap i:Nat) (cs:List AK) (s:BD) (p:C4) (w:AH) (hres:Jk (mask lo M w) R s) (hlo:lo<=G) (Gp:G < M) (ug:M<=w.heap.size)
 (ho:w.ownsRow base 154 5 (AA (some ⟨G,0,none⟩) n cap) n cs) (hi:i < n) (hp:By (mask lo M w) (chunk cs 5 i) p):
 AS prog 153 #[AU (some ⟨R,0,none⟩),AU (some ⟨G,i*5,none⟩)] w (EK 154 5 By base G n cap i cs lo M (Ep s p) w):=by
 obtain ⟨A1,n1,c1,hch,hmay⟩:=hp;have p0:=BG ho hi AG hch (j:=0) rfl;simp only [D6] at p0;have p1:=BG ho hi AG hch (j:=1) rfl;have p2:=BG ho hi AG hch (j:=2) rfl;have p3:=BG ho hi AG hch (j:=3) rfl;have p4:=BG ho hi AG hch (j:=4) rfl;have f2:=ho.frozenAt (i*5+2);have f3:=ho.frozenAt (i*5+3);have Uy:G < w.heap.size:=AG
 obtain ⟨b1,b2,b3,fA,fn,fc,hbR,hm1,hm2,EI,hfs⟩:=hres.Hz;have r2:=hbR.cell 2;have lR:=hbR.lt;simp only [Ai,An,Aw] at r2;have M8:=Hy (CH s) p.from_;have Lg:=Hy (CH s) p.DU;obtain ⟨Gs,HO,Qs,yi,G8⟩:=EG hres ho hch hmay (EI.same (w':=w.drew) rfl);clear hres ho hch hmay hbR hm1 hm2 EI hfs;go_enter func153,ntmps153;go_wp2_with fail;cases hix1:idx (CH s) p.from_ with
 |
  none=>
  rw [hix1] at M8;have Cl:AI (EK 154 5 By base G n cap i cs lo M (Ep s p) w (B8 Bm) w.drew):=
   Dl (by unfold Ep;rw [hix1]) (grown_drew (DN _ _))
  have HF:=AF ((G5 b3 _ _ w.drew G8.o M8).mono (R':=fun e w'=>e=B8 Bm/\w'=w.drew) FT);clear hix1 M8 Lg;refine Dj 10 [0,1,2,3,4,5,6,7,8,9,11,12,13,14,15,16,17,18] (fun l=>l.take 10++(l.drop 11).take 8) AL rfl AL (fun d u c a h=>by cases d <;> exact h) ?_;simp only [FQ,Ee,JL,Ho,Lx,Ic]
  repeat still_step
  refine FN ?_;refine ⟨_,200,#[.map (some b3),AN p.from_],Bm,rfl,rfl,?_,HF.o,rfl,Cl.o⟩;go_simp
 |
  some a=>
  rw [hix1] at M8;obtain ⟨Wi,yj⟩:=Aj ((FY b3 _ _ (a:Int) w.drew G8.o M8).mono (R':=fun e w'=>e=AV (AB AE a)/\w'=w.drew) FT) hix1;have hal:=Xm hix1;clear hix1 M8;cases hix2:idx (CH s) p.DU with
  |
   none=>
   rw [hix2] at Lg;have Cl:AI (EK 154 5 By base G n cap i cs lo M (Ep s p) w (B8 Bm) w.drew):=
    Dl (by unfold Ep;rw [yj.o,hix2]) (grown_drew (DN _ _))
   have HF:=AF ((G5 b3 _ _ w.drew G8.o Lg).mono (R':=fun e w'=>e=B8 Bm/\w'=w.drew) FT);clear hix2 Lg;refine Dj 19 [0,1,2,3,4,5,6,7,8,9,10,11,12,13,14,15,16,17,18] (fun l=>l.take 19) AL rfl AL (fun d u c a h=>by cases d <;> exact h) ?_;simp only [FQ,Ee]
   repeat still_step
   still_call Wi.o
   repeat still_step
   refine FN ?_;refine ⟨_,200,#[.map (some b3),AN p.DU],Bm,rfl,rfl,?_,HF.o,rfl,Cl.o⟩;go_simp
  |
   some b=>
   rw [hix2] at Lg;obtain ⟨HF2,iY⟩:=Aj ((FY b3 _ _ (b:Int) w.drew G8.o Lg).mono (R':=fun e w'=>e=AV (AB AE b)/\w'=w.drew) FT) hix2;have hbl:=Xm hix2;clear hix2 Lg;refine Sy 22 1 _ (AU (some ⟨G,i*5,none⟩)) [0,2,3,4,5,6,7,8,9,10,11,12,13,14,15,16,17,18,19,20,21] (fun l=>l.take 1++(l.drop 2).take 20) AL rfl AG BE rfl AL AL AL AL (fun _ _ _ h=>h) (.inl ⟨rfl,fun _=>rfl⟩) rfl AL ?_;simp only [FQ,Ee,JL,Ho,Lx,Ic]
   repeat still_step
   still_call Wi.o
   repeat still_step
   still_call HF2.o
   repeat still_step
   refine FN ?_;change wpList _ _ _ _ _ w.drew;go_wp2_with fail;have ho1:=HO.o.stored (i*5+2) (AB AE a);have ho2:=(ho1.1.stored (i*5+3) (AB AE b)).1.drew;have hga:w.grownBy ((w.setCell ⟨G,i*5+2,none⟩ (AB AE a)).setCell ⟨G,i*5+3,none⟩ (AB AE b)).drew (some G):=grown_drew (Cw (Cw (DN _ _) _ _) _ _);have Oy:((w.setCell ⟨G,i*5+2,none⟩ (AB AE a)).setCell ⟨G,i*5+3,none⟩ (AB AE b)).drew.heap.size=w.heap.size:=by simp [World.setCell]
   have P5:chunk ((cs.set (i*5+2) (AB AE a)).set (i*5+3) (AB AE b)) 5 i=[AN p.from_,AN p.DU,AB AE a,AB AE b,AA A1 n1 c1]:=by rw [El _ AG,El _ AG,Qs.o];rfl
   have hoth:∀j,j≠i->chunk ((cs.set (i*5+2) (AB AE a)).set (i*5+3) (AB AE b)) 5 j=chunk cs 5 j:=fun j hj=>by rw [FM _ AG hj,FM _ AG hj]
   generalize ((w.setCell ⟨G,i*5+2,none⟩ (AB AE a)).setCell ⟨G,i*5+3,none⟩ (AB AE b)).drew=wa at ho2 hga Oy ⊢;generalize (cs.set (i*5+2) (AB AE a)).set (i*5+3) (AB AE b)=ca at ho2 P5 hoth
   have q2:=BG ho2 hi AG P5 (j:=2) rfl;have hmw:=(yi.o.mono IG (Cv hga hlo Gp)).Hz cZ;obtain ⟨xa,hxa⟩:∃x,s.Ap[a]? =some x:=⟨s.Ap[a]'(by simpa [CH] using hal),BJ _⟩;obtain ⟨xb,hxb⟩:∃x,s.Ap[b]? =some x:=⟨s.Ap[b]'(by simpa [CH] using hbl),BJ _⟩;obtain ⟨dw,HXB,TX,G9,T9,bB,CV,HBD⟩:=Wy hxa hxb ho2 hga P5 hoth Oy yi.o.2;have Qh:G < wa.heap.size:=by rw [Oy];exact Uy
   clear ho1 ho2 hga P5 hoth Oy hxa hxb p0 p1 p2 p3 p4 f2 f3 r2 lR q2 Wi HF2 G8;refine (lV A1 n1 c1 p.moves _ hmw).mono ?_;rintro e w1 ⟨v,cs1,rfl,hcs1,ho1,hb1⟩;obtain ⟨vA,vn,vc,rfl⟩:∃A m c,v=AA A m c:=by
    exact zq
   have p4:=BG TX.o hi AG T9.o (j:=4) rfl;have q1:w1.cell? ⟨G,i*5+4,none⟩=some (AA A1 n1 c1):=((Jg hb1).1 _ _ Qh).trans p4;have hf1:w1.frozen? ⟨G,i*5+4,none⟩=false:=((Jg hb1).2 _ _ Qh).trans (TX.o.frozenAt _);have hG1:G < w1.heap.size:=Ay Qh hb1.size;obtain ⟨Hl,Kl,HB1⟩:=Az ho1 hcs1 hb1;clear ho1 hcs1 hb1 p4 hmw;go_wp2_with fail;have ho2:(w1.setCell ⟨G,i*5+4,none⟩ (AA vA vn vc)).ownsRow base 154 5 (AA (some ⟨G,0,none⟩) n cap) n (ca.set (i*5+4) (AA vA vn vc)):=((Co TX.o HB1.o).stored (i*5+4) (AA vA vn vc)).1;have hi2:(w1.setCell ⟨G,i*5+4,none⟩ (AA vA vn vc)).ownsRow wa.heap.size 286 5 (AA vA vn vc) p.moves.length cs1:=Gz Hl.o Yx _;have hg2:w.grownBy (w1.setCell ⟨G,i*5+4,none⟩ (AA vA vn vc)) (some G):=Cw (Ei G9.o (Ej HB1.o _)) _ _;generalize w1.setCell ⟨G,i*5+4,none⟩ (AA vA vn vc)=w2 at ho2 hi2 hg2 ⊢;have hvn:vn=p.moves.length:=by
    exact zp
   obtain ⟨KU,HI2,HG2,LN⟩:=CJ ho2 hi2 hg2 hvn;clear ho2 hi2 hg2 hvn q1 hf1 hG1 Hl HB1;go_loopg [43] vn (fun q j wr=>∃(k:Nat) (out:List IL) (cr:List AK),k<=vn/\q=vn - k/\j=AB AE k/\EN (fun _=>SP xa xb) p.moves k=some out/\w.grownBy wr (some G)/\wr.ownsRow base 154 5 (AA (some ⟨G,0,none⟩) n cap) n (ca.set (i*5+4) (AA vA vn vc))/\
    wr.ownsRow wa.heap.size 286 5 (AA vA vn vc) p.moves.length cr/\Ao 5 GJ wa cr (out++p.moves.drop k))
   case atStart=>exact mC
   clear KU HI2 HG2 Kl;obtain ⟨k,out,cr,hk,hq,rfl,hto,hgr,hog,Gh,hcr⟩:=hrel;obtain ⟨HQ,Db⟩:=Aj hq hto;clear hq hto;by_cases hlt:k < vn
   ·rcases JR Gh with ⟨h,h0⟩ | ⟨H,hcap,h,hH,hHw,hn2⟩
    · exact R2
    injection h with h1 h2 h3;subst h1 h3;clear h2;have wX:vn<=9223372036854775807:=by have:=LN.o;omega
    have xS:w.heap.size<=H:=by have:=CV.o;omega
    obtain ⟨m,hm⟩:∃m,p.moves[k]? =some m:=⟨p.moves[k]' JU,BJ _⟩;have hlen:=Cq JU Db.o;have hat:(out++p.moves.drop k)[k]? =some m:=by rw [Cf AG,EC,hlen];simpa using hm
    have hch:chunk cr 5 k=[AN m.DU,AN m.from_,AB AE m.b,AB AE m.a,AB AE m.shift]:=hcr.chunk hat;have Dy:wr.ownsRow wa.heap.size 286 5 (AA (some ⟨H,0,none⟩) vn vc) vn cr:=by have:=LN.o;rw [this] at Gh ⊢;exact Gh
    have e0:=BG Dy hlt AG hch (j:=0) rfl;simp only [D6] at e0;have e1:=BG Dy hlt AG hch (j:=1) rfl;have e2:=BG Dy hlt AG hch (j:=2) rfl;have e3:=BG Dy hlt AG hch (j:=3) rfl;have f2:=Dy.frozenAt (k*5+2);have f3:=Dy.frozenAt (k*5+3);have aS:chunk (ca.set (i*5+4) (AA (some ⟨H,0,none⟩) vn vc)) 5 i=[AN p.from_,AN p.DU,AB AE a,AB AE b,AA (some ⟨H,0,none⟩) vn vc]:=by rw [El _ AG,T9.o];rfl
    have g2:=BG hog hi AG aS (j:=2) rfl;have g3:=BG hog hi AG aS (j:=3) rfl;have g4:=BG hog hi AG aS (j:=4) rfl;obtain ⟨b1',b2',b3',TN,fn',TM,Hv,_,_,_,Kd⟩:=(Gs.o.below (Cv hgr hlo Gp)).Hz;have s3:=Hv.cell 3;have lR':=Hv.lt;simp only [Ai,An,Aw] at s3;have hfn:fn'=s.Ap.length:=by have:=Kd.len;simpa using this
    have hal':a < fn':=by rw [hfn];simpa [CH] using hal
    have gY:b < fn':=by rw [hfn];simpa [CH] using hbl
    obtain ⟨fb,pV,fm,fg,rfl,hfb,hfm,hfc,MI⟩:=Ut Kd hal';obtain ⟨fb2,ALZ,fm2,fg2,efb,AM5,ADx,AM4,ABu⟩:=Ut Kd gY;injection efb with efb;injection efb with ef1 ef2;subst ef1 ef2;have hfx:fm=fieldMap xa:=by rw [Be,dw.o,Cu,Bq] at hfm;exact hfm.symm
    have AJ7:fm2=fieldMap xb:=by rw [Be,HXB.o,Cu,Bq] at ADx;exact ADx.symm
    subst hfx AJ7;have M8:=Hy (fieldNames xa) m.from_;have Lg:=Hy (fieldNames xb) m.DU;obtain ⟨Ga,LP,LO,Te,HM,HLEN,HAT,Wh,AIs⟩:=Po hgr hog Dy hcr hm hlen hat (MI.same (w':=wr.drew) rfl) (ABu.same (w':=wr.drew) rfl);clear hgr hog Gh Dy hcr hm hlen hat hch aS Hv Kd hfm ADx MI ABu hfn;have hkn:(k:Int) < (vn:Int):=AG
    have hk0:=Int.natCast_nonneg k
    have ha0:(0:Int)<=(a:Int):=AG
    have han:(a:Int) < (fn':Int):=AG
    have hb0:(0:Int)<=(b:Int):=AG
    have hbn:(b:Int) < (fn':Int):=AG
    go_wp2_with fail;cases hix1:idx (fieldNames xa) m.from_ with
    |
     none=>
     rw [hix1] at M8;have Cl:AI (EK 154 5 By base G n cap i cs lo M (Ep s p) w (B8 Bm) wr.drew):=by refine Dl ?_ (grown_drew Ga.o);unfold Ep;rw [yj.o,iY.o];simp only [dw.o,HXB.o];rw [En (k:=k+1) JU (FJ Db.o HM.o (by unfold SP;rw [hix1]))];rfl
     have HF:=AF ((G5 fg _ _ wr.drew Wh.o M8).mono (R':=fun e w'=>e=B8 Bm/\w'=wr.drew) FT);clear hix1 M8 Lg;refine Dj 16 [0,1,2,3,4,5,6,7,8,9,10,11,12,13,14,15,17,18,19,20,21,22,23,24,25,26,27,28,29,30] (fun l=>l.take 16++(l.drop 17).take 14) AL rfl AL (fun d u c a h=>by cases d <;> exact h) ?_;simp only [FQ,Ee,JL,Ho,Lx,Ic]
     repeat still_step
     refine FN ?_;refine ⟨_,200,#[.map (some fg),AN m.from_],Bm,rfl,rfl,?_,HF.o,rfl,Cl.o⟩;go_simp
    |
     some f=>
     rw [hix1] at M8;obtain ⟨Wi,Zv⟩:=Aj ((FY fg _ _ (f:Int) wr.drew Wh.o M8).mono (R':=fun e w'=>e=AV (AB AE f)/\w'=wr.drew) FT) hix1;clear hix1 M8;cases hix2:idx (fieldNames xb) m.DU with
     |
      none=>
      rw [hix2] at Lg;have Cl:AI (EK 154 5 By base G n cap i cs lo M (Ep s p) w (B8 Bm) wr.drew):=by refine Dl ?_ (grown_drew Ga.o);unfold Ep;rw [yj.o,iY.o];simp only [dw.o,HXB.o];rw [En (k:=k+1) JU (FJ Db.o HM.o (by unfold SP;rw [Zv.o,hix2]))];rfl
      have HF:=AF ((G5 fg2 _ _ wr.drew AIs.o Lg).mono (R':=fun e w'=>e=B8 Bm/\w'=wr.drew) FT);clear hix2 Lg;refine Dj 31 [0,1,2,3,4,5,6,7,8,9,10,11,12,13,14,15,16,17,18,19,20,21,22,23,24,25,26,27,28,29,30] (fun l=>l.take 31) AL rfl AL (fun d u c a h=>by cases d <;> exact h) ?_;simp only [FQ,Ee]
      repeat still_step
      still_call Wi.o
      repeat still_step
      refine FN ?_;refine ⟨_,200,#[.map (some fg2),AN m.DU],Bm,rfl,rfl,?_,HF.o,rfl,Cl.o⟩;go_simp
     |
      some h=>
      rw [hix2] at Lg;obtain ⟨HF2,HJ2⟩:=Aj ((FY fg2 _ _ (h:Int) wr.drew AIs.o Lg).mono (R':=fun e w'=>e=AV (AB AE h)/\w'=wr.drew) FT) hix2;clear hix2 Lg;refine Sy 34 1 _ (AU (some ⟨H,k*5,none⟩)) [0,2,3,4,5,6,7,8,9,10,11,12,13,14,15,16,17,18,19,20,21,22,23,24,25,26,27,28,29,30,31,32,33] (fun l=>l.take 1++(l.drop 2).take 32) AL rfl AG BE rfl AL AL AL AL (fun _ _ _ h=>h) (.inl ⟨rfl,fun _=>rfl⟩) rfl AL ?_;simp only [FQ,Ee,JL,Ho,Lx,Ic]
      repeat still_step
      still_call Wi.o
      repeat still_step
      still_call HF2.o
      repeat still_step
      refine FN ?_;change wpList _ _ _ _ _ wr.drew;go_wp2;go_roundg (vn - (k+1))
      case measure=>exact Bc
      have ho3:=(LO.o.drew.stored (k*5+3) (AB AE f)).1;have SZ:=(ho3.stored (k*5+2) (AB AE h)).1;have hc3:=ADJ Te.o HAT.o (f:Int) (h:Int);refine ⟨k+1,out++[{m with a:=(f:Int),b:=(h:Int)}],(cr.set (k*5+3) (AB AE f)).set (k*5+2) (AB AE h),by omega,rfl,by go_num,?_,Ma (Ma (grown_drew Ga.o) UZ _) UZ _,own_ne (own_ne LP.o.drew BX _) BX _,?_,?_⟩
      · exact Fc Db.o HM.o (by unfold SP;rw [Zv.o,HJ2.o])
      · have:=LN.o;rw [this] at SZ ⊢;exact SZ
      · rw [<-set_drop HLEN.o HM.o];exact hc3
   have hke:k=p.moves.length:=by have:=LN.o;omega
   go_wp2_with fail
   go_end0
   have hP:Ep s p=some {p with a:=(a:Int),b:=(b:Int),moves:=out}:=by unfold Ep Fv;rw [yj.o,iY.o];simp only [dw.o,HXB.o];rw [<-hke,Db.o];rfl
   have hsl:Ag 5 GJ (mask lo M wr) (AA vA vn vc) out:=by rw [hke,Js,EU] at hcr;exact CP (Lb Gh (by rw [CV.o];exact ug)) ⟨hcr.1,hcr.2⟩ tB
   refine QJ hP hgr hog (fun j hj=>by rw [FM _ AG hj];exact bB.o j hj) ?_;refine ⟨vA,vn,vc,?_,hsl,?_⟩
   · rw [El _ AG,T9.o];rfl
   exact AAi
theorem Kx (n:Int) (w:AH):(Instr.makeMap 260 (some (AB AE n))).run prog w=.ok (.map (some w.heap.size)) (w.alloc (.map #[] 0)):=by simp [Instr.makeMap,run_underlying underlying260,asInt,asIntOf]
theorem boxed {w wr:AH} {g:Nat} {m:List (ByteArray×Int)} (hm:MapAt IU IX wr g m) (hb:AJ w wr) (cs:Array AK) (T:Ae):∃wz,wz=wr.alloc (AQ cs T)/\MapAt IU IX wz g m/\AJ w wz/\AZ wz wr.heap.size T cs:=
 ⟨_,rfl,hm.grown (Fm _ _ none) Ac,hb.alloc hb.size _,AZ.new _ _ _⟩
theorem iD (A:Option Aa) (n c:Nat) (l:List ByteArray) (w:AH) (hs:Ag 1 DV w (AA A n c) l):
 AS prog 188 #[AA A n c,.func (.func 189) #[] #[]] w (U7 l w):=by
 have hn2:n<=9223372036854775807:=by have:=hs.le;omega
 obtain ⟨HN,HS⟩:=Aj hs.len hs;clear hs;have hmm:=Kx;go_enter func188,ntmps188;go_wp2_with fail;clear hmm;have hm0:MapAt IU IX (w.alloc (.map #[] 0)) w.heap.size (B0 l 0).1:=MapAt.new _ _ w;have hb0:AJ w (w.alloc (.map #[] 0)):=(Af _ _).alloc (Ad _) _;obtain ⟨ML,HB0⟩:=Aj hm0 hb0;clear hm0 hb0;go_loopg [5,15] n (fun g t i wr=>∃k:Nat,k<=n/\g=n - k/\i=AB AE k/\t=AX (B0 l k).2/\MapAt IU IX wr w.heap.size (B0 l k).1/\AJ w wr)
 case atStart=>exact UD
 clear ML HB0;obtain ⟨k,hk,hg,rfl,rfl,hm,hb⟩:=hrel;obtain ⟨HG,HM,HB⟩:=Az hg hm hb;clear hg hm hb;by_cases hlt:k < n
 ·obtain ⟨b,off,x,rfl,hbl,hx,hc⟩:=XI (HS.o.mono Ba HB.o) hlt
  have HX:AI (l[k]? =some x):=hx;clear hx;have hxn:x=x:=rfl;clear hxn;obtain ⟨t,ht⟩:=BH ((B0 l k).2);have HT:=AF ht;rw [ht];clear ht;go_wp2_with fail;refine (dO _ _).mono ?_;rintro e w' ⟨rfl,rfl⟩;have hmw:=HM.o;have hbw:=HB.o;have hlook:=DH (DB underlying9) underlying260 (z:=AB AE 0) AL hmw x true;obtain ⟨PX,CY⟩:=Aj hmw hbw;clear hmw hbw HM HB;cases hgt:getM (B0 l k).1 x with
  |
   some v=>
   rw [hgt] at hlook;simp only [Ct,Cu,Ce,GF] at hlook;have LS:=AF hgt;clear hgt;go_wp2;go_roundg (n - (k+1))
   case measure=>exact Ec
   case rel=>
    have he:B0 l (k+1)=((B0 l k).1,true):=by rw [GT HX.o,Mh LS.o]
    exact UB
  |
   none=>
   rw [hgt] at hlook;simp only [Ct,JJ,Jt,Hr] at hlook;have LS:=AF hgt;clear hgt;go_wp2_with fail;refine (dO _ _).mono ?_;rintro e w' ⟨rfl,rfl⟩;obtain ⟨w3,hrun3,EI,hg3⟩:=FG (DB underlying9) underlying260 PX.o x (k:Int);obtain ⟨HB3,G8⟩:=Aj (CY.o.grown hg3 CY.o.size (fun r e=>by cases e;exact Ad _)) EI;clear EI hg3 hlook;go_wp2;go_roundg (n - (k+1))
   case measure=>exact Ec
   have he:B0 l (k+1)=(Ha (B0 l k).1 x (k:Int),(B0 l k).2):=by rw [GT HX.o,N1 LS.o]
   exact UC
 have HE:AI (B0 l k=col l):=by show _=_;have:=HN.o;rw [col,show k=l.length by first | omega | (simp;omega)]
 go_wp2;go_ret2;exact ⟨_,by rw [HE.o];rfl,by rw [<-HE.o];exact HM.o,Ad _,HB.o⟩
theorem dg (A:Option Aa) (n c:Nat) (l:List Bk) (w:AH) (hs:Ag 5 CK w (AA A n c) l):
 AS prog 190 #[AA A n c,.func (.func 191) #[] #[]] w (U7 (l.map (·.name)) w):=by
 have hn2:n<=9223372036854775807:=by have:=hs.le;omega
 obtain ⟨HN,HS⟩:=Aj hs.len hs;clear hs;have hmm:=Kx;go_enter func190,ntmps190;go_wp2_with fail;clear hmm;have hm0:MapAt IU IX (w.alloc (.map #[] 0)) w.heap.size (B0 (l.map (·.name)) 0).1:=MapAt.new _ _ w;have hb0:AJ w (w.alloc (.map #[] 0)):=(Af _ _).alloc (Ad _) _;obtain ⟨ML,HB0⟩:=Aj hm0 hb0;clear hm0 hb0;go_loopg [5,15] n (fun g t i wr=>∃k:Nat,k<=n/\g=n - k/\i=AB AE k/\t=AX (B0 (l.map (·.name)) k).2/\MapAt IU IX wr w.heap.size (B0 (l.map (·.name)) k).1/\AJ w wr)
 case atStart=>exact UD
 clear ML HB0;obtain ⟨k,hk,hg,rfl,rfl,hm,hb⟩:=hrel;obtain ⟨HG,HM,HB⟩:=Az hg hm hb;clear hg hm hb;by_cases hlt:k < n
 ·obtain ⟨b,off,x,rfl,hbl,hx,e0,e1,e2,e3,e4⟩:=Nx (HS.o.mono Bn HB.o) hlt
  have HX:AI ((l.map (·.name))[k]? =some x.name):=by show _=_;rw [Be,hx];rfl
  clear hx;obtain ⟨t,ht⟩:=BH ((B0 (l.map (·.name)) k).2);have HT:=AF ht;rw [ht];clear ht;go_wp2_with fail;obtain ⟨wz,hwz,hmz,hbz,hblk⟩:=boxed HM.o HB.o #[AN x.name,AN x.Av,AB AE x.factor,AB AE x.base,AB AE x.scale] 193;rw [<-hwz];have TQ:∀W,AS prog 191 #[AO #[AN x.name,AN x.Av,AB AE x.factor,AB AE x.base,AB AE x.scale]] W fun e w'=>e=AV (AN x.name)/\∃q,w'=W.alloc q:=fun W=>(nN x W).mono fun e w' h=>⟨h.1,_,h.2.symm⟩;refine (TQ _).mono ?_;rintro e w' ⟨rfl,o,rfl⟩;have hmw:MapAt IU IX (wz.alloc o) w.heap.size (B0 (l.map (·.name)) k).1:=hmz.grown (Fm _ _ none) Ac;have hbw:AJ w (wz.alloc o):=hbz.alloc hbz.size _;have hbk:=hblk.alloc o;generalize wz.alloc o=w1 at hmw hbw hbk ⊢;have d0:=hbk.cell 0;have d1:=hbk.cell 1;have d2:=hbk.cell 2;have d3:=hbk.cell 3;have d4:=hbk.cell 4;have lb:=hbk.lt;simp only [Ai,An,Aw] at d0 d1 d2 d3 d4;clear hwz hmz hbz hblk hbk e0 e1 e2 e3 e4 hbl;have hlook:=DH (DB underlying9) underlying260 (z:=AB AE 0) AL hmw x.name true;obtain ⟨PX,CY⟩:=Aj hmw hbw;clear hmw hbw HM HB;cases hgt:getM (B0 (l.map (·.name)) k).1 x.name with
  |
   some v=>
   rw [hgt] at hlook;simp only [Ct,Cu,Ce,GF] at hlook;have LS:=AF hgt;clear hgt;go_wp2;go_roundg (n - (k+1))
   case measure=>exact Ec
   case rel=>
    have he:B0 (l.map (·.name)) (k+1)=((B0 (l.map (·.name)) k).1,true):=by rw [GT HX.o,Mh LS.o]
    exact UB
  |
   none=>
   rw [hgt] at hlook;simp only [Ct,JJ,Jt,Hr] at hlook;have LS:=AF hgt;clear hgt;go_wp2_with fail;refine (TQ _).mono ?_;rintro e w' ⟨rfl,o,rfl⟩;have Le:MapAt IU IX (w1.alloc o) w.heap.size (B0 (l.map (·.name)) k).1:=PX.o.grown (Fm _ _ none) Ac;have hbw2:AJ w (w1.alloc o):=CY.o.alloc CY.o.size _;generalize w1.alloc o=w2 at Le hbw2 ⊢;obtain ⟨w3,hrun3,EI,hg3⟩:=FG (DB underlying9) underlying260 Le x.name (k:Int);have HB3:=AF (hbw2.grown hg3 hbw2.size (fun r e=>by cases e;exact Ad _));clear Le hbw2;have G8:=AF EI;clear EI hg3 hlook;go_wp2;go_roundg (n - (k+1))
   case measure=>exact Ec
   have he:B0 (l.map (·.name)) (k+1)=(Ha (B0 (l.map (·.name)) k).1 x.name (k:Int),(B0 (l.map (·.name)) k).2):=by rw [GT HX.o,N1 LS.o]
   exact UC
 exact bO
theorem ZL (A:Option Aa) (n c:Nat) (l:List BI) (w:AH) (hs:Ag 6 BR w (AA A n c) l):
 AS prog 192 #[AA A n c,.func (.func 193) #[] #[]] w (U7 (l.map (·.name)) w):=by
 have hn2:n<=9223372036854775807:=by have:=hs.le;omega
 obtain ⟨HN,HS⟩:=Aj hs.len hs;clear hs;have hmm:=Kx;go_enter func192,ntmps192;go_wp2_with fail;clear hmm;have hm0:MapAt IU IX (w.alloc (.map #[] 0)) w.heap.size (B0 (l.map (·.name)) 0).1:=MapAt.new _ _ w;have hb0:AJ w (w.alloc (.map #[] 0)):=(Af _ _).alloc (Ad _) _;obtain ⟨ML,HB0⟩:=Aj hm0 hb0;clear hm0 hb0;go_loopg [5,15] n (fun g t i wr=>∃k:Nat,k<=n/\g=n - k/\i=AB AE k/\t=AX (B0 (l.map (·.name)) k).2/\MapAt IU IX wr w.heap.size (B0 (l.map (·.name)) k).1/\AJ w wr)
 case atStart=>exact UD
 clear ML HB0;obtain ⟨k,hk,hg,rfl,rfl,hm,hb⟩:=hrel;obtain ⟨HG,HM,HB⟩:=Az hg hm hb;clear hg hm hb;by_cases hlt:k < n
 ·obtain ⟨b,off,x,A1,n1,c1,A2,n2,c2,rfl,hbl,hx,e0,e1,e2,e3,e4,e5,_,_⟩:=Fz (HS.o.mono BM HB.o) hlt
  have HX:AI ((l.map (·.name))[k]? =some x.name):=by show _=_;rw [Be,hx];rfl
  clear hx;obtain ⟨t,ht⟩:=BH ((B0 (l.map (·.name)) k).2);have HT:=AF ht;rw [ht];clear ht;go_wp2_with fail;obtain ⟨wz,hwz,hmz,hbz,hblk⟩:=boxed HM.o HB.o #[AN x.name,AN x.Hh,AB AE x.Au,AB AE x.version,AA A1 n1 c1,AA A2 n2 c2] 79;rw [<-hwz];have TQ:∀W,AS prog 193 #[AO #[AN x.name,AN x.Hh,AB AE x.Au,AB AE x.version,AA A1 n1 c1,AA A2 n2 c2]] W fun e w'=>e=AV (AN x.name)/\∃q,w'=W.alloc q:=fun W=>(ft _ _ _ _ _ _ x W).mono fun e w' h=>⟨h.1,_,h.2.symm⟩;refine (TQ _).mono ?_;rintro e w' ⟨rfl,o,rfl⟩;have hmw:MapAt IU IX (wz.alloc o) w.heap.size (B0 (l.map (·.name)) k).1:=hmz.grown (Fm _ _ none) Ac;have hbw:AJ w (wz.alloc o):=hbz.alloc hbz.size _;have hbk:=hblk.alloc o;generalize wz.alloc o=w1 at hmw hbw hbk ⊢;have d0:=hbk.cell 0;have d1:=hbk.cell 1;have d2:=hbk.cell 2;have d3:=hbk.cell 3;have d4:=hbk.cell 4;have d5:=hbk.cell 5;have lb:=hbk.lt;simp only [Ai,An,Aw] at d0 d1 d2 d3 d4 d5;clear hwz hmz hbz hblk hbk e0 e1 e2 e3 e4 e5 hbl;have hlook:=DH (DB underlying9) underlying260 (z:=AB AE 0) AL hmw x.name true;obtain ⟨PX,CY⟩:=Aj hmw hbw;clear hmw hbw HM HB;cases hgt:getM (B0 (l.map (·.name)) k).1 x.name with
  |
   some v=>
   rw [hgt] at hlook;simp only [Ct,Cu,Ce,GF] at hlook;have LS:=AF hgt;clear hgt;go_wp2;go_roundg (n - (k+1))
   case measure=>exact Ec
   case rel=>
    have he:B0 (l.map (·.name)) (k+1)=((B0 (l.map (·.name)) k).1,true):=by rw [GT HX.o,Mh LS.o]
    exact UB
  |
   none=>
   rw [hgt] at hlook;simp only [Ct,JJ,Jt,Hr] at hlook;have LS:=AF hgt;clear hgt;go_wp2_with fail;refine (TQ _).mono ?_;rintro e w' ⟨rfl,o,rfl⟩;have Le:MapAt IU IX (w1.alloc o) w.heap.size (B0 (l.map (·.name)) k).1:=PX.o.grown (Fm _ _ none) Ac;have hbw2:AJ w (w1.alloc o):=CY.o.alloc CY.o.size _;generalize w1.alloc o=w2 at Le hbw2 ⊢;obtain ⟨w3,hrun3,EI,hg3⟩:=FG (DB underlying9) underlying260 Le x.name (k:Int);have HB3:=AF (hbw2.grown hg3 hbw2.size (fun r e=>by cases e;exact Ad _));clear Le hbw2;have G8:=AF EI;clear EI hg3 hlook;go_wp2;go_roundg (n - (k+1))
   case measure=>exact Ec
   have he:B0 (l.map (·.name)) (k+1)=(Ha (B0 (l.map (·.name)) k).1 x.name (k:Int),(B0 (l.map (·.name)) k).2):=by rw [GT HX.o,N1 LS.o]
   exact UC
 exact bO
theorem X3 (A:Option Aa) (n c:Nat) (l:List Cj) (w:AH) (hs:Ag 3 BT w (AA A n c) l):
 AS prog 194 #[AA A n c,.func (.func 195) #[] #[]] w (U7 (l.map (·.name)) w):=by
 have hn2:n<=9223372036854775807:=by have:=hs.le;omega
 obtain ⟨HN,HS⟩:=Aj hs.len hs;clear hs;have hmm:=Kx;go_enter func194,ntmps194;go_wp2_with fail;clear hmm;have hm0:MapAt IU IX (w.alloc (.map #[] 0)) w.heap.size (B0 (l.map (·.name)) 0).1:=MapAt.new _ _ w;have hb0:AJ w (w.alloc (.map #[] 0)):=(Af _ _).alloc (Ad _) _;obtain ⟨ML,HB0⟩:=Aj hm0 hb0;clear hm0 hb0;go_loopg [5,15] n (fun g t i wr=>∃k:Nat,k<=n/\g=n - k/\i=AB AE k/\t=AX (B0 (l.map (·.name)) k).2/\MapAt IU IX wr w.heap.size (B0 (l.map (·.name)) k).1/\AJ w wr)
 case atStart=>exact UD
 clear ML HB0;obtain ⟨k,hk,hg,rfl,rfl,hm,hb⟩:=hrel;obtain ⟨HG,HM,HB⟩:=Az hg hm hb;clear hg hm hb;by_cases hlt:k < n
 ·obtain ⟨b,off,x,A1,n1,c1,rfl,hbl,hx,e0,e1,e2,_⟩:=L7 (HS.o.mono BN HB.o) hlt
  have HX:AI ((l.map (·.name))[k]? =some x.name):=by show _=_;rw [Be,hx];rfl
  clear hx;obtain ⟨t,ht⟩:=BH ((B0 (l.map (·.name)) k).2);have HT:=AF ht;rw [ht];clear ht;go_wp2_with fail;obtain ⟨wz,hwz,hmz,hbz,hblk⟩:=boxed HM.o HB.o #[AN x.name,AA A1 n1 c1,AB AE x.most] 157;rw [<-hwz];have TQ:∀W,AS prog 195 #[AO #[AN x.name,AA A1 n1 c1,AB AE x.most]] W fun e w'=>e=AV (AN x.name)/\∃q,w'=W.alloc q:=fun W=>(cp _ _ _ x W).mono fun e w' h=>⟨h.1,_,h.2.symm⟩;refine (TQ _).mono ?_;rintro e w' ⟨rfl,o,rfl⟩;have hmw:MapAt IU IX (wz.alloc o) w.heap.size (B0 (l.map (·.name)) k).1:=hmz.grown (Fm _ _ none) Ac;have hbw:AJ w (wz.alloc o):=hbz.alloc hbz.size _;have hbk:=hblk.alloc o;generalize wz.alloc o=w1 at hmw hbw hbk ⊢;have d0:=hbk.cell 0;have d1:=hbk.cell 1;have d2:=hbk.cell 2;have lb:=hbk.lt;simp only [Ai,An,Aw] at d0 d1 d2;clear hwz hmz hbz hblk hbk e0 e1 e2 hbl;have hlook:=DH (DB underlying9) underlying260 (z:=AB AE 0) AL hmw x.name true;obtain ⟨PX,CY⟩:=Aj hmw hbw;clear hmw hbw HM HB;cases hgt:getM (B0 (l.map (·.name)) k).1 x.name with
  |
   some v=>
   rw [hgt] at hlook;simp only [Ct,Cu,Ce,GF] at hlook;have LS:=AF hgt;clear hgt;go_wp2;go_roundg (n - (k+1))
   case measure=>exact Ec
   case rel=>
    have he:B0 (l.map (·.name)) (k+1)=((B0 (l.map (·.name)) k).1,true):=by rw [GT HX.o,Mh LS.o]
    exact UB
  |
   none=>
   rw [hgt] at hlook;simp only [Ct,JJ,Jt,Hr] at hlook;have LS:=AF hgt;clear hgt;go_wp2_with fail;refine (TQ _).mono ?_;rintro e w' ⟨rfl,o,rfl⟩;have Le:MapAt IU IX (w1.alloc o) w.heap.size (B0 (l.map (·.name)) k).1:=PX.o.grown (Fm _ _ none) Ac;have hbw2:AJ w (w1.alloc o):=CY.o.alloc CY.o.size _;generalize w1.alloc o=w2 at Le hbw2 ⊢;obtain ⟨w3,hrun3,EI,hg3⟩:=FG (DB underlying9) underlying260 Le x.name (k:Int);have HB3:=AF (hbw2.grown hg3 hbw2.size (fun r e=>by cases e;exact Ad _));clear Le hbw2;have G8:=AF EI;clear EI hg3 hlook;go_wp2;go_roundg (n - (k+1))
   case measure=>exact Ec
   have he:B0 (l.map (·.name)) (k+1)=(Ha (B0 (l.map (·.name)) k).1 x.name (k:Int),(B0 (l.map (·.name)) k).2):=by rw [GT HX.o,N1 LS.o]
   exact UC
 exact bO
theorem aq (A:Option Aa) (n c:Nat) (l:List GZ) (w:AH) (hs:Ag 11 EW w (AA A n c) l):
 AS prog 196 #[AA A n c,.func (.func 197) #[] #[]] w (U7 (l.map (·.name)) w):=by
 have hn2:n<=9223372036854775807:=by have:=hs.le;omega
 obtain ⟨HN,HS⟩:=Aj hs.len hs;clear hs;have hmm:=Kx;go_enter func196,ntmps196;go_wp2_with fail;clear hmm;have hm0:MapAt IU IX (w.alloc (.map #[] 0)) w.heap.size (B0 (l.map (·.name)) 0).1:=MapAt.new _ _ w;have hb0:AJ w (w.alloc (.map #[] 0)):=(Af _ _).alloc (Ad _) _;obtain ⟨ML,HB0⟩:=Aj hm0 hb0;clear hm0 hb0;go_loopg [5,15] n (fun g t i wr=>∃k:Nat,k<=n/\g=n - k/\i=AB AE k/\t=AX (B0 (l.map (·.name)) k).2/\MapAt IU IX wr w.heap.size (B0 (l.map (·.name)) k).1/\AJ w wr)
 case atStart=>exact UD
 clear ML HB0;obtain ⟨k,hk,hg,rfl,rfl,hm,hb⟩:=hrel;obtain ⟨HG,HM,HB⟩:=Az hg hm hb;clear hg hm hb;by_cases hlt:k < n
 ·obtain ⟨b,off,x,A1,n1,c1,rfl,hbl,hx,e0,e1,e2,e3,e4,e5,e6,e7,e8,e9,e10,_⟩:=IV (HS.o.mono DJ HB.o) hlt
  have HX:AI ((l.map (·.name))[k]? =some x.name):=by show _=_;rw [Be,hx];rfl
  clear hx;obtain ⟨t,ht⟩:=BH ((B0 (l.map (·.name)) k).2);have HT:=AF ht;rw [ht];clear ht;go_wp2_with fail;obtain ⟨wz,hwz,hmz,hbz,hblk⟩:=boxed HM.o HB.o #[AN x.name,AB AE x.type.kind,AB AE x.type.lo,AB AE x.type.hi,AN x.type.Av,AB AE x.type.unit,AA A1 n1 c1,AB AE x.w0,AB AE x.w1,AB AE x.w2,AB AE x.w3] 100;rw [<-hwz];have TQ:∀W,AS prog 197 #[AO #[AN x.name,AB AE x.type.kind,AB AE x.type.lo,AB AE x.type.hi,AN x.type.Av,AB AE x.type.unit,AA A1 n1 c1,AB AE x.w0,AB AE x.w1,AB AE x.w2,AB AE x.w3]] W fun e w'=>e=AV (AN x.name)/\∃q,w'=W.alloc q:=fun W=>(k9 _ _ _ x W).mono fun e w' h=>⟨h.1,_,h.2.symm⟩;refine (TQ _).mono ?_;rintro e w' ⟨rfl,o,rfl⟩;have hmw:MapAt IU IX (wz.alloc o) w.heap.size (B0 (l.map (·.name)) k).1:=hmz.grown (Fm _ _ none) Ac;have hbw:AJ w (wz.alloc o):=hbz.alloc hbz.size _;have hbk:=hblk.alloc o;generalize wz.alloc o=w1 at hmw hbw hbk ⊢;have d0:=hbk.cell 0;have d1:=hbk.cell 1;have d2:=hbk.cell 2;have d3:=hbk.cell 3;have d4:=hbk.cell 4;have d5:=hbk.cell 5;have d6:=hbk.cell 6;have d7:=hbk.cell 7;have d8:=hbk.cell 8;have d9:=hbk.cell 9;have d10:=hbk.cell 10;have lb:=hbk.lt;simp only [Ai,An,Aw] at d0 d1 d2 d3 d4 d5 d6 d7 d8 d9 d10;clear hwz hmz hbz hblk hbk e0 e1 e2 e3 e4 e5 e6 e7 e8 e9 e10 hbl;have hlook:=DH (DB underlying9) underlying260 (z:=AB AE 0) AL hmw x.name true;obtain ⟨PX,CY⟩:=Aj hmw hbw;clear hmw hbw HM HB;cases hgt:getM (B0 (l.map (·.name)) k).1 x.name with
  |
   some v=>
   rw [hgt] at hlook;simp only [Ct,Cu,Ce,GF] at hlook;have LS:=AF hgt;clear hgt;go_wp2;go_roundg (n - (k+1))
   case measure=>exact Ec
   case rel=>
    have he:B0 (l.map (·.name)) (k+1)=((B0 (l.map (·.name)) k).1,true):=by rw [GT HX.o,Mh LS.o]
    exact UB
  |
   none=>
   rw [hgt] at hlook;simp only [Ct,JJ,Jt,Hr] at hlook;have LS:=AF hgt;clear hgt;go_wp2_with fail;refine (TQ _).mono ?_;rintro e w' ⟨rfl,o,rfl⟩;have Le:MapAt IU IX (w1.alloc o) w.heap.size (B0 (l.map (·.name)) k).1:=PX.o.grown (Fm _ _ none) Ac;have hbw2:AJ w (w1.alloc o):=CY.o.alloc CY.o.size _;generalize w1.alloc o=w2 at Le hbw2 ⊢;obtain ⟨w3,hrun3,EI,hg3⟩:=FG (DB underlying9) underlying260 Le x.name (k:Int);have HB3:=AF (hbw2.grown hg3 hbw2.size (fun r e=>by cases e;exact Ad _));clear Le hbw2;have G8:=AF EI;clear EI hg3 hlook;go_wp2;go_roundg (n - (k+1))
   case measure=>exact Ec
   have he:B0 (l.map (·.name)) (k+1)=(Ha (B0 (l.map (·.name)) k).1 x.name (k:Int),(B0 (l.map (·.name)) k).2):=by rw [GT HX.o,N1 LS.o]
   exact UC
 exact bO
theorem dh (A:Option Aa) (n c:Nat) (l:List Br) (w:AH) (hs:Ag 8 DI w (AA A n c) l):
 AS prog 198 #[AA A n c,.func (.func 199) #[] #[]] w (U7 (l.map (·.name)) w):=by
 have hn2:n<=9223372036854775807:=by have:=hs.le;omega
 obtain ⟨HN,HS⟩:=Aj hs.len hs;clear hs;have hmm:=Kx;go_enter func198,ntmps198;go_wp2_with fail;clear hmm;have hm0:MapAt IU IX (w.alloc (.map #[] 0)) w.heap.size (B0 (l.map (·.name)) 0).1:=MapAt.new _ _ w;have hb0:AJ w (w.alloc (.map #[] 0)):=(Af _ _).alloc (Ad _) _;obtain ⟨ML,HB0⟩:=Aj hm0 hb0;clear hm0 hb0;go_loopg [5,15] n (fun g t i wr=>∃k:Nat,k<=n/\g=n - k/\i=AB AE k/\t=AX (B0 (l.map (·.name)) k).2/\MapAt IU IX wr w.heap.size (B0 (l.map (·.name)) k).1/\AJ w wr)
 case atStart=>exact UD
 clear ML HB0;obtain ⟨k,hk,hg,rfl,rfl,hm,hb⟩:=hrel;obtain ⟨HG,HM,HB⟩:=Az hg hm hb;clear hg hm hb;by_cases hlt:k < n
 ·obtain ⟨b,off,x,rfl,hbl,hx,e0,e1,e2,e3,e4,e5,e6,e7⟩:=Px (HS.o.mono FL HB.o) hlt
  have HX:AI ((l.map (·.name))[k]? =some x.name):=by show _=_;rw [Be,hx];rfl
  clear hx;obtain ⟨t,ht⟩:=BH ((B0 (l.map (·.name)) k).2);have HT:=AF ht;rw [ht];clear ht;go_wp2_with fail;obtain ⟨wz,hwz,hmz,hbz,hblk⟩:=boxed HM.o HB.o #[AN x.name,AN x.kind,AB AE x.schema,AN x.Av.name,AN x.Av.path,AB AE x.Av.var,AB AE x.Av.field,AB AE x.Av.n] 290;rw [<-hwz];have TQ:∀W,AS prog 199 #[AO #[AN x.name,AN x.kind,AB AE x.schema,AN x.Av.name,AN x.Av.path,AB AE x.Av.var,AB AE x.Av.field,AB AE x.Av.n]] W fun e w'=>e=AV (AN x.name)/\∃q,w'=W.alloc q:=fun W=>(pT x W).mono fun e w' h=>⟨h.1,_,h.2.symm⟩;refine (TQ _).mono ?_;rintro e w' ⟨rfl,o,rfl⟩;have hmw:MapAt IU IX (wz.alloc o) w.heap.size (B0 (l.map (·.name)) k).1:=hmz.grown (Fm _ _ none) Ac;have hbw:AJ w (wz.alloc o):=hbz.alloc hbz.size _;have hbk:=hblk.alloc o;generalize wz.alloc o=w1 at hmw hbw hbk ⊢;have d0:=hbk.cell 0;have d1:=hbk.cell 1;have d2:=hbk.cell 2;have d3:=hbk.cell 3;have d4:=hbk.cell 4;have d5:=hbk.cell 5;have d6:=hbk.cell 6;have d7:=hbk.cell 7;have lb:=hbk.lt;simp only [Ai,An,Aw] at d0 d1 d2 d3 d4 d5 d6 d7;clear hwz hmz hbz hblk hbk e0 e1 e2 e3 e4 e5 e6 e7 hbl;have hlook:=DH (DB underlying9) underlying260 (z:=AB AE 0) AL hmw x.name true;obtain ⟨PX,CY⟩:=Aj hmw hbw;clear hmw hbw HM HB;cases hgt:getM (B0 (l.map (·.name)) k).1 x.name with
  |
   some v=>
   rw [hgt] at hlook;simp only [Ct,Cu,Ce,GF] at hlook;have LS:=AF hgt;clear hgt;go_wp2;go_roundg (n - (k+1))
   case measure=>exact Ec
   case rel=>
    have he:B0 (l.map (·.name)) (k+1)=((B0 (l.map (·.name)) k).1,true):=by rw [GT HX.o,Mh LS.o]
    exact UB
  |
   none=>
   rw [hgt] at hlook;simp only [Ct,JJ,Jt,Hr] at hlook;have LS:=AF hgt;clear hgt;go_wp2_with fail;refine (TQ _).mono ?_;rintro e w' ⟨rfl,o,rfl⟩;have Le:MapAt IU IX (w1.alloc o) w.heap.size (B0 (l.map (·.name)) k).1:=PX.o.grown (Fm _ _ none) Ac;have hbw2:AJ w (w1.alloc o):=CY.o.alloc CY.o.size _;generalize w1.alloc o=w2 at Le hbw2 ⊢;obtain ⟨w3,hrun3,EI,hg3⟩:=FG (DB underlying9) underlying260 Le x.name (k:Int);have HB3:=AF (hbw2.grown hg3 hbw2.size (fun r e=>by cases e;exact Ad _));clear Le hbw2;have G8:=AF EI;clear EI hg3 hlook;go_wp2;go_roundg (n - (k+1))
   case measure=>exact Ec
   have he:B0 (l.map (·.name)) (k+1)=(Ha (B0 (l.map (·.name)) k).1 x.name (k:Int),(B0 (l.map (·.name)) k).2):=by rw [GT HX.o,N1 LS.o]
   exact UC
 exact bO
end Go.Proofs.YtpmpddfgifhlbaaGreatDoor
