import Derived.Test.YtamhoilkpppdbaaGreatDoorK04
import Derived.Deep.RegionLaw
namespace Go.Proofs.YtamhoilkpppdbaaGreatDoor
set_option maxHeartbeats 8000000
set_option maxRecDepth 100000
open Go renaming World→AH, Value→AN, Calls→AS, TypeId→Af, Program→BA, Addr→Aa
open Go.RowKit renaming Below→BI
open Go.Proofs.Tryz
variable (A1 A2 A3 A4 A5 A6:Option Aa) (n1 c1 n2 c2 n3 c3 n4 c4 n5 c5 n6 c6:Nat)
open Go.Value renaming slice→AB, int→AE, string→AL, pointer→AW, bool→Ab, agg→AP, tuple→BQ
open Go.IntKind renaming i64→AF
open Go.Ending renaming returned→AU, panicked→Bz
open Go.Obj renaming cells→AO
open Go.RowKit
theorem zI {x y:Mg} (e0:x.names=y.names) (e1:x.name=y.name) (e2:x.src=y.src) (e3:x.dst=y.dst):true=decide (x=y):=by
 obtain ⟨u0,u1,u2,u3⟩:=x;obtain ⟨v0,v1,v2,v3⟩:=y
 skip
 simp_all
theorem fN (A1 B1 A2 B2:Option Aa) (n1 c1 m1 d1 n2 c2 m2 d2:Nat) (x y:Mg) (w:AH) (h1:Ag 1 DQ w (AB A1 n1 c1) x.names) (k1:Ag 1 DQ w (AB B1 m1 d1) y.names) (h2:Ag 1 iR w (AB A2 n2 c2) x.src) (k2:Ag 1 iR w (AB B2 m2 d2) y.src):
 AS prog 190 #[AP #[AB A1 n1 c1,AL x.name,AB A2 n2 c2,AE AF x.dst],AP #[AB B1 m1 d1,AL y.name,AB B2 m2 d2,AE AF y.dst]] w fun e w'=>e=AU (Ab (decide (x=y)))/\AK w w':=by
 have H1:=AA h1;have K1:=AA k1;have H2:=AA h2;have K2:=AA k2;clear h1 k1 h2 k2;go_enter func190,ntmps190;go_upto_region 1 with fail;obtain ⟨wb,hwb⟩:=Ad ((w.alloc (AO #[AB A1 n1 c1,AL x.name,AB A2 n2 c2,AE AF x.dst] 290)).alloc (AO #[AB B1 m1 d1,AL y.name,AB B2 m2 d2,AE AF y.dst] 290));rw [<-hwb];have hbb:AK w wb:=by rw [hwb];exact (BE _ _).alloc AX _
 have kA:AZ wb w.heap.size 290 #[AB A1 n1 c1,AL x.name,AB A2 n2 c2,AE AF x.dst]:=by rw [hwb];exact (AZ.new _ _ _).alloc _
 have kB:AZ wb (w.heap.size+1) 290 #[AB B1 m1 d1,AL y.name,AB B2 m2 d2,AE AF y.dst]:=by rw [hwb];exact DY AX
 obtain ⟨ga,hga⟩:=Ad w.heap.size;obtain ⟨gb,hgb⟩:=Ad (w.heap.size+1);rw [<-hgb] at kB ⊢;rw [<-hga] at kA ⊢;have Ha:ga=w.heap.size:=hga;clear hwb hga hgb;have la:=kA.lt;have lb:=kB.lt;have a0:=kA.cell 0;have b0:=kB.cell 0;have a1:=kA.cell 1;have b1:=kB.cell 1;have a2:=kA.cell 2;have b2:=kB.cell 2;have a3:=kA.cell 3;have b3:=kB.cell 3;simp only [Ak,Al,Az] at a0 b0 a1 b1 a2 b2 a3 b3;have HA:=AA kA;have HB:=AA kB;have BG:=AA hbb;have Bh:AI (AK wb wb):=AA (Ae _ _);clear kA kB hbb Ha;by_cases e0:x.names=y.names
 case neg=>
  have HC:AI (AS prog 120 #[AB A1 n1 c1,AB B1 m1 d1] wb fun e w'=>e=AU (Ab false)/\AK wb w'):=AA (by have:=IU A1 B1 n1 c1 m1 d1 x.names y.names wb (H1.o.mono BV (AV BG.o Bh.o)) (K1.o.mono BV (AV BG.o Bh.o));rw [show A8 x.names y.names=false by simp [A8,e0]] at this;exact this)
  exact yP
 have HC:AI (AS prog 120 #[AB A1 n1 c1,AB B1 m1 d1] wb fun e w'=>e=AU (Ab true)/\AK wb w'):=AA (by have:=IU A1 B1 n1 c1 m1 d1 x.names y.names wb (H1.o.mono BV (AV BG.o Bh.o)) (K1.o.mono BV (AV BG.o Bh.o));rw [show A8 x.names y.names=true by simp [A8,e0]] at this;exact this)
 have E0:=AA e0;clear e0;go_wp2_with (go_at_call 120;refine HC.o.mono ?_;clear HC);rintro e w1 ⟨rfl,hb1⟩;have Bi:=AA (AV Bh.o hb1);clear hb1 a0 b0 a1 b1 a2 b2 a3 b3;have a0:=(HA.o.below Bi.o la).cell 0;have b0:=(HB.o.below Bi.o lb).cell 0;have a1:=(HA.o.below Bi.o la).cell 1;have b1:=(HB.o.below Bi.o lb).cell 1;have a2:=(HA.o.below Bi.o la).cell 2;have b2:=(HB.o.below Bi.o lb).cell 2;have a3:=(HA.o.below Bi.o la).cell 3;have b3:=(HB.o.below Bi.o lb).cell 3;simp only [Ak,Al,Az] at a0 b0 a1 b1 a2 b2 a3 b3;by_cases e1:x.name=y.name
 case neg=>
  have s1:(x.name.toList==y.name.toList)=false:=by rw [DG];exact Bc e1
  have E1:=AA e1;clear e1;go_wp2_with fail;go_ret;refine ⟨Ay ?_,AV BG.o Bi.o⟩;exact (Bc (fun h=>E1.o Ko)).symm
 have s1:(x.name.toList==y.name.toList)=true:=by rw [DG];exact BR e1
 have E1:=AA e1;clear e1;by_cases e2:x.src=y.src
 case neg=>
  have HC:AI (AS prog 71 #[AB A2 n2 c2,AB B2 m2 d2] w1 fun e w'=>e=AU (Ab false)/\AK w1 w'):=AA (by have:=Rz A2 B2 n2 c2 m2 d2 x.src y.src w1 (H2.o.mono Ht (AV BG.o Bi.o)) (K2.o.mono Ht (AV BG.o Bi.o));rw [show A8 x.src y.src=false by simp [A8,e2]] at this;exact this)
  have E2:=AA e2;clear e2;go_wp2_with (go_at_call 71;refine HC.o.mono ?_;clear HC);rintro e w2 ⟨rfl,hb2⟩;have Co:=AA (AV Bi.o hb2);clear hb2;go_wp2_with fail;go_ret;exact ⟨Ay (Bc (fun h=>E2.o Ko)).symm,AV BG.o Co.o⟩
 have HC:AI (AS prog 71 #[AB A2 n2 c2,AB B2 m2 d2] w1 fun e w'=>e=AU (Ab true)/\AK w1 w'):=AA (by have:=Rz A2 B2 n2 c2 m2 d2 x.src y.src w1 (H2.o.mono Ht (AV BG.o Bi.o)) (K2.o.mono Ht (AV BG.o Bi.o));rw [show A8 x.src y.src=true by simp [A8,e2]] at this;exact this)
 have E2:=AA e2;clear e2;go_wp2_with (go_at_call 71;refine HC.o.mono ?_;clear HC);rintro e w2 ⟨rfl,hb2⟩;have Co:=AA (AV Bi.o hb2);clear hb2 a0 b0 a1 b1 a2 b2 a3 b3;have a0:=(HA.o.below Co.o la).cell 0;have b0:=(HB.o.below Co.o lb).cell 0;have a1:=(HA.o.below Co.o la).cell 1;have b1:=(HB.o.below Co.o lb).cell 1;have a2:=(HA.o.below Co.o la).cell 2;have b2:=(HB.o.below Co.o lb).cell 2;have a3:=(HA.o.below Co.o la).cell 3;have b3:=(HB.o.below Co.o lb).cell 3;simp only [Ak,Al,Az] at a0 b0 a1 b1 a2 b2 a3 b3;by_cases e3:x.dst=y.dst
 case neg=>have E3:=AA e3;go_wp2_with fail;go_ret;refine ⟨Ay ?_,AV BG.o Co.o⟩;rw [Bc (fun h=>E3.o Ko)];simpa using E3.o
 have E3:=AA e3;go_wp2_with fail;go_ret;exact ⟨Ay (by rw [<-zI E0.o E1.o E2.o E3.o] <;> simp [E3.o]),AV BG.o Co.o⟩
theorem WQ (A B:Option Aa) (n c m d:Nat) (l r:List Mg) (w:AH) (hl:Ag 4 Hc w (AB A n c) l) (hr:Ag 4 Hc w (AB B m d) r):
 AS prog 189 #[AB A n c,AB B m d,.func (.func 190) #[] #[]] w fun e w'=>e=AU (Ab (A8 l r))/\AK w w':=by
 have hn2:n<=9223372036854775807:=by have:=hl.le;omega
 have hln:=hl.len;have hrn:=hr.len;have HL:=AA hl;have HR:=AA hr;clear hl hr;by_cases e:n=m
 ·subst e
  have el:l.length=r.length:=AG
  have HN:=AA hln;have HE:=AA el;clear hln hrn el;obtain ⟨v,hv⟩:=BP (A8 l r);rw [hv];have HV:AI (A8 (l.drop 0) (r.drop 0)=v):=AA hv;clear hv;go_enter func189,ntmps189;go_wp2_with fail;go_loopg [17] n (fun q i wr=>∃k:Nat,k<=n/\q=n - k/\i=AE AF k/\A8 (l.drop k) (r.drop k)=v/\AK w wr)
  case atStart=>exact Jz
  obtain ⟨k,hk,hq,rfl,hv,hb⟩:=hrel;have HQ:=AA hq;have HB:=AA hb;have Dw:=AA hv;clear hq hb hv HV;by_cases hlt:k < n
  ·obtain ⟨a,ao,x,A1,n1,c1,A2,n2,c2,rfl,hal,hx,e0,e1,e2,e3,g1,g2⟩:=tG (HL.o.mono Fy HB.o) hlt
   obtain ⟨b,bo,y,B1,m1,d1,B2,m2,d2,rfl,hbl,hy,f0,f1,f2,f3,j1,j2⟩:=tG (HR.o.mono Fy HB.o) hlt;have HX:=AA hx;have HY:=AA hy;have G1:=AA g1;have J1:=AA j1;have G2:=AA g2;have J2:=AA j2;have hkn:(k:Int) < (n:Int):=AG
   have hk0:=Int.natCast_nonneg k
   clear hx hy g1 g2 j1 j2;go_wp2_with (go_at_call 190;refine (fN A1 B1 A2 B2 n1 c1 m1 d1 n2 c2 m2 d2 x y _ (G1.o.1.mono BV ((BE _ _).alloc AX _)) (J1.o.1.mono BV ((BE _ _).alloc AX _)) (G2.o.1.mono Ht ((BE _ _).alloc AX _)) (J2.o.1.mono Ht ((BE _ _).alloc AX _))).mono ?_);rintro e w1 ⟨rfl,hb1⟩;have HB1:=AA (HB.o.trans (((BE _ _).alloc AX _).trans (hb1.mono BN) |>.mono HB.o.size));by_cases exy:x=y
   ·have hd:decide (x=y)=true:=BR exy
    rw [hd];have VB:=AA exy;clear exy hd hb1;go_wp2_with fail;go_roundg (n - (k+1))
    case measure=>exact BS
    case rel=>exact T9
   exact US
  exact L7
 have el:¬l.length=r.length:=AG
 rw [FX el];go_enter func189,ntmps189;exact Jy
theorem jq {x y:Cd} (e0:x.name=y.name) (e1:x.most=y.most) (e2:x.may=y.may):true=decide (x=y):=by
 obtain ⟨u0,u1,u2⟩:=x;obtain ⟨v0,v1,v2⟩:=y
 skip
 simp_all
theorem bk (A1 B1:Option Aa) (n1 c1 m1 d1:Nat) (x y:Cd) (w:AH) (h1:Ag 4 IH w (AB A1 n1 c1) x.may) (k1:Ag 4 IH w (AB B1 m1 d1) y.may):
 AS prog 129 #[AP #[AL x.name,AB A1 n1 c1,AE AF x.most],AP #[AL y.name,AB B1 m1 d1,AE AF y.most]] w fun e w'=>e=AU (Ab (decide (x=y)))/\AK w w':=by
 have H1:=AA h1;have K1:=AA k1;clear h1 k1;go_enter func129,ntmps129;go_upto_region 1 with fail;obtain ⟨wb,hwb⟩:=Ad ((w.alloc (AO #[AL x.name,AB A1 n1 c1,AE AF x.most] 166)).alloc (AO #[AL y.name,AB B1 m1 d1,AE AF y.most] 166));rw [<-hwb];have hbb:AK w wb:=by rw [hwb];exact (BE _ _).alloc AX _
 have kA:AZ wb w.heap.size 166 #[AL x.name,AB A1 n1 c1,AE AF x.most]:=by rw [hwb];exact (AZ.new _ _ _).alloc _
 have kB:AZ wb (w.heap.size+1) 166 #[AL y.name,AB B1 m1 d1,AE AF y.most]:=by rw [hwb];exact DY AX
 obtain ⟨ga,hga⟩:=Ad w.heap.size;obtain ⟨gb,hgb⟩:=Ad (w.heap.size+1);rw [<-hgb] at kB ⊢;rw [<-hga] at kA ⊢;have Ha:ga=w.heap.size:=hga;clear hwb hga hgb;have la:=kA.lt;have lb:=kB.lt;have a0:=kA.cell 0;have b0:=kB.cell 0;have a1:=kA.cell 1;have b1:=kB.cell 1;have a2:=kA.cell 2;have b2:=kB.cell 2;simp only [Ak,Al,Az] at a0 b0 a1 b1 a2 b2;have HA:=AA kA;have HB:=AA kB;have BG:=AA hbb;have Bh:AI (AK wb wb):=AA (Ae _ _);clear kA kB hbb Ha;by_cases e0:x.name=y.name
 case neg=>
  have s0:(x.name.toList==y.name.toList)=false:=by rw [DG];exact Bc e0
  exact UR
 have s0:(x.name.toList==y.name.toList)=true:=by rw [DG];exact BR e0
 have E0:=AA e0;clear e0;by_cases e1:x.most=y.most
 case neg=>have E1:=AA e1;exact bI
 have E1:=AA e1;by_cases e2:x.may=y.may
 case neg=>
  have HC:AI (AS prog 195 #[AB A1 n1 c1,AB B1 m1 d1] wb fun e w'=>e=AU (Ab false)/\AK wb w'):=AA (by have:=Xg A1 B1 n1 c1 m1 d1 x.may y.may wb (H1.o.mono IG (AV BG.o Bh.o)) (K1.o.mono IG (AV BG.o Bh.o));rw [show A8 x.may y.may=false by simp [A8,e2]] at this;exact this)
  have E2:=AA e2;clear e2;go_wp2_with (go_at_call 195;refine HC.o.mono ?_;clear HC);exact yG
 have HC:AI (AS prog 195 #[AB A1 n1 c1,AB B1 m1 d1] wb fun e w'=>e=AU (Ab true)/\AK wb w'):=AA (by have:=Xg A1 B1 n1 c1 m1 d1 x.may y.may wb (H1.o.mono IG (AV BG.o Bh.o)) (K1.o.mono IG (AV BG.o Bh.o));rw [show A8 x.may y.may=true by simp [A8,e2]] at this;exact this)
 have E2:=AA e2;clear e2;go_wp2_with (go_at_call 195;refine HC.o.mono ?_;clear HC);rintro e w1 ⟨rfl,hb1⟩;have Bi:=AA (AV Bh.o hb1);clear hb1;go_wp2_with fail;go_ret;exact ⟨Ay (jq E0.o E1.o E2.o),AV BG.o Bi.o⟩
theorem Uy (A B:Option Aa) (n c m d:Nat) (l r:List Cd) (w:AH) (hl:Ag 3 BW w (AB A n c) l) (hr:Ag 3 BW w (AB B m d) r):
 AS prog 128 #[AB A n c,AB B m d,.func (.func 129) #[] #[]] w fun e w'=>e=AU (Ab (A8 l r))/\AK w w':=by
 have hn2:n<=9223372036854775807:=by have:=hl.le;omega
 have hln:=hl.len;have hrn:=hr.len;have HL:=AA hl;have HR:=AA hr;clear hl hr;by_cases e:n=m
 ·subst e
  have el:l.length=r.length:=AG
  have HN:=AA hln;have HE:=AA el;clear hln hrn el;obtain ⟨v,hv⟩:=BP (A8 l r);rw [hv];have HV:AI (A8 (l.drop 0) (r.drop 0)=v):=AA hv;clear hv;go_enter func128,ntmps128;go_wp2_with fail;go_loopg [17] n (fun q i wr=>∃k:Nat,k<=n/\q=n - k/\i=AE AF k/\A8 (l.drop k) (r.drop k)=v/\AK w wr)
  case atStart=>exact Jz
  obtain ⟨k,hk,hq,rfl,hv,hb⟩:=hrel;have HQ:=AA hq;have HB:=AA hb;have Dw:=AA hv;clear hq hb hv HV;by_cases hlt:k < n
  ·obtain ⟨a,ao,x,A1,n1,c1,rfl,hal,hx,e0,e1,e2,g1⟩:=Lw (HL.o.mono BO HB.o) hlt
   obtain ⟨b,bo,y,B1,m1,d1,rfl,hbl,hy,f0,f1,f2,j1⟩:=Lw (HR.o.mono BO HB.o) hlt;have HX:=AA hx;have HY:=AA hy;have G1:=AA g1;have J1:=AA j1;have hkn:(k:Int) < (n:Int):=AG
   have hk0:=Int.natCast_nonneg k
   clear hx hy g1 j1;go_wp2_with (go_at_call 129;refine (bk A1 B1 n1 c1 m1 d1 x y _ (G1.o.1.mono IG ((BE _ _).alloc AX _)) (J1.o.1.mono IG ((BE _ _).alloc AX _))).mono ?_);rintro e w1 ⟨rfl,hb1⟩;have HB1:=AA (HB.o.trans (((BE _ _).alloc AX _).trans (hb1.mono BN) |>.mono HB.o.size));by_cases exy:x=y
   ·have hd:decide (x=y)=true:=BR exy
    rw [hd];have VB:=AA exy;clear exy hd hb1;go_wp2_with fail;go_roundg (n - (k+1))
    case measure=>exact BS
    case rel=>exact T9
   exact US
  exact L7
 have el:¬l.length=r.length:=AG
 rw [FX el];go_enter func128,ntmps128;exact Jy
theorem mP {x y:BL} (e0:x.name=y.name) (e1:x.FD=y.FD) (e2:x.Ar=y.Ar) (e3:x.version=y.version) (e4:x.fields=y.fields) (e5:x.deps=y.deps):true=decide (x=y):=by
 obtain ⟨u0,u1,u2,u3,u4,u5⟩:=x;obtain ⟨v0,v1,v2,v3,v4,v5⟩:=y
 skip
 simp_all
theorem fM (A1 B1 A2 B2:Option Aa) (n1 c1 m1 d1 n2 c2 m2 d2:Nat) (x y:BL) (w:AH) (h1:Ag 11 EU w (AB A1 n1 c1) x.fields) (k1:Ag 11 EU w (AB B1 m1 d1) y.fields) (h2:Ag 4 Hc w (AB A2 n2 c2) x.deps) (k2:Ag 4 Hc w (AB B2 m2 d2) y.deps):
 AS prog 123 #[AP #[AL x.name,AL x.FD,AE AF x.Ar,AE AF x.version,AB A1 n1 c1,AB A2 n2 c2],AP #[AL y.name,AL y.FD,AE AF y.Ar,AE AF y.version,AB B1 m1 d1,AB B2 m2 d2]] w fun e w'=>e=AU (Ab (decide (x=y)))/\AK w w':=by
 have H1:=AA h1;have K1:=AA k1;have H2:=AA h2;have K2:=AA k2;clear h1 k1 h2 k2;go_enter func123,ntmps123;go_upto_region 1 with fail;obtain ⟨wb,hwb⟩:=Ad ((w.alloc (AO #[AL x.name,AL x.FD,AE AF x.Ar,AE AF x.version,AB A1 n1 c1,AB A2 n2 c2] 85)).alloc (AO #[AL y.name,AL y.FD,AE AF y.Ar,AE AF y.version,AB B1 m1 d1,AB B2 m2 d2] 85));rw [<-hwb];have hbb:AK w wb:=by rw [hwb];exact (BE _ _).alloc AX _
 have kA:AZ wb w.heap.size 85 #[AL x.name,AL x.FD,AE AF x.Ar,AE AF x.version,AB A1 n1 c1,AB A2 n2 c2]:=by rw [hwb];exact (AZ.new _ _ _).alloc _
 have kB:AZ wb (w.heap.size+1) 85 #[AL y.name,AL y.FD,AE AF y.Ar,AE AF y.version,AB B1 m1 d1,AB B2 m2 d2]:=by rw [hwb];exact DY AX
 obtain ⟨ga,hga⟩:=Ad w.heap.size;obtain ⟨gb,hgb⟩:=Ad (w.heap.size+1);rw [<-hgb] at kB ⊢;rw [<-hga] at kA ⊢;have Ha:ga=w.heap.size:=hga;clear hwb hga hgb;have la:=kA.lt;have lb:=kB.lt;have a0:=kA.cell 0;have b0:=kB.cell 0;have a1:=kA.cell 1;have b1:=kB.cell 1;have a2:=kA.cell 2;have b2:=kB.cell 2;have a3:=kA.cell 3;have b3:=kB.cell 3;have a4:=kA.cell 4;have b4:=kB.cell 4;have a5:=kA.cell 5;have b5:=kB.cell 5;simp only [Ak,Al,Az] at a0 b0 a1 b1 a2 b2 a3 b3 a4 b4 a5 b5;have HA:=AA kA;have HB:=AA kB;have BG:=AA hbb;have Bh:AI (AK wb wb):=AA (Ae _ _);clear kA kB hbb Ha;by_cases e0:x.name=y.name
 case neg=>
  have s0:(x.name.toList==y.name.toList)=false:=by rw [DG];exact Bc e0
  exact UR
 have s0:(x.name.toList==y.name.toList)=true:=by rw [DG];exact BR e0
 have E0:=AA e0;clear e0;by_cases e1:x.FD=y.FD
 case neg=>
  have s1:(x.FD.toList==y.FD.toList)=false:=by rw [DG];exact Bc e1
  have E1:=AA e1;clear e1;exact bI
 have s1:(x.FD.toList==y.FD.toList)=true:=by rw [DG];exact BR e1
 have E1:=AA e1;clear e1;by_cases e2:x.Ar=y.Ar
 case neg=>exact bK
 have E2:=AA e2;by_cases e3:x.version=y.version
 case neg=>exact bL
 have E3:=AA e3;by_cases e4:x.fields=y.fields
 case neg=>
  have HC:AI (AS prog 187 #[AB A1 n1 c1,AB B1 m1 d1,.func (.func 188) #[] #[]] wb fun e w'=>e=AU (Ab false)/\AK wb w'):=AA (by have:=Xh A1 B1 n1 c1 m1 d1 x.fields y.fields wb (H1.o.mono Cy (AV BG.o Bh.o)) (K1.o.mono Cy (AV BG.o Bh.o));rw [show A8 x.fields y.fields=false by simp [A8,e4]] at this;exact this)
  have E4:=AA e4;clear e4;go_wp2_with (go_at_call 187;refine HC.o.mono ?_;clear HC);exact yH
 have HC:AI (AS prog 187 #[AB A1 n1 c1,AB B1 m1 d1,.func (.func 188) #[] #[]] wb fun e w'=>e=AU (Ab true)/\AK wb w'):=AA (by have:=Xh A1 B1 n1 c1 m1 d1 x.fields y.fields wb (H1.o.mono Cy (AV BG.o Bh.o)) (K1.o.mono Cy (AV BG.o Bh.o));rw [show A8 x.fields y.fields=true by simp [A8,e4]] at this;exact this)
 have E4:=AA e4;clear e4;go_wp2_with (go_at_call 187;refine HC.o.mono ?_;clear HC);rintro e w1 ⟨rfl,hb1⟩;have Bi:=AA (AV Bh.o hb1);clear hb1 a0 b0 a1 b1 a2 b2 a3 b3 a4 b4 a5 b5;have a0:=(HA.o.below Bi.o la).cell 0;have b0:=(HB.o.below Bi.o lb).cell 0;have a1:=(HA.o.below Bi.o la).cell 1;have b1:=(HB.o.below Bi.o lb).cell 1;have a2:=(HA.o.below Bi.o la).cell 2;have b2:=(HB.o.below Bi.o lb).cell 2;have a3:=(HA.o.below Bi.o la).cell 3;have b3:=(HB.o.below Bi.o lb).cell 3;have a4:=(HA.o.below Bi.o la).cell 4;have b4:=(HB.o.below Bi.o lb).cell 4;have a5:=(HA.o.below Bi.o la).cell 5;have b5:=(HB.o.below Bi.o lb).cell 5;simp only [Ak,Al,Az] at a0 b0 a1 b1 a2 b2 a3 b3 a4 b4 a5 b5;by_cases e5:x.deps=y.deps
 case neg=>
  have HC:AI (AS prog 189 #[AB A2 n2 c2,AB B2 m2 d2,.func (.func 190) #[] #[]] w1 fun e w'=>e=AU (Ab false)/\AK w1 w'):=AA (by have:=WQ A2 B2 n2 c2 m2 d2 x.deps y.deps w1 (H2.o.mono Fy (AV BG.o Bi.o)) (K2.o.mono Fy (AV BG.o Bi.o));rw [show A8 x.deps y.deps=false by simp [A8,e5]] at this;exact this)
  have E5:=AA e5;clear e5;go_wp2_with (go_at_call 189;refine HC.o.mono ?_;clear HC);rintro e w2 ⟨rfl,hb2⟩;have Co:=AA (AV Bi.o hb2);clear hb2;go_wp2_with fail;go_ret;exact ⟨Ay (Bc (fun h=>E5.o Ko)).symm,AV BG.o Co.o⟩
 have HC:AI (AS prog 189 #[AB A2 n2 c2,AB B2 m2 d2,.func (.func 190) #[] #[]] w1 fun e w'=>e=AU (Ab true)/\AK w1 w'):=AA (by have:=WQ A2 B2 n2 c2 m2 d2 x.deps y.deps w1 (H2.o.mono Fy (AV BG.o Bi.o)) (K2.o.mono Fy (AV BG.o Bi.o));rw [show A8 x.deps y.deps=true by simp [A8,e5]] at this;exact this)
 have E5:=AA e5;clear e5;go_wp2_with (go_at_call 189;refine HC.o.mono ?_;clear HC);rintro e w2 ⟨rfl,hb2⟩;have Co:=AA (AV Bi.o hb2);clear hb2;go_wp2_with fail;go_ret;exact ⟨Ay (mP E0.o E1.o E2.o E3.o E4.o E5.o),AV BG.o Co.o⟩
theorem WO (A B:Option Aa) (n c m d:Nat) (l r:List BL) (w:AH) (hl:Ag 6 BU w (AB A n c) l) (hr:Ag 6 BU w (AB B m d) r):
 AS prog 122 #[AB A n c,AB B m d,.func (.func 123) #[] #[]] w fun e w'=>e=AU (Ab (A8 l r))/\AK w w':=by
 have hn2:n<=9223372036854775807:=by have:=hl.le;omega
 have hln:=hl.len;have hrn:=hr.len;have HL:=AA hl;have HR:=AA hr;clear hl hr;by_cases e:n=m
 ·subst e
  have el:l.length=r.length:=AG
  have HN:=AA hln;have HE:=AA el;clear hln hrn el;obtain ⟨v,hv⟩:=BP (A8 l r);rw [hv];have HV:AI (A8 (l.drop 0) (r.drop 0)=v):=AA hv;clear hv;go_enter func122,ntmps122;go_wp2_with fail;go_loopg [17] n (fun q i wr=>∃k:Nat,k<=n/\q=n - k/\i=AE AF k/\A8 (l.drop k) (r.drop k)=v/\AK w wr)
  case atStart=>exact Jz
  obtain ⟨k,hk,hq,rfl,hv,hb⟩:=hrel;have HQ:=AA hq;have HB:=AA hb;have Dw:=AA hv;clear hq hb hv HV;by_cases hlt:k < n
  ·obtain ⟨a,ao,x,A1,n1,c1,A2,n2,c2,rfl,hal,hx,e0,e1,e2,e3,e4,e5,g1,g2⟩:=Fx (HL.o.mono BM HB.o) hlt
   obtain ⟨b,bo,y,B1,m1,d1,B2,m2,d2,rfl,hbl,hy,f0,f1,f2,f3,f4,f5,j1,j2⟩:=Fx (HR.o.mono BM HB.o) hlt;have HX:=AA hx;have HY:=AA hy;have G1:=AA g1;have J1:=AA j1;have G2:=AA g2;have J2:=AA j2;have hkn:(k:Int) < (n:Int):=AG
   have hk0:=Int.natCast_nonneg k
   clear hx hy g1 g2 j1 j2;go_wp2_with (go_at_call 123;refine (fM A1 B1 A2 B2 n1 c1 m1 d1 n2 c2 m2 d2 x y _ (G1.o.1.mono Cy ((BE _ _).alloc AX _)) (J1.o.1.mono Cy ((BE _ _).alloc AX _)) (G2.o.1.mono Fy ((BE _ _).alloc AX _)) (J2.o.1.mono Fy ((BE _ _).alloc AX _))).mono ?_);rintro e w1 ⟨rfl,hb1⟩;have HB1:=AA (HB.o.trans (((BE _ _).alloc AX _).trans (hb1.mono BN) |>.mono HB.o.size));by_cases exy:x=y
   ·have hd:decide (x=y)=true:=BR exy
    rw [hd];have VB:=AA exy;clear exy hd hb1;go_wp2_with fail;go_roundg (n - (k+1))
    case measure=>exact BS
    case rel=>exact T9
   exact US
  exact L7
 have el:¬l.length=r.length:=AG
 rw [FX el];go_enter func122,ntmps122;exact Jy
theorem uY {x y:Ce} (e0:x.head=y.head) (e1:x.schema=y.schema) (e2:x.froms=y.froms) (e3:x.Cr=y.Cr) (e4:x.sets=y.sets):true=decide (x=y):=by
 obtain ⟨u0,u1,u2,u3,u4⟩:=x;obtain ⟨v0,v1,v2,v3,v4⟩:=y
 skip
 simp_all
theorem mE (A1 B1 A2 B2 A3 B3:Option Aa) (n1 c1 m1 d1 n2 c2 m2 d2 n3 c3 m3 d3:Nat) (x y:Ce) (w:AH) (h1:Ag 8 DH w (AB A1 n1 c1) x.froms) (k1:Ag 8 DH w (AB B1 m1 d1) y.froms) (h2:Ag 11 EH w (AB A2 n2 c2) x.Cr) (k2:Ag 11 EH w (AB B2 m2 d2) y.Cr) (h3:Ag 7 GZ w (AB A3 n3 c3) x.sets) (k3:Ag 7 GZ w (AB B3 m3 d3) y.sets):
 AS prog 125 #[AP #[AL x.head,AE AF x.schema,AB A1 n1 c1,AB A2 n2 c2,AB A3 n3 c3],AP #[AL y.head,AE AF y.schema,AB B1 m1 d1,AB B2 m2 d2,AB B3 m3 d3]] w fun e w'=>e=AU (Ab (decide (x=y)))/\AK w w':=by
 have H1:=AA h1;have K1:=AA k1;have H2:=AA h2;have K2:=AA k2;have H3:=AA h3;have K3:=AA k3;clear h1 k1 h2 k2 h3 k3;go_enter func125,ntmps125;go_upto_region 1 with fail;obtain ⟨wb,hwb⟩:=Ad ((w.alloc (AO #[AL x.head,AE AF x.schema,AB A1 n1 c1,AB A2 n2 c2,AB A3 n3 c3] 160)).alloc (AO #[AL y.head,AE AF y.schema,AB B1 m1 d1,AB B2 m2 d2,AB B3 m3 d3] 160));rw [<-hwb];have hbb:AK w wb:=by rw [hwb];exact (BE _ _).alloc AX _
 have kA:AZ wb w.heap.size 160 #[AL x.head,AE AF x.schema,AB A1 n1 c1,AB A2 n2 c2,AB A3 n3 c3]:=by rw [hwb];exact (AZ.new _ _ _).alloc _
 have kB:AZ wb (w.heap.size+1) 160 #[AL y.head,AE AF y.schema,AB B1 m1 d1,AB B2 m2 d2,AB B3 m3 d3]:=by rw [hwb];exact DY AX
 obtain ⟨ga,hga⟩:=Ad w.heap.size;obtain ⟨gb,hgb⟩:=Ad (w.heap.size+1);rw [<-hgb] at kB ⊢;rw [<-hga] at kA ⊢;have Ha:ga=w.heap.size:=hga;clear hwb hga hgb;have la:=kA.lt;have lb:=kB.lt;have a0:=kA.cell 0;have b0:=kB.cell 0;have a1:=kA.cell 1;have b1:=kB.cell 1;have a2:=kA.cell 2;have b2:=kB.cell 2;have a3:=kA.cell 3;have b3:=kB.cell 3;have a4:=kA.cell 4;have b4:=kB.cell 4;simp only [Ak,Al,Az] at a0 b0 a1 b1 a2 b2 a3 b3 a4 b4;have HA:=AA kA;have HB:=AA kB;have BG:=AA hbb;have Bh:AI (AK wb wb):=AA (Ae _ _);clear kA kB hbb Ha;by_cases e0:x.head=y.head
 case neg=>
  have s0:(x.head.toList==y.head.toList)=false:=by rw [DG];exact Bc e0
  exact UR
 have s0:(x.head.toList==y.head.toList)=true:=by rw [DG];exact BR e0
 have E0:=AA e0;clear e0;by_cases e1:x.schema=y.schema
 case neg=>have E1:=AA e1;exact bI
 have E1:=AA e1;by_cases e2:x.froms=y.froms
 case neg=>
  have HC:AI (AS prog 191 #[AB A1 n1 c1,AB B1 m1 d1] wb fun e w'=>e=AU (Ab false)/\AK wb w'):=AA (by have:=WM A1 B1 n1 c1 m1 d1 x.froms y.froms wb (H1.o.mono Dp (AV BG.o Bh.o)) (K1.o.mono Dp (AV BG.o Bh.o));rw [show A8 x.froms y.froms=false by simp [A8,e2]] at this;exact this)
  have E2:=AA e2;clear e2;go_wp2_with (go_at_call 191;refine HC.o.mono ?_;clear HC);exact yG
 have HC:AI (AS prog 191 #[AB A1 n1 c1,AB B1 m1 d1] wb fun e w'=>e=AU (Ab true)/\AK wb w'):=AA (by have:=WM A1 B1 n1 c1 m1 d1 x.froms y.froms wb (H1.o.mono Dp (AV BG.o Bh.o)) (K1.o.mono Dp (AV BG.o Bh.o));rw [show A8 x.froms y.froms=true by simp [A8,e2]] at this;exact this)
 have E2:=AA e2;clear e2;go_wp2_with (go_at_call 191;refine HC.o.mono ?_;clear HC);rintro e w1 ⟨rfl,hb1⟩;have Bi:=AA (AV Bh.o hb1);clear hb1 a0 b0 a1 b1 a2 b2 a3 b3 a4 b4;have a0:=(HA.o.below Bi.o la).cell 0;have b0:=(HB.o.below Bi.o lb).cell 0;have a1:=(HA.o.below Bi.o la).cell 1;have b1:=(HB.o.below Bi.o lb).cell 1;have a2:=(HA.o.below Bi.o la).cell 2;have b2:=(HB.o.below Bi.o lb).cell 2;have a3:=(HA.o.below Bi.o la).cell 3;have b3:=(HB.o.below Bi.o lb).cell 3;have a4:=(HA.o.below Bi.o la).cell 4;have b4:=(HB.o.below Bi.o lb).cell 4;simp only [Ak,Al,Az] at a0 b0 a1 b1 a2 b2 a3 b3 a4 b4;by_cases e3:x.Cr=y.Cr
 case neg=>
  have HC:AI (AS prog 192 #[AB A2 n2 c2,AB B2 m2 d2] w1 fun e w'=>e=AU (Ab false)/\AK w1 w'):=AA (by have:=WN A2 B2 n2 c2 m2 d2 x.Cr y.Cr w1 (H2.o.mono FG (AV BG.o Bi.o)) (K2.o.mono FG (AV BG.o Bi.o));rw [show A8 x.Cr y.Cr=false by simp [A8,e3]] at this;exact this)
  have E3:=AA e3;clear e3;go_wp2_with (go_at_call 192;refine HC.o.mono ?_;clear HC);rintro e w2 ⟨rfl,hb2⟩;have Co:=AA (AV Bi.o hb2);clear hb2;go_wp2_with fail;go_ret;exact ⟨Ay (Bc (fun h=>E3.o Ko)).symm,AV BG.o Co.o⟩
 have HC:AI (AS prog 192 #[AB A2 n2 c2,AB B2 m2 d2] w1 fun e w'=>e=AU (Ab true)/\AK w1 w'):=AA (by have:=WN A2 B2 n2 c2 m2 d2 x.Cr y.Cr w1 (H2.o.mono FG (AV BG.o Bi.o)) (K2.o.mono FG (AV BG.o Bi.o));rw [show A8 x.Cr y.Cr=true by simp [A8,e3]] at this;exact this)
 have E3:=AA e3;clear e3;go_wp2_with (go_at_call 192;refine HC.o.mono ?_;clear HC);rintro e w2 ⟨rfl,hb2⟩;have Co:=AA (AV Bi.o hb2);clear hb2 a0 b0 a1 b1 a2 b2 a3 b3 a4 b4;have a0:=(HA.o.below Co.o la).cell 0;have b0:=(HB.o.below Co.o lb).cell 0;have a1:=(HA.o.below Co.o la).cell 1;have b1:=(HB.o.below Co.o lb).cell 1;have a2:=(HA.o.below Co.o la).cell 2;have b2:=(HB.o.below Co.o lb).cell 2;have a3:=(HA.o.below Co.o la).cell 3;have b3:=(HB.o.below Co.o lb).cell 3;have a4:=(HA.o.below Co.o la).cell 4;have b4:=(HB.o.below Co.o lb).cell 4;simp only [Ak,Al,Az] at a0 b0 a1 b1 a2 b2 a3 b3 a4 b4;by_cases e4:x.sets=y.sets
 case neg=>
  have HC:AI (AS prog 193 #[AB A3 n3 c3,AB B3 m3 d3] w2 fun e w'=>e=AU (Ab false)/\AK w2 w'):=AA (by have:=Xf A3 B3 n3 c3 m3 d3 x.sets y.sets w2 (H3.o.mono Fw (AV BG.o Co.o)) (K3.o.mono Fw (AV BG.o Co.o));rw [show A8 x.sets y.sets=false by simp [A8,e4]] at this;exact this)
  have E4:=AA e4;clear e4;go_wp2_with (go_at_call 193;refine HC.o.mono ?_;clear HC);rintro e w3 ⟨rfl,hb3⟩;have I8:=AA (AV Co.o hb3);clear hb3;go_wp2_with fail;go_ret;exact ⟨Ay (Bc (fun h=>E4.o Ko)).symm,AV BG.o I8.o⟩
 have HC:AI (AS prog 193 #[AB A3 n3 c3,AB B3 m3 d3] w2 fun e w'=>e=AU (Ab true)/\AK w2 w'):=AA (by have:=Xf A3 B3 n3 c3 m3 d3 x.sets y.sets w2 (H3.o.mono Fw (AV BG.o Co.o)) (K3.o.mono Fw (AV BG.o Co.o));rw [show A8 x.sets y.sets=true by simp [A8,e4]] at this;exact this)
 have E4:=AA e4;clear e4;go_wp2_with (go_at_call 193;refine HC.o.mono ?_;clear HC);rintro e w3 ⟨rfl,hb3⟩;have I8:=AA (AV Co.o hb3);clear hb3;go_wp2_with fail;go_ret;exact ⟨Ay (uY E0.o E1.o E2.o E3.o E4.o),AV BG.o I8.o⟩
theorem ZY (A B:Option Aa) (n c m d:Nat) (l r:List Ce) (w:AH) (hl:Ag 5 CF w (AB A n c) l) (hr:Ag 5 CF w (AB B m d) r):
 AS prog 124 #[AB A n c,AB B m d,.func (.func 125) #[] #[]] w fun e w'=>e=AU (Ab (A8 l r))/\AK w w':=by
 have hn2:n<=9223372036854775807:=by have:=hl.le;omega
 have hln:=hl.len;have hrn:=hr.len;have HL:=AA hl;have HR:=AA hr;clear hl hr;by_cases e:n=m
 ·subst e
  have el:l.length=r.length:=AG
  have HN:=AA hln;have HE:=AA el;clear hln hrn el;obtain ⟨v,hv⟩:=BP (A8 l r);rw [hv];have HV:AI (A8 (l.drop 0) (r.drop 0)=v):=AA hv;clear hv;go_enter func124,ntmps124;go_wp2_with fail;go_loopg [17] n (fun q i wr=>∃k:Nat,k<=n/\q=n - k/\i=AE AF k/\A8 (l.drop k) (r.drop k)=v/\AK w wr)
  case atStart=>exact Jz
  obtain ⟨k,hk,hq,rfl,hv,hb⟩:=hrel;have HQ:=AA hq;have HB:=AA hb;have Dw:=AA hv;clear hq hb hv HV;by_cases hlt:k < n
  ·obtain ⟨a,ao,x,A1,n1,c1,A2,n2,c2,A3,n3,c3,rfl,hal,hx,e0,e1,e2,e3,e4,g1,g2,g3⟩:=Ps (HL.o.mono Be HB.o) hlt
   obtain ⟨b,bo,y,B1,m1,d1,B2,m2,d2,B3,m3,d3,rfl,hbl,hy,f0,f1,f2,f3,f4,j1,j2,j3⟩:=Ps (HR.o.mono Be HB.o) hlt;have HX:=AA hx;have HY:=AA hy;have G1:=AA g1;have J1:=AA j1;have G2:=AA g2;have J2:=AA j2;have G3:=AA g3;have J3:=AA j3;have hkn:(k:Int) < (n:Int):=AG
   have hk0:=Int.natCast_nonneg k
   clear hx hy g1 g2 g3 j1 j2 j3;go_wp2_with (go_at_call 125;refine (mE A1 B1 A2 B2 A3 B3 n1 c1 m1 d1 n2 c2 m2 d2 n3 c3 m3 d3 x y _ (G1.o.1.mono Dp ((BE _ _).alloc AX _)) (J1.o.1.mono Dp ((BE _ _).alloc AX _)) (G2.o.1.mono FG ((BE _ _).alloc AX _)) (J2.o.1.mono FG ((BE _ _).alloc AX _)) (G3.o.1.mono Fw ((BE _ _).alloc AX _)) (J3.o.1.mono Fw ((BE _ _).alloc AX _))).mono ?_);rintro e w1 ⟨rfl,hb1⟩;have HB1:=AA (HB.o.trans (((BE _ _).alloc AX _).trans (hb1.mono BN) |>.mono HB.o.size));by_cases exy:x=y
   ·have hd:decide (x=y)=true:=BR exy
    rw [hd];have VB:=AA exy;clear exy hd hb1;go_wp2_with fail;go_roundg (n - (k+1))
    case measure=>exact BS
    case rel=>exact T9
   exact US
  exact L7
 have el:¬l.length=r.length:=AG
 rw [FX el];go_enter func124,ntmps124;exact Jy
theorem ju {x y:C0} (e0:x.from_=y.from_) (e1:x.DJ=y.DJ) (e2:x.a=y.a) (e3:x.b=y.b) (e4:x.moves=y.moves):true=decide (x=y):=by
 obtain ⟨u0,u1,u2,u3,u4⟩:=x;obtain ⟨v0,v1,v2,v3,v4⟩:=y
 skip
 simp_all
theorem bq (A1 B1:Option Aa) (n1 c1 m1 d1:Nat) (x y:C0) (w:AH) (h1:Ag 5 GF w (AB A1 n1 c1) x.moves) (k1:Ag 5 GF w (AB B1 m1 d1) y.moves):
 AS prog 127 #[AP #[AL x.from_,AL x.DJ,AE AF x.a,AE AF x.b,AB A1 n1 c1],AP #[AL y.from_,AL y.DJ,AE AF y.a,AE AF y.b,AB B1 m1 d1]] w fun e w'=>e=AU (Ab (decide (x=y)))/\AK w w':=by
 have H1:=AA h1;have K1:=AA k1;clear h1 k1;go_enter func127,ntmps127;go_upto_region 1 with fail;obtain ⟨wb,hwb⟩:=Ad ((w.alloc (AO #[AL x.from_,AL x.DJ,AE AF x.a,AE AF x.b,AB A1 n1 c1] 163)).alloc (AO #[AL y.from_,AL y.DJ,AE AF y.a,AE AF y.b,AB B1 m1 d1] 163));rw [<-hwb];have hbb:AK w wb:=by rw [hwb];exact (BE _ _).alloc AX _
 have kA:AZ wb w.heap.size 163 #[AL x.from_,AL x.DJ,AE AF x.a,AE AF x.b,AB A1 n1 c1]:=by rw [hwb];exact (AZ.new _ _ _).alloc _
 have kB:AZ wb (w.heap.size+1) 163 #[AL y.from_,AL y.DJ,AE AF y.a,AE AF y.b,AB B1 m1 d1]:=by rw [hwb];exact DY AX
 obtain ⟨ga,hga⟩:=Ad w.heap.size;obtain ⟨gb,hgb⟩:=Ad (w.heap.size+1);rw [<-hgb] at kB ⊢;rw [<-hga] at kA ⊢;have Ha:ga=w.heap.size:=hga;clear hwb hga hgb;have la:=kA.lt;have lb:=kB.lt;have a0:=kA.cell 0;have b0:=kB.cell 0;have a1:=kA.cell 1;have b1:=kB.cell 1;have a2:=kA.cell 2;have b2:=kB.cell 2;have a3:=kA.cell 3;have b3:=kB.cell 3;have a4:=kA.cell 4;have b4:=kB.cell 4;simp only [Ak,Al,Az] at a0 b0 a1 b1 a2 b2 a3 b3 a4 b4;have HA:=AA kA;have HB:=AA kB;have BG:=AA hbb;have Bh:AI (AK wb wb):=AA (Ae _ _);clear kA kB hbb Ha;by_cases e0:x.from_=y.from_
 case neg=>
  have s0:(x.from_.toList==y.from_.toList)=false:=by rw [DG];exact Bc e0
  exact UR
 have s0:(x.from_.toList==y.from_.toList)=true:=by rw [DG];exact BR e0
 have E0:=AA e0;clear e0;by_cases e1:x.DJ=y.DJ
 case neg=>
  have s1:(x.DJ.toList==y.DJ.toList)=false:=by rw [DG];exact Bc e1
  have E1:=AA e1;clear e1;exact bI
 have s1:(x.DJ.toList==y.DJ.toList)=true:=by rw [DG];exact BR e1
 have E1:=AA e1;clear e1;by_cases e2:x.a=y.a
 case neg=>exact bK
 have E2:=AA e2;by_cases e3:x.b=y.b
 case neg=>exact bL
 have E3:=AA e3;by_cases e4:x.moves=y.moves
 case neg=>
  have HC:AI (AS prog 194 #[AB A1 n1 c1,AB B1 m1 d1] wb fun e w'=>e=AU (Ab false)/\AK wb w'):=AA (by have:=WL A1 B1 n1 c1 m1 d1 x.moves y.moves wb (H1.o.mono Fq (AV BG.o Bh.o)) (K1.o.mono Fq (AV BG.o Bh.o));rw [show A8 x.moves y.moves=false by simp [A8,e4]] at this;exact this)
  have E4:=AA e4;clear e4;go_wp2_with (go_at_call 194;refine HC.o.mono ?_;clear HC);exact yH
 have HC:AI (AS prog 194 #[AB A1 n1 c1,AB B1 m1 d1] wb fun e w'=>e=AU (Ab true)/\AK wb w'):=AA (by have:=WL A1 B1 n1 c1 m1 d1 x.moves y.moves wb (H1.o.mono Fq (AV BG.o Bh.o)) (K1.o.mono Fq (AV BG.o Bh.o));rw [show A8 x.moves y.moves=true by simp [A8,e4]] at this;exact this)
 have E4:=AA e4;clear e4;go_wp2_with (go_at_call 194;refine HC.o.mono ?_;clear HC);rintro e w1 ⟨rfl,hb1⟩;have Bi:=AA (AV Bh.o hb1);clear hb1;go_wp2_with fail;go_ret;exact ⟨Ay (ju E0.o E1.o E2.o E3.o E4.o),AV BG.o Bi.o⟩
theorem Uz (A B:Option Aa) (n c m d:Nat) (l r:List C0) (w:AH) (hl:Ag 5 Bw w (AB A n c) l) (hr:Ag 5 Bw w (AB B m d) r):
 AS prog 126 #[AB A n c,AB B m d,.func (.func 127) #[] #[]] w fun e w'=>e=AU (Ab (A8 l r))/\AK w w':=by
 have hn2:n<=9223372036854775807:=by have:=hl.le;omega
 have hln:=hl.len;have hrn:=hr.len;have HL:=AA hl;have HR:=AA hr;clear hl hr;by_cases e:n=m
 ·subst e
  have el:l.length=r.length:=AG
  have HN:=AA hln;have HE:=AA el;clear hln hrn el;obtain ⟨v,hv⟩:=BP (A8 l r);rw [hv];have HV:AI (A8 (l.drop 0) (r.drop 0)=v):=AA hv;clear hv;go_enter func126,ntmps126;go_wp2_with fail;go_loopg [17] n (fun q i wr=>∃k:Nat,k<=n/\q=n - k/\i=AE AF k/\A8 (l.drop k) (r.drop k)=v/\AK w wr)
  case atStart=>exact Jz
  obtain ⟨k,hk,hq,rfl,hv,hb⟩:=hrel;have HQ:=AA hq;have HB:=AA hb;have Dw:=AA hv;clear hq hb hv HV;by_cases hlt:k < n
  ·obtain ⟨a,ao,x,A1,n1,c1,rfl,hal,hx,e0,e1,e2,e3,e4,g1⟩:=QC (HL.o.mono Bo HB.o) hlt
   obtain ⟨b,bo,y,B1,m1,d1,rfl,hbl,hy,f0,f1,f2,f3,f4,j1⟩:=QC (HR.o.mono Bo HB.o) hlt;have HX:=AA hx;have HY:=AA hy;have G1:=AA g1;have J1:=AA j1;have hkn:(k:Int) < (n:Int):=AG
   have hk0:=Int.natCast_nonneg k
   clear hx hy g1 j1;go_wp2_with (go_at_call 127;refine (bq A1 B1 n1 c1 m1 d1 x y _ (G1.o.1.mono Fq ((BE _ _).alloc AX _)) (J1.o.1.mono Fq ((BE _ _).alloc AX _))).mono ?_);rintro e w1 ⟨rfl,hb1⟩;have HB1:=AA (HB.o.trans (((BE _ _).alloc AX _).trans (hb1.mono BN) |>.mono HB.o.size));by_cases exy:x=y
   ·have hd:decide (x=y)=true:=BR exy
    rw [hd];have VB:=AA exy;clear exy hd hb1;go_wp2_with fail;go_roundg (n - (k+1))
    case measure=>exact BS
    case rel=>exact T9
   exact US
  exact L7
 have el:¬l.length=r.length:=AG
 rw [FX el];go_enter func126,ntmps126;exact Jy
theorem mO {x y:BB} (e0:x.Bg=y.Bg) (e1:x.units=y.units) (e2:x.Ap=y.Ap) (e3:x.rules=y.rules) (e4:x.converts=y.converts) (e5:x.purposes=y.purposes):true=decide (x=y):=by
 obtain ⟨u0,u1,u2,u3,u4,u5⟩:=x;obtain ⟨v0,v1,v2,v3,v4,v5⟩:=y
 skip
 simp_all
theorem Ug (A1 B1 A2 B2 A3 B3 A4 B4 A5 B5 A6 B6:Option Aa) (n1 c1 m1 d1 n2 c2 m2 d2 n3 c3 m3 d3 n4 c4 m4 d4 n5 c5 m5 d5 n6 c6 m6 d6:Nat) (x y:BB) (w:AH) (h1:Ag 1 DQ w (AB A1 n1 c1) x.Bg) (k1:Ag 1 DQ w (AB B1 m1 d1) y.Bg) (h2:Ag 5 CD w (AB A2 n2 c2) x.units) (k2:Ag 5 CD w (AB B2 m2 d2) y.units) (h3:Ag 6 BU w (AB A3 n3 c3) x.Ap) (k3:Ag 6 BU w (AB B3 m3 d3) y.Ap) (h4:Ag 5 CF w (AB A4 n4 c4) x.rules) (k4:Ag 5 CF w (AB B4 m4 d4) y.rules) (h5:Ag 5 Bw w (AB A5 n5 c5) x.converts) (k5:Ag 5 Bw w (AB B5 m5 d5) y.converts) (h6:Ag 3 BW w (AB A6 n6 c6) x.purposes) (k6:Ag 3 BW w (AB B6 m6 d6) y.purposes):
 AS prog 80 #[AP #[AB A1 n1 c1,AB A2 n2 c2,AB A3 n3 c3,AB A4 n4 c4,AB A5 n5 c5,AB A6 n6 c6],AP #[AB B1 m1 d1,AB B2 m2 d2,AB B3 m3 d3,AB B4 m4 d4,AB B5 m5 d5,AB B6 m6 d6]] w fun e w'=>e=AU (Ab (decide (x=y)))/\AK w w':=by
 have H1:=AA h1;have K1:=AA k1;have H2:=AA h2;have K2:=AA k2;have H3:=AA h3;have K3:=AA k3;have H4:=AA h4;have K4:=AA k4;have H5:=AA h5;have K5:=AA k5;have H6:=AA h6;have K6:=AA k6;clear h1 k1 h2 k2 h3 k3 h4 k4 h5 k5 h6 k6;go_enter func80,ntmps80;go_upto_region 1 with fail;obtain ⟨wb,hwb⟩:=Ad ((w.alloc (AO #[AB A1 n1 c1,AB A2 n2 c2,AB A3 n3 c3,AB A4 n4 c4,AB A5 n5 c5,AB A6 n6 c6] 29)).alloc (AO #[AB B1 m1 d1,AB B2 m2 d2,AB B3 m3 d3,AB B4 m4 d4,AB B5 m5 d5,AB B6 m6 d6] 29));rw [<-hwb];have hbb:AK w wb:=by rw [hwb];exact (BE _ _).alloc AX _
 have kA:AZ wb w.heap.size 29 #[AB A1 n1 c1,AB A2 n2 c2,AB A3 n3 c3,AB A4 n4 c4,AB A5 n5 c5,AB A6 n6 c6]:=by rw [hwb];exact (AZ.new _ _ _).alloc _
 have kB:AZ wb (w.heap.size+1) 29 #[AB B1 m1 d1,AB B2 m2 d2,AB B3 m3 d3,AB B4 m4 d4,AB B5 m5 d5,AB B6 m6 d6]:=by rw [hwb];exact DY AX
 obtain ⟨ga,hga⟩:=Ad w.heap.size;obtain ⟨gb,hgb⟩:=Ad (w.heap.size+1);rw [<-hgb] at kB ⊢;rw [<-hga] at kA ⊢;have Ha:ga=w.heap.size:=hga;clear hwb hga hgb;have la:=kA.lt;have lb:=kB.lt;have a0:=kA.cell 0;have b0:=kB.cell 0;have a1:=kA.cell 1;have b1:=kB.cell 1;have a2:=kA.cell 2;have b2:=kB.cell 2;have a3:=kA.cell 3;have b3:=kB.cell 3;have a4:=kA.cell 4;have b4:=kB.cell 4;have a5:=kA.cell 5;have b5:=kB.cell 5;simp only [Ak,Al,Az] at a0 b0 a1 b1 a2 b2 a3 b3 a4 b4 a5 b5;have HA:=AA kA;have HB:=AA kB;have BG:=AA hbb;have Bh:AI (AK wb wb):=AA (Ae _ _);clear kA kB hbb Ha;by_cases e0:x.Bg=y.Bg
 case neg=>
  have HC:AI (AS prog 120 #[AB A1 n1 c1,AB B1 m1 d1] wb fun e w'=>e=AU (Ab false)/\AK wb w'):=AA (by have:=IU A1 B1 n1 c1 m1 d1 x.Bg y.Bg wb (H1.o.mono BV (AV BG.o Bh.o)) (K1.o.mono BV (AV BG.o Bh.o));rw [show A8 x.Bg y.Bg=false by simp [A8,e0]] at this;exact this)
  exact yP
 have HC:AI (AS prog 120 #[AB A1 n1 c1,AB B1 m1 d1] wb fun e w'=>e=AU (Ab true)/\AK wb w'):=AA (by have:=IU A1 B1 n1 c1 m1 d1 x.Bg y.Bg wb (H1.o.mono BV (AV BG.o Bh.o)) (K1.o.mono BV (AV BG.o Bh.o));rw [show A8 x.Bg y.Bg=true by simp [A8,e0]] at this;exact this)
 have E0:=AA e0;clear e0;go_wp2_with (go_at_call 120;refine HC.o.mono ?_;clear HC);rintro e w1 ⟨rfl,hb1⟩;have Bi:=AA (AV Bh.o hb1);clear hb1 a0 b0 a1 b1 a2 b2 a3 b3 a4 b4 a5 b5;have a0:=(HA.o.below Bi.o la).cell 0;have b0:=(HB.o.below Bi.o lb).cell 0;have a1:=(HA.o.below Bi.o la).cell 1;have b1:=(HB.o.below Bi.o lb).cell 1;have a2:=(HA.o.below Bi.o la).cell 2;have b2:=(HB.o.below Bi.o lb).cell 2;have a3:=(HA.o.below Bi.o la).cell 3;have b3:=(HB.o.below Bi.o lb).cell 3;have a4:=(HA.o.below Bi.o la).cell 4;have b4:=(HB.o.below Bi.o lb).cell 4;have a5:=(HA.o.below Bi.o la).cell 5;have b5:=(HB.o.below Bi.o lb).cell 5;simp only [Ak,Al,Az] at a0 b0 a1 b1 a2 b2 a3 b3 a4 b4 a5 b5;by_cases e1:x.units=y.units
 case neg=>
  have HC:AI (AS prog 121 #[AB A2 n2 c2,AB B2 m2 d2] w1 fun e w'=>e=AU (Ab false)/\AK w1 w'):=AA (by have:=WK A2 B2 n2 c2 m2 d2 x.units y.units w1 (H2.o.mono Bp (AV BG.o Bi.o)) (K2.o.mono Bp (AV BG.o Bi.o));rw [show A8 x.units y.units=false by simp [A8,e1]] at this;exact this)
  have E1:=AA e1;clear e1;go_wp2_with (go_at_call 121;refine HC.o.mono ?_;clear HC);rintro e w2 ⟨rfl,hb2⟩;have Co:=AA (AV Bi.o hb2);clear hb2;go_wp2_with fail;go_ret;exact ⟨Ay (Bc (fun h=>E1.o Ko)).symm,AV BG.o Co.o⟩
 have HC:AI (AS prog 121 #[AB A2 n2 c2,AB B2 m2 d2] w1 fun e w'=>e=AU (Ab true)/\AK w1 w'):=AA (by have:=WK A2 B2 n2 c2 m2 d2 x.units y.units w1 (H2.o.mono Bp (AV BG.o Bi.o)) (K2.o.mono Bp (AV BG.o Bi.o));rw [show A8 x.units y.units=true by simp [A8,e1]] at this;exact this)
 have E1:=AA e1;clear e1;go_wp2_with (go_at_call 121;refine HC.o.mono ?_;clear HC);rintro e w2 ⟨rfl,hb2⟩;have Co:=AA (AV Bi.o hb2);clear hb2 a0 b0 a1 b1 a2 b2 a3 b3 a4 b4 a5 b5;have a0:=(HA.o.below Co.o la).cell 0;have b0:=(HB.o.below Co.o lb).cell 0;have a1:=(HA.o.below Co.o la).cell 1;have b1:=(HB.o.below Co.o lb).cell 1;have a2:=(HA.o.below Co.o la).cell 2;have b2:=(HB.o.below Co.o lb).cell 2;have a3:=(HA.o.below Co.o la).cell 3;have b3:=(HB.o.below Co.o lb).cell 3;have a4:=(HA.o.below Co.o la).cell 4;have b4:=(HB.o.below Co.o lb).cell 4;have a5:=(HA.o.below Co.o la).cell 5;have b5:=(HB.o.below Co.o lb).cell 5;simp only [Ak,Al,Az] at a0 b0 a1 b1 a2 b2 a3 b3 a4 b4 a5 b5;by_cases e2:x.Ap=y.Ap
 case neg=>
  have HC:AI (AS prog 122 #[AB A3 n3 c3,AB B3 m3 d3,.func (.func 123) #[] #[]] w2 fun e w'=>e=AU (Ab false)/\AK w2 w'):=AA (by have:=WO A3 B3 n3 c3 m3 d3 x.Ap y.Ap w2 (H3.o.mono BM (AV BG.o Co.o)) (K3.o.mono BM (AV BG.o Co.o));rw [show A8 x.Ap y.Ap=false by simp [A8,e2]] at this;exact this)
  have E2:=AA e2;clear e2;go_wp2_with (go_at_call 122;refine HC.o.mono ?_;clear HC);rintro e w3 ⟨rfl,hb3⟩;have I8:=AA (AV Co.o hb3);clear hb3;go_wp2_with fail;go_ret;exact ⟨Ay (Bc (fun h=>E2.o Ko)).symm,AV BG.o I8.o⟩
 have HC:AI (AS prog 122 #[AB A3 n3 c3,AB B3 m3 d3,.func (.func 123) #[] #[]] w2 fun e w'=>e=AU (Ab true)/\AK w2 w'):=AA (by have:=WO A3 B3 n3 c3 m3 d3 x.Ap y.Ap w2 (H3.o.mono BM (AV BG.o Co.o)) (K3.o.mono BM (AV BG.o Co.o));rw [show A8 x.Ap y.Ap=true by simp [A8,e2]] at this;exact this)
 have E2:=AA e2;clear e2;go_wp2_with (go_at_call 122;refine HC.o.mono ?_;clear HC);rintro e w3 ⟨rfl,hb3⟩;have I8:=AA (AV Co.o hb3);clear hb3 a0 b0 a1 b1 a2 b2 a3 b3 a4 b4 a5 b5;have a0:=(HA.o.below I8.o la).cell 0;have b0:=(HB.o.below I8.o lb).cell 0;have a1:=(HA.o.below I8.o la).cell 1;have b1:=(HB.o.below I8.o lb).cell 1;have a2:=(HA.o.below I8.o la).cell 2;have b2:=(HB.o.below I8.o lb).cell 2;have a3:=(HA.o.below I8.o la).cell 3;have b3:=(HB.o.below I8.o lb).cell 3;have a4:=(HA.o.below I8.o la).cell 4;have b4:=(HB.o.below I8.o lb).cell 4;have a5:=(HA.o.below I8.o la).cell 5;have b5:=(HB.o.below I8.o lb).cell 5;simp only [Ak,Al,Az] at a0 b0 a1 b1 a2 b2 a3 b3 a4 b4 a5 b5;by_cases e3:x.rules=y.rules
 case neg=>
  have HC:AI (AS prog 124 #[AB A4 n4 c4,AB B4 m4 d4,.func (.func 125) #[] #[]] w3 fun e w'=>e=AU (Ab false)/\AK w3 w'):=AA (by have:=ZY A4 B4 n4 c4 m4 d4 x.rules y.rules w3 (H4.o.mono Be (AV BG.o I8.o)) (K4.o.mono Be (AV BG.o I8.o));rw [show A8 x.rules y.rules=false by simp [A8,e3]] at this;exact this)
  have E3:=AA e3;clear e3;go_wp2_with (go_at_call 124;refine HC.o.mono ?_;clear HC);rintro e w4 ⟨rfl,hb4⟩;have LC:=AA (AV I8.o hb4);clear hb4;go_wp2_with fail;go_ret;exact ⟨Ay (Bc (fun h=>E3.o Ko)).symm,AV BG.o LC.o⟩
 have HC:AI (AS prog 124 #[AB A4 n4 c4,AB B4 m4 d4,.func (.func 125) #[] #[]] w3 fun e w'=>e=AU (Ab true)/\AK w3 w'):=AA (by have:=ZY A4 B4 n4 c4 m4 d4 x.rules y.rules w3 (H4.o.mono Be (AV BG.o I8.o)) (K4.o.mono Be (AV BG.o I8.o));rw [show A8 x.rules y.rules=true by simp [A8,e3]] at this;exact this)
 have E3:=AA e3;clear e3;go_wp2_with (go_at_call 124;refine HC.o.mono ?_;clear HC);rintro e w4 ⟨rfl,hb4⟩;have LC:=AA (AV I8.o hb4);clear hb4 a0 b0 a1 b1 a2 b2 a3 b3 a4 b4 a5 b5;have a0:=(HA.o.below LC.o la).cell 0;have b0:=(HB.o.below LC.o lb).cell 0;have a1:=(HA.o.below LC.o la).cell 1;have b1:=(HB.o.below LC.o lb).cell 1;have a2:=(HA.o.below LC.o la).cell 2;have b2:=(HB.o.below LC.o lb).cell 2;have a3:=(HA.o.below LC.o la).cell 3;have b3:=(HB.o.below LC.o lb).cell 3;have a4:=(HA.o.below LC.o la).cell 4;have b4:=(HB.o.below LC.o lb).cell 4;have a5:=(HA.o.below LC.o la).cell 5;have b5:=(HB.o.below LC.o lb).cell 5;simp only [Ak,Al,Az] at a0 b0 a1 b1 a2 b2 a3 b3 a4 b4 a5 b5;by_cases e4:x.converts=y.converts
 case neg=>
  have HC:AI (AS prog 126 #[AB A5 n5 c5,AB B5 m5 d5,.func (.func 127) #[] #[]] w4 fun e w'=>e=AU (Ab false)/\AK w4 w'):=AA (by have:=Uz A5 B5 n5 c5 m5 d5 x.converts y.converts w4 (H5.o.mono Bo (AV BG.o LC.o)) (K5.o.mono Bo (AV BG.o LC.o));rw [show A8 x.converts y.converts=false by simp [A8,e4]] at this;exact this)
  have E4:=AA e4;clear e4;go_wp2_with (go_at_call 126;refine HC.o.mono ?_;clear HC);rintro e w5 ⟨rfl,hb5⟩;have LB:=AA (AV LC.o hb5);clear hb5;go_wp2_with fail;go_ret;exact ⟨Ay (Bc (fun h=>E4.o Ko)).symm,AV BG.o LB.o⟩
 have HC:AI (AS prog 126 #[AB A5 n5 c5,AB B5 m5 d5,.func (.func 127) #[] #[]] w4 fun e w'=>e=AU (Ab true)/\AK w4 w'):=AA (by have:=Uz A5 B5 n5 c5 m5 d5 x.converts y.converts w4 (H5.o.mono Bo (AV BG.o LC.o)) (K5.o.mono Bo (AV BG.o LC.o));rw [show A8 x.converts y.converts=true by simp [A8,e4]] at this;exact this)
 have E4:=AA e4;clear e4;go_wp2_with (go_at_call 126;refine HC.o.mono ?_;clear HC);rintro e w5 ⟨rfl,hb5⟩;have LB:=AA (AV LC.o hb5);clear hb5 a0 b0 a1 b1 a2 b2 a3 b3 a4 b4 a5 b5;have a0:=(HA.o.below LB.o la).cell 0;have b0:=(HB.o.below LB.o lb).cell 0;have a1:=(HA.o.below LB.o la).cell 1;have b1:=(HB.o.below LB.o lb).cell 1;have a2:=(HA.o.below LB.o la).cell 2;have b2:=(HB.o.below LB.o lb).cell 2;have a3:=(HA.o.below LB.o la).cell 3;have b3:=(HB.o.below LB.o lb).cell 3;have a4:=(HA.o.below LB.o la).cell 4;have b4:=(HB.o.below LB.o lb).cell 4;have a5:=(HA.o.below LB.o la).cell 5;have b5:=(HB.o.below LB.o lb).cell 5;simp only [Ak,Al,Az] at a0 b0 a1 b1 a2 b2 a3 b3 a4 b4 a5 b5;by_cases e5:x.purposes=y.purposes
 case neg=>
  have HC:AI (AS prog 128 #[AB A6 n6 c6,AB B6 m6 d6,.func (.func 129) #[] #[]] w5 fun e w'=>e=AU (Ab false)/\AK w5 w'):=AA (by have:=Uy A6 B6 n6 c6 m6 d6 x.purposes y.purposes w5 (H6.o.mono BO (AV BG.o LB.o)) (K6.o.mono BO (AV BG.o LB.o));rw [show A8 x.purposes y.purposes=false by simp [A8,e5]] at this;exact this)
  have E5:=AA e5;clear e5;go_wp2_with (go_at_call 128;refine HC.o.mono ?_;clear HC);rintro e w6 ⟨rfl,hb6⟩;have ADP:=AA (AV LB.o hb6);clear hb6;go_wp2_with fail;go_ret;exact ⟨Ay (Bc (fun h=>E5.o Ko)).symm,AV BG.o ADP.o⟩
 have HC:AI (AS prog 128 #[AB A6 n6 c6,AB B6 m6 d6,.func (.func 129) #[] #[]] w5 fun e w'=>e=AU (Ab true)/\AK w5 w'):=AA (by have:=Uy A6 B6 n6 c6 m6 d6 x.purposes y.purposes w5 (H6.o.mono BO (AV BG.o LB.o)) (K6.o.mono BO (AV BG.o LB.o));rw [show A8 x.purposes y.purposes=true by simp [A8,e5]] at this;exact this)
 have E5:=AA e5;clear e5;go_wp2_with (go_at_call 128;refine HC.o.mono ?_;clear HC);rintro e w6 ⟨rfl,hb6⟩;have ADP:=AA (AV LB.o hb6);clear hb6;go_wp2_with fail;go_ret;exact ⟨Ay (mO E0.o E1.o E2.o E3.o E4.o E5.o),AV BG.o ADP.o⟩
def fieldStep (s:BB) (f:GT):Option GT:=
 if f.type.kind=1/\f.type.An≠Oh then (idx (G7 s) f.type.An).map (fun n=>{f with type:={f.type with unit:=(n:Int)}})
 else some {f with type:={f.type with unit:= -1}}
def Vk (l:List ByteArray) (x:ByteArray):Option Int:=(idx l x).map (fun n:Nat=>(n:Int))
def RT (x:BL) (d:Mg):Option Mg:=
 match Ft (fun _=>Vk (fieldNames x)) d.names,Vk (fieldNames x) d.name with
 | some l,some n=>some {d with src:=l,dst:=n}
 | _,_=>none
def Fl (s:BB) (x:BL):Option BL:=
 match idx s.Bg x.FD with
 | none=>none
 |
  some a=>match Ft (fun _=>fieldStep s) x.fields with
  | none=>none
  |
   some fs=>match Ft (fun _=>RT x) x.deps with
   | none=>none
   | some ds=>some {x with Ar:=(a:Int),fields:=fs,deps:=ds}
theorem jB {w:AH} {cs:List AN} {l:List GT} {k:Nat} {u:GT} (h:Aq 11 EU w cs l) (hk:l[k]? =some u) (a:Int):Aq 11 EU w (cs.set (k*11+5) (AE AF a)) (l.set k {u with type:={u.type with unit:=a}}):=
 h.put AG (BD.1 hk).1 (by obtain ⟨A1,n1,c1,he,hs⟩:=h.chunk hk;rw [show chunk cs 11 k=_ from he];exact ⟨A1,n1,c1,rfl,hs⟩)
theorem ACs {w:AH} {cs:List AN} {l:List Mg} {k:Nat} {u:Mg} (h:Aq 4 Hc w cs l) (hk:l[k]? =some u) {v:AN} {s:AQ} {A:Option Aa} {n c:Nat} (hv:v=AB A n c) (hs:BT 1 8 iR w v s):Aq 4 Hc w (cs.set (k*4+2) v) (l.set k {u with src:=s}):=
 h.put AG (BD.1 hk).1 (by obtain ⟨A1,n1,c1,A2,n2,c2,he,h1,h2⟩:=h.chunk hk;subst hv;rw [show chunk cs 4 k=_ from he];exact ⟨A1,n1,c1,_,_,_,rfl,h1,hs⟩)
theorem ACr {w:AH} {cs:List AN} {l:List Mg} {k:Nat} {u:Mg} (h:Aq 4 Hc w cs l) (hk:l[k]? =some u) (a:Int):Aq 4 Hc w (cs.set (k*4+3) (AE AF a)) (l.set k {u with dst:=a}):=
 h.put AG (BD.1 hk).1 (by obtain ⟨A1,n1,c1,A2,n2,c2,he,h1,h2⟩:=h.chunk hk;rw [show chunk cs 4 k=_ from he];exact ⟨A1,n1,c1,A2,n2,c2,rfl,h1,h2⟩)
def LZ (v:AN) (w:AH):AH:=match v.ownBlock with
 | some H=>mask H (H+1) w
 | none=>w
theorem ZR {v:AN} {w w':AH} (hg:w.grownBy w' v.ownBlock):BI (LZ v w).heap.size (LZ v w) (LZ v w'):=by
 unfold LZ;cases hv:v.ownBlock with
 | none=>rw [hv] at hg;exact ⟨hg.os,hg.tape,hg.output,hg.size,fun k hk=>hg.block k hk AX⟩
 | some H=>rw [hv] at hg;exact Cw hg (Ac _) (Ib _)
theorem AAJ {v:AN} {w0 w:AH} (h:AK w0 w) (hv:∀H,v.ownBlock=some H->w0.heap.size<=H):AK w0 (LZ v w):=by
 unfold LZ;cases hb:v.ownBlock with
 | none=>exact h
 | some H=>exact Vd w0 h (hv H hb)
theorem AAI {u v:AN} {w:AH} {base:Nat} {e:Af} {sz n:Nat} {cs:List AN} (h:w.ownsRow base e sz v n cs) (hb:∀H,u.ownBlock=some H->H < base):(LZ u w).ownsRow base e sz v n cs:=by
 unfold LZ;cases hu:u.ownBlock with
 | none=>exact h
 | some H=>exact LV h (hb H hu)
theorem AAH {α:Type} {sz:Nat} {R:AH->List AN->α->Prop} (hR:Nb R) {v:AN} {w:AH} {cs:List AN} {l:List α} (h:Aq sz R (LZ v w) cs l):Aq sz R w cs l:=by
 unfold LZ at h;cases hu:v.ownBlock with
 | none=>rw [hu] at h;exact h
 | some H=>rw [hu] at h;exact h.Hz hR
theorem AB8 {α:Type} {sz:Nat} {R:AH->List AN->α->Prop} (hR:Nb R) {v u:AN} {w:AH} {l:List α} (h:Ag sz R (LZ v w) u l):Ag sz R w u l:=by
 unfold LZ at h;cases hu:v.ownBlock with
 | none=>rw [hu] at h;exact h
 | some H=>rw [hu] at h;exact h.Hz hR
theorem zM {w:AH} {base:Nat} {e:Af} {sz:Nat} {v:AN} {n:Nat} {cs:List AN} (h:w.ownsRow base e sz v n cs) {H:Nat} (hH:H < base):v.ownBlock≠some H:=fun e=>by have:=h.lt _ e;omega
theorem OP {a b c:AH} {G H:Nat} (h:a.grownBy b (some G)) (h':b.grownBy c (some H)) (hH:a.heap.size<=H):a.grownBy c (some G):=
 ⟨h'.os.trans h.os,h'.tape.trans h.tape,h'.output.trans h.output,BH h.size h'.size,fun k hk hne=>(h'.block k (Au hk h.size) (fun e=>by injection e;omega)).trans (h.block k hk hne)⟩
theorem vd {w wa w':AH} {G:Nat} (h:w.grownBy wa (some G)) (h':w.grownBy w' (some G)) (hs:wa.heap.size=w.heap.size):wa.grownBy w' (some G):=
 ⟨h'.os.trans h.os.symm,h'.tape.trans h.tape.symm,h'.output.trans h.output.symm,by rw [hs];exact h'.size,fun k hk hne=>(h'.block k AG hne).trans (h.block k AG hne).symm⟩
theorem AAM {a b c:AH} {H:Nat} {row:Option Nat} (h:a.grownBy b (some H)) (h':b.grownBy c row) (hr:∀r,row=some r->a.heap.size<=r):a.grownBy c (some H):=
 ⟨h'.os.trans h.os,h'.tape.trans h.tape,h'.output.trans h.output,BH h.size h'.size,fun k hk hne=>(h'.block k (Au hk h.size) (fun e=>by have:=hr _ e.symm;omega)).trans (h.block k hk hne)⟩
theorem oC {a b:AH} {row:Option Nat} (h:a.grownBy b row) (o:Obj):a.grownBy (b.alloc o) row:=Eh h (Ei (BE _ _) _)
theorem AEG {w:AH} {base:Nat} {e:Af} {sz:Nat} {v:AN} {n:Nat} {cs:List AN} (h:w.ownsRow base e sz v n cs) {p:Aa} (hp:v.ownBlock≠some p.block) (u:AN):(w.setCell p u).ownsRow base e sz v n cs:=PX h hp u
theorem AF4 (w:AH) (l:AQ):Aq 1 iR w (l.map Gb) l:=by
 refine ⟨by simp,fun i x hi=> ?_⟩;show _=_;rw [Gs,List.map_drop.symm,List.map_take.symm];have:(l.drop i).take 1=[x]:=by rw [drop_cons hi];rfl
 rw [this];rfl
theorem GH {w:AH} {base:Nat} {e:Af} {sz:Nat} {v:AN} {n:Nat} {cs:List AN} (h:w.ownsRow base e sz v n cs):∃A m c,v=AB A m c/\m=n:=by
 rcases Hr h with ⟨rfl,h0⟩ | ⟨g,cap,rfl,_⟩
 · exact ⟨_,_,_,rfl,h0.symm⟩
 · exact ⟨_,_,_,rfl,rfl⟩
section
variable {P:BA} {ops:Array Oper} {md:Region.Mode} {w:AH} {Q:Exit->Act->AH->Prop}
def SR (P:BA) (ops:Array Oper) (w:AH) (Q:Exit->Act->AH->Prop) (n:Nat) (a:Act):Prop:=
 ∃o f args chain,ops[n]? =some o/\Region.wanted o (yielded ops a.tmps)=true/\(execOp a.eval o).run P w=.ok (.enter f args) w/\AS P f args w (fun e w''=>e=Bz chain/\w''=w)/\Q (.panic chain) a w
def Wg (P:BA) (md:Region.Mode) (ops:Array Oper) (w:AH) (Q:Exit->Act->AH->Prop) (n:Nat):Nat->Array Bool->Act->Prop
 | 0,listed,a=>Region.ready md ops listed≠[]/\∀i∈Region.ready md ops listed,i=n/\SR P ops w Q n a
 | f+1,listed,a=>Region.ready md ops listed≠[]/\∀i∈Region.ready md ops listed,(i=n/\SR P ops w Q n a)\/(i≠n/\stOp P ops w i (Wg P md ops w Q n f (listed.setIfInBounds i true)) a)
theorem iG {n:Nat} {a:Act} {K:Act->AH->Prop} (h:SR P ops w Q n a):wpOp P ops Q n K a w:=by obtain ⟨o,f,args,chain,ho,hw,hr,hc,hq⟩:=h;unfold wpOp;simp only [ho,hw,C5];refine .inl ?_;unfold Oper.wp;rw [hr];exact hc.mono fun e w'' ⟨he,hw⟩=>by subst he;subst hw;exact hq
theorem V4 {n g:Nat}:∀(f:Nat) (listed:Array Bool) (a:Act),Wg P md ops w Q n f listed a->wpAny P md ops Q (f+1+g) listed a w
 |
  0,listed,a,h=>by
  rw [show 0+1+g=g+1 by omega];refine ⟨fun h0=>absurd h0 h.1,fun i hi=> ?_⟩;obtain ⟨rfl,hd⟩:=h.2 i hi;exact iG hd
 |
  f+1,listed,a,h=>by
  rw [show f+1+1+g=(f+1+g)+1 by omega];refine ⟨fun h0=>absurd h0 h.1,fun i hi=> ?_⟩;rcases h.2 i hi with ⟨rfl,hd⟩ | ⟨_,hs⟩
  · exact iG hd
  · exact wpOp_of_stOp (fun a' h'=>V4 f _ a' h') hs
theorem lZ {n i:Nat} {oi:Oper} {v:AN} (hi:ops[i]? =some oi) (hin:i≠n) (hsel:∀(j:Nat) (o:Oper) cs b,ops[j]? =some o->o.op≠.select cs b)
 (hQ:∀(d:Option Tmp) (u:AN) (c:List PanicEntry) (a:Act),Q (.panic c) (a.put d u) w->Q (.panic c) a w):
 ∀(f:Nat) (listed:Array Bool) (a:Act),
  (∀j oj,ops[j]? =some oj->j≠i->listed.getD j true=false->(∀e∈oj.after,Region.binds md e=true->e.on≠i)->oi.apart ops oj=true)->
  i∈Region.ready md ops listed->YieldsAt P ops w oi v a->
  Wg P md ops w Q n f (listed.setIfInBounds i true) (a.put oi.dst v)->Wg P md ops w Q n (f+1) listed a:=by
 intro f
 induction f with
 |
  zero=>
  intro listed a hfree hr hy H;have hun:=(IZ.1 hr).1;refine ⟨fun h=>OC,fun j hj=> ?_⟩;by_cases hji:j=i
  · subst hji;exact .inr ⟨hin,hy.stOp hi H⟩
  ·obtain ⟨hjun,oj,hoj,hall⟩:=IZ.1 hj
   have hnot:∀e∈oj.after,Region.binds md e=true->e.on≠i:=fun e he hb heq=>by have h1:=hall e he hb;rw [heq,getD_both hun] at h1;cases h1
   obtain ⟨h1,h2,h3⟩:=Oper.apart_spec (hfree j oj hoj hji hjun hnot);obtain ⟨rfl,o,fn,args,chain,ho,hw,Qh,hc,hq⟩:=H.2 j (Jg hj hji);have e:o=oj:=Hm (ho.symm.trans hoj);subst e;refine .inl ⟨rfl,o,fn,args,chain,ho,?_,?_,hc,hQ _ _ _ _ hq⟩
   · rw [<-wanted_put o a oi.dst v h1];exact hw
   · rw [<-execOp_put o (fun cs b=>hsel j o cs b ho) a oi.dst v h1];exact Qh
 |
  succ f ih=>
  intro listed a hfree hr hy H;have hun:=(IZ.1 hr).1;refine ⟨fun h=>OC,fun j hj=> ?_⟩;by_cases hji:j=i
  · subst hji;exact .inr ⟨hin,hy.stOp hi H⟩
  obtain ⟨hjun,oj,hoj,hall⟩:=IZ.1 hj;have hnot:∀e∈oj.after,Region.binds md e=true->e.on≠i:=fun e he hb heq=>by have h1:=hall e he hb;rw [heq,getD_both hun] at h1;cases h1
  have hap:=hfree j oj hoj hji hjun hnot;obtain ⟨h1,h2,h3⟩:=Oper.apart_spec hap;rcases H.2 j (Jg hj hji) with ⟨rfl,o,fn,args,chain,ho,hw,Qh,hc,hq⟩ | ⟨hjn,hst⟩
  ·have e:o=oj:=Hm (ho.symm.trans hoj)
   subst e;refine .inl ⟨rfl,o,fn,args,chain,ho,?_,?_,hc,hQ _ _ _ _ hq⟩
   · rw [<-wanted_put o a oi.dst v h1];exact hw
   · rw [<-execOp_put o (fun cs b=>hsel j o cs b ho) a oi.dst v h1];exact Qh
  refine .inr ⟨hjn,?_⟩;have hs2:=stOp_put hoj hap (fun cs b=>hsel i oi cs b hi) (fun cs b=>hsel j oj cs b hoj) hy hst;have hfree':∀k ok,ops[k]? =some ok->k≠i->(listed.setIfInBounds j true).getD k true=false->
   (∀e∈ok.after,Region.binds md e=true->e.on≠i)->oi.apart ops ok=true:=fun k ok hk hki hun hno=>by
   refine hfree k ok hk hki ?_ hno;by_cases hjk:j=k
   · subst hjk;exact hjun
   · exact ko
  refine stOp_mono (fun a' h3=>ih (listed.setIfInBounds j true) a' hfree' (Jg hr (Ne.symm hji)) h3.1 ?_) hs2;rw [YZ _ _ hji];exact h3.2
def dK (md:Region.Mode) (ops:Array Oper) (n:Nat):List Nat->Array Bool->Bool
 | [],listed=>decide (Region.ready md ops listed=[n])
 | k::ks,listed=>(Region.ready md ops listed).contains k && Region.free md ops listed k && decide (k≠n) && dK md ops n ks (listed.setIfInBounds k true)
theorem bQ {n:Nat} (hsel:Region.noSelect ops=true) (hQ:∀(d:Option Tmp) (u:AN) (c:List PanicEntry) (a:Act),Q (.panic c) (a.put d u) w->Q (.panic c) a w):
 ∀(l:List Oper) (ks:List Nat) (listed:Array Bool) (a:Act),ks.map (fun k=>ops[k]?)=l.map some->
 dK md ops n ks listed=true->wpStill P ops w (SR P ops w Q n) l a->Wg P md ops w Q n l.length listed a
 |
  [],[],listed,a,_,hB,h=>by
  have hB':Region.ready md ops listed=[n]:=by simpa [dK] using hB
  have h':SR P ops w Q n a:=h;refine ⟨by rw [hB'];simp,fun i hi=> ?_⟩;rw [hB',Fg] at hi;exact ⟨hi,h'⟩
 | [],_::_,_,_,hm,_,_=>by simp at hm
 | _::_,[],_,_,hm,_,_=>by simp at hm
 |
  o::l,k::ks,listed,a,hm,hB,h=>by
  simp only [Fe,Q5] at hm;simp only [dK,Bj,B8] at hB;obtain ⟨⟨⟨hr,hf⟩,hkn⟩,hB'⟩:=hB;have hr':k∈Region.ready md ops listed:=by simpa using hr
  have hst:stOp P ops w k (wpStill P ops w (SR P ops w Q n) l) a:=by unfold stOp;simp only [hm.1];exact h
  obtain ⟨v,hy,hK⟩:=yieldsAt_of_stOp hm.1 hst;exact lZ hm.1 hkn (YT hsel) hQ l.length listed a (YL hm.1 hf) hr' hy (bQ hsel hQ l ks _ _ hm.2 hB' hK)
theorem Di {id:Nat} {a:Act} {w:AH} {l:List Oper} (n:Nat) (ks:List Nat) (pick:List Oper->List Oper) (hm:P.follows .mixedOrders=true) (hk:ks.map (fun k=>l.toArray[k]?)=(pick l).map some)
 (hB:(decide (ks.length < l.length) && Region.noSelect l.toArray && dK .any l.toArray n ks (Array.replicate l.toArray.size false))=true)
 (hQ:∀(d:Option Tmp) (u:AN) (c:List PanicEntry) (a:Act),Q (.panic c) (a.put d u) w.drew->Q (.panic c) a w.drew)
 (h:wpStill P l.toArray w.drew (SR P l.toArray w.drew Q n) (pick l) a):(Code.region id l.toArray true).wp P Q a w:=by
 simp only [Bj,B8] at hB;obtain ⟨⟨hn,hsel⟩,hB⟩:=hB;have hl:(pick l).length=ks.length:=by have:=congrArg List.length hk;simpa using this.symm
 have H:=bQ (md:=.any) hsel hQ (pick l) ks _ a hk hB h;refine wp_region_any hm ?_;have:=V4 (Q:=Q) (g:=l.toArray.size - ks.length - 1) _ _ _ H;rw [hl,show ks.length+1+(l.toArray.size - ks.length - 1)=l.toArray.size by simp;omega] at this;exact this
end
theorem Wo {P:BA} (w:AH) {ops:Array Oper} {o:Oper} {a:Act} {K:Act->AH->Prop} {Q:Exit->Act->AH->Prop} {E:Prop} (hgd:o.guard=none) (s x:Operand) (t:Af)
 (ho:o.op=.call {callee:=.builtin .append,args:=#[s,x],argTypes:=#[t,t]})
 (base:Nat) (e:Af) (i:TypeInfo) (z:AN) (size bytes:Nat) (ht:P.underlying t=some (.slice e)) (hi:P.info? e=some i) (hz:i.zero=some z)
 (hsize:i.size=size) (hby:i.bytes=bytes) (hzs:z.cells.size=size) (hsz:0 < size)
 (v:AN) (n:Nat) (xs:List AN) (hs:a.eval s=v) (hown:w.ownsRow base e size v n xs)
 (ad:Aa) (m c:Nat) (news:List AN) (hx:a.eval x=AB (some ad) m c) (hl:news.length=m*size) (hnews:∀j u,news[j]? =some u->w.cell? (ad.add j)=some u) (h1:∀u∈news,u.oneCell'=true)
 (h63:n+m<=maxLen) (hbytes:(n+m)*bytes<=140737488355328) (hbase:base<=w.heap.size)
 (h:∀v' w',w'.ownsRow base e size v' (n+m) (xs++news)->w.grownBy w' v.ownBlock->(v'.ownBlock=v.ownBlock\/v'.ownBlock=some w.heap.size)->K (a.put o.dst v') w'):
 if Region.wanted o (yielded ops a.tmps)=true then Oper.wp P o a w K Q else E:=by
 have hw:Region.wanted o (yielded ops a.tmps)=true:=by simp [Region.wanted,hgd]
 rw [Ao hw];obtain ⟨v',w',hr,h2,h3,_,h5⟩:=run_append_own_at (P:=P) w base t o.type e i z size bytes ht hi hz hsize hby hzs hsz v n xs hown ad m c news hl hnews h1 h63 hbytes hbase;unfold Oper.wp execOp;simp only [ho,resolve,invoke,builtin,Ck,DC,Result.andThen_ok,YK,Fe,N2,hs,hx,hr];exact h v' w' h2 h3 h5
theorem bf {P:BA} {w:AH} {ops:Array Oper} {o:Oper} {a:Act} {K:Act->AH->Prop} {Q:Exit->Act->AH->Prop} {E:Prop} (hgd:o.guard=none) (f:FuncId) (args:Array AN) {v:AN}
 (hex:(execOp a.eval o).run P w=.ok (.enter f args) w) (hc:AS P f args w (fun e w'=>e=AU v/\w'=w)) (hK:K (a.put o.dst v) w):
 if Region.wanted o (yielded ops a.tmps)=true then Oper.wp P o a w K Q else E:=by
 have hw:Region.wanted o (yielded ops a.tmps)=true:=by simp [Region.wanted,hgd]
 rw [Ao hw];unfold Oper.wp;rw [hex];exact hc.mono fun e w' ⟨he,hw⟩=>by subst he;subst hw;exact hK
theorem Qd {P:BA} {w:AH} {ops:Array Oper} {o:Oper} {a:Act} {K:Act->AH->Prop} {Q:Exit->Act->AH->Prop} {E:Prop} (hgd:o.guard=none) (f:FuncId) (args:Array AN) {R:Ending->AH->Prop}
 (hex:(execOp a.eval o).run P w=.ok (.enter f args) w) (hc:AS P f args w R) (hK:∀e w',R e w'->∃v,e=AU v/\K (a.put o.dst v) w'):
 if Region.wanted o (yielded ops a.tmps)=true then Oper.wp P o a w K Q else E:=by
 have hw:Region.wanted o (yielded ops a.tmps)=true:=by simp [Region.wanted,hgd]
 rw [Ao hw];unfold Oper.wp;rw [hex];exact hc.mono fun e w' h=>by obtain ⟨v,rfl,hk⟩:=hK e w' h;exact hk
def AH5 {α β γ:Type} (F:α->β->γ->Act) (G:α->β->γ->AH->Prop):Exit->Act->AH->Prop
 | .normal,a',w'=>∃x y z,a'=F x y z/\G x y z w'
 | _,_,_=>False
theorem fC {P:BA} {c:Code} {Q:Exit->Act->AH->Prop} {a:Act} {w:AH} {α β γ:Type} (F:α->β->γ->Act) (G:α->β->γ->AH->Prop) (h1:c.wp P (AH5 F G) a w) (h2:∀x y z w',G x y z w'->Q .normal (F x y z) w'):c.wp P Q a w:=
 Code.wp_mono (fun e a' w' h=>by
  cases e with
  | normal=>obtain ⟨x,y,z,rfl,hg⟩:=h;exact h2 x y z w' hg
  | _=>exact h.elim) h1
theorem AEX:(prog.info? 3).map (fun i=>(i.zero,i.size,i.bytes))=some (some (AE AF 0),1,8):=by kernel_rfl
theorem aA (R lo M base G n cap i mb:Nat) (cs:List AN) (s:BB) (p:BL) (w:AH) (hres:Jf (mask lo M w) R s) (hlo:lo<=G) (Gl:G < M) (tX:M<=w.heap.size)
 (hmb:MapAt Hq Gb (mask lo M w) mb (fieldMap p))
 (ho:w.ownsRow base 85 6 (AB (some ⟨G,0,none⟩) n cap) n cs) (hi:i < n) (hp:BU (mask lo M w) (chunk cs 6 i) p):
 AS prog 160 #[AW (some ⟨R,0,none⟩),AW (some ⟨G,i*6,none⟩),.map (some mb)] w (EB 85 6 BU base G n cap i cs lo M (Fl s p) w):=by
 obtain ⟨A1,n1,c1,A2,n2,c2,hch,hfl,hdp⟩:=hp;have p1:=BF ho hi AG hch (j:=1) rfl;have p2:=BF ho hi AG hch (j:=2) rfl;have p4:=BF ho hi AG hch (j:=4) rfl;have f2:=ho.frozenAt (i*6+2);have Uw:G < w.heap.size:=AG
 obtain ⟨b1,b2,b3,fA,fn,fc,hbR,hm1,hm2,Dm,hfs⟩:=hres.Hz;have r0:=hbR.cell 0;have lR:=hbR.lt;simp only [Ak,Al] at r0;have hget:=Hx s.Bg p.FD;have Gp:=AA hres;have HO:=AA ho;have OY:=AA hch;have LL:=AA hfl;have HDP:=AA hdp;have pX:=AA hfl.2;have HBD:=AA hdp.2;have HMB:=AA hmb;have Mj:=AA (hm1.same (w':=w.drew) rfl);clear hres ho hch hfl hdp hmb hbR hm1 hm2 Dm hfs;go_enter func160,ntmps160;go_wp2_with fail;cases hix:idx s.Bg p.FD with
 |
  none=>
  rw [hix] at hget;have Cf:AI (EB 85 6 BU base G n cap i cs lo M (Fl s p) w (Bz Bq) w.drew):=
   Dj (by unfold Fl;rw [hix]) (grown_drew (DS _ _))
  have V0:=AA hget;clear hix hget
  go_region_dies
  all_goals
   refine (G6 b1 _ _ _ Mj.o V0.o).mono ?_;rintro e w' ⟨rfl,rfl⟩;exact ⟨rfl,Cf.o⟩
 |
  some a=>
  rw [hix] at hget;have IC:=AA hix;have HF:=AA ((FW b1 _ _ (a:Int) w.drew Mj.o hget).mono (R':=fun e w'=>e=AU (AE AF a)/\w'=w.drew) ET);clear hix hget;refine wp_region_still_tail 12 AJ AJ ?_;simp only [FL,FJ,JL,Hl]
  repeat still_step
  still_call HF.o
  repeat still_step
  refine FI ?_;change wpList _ _ _ _ _ w.drew;go_wp2_with fail;have ho2:=(HO.o.stored (i*6+2) (AE AF a)).1.drew;have hga:w.grownBy (w.setCell ⟨G,i*6+2,none⟩ (AE AF a)).drew (some G):=grown_drew (Cx (DS _ _) _ _);have Oq:(w.setCell ⟨G,i*6+2,none⟩ (AE AF a)).drew.heap.size=w.heap.size:=by simp [World.setCell]
  have Py:chunk (cs.set (i*6+2) (AE AF a)) 6 i=[AL p.name,AL p.FD,AE AF a,AE AF p.version,AB A1 n1 c1,AB A2 n2 c2]:=by rw [Ek _ AG,OY.o];rfl
  have hoth:∀j,j≠i->chunk (cs.set (i*6+2) (AE AF a)) 6 j=chunk cs 6 j:=fun j hj=>by rw [FH _ AG hj]
  generalize (w.setCell ⟨G,i*6+2,none⟩ (AE AF a)).drew=wa at ho2 hga Oq ⊢;generalize cs.set (i*6+2) (AE AF a)=ca at ho2 Py hoth;have hfw:BT 11 120 (fun _=>EU (mask lo M wa)) wa (AB A1 n1 c1) p.fields:=⟨(LL.o.mono Cy (Cw hga hlo Gl)).1.sm,LL.o.2⟩;have QU:G < wa.heap.size:=by rw [Oq];exact Uw
  have S8:=AA ho2;have Ha:=AA hga;have Tj:=AA Py;have ay:=AA hoth;have CY:=AA Oq;clear ho2 hga Py hoth Oq p1 p2 p4 f2 r0 lR HF Mj HO OY;refine (oT (fun _=>qH _) A1 n1 c1 p.fields _ hfw).mono ?_;rintro e w1 ⟨v,cs1,rfl,hcs1,ho1,hb1⟩;obtain ⟨vA,vn,vc,rfl,hvn⟩:=GH ho1;have p4:=BF S8.o hi AG Tj.o (j:=4) rfl;have q1:w1.cell? ⟨G,i*6+4,none⟩=some (AB A1 n1 c1):=((Ja hb1).1 _ _ QU).trans p4;have hf1:w1.frozen? ⟨G,i*6+4,none⟩=false:=((Ja hb1).2 _ _ QU).trans (S8.o.frozenAt _);have hG1:G < w1.heap.size:=Au QU hb1.size;have IY:=AA ho1;have Kd:AI (Aq 11 EU (mask lo M wa) cs1 p.fields):=AA ⟨hcs1.1,hcs1.2⟩;have HB1:=AA hb1;have LG:=AA hvn;clear ho1 hcs1 hb1 p4 hfw hvn;go_wp2_with fail;have ho2:(w1.setCell ⟨G,i*6+4,none⟩ (AB vA vn vc)).ownsRow base 85 6 (AB (some ⟨G,0,none⟩) n cap) n (ca.set (i*6+4) (AB vA vn vc)):=((Ch S8.o HB1.o).stored (i*6+4) (AB vA vn vc)).1;have hi2:(w1.setCell ⟨G,i*6+4,none⟩ (AB vA vn vc)).ownsRow wa.heap.size 112 11 (AB vA vn vc) p.fields.length cs1:=G0 IY.o Yf _;have hg2:w.grownBy (w1.setCell ⟨G,i*6+4,none⟩ (AB vA vn vc)) (some G):=Cx (Eh Ha.o (Ei HB1.o _)) _ _;have hcb:chunk (ca.set (i*6+4) (AB vA vn vc)) 6 i=[AL p.name,AL p.FD,AE AF a,AE AF p.version,AB vA vn vc,AB A2 n2 c2]:=by rw [Ek _ AG,Tj.o];rfl
  have aJ:∀j,j≠i->chunk (ca.set (i*6+4) (AB vA vn vc)) 6 j=chunk cs 6 j:=fun j hj=>by rw [FH _ AG hj];exact ay.o j hj
  generalize w1.setCell ⟨G,i*6+4,none⟩ (AB vA vn vc)=w2 at ho2 hi2 hg2 ⊢;generalize ca.set (i*6+4) (AB vA vn vc)=cb at ho2 hcb aJ;have Jc:=AA ho2;have HI2:=AA hi2;have HG2:=AA hg2;have MD:=AA hcb;have o8:=AA aJ;clear ho2 hi2 hg2 hcb aJ q1 hf1 hG1 IY HB1 ay Tj S8;go_loopg [37] vn (fun q j wr=>∃(k:Nat) (out:List GT) (cr:List AN),k<=vn/\q=vn - k/\j=AE AF k/\ED (fun _=>fieldStep s) p.fields k=some out/\w.grownBy wr (some G)/\wr.ownsRow base 85 6 (AB (some ⟨G,0,none⟩) n cap) n cb/\
   wr.ownsRow wa.heap.size 112 11 (AB vA vn vc) p.fields.length cr/\Aq 11 EU (mask lo M wa) cr (out++p.fields.drop k))
  case atStart=>exact lJ
  clear Jc HI2 HG2 Kd;obtain ⟨k,out,cr,hk,hq,rfl,hto,hgr,hog,Gc,hcr⟩:=hrel;have HQ:=AA hq;have DZ:=AA hto;clear hq hto;by_cases hlt:k < vn
  ·rcases Hr Gc with ⟨h,h0⟩ | ⟨H,hcap,h,hH,hHw,hn2⟩
   · exact RV
   injection h with h1 h2 h3;subst h1 h3;clear h2;have vF:vn<=9223372036854775807:=by have:=LG.o;omega
   have vW:w.heap.size<=H:=by have:=CY.o;omega
   obtain ⟨m,hm⟩:∃m,p.fields[k]? =some m:=⟨p.fields[k]' Hn,BJ _⟩;have hlen:=Cn Hn DZ.o;have hat:(out++p.fields.drop k)[k]? =some m:=by rw [Cp AG,EP,hlen];simpa using hm
   obtain ⟨B1,m1,d1,hch,hnm⟩:=hcr.chunk hat;have Dy:wr.ownsRow wa.heap.size 112 11 (AB (some ⟨H,0,none⟩) vn vc) vn cr:=by have:=LG.o;rw [this] at Gc ⊢;exact Gc
   have e1:=BF Dy hlt AG hch (j:=1) rfl;have e4:=BF Dy hlt AG hch (j:=4) rfl;have e5:=BF Dy hlt AG hch (j:=5) rfl;have f5:=Dy.frozenAt (k*11+5);have g4:=BF hog hi AG MD.o (j:=4) rfl;have GU:=AA hgr;have LI:=AA hog;have LH:=AA Dy;have TI:=AA hcr;have HM:=AA hm;have HLEN:=AA hlen;have HAT:=AA hat;clear hgr hog Gc Dy hcr hm hlen hat hch hnm;have hkn:(k:Int) < (vn:Int):=AG
   have hk0:=Int.natCast_nonneg k
   have hput:Aq 11 EU (mask lo M wa) (cr.set (k*11+5) (AE AF (-1))) ((out++p.fields.drop k).set k {m with type:={m.type with unit:= -1}}):=jB TI.o HAT.o (-1);have hoq:=(LH.o.stored (k*11+5) (AE AF (-1))).1;have hgq:w.grownBy (wr.setCell ⟨H,k*11+5,none⟩ (AE AF (-1))) (some G):=MU GU.o UH _;have Nt:=own_ne LI.o (p:=⟨H,k*11+5,none⟩) BN (AE AF (-1));have X0:=AA hput;have Kc:=AA hoq;have PB:=AA hgq;have Tg:=AA Nt;clear hput hoq hgq Nt;by_cases hkd:m.type.kind=1/\m.type.An≠Oh
   ·obtain ⟨hk1,hof⟩:=hkd
    have t1:m.type.An.toList.isEmpty=false:=aD hof;have t2:¬m.type.An.toList=[]:=by intro e;rw [e] at t1;cases t1
    have HKD:=AA (show m.type.kind=1/\m.type.An≠Oh from ⟨hk1,hof⟩);clear hof;go_upto_region 8 with fail;have HB:=AA (Gp.o.below (Cw PB.o hlo Gl)).Hz;generalize wr.setCell ⟨H,k*11+5,none⟩ (AE AF (-1))=wq at Kc PB Tg HB ⊢;have hkl:k < (out++p.fields.drop k).length:=(BD.1 HAT.o).1;have Lb:((out++p.fields.drop k).set k {m with type:={m.type with unit:= -1}})[k]? =some {m with type:={m.type with unit:= -1}}:=F9 hkl;obtain ⟨B2,m2,d2,hck,hnm⟩:=X0.o.chunk Lb;have d4:=BF Kc.o hlt AG hck (j:=4) rfl;have d5:=BF Kc.o hlt AG hck (j:=5) rfl;have fd5:=Kc.o.frozenAt (k*11+5);obtain ⟨b1',b2',b3',Sr,fn',PG,Hu,_,gD,_,_⟩:=HB.o;have s1:=Hu.cell 1;have lR':=Hu.lt;simp only [Ak,Al,Az] at s1;have hget:=Hx (G7 s) m.type.An;have Mi:=AA (gD.same (w':=wq.drew) rfl);have SQ:=AA Lb;clear Hu gD hkl Lb hck hnm HB e1 e4 e5 f5 g4;cases hix:idx (G7 s) m.type.An with
    |
     none=>
     rw [hix] at hget;have Cf:AI (EB 85 6 BU base G n cap i cs lo M (Fl s p) w (Bz Bq) wq.drew):=by refine Dj ?_ (grown_drew PB.o);unfold Fl;rw [IC.o];simp only;rw [Em (k:=k+1) Hn (FE DZ.o HM.o rX)]
     have V0:=AA hget;clear hix hget
     go_region_dies
     all_goals
      refine (G6 b2' _ _ _ Mi.o V0.o).mono ?_;rintro e w' ⟨rfl,rfl⟩;exact ⟨rfl,Cf.o⟩
    |
     some f=>
     rw [hix] at hget;have HST:AI (fieldStep s m=some {m with type:={m.type with unit:=(f:Int)}}):=AA rX;have HF:=AA ((FW b2' _ _ (f:Int) wq.drew Mi.o hget).mono (R':=fun e w'=>e=AU (AE AF f)/\w'=wq.drew) ET);clear hix hget;refine wp_region_still_tail 12 AJ AJ ?_;simp only [FL,FJ,JL,Hl]
     repeat still_step
     still_call HF.o
     repeat still_step
     refine FI ?_;change wpList _ _ _ _ _ wq.drew;go_wp2_with fail;go_roundg (vn - (k+1))
     case measure=>exact BS
     have ho3:=(Kc.o.drew.stored (k*11+5) (AE AF f)).1;have hc3:=jB X0.o SQ.o (f:Int);rw [Ia,Ia] at hc3;refine ⟨k+1,_,_,by omega,rfl,by go_num,FZ DZ.o HM.o HST.o,MU (grown_drew PB.o) UH _,own_ne Tg.o.drew BN _,?_,by rw [<-set_drop HLEN.o HM.o];exact hc3⟩;rw [Ia] at ho3;have:=LG.o;rw [this] at ho3 ⊢;exact ho3
   have HST:AI (fieldStep s m=some {m with type:={m.type with unit:= -1}}):=AA (by unfold fieldStep;rw [Ai hkd]);by_cases hk1:m.type.kind=1
   ·have hof:m.type.An=Oh:=Decidable.byContradiction fun h=>hkd ⟨hk1,h⟩
    have t1:m.type.An.toList.isEmpty=true:=by rw [hof,LU];rfl
    have t2:m.type.An.toList=[]:=by rw [hof,LU]
    clear hof hkd;go_wp2_with fail;go_roundg (vn - (k+1))
    case measure=>exact BS
    exact yJ
   have t0:decide (m.type.kind=1)=false:=by simpa using hk1
   clear hkd;go_wp2_with fail;go_roundg (vn - (k+1))
   case measure=>exact BS
   exact yJ
  have hke:k=p.fields.length:=by have:=LG.o;omega
  have hcf:Aq 11 EU (mask lo M wa) cr out:=by rw [hke,Ji,FK] at hcr;exact hcr
  have Qb:AI (Ft (fun _=>fieldStep s) p.fields=some out):=AA rM;obtain ⟨wz,rfl⟩:=Ad wr;have hdw:BT 4 72 (fun _=>Hc (mask lo M wz)) wz (AB A2 n2 c2) p.deps:=⟨(HDP.o.mono Fy (Cw hgr hlo Gl)).1.sm,HDP.o.2⟩;have g5:=BF hog hi AG MD.o (j:=5) rfl;have jA:G < wz.heap.size:=Au Uw hgr.size;have GU:=AA hgr;have LI:=AA hog;have LH:=AA Gc;have pS:=AA hcf;have HOL:=AA (Cn AG DZ.o);clear hgr hog Gc hcr hcf DZ HQ;go_wp2_with fail;refine (wA (fun _=>zJ _) A2 n2 c2 p.deps _ hdw).mono ?_;rintro e w3 ⟨v,Za,rfl,hcs3,ho3,hb3⟩;obtain ⟨xA,xn,xc,rfl,hxn⟩:=GH ho3;have q5:w3.cell? ⟨G,i*6+5,none⟩=some (AB A2 n2 c2):=((Ja hb3).1 _ _ jA).trans g5;have hf5:w3.frozen? ⟨G,i*6+5,none⟩=false:=((Ja hb3).2 _ _ jA).trans (LI.o.frozenAt _);have hG3:G < w3.heap.size:=Au jA hb3.size;have I4:=AA ho3;have WY:AI (Aq 4 Hc (mask lo M wz) Za p.deps):=AA ⟨hcs3.1,hcs3.2⟩;have HB3:=AA hb3;have R6:=AA hxn;clear ho3 hcs3 hb3 g5 hdw hxn;go_wp2_with fail;have Ot:(w3.setCell ⟨G,i*6+5,none⟩ (AB xA xn xc)).ownsRow base 85 6 (AB (some ⟨G,0,none⟩) n cap) n (cb.set (i*6+5) (AB xA xn xc)):=((Ch LI.o HB3.o).stored (i*6+5) (AB xA xn xc)).1;have ACC:(w3.setCell ⟨G,i*6+5,none⟩ (AB xA xn xc)).ownsRow wa.heap.size 112 11 (AB vA vn vc) p.fields.length cr:=G0 (Ch LH.o HB3.o) Yf _;have vP:(w3.setCell ⟨G,i*6+5,none⟩ (AB xA xn xc)).ownsRow wz.heap.size 290 4 (AB xA xn xc) p.deps.length Za:=G0 I4.o (by simpa using jA) _;have nZ:wz.grownBy (w3.setCell ⟨G,i*6+5,none⟩ (AB xA xn xc)) (some G):=Cx (Ei HB3.o _) _ _;have hg4:w.grownBy (w3.setCell ⟨G,i*6+5,none⟩ (AB xA xn xc)) (some G):=Eh GU.o nZ;have hcc:chunk (cb.set (i*6+5) (AB xA xn xc)) 6 i=[AL p.name,AL p.FD,AE AF a,AE AF p.version,AB vA vn vc,AB xA xn xc]:=by rw [Ek _ AG,MD.o];rfl
  have aI:∀j,j≠i->chunk (cb.set (i*6+5) (AB xA xn xc)) 6 j=chunk cs 6 j:=fun j hj=>by rw [FH _ AG hj];exact o8.o j hj
  have hfb:∀r,(Value.slice vA vn vc).ownBlock=some r->r < wz.heap.size:=fun r e=>(LH.o.lt r e).2;generalize w3.setCell ⟨G,i*6+5,none⟩ (AB xA xn xc)=w4 at Ot ACC vP nZ hg4 ⊢;generalize cb.set (i*6+5) (AB xA xn xc)=cc at Ot hcc aI;have hc4:Aq 4 Hc (LZ (AB xA xn xc) (mask lo M w4)) Za p.deps:=
   WY.o.mono Fy (AAJ (Cw nZ hlo Gl) (fun H e=>by rw [EI];exact (vP.lt H e).1))
  have X3:=AA Ot;have AGm:=AA ACC;have AGo:=AA vP;have HG4:=AA hg4;have EN:=AA hcc;have wZ:=AA aI;have pP:=AA hfb;have PD:=AA hc4;have hwz:w.heap.size<=wz.heap.size:=GU.o.size;have HZ4:=AA nZ.size;clear Ot ACC vP nZ hg4 hcc aI hfb hc4 q5 hf5 hG3 I4 WY HB3 LI LH MD o8 HDP LL GU;go_loopg [88] xn (fun q j wr=>∃(k:Nat) (ou:List Mg) (cd:List AN),k<=xn/\q=xn - k/\j=AE AF k/\ED (fun _=>RT p) p.deps k=some ou/\w.grownBy wr (some G)/\wz.heap.size<=wr.heap.size/\wr.ownsRow base 85 6 (AB (some ⟨G,0,none⟩) n cap) n cc/\
   wr.ownsRow wa.heap.size 112 11 (AB vA vn vc) p.fields.length cr/\wr.ownsRow wz.heap.size 290 4 (AB xA xn xc) p.deps.length cd/\Aq 4 Hc (LZ (AB xA xn xc) (mask lo M wr)) cd (ou++p.deps.drop k))
  case atStart=>exact ⟨0,[],Za,Av _,rfl,rfl,rfl,HG4.o,HZ4.o,X3.o,AGm.o,AGo.o,PD.o⟩
  clear X3 AGm AGo HG4 PD;obtain ⟨k',ou,cd,hk',hq',rfl,nL,hgr,hzr,hog,hof,hod,hcd⟩:=hrel;have HQ:=AA hq';have DZ:=AA nL;clear hq' nL;by_cases hlt':k' < xn
  ·rcases Hr hod with ⟨h,h0⟩ | ⟨H,hcap,h,hH,hHw,hn2⟩
   · exact RV
   injection h with h1 h2 h3;subst h1 h3;clear h2;have AHS:xn<=9223372036854775807:=by have:=R6.o;omega
   have vW:w.heap.size<=H:=AG
   obtain ⟨d,hd⟩:∃m,p.deps[k']? =some m:=⟨p.deps[k']' Pe,BJ _⟩;have hlen:=Cn Pe DZ.o;have hat:(ou++p.deps.drop k')[k']? =some d:=by rw [Cp AG,EP,hlen];simpa using hd
   obtain ⟨B1,m1,d1,B2,m2,d2,hch,hnm,hsrc⟩:=hcd.chunk hat;have gC:wr.ownsRow wz.heap.size 290 4 (AB (some ⟨H,0,none⟩) xn xc) xn cd:=by have:=R6.o;rw [this] at hod ⊢;exact hod
   have e0:=BF gC hlt' AG hch (j:=0) rfl;simp only [EO] at e0;have e2:=BF gC hlt' AG hch (j:=2) rfl;have f2:=gC.frozenAt (k'*4+2);have g5:=BF hog hi AG EN.o (j:=5) rfl;have hnl:=hnm.1.len;have AFY:=(gC.stored (k'*4+2) (AB none 0 0)).1;have AFj:wr.grownBy (wr.setCell ⟨H,k'*4+2,none⟩ (AB none 0 0)) (some H):=Cx (DS _ _) _ _;obtain ⟨wy,rfl⟩:=Ad wr;have GU:=AA hgr;have LI:=AA hog;have O9:=AA hof;have HOD:=AA gC;have pT:=AA hcd;have HD:=AA hd;have HLEN:=AA hlen;have HAT:=AA hat;have OY:=AA hch;have di:=AA hnm;have SH:=AA hnl;have AGV:=AA AFY;have AGj:=AA AFj;clear hgr hog hof hod gC hcd hd hlen hat hch hnm hsrc hnl AFY AFj;have hkn:(k':Int) < (xn:Int):=AG
   have hk0:(0:Int)<=(k':Int):=AG
   go_wp2_with fail;go_loopg [105] m1 (fun q j wr=>∃(k2:Nat) (o3:AQ) (fA:Option Aa) (fn fc:Nat),k2<=m1/\q=m1 - k2/\j=AE AF k2/\ED (fun _=>Vk (fieldNames p)) d.names k2=some o3/\wy.grownBy wr (some H)/\
    wr.ownsRow wz.heap.size 290 4 (AB (some ⟨H,0,none⟩) xn xc) xn (cd.set (k'*4+2) (AB fA fn fc))/\wr.ownsRow wy.heap.size 3 1 (AB fA fn fc) k2 (o3.map Gb))
   case atStart=>exact ⟨0,[],none,0,0,Av _,rfl,rfl,rfl,AGj.o,AGV.o,Ev _ _ _ _⟩
   clear AGV AGj e0 e2 f2 g5;obtain ⟨k2,o3,Sr,fn',PG,hk2,hq2,rfl,XU,hgi,aN,AFX⟩:=hrel;have Io:=AA hq2;have Td:=AA XU;clear hq2 XU;have hwi:w.grownBy wr (some G):=OP GU.o hgi vW;have hHy:H < wy.heap.size:=hHw;have hHi:H < wr.heap.size:=Au hHy hgi.size;have vQ:chunk (cd.set (k'*4+2) (AB Sr fn' PG)) 4 k'=[AB B1 m1 d1,AL d.name,AB Sr fn' PG,AE AF d.dst]:=by rw [Ek _ AG,OY.o];rfl
   have i1:=BF aN hlt' AG vQ (j:=1) rfl;have i2:=BF aN hlt' AG vQ (j:=2) rfl;have i3:=BF aN hlt' AG vQ (j:=3) rfl;have fi2:=aN.frozenAt (k'*4+2);have fi3:=aN.frozenAt (k'*4+3);have iw:=Rq (HMB.o.below (Cw hwi hlo Gl));have t7:=AA (iw.same (w':=wr.drew) rfl);have HMJ:=AA iw;have Ze:=AA hwi;have pN:=AA hgi;have AGU:=AA aN;have wh:=AA AFX;clear iw hwi hgi aN AFX vQ;by_cases hlt2:k2 < m1
   ·obtain ⟨nb,AHN,nm,rfl,hnb,hnk,hnc⟩:=Wn ((AB8 (v:=AB (some ⟨H,0,none⟩) xn xc) Ri (di.o.1.mono BV (ZR (cV pN.o)))).Hz Ri) hlt2
    have hget:=Hx (fieldNames p) nm;have hkn2:(k2:Int) < (m1:Int):=AG
    have AJK:(0:Int)<=(k2:Int):=AG
    have AJE:m1*16<=140737488355328:=by rw [SH.o];exact di.o.2
    have jX:=AA hnk;clear hnk;go_wp2_with fail;cases hix:idx (fieldNames p) nm with
    |
     none=>
     rw [hix] at hget;have Cf:AI (EB 85 6 BU base G n cap i cs lo M (Fl s p) w (Bz Bq) wr.drew):=by
      refine Dj ?_ (grown_drew Ze.o);unfold Fl;rw [IC.o];simp only;rw [Qb.o];simp only;rw [Em (k:=k'+1) Pe (FE DZ.o HD.o (by unfold RT;rw [Em (k:=k2+1) (by have:=SH.o;omega) (FE Td.o jX.o (by unfold Vk;rw [hix];rfl))]))]
     have V0:=AA hget;clear hix hget
     go_region_dies
     all_goals
      refine (G6 mb _ _ _ t7.o V0.o).mono ?_;rintro e w' ⟨rfl,rfl⟩;exact ⟨rfl,Cf.o⟩
    |
     some f=>
     rw [hix] at hget;have HIF:AI (Vk (fieldNames p) nm=some (f:Int)):=AA (by unfold Vk;rw [hix];rfl);have HF:=AA ((FW mb _ _ (f:Int) wr.drew t7.o hget).mono (R':=fun e w'=>e=AU (AE AF f)/\w'=wr.drew) ET);clear hix hget;obtain ⟨i0,hi0,hz0,hz1,hz2⟩:=Kh AEX;have hyr:wy.heap.size<=wr.heap.size:=pN.o.size
     go_region_law (first
      | (
       refine Wo _ Cq (.tmp 113) (.tmp 117) 30 Cq wy.heap.size 3 i0 (AE AF 0) 1 8 underlying30 hi0 hz0 hz1 hz2 rfl Ah (AB Sr fn' PG) k2 (o3.map Gb) Cq (wh.o.drew.alloc _) ⟨wr.heap.size,0,none⟩ 1 1 [AE AF f] Cq rfl (cell_one_new _ _ _) N9 FN AG BN ?_;intro v' w5 hown' hgrow hat';obtain ⟨zA,zn,zc,rfl,hzn⟩:=GH hown';have vJ:=(AGU.o.drew.alloc (AO #[AE AF f] 3)).kept hgrow (.inr (fun e=>zM wh.o hHy e.symm));have AFi:wy.grownBy w5 (some H):=AAM (oC (grown_drew pN.o) _) hgrow (fun r e=>(wh.o.lt r e).1);have AFr:chunk (cd.set (k'*4+2) (AB Sr fn' PG)) 4 k'=[AB (some ⟨nb,AHN,none⟩) m1 d1,AL d.name,AB Sr fn' PG,AE AF d.dst]:=by rw [Ek _ AG,OY.o];rfl
       have j2:=BF vJ hlt' AG AFr (j:=2) rfl;have fj2:=vJ.frozenAt (k'*4+2);have AIX:=AA vJ;have AIl:=AA AFi;have AIQ:=AA hown';clear vJ AFi hown' hgrow hat' AFr hzn)
      | (refine bf Cq 209 #[.map (some mb),AL nm] (by go_simp) HF.o ?_))
     all_goals
      go_wp2_with fail;go_roundg (m1 - (k2+1))
      case measure=>exact Jw
      have Qi:=(AIX.o.stored (k'*4+2) (AB zA zn zc)).1;rw [Ia] at Qi;refine ⟨k2+1,o3++[(f:Int)],zA,zn,zc,by omega,rfl,by go_num,FZ Td.o jX.o HIF.o,Cx AIl.o _ _,Qi,?_⟩;have:=G0 AIQ.o (p:=⟨H,k'*4+2,none⟩) (by simpa using hHy) (AB zA zn zc);rw [DE];exact this
   have hke2:k2=d.names.length:=by have:=SH.o;omega
   have gp:AI (Ft (fun _=>Vk (fieldNames p)) d.names=some o3):=AA rR;have hget:=Hx (fieldNames p) d.name;go_wp2_with fail;cases hix:idx (fieldNames p) d.name with
   |
    none=>
    rw [hix] at hget;have Cf:AI (EB 85 6 BU base G n cap i cs lo M (Fl s p) w (Bz Bq) wr):=by
     refine Dj ?_ Ze.o;unfold Fl;rw [IC.o];simp only;rw [Qb.o];simp only;rw [Em (k:=k'+1) Pe (FE DZ.o HD.o (by unfold RT Vk;rw [hix];cases Ft (fun _ x=>Option.map (fun n:Nat=>(n:Int)) (idx (fieldNames p) x)) d.names <;> rfl))]
    refine (G6 mb _ _ wr HMJ.o hget).mono ?_;rintro e w' ⟨rfl,rfl⟩;clear hix hget
    go_wp2
    exact ⟨rfl,Cf.o⟩
   |
    some f=>
    rw [hix] at hget;have HDS:AI (RT p d=some {d with src:=o3,dst:=(f:Int)}):=AA (by unfold RT;rw [gp.o];unfold Vk;rw [hix];rfl)
    refine (FW mb _ _ (f:Int) wr HMJ.o hget).mono ?_;rintro e w' ⟨rfl,rfl⟩;clear hix hget;go_wp2_with fail;go_roundg (xn - (k'+1))
    case measure=>exact BS
    have hHy:H < wy.heap.size:=hHw;have Qi:=(AGU.o.stored (k'*4+3) (AE AF f)).1;have hgn:wy.grownBy (wr.setCell ⟨H,k'*4+3,none⟩ (AE AF f)) (some H):=Cx pN.o _ _;have hfb:=pP.o;refine ⟨k'+1,ou++[{d with src:=o3,dst:=(f:Int)}],(cd.set (k'*4+2) (AB Sr fn' PG)).set (k'*4+3) (AE AF f),by omega,rfl,by go_num,FZ DZ.o HD.o HDS.o,MU Ze.o UH _,by have:=pN.o.size;simp [World.setCell];omega,own_ne (LI.o.kept pN.o (.inr M2)) BN _,AEG (O9.o.kept pN.o (.inr (fun e=>by have:=hfb _ e;omega))) (fun e=>by have:=hfb _ e;simp at this;omega) _,?_,?_⟩
    · have:=R6.o;rw [this] at Qi ⊢;exact Qi
    have hsl:BT 1 8 iR (LZ (AB (some ⟨H,0,none⟩) xn xc) (mask lo M (wr.setCell ⟨H,k'*4+3,none⟩ (AE AF f)))) (AB Sr fn' PG) o3:=by have hl3:=Cn AG Td.o;refine ⟨CW (AAI (LV (G0 wh.o (p:=⟨H,k'*4+3,none⟩) (by simpa using hHy) (AE AF f)) AG) (fun H' e=>by simp [Value.ownBlock] at e;omega)) (AF4 _ _) (by rw [hl3]),?_⟩;have:=di.o.2;rw [hl3,hke2];omega
    have hc6:=ACr (ACs (pT.o.mono Fy (ZR (cV hgn))) HAT.o rfl hsl) (F9 (BD.1 HAT.o).1) (f:Int);rw [Ia] at hc6;rw [<-set_drop HLEN.o HD.o];exact hc6
  have aO:k'=p.deps.length:=by have:=R6.o;omega
  go_wp2_with fail
  go_end0
  have hP:Fl s p=some {p with Ar:=(a:Int),fields:=out,deps:=ou}:=by unfold Fl;rw [IC.o];simp only;rw [Qb.o];simp only;unfold Ft;rw [<-aO,DZ.o]
  have hwa:wa.grownBy wr (some G):=vd Ha.o hgr CY.o;refine QB hP hgr hog wZ.o ⟨vA,vn,vc,xA,xn,xc,EN.o,⟨CW (LV hof (by rw [CY.o];exact tX)) (pS.o.mono Cy (Cw hwa hlo Gl)) (by rw [HOL.o,hke]),?_⟩,⟨CW (LV hod AG) ?_ (by rw [Cn AG DZ.o,aO]),?_⟩⟩
  · rw [HOL.o,hke];exact pX.o
  ·rw [aO,Ji,FK] at hcd
   exact AAH ib hcd
  · rw [Cn AG DZ.o,aO];exact HBD.o
def Ge (s:BB) (vars:SMap) (froms:List B0) (t:Du):Option Du:=
 if t.name=Oh then some {t with var:= -1,field:=0}
 else match getM vars t.name with
  | none=>none
  |
   some v=>match froms[v.toNat]? with
   | none=>none
   |
    some f=>match s.Ap[f.schema.toNat]? with
    | none=>none
    | some x=>(idx (fieldNames x) t.path).map (fun n=>{t with var:=v,field:=(n:Int)})
theorem za (a b c d:Nat) (w:AH):mask a b (mask c d w)=mask c d (mask a b w):=by
 unfold mask;congr 1;apply RH;intro k;simp only [RK,Option.map_map];cases w.heap[k]? with
 | none=>rfl
 |
  some o=>
  simp only [Cl,Function.comp,Bu];split <;> split <;> rfl
def U6 (base:Nat) (T:Af) (sz HT n cap:Nat) (cs:List AN) (ot:Nat) (res:Option Du) (w:AH) (e:Ending) (w':AH):Prop:=
 w.grownBy w' (some HT)/\match res with
  | none=>e=Bz Bq
  | some t=>e=AU (BQ #[])/\w'.ownsRow base T sz (AB (some ⟨HT,0,none⟩) n cap) n ((cs.set (ot+2) (AE AF t.var)).set (ot+3) (AE AF t.field))
theorem bt {base:Nat} {T:Af} {sz HT n cap:Nat} {cs:List AN} {ot:Nat} {res:Option Du} {w w':AH} (h:res=none) (hg:w.grownBy w' (some HT)):U6 base T sz HT n cap cs ot res w (Bz Bq) w':=by subst h;exact ⟨hg,rfl⟩
theorem ZL {base:Nat} {T:Af} {sz HT n cap:Nat} {cs:List AN} {ot:Nat} {res:Option Du} {t:Du} {w w':AH} (h:res=some t) (hg:w.grownBy w' (some HT)) (ho:w'.ownsRow base T sz (AB (some ⟨HT,0,none⟩) n cap) n ((cs.set (ot+2) (AE AF t.var)).set (ot+3) (AE AF t.field))):U6 base T sz HT n cap cs ot res w (AU (BQ #[])) w':=by subst h;exact ⟨hg,rfl,ho⟩
theorem JU {w:AH} {base:Nat} {e:Af} {sz g n cap:Nat} {cs:List AN} (h:w.ownsRow base e sz (AB (some ⟨g,0,none⟩) n cap) n cs) {j:Nat} {u:AN} (hu:cs[j]? =some u):w.cell? ⟨g,j,none⟩=some u:=by have hl:=(BD.1 hu).1;rw [h.1] at hl;rw [h.cellAt _ hl,hu]
theorem cO (V Rb Ub vb R G gi H fn fc base sz HT n cap ot:Nat) (T:Af) (cs:List AN) (s:BB) (vars:SMap) (froms:List B0) (t:Du) (w:AH)
 (hV:w.cell? ⟨V,0,none⟩=some (.map (some vb))) (hVT:V≠HT) (hRb:w.cell? ⟨Rb,0,none⟩=some (AW (some ⟨R,0,none⟩))) (hRT:Rb≠HT) (hUb:w.cell? ⟨Ub,0,none⟩=some (AW (some ⟨G,gi,none⟩))) (hUT:Ub≠HT)
 (hG:froms≠[]->w.cell? ⟨G,gi+2,none⟩=some (AB (some ⟨H,0,none⟩) fn fc)) (hGT:G≠HT) (hm:MapAt Hq Gb w vb vars) (hres:Jf (mask HT (HT+1) w) R s)
 (hfr:∀v,getM vars t.name=some v->∃(vn a:Nat) (f:B0) (x:BL),v=(vn:Int)/\vn < fn/\fn<=9223372036854775807/\froms[vn]? =some f/\f.schema=(a:Int)/\s.Ap[a]? =some x/\w.cell? ⟨H,vn*8+2,none⟩=some (AE AF a)/\(H≠HT\/(vn*8+2≠ot+2/\vn*8+2≠ot+3)))
 (ho:w.ownsRow base T sz (AB (some ⟨HT,0,none⟩) n cap) n cs) (h0:cs[ot]? =some (AL t.name)) (h1:cs[ot+1]? =some (AL t.path)) (h2:cs[ot+2]? =some (AE AF t.var)) (h3:cs[ot+3]? =some (AE AF t.field)):
 AS prog 213 #[AW (some ⟨HT,ot,none⟩),AW (some ⟨V,0,none⟩),AW (some ⟨Rb,0,none⟩),AW (some ⟨Ub,0,none⟩)] w (U6 base T sz HT n cap cs ot (Ge s vars froms t) w):=by
 have c0:=JU ho h0;have c1:=JU ho h1;have c2:=JU ho h2;have c3:=JU ho h3;have f2:=ho.frozenAt (ot+2);have f3:=ho.frozenAt (ot+3);have hoq:=((ho.stored (ot+2) (AE AF (-1))).1.stored (ot+3) (AE AF 0)).1;have hgq:w.grownBy ((w.setCell ⟨HT,ot+2,none⟩ (AE AF (-1))).setCell ⟨HT,ot+3,none⟩ (AE AF 0)) (some HT):=Cx (Cx (DS _ _) _ _) _ _;have Kc:=AA hoq;have PB:=AA hgq;have VH:=AA (LD ho);have HV:=AA hV;have Jb:=AA hRb;have HUB:=AA hUb;have HG:=AA hG;have HM:=AA hm;have Gp:=AA hres;have jd:=AA hfr;have H0:=AA h0;have H1:=AA h1;have hl3:=(BD.1 h3).1;have hl2:=(BD.1 h2).1;clear hoq hgq hV hRb hUb hG hm hres hfr ho h0 h1 h2 h3;go_enter func213,ntmps213;by_cases hof:t.name=Oh
 ·have t1:t.name.toList.isEmpty=true:=by rw [hof,LU];rfl
  have t2:t.name.toList=[]:=by rw [hof,LU]
  have HP:AI (Ge s vars froms t=some {t with var:= -1,field:=0}):=AA (by unfold Ge;rw [Ao hof]);clear hof;go_wp2_with fail
  go_end0
  exact ZL HP.o PB.o Kc.o
 have t1:t.name.toList.isEmpty=false:=aD hof;have t2:¬t.name.toList=[]:=by intro e;rw [e] at t1;cases t1
 have O9:=AA hof;clear hof;have hVq:=PB.o.cell HV.o (by simpa using hVT);have WE:MapAt Hq Gb ((w.setCell ⟨HT,ot+2,none⟩ (AE AF (-1))).setCell ⟨HT,ot+3,none⟩ (AE AF 0)).drew vb vars:=(HM.o.keeps (CH.grown PB.o (fun x e=>by cases e;exact VH.o))).same rfl;have g0:((cs.set (ot+2) (AE AF (-1))).set (ot+3) (AE AF 0))[ot]? =some (AL t.name):=by rw [JM AG,JM AG];exact H0.o
 have g1:((cs.set (ot+2) (AE AF (-1))).set (ot+3) (AE AF 0))[ot+1]? =some (AL t.path):=by rw [JM AG,JM AG];exact H1.o
 have g2:((cs.set (ot+2) (AE AF (-1))).set (ot+3) (AE AF 0))[ot+2]? =some (AE AF (-1)):=by rw [JM AG,F9 hl2]
 have g3:((cs.set (ot+2) (AE AF (-1))).set (ot+3) (AE AF 0))[ot+3]? =some (AE AF 0):=by rw [F9 (by simpa using hl3)]
 cases hgv:getM vars t.name with
 |
  none=>
  have di:AI (Ge s vars froms t=none):=AA (by unfold Ge;rw [Ai O9.o,hgv]);go_upto_region 2 with fail;generalize (w.setCell ⟨HT,ot+2,none⟩ (AE AF (-1))).setCell ⟨HT,ot+3,none⟩ (AE AF 0)=wq at Kc PB hVq WE ⊢;have d0:=JU Kc.o g0;have d2:=JU Kc.o g2;have pE:=AA WE;have HGV:=AA hgv;clear WE c0 c1 c2 c3 f2 f3 g0 g1 g2 g3 hgv
  go_region_dies
  all_goals
   refine (G6 vb _ _ _ pE.o HGV.o).mono ?_;rintro e w' ⟨rfl,rfl⟩;exact ⟨rfl,bt di.o (grown_drew PB.o)⟩
 |
  some v=>
  obtain ⟨vn,a,f,x,rfl,hvf,hfn,hfv,hfa,hsa,hcf,hne⟩:=jd.o v hgv;have ACG:((w.setCell ⟨HT,ot+2,none⟩ (AE AF (-1))).setCell ⟨HT,ot+3,none⟩ (AE AF 0)).cell? ⟨H,vn*8+2,none⟩=some (AE AF a):=by rw [Yb _ _ _ _ (fun e=>by injection e;omega),Yb _ _ _ _ (fun e=>by injection e;omega)];exact hcf
  have hne2:(⟨HT,ot+2,none⟩:Aa)≠⟨H,vn*8+2,none⟩:=fun e=>by injection e;omega
  have HP:AI (∀r,(idx (fieldNames x) t.path).map (fun n=>({t with var:=(vn:Int),field:=(n:Int)}:Du))=r->Ge s vars froms t=r):=AA (fun r hr=>by unfold Ge;rw [Ai O9.o,hgv];simp only;rw [show ((vn:Int)).toNat=vn from rfl,hfv];simp only;rw [hfa,show ((a:Int)).toNat=a from rfl,hsa];exact hr)
  have HF:=AA ((FW vb _ _ (vn:Int) _ WE hgv).mono (R':=fun e w'=>e=AU (AE AF vn)/\w'=((w.setCell ⟨HT,ot+2,none⟩ (AE AF (-1))).setCell ⟨HT,ot+3,none⟩ (AE AF 0)).drew) ET);have hGc:=HG.o (fun e=>by rw [e] at hfv;simp at hfv);have AJH:=hl3;go_upto_region 2 with fail;clear WE;generalize (w.setCell ⟨HT,ot+2,none⟩ (AE AF (-1))).setCell ⟨HT,ot+3,none⟩ (AE AF 0)=wq at Kc PB hVq ACG HF ⊢;have d0:=JU Kc.o g0;have d2:=JU Kc.o g2;have fd2:=Kc.o.frozenAt (ot+2);clear c0 c1 c2 c3 f2 f3 hgv;refine wp_region_still_tail 9 AJ AJ ?_;simp only [FL,FJ,JL,Hl]
  repeat still_step
  still_call HF.o
  repeat still_step
  refine FI ?_;change wpList _ _ _ _ _ wq.drew;go_upto_region 3 with fail;have hox:=(Kc.o.stored (ot+2) (AE AF vn)).1.drew;have hgx:w.grownBy (wq.setCell ⟨HT,ot+2,none⟩ (AE AF vn)).drew (some HT):=grown_drew (Cx PB.o _ _);have hcx:(wq.setCell ⟨HT,ot+2,none⟩ (AE AF vn)).drew.cell? ⟨H,vn*8+2,none⟩=some (AE AF a):=(Yb _ _ _ _ hne2).trans ACG;generalize (wq.setCell ⟨HT,ot+2,none⟩ (AE AF vn)).drew=wx at hox hgx hcx ⊢;have k1:=JU hox (j:=ot+1) (u:=AL t.path) (by rw [JM AG];exact g1);have k2:=JU hox (j:=ot+2) (u:=AE AF vn) (by rw [F9 (by simpa using hl2)]);have k3:=JU hox (j:=ot+3) (u:=AE AF 0) (by rw [JM AG];exact g3);have fk3:=hox.frozenAt (ot+3);have xR:=hgx.cell Jb.o (by simpa using hRT);have xU:=hgx.cell HUB.o (by simpa using hUT);have xG:=hgx.cell hGc (by simpa using hGT);obtain ⟨b1,b2,b3,fA,fl,fcc,hbR,hm1,hm2,Dm,hfs⟩:=(Gp.o.below (Cw hgx (Ac _) (Ib _))).Hz;have r3:=hbR.cell 3;have lR:=hbR.lt;simp only [Ak,Al,Az] at r3;have hal:a < fl:=by have:=hfs.len;rw [this,Cb];exact (BD.1 hsa).1
  have AFk:fl<=9223372036854775807:=by have:=hfs.le;omega
  obtain ⟨fb,oF,fm,fg,rfl,hfb,hfm,hfc,L9⟩:=Us hfs hal;have hfx:fm=fieldMap x:=by rw [Bb,hsa,Cl,Bu] at hfm;exact hfm.symm
  subst hfx;have hget:=Hx (fieldNames x) t.path;have WX:=AA (L9.same (w':=wx.drew) rfl);have o7:=AA hox;have HGX:=AA hgx;have h01:(0:Int)<=(vn:Int):=AG
  have h02:(vn:Int) < (fn:Int):=AG
  have h03:(0:Int)<=(a:Int):=AG
  have h04:(a:Int) < (fl:Int):=AG
  clear hfs hfm L9 hbR hm1 hm2 Dm hox hgx g0 g1 g2 g3 d0 d2 fd2 HF ACG hVq hcf hne hne2 hGc hfa hfv hsa;cases hix:idx (fieldNames x) t.path with
  |
   none=>
   rw [hix] at hget;have di:=AA (HP.o none (by rw [hix];rfl));have Cf:AI (U6 base T sz HT n cap cs ot (Ge s vars froms t) w (Bz Bq) wx.drew):=AA (bt di.o (grown_drew HGX.o));have HF:=AA ((G6 fg _ _ wx.drew WX.o hget).mono (R':=fun e w'=>e=Bz Bq/\w'=wx.drew) ET);clear hix hget;refine Di 22 [0,1,2,3,4,5,6,7,8,9,10,11,12,13,14,15,16,17,18,19,20,21] (fun l=>l.take 22) AJ rfl AJ (fun d u c a h=>by cases d <;> exact h) ?_;simp only [FL,FJ]
   repeat still_step
   refine FI ?_;refine ⟨_,209,#[.map (some fg),AL t.path],Bq,rfl,rfl,?_,HF.o,rfl,Cf.o⟩;go_simp
  |
   some g=>
   rw [hix] at hget;have WS:=AA (HP.o (some {t with var:=(vn:Int),field:=(g:Int)}) (by rw [hix];rfl));have HF:=AA ((FW fg _ _ (g:Int) wx.drew WX.o hget).mono (R':=fun e w'=>e=AU (AE AF g)/\w'=wx.drew) ET);clear hix hget;refine wp_region_still_tail 25 AJ AJ ?_;simp only [FL,FJ,JL,Hl]
   repeat still_step
   still_call HF.o
   repeat still_step
   refine FI ?_;change wpList _ _ _ _ _ wx.drew;go_wp2_with fail
   go_end0
   refine ZL WS.o (Cx (grown_drew HGX.o) _ _) ?_;have:=(o7.o.drew.stored (ot+3) (AE AF g)).1;have e:((((cs.set (ot+2) (AE AF (-1))).set (ot+3) (AE AF 0)).set (ot+2) (AE AF vn)).set (ot+3) (AE AF g))=(cs.set (ot+2) (AE AF vn)).set (ot+3) (AE AF g):=by rw [List.set_comm _ _ (by omega:ot+3≠ot+2),Ia,Ia]
   rw [e] at this;exact this
def M4 (l:List B0):Nat->SMap
 | 0=>[]
 |
  k+1=>match l[k]? with
  | some f=>Hb (M4 l k) f.name (k:Int)
  | none=>M4 l k
def varsOf (l:List B0):SMap:=M4 l l.length
theorem iJ (l r:List B0):∀k,k<=l.length->M4 (l++r) k=M4 l k
 | 0,_=>rfl
 | k+1,h=>by rw [M4,M4,iJ l r k AG,ES AG]
theorem pn (l:List B0) (f:B0):varsOf (l++[f])=Hb (varsOf l) f.name (l.length:Int):=by unfold varsOf;rw [CQ];show M4 (l++[f]) (l.length+1)=_;rw [M4,Cp (Ac _),PK,iJ l _ _ (Ac _)];rfl
theorem SZ (l:List B0):∀k x v,getM (M4 l k) x=some v->∃n:Nat,v=(n:Int)/\n < k/\∃f,l[n]? =some f/\f.name=x
 | 0,x,v,h=>by simp [M4,P0] at h
 |
  k+1,x,v,h=>by
  rw [M4] at h;cases hk:l[k]? with
  |
   none=>
   rw [hk] at h;obtain ⟨n,h1,h2,h3⟩:=SZ l k x v h;exact ⟨n,h1,by omega,h3⟩
  |
   some f=>
   rw [hk] at h;simp only [oD] at h;split at h
   ·rename_i e
    exact ⟨k,by simpa using h.symm,by omega,f,hk,e.symm⟩
   obtain ⟨n,h1,h2,h3⟩:=SZ l k x v h;exact ⟨n,h1,by omega,h3⟩
def P1 (s:BB) (out:List B0) (f:B0):Option B0:=
 match idx (By s) f.kind with
 | none=>none
 | some a=>(Ge s (varsOf out) out f.An).map (fun t=>{f with schema:=(a:Int),An:=t})
def P6 (s:BB) (fo:List B0) (a:IL):Option IL:=
 match Ge s (varsOf fo) fo a.a,Ge s (varsOf fo) fo a.b with
 | some x,some y=>some {a with a:=x,b:=y}
 | _,_=>none
def Ue (s:BB) (xa:BL) (fo:List B0) (c:L0):Option L0:=
 match idx (fieldNames xa) c.path,Ge s (varsOf fo) fo c.term with
 | some n,some t=>some {c with field:=(n:Int),term:=t}
 | _,_=>none
def GV (s:BB) (r:Ce):Option Ce:=
 match idx (By s) r.head with
 | none=>none
 |
  some a=>match Ft (P1 s) r.froms with
  | none=>none
  |
   some fo=>match Ft (fun _=>P6 s fo) r.Cr with
   | none=>none
   |
    some wo=>match s.Ap[a]? with
    | none=>none
    |
     some xa=>match Ft (fun _=>Ue s xa fo) r.sets with
     | none=>none
     | some so=>some {r with schema:=(a:Int),froms:=fo,Cr:=wo,sets:=so}
def pY (s:BB) (l:List B0):Prop:=∀f∈l,∃(a:Nat) (x:BL),f.schema=(a:Int)/\s.Ap[a]? =some x
theorem Qs {s:BB} {vars:SMap} {fo:List B0} {t t':Du} (h:Ge s vars fo t=some t'):t'={t with var:=t'.var,field:=t'.field}:=by
 unfold Ge at h;split at h
 · injection h with h;subst h;rfl
 split at h
 · cases h
 split at h
 · cases h
 split at h
 · cases h
 simp only [Ds] at h;obtain ⟨n,_,rfl⟩:=h;rfl
structure RB (w0:AH) (R G gi Rb Ub V vb:Nat) (wr:AH):Prop where
 gr:w0.grownBy wr (some G)
 rb:wr.cell? ⟨Rb,0,none⟩=some (AW (some ⟨R,0,none⟩))
 ub:wr.cell? ⟨Ub,0,none⟩=some (AW (some ⟨G,gi,none⟩))
 vv:wr.cell? ⟨V,0,none⟩=some (.map (some vb))
section
variable {w0:AH} {R G gi Rb Ub V vb:Nat} {wr wr':AH}
theorem RB.far (h:RB w0 R G gi Rb Ub V vb wr) {K:Nat} (hg:wr.grownBy wr' (some K)) (h0:w0.heap.size<=K) (h1:Rb≠K) (h2:Ub≠K) (h3:V≠K):RB w0 R G gi Rb Ub V vb wr':=
 ⟨OP h.gr hg h0,hg.cell h.rb (by simpa using h1),hg.cell h.ub (by simpa using h2),hg.cell h.vv (by simpa using h3)⟩
theorem RB.near (h:RB w0 R G gi Rb Ub V vb wr) (hg:wr.grownBy wr' (some G)) (h1:Rb≠G) (h2:Ub≠G) (h3:V≠G):RB w0 R G gi Rb Ub V vb wr':=
 ⟨Eh h.gr hg,hg.cell h.rb (by simpa using h1),hg.cell h.ub (by simpa using h2),hg.cell h.vv (by simpa using h3)⟩
theorem RB.below (h:RB w0 R G gi Rb Ub V vb wr) (hb:AK wr wr'):RB w0 R G gi Rb Ub V vb wr':=by have hg:wr.grownBy wr' none:=Ei hb _;exact ⟨Eh h.gr (Ei hb _),hg.cell h.rb AX,hg.cell h.ub AX,hg.cell h.vv AX⟩
theorem RB.drew (h:RB w0 R G gi Rb Ub V vb wr):RB w0 R G gi Rb Ub V vb wr.drew:=⟨grown_drew h.gr,h.rb,h.ub,h.vv⟩
end
theorem mL {lo M R G HT:Nat} {s:BB} {w0 wr:AH} (h:Jf (mask lo M w0) R s) (hg:w0.grownBy wr (some G)) (hlo:lo<=G) (Gl:G < M) (hHT:w0.heap.size<=HT):Jf (mask HT (HT+1) wr) R s:=by have:=h.below (Vd (lo:=HT) (M:=HT+1) (mask lo M w0) (Cw hg hlo Gl) (by rw [EI];exact hHT));rw [za] at this;exact this.Hz
theorem AAO {w:AH} {cs:List AN} {l:List B0} {k:Nat} {u:B0} (h:Aq 8 DH w cs l) (hk:l[k]? =some u) (a:Int):Aq 8 DH w (cs.set (k*8+2) (AE AF a)) (l.set k {u with schema:=a}):=
 h.put AG (BD.1 hk).1 rZ
theorem AAN {w:AH} {cs:List AN} {l:List B0} {k:Nat} {u:B0} (h:Aq 8 DH w cs l) (hk:l[k]? =some u) (t:Du) (ht:t={u.An with var:=t.var,field:=t.field}):Aq 8 DH w ((cs.set (k*8+3+2) (AE AF t.var)).set (k*8+3+3) (AE AF t.field)) (l.set k {u with An:=t}):=by
 have hkl:=(BD.1 hk).1;have h1:Aq 8 DH w (cs.set (k*8+5) (AE AF t.var)) (l.set k {u with An:={u.An with var:=t.var}}):=h.put AG hkl rZ
 have h2:=h1.put (i:=k) (j:=6) (x':={u with An:={u.An with var:=t.var,field:=t.field}}) (u:=AE AF t.field) AG RQ (by have:chunk _ 8 k=_:=h1.chunk (i:=k) sK;rw [this];rfl)
 exact bF
theorem AAi {w:AH} {cs:List AN} {l:List IL} {k:Nat} {u:IL} (h:Aq 11 EH w cs l) (hk:l[k]? =some u) (t:Du) (ht:t={u.a with var:=t.var,field:=t.field}):Aq 11 EH w ((cs.set (k*11+1+2) (AE AF t.var)).set (k*11+1+3) (AE AF t.field)) (l.set k {u with a:=t}):=by
 have hkl:=(BD.1 hk).1;have h1:Aq 11 EH w (cs.set (k*11+3) (AE AF t.var)) (l.set k {u with a:={u.a with var:=t.var}}):=h.put AG hkl rj
 have h2:=h1.put (i:=k) (j:=4) (x':={u with a:={u.a with var:=t.var,field:=t.field}}) (u:=AE AF t.field) AG RQ sF
 exact bF
theorem AAh {w:AH} {cs:List AN} {l:List IL} {k:Nat} {u:IL} (h:Aq 11 EH w cs l) (hk:l[k]? =some u) (t:Du) (ht:t={u.b with var:=t.var,field:=t.field}):Aq 11 EH w ((cs.set (k*11+6+2) (AE AF t.var)).set (k*11+6+3) (AE AF t.field)) (l.set k {u with b:=t}):=by
 have hkl:=(BD.1 hk).1;have h1:Aq 11 EH w (cs.set (k*11+8) (AE AF t.var)) (l.set k {u with b:={u.b with var:=t.var}}):=h.put AG hkl rj
 have h2:=h1.put (i:=k) (j:=9) (x':={u with b:={u.b with var:=t.var,field:=t.field}}) (u:=AE AF t.field) AG RQ sF
 exact bF
theorem ABB {w:AH} {cs:List AN} {l:List L0} {k:Nat} {u:L0} (h:Aq 7 GZ w cs l) (hk:l[k]? =some u) (a:Int):Aq 7 GZ w (cs.set (k*7+1) (AE AF a)) (l.set k {u with field:=a}):=
 h.put AG (BD.1 hk).1 rY
theorem ABA {w:AH} {cs:List AN} {l:List L0} {k:Nat} {u:L0} (h:Aq 7 GZ w cs l) (hk:l[k]? =some u) (t:Du) (ht:t={u.term with var:=t.var,field:=t.field}):Aq 7 GZ w ((cs.set (k*7+2+2) (AE AF t.var)).set (k*7+2+3) (AE AF t.field)) (l.set k {u with term:=t}):=by
 have hkl:=(BD.1 hk).1;have h1:Aq 7 GZ w (cs.set (k*7+4) (AE AF t.var)) (l.set k {u with term:={u.term with var:=t.var}}):=h.put AG hkl rY
 have h2:=h1.put (i:=k) (j:=5) (x':={u with term:={u.term with var:=t.var,field:=t.field}}) (u:=AE AF t.field) AG RQ (by have:chunk _ 7 k=_:=h1.chunk (i:=k) sK;rw [this];rfl)
 exact bF
theorem El {cs:List AN} {sz k j:Nat} {c:List AN} {u:AN} (hc:chunk cs sz k=c) (hj:j < sz) (hu:c[j]? =some u):cs[k*sz+j]? =some u:=by rw [<-P4 hj,hc,hu]
theorem vh {s:BB} {w wx:AH} {base:Nat} {vA:Option Aa} {vn vc:Nat} {cr:List AN} {fo:List B0} (ho:w.ownsRow base 298 8 (AB vA vn vc) vn cr) (hc:Aq 8 DH wx cr fo) (hl:fo.length=vn) (hp:pY s fo):
 ∃H,(fo≠[]->vA=some ⟨H,0,none⟩/\base<=H/\H < w.heap.size)/\∀(x:ByteArray) (v:Int),getM (varsOf fo) x=some v->∃(n a:Nat) (f:B0) (sc:BL),v=(n:Int)/\n < vn/\vn<=9223372036854775807/\fo[n]? =some f/\f.schema=(a:Int)/\s.Ap[a]? =some sc/\w.cell? ⟨H,n*8+2,none⟩=some (AE AF a):=by
 rcases Hr ho with ⟨h,h0⟩ | ⟨H,hcap,h,hH,hHw,hn2⟩
 ·have:fo=[]:=Ie AG
  subst this;exact ⟨0,fun e=>absurd rfl e,fun x v hv=>by simp [varsOf,M4,P0] at hv⟩
 injection h with h1 h2 h3;subst h1 h3;refine ⟨H,fun _=>⟨rfl,hH,hHw⟩,fun x v hv=> ?_⟩;obtain ⟨n,rfl,hn,f,hf,_⟩:=SZ fo _ x v hv;obtain ⟨a,sc,ha,hs⟩:=hp f (CS hf);refine ⟨n,a,f,sc,rfl,by omega,by omega,hf,ha,hs,?_⟩;have hch:chunk cr 8 n=_:=hc.chunk hf;have:=BF ho (show n < vn by omega) AG hch (j:=2) rfl;rw [ha] at this;exact this
theorem Vc {w0 w wx:AH} {R G gi Rb Ub V vb lo M bz base sz HT n cap ot:Nat} {vA:Option Aa} {vn vc:Nat} {T:Af} {cs cr:List AN} {s:BB} {fo:List B0} {t:Du}
 (hrb:RB w0 R G gi Rb Ub V vb w) (hG2:w.cell? ⟨G,gi+2,none⟩=some (AB vA vn vc)) (hof:w.ownsRow bz 298 8 (AB vA vn vc) vn cr) (hcf:Aq 8 DH wx cr fo) (hl:fo.length=vn) (hok:pY s fo) (hm:MapAt Hq Gb w vb (varsOf fo))
 (hres:Jf (mask lo M w0) R s) (hlo:lo<=G) (Gl:G < M) (hHT:w0.heap.size<=HT) (nV:V≠HT) (nR:Rb≠HT) (nU:Ub≠HT) (nG:G≠HT) (nF:∀r,(Value.slice vA vn vc).ownBlock=some r->r≠HT)
 (ho:w.ownsRow base T sz (AB (some ⟨HT,0,none⟩) n cap) n cs) (h0:cs[ot]? =some (AL t.name)) (h1:cs[ot+1]? =some (AL t.path)) (h2:cs[ot+2]? =some (AE AF t.var)) (h3:cs[ot+3]? =some (AE AF t.field)):
 AS prog 213 #[AW (some ⟨HT,ot,none⟩),AW (some ⟨V,0,none⟩),AW (some ⟨Rb,0,none⟩),AW (some ⟨Ub,0,none⟩)] w (U6 base T sz HT n cap cs ot (Ge s (varsOf fo) fo t) w):=by
 obtain ⟨H,hne,hlook⟩:=vh hof hcf hl hok;refine cO V Rb Ub vb R G gi H vn vc base sz HT n cap ot T cs s (varsOf fo) fo t w hrb.vv nV hrb.rb nR hrb.ub nU (fun e=>by rw [hG2,(hne e).1]) nG hm (mL hres hrb.gr hlo Gl hHT) (fun v hv=> ?_) ho h0 h1 h2 h3;obtain ⟨n',a,f,sc,h1,h2,h3,h4,h5,h6,h7⟩:=hlook t.name v hv;have hnn:fo≠[]:=fun e=>by rw [e] at h4;simp at h4
 exact ⟨n',a,f,sc,h1,h2,h3,h4,h5,h6,h7,.inl (nF H (by rw [(hne hnn).1];rfl))⟩
theorem fY (R lo M base G n cap i:Nat) (cs:List AN) (s:BB) (p:Ce) (w:AH) (hres:Jf (mask lo M w) R s) (hlo:lo<=G) (Gl:G < M) (tX:M<=w.heap.size)
 (ho:w.ownsRow base 160 5 (AB (some ⟨G,0,none⟩) n cap) n cs) (hi:i < n) (hp:CF (mask lo M w) (chunk cs 5 i) p):
 AS prog 161 #[AW (some ⟨R,0,none⟩),AW (some ⟨G,i*5,none⟩)] w (EB 160 5 CF base G n cap i cs lo M (GV s p) w):=by
 obtain ⟨A1,n1,c1,A2,n2,c2,A3,n3,c3,hch,hfr,hwh,hse⟩:=hp;have Uw:G < w.heap.size:=AG
 have Gp:=AA hres;have HO:=AA ho;have OY:=AA hch;have jd:=AA hfr;have dY:=AA hwh;have S4:=AA hse;have CO:=AA hwh.2;clear hres ho hch hfr hwh hse;have hmf:∀(fn:Fn) (first cap:Array AN) (w:AH),(Instr.makeFunc fn first cap).run prog w=.ok (.func fn first cap) w:=fun _ _ _ _=>rfl;go_enter func161,ntmps161;go_upto_region 1 with fail;have hbb:AK w ((w.alloc (AO #[AW (some ⟨R,0,none⟩)] 253)).alloc (AO #[AW (some ⟨G,i*5,none⟩)] 273)):=(BE _ _).alloc AX _;have krb:((w.alloc (AO #[AW (some ⟨R,0,none⟩)] 253)).alloc (AO #[AW (some ⟨G,i*5,none⟩)] 273)).cell? ⟨w.heap.size,0,none⟩=some (AW (some ⟨R,0,none⟩)):=Kp
 have kub:((w.alloc (AO #[AW (some ⟨R,0,none⟩)] 253)).alloc (AO #[AW (some ⟨G,i*5,none⟩)] 273)).cell? ⟨w.heap.size+1,0,none⟩=some (AW (some ⟨G,i*5,none⟩)):=Kp
 have aH:((w.alloc (AO #[AW (some ⟨R,0,none⟩)] 253)).alloc (AO #[AW (some ⟨G,i*5,none⟩)] 273)).heap.size=w.heap.size+2:=AX
 generalize (w.alloc (AO #[AW (some ⟨R,0,none⟩)] 253)).alloc (AO #[AW (some ⟨G,i*5,none⟩)] 273)=wb at hbb krb kub aH ⊢;have hgb:w.grownBy wb (some G):=Ei hbb _;have hob:=Ch HO.o hbb;have p0:=BF hob hi AG OY.o (j:=0) rfl;simp only [EO] at p0;have p1:=BF hob hi AG OY.o (j:=1) rfl;have f1:=hob.frozenAt (i*5+1);obtain ⟨b1,b2,b3,fA,fn,fc,hbR,hm1,hm2,Dm,hfs⟩:=(Gp.o.below (Cw hgb hlo Gl)).Hz;have r2:=hbR.cell 2;have lR:=hbR.lt;simp only [Ak,Al,Az] at r2;have hget:=Hx (By s) p.head;have G9:=AA (Dm.same (w':=wb.drew) rfl);have TG:=AA hgb;have HOB:=AA hob;have AGN:=AA aH;clear hbb hgb hob hbR hm1 hm2 Dm hfs aH;cases hix:idx (By s) p.head with
 |
  none=>
  rw [hix] at hget;have Cf:AI (EB 160 5 CF base G n cap i cs lo M (GV s p) w (Bz Bq) wb.drew):=
   AA (Dj (by unfold GV;rw [hix]) (grown_drew TG.o))
  have HF:=AA ((G6 b3 _ _ wb.drew G9.o hget).mono (R':=fun e w'=>e=Bz Bq/\w'=wb.drew) ET);clear hix hget;refine Di 9 [0,1,2,3,4,5,6,7,8] (fun l=>l.take 9) AJ rfl AJ (fun d u c a h=>by cases d <;> exact h) ?_;simp only [FL,FJ]
  repeat still_step
  refine FI ?_;refine ⟨_,209,#[.map (some b3),AL p.head],Bq,rfl,rfl,?_,HF.o,rfl,Cf.o⟩;go_simp
 |
  some a=>
  rw [hix] at hget;have IC:=AA hix;have hal:=XS hix;have HF:=AA ((FW b3 _ _ (a:Int) wb.drew G9.o hget).mono (R':=fun e w'=>e=AU (AE AF a)/\w'=wb.drew) ET);clear hix hget;obtain ⟨xa,hxa⟩:∃x,s.Ap[a]? =some x:=⟨s.Ap[a]'(by simpa [By] using hal),BJ _⟩;have dX:=AA hxa;clear hxa hal;refine wp_region_still_tail 12 AJ AJ ?_;simp only [FL,FJ,JL,Hl]
  repeat still_step
  still_call HF.o
  repeat still_step
  refine FI ?_;change wpList _ _ _ _ _ wb.drew;go_upto_region 2 with fail;have ho2:=(HOB.o.stored (i*5+1) (AE AF a)).1.drew;have hga:w.grownBy (wb.setCell ⟨G,i*5+1,none⟩ (AE AF a)).drew (some G):=grown_drew (Cx TG.o _ _);have Oq:(wb.setCell ⟨G,i*5+1,none⟩ (AE AF a)).drew.heap.size=w.heap.size+2:=by rw [<-AGN.o];simp [World.setCell]
  have ACA:wb.grownBy (wb.setCell ⟨G,i*5+1,none⟩ (AE AF a)).drew (some G):=grown_drew (Cx (DS _ _) _ _);have ABh:=ACA.cell krb BN;have ABg:=ACA.cell kub BN;have Py:chunk (cs.set (i*5+1) (AE AF a)) 5 i=[AL p.head,AE AF a,AB A1 n1 c1,AB A2 n2 c2,AB A3 n3 c3]:=by rw [Ek _ AG,OY.o];rfl
  have hoth:∀j,j≠i->chunk (cs.set (i*5+1) (AE AF a)) 5 j=chunk cs 5 j:=fun j hj=>by rw [FH _ AG hj]
  generalize (wb.setCell ⟨G,i*5+1,none⟩ (AE AF a)).drew=wa at ho2 hga Oq ABh ABg ⊢;generalize cs.set (i*5+1) (AE AF a)=ca at ho2 Py hoth;have hfw:BT 8 96 DH wa (AB A1 n1 c1) p.froms:=(jd.o.mono Dp (Cw hga hlo Gl)).Hz cH;have QU:G < wa.heap.size:=by rw [Oq];omega
  have p2:=BF ho2 hi AG Py (j:=2) rfl;have f2:=ho2.frozenAt (i*5+2);have S8:=AA ho2;have Ha:=AA hga;have Tj:=AA Py;have ay:=AA hoth;have CY:=AA Oq;have uC:=AA (show BT 8 96 DH wa.drew (AB A1 n1 c1) p.froms from hfw.mono Dp (Ae _ _).drew);have hne:¬G=w.heap.size+1:=AG
  clear ho2 hga ACA Py hoth Oq hfw p0 p1 f1 r2 lR HF G9 HOB TG AGN krb kub;apply fC (G:=fun vA vn vc w2=>∃cs1,w2.ownsRow base 160 5 (AB (some ⟨G,0,none⟩) n cap) n (ca.set (i*5+2) (AB vA vn vc))/\w2.ownsRow wa.heap.size 298 8 (AB vA vn vc) p.froms.length cs1/\Aq 8 DH w cs1 p.froms/\vn=p.froms.length/\
   w.grownBy w2 (some G)/\w2.cell? ⟨w.heap.size,0,none⟩=some (AW (some ⟨R,0,none⟩))/\w2.cell? ⟨w.heap.size+1,0,none⟩=some (AW (some ⟨G,i*5,none⟩))/\wa.heap.size<=w2.heap.size)
  ·go_region_law (first
    | (
     refine Qd Cq 212 #[AB A1 n1 c1] (by go_simp) (kG A1 n1 c1 p.froms _ uC.o) ?_;rintro e w1 ⟨v,cs1,rfl,hcs1,ho1,hb1⟩;refine ⟨_,rfl,?_⟩;obtain ⟨vA,vn,vc,rfl,hvn⟩:=GH ho1;have q2:w1.cell? ⟨G,i*5+2,none⟩=some (AB A1 n1 c1):=((Ja hb1).1 _ _ QU).trans p2;have hf2:w1.frozen? ⟨G,i*5+2,none⟩=false:=((Ja hb1).2 _ _ QU).trans f2;have kr1:w1.cell? ⟨w.heap.size,0,none⟩=some (AW (some ⟨R,0,none⟩)):=((Ja hb1).1 _ _ (by have:=CY.o;simp;omega)).trans ABh;have ku1:w1.cell? ⟨w.heap.size+1,0,none⟩=some (AW (some ⟨G,i*5,none⟩)):=((Ja hb1).1 _ _ (by have:=CY.o;simp;omega)).trans ABg;have IY:=AA ho1;have Kd:=AA hcs1;have HB1:=AA hb1;have LG:=AA hvn;clear ho1 hcs1 hb1 hvn))
   all_goals
    have hg1:w.grownBy (w1.setCell ⟨G,i*5+2,none⟩ (AB vA vn vc)) (some G):=Cx (Eh (grown_drew Ha.o) (Ei HB1.o _)) _ _;have hg2:w1.grownBy (w1.setCell ⟨G,i*5+2,none⟩ (AB vA vn vc)) (some G):=Cx (DS _ _) _ _;exact ⟨vA,vn,vc,rfl,cs1,((Ch S8.o.drew HB1.o).stored (i*5+2) (AB vA vn vc)).1,G0 IY.o Yf _,Kd.o,LG.o,hg1,hg2.cell kr1 BN,hg2.cell ku1 BN,by have:=HB1.o.size;simp [World.setCell] at this ⊢;exact this⟩
  rintro vA vn vc w2 ⟨cs1,ho2,hi2,hc1,hvn,hg2,kr2,ku2,hsz2⟩;have hcb:chunk (ca.set (i*5+2) (AB vA vn vc)) 5 i=[AL p.head,AE AF a,AB vA vn vc,AB A2 n2 c2,AB A3 n3 c3]:=by rw [Ek _ AG,Tj.o];rfl
  have aJ:∀j,j≠i->chunk (ca.set (i*5+2) (AB vA vn vc)) 5 j=chunk cs 5 j:=fun j hj=>by rw [FH _ AG hj];exact ay.o j hj
  generalize ca.set (i*5+2) (AB vA vn vc)=cb at ho2 hcb aJ;have g2:=BF ho2 hi AG hcb (j:=2) rfl;have Jc:=AA ho2;have HI2:=AA hi2;have Kd:=AA hc1;have LG:=AA hvn;have HG2:=AA hg2;have MD:=AA hcb;have o8:=AA aJ;clear ho2 hi2 hc1 hvn hg2 hcb aJ ay Tj S8 uC ABh ABg p2 f2 hne;have hmm:=@run_makeMap prog;go_upto_region 5 with fail;clear hmm;have hbc:AK w2 ((w2.alloc (.map #[] 0)).alloc (AO #[.map (some w2.heap.size)] 268)):=(BE _ _).alloc AX _;have hmc:MapAt Hq Gb ((w2.alloc (.map #[] 0)).alloc (AO #[.map (some w2.heap.size)] 268)) w2.heap.size (varsOf []):=(MapAt.new Hq Gb w2).below (BE _ _);have tS:((w2.alloc (.map #[] 0)).alloc (AO #[.map (some w2.heap.size)] 268)).cell? ⟨w2.heap.size+1,0,none⟩=some (.map (some w2.heap.size)):=Kp
  have ABx:((w2.alloc (.map #[] 0)).alloc (AO #[.map (some w2.heap.size)] 268)).heap.size=w2.heap.size+2:=AX
  have hoc:=Ch Jc.o hbc;have hic:=Ch HI2.o hbc;have hrb:RB w R G (i*5) w.heap.size (w.heap.size+1) (w2.heap.size+1) w2.heap.size ((w2.alloc (.map #[] 0)).alloc (AO #[.map (some w2.heap.size)] 268)):=
   ⟨Eh HG2.o (Ei hbc _),(Ja hbc).1 _ _ eJ |>.trans kr2,(Ja hbc).1 _ _ eJ |>.trans ku2,tS⟩
  have gc2:=BF hoc hi AG MD.o (j:=2) rfl;have hfb:∀r,(Value.slice vA vn vc).ownBlock=some r->w.heap.size+2<=r/\r < w2.heap.size:=fun r e=>by have:=HI2.o.lt r e;have:=CY.o;omega
  have hwv:w.heap.size+2<=w2.heap.size:=by have:=CY.o;omega
  generalize (w2.alloc (.map #[] 0)).alloc (AO #[.map (some w2.heap.size)] 268)=wc at hmc ABx hoc hic hrb gc2 ⊢;obtain ⟨vb,hvb⟩:=Ad w2.heap.size;rw [<-hvb] at hmc ABx hrb hfb hwv ⊢;have k1:=hrb.rb;have k2:=hrb.ub;have k3:=hrb.vv;have HMC:=AA hmc;have dh:=AA hoc;have SL:=AA hic;have Jb:=AA hrb;have pP:=AA hfb;have hsz3:w.heap.size+2=wa.heap.size:=CY.o.symm;have J6:=AA hsz3;clear hmc hoc hic hrb hfb hbc tS kr2 ku2 g2 hsz2 ABx Jc HI2 HG2 hsz3 CY hvb;go_wp2_with fail;clear k1 k2 k3 gc2;go_loopg [37] vn (fun q j wr=>∃(k:Nat) (out:List B0) (cr:List AN),k<=vn/\q=vn - k/\j=AE AF k/\ED (P1 s) p.froms k=some out/\RB w R G (i*5) w.heap.size (w.heap.size+1) (vb+1) vb wr/\wr.ownsRow base 160 5 (AB (some ⟨G,0,none⟩) n cap) n cb/\
   wr.ownsRow wa.heap.size 298 8 (AB vA vn vc) p.froms.length cr/\Aq 8 DH w cr (out++p.froms.drop k)/\MapAt Hq Gb wr vb (varsOf out)/\pY s out)
  case atStart=>exact ⟨0,[],cs1,Av _,rfl,rfl,rfl,Jb.o,dh.o,SL.o,Kd.o,HMC.o,fun f hf=>by simp at hf⟩
  clear Jb dh SL Kd HMC;obtain ⟨k,out,cr,hk,hq,rfl,hto,hrb,hog,Gc,hcr,hmp,hok⟩:=hrel;have HQ:=AA hq;have DZ:=AA hto;have I3:=AA hok;clear hq hto hok;by_cases hlt:k < vn
  ·rcases Hr Gc with ⟨h,h0⟩ | ⟨H,hcap,h,hH,hHw,hn2⟩
   · exact RV
   injection h with h1 h2 h3;subst h1 h3;clear h2;have vF:vn<=9223372036854775807:=by have:=LG.o;omega
   have hHb:=pP.o H rfl;obtain ⟨m,hm⟩:∃m,p.froms[k]? =some m:=⟨p.froms[k]' Hn,BJ _⟩;have hlen:=Cn Hn DZ.o;have hat:(out++p.froms.drop k)[k]? =some m:=by rw [Cp AG,EP,hlen];simpa using hm
   have hch:chunk cr 8 k=_:=hcr.chunk hat;have Dy:wr.ownsRow wa.heap.size 298 8 (AB (some ⟨H,0,none⟩) vn vc) vn cr:=by have:=LG.o;rw [this] at Gc ⊢;exact Gc
   have e1:=BF Dy hlt AG hch (j:=1) rfl;have e2:=BF Dy hlt AG hch (j:=2) rfl;have f2:=Dy.frozenAt (k*8+2);have g2:=BF hog hi AG MD.o (j:=2) rfl;have k1:=hrb.rb;have k2:=hrb.ub;obtain ⟨b1',b2',b3',Sr,fn',PG,Hu,_,_,nS,_⟩:=(Gp.o.below (Cw hrb.gr hlo Gl)).Hz;have s2:=Hu.cell 2;have lR':=Hu.lt;simp only [Ak,Al,Az] at s2;have hget:=Hx (By s) m.kind;have G9:=AA (nS.same (w':=wr.drew) rfl);have Jb:=AA hrb;have LI:=AA hog;have LH:=AA Dy;have TI:=AA hcr;have TC:=AA hmp;have HM:=AA hm;have HLEN:=AA hlen;have HAT:=AA hat;clear hrb hog Gc Dy hcr hmp hm hlen hat hch Hu nS;have hkn:(k:Int) < (vn:Int):=AG
   have hk0:=Int.natCast_nonneg k
   go_upto_region 9 with fail;cases hix:idx (By s) m.kind with
   |
    none=>
    rw [hix] at hget;have Cf:AI (EB 160 5 CF base G n cap i cs lo M (GV s p) w (Bz Bq) wr.drew):=by refine Dj ?_ (grown_drew Jb.o.gr);unfold GV;rw [IC.o];simp only;rw [Em (k:=k+1) Hn (FE DZ.o HM.o (by unfold P1;rw [hix]))]
    have HF:=AA ((G6 b3' _ _ wr.drew G9.o hget).mono (R':=fun e w'=>e=Bz Bq/\w'=wr.drew) ET);clear hix hget;refine Di 9 [0,1,2,3,4,5,6,7,8] (fun l=>l.take 9) AJ rfl AJ (fun d u c a h=>by cases d <;> exact h) ?_;simp only [FL,FJ]
    repeat still_step
    refine FI ?_;refine ⟨_,209,#[.map (some b3'),AL m.kind],Bq,rfl,rfl,?_,HF.o,rfl,Cf.o⟩;go_simp
   |
    some b=>
    rw [hix] at hget;have HF:=AA ((FW b3' _ _ (b:Int) wr.drew G9.o hget).mono (R':=fun e w'=>e=AU (AE AF b)/\w'=wr.drew) ET);have Zq:=AA hix;have hbl:=XS hix;clear hix hget;obtain ⟨xb,hxb⟩:∃x,s.Ap[b]? =some x:=⟨s.Ap[b]'(by simpa [By] using hbl),BJ _⟩;have HXB:=AA hxb;clear hxb hbl;refine wp_region_still_tail 12 AJ AJ ?_;simp only [FL,FJ,JL,Hl]
    repeat still_step
    still_call HF.o
    repeat still_step
    refine FI ?_;change wpList _ _ _ _ _ wr.drew;go_upto_region 10 with fail;have hoq:=(LH.o.stored (k*8+2) (AE AF b)).1.drew;have hgq:wr.grownBy (wr.setCell ⟨H,k*8+2,none⟩ (AE AF b)).drew (some H):=grown_drew (Cx (DS _ _) _ _);have hcq:=AAO TI.o HAT.o (b:Int);generalize (wr.setCell ⟨H,k*8+2,none⟩ (AE AF b)).drew=wq at hoq hgq ⊢;generalize cr.set (k*8+2) (AE AF b)=cq at hoq hcq;have hrq:=Jb.o.far hgq AG AG AG AG;have Nt:=LI.o.kept hgq (.inr M2);have WE:MapAt Hq Gb wq vb (varsOf out):=TC.o.keeps (CH.grown hgq (fun x e=>by cases e;exact LD LH.o));have hkl:k < (out++p.froms.drop k).length:=(BD.1 HAT.o).1;have Lb:((out++p.froms.drop k).set k {m with schema:=(b:Int)})[k]? =some {m with schema:=(b:Int)}:=F9 hkl;have hck:chunk cq 8 k=_:=hcq.chunk Lb;have gq2:=BF Nt hi AG MD.o (j:=2) rfl;have Kc:=AA hoq;have X8:=AA hcq;have Zf:=AA hrq;have Tg:=AA Nt;have pE:=AA WE;have SQ:=AA Lb;have Mn:=AA hck;clear hoq hcq hrq Nt WE hgq hkl Lb hck e1 e2 f2 g2 k1 k2 s2 lR' HF G9 Jb LI LH TI TC;go_wp2_with fail;have hnum:=cO (vb+1) w.heap.size (w.heap.size+1) vb R G (i*5) H vn vc wa.heap.size 8 H vn vc (k*8+3) 298 cq s (varsOf out) out m.An wq Zf.o.vv AG Zf.o.rb AG Zf.o.ub AG (fun _=>gq2) AG pE.o (mL Gp.o Zf.o.gr hlo Gl AG)
     (fun v hv=>by
      obtain ⟨n',rfl,hn',f,hf,_⟩:=SZ out _ _ v hv;obtain ⟨a',sc,ha',hs'⟩:=I3.o f (CS hf);have hl:=HLEN.o;have AHu:((out++p.froms.drop k).set k {m with schema:=(b:Int)})[n']? =some f:=by rw [JM AG,ES AG];exact hf
      have hcn:chunk cq 8 n'=_:=X8.o.chunk AHu;refine ⟨n',a',f,sc,rfl,by omega,vF,hf,ha',hs',?_,.inr AG⟩;have:=BF Kc.o (show n' < vn by omega) AG hcn (j:=2) rfl;rw [ha'] at this;exact this)
     Kc.o (El Mn.o AG rfl) (El Mn.o AG (j:=4) rfl) (El Mn.o AG (j:=5) rfl) (El Mn.o AG (j:=6) rfl)
    refine hnum.mono ?_;clear hnum;rintro e w' ⟨hg',hr⟩;cases htp:Ge s (varsOf out) out m.An with
    |
     none=>
     rw [htp] at hr;subst hr;have Cf:AI (EB 160 5 CF base G n cap i cs lo M (GV s p) w (Bz Bq) w'):=by refine Dj ?_ (OP Zf.o.gr hg' AG);unfold GV;rw [IC.o];simp only;rw [Em (k:=k+1) Hn (FE DZ.o HM.o rq)]
     clear htp hg'
     go_wp2
     exact ⟨rfl,Cf.o⟩
    |
     some t'=>
     rw [htp] at hr;obtain ⟨rfl,ho'⟩:=hr;have hr':=Zf.o.far hg' AG AG AG AG;have aK:=Tg.o.kept hg' (.inr M2);have hm':MapAt Hq Gb w' vb (varsOf out):=pE.o.keeps (CH.grown hg' (fun x e=>by cases e;exact LD Kc.o));have hc':=AAN X8.o SQ.o t' (Qs htp);rw [Ia] at hc';have hat':((out++p.froms.drop k).set k {m with schema:=(b:Int),An:=t'})[k]? =some {m with schema:=(b:Int),An:=t'}:=F9 (BD.1 HAT.o).1;have XV:chunk _ 8 k=_:=hc'.chunk hat';have d0:=BF ho' hlt AG XV (j:=0) rfl;simp only [EO] at d0;have k3:=hr'.vv;obtain ⟨w3,hrun3,Dm,hg3⟩:=FB (DB underlying9) underlying268 (hm'.same (w':=w'.drew) rfl) m.name (k:Int);have hr3:=hr'.drew.far hg3 AG AG AG AG;have AFW:=aK.drew.kept hg3 (.inr M2);have ho3:=ho'.drew.kept hg3 (.inr M2);have HST:AI (P1 s out m=some {m with schema:=(b:Int),An:=t'}):=AA rq;have HC':=AA hc';have HR3:=AA hr3;have AIT:=AA AFW;have I4:=AA ho3;have G9:=AA Dm;clear hr' aK hm' hc' hat' XV ho' hg' hg3 hr3 AFW ho3 Dm htp Zf Tg Kc pE X8 gq2 SQ Mn;go_wp2_with fail
     go_still_tail 6,AJ
     change wpList _ _ _ _ _ w'.drew;go_wp2_with fail;go_roundg (vn - (k+1))
     case measure=>exact BS
     refine ⟨k+1,out++[{m with schema:=(b:Int),An:=t'}],(cq.set (k*8+3+2) (AE AF t'.var)).set (k*8+3+3) (AE AF t'.field),by omega,rfl,by go_num,FZ DZ.o HM.o HST.o,HR3.o,AIT.o,?_,?_,?_,?_⟩
     rotate_left 1
     · rw [<-set_drop HLEN.o HM.o];exact HC'.o
     · rw [pn,HLEN.o];exact G9.o
     ·intro f hf
      rw [Ll,Fg] at hf;rcases hf with hf | rfl
      · exact I3.o f hf
      · exact ⟨b,xb,rfl,HXB.o⟩
     · have h3:=I4.o;have:=LG.o;rw [this] at h3 ⊢;exact h3
  have hke:k=p.froms.length:=by have:=LG.o;omega
  have hcf:Aq 8 DH w cr out:=by rw [hke,Ji,FK] at hcr;exact hcr
  have je:AI (Ft (P1 s) p.froms=some out):=AA rM;obtain ⟨wz,rfl⟩:=Ad wr;have hol:out.length=vn:=by rw [Cn AG DZ.o];have:=LG.o;omega
  have Dy:wz.ownsRow wa.heap.size 298 8 (AB vA vn vc) vn cr:=by have:=LG.o;rw [this] at Gc ⊢;exact Gc
  have jA:G < wz.heap.size:=Au Uw hrb.gr.size;have hvz:vb+1 < wz.heap.size:=by
   have:=hrb.vv;rcases Ec (vb+1) wz.heap.size with h | h
   · exact h
   · simp [World.cell?,Array.getElem?_eq_none h] at this
  have g3:=BF hog hi AG MD.o (j:=3) rfl;have fg3:=hog.frozenAt (i*5+3);have k2:=hrb.ub;have jO:=AA (show BT 11 120 EH wz.drew (AB A2 n2 c2) p.Cr from ((dY.o.mono FG (Cw hrb.gr hlo Gl)).Hz cJ).mono FG (Ae _ _).drew);have Jb:=AA hrb;have LI:=AA hog;have LH:=AA Dy;have pS:=AA hcf;have TC:=AA hmp;have HOL:=AA hol;have HVZ:=AA hvz;clear hrb hog Gc Dy hcr hcf hmp DZ HQ hol hvz;go_upto_region 13 with fail;apply fC (G:=fun xA xn xc w4=>∃dL,RB w R G (i*5) w.heap.size (w.heap.size+1) (vb+1) vb w4/\w4.ownsRow base 160 5 (AB (some ⟨G,0,none⟩) n cap) n (cb.set (i*5+3) (AB xA xn xc))/\w4.ownsRow wz.heap.size 281 11 (AB xA xn xc) p.Cr.length dL/\Aq 11 EH w dL p.Cr/\xn=p.Cr.length/\
   w4.ownsRow wa.heap.size 298 8 (AB vA vn vc) vn cr/\MapAt Hq Gb w4 vb (varsOf out)/\wz.heap.size<=w4.heap.size)
  ·go_region_law (first
    | (
     refine Qd Cq 214 #[AB A2 n2 c2] (by go_simp) (kJ A2 n2 c2 p.Cr _ jO.o) ?_;rintro e w1 ⟨v,dL,rfl,hcs1,ho1,hb1⟩;refine ⟨_,rfl,?_⟩;obtain ⟨xA,xn,xc,rfl,hxn⟩:=GH ho1;have q2:w1.cell? ⟨G,i*5+3,none⟩=some (AB A2 n2 c2):=((Ja hb1).1 _ _ jA).trans g3;have hf2:w1.frozen? ⟨G,i*5+3,none⟩=false:=((Ja hb1).2 _ _ jA).trans fg3;have ku1:=((Jb.o.drew).below hb1).ub;have IY:=AA ho1;have PD:=AA hcs1;have HB1:=AA hb1;have R6:=AA hxn;clear ho1 hcs1 hb1 hxn))
   all_goals
    have hg2:w1.grownBy (w1.setCell ⟨G,i*5+3,none⟩ (AB xA xn xc)) (some G):=Cx (DS _ _) _ _;exact ⟨xA,xn,xc,rfl,dL,((Jb.o.drew).below HB1.o).near hg2 AG AG AG,((Ch LI.o.drew HB1.o).stored (i*5+3) (AB xA xn xc)).1,G0 IY.o (by simpa using jA) _,PD.o,R6.o,(Ch LH.o.drew HB1.o).kept hg2 (.inr (fun e=>by have:=(pP.o _ e).1;omega)),
     ((TC.o.same (w':=wz.drew) rfl).below HB1.o).keeps (CH.put _ _ _),by have:=HB1.o.size;simp [World.setCell] at this ⊢;exact this⟩
  rintro xA xn xc w4 ⟨dL,hr4,Ot,Rv,hc4,hxn,nO,hm4,hz4⟩;have hcc:chunk (cb.set (i*5+3) (AB xA xn xc)) 5 i=[AL p.head,AE AF a,AB vA vn vc,AB xA xn xc,AB A3 n3 c3]:=by rw [Ek _ AG,MD.o];rfl
  have aI:∀j,j≠i->chunk (cb.set (i*5+3) (AB xA xn xc)) 5 j=chunk cs 5 j:=fun j hj=>by rw [FH _ AG hj];exact o8.o j hj
  generalize cb.set (i*5+3) (AB xA xn xc)=cc at Ot hcc aI;have g3':=BF Ot hi AG hcc (j:=3) rfl;have ku4:=hr4.ub;have hzz:vb+1 < wz.heap.size:=HVZ.o;have HR4:=AA hr4;have X3:=AA Ot;have Qa:=AA Rv;have PD:=AA hc4;have R6:=AA hxn;have o9:=AA nO;have HM4:=AA hm4;have EN:=AA hcc;have wZ:=AA aI;clear hr4 Ot Rv hc4 hxn nO hm4 hcc aI Jb LI LH TC MD o8 g3 fg3 k2 jO dY;go_wp2_with fail;clear g3' ku4;go_loopg [83] xn (fun q j wr=>∃(k:Nat) (ou:List IL) (jH:List AN),k<=xn/\q=xn - k/\j=AE AF k/\ED (fun _=>P6 s out) p.Cr k=some ou/\RB w R G (i*5) w.heap.size (w.heap.size+1) (vb+1) vb wr/\wr.ownsRow base 160 5 (AB (some ⟨G,0,none⟩) n cap) n cc/\
   wr.ownsRow wz.heap.size 281 11 (AB xA xn xc) p.Cr.length jH/\Aq 11 EH w jH (ou++p.Cr.drop k)/\wr.ownsRow wa.heap.size 298 8 (AB vA vn vc) vn cr/\MapAt Hq Gb wr vb (varsOf out))
  case atStart=>exact ⟨0,[],dL,Av _,rfl,rfl,rfl,HR4.o,X3.o,Qa.o,PD.o,o9.o,HM4.o⟩
  clear HR4 X3 Qa PD o9 HM4;obtain ⟨k',ou,jH,hk',hq',rfl,nL,hrb,hog,Gc,hcr2,hof,hmp⟩:=hrel;have HQ:=AA hq';have DZ:=AA nL;clear hq' nL;by_cases hlt':k' < xn
  ·rcases Hr Gc with ⟨h,h0⟩ | ⟨H,hcap,h,hH,hHw,hn2⟩
   · exact RV
   injection h with h1 h2 h3;subst h1 h3;clear h2;have AHS:xn<=9223372036854775807:=by have:=R6.o;omega
   obtain ⟨m,hm⟩:∃m,p.Cr[k']? =some m:=⟨p.Cr[k']' Pe,BJ _⟩;have hlen:=Cn Pe DZ.o;have hat:(ou++p.Cr.drop k')[k']? =some m:=by rw [Cp AG,EP,hlen];simpa using hm
   have hch:chunk jH 11 k'=_:=hcr2.chunk hat;have Dy:wr.ownsRow wz.heap.size 281 11 (AB (some ⟨H,0,none⟩) xn xc) xn jH:=by have:=R6.o;rw [this] at Gc ⊢;exact Gc
   have g2:=BF hog hi AG EN.o (j:=2) rfl;have g3:=BF hog hi AG EN.o (j:=3) rfl;have k2:=hrb.ub;have hnF:∀r,(Value.slice vA vn vc).ownBlock=some r->r≠H:=fun r e=>by have:=(pP.o r e).2;omega
   have Hk:=AA hnF;have X5:=AA (Vc (ot:=k'*11+1) (t:=m.a) hrb g2 hof pS.o HOL.o I3.o hmp Gp.o hlo Gl AG AG AG AG AG hnF Dy (El hch AG (j:=1) rfl) (El hch AG (j:=2) rfl) (El hch AG (j:=3) rfl) (El hch AG (j:=4) rfl));have Jb:=AA hrb;have LI:=AA hog;have LH:=AA Dy;have TI:=AA hcr2;have O9:=AA hof;have TC:=AA hmp;have HM:=AA hm;have HLEN:=AA hlen;have HAT:=AA hat;clear hrb hog Gc Dy hcr2 hof hmp hm hlen hat hch hnF;have hkn:(k':Int) < (xn:Int):=AG
   have hk0:(0:Int)<=(k':Int):=AG
   go_wp2_with fail;refine X5.o.mono ?_;rintro e w' ⟨hg',hr⟩;have J0:(Ge s (varsOf out) out m.a=none\/Ge s (varsOf out) out m.b=none)->GV s p=none:=fun hh=>by
    unfold GV;rw [IC.o];simp only;rw [je.o];simp only;rw [Em (k:=k'+1) Pe (FE DZ.o HM.o (by
     unfold P6;rcases hh with hh | hh
     · rw [hh]
     · rw [hh];cases Ge s (varsOf out) out m.a <;> rfl))]
   have NH:=AA J0;clear J0 X5;cases htp:Ge s (varsOf out) out m.a with
   |
    none=>
    rw [htp] at hr;subst hr;have Cf:AI (EB 160 5 CF base G n cap i cs lo M (GV s p) w (Bz Bq) w'):=AA (Dj (NH.o (.inl htp)) (OP Jb.o.gr hg' AG));clear htp hg'
    go_wp2
    exact ⟨rfl,Cf.o⟩
   |
    some t'=>
    rw [htp] at hr;obtain ⟨rfl,ho'⟩:=hr;have hr':=Jb.o.far hg' AG AG AG AG;have aK:=LI.o.kept hg' (.inr M2);have AB5:=O9.o.kept hg' (.inr (fun e=>Hk.o _ e rfl));have hm':MapAt Hq Gb w' vb (varsOf out):=TC.o.keeps (CH.grown hg' (fun x e=>by cases e;exact LD LH.o));have hc':=AAi TI.o HAT.o t' (Qs htp);have hat':((ou++p.Cr.drop k').set k' {m with a:=t'})[k']? =some {m with a:=t'}:=F9 (BD.1 HAT.o).1;have XV:chunk _ 11 k'=_:=hc'.chunk hat';have g2':=BF aK hi AG EN.o (j:=2) rfl;have g3':=BF aK hi AG EN.o (j:=3) rfl;have k2':=hr'.ub;have Zg:=AA (Vc (ot:=k'*11+6) (t:=m.b) hr' g2' AB5 pS.o HOL.o I3.o hm' Gp.o hlo Gl AG AG AG AG AG Hk.o ho' (El XV AG (j:=6) rfl) (El XV AG (j:=7) rfl) (El XV AG (j:=8) rfl) (El XV AG (j:=9) rfl));have da:=AA htp;have HR':=AA hr';have AIU:=AA aK;have AIW:=AA AB5;have HM':=AA hm';have HC':=AA hc';have AI0:=AA hat';have pC:=AA ho';clear hr' aK AB5 hm' hc' hat' XV htp ho' hg' g2 g3 k2 Jb LI O9 TC TI LH;go_wp2_with fail;refine Zg.o.mono ?_;rintro e w'' ⟨hg'',hr⟩;clear Zg;cases htp:Ge s (varsOf out) out m.b with
    |
     none=>
     rw [htp] at hr;subst hr;have Cf:AI (EB 160 5 CF base G n cap i cs lo M (GV s p) w (Bz Bq) w''):=AA (Dj (NH.o (.inr htp)) (OP HR'.o.gr hg'' AG));clear htp hg''
     go_wp2
     exact ⟨rfl,Cf.o⟩
    |
     some t''=>
     rw [htp] at hr;obtain ⟨rfl,AFb⟩:=hr;have hc'':=AAh HC'.o AI0.o t'' (Qs htp);rw [Ia] at hc'';have HST:AI (P6 s out m=some {m with a:=t',b:=t''}):=AA (by unfold P6;rw [da.o,htp]);have AIs:=AA hc'';have AIa:=AA AFb;have xI:=AA hg'';clear hc'' AFb hg'' htp g2' g3' k2';go_wp2_with fail;go_roundg (xn - (k'+1))
     case measure=>exact BS
     refine ⟨k'+1,ou++[{m with a:=t',b:=t''}],_,by omega,rfl,by go_num,FZ DZ.o HM.o HST.o,HR'.o.far xI.o AG AG AG AG,AIU.o.kept xI.o (.inr M2),?_,by rw [<-set_drop HLEN.o HM.o];exact AIs.o,AIW.o.kept xI.o (.inr (fun e=>Hk.o _ e rfl)),HM'.o.keeps (CH.grown xI.o (fun x e=>by cases e;exact LD pC.o))⟩;have h3:=AIa.o;have:=R6.o;rw [this] at h3 ⊢;exact h3
  have aO:k'=p.Cr.length:=by have:=R6.o;omega
  have hca:Aq 11 EH w jH ou:=by rw [aO,Ji,FK] at hcr2;exact hcr2
  have HAO:AI (Ft (fun _=>P6 s out) p.Cr=some ou):=AA (by unfold Ft;rw [<-aO];exact DZ.o);obtain ⟨wy,rfl⟩:=Ad wr;have hal2:ou.length=xn:=by rw [Cn AG DZ.o];have:=R6.o;omega
  have hGy:G < wy.heap.size:=Au Uw hrb.gr.size;have hvy:vb+1 < wy.heap.size:=by
   have:=hrb.vv;rcases Ec (vb+1) wy.heap.size with h | h
   · exact h
   · simp [World.cell?,Array.getElem?_eq_none h] at this
  have hxb:∀r,(Value.slice xA xn xc).ownBlock=some r->wz.heap.size<=r/\r < wy.heap.size:=fun r e=>Gc.lt r e;have g4:=BF hog hi AG EN.o (j:=4) rfl;have fg4:=hog.frozenAt (i*5+4);have k2:=hrb.ub;have jO:=AA (show BT 7 80 GZ wy.drew (AB A3 n3 c3) p.sets from ((S4.o.mono Fw (Cw hrb.gr hlo Gl)).Hz iZ).mono Fw (Ae _ _).drew);have Jb:=AA hrb;have LI:=AA hog;have LH:=AA Gc;have HCA:=AA hca;have O9:=AA hof;have TC:=AA hmp;have HAL:=AA hal2;have HVY:=AA hvy;have HXB:=AA hxb;clear hrb hog Gc hcr2 hca hof hmp DZ HQ hal2 hvy hxb;go_upto_region 20 with fail;apply fC (G:=fun yA yn yc w4=>∃NZ,RB w R G (i*5) w.heap.size (w.heap.size+1) (vb+1) vb w4/\w4.ownsRow base 160 5 (AB (some ⟨G,0,none⟩) n cap) n (cc.set (i*5+4) (AB yA yn yc))/\w4.ownsRow wy.heap.size 284 7 (AB yA yn yc) p.sets.length NZ/\Aq 7 GZ w NZ p.sets/\yn=p.sets.length/\
   w4.ownsRow wa.heap.size 298 8 (AB vA vn vc) vn cr/\MapAt Hq Gb w4 vb (varsOf out)/\w4.ownsRow wz.heap.size 281 11 (AB xA xn xc) p.Cr.length jH/\wy.heap.size<=w4.heap.size)
  ·go_region_law (first
    | (
     refine Qd Cq 215 #[AB A3 n3 c3] (by go_simp) (oQ A3 n3 c3 p.sets _ jO.o) ?_;rintro e w1 ⟨v,NZ,rfl,hcs1,ho1,hb1⟩;refine ⟨_,rfl,?_⟩;obtain ⟨yA,yn,yc,rfl,hyn⟩:=GH ho1;have q2:w1.cell? ⟨G,i*5+4,none⟩=some (AB A3 n3 c3):=((Ja hb1).1 _ _ hGy).trans g4;have hf2:w1.frozen? ⟨G,i*5+4,none⟩=false:=((Ja hb1).2 _ _ hGy).trans fg4;have ku1:=((Jb.o.drew).below hb1).ub;have IY:=AA ho1;have PD:=AA hcs1;have HB1:=AA hb1;have oq:=AA hyn;clear ho1 hcs1 hb1 hyn))
   all_goals
    have hg2:w1.grownBy (w1.setCell ⟨G,i*5+4,none⟩ (AB yA yn yc)) (some G):=Cx (DS _ _) _ _;exact ⟨yA,yn,yc,rfl,NZ,((Jb.o.drew).below HB1.o).near hg2 AG AG AG,((Ch LI.o.drew HB1.o).stored (i*5+4) (AB yA yn yc)).1,G0 IY.o (by simpa using hGy) _,PD.o,oq.o,(Ch O9.o.drew HB1.o).kept hg2 (.inr (fun e=>by have:=(pP.o _ e).1;omega)),
     ((TC.o.same (w':=wy.drew) rfl).below HB1.o).keeps (CH.put _ _ _),(Ch LH.o.drew HB1.o).kept hg2 (.inr (fun e=>by have:=(HXB.o _ e).1;omega)),by have:=HB1.o.size;simp [World.setCell] at this ⊢;exact this⟩
  rintro yA yn yc w4 ⟨NZ,hr4,Ot,Rv,hc4,hyn,nO,hm4,AFa,hz4⟩;have hcd:chunk (cc.set (i*5+4) (AB yA yn yc)) 5 i=[AL p.head,AE AF a,AB vA vn vc,AB xA xn xc,AB yA yn yc]:=by rw [Ek _ AG,EN.o];rfl
  have AB3:∀j,j≠i->chunk (cc.set (i*5+4) (AB yA yn yc)) 5 j=chunk cs 5 j:=fun j hj=>by rw [FH _ AG hj];exact wZ.o j hj
  generalize cc.set (i*5+4) (AB yA yn yc)=cd at Ot hcd AB3;have g4':=BF Ot hi AG hcd (j:=4) rfl;have ku4:=hr4.ub;have hyy:vb+1 < wy.heap.size:=HVY.o;have HR4:=AA hr4;have X3:=AA Ot;have Qa:=AA Rv;have PD:=AA hc4;have oq:=AA hyn;have o9:=AA nO;have HM4:=AA hm4;have AGW:=AA AFa;have pT:=AA hcd;have AIR:=AA AB3;clear hr4 Ot Rv hc4 hyn nO hm4 AFa hcd AB3 Jb LI LH O9 TC EN wZ g4 fg4 k2 jO;go_wp2_with fail;clear g4' ku4;go_loopg [118] yn (fun q j wr=>∃(k:Nat) (ov:List L0) (cr3:List AN),k<=yn/\q=yn - k/\j=AE AF k/\ED (fun _=>Ue s xa out) p.sets k=some ov/\RB w R G (i*5) w.heap.size (w.heap.size+1) (vb+1) vb wr/\wr.ownsRow base 160 5 (AB (some ⟨G,0,none⟩) n cap) n cd/\
   wr.ownsRow wy.heap.size 284 7 (AB yA yn yc) p.sets.length cr3/\Aq 7 GZ w cr3 (ov++p.sets.drop k)/\wr.ownsRow wa.heap.size 298 8 (AB vA vn vc) vn cr/\MapAt Hq Gb wr vb (varsOf out)/\wr.ownsRow wz.heap.size 281 11 (AB xA xn xc) p.Cr.length jH)
  case atStart=>exact ⟨0,[],NZ,Av _,rfl,rfl,rfl,HR4.o,X3.o,Qa.o,PD.o,o9.o,HM4.o,AGW.o⟩
  clear HR4 X3 Qa PD o9 HM4 AGW;obtain ⟨k2,ov,cr3,hk2,hq2,rfl,XU,hrb,hog,Gc,hcr3,hof,hmp,hoa⟩:=hrel;have HQ:=AA hq2;have DZ:=AA XU;clear hq2 XU;by_cases hlt2:k2 < yn
  ·rcases Hr Gc with ⟨h,h0⟩ | ⟨H,hcap,h,hH,hHw,hn2⟩
   · exact RV
   injection h with h1 h2 h3;subst h1 h3;clear h2;have AI7:yn<=9223372036854775807:=by have:=oq.o;omega
   obtain ⟨m,hm⟩:∃m,p.sets[k2]? =some m:=⟨p.sets[k2]' eI,BJ _⟩;have hlen:=Cn eI DZ.o;have hat:(ov++p.sets.drop k2)[k2]? =some m:=by rw [Cp AG,EP,hlen];simpa using hm
   have hch:chunk cr3 7 k2=_:=hcr3.chunk hat;have Dy:wr.ownsRow wy.heap.size 284 7 (AB (some ⟨H,0,none⟩) yn yc) yn cr3:=by have:=oq.o;rw [this] at Gc ⊢;exact Gc
   have e0:=BF Dy hlt2 AG hch (j:=0) rfl;simp only [EO] at e0;have e1:=BF Dy hlt2 AG hch (j:=1) rfl;have f1:=Dy.frozenAt (k2*7+1);have g1:=BF hog hi AG pT.o (j:=1) rfl;have g4:=BF hog hi AG pT.o (j:=4) rfl;have kr:=hrb.rb;have ku:=hrb.ub;obtain ⟨b1',b2',b3',Sr,fl,PG,Hu,_,_,_,KJ⟩:=(Gp.o.below (Cw hrb.gr hlo Gl)).Hz;have s3:=Hu.cell 3;have lR':=Hu.lt;simp only [Ak,Al,Az] at s3;have ACO:a < fl:=by have:=KJ.len;rw [this,Cb];exact (BD.1 dX.o).1
   have AFk:fl<=9223372036854775807:=by have:=KJ.le;omega
   obtain ⟨fb,oF,fm,fg,rfl,hfb,hfm,hfc,L9⟩:=Us KJ ACO;have hfx:fm=fieldMap xa:=by rw [Bb,dX.o,Cl,Bu] at hfm;exact hfm.symm
   subst hfx;have hget:=Hx (fieldNames xa) m.path;have WX:=AA (L9.same (w':=wr.drew) rfl);have hnF:∀r,(Value.slice vA vn vc).ownBlock=some r->r≠H:=fun r e=>by have:=(pP.o r e).2;omega
   have hnA:∀r,(Value.slice xA xn xc).ownBlock=some r->r≠H:=fun r e=>by have:=(HXB.o r e).2;omega
   have Hk:=AA hnF;have HNA:=AA hnA;have Jb:=AA hrb;have LI:=AA hog;have LH:=AA Dy;have TI:=AA hcr3;have O9:=AA hof;have TC:=AA hmp;have S8:=AA hoa;have HM:=AA hm;have HLEN:=AA hlen;have HAT:=AA hat;clear hrb hog Gc Dy hcr3 hof hmp hoa hm hlen hat hch hnF hnA KJ hfm L9 Hu;have hkn:(k2:Int) < (yn:Int):=AG
   have hk0:(0:Int)<=(k2:Int):=AG
   have ha0:(0:Int)<=(a:Int):=AG
   have han:(a:Int) < (fl:Int):=AG
   have J0:(idx (fieldNames xa) m.path=none\/Ge s (varsOf out) out m.term=none)->GV s p=none:=fun hh=>by
    unfold GV;rw [IC.o];simp only;rw [je.o];simp only;rw [HAO.o];simp only;rw [dX.o];simp only;rw [Em (k:=k2+1) eI (FE DZ.o HM.o (by
     unfold Ue;rcases hh with hh | hh
     · rw [hh]
     · rw [hh];cases idx (fieldNames xa) m.path <;> rfl))]
   have NH:=AA J0;clear J0;go_upto_region 24 with fail;cases hix:idx (fieldNames xa) m.path with
   |
    none=>
    rw [hix] at hget;have Cf:AI (EB 160 5 CF base G n cap i cs lo M (GV s p) w (Bz Bq) wr.drew):=AA (Dj (NH.o (.inl hix)) (grown_drew Jb.o.gr));have HF:=AA ((G6 fg _ _ wr.drew WX.o hget).mono (R':=fun e w'=>e=Bz Bq/\w'=wr.drew) ET);clear hix hget;refine Di 23 [0,1,2,3,4,5,6,7,8,9,10,11,12,13,14,15,16,17,18,19,20,21,22] (fun l=>l.take 23) AJ rfl AJ (fun d u c a h=>by cases d <;> exact h) ?_;simp only [FL,FJ]
    repeat still_step
    refine FI ?_;refine ⟨_,209,#[.map (some fg),AL m.path],Bq,rfl,rfl,?_,HF.o,rfl,Cf.o⟩;go_simp
   |
    some f=>
    rw [hix] at hget;have HF:=AA ((FW fg _ _ (f:Int) wr.drew WX.o hget).mono (R':=fun e w'=>e=AU (AE AF f)/\w'=wr.drew) ET);have HIF:=AA hix;clear hix hget;refine wp_region_still_tail 26 AJ AJ ?_;simp only [FL,FJ,JL,Hl]
    repeat still_step
    still_call HF.o
    repeat still_step
    refine FI ?_;change wpList _ _ _ _ _ wr.drew;go_upto_region 25 with fail;have hoq:=(LH.o.stored (k2*7+1) (AE AF f)).1.drew;have hgq:wr.grownBy (wr.setCell ⟨H,k2*7+1,none⟩ (AE AF f)).drew (some H):=grown_drew (Cx (DS _ _) _ _);have hcq:=ABB TI.o HAT.o (f:Int);generalize (wr.setCell ⟨H,k2*7+1,none⟩ (AE AF f)).drew=wq at hoq hgq ⊢;generalize cr3.set (k2*7+1) (AE AF f)=cq at hoq hcq;have hrq:=Jb.o.far hgq AG AG AG AG;have Nt:=LI.o.kept hgq (.inr M2);have AB4:=O9.o.kept hgq (.inr (fun e=>Hk.o _ e rfl));have AFZ:=S8.o.kept hgq (.inr (fun e=>HNA.o _ e rfl));have WE:MapAt Hq Gb wq vb (varsOf out):=TC.o.keeps (CH.grown hgq (fun x e=>by cases e;exact LD LH.o));have Lb:((ov++p.sets.drop k2).set k2 {m with field:=(f:Int)})[k2]? =some {m with field:=(f:Int)}:=F9 (BD.1 HAT.o).1;have hck:chunk cq 7 k2=_:=hcq.chunk Lb;have gq2:=BF Nt hi AG pT.o (j:=2) rfl;have gq4:=BF Nt hi AG pT.o (j:=4) rfl;have kuq:=hrq.ub;have X5:=AA (Vc (ot:=k2*7+2) (t:=m.term) hrq gq2 AB4 pS.o HOL.o I3.o WE Gp.o hlo Gl AG AG AG AG AG Hk.o hoq (El hck AG (j:=2) rfl) (El hck AG (j:=3) rfl) (El hck AG (j:=4) rfl) (El hck AG (j:=5) rfl));have Kc:=AA hoq;have X8:=AA hcq;have Zf:=AA hrq;have Tg:=AA Nt;have AIV:=AA AB4;have AIY:=AA AFZ;have pE:=AA WE;have SQ:=AA Lb;clear hoq hcq hrq Nt AB4 AFZ WE hgq Lb hck e0 e1 f1 g1 g4 kr ku s3 lR' HF WX Jb LI LH TI TC O9 S8 gq2 hfc;go_wp2_with fail;refine X5.o.mono ?_;rintro e w' ⟨hg',hr⟩;clear X5;cases htp:Ge s (varsOf out) out m.term with
    |
     none=>
     rw [htp] at hr;subst hr;have Cf:AI (EB 160 5 CF base G n cap i cs lo M (GV s p) w (Bz Bq) w'):=AA (Dj (NH.o (.inr htp)) (OP Zf.o.gr hg' AG));clear htp hg'
     go_wp2
     exact ⟨rfl,Cf.o⟩
    |
     some t'=>
     rw [htp] at hr;obtain ⟨rfl,ho'⟩:=hr;have hc':=ABA X8.o SQ.o t' (Qs htp);rw [Ia] at hc';have HST:AI (Ue s xa out m=some {m with field:=(f:Int),term:=t'}):=AA (by unfold Ue;rw [HIF.o,htp]);have HC':=AA hc';have pC:=AA ho';have HG':=AA hg';clear hc' ho' hg' htp gq4 kuq;go_wp2_with fail;go_roundg (yn - (k2+1))
     case measure=>exact BS
     refine ⟨k2+1,ov++[{m with field:=(f:Int),term:=t'}],_,by omega,rfl,by go_num,FZ DZ.o HM.o HST.o,Zf.o.far HG'.o AG AG AG AG,Tg.o.kept HG'.o (.inr M2),?_,by rw [<-set_drop HLEN.o HM.o];exact HC'.o,AIV.o.kept HG'.o (.inr (fun e=>Hk.o _ e rfl)),pE.o.keeps (CH.grown HG'.o (fun x e=>by cases e;exact LD Kc.o)),AIY.o.kept HG'.o (.inr (fun e=>HNA.o _ e rfl))⟩;have h3:=pC.o;have:=oq.o;rw [this] at h3 ⊢;exact h3
  have hke2:k2=p.sets.length:=by have:=oq.o;omega
  go_wp2_with fail
  go_end0
  have hP:GV s p=some {p with schema:=(a:Int),froms:=out,Cr:=ou,sets:=ov}:=by unfold GV;rw [IC.o];simp only;rw [je.o];simp only;rw [HAO.o];simp only;rw [dX.o];simp only;unfold Ft;rw [<-hke2,DZ.o]
  have hs3:=J6.o;refine QB hP hrb.gr hog AIR.o ⟨vA,vn,vc,xA,xn,xc,yA,yn,yc,pT.o,⟨CW (LV hof AG) ⟨pS.o.1,pS.o.2⟩ HOL.o.symm,?_⟩,⟨CW (LV hoa AG) ⟨HCA.o.1,HCA.o.2⟩ (by rw [HAL.o,R6.o]),?_⟩,⟨CW (LV Gc AG) ?_ (by rw [Cn AG DZ.o,hke2]),?_⟩⟩
  · have:=jd.o.2;rw [HOL.o,LG.o];exact this
  · have:=CO.o;rw [HAL.o,R6.o];exact this
  ·rw [hke2,Ji,FK] at hcr3
   exact ⟨hcr3.1,hcr3.2⟩
  · have:=S4.o.2;rw [Cn AG DZ.o,hke2];exact this
section
variable {P:BA} {ops:Array Oper} {md:Region.Mode} {w:AH} {Q:Exit->Act->AH->Prop}
def VU (md:Region.Mode) (ops:Array Oper) (n:Nat) (E:List Nat):Bool:=
 (List.range n).all fun i=>E.contains i || (List.range (n+1)).any fun j=>decide (i < j) && !E.contains j && Region.waitsFor md ops j i
def U3 (md:Region.Mode) (ops:Array Oper) (n:Nat):Bool:=(List.range ops.size).all fun t=>decide (t<=n) || Region.waitsFor md ops t (t - 1)
structure Sx (md:Region.Mode) (ops:Array Oper) (n:Nat) (E:List Nat) (listed:Array Bool):Prop where
 size:listed.size=ops.size
 closed:∀(j:Nat) (oj:Oper),ops[j]? =some oj->listed.getD j false=true->∀e∈oj.after,Region.binds md e=true->listed.getD e.on false=true
 tail:∀t,n<=t->t < ops.size->listed.getD t true=false
 float:∀i∈E,listed.getD i false=true
theorem Sx.set {n i:Nat} {E:List Nat} {listed:Array Bool} (inv:Sx md ops n E listed) (hi:i∈Region.ready md ops listed) (hin:i < n):Sx md ops n E (listed.setIfInBounds i true):=by
 obtain ⟨_,oi,hoi,hall⟩:=IZ.1 hi;refine ⟨by simp [inv.size],fun j oj hj hl e he hb=> ?_,fun t ht ht'=>by rw [getD_set_ne true AG];exact inv.tail t ht ht',fun k hk=>getD_set_true (inv.float k hk)⟩;by_cases hij:i=j
 ·subst hij
  have:oj=oi:=Hm (hj.symm.trans hoi);subst this;exact getD_set_true (hall e he hb)
 rw [getD_set_ne false hij] at hl;exact getD_set_true (inv.closed j oj hj hl e he hb)
theorem AAL {n:Nat} {E:List Nat} {listed:Array Bool} (hs:VU md ops n E=true) (inv:Sx md ops n E listed) (hr:n∈Region.ready md ops listed):∀d i,i+d=n->i < n->listed.getD i false=true:=by
 obtain ⟨_,on,hon,hall⟩:=IZ.1 hr;intro d
 induction d using Nat.strongRecOn with
 |
  _ d ih=>
  intro i hid hin;unfold VU at hs;have h1:=De.1 hs i (Ed.2 hin);rw [YH] at h1;rcases h1 with h1 | h1
  · exact inv.float i (by simpa using h1)
  obtain ⟨j,hj,hjw⟩:=List.any_eq_true.1 h1;simp only [Bj,B8] at hjw;obtain ⟨⟨hij,_⟩,hw⟩:=hjw;obtain ⟨oj,hoj,e,he,hb,heq⟩:=Region.waitsFor_spec hw;have hjn:j<=n:=by have:=Ed.1 hj;omega
  rcases Ec j n with hlt | hge
  ·have:=ih (n - j) AG j AG hlt
   rw [<-heq];exact inv.closed j oj hoj this e he hb
  have hj2:j=n:=AG
  subst hj2;have:oj=on:=Hm (hoj.symm.trans hon);subst this;rw [<-heq];exact hall e he hb
theorem iT {n i:Nat} {E:List Nat} {listed:Array Bool} (hs:VU md ops n E=true) (hc:U3 md ops n=true) (inv:Sx md ops n E listed) (hin:i < n) (hun:listed.getD i true=false) {j:Nat} (hj:j∈Region.ready md ops listed):j < n:=by
 rcases Ec j n with h | h
 · exact h
 exfalso;obtain ⟨hjun,oj,hoj,hall⟩:=IZ.1 hj;rcases Nat.eq_or_lt_of_le h with e | hlt
 ·subst e
  have:=AAL hs inv hj (n - i) i AG hin;rw [getD_both hun] at this;cases this
 have hjs:j < ops.size:=(C6.1 hoj).1;unfold U3 at hc;have h1:=De.1 hc j (Ed.2 hjs);rw [YH,B8] at h1;rcases h1 with h1 | h1
 · omega
 obtain ⟨o',ho',e,he,hb,heq⟩:=Region.waitsFor_spec h1;have:o'=oj:=Hm (ho'.symm.trans hoj);subst this;have h2:=hall e he hb;rw [heq,getD_both (inv.tail (j - 1) AG AG)] at h2;cases h2
theorem lY {n i:Nat} {E:List Nat} {oi:Oper} {v:AN} {L:Array Bool->Act->Prop} (hi:ops[i]? =some oi) (hsel:∀(j:Nat) (o:Oper) cs b,ops[j]? =some o->o.op≠.select cs b)
 (hs:VU md ops n E=true) (hc:U3 md ops n=true) (hin:i < n) (hdone:∀listed a,L listed a->∀j∈Region.ready md ops listed,n<=j):
 ∀(f:Nat) (listed:Array Bool) (a:Act),Sx md ops n E listed->
  (∀j oj,ops[j]? =some oj->j≠i->listed.getD j true=false->(∀e∈oj.after,Region.binds md e=true->e.on≠i)->oi.apart ops oj=true)->
  i∈Region.ready md ops listed->YieldsAt P ops w oi v a->
  wpAnyL P md ops w n L f (listed.setIfInBounds i true) (a.put oi.dst v)->wpAnyL P md ops w n L (f+1) listed a:=by
 intro f
 induction f with
 |
  zero=>
  intro listed a inv _ hr hy H;have hun:=(IZ.1 hr).1;refine ⟨fun h=>OC,fun j hj=> ?_⟩;have hjn:=iT hs hc inv hin hun hj;refine ⟨hjn,?_⟩;by_cases hji:j=i
  · subst hji;exact hy.stOp hi H
  ·have:=hdone _ _ H j (Jg hj hji)
   omega
 |
  succ f ih=>
  intro listed a inv hfree hr hy H;have hun:=(IZ.1 hr).1;refine ⟨fun h=>OC,fun j hj=> ?_⟩;have hjn:=iT hs hc inv hin hun hj;refine ⟨hjn,?_⟩;by_cases hji:j=i
  · subst hji;exact hy.stOp hi H
  have h1:=(H.2 j (Jg hj hji)).2;obtain ⟨hjun,oj,hoj,hall⟩:=IZ.1 hj;have hnot:∀e∈oj.after,Region.binds md e=true->e.on≠i:=fun e he hb heq=>by have h2:=hall e he hb;rw [heq,getD_both hun] at h2;cases h2
  have hs2:=stOp_put hoj (hfree j oj hoj hji hjun hnot) (fun cs b=>hsel i oi cs b hi) (fun cs b=>hsel j oj cs b hoj) hy h1;refine stOp_mono (fun a' h3=>ih (listed.setIfInBounds j true) a' (inv.set hj hjn) (fun k ok hk hki hun' hno=> ?_) (Jg hr (Ne.symm hji)) h3.1 ?_) hs2
  ·refine hfree k ok hk hki ?_ hno
   by_cases hjk:j=k
   · subst hjk;exact hjun
   · rw [getD_set_ne true hjk] at hun';exact hun'
  rw [YZ _ _ hji];exact h3.2
def Xc (md:Region.Mode) (ops:Array Oper) (g n:Nat):List Nat->Array Bool->Bool
 | [],listed=>Region.seqB md ops g n listed
 | k::ks,listed=>(Region.ready md ops listed).contains k && Region.free md ops listed k && decide (k < n) && Xc md ops g n ks (listed.setIfInBounds k true)
theorem bP {n g:Nat} {E:List Nat} {Lq:Act->Prop} (hsel:Region.noSelect ops=true) (hs:VU md ops n E=true) (hc:U3 md ops n=true):
 ∀(l:List Oper) (ks:List Nat) (listed:Array Bool) (a:Act),ks.map (fun k=>ops[k]?)=l.map some->Sx md ops n E listed->Xc md ops g n ks listed=true->wpStill P ops w Lq l a->
 wpAnyL P md ops w n (fun listed' a'=>Region.seqB md ops g n listed'=true/\Lq a') l.length listed a
 | [],[],listed,a,_,_,hB,h=>⟨hB,h⟩
 | [],_::_,_,_,hm,_,_,_=>by simp at hm
 | _::_,[],_,_,hm,_,_,_=>by simp at hm
 |
  o::l,k::ks,listed,a,hm,inv,hB,h=>by
  simp only [Fe,Q5] at hm;simp only [Xc,Bj,B8] at hB;obtain ⟨⟨⟨hr,hf⟩,hkn⟩,hB'⟩:=hB;have hr':k∈Region.ready md ops listed:=by simpa using hr
  have hst:stOp P ops w k (wpStill P ops w Lq l) a:=by unfold stOp;simp only [hm.1];exact h
  obtain ⟨v,hy,hK⟩:=yieldsAt_of_stOp hm.1 hst;exact lY hm.1 (YT hsel) hs hc hkn (fun listed' a' hL=>seqB_ready hL.1) l.length listed a inv (YL hm.1 hf) hr' hy
   (bP hsel hs hc l ks _ _ hm.2 (inv.set hr' hkn) hB' hK)
theorem pj {n:Nat} {E:List Nat} {a:Act} {w:AH} {hd tl:List Oper} {listed:Array Bool} {fuel:Nat} (ks:List Nat) (hk:ks.map (fun k=>ops[k]?)=hd.map some) (htl:∀j,tl[j]? =ops[n+j]?)
 (hB:(Region.noSelect ops && VU md ops n E && U3 md ops n && Xc md ops tl.length n ks listed)=true) (inv:Sx md ops n E listed) (hf:fuel=ks.length+tl.length)
 (h:wpStill P ops w (fun a'=>wpList P ops Q tl a' w) hd a):wpAny P md ops Q fuel listed a w:=by
 simp only [Bj] at hB;obtain ⟨⟨⟨hsel,hs⟩,hc⟩,hlex⟩:=hB;have H:=bP (g:=tl.length) hsel hs hc hd ks listed a hk inv hlex h;have hl:hd.length=ks.length:=by have:=congrArg List.length hk;simpa using this.symm
 have:=wpAny_of_head (Q':=Q) (g:=tl.length) (fun listed' a' hL=>wpAny_of_seq (Q':=Q) tl n listed' a' w htl hL.1 hL.2) _ _ _ H;rw [hf,<-hl];exact this
theorem SU {id:Nat} {a:Act} {w:AH} {l:List Oper} (n i:Nat) (oi:Oper) (v:AN) (ks:List Nat) (pick:List Oper->List Oper) (hm:P.follows .mixedOrders=true) (hi:l.toArray[i]? =some oi) (hin:i < n) (hnl:n<=l.length) (hks:ks.length+1=n)
 (haf:oi.after.all (fun e=> !Region.binds .any e)=true) (hsel:Region.noSelect l.toArray=true) (hfr:Region.free .any l.toArray (Array.replicate l.toArray.size false) i=true) (hrd:(Region.ready .any l.toArray (Array.replicate l.toArray.size false)).contains i=true)
 (hQ:∀c a w,Q (.panic c) (a.put oi.dst v) w->Q (.panic c) a w) (hy:Yields P l.toArray oi v a) (hk:ks.map (fun k=>l.toArray[k]?)=(pick l).map some)
 (hB:(Region.noSelect l.toArray && VU .any l.toArray n [i] && U3 .any l.toArray n && Xc .any l.toArray (l.length - n) n ks ((Array.replicate l.toArray.size false).setIfInBounds i true))=true)
 (h:wpStill P l.toArray w.drew (fun a'=>wpList P l.toArray Q (l.drop n) a' w.drew) (pick l) (a.put oi.dst v)):(Code.region id l.toArray true).wp P Q a w:=by
 refine wp_region_any hm ?_;have hil:i < l.length:=AG
 have hsz:l.toArray.size=(l.length - 1)+1:=by simp;omega
 have hmain:wpAny P .any l.toArray Q (l.length - 1) ((Array.replicate l.toArray.size false).setIfInBounds i true) (a.put oi.dst v) w.drew:=by
  refine pj (n:=n) (E:=[i]) (tl:=l.drop n) ks hk (fun j=>by simp [List.getElem?_drop]) (by rw [JN];exact hB) ⟨by simp,?_,?_,?_⟩ UK h
  ·intro j oj hj hl e he hb
   by_cases hij:i=j
   ·subst hij
    have:oj=oi:=Hm (hj.symm.trans hi);subst this;have:=Array.all_eq_true'.1 haf e he;rw [hb] at this;cases this
   rw [getD_set_ne false hij,getD_replicate_false] at hl;cases hl
  ·intro t ht hts
   rw [getD_set_ne true AG];exact getD_in (by simpa using hts) (getD_replicate_false _ _)
  intro k hk;rw [Fg] at hk;subst hk;simp [Array.getD_eq_getD_getElem?,hil]
 have:=wpAny_take (md:=.any) (fuel:=l.length - 1) (w:=w.drew) hi hsel hfr hrd hQ hy hmain;rw [<-hsz] at this;exact this
end
def Rp (xa xb:BL) (m:Kf):Option Kf:=
 match idx (fieldNames xa) m.from_,idx (fieldNames xb) m.DJ with
 | some a,some b=>some {m with a:=(a:Int),b:=(b:Int)}
 | _,_=>none
def En (s:BB) (c:C0):Option C0:=
 match idx (By s) c.from_,idx (By s) c.DJ with
 |
  some a,some b=>match s.Ap[a]?,s.Ap[b]? with
  | some xa,some xb=>(Ft (fun _=>Rp xa xb) c.moves).map (fun l=>{c with a:=(a:Int),b:=(b:Int),moves:=l})
  | _,_=>none
 | _,_=>none
theorem ABb {w:AH} {cs:List AN} {l:List Kf} {k:Nat} {u:Kf} (h:Aq 5 GF w cs l) (hk:l[k]? =some u) (x y:Int):Aq 5 GF w ((cs.set (k*5+3) (AE AF x)).set (k*5+2) (AE AF y)) (l.set k {u with a:=x,b:=y}):=by
 have hkl:=(BD.1 hk).1;have h1:Aq 5 GF w (cs.set (k*5+3) (AE AF x)) (l.set k {u with a:=x}):=h.put AG hkl rh
 have h2:=h1.put (i:=k) (j:=2) (x':={u with a:=x,b:=y}) (u:=AE AF y) AG RQ sE
 rwa [Ia] at h2
theorem Y8 (R lo M base G n cap i:Nat) (cs:List AN) (s:BB) (p:C0) (w:AH) (hres:Jf (mask lo M w) R s) (hlo:lo<=G) (Gl:G < M) (tX:M<=w.heap.size)
 (ho:w.ownsRow base 163 5 (AB (some ⟨G,0,none⟩) n cap) n cs) (hi:i < n) (hp:Bw (mask lo M w) (chunk cs 5 i) p):
 AS prog 162 #[AW (some ⟨R,0,none⟩),AW (some ⟨G,i*5,none⟩)] w (EB 163 5 Bw base G n cap i cs lo M (En s p) w):=by
 obtain ⟨A1,n1,c1,hch,hmay⟩:=hp;have p0:=BF ho hi AG hch (j:=0) rfl;simp only [EO] at p0;have p1:=BF ho hi AG hch (j:=1) rfl;have p2:=BF ho hi AG hch (j:=2) rfl;have p3:=BF ho hi AG hch (j:=3) rfl;have p4:=BF ho hi AG hch (j:=4) rfl;have f2:=ho.frozenAt (i*5+2);have f3:=ho.frozenAt (i*5+3);have Uw:G < w.heap.size:=AG
 obtain ⟨b1,b2,b3,fA,fn,fc,hbR,hm1,hm2,Dm,hfs⟩:=hres.Hz;have r2:=hbR.cell 2;have lR:=hbR.lt;simp only [Ak,Al,Az] at r2;have NC:=Hx (By s) p.from_;have La:=Hx (By s) p.DJ;have Gp:=AA hres;have HO:=AA ho;have OY:=AA hch;have wj:=AA hmay;have G9:=AA (Dm.same (w':=w.drew) rfl);clear hres ho hch hmay hbR hm1 hm2 Dm hfs;go_enter func162,ntmps162;go_wp2_with fail;cases hix1:idx (By s) p.from_ with
 |
  none=>
  rw [hix1] at NC;have Cf:AI (EB 163 5 Bw base G n cap i cs lo M (En s p) w (Bz Bq) w.drew):=
   Dj (by unfold En;rw [hix1]) (grown_drew (DS _ _))
  have HF:=AA ((G6 b3 _ _ w.drew G9.o NC).mono (R':=fun e w'=>e=Bz Bq/\w'=w.drew) ET);clear hix1 NC La;refine Di 10 [0,1,2,3,4,5,6,7,8,9,11,12,13,14,15,16,17,18] (fun l=>l.take 10++(l.drop 11).take 8) AJ rfl AJ (fun d u c a h=>by cases d <;> exact h) ?_;simp only [FL,FJ,JL,Hl,Ln,Jh]
  repeat still_step
  refine FI ?_;refine ⟨_,209,#[.map (some b3),AL p.from_],Bq,rfl,rfl,?_,HF.o,rfl,Cf.o⟩;go_simp
 |
  some a=>
  rw [hix1] at NC;have dm:=AA ((FW b3 _ _ (a:Int) w.drew G9.o NC).mono (R':=fun e w'=>e=AU (AE AF a)/\w'=w.drew) ET);have xE:=AA hix1;have hal:=XS hix1;clear hix1 NC;cases hix2:idx (By s) p.DJ with
  |
   none=>
   rw [hix2] at La;have Cf:AI (EB 163 5 Bw base G n cap i cs lo M (En s p) w (Bz Bq) w.drew):=
    Dj (by unfold En;rw [xE.o,hix2]) (grown_drew (DS _ _))
   have HF:=AA ((G6 b3 _ _ w.drew G9.o La).mono (R':=fun e w'=>e=Bz Bq/\w'=w.drew) ET);clear hix2 La;refine Di 19 [0,1,2,3,4,5,6,7,8,9,10,11,12,13,14,15,16,17,18] (fun l=>l.take 19) AJ rfl AJ (fun d u c a h=>by cases d <;> exact h) ?_;simp only [FL,FJ]
   repeat still_step
   still_call dm.o
   repeat still_step
   refine FI ?_;refine ⟨_,209,#[.map (some b3),AL p.DJ],Bq,rfl,rfl,?_,HF.o,rfl,Cf.o⟩;go_simp
  |
   some b=>
   rw [hix2] at La;have HF2:=AA ((FW b3 _ _ (b:Int) w.drew G9.o La).mono (R':=fun e w'=>e=AU (AE AF b)/\w'=w.drew) ET);have g7:=AA hix2;have hbl:=XS hix2;clear hix2 La;refine SU 22 1 _ (AW (some ⟨G,i*5,none⟩)) [0,2,3,4,5,6,7,8,9,10,11,12,13,14,15,16,17,18,19,20,21] (fun l=>l.take 1++(l.drop 2).take 20) AJ rfl AG Ah rfl AJ AJ AJ AJ (fun _ _ _ h=>h) (.inl ⟨rfl,fun _=>rfl⟩) rfl AJ ?_;simp only [FL,FJ,JL,Hl,Ln,Jh]
   repeat still_step
   still_call dm.o
   repeat still_step
   still_call HF2.o
   repeat still_step
   refine FI ?_;change wpList _ _ _ _ _ w.drew;go_wp2_with fail;have ho1:=HO.o.stored (i*5+2) (AE AF a);have ho2:=(ho1.1.stored (i*5+3) (AE AF b)).1.drew;have hga:w.grownBy ((w.setCell ⟨G,i*5+2,none⟩ (AE AF a)).setCell ⟨G,i*5+3,none⟩ (AE AF b)).drew (some G):=grown_drew (Cx (Cx (DS _ _) _ _) _ _);have Oq:((w.setCell ⟨G,i*5+2,none⟩ (AE AF a)).setCell ⟨G,i*5+3,none⟩ (AE AF b)).drew.heap.size=w.heap.size:=by simp [World.setCell]
   have Py:chunk ((cs.set (i*5+2) (AE AF a)).set (i*5+3) (AE AF b)) 5 i=[AL p.from_,AL p.DJ,AE AF a,AE AF b,AB A1 n1 c1]:=by rw [Ek _ AG,Ek _ AG,OY.o];rfl
   have hoth:∀j,j≠i->chunk ((cs.set (i*5+2) (AE AF a)).set (i*5+3) (AE AF b)) 5 j=chunk cs 5 j:=fun j hj=>by rw [FH _ AG hj,FH _ AG hj]
   generalize ((w.setCell ⟨G,i*5+2,none⟩ (AE AF a)).setCell ⟨G,i*5+3,none⟩ (AE AF b)).drew=wa at ho2 hga Oq ⊢;generalize (cs.set (i*5+2) (AE AF a)).set (i*5+3) (AE AF b)=ca at ho2 Py hoth
   have q2:=BF ho2 hi AG Py (j:=2) rfl;have hmw:=(wj.o.mono Fq (Cw hga hlo Gl)).Hz cG;obtain ⟨xa,hxa⟩:∃x,s.Ap[a]? =some x:=⟨s.Ap[a]'(by simpa [By] using hal),BJ _⟩;obtain ⟨xb,hxb⟩:∃x,s.Ap[b]? =some x:=⟨s.Ap[b]'(by simpa [By] using hbl),BJ _⟩;have dX:=AA hxa;have HXB:=AA hxb;have S8:=AA ho2;have Ha:=AA hga;have Tj:=AA Py;have ay:=AA hoth;have CY:=AA Oq;have HBD:=AA wj.o.2;have QU:G < wa.heap.size:=by rw [Oq];exact Uw
   clear ho1 ho2 hga Py hoth Oq hxa hxb p0 p1 p2 p3 p4 f2 f3 r2 lR q2 dm HF2 G9;refine (j9 A1 n1 c1 p.moves _ hmw).mono ?_;rintro e w1 ⟨v,cs1,rfl,hcs1,ho1,hb1⟩;obtain ⟨vA,vn,vc,rfl⟩:∃A m c,v=AB A m c:=by
    rcases Hr ho1 with ⟨rfl,_⟩ | ⟨g,cap,rfl,_⟩
    · exact NS
    · exact NS
   have p4:=BF S8.o hi AG Tj.o (j:=4) rfl;have q1:w1.cell? ⟨G,i*5+4,none⟩=some (AB A1 n1 c1):=((Ja hb1).1 _ _ QU).trans p4;have hf1:w1.frozen? ⟨G,i*5+4,none⟩=false:=((Ja hb1).2 _ _ QU).trans (S8.o.frozenAt _);have hG1:G < w1.heap.size:=Au QU hb1.size;have IY:=AA ho1;have Kd:=AA hcs1;have HB1:=AA hb1;clear ho1 hcs1 hb1 p4 hmw;go_wp2_with fail;have ho2:(w1.setCell ⟨G,i*5+4,none⟩ (AB vA vn vc)).ownsRow base 163 5 (AB (some ⟨G,0,none⟩) n cap) n (ca.set (i*5+4) (AB vA vn vc)):=((Ch S8.o HB1.o).stored (i*5+4) (AB vA vn vc)).1;have hi2:(w1.setCell ⟨G,i*5+4,none⟩ (AB vA vn vc)).ownsRow wa.heap.size 294 5 (AB vA vn vc) p.moves.length cs1:=G0 IY.o Yf _;have hg2:w.grownBy (w1.setCell ⟨G,i*5+4,none⟩ (AB vA vn vc)) (some G):=Cx (Eh Ha.o (Ei HB1.o _)) _ _;generalize w1.setCell ⟨G,i*5+4,none⟩ (AB vA vn vc)=w2 at ho2 hi2 hg2 ⊢;have hvn:vn=p.moves.length:=by
    rcases Hr hi2 with ⟨h,h0⟩ | ⟨g,cap,h,_⟩
    · injection h with _ h;omega
    · injection h
   have Jc:=AA ho2;have HI2:=AA hi2;have HG2:=AA hg2;have LG:=AA hvn;clear ho2 hi2 hg2 hvn q1 hf1 hG1 IY HB1;go_loopg [43] vn (fun q j wr=>∃(k:Nat) (out:List Kf) (cr:List AN),k<=vn/\q=vn - k/\j=AE AF k/\ED (fun _=>Rp xa xb) p.moves k=some out/\w.grownBy wr (some G)/\wr.ownsRow base 163 5 (AB (some ⟨G,0,none⟩) n cap) n (ca.set (i*5+4) (AB vA vn vc))/\
    wr.ownsRow wa.heap.size 294 5 (AB vA vn vc) p.moves.length cr/\Aq 5 GF wa cr (out++p.moves.drop k))
   case atStart=>exact lJ
   clear Jc HI2 HG2 Kd;obtain ⟨k,out,cr,hk,hq,rfl,hto,hgr,hog,Gc,hcr⟩:=hrel;have HQ:=AA hq;have DZ:=AA hto;clear hq hto;by_cases hlt:k < vn
   ·rcases Hr Gc with ⟨h,h0⟩ | ⟨H,hcap,h,hH,hHw,hn2⟩
    · exact RV
    injection h with h1 h2 h3;subst h1 h3;clear h2;have vF:vn<=9223372036854775807:=by have:=LG.o;omega
    have vW:w.heap.size<=H:=by have:=CY.o;omega
    obtain ⟨m,hm⟩:∃m,p.moves[k]? =some m:=⟨p.moves[k]' Hn,BJ _⟩;have hlen:=Cn Hn DZ.o;have hat:(out++p.moves.drop k)[k]? =some m:=by rw [Cp AG,EP,hlen];simpa using hm
    have hch:chunk cr 5 k=[AL m.DJ,AL m.from_,AE AF m.b,AE AF m.a,AE AF m.shift]:=hcr.chunk hat;have Dy:wr.ownsRow wa.heap.size 294 5 (AB (some ⟨H,0,none⟩) vn vc) vn cr:=by have:=LG.o;rw [this] at Gc ⊢;exact Gc
    have e0:=BF Dy hlt AG hch (j:=0) rfl;simp only [EO] at e0;have e1:=BF Dy hlt AG hch (j:=1) rfl;have e2:=BF Dy hlt AG hch (j:=2) rfl;have e3:=BF Dy hlt AG hch (j:=3) rfl;have f2:=Dy.frozenAt (k*5+2);have f3:=Dy.frozenAt (k*5+3);have aS:chunk (ca.set (i*5+4) (AB (some ⟨H,0,none⟩) vn vc)) 5 i=[AL p.from_,AL p.DJ,AE AF a,AE AF b,AB (some ⟨H,0,none⟩) vn vc]:=by rw [Ek _ AG,Tj.o];rfl
    have g2:=BF hog hi AG aS (j:=2) rfl;have g3:=BF hog hi AG aS (j:=3) rfl;have g4:=BF hog hi AG aS (j:=4) rfl;obtain ⟨b1',b2',b3',Sr,fn',PG,Hu,_,_,_,KJ⟩:=(Gp.o.below (Cw hgr hlo Gl)).Hz;have s3:=Hu.cell 3;have lR':=Hu.lt;simp only [Ak,Al,Az] at s3;have hfn:fn'=s.Ap.length:=by have:=KJ.len;simpa using this
    have hal':a < fn':=by rw [hfn];simpa [By] using hal
    have gF:b < fn':=by rw [hfn];simpa [By] using hbl
    obtain ⟨fb,oF,fm,fg,rfl,hfb,hfm,hfc,L9⟩:=Us KJ hal';obtain ⟨fb2,AI4,fm2,fg2,efb,AJP,ACD,AJO,AAK⟩:=Us KJ gF;injection efb with efb;injection efb with ef1 ef2;subst ef1 ef2;have hfx:fm=fieldMap xa:=by rw [Bb,dX.o,Cl,Bu] at hfm;exact hfm.symm
    have AHm:fm2=fieldMap xb:=by rw [Bb,HXB.o,Cl,Bu] at ACD;exact ACD.symm
    subst hfx AHm;have NC:=Hx (fieldNames xa) m.from_;have La:=Hx (fieldNames xb) m.DJ;have GU:=AA hgr;have LI:=AA hog;have LH:=AA Dy;have TI:=AA hcr;have HM:=AA hm;have HLEN:=AA hlen;have HAT:=AA hat;have WX:=AA (L9.same (w':=wr.drew) rfl);have AGn:=AA (AAK.same (w':=wr.drew) rfl);clear hgr hog Gc Dy hcr hm hlen hat hch aS Hu KJ hfm ACD L9 AAK hfn;have hkn:(k:Int) < (vn:Int):=AG
    have hk0:=Int.natCast_nonneg k
    have ha0:(0:Int)<=(a:Int):=AG
    have han:(a:Int) < (fn':Int):=AG
    have hb0:(0:Int)<=(b:Int):=AG
    have hbn:(b:Int) < (fn':Int):=AG
    go_wp2_with fail;cases hix1:idx (fieldNames xa) m.from_ with
    |
     none=>
     rw [hix1] at NC;have Cf:AI (EB 163 5 Bw base G n cap i cs lo M (En s p) w (Bz Bq) wr.drew):=by refine Dj ?_ (grown_drew GU.o);unfold En;rw [xE.o,g7.o];simp only [dX.o,HXB.o];rw [Em (k:=k+1) Hn (FE DZ.o HM.o (by unfold Rp;rw [hix1]))];rfl
     have HF:=AA ((G6 fg _ _ wr.drew WX.o NC).mono (R':=fun e w'=>e=Bz Bq/\w'=wr.drew) ET);clear hix1 NC La;refine Di 16 [0,1,2,3,4,5,6,7,8,9,10,11,12,13,14,15,17,18,19,20,21,22,23,24,25,26,27,28,29,30] (fun l=>l.take 16++(l.drop 17).take 14) AJ rfl AJ (fun d u c a h=>by cases d <;> exact h) ?_;simp only [FL,FJ,JL,Hl,Ln,Jh]
     repeat still_step
     refine FI ?_;refine ⟨_,209,#[.map (some fg),AL m.from_],Bq,rfl,rfl,?_,HF.o,rfl,Cf.o⟩;go_simp
    |
     some f=>
     rw [hix1] at NC;have dm:=AA ((FW fg _ _ (f:Int) wr.drew WX.o NC).mono (R':=fun e w'=>e=AU (AE AF f)/\w'=wr.drew) ET);have Zp:=AA hix1;clear hix1 NC;cases hix2:idx (fieldNames xb) m.DJ with
     |
      none=>
      rw [hix2] at La;have Cf:AI (EB 163 5 Bw base G n cap i cs lo M (En s p) w (Bz Bq) wr.drew):=by refine Dj ?_ (grown_drew GU.o);unfold En;rw [xE.o,g7.o];simp only [dX.o,HXB.o];rw [Em (k:=k+1) Hn (FE DZ.o HM.o (by unfold Rp;rw [Zp.o,hix2]))];rfl
      have HF:=AA ((G6 fg2 _ _ wr.drew AGn.o La).mono (R':=fun e w'=>e=Bz Bq/\w'=wr.drew) ET);clear hix2 La;refine Di 31 [0,1,2,3,4,5,6,7,8,9,10,11,12,13,14,15,16,17,18,19,20,21,22,23,24,25,26,27,28,29,30] (fun l=>l.take 31) AJ rfl AJ (fun d u c a h=>by cases d <;> exact h) ?_;simp only [FL,FJ]
      repeat still_step
      still_call dm.o
      repeat still_step
      refine FI ?_;refine ⟨_,209,#[.map (some fg2),AL m.DJ],Bq,rfl,rfl,?_,HF.o,rfl,Cf.o⟩;go_simp
     |
      some h=>
      rw [hix2] at La;have HF2:=AA ((FW fg2 _ _ (h:Int) wr.drew AGn.o La).mono (R':=fun e w'=>e=AU (AE AF h)/\w'=wr.drew) ET);have HJ2:=AA hix2;clear hix2 La;refine SU 34 1 _ (AW (some ⟨H,k*5,none⟩)) [0,2,3,4,5,6,7,8,9,10,11,12,13,14,15,16,17,18,19,20,21,22,23,24,25,26,27,28,29,30,31,32,33] (fun l=>l.take 1++(l.drop 2).take 32) AJ rfl AG Ah rfl AJ AJ AJ AJ (fun _ _ _ h=>h) (.inl ⟨rfl,fun _=>rfl⟩) rfl AJ ?_;simp only [FL,FJ,JL,Hl,Ln,Jh]
      repeat still_step
      still_call dm.o
      repeat still_step
      still_call HF2.o
      repeat still_step
      refine FI ?_;change wpList _ _ _ _ _ wr.drew;go_wp2_with fail;go_roundg (vn - (k+1))
      case measure=>exact BS
      have ho3:=(LH.o.drew.stored (k*5+3) (AE AF f)).1;have Rv:=(ho3.stored (k*5+2) (AE AF h)).1;have hc3:=ABb TI.o HAT.o (f:Int) (h:Int);refine ⟨k+1,out++[{m with a:=(f:Int),b:=(h:Int)}],(cr.set (k*5+3) (AE AF f)).set (k*5+2) (AE AF h),by omega,rfl,by go_num,?_,MU (MU (grown_drew GU.o) UH _) UH _,own_ne (own_ne LI.o.drew BN _) BN _,?_,?_⟩
      · exact FZ DZ.o HM.o (by unfold Rp;rw [Zp.o,HJ2.o])
      · have:=LG.o;rw [this] at Rv ⊢;exact Rv
      · rw [<-set_drop HLEN.o HM.o];exact hc3
   have hke:k=p.moves.length:=by have:=LG.o;omega
   go_wp2_with fail
   go_end0
   have hP:En s p=some {p with a:=(a:Int),b:=(b:Int),moves:=out}:=by unfold En Ft;rw [xE.o,g7.o];simp only [dX.o,HXB.o];rw [<-hke,DZ.o];rfl
   have hsl:Ag 5 GF (mask lo M wr) (AB vA vn vc) out:=by rw [hke,Ji,FK] at hcr;exact CW (LV Gc (by rw [CY.o];exact tX)) ⟨hcr.1,hcr.2⟩ rN
   refine QB hP hgr hog (fun j hj=>by rw [FH _ AG hj];exact ay.o j hj) ?_;refine ⟨vA,vn,vc,?_,hsl,?_⟩
   · rw [Ek _ AG,Tj.o];rfl
   exact sT
theorem Ku (n:Int) (w:AH):(Instr.makeMap 268 (some (AE AF n))).run prog w=.ok (.map (some w.heap.size)) (w.alloc (.map #[] 0)):=by simp [Instr.makeMap,run_underlying underlying268,asInt,asIntOf]
theorem gN (A:Option Aa) (n c:Nat) (l:List ByteArray) (w:AH) (hs:Ag 1 DQ w (AB A n c) l):
 AS prog 197 #[AB A n c,.func (.func 198) #[] #[]] w (U7 l w):=by
 have hn2:n<=9223372036854775807:=by have:=hs.le;omega
 have HN:=AA hs.len;have HS:=AA hs;clear hs;have hmm:=Ku;go_enter func197,ntmps197;go_wp2_with fail;clear hmm;have hm0:MapAt Gf Gj (w.alloc (.map #[] 0)) w.heap.size (Br l 0).1:=MapAt.new _ _ w;have hb0:AK w (w.alloc (.map #[] 0)):=(Ae _ _).alloc (Ac _) _;have MC:=AA hm0;have HB0:=AA hb0;clear hm0 hb0;go_loopg [5,15] n (fun g t i wr=>∃k:Nat,k<=n/\g=n - k/\i=AE AF k/\t=Ab (Br l k).2/\MapAt Gf Gj wr w.heap.size (Br l k).1/\AK w wr)
 case atStart=>exact T0
 clear MC HB0;obtain ⟨k,hk,hg,rfl,rfl,hm,hb⟩:=hrel;have HG:=AA hg;have HM:=AA hm;have HB:=AA hb;clear hg hm hb;by_cases hlt:k < n
 ·obtain ⟨b,off,x,rfl,hbl,hx,hc⟩:=Wn (HS.o.mono BV HB.o) hlt
  have HX:AI (l[k]? =some x):=hx;clear hx;have hxn:x=x:=rfl;clear hxn;obtain ⟨t,ht⟩:=BP ((Br l k).2);have HT:=AA ht;rw [ht];clear ht;go_wp2_with fail;refine (co _ _).mono ?_;rintro e w' ⟨rfl,rfl⟩;have hmw:=HM.o;have hbw:=HB.o;have hlook:=C8 (DB underlying9) underlying268 (z:=AE AF 0) AJ hmw x true;have Mh:=AA hmw;have CO:=AA hbw;clear hmw hbw HM HB;cases hgt:getM (Br l k).1 x with
  |
   some v=>
   rw [hgt] at hlook;simp only [C5,Cl,Cc,Fh] at hlook;have LK:=AA hgt;clear hgt;go_wp2_with fail;go_roundg (n - (k+1))
   case measure=>exact EF
   case rel=>
    have he:Br l (k+1)=((Br l k).1,true):=by rw [GQ HX.o,MZ LK.o]
    exact ⟨k+1,by omega,rfl,by go_num,by rw [he],by rw [he];exact Mh.o,CO.o⟩
  |
   none=>
   rw [hgt] at hlook;simp only [C5,JJ,Jj,Gv] at hlook;have LK:=AA hgt;clear hgt;go_wp2_with fail;refine (co _ _).mono ?_;rintro e w' ⟨rfl,rfl⟩;obtain ⟨w3,hrun3,Dm,hg3⟩:=FB (DB underlying9) underlying268 Mh.o x (k:Int);have HB3:=AA (CO.o.grown hg3 CO.o.size (fun r e=>by cases e;exact Ac _));have G9:=AA Dm;clear Dm hg3 hlook;go_wp2_with fail;go_roundg (n - (k+1))
   case measure=>exact EF
   have he:Br l (k+1)=(Hb (Br l k).1 x (k:Int),(Br l k).2):=by rw [GQ HX.o,Nv LK.o]
   exact UB
 have HE:AI (Br l k=col l):=by show _=_;have:=HN.o;rw [col,show k=l.length by first | omega | (simp;omega)]
 exact UG
theorem dO (A:Option Aa) (n c:Nat) (l:List Bt) (w:AH) (hs:Ag 5 CD w (AB A n c) l):
 AS prog 199 #[AB A n c,.func (.func 200) #[] #[]] w (U7 (l.map (·.name)) w):=by
 have hn2:n<=9223372036854775807:=by have:=hs.le;omega
 have HN:=AA hs.len;have HS:=AA hs;clear hs;have hmm:=Ku;go_enter func199,ntmps199;go_wp2_with fail;clear hmm;have hm0:MapAt Gf Gj (w.alloc (.map #[] 0)) w.heap.size (Br (l.map (·.name)) 0).1:=MapAt.new _ _ w;have hb0:AK w (w.alloc (.map #[] 0)):=(Ae _ _).alloc (Ac _) _;have MC:=AA hm0;have HB0:=AA hb0;clear hm0 hb0;go_loopg [5,15] n (fun g t i wr=>∃k:Nat,k<=n/\g=n - k/\i=AE AF k/\t=Ab (Br (l.map (·.name)) k).2/\MapAt Gf Gj wr w.heap.size (Br (l.map (·.name)) k).1/\AK w wr)
 case atStart=>exact T0
 clear MC HB0;obtain ⟨k,hk,hg,rfl,rfl,hm,hb⟩:=hrel;have HG:=AA hg;have HM:=AA hm;have HB:=AA hb;clear hg hm hb;by_cases hlt:k < n
 ·obtain ⟨b,off,x,rfl,hbl,hx,e0,e1,e2,e3,e4⟩:=Nn (HS.o.mono Bp HB.o) hlt
  have HX:AI ((l.map (·.name))[k]? =some x.name):=by show _=_;rw [Bb,hx];rfl
  clear hx;obtain ⟨t,ht⟩:=BP ((Br (l.map (·.name)) k).2);have HT:=AA ht;rw [ht];clear ht;go_wp2_with fail;have hmz:MapAt Gf Gj (wr.alloc (AO #[AL x.name,AL x.An,AE AF x.factor,AE AF x.base,AE AF x.scale] 201)) w.heap.size (Br (l.map (·.name)) k).1:=HM.o.grown (EQ _ _ none) AX;have hbz:AK w (wr.alloc (AO #[AL x.name,AL x.An,AE AF x.factor,AE AF x.base,AE AF x.scale] 201)):=HB.o.alloc HB.o.size _;have hblk:AZ (wr.alloc (AO #[AL x.name,AL x.An,AE AF x.factor,AE AF x.base,AE AF x.scale] 201)) wr.heap.size 201 #[AL x.name,AL x.An,AE AF x.factor,AE AF x.base,AE AF x.scale]:=AZ.new _ _ _;generalize wr.alloc (AO #[AL x.name,AL x.An,AE AF x.factor,AE AF x.base,AE AF x.scale] 201)=wz at hmz hbz hblk ⊢;refine (Wk x _).mono ?_;rintro e w' ⟨rfl,rfl⟩;have hmw:MapAt Gf Gj (wz.alloc (AO #[AL x.name,AL x.An,AE AF x.factor,AE AF x.base,AE AF x.scale] 201)) w.heap.size (Br (l.map (·.name)) k).1:=hmz.grown (EQ _ _ none) AX;have hbw:AK w (wz.alloc (AO #[AL x.name,AL x.An,AE AF x.factor,AE AF x.base,AE AF x.scale] 201)):=hbz.alloc hbz.size _;have hbk:=hblk.alloc (AO #[AL x.name,AL x.An,AE AF x.factor,AE AF x.base,AE AF x.scale] 201);generalize wz.alloc (AO #[AL x.name,AL x.An,AE AF x.factor,AE AF x.base,AE AF x.scale] 201)=w1 at hmw hbw hbk ⊢;have d0:=hbk.cell 0;have d1:=hbk.cell 1;have d2:=hbk.cell 2;have d3:=hbk.cell 3;have d4:=hbk.cell 4;have lb:=hbk.lt;simp only [Ak,Al,Az] at d0 d1 d2 d3 d4;clear hmz hbz hblk hbk e0 e1 e2 e3 e4 hbl;have hlook:=C8 (DB underlying9) underlying268 (z:=AE AF 0) AJ hmw x.name true;have Mh:=AA hmw;have CO:=AA hbw;clear hmw hbw HM HB;cases hgt:getM (Br (l.map (·.name)) k).1 x.name with
  |
   some v=>
   rw [hgt] at hlook;simp only [C5,Cl,Cc,Fh] at hlook;have LK:=AA hgt;clear hgt;go_wp2_with fail;go_roundg (n - (k+1))
   case measure=>exact EF
   case rel=>
    have he:Br (l.map (·.name)) (k+1)=((Br (l.map (·.name)) k).1,true):=by rw [GQ HX.o,MZ LK.o]
    exact ⟨k+1,by omega,rfl,by go_num,by rw [he],by rw [he];exact Mh.o,CO.o⟩
  |
   none=>
   rw [hgt] at hlook;simp only [C5,JJ,Jj,Gv] at hlook;have LK:=AA hgt;clear hgt;go_wp2_with fail;refine (Wk x _).mono ?_;rintro e w' ⟨rfl,rfl⟩;have LY:MapAt Gf Gj (w1.alloc (AO #[AL x.name,AL x.An,AE AF x.factor,AE AF x.base,AE AF x.scale] 201)) w.heap.size (Br (l.map (·.name)) k).1:=Mh.o.grown (EQ _ _ none) AX;have hbw2:AK w (w1.alloc (AO #[AL x.name,AL x.An,AE AF x.factor,AE AF x.base,AE AF x.scale] 201)):=CO.o.alloc CO.o.size _;generalize w1.alloc (AO #[AL x.name,AL x.An,AE AF x.factor,AE AF x.base,AE AF x.scale] 201)=w2 at LY hbw2 ⊢;obtain ⟨w3,hrun3,Dm,hg3⟩:=FB (DB underlying9) underlying268 LY x.name (k:Int);have HB3:=AA (hbw2.grown hg3 hbw2.size (fun r e=>by cases e;exact Ac _));clear LY hbw2;have G9:=AA Dm;clear Dm hg3 hlook;go_wp2_with fail;go_roundg (n - (k+1))
   case measure=>exact EF
   have he:Br (l.map (·.name)) (k+1)=(Hb (Br (l.map (·.name)) k).1 x.name (k:Int),(Br (l.map (·.name)) k).2):=by rw [GQ HX.o,Nv LK.o]
   exact UB
 have HE:AI (Br (l.map (·.name)) k=col (l.map (·.name))):=by show _=_;have:=HN.o;rw [col,show k=(l.map (·.name)).length by first | omega | (simp;omega)]
 exact UG
theorem ZE (A:Option Aa) (n c:Nat) (l:List BL) (w:AH) (hs:Ag 6 BU w (AB A n c) l):
 AS prog 201 #[AB A n c,.func (.func 202) #[] #[]] w (U7 (l.map (·.name)) w):=by
 have hn2:n<=9223372036854775807:=by have:=hs.le;omega
 have HN:=AA hs.len;have HS:=AA hs;clear hs;have hmm:=Ku;go_enter func201,ntmps201;go_wp2_with fail;clear hmm;have hm0:MapAt Gf Gj (w.alloc (.map #[] 0)) w.heap.size (Br (l.map (·.name)) 0).1:=MapAt.new _ _ w;have hb0:AK w (w.alloc (.map #[] 0)):=(Ae _ _).alloc (Ac _) _;have MC:=AA hm0;have HB0:=AA hb0;clear hm0 hb0;go_loopg [5,15] n (fun g t i wr=>∃k:Nat,k<=n/\g=n - k/\i=AE AF k/\t=Ab (Br (l.map (·.name)) k).2/\MapAt Gf Gj wr w.heap.size (Br (l.map (·.name)) k).1/\AK w wr)
 case atStart=>exact T0
 clear MC HB0;obtain ⟨k,hk,hg,rfl,rfl,hm,hb⟩:=hrel;have HG:=AA hg;have HM:=AA hm;have HB:=AA hb;clear hg hm hb;by_cases hlt:k < n
 ·obtain ⟨b,off,x,A1,n1,c1,A2,n2,c2,rfl,hbl,hx,e0,e1,e2,e3,e4,e5,_,_⟩:=Fx (HS.o.mono BM HB.o) hlt
  have HX:AI ((l.map (·.name))[k]? =some x.name):=by show _=_;rw [Bb,hx];rfl
  clear hx;obtain ⟨t,ht⟩:=BP ((Br (l.map (·.name)) k).2);have HT:=AA ht;rw [ht];clear ht;go_wp2_with fail;have hmz:MapAt Gf Gj (wr.alloc (AO #[AL x.name,AL x.FD,AE AF x.Ar,AE AF x.version,AB A1 n1 c1,AB A2 n2 c2] 85)) w.heap.size (Br (l.map (·.name)) k).1:=HM.o.grown (EQ _ _ none) AX;have hbz:AK w (wr.alloc (AO #[AL x.name,AL x.FD,AE AF x.Ar,AE AF x.version,AB A1 n1 c1,AB A2 n2 c2] 85)):=HB.o.alloc HB.o.size _;have hblk:AZ (wr.alloc (AO #[AL x.name,AL x.FD,AE AF x.Ar,AE AF x.version,AB A1 n1 c1,AB A2 n2 c2] 85)) wr.heap.size 85 #[AL x.name,AL x.FD,AE AF x.Ar,AE AF x.version,AB A1 n1 c1,AB A2 n2 c2]:=AZ.new _ _ _;generalize wr.alloc (AO #[AL x.name,AL x.FD,AE AF x.Ar,AE AF x.version,AB A1 n1 c1,AB A2 n2 c2] 85)=wz at hmz hbz hblk ⊢;refine (Uf _ _ _ _ _ _ x _).mono ?_;rintro e w' ⟨rfl,rfl⟩;have hmw:MapAt Gf Gj (wz.alloc (AO #[AL x.name,AL x.FD,AE AF x.Ar,AE AF x.version,AB A1 n1 c1,AB A2 n2 c2] 85)) w.heap.size (Br (l.map (·.name)) k).1:=hmz.grown (EQ _ _ none) AX;have hbw:AK w (wz.alloc (AO #[AL x.name,AL x.FD,AE AF x.Ar,AE AF x.version,AB A1 n1 c1,AB A2 n2 c2] 85)):=hbz.alloc hbz.size _;have hbk:=hblk.alloc (AO #[AL x.name,AL x.FD,AE AF x.Ar,AE AF x.version,AB A1 n1 c1,AB A2 n2 c2] 85);generalize wz.alloc (AO #[AL x.name,AL x.FD,AE AF x.Ar,AE AF x.version,AB A1 n1 c1,AB A2 n2 c2] 85)=w1 at hmw hbw hbk ⊢;have d0:=hbk.cell 0;have d1:=hbk.cell 1;have d2:=hbk.cell 2;have d3:=hbk.cell 3;have d4:=hbk.cell 4;have d5:=hbk.cell 5;have lb:=hbk.lt;simp only [Ak,Al,Az] at d0 d1 d2 d3 d4 d5;clear hmz hbz hblk hbk e0 e1 e2 e3 e4 e5 hbl;have hlook:=C8 (DB underlying9) underlying268 (z:=AE AF 0) AJ hmw x.name true;have Mh:=AA hmw;have CO:=AA hbw;clear hmw hbw HM HB;cases hgt:getM (Br (l.map (·.name)) k).1 x.name with
  |
   some v=>
   rw [hgt] at hlook;simp only [C5,Cl,Cc,Fh] at hlook;have LK:=AA hgt;clear hgt;go_wp2_with fail;go_roundg (n - (k+1))
   case measure=>exact EF
   case rel=>
    have he:Br (l.map (·.name)) (k+1)=((Br (l.map (·.name)) k).1,true):=by rw [GQ HX.o,MZ LK.o]
    exact ⟨k+1,by omega,rfl,by go_num,by rw [he],by rw [he];exact Mh.o,CO.o⟩
  |
   none=>
   rw [hgt] at hlook;simp only [C5,JJ,Jj,Gv] at hlook;have LK:=AA hgt;clear hgt;go_wp2_with fail;refine (Uf _ _ _ _ _ _ x _).mono ?_;rintro e w' ⟨rfl,rfl⟩;have LY:MapAt Gf Gj (w1.alloc (AO #[AL x.name,AL x.FD,AE AF x.Ar,AE AF x.version,AB A1 n1 c1,AB A2 n2 c2] 85)) w.heap.size (Br (l.map (·.name)) k).1:=Mh.o.grown (EQ _ _ none) AX;have hbw2:AK w (w1.alloc (AO #[AL x.name,AL x.FD,AE AF x.Ar,AE AF x.version,AB A1 n1 c1,AB A2 n2 c2] 85)):=CO.o.alloc CO.o.size _;generalize w1.alloc (AO #[AL x.name,AL x.FD,AE AF x.Ar,AE AF x.version,AB A1 n1 c1,AB A2 n2 c2] 85)=w2 at LY hbw2 ⊢;obtain ⟨w3,hrun3,Dm,hg3⟩:=FB (DB underlying9) underlying268 LY x.name (k:Int);have HB3:=AA (hbw2.grown hg3 hbw2.size (fun r e=>by cases e;exact Ac _));clear LY hbw2;have G9:=AA Dm;clear Dm hg3 hlook;go_wp2_with fail;go_roundg (n - (k+1))
   case measure=>exact EF
   have he:Br (l.map (·.name)) (k+1)=(Hb (Br (l.map (·.name)) k).1 x.name (k:Int),(Br (l.map (·.name)) k).2):=by rw [GQ HX.o,Nv LK.o]
   exact UB
 have HE:AI (Br (l.map (·.name)) k=col (l.map (·.name))):=by show _=_;have:=HN.o;rw [col,show k=(l.map (·.name)).length by first | omega | (simp;omega)]
 exact UG
theorem Xl (A:Option Aa) (n c:Nat) (l:List Cd) (w:AH) (hs:Ag 3 BW w (AB A n c) l):
 AS prog 203 #[AB A n c,.func (.func 204) #[] #[]] w (U7 (l.map (·.name)) w):=by
 have hn2:n<=9223372036854775807:=by have:=hs.le;omega
 have HN:=AA hs.len;have HS:=AA hs;clear hs;have hmm:=Ku;go_enter func203,ntmps203;go_wp2_with fail;clear hmm;have hm0:MapAt Gf Gj (w.alloc (.map #[] 0)) w.heap.size (Br (l.map (·.name)) 0).1:=MapAt.new _ _ w;have hb0:AK w (w.alloc (.map #[] 0)):=(Ae _ _).alloc (Ac _) _;have MC:=AA hm0;have HB0:=AA hb0;clear hm0 hb0;go_loopg [5,15] n (fun g t i wr=>∃k:Nat,k<=n/\g=n - k/\i=AE AF k/\t=Ab (Br (l.map (·.name)) k).2/\MapAt Gf Gj wr w.heap.size (Br (l.map (·.name)) k).1/\AK w wr)
 case atStart=>exact T0
 clear MC HB0;obtain ⟨k,hk,hg,rfl,rfl,hm,hb⟩:=hrel;have HG:=AA hg;have HM:=AA hm;have HB:=AA hb;clear hg hm hb;by_cases hlt:k < n
 ·obtain ⟨b,off,x,A1,n1,c1,rfl,hbl,hx,e0,e1,e2,_⟩:=Lw (HS.o.mono BO HB.o) hlt
  have HX:AI ((l.map (·.name))[k]? =some x.name):=by show _=_;rw [Bb,hx];rfl
  clear hx;obtain ⟨t,ht⟩:=BP ((Br (l.map (·.name)) k).2);have HT:=AA ht;rw [ht];clear ht;go_wp2_with fail;have hmz:MapAt Gf Gj (wr.alloc (AO #[AL x.name,AB A1 n1 c1,AE AF x.most] 166)) w.heap.size (Br (l.map (·.name)) k).1:=HM.o.grown (EQ _ _ none) AX;have hbz:AK w (wr.alloc (AO #[AL x.name,AB A1 n1 c1,AE AF x.most] 166)):=HB.o.alloc HB.o.size _;have hblk:AZ (wr.alloc (AO #[AL x.name,AB A1 n1 c1,AE AF x.most] 166)) wr.heap.size 166 #[AL x.name,AB A1 n1 c1,AE AF x.most]:=AZ.new _ _ _;generalize wr.alloc (AO #[AL x.name,AB A1 n1 c1,AE AF x.most] 166)=wz at hmz hbz hblk ⊢;refine (Sg _ _ _ x _).mono ?_;rintro e w' ⟨rfl,rfl⟩;have hmw:MapAt Gf Gj (wz.alloc (AO #[AL x.name,AB A1 n1 c1,AE AF x.most] 166)) w.heap.size (Br (l.map (·.name)) k).1:=hmz.grown (EQ _ _ none) AX;have hbw:AK w (wz.alloc (AO #[AL x.name,AB A1 n1 c1,AE AF x.most] 166)):=hbz.alloc hbz.size _;have hbk:=hblk.alloc (AO #[AL x.name,AB A1 n1 c1,AE AF x.most] 166);generalize wz.alloc (AO #[AL x.name,AB A1 n1 c1,AE AF x.most] 166)=w1 at hmw hbw hbk ⊢;have d0:=hbk.cell 0;have d1:=hbk.cell 1;have d2:=hbk.cell 2;have lb:=hbk.lt;simp only [Ak,Al,Az] at d0 d1 d2;clear hmz hbz hblk hbk e0 e1 e2 hbl;have hlook:=C8 (DB underlying9) underlying268 (z:=AE AF 0) AJ hmw x.name true;have Mh:=AA hmw;have CO:=AA hbw;clear hmw hbw HM HB;cases hgt:getM (Br (l.map (·.name)) k).1 x.name with
  |
   some v=>
   rw [hgt] at hlook;simp only [C5,Cl,Cc,Fh] at hlook;have LK:=AA hgt;clear hgt;go_wp2_with fail;go_roundg (n - (k+1))
   case measure=>exact EF
   case rel=>
    have he:Br (l.map (·.name)) (k+1)=((Br (l.map (·.name)) k).1,true):=by rw [GQ HX.o,MZ LK.o]
    exact ⟨k+1,by omega,rfl,by go_num,by rw [he],by rw [he];exact Mh.o,CO.o⟩
  |
   none=>
   rw [hgt] at hlook;simp only [C5,JJ,Jj,Gv] at hlook;have LK:=AA hgt;clear hgt;go_wp2_with fail;refine (Sg _ _ _ x _).mono ?_;rintro e w' ⟨rfl,rfl⟩;have LY:MapAt Gf Gj (w1.alloc (AO #[AL x.name,AB A1 n1 c1,AE AF x.most] 166)) w.heap.size (Br (l.map (·.name)) k).1:=Mh.o.grown (EQ _ _ none) AX;have hbw2:AK w (w1.alloc (AO #[AL x.name,AB A1 n1 c1,AE AF x.most] 166)):=CO.o.alloc CO.o.size _;generalize w1.alloc (AO #[AL x.name,AB A1 n1 c1,AE AF x.most] 166)=w2 at LY hbw2 ⊢;obtain ⟨w3,hrun3,Dm,hg3⟩:=FB (DB underlying9) underlying268 LY x.name (k:Int);have HB3:=AA (hbw2.grown hg3 hbw2.size (fun r e=>by cases e;exact Ac _));clear LY hbw2;have G9:=AA Dm;clear Dm hg3 hlook;go_wp2_with fail;go_roundg (n - (k+1))
   case measure=>exact EF
   have he:Br (l.map (·.name)) (k+1)=(Hb (Br (l.map (·.name)) k).1 x.name (k:Int),(Br (l.map (·.name)) k).2):=by rw [GQ HX.o,Nv LK.o]
   exact UB
 have HE:AI (Br (l.map (·.name)) k=col (l.map (·.name))):=by show _=_;have:=HN.o;rw [col,show k=(l.map (·.name)).length by first | omega | (simp;omega)]
 exact UG
theorem ak (A:Option Aa) (n c:Nat) (l:List GT) (w:AH) (hs:Ag 11 EU w (AB A n c) l):
 AS prog 205 #[AB A n c,.func (.func 206) #[] #[]] w (U7 (l.map (·.name)) w):=by
 have hn2:n<=9223372036854775807:=by have:=hs.le;omega
 have HN:=AA hs.len;have HS:=AA hs;clear hs;have hmm:=Ku;go_enter func205,ntmps205;go_wp2_with fail;clear hmm;have hm0:MapAt Gf Gj (w.alloc (.map #[] 0)) w.heap.size (Br (l.map (·.name)) 0).1:=MapAt.new _ _ w;have hb0:AK w (w.alloc (.map #[] 0)):=(Ae _ _).alloc (Ac _) _;have MC:=AA hm0;have HB0:=AA hb0;clear hm0 hb0;go_loopg [5,15] n (fun g t i wr=>∃k:Nat,k<=n/\g=n - k/\i=AE AF k/\t=Ab (Br (l.map (·.name)) k).2/\MapAt Gf Gj wr w.heap.size (Br (l.map (·.name)) k).1/\AK w wr)
 case atStart=>exact T0
 clear MC HB0;obtain ⟨k,hk,hg,rfl,rfl,hm,hb⟩:=hrel;have HG:=AA hg;have HM:=AA hm;have HB:=AA hb;clear hg hm hb;by_cases hlt:k < n
 ·obtain ⟨b,off,x,A1,n1,c1,rfl,hbl,hx,e0,e1,e2,e3,e4,e5,e6,e7,e8,e9,e10,_⟩:=IQ (HS.o.mono Cy HB.o) hlt
  have HX:AI ((l.map (·.name))[k]? =some x.name):=by show _=_;rw [Bb,hx];rfl
  clear hx;obtain ⟨t,ht⟩:=BP ((Br (l.map (·.name)) k).2);have HT:=AA ht;rw [ht];clear ht;go_wp2_with fail;have hmz:MapAt Gf Gj (wr.alloc (AO #[AL x.name,AE AF x.type.kind,AE AF x.type.lo,AE AF x.type.hi,AL x.type.An,AE AF x.type.unit,AB A1 n1 c1,AE AF x.w0,AE AF x.w1,AE AF x.w2,AE AF x.w3] 112)) w.heap.size (Br (l.map (·.name)) k).1:=HM.o.grown (EQ _ _ none) AX;have hbz:AK w (wr.alloc (AO #[AL x.name,AE AF x.type.kind,AE AF x.type.lo,AE AF x.type.hi,AL x.type.An,AE AF x.type.unit,AB A1 n1 c1,AE AF x.w0,AE AF x.w1,AE AF x.w2,AE AF x.w3] 112)):=HB.o.alloc HB.o.size _;have hblk:AZ (wr.alloc (AO #[AL x.name,AE AF x.type.kind,AE AF x.type.lo,AE AF x.type.hi,AL x.type.An,AE AF x.type.unit,AB A1 n1 c1,AE AF x.w0,AE AF x.w1,AE AF x.w2,AE AF x.w3] 112)) wr.heap.size 112 #[AL x.name,AE AF x.type.kind,AE AF x.type.lo,AE AF x.type.hi,AL x.type.An,AE AF x.type.unit,AB A1 n1 c1,AE AF x.w0,AE AF x.w1,AE AF x.w2,AE AF x.w3]:=AZ.new _ _ _;generalize wr.alloc (AO #[AL x.name,AE AF x.type.kind,AE AF x.type.lo,AE AF x.type.hi,AL x.type.An,AE AF x.type.unit,AB A1 n1 c1,AE AF x.w0,AE AF x.w1,AE AF x.w2,AE AF x.w3] 112)=wz at hmz hbz hblk ⊢;refine (WJ _ _ _ x _).mono ?_;rintro e w' ⟨rfl,rfl⟩;have hmw:MapAt Gf Gj (wz.alloc (AO #[AL x.name,AE AF x.type.kind,AE AF x.type.lo,AE AF x.type.hi,AL x.type.An,AE AF x.type.unit,AB A1 n1 c1,AE AF x.w0,AE AF x.w1,AE AF x.w2,AE AF x.w3] 112)) w.heap.size (Br (l.map (·.name)) k).1:=hmz.grown (EQ _ _ none) AX;have hbw:AK w (wz.alloc (AO #[AL x.name,AE AF x.type.kind,AE AF x.type.lo,AE AF x.type.hi,AL x.type.An,AE AF x.type.unit,AB A1 n1 c1,AE AF x.w0,AE AF x.w1,AE AF x.w2,AE AF x.w3] 112)):=hbz.alloc hbz.size _;have hbk:=hblk.alloc (AO #[AL x.name,AE AF x.type.kind,AE AF x.type.lo,AE AF x.type.hi,AL x.type.An,AE AF x.type.unit,AB A1 n1 c1,AE AF x.w0,AE AF x.w1,AE AF x.w2,AE AF x.w3] 112);generalize wz.alloc (AO #[AL x.name,AE AF x.type.kind,AE AF x.type.lo,AE AF x.type.hi,AL x.type.An,AE AF x.type.unit,AB A1 n1 c1,AE AF x.w0,AE AF x.w1,AE AF x.w2,AE AF x.w3] 112)=w1 at hmw hbw hbk ⊢;have d0:=hbk.cell 0;have d1:=hbk.cell 1;have d2:=hbk.cell 2;have d3:=hbk.cell 3;have d4:=hbk.cell 4;have d5:=hbk.cell 5;have d6:=hbk.cell 6;have d7:=hbk.cell 7;have d8:=hbk.cell 8;have d9:=hbk.cell 9;have d10:=hbk.cell 10;have lb:=hbk.lt;simp only [Ak,Al,Az] at d0 d1 d2 d3 d4 d5 d6 d7 d8 d9 d10;clear hmz hbz hblk hbk e0 e1 e2 e3 e4 e5 e6 e7 e8 e9 e10 hbl;have hlook:=C8 (DB underlying9) underlying268 (z:=AE AF 0) AJ hmw x.name true;have Mh:=AA hmw;have CO:=AA hbw;clear hmw hbw HM HB;cases hgt:getM (Br (l.map (·.name)) k).1 x.name with
  |
   some v=>
   rw [hgt] at hlook;simp only [C5,Cl,Cc,Fh] at hlook;have LK:=AA hgt;clear hgt;go_wp2_with fail;go_roundg (n - (k+1))
   case measure=>exact EF
   case rel=>
    have he:Br (l.map (·.name)) (k+1)=((Br (l.map (·.name)) k).1,true):=by rw [GQ HX.o,MZ LK.o]
    exact ⟨k+1,by omega,rfl,by go_num,by rw [he],by rw [he];exact Mh.o,CO.o⟩
  |
   none=>
   rw [hgt] at hlook;simp only [C5,JJ,Jj,Gv] at hlook;have LK:=AA hgt;clear hgt;go_wp2_with fail;refine (WJ _ _ _ x _).mono ?_;rintro e w' ⟨rfl,rfl⟩;have LY:MapAt Gf Gj (w1.alloc (AO #[AL x.name,AE AF x.type.kind,AE AF x.type.lo,AE AF x.type.hi,AL x.type.An,AE AF x.type.unit,AB A1 n1 c1,AE AF x.w0,AE AF x.w1,AE AF x.w2,AE AF x.w3] 112)) w.heap.size (Br (l.map (·.name)) k).1:=Mh.o.grown (EQ _ _ none) AX;have hbw2:AK w (w1.alloc (AO #[AL x.name,AE AF x.type.kind,AE AF x.type.lo,AE AF x.type.hi,AL x.type.An,AE AF x.type.unit,AB A1 n1 c1,AE AF x.w0,AE AF x.w1,AE AF x.w2,AE AF x.w3] 112)):=CO.o.alloc CO.o.size _;generalize w1.alloc (AO #[AL x.name,AE AF x.type.kind,AE AF x.type.lo,AE AF x.type.hi,AL x.type.An,AE AF x.type.unit,AB A1 n1 c1,AE AF x.w0,AE AF x.w1,AE AF x.w2,AE AF x.w3] 112)=w2 at LY hbw2 ⊢;obtain ⟨w3,hrun3,Dm,hg3⟩:=FB (DB underlying9) underlying268 LY x.name (k:Int);have HB3:=AA (hbw2.grown hg3 hbw2.size (fun r e=>by cases e;exact Ac _));clear LY hbw2;have G9:=AA Dm;clear Dm hg3 hlook;go_wp2_with fail;go_roundg (n - (k+1))
   case measure=>exact EF
   have he:Br (l.map (·.name)) (k+1)=(Hb (Br (l.map (·.name)) k).1 x.name (k:Int),(Br (l.map (·.name)) k).2):=by rw [GQ HX.o,Nv LK.o]
   exact UB
 have HE:AI (Br (l.map (·.name)) k=col (l.map (·.name))):=by show _=_;have:=HN.o;rw [col,show k=(l.map (·.name)).length by first | omega | (simp;omega)]
 exact UG
theorem dP (A:Option Aa) (n c:Nat) (l:List B0) (w:AH) (hs:Ag 8 DH w (AB A n c) l):
 AS prog 207 #[AB A n c,.func (.func 208) #[] #[]] w (U7 (l.map (·.name)) w):=by
 have hn2:n<=9223372036854775807:=by have:=hs.le;omega
 have HN:=AA hs.len;have HS:=AA hs;clear hs;have hmm:=Ku;go_enter func207,ntmps207;go_wp2_with fail;clear hmm;have hm0:MapAt Gf Gj (w.alloc (.map #[] 0)) w.heap.size (Br (l.map (·.name)) 0).1:=MapAt.new _ _ w;have hb0:AK w (w.alloc (.map #[] 0)):=(Ae _ _).alloc (Ac _) _;have MC:=AA hm0;have HB0:=AA hb0;clear hm0 hb0;go_loopg [5,15] n (fun g t i wr=>∃k:Nat,k<=n/\g=n - k/\i=AE AF k/\t=Ab (Br (l.map (·.name)) k).2/\MapAt Gf Gj wr w.heap.size (Br (l.map (·.name)) k).1/\AK w wr)
 case atStart=>exact T0
 clear MC HB0;obtain ⟨k,hk,hg,rfl,rfl,hm,hb⟩:=hrel;have HG:=AA hg;have HM:=AA hm;have HB:=AA hb;clear hg hm hb;by_cases hlt:k < n
 ·obtain ⟨b,off,x,rfl,hbl,hx,e0,e1,e2,e3,e4,e5,e6,e7⟩:=Np (HS.o.mono Dp HB.o) hlt
  have HX:AI ((l.map (·.name))[k]? =some x.name):=by show _=_;rw [Bb,hx];rfl
  clear hx;obtain ⟨t,ht⟩:=BP ((Br (l.map (·.name)) k).2);have HT:=AA ht;rw [ht];clear ht;go_wp2_with fail;have hmz:MapAt Gf Gj (wr.alloc (AO #[AL x.name,AL x.kind,AE AF x.schema,AL x.An.name,AL x.An.path,AE AF x.An.var,AE AF x.An.field,AE AF x.An.n] 298)) w.heap.size (Br (l.map (·.name)) k).1:=HM.o.grown (EQ _ _ none) AX;have hbz:AK w (wr.alloc (AO #[AL x.name,AL x.kind,AE AF x.schema,AL x.An.name,AL x.An.path,AE AF x.An.var,AE AF x.An.field,AE AF x.An.n] 298)):=HB.o.alloc HB.o.size _;have hblk:AZ (wr.alloc (AO #[AL x.name,AL x.kind,AE AF x.schema,AL x.An.name,AL x.An.path,AE AF x.An.var,AE AF x.An.field,AE AF x.An.n] 298)) wr.heap.size 298 #[AL x.name,AL x.kind,AE AF x.schema,AL x.An.name,AL x.An.path,AE AF x.An.var,AE AF x.An.field,AE AF x.An.n]:=AZ.new _ _ _;generalize wr.alloc (AO #[AL x.name,AL x.kind,AE AF x.schema,AL x.An.name,AL x.An.path,AE AF x.An.var,AE AF x.An.field,AE AF x.An.n] 298)=wz at hmz hbz hblk ⊢;refine (Xb x _).mono ?_;rintro e w' ⟨rfl,rfl⟩;have hmw:MapAt Gf Gj (wz.alloc (AO #[AL x.name,AL x.kind,AE AF x.schema,AL x.An.name,AL x.An.path,AE AF x.An.var,AE AF x.An.field,AE AF x.An.n] 298)) w.heap.size (Br (l.map (·.name)) k).1:=hmz.grown (EQ _ _ none) AX;have hbw:AK w (wz.alloc (AO #[AL x.name,AL x.kind,AE AF x.schema,AL x.An.name,AL x.An.path,AE AF x.An.var,AE AF x.An.field,AE AF x.An.n] 298)):=hbz.alloc hbz.size _;have hbk:=hblk.alloc (AO #[AL x.name,AL x.kind,AE AF x.schema,AL x.An.name,AL x.An.path,AE AF x.An.var,AE AF x.An.field,AE AF x.An.n] 298);generalize wz.alloc (AO #[AL x.name,AL x.kind,AE AF x.schema,AL x.An.name,AL x.An.path,AE AF x.An.var,AE AF x.An.field,AE AF x.An.n] 298)=w1 at hmw hbw hbk ⊢;have d0:=hbk.cell 0;have d1:=hbk.cell 1;have d2:=hbk.cell 2;have d3:=hbk.cell 3;have d4:=hbk.cell 4;have d5:=hbk.cell 5;have d6:=hbk.cell 6;have d7:=hbk.cell 7;have lb:=hbk.lt;simp only [Ak,Al,Az] at d0 d1 d2 d3 d4 d5 d6 d7;clear hmz hbz hblk hbk e0 e1 e2 e3 e4 e5 e6 e7 hbl;have hlook:=C8 (DB underlying9) underlying268 (z:=AE AF 0) AJ hmw x.name true;have Mh:=AA hmw;have CO:=AA hbw;clear hmw hbw HM HB;cases hgt:getM (Br (l.map (·.name)) k).1 x.name with
  |
   some v=>
   rw [hgt] at hlook;simp only [C5,Cl,Cc,Fh] at hlook;have LK:=AA hgt;clear hgt;go_wp2_with fail;go_roundg (n - (k+1))
   case measure=>exact EF
   case rel=>
    have he:Br (l.map (·.name)) (k+1)=((Br (l.map (·.name)) k).1,true):=by rw [GQ HX.o,MZ LK.o]
    exact ⟨k+1,by omega,rfl,by go_num,by rw [he],by rw [he];exact Mh.o,CO.o⟩
  |
   none=>
   rw [hgt] at hlook;simp only [C5,JJ,Jj,Gv] at hlook;have LK:=AA hgt;clear hgt;go_wp2_with fail;refine (Xb x _).mono ?_;rintro e w' ⟨rfl,rfl⟩;have LY:MapAt Gf Gj (w1.alloc (AO #[AL x.name,AL x.kind,AE AF x.schema,AL x.An.name,AL x.An.path,AE AF x.An.var,AE AF x.An.field,AE AF x.An.n] 298)) w.heap.size (Br (l.map (·.name)) k).1:=Mh.o.grown (EQ _ _ none) AX;have hbw2:AK w (w1.alloc (AO #[AL x.name,AL x.kind,AE AF x.schema,AL x.An.name,AL x.An.path,AE AF x.An.var,AE AF x.An.field,AE AF x.An.n] 298)):=CO.o.alloc CO.o.size _;generalize w1.alloc (AO #[AL x.name,AL x.kind,AE AF x.schema,AL x.An.name,AL x.An.path,AE AF x.An.var,AE AF x.An.field,AE AF x.An.n] 298)=w2 at LY hbw2 ⊢;obtain ⟨w3,hrun3,Dm,hg3⟩:=FB (DB underlying9) underlying268 LY x.name (k:Int);have HB3:=AA (hbw2.grown hg3 hbw2.size (fun r e=>by cases e;exact Ac _));clear LY hbw2;have G9:=AA Dm;clear Dm hg3 hlook;go_wp2_with fail;go_roundg (n - (k+1))
   case measure=>exact EF
   have he:Br (l.map (·.name)) (k+1)=(Hb (Br (l.map (·.name)) k).1 x.name (k:Int),(Br (l.map (·.name)) k).2):=by rw [GQ HX.o,Nv LK.o]
   exact UB
 have HE:AI (Br (l.map (·.name)) k=col (l.map (·.name))):=by show _=_;have:=HN.o;rw [col,show k=(l.map (·.name)).length by first | omega | (simp;omega)]
 exact UG
structure NL (w:AH) (sc:Array AN) (v1 v2 v3 v4:AN) (W:AH):Prop where
 old:AK w W
 bs:AZ W w.heap.size 29 sc
 br:AZ W (w.heap.size+1) 271 #[v1,v2,v3,v4]
section
variable {w:AH} {sc:Array AN} {v1 v2 v3 v4:AN} {W W':AH}
theorem NL.below (h:NL w sc v1 v2 v3 v4 W) (hb:AK W W'):NL w sc v1 v2 v3 v4 W':=
 ⟨AV h.old hb,h.bs.below hb h.bs.lt,h.br.below hb h.br.lt⟩
theorem NL.AHL (h:NL w sc v1 v2 v3 v4 W) (x:AN):NL w sc x v2 v3 v4 (W.setCell ⟨w.heap.size+1,0,none⟩ x):=⟨h.old.setCell AX _,h.bs.far AX _,h.br.put 0 x⟩
theorem NL.AHK (h:NL w sc v1 v2 v3 v4 W) (x:AN):NL w sc v1 x v3 v4 (W.setCell ⟨w.heap.size+1,1,none⟩ x):=⟨h.old.setCell AX _,h.bs.far AX _,h.br.put 1 x⟩
theorem NL.AHJ (h:NL w sc v1 v2 v3 v4 W) (x:AN):NL w sc v1 v2 x v4 (W.setCell ⟨w.heap.size+1,2,none⟩ x):=⟨h.old.setCell AX _,h.bs.far AX _,h.br.put 2 x⟩
theorem NL.AHI (h:NL w sc v1 v2 v3 v4 W) (x:AN):NL w sc v1 v2 v3 x (W.setCell ⟨w.heap.size+1,3,none⟩ x):=⟨h.old.setCell AX _,h.bs.far AX _,h.br.put 3 x⟩
theorem NL.grown {row:Option Nat} (h:NL w sc v1 v2 v3 v4 W) (hg:W.grownBy W' row) (hr:∀r,row=some r->w.heap.size+2<=r):NL w sc v1 v2 v3 v4 W':=
 ⟨h.old.grown hg h.old.size (fun k e=>by have:=hr k e;omega),h.bs.grown hg (fun e=>by have:=hr _ e.symm;omega),h.br.grown hg (fun e=>by have:=hr _ e.symm;omega)⟩
theorem NL.cells {s0 s1 s2 s3 s4 s5:AN} (h:NL w #[s0,s1,s2,s3,s4,s5] v1 v2 v3 v4 W):
 W.cell? ⟨w.heap.size,0,none⟩=some s0/\W.cell? ⟨w.heap.size,1,none⟩=some s1/\W.cell? ⟨w.heap.size,2,none⟩=some s2/\W.cell? ⟨w.heap.size,3,none⟩=some s3/\W.cell? ⟨w.heap.size,4,none⟩=some s4/\W.cell? ⟨w.heap.size,5,none⟩=some s5/\
 W.cell? ⟨w.heap.size+1,0,none⟩=some v1/\W.cell? ⟨w.heap.size+1,1,none⟩=some v2/\W.cell? ⟨w.heap.size+1,2,none⟩=some v3/\W.cell? ⟨w.heap.size+1,3,none⟩=some v4/\
 W.frozen? ⟨w.heap.size+1,0,none⟩=false/\W.frozen? ⟨w.heap.size+1,1,none⟩=false/\W.frozen? ⟨w.heap.size+1,2,none⟩=false/\W.frozen? ⟨w.heap.size+1,3,none⟩=false/\w.heap.size+1 < W.heap.size:=
 ⟨h.bs.cell 0,h.bs.cell 1,h.bs.cell 2,h.bs.cell 3,h.bs.cell 4,h.bs.cell 5,h.br.cell 0,h.br.cell 1,h.br.cell 2,h.br.cell 3,h.br.frozen 0,h.br.frozen 1,h.br.frozen 2,h.br.frozen 3,h.br.lt⟩
theorem ACZ (w:AH) (sc:Array AN):NL w sc (.map none) (.map none) (.map none) (AB none 0 0) ((w.alloc (AO sc 29)).alloc (AO #[.map none,.map none,.map none,AB none 0 0] 271)) where
 old:=(BE _ _).alloc AX _
 bs:=(AZ.new _ _ _).alloc _
 br:=by simpa using AZ.new (w.alloc (AO sc 29)) 271 _
end
theorem AEW:(prog.info? 268).map (fun i=>(i.zero,i.size,i.bytes))=some (some (.map none),1,8):=by kernel_rfl
theorem Z9 {W:AH} {base:Nat} {e:Af} {size:Nat} {v:AN} {n:Nat} {xs:List AN} (h:W.ownsRow base e size v n xs):∃A m c,v=AB A m c:=by
 rcases h.2 with ⟨rfl,_⟩ | ⟨g,cap,cur,rfl,_⟩
 · exact NS
 · exact NS
theorem own_below {w w':AH} {base:Nat} {e:Af} {size:Nat} {v:AN} {n:Nat} {xs:List AN} (h:w.ownsRow base e size v n xs) (hb:AK w w'):w'.ownsRow base e size v n xs:=
 h.kept (row:=none) ⟨hb.os,hb.tape,hb.output,hb.size,fun k hk _=>hb.block k hk⟩ eP
structure ji (w:AH) (sc:Array AN) (b1 b2 b3:Nat) (s:BB) (k:Nat) (v:AN) (W:AH):Prop where
 ga:NL w sc (.map (some b1)) (.map (some b2)) (.map (some b3)) v W
 m1:MapAt Hq Gb W b1 (col s.Bg).1
 m2:MapAt Hq Gb W b2 (col (G7 s)).1
 m3:MapAt Hq Gb W b3 (col (By s)).1
 row:∃cs,W.ownsRow (w.heap.size+2) 268 1 v k cs/\Aq 1 Pw W cs ((s.Ap.take k).map fieldMap)
theorem ji.below {w:AH} {sc:Array AN} {b1 b2 b3:Nat} {s:BB} {k:Nat} {v:AN} {W W':AH} (h:ji w sc b1 b2 b3 s k v W) (hb:AK W W'):ji w sc b1 b2 b3 s k v W':=by obtain ⟨cs,h1,h2⟩:=h.row;exact ⟨h.ga.below hb,h.m1.below hb,h.m2.below hb,h.m3.below hb,cs,own_below h1 hb,h2.mono XM hb⟩
theorem ji.next {w:AH} {sc:Array AN} {b1 b2 b3:Nat} {s:BB} {k:Nat} {v v':AN} {W W2:AH} (h:ji w sc b1 b2 b3 s k v W) {x:BL} (hx:s.Ap[k]? =some x) {g:Nat} (hm:MapAt Hq Gb W g (fieldMap x))
 {cs:List AN} (ho:W.ownsRow (w.heap.size+2) 268 1 v k cs) (hc:Aq 1 Pw W cs ((s.Ap.take k).map fieldMap))
 (ho':W2.ownsRow (w.heap.size+2) 268 1 v' (k+1) (cs++[.map (some g)])) (hg:W.grownBy W2 v.ownBlock):ji w sc b1 b2 b3 s (k+1) v' (W2.setCell ⟨w.heap.size+1,3,none⟩ v'):=by
 have hk1:=CH.own ho hg;have hk:=hk1.trans (CH.put W2 ⟨w.heap.size+1,3,none⟩ v');have hga:=h.ga.grown hg (fun r e=>(ho.lt r e).1);refine ⟨hga.AHI v',h.m1.keeps hk,h.m2.keeps hk,h.m3.keeps hk,cs++[.map (some g)],PX ho' (a:=⟨w.heap.size+1,3,none⟩) (fun e=>by have:=ho'.lt _ e;simp at this) _,?_⟩;rw [take_snoc hx,DE];exact (hc.keeps hk).append (Aq.one rfl ⟨g,rfl,hm.keeps hk⟩)
theorem vg (s:BB) (w:AH)
 (h1:BT 1 16 DQ w (AB A1 n1 c1) s.Bg) (h2:BT 5 56 CD w (AB A2 n2 c2) s.units) (h3:BT 6 96 BU w (AB A3 n3 c3) s.Ap) (h4:BT 5 96 CF w (AB A4 n4 c4) s.rules) (h6:BT 3 48 BW w (AB A6 n6 c6) s.purposes):
 AS prog 151 #[AP #[AB A1 n1 c1,AB A2 n2 c2,AB A3 n3 c3,AB A4 n4 c4,AB A5 n5 c5,AB A6 n6 c6]] w (AAm s w):=by
 have H1:=AA h1.1;have H2:=AA h2.1;have H3:=AA h3;have H4:=AA h4.1;have H6:=AA h6.1;have hn3:n3<=9223372036854775807:=by have:=h3.1.le;omega
 have hn4:n4<=9223372036854775807:=by have:=h4.1.le;omega
 clear h1 h2 h3 h4 h6;go_enter func151,ntmps151;go_wp2_with fail;have hga:=ACZ w #[AB A1 n1 c1,AB A2 n2 c2,AB A3 n3 c3,AB A4 n4 c4,AB A5 n5 c5,AB A6 n6 c6];generalize ((w.alloc (AO #[AB A1 n1 c1,AB A2 n2 c2,AB A3 n3 c3,AB A4 n4 c4,AB A5 n5 c5,AB A6 n6 c6] 29)).alloc (AO #[.map none,.map none,.map none,AB none 0 0] 271))=W0 at hga ⊢;have Ha:=AA hga;clear hga;refine (gN A1 n1 c1 s.Bg _ (H1.o.mono BV Ha.o.old)).mono ?_;rintro e W1 ⟨b1,rfl,hm1,_,hb1⟩;have hga:=Ha.o.below hb1;obtain ⟨k0,k1,k2,k3,k4,k5,r0,r1,r2,r3,f0,f1,f2,f3,lr⟩:=hga.cells;have TG:=AA hga;have Mj:=AA hm1;clear hga hm1 hb1 Ha;go_wp2_with fail;have hga:=TG.o.AHL (.map (some b1));have hm1:=Mj.o.keeps (CH.put W1 ⟨w.heap.size+1,0,none⟩ (.map (some b1)));generalize W1.setCell ⟨w.heap.size+1,0,none⟩ (.map (some b1))=W2 at hga hm1 ⊢;clear k0 k1 k2 k3 k4 k5 r0 r1 r2 r3 f0 f1 f2 f3 lr TG Mj;refine (dO A2 n2 c2 s.units _ (H2.o.mono Bp hga.old)).mono ?_;rintro e W3 ⟨b2,rfl,hm2,_,hb2⟩;have ACB:=hga.below hb2;have Mj:=AA (hm1.below hb2);have Mi:=AA hm2;obtain ⟨k0,k1,k2,k3,k4,k5,r0,r1,r2,r3,f0,f1,f2,f3,lr⟩:=ACB.cells;have TG:=AA ACB;clear hga ACB hm1 hm2 hb2;obtain ⟨t1,ht1⟩:=BP (DP s.Bg);obtain ⟨t2,ht2⟩:=BP (DP (s.units.map (·.name)));rw [ht1,ht2];have HT1:=AA ht1;have HT2:=AA ht2;clear ht1 ht2;go_upto_region 5 with fail;have hga:=TG.o.AHK (.map (some b2));have hkp:=CH.put W3 ⟨w.heap.size+1,1,none⟩ (.map (some b2));generalize W3.setCell ⟨w.heap.size+1,1,none⟩ (.map (some b2))=W4 at hga hkp ⊢;replace Mj:=AA (Mj.o.keeps hkp);replace Mi:=AA (Mi.o.keeps hkp);clear k0 k1 k2 k3 k4 k5 r0 r1 r2 r3 f0 f1 f2 f3 lr TG hkp;have Ha:=AA hga;clear hga;go_cut [3] (fun x3 wx=>x3=Ab (t1 || t2)/\W4=wx)
 case first=>
  cases t1
  all_goals
   go_wp2_with fail
   go_meet
   exact ⟨rfl,rfl⟩
 case rest=>
 obtain ⟨rfl,rfl⟩:=hcut;obtain ⟨k0,k1,k2,k3,k4,k5,r0,r1,r2,r3,f0,f1,f2,f3,lr⟩:=Ha.o.cells;go_wp2_with fail;refine (ZE A3 n3 c3 s.Ap _ (H3.o.1.mono BM Ha.o.old)).mono ?_;rintro e W5 ⟨b3,rfl,Dm,_,hb3⟩;have hga:=Ha.o.below hb3;replace Mj:=AA (Mj.o.below hb3);replace Mi:=AA (Mi.o.below hb3);have G9:=AA Dm;clear k0 k1 k2 k3 k4 k5 r0 r1 r2 r3 f0 f1 f2 f3 lr Dm hb3 Ha;obtain ⟨k0,k1,k2,k3,k4,k5,r0,r1,r2,r3,f0,f1,f2,f3,lr⟩:=hga.cells;have TG:=AA hga;clear hga;obtain ⟨t3,ht3⟩:=BP (DP (s.Ap.map (·.name)));rw [ht3];have HT3:=AA ht3;clear ht3;go_upto_region 7 with fail;have hga:=TG.o.AHJ (.map (some b3));have hkp:=CH.put W5 ⟨w.heap.size+1,2,none⟩ (.map (some b3));generalize W5.setCell ⟨w.heap.size+1,2,none⟩ (.map (some b3))=W6 at hga hkp ⊢;replace Mj:=AA (Mj.o.keeps hkp);replace Mi:=AA (Mi.o.keeps hkp);replace G9:=AA (G9.o.keeps hkp);clear k0 k1 k2 k3 k4 k5 r0 r1 r2 r3 f0 f1 f2 f3 lr TG hkp;have Ha:=AA hga;clear hga;obtain ⟨t12,ABw⟩:=BP ((t1 || t2));rw [ABw];have AGM:=AA ABw;clear ABw;go_cut [3] (fun x3 wx=>x3=Ab (t12 || t3)/\W6=wx)
 case first=>
  cases t12
  all_goals
   go_wp2_with fail
   go_meet
   exact ⟨rfl,rfl⟩
 case rest=>
 obtain ⟨rfl,rfl⟩:=hcut;obtain ⟨k0,k1,k2,k3,k4,k5,r0,r1,r2,r3,f0,f1,f2,f3,lr⟩:=Ha.o.cells;go_wp2_with fail;refine (Xl A6 n6 c6 s.purposes _ (H6.o.mono BO Ha.o.old)).mono ?_;rintro e W7 ⟨b4,rfl,_,_,hb4⟩;have hga:=Ha.o.below hb4;replace Mj:=AA (Mj.o.below hb4);replace Mi:=AA (Mi.o.below hb4);replace G9:=AA (G9.o.below hb4);clear k0 k1 k2 k3 k4 k5 r0 r1 r2 r3 f0 f1 f2 f3 lr hb4 Ha;obtain ⟨k0,k1,k2,k3,k4,k5,r0,r1,r2,r3,f0,f1,f2,f3,lr⟩:=hga.cells;have Ha:=AA hga;clear hga;obtain ⟨t4,ht4⟩:=BP (DP (s.purposes.map (·.name)));obtain ⟨AAx,vG⟩:=BP ((t12 || t3));rw [ht4,vG];have HT4:=AA ht4;have ADn:=AA vG;clear ht4 vG;go_upto_region 9 with fail;go_cut [3] (fun x3 wx=>x3=Ab (AAx || t4)/\W7=wx)
 case first=>
  cases AAx
  all_goals
   go_wp2_with fail
   go_meet
   exact ⟨rfl,rfl⟩
 case rest=>
 obtain ⟨rfl,rfl⟩:=hcut;obtain ⟨t0,ht0⟩:=BP ((AAx || t4));rw [ht0];have HT0:AI ((DP s.Bg || DP (G7 s) || DP (By s) || DP (Od s))=t0):=by show _=_;rw [HT1.o,show DP (G7 s)=t2 from HT2.o,show DP (By s)=t3 from HT3.o,show DP (Od s)=t4 from HT4.o,AGM.o,ADn.o,ht0]
 clear ht0 HT1 HT2 HT3 HT4 AGM ADn;go_wp2_with fail;clear k0 k1 k2 k3 k4 k5 r0 r1 r2 r3 f0 f1 f2 f3 lr;have HL0:AI (ji w #[AB A1 n1 c1,AB A2 n2 c2,AB A3 n3 c3,AB A4 n4 c4,AB A5 n5 c5,AB A6 n6 c6] b1 b2 b3 s 0 (AB none 0 0) W7):=⟨Ha.o,Mj.o,Mi.o,G9.o,[],Ev _ _ _ _,Aq.nil⟩;clear Ha Mj Mi G9;have hlen3:=H3.o.1.len;have AJT:n3*96<=140737488355328:=by rw [hlen3];exact H3.o.2
 have HL3:=AA hlen3;clear hlen3;obtain ⟨i0,hi,hz0,hz1,hz2⟩:=Kh AEW;go_loopg [3,63] n3 (fun g t i wr=>∃(k:Nat) (v:AN),k<=n3/\g=n3 - k/\i=AE AF k/\t=Ab (t0 || (s.Ap.take k).any (fun x=>DP (fieldNames x)))/\ji w #[AB A1 n1 c1,AB A2 n2 c2,AB A3 n3 c3,AB A4 n4 c4,AB A5 n5 c5,AB A6 n6 c6] b1 b2 b3 s k v wr)
 case atStart=>exact ⟨0,_,Av _,rfl,rfl,by simp,HL0.o⟩
 clear HL0;obtain ⟨k,v,hk,hg,rfl,rfl,hL⟩:=hrel;have HG:=AA hg;have HL:=AA hL;clear hg hL;obtain ⟨tk,htk⟩:∃t,(t0 || (s.Ap.take k).any (fun x=>DP (fieldNames x)))=t:=⟨_,rfl⟩;rw [htk];have R9:=AA htk;clear htk;by_cases hlt:k < n3
 ·obtain ⟨xb,off,x,y1,m1,d1,y2,m2,d2,rfl,hxb,hx,e0,e1,e2,e3,e4,e5,hf,_⟩:=Fx (H3.o.1.mono BM HL.o.ga.old) hlt
  have HX:=AA hx;have HF:=AA hf.1;clear hx hf;go_wp2_with fail;have hba:AK wr (wr.alloc (AO #[AL x.name,AL x.FD,AE AF x.Ar,AE AF x.version,AB y1 m1 d1,AB y2 m2 d2] 85)):=(Ae _ _).alloc (Ac _) _;generalize (wr.alloc (AO #[AL x.name,AL x.FD,AE AF x.Ar,AE AF x.version,AB y1 m1 d1,AB y2 m2 d2] 85))=wz at hba ⊢;clear e0 e1 e2 e3 e4 e5 hxb;refine (ak y1 m1 d1 x.fields _ (HF.o.mono Cy hba)).mono ?_;rintro e W8 ⟨g,rfl,hmg,_,hb8⟩;have hL8:=(HL.o.below hba).below hb8;clear hba hb8 HL;obtain ⟨tf,htf⟩:=BP (DP (x.fields.map (·.name)));rw [htf];have tr:AI (DP (fieldNames x)=tf):=htf;clear htf;have Zi:=AA hmg;clear hmg;obtain ⟨cs,ho,hc⟩:=hL8.row;obtain ⟨vA,vn,vc,rfl⟩:=Z9 ho;obtain ⟨k0,k1,k2,k3,k4,k5,r0,r1,r2,r3,f0,f1,f2,f3,lr⟩:=hL8.ga.cells;have HO:=AA ho;have HC:=AA hc;have HL8:=AA hL8;clear ho hc hL8;cases tk
  all_goals
   go_wp2_with (at_builtin;refine wpList_append_own_at _ rfl (.tmp 77) (.tmp 79) 269 rfl (w.heap.size+2) 268 i0 (.map none) 1 8 underlying269 hi hz0 hz1 hz2 rfl Ah (AB vA vn vc) k cs rfl (HO.o.alloc _) ⟨W8.heap.size,0,none⟩ 1 1 [.map (some g)] rfl rfl (cell_one_new _ _ _) N9 FN AG (by have:=HL8.o.ga.br.lt;simp;omega) ?_;intro v' W9 hown' hgrow hnil hat;obtain ⟨vA',vn',MF,rfl⟩:=Z9 hown';have ce:=((HL8.o.ga.below (BE _ _)).grown hgrow (fun r e=>(HO.o.lt r e).1)).br.cell 3;have fe:=((HL8.o.ga.below (BE _ _)).grown hgrow (fun r e=>(HO.o.lt r e).1)).br.frozen 3;simp only [Ak,Al,Az] at ce;have HO9:=AA hown';have HG9:=AA hgrow;clear hown' hgrow hnil hat);go_roundg (n3 - (k+1))
   case measure=>exact EF
   refine ⟨k+1,_,by omega,rfl,by go_num,?_,(HL8.o.below (BE _ _)).next HX.o (Zi.o.below (BE _ _)) (HO.o.alloc _) (HC.o.mono XM (BE _ _)) HO9.o HG9.o⟩;rw [take_snoc HX.o,List.any_append,<-Bool.or_assoc,R9.o];simp [tr.o]
 have hke:k=s.Ap.length:=by have:=HL3.o;omega
 have da:AI ((DP s.Bg || DP (G7 s) || DP (By s) || DP (Od s) || s.Ap.any (fun x=>DP (fieldNames x)))=tk):=by have:=R9.o;rw [hke,PO] at this;show _=_;rw [HT0.o];exact this
 obtain ⟨k0,k1,k2,k3,k4,k5,r0,r1,r2,r3,f0,f1,f2,f3,lr⟩:=HL.o.ga.cells;have Zn:=AA hke;clear hke HT0 R9 HG;obtain ⟨w8,rfl⟩:=Ad (wr:AH);go_wp2_with fail;clear k0 k1 k2 k3 k4 k5 r0 r1 r2 r3 f0 f1 f2 f3 lr hlt hk hi hz0 hz1 hz2;have pG:=AA H4.o.len;go_loopg [3,91] n4 (fun g t i wr=>∃k:Nat,k<=n4/\g=n4 - k/\i=AE AF k/\t=Ab (tk || (s.rules.take k).any (fun x=>DP (Sp x)))/\AK w8 wr)
 case atStart=>exact ⟨0,Av _,rfl,rfl,by simp,Ae _ _⟩
 obtain ⟨j,hj,hg,rfl,rfl,hb⟩:=hrel;have HG:=AA hg;have HB:=AA hb;clear hg hb;obtain ⟨tj,htj⟩:∃t,(tk || (s.rules.take j).any (fun x=>DP (Sp x)))=t:=⟨_,rfl⟩;rw [htj];have HTJ:=AA htj;clear htj;by_cases hlt:j < n4
 ·obtain ⟨xb,off,x,y1,m1,d1,y2,m2,d2,y3,m3,d3,rfl,hxb,hx,e0,e1,e2,e3,e4,hf,_,_⟩:=Ps (H4.o.mono Be (HL.o.ga.below HB.o).old) hlt
  have HX:=AA hx;have HF:=AA hf.1;clear hx hf;go_wp2_with fail;have hba:AK wr (wr.alloc (AO #[AL x.head,AE AF x.schema,AB y1 m1 d1,AB y2 m2 d2,AB y3 m3 d3] 160)):=(Ae _ _).alloc (Ac _) _;generalize (wr.alloc (AO #[AL x.head,AE AF x.schema,AB y1 m1 d1,AB y2 m2 d2,AB y3 m3 d3] 160))=wz at hba ⊢;clear e0 e1 e2 e3 e4 hxb;refine (dP y1 m1 d1 x.froms _ (HF.o.mono Dp hba)).mono ?_;rintro e W8 ⟨g,rfl, -, -,hb8⟩;have Ke:=AA ((AV HB.o hba).trans (hb8.mono (BH HB.o.size hba.size)));clear hba hb8;obtain ⟨tf,htf⟩:=BP (DP (x.froms.map (·.name)));rw [htf];have tr:AI (DP (Sp x)=tf):=htf;clear htf;cases tj
  all_goals
   go_wp2_with fail;go_roundg (n4 - (j+1))
   case measure=>exact EF
   refine ⟨j+1,by omega,rfl,by go_num,?_,Ke.o⟩;rw [take_snoc HX.o,List.any_append,<-Bool.or_assoc,HTJ.o];simp [tr.o]
 have HTE:AI (NU s=tj):=by have h1:=HTJ.o;rw [Cu (by have:=pG.o;omega)] at h1;show _=_;unfold NU;rw [da.o];exact h1
 go_wp2_with fail;go_ret2;have hL:=HL.o.below HB.o;obtain ⟨cs,ho,hc⟩:=hL.row;obtain ⟨vA,vn,vc,rfl⟩:=Z9 ho;refine ⟨w.heap.size+1,by rw [HTE.o];rfl,⟨b1,b2,b3,vA,vn,vc,hL.ga.br,hL.m1,hL.m2,hL.m3,?_⟩,by omega,hL.ga.old⟩;rw [Zn.o,PO] at hc;exact CW ho hc (by rw [Zn.o];simp)
def Iv:BB:=⟨[],[],[],[],[],[]⟩
def Pu (
 s:BB):Option BB:=
 match Rf (G7 s) s.units with
 | none=>none
 |
  some us=>match Ft (fun _=>Fl s) s.Ap with
  | none=>none
  |
   some ss=>match Ft (fun _=>GV s) s.rules with
   | none=>none
   |
    some rs=>match Ft (fun _=>En s) s.converts with
    | none=>none
    |
     some cs=>match Ft (fun _=>Gh s) s.purposes with
     | none=>none
     | some ps=>some {s with units:=us,Ap:=ss,rules:=rs,converts:=cs,purposes:=ps}
def Gg (s:BB):Int×BB:=
 if NU s=true then (111,Iv)
 else match Pu s with
  | none=>(110,Iv)
  | some x=>(0,x)
def Vx (s:BB) (w:AH) (e:Ending) (w':AH):Prop:=
 ∃cs:List AN,e=AU (BQ #[.agg cs.toArray,AE AF (Gg s).1])/\Z6 w' cs (Gg s).2/\AK w w'
def Row {α:Type} (lo M L U:Nat) (T:Af) (sz:Nat) (R:AH->List AN->α->Prop) (v:AN) (l:List α) (wr:AH):Prop:=
 ∃cs,wr.ownsRow L T sz v l.length cs/\(∀r,v.ownBlock=some r->r < U)/\Aq sz R (mask lo M wr) cs l
section
variable {α:Type} {lo M L U:Nat} {T:Af} {sz:Nat} {R:AH->List AN->α->Prop} {v:AN} {l:List α} {wr w':AH}
theorem Row.kept (h:Row lo M L U T sz R v l wr) (hR:Eb R) {G:Nat} (hg:wr.grownBy w' (some G)) (hlo:lo<=G) (Gl:G < M) (hne:G < L\/U<=G):Row lo M L U T sz R v l w':=by obtain ⟨cs,h1,h2,h3⟩:=h;refine ⟨cs,h1.kept hg (.inr (fun e=> ?_)),h2,h3.mono hR (Cw hg hlo Gl)⟩;have:=h1.lt _ e;have:=h2 _ e;omega
theorem Row.below (h:Row lo M L U T sz R v l wr) (hR:Eb R) (hb:AK wr w'):Row lo M L U T sz R v l w':=by obtain ⟨cs,h1,h2,h3⟩:=h;exact ⟨cs,Ch h1 hb,h2,h3.mono hR (ZQ hb)⟩
theorem Row.sl (h:Row lo M L U T sz R v l wr) (hR:Nb R):Ag sz R wr v l:=by obtain ⟨cs,h1,h2,h3⟩:=h;exact CW h1 (h3.Hz hR) rfl
theorem Row.form (h:Row lo M L U T sz R v l wr):∃A c,v=AB A l.length c:=by obtain ⟨cs,h1,h2,h3⟩:=h;obtain ⟨A,m,c,rfl,rfl⟩:=GH h1;exact ⟨A,c,rfl⟩
theorem Row.at (h:Row lo M L U T sz R v l wr) {i:Nat} {x:α} (hi:l[i]? =some x):∃G cap cs,v=AB (some ⟨G,0,none⟩) l.length cap/\L<=G/\G < U/\wr.ownsRow L T sz (AB (some ⟨G,0,none⟩) l.length cap) l.length cs/\R (mask lo M wr) (chunk cs sz i) x/\i < l.length/\l.length<=9223372036854775807/\
 ∀(y:α) (w':AH),wr.grownBy w' (some G)->lo<=G->G < M->Eb R->(∃cs',w'.ownsRow L T sz (AB (some ⟨G,0,none⟩) l.length cap) l.length cs'/\(∀j,j≠i->chunk cs' sz j=chunk cs sz j)/\R (mask lo M w') (chunk cs' sz i) y)->Row lo M L U T sz R v (l.set i y) w':=by
 obtain ⟨cs,h1,h2,h3⟩:=h;have hil:=(BD.1 hi).1;rcases Hr h1 with ⟨rfl,h0⟩ | ⟨G,cap,rfl,hG,Uw,hn⟩
 · omega
 refine ⟨G,cap,cs,rfl,hG,h2 G rfl,h1,h3.chunk hi,hil,hn,fun y w' hg hlo Gl hR ⟨cs',h4,h5,h6⟩=>⟨cs',by rw [FM];exact h4,h2,?_⟩⟩;have h7:=h3.mono hR (Cw hg hlo Gl);refine ⟨by rw [FM];exact h4.1,fun j z hz=> ?_⟩;rw [RE] at hz;by_cases e:i=j
 ·subst e
  rw [Ao rfl,Ao hil,Bu] at hz;subst hz;exact h6
 rw [Ai e] at hz;show R _ (chunk cs' sz j) z;rw [h5 j (fun e'=>e e'.symm)];exact h7.2 j z hz
end
structure St (w0:AH) (lo M R B D L2 L3 L4 L5 L6:Nat) (s:BB) (v1 v2 v3 v4 v5 v6:AN) (e0:Int) (us:List Bt) (ss:List BL) (rs:List Ce) (cs:List C0) (ps:List Cd) (wr:AH):Prop where
 old:AK w0 wr
 size:M<=wr.heap.size
 res:Jf (mask lo M wr) R s
 b0:wr.cell? ⟨B,0,none⟩=some v1
 b1:wr.cell? ⟨B,1,none⟩=some v2
 b2:wr.cell? ⟨B,2,none⟩=some v3
 b3:wr.cell? ⟨B,3,none⟩=some v4
 b4:wr.cell? ⟨B,4,none⟩=some v5
 b5:wr.cell? ⟨B,5,none⟩=some v6
 bz:∀j,wr.frozen? ⟨B,j,none⟩=false
 d0:wr.cell? ⟨D,0,none⟩=some (AE AF e0)
 dz:wr.frozen? ⟨D,0,none⟩=false
 r1:Row lo M lo L2 9 1 DQ v1 s.Bg wr
 r2:Row lo M L2 L3 201 5 CD v2 us wr
 r3:Row lo M L3 L4 85 6 BU v3 ss wr
 r4:Row lo M L4 L5 160 5 CF v4 rs wr
 r5:Row lo M L5 L6 163 5 Bw v5 cs wr
 r6:Row lo M L6 M 166 3 BW v6 ps wr
structure Fall (w0:AH) (B D:Nat) (v1 v2 v3 v4 v5 v6:AN) (e0:Int) (wr:AH):Prop where
 old:AK w0 wr
 hB:B < wr.heap.size
 hD:D < wr.heap.size
 b0:wr.cell? ⟨B,0,none⟩=some v1
 b1:wr.cell? ⟨B,1,none⟩=some v2
 b2:wr.cell? ⟨B,2,none⟩=some v3
 b3:wr.cell? ⟨B,3,none⟩=some v4
 b4:wr.cell? ⟨B,4,none⟩=some v5
 b5:wr.cell? ⟨B,5,none⟩=some v6
 bz:∀j,wr.frozen? ⟨B,j,none⟩=false
 d0:wr.cell? ⟨D,0,none⟩=some (AE AF e0)
 dz:wr.frozen? ⟨D,0,none⟩=false
section
variable {w0:AH} {lo M R B D L2 L3 L4 L5 L6:Nat} {s:BB} {v1 v2 v3 v4 v5 v6:AN} {e0:Int} {us:List Bt} {ss:List BL} {rs:List Ce} {cs:List C0} {ps:List Cd} {wr w':AH}
theorem St.turn (h:St w0 lo M R B D L2 L3 L4 L5 L6 s v1 v2 v3 v4 v5 v6 e0 us ss rs cs ps wr) {G:Nat} (hg:wr.grownBy w' (some G)) (hlo:lo<=G) (Gl:G < M) (hw0:w0.heap.size<=lo) (hB:B < lo) (hD:D < lo)
 {us':List Bt} {ss':List BL} {rs':List Ce} {cs':List C0} {ps':List Cd}
 (k2:(us'=us/\(G < L2\/L3<=G))\/Row lo M L2 L3 201 5 CD v2 us' w') (k3:(ss'=ss/\(G < L3\/L4<=G))\/Row lo M L3 L4 85 6 BU v3 ss' w') (k4:(rs'=rs/\(G < L4\/L5<=G))\/Row lo M L4 L5 160 5 CF v4 rs' w')
 (k5:(cs'=cs/\(G < L5\/L6<=G))\/Row lo M L5 L6 163 5 Bw v5 cs' w') (k6:(ps'=ps/\(G < L6\/M<=G))\/Row lo M L6 M 166 3 BW v6 ps' w') (k1:L2<=G):St w0 lo M R B D L2 L3 L4 L5 L6 s v1 v2 v3 v4 v5 v6 e0 us' ss' rs' cs' ps' w':=by
 have hb:BI lo wr w':=⟨hg.os,hg.tape,hg.output,hg.size,fun k hk=>hg.block k (by have:=h.size;omega) (fun e=>by injection e;omega)⟩;refine ⟨h.old.trans (hb.mono hw0),BH h.size hg.size,h.res.below (Cw hg hlo Gl),(hb.cell hB).trans h.b0,(hb.cell hB).trans h.b1,(hb.cell hB).trans h.b2,(hb.cell hB).trans h.b3,(hb.cell hB).trans h.b4,(hb.cell hB).trans h.b5,fun j=>(hb.frozen (p:=⟨B,j,none⟩) hB).trans (h.bz j),(hb.cell hD).trans h.d0,(hb.frozen hD).trans h.dz,h.r1.kept BV hg hlo Gl (.inr k1),?_,?_,?_,?_,?_⟩
 ·rcases k2 with ⟨rfl,k⟩ | k
  · exact h.r2.kept Bp hg hlo Gl k
  · exact k
 ·rcases k3 with ⟨rfl,k⟩ | k
  · exact h.r3.kept BM hg hlo Gl k
  · exact k
 ·rcases k4 with ⟨rfl,k⟩ | k
  · exact h.r4.kept Be hg hlo Gl k
  · exact k
 ·rcases k5 with ⟨rfl,k⟩ | k
  · exact h.r5.kept Bo hg hlo Gl k
  · exact k
 rcases k6 with ⟨rfl,k⟩ | k
 · exact h.r6.kept BO hg hlo Gl k
 · exact k
theorem St.below (h:St w0 lo M R B D L2 L3 L4 L5 L6 s v1 v2 v3 v4 v5 v6 e0 us ss rs cs ps wr) (hb:AK wr w') (hw0:w0.heap.size<=lo) (cz:lo<=M) (hB:B < lo) (hD:D < lo):St w0 lo M R B D L2 L3 L4 L5 L6 s v1 v2 v3 v4 v5 v6 e0 us ss rs cs ps w':=by
 have hM:=h.size;have hB':B < wr.heap.size:=AG
 have hD':D < wr.heap.size:=AG
 exact ⟨h.old.trans (hb.mono AG),BH h.size hb.size,h.res.below (ZQ hb),(hb.cell (p:=⟨B,0,none⟩) hB').trans h.b0,(hb.cell (p:=⟨B,1,none⟩) hB').trans h.b1,(hb.cell (p:=⟨B,2,none⟩) hB').trans h.b2,(hb.cell (p:=⟨B,3,none⟩) hB').trans h.b3,(hb.cell (p:=⟨B,4,none⟩) hB').trans h.b4,(hb.cell (p:=⟨B,5,none⟩) hB').trans h.b5,fun j=>(hb.frozen (p:=⟨B,j,none⟩) hB').trans (h.bz j),(hb.cell (p:=⟨D,0,none⟩) hD').trans h.d0,(hb.frozen (p:=⟨D,0,none⟩) hD').trans h.dz,h.r1.below BV hb,h.r2.below Bp hb,h.r3.below BM hb,h.r4.below Be hb,h.r5.below Bo hb,h.r6.below BO hb⟩
theorem St.fall (h:St w0 lo M R B D L2 L3 L4 L5 L6 s v1 v2 v3 v4 v5 v6 e0 us ss rs cs ps wr) {row:Option Nat} (hg:wr.grownBy w' row) (hr:∀r,row=some r->lo<=r) (hw0:w0.heap.size<=lo) (cz:lo<=M) (hB:B < lo) (hD:D < lo):Fall w0 B D v1 v2 v3 v4 v5 v6 e0 w':=by have hM:=h.size;have hb:BI lo wr w':=⟨hg.os,hg.tape,hg.output,hg.size,fun k hk=>hg.block k AG (fun e=>by have:=hr k e.symm;omega)⟩;have hs:=hg.size;exact ⟨h.old.trans (hb.mono hw0),by omega,by omega,(hb.cell hB).trans h.b0,(hb.cell hB).trans h.b1,(hb.cell hB).trans h.b2,(hb.cell hB).trans h.b3,(hb.cell hB).trans h.b4,(hb.cell hB).trans h.b5,fun j=>(hb.frozen (p:=⟨B,j,none⟩) hB).trans (h.bz j),(hb.cell hD).trans h.d0,(hb.frozen hD).trans h.dz⟩
end
theorem catch_idle (p q:Aa) (w:AH):
 CallsD prog 152 #[AW (some p),AW (some q)] .returning w fun e u' w'=>e=AU (BQ #[])/\u'=.returning/\w'=w:=by
 refine N4 func152 rfl fun c₀ cs hu=> ?_;apply wpS_seq;apply Nz;simp [wpOpsS,go_sem,recoverD,hu,ntmps152,Exit.thenS];refine Ny ?_;change Code.wp _ _ _ {tmps:=#[AW (some p),AW (some q),.nilIface,undef,undef,.nilIface,undef,undef,undef,undef,undef,undef,undef,undef,undef,undef,undef],defers:=[]} w;go_wp2_with fail;cases c₀;simp_all [bodyPostS,results,results152]
theorem kK (B D:Nat) (v0 v1 v2 v3 v4 v5:AN) (e0:Int) (w:AH) (h0:w.cell? ⟨B,0,none⟩=some v0) (h1:w.cell? ⟨B,1,none⟩=some v1) (h2:w.cell? ⟨B,2,none⟩=some v2) (h3:w.cell? ⟨B,3,none⟩=some v3) (h4:w.cell? ⟨B,4,none⟩=some v4) (h5:w.cell? ⟨B,5,none⟩=some v5)
 (hz:∀j,w.frozen? ⟨B,j,none⟩=false) (hd:w.cell? ⟨D,0,none⟩=some (AE AF e0)) (hdz:w.frozen? ⟨D,0,none⟩=false) (hB:B < w.heap.size) (hD:D < w.heap.size) (hBD:B≠D):
 CallsD prog 152 #[AW (some ⟨B,0,none⟩),AW (some ⟨D,0,none⟩)] (.panicking Bq) w fun e u' w'=>
  e=AU (BQ #[])/\u'=.panicking [{v:=.iface 257 (AP #[]),recovered:=true}]/\(w'.cell? ⟨B,0,none⟩=some (AB none 0 0)/\w'.cell? ⟨B,1,none⟩=some (AB none 0 0)/\w'.cell? ⟨B,2,none⟩=some (AB none 0 0)/\w'.cell? ⟨B,3,none⟩=some (AB none 0 0)/\w'.cell? ⟨B,4,none⟩=some (AB none 0 0)/\w'.cell? ⟨B,5,none⟩=some (AB none 0 0)/\w'.cell? ⟨D,0,none⟩=some (AE AF 110))/\
  ∀base,base<=B->base<=D->BI base w w':=by
 unfold Bq;have hDB:D≠B:=Ne.symm hBD;have hta:∀w:AH,(Instr.typeAssert (.iface 257 (AP #[])) 20 257 true).run prog w=.ok (BQ #[AP #[],Ab true]) w:=fun w=>by simp [Instr.typeAssert,run_underlying underlying257,go_sem,Result.andThen]
 have z0:=hz 0;have z1:=hz 1;have z2:=hz 2;have z3:=hz 3;have z4:=hz 4;have z5:=hz 5;clear hz;refine N4 func152 rfl fun c₀ cs hu=> ?_;apply wpS_seq;apply Nz;simp [wpOpsS,go_sem,recoverD,hu,ntmps152,Exit.thenS];refine Ny ?_;change Code.wp _ _ _ {tmps:=#[AW (some ⟨B,0,none⟩),AW (some ⟨D,0,none⟩),.iface 257 (AP #[]),undef,undef,.iface 257 (AP #[]),undef,undef,undef,undef,undef,undef,undef,undef,undef,undef,undef],defers:=[]} w;go_wp2_with fail;refine ⟨rfl,.panicking [{v:=.iface 257 (AP #[]),recovered:=true}],rfl,BQ #[],by simp [results,results152],rfl,rfl,?_,fun base hb1 hb2=> ?_⟩
 · simp [go_sem, *]
 · exact (((((((((Ae _ _).setCell RN _).setCell RN _).setCell RN _).setCell RN _).setCell RN _).setCell RN _).setCell (by exact hb2) _)).alloc (by simp [World.setCell];omega) _
theorem oV {w:AH} {t:Af} {cs:Array AN} {g:Nat} (h:w.heap.size=g):AZ (w.alloc (AO cs t)) g t cs:=by subst h;exact AZ.new _ _ _
theorem JT {w:AH} {b o:Nat} {v:AN} (h:w.cell? ⟨b,o,none⟩=some v):w.setCell ⟨b,o,none⟩ v=w:=by
 have e:(
  w.setCell ⟨b,o,none⟩ v).heap=w.heap:=by
  unfold World.setCell;simp only;apply RH;intro k;rw [qy];by_cases hk:b=k
  ·subst hk
   rw [Ao rfl];cases hb:w.heap[b]? with
   | none=>rfl
   |
    some x=>
    cases x with
    |
     cells c elem frozen=>
     simp only [Cl,Gv,Gu,F5,Bu];have hc:c[o]? =some v:=by simpa [World.cell?,hb] using h
     congr 1;apply RH;intro q;rw [PY];by_cases hq:o=q
     ·subst hq
      rw [Ao rfl,hc,Ao (C6.1 hc).1]
     · rw [Ai hq]
    | _=>rfl
  · rw [Ai hk]
 show ({w with heap:=(w.setCell ⟨b,o,none⟩ v).heap}:AH)=w;rw [e]
theorem ZO (w:AH):Z6 w [AB none 0 0,AB none 0 0,AB none 0 0,AB none 0 0,AB none 0 0,AB none 0 0] Iv:=
 ⟨none,0,0,none,0,0,none,0,0,none,0,0,none,0,0,none,0,0,rfl,⟨Ag.nil _ _ (Av _),by simp [Iv]⟩,⟨Ag.nil _ _ (Av _),by simp [Iv]⟩,⟨Ag.nil _ _ (Av _),by simp [Iv]⟩,⟨Ag.nil _ _ (Av _),by simp [Iv]⟩,⟨Ag.nil _ _ (Av _),by simp [Iv]⟩,⟨Ag.nil _ _ (Av _),by simp [Iv]⟩⟩
theorem mr {lo M B j:Nat} {w:AH} {v:AN} (hB:B < lo):(mask lo M w).setCell ⟨B,j,none⟩ v=mask lo M (w.setCell ⟨B,j,none⟩ v):=by
 unfold mask World.setCell;simp only;congr 1;apply RH;intro k;simp only [qy,RK];by_cases e:B=k
 ·subst e
  rw [Ao rfl,Ao rfl,Option.map_map,Option.map_map];congr 1;funext o;simp only [Function.comp];rw [Ai AG,Ai AG]
 · rw [Ai e,Ai e]
theorem Jf.put {w:AH} {R B j:Nat} {s:BB} {t:Af} {cs:Array AN} (h:Jf w R s) (k:AZ w B t cs) (hs:∀(i:Nat) b,cs[i]? ≠some (Value.map b)) (hne:R≠B) (v:AN):Jf (w.setCell ⟨B,j,none⟩ v) R s:=by
 obtain ⟨b1,b2,b3,A,n,c,h0,h1,h2,h3,h4⟩:=h;refine ⟨b1,b2,b3,A,n,c,h0.far hne _,h1.keeps (.put _ _ _),h2.keeps (.put _ _ _),h3.keeps (.put _ _ _),?_⟩;obtain ⟨A',cap,e,g1,g2,g3⟩:=h4;refine ⟨A',cap,e,g1,g2,fun i x hi=> ?_⟩;obtain ⟨b,off,cl,rfl,hlt,hl,hc,g,rfl,hm⟩:=g3 i x hi;have hbB:b≠B:=fun e=>by subst e;have:=hc 0 _ rfl;rw [k.cell] at this;exact hs _ _ this
 refine ⟨b,off,_,rfl,by simpa [World.setCell] using hlt,hl,fun q u hu=> ?_,g,rfl,hm.keeps (.put _ _ _)⟩;rw [Yb _ _ _ _ (fun e=>by injection e with e1;exact hbB e1.symm)];exact hc q u hu
theorem Uq (a1 a2 a3 a4 a5 a6:Option Aa) (n1 n2 n3 n4 n5 n6 c1 c2 c3 c4 c5 c6:Nat):∀(i:Nat) b,(#[AB a1 n1 c1,AB a2 n2 c2,AB a3 n3 c3,AB a4 n4 c4,AB a5 n5 c5,AB a6 n6 c6]:Array AN)[i]? ≠some (Value.map b):=by intro i b;rcases i with _ | _ | _ | _ | _ | _ | i <;> simp
theorem Pr {lo M:Nat} {w:AH} {R B j:Nat} {s:BB} {t:Af} {cs:Array AN} (h:Jf (mask lo M w) R s) (k:AZ w B t cs) (hs:∀(i:Nat) b,cs[i]? ≠some (Value.map b)) (hB:B < lo) (hne:R≠B) (v:AN):Jf (mask lo M (w.setCell ⟨B,j,none⟩ v)) R s:=by rw [<-mr hB];exact h.put (show AZ (mask lo M w) B t cs from (G8 (.inl hB)).trans k) hs hne v
theorem Wp {wg w':AH} {g:Nat} {t:Af} {v1 v2 v3 v4 v5 v6:AN} (k:AZ wg g t #[v1,v2,v3,v4,v5,v6]) (hb:BI (g+1) wg w'):w'.cell? ⟨g,0,none⟩=some v1/\w'.cell? ⟨g,1,none⟩=some v2/\w'.cell? ⟨g,2,none⟩=some v3/\w'.cell? ⟨g,3,none⟩=some v4/\w'.cell? ⟨g,4,none⟩=some v5/\w'.cell? ⟨g,5,none⟩=some v6/\BI (g+1) wg w':=by have k':=k.below hb AG;exact ⟨k'.cell 0,k'.cell 1,k'.cell 2,k'.cell 3,k'.cell 4,k'.cell 5,hb⟩
theorem fJ {wg wc wx:AH} {g:Nat} (h:BI (g+1) wg wc) (hs:g+1<=wg.heap.size) (hb:AK wc wx):BI (g+1) wg wx:=h.trans (hb.mono (BH hs h.size))
theorem Uc {α:Type} {sz bytes:Nat} {R:AH->List AN->α->Prop} {w wg wc:AH} {v:AN} {l:List α} (h:BT sz bytes R w v l) (ho:AK w wg) (hb:BI (w.heap.size+1) wg wc):BT sz bytes (fun _=>R w) wc v l:=⟨h.1.fix (ho.trans (hb.mono (Ff _))),h.2⟩
theorem mkRow {α:Type} {lo M L U:Nat} {T:Af} {sz:Nat} {R:AH->List AN->α->Prop} {v:AN} {l:List α} {w wx wk w7:AH} {cs:List AN} (hR:Eb R) (hc:Aq sz (fun _=>R w) wx cs l) (ho:wk.ownsRow L T sz v l.length cs) (hU:wk.heap.size<=U) (h7:w7.ownsRow L T sz v l.length cs) (hold:AK w w7) (hlo:w.heap.size<=lo):Row lo M L U T sz R v l w7:=
 ⟨cs,h7,fun r e=>Au (ho.lt r e).2 hU,Aq.mono hR (Vd w hold hlo) ⟨hc.1,hc.2⟩⟩
theorem fW {wk w6:AH} {L:Nat} {T:Af} {sz n:Nat} {v:AN} {cs:List AN} {B:Nat} (ho:wk.ownsRow L T sz v n cs) (hb:AK wk w6) (hB:B < L) (u0 u1 u2 u3 u4 u5:AN):
 ((((((w6.setCell ⟨B,0,none⟩ u0).setCell ⟨B,1,none⟩ u1).setCell ⟨B,2,none⟩ u2).setCell ⟨B,3,none⟩ u3).setCell ⟨B,4,none⟩ u4).setCell ⟨B,5,none⟩ u5).ownsRow L T sz v n cs:=
 G0 (G0 (G0 (G0 (G0 (G0 (Ch ho hb) hB _) hB _) hB _) hB _) hB _) hB _
theorem QP {tmps:Array AN} {w wr:AH} {B D:Nat} {s:BB} {v1 v2 v3 v4 v5 v6:AN} {e0:Int} (h:Fall w B D v1 v2 v3 v4 v5 v6 e0 wr) (hBw:w.heap.size<=B) (hDw:w.heap.size<=D) (hBD:B≠D)
 (hP:Gg s=(110,Iv))
 (hr:∀w'':AH,w''.cell? ⟨B,0,none⟩=some (AB none 0 0)->w''.cell? ⟨B,1,none⟩=some (AB none 0 0)->w''.cell? ⟨B,2,none⟩=some (AB none 0 0)->w''.cell? ⟨B,3,none⟩=some (AB none 0 0)->w''.cell? ⟨B,4,none⟩=some (AB none 0 0)->w''.cell? ⟨B,5,none⟩=some (AB none 0 0)->w''.cell? ⟨D,0,none⟩=some (AE AF 110)->
  (results f102 tmps).run prog w''=.ok (BQ #[AP #[AB none 0 0,AB none 0 0,AB none 0 0,AB none 0 0,AB none 0 0,AB none 0 0],AE AF 110]) w''):
 Leaves prog f102 tmps (Vx s w) [{target:=.fn (.func 152) #[AW (some ⟨B,0,none⟩),AW (some ⟨D,0,none⟩)],args:=#[]}] (.panicking Bq) wr:=by
 refine N0 (f:=152) (args:=#[AW (some ⟨B,0,none⟩),AW (some ⟨D,0,none⟩)]) AX Kp ?_;refine (kK B D v1 v2 v3 v4 v5 v6 e0 wr h.b0 h.b1 h.b2 h.b3 h.b4 h.b5 h.bz h.d0 h.dz h.hB h.hD hBD).mono ?_;rintro e u' w'' ⟨rfl,rfl,⟨k0,k1,k2,k3,k4,k5,k6⟩,hb⟩;exact ⟨_,hr w'' k0 k1 k2 k3 k4 k5 k6,[AB none 0 0,AB none 0 0,AB none 0 0,AB none 0 0,AB none 0 0,AB none 0 0],by rw [hP],by rw [hP];exact ZO _,h.old.trans (hb _ hBw hDw)⟩
theorem qC (s:BB) (w:AH)
 (h1:BT 1 16 DQ w (AB A1 n1 c1) s.Bg) (h2:BT 5 56 CD w (AB A2 n2 c2) s.units) (h3:BT 6 96 BU w (AB A3 n3 c3) s.Ap) (h4:BT 5 96 CF w (AB A4 n4 c4) s.rules) (h5:BT 5 72 Bw w (AB A5 n5 c5) s.converts) (h6:BT 3 48 BW w (AB A6 n6 c6) s.purposes):
 AS prog 102 #[AP #[AB A1 n1 c1,AB A2 n2 c2,AB A3 n3 c3,AB A4 n4 c4,AB A5 n5 c5,AB A6 n6 c6]] w (Vx s w):=by
 have H1:=AA h1;have H2:=AA h2;have H3:=AA h3;have H4:=AA h4;have H5:=AA h5;have H6:=AA h6;clear h1 h2 h3 h4 h5 h6;have hmf:∀(fn:Fn) (first cap:Array AN) (w:AH),(Instr.makeFunc fn first cap).run prog w=.ok (.func fn first cap) w:=fun _ _ _ _=>rfl
 go_enter_defers func102,ntmps102
 go_wp2_with fail;obtain ⟨wb,hwb⟩:=Ad (((w.alloc (AO #[AB A1 n1 c1,AB A2 n2 c2,AB A3 n3 c3,AB A4 n4 c4,AB A5 n5 c5,AB A6 n6 c6] 29)).alloc (AO #[AB none 0 0,AB none 0 0,AB none 0 0,AB none 0 0,AB none 0 0,AB none 0 0] 29)).alloc (AO #[AE AF 0] 47));rw [<-hwb];have aH:wb.heap.size=w.heap.size+3:=by rw [hwb];simp
 have hbb:AK w wb:=by rw [hwb];exact ((BE _ _).alloc AX _).alloc BN _
 have kS:AZ wb w.heap.size 29 #[AB A1 n1 c1,AB A2 n2 c2,AB A3 n3 c3,AB A4 n4 c4,AB A5 n5 c5,AB A6 n6 c6]:=by rw [hwb];exact ((AZ.new _ _ _).alloc _).alloc _
 have kB:AZ wb (w.heap.size+1) 29 #[AB none 0 0,AB none 0 0,AB none 0 0,AB none 0 0,AB none 0 0,AB none 0 0]:=by rw [hwb];exact (oV AX).alloc _
 have kD:AZ wb (w.heap.size+1+1) 47 #[AE AF 0]:=by rw [hwb];exact oV AX
 clear hwb;refine (vg A1 A2 A3 A4 A5 A6 n1 c1 n2 c2 n3 c3 n4 c4 n5 c5 n6 c6 s wb (H1.o.mono BV hbb) (H2.o.mono Bp hbb) (H3.o.mono BM hbb) (H4.o.mono Be hbb) (H6.o.mono BO hbb)).mono ?_;rintro e wg ⟨R,rfl,hres,hR,hbg⟩;have kS':=kS.below hbg AG;have Sl:=kB.below hbg AG;have kD':=kD.below hbg AG;have AI8:w.heap.size+3<=wg.heap.size:=by rw [<-aH];exact hbg.size
 have hRg:w.heap.size+3<=R:=by rw [<-aH];exact hR
 have hold:AK w wg:=hbb.trans (hbg.mono AG);have Gp:=AA hres;have HOLD:=AA hold;have LJ:=AA kS';have HKB:=AA Sl;have HKD:=AA kD';clear hres hR hbg kS kB kD aH hbb hold;have c0:=Sl.cell 0;have c1':=Sl.cell 1;have c2':=Sl.cell 2;have c3':=Sl.cell 3;have c4':=Sl.cell 4;have c5':=Sl.cell 5;have d0:=kD'.cell 0;simp only [Ak,Al,Az] at c0 c1' c2' c3' c4' c5' d0;have z0:=Sl.frozen 0;have z1:=Sl.frozen 1;have z2:=Sl.frozen 2;have z3:=Sl.frozen 3;have z4:=Sl.frozen 4;have z5:=Sl.frozen 5;have zd:=kD'.frozen 0;clear kS' Sl kD';cases htw:NU s with
 |
  true=>
  have HP:AI (Gg s=(111,Iv)):=AA (by unfold Gg;rw [Ao htw]);clear htw;go_wp2_with fail;refine ⟨BQ #[AP #[AB none 0 0,AB none 0 0,AB none 0 0,AB none 0 0,AB none 0 0,AB none 0 0],AE AF 111],?_,[AB none 0 0,AB none 0 0,AB none 0 0,AB none 0 0,AB none 0 0,AB none 0 0],by rw [HP.o],by rw [HP.o];exact ZO _,?_⟩
  · simp [results,results102,go_sem, *]
  · exact (((((((HOLD.o.setCell AX _).setCell AX _).setCell AX _).setCell AX _).setCell AX _).setCell AX _).setCell BN _)
 |
  false=>
  have R7:=AA htw;clear htw;have hgs:w.heap.size+1<=wg.heap.size:=AG
  clear c0 c1' c2' c3' c4' c5' d0 z0 z1 z2 z3 z4 z5 zd;go_upto_region 5 with fail
  go_region_held3 (fun w'=>w'.cell? ⟨w.heap.size,0,none⟩=some (AB A1 n1 c1)/\w'.cell? ⟨w.heap.size,1,none⟩=some (AB A2 n2 c2)/\w'.cell? ⟨w.heap.size,2,none⟩=some (AB A3 n3 c3)/\w'.cell? ⟨w.heap.size,3,none⟩=some (AB A4 n4 c4)/\w'.cell? ⟨w.heap.size,4,none⟩=some (AB A5 n5 c5)/\w'.cell? ⟨w.heap.size,5,none⟩=some (AB A6 n6 c6)/\BI (w.heap.size+1) wg w')
   (first
    | with_reducible assumption
    | exact Wp LJ.o ((((((hS6.2.2.2.2.2.2.setCell (Ac _) _).setCell (Ac _) _).setCell (Ac _) _).setCell (Ac _) _).setCell (Ac _) _).setCell (Ac _) _)
    | exact Wp LJ.o (Ae _ _).drew)
   (first
    | (go_at_call 153;refine (vx (R:=fun _=>DQ w) (fun _=>AA3 w) A1 n1 c1 _ _ (Uc H1.o HOLD.o Jo)).mono ?_;rintro e w1 ⟨v1,cs1,rfl,hcs1,ho1,hb1⟩;obtain ⟨B1,m1,d1,rfl,hm1⟩:=GH ho1;have IY:=AA ho1;have Kd:=AA hcs1;have X5:=AA hm1;have hS1:=Wp LJ.o (fJ Jo hgs hb1);clear ho1 hcs1 hm1)
    | (go_at_call 154;refine (qi (R:=fun _=>CD w) (fun _=>uX w) A2 n2 c2 _ _ (Uc H2.o HOLD.o Jo)).mono ?_;rintro e w2 ⟨v2,cs2,rfl,hcs2,ho2,hb2⟩;obtain ⟨B2,m2,d2,rfl,hm2⟩:=GH ho2;have Jc:=AA ho2;have HC2:=AA hcs2;have Zg:=AA hm2;have hS2:=Wp LJ.o (fJ Jo hgs hb2);clear ho2 hcs2 hm2 hS1)
    | (go_at_call 155;refine (j8 (R:=fun _=>BU w) (fun _=>mR w) A3 n3 c3 _ _ (Uc H3.o HOLD.o Jo)).mono ?_;rintro e w3 ⟨v3,Za,rfl,hcs3,ho3,hb3⟩;obtain ⟨B3,m3,d3,rfl,Dm⟩:=GH ho3;have I4:=AA ho3;have WY:=AA hcs3;have Kz:=AA Dm;have hS3:=Wp LJ.o (fJ Jo hgs hb3);clear ho3 hcs3 Dm hS2)
    | (go_at_call 156;refine (qj (R:=fun _=>CF w) (fun _=>ua w) A4 n4 c4 _ _ (Uc H4.o HOLD.o Jo)).mono ?_;rintro e w4 ⟨v4,dL,rfl,AFq,Rv,hb4⟩;obtain ⟨B4,m4,d4,rfl,hm4⟩:=GH Rv;have Qa:=AA Rv;have PD:=AA AFq;have HN4:=AA hm4;have hS4:=Wp LJ.o (fJ Jo hgs hb4);clear Rv AFq hm4 hS3)
    | (go_at_call 157;refine (gQ (R:=fun _=>Bw w) (fun _=>jw w) A5 n5 c5 _ _ (Uc H5.o HOLD.o Jo)).mono ?_;rintro e w5 ⟨v5,NZ,rfl,AFp,GK,hb5⟩;obtain ⟨B5,m5,d5,rfl,hm5⟩:=GH GK;have X4:=AA GK;have uE:=AA AFp;have WU:=AA hm5;have hS5:=Wp LJ.o (fJ Jo hgs hb5);clear GK AFp hm5 hS4)
    | (
     go_at_call 158;refine (gP (R:=fun _=>BW w) (fun _=>jt w) A6 n6 c6 _ _ (Uc H6.o HOLD.o Jo)).mono ?_;rintro e w6 ⟨v6,cs6,rfl,AFo,Qi,hb6⟩;obtain ⟨B6,m6,d6,rfl,ix⟩:=GH Qi;have QZ:=AA Qi;have jf:=AA AFo;have HN6:=AA ix;have hS6:=Wp LJ.o (fJ Jo hgs hb6);clear Qi AFo ix hS5;have hall:AK wg w6:=((((((Ae _ _).drew).trans hb1).trans (hb2.mono hb1.size)).trans (hb3.mono (BH hb1.size hb2.size))).trans (hb4.mono (BH (BH hb1.size hb2.size) hb3.size))).trans (hb5.mono (BH (BH (BH hb1.size hb2.size) hb3.size) hb4.size)) |>.trans (hb6.mono (BH (BH (BH (BH hb1.size hb2.size) hb3.size) hb4.size) hb5.size));have Sk:=HKB.o.below hall AG;have x0:=Sk.cell 0;have x1:=Sk.cell 1;have x2:=Sk.cell 2;have x3:=Sk.cell 3;have x4:=Sk.cell 4;have x5:=Sk.cell 5;simp only [Ak,Al,Az] at x0 x1 x2 x3 x4 x5;have y0:=Sk.frozen 0;have y1:=Sk.frozen 1;have y2:=Sk.frozen 2;have y3:=Sk.frozen 3;have y4:=Sk.frozen 4;have y5:=Sk.frozen 5;have EC:=AA hall;have AGe:=AA Sk;clear Sk hall))
  have AFN:((((((w6.setCell ⟨w.heap.size+1,0,none⟩ (AB B1 m1 d1)).setCell ⟨w.heap.size+1,1,none⟩ (AB B2 m2 d2)).setCell ⟨w.heap.size+1,2,none⟩ (AB B3 m3 d3)).setCell ⟨w.heap.size+1,3,none⟩ (AB B4 m4 d4)).setCell ⟨w.heap.size+1,4,none⟩ (AB B5 m5 d5)).setCell ⟨w.heap.size+1,5,none⟩ (AB B6 m6 d6)).heap.size=w6.heap.size:=by simp [World.setCell]
  have Sm:AK w ((((((w6.setCell ⟨w.heap.size+1,0,none⟩ (AB B1 m1 d1)).setCell ⟨w.heap.size+1,1,none⟩ (AB B2 m2 d2)).setCell ⟨w.heap.size+1,2,none⟩ (AB B3 m3 d3)).setCell ⟨w.heap.size+1,3,none⟩ (AB B4 m4 d4)).setCell ⟨w.heap.size+1,4,none⟩ (AB B5 m5 d5)).setCell ⟨w.heap.size+1,5,none⟩ (AB B6 m6 d6)):=
   ((((((HOLD.o.trans (hS6.2.2.2.2.2.2.mono (Ff _))).setCell (Ff _) _).setCell (Ff _) _).setCell (Ff _) _).setCell (Ff _) _).setCell (Ff _) _).setCell (Ff _) _
  have hk0:=AGe.o;have hk1:=hk0.put 0 (AB B1 m1 d1);have hk2:=hk1.put 1 (AB B2 m2 d2);have hk3:=hk2.put 2 (AB B3 m3 d3);have hk4:=hk3.put 3 (AB B4 m4 d4);have hk5:=hk4.put 4 (AB B5 m5 d5);have hk6:=hk5.put 5 (AB B6 m6 d6);simp only [Lr,Ct,DF] at hk1 hk2 hk3 hk4 hk5 hk6;have hd7:=(((((((HKD.o.below EC.o AG).far (p:=⟨w.heap.size+1,0,none⟩) AX (AB B1 m1 d1)).far (p:=⟨w.heap.size+1,1,none⟩) AX (AB B2 m2 d2)).far (p:=⟨w.heap.size+1,2,none⟩) AX (AB B3 m3 d3)).far (p:=⟨w.heap.size+1,3,none⟩) AX (AB B4 m4 d4)).far (p:=⟨w.heap.size+1,4,none⟩) AX (AB B5 m5 d5)).far (p:=⟨w.heap.size+1,5,none⟩) AX (AB B6 m6 d6));have hr0:Jf (mask wg.heap.size w6.heap.size w6) R s:=Gp.o.below (Vd wg EC.o (Ac _));have hBl:w.heap.size+1 < wg.heap.size:=AG
  have nx:R≠w.heap.size+1:=AG
  have AJV:R < wg.heap.size:=by obtain ⟨_,_,_,_,_,_,hk,_⟩:=Gp.o;exact hk.lt
  have hr1:=Pr (j:=0) hr0 hk0 (Uq _ _ _ _ _ _ _ _ _ _ _ _ _ _ _ _ _ _) hBl nx (AB B1 m1 d1);have hr2:=Pr (j:=1) hr1 hk1 (Uq _ _ _ _ _ _ _ _ _ _ _ _ _ _ _ _ _ _) hBl nx (AB B2 m2 d2);have hr3:=Pr (j:=2) hr2 hk2 (Uq _ _ _ _ _ _ _ _ _ _ _ _ _ _ _ _ _ _) hBl nx (AB B3 m3 d3);have hr4:=Pr (j:=3) hr3 hk3 (Uq _ _ _ _ _ _ _ _ _ _ _ _ _ _ _ _ _ _) hBl nx (AB B4 m4 d4);have hr5:=Pr (j:=4) hr4 hk4 (Uq _ _ _ _ _ _ _ _ _ _ _ _ _ _ _ _ _ _) hBl nx (AB B5 m5 d5);have hr6:=Pr (j:=5) hr5 hk5 (Uq _ _ _ _ _ _ _ _ _ _ _ _ _ _ _ _ _ _) hBl nx (AB B6 m6 d6);have l1:wg.heap.size<=w1.heap.size:=hb1.size;have l2:=hb2.size;have l3:=hb3.size;have l4:=hb4.size;have l5:=hb5.size;have l6:=hb6.size;have b56:AK w5 w6:=hb6;have b46:AK w4 w6:=hb5.trans (b56.mono l5);have b36:AK w3 w6:=hb4.trans (b46.mono l4);have b26:AK w2 w6:=hb3.trans (b36.mono l3);have b16:AK w1 w6:=hb2.trans (b26.mono l2);have hwl:w.heap.size<=wg.heap.size:=AG
  have hst:St w wg.heap.size w6.heap.size R (w.heap.size+1) (w.heap.size+1+1) w1.heap.size w2.heap.size w3.heap.size w4.heap.size w5.heap.size s (AB B1 m1 d1) (AB B2 m2 d2) (AB B3 m3 d3) (AB B4 m4 d4) (AB B5 m5 d5) (AB B6 m6 d6) 0 s.units s.Ap s.rules s.converts s.purposes _:=
   ⟨Sm,Nat.le_of_eq AFN.symm,hr6,hk6.cell 0,hk6.cell 1,hk6.cell 2,hk6.cell 3,hk6.cell 4,hk6.cell 5,hk6.frozen,hd7.cell 0,hd7.frozen 0,
    mkRow BV Kd.o IY.o (Ac _) (fW IY.o b16 BN _ _ _ _ _ _) Sm hwl,
    mkRow Bp HC2.o Jc.o (Ac _) (fW Jc.o b26 AG _ _ _ _ _ _) Sm hwl,
    mkRow BM WY.o I4.o (Ac _) (fW I4.o b36 AG _ _ _ _ _ _) Sm hwl,
    mkRow Be PD.o Qa.o (Ac _) (fW Qa.o b46 AG _ _ _ _ _ _) Sm hwl,
    mkRow Bo uE.o X4.o (Ac _) (fW X4.o b56 AG _ _ _ _ _ _) Sm hwl,
    mkRow BO jf.o QZ.o (Ac _) (fW QZ.o (Ae _ _) AG _ _ _ _ _ _) Sm hwl⟩
  generalize (((((w6.setCell ⟨w.heap.size+1,0,none⟩ (AB B1 m1 d1)).setCell ⟨w.heap.size+1,1,none⟩ (AB B2 m2 d2)).setCell ⟨w.heap.size+1,2,none⟩ (AB B3 m3 d3)).setCell ⟨w.heap.size+1,3,none⟩ (AB B4 m4 d4)).setCell ⟨w.heap.size+1,4,none⟩ (AB B5 m5 d5)).setCell ⟨w.heap.size+1,5,none⟩ (AB B6 m6 d6)=w7 at hst ⊢;have HST:=AA hst;clear hst AFN Sm hk0 hk1 hk2 hk3 hk4 hk5 hk6 hd7 hr0 hr1 hr2 hr3 hr4 hr5 hr6 nx b56 b46 b36 b26 b16 hb1 hb2 hb3 hb4 hb5 hb6 hS6 x0 x1 x2 x3 x4 x5 y0 y1 y2 y3 y4 y5 IY Jc I4 Qa X4 QZ Kd HC2 WY PD uE jf EC AGe LJ HKB HKD Gp HOLD;have hNP:Pu s=none->Gg s=(110,Iv):=fun e=>by unfold Gg;rw [Ai (by rw [R7.o];simp),e]
  have pD:=AA hNP;clear hNP;have k1:=HST.o.b1;go_wp2_with fail;obtain ⟨b1',b2',b3',Sr,fl,PG,Hu,AFd,gD,nS,KJ⟩:=HST.o.res.Hz;have hc1:=Hu.cell 1;have hlR:=Hu.lt;simp only [Ak,Al,Az] at hc1;obtain ⟨cu,hou,hbu,hcu⟩:=HST.o.r2;refine (cQ R b2' w1.heap.size s.units.length (AB B2 m2 d2) s.units cu (G7 s) w7 hc1 hlR gD AG hou ⟨hcu.1,hcu.2⟩ rfl).mono ?_;rintro e wu ⟨hgu,Qh⟩;have hDl:w.heap.size+1+1 < wg.heap.size:=AG
  have cz:wg.heap.size<=w6.heap.size:=AG
  cases hup:Rf (G7 s) s.units with
  |
   none=>
   rw [hup] at Qh;subst Qh;have HF:=AA (HST.o.fall hgu (fun r e=>by have:=hou.lt r e;omega) hwl cz hBl hDl);have Cf:=AA (pD.o (by unfold Pu;rw [hup]));clear hup hgu hou hbu hcu Hu AFd gD nS KJ hc1 k1
   go_wp2
   refine QP HF.o AG AG AG Cf.o (fun w'' _ _ _ _ _ _ _=> ?_);simp [results,results102,go_sem, *]
  |
   some us=>
   rw [hup] at Qh;obtain ⟨rfl,cu',AFV,ACE⟩:=Qh;have cp:us.length=s.units.length:=TP (Ac _) hup;have hst:St w wg.heap.size w6.heap.size R (w.heap.size+1) (w.heap.size+1+1) w1.heap.size w2.heap.size w3.heap.size w4.heap.size w5.heap.size s (AB B1 m1 d1) (AB B2 m2 d2) (AB B3 m3 d3) (AB B4 m4 d4) (AB B5 m5 d5) (AB B6 m6 d6) 0 us s.Ap s.rules s.converts s.purposes wu:=by
    rcases Hr hou with ⟨hv,h0⟩ | ⟨G,gc,hv,hG,_⟩
    ·have hu0:us=s.units:=by rw [Ie (cp.trans h0),Ie h0]
     rw [hu0];rw [hv] at hgu;exact HST.o.below ⟨hgu.os,hgu.tape,hgu.output,hgu.size,fun k hk=>hgu.block k hk M1⟩ hwl cz hBl hDl
    have hGU:=hbu G (by rw [hv];rfl);rw [hv] at hgu;refine HST.o.turn (G:=G) hgu AG AG hwl hBl hDl (.inr ⟨cu',?_,hbu,⟨ACE.1,ACE.2⟩⟩) (.inl ⟨rfl,by omega⟩) (.inl ⟨rfl,by omega⟩) (.inl ⟨rfl,by omega⟩) (.inl ⟨rfl,by omega⟩) hG;rw [cp];exact AFV
   have JY:=AA hst;have Qn:=AA hup;have k2:=hst.b2;have VD:=AA cp;clear hst hup hgu hou hbu hcu AFV ACE cp Hu AFd gD nS KJ hc1 k1 hlR HST;go_wp2_with fail;clear k2;go_loopg [44] m3 (fun q j wr=>∃(k0:Nat) (Rn:List BL),k0<=m3/\q=m3 - k0/\j=AE AF k0/\ED (fun _=>Fl s) s.Ap k0=some Rn/\St w wg.heap.size w6.heap.size R (w.heap.size+1) (w.heap.size+1+1) w1.heap.size w2.heap.size w3.heap.size w4.heap.size w5.heap.size s (AB B1 m1 d1) (AB B2 m2 d2) (AB B3 m3 d3) (AB B4 m4 d4) (AB B5 m5 d5) (AB B6 m6 d6) 0 us (Rn++s.Ap.drop k0) s.rules s.converts s.purposes wr)
   case atStart=>exact ⟨0,[],Av _,rfl,rfl,rfl,JY.o⟩
   clear JY;obtain ⟨k0,Rn,hk0,hq0,rfl,AFL,hst⟩:=hrel;have Nf:=AA hq0;have gg:=AA AFL;clear hq0 AFL;by_cases hlt0:k0 < m3
   ·obtain ⟨m,hm⟩:∃m,s.Ap[k0]? =some m:=⟨s.Ap[k0]' eH,BJ _⟩
    have hlen:=Cn eH gg.o;have hat:(Rn++s.Ap.drop k0)[k0]? =some m:=by rw [Cp AG,EP,hlen];simpa using hm
    have I6:=hst.below ((Ae _ _).drew) hwl cz hBl hDl;obtain ⟨G,gc,cg,hv,hLG,hGU,hog,hrg,hil,hnn,hmk⟩:=I6.r3.at hat;injection hv with hv1 hv2 hv3;subst hv1 hv3;have hn2:m3<=9223372036854775807:=AG
    have kb:=hst.b2;have hkn:(k0:Int) < (m3:Int):=AG
    have hk0:(0:Int)<=(k0:Int):=AG
    have J0:Fl s m=none->Pu s=none:=fun hh=>by unfold Pu;rw [Qn.o];simp only;rw [Em (k:=k0+1) eH (FE gg.o hm hh)]
    have Rx:∀x,Fl s m=some x->ED (fun _=>Fl s) s.Ap (k0+1)=some (Rn++[x]):=fun x hx=>FZ gg.o hm hx;have hset:∀x,(Rn++s.Ap.drop k0).set k0 x=(Rn++[x])++s.Ap.drop (k0+1):=fun x=>set_drop hlen hm
    obtain ⟨b1',b2',b3',Sr,fl,PG,Hu,_,_,_,KJ⟩:=I6.res;have ACO:k0 < fl:=by have:=KJ.len;rw [this,Cb];exact (BD.1 hm).1
    have AFk:fl<=9223372036854775807:=by have:=KJ.le;omega
    obtain ⟨fb,oF,fm,fg,rfl,hfb,hfm,hfc,L9⟩:=Us KJ ACO;have hfx:fm=fieldMap m:=by rw [Bb,hm,Cl,Bu] at hfm;exact hfm.symm
    subst hfx;have ADj:=m8 Hu AX;have s3:wr.cell? ⟨R,3,none⟩=_:=ADj.cell 3;simp only [Ak,Al,Az] at s3;have s4:wr.cell? ⟨fb,oF+k0,none⟩=some (.map (some fg)):=XL hfc;have AJN:(k0:Int) < (fl:Int):=AG
    have HN:=AA (aA R wg.heap.size w6.heap.size w2.heap.size G _ _ k0 fg cg s m wr.drew I6.res AG AG I6.size L9 hog hil hrg);have Nd:=AA I6;have PH:=AA hmk;have NH:=AA J0;have av:=AA Rx;have aw:=AA hset;clear hst I6 hmk J0 Rx hset hog hrg hat hm hlen hv2 hnn hil Hu ADj KJ hfm hfc L9;go_wp2_with fail
    go_still_tail 12,AJ
    change wpList _ _ _ _ _ wr.drew;go_wp2_with fail;refine HN.o.mono ?_;rintro e w' ⟨hg',hr⟩;clear HN;cases htp:Fl s m with
    |
     none=>
     rw [htp] at hr;subst hr;have HF:=AA (Nd.o.fall hg' (fun r e=>by injection e;omega) hwl cz hBl hDl);have Cf:=AA (pD.o (NH.o htp));clear htp hg' kb s3 s4
     go_wp2
     refine QP HF.o AG AG AG Cf.o (fun w'' _ _ _ _ _ _ _=> ?_);simp [results,results102,go_sem, *]
    |
     some x=>
     rw [htp] at hr;obtain ⟨rfl,hro⟩:=hr;have hrow:=PH.o x w' hg' AG AG BM hro;rw [aw.o] at hrow;have SB:=AA (Nd.o.turn hg' AG AG hwl hBl hDl (.inl ⟨rfl,by omega⟩) (.inr hrow) (.inl ⟨rfl,by omega⟩) (.inl ⟨rfl,by omega⟩) (.inl ⟨rfl,by omega⟩) AG);have HY:=AA (av.o x htp);clear htp hg' kb hro hrow s3 s4;go_wp2_with fail;go_roundg (m3 - (k0+1))
     case measure=>have:=Nf.o;omega
     case rel=>exact ⟨k0+1,Rn++[x],by omega,rfl,by go_num,HY.o,SB.o⟩
   have vM:k0=s.Ap.length:=by have:=Kz.o;omega
   have HD0:AI (Ft (fun _=>Fl s) s.Ap=some Rn):=AA (by unfold Ft;rw [<-vM];exact gg.o);have HL0:=AA (show Rn.length=s.Ap.length by rw [Cn AG gg.o,vM]);rw [vM,Ji,FK] at hst;obtain ⟨ss,AFU⟩:=Ad Rn;rw [<-AFU] at hst HD0 HL0;clear AFU gg Nf vM;have kb:=hst.b3;have HS2:=AA hst;clear hst;go_wp2_with fail;clear kb;go_loopg [64] m4 (fun q j wr=>∃(k1:Nat) (out1:List Ce),k1<=m4/\q=m4 - k1/\j=AE AF k1/\ED (fun _=>GV s) s.rules k1=some out1/\St w wg.heap.size w6.heap.size R (w.heap.size+1) (w.heap.size+1+1) w1.heap.size w2.heap.size w3.heap.size w4.heap.size w5.heap.size s (AB B1 m1 d1) (AB B2 m2 d2) (AB B3 m3 d3) (AB B4 m4 d4) (AB B5 m5 d5) (AB B6 m6 d6) 0 us ss (out1++s.rules.drop k1) s.converts s.purposes wr)
   case atStart=>exact ⟨0,[],Av _,rfl,rfl,rfl,HS2.o⟩
   clear HS2;obtain ⟨k1,out1,hk1,hq1,rfl,AFK,hst⟩:=hrel;have df:=AA hq1;have gZ:=AA AFK;clear hq1 AFK;by_cases hlt1:k1 < m4
   ·obtain ⟨m,hm⟩:∃m,s.rules[k1]? =some m:=⟨s.rules[k1]' eG,BJ _⟩
    have hlen:=Cn eG gZ.o;have hat:(out1++s.rules.drop k1)[k1]? =some m:=by rw [Cp AG,EP,hlen];simpa using hm
    have I6:=hst;obtain ⟨G,gc,cg,hv,hLG,hGU,hog,hrg,hil,hnn,hmk⟩:=I6.r4.at hat;injection hv with hv1 hv2 hv3;subst hv1 hv3;have hn2:m4<=9223372036854775807:=AG
    have kb:=hst.b3;have hkn:(k1:Int) < (m4:Int):=AG
    have hk0:(0:Int)<=(k1:Int):=AG
    have J0:GV s m=none->Pu s=none:=fun hh=>by unfold Pu;rw [Qn.o];simp only;rw [HD0.o];simp only;rw [Em (k:=k1+1) eG (FE gZ.o hm hh)]
    have Rx:∀x,GV s m=some x->ED (fun _=>GV s) s.rules (k1+1)=some (out1++[x]):=fun x hx=>FZ gZ.o hm hx;have hset:∀x,(out1++s.rules.drop k1).set k1 x=(out1++[x])++s.rules.drop (k1+1):=fun x=>set_drop hlen hm
    have HN:=AA (fY R wg.heap.size w6.heap.size w3.heap.size G _ _ k1 cg s m wr I6.res AG AG I6.size hog hil hrg);have Nd:=AA I6;have PH:=AA hmk;have NH:=AA J0;have av:=AA Rx;have aw:=AA hset;clear hst I6 hmk J0 Rx hset hog hrg hat hm hlen hv2 hnn hil;go_wp2_with fail;refine HN.o.mono ?_;rintro e w' ⟨hg',hr⟩;clear HN;cases htp:GV s m with
    |
     none=>
     rw [htp] at hr;subst hr;have HF:=AA (Nd.o.fall hg' (fun r e=>by injection e;omega) hwl cz hBl hDl);have Cf:=AA (pD.o (NH.o htp));clear htp hg' kb
     go_wp2
     refine QP HF.o AG AG AG Cf.o (fun w'' _ _ _ _ _ _ _=> ?_);simp [results,results102,go_sem, *]
    |
     some x=>
     rw [htp] at hr;obtain ⟨rfl,hro⟩:=hr;have hrow:=PH.o x w' hg' AG AG Be hro;rw [aw.o] at hrow;have SB:=AA (Nd.o.turn hg' AG AG hwl hBl hDl (.inl ⟨rfl,by omega⟩) (.inl ⟨rfl,by omega⟩) (.inr hrow) (.inl ⟨rfl,by omega⟩) (.inl ⟨rfl,by omega⟩) AG);have HY:=AA (av.o x htp);clear htp hg' kb hro hrow;go_wp2_with fail;go_roundg (m4 - (k1+1))
     case measure=>have:=df.o;omega
     case rel=>exact ⟨k1+1,out1++[x],by omega,rfl,by go_num,HY.o,SB.o⟩
   have vL:k1=s.rules.length:=by have:=HN4.o;omega
   have HD1:AI (Ft (fun _=>GV s) s.rules=some out1):=AA (by unfold Ft;rw [<-vL];exact gZ.o);have SJ:=AA (show out1.length=s.rules.length by rw [Cn AG gZ.o,vL]);rw [vL,Ji,FK] at hst;obtain ⟨rs,ft⟩:=Ad out1;rw [<-ft] at hst HD1 SJ;clear ft gZ df vL;have kb:=hst.b4;have J6:=AA hst;clear hst;go_wp2_with fail;clear kb;go_loopg [77] m5 (fun q j wr=>∃(k2:Nat) (Rm:List C0),k2<=m5/\q=m5 - k2/\j=AE AF k2/\ED (fun _=>En s) s.converts k2=some Rm/\St w wg.heap.size w6.heap.size R (w.heap.size+1) (w.heap.size+1+1) w1.heap.size w2.heap.size w3.heap.size w4.heap.size w5.heap.size s (AB B1 m1 d1) (AB B2 m2 d2) (AB B3 m3 d3) (AB B4 m4 d4) (AB B5 m5 d5) (AB B6 m6 d6) 0 us ss rs (Rm++s.converts.drop k2) s.purposes wr)
   case atStart=>exact ⟨0,[],Av _,rfl,rfl,rfl,J6.o⟩
   clear J6;obtain ⟨k2,Rm,hk2,hq2,rfl,XU,hst⟩:=hrel;have Io:=AA hq2;have Td:=AA XU;clear hq2 XU;by_cases hlt2:k2 < m5
   ·obtain ⟨m,hm⟩:∃m,s.converts[k2]? =some m:=⟨s.converts[k2]' eF,BJ _⟩
    have hlen:=Cn eF Td.o;have hat:(Rm++s.converts.drop k2)[k2]? =some m:=by rw [Cp AG,EP,hlen];simpa using hm
    have I6:=hst;obtain ⟨G,gc,cg,hv,hLG,hGU,hog,hrg,hil,hnn,hmk⟩:=I6.r5.at hat;injection hv with hv1 hv2 hv3;subst hv1 hv3;have hn2:m5<=9223372036854775807:=AG
    have kb:=hst.b4;have hkn:(k2:Int) < (m5:Int):=AG
    have hk0:(0:Int)<=(k2:Int):=AG
    have J0:En s m=none->Pu s=none:=fun hh=>by unfold Pu;rw [Qn.o];simp only;rw [HD0.o];simp only;rw [HD1.o];simp only;rw [Em (k:=k2+1) eF (FE Td.o hm hh)]
    have Rx:∀x,En s m=some x->ED (fun _=>En s) s.converts (k2+1)=some (Rm++[x]):=fun x hx=>FZ Td.o hm hx;have hset:∀x,(Rm++s.converts.drop k2).set k2 x=(Rm++[x])++s.converts.drop (k2+1):=fun x=>set_drop hlen hm
    have HN:=AA (Y8 R wg.heap.size w6.heap.size w4.heap.size G _ _ k2 cg s m wr I6.res AG AG I6.size hog hil hrg);have Nd:=AA I6;have PH:=AA hmk;have NH:=AA J0;have av:=AA Rx;have aw:=AA hset;clear hst I6 hmk J0 Rx hset hog hrg hat hm hlen hv2 hnn hil;go_wp2_with fail;refine HN.o.mono ?_;rintro e w' ⟨hg',hr⟩;clear HN;cases htp:En s m with
    |
     none=>
     rw [htp] at hr;subst hr;have HF:=AA (Nd.o.fall hg' (fun r e=>by injection e;omega) hwl cz hBl hDl);have Cf:=AA (pD.o (NH.o htp));clear htp hg' kb
     go_wp2
     refine QP HF.o AG AG AG Cf.o (fun w'' _ _ _ _ _ _ _=> ?_);simp [results,results102,go_sem, *]
    |
     some x=>
     rw [htp] at hr;obtain ⟨rfl,hro⟩:=hr;have hrow:=PH.o x w' hg' AG AG Bo hro;rw [aw.o] at hrow;have SB:=AA (Nd.o.turn hg' AG AG hwl hBl hDl (.inl ⟨rfl,by omega⟩) (.inl ⟨rfl,by omega⟩) (.inl ⟨rfl,by omega⟩) (.inr hrow) (.inl ⟨rfl,by omega⟩) AG);have HY:=AA (av.o x htp);clear htp hg' kb hro hrow;go_wp2_with fail;go_roundg (m5 - (k2+1))
     case measure=>exact Jw
     case rel=>exact ⟨k2+1,Rm++[x],by omega,rfl,by go_num,HY.o,SB.o⟩
   have hke2:k2=s.converts.length:=by have:=WU.o;omega
   have HD2:AI (Ft (fun _=>En s) s.converts=some Rm):=AA rR;have HL2:=AA (show Rm.length=s.converts.length by rw [Cn AG Td.o,hke2]);rw [hke2,Ji,FK] at hst;obtain ⟨cv,AFT⟩:=Ad Rm;rw [<-AFT] at hst HD2 HL2;clear AFT Td Io hke2;have kb:=hst.b5;have jS:=AA hst;clear hst;go_wp2_with fail;clear kb;go_loopg [90] m6 (fun q j wr=>∃(k3:Nat) (Rl:List Cd),k3<=m6/\q=m6 - k3/\j=AE AF k3/\ED (fun _=>Gh s) s.purposes k3=some Rl/\St w wg.heap.size w6.heap.size R (w.heap.size+1) (w.heap.size+1+1) w1.heap.size w2.heap.size w3.heap.size w4.heap.size w5.heap.size s (AB B1 m1 d1) (AB B2 m2 d2) (AB B3 m3 d3) (AB B4 m4 d4) (AB B5 m5 d5) (AB B6 m6 d6) 0 us ss rs cv (Rl++s.purposes.drop k3) wr)
   case atStart=>exact ⟨0,[],Av _,rfl,rfl,rfl,jS.o⟩
   clear jS;obtain ⟨k3,Rl,hk3,hq3,rfl,AFJ,hst⟩:=hrel;have Xz:=AA hq3;have gY:=AA AFJ;clear hq3 AFJ;by_cases hlt3:k3 < m6
   ·obtain ⟨m,hm⟩:∃m,s.purposes[k3]? =some m:=⟨s.purposes[k3]' eE,BJ _⟩
    have hlen:=Cn eE gY.o;have hat:(Rl++s.purposes.drop k3)[k3]? =some m:=by rw [Cp AG,EP,hlen];simpa using hm
    have I6:=hst;obtain ⟨G,gc,cg,hv,hLG,hGU,hog,hrg,hil,hnn,hmk⟩:=I6.r6.at hat;injection hv with hv1 hv2 hv3;subst hv1 hv3;have hn2:m6<=9223372036854775807:=AG
    have kb:=hst.b5;have hkn:(k3:Int) < (m6:Int):=AG
    have hk0:(0:Int)<=(k3:Int):=AG
    have J0:Gh s m=none->Pu s=none:=fun hh=>by unfold Pu;rw [Qn.o];simp only;rw [HD0.o];simp only;rw [HD1.o];simp only;rw [HD2.o];simp only;rw [Em (k:=k3+1) eE (FE gY.o hm hh)]
    have Rx:∀x,Gh s m=some x->ED (fun _=>Gh s) s.purposes (k3+1)=some (Rl++[x]):=fun x hx=>FZ gY.o hm hx;have hset:∀x,(Rl++s.purposes.drop k3).set k3 x=(Rl++[x])++s.purposes.drop (k3+1):=fun x=>set_drop hlen hm
    have HN:=AA (Y7 R wg.heap.size w6.heap.size w5.heap.size G _ _ k3 cg s m wr I6.res AG AG I6.size hog hil hrg);have Nd:=AA I6;have PH:=AA hmk;have NH:=AA J0;have av:=AA Rx;have aw:=AA hset;clear hst I6 hmk J0 Rx hset hog hrg hat hm hlen hv2 hnn hil;go_wp2_with fail;refine HN.o.mono ?_;rintro e w' ⟨hg',hr⟩;clear HN;cases htp:Gh s m with
    |
     none=>
     rw [htp] at hr;subst hr;have HF:=AA (Nd.o.fall hg' (fun r e=>by injection e;omega) hwl cz hBl hDl);have Cf:=AA (pD.o (NH.o htp));clear htp hg' kb
     go_wp2
     refine QP HF.o AG AG AG Cf.o (fun w'' _ _ _ _ _ _ _=> ?_);simp [results,results102,go_sem, *]
    |
     some x=>
     rw [htp] at hr;obtain ⟨rfl,hro⟩:=hr;have hrow:=PH.o x w' hg' AG AG BO hro;rw [aw.o] at hrow;have SB:=AA (Nd.o.turn hg' AG AG hwl hBl hDl (.inl ⟨rfl,by omega⟩) (.inl ⟨rfl,by omega⟩) (.inl ⟨rfl,by omega⟩) (.inl ⟨rfl,by omega⟩) (.inr hrow) AG);have HY:=AA (av.o x htp);clear htp hg' kb hro hrow;go_wp2_with fail;go_roundg (m6 - (k3+1))
     case measure=>have:=Xz.o;omega
     case rel=>exact ⟨k3+1,Rl++[x],by omega,rfl,by go_num,HY.o,SB.o⟩
   have vK:k3=s.purposes.length:=by have:=HN6.o;omega
   have HD3:AI (Ft (fun _=>Gh s) s.purposes=some Rl):=AA (by unfold Ft;rw [<-vK];exact gY.o);have HL3:=AA (show Rl.length=s.purposes.length by rw [Cn AG gY.o,vK]);rw [vK,Ji,FK] at hst;obtain ⟨pp,AFS⟩:=Ad Rl;rw [<-AFS] at hst HD3 HL3;clear AFS gY Xz vK;have kb0:=hst.b0;have kb1:=hst.b1;have kb2:=hst.b2;have kb3:=hst.b3;have kb4:=hst.b4;have kb5:=hst.b5;have kd0:=hst.d0;have kdz:=hst.dz;have kz0:=hst.bz 0;have kz1:=hst.bz 1;have kz2:=hst.bz 2;have kz3:=hst.bz 3;have kz4:=hst.bz 4;have kz5:=hst.bz 5;have Kb:=AA hst;clear hst;go_wp2_with fail;have e0:=JT kb0;have e1:=JT kb1;have e2:=JT kb2;have e3:=JT kb3;have e4:=JT kb4;have e5:=JT kb5;have e6:=JT kd0;rw [e0,e1,e2,e3,e4,e5,e6];clear e0 e1 e2 e3 e4 e5 e6;refine N0 (f:=152) (args:=#[AW (some ⟨w.heap.size+1,0,none⟩),AW (some ⟨w.heap.size+1+1,0,none⟩)]) AX Kp ?_;refine (catch_idle ⟨w.heap.size+1,0,none⟩ ⟨w.heap.size+1+1,0,none⟩ _).mono ?_;rintro e u' w'' ⟨rfl,rfl,rfl⟩;have hN:Pu s=some {s with units:=us,Ap:=ss,rules:=rs,converts:=cv,purposes:=pp}:=by unfold Pu;rw [Qn.o];simp only;rw [HD0.o];simp only;rw [HD1.o];simp only;rw [HD2.o];simp only;rw [HD3.o]
   have hP:Gg s=(0,{s with units:=us,Ap:=ss,rules:=rs,converts:=cv,purposes:=pp}):=by unfold Gg;rw [Ai (by rw [R7.o];simp),hN]
   refine ⟨BQ #[AP #[AB B1 m1 d1,AB B2 m2 d2,AB B3 m3 d3,AB B4 m4 d4,AB B5 m5 d5,AB B6 m6 d6],AE AF 0],?_,[AB B1 m1 d1,AB B2 m2 d2,AB B3 m3 d3,AB B4 m4 d4,AB B5 m5 d5,AB B6 m6 d6],by rw [hP],?_,Kb.o.old⟩
   · simp [results,results102,go_sem, *]
   rw [hP];exact ⟨B1,m1,d1,B2,m2,d2,B3,m3,d3,B4,m4,d4,B5,m5,d5,B6,m6,d6,rfl,⟨Kb.o.r1.sl Ri,H1.o.2⟩,⟨Kb.o.r2.sl uW,by have:=H2.o.2;rw [VD.o];exact this⟩,⟨Kb.o.r3.sl mQ,by have:=H3.o.2;rw [HL0.o];exact this⟩,⟨Kb.o.r4.sl uZ,by have:=H4.o.2;rw [SJ.o];exact this⟩,⟨Kb.o.r5.sl jv,by have:=H5.o.2;rw [HL2.o];exact this⟩,⟨Kb.o.r6.sl jr,by have:=H6.o.2;rw [HL3.o];exact this⟩⟩
theorem Ag.Pw {α β:Type} {sz:Nat} {R:AH->List AN->α->Prop} {R':AH->List AN->β->Prop} {w:AH} {v:AN} {l:List α} (f:α->β) (h:Ag sz R w v l)
 (hR:∀cs x,x∈l->R w cs x->R' w cs (f x)):Ag sz R' w v (l.map f):=by
 obtain ⟨A,cap,e,h1,h2,h3⟩:=h;refine ⟨A,cap,by simpa using e,by simpa using h1,h2,fun i y hi=> ?_⟩;rw [Bb] at hi;cases hx:l[i]? with
 | none=>rw [hx] at hi;cases hi
 |
  some x=>
  rw [hx] at hi;cases hi;obtain ⟨b,off,cs,e1,e2,e3,e4,e5⟩:=h3 i x hx;exact ⟨b,off,cs,e1,e2,e3,e4,hR cs x (CS hx) e5⟩
def Oo (x:Int):Prop:= -9223372036854775808<=x/\x<=9223372036854775807
instance (x:Int):Decidable (Oo x):=by unfold Oo;infer_instance
theorem iq {w:AH} {v:AN} {l:AQ} (h:Ag 1 iR w v l) (hl:∀x∈l,Oo x):Ag 1 CK w v l:=by have:=h.Pw (R':=CK) (fun x=>x) (fun cs x hx hr=>⟨hr,(hl x hx).1,(hl x hx).2⟩);simpa using this
def Vs (d:Mg):jk:=⟨d.src,d.dst⟩
def IV (d:Mg):Prop:=(∀x∈d.src,Oo x)/\Oo d.dst
instance (d:Mg):Decidable (IV d):=by unfold IV;infer_instance
theorem AAV {w:AH} {v:AN} {l:List Mg} (h:Ag 4 Hc w v l) (hl:∀d∈l,IV d):Ag 4 vw w v (l.map Vs):=by refine h.Pw Vs (fun cs x hx hr=> ?_);obtain ⟨A1,n1,c1,A2,n2,c2,rfl,_,h2⟩:=hr;exact ⟨A1,n1,c1,x.name,A2,n2,c2,rfl,iq h2.1 (hl x hx).1,(hl x hx).2.1,(hl x hx).2.2⟩
structure aq (A1 A2 A3 A4 A5 A6:Option Aa) (n1 c1 n2 c2 n3 c3 n4 c4 n5 c5 n6 c6:Nat) (s:BB) (pv:C0->Bool) (w:AH):Prop where
 rules:s.Ap.all (Dn s.Bg.length s.units.length)=true->∀(W:AH) (g:Nat),AK w W->AZ W g 137 #[AB A1 n1 c1,AB A2 n2 c2,AB A3 n3 c3,AB A4 n4 c4,AB A5 n5 c5,AB A6 n6 c6]->Says 104 #[] #[AW (some ⟨g,0,none⟩)] CF (Iw s.units s.Ap) s.rules W
 ui:∀(W:AH),AK w W->Says 112 #[(AP #[AB A1 n1 c1,AB A2 n2 c2,AB A3 n3 c3,AB A4 n4 c4,AB A5 n5 c5,AB A6 n6 c6])] #[] BW (FY s.Ap) s.purposes W
 vers:∀(W:AH),AK w W->Says 116 #[(AP #[AB A1 n1 c1,AB A2 n2 c2,AB A3 n3 c3,AB A4 n4 c4,AB A5 n5 c5,AB A6 n6 c6])] #[] Bw pv s.converts W
theorem aq.below {A1 A2 A3 A4 A5 A6:Option Aa} {n1 c1 n2 c2 n3 c3 n4 c4 n5 c5 n6 c6:Nat} {s:BB} {pv:C0->Bool} {w w':AH} (h:aq A1 A2 A3 A4 A5 A6 n1 c1 n2 c2 n3 c3 n4 c4 n5 c5 n6 c6 s pv w) (hb:AK w w'):aq A1 A2 A3 A4 A5 A6 n1 c1 n2 c2 n3 c3 n4 c4 n5 c5 n6 c6 s pv w':=
 ⟨fun k W g hW=>h.rules k W g (AV hb hW),fun W hW=>h.ui W (AV hb hW),fun W hW=>h.vers W (AV hb hW)⟩
def OG (s:BB):Int:=if (Gg s).1=0 then (if (Gg s).2=s then 0 else 160) else (Gg s).1
def NY (s:BB):Int:=if s.Ap.all (fun x=>Mc x.fields.length (x.deps.map Vs)) then 0 else 130
def J9 (s:BB):Int:=
 if J8 s=0 then (if decide (s.Ap.length<=(Cg s.rules s.Ap.length).length) && (Dk [] (Cg s.rules s.Ap.length) && decide ((Cg s.rules s.Ap.length).length=s.Ap.length)) then 0 else 141) else J8 s
def QK (pv:C0->Bool) (s:BB):Int:=if s.converts.all pv then 0 else 150
theorem mK (s:BB) (w:AH) (h1:BT 1 16 DQ w (AB A1 n1 c1) s.Bg) (h2:BT 5 56 CD w (AB A2 n2 c2) s.units) (h3:BT 6 96 BU w (AB A3 n3 c3) s.Ap) (h4:BT 5 96 CF w (AB A4 n4 c4) s.rules) (h5:BT 5 72 Bw w (AB A5 n5 c5) s.converts) (h6:BT 3 48 BW w (AB A6 n6 c6) s.purposes):
 AS prog 74 #[(AP #[AB A1 n1 c1,AB A2 n2 c2,AB A3 n3 c3,AB A4 n4 c4,AB A5 n5 c5,AB A6 n6 c6])] w fun e w'=>e=AU (AE AF (OG s))/\AK w w':=by
 have hb0:AK w (w.alloc (AO #[AB A1 n1 c1,AB A2 n2 c2,AB A3 n3 c3,AB A4 n4 c4,AB A5 n5 c5,AB A6 n6 c6] 29)):=(BE _ _);have HC:AI (AS prog 102 #[(AP #[AB A1 n1 c1,AB A2 n2 c2,AB A3 n3 c3,AB A4 n4 c4,AB A5 n5 c5,AB A6 n6 c6])] (w.alloc (AO #[AB A1 n1 c1,AB A2 n2 c2,AB A3 n3 c3,AB A4 n4 c4,AB A5 n5 c5,AB A6 n6 c6] 29)) (Vx s (w.alloc (AO #[AB A1 n1 c1,AB A2 n2 c2,AB A3 n3 c3,AB A4 n4 c4,AB A5 n5 c5,AB A6 n6 c6] 29)))):=AA (qC A1 A2 A3 A4 A5 A6 n1 c1 n2 c2 n3 c3 n4 c4 n5 c5 n6 c6 s _ (h1.mono BV hb0) (h2.mono Bp hb0) (h3.mono BM hb0) (h4.mono Be hb0) (h5.mono Bo hb0) (h6.mono BO hb0));have HB0:=AA hb0;clear hb0;have H1:=AA h1;have H2:=AA h2;have H3:=AA h3;have H4:=AA h4;have H5:=AA h5;have H6:=AA h6;clear h1 h2 h3 h4 h5 h6;obtain ⟨t,ht⟩:=BP ((Gg s).1);obtain ⟨x,hx⟩:=BP ((Gg s).2);have HT:=AA ht;have HX:=AA hx;clear ht hx;go_enter func74,ntmps74;go_wp2_with (go_at_call 102;refine HC.o.mono ?_);rintro e w1 ⟨cs,rfl,hsrc,hb1⟩;rw [HX.o] at hsrc;rw [HT.o];obtain ⟨B1,m1,d1,B2,m2,d2,B3,m3,d3,B4,m4,d4,B5,m5,d5,B6,m6,d6,rfl,k1,k2,k3,k4,k5,k6⟩:=hsrc;have HB1:AI (AK w w1):=AA (AV HB0.o hb1);have kb:=(AZ.new w 29 #[AB A1 n1 c1,AB A2 n2 c2,AB A3 n3 c3,AB A4 n4 c4,AB A5 n5 c5,AB A6 n6 c6]).below hb1 AX;have q0:=kb.cell 0;have q1:=kb.cell 1;have q2:=kb.cell 2;have q3:=kb.cell 3;have q4:=kb.cell 4;have q5:=kb.cell 5;have lq:=kb.lt;simp only [Ak,Al,Az] at q0 q1 q2 q3 q4 q5;have K1:=AA k1;have K2:=AA k2;have K3:=AA k3;have K4:=AA k4;have K5:=AA k5;have K6:=AA k6;clear hb1 kb HC k1 k2 k3 k4 k5 k6;by_cases ht0:t=0
 ·subst ht0
  have hba:∀o,AK w1 (w1.alloc o):=fun o=>(Ae _ _).alloc (Ac _) o;obtain ⟨v,hv⟩:∃v,decide (x=s)=v:=⟨_,rfl⟩;have HV:=AA hv;have HS:AI (∀o,AS prog 80 #[AP #[AB B1 m1 d1,AB B2 m2 d2,AB B3 m3 d3,AB B4 m4 d4,AB B5 m5 d5,AB B6 m6 d6],(AP #[AB A1 n1 c1,AB A2 n2 c2,AB A3 n3 c3,AB A4 n4 c4,AB A5 n5 c5,AB A6 n6 c6])] (w1.alloc o) fun e w'=>e=AU (Ab v)/\BI (w1.alloc o).heap.size (w1.alloc o) w'):=AA (fun o=>by
   have:=Ug B1 A1 B2 A2 B3 A3 B4 A4 B5 A5 B6 A6 m1 d1 n1 c1 m2 d2 n2 c2 m3 d3 n3 c3 m4 d4 n4 c4 m5 d5 n5 c5 m6 d6 n6 c6 x s (w1.alloc o)
    (K1.o.1.mono BV (hba o)) (H1.o.1.mono BV (AV HB1.o (hba o)))
    (K2.o.1.mono Bp (hba o)) (H2.o.1.mono Bp (AV HB1.o (hba o)))
    (K3.o.1.mono BM (hba o)) (H3.o.1.mono BM (AV HB1.o (hba o)))
    (K4.o.1.mono Be (hba o)) (H4.o.1.mono Be (AV HB1.o (hba o)))
    (K5.o.1.mono Bo (hba o)) (H5.o.1.mono Bo (AV HB1.o (hba o)))
    (K6.o.1.mono BO (hba o)) (H6.o.1.mono BO (AV HB1.o (hba o)))
   rw [hv] at this;exact this)
  clear hv hba;go_wp2_with (go_at_call 80;refine (HS.o _).mono ?_;clear HS)
  first | rintro e w2 rfl hb2 | rintro e w2 ⟨rfl,hb2⟩
  have HB2:AI (AK w w2):=AA ((HB1.o.alloc HB1.o.size _).trans (hb2.mono eS));clear hb2;cases v with
  |
   true=>
   go_wp2_with fail;go_ret;exact ⟨Cz (by rw [OG,Ao HT.o,HX.o,Ao (F8 HV.o)]),HB2.o⟩
  |
   false=>
   go_wp2_with fail;go_ret;exact ⟨Cz (by rw [OG,Ao HT.o,HX.o,Ai (RM HV.o)]),HB2.o⟩
 have htn:(t !=0)=true:=by simpa using ht0
 go_wp2_with fail;go_ret;exact ⟨Cz (by rw [OG,Ai (by rw [HT.o];exact ht0),HT.o]),HB1.o.alloc HB1.o.size _⟩
theorem gK (s:BB) (w:AH) (h3:BT 6 96 BU w (AB A3 n3 c3) s.Ap) (hI:∀x∈s.Ap,∀d∈x.deps,IV d):
 AS prog 76 #[(AP #[AB A1 n1 c1,AB A2 n2 c2,AB A3 n3 c3,AB A4 n4 c4,AB A5 n5 c5,AB A6 n6 c6])] w fun e w'=>e=AU (AE AF (NY s))/\AK w w':=by
 have hn3:n3<=9223372036854775807:=by have:=h3.1.le;omega
 have HN:=AA h3.1.len;have H3:=AA h3.1;have HI:=AA hI;clear h3 hI;have HB0:AI (AK w (w.alloc (AO #[AB A1 n1 c1,AB A2 n2 c2,AB A3 n3 c3,AB A4 n4 c4,AB A5 n5 c5,AB A6 n6 c6] 29))):=AA (BE _ _);go_enter func76,ntmps76;go_wp2_with fail;go_loopg [9] n3 (fun q i wr=>∃k:Nat,k<=n3/\q=n3 - k/\i=AE AF k/\(s.Ap.take k).all (fun x=>Mc x.fields.length (x.deps.map Vs))=true/\AK w wr)
 case atStart=>exact ⟨0,Av _,rfl,rfl,rfl,HB0.o⟩
 clear HB0;obtain ⟨k,hk,hq,rfl,hv,hb⟩:=hrel;have HQ:=AA hq;have HB:=AA hb;have HV:=AA hv;clear hq hb hv;by_cases hlt:k < n3
 ·obtain ⟨b,off,x,B1,m1,d1,B2,m2,d2,rfl,hbl,hx,e0,e1,e2,e3,e4,e5,g1,g2⟩:=Fx (H3.o.mono BM HB.o) hlt
  have HX:=AA hx;have hkn:(k:Int) < (n3:Int):=AG
  have hk0:=Int.natCast_nonneg k
  have hfl:m1=x.fields.length:=g1.1.len;have hm1:m1<=9223372036854775807:=by have:=g1.1.le;omega
  obtain ⟨v,hv⟩:=BP (Mc x.fields.length (x.deps.map Vs));have Dw:=AA hv;have HC:AI (∀o,AS prog 113 #[AP #[AL x.name,AL x.FD,AE AF x.Ar,AE AF x.version,AB B1 m1 d1,AB B2 m2 d2]] (wr.alloc o) fun e w'=>e=AU (AE AF (eno v))/\BI (wr.alloc o).heap.size (wr.alloc o) w'):=AA (fun o=>by have:=check_any x.name x.FD x.Ar x.version B1 B2 m1 d1 m2 d2 (x.deps.map Vs) (wr.alloc o) hm1 ((AAV g2.1 (HI.o x (CS hx))).mono jG (BE _ _));rw [hfl,hv] at this;rw [hfl];exact this)
  clear hx g1 g2 hv hfl;go_wp2_with (go_at_call 113;refine (HC.o _).mono ?_;clear HC)
  first | rintro e w1 rfl hb1 | rintro e w1 ⟨rfl,hb1⟩
  have HB1:AI (AK w w1):=AA ((HB.o.alloc HB.o.size _).trans (hb1.mono UL));clear hb1;cases v with
  |
   true=>
   rw [show eno true=0 from rfl];go_wp2_with fail;go_roundg (n3 - (k+1))
   case measure=>exact BS
   case rel=>exact ⟨k+1,by omega,rfl,by go_num,Dc HX.o Dw.o HV.o,HB1.o⟩
  |
   false=>
   rw [show eno false=130 from rfl];go_wp2_with fail;go_ret;exact ⟨Cz (by rw [NY,JX HX.o Dw.o];rfl),HB1.o⟩
 have HT:AI (s.Ap.all (fun x=>Mc x.fields.length (x.deps.map Vs))=true):=by have:=HV.o;rw [Cu Gx] at this;exact this
 go_wp2_with fail;go_ret;exact ⟨Cz (by rw [NY,HT.o];rfl),HB.o⟩
theorem yW (A:Option Aa) (n c:Nat) (l:AQ) (many:Nat) (w:AH) (hs:Ag 1 iR w (AB A n c) l):
 AS prog 115 #[.map (some w.heap.size),AB A n c,AE AF many] (w.alloc (.map #[] 0)) fun e w'=>e=AU (Ab (Dk [] l && decide (l.length=many)))/\AK w w':=by
 have hn2:n<=9223372036854775807:=by have:=hs.le;omega
 have HN:=AA hs.len;have HS:=AA hs;have HM:AI (MapAt (Value.int .i64) Value.bool (w.alloc (.map #[] 0)) w.heap.size (Ep ([]:AQ))):=AA (MapAt.new _ _ w);have HB0:AI (AK w (w.alloc (.map #[] 0))):=AA (BE _ _);clear hs;obtain ⟨v,hv⟩:=BP (Dk [] l);rw [hv];have HV:AI (Dk (l.take 0) (l.drop 0)=v):=AA hv;clear hv;go_enter func115,ntmps115;go_wp2_with fail;go_loopg [11] n (fun g i wr=>∃k:Nat,k<=n/\g=n - k/\i=AE AF k/\Dk (l.take k) (l.drop k)=v/\MapAt (Value.int .i64) Value.bool wr w.heap.size (Ep (l.take k))/\AK w wr)
 case atStart=>exact ⟨0,Av _,rfl,rfl,HV.o,HM.o,HB0.o⟩
 clear HM HV HB0;obtain ⟨k,hk,hg,rfl,hv,hm,hb⟩:=hrel;have HG:=AA hg;have HB:=AA hb;by_cases hlt:k < n
 ·obtain ⟨bb,off,x,rfl,AFt,hx,hc⟩:=vD HS.o hlt
  have hc2:=(HB.o.cell (p:=⟨bb,off+k,none⟩) AFt).trans hc;have ACH:bb < wr.heap.size:=Au AFt hb.size;rw [drop_cons hx,Dk] at hv;have hlook:=C8 (GI underlying3) underlying210 (z:=Ab false) AJ hm x false;rw [Xa] at hlook;by_cases hmem:x∈l.take k
  ·rw [Ao hmem] at hv hlook
   subst hv;simp only [Cl,Cc,Gu,F5] at hlook;clear hx hg hb hm hmem hc;exact P8
  rw [Ai hmem] at hv hlook;simp only [JJ,Jj,Gu,F5] at hlook;obtain ⟨w3,hrun3,Dm,hg3⟩:=FB (GI underlying3) underlying210 hm x true;rw [Sf _ _ hmem,<-take_snoc hx] at Dm;rw [<-take_snoc hx] at hv;have HB3:AI (AK w w3):=AA (HB.o.grown hg3 HB.o.size (fun r e=>by cases e;exact Ac _));have G9:=AA Dm;have HV3:=AA hv;clear Dm hg3 hv hx hg hb hm hmem hc;go_wp2_with fail;go_roundg (n - (k+1))
  case measure=>exact EF
  case rel=>exact lE
 rw [Ex Gx] at hv;subst hv;clear hm hb;by_cases hnm:n=many
 ·subst hnm
  go_wp2_with fail;go_ret;exact ⟨Ay (by simp [Dk,HN.o]),HB.o⟩
 have AJC:¬(n:Int)=(many:Int):=AG
 go_wp2_with fail;go_ret;exact ⟨Ay (by rw [Bc Gx];simp;omega),HB.o⟩
theorem Zv (s:BB) (pv:C0->Bool) (w:AH) (h5:BT 5 72 Bw w (AB A5 n5 c5) s.converts) (hv:∀(W:AH),AK w W->Says 116 #[(AP #[AB A1 n1 c1,AB A2 n2 c2,AB A3 n3 c3,AB A4 n4 c4,AB A5 n5 c5,AB A6 n6 c6])] #[] Bw pv s.converts W):
 AS prog 78 #[(AP #[AB A1 n1 c1,AB A2 n2 c2,AB A3 n3 c3,AB A4 n4 c4,AB A5 n5 c5,AB A6 n6 c6])] w fun e w'=>e=AU (AE AF (QK pv s))/\AK w w':=by
 have hn5:n5<=9223372036854775807:=by have:=h5.1.le;omega
 have HN:=AA h5.1.len;have H5:=AA h5.1;have HV0:=AA hv;clear h5 hv;have HB0:AI (AK w (w.alloc (AO #[AB A1 n1 c1,AB A2 n2 c2,AB A3 n3 c3,AB A4 n4 c4,AB A5 n5 c5,AB A6 n6 c6] 29))):=AA (BE _ _);have VI:AI (AZ (w.alloc (AO #[AB A1 n1 c1,AB A2 n2 c2,AB A3 n3 c3,AB A4 n4 c4,AB A5 n5 c5,AB A6 n6 c6] 29)) w.heap.size 29 #[AB A1 n1 c1,AB A2 n2 c2,AB A3 n3 c3,AB A4 n4 c4,AB A5 n5 c5,AB A6 n6 c6]):=AA (AZ.new _ _ _);go_enter func78,ntmps78;go_wp2_with fail;go_loopg [8] n5 (fun q i wr=>∃k:Nat,k<=n5/\q=n5 - k/\i=AE AF k/\(s.converts.take k).all pv=true/\AZ wr w.heap.size 29 #[AB A1 n1 c1,AB A2 n2 c2,AB A3 n3 c3,AB A4 n4 c4,AB A5 n5 c5,AB A6 n6 c6]/\AK w wr)
 case atStart=>exact ⟨0,Av _,rfl,rfl,rfl,VI.o,HB0.o⟩
 clear HB0 VI;obtain ⟨k,hk,hq,rfl,hv,hkb,hb⟩:=hrel;have HQ:=AA hq;have HB:=AA hb;have HV:=AA hv;have HK:=AA hkb;have q0:=hkb.cell 0;have q1:=hkb.cell 1;have q2:=hkb.cell 2;have q3:=hkb.cell 3;have q4:=hkb.cell 4;have q5:=hkb.cell 5;have lq:=hkb.lt;simp only [Ak,Al,Az] at q0 q1 q2 q3 q4 q5;clear hq hb hv hkb;by_cases hlt:k < n5
 ·obtain ⟨b,off,x,B1,m1,d1,rfl,hbl,hx,e0,e1,e2,e3,e4,g1⟩:=QC (H5.o.mono Bo HB.o) hlt
  have HX:=AA hx;have hkn:(k:Int) < (n5:Int):=AG
  have hk0:=Int.natCast_nonneg k
  obtain ⟨v,hv⟩:=BP (pv x);have Dw:=AA hv;have HC:AI (∀o,AS prog 116 #[(AP #[AB A1 n1 c1,AB A2 n2 c2,AB A3 n3 c3,AB A4 n4 c4,AB (some ⟨b,off,none⟩) n5 c5,AB A6 n6 c6]),AP #[AL x.from_,AL x.DJ,AE AF x.a,AE AF x.b,AB B1 m1 d1]] (wr.alloc o) fun e w'=>e=AU (Ab v)/\BI (wr.alloc o).heap.size (wr.alloc o) w'):=AA (fun o=>by have hba:AK wr (wr.alloc o):=(Ae _ _).alloc (Ac _) o;have:=HV0.o wr HB.o (wr.alloc o) [AL x.from_,AL x.DJ,AE AF x.a,AE AF x.b,AB B1 m1 d1] x hba (CS hx) (Bo _ _ hba _ _ ⟨B1,m1,d1,rfl,g1⟩);rw [hv] at this;exact this)
  clear hx g1 hv;go_wp2_with (go_at_call 116;refine (HC.o _).mono ?_;clear HC)
  first | rintro e w1 rfl hb1 | rintro e w1 ⟨rfl,hb1⟩
  have HB1:AI (AK w w1):=AA ((HB.o.alloc HB.o.size _).trans (hb1.mono UL));have pK:AI (AZ w1 w.heap.size 29 #[AB A1 n1 c1,AB A2 n2 c2,AB A3 n3 c3,AB A4 n4 c4,AB (some ⟨b,off,none⟩) n5 c5,AB A6 n6 c6]):=AA ((HK.o.alloc _).below hb1 BN);clear hb1;cases v with
  |
   true=>
   go_wp2_with fail;go_roundg (n5 - (k+1))
   case measure=>exact BS
   case rel=>exact ⟨k+1,by omega,rfl,by go_num,Dc HX.o Dw.o HV.o,pK.o,HB1.o⟩
  |
   false=>
   go_wp2_with fail;go_ret;exact ⟨Cz (by rw [QK,JX HX.o Dw.o];rfl),HB1.o⟩
 have HT:AI (s.converts.all pv=true):=by have:=HV.o;rw [Cu Gx] at this;exact this
 go_wp2_with fail;go_ret;exact ⟨Cz (by rw [QK,HT.o];rfl),HB.o⟩
theorem qK (s:BB) (pv:C0->Bool) (w:AH) (h1:BT 1 16 DQ w (AB A1 n1 c1) s.Bg) (h2:BT 5 56 CD w (AB A2 n2 c2) s.units) (h3:BT 6 96 BU w (AB A3 n3 c3) s.Ap) (h4:BT 5 96 CF w (AB A4 n4 c4) s.rules) (h5:BT 5 72 Bw w (AB A5 n5 c5) s.converts) (h6:BT 3 48 BW w (AB A6 n6 c6) s.purposes) (hsub:aq A1 A2 A3 A4 A5 A6 n1 c1 n2 c2 n3 c3 n4 c4 n5 c5 n6 c6 s pv w):
 AS prog 77 #[(AP #[AB A1 n1 c1,AB A2 n2 c2,AB A3 n3 c3,AB A4 n4 c4,AB A5 n5 c5,AB A6 n6 c6])] w fun e w'=>e=AU (AE AF (J9 s))/\AK w w':=by
 have hb0:AK w (w.alloc (AO #[AB A1 n1 c1,AB A2 n2 c2,AB A3 n3 c3,AB A4 n4 c4,AB A5 n5 c5,AB A6 n6 c6] 29)):=(BE _ _);obtain ⟨t,ht⟩:=BP (J8 s);have HC:AI (AS prog 114 #[(AP #[AB A1 n1 c1,AB A2 n2 c2,AB A3 n3 c3,AB A4 n4 c4,AB A5 n5 c5,AB A6 n6 c6])] (w.alloc (AO #[AB A1 n1 c1,AB A2 n2 c2,AB A3 n3 c3,AB A4 n4 c4,AB A5 n5 c5,AB A6 n6 c6] 29)) fun e w'=>e=AU (AE AF t)/\BI (w.alloc (AO #[AB A1 n1 c1,AB A2 n2 c2,AB A3 n3 c3,AB A4 n4 c4,AB A5 n5 c5,AB A6 n6 c6] 29)).heap.size (w.alloc (AO #[AB A1 n1 c1,AB A2 n2 c2,AB A3 n3 c3,AB A4 n4 c4,AB A5 n5 c5,AB A6 n6 c6] 29)) w'):=AA (by rw [<-ht];have hs2:=hsub.below hb0;exact jo A1 A2 A3 A4 A5 A6 n1 c1 n2 c2 n3 c3 n4 c4 n5 c5 n6 c6 s _ (h1.1.mono BV hb0) (h2.1.mono Bp hb0) (h3.1.mono BM hb0) (h4.1.mono Be hb0) h5.1.len (h6.1.mono BO hb0) hs2.rules hs2.ui)
 have HT:=AA ht;have HB0:=AA hb0;have Kz:=AA h3.1.len;have H4:=AA h4.1;clear ht hb0 h1 h2 h3 h4 h5 h6 hsub;have hmm:∀(w:AH),(Instr.makeMap 210 none).run prog w=.ok (.map (some w.heap.size)) (w.alloc (.map #[] 0)):=by intro w;simp [Instr.makeMap]
 go_enter func77,ntmps77;go_wp2_with (go_at_call 114;refine HC.o.mono ?_)
 first | rintro e w1 rfl hb1 | rintro e w1 ⟨rfl,hb1⟩
 have HB1:AI (AK w w1):=AA (AV HB0.o hb1);have kb:=(AZ.new w 29 #[AB A1 n1 c1,AB A2 n2 c2,AB A3 n3 c3,AB A4 n4 c4,AB A5 n5 c5,AB A6 n6 c6]).below hb1 AX;have q0:=kb.cell 0;have q1:=kb.cell 1;have q2:=kb.cell 2;have q3:=kb.cell 3;have q4:=kb.cell 4;have q5:=kb.cell 5;have lq:=kb.lt;simp only [Ak,Al,Az] at q0 q1 q2 q3 q4 q5;have HKB:=AA kb;clear hb1 kb HC;by_cases ht0:t=0
 ·subst ht0
  have jP:AI (E9 s=0):=AA (by
   have:=HT.o;unfold J8 at this;split at this
   · assumption
   · next h=>exact absurd this h)
  have P7:AI (n3<=1000/\∀r∈s.rules,(0<=r.schema/\r.schema < n3)/\∀f∈r.froms,0<=f.schema/\f.schema < n3):=AA (by obtain ⟨h1,h2,h3,h4,h5⟩:=TQ jP.o;refine ⟨by have:=Ol h1;have:=Kz.o;omega,fun r hr=> ?_⟩;rw [Kz.o];exact VY (De.1 h4 r hr))
  go_wp2_with (go_at_call 79;refine (XF A1 A2 A3 A4 A5 A6 n1 c1 n2 c2 n3 c3 n4 c4 n5 c5 n6 c6 s.rules w1 (H4.o.mono Be HB1.o) P7.o.1 P7.o.2).mono ?_)
  first | rintro e w2 v ok rfl hok hv hb2 | rintro e w2 ⟨v,ok,rfl,hok,hv,hb2⟩
  have I3:=AA hok;have HB2:AI (AK w w2):=AA (AV HB1.o hb2);have kb:=HKB.o.below hb2 lq;have q2:=kb.cell 2;have lq2:=kb.lt;simp only [Ak,Al,Az] at q2;have hv:=M6 hv;obtain ⟨A,c,rfl⟩:=hv.form;have HV:=AA hv;clear hok hv hb2 kb q0 q1 q3 q4 q5;cases ok with
  |
   true=>
   have HVO:AI (Ag 1 iR w2 (AB A (Cg s.rules n3).length c) (Cg s.rules n3)):=AA HV.o;clear HV;simp only [C5];obtain ⟨v2,hv2⟩:∃v2,(Dk [] (Cg s.rules n3) && decide ((Cg s.rules n3).length=n3))=v2:=⟨_,rfl⟩;have Dw:=AA hv2;have HWC:AI (AS prog 115 #[.map (some w2.heap.size),AB A (Cg s.rules n3).length c,AE AF n3] (w2.alloc (.map #[] 0)) fun e w'=>e=AU (Ab v2)/\AK w2 w'):=AA (by have:=yW A (Cg s.rules n3).length c (Cg s.rules n3) n3 w2 HVO.o;rw [hv2] at this;exact this)
   clear hv2;go_wp2_with (go_at_call 115;refine HWC.o.mono ?_;clear HWC)
   first | rintro e w3 rfl hb3 | rintro e w3 ⟨rfl,hb3⟩
   have HB3:AI (AK w w3):=AA (AV HB2.o hb3);clear hb3;have HP:AI (J9 s=if v2 then 0 else 141):=AA (by rw [J9,Ao HT.o,<-Kz.o,Dw.o,<-I3.o,JI])
   cases v2 with
   |
    true=>
    go_wp2_with fail;go_ret;exact ⟨Cz (by rw [HP.o];rfl),HB3.o⟩
   |
    false=>
    go_wp2_with fail;go_ret;exact ⟨Cz (by rw [HP.o];rfl),HB3.o⟩
  |
   false=>
   go_wp2_with fail;go_ret;exact ⟨Cz (by rw [J9,Ao HT.o,<-Kz.o,<-I3.o,Bool.false_and];rfl),HB2.o⟩
 have htn:(t !=0)=true:=by simpa using ht0
 go_wp2_with fail;go_ret;exact ⟨Cz (by rw [J9,HT.o,Ai ht0]),HB1.o⟩
def Hf (pv:C0->Bool) (s:BB):AQ:=[OG s,E9 s,NY s,J9 s,QK pv s]
def Oj (pv:C0->Bool) (s:BB):Int:=((Hf pv s).find? fun x=>decide (x≠0)).getD 0
theorem zf {pv:C0->Bool} {s:BB} {j:Nat} {t:Int} (h:((Hf pv s).take j).all (fun x=>decide (x=0))=true) (hj:(Hf pv s)[j]? =some t) (ht:t≠0):Oj pv s=t:=by
 unfold Oj;have hs:Hf pv s=(Hf pv s).take j++t::(Hf pv s).drop (j+1):=by rw [<-drop_cons hj,Tw]
 rw [hs,List.find?_append];have hn:((Hf pv s).take j).find? (fun x=>decide (x≠0))=none:=by rw [List.find?_eq_none];intro x hx;have:=De.1 h x hx;simpa using this
 rw [hn];simp [ht]
theorem qV {pv:C0->Bool} {s:BB} (h:(Hf pv s).all (fun x=>decide (x=0))=true):Oj pv s=0:=by
 unfold Oj;have hn:(Hf pv s).find? (fun x=>decide (x≠0))=none:=by rw [List.find?_eq_none];intro x hx;have:=De.1 h x hx;simpa using this
 rw [hn];rfl
def oX (A1 A2 A3 A4 A5 A6:Option Aa) (n1 c1 n2 c2 n3 c3 n4 c4 n5 c5 n6 c6:Nat) (pv:C0->Bool) (s:BB) (w:AH) (e:Ending) (w':AH):Prop:=
 ((
  Oj pv s≠0/\e=AU (BQ #[AP #[AB none 0 0,AB none 0 0,AB none 0 0,AB none 0 0,AB none 0 0,AB none 0 0,AB none 0 0],AE AF (Oj pv s)]))\/
  (Oj pv s=0/\∃C d,e=AU (BQ #[AP #[AB A1 n1 c1,AB A2 n2 c2,AB A3 n3 c3,AB A4 n4 c4,AB A5 n5 c5,AB A6 n6 c6,AB C (Cg s.rules s.Ap.length).length d],AE AF 0])/\Ag 1 iR w' (AB C (Cg s.rules s.Ap.length).length d) (Cg s.rules s.Ap.length)))/\AK w w'
theorem ze (s:BB) (pv:C0->Bool) (w:AH) (h1:BT 1 16 DQ w (AB A1 n1 c1) s.Bg) (h2:BT 5 56 CD w (AB A2 n2 c2) s.units) (h3:BT 6 96 BU w (AB A3 n3 c3) s.Ap) (h4:BT 5 96 CF w (AB A4 n4 c4) s.rules) (h5:BT 5 72 Bw w (AB A5 n5 c5) s.converts) (h6:BT 3 48 BW w (AB A6 n6 c6) s.purposes) (hsub:aq A1 A2 A3 A4 A5 A6 n1 c1 n2 c2 n3 c3 n4 c4 n5 c5 n6 c6 s pv w) (hI:∀x∈s.Ap,∀d∈x.deps,IV d):
 AS prog 51 #[(AP #[AB A1 n1 c1,AB A2 n2 c2,AB A3 n3 c3,AB A4 n4 c4,AB A5 n5 c5,AB A6 n6 c6])] w (oX A1 A2 A3 A4 A5 A6 n1 c1 n2 c2 n3 c3 n4 c4 n5 c5 n6 c6 pv s w):=by
 have H1:=AA h1;have H2:=AA h2;have H3:=AA h3;have H4:=AA h4;have H5:=AA h5;have H6:=AA h6;clear h1 h2 h3 h4 h5 h6;have wV:=AA hsub;have HI:=AA hI;clear hsub hI;have hi0:∀w:AH,(Instr.index 152 (AP #[.func (.func 74) #[] #[],.func (.func 75) #[] #[],.func (.func 76) #[] #[],.func (.func 77) #[] #[],.func (.func 78) #[] #[]]) (AE AF 0)).run prog w=.ok (.func (.func 74) #[] #[]) w:=fun _=>by kernel_rfl
 have hi1:∀w:AH,(Instr.index 152 (AP #[.func (.func 74) #[] #[],.func (.func 75) #[] #[],.func (.func 76) #[] #[],.func (.func 77) #[] #[],.func (.func 78) #[] #[]]) (AE AF 1)).run prog w=.ok (.func (.func 75) #[] #[]) w:=fun _=>by kernel_rfl
 have hi2:∀w:AH,(Instr.index 152 (AP #[.func (.func 74) #[] #[],.func (.func 75) #[] #[],.func (.func 76) #[] #[],.func (.func 77) #[] #[],.func (.func 78) #[] #[]]) (AE AF 2)).run prog w=.ok (.func (.func 76) #[] #[]) w:=fun _=>by kernel_rfl
 have hi3:∀w:AH,(Instr.index 152 (AP #[.func (.func 74) #[] #[],.func (.func 75) #[] #[],.func (.func 76) #[] #[],.func (.func 77) #[] #[],.func (.func 78) #[] #[]]) (AE AF 3)).run prog w=.ok (.func (.func 77) #[] #[]) w:=fun _=>by kernel_rfl
 have hi4:∀w:AH,(Instr.index 152 (AP #[.func (.func 74) #[] #[],.func (.func 75) #[] #[],.func (.func 76) #[] #[],.func (.func 77) #[] #[],.func (.func 78) #[] #[]]) (AE AF 4)).run prog w=.ok (.func (.func 78) #[] #[]) w:=fun _=>by kernel_rfl
 have IC:=AA (And.intro hi0 (And.intro hi1 (And.intro hi2 (And.intro hi3 hi4))));clear hi0 hi1 hi2 hi3 hi4;go_enter func51,ntmps51;go_wp2_with fail;obtain ⟨wb,hwb⟩:=Ad (((w.alloc (AO #[AB A1 n1 c1,AB A2 n2 c2,AB A3 n3 c3,AB A4 n4 c4,AB A5 n5 c5,AB A6 n6 c6] 29)).alloc (AO #[AB none 0 0,AB none 0 0,AB none 0 0,AB none 0 0,AB none 0 0,AB none 0 0,AB none 0 0] 32)).alloc (AO #[.func (.func 74) #[] #[],.func (.func 75) #[] #[],.func (.func 76) #[] #[],.func (.func 77) #[] #[],.func (.func 78) #[] #[]] 152));rw [<-hwb];have hbb:AK w wb:=by rw [hwb];exact ((BE _ _).alloc AX _).alloc BN _
 have kA:AZ wb w.heap.size 29 #[AB A1 n1 c1,AB A2 n2 c2,AB A3 n3 c3,AB A4 n4 c4,AB A5 n5 c5,AB A6 n6 c6]:=by rw [hwb];exact ((AZ.new _ _ _).alloc _).alloc _
 have kB:AZ wb (w.heap.size+1) 32 #[AB none 0 0,AB none 0 0,AB none 0 0,AB none 0 0,AB none 0 0,AB none 0 0,AB none 0 0]:=by rw [hwb];exact (DY AX).alloc _
 obtain ⟨ga,hga⟩:=Ad w.heap.size;obtain ⟨gb,hgb⟩:=Ad (w.heap.size+1);rw [<-hgb] at kB ⊢;rw [<-hga] at kA ⊢;have Ou:w.heap.size<=gb:=AG
 have AJM:ga≠gb:=AG
 have BG:=AA hbb;have Zo:=AA kA;have HKB:=AA kB;have la:=kA.lt;have lb:=kB.lt;clear hwb hga hgb hbb kA kB;go_loopg [12] 5 (fun q i wr=>∃j:Nat,j<=5/\q=5 - j/\i=AE AF j/\((Hf pv s).take j).all (fun x=>decide (x=0))=true/\AK wb wr)
 case atStart=>exact Lc
 obtain ⟨j,hj,hq,rfl,hv,hb⟩:=hrel;have HQ:=AA hq;have HV:=AA hv;have C4:=AA hb;have HB:AI (AK w wr):=AA (AV BG.o hb);have kA:=Zo.o.below hb la;have kB:=HKB.o.below hb lb;have a0:=kA.cell 0;have a1:=kA.cell 1;have a2:=kA.cell 2;have a3:=kA.cell 3;have a4:=kA.cell 4;have a5:=kA.cell 5;have b0:=kB.cell 0;have b1:=kB.cell 1;have b2:=kB.cell 2;have b3:=kB.cell 3;have b4:=kB.cell 4;have b5:=kB.cell 5;have b6:=kB.cell 6;have lar:=kA.lt;have ik:=kB.lt;simp only [Ak,Al,Az] at a0 a1 a2 a3 a4 a5 b0 b1 b2 b3 b4 b5 b6;clear kA kB hq hv hb;by_cases hlt:j < 5
 ·obtain h0 | h0 | h0 | h0 | h0:j=0\/j=1\/j=2\/j=3\/j=4:=by omega
  ·subst h0
   have hix:=IC.o.1;obtain ⟨t,ht⟩:=BP (OG s);have HT:AI ((Hf pv s)[0]? =some t):=AA UE;have HC:AI (AS prog 74 #[(AP #[AB A1 n1 c1,AB A2 n2 c2,AB A3 n3 c3,AB A4 n4 c4,AB A5 n5 c5,AB A6 n6 c6])] wr fun e w'=>e=AU (AE AF t)/\AK wr w'):=AA (by have:=mK A1 A2 A3 A4 A5 A6 n1 c1 n2 c2 n3 c3 n4 c4 n5 c5 n6 c6 s wr (H1.o.mono BV HB.o) (H2.o.mono Bp HB.o) (H3.o.mono BM HB.o) (H4.o.mono Be HB.o) (H5.o.mono Bo HB.o) (H6.o.mono BO HB.o);rw [ht] at this;exact this)
   clear ht;go_wp2_with (go_at_call 74;refine HC.o.mono ?_;clear HC)
   first | rintro e w1 rfl hb1 | rintro e w1 ⟨rfl,hb1⟩
   have Bi:=AA (AV C4.o hb1);have HB1:AI (AK w w1):=AA (AV HB.o hb1);have kB:=HKB.o.below Bi.o lb;clear hb1 a0 a1 a2 a3 a4 a5 b0 b1 b2 b3 b4 b5 b6 ik;by_cases ht0:t=0
   ·subst ht0
    clear kB;go_wp2_with fail;go_roundg (5 - (0+1))
    case measure=>exact BS
    case rel=>exact ⟨0+1,by omega,rfl,by go_num,Dc (p:=fun x=>decide (x=0)) HT.o rfl HV.o,Bi.o⟩
   have htn:(t !=0)=true:=by simpa using ht0
   exact bH
  ·subst h0
   have hix:=IC.o.2.1;obtain ⟨t,ht⟩:=BP (E9 s);have HT:AI ((Hf pv s)[1]? =some t):=AA UE;have HC:AI (AS prog 75 #[(AP #[AB A1 n1 c1,AB A2 n2 c2,AB A3 n3 c3,AB A4 n4 c4,AB A5 n5 c5,AB A6 n6 c6])] wr fun e w'=>e=AU (AE AF t)/\AK wr w'):=AA (by have:=V6 A1 A2 A3 A4 A5 A6 n1 c1 n2 c2 n3 c3 n4 c4 n5 c5 n6 c6 s wr (H1.o.mono BV HB.o).1 (H2.o.mono Bp HB.o).1 (H3.o.mono BM HB.o).1 (H4.o.mono Be HB.o).1 H5.o.1.len (H6.o.mono BO HB.o).1 (wV.o.below HB.o).rules (wV.o.below HB.o).ui;rw [ht] at this;exact this)
   clear ht;go_wp2_with (go_at_call 75;refine HC.o.mono ?_;clear HC)
   first | rintro e w1 rfl hb1 | rintro e w1 ⟨rfl,hb1⟩
   have Bi:=AA (AV C4.o hb1);have HB1:AI (AK w w1):=AA (AV HB.o hb1);have kB:=HKB.o.below Bi.o lb;clear hb1 a0 a1 a2 a3 a4 a5 b0 b1 b2 b3 b4 b5 b6 ik;by_cases ht0:t=0
   ·subst ht0
    clear kB;go_wp2_with fail;go_roundg (5 - (1+1))
    case measure=>exact BS
    case rel=>exact ⟨1+1,by omega,rfl,by go_num,Dc (p:=fun x=>decide (x=0)) HT.o rfl HV.o,Bi.o⟩
   have htn:(t !=0)=true:=by simpa using ht0
   exact bH
  ·subst h0
   have hix:=IC.o.2.2.1;obtain ⟨t,ht⟩:=BP (NY s);have HT:AI ((Hf pv s)[2]? =some t):=AA UE;have HC:AI (AS prog 76 #[(AP #[AB A1 n1 c1,AB A2 n2 c2,AB A3 n3 c3,AB A4 n4 c4,AB A5 n5 c5,AB A6 n6 c6])] wr fun e w'=>e=AU (AE AF t)/\AK wr w'):=AA (by have:=gK A1 A2 A3 A4 A5 A6 n1 c1 n2 c2 n3 c3 n4 c4 n5 c5 n6 c6 s wr (H3.o.mono BM HB.o) HI.o;rw [ht] at this;exact this)
   clear ht;go_wp2_with (go_at_call 76;refine HC.o.mono ?_;clear HC)
   first | rintro e w1 rfl hb1 | rintro e w1 ⟨rfl,hb1⟩
   have Bi:=AA (AV C4.o hb1);have HB1:AI (AK w w1):=AA (AV HB.o hb1);have kB:=HKB.o.below Bi.o lb;clear hb1 a0 a1 a2 a3 a4 a5 b0 b1 b2 b3 b4 b5 b6 ik;by_cases ht0:t=0
   ·subst ht0
    clear kB;go_wp2_with fail;go_roundg (5 - (2+1))
    case measure=>exact BS
    case rel=>exact ⟨2+1,by omega,rfl,by go_num,Dc (p:=fun x=>decide (x=0)) HT.o rfl HV.o,Bi.o⟩
   have htn:(t !=0)=true:=by simpa using ht0
   exact bH
  ·subst h0
   have hix:=IC.o.2.2.2.1;obtain ⟨t,ht⟩:=BP (J9 s);have HT:AI ((Hf pv s)[3]? =some t):=AA UE;have HC:AI (AS prog 77 #[(AP #[AB A1 n1 c1,AB A2 n2 c2,AB A3 n3 c3,AB A4 n4 c4,AB A5 n5 c5,AB A6 n6 c6])] wr fun e w'=>e=AU (AE AF t)/\AK wr w'):=AA (by have:=qK A1 A2 A3 A4 A5 A6 n1 c1 n2 c2 n3 c3 n4 c4 n5 c5 n6 c6 s pv wr (H1.o.mono BV HB.o) (H2.o.mono Bp HB.o) (H3.o.mono BM HB.o) (H4.o.mono Be HB.o) (H5.o.mono Bo HB.o) (H6.o.mono BO HB.o) (wV.o.below HB.o);rw [ht] at this;exact this)
   clear ht;go_wp2_with (go_at_call 77;refine HC.o.mono ?_;clear HC)
   first | rintro e w1 rfl hb1 | rintro e w1 ⟨rfl,hb1⟩
   have Bi:=AA (AV C4.o hb1);have HB1:AI (AK w w1):=AA (AV HB.o hb1);have kB:=HKB.o.below Bi.o lb;clear hb1 a0 a1 a2 a3 a4 a5 b0 b1 b2 b3 b4 b5 b6 ik;by_cases ht0:t=0
   ·subst ht0
    clear kB;go_wp2_with fail;go_roundg (5 - (3+1))
    case measure=>exact BS
    case rel=>exact ⟨3+1,by omega,rfl,by go_num,Dc (p:=fun x=>decide (x=0)) HT.o rfl HV.o,Bi.o⟩
   have htn:(t !=0)=true:=by simpa using ht0
   exact bH
  subst h0;have hix:=IC.o.2.2.2.2;obtain ⟨t,ht⟩:=BP (QK pv s);have HT:AI ((Hf pv s)[4]? =some t):=AA UE;have HC:AI (AS prog 78 #[(AP #[AB A1 n1 c1,AB A2 n2 c2,AB A3 n3 c3,AB A4 n4 c4,AB A5 n5 c5,AB A6 n6 c6])] wr fun e w'=>e=AU (AE AF t)/\AK wr w'):=AA (by have:=Zv A1 A2 A3 A4 A5 A6 n1 c1 n2 c2 n3 c3 n4 c4 n5 c5 n6 c6 s pv wr (H5.o.mono Bo HB.o) (wV.o.below HB.o).vers;rw [ht] at this;exact this)
  clear ht;go_wp2_with (go_at_call 78;refine HC.o.mono ?_;clear HC)
  first | rintro e w1 rfl hb1 | rintro e w1 ⟨rfl,hb1⟩
  have Bi:=AA (AV C4.o hb1);have HB1:AI (AK w w1):=AA (AV HB.o hb1);have kB:=HKB.o.below Bi.o lb;clear hb1 a0 a1 a2 a3 a4 a5 b0 b1 b2 b3 b4 b5 b6 ik;by_cases ht0:t=0
  ·subst ht0
   clear kB;go_wp2_with fail;go_roundg (5 - (4+1))
   case measure=>exact BS
   case rel=>exact ⟨4+1,by omega,rfl,by go_num,Dc (p:=fun x=>decide (x=0)) HT.o rfl HV.o,Bi.o⟩
  have htn:(t !=0)=true:=by simpa using ht0
  exact bH
 obtain rfl:j=5:=AG
 have EC:AI ((Hf pv s).all (fun x=>decide (x=0))=true):=AA HV.o;have HZ:AI (E9 s=0/\J9 s=0):=AA (by have:=De.1 EC.o;exact ⟨by simpa using this (E9 s) (by simp [Hf]),by simpa using this (J9 s) (by simp [Hf])⟩)
 have Kz:=AA H3.o.1.len;have P7:AI (n3<=1000/\∀r∈s.rules,(0<=r.schema/\r.schema < n3)/\∀f∈r.froms,0<=f.schema/\f.schema < n3):=AA (by obtain ⟨h1,h2,h3,h4,h5⟩:=TQ HZ.o.1;refine ⟨by have:=Ol h1;have:=Kz.o;omega,fun r hr=> ?_⟩;rw [Kz.o];exact VY (De.1 h4 r hr))
 have I3:AI (decide (n3<=(Cg s.rules n3).length)=true):=AA (by
  have:=HZ.o.2;unfold J9 at this;rw [<-Kz.o] at this;split at this
  ·split at this
   · next h=>simp only [Bj] at h;exact h.1
   · cases this
  · next h=>exact absurd this h)
 go_wp2_with (go_at_call 79;refine (XF A1 A2 A3 A4 A5 A6 n1 c1 n2 c2 n3 c3 n4 c4 n5 c5 n6 c6 s.rules wr (H4.o.1.mono Be HB.o) P7.o.1 P7.o.2).mono ?_)
 first | rintro e w2 v ok rfl hok hv hb2 | rintro e w2 ⟨v,ok,rfl,hok,hv,hb2⟩
 rw [I3.o] at hok;subst hok;simp only [C5] at hv;obtain ⟨C,d,rfl⟩:=(M6 hv).form;have Dw:=AA hv;have nC:gb < wr.heap.size:=(HKB.o.below C4.o lb).lt;have HB2:AI (AK w w2):=AA (AV HB.o hb2);have Co:=AA (AV C4.o hb2);have kA:=Zo.o.below Co.o la;have kB:=HKB.o.below Co.o lb;clear hv hb2 a0 a1 a2 a3 a4 a5 b0 b1 b2 b3 b4 b5 b6 lar ik;have a0:=kA.cell 0;have a1:=kA.cell 1;have a2:=kA.cell 2;have a3:=kA.cell 3;have a4:=kA.cell 4;have a5:=kA.cell 5;have b0:=kB.cell 0;have b1:=kB.cell 1;have b2:=kB.cell 2;have b3:=kB.cell 3;have b4:=kB.cell 4;have b5:=kB.cell 5;have b6:=kB.cell 6;have f0:=kB.frozen 0;have f1:=kB.frozen 1;have f2:=kB.frozen 2;have f3:=kB.frozen 3;have f4:=kB.frozen 4;have f5:=kB.frozen 5;have f6:=kB.frozen 6;have ik:=kB.lt;have lar:=kA.lt;simp only [Ak,Al,Az] at a0 a1 a2 a3 a4 a5 b0 b1 b2 b3 b4 b5 b6;have kE:=(((((((kB.put 0 (AB A1 n1 c1)).put 1 (AB A2 n2 c2)).put 2 (AB A3 n3 c3)).put 3 (AB A4 n4 c4)).put 4 (AB A5 n5 c5)).put 5 (AB A6 n6 c6)).put 6 (AB C (Cg s.rules n3).length d));have Zn:=AA kE;clear kA kB kE;go_wp2_with fail;have x0:=Zn.o.cell 0;have x1:=Zn.o.cell 1;have x2:=Zn.o.cell 2;have x3:=Zn.o.cell 3;have x4:=Zn.o.cell 4;have x5:=Zn.o.cell 5;have x6:=Zn.o.cell 6;simp only [Lr,Ct,DF,Ak,Al,Az] at x0 x1 x2 x3 x4 x5 x6;have hso:Ag 1 iR (((((((w2.setCell ⟨gb,0,none⟩ (AB A1 n1 c1)).setCell ⟨gb,1,none⟩ (AB A2 n2 c2)).setCell ⟨gb,2,none⟩ (AB A3 n3 c3)).setCell ⟨gb,3,none⟩ (AB A4 n4 c4)).setCell ⟨gb,4,none⟩ (AB A5 n5 c5)).setCell ⟨gb,5,none⟩ (AB A6 n6 c6)).setCell ⟨gb,6,none⟩ (AB C (Cg s.rules n3).length d)) (AB C (Cg s.rules n3).length d) (Cg s.rules n3):=M6 ((Ew (Ew (Ew (Ew (Ew (Ew (Ew Dw.o nC _) nC _) nC _) nC _) nC _) nC _) nC _));refine Eu (v:=BQ #[AP #[AB A1 n1 c1,AB A2 n2 c2,AB A3 n3 c3,AB A4 n4 c4,AB A5 n5 c5,AB A6 n6 c6,AB C (Cg s.rules n3).length d],AE AF 0]) (by simp [results,results51,go_sem,x0,x1,x2,x3,x4,x5,x6]) rfl ⟨.inr ⟨qV EC.o,C,d,by rw [<-Kz.o],by rw [<-Kz.o];exact hso⟩,(((((((HB2.o.setCell (p:=⟨gb,0,none⟩) Ou (AB A1 n1 c1)).setCell (p:=⟨gb,1,none⟩) Ou (AB A2 n2 c2)).setCell (p:=⟨gb,2,none⟩) Ou (AB A3 n3 c3)).setCell (p:=⟨gb,3,none⟩) Ou (AB A4 n4 c4)).setCell (p:=⟨gb,4,none⟩) Ou (AB A5 n5 c5)).setCell (p:=⟨gb,5,none⟩) Ou (AB A6 n6 c6)).setCell (p:=⟨gb,6,none⟩) Ou (AB C (Cg s.rules n3).length d))⟩
theorem fL (A7 B7:Option Aa) (n7 c7 m7 d7:Nat) (s:BB) (l r:AQ) (w:AH) (h1:BT 1 16 DQ w (AB A1 n1 c1) s.Bg) (h2:BT 5 56 CD w (AB A2 n2 c2) s.units) (h3:BT 6 96 BU w (AB A3 n3 c3) s.Ap) (h4:BT 5 96 CF w (AB A4 n4 c4) s.rules) (h5:BT 5 72 Bw w (AB A5 n5 c5) s.converts) (h6:BT 3 48 BW w (AB A6 n6 c6) s.purposes) (h7:Ag 1 iR w (AB A7 n7 c7) l) (k7:Ag 1 iR w (AB B7 m7 d7) r):
 AS prog 52 #[AP #[AB A1 n1 c1,AB A2 n2 c2,AB A3 n3 c3,AB A4 n4 c4,AB A5 n5 c5,AB A6 n6 c6,AB A7 n7 c7],AP #[AB A1 n1 c1,AB A2 n2 c2,AB A3 n3 c3,AB A4 n4 c4,AB A5 n5 c5,AB A6 n6 c6,AB B7 m7 d7]] w fun e w'=>e=AU (Ab (A8 l r))/\AK w w':=by
 have H1:=AA h1;have H2:=AA h2;have H3:=AA h3;have H4:=AA h4;have H5:=AA h5;have H6:=AA h6;clear h1 h2 h3 h4 h5 h6;have H7:=AA h7;have K7:=AA k7;clear h7 k7;go_enter func52,ntmps52;go_upto_region 1 with fail;obtain ⟨wb,hwb⟩:=Ad ((w.alloc (AO #[AB A1 n1 c1,AB A2 n2 c2,AB A3 n3 c3,AB A4 n4 c4,AB A5 n5 c5,AB A6 n6 c6,AB A7 n7 c7] 32)).alloc (AO #[AB A1 n1 c1,AB A2 n2 c2,AB A3 n3 c3,AB A4 n4 c4,AB A5 n5 c5,AB A6 n6 c6,AB B7 m7 d7] 32));rw [<-hwb];have hbb:AK w wb:=by rw [hwb];exact ((BE _ _).alloc AX _)
 have kA:AZ wb w.heap.size 32 #[AB A1 n1 c1,AB A2 n2 c2,AB A3 n3 c3,AB A4 n4 c4,AB A5 n5 c5,AB A6 n6 c6,AB A7 n7 c7]:=by rw [hwb];exact (AZ.new _ _ _).alloc _
 have kB:AZ wb (w.heap.size+1) 32 #[AB A1 n1 c1,AB A2 n2 c2,AB A3 n3 c3,AB A4 n4 c4,AB A5 n5 c5,AB A6 n6 c6,AB B7 m7 d7]:=by rw [hwb];exact DY AX
 obtain ⟨ga,hga⟩:=Ad w.heap.size;obtain ⟨gb,hgb⟩:=Ad (w.heap.size+1);rw [<-hgb] at kB ⊢;rw [<-hga] at kA ⊢;have Ha:AI (ga=w.heap.size):=AA hga;clear hwb hga hgb;have a0:=kA.cell 0;have b0:=kB.cell 0;have a1:=kA.cell 1;have b1:=kB.cell 1;have a2:=kA.cell 2;have b2:=kB.cell 2;have a3:=kA.cell 3;have b3:=kB.cell 3;have a4:=kA.cell 4;have b4:=kB.cell 4;have a5:=kA.cell 5;have b5:=kB.cell 5;have la:=kA.lt;have lb:=kB.lt;simp only [Ak,Al,Az] at a0 a1 a2 a3 a4 a5 b0 b1 b2 b3 b4 b5;have HA:=AA kA;have HB:=AA kB;have BG:=AA hbb;clear kA kB hbb;have HC:AI (AS prog 80 #[(AP #[AB A1 n1 c1,AB A2 n2 c2,AB A3 n3 c3,AB A4 n4 c4,AB A5 n5 c5,AB A6 n6 c6]),(AP #[AB A1 n1 c1,AB A2 n2 c2,AB A3 n3 c3,AB A4 n4 c4,AB A5 n5 c5,AB A6 n6 c6])] wb fun e w'=>e=AU (Ab true)/\AK wb w'):=AA (by
  have:=Ug A1 A1 A2 A2 A3 A3 A4 A4 A5 A5 A6 A6 n1 c1 n1 c1 n2 c2 n2 c2 n3 c3 n3 c3 n4 c4 n4 c4 n5 c5 n5 c5 n6 c6 n6 c6 s s wb
   (H1.o.1.mono BV BG.o) (H1.o.1.mono BV BG.o) (H2.o.1.mono Bp BG.o) (H2.o.1.mono Bp BG.o) (H3.o.1.mono BM BG.o) (H3.o.1.mono BM BG.o)
   (H4.o.1.mono Be BG.o) (H4.o.1.mono Be BG.o) (H5.o.1.mono Bo BG.o) (H5.o.1.mono Bo BG.o) (H6.o.1.mono BO BG.o) (H6.o.1.mono BO BG.o)
  rw [BR rfl] at this;exact this)
 go_wp2_with (go_at_call 80;refine HC.o.mono ?_;clear HC)
 first | rintro e w1 rfl hb1 | rintro e w1 ⟨rfl,hb1⟩
 have HB1:AI (AK w w1):=AA (AV BG.o hb1);have a6:=(HA.o.below hb1 la).cell 6;have b6:=(HB.o.below hb1 lb).cell 6;simp only [Ak,Al,Az] at a6 b6;clear hb1 a0 a1 a2 a3 a4 a5 b0 b1 b2 b3 b4 b5;go_wp2_with (go_at_call 71;refine (Rz A7 B7 n7 c7 m7 d7 l r w1 (H7.o.mono Ht HB1.o) (K7.o.mono Ht HB1.o)).mono ?_)
 first | rintro e w2 rfl hb2 | rintro e w2 ⟨rfl,hb2⟩
 have HB2:AI (AK w w2):=AA (AV HB1.o hb2);clear hb2;go_wp2_with fail;go_ret;exact ⟨rfl,HB2.o⟩
def U2 (pv:C0->Bool) (s:BB) (l:AQ):Int:=if Oj pv s=0/\Cg s.rules s.Ap.length=l then 0 else 160
theorem Z2 (A7:Option Aa) (n7 c7:Nat) (s:BB) (l:AQ) (pv:C0->Bool) (w:AH) (h1:BT 1 16 DQ w (AB A1 n1 c1) s.Bg) (h2:BT 5 56 CD w (AB A2 n2 c2) s.units) (h3:BT 6 96 BU w (AB A3 n3 c3) s.Ap) (h4:BT 5 96 CF w (AB A4 n4 c4) s.rules) (h5:BT 5 72 Bw w (AB A5 n5 c5) s.converts) (h6:BT 3 48 BW w (AB A6 n6 c6) s.purposes) (h7:Ag 1 iR w (AB A7 n7 c7) l) (hsub:aq A1 A2 A3 A4 A5 A6 n1 c1 n2 c2 n3 c3 n4 c4 n5 c5 n6 c6 s pv w) (hI:∀x∈s.Ap,∀d∈x.deps,IV d):
 AS prog 23 #[AP #[AB A1 n1 c1,AB A2 n2 c2,AB A3 n3 c3,AB A4 n4 c4,AB A5 n5 c5,AB A6 n6 c6,AB A7 n7 c7]] w fun e w'=>e=AU (AE AF (U2 pv s l))/\AK w w':=by
 have hb0:AK w (w.alloc (AO #[AB A1 n1 c1,AB A2 n2 c2,AB A3 n3 c3,AB A4 n4 c4,AB A5 n5 c5,AB A6 n6 c6,AB A7 n7 c7] 32)):=(BE _ _);have HC:AI (AS prog 51 #[(AP #[AB A1 n1 c1,AB A2 n2 c2,AB A3 n3 c3,AB A4 n4 c4,AB A5 n5 c5,AB A6 n6 c6])] (w.alloc (AO #[AB A1 n1 c1,AB A2 n2 c2,AB A3 n3 c3,AB A4 n4 c4,AB A5 n5 c5,AB A6 n6 c6,AB A7 n7 c7] 32)) (oX A1 A2 A3 A4 A5 A6 n1 c1 n2 c2 n3 c3 n4 c4 n5 c5 n6 c6 pv s (w.alloc (AO #[AB A1 n1 c1,AB A2 n2 c2,AB A3 n3 c3,AB A4 n4 c4,AB A5 n5 c5,AB A6 n6 c6,AB A7 n7 c7] 32)))):=AA (ze A1 A2 A3 A4 A5 A6 n1 c1 n2 c2 n3 c3 n4 c4 n5 c5 n6 c6 s pv _ (h1.mono BV hb0) (h2.mono Bp hb0) (h3.mono BM hb0) (h4.mono Be hb0) (h5.mono Bo hb0) (h6.mono BO hb0) (hsub.below hb0) hI);have HB0:=AA hb0;have H1:=AA h1;have H2:=AA h2;have H3:=AA h3;have H4:=AA h4;have H5:=AA h5;have H6:=AA h6;clear h1 h2 h3 h4 h5 h6;have H7:=AA h7;clear hb0 h7 hsub hI;go_enter func23,ntmps23;go_wp2_with (go_at_call 51;refine HC.o.mono ?_);rintro e w1 ⟨hor,hb1⟩;have HB1:AI (AK w w1):=AA (AV HB0.o hb1);have kb:=(AZ.new w 32 #[AB A1 n1 c1,AB A2 n2 c2,AB A3 n3 c3,AB A4 n4 c4,AB A5 n5 c5,AB A6 n6 c6,AB A7 n7 c7]).below hb1 AX;have q0:=kb.cell 0;have q1:=kb.cell 1;have q2:=kb.cell 2;have q3:=kb.cell 3;have q4:=kb.cell 4;have q5:=kb.cell 5;have q6:=kb.cell 6;have lq:=kb.lt;simp only [Ak,Al,Az] at q0 q1 q2 q3 q4 q5 q6;clear hb1 kb HC;rcases hor with ⟨hne,rfl⟩ | ⟨hz,C,d,rfl,ho⟩
 ·obtain ⟨t,ht⟩:=BP (Oj pv s)
  have HP:AI (U2 pv s l=160):=AA (by rw [U2,Ai (fun h=>hne h.1)]);rw [ht] at hne ⊢;have htn:(t !=0)=true:=by simpa using hne
  clear ht;go_wp2_with fail;go_ret;exact ⟨Cz HP.o.symm,HB1.o.alloc HB1.o.size _⟩
 obtain ⟨L,hL⟩:=BP (Cg s.rules s.Ap.length);rw [hL] at ho ⊢;obtain ⟨v,hv⟩:=BP (A8 L l);have HV:=AA hv;have HZ:=AA hz;have ja:=AA hL;have o5:AI (∀o,AS prog 52 #[AP #[AB A1 n1 c1,AB A2 n2 c2,AB A3 n3 c3,AB A4 n4 c4,AB A5 n5 c5,AB A6 n6 c6,AB C L.length d],AP #[AB A1 n1 c1,AB A2 n2 c2,AB A3 n3 c3,AB A4 n4 c4,AB A5 n5 c5,AB A6 n6 c6,AB A7 n7 c7]] (w1.alloc o) fun e w'=>e=AU (Ab v)/\BI (w1.alloc o).heap.size (w1.alloc o) w'):=AA (fun o=>by have hba:AK w1 (w1.alloc o):=(Ae _ _).alloc (Ac _) o;have hbw:=AV HB1.o hba;have:=fL A1 A2 A3 A4 A5 A6 n1 c1 n2 c2 n3 c3 n4 c4 n5 c5 n6 c6 C A7 L.length d n7 c7 s L l (w1.alloc o) (H1.o.mono BV hbw) (H2.o.mono Bp hbw) (H3.o.mono BM hbw) (H4.o.mono Be hbw) (H5.o.mono Bo hbw) (H6.o.mono BO hbw) (ho.mono Ht hba) (H7.o.mono Ht hbw);rw [hv] at this;exact this)
 clear hv hz hL ho;go_wp2_with (go_at_call 52;refine (o5.o _).mono ?_;clear o5)
 first | rintro e w2 rfl hb2 | rintro e w2 ⟨rfl,hb2⟩
 have HB2:AI (AK w w2):=AA ((HB1.o.alloc HB1.o.size _).trans (hb2.mono eS));clear hb2;cases v with
 |
  true=>
  go_wp2_with fail;go_ret;exact ⟨Cz (by rw [U2,Ao ⟨HZ.o,by rw [ja.o];exact F8 HV.o⟩]),HB2.o⟩
 |
  false=>
  go_wp2_with fail;go_ret;exact ⟨Cz (by rw [U2,Ai (fun h=>by have h2:=h.2;rw [ja.o] at h2;exact absurd h2 (RM HV.o))]),HB2.o⟩
theorem AD1 {n2:Nat} {iss:Nat} {ss:List BL} (h:ss.all (Dn iss n2)=true):∀x∈ss,∀f∈x.fields,QM n2 f.type:=by intro x hx f hf;have h1:=De.1 h x hx;simp only [Dn,Bj] at h1;have h2:=De.1 h1.2 f hf;simp only [Jv,Bj] at h2;intro hk;have h3:=h2.1;rw [He,Ao hk] at h3;simp only [Bj,B8] at h3;exact ⟨h3.1.1.2,h3.1.2⟩
theorem AA2 (s:BB) (w:AH) (h2:BT 5 56 CD w (AB A2 n2 c2) s.units) (h3:BT 6 96 BU w (AB A3 n3 c3) s.Ap):aq A1 A2 A3 A4 A5 A6 n1 c1 n2 c2 n3 c3 n4 c4 n5 c5 n6 c6 s (M5 n2 s.Ap) w:=by
 have hn2:n2<=9223372036854775807:=by have:=h2.1.le;omega
 have hl2:=h2.1.len;refine ⟨fun hs W g hW hk=> ?_,fun W hW=> ?_,fun W hW=> ?_⟩
 ·intro W' cs x hW' hx hR
  obtain ⟨F1,m1,d1,F2,m2,d2,F3,m3,d3,rfl,f1,f2,f3⟩:=hR;have hw:=AV hW hW';have:=wD A1 A2 A3 A4 A5 A6 n1 c1 n2 c2 n3 c3 n4 c4 n5 c5 n6 c6 g F1 F2 F3 m1 d1 m2 d2 m3 d3 x.head x.schema x.froms x.Cr x.sets s.units s.Ap W' (hk.below hW' hk.lt) (h2.1.mono Bp hw) (h3.1.mono BM hw) f1.1 f2.1 f3 (by rw [hl2];exact AD1 hs);exact this
 ·intro W' cs x hW' hx hR
  obtain ⟨F1,m1,d1,rfl,f1⟩:=hR;have hw:=AV hW hW';have:=jx A1 A2 A3 A4 A5 A6 n1 c1 n2 c2 n3 c3 n4 c4 n5 c5 n6 c6 x.name x.may x.most F1 m1 d1 s.Ap w W' hw h3.1 f1.1;exact this
 intro W' cs x hW' hx hR;obtain ⟨F1,m1,d1,rfl,f1⟩:=hR;have hw:=AV hW hW';have:=uN A1 A2 A3 A4 A5 A6 n1 c1 n2 c2 n3 c3 n4 c4 n5 c5 n6 c6 x.from_ x.DJ x.a x.b x.moves F1 m1 d1 s.Ap W' W' (Ae _ _) hn2 (h3.1.mono BM hw) f1.1;exact this
end Go.Proofs.YtamhoilkpppdbaaGreatDoor
