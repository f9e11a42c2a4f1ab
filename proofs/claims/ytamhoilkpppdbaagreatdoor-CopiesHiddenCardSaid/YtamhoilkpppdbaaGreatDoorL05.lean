import Derived.Test.YtamhoilkpppdbaaGreatDoorL04
namespace Go.Proofs.YtamhoilkpppdbaaGreatDoor
set_option maxHeartbeats 8000000
set_option maxRecDepth 100000
open Go renaming World→AH, Value→AN, Calls→AS, TypeId→Ae, Program→BE, Addr→Aa
open Go.RowKit renaming Below→BL
open Go.Proofs.Tryz
variable (A1 A2 A3 A4 A5 A6:Option Aa) (n1 c1 n2 c2 n3 c3 n4 c4 n5 c5 n6 c6:Nat)
open Go.Value renaming slice→AA, int→AB, string→AL, pointer→AU, bool→Ab, agg→AP, tuple→BU
open Go.IntKind renaming i64→AE
open Go.Ending renaming returned→AW, panicked→CN
open Go.Obj renaming cells→AO
open Go.RowKit
theorem ABf {x y:M7} (e0:x.names=y.names) (e1:x.name=y.name) (e2:x.src=y.src) (e3:x.dst=y.dst):true=decide (x=y):=by
 obtain ⟨u0,u1,u2,u3⟩:=x;obtain ⟨v0,v1,v2,v3⟩:=y
 skip
 simp_all
theorem iL (A1 B1 A2 B2:Option Aa) (n1 c1 m1 d1 n2 c2 m2 d2:Nat) (x y:M7) (w:AH) (h1:Ag 1 Dd w (AA A1 n1 c1) x.names) (k1:Ag 1 Dd w (AA B1 m1 d1) y.names) (h2:Ag 1 iR w (AA A2 n2 c2) x.src) (k2:Ag 1 iR w (AA B2 m2 d2) y.src):
 AS prog 190 #[AP #[AA A1 n1 c1,AL x.name,AA A2 n2 c2,AB AE x.dst],AP #[AA B1 m1 d1,AL y.name,AA B2 m2 d2,AB AE y.dst]] w fun e w'=>e=AW (Ab (decide (x=y)))/\AK w w':=by
 obtain ⟨H1,K1,H2,K2⟩:=CD h1 k1 h2 k2;clear h1 k1 h2 k2;go_enter func190,ntmps190;go_upto_region 1 with fail;obtain ⟨wb,hwb⟩:=Ad ((w.alloc (AO #[AA A1 n1 c1,AL x.name,AA A2 n2 c2,AB AE x.dst] 290)).alloc (AO #[AA B1 m1 d1,AL y.name,AA B2 m2 d2,AB AE y.dst] 290));rw [<-hwb];have hbb:AK w wb:=by rw [hwb];exact (BK _ _).alloc AZ _
 have kA:AY wb w.heap.size 290 #[AA A1 n1 c1,AL x.name,AA A2 n2 c2,AB AE x.dst]:=by rw [hwb];exact (AY.new _ _ _).alloc _
 have kB:AY wb (w.heap.size+1) 290 #[AA B1 m1 d1,AL y.name,AA B2 m2 d2,AB AE y.dst]:=by rw [hwb];exact Dk AZ
 obtain ⟨ga,hga⟩:=Ad w.heap.size;obtain ⟨gb,hgb⟩:=Ad (w.heap.size+1);rw [<-hgb] at kB ⊢;rw [<-hga] at kA ⊢;have Hu:ga=w.heap.size:=hga;clear hwb hga hgb;have la:=kA.lt;have lb:=kB.lt;have a0:=kA.cell 0;have b0:=kB.cell 0;have a1:=kA.cell 1;have b1:=kB.cell 1;have a2:=kA.cell 2;have b2:=kB.cell 2;have a3:=kA.cell 3;have b3:=kB.cell 3;simp only [Aj,Ao,BA] at a0 b0 a1 b1 a2 b2 a3 b3;obtain ⟨HA,HB,BJ⟩:=BB kA kB hbb;have CH:AI (AK wb wb):=AF (Af _ _);clear kA kB hbb Hu;by_cases e0:x.names=y.names
 case neg=>
  have HC:AI (AS prog 120 #[AA A1 n1 c1,AA B1 m1 d1] wb fun e w'=>e=AW (Ab false)/\AK wb w'):=AF (by have:=I3 A1 B1 n1 c1 m1 d1 x.names y.names wb (H1.o.mono BX (AV BJ.o CH.o)) (K1.o.mono BX (AV BJ.o CH.o));rw [show BD x.names y.names=false by simp [BD,e0]] at this;exact this)
  exact AAo
 have HC:AI (AS prog 120 #[AA A1 n1 c1,AA B1 m1 d1] wb fun e w'=>e=AW (Ab true)/\AK wb w'):=AF (by have:=I3 A1 B1 n1 c1 m1 d1 x.names y.names wb (H1.o.mono BX (AV BJ.o CH.o)) (K1.o.mono BX (AV BJ.o CH.o));rw [show BD x.names y.names=true by simp [BD,e0]] at this;exact this)
 have E0:=AF e0;clear e0;go_wp2_with (go_at_call 120;refine HC.o.mono ?_;clear HC);rintro e w1 ⟨rfl,hb1⟩;have Bj:=AF (AV CH.o hb1);clear hb1 a0 b0 a1 b1 a2 b2 a3 b3;have a0:=(HA.o.below Bj.o la).cell 0;have b0:=(HB.o.below Bj.o lb).cell 0;have a1:=(HA.o.below Bj.o la).cell 1;have b1:=(HB.o.below Bj.o lb).cell 1;have a2:=(HA.o.below Bj.o la).cell 2;have b2:=(HB.o.below Bj.o lb).cell 2;have a3:=(HA.o.below Bj.o la).cell 3;have b3:=(HB.o.below Bj.o lb).cell 3;simp only [Aj,Ao,BA] at a0 b0 a1 b1 a2 b2 a3 b3;by_cases e1:x.name=y.name
 case neg=>
  have s1:(x.name.toList==y.name.toList)=false:=by rw [ED];exact BS e1
  have E1:=AF e1;clear e1;go_wp2;go_ret;refine ⟨A8 ?_,AV BJ.o Bj.o⟩;exact (BS (fun h=>E1.o F9)).symm
 have s1:(x.name.toList==y.name.toList)=true:=by rw [ED];exact Bk e1
 have E1:=AF e1;clear e1;by_cases e2:x.src=y.src
 case neg=>
  have HC:AI (AS prog 71 #[AA A2 n2 c2,AA B2 m2 d2] w1 fun e w'=>e=AW (Ab false)/\AK w1 w'):=AF (by have:=S6 A2 B2 n2 c2 m2 d2 x.src y.src w1 (H2.o.mono IZ (AV BJ.o Bj.o)) (K2.o.mono IZ (AV BJ.o Bj.o));rw [show BD x.src y.src=false by simp [BD,e2]] at this;exact this)
  have E2:=AF e2;clear e2;go_wp2_with (go_at_call 71;refine HC.o.mono ?_;clear HC);rintro e w2 ⟨rfl,hb2⟩;have Cz:=AF (AV Bj.o hb2);clear hb2;go_wp2;go_ret;exact ⟨A8 (BS (fun h=>E2.o F9)).symm,AV BJ.o Cz.o⟩
 have HC:AI (AS prog 71 #[AA A2 n2 c2,AA B2 m2 d2] w1 fun e w'=>e=AW (Ab true)/\AK w1 w'):=AF (by have:=S6 A2 B2 n2 c2 m2 d2 x.src y.src w1 (H2.o.mono IZ (AV BJ.o Bj.o)) (K2.o.mono IZ (AV BJ.o Bj.o));rw [show BD x.src y.src=true by simp [BD,e2]] at this;exact this)
 have E2:=AF e2;clear e2;go_wp2_with (go_at_call 71;refine HC.o.mono ?_;clear HC);rintro e w2 ⟨rfl,hb2⟩;have Cz:=AF (AV Bj.o hb2);clear hb2 a0 b0 a1 b1 a2 b2 a3 b3;have a0:=(HA.o.below Cz.o la).cell 0;have b0:=(HB.o.below Cz.o lb).cell 0;have a1:=(HA.o.below Cz.o la).cell 1;have b1:=(HB.o.below Cz.o lb).cell 1;have a2:=(HA.o.below Cz.o la).cell 2;have b2:=(HB.o.below Cz.o lb).cell 2;have a3:=(HA.o.below Cz.o la).cell 3;have b3:=(HB.o.below Cz.o lb).cell 3;simp only [Aj,Ao,BA] at a0 b0 a1 b1 a2 b2 a3 b3;by_cases e3:x.dst=y.dst
 case neg=>have E3:=AF e3;go_wp2;go_ret;refine ⟨A8 ?_,AV BJ.o Cz.o⟩;rw [BS (fun h=>E3.o F9)];simpa using E3.o
 have E3:=AF e3;go_wp2;go_ret;exact ⟨A8 (by rw [<-ABf E0.o E1.o E2.o E3.o] <;> simp [E3.o]),AV BJ.o Cz.o⟩
theorem Wy (A B:Option Aa) (n c m d:Nat) (l r:List M7) (w:AH) (hl:Ag 4 Hw w (AA A n c) l) (hr:Ag 4 Hw w (AA B m d) r):
 AS prog 189 #[AA A n c,AA B m d,.func (.func 190) #[] #[]] w fun e w'=>e=AW (Ab (BD l r))/\AK w w':=by
 have hn2:n<=9223372036854775807:=by have:=hl.le;omega
 have hln:=hl.len;have hrn:=hr.len;obtain ⟨HL,HR⟩:=Al hl hr;clear hl hr;by_cases e:n=m
 ·subst e
  have el:l.length=r.length:=AG
  obtain ⟨HN,HE⟩:=Al hln el;clear hln hrn el;obtain ⟨v,hv⟩:=BR (BD l r);rw [hv];have HV:AI (BD (l.drop 0) (r.drop 0)=v):=AF hv;clear hv;go_enter func189,ntmps189;go_wp2_with fail;go_loopg [17] n (fun q i wr=>∃k:Nat,k<=n/\q=n - k/\i=AB AE k/\BD (l.drop k) (r.drop k)=v/\AK w wr)
  case atStart=>exact Md
  obtain ⟨k,hk,hq,rfl,hv,hb⟩:=hrel;obtain ⟨HQ,HB,EJ⟩:=BB hq hb hv;clear hq hb hv HV;by_cases hlt:k < n
  ·obtain ⟨a,ao,x,A1,n1,c1,A2,n2,c2,rfl,hal,hx,e0,e1,e2,e3,g1,g2⟩:=vI (HL.o.mono GN HB.o) hlt
   obtain ⟨b,bo,y,B1,m1,d1,B2,m2,d2,rfl,hbl,hy,f0,f1,f2,f3,j1,j2⟩:=vI (HR.o.mono GN HB.o) hlt;obtain ⟨HX,HY,G1,J1,G2,J2⟩:=Fg hx hy g1 j1 g2 j2;have hkn:(k:Int) < (n:Int):=AG
   have hk0:=Int.natCast_nonneg k
   clear hx hy g1 g2 j1 j2;go_wp2_with (go_at_call 190;refine (iL A1 B1 A2 B2 n1 c1 m1 d1 n2 c2 m2 d2 x y _ (G1.o.1.mono BX ((BK _ _).alloc AZ _)) (J1.o.1.mono BX ((BK _ _).alloc AZ _)) (G2.o.1.mono IZ ((BK _ _).alloc AZ _)) (J2.o.1.mono IZ ((BK _ _).alloc AZ _))).mono ?_);exact Y3
  exact Mc
 have el:¬l.length=r.length:=AG
 rw [Fu el];go_enter func189,ntmps189;exact Ko
theorem mH {x y:Cl} (e0:x.name=y.name) (e1:x.most=y.most) (e2:x.may=y.may):true=decide (x=y):=by
 obtain ⟨u0,u1,u2⟩:=x;obtain ⟨v0,v1,v2⟩:=y
 skip
 simp_all
theorem dW (A1 B1:Option Aa) (n1 c1 m1 d1:Nat) (x y:Cl) (w:AH) (h1:Ag 4 Iq w (AA A1 n1 c1) x.may) (k1:Ag 4 Iq w (AA B1 m1 d1) y.may):
 AS prog 129 #[AP #[AL x.name,AA A1 n1 c1,AB AE x.most],AP #[AL y.name,AA B1 m1 d1,AB AE y.most]] w fun e w'=>e=AW (Ab (decide (x=y)))/\AK w w':=by
 obtain ⟨H1,K1⟩:=Al h1 k1;clear h1 k1;go_enter func129,ntmps129;go_upto_region 1 with fail;obtain ⟨wb,hwb⟩:=Ad ((w.alloc (AO #[AL x.name,AA A1 n1 c1,AB AE x.most] 166)).alloc (AO #[AL y.name,AA B1 m1 d1,AB AE y.most] 166));rw [<-hwb];have hbb:AK w wb:=by rw [hwb];exact (BK _ _).alloc AZ _
 have kA:AY wb w.heap.size 166 #[AL x.name,AA A1 n1 c1,AB AE x.most]:=by rw [hwb];exact (AY.new _ _ _).alloc _
 have kB:AY wb (w.heap.size+1) 166 #[AL y.name,AA B1 m1 d1,AB AE y.most]:=by rw [hwb];exact Dk AZ
 obtain ⟨ga,hga⟩:=Ad w.heap.size;obtain ⟨gb,hgb⟩:=Ad (w.heap.size+1);rw [<-hgb] at kB ⊢;rw [<-hga] at kA ⊢;have Hu:ga=w.heap.size:=hga;clear hwb hga hgb;have la:=kA.lt;have lb:=kB.lt;have a0:=kA.cell 0;have b0:=kB.cell 0;have a1:=kA.cell 1;have b1:=kB.cell 1;have a2:=kA.cell 2;have b2:=kB.cell 2;simp only [Aj,Ao,BA] at a0 b0 a1 b1 a2 b2;obtain ⟨HA,HB,BJ⟩:=BB kA kB hbb;have CH:AI (AK wb wb):=AF (Af _ _);clear kA kB hbb Hu;by_cases e0:x.name=y.name
 case neg=>
  exact zp
 have s0:(x.name.toList==y.name.toList)=true:=by rw [ED];exact Bk e0
 have E0:=AF e0;clear e0;by_cases e1:x.most=y.most
 case neg=>exact AA9
 have E1:=AF e1;by_cases e2:x.may=y.may
 case neg=>
  have HC:AI (AS prog 195 #[AA A1 n1 c1,AA B1 m1 d1] wb fun e w'=>e=AW (Ab false)/\AK wb w'):=AF (by have:=YM A1 B1 n1 c1 m1 d1 x.may y.may wb (H1.o.mono Io (AV BJ.o CH.o)) (K1.o.mono Io (AV BJ.o CH.o));rw [show BD x.may y.may=false by simp [BD,e2]] at this;exact this)
  have E2:=AF e2;clear e2;go_wp2_with (go_at_call 195;refine HC.o.mono ?_;clear HC);exact AAg
 have HC:AI (AS prog 195 #[AA A1 n1 c1,AA B1 m1 d1] wb fun e w'=>e=AW (Ab true)/\AK wb w'):=AF (by have:=YM A1 B1 n1 c1 m1 d1 x.may y.may wb (H1.o.mono Io (AV BJ.o CH.o)) (K1.o.mono Io (AV BJ.o CH.o));rw [show BD x.may y.may=true by simp [BD,e2]] at this;exact this)
 have E2:=AF e2;clear e2;go_wp2_with (go_at_call 195;refine HC.o.mono ?_;clear HC);rintro e w1 ⟨rfl,hb1⟩;have Bj:=AF (AV CH.o hb1);clear hb1;go_wp2;go_ret;exact ⟨A8 (mH E0.o E1.o E2.o),AV BJ.o Bj.o⟩
theorem Vb (A B:Option Aa) (n c m d:Nat) (l r:List Cl) (w:AH) (hl:Ag 3 BZ w (AA A n c) l) (hr:Ag 3 BZ w (AA B m d) r):
 AS prog 128 #[AA A n c,AA B m d,.func (.func 129) #[] #[]] w fun e w'=>e=AW (Ab (BD l r))/\AK w w':=by
 have hn2:n<=9223372036854775807:=by have:=hl.le;omega
 have hln:=hl.len;have hrn:=hr.len;obtain ⟨HL,HR⟩:=Al hl hr;clear hl hr;by_cases e:n=m
 ·subst e
  have el:l.length=r.length:=AG
  obtain ⟨HN,HE⟩:=Al hln el;clear hln hrn el;obtain ⟨v,hv⟩:=BR (BD l r);rw [hv];have HV:AI (BD (l.drop 0) (r.drop 0)=v):=AF hv;clear hv;go_enter func128,ntmps128;go_wp2_with fail;go_loopg [17] n (fun q i wr=>∃k:Nat,k<=n/\q=n - k/\i=AB AE k/\BD (l.drop k) (r.drop k)=v/\AK w wr)
  case atStart=>exact Md
  obtain ⟨k,hk,hq,rfl,hv,hb⟩:=hrel;obtain ⟨HQ,HB,EJ⟩:=BB hq hb hv;clear hq hb hv HV;by_cases hlt:k < n
  ·obtain ⟨a,ao,x,A1,n1,c1,rfl,hal,hx,e0,e1,e2,g1⟩:=MX (HL.o.mono BQ HB.o) hlt
   obtain ⟨b,bo,y,B1,m1,d1,rfl,hbl,hy,f0,f1,f2,j1⟩:=MX (HR.o.mono BQ HB.o) hlt;obtain ⟨HX,HY,G1,J1⟩:=CD hx hy g1 j1;have hkn:(k:Int) < (n:Int):=AG
   have hk0:=Int.natCast_nonneg k
   clear hx hy g1 j1;go_wp2_with (go_at_call 129;refine (dW A1 B1 n1 c1 m1 d1 x y _ (G1.o.1.mono Io ((BK _ _).alloc AZ _)) (J1.o.1.mono Io ((BK _ _).alloc AZ _))).mono ?_);exact Y3
  exact Mc
 have el:¬l.length=r.length:=AG
 rw [Fu el];go_enter func128,ntmps128;exact Ko
theorem o8 {x y:BM} (e0:x.name=y.name) (e1:x.FX=y.FX) (e2:x.Ar=y.Ar) (e3:x.version=y.version) (e4:x.fields=y.fields) (e5:x.deps=y.deps):true=decide (x=y):=by
 exact zu
theorem iK (A1 B1 A2 B2:Option Aa) (n1 c1 m1 d1 n2 c2 m2 d2:Nat) (x y:BM) (w:AH) (h1:Ag 11 Eg w (AA A1 n1 c1) x.fields) (k1:Ag 11 Eg w (AA B1 m1 d1) y.fields) (h2:Ag 4 Hw w (AA A2 n2 c2) x.deps) (k2:Ag 4 Hw w (AA B2 m2 d2) y.deps):
 AS prog 123 #[AP #[AL x.name,AL x.FX,AB AE x.Ar,AB AE x.version,AA A1 n1 c1,AA A2 n2 c2],AP #[AL y.name,AL y.FX,AB AE y.Ar,AB AE y.version,AA B1 m1 d1,AA B2 m2 d2]] w fun e w'=>e=AW (Ab (decide (x=y)))/\AK w w':=by
 obtain ⟨H1,K1,H2,K2⟩:=CD h1 k1 h2 k2;clear h1 k1 h2 k2;go_enter func123,ntmps123;go_upto_region 1 with fail;obtain ⟨wb,hwb⟩:=Ad ((w.alloc (AO #[AL x.name,AL x.FX,AB AE x.Ar,AB AE x.version,AA A1 n1 c1,AA A2 n2 c2] 85)).alloc (AO #[AL y.name,AL y.FX,AB AE y.Ar,AB AE y.version,AA B1 m1 d1,AA B2 m2 d2] 85));rw [<-hwb];have hbb:AK w wb:=by rw [hwb];exact (BK _ _).alloc AZ _
 have kA:AY wb w.heap.size 85 #[AL x.name,AL x.FX,AB AE x.Ar,AB AE x.version,AA A1 n1 c1,AA A2 n2 c2]:=by rw [hwb];exact (AY.new _ _ _).alloc _
 have kB:AY wb (w.heap.size+1) 85 #[AL y.name,AL y.FX,AB AE y.Ar,AB AE y.version,AA B1 m1 d1,AA B2 m2 d2]:=by rw [hwb];exact Dk AZ
 obtain ⟨ga,hga⟩:=Ad w.heap.size;obtain ⟨gb,hgb⟩:=Ad (w.heap.size+1);rw [<-hgb] at kB ⊢;rw [<-hga] at kA ⊢;have Hu:ga=w.heap.size:=hga;clear hwb hga hgb;have la:=kA.lt;have lb:=kB.lt;have a0:=kA.cell 0;have b0:=kB.cell 0;have a1:=kA.cell 1;have b1:=kB.cell 1;have a2:=kA.cell 2;have b2:=kB.cell 2;have a3:=kA.cell 3;have b3:=kB.cell 3;have a4:=kA.cell 4;have b4:=kB.cell 4;have a5:=kA.cell 5;have b5:=kB.cell 5;simp only [Aj,Ao,BA] at a0 b0 a1 b1 a2 b2 a3 b3 a4 b4 a5 b5;obtain ⟨HA,HB,BJ⟩:=BB kA kB hbb;have CH:AI (AK wb wb):=AF (Af _ _);clear kA kB hbb Hu;by_cases e0:x.name=y.name
 case neg=>
  exact zp
 have s0:(x.name.toList==y.name.toList)=true:=by rw [ED];exact Bk e0
 have E0:=AF e0;clear e0;by_cases e1:x.FX=y.FX
 case neg=>
  have s1:(x.FX.toList==y.FX.toList)=false:=by rw [ED];exact BS e1
  exact AAa
 have s1:(x.FX.toList==y.FX.toList)=true:=by rw [ED];exact Bk e1
 have E1:=AF e1;clear e1;by_cases e2:x.Ar=y.Ar
 case neg=>exact ny
 have E2:=AF e2;by_cases e3:x.version=y.version
 case neg=>exact nz
 have E3:=AF e3;by_cases e4:x.fields=y.fields
 case neg=>
  have HC:AI (AS prog 187 #[AA A1 n1 c1,AA B1 m1 d1,.func (.func 188) #[] #[]] wb fun e w'=>e=AW (Ab false)/\AK wb w'):=AF (by have:=YN A1 B1 n1 c1 m1 d1 x.fields y.fields wb (H1.o.mono DC (AV BJ.o CH.o)) (K1.o.mono DC (AV BJ.o CH.o));rw [show BD x.fields y.fields=false by simp [BD,e4]] at this;exact this)
  have E4:=AF e4;clear e4;go_wp2_with (go_at_call 187;refine HC.o.mono ?_;clear HC);exact AAh
 have HC:AI (AS prog 187 #[AA A1 n1 c1,AA B1 m1 d1,.func (.func 188) #[] #[]] wb fun e w'=>e=AW (Ab true)/\AK wb w'):=AF (by have:=YN A1 B1 n1 c1 m1 d1 x.fields y.fields wb (H1.o.mono DC (AV BJ.o CH.o)) (K1.o.mono DC (AV BJ.o CH.o));rw [show BD x.fields y.fields=true by simp [BD,e4]] at this;exact this)
 have E4:=AF e4;clear e4;go_wp2_with (go_at_call 187;refine HC.o.mono ?_;clear HC);rintro e w1 ⟨rfl,hb1⟩;have Bj:=AF (AV CH.o hb1);clear hb1 a0 b0 a1 b1 a2 b2 a3 b3 a4 b4 a5 b5;have a0:=(HA.o.below Bj.o la).cell 0;have b0:=(HB.o.below Bj.o lb).cell 0;have a1:=(HA.o.below Bj.o la).cell 1;have b1:=(HB.o.below Bj.o lb).cell 1;have a2:=(HA.o.below Bj.o la).cell 2;have b2:=(HB.o.below Bj.o lb).cell 2;have a3:=(HA.o.below Bj.o la).cell 3;have b3:=(HB.o.below Bj.o lb).cell 3;have a4:=(HA.o.below Bj.o la).cell 4;have b4:=(HB.o.below Bj.o lb).cell 4;have a5:=(HA.o.below Bj.o la).cell 5;have b5:=(HB.o.below Bj.o lb).cell 5;simp only [Aj,Ao,BA] at a0 b0 a1 b1 a2 b2 a3 b3 a4 b4 a5 b5;by_cases e5:x.deps=y.deps
 case neg=>
  have HC:AI (AS prog 189 #[AA A2 n2 c2,AA B2 m2 d2,.func (.func 190) #[] #[]] w1 fun e w'=>e=AW (Ab false)/\AK w1 w'):=AF (by have:=Wy A2 B2 n2 c2 m2 d2 x.deps y.deps w1 (H2.o.mono GN (AV BJ.o Bj.o)) (K2.o.mono GN (AV BJ.o Bj.o));rw [show BD x.deps y.deps=false by simp [BD,e5]] at this;exact this)
  have E5:=AF e5;clear e5;go_wp2_with (go_at_call 189;refine HC.o.mono ?_;clear HC);rintro e w2 ⟨rfl,hb2⟩;have Cz:=AF (AV Bj.o hb2);clear hb2;go_wp2;go_ret;exact ⟨A8 (BS (fun h=>E5.o F9)).symm,AV BJ.o Cz.o⟩
 have HC:AI (AS prog 189 #[AA A2 n2 c2,AA B2 m2 d2,.func (.func 190) #[] #[]] w1 fun e w'=>e=AW (Ab true)/\AK w1 w'):=AF (by have:=Wy A2 B2 n2 c2 m2 d2 x.deps y.deps w1 (H2.o.mono GN (AV BJ.o Bj.o)) (K2.o.mono GN (AV BJ.o Bj.o));rw [show BD x.deps y.deps=true by simp [BD,e5]] at this;exact this)
 have E5:=AF e5;clear e5;go_wp2_with (go_at_call 189;refine HC.o.mono ?_;clear HC);rintro e w2 ⟨rfl,hb2⟩;have Cz:=AF (AV Bj.o hb2);clear hb2;go_wp2;go_ret;exact ⟨A8 (o8 E0.o E1.o E2.o E3.o E4.o E5.o),AV BJ.o Cz.o⟩
theorem Wx (A B:Option Aa) (n c m d:Nat) (l r:List BM) (w:AH) (hl:Ag 6 BW w (AA A n c) l) (hr:Ag 6 BW w (AA B m d) r):
 AS prog 122 #[AA A n c,AA B m d,.func (.func 123) #[] #[]] w fun e w'=>e=AW (Ab (BD l r))/\AK w w':=by
 have hn2:n<=9223372036854775807:=by have:=hl.le;omega
 have hln:=hl.len;have hrn:=hr.len;obtain ⟨HL,HR⟩:=Al hl hr;clear hl hr;by_cases e:n=m
 ·subst e
  have el:l.length=r.length:=AG
  obtain ⟨HN,HE⟩:=Al hln el;clear hln hrn el;obtain ⟨v,hv⟩:=BR (BD l r);rw [hv];have HV:AI (BD (l.drop 0) (r.drop 0)=v):=AF hv;clear hv;go_enter func122,ntmps122;go_wp2_with fail;go_loopg [17] n (fun q i wr=>∃k:Nat,k<=n/\q=n - k/\i=AB AE k/\BD (l.drop k) (r.drop k)=v/\AK w wr)
  case atStart=>exact Md
  obtain ⟨k,hk,hq,rfl,hv,hb⟩:=hrel;obtain ⟨HQ,HB,EJ⟩:=BB hq hb hv;clear hq hb hv HV;by_cases hlt:k < n
  ·obtain ⟨a,ao,x,A1,n1,c1,A2,n2,c2,rfl,hal,hx,e0,e1,e2,e3,e4,e5,g1,g2⟩:=GL (HL.o.mono BP HB.o) hlt
   obtain ⟨b,bo,y,B1,m1,d1,B2,m2,d2,rfl,hbl,hy,f0,f1,f2,f3,f4,f5,j1,j2⟩:=GL (HR.o.mono BP HB.o) hlt;obtain ⟨HX,HY,G1,J1,G2,J2⟩:=Fg hx hy g1 j1 g2 j2;have hkn:(k:Int) < (n:Int):=AG
   have hk0:=Int.natCast_nonneg k
   clear hx hy g1 g2 j1 j2;go_wp2_with (go_at_call 123;refine (iK A1 B1 A2 B2 n1 c1 m1 d1 n2 c2 m2 d2 x y _ (G1.o.1.mono DC ((BK _ _).alloc AZ _)) (J1.o.1.mono DC ((BK _ _).alloc AZ _)) (G2.o.1.mono GN ((BK _ _).alloc AZ _)) (J2.o.1.mono GN ((BK _ _).alloc AZ _))).mono ?_);exact Y3
  exact Mc
 have el:¬l.length=r.length:=AG
 rw [Fu el];go_enter func122,ntmps122;exact Ko
theorem xE {x y:Cm} (e0:x.head=y.head) (e1:x.schema=y.schema) (e2:x.froms=y.froms) (e3:x.C0=y.C0) (e4:x.sets=y.sets):true=decide (x=y):=by
 obtain ⟨u0,u1,u2,u3,u4⟩:=x;obtain ⟨v0,v1,v2,v3,v4⟩:=y
 skip
 simp_all
theorem oV (A1 B1 A2 B2 A3 B3:Option Aa) (n1 c1 m1 d1 n2 c2 m2 d2 n3 c3 m3 d3:Nat) (x y:Cm) (w:AH) (h1:Ag 8 DU w (AA A1 n1 c1) x.froms) (k1:Ag 8 DU w (AA B1 m1 d1) y.froms) (h2:Ag 11 Ea w (AA A2 n2 c2) x.C0) (k2:Ag 11 Ea w (AA B2 m2 d2) y.C0) (h3:Ag 7 Gs w (AA A3 n3 c3) x.sets) (k3:Ag 7 Gs w (AA B3 m3 d3) y.sets):
 AS prog 125 #[AP #[AL x.head,AB AE x.schema,AA A1 n1 c1,AA A2 n2 c2,AA A3 n3 c3],AP #[AL y.head,AB AE y.schema,AA B1 m1 d1,AA B2 m2 d2,AA B3 m3 d3]] w fun e w'=>e=AW (Ab (decide (x=y)))/\AK w w':=by
 obtain ⟨H1,K1,H2,K2,H3,K3⟩:=Fg h1 k1 h2 k2 h3 k3;clear h1 k1 h2 k2 h3 k3;go_enter func125,ntmps125;go_upto_region 1 with fail;obtain ⟨wb,hwb⟩:=Ad ((w.alloc (AO #[AL x.head,AB AE x.schema,AA A1 n1 c1,AA A2 n2 c2,AA A3 n3 c3] 160)).alloc (AO #[AL y.head,AB AE y.schema,AA B1 m1 d1,AA B2 m2 d2,AA B3 m3 d3] 160));rw [<-hwb];have hbb:AK w wb:=by rw [hwb];exact (BK _ _).alloc AZ _
 have kA:AY wb w.heap.size 160 #[AL x.head,AB AE x.schema,AA A1 n1 c1,AA A2 n2 c2,AA A3 n3 c3]:=by rw [hwb];exact (AY.new _ _ _).alloc _
 have kB:AY wb (w.heap.size+1) 160 #[AL y.head,AB AE y.schema,AA B1 m1 d1,AA B2 m2 d2,AA B3 m3 d3]:=by rw [hwb];exact Dk AZ
 obtain ⟨ga,hga⟩:=Ad w.heap.size;obtain ⟨gb,hgb⟩:=Ad (w.heap.size+1);rw [<-hgb] at kB ⊢;rw [<-hga] at kA ⊢;have Hu:ga=w.heap.size:=hga;clear hwb hga hgb;have la:=kA.lt;have lb:=kB.lt;have a0:=kA.cell 0;have b0:=kB.cell 0;have a1:=kA.cell 1;have b1:=kB.cell 1;have a2:=kA.cell 2;have b2:=kB.cell 2;have a3:=kA.cell 3;have b3:=kB.cell 3;have a4:=kA.cell 4;have b4:=kB.cell 4;simp only [Aj,Ao,BA] at a0 b0 a1 b1 a2 b2 a3 b3 a4 b4;obtain ⟨HA,HB,BJ⟩:=BB kA kB hbb;have CH:AI (AK wb wb):=AF (Af _ _);clear kA kB hbb Hu;by_cases e0:x.head=y.head
 case neg=>
  have s0:(x.head.toList==y.head.toList)=false:=by rw [ED];exact BS e0
  exact nH
 have s0:(x.head.toList==y.head.toList)=true:=by rw [ED];exact Bk e0
 have E0:=AF e0;clear e0;by_cases e1:x.schema=y.schema
 case neg=>exact AA9
 have E1:=AF e1;by_cases e2:x.froms=y.froms
 case neg=>
  have HC:AI (AS prog 191 #[AA A1 n1 c1,AA B1 m1 d1] wb fun e w'=>e=AW (Ab false)/\AK wb w'):=AF (by have:=Wv A1 B1 n1 c1 m1 d1 x.froms y.froms wb (H1.o.mono EW (AV BJ.o CH.o)) (K1.o.mono EW (AV BJ.o CH.o));rw [show BD x.froms y.froms=false by simp [BD,e2]] at this;exact this)
  have E2:=AF e2;clear e2;go_wp2_with (go_at_call 191;refine HC.o.mono ?_;clear HC);exact AAg
 have HC:AI (AS prog 191 #[AA A1 n1 c1,AA B1 m1 d1] wb fun e w'=>e=AW (Ab true)/\AK wb w'):=AF (by have:=Wv A1 B1 n1 c1 m1 d1 x.froms y.froms wb (H1.o.mono EW (AV BJ.o CH.o)) (K1.o.mono EW (AV BJ.o CH.o));rw [show BD x.froms y.froms=true by simp [BD,e2]] at this;exact this)
 have E2:=AF e2;clear e2;go_wp2_with (go_at_call 191;refine HC.o.mono ?_;clear HC);rintro e w1 ⟨rfl,hb1⟩;have Bj:=AF (AV CH.o hb1);clear hb1 a0 b0 a1 b1 a2 b2 a3 b3 a4 b4;have a0:=(HA.o.below Bj.o la).cell 0;have b0:=(HB.o.below Bj.o lb).cell 0;have a1:=(HA.o.below Bj.o la).cell 1;have b1:=(HB.o.below Bj.o lb).cell 1;have a2:=(HA.o.below Bj.o la).cell 2;have b2:=(HB.o.below Bj.o lb).cell 2;have a3:=(HA.o.below Bj.o la).cell 3;have b3:=(HB.o.below Bj.o lb).cell 3;have a4:=(HA.o.below Bj.o la).cell 4;have b4:=(HB.o.below Bj.o lb).cell 4;simp only [Aj,Ao,BA] at a0 b0 a1 b1 a2 b2 a3 b3 a4 b4;by_cases e3:x.C0=y.C0
 case neg=>
  have HC:AI (AS prog 192 #[AA A2 n2 c2,AA B2 m2 d2] w1 fun e w'=>e=AW (Ab false)/\AK w1 w'):=AF (by have:=Ww A2 B2 n2 c2 m2 d2 x.C0 y.C0 w1 (H2.o.mono FZ (AV BJ.o Bj.o)) (K2.o.mono FZ (AV BJ.o Bj.o));rw [show BD x.C0 y.C0=false by simp [BD,e3]] at this;exact this)
  have E3:=AF e3;clear e3;go_wp2_with (go_at_call 192;refine HC.o.mono ?_;clear HC);rintro e w2 ⟨rfl,hb2⟩;have Cz:=AF (AV Bj.o hb2);clear hb2;go_wp2;go_ret;exact ⟨A8 (BS (fun h=>E3.o F9)).symm,AV BJ.o Cz.o⟩
 have HC:AI (AS prog 192 #[AA A2 n2 c2,AA B2 m2 d2] w1 fun e w'=>e=AW (Ab true)/\AK w1 w'):=AF (by have:=Ww A2 B2 n2 c2 m2 d2 x.C0 y.C0 w1 (H2.o.mono FZ (AV BJ.o Bj.o)) (K2.o.mono FZ (AV BJ.o Bj.o));rw [show BD x.C0 y.C0=true by simp [BD,e3]] at this;exact this)
 have E3:=AF e3;clear e3;go_wp2_with (go_at_call 192;refine HC.o.mono ?_;clear HC);rintro e w2 ⟨rfl,hb2⟩;have Cz:=AF (AV Bj.o hb2);clear hb2 a0 b0 a1 b1 a2 b2 a3 b3 a4 b4;have a0:=(HA.o.below Cz.o la).cell 0;have b0:=(HB.o.below Cz.o lb).cell 0;have a1:=(HA.o.below Cz.o la).cell 1;have b1:=(HB.o.below Cz.o lb).cell 1;have a2:=(HA.o.below Cz.o la).cell 2;have b2:=(HB.o.below Cz.o lb).cell 2;have a3:=(HA.o.below Cz.o la).cell 3;have b3:=(HB.o.below Cz.o lb).cell 3;have a4:=(HA.o.below Cz.o la).cell 4;have b4:=(HB.o.below Cz.o lb).cell 4;simp only [Aj,Ao,BA] at a0 b0 a1 b1 a2 b2 a3 b3 a4 b4;by_cases e4:x.sets=y.sets
 case neg=>
  have HC:AI (AS prog 193 #[AA A3 n3 c3,AA B3 m3 d3] w2 fun e w'=>e=AW (Ab false)/\AK w2 w'):=AF (by have:=YL A3 B3 n3 c3 m3 d3 x.sets y.sets w2 (H3.o.mono GK (AV BJ.o Cz.o)) (K3.o.mono GK (AV BJ.o Cz.o));rw [show BD x.sets y.sets=false by simp [BD,e4]] at this;exact this)
  have E4:=AF e4;clear e4;go_wp2_with (go_at_call 193;refine HC.o.mono ?_;clear HC);rintro e w3 ⟨rfl,hb3⟩;have JV:=AF (AV Cz.o hb3);clear hb3;go_wp2;go_ret;exact ⟨A8 (BS (fun h=>E4.o F9)).symm,AV BJ.o JV.o⟩
 have HC:AI (AS prog 193 #[AA A3 n3 c3,AA B3 m3 d3] w2 fun e w'=>e=AW (Ab true)/\AK w2 w'):=AF (by have:=YL A3 B3 n3 c3 m3 d3 x.sets y.sets w2 (H3.o.mono GK (AV BJ.o Cz.o)) (K3.o.mono GK (AV BJ.o Cz.o));rw [show BD x.sets y.sets=true by simp [BD,e4]] at this;exact this)
 have E4:=AF e4;clear e4;go_wp2_with (go_at_call 193;refine HC.o.mono ?_;clear HC);rintro e w3 ⟨rfl,hb3⟩;have JV:=AF (AV Cz.o hb3);clear hb3;go_wp2;go_ret;exact ⟨A8 (xE E0.o E1.o E2.o E3.o E4.o),AV BJ.o JV.o⟩
theorem aM (A B:Option Aa) (n c m d:Nat) (l r:List Cm) (w:AH) (hl:Ag 5 CT w (AA A n c) l) (hr:Ag 5 CT w (AA B m d) r):
 AS prog 124 #[AA A n c,AA B m d,.func (.func 125) #[] #[]] w fun e w'=>e=AW (Ab (BD l r))/\AK w w':=by
 have hn2:n<=9223372036854775807:=by have:=hl.le;omega
 have hln:=hl.len;have hrn:=hr.len;obtain ⟨HL,HR⟩:=Al hl hr;clear hl hr;by_cases e:n=m
 ·subst e
  have el:l.length=r.length:=AG
  obtain ⟨HN,HE⟩:=Al hln el;clear hln hrn el;obtain ⟨v,hv⟩:=BR (BD l r);rw [hv];have HV:AI (BD (l.drop 0) (r.drop 0)=v):=AF hv;clear hv;go_enter func124,ntmps124;go_wp2_with fail;go_loopg [17] n (fun q i wr=>∃k:Nat,k<=n/\q=n - k/\i=AB AE k/\BD (l.drop k) (r.drop k)=v/\AK w wr)
  case atStart=>exact Md
  obtain ⟨k,hk,hq,rfl,hv,hb⟩:=hrel;obtain ⟨HQ,HB,EJ⟩:=BB hq hb hv;clear hq hb hv HV;by_cases hlt:k < n
  ·obtain ⟨a,ao,x,A1,n1,c1,A2,n2,c2,A3,n3,c3,rfl,hal,hx,e0,e1,e2,e3,e4,g1,g2,g3⟩:=QB (HL.o.mono Bf HB.o) hlt
   obtain ⟨b,bo,y,B1,m1,d1,B2,m2,d2,B3,m3,d3,rfl,hbl,hy,f0,f1,f2,f3,f4,j1,j2,j3⟩:=QB (HR.o.mono Bf HB.o) hlt;obtain ⟨HX,HY,G1,J1,G2,J2,G3,J3⟩:=gy hx hy g1 j1 g2 j2 g3 j3;have hkn:(k:Int) < (n:Int):=AG
   have hk0:=Int.natCast_nonneg k
   clear hx hy g1 g2 g3 j1 j2 j3;go_wp2_with (go_at_call 125;refine (oV A1 B1 A2 B2 A3 B3 n1 c1 m1 d1 n2 c2 m2 d2 n3 c3 m3 d3 x y _ (G1.o.1.mono EW ((BK _ _).alloc AZ _)) (J1.o.1.mono EW ((BK _ _).alloc AZ _)) (G2.o.1.mono FZ ((BK _ _).alloc AZ _)) (J2.o.1.mono FZ ((BK _ _).alloc AZ _)) (G3.o.1.mono GK ((BK _ _).alloc AZ _)) (J3.o.1.mono GK ((BK _ _).alloc AZ _))).mono ?_);exact Y3
  exact Mc
 have el:¬l.length=r.length:=AG
 rw [Fu el];go_enter func124,ntmps124;exact Ko
theorem mK {x y:DH} (e0:x.from_=y.from_) (e1:x.DS=y.DS) (e2:x.a=y.a) (e3:x.b=y.b) (e4:x.moves=y.moves):true=decide (x=y):=by
 obtain ⟨u0,u1,u2,u3,u4⟩:=x;obtain ⟨v0,v1,v2,v3,v4⟩:=y
 skip
 simp_all
theorem dX (A1 B1:Option Aa) (n1 c1 m1 d1:Nat) (x y:DH) (w:AH) (h1:Ag 5 Gf w (AA A1 n1 c1) x.moves) (k1:Ag 5 Gf w (AA B1 m1 d1) y.moves):
 AS prog 127 #[AP #[AL x.from_,AL x.DS,AB AE x.a,AB AE x.b,AA A1 n1 c1],AP #[AL y.from_,AL y.DS,AB AE y.a,AB AE y.b,AA B1 m1 d1]] w fun e w'=>e=AW (Ab (decide (x=y)))/\AK w w':=by
 obtain ⟨H1,K1⟩:=Al h1 k1;clear h1 k1;go_enter func127,ntmps127;go_upto_region 1 with fail;obtain ⟨wb,hwb⟩:=Ad ((w.alloc (AO #[AL x.from_,AL x.DS,AB AE x.a,AB AE x.b,AA A1 n1 c1] 163)).alloc (AO #[AL y.from_,AL y.DS,AB AE y.a,AB AE y.b,AA B1 m1 d1] 163));rw [<-hwb];have hbb:AK w wb:=by rw [hwb];exact (BK _ _).alloc AZ _
 have kA:AY wb w.heap.size 163 #[AL x.from_,AL x.DS,AB AE x.a,AB AE x.b,AA A1 n1 c1]:=by rw [hwb];exact (AY.new _ _ _).alloc _
 have kB:AY wb (w.heap.size+1) 163 #[AL y.from_,AL y.DS,AB AE y.a,AB AE y.b,AA B1 m1 d1]:=by rw [hwb];exact Dk AZ
 obtain ⟨ga,hga⟩:=Ad w.heap.size;obtain ⟨gb,hgb⟩:=Ad (w.heap.size+1);rw [<-hgb] at kB ⊢;rw [<-hga] at kA ⊢;have Hu:ga=w.heap.size:=hga;clear hwb hga hgb;have la:=kA.lt;have lb:=kB.lt;have a0:=kA.cell 0;have b0:=kB.cell 0;have a1:=kA.cell 1;have b1:=kB.cell 1;have a2:=kA.cell 2;have b2:=kB.cell 2;have a3:=kA.cell 3;have b3:=kB.cell 3;have a4:=kA.cell 4;have b4:=kB.cell 4;simp only [Aj,Ao,BA] at a0 b0 a1 b1 a2 b2 a3 b3 a4 b4;obtain ⟨HA,HB,BJ⟩:=BB kA kB hbb;have CH:AI (AK wb wb):=AF (Af _ _);clear kA kB hbb Hu;by_cases e0:x.from_=y.from_
 case neg=>
  have s0:(x.from_.toList==y.from_.toList)=false:=by rw [ED];exact BS e0
  exact nH
 have s0:(x.from_.toList==y.from_.toList)=true:=by rw [ED];exact Bk e0
 have E0:=AF e0;clear e0;by_cases e1:x.DS=y.DS
 case neg=>
  have s1:(x.DS.toList==y.DS.toList)=false:=by rw [ED];exact BS e1
  exact AAa
 have s1:(x.DS.toList==y.DS.toList)=true:=by rw [ED];exact Bk e1
 have E1:=AF e1;clear e1;by_cases e2:x.a=y.a
 case neg=>exact ny
 have E2:=AF e2;by_cases e3:x.b=y.b
 case neg=>exact nz
 have E3:=AF e3;by_cases e4:x.moves=y.moves
 case neg=>
  have HC:AI (AS prog 194 #[AA A1 n1 c1,AA B1 m1 d1] wb fun e w'=>e=AW (Ab false)/\AK wb w'):=AF (by have:=Wu A1 B1 n1 c1 m1 d1 x.moves y.moves wb (H1.o.mono GH (AV BJ.o CH.o)) (K1.o.mono GH (AV BJ.o CH.o));rw [show BD x.moves y.moves=false by simp [BD,e4]] at this;exact this)
  have E4:=AF e4;clear e4;go_wp2_with (go_at_call 194;refine HC.o.mono ?_;clear HC);exact AAh
 have HC:AI (AS prog 194 #[AA A1 n1 c1,AA B1 m1 d1] wb fun e w'=>e=AW (Ab true)/\AK wb w'):=AF (by have:=Wu A1 B1 n1 c1 m1 d1 x.moves y.moves wb (H1.o.mono GH (AV BJ.o CH.o)) (K1.o.mono GH (AV BJ.o CH.o));rw [show BD x.moves y.moves=true by simp [BD,e4]] at this;exact this)
 have E4:=AF e4;clear e4;go_wp2_with (go_at_call 194;refine HC.o.mono ?_;clear HC);rintro e w1 ⟨rfl,hb1⟩;have Bj:=AF (AV CH.o hb1);clear hb1;go_wp2;go_ret;exact ⟨A8 (mK E0.o E1.o E2.o E3.o E4.o),AV BJ.o Bj.o⟩
theorem Vc (A B:Option Aa) (n c m d:Nat) (l r:List DH) (w:AH) (hl:Ag 5 CF w (AA A n c) l) (hr:Ag 5 CF w (AA B m d) r):
 AS prog 126 #[AA A n c,AA B m d,.func (.func 127) #[] #[]] w fun e w'=>e=AW (Ab (BD l r))/\AK w w':=by
 have hn2:n<=9223372036854775807:=by have:=hl.le;omega
 have hln:=hl.len;have hrn:=hr.len;obtain ⟨HL,HR⟩:=Al hl hr;clear hl hr;by_cases e:n=m
 ·subst e
  have el:l.length=r.length:=AG
  obtain ⟨HN,HE⟩:=Al hln el;clear hln hrn el;obtain ⟨v,hv⟩:=BR (BD l r);rw [hv];have HV:AI (BD (l.drop 0) (r.drop 0)=v):=AF hv;clear hv;go_enter func126,ntmps126;go_wp2_with fail;go_loopg [17] n (fun q i wr=>∃k:Nat,k<=n/\q=n - k/\i=AB AE k/\BD (l.drop k) (r.drop k)=v/\AK w wr)
  case atStart=>exact Md
  obtain ⟨k,hk,hq,rfl,hv,hb⟩:=hrel;obtain ⟨HQ,HB,EJ⟩:=BB hq hb hv;clear hq hb hv HV;by_cases hlt:k < n
  ·obtain ⟨a,ao,x,A1,n1,c1,rfl,hal,hx,e0,e1,e2,e3,e4,g1⟩:=Qc (HL.o.mono Bo HB.o) hlt
   obtain ⟨b,bo,y,B1,m1,d1,rfl,hbl,hy,f0,f1,f2,f3,f4,j1⟩:=Qc (HR.o.mono Bo HB.o) hlt;obtain ⟨HX,HY,G1,J1⟩:=CD hx hy g1 j1;have hkn:(k:Int) < (n:Int):=AG
   have hk0:=Int.natCast_nonneg k
   clear hx hy g1 j1;go_wp2_with (go_at_call 127;refine (dX A1 B1 n1 c1 m1 d1 x y _ (G1.o.1.mono GH ((BK _ _).alloc AZ _)) (J1.o.1.mono GH ((BK _ _).alloc AZ _))).mono ?_);exact Y3
  exact Mc
 have el:¬l.length=r.length:=AG
 rw [Fu el];go_enter func126,ntmps126;exact Ko
theorem o7 {x y:BG} (e0:x.Bh=y.Bh) (e1:x.units=y.units) (e2:x.Aq=y.Aq) (e3:x.rules=y.rules) (e4:x.converts=y.converts) (e5:x.purposes=y.purposes):true=decide (x=y):=by
 exact zu
theorem VI (A1 B1 A2 B2 A3 B3 A4 B4 A5 B5 A6 B6:Option Aa) (n1 c1 m1 d1 n2 c2 m2 d2 n3 c3 m3 d3 n4 c4 m4 d4 n5 c5 m5 d5 n6 c6 m6 d6:Nat) (x y:BG) (w:AH) (h1:Ag 1 Dd w (AA A1 n1 c1) x.Bh) (k1:Ag 1 Dd w (AA B1 m1 d1) y.Bh) (h2:Ag 5 CS w (AA A2 n2 c2) x.units) (k2:Ag 5 CS w (AA B2 m2 d2) y.units) (h3:Ag 6 BW w (AA A3 n3 c3) x.Aq) (k3:Ag 6 BW w (AA B3 m3 d3) y.Aq) (h4:Ag 5 CT w (AA A4 n4 c4) x.rules) (k4:Ag 5 CT w (AA B4 m4 d4) y.rules) (h5:Ag 5 CF w (AA A5 n5 c5) x.converts) (k5:Ag 5 CF w (AA B5 m5 d5) y.converts) (h6:Ag 3 BZ w (AA A6 n6 c6) x.purposes) (k6:Ag 3 BZ w (AA B6 m6 d6) y.purposes):
 AS prog 80 #[AP #[AA A1 n1 c1,AA A2 n2 c2,AA A3 n3 c3,AA A4 n4 c4,AA A5 n5 c5,AA A6 n6 c6],AP #[AA B1 m1 d1,AA B2 m2 d2,AA B3 m3 d3,AA B4 m4 d4,AA B5 m5 d5,AA B6 m6 d6]] w fun e w'=>e=AW (Ab (decide (x=y)))/\AK w w':=by
 obtain ⟨H1,K1,H2,K2,H3,K3,H4,K4,H5,K5,H6,K6⟩:=QX h1 k1 h2 k2 h3 k3 h4 k4 h5 k5 h6 k6;clear h1 k1 h2 k2 h3 k3 h4 k4 h5 k5 h6 k6;go_enter func80,ntmps80;go_upto_region 1 with fail;obtain ⟨wb,hwb⟩:=Ad ((w.alloc (AO #[AA A1 n1 c1,AA A2 n2 c2,AA A3 n3 c3,AA A4 n4 c4,AA A5 n5 c5,AA A6 n6 c6] 29)).alloc (AO #[AA B1 m1 d1,AA B2 m2 d2,AA B3 m3 d3,AA B4 m4 d4,AA B5 m5 d5,AA B6 m6 d6] 29));rw [<-hwb];have hbb:AK w wb:=by rw [hwb];exact (BK _ _).alloc AZ _
 have kA:AY wb w.heap.size 29 #[AA A1 n1 c1,AA A2 n2 c2,AA A3 n3 c3,AA A4 n4 c4,AA A5 n5 c5,AA A6 n6 c6]:=by rw [hwb];exact (AY.new _ _ _).alloc _
 have kB:AY wb (w.heap.size+1) 29 #[AA B1 m1 d1,AA B2 m2 d2,AA B3 m3 d3,AA B4 m4 d4,AA B5 m5 d5,AA B6 m6 d6]:=by rw [hwb];exact Dk AZ
 obtain ⟨ga,hga⟩:=Ad w.heap.size;obtain ⟨gb,hgb⟩:=Ad (w.heap.size+1);rw [<-hgb] at kB ⊢;rw [<-hga] at kA ⊢;have Hu:ga=w.heap.size:=hga;clear hwb hga hgb;have la:=kA.lt;have lb:=kB.lt;have a0:=kA.cell 0;have b0:=kB.cell 0;have a1:=kA.cell 1;have b1:=kB.cell 1;have a2:=kA.cell 2;have b2:=kB.cell 2;have a3:=kA.cell 3;have b3:=kB.cell 3;have a4:=kA.cell 4;have b4:=kB.cell 4;have a5:=kA.cell 5;have b5:=kB.cell 5;simp only [Aj,Ao,BA] at a0 b0 a1 b1 a2 b2 a3 b3 a4 b4 a5 b5;obtain ⟨HA,HB,BJ⟩:=BB kA kB hbb;have CH:AI (AK wb wb):=AF (Af _ _);clear kA kB hbb Hu;by_cases e0:x.Bh=y.Bh
 case neg=>
  have HC:AI (AS prog 120 #[AA A1 n1 c1,AA B1 m1 d1] wb fun e w'=>e=AW (Ab false)/\AK wb w'):=AF (by have:=I3 A1 B1 n1 c1 m1 d1 x.Bh y.Bh wb (H1.o.mono BX (AV BJ.o CH.o)) (K1.o.mono BX (AV BJ.o CH.o));rw [show BD x.Bh y.Bh=false by simp [BD,e0]] at this;exact this)
  exact AAo
 have HC:AI (AS prog 120 #[AA A1 n1 c1,AA B1 m1 d1] wb fun e w'=>e=AW (Ab true)/\AK wb w'):=AF (by have:=I3 A1 B1 n1 c1 m1 d1 x.Bh y.Bh wb (H1.o.mono BX (AV BJ.o CH.o)) (K1.o.mono BX (AV BJ.o CH.o));rw [show BD x.Bh y.Bh=true by simp [BD,e0]] at this;exact this)
 have E0:=AF e0;clear e0;go_wp2_with (go_at_call 120;refine HC.o.mono ?_;clear HC);rintro e w1 ⟨rfl,hb1⟩;have Bj:=AF (AV CH.o hb1);clear hb1 a0 b0 a1 b1 a2 b2 a3 b3 a4 b4 a5 b5;have a0:=(HA.o.below Bj.o la).cell 0;have b0:=(HB.o.below Bj.o lb).cell 0;have a1:=(HA.o.below Bj.o la).cell 1;have b1:=(HB.o.below Bj.o lb).cell 1;have a2:=(HA.o.below Bj.o la).cell 2;have b2:=(HB.o.below Bj.o lb).cell 2;have a3:=(HA.o.below Bj.o la).cell 3;have b3:=(HB.o.below Bj.o lb).cell 3;have a4:=(HA.o.below Bj.o la).cell 4;have b4:=(HB.o.below Bj.o lb).cell 4;have a5:=(HA.o.below Bj.o la).cell 5;have b5:=(HB.o.below Bj.o lb).cell 5;simp only [Aj,Ao,BA] at a0 b0 a1 b1 a2 b2 a3 b3 a4 b4 a5 b5;by_cases e1:x.units=y.units
 case neg=>
  have HC:AI (AS prog 121 #[AA A2 n2 c2,AA B2 m2 d2] w1 fun e w'=>e=AW (Ab false)/\AK w1 w'):=AF (by have:=Wt A2 B2 n2 c2 m2 d2 x.units y.units w1 (H2.o.mono Bq (AV BJ.o Bj.o)) (K2.o.mono Bq (AV BJ.o Bj.o));rw [show BD x.units y.units=false by simp [BD,e1]] at this;exact this)
  have E1:=AF e1;clear e1;go_wp2_with (go_at_call 121;refine HC.o.mono ?_;clear HC);rintro e w2 ⟨rfl,hb2⟩;have Cz:=AF (AV Bj.o hb2);clear hb2;go_wp2;go_ret;exact ⟨A8 (BS (fun h=>E1.o F9)).symm,AV BJ.o Cz.o⟩
 have HC:AI (AS prog 121 #[AA A2 n2 c2,AA B2 m2 d2] w1 fun e w'=>e=AW (Ab true)/\AK w1 w'):=AF (by have:=Wt A2 B2 n2 c2 m2 d2 x.units y.units w1 (H2.o.mono Bq (AV BJ.o Bj.o)) (K2.o.mono Bq (AV BJ.o Bj.o));rw [show BD x.units y.units=true by simp [BD,e1]] at this;exact this)
 have E1:=AF e1;clear e1;go_wp2_with (go_at_call 121;refine HC.o.mono ?_;clear HC);rintro e w2 ⟨rfl,hb2⟩;have Cz:=AF (AV Bj.o hb2);clear hb2 a0 b0 a1 b1 a2 b2 a3 b3 a4 b4 a5 b5;have a0:=(HA.o.below Cz.o la).cell 0;have b0:=(HB.o.below Cz.o lb).cell 0;have a1:=(HA.o.below Cz.o la).cell 1;have b1:=(HB.o.below Cz.o lb).cell 1;have a2:=(HA.o.below Cz.o la).cell 2;have b2:=(HB.o.below Cz.o lb).cell 2;have a3:=(HA.o.below Cz.o la).cell 3;have b3:=(HB.o.below Cz.o lb).cell 3;have a4:=(HA.o.below Cz.o la).cell 4;have b4:=(HB.o.below Cz.o lb).cell 4;have a5:=(HA.o.below Cz.o la).cell 5;have b5:=(HB.o.below Cz.o lb).cell 5;simp only [Aj,Ao,BA] at a0 b0 a1 b1 a2 b2 a3 b3 a4 b4 a5 b5;by_cases e2:x.Aq=y.Aq
 case neg=>
  have HC:AI (AS prog 122 #[AA A3 n3 c3,AA B3 m3 d3,.func (.func 123) #[] #[]] w2 fun e w'=>e=AW (Ab false)/\AK w2 w'):=AF (by have:=Wx A3 B3 n3 c3 m3 d3 x.Aq y.Aq w2 (H3.o.mono BP (AV BJ.o Cz.o)) (K3.o.mono BP (AV BJ.o Cz.o));rw [show BD x.Aq y.Aq=false by simp [BD,e2]] at this;exact this)
  have E2:=AF e2;clear e2;go_wp2_with (go_at_call 122;refine HC.o.mono ?_;clear HC);rintro e w3 ⟨rfl,hb3⟩;have JV:=AF (AV Cz.o hb3);clear hb3;go_wp2;go_ret;exact ⟨A8 (BS (fun h=>E2.o F9)).symm,AV BJ.o JV.o⟩
 have HC:AI (AS prog 122 #[AA A3 n3 c3,AA B3 m3 d3,.func (.func 123) #[] #[]] w2 fun e w'=>e=AW (Ab true)/\AK w2 w'):=AF (by have:=Wx A3 B3 n3 c3 m3 d3 x.Aq y.Aq w2 (H3.o.mono BP (AV BJ.o Cz.o)) (K3.o.mono BP (AV BJ.o Cz.o));rw [show BD x.Aq y.Aq=true by simp [BD,e2]] at this;exact this)
 have E2:=AF e2;clear e2;go_wp2_with (go_at_call 122;refine HC.o.mono ?_;clear HC);rintro e w3 ⟨rfl,hb3⟩;have JV:=AF (AV Cz.o hb3);clear hb3 a0 b0 a1 b1 a2 b2 a3 b3 a4 b4 a5 b5;have a0:=(HA.o.below JV.o la).cell 0;have b0:=(HB.o.below JV.o lb).cell 0;have a1:=(HA.o.below JV.o la).cell 1;have b1:=(HB.o.below JV.o lb).cell 1;have a2:=(HA.o.below JV.o la).cell 2;have b2:=(HB.o.below JV.o lb).cell 2;have a3:=(HA.o.below JV.o la).cell 3;have b3:=(HB.o.below JV.o lb).cell 3;have a4:=(HA.o.below JV.o la).cell 4;have b4:=(HB.o.below JV.o lb).cell 4;have a5:=(HA.o.below JV.o la).cell 5;have b5:=(HB.o.below JV.o lb).cell 5;simp only [Aj,Ao,BA] at a0 b0 a1 b1 a2 b2 a3 b3 a4 b4 a5 b5;by_cases e3:x.rules=y.rules
 case neg=>
  have HC:AI (AS prog 124 #[AA A4 n4 c4,AA B4 m4 d4,.func (.func 125) #[] #[]] w3 fun e w'=>e=AW (Ab false)/\AK w3 w'):=AF (by have:=aM A4 B4 n4 c4 m4 d4 x.rules y.rules w3 (H4.o.mono Bf (AV BJ.o JV.o)) (K4.o.mono Bf (AV BJ.o JV.o));rw [show BD x.rules y.rules=false by simp [BD,e3]] at this;exact this)
  have E3:=AF e3;clear e3;go_wp2_with (go_at_call 124;refine HC.o.mono ?_;clear HC);rintro e w4 ⟨rfl,hb4⟩;have Lj:=AF (AV JV.o hb4);clear hb4;go_wp2;go_ret;exact ⟨A8 (BS (fun h=>E3.o F9)).symm,AV BJ.o Lj.o⟩
 have HC:AI (AS prog 124 #[AA A4 n4 c4,AA B4 m4 d4,.func (.func 125) #[] #[]] w3 fun e w'=>e=AW (Ab true)/\AK w3 w'):=AF (by have:=aM A4 B4 n4 c4 m4 d4 x.rules y.rules w3 (H4.o.mono Bf (AV BJ.o JV.o)) (K4.o.mono Bf (AV BJ.o JV.o));rw [show BD x.rules y.rules=true by simp [BD,e3]] at this;exact this)
 have E3:=AF e3;clear e3;go_wp2_with (go_at_call 124;refine HC.o.mono ?_;clear HC);rintro e w4 ⟨rfl,hb4⟩;have Lj:=AF (AV JV.o hb4);clear hb4 a0 b0 a1 b1 a2 b2 a3 b3 a4 b4 a5 b5;have a0:=(HA.o.below Lj.o la).cell 0;have b0:=(HB.o.below Lj.o lb).cell 0;have a1:=(HA.o.below Lj.o la).cell 1;have b1:=(HB.o.below Lj.o lb).cell 1;have a2:=(HA.o.below Lj.o la).cell 2;have b2:=(HB.o.below Lj.o lb).cell 2;have a3:=(HA.o.below Lj.o la).cell 3;have b3:=(HB.o.below Lj.o lb).cell 3;have a4:=(HA.o.below Lj.o la).cell 4;have b4:=(HB.o.below Lj.o lb).cell 4;have a5:=(HA.o.below Lj.o la).cell 5;have b5:=(HB.o.below Lj.o lb).cell 5;simp only [Aj,Ao,BA] at a0 b0 a1 b1 a2 b2 a3 b3 a4 b4 a5 b5;by_cases e4:x.converts=y.converts
 case neg=>
  have HC:AI (AS prog 126 #[AA A5 n5 c5,AA B5 m5 d5,.func (.func 127) #[] #[]] w4 fun e w'=>e=AW (Ab false)/\AK w4 w'):=AF (by have:=Vc A5 B5 n5 c5 m5 d5 x.converts y.converts w4 (H5.o.mono Bo (AV BJ.o Lj.o)) (K5.o.mono Bo (AV BJ.o Lj.o));rw [show BD x.converts y.converts=false by simp [BD,e4]] at this;exact this)
  have E4:=AF e4;clear e4;go_wp2_with (go_at_call 126;refine HC.o.mono ?_;clear HC);rintro e w5 ⟨rfl,hb5⟩;have Li:=AF (AV Lj.o hb5);clear hb5;go_wp2;go_ret;exact ⟨A8 (BS (fun h=>E4.o F9)).symm,AV BJ.o Li.o⟩
 have HC:AI (AS prog 126 #[AA A5 n5 c5,AA B5 m5 d5,.func (.func 127) #[] #[]] w4 fun e w'=>e=AW (Ab true)/\AK w4 w'):=AF (by have:=Vc A5 B5 n5 c5 m5 d5 x.converts y.converts w4 (H5.o.mono Bo (AV BJ.o Lj.o)) (K5.o.mono Bo (AV BJ.o Lj.o));rw [show BD x.converts y.converts=true by simp [BD,e4]] at this;exact this)
 have E4:=AF e4;clear e4;go_wp2_with (go_at_call 126;refine HC.o.mono ?_;clear HC);rintro e w5 ⟨rfl,hb5⟩;have Li:=AF (AV Lj.o hb5);clear hb5 a0 b0 a1 b1 a2 b2 a3 b3 a4 b4 a5 b5;have a0:=(HA.o.below Li.o la).cell 0;have b0:=(HB.o.below Li.o lb).cell 0;have a1:=(HA.o.below Li.o la).cell 1;have b1:=(HB.o.below Li.o lb).cell 1;have a2:=(HA.o.below Li.o la).cell 2;have b2:=(HB.o.below Li.o lb).cell 2;have a3:=(HA.o.below Li.o la).cell 3;have b3:=(HB.o.below Li.o lb).cell 3;have a4:=(HA.o.below Li.o la).cell 4;have b4:=(HB.o.below Li.o lb).cell 4;have a5:=(HA.o.below Li.o la).cell 5;have b5:=(HB.o.below Li.o lb).cell 5;simp only [Aj,Ao,BA] at a0 b0 a1 b1 a2 b2 a3 b3 a4 b4 a5 b5;by_cases e5:x.purposes=y.purposes
 case neg=>
  have HC:AI (AS prog 128 #[AA A6 n6 c6,AA B6 m6 d6,.func (.func 129) #[] #[]] w5 fun e w'=>e=AW (Ab false)/\AK w5 w'):=AF (by have:=Vb A6 B6 n6 c6 m6 d6 x.purposes y.purposes w5 (H6.o.mono BQ (AV BJ.o Li.o)) (K6.o.mono BQ (AV BJ.o Li.o));rw [show BD x.purposes y.purposes=false by simp [BD,e5]] at this;exact this)
  have E5:=AF e5;clear e5;go_wp2_with (go_at_call 128;refine HC.o.mono ?_;clear HC);rintro e w6 ⟨rfl,hb6⟩;have AFq:=AF (AV Li.o hb6);clear hb6;go_wp2;go_ret;exact ⟨A8 (BS (fun h=>E5.o F9)).symm,AV BJ.o AFq.o⟩
 have HC:AI (AS prog 128 #[AA A6 n6 c6,AA B6 m6 d6,.func (.func 129) #[] #[]] w5 fun e w'=>e=AW (Ab true)/\AK w5 w'):=AF (by have:=Vb A6 B6 n6 c6 m6 d6 x.purposes y.purposes w5 (H6.o.mono BQ (AV BJ.o Li.o)) (K6.o.mono BQ (AV BJ.o Li.o));rw [show BD x.purposes y.purposes=true by simp [BD,e5]] at this;exact this)
 have E5:=AF e5;clear e5;go_wp2_with (go_at_call 128;refine HC.o.mono ?_;clear HC);rintro e w6 ⟨rfl,hb6⟩;have AFq:=AF (AV Li.o hb6);clear hb6;go_wp2;go_ret;exact ⟨A8 (o7 E0.o E1.o E2.o E3.o E4.o E5.o),AV BJ.o AFq.o⟩
def fieldStep (s:BG) (f:Gn):Option Gn:=
 if f.type.kind=1/\f.type.Au≠O7 then (idx (Ho s) f.type.Au).map (fun n=>{f with type:={f.type with unit:=(n:Int)}})
 else some {f with type:={f.type with unit:= -1}}
def WM (l:List ByteArray) (x:ByteArray):Option Int:=(idx l x).map (fun n:Nat=>(n:Int))
def SJ (x:BM) (d:M7):Option M7:=
 match GJ (fun _=>WM (fieldNames x)) d.names,WM (fieldNames x) d.name with
 | some l,some n=>some {d with src:=l,dst:=n}
 | _,_=>none
def F7 (s:BG) (x:BM):Option BM:=
 match idx s.Bh x.FX with
 | none=>none
 |
  some a=>match GJ (fun _=>fieldStep s) x.fields with
  | none=>none
  |
   some fs=>match GJ (fun _=>SJ x) x.deps with
   | none=>none
   | some ds=>some {x with Ar:=(a:Int),fields:=fs,deps:=ds}
theorem kQ {w:AH} {cs:List AN} {l:List Gn} {k:Nat} {u:Gn} (h:Ap 11 Eg w cs l) (hk:l[k]? =some u) (a:Int):Ap 11 Eg w (cs.set (k*11+5) (AB AE a)) (l.set k {u with type:={u.type with unit:=a}}):=
 h.put AG (BF.1 hk).1 (by obtain ⟨A1,n1,c1,he,hs⟩:=h.chunk hk;rw [show chunk cs 11 k=_ from he];exact ⟨A1,n1,c1,rfl,hs⟩)
theorem AFD {w:AH} {cs:List AN} {l:List M7} {k:Nat} {u:M7} (h:Ap 4 Hw w cs l) (hk:l[k]? =some u) {v:AN} {s:AQ} {A:Option Aa} {n c:Nat} (hv:v=AA A n c) (hs:BV 1 8 iR w v s):Ap 4 Hw w (cs.set (k*4+2) v) (l.set k {u with src:=s}):=
 h.put AG (BF.1 hk).1 (by obtain ⟨A1,n1,c1,A2,n2,c2,he,h1,h2⟩:=h.chunk hk;subst hv;rw [show chunk cs 4 k=_ from he];exact ⟨A1,n1,c1,_,_,_,rfl,h1,hs⟩)
theorem AFC {w:AH} {cs:List AN} {l:List M7} {k:Nat} {u:M7} (h:Ap 4 Hw w cs l) (hk:l[k]? =some u) (a:Int):Ap 4 Hw w (cs.set (k*4+3) (AB AE a)) (l.set k {u with dst:=a}):=
 h.put AG (BF.1 hk).1 (by obtain ⟨A1,n1,c1,A2,n2,c2,he,h1,h2⟩:=h.chunk hk;rw [show chunk cs 4 k=_ from he];exact ⟨A1,n1,c1,A2,n2,c2,rfl,h1,h2⟩)
def MB (v:AN) (w:AH):AH:=match v.ownBlock with
 | some H=>mask H (H+1) w
 | none=>w
theorem aF {v:AN} {w w':AH} (hg:w.grownBy w' v.ownBlock):BL (MB v w).heap.size (MB v w) (MB v w'):=by
 unfold MB;cases hv:v.ownBlock with
 | none=>rw [hv] at hg;exact ⟨hg.os,hg.tape,hg.output,hg.size,fun k hk=>hg.block k hk AZ⟩
 | some H=>rw [hv] at hg;exact C8 hg (Ac _) (I9 _)
theorem ACK {v:AN} {w0 w:AH} (h:AK w0 w) (hv:∀H,v.ownBlock=some H->w0.heap.size<=H):AK w0 (MB v w):=by
 unfold MB;cases hb:v.ownBlock with
 | none=>exact h
 | some H=>exact WI w0 h (hv H hb)
theorem ACJ {u v:AN} {w:AH} {base:Nat} {e:Ae} {sz n:Nat} {cs:List AN} (h:w.ownsRow base e sz v n cs) (hb:∀H,u.ownBlock=some H->H < base):(MB u w).ownsRow base e sz v n cs:=by
 unfold MB;cases hu:u.ownBlock with
 | none=>exact h
 | some H=>exact L1 h (hb H hu)
theorem ACI {α:Type} {sz:Nat} {R:AH->List AN->α->Prop} (hR:Nx R) {v:AN} {w:AH} {cs:List AN} {l:List α} (h:Ap sz R (MB v w) cs l):Ap sz R w cs l:=by
 unfold MB at h;cases hu:v.ownBlock with
 | none=>rw [hu] at h;exact h
 | some H=>rw [hu] at h;exact h.Ig hR
theorem AEP {α:Type} {sz:Nat} {R:AH->List AN->α->Prop} (hR:Nx R) {v u:AN} {w:AH} {l:List α} (h:Ag sz R (MB v w) u l):Ag sz R w u l:=by
 unfold MB at h;cases hu:v.ownBlock with
 | none=>rw [hu] at h;exact h
 | some H=>rw [hu] at h;exact h.Ig hR
theorem ABi {w:AH} {base:Nat} {e:Ae} {sz:Nat} {v:AN} {n:Nat} {cs:List AN} (h:w.ownsRow base e sz v n cs) {H:Nat} (hH:H < base):v.ownBlock≠some H:=fun e=>by have:=h.lt _ e;omega
theorem Oj {a b c:AH} {G H:Nat} (h:a.grownBy b (some G)) (h':b.grownBy c (some H)) (hH:a.heap.size<=H):a.grownBy c (some G):=
 ⟨h'.os.trans h.os,h'.tape.trans h.tape,h'.output.trans h.output,BH h.size h'.size,fun k hk hne=>(h'.block k (Av hk h.size) (fun e=>by injection e;omega)).trans (h.block k hk hne)⟩
theorem yV {w wa w':AH} {G:Nat} (h:w.grownBy wa (some G)) (h':w.grownBy w' (some G)) (hs:wa.heap.size=w.heap.size):wa.grownBy w' (some G):=
 ⟨h'.os.trans h.os.symm,h'.tape.trans h.tape.symm,h'.output.trans h.output.symm,by rw [hs];exact h'.size,fun k hk hne=>(h'.block k AG hne).trans (h.block k AG hne).symm⟩
theorem ACP {a b c:AH} {H:Nat} {row:Option Nat} (h:a.grownBy b (some H)) (h':b.grownBy c row) (hr:∀r,row=some r->a.heap.size<=r):a.grownBy c (some H):=
 ⟨h'.os.trans h.os,h'.tape.trans h.tape,h'.output.trans h.output,BH h.size h'.size,fun k hk hne=>(h'.block k (Av hk h.size) (fun e=>by have:=hr _ e.symm;omega)).trans (h.block k hk hne)⟩
theorem qO {a b:AH} {row:Option Nat} (h:a.grownBy b row) (o:Obj):a.grownBy (b.alloc o) row:=Ex h (Ey (BK _ _) _)
theorem AGf {w:AH} {base:Nat} {e:Ae} {sz:Nat} {v:AN} {n:Nat} {cs:List AN} (h:w.ownsRow base e sz v n cs) {p:Aa} (hp:v.ownBlock≠some p.block) (u:AN):(w.setCell p u).ownsRow base e sz v n cs:=Pz h hp u
theorem AIh (w:AH) (l:AQ):Ap 1 iR w (l.map Gv) l:=by
 refine ⟨by simp,fun i x hi=> ?_⟩;show _=_;rw [Ga,List.map_drop.symm,List.map_take.symm];have:(l.drop i).take 1=[x]:=by rw [drop_cons hi];rfl
 rw [this];rfl
theorem Gg {w:AH} {base:Nat} {e:Ae} {sz:Nat} {v:AN} {n:Nat} {cs:List AN} (h:w.ownsRow base e sz v n cs):∃A m c,v=AA A m c/\m=n:=by
 rcases Jl h with ⟨rfl,h0⟩ | ⟨g,cap,rfl,_⟩
 · exact ⟨_,_,_,rfl,h0.symm⟩
 · exact ⟨_,_,_,rfl,rfl⟩
section
variable {P:BE} {ops:Array Oper} {md:Region.Mode} {w:AH} {Q:Exit->Act->AH->Prop}
def TY (P:BE) (ops:Array Oper) (w:AH) (Q:Exit->Act->AH->Prop) (n:Nat) (a:Act):Prop:=
 ∃o f args chain,ops[n]? =some o/\Region.wanted o (yielded ops a.tmps)=true/\(execOp a.eval o).run P w=.ok (.enter f args) w/\AS P f args w (fun e w''=>e=CN chain/\w''=w)/\Q (.panic chain) a w
def XT (P:BE) (md:Region.Mode) (ops:Array Oper) (w:AH) (Q:Exit->Act->AH->Prop) (n:Nat):Nat->Array Bool->Act->Prop
 | 0,listed,a=>Region.ready md ops listed≠[]/\∀i∈Region.ready md ops listed,i=n/\TY P ops w Q n a
 | f+1,listed,a=>Region.ready md ops listed≠[]/\∀i∈Region.ready md ops listed,(i=n/\TY P ops w Q n a)\/(i≠n/\stOp P ops w i (XT P md ops w Q n f (listed.setIfInBounds i true)) a)
theorem jU {n:Nat} {a:Act} {K:Act->AH->Prop} (h:TY P ops w Q n a):wpOp P ops Q n K a w:=by obtain ⟨o,f,args,chain,ho,hw,hr,hc,hq⟩:=h;unfold wpOp;simp only [ho,hw,C4];refine .inl ?_;unfold Oper.wp;rw [hr];exact hc.mono fun e w'' ⟨he,hw⟩=>by subst he;subst hw;exact hq
theorem Wf {n g:Nat}:∀(f:Nat) (listed:Array Bool) (a:Act),XT P md ops w Q n f listed a->wpAny P md ops Q (f+1+g) listed a w
 |
  0,listed,a,h=>by
  rw [show 0+1+g=g+1 by omega];refine ⟨fun h0=>absurd h0 h.1,fun i hi=> ?_⟩;obtain ⟨rfl,hd⟩:=h.2 i hi;exact jU hd
 |
  f+1,listed,a,h=>by
  rw [show f+1+1+g=(f+1+g)+1 by omega];refine ⟨fun h0=>absurd h0 h.1,fun i hi=> ?_⟩;rcases h.2 i hi with ⟨rfl,hd⟩ | ⟨_,hs⟩
  · exact jU hd
  · exact wpOp_of_stOp (fun a' h'=>Wf f _ a' h') hs
theorem oD {n i:Nat} {oi:Oper} {v:AN} (hi:ops[i]? =some oi) (hin:i≠n) (hsel:∀(j:Nat) (o:Oper) cs b,ops[j]? =some o->o.op≠.select cs b)
 (hQ:∀(d:Option Tmp) (u:AN) (c:List PanicEntry) (a:Act),Q (.panic c) (a.put d u) w->Q (.panic c) a w):
 ∀(f:Nat) (listed:Array Bool) (a:Act),
  (∀j oj,ops[j]? =some oj->j≠i->listed.getD j true=false->(∀e∈oj.after,Region.binds md e=true->e.on≠i)->oi.apart ops oj=true)->
  i∈Region.ready md ops listed->YieldsAt P ops w oi v a->
  XT P md ops w Q n f (listed.setIfInBounds i true) (a.put oi.dst v)->XT P md ops w Q n (f+1) listed a:=by
 intro f
 induction f with
 |
  zero=>
  intro listed a hfree hr hy H;have hun:=(Jb.1 hr).1;refine ⟨fun h=>Qk,fun j hj=> ?_⟩;by_cases hji:j=i
  · subst hji;exact .inr ⟨hin,hy.stOp hi H⟩
  ·obtain ⟨hjun,oj,hoj,hall⟩:=Jb.1 hj
   have hnot:∀e∈oj.after,Region.binds md e=true->e.on≠i:=fun e he hb heq=>by have h1:=hall e he hb;rw [heq,getD_both hun] at h1;cases h1
   obtain ⟨h1,h2,h3⟩:=Oper.apart_spec (hfree j oj hoj hji hjun hnot);obtain ⟨rfl,o,fn,args,chain,ho,hw,RN,hc,hq⟩:=H.2 j (KU hj hji);have e:o=oj:=DE (ho.symm.trans hoj);subst e;refine .inl ⟨rfl,o,fn,args,chain,ho,?_,?_,hc,hQ _ _ _ _ hq⟩
   · rw [<-wanted_put o a oi.dst v h1];exact hw
   · rw [<-execOp_put o (fun cs b=>hsel j o cs b ho) a oi.dst v h1];exact RN
 |
  succ f ih=>
  intro listed a hfree hr hy H;have hun:=(Jb.1 hr).1;refine ⟨fun h=>Qk,fun j hj=> ?_⟩;by_cases hji:j=i
  · subst hji;exact .inr ⟨hin,hy.stOp hi H⟩
  obtain ⟨hjun,oj,hoj,hall⟩:=Jb.1 hj;have hnot:∀e∈oj.after,Region.binds md e=true->e.on≠i:=fun e he hb heq=>by have h1:=hall e he hb;rw [heq,getD_both hun] at h1;cases h1
  have hap:=hfree j oj hoj hji hjun hnot;obtain ⟨h1,h2,h3⟩:=Oper.apart_spec hap;rcases H.2 j (KU hj hji) with ⟨rfl,o,fn,args,chain,ho,hw,RN,hc,hq⟩ | ⟨hjn,hst⟩
  ·have e:o=oj:=DE (ho.symm.trans hoj)
   subst e;refine .inl ⟨rfl,o,fn,args,chain,ho,?_,?_,hc,hQ _ _ _ _ hq⟩
   · rw [<-wanted_put o a oi.dst v h1];exact hw
   · rw [<-execOp_put o (fun cs b=>hsel j o cs b ho) a oi.dst v h1];exact RN
  refine .inr ⟨hjn,?_⟩;have hs2:=stOp_put hoj hap (fun cs b=>hsel i oi cs b hi) (fun cs b=>hsel j oj cs b hoj) hy hst;have hfree':∀k ok,ops[k]? =some ok->k≠i->(listed.setIfInBounds j true).getD k true=false->
   (∀e∈ok.after,Region.binds md e=true->e.on≠i)->oi.apart ops ok=true:=fun k ok hk hki hun hno=>by
   exact nM
  refine stOp_mono (fun a' h3=>ih (listed.setIfInBounds j true) a' hfree' (KU hr (Ne.symm hji)) h3.1 ?_) hs2;rw [ZQ _ _ hji];exact h3.2
def eT (md:Region.Mode) (ops:Array Oper) (n:Nat):List Nat->Array Bool->Bool
 | [],listed=>decide (Region.ready md ops listed=[n])
 | k::ks,listed=>(Region.ready md ops listed).contains k && Region.free md ops listed k && decide (k≠n) && eT md ops n ks (listed.setIfInBounds k true)
theorem dJ {n:Nat} (hsel:Region.noSelect ops=true) (hQ:∀(d:Option Tmp) (u:AN) (c:List PanicEntry) (a:Act),Q (.panic c) (a.put d u) w->Q (.panic c) a w):
 ∀(l:List Oper) (ks:List Nat) (listed:Array Bool) (a:Act),ks.map (fun k=>ops[k]?)=l.map some->
 eT md ops n ks listed=true->wpStill P ops w (TY P ops w Q n) l a->XT P md ops w Q n l.length listed a
 |
  [],[],listed,a,_,hB,h=>by
  have hB':Region.ready md ops listed=[n]:=by simpa [eT] using hB
  have h':TY P ops w Q n a:=h;refine ⟨by rw [hB'];simp,fun i hi=> ?_⟩;rw [hB',F5] at hi;exact ⟨hi,h'⟩
 | [],_::_,_,_,hm,_,_=>by simp at hm
 | _::_,[],_,_,hm,_,_=>by simp at hm
 |
  o::l,k::ks,listed,a,hm,hB,h=>by
  simp only [Fz,Rx] at hm;simp only [eT,Bb,By] at hB;obtain ⟨⟨⟨hr,hf⟩,hkn⟩,hB'⟩:=hB;have hr':k∈Region.ready md ops listed:=by simpa using hr
  have hst:stOp P ops w k (wpStill P ops w (TY P ops w Q n) l) a:=by unfold stOp;simp only [hm.1];exact h
  obtain ⟨v,hy,hK⟩:=yieldsAt_of_stOp hm.1 hst;exact oD hm.1 hkn (ZM hsel) hQ l.length listed a (ZD hm.1 hf) hr' hy (dJ hsel hQ l ks _ _ hm.2 hB' hK)
theorem Du {id:Nat} {a:Act} {w:AH} {l:List Oper} (n:Nat) (ks:List Nat) (pick:List Oper->List Oper) (hm:P.follows .mixedOrders=true) (hk:ks.map (fun k=>l.toArray[k]?)=(pick l).map some)
 (hB:(decide (ks.length < l.length) && Region.noSelect l.toArray && eT .any l.toArray n ks (Array.replicate l.toArray.size false))=true)
 (hQ:∀(d:Option Tmp) (u:AN) (c:List PanicEntry) (a:Act),Q (.panic c) (a.put d u) w.drew->Q (.panic c) a w.drew)
 (h:wpStill P l.toArray w.drew (TY P l.toArray w.drew Q n) (pick l) a):(Code.region id l.toArray true).wp P Q a w:=by
 simp only [Bb,By] at hB;obtain ⟨⟨hn,hsel⟩,hB⟩:=hB;have hl:(pick l).length=ks.length:=by have:=congrArg List.length hk;simpa using this.symm
 have H:=dJ (md:=.any) hsel hQ (pick l) ks _ a hk hB h;refine wp_region_any hm ?_;have:=Wf (Q:=Q) (g:=l.toArray.size - ks.length - 1) _ _ _ H;rw [hl,show ks.length+1+(l.toArray.size - ks.length - 1)=l.toArray.size by simp;omega] at this;exact this
end
theorem Xb {P:BE} (w:AH) {ops:Array Oper} {o:Oper} {a:Act} {K:Act->AH->Prop} {Q:Exit->Act->AH->Prop} {E:Prop} (hgd:o.guard=none) (s x:Operand) (t:Ae)
 (ho:o.op=.call {callee:=.builtin .append,args:=#[s,x],argTypes:=#[t,t]})
 (base:Nat) (e:Ae) (i:TypeInfo) (z:AN) (size bytes:Nat) (ht:P.underlying t=some (.slice e)) (hi:P.info? e=some i) (hz:i.zero=some z)
 (hsize:i.size=size) (hby:i.bytes=bytes) (hzs:z.cells.size=size) (hsz:0 < size)
 (v:AN) (n:Nat) (xs:List AN) (hs:a.eval s=v) (hown:w.ownsRow base e size v n xs)
 (ad:Aa) (m c:Nat) (news:List AN) (hx:a.eval x=AA (some ad) m c) (hl:news.length=m*size) (hnews:∀j u,news[j]? =some u->w.cell? (ad.add j)=some u) (h1:∀u∈news,u.oneCell'=true)
 (h63:n+m<=maxLen) (hbytes:(n+m)*bytes<=140737488355328) (hbase:base<=w.heap.size)
 (h:∀v' w',w'.ownsRow base e size v' (n+m) (xs++news)->w.grownBy w' v.ownBlock->(v'.ownBlock=v.ownBlock\/v'.ownBlock=some w.heap.size)->K (a.put o.dst v') w'):
 if Region.wanted o (yielded ops a.tmps)=true then Oper.wp P o a w K Q else E:=by
 have hw:Region.wanted o (yielded ops a.tmps)=true:=by simp [Region.wanted,hgd]
 rw [Ak hw];obtain ⟨v',w',hr,h2,h3,_,h5⟩:=run_append_own_at (P:=P) w base t o.type e i z size bytes ht hi hz hsize hby hzs hsz v n xs hown ad m c news hl hnews h1 h63 hbytes hbase;unfold Oper.wp execOp;simp only [ho,resolve,invoke,builtin,Cp,DL,Result.andThen_ok,Uj,Fz,NF,hs,hx,hr];exact h v' w' h2 h3 h5
theorem dT {P:BE} {w:AH} {ops:Array Oper} {o:Oper} {a:Act} {K:Act->AH->Prop} {Q:Exit->Act->AH->Prop} {E:Prop} (hgd:o.guard=none) (f:FuncId) (args:Array AN) {v:AN}
 (hex:(execOp a.eval o).run P w=.ok (.enter f args) w) (hc:AS P f args w (fun e w'=>e=AW v/\w'=w)) (hK:K (a.put o.dst v) w):
 if Region.wanted o (yielded ops a.tmps)=true then Oper.wp P o a w K Q else E:=by
 have hw:Region.wanted o (yielded ops a.tmps)=true:=by simp [Region.wanted,hgd]
 rw [Ak hw];unfold Oper.wp;rw [hex];exact hc.mono fun e w' ⟨he,hw⟩=>by subst he;subst hw;exact hK
theorem RG {P:BE} {w:AH} {ops:Array Oper} {o:Oper} {a:Act} {K:Act->AH->Prop} {Q:Exit->Act->AH->Prop} {E:Prop} (hgd:o.guard=none) (f:FuncId) (args:Array AN) {R:Ending->AH->Prop}
 (hex:(execOp a.eval o).run P w=.ok (.enter f args) w) (hc:AS P f args w R) (hK:∀e w',R e w'->∃v,e=AW v/\K (a.put o.dst v) w'):
 if Region.wanted o (yielded ops a.tmps)=true then Oper.wp P o a w K Q else E:=by
 have hw:Region.wanted o (yielded ops a.tmps)=true:=by simp [Region.wanted,hgd]
 rw [Ak hw];unfold Oper.wp;rw [hex];exact hc.mono fun e w' h=>by obtain ⟨v,rfl,hk⟩:=hK e w' h;exact hk
def AK6 {α β γ:Type} (F:α->β->γ->Act) (G:α->β->γ->AH->Prop):Exit->Act->AH->Prop
 | .normal,a',w'=>∃x y z,a'=F x y z/\G x y z w'
 | _,_,_=>False
theorem g9 {P:BE} {c:Code} {Q:Exit->Act->AH->Prop} {a:Act} {w:AH} {α β γ:Type} (F:α->β->γ->Act) (G:α->β->γ->AH->Prop) (h1:c.wp P (AK6 F G) a w) (h2:∀x y z w',G x y z w'->Q .normal (F x y z) w'):c.wp P Q a w:=
 Code.wp_mono (fun e a' w' h=>by
  cases e with
  | normal=>obtain ⟨x,y,z,rfl,hg⟩:=h;exact h2 x y z w' hg
  | _=>exact h.elim) h1
theorem AGw:(prog.info? 3).map (fun i=>(i.zero,i.size,i.bytes))=some (some (AB AE 0),1,8):=by kernel_rfl
theorem bH (R lo M base G n cap i mb:Nat) (cs:List AN) (s:BG) (p:BM) (w:AH) (hres:KJ (mask lo M w) R s) (hlo:lo<=G) (G8:G < M) (vZ:M<=w.heap.size)
 (hmb:MapAt IY Gv (mask lo M w) mb (fieldMap p))
 (ho:w.ownsRow base 85 6 (AA (some ⟨G,0,none⟩) n cap) n cs) (hi:i < n) (hp:BW (mask lo M w) (chunk cs 6 i) p):
 AS prog 160 #[AU (some ⟨R,0,none⟩),AU (some ⟨G,i*6,none⟩),.map (some mb)] w (ES 85 6 BW base G n cap i cs lo M (F7 s p) w):=by
 obtain ⟨A1,n1,c1,A2,n2,c2,hch,hfl,hdp⟩:=hp;have p1:=BI ho hi AG hch (j:=1) rfl;have p2:=BI ho hi AG hch (j:=2) rfl;have p4:=BI ho hi AG hch (j:=4) rfl;have f2:=ho.frozenAt (i*6+2);have VZ:G < w.heap.size:=AG
 obtain ⟨b1,b2,b3,fA,fn,fc,hbR,hm1,hm2,ER,hfs⟩:=hres.Ig;have r0:=hbR.cell 0;have lR:=hbR.lt;simp only [Aj,Ao] at r0;have hget:=Ie s.Bh p.FX;obtain ⟨Hb,HO,RD,Mi,HDP,rj,HBD,HMB,LI⟩:=P4 hres ho hch hfl hdp hfl.2 hdp.2 hmb (hm1.same (w':=w.drew) rfl);clear hres ho hch hfl hdp hmb hbR hm1 hm2 ER hfs;go_enter func160,ntmps160;go_wp2_with fail;cases hix:idx s.Bh p.FX with
 |
  none=>
  rw [hix] at hget;have Co:AI (ES 85 6 BW base G n cap i cs lo M (F7 s p) w (CN Bu) w.drew):=
   Dv (by unfold F7;rw [hix]) (grown_drew (Cu _ _))
  have Wb:=AF hget;clear hix hget
  go_region_dies
  all_goals
   refine (Hm b1 _ _ _ LI.o Wb.o).mono ?_;rintro e w' ⟨rfl,rfl⟩;exact ⟨rfl,Co.o⟩
 |
  some a=>
  rw [hix] at hget;obtain ⟨Ij,HF⟩:=Al hix ((Ft b1 _ _ (a:Int) w.drew LI.o hget).mono (R':=fun e w'=>e=AW (AB AE a)/\w'=w.drew) Fl);clear hix hget;refine wp_region_still_tail 12 AJ AJ ?_;simp only [Ff,Fe,Je,IK]
  repeat still_step
  still_call HF.o
  repeat still_step
  refine Fc ?_;change wpList _ _ _ _ _ w.drew;go_wp2_with fail;have ho2:=(HO.o.stored (i*6+2) (AB AE a)).1.drew;have hga:w.grownBy (w.setCell ⟨G,i*6+2,none⟩ (AB AE a)).drew (some G):=grown_drew (DB (Cu _ _) _ _);have PH:(w.setCell ⟨G,i*6+2,none⟩ (AB AE a)).drew.heap.size=w.heap.size:=by simp [World.setCell]
  have QJ:chunk (cs.set (i*6+2) (AB AE a)) 6 i=[AL p.name,AL p.FX,AB AE a,AB AE p.version,AA A1 n1 c1,AA A2 n2 c2]:=by rw [E8 _ AG,RD.o];rfl
  have hoth:∀j,j≠i->chunk (cs.set (i*6+2) (AB AE a)) 6 j=chunk cs 6 j:=fun j hj=>by rw [Fa _ AG hj]
  generalize (w.setCell ⟨G,i*6+2,none⟩ (AB AE a)).drew=wa at ho2 hga PH ⊢;generalize cs.set (i*6+2) (AB AE a)=ca at ho2 QJ hoth;have hfw:BV 11 120 (fun _=>Eg (mask lo M wa)) wa (AA A1 n1 c1) p.fields:=⟨(Mi.o.mono DC (C8 hga hlo G8)).1.uz,Mi.o.2⟩;have Qy:G < wa.heap.size:=by rw [PH];exact VZ
  obtain ⟨T9,Hu,Ud,cP,Cd⟩:=Db ho2 hga QJ hoth PH;clear ho2 hga QJ hoth PH p1 p2 p4 f2 r0 lR HF LI HO RD;refine (ql (fun _=>sP _) A1 n1 c1 p.fields _ hfw).mono ?_;rintro e w1 ⟨v,cs1,rfl,hcs1,ho1,hb1⟩;obtain ⟨vA,vn,vc,rfl,hvn⟩:=Gg ho1;have p4:=BI T9.o hi AG Ud.o (j:=4) rfl;have q1:w1.cell? ⟨G,i*6+4,none⟩=some (AA A1 n1 c1):=((J4 hb1).1 _ _ Qy).trans p4;have hf1:w1.frozen? ⟨G,i*6+4,none⟩=false:=((J4 hb1).2 _ _ Qy).trans (T9.o.frozenAt _);have hG1:G < w1.heap.size:=Av Qy hb1.size;have IG:=AF ho1;have J7:AI (Ap 11 Eg (mask lo M wa) cs1 p.fields):=AF ⟨hcs1.1,hcs1.2⟩;obtain ⟨HB1,Ll⟩:=Al hb1 hvn;clear ho1 hcs1 hb1 p4 hfw hvn;go_wp2_with fail;have ho2:(w1.setCell ⟨G,i*6+4,none⟩ (AA vA vn vc)).ownsRow base 85 6 (AA (some ⟨G,0,none⟩) n cap) n (ca.set (i*6+4) (AA vA vn vc)):=((Cs T9.o HB1.o).stored (i*6+4) (AA vA vn vc)).1;have hi2:(w1.setCell ⟨G,i*6+4,none⟩ (AA vA vn vc)).ownsRow wa.heap.size 112 11 (AA vA vn vc) p.fields.length cs1:=Hj IG.o ZW _;have hg2:w.grownBy (w1.setCell ⟨G,i*6+4,none⟩ (AA vA vn vc)) (some G):=DB (Ex Hu.o (Ey HB1.o _)) _ _;have hcb:chunk (ca.set (i*6+4) (AA vA vn vc)) 6 i=[AL p.name,AL p.FX,AB AE a,AB AE p.version,AA vA vn vc,AA A2 n2 c2]:=by rw [E8 _ AG,Ud.o];rfl
  have bR:∀j,j≠i->chunk (ca.set (i*6+4) (AA vA vn vc)) 6 j=chunk cs 6 j:=fun j hj=>by rw [Fa _ AG hj];exact cP.o j hj
  generalize w1.setCell ⟨G,i*6+4,none⟩ (AA vA vn vc)=w2 at ho2 hi2 hg2 ⊢;generalize ca.set (i*6+4) (AA vA vn vc)=cb at ho2 hcb bR;obtain ⟨Jz,HI2,HG2,Mj,rI⟩:=Db ho2 hi2 hg2 hcb bR;clear ho2 hi2 hg2 hcb bR q1 hf1 hG1 IG HB1 cP Ud T9;go_loopg [37] vn (fun q j wr=>∃(k:Nat) (out:List Gn) (cr:List AN),k<=vn/\q=vn - k/\j=AB AE k/\EX (fun _=>fieldStep s) p.fields k=some out/\w.grownBy wr (some G)/\wr.ownsRow base 85 6 (AA (some ⟨G,0,none⟩) n cap) n cb/\
   wr.ownsRow wa.heap.size 112 11 (AA vA vn vc) p.fields.length cr/\Ap 11 Eg (mask lo M wa) cr (out++p.fields.drop k))
  case atStart=>exact nw
  clear Jz HI2 HG2 J7;obtain ⟨k,out,cr,hk,hq,rfl,hto,hgr,hog,Gw,hcr⟩:=hrel;obtain ⟨HQ,Dl⟩:=Al hq hto;clear hq hto;by_cases hlt:k < vn
  ·rcases Jl Gw with ⟨h,h0⟩ | ⟨H,hcap,h,hH,hHw,hn2⟩
   · exact SZ
   injection h with h1 h2 h3;subst h1 h3;clear h2;have xu:vn<=9223372036854775807:=by have:=Ll.o;omega
   have yR:w.heap.size<=H:=by have:=Cd.o;omega
   obtain ⟨m,hm⟩:∃m,p.fields[k]? =some m:=⟨p.fields[k]' Jm,BN _⟩;have hlen:=Cw Jm Dl.o;have hat:(out++p.fields.drop k)[k]? =some m:=by rw [Cj AG,EO,hlen];simpa using hm
   obtain ⟨B1,m1,d1,hch,hnm⟩:=hcr.chunk hat;have EL:wr.ownsRow wa.heap.size 112 11 (AA (some ⟨H,0,none⟩) vn vc) vn cr:=by have:=Ll.o;rw [this] at Gw ⊢;exact Gw
   have e1:=BI EL hlt AG hch (j:=1) rfl;have e4:=BI EL hlt AG hch (j:=4) rfl;have e5:=BI EL hlt AG hch (j:=5) rfl;have f5:=EL.frozenAt (k*11+5);have g4:=BI hog hi AG Mj.o (j:=4) rfl;obtain ⟨Gp,Lp,Ln,UG,HM,HLEN,HAT⟩:=LU hgr hog EL hcr hm hlen hat;clear hgr hog Gw EL hcr hm hlen hat hch hnm;have hkn:(k:Int) < (vn:Int):=AG
   have hk0:=Int.natCast_nonneg k
   have hput:Ap 11 Eg (mask lo M wa) (cr.set (k*11+5) (AB AE (-1))) ((out++p.fields.drop k).set k {m with type:={m.type with unit:= -1}}):=kQ UG.o HAT.o (-1);have hoq:=(Ln.o.stored (k*11+5) (AB AE (-1))).1;have hgq:w.grownBy (wr.setCell ⟨H,k*11+5,none⟩ (AB AE (-1))) (some G):=Mx Gp.o U0 _;have OH:=own_ne Lp.o (p:=⟨H,k*11+5,none⟩) Bd (AB AE (-1));obtain ⟨Yn,LH,PY,Ua⟩:=CD hput hoq hgq OH;clear hput hoq hgq OH;by_cases hkd:m.type.kind=1/\m.type.Au≠O7
   ·obtain ⟨hk1,hof⟩:=hkd
    have t1:m.type.Au.toList.isEmpty=false:=bK hof;have t2:¬m.type.Au.toList=[]:=by intro e;rw [e] at t1;cases t1
    have wA:=AF (show m.type.kind=1/\m.type.Au≠O7 from ⟨hk1,hof⟩);clear hof;go_upto_region 8 with fail;have HB:=AF (Hb.o.below (C8 PY.o hlo G8)).Ig;generalize wr.setCell ⟨H,k*11+5,none⟩ (AB AE (-1))=wq at LH PY Ua HB ⊢;have hkl:k < (out++p.fields.drop k).length:=(BF.1 HAT.o).1;have MD:((out++p.fields.drop k).set k {m with type:={m.type with unit:= -1}})[k]? =some {m with type:={m.type with unit:= -1}}:=Hg hkl;obtain ⟨B2,m2,d2,hck,hnm⟩:=Yn.o.chunk MD;have d4:=BI LH.o hlt AG hck (j:=4) rfl;have d5:=BI LH.o hlt AG hck (j:=5) rfl;have fd5:=LH.o.frozenAt (k*11+5);obtain ⟨b1',b2',b3',Tv,fn',Q0,Ia,_,ig,_,_⟩:=HB.o;have s1:=Ia.cell 1;have lR':=Ia.lt;simp only [Aj,Ao,BA] at s1;have hget:=Ie (Ho s) m.type.Au;obtain ⟨M9,TX⟩:=Al (ig.same (w':=wq.drew) rfl) MD;clear Ia ig hkl MD hck hnm HB e1 e4 e5 f5 g4;cases hix:idx (Ho s) m.type.Au with
    |
     none=>
     rw [hix] at hget;have Co:AI (ES 85 6 BW base G n cap i cs lo M (F7 s p) w (CN Bu) wq.drew):=by refine Dv ?_ (grown_drew PY.o);unfold F7;rw [Ij.o];simp only;rw [FB (k:=k+1) Jm (FY Dl.o HM.o uM)]
     have Wb:=AF hget;clear hix hget
     go_region_dies
     all_goals
      refine (Hm b2' _ _ _ M9.o Wb.o).mono ?_;rintro e w' ⟨rfl,rfl⟩;exact ⟨rfl,Co.o⟩
    |
     some f=>
     rw [hix] at hget;have HST:AI (fieldStep s m=some {m with type:={m.type with unit:=(f:Int)}}):=AF uM;have HF:=AF ((Ft b2' _ _ (f:Int) wq.drew M9.o hget).mono (R':=fun e w'=>e=AW (AB AE f)/\w'=wq.drew) Fl);clear hix hget;refine wp_region_still_tail 12 AJ AJ ?_;simp only [Ff,Fe,Je,IK]
     repeat still_step
     still_call HF.o
     repeat still_step
     refine Fc ?_;change wpList _ _ _ _ _ wq.drew;go_wp2;go_roundg (vn - (k+1))
     case measure=>exact Bi
     have ho3:=(LH.o.drew.stored (k*11+5) (AB AE f)).1;have hc3:=kQ Yn.o TX.o (f:Int);rw [IL,IL] at hc3;refine ⟨k+1,_,_,by omega,rfl,by go_num,Fx Dl.o HM.o HST.o,Mx (grown_drew PY.o) U0 _,own_ne Ua.o.drew Bd _,?_,by rw [<-set_drop HLEN.o HM.o];exact hc3⟩;rw [IL] at ho3;have:=Ll.o;rw [this] at ho3 ⊢;exact ho3
   have HST:AI (fieldStep s m=some {m with type:={m.type with unit:= -1}}):=AF (by unfold fieldStep;rw [Ah hkd]);by_cases hk1:m.type.kind=1
   ·have hof:m.type.Au=O7:=Decidable.byContradiction fun h=>hkd ⟨hk1,h⟩
    have t1:m.type.Au.toList.isEmpty=true:=by rw [hof,L0];rfl
    have t2:m.type.Au.toList=[]:=by rw [hof,L0]
    clear hof hkd;exact AAk
   have t0:decide (m.type.kind=1)=false:=by simpa using hk1
   clear hkd;exact AAk
  have hke:k=p.fields.length:=by have:=Ll.o;omega
  have hcf:Ap 11 Eg (mask lo M wa) cr out:=by rw [hke,Kc,FM] at hcr;exact hcr
  have Ph:AI (GJ (fun _=>fieldStep s) p.fields=some out):=AF t9;obtain ⟨wz,rfl⟩:=Ad wr;have hdw:BV 4 72 (fun _=>Hw (mask lo M wz)) wz (AA A2 n2 c2) p.deps:=⟨(HDP.o.mono GN (C8 hgr hlo G8)).1.uz,HDP.o.2⟩;have g5:=BI hog hi AG Mj.o (j:=5) rfl;have kK:G < wz.heap.size:=Av VZ hgr.size;obtain ⟨Gp,Lp,Ln,rf,HOL⟩:=Db hgr hog Gw hcf (Cw AG Dl.o);clear hgr hog Gw hcr hcf Dl HQ;go_wp2_with fail;refine (yv (fun _=>ABg _) A2 n2 c2 p.deps _ hdw).mono ?_;rintro e w3 ⟨v,aN,rfl,hcs3,ho3,hb3⟩;obtain ⟨xA,xn,xc,rfl,hxn⟩:=Gg ho3;have q5:w3.cell? ⟨G,i*6+5,none⟩=some (AA A2 n2 c2):=((J4 hb3).1 _ _ kK).trans g5;have hf5:w3.frozen? ⟨G,i*6+5,none⟩=false:=((J4 hb3).2 _ _ kK).trans (Lp.o.frozenAt _);have hG3:G < w3.heap.size:=Av kK hb3.size;have Ja:=AF ho3;have TV:AI (Ap 4 Hw (mask lo M wz) aN p.deps):=AF ⟨hcs3.1,hcs3.2⟩;obtain ⟨HB3,TI⟩:=Al hb3 hxn;clear ho3 hcs3 hb3 g5 hdw hxn;go_wp2_with fail;have PI:(w3.setCell ⟨G,i*6+5,none⟩ (AA xA xn xc)).ownsRow base 85 6 (AA (some ⟨G,0,none⟩) n cap) n (cb.set (i*6+5) (AA xA xn xc)):=((Cs Lp.o HB3.o).stored (i*6+5) (AA xA xn xc)).1;have AEX:(w3.setCell ⟨G,i*6+5,none⟩ (AA xA xn xc)).ownsRow wa.heap.size 112 11 (AA vA vn vc) p.fields.length cr:=Hj (Cs Ln.o HB3.o) ZW _;have yI:(w3.setCell ⟨G,i*6+5,none⟩ (AA xA xn xc)).ownsRow wz.heap.size 290 4 (AA xA xn xc) p.deps.length aN:=Hj Ja.o (by simpa using kK) _;have py:wz.grownBy (w3.setCell ⟨G,i*6+5,none⟩ (AA xA xn xc)) (some G):=DB (Ey HB3.o _) _ _;have hg4:w.grownBy (w3.setCell ⟨G,i*6+5,none⟩ (AA xA xn xc)) (some G):=Ex Gp.o py;have hcc:chunk (cb.set (i*6+5) (AA xA xn xc)) 6 i=[AL p.name,AL p.FX,AB AE a,AB AE p.version,AA vA vn vc,AA xA xn xc]:=by rw [E8 _ AG,Mj.o];rfl
  have bQ:∀j,j≠i->chunk (cb.set (i*6+5) (AA xA xn xc)) 6 j=chunk cs 6 j:=fun j hj=>by rw [Fa _ AG hj];exact rI.o j hj
  have hfb:∀r,(Value.slice vA vn vc).ownBlock=some r->r < wz.heap.size:=fun r e=>(Ln.o.lt r e).2;generalize w3.setCell ⟨G,i*6+5,none⟩ (AA xA xn xc)=w4 at PI AEX yI py hg4 ⊢;generalize cb.set (i*6+5) (AA xA xn xc)=cc at PI hcc bQ;have hc4:Ap 4 Hw (MB (AA xA xn xc) (mask lo M w4)) aN p.deps:=
   TV.o.mono GN (ACK (C8 py hlo G8) (fun H e=>by rw [Eb];exact (yI.lt H e).1))
  obtain ⟨Yo,AJS,AJW,HG4,Dz,zR,rZ,Pa⟩:=gy PI AEX yI hg4 hcc bQ hfb hc4;have hwz:w.heap.size<=wz.heap.size:=Gp.o.size;have HZ4:=AF py.size;clear PI AEX yI py hg4 hcc bQ hfb hc4 q5 hf5 hG3 Ja TV HB3 Lp Ln Mj rI HDP Mi Gp;go_loopg [88] xn (fun q j wr=>∃(k:Nat) (ou:List M7) (cd:List AN),k<=xn/\q=xn - k/\j=AB AE k/\EX (fun _=>SJ p) p.deps k=some ou/\w.grownBy wr (some G)/\wz.heap.size<=wr.heap.size/\wr.ownsRow base 85 6 (AA (some ⟨G,0,none⟩) n cap) n cc/\
   wr.ownsRow wa.heap.size 112 11 (AA vA vn vc) p.fields.length cr/\wr.ownsRow wz.heap.size 290 4 (AA xA xn xc) p.deps.length cd/\Ap 4 Hw (MB (AA xA xn xc) (mask lo M wr)) cd (ou++p.deps.drop k))
  case atStart=>exact ⟨0,[],aN,Ay _,rfl,rfl,rfl,HG4.o,HZ4.o,Yo.o,AJS.o,AJW.o,Pa.o⟩
  clear Yo AJS AJW HG4 Pa;obtain ⟨k',ou,cd,hk',hq',rfl,pg,hgr,hzr,hog,hof,hod,hcd⟩:=hrel;obtain ⟨HQ,Dl⟩:=Al hq' pg;clear hq' pg;by_cases hlt':k' < xn
  ·rcases Jl hod with ⟨h,h0⟩ | ⟨H,hcap,h,hH,hHw,hn2⟩
   · exact SZ
   injection h with h1 h2 h3;subst h1 h3;clear h2;have AKN:xn<=9223372036854775807:=by have:=TI.o;omega
   have yR:w.heap.size<=H:=AG
   obtain ⟨d,hd⟩:∃m,p.deps[k']? =some m:=⟨p.deps[k']' SP,BN _⟩;have hlen:=Cw SP Dl.o;have hat:(ou++p.deps.drop k')[k']? =some d:=by rw [Cj AG,EO,hlen];simpa using hd
   obtain ⟨B1,m1,d1,B2,m2,d2,hch,hnm,hsrc⟩:=hcd.chunk hat;have ib:wr.ownsRow wz.heap.size 290 4 (AA (some ⟨H,0,none⟩) xn xc) xn cd:=by have:=TI.o;rw [this] at hod ⊢;exact hod
   have e0:=BI ib hlt' AG hch (j:=0) rfl;simp only [Ee] at e0;have e2:=BI ib hlt' AG hch (j:=2) rfl;have f2:=ib.frozenAt (k'*4+2);have g5:=BI hog hi AG Dz.o (j:=5) rfl;have hnl:=hnm.1.len;have AH4:=(ib.stored (k'*4+2) (AA none 0 0)).1;have AII:wr.grownBy (wr.setCell ⟨H,k'*4+2,none⟩ (AA none 0 0)) (some H):=DB (Cu _ _) _ _;obtain ⟨wy,rfl⟩:=Ad wr;obtain ⟨Gp,Lp,PW,HOD,rh,HD,HLEN,HAT,RD,fO,TR,AI7⟩:=QX hgr hog hof ib hcd hd hlen hat hch hnm hnl AH4;have AJQ:=AF AII;clear hgr hog hof hod ib hcd hd hlen hat hch hnm hsrc hnl AH4 AII;have hkn:(k':Int) < (xn:Int):=AG
   have hk0:(0:Int)<=(k':Int):=AG
   go_wp2_with fail;go_loopg [105] m1 (fun q j wr=>∃(k2:Nat) (o3:AQ) (fA:Option Aa) (fn fc:Nat),k2<=m1/\q=m1 - k2/\j=AB AE k2/\EX (fun _=>WM (fieldNames p)) d.names k2=some o3/\wy.grownBy wr (some H)/\
    wr.ownsRow wz.heap.size 290 4 (AA (some ⟨H,0,none⟩) xn xc) xn (cd.set (k'*4+2) (AA fA fn fc))/\wr.ownsRow wy.heap.size 3 1 (AA fA fn fc) k2 (o3.map Gv))
   case atStart=>exact ⟨0,[],none,0,0,Ay _,rfl,rfl,rfl,AJQ.o,AI7.o,Ef _ _ _ _⟩
   clear AI7 AJQ e0 e2 f2 g5;obtain ⟨k2,o3,Tv,fn',Q0,hk2,hq2,rfl,X7,hgi,bT,AH3⟩:=hrel;obtain ⟨Ks,UY⟩:=Al hq2 X7;clear hq2 X7;have hwi:w.grownBy wr (some G):=Oj Gp.o hgi yR;have hHy:H < wy.heap.size:=hHw;have hHi:H < wr.heap.size:=Av hHy hgi.size;have yJ:chunk (cd.set (k'*4+2) (AA Tv fn' Q0)) 4 k'=[AA B1 m1 d1,AL d.name,AA Tv fn' Q0,AB AE d.dst]:=by rw [E8 _ AG,RD.o];rfl
   have i1:=BI bT hlt' AG yJ (j:=1) rfl;have i2:=BI bT hlt' AG yJ (j:=2) rfl;have i3:=BI bT hlt' AG yJ (j:=3) rfl;have fi2:=bT.frozenAt (k'*4+2);have fi3:=bT.frozenAt (k'*4+3);have j6:=Ss (HMB.o.below (C8 hwi hlo G8));obtain ⟨vw,HMJ,vp,rX,AI6,zS⟩:=Fg (j6.same (w':=wr.drew) rfl) j6 hwi hgi bT AH3;clear j6 hwi hgi bT AH3 yJ;by_cases hlt2:k2 < m1
   ·obtain ⟨nb,AKI,nm,rfl,hnb,hnk,hnc⟩:=Xa ((AEP (v:=AA (some ⟨H,0,none⟩) xn xc) Si (fO.o.1.mono BX (aF (eA rX.o)))).Ig Si) hlt2
    have hget:=Ie (fieldNames p) nm;have hkn2:(k2:Int) < (m1:Int):=AG
    have AMQ:(0:Int)<=(k2:Int):=AG
    have AMJ:m1*16<=140737488355328:=by rw [TR.o];exact fO.o.2
    have ld:=AF hnk;clear hnk;go_wp2_with fail;cases hix:idx (fieldNames p) nm with
    |
     none=>
     rw [hix] at hget;have Co:AI (ES 85 6 BW base G n cap i cs lo M (F7 s p) w (CN Bu) wr.drew):=by
      refine Dv ?_ (grown_drew vp.o);unfold F7;rw [Ij.o];simp only;rw [Ph.o];simp only;rw [FB (k:=k'+1) SP (FY Dl.o HD.o (by unfold SJ;rw [FB (k:=k2+1) (by have:=TR.o;omega) (FY UY.o ld.o (by unfold WM;rw [hix];rfl))]))]
     have Wb:=AF hget;clear hix hget
     go_region_dies
     all_goals
      refine (Hm mb _ _ _ vw.o Wb.o).mono ?_;rintro e w' ⟨rfl,rfl⟩;exact ⟨rfl,Co.o⟩
    |
     some f=>
     rw [hix] at hget;have HIF:AI (WM (fieldNames p) nm=some (f:Int)):=AF (by unfold WM;rw [hix];rfl);have HF:=AF ((Ft mb _ _ (f:Int) wr.drew vw.o hget).mono (R':=fun e w'=>e=AW (AB AE f)/\w'=wr.drew) Fl);clear hix hget;obtain ⟨i0,hi0,hz0,hz1,hz2⟩:=I8 AGw;have hyr:wy.heap.size<=wr.heap.size:=rX.o.size
     go_region_law (first
      | (
       refine Xb _ DR (.tmp 113) (.tmp 117) 30 DR wy.heap.size 3 i0 (AB AE 0) 1 8 underlying30 hi0 hz0 hz1 hz2 rfl Ai (AA Tv fn' Q0) k2 (o3.map Gv) DR (zS.o.drew.alloc _) ⟨wr.heap.size,0,none⟩ 1 1 [AB AE f] DR rfl (cell_one_new _ _ _) Qi Gx AG Bd ?_;intro v' w5 hown' hgrow hat';obtain ⟨zA,zn,zc,rfl,hzn⟩:=Gg hown';have x9:=(AI6.o.drew.alloc (AO #[AB AE f] 3)).kept hgrow (.inr (fun e=>ABi zS.o hHy e.symm));have AIH:wy.grownBy w5 (some H):=ACP (qO (grown_drew rX.o) _) hgrow (fun r e=>(zS.o.lt r e).1);have AIQ:chunk (cd.set (k'*4+2) (AA Tv fn' Q0)) 4 k'=[AA (some ⟨nb,AKI,none⟩) m1 d1,AL d.name,AA Tv fn' Q0,AB AE d.dst]:=by rw [E8 _ AG,RD.o];rfl
       have j2:=BI x9 hlt' AG AIQ (j:=2) rfl;have fj2:=x9.frozenAt (k'*4+2);obtain ⟨ALY,ALn,ALS⟩:=BB x9 AIH hown';clear x9 AIH hown' hgrow hat' AIQ hzn)
      | (refine dT DR 209 #[.map (some mb),AL nm] (by go_simp) HF.o ?_))
     all_goals
      go_wp2;go_roundg (m1 - (k2+1))
      case measure=>exact MJ
      have RP:=(ALY.o.stored (k'*4+2) (AA zA zn zc)).1;rw [IL] at RP;refine ⟨k2+1,o3++[(f:Int)],zA,zn,zc,by omega,rfl,by go_num,Fx UY.o ld.o HIF.o,DB ALn.o _ _,RP,?_⟩;have:=Hj ALS.o (p:=⟨H,k'*4+2,none⟩) (by simpa using hHy) (AA zA zn zc);rw [DY];exact this
   have hke2:k2=d.names.length:=by have:=TR.o;omega
   have jI:AI (GJ (fun _=>WM (fieldNames p)) d.names=some o3):=AF uF;have hget:=Ie (fieldNames p) d.name;go_wp2_with fail;cases hix:idx (fieldNames p) d.name with
   |
    none=>
    rw [hix] at hget;have Co:AI (ES 85 6 BW base G n cap i cs lo M (F7 s p) w (CN Bu) wr):=by
     refine Dv ?_ vp.o;unfold F7;rw [Ij.o];simp only;rw [Ph.o];simp only;rw [FB (k:=k'+1) SP (FY Dl.o HD.o (by unfold SJ WM;rw [hix];cases GJ (fun _ x=>Option.map (fun n:Nat=>(n:Int)) (idx (fieldNames p) x)) d.names <;> rfl))]
    refine (Hm mb _ _ wr HMJ.o hget).mono ?_;rintro e w' ⟨rfl,rfl⟩;clear hix hget
    go_wp2
    exact ⟨rfl,Co.o⟩
   |
    some f=>
    rw [hix] at hget;have HDS:AI (SJ p d=some {d with src:=o3,dst:=(f:Int)}):=AF (by unfold SJ;rw [jI.o];unfold WM;rw [hix];rfl)
    refine (Ft mb _ _ (f:Int) wr HMJ.o hget).mono ?_;rintro e w' ⟨rfl,rfl⟩;clear hix hget;go_wp2;go_roundg (xn - (k'+1))
    case measure=>exact Bi
    have hHy:H < wy.heap.size:=hHw;have RP:=(AI6.o.stored (k'*4+3) (AB AE f)).1;have hgn:wy.grownBy (wr.setCell ⟨H,k'*4+3,none⟩ (AB AE f)) (some H):=DB rX.o _ _;have hfb:=rZ.o;refine ⟨k'+1,ou++[{d with src:=o3,dst:=(f:Int)}],(cd.set (k'*4+2) (AA Tv fn' Q0)).set (k'*4+3) (AB AE f),by omega,rfl,by go_num,Fx Dl.o HD.o HDS.o,Mx vp.o U0 _,by have:=rX.o.size;simp [World.setCell];omega,own_ne (Lp.o.kept rX.o (.inr Ow)) Bd _,AGf (PW.o.kept rX.o (.inr (fun e=>by have:=hfb _ e;omega))) (fun e=>by have:=hfb _ e;simp at this;omega) _,?_,?_⟩
    · have:=TI.o;rw [this] at RP ⊢;exact RP
    have hsl:BV 1 8 iR (MB (AA (some ⟨H,0,none⟩) xn xc) (mask lo M (wr.setCell ⟨H,k'*4+3,none⟩ (AB AE f)))) (AA Tv fn' Q0) o3:=by have hl3:=Cw AG UY.o;refine ⟨B9 (ACJ (L1 (Hj zS.o (p:=⟨H,k'*4+3,none⟩) (by simpa using hHy) (AB AE f)) AG) (fun H' e=>by simp [Value.ownBlock] at e;omega)) (AIh _ _) (by rw [hl3]),?_⟩;have:=fO.o.2;rw [hl3,hke2];omega
    have hc6:=AFC (AFD (rh.o.mono GN (aF (eA hgn))) HAT.o rfl hsl) (Hg (BF.1 HAT.o).1) (f:Int);rw [IL] at hc6;rw [<-set_drop HLEN.o HD.o];exact hc6
  have bV:k'=p.deps.length:=by have:=TI.o;omega
  go_wp2_with fail
  go_end0
  have hP:F7 s p=some {p with Ar:=(a:Int),fields:=out,deps:=ou}:=by unfold F7;rw [Ij.o];simp only;rw [Ph.o];simp only;unfold GJ;rw [<-bV,Dl.o]
  have hwa:wa.grownBy wr (some G):=yV Hu.o hgr Cd.o;refine Qb hP hgr hog zR.o ⟨vA,vn,vc,xA,xn,xc,Dz.o,⟨B9 (L1 hof (by rw [Cd.o];exact vZ)) (rf.o.mono DC (C8 hwa hlo G8)) (by rw [HOL.o,hke]),?_⟩,⟨B9 (L1 hod AG) ?_ (by rw [Cw AG Dl.o,bV]),?_⟩⟩
  · rw [HOL.o,hke];exact rj.o
  ·rw [bV,Kc,FM] at hcd
   exact ACI jq hcd
  · rw [Cw AG Dl.o,bV];exact HBD.o
def Gz (s:BG) (vars:SMap) (froms:List CO) (t:EF):Option EF:=
 if t.name=O7 then some {t with var:= -1,field:=0}
 else match getM vars t.name with
  | none=>none
  |
   some v=>match froms[v.toNat]? with
   | none=>none
   |
    some f=>match s.Aq[f.schema.toNat]? with
    | none=>none
    | some x=>(idx (fieldNames x) t.path).map (fun n=>{t with var:=v,field:=(n:Int)})
theorem ABu (a b c d:Nat) (w:AH):mask a b (mask c d w)=mask c d (mask a b w):=by
 unfold mask;congr 1;apply R3;intro k;simp only [R6,Option.map_map];cases w.heap[k]? with
 | none=>rfl
 |
  some o=>
  simp only [C6,Function.comp,Bz];split <;> split <;> rfl
def Vh (base:Nat) (T:Ae) (sz HT n cap:Nat) (cs:List AN) (ot:Nat) (res:Option EF) (w:AH) (e:Ending) (w':AH):Prop:=
 w.grownBy w' (some HT)/\match res with
  | none=>e=CN Bu
  | some t=>e=AW (BU #[])/\w'.ownsRow base T sz (AA (some ⟨HT,0,none⟩) n cap) n ((cs.set (ot+2) (AB AE t.var)).set (ot+3) (AB AE t.field))
theorem dZ {base:Nat} {T:Ae} {sz HT n cap:Nat} {cs:List AN} {ot:Nat} {res:Option EF} {w w':AH} (h:res=none) (hg:w.grownBy w' (some HT)):Vh base T sz HT n cap cs ot res w (CN Bu) w':=by subst h;exact ⟨hg,rfl⟩
theorem Z9 {base:Nat} {T:Ae} {sz HT n cap:Nat} {cs:List AN} {ot:Nat} {res:Option EF} {t:EF} {w w':AH} (h:res=some t) (hg:w.grownBy w' (some HT)) (ho:w'.ownsRow base T sz (AA (some ⟨HT,0,none⟩) n cap) n ((cs.set (ot+2) (AB AE t.var)).set (ot+3) (AB AE t.field))):Vh base T sz HT n cap cs ot res w (AW (BU #[])) w':=by subst h;exact ⟨hg,rfl,ho⟩
theorem Jt {w:AH} {base:Nat} {e:Ae} {sz g n cap:Nat} {cs:List AN} (h:w.ownsRow base e sz (AA (some ⟨g,0,none⟩) n cap) n cs) {j:Nat} {u:AN} (hu:cs[j]? =some u):w.cell? ⟨g,j,none⟩=some u:=by have hl:=(BF.1 hu).1;rw [h.1] at hl;rw [h.cellAt _ hl,hu]
theorem dr (V Rb Ub vb R G gi H fn fc base sz HT n cap ot:Nat) (T:Ae) (cs:List AN) (s:BG) (vars:SMap) (froms:List CO) (t:EF) (w:AH)
 (hV:w.cell? ⟨V,0,none⟩=some (.map (some vb))) (hVT:V≠HT) (hRb:w.cell? ⟨Rb,0,none⟩=some (AU (some ⟨R,0,none⟩))) (hRT:Rb≠HT) (hUb:w.cell? ⟨Ub,0,none⟩=some (AU (some ⟨G,gi,none⟩))) (hUT:Ub≠HT)
 (hG:froms≠[]->w.cell? ⟨G,gi+2,none⟩=some (AA (some ⟨H,0,none⟩) fn fc)) (hGT:G≠HT) (hm:MapAt IY Gv w vb vars) (hres:KJ (mask HT (HT+1) w) R s)
 (hfr:∀v,getM vars t.name=some v->∃(vn a:Nat) (f:CO) (x:BM),v=(vn:Int)/\vn < fn/\fn<=9223372036854775807/\froms[vn]? =some f/\f.schema=(a:Int)/\s.Aq[a]? =some x/\w.cell? ⟨H,vn*8+2,none⟩=some (AB AE a)/\(H≠HT\/(vn*8+2≠ot+2/\vn*8+2≠ot+3)))
 (ho:w.ownsRow base T sz (AA (some ⟨HT,0,none⟩) n cap) n cs) (h0:cs[ot]? =some (AL t.name)) (h1:cs[ot+1]? =some (AL t.path)) (h2:cs[ot+2]? =some (AB AE t.var)) (h3:cs[ot+3]? =some (AB AE t.field)):
 AS prog 213 #[AU (some ⟨HT,ot,none⟩),AU (some ⟨V,0,none⟩),AU (some ⟨Rb,0,none⟩),AU (some ⟨Ub,0,none⟩)] w (Vh base T sz HT n cap cs ot (Gz s vars froms t) w):=by
 have c0:=Jt ho h0;have c1:=Jt ho h1;have c2:=Jt ho h2;have c3:=Jt ho h3;have f2:=ho.frozenAt (ot+2);have f3:=ho.frozenAt (ot+3);have hoq:=((ho.stored (ot+2) (AB AE (-1))).1.stored (ot+3) (AB AE 0)).1;have hgq:w.grownBy ((w.setCell ⟨HT,ot+2,none⟩ (AB AE (-1))).setCell ⟨HT,ot+3,none⟩ (AB AE 0)) (some HT):=DB (DB (Cu _ _) _ _) _ _;obtain ⟨LH,PY,Vq,HV,J5,HUB,HG,HM,Hb,lj,H0,H1⟩:=QX hoq hgq (Lk ho) hV hRb hUb hG hm hres hfr h0 h1;have hl3:=(BF.1 h3).1;have hl2:=(BF.1 h2).1;clear hoq hgq hV hRb hUb hG hm hres hfr ho h0 h1 h2 h3;go_enter func213,ntmps213;by_cases hof:t.name=O7
 ·have t1:t.name.toList.isEmpty=true:=by rw [hof,L0];rfl
  have t2:t.name.toList=[]:=by rw [hof,L0]
  have HP:AI (Gz s vars froms t=some {t with var:= -1,field:=0}):=AF (by unfold Gz;rw [Ak hof]);clear hof;go_wp2_with fail
  go_end0
  exact Z9 HP.o PY.o LH.o
 have t1:t.name.toList.isEmpty=false:=bK hof;have t2:¬t.name.toList=[]:=by intro e;rw [e] at t1;cases t1
 have PW:=AF hof;clear hof;have hVq:=PY.o.cell HV.o (by simpa using hVT);have Wp:MapAt IY Gv ((w.setCell ⟨HT,ot+2,none⟩ (AB AE (-1))).setCell ⟨HT,ot+3,none⟩ (AB AE 0)).drew vb vars:=(HM.o.keeps (CU.grown PY.o (fun x e=>by cases e;exact Vq.o))).same rfl;have g0:((cs.set (ot+2) (AB AE (-1))).set (ot+3) (AB AE 0))[ot]? =some (AL t.name):=by rw [Jf AG,Jf AG];exact H0.o
 have g1:((cs.set (ot+2) (AB AE (-1))).set (ot+3) (AB AE 0))[ot+1]? =some (AL t.path):=by rw [Jf AG,Jf AG];exact H1.o
 have g2:((cs.set (ot+2) (AB AE (-1))).set (ot+3) (AB AE 0))[ot+2]? =some (AB AE (-1)):=by rw [Jf AG,Hg hl2]
 have g3:((cs.set (ot+2) (AB AE (-1))).set (ot+3) (AB AE 0))[ot+3]? =some (AB AE 0):=by rw [Hg (by simpa using hl3)]
 cases hgv:getM vars t.name with
 |
  none=>
  have fO:AI (Gz s vars froms t=none):=AF (by unfold Gz;rw [Ah PW.o,hgv]);go_upto_region 2 with fail;generalize (w.setCell ⟨HT,ot+2,none⟩ (AB AE (-1))).setCell ⟨HT,ot+3,none⟩ (AB AE 0)=wq at LH PY hVq Wp ⊢;have d0:=Jt LH.o g0;have d2:=Jt LH.o g2;obtain ⟨rP,HGV⟩:=Al Wp hgv;clear Wp c0 c1 c2 c3 f2 f3 g0 g1 g2 g3 hgv
  go_region_dies
  all_goals
   refine (Hm vb _ _ _ rP.o HGV.o).mono ?_;rintro e w' ⟨rfl,rfl⟩;exact ⟨rfl,dZ fO.o (grown_drew PY.o)⟩
 |
  some v=>
  obtain ⟨vn,a,f,x,rfl,hvf,hfn,hfv,hfa,hsa,hcf,hne⟩:=lj.o v hgv;have AEb:((w.setCell ⟨HT,ot+2,none⟩ (AB AE (-1))).setCell ⟨HT,ot+3,none⟩ (AB AE 0)).cell? ⟨H,vn*8+2,none⟩=some (AB AE a):=by rw [ZS _ _ _ _ (fun e=>by injection e;omega),ZS _ _ _ _ (fun e=>by injection e;omega)];exact hcf
  have hne2:(⟨HT,ot+2,none⟩:Aa)≠⟨H,vn*8+2,none⟩:=fun e=>by injection e;omega
  have HP:AI (∀r,(idx (fieldNames x) t.path).map (fun n=>({t with var:=(vn:Int),field:=(n:Int)}:EF))=r->Gz s vars froms t=r):=AF (fun r hr=>by unfold Gz;rw [Ah PW.o,hgv];simp only;rw [show ((vn:Int)).toNat=vn from rfl,hfv];simp only;rw [hfa,show ((a:Int)).toNat=a from rfl,hsa];exact hr)
  have HF:=AF ((Ft vb _ _ (vn:Int) _ Wp hgv).mono (R':=fun e w'=>e=AW (AB AE vn)/\w'=((w.setCell ⟨HT,ot+2,none⟩ (AB AE (-1))).setCell ⟨HT,ot+3,none⟩ (AB AE 0)).drew) Fl);have hGc:=HG.o (fun e=>by rw [e] at hfv;simp at hfv);have AMM:=hl3;go_upto_region 2 with fail;clear Wp;generalize (w.setCell ⟨HT,ot+2,none⟩ (AB AE (-1))).setCell ⟨HT,ot+3,none⟩ (AB AE 0)=wq at LH PY hVq AEb HF ⊢;have d0:=Jt LH.o g0;have d2:=Jt LH.o g2;have fd2:=LH.o.frozenAt (ot+2);clear c0 c1 c2 c3 f2 f3 hgv;refine wp_region_still_tail 9 AJ AJ ?_;simp only [Ff,Fe,Je,IK]
  repeat still_step
  still_call HF.o
  repeat still_step
  refine Fc ?_;change wpList _ _ _ _ _ wq.drew;go_upto_region 3 with fail;have hox:=(LH.o.stored (ot+2) (AB AE vn)).1.drew;have hgx:w.grownBy (wq.setCell ⟨HT,ot+2,none⟩ (AB AE vn)).drew (some HT):=grown_drew (DB PY.o _ _);have hcx:(wq.setCell ⟨HT,ot+2,none⟩ (AB AE vn)).drew.cell? ⟨H,vn*8+2,none⟩=some (AB AE a):=(ZS _ _ _ _ hne2).trans AEb;generalize (wq.setCell ⟨HT,ot+2,none⟩ (AB AE vn)).drew=wx at hox hgx hcx ⊢;have k1:=Jt hox (j:=ot+1) (u:=AL t.path) (by rw [Jf AG];exact g1);have k2:=Jt hox (j:=ot+2) (u:=AB AE vn) (by rw [Hg (by simpa using hl2)]);have k3:=Jt hox (j:=ot+3) (u:=AB AE 0) (by rw [Jf AG];exact g3);have fk3:=hox.frozenAt (ot+3);have xR:=hgx.cell J5.o (by simpa using hRT);have xU:=hgx.cell HUB.o (by simpa using hUT);have xG:=hgx.cell hGc (by simpa using hGT);obtain ⟨b1,b2,b3,fA,fl,fcc,hbR,hm1,hm2,ER,hfs⟩:=(Hb.o.below (C8 hgx (Ac _) (I9 _))).Ig;have r3:=hbR.cell 3;have lR:=hbR.lt;simp only [Aj,Ao,BA] at r3;have hal:a < fl:=by have:=hfs.len;rw [this,CY];exact (BF.1 hsa).1
  have AIJ:fl<=9223372036854775807:=by have:=hfs.le;omega
  obtain ⟨fb,qR,fm,fg,rfl,hfb,hfm,hfc,Mf⟩:=VU hfs hal;have hfx:fm=fieldMap x:=by rw [Bg,hsa,C6,Bz] at hfm;exact hfm.symm
  subst hfx;have hget:=Ie (fieldNames x) t.path;obtain ⟨XI,rH,HGX⟩:=BB (Mf.same (w':=wx.drew) rfl) hox hgx;have h01:(0:Int)<=(vn:Int):=AG
  have h02:(vn:Int) < (fn:Int):=AG
  have h03:(0:Int)<=(a:Int):=AG
  have h04:(a:Int) < (fl:Int):=AG
  clear hfs hfm Mf hbR hm1 hm2 ER hox hgx g0 g1 g2 g3 d0 d2 fd2 HF AEb hVq hcf hne hne2 hGc hfa hfv hsa;cases hix:idx (fieldNames x) t.path with
  |
   none=>
   rw [hix] at hget;have fO:=AF (HP.o none (by rw [hix];rfl));have Co:AI (Vh base T sz HT n cap cs ot (Gz s vars froms t) w (CN Bu) wx.drew):=AF (dZ fO.o (grown_drew HGX.o));have HF:=AF ((Hm fg _ _ wx.drew XI.o hget).mono (R':=fun e w'=>e=CN Bu/\w'=wx.drew) Fl);clear hix hget;refine Du 22 [0,1,2,3,4,5,6,7,8,9,10,11,12,13,14,15,16,17,18,19,20,21] (fun l=>l.take 22) AJ rfl AJ (fun d u c a h=>by cases d <;> exact h) ?_;simp only [Ff,Fe]
   repeat still_step
   refine Fc ?_;refine ⟨_,209,#[.map (some fg),AL t.path],Bu,rfl,rfl,?_,HF.o,rfl,Co.o⟩;go_simp
  |
   some g=>
   rw [hix] at hget;obtain ⟨Yf,HF⟩:=Al (HP.o (some {t with var:=(vn:Int),field:=(g:Int)}) (by rw [hix];rfl)) ((Ft fg _ _ (g:Int) wx.drew XI.o hget).mono (R':=fun e w'=>e=AW (AB AE g)/\w'=wx.drew) Fl);clear hix hget;refine wp_region_still_tail 25 AJ AJ ?_;simp only [Ff,Fe,Je,IK]
   repeat still_step
   still_call HF.o
   repeat still_step
   refine Fc ?_;change wpList _ _ _ _ _ wx.drew;go_wp2_with fail
   go_end0
   refine Z9 Yf.o (DB (grown_drew HGX.o) _ _) ?_;have:=(rH.o.drew.stored (ot+3) (AB AE g)).1;have e:((((cs.set (ot+2) (AB AE (-1))).set (ot+3) (AB AE 0)).set (ot+2) (AB AE vn)).set (ot+3) (AB AE g))=(cs.set (ot+2) (AB AE vn)).set (ot+3) (AB AE g):=by rw [List.set_comm _ _ (by omega:ot+3≠ot+2),IL,IL]
   rw [e] at this;exact this
def NP (l:List CO):Nat->SMap
 | 0=>[]
 |
  k+1=>match l[k]? with
  | some f=>Hv (NP l k) f.name (k:Int)
  | none=>NP l k
def varsOf (l:List CO):SMap:=NP l l.length
theorem jY (l r:List CO):∀k,k<=l.length->NP (l++r) k=NP l k
 | 0,_=>rfl
 | k+1,h=>by rw [NP,NP,jY l r k AG,EB AG]
theorem rx (l:List CO) (f:CO):varsOf (l++[f])=Hv (varsOf l) f.name (l.length:Int):=by unfold varsOf;rw [CX];show NP (l++[f]) (l.length+1)=_;rw [NP,Cj (Ac _),Pm,jY l _ _ (Ac _)];rfl
theorem Tg (l:List CO):∀k x v,getM (NP l k) x=some v->∃n:Nat,v=(n:Int)/\n < k/\∃f,l[n]? =some f/\f.name=x
 | 0,x,v,h=>by simp [NP,QL] at h
 |
  k+1,x,v,h=>by
  rw [NP] at h;cases hk:l[k]? with
  |
   none=>
   rw [hk] at h;obtain ⟨n,h1,h2,h3⟩:=Tg l k x v h;exact ⟨n,h1,by omega,h3⟩
  |
   some f=>
   rw [hk] at h;simp only [qP] at h;split at h
   ·rename_i e
    exact ⟨k,by simpa using h.symm,by omega,f,hk,e.symm⟩
   obtain ⟨n,h1,h2,h3⟩:=Tg l k x v h;exact ⟨n,h1,by omega,h3⟩
def QM (s:BG) (out:List CO) (f:CO):Option CO:=
 match idx (CM s) f.kind with
 | none=>none
 | some a=>(Gz s (varsOf out) out f.Au).map (fun t=>{f with schema:=(a:Int),Au:=t})
def QV (s:BG) (fo:List CO) (a:Iv):Option Iv:=
 match Gz s (varsOf fo) fo a.a,Gz s (varsOf fo) fo a.b with
 | some x,some y=>some {a with a:=x,b:=y}
 | _,_=>none
def VG (s:BG) (xa:BM) (fo:List CO) (c:Ma):Option Ma:=
 match idx (fieldNames xa) c.path,Gz s (varsOf fo) fo c.term with
 | some n,some t=>some {c with field:=(n:Int),term:=t}
 | _,_=>none
def Gr (s:BG) (r:Cm):Option Cm:=
 match idx (CM s) r.head with
 | none=>none
 |
  some a=>match GJ (QM s) r.froms with
  | none=>none
  |
   some fo=>match GJ (fun _=>QV s fo) r.C0 with
   | none=>none
   |
    some wo=>match s.Aq[a]? with
    | none=>none
    |
     some xa=>match GJ (fun _=>VG s xa fo) r.sets with
     | none=>none
     | some so=>some {r with schema:=(a:Int),froms:=fo,C0:=wo,sets:=so}
def rn (s:BG) (l:List CO):Prop:=∀f∈l,∃(a:Nat) (x:BM),f.schema=(a:Int)/\s.Aq[a]? =some x
theorem Rn {s:BG} {vars:SMap} {fo:List CO} {t t':EF} (h:Gz s vars fo t=some t'):t'={t with var:=t'.var,field:=t'.field}:=by
 unfold Gz at h;split at h
 · injection h with h;subst h;rfl
 split at h
 · cases h
 split at h
 · cases h
 split at h
 · cases h
 simp only [EC] at h;obtain ⟨n,_,rfl⟩:=h;rfl
structure RB (w0:AH) (R G gi Rb Ub V vb:Nat) (wr:AH):Prop where
 gr:w0.grownBy wr (some G)
 rb:wr.cell? ⟨Rb,0,none⟩=some (AU (some ⟨R,0,none⟩))
 ub:wr.cell? ⟨Ub,0,none⟩=some (AU (some ⟨G,gi,none⟩))
 vv:wr.cell? ⟨V,0,none⟩=some (.map (some vb))
section
variable {w0:AH} {R G gi Rb Ub V vb:Nat} {wr wr':AH}
theorem RB.far (h:RB w0 R G gi Rb Ub V vb wr) {K:Nat} (hg:wr.grownBy wr' (some K)) (h0:w0.heap.size<=K) (h1:Rb≠K) (h2:Ub≠K) (h3:V≠K):RB w0 R G gi Rb Ub V vb wr':=
 ⟨Oj h.gr hg h0,hg.cell h.rb (by simpa using h1),hg.cell h.ub (by simpa using h2),hg.cell h.vv (by simpa using h3)⟩
theorem RB.near (h:RB w0 R G gi Rb Ub V vb wr) (hg:wr.grownBy wr' (some G)) (h1:Rb≠G) (h2:Ub≠G) (h3:V≠G):RB w0 R G gi Rb Ub V vb wr':=
 ⟨Ex h.gr hg,hg.cell h.rb (by simpa using h1),hg.cell h.ub (by simpa using h2),hg.cell h.vv (by simpa using h3)⟩
theorem RB.below (h:RB w0 R G gi Rb Ub V vb wr) (hb:AK wr wr'):RB w0 R G gi Rb Ub V vb wr':=by have hg:wr.grownBy wr' none:=Ey hb _;exact ⟨Ex h.gr (Ey hb _),hg.cell h.rb AZ,hg.cell h.ub AZ,hg.cell h.vv AZ⟩
theorem RB.drew (h:RB w0 R G gi Rb Ub V vb wr):RB w0 R G gi Rb Ub V vb wr.drew:=⟨grown_drew h.gr,h.rb,h.ub,h.vv⟩
end
theorem oy {lo M R G HT:Nat} {s:BG} {w0 wr:AH} (h:KJ (mask lo M w0) R s) (hg:w0.grownBy wr (some G)) (hlo:lo<=G) (G8:G < M) (hHT:w0.heap.size<=HT):KJ (mask HT (HT+1) wr) R s:=by have:=h.below (WI (lo:=HT) (M:=HT+1) (mask lo M w0) (C8 hg hlo G8) (by rw [Eb];exact hHT));rw [ABu] at this;exact this.Ig
theorem ACR {w:AH} {cs:List AN} {l:List CO} {k:Nat} {u:CO} (h:Ap 8 DU w cs l) (hk:l[k]? =some u) (a:Int):Ap 8 DU w (cs.set (k*8+2) (AB AE a)) (l.set k {u with schema:=a}):=
 h.put AG (BF.1 hk).1 uO
theorem ACQ {w:AH} {cs:List AN} {l:List CO} {k:Nat} {u:CO} (h:Ap 8 DU w cs l) (hk:l[k]? =some u) (t:EF) (ht:t={u.Au with var:=t.var,field:=t.field}):Ap 8 DU w ((cs.set (k*8+3+2) (AB AE t.var)).set (k*8+3+3) (AB AE t.field)) (l.set k {u with Au:=t}):=by
 have hkl:=(BF.1 hk).1;have h1:Ap 8 DU w (cs.set (k*8+5) (AB AE t.var)) (l.set k {u with Au:={u.Au with var:=t.var}}):=h.put AG hkl uO
 have h2:=h1.put (i:=k) (j:=6) (x':={u with Au:={u.Au with var:=t.var,field:=t.field}}) (u:=AB AE t.field) AG SE (by have:chunk _ 8 k=_:=h1.chunk (i:=k) AAy;rw [this];rfl)
 exact cX
theorem ACk {w:AH} {cs:List AN} {l:List Iv} {k:Nat} {u:Iv} (h:Ap 11 Ea w cs l) (hk:l[k]? =some u) (t:EF) (ht:t={u.a with var:=t.var,field:=t.field}):Ap 11 Ea w ((cs.set (k*11+1+2) (AB AE t.var)).set (k*11+1+3) (AB AE t.field)) (l.set k {u with a:=t}):=by
 have hkl:=(BF.1 hk).1;have h1:Ap 11 Ea w (cs.set (k*11+3) (AB AE t.var)) (l.set k {u with a:={u.a with var:=t.var}}):=h.put AG hkl uS
 have h2:=h1.put (i:=k) (j:=4) (x':={u with a:={u.a with var:=t.var,field:=t.field}}) (u:=AB AE t.field) AG SE uk
 exact cX
theorem ACj {w:AH} {cs:List AN} {l:List Iv} {k:Nat} {u:Iv} (h:Ap 11 Ea w cs l) (hk:l[k]? =some u) (t:EF) (ht:t={u.b with var:=t.var,field:=t.field}):Ap 11 Ea w ((cs.set (k*11+6+2) (AB AE t.var)).set (k*11+6+3) (AB AE t.field)) (l.set k {u with b:=t}):=by
 have hkl:=(BF.1 hk).1;have h1:Ap 11 Ea w (cs.set (k*11+8) (AB AE t.var)) (l.set k {u with b:={u.b with var:=t.var}}):=h.put AG hkl uS
 have h2:=h1.put (i:=k) (j:=9) (x':={u with b:={u.b with var:=t.var,field:=t.field}}) (u:=AB AE t.field) AG SE uk
 exact cX
theorem ADB {w:AH} {cs:List AN} {l:List Ma} {k:Nat} {u:Ma} (h:Ap 7 Gs w cs l) (hk:l[k]? =some u) (a:Int):Ap 7 Gs w (cs.set (k*7+1) (AB AE a)) (l.set k {u with field:=a}):=
 h.put AG (BF.1 hk).1 uN
theorem ADA {w:AH} {cs:List AN} {l:List Ma} {k:Nat} {u:Ma} (h:Ap 7 Gs w cs l) (hk:l[k]? =some u) (t:EF) (ht:t={u.term with var:=t.var,field:=t.field}):Ap 7 Gs w ((cs.set (k*7+2+2) (AB AE t.var)).set (k*7+2+3) (AB AE t.field)) (l.set k {u with term:=t}):=by
 have hkl:=(BF.1 hk).1;have h1:Ap 7 Gs w (cs.set (k*7+4) (AB AE t.var)) (l.set k {u with term:={u.term with var:=t.var}}):=h.put AG hkl uN
 have h2:=h1.put (i:=k) (j:=5) (x':={u with term:={u.term with var:=t.var,field:=t.field}}) (u:=AB AE t.field) AG SE (by have:chunk _ 7 k=_:=h1.chunk (i:=k) AAy;rw [this];rfl)
 exact cX
theorem E9 {cs:List AN} {sz k j:Nat} {c:List AN} {u:AN} (hc:chunk cs sz k=c) (hj:j < sz) (hu:c[j]? =some u):cs[k*sz+j]? =some u:=by rw [<-QT hj,hc,hu]
theorem yX {s:BG} {w wx:AH} {base:Nat} {vA:Option Aa} {vn vc:Nat} {cr:List AN} {fo:List CO} (ho:w.ownsRow base 298 8 (AA vA vn vc) vn cr) (hc:Ap 8 DU wx cr fo) (hl:fo.length=vn) (hp:rn s fo):
 ∃H,(fo≠[]->vA=some ⟨H,0,none⟩/\base<=H/\H < w.heap.size)/\∀(x:ByteArray) (v:Int),getM (varsOf fo) x=some v->∃(n a:Nat) (f:CO) (sc:BM),v=(n:Int)/\n < vn/\vn<=9223372036854775807/\fo[n]? =some f/\f.schema=(a:Int)/\s.Aq[a]? =some sc/\w.cell? ⟨H,n*8+2,none⟩=some (AB AE a):=by
 rcases Jl ho with ⟨h,h0⟩ | ⟨H,hcap,h,hH,hHw,hn2⟩
 ·have:fo=[]:=Jh AG
  subst this;exact ⟨0,fun e=>absurd rfl e,fun x v hv=>by simp [varsOf,NP,QL] at hv⟩
 injection h with h1 h2 h3;subst h1 h3;refine ⟨H,fun _=>⟨rfl,hH,hHw⟩,fun x v hv=> ?_⟩;obtain ⟨n,rfl,hn,f,hf,_⟩:=Tg fo _ x v hv;obtain ⟨a,sc,ha,hs⟩:=hp f (Cr hf);refine ⟨n,a,f,sc,rfl,by omega,by omega,hf,ha,hs,?_⟩;have hch:chunk cr 8 n=_:=hc.chunk hf;have:=BI ho (show n < vn by omega) AG hch (j:=2) rfl;rw [ha] at this;exact this
theorem WH {w0 w wx:AH} {R G gi Rb Ub V vb lo M bz base sz HT n cap ot:Nat} {vA:Option Aa} {vn vc:Nat} {T:Ae} {cs cr:List AN} {s:BG} {fo:List CO} {t:EF}
 (hrb:RB w0 R G gi Rb Ub V vb w) (hG2:w.cell? ⟨G,gi+2,none⟩=some (AA vA vn vc)) (hof:w.ownsRow bz 298 8 (AA vA vn vc) vn cr) (hcf:Ap 8 DU wx cr fo) (hl:fo.length=vn) (hok:rn s fo) (hm:MapAt IY Gv w vb (varsOf fo))
 (hres:KJ (mask lo M w0) R s) (hlo:lo<=G) (G8:G < M) (hHT:w0.heap.size<=HT) (nV:V≠HT) (nR:Rb≠HT) (nU:Ub≠HT) (nG:G≠HT) (nF:∀r,(Value.slice vA vn vc).ownBlock=some r->r≠HT)
 (ho:w.ownsRow base T sz (AA (some ⟨HT,0,none⟩) n cap) n cs) (h0:cs[ot]? =some (AL t.name)) (h1:cs[ot+1]? =some (AL t.path)) (h2:cs[ot+2]? =some (AB AE t.var)) (h3:cs[ot+3]? =some (AB AE t.field)):
 AS prog 213 #[AU (some ⟨HT,ot,none⟩),AU (some ⟨V,0,none⟩),AU (some ⟨Rb,0,none⟩),AU (some ⟨Ub,0,none⟩)] w (Vh base T sz HT n cap cs ot (Gz s (varsOf fo) fo t) w):=by
 obtain ⟨H,hne,hlook⟩:=yX hof hcf hl hok;refine dr V Rb Ub vb R G gi H vn vc base sz HT n cap ot T cs s (varsOf fo) fo t w hrb.vv nV hrb.rb nR hrb.ub nU (fun e=>by rw [hG2,(hne e).1]) nG hm (oy hres hrb.gr hlo G8 hHT) (fun v hv=> ?_) ho h0 h1 h2 h3;obtain ⟨n',a,f,sc,h1,h2,h3,h4,h5,h6,h7⟩:=hlook t.name v hv;have hnn:fo≠[]:=fun e=>by rw [e] at h4;simp at h4
 exact ⟨n',a,f,sc,h1,h2,h3,h4,h5,h6,h7,.inl (nF H (by rw [(hne hnn).1];rfl))⟩
theorem iW (R lo M base G n cap i:Nat) (cs:List AN) (s:BG) (p:Cm) (w:AH) (hres:KJ (mask lo M w) R s) (hlo:lo<=G) (G8:G < M) (vZ:M<=w.heap.size)
 (ho:w.ownsRow base 160 5 (AA (some ⟨G,0,none⟩) n cap) n cs) (hi:i < n) (hp:CT (mask lo M w) (chunk cs 5 i) p):
 AS prog 161 #[AU (some ⟨R,0,none⟩),AU (some ⟨G,i*5,none⟩)] w (ES 160 5 CT base G n cap i cs lo M (Gr s p) w):=by
 obtain ⟨A1,n1,c1,A2,n2,c2,A3,n3,c3,hch,hfr,hwh,hse⟩:=hp;have VZ:G < w.heap.size:=AG
 obtain ⟨Hb,HO,RD,lj,fH,T0,CW⟩:=LU hres ho hch hfr hwh hse hwh.2;clear hres ho hch hfr hwh hse;have hmf:∀(fn:Fn) (first cap:Array AN) (w:AH),(Instr.makeFunc fn first cap).run prog w=.ok (.func fn first cap) w:=fun _ _ _ _=>rfl;go_enter func161,ntmps161;go_upto_region 1 with fail;have hbb:AK w ((w.alloc (AO #[AU (some ⟨R,0,none⟩)] 253)).alloc (AO #[AU (some ⟨G,i*5,none⟩)] 273)):=(BK _ _).alloc AZ _;have krb:((w.alloc (AO #[AU (some ⟨R,0,none⟩)] 253)).alloc (AO #[AU (some ⟨G,i*5,none⟩)] 273)).cell? ⟨w.heap.size,0,none⟩=some (AU (some ⟨R,0,none⟩)):=LS
 have kub:((w.alloc (AO #[AU (some ⟨R,0,none⟩)] 253)).alloc (AO #[AU (some ⟨G,i*5,none⟩)] 273)).cell? ⟨w.heap.size+1,0,none⟩=some (AU (some ⟨G,i*5,none⟩)):=LS
 have bP:((w.alloc (AO #[AU (some ⟨R,0,none⟩)] 253)).alloc (AO #[AU (some ⟨G,i*5,none⟩)] 273)).heap.size=w.heap.size+2:=AZ
 generalize (w.alloc (AO #[AU (some ⟨R,0,none⟩)] 253)).alloc (AO #[AU (some ⟨G,i*5,none⟩)] 273)=wb at hbb krb kub bP ⊢;have hgb:w.grownBy wb (some G):=Ey hbb _;have hob:=Cs HO.o hbb;have p0:=BI hob hi AG RD.o (j:=0) rfl;simp only [Ee] at p0;have p1:=BI hob hi AG RD.o (j:=1) rfl;have f1:=hob.frozenAt (i*5+1);obtain ⟨b1,b2,b3,fA,fn,fc,hbR,hm1,hm2,ER,hfs⟩:=(Hb.o.below (C8 hgb hlo G8)).Ig;have r2:=hbR.cell 2;have lR:=hbR.lt;simp only [Aj,Ao,BA] at r2;have hget:=Ie (CM s) p.head;obtain ⟨Ht,TU,HOB,AIz⟩:=CD (ER.same (w':=wb.drew) rfl) hgb hob bP;clear hbb hgb hob hbR hm1 hm2 ER hfs bP;cases hix:idx (CM s) p.head with
 |
  none=>
  rw [hix] at hget;have Co:AI (ES 160 5 CT base G n cap i cs lo M (Gr s p) w (CN Bu) wb.drew):=
   AF (Dv (by unfold Gr;rw [hix]) (grown_drew TU.o))
  have HF:=AF ((Hm b3 _ _ wb.drew Ht.o hget).mono (R':=fun e w'=>e=CN Bu/\w'=wb.drew) Fl);clear hix hget;refine Du 9 [0,1,2,3,4,5,6,7,8] (fun l=>l.take 9) AJ rfl AJ (fun d u c a h=>by cases d <;> exact h) ?_;simp only [Ff,Fe]
  repeat still_step
  refine Fc ?_;refine ⟨_,209,#[.map (some b3),AL p.head],Bu,rfl,rfl,?_,HF.o,rfl,Co.o⟩;go_simp
 |
  some a=>
  rw [hix] at hget;have Ij:=AF hix;have hal:=X6 hix;have HF:=AF ((Ft b3 _ _ (a:Int) wb.drew Ht.o hget).mono (R':=fun e w'=>e=AW (AB AE a)/\w'=wb.drew) Fl);clear hix hget;obtain ⟨xa,hxa⟩:∃x,s.Aq[a]? =some x:=⟨s.Aq[a]'(by simpa [CM] using hal),BN _⟩;have fG:=AF hxa;clear hxa hal;refine wp_region_still_tail 12 AJ AJ ?_;simp only [Ff,Fe,Je,IK]
  repeat still_step
  still_call HF.o
  repeat still_step
  refine Fc ?_;change wpList _ _ _ _ _ wb.drew;go_upto_region 2 with fail;have ho2:=(HOB.o.stored (i*5+1) (AB AE a)).1.drew;have hga:w.grownBy (wb.setCell ⟨G,i*5+1,none⟩ (AB AE a)).drew (some G):=grown_drew (DB TU.o _ _);have PH:(wb.setCell ⟨G,i*5+1,none⟩ (AB AE a)).drew.heap.size=w.heap.size+2:=by rw [<-AIz.o];simp [World.setCell]
  have AET:wb.grownBy (wb.setCell ⟨G,i*5+1,none⟩ (AB AE a)).drew (some G):=grown_drew (DB (Cu _ _) _ _);have ADq:=AET.cell krb Bd;have ADp:=AET.cell kub Bd;have QJ:chunk (cs.set (i*5+1) (AB AE a)) 5 i=[AL p.head,AB AE a,AA A1 n1 c1,AA A2 n2 c2,AA A3 n3 c3]:=by rw [E8 _ AG,RD.o];rfl
  have hoth:∀j,j≠i->chunk (cs.set (i*5+1) (AB AE a)) 5 j=chunk cs 5 j:=fun j hj=>by rw [Fa _ AG hj]
  generalize (wb.setCell ⟨G,i*5+1,none⟩ (AB AE a)).drew=wa at ho2 hga PH ADq ADp ⊢;generalize cs.set (i*5+1) (AB AE a)=ca at ho2 QJ hoth;have hfw:BV 8 96 DU wa (AA A1 n1 c1) p.froms:=(lj.o.mono EW (C8 hga hlo G8)).Ig di;have Qy:G < wa.heap.size:=by rw [PH];omega
  have p2:=BI ho2 hi AG QJ (j:=2) rfl;have f2:=ho2.frozenAt (i*5+2);obtain ⟨T9,Hu,Ud,cP,Cd,aj⟩:=Fg ho2 hga QJ hoth PH (show BV 8 96 DU wa.drew (AA A1 n1 c1) p.froms from hfw.mono EW (Af _ _).drew);have hne:¬G=w.heap.size+1:=AG
  clear ho2 hga AET QJ hoth PH hfw p0 p1 f1 r2 lR HF Ht HOB TU AIz krb kub;apply g9 (G:=fun vA vn vc w2=>∃cs1,w2.ownsRow base 160 5 (AA (some ⟨G,0,none⟩) n cap) n (ca.set (i*5+2) (AA vA vn vc))/\w2.ownsRow wa.heap.size 298 8 (AA vA vn vc) p.froms.length cs1/\Ap 8 DU w cs1 p.froms/\vn=p.froms.length/\
   w.grownBy w2 (some G)/\w2.cell? ⟨w.heap.size,0,none⟩=some (AU (some ⟨R,0,none⟩))/\w2.cell? ⟨w.heap.size+1,0,none⟩=some (AU (some ⟨G,i*5,none⟩))/\wa.heap.size<=w2.heap.size)
  ·go_region_law (first
    | (
     refine RG DR 212 #[AA A1 n1 c1] (by go_simp) (mU A1 n1 c1 p.froms _ aj.o) ?_;rintro e w1 ⟨v,cs1,rfl,hcs1,ho1,hb1⟩;refine ⟨_,rfl,?_⟩;obtain ⟨vA,vn,vc,rfl,hvn⟩:=Gg ho1;have q2:w1.cell? ⟨G,i*5+2,none⟩=some (AA A1 n1 c1):=((J4 hb1).1 _ _ Qy).trans p2;have hf2:w1.frozen? ⟨G,i*5+2,none⟩=false:=((J4 hb1).2 _ _ Qy).trans f2;have kr1:w1.cell? ⟨w.heap.size,0,none⟩=some (AU (some ⟨R,0,none⟩)):=((J4 hb1).1 _ _ (by have:=Cd.o;simp;omega)).trans ADq;have ku1:w1.cell? ⟨w.heap.size+1,0,none⟩=some (AU (some ⟨G,i*5,none⟩)):=((J4 hb1).1 _ _ (by have:=Cd.o;simp;omega)).trans ADp;obtain ⟨IG,J7,HB1,Ll⟩:=CD ho1 hcs1 hb1 hvn;clear ho1 hcs1 hb1 hvn))
   all_goals
    have hg1:w.grownBy (w1.setCell ⟨G,i*5+2,none⟩ (AA vA vn vc)) (some G):=DB (Ex (grown_drew Hu.o) (Ey HB1.o _)) _ _;have hg2:w1.grownBy (w1.setCell ⟨G,i*5+2,none⟩ (AA vA vn vc)) (some G):=DB (Cu _ _) _ _;exact ⟨vA,vn,vc,rfl,cs1,((Cs T9.o.drew HB1.o).stored (i*5+2) (AA vA vn vc)).1,Hj IG.o ZW _,J7.o,Ll.o,hg1,hg2.cell kr1 Bd,hg2.cell ku1 Bd,by have:=HB1.o.size;simp [World.setCell] at this ⊢;exact this⟩
  rintro vA vn vc w2 ⟨cs1,ho2,hi2,hc1,hvn,hg2,kr2,ku2,hsz2⟩;have hcb:chunk (ca.set (i*5+2) (AA vA vn vc)) 5 i=[AL p.head,AB AE a,AA vA vn vc,AA A2 n2 c2,AA A3 n3 c3]:=by rw [E8 _ AG,Ud.o];rfl
  have bR:∀j,j≠i->chunk (ca.set (i*5+2) (AA vA vn vc)) 5 j=chunk cs 5 j:=fun j hj=>by rw [Fa _ AG hj];exact cP.o j hj
  generalize ca.set (i*5+2) (AA vA vn vc)=cb at ho2 hcb bR;have g2:=BI ho2 hi AG hcb (j:=2) rfl;obtain ⟨Jz,HI2,J7,Ll,HG2,Mj,rI⟩:=LU ho2 hi2 hc1 hvn hg2 hcb bR;clear ho2 hi2 hc1 hvn hg2 hcb bR cP Ud T9 aj ADq ADp p2 f2 hne;have hmm:=@run_makeMap prog;go_upto_region 5 with fail;clear hmm;have hbc:AK w2 ((w2.alloc (.map #[] 0)).alloc (AO #[.map (some w2.heap.size)] 268)):=(BK _ _).alloc AZ _;have hmc:MapAt IY Gv ((w2.alloc (.map #[] 0)).alloc (AO #[.map (some w2.heap.size)] 268)) w2.heap.size (varsOf []):=(MapAt.new IY Gv w2).below (BK _ _);have vT:((w2.alloc (.map #[] 0)).alloc (AO #[.map (some w2.heap.size)] 268)).cell? ⟨w2.heap.size+1,0,none⟩=some (.map (some w2.heap.size)):=LS
  have AEB:((w2.alloc (.map #[] 0)).alloc (AO #[.map (some w2.heap.size)] 268)).heap.size=w2.heap.size+2:=AZ
  have hoc:=Cs Jz.o hbc;have hic:=Cs HI2.o hbc;have hrb:RB w R G (i*5) w.heap.size (w.heap.size+1) (w2.heap.size+1) w2.heap.size ((w2.alloc (.map #[] 0)).alloc (AO #[.map (some w2.heap.size)] 268)):=
   ⟨Ex HG2.o (Ey hbc _),(J4 hbc).1 _ _ gL |>.trans kr2,(J4 hbc).1 _ _ gL |>.trans ku2,vT⟩
  have gc2:=BI hoc hi AG Mj.o (j:=2) rfl;have hfb:∀r,(Value.slice vA vn vc).ownBlock=some r->w.heap.size+2<=r/\r < w2.heap.size:=fun r e=>by have:=HI2.o.lt r e;have:=Cd.o;omega
  have hwv:w.heap.size+2<=w2.heap.size:=by have:=Cd.o;omega
  generalize (w2.alloc (.map #[] 0)).alloc (AO #[.map (some w2.heap.size)] 268)=wc at hmc AEB hoc hic hrb gc2 ⊢;obtain ⟨vb,hvb⟩:=Ad w2.heap.size;rw [<-hvb] at hmc AEB hrb hfb hwv ⊢;have k1:=hrb.rb;have k2:=hrb.ub;have k3:=hrb.vv;obtain ⟨HMC,rK,Vs,J5,rZ⟩:=Db hmc hoc hic hrb hfb;have hsz3:w.heap.size+2=wa.heap.size:=Cd.o.symm;have LD:=AF hsz3;clear hmc hoc hic hrb hfb hbc vT kr2 ku2 g2 hsz2 AEB Jz HI2 HG2 hsz3 Cd hvb;go_wp2_with fail;clear k1 k2 k3 gc2;go_loopg [37] vn (fun q j wr=>∃(k:Nat) (out:List CO) (cr:List AN),k<=vn/\q=vn - k/\j=AB AE k/\EX (QM s) p.froms k=some out/\RB w R G (i*5) w.heap.size (w.heap.size+1) (vb+1) vb wr/\wr.ownsRow base 160 5 (AA (some ⟨G,0,none⟩) n cap) n cb/\
   wr.ownsRow wa.heap.size 298 8 (AA vA vn vc) p.froms.length cr/\Ap 8 DU w cr (out++p.froms.drop k)/\MapAt IY Gv wr vb (varsOf out)/\rn s out)
  case atStart=>exact ⟨0,[],cs1,Ay _,rfl,rfl,rfl,J5.o,rK.o,Vs.o,J7.o,HMC.o,fun f hf=>by simp at hf⟩
  clear J5 rK Vs J7 HMC;obtain ⟨k,out,cr,hk,hq,rfl,hto,hrb,hog,Gw,hcr,hmp,hok⟩:=hrel;obtain ⟨HQ,Dl,Ii⟩:=BB hq hto hok;clear hq hto hok;by_cases hlt:k < vn
  ·rcases Jl Gw with ⟨h,h0⟩ | ⟨H,hcap,h,hH,hHw,hn2⟩
   · exact SZ
   injection h with h1 h2 h3;subst h1 h3;clear h2;have xu:vn<=9223372036854775807:=by have:=Ll.o;omega
   have hHb:=rZ.o H rfl;obtain ⟨m,hm⟩:∃m,p.froms[k]? =some m:=⟨p.froms[k]' Jm,BN _⟩;have hlen:=Cw Jm Dl.o;have hat:(out++p.froms.drop k)[k]? =some m:=by rw [Cj AG,EO,hlen];simpa using hm
   have hch:chunk cr 8 k=_:=hcr.chunk hat;have EL:wr.ownsRow wa.heap.size 298 8 (AA (some ⟨H,0,none⟩) vn vc) vn cr:=by have:=Ll.o;rw [this] at Gw ⊢;exact Gw
   have e1:=BI EL hlt AG hch (j:=1) rfl;have e2:=BI EL hlt AG hch (j:=2) rfl;have f2:=EL.frozenAt (k*8+2);have g2:=BI hog hi AG Mj.o (j:=2) rfl;have k1:=hrb.rb;have k2:=hrb.ub;obtain ⟨b1',b2',b3',Tv,fn',Q0,Ia,_,_,po,_⟩:=(Hb.o.below (C8 hrb.gr hlo G8)).Ig;have s2:=Ia.cell 2;have lR':=Ia.lt;simp only [Aj,Ao,BA] at s2;have hget:=Ie (CM s) m.kind;obtain ⟨Ht,J5,Lp,Ln,UG,UB,HM,HLEN,HAT⟩:=P4 (po.same (w':=wr.drew) rfl) hrb hog EL hcr hmp hm hlen hat;clear hrb hog Gw EL hcr hmp hm hlen hat hch Ia po;have hkn:(k:Int) < (vn:Int):=AG
   have hk0:=Int.natCast_nonneg k
   go_upto_region 9 with fail;cases hix:idx (CM s) m.kind with
   |
    none=>
    rw [hix] at hget;have Co:AI (ES 160 5 CT base G n cap i cs lo M (Gr s p) w (CN Bu) wr.drew):=by refine Dv ?_ (grown_drew J5.o.gr);unfold Gr;rw [Ij.o];simp only;rw [FB (k:=k+1) Jm (FY Dl.o HM.o (by unfold QM;rw [hix]))]
    have HF:=AF ((Hm b3' _ _ wr.drew Ht.o hget).mono (R':=fun e w'=>e=CN Bu/\w'=wr.drew) Fl);clear hix hget;refine Du 9 [0,1,2,3,4,5,6,7,8] (fun l=>l.take 9) AJ rfl AJ (fun d u c a h=>by cases d <;> exact h) ?_;simp only [Ff,Fe]
    repeat still_step
    refine Fc ?_;refine ⟨_,209,#[.map (some b3'),AL m.kind],Bu,rfl,rfl,?_,HF.o,rfl,Co.o⟩;go_simp
   |
    some b=>
    rw [hix] at hget;obtain ⟨HF,ah⟩:=Al ((Ft b3' _ _ (b:Int) wr.drew Ht.o hget).mono (R':=fun e w'=>e=AW (AB AE b)/\w'=wr.drew) Fl) hix;have hbl:=X6 hix;clear hix hget;obtain ⟨xb,hxb⟩:∃x,s.Aq[b]? =some x:=⟨s.Aq[b]'(by simpa [CM] using hbl),BN _⟩;have HXB:=AF hxb;clear hxb hbl;refine wp_region_still_tail 12 AJ AJ ?_;simp only [Ff,Fe,Je,IK]
    repeat still_step
    still_call HF.o
    repeat still_step
    refine Fc ?_;change wpList _ _ _ _ _ wr.drew;go_upto_region 10 with fail;have hoq:=(Ln.o.stored (k*8+2) (AB AE b)).1.drew;have hgq:wr.grownBy (wr.setCell ⟨H,k*8+2,none⟩ (AB AE b)).drew (some H):=grown_drew (DB (Cu _ _) _ _);have hcq:=ACR UG.o HAT.o (b:Int);generalize (wr.setCell ⟨H,k*8+2,none⟩ (AB AE b)).drew=wq at hoq hgq ⊢;generalize cr.set (k*8+2) (AB AE b)=cq at hoq hcq;have hrq:=J5.o.far hgq AG AG AG AG;have OH:=Lp.o.kept hgq (.inr Ow);have Wp:MapAt IY Gv wq vb (varsOf out):=UB.o.keeps (CU.grown hgq (fun x e=>by cases e;exact Lk Ln.o));have hkl:k < (out++p.froms.drop k).length:=(BF.1 HAT.o).1;have MD:((out++p.froms.drop k).set k {m with schema:=(b:Int)})[k]? =some {m with schema:=(b:Int)}:=Hg hkl;have hck:chunk cq 8 k=_:=hcq.chunk MD;have gq2:=BI OH hi AG Mj.o (j:=2) rfl;obtain ⟨LH,Yy,aT,Ua,rP,TX,Lh⟩:=LU hoq hcq hrq OH Wp MD hck;clear hoq hcq hrq OH Wp hgq hkl MD hck e1 e2 f2 g2 k1 k2 s2 lR' HF Ht J5 Lp Ln UG UB;go_wp2_with fail;have hnum:=dr (vb+1) w.heap.size (w.heap.size+1) vb R G (i*5) H vn vc wa.heap.size 8 H vn vc (k*8+3) 298 cq s (varsOf out) out m.Au wq aT.o.vv AG aT.o.rb AG aT.o.ub AG (fun _=>gq2) AG rP.o (oy Hb.o aT.o.gr hlo G8 AG)
     (fun v hv=>by
      obtain ⟨n',rfl,hn',f,hf,_⟩:=Tg out _ _ v hv;obtain ⟨a',sc,ha',hs'⟩:=Ii.o f (Cr hf);have hl:=HLEN.o;have AKv:((out++p.froms.drop k).set k {m with schema:=(b:Int)})[n']? =some f:=by rw [Jf AG,EB AG];exact hf
      have hcn:chunk cq 8 n'=_:=Yy.o.chunk AKv;refine ⟨n',a',f,sc,rfl,by omega,xu,hf,ha',hs',?_,.inr AG⟩;have:=BI LH.o (show n' < vn by omega) AG hcn (j:=2) rfl;rw [ha'] at this;exact this)
     LH.o (E9 Lh.o AG rfl) (E9 Lh.o AG (j:=4) rfl) (E9 Lh.o AG (j:=5) rfl) (E9 Lh.o AG (j:=6) rfl)
    refine hnum.mono ?_;clear hnum;rintro e w' ⟨hg',hr⟩;cases htp:Gz s (varsOf out) out m.Au with
    |
     none=>
     rw [htp] at hr;subst hr;have Co:AI (ES 160 5 CT base G n cap i cs lo M (Gr s p) w (CN Bu) w'):=by refine Dv ?_ (Oj aT.o.gr hg' AG);unfold Gr;rw [Ij.o];simp only;rw [FB (k:=k+1) Jm (FY Dl.o HM.o uW)]
     clear htp hg'
     go_wp2
     exact ⟨rfl,Co.o⟩
    |
     some t'=>
     rw [htp] at hr;obtain ⟨rfl,ho'⟩:=hr;have hr':=aT.o.far hg' AG AG AG AG;have bS:=Ua.o.kept hg' (.inr Ow);have hm':MapAt IY Gv w' vb (varsOf out):=rP.o.keeps (CU.grown hg' (fun x e=>by cases e;exact Lk LH.o));have hc':=ACQ Yy.o TX.o t' (Rn htp);rw [IL] at hc';have hat':((out++p.froms.drop k).set k {m with schema:=(b:Int),Au:=t'})[k]? =some {m with schema:=(b:Int),Au:=t'}:=Hg (BF.1 HAT.o).1;have X9:chunk _ 8 k=_:=hc'.chunk hat';have d0:=BI ho' hlt AG X9 (j:=0) rfl;simp only [Ee] at d0;have k3:=hr'.vv;obtain ⟨w3,hrun3,ER,hg3⟩:=FV (DQ underlying9) underlying268 (hm'.same (w':=w'.drew) rfl) m.name (k:Int);have hr3:=hr'.drew.far hg3 AG AG AG AG;have AH2:=bS.drew.kept hg3 (.inr Ow);have ho3:=ho'.drew.kept hg3 (.inr Ow);have HST:AI (QM s out m=some {m with schema:=(b:Int),Au:=t'}):=AF uW;obtain ⟨HC',HR3,ALU,Ja,Ht⟩:=Db hc' hr3 AH2 ho3 ER;clear hr' bS hm' hc' hat' X9 ho' hg' hg3 hr3 AH2 ho3 ER htp aT Ua LH rP Yy gq2 TX Lh;go_wp2_with fail
     go_still_tail 6,AJ
     change wpList _ _ _ _ _ w'.drew;go_wp2;go_roundg (vn - (k+1))
     case measure=>exact Bi
     refine ⟨k+1,out++[{m with schema:=(b:Int),Au:=t'}],(cq.set (k*8+3+2) (AB AE t'.var)).set (k*8+3+3) (AB AE t'.field),by omega,rfl,by go_num,Fx Dl.o HM.o HST.o,HR3.o,ALU.o,?_,?_,?_,?_⟩
     rotate_left 1
     · rw [<-set_drop HLEN.o HM.o];exact HC'.o
     · rw [rx,HLEN.o];exact Ht.o
     ·intro f hf
      rw [Ka,F5] at hf;rcases hf with hf | rfl
      · exact Ii.o f hf
      · exact ⟨b,xb,rfl,HXB.o⟩
     · have h3:=Ja.o;have:=Ll.o;rw [this] at h3 ⊢;exact h3
  have hke:k=p.froms.length:=by have:=Ll.o;omega
  have hcf:Ap 8 DU w cr out:=by rw [hke,Kc,FM] at hcr;exact hcr
  have ll:AI (GJ (QM s) p.froms=some out):=AF t9;obtain ⟨wz,rfl⟩:=Ad wr;have hol:out.length=vn:=by rw [Cw AG Dl.o];have:=Ll.o;omega
  have EL:wz.ownsRow wa.heap.size 298 8 (AA vA vn vc) vn cr:=by have:=Ll.o;rw [this] at Gw ⊢;exact Gw
  have kK:G < wz.heap.size:=Av VZ hrb.gr.size;have hvz:vb+1 < wz.heap.size:=by
   have:=hrb.vv;rcases FL (vb+1) wz.heap.size with h | h
   · exact h
   · simp [World.cell?,Array.getElem?_eq_none h] at this
  have g3:=BI hog hi AG Mj.o (j:=3) rfl;have fg3:=hog.frozenAt (i*5+3);have k2:=hrb.ub;obtain ⟨Yg,J5,Lp,Ln,rf,UB,HOL,HVZ⟩:=gy (show BV 11 120 Ea wz.drew (AA A2 n2 c2) p.C0 from ((fH.o.mono FZ (C8 hrb.gr hlo G8)).Ig dj).mono FZ (Af _ _).drew) hrb hog EL hcf hmp hol hvz;clear hrb hog Gw EL hcr hcf hmp Dl HQ hol hvz;go_upto_region 13 with fail;apply g9 (G:=fun xA xn xc w4=>∃eU,RB w R G (i*5) w.heap.size (w.heap.size+1) (vb+1) vb w4/\w4.ownsRow base 160 5 (AA (some ⟨G,0,none⟩) n cap) n (cb.set (i*5+3) (AA xA xn xc))/\w4.ownsRow wz.heap.size 281 11 (AA xA xn xc) p.C0.length eU/\Ap 11 Ea w eU p.C0/\xn=p.C0.length/\
   w4.ownsRow wa.heap.size 298 8 (AA vA vn vc) vn cr/\MapAt IY Gv w4 vb (varsOf out)/\wz.heap.size<=w4.heap.size)
  ·go_region_law (first
    | (
     refine RG DR 214 #[AA A2 n2 c2] (by go_simp) (mV A2 n2 c2 p.C0 _ Yg.o) ?_;rintro e w1 ⟨v,eU,rfl,hcs1,ho1,hb1⟩;refine ⟨_,rfl,?_⟩;obtain ⟨xA,xn,xc,rfl,hxn⟩:=Gg ho1;have q2:w1.cell? ⟨G,i*5+3,none⟩=some (AA A2 n2 c2):=((J4 hb1).1 _ _ kK).trans g3;have hf2:w1.frozen? ⟨G,i*5+3,none⟩=false:=((J4 hb1).2 _ _ kK).trans fg3;have ku1:=((J5.o.drew).below hb1).ub;obtain ⟨IG,Pa,HB1,TI⟩:=CD ho1 hcs1 hb1 hxn;clear ho1 hcs1 hb1 hxn))
   all_goals
    have hg2:w1.grownBy (w1.setCell ⟨G,i*5+3,none⟩ (AA xA xn xc)) (some G):=DB (Cu _ _) _ _;exact ⟨xA,xn,xc,rfl,eU,((J5.o.drew).below HB1.o).near hg2 AG AG AG,((Cs Lp.o.drew HB1.o).stored (i*5+3) (AA xA xn xc)).1,Hj IG.o (by simpa using kK) _,Pa.o,TI.o,(Cs Ln.o.drew HB1.o).kept hg2 (.inr (fun e=>by have:=(rZ.o _ e).1;omega)),
     ((UB.o.same (w':=wz.drew) rfl).below HB1.o).keeps (CU.put _ _ _),by have:=HB1.o.size;simp [World.setCell] at this ⊢;exact this⟩
  rintro xA xn xc w4 ⟨eU,hr4,PI,Sz,hc4,hxn,pj,hm4,hz4⟩;have hcc:chunk (cb.set (i*5+3) (AA xA xn xc)) 5 i=[AL p.head,AB AE a,AA vA vn vc,AA xA xn xc,AA A3 n3 c3]:=by rw [E8 _ AG,Mj.o];rfl
  have bQ:∀j,j≠i->chunk (cb.set (i*5+3) (AA xA xn xc)) 5 j=chunk cs 5 j:=fun j hj=>by rw [Fa _ AG hj];exact rI.o j hj
  generalize cb.set (i*5+3) (AA xA xn xc)=cc at PI hcc bQ;have g3':=BI PI hi AG hcc (j:=3) rfl;have ku4:=hr4.ub;have hzz:vb+1 < wz.heap.size:=HVZ.o;obtain ⟨HR4,Yo,Q8,Pa,TI,rJ,HM4,Dz,zR⟩:=P4 hr4 PI Sz hc4 hxn pj hm4 hcc bQ;clear hr4 PI Sz hc4 hxn pj hm4 hcc bQ J5 Lp Ln UB Mj rI g3 fg3 k2 Yg fH;go_wp2_with fail;clear g3' ku4;go_loopg [83] xn (fun q j wr=>∃(k:Nat) (ou:List Iv) (kf:List AN),k<=xn/\q=xn - k/\j=AB AE k/\EX (fun _=>QV s out) p.C0 k=some ou/\RB w R G (i*5) w.heap.size (w.heap.size+1) (vb+1) vb wr/\wr.ownsRow base 160 5 (AA (some ⟨G,0,none⟩) n cap) n cc/\
   wr.ownsRow wz.heap.size 281 11 (AA xA xn xc) p.C0.length kf/\Ap 11 Ea w kf (ou++p.C0.drop k)/\wr.ownsRow wa.heap.size 298 8 (AA vA vn vc) vn cr/\MapAt IY Gv wr vb (varsOf out))
  case atStart=>exact ⟨0,[],eU,Ay _,rfl,rfl,rfl,HR4.o,Yo.o,Q8.o,Pa.o,rJ.o,HM4.o⟩
  clear HR4 Yo Q8 Pa rJ HM4;obtain ⟨k',ou,kf,hk',hq',rfl,pg,hrb,hog,Gw,hcr2,hof,hmp⟩:=hrel;obtain ⟨HQ,Dl⟩:=Al hq' pg;clear hq' pg;by_cases hlt':k' < xn
  ·rcases Jl Gw with ⟨h,h0⟩ | ⟨H,hcap,h,hH,hHw,hn2⟩
   · exact SZ
   injection h with h1 h2 h3;subst h1 h3;clear h2;have AKN:xn<=9223372036854775807:=by have:=TI.o;omega
   obtain ⟨m,hm⟩:∃m,p.C0[k']? =some m:=⟨p.C0[k']' SP,BN _⟩;have hlen:=Cw SP Dl.o;have hat:(ou++p.C0.drop k')[k']? =some m:=by rw [Cj AG,EO,hlen];simpa using hm
   have hch:chunk kf 11 k'=_:=hcr2.chunk hat;have EL:wr.ownsRow wz.heap.size 281 11 (AA (some ⟨H,0,none⟩) xn xc) xn kf:=by have:=TI.o;rw [this] at Gw ⊢;exact Gw
   have g2:=BI hog hi AG Dz.o (j:=2) rfl;have g3:=BI hog hi AG Dz.o (j:=3) rfl;have k2:=hrb.ub;have hnF:∀r,(Value.slice vA vn vc).ownBlock=some r->r≠H:=fun r e=>by have:=(rZ.o r e).2;omega
   obtain ⟨JI,Yq,J5,Lp,Ln,UG,PW,UB,HM,HLEN,HAT⟩:=wK hnF (WH (ot:=k'*11+1) (t:=m.a) hrb g2 hof rf.o HOL.o Ii.o hmp Hb.o hlo G8 AG AG AG AG AG hnF EL (E9 hch AG (j:=1) rfl) (E9 hch AG (j:=2) rfl) (E9 hch AG (j:=3) rfl) (E9 hch AG (j:=4) rfl)) hrb hog EL hcr2 hof hmp hm hlen hat;clear hrb hog Gw EL hcr2 hof hmp hm hlen hat hch hnF;have hkn:(k':Int) < (xn:Int):=AG
   have hk0:(0:Int)<=(k':Int):=AG
   go_wp2_with fail;refine Yq.o.mono ?_;rintro e w' ⟨hg',hr⟩;have Kp:(Gz s (varsOf out) out m.a=none\/Gz s (varsOf out) out m.b=none)->Gr s p=none:=fun hh=>by
    unfold Gr;rw [Ij.o];simp only;rw [ll.o];simp only;rw [FB (k:=k'+1) SP (FY Dl.o HM.o (by
     unfold QV;rcases hh with hh | hh
     · rw [hh]
     · rw [hh];cases Gz s (varsOf out) out m.a <;> rfl))]
   have NY:=AF Kp;clear Kp Yq;cases htp:Gz s (varsOf out) out m.a with
   |
    none=>
    rw [htp] at hr;subst hr;have Co:AI (ES 160 5 CT base G n cap i cs lo M (Gr s p) w (CN Bu) w'):=AF (Dv (NY.o (.inl htp)) (Oj J5.o.gr hg' AG));clear htp hg'
    go_wp2
    exact ⟨rfl,Co.o⟩
   |
    some t'=>
    rw [htp] at hr;obtain ⟨rfl,ho'⟩:=hr;have hr':=J5.o.far hg' AG AG AG AG;have bS:=Lp.o.kept hg' (.inr Ow);have AEJ:=PW.o.kept hg' (.inr (fun e=>JI.o _ e rfl));have hm':MapAt IY Gv w' vb (varsOf out):=UB.o.keeps (CU.grown hg' (fun x e=>by cases e;exact Lk Ln.o));have hc':=ACk UG.o HAT.o t' (Rn htp);have hat':((ou++p.C0.drop k').set k' {m with a:=t'})[k']? =some {m with a:=t'}:=Hg (BF.1 HAT.o).1;have X9:chunk _ 11 k'=_:=hc'.chunk hat';have g2':=BI bS hi AG Dz.o (j:=2) rfl;have g3':=BI bS hi AG Dz.o (j:=3) rfl;have k2':=hr'.ub;obtain ⟨Q9,fI,HR',ALV,ALX,HM',HC',AL3,rN⟩:=P4 (WH (ot:=k'*11+6) (t:=m.b) hr' g2' AEJ rf.o HOL.o Ii.o hm' Hb.o hlo G8 AG AG AG AG AG JI.o ho' (E9 X9 AG (j:=6) rfl) (E9 X9 AG (j:=7) rfl) (E9 X9 AG (j:=8) rfl) (E9 X9 AG (j:=9) rfl)) htp hr' bS AEJ hm' hc' hat' ho';clear hr' bS AEJ hm' hc' hat' X9 htp ho' hg' g2 g3 k2 J5 Lp PW UB UG Ln;go_wp2_with fail;refine Q9.o.mono ?_;rintro e w'' ⟨hg'',hr⟩;clear Q9;cases htp:Gz s (varsOf out) out m.b with
    |
     none=>
     rw [htp] at hr;subst hr;have Co:AI (ES 160 5 CT base G n cap i cs lo M (Gr s p) w (CN Bu) w''):=AF (Dv (NY.o (.inr htp)) (Oj HR'.o.gr hg'' AG));clear htp hg''
     go_wp2
     exact ⟨rfl,Co.o⟩
    |
     some t''=>
     rw [htp] at hr;obtain ⟨rfl,AH7⟩:=hr;have hc'':=ACj HC'.o AL3.o t'' (Rn htp);rw [IL] at hc'';have HST:AI (QV s out m=some {m with a:=t',b:=t''}):=AF (by unfold QV;rw [fI.o,htp]);obtain ⟨ALv,ALb,zg⟩:=BB hc'' AH7 hg'';clear hc'' AH7 hg'' htp g2' g3' k2';go_wp2;go_roundg (xn - (k'+1))
     case measure=>exact Bi
     refine ⟨k'+1,ou++[{m with a:=t',b:=t''}],_,by omega,rfl,by go_num,Fx Dl.o HM.o HST.o,HR'.o.far zg.o AG AG AG AG,ALV.o.kept zg.o (.inr Ow),?_,by rw [<-set_drop HLEN.o HM.o];exact ALv.o,ALX.o.kept zg.o (.inr (fun e=>JI.o _ e rfl)),HM'.o.keeps (CU.grown zg.o (fun x e=>by cases e;exact Lk rN.o))⟩;have h3:=ALb.o;have:=TI.o;rw [this] at h3 ⊢;exact h3
  have bV:k'=p.C0.length:=by have:=TI.o;omega
  have hca:Ap 11 Ea w kf ou:=by rw [bV,Kc,FM] at hcr2;exact hcr2
  have HAO:AI (GJ (fun _=>QV s out) p.C0=some ou):=AF (by unfold GJ;rw [<-bV];exact Dl.o);obtain ⟨wy,rfl⟩:=Ad wr;have hal2:ou.length=xn:=by rw [Cw AG Dl.o];have:=TI.o;omega
  have hGy:G < wy.heap.size:=Av VZ hrb.gr.size;have hvy:vb+1 < wy.heap.size:=by
   have:=hrb.vv;rcases FL (vb+1) wy.heap.size with h | h
   · exact h
   · simp [World.cell?,Array.getElem?_eq_none h] at this
  have hxb:∀r,(Value.slice xA xn xc).ownBlock=some r->wz.heap.size<=r/\r < wy.heap.size:=fun r e=>Gw.lt r e;have g4:=BI hog hi AG Dz.o (j:=4) rfl;have fg4:=hog.frozenAt (i*5+4);have k2:=hrb.ub;obtain ⟨Yg,J5,Lp,Ln,HCA,PW,UB,HAL,HVY,HXB⟩:=dF (show BV 7 80 Gs wy.drew (AA A3 n3 c3) p.sets from ((T0.o.mono GK (C8 hrb.gr hlo G8)).Ig jn).mono GK (Af _ _).drew) hrb hog Gw hca hof hmp hal2 hvy hxb;clear hrb hog Gw hcr2 hca hof hmp Dl HQ hal2 hvy hxb;go_upto_region 20 with fail;apply g9 (G:=fun yA yn yc w4=>∃Nu,RB w R G (i*5) w.heap.size (w.heap.size+1) (vb+1) vb w4/\w4.ownsRow base 160 5 (AA (some ⟨G,0,none⟩) n cap) n (cc.set (i*5+4) (AA yA yn yc))/\w4.ownsRow wy.heap.size 284 7 (AA yA yn yc) p.sets.length Nu/\Ap 7 Gs w Nu p.sets/\yn=p.sets.length/\
   w4.ownsRow wa.heap.size 298 8 (AA vA vn vc) vn cr/\MapAt IY Gv w4 vb (varsOf out)/\w4.ownsRow wz.heap.size 281 11 (AA xA xn xc) p.C0.length kf/\wy.heap.size<=w4.heap.size)
  ·go_region_law (first
    | (
     refine RG DR 215 #[AA A3 n3 c3] (by go_simp) (qi A3 n3 c3 p.sets _ Yg.o) ?_;rintro e w1 ⟨v,Nu,rfl,hcs1,ho1,hb1⟩;refine ⟨_,rfl,?_⟩;obtain ⟨yA,yn,yc,rfl,hyn⟩:=Gg ho1;have q2:w1.cell? ⟨G,i*5+4,none⟩=some (AA A3 n3 c3):=((J4 hb1).1 _ _ hGy).trans g4;have hf2:w1.frozen? ⟨G,i*5+4,none⟩=false:=((J4 hb1).2 _ _ hGy).trans fg4;have ku1:=((J5.o.drew).below hb1).ub;obtain ⟨IG,Pa,HB1,qw⟩:=CD ho1 hcs1 hb1 hyn;clear ho1 hcs1 hb1 hyn))
   all_goals
    have hg2:w1.grownBy (w1.setCell ⟨G,i*5+4,none⟩ (AA yA yn yc)) (some G):=DB (Cu _ _) _ _;exact ⟨yA,yn,yc,rfl,Nu,((J5.o.drew).below HB1.o).near hg2 AG AG AG,((Cs Lp.o.drew HB1.o).stored (i*5+4) (AA yA yn yc)).1,Hj IG.o (by simpa using hGy) _,Pa.o,qw.o,(Cs PW.o.drew HB1.o).kept hg2 (.inr (fun e=>by have:=(rZ.o _ e).1;omega)),
     ((UB.o.same (w':=wy.drew) rfl).below HB1.o).keeps (CU.put _ _ _),(Cs Ln.o.drew HB1.o).kept hg2 (.inr (fun e=>by have:=(HXB.o _ e).1;omega)),by have:=HB1.o.size;simp [World.setCell] at this ⊢;exact this⟩
  rintro yA yn yc w4 ⟨Nu,hr4,PI,Sz,hc4,hyn,pj,hm4,AH6,hz4⟩;have hcd:chunk (cc.set (i*5+4) (AA yA yn yc)) 5 i=[AL p.head,AB AE a,AA vA vn vc,AA xA xn xc,AA yA yn yc]:=by rw [E8 _ AG,Dz.o];rfl
  have AEF:∀j,j≠i->chunk (cc.set (i*5+4) (AA yA yn yc)) 5 j=chunk cs 5 j:=fun j hj=>by rw [Fa _ AG hj];exact zR.o j hj
  generalize cc.set (i*5+4) (AA yA yn yc)=cd at PI hcd AEF;have g4':=BI PI hi AG hcd (j:=4) rfl;have ku4:=hr4.ub;have hyy:vb+1 < wy.heap.size:=HVY.o;obtain ⟨HR4,Yo,Q8,Pa,qw,rJ,HM4,AI8,rh,ALT⟩:=dF hr4 PI Sz hc4 hyn pj hm4 AH6 hcd AEF;clear hr4 PI Sz hc4 hyn pj hm4 AH6 hcd AEF J5 Lp Ln PW UB Dz zR g4 fg4 k2 Yg;go_wp2_with fail;clear g4' ku4;go_loopg [118] yn (fun q j wr=>∃(k:Nat) (ov:List Ma) (cr3:List AN),k<=yn/\q=yn - k/\j=AB AE k/\EX (fun _=>VG s xa out) p.sets k=some ov/\RB w R G (i*5) w.heap.size (w.heap.size+1) (vb+1) vb wr/\wr.ownsRow base 160 5 (AA (some ⟨G,0,none⟩) n cap) n cd/\
   wr.ownsRow wy.heap.size 284 7 (AA yA yn yc) p.sets.length cr3/\Ap 7 Gs w cr3 (ov++p.sets.drop k)/\wr.ownsRow wa.heap.size 298 8 (AA vA vn vc) vn cr/\MapAt IY Gv wr vb (varsOf out)/\wr.ownsRow wz.heap.size 281 11 (AA xA xn xc) p.C0.length kf)
  case atStart=>exact ⟨0,[],Nu,Ay _,rfl,rfl,rfl,HR4.o,Yo.o,Q8.o,Pa.o,rJ.o,HM4.o,AI8.o⟩
  clear HR4 Yo Q8 Pa rJ HM4 AI8;obtain ⟨k2,ov,cr3,hk2,hq2,rfl,X7,hrb,hog,Gw,hcr3,hof,hmp,hoa⟩:=hrel;obtain ⟨HQ,Dl⟩:=Al hq2 X7;clear hq2 X7;by_cases hlt2:k2 < yn
  ·rcases Jl Gw with ⟨h,h0⟩ | ⟨H,hcap,h,hH,hHw,hn2⟩
   · exact SZ
   injection h with h1 h2 h3;subst h1 h3;clear h2;have AMC:yn<=9223372036854775807:=by have:=qw.o;omega
   obtain ⟨m,hm⟩:∃m,p.sets[k2]? =some m:=⟨p.sets[k2]' gK,BN _⟩;have hlen:=Cw gK Dl.o;have hat:(ov++p.sets.drop k2)[k2]? =some m:=by rw [Cj AG,EO,hlen];simpa using hm
   have hch:chunk cr3 7 k2=_:=hcr3.chunk hat;have EL:wr.ownsRow wy.heap.size 284 7 (AA (some ⟨H,0,none⟩) yn yc) yn cr3:=by have:=qw.o;rw [this] at Gw ⊢;exact Gw
   have e0:=BI EL hlt2 AG hch (j:=0) rfl;simp only [Ee] at e0;have e1:=BI EL hlt2 AG hch (j:=1) rfl;have f1:=EL.frozenAt (k2*7+1);have g1:=BI hog hi AG rh.o (j:=1) rfl;have g4:=BI hog hi AG rh.o (j:=4) rfl;have kr:=hrb.rb;have ku:=hrb.ub;obtain ⟨b1',b2',b3',Tv,fl,Q0,Ia,_,_,_,Kw⟩:=(Hb.o.below (C8 hrb.gr hlo G8)).Ig;have s3:=Ia.cell 3;have lR':=Ia.lt;simp only [Aj,Ao,BA] at s3;have AEj:a < fl:=by have:=Kw.len;rw [this,CY];exact (BF.1 fG.o).1
   have AIJ:fl<=9223372036854775807:=by have:=Kw.le;omega
   obtain ⟨fb,qR,fm,fg,rfl,hfb,hfm,hfc,Mf⟩:=VU Kw AEj;have hfx:fm=fieldMap xa:=by rw [Bg,fG.o,C6,Bz] at hfm;exact hfm.symm
   subst hfx;have hget:=Ie (fieldNames xa) m.path;have XI:=AF (Mf.same (w':=wr.drew) rfl);have hnF:∀r,(Value.slice vA vn vc).ownBlock=some r->r≠H:=fun r e=>by have:=(rZ.o r e).2;omega
   have hnA:∀r,(Value.slice xA xn xc).ownBlock=some r->r≠H:=fun r e=>by have:=(HXB.o r e).2;omega
   obtain ⟨JI,HNA,J5,Lp,Ln,UG,PW,UB,T9,HM,HLEN,HAT⟩:=QX hnF hnA hrb hog EL hcr3 hof hmp hoa hm hlen hat;clear hrb hog Gw EL hcr3 hof hmp hoa hm hlen hat hch hnF hnA Kw hfm Mf Ia;have hkn:(k2:Int) < (yn:Int):=AG
   have hk0:(0:Int)<=(k2:Int):=AG
   have ha0:(0:Int)<=(a:Int):=AG
   have han:(a:Int) < (fl:Int):=AG
   have Kp:(idx (fieldNames xa) m.path=none\/Gz s (varsOf out) out m.term=none)->Gr s p=none:=fun hh=>by
    unfold Gr;rw [Ij.o];simp only;rw [ll.o];simp only;rw [HAO.o];simp only;rw [fG.o];simp only;rw [FB (k:=k2+1) gK (FY Dl.o HM.o (by
     unfold VG;rcases hh with hh | hh
     · rw [hh]
     · rw [hh];cases idx (fieldNames xa) m.path <;> rfl))]
   have NY:=AF Kp;clear Kp;go_upto_region 24 with fail;cases hix:idx (fieldNames xa) m.path with
   |
    none=>
    rw [hix] at hget;have Co:AI (ES 160 5 CT base G n cap i cs lo M (Gr s p) w (CN Bu) wr.drew):=AF (Dv (NY.o (.inl hix)) (grown_drew J5.o.gr));have HF:=AF ((Hm fg _ _ wr.drew XI.o hget).mono (R':=fun e w'=>e=CN Bu/\w'=wr.drew) Fl);clear hix hget;refine Du 23 [0,1,2,3,4,5,6,7,8,9,10,11,12,13,14,15,16,17,18,19,20,21,22] (fun l=>l.take 23) AJ rfl AJ (fun d u c a h=>by cases d <;> exact h) ?_;simp only [Ff,Fe]
    repeat still_step
    refine Fc ?_;refine ⟨_,209,#[.map (some fg),AL m.path],Bu,rfl,rfl,?_,HF.o,rfl,Co.o⟩;go_simp
   |
    some f=>
    rw [hix] at hget;obtain ⟨HF,HIF⟩:=Al ((Ft fg _ _ (f:Int) wr.drew XI.o hget).mono (R':=fun e w'=>e=AW (AB AE f)/\w'=wr.drew) Fl) hix;clear hix hget;refine wp_region_still_tail 26 AJ AJ ?_;simp only [Ff,Fe,Je,IK]
    repeat still_step
    still_call HF.o
    repeat still_step
    refine Fc ?_;change wpList _ _ _ _ _ wr.drew;go_upto_region 25 with fail;have hoq:=(Ln.o.stored (k2*7+1) (AB AE f)).1.drew;have hgq:wr.grownBy (wr.setCell ⟨H,k2*7+1,none⟩ (AB AE f)).drew (some H):=grown_drew (DB (Cu _ _) _ _);have hcq:=ADB UG.o HAT.o (f:Int);generalize (wr.setCell ⟨H,k2*7+1,none⟩ (AB AE f)).drew=wq at hoq hgq ⊢;generalize cr3.set (k2*7+1) (AB AE f)=cq at hoq hcq;have hrq:=J5.o.far hgq AG AG AG AG;have OH:=Lp.o.kept hgq (.inr Ow);have AEG:=PW.o.kept hgq (.inr (fun e=>JI.o _ e rfl));have AH5:=T9.o.kept hgq (.inr (fun e=>HNA.o _ e rfl));have Wp:MapAt IY Gv wq vb (varsOf out):=UB.o.keeps (CU.grown hgq (fun x e=>by cases e;exact Lk Ln.o));have MD:((ov++p.sets.drop k2).set k2 {m with field:=(f:Int)})[k2]? =some {m with field:=(f:Int)}:=Hg (BF.1 HAT.o).1;have hck:chunk cq 7 k2=_:=hcq.chunk MD;have gq2:=BI OH hi AG rh.o (j:=2) rfl;have gq4:=BI OH hi AG rh.o (j:=4) rfl;have kuq:=hrq.ub;obtain ⟨Yq,LH,Yy,aT,Ua,ALW,ALZ,rP,TX⟩:=P4 (WH (ot:=k2*7+2) (t:=m.term) hrq gq2 AEG rf.o HOL.o Ii.o Wp Hb.o hlo G8 AG AG AG AG AG JI.o hoq (E9 hck AG (j:=2) rfl) (E9 hck AG (j:=3) rfl) (E9 hck AG (j:=4) rfl) (E9 hck AG (j:=5) rfl)) hoq hcq hrq OH AEG AH5 Wp MD;clear hoq hcq hrq OH AEG AH5 Wp hgq MD hck e0 e1 f1 g1 g4 kr ku s3 lR' HF XI J5 Lp Ln UG UB PW T9 gq2 hfc;go_wp2_with fail;refine Yq.o.mono ?_;rintro e w' ⟨hg',hr⟩;clear Yq;cases htp:Gz s (varsOf out) out m.term with
    |
     none=>
     rw [htp] at hr;subst hr;have Co:AI (ES 160 5 CT base G n cap i cs lo M (Gr s p) w (CN Bu) w'):=AF (Dv (NY.o (.inr htp)) (Oj aT.o.gr hg' AG));clear htp hg'
     go_wp2
     exact ⟨rfl,Co.o⟩
    |
     some t'=>
     rw [htp] at hr;obtain ⟨rfl,ho'⟩:=hr;have hc':=ADA Yy.o TX.o t' (Rn htp);rw [IL] at hc';have HST:AI (VG s xa out m=some {m with field:=(f:Int),term:=t'}):=AF (by unfold VG;rw [HIF.o,htp]);obtain ⟨HC',rN,HG'⟩:=BB hc' ho' hg';clear hc' ho' hg' htp gq4 kuq;go_wp2;go_roundg (yn - (k2+1))
     case measure=>exact Bi
     refine ⟨k2+1,ov++[{m with field:=(f:Int),term:=t'}],_,by omega,rfl,by go_num,Fx Dl.o HM.o HST.o,aT.o.far HG'.o AG AG AG AG,Ua.o.kept HG'.o (.inr Ow),?_,by rw [<-set_drop HLEN.o HM.o];exact HC'.o,ALW.o.kept HG'.o (.inr (fun e=>JI.o _ e rfl)),rP.o.keeps (CU.grown HG'.o (fun x e=>by cases e;exact Lk LH.o)),ALZ.o.kept HG'.o (.inr (fun e=>HNA.o _ e rfl))⟩;have h3:=rN.o;have:=qw.o;rw [this] at h3 ⊢;exact h3
  have hke2:k2=p.sets.length:=by have:=qw.o;omega
  go_wp2_with fail
  go_end0
  have hP:Gr s p=some {p with schema:=(a:Int),froms:=out,C0:=ou,sets:=ov}:=by unfold Gr;rw [Ij.o];simp only;rw [ll.o];simp only;rw [HAO.o];simp only;rw [fG.o];simp only;unfold GJ;rw [<-hke2,Dl.o]
  have hs3:=LD.o;refine Qb hP hrb.gr hog ALT.o ⟨vA,vn,vc,xA,xn,xc,yA,yn,yc,rh.o,⟨B9 (L1 hof AG) ⟨rf.o.1,rf.o.2⟩ HOL.o.symm,?_⟩,⟨B9 (L1 hoa AG) ⟨HCA.o.1,HCA.o.2⟩ (by rw [HAL.o,TI.o]),?_⟩,⟨B9 (L1 Gw AG) ?_ (by rw [Cw AG Dl.o,hke2]),?_⟩⟩
  · have:=lj.o.2;rw [HOL.o,Ll.o];exact this
  · have:=CW.o;rw [HAL.o,TI.o];exact this
  ·rw [hke2,Kc,FM] at hcr3
   exact ⟨hcr3.1,hcr3.2⟩
  · have:=T0.o.2;rw [Cw AG Dl.o,hke2];exact this
section
variable {P:BE} {ops:Array Oper} {md:Region.Mode} {w:AH} {Q:Exit->Act->AH->Prop}
def V5 (md:Region.Mode) (ops:Array Oper) (n:Nat) (E:List Nat):Bool:=
 (List.range n).all fun i=>E.contains i || (List.range (n+1)).any fun j=>decide (i < j) && !E.contains j && Region.waitsFor md ops j i
def Ve (md:Region.Mode) (ops:Array Oper) (n:Nat):Bool:=(List.range ops.size).all fun t=>decide (t<=n) || Region.waitsFor md ops t (t - 1)
structure Ty (md:Region.Mode) (ops:Array Oper) (n:Nat) (E:List Nat) (listed:Array Bool):Prop where
 size:listed.size=ops.size
 closed:∀(j:Nat) (oj:Oper),ops[j]? =some oj->listed.getD j false=true->∀e∈oj.after,Region.binds md e=true->listed.getD e.on false=true
 tail:∀t,n<=t->t < ops.size->listed.getD t true=false
 float:∀i∈E,listed.getD i false=true
theorem Ty.set {n i:Nat} {E:List Nat} {listed:Array Bool} (inv:Ty md ops n E listed) (hi:i∈Region.ready md ops listed) (hin:i < n):Ty md ops n E (listed.setIfInBounds i true):=by
 obtain ⟨_,oi,hoi,hall⟩:=Jb.1 hi;refine ⟨by simp [inv.size],fun j oj hj hl e he hb=> ?_,fun t ht ht'=>by rw [Rw true AG];exact inv.tail t ht ht',fun k hk=>getD_set_true (inv.float k hk)⟩;by_cases hij:i=j
 ·subst hij
  have:oj=oi:=DE (hj.symm.trans hoi);subst this;exact getD_set_true (hall e he hb)
 rw [Rw false hij] at hl;exact getD_set_true (inv.closed j oj hj hl e he hb)
theorem ACO {n:Nat} {E:List Nat} {listed:Array Bool} (hs:V5 md ops n E=true) (inv:Ty md ops n E listed) (hr:n∈Region.ready md ops listed):∀d i,i+d=n->i < n->listed.getD i false=true:=by
 obtain ⟨_,on,hon,hall⟩:=Jb.1 hr;intro d
 induction d using Nat.strongRecOn with
 |
  _ d ih=>
  intro i hid hin;unfold V5 at hs;have h1:=DM.1 hs i (Eu.2 hin);rw [Y6] at h1;rcases h1 with h1 | h1
  · exact inv.float i (by simpa using h1)
  obtain ⟨j,hj,hjw⟩:=List.any_eq_true.1 h1;simp only [Bb,By] at hjw;obtain ⟨⟨hij,_⟩,hw⟩:=hjw;obtain ⟨oj,hoj,e,he,hb,heq⟩:=Region.waitsFor_spec hw;have hjn:j<=n:=by have:=Eu.1 hj;omega
  rcases FL j n with hlt | hge
  ·have:=ih (n - j) AG j AG hlt
   rw [<-heq];exact inv.closed j oj hoj this e he hb
  have hj2:j=n:=AG
  subst hj2;have:oj=on:=DE (hoj.symm.trans hon);subst this;rw [<-heq];exact hall e he hb
theorem jg {n i:Nat} {E:List Nat} {listed:Array Bool} (hs:V5 md ops n E=true) (hc:Ve md ops n=true) (inv:Ty md ops n E listed) (hin:i < n) (hun:listed.getD i true=false) {j:Nat} (hj:j∈Region.ready md ops listed):j < n:=by
 rcases FL j n with h | h
 · exact h
 exfalso;obtain ⟨hjun,oj,hoj,hall⟩:=Jb.1 hj;rcases Nat.eq_or_lt_of_le h with e | hlt
 ·subst e
  have:=ACO hs inv hj (n - i) i AG hin;rw [getD_both hun] at this;cases this
 have hjs:j < ops.size:=(DF.1 hoj).1;unfold Ve at hc;have h1:=DM.1 hc j (Eu.2 hjs);rw [Y6,By] at h1;rcases h1 with h1 | h1
 · omega
 obtain ⟨o',ho',e,he,hb,heq⟩:=Region.waitsFor_spec h1;have:o'=oj:=DE (ho'.symm.trans hoj);subst this;have h2:=hall e he hb;rw [heq,getD_both (inv.tail (j - 1) AG AG)] at h2;cases h2
theorem oC {n i:Nat} {E:List Nat} {oi:Oper} {v:AN} {L:Array Bool->Act->Prop} (hi:ops[i]? =some oi) (hsel:∀(j:Nat) (o:Oper) cs b,ops[j]? =some o->o.op≠.select cs b)
 (hs:V5 md ops n E=true) (hc:Ve md ops n=true) (hin:i < n) (hdone:∀listed a,L listed a->∀j∈Region.ready md ops listed,n<=j):
 ∀(f:Nat) (listed:Array Bool) (a:Act),Ty md ops n E listed->
  (∀j oj,ops[j]? =some oj->j≠i->listed.getD j true=false->(∀e∈oj.after,Region.binds md e=true->e.on≠i)->oi.apart ops oj=true)->
  i∈Region.ready md ops listed->YieldsAt P ops w oi v a->
  wpAnyL P md ops w n L f (listed.setIfInBounds i true) (a.put oi.dst v)->wpAnyL P md ops w n L (f+1) listed a:=by
 intro f
 induction f with
 |
  zero=>
  intro listed a inv _ hr hy H;have hun:=(Jb.1 hr).1;refine ⟨fun h=>Qk,fun j hj=> ?_⟩;have hjn:=jg hs hc inv hin hun hj;refine ⟨hjn,?_⟩;by_cases hji:j=i
  · subst hji;exact hy.stOp hi H
  ·have:=hdone _ _ H j (KU hj hji)
   omega
 |
  succ f ih=>
  intro listed a inv hfree hr hy H;have hun:=(Jb.1 hr).1;refine ⟨fun h=>Qk,fun j hj=> ?_⟩;have hjn:=jg hs hc inv hin hun hj;refine ⟨hjn,?_⟩;by_cases hji:j=i
  · subst hji;exact hy.stOp hi H
  have h1:=(H.2 j (KU hj hji)).2;obtain ⟨hjun,oj,hoj,hall⟩:=Jb.1 hj;have hnot:∀e∈oj.after,Region.binds md e=true->e.on≠i:=fun e he hb heq=>by have h2:=hall e he hb;rw [heq,getD_both hun] at h2;cases h2
  have hs2:=stOp_put hoj (hfree j oj hoj hji hjun hnot) (fun cs b=>hsel i oi cs b hi) (fun cs b=>hsel j oj cs b hoj) hy h1;refine stOp_mono (fun a' h3=>ih (listed.setIfInBounds j true) a' (inv.set hj hjn) (fun k ok hk hki hun' hno=> ?_) (KU hr (Ne.symm hji)) h3.1 ?_) hs2
  ·refine hfree k ok hk hki ?_ hno
   by_cases hjk:j=k
   · subst hjk;exact hjun
   · rw [Rw true hjk] at hun';exact hun'
  rw [ZQ _ _ hji];exact h3.2
def YH (md:Region.Mode) (ops:Array Oper) (g n:Nat):List Nat->Array Bool->Bool
 | [],listed=>Region.seqB md ops g n listed
 | k::ks,listed=>(Region.ready md ops listed).contains k && Region.free md ops listed k && decide (k < n) && YH md ops g n ks (listed.setIfInBounds k true)
theorem dI {n g:Nat} {E:List Nat} {Lq:Act->Prop} (hsel:Region.noSelect ops=true) (hs:V5 md ops n E=true) (hc:Ve md ops n=true):
 ∀(l:List Oper) (ks:List Nat) (listed:Array Bool) (a:Act),ks.map (fun k=>ops[k]?)=l.map some->Ty md ops n E listed->YH md ops g n ks listed=true->wpStill P ops w Lq l a->
 wpAnyL P md ops w n (fun listed' a'=>Region.seqB md ops g n listed'=true/\Lq a') l.length listed a
 | [],[],listed,a,_,_,hB,h=>⟨hB,h⟩
 | [],_::_,_,_,hm,_,_,_=>by simp at hm
 | _::_,[],_,_,hm,_,_,_=>by simp at hm
 |
  o::l,k::ks,listed,a,hm,inv,hB,h=>by
  simp only [Fz,Rx] at hm;simp only [YH,Bb,By] at hB;obtain ⟨⟨⟨hr,hf⟩,hkn⟩,hB'⟩:=hB;have hr':k∈Region.ready md ops listed:=by simpa using hr
  have hst:stOp P ops w k (wpStill P ops w Lq l) a:=by unfold stOp;simp only [hm.1];exact h
  obtain ⟨v,hy,hK⟩:=yieldsAt_of_stOp hm.1 hst;exact oC hm.1 (ZM hsel) hs hc hkn (fun listed' a' hL=>seqB_ready hL.1) l.length listed a inv (ZD hm.1 hf) hr' hy
   (dI hsel hs hc l ks _ _ hm.2 (inv.set hr' hkn) hB' hK)
theorem ru {n:Nat} {E:List Nat} {a:Act} {w:AH} {hd tl:List Oper} {listed:Array Bool} {fuel:Nat} (ks:List Nat) (hk:ks.map (fun k=>ops[k]?)=hd.map some) (htl:∀j,tl[j]? =ops[n+j]?)
 (hB:(Region.noSelect ops && V5 md ops n E && Ve md ops n && YH md ops tl.length n ks listed)=true) (inv:Ty md ops n E listed) (hf:fuel=ks.length+tl.length)
 (h:wpStill P ops w (fun a'=>wpList P ops Q tl a' w) hd a):wpAny P md ops Q fuel listed a w:=by
 simp only [Bb] at hB;obtain ⟨⟨⟨hsel,hs⟩,hc⟩,hlex⟩:=hB;have H:=dI (g:=tl.length) hsel hs hc hd ks listed a hk inv hlex h;have hl:hd.length=ks.length:=by have:=congrArg List.length hk;simpa using this.symm
 have:=wpAny_of_head (Q':=Q) (g:=tl.length) (fun listed' a' hL=>wpAny_of_seq (Q':=Q) tl n listed' a' w htl hL.1 hL.2) _ _ _ H;rw [hf,<-hl];exact this
theorem Ta {id:Nat} {a:Act} {w:AH} {l:List Oper} (n i:Nat) (oi:Oper) (v:AN) (ks:List Nat) (pick:List Oper->List Oper) (hm:P.follows .mixedOrders=true) (hi:l.toArray[i]? =some oi) (hin:i < n) (hnl:n<=l.length) (hks:ks.length+1=n)
 (haf:oi.after.all (fun e=> !Region.binds .any e)=true) (hsel:Region.noSelect l.toArray=true) (hfr:Region.free .any l.toArray (Array.replicate l.toArray.size false) i=true) (hrd:(Region.ready .any l.toArray (Array.replicate l.toArray.size false)).contains i=true)
 (hQ:∀c a w,Q (.panic c) (a.put oi.dst v) w->Q (.panic c) a w) (hy:Yields P l.toArray oi v a) (hk:ks.map (fun k=>l.toArray[k]?)=(pick l).map some)
 (hB:(Region.noSelect l.toArray && V5 .any l.toArray n [i] && Ve .any l.toArray n && YH .any l.toArray (l.length - n) n ks ((Array.replicate l.toArray.size false).setIfInBounds i true))=true)
 (h:wpStill P l.toArray w.drew (fun a'=>wpList P l.toArray Q (l.drop n) a' w.drew) (pick l) (a.put oi.dst v)):(Code.region id l.toArray true).wp P Q a w:=by
 refine wp_region_any hm ?_;have hil:i < l.length:=AG
 have hsz:l.toArray.size=(l.length - 1)+1:=by simp;omega
 have hmain:wpAny P .any l.toArray Q (l.length - 1) ((Array.replicate l.toArray.size false).setIfInBounds i true) (a.put oi.dst v) w.drew:=by
  refine ru (n:=n) (E:=[i]) (tl:=l.drop n) ks hk (fun j=>by simp [List.getElem?_drop]) (by rw [IQ];exact hB) ⟨by simp,?_,?_,?_⟩ U5 h
  ·intro j oj hj hl e he hb
   by_cases hij:i=j
   ·subst hij
    have:oj=oi:=DE (hj.symm.trans hi);subst this;have:=Array.all_eq_true'.1 haf e he;rw [hb] at this;cases this
   rw [Rw false hij,getD_replicate_false] at hl;cases hl
  ·intro t ht hts
   rw [Rw true AG];exact getD_in (by simpa using hts) (getD_replicate_false _ _)
  intro k hk;rw [F5] at hk;subst hk;simp [Array.getD_eq_getD_getElem?,hil]
 have:=wpAny_take (md:=.any) (fuel:=l.length - 1) (w:=w.drew) hi hsel hfr hrd hQ hy hmain;rw [<-hsz] at this;exact this
end
def Sr (xa xb:BM) (m:LL):Option LL:=
 match idx (fieldNames xa) m.from_,idx (fieldNames xb) m.DS with
 | some a,some b=>some {m with a:=(a:Int),b:=(b:Int)}
 | _,_=>none
def FD (s:BG) (c:DH):Option DH:=
 match idx (CM s) c.from_,idx (CM s) c.DS with
 |
  some a,some b=>match s.Aq[a]?,s.Aq[b]? with
  | some xa,some xb=>(GJ (fun _=>Sr xa xb) c.moves).map (fun l=>{c with a:=(a:Int),b:=(b:Int),moves:=l})
  | _,_=>none
 | _,_=>none
theorem ADk {w:AH} {cs:List AN} {l:List LL} {k:Nat} {u:LL} (h:Ap 5 Gf w cs l) (hk:l[k]? =some u) (x y:Int):Ap 5 Gf w ((cs.set (k*5+3) (AB AE x)).set (k*5+2) (AB AE y)) (l.set k {u with a:=x,b:=y}):=by
 have hkl:=(BF.1 hk).1;have h1:Ap 5 Gf w (cs.set (k*5+3) (AB AE x)) (l.set k {u with a:=x}):=h.put AG hkl uQ
 have h2:=h1.put (i:=k) (j:=2) (x':={u with a:=x,b:=y}) (u:=AB AE y) AG SE uj
 rwa [IL] at h2
theorem Zu (R lo M base G n cap i:Nat) (cs:List AN) (s:BG) (p:DH) (w:AH) (hres:KJ (mask lo M w) R s) (hlo:lo<=G) (G8:G < M) (vZ:M<=w.heap.size)
 (ho:w.ownsRow base 163 5 (AA (some ⟨G,0,none⟩) n cap) n cs) (hi:i < n) (hp:CF (mask lo M w) (chunk cs 5 i) p):
 AS prog 162 #[AU (some ⟨R,0,none⟩),AU (some ⟨G,i*5,none⟩)] w (ES 163 5 CF base G n cap i cs lo M (FD s p) w):=by
 obtain ⟨A1,n1,c1,hch,hmay⟩:=hp;have p0:=BI ho hi AG hch (j:=0) rfl;simp only [Ee] at p0;have p1:=BI ho hi AG hch (j:=1) rfl;have p2:=BI ho hi AG hch (j:=2) rfl;have p3:=BI ho hi AG hch (j:=3) rfl;have p4:=BI ho hi AG hch (j:=4) rfl;have f2:=ho.frozenAt (i*5+2);have f3:=ho.frozenAt (i*5+3);have VZ:G < w.heap.size:=AG
 obtain ⟨b1,b2,b3,fA,fn,fc,hbR,hm1,hm2,ER,hfs⟩:=hres.Ig;have r2:=hbR.cell 2;have lR:=hbR.lt;simp only [Aj,Ao,BA] at r2;have NT:=Ie (CM s) p.from_;have MC:=Ie (CM s) p.DS;obtain ⟨Hb,HO,RD,zV,Ht⟩:=Db hres ho hch hmay (ER.same (w':=w.drew) rfl);clear hres ho hch hmay hbR hm1 hm2 ER hfs;go_enter func162,ntmps162;go_wp2_with fail;cases hix1:idx (CM s) p.from_ with
 |
  none=>
  rw [hix1] at NT;have Co:AI (ES 163 5 CF base G n cap i cs lo M (FD s p) w (CN Bu) w.drew):=
   Dv (by unfold FD;rw [hix1]) (grown_drew (Cu _ _))
  have HF:=AF ((Hm b3 _ _ w.drew Ht.o NT).mono (R':=fun e w'=>e=CN Bu/\w'=w.drew) Fl);clear hix1 NT MC;refine Du 10 [0,1,2,3,4,5,6,7,8,9,11,12,13,14,15,16,17,18] (fun l=>l.take 10++(l.drop 11).take 8) AJ rfl AJ (fun d u c a h=>by cases d <;> exact h) ?_;simp only [Ff,Fe,Je,IK,MU,IJ]
  repeat still_step
  refine Fc ?_;refine ⟨_,209,#[.map (some b3),AL p.from_],Bu,rfl,rfl,?_,HF.o,rfl,Co.o⟩;go_simp
 |
  some a=>
  rw [hix1] at NT;obtain ⟨Vt,za⟩:=Al ((Ft b3 _ _ (a:Int) w.drew Ht.o NT).mono (R':=fun e w'=>e=AW (AB AE a)/\w'=w.drew) Fl) hix1;have hal:=X6 hix1;clear hix1 NT;cases hix2:idx (CM s) p.DS with
  |
   none=>
   rw [hix2] at MC;have Co:AI (ES 163 5 CF base G n cap i cs lo M (FD s p) w (CN Bu) w.drew):=
    Dv (by unfold FD;rw [za.o,hix2]) (grown_drew (Cu _ _))
   have HF:=AF ((Hm b3 _ _ w.drew Ht.o MC).mono (R':=fun e w'=>e=CN Bu/\w'=w.drew) Fl);clear hix2 MC;refine Du 19 [0,1,2,3,4,5,6,7,8,9,10,11,12,13,14,15,16,17,18] (fun l=>l.take 19) AJ rfl AJ (fun d u c a h=>by cases d <;> exact h) ?_;simp only [Ff,Fe]
   repeat still_step
   still_call Vt.o
   repeat still_step
   refine Fc ?_;refine ⟨_,209,#[.map (some b3),AL p.DS],Bu,rfl,rfl,?_,HF.o,rfl,Co.o⟩;go_simp
  |
   some b=>
   rw [hix2] at MC;obtain ⟨HF2,jP⟩:=Al ((Ft b3 _ _ (b:Int) w.drew Ht.o MC).mono (R':=fun e w'=>e=AW (AB AE b)/\w'=w.drew) Fl) hix2;have hbl:=X6 hix2;clear hix2 MC;refine Ta 22 1 _ (AU (some ⟨G,i*5,none⟩)) [0,2,3,4,5,6,7,8,9,10,11,12,13,14,15,16,17,18,19,20,21] (fun l=>l.take 1++(l.drop 2).take 20) AJ rfl AG Ai rfl AJ AJ AJ AJ (fun _ _ _ h=>h) (.inl ⟨rfl,fun _=>rfl⟩) rfl AJ ?_;simp only [Ff,Fe,Je,IK,MU,IJ]
   repeat still_step
   still_call Vt.o
   repeat still_step
   still_call HF2.o
   repeat still_step
   refine Fc ?_;change wpList _ _ _ _ _ w.drew;go_wp2_with fail;have ho1:=HO.o.stored (i*5+2) (AB AE a);have ho2:=(ho1.1.stored (i*5+3) (AB AE b)).1.drew;have hga:w.grownBy ((w.setCell ⟨G,i*5+2,none⟩ (AB AE a)).setCell ⟨G,i*5+3,none⟩ (AB AE b)).drew (some G):=grown_drew (DB (DB (Cu _ _) _ _) _ _);have PH:((w.setCell ⟨G,i*5+2,none⟩ (AB AE a)).setCell ⟨G,i*5+3,none⟩ (AB AE b)).drew.heap.size=w.heap.size:=by simp [World.setCell]
   have QJ:chunk ((cs.set (i*5+2) (AB AE a)).set (i*5+3) (AB AE b)) 5 i=[AL p.from_,AL p.DS,AB AE a,AB AE b,AA A1 n1 c1]:=by rw [E8 _ AG,E8 _ AG,RD.o];rfl
   have hoth:∀j,j≠i->chunk ((cs.set (i*5+2) (AB AE a)).set (i*5+3) (AB AE b)) 5 j=chunk cs 5 j:=fun j hj=>by rw [Fa _ AG hj,Fa _ AG hj]
   generalize ((w.setCell ⟨G,i*5+2,none⟩ (AB AE a)).setCell ⟨G,i*5+3,none⟩ (AB AE b)).drew=wa at ho2 hga PH ⊢;generalize (cs.set (i*5+2) (AB AE a)).set (i*5+3) (AB AE b)=ca at ho2 QJ hoth
   have q2:=BI ho2 hi AG QJ (j:=2) rfl;have hmw:=(zV.o.mono GH (C8 hga hlo G8)).Ig dh;obtain ⟨xa,hxa⟩:∃x,s.Aq[a]? =some x:=⟨s.Aq[a]'(by simpa [CM] using hal),BN _⟩;obtain ⟨xb,hxb⟩:∃x,s.Aq[b]? =some x:=⟨s.Aq[b]'(by simpa [CM] using hbl),BN _⟩;obtain ⟨fG,HXB,T9,Hu,Ud,cP,Cd,HBD⟩:=gy hxa hxb ho2 hga QJ hoth PH zV.o.2;have Qy:G < wa.heap.size:=by rw [PH];exact VZ
   clear ho1 ho2 hga QJ hoth PH hxa hxb p0 p1 p2 p3 p4 f2 f3 r2 lR q2 Vt HF2 Ht;refine (mT A1 n1 c1 p.moves _ hmw).mono ?_;rintro e w1 ⟨v,cs1,rfl,hcs1,ho1,hb1⟩;obtain ⟨vA,vn,vc,rfl⟩:∃A m c,v=AA A m c:=by
    exact AAD
   have p4:=BI T9.o hi AG Ud.o (j:=4) rfl;have q1:w1.cell? ⟨G,i*5+4,none⟩=some (AA A1 n1 c1):=((J4 hb1).1 _ _ Qy).trans p4;have hf1:w1.frozen? ⟨G,i*5+4,none⟩=false:=((J4 hb1).2 _ _ Qy).trans (T9.o.frozenAt _);have hG1:G < w1.heap.size:=Av Qy hb1.size;obtain ⟨IG,J7,HB1⟩:=BB ho1 hcs1 hb1;clear ho1 hcs1 hb1 p4 hmw;go_wp2_with fail;have ho2:(w1.setCell ⟨G,i*5+4,none⟩ (AA vA vn vc)).ownsRow base 163 5 (AA (some ⟨G,0,none⟩) n cap) n (ca.set (i*5+4) (AA vA vn vc)):=((Cs T9.o HB1.o).stored (i*5+4) (AA vA vn vc)).1;have hi2:(w1.setCell ⟨G,i*5+4,none⟩ (AA vA vn vc)).ownsRow wa.heap.size 294 5 (AA vA vn vc) p.moves.length cs1:=Hj IG.o ZW _;have hg2:w.grownBy (w1.setCell ⟨G,i*5+4,none⟩ (AA vA vn vc)) (some G):=DB (Ex Hu.o (Ey HB1.o _)) _ _;generalize w1.setCell ⟨G,i*5+4,none⟩ (AA vA vn vc)=w2 at ho2 hi2 hg2 ⊢;have hvn:vn=p.moves.length:=by
    exact AAB
   obtain ⟨Jz,HI2,HG2,Ll⟩:=CD ho2 hi2 hg2 hvn;clear ho2 hi2 hg2 hvn q1 hf1 hG1 IG HB1;go_loopg [43] vn (fun q j wr=>∃(k:Nat) (out:List LL) (cr:List AN),k<=vn/\q=vn - k/\j=AB AE k/\EX (fun _=>Sr xa xb) p.moves k=some out/\w.grownBy wr (some G)/\wr.ownsRow base 163 5 (AA (some ⟨G,0,none⟩) n cap) n (ca.set (i*5+4) (AA vA vn vc))/\
    wr.ownsRow wa.heap.size 294 5 (AA vA vn vc) p.moves.length cr/\Ap 5 Gf wa cr (out++p.moves.drop k))
   case atStart=>exact nw
   clear Jz HI2 HG2 J7;obtain ⟨k,out,cr,hk,hq,rfl,hto,hgr,hog,Gw,hcr⟩:=hrel;obtain ⟨HQ,Dl⟩:=Al hq hto;clear hq hto;by_cases hlt:k < vn
   ·rcases Jl Gw with ⟨h,h0⟩ | ⟨H,hcap,h,hH,hHw,hn2⟩
    · exact SZ
    injection h with h1 h2 h3;subst h1 h3;clear h2;have xu:vn<=9223372036854775807:=by have:=Ll.o;omega
    have yR:w.heap.size<=H:=by have:=Cd.o;omega
    obtain ⟨m,hm⟩:∃m,p.moves[k]? =some m:=⟨p.moves[k]' Jm,BN _⟩;have hlen:=Cw Jm Dl.o;have hat:(out++p.moves.drop k)[k]? =some m:=by rw [Cj AG,EO,hlen];simpa using hm
    have hch:chunk cr 5 k=[AL m.DS,AL m.from_,AB AE m.b,AB AE m.a,AB AE m.shift]:=hcr.chunk hat;have EL:wr.ownsRow wa.heap.size 294 5 (AA (some ⟨H,0,none⟩) vn vc) vn cr:=by have:=Ll.o;rw [this] at Gw ⊢;exact Gw
    have e0:=BI EL hlt AG hch (j:=0) rfl;simp only [Ee] at e0;have e1:=BI EL hlt AG hch (j:=1) rfl;have e2:=BI EL hlt AG hch (j:=2) rfl;have e3:=BI EL hlt AG hch (j:=3) rfl;have f2:=EL.frozenAt (k*5+2);have f3:=EL.frozenAt (k*5+3);have bZ:chunk (ca.set (i*5+4) (AA (some ⟨H,0,none⟩) vn vc)) 5 i=[AL p.from_,AL p.DS,AB AE a,AB AE b,AA (some ⟨H,0,none⟩) vn vc]:=by rw [E8 _ AG,Ud.o];rfl
    have g2:=BI hog hi AG bZ (j:=2) rfl;have g3:=BI hog hi AG bZ (j:=3) rfl;have g4:=BI hog hi AG bZ (j:=4) rfl;obtain ⟨b1',b2',b3',Tv,fn',Q0,Ia,_,_,_,Kw⟩:=(Hb.o.below (C8 hgr hlo G8)).Ig;have s3:=Ia.cell 3;have lR':=Ia.lt;simp only [Aj,Ao,BA] at s3;have hfn:fn'=s.Aq.length:=by have:=Kw.len;simpa using this
    have hal':a < fn':=by rw [hfn];simpa [CM] using hal
    have ij:b < fn':=by rw [hfn];simpa [CM] using hbl
    obtain ⟨fb,qR,fm,fg,rfl,hfb,hfm,hfc,Mf⟩:=VU Kw hal';obtain ⟨fb2,AL9,fm2,fg2,efb,AMV,AEY,AMU,ACN⟩:=VU Kw ij;injection efb with efb;injection efb with ef1 ef2;subst ef1 ef2;have hfx:fm=fieldMap xa:=by rw [Bg,fG.o,C6,Bz] at hfm;exact hfm.symm
    have AKl:fm2=fieldMap xb:=by rw [Bg,HXB.o,C6,Bz] at AEY;exact AEY.symm
    subst hfx AKl;have NT:=Ie (fieldNames xa) m.from_;have MC:=Ie (fieldNames xb) m.DS;obtain ⟨Gp,Lp,Ln,UG,HM,HLEN,HAT,XI,AJT⟩:=P4 hgr hog EL hcr hm hlen hat (Mf.same (w':=wr.drew) rfl) (ACN.same (w':=wr.drew) rfl);clear hgr hog Gw EL hcr hm hlen hat hch bZ Ia Kw hfm AEY Mf ACN hfn;have hkn:(k:Int) < (vn:Int):=AG
    have hk0:=Int.natCast_nonneg k
    have ha0:(0:Int)<=(a:Int):=AG
    have han:(a:Int) < (fn':Int):=AG
    have hb0:(0:Int)<=(b:Int):=AG
    have hbn:(b:Int) < (fn':Int):=AG
    go_wp2_with fail;cases hix1:idx (fieldNames xa) m.from_ with
    |
     none=>
     rw [hix1] at NT;have Co:AI (ES 163 5 CF base G n cap i cs lo M (FD s p) w (CN Bu) wr.drew):=by refine Dv ?_ (grown_drew Gp.o);unfold FD;rw [za.o,jP.o];simp only [fG.o,HXB.o];rw [FB (k:=k+1) Jm (FY Dl.o HM.o (by unfold Sr;rw [hix1]))];rfl
     have HF:=AF ((Hm fg _ _ wr.drew XI.o NT).mono (R':=fun e w'=>e=CN Bu/\w'=wr.drew) Fl);clear hix1 NT MC;refine Du 16 [0,1,2,3,4,5,6,7,8,9,10,11,12,13,14,15,17,18,19,20,21,22,23,24,25,26,27,28,29,30] (fun l=>l.take 16++(l.drop 17).take 14) AJ rfl AJ (fun d u c a h=>by cases d <;> exact h) ?_;simp only [Ff,Fe,Je,IK,MU,IJ]
     repeat still_step
     refine Fc ?_;refine ⟨_,209,#[.map (some fg),AL m.from_],Bu,rfl,rfl,?_,HF.o,rfl,Co.o⟩;go_simp
    |
     some f=>
     rw [hix1] at NT;obtain ⟨Vt,ag⟩:=Al ((Ft fg _ _ (f:Int) wr.drew XI.o NT).mono (R':=fun e w'=>e=AW (AB AE f)/\w'=wr.drew) Fl) hix1;clear hix1 NT;cases hix2:idx (fieldNames xb) m.DS with
     |
      none=>
      rw [hix2] at MC;have Co:AI (ES 163 5 CF base G n cap i cs lo M (FD s p) w (CN Bu) wr.drew):=by refine Dv ?_ (grown_drew Gp.o);unfold FD;rw [za.o,jP.o];simp only [fG.o,HXB.o];rw [FB (k:=k+1) Jm (FY Dl.o HM.o (by unfold Sr;rw [ag.o,hix2]))];rfl
      have HF:=AF ((Hm fg2 _ _ wr.drew AJT.o MC).mono (R':=fun e w'=>e=CN Bu/\w'=wr.drew) Fl);clear hix2 MC;refine Du 31 [0,1,2,3,4,5,6,7,8,9,10,11,12,13,14,15,16,17,18,19,20,21,22,23,24,25,26,27,28,29,30] (fun l=>l.take 31) AJ rfl AJ (fun d u c a h=>by cases d <;> exact h) ?_;simp only [Ff,Fe]
      repeat still_step
      still_call Vt.o
      repeat still_step
      refine Fc ?_;refine ⟨_,209,#[.map (some fg2),AL m.DS],Bu,rfl,rfl,?_,HF.o,rfl,Co.o⟩;go_simp
     |
      some h=>
      rw [hix2] at MC;obtain ⟨HF2,HJ2⟩:=Al ((Ft fg2 _ _ (h:Int) wr.drew AJT.o MC).mono (R':=fun e w'=>e=AW (AB AE h)/\w'=wr.drew) Fl) hix2;clear hix2 MC;refine Ta 34 1 _ (AU (some ⟨H,k*5,none⟩)) [0,2,3,4,5,6,7,8,9,10,11,12,13,14,15,16,17,18,19,20,21,22,23,24,25,26,27,28,29,30,31,32,33] (fun l=>l.take 1++(l.drop 2).take 32) AJ rfl AG Ai rfl AJ AJ AJ AJ (fun _ _ _ h=>h) (.inl ⟨rfl,fun _=>rfl⟩) rfl AJ ?_;simp only [Ff,Fe,Je,IK,MU,IJ]
      repeat still_step
      still_call Vt.o
      repeat still_step
      still_call HF2.o
      repeat still_step
      refine Fc ?_;change wpList _ _ _ _ _ wr.drew;go_wp2;go_roundg (vn - (k+1))
      case measure=>exact Bi
      have ho3:=(Ln.o.drew.stored (k*5+3) (AB AE f)).1;have Sz:=(ho3.stored (k*5+2) (AB AE h)).1;have hc3:=ADk UG.o HAT.o (f:Int) (h:Int);refine ⟨k+1,out++[{m with a:=(f:Int),b:=(h:Int)}],(cr.set (k*5+3) (AB AE f)).set (k*5+2) (AB AE h),by omega,rfl,by go_num,?_,Mx (Mx (grown_drew Gp.o) U0 _) U0 _,own_ne (own_ne Lp.o.drew Bd _) Bd _,?_,?_⟩
      · exact Fx Dl.o HM.o (by unfold Sr;rw [ag.o,HJ2.o])
      · have:=Ll.o;rw [this] at Sz ⊢;exact Sz
      · rw [<-set_drop HLEN.o HM.o];exact hc3
   have hke:k=p.moves.length:=by have:=Ll.o;omega
   go_wp2_with fail
   go_end0
   have hP:FD s p=some {p with a:=(a:Int),b:=(b:Int),moves:=out}:=by unfold FD GJ;rw [za.o,jP.o];simp only [fG.o,HXB.o];rw [<-hke,Dl.o];rfl
   have hsl:Ag 5 Gf (mask lo M wr) (AA vA vn vc) out:=by rw [hke,Kc,FM] at hcr;exact B9 (L1 Gw (by rw [Cd.o];exact vZ)) ⟨hcr.1,hcr.2⟩ uB
   refine Qb hP hgr hog (fun j hj=>by rw [Fa _ AG hj];exact cP.o j hj) ?_;refine ⟨vA,vn,vc,?_,hsl,?_⟩
   · rw [E8 _ AG,Ud.o];rfl
   exact AA2
theorem LY (n:Int) (w:AH):(Instr.makeMap 268 (some (AB AE n))).run prog w=.ok (.map (some w.heap.size)) (w.alloc (.map #[] 0)):=by simp [Instr.makeMap,run_underlying underlying268,asInt,asIntOf]
theorem iz (A:Option Aa) (n c:Nat) (l:List ByteArray) (w:AH) (hs:Ag 1 Dd w (AA A n c) l):
 AS prog 197 #[AA A n c,.func (.func 198) #[] #[]] w (Vi l w):=by
 have hn2:n<=9223372036854775807:=by have:=hs.le;omega
 obtain ⟨HN,HS⟩:=Al hs.len hs;clear hs;have hmm:=LY;go_enter func197,ntmps197;go_wp2_with fail;clear hmm;have hm0:MapAt G4 G7 (w.alloc (.map #[] 0)) w.heap.size (Bw l 0).1:=MapAt.new _ _ w;have hb0:AK w (w.alloc (.map #[] 0)):=(Af _ _).alloc (Ac _) _;obtain ⟨Mh,HB0⟩:=Al hm0 hb0;clear hm0 hb0;go_loopg [5,15] n (fun g t i wr=>∃k:Nat,k<=n/\g=n - k/\i=AB AE k/\t=Ab (Bw l k).2/\MapAt G4 G7 wr w.heap.size (Bw l k).1/\AK w wr)
 case atStart=>exact Ux
 clear Mh HB0;obtain ⟨k,hk,hg,rfl,rfl,hm,hb⟩:=hrel;obtain ⟨HG,HM,HB⟩:=BB hg hm hb;clear hg hm hb;by_cases hlt:k < n
 ·obtain ⟨b,off,x,rfl,hbl,hx,hc⟩:=Xa (HS.o.mono BX HB.o) hlt
  have HX:AI (l[k]? =some x):=hx;clear hx;have hxn:x=x:=rfl;clear hxn;obtain ⟨t,ht⟩:=BR ((Bw l k).2);have HT:=AF ht;rw [ht];clear ht;go_wp2_with fail;refine (eI _ _).mono ?_;rintro e w' ⟨rfl,rfl⟩;have hmw:=HM.o;have hbw:=HB.o;have hlook:=DT (DQ underlying9) underlying268 (z:=AB AE 0) AJ hmw x true;obtain ⟨M8,CW⟩:=Al hmw hbw;clear hmw hbw HM HB;cases hgt:getM (Bw l k).1 x with
  |
   some v=>
   rw [hgt] at hlook;simp only [C4,C6,Ce,Ge] at hlook;have Lt:=AF hgt;clear hgt;go_wp2;go_roundg (n - (k+1))
   case measure=>exact Ej
   case rel=>
    have he:Bw l (k+1)=((Bw l k).1,true):=by rw [Gl HX.o,M1 Lt.o]
    exact ⟨k+1,by omega,rfl,by go_num,by rw [he],by rw [he];exact M8.o,CW.o⟩
  |
   none=>
   rw [hgt] at hlook;simp only [C4,Jd,Kd,IV] at hlook;have Lt:=AF hgt;clear hgt;go_wp2_with fail;refine (eI _ _).mono ?_;rintro e w' ⟨rfl,rfl⟩;obtain ⟨w3,hrun3,ER,hg3⟩:=FV (DQ underlying9) underlying268 M8.o x (k:Int);obtain ⟨HB3,Ht⟩:=Al (CW.o.grown hg3 CW.o.size (fun r e=>by cases e;exact Ac _)) ER;clear ER hg3 hlook;go_wp2;go_roundg (n - (k+1))
   case measure=>exact Ej
   have he:Bw l (k+1)=(Hv (Bw l k).1 x (k:Int),(Bw l k).2):=by rw [Gl HX.o,OI Lt.o]
   exact Y4
 have HE:AI (Bw l k=col l):=by show _=_;have:=HN.o;rw [col,show k=l.length by first | omega | (simp;omega)]
 go_wp2;go_ret2;exact ⟨_,by rw [HE.o];rfl,by rw [<-HE.o];exact HM.o,Ac _,HB.o⟩
theorem eX (A:Option Aa) (n c:Nat) (l:List Bv) (w:AH) (hs:Ag 5 CS w (AA A n c) l):
 AS prog 199 #[AA A n c,.func (.func 200) #[] #[]] w (Vi (l.map (·.name)) w):=by
 have hn2:n<=9223372036854775807:=by have:=hs.le;omega
 obtain ⟨HN,HS⟩:=Al hs.len hs;clear hs;have hmm:=LY;go_enter func199,ntmps199;go_wp2_with fail;clear hmm;have hm0:MapAt G4 G7 (w.alloc (.map #[] 0)) w.heap.size (Bw (l.map (·.name)) 0).1:=MapAt.new _ _ w;have hb0:AK w (w.alloc (.map #[] 0)):=(Af _ _).alloc (Ac _) _;obtain ⟨Mh,HB0⟩:=Al hm0 hb0;clear hm0 hb0;go_loopg [5,15] n (fun g t i wr=>∃k:Nat,k<=n/\g=n - k/\i=AB AE k/\t=Ab (Bw (l.map (·.name)) k).2/\MapAt G4 G7 wr w.heap.size (Bw (l.map (·.name)) k).1/\AK w wr)
 case atStart=>exact Ux
 clear Mh HB0;obtain ⟨k,hk,hg,rfl,rfl,hm,hb⟩:=hrel;obtain ⟨HG,HM,HB⟩:=BB hg hm hb;clear hg hm hb;by_cases hlt:k < n
 ·obtain ⟨b,off,x,rfl,hbl,hx,e0,e1,e2,e3,e4⟩:=OE (HS.o.mono Bq HB.o) hlt
  have HX:AI ((l.map (·.name))[k]? =some x.name):=by show _=_;rw [Bg,hx];rfl
  clear hx;obtain ⟨t,ht⟩:=BR ((Bw (l.map (·.name)) k).2);have HT:=AF ht;rw [ht];clear ht;go_wp2_with fail;have hmz:MapAt G4 G7 (wr.alloc (AO #[AL x.name,AL x.Au,AB AE x.factor,AB AE x.base,AB AE x.scale] 201)) w.heap.size (Bw (l.map (·.name)) k).1:=HM.o.grown (D8 _ _ none) AZ;have hbz:AK w (wr.alloc (AO #[AL x.name,AL x.Au,AB AE x.factor,AB AE x.base,AB AE x.scale] 201)):=HB.o.alloc HB.o.size _;have hblk:AY (wr.alloc (AO #[AL x.name,AL x.Au,AB AE x.factor,AB AE x.base,AB AE x.scale] 201)) wr.heap.size 201 #[AL x.name,AL x.Au,AB AE x.factor,AB AE x.base,AB AE x.scale]:=AY.new _ _ _;generalize wr.alloc (AO #[AL x.name,AL x.Au,AB AE x.factor,AB AE x.base,AB AE x.scale] 201)=wz at hmz hbz hblk ⊢;refine (XY x _).mono ?_;rintro e w' ⟨rfl,rfl⟩;have hmw:MapAt G4 G7 (wz.alloc (AO #[AL x.name,AL x.Au,AB AE x.factor,AB AE x.base,AB AE x.scale] 201)) w.heap.size (Bw (l.map (·.name)) k).1:=hmz.grown (D8 _ _ none) AZ;have hbw:AK w (wz.alloc (AO #[AL x.name,AL x.Au,AB AE x.factor,AB AE x.base,AB AE x.scale] 201)):=hbz.alloc hbz.size _;have hbk:=hblk.alloc (AO #[AL x.name,AL x.Au,AB AE x.factor,AB AE x.base,AB AE x.scale] 201);generalize wz.alloc (AO #[AL x.name,AL x.Au,AB AE x.factor,AB AE x.base,AB AE x.scale] 201)=w1 at hmw hbw hbk ⊢;have d0:=hbk.cell 0;have d1:=hbk.cell 1;have d2:=hbk.cell 2;have d3:=hbk.cell 3;have d4:=hbk.cell 4;have lb:=hbk.lt;simp only [Aj,Ao,BA] at d0 d1 d2 d3 d4;clear hmz hbz hblk hbk e0 e1 e2 e3 e4 hbl;have hlook:=DT (DQ underlying9) underlying268 (z:=AB AE 0) AJ hmw x.name true;obtain ⟨M8,CW⟩:=Al hmw hbw;clear hmw hbw HM HB;cases hgt:getM (Bw (l.map (·.name)) k).1 x.name with
  |
   some v=>
   rw [hgt] at hlook;simp only [C4,C6,Ce,Ge] at hlook;have Lt:=AF hgt;clear hgt;go_wp2;go_roundg (n - (k+1))
   case measure=>exact Ej
   case rel=>
    have he:Bw (l.map (·.name)) (k+1)=((Bw (l.map (·.name)) k).1,true):=by rw [Gl HX.o,M1 Lt.o]
    exact ⟨k+1,by omega,rfl,by go_num,by rw [he],by rw [he];exact M8.o,CW.o⟩
  |
   none=>
   rw [hgt] at hlook;simp only [C4,Jd,Kd,IV] at hlook;have Lt:=AF hgt;clear hgt;go_wp2_with fail;refine (XY x _).mono ?_;rintro e w' ⟨rfl,rfl⟩;have L9:MapAt G4 G7 (w1.alloc (AO #[AL x.name,AL x.Au,AB AE x.factor,AB AE x.base,AB AE x.scale] 201)) w.heap.size (Bw (l.map (·.name)) k).1:=M8.o.grown (D8 _ _ none) AZ;have hbw2:AK w (w1.alloc (AO #[AL x.name,AL x.Au,AB AE x.factor,AB AE x.base,AB AE x.scale] 201)):=CW.o.alloc CW.o.size _;generalize w1.alloc (AO #[AL x.name,AL x.Au,AB AE x.factor,AB AE x.base,AB AE x.scale] 201)=w2 at L9 hbw2 ⊢;obtain ⟨w3,hrun3,ER,hg3⟩:=FV (DQ underlying9) underlying268 L9 x.name (k:Int);have HB3:=AF (hbw2.grown hg3 hbw2.size (fun r e=>by cases e;exact Ac _));clear L9 hbw2;have Ht:=AF ER;clear ER hg3 hlook;go_wp2;go_roundg (n - (k+1))
   case measure=>exact Ej
   have he:Bw (l.map (·.name)) (k+1)=(Hv (Bw (l.map (·.name)) k).1 x.name (k:Int),(Bw (l.map (·.name)) k).2):=by rw [Gl HX.o,OI Lt.o]
   exact Y4
 exact cW
theorem Z1 (A:Option Aa) (n c:Nat) (l:List BM) (w:AH) (hs:Ag 6 BW w (AA A n c) l):
 AS prog 201 #[AA A n c,.func (.func 202) #[] #[]] w (Vi (l.map (·.name)) w):=by
 have hn2:n<=9223372036854775807:=by have:=hs.le;omega
 obtain ⟨HN,HS⟩:=Al hs.len hs;clear hs;have hmm:=LY;go_enter func201,ntmps201;go_wp2_with fail;clear hmm;have hm0:MapAt G4 G7 (w.alloc (.map #[] 0)) w.heap.size (Bw (l.map (·.name)) 0).1:=MapAt.new _ _ w;have hb0:AK w (w.alloc (.map #[] 0)):=(Af _ _).alloc (Ac _) _;obtain ⟨Mh,HB0⟩:=Al hm0 hb0;clear hm0 hb0;go_loopg [5,15] n (fun g t i wr=>∃k:Nat,k<=n/\g=n - k/\i=AB AE k/\t=Ab (Bw (l.map (·.name)) k).2/\MapAt G4 G7 wr w.heap.size (Bw (l.map (·.name)) k).1/\AK w wr)
 case atStart=>exact Ux
 clear Mh HB0;obtain ⟨k,hk,hg,rfl,rfl,hm,hb⟩:=hrel;obtain ⟨HG,HM,HB⟩:=BB hg hm hb;clear hg hm hb;by_cases hlt:k < n
 ·obtain ⟨b,off,x,A1,n1,c1,A2,n2,c2,rfl,hbl,hx,e0,e1,e2,e3,e4,e5,_,_⟩:=GL (HS.o.mono BP HB.o) hlt
  have HX:AI ((l.map (·.name))[k]? =some x.name):=by show _=_;rw [Bg,hx];rfl
  clear hx;obtain ⟨t,ht⟩:=BR ((Bw (l.map (·.name)) k).2);have HT:=AF ht;rw [ht];clear ht;go_wp2_with fail;have hmz:MapAt G4 G7 (wr.alloc (AO #[AL x.name,AL x.FX,AB AE x.Ar,AB AE x.version,AA A1 n1 c1,AA A2 n2 c2] 85)) w.heap.size (Bw (l.map (·.name)) k).1:=HM.o.grown (D8 _ _ none) AZ;have hbz:AK w (wr.alloc (AO #[AL x.name,AL x.FX,AB AE x.Ar,AB AE x.version,AA A1 n1 c1,AA A2 n2 c2] 85)):=HB.o.alloc HB.o.size _;have hblk:AY (wr.alloc (AO #[AL x.name,AL x.FX,AB AE x.Ar,AB AE x.version,AA A1 n1 c1,AA A2 n2 c2] 85)) wr.heap.size 85 #[AL x.name,AL x.FX,AB AE x.Ar,AB AE x.version,AA A1 n1 c1,AA A2 n2 c2]:=AY.new _ _ _;generalize wr.alloc (AO #[AL x.name,AL x.FX,AB AE x.Ar,AB AE x.version,AA A1 n1 c1,AA A2 n2 c2] 85)=wz at hmz hbz hblk ⊢;refine (VH _ _ _ _ _ _ x _).mono ?_;rintro e w' ⟨rfl,rfl⟩;have hmw:MapAt G4 G7 (wz.alloc (AO #[AL x.name,AL x.FX,AB AE x.Ar,AB AE x.version,AA A1 n1 c1,AA A2 n2 c2] 85)) w.heap.size (Bw (l.map (·.name)) k).1:=hmz.grown (D8 _ _ none) AZ;have hbw:AK w (wz.alloc (AO #[AL x.name,AL x.FX,AB AE x.Ar,AB AE x.version,AA A1 n1 c1,AA A2 n2 c2] 85)):=hbz.alloc hbz.size _;have hbk:=hblk.alloc (AO #[AL x.name,AL x.FX,AB AE x.Ar,AB AE x.version,AA A1 n1 c1,AA A2 n2 c2] 85);generalize wz.alloc (AO #[AL x.name,AL x.FX,AB AE x.Ar,AB AE x.version,AA A1 n1 c1,AA A2 n2 c2] 85)=w1 at hmw hbw hbk ⊢;have d0:=hbk.cell 0;have d1:=hbk.cell 1;have d2:=hbk.cell 2;have d3:=hbk.cell 3;have d4:=hbk.cell 4;have d5:=hbk.cell 5;have lb:=hbk.lt;simp only [Aj,Ao,BA] at d0 d1 d2 d3 d4 d5;clear hmz hbz hblk hbk e0 e1 e2 e3 e4 e5 hbl;have hlook:=DT (DQ underlying9) underlying268 (z:=AB AE 0) AJ hmw x.name true;obtain ⟨M8,CW⟩:=Al hmw hbw;clear hmw hbw HM HB;cases hgt:getM (Bw (l.map (·.name)) k).1 x.name with
  |
   some v=>
   rw [hgt] at hlook;simp only [C4,C6,Ce,Ge] at hlook;have Lt:=AF hgt;clear hgt;go_wp2;go_roundg (n - (k+1))
   case measure=>exact Ej
   case rel=>
    have he:Bw (l.map (·.name)) (k+1)=((Bw (l.map (·.name)) k).1,true):=by rw [Gl HX.o,M1 Lt.o]
    exact ⟨k+1,by omega,rfl,by go_num,by rw [he],by rw [he];exact M8.o,CW.o⟩
  |
   none=>
   rw [hgt] at hlook;simp only [C4,Jd,Kd,IV] at hlook;have Lt:=AF hgt;clear hgt;go_wp2_with fail;refine (VH _ _ _ _ _ _ x _).mono ?_;rintro e w' ⟨rfl,rfl⟩;have L9:MapAt G4 G7 (w1.alloc (AO #[AL x.name,AL x.FX,AB AE x.Ar,AB AE x.version,AA A1 n1 c1,AA A2 n2 c2] 85)) w.heap.size (Bw (l.map (·.name)) k).1:=M8.o.grown (D8 _ _ none) AZ;have hbw2:AK w (w1.alloc (AO #[AL x.name,AL x.FX,AB AE x.Ar,AB AE x.version,AA A1 n1 c1,AA A2 n2 c2] 85)):=CW.o.alloc CW.o.size _;generalize w1.alloc (AO #[AL x.name,AL x.FX,AB AE x.Ar,AB AE x.version,AA A1 n1 c1,AA A2 n2 c2] 85)=w2 at L9 hbw2 ⊢;obtain ⟨w3,hrun3,ER,hg3⟩:=FV (DQ underlying9) underlying268 L9 x.name (k:Int);have HB3:=AF (hbw2.grown hg3 hbw2.size (fun r e=>by cases e;exact Ac _));clear L9 hbw2;have Ht:=AF ER;clear ER hg3 hlook;go_wp2;go_roundg (n - (k+1))
   case measure=>exact Ej
   have he:Bw (l.map (·.name)) (k+1)=(Hv (Bw (l.map (·.name)) k).1 x.name (k:Int),(Bw (l.map (·.name)) k).2):=by rw [Gl HX.o,OI Lt.o]
   exact Y4
 exact cW
theorem YT (A:Option Aa) (n c:Nat) (l:List Cl) (w:AH) (hs:Ag 3 BZ w (AA A n c) l):
 AS prog 203 #[AA A n c,.func (.func 204) #[] #[]] w (Vi (l.map (·.name)) w):=by
 have hn2:n<=9223372036854775807:=by have:=hs.le;omega
 obtain ⟨HN,HS⟩:=Al hs.len hs;clear hs;have hmm:=LY;go_enter func203,ntmps203;go_wp2_with fail;clear hmm;have hm0:MapAt G4 G7 (w.alloc (.map #[] 0)) w.heap.size (Bw (l.map (·.name)) 0).1:=MapAt.new _ _ w;have hb0:AK w (w.alloc (.map #[] 0)):=(Af _ _).alloc (Ac _) _;obtain ⟨Mh,HB0⟩:=Al hm0 hb0;clear hm0 hb0;go_loopg [5,15] n (fun g t i wr=>∃k:Nat,k<=n/\g=n - k/\i=AB AE k/\t=Ab (Bw (l.map (·.name)) k).2/\MapAt G4 G7 wr w.heap.size (Bw (l.map (·.name)) k).1/\AK w wr)
 case atStart=>exact Ux
 clear Mh HB0;obtain ⟨k,hk,hg,rfl,rfl,hm,hb⟩:=hrel;obtain ⟨HG,HM,HB⟩:=BB hg hm hb;clear hg hm hb;by_cases hlt:k < n
 ·obtain ⟨b,off,x,A1,n1,c1,rfl,hbl,hx,e0,e1,e2,_⟩:=MX (HS.o.mono BQ HB.o) hlt
  have HX:AI ((l.map (·.name))[k]? =some x.name):=by show _=_;rw [Bg,hx];rfl
  clear hx;obtain ⟨t,ht⟩:=BR ((Bw (l.map (·.name)) k).2);have HT:=AF ht;rw [ht];clear ht;go_wp2_with fail;have hmz:MapAt G4 G7 (wr.alloc (AO #[AL x.name,AA A1 n1 c1,AB AE x.most] 166)) w.heap.size (Bw (l.map (·.name)) k).1:=HM.o.grown (D8 _ _ none) AZ;have hbz:AK w (wr.alloc (AO #[AL x.name,AA A1 n1 c1,AB AE x.most] 166)):=HB.o.alloc HB.o.size _;have hblk:AY (wr.alloc (AO #[AL x.name,AA A1 n1 c1,AB AE x.most] 166)) wr.heap.size 166 #[AL x.name,AA A1 n1 c1,AB AE x.most]:=AY.new _ _ _;generalize wr.alloc (AO #[AL x.name,AA A1 n1 c1,AB AE x.most] 166)=wz at hmz hbz hblk ⊢;refine (Tj _ _ _ x _).mono ?_;rintro e w' ⟨rfl,rfl⟩;have hmw:MapAt G4 G7 (wz.alloc (AO #[AL x.name,AA A1 n1 c1,AB AE x.most] 166)) w.heap.size (Bw (l.map (·.name)) k).1:=hmz.grown (D8 _ _ none) AZ;have hbw:AK w (wz.alloc (AO #[AL x.name,AA A1 n1 c1,AB AE x.most] 166)):=hbz.alloc hbz.size _;have hbk:=hblk.alloc (AO #[AL x.name,AA A1 n1 c1,AB AE x.most] 166);generalize wz.alloc (AO #[AL x.name,AA A1 n1 c1,AB AE x.most] 166)=w1 at hmw hbw hbk ⊢;have d0:=hbk.cell 0;have d1:=hbk.cell 1;have d2:=hbk.cell 2;have lb:=hbk.lt;simp only [Aj,Ao,BA] at d0 d1 d2;clear hmz hbz hblk hbk e0 e1 e2 hbl;have hlook:=DT (DQ underlying9) underlying268 (z:=AB AE 0) AJ hmw x.name true;obtain ⟨M8,CW⟩:=Al hmw hbw;clear hmw hbw HM HB;cases hgt:getM (Bw (l.map (·.name)) k).1 x.name with
  |
   some v=>
   rw [hgt] at hlook;simp only [C4,C6,Ce,Ge] at hlook;have Lt:=AF hgt;clear hgt;go_wp2;go_roundg (n - (k+1))
   case measure=>exact Ej
   case rel=>
    have he:Bw (l.map (·.name)) (k+1)=((Bw (l.map (·.name)) k).1,true):=by rw [Gl HX.o,M1 Lt.o]
    exact ⟨k+1,by omega,rfl,by go_num,by rw [he],by rw [he];exact M8.o,CW.o⟩
  |
   none=>
   rw [hgt] at hlook;simp only [C4,Jd,Kd,IV] at hlook;have Lt:=AF hgt;clear hgt;go_wp2_with fail;refine (Tj _ _ _ x _).mono ?_;rintro e w' ⟨rfl,rfl⟩;have L9:MapAt G4 G7 (w1.alloc (AO #[AL x.name,AA A1 n1 c1,AB AE x.most] 166)) w.heap.size (Bw (l.map (·.name)) k).1:=M8.o.grown (D8 _ _ none) AZ;have hbw2:AK w (w1.alloc (AO #[AL x.name,AA A1 n1 c1,AB AE x.most] 166)):=CW.o.alloc CW.o.size _;generalize w1.alloc (AO #[AL x.name,AA A1 n1 c1,AB AE x.most] 166)=w2 at L9 hbw2 ⊢;obtain ⟨w3,hrun3,ER,hg3⟩:=FV (DQ underlying9) underlying268 L9 x.name (k:Int);have HB3:=AF (hbw2.grown hg3 hbw2.size (fun r e=>by cases e;exact Ac _));clear L9 hbw2;have Ht:=AF ER;clear ER hg3 hlook;go_wp2;go_roundg (n - (k+1))
   case measure=>exact Ej
   have he:Bw (l.map (·.name)) (k+1)=(Hv (Bw (l.map (·.name)) k).1 x.name (k:Int),(Bw (l.map (·.name)) k).2):=by rw [Gl HX.o,OI Lt.o]
   exact Y4
 exact cW
theorem cE (A:Option Aa) (n c:Nat) (l:List Gn) (w:AH) (hs:Ag 11 Eg w (AA A n c) l):
 AS prog 205 #[AA A n c,.func (.func 206) #[] #[]] w (Vi (l.map (·.name)) w):=by
 have hn2:n<=9223372036854775807:=by have:=hs.le;omega
 obtain ⟨HN,HS⟩:=Al hs.len hs;clear hs;have hmm:=LY;go_enter func205,ntmps205;go_wp2_with fail;clear hmm;have hm0:MapAt G4 G7 (w.alloc (.map #[] 0)) w.heap.size (Bw (l.map (·.name)) 0).1:=MapAt.new _ _ w;have hb0:AK w (w.alloc (.map #[] 0)):=(Af _ _).alloc (Ac _) _;obtain ⟨Mh,HB0⟩:=Al hm0 hb0;clear hm0 hb0;go_loopg [5,15] n (fun g t i wr=>∃k:Nat,k<=n/\g=n - k/\i=AB AE k/\t=Ab (Bw (l.map (·.name)) k).2/\MapAt G4 G7 wr w.heap.size (Bw (l.map (·.name)) k).1/\AK w wr)
 case atStart=>exact Ux
 clear Mh HB0;obtain ⟨k,hk,hg,rfl,rfl,hm,hb⟩:=hrel;obtain ⟨HG,HM,HB⟩:=BB hg hm hb;clear hg hm hb;by_cases hlt:k < n
 ·obtain ⟨b,off,x,A1,n1,c1,rfl,hbl,hx,e0,e1,e2,e3,e4,e5,e6,e7,e8,e9,e10,_⟩:=Iz (HS.o.mono DC HB.o) hlt
  have HX:AI ((l.map (·.name))[k]? =some x.name):=by show _=_;rw [Bg,hx];rfl
  clear hx;obtain ⟨t,ht⟩:=BR ((Bw (l.map (·.name)) k).2);have HT:=AF ht;rw [ht];clear ht;go_wp2_with fail;have hmz:MapAt G4 G7 (wr.alloc (AO #[AL x.name,AB AE x.type.kind,AB AE x.type.lo,AB AE x.type.hi,AL x.type.Au,AB AE x.type.unit,AA A1 n1 c1,AB AE x.w0,AB AE x.w1,AB AE x.w2,AB AE x.w3] 112)) w.heap.size (Bw (l.map (·.name)) k).1:=HM.o.grown (D8 _ _ none) AZ;have hbz:AK w (wr.alloc (AO #[AL x.name,AB AE x.type.kind,AB AE x.type.lo,AB AE x.type.hi,AL x.type.Au,AB AE x.type.unit,AA A1 n1 c1,AB AE x.w0,AB AE x.w1,AB AE x.w2,AB AE x.w3] 112)):=HB.o.alloc HB.o.size _;have hblk:AY (wr.alloc (AO #[AL x.name,AB AE x.type.kind,AB AE x.type.lo,AB AE x.type.hi,AL x.type.Au,AB AE x.type.unit,AA A1 n1 c1,AB AE x.w0,AB AE x.w1,AB AE x.w2,AB AE x.w3] 112)) wr.heap.size 112 #[AL x.name,AB AE x.type.kind,AB AE x.type.lo,AB AE x.type.hi,AL x.type.Au,AB AE x.type.unit,AA A1 n1 c1,AB AE x.w0,AB AE x.w1,AB AE x.w2,AB AE x.w3]:=AY.new _ _ _;generalize wr.alloc (AO #[AL x.name,AB AE x.type.kind,AB AE x.type.lo,AB AE x.type.hi,AL x.type.Au,AB AE x.type.unit,AA A1 n1 c1,AB AE x.w0,AB AE x.w1,AB AE x.w2,AB AE x.w3] 112)=wz at hmz hbz hblk ⊢;refine (Ws _ _ _ x _).mono ?_;rintro e w' ⟨rfl,rfl⟩;have hmw:MapAt G4 G7 (wz.alloc (AO #[AL x.name,AB AE x.type.kind,AB AE x.type.lo,AB AE x.type.hi,AL x.type.Au,AB AE x.type.unit,AA A1 n1 c1,AB AE x.w0,AB AE x.w1,AB AE x.w2,AB AE x.w3] 112)) w.heap.size (Bw (l.map (·.name)) k).1:=hmz.grown (D8 _ _ none) AZ;have hbw:AK w (wz.alloc (AO #[AL x.name,AB AE x.type.kind,AB AE x.type.lo,AB AE x.type.hi,AL x.type.Au,AB AE x.type.unit,AA A1 n1 c1,AB AE x.w0,AB AE x.w1,AB AE x.w2,AB AE x.w3] 112)):=hbz.alloc hbz.size _;have hbk:=hblk.alloc (AO #[AL x.name,AB AE x.type.kind,AB AE x.type.lo,AB AE x.type.hi,AL x.type.Au,AB AE x.type.unit,AA A1 n1 c1,AB AE x.w0,AB AE x.w1,AB AE x.w2,AB AE x.w3] 112);generalize wz.alloc (AO #[AL x.name,AB AE x.type.kind,AB AE x.type.lo,AB AE x.type.hi,AL x.type.Au,AB AE x.type.unit,AA A1 n1 c1,AB AE x.w0,AB AE x.w1,AB AE x.w2,AB AE x.w3] 112)=w1 at hmw hbw hbk ⊢;have d0:=hbk.cell 0;have d1:=hbk.cell 1;have d2:=hbk.cell 2;have d3:=hbk.cell 3;have d4:=hbk.cell 4;have d5:=hbk.cell 5;have d6:=hbk.cell 6;have d7:=hbk.cell 7;have d8:=hbk.cell 8;have d9:=hbk.cell 9;have d10:=hbk.cell 10;have lb:=hbk.lt;simp only [Aj,Ao,BA] at d0 d1 d2 d3 d4 d5 d6 d7 d8 d9 d10;clear hmz hbz hblk hbk e0 e1 e2 e3 e4 e5 e6 e7 e8 e9 e10 hbl;have hlook:=DT (DQ underlying9) underlying268 (z:=AB AE 0) AJ hmw x.name true;obtain ⟨M8,CW⟩:=Al hmw hbw;clear hmw hbw HM HB;cases hgt:getM (Bw (l.map (·.name)) k).1 x.name with
  |
   some v=>
   rw [hgt] at hlook;simp only [C4,C6,Ce,Ge] at hlook;have Lt:=AF hgt;clear hgt;go_wp2;go_roundg (n - (k+1))
   case measure=>exact Ej
   case rel=>
    have he:Bw (l.map (·.name)) (k+1)=((Bw (l.map (·.name)) k).1,true):=by rw [Gl HX.o,M1 Lt.o]
    exact ⟨k+1,by omega,rfl,by go_num,by rw [he],by rw [he];exact M8.o,CW.o⟩
  |
   none=>
   rw [hgt] at hlook;simp only [C4,Jd,Kd,IV] at hlook;have Lt:=AF hgt;clear hgt;go_wp2_with fail;refine (Ws _ _ _ x _).mono ?_;rintro e w' ⟨rfl,rfl⟩;have L9:MapAt G4 G7 (w1.alloc (AO #[AL x.name,AB AE x.type.kind,AB AE x.type.lo,AB AE x.type.hi,AL x.type.Au,AB AE x.type.unit,AA A1 n1 c1,AB AE x.w0,AB AE x.w1,AB AE x.w2,AB AE x.w3] 112)) w.heap.size (Bw (l.map (·.name)) k).1:=M8.o.grown (D8 _ _ none) AZ;have hbw2:AK w (w1.alloc (AO #[AL x.name,AB AE x.type.kind,AB AE x.type.lo,AB AE x.type.hi,AL x.type.Au,AB AE x.type.unit,AA A1 n1 c1,AB AE x.w0,AB AE x.w1,AB AE x.w2,AB AE x.w3] 112)):=CW.o.alloc CW.o.size _;generalize w1.alloc (AO #[AL x.name,AB AE x.type.kind,AB AE x.type.lo,AB AE x.type.hi,AL x.type.Au,AB AE x.type.unit,AA A1 n1 c1,AB AE x.w0,AB AE x.w1,AB AE x.w2,AB AE x.w3] 112)=w2 at L9 hbw2 ⊢;obtain ⟨w3,hrun3,ER,hg3⟩:=FV (DQ underlying9) underlying268 L9 x.name (k:Int);have HB3:=AF (hbw2.grown hg3 hbw2.size (fun r e=>by cases e;exact Ac _));clear L9 hbw2;have Ht:=AF ER;clear ER hg3 hlook;go_wp2;go_roundg (n - (k+1))
   case measure=>exact Ej
   have he:Bw (l.map (·.name)) (k+1)=(Hv (Bw (l.map (·.name)) k).1 x.name (k:Int),(Bw (l.map (·.name)) k).2):=by rw [Gl HX.o,OI Lt.o]
   exact Y4
 exact cW
theorem eY (A:Option Aa) (n c:Nat) (l:List CO) (w:AH) (hs:Ag 8 DU w (AA A n c) l):
 AS prog 207 #[AA A n c,.func (.func 208) #[] #[]] w (Vi (l.map (·.name)) w):=by
 have hn2:n<=9223372036854775807:=by have:=hs.le;omega
 obtain ⟨HN,HS⟩:=Al hs.len hs;clear hs;have hmm:=LY;go_enter func207,ntmps207;go_wp2_with fail;clear hmm;have hm0:MapAt G4 G7 (w.alloc (.map #[] 0)) w.heap.size (Bw (l.map (·.name)) 0).1:=MapAt.new _ _ w;have hb0:AK w (w.alloc (.map #[] 0)):=(Af _ _).alloc (Ac _) _;obtain ⟨Mh,HB0⟩:=Al hm0 hb0;clear hm0 hb0;go_loopg [5,15] n (fun g t i wr=>∃k:Nat,k<=n/\g=n - k/\i=AB AE k/\t=Ab (Bw (l.map (·.name)) k).2/\MapAt G4 G7 wr w.heap.size (Bw (l.map (·.name)) k).1/\AK w wr)
 case atStart=>exact Ux
 clear Mh HB0;obtain ⟨k,hk,hg,rfl,rfl,hm,hb⟩:=hrel;obtain ⟨HG,HM,HB⟩:=BB hg hm hb;clear hg hm hb;by_cases hlt:k < n
 ·obtain ⟨b,off,x,rfl,hbl,hx,e0,e1,e2,e3,e4,e5,e6,e7⟩:=QC (HS.o.mono EW HB.o) hlt
  have HX:AI ((l.map (·.name))[k]? =some x.name):=by show _=_;rw [Bg,hx];rfl
  clear hx;obtain ⟨t,ht⟩:=BR ((Bw (l.map (·.name)) k).2);have HT:=AF ht;rw [ht];clear ht;go_wp2_with fail;have hmz:MapAt G4 G7 (wr.alloc (AO #[AL x.name,AL x.kind,AB AE x.schema,AL x.Au.name,AL x.Au.path,AB AE x.Au.var,AB AE x.Au.field,AB AE x.Au.n] 298)) w.heap.size (Bw (l.map (·.name)) k).1:=HM.o.grown (D8 _ _ none) AZ;have hbz:AK w (wr.alloc (AO #[AL x.name,AL x.kind,AB AE x.schema,AL x.Au.name,AL x.Au.path,AB AE x.Au.var,AB AE x.Au.field,AB AE x.Au.n] 298)):=HB.o.alloc HB.o.size _;have hblk:AY (wr.alloc (AO #[AL x.name,AL x.kind,AB AE x.schema,AL x.Au.name,AL x.Au.path,AB AE x.Au.var,AB AE x.Au.field,AB AE x.Au.n] 298)) wr.heap.size 298 #[AL x.name,AL x.kind,AB AE x.schema,AL x.Au.name,AL x.Au.path,AB AE x.Au.var,AB AE x.Au.field,AB AE x.Au.n]:=AY.new _ _ _;generalize wr.alloc (AO #[AL x.name,AL x.kind,AB AE x.schema,AL x.Au.name,AL x.Au.path,AB AE x.Au.var,AB AE x.Au.field,AB AE x.Au.n] 298)=wz at hmz hbz hblk ⊢;refine (YG x _).mono ?_;rintro e w' ⟨rfl,rfl⟩;have hmw:MapAt G4 G7 (wz.alloc (AO #[AL x.name,AL x.kind,AB AE x.schema,AL x.Au.name,AL x.Au.path,AB AE x.Au.var,AB AE x.Au.field,AB AE x.Au.n] 298)) w.heap.size (Bw (l.map (·.name)) k).1:=hmz.grown (D8 _ _ none) AZ;have hbw:AK w (wz.alloc (AO #[AL x.name,AL x.kind,AB AE x.schema,AL x.Au.name,AL x.Au.path,AB AE x.Au.var,AB AE x.Au.field,AB AE x.Au.n] 298)):=hbz.alloc hbz.size _;have hbk:=hblk.alloc (AO #[AL x.name,AL x.kind,AB AE x.schema,AL x.Au.name,AL x.Au.path,AB AE x.Au.var,AB AE x.Au.field,AB AE x.Au.n] 298);generalize wz.alloc (AO #[AL x.name,AL x.kind,AB AE x.schema,AL x.Au.name,AL x.Au.path,AB AE x.Au.var,AB AE x.Au.field,AB AE x.Au.n] 298)=w1 at hmw hbw hbk ⊢;have d0:=hbk.cell 0;have d1:=hbk.cell 1;have d2:=hbk.cell 2;have d3:=hbk.cell 3;have d4:=hbk.cell 4;have d5:=hbk.cell 5;have d6:=hbk.cell 6;have d7:=hbk.cell 7;have lb:=hbk.lt;simp only [Aj,Ao,BA] at d0 d1 d2 d3 d4 d5 d6 d7;clear hmz hbz hblk hbk e0 e1 e2 e3 e4 e5 e6 e7 hbl;have hlook:=DT (DQ underlying9) underlying268 (z:=AB AE 0) AJ hmw x.name true;obtain ⟨M8,CW⟩:=Al hmw hbw;clear hmw hbw HM HB;cases hgt:getM (Bw (l.map (·.name)) k).1 x.name with
  |
   some v=>
   rw [hgt] at hlook;simp only [C4,C6,Ce,Ge] at hlook;have Lt:=AF hgt;clear hgt;go_wp2;go_roundg (n - (k+1))
   case measure=>exact Ej
   case rel=>
    have he:Bw (l.map (·.name)) (k+1)=((Bw (l.map (·.name)) k).1,true):=by rw [Gl HX.o,M1 Lt.o]
    exact ⟨k+1,by omega,rfl,by go_num,by rw [he],by rw [he];exact M8.o,CW.o⟩
  |
   none=>
   rw [hgt] at hlook;simp only [C4,Jd,Kd,IV] at hlook;have Lt:=AF hgt;clear hgt;go_wp2_with fail;refine (YG x _).mono ?_;rintro e w' ⟨rfl,rfl⟩;have L9:MapAt G4 G7 (w1.alloc (AO #[AL x.name,AL x.kind,AB AE x.schema,AL x.Au.name,AL x.Au.path,AB AE x.Au.var,AB AE x.Au.field,AB AE x.Au.n] 298)) w.heap.size (Bw (l.map (·.name)) k).1:=M8.o.grown (D8 _ _ none) AZ;have hbw2:AK w (w1.alloc (AO #[AL x.name,AL x.kind,AB AE x.schema,AL x.Au.name,AL x.Au.path,AB AE x.Au.var,AB AE x.Au.field,AB AE x.Au.n] 298)):=CW.o.alloc CW.o.size _;generalize w1.alloc (AO #[AL x.name,AL x.kind,AB AE x.schema,AL x.Au.name,AL x.Au.path,AB AE x.Au.var,AB AE x.Au.field,AB AE x.Au.n] 298)=w2 at L9 hbw2 ⊢;obtain ⟨w3,hrun3,ER,hg3⟩:=FV (DQ underlying9) underlying268 L9 x.name (k:Int);have HB3:=AF (hbw2.grown hg3 hbw2.size (fun r e=>by cases e;exact Ac _));clear L9 hbw2;have Ht:=AF ER;clear ER hg3 hlook;go_wp2;go_roundg (n - (k+1))
   case measure=>exact Ej
   have he:Bw (l.map (·.name)) (k+1)=(Hv (Bw (l.map (·.name)) k).1 x.name (k:Int),(Bw (l.map (·.name)) k).2):=by rw [Gl HX.o,OI Lt.o]
   exact Y4
 exact cW
structure Ng (w:AH) (sc:Array AN) (v1 v2 v3 v4:AN) (W:AH):Prop where
 old:AK w W
 bs:AY W w.heap.size 29 sc
 br:AY W (w.heap.size+1) 271 #[v1,v2,v3,v4]
section
variable {w:AH} {sc:Array AN} {v1 v2 v3 v4:AN} {W W':AH}
theorem Ng.below (h:Ng w sc v1 v2 v3 v4 W) (hb:AK W W'):Ng w sc v1 v2 v3 v4 W':=
 ⟨AV h.old hb,h.bs.below hb h.bs.lt,h.br.below hb h.br.lt⟩
theorem Ng.AKH (h:Ng w sc v1 v2 v3 v4 W) (x:AN):Ng w sc x v2 v3 v4 (W.setCell ⟨w.heap.size+1,0,none⟩ x):=⟨h.old.setCell AZ _,h.bs.far AZ _,h.br.put 0 x⟩
theorem Ng.AKG (h:Ng w sc v1 v2 v3 v4 W) (x:AN):Ng w sc v1 x v3 v4 (W.setCell ⟨w.heap.size+1,1,none⟩ x):=⟨h.old.setCell AZ _,h.bs.far AZ _,h.br.put 1 x⟩
theorem Ng.AKF (h:Ng w sc v1 v2 v3 v4 W) (x:AN):Ng w sc v1 v2 x v4 (W.setCell ⟨w.heap.size+1,2,none⟩ x):=⟨h.old.setCell AZ _,h.bs.far AZ _,h.br.put 2 x⟩
theorem Ng.AKE (h:Ng w sc v1 v2 v3 v4 W) (x:AN):Ng w sc v1 v2 v3 x (W.setCell ⟨w.heap.size+1,3,none⟩ x):=⟨h.old.setCell AZ _,h.bs.far AZ _,h.br.put 3 x⟩
theorem Ng.grown {row:Option Nat} (h:Ng w sc v1 v2 v3 v4 W) (hg:W.grownBy W' row) (hr:∀r,row=some r->w.heap.size+2<=r):Ng w sc v1 v2 v3 v4 W':=
 ⟨h.old.grown hg h.old.size (fun k e=>by have:=hr k e;omega),h.bs.grown hg (fun e=>by have:=hr _ e.symm;omega),h.br.grown hg (fun e=>by have:=hr _ e.symm;omega)⟩
theorem Ng.cells {s0 s1 s2 s3 s4 s5:AN} (h:Ng w #[s0,s1,s2,s3,s4,s5] v1 v2 v3 v4 W):
 W.cell? ⟨w.heap.size,0,none⟩=some s0/\W.cell? ⟨w.heap.size,1,none⟩=some s1/\W.cell? ⟨w.heap.size,2,none⟩=some s2/\W.cell? ⟨w.heap.size,3,none⟩=some s3/\W.cell? ⟨w.heap.size,4,none⟩=some s4/\W.cell? ⟨w.heap.size,5,none⟩=some s5/\
 W.cell? ⟨w.heap.size+1,0,none⟩=some v1/\W.cell? ⟨w.heap.size+1,1,none⟩=some v2/\W.cell? ⟨w.heap.size+1,2,none⟩=some v3/\W.cell? ⟨w.heap.size+1,3,none⟩=some v4/\
 W.frozen? ⟨w.heap.size+1,0,none⟩=false/\W.frozen? ⟨w.heap.size+1,1,none⟩=false/\W.frozen? ⟨w.heap.size+1,2,none⟩=false/\W.frozen? ⟨w.heap.size+1,3,none⟩=false/\w.heap.size+1 < W.heap.size:=
 ⟨h.bs.cell 0,h.bs.cell 1,h.bs.cell 2,h.bs.cell 3,h.bs.cell 4,h.bs.cell 5,h.br.cell 0,h.br.cell 1,h.br.cell 2,h.br.cell 3,h.br.frozen 0,h.br.frozen 1,h.br.frozen 2,h.br.frozen 3,h.br.lt⟩
theorem AEu (w:AH) (sc:Array AN):Ng w sc (.map none) (.map none) (.map none) (AA none 0 0) ((w.alloc (AO sc 29)).alloc (AO #[.map none,.map none,.map none,AA none 0 0] 271)) where
 old:=(BK _ _).alloc AZ _
 bs:=(AY.new _ _ _).alloc _
 br:=by simpa using AY.new (w.alloc (AO sc 29)) 271 _
end
theorem AGv:(prog.info? 268).map (fun i=>(i.zero,i.size,i.bytes))=some (some (.map none),1,8):=by kernel_rfl
theorem bF {W:AH} {base:Nat} {e:Ae} {size:Nat} {v:AN} {n:Nat} {xs:List AN} (h:W.ownsRow base e size v n xs):∃A m c,v=AA A m c:=by
 rcases h.2 with ⟨rfl,_⟩ | ⟨g,cap,cur,rfl,_⟩
 · exact SY
 · exact SY
theorem own_below {w w':AH} {base:Nat} {e:Ae} {size:Nat} {v:AN} {n:Nat} {xs:List AN} (h:w.ownsRow base e size v n xs) (hb:AK w w'):w'.ownsRow base e size v n xs:=
 h.kept (row:=none) ⟨hb.os,hb.tape,hb.output,hb.size,fun k hk _=>hb.block k hk⟩ gR
structure mB (w:AH) (sc:Array AN) (b1 b2 b3:Nat) (s:BG) (k:Nat) (v:AN) (W:AH):Prop where
 ga:Ng w sc (.map (some b1)) (.map (some b2)) (.map (some b3)) v W
 m1:MapAt IY Gv W b1 (col s.Bh).1
 m2:MapAt IY Gv W b2 (col (Ho s)).1
 m3:MapAt IY Gv W b3 (col (CM s)).1
 row:∃cs,W.ownsRow (w.heap.size+2) 268 1 v k cs/\Ap 1 QG W cs ((s.Aq.take k).map fieldMap)
theorem mB.below {w:AH} {sc:Array AN} {b1 b2 b3:Nat} {s:BG} {k:Nat} {v:AN} {W W':AH} (h:mB w sc b1 b2 b3 s k v W) (hb:AK W W'):mB w sc b1 b2 b3 s k v W':=by obtain ⟨cs,h1,h2⟩:=h.row;exact ⟨h.ga.below hb,h.m1.below hb,h.m2.below hb,h.m3.below hb,cs,own_below h1 hb,h2.mono Xz hb⟩
theorem mB.next {w:AH} {sc:Array AN} {b1 b2 b3:Nat} {s:BG} {k:Nat} {v v':AN} {W W2:AH} (h:mB w sc b1 b2 b3 s k v W) {x:BM} (hx:s.Aq[k]? =some x) {g:Nat} (hm:MapAt IY Gv W g (fieldMap x))
 {cs:List AN} (ho:W.ownsRow (w.heap.size+2) 268 1 v k cs) (hc:Ap 1 QG W cs ((s.Aq.take k).map fieldMap))
 (ho':W2.ownsRow (w.heap.size+2) 268 1 v' (k+1) (cs++[.map (some g)])) (hg:W.grownBy W2 v.ownBlock):mB w sc b1 b2 b3 s (k+1) v' (W2.setCell ⟨w.heap.size+1,3,none⟩ v'):=by
 have hk1:=CU.own ho hg;have hk:=hk1.trans (CU.put W2 ⟨w.heap.size+1,3,none⟩ v');have hga:=h.ga.grown hg (fun r e=>(ho.lt r e).1);refine ⟨hga.AKE v',h.m1.keeps hk,h.m2.keeps hk,h.m3.keeps hk,cs++[.map (some g)],Pz ho' (a:=⟨w.heap.size+1,3,none⟩) (fun e=>by have:=ho'.lt _ e;simp at this) _,?_⟩;rw [take_snoc hx,DY];exact (hc.keeps hk).append (Ap.one rfl ⟨g,rfl,hm.keeps hk⟩)
theorem yW (s:BG) (w:AH)
 (h1:BV 1 16 Dd w (AA A1 n1 c1) s.Bh) (h2:BV 5 56 CS w (AA A2 n2 c2) s.units) (h3:BV 6 96 BW w (AA A3 n3 c3) s.Aq) (h4:BV 5 96 CT w (AA A4 n4 c4) s.rules) (h6:BV 3 48 BZ w (AA A6 n6 c6) s.purposes):
 AS prog 151 #[AP #[AA A1 n1 c1,AA A2 n2 c2,AA A3 n3 c3,AA A4 n4 c4,AA A5 n5 c5,AA A6 n6 c6]] w (ACm s w):=by
 obtain ⟨H1,H2,H3,H4,H6⟩:=Db h1.1 h2.1 h3 h4.1 h6.1;have hn3:n3<=9223372036854775807:=by have:=h3.1.le;omega
 have hn4:n4<=9223372036854775807:=by have:=h4.1.le;omega
 clear h1 h2 h3 h4 h6;go_enter func151,ntmps151;go_wp2_with fail;have hga:=AEu w #[AA A1 n1 c1,AA A2 n2 c2,AA A3 n3 c3,AA A4 n4 c4,AA A5 n5 c5,AA A6 n6 c6];generalize ((w.alloc (AO #[AA A1 n1 c1,AA A2 n2 c2,AA A3 n3 c3,AA A4 n4 c4,AA A5 n5 c5,AA A6 n6 c6] 29)).alloc (AO #[.map none,.map none,.map none,AA none 0 0] 271))=W0 at hga ⊢;have Hu:=AF hga;clear hga;refine (iz A1 n1 c1 s.Bh _ (H1.o.mono BX Hu.o.old)).mono ?_;rintro e W1 ⟨b1,rfl,hm1,_,hb1⟩;have hga:=Hu.o.below hb1;obtain ⟨k0,k1,k2,k3,k4,k5,r0,r1,r2,r3,f0,f1,f2,f3,lr⟩:=hga.cells;obtain ⟨TU,LI⟩:=Al hga hm1;clear hga hm1 hb1 Hu;go_wp2_with fail;have hga:=TU.o.AKH (.map (some b1));have hm1:=LI.o.keeps (CU.put W1 ⟨w.heap.size+1,0,none⟩ (.map (some b1)));generalize W1.setCell ⟨w.heap.size+1,0,none⟩ (.map (some b1))=W2 at hga hm1 ⊢;clear k0 k1 k2 k3 k4 k5 r0 r1 r2 r3 f0 f1 f2 f3 lr TU LI;refine (eX A2 n2 c2 s.units _ (H2.o.mono Bq hga.old)).mono ?_;rintro e W3 ⟨b2,rfl,hm2,_,hb2⟩;have AEU:=hga.below hb2;obtain ⟨LI,M9⟩:=Al (hm1.below hb2) hm2;obtain ⟨k0,k1,k2,k3,k4,k5,r0,r1,r2,r3,f0,f1,f2,f3,lr⟩:=AEU.cells;have TU:=AF AEU;clear hga AEU hm1 hm2 hb2;obtain ⟨t1,ht1⟩:=BR (Dc s.Bh);obtain ⟨t2,ht2⟩:=BR (Dc (s.units.map (·.name)));rw [ht1,ht2];obtain ⟨HT1,HT2⟩:=Al ht1 ht2;clear ht1 ht2;go_upto_region 5 with fail;have hga:=TU.o.AKG (.map (some b2));have hkp:=CU.put W3 ⟨w.heap.size+1,1,none⟩ (.map (some b2));generalize W3.setCell ⟨w.heap.size+1,1,none⟩ (.map (some b2))=W4 at hga hkp ⊢;replace LI:=AF (LI.o.keeps hkp);replace M9:=AF (M9.o.keeps hkp);clear k0 k1 k2 k3 k4 k5 r0 r1 r2 r3 f0 f1 f2 f3 lr TU hkp;have Hu:=AF hga;clear hga;go_cut [3] (fun x3 wx=>x3=Ab (t1 || t2)/\W4=wx)
 case first=>
  cases t1
  all_goals
   go_wp2
   go_meet
   exact ⟨rfl,rfl⟩
 case rest=>
 obtain ⟨rfl,rfl⟩:=hcut;obtain ⟨k0,k1,k2,k3,k4,k5,r0,r1,r2,r3,f0,f1,f2,f3,lr⟩:=Hu.o.cells;go_wp2_with fail;refine (Z1 A3 n3 c3 s.Aq _ (H3.o.1.mono BP Hu.o.old)).mono ?_;rintro e W5 ⟨b3,rfl,ER,_,hb3⟩;have hga:=Hu.o.below hb3;replace LI:=AF (LI.o.below hb3);replace M9:=AF (M9.o.below hb3);have Ht:=AF ER;clear k0 k1 k2 k3 k4 k5 r0 r1 r2 r3 f0 f1 f2 f3 lr ER hb3 Hu;obtain ⟨k0,k1,k2,k3,k4,k5,r0,r1,r2,r3,f0,f1,f2,f3,lr⟩:=hga.cells;have TU:=AF hga;clear hga;obtain ⟨t3,ht3⟩:=BR (Dc (s.Aq.map (·.name)));rw [ht3];have HT3:=AF ht3;clear ht3;go_upto_region 7 with fail;have hga:=TU.o.AKF (.map (some b3));have hkp:=CU.put W5 ⟨w.heap.size+1,2,none⟩ (.map (some b3));generalize W5.setCell ⟨w.heap.size+1,2,none⟩ (.map (some b3))=W6 at hga hkp ⊢;replace LI:=AF (LI.o.keeps hkp);replace M9:=AF (M9.o.keeps hkp);replace Ht:=AF (Ht.o.keeps hkp);clear k0 k1 k2 k3 k4 k5 r0 r1 r2 r3 f0 f1 f2 f3 lr TU hkp;have Hu:=AF hga;clear hga;obtain ⟨t12,AEA⟩:=BR ((t1 || t2));rw [AEA];have AIy:=AF AEA;clear AEA;go_cut [3] (fun x3 wx=>x3=Ab (t12 || t3)/\W6=wx)
 case first=>
  cases t12
  all_goals
   go_wp2
   go_meet
   exact ⟨rfl,rfl⟩
 case rest=>
 obtain ⟨rfl,rfl⟩:=hcut;obtain ⟨k0,k1,k2,k3,k4,k5,r0,r1,r2,r3,f0,f1,f2,f3,lr⟩:=Hu.o.cells;go_wp2_with fail;refine (YT A6 n6 c6 s.purposes _ (H6.o.mono BQ Hu.o.old)).mono ?_;rintro e W7 ⟨b4,rfl,_,_,hb4⟩;have hga:=Hu.o.below hb4;replace LI:=AF (LI.o.below hb4);replace M9:=AF (M9.o.below hb4);replace Ht:=AF (Ht.o.below hb4);clear k0 k1 k2 k3 k4 k5 r0 r1 r2 r3 f0 f1 f2 f3 lr hb4 Hu;obtain ⟨k0,k1,k2,k3,k4,k5,r0,r1,r2,r3,f0,f1,f2,f3,lr⟩:=hga.cells;have Hu:=AF hga;clear hga;obtain ⟨t4,ht4⟩:=BR (Dc (s.purposes.map (·.name)));obtain ⟨ACx,xw⟩:=BR ((t12 || t3));rw [ht4,xw];obtain ⟨HT4,AGE⟩:=Al ht4 xw;clear ht4 xw;go_upto_region 9 with fail;go_cut [3] (fun x3 wx=>x3=Ab (ACx || t4)/\W7=wx)
 case first=>
  cases ACx
  all_goals
   go_wp2
   go_meet
   exact ⟨rfl,rfl⟩
 case rest=>
 obtain ⟨rfl,rfl⟩:=hcut;obtain ⟨t0,ht0⟩:=BR ((ACx || t4));rw [ht0];have HT0:AI ((Dc s.Bh || Dc (Ho s) || Dc (CM s) || Dc (O4 s))=t0):=by show _=_;rw [HT1.o,show Dc (Ho s)=t2 from HT2.o,show Dc (CM s)=t3 from HT3.o,show Dc (O4 s)=t4 from HT4.o,AIy.o,AGE.o,ht0]
 clear ht0 HT1 HT2 HT3 HT4 AIy AGE;go_wp2_with fail;clear k0 k1 k2 k3 k4 k5 r0 r1 r2 r3 f0 f1 f2 f3 lr;have HL0:AI (mB w #[AA A1 n1 c1,AA A2 n2 c2,AA A3 n3 c3,AA A4 n4 c4,AA A5 n5 c5,AA A6 n6 c6] b1 b2 b3 s 0 (AA none 0 0) W7):=⟨Hu.o,LI.o,M9.o,Ht.o,[],Ef _ _ _ _,Ap.nil⟩;clear Hu LI M9 Ht;have hlen3:=H3.o.1.len;have AMZ:n3*96<=140737488355328:=by rw [hlen3];exact H3.o.2
 have Yt:=AF hlen3;clear hlen3;obtain ⟨i0,hi,hz0,hz1,hz2⟩:=I8 AGv;go_loopg [3,63] n3 (fun g t i wr=>∃(k:Nat) (v:AN),k<=n3/\g=n3 - k/\i=AB AE k/\t=Ab (t0 || (s.Aq.take k).any (fun x=>Dc (fieldNames x)))/\mB w #[AA A1 n1 c1,AA A2 n2 c2,AA A3 n3 c3,AA A4 n4 c4,AA A5 n5 c5,AA A6 n6 c6] b1 b2 b3 s k v wr)
 case atStart=>exact ⟨0,_,Ay _,rfl,rfl,by simp,HL0.o⟩
 clear HL0;obtain ⟨k,v,hk,hg,rfl,rfl,hL⟩:=hrel;obtain ⟨HG,HL⟩:=Al hg hL;clear hg hL;obtain ⟨tk,htk⟩:∃t,(t0 || (s.Aq.take k).any (fun x=>Dc (fieldNames x)))=t:=⟨_,rfl⟩;rw [htk];have TM:=AF htk;clear htk;by_cases hlt:k < n3
 ·obtain ⟨xb,off,x,y1,m1,d1,y2,m2,d2,rfl,hxb,hx,e0,e1,e2,e3,e4,e5,hf,_⟩:=GL (H3.o.1.mono BP HL.o.ga.old) hlt
  obtain ⟨HX,HF⟩:=Al hx hf.1;clear hx hf;go_wp2_with fail;have hba:AK wr (wr.alloc (AO #[AL x.name,AL x.FX,AB AE x.Ar,AB AE x.version,AA y1 m1 d1,AA y2 m2 d2] 85)):=(Af _ _).alloc (Ac _) _;generalize (wr.alloc (AO #[AL x.name,AL x.FX,AB AE x.Ar,AB AE x.version,AA y1 m1 d1,AA y2 m2 d2] 85))=wz at hba ⊢;clear e0 e1 e2 e3 e4 e5 hxb;refine (cE y1 m1 d1 x.fields _ (HF.o.mono DC hba)).mono ?_;rintro e W8 ⟨g,rfl,hmg,_,hb8⟩;have hL8:=(HL.o.below hba).below hb8;clear hba hb8 HL;obtain ⟨tf,htf⟩:=BR (Dc (x.fields.map (·.name)));rw [htf];have vq:AI (Dc (fieldNames x)=tf):=htf;clear htf;have aW:=AF hmg;clear hmg;obtain ⟨cs,ho,hc⟩:=hL8.row;obtain ⟨vA,vn,vc,rfl⟩:=bF ho;obtain ⟨k0,k1,k2,k3,k4,k5,r0,r1,r2,r3,f0,f1,f2,f3,lr⟩:=hL8.ga.cells;obtain ⟨HO,HC,HL8⟩:=BB ho hc hL8;clear ho hc hL8;cases tk
  all_goals
   go_wp2_with (at_builtin;refine wpList_append_own_at _ rfl (.tmp 77) (.tmp 79) 269 rfl (w.heap.size+2) 268 i0 (.map none) 1 8 underlying269 hi hz0 hz1 hz2 rfl Ai (AA vA vn vc) k cs rfl (HO.o.alloc _) ⟨W8.heap.size,0,none⟩ 1 1 [.map (some g)] rfl rfl (cell_one_new _ _ _) Qi Gx AG (by have:=HL8.o.ga.br.lt;simp;omega) ?_;intro v' W9 hown' hgrow hnil hat;obtain ⟨vA',vn',Ml,rfl⟩:=bF hown';have ce:=((HL8.o.ga.below (BK _ _)).grown hgrow (fun r e=>(HO.o.lt r e).1)).br.cell 3;have fe:=((HL8.o.ga.below (BK _ _)).grown hgrow (fun r e=>(HO.o.lt r e).1)).br.frozen 3;simp only [Aj,Ao,BA] at ce;have HO9:=AF hown';have HG9:=AF hgrow;clear hown' hgrow hnil hat);go_roundg (n3 - (k+1))
   case measure=>exact Ej
   refine ⟨k+1,_,by omega,rfl,by go_num,?_,(HL8.o.below (BK _ _)).next HX.o (aW.o.below (BK _ _)) (HO.o.alloc _) (HC.o.mono Xz (BK _ _)) HO9.o HG9.o⟩;rw [take_snoc HX.o,List.any_append,<-Bool.or_assoc,TM.o];simp [vq.o]
 have hke:k=s.Aq.length:=by have:=Yt.o;omega
 have fI:AI ((Dc s.Bh || Dc (Ho s) || Dc (CM s) || Dc (O4 s) || s.Aq.any (fun x=>Dc (fieldNames x)))=tk):=by have:=TM.o;rw [hke,Ps] at this;show _=_;rw [HT0.o];exact this
 obtain ⟨k0,k1,k2,k3,k4,k5,r0,r1,r2,r3,f0,f1,f2,f3,lr⟩:=HL.o.ga.cells;have ae:=AF hke;clear hke HT0 TM HG;obtain ⟨w8,rfl⟩:=Ad (wr:AH);go_wp2_with fail;clear k0 k1 k2 k3 k4 k5 r0 r1 r2 r3 f0 f1 f2 f3 lr hlt hk hi hz0 hz1 hz2;have rQ:=AF H4.o.len;go_loopg [3,91] n4 (fun g t i wr=>∃k:Nat,k<=n4/\g=n4 - k/\i=AB AE k/\t=Ab (tk || (s.rules.take k).any (fun x=>Dc (Ts x)))/\AK w8 wr)
 case atStart=>exact ⟨0,Ay _,rfl,rfl,by simp,Af _ _⟩
 obtain ⟨j,hj,hg,rfl,rfl,hb⟩:=hrel;obtain ⟨HG,HB⟩:=Al hg hb;clear hg hb;obtain ⟨tj,htj⟩:∃t,(tk || (s.rules.take j).any (fun x=>Dc (Ts x)))=t:=⟨_,rfl⟩;rw [htj];have HTJ:=AF htj;clear htj;by_cases hlt:j < n4
 ·obtain ⟨xb,off,x,y1,m1,d1,y2,m2,d2,y3,m3,d3,rfl,hxb,hx,e0,e1,e2,e3,e4,hf,_,_⟩:=QB (H4.o.mono Bf (HL.o.ga.below HB.o).old) hlt
  obtain ⟨HX,HF⟩:=Al hx hf.1;clear hx hf;go_wp2_with fail;have hba:AK wr (wr.alloc (AO #[AL x.head,AB AE x.schema,AA y1 m1 d1,AA y2 m2 d2,AA y3 m3 d3] 160)):=(Af _ _).alloc (Ac _) _;generalize (wr.alloc (AO #[AL x.head,AB AE x.schema,AA y1 m1 d1,AA y2 m2 d2,AA y3 m3 d3] 160))=wz at hba ⊢;clear e0 e1 e2 e3 e4 hxb;refine (eY y1 m1 d1 x.froms _ (HF.o.mono EW hba)).mono ?_;rintro e W8 ⟨g,rfl, -, -,hb8⟩;have IH:=AF ((AV HB.o hba).trans (hb8.mono (BH HB.o.size hba.size)));clear hba hb8;obtain ⟨tf,htf⟩:=BR (Dc (x.froms.map (·.name)));rw [htf];have vq:AI (Dc (Ts x)=tf):=htf;clear htf;cases tj
  all_goals
   go_wp2;go_roundg (n4 - (j+1))
   case measure=>exact Ej
   refine ⟨j+1,by omega,rfl,by go_num,?_,IH.o⟩;rw [take_snoc HX.o,List.any_append,<-Bool.or_assoc,HTJ.o];simp [vq.o]
 have HTE:AI (Nq s=tj):=by have h1:=HTJ.o;rw [C7 (by have:=rQ.o;omega)] at h1;show _=_;unfold Nq;rw [fI.o];exact h1
 go_wp2;go_ret2;have hL:=HL.o.below HB.o;obtain ⟨cs,ho,hc⟩:=hL.row;obtain ⟨vA,vn,vc,rfl⟩:=bF ho;refine ⟨w.heap.size+1,by rw [HTE.o];rfl,⟨b1,b2,b3,vA,vn,vc,hL.ga.br,hL.m1,hL.m2,hL.m3,?_⟩,by omega,hL.ga.old⟩;rw [ae.o,Ps] at hc;exact B9 ho hc (by rw [ae.o];simp)
def JM:BG:=⟨[],[],[],[],[],[]⟩
def QE (
 s:BG):Option BG:=
 match Se (Ho s) s.units with
 | none=>none
 |
  some us=>match GJ (fun _=>F7 s) s.Aq with
  | none=>none
  |
   some ss=>match GJ (fun _=>Gr s) s.rules with
   | none=>none
   |
    some rs=>match GJ (fun _=>FD s) s.converts with
    | none=>none
    |
     some cs=>match GJ (fun _=>G6 s) s.purposes with
     | none=>none
     | some ps=>some {s with units:=us,Aq:=ss,rules:=rs,converts:=cs,purposes:=ps}
def G5 (s:BG):Int×BG:=
 if Nq s=true then (111,JM)
 else match QE s with
  | none=>(110,JM)
  | some x=>(0,x)
def WX (s:BG) (w:AH) (e:Ending) (w':AH):Prop:=
 ∃cs:List AN,e=AW (BU #[.agg cs.toArray,AB AE (G5 s).1])/\bC w' cs (G5 s).2/\AK w w'
def Row {α:Type} (lo M L U:Nat) (T:Ae) (sz:Nat) (R:AH->List AN->α->Prop) (v:AN) (l:List α) (wr:AH):Prop:=
 ∃cs,wr.ownsRow L T sz v l.length cs/\(∀r,v.ownBlock=some r->r < U)/\Ap sz R (mask lo M wr) cs l
section
variable {α:Type} {lo M L U:Nat} {T:Ae} {sz:Nat} {R:AH->List AN->α->Prop} {v:AN} {l:List α} {wr w':AH}
theorem Row.kept (h:Row lo M L U T sz R v l wr) (hR:Ep R) {G:Nat} (hg:wr.grownBy w' (some G)) (hlo:lo<=G) (G8:G < M) (hne:G < L\/U<=G):Row lo M L U T sz R v l w':=by obtain ⟨cs,h1,h2,h3⟩:=h;refine ⟨cs,h1.kept hg (.inr (fun e=> ?_)),h2,h3.mono hR (C8 hg hlo G8)⟩;have:=h1.lt _ e;have:=h2 _ e;omega
theorem Row.below (h:Row lo M L U T sz R v l wr) (hR:Ep R) (hb:AK wr w'):Row lo M L U T sz R v l w':=by obtain ⟨cs,h1,h2,h3⟩:=h;exact ⟨cs,Cs h1 hb,h2,h3.mono hR (aE hb)⟩
theorem Row.sl (h:Row lo M L U T sz R v l wr) (hR:Nx R):Ag sz R wr v l:=by obtain ⟨cs,h1,h2,h3⟩:=h;exact B9 h1 (h3.Ig hR) rfl
theorem Row.form (h:Row lo M L U T sz R v l wr):∃A c,v=AA A l.length c:=by obtain ⟨cs,h1,h2,h3⟩:=h;obtain ⟨A,m,c,rfl,rfl⟩:=Gg h1;exact ⟨A,c,rfl⟩
theorem Row.at (h:Row lo M L U T sz R v l wr) {i:Nat} {x:α} (hi:l[i]? =some x):∃G cap cs,v=AA (some ⟨G,0,none⟩) l.length cap/\L<=G/\G < U/\wr.ownsRow L T sz (AA (some ⟨G,0,none⟩) l.length cap) l.length cs/\R (mask lo M wr) (chunk cs sz i) x/\i < l.length/\l.length<=9223372036854775807/\
 ∀(y:α) (w':AH),wr.grownBy w' (some G)->lo<=G->G < M->Ep R->(∃cs',w'.ownsRow L T sz (AA (some ⟨G,0,none⟩) l.length cap) l.length cs'/\(∀j,j≠i->chunk cs' sz j=chunk cs sz j)/\R (mask lo M w') (chunk cs' sz i) y)->Row lo M L U T sz R v (l.set i y) w':=by
 obtain ⟨cs,h1,h2,h3⟩:=h;have hil:=(BF.1 hi).1;rcases Jl h1 with ⟨rfl,h0⟩ | ⟨G,cap,rfl,hG,VZ,hn⟩
 · omega
 refine ⟨G,cap,cs,rfl,hG,h2 G rfl,h1,h3.chunk hi,hil,hn,fun y w' hg hlo G8 hR ⟨cs',h4,h5,h6⟩=>⟨cs',by rw [D7];exact h4,h2,?_⟩⟩;have h7:=h3.mono hR (C8 hg hlo G8);refine ⟨by rw [D7];exact h4.1,fun j z hz=> ?_⟩;rw [OT] at hz;by_cases e:i=j
 ·subst e
  rw [Ak rfl,Ak hil,Bz] at hz;subst hz;exact h6
 rw [Ah e] at hz;show R _ (chunk cs' sz j) z;rw [h5 j (fun e'=>e e'.symm)];exact h7.2 j z hz
end
structure St (w0:AH) (lo M R B D L2 L3 L4 L5 L6:Nat) (s:BG) (v1 v2 v3 v4 v5 v6:AN) (e0:Int) (us:List Bv) (ss:List BM) (rs:List Cm) (cs:List DH) (ps:List Cl) (wr:AH):Prop where
 old:AK w0 wr
 size:M<=wr.heap.size
 res:KJ (mask lo M wr) R s
 b0:wr.cell? ⟨B,0,none⟩=some v1
 b1:wr.cell? ⟨B,1,none⟩=some v2
 b2:wr.cell? ⟨B,2,none⟩=some v3
 b3:wr.cell? ⟨B,3,none⟩=some v4
 b4:wr.cell? ⟨B,4,none⟩=some v5
 b5:wr.cell? ⟨B,5,none⟩=some v6
 bz:∀j,wr.frozen? ⟨B,j,none⟩=false
 d0:wr.cell? ⟨D,0,none⟩=some (AB AE e0)
 dz:wr.frozen? ⟨D,0,none⟩=false
 r1:Row lo M lo L2 9 1 Dd v1 s.Bh wr
 r2:Row lo M L2 L3 201 5 CS v2 us wr
 r3:Row lo M L3 L4 85 6 BW v3 ss wr
 r4:Row lo M L4 L5 160 5 CT v4 rs wr
 r5:Row lo M L5 L6 163 5 CF v5 cs wr
 r6:Row lo M L6 M 166 3 BZ v6 ps wr
structure Fall (w0:AH) (B D:Nat) (v1 v2 v3 v4 v5 v6:AN) (e0:Int) (wr:AH):Prop where
 old:AK w0 wr
 hB:B < wr.heap.size
 hD:D < wr.heap.size
 b0:wr.cell? ⟨B,0,none⟩=some v1
 b1:wr.cell? ⟨B,1,none⟩=some v2
 b2:wr.cell? ⟨B,2,none⟩=some v3
 b3:wr.cell? ⟨B,3,none⟩=some v4
 b4:wr.cell? ⟨B,4,none⟩=some v5
 b5:wr.cell? ⟨B,5,none⟩=some v6
 bz:∀j,wr.frozen? ⟨B,j,none⟩=false
 d0:wr.cell? ⟨D,0,none⟩=some (AB AE e0)
 dz:wr.frozen? ⟨D,0,none⟩=false
section
variable {w0:AH} {lo M R B D L2 L3 L4 L5 L6:Nat} {s:BG} {v1 v2 v3 v4 v5 v6:AN} {e0:Int} {us:List Bv} {ss:List BM} {rs:List Cm} {cs:List DH} {ps:List Cl} {wr w':AH}
theorem St.turn (h:St w0 lo M R B D L2 L3 L4 L5 L6 s v1 v2 v3 v4 v5 v6 e0 us ss rs cs ps wr) {G:Nat} (hg:wr.grownBy w' (some G)) (hlo:lo<=G) (G8:G < M) (hw0:w0.heap.size<=lo) (hB:B < lo) (hD:D < lo)
 {us':List Bv} {ss':List BM} {rs':List Cm} {cs':List DH} {ps':List Cl}
 (k2:(us'=us/\(G < L2\/L3<=G))\/Row lo M L2 L3 201 5 CS v2 us' w') (k3:(ss'=ss/\(G < L3\/L4<=G))\/Row lo M L3 L4 85 6 BW v3 ss' w') (k4:(rs'=rs/\(G < L4\/L5<=G))\/Row lo M L4 L5 160 5 CT v4 rs' w')
 (k5:(cs'=cs/\(G < L5\/L6<=G))\/Row lo M L5 L6 163 5 CF v5 cs' w') (k6:(ps'=ps/\(G < L6\/M<=G))\/Row lo M L6 M 166 3 BZ v6 ps' w') (k1:L2<=G):St w0 lo M R B D L2 L3 L4 L5 L6 s v1 v2 v3 v4 v5 v6 e0 us' ss' rs' cs' ps' w':=by
 have hb:BL lo wr w':=⟨hg.os,hg.tape,hg.output,hg.size,fun k hk=>hg.block k (by have:=h.size;omega) (fun e=>by injection e;omega)⟩;refine ⟨h.old.trans (hb.mono hw0),BH h.size hg.size,h.res.below (C8 hg hlo G8),(hb.cell hB).trans h.b0,(hb.cell hB).trans h.b1,(hb.cell hB).trans h.b2,(hb.cell hB).trans h.b3,(hb.cell hB).trans h.b4,(hb.cell hB).trans h.b5,fun j=>(hb.frozen (p:=⟨B,j,none⟩) hB).trans (h.bz j),(hb.cell hD).trans h.d0,(hb.frozen hD).trans h.dz,h.r1.kept BX hg hlo G8 (.inr k1),?_,?_,?_,?_,?_⟩
 ·rcases k2 with ⟨rfl,k⟩ | k
  · exact h.r2.kept Bq hg hlo G8 k
  · exact k
 ·rcases k3 with ⟨rfl,k⟩ | k
  · exact h.r3.kept BP hg hlo G8 k
  · exact k
 ·rcases k4 with ⟨rfl,k⟩ | k
  · exact h.r4.kept Bf hg hlo G8 k
  · exact k
 ·rcases k5 with ⟨rfl,k⟩ | k
  · exact h.r5.kept Bo hg hlo G8 k
  · exact k
 rcases k6 with ⟨rfl,k⟩ | k
 · exact h.r6.kept BQ hg hlo G8 k
 · exact k
theorem St.below (h:St w0 lo M R B D L2 L3 L4 L5 L6 s v1 v2 v3 v4 v5 v6 e0 us ss rs cs ps wr) (hb:AK wr w') (hw0:w0.heap.size<=lo) (eM:lo<=M) (hB:B < lo) (hD:D < lo):St w0 lo M R B D L2 L3 L4 L5 L6 s v1 v2 v3 v4 v5 v6 e0 us ss rs cs ps w':=by
 have hM:=h.size;have hB':B < wr.heap.size:=AG
 have hD':D < wr.heap.size:=AG
 exact ⟨h.old.trans (hb.mono AG),BH h.size hb.size,h.res.below (aE hb),(hb.cell (p:=⟨B,0,none⟩) hB').trans h.b0,(hb.cell (p:=⟨B,1,none⟩) hB').trans h.b1,(hb.cell (p:=⟨B,2,none⟩) hB').trans h.b2,(hb.cell (p:=⟨B,3,none⟩) hB').trans h.b3,(hb.cell (p:=⟨B,4,none⟩) hB').trans h.b4,(hb.cell (p:=⟨B,5,none⟩) hB').trans h.b5,fun j=>(hb.frozen (p:=⟨B,j,none⟩) hB').trans (h.bz j),(hb.cell (p:=⟨D,0,none⟩) hD').trans h.d0,(hb.frozen (p:=⟨D,0,none⟩) hD').trans h.dz,h.r1.below BX hb,h.r2.below Bq hb,h.r3.below BP hb,h.r4.below Bf hb,h.r5.below Bo hb,h.r6.below BQ hb⟩
theorem St.fall (h:St w0 lo M R B D L2 L3 L4 L5 L6 s v1 v2 v3 v4 v5 v6 e0 us ss rs cs ps wr) {row:Option Nat} (hg:wr.grownBy w' row) (hr:∀r,row=some r->lo<=r) (hw0:w0.heap.size<=lo) (eM:lo<=M) (hB:B < lo) (hD:D < lo):Fall w0 B D v1 v2 v3 v4 v5 v6 e0 w':=by have hM:=h.size;have hb:BL lo wr w':=⟨hg.os,hg.tape,hg.output,hg.size,fun k hk=>hg.block k AG (fun e=>by have:=hr k e.symm;omega)⟩;have hs:=hg.size;exact ⟨h.old.trans (hb.mono hw0),by omega,by omega,(hb.cell hB).trans h.b0,(hb.cell hB).trans h.b1,(hb.cell hB).trans h.b2,(hb.cell hB).trans h.b3,(hb.cell hB).trans h.b4,(hb.cell hB).trans h.b5,fun j=>(hb.frozen (p:=⟨B,j,none⟩) hB).trans (h.bz j),(hb.cell hD).trans h.d0,(hb.frozen hD).trans h.dz⟩
end
theorem catch_idle (p q:Aa) (w:AH):
 CallsD prog 152 #[AU (some p),AU (some q)] .returning w fun e u' w'=>e=AW (BU #[])/\u'=.returning/\w'=w:=by
 refine OS func152 rfl fun c₀ cs hu=> ?_;apply wpS_seq;apply OM;simp [wpOpsS,go_sem,recoverD,hu,ntmps152,Exit.thenS];refine OL ?_;change Code.wp _ _ _ {tmps:=#[AU (some p),AU (some q),.nilIface,undef,undef,.nilIface,undef,undef,undef,undef,undef,undef,undef,undef,undef,undef,undef],defers:=[]} w;go_wp2_with fail;cases c₀;simp_all [bodyPostS,results,results152]
theorem mW (B D:Nat) (v0 v1 v2 v3 v4 v5:AN) (e0:Int) (w:AH) (h0:w.cell? ⟨B,0,none⟩=some v0) (h1:w.cell? ⟨B,1,none⟩=some v1) (h2:w.cell? ⟨B,2,none⟩=some v2) (h3:w.cell? ⟨B,3,none⟩=some v3) (h4:w.cell? ⟨B,4,none⟩=some v4) (h5:w.cell? ⟨B,5,none⟩=some v5)
 (hz:∀j,w.frozen? ⟨B,j,none⟩=false) (hd:w.cell? ⟨D,0,none⟩=some (AB AE e0)) (hdz:w.frozen? ⟨D,0,none⟩=false) (hB:B < w.heap.size) (hD:D < w.heap.size) (hBD:B≠D):
 CallsD prog 152 #[AU (some ⟨B,0,none⟩),AU (some ⟨D,0,none⟩)] (.panicking Bu) w fun e u' w'=>
  e=AW (BU #[])/\u'=.panicking [{v:=.iface 257 (AP #[]),recovered:=true}]/\(w'.cell? ⟨B,0,none⟩=some (AA none 0 0)/\w'.cell? ⟨B,1,none⟩=some (AA none 0 0)/\w'.cell? ⟨B,2,none⟩=some (AA none 0 0)/\w'.cell? ⟨B,3,none⟩=some (AA none 0 0)/\w'.cell? ⟨B,4,none⟩=some (AA none 0 0)/\w'.cell? ⟨B,5,none⟩=some (AA none 0 0)/\w'.cell? ⟨D,0,none⟩=some (AB AE 110))/\
  ∀base,base<=B->base<=D->BL base w w':=by
 unfold Bu;have hDB:D≠B:=Ne.symm hBD;have hta:∀w:AH,(Instr.typeAssert (.iface 257 (AP #[])) 20 257 true).run prog w=.ok (BU #[AP #[],Ab true]) w:=fun w=>by simp [Instr.typeAssert,run_underlying underlying257,go_sem,Result.andThen]
 have z0:=hz 0;have z1:=hz 1;have z2:=hz 2;have z3:=hz 3;have z4:=hz 4;have z5:=hz 5;clear hz;refine OS func152 rfl fun c₀ cs hu=> ?_;apply wpS_seq;apply OM;simp [wpOpsS,go_sem,recoverD,hu,ntmps152,Exit.thenS];refine OL ?_;change Code.wp _ _ _ {tmps:=#[AU (some ⟨B,0,none⟩),AU (some ⟨D,0,none⟩),.iface 257 (AP #[]),undef,undef,.iface 257 (AP #[]),undef,undef,undef,undef,undef,undef,undef,undef,undef,undef,undef],defers:=[]} w;go_wp2_with fail;refine ⟨rfl,.panicking [{v:=.iface 257 (AP #[]),recovered:=true}],rfl,BU #[],by simp [results,results152],rfl,rfl,?_,fun base hb1 hb2=> ?_⟩
 · simp [go_sem, *]
 · exact (((((((((Af _ _).setCell SB _).setCell SB _).setCell SB _).setCell SB _).setCell SB _).setCell SB _).setCell (by exact hb2) _)).alloc (by simp [World.setCell];omega) _
theorem qn {w:AH} {t:Ae} {cs:Array AN} {g:Nat} (h:w.heap.size=g):AY (w.alloc (AO cs t)) g t cs:=by subst h;exact AY.new _ _ _
theorem Js {w:AH} {b o:Nat} {v:AN} (h:w.cell? ⟨b,o,none⟩=some v):w.setCell ⟨b,o,none⟩ v=w:=by
 have e:(
  w.setCell ⟨b,o,none⟩ v).heap=w.heap:=by
  unfold World.setCell;simp only;apply R3;intro k;rw [tX];by_cases hk:b=k
  ·subst hk
   rw [Ak rfl];cases hb:w.heap[b]? with
   | none=>rfl
   |
    some x=>
    cases x with
    |
     cells c elem frozen=>
     simp only [C6,IV,IU,He,Bz];have hc:c[o]? =some v:=by simpa [World.cell?,hb] using h
     congr 1;apply R3;intro q;rw [R9];by_cases hq:o=q
     ·subst hq
      rw [Ak rfl,hc,Ak (DF.1 hc).1]
     · rw [Ah hq]
    | _=>rfl
  · rw [Ah hk]
 show ({w with heap:=(w.setCell ⟨b,o,none⟩ v).heap}:AH)=w;rw [e]
theorem aC (w:AH):bC w [AA none 0 0,AA none 0 0,AA none 0 0,AA none 0 0,AA none 0 0,AA none 0 0] JM:=
 ⟨none,0,0,none,0,0,none,0,0,none,0,0,none,0,0,none,0,0,rfl,⟨Ag.nil _ _ (Ay _),by simp [JM]⟩,⟨Ag.nil _ _ (Ay _),by simp [JM]⟩,⟨Ag.nil _ _ (Ay _),by simp [JM]⟩,⟨Ag.nil _ _ (Ay _),by simp [JM]⟩,⟨Ag.nil _ _ (Ay _),by simp [JM]⟩,⟨Ag.nil _ _ (Ay _),by simp [JM]⟩⟩
theorem pO {lo M B j:Nat} {w:AH} {v:AN} (hB:B < lo):(mask lo M w).setCell ⟨B,j,none⟩ v=mask lo M (w.setCell ⟨B,j,none⟩ v):=by
 unfold mask World.setCell;simp only;congr 1;apply R3;intro k;simp only [tX,R6];by_cases e:B=k
 ·subst e
  rw [Ak rfl,Ak rfl,Option.map_map,Option.map_map];congr 1;funext o;simp only [Function.comp];rw [Ah AG,Ah AG]
 · rw [Ah e,Ah e]
theorem KJ.put {w:AH} {R B j:Nat} {s:BG} {t:Ae} {cs:Array AN} (h:KJ w R s) (k:AY w B t cs) (hs:∀(i:Nat) b,cs[i]? ≠some (Value.map b)) (hne:R≠B) (v:AN):KJ (w.setCell ⟨B,j,none⟩ v) R s:=by
 obtain ⟨b1,b2,b3,A,n,c,h0,h1,h2,h3,h4⟩:=h;refine ⟨b1,b2,b3,A,n,c,h0.far hne _,h1.keeps (.put _ _ _),h2.keeps (.put _ _ _),h3.keeps (.put _ _ _),?_⟩;obtain ⟨A',cap,e,g1,g2,g3⟩:=h4;refine ⟨A',cap,e,g1,g2,fun i x hi=> ?_⟩;obtain ⟨b,off,cl,rfl,hlt,hl,hc,g,rfl,hm⟩:=g3 i x hi;have hbB:b≠B:=fun e=>by subst e;have:=hc 0 _ rfl;rw [k.cell] at this;exact hs _ _ this
 refine ⟨b,off,_,rfl,by simpa [World.setCell] using hlt,hl,fun q u hu=> ?_,g,rfl,hm.keeps (.put _ _ _)⟩;rw [ZS _ _ _ _ (fun e=>by injection e with e1;exact hbB e1.symm)];exact hc q u hu
theorem VS (a1 a2 a3 a4 a5 a6:Option Aa) (n1 n2 n3 n4 n5 n6 c1 c2 c3 c4 c5 c6:Nat):∀(i:Nat) b,(#[AA a1 n1 c1,AA a2 n2 c2,AA a3 n3 c3,AA a4 n4 c4,AA a5 n5 c5,AA a6 n6 c6]:Array AN)[i]? ≠some (Value.map b):=by intro i b;rcases i with _ | _ | _ | _ | _ | _ | i <;> simp
theorem QA {lo M:Nat} {w:AH} {R B j:Nat} {s:BG} {t:Ae} {cs:Array AN} (h:KJ (mask lo M w) R s) (k:AY w B t cs) (hs:∀(i:Nat) b,cs[i]? ≠some (Value.map b)) (hB:B < lo) (hne:R≠B) (v:AN):KJ (mask lo M (w.setCell ⟨B,j,none⟩ v)) R s:=by rw [<-pO hB];exact h.put (show AY (mask lo M w) B t cs from (Hq (.inl hB)).trans k) hs hne v
theorem Xc {wg w':AH} {g:Nat} {t:Ae} {v1 v2 v3 v4 v5 v6:AN} (k:AY wg g t #[v1,v2,v3,v4,v5,v6]) (hb:BL (g+1) wg w'):w'.cell? ⟨g,0,none⟩=some v1/\w'.cell? ⟨g,1,none⟩=some v2/\w'.cell? ⟨g,2,none⟩=some v3/\w'.cell? ⟨g,3,none⟩=some v4/\w'.cell? ⟨g,4,none⟩=some v5/\w'.cell? ⟨g,5,none⟩=some v6/\BL (g+1) wg w':=by have k':=k.below hb AG;exact ⟨k'.cell 0,k'.cell 1,k'.cell 2,k'.cell 3,k'.cell 4,k'.cell 5,hb⟩
theorem iI {wg wc wx:AH} {g:Nat} (h:BL (g+1) wg wc) (hs:g+1<=wg.heap.size) (hb:AK wc wx):BL (g+1) wg wx:=h.trans (hb.mono (BH hs h.size))
theorem VD {α:Type} {sz bytes:Nat} {R:AH->List AN->α->Prop} {w wg wc:AH} {v:AN} {l:List α} (h:BV sz bytes R w v l) (ho:AK w wg) (hb:BL (w.heap.size+1) wg wc):BV sz bytes (fun _=>R w) wc v l:=⟨h.1.fix (ho.trans (hb.mono (Et _))),h.2⟩
theorem mkRow {α:Type} {lo M L U:Nat} {T:Ae} {sz:Nat} {R:AH->List AN->α->Prop} {v:AN} {l:List α} {w wx wk w7:AH} {cs:List AN} (hR:Ep R) (hc:Ap sz (fun _=>R w) wx cs l) (ho:wk.ownsRow L T sz v l.length cs) (hU:wk.heap.size<=U) (h7:w7.ownsRow L T sz v l.length cs) (hold:AK w w7) (hlo:w.heap.size<=lo):Row lo M L U T sz R v l w7:=
 ⟨cs,h7,fun r e=>Av (ho.lt r e).2 hU,Ap.mono hR (WI w hold hlo) ⟨hc.1,hc.2⟩⟩
theorem iU {wk w6:AH} {L:Nat} {T:Ae} {sz n:Nat} {v:AN} {cs:List AN} {B:Nat} (ho:wk.ownsRow L T sz v n cs) (hb:AK wk w6) (hB:B < L) (u0 u1 u2 u3 u4 u5:AN):
 ((((((w6.setCell ⟨B,0,none⟩ u0).setCell ⟨B,1,none⟩ u1).setCell ⟨B,2,none⟩ u2).setCell ⟨B,3,none⟩ u3).setCell ⟨B,4,none⟩ u4).setCell ⟨B,5,none⟩ u5).ownsRow L T sz v n cs:=
 Hj (Hj (Hj (Hj (Hj (Hj (Cs ho hb) hB _) hB _) hB _) hB _) hB _) hB _
theorem Qv {tmps:Array AN} {w wr:AH} {B D:Nat} {s:BG} {v1 v2 v3 v4 v5 v6:AN} {e0:Int} (h:Fall w B D v1 v2 v3 v4 v5 v6 e0 wr) (hBw:w.heap.size<=B) (hDw:w.heap.size<=D) (hBD:B≠D)
 (hP:G5 s=(110,JM))
 (hr:∀w'':AH,w''.cell? ⟨B,0,none⟩=some (AA none 0 0)->w''.cell? ⟨B,1,none⟩=some (AA none 0 0)->w''.cell? ⟨B,2,none⟩=some (AA none 0 0)->w''.cell? ⟨B,3,none⟩=some (AA none 0 0)->w''.cell? ⟨B,4,none⟩=some (AA none 0 0)->w''.cell? ⟨B,5,none⟩=some (AA none 0 0)->w''.cell? ⟨D,0,none⟩=some (AB AE 110)->
  (results f102 tmps).run prog w''=.ok (BU #[AP #[AA none 0 0,AA none 0 0,AA none 0 0,AA none 0 0,AA none 0 0,AA none 0 0],AB AE 110]) w''):
 Leaves prog f102 tmps (WX s w) [{target:=.fn (.func 152) #[AU (some ⟨B,0,none⟩),AU (some ⟨D,0,none⟩)],args:=#[]}] (.panicking Bu) wr:=by
 refine OP (f:=152) (args:=#[AU (some ⟨B,0,none⟩),AU (some ⟨D,0,none⟩)]) AZ LS ?_;refine (mW B D v1 v2 v3 v4 v5 v6 e0 wr h.b0 h.b1 h.b2 h.b3 h.b4 h.b5 h.bz h.d0 h.dz h.hB h.hD hBD).mono ?_;rintro e u' w'' ⟨rfl,rfl,⟨k0,k1,k2,k3,k4,k5,k6⟩,hb⟩;exact ⟨_,hr w'' k0 k1 k2 k3 k4 k5 k6,[AA none 0 0,AA none 0 0,AA none 0 0,AA none 0 0,AA none 0 0,AA none 0 0],by rw [hP],by rw [hP];exact aC _,h.old.trans (hb _ hBw hDw)⟩
theorem sK (s:BG) (w:AH)
 (h1:BV 1 16 Dd w (AA A1 n1 c1) s.Bh) (h2:BV 5 56 CS w (AA A2 n2 c2) s.units) (h3:BV 6 96 BW w (AA A3 n3 c3) s.Aq) (h4:BV 5 96 CT w (AA A4 n4 c4) s.rules) (h5:BV 5 72 CF w (AA A5 n5 c5) s.converts) (h6:BV 3 48 BZ w (AA A6 n6 c6) s.purposes):
 AS prog 102 #[AP #[AA A1 n1 c1,AA A2 n2 c2,AA A3 n3 c3,AA A4 n4 c4,AA A5 n5 c5,AA A6 n6 c6]] w (WX s w):=by
 obtain ⟨H1,H2,H3,H4,H5,H6⟩:=Fg h1 h2 h3 h4 h5 h6;clear h1 h2 h3 h4 h5 h6;have hmf:∀(fn:Fn) (first cap:Array AN) (w:AH),(Instr.makeFunc fn first cap).run prog w=.ok (.func fn first cap) w:=fun _ _ _ _=>rfl
 go_enter_defers func102,ntmps102
 go_wp2_with fail;obtain ⟨wb,hwb⟩:=Ad (((w.alloc (AO #[AA A1 n1 c1,AA A2 n2 c2,AA A3 n3 c3,AA A4 n4 c4,AA A5 n5 c5,AA A6 n6 c6] 29)).alloc (AO #[AA none 0 0,AA none 0 0,AA none 0 0,AA none 0 0,AA none 0 0,AA none 0 0] 29)).alloc (AO #[AB AE 0] 47));rw [<-hwb];have bP:wb.heap.size=w.heap.size+3:=by rw [hwb];simp
 have hbb:AK w wb:=by rw [hwb];exact ((BK _ _).alloc AZ _).alloc Bd _
 have kS:AY wb w.heap.size 29 #[AA A1 n1 c1,AA A2 n2 c2,AA A3 n3 c3,AA A4 n4 c4,AA A5 n5 c5,AA A6 n6 c6]:=by rw [hwb];exact ((AY.new _ _ _).alloc _).alloc _
 have kB:AY wb (w.heap.size+1) 29 #[AA none 0 0,AA none 0 0,AA none 0 0,AA none 0 0,AA none 0 0,AA none 0 0]:=by rw [hwb];exact (qn AZ).alloc _
 have kD:AY wb (w.heap.size+1+1) 47 #[AB AE 0]:=by rw [hwb];exact qn AZ
 clear hwb;refine (yW A1 A2 A3 A4 A5 A6 n1 c1 n2 c2 n3 c3 n4 c4 n5 c5 n6 c6 s wb (H1.o.mono BX hbb) (H2.o.mono Bq hbb) (H3.o.mono BP hbb) (H4.o.mono Bf hbb) (H6.o.mono BQ hbb)).mono ?_;rintro e wg ⟨R,rfl,hres,hR,hbg⟩;have kS':=kS.below hbg AG;have To:=kB.below hbg AG;have kD':=kD.below hbg AG;have AMD:w.heap.size+3<=wg.heap.size:=by rw [<-bP];exact hbg.size
 have hRg:w.heap.size+3<=R:=by rw [<-bP];exact hR
 have hold:AK w wg:=hbb.trans (hbg.mono AG);obtain ⟨Hb,HOLD,Lr,HKB,wA⟩:=Db hres hold kS' To kD';clear hres hR hbg kS kB kD bP hbb hold;have c0:=To.cell 0;have c1':=To.cell 1;have c2':=To.cell 2;have c3':=To.cell 3;have c4':=To.cell 4;have c5':=To.cell 5;have d0:=kD'.cell 0;simp only [Aj,Ao,BA] at c0 c1' c2' c3' c4' c5' d0;have z0:=To.frozen 0;have z1:=To.frozen 1;have z2:=To.frozen 2;have z3:=To.frozen 3;have z4:=To.frozen 4;have z5:=To.frozen 5;have zd:=kD'.frozen 0;clear kS' To kD';cases htw:Nq s with
 |
  true=>
  have HP:AI (G5 s=(111,JM)):=AF (by unfold G5;rw [Ak htw]);clear htw;go_wp2_with fail;refine ⟨BU #[AP #[AA none 0 0,AA none 0 0,AA none 0 0,AA none 0 0,AA none 0 0,AA none 0 0],AB AE 111],?_,[AA none 0 0,AA none 0 0,AA none 0 0,AA none 0 0,AA none 0 0,AA none 0 0],by rw [HP.o],by rw [HP.o];exact aC _,?_⟩
  · simp [results,results102,go_sem, *]
  · exact (((((((HOLD.o.setCell AZ _).setCell AZ _).setCell AZ _).setCell AZ _).setCell AZ _).setCell AZ _).setCell Bd _)
 |
  false=>
  have TJ:=AF htw;clear htw;have hgs:w.heap.size+1<=wg.heap.size:=AG
  clear c0 c1' c2' c3' c4' c5' d0 z0 z1 z2 z3 z4 z5 zd;go_upto_region 5 with fail
  go_region_held3 (fun w'=>w'.cell? ⟨w.heap.size,0,none⟩=some (AA A1 n1 c1)/\w'.cell? ⟨w.heap.size,1,none⟩=some (AA A2 n2 c2)/\w'.cell? ⟨w.heap.size,2,none⟩=some (AA A3 n3 c3)/\w'.cell? ⟨w.heap.size,3,none⟩=some (AA A4 n4 c4)/\w'.cell? ⟨w.heap.size,4,none⟩=some (AA A5 n5 c5)/\w'.cell? ⟨w.heap.size,5,none⟩=some (AA A6 n6 c6)/\BL (w.heap.size+1) wg w')
   (first
    | with_reducible assumption
    | exact Xc Lr.o ((((((hS6.2.2.2.2.2.2.setCell (Ac _) _).setCell (Ac _) _).setCell (Ac _) _).setCell (Ac _) _).setCell (Ac _) _).setCell (Ac _) _)
    | exact Xc Lr.o (Af _ _).drew)
   (first
    | (go_at_call 153;refine (yq (R:=fun _=>Dd w) (fun _=>AC3 w) A1 n1 c1 _ _ (VD H1.o HOLD.o MH)).mono ?_;rintro e w1 ⟨v1,cs1,rfl,hcs1,ho1,hb1⟩;obtain ⟨B1,m1,d1,rfl,hm1⟩:=Gg ho1;have IG:=AF ho1;have J7:=AF hcs1;have Yq:=AF hm1;have hS1:=Xc Lr.o (iI MH hgs hb1);clear ho1 hcs1 hm1)
    | (go_at_call 154;refine (tH (R:=fun _=>CS w) (fun _=>xD w) A2 n2 c2 _ _ (VD H2.o HOLD.o MH)).mono ?_;rintro e w2 ⟨v2,cs2,rfl,hcs2,ho2,hb2⟩;obtain ⟨B2,m2,d2,rfl,hm2⟩:=Gg ho2;have Jz:=AF ho2;have HC2:=AF hcs2;have Q9:=AF hm2;have hS2:=Xc Lr.o (iI MH hgs hb2);clear ho2 hcs2 hm2 hS1)
    | (go_at_call 155;refine (mS (R:=fun _=>BW w) (fun _=>pB w) A3 n3 c3 _ _ (VD H3.o HOLD.o MH)).mono ?_;rintro e w3 ⟨v3,aN,rfl,hcs3,ho3,hb3⟩;obtain ⟨B3,m3,d3,rfl,ER⟩:=Gg ho3;have Ja:=AF ho3;have TV:=AF hcs3;have Lg:=AF ER;have hS3:=Xc Lr.o (iI MH hgs hb3);clear ho3 hcs3 ER hS2)
    | (go_at_call 156;refine (tI (R:=fun _=>CT w) (fun _=>xH w) A4 n4 c4 _ _ (VD H4.o HOLD.o MH)).mono ?_;rintro e w4 ⟨v4,eU,rfl,AIP,Sz,hb4⟩;obtain ⟨B4,m4,d4,rfl,hm4⟩:=Gg Sz;have Q8:=AF Sz;have Pa:=AF AIP;have HN4:=AF hm4;have hS4:=Xc Lr.o (iI MH hgs hb4);clear Sz AIP hm4 hS3)
    | (go_at_call 157;refine (i9 (R:=fun _=>CF w) (fun _=>mM w) A5 n5 c5 _ _ (VD H5.o HOLD.o MH)).mono ?_;rintro e w5 ⟨v5,Nu,rfl,AIO,Gi,hb5⟩;obtain ⟨B5,m5,d5,rfl,hm5⟩:=Gg Gi;have Yp:=AF Gi;have wE:=AF AIO;have XG:=AF hm5;have hS5:=Xc Lr.o (iI MH hgs hb5);clear Gi AIO hm5 hS4)
    | (
     go_at_call 158;refine (i7 (R:=fun _=>BZ w) (fun _=>mJ w) A6 n6 c6 _ _ (VD H6.o HOLD.o MH)).mono ?_;rintro e w6 ⟨v6,cs6,rfl,AIN,RP,hb6⟩;obtain ⟨B6,m6,d6,rfl,hm6⟩:=Gg RP;obtain ⟨Q7,lm,HN6⟩:=BB RP AIN hm6;have hS6:=Xc Lr.o (iI MH hgs hb6);clear RP AIN hm6 hS5;have hall:AK wg w6:=((((((Af _ _).drew).trans hb1).trans (hb2.mono hb1.size)).trans (hb3.mono (BH hb1.size hb2.size))).trans (hb4.mono (BH (BH hb1.size hb2.size) hb3.size))).trans (hb5.mono (BH (BH (BH hb1.size hb2.size) hb3.size) hb4.size)) |>.trans (hb6.mono (BH (BH (BH (BH hb1.size hb2.size) hb3.size) hb4.size) hb5.size));have Tn:=HKB.o.below hall AG;have x0:=Tn.cell 0;have x1:=Tn.cell 1;have x2:=Tn.cell 2;have x3:=Tn.cell 3;have x4:=Tn.cell 4;have x5:=Tn.cell 5;simp only [Aj,Ao,BA] at x0 x1 x2 x3 x4 x5;have y0:=Tn.frozen 0;have y1:=Tn.frozen 1;have y2:=Tn.frozen 2;have y3:=Tn.frozen 3;have y4:=Tn.frozen 4;have y5:=Tn.frozen 5;obtain ⟨EU,AJH⟩:=Al hall Tn;clear Tn hall))
  have AHr:((((((w6.setCell ⟨w.heap.size+1,0,none⟩ (AA B1 m1 d1)).setCell ⟨w.heap.size+1,1,none⟩ (AA B2 m2 d2)).setCell ⟨w.heap.size+1,2,none⟩ (AA B3 m3 d3)).setCell ⟨w.heap.size+1,3,none⟩ (AA B4 m4 d4)).setCell ⟨w.heap.size+1,4,none⟩ (AA B5 m5 d5)).setCell ⟨w.heap.size+1,5,none⟩ (AA B6 m6 d6)).heap.size=w6.heap.size:=by simp [World.setCell]
  have Tp:AK w ((((((w6.setCell ⟨w.heap.size+1,0,none⟩ (AA B1 m1 d1)).setCell ⟨w.heap.size+1,1,none⟩ (AA B2 m2 d2)).setCell ⟨w.heap.size+1,2,none⟩ (AA B3 m3 d3)).setCell ⟨w.heap.size+1,3,none⟩ (AA B4 m4 d4)).setCell ⟨w.heap.size+1,4,none⟩ (AA B5 m5 d5)).setCell ⟨w.heap.size+1,5,none⟩ (AA B6 m6 d6)):=
   ((((((HOLD.o.trans (hS6.2.2.2.2.2.2.mono (Et _))).setCell (Et _) _).setCell (Et _) _).setCell (Et _) _).setCell (Et _) _).setCell (Et _) _).setCell (Et _) _
  have hk0:=AJH.o;have hk1:=hk0.put 0 (AA B1 m1 d1);have hk2:=hk1.put 1 (AA B2 m2 d2);have hk3:=hk2.put 2 (AA B3 m3 d3);have hk4:=hk3.put 3 (AA B4 m4 d4);have hk5:=hk4.put 4 (AA B5 m5 d5);have hk6:=hk5.put 5 (AA B6 m6 d6);simp only [Kf,CZ,Ch] at hk1 hk2 hk3 hk4 hk5 hk6;have hd7:=(((((((wA.o.below EU.o AG).far (p:=⟨w.heap.size+1,0,none⟩) AZ (AA B1 m1 d1)).far (p:=⟨w.heap.size+1,1,none⟩) AZ (AA B2 m2 d2)).far (p:=⟨w.heap.size+1,2,none⟩) AZ (AA B3 m3 d3)).far (p:=⟨w.heap.size+1,3,none⟩) AZ (AA B4 m4 d4)).far (p:=⟨w.heap.size+1,4,none⟩) AZ (AA B5 m5 d5)).far (p:=⟨w.heap.size+1,5,none⟩) AZ (AA B6 m6 d6));have hr0:KJ (mask wg.heap.size w6.heap.size w6) R s:=Hb.o.below (WI wg EU.o (Ac _));have hBl:w.heap.size+1 < wg.heap.size:=AG
  have qJ:R≠w.heap.size+1:=AG
  have AMb:R < wg.heap.size:=by obtain ⟨_,_,_,_,_,_,hk,_⟩:=Hb.o;exact hk.lt
  have hr1:=QA (j:=0) hr0 hk0 (VS _ _ _ _ _ _ _ _ _ _ _ _ _ _ _ _ _ _) hBl qJ (AA B1 m1 d1);have hr2:=QA (j:=1) hr1 hk1 (VS _ _ _ _ _ _ _ _ _ _ _ _ _ _ _ _ _ _) hBl qJ (AA B2 m2 d2);have hr3:=QA (j:=2) hr2 hk2 (VS _ _ _ _ _ _ _ _ _ _ _ _ _ _ _ _ _ _) hBl qJ (AA B3 m3 d3);have hr4:=QA (j:=3) hr3 hk3 (VS _ _ _ _ _ _ _ _ _ _ _ _ _ _ _ _ _ _) hBl qJ (AA B4 m4 d4);have hr5:=QA (j:=4) hr4 hk4 (VS _ _ _ _ _ _ _ _ _ _ _ _ _ _ _ _ _ _) hBl qJ (AA B5 m5 d5);have hr6:=QA (j:=5) hr5 hk5 (VS _ _ _ _ _ _ _ _ _ _ _ _ _ _ _ _ _ _) hBl qJ (AA B6 m6 d6);have l1:wg.heap.size<=w1.heap.size:=hb1.size;have l2:=hb2.size;have l3:=hb3.size;have l4:=hb4.size;have l5:=hb5.size;have l6:=hb6.size;have b56:AK w5 w6:=hb6;have b46:AK w4 w6:=hb5.trans (b56.mono l5);have b36:AK w3 w6:=hb4.trans (b46.mono l4);have b26:AK w2 w6:=hb3.trans (b36.mono l3);have b16:AK w1 w6:=hb2.trans (b26.mono l2);have hwl:w.heap.size<=wg.heap.size:=AG
  have hst:St w wg.heap.size w6.heap.size R (w.heap.size+1) (w.heap.size+1+1) w1.heap.size w2.heap.size w3.heap.size w4.heap.size w5.heap.size s (AA B1 m1 d1) (AA B2 m2 d2) (AA B3 m3 d3) (AA B4 m4 d4) (AA B5 m5 d5) (AA B6 m6 d6) 0 s.units s.Aq s.rules s.converts s.purposes _:=
   ⟨Tp,Nat.le_of_eq AHr.symm,hr6,hk6.cell 0,hk6.cell 1,hk6.cell 2,hk6.cell 3,hk6.cell 4,hk6.cell 5,hk6.frozen,hd7.cell 0,hd7.frozen 0,
    mkRow BX J7.o IG.o (Ac _) (iU IG.o b16 Bd _ _ _ _ _ _) Tp hwl,
    mkRow Bq HC2.o Jz.o (Ac _) (iU Jz.o b26 AG _ _ _ _ _ _) Tp hwl,
    mkRow BP TV.o Ja.o (Ac _) (iU Ja.o b36 AG _ _ _ _ _ _) Tp hwl,
    mkRow Bf Pa.o Q8.o (Ac _) (iU Q8.o b46 AG _ _ _ _ _ _) Tp hwl,
    mkRow Bo wE.o Yp.o (Ac _) (iU Yp.o b56 AG _ _ _ _ _ _) Tp hwl,
    mkRow BQ lm.o Q7.o (Ac _) (iU Q7.o (Af _ _) AG _ _ _ _ _ _) Tp hwl⟩
  generalize (((((w6.setCell ⟨w.heap.size+1,0,none⟩ (AA B1 m1 d1)).setCell ⟨w.heap.size+1,1,none⟩ (AA B2 m2 d2)).setCell ⟨w.heap.size+1,2,none⟩ (AA B3 m3 d3)).setCell ⟨w.heap.size+1,3,none⟩ (AA B4 m4 d4)).setCell ⟨w.heap.size+1,4,none⟩ (AA B5 m5 d5)).setCell ⟨w.heap.size+1,5,none⟩ (AA B6 m6 d6)=w7 at hst ⊢;have HST:=AF hst;clear hst AHr Tp hk0 hk1 hk2 hk3 hk4 hk5 hk6 hd7 hr0 hr1 hr2 hr3 hr4 hr5 hr6 qJ b56 b46 b36 b26 b16 hb1 hb2 hb3 hb4 hb5 hb6 hS6 x0 x1 x2 x3 x4 x5 y0 y1 y2 y3 y4 y5 IG Jz Ja Q8 Yp Q7 J7 HC2 TV Pa wE lm EU AJH Lr HKB wA Hb HOLD;have hNP:QE s=none->G5 s=(110,JM):=fun e=>by unfold G5;rw [Ah (by rw [TJ.o];simp),e]
  have rO:=AF hNP;clear hNP;have k1:=HST.o.b1;go_wp2_with fail;obtain ⟨b1',b2',b3',Tv,fl,Q0,Ia,AH9,ig,po,Kw⟩:=HST.o.res.Ig;have hc1:=Ia.cell 1;have hlR:=Ia.lt;simp only [Aj,Ao,BA] at hc1;obtain ⟨cu,hou,hbu,hcu⟩:=HST.o.r2;refine (du R b2' w1.heap.size s.units.length (AA B2 m2 d2) s.units cu (Ho s) w7 hc1 hlR ig AG hou ⟨hcu.1,hcu.2⟩ rfl).mono ?_;rintro e wu ⟨hgu,RN⟩;have hDl:w.heap.size+1+1 < wg.heap.size:=AG
  have eM:wg.heap.size<=w6.heap.size:=AG
  cases hup:Se (Ho s) s.units with
  |
   none=>
   rw [hup] at RN;subst RN;obtain ⟨HF,Co⟩:=Al (HST.o.fall hgu (fun r e=>by have:=hou.lt r e;omega) hwl eM hBl hDl) (rO.o (by unfold QE;rw [hup]));clear hup hgu hou hbu hcu Ia AH9 ig po Kw hc1 k1
   go_wp2
   refine Qv HF.o AG AG AG Co.o (fun w'' _ _ _ _ _ _ _=> ?_);simp [results,results102,go_sem, *]
  |
   some us=>
   rw [hup] at RN;obtain ⟨rfl,cu',AH1,AEZ⟩:=RN;have eJ:us.length=s.units.length:=UL (Ac _) hup;have hst:St w wg.heap.size w6.heap.size R (w.heap.size+1) (w.heap.size+1+1) w1.heap.size w2.heap.size w3.heap.size w4.heap.size w5.heap.size s (AA B1 m1 d1) (AA B2 m2 d2) (AA B3 m3 d3) (AA B4 m4 d4) (AA B5 m5 d5) (AA B6 m6 d6) 0 us s.Aq s.rules s.converts s.purposes wu:=by
    rcases Jl hou with ⟨hv,h0⟩ | ⟨G,gc,hv,hG,_⟩
    ·have hu0:us=s.units:=by rw [Jh (eJ.trans h0),Jh h0]
     rw [hu0];rw [hv] at hgu;exact HST.o.below ⟨hgu.os,hgu.tape,hgu.output,hgu.size,fun k hk=>hgu.block k hk Nl⟩ hwl eM hBl hDl
    have hGU:=hbu G (by rw [hv];rfl);rw [hv] at hgu;refine HST.o.turn (G:=G) hgu AG AG hwl hBl hDl (.inr ⟨cu',?_,hbu,⟨AEZ.1,AEZ.2⟩⟩) (.inl ⟨rfl,by omega⟩) (.inl ⟨rfl,by omega⟩) (.inl ⟨rfl,by omega⟩) (.inl ⟨rfl,by omega⟩) hG;rw [eJ];exact AH1
   obtain ⟨LG,RU⟩:=Al hst hup;have k2:=hst.b2;have XC:=AF eJ;clear hst hup hgu hou hbu hcu AH1 AEZ eJ Ia AH9 ig po Kw hc1 k1 hlR HST;go_wp2_with fail;clear k2;go_loopg [44] m3 (fun q j wr=>∃(k0:Nat) (So:List BM),k0<=m3/\q=m3 - k0/\j=AB AE k0/\EX (fun _=>F7 s) s.Aq k0=some So/\St w wg.heap.size w6.heap.size R (w.heap.size+1) (w.heap.size+1+1) w1.heap.size w2.heap.size w3.heap.size w4.heap.size w5.heap.size s (AA B1 m1 d1) (AA B2 m2 d2) (AA B3 m3 d3) (AA B4 m4 d4) (AA B5 m5 d5) (AA B6 m6 d6) 0 us (So++s.Aq.drop k0) s.rules s.converts s.purposes wr)
   case atStart=>exact ⟨0,[],Ay _,rfl,rfl,rfl,LG.o⟩
   clear LG;obtain ⟨k0,So,hk0,hq0,rfl,AHp,hst⟩:=hrel;obtain ⟨Pf,jG⟩:=Al hq0 AHp;clear hq0 AHp;by_cases hlt0:k0 < m3
   ·obtain ⟨m,hm⟩:∃m,s.Aq[k0]? =some m:=⟨s.Aq[k0]' gJ,BN _⟩
    have hlen:=Cw gJ jG.o;have hat:(So++s.Aq.drop k0)[k0]? =some m:=by rw [Cj AG,EO,hlen];simpa using hm
    have JU:=hst.below ((Af _ _).drew) hwl eM hBl hDl;obtain ⟨G,gc,cg,hv,hLG,hGU,hog,hrg,hil,hnn,hmk⟩:=JU.r3.at hat;injection hv with hv1 hv2 hv3;subst hv1 hv3;have hn2:m3<=9223372036854775807:=AG
    have kb:=hst.b2;have hkn:(k0:Int) < (m3:Int):=AG
    have hk0:(0:Int)<=(k0:Int):=AG
    have Kp:F7 s m=none->QE s=none:=fun hh=>by unfold QE;rw [RU.o];simp only;rw [FB (k:=k0+1) gJ (FY jG.o hm hh)]
    have S5:∀x,F7 s m=some x->EX (fun _=>F7 s) s.Aq (k0+1)=some (So++[x]):=fun x hx=>Fx jG.o hm hx;have hset:∀x,(So++s.Aq.drop k0).set k0 x=(So++[x])++s.Aq.drop (k0+1):=fun x=>set_drop hlen hm
    obtain ⟨b1',b2',b3',Tv,fl,Q0,Ia,_,_,_,Kw⟩:=JU.res;have AEj:k0 < fl:=by have:=Kw.len;rw [this,CY];exact (BF.1 hm).1
    have AIJ:fl<=9223372036854775807:=by have:=Kw.le;omega
    obtain ⟨fb,qR,fm,fg,rfl,hfb,hfm,hfc,Mf⟩:=VU Kw AEj;have hfx:fm=fieldMap m:=by rw [Bg,hm,C6,Bz] at hfm;exact hfm.symm
    subst hfx;have AGA:=pP Ia AZ;have s3:wr.cell? ⟨R,3,none⟩=_:=AGA.cell 3;simp only [Aj,Ao,BA] at s3;have s4:wr.cell? ⟨fb,qR+k0,none⟩=some (.map (some fg)):=Xy hfc;have AMT:(k0:Int) < (fl:Int):=AG
    obtain ⟨HN,Nd,Rc,NY,cL,cO⟩:=Fg (bH R wg.heap.size w6.heap.size w2.heap.size G _ _ k0 fg cg s m wr.drew JU.res AG AG JU.size Mf hog hil hrg) JU hmk Kp S5 hset;clear hst JU hmk Kp S5 hset hog hrg hat hm hlen hv2 hnn hil Ia AGA Kw hfm hfc Mf;go_wp2_with fail
    go_still_tail 12,AJ
    change wpList _ _ _ _ _ wr.drew;go_wp2_with fail;refine HN.o.mono ?_;rintro e w' ⟨hg',hr⟩;clear HN;cases htp:F7 s m with
    |
     none=>
     rw [htp] at hr;subst hr;obtain ⟨HF,Co⟩:=Al (Nd.o.fall hg' (fun r e=>by injection e;omega) hwl eM hBl hDl) (rO.o (NY.o htp));clear htp hg' kb s3 s4
     go_wp2
     refine Qv HF.o AG AG AG Co.o (fun w'' _ _ _ _ _ _ _=> ?_);simp [results,results102,go_sem, *]
    |
     some x=>
     rw [htp] at hr;obtain ⟨rfl,hro⟩:=hr;have hrow:=Rc.o x w' hg' AG AG BP hro;rw [cO.o] at hrow;obtain ⟨TN,HY⟩:=Al (Nd.o.turn hg' AG AG hwl hBl hDl (.inl ⟨rfl,by omega⟩) (.inr hrow) (.inl ⟨rfl,by omega⟩) (.inl ⟨rfl,by omega⟩) (.inl ⟨rfl,by omega⟩) AG) (cL.o x htp);clear htp hg' kb hro hrow s3 s4;go_wp2;go_roundg (m3 - (k0+1))
     case measure=>have:=Pf.o;omega
     case rel=>exact ⟨k0+1,So++[x],by omega,rfl,by go_num,HY.o,TN.o⟩
   have yF:k0=s.Aq.length:=by have:=Lg.o;omega
   have HD0:AI (GJ (fun _=>F7 s) s.Aq=some So):=AF (by unfold GJ;rw [<-yF];exact jG.o);have HL0:=AF (show So.length=s.Aq.length by rw [Cw AG jG.o,yF]);rw [yF,Kc,FM] at hst;obtain ⟨ss,AH0⟩:=Ad So;rw [<-AH0] at hst HD0 HL0;clear AH0 jG Pf yF;have kb:=hst.b3;have HS2:=AF hst;clear hst;go_wp2_with fail;clear kb;go_loopg [64] m4 (fun q j wr=>∃(k1:Nat) (out1:List Cm),k1<=m4/\q=m4 - k1/\j=AB AE k1/\EX (fun _=>Gr s) s.rules k1=some out1/\St w wg.heap.size w6.heap.size R (w.heap.size+1) (w.heap.size+1+1) w1.heap.size w2.heap.size w3.heap.size w4.heap.size w5.heap.size s (AA B1 m1 d1) (AA B2 m2 d2) (AA B3 m3 d3) (AA B4 m4 d4) (AA B5 m5 d5) (AA B6 m6 d6) 0 us ss (out1++s.rules.drop k1) s.converts s.purposes wr)
   case atStart=>exact ⟨0,[],Ay _,rfl,rfl,rfl,HS2.o⟩
   clear HS2;obtain ⟨k1,out1,hk1,hq1,rfl,AHo,hst⟩:=hrel;obtain ⟨fL,jF⟩:=Al hq1 AHo;clear hq1 AHo;by_cases hlt1:k1 < m4
   ·obtain ⟨m,hm⟩:∃m,s.rules[k1]? =some m:=⟨s.rules[k1]' gI,BN _⟩
    have hlen:=Cw gI jF.o;have hat:(out1++s.rules.drop k1)[k1]? =some m:=by rw [Cj AG,EO,hlen];simpa using hm
    have JU:=hst;obtain ⟨G,gc,cg,hv,hLG,hGU,hog,hrg,hil,hnn,hmk⟩:=JU.r4.at hat;injection hv with hv1 hv2 hv3;subst hv1 hv3;have hn2:m4<=9223372036854775807:=AG
    have kb:=hst.b3;have hkn:(k1:Int) < (m4:Int):=AG
    have hk0:(0:Int)<=(k1:Int):=AG
    have Kp:Gr s m=none->QE s=none:=fun hh=>by unfold QE;rw [RU.o];simp only;rw [HD0.o];simp only;rw [FB (k:=k1+1) gI (FY jF.o hm hh)]
    have S5:∀x,Gr s m=some x->EX (fun _=>Gr s) s.rules (k1+1)=some (out1++[x]):=fun x hx=>Fx jF.o hm hx;have hset:∀x,(out1++s.rules.drop k1).set k1 x=(out1++[x])++s.rules.drop (k1+1):=fun x=>set_drop hlen hm
    obtain ⟨HN,Nd,Rc,NY,cL,cO⟩:=Fg (iW R wg.heap.size w6.heap.size w3.heap.size G _ _ k1 cg s m wr JU.res AG AG JU.size hog hil hrg) JU hmk Kp S5 hset;clear hst JU hmk Kp S5 hset hog hrg hat hm hlen hv2 hnn hil;go_wp2_with fail;refine HN.o.mono ?_;rintro e w' ⟨hg',hr⟩;clear HN;cases htp:Gr s m with
    |
     none=>
     rw [htp] at hr;subst hr;obtain ⟨HF,Co⟩:=Al (Nd.o.fall hg' (fun r e=>by injection e;omega) hwl eM hBl hDl) (rO.o (NY.o htp));clear htp hg' kb
     go_wp2
     refine Qv HF.o AG AG AG Co.o (fun w'' _ _ _ _ _ _ _=> ?_);simp [results,results102,go_sem, *]
    |
     some x=>
     rw [htp] at hr;obtain ⟨rfl,hro⟩:=hr;have hrow:=Rc.o x w' hg' AG AG Bf hro;rw [cO.o] at hrow;obtain ⟨TN,HY⟩:=Al (Nd.o.turn hg' AG AG hwl hBl hDl (.inl ⟨rfl,by omega⟩) (.inl ⟨rfl,by omega⟩) (.inr hrow) (.inl ⟨rfl,by omega⟩) (.inl ⟨rfl,by omega⟩) AG) (cL.o x htp);clear htp hg' kb hro hrow;go_wp2;go_roundg (m4 - (k1+1))
     case measure=>have:=fL.o;omega
     case rel=>exact ⟨k1+1,out1++[x],by omega,rfl,by go_num,HY.o,TN.o⟩
   have yE:k1=s.rules.length:=by have:=HN4.o;omega
   have HD1:AI (GJ (fun _=>Gr s) s.rules=some out1):=AF (by unfold GJ;rw [<-yE];exact jF.o);have UC:=AF (show out1.length=s.rules.length by rw [Cw AG jF.o,yE]);rw [yE,Kc,FM] at hst;obtain ⟨rs,x7⟩:=Ad out1;rw [<-x7] at hst HD1 UC;clear x7 jF fL yE;have kb:=hst.b4;have LD:=AF hst;clear hst;go_wp2_with fail;clear kb;go_loopg [77] m5 (fun q j wr=>∃(k2:Nat) (Sn:List DH),k2<=m5/\q=m5 - k2/\j=AB AE k2/\EX (fun _=>FD s) s.converts k2=some Sn/\St w wg.heap.size w6.heap.size R (w.heap.size+1) (w.heap.size+1+1) w1.heap.size w2.heap.size w3.heap.size w4.heap.size w5.heap.size s (AA B1 m1 d1) (AA B2 m2 d2) (AA B3 m3 d3) (AA B4 m4 d4) (AA B5 m5 d5) (AA B6 m6 d6) 0 us ss rs (Sn++s.converts.drop k2) s.purposes wr)
   case atStart=>exact ⟨0,[],Ay _,rfl,rfl,rfl,LD.o⟩
   clear LD;obtain ⟨k2,Sn,hk2,hq2,rfl,X7,hst⟩:=hrel;obtain ⟨Ks,UY⟩:=Al hq2 X7;clear hq2 X7;by_cases hlt2:k2 < m5
   ·obtain ⟨m,hm⟩:∃m,s.converts[k2]? =some m:=⟨s.converts[k2]' gH,BN _⟩
    have hlen:=Cw gH UY.o;have hat:(Sn++s.converts.drop k2)[k2]? =some m:=by rw [Cj AG,EO,hlen];simpa using hm
    have JU:=hst;obtain ⟨G,gc,cg,hv,hLG,hGU,hog,hrg,hil,hnn,hmk⟩:=JU.r5.at hat;injection hv with hv1 hv2 hv3;subst hv1 hv3;have hn2:m5<=9223372036854775807:=AG
    have kb:=hst.b4;have hkn:(k2:Int) < (m5:Int):=AG
    have hk0:(0:Int)<=(k2:Int):=AG
    have Kp:FD s m=none->QE s=none:=fun hh=>by unfold QE;rw [RU.o];simp only;rw [HD0.o];simp only;rw [HD1.o];simp only;rw [FB (k:=k2+1) gH (FY UY.o hm hh)]
    have S5:∀x,FD s m=some x->EX (fun _=>FD s) s.converts (k2+1)=some (Sn++[x]):=fun x hx=>Fx UY.o hm hx;have hset:∀x,(Sn++s.converts.drop k2).set k2 x=(Sn++[x])++s.converts.drop (k2+1):=fun x=>set_drop hlen hm
    obtain ⟨HN,Nd,Rc,NY,cL,cO⟩:=Fg (Zu R wg.heap.size w6.heap.size w4.heap.size G _ _ k2 cg s m wr JU.res AG AG JU.size hog hil hrg) JU hmk Kp S5 hset;clear hst JU hmk Kp S5 hset hog hrg hat hm hlen hv2 hnn hil;go_wp2_with fail;refine HN.o.mono ?_;rintro e w' ⟨hg',hr⟩;clear HN;cases htp:FD s m with
    |
     none=>
     rw [htp] at hr;subst hr;obtain ⟨HF,Co⟩:=Al (Nd.o.fall hg' (fun r e=>by injection e;omega) hwl eM hBl hDl) (rO.o (NY.o htp));clear htp hg' kb
     go_wp2
     refine Qv HF.o AG AG AG Co.o (fun w'' _ _ _ _ _ _ _=> ?_);simp [results,results102,go_sem, *]
    |
     some x=>
     rw [htp] at hr;obtain ⟨rfl,hro⟩:=hr;have hrow:=Rc.o x w' hg' AG AG Bo hro;rw [cO.o] at hrow;obtain ⟨TN,HY⟩:=Al (Nd.o.turn hg' AG AG hwl hBl hDl (.inl ⟨rfl,by omega⟩) (.inl ⟨rfl,by omega⟩) (.inl ⟨rfl,by omega⟩) (.inr hrow) (.inl ⟨rfl,by omega⟩) AG) (cL.o x htp);clear htp hg' kb hro hrow;go_wp2;go_roundg (m5 - (k2+1))
     case measure=>exact MJ
     case rel=>exact ⟨k2+1,Sn++[x],by omega,rfl,by go_num,HY.o,TN.o⟩
   have hke2:k2=s.converts.length:=by have:=XG.o;omega
   have HD2:AI (GJ (fun _=>FD s) s.converts=some Sn):=AF uF;have HL2:=AF (show Sn.length=s.converts.length by rw [Cw AG UY.o,hke2]);rw [hke2,Kc,FM] at hst;obtain ⟨cv,AHz⟩:=Ad Sn;rw [<-AHz] at hst HD2 HL2;clear AHz UY Ks hke2;have kb:=hst.b5;have lV:=AF hst;clear hst;go_wp2_with fail;clear kb;go_loopg [90] m6 (fun q j wr=>∃(k3:Nat) (Sm:List Cl),k3<=m6/\q=m6 - k3/\j=AB AE k3/\EX (fun _=>G6 s) s.purposes k3=some Sm/\St w wg.heap.size w6.heap.size R (w.heap.size+1) (w.heap.size+1+1) w1.heap.size w2.heap.size w3.heap.size w4.heap.size w5.heap.size s (AA B1 m1 d1) (AA B2 m2 d2) (AA B3 m3 d3) (AA B4 m4 d4) (AA B5 m5 d5) (AA B6 m6 d6) 0 us ss rs cv (Sm++s.purposes.drop k3) wr)
   case atStart=>exact ⟨0,[],Ay _,rfl,rfl,rfl,lV.o⟩
   clear lV;obtain ⟨k3,Sm,hk3,hq3,rfl,AHn,hst⟩:=hrel;obtain ⟨fK,jE⟩:=Al hq3 AHn;clear hq3 AHn;by_cases hlt3:k3 < m6
   ·obtain ⟨m,hm⟩:∃m,s.purposes[k3]? =some m:=⟨s.purposes[k3]' gG,BN _⟩
    have hlen:=Cw gG jE.o;have hat:(Sm++s.purposes.drop k3)[k3]? =some m:=by rw [Cj AG,EO,hlen];simpa using hm
    have JU:=hst;obtain ⟨G,gc,cg,hv,hLG,hGU,hog,hrg,hil,hnn,hmk⟩:=JU.r6.at hat;injection hv with hv1 hv2 hv3;subst hv1 hv3;have hn2:m6<=9223372036854775807:=AG
    have kb:=hst.b5;have hkn:(k3:Int) < (m6:Int):=AG
    have hk0:(0:Int)<=(k3:Int):=AG
    have Kp:G6 s m=none->QE s=none:=fun hh=>by unfold QE;rw [RU.o];simp only;rw [HD0.o];simp only;rw [HD1.o];simp only;rw [HD2.o];simp only;rw [FB (k:=k3+1) gG (FY jE.o hm hh)]
    have S5:∀x,G6 s m=some x->EX (fun _=>G6 s) s.purposes (k3+1)=some (Sm++[x]):=fun x hx=>Fx jE.o hm hx;have hset:∀x,(Sm++s.purposes.drop k3).set k3 x=(Sm++[x])++s.purposes.drop (k3+1):=fun x=>set_drop hlen hm
    obtain ⟨HN,Nd,Rc,NY,cL,cO⟩:=Fg (Zt R wg.heap.size w6.heap.size w5.heap.size G _ _ k3 cg s m wr JU.res AG AG JU.size hog hil hrg) JU hmk Kp S5 hset;clear hst JU hmk Kp S5 hset hog hrg hat hm hlen hv2 hnn hil;go_wp2_with fail;refine HN.o.mono ?_;rintro e w' ⟨hg',hr⟩;clear HN;cases htp:G6 s m with
    |
     none=>
     rw [htp] at hr;subst hr;obtain ⟨HF,Co⟩:=Al (Nd.o.fall hg' (fun r e=>by injection e;omega) hwl eM hBl hDl) (rO.o (NY.o htp));clear htp hg' kb
     go_wp2
     refine Qv HF.o AG AG AG Co.o (fun w'' _ _ _ _ _ _ _=> ?_);simp [results,results102,go_sem, *]
    |
     some x=>
     rw [htp] at hr;obtain ⟨rfl,hro⟩:=hr;have hrow:=Rc.o x w' hg' AG AG BQ hro;rw [cO.o] at hrow;obtain ⟨TN,HY⟩:=Al (Nd.o.turn hg' AG AG hwl hBl hDl (.inl ⟨rfl,by omega⟩) (.inl ⟨rfl,by omega⟩) (.inl ⟨rfl,by omega⟩) (.inl ⟨rfl,by omega⟩) (.inr hrow) AG) (cL.o x htp);clear htp hg' kb hro hrow;go_wp2;go_roundg (m6 - (k3+1))
     case measure=>have:=fK.o;omega
     case rel=>exact ⟨k3+1,Sm++[x],by omega,rfl,by go_num,HY.o,TN.o⟩
   have yD:k3=s.purposes.length:=by have:=HN6.o;omega
   have HD3:AI (GJ (fun _=>G6 s) s.purposes=some Sm):=AF (by unfold GJ;rw [<-yD];exact jE.o);have Yt:=AF (show Sm.length=s.purposes.length by rw [Cw AG jE.o,yD]);rw [yD,Kc,FM] at hst;obtain ⟨pp,AHy⟩:=Ad Sm;rw [<-AHy] at hst HD3 Yt;clear AHy jE fK yD;have kb0:=hst.b0;have kb1:=hst.b1;have kb2:=hst.b2;have kb3:=hst.b3;have kb4:=hst.b4;have kb5:=hst.b5;have kd0:=hst.d0;have kdz:=hst.dz;have kz0:=hst.bz 0;have kz1:=hst.bz 1;have kz2:=hst.bz 2;have kz3:=hst.bz 3;have kz4:=hst.bz 4;have kz5:=hst.bz 5;have Lf:=AF hst;clear hst;go_wp2_with fail;have e0:=Js kb0;have e1:=Js kb1;have e2:=Js kb2;have e3:=Js kb3;have e4:=Js kb4;have e5:=Js kb5;have e6:=Js kd0;rw [e0,e1,e2,e3,e4,e5,e6];clear e0 e1 e2 e3 e4 e5 e6;refine OP (f:=152) (args:=#[AU (some ⟨w.heap.size+1,0,none⟩),AU (some ⟨w.heap.size+1+1,0,none⟩)]) AZ LS ?_;refine (catch_idle ⟨w.heap.size+1,0,none⟩ ⟨w.heap.size+1+1,0,none⟩ _).mono ?_;rintro e u' w'' ⟨rfl,rfl,rfl⟩;have hN:QE s=some {s with units:=us,Aq:=ss,rules:=rs,converts:=cv,purposes:=pp}:=by unfold QE;rw [RU.o];simp only;rw [HD0.o];simp only;rw [HD1.o];simp only;rw [HD2.o];simp only;rw [HD3.o]
   have hP:G5 s=(0,{s with units:=us,Aq:=ss,rules:=rs,converts:=cv,purposes:=pp}):=by unfold G5;rw [Ah (by rw [TJ.o];simp),hN]
   refine ⟨BU #[AP #[AA B1 m1 d1,AA B2 m2 d2,AA B3 m3 d3,AA B4 m4 d4,AA B5 m5 d5,AA B6 m6 d6],AB AE 0],?_,[AA B1 m1 d1,AA B2 m2 d2,AA B3 m3 d3,AA B4 m4 d4,AA B5 m5 d5,AA B6 m6 d6],by rw [hP],?_,Lf.o.old⟩
   · simp [results,results102,go_sem, *]
   rw [hP];exact ⟨B1,m1,d1,B2,m2,d2,B3,m3,d3,B4,m4,d4,B5,m5,d5,B6,m6,d6,rfl,⟨Lf.o.r1.sl Si,H1.o.2⟩,⟨Lf.o.r2.sl xC,by have:=H2.o.2;rw [XC.o];exact this⟩,⟨Lf.o.r3.sl o9,by have:=H3.o.2;rw [HL0.o];exact this⟩,⟨Lf.o.r4.sl xF,by have:=H4.o.2;rw [UC.o];exact this⟩,⟨Lf.o.r5.sl mL,by have:=H5.o.2;rw [HL2.o];exact this⟩,⟨Lf.o.r6.sl mI,by have:=H6.o.2;rw [Yt.o];exact this⟩⟩
theorem Ag.QG {α β:Type} {sz:Nat} {R:AH->List AN->α->Prop} {R':AH->List AN->β->Prop} {w:AH} {v:AN} {l:List α} (f:α->β) (h:Ag sz R w v l)
 (hR:∀cs x,x∈l->R w cs x->R' w cs (f x)):Ag sz R' w v (l.map f):=by
 obtain ⟨A,cap,e,h1,h2,h3⟩:=h;refine ⟨A,cap,by simpa using e,by simpa using h1,h2,fun i y hi=> ?_⟩;rw [Bg] at hi;cases hx:l[i]? with
 | none=>rw [hx] at hi;cases hi
 |
  some x=>
  rw [hx] at hi;cases hi;obtain ⟨b,off,cs,e1,e2,e3,e4,e5⟩:=h3 i x hx;exact ⟨b,off,cs,e1,e2,e3,e4,hR cs x (Cr hx) e5⟩
def PG (x:Int):Prop:= -9223372036854775808<=x/\x<=9223372036854775807
instance (x:Int):Decidable (PG x):=by unfold PG;infer_instance
theorem j4 {w:AH} {v:AN} {l:AQ} (h:Ag 1 iR w v l) (hl:∀x∈l,PG x):Ag 1 Bt w v l:=by have:=h.QG (R':=Bt) (fun x=>x) (fun cs x hx hr=>⟨hr,(hl x hx).1,(hl x hx).2⟩);simpa using this
def WT (d:M7):mD:=⟨d.src,d.dst⟩
def I4 (d:M7):Prop:=(∀x∈d.src,PG x)/\PG d.dst
instance (d:M7):Decidable (I4 d):=by unfold I4;infer_instance
theorem ACX {w:AH} {v:AN} {l:List M7} (h:Ag 4 Hw w v l) (hl:∀d∈l,I4 d):Ag 4 yj w v (l.map WT):=by refine h.QG WT (fun cs x hx hr=> ?_);obtain ⟨A1,n1,c1,A2,n2,c2,rfl,_,h2⟩:=hr;exact ⟨A1,n1,c1,x.name,A2,n2,c2,rfl,j4 h2.1 (hl x hx).1,(hl x hx).2.1,(hl x hx).2.2⟩
structure cH (A1 A2 A3 A4 A5 A6:Option Aa) (n1 c1 n2 c2 n3 c3 n4 c4 n5 c5 n6 c6:Nat) (s:BG) (pv:DH->Bool) (w:AH):Prop where
 rules:s.Aq.all (D5 s.Bh.length s.units.length)=true->∀(W:AH) (g:Nat),AK w W->AY W g 137 #[AA A1 n1 c1,AA A2 n2 c2,AA A3 n3 c3,AA A4 n4 c4,AA A5 n5 c5,AA A6 n6 c6]->Says 104 #[] #[AU (some ⟨g,0,none⟩)] CT (JP s.units s.Aq) s.rules W
 xM:∀(W:AH),AK w W->Says 112 #[(AP #[AA A1 n1 c1,AA A2 n2 c2,AA A3 n3 c3,AA A4 n4 c4,AA A5 n5 c5,AA A6 n6 c6])] #[] BZ (Fv s.Aq) s.purposes W
 vers:∀(W:AH),AK w W->Says 116 #[(AP #[AA A1 n1 c1,AA A2 n2 c2,AA A3 n3 c3,AA A4 n4 c4,AA A5 n5 c5,AA A6 n6 c6])] #[] CF pv s.converts W
theorem cH.below {A1 A2 A3 A4 A5 A6:Option Aa} {n1 c1 n2 c2 n3 c3 n4 c4 n5 c5 n6 c6:Nat} {s:BG} {pv:DH->Bool} {w w':AH} (h:cH A1 A2 A3 A4 A5 A6 n1 c1 n2 c2 n3 c3 n4 c4 n5 c5 n6 c6 s pv w) (hb:AK w w'):cH A1 A2 A3 A4 A5 A6 n1 c1 n2 c2 n3 c3 n4 c4 n5 c5 n6 c6 s pv w':=
 ⟨fun k W g hW=>h.rules k W g (AV hb hW),fun W hW=>h.xM W (AV hb hW),fun W hW=>h.vers W (AV hb hW)⟩
def Ob (s:BG):Int:=if (G5 s).1=0 then (if (G5 s).2=s then 0 else 160) else (G5 s).1
def Nt (s:BG):Int:=if s.Aq.all (fun x=>M3 x.fields.length (x.deps.map WT)) then 0 else 130
def Kv (s:BG):Int:=
 if Ku s=0 then (if decide (s.Aq.length<=(Cx s.rules s.Aq.length).length) && (Dw [] (Cx s.rules s.Aq.length) && decide ((Cx s.rules s.Aq.length).length=s.Aq.length)) then 0 else 141) else Ku s
def Qo (pv:DH->Bool) (s:BG):Int:=if s.converts.all pv then 0 else 150
theorem ox (s:BG) (w:AH) (h1:BV 1 16 Dd w (AA A1 n1 c1) s.Bh) (h2:BV 5 56 CS w (AA A2 n2 c2) s.units) (h3:BV 6 96 BW w (AA A3 n3 c3) s.Aq) (h4:BV 5 96 CT w (AA A4 n4 c4) s.rules) (h5:BV 5 72 CF w (AA A5 n5 c5) s.converts) (h6:BV 3 48 BZ w (AA A6 n6 c6) s.purposes):
 AS prog 74 #[(AP #[AA A1 n1 c1,AA A2 n2 c2,AA A3 n3 c3,AA A4 n4 c4,AA A5 n5 c5,AA A6 n6 c6])] w fun e w'=>e=AW (AB AE (Ob s))/\AK w w':=by
 have hb0:AK w (w.alloc (AO #[AA A1 n1 c1,AA A2 n2 c2,AA A3 n3 c3,AA A4 n4 c4,AA A5 n5 c5,AA A6 n6 c6] 29)):=(BK _ _);have HC:AI (AS prog 102 #[(AP #[AA A1 n1 c1,AA A2 n2 c2,AA A3 n3 c3,AA A4 n4 c4,AA A5 n5 c5,AA A6 n6 c6])] (w.alloc (AO #[AA A1 n1 c1,AA A2 n2 c2,AA A3 n3 c3,AA A4 n4 c4,AA A5 n5 c5,AA A6 n6 c6] 29)) (WX s (w.alloc (AO #[AA A1 n1 c1,AA A2 n2 c2,AA A3 n3 c3,AA A4 n4 c4,AA A5 n5 c5,AA A6 n6 c6] 29)))):=AF (sK A1 A2 A3 A4 A5 A6 n1 c1 n2 c2 n3 c3 n4 c4 n5 c5 n6 c6 s _ (h1.mono BX hb0) (h2.mono Bq hb0) (h3.mono BP hb0) (h4.mono Bf hb0) (h5.mono Bo hb0) (h6.mono BQ hb0));have HB0:=AF hb0;clear hb0;obtain ⟨H1,H2,H3,H4,H5,H6⟩:=Fg h1 h2 h3 h4 h5 h6;clear h1 h2 h3 h4 h5 h6;obtain ⟨t,ht⟩:=BR ((G5 s).1);obtain ⟨x,hx⟩:=BR ((G5 s).2);obtain ⟨HT,HX⟩:=Al ht hx;clear ht hx;go_enter func74,ntmps74;go_wp2_with (go_at_call 102;refine HC.o.mono ?_);rintro e w1 ⟨cs,rfl,hsrc,hb1⟩;rw [HX.o] at hsrc;rw [HT.o];obtain ⟨B1,m1,d1,B2,m2,d2,B3,m3,d3,B4,m4,d4,B5,m5,d5,B6,m6,d6,rfl,k1,k2,k3,k4,k5,k6⟩:=hsrc;have HB1:AI (AK w w1):=AF (AV HB0.o hb1);have kb:=(AY.new w 29 #[AA A1 n1 c1,AA A2 n2 c2,AA A3 n3 c3,AA A4 n4 c4,AA A5 n5 c5,AA A6 n6 c6]).below hb1 AZ;have q0:=kb.cell 0;have q1:=kb.cell 1;have q2:=kb.cell 2;have q3:=kb.cell 3;have q4:=kb.cell 4;have q5:=kb.cell 5;have lq:=kb.lt;simp only [Aj,Ao,BA] at q0 q1 q2 q3 q4 q5;obtain ⟨K1,K2,K3,K4,K5,K6⟩:=Fg k1 k2 k3 k4 k5 k6;clear hb1 kb HC k1 k2 k3 k4 k5 k6;by_cases ht0:t=0
 ·subst ht0
  have hba:∀o,AK w1 (w1.alloc o):=fun o=>(Af _ _).alloc (Ac _) o;obtain ⟨v,hv⟩:∃v,decide (x=s)=v:=⟨_,rfl⟩;have HV:=AF hv;have HS:AI (∀o,AS prog 80 #[AP #[AA B1 m1 d1,AA B2 m2 d2,AA B3 m3 d3,AA B4 m4 d4,AA B5 m5 d5,AA B6 m6 d6],(AP #[AA A1 n1 c1,AA A2 n2 c2,AA A3 n3 c3,AA A4 n4 c4,AA A5 n5 c5,AA A6 n6 c6])] (w1.alloc o) fun e w'=>e=AW (Ab v)/\BL (w1.alloc o).heap.size (w1.alloc o) w'):=AF (fun o=>by
   have:=VI B1 A1 B2 A2 B3 A3 B4 A4 B5 A5 B6 A6 m1 d1 n1 c1 m2 d2 n2 c2 m3 d3 n3 c3 m4 d4 n4 c4 m5 d5 n5 c5 m6 d6 n6 c6 x s (w1.alloc o)
    (K1.o.1.mono BX (hba o)) (H1.o.1.mono BX (AV HB1.o (hba o)))
    (K2.o.1.mono Bq (hba o)) (H2.o.1.mono Bq (AV HB1.o (hba o)))
    (K3.o.1.mono BP (hba o)) (H3.o.1.mono BP (AV HB1.o (hba o)))
    (K4.o.1.mono Bf (hba o)) (H4.o.1.mono Bf (AV HB1.o (hba o)))
    (K5.o.1.mono Bo (hba o)) (H5.o.1.mono Bo (AV HB1.o (hba o)))
    (K6.o.1.mono BQ (hba o)) (H6.o.1.mono BQ (AV HB1.o (hba o)))
   rw [hv] at this;exact this)
  clear hv hba;go_wp2_with (go_at_call 80;refine (HS.o _).mono ?_;clear HS)
  first | rintro e w2 rfl hb2 | rintro e w2 ⟨rfl,hb2⟩
  have HB2:AI (AK w w2):=AF ((HB1.o.alloc HB1.o.size _).trans (hb2.mono gT));clear hb2;cases v with
  |
   true=>
   go_wp2;go_ret;exact ⟨DG (by rw [Ob,Ak HT.o,HX.o,Ak (F4 HV.o)]),HB2.o⟩
  |
   false=>
   go_wp2;go_ret;exact ⟨DG (by rw [Ob,Ak HT.o,HX.o,Ah (R8 HV.o)]),HB2.o⟩
 have htn:(t !=0)=true:=by simpa using ht0
 go_wp2;go_ret;exact ⟨DG (by rw [Ob,Ah (by rw [HT.o];exact ht0),HT.o]),HB1.o.alloc HB1.o.size _⟩
theorem iu (s:BG) (w:AH) (h3:BV 6 96 BW w (AA A3 n3 c3) s.Aq) (hI:∀x∈s.Aq,∀d∈x.deps,I4 d):
 AS prog 76 #[(AP #[AA A1 n1 c1,AA A2 n2 c2,AA A3 n3 c3,AA A4 n4 c4,AA A5 n5 c5,AA A6 n6 c6])] w fun e w'=>e=AW (AB AE (Nt s))/\AK w w':=by
 have hn3:n3<=9223372036854775807:=by have:=h3.1.le;omega
 obtain ⟨HN,H3,HI⟩:=BB h3.1.len h3.1 hI;clear h3 hI;have HB0:AI (AK w (w.alloc (AO #[AA A1 n1 c1,AA A2 n2 c2,AA A3 n3 c3,AA A4 n4 c4,AA A5 n5 c5,AA A6 n6 c6] 29))):=AF (BK _ _);go_enter func76,ntmps76;go_wp2_with fail;go_loopg [9] n3 (fun q i wr=>∃k:Nat,k<=n3/\q=n3 - k/\i=AB AE k/\(s.Aq.take k).all (fun x=>M3 x.fields.length (x.deps.map WT))=true/\AK w wr)
 case atStart=>exact ⟨0,Ay _,rfl,rfl,rfl,HB0.o⟩
 clear HB0;obtain ⟨k,hk,hq,rfl,hv,hb⟩:=hrel;obtain ⟨HQ,HB,HV⟩:=BB hq hb hv;clear hq hb hv;by_cases hlt:k < n3
 ·obtain ⟨b,off,x,B1,m1,d1,B2,m2,d2,rfl,hbl,hx,e0,e1,e2,e3,e4,e5,g1,g2⟩:=GL (H3.o.mono BP HB.o) hlt
  have HX:=AF hx;have hkn:(k:Int) < (n3:Int):=AG
  have hk0:=Int.natCast_nonneg k
  have hfl:m1=x.fields.length:=g1.1.len;have hm1:m1<=9223372036854775807:=by have:=g1.1.le;omega
  obtain ⟨v,hv⟩:=BR (M3 x.fields.length (x.deps.map WT));have EJ:=AF hv;have HC:AI (∀o,AS prog 113 #[AP #[AL x.name,AL x.FX,AB AE x.Ar,AB AE x.version,AA B1 m1 d1,AA B2 m2 d2]] (wr.alloc o) fun e w'=>e=AW (AB AE (eno v))/\BL (wr.alloc o).heap.size (wr.alloc o) w'):=AF (fun o=>by have:=check_any x.name x.FX x.Ar x.version B1 B2 m1 d1 m2 d2 (x.deps.map WT) (wr.alloc o) hm1 ((ACX g2.1 (HI.o x (Cr hx))).mono ke (BK _ _));rw [hfl,hv] at this;rw [hfl];exact this)
  clear hx g1 g2 hv hfl;go_wp2_with (go_at_call 113;refine (HC.o _).mono ?_;clear HC)
  first | rintro e w1 rfl hb1 | rintro e w1 ⟨rfl,hb1⟩
  have HB1:AI (AK w w1):=AF ((HB.o.alloc HB.o.size _).trans (hb1.mono U6));clear hb1;cases v with
  |
   true=>
   rw [show eno true=0 from rfl];go_wp2;go_roundg (n3 - (k+1))
   case measure=>exact Bi
   case rel=>exact ⟨k+1,by omega,rfl,by go_num,Dq HX.o EJ.o HV.o,HB1.o⟩
  |
   false=>
   rw [show eno false=130 from rfl];go_wp2;go_ret;exact ⟨DG (by rw [Nt,Jy HX.o EJ.o];rfl),HB1.o⟩
 have HT:AI (s.Aq.all (fun x=>M3 x.fields.length (x.deps.map WT))=true):=by have:=HV.o;rw [C7 MF] at this;exact this
 go_wp2;go_ret;exact ⟨DG (by rw [Nt,HT.o];rfl),HB.o⟩
theorem ABF (A:Option Aa) (n c:Nat) (l:AQ) (many:Nat) (w:AH) (hs:Ag 1 iR w (AA A n c) l):
 AS prog 115 #[.map (some w.heap.size),AA A n c,AB AE many] (w.alloc (.map #[] 0)) fun e w'=>e=AW (Ab (Dw [] l && decide (l.length=many)))/\AK w w':=by
 have hn2:n<=9223372036854775807:=by have:=hs.le;omega
 obtain ⟨HN,HS⟩:=Al hs.len hs;have HM:AI (MapAt (Value.int .i64) Value.bool (w.alloc (.map #[] 0)) w.heap.size (FH ([]:AQ))):=AF (MapAt.new _ _ w);have HB0:AI (AK w (w.alloc (.map #[] 0))):=AF (BK _ _);clear hs;obtain ⟨v,hv⟩:=BR (Dw [] l);rw [hv];have HV:AI (Dw (l.take 0) (l.drop 0)=v):=AF hv;clear hv;go_enter func115,ntmps115;go_wp2_with fail;go_loopg [11] n (fun g i wr=>∃k:Nat,k<=n/\g=n - k/\i=AB AE k/\Dw (l.take k) (l.drop k)=v/\MapAt (Value.int .i64) Value.bool wr w.heap.size (FH (l.take k))/\AK w wr)
 case atStart=>exact ⟨0,Ay _,rfl,rfl,HV.o,HM.o,HB0.o⟩
 clear HM HV HB0;obtain ⟨k,hk,hg,rfl,hv,hm,hb⟩:=hrel;obtain ⟨HG,HB⟩:=Al hg hb;by_cases hlt:k < n
 ·obtain ⟨bb,off,x,rfl,AIT,hx,hc⟩:=xq HS.o hlt
  have hc2:=(HB.o.cell (p:=⟨bb,off+k,none⟩) AIT).trans hc;have AEd:bb < wr.heap.size:=Av AIT hb.size;rw [drop_cons hx,Dw] at hv;have hlook:=DT (I0 underlying3) underlying210 (z:=Ab false) AJ hm x false;rw [YF] at hlook;by_cases hmem:x∈l.take k
  ·rw [Ak hmem] at hv hlook
   subst hv;simp only [C6,Ce,IU,He] at hlook;clear hx hg hb hm hmem hc;exact nE
  rw [Ah hmem] at hv hlook;simp only [Jd,Kd,IU,He] at hlook;obtain ⟨w3,hrun3,ER,hg3⟩:=FV (I0 underlying3) underlying210 hm x true;rw [Xl _ _ hmem,<-take_snoc hx] at ER;rw [<-take_snoc hx] at hv;have HB3:AI (AK w w3):=AF (HB.o.grown hg3 HB.o.size (fun r e=>by cases e;exact Ac _));obtain ⟨Ht,HV3⟩:=Al ER hv;clear ER hg3 hv hx hg hb hm hmem hc;go_wp2;go_roundg (n - (k+1))
  case measure=>exact Ej
  case rel=>exact ⟨k+1,by omega,rfl,by go_num,HV3.o,Ht.o,HB3.o⟩
 rw [FQ MF] at hv;subst hv;clear hm hb;by_cases hnm:n=many
 ·subst hnm
  go_wp2;go_ret;exact ⟨A8 (by simp [Dw,HN.o]),HB.o⟩
 have AMH:¬(n:Int)=(many:Int):=AG
 go_wp2;go_ret;exact ⟨A8 (by rw [BS MF];simp;omega),HB.o⟩
theorem aq (s:BG) (pv:DH->Bool) (w:AH) (h5:BV 5 72 CF w (AA A5 n5 c5) s.converts) (hv:∀(W:AH),AK w W->Says 116 #[(AP #[AA A1 n1 c1,AA A2 n2 c2,AA A3 n3 c3,AA A4 n4 c4,AA A5 n5 c5,AA A6 n6 c6])] #[] CF pv s.converts W):
 AS prog 78 #[(AP #[AA A1 n1 c1,AA A2 n2 c2,AA A3 n3 c3,AA A4 n4 c4,AA A5 n5 c5,AA A6 n6 c6])] w fun e w'=>e=AW (AB AE (Qo pv s))/\AK w w':=by
 have hn5:n5<=9223372036854775807:=by have:=h5.1.le;omega
 obtain ⟨HN,H5,HV0⟩:=BB h5.1.len h5.1 hv;clear h5 hv;have HB0:AI (AK w (w.alloc (AO #[AA A1 n1 c1,AA A2 n2 c2,AA A3 n3 c3,AA A4 n4 c4,AA A5 n5 c5,AA A6 n6 c6] 29))):=AF (BK _ _);have Vr:AI (AY (w.alloc (AO #[AA A1 n1 c1,AA A2 n2 c2,AA A3 n3 c3,AA A4 n4 c4,AA A5 n5 c5,AA A6 n6 c6] 29)) w.heap.size 29 #[AA A1 n1 c1,AA A2 n2 c2,AA A3 n3 c3,AA A4 n4 c4,AA A5 n5 c5,AA A6 n6 c6]):=AF (AY.new _ _ _);go_enter func78,ntmps78;go_wp2_with fail;go_loopg [8] n5 (fun q i wr=>∃k:Nat,k<=n5/\q=n5 - k/\i=AB AE k/\(s.converts.take k).all pv=true/\AY wr w.heap.size 29 #[AA A1 n1 c1,AA A2 n2 c2,AA A3 n3 c3,AA A4 n4 c4,AA A5 n5 c5,AA A6 n6 c6]/\AK w wr)
 case atStart=>exact ⟨0,Ay _,rfl,rfl,rfl,Vr.o,HB0.o⟩
 clear HB0 Vr;obtain ⟨k,hk,hq,rfl,hv,hkb,hb⟩:=hrel;obtain ⟨HQ,HB,HV,HK⟩:=CD hq hb hv hkb;have q0:=hkb.cell 0;have q1:=hkb.cell 1;have q2:=hkb.cell 2;have q3:=hkb.cell 3;have q4:=hkb.cell 4;have q5:=hkb.cell 5;have lq:=hkb.lt;simp only [Aj,Ao,BA] at q0 q1 q2 q3 q4 q5;clear hq hb hv hkb;by_cases hlt:k < n5
 ·obtain ⟨b,off,x,B1,m1,d1,rfl,hbl,hx,e0,e1,e2,e3,e4,g1⟩:=Qc (H5.o.mono Bo HB.o) hlt
  have HX:=AF hx;have hkn:(k:Int) < (n5:Int):=AG
  have hk0:=Int.natCast_nonneg k
  obtain ⟨v,hv⟩:=BR (pv x);have EJ:=AF hv;have HC:AI (∀o,AS prog 116 #[(AP #[AA A1 n1 c1,AA A2 n2 c2,AA A3 n3 c3,AA A4 n4 c4,AA (some ⟨b,off,none⟩) n5 c5,AA A6 n6 c6]),AP #[AL x.from_,AL x.DS,AB AE x.a,AB AE x.b,AA B1 m1 d1]] (wr.alloc o) fun e w'=>e=AW (Ab v)/\BL (wr.alloc o).heap.size (wr.alloc o) w'):=AF (fun o=>by have hba:AK wr (wr.alloc o):=(Af _ _).alloc (Ac _) o;have:=HV0.o wr HB.o (wr.alloc o) [AL x.from_,AL x.DS,AB AE x.a,AB AE x.b,AA B1 m1 d1] x hba (Cr hx) (Bo _ _ hba _ _ ⟨B1,m1,d1,rfl,g1⟩);rw [hv] at this;exact this)
  clear hx g1 hv;go_wp2_with (go_at_call 116;refine (HC.o _).mono ?_;clear HC)
  first | rintro e w1 rfl hb1 | rintro e w1 ⟨rfl,hb1⟩
  have HB1:AI (AK w w1):=AF ((HB.o.alloc HB.o.size _).trans (hb1.mono U6));have MP:AI (AY w1 w.heap.size 29 #[AA A1 n1 c1,AA A2 n2 c2,AA A3 n3 c3,AA A4 n4 c4,AA (some ⟨b,off,none⟩) n5 c5,AA A6 n6 c6]):=AF ((HK.o.alloc _).below hb1 Bd);clear hb1;cases v with
  |
   true=>
   go_wp2;go_roundg (n5 - (k+1))
   case measure=>exact Bi
   case rel=>exact ⟨k+1,by omega,rfl,by go_num,Dq HX.o EJ.o HV.o,MP.o,HB1.o⟩
  |
   false=>
   go_wp2;go_ret;exact ⟨DG (by rw [Qo,Jy HX.o EJ.o];rfl),HB1.o⟩
 have HT:AI (s.converts.all pv=true):=by have:=HV.o;rw [C7 MF] at this;exact this
 go_wp2;go_ret;exact ⟨DG (by rw [Qo,HT.o];rfl),HB.o⟩
theorem sV (s:BG) (pv:DH->Bool) (w:AH) (h1:BV 1 16 Dd w (AA A1 n1 c1) s.Bh) (h2:BV 5 56 CS w (AA A2 n2 c2) s.units) (h3:BV 6 96 BW w (AA A3 n3 c3) s.Aq) (h4:BV 5 96 CT w (AA A4 n4 c4) s.rules) (h5:BV 5 72 CF w (AA A5 n5 c5) s.converts) (h6:BV 3 48 BZ w (AA A6 n6 c6) s.purposes) (hsub:cH A1 A2 A3 A4 A5 A6 n1 c1 n2 c2 n3 c3 n4 c4 n5 c5 n6 c6 s pv w):
 AS prog 77 #[(AP #[AA A1 n1 c1,AA A2 n2 c2,AA A3 n3 c3,AA A4 n4 c4,AA A5 n5 c5,AA A6 n6 c6])] w fun e w'=>e=AW (AB AE (Kv s))/\AK w w':=by
 have hb0:AK w (w.alloc (AO #[AA A1 n1 c1,AA A2 n2 c2,AA A3 n3 c3,AA A4 n4 c4,AA A5 n5 c5,AA A6 n6 c6] 29)):=(BK _ _);obtain ⟨t,ht⟩:=BR (Ku s);have HC:AI (AS prog 114 #[(AP #[AA A1 n1 c1,AA A2 n2 c2,AA A3 n3 c3,AA A4 n4 c4,AA A5 n5 c5,AA A6 n6 c6])] (w.alloc (AO #[AA A1 n1 c1,AA A2 n2 c2,AA A3 n3 c3,AA A4 n4 c4,AA A5 n5 c5,AA A6 n6 c6] 29)) fun e w'=>e=AW (AB AE t)/\BL (w.alloc (AO #[AA A1 n1 c1,AA A2 n2 c2,AA A3 n3 c3,AA A4 n4 c4,AA A5 n5 c5,AA A6 n6 c6] 29)).heap.size (w.alloc (AO #[AA A1 n1 c1,AA A2 n2 c2,AA A3 n3 c3,AA A4 n4 c4,AA A5 n5 c5,AA A6 n6 c6] 29)) w'):=AF (by rw [<-ht];have hs2:=hsub.below hb0;exact mG A1 A2 A3 A4 A5 A6 n1 c1 n2 c2 n3 c3 n4 c4 n5 c5 n6 c6 s _ (h1.1.mono BX hb0) (h2.1.mono Bq hb0) (h3.1.mono BP hb0) (h4.1.mono Bf hb0) h5.1.len (h6.1.mono BQ hb0) hs2.rules hs2.xM)
 obtain ⟨HT,HB0,Lg,H4⟩:=CD ht hb0 h3.1.len h4.1;clear ht hb0 h1 h2 h3 h4 h5 h6 hsub;have hmm:∀(w:AH),(Instr.makeMap 210 none).run prog w=.ok (.map (some w.heap.size)) (w.alloc (.map #[] 0)):=by intro w;simp [Instr.makeMap]
 go_enter func77,ntmps77;go_wp2_with (go_at_call 114;refine HC.o.mono ?_)
 first | rintro e w1 rfl hb1 | rintro e w1 ⟨rfl,hb1⟩
 have HB1:AI (AK w w1):=AF (AV HB0.o hb1);have kb:=(AY.new w 29 #[AA A1 n1 c1,AA A2 n2 c2,AA A3 n3 c3,AA A4 n4 c4,AA A5 n5 c5,AA A6 n6 c6]).below hb1 AZ;have q0:=kb.cell 0;have q1:=kb.cell 1;have q2:=kb.cell 2;have q3:=kb.cell 3;have q4:=kb.cell 4;have q5:=kb.cell 5;have lq:=kb.lt;simp only [Aj,Ao,BA] at q0 q1 q2 q3 q4 q5;have HKB:=AF kb;clear hb1 kb HC;by_cases ht0:t=0
 ·subst ht0
  have lP:AI (FU s=0):=AF (by
   have:=HT.o;unfold Ku at this;split at this
   · assumption
   · next h=>exact absurd this h)
  have QW:AI (n3<=1000/\∀r∈s.rules,(0<=r.schema/\r.schema < n3)/\∀f∈r.froms,0<=f.schema/\f.schema < n3):=AF (by obtain ⟨h1,h2,h3,h4,h5⟩:=UM lP.o;refine ⟨by have:=PE h1;have:=Lg.o;omega,fun r hr=> ?_⟩;rw [Lg.o];exact V8 (DM.1 h4 r hr))
  go_wp2_with (go_at_call 79;refine (Xq A1 A2 A3 A4 A5 A6 n1 c1 n2 c2 n3 c3 n4 c4 n5 c5 n6 c6 s.rules w1 (H4.o.mono Bf HB1.o) QW.o.1 QW.o.2).mono ?_)
  first | rintro e w2 v ok rfl hok hv hb2 | rintro e w2 ⟨v,ok,rfl,hok,hv,hb2⟩
  have Ii:=AF hok;have HB2:AI (AK w w2):=AF (AV HB1.o hb2);have kb:=HKB.o.below hb2 lq;have q2:=kb.cell 2;have lq2:=kb.lt;simp only [Aj,Ao,BA] at q2;have hv:=NR hv;obtain ⟨A,c,rfl⟩:=hv.form;have HV:=AF hv;clear hok hv hb2 kb q0 q1 q3 q4 q5;cases ok with
  |
   true=>
   have HVO:AI (Ag 1 iR w2 (AA A (Cx s.rules n3).length c) (Cx s.rules n3)):=AF HV.o;clear HV;simp only [C4];obtain ⟨v2,hv2⟩:∃v2,(Dw [] (Cx s.rules n3) && decide ((Cx s.rules n3).length=n3))=v2:=⟨_,rfl⟩;have EJ:=AF hv2;have HWC:AI (AS prog 115 #[.map (some w2.heap.size),AA A (Cx s.rules n3).length c,AB AE n3] (w2.alloc (.map #[] 0)) fun e w'=>e=AW (Ab v2)/\AK w2 w'):=AF (by have:=ABF A (Cx s.rules n3).length c (Cx s.rules n3) n3 w2 HVO.o;rw [hv2] at this;exact this)
   clear hv2;go_wp2_with (go_at_call 115;refine HWC.o.mono ?_;clear HWC)
   first | rintro e w3 rfl hb3 | rintro e w3 ⟨rfl,hb3⟩
   have HB3:AI (AK w w3):=AF (AV HB2.o hb3);clear hb3;have HP:AI (Kv s=if v2 then 0 else 141):=AF (by rw [Kv,Ak HT.o,<-Lg.o,EJ.o,<-Ii.o,Jc])
   cases v2 with
   |
    true=>
    go_wp2;go_ret;exact ⟨DG (by rw [HP.o];rfl),HB3.o⟩
   |
    false=>
    go_wp2;go_ret;exact ⟨DG (by rw [HP.o];rfl),HB3.o⟩
  |
   false=>
   go_wp2;go_ret;exact ⟨DG (by rw [Kv,Ak HT.o,<-Lg.o,<-Ii.o,Bool.false_and];rfl),HB2.o⟩
 have htn:(t !=0)=true:=by simpa using ht0
 go_wp2;go_ret;exact ⟨DG (by rw [Kv,HT.o,Ah ht0]),HB1.o⟩
def IB (pv:DH->Bool) (s:BG):AQ:=[Ob s,FU s,Nt s,Kv s,Qo pv s]
def O9 (pv:DH->Bool) (s:BG):Int:=((IB pv s).find? fun x=>decide (x≠0)).getD 0
theorem ABy {pv:DH->Bool} {s:BG} {j:Nat} {t:Int} (h:((IB pv s).take j).all (fun x=>decide (x=0))=true) (hj:(IB pv s)[j]? =some t) (ht:t≠0):O9 pv s=t:=by
 unfold O9;have hs:IB pv s=(IB pv s).take j++t::(IB pv s).drop (j+1):=by rw [<-drop_cons hj,OU]
 rw [hs,List.find?_append];have hn:((IB pv s).take j).find? (fun x=>decide (x≠0))=none:=by rw [List.find?_eq_none];intro x hx;have:=DM.1 h x hx;simpa using this
 rw [hn];simp [ht]
theorem sw {pv:DH->Bool} {s:BG} (h:(IB pv s).all (fun x=>decide (x=0))=true):O9 pv s=0:=by
 unfold O9;have hn:(IB pv s).find? (fun x=>decide (x≠0))=none:=by rw [List.find?_eq_none];intro x hx;have:=DM.1 h x hx;simpa using this
 rw [hn];rfl
def qq (A1 A2 A3 A4 A5 A6:Option Aa) (n1 c1 n2 c2 n3 c3 n4 c4 n5 c5 n6 c6:Nat) (pv:DH->Bool) (s:BG) (w:AH) (e:Ending) (w':AH):Prop:=
 ((
  O9 pv s≠0/\e=AW (BU #[AP #[AA none 0 0,AA none 0 0,AA none 0 0,AA none 0 0,AA none 0 0,AA none 0 0,AA none 0 0],AB AE (O9 pv s)]))\/
  (O9 pv s=0/\∃C d,e=AW (BU #[AP #[AA A1 n1 c1,AA A2 n2 c2,AA A3 n3 c3,AA A4 n4 c4,AA A5 n5 c5,AA A6 n6 c6,AA C (Cx s.rules s.Aq.length).length d],AB AE 0])/\Ag 1 iR w' (AA C (Cx s.rules s.Aq.length).length d) (Cx s.rules s.Aq.length)))/\AK w w'
theorem ABx (s:BG) (pv:DH->Bool) (w:AH) (h1:BV 1 16 Dd w (AA A1 n1 c1) s.Bh) (h2:BV 5 56 CS w (AA A2 n2 c2) s.units) (h3:BV 6 96 BW w (AA A3 n3 c3) s.Aq) (h4:BV 5 96 CT w (AA A4 n4 c4) s.rules) (h5:BV 5 72 CF w (AA A5 n5 c5) s.converts) (h6:BV 3 48 BZ w (AA A6 n6 c6) s.purposes) (hsub:cH A1 A2 A3 A4 A5 A6 n1 c1 n2 c2 n3 c3 n4 c4 n5 c5 n6 c6 s pv w) (hI:∀x∈s.Aq,∀d∈x.deps,I4 d):
 AS prog 51 #[(AP #[AA A1 n1 c1,AA A2 n2 c2,AA A3 n3 c3,AA A4 n4 c4,AA A5 n5 c5,AA A6 n6 c6])] w (qq A1 A2 A3 A4 A5 A6 n1 c1 n2 c2 n3 c3 n4 c4 n5 c5 n6 c6 pv s w):=by
 obtain ⟨H1,H2,H3,H4,H5,H6⟩:=Fg h1 h2 h3 h4 h5 h6;clear h1 h2 h3 h4 h5 h6;obtain ⟨zN,HI⟩:=Al hsub hI;clear hsub hI;have hi0:∀w:AH,(Instr.index 152 (AP #[.func (.func 74) #[] #[],.func (.func 75) #[] #[],.func (.func 76) #[] #[],.func (.func 77) #[] #[],.func (.func 78) #[] #[]]) (AB AE 0)).run prog w=.ok (.func (.func 74) #[] #[]) w:=fun _=>by kernel_rfl
 have hi1:∀w:AH,(Instr.index 152 (AP #[.func (.func 74) #[] #[],.func (.func 75) #[] #[],.func (.func 76) #[] #[],.func (.func 77) #[] #[],.func (.func 78) #[] #[]]) (AB AE 1)).run prog w=.ok (.func (.func 75) #[] #[]) w:=fun _=>by kernel_rfl
 have hi2:∀w:AH,(Instr.index 152 (AP #[.func (.func 74) #[] #[],.func (.func 75) #[] #[],.func (.func 76) #[] #[],.func (.func 77) #[] #[],.func (.func 78) #[] #[]]) (AB AE 2)).run prog w=.ok (.func (.func 76) #[] #[]) w:=fun _=>by kernel_rfl
 have hi3:∀w:AH,(Instr.index 152 (AP #[.func (.func 74) #[] #[],.func (.func 75) #[] #[],.func (.func 76) #[] #[],.func (.func 77) #[] #[],.func (.func 78) #[] #[]]) (AB AE 3)).run prog w=.ok (.func (.func 77) #[] #[]) w:=fun _=>by kernel_rfl
 have hi4:∀w:AH,(Instr.index 152 (AP #[.func (.func 74) #[] #[],.func (.func 75) #[] #[],.func (.func 76) #[] #[],.func (.func 77) #[] #[],.func (.func 78) #[] #[]]) (AB AE 4)).run prog w=.ok (.func (.func 78) #[] #[]) w:=fun _=>by kernel_rfl
 have Ij:=AF (And.intro hi0 (And.intro hi1 (And.intro hi2 (And.intro hi3 hi4))));clear hi0 hi1 hi2 hi3 hi4;go_enter func51,ntmps51;go_wp2_with fail;obtain ⟨wb,hwb⟩:=Ad (((w.alloc (AO #[AA A1 n1 c1,AA A2 n2 c2,AA A3 n3 c3,AA A4 n4 c4,AA A5 n5 c5,AA A6 n6 c6] 29)).alloc (AO #[AA none 0 0,AA none 0 0,AA none 0 0,AA none 0 0,AA none 0 0,AA none 0 0,AA none 0 0] 32)).alloc (AO #[.func (.func 74) #[] #[],.func (.func 75) #[] #[],.func (.func 76) #[] #[],.func (.func 77) #[] #[],.func (.func 78) #[] #[]] 152));rw [<-hwb];have hbb:AK w wb:=by rw [hwb];exact ((BK _ _).alloc AZ _).alloc Bd _
 have kA:AY wb w.heap.size 29 #[AA A1 n1 c1,AA A2 n2 c2,AA A3 n3 c3,AA A4 n4 c4,AA A5 n5 c5,AA A6 n6 c6]:=by rw [hwb];exact ((AY.new _ _ _).alloc _).alloc _
 have kB:AY wb (w.heap.size+1) 32 #[AA none 0 0,AA none 0 0,AA none 0 0,AA none 0 0,AA none 0 0,AA none 0 0,AA none 0 0]:=by rw [hwb];exact (Dk AZ).alloc _
 obtain ⟨ga,hga⟩:=Ad w.heap.size;obtain ⟨gb,hgb⟩:=Ad (w.heap.size+1);rw [<-hgb] at kB ⊢;rw [<-hga] at kA ⊢;have PJ:w.heap.size<=gb:=AG
 have AMS:ga≠gb:=AG
 obtain ⟨BJ,af,HKB⟩:=BB hbb kA kB;have la:=kA.lt;have lb:=kB.lt;clear hwb hga hgb hbb kA kB;go_loopg [12] 5 (fun q i wr=>∃j:Nat,j<=5/\q=5 - j/\i=AB AE j/\((IB pv s).take j).all (fun x=>decide (x=0))=true/\AK wb wr)
 case atStart=>exact N3
 obtain ⟨j,hj,hq,rfl,hv,hb⟩:=hrel;obtain ⟨HQ,HV,DK⟩:=BB hq hv hb;have HB:AI (AK w wr):=AF (AV BJ.o hb);have kA:=af.o.below hb la;have kB:=HKB.o.below hb lb;have a0:=kA.cell 0;have a1:=kA.cell 1;have a2:=kA.cell 2;have a3:=kA.cell 3;have a4:=kA.cell 4;have a5:=kA.cell 5;have b0:=kB.cell 0;have b1:=kB.cell 1;have b2:=kB.cell 2;have b3:=kB.cell 3;have b4:=kB.cell 4;have b5:=kB.cell 5;have b6:=kB.cell 6;have lar:=kA.lt;have jy:=kB.lt;simp only [Aj,Ao,BA] at a0 a1 a2 a3 a4 a5 b0 b1 b2 b3 b4 b5 b6;clear kA kB hq hv hb;by_cases hlt:j < 5
 ·obtain h0 | h0 | h0 | h0 | h0:j=0\/j=1\/j=2\/j=3\/j=4:=by omega
  ·subst h0
   have hix:=Ij.o.1;obtain ⟨t,ht⟩:=BR (Ob s);have HT:AI ((IB pv s)[0]? =some t):=AF Uy;have HC:AI (AS prog 74 #[(AP #[AA A1 n1 c1,AA A2 n2 c2,AA A3 n3 c3,AA A4 n4 c4,AA A5 n5 c5,AA A6 n6 c6])] wr fun e w'=>e=AW (AB AE t)/\AK wr w'):=AF (by have:=ox A1 A2 A3 A4 A5 A6 n1 c1 n2 c2 n3 c3 n4 c4 n5 c5 n6 c6 s wr (H1.o.mono BX HB.o) (H2.o.mono Bq HB.o) (H3.o.mono BP HB.o) (H4.o.mono Bf HB.o) (H5.o.mono Bo HB.o) (H6.o.mono BQ HB.o);rw [ht] at this;exact this)
   clear ht;go_wp2_with (go_at_call 74;refine HC.o.mono ?_;clear HC)
   first | rintro e w1 rfl hb1 | rintro e w1 ⟨rfl,hb1⟩
   have Bj:=AF (AV DK.o hb1);have HB1:AI (AK w w1):=AF (AV HB.o hb1);have kB:=HKB.o.below Bj.o lb;clear hb1 a0 a1 a2 a3 a4 a5 b0 b1 b2 b3 b4 b5 b6 jy;by_cases ht0:t=0
   ·subst ht0
    clear kB;go_wp2;go_roundg (5 - (0+1))
    case measure=>exact Bi
    case rel=>exact ⟨0+1,by omega,rfl,by go_num,Dq (p:=fun x=>decide (x=0)) HT.o rfl HV.o,Bj.o⟩
   exact cn
  ·subst h0
   have hix:=Ij.o.2.1;obtain ⟨t,ht⟩:=BR (FU s);have HT:AI ((IB pv s)[1]? =some t):=AF Uy;have HC:AI (AS prog 75 #[(AP #[AA A1 n1 c1,AA A2 n2 c2,AA A3 n3 c3,AA A4 n4 c4,AA A5 n5 c5,AA A6 n6 c6])] wr fun e w'=>e=AW (AB AE t)/\AK wr w'):=AF (by have:=Wh A1 A2 A3 A4 A5 A6 n1 c1 n2 c2 n3 c3 n4 c4 n5 c5 n6 c6 s wr (H1.o.mono BX HB.o).1 (H2.o.mono Bq HB.o).1 (H3.o.mono BP HB.o).1 (H4.o.mono Bf HB.o).1 H5.o.1.len (H6.o.mono BQ HB.o).1 (zN.o.below HB.o).rules (zN.o.below HB.o).xM;rw [ht] at this;exact this)
   clear ht;go_wp2_with (go_at_call 75;refine HC.o.mono ?_;clear HC)
   first | rintro e w1 rfl hb1 | rintro e w1 ⟨rfl,hb1⟩
   have Bj:=AF (AV DK.o hb1);have HB1:AI (AK w w1):=AF (AV HB.o hb1);have kB:=HKB.o.below Bj.o lb;clear hb1 a0 a1 a2 a3 a4 a5 b0 b1 b2 b3 b4 b5 b6 jy;by_cases ht0:t=0
   ·subst ht0
    clear kB;go_wp2;go_roundg (5 - (1+1))
    case measure=>exact Bi
    case rel=>exact ⟨1+1,by omega,rfl,by go_num,Dq (p:=fun x=>decide (x=0)) HT.o rfl HV.o,Bj.o⟩
   exact cn
  ·subst h0
   have hix:=Ij.o.2.2.1;obtain ⟨t,ht⟩:=BR (Nt s);have HT:AI ((IB pv s)[2]? =some t):=AF Uy;have HC:AI (AS prog 76 #[(AP #[AA A1 n1 c1,AA A2 n2 c2,AA A3 n3 c3,AA A4 n4 c4,AA A5 n5 c5,AA A6 n6 c6])] wr fun e w'=>e=AW (AB AE t)/\AK wr w'):=AF (by have:=iu A1 A2 A3 A4 A5 A6 n1 c1 n2 c2 n3 c3 n4 c4 n5 c5 n6 c6 s wr (H3.o.mono BP HB.o) HI.o;rw [ht] at this;exact this)
   clear ht;go_wp2_with (go_at_call 76;refine HC.o.mono ?_;clear HC)
   first | rintro e w1 rfl hb1 | rintro e w1 ⟨rfl,hb1⟩
   have Bj:=AF (AV DK.o hb1);have HB1:AI (AK w w1):=AF (AV HB.o hb1);have kB:=HKB.o.below Bj.o lb;clear hb1 a0 a1 a2 a3 a4 a5 b0 b1 b2 b3 b4 b5 b6 jy;by_cases ht0:t=0
   ·subst ht0
    clear kB;go_wp2;go_roundg (5 - (2+1))
    case measure=>exact Bi
    case rel=>exact ⟨2+1,by omega,rfl,by go_num,Dq (p:=fun x=>decide (x=0)) HT.o rfl HV.o,Bj.o⟩
   exact cn
  ·subst h0
   have hix:=Ij.o.2.2.2.1;obtain ⟨t,ht⟩:=BR (Kv s);have HT:AI ((IB pv s)[3]? =some t):=AF Uy;have HC:AI (AS prog 77 #[(AP #[AA A1 n1 c1,AA A2 n2 c2,AA A3 n3 c3,AA A4 n4 c4,AA A5 n5 c5,AA A6 n6 c6])] wr fun e w'=>e=AW (AB AE t)/\AK wr w'):=AF (by have:=sV A1 A2 A3 A4 A5 A6 n1 c1 n2 c2 n3 c3 n4 c4 n5 c5 n6 c6 s pv wr (H1.o.mono BX HB.o) (H2.o.mono Bq HB.o) (H3.o.mono BP HB.o) (H4.o.mono Bf HB.o) (H5.o.mono Bo HB.o) (H6.o.mono BQ HB.o) (zN.o.below HB.o);rw [ht] at this;exact this)
   clear ht;go_wp2_with (go_at_call 77;refine HC.o.mono ?_;clear HC)
   first | rintro e w1 rfl hb1 | rintro e w1 ⟨rfl,hb1⟩
   have Bj:=AF (AV DK.o hb1);have HB1:AI (AK w w1):=AF (AV HB.o hb1);have kB:=HKB.o.below Bj.o lb;clear hb1 a0 a1 a2 a3 a4 a5 b0 b1 b2 b3 b4 b5 b6 jy;by_cases ht0:t=0
   ·subst ht0
    clear kB;go_wp2;go_roundg (5 - (3+1))
    case measure=>exact Bi
    case rel=>exact ⟨3+1,by omega,rfl,by go_num,Dq (p:=fun x=>decide (x=0)) HT.o rfl HV.o,Bj.o⟩
   exact cn
  subst h0;have hix:=Ij.o.2.2.2.2;obtain ⟨t,ht⟩:=BR (Qo pv s);have HT:AI ((IB pv s)[4]? =some t):=AF Uy;have HC:AI (AS prog 78 #[(AP #[AA A1 n1 c1,AA A2 n2 c2,AA A3 n3 c3,AA A4 n4 c4,AA A5 n5 c5,AA A6 n6 c6])] wr fun e w'=>e=AW (AB AE t)/\AK wr w'):=AF (by have:=aq A1 A2 A3 A4 A5 A6 n1 c1 n2 c2 n3 c3 n4 c4 n5 c5 n6 c6 s pv wr (H5.o.mono Bo HB.o) (zN.o.below HB.o).vers;rw [ht] at this;exact this)
  clear ht;go_wp2_with (go_at_call 78;refine HC.o.mono ?_;clear HC)
  first | rintro e w1 rfl hb1 | rintro e w1 ⟨rfl,hb1⟩
  have Bj:=AF (AV DK.o hb1);have HB1:AI (AK w w1):=AF (AV HB.o hb1);have kB:=HKB.o.below Bj.o lb;clear hb1 a0 a1 a2 a3 a4 a5 b0 b1 b2 b3 b4 b5 b6 jy;by_cases ht0:t=0
  ·subst ht0
   clear kB;go_wp2;go_roundg (5 - (4+1))
   case measure=>exact Bi
   case rel=>exact ⟨4+1,by omega,rfl,by go_num,Dq (p:=fun x=>decide (x=0)) HT.o rfl HV.o,Bj.o⟩
  exact cn
 obtain rfl:j=5:=AG
 have EU:AI ((IB pv s).all (fun x=>decide (x=0))=true):=AF HV.o;have HZ:AI (FU s=0/\Kv s=0):=AF (by have:=DM.1 EU.o;exact ⟨by simpa using this (FU s) (by simp [IB]),by simpa using this (Kv s) (by simp [IB])⟩)
 have Lg:=AF H3.o.1.len;have QW:AI (n3<=1000/\∀r∈s.rules,(0<=r.schema/\r.schema < n3)/\∀f∈r.froms,0<=f.schema/\f.schema < n3):=AF (by obtain ⟨h1,h2,h3,h4,h5⟩:=UM HZ.o.1;refine ⟨by have:=PE h1;have:=Lg.o;omega,fun r hr=> ?_⟩;rw [Lg.o];exact V8 (DM.1 h4 r hr))
 have Ii:AI (decide (n3<=(Cx s.rules n3).length)=true):=AF (by
  have:=HZ.o.2;unfold Kv at this;rw [<-Lg.o] at this;split at this
  ·split at this
   · next h=>simp only [Bb] at h;exact h.1
   · cases this
  · next h=>exact absurd this h)
 go_wp2_with (go_at_call 79;refine (Xq A1 A2 A3 A4 A5 A6 n1 c1 n2 c2 n3 c3 n4 c4 n5 c5 n6 c6 s.rules wr (H4.o.1.mono Bf HB.o) QW.o.1 QW.o.2).mono ?_)
 first | rintro e w2 v ok rfl hok hv hb2 | rintro e w2 ⟨v,ok,rfl,hok,hv,hb2⟩
 rw [Ii.o] at hok;subst hok;simp only [C4] at hv;obtain ⟨C,d,rfl⟩:=(NR hv).form;have EJ:=AF hv;have pS:gb < wr.heap.size:=(HKB.o.below DK.o lb).lt;have HB2:AI (AK w w2):=AF (AV HB.o hb2);have Cz:=AF (AV DK.o hb2);have kA:=af.o.below Cz.o la;have kB:=HKB.o.below Cz.o lb;clear hv hb2 a0 a1 a2 a3 a4 a5 b0 b1 b2 b3 b4 b5 b6 lar jy;have a0:=kA.cell 0;have a1:=kA.cell 1;have a2:=kA.cell 2;have a3:=kA.cell 3;have a4:=kA.cell 4;have a5:=kA.cell 5;have b0:=kB.cell 0;have b1:=kB.cell 1;have b2:=kB.cell 2;have b3:=kB.cell 3;have b4:=kB.cell 4;have b5:=kB.cell 5;have b6:=kB.cell 6;have f0:=kB.frozen 0;have f1:=kB.frozen 1;have f2:=kB.frozen 2;have f3:=kB.frozen 3;have f4:=kB.frozen 4;have f5:=kB.frozen 5;have f6:=kB.frozen 6;have jy:=kB.lt;have lar:=kA.lt;simp only [Aj,Ao,BA] at a0 a1 a2 a3 a4 a5 b0 b1 b2 b3 b4 b5 b6;have kE:=(((((((kB.put 0 (AA A1 n1 c1)).put 1 (AA A2 n2 c2)).put 2 (AA A3 n3 c3)).put 3 (AA A4 n4 c4)).put 4 (AA A5 n5 c5)).put 5 (AA A6 n6 c6)).put 6 (AA C (Cx s.rules n3).length d));have ae:=AF kE;clear kA kB kE;go_wp2_with fail;have x0:=ae.o.cell 0;have x1:=ae.o.cell 1;have x2:=ae.o.cell 2;have x3:=ae.o.cell 3;have x4:=ae.o.cell 4;have x5:=ae.o.cell 5;have x6:=ae.o.cell 6;simp only [Kf,CZ,Ch,Aj,Ao,BA] at x0 x1 x2 x3 x4 x5 x6;have hso:Ag 1 iR (((((((w2.setCell ⟨gb,0,none⟩ (AA A1 n1 c1)).setCell ⟨gb,1,none⟩ (AA A2 n2 c2)).setCell ⟨gb,2,none⟩ (AA A3 n3 c3)).setCell ⟨gb,3,none⟩ (AA A4 n4 c4)).setCell ⟨gb,4,none⟩ (AA A5 n5 c5)).setCell ⟨gb,5,none⟩ (AA A6 n6 c6)).setCell ⟨gb,6,none⟩ (AA C (Cx s.rules n3).length d)) (AA C (Cx s.rules n3).length d) (Cx s.rules n3):=NR ((FO (FO (FO (FO (FO (FO (FO EJ.o pS _) pS _) pS _) pS _) pS _) pS _) pS _));refine FN (v:=BU #[AP #[AA A1 n1 c1,AA A2 n2 c2,AA A3 n3 c3,AA A4 n4 c4,AA A5 n5 c5,AA A6 n6 c6,AA C (Cx s.rules n3).length d],AB AE 0]) ui rfl ⟨.inr ⟨sw EU.o,C,d,by rw [<-Lg.o],by rw [<-Lg.o];exact hso⟩,(((((((HB2.o.setCell (p:=⟨gb,0,none⟩) PJ (AA A1 n1 c1)).setCell (p:=⟨gb,1,none⟩) PJ (AA A2 n2 c2)).setCell (p:=⟨gb,2,none⟩) PJ (AA A3 n3 c3)).setCell (p:=⟨gb,3,none⟩) PJ (AA A4 n4 c4)).setCell (p:=⟨gb,4,none⟩) PJ (AA A5 n5 c5)).setCell (p:=⟨gb,5,none⟩) PJ (AA A6 n6 c6)).setCell (p:=⟨gb,6,none⟩) PJ (AA C (Cx s.rules n3).length d))⟩
theorem iJ (A7 B7:Option Aa) (n7 c7 m7 d7:Nat) (s:BG) (l r:AQ) (w:AH) (h1:BV 1 16 Dd w (AA A1 n1 c1) s.Bh) (h2:BV 5 56 CS w (AA A2 n2 c2) s.units) (h3:BV 6 96 BW w (AA A3 n3 c3) s.Aq) (h4:BV 5 96 CT w (AA A4 n4 c4) s.rules) (h5:BV 5 72 CF w (AA A5 n5 c5) s.converts) (h6:BV 3 48 BZ w (AA A6 n6 c6) s.purposes) (h7:Ag 1 iR w (AA A7 n7 c7) l) (k7:Ag 1 iR w (AA B7 m7 d7) r):
 AS prog 52 #[AP #[AA A1 n1 c1,AA A2 n2 c2,AA A3 n3 c3,AA A4 n4 c4,AA A5 n5 c5,AA A6 n6 c6,AA A7 n7 c7],AP #[AA A1 n1 c1,AA A2 n2 c2,AA A3 n3 c3,AA A4 n4 c4,AA A5 n5 c5,AA A6 n6 c6,AA B7 m7 d7]] w fun e w'=>e=AW (Ab (BD l r))/\AK w w':=by
 obtain ⟨H1,H2,H3,H4,H5,H6⟩:=Fg h1 h2 h3 h4 h5 h6;clear h1 h2 h3 h4 h5 h6;obtain ⟨H7,K7⟩:=Al h7 k7;clear h7 k7;go_enter func52,ntmps52;go_upto_region 1 with fail;obtain ⟨wb,hwb⟩:=Ad ((w.alloc (AO #[AA A1 n1 c1,AA A2 n2 c2,AA A3 n3 c3,AA A4 n4 c4,AA A5 n5 c5,AA A6 n6 c6,AA A7 n7 c7] 32)).alloc (AO #[AA A1 n1 c1,AA A2 n2 c2,AA A3 n3 c3,AA A4 n4 c4,AA A5 n5 c5,AA A6 n6 c6,AA B7 m7 d7] 32));rw [<-hwb];have hbb:AK w wb:=by rw [hwb];exact ((BK _ _).alloc AZ _)
 have kA:AY wb w.heap.size 32 #[AA A1 n1 c1,AA A2 n2 c2,AA A3 n3 c3,AA A4 n4 c4,AA A5 n5 c5,AA A6 n6 c6,AA A7 n7 c7]:=by rw [hwb];exact (AY.new _ _ _).alloc _
 have kB:AY wb (w.heap.size+1) 32 #[AA A1 n1 c1,AA A2 n2 c2,AA A3 n3 c3,AA A4 n4 c4,AA A5 n5 c5,AA A6 n6 c6,AA B7 m7 d7]:=by rw [hwb];exact Dk AZ
 obtain ⟨ga,hga⟩:=Ad w.heap.size;obtain ⟨gb,hgb⟩:=Ad (w.heap.size+1);rw [<-hgb] at kB ⊢;rw [<-hga] at kA ⊢;have Hu:AI (ga=w.heap.size):=AF hga;clear hwb hga hgb;have a0:=kA.cell 0;have b0:=kB.cell 0;have a1:=kA.cell 1;have b1:=kB.cell 1;have a2:=kA.cell 2;have b2:=kB.cell 2;have a3:=kA.cell 3;have b3:=kB.cell 3;have a4:=kA.cell 4;have b4:=kB.cell 4;have a5:=kA.cell 5;have b5:=kB.cell 5;have la:=kA.lt;have lb:=kB.lt;simp only [Aj,Ao,BA] at a0 a1 a2 a3 a4 a5 b0 b1 b2 b3 b4 b5;obtain ⟨HA,HB,BJ⟩:=BB kA kB hbb;clear kA kB hbb;have HC:AI (AS prog 80 #[(AP #[AA A1 n1 c1,AA A2 n2 c2,AA A3 n3 c3,AA A4 n4 c4,AA A5 n5 c5,AA A6 n6 c6]),(AP #[AA A1 n1 c1,AA A2 n2 c2,AA A3 n3 c3,AA A4 n4 c4,AA A5 n5 c5,AA A6 n6 c6])] wb fun e w'=>e=AW (Ab true)/\AK wb w'):=AF (by
  have:=VI A1 A1 A2 A2 A3 A3 A4 A4 A5 A5 A6 A6 n1 c1 n1 c1 n2 c2 n2 c2 n3 c3 n3 c3 n4 c4 n4 c4 n5 c5 n5 c5 n6 c6 n6 c6 s s wb
   (H1.o.1.mono BX BJ.o) (H1.o.1.mono BX BJ.o) (H2.o.1.mono Bq BJ.o) (H2.o.1.mono Bq BJ.o) (H3.o.1.mono BP BJ.o) (H3.o.1.mono BP BJ.o)
   (H4.o.1.mono Bf BJ.o) (H4.o.1.mono Bf BJ.o) (H5.o.1.mono Bo BJ.o) (H5.o.1.mono Bo BJ.o) (H6.o.1.mono BQ BJ.o) (H6.o.1.mono BQ BJ.o)
  rw [Bk rfl] at this;exact this)
 go_wp2_with (go_at_call 80;refine HC.o.mono ?_;clear HC)
 first | rintro e w1 rfl hb1 | rintro e w1 ⟨rfl,hb1⟩
 have HB1:AI (AK w w1):=AF (AV BJ.o hb1);have a6:=(HA.o.below hb1 la).cell 6;have b6:=(HB.o.below hb1 lb).cell 6;simp only [Aj,Ao,BA] at a6 b6;clear hb1 a0 a1 a2 a3 a4 a5 b0 b1 b2 b3 b4 b5;go_wp2_with (go_at_call 71;refine (S6 A7 B7 n7 c7 m7 d7 l r w1 (H7.o.mono IZ HB1.o) (K7.o.mono IZ HB1.o)).mono ?_)
 first | rintro e w2 rfl hb2 | rintro e w2 ⟨rfl,hb2⟩
 have HB2:AI (AK w w2):=AF (AV HB1.o hb2);clear hb2;go_wp2;go_ret;exact ⟨rfl,HB2.o⟩
def Vd (pv:DH->Bool) (s:BG) (l:AQ):Int:=if O9 pv s=0/\Cx s.rules s.Aq.length=l then 0 else 160
theorem bA (A7:Option Aa) (n7 c7:Nat) (s:BG) (l:AQ) (pv:DH->Bool) (w:AH) (h1:BV 1 16 Dd w (AA A1 n1 c1) s.Bh) (h2:BV 5 56 CS w (AA A2 n2 c2) s.units) (h3:BV 6 96 BW w (AA A3 n3 c3) s.Aq) (h4:BV 5 96 CT w (AA A4 n4 c4) s.rules) (h5:BV 5 72 CF w (AA A5 n5 c5) s.converts) (h6:BV 3 48 BZ w (AA A6 n6 c6) s.purposes) (h7:Ag 1 iR w (AA A7 n7 c7) l) (hsub:cH A1 A2 A3 A4 A5 A6 n1 c1 n2 c2 n3 c3 n4 c4 n5 c5 n6 c6 s pv w) (hI:∀x∈s.Aq,∀d∈x.deps,I4 d):
 AS prog 23 #[AP #[AA A1 n1 c1,AA A2 n2 c2,AA A3 n3 c3,AA A4 n4 c4,AA A5 n5 c5,AA A6 n6 c6,AA A7 n7 c7]] w fun e w'=>e=AW (AB AE (Vd pv s l))/\AK w w':=by
 have hb0:AK w (w.alloc (AO #[AA A1 n1 c1,AA A2 n2 c2,AA A3 n3 c3,AA A4 n4 c4,AA A5 n5 c5,AA A6 n6 c6,AA A7 n7 c7] 32)):=(BK _ _);have HC:AI (AS prog 51 #[(AP #[AA A1 n1 c1,AA A2 n2 c2,AA A3 n3 c3,AA A4 n4 c4,AA A5 n5 c5,AA A6 n6 c6])] (w.alloc (AO #[AA A1 n1 c1,AA A2 n2 c2,AA A3 n3 c3,AA A4 n4 c4,AA A5 n5 c5,AA A6 n6 c6,AA A7 n7 c7] 32)) (qq A1 A2 A3 A4 A5 A6 n1 c1 n2 c2 n3 c3 n4 c4 n5 c5 n6 c6 pv s (w.alloc (AO #[AA A1 n1 c1,AA A2 n2 c2,AA A3 n3 c3,AA A4 n4 c4,AA A5 n5 c5,AA A6 n6 c6,AA A7 n7 c7] 32)))):=AF (ABx A1 A2 A3 A4 A5 A6 n1 c1 n2 c2 n3 c3 n4 c4 n5 c5 n6 c6 s pv _ (h1.mono BX hb0) (h2.mono Bq hb0) (h3.mono BP hb0) (h4.mono Bf hb0) (h5.mono Bo hb0) (h6.mono BQ hb0) (hsub.below hb0) hI);obtain ⟨HB0,H1,H2,H3,H4,H5,H6⟩:=LU hb0 h1 h2 h3 h4 h5 h6;clear h1 h2 h3 h4 h5 h6;have H7:=AF h7;clear hb0 h7 hsub hI;go_enter func23,ntmps23;go_wp2_with (go_at_call 51;refine HC.o.mono ?_);rintro e w1 ⟨hor,hb1⟩;have HB1:AI (AK w w1):=AF (AV HB0.o hb1);have kb:=(AY.new w 32 #[AA A1 n1 c1,AA A2 n2 c2,AA A3 n3 c3,AA A4 n4 c4,AA A5 n5 c5,AA A6 n6 c6,AA A7 n7 c7]).below hb1 AZ;have q0:=kb.cell 0;have q1:=kb.cell 1;have q2:=kb.cell 2;have q3:=kb.cell 3;have q4:=kb.cell 4;have q5:=kb.cell 5;have q6:=kb.cell 6;have lq:=kb.lt;simp only [Aj,Ao,BA] at q0 q1 q2 q3 q4 q5 q6;clear hb1 kb HC;rcases hor with ⟨hne,rfl⟩ | ⟨hz,C,d,rfl,ho⟩
 ·obtain ⟨t,ht⟩:=BR (O9 pv s)
  have HP:AI (Vd pv s l=160):=AF (by rw [Vd,Ah (fun h=>hne h.1)]);rw [ht] at hne ⊢;have htn:(t !=0)=true:=by simpa using hne
  clear ht;go_wp2;go_ret;exact ⟨DG HP.o.symm,HB1.o.alloc HB1.o.size _⟩
 obtain ⟨L,hL⟩:=BR (Cx s.rules s.Aq.length);rw [hL] at ho ⊢;obtain ⟨v,hv⟩:=BR (BD L l);obtain ⟨HV,HZ,Ys⟩:=BB hv hz hL;have rD:AI (∀o,AS prog 52 #[AP #[AA A1 n1 c1,AA A2 n2 c2,AA A3 n3 c3,AA A4 n4 c4,AA A5 n5 c5,AA A6 n6 c6,AA C L.length d],AP #[AA A1 n1 c1,AA A2 n2 c2,AA A3 n3 c3,AA A4 n4 c4,AA A5 n5 c5,AA A6 n6 c6,AA A7 n7 c7]] (w1.alloc o) fun e w'=>e=AW (Ab v)/\BL (w1.alloc o).heap.size (w1.alloc o) w'):=AF (fun o=>by have hba:AK w1 (w1.alloc o):=(Af _ _).alloc (Ac _) o;have hbw:=AV HB1.o hba;have:=iJ A1 A2 A3 A4 A5 A6 n1 c1 n2 c2 n3 c3 n4 c4 n5 c5 n6 c6 C A7 L.length d n7 c7 s L l (w1.alloc o) (H1.o.mono BX hbw) (H2.o.mono Bq hbw) (H3.o.mono BP hbw) (H4.o.mono Bf hbw) (H5.o.mono Bo hbw) (H6.o.mono BQ hbw) (ho.mono IZ hba) (H7.o.mono IZ hbw);rw [hv] at this;exact this)
 clear hv hz hL ho;go_wp2_with (go_at_call 52;refine (rD.o _).mono ?_;clear rD)
 first | rintro e w2 rfl hb2 | rintro e w2 ⟨rfl,hb2⟩
 have HB2:AI (AK w w2):=AF ((HB1.o.alloc HB1.o.size _).trans (hb2.mono gT));clear hb2;cases v with
 |
  true=>
  go_wp2;go_ret;exact ⟨DG (by rw [Vd,Ak ⟨HZ.o,by rw [Ys.o];exact F4 HV.o⟩]),HB2.o⟩
 |
  false=>
  go_wp2;go_ret;exact ⟨DG (by rw [Vd,Ah (fun h=>by have h2:=h.2;rw [Ys.o] at h2;exact absurd h2 (R8 HV.o))]),HB2.o⟩
theorem AGP {n2:Nat} {iss:Nat} {ss:List BM} (h:ss.all (D5 iss n2)=true):∀x∈ss,∀f∈x.fields,Qq n2 f.type:=by intro x hx f hf;have h1:=DM.1 h x hx;simp only [D5,Bb] at h1;have h2:=DM.1 h1.2 f hf;simp only [Km,Bb] at h2;intro hk;have h3:=h2.1;rw [Jq,Ak hk] at h3;simp only [Bb,By] at h3;exact ⟨h3.1.1.2,h3.1.2⟩
theorem AC2 (s:BG) (w:AH) (h2:BV 5 56 CS w (AA A2 n2 c2) s.units) (h3:BV 6 96 BW w (AA A3 n3 c3) s.Aq):cH A1 A2 A3 A4 A5 A6 n1 c1 n2 c2 n3 c3 n4 c4 n5 c5 n6 c6 s (NQ n2 s.Aq) w:=by
 have hn2:n2<=9223372036854775807:=by have:=h2.1.le;omega
 have hl2:=h2.1.len;refine ⟨fun hs W g hW hk=> ?_,fun W hW=> ?_,fun W hW=> ?_⟩
 ·intro W' cs x hW' hx hR
  obtain ⟨F1,m1,d1,F2,m2,d2,F3,m3,d3,rfl,f1,f2,f3⟩:=hR;have hw:=AV hW hW';have:=yz A1 A2 A3 A4 A5 A6 n1 c1 n2 c2 n3 c3 n4 c4 n5 c5 n6 c6 g F1 F2 F3 m1 d1 m2 d2 m3 d3 x.head x.schema x.froms x.C0 x.sets s.units s.Aq W' (hk.below hW' hk.lt) (h2.1.mono Bq hw) (h3.1.mono BP hw) f1.1 f2.1 f3 (by rw [hl2];exact AGP hs);exact this
 ·intro W' cs x hW' hx hR
  obtain ⟨F1,m1,d1,rfl,f1⟩:=hR;have hw:=AV hW hW';have:=mN A1 A2 A3 A4 A5 A6 n1 c1 n2 c2 n3 c3 n4 c4 n5 c5 n6 c6 x.name x.may x.most F1 m1 d1 s.Aq w W' hw h3.1 f1.1;exact this
 intro W' cs x hW' hx hR;obtain ⟨F1,m1,d1,rfl,f1⟩:=hR;have hw:=AV hW hW';have:=wT A1 A2 A3 A4 A5 A6 n1 c1 n2 c2 n3 c3 n4 c4 n5 c5 n6 c6 x.from_ x.DS x.a x.b x.moves F1 m1 d1 s.Aq W' W' (Af _ _) hn2 (h3.1.mono BP hw) f1.1;exact this
end Go.Proofs.YtamhoilkpppdbaaGreatDoor
