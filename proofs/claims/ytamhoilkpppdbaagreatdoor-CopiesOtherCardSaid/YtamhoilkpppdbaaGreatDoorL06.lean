import Derived.Test.YtamhoilkpppdbaaGreatDoorL05
namespace Go.Proofs.YtamhoilkpppdbaaGreatDoor
set_option maxHeartbeats 8000000
set_option maxRecDepth 100000
open Go renaming World→AH, Calls→AS, Addr→Aa
open Go.Proofs.Tryz
variable (A1 A2 A3 A4 A5 A6:Option Aa) (n1 c1 n2 c2 n3 c3 n4 c4 n5 c5 n6 c6:Nat)
open Go.Value renaming slice→AA, int→AB
open Go.IntKind renaming i64→AE
open Go.Ending renaming returned→AW
open Go.Obj renaming cells→AO
open Go.RowKit
def Bools (e:Ending):Prop:=∃b,e=AW (.bool b)
theorem oz (s:BG) (w:AH)
 (h3:Ag 6 BW w (AA A3 n3 c3) s.Aq) (h4:Ag 5 CT w (AA A4 n4 c4) s.rules) (h5:Ag 5 CF w (AA A5 n5 c5) s.converts) (h6:Ag 3 BZ w (AA A6 n6 c6) s.purposes):
 AS prog 53 #[.agg #[AA A1 n1 c1,AA A2 n2 c2,AA A3 n3 c3,AA A4 n4 c4,AA A5 n5 c5,AA A6 n6 c6]] w fun e w'=>Bools e/\AK w w':=by
 have m3:n3<=9223372036854775807:=by have:=h3.le;omega
 have m4:n4<=9223372036854775807:=by have:=h4.le;omega
 have m5:n5<=9223372036854775807:=by have:=h5.le;omega
 have m6:n6<=9223372036854775807:=by have:=h6.le;omega
 obtain ⟨H3,H4,H5,H6⟩:=CD h3 h4 h5 h6;clear h3 h4 h5 h6;go_enter func53,ntmps53;go_upto_region 1 with fail;have hk:AY (w.alloc (AO #[AA A1 n1 c1,AA A2 n2 c2,AA A3 n3 c3,AA A4 n4 c4,AA A5 n5 c5,AA A6 n6 c6] 29)) w.heap.size 29 #[AA A1 n1 c1,AA A2 n2 c2,AA A3 n3 c3,AA A4 n4 c4,AA A5 n5 c5,AA A6 n6 c6]:=AY.new _ _ _;have hb:AK w (w.alloc (AO #[AA A1 n1 c1,AA A2 n2 c2,AA A3 n3 c3,AA A4 n4 c4,AA A5 n5 c5,AA A6 n6 c6] 29)):=(Af _ _).alloc (Ac _) _;obtain ⟨g,hg⟩:=Ad w.heap.size;rw [<-hg] at hk ⊢;generalize w.alloc (AO #[AA A1 n1 c1,AA A2 n2 c2,AA A3 n3 c3,AA A4 n4 c4,AA A5 n5 c5,AA A6 n6 c6] 29)=wb at hk hb ⊢;have lg:=hk.lt;obtain ⟨HK,HB⟩:=Al hk hb;have HKC:AI (∀W,AK wb W->g < W.heap.size/\W.cell? ⟨g,0,none⟩=some (AA A1 n1 c1)/\W.cell? ⟨g,1,none⟩=some (AA A2 n2 c2)/\W.cell? ⟨g,2,none⟩=some (AA A3 n3 c3)/\W.cell? ⟨g,3,none⟩=some (AA A4 n4 c4)/\W.cell? ⟨g,4,none⟩=some (AA A5 n5 c5)/\W.cell? ⟨g,5,none⟩=some (AA A6 n6 c6)):=AF (fun W hW=>by have h:=HK.o.below hW lg;exact ⟨h.lt,h.cell 0,h.cell 1,h.cell 2,h.cell 3,h.cell 4,h.cell 5⟩)
 clear hk hb hg lg HK;go_wp2_with fail;have HB3:AI (AK wb wb):=AF (Af _ _);go_loopg [3] n3 (fun q i wr=>∃k:Nat,k<=n3/\q=n3 - k/\i=AB AE k/\AK wb wr)
 case atStart=>exact ⟨0,Ay _,rfl,rfl,HB3.o⟩
 clear HB3;obtain ⟨k,hk,hq,rfl,hb⟩:=hrel;obtain ⟨HQ,DK⟩:=Al hq hb;obtain ⟨lg,k0,k1,k2,k3,k4,k5⟩:=HKC.o wr hb;clear hq hb;by_cases hlt:k < n3
 ·obtain ⟨b,off,x,B1,m1,d1,B2,m2,d2,rfl,hbl,hx,e0,e1,e2,e3,e4,e5,g1,g2⟩:=GL (H3.o.mono BP (AV HB.o DK.o)) hlt
  have hkn:(k:Int) < (n3:Int):=AG
  have hk0:=Int.natCast_nonneg k
  clear hx g1 g2 e0 e1 e2 e3 k0 k1 k3 k4 k5;go_wp2_with fail
  all_goals first
   | (go_ret;exact ⟨⟨_,rfl⟩,AV HB.o DK.o⟩)
   | (
    go_roundg (n3 - (k+1))
    case measure=>exact Bi
    case rel=>exact ⟨k+1,by omega,rfl,by go_num,DK.o⟩)
 obtain ⟨wy,rfl⟩:=Ad wr;have HB4:=DK;clear HQ DK;go_wp2_with fail;clear k0 k1 k2 k3 k4 k5;go_loopg [4] n4 (fun q i wr=>∃k:Nat,k<=n4/\q=n4 - k/\i=AB AE k/\AK wb wr)
 case atStart=>exact ⟨0,Ay _,rfl,rfl,HB4.o⟩
 clear HB4;obtain ⟨k,hk,hq,rfl,hb⟩:=hrel;obtain ⟨HQ,DK⟩:=Al hq hb;obtain ⟨lg,k0,k1,k2,k3,k4,k5⟩:=HKC.o wr hb;clear hq hb;by_cases hlt:k < n4
 ·obtain ⟨b,off,x,B1,m1,d1,B2,m2,d2,B3,m3,d3,rfl,hbl,hx,e0,e1,e2,e3,e4,g1,g2,g3⟩:=QB (H4.o.mono Bf (AV HB.o DK.o)) hlt
  have hkn:(k:Int) < (n4:Int):=AG
  have hk0:=Int.natCast_nonneg k
  clear hx g1 g2 g3 e0 e1 k0 k1 k2 k4 k5;go_wp2_with fail
  all_goals first
   | (go_ret;exact ⟨⟨_,rfl⟩,AV HB.o DK.o⟩)
   | (
    go_roundg (n4 - (k+1))
    case measure=>exact Bi
    case rel=>exact ⟨k+1,by omega,rfl,by go_num,DK.o⟩)
 obtain ⟨wy,rfl⟩:=Ad wr;have Cg:=DK;clear HQ DK;go_wp2_with fail;clear k0 k1 k2 k3 k4 k5;go_loopg [5] n5 (fun q i wr=>∃k:Nat,k<=n5/\q=n5 - k/\i=AB AE k/\AK wb wr)
 case atStart=>exact ⟨0,Ay _,rfl,rfl,Cg.o⟩
 clear Cg;obtain ⟨k,hk,hq,rfl,hb⟩:=hrel;obtain ⟨HQ,DK⟩:=Al hq hb;obtain ⟨lg,k0,k1,k2,k3,k4,k5⟩:=HKC.o wr hb;clear hq hb;by_cases hlt:k < n5
 ·obtain ⟨b,off,x,B1,m1,d1,rfl,hbl,hx,e0,e1,e2,e3,e4,g1⟩:=Qc (H5.o.mono Bo (AV HB.o DK.o)) hlt
  have hkn:(k:Int) < (n5:Int):=AG
  have hk0:=Int.natCast_nonneg k
  clear hx g1 e0 e1 e2 e3 k0 k1 k2 k3 k5;go_wp2_with fail
  all_goals first
   | (go_ret;exact ⟨⟨_,rfl⟩,AV HB.o DK.o⟩)
   | (
    go_roundg (n5 - (k+1))
    case measure=>exact Bi
    case rel=>exact ⟨k+1,by omega,rfl,by go_num,DK.o⟩)
 obtain ⟨wy,rfl⟩:=Ad wr;have Fb:=DK;clear HQ DK;go_wp2_with fail;clear k0 k1 k2 k3 k4 k5;go_loopg [6] n6 (fun q i wr=>∃k:Nat,k<=n6/\q=n6 - k/\i=AB AE k/\AK wb wr)
 case atStart=>exact ⟨0,Ay _,rfl,rfl,Fb.o⟩
 clear Fb;obtain ⟨k,hk,hq,rfl,hb⟩:=hrel;obtain ⟨HQ,DK⟩:=Al hq hb;obtain ⟨lg,k0,k1,k2,k3,k4,k5⟩:=HKC.o wr hb;clear hq hb;by_cases hlt:k < n6
 ·obtain ⟨b,off,x,B1,m1,d1,rfl,hbl,hx,e0,e1,e2,g1⟩:=MX (H6.o.mono BQ (AV HB.o DK.o)) hlt
  have hkn:(k:Int) < (n6:Int):=AG
  have hk0:=Int.natCast_nonneg k
  clear hx g1 e0 e2 k0 k1 k2 k3 k4;go_wp2_with fail
  all_goals first
   | (go_ret;exact ⟨⟨_,rfl⟩,AV HB.o DK.o⟩)
   | (
    go_roundg (n6 - (k+1))
    case measure=>exact Bi
    case rel=>exact ⟨k+1,by omega,rfl,by go_num,DK.o⟩)
 obtain ⟨wy,rfl⟩:=Ad wr;have D4:=DK;clear HQ DK;go_wp2_with fail
 all_goals (go_ret;exact ⟨⟨_,rfl⟩,AV HB.o D4.o⟩)
theorem mR (A1 A2 A3 A4 A5 A6 A7:Option Aa) (n1 c1 n2 c2 n3 c3 n4 c4 n5 c5 n6 c6 n7 c7:Nat) (s:BG) (w:AH)
 (h3:Ag 6 BW w (AA A3 n3 c3) s.Aq) (h4:Ag 5 CT w (AA A4 n4 c4) s.rules) (h5:Ag 5 CF w (AA A5 n5 c5) s.converts) (h6:Ag 3 BZ w (AA A6 n6 c6) s.purposes):
 AS prog 24 #[.agg #[AA A1 n1 c1,AA A2 n2 c2,AA A3 n3 c3,AA A4 n4 c4,AA A5 n5 c5,AA A6 n6 c6,AA A7 n7 c7]] w fun e w'=>Bools e/\AK w w':=by
 have hb0:AK w (w.alloc (AO #[AA A1 n1 c1,AA A2 n2 c2,AA A3 n3 c3,AA A4 n4 c4,AA A5 n5 c5,AA A6 n6 c6,AA A7 n7 c7] 32)):=(Af _ _).alloc (Ac _) _;have HC:AI (AS prog 53 #[.agg #[AA A1 n1 c1,AA A2 n2 c2,AA A3 n3 c3,AA A4 n4 c4,AA A5 n5 c5,AA A6 n6 c6]] (w.alloc (AO #[AA A1 n1 c1,AA A2 n2 c2,AA A3 n3 c3,AA A4 n4 c4,AA A5 n5 c5,AA A6 n6 c6,AA A7 n7 c7] 32)) fun e w'=>Bools e/\Below (w.alloc (AO #[AA A1 n1 c1,AA A2 n2 c2,AA A3 n3 c3,AA A4 n4 c4,AA A5 n5 c5,AA A6 n6 c6,AA A7 n7 c7] 32)).heap.size (w.alloc (AO #[AA A1 n1 c1,AA A2 n2 c2,AA A3 n3 c3,AA A4 n4 c4,AA A5 n5 c5,AA A6 n6 c6,AA A7 n7 c7] 32)) w'):=
  AF (oz A1 A2 A3 A4 A5 A6 n1 c1 n2 c2 n3 c3 n4 c4 n5 c5 n6 c6 s _ (h3.mono BP hb0) (h4.mono Bf hb0) (h5.mono Bo hb0) (h6.mono BQ hb0))
 have HB0:=AF hb0;clear hb0 h3 h4 h5 h6;go_enter func24,ntmps24;go_wp2_with (go_at_call 53;refine HC.o.mono ?_;clear HC);rintro e w1 ⟨⟨v,rfl⟩,hb1⟩;have kb:=(AY.new w 32 #[AA A1 n1 c1,AA A2 n2 c2,AA A3 n3 c3,AA A4 n4 c4,AA A5 n5 c5,AA A6 n6 c6,AA A7 n7 c7]).below hb1 AZ;have q6:=kb.cell 6;have lq:=kb.lt;simp only [Aj,Ao,BA] at q6;have HB1:AI (AK w w1):=AF (AV HB0.o hb1);clear hb1 kb;cases v <;> (go_wp2_with fail;all_goals (go_ret;exact ⟨⟨_,rfl⟩,HB1.o⟩))
def ckP (n2:Nat) (s:BG) (l:AQ):Int:=Vd (NQ n2 s.Aq) s l
theorem oS (A7:Option Aa) (n7 c7:Nat) (s:BG) (l:AQ) (w:AH) (h1:BV 1 16 Dd w (AA A1 n1 c1) s.Bh) (h2:BV 5 56 CS w (AA A2 n2 c2) s.units) (h3:BV 6 96 BW w (AA A3 n3 c3) s.Aq) (h4:BV 5 96 CT w (AA A4 n4 c4) s.rules) (h5:BV 5 72 CF w (AA A5 n5 c5) s.converts) (h6:BV 3 48 BZ w (AA A6 n6 c6) s.purposes) (h7:Ag 1 iR w (AA A7 n7 c7) l) (hI:∀x∈s.Aq,∀d∈x.deps,I4 d):∀W,AK w W->AS prog 23 #[(.agg #[AA A1 n1 c1,AA A2 n2 c2,AA A3 n3 c3,AA A4 n4 c4,AA A5 n5 c5,AA A6 n6 c6,AA A7 n7 c7])] W (fun e w'=>e=AW (AB AE (ckP n2 s l))/\AK W w'):=fun W hW=>
 bA A1 A2 A3 A4 A5 A6 n1 c1 n2 c2 n3 c3 n4 c4 n5 c5 n6 c6 A7 n7 c7 s l (NQ n2 s.Aq) W (h1.mono BX hW) (h2.mono Bq hW) (h3.mono BP hW) (h4.mono Bf hW) (h5.mono Bo hW) (h6.mono BQ hW) (h7.mono IZ hW) (AC2 A1 A2 A3 A4 A5 A6 n1 c1 n2 c2 n3 c3 n4 c4 n5 c5 n6 c6 s W (h2.mono Bq hW) (h3.mono BP hW)) hI
structure Kn (S T:Value) (ck:Int) (n2:Nat) (ss:List BM) (w:AH):Prop where
 chk:∀(W:AH),AK w W->AS prog 23 #[T] W fun e w'=>e=AW (AB AE ck)/\AK W w'
 val:∀(sc f v:Int) (W:AH),AK w W->AS prog 46 #[S,AB AE sc,AB AE f,AB AE v] W fun e w'=>e=AW (.bool (Mm n2 ss sc f v))/\AK W w'
 few:∀(W:AH),AK w W->AS prog 24 #[T] W fun e w'=>Bools e/\AK W w'
theorem Kn.below {S T:Value} {ck:Int} {n2:Nat} {ss:List BM} {w w':AH} (h:Kn S T ck n2 ss w) (hb:AK w w'):Kn S T ck n2 ss w':=
 ⟨fun W hW=>h.chk W (AV hb hW),fun sc f v W hW=>h.val sc f v W (AV hb hW),fun W hW=>h.few W (AV hb hW)⟩
theorem AHh (A7:Option Aa) (n7 c7:Nat) (s:BG) (l:AQ) (w:AH) (h1:BV 1 16 Dd w (AA A1 n1 c1) s.Bh) (h2:BV 5 56 CS w (AA A2 n2 c2) s.units) (h3:BV 6 96 BW w (AA A3 n3 c3) s.Aq) (h4:BV 5 96 CT w (AA A4 n4 c4) s.rules) (h5:BV 5 72 CF w (AA A5 n5 c5) s.converts) (h6:BV 3 48 BZ w (AA A6 n6 c6) s.purposes) (h7:Ag 1 iR w (AA A7 n7 c7) l) (hI:∀x∈s.Aq,∀d∈x.deps,I4 d):
 Kn (.agg #[AA A1 n1 c1,AA A2 n2 c2,AA A3 n3 c3,AA A4 n4 c4,AA A5 n5 c5,AA A6 n6 c6]) (.agg #[AA A1 n1 c1,AA A2 n2 c2,AA A3 n3 c3,AA A4 n4 c4,AA A5 n5 c5,AA A6 n6 c6,AA A7 n7 c7]) (ckP n2 s l) n2 s.Aq w:=
 ⟨oS A1 A2 A3 A4 A5 A6 n1 c1 n2 c2 n3 c3 n4 c4 n5 c5 n6 c6 A7 n7 c7 s l w h1 h2 h3 h4 h5 h6 h7 hI,
  fun sc f v W hW=>jZ A1 A2 A3 A4 A5 A6 n1 c1 n2 c2 n3 c3 n4 c4 n5 c5 n6 c6 sc f v s.Aq w W hW (by have:=h2.1.le;omega) h3.1,
  fun W hW=>mR A1 A2 A3 A4 A5 A6 A7 n1 c1 n2 c2 n3 c3 n4 c4 n5 c5 n6 c6 n7 c7 s W (h3.1.mono BP hW) (h4.1.mono Bf hW) (h5.1.mono Bo hW) (h6.1.mono BQ hW)⟩
end Go.Proofs.YtamhoilkpppdbaaGreatDoor
