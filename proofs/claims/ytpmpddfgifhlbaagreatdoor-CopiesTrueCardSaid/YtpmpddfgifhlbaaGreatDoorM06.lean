import Derived.Test.YtpmpddfgifhlbaaGreatDoorM05
namespace Go.Proofs.YtpmpddfgifhlbaaGreatDoor
set_option maxHeartbeats 8000000
set_option maxRecDepth 100000
open Go renaming World→AH, Calls→AS, Addr→Aa
open Go.Proofs.Tryz
variable (A1 A2 A3 A4 A5 A6:Option Aa) (n1 c1 n2 c2 n3 c3 n4 c4 n5 c5 n6 c6:Nat)
open Go.Value renaming slice→AA, int→AB
open Go.IntKind renaming i64→AE
open Go.Ending renaming returned→AV
open Go.Obj renaming cells→AQ
open Go.RowKit
def Bools (e:Ending):Prop:=∃b,e=AV (.bool b)
theorem ny (s:BD) (w:AH)
 (h3:Ag 6 BR w (AA A3 n3 c3) s.Ap) (h4:Ag 5 CM w (AA A4 n4 c4) s.rules) (h5:Ag 5 By w (AA A5 n5 c5) s.converts) (h6:Ag 3 BT w (AA A6 n6 c6) s.purposes):
 AS prog 45 #[.agg #[AA A1 n1 c1,AA A2 n2 c2,AA A3 n3 c3,AA A4 n4 c4,AA A5 n5 c5,AA A6 n6 c6]] w fun e w'=>Bools e/\AJ w w':=by
 have m3:n3<=9223372036854775807:=by have:=h3.le;omega
 have m4:n4<=9223372036854775807:=by have:=h4.le;omega
 have m5:n5<=9223372036854775807:=by have:=h5.le;omega
 have m6:n6<=9223372036854775807:=by have:=h6.le;omega
 obtain ⟨H3,H4,H5,H6⟩:=CJ h3 h4 h5 h6;clear h3 h4 h5 h6;go_enter func45,ntmps45;go_upto_region 1 with fail;have hk:AZ (w.alloc (AQ #[AA A1 n1 c1,AA A2 n2 c2,AA A3 n3 c3,AA A4 n4 c4,AA A5 n5 c5,AA A6 n6 c6] 29)) w.heap.size 29 #[AA A1 n1 c1,AA A2 n2 c2,AA A3 n3 c3,AA A4 n4 c4,AA A5 n5 c5,AA A6 n6 c6]:=AZ.new _ _ _;have hb:AJ w (w.alloc (AQ #[AA A1 n1 c1,AA A2 n2 c2,AA A3 n3 c3,AA A4 n4 c4,AA A5 n5 c5,AA A6 n6 c6] 29)):=(Af _ _).alloc (Ad _) _;obtain ⟨g,hg⟩:=Ab w.heap.size;rw [<-hg] at hk ⊢;generalize w.alloc (AQ #[AA A1 n1 c1,AA A2 n2 c2,AA A3 n3 c3,AA A4 n4 c4,AA A5 n5 c5,AA A6 n6 c6] 29)=wb at hk hb ⊢;have lg:=hk.lt;obtain ⟨HK,HB⟩:=Aj hk hb;have HKC:AI (∀W,AJ wb W->g < W.heap.size/\W.cell? ⟨g,0,none⟩=some (AA A1 n1 c1)/\W.cell? ⟨g,1,none⟩=some (AA A2 n2 c2)/\W.cell? ⟨g,2,none⟩=some (AA A3 n3 c3)/\W.cell? ⟨g,3,none⟩=some (AA A4 n4 c4)/\W.cell? ⟨g,4,none⟩=some (AA A5 n5 c5)/\W.cell? ⟨g,5,none⟩=some (AA A6 n6 c6)):=AF (fun W hW=>by have h:=HK.o.below hW lg;exact ⟨h.lt,h.cell 0,h.cell 1,h.cell 2,h.cell 3,h.cell 4,h.cell 5⟩)
 clear hk hb hg lg HK;go_wp2_with fail;have HB3:AI (AJ wb wb):=AF (Af _ _);go_loopg [3] n3 (fun q i wr=>∃k:Nat,k<=n3/\q=n3 - k/\i=AB AE k/\AJ wb wr)
 case atStart=>exact ⟨0,Ar _,rfl,rfl,HB3.o⟩
 clear HB3;obtain ⟨k,hk,hq,rfl,hb⟩:=hrel;obtain ⟨HQ,DF⟩:=Aj hq hb;obtain ⟨lg,k0,k1,k2,k3,k4,k5⟩:=HKC.o wr hb;clear hq hb;by_cases hlt:k < n3
 ·obtain ⟨b,off,x,B1,m1,d1,B2,m2,d2,rfl,hbl,hx,e0,e1,e2,e3,e4,e5,g1,g2⟩:=Fz (H3.o.mono BM (AW HB.o DF.o)) hlt
  have hkn:(k:Int) < (n3:Int):=AG
  have hk0:=Int.natCast_nonneg k
  clear hx g1 g2 e0 e1 e2 e3 k0 k1 k3 k4 k5;go_wp2_with fail
  all_goals first
   | (go_ret;exact bH)
   | (
    go_roundg (n3 - (k+1))
    case measure=>exact Bc
    case rel=>exact bJ)
 obtain ⟨wy,rfl⟩:=Ab wr;have HB4:=DF;clear HQ DF;go_wp2_with fail;clear k0 k1 k2 k3 k4 k5;go_loopg [4] n4 (fun q i wr=>∃k:Nat,k<=n4/\q=n4 - k/\i=AB AE k/\AJ wb wr)
 case atStart=>exact ⟨0,Ar _,rfl,rfl,HB4.o⟩
 clear HB4;obtain ⟨k,hk,hq,rfl,hb⟩:=hrel;obtain ⟨HQ,DF⟩:=Aj hq hb;obtain ⟨lg,k0,k1,k2,k3,k4,k5⟩:=HKC.o wr hb;clear hq hb;by_cases hlt:k < n4
 ·obtain ⟨b,off,x,B1,m1,d1,B2,m2,d2,B3,m3,d3,rfl,hbl,hx,e0,e1,e2,e3,e4,g1,g2,g3⟩:=Pw (H4.o.mono Bh (AW HB.o DF.o)) hlt
  have hkn:(k:Int) < (n4:Int):=AG
  have hk0:=Int.natCast_nonneg k
  clear hx g1 g2 g3 e0 e1 k0 k1 k2 k4 k5;go_wp2_with fail
  all_goals first
   | (go_ret;exact bH)
   | (
    go_roundg (n4 - (k+1))
    case measure=>exact Bc
    case rel=>exact bJ)
 obtain ⟨wy,rfl⟩:=Ab wr;have CW:=DF;clear HQ DF;go_wp2_with fail;clear k0 k1 k2 k3 k4 k5;go_loopg [5] n5 (fun q i wr=>∃k:Nat,k<=n5/\q=n5 - k/\i=AB AE k/\AJ wb wr)
 case atStart=>exact ⟨0,Ar _,rfl,rfl,CW.o⟩
 clear CW;obtain ⟨k,hk,hq,rfl,hb⟩:=hrel;obtain ⟨HQ,DF⟩:=Aj hq hb;obtain ⟨lg,k0,k1,k2,k3,k4,k5⟩:=HKC.o wr hb;clear hq hb;by_cases hlt:k < n5
 ·obtain ⟨b,off,x,B1,m1,d1,rfl,hbl,hx,e0,e1,e2,e3,e4,g1⟩:=QK (H5.o.mono Bo (AW HB.o DF.o)) hlt
  have hkn:(k:Int) < (n5:Int):=AG
  have hk0:=Int.natCast_nonneg k
  clear hx g1 e0 e1 e2 e3 k0 k1 k2 k3 k5;go_wp2_with fail
  all_goals first
   | (go_ret;exact bH)
   | (
    go_roundg (n5 - (k+1))
    case measure=>exact Bc
    case rel=>exact bJ)
 obtain ⟨wy,rfl⟩:=Ab wr;have FK:=DF;clear HQ DF;go_wp2_with fail;clear k0 k1 k2 k3 k4 k5;go_loopg [6] n6 (fun q i wr=>∃k:Nat,k<=n6/\q=n6 - k/\i=AB AE k/\AJ wb wr)
 case atStart=>exact ⟨0,Ar _,rfl,rfl,FK.o⟩
 clear FK;obtain ⟨k,hk,hq,rfl,hb⟩:=hrel;obtain ⟨HQ,DF⟩:=Aj hq hb;obtain ⟨lg,k0,k1,k2,k3,k4,k5⟩:=HKC.o wr hb;clear hq hb;by_cases hlt:k < n6
 ·obtain ⟨b,off,x,B1,m1,d1,rfl,hbl,hx,e0,e1,e2,g1⟩:=L7 (H6.o.mono BN (AW HB.o DF.o)) hlt
  have hkn:(k:Int) < (n6:Int):=AG
  have hk0:=Int.natCast_nonneg k
  clear hx g1 e0 e2 k0 k1 k2 k3 k4;go_wp2_with fail
  all_goals first
   | (go_ret;exact bH)
   | (
    go_roundg (n6 - (k+1))
    case measure=>exact Bc
    case rel=>exact bJ)
 obtain ⟨wy,rfl⟩:=Ab wr;have ET:=DF;clear HQ DF;go_wp2_with fail
 all_goals (go_ret;exact ⟨⟨_,rfl⟩,AW HB.o ET.o⟩)
theorem lD (A1 A2 A3 A4 A5 A6 A7:Option Aa) (n1 c1 n2 c2 n3 c3 n4 c4 n5 c5 n6 c6 n7 c7:Nat) (s:BD) (w:AH)
 (h3:Ag 6 BR w (AA A3 n3 c3) s.Ap) (h4:Ag 5 CM w (AA A4 n4 c4) s.rules) (h5:Ag 5 By w (AA A5 n5 c5) s.converts) (h6:Ag 3 BT w (AA A6 n6 c6) s.purposes):
 AS prog 19 #[.agg #[AA A1 n1 c1,AA A2 n2 c2,AA A3 n3 c3,AA A4 n4 c4,AA A5 n5 c5,AA A6 n6 c6,AA A7 n7 c7]] w fun e w'=>Bools e/\AJ w w':=by
 have hb0:AJ w (w.alloc (AQ #[AA A1 n1 c1,AA A2 n2 c2,AA A3 n3 c3,AA A4 n4 c4,AA A5 n5 c5,AA A6 n6 c6,AA A7 n7 c7] 32)):=(Af _ _).alloc (Ad _) _;have HC:AI (AS prog 45 #[.agg #[AA A1 n1 c1,AA A2 n2 c2,AA A3 n3 c3,AA A4 n4 c4,AA A5 n5 c5,AA A6 n6 c6]] (w.alloc (AQ #[AA A1 n1 c1,AA A2 n2 c2,AA A3 n3 c3,AA A4 n4 c4,AA A5 n5 c5,AA A6 n6 c6,AA A7 n7 c7] 32)) fun e w'=>Bools e/\Below (w.alloc (AQ #[AA A1 n1 c1,AA A2 n2 c2,AA A3 n3 c3,AA A4 n4 c4,AA A5 n5 c5,AA A6 n6 c6,AA A7 n7 c7] 32)).heap.size (w.alloc (AQ #[AA A1 n1 c1,AA A2 n2 c2,AA A3 n3 c3,AA A4 n4 c4,AA A5 n5 c5,AA A6 n6 c6,AA A7 n7 c7] 32)) w'):=
  AF (ny A1 A2 A3 A4 A5 A6 n1 c1 n2 c2 n3 c3 n4 c4 n5 c5 n6 c6 s _ (h3.mono BM hb0) (h4.mono Bh hb0) (h5.mono Bo hb0) (h6.mono BN hb0))
 have HB0:=AF hb0;clear hb0 h3 h4 h5 h6;go_enter func19,ntmps19;go_wp2_with (go_at_call 45;refine HC.o.mono ?_;clear HC);rintro e w1 ⟨⟨v,rfl⟩,hb1⟩;have kb:=(AZ.new w 32 #[AA A1 n1 c1,AA A2 n2 c2,AA A3 n3 c3,AA A4 n4 c4,AA A5 n5 c5,AA A6 n6 c6,AA A7 n7 c7]).below hb1 Ac;have q6:=kb.cell 6;have lq:=kb.lt;simp only [Ai,An,Aw] at q6;have HB1:AI (AJ w w1):=AF (AW HB0.o hb1);clear hb1 kb;cases v <;> (go_wp2_with fail;all_goals (go_ret;exact ⟨⟨_,rfl⟩,HB1.o⟩))
def ckP (n2:Nat) (s:BD) (l:AP):Int:=U2 (M5 n2 s.Ap) s l
theorem nX (A7:Option Aa) (n7 c7:Nat) (s:BD) (l:AP) (w:AH) (h1:BQ 1 16 DV w (AA A1 n1 c1) s.Bl) (h2:BQ 5 56 CK w (AA A2 n2 c2) s.units) (h3:BQ 6 96 BR w (AA A3 n3 c3) s.Ap) (h4:BQ 5 96 CM w (AA A4 n4 c4) s.rules) (h5:BQ 5 72 By w (AA A5 n5 c5) s.converts) (h6:BQ 3 48 BT w (AA A6 n6 c6) s.purposes) (h7:Ag 1 iR w (AA A7 n7 c7) l) (hI:∀x∈s.Ap,∀d∈x.deps,IY d):∀W,AJ w W->AS prog 17 #[(.agg #[AA A1 n1 c1,AA A2 n2 c2,AA A3 n3 c3,AA A4 n4 c4,AA A5 n5 c5,AA A6 n6 c6,AA A7 n7 c7])] W (fun e w'=>e=AV (AB AE (ckP n2 s l))/\AJ W w'):=fun W hW=>
 Z7 A1 A2 A3 A4 A5 A6 n1 c1 n2 c2 n3 c3 n4 c4 n5 c5 n6 c6 A7 n7 c7 s l (M5 n2 s.Ap) W (h1.mono Ba hW) (h2.mono Bn hW) (h3.mono BM hW) (h4.mono Bh hW) (h5.mono Bo hW) (h6.mono BN hW) (h7.mono JS hW) (ACi A1 A2 A3 A4 A5 A6 n1 c1 n2 c2 n3 c3 n4 c4 n5 c5 n6 c6 s W (h2.mono Bn hW) (h3.mono BM hW)) hI
structure Kn (S T:Value) (ck:Int) (n2:Nat) (ss:List BI) (w:AH):Prop where
 chk:∀(W:AH),AJ w W->AS prog 17 #[T] W fun e w'=>e=AV (AB AE ck)/\AJ W w'
 val:∀(sc f v:Int) (W:AH),AJ w W->AS prog 32 #[S,AB AE sc,AB AE f,AB AE v] W fun e w'=>e=AV (.bool (MR n2 ss sc f v))/\AJ W w'
 few:∀(W:AH),AJ w W->AS prog 19 #[T] W fun e w'=>Bools e/\AJ W w'
theorem Kn.below {S T:Value} {ck:Int} {n2:Nat} {ss:List BI} {w w':AH} (h:Kn S T ck n2 ss w) (hb:AJ w w'):Kn S T ck n2 ss w':=
 ⟨fun W hW=>h.chk W (AW hb hW),fun sc f v W hW=>h.val sc f v W (AW hb hW),fun W hW=>h.few W (AW hb hW)⟩
theorem AG7 (A7:Option Aa) (n7 c7:Nat) (s:BD) (l:AP) (w:AH) (h1:BQ 1 16 DV w (AA A1 n1 c1) s.Bl) (h2:BQ 5 56 CK w (AA A2 n2 c2) s.units) (h3:BQ 6 96 BR w (AA A3 n3 c3) s.Ap) (h4:BQ 5 96 CM w (AA A4 n4 c4) s.rules) (h5:BQ 5 72 By w (AA A5 n5 c5) s.converts) (h6:BQ 3 48 BT w (AA A6 n6 c6) s.purposes) (h7:Ag 1 iR w (AA A7 n7 c7) l) (hI:∀x∈s.Ap,∀d∈x.deps,IY d):
 Kn (.agg #[AA A1 n1 c1,AA A2 n2 c2,AA A3 n3 c3,AA A4 n4 c4,AA A5 n5 c5,AA A6 n6 c6]) (.agg #[AA A1 n1 c1,AA A2 n2 c2,AA A3 n3 c3,AA A4 n4 c4,AA A5 n5 c5,AA A6 n6 c6,AA A7 n7 c7]) (ckP n2 s l) n2 s.Ap w:=
 ⟨nX A1 A2 A3 A4 A5 A6 n1 c1 n2 c2 n3 c3 n4 c4 n5 c5 n6 c6 A7 n7 c7 s l w h1 h2 h3 h4 h5 h6 h7 hI,
  fun sc f v W hW=>ik A1 A2 A3 A4 A5 A6 n1 c1 n2 c2 n3 c3 n4 c4 n5 c5 n6 c6 sc f v s.Ap w W hW (by have:=h2.1.le;omega) h3.1,
  fun W hW=>lD A1 A2 A3 A4 A5 A6 A7 n1 c1 n2 c2 n3 c3 n4 c4 n5 c5 n6 c6 n7 c7 s W (h3.1.mono BM hW) (h4.1.mono Bh hW) (h5.1.mono Bo hW) (h6.1.mono BN hW)⟩
end Go.Proofs.YtpmpddfgifhlbaaGreatDoor
