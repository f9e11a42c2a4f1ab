import Derived.Test.YtpmpddfgifhlbaaGreatDoorM06
import Derived.Test.YtpmpddfgifhlbaaGreatDoorM17
import Derived.Test.YtpmpddfgifhlbaaGreatDoorM18
import Derived.Test.YtpmpddfgifhlbaaGreatDoorCards
import Derived.Test.YtpmpddfgifhlbaaGreatDoorTie
namespace Go.Proofs.YtpmpddfgifhlbaaGreatDoor
set_option maxHeartbeats 8000000
set_option maxRecDepth 100000
open Go renaming World→AH
open Go.Proofs.Tryz
open Go.Value renaming slice→AA, agg→AO
open Go.ChangeShapes Go.WideShapes Go.ChangeAt Go.RowKit
theorem own:ownKnob prog.godebug=none:=by kernel_rfl
theorem laidOut:laidOutB prog=true:=by kernel_rfl
theorem AH6 {w:AH} {v:Value} {l:List BI} (h:Ag 6 BR w v l):Ag 6 LG w v (l.map fun x=>x.fields.length):=by
 obtain ⟨A,cap,e,h1,h2,h3⟩:=h;refine ⟨A,cap,by rw [CX];exact e,by rw [CX];exact h1,h2,fun i x hi=> ?_⟩;rw [Be] at hi;cases hx:l[i]? with
 | none=>rw [hx] at hi;cases hi
 |
  some y=>
  rw [hx] at hi;obtain rfl:=FO hi;obtain ⟨b,off,cs,e1,e2,e3,e4,A1,n1,c1,A2,n2,c2,rfl,hf,hd⟩:=h3 i y hx;have hl:=hf.1.len;have hb:y.fields.length*120<=140737488355328:=hf.2;refine ⟨b,off,_,e1,e2,e3,e4,.string y.name,.string y.Hh,.int .i64 y.Au,.int .i64 y.version,A1,c1,AA A2 n2 c2,by rw [hl],by show y.fields.length<=140737488355328;omega,fun u hu=> ?_⟩;simp only [CO,D7,D5] at hu;rcases hu with rfl | rfl | rfl | rfl | rfl <;> rfl
theorem gS {A1 A2 A3 A4 A5 A6 A7:Option Addr} {n1 c1 n2 c2 n3 c3 n4 c4 n5 c5 n6 c6 n7 c7:Nat} {s:BD} {l:AP} {w:AH} (h1:BQ 1 16 DV w (AA A1 n1 c1) s.Bl) (h2:BQ 5 56 CK w (AA A2 n2 c2) s.units) (h3:BQ 6 96 BR w (AA A3 n3 c3) s.Ap) (h4:BQ 5 96 CM w (AA A4 n4 c4) s.rules) (h5:BQ 5 72 By w (AA A5 n5 c5) s.converts) (h6:BQ 3 48 BT w (AA A6 n6 c6) s.purposes) (h7:Ag 1 iR w (AA A7 n7 c7) l) (hI:∀x∈s.Ap,∀d∈x.deps,IY d):
 Qm (AO #[AA A1 n1 c1,AA A2 n2 c2,AA A3 n3 c3,AA A4 n4 c4,AA A5 n5 c5,AA A6 n6 c6]) (AO #[AA A1 n1 c1,AA A2 n2 c2,AA A3 n3 c3,AA A4 n4 c4,AA A5 n5 c5,AA A6 n6 c6,AA A7 n7 c7]) (ckP n2 s l) (MR n2 s.Ap) w/\
  ∀W,AJ w W->Calls prog 19 #[AO #[AA A1 n1 c1,AA A2 n2 c2,AA A3 n3 c3,AA A4 n4 c4,AA A5 n5 c5,AA A6 n6 c6,AA A7 n7 c7]] W (Kp W):=by
 have k:=AG7 A1 A2 A3 A4 A5 A6 n1 c1 n2 c2 n3 c3 n4 c4 n5 c5 n6 c6 A7 n7 c7 s l w h1 h2 h3 h4 h5 h6 h7 hI;exact ⟨⟨k.chk,k.val⟩,fun W hW=>(k.few W hW).mono fun e w' h=>h⟩
def AEQ:GZ:=⟨⟨#[115,101,108,102]⟩,⟨3,0,4095,⟨#[]⟩, -1,[]⟩,0,0,0,0⟩
def AER:GZ:=⟨⟨#[97]⟩,⟨1,0,9,⟨#[]⟩, -1,[]⟩,0,0,0,0⟩
def Zi:BD:={Bl:=[⟨#[120]⟩],units:=[],Ap:=[⟨⟨#[115]⟩,⟨#[120]⟩,0,1,[AEQ,AER],[]⟩],rules:=[],converts:=[],purposes:=[]}
def E19:BD:={Bl:=[],units:=[],Ap:=[],rules:=[],converts:=[],purposes:=[]}
theorem AH7:ckP 0 Zi [0]=0:=by kernel_rfl
theorem AH8:ckP 0 E19 []=0:=by kernel_rfl
theorem M7 {α:Type} (sz b:Nat) (R:AH->List Value->α->Prop) (w:AH):BQ sz b R w (AA none 0 0) []:=⟨Ag.nil _ _ (Ar _),by simp⟩
theorem AG5 {g1 g3 g4:Nat} {W:AH} (h:Vz g1 g3 g4 W):Qm (AO #[AA (some ⟨g1,0,none⟩) 1 1,AA none 0 0,AA (some ⟨g3,0,none⟩) 1 1,AA none 0 0,AA none 0 0,AA none 0 0]) (AO #[AA (some ⟨g1,0,none⟩) 1 1,AA none 0 0,AA (some ⟨g3,0,none⟩) 1 1,AA none 0 0,AA none 0 0,AA none 0 0,AA (some ⟨g4,0,none⟩) 1 1]) 0 (MR 0 Zi.Ap) W:=by
 obtain ⟨g2,a,b,c,d⟩:=h;have k2:BQ 11 120 EW W (AA (some ⟨g2,0,none⟩) 2 2) [AEQ,AER]:=by
  refine ⟨Pt (l:=[AEQ,AER]) (cs:=AFi.toList) b ⟨rfl,fun i x hi=> ?_⟩ BE,by decide⟩;rcases i with _ | _ | i
  ·simp only [An,Bq] at hi
   subst hi;exact ⟨none,0,0,rfl,M7 _ _ _ _⟩
  ·simp only [Aw,An,Bq] at hi
   subst hi;exact ⟨none,0,0,rfl,M7 _ _ _ _⟩
  · simp at hi
 have h:=(gS (s:=Zi) (l:=[0]) (w:=W) (n2:=0) (c2:=0) (A2:=none) (A4:=none) (A5:=none) (A6:=none) (n4:=0) (c4:=0) (n5:=0) (c5:=0) (n6:=0) (c6:=0)
  ⟨Pt (l:=Zi.Bl) a ⟨rfl,fun i x hi=>by
   rcases i with _ | i
   ·simp only [Zi,An,Bq] at hi
    subst hi;rfl
   · simp [Zi] at hi⟩ BE,by decide⟩ (M7 _ _ _ _)
  ⟨Pt (l:=Zi.Ap) c ⟨rfl,fun i x hi=>by
   rcases i with _ | i
   ·simp only [Zi,An,Bq] at hi
    subst hi;exact ⟨some ⟨g2,0,none⟩,2,2,none,0,0,rfl,k2,M7 _ _ _ _⟩
   · simp [Zi] at hi⟩ BE,by decide⟩ (M7 _ _ _ _) (M7 _ _ _ _) (M7 _ _ _ _)
  (Pt (l:=[0]) d ⟨rfl,fun i x hi=>by
   rcases i with _ | i
   ·simp only [An,Bq] at hi
    subst hi;rfl
   · simp at hi⟩ BE) BE).1
 rw [AH7] at h;exact h
theorem AG6 (W:AH):Qm (AO #[AA none 0 0,AA none 0 0,AA none 0 0,AA none 0 0,AA none 0 0,AA none 0 0]) (AO #[AA none 0 0,AA none 0 0,AA none 0 0,AA none 0 0,AA none 0 0,AA none 0 0,AA none 0 0]) 0 (MR 0 []) W:=by have h:=(gS (s:=E19) (l:=[]) (w:=W) (M7 _ _ _ _) (M7 _ _ _ _) (M7 _ _ _ _) (M7 _ _ _ _) (M7 _ _ _ _) (M7 _ _ _ _) (Ag.nil _ _ (Ar _)) BE (A1:=none) (n1:=0) (c1:=0) (A2:=none) (n2:=0) (c2:=0) (A3:=none) (n3:=0) (c3:=0) (A4:=none) (A5:=none) (A6:=none) (n4:=0) (c4:=0) (n5:=0) (c5:=0) (n6:=0) (c6:=0) (A7:=none) (n7:=0) (c7:=0)).1;rw [AH8] at h;exact h
theorem ACr {w:AH} (hT:Cc w):∀W,AJ w W->Calls prog 4 #[] W fun e w'=>e=.returned (.bool true)/\AJ W w':=fun W hW=>
 vu (MR 0 Zi.Ap) (MR 0 []) W (hT.below hW) AL AL (fun _ _ _ _ _ h=>AG5 h) (fun W' _=>AG6 W')
theorem gTab:prog.globalNamed "testamur/digest.constants"=some 0:=by kernel_rfl
theorem ACb {W:AH} (h:laidMet prog [("testamur/digest.constants",Rows.laid_testamur_digest_constants)] W):Cc W:=by have ht:Lib.TabIs prog W "testamur/digest.constants" .u32 gT:=Lib.tabIs_of_head (rest:=[]) gTab AL underlying233 underlying172 AL AL h;have hc:∀t,t < 64->W.cell? ⟨0,t,none⟩=some (.int .u32 (gT[t]?.getD 0)):=fun t h64=>(ht.cell gTab t h64).trans (by rw [C0]);exact ⟨World.block_lt_of_cell? _ _ (hc 0 BE),hc⟩
noncomputable def AJI (os:Os):AH:=
 {World.holding prog os ⟨#[],#[],[]⟩ with heap:=(World.holding prog os ⟨#[],#[],[]⟩).heap.modify 0 fun
  | .cells _ t frozen=>.cells (gT.map (Value.int .u32)).toArray t frozen
  | o=>o}
end Go.Proofs.YtpmpddfgifhlbaaGreatDoor
