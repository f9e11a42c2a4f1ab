import Derived.Test.YtamhoilkpppdbaaGreatDoorK06
import Derived.Test.YtamhoilkpppdbaaGreatDoorK17
import Derived.Test.YtamhoilkpppdbaaGreatDoorK18
import Derived.Test.YtamhoilkpppdbaaGreatDoorCards
import Derived.Test.YtamhoilkpppdbaaGreatDoorTie
namespace Go.Proofs.YtamhoilkpppdbaaGreatDoor
set_option maxHeartbeats 8000000
set_option maxRecDepth 100000
open Go renaming World→AH
open Go.Proofs.Tryz
open Go.Value renaming slice→AB, agg→AP
open Go.ChangeShapes Go.WideShapes Go.ChangeAt Go.RowKit
theorem own:ownKnob prog.godebug=none:=by kernel_rfl
theorem laidOut:laidOutB prog=true:=by kernel_rfl
theorem AF1 {w:AH} {v:Value} {l:List BL} (h:Ag 6 BU w v l):Ag 6 Lz w v (l.map fun x=>x.fields.length):=by
 obtain ⟨A,cap,e,h1,h2,h3⟩:=h;refine ⟨A,cap,by rw [Cb];exact e,by rw [Cb];exact h1,h2,fun i x hi=> ?_⟩;rw [Bb] at hi;cases hx:l[i]? with
 | none=>rw [hx] at hi;cases hi
 |
  some y=>
  rw [hx] at hi;obtain rfl:=Hm hi;obtain ⟨b,off,cs,e1,e2,e3,e4,A1,n1,c1,A2,n2,c2,rfl,hf,hd⟩:=h3 i y hx;have hl:=hf.1.len;have hb:y.fields.length*120<=140737488355328:=hf.2;refine ⟨b,off,_,e1,e2,e3,e4,.string y.name,.string y.FD,.int .i64 y.Ar,.int .i64 y.version,A1,c1,AB A2 n2 c2,by rw [hl],by show y.fields.length<=140737488355328;omega,fun u hu=> ?_⟩;simp only [CJ,D5,D4] at hu;rcases hu with rfl | rfl | rfl | rfl | rfl <;> rfl
theorem fd {A1 A2 A3 A4 A5 A6 A7:Option Addr} {n1 c1 n2 c2 n3 c3 n4 c4 n5 c5 n6 c6 n7 c7:Nat} {s:BB} {l:AQ} {w:AH} (h1:BT 1 16 DQ w (AB A1 n1 c1) s.Bg) (h2:BT 5 56 CD w (AB A2 n2 c2) s.units) (h3:BT 6 96 BU w (AB A3 n3 c3) s.Ap) (h4:BT 5 96 CF w (AB A4 n4 c4) s.rules) (h5:BT 5 72 Bw w (AB A5 n5 c5) s.converts) (h6:BT 3 48 BW w (AB A6 n6 c6) s.purposes) (h7:Ag 1 iR w (AB A7 n7 c7) l) (hI:∀x∈s.Ap,∀d∈x.deps,IV d):
 Ql (AP #[AB A1 n1 c1,AB A2 n2 c2,AB A3 n3 c3,AB A4 n4 c4,AB A5 n5 c5,AB A6 n6 c6]) (AP #[AB A1 n1 c1,AB A2 n2 c2,AB A3 n3 c3,AB A4 n4 c4,AB A5 n5 c5,AB A6 n6 c6,AB A7 n7 c7]) (ckP n2 s l) (MG n2 s.Ap) w/\
  ∀W,AK w W->Calls prog 24 #[AP #[AB A1 n1 c1,AB A2 n2 c2,AB A3 n3 c3,AB A4 n4 c4,AB A5 n5 c5,AB A6 n6 c6,AB A7 n7 c7]] W (PF W):=by
 have k:=AFC A1 A2 A3 A4 A5 A6 n1 c1 n2 c2 n3 c3 n4 c4 n5 c5 n6 c6 A7 n7 c7 s l w h1 h2 h3 h4 h5 h6 h7 hI;exact ⟨⟨k.chk,k.val⟩,fun W hW=>(k.few W hW).mono fun e w' h=>h⟩
def ACh:GT:=⟨⟨#[115,101,108,102]⟩,⟨3,0,4095,⟨#[]⟩, -1,[]⟩,0,0,0,0⟩
def ACi:GT:=⟨⟨#[97]⟩,⟨1,0,9,⟨#[]⟩, -1,[]⟩,0,0,0,0⟩
def Zc:BB:={Bg:=[⟨#[120]⟩],units:=[],Ap:=[⟨⟨#[115]⟩,⟨#[120]⟩,0,1,[ACh,ACi],[]⟩],rules:=[],converts:=[],purposes:=[]}
def E19:BB:={Bg:=[],units:=[],Ap:=[],rules:=[],converts:=[],purposes:=[]}
theorem AF2:ckP 0 Zc [0]=0:=by kernel_rfl
theorem AF3:ckP 0 E19 []=0:=by kernel_rfl
theorem M9 {α:Type} (sz b:Nat) (R:AH->List Value->α->Prop) (w:AH):BT sz b R w (AB none 0 0) []:=⟨Ag.nil _ _ (Av _),by simp⟩
theorem AFA {g1 g3 g4:Nat} {W:AH} (h:Vv g1 g3 g4 W):Ql (AP #[AB (some ⟨g1,0,none⟩) 1 1,AB none 0 0,AB (some ⟨g3,0,none⟩) 1 1,AB none 0 0,AB none 0 0,AB none 0 0]) (AP #[AB (some ⟨g1,0,none⟩) 1 1,AB none 0 0,AB (some ⟨g3,0,none⟩) 1 1,AB none 0 0,AB none 0 0,AB none 0 0,AB (some ⟨g4,0,none⟩) 1 1]) 0 (MG 0 Zc.Ap) W:=by
 obtain ⟨g2,a,b,c,d⟩:=h;have k2:BT 11 120 EU W (AB (some ⟨g2,0,none⟩) 2 2) [ACh,ACi]:=by
  refine ⟨Po (l:=[ACh,ACi]) (cs:=ADk.toList) b ⟨rfl,fun i x hi=> ?_⟩ Ah,by decide⟩;rcases i with _ | _ | i
  ·simp only [Al,Bu] at hi
   subst hi;exact ⟨none,0,0,rfl,M9 _ _ _ _⟩
  ·simp only [Az,Al,Bu] at hi
   subst hi;exact ⟨none,0,0,rfl,M9 _ _ _ _⟩
  · simp at hi
 have h:=(fd (s:=Zc) (l:=[0]) (w:=W) (n2:=0) (c2:=0) (A2:=none) (A4:=none) (A5:=none) (A6:=none) (n4:=0) (c4:=0) (n5:=0) (c5:=0) (n6:=0) (c6:=0)
  ⟨Po (l:=Zc.Bg) a ⟨rfl,fun i x hi=>by
   rcases i with _ | i
   ·simp only [Zc,Al,Bu] at hi
    subst hi;rfl
   · simp [Zc] at hi⟩ Ah,by decide⟩ (M9 _ _ _ _)
  ⟨Po (l:=Zc.Ap) c ⟨rfl,fun i x hi=>by
   rcases i with _ | i
   ·simp only [Zc,Al,Bu] at hi
    subst hi;exact ⟨some ⟨g2,0,none⟩,2,2,none,0,0,rfl,k2,M9 _ _ _ _⟩
   · simp [Zc] at hi⟩ Ah,by decide⟩ (M9 _ _ _ _) (M9 _ _ _ _) (M9 _ _ _ _)
  (Po (l:=[0]) d ⟨rfl,fun i x hi=>by
   rcases i with _ | i
   ·simp only [Al,Bu] at hi
    subst hi;rfl
   · simp at hi⟩ Ah) Ah).1
 rw [AF2] at h;exact h
theorem AFB (W:AH):Ql (AP #[AB none 0 0,AB none 0 0,AB none 0 0,AB none 0 0,AB none 0 0,AB none 0 0]) (AP #[AB none 0 0,AB none 0 0,AB none 0 0,AB none 0 0,AB none 0 0,AB none 0 0,AB none 0 0]) 0 (MG 0 []) W:=by have h:=(fd (s:=E19) (l:=[]) (w:=W) (M9 _ _ _ _) (M9 _ _ _ _) (M9 _ _ _ _) (M9 _ _ _ _) (M9 _ _ _ _) (M9 _ _ _ _) (Ag.nil _ _ (Av _)) Ah (A1:=none) (n1:=0) (c1:=0) (A2:=none) (n2:=0) (c2:=0) (A3:=none) (n3:=0) (c3:=0) (A4:=none) (A5:=none) (A6:=none) (n4:=0) (c4:=0) (n5:=0) (c5:=0) (n6:=0) (c6:=0) (A7:=none) (n7:=0) (c7:=0)).1;rw [AF3] at h;exact h
theorem ABD {w:AH} (hT:Ca w):∀W,AK w W->Calls prog 7 #[] W fun e w'=>e=.returned (.bool true)/\AK W w':=fun W hW=>
 uU (MG 0 Zc.Ap) (MG 0 []) W (hT.below hW) AJ AJ (fun _ _ _ _ _ h=>AFA h) (fun W' _=>AFB W')
theorem gTab:prog.globalNamed "testamur/digest.constants"=some 0:=by kernel_rfl
theorem AAw {W:AH} (h:laidMet prog [("testamur/digest.constants",Rows.laid_testamur_digest_constants)] W):Ca W:=by have ht:Lib.TabIs prog W "testamur/digest.constants" .u32 fq:=Lib.tabIs_of_head (rest:=[]) gTab AJ underlying241 underlying180 AJ AJ h;have hc:∀t,t < 64->W.cell? ⟨0,t,none⟩=some (.int .u32 (fq[t]?.getD 0)):=fun t h64=>(ht.cell gTab t h64).trans (by rw [Cv]);exact ⟨World.block_lt_of_cell? _ _ (hc 0 Ah),hc⟩
noncomputable def AG9 (os:Os):AH:=
 {World.holding prog os ⟨#[],#[],[]⟩ with heap:=(World.holding prog os ⟨#[],#[],[]⟩).heap.modify 0 fun
  | .cells _ t frozen=>.cells (fq.map (Value.int .u32)).toArray t frozen
  | o=>o}
end Go.Proofs.YtamhoilkpppdbaaGreatDoor
