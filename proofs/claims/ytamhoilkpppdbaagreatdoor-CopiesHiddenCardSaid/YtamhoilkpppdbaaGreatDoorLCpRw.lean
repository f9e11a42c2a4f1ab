import Derived.Test.YtamhoilkpppdbaaGreatDoorL06
import Derived.Test.YtamhoilkpppdbaaGreatDoorL17
import Derived.Test.YtamhoilkpppdbaaGreatDoorL18
import Derived.Test.YtamhoilkpppdbaaGreatDoorCards
import Derived.Test.YtamhoilkpppdbaaGreatDoorTie
namespace Go.Proofs.YtamhoilkpppdbaaGreatDoor
set_option maxHeartbeats 8000000
set_option maxRecDepth 100000
open Go renaming World→AH
open Go.Proofs.Tryz
open Go.Value renaming slice→AA, agg→AP
open Go.ChangeShapes Go.WideShapes Go.ChangeAt Go.RowKit
theorem own:ownKnob prog.godebug=none:=by kernel_rfl
theorem laidOut:laidOutB prog=true:=by kernel_rfl
theorem ACZ {w:AH} {v:Value} {l:List BM} (h:Ag 6 BW w v l):Ag 6 Kx w v (l.map fun x=>x.fields.length):=by
 obtain ⟨A,cap,e,h1,h2,h3⟩:=h;refine ⟨A,cap,by rw [CY];exact e,by rw [CY];exact h1,h2,fun i x hi=> ?_⟩;rw [Bg] at hi;cases hx:l[i]? with
 | none=>rw [hx] at hi;cases hi
 |
  some y=>
  rw [hx] at hi;obtain rfl:=DE hi;obtain ⟨b,off,cs,e1,e2,e3,e4,A1,n1,c1,A2,n2,c2,rfl,hf,hd⟩:=h3 i y hx;have hl:=hf.1.len;have hb:y.fields.length*120<=140737488355328:=hf.2;refine ⟨b,off,_,e1,e2,e3,e4,.string y.name,.string y.FX,.int .i64 y.Ar,.int .i64 y.version,A1,c1,AA A2 n2 c2,by rw [hl],by show y.fields.length<=140737488355328;omega,fun u hu=> ?_⟩;simp only [B0,DX,DW] at hu;rcases hu with rfl | rfl | rfl | rfl | rfl <;> rfl
theorem Zo {A1 A2 A3 A4 A5 A6 A7:Option Addr} {n1 c1 n2 c2 n3 c3 n4 c4 n5 c5 n6 c6 n7 c7:Nat} {s:BG} {l:AQ} {w:AH} (h1:BV 1 16 Dd w (AA A1 n1 c1) s.Bh) (h2:BV 5 56 CS w (AA A2 n2 c2) s.units) (h3:BV 6 96 BW w (AA A3 n3 c3) s.Aq) (h4:BV 5 96 CT w (AA A4 n4 c4) s.rules) (h5:BV 5 72 CF w (AA A5 n5 c5) s.converts) (h6:BV 3 48 BZ w (AA A6 n6 c6) s.purposes) (h7:Ag 1 iR w (AA A7 n7 c7) l) (hI:∀x∈s.Aq,∀d∈x.deps,I4 d):
 PU (AP #[AA A1 n1 c1,AA A2 n2 c2,AA A3 n3 c3,AA A4 n4 c4,AA A5 n5 c5,AA A6 n6 c6]) (AP #[AA A1 n1 c1,AA A2 n2 c2,AA A3 n3 c3,AA A4 n4 c4,AA A5 n5 c5,AA A6 n6 c6,AA A7 n7 c7]) (ckP n2 s l) (Mm n2 s.Aq) w/\
  ∀W,AK w W->Calls prog 24 #[AP #[AA A1 n1 c1,AA A2 n2 c2,AA A3 n3 c3,AA A4 n4 c4,AA A5 n5 c5,AA A6 n6 c6,AA A7 n7 c7]] W (LM W):=by
 have k:=AHh A1 A2 A3 A4 A5 A6 n1 c1 n2 c2 n3 c3 n4 c4 n5 c5 n6 c6 A7 n7 c7 s l w h1 h2 h3 h4 h5 h6 h7 hI;exact ⟨⟨k.chk,k.val⟩,fun W hW=>(k.few W hW).mono fun e w' h=>h⟩
def AE2:Gn:=⟨⟨#[115,101,108,102]⟩,⟨3,0,4095,⟨#[]⟩, -1,[]⟩,0,0,0,0⟩
def AE3:Gn:=⟨⟨#[97]⟩,⟨1,0,9,⟨#[]⟩, -1,[]⟩,0,0,0,0⟩
def aP:BG:={Bh:=[⟨#[120]⟩],units:=[],Aq:=[⟨⟨#[115]⟩,⟨#[120]⟩,0,1,[AE2,AE3],[]⟩],rules:=[],converts:=[],purposes:=[]}
def E19:BG:={Bh:=[],units:=[],Aq:=[],rules:=[],converts:=[],purposes:=[]}
theorem AIf:ckP 0 aP [0]=0:=by kernel_rfl
theorem AIg:ckP 0 E19 []=0:=by kernel_rfl
theorem NS {α:Type} (sz b:Nat) (R:AH->List Value->α->Prop) (w:AH):BV sz b R w (AA none 0 0) []:=⟨Ag.nil _ _ (Ay _),by simp⟩
theorem AHf {g1 g3 g4:Nat} {W:AH} (h:WV g1 g3 g4 W):PU (AP #[AA (some ⟨g1,0,none⟩) 1 1,AA none 0 0,AA (some ⟨g3,0,none⟩) 1 1,AA none 0 0,AA none 0 0,AA none 0 0]) (AP #[AA (some ⟨g1,0,none⟩) 1 1,AA none 0 0,AA (some ⟨g3,0,none⟩) 1 1,AA none 0 0,AA none 0 0,AA none 0 0,AA (some ⟨g4,0,none⟩) 1 1]) 0 (Mm 0 aP.Aq) W:=by
 obtain ⟨g2,a,b,c,d⟩:=h;have k2:BV 11 120 Eg W (AA (some ⟨g2,0,none⟩) 2 2) [AE2,AE3]:=by
  refine ⟨P8 (l:=[AE2,AE3]) (cs:=AGB.toList) b ⟨rfl,fun i x hi=> ?_⟩ Ai,by decide⟩;rcases i with _ | _ | i
  ·simp only [Ao,Bz] at hi
   subst hi;exact ⟨none,0,0,rfl,NS _ _ _ _⟩
  ·simp only [BA,Ao,Bz] at hi
   subst hi;exact ⟨none,0,0,rfl,NS _ _ _ _⟩
  · simp at hi
 have h:=(Zo (s:=aP) (l:=[0]) (w:=W) (n2:=0) (c2:=0) (A2:=none) (A4:=none) (A5:=none) (A6:=none) (n4:=0) (c4:=0) (n5:=0) (c5:=0) (n6:=0) (c6:=0)
  ⟨P8 (l:=aP.Bh) a ⟨rfl,fun i x hi=>by
   rcases i with _ | i
   ·simp only [aP,Ao,Bz] at hi
    subst hi;rfl
   · simp [aP] at hi⟩ Ai,by decide⟩ (NS _ _ _ _)
  ⟨P8 (l:=aP.Aq) c ⟨rfl,fun i x hi=>by
   rcases i with _ | i
   ·simp only [aP,Ao,Bz] at hi
    subst hi;exact ⟨some ⟨g2,0,none⟩,2,2,none,0,0,rfl,k2,NS _ _ _ _⟩
   · simp [aP] at hi⟩ Ai,by decide⟩ (NS _ _ _ _) (NS _ _ _ _) (NS _ _ _ _)
  (P8 (l:=[0]) d ⟨rfl,fun i x hi=>by
   rcases i with _ | i
   ·simp only [Ao,Bz] at hi
    subst hi;rfl
   · simp at hi⟩ Ai) Ai).1
 rw [AIf] at h;exact h
theorem AHg (W:AH):PU (AP #[AA none 0 0,AA none 0 0,AA none 0 0,AA none 0 0,AA none 0 0,AA none 0 0]) (AP #[AA none 0 0,AA none 0 0,AA none 0 0,AA none 0 0,AA none 0 0,AA none 0 0,AA none 0 0]) 0 (Mm 0 []) W:=by have h:=(Zo (s:=E19) (l:=[]) (w:=W) (NS _ _ _ _) (NS _ _ _ _) (NS _ _ _ _) (NS _ _ _ _) (NS _ _ _ _) (NS _ _ _ _) (Ag.nil _ _ (Ay _)) Ai (A1:=none) (n1:=0) (c1:=0) (A2:=none) (n2:=0) (c2:=0) (A3:=none) (n3:=0) (c3:=0) (A4:=none) (A5:=none) (A6:=none) (n4:=0) (c4:=0) (n5:=0) (c5:=0) (n6:=0) (c6:=0) (A7:=none) (n7:=0) (c7:=0)).1;rw [AIg] at h;exact h
theorem oT {w:AH} (hT:Cc w):∀W,AK w W->Calls prog 7 #[] W fun e w'=>e=.returned (.bool true)/\AK W w':=fun W hW=>
 wj (Mm 0 aP.Aq) (Mm 0 []) W (hT.below hW) AJ AJ (fun _ _ _ _ _ h=>AHf h) (fun W' _=>AHg W')
theorem gTab:prog.globalNamed "testamur/digest.constants"=some 0:=by kernel_rfl
theorem oM {W:AH} (h:laidMet prog [("testamur/digest.constants",Rows.laid_testamur_digest_constants)] W):Cc W:=by have ht:Lib.TabIs prog W "testamur/digest.constants" .u32 ia:=Lib.tabIs_of_head (rest:=[]) gTab AJ underlying241 underlying180 AJ AJ h;have hc:∀t,t < 64->W.cell? ⟨0,t,none⟩=some (.int .u32 (ia[t]?.getD 0)):=fun t h64=>(ht.cell gTab t h64).trans (by rw [Ck]);exact ⟨World.block_lt_of_cell? _ _ (hc 0 Ai),hc⟩
noncomputable def AF4 (os:Os):AH:=
 {World.holding prog os ⟨#[],#[],[]⟩ with heap:=(World.holding prog os ⟨#[],#[],[]⟩).heap.modify 0 fun
  | .cells _ t frozen=>.cells (ia.map (Value.int .u32)).toArray t frozen
  | o=>o}
end Go.Proofs.YtamhoilkpppdbaaGreatDoor
