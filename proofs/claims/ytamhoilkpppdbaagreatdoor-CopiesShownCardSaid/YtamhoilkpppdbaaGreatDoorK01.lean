import Derived.Test.YtamhoilkpppdbaaGreatDoorK00
import Derived.Laws.Cover3
import Derived.Lib.SmallJoins
import Derived.WalkSmall
namespace Go.Proofs.YtamhoilkpppdbaaGreatDoor
set_option maxHeartbeats 8000000
set_option maxRecDepth 100000
open Go renaming World→AH, Value→AN, Calls→AS, TypeId→Af, Addr→Aa
open Go.Proofs.Tryz
variable (A1 A2 A3 A4 A5 A6:Option Aa) (n1 c1 n2 c2 n3 c3 n4 c4 n5 c5 n6 c6:Nat)
open Go.Value renaming slice→AB, int→AE, string→AL, pointer→AW, bool→Ab, agg→AP
open Go.IntKind renaming i64→AF
open Go.Ending renaming returned→AU
open Go.Obj renaming cells→AO
open Go.RowKit
theorem pz (lo hi un:Int) (An:ByteArray) (B:Option Aa) (m d:Nat) (ns:List ByteArray) (w:AH) (_hn2:n2<=9223372036854775807) (hs:Ag 1 DQ w (AB B m d) ns):
 AS prog 66 #[(AP #[AB A1 n1 c1,AB A2 n2 c2,AB A3 n3 c3,AB A4 n4 c4,AB A5 n5 c5,AB A6 n6 c6]),AP #[AE AF 1,AE AF lo,AE AF hi,AL An,AE AF un,AB B m d]] w fun e w'=>
  e=AU (Ab (He n2 ⟨1,lo,hi,An,un,ns⟩))/\AK w w':=by
 have Lh:=AA hs.len;clear hs;have hix:∀w:AH,(Instr.index 177 Rs (AE AF 1)).run prog w=.ok (.func (.func 134) #[] #[]) w:=fun _=>by kernel_rfl
 go_enter func66,ntmps66;go_wp2_with fail;obtain ⟨wb,hwb⟩:=Ad ((w.alloc (AO #[AB A1 n1 c1,AB A2 n2 c2,AB A3 n3 c3,AB A4 n4 c4,AB A5 n5 c5,AB A6 n6 c6] 137)).alloc (AO #[AE AF 1,AE AF lo,AE AF hi,AL An,AE AF un,AB B m d] 109));rw [<-hwb];have hbb:AK w wb:=by rw [hwb];exact ((BE _ _).alloc AX _)
 have kA:AZ wb w.heap.size 137 #[AB A1 n1 c1,AB A2 n2 c2,AB A3 n3 c3,AB A4 n4 c4,AB A5 n5 c5,AB A6 n6 c6]:=by rw [hwb];exact (AZ.new _ _ _).alloc _
 have kB:AZ wb (w.heap.size+1) 109 #[AE AF 1,AE AF lo,AE AF hi,AL An,AE AF un,AB B m d]:=by rw [hwb];exact DY AX
 obtain ⟨ga,hga⟩:=Ad w.heap.size;obtain ⟨gb,hgb⟩:=Ad (w.heap.size+1);rw [<-hgb] at kB ⊢;rw [<-hga] at kA ⊢;have HA:=AA kA;have HB:=AA kB;have BG:=AA hbb;have a1:=kA.cell 1;have b0:=kB.cell 0;have b1:=kB.cell 1;have b2:=kB.cell 2;have b3:=kB.cell 3;have b4:=kB.cell 4;have b5:=kB.cell 5;have la:=kA.lt;have lb:=kB.lt;simp only [Ak,Al,Az] at a1 b0 b1 b2 b3 b4 b5;clear kA kB hbb hwb hga hgb
 go_region_held3 (fun w'=>w'.cell? ⟨ga,1,none⟩=some (AB A2 n2 c2)/\w'.cell? ⟨gb,0,none⟩=some (AE AF 1)/\w'.cell? ⟨gb,1,none⟩=some (AE AF lo)/\w'.cell? ⟨gb,2,none⟩=some (AE AF hi)/\w'.cell? ⟨gb,3,none⟩=some (AL An)/\w'.cell? ⟨gb,4,none⟩=some (AE AF un)/\w'.cell? ⟨gb,5,none⟩=some (AB B m d)/\AK wb w')
  (first
   | exact ⟨a1,b0,b1,b2,b3,b4,b5,(Ae _ _).drew⟩
   | exact ⟨(hb.cell (p:=⟨ga,1,none⟩) la).trans a1,(hb.cell (p:=⟨gb,0,none⟩) lb).trans b0,(hb.cell (p:=⟨gb,1,none⟩) lb).trans b1,(hb.cell (p:=⟨gb,2,none⟩) lb).trans b2,(hb.cell (p:=⟨gb,3,none⟩) lb).trans b3,(hb.cell (p:=⟨gb,4,none⟩) lb).trans b4,(hb.cell (p:=⟨gb,5,none⟩) lb).trans b5,(Ae wb.heap.size wb).drew.trans hb⟩
   | exact ⟨((hc.cell (p:=⟨ga,1,none⟩) (Au la hb.size)).trans (hb.cell (p:=⟨ga,1,none⟩) la)).trans a1,((hc.cell (p:=⟨gb,0,none⟩) (Au lb hb.size)).trans (hb.cell (p:=⟨gb,0,none⟩) lb)).trans b0,((hc.cell (p:=⟨gb,1,none⟩) (Au lb hb.size)).trans (hb.cell (p:=⟨gb,1,none⟩) lb)).trans b1,((hc.cell (p:=⟨gb,2,none⟩) (Au lb hb.size)).trans (hb.cell (p:=⟨gb,2,none⟩) lb)).trans b2,((hc.cell (p:=⟨gb,3,none⟩) (Au lb hb.size)).trans (hb.cell (p:=⟨gb,3,none⟩) lb)).trans b3,((hc.cell (p:=⟨gb,4,none⟩) (Au lb hb.size)).trans (hb.cell (p:=⟨gb,4,none⟩) lb)).trans b4,((hc.cell (p:=⟨gb,5,none⟩) (Au lb hb.size)).trans (hb.cell (p:=⟨gb,5,none⟩) lb)).trans b5,((Ae wb.heap.size wb).drew.trans hb).trans (hc.mono hb.size)⟩)
  (first
   | (go_at_call 93;refine (Sj _).mono ?_;rintro e w' ⟨rfl,hb⟩)
   | (go_at_call 134;refine (zu 1 lo hi un An B m d n2 _).mono ?_;rintro e w' ⟨rfl,hc⟩))
 go_wp2_with fail;go_ret;refine ⟨Ay ?_,BG.o.trans (Below.mono (((Ae wb.heap.size wb).drew.trans hb).trans (hc.mono hb.size)) BG.o.size)⟩;rw [Lh.o];simp [He]
theorem py (lo hi un:Int) (An:ByteArray) (B:Option Aa) (m d:Nat) (ns:List ByteArray) (w:AH) (_hn2:n2<=9223372036854775807) (hs:Ag 1 DQ w (AB B m d) ns):
 AS prog 66 #[(AP #[AB A1 n1 c1,AB A2 n2 c2,AB A3 n3 c3,AB A4 n4 c4,AB A5 n5 c5,AB A6 n6 c6]),AP #[AE AF 2,AE AF lo,AE AF hi,AL An,AE AF un,AB B m d]] w fun e w'=>
  e=AU (Ab (He n2 ⟨2,lo,hi,An,un,ns⟩))/\AK w w':=by
 have Lh:=AA hs.len;clear hs;have hix:∀w:AH,(Instr.index 177 Rs (AE AF 2)).run prog w=.ok (.func (.func 135) #[] #[]) w:=fun _=>by kernel_rfl
 go_enter func66,ntmps66;go_wp2_with fail;obtain ⟨wb,hwb⟩:=Ad ((w.alloc (AO #[AB A1 n1 c1,AB A2 n2 c2,AB A3 n3 c3,AB A4 n4 c4,AB A5 n5 c5,AB A6 n6 c6] 137)).alloc (AO #[AE AF 2,AE AF lo,AE AF hi,AL An,AE AF un,AB B m d] 109));rw [<-hwb];have hbb:AK w wb:=by rw [hwb];exact ((BE _ _).alloc AX _)
 have kA:AZ wb w.heap.size 137 #[AB A1 n1 c1,AB A2 n2 c2,AB A3 n3 c3,AB A4 n4 c4,AB A5 n5 c5,AB A6 n6 c6]:=by rw [hwb];exact (AZ.new _ _ _).alloc _
 have kB:AZ wb (w.heap.size+1) 109 #[AE AF 2,AE AF lo,AE AF hi,AL An,AE AF un,AB B m d]:=by rw [hwb];exact DY AX
 obtain ⟨ga,hga⟩:=Ad w.heap.size;obtain ⟨gb,hgb⟩:=Ad (w.heap.size+1);rw [<-hgb] at kB ⊢;rw [<-hga] at kA ⊢;have HA:=AA kA;have HB:=AA kB;have BG:=AA hbb;have a1:=kA.cell 1;have b0:=kB.cell 0;have b1:=kB.cell 1;have b2:=kB.cell 2;have b3:=kB.cell 3;have b4:=kB.cell 4;have b5:=kB.cell 5;have la:=kA.lt;have lb:=kB.lt;simp only [Ak,Al,Az] at a1 b0 b1 b2 b3 b4 b5;clear kA kB hbb hwb hga hgb
 go_region_held3 (fun w'=>w'.cell? ⟨ga,1,none⟩=some (AB A2 n2 c2)/\w'.cell? ⟨gb,0,none⟩=some (AE AF 2)/\w'.cell? ⟨gb,1,none⟩=some (AE AF lo)/\w'.cell? ⟨gb,2,none⟩=some (AE AF hi)/\w'.cell? ⟨gb,3,none⟩=some (AL An)/\w'.cell? ⟨gb,4,none⟩=some (AE AF un)/\w'.cell? ⟨gb,5,none⟩=some (AB B m d)/\AK wb w')
  (first
   | exact ⟨a1,b0,b1,b2,b3,b4,b5,(Ae _ _).drew⟩
   | exact ⟨(hb.cell (p:=⟨ga,1,none⟩) la).trans a1,(hb.cell (p:=⟨gb,0,none⟩) lb).trans b0,(hb.cell (p:=⟨gb,1,none⟩) lb).trans b1,(hb.cell (p:=⟨gb,2,none⟩) lb).trans b2,(hb.cell (p:=⟨gb,3,none⟩) lb).trans b3,(hb.cell (p:=⟨gb,4,none⟩) lb).trans b4,(hb.cell (p:=⟨gb,5,none⟩) lb).trans b5,(Ae wb.heap.size wb).drew.trans hb⟩
   | exact ⟨((hc.cell (p:=⟨ga,1,none⟩) (Au la hb.size)).trans (hb.cell (p:=⟨ga,1,none⟩) la)).trans a1,((hc.cell (p:=⟨gb,0,none⟩) (Au lb hb.size)).trans (hb.cell (p:=⟨gb,0,none⟩) lb)).trans b0,((hc.cell (p:=⟨gb,1,none⟩) (Au lb hb.size)).trans (hb.cell (p:=⟨gb,1,none⟩) lb)).trans b1,((hc.cell (p:=⟨gb,2,none⟩) (Au lb hb.size)).trans (hb.cell (p:=⟨gb,2,none⟩) lb)).trans b2,((hc.cell (p:=⟨gb,3,none⟩) (Au lb hb.size)).trans (hb.cell (p:=⟨gb,3,none⟩) lb)).trans b3,((hc.cell (p:=⟨gb,4,none⟩) (Au lb hb.size)).trans (hb.cell (p:=⟨gb,4,none⟩) lb)).trans b4,((hc.cell (p:=⟨gb,5,none⟩) (Au lb hb.size)).trans (hb.cell (p:=⟨gb,5,none⟩) lb)).trans b5,((Ae wb.heap.size wb).drew.trans hb).trans (hc.mono hb.size)⟩)
  (first
   | (go_at_call 93;refine (Sj _).mono ?_;rintro e w' ⟨rfl,hb⟩)
   | (go_at_call 135;refine (zt 2 lo hi un An B m d n2 _).mono ?_;rintro e w' ⟨rfl,hc⟩))
 go_wp2_with fail;go_ret;refine ⟨Ay ?_,BG.o.trans (Below.mono (((Ae wb.heap.size wb).drew.trans hb).trans (hc.mono hb.size)) BG.o.size)⟩;rw [Lh.o];simp [He]
theorem px (lo hi un:Int) (An:ByteArray) (B:Option Aa) (m d:Nat) (ns:List ByteArray) (w:AH) (_hn2:n2<=9223372036854775807) (hs:Ag 1 DQ w (AB B m d) ns):
 AS prog 66 #[(AP #[AB A1 n1 c1,AB A2 n2 c2,AB A3 n3 c3,AB A4 n4 c4,AB A5 n5 c5,AB A6 n6 c6]),AP #[AE AF 3,AE AF lo,AE AF hi,AL An,AE AF un,AB B m d]] w fun e w'=>
  e=AU (Ab (He n2 ⟨3,lo,hi,An,un,ns⟩))/\AK w w':=by
 have Lh:=AA hs.len;clear hs;have hix:∀w:AH,(Instr.index 177 Rs (AE AF 3)).run prog w=.ok (.func (.func 136) #[] #[]) w:=fun _=>by kernel_rfl
 go_enter func66,ntmps66;go_wp2_with fail;obtain ⟨wb,hwb⟩:=Ad ((w.alloc (AO #[AB A1 n1 c1,AB A2 n2 c2,AB A3 n3 c3,AB A4 n4 c4,AB A5 n5 c5,AB A6 n6 c6] 137)).alloc (AO #[AE AF 3,AE AF lo,AE AF hi,AL An,AE AF un,AB B m d] 109));rw [<-hwb];have hbb:AK w wb:=by rw [hwb];exact ((BE _ _).alloc AX _)
 have kA:AZ wb w.heap.size 137 #[AB A1 n1 c1,AB A2 n2 c2,AB A3 n3 c3,AB A4 n4 c4,AB A5 n5 c5,AB A6 n6 c6]:=by rw [hwb];exact (AZ.new _ _ _).alloc _
 have kB:AZ wb (w.heap.size+1) 109 #[AE AF 3,AE AF lo,AE AF hi,AL An,AE AF un,AB B m d]:=by rw [hwb];exact DY AX
 obtain ⟨ga,hga⟩:=Ad w.heap.size;obtain ⟨gb,hgb⟩:=Ad (w.heap.size+1);rw [<-hgb] at kB ⊢;rw [<-hga] at kA ⊢;have HA:=AA kA;have HB:=AA kB;have BG:=AA hbb;have a1:=kA.cell 1;have b0:=kB.cell 0;have b1:=kB.cell 1;have b2:=kB.cell 2;have b3:=kB.cell 3;have b4:=kB.cell 4;have b5:=kB.cell 5;have la:=kA.lt;have lb:=kB.lt;simp only [Ak,Al,Az] at a1 b0 b1 b2 b3 b4 b5;clear kA kB hbb hwb hga hgb
 go_region_held3 (fun w'=>w'.cell? ⟨ga,1,none⟩=some (AB A2 n2 c2)/\w'.cell? ⟨gb,0,none⟩=some (AE AF 3)/\w'.cell? ⟨gb,1,none⟩=some (AE AF lo)/\w'.cell? ⟨gb,2,none⟩=some (AE AF hi)/\w'.cell? ⟨gb,3,none⟩=some (AL An)/\w'.cell? ⟨gb,4,none⟩=some (AE AF un)/\w'.cell? ⟨gb,5,none⟩=some (AB B m d)/\AK wb w')
  (first
   | exact ⟨a1,b0,b1,b2,b3,b4,b5,(Ae _ _).drew⟩
   | exact ⟨(hb.cell (p:=⟨ga,1,none⟩) la).trans a1,(hb.cell (p:=⟨gb,0,none⟩) lb).trans b0,(hb.cell (p:=⟨gb,1,none⟩) lb).trans b1,(hb.cell (p:=⟨gb,2,none⟩) lb).trans b2,(hb.cell (p:=⟨gb,3,none⟩) lb).trans b3,(hb.cell (p:=⟨gb,4,none⟩) lb).trans b4,(hb.cell (p:=⟨gb,5,none⟩) lb).trans b5,(Ae wb.heap.size wb).drew.trans hb⟩
   | exact ⟨((hc.cell (p:=⟨ga,1,none⟩) (Au la hb.size)).trans (hb.cell (p:=⟨ga,1,none⟩) la)).trans a1,((hc.cell (p:=⟨gb,0,none⟩) (Au lb hb.size)).trans (hb.cell (p:=⟨gb,0,none⟩) lb)).trans b0,((hc.cell (p:=⟨gb,1,none⟩) (Au lb hb.size)).trans (hb.cell (p:=⟨gb,1,none⟩) lb)).trans b1,((hc.cell (p:=⟨gb,2,none⟩) (Au lb hb.size)).trans (hb.cell (p:=⟨gb,2,none⟩) lb)).trans b2,((hc.cell (p:=⟨gb,3,none⟩) (Au lb hb.size)).trans (hb.cell (p:=⟨gb,3,none⟩) lb)).trans b3,((hc.cell (p:=⟨gb,4,none⟩) (Au lb hb.size)).trans (hb.cell (p:=⟨gb,4,none⟩) lb)).trans b4,((hc.cell (p:=⟨gb,5,none⟩) (Au lb hb.size)).trans (hb.cell (p:=⟨gb,5,none⟩) lb)).trans b5,((Ae wb.heap.size wb).drew.trans hb).trans (hc.mono hb.size)⟩)
  (first
   | (go_at_call 93;refine (Sj _).mono ?_;rintro e w' ⟨rfl,hb⟩)
   | (go_at_call 136;refine (zr 3 lo hi un An B m d n2 _).mono ?_;rintro e w' ⟨rfl,hc⟩))
 go_wp2_with fail;go_ret;refine ⟨Ay ?_,BG.o.trans (Below.mono (((Ae wb.heap.size wb).drew.trans hb).trans (hc.mono hb.size)) BG.o.size)⟩;rw [Lh.o];simp [He]
theorem pw (lo hi un:Int) (An:ByteArray) (B:Option Aa) (m d:Nat) (ns:List ByteArray) (w:AH) (_hn2:n2<=9223372036854775807) (hs:Ag 1 DQ w (AB B m d) ns):
 AS prog 66 #[(AP #[AB A1 n1 c1,AB A2 n2 c2,AB A3 n3 c3,AB A4 n4 c4,AB A5 n5 c5,AB A6 n6 c6]),AP #[AE AF 4,AE AF lo,AE AF hi,AL An,AE AF un,AB B m d]] w fun e w'=>
  e=AU (Ab (He n2 ⟨4,lo,hi,An,un,ns⟩))/\AK w w':=by
 have Lh:=AA hs.len;have HS:=AA hs;clear hs;have hix:∀w:AH,(Instr.index 177 Rs (AE AF 4)).run prog w=.ok (.func (.func 137) #[] #[]) w:=fun _=>by kernel_rfl
 go_enter func66,ntmps66;go_wp2_with fail;obtain ⟨wb,hwb⟩:=Ad ((w.alloc (AO #[AB A1 n1 c1,AB A2 n2 c2,AB A3 n3 c3,AB A4 n4 c4,AB A5 n5 c5,AB A6 n6 c6] 137)).alloc (AO #[AE AF 4,AE AF lo,AE AF hi,AL An,AE AF un,AB B m d] 109));rw [<-hwb];have hbb:AK w wb:=by rw [hwb];exact ((BE _ _).alloc AX _)
 have kA:AZ wb w.heap.size 137 #[AB A1 n1 c1,AB A2 n2 c2,AB A3 n3 c3,AB A4 n4 c4,AB A5 n5 c5,AB A6 n6 c6]:=by rw [hwb];exact (AZ.new _ _ _).alloc _
 have kB:AZ wb (w.heap.size+1) 109 #[AE AF 4,AE AF lo,AE AF hi,AL An,AE AF un,AB B m d]:=by rw [hwb];exact DY AX
 obtain ⟨ga,hga⟩:=Ad w.heap.size;obtain ⟨gb,hgb⟩:=Ad (w.heap.size+1);rw [<-hgb] at kB ⊢;rw [<-hga] at kA ⊢;have HA:=AA kA;have HB:=AA kB;have BG:=AA hbb;have a1:=kA.cell 1;have b0:=kB.cell 0;have b1:=kB.cell 1;have b2:=kB.cell 2;have b3:=kB.cell 3;have b4:=kB.cell 4;have b5:=kB.cell 5;have la:=kA.lt;have lb:=kB.lt;simp only [Ak,Al,Az] at a1 b0 b1 b2 b3 b4 b5;clear kA kB hbb hwb hga hgb
 go_region_held3 (fun w'=>w'.cell? ⟨ga,1,none⟩=some (AB A2 n2 c2)/\w'.cell? ⟨gb,0,none⟩=some (AE AF 4)/\w'.cell? ⟨gb,1,none⟩=some (AE AF lo)/\w'.cell? ⟨gb,2,none⟩=some (AE AF hi)/\w'.cell? ⟨gb,3,none⟩=some (AL An)/\w'.cell? ⟨gb,4,none⟩=some (AE AF un)/\w'.cell? ⟨gb,5,none⟩=some (AB B m d)/\AK wb w')
  (first
   | exact ⟨a1,b0,b1,b2,b3,b4,b5,(Ae _ _).drew⟩
   | exact ⟨(hb.cell (p:=⟨ga,1,none⟩) la).trans a1,(hb.cell (p:=⟨gb,0,none⟩) lb).trans b0,(hb.cell (p:=⟨gb,1,none⟩) lb).trans b1,(hb.cell (p:=⟨gb,2,none⟩) lb).trans b2,(hb.cell (p:=⟨gb,3,none⟩) lb).trans b3,(hb.cell (p:=⟨gb,4,none⟩) lb).trans b4,(hb.cell (p:=⟨gb,5,none⟩) lb).trans b5,(Ae wb.heap.size wb).drew.trans hb⟩
   | exact ⟨((hc.cell (p:=⟨ga,1,none⟩) (Au la hb.size)).trans (hb.cell (p:=⟨ga,1,none⟩) la)).trans a1,((hc.cell (p:=⟨gb,0,none⟩) (Au lb hb.size)).trans (hb.cell (p:=⟨gb,0,none⟩) lb)).trans b0,((hc.cell (p:=⟨gb,1,none⟩) (Au lb hb.size)).trans (hb.cell (p:=⟨gb,1,none⟩) lb)).trans b1,((hc.cell (p:=⟨gb,2,none⟩) (Au lb hb.size)).trans (hb.cell (p:=⟨gb,2,none⟩) lb)).trans b2,((hc.cell (p:=⟨gb,3,none⟩) (Au lb hb.size)).trans (hb.cell (p:=⟨gb,3,none⟩) lb)).trans b3,((hc.cell (p:=⟨gb,4,none⟩) (Au lb hb.size)).trans (hb.cell (p:=⟨gb,4,none⟩) lb)).trans b4,((hc.cell (p:=⟨gb,5,none⟩) (Au lb hb.size)).trans (hb.cell (p:=⟨gb,5,none⟩) lb)).trans b5,((Ae wb.heap.size wb).drew.trans hb).trans (hc.mono hb.size)⟩)
  (first
   | (go_at_call 93;refine (Sj _).mono ?_;rintro e w' ⟨rfl,hb⟩)
   | (go_at_call 137;refine (zq 4 lo hi un An B m d n2 ns _ (HS.o.mono BV (AV BG.o ((Ae wb.heap.size wb).drew.trans hb)))).mono ?_;rintro e w' ⟨rfl,hc⟩))
 go_wp2_with fail;go_ret;refine ⟨Ay ?_,BG.o.trans (Below.mono (((Ae wb.heap.size wb).drew.trans hb).trans (hc.mono hb.size)) BG.o.size)⟩;rw [Lh.o];simp [He]
theorem bd (t:Fa) (B:Option Aa) (m d:Nat) (w:AH) (hn2:n2<=9223372036854775807) (hs:Ag 1 DQ w (AB B m d) t.names):
 AS prog 66 #[(AP #[AB A1 n1 c1,AB A2 n2 c2,AB A3 n3 c3,AB A4 n4 c4,AB A5 n5 c5,AB A6 n6 c6]),AP #[AE AF t.kind,AE AF t.lo,AE AF t.hi,AL t.An,AE AF t.unit,AB B m d]] w fun e w'=>
  e=AU (Ab (He n2 t))/\AK w w':=by
 obtain ⟨kd,lo,hi,An,un,ns⟩:=t;simp only at hs ⊢;by_cases h1:kd=1
 · subst h1;exact pz A1 A2 A3 A4 A5 A6 n1 c1 n2 c2 n3 c3 n4 c4 n5 c5 n6 c6 lo hi un An B m d ns w hn2 hs
 by_cases h2:kd=2
 · subst h2;exact py A1 A2 A3 A4 A5 A6 n1 c1 n2 c2 n3 c3 n4 c4 n5 c5 n6 c6 lo hi un An B m d ns w hn2 hs
 by_cases h3:kd=3
 · subst h3;exact px A1 A2 A3 A4 A5 A6 n1 c1 n2 c2 n3 c3 n4 c4 n5 c5 n6 c6 lo hi un An B m d ns w hn2 hs
 by_cases h4:kd=4
 · subst h4;exact pw A1 A2 A3 A4 A5 A6 n1 c1 n2 c2 n3 c3 n4 c4 n5 c5 n6 c6 lo hi un An B m d ns w hn2 hs
 have hf:He n2 ⟨kd,lo,hi,An,un,ns⟩=false:=by simp [He,h1,h2,h3,h4]
 rw [hf];have hk:¬(1<=kd/\kd<=4):=AG
 clear hf h1 h2 h3 h4 hs;go_enter func66,ntmps66;by_cases hlo:kd < 1
 ·go_wp2_with fail
  go_ret;exact ⟨rfl,((BE _ _).alloc AX _)⟩
 have hhi:4 < kd:=AG
 go_wp2_with fail;go_ret;exact ⟨rfl,((BE _ _).alloc AX _)⟩
def Says {α:Type} (g:Nat) (first cap:Array AN) (R:AH->List AN->α->Prop) (p:α->Bool) (l:List α) (w:AH):Prop:=
 ∀(W:AH) (cs:List AN) (x:α),AK w W->x∈l->R W cs x->AS prog g (first++#[.agg cs.toArray]++cap) W fun e W'=>e=AU (Ab (p x))/\AK W W'
theorem Says.later {α:Type} {g:Nat} {first cap:Array AN} {R:AH->List AN->α->Prop} {p:α->Bool} {l:List α} {w w':AH} (h:Says g first cap R p l w) (hb:AK w w'):Says g first cap R p l w':=
 fun W cs x hW=>h W cs x (AV hb hW)
theorem Says.nil {α:Type} {g:Nat} {first cap:Array AN} {R:AH->List AN->α->Prop} {p:α->Bool} {w:AH}:Says g first cap R p [] w:=fun _ _ _ _ h=>by simp at h
theorem JX {α:Type} {p:α->Bool} {l:List α} {k:Nat} {x:α} (h:l[k]? =some x) (hp:p x=false):l.all p=false:=by rw [List.all_eq_false];exact ⟨x,CS h,by simp [hp]⟩
theorem Dc {α:Type} {p:α->Bool} {l:List α} {k:Nat} {x:α} (h:l[k]? =some x) (hp:p x=true) (ht:(l.take k).all p=true):(l.take (k+1)).all p=true:=by rw [take_snoc h,List.all_append,ht];simp [hp]
theorem qR (cs:List AN) (x:Bt) (p:Bt->Bool) (rc:AN) (B:Nat) (w:AH) (hR:CD w cs x) (hB:B < w.heap.size) (hc:w.cell? ⟨B,0,none⟩=some (.func (.func 107) #[rc] #[]))
 (hf:∀W,AK w W->AS prog 107 (#[rc]++#[.agg cs.toArray]++#[]) W fun e W'=>e=AU (Ab (p x))/\AK W W'):
 AS prog 171 #[.agg cs.toArray,AW (some ⟨B,0,none⟩)] w fun e w'=>e=AU (Ab (!p x))/\AK w w':=by
 obtain rfl:cs=_:=hR;have HF:=AA hf;clear hf;go_enter func171,ntmps171;go_wp2_with (go_at_call 107;refine (HF.o _ (BE _ _)).mono ?_;clear HF);exact bM
theorem j4 (A:Option Aa) (n c:Nat) (l:List Bt) (p:Bt->Bool) (w:AH) (B:Nat) (hl:Ag 5 CD w (AB A n c) l) (hf:Says 171 #[] #[AW (some ⟨B,0,none⟩)] CD (fun x=> !p x) l w):
 AS prog 222 #[AB A n c,.func (.func 171) #[] #[AW (some ⟨B,0,none⟩)]] w fun e w'=>(∃i:Int,e=AU (AE AF i)/\decide (0<=i)= !l.all p)/\AK w w':=by
 have hn2:n<=9223372036854775807:=by have:=hl.le;omega
 have HN:=AA hl.len;have HL:=AA hl;have HF:=AA hf;clear hl hf;go_enter func222,ntmps222;go_wp2_with fail;go_loopg [8] n (fun q i wr=>∃k:Nat,k<=n/\q=n - k/\i=AE AF k/\(l.take k).all p=true/\AK w wr)
 case atStart=>exact Lc
 obtain ⟨k,hk,hq,rfl,hv,hb⟩:=hrel;have HQ:=AA hq;have HB:=AA hb;have HV:=AA hv;clear hq hb hv;by_cases hlt:k < n
 ·obtain ⟨b,off,x,rfl,hbl,hx,e0,e1,e2,e3,e4⟩:=Nn (HL.o.mono Bp HB.o) hlt
  have HX:=AA hx;have hkn:(k:Int) < (n:Int):=AG
  have hk0:=Int.natCast_nonneg k
  have HC:=AA (HF.o wr [AL x.name,AL x.An,AE AF x.factor,AE AF x.base,AE AF x.scale] x HB.o (CS hx) rfl);clear hx;go_wp2_with (go_at_call 171;refine HC.o.mono ?_;clear HC);rintro e w1 rfl hb1;have HB1:=AA (AV HB.o hb1);obtain ⟨v,hv⟩:=BP (p x);have HP:=AA hv;rw [hv];clear hv hb1;cases v with
  |
   true=>
   go_wp2_with fail;go_roundg (n - (k+1))
   case measure=>exact BS
   case rel=>exact ⟨k+1,by omega,rfl,by go_num,Dc HX.o HP.o HV.o,HB1.o⟩
  |
   false=>
   exact Wc
 have HT:AI (l.all p=true):=by have:=HV.o;rw [Cu Gx] at this;exact this
 exact Wb
theorem ai (A:Option Aa) (n c:Nat) (l:List Bt) (p:Bt->Bool) (w:AH) (B:Nat) (hl:Ag 5 CD w (AB A n c) l) (hf:Says 171 #[] #[AW (some ⟨B,0,none⟩)] CD (fun x=> !p x) l w):
 AS prog 170 #[AB A n c,.func (.func 171) #[] #[AW (some ⟨B,0,none⟩)]] w fun e w'=>e=AU (Ab (!l.all p))/\AK w w':=by
 go_enter func170,ntmps170;go_wp2_with fail;refine (j4 A n c l p w B hl hf).mono ?_;exact Wd
theorem qs (A:Option Aa) (n c:Nat) (l:List Bt) (p:Bt->Bool) (w:AH) (rc:AN) (hl:Ag 5 CD w (AB A n c) l) (hf:Says 107 #[rc] #[] CD p l w):
 AS prog 106 #[AB A n c,.func (.func 107) #[rc] #[]] w fun e w'=>e=AU (Ab (l.all p))/\AK w w':=by
 have HL:=AA hl;have HF:=AA hf;clear hl hf;have hmf:∀(fn:Fn) (first cap:Array AN) (w:AH),(Instr.makeFunc fn first cap).run prog w=.ok (.func fn first cap) w:=fun _ _ _ _=>rfl;go_enter func106,ntmps106;go_wp2_with fail;have hal:AK w (w.alloc (AO #[.func (.func 107) #[rc] #[]] 202)):=(Ae _ _).alloc (Ac _) _;have hk:AZ (w.alloc (AO #[.func (.func 107) #[rc] #[]] 202)) w.heap.size 202 #[.func (.func 107) #[rc] #[]]:=AZ.new _ _ _;have hs:w.heap.size < (w.alloc (AO #[.func (.func 107) #[rc] #[]] 202)).heap.size:=AX
 have hc:=hk.cell 0;simp only [Ak,Al] at hc;refine (ai A n c l p _ w.heap.size (HL.o.mono Bp hal) (fun W cs x hW hx hR=> ?_)).mono ?_
 · exact qR cs x p _ w.heap.size W hR (Au hs hW.size) ((hW.cell (p:=⟨w.heap.size,0,none⟩) hs).trans hc) (fun W' hW'=>HF.o W' cs x ((AV hal hW).trans (hW'.mono (BH hal.size hW.size))) hx (Bp _ _ hW' _ _ hR))
 exact bJ
theorem jy (cs:List AN) (x:BL) (p:BL->Bool) (rc:AN) (B:Nat) (w:AH) (hR:BU w cs x) (hB:B < w.heap.size) (hc:w.cell? ⟨B,0,none⟩=some (.func (.func 109) #[rc] #[]))
 (hf:∀W,AK w W->AS prog 109 (#[rc]++#[.agg cs.toArray]++#[]) W fun e W'=>e=AU (Ab (p x))/\AK W W'):
 AS prog 173 #[.agg cs.toArray,AW (some ⟨B,0,none⟩)] w fun e w'=>e=AU (Ab (!p x))/\AK w w':=by
 obtain ⟨A1,n1,c1,A2,n2,c2,rfl,g1,g2⟩:=hR;have HF:=AA hf;clear hf g1 g2;go_enter func173,ntmps173;go_wp2_with (go_at_call 109;refine (HF.o _ (BE _ _)).mono ?_;clear HF);exact bM
theorem cm (A:Option Aa) (n c:Nat) (l:List BL) (p:BL->Bool) (w:AH) (B:Nat) (hl:Ag 6 BU w (AB A n c) l) (hf:Says 173 #[] #[AW (some ⟨B,0,none⟩)] BU (fun x=> !p x) l w):
 AS prog 223 #[AB A n c,.func (.func 173) #[] #[AW (some ⟨B,0,none⟩)]] w fun e w'=>(∃i:Int,e=AU (AE AF i)/\decide (0<=i)= !l.all p)/\AK w w':=by
 have hn2:n<=9223372036854775807:=by have:=hl.le;omega
 have HN:=AA hl.len;have HL:=AA hl;have HF:=AA hf;clear hl hf;go_enter func223,ntmps223;go_wp2_with fail;go_loopg [8] n (fun q i wr=>∃k:Nat,k<=n/\q=n - k/\i=AE AF k/\(l.take k).all p=true/\AK w wr)
 case atStart=>exact Lc
 obtain ⟨k,hk,hq,rfl,hv,hb⟩:=hrel;have HQ:=AA hq;have HB:=AA hb;have HV:=AA hv;clear hq hb hv;by_cases hlt:k < n
 ·obtain ⟨b,off,x,A1,n1,c1,A2,n2,c2,rfl,hbl,hx,e0,e1,e2,e3,e4,e5,g1,g2⟩:=Fx (HL.o.mono BM HB.o) hlt
  have HX:=AA hx;have hkn:(k:Int) < (n:Int):=AG
  have hk0:=Int.natCast_nonneg k
  have HC:=AA (HF.o wr [AL x.name,AL x.FD,AE AF x.Ar,AE AF x.version,AB A1 n1 c1,AB A2 n2 c2] x HB.o (CS hx) ⟨A1,n1,c1,A2,n2,c2,rfl,g1,g2⟩);clear hx g1 g2;go_wp2_with (go_at_call 173;refine HC.o.mono ?_;clear HC);rintro e w1 rfl hb1;have HB1:=AA (AV HB.o hb1);obtain ⟨v,hv⟩:=BP (p x);have HP:=AA hv;rw [hv];clear hv hb1;cases v with
  |
   true=>
   go_wp2_with fail;go_roundg (n - (k+1))
   case measure=>exact BS
   case rel=>exact ⟨k+1,by omega,rfl,by go_num,Dc HX.o HP.o HV.o,HB1.o⟩
  |
   false=>
   exact Wc
 have HT:AI (l.all p=true):=by have:=HV.o;rw [Cu Gx] at this;exact this
 exact Wb
theorem Xk (A:Option Aa) (n c:Nat) (l:List BL) (p:BL->Bool) (w:AH) (B:Nat) (hl:Ag 6 BU w (AB A n c) l) (hf:Says 173 #[] #[AW (some ⟨B,0,none⟩)] BU (fun x=> !p x) l w):
 AS prog 172 #[AB A n c,.func (.func 173) #[] #[AW (some ⟨B,0,none⟩)]] w fun e w'=>e=AU (Ab (!l.all p))/\AK w w':=by
 go_enter func172,ntmps172;go_wp2_with fail;refine (cm A n c l p w B hl hf).mono ?_;exact Wd
theorem kQ (A:Option Aa) (n c:Nat) (l:List BL) (p:BL->Bool) (w:AH) (rc:AN) (hl:Ag 6 BU w (AB A n c) l) (hf:Says 109 #[rc] #[] BU p l w):
 AS prog 108 #[AB A n c,.func (.func 109) #[rc] #[]] w fun e w'=>e=AU (Ab (l.all p))/\AK w w':=by
 have HL:=AA hl;have HF:=AA hf;clear hl hf;have hmf:∀(fn:Fn) (first cap:Array AN) (w:AH),(Instr.makeFunc fn first cap).run prog w=.ok (.func fn first cap) w:=fun _ _ _ _=>rfl;go_enter func108,ntmps108;go_wp2_with fail;have hal:AK w (w.alloc (AO #[.func (.func 109) #[rc] #[]] 204)):=(Ae _ _).alloc (Ac _) _;have hk:AZ (w.alloc (AO #[.func (.func 109) #[rc] #[]] 204)) w.heap.size 204 #[.func (.func 109) #[rc] #[]]:=AZ.new _ _ _;have hs:w.heap.size < (w.alloc (AO #[.func (.func 109) #[rc] #[]] 204)).heap.size:=AX
 have hc:=hk.cell 0;simp only [Ak,Al] at hc;refine (Xk A n c l p _ w.heap.size (HL.o.mono BM hal) (fun W cs x hW hx hR=> ?_)).mono ?_
 · exact jy cs x p _ w.heap.size W hR (Au hs hW.size) ((hW.cell (p:=⟨w.heap.size,0,none⟩) hs).trans hc) (fun W' hW'=>HF.o W' cs x ((AV hal hW).trans (hW'.mono (BH hal.size hW.size))) hx (BM _ _ hW' _ _ hR))
 exact bJ
theorem qS (cs:List AN) (x:Ce) (p:Ce->Bool) (pc:Aa) (B:Nat) (w:AH) (hR:CF w cs x) (hB:B < w.heap.size) (hc:w.cell? ⟨B,0,none⟩=some (.func (.func 104) #[] #[AW (some pc)]))
 (hf:∀W,AK w W->AS prog 104 (#[]++#[.agg cs.toArray]++#[AW (some pc)]) W fun e W'=>e=AU (Ab (p x))/\AK W W'):
 AS prog 175 #[.agg cs.toArray,AW (some ⟨B,0,none⟩)] w fun e w'=>e=AU (Ab (!p x))/\AK w w':=by
 obtain ⟨A1,n1,c1,A2,n2,c2,A3,n3,c3,rfl,g1,g2,g3⟩:=hR;have HF:=AA hf;clear hf g1 g2 g3;go_enter func175,ntmps175;go_wp2_with (go_at_call 104;refine (HF.o _ (BE _ _)).mono ?_;clear HF);exact bM
theorem j5 (A:Option Aa) (n c:Nat) (l:List Ce) (p:Ce->Bool) (w:AH) (B:Nat) (hl:Ag 5 CF w (AB A n c) l) (hf:Says 175 #[] #[AW (some ⟨B,0,none⟩)] CF (fun x=> !p x) l w):
 AS prog 224 #[AB A n c,.func (.func 175) #[] #[AW (some ⟨B,0,none⟩)]] w fun e w'=>(∃i:Int,e=AU (AE AF i)/\decide (0<=i)= !l.all p)/\AK w w':=by
 have hn2:n<=9223372036854775807:=by have:=hl.le;omega
 have HN:=AA hl.len;have HL:=AA hl;have HF:=AA hf;clear hl hf;go_enter func224,ntmps224;go_wp2_with fail;go_loopg [8] n (fun q i wr=>∃k:Nat,k<=n/\q=n - k/\i=AE AF k/\(l.take k).all p=true/\AK w wr)
 case atStart=>exact Lc
 obtain ⟨k,hk,hq,rfl,hv,hb⟩:=hrel;have HQ:=AA hq;have HB:=AA hb;have HV:=AA hv;clear hq hb hv;by_cases hlt:k < n
 ·obtain ⟨b,off,x,A1,n1,c1,A2,n2,c2,A3,n3,c3,rfl,hbl,hx,e0,e1,e2,e3,e4,g1,g2,g3⟩:=Ps (HL.o.mono Be HB.o) hlt
  have HX:=AA hx;have hkn:(k:Int) < (n:Int):=AG
  have hk0:=Int.natCast_nonneg k
  have HC:=AA (HF.o wr [AL x.head,AE AF x.schema,AB A1 n1 c1,AB A2 n2 c2,AB A3 n3 c3] x HB.o (CS hx) ⟨A1,n1,c1,A2,n2,c2,A3,n3,c3,rfl,g1,g2,g3⟩);clear hx g1 g2 g3;go_wp2_with (go_at_call 175;refine HC.o.mono ?_;clear HC);rintro e w1 rfl hb1;have HB1:=AA (AV HB.o hb1);obtain ⟨v,hv⟩:=BP (p x);have HP:=AA hv;rw [hv];clear hv hb1;cases v with
  |
   true=>
   go_wp2_with fail;go_roundg (n - (k+1))
   case measure=>exact BS
   case rel=>exact ⟨k+1,by omega,rfl,by go_num,Dc HX.o HP.o HV.o,HB1.o⟩
  |
   false=>
   exact Wc
 have HT:AI (l.all p=true):=by have:=HV.o;rw [Cu Gx] at this;exact this
 exact Wb
theorem aj (A:Option Aa) (n c:Nat) (l:List Ce) (p:Ce->Bool) (w:AH) (B:Nat) (hl:Ag 5 CF w (AB A n c) l) (hf:Says 175 #[] #[AW (some ⟨B,0,none⟩)] CF (fun x=> !p x) l w):
 AS prog 174 #[AB A n c,.func (.func 175) #[] #[AW (some ⟨B,0,none⟩)]] w fun e w'=>e=AU (Ab (!l.all p))/\AK w w':=by
 go_enter func174,ntmps174;go_wp2_with fail;refine (j5 A n c l p w B hl hf).mono ?_;exact Wd
theorem qt (A:Option Aa) (n c:Nat) (l:List Ce) (p:Ce->Bool) (w:AH) (pc:Aa) (hl:Ag 5 CF w (AB A n c) l) (hf:Says 104 #[] #[AW (some pc)] CF p l w):
 AS prog 110 #[AB A n c,.func (.func 104) #[] #[AW (some pc)]] w fun e w'=>e=AU (Ab (l.all p))/\AK w w':=by
 have HL:=AA hl;have HF:=AA hf;clear hl hf;have hmf:∀(fn:Fn) (first cap:Array AN) (w:AH),(Instr.makeFunc fn first cap).run prog w=.ok (.func fn first cap) w:=fun _ _ _ _=>rfl;go_enter func110,ntmps110;go_wp2_with fail;have hal:AK w (w.alloc (AO #[.func (.func 104) #[] #[AW (some pc)]] 198)):=(Ae _ _).alloc (Ac _) _;have hk:AZ (w.alloc (AO #[.func (.func 104) #[] #[AW (some pc)]] 198)) w.heap.size 198 #[.func (.func 104) #[] #[AW (some pc)]]:=AZ.new _ _ _;have hs:w.heap.size < (w.alloc (AO #[.func (.func 104) #[] #[AW (some pc)]] 198)).heap.size:=AX
 have hc:=hk.cell 0;simp only [Ak,Al] at hc;refine (aj A n c l p _ w.heap.size (HL.o.mono Be hal) (fun W cs x hW hx hR=> ?_)).mono ?_
 · exact qS cs x p _ w.heap.size W hR (Au hs hW.size) ((hW.cell (p:=⟨w.heap.size,0,none⟩) hs).trans hc) (fun W' hW'=>HF.o W' cs x ((AV hal hW).trans (hW'.mono (BH hal.size hW.size))) hx (Be _ _ hW' _ _ hR))
 exact bJ
theorem fZ (cs:List AN) (x:Cd) (p:Cd->Bool) (rc:AN) (B:Nat) (w:AH) (hR:BW w cs x) (hB:B < w.heap.size) (hc:w.cell? ⟨B,0,none⟩=some (.func (.func 112) #[rc] #[]))
 (hf:∀W,AK w W->AS prog 112 (#[rc]++#[.agg cs.toArray]++#[]) W fun e W'=>e=AU (Ab (p x))/\AK W W'):
 AS prog 176 #[.agg cs.toArray,AW (some ⟨B,0,none⟩)] w fun e w'=>e=AU (Ab (!p x))/\AK w w':=by
 obtain ⟨A1,n1,c1,rfl,g1⟩:=hR;have HF:=AA hf;clear hf g1;go_enter func176,ntmps176;go_wp2_with (go_at_call 112;refine (HF.o _ (BE _ _)).mono ?_;clear HF);exact bM
theorem aG (A:Option Aa) (n c:Nat) (l:List Cd) (p:Cd->Bool) (w:AH) (B:Nat) (hl:Ag 3 BW w (AB A n c) l) (hf:Says 176 #[] #[AW (some ⟨B,0,none⟩)] BW (fun x=> !p x) l w):
 AS prog 218 #[AB A n c,.func (.func 176) #[] #[AW (some ⟨B,0,none⟩)]] w fun e w'=>(∃i:Int,e=AU (AE AF i)/\decide (0<=i)= !l.all p)/\AK w w':=by
 have hn2:n<=9223372036854775807:=by have:=hl.le;omega
 have HN:=AA hl.len;have HL:=AA hl;have HF:=AA hf;clear hl hf;go_enter func218,ntmps218;go_wp2_with fail;go_loopg [8] n (fun q i wr=>∃k:Nat,k<=n/\q=n - k/\i=AE AF k/\(l.take k).all p=true/\AK w wr)
 case atStart=>exact Lc
 obtain ⟨k,hk,hq,rfl,hv,hb⟩:=hrel;have HQ:=AA hq;have HB:=AA hb;have HV:=AA hv;clear hq hb hv;by_cases hlt:k < n
 ·obtain ⟨b,off,x,A1,n1,c1,rfl,hbl,hx,e0,e1,e2,g1⟩:=Lw (HL.o.mono BO HB.o) hlt
  have HX:=AA hx;have hkn:(k:Int) < (n:Int):=AG
  have hk0:=Int.natCast_nonneg k
  have HC:=AA (HF.o wr [AL x.name,AB A1 n1 c1,AE AF x.most] x HB.o (CS hx) ⟨A1,n1,c1,rfl,g1⟩);clear hx g1;go_wp2_with (go_at_call 176;refine HC.o.mono ?_;clear HC);rintro e w1 rfl hb1;have HB1:=AA (AV HB.o hb1);obtain ⟨v,hv⟩:=BP (p x);have HP:=AA hv;rw [hv];clear hv hb1;cases v with
  |
   true=>
   go_wp2_with fail;go_roundg (n - (k+1))
   case measure=>exact BS
   case rel=>exact ⟨k+1,by omega,rfl,by go_num,Dc HX.o HP.o HV.o,HB1.o⟩
  |
   false=>
   exact Wc
 have HT:AI (l.all p=true):=by have:=HV.o;rw [Cu Gx] at this;exact this
 exact Wb
theorem WZ (A:Option Aa) (n c:Nat) (l:List Cd) (p:Cd->Bool) (w:AH) (B:Nat) (hl:Ag 3 BW w (AB A n c) l) (hf:Says 176 #[] #[AW (some ⟨B,0,none⟩)] BW (fun x=> !p x) l w):
 AS prog 164 #[AB A n c,.func (.func 176) #[] #[AW (some ⟨B,0,none⟩)]] w fun e w'=>e=AU (Ab (!l.all p))/\AK w w':=by
 go_enter func164,ntmps164;go_wp2_with fail;refine (aG A n c l p w B hl hf).mono ?_;exact Wd
theorem gT (A:Option Aa) (n c:Nat) (l:List Cd) (p:Cd->Bool) (w:AH) (rc:AN) (hl:Ag 3 BW w (AB A n c) l) (hf:Says 112 #[rc] #[] BW p l w):
 AS prog 111 #[AB A n c,.func (.func 112) #[rc] #[]] w fun e w'=>e=AU (Ab (l.all p))/\AK w w':=by
 have HL:=AA hl;have HF:=AA hf;clear hl hf;have hmf:∀(fn:Fn) (first cap:Array AN) (w:AH),(Instr.makeFunc fn first cap).run prog w=.ok (.func fn first cap) w:=fun _ _ _ _=>rfl;go_enter func111,ntmps111;go_wp2_with fail;have hal:AK w (w.alloc (AO #[.func (.func 112) #[rc] #[]] 207)):=(Ae _ _).alloc (Ac _) _;have hk:AZ (w.alloc (AO #[.func (.func 112) #[rc] #[]] 207)) w.heap.size 207 #[.func (.func 112) #[rc] #[]]:=AZ.new _ _ _;have hs:w.heap.size < (w.alloc (AO #[.func (.func 112) #[rc] #[]] 207)).heap.size:=AX
 have hc:=hk.cell 0;simp only [Ak,Al] at hc;refine (WZ A n c l p _ w.heap.size (HL.o.mono BO hal) (fun W cs x hW hx hR=> ?_)).mono ?_
 · exact fZ cs x p _ w.heap.size W hR (Au hs hW.size) ((hW.cell (p:=⟨w.heap.size,0,none⟩) hs).trans hc) (fun W' hW'=>HF.o W' cs x ((AV hal hW).trans (hW'.mono (BH hal.size hW.size))) hx (BO _ _ hW' _ _ hR))
 exact bJ
theorem AH3 {a b c d:Int}:([a,b,c,d]:AQ).all Db=(Db a && (Db b && (Db c && Db d))):=by simp
theorem mC (
 A1 A2 A3 A4 A5 A6:Option Aa) (n1 c1 n2 c2 n3 c3 n4 c4 n5 c5 n6 c6:Nat) (s:BL) (fA dA:Option Aa) (nf cf nd cd:Nat) (w:AH) (_hn1:n1<=9223372036854775807) (hn2:n2<=9223372036854775807) (hf:Ag 11 EU w (AB fA nf cf) s.fields):
 AS prog 109 #[(AP #[AB A1 n1 c1,AB A2 n2 c2,AB A3 n3 c3,AB A4 n4 c4,AB A5 n5 c5,AB A6 n6 c6]),AP #[AL s.name,AL s.FD,AE AF s.Ar,AE AF s.version,AB fA nf cf,AB dA nd cd]] w fun e w'=>
  e=AU (Ab (Dn n1 n2 s))/\AK w w':=by
 have hnf:nf<=9223372036854775807:=by have:=hf.le;omega
 have hlen:=hf.len;have HF:=AA hf;clear hf;by_cases hG:0<=s.Ar/\s.Ar < n1/\1<=s.version/\s.version<=255/\1<=nf/\nf<=12
 case neg=>
  have hfl:Dn n1 n2 s=false:=by
   cases h:Dn n1 n2 s with
   | false=>rfl
   |
    true=>
    simp only [Dn,Bj,B8] at h;omega
  rw [hfl];have HLEN:=AA hlen;clear hfl hlen;by_cases hnz:1<=nf
  ·obtain ⟨b,off,x,B1,m1,d1,rfl,hbl,hx,e0,e1,e2,e3,e4,e5,e6,e7,e8,e9,e10,g1⟩:=IQ HF.o (k:=0) AG
   clear hx g1;go_enter func109,ntmps109;go_wp2_with fail
   all_goals first
    | (exfalso;omega)
    | (go_ret;exact ⟨rfl,((BE _ _).alloc AX _)⟩)
  obtain rfl:nf=0:=AG
  go_enter func109,ntmps109;go_wp2_with fail
  all_goals first
   | (exfalso;omega)
   | (go_ret;exact ⟨rfl,((BE _ _).alloc AX _)⟩)
 obtain ⟨i0,i1,v0,v1,l0,l1⟩:=hG;obtain ⟨b0,o0,x0,C1,p1,q1,rfl,AJS,hx0,z0,z1,z2,z3,z4,z5,z6,z7,z8,z9,z10,y1⟩:=IQ HF.o (k:=0) AG;by_cases hk3:x0.type.kind=3
 case neg=>
  have hfl:Dn n1 n2 s=false:=by simp [Dn,hx0,hk3]
  rw [hfl];have hkb:(x0.type.kind !=3)=true:=by simp [hk3]
  clear hfl hx0 y1 hlen;go_enter func109,ntmps109;go_wp2_with fail
  all_goals first
   | (exfalso;omega)
   | (go_ret;exact ⟨rfl,((BE _ _).alloc AX _)⟩)
 have hfl:Dn n1 n2 s=s.fields.all (Jv n2):=by simp [Dn,hx0,hk3,i0,i1,v0,v1,<-hlen,l0,l1]
 rw [hfl];clear hfl hx0 y1;have HLEN:=AA hlen;clear hlen;go_enter func109,ntmps109;go_wp2_with fail;clear z0 z1 z2 z3 z4 z5 z6 z7 z8 z9 z10;obtain ⟨wb,hwb⟩:=Ad ((w.alloc (AO #[AB A1 n1 c1,AB A2 n2 c2,AB A3 n3 c3,AB A4 n4 c4,AB A5 n5 c5,AB A6 n6 c6] 137)).alloc (AO #[AL s.name,AL s.FD,AE AF s.Ar,AE AF s.version,AB (some ⟨b0,o0,none⟩) nf cf,AB dA nd cd] 85));rw [<-hwb];have hbb:AK w wb:=by rw [hwb];exact ((BE _ _).alloc AX _)
 have kA:AZ wb w.heap.size 137 #[AB A1 n1 c1,AB A2 n2 c2,AB A3 n3 c3,AB A4 n4 c4,AB A5 n5 c5,AB A6 n6 c6]:=by rw [hwb];exact (AZ.new _ _ _).alloc _
 obtain ⟨ga,hga⟩:=Ad w.heap.size;rw [<-hga] at kA ⊢;have la:=kA.lt;have HA:=AA kA;have BG:=AA hbb;clear kA hbb hwb hga;go_loopg [55] nf (fun q i wr=>∃k:Nat,k<=nf/\q=nf - k/\i=AE AF k/\(s.fields.take k).all (Jv n2)=true/\AK wb wr)
 case atStart=>exact Lc
 obtain ⟨k,hk,hq,rfl,hv,hb⟩:=hrel;have HQ:=AA hq;have C4:=AA hb;have HV:=AA hv;have kA:=HA.o.below hb la;have lar:=kA.lt;have a0:=kA.cell 0;have a1:=kA.cell 1;have a2:=kA.cell 2;have a3:=kA.cell 3;have a4:=kA.cell 4;have a5:=kA.cell 5;simp only [Ak,Al,Az] at a0 a1 a2 a3 a4 a5;clear kA hq hb hv;by_cases hlt:k < nf
 ·obtain ⟨b,off,x,B1,m1,d1,iz,hbl,hx,e0,e1,e2,e3,e4,e5,e6,e7,e8,e9,e10,g1⟩:=IQ (HF.o.mono Cy (AV BG.o C4.o)) hlt
  obtain ⟨rfl,rfl⟩:b0=b/\o0=off:=by simpa using iz
  have HX:=AA hx;have G1:=AA g1;have hkn:(k:Int) < (nf:Int):=AG
  have hk0:=Int.natCast_nonneg k
  clear hx g1 iz;go_wp2_with (go_at_call 66;refine (bd A1 A2 A3 A4 A5 A6 n1 c1 n2 c2 n3 c3 n4 c4 n5 c5 n6 c6 x.type B1 m1 d1 _ hn2 (G1.o.1.mono BV (BE _ _))).mono ?_);rintro e w1 ⟨rfl,hb1⟩;have HB1:=AA (AV C4.o ((BE _ _).trans (hb1.mono AX)));obtain ⟨tv,htv⟩:=BP (He n2 x.type);have HTV:=AA htv;rw [htv];have f0:=(hb1.cell (p:=⟨wr.heap.size,7,none⟩) AX);have f1:=(hb1.cell (p:=⟨wr.heap.size,8,none⟩) AX);have f2:=(hb1.cell (p:=⟨wr.heap.size,9,none⟩) AX);have f3:=(hb1.cell (p:=⟨wr.heap.size,10,none⟩) AX);simp only [World.cell?_alloc_at,Ak,Al,Az] at f0 f1 f2 f3;have hz:wr.heap.size < w1.heap.size:=by have:=hb1.size;simp at this;omega
  clear htv hb1 e0 e1 e2 e3 e4 e5 e6 e7 e8 e9 e10 a0 a1 a2 a3 a4 a5;cases tv with
  |
   false=>
   go_wp2_with fail;go_ret;exact ⟨Ay (JX HX.o (by simp [Jv,HTV.o])).symm,AV BG.o HB1.o⟩
  |
   true=>
   have hi0:∀w:AH,(Instr.index 110 (AP #[AE AF x.w0,AE AF x.w1,AE AF x.w2,AE AF x.w3]) (AE AF 0)).run prog w=.ok (AE AF x.w0) w:=fun _=>by kernel_rfl
   have hi1:∀w:AH,(Instr.index 110 (AP #[AE AF x.w0,AE AF x.w1,AE AF x.w2,AE AF x.w3]) (AE AF 1)).run prog w=.ok (AE AF x.w1) w:=fun _=>by kernel_rfl
   have hi2:∀w:AH,(Instr.index 110 (AP #[AE AF x.w0,AE AF x.w1,AE AF x.w2,AE AF x.w3]) (AE AF 2)).run prog w=.ok (AE AF x.w2) w:=fun _=>by kernel_rfl
   have hi3:∀w:AH,(Instr.index 110 (AP #[AE AF x.w0,AE AF x.w1,AE AF x.w2,AE AF x.w3]) (AE AF 3)).run prog w=.ok (AE AF x.w3) w:=fun _=>by kernel_rfl
   go_wp2_with fail;go_loopg [66] 4 (fun q i wq=>∃j:Nat,j<=4/\q=4 - j/\i=AE AF j/\(([x.w0,x.w1,x.w2,x.w3]:AQ).take j).all Db=true/\wq=w1)
   case atStart=>exact ⟨0,Av _,rfl,rfl,rfl,rfl⟩
   obtain ⟨j,hj,hq,rfl,hv,rfl⟩:=hrel;have Io:=AA hq;have Dw:=AA hv;clear hq hv;by_cases hj4:j < 4
   ·obtain h0 | h0 | h0 | h0:j=0\/j=1\/j=2\/j=3:=by omega
    ·subst h0
     by_cases hwk:0<=x.w0/\x.w0<=9
     ·obtain ⟨hwa,hwb⟩:=hwk
      go_wp2_with fail;go_roundg (4 - (0+1))
      case measure=>exact Jw
      case rel=>exact ⟨0+1,by omega,rfl,by go_num,by have:=Dw.o;simp [Db] at this ⊢;simp [*],rfl⟩
     go_wp2_with fail
     all_goals
      go_ret;exact ⟨Ay (JX HX.o (by
       have hw0:Db x.w0=false:=by simp only [Db,Mw,Mx];omega
       simp [Jv,hw0])).symm,AV BG.o HB1.o⟩
    ·subst h0
     by_cases hwk:0<=x.w1/\x.w1<=9
     ·obtain ⟨hwa,hwb⟩:=hwk
      go_wp2_with fail;go_roundg (4 - (1+1))
      case measure=>exact Jw
      case rel=>exact ⟨1+1,by omega,rfl,by go_num,by have:=Dw.o;simp [Db] at this ⊢;simp [*],rfl⟩
     go_wp2_with fail
     all_goals
      go_ret;exact ⟨Ay (JX HX.o (by
       have hw0:Db x.w1=false:=by simp only [Db,Mw,Mx];omega
       simp [Jv,hw0])).symm,AV BG.o HB1.o⟩
    ·subst h0
     by_cases hwk:0<=x.w2/\x.w2<=9
     ·obtain ⟨hwa,hwb⟩:=hwk
      go_wp2_with fail;go_roundg (4 - (2+1))
      case measure=>exact Jw
      case rel=>exact ⟨2+1,by omega,rfl,by go_num,by have:=Dw.o;simp [Db] at this ⊢;simp [*],rfl⟩
     go_wp2_with fail
     all_goals
      go_ret;exact ⟨Ay (JX HX.o (by
       have hw0:Db x.w2=false:=by simp only [Db,Mw,Mx];omega
       simp [Jv,hw0])).symm,AV BG.o HB1.o⟩
    subst h0;by_cases hwk:0<=x.w3/\x.w3<=9
    ·obtain ⟨hwa,hwb⟩:=hwk
     go_wp2_with fail;go_roundg (4 - (3+1))
     case measure=>exact Jw
     case rel=>exact ⟨3+1,by omega,rfl,by go_num,by have:=Dw.o;simp [Db] at this ⊢;simp [*],rfl⟩
    go_wp2_with fail
    all_goals
     go_ret;exact ⟨Ay (JX HX.o (by
      have hw0:Db x.w3=false:=by simp only [Db,Mw,Mx];omega
      simp [Jv,hw0])).symm,AV BG.o HB1.o⟩
   obtain rfl:j=4:=AG
   have je:AI (Jv n2 x=true):=AA (by have:=Dw.o;rw [Cu AX,AH3] at this;simp [Jv,HTV.o,this])
   go_wp2_with fail;go_roundg (nf - (k+1))
   case measure=>exact BS
   case rel=>exact ⟨k+1,by omega,rfl,by go_num,Dc HX.o je.o HV.o,HB1.o⟩
 have HT:AI (s.fields.all (Jv n2)=true):=by have:=HV.o;rw [Cu Pf] at this;exact this
 go_wp2_with fail;go_ret;exact ⟨Ay HT.o.symm,AV BG.o C4.o⟩
def typeAt (ss:List BL) (s f:Int):Option Fa:=
 if s < 0\/f < 0 then none else (ss[s.toNat]?).bind fun x=>(x.fields[f.toNat]?).map fun y=>y.type
def FY (ss:List BL) (p:Cd):Bool:=p.may.all (fun r=>(typeAt ss r.schema r.field).isSome) && decide (0<=p.most) && decide (p.most<=64)
def isNum (t:Du):Bool:=decide (t.var= -1) && decide (0<=t.n) && decide (t.n<=1048576)
def Fp (ss:List BL) (froms:List B0) (t:Du) (vars:Nat):Option Fa:=
 if t.var < 0\/(vars:Int)<=t.var then none else (froms[t.var.toNat]?).bind fun f=>typeAt ss f.schema t.field
def QX (us:List Bt) (u:Int):Int:=((us[u.toNat]?).map fun x=>x.base).getD 0
def Ky (us:List Bt) (a b:Fa):Bool:=
 if a.kind≠b.kind then false
 else if a.kind=4 then decide (a.names=b.names)
 else if a.kind≠1\/a.unit= -1\/b.unit= -1 then decide (a.unit=b.unit)
 else decide (QX us a.unit=QX us b.unit)
def MX (ss:List BL) (froms:List B0) (i:Nat) (f:B0):Bool:=
 decide (0<=f.schema) && decide (f.schema < ss.length) && (decide (f.An.var= -1) || (Fp ss froms f.An i).any fun t=>decide (t.kind=3))
def Hw (ss:List BL) (froms:List B0):Bool:=
 decide (1<=froms.length) && decide (froms.length<=3) && (List.range froms.length).all fun i=>(froms[i]?).any fun f=>MX ss froms i f
def Nr (t:Fa):Bool:=decide (t.kind=1) || decide (t.kind=2)
def Md (us:List Bt) (ss:List BL) (froms:List B0) (a:IL):Bool:=
 let x:=Fp ss froms a.a froms.length
 let y:=Fp ss froms a.b froms.length
 decide (1<=a.op) && decide (a.op<=4) && (x.isSome || isNum a.a) && (y.isSome || isNum a.b) && (x.isSome || y.isSome) &&
  (match x,y with | some s,some t=>Ky us s t | _,_=>true) &&
  (!(decide (a.op=2) || decide (a.op=3)) || ((x.all Nr) && y.all Nr))
def VW (ss:List BL) (froms:List B0) (f:Fa) (t:Du):Bool:=
 if isNum t then decide (f.lo<=t.n) && decide (t.n<=f.hi)
 else (Fp ss froms t froms.length).any fun y=>decide (y.kind=f.kind) && decide (y.unit=f.unit) && decide (y.names=f.names) && decide (f.lo<=y.lo) && decide (y.lo<=f.hi) && decide (f.lo<=y.hi) && decide (y.hi<=f.hi)
def Ks (ss:List BL) (froms:List B0) (head:Int) (s:L0):Bool:=
 (typeAt ss head s.field).any fun f=>decide (s.field≠0) && VW ss froms f s.term
def Iw (us:List Bt) (ss:List BL) (r:Ce):Bool:=
 Hw ss r.froms && decide (r.Cr.length<=8) && r.Cr.all (Md us ss r.froms) && decide (0<=r.schema) && ((ss[r.schema.toNat]?).any fun h=>decide (r.sets.length+1=h.fields.length)) &&
  r.sets.all (Ks ss r.froms r.schema) && Dk [] (r.sets.map fun s=>s.field)
def E9 (s:BB):Int:=
 if !FC s then 2
 else if s.units.all (MJ s.units) && s.Ap.all (Dn s.Bg.length s.units.length) && s.rules.all (Iw s.units s.Ap) && s.purposes.all (FY s.Ap) then 0
 else 120
theorem nH (A:Option Aa) (n c:Nat) (l:List Cd) (p:Cd->Bool) (w:AH) (hl:Ag 3 BW w (AB A n c) l) (hf:Says 165 #[] #[] BW (fun x=> !p x) l w):
 AS prog 218 #[AB A n c,.func (.func 165) #[] #[]] w fun e w'=>(∃i:Int,e=AU (AE AF i)/\decide (0<=i)= !l.all p)/\AK w w':=by
 have hn2:n<=9223372036854775807:=by have:=hl.le;omega
 have HN:=AA hl.len;have HL:=AA hl;have HF:=AA hf;clear hl hf;go_enter func218,ntmps218;go_wp2_with fail;go_loopg [8] n (fun q i wr=>∃k:Nat,k<=n/\q=n - k/\i=AE AF k/\(l.take k).all p=true/\AK w wr)
 case atStart=>exact Lc
 obtain ⟨k,hk,hq,rfl,hv,hb⟩:=hrel;have HQ:=AA hq;have HB:=AA hb;have HV:=AA hv;clear hq hb hv;by_cases hlt:k < n
 ·obtain ⟨b,off,x,A1,n1,c1,rfl,hbl,hx,e0,e1,e2,g1⟩:=Lw (HL.o.mono BO HB.o) hlt
  have HX:=AA hx;have hkn:(k:Int) < (n:Int):=AG
  have hk0:=Int.natCast_nonneg k
  have HC:=AA (HF.o wr [AL x.name,AB A1 n1 c1,AE AF x.most] x HB.o (CS hx) ⟨A1,n1,c1,rfl,g1⟩);clear hx g1;go_wp2_with (go_at_call 165;refine HC.o.mono ?_;clear HC);rintro e w1 rfl hb1;have HB1:=AA (AV HB.o hb1);obtain ⟨v,hv⟩:=BP (p x);have HP:=AA hv;rw [hv];clear hv hb1;cases v with
  |
   true=>
   go_wp2_with fail;go_roundg (n - (k+1))
   case measure=>exact BS
   case rel=>exact ⟨k+1,by omega,rfl,by go_num,Dc HX.o HP.o HV.o,HB1.o⟩
  |
   false=>
   exact Wc
 have HT:AI (l.all p=true):=by have:=HV.o;rw [Cu Gx] at this;exact this
 exact Wb
theorem Ss (A:Option Aa) (n c:Nat) (l:List Cd) (p:Cd->Bool) (w:AH) (hl:Ag 3 BW w (AB A n c) l) (hf:Says 165 #[] #[] BW (fun x=> !p x) l w):
 AS prog 164 #[AB A n c,.func (.func 165) #[] #[]] w fun e w'=>e=AU (Ab (!l.all p))/\AK w w':=by
 go_enter func164,ntmps164;go_wp2_with fail;refine (nH A n c l p w hl hf).mono ?_;exact Wd
theorem nB (cs:List AN) (x:Cd) (w:AH) (hR:BW w cs x):
 AS prog 165 #[.agg cs.toArray] w fun e w'=>e=AU (Ab (!decide (x.may.length<=64)))/\AK w w':=by
 obtain ⟨A1,n1,c1,rfl,g1⟩:=hR;have hl:=AA g1.1.len;clear g1;go_enter func165,ntmps165;go_wp2_with fail;go_ret;refine ⟨Ay ?_,(BE _ _)⟩;have:=hl.o;by_cases h:x.may.length<=64
 · rw [BR h];simp;omega
 · rw [Bc h];simp;omega
theorem qX (s:BB) (w:AH) (h1:n1=s.Bg.length) (h2:n2=s.units.length) (h3:n3=s.Ap.length) (h4:n4=s.rules.length) (h5:n5=s.converts.length) (h6:Ag 3 BW w (AB A6 n6 c6) s.purposes):
 AS prog 103 #[(AP #[AB A1 n1 c1,AB A2 n2 c2,AB A3 n3 c3,AB A4 n4 c4,AB A5 n5 c5,AB A6 n6 c6])] w fun e w'=>e=AU (Ab (FC s))/\AK w w':=by
 have H6:=AA h6;have hn6:=h6.len;clear h6;by_cases hG:n1<=8/\n2<=64/\n3<=16/\n4<=16/\n5<=16/\n6<=8
 ·have hf:FC s=s.purposes.all fun p=>decide (p.may.length<=64):=by
   obtain ⟨q1,q2,q3,q4,q5,q6⟩:=hG;simp [FC,<-h1,<-h2,<-h3,<-h4,<-h5,<-hn6,q1,q2,q3,q4,q5,q6]
  rw [hf];obtain ⟨q1,q2,q3,q4,q5,q6⟩:=hG;clear hf h1 h2 h3 h4 h5 hn6;go_enter func103,ntmps103;go_wp2_with (go_at_call 164;refine (Ss A6 n6 c6 s.purposes (fun p=>decide (p.may.length<=64)) _ (H6.o.mono BO (BE _ _)) (fun W cs x hW hx hR=>nB cs x W hR)).mono ?_);rintro e w1 ⟨rfl,hb1⟩;have HB1:=AA ((BE _ _).trans (hb1.mono AX));clear hb1;go_wp2_with fail;go_ret;exact ⟨Ay AX,HB1.o⟩
 have hf:FC s=false:=by
  cases h:FC s with
  | false=>rfl
  |
   true=>
   simp only [FC,Bj,B8] at h;omega
 rw [hf];clear hf h1 h2 h3 h4 h5 hn6;go_enter func103,ntmps103;go_wp2_with (go_at_call 164;refine (Ss A6 n6 c6 s.purposes (fun p=>decide (p.may.length<=64)) _ (H6.o.mono BO (BE _ _)) (fun W cs x hW hx hR=>nB cs x W hR)).mono ?_)
 all_goals first
  | (exfalso;omega)
  | (go_ret;exact ⟨rfl,(BE _ _)⟩)
theorem uM {s:BB} (h:FC s=false):E9 s=2:=by simp [E9,h]
theorem AAs {s:BB} (h:FC s=true) (e:s.units.all (MJ s.units)=false):E9 s=120:=by simp only [E9,h,e];rfl
theorem AAt {s:BB} (h:FC s=true) (e1:s.units.all (MJ s.units)=true) (e:s.Ap.all (Dn s.Bg.length s.units.length)=false):E9 s=120:=by simp only [E9,h,e1,e];rfl
theorem AAu {s:BB} (h:FC s=true) (e1:s.units.all (MJ s.units)=true) (e2:s.Ap.all (Dn s.Bg.length s.units.length)=true) (e:s.rules.all (Iw s.units s.Ap)=false):E9 s=120:=by simp only [E9,h,e1,e2,e];rfl
theorem AAv {s:BB} (h:FC s=true) (e1:s.units.all (MJ s.units)=true) (e2:s.Ap.all (Dn s.Bg.length s.units.length)=true) (e3:s.rules.all (Iw s.units s.Ap)=true) (e:s.purposes.all (FY s.Ap)=false):E9 s=120:=by simp only [E9,h,e1,e2,e3,e];rfl
theorem yg {s:BB} (h:FC s=true) (e1:s.units.all (MJ s.units)=true) (e2:s.Ap.all (Dn s.Bg.length s.units.length)=true) (e3:s.rules.all (Iw s.units s.Ap)=true) (e4:s.purposes.all (FY s.Ap)=true):E9 s=0:=by simp only [E9,h,e1,e2,e3,e4];rfl
theorem V6 (s:BB) (w:AH) (h1:Ag 1 DQ w (AB A1 n1 c1) s.Bg) (h2:Ag 5 CD w (AB A2 n2 c2) s.units) (h3:Ag 6 BU w (AB A3 n3 c3) s.Ap) (h4:Ag 5 CF w (AB A4 n4 c4) s.rules) (h5:n5=s.converts.length) (h6:Ag 3 BW w (AB A6 n6 c6) s.purposes)
 (hr:s.Ap.all (Dn s.Bg.length s.units.length)=true->∀(W:AH) (g:Nat),AK w W->AZ W g 137 #[AB A1 n1 c1,AB A2 n2 c2,AB A3 n3 c3,AB A4 n4 c4,AB A5 n5 c5,AB A6 n6 c6]->Says 104 #[] #[AW (some ⟨g,0,none⟩)] CF (Iw s.units s.Ap) s.rules W)
 (hp:∀(W:AH),AK w W->Says 112 #[(AP #[AB A1 n1 c1,AB A2 n2 c2,AB A3 n3 c3,AB A4 n4 c4,AB A5 n5 c5,AB A6 n6 c6])] #[] BW (FY s.Ap) s.purposes W):
 AS prog 75 #[(AP #[AB A1 n1 c1,AB A2 n2 c2,AB A3 n3 c3,AB A4 n4 c4,AB A5 n5 c5,AB A6 n6 c6])] w fun e w'=>e=AU (AE AF (E9 s))/\AK w w':=by
 have HMF:AI (∀(fn:Fn) (first cap:Array AN) (w:AH),(Instr.makeFunc fn first cap).run prog w=.ok (.func fn first cap) w):=AA (fun _ _ _ _=>rfl);have o1:n1<=9223372036854775807:=by have:=h1.le;omega
 have o2:n2<=9223372036854775807:=by have:=h2.le;omega
 have X5:=AA h1.len;have Zg:=AA h2.len;have Kz:=AA h3.len;have HN4:=AA h4.len;have WU:=AA h5;have H2:=AA h2;have H3:=AA h3;have H4:=AA h4;have H6:=AA h6;have HR:=AA hr;have HP:=AA hp;clear h1 h2 h3 h4 h5 h6 hr hp;obtain ⟨vl,hvl⟩:=BP (FC s);have VC:=AA hvl;clear hvl;go_enter func75,ntmps75;go_upto_region 2 with fail;obtain ⟨wb,hwb⟩:=Ad ((w.alloc (AO #[AB A1 n1 c1,AB A2 n2 c2,AB A3 n3 c3,AB A4 n4 c4,AB A5 n5 c5,AB A6 n6 c6] 29)).alloc (AO #[AB A1 n1 c1,AB A2 n2 c2,AB A3 n3 c3,AB A4 n4 c4,AB A5 n5 c5,AB A6 n6 c6] 137));rw [<-hwb];have hbb:AK w wb:=by rw [hwb];exact ((BE _ _).alloc AX _)
 have kA:AZ wb w.heap.size 29 #[AB A1 n1 c1,AB A2 n2 c2,AB A3 n3 c3,AB A4 n4 c4,AB A5 n5 c5,AB A6 n6 c6]:=by rw [hwb];exact (AZ.new _ _ _).alloc _
 have kB:AZ wb (w.heap.size+1) 137 #[AB A1 n1 c1,AB A2 n2 c2,AB A3 n3 c3,AB A4 n4 c4,AB A5 n5 c5,AB A6 n6 c6]:=by rw [hwb];exact DY AX
 obtain ⟨ga,hga⟩:=Ad w.heap.size;obtain ⟨gb,hgb⟩:=Ad (w.heap.size+1);rw [<-hgb] at kB ⊢;rw [<-hga] at kA ⊢;have la:=kA.lt;have lb:=kB.lt;have HA:=AA kA;have HB:=AA kB;have BG:=AA hbb;have HB0:AI (AK wb wb):=AA (Ae _ _);clear kA kB hbb hwb hga hgb;have a0:=(HA.o.below HB0.o la).cell 0;have b0:=(HB.o.below HB0.o lb).cell 0;have a1:=(HA.o.below HB0.o la).cell 1;have b1:=(HB.o.below HB0.o lb).cell 1;have a2:=(HA.o.below HB0.o la).cell 2;have b2:=(HB.o.below HB0.o lb).cell 2;have a3:=(HA.o.below HB0.o la).cell 3;have b3:=(HB.o.below HB0.o lb).cell 3;have a4:=(HA.o.below HB0.o la).cell 4;have b4:=(HB.o.below HB0.o lb).cell 4;have a5:=(HA.o.below HB0.o la).cell 5;have b5:=(HB.o.below HB0.o lb).cell 5;simp only [Ak,Al,Az] at a0 b0 a1 b1 a2 b2 a3 b3 a4 b4 a5 b5;have HC:AI (AS prog 103 #[(AP #[AB A1 n1 c1,AB A2 n2 c2,AB A3 n3 c3,AB A4 n4 c4,AB A5 n5 c5,AB A6 n6 c6])] wb fun e w'=>e=AU (Ab vl)/\AK wb w'):=AA (by have:=qX A1 A2 A3 A4 A5 A6 n1 c1 n2 c2 n3 c3 n4 c4 n5 c5 n6 c6 s wb X5.o Zg.o Kz.o HN4.o WU.o (H6.o.mono BO BG.o);rw [VC.o] at this;exact this)
 go_wp2_with (go_at_call 103;refine HC.o.mono ?_;clear HC);rintro e w1 ⟨rfl,hb1⟩;have HB1:=AA hb1;clear hb1 a0 b0 a1 b1 a2 b2 a3 b3 a4 b4 a5 b5;cases vl with
 |
  false=>
  go_wp2_with fail;go_ret;exact ⟨Cz (uM VC.o).symm,(AV BG.o HB1.o)⟩
 |
  true=>
  have a0:=(HA.o.below HB1.o la).cell 0;have b0:=(HB.o.below HB1.o lb).cell 0;have a1:=(HA.o.below HB1.o la).cell 1;have b1:=(HB.o.below HB1.o lb).cell 1;have a2:=(HA.o.below HB1.o la).cell 2;have b2:=(HB.o.below HB1.o lb).cell 2;have a3:=(HA.o.below HB1.o la).cell 3;have b3:=(HB.o.below HB1.o lb).cell 3;have a4:=(HA.o.below HB1.o la).cell 4;have b4:=(HB.o.below HB1.o lb).cell 4;have a5:=(HA.o.below HB1.o la).cell 5;have b5:=(HB.o.below HB1.o lb).cell 5;simp only [Ak,Al,Az] at a0 b0 a1 b1 a2 b2 a3 b3 a4 b4 a5 b5;have hmf:=HMF.o;obtain ⟨v1,hv1⟩:=BP (s.units.all (MJ s.units));have VJ:=AA hv1;have HC:AI (AS prog 106 #[AB A2 n2 c2,.func (.func 107) #[(AP #[AB A1 n1 c1,AB A2 n2 c2,AB A3 n3 c3,AB A4 n4 c4,AB A5 n5 c5,AB A6 n6 c6])] #[]] w1 fun e w'=>e=AU (Ab v1)/\AK w1 w'):=AA (by
   have:=qs A2 n2 c2 s.units (MJ s.units) w1 (AP #[AB A1 n1 c1,AB A2 n2 c2,AB A3 n3 c3,AB A4 n4 c4,AB A5 n5 c5,AB A6 n6 c6]) (H2.o.mono Bp (AV BG.o HB1.o)) (fun W cs x hW hx hR=>by obtain rfl:=hR;exact uL A1 A2 A3 A4 A5 A6 n1 c1 n2 c2 n3 c3 n4 c4 n5 c5 n6 c6 x s.units W (H2.o.mono Bp ((AV BG.o HB1.o).trans (hW.mono (AV BG.o HB1.o).size))))
   rw [hv1] at this;exact this)
  clear hv1;go_wp2_with (go_at_call 106;refine HC.o.mono ?_;clear HC);rintro e w2 ⟨rfl,hb2⟩;have HB2:=AA (AV HB1.o hb2);clear hb2 a0 b0 a1 b1 a2 b2 a3 b3 a4 b4 a5 b5;cases v1 with
  |
   false=>
   go_wp2_with fail;go_ret;exact ⟨Cz (AAs VC.o VJ.o).symm,(AV BG.o HB2.o)⟩
  |
   true=>
   have a0:=(HA.o.below HB2.o la).cell 0;have b0:=(HB.o.below HB2.o lb).cell 0;have a1:=(HA.o.below HB2.o la).cell 1;have b1:=(HB.o.below HB2.o lb).cell 1;have a2:=(HA.o.below HB2.o la).cell 2;have b2:=(HB.o.below HB2.o lb).cell 2;have a3:=(HA.o.below HB2.o la).cell 3;have b3:=(HB.o.below HB2.o lb).cell 3;have a4:=(HA.o.below HB2.o la).cell 4;have b4:=(HB.o.below HB2.o lb).cell 4;have a5:=(HA.o.below HB2.o la).cell 5;have b5:=(HB.o.below HB2.o lb).cell 5;simp only [Ak,Al,Az] at a0 b0 a1 b1 a2 b2 a3 b3 a4 b4 a5 b5;obtain ⟨v2,hv2⟩:=BP (s.Ap.all (Dn s.Bg.length s.units.length));have pQ:=AA hv2;have HC:AI (AS prog 108 #[AB A3 n3 c3,.func (.func 109) #[(AP #[AB A1 n1 c1,AB A2 n2 c2,AB A3 n3 c3,AB A4 n4 c4,AB A5 n5 c5,AB A6 n6 c6])] #[]] w2 fun e w'=>e=AU (Ab v2)/\AK w2 w'):=AA (by
    have:=kQ A3 n3 c3 s.Ap (Dn s.Bg.length s.units.length) w2 (AP #[AB A1 n1 c1,AB A2 n2 c2,AB A3 n3 c3,AB A4 n4 c4,AB A5 n5 c5,AB A6 n6 c6]) (H3.o.mono BM (AV BG.o HB2.o)) (fun W cs x hW hx hR=>by obtain ⟨fA,nf,cf,dA,nd,cd,rfl,g1,g2⟩:=hR;rw [<-X5.o,<-Zg.o];exact mC A1 A2 A3 A4 A5 A6 n1 c1 n2 c2 n3 c3 n4 c4 n5 c5 n6 c6 x fA dA nf cf nd cd W o1 o2 g1.1)
    rw [hv2] at this;exact this)
   clear hv2;go_wp2_with (go_at_call 108;refine HC.o.mono ?_;clear HC);rintro e w3 ⟨rfl,hb3⟩;have HB3:=AA (AV HB2.o hb3);clear hb3 a0 b0 a1 b1 a2 b2 a3 b3 a4 b4 a5 b5;cases v2 with
   |
    false=>
    go_wp2_with fail;go_ret;exact ⟨Cz (AAt VC.o VJ.o pQ.o).symm,(AV BG.o HB3.o)⟩
   |
    true=>
    have a0:=(HA.o.below HB3.o la).cell 0;have b0:=(HB.o.below HB3.o lb).cell 0;have a1:=(HA.o.below HB3.o la).cell 1;have b1:=(HB.o.below HB3.o lb).cell 1;have a2:=(HA.o.below HB3.o la).cell 2;have b2:=(HB.o.below HB3.o lb).cell 2;have a3:=(HA.o.below HB3.o la).cell 3;have b3:=(HB.o.below HB3.o lb).cell 3;have a4:=(HA.o.below HB3.o la).cell 4;have b4:=(HB.o.below HB3.o lb).cell 4;have a5:=(HA.o.below HB3.o la).cell 5;have b5:=(HB.o.below HB3.o lb).cell 5;simp only [Ak,Al,Az] at a0 b0 a1 b1 a2 b2 a3 b3 a4 b4 a5 b5;obtain ⟨v3,hv3⟩:=BP (s.rules.all (Iw s.units s.Ap));have HE2:=AA hv3;have HC:AI (AS prog 110 #[AB A4 n4 c4,.func (.func 104) #[] #[AW (some ⟨gb,0,none⟩)]] w3 fun e w'=>e=AU (Ab v3)/\AK w3 w'):=AA (by have:=qt A4 n4 c4 s.rules (Iw s.units s.Ap) w3 ⟨gb,0,none⟩ (H4.o.mono Be (AV BG.o HB3.o)) (HR.o pQ.o w3 gb (AV BG.o HB3.o) (HB.o.below HB3.o lb));rw [hv3] at this;exact this)
    clear hv3;go_wp2_with (go_at_call 110;refine HC.o.mono ?_;clear HC);rintro e w4 ⟨rfl,hb4⟩;have HB4:=AA (AV HB3.o hb4);clear hb4 a0 b0 a1 b1 a2 b2 a3 b3 a4 b4 a5 b5;cases v3 with
    |
     false=>
     go_wp2_with fail;go_ret;exact ⟨Cz (AAu VC.o VJ.o pQ.o HE2.o).symm,(AV BG.o HB4.o)⟩
    |
     true=>
     have a0:=(HA.o.below HB4.o la).cell 0;have b0:=(HB.o.below HB4.o lb).cell 0;have a1:=(HA.o.below HB4.o la).cell 1;have b1:=(HB.o.below HB4.o lb).cell 1;have a2:=(HA.o.below HB4.o la).cell 2;have b2:=(HB.o.below HB4.o lb).cell 2;have a3:=(HA.o.below HB4.o la).cell 3;have b3:=(HB.o.below HB4.o lb).cell 3;have a4:=(HA.o.below HB4.o la).cell 4;have b4:=(HB.o.below HB4.o lb).cell 4;have a5:=(HA.o.below HB4.o la).cell 5;have b5:=(HB.o.below HB4.o lb).cell 5;simp only [Ak,Al,Az] at a0 b0 a1 b1 a2 b2 a3 b3 a4 b4 a5 b5;obtain ⟨v4,hv4⟩:=BP (s.purposes.all (FY s.Ap));have HE3:=AA hv4;have HC:AI (AS prog 111 #[AB A6 n6 c6,.func (.func 112) #[(AP #[AB A1 n1 c1,AB A2 n2 c2,AB A3 n3 c3,AB A4 n4 c4,AB A5 n5 c5,AB A6 n6 c6])] #[]] w4 fun e w'=>e=AU (Ab v4)/\AK w4 w'):=AA (by have:=gT A6 n6 c6 s.purposes (FY s.Ap) w4 (AP #[AB A1 n1 c1,AB A2 n2 c2,AB A3 n3 c3,AB A4 n4 c4,AB A5 n5 c5,AB A6 n6 c6]) (H6.o.mono BO (AV BG.o HB4.o)) (HP.o w4 (AV BG.o HB4.o));rw [hv4] at this;exact this)
     clear hv4;go_wp2_with (go_at_call 111;refine HC.o.mono ?_;clear HC);rintro e w5 ⟨rfl,hb5⟩;have CP:=AA (AV HB4.o hb5);clear hb5 a0 b0 a1 b1 a2 b2 a3 b3 a4 b4 a5 b5;cases v4 with
     |
      false=>
      go_wp2_with fail;go_ret;exact ⟨Cz (AAv VC.o VJ.o pQ.o HE2.o HE3.o).symm,(AV BG.o CP.o)⟩
     |
      true=>
      go_wp2_with fail;go_ret;exact ⟨Cz (yg VC.o VJ.o pQ.o HE2.o HE3.o).symm,(AV BG.o CP.o)⟩
def FF (l:AQ) (x:Int):AQ:=if x∈l then l else l++[x]
def uy (l:AQ) (r:Ce):AQ:=(r.froms.map fun f=>f.schema).foldl FF l
def Ba (rs:List Ce) (x:Int):AQ:=rs.foldl (fun l r=>if r.schema=x then uy l r else l) []
def Bf (rs:List Ce) (k:Nat) (x:Int):AQ:=((List.range k).map Int.ofNat).filter fun h=>decide (x∈Ba rs h)
def Ih (l:AQ) (i j:Nat):AQ:=(l.set i (l.getD j 0)).set j (l.getD i 0)
theorem EZ (l:AQ) (i j:Nat):(Ih l i j).length=l.length:=by simp [Ih]
def QL (l:AQ) (j:Nat):AQ:=
 if h:0 < j/\l.getD j 0 < l.getD ((j - 1) / 2) 0 then QL (Ih l ((j - 1) / 2) j) ((j - 1) / 2) else l
termination_by j
decreasing_by omega
theorem uK:∀(j:Nat) (l:AQ),(QL l j).length=l.length:=by
 intro j
 induction j using Nat.strongRecOn with
 |
  _ j ih=>
  intro l;unfold QL;split
  · next h=>rw [ih _ AG,EZ]
  · rfl
def LQ (l:AQ) (x:Int):AQ:=QL (l++[x]) l.length
theorem Wz (l:AQ) (x:Int):(LQ l x).length=l.length+1:=by simp [LQ,uK]
def Kv (l:AQ) (i n:Nat):Nat:=if 2*i+2 < n/\l.getD (2*i+2) 0 < l.getD (2*i+1) 0 then 2*i+2 else 2*i+1
theorem XP {l:AQ} {i n:Nat} (h:2*i+1 < n):Kv l i n < n:=by unfold Kv;split <;> omega
theorem XQ (l:AQ) (i n:Nat):i < Kv l i n:=by unfold Kv;split <;> omega
def FQ (l:AQ) (i n:Nat):AQ:=
 if _h:2*i+1 < n/\l.getD (Kv l i n) 0 < l.getD i 0 then FQ (Ih l i (Kv l i n)) (Kv l i n) n else l
termination_by n - i
decreasing_by
 have:=XP (l:=l) _h.1;have:=XQ l i n;omega
theorem oK (n:Nat):∀(k i:Nat) (l:AQ),n - i<=k->(FQ l i n).length=l.length:=by
 intro k
 induction k with
 |
  zero=>
  intro i l h;unfold FQ;split
  · next h'=>omega
  · rfl
 |
  succ k ih=>
  intro i l h;unfold FQ;split
  ·next h'=>have:=XP (l:=l) h'.1;have:=XQ l i n;rw [ih _ _ AG,EZ]
  · rfl
def MO (l:AQ):AQ:=FQ (Ih l 0 (l.length - 1)) 0 (l.length - 1)
theorem QD (l:AQ):(MO l).length=l.length:=by rw [MO,oK _ _ _ _ (Ac _),EZ]
def Jd (st:AQ×AQ) (u:Int):AQ×AQ:=
 let o:=st.1.set u.toNat (st.1.getD u.toNat 0 - 1)
 (o,if o.getD u.toNat 0=0 then LQ st.2 u else st.2)
def Jt (us:Nat->AQ):Nat->AQ->AQ->AQ
 | 0,_,_=>[]
 |
  fuel+1,o,h=>
  if h.length=0 then []
  else
   let p:=MO h
   let x:=p.getD (h.length - 1) 0
   let st:=(us x.toNat).foldl Jd (o,p.take (h.length - 1))
   x::Jt us fuel st.1 st.2
def DV (rs:List Ce) (k:Nat):AQ:=(List.range k).foldl (fun h (x:Nat)=>if (Ba rs x).length=0 then LQ h x else h) []
def Cg (rs:List Ce) (n:Nat):AQ:=
 Jt (fun (x:Nat)=>Bf rs n x) (n+1) ((List.range n).map fun (x:Nat)=>((Ba rs x).length:Int)) (DV rs n)
open Go.MapKept (heap_set heap_alloc)
theorem qI (l:AQ) (x:Int):Hb (Ep l) x true=Ep (FF l x):=by
 unfold FF;split
 ·next h=>
  induction l with
  | nil=>simp at h
  |
   cons y l ih=>
   simp only [Ep,Fe];rw [Hb];by_cases e:x=y
   · subst e;rw [Ao rfl]
   have h2:x∈l:=by simpa [e] using h
   rw [Ai e];have:=ih h2;simp only [Ep] at this;rw [this]
 · next h=>exact Sf l x h
theorem Ry {κ ν:Type} [DecidableEq κ] {m:List (κ×ν)} {k:κ} {v:ν} (h:getM m k=some v):(k,v)∈m:=by
 induction m with
 | nil=>simp [P0] at h
 |
  cons p m ih=>
  rw [OQ] at h;by_cases e:k=p.1
  ·rw [Ao e] at h
   injection h with h;subst h;subst e;exact N7
  rw [Ai e] at h;exact Mu _ (ih h)
theorem getM_none {κ ν:Type} [DecidableEq κ] {m:List (κ×ν)} {k:κ}:getM m k=none↔k∉m.map (·.1):=by
 induction m with
 | nil=>simp [P0]
 |
  cons p m ih=>
  rw [OQ];by_cases e:k=p.1
  · simp [e]
  rw [Ai e,ih];simp [e]
theorem ABM {κ ν:Type} [DecidableEq κ] {m:List (κ×ν)} {k:κ} {v:ν} (h:k∉m.map (·.1)):Hb m k v=m++[(k,v)]:=by
 induction m with
 | nil=>rfl
 |
  cons p m ih=>
  have h1:¬k=p.1:=fun e=>h (by simp [e]);have h2:k∉m.map (·.1):=fun e=>h (by simp at e;simp [e]);rw [Hb,Ai h1,ih h2];rfl
theorem TV {f:MapEntry->MapEntry} (hf:∀e,(f e).born=e.born):∀(l:List MapEntry) (j:Nat),(l.modify j f).map (·.born)=l.map (·.born)
 | [],j=>by simp
 | e::l,0=>by simp [hf]
 | e::l,j+1=>by simp [TV hf l j]
section
variable {κ ν:Type} [DecidableEq κ] {P:Program} {kt et t:Af} {ek:κ->AN} {ev:ν->AN} {w w':AH} {b:Nat} {m:List (κ×ν)}
def KU (ek:κ->AN) (ev:ν->AN) (w:AH) (b:Nat) (m:List (κ×ν)):Prop:=
 ∃es clock,w.heap[b]? =some (.map es clock)/\es.toList.map (fun e=>(e.key,e.val))=m.map (fun p=>(ek p.1,ev p.2))/\(es.toList.map (·.born)).Nodup/\∀x∈es.toList,x.born < clock
omit [DecidableEq κ] in
theorem KU.at_ (h:KU ek ev w b m):MapAt ek ev w b m:=by obtain ⟨es,clock,h1,h2,_⟩:=h;exact ⟨es,clock,h1,h2⟩
omit [DecidableEq κ] in
theorem KU.lt (h:KU ek ev w b m):b < w.heap.size:=h.at_.lt
omit [DecidableEq κ] in
theorem KU.same (h:KU ek ev w b m) (hb:w'.heap[b]? =w.heap[b]?):KU ek ev w' b m:=by obtain ⟨es,clock,h1,h2⟩:=h;exact ⟨es,clock,hb.trans h1,h2⟩
omit [DecidableEq κ] in
theorem KU.grown {row:Option Nat} (h:KU ek ev w b m) (hg:w.grownBy w' row) (hne:some b≠row):KU ek ev w' b m:=h.same (hg.block b h.lt hne)
omit [DecidableEq κ] in
theorem KU.new (ek:κ->AN) (ev:ν->AN) (w:AH):KU ek ev (w.alloc (.map #[] 0)) w.heap.size []:=⟨#[],0,(heap_alloc w _).1,rfl,by simp,by simp⟩
theorem Wr (K:Sw P kt ek) (ht:P.underlying t=some (.map kt et)) (h:KU ek ev w b m) (k:κ) (v:ν):
 ∃w',(Instr.mapUpdate t (.map (some b)) (ek k) (ev v)).run P w=.ok () w'/\KU ek ev w' b (Hb m k v)/\w.grownBy w' (some b):=by
 have hlt:=h.lt;obtain ⟨es,clock,hb,hes,hnd,hold⟩:=h;have hgrow:∀o:Obj,w.grownBy {w with heap:=w.heap.setIfInBounds b o} (some b):=fun o=>
  ⟨rfl,rfl,rfl,by simp,fun i _ hne=>(heap_set hb).2 i (fun e=>hne M0)⟩
 unfold Instr.mapUpdate;simp only [Ck,T8 ht,Result.andThen_ok,dr hb,K.ck,Xe (ev:=ev) K k w _ m hes];cases hl:I5 m k 0 with
 |
  none=>
  refine ⟨_,YW _ hb,⟨_,_,(heap_set hb).1,?_,?_,?_⟩,hgrow _⟩
  ·rw [ig k v m 0 hl]
   simp [hes]
  ·simp only [Array.toList_push,DE,Fe,N2]
   refine YO.2 ⟨hnd,by simp,fun a ha c hc e=> ?_⟩;simp only [Fg] at hc;subst hc;subst e;obtain ⟨x,hx,he⟩:=Dd.1 ha;have:=hold x hx;omega
  ·intro x hx
   simp only [Array.toList_push,Ll,Fg] at hx;rcases hx with hx | rfl
   ·have:=hold x hx
    omega
   · simp
 |
  some q=>
  obtain ⟨j,x⟩:=q;obtain ⟨_,⟨e,he,hek⟩,h3⟩:=XO ek ev k v es.toList m 0 j x hes hl;simp only [Nat.sub_zero] at he h3;have he':es[j]? =some e:=by simpa using he
  simp only [Cl,he',Cc,hek];unfold Instr.keyThatStays;rw [K.sb,Ao rfl];simp only [Ck,DC,Result.andThen_ok];refine ⟨_,YW _ hb,⟨_,_,(heap_set hb).1,?_,?_,?_⟩,hgrow _⟩
  · simpa using h3
  ·rw [Array.toList_modify]
   rw [TV (f:=fun e=>{key:=ek k,val:=ev v,born:=e.born}) (fun _=>rfl)];exact hnd
  intro y hy;rw [Array.toList_modify] at hy;have hm:y.born∈(es.toList.modify j fun e=>{key:=ek k,val:=ev v,born:=e.born}).map (·.born):=YS hy;rw [TV (f:=fun e=>{key:=ek k,val:=ev v,born:=e.born}) (fun _=>rfl)] at hm;obtain ⟨z,hz,hzb⟩:=Dd.1 hm;rw [<-hzb];exact hold z hz
end
theorem QR {α β:Type} {f:α->β}:∀{l:List α},(l.map f).Nodup->∀{a b:α},a∈l->b∈l->f a=f b->a=b
 | [],_,_,_,h,_,_=>by simp at h
 |
  c::l,h,a,b,ha,hb,e=>by
  simp only [Fe,Q6,Dd,not_exists,not_and] at h;rcases CJ.1 ha with rfl | ha'
  ·rcases CJ.1 hb with rfl | hb'
   · rfl
   · exact absurd e.symm (h.1 b hb')
  rcases CJ.1 hb with rfl | hb'
  · exact absurd e (h.1 a ha')
  · exact QR h.2 ha' hb' e
structure FU (w:AH) (base M:Nat) (hs:List (Int×Nat)) (f:Int->AQ):Prop where
 o:MapAt (Value.int .i64) (fun b:Nat=>Value.map (some b)) w M hs
 ge:base<=M
 keys:(hs.map (·.1)).Nodup
 vals:(hs.map (·.2)).Nodup
 ins:∀p∈hs,base<=p.2/\p.2≠M/\KU (Value.int .i64) Value.bool w p.2 (Ep (f p.1))
 rest:∀x,x∉hs.map (·.1)->f x=[]
theorem OI {κ ν:Type} {w:AH} {g:Nat} {t:Af} {cs:Array AN} {ev:ν->AN} {ek:κ->AN} {m:List (κ×ν)} (h:AZ w g t cs) (k:MapAt ek ev w g m):False:=by obtain ⟨es,clock,h2,_⟩:=k;rw [show w.heap[g]? =some (AO cs t (0,0)) from h] at h2;injection h2 with h2;cases h2
theorem FU.below {w w':AH} {base M:Nat} {hs:List (Int×Nat)} {f:Int->AQ} (h:FU w base M hs f) (hb:AK w w'):FU w' base M hs f:=
 ⟨h.o.same (hb.block _ h.o.lt),h.ge,h.keys,h.vals,fun p hp=>⟨(h.ins p hp).1,(h.ins p hp).2.1,(h.ins p hp).2.2.same (hb.block _ (h.ins p hp).2.2.lt)⟩,h.rest⟩
theorem FU.kept {w w':AH} {base M:Nat} {hs:List (Int×Nat)} {f:Int->AQ} (h:FU w base M hs f) (hb:∀b,(b=M\/b∈hs.map (·.2))->w'.heap[b]? =w.heap[b]?):FU w' base M hs f:=
 ⟨h.o.same (hb _ (.inl rfl)),h.ge,h.keys,h.vals,fun p hp=>⟨(h.ins p hp).1,(h.ins p hp).2.1,(h.ins p hp).2.2.same (hb _ (.inr (YS hp)))⟩,h.rest⟩
theorem FU.add {w w':AH} {base M g:Nat} {hs:List (Int×Nat)} {f:Int->AQ} {x:Int} (h:FU w base M hs f) (hx:x∉hs.map (·.1)) (hg:KU (Value.int .i64) Value.bool w g ([]:List (Int×Bool))) (hgb:base<=g) (hgM:g≠M) (hgs:g∉hs.map (·.2))
 (hm:MapAt (Value.int .i64) (fun b:Nat=>Value.map (some b)) w' M (Hb hs x g)) (hgr:w.grownBy w' (some M)):FU w' base M (hs++[(x,g)]) f:=by
 rw [ABM hx] at hm;refine ⟨hm,h.ge,?_,?_,?_,?_⟩
 ·rw [DE]
  exact YO.2 ⟨h.keys,by simp,fun a ha b hb e=>by simp at hb;subst hb;subst e;exact hx ha⟩
 ·rw [DE]
  exact YO.2 ⟨h.vals,by simp,fun a ha b hb e=>by simp at hb;subst hb;subst e;exact hgs ha⟩
 ·intro p hp
  rcases Ll.1 hp with hp | hp
  ·obtain ⟨h1,h2,h3⟩:=h.ins p hp
   exact ⟨h1,h2,h3.grown hgr (fun e=>h2 (by injection e))⟩
  simp only [Fg] at hp;subst hp;refine ⟨hgb,hgM,?_⟩;show KU _ _ w' g (Ep (f x));rw [h.rest x hx];exact hg.grown hgr (fun e=>hgM (by injection e))
 intro y hy;exact h.rest y (fun e=>hy (by rw [DE];exact RJ _ e))
theorem FU.insert {w w':AH} {base M b:Nat} {hs:List (Int×Nat)} {f:Int->AQ} {x y:Int} (h:FU w base M hs f) (hx:(x,b)∈hs)
 (hm:KU (Value.int .i64) Value.bool w' b (Hb (Ep (f x)) y true)) (hgr:w.grownBy w' (some b)):FU w' base M hs (fun z=>if z=x then FF (f x) y else f z):=by
 obtain ⟨h1,h2,h3⟩:=h.ins _ hx;rw [qI] at hm;refine ⟨h.o.grown hgr (fun e=>h2 (by injection e with e;exact e.symm)),h.ge,h.keys,h.vals,?_,?_⟩
 ·intro p hp
  obtain ⟨k1,k2,k3⟩:=h.ins p hp;refine ⟨k1,k2,?_⟩;by_cases e:p.1=x
  ·have:p=(x,b):=QR h.keys hp hx e
   subst this;simp only [C5];exact hm
  have hne:p.2≠b:=by intro e2;have:p=(x,b):=QR h.vals hp hx e2;exact e (by rw [this])
  rw [Ai e];exact k3.grown hgr (fun e2=>hne (by injection e2))
 intro z hz;have hzx:z≠x:=fun e=>hz (by subst e;exact YS (f:=(·.1)) hx);simp only [Ai hzx];exact h.rest z hz
theorem jD (m:Option Nat) (w:AH):(binOp .eql 209 (.map m) (.map none)).run prog w=.ok (Ab m.isNone) w:=by simp only [binOp];simp [run_equal_map_nil w 209 _ _ m underlying209]
theorem Ro (n x:Int) (m:AN) (w:AH):AS prog 180 #[AP #[AE AF n,m],AE AF x] w fun e w'=>e=AU (Ab (decide (0<=x) && decide (x < n)))/\AK w w':=by
 go_enter func180,ntmps180;go_wp2_with fail
 all_goals
  go_ret;refine ⟨Ay ?_,(BE _ _)⟩
  first
   | (simp_all;done)
   | (simp_all;omega)
theorem ABK (rs:List Ce) (w:AH) (h4:Ag 5 CF w (AB A4 n4 c4) rs) (hnum:∀r∈rs,(0<=r.schema/\r.schema < n3)/\∀f∈r.froms,0<=f.schema/\f.schema < n3):
 AS prog 117 #[(AP #[AB A1 n1 c1,AB A2 n2 c2,AB A3 n3 c3,AB A4 n4 c4,AB A5 n5 c5,AB A6 n6 c6])] w fun e w'=>∃M hs,e=AU (.tuple #[AP #[AE AF n3,.map (some M)],AE AF 0])/\FU w' w.heap.size M hs (Ba rs)/\AK w w':=by
 have hn4:n4<=9223372036854775807:=by have:=h4.le;omega
 have HL:=AA h4.len;have H4:=AA h4;have P7:=AA hnum;clear h4 hnum;have hmm:∀(w:AH),(Instr.makeMap 212 none).run prog w=.ok (.map (some w.heap.size)) (w.alloc (.map #[] 0)):=by intro w;simp [Instr.makeMap]
 have iw:∀(w:AH),(Instr.makeMap 209 none).run prog w=.ok (.map (some w.heap.size)) (w.alloc (.map #[] 0)):=by intro w;simp [Instr.makeMap]
 have t7:=AA iw;clear iw;go_enter func117,ntmps117;go_upto_region 2 with fail;obtain ⟨wb,hwb⟩:=Ad (((w.alloc (AO #[AB A1 n1 c1,AB A2 n2 c2,AB A3 n3 c3,AB A4 n4 c4,AB A5 n5 c5,AB A6 n6 c6] 29)).alloc (AO #[AE AF n3,.map (some (w.heap.size+1+1))] 214)).alloc (.map #[] 0));rw [<-hwb];have hbb:AK w wb:=by rw [hwb];exact ((BE _ _).alloc AX _).alloc BN _
 have kA:AZ wb w.heap.size 29 #[AB A1 n1 c1,AB A2 n2 c2,AB A3 n3 c3,AB A4 n4 c4,AB A5 n5 c5,AB A6 n6 c6]:=by rw [hwb];exact ((AZ.new _ _ _).alloc _).alloc _
 have kB:AZ wb (w.heap.size+1) 214 #[AE AF n3,.map (some (w.heap.size+1+1))]:=by rw [hwb];exact (DY AX).alloc _
 have kM:MapAt (Value.int .i64) (fun b:Nat=>Value.map (some b)) wb (w.heap.size+1+1) []:=by rw [hwb];have:=MapAt.new (Value.int .i64) (fun b:Nat=>Value.map (some b)) ((w.alloc (AO #[AB A1 n1 c1,AB A2 n2 c2,AB A3 n3 c3,AB A4 n4 c4,AB A5 n5 c5,AB A6 n6 c6] 29)).alloc (AO #[AE AF n3,.map (some (w.heap.size+1+1))] 214));simpa using this
 obtain ⟨M,hM⟩:=Ad (w.heap.size+1+1);have ACU:w.heap.size<=M:=AG
 rw [<-hM] at kB kM ⊢;obtain ⟨gb,hgb⟩:=Ad (w.heap.size+1);rw [<-hgb] at kB ⊢;obtain ⟨ga,hga⟩:=Ad w.heap.size;have hG0:FU wb w.heap.size M [] (Ba []):=⟨kM,ACU,by simp,by simp,fun p hp=>by simp at hp,fun x _=>rfl⟩;rw [<-hga] at kA;have a3:=kA.cell 3;simp only [Ak,Al,Az] at a3;have la:=kA.lt;have BG:=AA hbb;have HKB:=AA kB;have HG0:=AA hG0;have Zi:=AA ACU;have TG:AI (w.heap.size<=gb):=AA AG;rw [hga] at a3 la;clear hwb hbb kA kB kM hM hgb hga hG0 hmm ACU;go_wp2_with fail;clear a3;go_loopg [16] n4 (fun q i wr=>∃k:Nat,∃hs:List (Int×Nat),k<=n4/\q=n4 - k/\i=AE AF k/\FU wr w.heap.size M hs (Ba (rs.take k))/\AZ wr gb 214 #[AE AF n3,.map (some M)]/\AK w wr)
 case atStart=>exact ⟨0,[],Av _,rfl,rfl,HG0.o,HKB.o,BG.o⟩
 clear HG0 HKB BG;obtain ⟨k,hs,hk,hq,rfl,hg,hkb,hb⟩:=hrel;have HQ:=AA hq;have HB:=AA hb;have HG:=AA hg;have HK:=AA hkb;clear hq hb hg hkb;by_cases hlt:k < n4
 case neg=>
  have HF:AI (Ba (rs.take k)=Ba rs):=AA (by rw [Cu (by have:=HL.o;omega)]);have b0:=HK.o.cell 0;have b1:=HK.o.cell 1;have f0:=HK.o.frozen 0;have f1:=HK.o.frozen 1;have lb:=HK.o.lt;simp only [Ak,Al,Az] at b0 b1;go_wp2_with fail;have kE:AZ ((wr.setCell ⟨gb,0,none⟩ (AE AF n3)).setCell ⟨gb,1,none⟩ (.map (some M))) gb 214 #[AE AF n3,.map (some M)]:=(HK.o.put 0 (AE AF n3)).put 1 (.map (some M));have x0:=kE.cell 0;have x1:=kE.cell 1;simp only [Ak,Al,Az] at x0 x1;refine Eu (v:=.tuple #[AP #[AE AF n3,.map (some M)],AE AF 0]) (by simp [results,results117,go_sem,x0,x1]) rfl ?_;have hG9:FU ((wr.setCell ⟨gb,0,none⟩ (AE AF n3)).setCell ⟨gb,1,none⟩ (.map (some M))) w.heap.size M hs (Ba rs):=by
   rw [<-HF.o];refine HG.o.kept (fun c hc=> ?_);have hne:c≠gb:=by
    rintro rfl;rcases hc with rfl | hc
    · exact OI HK.o HG.o.o
    obtain ⟨p,hp,rfl⟩:=Dd.1 hc;exact OI HK.o (HG.o.ins p hp).2.2.at_
   exact (D6 _ _ _ c hne).trans (D6 _ _ _ c hne)
  refine ⟨M,hs,rfl,hG9,?_⟩;have hgw:wr.grownBy ((wr.setCell ⟨gb,0,none⟩ (AE AF n3)).setCell ⟨gb,1,none⟩ (.map (some M))) (some gb):=OM (OM ⟨rfl,rfl,rfl,Ac _,fun _ _ _=>rfl⟩ _ _) _ _;exact HB.o.grown hgw HB.o.size (fun r e=>by cases e;exact TG.o)
 obtain ⟨b,off,x,B1,m1,d1,B2,m2,d2,B3,m3,d3,rfl,hbl,hx,e0,e1,e2,e3,e4,g1,g2,g3⟩:=Ps H4.o hlt;rw [<-HB.o.cell (p:=⟨b,_,none⟩) hbl] at e0 e1 e2 e3 e4;have hbl:b < wr.heap.size:=Au hbl HB.o.size;have hxm:=P7.o x (CS hx);have HX:=AA hx;have HXM:=AA hxm;have G1:=AA g1.1;have hm1:m1<=9223372036854775807:=by have:=g1.1.le;omega
 have hkn:(k:Int) < (n4:Int):=AG
 have hk0:=Int.natCast_nonneg k
 have b0:=HK.o.cell 0;have b1:=HK.o.cell 1;have lb:=HK.o.lt;simp only [Ak,Al,Az] at b0 b1;clear hx hxm g1 g2 g3;have HC:AI (∀W,AS prog 180 #[AP #[AE AF n3,.map (some M)],AE AF x.schema] W fun e w'=>e=AU (Ab true)/\AK W w'):=AA (fun W=>by have:=Ro n3 x.schema (.map (some M)) W;rw [BR HXM.o.1.1,BR HXM.o.1.2] at this;exact this)
 go_upto_region 5 with fail;clear e0 e1 e2 e3 e4;obtain ⟨w1,hw1⟩:=Ad (wr.alloc (AO #[AL x.head,AE AF x.schema,AB B1 m1 d1,AB B2 m2 d2,AB B3 m3 d3] 160));obtain ⟨gr,hgr⟩:=Ad wr.heap.size;have kR:AZ w1 gr 160 #[AL x.head,AE AF x.schema,AB B1 m1 d1,AB B2 m2 d2,AB B3 m3 d3]:=by rw [hw1,hgr];exact AZ.new _ _ _
 have hb1:AK wr w1:=by rw [hw1];exact (Ae _ _).alloc (Ac _) _
 rw [<-hw1,<-hgr];clear hw1 hgr;have oU:=kR.cell 1;have c2r:=kR.cell 2;have lr:=kR.lt;simp only [Ak,Al,Az] at oU c2r;have b0:=(HK.o.below hb1 lb).cell 0;have b1:=(HK.o.below hb1 lb).cell 1;simp only [Ak,Al,Az] at b0 b1;have HR:=AA kR;have HB1:=AA hb1;clear kR hb1;go_wp2_with (go_at_call 180;refine (HC.o w1).mono ?_)
 first | rintro e w2 rfl hb2 | rintro e w2 ⟨rfl,hb2⟩
 have HB2:AI (AK wr w2):=AA (AV HB1.o hb2);have zx:=HR.o.below hb2 lr;have lr2:=zx.lt;have oU:=zx.cell 1;have c2r:=zx.cell 2;have kB2:=HK.o.below HB2.o lb;have lb2:=kB2.lt;have b0:=kB2.cell 0;have b1:=kB2.cell 1;simp only [Ak,Al,Az] at oU c2r b0 b1;have HR2:=AA zx;have JG:=AA kB2;have HG2:=AA (HG.o.below HB2.o);have SP:AI (AK w w2):=AA (AV HB.o HB2.o);clear zx kB2 hb2 HR HC HB1;have hlook:=C8 (GI underlying3) underlying212 (z:=.map none) AJ HG2.o.o x.schema false;by_cases hin:x.schema∈hs.map (·.1)
 ·obtain ⟨hb,hhb⟩:∃hb,getM hs x.schema=some hb:=by
   cases h:getM hs x.schema with
   | none=>exact absurd hin (getM_none.1 h)
   | some v=>exact ⟨v,rfl⟩
  rw [hhb] at hlook;simp only [Cl,Cc,Gu,F5] at hlook;have HHB:=AA hhb;clear hin hhb;have heq:=jD (some hb);go_upto_region 9 with fail;clear hlook;have ADK:AI (∃hb,getM hs x.schema=some hb):=AA ⟨hb,HHB.o⟩;have lrr:=HR2.o.lt;have cc2:=HR2.o.cell 2;simp only [Ak,Al,Az] at cc2;go_wp2_with fail;clear cc2;obtain ⟨wy,rfl⟩:=Ad wr;go_loopg [40] m1 (fun q i wr=>∃j:Nat,j<=m1/\q=m1 - j/\i=AE AF j/\FU wr w.heap.size M hs (fun z=>if z=x.schema then ((x.froms.take j).map fun f=>f.schema).foldl FF (Ba (rs.take k) x.schema) else Ba (rs.take k) z)/\AZ wr gb 214 #[AE AF n3,.map (some M)]/\AZ wr gr 160 #[AL x.head,AE AF x.schema,AB B1 m1 d1,AB B2 m2 d2,AB B3 m3 d3]/\AK w wr)
  case atStart=>
   refine ⟨0,Av _,rfl,rfl,?_,JG.o,HR2.o,SP.o⟩;have he:(fun z=>if z=x.schema then ((x.froms.take 0).map fun f=>f.schema).foldl FF (Ba (rs.take k) x.schema) else Ba (rs.take k) z)=Ba (rs.take k):=by
    funext z;by_cases e:z=x.schema
    · rw [Ao e,e];rfl
    · rw [Ai e]
   rw [he];exact HG2.o
  obtain ⟨j,hj,hq,rfl,hg,hkb,hkr,hb⟩:=hrel;have Xz:=AA hq;have HB3:=AA hb;have Zs:=AA hg;have SK:=AA hkb;have HR3:=AA hkr;clear hq hb hg hkb hkr;by_cases hlt2:j < m1
  case neg=>
   have HE:AI ((fun z=>if z=x.schema then ((x.froms.take j).map fun f=>f.schema).foldl FF (Ba (rs.take k) x.schema) else Ba (rs.take k) z)=Ba (rs.take (k+1))):=AA (by
    rw [show x.froms.take j=x.froms from Cu (by have:=G1.o.len;omega),take_snoc HX.o];funext z;unfold Ba;rw [RL];simp only [YI,List.foldl_nil];by_cases e:z=x.schema
    · exact bD
    · rw [Ai e,Ai (fun h=>e h.symm)])
   go_wp2_with fail;go_roundg (n4 - (k+1))
   case measure=>exact BS
   case rel=>exact ⟨k+1,hs,by omega,rfl,by go_num,by rw [<-HE.o];exact Zs.o,SK.o,HB3.o⟩
  obtain ⟨fb,fo,y,rfl,hfl,hy,z0,z1,z2,z3,z4,z5,z6,z7⟩:=Np (G1.o.mono Dp HB3.o) hlt2;have hym:=HXM.o.2 y (CS hy);have HY:=AA hy;have hjn:(j:Int) < (m1:Int):=AG
  have hj0:(0:Int)<=(j:Int):=AG
  have HC:AI (∀W,AS prog 180 #[AP #[AE AF n3,.map (some M)],AE AF y.schema] W fun e w'=>e=AU (Ab true)/\AK W w'):=AA (fun W=>by have:=Ro n3 y.schema (.map (some M)) W;rw [BR hym.1,BR hym.2] at this;exact this)
  clear hym hy;go_upto_region 12 with fail;clear z0 z1 z2 z3 z4 z5 z6 z7;obtain ⟨w4,hw4⟩:=Ad (wr.alloc (AO #[AL y.name,AL y.kind,AE AF y.schema,AL y.An.name,AL y.An.path,AE AF y.An.var,AE AF y.An.field,AE AF y.An.n] 298));obtain ⟨gf,hgf⟩:=Ad wr.heap.size;have kF:AZ w4 gf 298 #[AL y.name,AL y.kind,AE AF y.schema,AL y.An.name,AL y.An.path,AE AF y.An.var,AE AF y.An.field,AE AF y.An.n]:=by rw [hw4,hgf];exact AZ.new _ _ _
  have hb4:AK wr w4:=by rw [hw4];exact (Ae _ _).alloc (Ac _) _
  rw [<-hw4,<-hgf];clear hw4 hgf;have d2:=kF.cell 2;have lf:=kF.lt;have lb:=SK.o.lt;have b0:=(SK.o.below hb4 lb).cell 0;have b1:=(SK.o.below hb4 lb).cell 1;simp only [Ak,Al,Az] at b0 b1 d2;have HF4:=AA kF;have HB4:=AA hb4;clear kF hb4;go_wp2_with (go_at_call 180;refine (HC.o w4).mono ?_)
  first | rintro e w5 rfl hb5 | rintro e w5 ⟨rfl,hb5⟩
  have CP:AI (AK wr w5):=AA (AV HB4.o hb5);have zy:=HF4.o.below hb5 lf;have d2:=zy.cell 2;have cZ:=SK.o.below CP.o lb;have b0:=cZ.cell 0;have b1:=cZ.cell 1;have nD:=HR3.o.below CP.o HR3.o.lt;have oU:=nD.cell 1;simp only [Ak,Al,Az] at oU d2 b0 b1;have TF:=AA cZ;have S6:=AA nD;have dG:=Zs.o.below CP.o;have pV:AI (AK w w5):=AA (AV HB3.o CP.o);obtain ⟨hb,hhb⟩:=ADK.o;have hlook:=C8 (GI underlying3) underlying212 (z:=.map none) AJ dG.o x.schema false;rw [hhb] at hlook;simp only [Cl,Cc,Gu,F5] at hlook;have hmem:=Ry hhb;obtain ⟨hb1,hb2,hb3⟩:=dG.ins _ hmem;obtain ⟨w6,hrun6,ix,Rw⟩:=Wr (GI underlying3) underlying209 hb3 y.schema true;have oA:=dG.insert hmem ix Rw;have hfe:(fun z=>if z=x.schema then FF ((fun z=>if z=x.schema then ((x.froms.take j).map fun f=>f.schema).foldl FF (Ba (rs.take k) x.schema) else Ba (rs.take k) z) x.schema) y.schema else (fun z=>if z=x.schema then ((x.froms.take j).map fun f=>f.schema).foldl FF (Ba (rs.take k) x.schema) else Ba (rs.take k) z) z)=(fun z=>if z=x.schema then ((x.froms.take (j+1)).map fun f=>f.schema).foldl FF (Ba (rs.take k) x.schema) else Ba (rs.take k) z):=by
   funext z;rw [take_snoc HY.o,DE,RL];by_cases e:z=x.schema
   · exact bD
   · simp only [Ai e]
  rw [hfe] at oA;have jc:=AA oA;have HK6:=AA (TF.o.grown Rw (fun e=>by injection e with e;subst e;exact OI TF.o hb3.at_));have HR6:=AA (S6.o.grown Rw (fun e=>by injection e with e;subst e;exact OI S6.o hb3.at_));have AGq:AI (AK w w6):=AA (pV.o.grown Rw pV.o.size (fun r e=>by cases e;exact hb1));clear hfe oA hmem hb1 hb2 hb3 ix Rw dG hhb zy cZ nD hb5;go_wp2_with fail;go_roundg (m1 - (j+1))
  case measure=>have:=Xz.o;omega
  case rel=>exact xT
 rw [getM_none.2 hin] at hlook;simp only [JJ,Jj,Gu,F5] at hlook;have iw:=t7.o;have heq:=jD none;have hba:AK w2 (w2.alloc (.map #[] 0)):=(Ae _ _).alloc (Ac _) _;have QU:=HG2.o.below hba;obtain ⟨w3,hrun3,Dm,ng⟩:=FB (GI underlying3) underlying212 QU.o x.schema w2.heap.size;have hlt2:∀q,q∈hs.map (·.2)->q < w2.heap.size:=fun q hq=>by obtain ⟨p,hp,rfl⟩:=Dd.1 hq;exact (HG2.o.ins p hp).2.2.lt
 have hG3:=QU.add hin (KU.new _ _ w2) (BH Zi.o (Nat.le_of_lt HG2.o.o.lt)) (Nat.ne_of_gt HG2.o.o.lt) (fun h=>Nat.lt_irrefl _ (hlt2 _ h)) Dm ng;have AIm:=AA hG3;have AIi:=AA ((JG.o.below hba lb2).grown ng (fun e=>by injection e with e;subst e;exact OI (JG.o.below hba lb2) QU.o));have ADF:=AA ((HR2.o.below hba lr2).grown ng (fun e=>by injection e with e;subst e;exact OI (HR2.o.below hba lr2) QU.o));have iD:AI (AK w w3):=AA ((AV SP.o hba).grown ng (BH SP.o.size hba.size) (fun r e=>by cases e;exact Zi.o));have ADK:AI (∃hb,getM (hs++[(x.schema,w2.heap.size)]) x.schema=some hb):=AA (by
  cases h:getM (hs++[(x.schema,w2.heap.size)]) x.schema with
  | none=>exact absurd AX (getM_none.1 h)
  | some v=>exact ⟨v,rfl⟩)
 clear hba QU Dm ng hlt2 hG3 hin;go_upto_region 9 with fail;clear hlook hrun3 iw;have lrr:=ADF.o.lt;have cc2:=ADF.o.cell 2;simp only [Ak,Al,Az] at cc2;go_wp2_with fail;clear cc2;obtain ⟨wy,rfl⟩:=Ad wr;go_loopg [40] m1 (fun q i wr=>∃j:Nat,j<=m1/\q=m1 - j/\i=AE AF j/\FU wr w.heap.size M (hs++[(x.schema,w2.heap.size)]) (fun z=>if z=x.schema then ((x.froms.take j).map fun f=>f.schema).foldl FF (Ba (rs.take k) x.schema) else Ba (rs.take k) z)/\AZ wr gb 214 #[AE AF n3,.map (some M)]/\AZ wr gr 160 #[AL x.head,AE AF x.schema,AB B1 m1 d1,AB B2 m2 d2,AB B3 m3 d3]/\AK w wr)
 case atStart=>
  refine ⟨0,Av _,rfl,rfl,?_,AIi.o,ADF.o,iD.o⟩;have he:(fun z=>if z=x.schema then ((x.froms.take 0).map fun f=>f.schema).foldl FF (Ba (rs.take k) x.schema) else Ba (rs.take k) z)=Ba (rs.take k):=by
   funext z;by_cases e:z=x.schema
   · rw [Ao e,e];rfl
   · rw [Ai e]
  rw [he];exact AIm.o
 obtain ⟨j,hj,hq,rfl,hg,hkb,hkr,hb⟩:=hrel;have Xz:=AA hq;have HB3:=AA hb;have Zs:=AA hg;have SK:=AA hkb;have HR3:=AA hkr;clear hq hb hg hkb hkr;by_cases hlt2:j < m1
 case neg=>
  have HE:AI ((fun z=>if z=x.schema then ((x.froms.take j).map fun f=>f.schema).foldl FF (Ba (rs.take k) x.schema) else Ba (rs.take k) z)=Ba (rs.take (k+1))):=AA (by
   rw [show x.froms.take j=x.froms from Cu (by have:=G1.o.len;omega),take_snoc HX.o];funext z;unfold Ba;rw [RL];simp only [YI,List.foldl_nil];by_cases e:z=x.schema
   · exact bD
   · rw [Ai e,Ai (fun h=>e h.symm)])
  go_wp2_with fail;go_roundg (n4 - (k+1))
  case measure=>exact BS
  case rel=>exact ⟨k+1,(hs++[(x.schema,w2.heap.size)]),by omega,rfl,by go_num,by rw [<-HE.o];exact Zs.o,SK.o,HB3.o⟩
 obtain ⟨fb,fo,y,rfl,hfl,hy,z0,z1,z2,z3,z4,z5,z6,z7⟩:=Np (G1.o.mono Dp HB3.o) hlt2;have hym:=HXM.o.2 y (CS hy);have HY:=AA hy;have hjn:(j:Int) < (m1:Int):=AG
 have hj0:(0:Int)<=(j:Int):=AG
 have HC:AI (∀W,AS prog 180 #[AP #[AE AF n3,.map (some M)],AE AF y.schema] W fun e w'=>e=AU (Ab true)/\AK W w'):=AA (fun W=>by have:=Ro n3 y.schema (.map (some M)) W;rw [BR hym.1,BR hym.2] at this;exact this)
 clear hym hy;go_upto_region 12 with fail;clear z0 z1 z2 z3 z4 z5 z6 z7;obtain ⟨w4,hw4⟩:=Ad (wr.alloc (AO #[AL y.name,AL y.kind,AE AF y.schema,AL y.An.name,AL y.An.path,AE AF y.An.var,AE AF y.An.field,AE AF y.An.n] 298));obtain ⟨gf,hgf⟩:=Ad wr.heap.size;have kF:AZ w4 gf 298 #[AL y.name,AL y.kind,AE AF y.schema,AL y.An.name,AL y.An.path,AE AF y.An.var,AE AF y.An.field,AE AF y.An.n]:=by rw [hw4,hgf];exact AZ.new _ _ _
 have hb4:AK wr w4:=by rw [hw4];exact (Ae _ _).alloc (Ac _) _
 rw [<-hw4,<-hgf];clear hw4 hgf;have d2:=kF.cell 2;have lf:=kF.lt;have lb:=SK.o.lt;have b0:=(SK.o.below hb4 lb).cell 0;have b1:=(SK.o.below hb4 lb).cell 1;simp only [Ak,Al,Az] at b0 b1 d2;have HF4:=AA kF;have HB4:=AA hb4;clear kF hb4;go_wp2_with (go_at_call 180;refine (HC.o w4).mono ?_)
 first | rintro e w5 rfl hb5 | rintro e w5 ⟨rfl,hb5⟩
 have CP:AI (AK wr w5):=AA (AV HB4.o hb5);have zy:=HF4.o.below hb5 lf;have d2:=zy.cell 2;have cZ:=SK.o.below CP.o lb;have b0:=cZ.cell 0;have b1:=cZ.cell 1;have nD:=HR3.o.below CP.o HR3.o.lt;have oU:=nD.cell 1;simp only [Ak,Al,Az] at oU d2 b0 b1;have TF:=AA cZ;have S6:=AA nD;have dG:=Zs.o.below CP.o;have pV:AI (AK w w5):=AA (AV HB3.o CP.o);obtain ⟨hb,hhb⟩:=ADK.o;have hlook:=C8 (GI underlying3) underlying212 (z:=.map none) AJ dG.o x.schema false;rw [hhb] at hlook;simp only [Cl,Cc,Gu,F5] at hlook;have hmem:=Ry hhb;obtain ⟨hb1,hb2,hb3⟩:=dG.ins _ hmem;obtain ⟨w6,hrun6,ix,Rw⟩:=Wr (GI underlying3) underlying209 hb3 y.schema true;have oA:=dG.insert hmem ix Rw;have hfe:(fun z=>if z=x.schema then FF ((fun z=>if z=x.schema then ((x.froms.take j).map fun f=>f.schema).foldl FF (Ba (rs.take k) x.schema) else Ba (rs.take k) z) x.schema) y.schema else (fun z=>if z=x.schema then ((x.froms.take j).map fun f=>f.schema).foldl FF (Ba (rs.take k) x.schema) else Ba (rs.take k) z) z)=(fun z=>if z=x.schema then ((x.froms.take (j+1)).map fun f=>f.schema).foldl FF (Ba (rs.take k) x.schema) else Ba (rs.take k) z):=by
  funext z;rw [take_snoc HY.o,DE,RL];by_cases e:z=x.schema
  · exact bD
  · simp only [Ai e]
 rw [hfe] at oA;have jc:=AA oA;have HK6:=AA (TF.o.grown Rw (fun e=>by injection e with e;subst e;exact OI TF.o hb3.at_));have HR6:=AA (S6.o.grown Rw (fun e=>by injection e with e;subst e;exact OI S6.o hb3.at_));have AGq:AI (AK w w6):=AA (pV.o.grown Rw pV.o.size (fun r e=>by cases e;exact hb1));clear hfe oA hmem hb1 hb2 hb3 ix Rw dG hhb zy cZ nD hb5;go_wp2_with fail;go_roundg (m1 - (j+1))
 case measure=>have:=Xz.o;omega
 case rel=>exact xT
def A8 {α:Type} [DecidableEq α] (a b:List α):Bool:=decide (a=b)
theorem FX {α:Type} [DecidableEq α] {a b:List α} (h:¬a.length=b.length):A8 a b=false:=by unfold A8;exact Bc (fun e=>h M0)
theorem Z3 {α:Type} [DecidableEq α] {a b:List α} {k:Nat} {x y:α} {r:Bool} (ha:a[k]? =some x) (hb:b[k]? =some y) (h:A8 (a.drop k) (b.drop k)=r) (e:x=y):A8 (a.drop (k+1)) (b.drop (k+1))=r:=by rw [drop_cons ha,drop_cons hb] at h;subst e;simpa [A8] using h
theorem Qt {α:Type} [DecidableEq α] {a b:List α} {k:Nat} {x y:α} {r:Bool} (ha:a[k]? =some x) (hb:b[k]? =some y) (h:A8 (a.drop k) (b.drop k)=r) (e:¬x=y):r=false:=by rw [drop_cons ha,drop_cons hb] at h;rw [<-h];simp [A8,e]
theorem yz {α:Type} [DecidableEq α] {a b:List α} {k:Nat} {r:Bool} (h:A8 (a.drop k) (b.drop k)=r) (hl:a.length=b.length) (hk:a.length<=k):r=true:=by rw [Ex hk,Ex AG] at h;rw [<-h];rfl
theorem IU (A B:Option Aa) (n c m d:Nat) (l r:List ByteArray) (w:AH) (hl:Ag 1 DQ w (AB A n c) l) (hr:Ag 1 DQ w (AB B m d) r):
 AS prog 120 #[AB A n c,AB B m d] w fun e w'=>e=AU (Ab (A8 l r))/\AK w w':=by
 have hn2:n<=9223372036854775807:=by have:=hl.le;omega
 have hln:=hl.len;have hrn:=hr.len;have HL:=AA hl;have HR:=AA hr;clear hl hr;by_cases e:n=m
 ·subst e
  have el:l.length=r.length:=AG
  skip
  have HN:=AA hln;have HE:=AA el;clear hln hrn el;obtain ⟨v,hv⟩:=BP (A8 l r);rw [hv];have HV:AI (A8 (l.drop 0) (r.drop 0)=v):=AA hv;clear hv;go_enter func120,ntmps120;go_wp2_with fail;go_loopg [13] n (fun q i wr=>∃k:Nat,k<=n/\q=n - k/\i=AE AF k/\A8 (l.drop k) (r.drop k)=v/\AK w wr)
  case atStart=>exact Jz
  obtain ⟨k,hk,hq,rfl,hv,hb⟩:=hrel;have HQ:=AA hq;have HB:=AA hb;have Dw:=AA hv;clear hq hb hv HV;by_cases hlt:k < n
  ·obtain ⟨a,ao,x,rfl,hal,hx,hxc⟩:=Wn (HL.o.mono BV HB.o) hlt
   obtain ⟨b,bo,y,rfl,hbl,hy,MR⟩:=Wn (HR.o.mono BV HB.o) hlt;have HX:=AA hx;have HY:=AA hy;have hkn:(k:Int) < (n:Int):=AG
   have hk0:=Int.natCast_nonneg k
   clear hx hy;by_cases exy:x=y
   ·subst exy
    go_wp2_with fail;go_quiet (fail);go_wp2_with fail;go_roundg (n - (k+1))
    case measure=>exact BS
    case rel=>exact xe
   obtain rfl:=Qt HX.o HY.o Dw.o exy;have exl:(x.toList==y.toList)=false:=by rw [DG];exact Bc exy
   exact yU
  exact L7
 have el:¬l.length=r.length:=AG
 rw [FX el];go_enter func120,ntmps120;exact Jy
theorem Rz (A B:Option Aa) (n c m d:Nat) (l r:AQ) (w:AH) (hl:Ag 1 iR w (AB A n c) l) (hr:Ag 1 iR w (AB B m d) r):
 AS prog 71 #[AB A n c,AB B m d] w fun e w'=>e=AU (Ab (A8 l r))/\AK w w':=by
 have hn2:n<=9223372036854775807:=by have:=hl.le;omega
 have hln:=hl.len;have hrn:=hr.len;have HL:=AA hl;have HR:=AA hr;clear hl hr;by_cases e:n=m
 ·subst e
  have el:l.length=r.length:=AG
  skip
  have HN:=AA hln;have HE:=AA el;clear hln hrn el;obtain ⟨v,hv⟩:=BP (A8 l r);rw [hv];have HV:AI (A8 (l.drop 0) (r.drop 0)=v):=AA hv;clear hv;go_enter func71,ntmps71;go_wp2_with fail;go_loopg [13] n (fun q i wr=>∃k:Nat,k<=n/\q=n - k/\i=AE AF k/\A8 (l.drop k) (r.drop k)=v/\AK w wr)
  case atStart=>exact Jz
  obtain ⟨k,hk,hq,rfl,hv,hb⟩:=hrel;have HQ:=AA hq;have HB:=AA hb;have Dw:=AA hv;clear hq hb hv HV;by_cases hlt:k < n
  ·obtain ⟨a,ao,x,rfl,hal,hx,hxc⟩:=vD (HL.o.mono Ht HB.o) hlt
   obtain ⟨b,bo,y,rfl,hbl,hy,MR⟩:=vD (HR.o.mono Ht HB.o) hlt;have HX:=AA hx;have HY:=AA hy;have hkn:(k:Int) < (n:Int):=AG
   have hk0:=Int.natCast_nonneg k
   clear hx hy;by_cases exy:x=y
   ·subst exy
    go_wp2_with fail;go_quiet (fail);go_wp2_with fail;go_roundg (n - (k+1))
    case measure=>exact BS
    case rel=>exact xe
   obtain rfl:=Qt HX.o HY.o Dw.o exy;exact yU
  exact L7
 have el:¬l.length=r.length:=AG
 rw [FX el];go_enter func71,ntmps71;exact Jy
theorem AG8:(prog.info? 302).map (fun i=>i.methods.find? (·.name== "Len"))=some (some ⟨ "Len",307,#[⟨305,0,true⟩],some (185,false)⟩):=by kernel_rfl
theorem ij (G:Nat) (v:AN) (w:AH) (h:w.cell? ⟨G,0,none⟩=some v):∀N:Nat,0 < N->
 (method N 302 (AW (some ⟨G,0,none⟩)) "Len").run prog w=.ok (185,v) w:=by
 intro N hN;obtain ⟨k,rfl⟩:∃k,N=k+1:=⟨N - 1,by omega⟩;obtain ⟨i,hi,hm⟩:∃i,prog.info? 302=some i/\i.methods.find? (·.name== "Len")=some ⟨ "Len",307,#[⟨305,0,true⟩],some (185,false)⟩:=by have:=AG8;simpa [Option.map_eq_some_iff] using this
 unfold method;simp [typeInfo,run_program,hi,hm,follow,run_underlying underlying305,Place.get,asAddr,fieldPlace,receiverAt,run_underlying underlying303,go_sem,h]
theorem AE7:(prog.info? 302).map (fun i=>i.methods.find? (·.name== "Less"))=some (some ⟨ "Less",366,#[⟨305,0,true⟩],some (244,false)⟩):=by kernel_rfl
theorem Qv (G:Nat) (v:AN) (w:AH) (h:w.cell? ⟨G,0,none⟩=some v):∀N:Nat,0 < N->
 (method N 302 (AW (some ⟨G,0,none⟩)) "Less").run prog w=.ok (244,v) w:=by
 intro N hN;obtain ⟨k,rfl⟩:∃k,N=k+1:=⟨N - 1,by omega⟩;obtain ⟨i,hi,hm⟩:∃i,prog.info? 302=some i/\i.methods.find? (·.name== "Less")=some ⟨ "Less",366,#[⟨305,0,true⟩],some (244,false)⟩:=by have:=AE7;simpa [Option.map_eq_some_iff] using this
 unfold method;simp [typeInfo,run_program,hi,hm,follow,run_underlying underlying305,Place.get,asAddr,fieldPlace,receiverAt,run_underlying underlying303,go_sem,h]
theorem AE5:(prog.info? 302).map (fun i=>i.methods.find? (·.name== "Swap"))=some (some ⟨ "Swap",363,#[⟨305,0,true⟩],some (248,false)⟩):=by kernel_rfl
theorem Oi (G:Nat) (v:AN) (w:AH) (h:w.cell? ⟨G,0,none⟩=some v):∀N:Nat,0 < N->
 (method N 302 (AW (some ⟨G,0,none⟩)) "Swap").run prog w=.ok (248,v) w:=by
 intro N hN;obtain ⟨k,rfl⟩:∃k,N=k+1:=⟨N - 1,by omega⟩;obtain ⟨i,hi,hm⟩:∃i,prog.info? 302=some i/\i.methods.find? (·.name== "Swap")=some ⟨ "Swap",363,#[⟨305,0,true⟩],some (248,false)⟩:=by have:=AE5;simpa [Option.map_eq_some_iff] using this
 unfold method;simp [typeInfo,run_program,hi,hm,follow,run_underlying underlying305,Place.get,asAddr,fieldPlace,receiverAt,run_underlying underlying303,go_sem,h]
theorem AE6:(prog.info? 302).map (fun i=>i.methods.find? (·.name== "Push"))=some (some ⟨ "Push",361,#[],some (246,true)⟩):=by kernel_rfl
theorem uz (a:Aa) (w:AH):∀N:Nat,0 < N->
 (method N 302 (AW (some a)) "Push").run prog w=.ok (246,AW (some a)) w:=by
 intro N hN;obtain ⟨k,rfl⟩:∃k,N=k+1:=⟨N - 1,by omega⟩;obtain ⟨i,hi,hm⟩:∃i,prog.info? 302=some i/\i.methods.find? (·.name== "Push")=some ⟨ "Push",361,#[],some (246,true)⟩:=by have:=AE6;simpa [Option.map_eq_some_iff] using this
 unfold method;simp [typeInfo,run_program,hi,hm,follow,run_underlying underlying302,Place.get,receiverAt]
theorem AG7:(prog.info? 302).map (fun i=>i.methods.find? (·.name== "Pop"))=some (some ⟨ "Pop",365,#[],some (245,true)⟩):=by kernel_rfl
theorem zZ (a:Aa) (w:AH):∀N:Nat,0 < N->
 (method N 302 (AW (some a)) "Pop").run prog w=.ok (245,AW (some a)) w:=by
 intro N hN;obtain ⟨k,rfl⟩:∃k,N=k+1:=⟨N - 1,by omega⟩;obtain ⟨i,hi,hm⟩:∃i,prog.info? 302=some i/\i.methods.find? (·.name== "Pop")=some ⟨ "Pop",365,#[],some (245,true)⟩:=by have:=AG7;simpa [Option.map_eq_some_iff] using this
 unfold method;simp [typeInfo,run_program,hi,hm,follow,run_underlying underlying302,Place.get,receiverAt]
def Dx (G:Nat) (W:AH):Option Nat:=(W.cell? ⟨G,0,none⟩).bind fun v=>v.ownBlock
theorem Fz {G:Nat} {w:AH} {t:Af} {v:AN} (h:AZ w G t #[v]):Dx G w=v.ownBlock:=by unfold Dx;rw [h.cell 0];rfl
structure Kept (G:Nat) (w w':AH):Prop where
 os:w'.os=w.os
 tape:w'.tape=w.tape
 output:w'.output=w.output
 size:w.heap.size<=w'.heap.size
 block:∀b,b < w.heap.size->b≠G->some b≠Dx G w->w'.heap[b]? =w.heap[b]?
 pt:Dx G w'=Dx G w\/∃b,Dx G w'=some b/\w.heap.size<=b
theorem Kept.refl (G:Nat) (w:AH):Kept G w w:=⟨rfl,rfl,rfl,Ac _,fun _ _ _ _=>rfl,.inl rfl⟩
theorem Kept.trans {G:Nat} {a b c:AH} (h:Kept G a b) (k:Kept G b c):Kept G a c:=
 ⟨k.os.trans h.os,k.tape.trans h.tape,k.output.trans h.output,BH h.size k.size,fun x hx hg hp=>(k.block x (Au hx h.size) hg (fun e=>by
  rcases h.pt with h1 | ⟨y,h1,h2⟩
  · rw [h1] at e;exact hp e
  · rw [h1] at e;injection e with e;omega)).trans (h.block x hx hg hp),by
  rcases k.pt with k1 | ⟨y,k1,k2⟩
  ·rcases h.pt with h1 | ⟨y,h1,h2⟩
   · exact .inl (k1.trans h1)
   · exact .inr ⟨y,k1.trans h1,h2⟩
  · exact .inr ⟨y,k1,BH h.size k2⟩⟩
theorem Kept.drewN {G:Nat} {a b:AH} (h:Kept G a b) (n:Nat):Kept G a (b.drewN n):=⟨h.os,h.tape,h.output,h.size,h.block,h.pt⟩
theorem Kept.LS {G g:Nat} {a b:AH} {t:Af} {v:AN} (hk:AZ a G t #[v]) (hv:v.ownBlock=some g) (hne:G≠g) (h:a.grownBy b (some g)):Kept G a b:=
 ⟨h.os,h.tape,h.output,h.size,fun x hx _ hp=>h.block x hx (fun e=>hp (by rw [Fz hk,hv,e])),.inl (by have hk2:AZ b G t #[v]:=hk.grown h (fun e=>hne (by injection e));rw [Fz hk,Fz hk2])⟩
theorem Kept.put {G:Nat} {a b:AH} {t:Af} {v u:AN} (h:Kept G a b) (hk:AZ b G t #[v]) (hu:u.ownBlock=Dx G a\/∃y,u.ownBlock=some y/\a.heap.size<=y):Kept G a (b.setCell ⟨G,0,none⟩ u):=
 ⟨h.os,h.tape,h.output,by simpa [World.setCell] using h.size,fun x hx hne hp=>(D6 b _ u x hne).trans (h.block x hx hne hp),by
  have hk2:AZ (b.setCell ⟨G,0,none⟩ u) G t #[u]:=hk.put 0 u;rw [Fz hk2];exact hu⟩
def FT (w:AH) (base G:Nat) (l:AQ):Prop:=
 ∃v,AZ w G 305 #[v]/\w.ownsRow base 3 1 v l.length (l.map (Value.int .i64))/\G < base/\base<=w.heap.size
theorem FT.form {w:AH} {base G:Nat} {l:AQ} (h:FT w base G l) (hl:0 < l.length):
 ∃g cap,base<=g/\G < base/\base<=w.heap.size/\AZ w G 305 #[AB (some ⟨g,0,none⟩) l.length cap]/\w.ownsRow base 3 1 (AB (some ⟨g,0,none⟩) l.length cap) l.length (l.map (Value.int .i64)):=by
 obtain ⟨v,h1,h2,h3,h4⟩:=h;obtain ⟨g,cap,rfl⟩:=Joins.ownsRow_form h2 hl;exact ⟨g,cap,(h2.lt g rfl).1,h3,h4,h1,h2⟩
theorem len_any (A:Option Aa) (n c:Nat) (w:AH):AS prog 185 #[AB A n c] w fun e w'=>e=AU (AE AF n)/\w=w':=by go_enter func185,ntmps185;go_wp2_with fail;go_ret;exact ⟨rfl,rfl⟩
theorem QO {w:AH} {base g cap n:Nat} {l:AQ} (h:w.ownsRow base 3 1 (AB (some ⟨g,0,none⟩) n cap) n (l.map (Value.int .i64))) {i:Nat} (hi:i < n):
 w.cell? ⟨g,i,none⟩=some (AE AF (l.getD i 0)):=by
 have hl:l.length=n:=by have:=h.1;simpa using this
 rw [h.cellAt i AG];rw [Bb,Cv];have:l[i]? =some l[i]:=BJ AG;simp [this]
theorem Rr (base g cap n:Nat) (l:AQ) (i j:Nat) (w:AH) (h:w.ownsRow base 3 1 (AB (some ⟨g,0,none⟩) n cap) n (l.map (Value.int .i64))) (hi:i < n) (hj:j < n):
 AS prog 244 #[AB (some ⟨g,0,none⟩) n cap,AE AF i,AE AF j] w fun e w'=>e=AU (Ab (decide (l.getD i 0 < l.getD j 0)))/\∃k,w'=w.drewN k:=by
 have ci:=QO h hi;have cj:=QO h hj;obtain ⟨a,ha⟩:=BP (l.getD i 0);obtain ⟨b,hb⟩:=BP (l.getD j 0);rw [ha] at ci ⊢;rw [hb] at cj ⊢;clear ha hb h;have i0:(0:Int)<=(i:Int):=AG
 have i1:(i:Int) < (n:Int):=AG
 have j0:(0:Int)<=(j:Int):=AG
 have j1:(j:Int) < (n:Int):=AG
 go_enter func244,ntmps244;go_wp2_with fail;go_quiet (fail);go_wp2_with fail;go_ret;exact ⟨rfl,_,rfl⟩
theorem vY (w:AH) (row:Option Nat):w.grownBy w row:=⟨rfl,rfl,rfl,Ac _,fun _ _ _=>rfl⟩
theorem AAy (l:AQ) (i j:Nat):((l.map (Value.int .i64)).set i (AE AF (l.getD j 0))).set j (AE AF (l.getD i 0))=(Ih l i j).map (Value.int .i64):=by simp [Ih,List.map_set]
theorem swap_any (base g cap n:Nat) (l:AQ) (i j:Nat) (w:AH) (h:w.ownsRow base 3 1 (AB (some ⟨g,0,none⟩) n cap) n (l.map (Value.int .i64))) (hi:i < n) (hj:j < n):
 AS prog 248 #[AB (some ⟨g,0,none⟩) n cap,AE AF i,AE AF j] w fun e w'=>(∃u,e=AU u)/\w'.ownsRow base 3 1 (AB (some ⟨g,0,none⟩) n cap) n ((Ih l i j).map (Value.int .i64))/\w.grownBy w' (some g):=by
 have ci:=QO h hi;have cj:=QO h hj;have fi:=h.frozenAt i;have fj:=h.frozenAt j;have HS:=AA (AAy l i j);have HO:=AA h;obtain ⟨a,ha⟩:=BP (l.getD i 0);obtain ⟨b,hb⟩:=BP (l.getD j 0);rw [ha] at ci;rw [hb] at cj;rw [ha,hb] at HS;clear ha hb h;have i0:(0:Int)<=(i:Int):=AG
 have i1:(i:Int) < (n:Int):=AG
 have j0:(0:Int)<=(j:Int):=AG
 have j1:(j:Int) < (n:Int):=AG
 by_cases hij:i=j
 ·subst hij
  obtain rfl:a=b:=by rw [ci] at cj;simpa using cj
  go_enter func248,ntmps248;go_wp2_with fail;go_region
  go_end0
  exact x9
 go_enter func248,ntmps248;go_wp2_with fail;go_region
 go_end0
 exact x9
structure jk where
 src:AQ
 dst:Int
def Nl (nf:Nat):AQ->Nat->Option Nat
 | [],x=>some x
 | f::r,x=>if f < 0\/(nf:Int)<=f\/x.testBit f.toNat then none else Nl nf r (x ||| 2 ^ f.toNat)
def MH (nf:Nat) (d:jk):Bool:=match Nl nf d.src 0 with
 | none=>false
 | some x=>x !=0 && decide (0<=d.dst) && decide (d.dst < nf) && !x.testBit d.dst.toNat
def Mc (nf:Nat) (ds:List jk):Bool:=decide (1<=nf) && decide (nf<=12) && decide (ds.length<=12) && ds.all (MH nf)
def eno (b:Bool):Int:=if b then 0 else 130
theorem AF9 (x:Nat) (n:Nat) (hx:x < 4096):(bits BinOp.and IntKind.u64 (↑x / 2 ^ n) 1==1)=x.testBit n:=by
 have h1:((x:Int) / 2 ^ n)=((x / 2 ^ n:Nat):Int):=AX
 have hlt:x / 2 ^ n < 18446744073709551616:=Nat.lt_of_le_of_lt (Nat.div_le_self _ _) AG;rw [h1];have h2:=u64_and_nat (x / 2 ^ n) 1 hlt AG;simp only [Int.natCast_one] at h2;rw [h2,Nat.and_one_is_mod,Nat.testBit_eq_decide_div_mod_eq];rcases Nat.mod_two_eq_zero_or_one (x / 2 ^ n) with h | h <;> simp [h]
theorem yb {nf:Nat} {f:Int} {r:AQ} {x:Nat} (h:f < 0\/(nf:Int)<=f\/x.testBit f.toNat=true):Nl nf (f::r) x=none:=by unfold Nl;rw [Ao h]
theorem AAr {nf:Nat} {f:Int} {r:AQ} {x:Nat} (h0:0<=f) (h1:f < (nf:Int)) (h2:x.testBit f.toNat=false):Nl nf (f::r) x=Nl nf r (x ||| 2 ^ f.toNat):=by rw [Nl,Ai];simp [h2];omega
theorem AG3 {x n:Nat} (hx:x < 4096) (hn:n < 12):x ||| 2 ^ n < 4096:=by have:2 ^ n < 2 ^ 12:=Nat.pow_lt_pow_right AG hn;exact Nat.or_lt_two_pow (n:=12) hx this
theorem AF5 (x:Nat):((x:Int) !=0)=(x !=0):=by
 rcases PR x with h | h
 · subst h;rfl
 have h1:((x:Int) !=0)=true:=by rw [bne_iff_ne];omega
 have h2:(x !=0)=true:=by rw [bne_iff_ne];omega
 rw [h1,h2]
theorem pq {nf:Nat} {l:AQ} {DJ:Int} (h:Nl nf l 0=none):MH nf ⟨l,DJ⟩=false:=by simp [MH,h]
theorem po {nf:Nat} {l:AQ} {DJ:Int} {x:Nat} (h:Nl nf l 0=some x):MH nf ⟨l,DJ⟩=(x !=0 && decide (0<=DJ) && decide (DJ < nf) && !x.testBit DJ.toNat):=by simp [MH,h]
theorem ya {nf:Nat} {l:AQ} {x k:Nat} {r:Option Nat} (h:Nl nf (l.drop k) x=r) (hk:l.length<=k):r=some x:=by rw [Ex hk] at h;exact h.symm
theorem AEv {x:Nat} {f:Int} (hx:x < 4096) (h1:f < 12):bits BinOp.or IntKind.u64 (↑x) (IntKind.u64.wrap (2 ^ f.toNat))=((x ||| 2 ^ f.toNat:Nat):Int):=by
 have h2:2 ^ f.toNat < 2 ^ 12:=Nat.pow_lt_pow_right AG AG;have h2':0<=(2:Int) ^ f.toNat:=Int.pow_nonneg AG;have h3:((2:Int) ^ f.toNat)=((2 ^ f.toNat:Nat):Int):=AX
 have h4:IntKind.u64.wrap (((2 ^ f.toNat:Nat)):Int)=((2 ^ f.toNat:Nat):Int):=Tk _ AG;rw [h3,h4];exact u64_or_nat _ _ AG AG
theorem wC {nf k:Nat} {ds:List jk} {d:jk} (h:ds[k]? =some d) (hv:MH nf d=false):Mc nf ds=false:=by
 have:ds.all (MH nf)=false:=by rw [List.all_eq_false];exact ⟨d,CS h,by simp [hv]⟩
 simp [Mc,this]
def vw (w:AH) (cs:List AN) (d:jk):Prop:=
 ∃nA nn nc s A n c,cs=[AB nA nn nc,AL s,AB A n c,AE AF d.dst]/\Ag 1 CK w (AB A n c) d.src/\ -9223372036854775808<=d.dst/\d.dst<=9223372036854775807
theorem jG:Eb vw:=by rintro w w' hb cs x ⟨nA,nn,nc,s,A,n,c,h1,h2,h3⟩;exact ⟨nA,nn,nc,s,A,n,c,h1,h2.mono BX hb,h3⟩
theorem AF0 {w:AH} {A:Option Aa} {n cap:Nat} {l:List jk} (h:Ag 4 vw w (AB A n cap) l) {k:Nat} (hk:k < n):
 ∃b off d nA nn nc s fA fn fc,A=some ⟨b,off,none⟩/\b < w.heap.size/\l[k]? =some d/\
  w.cell? ⟨b,off+k*4,none⟩=some (AB nA nn nc)/\w.cell? ⟨b,off+k*4+1,none⟩=some (AL s)/\w.cell? ⟨b,off+k*4+2,none⟩=some (AB fA fn fc)/\w.cell? ⟨b,off+k*4+3,none⟩=some (AE AF d.dst)/\
  Ag 1 CK w (AB fA fn fc) d.src/\ -9223372036854775808<=d.dst/\d.dst<=9223372036854775807:=by
 obtain ⟨b,off,d,cs,e,hb,hl,hlen,hc,nA,nn,nc,s,fA,fn,fc,rfl,h2,h3⟩:=h.at_ hk;exact ⟨b,off,d,nA,nn,nc,s,fA,fn,fc,e,hb,hl,by simpa using hc 0 _ rfl,by simpa [Nat.add_assoc] using hc 1 _ rfl,by simpa [Nat.add_assoc] using hc 2 _ rfl,by simpa [Nat.add_assoc] using hc 3 _ rfl,h2,h3⟩
theorem tU (x:Nat) (f:Int) (w:AH) (hx:x < 4096) (h0:0<=f) (h1:f < 64):
 AS prog 225 #[AE .u64 x,AE AF f] w fun e w'=>e=AU (Ab (x.testBit f.toNat))/\w=w':=by
 go_enter func225,ntmps225
 go_wp2
 go_ret;refine ⟨?_,rfl⟩;rw [<-AF9 x _ hx];rfl
theorem yZ (nA A:Option Aa) (nn nc n c:Nat) (s:ByteArray) (DJ:Int) (nf:Nat) (l:AQ) (w:AH) (hnf:nf<=12) (hs:Ag 1 CK w (AB A n c) l):
 AS prog 177 #[AP #[AB nA nn nc,AL s,AB A n c,AE AF DJ],AE AF nf] w (Ret (Ab (MH nf ⟨l,DJ⟩)) w):=by
 have hn2:n<=9223372036854775807:=by have:=hs.le;omega
 have HN:=AA hs.len;have HS:=AA hs;clear hs;go_enter func177,ntmps177
 go_wp2
 go_loop [5,11] (fun fr i=>∃k x:Nat,k<=n/\i=AE AF k/\fr=AE .u64 x/\x < 4096/\Nl nf (l.drop k) x=Nl nf l 0) (fun _ i=>n - (intOf i).toNat)
 case atStart=>exact ⟨0,0,Av _,rfl,rfl,by omega,rfl⟩
 obtain ⟨k,x,hk,rfl,rfl,hx,hv⟩:=hrel;have HV:=AA hv;clear hv;by_cases hlt:k < n
 ·obtain ⟨b,off,f,rfl,hb,hf,hc,hlo,hhi⟩:=ints_at HS.o hlt
  have HF:=AA hf;clear hf;go_wp2_with (go_at_call 225;refine (tU _ _ _ hx AG AG).mono ?_;rintro e w' ⟨rfl,rfl⟩)
  rotate_left 1
  ·have hb2:x.testBit f.toNat=false:=by simp_all
   go_round
   case rel=>exact ⟨k+1,x ||| 2 ^ f.toNat,by omega,by go_num,by rw [AEv hx AG],AG3 hx AG,by rw [<-HV.o,drop_cons HF.o,AAr AG AG hb2]⟩
   case measure=>simp [intOf];omega
  all_goals
   go_ret;refine ⟨Ay ?_,(Ae _ _).alloc (Ac _) _⟩;rw [pq];rw [<-HV.o,drop_cons HF.o,yb]
   first | (left;assumption) | (right;left;assumption) | (right;right;rcases ‹_\/_› with (h | h) | h <;> first | exact h | (exfalso;omega))
 have hv:=ya HV.o Gx;have HW:=AA (po (DJ:=DJ) hv);clear hv;go_wp2_with (go_at_call 225;refine (tU _ _ _ hx AG AG).mono ?_;rintro e w' ⟨rfl,rfl⟩)
 all_goals
  go_ret;refine ⟨Ay ?_,(Ae _ _).alloc (Ac _) _⟩;rw [HW.o]
  go_light
  simp [*,AF5]
  try (intros;omega)
theorem check_any (s1 s2:ByteArray) (i1 i2:Int) (fA dA:Option Aa) (nf fc nd dc:Nat) (ds:List jk) (w:AH) (hnf:nf<=9223372036854775807) (hs:Ag 4 vw w (AB dA nd dc) ds):
 AS prog 113 #[AP #[AL s1,AL s2,AE AF i1,AE AF i2,AB fA nf fc,AB dA nd dc]] w (Ret (AE AF (eno (Mc nf ds))) w):=by
 have hn2:nd<=9223372036854775807:=by have:=hs.le;omega
 have HN:=AA hs.len;have HS:=AA hs;clear hs;by_cases h1:nf < 1\/12 < nf\/12 < nd
 ·have HC:AI (Mc nf ds=false):=by
   have:=HN.o;show _=_;unfold Mc;rcases h1 with h | h | h
   · simp [show ¬1<=nf by omega]
   · simp [show ¬nf<=12 by omega]
   · simp [show ¬ds.length<=12 by omega]
  go_enter func113,ntmps113
  go_wp2
  all_goals first
   | (go_ret;exact ⟨by rw [HC.o];rfl,(Ae _ _).alloc (Ac _) _⟩)
   | (exfalso;omega)
 have a1:1<=nf:=AG
 have a2:nf<=12:=AG
 have a3:nd<=12:=AG
 clear h1;have d1:decide ((nf:Int) < 1)=false:=by simp;omega
 have d2:decide ((12:Int) < nf)=false:=by simp;omega
 have d3:decide ((12:Int) < nd)=false:=by simp;omega
 go_enter func113,ntmps113
 go_wp2
 go_loopw [24] (fun i wr=>∃k:Nat,k<=nd/\i=AE AF k/\Below (w.heap.size+1) (w.alloc (AO #[AL s1,AL s2,AE AF i1,AE AF i2,AB fA nf fc,AB dA nd dc] 85)) wr/\(ds.take k).all (MH nf)=true) (fun i _=>nd - (intOf i).toNat)
 case atStart=>exact ⟨0,Av _,rfl,Ae _ _,rfl⟩
 obtain ⟨k,hk,rfl,hb,hv⟩:=hrel;have HV:=AA hv;clear hv;have hb0:AK w wr:=(BE _ _).trans (hb.mono AG);have AJQ:wr.cell? ⟨w.heap.size,4,none⟩=some (AB fA nf fc):=(hb.cell (p:=⟨w.heap.size,4,none⟩) AX).trans AX;have hsz:w.heap.size < wr.heap.size:=by have:=hb.size;simp at this;omega
 by_cases hlt:k < nd
 ·obtain ⟨b,off,d,nA,nn,nc,s,gA,gn,gc,rfl,hbl,hd,c0,c1,c2,c3,hsrc,hlo,hhi⟩:=AF0 (HS.o.mono jG hb0) hlt
  have HD:=AA hd;have gp:=AA hsrc;have HB:=AA hb;have HB0:=AA hb0;clear hd hsrc hb hb0;obtain ⟨vb,hvb⟩:=BP (MH nf d);have HVB:=AA hvb;clear hvb;rcases vb with _ | _
  all_goals
   go_wp2_with (go_at_call 177;refine (yZ _ _ _ _ _ _ _ _ _ d.src _ a2 (gp.o.mono BX (BE _ _))).mono ?_;rintro e w1 ⟨rfl,hb1⟩;rw [show MH nf ⟨d.src,d.dst⟩=_ from HVB.o];have HB1:=AA hb1;clear hb1)
  ·go_ret
   refine ⟨Cz ?_,(HB0.o.alloc AG _).trans (HB1.o.mono BN)⟩;rw [wC HD.o HVB.o];rfl
  go_roundw
  case rel=>exact ⟨k+1,by omega,by go_num,(HB.o.alloc AG _).trans (HB1.o.mono BN),by rw [take_snoc HD.o,List.all_append,HV.o];simp [HVB.o]⟩
  case measure=>simp [intOf];omega
 have HC:AI (Mc nf ds=true):=by have h1:=HV.o;have h2:=HN.o;rw [Cu AG] at h1;show _=_;unfold Mc;simp [h1,a1,a2];omega
 go_wp2
 go_ret;exact ⟨by rw [HC.o];rfl,hb0⟩
theorem Vj:(prog.info? 3).map (fun i=>(i.zero,i.size,i.bytes))=some (some (AE AF 0),1,8):=by kernel_rfl
theorem Xo (x:Int) (w:AH):(Instr.typeAssert (.iface 3 (AE AF x)) 20 3 true).run prog w=.ok (.tuple #[AE AF x,Ab true]) w:=by kernel_rfl
theorem zF (base G:Nat) (l:AQ) (x:Int) (w:AH) (hq:FT w base G l) (hb:base<=w.heap.size) (hl:l.length<=1000000):
 AS prog 246 #[AW (some ⟨G,0,none⟩),.iface 3 (AE AF x)] w fun e w'=>(∃u,e=AU u)/\FT w' base G (l++[x])/\Kept G w w':=by
 obtain ⟨v,h1,h2,h3,h4⟩:=hq;obtain ⟨i0,hi,hz0,hz1,hz2⟩:=Kh Vj;have c0:=h1.cell 0;have f0:=h1.frozen 0;have lG:=h1.lt;simp only [Ak,Al] at c0;have H1:=AA h1;have H2:=AA h2;have HI:=AA hi;have HZ:=AA (And.intro hz0 (And.intro hz1 hz2));have hv:∃A n c,v=AB A n c:=by
  rcases h2.2 with ⟨rfl,_⟩ | ⟨g,cap,cur,rfl,_⟩
  · exact NS
  · exact NS
 clear h1 h2 hi hz0 hz1 hz2;obtain ⟨A,n,c,rfl⟩:=hv;have hta:=Xo x;go_enter func246,ntmps246;go_wp2_with (at_builtin;refine wpList_append_own_at _ rfl (.tmp 16) (.tmp 18) 303 rfl base 3 i0 (AE AF 0) 1 8 underlying303 HI.o HZ.o.1 HZ.o.2.1 HZ.o.2.2 rfl Ah (AB A n c) l.length _ rfl (H2.o.alloc _) ⟨w.heap.size,0,none⟩ 1 1 [AE AF x] rfl rfl (cell_one_new _ _ _) N9 FN AG BN ?_;intro v' w5 hown' hgrow _ hat;have HAT:=AA hat;clear hat;obtain ⟨g',cap',rfl⟩:=Joins.ownsRow_form hown' AG;have k5:AZ w5 G 305 #[AB A n c]:=(H1.o.alloc _).grown hgrow (fun e=>by have:=(H2.o.lt G e.symm).1;omega);have TF:=AA k5;have f5:=k5.frozen 0;have c5:=k5.cell 0;simp only [Ak,Al] at c5;have HOW:=AA hown';have GU:=AA hgrow;clear hown' hgrow k5)
 go_end0
 have hlen:(l++[x]).length=l.length+1:=AX
 have hsz:base<=w5.heap.size:=BH hb (BH AX GU.o.size);refine ⟨⟨_,rfl⟩,⟨_,TF.o.put 0 _,?_,h3,by simpa [World.setCell] using hsz⟩,?_⟩
 ·rw [hlen,DE]
  exact Ew HOW.o h3 _
 refine Kept.put (show Kept G w w5 from ⟨GU.o.os,GU.o.tape,GU.o.output,BH AX GU.o.size,fun b hb2 _ hp=> ?_,.inl ?_⟩) TF.o ?_
 ·refine (GU.o.block b BN (fun e=>hp (by rw [Fz H1.o,e]))).trans ?_
  exact Kk w _ b hb2
 · rw [Fz TF.o,Fz H1.o]
 rw [Fz H1.o];rcases HAT.o with e | e
 · exact .inl e
 · exact .inr ⟨_,e,by simp⟩
theorem AEA {w:AH} {base g cap:Nat} {l:AQ} (hl:0 < l.length) (h:w.ownsRow base 3 1 (AB (some ⟨g,0,none⟩) l.length cap) l.length (l.map (Value.int .i64))):
 w.ownsRow base 3 1 (AB (some ⟨g,0,none⟩) (l.length - 1) cap) (l.length - 1) ((l.take (l.length - 1)).map (Value.int .i64)):=by
 obtain ⟨n,hn⟩:∃n,l.length=n+1:=⟨l.length - 1,by omega⟩;rw [hn] at h ⊢;refine ownsRow_pop (last:=(l.drop n).map (Value.int .i64)) BN ?_;rw [<-DE];simp only [Nat.add_sub_cancel,Tw];exact h
theorem ABL (base G:Nat) (l:AQ) (w:AH) (hq:FT w base G l) (hpos:0 < l.length) (hl:l.length<=1000000):
 AS prog 245 #[AW (some ⟨G,0,none⟩)] w fun e w'=>e=AU (.iface 3 (AE AF (l.getD (l.length - 1) 0)))/\FT w' base G (l.take (l.length - 1))/\Kept G w w':=by
 obtain ⟨g,cap,hbg,hGb,hbs,hk,hown⟩:=hq.form hpos;clear hq;have hc:=QO hown (i:=l.length - 1) AG;have HP:=AA (AEA hpos hown);have hcap:l.length<=cap:=by
  rcases hown.2 with ⟨h,_⟩ | ⟨g',cap',cur,h,_,_,h2,_⟩
  · cases h
  · injection h with _ _ h;omega
 have AFx:(l.take (l.length - 1)).length=l.length - 1:=AX
 have HLEN:=AA AFx;clear AFx;obtain ⟨x,hx⟩:=BP (l.getD (l.length - 1) 0);rw [hx] at hc ⊢;obtain ⟨n,hn⟩:=BP l.length;obtain ⟨l',hl'⟩:=BP (l.take (l.length - 1));rw [hl'] at HP HLEN ⊢;rw [hn] at hc hk HP hcap hpos hl HLEN;clear hx hn hl' hown;have c0:=hk.cell 0;have f0:=hk.frozen 0;have lG:=hk.lt;simp only [Ak,Al] at c0;have HK:=AA hk;clear hk;have e1:IntKind.i64.wrap ((n:Int) - 1)=(n:Int) - 1:=CN _ AG;have e2:(0:Int)<=(n:Int) - 1:=AG
 have e3:((n:Int) - 1).toNat=n - 1:=AG
 have e4:(n:Int) - 1 < (n:Int):=AG
 have e5:(n:Int) - 1<=(cap:Int):=AG
 go_enter func245,ntmps245;go_wp2_with fail;go_quiet (fail);go_wp2_with fail;go_region;go_wp2_with fail;go_ret;refine ⟨rfl,⟨_,(HK.o.drewN _).put 0 _,?_,hGb,by simpa [World.setCell] using hbs⟩,((Kept.refl G w).drewN _).put (HK.o.drewN _) (.inl (by rw [Fz HK.o];rfl))⟩;rw [HLEN.o];exact Ew (w:=w.drewN (nq+1)) HP.o hGb _
end Go.Proofs.YtamhoilkpppdbaaGreatDoor
