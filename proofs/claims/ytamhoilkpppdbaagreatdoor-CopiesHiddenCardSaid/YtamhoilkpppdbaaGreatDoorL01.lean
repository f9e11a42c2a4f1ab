import Derived.Test.YtamhoilkpppdbaaGreatDoorL00
namespace Go.Proofs.YtamhoilkpppdbaaGreatDoor
set_option maxHeartbeats 8000000
set_option maxRecDepth 100000
open Go renaming World→AH, Value→AN, Calls→AS, TypeId→Ae, Addr→Aa
open Go.Proofs.Tryz
variable (A1 A2 A3 A4 A5 A6:Option Aa) (n1 c1 n2 c2 n3 c3 n4 c4 n5 c5 n6 c6:Nat)
open Go.Value renaming slice→AA, int→AB, string→AL, pointer→AU, bool→Ab, agg→AP
open Go.IntKind renaming i64→AE
open Go.Ending renaming returned→AW
open Go.Obj renaming cells→AO
open Go.RowKit
theorem sF (lo hi un:Int) (Au:ByteArray) (B:Option Aa) (m d:Nat) (ns:List ByteArray) (w:AH) (_hn2:n2<=9223372036854775807) (hs:Ag 1 Dd w (AA B m d) ns):
 AS prog 66 #[(AP #[AA A1 n1 c1,AA A2 n2 c2,AA A3 n3 c3,AA A4 n4 c4,AA A5 n5 c5,AA A6 n6 c6]),AP #[AB AE 1,AB AE lo,AB AE hi,AL Au,AB AE un,AA B m d]] w fun e w'=>
  e=AW (Ab (Jq n2 ⟨1,lo,hi,Au,un,ns⟩))/\AK w w':=by
 have MO:=AF hs.len;clear hs;have hix:∀w:AH,(Instr.index 177 Sw (AB AE 1)).run prog w=.ok (.func (.func 134) #[] #[]) w:=fun _=>by kernel_rfl
 go_enter func66,ntmps66;go_wp2_with fail;obtain ⟨wb,hwb⟩:=Ad ((w.alloc (AO #[AA A1 n1 c1,AA A2 n2 c2,AA A3 n3 c3,AA A4 n4 c4,AA A5 n5 c5,AA A6 n6 c6] 137)).alloc (AO #[AB AE 1,AB AE lo,AB AE hi,AL Au,AB AE un,AA B m d] 109));rw [<-hwb];have hbb:AK w wb:=by rw [hwb];exact ((BK _ _).alloc AZ _)
 have kA:AY wb w.heap.size 137 #[AA A1 n1 c1,AA A2 n2 c2,AA A3 n3 c3,AA A4 n4 c4,AA A5 n5 c5,AA A6 n6 c6]:=by rw [hwb];exact (AY.new _ _ _).alloc _
 have kB:AY wb (w.heap.size+1) 109 #[AB AE 1,AB AE lo,AB AE hi,AL Au,AB AE un,AA B m d]:=by rw [hwb];exact Dk AZ
 obtain ⟨ga,hga⟩:=Ad w.heap.size;obtain ⟨gb,hgb⟩:=Ad (w.heap.size+1);rw [<-hgb] at kB ⊢;rw [<-hga] at kA ⊢;obtain ⟨HA,HB,BJ⟩:=BB kA kB hbb;have a1:=kA.cell 1;have b0:=kB.cell 0;have b1:=kB.cell 1;have b2:=kB.cell 2;have b3:=kB.cell 3;have b4:=kB.cell 4;have b5:=kB.cell 5;have la:=kA.lt;have lb:=kB.lt;simp only [Aj,Ao,BA] at a1 b0 b1 b2 b3 b4 b5;clear kA kB hbb hwb hga hgb
 go_region_held3 (fun w'=>w'.cell? ⟨ga,1,none⟩=some (AA A2 n2 c2)/\w'.cell? ⟨gb,0,none⟩=some (AB AE 1)/\w'.cell? ⟨gb,1,none⟩=some (AB AE lo)/\w'.cell? ⟨gb,2,none⟩=some (AB AE hi)/\w'.cell? ⟨gb,3,none⟩=some (AL Au)/\w'.cell? ⟨gb,4,none⟩=some (AB AE un)/\w'.cell? ⟨gb,5,none⟩=some (AA B m d)/\AK wb w')
  (first
   | exact ⟨a1,b0,b1,b2,b3,b4,b5,(Af _ _).drew⟩
   | exact ⟨(hb.cell (p:=⟨ga,1,none⟩) la).trans a1,(hb.cell (p:=⟨gb,0,none⟩) lb).trans b0,(hb.cell (p:=⟨gb,1,none⟩) lb).trans b1,(hb.cell (p:=⟨gb,2,none⟩) lb).trans b2,(hb.cell (p:=⟨gb,3,none⟩) lb).trans b3,(hb.cell (p:=⟨gb,4,none⟩) lb).trans b4,(hb.cell (p:=⟨gb,5,none⟩) lb).trans b5,(Af wb.heap.size wb).drew.trans hb⟩
   | exact ⟨((hc.cell (p:=⟨ga,1,none⟩) (Av la hb.size)).trans (hb.cell (p:=⟨ga,1,none⟩) la)).trans a1,((hc.cell (p:=⟨gb,0,none⟩) (Av lb hb.size)).trans (hb.cell (p:=⟨gb,0,none⟩) lb)).trans b0,((hc.cell (p:=⟨gb,1,none⟩) (Av lb hb.size)).trans (hb.cell (p:=⟨gb,1,none⟩) lb)).trans b1,((hc.cell (p:=⟨gb,2,none⟩) (Av lb hb.size)).trans (hb.cell (p:=⟨gb,2,none⟩) lb)).trans b2,((hc.cell (p:=⟨gb,3,none⟩) (Av lb hb.size)).trans (hb.cell (p:=⟨gb,3,none⟩) lb)).trans b3,((hc.cell (p:=⟨gb,4,none⟩) (Av lb hb.size)).trans (hb.cell (p:=⟨gb,4,none⟩) lb)).trans b4,((hc.cell (p:=⟨gb,5,none⟩) (Av lb hb.size)).trans (hb.cell (p:=⟨gb,5,none⟩) lb)).trans b5,((Af wb.heap.size wb).drew.trans hb).trans (hc.mono hb.size)⟩)
  (first
   | (go_at_call 93;refine (Tm _).mono ?_;rintro e w' ⟨rfl,hb⟩)
   | (go_at_call 134;refine (ACA 1 lo hi un Au B m d n2 _).mono ?_;rintro e w' ⟨rfl,hc⟩))
 exact cp
theorem sE (lo hi un:Int) (Au:ByteArray) (B:Option Aa) (m d:Nat) (ns:List ByteArray) (w:AH) (_hn2:n2<=9223372036854775807) (hs:Ag 1 Dd w (AA B m d) ns):
 AS prog 66 #[(AP #[AA A1 n1 c1,AA A2 n2 c2,AA A3 n3 c3,AA A4 n4 c4,AA A5 n5 c5,AA A6 n6 c6]),AP #[AB AE 2,AB AE lo,AB AE hi,AL Au,AB AE un,AA B m d]] w fun e w'=>
  e=AW (Ab (Jq n2 ⟨2,lo,hi,Au,un,ns⟩))/\AK w w':=by
 have MO:=AF hs.len;clear hs;have hix:∀w:AH,(Instr.index 177 Sw (AB AE 2)).run prog w=.ok (.func (.func 135) #[] #[]) w:=fun _=>by kernel_rfl
 go_enter func66,ntmps66;go_wp2_with fail;obtain ⟨wb,hwb⟩:=Ad ((w.alloc (AO #[AA A1 n1 c1,AA A2 n2 c2,AA A3 n3 c3,AA A4 n4 c4,AA A5 n5 c5,AA A6 n6 c6] 137)).alloc (AO #[AB AE 2,AB AE lo,AB AE hi,AL Au,AB AE un,AA B m d] 109));rw [<-hwb];have hbb:AK w wb:=by rw [hwb];exact ((BK _ _).alloc AZ _)
 have kA:AY wb w.heap.size 137 #[AA A1 n1 c1,AA A2 n2 c2,AA A3 n3 c3,AA A4 n4 c4,AA A5 n5 c5,AA A6 n6 c6]:=by rw [hwb];exact (AY.new _ _ _).alloc _
 have kB:AY wb (w.heap.size+1) 109 #[AB AE 2,AB AE lo,AB AE hi,AL Au,AB AE un,AA B m d]:=by rw [hwb];exact Dk AZ
 obtain ⟨ga,hga⟩:=Ad w.heap.size;obtain ⟨gb,hgb⟩:=Ad (w.heap.size+1);rw [<-hgb] at kB ⊢;rw [<-hga] at kA ⊢;obtain ⟨HA,HB,BJ⟩:=BB kA kB hbb;have a1:=kA.cell 1;have b0:=kB.cell 0;have b1:=kB.cell 1;have b2:=kB.cell 2;have b3:=kB.cell 3;have b4:=kB.cell 4;have b5:=kB.cell 5;have la:=kA.lt;have lb:=kB.lt;simp only [Aj,Ao,BA] at a1 b0 b1 b2 b3 b4 b5;clear kA kB hbb hwb hga hgb
 go_region_held3 (fun w'=>w'.cell? ⟨ga,1,none⟩=some (AA A2 n2 c2)/\w'.cell? ⟨gb,0,none⟩=some (AB AE 2)/\w'.cell? ⟨gb,1,none⟩=some (AB AE lo)/\w'.cell? ⟨gb,2,none⟩=some (AB AE hi)/\w'.cell? ⟨gb,3,none⟩=some (AL Au)/\w'.cell? ⟨gb,4,none⟩=some (AB AE un)/\w'.cell? ⟨gb,5,none⟩=some (AA B m d)/\AK wb w')
  (first
   | exact ⟨a1,b0,b1,b2,b3,b4,b5,(Af _ _).drew⟩
   | exact ⟨(hb.cell (p:=⟨ga,1,none⟩) la).trans a1,(hb.cell (p:=⟨gb,0,none⟩) lb).trans b0,(hb.cell (p:=⟨gb,1,none⟩) lb).trans b1,(hb.cell (p:=⟨gb,2,none⟩) lb).trans b2,(hb.cell (p:=⟨gb,3,none⟩) lb).trans b3,(hb.cell (p:=⟨gb,4,none⟩) lb).trans b4,(hb.cell (p:=⟨gb,5,none⟩) lb).trans b5,(Af wb.heap.size wb).drew.trans hb⟩
   | exact ⟨((hc.cell (p:=⟨ga,1,none⟩) (Av la hb.size)).trans (hb.cell (p:=⟨ga,1,none⟩) la)).trans a1,((hc.cell (p:=⟨gb,0,none⟩) (Av lb hb.size)).trans (hb.cell (p:=⟨gb,0,none⟩) lb)).trans b0,((hc.cell (p:=⟨gb,1,none⟩) (Av lb hb.size)).trans (hb.cell (p:=⟨gb,1,none⟩) lb)).trans b1,((hc.cell (p:=⟨gb,2,none⟩) (Av lb hb.size)).trans (hb.cell (p:=⟨gb,2,none⟩) lb)).trans b2,((hc.cell (p:=⟨gb,3,none⟩) (Av lb hb.size)).trans (hb.cell (p:=⟨gb,3,none⟩) lb)).trans b3,((hc.cell (p:=⟨gb,4,none⟩) (Av lb hb.size)).trans (hb.cell (p:=⟨gb,4,none⟩) lb)).trans b4,((hc.cell (p:=⟨gb,5,none⟩) (Av lb hb.size)).trans (hb.cell (p:=⟨gb,5,none⟩) lb)).trans b5,((Af wb.heap.size wb).drew.trans hb).trans (hc.mono hb.size)⟩)
  (first
   | (go_at_call 93;refine (Tm _).mono ?_;rintro e w' ⟨rfl,hb⟩)
   | (go_at_call 135;refine (AB9 2 lo hi un Au B m d n2 _).mono ?_;rintro e w' ⟨rfl,hc⟩))
 exact cp
theorem sD (lo hi un:Int) (Au:ByteArray) (B:Option Aa) (m d:Nat) (ns:List ByteArray) (w:AH) (_hn2:n2<=9223372036854775807) (hs:Ag 1 Dd w (AA B m d) ns):
 AS prog 66 #[(AP #[AA A1 n1 c1,AA A2 n2 c2,AA A3 n3 c3,AA A4 n4 c4,AA A5 n5 c5,AA A6 n6 c6]),AP #[AB AE 3,AB AE lo,AB AE hi,AL Au,AB AE un,AA B m d]] w fun e w'=>
  e=AW (Ab (Jq n2 ⟨3,lo,hi,Au,un,ns⟩))/\AK w w':=by
 have MO:=AF hs.len;clear hs;have hix:∀w:AH,(Instr.index 177 Sw (AB AE 3)).run prog w=.ok (.func (.func 136) #[] #[]) w:=fun _=>by kernel_rfl
 go_enter func66,ntmps66;go_wp2_with fail;obtain ⟨wb,hwb⟩:=Ad ((w.alloc (AO #[AA A1 n1 c1,AA A2 n2 c2,AA A3 n3 c3,AA A4 n4 c4,AA A5 n5 c5,AA A6 n6 c6] 137)).alloc (AO #[AB AE 3,AB AE lo,AB AE hi,AL Au,AB AE un,AA B m d] 109));rw [<-hwb];have hbb:AK w wb:=by rw [hwb];exact ((BK _ _).alloc AZ _)
 have kA:AY wb w.heap.size 137 #[AA A1 n1 c1,AA A2 n2 c2,AA A3 n3 c3,AA A4 n4 c4,AA A5 n5 c5,AA A6 n6 c6]:=by rw [hwb];exact (AY.new _ _ _).alloc _
 have kB:AY wb (w.heap.size+1) 109 #[AB AE 3,AB AE lo,AB AE hi,AL Au,AB AE un,AA B m d]:=by rw [hwb];exact Dk AZ
 obtain ⟨ga,hga⟩:=Ad w.heap.size;obtain ⟨gb,hgb⟩:=Ad (w.heap.size+1);rw [<-hgb] at kB ⊢;rw [<-hga] at kA ⊢;obtain ⟨HA,HB,BJ⟩:=BB kA kB hbb;have a1:=kA.cell 1;have b0:=kB.cell 0;have b1:=kB.cell 1;have b2:=kB.cell 2;have b3:=kB.cell 3;have b4:=kB.cell 4;have b5:=kB.cell 5;have la:=kA.lt;have lb:=kB.lt;simp only [Aj,Ao,BA] at a1 b0 b1 b2 b3 b4 b5;clear kA kB hbb hwb hga hgb
 go_region_held3 (fun w'=>w'.cell? ⟨ga,1,none⟩=some (AA A2 n2 c2)/\w'.cell? ⟨gb,0,none⟩=some (AB AE 3)/\w'.cell? ⟨gb,1,none⟩=some (AB AE lo)/\w'.cell? ⟨gb,2,none⟩=some (AB AE hi)/\w'.cell? ⟨gb,3,none⟩=some (AL Au)/\w'.cell? ⟨gb,4,none⟩=some (AB AE un)/\w'.cell? ⟨gb,5,none⟩=some (AA B m d)/\AK wb w')
  (first
   | exact ⟨a1,b0,b1,b2,b3,b4,b5,(Af _ _).drew⟩
   | exact ⟨(hb.cell (p:=⟨ga,1,none⟩) la).trans a1,(hb.cell (p:=⟨gb,0,none⟩) lb).trans b0,(hb.cell (p:=⟨gb,1,none⟩) lb).trans b1,(hb.cell (p:=⟨gb,2,none⟩) lb).trans b2,(hb.cell (p:=⟨gb,3,none⟩) lb).trans b3,(hb.cell (p:=⟨gb,4,none⟩) lb).trans b4,(hb.cell (p:=⟨gb,5,none⟩) lb).trans b5,(Af wb.heap.size wb).drew.trans hb⟩
   | exact ⟨((hc.cell (p:=⟨ga,1,none⟩) (Av la hb.size)).trans (hb.cell (p:=⟨ga,1,none⟩) la)).trans a1,((hc.cell (p:=⟨gb,0,none⟩) (Av lb hb.size)).trans (hb.cell (p:=⟨gb,0,none⟩) lb)).trans b0,((hc.cell (p:=⟨gb,1,none⟩) (Av lb hb.size)).trans (hb.cell (p:=⟨gb,1,none⟩) lb)).trans b1,((hc.cell (p:=⟨gb,2,none⟩) (Av lb hb.size)).trans (hb.cell (p:=⟨gb,2,none⟩) lb)).trans b2,((hc.cell (p:=⟨gb,3,none⟩) (Av lb hb.size)).trans (hb.cell (p:=⟨gb,3,none⟩) lb)).trans b3,((hc.cell (p:=⟨gb,4,none⟩) (Av lb hb.size)).trans (hb.cell (p:=⟨gb,4,none⟩) lb)).trans b4,((hc.cell (p:=⟨gb,5,none⟩) (Av lb hb.size)).trans (hb.cell (p:=⟨gb,5,none⟩) lb)).trans b5,((Af wb.heap.size wb).drew.trans hb).trans (hc.mono hb.size)⟩)
  (first
   | (go_at_call 93;refine (Tm _).mono ?_;rintro e w' ⟨rfl,hb⟩)
   | (go_at_call 136;refine (AB8 3 lo hi un Au B m d n2 _).mono ?_;rintro e w' ⟨rfl,hc⟩))
 exact cp
theorem sC (lo hi un:Int) (Au:ByteArray) (B:Option Aa) (m d:Nat) (ns:List ByteArray) (w:AH) (_hn2:n2<=9223372036854775807) (hs:Ag 1 Dd w (AA B m d) ns):
 AS prog 66 #[(AP #[AA A1 n1 c1,AA A2 n2 c2,AA A3 n3 c3,AA A4 n4 c4,AA A5 n5 c5,AA A6 n6 c6]),AP #[AB AE 4,AB AE lo,AB AE hi,AL Au,AB AE un,AA B m d]] w fun e w'=>
  e=AW (Ab (Jq n2 ⟨4,lo,hi,Au,un,ns⟩))/\AK w w':=by
 obtain ⟨MO,HS⟩:=Al hs.len hs;clear hs;have hix:∀w:AH,(Instr.index 177 Sw (AB AE 4)).run prog w=.ok (.func (.func 137) #[] #[]) w:=fun _=>by kernel_rfl
 go_enter func66,ntmps66;go_wp2_with fail;obtain ⟨wb,hwb⟩:=Ad ((w.alloc (AO #[AA A1 n1 c1,AA A2 n2 c2,AA A3 n3 c3,AA A4 n4 c4,AA A5 n5 c5,AA A6 n6 c6] 137)).alloc (AO #[AB AE 4,AB AE lo,AB AE hi,AL Au,AB AE un,AA B m d] 109));rw [<-hwb];have hbb:AK w wb:=by rw [hwb];exact ((BK _ _).alloc AZ _)
 have kA:AY wb w.heap.size 137 #[AA A1 n1 c1,AA A2 n2 c2,AA A3 n3 c3,AA A4 n4 c4,AA A5 n5 c5,AA A6 n6 c6]:=by rw [hwb];exact (AY.new _ _ _).alloc _
 have kB:AY wb (w.heap.size+1) 109 #[AB AE 4,AB AE lo,AB AE hi,AL Au,AB AE un,AA B m d]:=by rw [hwb];exact Dk AZ
 obtain ⟨ga,hga⟩:=Ad w.heap.size;obtain ⟨gb,hgb⟩:=Ad (w.heap.size+1);rw [<-hgb] at kB ⊢;rw [<-hga] at kA ⊢;obtain ⟨HA,HB,BJ⟩:=BB kA kB hbb;have a1:=kA.cell 1;have b0:=kB.cell 0;have b1:=kB.cell 1;have b2:=kB.cell 2;have b3:=kB.cell 3;have b4:=kB.cell 4;have b5:=kB.cell 5;have la:=kA.lt;have lb:=kB.lt;simp only [Aj,Ao,BA] at a1 b0 b1 b2 b3 b4 b5;clear kA kB hbb hwb hga hgb
 go_region_held3 (fun w'=>w'.cell? ⟨ga,1,none⟩=some (AA A2 n2 c2)/\w'.cell? ⟨gb,0,none⟩=some (AB AE 4)/\w'.cell? ⟨gb,1,none⟩=some (AB AE lo)/\w'.cell? ⟨gb,2,none⟩=some (AB AE hi)/\w'.cell? ⟨gb,3,none⟩=some (AL Au)/\w'.cell? ⟨gb,4,none⟩=some (AB AE un)/\w'.cell? ⟨gb,5,none⟩=some (AA B m d)/\AK wb w')
  (first
   | exact ⟨a1,b0,b1,b2,b3,b4,b5,(Af _ _).drew⟩
   | exact ⟨(hb.cell (p:=⟨ga,1,none⟩) la).trans a1,(hb.cell (p:=⟨gb,0,none⟩) lb).trans b0,(hb.cell (p:=⟨gb,1,none⟩) lb).trans b1,(hb.cell (p:=⟨gb,2,none⟩) lb).trans b2,(hb.cell (p:=⟨gb,3,none⟩) lb).trans b3,(hb.cell (p:=⟨gb,4,none⟩) lb).trans b4,(hb.cell (p:=⟨gb,5,none⟩) lb).trans b5,(Af wb.heap.size wb).drew.trans hb⟩
   | exact ⟨((hc.cell (p:=⟨ga,1,none⟩) (Av la hb.size)).trans (hb.cell (p:=⟨ga,1,none⟩) la)).trans a1,((hc.cell (p:=⟨gb,0,none⟩) (Av lb hb.size)).trans (hb.cell (p:=⟨gb,0,none⟩) lb)).trans b0,((hc.cell (p:=⟨gb,1,none⟩) (Av lb hb.size)).trans (hb.cell (p:=⟨gb,1,none⟩) lb)).trans b1,((hc.cell (p:=⟨gb,2,none⟩) (Av lb hb.size)).trans (hb.cell (p:=⟨gb,2,none⟩) lb)).trans b2,((hc.cell (p:=⟨gb,3,none⟩) (Av lb hb.size)).trans (hb.cell (p:=⟨gb,3,none⟩) lb)).trans b3,((hc.cell (p:=⟨gb,4,none⟩) (Av lb hb.size)).trans (hb.cell (p:=⟨gb,4,none⟩) lb)).trans b4,((hc.cell (p:=⟨gb,5,none⟩) (Av lb hb.size)).trans (hb.cell (p:=⟨gb,5,none⟩) lb)).trans b5,((Af wb.heap.size wb).drew.trans hb).trans (hc.mono hb.size)⟩)
  (first
   | (go_at_call 93;refine (Tm _).mono ?_;rintro e w' ⟨rfl,hb⟩)
   | (go_at_call 137;refine (AB7 4 lo hi un Au B m d n2 ns _ (HS.o.mono BX (AV BJ.o ((Af wb.heap.size wb).drew.trans hb)))).mono ?_;rintro e w' ⟨rfl,hc⟩))
 exact cp
theorem dR (t:Fy) (B:Option Aa) (m d:Nat) (w:AH) (hn2:n2<=9223372036854775807) (hs:Ag 1 Dd w (AA B m d) t.names):
 AS prog 66 #[(AP #[AA A1 n1 c1,AA A2 n2 c2,AA A3 n3 c3,AA A4 n4 c4,AA A5 n5 c5,AA A6 n6 c6]),AP #[AB AE t.kind,AB AE t.lo,AB AE t.hi,AL t.Au,AB AE t.unit,AA B m d]] w fun e w'=>
  e=AW (Ab (Jq n2 t))/\AK w w':=by
 obtain ⟨kd,lo,hi,Au,un,ns⟩:=t;simp only at hs ⊢;by_cases h1:kd=1
 · subst h1;exact sF A1 A2 A3 A4 A5 A6 n1 c1 n2 c2 n3 c3 n4 c4 n5 c5 n6 c6 lo hi un Au B m d ns w hn2 hs
 by_cases h2:kd=2
 · subst h2;exact sE A1 A2 A3 A4 A5 A6 n1 c1 n2 c2 n3 c3 n4 c4 n5 c5 n6 c6 lo hi un Au B m d ns w hn2 hs
 by_cases h3:kd=3
 · subst h3;exact sD A1 A2 A3 A4 A5 A6 n1 c1 n2 c2 n3 c3 n4 c4 n5 c5 n6 c6 lo hi un Au B m d ns w hn2 hs
 by_cases h4:kd=4
 · subst h4;exact sC A1 A2 A3 A4 A5 A6 n1 c1 n2 c2 n3 c3 n4 c4 n5 c5 n6 c6 lo hi un Au B m d ns w hn2 hs
 have hf:Jq n2 ⟨kd,lo,hi,Au,un,ns⟩=false:=by simp [Jq,h1,h2,h3,h4]
 rw [hf];have hk:¬(1<=kd/\kd<=4):=AG
 clear hf h1 h2 h3 h4 hs;go_enter func66,ntmps66;by_cases hlo:kd < 1
 ·go_wp2_with fail
  exact zw
 have hhi:4 < kd:=AG
 go_wp2_with fail;exact zw
def Says {α:Type} (g:Nat) (first cap:Array AN) (R:AH->List AN->α->Prop) (p:α->Bool) (l:List α) (w:AH):Prop:=
 ∀(W:AH) (cs:List AN) (x:α),AK w W->x∈l->R W cs x->AS prog g (first++#[.agg cs.toArray]++cap) W fun e W'=>e=AW (Ab (p x))/\AK W W'
theorem Says.later {α:Type} {g:Nat} {first cap:Array AN} {R:AH->List AN->α->Prop} {p:α->Bool} {l:List α} {w w':AH} (h:Says g first cap R p l w) (hb:AK w w'):Says g first cap R p l w':=
 fun W cs x hW=>h W cs x (AV hb hW)
theorem Says.nil {α:Type} {g:Nat} {first cap:Array AN} {R:AH->List AN->α->Prop} {p:α->Bool} {w:AH}:Says g first cap R p [] w:=fun _ _ _ _ h=>by simp at h
theorem Jy {α:Type} {p:α->Bool} {l:List α} {k:Nat} {x:α} (h:l[k]? =some x) (hp:p x=false):l.all p=false:=by rw [List.all_eq_false];exact ⟨x,Cr h,by simp [hp]⟩
theorem Dq {α:Type} {p:α->Bool} {l:List α} {k:Nat} {x:α} (h:l[k]? =some x) (hp:p x=true) (ht:(l.take k).all p=true):(l.take (k+1)).all p=true:=by rw [take_snoc h,List.all_append,ht];simp [hp]
theorem sj (cs:List AN) (x:Bv) (p:Bv->Bool) (rc:AN) (B:Nat) (w:AH) (hR:CS w cs x) (hB:B < w.heap.size) (hc:w.cell? ⟨B,0,none⟩=some (.func (.func 107) #[rc] #[]))
 (hf:∀W,AK w W->AS prog 107 (#[rc]++#[.agg cs.toArray]++#[]) W fun e W'=>e=AW (Ab (p x))/\AK W W'):
 AS prog 171 #[.agg cs.toArray,AU (some ⟨B,0,none⟩)] w fun e w'=>e=AW (Ab (!p x))/\AK w w':=by
 obtain rfl:cs=_:=hR;have HF:=AF hf;clear hf;go_enter func171,ntmps171;go_wp2_with (go_at_call 107;refine (HF.o _ (BK _ _)).mono ?_;clear HF);exact co
theorem mP (A:Option Aa) (n c:Nat) (l:List Bv) (p:Bv->Bool) (w:AH) (B:Nat) (hl:Ag 5 CS w (AA A n c) l) (hf:Says 171 #[] #[AU (some ⟨B,0,none⟩)] CS (fun x=> !p x) l w):
 AS prog 222 #[AA A n c,.func (.func 171) #[] #[AU (some ⟨B,0,none⟩)]] w fun e w'=>(∃i:Int,e=AW (AB AE i)/\decide (0<=i)= !l.all p)/\AK w w':=by
 have hn2:n<=9223372036854775807:=by have:=hl.le;omega
 obtain ⟨HN,HL,HF⟩:=BB hl.len hl hf;clear hl hf;go_enter func222,ntmps222;go_wp2_with fail;go_loopg [8] n (fun q i wr=>∃k:Nat,k<=n/\q=n - k/\i=AB AE k/\(l.take k).all p=true/\AK w wr)
 case atStart=>exact N3
 obtain ⟨k,hk,hq,rfl,hv,hb⟩:=hrel;obtain ⟨HQ,HB,HV⟩:=BB hq hb hv;clear hq hb hv;by_cases hlt:k < n
 ·obtain ⟨b,off,x,rfl,hbl,hx,e0,e1,e2,e3,e4⟩:=OE (HL.o.mono Bq HB.o) hlt
  have HX:=AF hx;have hkn:(k:Int) < (n:Int):=AG
  have hk0:=Int.natCast_nonneg k
  have HC:=AF (HF.o wr [AL x.name,AL x.Au,AB AE x.factor,AB AE x.base,AB AE x.scale] x HB.o (Cr hx) rfl);clear hx;go_wp2_with (go_at_call 171;refine HC.o.mono ?_;clear HC);rintro e w1 rfl hb1;have HB1:=AF (AV HB.o hb1);obtain ⟨v,hv⟩:=BR (p x);have HP:=AF hv;rw [hv];clear hv hb1;cases v with
  |
   true=>
   go_wp2;go_roundg (n - (k+1))
   case measure=>exact Bi
   case rel=>exact ⟨k+1,by omega,rfl,by go_num,Dq HX.o HP.o HV.o,HB1.o⟩
  |
   false=>
   exact XR
 exact XO
theorem cC (A:Option Aa) (n c:Nat) (l:List Bv) (p:Bv->Bool) (w:AH) (B:Nat) (hl:Ag 5 CS w (AA A n c) l) (hf:Says 171 #[] #[AU (some ⟨B,0,none⟩)] CS (fun x=> !p x) l w):
 AS prog 170 #[AA A n c,.func (.func 171) #[] #[AU (some ⟨B,0,none⟩)]] w fun e w'=>e=AW (Ab (!l.all p))/\AK w w':=by
 go_enter func170,ntmps170;go_wp2_with fail;refine (mP A n c l p w B hl hf).mono ?_;exact XM
theorem tR (A:Option Aa) (n c:Nat) (l:List Bv) (p:Bv->Bool) (w:AH) (rc:AN) (hl:Ag 5 CS w (AA A n c) l) (hf:Says 107 #[rc] #[] CS p l w):
 AS prog 106 #[AA A n c,.func (.func 107) #[rc] #[]] w fun e w'=>e=AW (Ab (l.all p))/\AK w w':=by
 obtain ⟨HL,HF⟩:=Al hl hf;clear hl hf;have hmf:∀(fn:Fn) (first cap:Array AN) (w:AH),(Instr.makeFunc fn first cap).run prog w=.ok (.func fn first cap) w:=fun _ _ _ _=>rfl;go_enter func106,ntmps106;go_wp2_with fail;have hal:AK w (w.alloc (AO #[.func (.func 107) #[rc] #[]] 202)):=(Af _ _).alloc (Ac _) _;have hk:AY (w.alloc (AO #[.func (.func 107) #[rc] #[]] 202)) w.heap.size 202 #[.func (.func 107) #[rc] #[]]:=AY.new _ _ _;have hs:w.heap.size < (w.alloc (AO #[.func (.func 107) #[rc] #[]] 202)).heap.size:=AZ
 have hc:=hk.cell 0;simp only [Aj,Ao] at hc;refine (cC A n c l p _ w.heap.size (HL.o.mono Bq hal) (fun W cs x hW hx hR=> ?_)).mono ?_
 · exact sj cs x p _ w.heap.size W hR (Av hs hW.size) ((hW.cell (p:=⟨w.heap.size,0,none⟩) hs).trans hc) (fun W' hW'=>HF.o W' cs x ((AV hal hW).trans (hW'.mono (BH hal.size hW.size))) hx (Bq _ _ hW' _ _ hR))
 exact cm
theorem mO (cs:List AN) (x:BM) (p:BM->Bool) (rc:AN) (B:Nat) (w:AH) (hR:BW w cs x) (hB:B < w.heap.size) (hc:w.cell? ⟨B,0,none⟩=some (.func (.func 109) #[rc] #[]))
 (hf:∀W,AK w W->AS prog 109 (#[rc]++#[.agg cs.toArray]++#[]) W fun e W'=>e=AW (Ab (p x))/\AK W W'):
 AS prog 173 #[.agg cs.toArray,AU (some ⟨B,0,none⟩)] w fun e w'=>e=AW (Ab (!p x))/\AK w w':=by
 obtain ⟨A1,n1,c1,A2,n2,c2,rfl,g1,g2⟩:=hR;have HF:=AF hf;clear hf g1 g2;go_enter func173,ntmps173;go_wp2_with (go_at_call 109;refine (HF.o _ (BK _ _)).mono ?_;clear HF);exact co
theorem eG (A:Option Aa) (n c:Nat) (l:List BM) (p:BM->Bool) (w:AH) (B:Nat) (hl:Ag 6 BW w (AA A n c) l) (hf:Says 173 #[] #[AU (some ⟨B,0,none⟩)] BW (fun x=> !p x) l w):
 AS prog 223 #[AA A n c,.func (.func 173) #[] #[AU (some ⟨B,0,none⟩)]] w fun e w'=>(∃i:Int,e=AW (AB AE i)/\decide (0<=i)= !l.all p)/\AK w w':=by
 have hn2:n<=9223372036854775807:=by have:=hl.le;omega
 obtain ⟨HN,HL,HF⟩:=BB hl.len hl hf;clear hl hf;go_enter func223,ntmps223;go_wp2_with fail;go_loopg [8] n (fun q i wr=>∃k:Nat,k<=n/\q=n - k/\i=AB AE k/\(l.take k).all p=true/\AK w wr)
 case atStart=>exact N3
 obtain ⟨k,hk,hq,rfl,hv,hb⟩:=hrel;obtain ⟨HQ,HB,HV⟩:=BB hq hb hv;clear hq hb hv;by_cases hlt:k < n
 ·obtain ⟨b,off,x,A1,n1,c1,A2,n2,c2,rfl,hbl,hx,e0,e1,e2,e3,e4,e5,g1,g2⟩:=GL (HL.o.mono BP HB.o) hlt
  have HX:=AF hx;have hkn:(k:Int) < (n:Int):=AG
  have hk0:=Int.natCast_nonneg k
  have HC:=AF (HF.o wr [AL x.name,AL x.FX,AB AE x.Ar,AB AE x.version,AA A1 n1 c1,AA A2 n2 c2] x HB.o (Cr hx) ⟨A1,n1,c1,A2,n2,c2,rfl,g1,g2⟩);clear hx g1 g2;go_wp2_with (go_at_call 173;refine HC.o.mono ?_;clear HC);rintro e w1 rfl hb1;have HB1:=AF (AV HB.o hb1);obtain ⟨v,hv⟩:=BR (p x);have HP:=AF hv;rw [hv];clear hv hb1;cases v with
  |
   true=>
   go_wp2;go_roundg (n - (k+1))
   case measure=>exact Bi
   case rel=>exact ⟨k+1,by omega,rfl,by go_num,Dq HX.o HP.o HV.o,HB1.o⟩
  |
   false=>
   exact XR
 exact XO
theorem YS (A:Option Aa) (n c:Nat) (l:List BM) (p:BM->Bool) (w:AH) (B:Nat) (hl:Ag 6 BW w (AA A n c) l) (hf:Says 173 #[] #[AU (some ⟨B,0,none⟩)] BW (fun x=> !p x) l w):
 AS prog 172 #[AA A n c,.func (.func 173) #[] #[AU (some ⟨B,0,none⟩)]] w fun e w'=>e=AW (Ab (!l.all p))/\AK w w':=by
 go_enter func172,ntmps172;go_wp2_with fail;refine (eG A n c l p w B hl hf).mono ?_;exact XM
theorem mY (A:Option Aa) (n c:Nat) (l:List BM) (p:BM->Bool) (w:AH) (rc:AN) (hl:Ag 6 BW w (AA A n c) l) (hf:Says 109 #[rc] #[] BW p l w):
 AS prog 108 #[AA A n c,.func (.func 109) #[rc] #[]] w fun e w'=>e=AW (Ab (l.all p))/\AK w w':=by
 obtain ⟨HL,HF⟩:=Al hl hf;clear hl hf;have hmf:∀(fn:Fn) (first cap:Array AN) (w:AH),(Instr.makeFunc fn first cap).run prog w=.ok (.func fn first cap) w:=fun _ _ _ _=>rfl;go_enter func108,ntmps108;go_wp2_with fail;have hal:AK w (w.alloc (AO #[.func (.func 109) #[rc] #[]] 204)):=(Af _ _).alloc (Ac _) _;have hk:AY (w.alloc (AO #[.func (.func 109) #[rc] #[]] 204)) w.heap.size 204 #[.func (.func 109) #[rc] #[]]:=AY.new _ _ _;have hs:w.heap.size < (w.alloc (AO #[.func (.func 109) #[rc] #[]] 204)).heap.size:=AZ
 have hc:=hk.cell 0;simp only [Aj,Ao] at hc;refine (YS A n c l p _ w.heap.size (HL.o.mono BP hal) (fun W cs x hW hx hR=> ?_)).mono ?_
 · exact mO cs x p _ w.heap.size W hR (Av hs hW.size) ((hW.cell (p:=⟨w.heap.size,0,none⟩) hs).trans hc) (fun W' hW'=>HF.o W' cs x ((AV hal hW).trans (hW'.mono (BH hal.size hW.size))) hx (BP _ _ hW' _ _ hR))
 exact cm
theorem sm (cs:List AN) (x:Cm) (p:Cm->Bool) (pc:Aa) (B:Nat) (w:AH) (hR:CT w cs x) (hB:B < w.heap.size) (hc:w.cell? ⟨B,0,none⟩=some (.func (.func 104) #[] #[AU (some pc)]))
 (hf:∀W,AK w W->AS prog 104 (#[]++#[.agg cs.toArray]++#[AU (some pc)]) W fun e W'=>e=AW (Ab (p x))/\AK W W'):
 AS prog 175 #[.agg cs.toArray,AU (some ⟨B,0,none⟩)] w fun e w'=>e=AW (Ab (!p x))/\AK w w':=by
 obtain ⟨A1,n1,c1,A2,n2,c2,A3,n3,c3,rfl,g1,g2,g3⟩:=hR;have HF:=AF hf;clear hf g1 g2 g3;go_enter func175,ntmps175;go_wp2_with (go_at_call 104;refine (HF.o _ (BK _ _)).mono ?_;clear HF);exact co
theorem mQ (A:Option Aa) (n c:Nat) (l:List Cm) (p:Cm->Bool) (w:AH) (B:Nat) (hl:Ag 5 CT w (AA A n c) l) (hf:Says 175 #[] #[AU (some ⟨B,0,none⟩)] CT (fun x=> !p x) l w):
 AS prog 224 #[AA A n c,.func (.func 175) #[] #[AU (some ⟨B,0,none⟩)]] w fun e w'=>(∃i:Int,e=AW (AB AE i)/\decide (0<=i)= !l.all p)/\AK w w':=by
 have hn2:n<=9223372036854775807:=by have:=hl.le;omega
 obtain ⟨HN,HL,HF⟩:=BB hl.len hl hf;clear hl hf;go_enter func224,ntmps224;go_wp2_with fail;go_loopg [8] n (fun q i wr=>∃k:Nat,k<=n/\q=n - k/\i=AB AE k/\(l.take k).all p=true/\AK w wr)
 case atStart=>exact N3
 obtain ⟨k,hk,hq,rfl,hv,hb⟩:=hrel;obtain ⟨HQ,HB,HV⟩:=BB hq hb hv;clear hq hb hv;by_cases hlt:k < n
 ·obtain ⟨b,off,x,A1,n1,c1,A2,n2,c2,A3,n3,c3,rfl,hbl,hx,e0,e1,e2,e3,e4,g1,g2,g3⟩:=QB (HL.o.mono Bf HB.o) hlt
  have HX:=AF hx;have hkn:(k:Int) < (n:Int):=AG
  have hk0:=Int.natCast_nonneg k
  have HC:=AF (HF.o wr [AL x.head,AB AE x.schema,AA A1 n1 c1,AA A2 n2 c2,AA A3 n3 c3] x HB.o (Cr hx) ⟨A1,n1,c1,A2,n2,c2,A3,n3,c3,rfl,g1,g2,g3⟩);clear hx g1 g2 g3;go_wp2_with (go_at_call 175;refine HC.o.mono ?_;clear HC);rintro e w1 rfl hb1;have HB1:=AF (AV HB.o hb1);obtain ⟨v,hv⟩:=BR (p x);have HP:=AF hv;rw [hv];clear hv hb1;cases v with
  |
   true=>
   go_wp2;go_roundg (n - (k+1))
   case measure=>exact Bi
   case rel=>exact ⟨k+1,by omega,rfl,by go_num,Dq HX.o HP.o HV.o,HB1.o⟩
  |
   false=>
   exact XR
 exact XO
theorem cD (A:Option Aa) (n c:Nat) (l:List Cm) (p:Cm->Bool) (w:AH) (B:Nat) (hl:Ag 5 CT w (AA A n c) l) (hf:Says 175 #[] #[AU (some ⟨B,0,none⟩)] CT (fun x=> !p x) l w):
 AS prog 174 #[AA A n c,.func (.func 175) #[] #[AU (some ⟨B,0,none⟩)]] w fun e w'=>e=AW (Ab (!l.all p))/\AK w w':=by
 go_enter func174,ntmps174;go_wp2_with fail;refine (mQ A n c l p w B hl hf).mono ?_;exact XM
theorem tS (A:Option Aa) (n c:Nat) (l:List Cm) (p:Cm->Bool) (w:AH) (pc:Aa) (hl:Ag 5 CT w (AA A n c) l) (hf:Says 104 #[] #[AU (some pc)] CT p l w):
 AS prog 110 #[AA A n c,.func (.func 104) #[] #[AU (some pc)]] w fun e w'=>e=AW (Ab (l.all p))/\AK w w':=by
 obtain ⟨HL,HF⟩:=Al hl hf;clear hl hf;have hmf:∀(fn:Fn) (first cap:Array AN) (w:AH),(Instr.makeFunc fn first cap).run prog w=.ok (.func fn first cap) w:=fun _ _ _ _=>rfl;go_enter func110,ntmps110;go_wp2_with fail;have hal:AK w (w.alloc (AO #[.func (.func 104) #[] #[AU (some pc)]] 198)):=(Af _ _).alloc (Ac _) _;have hk:AY (w.alloc (AO #[.func (.func 104) #[] #[AU (some pc)]] 198)) w.heap.size 198 #[.func (.func 104) #[] #[AU (some pc)]]:=AY.new _ _ _;have hs:w.heap.size < (w.alloc (AO #[.func (.func 104) #[] #[AU (some pc)]] 198)).heap.size:=AZ
 have hc:=hk.cell 0;simp only [Aj,Ao] at hc;refine (cD A n c l p _ w.heap.size (HL.o.mono Bf hal) (fun W cs x hW hx hR=> ?_)).mono ?_
 · exact sm cs x p _ w.heap.size W hR (Av hs hW.size) ((hW.cell (p:=⟨w.heap.size,0,none⟩) hs).trans hc) (fun W' hW'=>HF.o W' cs x ((AV hal hW).trans (hW'.mono (BH hal.size hW.size))) hx (Bf _ _ hW' _ _ hR))
 exact cm
theorem iX (cs:List AN) (x:Cl) (p:Cl->Bool) (rc:AN) (B:Nat) (w:AH) (hR:BZ w cs x) (hB:B < w.heap.size) (hc:w.cell? ⟨B,0,none⟩=some (.func (.func 112) #[rc] #[]))
 (hf:∀W,AK w W->AS prog 112 (#[rc]++#[.agg cs.toArray]++#[]) W fun e W'=>e=AW (Ab (p x))/\AK W W'):
 AS prog 176 #[.agg cs.toArray,AU (some ⟨B,0,none⟩)] w fun e w'=>e=AW (Ab (!p x))/\AK w w':=by
 obtain ⟨A1,n1,c1,rfl,g1⟩:=hR;have HF:=AF hf;clear hf g1;go_enter func176,ntmps176;go_wp2_with (go_at_call 112;refine (HF.o _ (BK _ _)).mono ?_;clear HF);exact co
theorem bN (A:Option Aa) (n c:Nat) (l:List Cl) (p:Cl->Bool) (w:AH) (B:Nat) (hl:Ag 3 BZ w (AA A n c) l) (hf:Says 176 #[] #[AU (some ⟨B,0,none⟩)] BZ (fun x=> !p x) l w):
 AS prog 218 #[AA A n c,.func (.func 176) #[] #[AU (some ⟨B,0,none⟩)]] w fun e w'=>(∃i:Int,e=AW (AB AE i)/\decide (0<=i)= !l.all p)/\AK w w':=by
 have hn2:n<=9223372036854775807:=by have:=hl.le;omega
 obtain ⟨HN,HL,HF⟩:=BB hl.len hl hf;clear hl hf;go_enter func218,ntmps218;go_wp2_with fail;go_loopg [8] n (fun q i wr=>∃k:Nat,k<=n/\q=n - k/\i=AB AE k/\(l.take k).all p=true/\AK w wr)
 case atStart=>exact N3
 obtain ⟨k,hk,hq,rfl,hv,hb⟩:=hrel;obtain ⟨HQ,HB,HV⟩:=BB hq hb hv;clear hq hb hv;by_cases hlt:k < n
 ·obtain ⟨b,off,x,A1,n1,c1,rfl,hbl,hx,e0,e1,e2,g1⟩:=MX (HL.o.mono BQ HB.o) hlt
  have HX:=AF hx;have hkn:(k:Int) < (n:Int):=AG
  have hk0:=Int.natCast_nonneg k
  have HC:=AF (HF.o wr [AL x.name,AA A1 n1 c1,AB AE x.most] x HB.o (Cr hx) ⟨A1,n1,c1,rfl,g1⟩);clear hx g1;go_wp2_with (go_at_call 176;refine HC.o.mono ?_;clear HC);rintro e w1 rfl hb1;have HB1:=AF (AV HB.o hb1);obtain ⟨v,hv⟩:=BR (p x);have HP:=AF hv;rw [hv];clear hv hb1;cases v with
  |
   true=>
   go_wp2;go_roundg (n - (k+1))
   case measure=>exact Bi
   case rel=>exact ⟨k+1,by omega,rfl,by go_num,Dq HX.o HP.o HV.o,HB1.o⟩
  |
   false=>
   exact XR
 exact XO
theorem XL (A:Option Aa) (n c:Nat) (l:List Cl) (p:Cl->Bool) (w:AH) (B:Nat) (hl:Ag 3 BZ w (AA A n c) l) (hf:Says 176 #[] #[AU (some ⟨B,0,none⟩)] BZ (fun x=> !p x) l w):
 AS prog 164 #[AA A n c,.func (.func 176) #[] #[AU (some ⟨B,0,none⟩)]] w fun e w'=>e=AW (Ab (!l.all p))/\AK w w':=by
 go_enter func164,ntmps164;go_wp2_with fail;refine (bN A n c l p w B hl hf).mono ?_;exact XM
theorem jB (A:Option Aa) (n c:Nat) (l:List Cl) (p:Cl->Bool) (w:AH) (rc:AN) (hl:Ag 3 BZ w (AA A n c) l) (hf:Says 112 #[rc] #[] BZ p l w):
 AS prog 111 #[AA A n c,.func (.func 112) #[rc] #[]] w fun e w'=>e=AW (Ab (l.all p))/\AK w w':=by
 obtain ⟨HL,HF⟩:=Al hl hf;clear hl hf;have hmf:∀(fn:Fn) (first cap:Array AN) (w:AH),(Instr.makeFunc fn first cap).run prog w=.ok (.func fn first cap) w:=fun _ _ _ _=>rfl;go_enter func111,ntmps111;go_wp2_with fail;have hal:AK w (w.alloc (AO #[.func (.func 112) #[rc] #[]] 207)):=(Af _ _).alloc (Ac _) _;have hk:AY (w.alloc (AO #[.func (.func 112) #[rc] #[]] 207)) w.heap.size 207 #[.func (.func 112) #[rc] #[]]:=AY.new _ _ _;have hs:w.heap.size < (w.alloc (AO #[.func (.func 112) #[rc] #[]] 207)).heap.size:=AZ
 have hc:=hk.cell 0;simp only [Aj,Ao] at hc;refine (XL A n c l p _ w.heap.size (HL.o.mono BQ hal) (fun W cs x hW hx hR=> ?_)).mono ?_
 · exact iX cs x p _ w.heap.size W hR (Av hs hW.size) ((hW.cell (p:=⟨w.heap.size,0,none⟩) hs).trans hc) (fun W' hW'=>HF.o W' cs x ((AV hal hW).trans (hW'.mono (BH hal.size hW.size))) hx (BQ _ _ hW' _ _ hR))
 exact cm
theorem AK4 {a b c d:Int}:([a,b,c,d]:AQ).all Dm=(Dm a && (Dm b && (Dm c && Dm d))):=by simp
theorem oR (
 A1 A2 A3 A4 A5 A6:Option Aa) (n1 c1 n2 c2 n3 c3 n4 c4 n5 c5 n6 c6:Nat) (s:BM) (fA dA:Option Aa) (nf cf nd cd:Nat) (w:AH) (_hn1:n1<=9223372036854775807) (hn2:n2<=9223372036854775807) (hf:Ag 11 Eg w (AA fA nf cf) s.fields):
 AS prog 109 #[(AP #[AA A1 n1 c1,AA A2 n2 c2,AA A3 n3 c3,AA A4 n4 c4,AA A5 n5 c5,AA A6 n6 c6]),AP #[AL s.name,AL s.FX,AB AE s.Ar,AB AE s.version,AA fA nf cf,AA dA nd cd]] w fun e w'=>
  e=AW (Ab (D5 n1 n2 s))/\AK w w':=by
 have hnf:nf<=9223372036854775807:=by have:=hf.le;omega
 have hlen:=hf.len;have HF:=AF hf;clear hf;by_cases hG:0<=s.Ar/\s.Ar < n1/\1<=s.version/\s.version<=255/\1<=nf/\nf<=12
 case neg=>
  have hfl:D5 n1 n2 s=false:=by
   cases h:D5 n1 n2 s with
   | false=>rfl
   |
    true=>
    simp only [D5,Bb,By] at h;omega
  rw [hfl];have HLEN:=AF hlen;clear hfl hlen;by_cases hnz:1<=nf
  ·obtain ⟨b,off,x,B1,m1,d1,rfl,hbl,hx,e0,e1,e2,e3,e4,e5,e6,e7,e8,e9,e10,g1⟩:=Iz HF.o (k:=0) AG
   clear hx g1;exact nT
  obtain rfl:nf=0:=AG
  exact nT
 obtain ⟨i0,i1,v0,v1,l0,l1⟩:=hG;obtain ⟨b0,o0,x0,C1,p1,q1,rfl,AMY,hx0,z0,z1,z2,z3,z4,z5,z6,z7,z8,z9,z10,y1⟩:=Iz HF.o (k:=0) AG;by_cases hk3:x0.type.kind=3
 case neg=>
  have hfl:D5 n1 n2 s=false:=by simp [D5,hx0,hk3]
  rw [hfl];have hkb:(x0.type.kind !=3)=true:=by simp [hk3]
  clear hfl hx0 y1 hlen;exact nT
 have hfl:D5 n1 n2 s=s.fields.all (Km n2):=by simp [D5,hx0,hk3,i0,i1,v0,v1,<-hlen,l0,l1]
 rw [hfl];clear hfl hx0 y1;have HLEN:=AF hlen;clear hlen;go_enter func109,ntmps109;go_wp2_with fail;clear z0 z1 z2 z3 z4 z5 z6 z7 z8 z9 z10;obtain ⟨wb,hwb⟩:=Ad ((w.alloc (AO #[AA A1 n1 c1,AA A2 n2 c2,AA A3 n3 c3,AA A4 n4 c4,AA A5 n5 c5,AA A6 n6 c6] 137)).alloc (AO #[AL s.name,AL s.FX,AB AE s.Ar,AB AE s.version,AA (some ⟨b0,o0,none⟩) nf cf,AA dA nd cd] 85));rw [<-hwb];have hbb:AK w wb:=by rw [hwb];exact ((BK _ _).alloc AZ _)
 have kA:AY wb w.heap.size 137 #[AA A1 n1 c1,AA A2 n2 c2,AA A3 n3 c3,AA A4 n4 c4,AA A5 n5 c5,AA A6 n6 c6]:=by rw [hwb];exact (AY.new _ _ _).alloc _
 obtain ⟨ga,hga⟩:=Ad w.heap.size;rw [<-hga] at kA ⊢;have la:=kA.lt;obtain ⟨HA,BJ⟩:=Al kA hbb;clear kA hbb hwb hga;go_loopg [55] nf (fun q i wr=>∃k:Nat,k<=nf/\q=nf - k/\i=AB AE k/\(s.fields.take k).all (Km n2)=true/\AK wb wr)
 case atStart=>exact N3
 obtain ⟨k,hk,hq,rfl,hv,hb⟩:=hrel;obtain ⟨HQ,DK,HV⟩:=BB hq hb hv;have kA:=HA.o.below hb la;have lar:=kA.lt;have a0:=kA.cell 0;have a1:=kA.cell 1;have a2:=kA.cell 2;have a3:=kA.cell 3;have a4:=kA.cell 4;have a5:=kA.cell 5;simp only [Aj,Ao,BA] at a0 a1 a2 a3 a4 a5;clear kA hq hb hv;by_cases hlt:k < nf
 ·obtain ⟨b,off,x,B1,m1,d1,j7,hbl,hx,e0,e1,e2,e3,e4,e5,e6,e7,e8,e9,e10,g1⟩:=Iz (HF.o.mono DC (AV BJ.o DK.o)) hlt
  obtain ⟨rfl,rfl⟩:b0=b/\o0=off:=by simpa using j7
  obtain ⟨HX,G1⟩:=Al hx g1;have hkn:(k:Int) < (nf:Int):=AG
  have hk0:=Int.natCast_nonneg k
  clear hx g1 j7;go_wp2_with (go_at_call 66;refine (dR A1 A2 A3 A4 A5 A6 n1 c1 n2 c2 n3 c3 n4 c4 n5 c5 n6 c6 x.type B1 m1 d1 _ hn2 (G1.o.1.mono BX (BK _ _))).mono ?_);rintro e w1 ⟨rfl,hb1⟩;have HB1:=AF (AV DK.o ((BK _ _).trans (hb1.mono AZ)));obtain ⟨tv,htv⟩:=BR (Jq n2 x.type);have HTV:=AF htv;rw [htv];have f0:=(hb1.cell (p:=⟨wr.heap.size,7,none⟩) AZ);have f1:=(hb1.cell (p:=⟨wr.heap.size,8,none⟩) AZ);have f2:=(hb1.cell (p:=⟨wr.heap.size,9,none⟩) AZ);have f3:=(hb1.cell (p:=⟨wr.heap.size,10,none⟩) AZ);simp only [World.cell?_alloc_at,Aj,Ao,BA] at f0 f1 f2 f3;have hz:wr.heap.size < w1.heap.size:=by have:=hb1.size;simp at this;omega
  clear htv hb1 e0 e1 e2 e3 e4 e5 e6 e7 e8 e9 e10 a0 a1 a2 a3 a4 a5;cases tv with
  |
   false=>
   go_wp2;go_ret;exact ⟨A8 (Jy HX.o (by simp [Km,HTV.o])).symm,AV BJ.o HB1.o⟩
  |
   true=>
   have hi0:∀w:AH,(Instr.index 110 (AP #[AB AE x.w0,AB AE x.w1,AB AE x.w2,AB AE x.w3]) (AB AE 0)).run prog w=.ok (AB AE x.w0) w:=fun _=>by kernel_rfl
   have hi1:∀w:AH,(Instr.index 110 (AP #[AB AE x.w0,AB AE x.w1,AB AE x.w2,AB AE x.w3]) (AB AE 1)).run prog w=.ok (AB AE x.w1) w:=fun _=>by kernel_rfl
   have hi2:∀w:AH,(Instr.index 110 (AP #[AB AE x.w0,AB AE x.w1,AB AE x.w2,AB AE x.w3]) (AB AE 2)).run prog w=.ok (AB AE x.w2) w:=fun _=>by kernel_rfl
   have hi3:∀w:AH,(Instr.index 110 (AP #[AB AE x.w0,AB AE x.w1,AB AE x.w2,AB AE x.w3]) (AB AE 3)).run prog w=.ok (AB AE x.w3) w:=fun _=>by kernel_rfl
   go_wp2_with fail;go_loopg [66] 4 (fun q i wq=>∃j:Nat,j<=4/\q=4 - j/\i=AB AE j/\(([x.w0,x.w1,x.w2,x.w3]:AQ).take j).all Dm=true/\wq=w1)
   case atStart=>exact ⟨0,Ay _,rfl,rfl,rfl,rfl⟩
   obtain ⟨j,hj,hq,rfl,hv,rfl⟩:=hrel;obtain ⟨Ks,EJ⟩:=Al hq hv;clear hq hv;by_cases hj4:j < 4
   ·obtain h0 | h0 | h0 | h0:j=0\/j=1\/j=2\/j=3:=by omega
    ·subst h0
     by_cases hwk:0<=x.w0/\x.w0<=9
     ·obtain ⟨hwa,hwb⟩:=hwk
      go_wp2;go_roundg (4 - (0+1))
      case measure=>exact MJ
      case rel=>exact ⟨0+1,by omega,rfl,by go_num,by have:=EJ.o;simp [Dm] at this ⊢;simp [*],rfl⟩
     go_wp2_with fail
     all_goals
      go_ret;exact ⟨A8 (Jy HX.o (by
       have hw0:Dm x.w0=false:=by simp only [Dm,NJ,NK];omega
       simp [Km,hw0])).symm,AV BJ.o HB1.o⟩
    ·subst h0
     by_cases hwk:0<=x.w1/\x.w1<=9
     ·obtain ⟨hwa,hwb⟩:=hwk
      go_wp2;go_roundg (4 - (1+1))
      case measure=>exact MJ
      case rel=>exact ⟨1+1,by omega,rfl,by go_num,by have:=EJ.o;simp [Dm] at this ⊢;simp [*],rfl⟩
     go_wp2_with fail
     all_goals
      go_ret;exact ⟨A8 (Jy HX.o (by
       have hw0:Dm x.w1=false:=by simp only [Dm,NJ,NK];omega
       simp [Km,hw0])).symm,AV BJ.o HB1.o⟩
    ·subst h0
     by_cases hwk:0<=x.w2/\x.w2<=9
     ·obtain ⟨hwa,hwb⟩:=hwk
      go_wp2;go_roundg (4 - (2+1))
      case measure=>exact MJ
      case rel=>exact ⟨2+1,by omega,rfl,by go_num,by have:=EJ.o;simp [Dm] at this ⊢;simp [*],rfl⟩
     go_wp2_with fail
     all_goals
      go_ret;exact ⟨A8 (Jy HX.o (by
       have hw0:Dm x.w2=false:=by simp only [Dm,NJ,NK];omega
       simp [Km,hw0])).symm,AV BJ.o HB1.o⟩
    subst h0;by_cases hwk:0<=x.w3/\x.w3<=9
    ·obtain ⟨hwa,hwb⟩:=hwk
     go_wp2;go_roundg (4 - (3+1))
     case measure=>exact MJ
     case rel=>exact ⟨3+1,by omega,rfl,by go_num,by have:=EJ.o;simp [Dm] at this ⊢;simp [*],rfl⟩
    go_wp2_with fail
    all_goals
     go_ret;exact ⟨A8 (Jy HX.o (by
      have hw0:Dm x.w3=false:=by simp only [Dm,NJ,NK];omega
      simp [Km,hw0])).symm,AV BJ.o HB1.o⟩
   obtain rfl:j=4:=AG
   have ll:AI (Km n2 x=true):=AF (by have:=EJ.o;rw [C7 AZ,AK4] at this;simp [Km,HTV.o,this])
   go_wp2;go_roundg (nf - (k+1))
   case measure=>exact Bi
   case rel=>exact ⟨k+1,by omega,rfl,by go_num,Dq HX.o ll.o HV.o,HB1.o⟩
 have HT:AI (s.fields.all (Km n2)=true):=by have:=HV.o;rw [C7 SQ] at this;exact this
 go_wp2;go_ret;exact ⟨A8 HT.o.symm,AV BJ.o DK.o⟩
def typeAt (ss:List BM) (s f:Int):Option Fy:=
 if s < 0\/f < 0 then none else (ss[s.toNat]?).bind fun x=>(x.fields[f.toNat]?).map fun y=>y.type
def Fv (ss:List BM) (p:Cl):Bool:=p.may.all (fun r=>(typeAt ss r.schema r.field).isSome) && decide (0<=p.most) && decide (p.most<=64)
def isNum (t:EF):Bool:=decide (t.var= -1) && decide (0<=t.n) && decide (t.n<=1048576)
def GF (ss:List BM) (froms:List CO) (t:EF) (vars:Nat):Option Fy:=
 if t.var < 0\/(vars:Int)<=t.var then none else (froms[t.var.toNat]?).bind fun f=>typeAt ss f.schema t.field
def Q5 (us:List Bv) (u:Int):Int:=((us[u.toNat]?).map fun x=>x.base).getD 0
def Le (us:List Bv) (a b:Fy):Bool:=
 if a.kind≠b.kind then false
 else if a.kind=4 then decide (a.names=b.names)
 else if a.kind≠1\/a.unit= -1\/b.unit= -1 then decide (a.unit=b.unit)
 else decide (Q5 us a.unit=Q5 us b.unit)
def Mz (ss:List BM) (froms:List CO) (i:Nat) (f:CO):Bool:=
 decide (0<=f.schema) && decide (f.schema < ss.length) && (decide (f.Au.var= -1) || (GF ss froms f.Au i).any fun t=>decide (t.kind=3))
def Ic (ss:List BM) (froms:List CO):Bool:=
 decide (1<=froms.length) && decide (froms.length<=3) && (List.range froms.length).all fun i=>(froms[i]?).any fun f=>Mz ss froms i f
def QD (t:Fy):Bool:=decide (t.kind=1) || decide (t.kind=2)
def M4 (us:List Bv) (ss:List BM) (froms:List CO) (a:Iv):Bool:=
 let x:=GF ss froms a.a froms.length
 let y:=GF ss froms a.b froms.length
 decide (1<=a.op) && decide (a.op<=4) && (x.isSome || isNum a.a) && (y.isSome || isNum a.b) && (x.isSome || y.isSome) &&
  (match x,y with | some s,some t=>Le us s t | _,_=>true) &&
  (!(decide (a.op=2) || decide (a.op=3)) || ((x.all QD) && y.all QD))
def V6 (ss:List BM) (froms:List CO) (f:Fy) (t:EF):Bool:=
 if isNum t then decide (f.lo<=t.n) && decide (t.n<=f.hi)
 else (GF ss froms t froms.length).any fun y=>decide (y.kind=f.kind) && decide (y.unit=f.unit) && decide (y.names=f.names) && decide (f.lo<=y.lo) && decide (y.lo<=f.hi) && decide (f.lo<=y.hi) && decide (y.hi<=f.hi)
def LW (ss:List BM) (froms:List CO) (head:Int) (s:Ma):Bool:=
 (typeAt ss head s.field).any fun f=>decide (s.field≠0) && V6 ss froms f s.term
def JP (us:List Bv) (ss:List BM) (r:Cm):Bool:=
 Ic ss r.froms && decide (r.C0.length<=8) && r.C0.all (M4 us ss r.froms) && decide (0<=r.schema) && ((ss[r.schema.toNat]?).any fun h=>decide (r.sets.length+1=h.fields.length)) &&
  r.sets.all (LW ss r.froms r.schema) && Dw [] (r.sets.map fun s=>s.field)
def FU (s:BG):Int:=
 if !FW s then 2
 else if s.units.all (Mq s.units) && s.Aq.all (D5 s.Bh.length s.units.length) && s.rules.all (JP s.units s.Aq) && s.purposes.all (Fv s.Aq) then 0
 else 120
theorem pV (A:Option Aa) (n c:Nat) (l:List Cl) (p:Cl->Bool) (w:AH) (hl:Ag 3 BZ w (AA A n c) l) (hf:Says 165 #[] #[] BZ (fun x=> !p x) l w):
 AS prog 218 #[AA A n c,.func (.func 165) #[] #[]] w fun e w'=>(∃i:Int,e=AW (AB AE i)/\decide (0<=i)= !l.all p)/\AK w w':=by
 have hn2:n<=9223372036854775807:=by have:=hl.le;omega
 obtain ⟨HN,HL,HF⟩:=BB hl.len hl hf;clear hl hf;go_enter func218,ntmps218;go_wp2_with fail;go_loopg [8] n (fun q i wr=>∃k:Nat,k<=n/\q=n - k/\i=AB AE k/\(l.take k).all p=true/\AK w wr)
 case atStart=>exact N3
 obtain ⟨k,hk,hq,rfl,hv,hb⟩:=hrel;obtain ⟨HQ,HB,HV⟩:=BB hq hb hv;clear hq hb hv;by_cases hlt:k < n
 ·obtain ⟨b,off,x,A1,n1,c1,rfl,hbl,hx,e0,e1,e2,g1⟩:=MX (HL.o.mono BQ HB.o) hlt
  have HX:=AF hx;have hkn:(k:Int) < (n:Int):=AG
  have hk0:=Int.natCast_nonneg k
  have HC:=AF (HF.o wr [AL x.name,AA A1 n1 c1,AB AE x.most] x HB.o (Cr hx) ⟨A1,n1,c1,rfl,g1⟩);clear hx g1;go_wp2_with (go_at_call 165;refine HC.o.mono ?_;clear HC);rintro e w1 rfl hb1;have HB1:=AF (AV HB.o hb1);obtain ⟨v,hv⟩:=BR (p x);have HP:=AF hv;rw [hv];clear hv hb1;cases v with
  |
   true=>
   go_wp2;go_roundg (n - (k+1))
   case measure=>exact Bi
   case rel=>exact ⟨k+1,by omega,rfl,by go_num,Dq HX.o HP.o HV.o,HB1.o⟩
  |
   false=>
   exact XR
 exact XO
theorem Tw (A:Option Aa) (n c:Nat) (l:List Cl) (p:Cl->Bool) (w:AH) (hl:Ag 3 BZ w (AA A n c) l) (hf:Says 165 #[] #[] BZ (fun x=> !p x) l w):
 AS prog 164 #[AA A n c,.func (.func 165) #[] #[]] w fun e w'=>e=AW (Ab (!l.all p))/\AK w w':=by
 go_enter func164,ntmps164;go_wp2_with fail;refine (pV A n c l p w hl hf).mono ?_;exact XM
theorem pR (cs:List AN) (x:Cl) (w:AH) (hR:BZ w cs x):
 AS prog 165 #[.agg cs.toArray] w fun e w'=>e=AW (Ab (!decide (x.may.length<=64)))/\AK w w':=by
 obtain ⟨A1,n1,c1,rfl,g1⟩:=hR;have hl:=AF g1.1.len;clear g1;go_enter func165,ntmps165;go_wp2;go_ret;refine ⟨A8 ?_,(BK _ _)⟩;have:=hl.o;by_cases h:x.may.length<=64
 · rw [Bk h];simp;omega
 · rw [BS h];simp;omega
theorem tA (s:BG) (w:AH) (h1:n1=s.Bh.length) (h2:n2=s.units.length) (h3:n3=s.Aq.length) (h4:n4=s.rules.length) (h5:n5=s.converts.length) (h6:Ag 3 BZ w (AA A6 n6 c6) s.purposes):
 AS prog 103 #[(AP #[AA A1 n1 c1,AA A2 n2 c2,AA A3 n3 c3,AA A4 n4 c4,AA A5 n5 c5,AA A6 n6 c6])] w fun e w'=>e=AW (Ab (FW s))/\AK w w':=by
 have H6:=AF h6;have hn6:=h6.len;clear h6;by_cases hG:n1<=8/\n2<=64/\n3<=16/\n4<=16/\n5<=16/\n6<=8
 ·have hf:FW s=s.purposes.all fun p=>decide (p.may.length<=64):=by
   obtain ⟨q1,q2,q3,q4,q5,q6⟩:=hG;simp [FW,<-h1,<-h2,<-h3,<-h4,<-h5,<-hn6,q1,q2,q3,q4,q5,q6]
  rw [hf];obtain ⟨q1,q2,q3,q4,q5,q6⟩:=hG;clear hf h1 h2 h3 h4 h5 hn6;go_enter func103,ntmps103;go_wp2_with (go_at_call 164;refine (Tw A6 n6 c6 s.purposes (fun p=>decide (p.may.length<=64)) _ (H6.o.mono BQ (BK _ _)) (fun W cs x hW hx hR=>pR cs x W hR)).mono ?_);rintro e w1 ⟨rfl,hb1⟩;have HB1:=AF ((BK _ _).trans (hb1.mono AZ));clear hb1;go_wp2;go_ret;exact ⟨A8 AZ,HB1.o⟩
 have hf:FW s=false:=by
  cases h:FW s with
  | false=>rfl
  |
   true=>
   simp only [FW,Bb,By] at h;omega
 rw [hf];clear hf h1 h2 h3 h4 h5 hn6;go_enter func103,ntmps103;go_wp2_with (go_at_call 164;refine (Tw A6 n6 c6 s.purposes (fun p=>decide (p.may.length<=64)) _ (H6.o.mono BQ (BK _ _)) (fun W cs x hW hx hR=>pR cs x W hR)).mono ?_)
 all_goals first
  | (exfalso;omega)
  | (go_ret;exact ⟨rfl,(BK _ _)⟩)
theorem wS {s:BG} (h:FW s=false):FU s=2:=by simp [FU,h]
theorem ACt {s:BG} (h:FW s=true) (e:s.units.all (Mq s.units)=false):FU s=120:=by simp only [FU,h,e];rfl
theorem ACu {s:BG} (h:FW s=true) (e1:s.units.all (Mq s.units)=true) (e:s.Aq.all (D5 s.Bh.length s.units.length)=false):FU s=120:=by simp only [FU,h,e1,e];rfl
theorem ACv {s:BG} (h:FW s=true) (e1:s.units.all (Mq s.units)=true) (e2:s.Aq.all (D5 s.Bh.length s.units.length)=true) (e:s.rules.all (JP s.units s.Aq)=false):FU s=120:=by simp only [FU,h,e1,e2,e];rfl
theorem ACw {s:BG} (h:FW s=true) (e1:s.units.all (Mq s.units)=true) (e2:s.Aq.all (D5 s.Bh.length s.units.length)=true) (e3:s.rules.all (JP s.units s.Aq)=true) (e:s.purposes.all (Fv s.Aq)=false):FU s=120:=by simp only [FU,h,e1,e2,e3,e];rfl
theorem ABN {s:BG} (h:FW s=true) (e1:s.units.all (Mq s.units)=true) (e2:s.Aq.all (D5 s.Bh.length s.units.length)=true) (e3:s.rules.all (JP s.units s.Aq)=true) (e4:s.purposes.all (Fv s.Aq)=true):FU s=0:=by simp only [FU,h,e1,e2,e3,e4];rfl
theorem Wh (s:BG) (w:AH) (h1:Ag 1 Dd w (AA A1 n1 c1) s.Bh) (h2:Ag 5 CS w (AA A2 n2 c2) s.units) (h3:Ag 6 BW w (AA A3 n3 c3) s.Aq) (h4:Ag 5 CT w (AA A4 n4 c4) s.rules) (h5:n5=s.converts.length) (h6:Ag 3 BZ w (AA A6 n6 c6) s.purposes)
 (hr:s.Aq.all (D5 s.Bh.length s.units.length)=true->∀(W:AH) (g:Nat),AK w W->AY W g 137 #[AA A1 n1 c1,AA A2 n2 c2,AA A3 n3 c3,AA A4 n4 c4,AA A5 n5 c5,AA A6 n6 c6]->Says 104 #[] #[AU (some ⟨g,0,none⟩)] CT (JP s.units s.Aq) s.rules W)
 (hp:∀(W:AH),AK w W->Says 112 #[(AP #[AA A1 n1 c1,AA A2 n2 c2,AA A3 n3 c3,AA A4 n4 c4,AA A5 n5 c5,AA A6 n6 c6])] #[] BZ (Fv s.Aq) s.purposes W):
 AS prog 75 #[(AP #[AA A1 n1 c1,AA A2 n2 c2,AA A3 n3 c3,AA A4 n4 c4,AA A5 n5 c5,AA A6 n6 c6])] w fun e w'=>e=AW (AB AE (FU s))/\AK w w':=by
 have HMF:AI (∀(fn:Fn) (first cap:Array AN) (w:AH),(Instr.makeFunc fn first cap).run prog w=.ok (.func fn first cap) w):=AF (fun _ _ _ _=>rfl);have o1:n1<=9223372036854775807:=by have:=h1.le;omega
 have o2:n2<=9223372036854775807:=by have:=h2.le;omega
 obtain ⟨Yq,Q9,Lg,HN4,XG,H2,H3,H4,H6,HR,HP⟩:=wK h1.len h2.len h3.len h4.len h5 h2 h3 h4 h6 hr hp;clear h1 h2 h3 h4 h5 h6 hr hp;obtain ⟨vl,hvl⟩:=BR (FW s);have Vl:=AF hvl;clear hvl;go_enter func75,ntmps75;go_upto_region 2 with fail;obtain ⟨wb,hwb⟩:=Ad ((w.alloc (AO #[AA A1 n1 c1,AA A2 n2 c2,AA A3 n3 c3,AA A4 n4 c4,AA A5 n5 c5,AA A6 n6 c6] 29)).alloc (AO #[AA A1 n1 c1,AA A2 n2 c2,AA A3 n3 c3,AA A4 n4 c4,AA A5 n5 c5,AA A6 n6 c6] 137));rw [<-hwb];have hbb:AK w wb:=by rw [hwb];exact ((BK _ _).alloc AZ _)
 have kA:AY wb w.heap.size 29 #[AA A1 n1 c1,AA A2 n2 c2,AA A3 n3 c3,AA A4 n4 c4,AA A5 n5 c5,AA A6 n6 c6]:=by rw [hwb];exact (AY.new _ _ _).alloc _
 have kB:AY wb (w.heap.size+1) 137 #[AA A1 n1 c1,AA A2 n2 c2,AA A3 n3 c3,AA A4 n4 c4,AA A5 n5 c5,AA A6 n6 c6]:=by rw [hwb];exact Dk AZ
 obtain ⟨ga,hga⟩:=Ad w.heap.size;obtain ⟨gb,hgb⟩:=Ad (w.heap.size+1);rw [<-hgb] at kB ⊢;rw [<-hga] at kA ⊢;have la:=kA.lt;have lb:=kB.lt;obtain ⟨HA,HB,BJ⟩:=BB kA kB hbb;have HB0:AI (AK wb wb):=AF (Af _ _);clear kA kB hbb hwb hga hgb;have a0:=(HA.o.below HB0.o la).cell 0;have b0:=(HB.o.below HB0.o lb).cell 0;have a1:=(HA.o.below HB0.o la).cell 1;have b1:=(HB.o.below HB0.o lb).cell 1;have a2:=(HA.o.below HB0.o la).cell 2;have b2:=(HB.o.below HB0.o lb).cell 2;have a3:=(HA.o.below HB0.o la).cell 3;have b3:=(HB.o.below HB0.o lb).cell 3;have a4:=(HA.o.below HB0.o la).cell 4;have b4:=(HB.o.below HB0.o lb).cell 4;have a5:=(HA.o.below HB0.o la).cell 5;have b5:=(HB.o.below HB0.o lb).cell 5;simp only [Aj,Ao,BA] at a0 b0 a1 b1 a2 b2 a3 b3 a4 b4 a5 b5;have HC:AI (AS prog 103 #[(AP #[AA A1 n1 c1,AA A2 n2 c2,AA A3 n3 c3,AA A4 n4 c4,AA A5 n5 c5,AA A6 n6 c6])] wb fun e w'=>e=AW (Ab vl)/\AK wb w'):=AF (by have:=tA A1 A2 A3 A4 A5 A6 n1 c1 n2 c2 n3 c3 n4 c4 n5 c5 n6 c6 s wb Yq.o Q9.o Lg.o HN4.o XG.o (H6.o.mono BQ BJ.o);rw [Vl.o] at this;exact this)
 go_wp2_with (go_at_call 103;refine HC.o.mono ?_;clear HC);rintro e w1 ⟨rfl,hb1⟩;have HB1:=AF hb1;clear hb1 a0 b0 a1 b1 a2 b2 a3 b3 a4 b4 a5 b5;cases vl with
 |
  false=>
  go_wp2;go_ret;exact ⟨DG (wS Vl.o).symm,(AV BJ.o HB1.o)⟩
 |
  true=>
  have a0:=(HA.o.below HB1.o la).cell 0;have b0:=(HB.o.below HB1.o lb).cell 0;have a1:=(HA.o.below HB1.o la).cell 1;have b1:=(HB.o.below HB1.o lb).cell 1;have a2:=(HA.o.below HB1.o la).cell 2;have b2:=(HB.o.below HB1.o lb).cell 2;have a3:=(HA.o.below HB1.o la).cell 3;have b3:=(HB.o.below HB1.o lb).cell 3;have a4:=(HA.o.below HB1.o la).cell 4;have b4:=(HB.o.below HB1.o lb).cell 4;have a5:=(HA.o.below HB1.o la).cell 5;have b5:=(HB.o.below HB1.o lb).cell 5;simp only [Aj,Ao,BA] at a0 b0 a1 b1 a2 b2 a3 b3 a4 b4 a5 b5;have hmf:=HMF.o;obtain ⟨v1,hv1⟩:=BR (s.units.all (Mq s.units));have HE0:=AF hv1;have HC:AI (AS prog 106 #[AA A2 n2 c2,.func (.func 107) #[(AP #[AA A1 n1 c1,AA A2 n2 c2,AA A3 n3 c3,AA A4 n4 c4,AA A5 n5 c5,AA A6 n6 c6])] #[]] w1 fun e w'=>e=AW (Ab v1)/\AK w1 w'):=AF (by
   have:=tR A2 n2 c2 s.units (Mq s.units) w1 (AP #[AA A1 n1 c1,AA A2 n2 c2,AA A3 n3 c3,AA A4 n4 c4,AA A5 n5 c5,AA A6 n6 c6]) (H2.o.mono Bq (AV BJ.o HB1.o)) (fun W cs x hW hx hR=>by obtain rfl:=hR;exact wR A1 A2 A3 A4 A5 A6 n1 c1 n2 c2 n3 c3 n4 c4 n5 c5 n6 c6 x s.units W (H2.o.mono Bq ((AV BJ.o HB1.o).trans (hW.mono (AV BJ.o HB1.o).size))))
   rw [hv1] at this;exact this)
  clear hv1;go_wp2_with (go_at_call 106;refine HC.o.mono ?_;clear HC);rintro e w2 ⟨rfl,hb2⟩;have HB2:=AF (AV HB1.o hb2);clear hb2 a0 b0 a1 b1 a2 b2 a3 b3 a4 b4 a5 b5;cases v1 with
  |
   false=>
   go_wp2;go_ret;exact ⟨DG (ACt Vl.o HE0.o).symm,(AV BJ.o HB2.o)⟩
  |
   true=>
   have a0:=(HA.o.below HB2.o la).cell 0;have b0:=(HB.o.below HB2.o lb).cell 0;have a1:=(HA.o.below HB2.o la).cell 1;have b1:=(HB.o.below HB2.o lb).cell 1;have a2:=(HA.o.below HB2.o la).cell 2;have b2:=(HB.o.below HB2.o lb).cell 2;have a3:=(HA.o.below HB2.o la).cell 3;have b3:=(HB.o.below HB2.o lb).cell 3;have a4:=(HA.o.below HB2.o la).cell 4;have b4:=(HB.o.below HB2.o lb).cell 4;have a5:=(HA.o.below HB2.o la).cell 5;have b5:=(HB.o.below HB2.o lb).cell 5;simp only [Aj,Ao,BA] at a0 b0 a1 b1 a2 b2 a3 b3 a4 b4 a5 b5;obtain ⟨v2,hv2⟩:=BR (s.Aq.all (D5 s.Bh.length s.units.length));have fU:=AF hv2;have HC:AI (AS prog 108 #[AA A3 n3 c3,.func (.func 109) #[(AP #[AA A1 n1 c1,AA A2 n2 c2,AA A3 n3 c3,AA A4 n4 c4,AA A5 n5 c5,AA A6 n6 c6])] #[]] w2 fun e w'=>e=AW (Ab v2)/\AK w2 w'):=AF (by
    have:=mY A3 n3 c3 s.Aq (D5 s.Bh.length s.units.length) w2 (AP #[AA A1 n1 c1,AA A2 n2 c2,AA A3 n3 c3,AA A4 n4 c4,AA A5 n5 c5,AA A6 n6 c6]) (H3.o.mono BP (AV BJ.o HB2.o)) (fun W cs x hW hx hR=>by obtain ⟨fA,nf,cf,dA,nd,cd,rfl,g1,g2⟩:=hR;rw [<-Yq.o,<-Q9.o];exact oR A1 A2 A3 A4 A5 A6 n1 c1 n2 c2 n3 c3 n4 c4 n5 c5 n6 c6 x fA dA nf cf nd cd W o1 o2 g1.1)
    rw [hv2] at this;exact this)
   clear hv2;go_wp2_with (go_at_call 108;refine HC.o.mono ?_;clear HC);rintro e w3 ⟨rfl,hb3⟩;have HB3:=AF (AV HB2.o hb3);clear hb3 a0 b0 a1 b1 a2 b2 a3 b3 a4 b4 a5 b5;cases v2 with
   |
    false=>
    go_wp2;go_ret;exact ⟨DG (ACu Vl.o HE0.o fU.o).symm,(AV BJ.o HB3.o)⟩
   |
    true=>
    have a0:=(HA.o.below HB3.o la).cell 0;have b0:=(HB.o.below HB3.o lb).cell 0;have a1:=(HA.o.below HB3.o la).cell 1;have b1:=(HB.o.below HB3.o lb).cell 1;have a2:=(HA.o.below HB3.o la).cell 2;have b2:=(HB.o.below HB3.o lb).cell 2;have a3:=(HA.o.below HB3.o la).cell 3;have b3:=(HB.o.below HB3.o lb).cell 3;have a4:=(HA.o.below HB3.o la).cell 4;have b4:=(HB.o.below HB3.o lb).cell 4;have a5:=(HA.o.below HB3.o la).cell 5;have b5:=(HB.o.below HB3.o lb).cell 5;simp only [Aj,Ao,BA] at a0 b0 a1 b1 a2 b2 a3 b3 a4 b4 a5 b5;obtain ⟨v3,hv3⟩:=BR (s.rules.all (JP s.units s.Aq));have HE2:=AF hv3;have HC:AI (AS prog 110 #[AA A4 n4 c4,.func (.func 104) #[] #[AU (some ⟨gb,0,none⟩)]] w3 fun e w'=>e=AW (Ab v3)/\AK w3 w'):=AF (by have:=tS A4 n4 c4 s.rules (JP s.units s.Aq) w3 ⟨gb,0,none⟩ (H4.o.mono Bf (AV BJ.o HB3.o)) (HR.o fU.o w3 gb (AV BJ.o HB3.o) (HB.o.below HB3.o lb));rw [hv3] at this;exact this)
    clear hv3;go_wp2_with (go_at_call 110;refine HC.o.mono ?_;clear HC);rintro e w4 ⟨rfl,hb4⟩;have HB4:=AF (AV HB3.o hb4);clear hb4 a0 b0 a1 b1 a2 b2 a3 b3 a4 b4 a5 b5;cases v3 with
    |
     false=>
     go_wp2;go_ret;exact ⟨DG (ACv Vl.o HE0.o fU.o HE2.o).symm,(AV BJ.o HB4.o)⟩
    |
     true=>
     have a0:=(HA.o.below HB4.o la).cell 0;have b0:=(HB.o.below HB4.o lb).cell 0;have a1:=(HA.o.below HB4.o la).cell 1;have b1:=(HB.o.below HB4.o lb).cell 1;have a2:=(HA.o.below HB4.o la).cell 2;have b2:=(HB.o.below HB4.o lb).cell 2;have a3:=(HA.o.below HB4.o la).cell 3;have b3:=(HB.o.below HB4.o lb).cell 3;have a4:=(HA.o.below HB4.o la).cell 4;have b4:=(HB.o.below HB4.o lb).cell 4;have a5:=(HA.o.below HB4.o la).cell 5;have b5:=(HB.o.below HB4.o lb).cell 5;simp only [Aj,Ao,BA] at a0 b0 a1 b1 a2 b2 a3 b3 a4 b4 a5 b5;obtain ⟨v4,hv4⟩:=BR (s.purposes.all (Fv s.Aq));have HE3:=AF hv4;have HC:AI (AS prog 111 #[AA A6 n6 c6,.func (.func 112) #[(AP #[AA A1 n1 c1,AA A2 n2 c2,AA A3 n3 c3,AA A4 n4 c4,AA A5 n5 c5,AA A6 n6 c6])] #[]] w4 fun e w'=>e=AW (Ab v4)/\AK w4 w'):=AF (by have:=jB A6 n6 c6 s.purposes (Fv s.Aq) w4 (AP #[AA A1 n1 c1,AA A2 n2 c2,AA A3 n3 c3,AA A4 n4 c4,AA A5 n5 c5,AA A6 n6 c6]) (H6.o.mono BQ (AV BJ.o HB4.o)) (HP.o w4 (AV BJ.o HB4.o));rw [hv4] at this;exact this)
     clear hv4;go_wp2_with (go_at_call 111;refine HC.o.mono ?_;clear HC);rintro e w5 ⟨rfl,hb5⟩;have Cg:=AF (AV HB4.o hb5);clear hb5 a0 b0 a1 b1 a2 b2 a3 b3 a4 b4 a5 b5;cases v4 with
     |
      false=>
      go_wp2;go_ret;exact ⟨DG (ACw Vl.o HE0.o fU.o HE2.o HE3.o).symm,(AV BJ.o Cg.o)⟩
     |
      true=>
      go_wp2;go_ret;exact ⟨DG (ABN Vl.o HE0.o fU.o HE2.o HE3.o).symm,(AV BJ.o Cg.o)⟩
def G9 (l:AQ) (x:Int):AQ:=if x∈l then l else l++[x]
def xZ (l:AQ) (r:Cm):AQ:=(r.froms.map fun f=>f.schema).foldl G9 l
def Bp (rs:List Cm) (x:Int):AQ:=rs.foldl (fun l r=>if r.schema=x then xZ l r else l) []
def Bl (rs:List Cm) (k:Nat) (x:Int):AQ:=((List.range k).map Int.ofNat).filter fun h=>decide (x∈Bp rs h)
def JD (l:AQ) (i j:Nat):AQ:=(l.set i (l.getD j 0)).set j (l.getD i 0)
theorem El (l:AQ) (i j:Nat):(JD l i j).length=l.length:=by simp [JD]
def Qp (l:AQ) (j:Nat):AQ:=
 if h:0 < j/\l.getD j 0 < l.getD ((j - 1) / 2) 0 then Qp (JD l ((j - 1) / 2) j) ((j - 1) / 2) else l
termination_by j
decreasing_by omega
theorem wQ:∀(j:Nat) (l:AQ),(Qp l j).length=l.length:=by
 intro j
 induction j using Nat.strongRecOn with
 |
  _ j ih=>
  intro l;unfold Qp;split
  · next h=>rw [ih _ AG,El]
  · rfl
def N7 (l:AQ) (x:Int):AQ:=Qp (l++[x]) l.length
theorem Xm (l:AQ) (x:Int):(N7 l x).length=l.length+1:=by simp [N7,wQ]
def Lb (l:AQ) (i n:Nat):Nat:=if 2*i+2 < n/\l.getD (2*i+2) 0 < l.getD (2*i+1) 0 then 2*i+2 else 2*i+1
theorem X3 {l:AQ} {i n:Nat} (h:2*i+1 < n):Lb l i n < n:=by unfold Lb;split <;> omega
theorem X4 (l:AQ) (i n:Nat):i < Lb l i n:=by unfold Lb;split <;> omega
def Fj (l:AQ) (i n:Nat):AQ:=
 if _h:2*i+1 < n/\l.getD (Lb l i n) 0 < l.getD i 0 then Fj (JD l i (Lb l i n)) (Lb l i n) n else l
termination_by n - i
decreasing_by
 have:=X3 (l:=l) _h.1;have:=X4 l i n;omega
theorem qY (n:Nat):∀(k i:Nat) (l:AQ),n - i<=k->(Fj l i n).length=l.length:=by
 intro k
 induction k with
 |
  zero=>
  intro i l h;unfold Fj;split
  · next h'=>omega
  · rfl
 |
  succ k ih=>
  intro i l h;unfold Fj;split
  ·next h'=>have:=X3 (l:=l) h'.1;have:=X4 l i n;rw [ih _ _ AG,El]
  · rfl
def Ms (l:AQ):AQ:=Fj (JD l 0 (l.length - 1)) 0 (l.length - 1)
theorem Qd (l:AQ):(Ms l).length=l.length:=by rw [Ms,qY _ _ _ _ (Ac _),El]
def OD (st:AQ×AQ) (u:Int):AQ×AQ:=
 let o:=st.1.set u.toNat (st.1.getD u.toNat 0 - 1)
 (o,if o.getD u.toNat 0=0 then N7 st.2 u else st.2)
def La (us:Nat->AQ):Nat->AQ->AQ->AQ
 | 0,_,_=>[]
 |
  fuel+1,o,h=>
  if h.length=0 then []
  else
   let p:=Ms h
   let x:=p.getD (h.length - 1) 0
   let st:=(us x.toNat).foldl OD (o,p.take (h.length - 1))
   x::La us fuel st.1 st.2
def FG (rs:List Cm) (k:Nat):AQ:=(List.range k).foldl (fun h (x:Nat)=>if (Bp rs x).length=0 then N7 h x else h) []
def Cx (rs:List Cm) (n:Nat):AQ:=
 La (fun (x:Nat)=>Bl rs n x) (n+1) ((List.range n).map fun (x:Nat)=>((Bp rs x).length:Int)) (FG rs n)
open Go.MapKept (heap_set heap_alloc)
theorem sQ (l:AQ) (x:Int):Hv (FH l) x true=FH (G9 l x):=by
 unfold G9;split
 ·next h=>
  induction l with
  | nil=>simp at h
  |
   cons y l ih=>
   simp only [FH,Fz];rw [Hv];by_cases e:x=y
   · subst e;rw [Ak rfl]
   have h2:x∈l:=by simpa [e] using h
   rw [Ah e];have:=ih h2;simp only [FH] at this;rw [this]
 · next h=>exact Xl l x h
theorem WQ {κ ν:Type} [DecidableEq κ] {m:List (κ×ν)} {k:κ} {v:ν} (h:getM m k=some v):(k,v)∈m:=by
 induction m with
 | nil=>simp [QL] at h
 |
  cons p m ih=>
  rw [Ok] at h;by_cases e:k=p.1
  ·rw [Ak e] at h
   injection h with h;subst h;subst e;exact OX
  rw [Ah e] at h;exact NI _ (ih h)
theorem getM_none {κ ν:Type} [DecidableEq κ] {m:List (κ×ν)} {k:κ}:getM m k=none↔k∉m.map (·.1):=by
 induction m with
 | nil=>simp [QL]
 |
  cons p m ih=>
  rw [Ok];by_cases e:k=p.1
  · simp [e]
  rw [Ah e,ih];simp [e]
theorem ADS {κ ν:Type} [DecidableEq κ] {m:List (κ×ν)} {k:κ} {v:ν} (h:k∉m.map (·.1)):Hv m k v=m++[(k,v)]:=by
 induction m with
 | nil=>rfl
 |
  cons p m ih=>
  have h1:¬k=p.1:=fun e=>h (by simp [e]);have h2:k∉m.map (·.1):=fun e=>h (by simp at e;simp [e]);rw [Hv,Ah h1,ih h2];rfl
theorem UQ {f:MapEntry->MapEntry} (hf:∀e,(f e).born=e.born):∀(l:List MapEntry) (j:Nat),(l.modify j f).map (·.born)=l.map (·.born)
 | [],j=>by simp
 | e::l,0=>by simp [hf]
 | e::l,j+1=>by simp [UQ hf l j]
section
variable {κ ν:Type} [DecidableEq κ] {P:Program} {kt et t:Ae} {ek:κ->AN} {ev:ν->AN} {w w':AH} {b:Nat} {m:List (κ×ν)}
def Kz (ek:κ->AN) (ev:ν->AN) (w:AH) (b:Nat) (m:List (κ×ν)):Prop:=
 ∃es clock,w.heap[b]? =some (.map es clock)/\es.toList.map (fun e=>(e.key,e.val))=m.map (fun p=>(ek p.1,ev p.2))/\(es.toList.map (·.born)).Nodup/\∀x∈es.toList,x.born < clock
omit [DecidableEq κ] in
theorem Kz.at_ (h:Kz ek ev w b m):MapAt ek ev w b m:=by obtain ⟨es,clock,h1,h2,_⟩:=h;exact ⟨es,clock,h1,h2⟩
omit [DecidableEq κ] in
theorem Kz.lt (h:Kz ek ev w b m):b < w.heap.size:=h.at_.lt
omit [DecidableEq κ] in
theorem Kz.same (h:Kz ek ev w b m) (hb:w'.heap[b]? =w.heap[b]?):Kz ek ev w' b m:=by obtain ⟨es,clock,h1,h2⟩:=h;exact ⟨es,clock,hb.trans h1,h2⟩
omit [DecidableEq κ] in
theorem Kz.grown {row:Option Nat} (h:Kz ek ev w b m) (hg:w.grownBy w' row) (hne:some b≠row):Kz ek ev w' b m:=h.same (hg.block b h.lt hne)
omit [DecidableEq κ] in
theorem Kz.new (ek:κ->AN) (ev:ν->AN) (w:AH):Kz ek ev (w.alloc (.map #[] 0)) w.heap.size []:=⟨#[],0,(heap_alloc w _).1,rfl,by simp,by simp⟩
theorem oX (K:Tx P kt ek) (ht:P.underlying t=some (.map kt et)) (h:Kz ek ev w b m) (k:κ) (v:ν):
 ∃w',(Instr.mapUpdate t (.map (some b)) (ek k) (ev v)).run P w=.ok () w'/\Kz ek ev w' b (Hv m k v)/\w.grownBy w' (some b):=by
 have hlt:=h.lt;obtain ⟨es,clock,hb,hes,hnd,hold⟩:=h;have hgrow:∀o:Obj,w.grownBy {w with heap:=w.heap.setIfInBounds b o} (some b):=fun o=>
  ⟨rfl,rfl,rfl,by simp,fun i _ hne=>(heap_set hb).2 i (fun e=>hne Kg)⟩
 unfold Instr.mapUpdate;simp only [Cp,Uw ht,Result.andThen_ok,fX hb,K.ck,YJ (ev:=ev) K k w _ m hes];cases hl:JT m k 0 with
 |
  none=>
  refine ⟨_,ZP _ hb,⟨_,_,(heap_set hb).1,?_,?_,?_⟩,hgrow _⟩
  ·rw [jr k v m 0 hl]
   simp [hes]
  ·simp only [Array.toList_push,DY,Fz,NF]
   refine ZG.2 ⟨hnd,by simp,fun a ha c hc e=> ?_⟩;simp only [F5] at hc;subst hc;subst e;obtain ⟨x,hx,he⟩:=Dr.1 ha;have:=hold x hx;omega
  ·intro x hx
   simp only [Array.toList_push,Ka,F5] at hx;rcases hx with hx | rfl
   ·have:=hold x hx
    omega
   · simp
 |
  some q=>
  obtain ⟨j,x⟩:=q;obtain ⟨_,⟨e,he,hek⟩,h3⟩:=X0 ek ev k v es.toList m 0 j x hes hl;simp only [Nat.sub_zero] at he h3;have he':es[j]? =some e:=by simpa using he
  simp only [C6,he',Ce,hek];unfold Instr.keyThatStays;rw [K.sb,Ak rfl];simp only [Cp,DL,Result.andThen_ok];refine ⟨_,ZP _ hb,⟨_,_,(heap_set hb).1,?_,?_,?_⟩,hgrow _⟩
  · simpa using h3
  ·rw [Array.toList_modify]
   rw [UQ (f:=fun e=>{key:=ek k,val:=ev v,born:=e.born}) (fun _=>rfl)];exact hnd
  intro y hy;rw [Array.toList_modify] at hy;have hm:y.born∈(es.toList.modify j fun e=>{key:=ek k,val:=ev v,born:=e.born}).map (·.born):=ZK hy;rw [UQ (f:=fun e=>{key:=ek k,val:=ev v,born:=e.born}) (fun _=>rfl)] at hm;obtain ⟨z,hz,hzb⟩:=Dr.1 hm;rw [<-hzb];exact hold z hz
end
theorem Qw {α β:Type} {f:α->β}:∀{l:List α},(l.map f).Nodup->∀{a b:α},a∈l->b∈l->f a=f b->a=b
 | [],_,_,_,h,_,_=>by simp at h
 |
  c::l,h,a,b,ha,hb,e=>by
  simp only [Fz,Ry,Dr,not_exists,not_and] at h;rcases B0.1 ha with rfl | ha'
  ·rcases B0.1 hb with rfl | hb'
   · rfl
   · exact absurd e.symm (h.1 b hb')
  rcases B0.1 hb with rfl | hb'
  · exact absurd e (h.1 a ha')
  · exact Qw h.2 ha' hb' e
structure Fq (w:AH) (base M:Nat) (hs:List (Int×Nat)) (f:Int->AQ):Prop where
 o:MapAt (Value.int .i64) (fun b:Nat=>Value.map (some b)) w M hs
 ge:base<=M
 keys:(hs.map (·.1)).Nodup
 vals:(hs.map (·.2)).Nodup
 ins:∀p∈hs,base<=p.2/\p.2≠M/\Kz (Value.int .i64) Value.bool w p.2 (FH (f p.1))
 rest:∀x,x∉hs.map (·.1)->f x=[]
theorem SH {κ ν:Type} {w:AH} {g:Nat} {t:Ae} {cs:Array AN} {ev:ν->AN} {ek:κ->AN} {m:List (κ×ν)} (h:AY w g t cs) (k:MapAt ek ev w g m):False:=by obtain ⟨es,clock,h2,_⟩:=k;rw [show w.heap[g]? =some (AO cs t (0,0)) from h] at h2;injection h2 with h2;cases h2
theorem Fq.below {w w':AH} {base M:Nat} {hs:List (Int×Nat)} {f:Int->AQ} (h:Fq w base M hs f) (hb:AK w w'):Fq w' base M hs f:=
 ⟨h.o.same (hb.block _ h.o.lt),h.ge,h.keys,h.vals,fun p hp=>⟨(h.ins p hp).1,(h.ins p hp).2.1,(h.ins p hp).2.2.same (hb.block _ (h.ins p hp).2.2.lt)⟩,h.rest⟩
theorem Fq.kept {w w':AH} {base M:Nat} {hs:List (Int×Nat)} {f:Int->AQ} (h:Fq w base M hs f) (hb:∀b,(b=M\/b∈hs.map (·.2))->w'.heap[b]? =w.heap[b]?):Fq w' base M hs f:=
 ⟨h.o.same (hb _ (.inl rfl)),h.ge,h.keys,h.vals,fun p hp=>⟨(h.ins p hp).1,(h.ins p hp).2.1,(h.ins p hp).2.2.same (hb _ (.inr (ZK hp)))⟩,h.rest⟩
theorem Fq.add {w w':AH} {base M g:Nat} {hs:List (Int×Nat)} {f:Int->AQ} {x:Int} (h:Fq w base M hs f) (hx:x∉hs.map (·.1)) (hg:Kz (Value.int .i64) Value.bool w g ([]:List (Int×Bool))) (hgb:base<=g) (hgM:g≠M) (hgs:g∉hs.map (·.2))
 (hm:MapAt (Value.int .i64) (fun b:Nat=>Value.map (some b)) w' M (Hv hs x g)) (hgr:w.grownBy w' (some M)):Fq w' base M (hs++[(x,g)]) f:=by
 rw [ADS hx] at hm;refine ⟨hm,h.ge,?_,?_,?_,?_⟩
 ·rw [DY]
  exact ZG.2 ⟨h.keys,by simp,fun a ha b hb e=>by simp at hb;subst hb;subst e;exact hx ha⟩
 ·rw [DY]
  exact ZG.2 ⟨h.vals,by simp,fun a ha b hb e=>by simp at hb;subst hb;subst e;exact hgs ha⟩
 ·intro p hp
  rcases Ka.1 hp with hp | hp
  ·obtain ⟨h1,h2,h3⟩:=h.ins p hp
   exact ⟨h1,h2,h3.grown hgr (fun e=>h2 (by injection e))⟩
  simp only [F5] at hp;subst hp;refine ⟨hgb,hgM,?_⟩;show Kz _ _ w' g (FH (f x));rw [h.rest x hx];exact hg.grown hgr (fun e=>hgM (by injection e))
 intro y hy;exact h.rest y (fun e=>hy (by rw [DY];exact R5 _ e))
theorem Fq.insert {w w':AH} {base M b:Nat} {hs:List (Int×Nat)} {f:Int->AQ} {x y:Int} (h:Fq w base M hs f) (hx:(x,b)∈hs)
 (hm:Kz (Value.int .i64) Value.bool w' b (Hv (FH (f x)) y true)) (hgr:w.grownBy w' (some b)):Fq w' base M hs (fun z=>if z=x then G9 (f x) y else f z):=by
 obtain ⟨h1,h2,h3⟩:=h.ins _ hx;rw [sQ] at hm;refine ⟨h.o.grown hgr (fun e=>h2 (by injection e with e;exact e.symm)),h.ge,h.keys,h.vals,?_,?_⟩
 ·intro p hp
  obtain ⟨k1,k2,k3⟩:=h.ins p hp;refine ⟨k1,k2,?_⟩;by_cases e:p.1=x
  ·have:p=(x,b):=Qw h.keys hp hx e
   subst this;simp only [C4];exact hm
  have hne:p.2≠b:=by intro e2;have:p=(x,b):=Qw h.vals hp hx e2;exact e (by rw [this])
  rw [Ah e];exact k3.grown hgr (fun e2=>hne (by injection e2))
 intro z hz;have hzx:z≠x:=fun e=>hz (by subst e;exact ZK (f:=(·.1)) hx);simp only [Ah hzx];exact h.rest z hz
theorem kW (m:Option Nat) (w:AH):(binOp .eql 209 (.map m) (.map none)).run prog w=.ok (Ab m.isNone) w:=by simp only [binOp];simp [run_equal_map_nil w 209 _ _ m underlying209]
theorem Xr (n x:Int) (m:AN) (w:AH):AS prog 180 #[AP #[AB AE n,m],AB AE x] w fun e w'=>e=AW (Ab (decide (0<=x) && decide (x < n)))/\AK w w':=by
 go_enter func180,ntmps180;go_wp2_with fail
 all_goals
  go_ret;refine ⟨A8 ?_,(BK _ _)⟩
  first
   | (simp_all;done)
   | (simp_all;omega)
theorem ADM (rs:List Cm) (w:AH) (h4:Ag 5 CT w (AA A4 n4 c4) rs) (hnum:∀r∈rs,(0<=r.schema/\r.schema < n3)/\∀f∈r.froms,0<=f.schema/\f.schema < n3):
 AS prog 117 #[(AP #[AA A1 n1 c1,AA A2 n2 c2,AA A3 n3 c3,AA A4 n4 c4,AA A5 n5 c5,AA A6 n6 c6])] w fun e w'=>∃M hs,e=AW (.tuple #[AP #[AB AE n3,.map (some M)],AB AE 0])/\Fq w' w.heap.size M hs (Bp rs)/\AK w w':=by
 have hn4:n4<=9223372036854775807:=by have:=h4.le;omega
 obtain ⟨HL,H4,QW⟩:=BB h4.len h4 hnum;clear h4 hnum;have hmm:∀(w:AH),(Instr.makeMap 212 none).run prog w=.ok (.map (some w.heap.size)) (w.alloc (.map #[] 0)):=by intro w;simp [Instr.makeMap]
 have j6:∀(w:AH),(Instr.makeMap 209 none).run prog w=.ok (.map (some w.heap.size)) (w.alloc (.map #[] 0)):=by intro w;simp [Instr.makeMap]
 have vw:=AF j6;clear j6;go_enter func117,ntmps117;go_upto_region 2 with fail;obtain ⟨wb,hwb⟩:=Ad (((w.alloc (AO #[AA A1 n1 c1,AA A2 n2 c2,AA A3 n3 c3,AA A4 n4 c4,AA A5 n5 c5,AA A6 n6 c6] 29)).alloc (AO #[AB AE n3,.map (some (w.heap.size+1+1))] 214)).alloc (.map #[] 0));rw [<-hwb];have hbb:AK w wb:=by rw [hwb];exact ((BK _ _).alloc AZ _).alloc Bd _
 have kA:AY wb w.heap.size 29 #[AA A1 n1 c1,AA A2 n2 c2,AA A3 n3 c3,AA A4 n4 c4,AA A5 n5 c5,AA A6 n6 c6]:=by rw [hwb];exact ((AY.new _ _ _).alloc _).alloc _
 have kB:AY wb (w.heap.size+1) 214 #[AB AE n3,.map (some (w.heap.size+1+1))]:=by rw [hwb];exact (Dk AZ).alloc _
 have kM:MapAt (Value.int .i64) (fun b:Nat=>Value.map (some b)) wb (w.heap.size+1+1) []:=by rw [hwb];have:=MapAt.new (Value.int .i64) (fun b:Nat=>Value.map (some b)) ((w.alloc (AO #[AA A1 n1 c1,AA A2 n2 c2,AA A3 n3 c3,AA A4 n4 c4,AA A5 n5 c5,AA A6 n6 c6] 29)).alloc (AO #[AB AE n3,.map (some (w.heap.size+1+1))] 214));simpa using this
 obtain ⟨M,hM⟩:=Ad (w.heap.size+1+1);have AEp:w.heap.size<=M:=AG
 rw [<-hM] at kB kM ⊢;obtain ⟨gb,hgb⟩:=Ad (w.heap.size+1);rw [<-hgb] at kB ⊢;obtain ⟨ga,hga⟩:=Ad w.heap.size;have hG0:Fq wb w.heap.size M [] (Bp []):=⟨kM,AEp,by simp,by simp,fun p hp=>by simp at hp,fun x _=>rfl⟩;rw [<-hga] at kA;have a3:=kA.cell 3;simp only [Aj,Ao,BA] at a3;have la:=kA.lt;obtain ⟨BJ,HKB,HG0,aW⟩:=CD hbb kB hG0 AEp;have TU:AI (w.heap.size<=gb):=AF AG;rw [hga] at a3 la;clear hwb hbb kA kB kM hM hgb hga hG0 hmm AEp;go_wp2_with fail;clear a3;go_loopg [16] n4 (fun q i wr=>∃k:Nat,∃hs:List (Int×Nat),k<=n4/\q=n4 - k/\i=AB AE k/\Fq wr w.heap.size M hs (Bp (rs.take k))/\AY wr gb 214 #[AB AE n3,.map (some M)]/\AK w wr)
 case atStart=>exact ⟨0,[],Ay _,rfl,rfl,HG0.o,HKB.o,BJ.o⟩
 clear HG0 HKB BJ;obtain ⟨k,hs,hk,hq,rfl,hg,hkb,hb⟩:=hrel;obtain ⟨HQ,HB,HG,HK⟩:=CD hq hb hg hkb;clear hq hb hg hkb;by_cases hlt:k < n4
 case neg=>
  have HF:AI (Bp (rs.take k)=Bp rs):=AF (by rw [C7 (by have:=HL.o;omega)]);have b0:=HK.o.cell 0;have b1:=HK.o.cell 1;have f0:=HK.o.frozen 0;have f1:=HK.o.frozen 1;have lb:=HK.o.lt;simp only [Aj,Ao,BA] at b0 b1;go_wp2_with fail;have kE:AY ((wr.setCell ⟨gb,0,none⟩ (AB AE n3)).setCell ⟨gb,1,none⟩ (.map (some M))) gb 214 #[AB AE n3,.map (some M)]:=(HK.o.put 0 (AB AE n3)).put 1 (.map (some M));have x0:=kE.cell 0;have x1:=kE.cell 1;simp only [Aj,Ao,BA] at x0 x1;refine FN (v:=.tuple #[AP #[AB AE n3,.map (some M)],AB AE 0]) (by simp [results,results117,go_sem,x0,x1]) rfl ?_;have hG9:Fq ((wr.setCell ⟨gb,0,none⟩ (AB AE n3)).setCell ⟨gb,1,none⟩ (.map (some M))) w.heap.size M hs (Bp rs):=by
   rw [<-HF.o];refine HG.o.kept (fun c hc=> ?_);have hne:c≠gb:=by
    rintro rfl;rcases hc with rfl | hc
    · exact SH HK.o HG.o.o
    obtain ⟨p,hp,rfl⟩:=Dr.1 hc;exact SH HK.o (HG.o.ins p hp).2.2.at_
   exact (C5 _ _ _ c hne).trans (C5 _ _ _ c hne)
  refine ⟨M,hs,rfl,hG9,?_⟩;have hgw:wr.grownBy ((wr.setCell ⟨gb,0,none⟩ (AB AE n3)).setCell ⟨gb,1,none⟩ (.map (some M))) (some gb):=Oi (Oi ⟨rfl,rfl,rfl,Ac _,fun _ _ _=>rfl⟩ _ _) _ _;exact HB.o.grown hgw HB.o.size (fun r e=>by cases e;exact TU.o)
 obtain ⟨b,off,x,B1,m1,d1,B2,m2,d2,B3,m3,d3,rfl,hbl,hx,e0,e1,e2,e3,e4,g1,g2,g3⟩:=QB H4.o hlt;rw [<-HB.o.cell (p:=⟨b,_,none⟩) hbl] at e0 e1 e2 e3 e4;have hbl:b < wr.heap.size:=Av hbl HB.o.size;have hxm:=QW.o x (Cr hx);obtain ⟨HX,HXM,G1⟩:=BB hx hxm g1.1;have hm1:m1<=9223372036854775807:=by have:=g1.1.le;omega
 have hkn:(k:Int) < (n4:Int):=AG
 have hk0:=Int.natCast_nonneg k
 have b0:=HK.o.cell 0;have b1:=HK.o.cell 1;have lb:=HK.o.lt;simp only [Aj,Ao,BA] at b0 b1;clear hx hxm g1 g2 g3;have HC:AI (∀W,AS prog 180 #[AP #[AB AE n3,.map (some M)],AB AE x.schema] W fun e w'=>e=AW (Ab true)/\AK W w'):=AF (fun W=>by have:=Xr n3 x.schema (.map (some M)) W;rw [Bk HXM.o.1.1,Bk HXM.o.1.2] at this;exact this)
 go_upto_region 5 with fail;clear e0 e1 e2 e3 e4;obtain ⟨w1,hw1⟩:=Ad (wr.alloc (AO #[AL x.head,AB AE x.schema,AA B1 m1 d1,AA B2 m2 d2,AA B3 m3 d3] 160));obtain ⟨gr,hgr⟩:=Ad wr.heap.size;have kR:AY w1 gr 160 #[AL x.head,AB AE x.schema,AA B1 m1 d1,AA B2 m2 d2,AA B3 m3 d3]:=by rw [hw1,hgr];exact AY.new _ _ _
 have hb1:AK wr w1:=by rw [hw1];exact (Af _ _).alloc (Ac _) _
 rw [<-hw1,<-hgr];clear hw1 hgr;have c1r:=kR.cell 1;have c2r:=kR.cell 2;have lr:=kR.lt;simp only [Aj,Ao,BA] at c1r c2r;have b0:=(HK.o.below hb1 lb).cell 0;have b1:=(HK.o.below hb1 lb).cell 1;simp only [Aj,Ao,BA] at b0 b1;obtain ⟨HR,HB1⟩:=Al kR hb1;clear kR hb1;go_wp2_with (go_at_call 180;refine (HC.o w1).mono ?_)
 first | rintro e w2 rfl hb2 | rintro e w2 ⟨rfl,hb2⟩
 have HB2:AI (AK wr w2):=AF (AV HB1.o hb2);have kR2:=HR.o.below hb2 lr;have lr2:=kR2.lt;have c1r:=kR2.cell 1;have c2r:=kR2.cell 2;have kB2:=HK.o.below HB2.o lb;have lb2:=kB2.lt;have b0:=kB2.cell 0;have b1:=kB2.cell 1;simp only [Aj,Ao,BA] at c1r c2r b0 b1;obtain ⟨HR2,FC,HG2⟩:=BB kR2 kB2 (HG.o.below HB2.o);have TW:AI (AK w w2):=AF (AV HB.o HB2.o);clear kR2 kB2 hb2 HR HC HB1;have hlook:=DT (I0 underlying3) underlying212 (z:=.map none) AJ HG2.o.o x.schema false;by_cases hin:x.schema∈hs.map (·.1)
 ·obtain ⟨hb,hhb⟩:∃hb,getM hs x.schema=some hb:=by
   cases h:getM hs x.schema with
   | none=>exact absurd hin (getM_none.1 h)
   | some v=>exact ⟨v,rfl⟩
  rw [hhb] at hlook;simp only [C6,Ce,IU,He] at hlook;have HHB:=AF hhb;clear hin hhb;have heq:=kW (some hb);go_upto_region 9 with fail;clear hlook;have AJO:AI (∃hb,getM hs x.schema=some hb):=AF ⟨hb,HHB.o⟩;have lrr:=HR2.o.lt;have cc2:=HR2.o.cell 2;simp only [Aj,Ao,BA] at cc2;go_wp2_with fail;clear cc2;obtain ⟨wy,rfl⟩:=Ad wr;go_loopg [40] m1 (fun q i wr=>∃j:Nat,j<=m1/\q=m1 - j/\i=AB AE j/\Fq wr w.heap.size M hs (fun z=>if z=x.schema then ((x.froms.take j).map fun f=>f.schema).foldl G9 (Bp (rs.take k) x.schema) else Bp (rs.take k) z)/\AY wr gb 214 #[AB AE n3,.map (some M)]/\AY wr gr 160 #[AL x.head,AB AE x.schema,AA B1 m1 d1,AA B2 m2 d2,AA B3 m3 d3]/\AK w wr)
  case atStart=>
   refine ⟨0,Ay _,rfl,rfl,?_,FC.o,HR2.o,TW.o⟩;have he:(fun z=>if z=x.schema then ((x.froms.take 0).map fun f=>f.schema).foldl G9 (Bp (rs.take k) x.schema) else Bp (rs.take k) z)=Bp (rs.take k):=by
    funext z;by_cases e:z=x.schema
    · rw [Ak e,e];rfl
    · rw [Ah e]
   rw [he];exact HG2.o
  obtain ⟨j,hj,hq,rfl,hg,hkb,hkr,hb⟩:=hrel;obtain ⟨fK,HB3,fS,Ls,HR3⟩:=Db hq hb hg hkb hkr;clear hq hb hg hkb hkr;by_cases hlt2:j < m1
  case neg=>
   have HE:AI ((fun z=>if z=x.schema then ((x.froms.take j).map fun f=>f.schema).foldl G9 (Bp (rs.take k) x.schema) else Bp (rs.take k) z)=Bp (rs.take (k+1))):=AF (by
    rw [show x.froms.take j=x.froms from C7 (by have:=G1.o.len;omega),take_snoc HX.o];funext z;unfold Bp;rw [R7];simp only [Y7,List.foldl_nil];by_cases e:z=x.schema
    · subst e;simp only [C4];rfl
    · rw [Ah e,Ah (fun h=>e h.symm)])
   go_wp2;go_roundg (n4 - (k+1))
   case measure=>exact Bi
   case rel=>exact ⟨k+1,hs,by omega,rfl,by go_num,by rw [<-HE.o];exact fS.o,Ls.o,HB3.o⟩
  exact AFw
 rw [getM_none.2 hin] at hlook;simp only [Jd,Kd,IU,He] at hlook;have j6:=vw.o;have heq:=kW none;have hba:AK w2 (w2.alloc (.map #[] 0)):=(Af _ _).alloc (Ac _) _;have Qy:=HG2.o.below hba;obtain ⟨w3,hrun3,ER,qB⟩:=FV (I0 underlying3) underlying212 Qy.o x.schema w2.heap.size;have hlt2:∀q,q∈hs.map (·.2)->q < w2.heap.size:=fun q hq=>by obtain ⟨p,hp,rfl⟩:=Dr.1 hq;exact (HG2.o.ins p hp).2.2.lt
 have hG3:=Qy.add hin (Kz.new _ _ w2) (BH aW.o (Nat.le_of_lt HG2.o.o.lt)) (Nat.ne_of_gt HG2.o.o.lt) (fun h=>Nat.lt_irrefl _ (hlt2 _ h)) ER qB;obtain ⟨ALp,ALj,AFY⟩:=BB hG3 ((FC.o.below hba lb2).grown qB (fun e=>by injection e with e;subst e;exact SH (FC.o.below hba lb2) Qy.o)) ((HR2.o.below hba lr2).grown qB (fun e=>by injection e with e;subst e;exact SH (HR2.o.below hba lr2) Qy.o));have jS:AI (AK w w3):=AF ((AV TW.o hba).grown qB (BH TW.o.size hba.size) (fun r e=>by cases e;exact aW.o));have AJO:AI (∃hb,getM (hs++[(x.schema,w2.heap.size)]) x.schema=some hb):=AF (by
  cases h:getM (hs++[(x.schema,w2.heap.size)]) x.schema with
  | none=>exact absurd AZ (getM_none.1 h)
  | some v=>exact ⟨v,rfl⟩)
 clear hba Qy ER qB hlt2 hG3 hin;go_upto_region 9 with fail;clear hlook hrun3 j6;have lrr:=AFY.o.lt;have cc2:=AFY.o.cell 2;simp only [Aj,Ao,BA] at cc2;go_wp2_with fail;clear cc2;obtain ⟨wy,rfl⟩:=Ad wr;go_loopg [40] m1 (fun q i wr=>∃j:Nat,j<=m1/\q=m1 - j/\i=AB AE j/\Fq wr w.heap.size M (hs++[(x.schema,w2.heap.size)]) (fun z=>if z=x.schema then ((x.froms.take j).map fun f=>f.schema).foldl G9 (Bp (rs.take k) x.schema) else Bp (rs.take k) z)/\AY wr gb 214 #[AB AE n3,.map (some M)]/\AY wr gr 160 #[AL x.head,AB AE x.schema,AA B1 m1 d1,AA B2 m2 d2,AA B3 m3 d3]/\AK w wr)
 case atStart=>
  refine ⟨0,Ay _,rfl,rfl,?_,ALj.o,AFY.o,jS.o⟩;have he:(fun z=>if z=x.schema then ((x.froms.take 0).map fun f=>f.schema).foldl G9 (Bp (rs.take k) x.schema) else Bp (rs.take k) z)=Bp (rs.take k):=by
   funext z;by_cases e:z=x.schema
   · rw [Ak e,e];rfl
   · rw [Ah e]
  rw [he];exact ALp.o
 obtain ⟨j,hj,hq,rfl,hg,hkb,hkr,hb⟩:=hrel;obtain ⟨fK,HB3,fS,Ls,HR3⟩:=Db hq hb hg hkb hkr;clear hq hb hg hkb hkr;by_cases hlt2:j < m1
 case neg=>
  have HE:AI ((fun z=>if z=x.schema then ((x.froms.take j).map fun f=>f.schema).foldl G9 (Bp (rs.take k) x.schema) else Bp (rs.take k) z)=Bp (rs.take (k+1))):=AF (by
   rw [show x.froms.take j=x.froms from C7 (by have:=G1.o.len;omega),take_snoc HX.o];funext z;unfold Bp;rw [R7];simp only [Y7,List.foldl_nil];by_cases e:z=x.schema
   · subst e;simp only [C4];rfl
   · rw [Ah e,Ah (fun h=>e h.symm)])
  go_wp2;go_roundg (n4 - (k+1))
  case measure=>exact Bi
  case rel=>exact ⟨k+1,(hs++[(x.schema,w2.heap.size)]),by omega,rfl,by go_num,by rw [<-HE.o];exact fS.o,Ls.o,HB3.o⟩
 exact AFw
def BD {α:Type} [DecidableEq α] (a b:List α):Bool:=decide (a=b)
theorem Fu {α:Type} [DecidableEq α] {a b:List α} (h:¬a.length=b.length):BD a b=false:=by unfold BD;exact BS (fun e=>h Kg)
theorem bB {α:Type} [DecidableEq α] {a b:List α} {k:Nat} {x y:α} {r:Bool} (ha:a[k]? =some x) (hb:b[k]? =some y) (h:BD (a.drop k) (b.drop k)=r) (e:x=y):BD (a.drop (k+1)) (b.drop (k+1))=r:=by rw [drop_cons ha,drop_cons hb] at h;subst e;simpa [BD] using h
theorem Ro {α:Type} [DecidableEq α] {a b:List α} {k:Nat} {x y:α} {r:Bool} (ha:a[k]? =some x) (hb:b[k]? =some y) (h:BD (a.drop k) (b.drop k)=r) (e:¬x=y):r=false:=by rw [drop_cons ha,drop_cons hb] at h;rw [<-h];simp [BD,e]
theorem ABX {α:Type} [DecidableEq α] {a b:List α} {k:Nat} {r:Bool} (h:BD (a.drop k) (b.drop k)=r) (hl:a.length=b.length) (hk:a.length<=k):r=true:=by rw [FQ hk,FQ AG] at h;rw [<-h];rfl
theorem I3 (A B:Option Aa) (n c m d:Nat) (l r:List ByteArray) (w:AH) (hl:Ag 1 Dd w (AA A n c) l) (hr:Ag 1 Dd w (AA B m d) r):
 AS prog 120 #[AA A n c,AA B m d] w fun e w'=>e=AW (Ab (BD l r))/\AK w w':=by
 have hn2:n<=9223372036854775807:=by have:=hl.le;omega
 have hln:=hl.len;have hrn:=hr.len;obtain ⟨HL,HR⟩:=Al hl hr;clear hl hr;by_cases e:n=m
 ·subst e
  have el:l.length=r.length:=AG
  skip
  obtain ⟨HN,HE⟩:=Al hln el;clear hln hrn el;obtain ⟨v,hv⟩:=BR (BD l r);rw [hv];have HV:AI (BD (l.drop 0) (r.drop 0)=v):=AF hv;clear hv;go_enter func120,ntmps120;go_wp2_with fail;go_loopg [13] n (fun q i wr=>∃k:Nat,k<=n/\q=n - k/\i=AB AE k/\BD (l.drop k) (r.drop k)=v/\AK w wr)
  case atStart=>exact Md
  obtain ⟨k,hk,hq,rfl,hv,hb⟩:=hrel;obtain ⟨HQ,HB,EJ⟩:=BB hq hb hv;clear hq hb hv HV;by_cases hlt:k < n
  ·obtain ⟨a,ao,x,rfl,hal,hx,hxc⟩:=Xa (HL.o.mono BX HB.o) hlt
   obtain ⟨b,bo,y,rfl,hbl,hy,Mw⟩:=Xa (HR.o.mono BX HB.o) hlt;obtain ⟨HX,HY⟩:=Al hx hy;have hkn:(k:Int) < (n:Int):=AG
   have hk0:=Int.natCast_nonneg k
   clear hx hy;by_cases exy:x=y
   ·subst exy
    exact AAe
   obtain rfl:=Ro HX.o HY.o EJ.o exy;have exl:(x.toList==y.toList)=false:=by rw [ED];exact BS exy
   exact zq
  exact Mc
 have el:¬l.length=r.length:=AG
 rw [Fu el];go_enter func120,ntmps120;exact Ko
theorem S6 (A B:Option Aa) (n c m d:Nat) (l r:AQ) (w:AH) (hl:Ag 1 iR w (AA A n c) l) (hr:Ag 1 iR w (AA B m d) r):
 AS prog 71 #[AA A n c,AA B m d] w fun e w'=>e=AW (Ab (BD l r))/\AK w w':=by
 have hn2:n<=9223372036854775807:=by have:=hl.le;omega
 have hln:=hl.len;have hrn:=hr.len;obtain ⟨HL,HR⟩:=Al hl hr;clear hl hr;by_cases e:n=m
 ·subst e
  have el:l.length=r.length:=AG
  skip
  obtain ⟨HN,HE⟩:=Al hln el;clear hln hrn el;obtain ⟨v,hv⟩:=BR (BD l r);rw [hv];have HV:AI (BD (l.drop 0) (r.drop 0)=v):=AF hv;clear hv;go_enter func71,ntmps71;go_wp2_with fail;go_loopg [13] n (fun q i wr=>∃k:Nat,k<=n/\q=n - k/\i=AB AE k/\BD (l.drop k) (r.drop k)=v/\AK w wr)
  case atStart=>exact Md
  obtain ⟨k,hk,hq,rfl,hv,hb⟩:=hrel;obtain ⟨HQ,HB,EJ⟩:=BB hq hb hv;clear hq hb hv HV;by_cases hlt:k < n
  ·obtain ⟨a,ao,x,rfl,hal,hx,hxc⟩:=xq (HL.o.mono IZ HB.o) hlt
   obtain ⟨b,bo,y,rfl,hbl,hy,Mw⟩:=xq (HR.o.mono IZ HB.o) hlt;obtain ⟨HX,HY⟩:=Al hx hy;have hkn:(k:Int) < (n:Int):=AG
   have hk0:=Int.natCast_nonneg k
   clear hx hy;by_cases exy:x=y
   ·subst exy
    exact AAe
   obtain rfl:=Ro HX.o HY.o EJ.o exy;exact zq
  exact Mc
 have el:¬l.length=r.length:=AG
 rw [Fu el];go_enter func71,ntmps71;exact Ko
theorem AJx:(prog.info? 302).map (fun i=>i.methods.find? (·.name== "Len"))=some (some ⟨ "Len",307,#[⟨305,0,true⟩],some (185,false)⟩):=by kernel_rfl
theorem jv (G:Nat) (v:AN) (w:AH) (h:w.cell? ⟨G,0,none⟩=some v):∀N:Nat,0 < N->
 (method N 302 (AU (some ⟨G,0,none⟩)) "Len").run prog w=.ok (185,v) w:=by
 intro N hN;obtain ⟨k,rfl⟩:∃k,N=k+1:=⟨N - 1,by omega⟩;obtain ⟨i,hi,hm⟩:∃i,prog.info? 302=some i/\i.methods.find? (·.name== "Len")=some ⟨ "Len",307,#[⟨305,0,true⟩],some (185,false)⟩:=by have:=AJx;simpa [Option.map_eq_some_iff] using this
 exact nP
theorem AHc:(prog.info? 302).map (fun i=>i.methods.find? (·.name== "Less"))=some (some ⟨ "Less",366,#[⟨305,0,true⟩],some (244,false)⟩):=by kernel_rfl
theorem Rq (G:Nat) (v:AN) (w:AH) (h:w.cell? ⟨G,0,none⟩=some v):∀N:Nat,0 < N->
 (method N 302 (AU (some ⟨G,0,none⟩)) "Less").run prog w=.ok (244,v) w:=by
 intro N hN;obtain ⟨k,rfl⟩:∃k,N=k+1:=⟨N - 1,by omega⟩;obtain ⟨i,hi,hm⟩:∃i,prog.info? 302=some i/\i.methods.find? (·.name== "Less")=some ⟨ "Less",366,#[⟨305,0,true⟩],some (244,false)⟩:=by have:=AHc;simpa [Option.map_eq_some_iff] using this
 exact nP
theorem AHa:(prog.info? 302).map (fun i=>i.methods.find? (·.name== "Swap"))=some (some ⟨ "Swap",363,#[⟨305,0,true⟩],some (248,false)⟩):=by kernel_rfl
theorem O8 (G:Nat) (v:AN) (w:AH) (h:w.cell? ⟨G,0,none⟩=some v):∀N:Nat,0 < N->
 (method N 302 (AU (some ⟨G,0,none⟩)) "Swap").run prog w=.ok (248,v) w:=by
 intro N hN;obtain ⟨k,rfl⟩:∃k,N=k+1:=⟨N - 1,by omega⟩;obtain ⟨i,hi,hm⟩:∃i,prog.info? 302=some i/\i.methods.find? (·.name== "Swap")=some ⟨ "Swap",363,#[⟨305,0,true⟩],some (248,false)⟩:=by have:=AHa;simpa [Option.map_eq_some_iff] using this
 exact nP
theorem AHb:(prog.info? 302).map (fun i=>i.methods.find? (·.name== "Push"))=some (some ⟨ "Push",361,#[],some (246,true)⟩):=by kernel_rfl
theorem xe (a:Aa) (w:AH):∀N:Nat,0 < N->
 (method N 302 (AU (some a)) "Push").run prog w=.ok (246,AU (some a)) w:=by
 intro N hN;obtain ⟨k,rfl⟩:∃k,N=k+1:=⟨N - 1,by omega⟩;obtain ⟨i,hi,hm⟩:∃i,prog.info? 302=some i/\i.methods.find? (·.name== "Push")=some ⟨ "Push",361,#[],some (246,true)⟩:=by have:=AHb;simpa [Option.map_eq_some_iff] using this
 exact AAL
theorem AJw:(prog.info? 302).map (fun i=>i.methods.find? (·.name== "Pop"))=some (some ⟨ "Pop",365,#[],some (245,true)⟩):=by kernel_rfl
theorem ABt (a:Aa) (w:AH):∀N:Nat,0 < N->
 (method N 302 (AU (some a)) "Pop").run prog w=.ok (245,AU (some a)) w:=by
 intro N hN;obtain ⟨k,rfl⟩:∃k,N=k+1:=⟨N - 1,by omega⟩;obtain ⟨i,hi,hm⟩:∃i,prog.info? 302=some i/\i.methods.find? (·.name== "Pop")=some ⟨ "Pop",365,#[],some (245,true)⟩:=by have:=AJw;simpa [Option.map_eq_some_iff] using this
 exact AAL
def EK (G:Nat) (W:AH):Option Nat:=(W.cell? ⟨G,0,none⟩).bind fun v=>v.ownBlock
theorem GR {G:Nat} {w:AH} {t:Ae} {v:AN} (h:AY w G t #[v]):EK G w=v.ownBlock:=by unfold EK;rw [h.cell 0];rfl
structure Kept (G:Nat) (w w':AH):Prop where
 os:w'.os=w.os
 tape:w'.tape=w.tape
 output:w'.output=w.output
 size:w.heap.size<=w'.heap.size
 block:∀b,b < w.heap.size->b≠G->some b≠EK G w->w'.heap[b]? =w.heap[b]?
 pt:EK G w'=EK G w\/∃b,EK G w'=some b/\w.heap.size<=b
theorem Kept.refl (G:Nat) (w:AH):Kept G w w:=⟨rfl,rfl,rfl,Ac _,fun _ _ _ _=>rfl,.inl rfl⟩
theorem Kept.trans {G:Nat} {a b c:AH} (h:Kept G a b) (k:Kept G b c):Kept G a c:=
 ⟨k.os.trans h.os,k.tape.trans h.tape,k.output.trans h.output,BH h.size k.size,fun x hx hg hp=>(k.block x (Av hx h.size) hg (fun e=>by
  rcases h.pt with h1 | ⟨y,h1,h2⟩
  · rw [h1] at e;exact hp e
  · rw [h1] at e;injection e with e;omega)).trans (h.block x hx hg hp),by
  rcases k.pt with k1 | ⟨y,k1,k2⟩
  ·rcases h.pt with h1 | ⟨y,h1,h2⟩
   · exact .inl (k1.trans h1)
   · exact .inr ⟨y,k1.trans h1,h2⟩
  · exact .inr ⟨y,k1,BH h.size k2⟩⟩
theorem Kept.drewN {G:Nat} {a b:AH} (h:Kept G a b) (n:Nat):Kept G a (b.drewN n):=⟨h.os,h.tape,h.output,h.size,h.block,h.pt⟩
theorem Kept.Lz {G g:Nat} {a b:AH} {t:Ae} {v:AN} (hk:AY a G t #[v]) (hv:v.ownBlock=some g) (hne:G≠g) (h:a.grownBy b (some g)):Kept G a b:=
 ⟨h.os,h.tape,h.output,h.size,fun x hx _ hp=>h.block x hx (fun e=>hp (by rw [GR hk,hv,e])),.inl (by have hk2:AY b G t #[v]:=hk.grown h (fun e=>hne (by injection e));rw [GR hk,GR hk2])⟩
theorem Kept.put {G:Nat} {a b:AH} {t:Ae} {v u:AN} (h:Kept G a b) (hk:AY b G t #[v]) (hu:u.ownBlock=EK G a\/∃y,u.ownBlock=some y/\a.heap.size<=y):Kept G a (b.setCell ⟨G,0,none⟩ u):=
 ⟨h.os,h.tape,h.output,by simpa [World.setCell] using h.size,fun x hx hne hp=>(C5 b _ u x hne).trans (h.block x hx hne hp),by
  have hk2:AY (b.setCell ⟨G,0,none⟩ u) G t #[u]:=hk.put 0 u;rw [GR hk2];exact hu⟩
def Fp (w:AH) (base G:Nat) (l:AQ):Prop:=
 ∃v,AY w G 305 #[v]/\w.ownsRow base 3 1 v l.length (l.map (Value.int .i64))/\G < base/\base<=w.heap.size
theorem Fp.form {w:AH} {base G:Nat} {l:AQ} (h:Fp w base G l) (hl:0 < l.length):
 ∃g cap,base<=g/\G < base/\base<=w.heap.size/\AY w G 305 #[AA (some ⟨g,0,none⟩) l.length cap]/\w.ownsRow base 3 1 (AA (some ⟨g,0,none⟩) l.length cap) l.length (l.map (Value.int .i64)):=by
 obtain ⟨v,h1,h2,h3,h4⟩:=h;obtain ⟨g,cap,rfl⟩:=Joins.ownsRow_form h2 hl;exact ⟨g,cap,(h2.lt g rfl).1,h3,h4,h1,h2⟩
theorem len_any (A:Option Aa) (n c:Nat) (w:AH):AS prog 185 #[AA A n c] w fun e w'=>e=AW (AB AE n)/\w=w':=by go_enter func185,ntmps185;go_wp2;go_ret;exact ⟨rfl,rfl⟩
theorem Qu {w:AH} {base g cap n:Nat} {l:AQ} (h:w.ownsRow base 3 1 (AA (some ⟨g,0,none⟩) n cap) n (l.map (Value.int .i64))) {i:Nat} (hi:i < n):
 w.cell? ⟨g,i,none⟩=some (AB AE (l.getD i 0)):=by
 have hl:l.length=n:=by have:=h.1;simpa using this
 rw [h.cellAt i AG];rw [Bg,Ck];have:l[i]? =some l[i]:=BN AG;simp [this]
theorem Sv (base g cap n:Nat) (l:AQ) (i j:Nat) (w:AH) (h:w.ownsRow base 3 1 (AA (some ⟨g,0,none⟩) n cap) n (l.map (Value.int .i64))) (hi:i < n) (hj:j < n):
 AS prog 244 #[AA (some ⟨g,0,none⟩) n cap,AB AE i,AB AE j] w fun e w'=>e=AW (Ab (decide (l.getD i 0 < l.getD j 0)))/\∃k,w'=w.drewN k:=by
 have ci:=Qu h hi;have cj:=Qu h hj;obtain ⟨a,ha⟩:=BR (l.getD i 0);obtain ⟨b,hb⟩:=BR (l.getD j 0);rw [ha] at ci ⊢;rw [hb] at cj ⊢;clear ha hb h;have i0:(0:Int)<=(i:Int):=AG
 have i1:(i:Int) < (n:Int):=AG
 have j0:(0:Int)<=(j:Int):=AG
 have j1:(j:Int) < (n:Int):=AG
 go_enter func244,ntmps244;go_wp2_with fail;go_quiet (fail);go_wp2;go_ret;exact ⟨rfl,_,rfl⟩
theorem yT (w:AH) (row:Option Nat):w.grownBy w row:=⟨rfl,rfl,rfl,Ac _,fun _ _ _=>rfl⟩
theorem ACy (l:AQ) (i j:Nat):((l.map (Value.int .i64)).set i (AB AE (l.getD j 0))).set j (AB AE (l.getD i 0))=(JD l i j).map (Value.int .i64):=by simp [JD,List.map_set]
theorem swap_any (base g cap n:Nat) (l:AQ) (i j:Nat) (w:AH) (h:w.ownsRow base 3 1 (AA (some ⟨g,0,none⟩) n cap) n (l.map (Value.int .i64))) (hi:i < n) (hj:j < n):
 AS prog 248 #[AA (some ⟨g,0,none⟩) n cap,AB AE i,AB AE j] w fun e w'=>(∃u,e=AW u)/\w'.ownsRow base 3 1 (AA (some ⟨g,0,none⟩) n cap) n ((JD l i j).map (Value.int .i64))/\w.grownBy w' (some g):=by
 have ci:=Qu h hi;have cj:=Qu h hj;have fi:=h.frozenAt i;have fj:=h.frozenAt j;obtain ⟨HS,HO⟩:=Al (ACy l i j) h;obtain ⟨a,ha⟩:=BR (l.getD i 0);obtain ⟨b,hb⟩:=BR (l.getD j 0);rw [ha] at ci;rw [hb] at cj;rw [ha,hb] at HS;clear ha hb h;have i0:(0:Int)<=(i:Int):=AG
 have i1:(i:Int) < (n:Int):=AG
 have j0:(0:Int)<=(j:Int):=AG
 have j1:(j:Int) < (n:Int):=AG
 by_cases hij:i=j
 ·subst hij
  obtain rfl:a=b:=by rw [ci] at cj;simpa using cj
  exact AAj
 exact AAj
structure mD where
 src:AQ
 dst:Int
def N6 (nf:Nat):AQ->Nat->Option Nat
 | [],x=>some x
 | f::r,x=>if f < 0\/(nf:Int)<=f\/x.testBit f.toNat then none else N6 nf r (x ||| 2 ^ f.toNat)
def Mn (nf:Nat) (d:mD):Bool:=match N6 nf d.src 0 with
 | none=>false
 | some x=>x !=0 && decide (0<=d.dst) && decide (d.dst < nf) && !x.testBit d.dst.toNat
def M3 (nf:Nat) (ds:List mD):Bool:=decide (1<=nf) && decide (nf<=12) && decide (ds.length<=12) && ds.all (Mn nf)
def eno (b:Bool):Int:=if b then 0 else 130
theorem AIl (x:Nat) (n:Nat) (hx:x < 4096):(bits BinOp.and IntKind.u64 (↑x / 2 ^ n) 1==1)=x.testBit n:=by
 have h1:((x:Int) / 2 ^ n)=((x / 2 ^ n:Nat):Int):=AZ
 have hlt:x / 2 ^ n < 18446744073709551616:=Nat.lt_of_le_of_lt (Nat.div_le_self _ _) AG;rw [h1];have h2:=u64_and_nat (x / 2 ^ n) 1 hlt AG;simp only [Int.natCast_one] at h2;rw [h2,Nat.and_one_is_mod,Nat.testBit_eq_decide_div_mod_eq];rcases Nat.mod_two_eq_zero_or_one (x / 2 ^ n) with h | h <;> simp [h]
theorem ABL {nf:Nat} {f:Int} {r:AQ} {x:Nat} (h:f < 0\/(nf:Int)<=f\/x.testBit f.toNat=true):N6 nf (f::r) x=none:=by unfold N6;rw [Ak h]
theorem ACr {nf:Nat} {f:Int} {r:AQ} {x:Nat} (h0:0<=f) (h1:f < (nf:Int)) (h2:x.testBit f.toNat=false):N6 nf (f::r) x=N6 nf r (x ||| 2 ^ f.toNat):=by rw [N6,Ah];simp [h2];omega
theorem AJr {x n:Nat} (hx:x < 4096) (hn:n < 12):x ||| 2 ^ n < 4096:=by have:2 ^ n < 2 ^ 12:=Nat.pow_lt_pow_right AG hn;exact Nat.or_lt_two_pow (n:=12) hx this
theorem AIi (x:Nat):((x:Int) !=0)=(x !=0):=by
 rcases Pt x with h | h
 · subst h;rfl
 have h1:((x:Int) !=0)=true:=by rw [bne_iff_ne];omega
 have h2:(x !=0)=true:=by rw [bne_iff_ne];omega
 rw [h1,h2]
theorem rz {nf:Nat} {l:AQ} {DS:Int} (h:N6 nf l 0=none):Mn nf ⟨l,DS⟩=false:=by simp [Mn,h]
theorem ry {nf:Nat} {l:AQ} {DS:Int} {x:Nat} (h:N6 nf l 0=some x):Mn nf ⟨l,DS⟩=(x !=0 && decide (0<=DS) && decide (DS < nf) && !x.testBit DS.toNat):=by simp [Mn,h]
theorem ABK {nf:Nat} {l:AQ} {x k:Nat} {r:Option Nat} (h:N6 nf (l.drop k) x=r) (hk:l.length<=k):r=some x:=by rw [FQ hk] at h;exact h.symm
theorem AHR {x:Nat} {f:Int} (hx:x < 4096) (h1:f < 12):bits BinOp.or IntKind.u64 (↑x) (IntKind.u64.wrap (2 ^ f.toNat))=((x ||| 2 ^ f.toNat:Nat):Int):=by
 have h2:2 ^ f.toNat < 2 ^ 12:=Nat.pow_lt_pow_right AG AG;have h2':0<=(2:Int) ^ f.toNat:=Int.pow_nonneg AG;have h3:((2:Int) ^ f.toNat)=((2 ^ f.toNat:Nat):Int):=AZ
 have h4:IntKind.u64.wrap (((2 ^ f.toNat:Nat)):Int)=((2 ^ f.toNat:Nat):Int):=Uk _ AG;rw [h3,h4];exact u64_or_nat _ _ AG AG
theorem yx {nf k:Nat} {ds:List mD} {d:mD} (h:ds[k]? =some d) (hv:Mn nf d=false):M3 nf ds=false:=by
 have:ds.all (Mn nf)=false:=by rw [List.all_eq_false];exact ⟨d,Cr h,by simp [hv]⟩
 simp [M3,this]
def yj (w:AH) (cs:List AN) (d:mD):Prop:=
 ∃nA nn nc s A n c,cs=[AA nA nn nc,AL s,AA A n c,AB AE d.dst]/\Ag 1 Bt w (AA A n c) d.src/\ -9223372036854775808<=d.dst/\d.dst<=9223372036854775807
theorem ke:Ep yj:=by rintro w w' hb cs x ⟨nA,nn,nc,s,A,n,c,h1,h2,h3⟩;exact ⟨nA,nn,nc,s,A,n,c,h1,h2.mono BT hb,h3⟩
theorem AIe {w:AH} {A:Option Aa} {n cap:Nat} {l:List mD} (h:Ag 4 yj w (AA A n cap) l) {k:Nat} (hk:k < n):
 ∃b off d nA nn nc s fA fn fc,A=some ⟨b,off,none⟩/\b < w.heap.size/\l[k]? =some d/\
  w.cell? ⟨b,off+k*4,none⟩=some (AA nA nn nc)/\w.cell? ⟨b,off+k*4+1,none⟩=some (AL s)/\w.cell? ⟨b,off+k*4+2,none⟩=some (AA fA fn fc)/\w.cell? ⟨b,off+k*4+3,none⟩=some (AB AE d.dst)/\
  Ag 1 Bt w (AA fA fn fc) d.src/\ -9223372036854775808<=d.dst/\d.dst<=9223372036854775807:=by
 obtain ⟨b,off,d,cs,e,hb,hl,hlen,hc,nA,nn,nc,s,fA,fn,fc,rfl,h2,h3⟩:=h.at_ hk;exact ⟨b,off,d,nA,nn,nc,s,fA,fn,fc,e,hb,hl,by simpa using hc 0 _ rfl,by simpa [Nat.add_assoc] using hc 1 _ rfl,by simpa [Nat.add_assoc] using hc 2 _ rfl,by simpa [Nat.add_assoc] using hc 3 _ rfl,h2,h3⟩
theorem vV (x:Nat) (f:Int) (w:AH) (hx:x < 4096) (h0:0<=f) (h1:f < 64):
 AS prog 225 #[AB .u64 x,AB AE f] w fun e w'=>e=AW (Ab (x.testBit f.toNat))/\w=w':=by
 go_enter func225,ntmps225
 go_wp2
 go_ret;refine ⟨?_,rfl⟩;rw [<-AIl x _ hx];rfl
theorem ABJ (nA A:Option Aa) (nn nc n c:Nat) (s:ByteArray) (DS:Int) (nf:Nat) (l:AQ) (w:AH) (hnf:nf<=12) (hs:Ag 1 Bt w (AA A n c) l):
 AS prog 177 #[AP #[AA nA nn nc,AL s,AA A n c,AB AE DS],AB AE nf] w (Ret (Ab (Mn nf ⟨l,DS⟩)) w):=by
 have hn2:n<=9223372036854775807:=by have:=hs.le;omega
 obtain ⟨HN,HS⟩:=Al hs.len hs;clear hs;go_enter func177,ntmps177
 go_wp2
 go_loop [5,11] (fun fr i=>∃k x:Nat,k<=n/\i=AB AE k/\fr=AB .u64 x/\x < 4096/\N6 nf (l.drop k) x=N6 nf l 0) (fun _ i=>n - (intOf i).toNat)
 case atStart=>exact ⟨0,0,Ay _,rfl,rfl,by omega,rfl⟩
 obtain ⟨k,x,hk,rfl,rfl,hx,hv⟩:=hrel;have HV:=AF hv;clear hv;by_cases hlt:k < n
 ·obtain ⟨b,off,f,rfl,hb,hf,hc,hlo,hhi⟩:=ints_at HS.o hlt
  have HF:=AF hf;clear hf;go_wp2_with (go_at_call 225;refine (vV _ _ _ hx AG AG).mono ?_;rintro e w' ⟨rfl,rfl⟩)
  rotate_left 1
  ·have hb2:x.testBit f.toNat=false:=by simp_all
   go_round
   case rel=>exact ⟨k+1,x ||| 2 ^ f.toNat,by omega,by go_num,by rw [AHR hx AG],AJr hx AG,by rw [<-HV.o,drop_cons HF.o,ACr AG AG hb2]⟩
   case measure=>simp [intOf];omega
  all_goals
   go_ret;refine ⟨A8 ?_,(Af _ _).alloc (Ac _) _⟩;rw [rz];rw [<-HV.o,drop_cons HF.o,ABL]
   first | (left;assumption) | (right;left;assumption) | (right;right;rcases ‹_\/_› with (h | h) | h <;> first | exact h | (exfalso;omega))
 have hv:=ABK HV.o MF;have HW:=AF (ry (DS:=DS) hv);clear hv;go_wp2_with (go_at_call 225;refine (vV _ _ _ hx AG AG).mono ?_;rintro e w' ⟨rfl,rfl⟩)
 all_goals
  go_ret;refine ⟨A8 ?_,(Af _ _).alloc (Ac _) _⟩;rw [HW.o]
  go_light
  simp [*,AIi]
  try (intros;omega)
theorem check_any (s1 s2:ByteArray) (i1 i2:Int) (fA dA:Option Aa) (nf fc nd dc:Nat) (ds:List mD) (w:AH) (hnf:nf<=9223372036854775807) (hs:Ag 4 yj w (AA dA nd dc) ds):
 AS prog 113 #[AP #[AL s1,AL s2,AB AE i1,AB AE i2,AA fA nf fc,AA dA nd dc]] w (Ret (AB AE (eno (M3 nf ds))) w):=by
 have hn2:nd<=9223372036854775807:=by have:=hs.le;omega
 obtain ⟨HN,HS⟩:=Al hs.len hs;clear hs;by_cases h1:nf < 1\/12 < nf\/12 < nd
 ·have HC:AI (M3 nf ds=false):=by
   have:=HN.o;show _=_;unfold M3;rcases h1 with h | h | h
   · simp [show ¬1<=nf by omega]
   · simp [show ¬nf<=12 by omega]
   · simp [show ¬ds.length<=12 by omega]
  go_enter func113,ntmps113
  go_wp2
  all_goals first
   | (go_ret;exact ⟨by rw [HC.o];rfl,(Af _ _).alloc (Ac _) _⟩)
   | (exfalso;omega)
 have a1:1<=nf:=AG
 have a2:nf<=12:=AG
 have a3:nd<=12:=AG
 clear h1;have d1:decide ((nf:Int) < 1)=false:=by simp;omega
 have d2:decide ((12:Int) < nf)=false:=by simp;omega
 have d3:decide ((12:Int) < nd)=false:=by simp;omega
 go_enter func113,ntmps113
 go_wp2
 go_loopw [24] (fun i wr=>∃k:Nat,k<=nd/\i=AB AE k/\Below (w.heap.size+1) (w.alloc (AO #[AL s1,AL s2,AB AE i1,AB AE i2,AA fA nf fc,AA dA nd dc] 85)) wr/\(ds.take k).all (Mn nf)=true) (fun i _=>nd - (intOf i).toNat)
 case atStart=>exact ⟨0,Ay _,rfl,Af _ _,rfl⟩
 obtain ⟨k,hk,rfl,hb,hv⟩:=hrel;have HV:=AF hv;clear hv;have hb0:AK w wr:=(BK _ _).trans (hb.mono AG);have AMW:wr.cell? ⟨w.heap.size,4,none⟩=some (AA fA nf fc):=(hb.cell (p:=⟨w.heap.size,4,none⟩) AZ).trans AZ;have hsz:w.heap.size < wr.heap.size:=by have:=hb.size;simp at this;omega
 by_cases hlt:k < nd
 ·obtain ⟨b,off,d,nA,nn,nc,s,gA,gn,gc,rfl,hbl,hd,c0,c1,c2,c3,hsrc,hlo,hhi⟩:=AIe (HS.o.mono ke hb0) hlt
  obtain ⟨HD,jI,HB,HB0⟩:=CD hd hsrc hb hb0;clear hd hsrc hb hb0;obtain ⟨vb,hvb⟩:=BR (Mn nf d);have HVB:=AF hvb;clear hvb;rcases vb with _ | _
  all_goals
   go_wp2_with (go_at_call 177;refine (ABJ _ _ _ _ _ _ _ _ _ d.src _ a2 (jI.o.mono BT (BK _ _))).mono ?_;rintro e w1 ⟨rfl,hb1⟩;rw [show Mn nf ⟨d.src,d.dst⟩=_ from HVB.o];have HB1:=AF hb1;clear hb1)
  ·go_ret
   refine ⟨DG ?_,(HB0.o.alloc AG _).trans (HB1.o.mono Bd)⟩;rw [yx HD.o HVB.o];rfl
  go_roundw
  case rel=>exact ⟨k+1,by omega,by go_num,(HB.o.alloc AG _).trans (HB1.o.mono Bd),by rw [take_snoc HD.o,List.all_append,HV.o];simp [HVB.o]⟩
  case measure=>simp [intOf];omega
 have HC:AI (M3 nf ds=true):=by have h1:=HV.o;have h2:=HN.o;rw [C7 AG] at h1;show _=_;unfold M3;simp [h1,a1,a2];omega
 go_wp2
 go_ret;exact ⟨by rw [HC.o];rfl,hb0⟩
theorem WL:(prog.info? 3).map (fun i=>(i.zero,i.size,i.bytes))=some (some (AB AE 0),1,8):=by kernel_rfl
theorem YX (x:Int) (w:AH):(Instr.typeAssert (.iface 3 (AB AE x)) 20 3 true).run prog w=.ok (.tuple #[AB AE x,Ab true]) w:=by kernel_rfl
theorem ABc (base G:Nat) (l:AQ) (x:Int) (w:AH) (hq:Fp w base G l) (hb:base<=w.heap.size) (hl:l.length<=1000000):
 AS prog 246 #[AU (some ⟨G,0,none⟩),.iface 3 (AB AE x)] w fun e w'=>(∃u,e=AW u)/\Fp w' base G (l++[x])/\Kept G w w':=by
 obtain ⟨v,h1,h2,h3,h4⟩:=hq;obtain ⟨i0,hi,hz0,hz1,hz2⟩:=I8 WL;have c0:=h1.cell 0;have f0:=h1.frozen 0;have lG:=h1.lt;simp only [Aj,Ao] at c0;obtain ⟨H1,H2,HI,HZ⟩:=CD h1 h2 hi (And.intro hz0 (And.intro hz1 hz2));have hv:∃A n c,v=AA A n c:=by
  rcases h2.2 with ⟨rfl,_⟩ | ⟨g,cap,cur,rfl,_⟩
  · exact SY
  · exact SY
 clear h1 h2 hi hz0 hz1 hz2;obtain ⟨A,n,c,rfl⟩:=hv;have hta:=YX x;go_enter func246,ntmps246;go_wp2_with (at_builtin;refine wpList_append_own_at _ rfl (.tmp 16) (.tmp 18) 303 rfl base 3 i0 (AB AE 0) 1 8 underlying303 HI.o HZ.o.1 HZ.o.2.1 HZ.o.2.2 rfl Ai (AA A n c) l.length _ rfl (H2.o.alloc _) ⟨w.heap.size,0,none⟩ 1 1 [AB AE x] rfl rfl (cell_one_new _ _ _) Qi Gx AG Bd ?_;intro v' w5 hown' hgrow _ hat;have HAT:=AF hat;clear hat;obtain ⟨g',cap',rfl⟩:=Joins.ownsRow_form hown' AG;have k5:AY w5 G 305 #[AA A n c]:=(H1.o.alloc _).grown hgrow (fun e=>by have:=(H2.o.lt G e.symm).1;omega);have Yv:=AF k5;have f5:=k5.frozen 0;have c5:=k5.cell 0;simp only [Aj,Ao] at c5;have HOW:=AF hown';have Gp:=AF hgrow;clear hown' hgrow k5)
 go_end0
 have hlen:(l++[x]).length=l.length+1:=AZ
 have hsz:base<=w5.heap.size:=BH hb (BH AZ Gp.o.size);refine ⟨⟨_,rfl⟩,⟨_,Yv.o.put 0 _,?_,h3,by simpa [World.setCell] using hsz⟩,?_⟩
 ·rw [hlen,DY]
  exact FO HOW.o h3 _
 refine Kept.put (show Kept G w w5 from ⟨Gp.o.os,Gp.o.tape,Gp.o.output,BH AZ Gp.o.size,fun b hb2 _ hp=> ?_,.inl ?_⟩) Yv.o ?_
 ·refine (Gp.o.block b Bd (fun e=>hp (by rw [GR H1.o,e]))).trans ?_
  exact LR w _ b hb2
 · rw [GR Yv.o,GR H1.o]
 rw [GR H1.o];rcases HAT.o with e | e
 · exact .inl e
 · exact .inr ⟨_,e,by simp⟩
theorem AGY {w:AH} {base g cap:Nat} {l:AQ} (hl:0 < l.length) (h:w.ownsRow base 3 1 (AA (some ⟨g,0,none⟩) l.length cap) l.length (l.map (Value.int .i64))):
 w.ownsRow base 3 1 (AA (some ⟨g,0,none⟩) (l.length - 1) cap) (l.length - 1) ((l.take (l.length - 1)).map (Value.int .i64)):=by
 obtain ⟨n,hn⟩:∃n,l.length=n+1:=⟨l.length - 1,by omega⟩;rw [hn] at h ⊢;refine ownsRow_pop (last:=(l.drop n).map (Value.int .i64)) Bd ?_;rw [<-DY];simp only [Nat.add_sub_cancel,OU];exact h
theorem ADR (base G:Nat) (l:AQ) (w:AH) (hq:Fp w base G l) (hpos:0 < l.length) (hl:l.length<=1000000):
 AS prog 245 #[AU (some ⟨G,0,none⟩)] w fun e w'=>e=AW (.iface 3 (AB AE (l.getD (l.length - 1) 0)))/\Fp w' base G (l.take (l.length - 1))/\Kept G w w':=by
 obtain ⟨g,cap,hbg,hGb,hbs,hk,hown⟩:=hq.form hpos;clear hq;have hc:=Qu hown (i:=l.length - 1) AG;have HP:=AF (AGY hpos hown);have hcap:l.length<=cap:=by
  rcases hown.2 with ⟨h,_⟩ | ⟨g',cap',cur,h,_,_,h2,_⟩
  · cases h
  · injection h with _ _ h;omega
 have AIa:(l.take (l.length - 1)).length=l.length - 1:=AZ
 have HLEN:=AF AIa;clear AIa;obtain ⟨x,hx⟩:=BR (l.getD (l.length - 1) 0);rw [hx] at hc ⊢;obtain ⟨n,hn⟩:=BR l.length;obtain ⟨l',hl'⟩:=BR (l.take (l.length - 1));rw [hl'] at HP HLEN ⊢;rw [hn] at hc hk HP hcap hpos hl HLEN;clear hx hn hl' hown;have c0:=hk.cell 0;have f0:=hk.frozen 0;have lG:=hk.lt;simp only [Aj,Ao] at c0;have HK:=AF hk;clear hk;have e1:IntKind.i64.wrap ((n:Int) - 1)=(n:Int) - 1:=Ca _ AG;have e2:(0:Int)<=(n:Int) - 1:=AG
 have e3:((n:Int) - 1).toNat=n - 1:=AG
 have e4:(n:Int) - 1 < (n:Int):=AG
 have e5:(n:Int) - 1<=(cap:Int):=AG
 go_enter func245,ntmps245;go_wp2_with fail;go_quiet (fail);go_wp2_with fail;go_region;go_wp2;go_ret;refine ⟨rfl,⟨_,(HK.o.drewN _).put 0 _,?_,hGb,by simpa [World.setCell] using hbs⟩,((Kept.refl G w).drewN _).put (HK.o.drewN _) (.inl (by rw [GR HK.o];rfl))⟩;rw [HLEN.o];exact FO (w:=w.drewN (nq+1)) HP.o hGb _
end Go.Proofs.YtamhoilkpppdbaaGreatDoor
