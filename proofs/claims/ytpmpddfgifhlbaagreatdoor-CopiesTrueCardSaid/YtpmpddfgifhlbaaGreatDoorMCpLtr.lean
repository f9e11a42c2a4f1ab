import Derived.Test.YtpmpddfgifhlbaaGreatDoorMCpLt
namespace Go.Proofs.YtpmpddfgifhlbaaGreatDoor
set_option maxHeartbeats 8000000
set_option maxRecDepth 100000
open Go.Value renaming slice→AA, int→AB, pointer→AU, bool→AX
open Go.IntKind renaming i64→AE
open Go.RowKit Go.Shelf
attribute [local go_sem] Oper.semAt_some
def AI4:AEm AAy.R:=⟨_,by
 intro hR v0
 unhygienic intros
 go_loopg [24] un (fun q' i wr=>∃j:Nat,j<=un/\q'=un - j/\i=AB AE j/\Eo CU M wr)
 case atStart=>exact ⟨0,Ar _,rfl,rfl,ALC.o⟩
 obtain ⟨j,hj,hq,rfl,hI⟩:=hrel;obtain ⟨HQ,HI⟩:=Aj hq hI;clear hq hI;obtain ⟨z1,z2,z3,z4,z5,z6,z7,z8,z9⟩:=HZ.o wr HI.o.1;by_cases hlt:j < un
 ·obtain ⟨fb,fo,f,rfl,hfb,hf,ef,hf1,hf2⟩:=ints_at PO.o hlt
  have hfr:=qS.o.rng f (Ci hf);obtain ⟨fk,rfl⟩:∃k:Nat,f=k:=⟨f.toNat,by omega⟩;obtain ⟨ub,uo,u,rfl,hub,hu,eu,hu1,hu2⟩:=ints_at ut.o hlt;obtain ⟨yb,yo,y,rfl,hyb,hy,ey,hy1,hy2⟩:=ints_at AIN.o (show fk < yn by omega);obtain ⟨q,B1,m1,d1,C1,m2,d2,WL,hq1,hq2,jN⟩:=jy.o j (by have:=ji.o;omega);obtain ⟨D,hD,PT,Qi⟩:=YM.o fk u s.holder Oe Oe Ff.o;have Xn:C7 Aq RO M D q=true:=by
   have h:=qS.o.field j fk q hf WL;rw [C0,hu,Ce] at h;rw [hD]
   with_reducible exact h
  obtain ⟨PV,So,iT⟩:=Az (And.intro PT (And.intro Xn (And.intro hq1 hq2))) Qi jN;have hj1:(j:Int) < (un:Int):=AG
  have hj0:(0:Int)<=(j:Int):=AG
  have hjx:(j:Int) < (xn:Int):=by have:=ji.o;omega
  have hjb:(j:Int) < 9223372036854775807:=by have:=AFI.o;omega
  have hf0:(0:Int)<=(fk:Int):=AG
  have hf3:(fk:Int) < (yn:Int):=AG
  have hf4:¬(yn:Int)<=(fk:Int):=AG
  have hf5:¬(fk:Int) < 0:=AG
  have cf:wr.cell? ⟨fb,fo+j,none⟩=some (AB AE fk):=((CY.o wr HI.o.1).cell (p:=⟨fb,fo+j,none⟩) hfb).trans ef;have WW:AI (∀W,Eo CU M W->(W.cell? ⟨w.heap.size+1+1,2,none⟩=some (AB AE r.schema)/\W.cell? ⟨gc,36,none⟩=some (AA (some ⟨yb,yo,none⟩) yn yc)/\W.cell? ⟨w.heap.size+1+1+1+1+1,3,none⟩=some (AB AE s.place)/\W.cell? ⟨w.heap.size+1+1+1+1+1,37,none⟩=some (AA (some ⟨ub,uo,none⟩) un uc)/\W.cell? ⟨w.heap.size+1+1+1+1+1,71,none⟩=some (AA (some ⟨xb,xo,none⟩) xn xc))/\W.cell? ⟨ub,uo+j,none⟩=some (AB AE u)/\W.cell? ⟨yb,yo+fk,none⟩=some (AB AE y)):=AF (fun W hW=>by obtain ⟨z1,z3, -,z5, -,z7, -,z9⟩:=uv.o W hW;exact ⟨⟨z1,z3,z5,z7,z9⟩,((CY.o W hW.1).cell (p:=⟨ub,uo+j,none⟩) hub).trans eu,(hW.1.cell (p:=⟨yb,yo+fk,none⟩) hyb).trans ey⟩)
  clear hfb hf ef hf1 hf2 hfr hub hu eu hu1 hu2 hyb hy ey hy1 hy2 WL hq1 hq2 jN hD PT Qi Xn;go_upto_region 35 with fail;clear z1 z2 z3 z4 z5 z6 z7 z8 z9 cf hf4 hf5;have TK:=WW.o;go_cut [26] from 260 to 283 (fun t wx=>∃b,t=AX b/\Eo CU M wx)
  case first=>
   have hS:Eo CU M wr.drew:=HI.o.below (Af wr.heap.size wr).drew;by_cases hP:s.place=place
   ·cases eb
    ·refine JA (fun W=>Eo CU M W) 25 _ DE AL rfl ?_
     refine qT 0 260 hS ?_;refine qL 1 261 hS (fun W hW=>Nc (TK W hW).1.2.2.1) ?_;refine qV 2 262 3 (AB AE place) hS ?_;refine qT 3 263 hS ?_ (v:=AX true);refine qV 4 264 263 (AX true) hS ?_;refine qT 5 265 hS ?_;refine qL 6 266 hS (fun W hW=>(Ib.o W hW.1).2.2.1) ?_;refine qT 7 267 hS ?_;refine qL 8 268 hS (fun W hW=>(Ib.o W hW.1).2.1) ?_;refine qT 9 269 hS ?_ (v:=AX false);exact ze
    obtain ⟨ev,hev⟩:∃b,(u==y)=b:=⟨_,rfl⟩;refine JA (fun W=>Eo CU M W) 25 _ DE AL rfl ?_;refine qT 0 260 hS ?_;refine qL 1 261 hS (fun W hW=>Nc (TK W hW).1.2.2.1) ?_;refine qV 2 262 3 (AB AE place) hS ?_;refine qT 3 263 hS ?_ (v:=AX true);refine qV 4 264 263 (AX true) hS ?_;refine qT 5 265 hS ?_;refine qL 6 266 hS (fun W hW=>(Ib.o W hW.1).2.2.1) ?_;refine qT 7 267 hS ?_;refine qL 8 268 hS (fun W hW=>(Ib.o W hW.1).2.1) ?_;refine qT 9 269 hS ?_ (v:=AX true);refine qT 10 270 hS ?_ (v:=AX true);refine qV 11 271 270 (AX true) hS ?_;refine qT 12 272 hS ?_;refine qL 13 273 hS (fun W hW=>gR (TK W hW).1.2.2.2.1) ?_;refine qV 14 274 24 (AB AE j) hS ?_;refine qT 15 275 hS ?_ (v:=AU (some ⟨ub,uo+j,none⟩));refine qL 16 276 hS (fun W hW=>Nc (TK W hW).2.1) ?_;refine qT 17 277 hS ?_;refine qL 18 278 hS (fun W hW=>gR (TK W hW).1.2.1) ?_;refine qV 19 279 25 (AB AE fk) hS ?_;refine qT 20 280 hS ?_ (v:=AU (some ⟨yb,yo+fk,none⟩));refine qL 21 281 hS (fun W hW=>Nc (TK W hW).2.2) ?_;refine qT 22 282 hS ?_ (v:=AX ev);refine qT 23 283 hS ?_ (v:=AX ev);refine qV 24 26 283 (AX ev) hS ?_;exact bX
   refine JA (fun W=>Eo CU M W) 25 _ DE AL rfl ?_;refine qT 0 260 hS ?_;refine qL 1 261 hS (fun W hW=>Nc (TK W hW).1.2.2.1) ?_;refine qV 2 262 3 (AB AE place) hS ?_;refine qT 3 263 hS ?_ (v:=AX false);refine qV 4 264 263 (AX false) hS ?_;refine qN 5 265 hS ?_;refine qN 6 266 hS ?_;refine qN 7 267 hS ?_;refine qN 8 268 hS ?_;refine qN 9 269 hS ?_;exact ze
  obtain ⟨b,rfl,hg⟩:=hcut;have hS:Eo CU M wc.drew:=hg.below (Af wc.heap.size wc).drew;clear hg;go_upto_region 36 with fail;go_cut [307] from 284 to 307 (fun t wx=>t=AX false/\Eo CU M wx)
  case first=>
   cases b
   ·refine JA (fun W=>Eo CU M W) 24 _ DE AL rfl ?_
    refine qV 0 284 26 (AX false) hS ?_;refine qT 1 285 hS ?_ (v:=AX true);refine qV 2 286 285 (AX true) hS ?_;refine qL 3 287 hS (fun W hW=>(Ib.o W hW.1).1) ?_;refine qV 4 288 21 (AA (some ⟨CU.heap.size,0,none⟩) M M) hS ?_;refine qT 5 289 hS ?_;refine qL 6 290 hS (fun W hW=>Nc (TK W hW).1.1) ?_;refine qV 7 291 25 (AB AE fk) hS ?_;refine qT 8 292 hS ?_;refine qL 9 293 hS (fun W hW=>gR (TK W hW).1.2.2.2.1) ?_;refine qV 10 294 24 (AB AE j) hS ?_;refine qT 11 295 hS ?_ (v:=AU (some ⟨ub,uo+j,none⟩));refine qL 12 296 hS (fun W hW=>Nc (TK W hW).2.1) ?_;refine qT 13 297 hS ?_;refine qL 14 298 hS (fun W hW=>(Ib.o W hW.1).2.2.1) ?_;refine qT 16 300 hS ?_;refine qL 17 301 hS (fun W hW=>gQ (TK W hW).1.2.2.2.2) ?_;refine qV 18 302 24 (AB AE j) hS ?_;refine qT 19 303 hS ?_ (v:=AU (some ⟨xb,xo+j*3,none⟩));refine qL 20 304 hS (fun W hW=>(iT.o W hW)) ?_;refine qF 15 299 (So.o _ hS.1) ?_;rintro e wm ⟨rfl,P6⟩;have hS2:=hS.below P6;refine ⟨_,rfl,hS2,?_⟩;refine qF 21 305 (HEX.o D q B1 C1 m1 d1 m2 d2 _ PV.o.1 PV.o.2.1 PV.o.2.2.1 PV.o.2.2.2 hS2) ?_;rintro e wo ⟨rfl,aT⟩;have hS4:=hS2.below aT;refine ⟨_,rfl,hS4,?_⟩;refine qT 22 306 hS4 ?_ (v:=AX false);refine qT 23 307 hS4 ?_ (v:=AX false);refine Cx AL ?_ _;simp only [Bp,B9];have Gr:=AF hS4;clear TK;go_wp2
    go_meet
    case rel=>exact R0
   refine JA (fun W=>Eo CU M W) 24 _ DE AL rfl ?_;refine qV 0 284 26 (AX true) hS ?_;refine qT 1 285 hS ?_ (v:=AX false);refine qV 2 286 285 (AX false) hS ?_;refine qN 3 287 hS ?_;refine qN 4 288 hS ?_;refine qN 5 289 hS ?_;refine qN 6 290 hS ?_;refine qN 7 291 hS ?_;refine qN 8 292 hS ?_;refine qN 9 293 hS ?_;refine qN 10 294 hS ?_;refine qN 11 295 hS ?_;refine qN 12 296 hS ?_;refine qN 13 297 hS ?_;refine qN 14 298 hS ?_;refine qN 15 299 hS ?_;refine qN 16 300 hS ?_;refine qN 17 301 hS ?_;refine qN 18 302 hS ?_;refine qN 19 303 hS ?_;refine qN 20 304 hS ?_;refine qN 21 305 hS ?_;refine qN 22 306 hS ?_;refine qT 23 307 hS ?_ (v:=AX false);refine Cx AL ?_ _;simp only [Bp,B9];have Gr:=AF hS;clear TK;go_wp2
   go_meet
   case rel=>exact R0
  obtain ⟨rfl,hg⟩:=hcut;have ALA:=AF hg;clear hg hS TK;go_wp2;go_roundg (un - (j+1))
  case measure=>exact Bc
  case rel=>exact ⟨j+1,by omega,rfl,by go_num,ALA.o⟩
 rename_i y1 y2 y3 y4 y5 y6;revert v0 v1 v3 v4 v5 v6 A n c ns seed r place pe it xs xp xi holder links vs s VA LA FA UA vn vc ln lc fc un uc xn xc w RR OO SD SS CB w5 w6 w7 w8 q0 YA yn yc YB zc YC un' uc' C2 gc N M p0 RO gd R1 NW CU w16 x1 x2 u126 u127 u128 u129 u130 u131 u132 u133 u134 u135 u136 u137 u138 u139 u140 u141 u142 u143 u144 u145 u146 u147 u148 u149 u150 x3 x4 x7 x8 x10 wl y1 u151 u152 u153 u154 u155 u156 u157 u158 u159 u160 u161 u162 u163 u164 u165 u166 u167 u168 u169 u170 u171 u172 u173 u174 u175 u176 u177 u178 u179 x11 x12 y2 D k1 kk x15 xb xo eb wc u209 u210 u211 u212 u213 u214 u215 u216 u217 u218 u219 u220 u221 u222 u223 u224 u225 u226 u227 u228 u229 u230 u231 u232 u233 u234 u235 u236 u237 x17 gk wr u14 u25 u26 u239 u240 u241 u242 u243 u244 u245 u246 u247 u248 u249 u250 u251 u252 u253 u254 u255 u256 u257 u258 u259 u260 u261 u262 u263 u264 u265 u266 u267 u268 u269 u270 u271 u272 u273 u274 u275 u276 u277 u278 u279 u280 u281 u282 u283 u284 u285 u286 u287 u288 u289 u290 u291 u292 u293 u294 u295 u296 u297 u298 u299 u300 u301 u302 u303 u304 u305 u306 u307 y3 y4 j CV DE hgd;exact hR.o⟩
end Go.Proofs.YtpmpddfgifhlbaaGreatDoor
