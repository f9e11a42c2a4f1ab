import Derived.Test.YtpmpddfgifhlbaaGreatDoorMCpLtr
namespace Go.Proofs.YtpmpddfgifhlbaaGreatDoor
set_option maxHeartbeats 8000000
set_option maxRecDepth 100000
open Go.Value renaming slice→AA, int→AB, pointer→AU, bool→AX
open Go.IntKind renaming i64→AE
open Go.RowKit Go.Shelf
attribute [local go_sem] Oper.semAt_some
theorem AI5:AI4.R:=by
 intro v0
 unhygienic intros
 have hj1:¬(j:Int) < (un:Int):=AG
 by_cases hk0:s.link < 0
 ·have DF:=AF (CY.o wr HI.o.1)
  go_wp2;go_ret;exact ⟨rfl,DF.o⟩
 obtain ⟨lk,hlk⟩:∃k:Nat,s.link=k:=⟨s.link.toNat,by omega⟩;have AHd:lk < 4:=by have:=qS.o.link;omega
 have hxn:xn=un+2:=by have h:=PU.o;rw [Ah AG] at h;exact h
 obtain ⟨lb,lo,t,rfl,hlb, -,htl, -,htr⟩:=GU AII.o AHd;obtain ⟨q,B1,m1,d1,C1,m2,d2,WL,hq1,hq2,jN⟩:=jy.o un AG;obtain ⟨D,hD,PT,Qi⟩:=HLK.o lk s.token s.holder Oe HST.o Ff.o;have Xn:C7 Aq RO M D q=true:=by
  have h:=qS.o.AI6 q AG (by rw [<-PO.o.len];exact WL);rw [hlk] at h;rw [hD]
  with_reducible exact h
 obtain ⟨PV,So,iT,OY⟩:=CJ (And.intro PT (And.intro Xn (And.intro hq1 hq2))) Qi jN htl;have hx2:IntKind.i64.wrap ((un:Int)+2)=(xn:Int):=by rw [Bv _ (by have:=AFI.o;omega)];omega
 have hux:(un:Int) < (xn:Int):=AG
 have hu0:(0:Int)<=(un:Int):=AG
 have hl0:(0:Int)<=(lk:Int):=AG
 have hl1:(lk:Int) < 4:=AG
 have hl2:¬(4:Int)<=(lk:Int):=AG
 have hl3:¬(lk:Int) < 0:=AG
 have WW:AI (∀W,Eo CU M W->W.cell? ⟨w.heap.size+1+1,2,none⟩=some (AB AE r.schema)/\W.cell? ⟨gc,37,none⟩=some (AA (some ⟨lb,lo,none⟩) 4 zc)/\W.cell? ⟨w.heap.size+1+1+1+1+1,3,none⟩=some (AB AE s.place)/\W.cell? ⟨w.heap.size+1+1+1+1+1,36,none⟩=some (AA FA un fc)/\W.cell? ⟨w.heap.size+1+1+1+1+1,38,none⟩=some (AB AE lk)/\W.cell? ⟨w.heap.size+1+1+1+1+1,71,none⟩=some (AA (some ⟨xb,xo,none⟩) xn xc)):=AF (fun W hW=>by obtain ⟨z1, -,z4,z5,z6, -,z8,z9⟩:=uv.o W hW;rw [hlk] at z8;exact ⟨z1,z4,z5,z6,z8,z9⟩)
 have HTR:AI (∀W,Eo CU M W->W.rangeAt lb (lo+lk*32) (t.map (Value.int .u8))):=AF (fun W hW i v hv=>(hW.1.cell (p:=⟨lb,lo+lk*32+i,none⟩) hlb).trans (htr i v hv));rw [hlk] at z8;clear hlb htl htr WL hq1 hq2 jN hD PT Qi Xn AHd hlk hk0 hxn hlt hj HQ;go_upto_region 42 with fail;clear z1 z2 z3 z4 z5 z6 z7 z8 z9 hl2 hl3 hx2 hj1;have TK:=WW.o;obtain ⟨et,het⟩:∃b,decide (s.token=t)=b:=⟨_,rfl⟩;have hdt:=fun W=>QN HST.o OY.o W;simp only [het] at hdt;clear het;go_cut [27] from 327 to 348 (fun t wx=>∃b,t=AX b/\Eo CU M wx)
 case first=>
  have hS:Eo CU M wr.drew:=HI.o.below (Af wr.heap.size wr).drew;by_cases hP:s.place=place
  ·cases eb
   ·refine JA (fun W=>Eo CU M W) 23 _ DE AL rfl ?_
    refine qT 0 327 hS ?_;refine qL 1 328 hS (fun W hW=>Nc (TK W hW).2.2.1) ?_;refine qV 2 329 3 (AB AE place) hS ?_;refine qT 3 330 hS ?_ (v:=AX true);refine qV 4 331 330 (AX true) hS ?_;refine qT 5 332 hS ?_;refine qL 6 333 hS (fun W hW=>(Ib.o W hW.1).2.2.1) ?_;refine qT 7 334 hS ?_;refine qL 8 335 hS (fun W hW=>(Ib.o W hW.1).2.1) ?_;refine qT 9 336 hS ?_ (v:=AX false);exact zb
   refine JA (fun W=>Eo CU M W) 23 _ DE AL rfl ?_;refine qT 0 327 hS ?_;refine qL 1 328 hS (fun W hW=>Nc (TK W hW).2.2.1) ?_;refine qV 2 329 3 (AB AE place) hS ?_;refine qT 3 330 hS ?_ (v:=AX true);refine qV 4 331 330 (AX true) hS ?_;refine qT 5 332 hS ?_;refine qL 6 333 hS (fun W hW=>(Ib.o W hW.1).2.2.1) ?_;refine qT 7 334 hS ?_;refine qL 8 335 hS (fun W hW=>(Ib.o W hW.1).2.1) ?_;refine qT 9 336 hS ?_ (v:=AX true);refine qT 10 337 hS ?_ (v:=AX true);refine qV 11 338 337 (AX true) hS ?_;refine qT 12 339 hS ?_;refine qL 13 340 hS (fun W hW=>(Ib.o W hW.1).2.2.2) ?_;refine qT 14 341 hS ?_;refine qL 15 342 hS (fun W hW=>AG2 (TK W hW).2.1) ?_;refine qT 16 343 hS ?_;refine qL 17 344 hS (fun W hW=>Nc (TK W hW).2.2.2.2.1) ?_;refine qT 18 345 hS ?_ (v:=AU (some ⟨lb,lo+lk*32,none⟩));refine qL 19 346 hS (fun W hW=>EY _ (lo+lk*32) OY.o (HTR.o W hW)) ?_;refine qT 20 347 hS ?_ (v:=AX et);refine qT 21 348 hS ?_ (v:=AX et);refine qV 22 27 348 (AX et) hS ?_;exact bX
  refine JA (fun W=>Eo CU M W) 23 _ DE AL rfl ?_;refine qT 0 327 hS ?_;refine qL 1 328 hS (fun W hW=>Nc (TK W hW).2.2.1) ?_;refine qV 2 329 3 (AB AE place) hS ?_;refine qT 3 330 hS ?_ (v:=AX false);refine qV 4 331 330 (AX false) hS ?_;refine qN 5 332 hS ?_;refine qN 6 333 hS ?_;refine qN 7 334 hS ?_;refine qN 8 335 hS ?_;refine qN 9 336 hS ?_;exact zb
 obtain ⟨b,rfl,hg⟩:=hcut;have hS:Eo CU M wc.drew:=hg.below (Af wc.heap.size wc).drew;clear hg;go_upto_region 43 with fail;cases b
 ·refine JA (fun W=>Eo CU M W) 23 _ DE AL rfl ?_
  refine qV 0 349 27 (AX false) hS ?_;refine qV 1 350 349 (AX false) hS ?_;refine qL 2 351 hS (fun W hW=>(Ib.o W hW.1).1) ?_;refine qV 3 352 21 (AA (some ⟨CU.heap.size,0,none⟩) M M) hS ?_;refine qT 4 353 hS ?_;refine qL 5 354 hS (fun W hW=>Nc (TK W hW).1) ?_;refine qT 6 355 hS ?_;refine qL 7 356 hS (fun W hW=>Nc (TK W hW).2.2.2.2.1) ?_;refine qT 8 357 hS ?_;refine qL 9 358 hS (fun W hW=>(Ib.o W hW.1).2.2.2) ?_;refine qT 10 359 hS ?_;refine qL 11 360 hS (fun W hW=>(Ib.o W hW.1).2.2.1) ?_;refine qT 13 362 hS ?_;refine qL 14 363 hS (fun W hW=>gQ (TK W hW).2.2.2.2.2) ?_;refine qT 15 364 hS ?_;refine qL 16 365 hS (fun W hW=>gR (TK W hW).2.2.2.1) ?_;refine qT 17 366 hS ?_ (v:=AB AE un);refine qT 18 367 hS ?_ (v:=AU (some ⟨xb,xo+un*3,none⟩));refine qL 19 368 hS (fun W hW=>(iT.o W hW)) ?_;refine qF 12 361 (So.o _ hS.1) ?_;rintro e wm ⟨rfl,P6⟩;have hS2:=hS.below P6;refine ⟨_,rfl,hS2,?_⟩;refine qF 20 369 (HEX.o D q B1 C1 m1 d1 m2 d2 _ PV.o.1 PV.o.2.1 PV.o.2.2.1 PV.o.2.2.2 hS2) ?_;rintro e wo ⟨rfl,aT⟩;have hS4:=hS2.below aT;refine ⟨_,rfl,hS4,?_⟩;refine qT 21 370 hS4 ?_ (v:=AX true);refine qV 22 14 370 (AX true) hS4 ?_;refine Cx AL ?_ _;simp only [Bp,B9];have Gr:=AF (CY.o _ hS4.1);clear TK;go_wp2;go_ret;exact R0
 refine JA (fun W=>Eo CU M W) 23 _ DE AL rfl ?_;refine qV 0 349 27 (AX true) hS ?_;refine qV 1 350 349 (AX true) hS ?_;refine qN 2 351 hS ?_;refine qN 3 352 hS ?_;refine qN 4 353 hS ?_;refine qN 5 354 hS ?_;refine qN 6 355 hS ?_;refine qN 7 356 hS ?_;refine qN 8 357 hS ?_;refine qN 9 358 hS ?_;refine qN 10 359 hS ?_;refine qN 11 360 hS ?_;refine qN 12 361 hS ?_;refine qN 13 362 hS ?_;refine qN 14 363 hS ?_;refine qN 15 364 hS ?_;refine qN 16 365 hS ?_;refine qN 17 366 hS ?_;refine qN 18 367 hS ?_;refine qN 19 368 hS ?_;refine qN 20 369 hS ?_;refine qT 21 370 hS ?_ (v:=AX true);refine qV 22 14 370 (AX true) hS ?_;refine Cx AL ?_ _;simp only [Bp,B9];have Gr:=AF (CY.o _ hS.1);clear TK;go_wp2;go_ret;exact R0
end Go.Proofs.YtpmpddfgifhlbaaGreatDoor
