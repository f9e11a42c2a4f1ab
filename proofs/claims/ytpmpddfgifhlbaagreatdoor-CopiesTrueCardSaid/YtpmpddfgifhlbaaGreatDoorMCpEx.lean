import Derived.Test.YtpmpddfgifhlbaaGreatDoorMCpFg
namespace Go.Proofs.YtpmpddfgifhlbaaGreatDoor
set_option maxHeartbeats 8000000
set_option maxRecDepth 100000
open Go.Proofs.Tryz
open Go.Value renaming slice→AA, int→AB, pointer→AU, bool→AX
open Go.IntKind renaming i64→AE
open Go.RowKit Go.Shelf
attribute [local go_sem] Oper.semAt_some
theorem lE (seed m:AP) (many:Nat) (q:Cd) (A1 A2 SA:Option Addr) (n1 c1 n2 c2 sc:Nat) (l:List (AP)) (w:World) (hs:seed.length=32) (hm:m.length=32) (hr:∀x∈m,0<=x/\x < 256) (O2:1<=many/\many<=256) (hl:Ag 32 gy w (AA SA many sc) l) (hs1:Ag 32 CQ w (AA A1 n1 c1) q.chains) (hs2:Ag 32 CQ w (AA A2 n2 c2) q.path)
 (hv:C7 Aq (LY Aq seed many) many m q=true) (hT:Cc w):
 Calls prog 13 #[.agg (yA seed),AA SA many sc,.agg (yA m),.agg #[AB AE q.index,AA A1 n1 c1,AA A2 n2 c2]] w fun e w'=>e=.returned (AX true)/\AJ w w':=by
 obtain ⟨hi0,hi1,h19⟩:0<=q.index/\q.index < many/\q.chains.length=19:=by have hv2:=hv;simp only [C7,BZ,Bw] at hv2;exact ⟨hv2.1.1.1.2,hv2.1.1.2,hv2.1.2⟩
 obtain rfl:n1=19:=hs1.len.trans h19;obtain ⟨k,hk⟩:∃k:Nat,q.index=k:=⟨q.index.toNat,by omega⟩;obtain ⟨sb,so,d,dcs,rfl,hsb,hd,hdl,hdc,⟨rfl,hd32⟩,hdr⟩:=hl.at_ (k:=k) AG;obtain ⟨SD,hSD⟩:=Ab (yA seed);obtain ⟨MM,Xu⟩:=Ab (yA m);have HF:AI (¬d=m->∀W,AJ w W->Calls prog 37 #[.agg SD,AB AE many,AA (some ⟨sb,so,none⟩) many sc,.agg MM,.agg #[AB AE k,AA A1 19 c1,AA A2 n2 c2]] W fun e w'=>∃a b:Int,e=.returned (.tuple #[AB AE a,AB AE b])/\a≠0/\AJ W w'):=AF (fun hne W hW=>by have h:=xg seed m many q A1 A2 (some ⟨sb,so,none⟩) c1 n2 c2 sc l W hs hm hr O2 (hl.mono AB5 hW) (hs1.mono BL hW) (hs2.mono BL hW) hv (by rw [hk,CZ,hd];exact fun e=>hne (FO e)) (hT.below hW);rw [hk] at h;rw [hSD,Xu];exact h)
 have Q8:AI ((prog.info? 34).map (·.size)=some SD.size):=AF (by rw [hSD,Bb,hs];exact Du);have YM:AI ((prog.info? 34).map (·.size)=some MM.size):=AF (by rw [Xu,Bb,hm];exact Du);rw [<-hSD,<-Xu,hk];obtain ⟨w1,hw1,oV,oU,dL,hb1,hz1⟩:=XG w SD MM #[AB AE k,AA A1 19 c1,AA A2 n2 c2] 34 34 62;have HB1:=AF hb1;have PK:AI (∀W,AJ w1 W->(Instr.loadAt 34 (AU (some ⟨w.heap.size,0,none⟩))).run prog W=.ok (.agg SD) W/\(Instr.loadAt 34 (AU (some ⟨w.heap.size+1,0,none⟩))).run prog W=.ok (.agg MM) W/\(Instr.loadAt 62 (AU (some ⟨w.heap.size+1+1,0,none⟩))).run prog W=.ok (.agg #[AB AE k,AA A1 19 c1,AA A2 n2 c2]) W):=AF (fun W hW=>
  ⟨loadRow (oV.below hW oV.lt) underlying34 rfl Q8.o,loadRow (oU.below hW oU.lt) underlying34 rfl YM.o,loadRow (dL.below hW dL.lt) underlying62 rfl AL⟩)
 have Mp:AI (∀W,AJ w1 W->W.cell? ⟨w.heap.size+1+1,0,none⟩=some (AB AE k)):=AF (fun W hW=>(dL.below hW dL.lt).cell 0);have Oa:AI (∀W,AJ w1 W->W.rangeAt sb (so+k*32) (d.map (Value.int .u8))):=AF (fun W hW j' v hv=>((AW HB1.o hW).cell (p:=⟨sb,so+k*32+j',none⟩) hsb).trans (by have:=hdc j' v hv;rwa [<-L0] at this));obtain ⟨HM,jt,Qx⟩:=Az hm Xu hd32;have hkn:(k:Int) < (many:Int):=AG
 have hk0:=Int.natCast_nonneg k
 clear hs hm hr O2 hl hs1 hs2 hv hT hi0 hi1 h19 hk hsb hd hdl hdc hd32 hdr hSD Xu oV oU dL hb1 hz1;go_enter func13,ntmps13;go_upto_region 1 with fail;rw [<-hw1];clear hw1;obtain ⟨e,he⟩:∃e,decide (d=m)=e:=⟨_,rfl⟩;have hde:=fun W=>QN Qx.o HM.o W;rw [<-jt.o] at hde;have HED:=AF he;simp only [he] at hde;clear he;have hgd:=Mg;have TK:=Mp.o;have DE:prog.follows .mixedOrders=true:=AL
 have hS:=(Af w1.heap.size w1).drew;refine JA (fun W=>AJ w1 W) 19 _ DE AL rfl ?_;refine qT 0 11 hS ?_;refine qT 1 12 hS ?_ (v:=AB AE k);refine qT 2 13 hS ?_ (v:=AX true);refine qM 3 14 13 hS ?_;refine qT 4 15 hS ?_;refine qT 5 16 hS ?_ (v:=AB AE k);refine qM 6 17 1 hS ?_;refine qT 7 18 hS ?_ (v:=AB AE many);refine qT 8 19 hS ?_ (v:=AX true);refine qT 9 20 hS ?_ (v:=AX true);refine qM 10 21 20 hS ?_;refine qM 11 22 1 hS ?_;refine qT 12 23 hS ?_;refine qT 13 24 hS ?_ (v:=AB AE k);refine qT 14 25 hS ?_ (v:=AU (some ⟨sb,so+k*32,none⟩));refine qT 15 26 hS ?_ (v:=.agg (yA d)) (hv:=fun W hW=>Ch rfl AL (EY _ (so+k*32) Qx.o (Oa.o W hW)));refine qT 16 27 hS ?_ (v:=.agg MM) (hv:=fun W hW=>Ch rfl AL (PK.o W hW).2.1);refine qT 17 28 hS ?_ (v:=AX e);refine qT 18 29 hS ?_ (v:=AX e);refine Cx AL ?_ _;simp only [Bp,B9];obtain ⟨HB2,HL2⟩:=Aj (AW HB1.o hS) (PK.o _ hS);clear hS TK hde hgd DE;generalize w1.drew=w2 at HB2 HL2 ⊢;cases e
 ·have hne:=Mu HED.o
  have HF2:=AF (HF.o hne w2 HB2.o);clear hne HF;go_wp2_with (first
   | (refine Bd AL 34 (.tmp 4) rfl _ AL HL2.o.1 ?_)
   | (refine Bd AL 34 (.tmp 6) rfl _ AL HL2.o.2.1 ?_)
   | (refine Bd AL 62 (.tmp 7) rfl _ AL HL2.o.2.2 ?_)
   | (go_at_call 37;(with_reducible refine (HF2.o).mono ?_);rintro e w4 ⟨a,b,rfl,ha,hb⟩;have HB4:=AF (AW HB2.o hb);have hna:(a !=0)=true:=bne_iff_ne.2 ha;clear hb)
   | fail)
  go_ret;exact ⟨rfl,HB4.o⟩
 exact mL
end Go.Proofs.YtpmpddfgifhlbaaGreatDoor
