import Derived.WalkKit
import Derived.Lib.Hide
import Derived.BigQuiet
import Derived.Deep.RegionHeld3
import Derived.Deep.Cut
namespace Go.Proofs.YtamhoilkpppdbaaGreatDoor
open Go Go.RowKit
def AI(p:Prop):Prop:=p
theorem AI.o{p:Prop}(h:AI p):p:=h
theorem AA{p:Prop}(h:p):AI p:=h
abbrev AK(w w':World):Prop:=Below w.heap.size w w'
abbrev AQ:=List Int
theorem Ad{α:Sort _}(a:α):∃x,x=a:=⟨a,rfl⟩
theorem BP{α:Sort _}(a:α):∃x,a=x:=⟨a,rfl⟩
theorem AV{a b c:World}(h:Below a.heap.size a b)(k:Below b.heap.size b c):Below a.heap.size a c:=h.trans (k.mono h.size)
theorem BE(w:World)(o):Below w.heap.size w (w.alloc o):=(Below.refl _ _).alloc (Nat.le_refl _) _
theorem bH{p:Prop}(h:p:=by have hlp:=zf HV.o HT.o ht0;have b0:=kB.cell 0;have b1:=kB.cell 1;have b2:=kB.cell 2;have b3:=kB.cell 3;have b4:=kB.cell 4;have b5:=kB.cell 5;have b6:=kB.cell 6;have f0:=kB.frozen 0;have f1:=kB.frozen 1;have f2:=kB.frozen 2;have f3:=kB.frozen 3;have f4:=kB.frozen 4;have f5:=kB.frozen 5;have f6:=kB.frozen 6;have ik:=kB.lt;simp only [List.getElem?_toArray,List.getElem?_cons_zero,List.getElem?_cons_succ] at b0 b1 b2 b3 b4 b5 b6;have kE:=(((((((kB.put 0 (.slice none 0 0)).put 1 (.slice none 0 0)).put 2 (.slice none 0 0)).put 3 (.slice none 0 0)).put 4 (.slice none 0 0)).put 5 (.slice none 0 0)).put 6 (.slice none 0 0));go_wp2_with fail;have x0:=kE.cell 0;have x1:=kE.cell 1;have x2:=kE.cell 2;have x3:=kE.cell 3;have x4:=kE.cell 4;have x5:=kE.cell 5;have x6:=kE.cell 6;simp only [List.setIfInBounds_toArray,List.set_cons_zero,List.set_cons_succ,List.getElem?_toArray,List.getElem?_cons_zero,List.getElem?_cons_succ] at x0 x1 x2 x3 x4 x5 x6;exact bodyPost_ret (v:=.tuple #[.agg #[.slice none 0 0,.slice none 0 0,.slice none 0 0,.slice none 0 0,.slice none 0 0,.slice none 0 0,.slice none 0 0],.int .i64 t]) (by simp [results,results51,go_sem,x0,x1,x2,x3,x4,x5,x6]) rfl ⟨.inl ⟨by rw [hlp];exact ht0,by rw [hlp]⟩,(((((((HB1.o.setCell (p:=⟨gb,0,none⟩) Ou (.slice none 0 0)).setCell (p:=⟨gb,1,none⟩) Ou (.slice none 0 0)).setCell (p:=⟨gb,2,none⟩) Ou (.slice none 0 0)).setCell (p:=⟨gb,3,none⟩) Ou (.slice none 0 0)).setCell (p:=⟨gb,4,none⟩) Ou (.slice none 0 0)).setCell (p:=⟨gb,5,none⟩) Ou (.slice none 0 0)).setCell (p:=⟨gb,6,none⟩) Ou (.slice none 0 0))⟩):p:=h
theorem L7{p:Prop}(h:p:=by obtain rfl:=yz Dw.o HE.o (by have:=HN.o;omega);go_wp2_with fail;go_ret;exact ⟨rfl,HB.o⟩):p:=h
theorem YF{p:Prop}(h:p:=by obtain rfl:=Qt HX.o HY.o Dw.o exy;have hd:decide (x=y)=false:=decide_eq_false exy;simp only [hd,Bool.not_false] at hne;clear hd exy;go_wp2_with fail;go_quiet (fail);go_wp2_with fail;go_ret;exact ⟨rfl,below_drewN HB.o _⟩):p:=h
theorem P8{p:Prop}(h:p:=by go_wp2_with fail;go_ret;exact ⟨rfl,HB.o⟩):p:=h
theorem BS{p:Prop}(h:p:=by have:=HQ.o;omega):p:=h
theorem US{p:Prop}(h:p:=by obtain rfl:=Qt HX.o HY.o Dw.o exy;have hd:decide (x=y)=false:=decide_eq_false exy;rw [hd];clear hd exy hb1;go_wp2_with fail;go_ret;exact ⟨rfl,HB1.o⟩):p:=h
theorem UR{p:Prop}(h:p:=by have E0:=AA e0;clear e0;go_wp2_with fail;go_ret;refine ⟨Ay ?_,AV BG.o Bh.o⟩;exact (decide_eq_false (fun h=>E0.o (by rw [h]))).symm):p:=h
theorem Jz{p:Prop}(h:p:=by exact ⟨0,Nat.zero_le _,rfl,rfl,HV.o,Below.refl _ _⟩):p:=h
theorem lQ{p:Prop}(h:p:=by obtain ⟨v0,rfl⟩:=Iy (c:=c0) (hf 0 _ 1 rfl rfl);obtain ⟨v1,rfl⟩:=Iy (c:=c1) (hf 1 _ 1 rfl rfl);obtain ⟨v2,w2,rfl⟩:=DW (c:=c2) (hf 2 _ 1 rfl rfl);obtain ⟨v3,w3,rfl⟩:=DW (c:=c3) (hf 3 _ 1 rfl rfl);obtain ⟨v4,w4,rfl⟩:=DW (c:=c4) (hf 4 _ 1 rfl rfl);exact ⟨⟨v0,v1,v2,v3,v4⟩,rfl⟩):p:=h
theorem Wd{p:Prop}(h:p:=by rintro e w1 ⟨⟨i,rfl,hi⟩,hb1⟩;have HB1:=AA hb1;have HI:=AA hi;clear hb1 hi;go_wp2_with fail;go_ret;exact ⟨by rw [<-HI.o];rfl,HB1.o⟩):p:=h
theorem yU{p:Prop}(h:p:=by go_wp2_with fail;go_quiet (fail);go_wp2_with fail;go_ret;exact ⟨rfl,below_drewN HB.o _⟩):p:=h
theorem Jy{p:Prop}(h:p:=by go_wp2_with fail;go_ret;exact ⟨rfl,Below.refl _ _⟩):p:=h
theorem yT{p:Prop}(h:p:=by refine wpAnyH_done (by kernel_rfl) ?_ _;simp only [List.set_cons_zero,List.set_cons_succ];have k:=(HE.o _ hS5).2.2;have e0:=k.cell 0;have f0:=k.frozen 0;have l0:=k.lt;have K:=AA k;have VF:=AA hS5;have HR0:=AA (hrl.trans h0);simp only [List.getElem?_toArray,List.getElem?_cons_zero] at e0;clear hS3 hS4 hS5 Nu Pz hL hT MS NP k h0 hrl;go_wp2_with fail;refine ADt (e:=0) ?_ ((K.o.put 0 (.int .i64 0)).cell 0) ⟨by rw [HR0.o],(AV CX.o VF.o).setCell (by show w.heap.size<=w.heap.size+1+1+1;omega) _⟩;rfl):p:=h
theorem UG{p:Prop}(h:p:=by go_wp2_with fail;go_ret2;exact ⟨_,by rw [HE.o];rfl,by rw [<-HE.o];exact HM.o,Nat.le_refl _,HB.o⟩):p:=h
theorem Lc{p:Prop}(h:p:=by exact ⟨0,Nat.zero_le _,rfl,rfl,rfl,Below.refl _ _⟩):p:=h
theorem UC{p:Prop}(h:p:=by exact ⟨k+1,by omega,rfl,by go_num,Z3 HX.o HY.o Dw.o VB.o,below_drewN HB.o _⟩):p:=h
theorem lP{p:Prop}(h:p:=by exact ⟨k+1,_,_,by omega,rfl,by go_num,HST.o 0 HZ.o,grown_drewN PB.o _,Kc.o.kept (row:=none) (grown_drewN (World.grownBy.refl _ _) _) (by simp [Value.ownBlock]),by rw [<-set_drop HLEN.o HU.o];exact X8.o⟩):p:=h
theorem bM{p:Prop}(h:p:=by rintro e w1 ⟨rfl,hb1⟩;have HB1:=AA (Below.trans (BE _ _) (hb1.mono (by simp)));clear hb1;go_wp2_with fail;go_ret;exact ⟨rfl,HB1.o⟩):p:=h
theorem bL{p:Prop}(h:p:=by have E3:=AA e3;go_wp2_with fail;go_ret;refine ⟨Ay ?_,AV BG.o Bh.o⟩;exact (decide_eq_false (fun h=>E3.o (by rw [h]))).symm):p:=h
theorem bK{p:Prop}(h:p:=by have E2:=AA e2;go_wp2_with fail;go_ret;refine ⟨Ay ?_,AV BG.o Bh.o⟩;exact (decide_eq_false (fun h=>E2.o (by rw [h]))).symm):p:=h
theorem UB{p:Prop}(h:p:=by exact ⟨k+1,by omega,rfl,by go_num,by rw [he,HT.o],by rw [he];exact G9.o,HB3.o⟩):p:=h
theorem bJ{p:Prop}(h:p:=by rintro e w1 ⟨rfl,hb1⟩;have HB1:=AA (AV hal hb1);clear hb1 hal hk hs hc hmf;go_wp2_with fail;go_ret;exact ⟨by simp,HB1.o⟩):p:=h
theorem T9{p:Prop}(h:p:=by exact ⟨k+1,by omega,rfl,by go_num,Z3 HX.o HY.o Dw.o VB.o,HB1.o⟩):p:=h
theorem bI{p:Prop}(h:p:=by go_wp2_with fail;go_ret;refine ⟨Ay ?_,AV BG.o Bh.o⟩;exact (decide_eq_false (fun h=>E1.o (by rw [h]))).symm):p:=h
theorem yS{p:Prop}(h:p:=by have E7:=AA e7;clear e7;go_wp2_with (go_at_call 120;refine HC.o.mono ?_;clear HC);rintro e w1 ⟨rfl,hb1⟩;have Bi:=AA (AV Bh.o hb1);clear hb1;go_wp2_with fail;go_ret;exact ⟨Ay (qE E0.o E1.o E2.o E3.o E4.o E5.o E6.o E7.o),AV BG.o Bi.o⟩):p:=h
theorem Wc{p:Prop}(h:p:=by go_wp2_with fail;go_ret;exact ⟨⟨_,rfl,by rw [JX HX.o HP.o];simp⟩,HB1.o⟩):p:=h
theorem yR{p:Prop}(h:p:=by obtain ⟨f',hf1,AHl⟩:=AGk.o;have hp1:=SF.o;have hp2:=HPF.o;have hp3:=o6.o;have hp4:=SJ.o;exact ⟨o2,h2,pre++[(xn:Int)],f',rfl,wd.o,HS.o,xD.o,Vy.o,pL.o,by simp;unfold JC at hp1 hp3 ⊢;omega,by unfold JC at hp2 hp3 ⊢;omega,AHl,fun c hc=>by have:=g9.o c hc;simp;omega⟩):p:=h
theorem yQ{p:Prop}(h:p:=by have E7:=AA e7;clear e7;go_wp2_with (go_at_call 120;refine HC.o.mono ?_;clear HC);rintro e w1 ⟨rfl,hb1⟩;have Bi:=AA (AV Bh.o hb1);clear hb1;go_wp2_with fail;go_ret;exact ⟨Ay (decide_eq_false (fun h=>E7.o (by rw [h]))).symm,AV BG.o Bi.o⟩):p:=h
theorem yP{p:Prop}(h:p:=by have E0:=AA e0;clear e0;go_wp2_with (go_at_call 120;refine HC.o.mono ?_;clear HC);rintro e w1 ⟨rfl,hb1⟩;have Bi:=AA (AV Bh.o hb1);clear hb1;go_wp2_with fail;go_ret;exact ⟨Ay (decide_eq_false (fun h=>E0.o (by rw [h]))).symm,AV BG.o Bi.o⟩):p:=h
theorem yO{p:Prop}(h:p:=by obtain ⟨b,off,x,cs,e,hb,hl,hlen,hc,hR⟩:=h.at_ hk;have hR':cs=_:=hR;subst hR';exact ⟨b,off,x,e,hb,hl,by simpa using hc 0 _ rfl,by simpa [Nat.add_assoc] using hc 1 _ rfl,by simpa [Nat.add_assoc] using hc 2 _ rfl,by simpa [Nat.add_assoc] using hc 3 _ rfl,by simpa [Nat.add_assoc] using hc 4 _ rfl⟩):p:=h
theorem yN{p:Prop}(h:p:=by have hlt:=Ml.o;refine ⟨j+1,by omega,rfl,by go_num,?_,QZ.o.kept EJ (.inr (by intro e;have:=(QZ.o.lt _ e).1;have:=Xw.o;omega)),H6.o.trans (hb7.mono (Nat.le_succ _))⟩;rw [ADz Aw (by rw [<-Zh.o,Lh.o]) HX.o Mp.o,<-EN.o];simpa [<-HNE.o] using k7):p:=h
theorem Wb{p:Prop}(h:p:=by go_wp2_with fail;go_ret;exact ⟨⟨_,rfl,by rw [HT.o];rfl⟩,HB.o⟩):p:=h
theorem lN{p:Prop}(h:p:=by go_ret;refine ⟨v',cs,rfl,hcs,?_,(BE _ _).grown hgr (by simp) (by simp [Value.ownBlock])⟩;rw [<-HLEN.o];simpa using hown):p:=h
theorem T0{p:Prop}(h:p:=by exact ⟨0,Nat.zero_le _,rfl,rfl,rfl,MC.o,HB0.o⟩):p:=h
theorem EF{p:Prop}(h:p:=by have:=HG.o;omega):p:=h
theorem yM{p:Prop}(h:p:=by rw [vH] at hb;obtain ⟨h1,h2⟩:=HP0.o b hb;have hqp:=jU.o.pt;exact ⟨h1,Nat.lt_of_lt_of_le h2 HB.o.size,fun hr=>by have:=(tZ.rb b hr).1;omega,by omega,by omega,fun e=>by have:=(hqp b e.symm).1;omega⟩):p:=h
theorem yL{p:Prop}(h:p:=by have hpu:=HPU.o;rw [VD.o] at hpu;exact ⟨j+1,_,_,by omega,rfl,by go_num,by rw [HF2.o,VD.o],by rw [List.length_set];exact wd.o,Sz.o,gy.o,gX.o,pL.o,Nat.le_trans hpu o6.o,pU.o⟩):p:=h
theorem yK{p:Prop}(h:p:=by have hpu:=HPU.o;rw [VD.o] at hpu;exact ⟨j+1,_,_,by omega,rfl,by go_num,by rw [HF2.o,VD.o],by rw [List.length_set];exact wd.o,J6.o,AGg.o,AGI.o,AGh.o,Nat.le_trans hpu o6.o,pU.o⟩):p:=h
theorem yJ{p:Prop}(h:p:=by refine ⟨k+1,_,_,by omega,rfl,by go_num,FZ DZ.o HM.o HST.o,PB.o,Tg.o,?_,by rw [<-set_drop HLEN.o HM.o];exact X0.o⟩;have:=LG.o;have h3:=Kc.o;rw [this] at h3 ⊢;exact h3):p:=h
theorem yI{p:Prop}(h:p:=by exact ⟨Hy rs k,DV rs k,[],k+1,(OE rs k).symm,P3 rs k,xF.o,Zp.o,i7,fun y hy=>VS hy,by rw [OE];simp,by rw [OE];omega,(zN rs k).symm,xK.o⟩):p:=h
theorem yH{p:Prop}(h:p:=by rintro e w1 ⟨rfl,hb1⟩;have Bi:=AA (AV Bh.o hb1);clear hb1;go_wp2_with fail;go_ret;exact ⟨Ay (decide_eq_false (fun h=>E4.o (by rw [h]))).symm,AV BG.o Bi.o⟩):p:=h
theorem yG{p:Prop}(h:p:=by rintro e w1 ⟨rfl,hb1⟩;have Bi:=AA (AV Bh.o hb1);clear hb1;go_wp2_with fail;go_ret;exact ⟨Ay (decide_eq_false (fun h=>E2.o (by rw [h]))).symm,AV BG.o Bi.o⟩):p:=h
theorem yF{p:Prop}(h:p:=by simp only [ho,hx,Instr.loadAt,Instr.sureAddr,Sem.run_bind,Sem.run_pure,Result.andThen_ok,run_loadVar_row w g t ty (yA d) (0,0) ds hg hu hds (by rw [B9,hd];exact hi)];exact hK _ _ h):p:=h
theorem yE{p:Prop}(h:p:=by simp only [Bool.and_eq_true] at hB;rw [<-M8,<-hd] at h;exact wpAnyH_take hi hB.1 hB.2.1 hB.2.2 (fun c a w hq=>by rw [hd] at hq;exact hQ c a _ w hq) (.inl ⟨hw,hv⟩) hS h):p:=h
theorem yD{p:Prop}(h:p:=by rw [s1] at hfo;have E1:=AA e1;clear e1 s1;go_wp2_with fail;go_ret;exact ⟨Ay (decide_eq_false (fun h=>E1.o (by rw [h];simp))).symm,AV BG.o Bh.o⟩):p:=h
theorem RW{p:Prop}(h:p:=by rw [Ok hh,Ok ht];kernel_rfl):p:=h
theorem RV{p:Prop}(h:p:=by exfalso;injection h with _ h;omega):p:=h
theorem yC{p:Prop}(h:p:=by have E5:=AA e5;clear e5;go_wp2_with fail;go_ret;refine ⟨Ay ?_,AV BG.o Bh.o⟩;exact (decide_eq_false (fun h=>E5.o (by rw [h]))).symm):p:=h
theorem x9{p:Prop}(h:p:=by refine ⟨⟨_,rfl⟩,?_,grown_drew (OM (OM (vY _ _) _ _) _ _)⟩;rw [<-HS.o];exact ((HO.o.stored _ _).1.stored _ _).1.drew):p:=h
theorem x8{p:Prop}(h:p:=by go_wp2_with fail;go_ret;exact ⟨v7,cs1++cs7,rfl,by rw [List.length_append];exact pB.o,Aq.append (Ij WY.o) (Ij HC7.o),Da.o⟩):p:=h
theorem lK{p:Prop}(h:p:=by go_ret;exact ⟨_,[],rfl,Aq.nil,World.ownsRow_nil _ _ _ _,Below.refl _ _⟩):p:=h
theorem x7{p:Prop}(h:p:=by have E6:=AA e6;go_wp2_with fail;go_ret;refine ⟨Ay ?_,AV BG.o Bh.o⟩;exact (decide_eq_false (fun h=>E6.o (by rw [h]))).symm):p:=h
theorem xy{p:Prop}(h:p:=by have E4:=AA e4;go_wp2_with fail;go_ret;refine ⟨Ay ?_,AV BG.o Bh.o⟩;exact (decide_eq_false (fun h=>E4.o (by rw [h]))).symm):p:=h
theorem lJ{p:Prop}(h:p:=by exact ⟨0,[],cs1,Nat.zero_le _,rfl,rfl,rfl,HG2.o,Jc.o,HI2.o,Kd.o⟩):p:=h
theorem OZ{p:Prop}(h:p:=by go_ret;exact ⟨rfl,rfl⟩):p:=h
theorem xw{p:Prop}(h:p:=by exact ⟨0,o,h1,Nat.zero_le _,rfl,rfl,rfl,HOL.o,HS2.o,HJ2.o,Vy.o,AGi.o,Nat.le_refl _,fun c hc=>by have:=MD.o c hc;simp;omega⟩):p:=h
theorem lI{p:Prop}(h:p:=by refine .inr ⟨_,rfl,?_⟩;refine Gq.o _ _ _ ?_ hS5 S5.o;kernel_rfl):p:=h
theorem Jw{p:Prop}(h:p:=by have:=Io.o;omega):p:=h
theorem xv{p:Prop}(h:p:=by refine ⟨b,off,cs,rfl,?_,k1,hcell,h2⟩;have h0:=hcell 0 cs[0] (List.getElem?_eq_getElem (by omega));exact World.block_lt_of_cell? _ _ h0):p:=h
theorem bG{p:Prop}(h:p:=by go_wp2_with fail;go_ret;exact ⟨rfl,HW.o _ _ _⟩):p:=h
theorem lH{p:Prop}(h:p:=by rw [World.putObj_heap_same (Array.getElem?_eq_some_iff.1 hl3).1,hrec];rfl):p:=h
theorem xu{p:Prop}(h:p:=by unfold Oper.wp;rw [hex];exact hc.mono fun e w' hR=>by obtain ⟨v,rfl,hS,hk⟩:=h e w' hR;rw [<-M8,<-hd] at hk;exact ⟨hS,hk⟩):p:=h
theorem lF{p:Prop}(h:p:=by go_ret;exact ⟨⟨_,rfl⟩,(Below.refl _ _).alloc (Nat.le_refl _) _⟩):p:=h
theorem xt{p:Prop}(h:p:=by clear hth hit hon;go_wp2_with fail;exact Se (.inl rfl) rfl rfl rfl KD.o underlying34 rfl HI.o EM.o jh.o):p:=h
theorem xr{p:Prop}(h:p:=by exact Se (.inl rfl) rfl rfl rfl k7 underlying34 rfl CY.o EM.o (Fu.o.trans (hb7.mono (Nat.le_succ _)))):p:=h
theorem xq{p:Prop}(h:p:=by exact Se (.inl rfl) rfl rfl rfl k4 underlying34 rfl HI.o EM.o (HB3.o.trans (hb4.mono (Nat.le_succ _)))):p:=h
theorem xj{p:Prop}(h:p:=by go_upto_region 10 with fail;go_quiet (fail);go_wp2_with fail;go_ret;exact ⟨Ay HE.o.symm,below_drewN CO.o _⟩):p:=h
theorem NS{p:Prop}(h:p:=by exact ⟨_,_,_,rfl⟩):p:=h
theorem lE{p:Prop}(h:p:=by exact ⟨k+1,by omega,rfl,by go_num,HV3.o,G9.o,HB3.o⟩):p:=h
theorem xh{p:Prop}(h:p:=by obtain ⟨b,off,x,cs,e,hb,hl,hlen,hc,rfl⟩:=h.at_ hk;exact ⟨b,off,x,e,hb,hl,by simpa using hc 0 _ rfl⟩):p:=h
theorem xg{p:Prop}(h:p:=by refine ⟨0,Nat.zero_le _,rfl,rfl,?_,Nf.o,HRY.o,X9.o⟩;have:=tx.o;simpa [Hy] using this):p:=h
theorem lD{p:Prop}(h:p:=by exact (HB.o.mono (by omega)).setCell (by exact hb) _):p:=h
theorem bF{p:Prop}(h:p:=by rw [List.set_set,<-ht] at h2;exact h2):p:=h
theorem xe{p:Prop}(h:p:=by exact ⟨k+1,by omega,rfl,by go_num,Z3 HX.o HY.o Dw.o rfl,below_drewN HB.o _⟩):p:=h
theorem xZ{p:Prop}(h:p:=by exact ⟨k+1,by omega,rfl,by go_num,Jc.o,by rw [HS.o];exact Io.o,HR2.o,HB2.o⟩):p:=h
theorem ky{p:Prop}(h:p:=by exact ⟨0,Nat.zero_le _,rfl,rfl,Below.refl _ _⟩):p:=h
theorem kq{p:Prop}(h:p:=by exact .inr ⟨ch,rfl,rfl,.inr ⟨ch,rfl,aT⟩⟩):p:=h
theorem xY{p:Prop}(h:p:=by have h1':=HQ.o;have h2':=o6.o;have h3':=SJ.o;rw [h1'];unfold JC at h2' ⊢;omega):p:=h
theorem bE{p:Prop}(h:p:=by simp only [List.length_cons];omega):p:=h
theorem xX{p:Prop}(h:p:=by go_wp2_with fail;go_ret;exact ⟨rfl,(Below.refl _ _).alloc (Nat.le_refl _) _⟩):p:=h
theorem xW{p:Prop}(h:p:=by simp only [ho,hx,Sem.run_bind,Sem.run_pure,h,Result.andThen_ok];exact hK _ _ hk):p:=h
theorem QH{p:Prop}(h:p:=by have:=Ml.o;omega):p:=h
theorem xV{p:Prop}(h:p:=by exact Pj D (k*32) w3 _ Zd.o (by rw [VM LL.o hk,EM.o];omega)):p:=h
theorem bD{p:Prop}(h:p:=by subst e;simp only [if_true];rfl):p:=h
theorem ko{p:Prop}(h:p:=by rw [getD_set_ne true hjk] at hun;exact hun):p:=h
theorem xT{p:Prop}(h:p:=by exact ⟨j+1,by omega,rfl,by go_num,jc.o,HK6.o,HR6.o,AGq.o⟩):p:=h
theorem xS{p:Prop}(h:p:=by rw [upto_take hlt];exact Aq.append (Px OX.o) (Px hc5)):p:=h
theorem xQ{p:Prop}(h:p:=by exact ⟨⟨_,rfl⟩,by rw [<-Qn.o,HU.o];exact HQ.o,Zl.o⟩):p:=h
theorem xP{p:Prop}(h:p:=by exact ⟨k+1,by omega,rfl,by go_num,I4.o,Xz.o,HR3.o,HB3.o⟩):p:=h
theorem RU{p:Prop}(h:p:=by unfold maxLen;omega):p:=h
theorem xO{p:Prop}(h:p:=by simp only [List.length_append,List.length_cons,List.length_nil];omega):p:=h
theorem Kg{p:Prop}(h:p:=by exact ACu):p:=h
theorem km{p:Prop}(h:p:=by exact bodyPost_ret hr hdf ⟨rfl,hb⟩):p:=h
theorem kj{p:Prop}(h:p:=by exact bodyPost_end hr hdf ⟨rfl,hb⟩):p:=h
theorem kf{p:Prop}(h:p:=by go_ret;exact ⟨⟨_,rfl⟩,HB.o⟩):p:=h
theorem sU{p:Prop}(h:p:=by exact (h.els.mono hR hb).append ((Aq.one hnl hx).mono hR hb)):p:=h
theorem sT{p:Prop}(h:p:=by have:=HBD.o;rw [Cn (by omega) DZ.o,hke];exact this):p:=h
theorem sS{p:Prop}(h:p:=by go_ret;exact ⟨Cz (by rw [HE.o];simp [hc]),HB.o⟩):p:=h
theorem sR{p:Prop}(h:p:=by rw [e] at this;rw [this,iM H (l:=l) (by omega)];rfl):p:=h
theorem sQ{p:Prop}(h:p:=by go_wp2_with fail;go_ret;exact ⟨by simp [vC];omega,rfl⟩):p:=h
theorem sP{p:Prop}(h:p:=by exact ⟨0,Nat.zero_le _,rfl,rfl,HV.o,MC.o,HB0.o⟩):p:=h
theorem AJ{p:Prop}(h:p:=by kernel_rfl):p:=h
theorem AG{p:Prop}(h:p:=by omega):p:=h
theorem Aj{p:Prop}(h:p:=by exact fun _ _ _ _ _ h=>h):p:=h
theorem Bk{p:Prop}(h:p:=by intro W hW;obtain ⟨e1,e2,e3⟩:=HC2.o W hW;(go_simp) <;> rfl):p:=h
theorem Ez{p:Prop}(h:p:=by intro W hW;obtain ⟨⟨a0,a1,a2,a3⟩,⟨a36,a37,a38,a71⟩,⟨r0,r1,r2,r5⟩,_⟩:=EN.o W hW;rw [jT.o] at a2;have t2:=(HD.o W hW).2.2.1;have t4:=HE4.o W hW;(go_simp) <;> rfl):p:=h
theorem AX{p:Prop}(h:p:=by simp):p:=h
theorem Fj{p:Prop}(h:p:=by intro W hW;obtain ⟨⟨a0,a1,a2,a3⟩,⟨a36,a37,a38⟩,r0,r1,r2,r5⟩:=EN.o W hW;rw [jT.o] at a2;have t2:=(HD.o W hW).2.2.1;(go_simp) <;> rfl):p:=h
theorem Fi{p:Prop}(h:p:=by intro W hW;obtain ⟨⟨r0,r1,r2,r5⟩,zW,⟨i0,i3⟩,_⟩:=HCM.o W hW;rw [o5.o] at r2;have t2:=(HTM.o W hW).2.2.1;(go_simp) <;> rfl):p:=h
theorem Lu{p:Prop}(h:p:=by intro W hW;have hW4:=AV CO.o hW;obtain ⟨⟨a0,a1,a2,a3⟩,⟨a36,a37,a38,a71⟩,⟨r0,r1,r2,r5⟩,_⟩:=EN.o W hW4;rw [jT.o] at a2;obtain ⟨t0,t1,t2,t3,t4,t5,t6⟩:=HD.o W hW4;have eu:=HEU.o W hW;(go_simp) <;> rfl):p:=h
theorem Ah{p:Prop}(h:p:=by decide):p:=h
theorem BN{p:Prop}(h:p:=by simp;omega):p:=h
theorem DL{p:Prop}(h:p:=by exact fun _ _ _ _ h=>by cases h.1):p:=h
theorem ET{p:Prop}(h:p:=by exact fun _ _ h=>⟨h.1,h.2.symm⟩):p:=h
theorem D7{p:Prop}(h:p:=by intro e;injection e with e;omega):p:=h
theorem Jq{p:Prop}(h:p:=by intro W hW;obtain ⟨e1,e2,e3⟩:=HS9.o W hW;(go_simp) <;> rfl):p:=h
theorem Lt{p:Prop}(h:p:=by intro W hW;obtain ⟨c1,c2,c3,c4⟩:=HC.o W hW;(go_simp) <;> rfl):p:=h
theorem Ey{p:Prop}(h:p:=by intro W hW;(go_simp) <;> rfl):p:=h
theorem DU{p:Prop}(h:p:=by simp [B9,zeros]):p:=h
theorem Ls{p:Prop}(h:p:=by intro W hW;obtain ⟨e1,e2,e3⟩:=jS.o W hW;(go_simp) <;> rfl):p:=h
theorem Jo{p:Prop}(h:p:=by first | assumption | (go_split_ands;assumption)):p:=h
theorem FN{p:Prop}(h:p:=by unfold maxLen;omega):p:=h
theorem Ph{p:Prop}(h:p:=by intro W hW;obtain ⟨e1,e2⟩:=HS8.o W hW;(go_simp) <;> rfl):p:=h
theorem Ho{p:Prop}(h:p:=by exact fun _ _ _ _ h=>h):p:=h
theorem Gx{p:Prop}(h:p:=by have:=HN.o;omega):p:=h
theorem Hn{p:Prop}(h:p:=by have:=LG.o;omega):p:=h
theorem sN{p:Prop}(h:p:=by have hpf:=HPF.o;obtain ⟨f',rfl⟩:∃f',fuel=f'+1:=⟨fuel - 1,by unfold JC at hpf;omega⟩;refine ⟨f',rfl,?_⟩;have:=pM.o;rw [mW hpos] at this;rw [HX1.o,HH1.o] at this;simp only [Int.toNat_natCast] at this;rw [HL.o,pO.o] at this;simpa using this):p:=h
theorem Jm{p:Prop}(h:p:=by have:=xH.o;omega):p:=h
theorem JO{p:Prop}(h:p:=by simp [Made.depth]):p:=h
theorem Cq{p:Prop}(h:p:=by rfl):p:=h
theorem M2{p:Prop}(h:p:=by simp [Value.ownBlock];omega):p:=h
theorem sM{p:Prop}(h:p:=by have:=IU A1 B1 n1 c1 m1 d1 x.type.names y.type.names wc (H1.o.mono BV (AV BG.o Bh.o)) (K1.o.mono BV (AV BG.o Bh.o));rw [show A8 x.type.names y.type.names=false by simp [A8,e7]] at this;exact this):p:=h
theorem sL{p:Prop}(h:p:=by have:=IU A1 B1 n1 c1 m1 d1 x.type.names y.type.names wc (H1.o.mono BV (AV BG.o Bh.o)) (K1.o.mono BV (AV BG.o Bh.o));rw [show A8 x.type.names y.type.names=true by simp [A8,e7]] at this;exact this):p:=h
theorem UQ{p:Prop}(h:p:=by rw [params3];rfl):p:=h
theorem OD{p:Prop}(h:p:=by have:=C4.o.size;simp;omega):p:=h
theorem UO{p:Prop}(h:p:=by rw [hRR,rdA,Array.size_append,B9,hro];kernel_rfl):p:=h
theorem fB{p:Prop}(h:p:=by unfold FQ;rw [dif_neg];rintro ⟨_,h⟩;rw [HJ.o] at h;exact absurd h (of_decide_eq_false Dw.o)):p:=h
theorem M1{p:Prop}(h:p:=by simp [Value.ownBlock]):p:=h
theorem UN{p:Prop}(h:p:=by have:=HB2.o.size;simp;omega):p:=h
theorem RS{p:Prop}(h:p:=by simp [F0,zeros,HI2.o] <;> omega):p:=h
theorem Pg{p:Prop}(h:p:=by rw [List.length_take];omega):p:=h
theorem ew{p:Prop}(h:p:=by rw [hRR,rdA];refine ⟨?_,?_,?_,?_⟩ <;> (rw [Array.getElem?_append_left (by simp)];rfl)):p:=h
theorem OC{p:Prop}(h:p:=by rw [h] at hr;cases hr):p:=h
theorem sK{p:Prop}(h:p:=by rw [List.getElem?_set_self hkl]):p:=h
theorem sJ{p:Prop}(h:p:=by rw [hwt];exact tB (cs:=[.int .i64 yk,.int .i64 yl,.int .i64 yh,.string yf,.int .i64 yu,.slice B m' d']) (t:=109) (DY (by simp)) rfl ⟨B,m',d',rfl,HS.o⟩):p:=h
theorem Ys{p:Prop}(h:p:=by show w.heap.size+1≠wa.heap.size;have:=Xw.o;omega):p:=h
theorem Yr{p:Prop}(h:p:=by show w.heap.size<=wa.heap.size;have:=Xw.o;omega):p:=h
theorem OB{p:Prop}(h:p:=by rw [dD];kernel_rfl):p:=h
theorem ep{p:Prop}(h:p:=by intro W hW;obtain ⟨a0,a1,a2,a3,a4,a5,a6⟩:=HD.o W hW;(go_simp) <;> rfl):p:=h
theorem N9{p:Prop}(h:p:=by simp [Value.oneCell']):p:=h
theorem Yq{p:Prop}(h:p:=by show 0<=(x:Int)+4+1/\(x:Int)+4+1<=1000;omega):p:=h
theorem Pf{p:Prop}(h:p:=by have:=HLEN.o;omega):p:=h
theorem eo{p:Prop}(h:p:=by simp [results,results65,go_sem]):p:=h
theorem Pe{p:Prop}(h:p:=by have:=R6.o;omega):p:=h
theorem Pc{p:Prop}(h:p:=by have:=Xw.o;omega):p:=h
theorem Yp{p:Prop}(h:p:=by show 0<=(x:Int)+4/\(x:Int)+4<=1000;omega):p:=h
theorem em{p:Prop}(h:p:=by show Gk q.schema;rw [jT.o];unfold Gk;have:=HS.o.le;omega):p:=h
theorem UM{p:Prop}(h:p:=by rw [EZ];exact hown2):p:=h
theorem Yo{p:Prop}(h:p:=by show w.heap.size<=w.heap.size+1+1;omega):p:=h
theorem UL{p:Prop}(h:p:=by have:=HB.o.size;simp;omega):p:=h
theorem UK{p:Prop}(h:p:=by rw [List.length_drop];omega):p:=h
theorem Kp{p:Prop}(h:p:=by simp [go_sem]):p:=h
theorem UJ{p:Prop}(h:p:=by rw [hD];exact C7 _ _):p:=h
theorem Ko{p:Prop}(h:p:=by rw [h]):p:=h
theorem Pb{p:Prop}(h:p:=by exact Sy.o):p:=h
theorem Pa{p:Prop}(h:p:=by exact O8.o):p:=h
theorem sI{p:Prop}(h:p:=by rw [hY,hG,hbase];exact ⟨.slice none 0 0,AZ.new _ _ _,World.ownsRow_nil _ _ _ _,by omega,by simp⟩):p:=h
theorem Yn{p:Prop}(h:p:=by rw [Hh];exact C7 _ _):p:=h
theorem RQ{p:Prop}(h:p:=by simpa using hkl):p:=h
theorem Ym{p:Prop}(h:p:=by show w.heap.size+1 < _;omega):p:=h
theorem ej{p:Prop}(h:p:=by rw [Dz,Dz];exact Nat.le_refl _):p:=h
theorem RP{p:Prop}(h:p:=by simp [X2.o]):p:=h
theorem sH{p:Prop}(h:p:=by rw [hwt];exact (HB2.o.alloc HB2.o.size _).alloc (by have:=HB2.o.size;simp;omega) _):p:=h
theorem sF{p:Prop}(h:p:=by have:chunk _ 11 k=_:=h1.chunk (i:=k) (by rw [List.getElem?_set_self hkl]);rw [this];rfl):p:=h
theorem UI{p:Prop}(h:p:=by have:=HZ.o;omega):p:=h
theorem eZ{p:Prop}(h:p:=by intro W hW;rw [<-hmul];(go_simp) <;> rfl):p:=h
theorem sE{p:Prop}(h:p:=by have:chunk _ 5 k=_:=h1.chunk (i:=k) (by rw [List.getElem?_set_self hkl]);rw [this];rfl):p:=h
theorem eY{p:Prop}(h:p:=by unfold chunk;rw [List.length_take];omega):p:=h
theorem Yl{p:Prop}(h:p:=by rw [EM.o];simp [zeros]):p:=h
theorem eX{p:Prop}(h:p:=by intro W hW;rw [<-hva];(go_simp) <;> rfl):p:=h
theorem M0{p:Prop}(h:p:=by rw [e]):p:=h
theorem eW{p:Prop}(h:p:=by show 0<=q.place/\q.place<=1000;omega):p:=h
theorem sD{p:Prop}(h:p:=by rw [hRR,rdA];refine ⟨?_,?_⟩ <;> (rw [Array.getElem?_append_left (by simp)];rfl)):p:=h
theorem eV{p:Prop}(h:p:=by show w.heap.size<=w.heap.size+1;omega):p:=h
theorem UH{p:Prop}(h:p:=by simpa using vW):p:=h
theorem UF{p:Prop}(h:p:=by simp [hh];omega):p:=h
theorem eU{p:Prop}(h:p:=by rw [hC2];exact U0 rfl rfl rfl):p:=h
theorem UE{p:Prop}(h:p:=by rw [<-ht];rfl):p:=h
theorem UD{p:Prop}(h:p:=by decide +kernel):p:=h
theorem sC{p:Prop}(h:p:=by have:=HF.o;rw [List.take_of_length_le (by omega)] at this;exact this):p:=h
theorem Yk{p:Prop}(h:p:=by rw [P3];omega):p:=h
theorem Yj{p:Prop}(h:p:=by have:=IB.o;omega):p:=h
theorem Yi{p:Prop}(h:p:=by have:=Li.o;omega):p:=h
theorem Yh{p:Prop}(h:p:=by have:=H9.o;omega):p:=h
theorem sB{p:Prop}(h:p:=by have:=pM.o;rw [qL,List.append_nil] at this;exact this):p:=h
theorem RN{p:Prop}(h:p:=by exact hb1):p:=h
theorem eT{p:Prop}(h:p:=by rw [<-hfi] at h1 h2 ⊢;omega):p:=h
theorem r9{p:Prop}(h:p:=by rw [J8,if_pos HT.o,tJ,<-Kz.o,<-I3.o];rfl):p:=h
theorem Yg{p:Prop}(h:p:=by simp [hh,ht];omega):p:=h
theorem eS{p:Prop}(h:p:=by have:=HB1.o.size;simp;omega):p:=h
theorem eR{p:Prop}(h:p:=by rw [Te.o];exact Nx.o):p:=h
theorem r8{p:Prop}(h:p:=by unfold Yy;rw [IC.o];simp only [HX.o];rw [g7.o]):p:=h
theorem rz{p:Prop}(h:p:=by rw [hwc];exact below_drewN ((BE _ _).alloc (by simp) _) 1):p:=h
theorem ry{p:Prop}(h:p:=by rw [List.length_reverse,iO H _ _ _ (Nat.le_refl _),e]):p:=h
theorem eQ{p:Prop}(h:p:=by rw [Oy,AHM hh];kernel_rfl):p:=h
theorem rx{p:Prop}(h:p:=by rw [B9,VM LL.o (Nat.le_refl _)];exact HI2.o):p:=h
theorem eP{p:Prop}(h:p:=by cases v.ownBlock <;> simp):p:=h
theorem Yf{p:Prop}(h:p:=by simpa using QU):p:=h
theorem rv{p:Prop}(h:p:=by rw [k.cell];exact Array.getElem?_eq_getElem (by omega)):p:=h
theorem ru{p:Prop}(h:p:=by rw [<-hx];exact getD_mem (by rw [QD];omega)):p:=h
theorem eO{p:Prop}(h:p:=by rw [B9,hd];exact hi):p:=h
theorem eN{p:Prop}(h:p:=by rw [Oc];exact hk):p:=h
theorem Ye{p:Prop}(h:p:=by rw [hrec];simp):p:=h
theorem eM{p:Prop}(h:p:=by rw [EZ];omega):p:=h
theorem rq{p:Prop}(h:p:=by unfold P1;rw [Zq.o];simp only;rw [htp];rfl):p:=h
theorem ro{p:Prop}(h:p:=by rw [NT,if_neg (by rw [HC.o];exact hc0)]):p:=h
theorem rn{p:Prop}(h:p:=by show w.heap.size<=w.heap.size+1+1+1+1+1+1+1;omega):p:=h
theorem rm{p:Prop}(h:p:=by rw [List.getElem?_zip_eq_some];exact ⟨h1,h2⟩):p:=h
theorem eL{p:Prop}(h:p:=by rw [hrec];exact hps x):p:=h
theorem rl{p:Prop}(h:p:=by rw [show x=_ from hG];exact NG _ HL.o):p:=h
theorem rk{p:Prop}(h:p:=by rw [take_snoc hu,List.foldl_append,HF.o];rfl):p:=h
theorem rj{p:Prop}(h:p:=by have:chunk cs 11 k=_:=h.chunk hk;rw [this];rfl):p:=h
theorem ri{p:Prop}(h:p:=by show (_:Nat)≠w.heap.size+1+1+1+1+1+1+1;omega):p:=h
theorem rh{p:Prop}(h:p:=by have:chunk cs 5 k=_:=h.chunk hk;rw [this];rfl):p:=h
theorem rf{p:Prop}(h:p:=by have:chunk cs 4 k=_:=h.chunk hk;rw [this];rfl):p:=h
theorem rZ{p:Prop}(h:p:=by have:chunk cs 8 k=_:=h.chunk hk;rw [this];rfl):p:=h
theorem rY{p:Prop}(h:p:=by have:chunk cs 7 k=_:=h.chunk hk;rw [this];rfl):p:=h
theorem eK{p:Prop}(h:p:=by rw [B9,SN.o]):p:=h
theorem rX{p:Prop}(h:p:=by unfold fieldStep;rw [if_pos HKD.o,hix];rfl):p:=h
theorem eJ{p:Prop}(h:p:=by have:=CY.o;omega):p:=h
theorem eI{p:Prop}(h:p:=by have:=oq.o;omega):p:=h
theorem eH{p:Prop}(h:p:=by have:=Kz.o;omega):p:=h
theorem eG{p:Prop}(h:p:=by have:=HN4.o;omega):p:=h
theorem eF{p:Prop}(h:p:=by have:=WU.o;omega):p:=h
theorem eE{p:Prop}(h:p:=by have:=HN6.o;omega):p:=h
theorem eD{p:Prop}(h:p:=by have:=Zh.o;omega):p:=h
theorem rW{p:Prop}(h:p:=by intro e;have:=(HO.o.lt _ e.symm).2;omega):p:=h
theorem rV{p:Prop}(h:p:=by rw [hwi];exact HB.o.alloc HB.o.size _):p:=h
theorem eC{p:Prop}(h:p:=by rw [hs];exact hold):p:=h
theorem eB{p:Prop}(h:p:=by simp [Act.eval,hx]):p:=h
theorem rU{p:Prop}(h:p:=by rw [hY];exact HX.o.alloc HX.o.size _):p:=h
theorem rT{p:Prop}(h:p:=by rw [hwt];exact (Jc.o.alloc _).alloc _):p:=h
theorem rS{p:Prop}(h:p:=by show w.heap.size < w.heap.size+1+1;omega):p:=h
theorem rR{p:Prop}(h:p:=by unfold Ft;rw [<-hke2];exact Td.o):p:=h
theorem rQ{p:Prop}(h:p:=by rw [<-HR.o,<-Zh.o];exact Lh.o):p:=h
theorem eA{p:Prop}(h:p:=by show lb < _;omega):p:=h
theorem rP{p:Prop}(h:p:=by have:=SF.o;unfold JC at this;omega):p:=h
theorem rO{p:Prop}(h:p:=by show w.heap.size≠w.heap.size+1;omega):p:=h
theorem rN{p:Prop}(h:p:=by rw [Cn (by omega) DZ.o,hke]):p:=h
theorem rM{p:Prop}(h:p:=by unfold Ft;rw [<-hke];exact DZ.o):p:=h
theorem dy{p:Prop}(h:p:=by rw [hs];exact hi):p:=h
theorem rL{p:Prop}(h:p:=by intro e;have:=(HO.o.lt _ e).2;omega):p:=h
theorem rK{p:Prop}(h:p:=by have:=WT.o;have:=H4.o;simp;omega):p:=h
theorem rJ{p:Prop}(h:p:=by unfold Bm;rw [if_pos hk0];exact hx):p:=h
theorem rI{p:Prop}(h:p:=by show (_:Nat)≠w.heap.size+1+1;omega):p:=h
theorem rH{p:Prop}(h:p:=by simp only [List.length_cons];omega):p:=h
theorem rG{p:Prop}(h:p:=by rw [List.length_set,HI2.o];omega):p:=h
theorem rF{p:Prop}(h:p:=by rw [List.getElem?_map,BG.o];rfl):p:=h
theorem rE{p:Prop}(h:p:=by rw [Dz];exact Nat.le_refl _):p:=h
theorem rD{p:Prop}(h:p:=by rw [hSS];exact UZ rfl rfl rfl):p:=h
theorem rC{p:Prop}(h:p:=by have:=jZ.o;have:=Li.o;omega):p:=h
theorem rB{p:Prop}(h:p:=by rw [tP,HSL.o];exact HI.o):p:=h
theorem q9{p:Prop}(h:p:=by rw [Hp];exact Nat.le_refl _):p:=h
theorem q8{p:Prop}(h:p:=by rw [B9,Nx.o];exact Gm):p:=h
abbrev Al:=@List.getElem?_cons_zero
abbrev Ac:=@Nat.le_refl
abbrev Ak:=@List.getElem?_toArray
abbrev Ae:=@Go.RowKit.Below.refl
abbrev Az:=@List.getElem?_cons_succ
abbrev BD:=@List.getElem?_eq_some_iff
abbrev Au:=@Nat.lt_of_lt_of_le
abbrev BJ:=@List.getElem?_eq_getElem
abbrev Av:=@Nat.zero_le
abbrev Bc:=@decide_eq_false
abbrev BH:=@Nat.le_trans
abbrev Bb:=@List.getElem?_map
abbrev Km:=@Nat.add_assoc
abbrev BR:=@decide_eq_true
abbrev Cv:=@List.getD_eq_getElem?_getD
abbrev Bj:=@Bool.and_eq_true
abbrev Cp:=@List.getElem?_append_right
abbrev C6:=@Array.getElem?_eq_some_iff
abbrev Ai:=@if_neg
abbrev BZ:=@Go.run_part_plain
abbrev Bu:=@Option.some.injEq
abbrev CS:=@List.mem_of_getElem?
abbrev Cu:=@List.take_of_length_le
abbrev CQ:=@List.length_append
abbrev B8:=@decide_eq_true_eq
abbrev Ao:=@if_pos
abbrev Ct:=@List.set_cons_zero
abbrev Bv:=@Go.wpList_load_row
abbrev Ds:=@Option.map_eq_some_iff
abbrev DF:=@List.set_cons_succ
abbrev Cm:=@Int.toNat_natCast
abbrev ES:=@List.getElem?_append_left
abbrev Cc:=@Option.getD_some
abbrev DT:=@List.getElem?_eq_none
abbrev CN:=@Go.IntWalk.i64_in
abbrev Cb:=@List.length_map
abbrev DS:=@Go.World.grownBy.refl
abbrev CJ:=@List.mem_cons
abbrev ER:=@List.length_take
abbrev F9:=@List.getElem?_set_self
abbrev Cl:=@Option.map_some
abbrev Ex:=@List.drop_of_length_le
abbrev Ck:=@Go.Sem.run_bind
abbrev Ew:=@Go.RowKit.ownsRow_setCell_below
abbrev Ie:=@List.eq_nil_of_length_eq_zero
abbrev DE:=@List.map_append
abbrev Ev:=@Go.World.ownsRow_nil
abbrev EQ:=@Go.World.grownBy_alloc
abbrev EP:=@List.getElem?_drop
abbrev D6:=@Go.RowKit.Below.heap_setCell
abbrev Ic:=@List.getElem?_zip_eq_some
abbrev T8:=@Go.run_underlying
abbrev Lr:=@List.setIfInBounds_toArray
abbrev De:=@List.all_eq_true
abbrev Gw:=@List.length_cons
abbrev DC:=@Go.Sem.run_pure
abbrev FM:=@List.length_set
abbrev FL:=@List.take_succ_cons
abbrev D5:=@List.not_mem_nil
abbrev Ee:=@Go.World.size_alloc
abbrev Fh:=@Option.isSome_some
abbrev Fg:=@List.mem_singleton
abbrev Eu:=@Go.bodyPost_ret
abbrev FK:=@List.append_nil
abbrev Jl:=@List.getElem?_take_of_lt
abbrev Mz:=@Array.getElem?_eq_none
abbrev Gv:=@Option.isSome_none
abbrev Gu:=@Bool.false_eq_true
abbrev F8:=@of_decide_eq_true
abbrev Ed:=@List.mem_range
abbrev JN:=@List.length_drop
abbrev Dd:=@List.mem_map
abbrev T7:=@Array.getElem?_append_left
abbrev JM:=@List.getElem?_set_ne
abbrev FJ:=@List.take_zero
abbrev JL:=@List.drop_succ_cons
abbrev EO:=@Nat.add_zero
abbrev Ff:=@Nat.le_succ
abbrev Ec:=@Nat.lt_or_ge
abbrev My:=@Go.run_loadVar_row
abbrev Et:=@Go.callsIn_wide
abbrev Fe:=@List.map_cons
abbrev Kl:=@Go.World.cell?_of_block
abbrev Ib:=@Nat.lt_succ_self
abbrev PZ:=@Int.mul_le_mul_of_nonneg_right
abbrev Hm:=@Option.some.inj
abbrev Mx:=@decide_eq_false_iff_not
abbrev F7:=@Prod.mk.injEq
abbrev PY:=@Array.getElem?_setIfInBounds
abbrev Fc:=@Nat.zero_add
abbrev Ia:=@List.set_set
abbrev Hl:=@List.drop_zero
abbrev Jk:=@List.append_assoc
abbrev FI:=@Go.wpStill_nil
abbrev F6:=@Go.wpAnyH_done
abbrev Mw:=@Bool.and_eq_false_iff
abbrev C5:=@if_true
abbrev Lp:=@List.getElem?_range
abbrev JK:=@beq_false_of_ne
abbrev JJ:=@Option.map_none
abbrev Dr:=@Go.wpIn_wide
abbrev Jj:=@Option.getD_none
abbrev Ji:=@List.drop_length
abbrev Mv:=@Nat.mul_le_mul_right
abbrev Mu:=@List.mem_cons_of_mem
abbrev Gt:=@Go.setRow_other
abbrev Jh:=@List.nil_append
abbrev Kk:=@Go.RowKit.Below.heap_alloc
abbrev Mt:=@List.filterMap_cons
abbrev N8:=@List.filterMap_append
abbrev T6:=@Array.size_append
abbrev Gs:=@Nat.mul_one
abbrev RM:=@of_decide_eq_false
abbrev Ms:=@List.filterMap_nil
abbrev JI:=@Bool.true_and
abbrev Ln:=@List.cons_append
abbrev D4:=@or_false
abbrev Yd:=@Array.getElem?_eq_getElem
abbrev PX:=@Go.ownsRow_setCell_other
abbrev Kj:=@Int.mul_nonneg
abbrev Lm:=@Go.run_equalIn_int
abbrev PW:=@List.range_succ
abbrev Ll:=@List.mem_append
abbrev N7:=@List.mem_cons_self
abbrev Es:=@Eq.trans
abbrev RL:=@List.foldl_append
abbrev N6:=@List.ext_getElem?
abbrev PV:=@List.flatten_append
abbrev PU:=@List.length_nil
abbrev Tz:=@List.mem_or_eq_of_mem_set
abbrev RK:=@Array.getElem?_mapIdx
abbrev N5:=@Go.results_cell_row
abbrev PT:=@Go.run_equalIn_struct
abbrev PS:=@Go.run_equalIn_string
abbrev PR:=@Nat.eq_zero_or_pos
abbrev Ki:=@Nat.ne_of_lt
abbrev Ty:=@List.length_filterMap_le
abbrev RJ:=@List.mem_append_left
abbrev Tx:=@Go.BigFrame.wpList_want
abbrev F5:=@if_false
abbrev Yc:=@Array.getElem?_append_right
abbrev IZ:=@Go.mem_ready
abbrev PO:=@List.take_length
abbrev Jg:=@Go.ready_mono
abbrev RI:=@Go.World.size_setCell
abbrev RH:=@Array.ext_getElem?
abbrev Tw:=@List.take_append_drop
abbrev Yb:=@Go.World.cell?_setCell_other
abbrev Ya:=@List.drop_eq_getElem_cons
abbrev Mr:=@Nat.succ_mul
abbrev RG:=@Go.World.cells?_some
abbrev RF:=@List.size_toArray
abbrev RE:=@List.getElem?_set
abbrev RD:=@Go.IntWalk.wrap64_in
abbrev Tv:=@Array.replicate_zero
abbrev Ts:=@Array.replicate_succ
abbrev dx:=@List.take_succ_eq_append_getElem
abbrev dw:=@Array.all_eq_true_iff_forall_mem
abbrev Kh:=@Go.info_parts
abbrev N4:=@Go.callsD_of_wpS
abbrev N3:=@List.all_cons
abbrev YZ:=@Array.setIfInBounds_comm
abbrev Tr:=@List.append_toArray
abbrev PN:=@Int.mul_le_mul
abbrev Q9:=@Array.toList_map
abbrev YX:=@List.getElem?_replicate
abbrev Gr:=@dif_pos
abbrev Lk:=@Go.RowKit.Below.cell
abbrev Q8:=@List.map_set
abbrev N2:=@List.map_nil
abbrev YW:=@Go.MapKept.run_setObj_map
abbrev Q7:=@Go.run_loadVar_mid
abbrev Tq:=@Nat.min_eq_left
abbrev Q6:=@List.nodup_cons
abbrev Q5:=@List.cons.injEq
abbrev YV:=@List.set_append_right
abbrev YU:=@List.length_singleton
abbrev qy:=@Array.getElem?_modify
abbrev Tp:=@List.take_add_one
abbrev To:=@List.push_toArray
abbrev N1:=@Go.setRow_self
abbrev N0:=@Go.leaves_cons
abbrev Q0:=@Go.run_neq_struct
abbrev YT:=@Go.Region.noSelect_spec
abbrev PK:=@Nat.sub_self
abbrev PJ:=@Go.Act.put_comm
abbrev Tn:=@Go.wpList_store_mid
abbrev Tm:=@List.getElem_mem
abbrev Tl:=@Array.toList_inj
abbrev YS:=@List.mem_map_of_mem
abbrev YR:=@List.getElem_of_mem
abbrev YQ:=@Int.toNat_of_nonneg
abbrev Qz:=@Bool.not_true
abbrev du:=@Option.isSome_iff_exists
abbrev Lj:=@dif_neg
abbrev Nz:=@Go.wpS_region
abbrev YP:=@decide_eq_true_iff
abbrev dt:=@Option.bind_eq_some_iff
abbrev Qy:=@Nat.zero_mul
abbrev Tk:=@Go.IntWalk.u64_in
abbrev YO:=@List.nodup_append
abbrev YN:=@List.length_range
abbrev dr:=@Go.MapKept.run_getObj_map
abbrev Ny:=@Go.wpS_of_wp
abbrev YM:=@Go.wpList_store_row
abbrev YL:=@Go.Region.free_spec
abbrev YK:=@List.map_toArray
abbrev dq:=@List.getElem?_of_mem
abbrev YJ:=@Nat.not_lt_zero
abbrev YI:=@List.foldl_cons
abbrev YH:=@Bool.or_eq_true
abbrev YG:=@Bool.and_false
end Go.Proofs.YtamhoilkpppdbaaGreatDoor
