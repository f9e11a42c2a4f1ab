import Derived.WalkKit
import Derived.Lib.Hide
import Derived.BigQuiet
import Derived.Deep.RegionHeld3
import Derived.Deep.Cut
namespace Go.Proofs.YtpmpddfgifhlbaaGreatDoor
open Go Go.RowKit
def AI(p:Prop):Prop:=p
theorem AI.o{p:Prop}(h:AI p):p:=h
theorem AF{p:Prop}(h:p):AI p:=h
theorem Aj{p0 p1:Prop}(h0:p0)(h1:p1):AI p0/\AI p1:=⟨h0,h1⟩
theorem Az{p0 p1 p2:Prop}(h0:p0)(h1:p1)(h2:p2):AI p0/\AI p1/\AI p2:=⟨h0,h1,h2⟩
theorem CJ{p0 p1 p2 p3:Prop}(h0:p0)(h1:p1)(h2:p2)(h3:p3):AI p0/\AI p1/\AI p2/\AI p3:=⟨h0,h1,h2,h3⟩
theorem EG{p0 p1 p2 p3 p4:Prop}(h0:p0)(h1:p1)(h2:p2)(h3:p3)(h4:p4):AI p0/\AI p1/\AI p2/\AI p3/\AI p4:=⟨h0,h1,h2,h3,h4⟩
theorem FR{p0 p1 p2 p3 p4 p5:Prop}(h0:p0)(h1:p1)(h2:p2)(h3:p3)(h4:p4)(h5:p5):AI p0/\AI p1/\AI p2/\AI p3/\AI p4/\AI p5:=⟨h0,h1,h2,h3,h4,h5⟩
theorem LW{p0 p1 p2 p3 p4 p5 p6:Prop}(h0:p0)(h1:p1)(h2:p2)(h3:p3)(h4:p4)(h5:p5)(h6:p6):AI p0/\AI p1/\AI p2/\AI p3/\AI p4/\AI p5/\AI p6:=⟨h0,h1,h2,h3,h4,h5,h6⟩
theorem Wy{p0 p1 p2 p3 p4 p5 p6 p7:Prop}(h0:p0)(h1:p1)(h2:p2)(h3:p3)(h4:p4)(h5:p5)(h6:p6)(h7:p7):AI p0/\AI p1/\AI p2/\AI p3/\AI p4/\AI p5/\AI p6/\AI p7:=⟨h0,h1,h2,h3,h4,h5,h6,h7⟩
theorem Po{p0 p1 p2 p3 p4 p5 p6 p7 p8:Prop}(h0:p0)(h1:p1)(h2:p2)(h3:p3)(h4:p4)(h5:p5)(h6:p6)(h7:p7)(h8:p8):AI p0/\AI p1/\AI p2/\AI p3/\AI p4/\AI p5/\AI p6/\AI p7/\AI p8:=⟨h0,h1,h2,h3,h4,h5,h6,h7,h8⟩
theorem bw{p0 p1 p2 p3 p4 p5 p6 p7 p8 p9:Prop}(h0:p0)(h1:p1)(h2:p2)(h3:p3)(h4:p4)(h5:p5)(h6:p6)(h7:p7)(h8:p8)(h9:p9):AI p0/\AI p1/\AI p2/\AI p3/\AI p4/\AI p5/\AI p6/\AI p7/\AI p8/\AI p9:=⟨h0,h1,h2,h3,h4,h5,h6,h7,h8,h9⟩
theorem vV{p0 p1 p2 p3 p4 p5 p6 p7 p8 p9 p10:Prop}(h0:p0)(h1:p1)(h2:p2)(h3:p3)(h4:p4)(h5:p5)(h6:p6)(h7:p7)(h8:p8)(h9:p9)(h10:p10):AI p0/\AI p1/\AI p2/\AI p3/\AI p4/\AI p5/\AI p6/\AI p7/\AI p8/\AI p9/\AI p10:=⟨h0,h1,h2,h3,h4,h5,h6,h7,h8,h9,h10⟩
theorem RG{p0 p1 p2 p3 p4 p5 p6 p7 p8 p9 p10 p11:Prop}(h0:p0)(h1:p1)(h2:p2)(h3:p3)(h4:p4)(h5:p5)(h6:p6)(h7:p7)(h8:p8)(h9:p9)(h10:p10)(h11:p11):AI p0/\AI p1/\AI p2/\AI p3/\AI p4/\AI p5/\AI p6/\AI p7/\AI p8/\AI p9/\AI p10/\AI p11:=⟨h0,h1,h2,h3,h4,h5,h6,h7,h8,h9,h10,h11⟩
abbrev AJ(w w':World):Prop:=Below w.heap.size w w'
abbrev AP:=List Int
theorem Ab{α:Sort _}(a:α):∃x,x=a:=⟨a,rfl⟩
theorem BH{α:Sort _}(a:α):∃x,a=x:=⟨a,rfl⟩
theorem AW{a b c:World}(h:Below a.heap.size a b)(k:Below b.heap.size b c):Below a.heap.size a c:=h.trans (k.mono h.size)
theorem BP(w:World)(o):Below w.heap.size w (w.alloc o):=(Below.refl _ _).alloc (Nat.le_refl _) _
theorem Bc{p:Prop}(h:p:=by have:=HQ.o;omega):p:=h
theorem vU{p:Prop}(h:p:=by obtain ⟨v0,rfl⟩:=I3 (c:=c0) (hf 0 _ 1 rfl rfl);obtain ⟨v1,rfl⟩:=I3 (c:=c1) (hf 1 _ 1 rfl rfl);obtain ⟨v2,w2,rfl⟩:=Cp (c:=c2) (hf 2 _ 1 rfl rfl);obtain ⟨v3,w3,rfl⟩:=Cp (c:=c3) (hf 3 _ 1 rfl rfl);obtain ⟨v4,w4,rfl⟩:=Cp (c:=c4) (hf 4 _ 1 rfl rfl);exact ⟨⟨v0,v1,v2,v3,v4⟩,rfl⟩):p:=h
theorem vT{p:Prop}(h:p:=by have E3:=AF e3;go_wp2;go_ret;refine ⟨A8 ?_,AW BV.o C5.o⟩;exact (decide_eq_false (fun h=>E3.o (by rw [h]))).symm):p:=h
theorem vS{p:Prop}(h:p:=by have E2:=AF e2;go_wp2;go_ret;refine ⟨A8 ?_,AW BV.o C5.o⟩;exact (decide_eq_false (fun h=>E2.o (by rw [h]))).symm):p:=h
theorem vR{p:Prop}(h:p:=by go_ret;refine ⟨v',cs,rfl,hcs,?_,(BP _ _).grown hgr (by simp) (by simp [Value.ownBlock])⟩;rw [<-HLEN.o];simpa using hown):p:=h
theorem Ec{p:Prop}(h:p:=by have:=HG.o;omega):p:=h
theorem AAo{p:Prop}(h:p:=by simp only [ho,hx,Instr.loadAt,Instr.sureAddr,Sem.run_bind,Sem.run_pure,Result.andThen_ok,run_loadVar_row w g t ty (yA d) (0,0) ds hg hu hds (by rw [Bb,hd];exact hi)];exact hK _ _ h):p:=h
theorem R2{p:Prop}(h:p:=by exfalso;injection h with _ h;omega):p:=h
theorem m9{p:Prop}(h:p:=by refine .inr ⟨_,rfl,?_⟩;refine Jc.o _ _ _ ?_ hS5 TW.o;kernel_rfl):p:=h
theorem Ln{p:Prop}(h:p:=by have:=Kj.o;omega):p:=h
theorem AAn{p:Prop}(h:p:=by refine ⟨0,Nat.zero_le _,rfl,rfl,?_,PW.o,HRY.o,YR.o⟩;have:=uz.o;simpa [IZ] using this):p:=h
theorem AAm{p:Prop}(h:p:=by have E1:=AF e1;go_wp2;go_ret;refine ⟨A8 ?_,AW BV.o C5.o⟩;exact zY):p:=h
theorem R0{p:Prop}(h:p:=by exact ⟨rfl,Gr.o⟩):p:=h
theorem bu{p:Prop}(h:p:=by simp only [List.length_cons];omega):p:=h
theorem Rz{p:Prop}(h:p:=by exact ⟨_,_,_,rfl⟩):p:=h
theorem AAl{p:Prop}(h:p:=by simp only [ho,hx,Sem.run_bind,Sem.run_pure,h,Result.andThen_ok];exact hK _ _ hk):p:=h
theorem bt{p:Prop}(h:p:=by have:=HQ.o;have:=LQ.o;omega):p:=h
theorem Wx{p:Prop}(h:p:=by go_wp2;go_ret;exact AGl):p:=h
theorem AAk{p:Prop}(h:p:=by rw [upto_take hlt];exact Ao.append (P3 Sp.o) (P3 hc5)):p:=h
theorem Ry{p:Prop}(h:p:=by unfold maxLen;omega):p:=h
theorem AAj{p:Prop}(h:p:=by simp only [List.length_append,List.length_cons,List.length_nil];omega):p:=h
theorem Rx{p:Prop}(h:p:=by exact ⟨rfl,rfl⟩):p:=h
theorem Kt{p:Prop}(h:p:=by exact AEf):p:=h
theorem m8{p:Prop}(h:p:=by go_ret;exact ⟨⟨_,rfl⟩,HB.o⟩):p:=h
theorem AAi{p:Prop}(h:p:=by have:=HBD.o;rw [Cq (by omega) Db.o,hke];exact this):p:=h
theorem AAh{p:Prop}(h:p:=by go_ret;exact ⟨C8 (by rw [HE.o];simp [hc]),HB.o⟩):p:=h
theorem AAg{p:Prop}(h:p:=by rw [e] at this;rw [this,ip H (l:=l) (by omega)];rfl):p:=h
theorem AAf{p:Prop}(h:p:=by exact ⟨0,Nat.zero_le _,rfl,rfl,HV.o,ML.o,HB0.o⟩):p:=h
theorem AG{p:Prop}(h:p:=by omega):p:=h
theorem AL{p:Prop}(h:p:=by kernel_rfl):p:=h
theorem Al{p:Prop}(h:p:=by exact fun _ _ _ _ _ h=>h):p:=h
theorem Bu{p:Prop}(h:p:=by intro W hW;obtain ⟨e1,e2,e3⟩:=HC2.o W hW;(go_simp) <;> rfl):p:=h
theorem F8{p:Prop}(h:p:=by intro W hW;obtain ⟨⟨a0,a1,a2,a3⟩,⟨a36,a37,a38,a71⟩,⟨r0,r1,r2,r5⟩,_⟩:=ES.o W hW;rw [jn.o] at a2;have t2:=(HD.o W hW).2.2.1;have t4:=HE4.o W hW;(go_simp) <;> rfl):p:=h
theorem Hd{p:Prop}(h:p:=by intro W hW;obtain ⟨⟨a0,a1,a2,a3⟩,⟨a36,a37,a38⟩,r0,r1,r2,r5⟩:=ES.o W hW;rw [jn.o] at a2;have t2:=(HD.o W hW).2.2.1;(go_simp) <;> rfl):p:=h
theorem Hc{p:Prop}(h:p:=by intro W hW;obtain ⟨⟨r0,r1,r2,r5⟩,o34,⟨i0,i3⟩,_⟩:=HCM.o W hW;rw [Zl.o] at r2;have t2:=(HTM.o W hW).2.2.1;(go_simp) <;> rfl):p:=h
theorem Ac{p:Prop}(h:p:=by simp):p:=h
theorem NV{p:Prop}(h:p:=by intro W hW;have hW4:=AW CY.o hW;obtain ⟨⟨a0,a1,a2,a3⟩,⟨a36,a37,a38,a71⟩,⟨r0,r1,r2,r5⟩,_⟩:=ES.o W hW4;rw [jn.o] at a2;obtain ⟨t0,t1,t2,t3,t4,t5,t6⟩:=HD.o W hW4;have eu:=HEU.o W hW;(go_simp) <;> rfl):p:=h
theorem BE{p:Prop}(h:p:=by decide):p:=h
theorem BX{p:Prop}(h:p:=by simp;omega):p:=h
theorem FT{p:Prop}(h:p:=by exact fun _ _ h=>⟨h.1,h.2.symm⟩):p:=h
theorem FD{p:Prop}(h:p:=by intro e;injection e with e;omega):p:=h
theorem Lm{p:Prop}(h:p:=by intro W hW;obtain ⟨e1,e2,e3⟩:=HS9.o W hW;(go_simp) <;> rfl):p:=h
theorem NU{p:Prop}(h:p:=by intro W hW;obtain ⟨c1,c2,c3,c4⟩:=HC.o W hW;(go_simp) <;> rfl):p:=h
theorem F7{p:Prop}(h:p:=by intro W hW;(go_simp) <;> rfl):p:=h
theorem EO{p:Prop}(h:p:=by simp [Bb,zeros]):p:=h
theorem NT{p:Prop}(h:p:=by intro W hW;obtain ⟨e1,e2,e3⟩:=jm.o W hW;(go_simp) <;> rfl):p:=h
theorem Ll{p:Prop}(h:p:=by first | assumption | (go_split_ands;assumption)):p:=h
theorem Gj{p:Prop}(h:p:=by unfold maxLen;omega):p:=h
theorem Iz{p:Prop}(h:p:=by exact fun _ _ _ _ h=>h):p:=h
theorem Rw{p:Prop}(h:p:=by intro W hW;obtain ⟨e1,e2⟩:=HS8.o W hW;(go_simp) <;> rfl):p:=h
theorem JU{p:Prop}(h:p:=by have:=LN.o;omega):p:=h
theorem UH{p:Prop}(h:p:=by rw [params3];rfl):p:=h
theorem Lk{p:Prop}(h:p:=by have:=yq.o;omega):p:=h
theorem Kq{p:Prop}(h:p:=by simp [Made.depth]):p:=h
theorem DG{p:Prop}(h:p:=by rfl):p:=h
theorem Oh{p:Prop}(h:p:=by simp [Value.ownBlock];omega):p:=h
theorem Lj{p:Prop}(h:p:=by have:=HN.o;omega):p:=h
theorem QT{p:Prop}(h:p:=by have:=DF.o.size;simp;omega):p:=h
theorem NS{p:Prop}(h:p:=by simp [Value.ownBlock]):p:=h
theorem Ww{p:Prop}(h:p:=by rw [hRR,rdA,Array.size_append,Bb,hro];kernel_rfl):p:=h
theorem QS{p:Prop}(h:p:=by rw [List.length_take];omega):p:=h
theorem Fq{p:Prop}(h:p:=by rw [h]):p:=h
theorem UG{p:Prop}(h:p:=by simp [F5,zeros,HI2.o] <;> omega):p:=h
theorem mr{p:Prop}(h:p:=by rw [hRR,rdA];refine ⟨?_,?_,?_,?_⟩ <;> (rw [Array.getElem?_append_left (by simp)];rfl)):p:=h
theorem Og{p:Prop}(h:p:=by simp [Value.oneCell']):p:=h
theorem QR{p:Prop}(h:p:=by rw [h] at hr;cases hr):p:=h
theorem AAe{p:Prop}(h:p:=by rw [List.getElem?_set_self hkl]):p:=h
theorem mg{p:Prop}(h:p:=by rw [hRR,rdA];refine ⟨?_,?_⟩ <;> (rw [Array.getElem?_append_left (by simp)];rfl)):p:=h
theorem Oe{p:Prop}(h:p:=by unfold EZ;omega):p:=h
theorem bq{p:Prop}(h:p:=by show w.heap.size+1≠wa.heap.size;have:=YF.o;omega):p:=h
theorem UF{p:Prop}(h:p:=by have:=HB2.o.size;simp;omega):p:=h
theorem bk{p:Prop}(h:p:=by show w.heap.size<=wa.heap.size;have:=YF.o;omega):p:=h
theorem QP{p:Prop}(h:p:=by rw [dW];kernel_rfl):p:=h
theorem me{p:Prop}(h:p:=by intro W hW;obtain ⟨a0,a1,a2,a3,a4,a5,a6⟩:=HD.o W hW;(go_simp) <;> rfl):p:=h
theorem bj{p:Prop}(h:p:=by show 0<=(x:Int)+4+1/\(x:Int)+4+1<=1000;omega):p:=h
theorem mZ{p:Prop}(h:p:=by unfold FS;rw [dif_neg];rintro ⟨_,h⟩;rw [HJ.o] at h;exact AGm):p:=h
theorem Rv{p:Prop}(h:p:=by have:=HLEN.o;omega):p:=h
theorem Wv{p:Prop}(h:p:=by have:=JE.o;have:=HM.o;omega):p:=h
theorem Ru{p:Prop}(h:p:=by have:=PU.o;omega):p:=h
theorem Rt{p:Prop}(h:p:=by have:=YF.o;omega):p:=h
theorem bh{p:Prop}(h:p:=by show 0<=(x:Int)+4/\(x:Int)+4<=1000;omega):p:=h
theorem mY{p:Prop}(h:p:=by show EZ q.schema;rw [jn.o];unfold EZ;have:=HS.o.le;omega):p:=h
theorem Wu{p:Prop}(h:p:=by rw [FF];exact hown2):p:=h
theorem bf{p:Prop}(h:p:=by show w.heap.size<=w.heap.size+1+1;omega):p:=h
theorem Wt{p:Prop}(h:p:=by have:=HB.o.size;simp;omega):p:=h
theorem Ws{p:Prop}(h:p:=by rw [List.length_drop];omega):p:=h
theorem MO{p:Prop}(h:p:=by simp [go_sem]):p:=h
theorem Wr{p:Prop}(h:p:=by rw [hD];exact C3 _ _):p:=h
theorem bd{p:Prop}(h:p:=by rw [Bb,N4.o];exact Du):p:=h
theorem Rs{p:Prop}(h:p:=by exact OZ.o):p:=h
theorem Rr{p:Prop}(h:p:=by exact PH.o):p:=h
theorem bZ{p:Prop}(h:p:=by rw [Hi];exact C3 _ _):p:=h
theorem UE{p:Prop}(h:p:=by simpa using hkl):p:=h
theorem bY{p:Prop}(h:p:=by show w.heap.size+1 < _;omega):p:=h
theorem mX{p:Prop}(h:p:=by rw [Dz,Dz];exact Nat.le_refl _):p:=h
theorem Rk{p:Prop}(h:p:=by simp [YJ.o]):p:=h
theorem tr{p:Prop}(h:p:=by have:chunk _ 11 k=_:=h1.chunk (i:=k) (by rw [List.getElem?_set_self hkl]);rw [this];rfl):p:=h
theorem Uc{p:Prop}(h:p:=by have:=HM.o;omega):p:=h
theorem Ua{p:Prop}(h:p:=by have:=HZ.o;omega):p:=h
theorem fV{p:Prop}(h:p:=by intro W hW;rw [<-hmul];(go_simp) <;> rfl):p:=h
theorem tq{p:Prop}(h:p:=by have:chunk _ 5 k=_:=h1.chunk (i:=k) (by rw [List.getElem?_set_self hkl]);rw [this];rfl):p:=h
theorem fU{p:Prop}(h:p:=by unfold chunk;rw [List.length_take];omega):p:=h
theorem Y3{p:Prop}(h:p:=by rw [Eb.o];simp [zeros]):p:=h
theorem fT{p:Prop}(h:p:=by intro W hW;rw [<-hva];(go_simp) <;> rfl):p:=h
theorem M1{p:Prop}(h:p:=by rw [e]):p:=h
theorem fS{p:Prop}(h:p:=by show 0<=q.place/\q.place<=1000;omega):p:=h
theorem tp{p:Prop}(h:p:=by simp [results,results40,go_sem,x0,x1,x2,x3,x4,x5,x6]):p:=h
theorem fR{p:Prop}(h:p:=by show w.heap.size<=w.heap.size+1;omega):p:=h
theorem UZ{p:Prop}(h:p:=by simpa using xS):p:=h
theorem UY{p:Prop}(h:p:=by simp [hh];omega):p:=h
theorem UX{p:Prop}(h:p:=by rw [<-ht];rfl):p:=h
theorem UW{p:Prop}(h:p:=by decide +kernel):p:=h
theorem ti{p:Prop}(h:p:=by simp [results,results55,go_sem]):p:=h
theorem fQ{p:Prop}(h:p:=by rw [WO,LY];exact OM _):p:=h
theorem fP{p:Prop}(h:p:=by have:=HM.o;have:=Zn.o;omega):p:=h
theorem Y2{p:Prop}(h:p:=by rw [QA];omega):p:=h
theorem Y1{p:Prop}(h:p:=by have:=H9.o;omega):p:=h
theorem Y0{p:Prop}(h:p:=by have:=Lt.o;omega):p:=h
theorem Yz{p:Prop}(h:p:=by have:=Fx.o;omega):p:=h
theorem Rj{p:Prop}(h:p:=by exact hb1):p:=h
theorem Yy{p:Prop}(h:p:=by simp [hh,ht];omega):p:=h
theorem fO{p:Prop}(h:p:=by have:=HB1.o.size;simp;omega):p:=h
theorem fN{p:Prop}(h:p:=by rw [T0.o];exact N4.o):p:=h
theorem tg{p:Prop}(h:p:=by unfold Y7;rw [IA.o];simp only [HX.o];rw [iY.o]):p:=h
theorem td{p:Prop}(h:p:=by rw [List.length_reverse,iu H _ _ _ (Nat.le_refl _),e]):p:=h
theorem fM{p:Prop}(h:p:=by rw [PS,AJd hh];kernel_rfl):p:=h
theorem fL{p:Prop}(h:p:=by rw [HHQ.o.1];exact HH.o):p:=h
theorem tZ{p:Prop}(h:p:=by rw [Bb,VJ LU.o (Nat.le_refl _)];exact HI2.o):p:=h
theorem fK{p:Prop}(h:p:=by cases v.ownBlock <;> simp):p:=h
theorem Yx{p:Prop}(h:p:=by simpa using Qh):p:=h
theorem tY{p:Prop}(h:p:=by rw [k.cell];exact Array.getElem?_eq_getElem (by omega)):p:=h
theorem tX{p:Prop}(h:p:=by rw [<-hx];exact getD_mem (by rw [QL];omega)):p:=h
theorem fJ{p:Prop}(h:p:=by rw [Bb,hd];exact hi):p:=h
theorem fI{p:Prop}(h:p:=by rw [LX];exact hk):p:=h
theorem Yw{p:Prop}(h:p:=by rw [hrec];simp):p:=h
theorem fH{p:Prop}(h:p:=by rw [FF];omega):p:=h
theorem tW{p:Prop}(h:p:=by unfold P8;rw [Wf.o];simp only;rw [htp];rfl):p:=h
theorem tV{p:Prop}(h:p:=by show w.heap.size<=w.heap.size+1+1+1+1+1+1+1;omega):p:=h
theorem tU{p:Prop}(h:p:=by rw [List.getElem?_zip_eq_some];exact ⟨h1,h2⟩):p:=h
theorem fG{p:Prop}(h:p:=by rw [hrec];exact hps x):p:=h
theorem tT{p:Prop}(h:p:=by rw [show x=_ from hG];exact ND _ HL.o):p:=h
theorem fF{p:Prop}(h:p:=by rw [Bb,N4.o]):p:=h
theorem tS{p:Prop}(h:p:=by have:chunk cs 11 k=_:=h.chunk hk;rw [this];rfl):p:=h
theorem tR{p:Prop}(h:p:=by show (_:Nat)≠w.heap.size+1+1+1+1+1+1+1;omega):p:=h
theorem tQ{p:Prop}(h:p:=by have:chunk cs 5 k=_:=h.chunk hk;rw [this];rfl):p:=h
theorem tP{p:Prop}(h:p:=by have:chunk cs 4 k=_:=h.chunk hk;rw [this];rfl):p:=h
theorem tO{p:Prop}(h:p:=by have:chunk cs 8 k=_:=h.chunk hk;rw [this];rfl):p:=h
theorem tN{p:Prop}(h:p:=by have:chunk cs 7 k=_:=h.chunk hk;rw [this];rfl):p:=h
theorem fE{p:Prop}(h:p:=by rw [Bb,Sr.o]):p:=h
theorem tM{p:Prop}(h:p:=by unfold fieldStep;rw [if_pos HKD.o,hix];rfl):p:=h
theorem fD{p:Prop}(h:p:=by have:=CV.o;omega):p:=h
theorem fC{p:Prop}(h:p:=by have:=qO.o;omega):p:=h
theorem fB{p:Prop}(h:p:=by have:=LJ.o;omega):p:=h
theorem ew{p:Prop}(h:p:=by have:=HN4.o;omega):p:=h
theorem ep{p:Prop}(h:p:=by have:=Wb.o;omega):p:=h
theorem eo{p:Prop}(h:p:=by have:=HN6.o;omega):p:=h
theorem em{p:Prop}(h:p:=by have:=Zp.o;omega):p:=h
theorem ej{p:Prop}(h:p:=by rw [HSL.o];decide):p:=h
theorem eZ{p:Prop}(h:p:=by have:=Zn.o;omega):p:=h
theorem tL{p:Prop}(h:p:=by intro e;have:=(HO.o.lt _ e.symm).2;omega):p:=h
theorem tK{p:Prop}(h:p:=by show w.heap.size<=w.heap.size+1+1+1;omega):p:=h
theorem tJ{p:Prop}(h:p:=by rw [hwi];exact HB.o.alloc HB.o.size _):p:=h
theorem eY{p:Prop}(h:p:=by rw [hs];exact hold):p:=h
theorem eX{p:Prop}(h:p:=by simp [Act.eval,hx]):p:=h
theorem tI{p:Prop}(h:p:=by rw [hY];exact HX.o.alloc HX.o.size _):p:=h
theorem tH{p:Prop}(h:p:=by rw [hwt];exact (KU.o.alloc _).alloc _):p:=h
theorem tG{p:Prop}(h:p:=by show w.heap.size < w.heap.size+1+1;omega):p:=h
theorem tF{p:Prop}(h:p:=by unfold Fv;rw [<-hke2];exact Tz.o):p:=h
theorem tE{p:Prop}(h:p:=by rw [<-HR.o,<-Zp.o];exact NI.o):p:=h
theorem eW{p:Prop}(h:p:=by show lb < _;omega):p:=h
theorem tD{p:Prop}(h:p:=by have:=WZ.o;unfold Ky at this;omega):p:=h
theorem tC{p:Prop}(h:p:=by show w.heap.size≠w.heap.size+1;omega):p:=h
theorem tB{p:Prop}(h:p:=by rw [Cq (by omega) Db.o,hke]):p:=h
theorem tA{p:Prop}(h:p:=by unfold Fv;rw [<-hke];exact Db.o):p:=h
theorem eV{p:Prop}(h:p:=by rw [hs];exact hi):p:=h
theorem s9{p:Prop}(h:p:=by intro e;have:=(HO.o.lt _ e).2;omega):p:=h
theorem sw{p:Prop}(h:p:=by have:=WX.o;have:=H4.o;simp;omega):p:=h
theorem su{p:Prop}(h:p:=by unfold Bt;rw [if_pos hk0];exact hx):p:=h
theorem sm{p:Prop}(h:p:=by show (_:Nat)≠w.heap.size+1+1;omega):p:=h
theorem sj{p:Prop}(h:p:=by simp only [List.length_cons];omega):p:=h
theorem si{p:Prop}(h:p:=by rw [List.length_set,HI2.o];omega):p:=h
theorem sZ{p:Prop}(h:p:=by rw [List.getElem?_map,BV.o];rfl):p:=h
theorem sY{p:Prop}(h:p:=by rw [hC2];exact U0 rfl rfl rfl):p:=h
theorem sX{p:Prop}(h:p:=by have:=jw.o;have:=Lt.o;omega):p:=h
theorem sW{p:Prop}(h:p:=by rw [uU,HSL.o];exact HI.o):p:=h
theorem sV{p:Prop}(h:p:=by rw [Ht];exact Nat.le_refl _):p:=h
theorem sU{p:Prop}(h:p:=by exact fun _ _ _ _ h=>by cases h.1):p:=h
theorem sS{p:Prop}(h:p:=by rw [Bb,Qx.o];exact Du):p:=h
abbrev An:=@List.getElem?_cons_zero
abbrev Ad:=@Nat.le_refl
abbrev Ai:=@List.getElem?_toArray
abbrev Af:=@Go.RowKit.Below.refl
abbrev Aw:=@List.getElem?_cons_succ
abbrev BA:=@List.getElem?_eq_some_iff
abbrev Ay:=@Nat.lt_of_lt_of_le
abbrev BJ:=@List.getElem?_eq_getElem
abbrev Ar:=@Nat.zero_le
abbrev BO:=@decide_eq_false
abbrev BF:=@Nat.le_trans
abbrev Be:=@List.getElem?_map
abbrev L0:=@Nat.add_assoc
abbrev Bg:=@decide_eq_true
abbrev C0:=@List.getD_eq_getElem?_getD
abbrev BZ:=@Bool.and_eq_true
abbrev Cf:=@List.getElem?_append_right
abbrev Cz:=@Array.getElem?_eq_some_iff
abbrev Ah:=@if_neg
abbrev Cn:=@Go.run_part_plain
abbrev Bq:=@Option.some.injEq
abbrev Ci:=@List.mem_of_getElem?
abbrev Cy:=@List.take_of_length_le
abbrev CT:=@List.length_append
abbrev Bw:=@decide_eq_true_eq
abbrev Am:=@if_pos
abbrev Bp:=@List.set_cons_zero
abbrev Cm:=@Go.wpList_load_row
abbrev Ds:=@Option.map_eq_some_iff
abbrev B9:=@List.set_cons_succ
abbrev CZ:=@Int.toNat_natCast
abbrev EF:=@List.getElem?_append_left
abbrev Ce:=@Option.getD_some
abbrev DY:=@List.getElem?_eq_none
abbrev Bv:=@Go.IntWalk.i64_in
abbrev CX:=@List.length_map
abbrev DN:=@Go.World.grownBy.refl
abbrev CO:=@List.mem_cons
abbrev DR:=@List.length_take
abbrev Gv:=@List.getElem?_set_self
abbrev Cu:=@Option.map_some
abbrev EV:=@List.drop_of_length_le
abbrev Cs:=@Go.Sem.run_bind
abbrev E9:=@Go.RowKit.ownsRow_setCell_below
abbrev JO:=@List.eq_nil_of_length_eq_zero
abbrev DM:=@List.map_append
abbrev ED:=@Go.World.ownsRow_nil
abbrev Fm:=@Go.World.grownBy_alloc
abbrev EC:=@List.getElem?_drop
abbrev EB:=@Go.RowKit.Below.heap_setCell
abbrev Ig:=@List.getElem?_zip_eq_some
abbrev UV:=@Go.run_underlying
abbrev Ju:=@List.setIfInBounds_toArray
abbrev Dr:=@List.all_eq_true
abbrev Fl:=@List.length_cons
abbrev DL:=@Go.Sem.run_pure
abbrev D8:=@List.length_set
abbrev FQ:=@List.take_succ_cons
abbrev D7:=@List.not_mem_nil
abbrev Eg:=@Go.World.size_alloc
abbrev GF:=@Option.isSome_some
abbrev Fk:=@List.mem_singleton
abbrev E8:=@Go.bodyPost_ret
abbrev EU:=@List.append_nil
abbrev JN:=@List.getElem?_take_of_lt
abbrev M0:=@Array.getElem?_eq_none
abbrev Hr:=@Option.isSome_none
abbrev If:=@Bool.false_eq_true
abbrev Fj:=@of_decide_eq_true
abbrev Ef:=@List.mem_range
abbrev Hq:=@List.length_drop
abbrev Df:=@List.mem_map
abbrev Ri:=@Array.getElem?_append_left
abbrev JM:=@List.getElem?_set_ne
abbrev Ee:=@List.take_zero
abbrev JL:=@List.drop_succ_cons
abbrev D6:=@Nat.add_zero
abbrev Ed:=@Nat.le_succ
abbrev Ez:=@Nat.lt_or_ge
abbrev Pn:=@Go.run_loadVar_row
abbrev Ey:=@Go.callsIn_wide
abbrev Fi:=@List.map_cons
abbrev Lz:=@Go.World.cell?_of_block
abbrev Ie:=@Nat.lt_succ_self
abbrev OL:=@Int.mul_le_mul_of_nonneg_right
abbrev FO:=@Option.some.inj
abbrev Mz:=@decide_eq_false_iff_not
abbrev GD:=@Prod.mk.injEq
abbrev Rh:=@Array.getElem?_setIfInBounds
abbrev Ex:=@Nat.zero_add
abbrev Hp:=@List.set_set
abbrev Ho:=@List.drop_zero
abbrev Fh:=@List.append_assoc
abbrev FN:=@Go.wpStill_nil
abbrev Cx:=@Go.wpAnyH_done
abbrev My:=@Bool.and_eq_false_iff
abbrev Ct:=@if_true
abbrev Ly:=@List.getElem?_range
abbrev JK:=@beq_false_of_ne
abbrev JJ:=@Option.map_none
abbrev Dq:=@Go.wpIn_wide
abbrev Jt:=@Option.getD_none
abbrev Js:=@List.drop_length
abbrev Jr:=@Nat.mul_le_mul_right
abbrev Mx:=@List.mem_cons_of_mem
abbrev Gu:=@Go.setRow_other
abbrev Ic:=@List.nil_append
abbrev Mw:=@Go.RowKit.Below.heap_alloc
abbrev Mv:=@List.filterMap_cons
abbrev OJ:=@List.filterMap_append
abbrev UU:=@Array.size_append
abbrev F9:=@Nat.mul_one
abbrev Mu:=@of_decide_eq_false
abbrev Mt:=@List.filterMap_nil
abbrev JI:=@Bool.true_and
abbrev Lx:=@List.cons_append
abbrev D5:=@or_false
abbrev Yv:=@Array.getElem?_eq_getElem
abbrev Pm:=@Go.ownsRow_setCell_other
abbrev JH:=@Int.mul_nonneg
abbrev Lw:=@Go.run_equalIn_int
abbrev Pk:=@List.range_succ
abbrev Jq:=@List.mem_append
abbrev OI:=@List.mem_cons_self
abbrev Fg:=@Eq.trans
abbrev Rg:=@List.foldl_append
abbrev Ms:=@List.ext_getElem?
abbrev Pj:=@List.flatten_append
abbrev Ph:=@List.length_nil
abbrev Yu:=@List.mem_or_eq_of_mem_set
abbrev Rf:=@Array.getElem?_mapIdx
abbrev OH:=@Go.results_cell_row
abbrev Pg:=@Go.run_equalIn_struct
abbrev Pf:=@Go.run_equalIn_string
abbrev Pe:=@Nat.eq_zero_or_pos
abbrev Ks:=@Nat.ne_of_lt
abbrev UT:=@List.length_filterMap_le
abbrev Rc:=@List.mem_append_left
abbrev US:=@Go.BigFrame.wpList_want
abbrev Hn:=@if_false
abbrev Yt:=@Array.getElem?_append_right
abbrev JG:=@Go.mem_ready
abbrev Pc:=@List.take_length
abbrev Jo:=@Go.ready_mono
abbrev Ra:=@Go.World.size_setCell
abbrev RY:=@Array.ext_getElem?
abbrev OG:=@List.take_append_drop
abbrev Ys:=@Go.World.cell?_setCell_other
abbrev UR:=@List.drop_eq_getElem_cons
abbrev Jm:=@Nat.succ_mul
abbrev Pb:=@List.size_toArray
abbrev RX:=@List.getElem?_set
abbrev Yr:=@Go.IntWalk.wrap64_in
abbrev UQ:=@Array.replicate_zero
abbrev UO:=@Array.replicate_succ
abbrev eU:=@List.take_succ_eq_append_getElem
abbrev eT:=@Array.all_eq_true_iff_forall_mem
abbrev JF:=@Go.info_parts
abbrev OE:=@Go.callsD_of_wpS
abbrev Pa:=@List.all_cons
abbrev Yq:=@Array.setIfInBounds_comm
abbrev UN:=@List.append_toArray
abbrev PZ:=@Int.mul_le_mul
abbrev UM:=@Array.toList_map
abbrev eS:=@List.getElem?_replicate
abbrev Gt:=@dif_pos
abbrev Lv:=@Go.RowKit.Below.cell
abbrev RW:=@List.map_set
abbrev OD:=@List.map_nil
abbrev Yp:=@Go.MapKept.run_setObj_map
abbrev RV:=@Go.run_loadVar_mid
abbrev Kr:=@Nat.min_eq_left
abbrev RU:=@List.nodup_cons
abbrev RT:=@List.cons.injEq
abbrev Yo:=@List.set_append_right
abbrev Yn:=@List.length_singleton
abbrev sR:=@Array.getElem?_modify
abbrev UL:=@List.take_add_one
abbrev UK:=@List.push_toArray
abbrev OC:=@Go.setRow_self
abbrev OB:=@Go.leaves_cons
abbrev RS:=@Go.getD_set_ne
abbrev RQ:=@Go.run_neq_struct
abbrev Ym:=@Go.Region.noSelect_spec
abbrev PY:=@Nat.sub_self
abbrev RP:=@Go.Act.put_comm
abbrev N9:=@Go.wpList_store_mid
abbrev UJ:=@List.getElem_mem
abbrev Yl:=@Array.toList_inj
abbrev Yk:=@List.mem_map_of_mem
abbrev Yj:=@List.getElem_of_mem
abbrev Yi:=@Int.toNat_of_nonneg
abbrev eR:=@Option.isSome_iff_exists
abbrev Lu:=@dif_neg
abbrev N8:=@Go.wpS_region
abbrev Yh:=@decide_eq_true_iff
abbrev eQ:=@Option.bind_eq_some_iff
abbrev RN:=@Nat.zero_mul
abbrev UI:=@Go.IntWalk.u64_in
abbrev Yg:=@List.nodup_append
abbrev Yf:=@List.length_range
abbrev eP:=@Go.MapKept.run_getObj_map
abbrev N7:=@Go.wpS_of_wp
abbrev Ye:=@Go.wpList_store_row
abbrev Yd:=@Go.Region.free_spec
abbrev Yc:=@List.map_toArray
abbrev eO:=@List.getElem?_of_mem
abbrev Yb:=@Nat.not_lt_zero
abbrev Ya:=@List.foldl_cons
abbrev YZ:=@Bool.or_eq_true
abbrev YX:=@Bool.and_false
end Go.Proofs.YtpmpddfgifhlbaaGreatDoor
