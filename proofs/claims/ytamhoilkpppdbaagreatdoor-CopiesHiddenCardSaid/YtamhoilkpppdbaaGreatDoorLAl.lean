import Derived.WalkKit
import Derived.Lib.Hide
import Derived.BigQuiet
import Derived.Deep.RegionHeld3
import Derived.Deep.Cut
namespace Go.Proofs.YtamhoilkpppdbaaGreatDoor
open Go Go.RowKit
def AI(p:Prop):Prop:=p
theorem AI.o{p:Prop}(h:AI p):p:=h
theorem AF{p:Prop}(h:p):AI p:=h
theorem Al{p0 p1:Prop}(h0:p0)(h1:p1):AI p0/\AI p1:=⟨h0,h1⟩
theorem BB{p0 p1 p2:Prop}(h0:p0)(h1:p1)(h2:p2):AI p0/\AI p1/\AI p2:=⟨h0,h1,h2⟩
theorem CD{p0 p1 p2 p3:Prop}(h0:p0)(h1:p1)(h2:p2)(h3:p3):AI p0/\AI p1/\AI p2/\AI p3:=⟨h0,h1,h2,h3⟩
theorem Db{p0 p1 p2 p3 p4:Prop}(h0:p0)(h1:p1)(h2:p2)(h3:p3)(h4:p4):AI p0/\AI p1/\AI p2/\AI p3/\AI p4:=⟨h0,h1,h2,h3,h4⟩
theorem Fg{p0 p1 p2 p3 p4 p5:Prop}(h0:p0)(h1:p1)(h2:p2)(h3:p3)(h4:p4)(h5:p5):AI p0/\AI p1/\AI p2/\AI p3/\AI p4/\AI p5:=⟨h0,h1,h2,h3,h4,h5⟩
theorem LU{p0 p1 p2 p3 p4 p5 p6:Prop}(h0:p0)(h1:p1)(h2:p2)(h3:p3)(h4:p4)(h5:p5)(h6:p6):AI p0/\AI p1/\AI p2/\AI p3/\AI p4/\AI p5/\AI p6:=⟨h0,h1,h2,h3,h4,h5,h6⟩
theorem gy{p0 p1 p2 p3 p4 p5 p6 p7:Prop}(h0:p0)(h1:p1)(h2:p2)(h3:p3)(h4:p4)(h5:p5)(h6:p6)(h7:p7):AI p0/\AI p1/\AI p2/\AI p3/\AI p4/\AI p5/\AI p6/\AI p7:=⟨h0,h1,h2,h3,h4,h5,h6,h7⟩
theorem P4{p0 p1 p2 p3 p4 p5 p6 p7 p8:Prop}(h0:p0)(h1:p1)(h2:p2)(h3:p3)(h4:p4)(h5:p5)(h6:p6)(h7:p7)(h8:p8):AI p0/\AI p1/\AI p2/\AI p3/\AI p4/\AI p5/\AI p6/\AI p7/\AI p8:=⟨h0,h1,h2,h3,h4,h5,h6,h7,h8⟩
theorem dF{p0 p1 p2 p3 p4 p5 p6 p7 p8 p9:Prop}(h0:p0)(h1:p1)(h2:p2)(h3:p3)(h4:p4)(h5:p5)(h6:p6)(h7:p7)(h8:p8)(h9:p9):AI p0/\AI p1/\AI p2/\AI p3/\AI p4/\AI p5/\AI p6/\AI p7/\AI p8/\AI p9:=⟨h0,h1,h2,h3,h4,h5,h6,h7,h8,h9⟩
theorem wK{p0 p1 p2 p3 p4 p5 p6 p7 p8 p9 p10:Prop}(h0:p0)(h1:p1)(h2:p2)(h3:p3)(h4:p4)(h5:p5)(h6:p6)(h7:p7)(h8:p8)(h9:p9)(h10:p10):AI p0/\AI p1/\AI p2/\AI p3/\AI p4/\AI p5/\AI p6/\AI p7/\AI p8/\AI p9/\AI p10:=⟨h0,h1,h2,h3,h4,h5,h6,h7,h8,h9,h10⟩
theorem QX{p0 p1 p2 p3 p4 p5 p6 p7 p8 p9 p10 p11:Prop}(h0:p0)(h1:p1)(h2:p2)(h3:p3)(h4:p4)(h5:p5)(h6:p6)(h7:p7)(h8:p8)(h9:p9)(h10:p10)(h11:p11):AI p0/\AI p1/\AI p2/\AI p3/\AI p4/\AI p5/\AI p6/\AI p7/\AI p8/\AI p9/\AI p10/\AI p11:=⟨h0,h1,h2,h3,h4,h5,h6,h7,h8,h9,h10,h11⟩
abbrev AK(w w':World):Prop:=Below w.heap.size w w'
abbrev AQ:=List Int
theorem Ad{α:Sort _}(a:α):∃x,x=a:=⟨a,rfl⟩
theorem BR{α:Sort _}(a:α):∃x,a=x:=⟨a,rfl⟩
theorem AV{a b c:World}(h:Below a.heap.size a b)(k:Below b.heap.size b c):Below a.heap.size a c:=h.trans (k.mono h.size)
theorem BK(w:World)(o):Below w.heap.size w (w.alloc o):=(Below.refl _ _).alloc (Nat.le_refl _) _
theorem Bi{p:Prop}(h:p:=by have:=HQ.o;omega):p:=h
theorem Md{p:Prop}(h:p:=by exact ⟨0,Nat.zero_le _,rfl,rfl,HV.o,Below.refl _ _⟩):p:=h
theorem wJ{p:Prop}(h:p:=by obtain ⟨v0,rfl⟩:=JQ (c:=c0) (hf 0 _ 1 rfl rfl);obtain ⟨v1,rfl⟩:=JQ (c:=c1) (hf 1 _ 1 rfl rfl);obtain ⟨v2,w2,rfl⟩:=Ct (c:=c2) (hf 2 _ 1 rfl rfl);obtain ⟨v3,w3,rfl⟩:=Ct (c:=c3) (hf 3 _ 1 rfl rfl);obtain ⟨v4,w4,rfl⟩:=Ct (c:=c4) (hf 4 _ 1 rfl rfl);exact ⟨⟨v0,v1,v2,v3,v4⟩,rfl⟩):p:=h
theorem N3{p:Prop}(h:p:=by exact ⟨0,Nat.zero_le _,rfl,rfl,rfl,Below.refl _ _⟩):p:=h
theorem Y4{p:Prop}(h:p:=by exact ⟨k+1,by omega,rfl,by go_num,by rw [he,HT.o],by rw [he];exact Ht.o,HB3.o⟩):p:=h
theorem XR{p:Prop}(h:p:=by go_wp2;go_ret;exact ⟨⟨_,rfl,by rw [Jy HX.o HP.o];simp⟩,HB1.o⟩):p:=h
theorem nz{p:Prop}(h:p:=by have E3:=AF e3;go_wp2;go_ret;refine ⟨A8 ?_,AV BJ.o CH.o⟩;exact (decide_eq_false (fun h=>E3.o (by rw [h]))).symm):p:=h
theorem ny{p:Prop}(h:p:=by have E2:=AF e2;go_wp2;go_ret;refine ⟨A8 ?_,AV BJ.o CH.o⟩;exact (decide_eq_false (fun h=>E2.o (by rw [h]))).symm):p:=h
theorem nx{p:Prop}(h:p:=by go_ret;refine ⟨v',cs,rfl,hcs,?_,(BK _ _).grown hgr (by simp) (by simp [Value.ownBlock])⟩;rw [<-HLEN.o];simpa using hown):p:=h
theorem Ux{p:Prop}(h:p:=by exact ⟨0,Nat.zero_le _,rfl,rfl,rfl,Mh.o,HB0.o⟩):p:=h
theorem Ej{p:Prop}(h:p:=by have:=HG.o;omega):p:=h
theorem ABD{p:Prop}(h:p:=by exact ⟨I5 rs k,FG rs k,[],k+1,(Qs rs k).symm,QR rs k,zb.o,ag.o,j9,fun y hy=>V3 hy,by rw [Qs];simp,by rw [Qs];omega,(ABj rs k).symm,zk.o⟩):p:=h
theorem ABB{p:Prop}(h:p:=by simp only [ho,hx,Instr.loadAt,Instr.sureAddr,Sem.run_bind,Sem.run_pure,Result.andThen_ok,run_loadVar_row w g t ty (yA d) (0,0) ds hg hu hds (by rw [CJ,hd];exact hi)];exact hK _ _ h):p:=h
theorem SZ{p:Prop}(h:p:=by exfalso;injection h with _ h;omega):p:=h
theorem nw{p:Prop}(h:p:=by exact ⟨0,[],cs1,Nat.zero_le _,rfl,rfl,rfl,HG2.o,Jz.o,HI2.o,J7.o⟩):p:=h
theorem ABA{p:Prop}(h:p:=by exact ⟨0,o,h1,Nat.zero_le _,rfl,rfl,rfl,HOL.o,HS2.o,HJ2.o,jD.o,AJP.o,Nat.le_refl _,fun c hc=>by have:=Mj.o c hc;simp;omega⟩):p:=h
theorem nu{p:Prop}(h:p:=by refine .inr ⟨_,rfl,?_⟩;refine JN.o _ _ _ ?_ hS5 T8.o;kernel_rfl):p:=h
theorem AA9{p:Prop}(h:p:=by have E1:=AF e1;go_wp2;go_ret;refine ⟨A8 ?_,AV BJ.o CH.o⟩;exact (decide_eq_false (fun h=>E1.o (by rw [h]))).symm):p:=h
theorem MJ{p:Prop}(h:p:=by have:=Ks.o;omega):p:=h
theorem AA8{p:Prop}(h:p:=by refine ⟨0,Nat.zero_le _,rfl,rfl,?_,Pf.o,lW.o,Yz.o⟩;have:=fN.o;simpa [I5] using this):p:=h
theorem nr{p:Prop}(h:p:=by exact (HB.o.mono (by omega)).setCell (by exact hb) _):p:=h
theorem nk{p:Prop}(h:p:=by exact ⟨0,Nat.zero_le _,rfl,rfl,Below.refl _ _⟩):p:=h
theorem nj{p:Prop}(h:p:=by exact .inr ⟨ch,rfl,rfl,.inr ⟨ch,rfl,bd⟩⟩):p:=h
theorem dE{p:Prop}(h:p:=by simp only [List.length_cons];omega):p:=h
theorem SY{p:Prop}(h:p:=by exact ⟨_,_,_,rfl⟩):p:=h
theorem AA7{p:Prop}(h:p:=by simp only [ho,hx,Sem.run_bind,Sem.run_pure,h,Result.andThen_ok];exact hK _ _ hk):p:=h
theorem dD{p:Prop}(h:p:=by have:=HQ.o;have:=LJ.o;omega):p:=h
theorem AA6{p:Prop}(h:p:=by rw [upto_take hlt];exact Ap.append (QH PZ.o) (QH hc5)):p:=h
theorem AA5{p:Prop}(h:p:=by exact ⟨⟨_,rfl⟩,by rw [<-RU.o,HU.o];exact HQ.o,Vp.o⟩):p:=h
theorem SX{p:Prop}(h:p:=by unfold maxLen;omega):p:=h
theorem AA4{p:Prop}(h:p:=by simp only [List.length_append,List.length_cons,List.length_nil];omega):p:=h
theorem LO{p:Prop}(h:p:=by exact AFE):p:=h
theorem nh{p:Prop}(h:p:=by go_ret;exact ⟨⟨_,rfl⟩,HB.o⟩):p:=h
theorem AA3{p:Prop}(h:p:=by exact (h.els.mono hR hb).append ((Ap.one hnl hx).mono hR hb)):p:=h
theorem AA2{p:Prop}(h:p:=by have:=HBD.o;rw [Cw (by omega) Dl.o,hke];exact this):p:=h
theorem AA1{p:Prop}(h:p:=by go_ret;exact ⟨DG (by rw [HE.o];simp [hc]),HB.o⟩):p:=h
theorem AA0{p:Prop}(h:p:=by rw [e] at this;rw [this,jb H (l:=l) (by omega)];rfl):p:=h
theorem AAz{p:Prop}(h:p:=by exact ⟨0,Nat.zero_le _,rfl,rfl,HV.o,Mh.o,HB0.o⟩):p:=h
theorem AJ{p:Prop}(h:p:=by kernel_rfl):p:=h
theorem AG{p:Prop}(h:p:=by omega):p:=h
theorem An{p:Prop}(h:p:=by exact fun _ _ _ _ _ h=>h):p:=h
theorem B8{p:Prop}(h:p:=by intro W hW;obtain ⟨e1,e2,e3⟩:=HC2.o W hW;(go_simp) <;> rfl):p:=h
theorem GZ{p:Prop}(h:p:=by intro W hW;obtain ⟨⟨a0,a1,a2,a3⟩,⟨a36,a37,a38,a71⟩,⟨r0,r1,r2,r5⟩,_⟩:=Dz.o W hW;rw [lX.o] at a2;have t2:=(HD.o W hW).2.2.1;have t4:=HE4.o W hW;(go_simp) <;> rfl):p:=h
theorem AZ{p:Prop}(h:p:=by simp):p:=h
theorem Hz{p:Prop}(h:p:=by intro W hW;obtain ⟨⟨a0,a1,a2,a3⟩,⟨a36,a37,a38⟩,r0,r1,r2,r5⟩:=Dz.o W hW;rw [lX.o] at a2;have t2:=(HD.o W hW).2.2.1;(go_simp) <;> rfl):p:=h
theorem Hy{p:Prop}(h:p:=by intro W hW;obtain ⟨⟨r0,r1,r2,r5⟩,Sp,⟨i0,i3⟩,_⟩:=HCM.o W hW;rw [rD.o] at r2;have t2:=(HTM.o W hW).2.2.1;(go_simp) <;> rfl):p:=h
theorem Ai{p:Prop}(h:p:=by decide):p:=h
theorem Np{p:Prop}(h:p:=by intro W hW;have hW4:=AV CW.o hW;obtain ⟨⟨a0,a1,a2,a3⟩,⟨a36,a37,a38,a71⟩,⟨r0,r1,r2,r5⟩,_⟩:=Dz.o W hW4;rw [lX.o] at a2;obtain ⟨t0,t1,t2,t3,t4,t5,t6⟩:=HD.o W hW4;have eu:=HEU.o W hW;(go_simp) <;> rfl):p:=h
theorem Bd{p:Prop}(h:p:=by simp;omega):p:=h
theorem EN{p:Prop}(h:p:=by exact fun _ _ _ _ h=>by cases h.1):p:=h
theorem Fl{p:Prop}(h:p:=by exact fun _ _ h=>⟨h.1,h.2.symm⟩):p:=h
theorem FT{p:Prop}(h:p:=by intro e;injection e with e;omega):p:=h
theorem MI{p:Prop}(h:p:=by intro W hW;obtain ⟨e1,e2,e3⟩:=HS9.o W hW;(go_simp) <;> rfl):p:=h
theorem Nn{p:Prop}(h:p:=by intro W hW;obtain ⟨c1,c2,c3,c4⟩:=HC.o W hW;(go_simp) <;> rfl):p:=h
theorem GV{p:Prop}(h:p:=by intro W hW;(go_simp) <;> rfl):p:=h
theorem EY{p:Prop}(h:p:=by simp [CJ,zeros]):p:=h
theorem Nm{p:Prop}(h:p:=by intro W hW;obtain ⟨e1,e2,e3⟩:=lV.o W hW;(go_simp) <;> rfl):p:=h
theorem MH{p:Prop}(h:p:=by first | assumption | (go_split_ands;assumption)):p:=h
theorem Gx{p:Prop}(h:p:=by unfold maxLen;omega):p:=h
theorem Iw{p:Prop}(h:p:=by exact fun _ _ _ _ h=>h):p:=h
theorem SV{p:Prop}(h:p:=by intro W hW;obtain ⟨e1,e2⟩:=HS8.o W hW;(go_simp) <;> rfl):p:=h
theorem SR{p:Prop}(h:p:=by rw [params4];rfl):p:=h
theorem Jm{p:Prop}(h:p:=by have:=Ll.o;omega):p:=h
theorem Uh{p:Prop}(h:p:=by rw [hRR,rdA,Array.size_append,CJ,hro];kernel_rfl):p:=h
theorem MG{p:Prop}(h:p:=by have:=ze.o;omega):p:=h
theorem LN{p:Prop}(h:p:=by simp [Made.depth]):p:=h
theorem DR{p:Prop}(h:p:=by rfl):p:=h
theorem Ow{p:Prop}(h:p:=by simp [Value.ownBlock];omega):p:=h
theorem MF{p:Prop}(h:p:=by have:=HN.o;omega):p:=h
theorem Qm{p:Prop}(h:p:=by have:=DK.o.size;simp;omega):p:=h
theorem Nl{p:Prop}(h:p:=by simp [Value.ownBlock]):p:=h
theorem Ql{p:Prop}(h:p:=by rw [List.length_take];omega):p:=h
theorem F9{p:Prop}(h:p:=by rw [h]):p:=h
theorem ng{p:Prop}(h:p:=by unfold Fj;rw [dif_neg];rintro ⟨_,h⟩;rw [HJ.o] at h;exact absurd h (of_decide_eq_false EJ.o)):p:=h
theorem XQ{p:Prop}(h:p:=by have:=HB2.o.size;simp;omega):p:=h
theorem Ug{p:Prop}(h:p:=by simp [GT,zeros,HI2.o] <;> omega):p:=h
theorem nZ{p:Prop}(h:p:=by rw [hRR,rdA];refine ⟨?_,?_,?_,?_⟩ <;> (rw [Array.getElem?_append_left (by simp)];rfl)):p:=h
theorem Ov{p:Prop}(h:p:=by have:=H5.o;omega):p:=h
theorem Qk{p:Prop}(h:p:=by rw [h] at hr;cases hr):p:=h
theorem AAy{p:Prop}(h:p:=by rw [List.getElem?_set_self hkl]):p:=h
theorem AAx{p:Prop}(h:p:=by rw [hwt];exact vE (cs:=[.int .i64 yk,.int .i64 yl,.int .i64 yh,.string yf,.int .i64 yu,.slice B m' d']) (t:=109) (Dk (by simp)) rfl ⟨B,m',d',rfl,HS.o⟩):p:=h
theorem dC{p:Prop}(h:p:=by show w.heap.size+1≠wa.heap.size;have:=Ye.o;omega):p:=h
theorem dB{p:Prop}(h:p:=by show w.heap.size<=wa.heap.size;have:=Ye.o;omega):p:=h
theorem Qj{p:Prop}(h:p:=by rw [eP];kernel_rfl):p:=h
theorem nY{p:Prop}(h:p:=by intro W hW;obtain ⟨a0,a1,a2,a3,a4,a5,a6⟩:=HD.o W hW;(go_simp) <;> rfl):p:=h
theorem Qi{p:Prop}(h:p:=by simp [Value.oneCell']):p:=h
theorem cz{p:Prop}(h:p:=by show 0<=(x:Int)+4+1/\(x:Int)+4+1<=1000;omega):p:=h
theorem SQ{p:Prop}(h:p:=by have:=HLEN.o;omega):p:=h
theorem SP{p:Prop}(h:p:=by have:=TI.o;omega):p:=h
theorem SN{p:Prop}(h:p:=by have:=Ye.o;omega):p:=h
theorem cx{p:Prop}(h:p:=by show 0<=(x:Int)+4/\(x:Int)+4<=1000;omega):p:=h
theorem nX{p:Prop}(h:p:=by show FI q.schema;rw [lX.o];unfold FI;have:=HS.o.le;omega):p:=h
theorem XP{p:Prop}(h:p:=by rw [El];exact hown2):p:=h
theorem cw{p:Prop}(h:p:=by show w.heap.size<=w.heap.size+1+1;omega):p:=h
theorem AAw{p:Prop}(h:p:=by unfold Func.isWrapper;first | (rw [if_pos (by decide +kernel)];kernel_rfl) | (rw [if_neg (by decide +kernel)];exact ⟨rfl,rfl⟩)):p:=h
theorem U6{p:Prop}(h:p:=by have:=HB.o.size;simp;omega):p:=h
theorem U5{p:Prop}(h:p:=by rw [List.length_drop];omega):p:=h
theorem LS{p:Prop}(h:p:=by simp [go_sem]):p:=h
theorem gx{p:Prop}(h:p:=by rw [params5];rfl):p:=h
theorem U4{p:Prop}(h:p:=by rw [hD];exact DN _ _):p:=h
theorem Kg{p:Prop}(h:p:=by rw [e]):p:=h
theorem gq{p:Prop}(h:p:=by decide +kernel):p:=h
theorem P3{p:Prop}(h:p:=by exact Tz.o):p:=h
theorem P2{p:Prop}(h:p:=by exact PV.o):p:=h
theorem uq{p:Prop}(h:p:=by rw [hY,hG,hbase];exact ⟨.slice none 0 0,AY.new _ _ _,World.ownsRow_nil _ _ _ _,by omega,by simp⟩):p:=h
theorem Zf{p:Prop}(h:p:=by rw [IE];exact DN _ _):p:=h
theorem SE{p:Prop}(h:p:=by simpa using hkl):p:=h
theorem Ze{p:Prop}(h:p:=by show w.heap.size+1 < _;omega):p:=h
theorem gp{p:Prop}(h:p:=by rw [EM,EM];exact Nat.le_refl _):p:=h
theorem SC{p:Prop}(h:p:=by simp [aU.o]):p:=h
theorem um{p:Prop}(h:p:=by rw [hwt];exact (HB2.o.alloc HB2.o.size _).alloc (by have:=HB2.o.size;simp;omega) _):p:=h
theorem uk{p:Prop}(h:p:=by have:chunk _ 11 k=_:=h1.chunk (i:=k) (by rw [List.getElem?_set_self hkl]);rw [this];rfl):p:=h
theorem U3{p:Prop}(h:p:=by have:=HZ.o;omega):p:=h
theorem gj{p:Prop}(h:p:=by intro W hW;rw [<-hmul];(go_simp) <;> rfl):p:=h
theorem uj{p:Prop}(h:p:=by have:chunk _ 5 k=_:=h1.chunk (i:=k) (by rw [List.getElem?_set_self hkl]);rw [this];rfl):p:=h
theorem gg{p:Prop}(h:p:=by unfold chunk;rw [List.length_take];omega):p:=h
theorem Zd{p:Prop}(h:p:=by rw [ET.o];simp [zeros]):p:=h
theorem gZ{p:Prop}(h:p:=by intro W hW;rw [<-hva];(go_simp) <;> rfl):p:=h
theorem gY{p:Prop}(h:p:=by show 0<=q.place/\q.place<=1000;omega):p:=h
theorem ui{p:Prop}(h:p:=by simp [results,results51,go_sem,x0,x1,x2,x3,x4,x5,x6]):p:=h
theorem gX{p:Prop}(h:p:=by show w.heap.size<=w.heap.size+1;omega):p:=h
theorem U0{p:Prop}(h:p:=by simpa using yR):p:=h
theorem Uz{p:Prop}(h:p:=by simp [hh];omega):p:=h
theorem gW{p:Prop}(h:p:=by rw [EM];exact Nat.le_refl _):p:=h
theorem gV{p:Prop}(h:p:=by rw [hSS];exact SF rfl rfl rfl):p:=h
theorem Uy{p:Prop}(h:p:=by rw [<-ht];rfl):p:=h
theorem uh{p:Prop}(h:p:=by simp [results,results65,go_sem]):p:=h
theorem Zc{p:Prop}(h:p:=by rw [QR];omega):p:=h
theorem Zb{p:Prop}(h:p:=by have:=Hc.o;omega):p:=h
theorem Za{p:Prop}(h:p:=by have:=MQ.o;omega):p:=h
theorem ZY{p:Prop}(h:p:=by have:=Ih.o;omega):p:=h
theorem SB{p:Prop}(h:p:=by exact hb1):p:=h
theorem SA{p:Prop}(h:p:=by simp [hh]):p:=h
theorem gU{p:Prop}(h:p:=by rw [<-hfi] at h1 h2 ⊢;omega):p:=h
theorem ug{p:Prop}(h:p:=by rw [Ku,if_pos HT.o,vL,<-Lg.o,<-Ii.o];rfl):p:=h
theorem ZX{p:Prop}(h:p:=by simp [hh,ht];omega):p:=h
theorem gT{p:Prop}(h:p:=by have:=HB1.o.size;simp;omega):p:=h
theorem gS{p:Prop}(h:p:=by rw [UZ.o];exact Yl.o):p:=h
theorem uf{p:Prop}(h:p:=by unfold Zk;rw [Ij.o];simp only [HX.o];rw [jP.o]):p:=h
theorem ud{p:Prop}(h:p:=by rw [hwc];exact below_drewN ((BK _ _).alloc (by simp) _) 1):p:=h
theorem ua{p:Prop}(h:p:=by rw [List.length_reverse,jd H _ _ _ (Nat.le_refl _),e]):p:=h
theorem uZ{p:Prop}(h:p:=by rw [CJ,Vw Mi.o (Nat.le_refl _)];exact HI2.o):p:=h
theorem gR{p:Prop}(h:p:=by cases v.ownBlock <;> simp):p:=h
theorem ZW{p:Prop}(h:p:=by simpa using Qy):p:=h
theorem uY{p:Prop}(h:p:=by rw [k.cell];exact Array.getElem?_eq_getElem (by omega)):p:=h
theorem uX{p:Prop}(h:p:=by rw [<-hx];exact getD_mem (by rw [Qd];omega)):p:=h
theorem gQ{p:Prop}(h:p:=by rw [CJ,hd];exact hi):p:=h
theorem gP{p:Prop}(h:p:=by rw [Oz];exact hk):p:=h
theorem ZV{p:Prop}(h:p:=by rw [hrec];simp):p:=h
theorem gO{p:Prop}(h:p:=by rw [El];omega):p:=h
theorem uW{p:Prop}(h:p:=by unfold QM;rw [ah.o];simp only;rw [htp];rfl):p:=h
theorem uV{p:Prop}(h:p:=by show w.heap.size<=w.heap.size+1+1+1+1+1+1+1;omega):p:=h
theorem uU{p:Prop}(h:p:=by rw [List.getElem?_zip_eq_some];exact ⟨h1,h2⟩):p:=h
theorem gN{p:Prop}(h:p:=by rw [hrec];exact hps x):p:=h
theorem uT{p:Prop}(h:p:=by rw [show x=_ from hG];exact NV _ HL.o):p:=h
theorem uS{p:Prop}(h:p:=by have:chunk cs 11 k=_:=h.chunk hk;rw [this];rfl):p:=h
theorem uR{p:Prop}(h:p:=by show (_:Nat)≠w.heap.size+1+1+1+1+1+1+1;omega):p:=h
theorem uQ{p:Prop}(h:p:=by have:chunk cs 5 k=_:=h.chunk hk;rw [this];rfl):p:=h
theorem uP{p:Prop}(h:p:=by have:chunk cs 4 k=_:=h.chunk hk;rw [this];rfl):p:=h
theorem uO{p:Prop}(h:p:=by have:chunk cs 8 k=_:=h.chunk hk;rw [this];rfl):p:=h
theorem uN{p:Prop}(h:p:=by have:chunk cs 7 k=_:=h.chunk hk;rw [this];rfl):p:=h
theorem gM{p:Prop}(h:p:=by rw [CJ,Pj.o]):p:=h
theorem uM{p:Prop}(h:p:=by unfold fieldStep;rw [if_pos wA.o,hix];rfl):p:=h
theorem gL{p:Prop}(h:p:=by have:=Cd.o;omega):p:=h
theorem gK{p:Prop}(h:p:=by have:=qw.o;omega):p:=h
theorem gJ{p:Prop}(h:p:=by have:=Lg.o;omega):p:=h
theorem gI{p:Prop}(h:p:=by have:=HN4.o;omega):p:=h
theorem gH{p:Prop}(h:p:=by have:=XG.o;omega):p:=h
theorem gG{p:Prop}(h:p:=by have:=HN6.o;omega):p:=h
theorem gF{p:Prop}(h:p:=by have:=aV.o;omega):p:=h
theorem uL{p:Prop}(h:p:=by intro e;have:=(HO.o.lt _ e.symm).2;omega):p:=h
theorem uK{p:Prop}(h:p:=by show w.heap.size<=w.heap.size+1+1+1;omega):p:=h
theorem uJ{p:Prop}(h:p:=by rw [hwi];exact HB.o.alloc HB.o.size _):p:=h
theorem gE{p:Prop}(h:p:=by rw [hs];exact hold):p:=h
theorem gD{p:Prop}(h:p:=by simp [Act.eval,hx]):p:=h
theorem uI{p:Prop}(h:p:=by rw [hY];exact HX.o.alloc HX.o.size _):p:=h
theorem uH{p:Prop}(h:p:=by rw [hwt];exact (Jz.o.alloc _).alloc _):p:=h
theorem uG{p:Prop}(h:p:=by show w.heap.size < w.heap.size+1+1;omega):p:=h
theorem uF{p:Prop}(h:p:=by unfold GJ;rw [<-hke2];exact UY.o):p:=h
theorem uE{p:Prop}(h:p:=by rw [<-HR.o,<-aV.o];exact MO.o):p:=h
theorem gC{p:Prop}(h:p:=by show lb < _;omega):p:=h
theorem uD{p:Prop}(h:p:=by have:=XE.o;unfold LZ at this;omega):p:=h
theorem uC{p:Prop}(h:p:=by show w.heap.size≠w.heap.size+1;omega):p:=h
theorem uB{p:Prop}(h:p:=by rw [Cw (by omega) Dl.o,hke]):p:=h
theorem t9{p:Prop}(h:p:=by unfold GJ;rw [<-hke];exact Dl.o):p:=h
theorem ft{p:Prop}(h:p:=by rw [hs];exact hi):p:=h
theorem t8{p:Prop}(h:p:=by intro e;have:=(HO.o.lt _ e).2;omega):p:=h
theorem t7{p:Prop}(h:p:=by have:=XD.o;have:=H4.o;simp;omega):p:=h
theorem tx{p:Prop}(h:p:=by unfold Ba;rw [if_pos hk0];exact hx):p:=h
theorem tw{p:Prop}(h:p:=by show (_:Nat)≠w.heap.size+1+1;omega):p:=h
theorem tr{p:Prop}(h:p:=by simp only [List.length_cons];omega):p:=h
theorem tq{p:Prop}(h:p:=by rw [List.length_set,HI2.o];omega):p:=h
theorem tp{p:Prop}(h:p:=by rw [List.getElem?_map,BJ.o];rfl):p:=h
theorem tg{p:Prop}(h:p:=by rw [hC2];exact QN rfl rfl rfl):p:=h
theorem td{p:Prop}(h:p:=by have:=lh.o;have:=MQ.o;omega):p:=h
theorem tZ{p:Prop}(h:p:=by rw [vQ,HSL.o];exact HI.o):p:=h
theorem tY{p:Prop}(h:p:=by rw [IX];exact Nat.le_refl _):p:=h
abbrev Ao:=@List.getElem?_cons_zero
abbrev Ac:=@Nat.le_refl
abbrev Aj:=@List.getElem?_toArray
abbrev Af:=@Go.RowKit.Below.refl
abbrev BA:=@List.getElem?_cons_succ
abbrev BF:=@List.getElem?_eq_some_iff
abbrev Av:=@Nat.lt_of_lt_of_le
abbrev BN:=@List.getElem?_eq_getElem
abbrev Ay:=@Nat.zero_le
abbrev BS:=@decide_eq_false
abbrev BH:=@Nat.le_trans
abbrev Bg:=@List.getElem?_map
abbrev Ji:=@Nat.add_assoc
abbrev Bk:=@decide_eq_true
abbrev Ck:=@List.getD_eq_getElem?_getD
abbrev Bb:=@Bool.and_eq_true
abbrev Cj:=@List.getElem?_append_right
abbrev DF:=@Array.getElem?_eq_some_iff
abbrev Ah:=@if_neg
abbrev Be:=@Go.run_part_plain
abbrev Bz:=@Option.some.injEq
abbrev Cr:=@List.mem_of_getElem?
abbrev C7:=@List.take_of_length_le
abbrev CX:=@List.length_append
abbrev By:=@decide_eq_true_eq
abbrev Ak:=@if_pos
abbrev CZ:=@List.set_cons_zero
abbrev Ci:=@Go.wpList_load_row
abbrev EC:=@Option.map_eq_some_iff
abbrev Ch:=@List.set_cons_succ
abbrev Cq:=@Int.toNat_natCast
abbrev EB:=@List.getElem?_append_left
abbrev Ce:=@Option.getD_some
abbrev Dh:=@List.getElem?_eq_none
abbrev Ca:=@Go.IntWalk.i64_in
abbrev CY:=@List.length_map
abbrev Cu:=@Go.World.grownBy.refl
abbrev B0:=@List.mem_cons
abbrev Df:=@List.length_take
abbrev Hg:=@List.getElem?_set_self
abbrev C6:=@Option.map_some
abbrev FQ:=@List.drop_of_length_le
abbrev Cp:=@Go.Sem.run_bind
abbrev FO:=@Go.RowKit.ownsRow_setCell_below
abbrev Jh:=@List.eq_nil_of_length_eq_zero
abbrev DY:=@List.map_append
abbrev Ef:=@Go.World.ownsRow_nil
abbrev D8:=@Go.World.grownBy_alloc
abbrev EO:=@List.getElem?_drop
abbrev C5:=@Go.RowKit.Below.heap_setCell
abbrev JA:=@List.getElem?_zip_eq_some
abbrev Uw:=@Go.run_underlying
abbrev Kf:=@List.setIfInBounds_toArray
abbrev DM:=@List.all_eq_true
abbrev F6:=@List.length_cons
abbrev DL:=@Go.Sem.run_pure
abbrev D7:=@List.length_set
abbrev Ff:=@List.take_succ_cons
abbrev DX:=@List.not_mem_nil
abbrev Ev:=@Go.World.size_alloc
abbrev Ge:=@Option.isSome_some
abbrev F5:=@List.mem_singleton
abbrev FN:=@Go.bodyPost_ret
abbrev FM:=@List.append_nil
abbrev Jg:=@List.getElem?_take_of_lt
abbrev NM:=@Array.getElem?_eq_none
abbrev IV:=@Option.isSome_none
abbrev IU:=@Bool.false_eq_true
abbrev F4:=@of_decide_eq_true
abbrev Eu:=@List.mem_range
abbrev IQ:=@List.length_drop
abbrev Dr:=@List.mem_map
abbrev P1:=@Array.getElem?_append_left
abbrev Jf:=@List.getElem?_set_ne
abbrev Fe:=@List.take_zero
abbrev Je:=@List.drop_succ_cons
abbrev Ee:=@Nat.add_zero
abbrev Et:=@Nat.le_succ
abbrev FL:=@Nat.lt_or_ge
abbrev NL:=@Go.run_loadVar_row
abbrev FK:=@Go.callsIn_wide
abbrev Fz:=@List.map_cons
abbrev Ke:=@Go.World.cell?_of_block
abbrev I9:=@Nat.lt_succ_self
abbrev P0:=@Int.mul_le_mul_of_nonneg_right
abbrev DE:=@Option.some.inj
abbrev NK:=@decide_eq_false_iff_not
abbrev Gd:=@Prod.mk.injEq
abbrev R9:=@Array.getElem?_setIfInBounds
abbrev Es:=@Nat.zero_add
abbrev IL:=@List.set_set
abbrev IK:=@List.drop_zero
abbrev Gc:=@List.append_assoc
abbrev Fc:=@Go.wpStill_nil
abbrev Ed:=@Go.wpAnyH_done
abbrev NJ:=@Bool.and_eq_false_iff
abbrev C4:=@if_true
abbrev MV:=@List.getElem?_range
abbrev Hf:=@beq_false_of_ne
abbrev Jd:=@Option.map_none
abbrev D6:=@Go.wpIn_wide
abbrev Kd:=@Option.getD_none
abbrev Kc:=@List.drop_length
abbrev Kb:=@Nat.mul_le_mul_right
abbrev NI:=@List.mem_cons_of_mem
abbrev Gb:=@Go.setRow_other
abbrev IJ:=@List.nil_append
abbrev LR:=@Go.RowKit.Below.heap_alloc
abbrev NH:=@List.filterMap_cons
abbrev OZ:=@List.filterMap_append
abbrev OY:=@Array.size_append
abbrev Ga:=@Nat.mul_one
abbrev R8:=@of_decide_eq_false
abbrev NG:=@List.filterMap_nil
abbrev Jc:=@Bool.true_and
abbrev MU:=@List.cons_append
abbrev DW:=@or_false
abbrev ZU:=@Array.getElem?_eq_getElem
abbrev Pz:=@Go.ownsRow_setCell_other
abbrev LQ:=@Int.mul_nonneg
abbrev MT:=@Go.run_equalIn_int
abbrev Py:=@List.range_succ
abbrev Ka:=@List.mem_append
abbrev OX:=@List.mem_cons_self
abbrev Er:=@Eq.trans
abbrev R7:=@List.foldl_append
abbrev OW:=@List.ext_getElem?
abbrev Px:=@List.flatten_append
abbrev Pw:=@List.length_nil
abbrev ZT:=@List.mem_or_eq_of_mem_set
abbrev R6:=@Array.getElem?_mapIdx
abbrev OV:=@Go.results_cell_row
abbrev Pv:=@Go.run_equalIn_struct
abbrev Pu:=@Go.run_equalIn_string
abbrev Pt:=@Nat.eq_zero_or_pos
abbrev LP:=@Nat.ne_of_lt
abbrev Uv:=@List.length_filterMap_le
abbrev R5:=@List.mem_append_left
abbrev Uu:=@Go.BigFrame.wpList_want
abbrev He:=@if_false
abbrev fq:=@Array.getElem?_append_right
abbrev Jb:=@Go.mem_ready
abbrev Ps:=@List.take_length
abbrev KU:=@Go.ready_mono
abbrev R4:=@Go.World.size_setCell
abbrev R3:=@Array.ext_getElem?
abbrev OU:=@List.take_append_drop
abbrev ZS:=@Go.World.cell?_setCell_other
abbrev Ut:=@List.drop_eq_getElem_cons
abbrev KQ:=@Nat.succ_mul
abbrev ZR:=@Go.World.cells?_some
abbrev R2:=@List.size_toArray
abbrev OT:=@List.getElem?_set
abbrev Pr:=@Go.IntWalk.wrap64_in
abbrev Us:=@Array.replicate_zero
abbrev Ur:=@Array.replicate_succ
abbrev fh:=@List.take_succ_eq_append_getElem
abbrev fd:=@Array.all_eq_true_iff_forall_mem
abbrev I8:=@Go.info_parts
abbrev OS:=@Go.callsD_of_wpS
abbrev Pp:=@List.all_cons
abbrev ZQ:=@Array.setIfInBounds_comm
abbrev Uq:=@List.append_toArray
abbrev Po:=@Int.mul_le_mul
abbrev Up:=@Array.toList_map
abbrev fZ:=@List.getElem?_replicate
abbrev Hd:=@dif_pos
abbrev MS:=@Go.RowKit.Below.cell
abbrev R0:=@List.map_set
abbrev NF:=@List.map_nil
abbrev ZP:=@Go.MapKept.run_setObj_map
abbrev Rz:=@Go.run_loadVar_mid
abbrev NE:=@Nat.min_eq_left
abbrev Ry:=@List.nodup_cons
abbrev Rx:=@List.cons.injEq
abbrev ZO:=@List.set_append_right
abbrev ZN:=@List.length_singleton
abbrev tX:=@Array.getElem?_modify
abbrev Pn:=@List.take_add_one
abbrev Uo:=@List.push_toArray
abbrev OQ:=@Go.setRow_self
abbrev OP:=@Go.leaves_cons
abbrev Rw:=@Go.getD_set_ne
abbrev Rv:=@Go.run_neq_struct
abbrev ZM:=@Go.Region.noSelect_spec
abbrev Pm:=@Nat.sub_self
abbrev Pk:=@Go.Act.put_comm
abbrev Un:=@Go.wpList_store_mid
abbrev Um:=@List.getElem_mem
abbrev ZL:=@Array.toList_inj
abbrev ZK:=@List.mem_map_of_mem
abbrev ZJ:=@List.getElem_of_mem
abbrev Ul:=@Int.toNat_of_nonneg
abbrev fY:=@Option.isSome_iff_exists
abbrev MR:=@dif_neg
abbrev OM:=@Go.wpS_region
abbrev ZI:=@decide_eq_true_iff
abbrev ZH:=@Option.bind_eq_some_iff
abbrev Ru:=@Nat.zero_mul
abbrev Uk:=@Go.IntWalk.u64_in
abbrev ZG:=@List.nodup_append
abbrev ZF:=@List.length_range
abbrev fX:=@Go.MapKept.run_getObj_map
abbrev OL:=@Go.wpS_of_wp
abbrev ZE:=@Go.wpList_store_row
abbrev ZD:=@Go.Region.free_spec
abbrev Uj:=@List.map_toArray
abbrev Y9:=@List.getElem?_of_mem
abbrev Y8:=@Nat.not_lt_zero
abbrev Y7:=@List.foldl_cons
abbrev Y6:=@Bool.or_eq_true
abbrev Y5:=@Bool.and_false
abbrev Ui:=@Go.World.ownsRow_lit
end Go.Proofs.YtamhoilkpppdbaaGreatDoor
