import Derived.Test.YtamhoilkpppdbaaGreatDoorLCpOr
namespace Go.Proofs.YtamhoilkpppdbaaGreatDoor
set_option maxHeartbeats 8000000
set_option maxRecDepth 100000
open Go renaming World→AH, Value→AN, Calls→AS, TypeId→Ae, Addr→Aa
open Go.Proofs.Tryz
open Go.Value renaming slice→AA, int→AB, pointer→AU, agg→AP
open Go.IntKind renaming i64→AE
open Go.Ending renaming returned→AW
open Go.Obj renaming cells→AO
open Go.Operand renaming tmp→AX
open Go.RowKit Go.Shelf
attribute [local go_sem] Oper.semAt_some
theorem sH (w:AH) (A B C:Array AN) (T1 T2 T3:Ae):∃w',w'=(((w.alloc (AO A T1)).alloc (AO B T2)).alloc (AO C T3))/\AY w' w.heap.size T1 A/\AY w' (w.heap.size+1) T2 B/\AY w' (w.heap.size+1+1) T3 C/\AK w w'/\w'.heap.size=w.heap.size+1+1+1:=by obtain ⟨k1,b1,s1⟩:=bx w A T1;obtain ⟨k2,b2,s2⟩:=bx (w.alloc (AO A T1)) B T2;rw [s1] at k2 b2 s2;obtain ⟨k3,b3,s3⟩:=bx ((w.alloc (AO A T1)).alloc (AO B T2)) C T3;rw [s2] at k3 b3 s3;exact ⟨_,rfl,(k1.below b2 AG).below b3 AG,k2.below b3 AG,k3,(b1.trans (b2.mono AG)).trans (b3.mono AG),s3⟩
theorem YW {a w w0:AH} {e:Ae} {sz:Nat} {v:AN} {n:Nat} {cs:List AN} (ho:a.ownsRow w0.heap.size e sz v n cs) (h:a.grownBy w v.ownBlock) (hb:AK w0 a):AK w0 w:=
 hb.trans ⟨h.os,h.tape,h.output,h.size,fun i hi=>h.block i (Av hi hb.size) (fun e=>absurd (ho.lt i e.symm).1 AG)⟩
theorem Ag.AJk {α:Type} {sz:Nat} {R:AH->List AN->α->Prop} {w W:AH} {l:List α} {v:AN} (h:Ag sz (fun _=>R w) W v l) (hR:Ep R) (hb:AK w W):Ag sz R W v l:=by obtain ⟨A,cap,e,h1,h2,h3⟩:=h;refine ⟨A,cap,e,h1,h2,fun i x hi=> ?_⟩;obtain ⟨b,off,cs,rfl,hlt,hl,hc,hr⟩:=h3 i x hi;exact ⟨b,off,cs,rfl,hlt,hl,hc,hR _ _ hb _ _ hr⟩
theorem qA {P:Program} {md:Region.Mode} {ops:Array Oper} {Q:Exit->Act->AH->Prop} {S:AH->Prop} {fuel:Nat} {listed:Array Bool} {l:List AN} {D:List Deferred} {w:AH}
 {α:Type} {sz:Nat} {R:AH->List AN->α->Prop} (i d a b:Nat) (t e:Ae) {o:Oper} {ti:TypeInfo} {z:AN} (bytes:Nat) (ht:P.underlying t=some (.slice e)) (hti:P.info? e=some ti) (hz:ti.zero=some z) (hsize:ti.size=sz) (hby:ti.bytes=bytes) (hzs:z.cells.size=sz) (hsz:0 < sz) (hone:One R)
 (base:Nat) (v:AN) (n:Nat) (xs:List AN) (hown:w.ownsRow base e sz v n xs) (A:Option Aa) (m c:Nat) (x:List α) (hr:Ag sz R w (AA A m c) x) (hn:n+m<=maxLen) (hb:(n+m)*bytes<=140737488355328) (hbase:base<=w.heap.size)
 (h:∀v' w' cs,Ap sz R w cs x->w'.ownsRow base e sz v' (n+m) (xs++cs)->w.grownBy w' v.ownBlock->(v'.ownBlock=v.ownBlock\/v'.ownBlock=some w.heap.size)->S w'/\wpAnyH P md ops Q S fuel (listed.setIfInBounds i true) ⟨(l.set d v').toArray,D⟩ w')
 (hxa:l[a]? =some v:=by kernel_rfl) (hxb:l[b]? =some (AA A m c):=by kernel_rfl) (hrd:Region.ready md ops listed=[i]:=by kernel_rfl) (hi:ops[i]? =some o:=by rfl) (hd:o.dst=some d:=by rfl) (hg:o.guard=none:=by rfl) (hop:o.op=.call {callee:=.builtin .append,args:=#[.tmp a,.tmp b],argTypes:=#[t,t]}:=by rfl):
 wpAnyH P md ops Q S (fuel+1) listed ⟨l.toArray,D⟩ w:=
 oh i hrd hi hg (RF w (AX a) (AX b) t e hop ti z bytes ht hti hz hsize hby hzs hsz hone base v n xs (by simp [Act.eval,hxa]) hown A m c x (by simp [Act.eval,hxb]) hr hn hb hbase fun v' w' cs h1 h2 h3 h4=>by rw [hd,Lx];exact h v' w' cs h1 h2 h3 h4)
theorem sU (v0 v1 v3 v4 v5 v6:AN) (A:Option Aa) (n c:Nat) (ns:List Nat) (ck:Int) (val:Int->Int->Int->Bool) (r:Br) (q:EG) (VA LA KA:Option Aa) (vn vc ln lc kn kc:Nat) (bi at_:Int) (w:AH) (hs:Ag 6 Kx w (AA A n c) ns)
 (hK:PU (AP #[v0,v1,AA A n c,v3,v4,v5]) (AP #[v0,v1,AA A n c,v3,v4,v5,v6]) ck val w) (hv:Ag 1 Bt w (AA VA vn vc) q.values) (hl:Ag 32 CP w (AA LA ln lc) q.links) (hk:Ag 3 Cy w (AA KA kn kc) q.claims) (hh:q.holder.length=32) (hro:r.root.length=32) (hbi:FI bi) (hat:0<=at_/\at_<=18446744073709551615) (LC:Cc w)
 (hS:∀W,AK w W->AS prog 7 #[] W fun e w'=>e=AW (.bool true)/\AK W w')
 (hF:∀W,AK w W->AS prog 24 #[AP #[v0,v1,AA A n c,v3,v4,v5,v6]] W (LM W)):
 AS prog 5 #[AP #[v0,v1,AA A n c,v3,v4,v5,v6],AP (rdA r),AP (Fo ⟨q.Ar,q.round,q.schema,q.place,q.holder,AA VA vn vc,AA LA ln lc,AA KA kn kc⟩),AB AE bi,AB .u64 at_] w fun e w'=>e=AW (.bool true)/\AK w w':=by
 obtain ⟨RR,hRR⟩:=Ad (rdA r);obtain ⟨C2,hC2⟩:=Ad (Fo ⟨q.Ar,q.round,q.schema,q.place,q.holder,AA VA vn vc,AA LA ln lc,AA KA kn kc⟩);rw [<-hRR,<-hC2];have MN:AI ((prog.info? 36).map (·.size)=some RR.size):=AF Uh;have PZ:AI ((prog.info? 46).map (·.size)=some C2.size):=AF (by rw [hC2,Jw hh];kernel_rfl);have aj:AI (∀W,AK w W->AS prog 8 #[AP #[v0,v1,AA A n c,v3,v4,v5,v6],.agg RR,.agg C2] W (LM W)):=AF (fun W hW=>by rw [hRR,hC2];exact YK v0 v1 v3 v4 v5 v6 A n c ns r _ VA LA KA vn vc ln lc kn kc q.claims W (hs.mono Di hW) (fun W' hW'=>hF W' (AV hW hW')) hh rfl rfl rfl (hk.mono Bc hW))
 have Lh:AI (∀(R:Br) (RX:Array AN) W,R.root.length=32->RX=rdA R->AK w W->AS prog 13 #[AP #[v0,v1,AA A n c,v3,v4,v5,v6],.agg RX,.agg C2] W fun e w'=>e=AW (AB AE (DZ Aw ck (Ba ns R.schema) (val R.schema) R q))/\AK W w'):=AF (fun R RX W hR e hW=>by rw [e,hC2];exact Y0 v0 v1 v3 v4 v5 v6 A n c ns ck val R q VA LA KA vn vc ln lc kn kc W (hs.mono Di hW) (hK.below hW) (hv.mono BT hW) (hl.mono BO hW) (hk.mono Bc hW) hh hR (LC.below hW))
 obtain ⟨RV,HS,HK,HV,HL,J6,HH,Ra,I7,mA,HAT,HRR⟩:=QX hS hs hK hv hl hk hh hro LC hbi hat hRR;have HC2:=AF hC2;clear hs hK hv hl hk hh hro hbi hat LC hS hF hRR hC2;go_enter func5,ntmps5;go_upto_region 1 with fail;obtain ⟨w1,hw1,k1,k2,k3,hb1,hz1⟩:=sH w #[v0,v1,AA A n c,v3,v4,v5,v6] RR C2 32 36 46;rw [<-hw1];obtain ⟨HB1,H1⟩:=Al hb1 hz1;have HE:AI (∀W,AK w1 W->AY W w.heap.size 32 #[v0,v1,AA A n c,v3,v4,v5,v6]/\AY W (w.heap.size+1) 36 RR/\AY W (w.heap.size+1+1) 46 C2):=AF (fun W hW=>⟨k1.below hW k1.lt,k2.below hW k2.lt,k3.below hW k3.lt⟩);have HT:AI (∀W,AY W w.heap.size 32 #[v0,v1,AA A n c,v3,v4,v5,v6]->W.cell? ⟨w.heap.size,0,none⟩=some v0/\W.cell? ⟨w.heap.size,1,none⟩=some v1/\W.cell? ⟨w.heap.size,2,none⟩=some (AA A n c)/\W.cell? ⟨w.heap.size,3,none⟩=some v3/\W.cell? ⟨w.heap.size,4,none⟩=some v4/\W.cell? ⟨w.heap.size,5,none⟩=some v5/\W.cell? ⟨w.heap.size,6,none⟩=some v6):=AF (fun W b=>⟨b.cell 0,b.cell 1,b.cell 2,b.cell 3,b.cell 4,b.cell 5,b.cell 6⟩);have Pg:AI (∀W,AK w1 W->(Instr.loadAt 36 (AU (some ⟨w.heap.size+1,0,none⟩))).run prog W=.ok (.agg RR) W/\(Instr.loadAt 46 (AU (some ⟨w.heap.size+1+1,0,none⟩))).run prog W=.ok (.agg C2) W):=AF (fun W hW=>
  ⟨loadRow (HE.o W hW).2.1 underlying36 rfl MN.o,loadRow (HE.o W hW).2.2 underlying46 rfl PZ.o⟩)
 clear hw1 k1 k2 k3 hb1 hz1;go_upto_region 3 with (go_at_call 7;refine (RV.o _ HB1.o).mono ?_;rintro e w2 ⟨rfl,hb⟩;have HB2:=AF hb;clear hb);obtain ⟨d0,d1,d2,d3,d4,d5,d6⟩:=HT.o w2 (HE.o w2 HB2.o).1;obtain ⟨HL2,AFr⟩:=Al (Pg.o w2 HB2.o) (AV HB1.o HB2.o);obtain ⟨E1,hE1⟩:=Ad (DZ Aw ck (Ba ns r.schema) (val r.schema) r q);have AJZ:AI (∀W,AK w W->AS prog 13 #[AP #[v0,v1,AA A n c,v3,v4,v5,v6],.agg RR,.agg C2] W fun e w'=>e=AW (AB AE E1)/\AK W w'):=AF (fun W hW=>by rw [hE1];exact Lh.o r RR W Ra.o HRR.o hW);have fU:=AF hE1;clear hE1;by_cases hb0:bi=0
 ·subst hb0
  go_wp2_with (first
   | (refine Az AJ 36 (AX 6) rfl _ AJ HL2.o.1 ?_)
   | (refine Az AJ 46 (AX 7) rfl _ AJ HL2.o.2 ?_)
   | (
    go_at_call 8;refine (aj.o _ AFr.o).mono ?_;rintro e w3 ⟨⟨b,rfl⟩,hb⟩;have HB3:=AF (AV HB2.o hb);clear hb;cases b with
    | false=>(go_wp2;go_ret;exact ⟨rfl,AV HB1.o HB3.o⟩)
    | true=>(go_wp2;go_ret;exact ⟨rfl,AV HB1.o HB3.o⟩))
   | fail)
 have hbq:(bi==0)=false:=Hf hb0;by_cases hE0:E1=0
 rotate_left
 ·have hne:(E1==0)=false:=Hf hE0
  go_wp2_with (first
   | (refine Az AJ 36 (AX 6) rfl _ AJ HL2.o.1 ?_)
   | (refine Az AJ 46 (AX 7) rfl _ AJ HL2.o.2 ?_)
   | (
    go_at_call 8;refine (aj.o _ AFr.o).mono ?_;rintro e w3 ⟨⟨b,rfl⟩,hb⟩;have HB3:=AF (AV HB2.o hb);clear hb;cases b
    case false=>(go_wp2;go_ret;exact ⟨rfl,AV HB1.o HB3.o⟩)
    have Yt:=AF (Pg.o w3 HB3.o);obtain ⟨d0,d1,d2,d3,d4,d5,d6⟩:=HT.o w3 (HE.o w3 HB3.o).1)
   | (refine Az AJ 36 (AX 6) rfl _ AJ Yt.o.1 ?_)
   | (refine Az AJ 46 (AX 7) rfl _ AJ Yt.o.2 ?_)
   | (go_at_call 13;refine (AJZ.o _ (AV HB1.o HB3.o)).mono ?_;rintro e w4 ⟨rfl,hb⟩;have HB4:=AF (AV HB3.o hb);clear hb)
   | fail)
  go_ret;exact ⟨rfl,AV HB1.o HB4.o⟩
 subst hE0;go_upto_region 5 with (first
  | (refine Az AJ 36 (AX 6) rfl _ AJ HL2.o.1 ?_)
  | (refine Az AJ 46 (AX 7) rfl _ AJ HL2.o.2 ?_)
  | (
   go_at_call 8;refine (aj.o _ AFr.o).mono ?_;rintro e w3 ⟨⟨b,rfl⟩,hb⟩;have HB3:=AF (AV HB2.o hb);clear hb;cases b
   case false=>(go_wp2;go_ret;exact ⟨rfl,AV HB1.o HB3.o⟩)
   have Yt:=AF (Pg.o w3 HB3.o);obtain ⟨d0,d1,d2,d3,d4,d5,d6⟩:=HT.o w3 (HE.o w3 HB3.o).1)
  | (refine Az AJ 36 (AX 6) rfl _ AJ Yt.o.1 ?_)
  | (refine Az AJ 46 (AX 7) rfl _ AJ Yt.o.2 ?_)
  | (go_at_call 13;refine (AJZ.o _ (AV HB1.o HB3.o)).mono ?_;rintro e w4 ⟨rfl,hb⟩;have HB4:=AF (AV HB3.o hb);clear hb)
  | fail)
 clear d0 d1 d2 d3 d4 d5 d6;have HR4:AI (∀W,AK w4 W->(Instr.loadAt 36 (AU (some ⟨w.heap.size+1,0,none⟩))).run prog W=.ok (.agg RR) W):=AF (fun W hW=>(Pg.o W (AV HB4.o hW)).1);have hzs:(rdA o6).size=RR.size:=by rw [HRR.o,rdA,rdA,OY,OY,CJ,CJ,Ra.o];rfl
 have Nc:=AF hzs;have Vo:AI (RR.all (·.oneCell')=true):=AF (by rw [HRR.o];exact AGb r);have Fs:prog.follows .mixedOrders=true:=AJ
 clear hzs;refine Pe (fun W=>AK w4 W) 9 _ Fs AJ rfl ?_;have hS:AK w4 w4.drew:=(Af _ _).drew;refine qT 0 36 hS ?_ (hv:=fun W hW=>run_load (HR4.o W hW));refine qT 1 37 hS ?_ (hv:=fun W hW=>run_load (HR4.o W hW));refine qT 2 38 hS ?_ (hv:=fun W hW=>run_load (HR4.o W hW));refine AJy 3 4 5 11 12 13 36 (RR:=RR) (L3:=#[true,true,true,true,true,true,false,false,false]) Ai Ai Ai (Oo.start w4 _ _ _ undef undef undef) (fun W hW=>hW) wL ?_;intro x1 x2 x3 W ht;obtain ⟨g1,rfl,f1,t1⟩:=ht.fill;obtain ⟨g2,rfl,f2,t2⟩:=t1.swap.fill;obtain ⟨g3,rfl,f3,t3⟩:=t2.swap.turn.fill;refine dY 6 36 11 36 g1 RR 36 (rdA o6) AJ rfl rfl rfl rfl rfl rfl f1 MN.o Nc.o Vo.o t1.bel ?_;refine dY 7 36 12 37 g2 RR 36 (rdA o6) AJ rfl rfl rfl rfl rfl rfl f2 MN.o Nc.o Vo.o t2.bel ?_;refine dY 8 36 13 38 g3 RR 36 (rdA o6) AJ rfl rfl rfl rfl rfl rfl f3 MN.o Nc.o Vo.o t3.bel ?_;refine Ed AJ ?_ _;generalize ((W.setRow g1 RR).setRow g2 RR).setRow g3 RR=w5 at t3 ⊢;simp only [CZ,Ch];obtain ⟨hb5,⟨hg1,hg2,hg3⟩,k1,k2,k3,n12,n13,n23⟩:=t3.turn.all;clear t3;have hb4:=HB4.o.size;have hgs:w1.heap.size<=g1/\w1.heap.size<=g2/\w1.heap.size<=g3:=⟨by omega,by omega,by omega⟩;have AIV:AK w1 w5:=AV HB4.o hb5;obtain ⟨rV,XF⟩:=Al hgs (And.intro n12 (And.intro n13 n23));have Lm:AI (RR[0]? =some (AB AE r.Ar)/\RR[1]? =some (AB AE r.no)/\RR[2]? =some (AB AE r.schema)):=AF (by rw [HRR.o,rdA];refine ⟨?_,?_,?_⟩ <;> (rw [P1 AZ];rfl))
 obtain ⟨MP,FC,Ls,Cg⟩:=CD k1 k2 k3 AIV;clear hb5 hg1 hg2 hg3 k1 k2 k3 n12 n13 n23 hb4 hgs AIV HR4 Nc Vo Fs hS ht t1 t2 f1 f2 f3;obtain ⟨zn,hzn⟩:=Ad (wrap64 (r.no+bi));obtain ⟨zi,hzi⟩:=Ad (wrap64 (r.Ar+bi));obtain ⟨zs,hzs⟩:=Ad (wrap64 (r.schema+bi));have qv:AI (zn≠r.no/\zi≠r.Ar/\zs≠r.schema):=AF ⟨by rw [hzn];exact g7 mA.o hb0,by rw [hzi];exact g7 mA.o hb0,by rw [hzs];exact g7 mA.o hb0⟩;have c1:w5.cell? ⟨g1,1,none⟩=some (AB AE r.no):=(MP.o.cell 1).trans Lm.o.2.1;have f1:=MP.o.frozen 1;go_upto_region 7 with fail;rw [<-hzn];have k1:=MP.o.put 1 (AB AE zn);have k2:=Om (i:=1) FC.o (fun e=>XF.o.1 e.symm) (AB AE zn);have k3:=Om (i:=1) Ls.o (fun e=>XF.o.2.1 e.symm) (AB AE zn);have hb6:=Cg.o.setCell (p:=⟨g1,1,none⟩) rV.o.1 (AB AE zn);generalize w5.setCell ⟨g1,1,none⟩ (AB AE zn)=w6 at k1 k2 k3 hb6 ⊢;clear c1 f1 hzn MP FC Ls Cg;obtain ⟨MP,FC,Ls,Fb⟩:=CD k1 k2 k3 hb6;clear k1 k2 k3 hb6;have c2:w6.cell? ⟨g2,0,none⟩=some (AB AE r.Ar):=(FC.o.cell 0).trans Lm.o.1;have f2:=FC.o.frozen 0;go_upto_region 8 with fail;rw [<-hzi];have k1:=Om (i:=0) MP.o XF.o.1 (AB AE zi);have k2:=FC.o.put 0 (AB AE zi);have k3:=Om (i:=0) Ls.o (fun e=>XF.o.2.2 e.symm) (AB AE zi);have hb7:=Fb.o.setCell (p:=⟨g2,0,none⟩) rV.o.2.1 (AB AE zi);generalize w6.setCell ⟨g2,0,none⟩ (AB AE zi)=w7 at k1 k2 k3 hb7 ⊢;clear c2 f2 hzi MP FC Ls Fb;obtain ⟨MP,FC,Ls,D4⟩:=CD k1 k2 k3 hb7;clear k1 k2 k3 hb7;have c3:w7.cell? ⟨g3,2,none⟩=some (AB AE r.schema):=(Ls.o.cell 2).trans Lm.o.2.2;have f3:=Ls.o.frozen 2;go_upto_region 9 with fail;rw [<-hzs];have k1:=Om (i:=2) MP.o XF.o.2.1 (AB AE zs);have k2:=Om (i:=2) FC.o XF.o.2.2 (AB AE zs);have k3:=Ls.o.put 2 (AB AE zs);have hb8:=D4.o.setCell (p:=⟨g3,2,none⟩) rV.o.2.2 (AB AE zs);generalize w7.setCell ⟨g3,2,none⟩ (AB AE zs)=w8 at k1 k2 k3 hb8 ⊢;rw [HRR.o,ADP] at k1;rw [HRR.o,ADQ] at k2;rw [HRR.o,ADO] at k3;clear c3 f3 hzs MP FC Ls D4;obtain ⟨RX,hRX⟩:∃R,R=rdA {r with no:=zn}:=⟨_,rfl⟩;obtain ⟨RY,hRY⟩:∃R,R=rdA {r with Ar:=zi}:=⟨_,rfl⟩;obtain ⟨RZ,kG⟩:∃R,R=rdA {r with schema:=zs}:=⟨_,rfl⟩;rw [<-hRX] at k1;rw [<-hRY] at k2;rw [<-kG] at k3;obtain ⟨IH,MP,FC,Ls,HRX,lW,HRZ⟩:=LU hb8 k1 k2 k3 hRX hRY kG;have rB:AI ((prog.info? 36).map (·.size)=some RX.size/\(prog.info? 36).map (·.size)=some RY.size/\(prog.info? 36).map (·.size)=some RZ.size):=AF (by rw [hRX,hRY,kG,rdA,rdA,rdA,OY,OY,OY,CJ,Ra.o];exact ⟨by kernel_rfl,by kernel_rfl,by kernel_rfl⟩)
 clear k1 k2 k3 hb8 hRX hRY kG rV XF Lm;obtain ⟨rfl,hok,hsc,hoe,hsh,h5⟩:=sT fU.o.symm;obtain ⟨kb,ko,_,_,rfl,_⟩:=J6.o.at_ (k:=0) (by have:=J6.o.len;omega);obtain ⟨s0,hs0⟩:=Ad (Hx ((Ba ns q.schema).getD 0) q [] 0:Ha);have HSL:AI ((s0.holder.length=32/\s0.token.length=32)/\s0.link=0/\s0.fields=[]):=AF (by rw [hs0];exact ⟨⟨HH.o,ADY HL.o.AJs _ _ _⟩,rfl,rfl⟩);have CW:AI (∀W,AK w8 W->AK w W):=AF (fun W hW=>AV HB1.o (AV IH.o hW));have HOP:AI (∀W,AK w8 W->AS prog 14 #[AP #[v0,v1,AA A n c,v3,v4,v5,v6],.agg C2,AA none 0 0,AB AE 0] W (NW [] W s0 0)):=AF (fun W hW=>by have h2:=CW.o W hW;have h:=open_any v0 v1 v3 v4 v5 v6 A n c ns 0 val q VA LA (some ⟨kb,ko,none⟩) none vn vc ln lc kn kc 0 0 [] 0 [] W (HS.o.mono Di h2) (HK.o.below h2) (HV.o.mono BT h2) (HL.o.mono BO h2) ((J6.o.mono Bc h2).AHX JY) (Ag.nil _ _ (Ay _)) HH.o Ai (fun _ h=>by cases h);rw [Ak hoe,<-hs0,<-HC2.o] at h;exact h)
 have Hr:AI (DJ Aw 0 (Ba ns r.schema) (val r.schema) r s0=0):=AF (by rw [hs0];exact hsh);obtain ⟨Ii,H5⟩:=Al hok h5;have vz:=J6.o.len;have hkz:((kn:Int)==0)=false:=Hf Ov;have AMN:¬(kn:Int)=0:=by have:=H5.o;omega
 have hu64:IntKind.u64.wrap (kn:Int)=kn:=AHP Ov;obtain ⟨k,hkk,hat⟩:=AIm (n:=kn) HAT.o.1 Ov;have hkw:wrap64 (k:Int)=k:=Pr _ Ov;have HKK:=AF hkk;clear hok hsc hoe hsh h5 hs0 hkk;have jO:=AF vz;clear vz;have KE8:=AF (HE.o w8 IH.o);obtain ⟨d0,d1,d2,d3,d4,d5,d6⟩:=HT.o w8 KE8.o.1;go_upto_region 10 with (first
  | (refine Ci rfl 46 (AX 7) rfl (w.heap.size+1+1) AJ 46 C2 (0,0) _ KE8.o.2.2 underlying46 rfl PZ.o ?_)
  | (
   go_at_call 14;refine (HOP.o _ (Af _ _)).mono ?_;rintro e w9 ⟨FA',fn',Q0,UA,un',uc',XA,ut,uv,rfl,s1,s2,s3,hb⟩;obtain ⟨SS,hSS⟩:=Ad (Em ⟨s0.Ar,s0.round,s0.schema,s0.place,s0.holder,AA FA' fn' Q0,AA UA un' uc',s0.link,s0.token,AA XA ut uv,undef,undef,0,0⟩);rw [<-hSS];have cM:AI (SS.size=72):=AF (by rw [hSS];exact G0 HSL.o.1.1 HSL.o.1.2);have aS:AI (SS.all (·.oneCell')=true):=AF gV;obtain ⟨Lf,HSU,HSX,Nf,AFX⟩:=Db (s1.MK Ju) (s2.MK Ju) (s3.MK Mu) hb hSS;clear s1 s2 s3 hb hSS)
  | (refine FE 57 14 58 72 SS cM.o aS.o rfl ?_)
  | fail)
 clear d0 d1 d2 d3 d4 d5 d6;obtain ⟨k10,b10,s10⟩:=bx w9 SS 57;generalize (w9.alloc (AO SS 57))=w10 at k10 b10 s10 ⊢;obtain ⟨gs,hgs⟩:=Ad w9.heap.size;rw [<-hgs] at k10 s10 ⊢;have ND:AI (AK w8 w10):=AF (AV Nf.o b10);obtain ⟨ALE,AIp⟩:=Al b10 k10;have ALC:AI ((prog.info? 57).map (·.size)=some SS.size):=AF (by rw [cM.o];kernel_rfl);have Yh:AI (∀(R:Br) (RX:Array AN) (k:Int) W,R.root.length=32->RX=rdA R->DJ Aw 0 (Ba ns R.schema) (val R.schema) R s0=k->AK w10 W->AS prog 15 #[AP #[v0,v1,AA A n c,v3,v4,v5,v6],.agg RX,.agg SS] W fun e w'=>e=AW (AB AE k)/\AK W w'):=AF (fun R RX k W hR e hk hW=>by have h2:=CW.o W (AV ND.o hW);have h5:AK w9 W:=AV ALE.o hW;have h:=ew v0 v1 v3 v4 v5 v6 A n c ns 0 val R s0 FA' UA XA fn' Q0 un' uc' ut uv W (HS.o.mono Di h2) (HK.o.below h2) (Lf.o.mono BT h5) (HSU.o.mono BT h5) (HSX.o.mono Bc h5) HSL.o.1.1 HSL.o.1.2 (by rw [HSL.o.2.1];show FI 0;unfold FI;decide) hR (I7.o.below h2);rw [hk] at h;rw [e,AFX.o];exact h)
 clear k10 b10 s10 hgs;have Rf:AI (∀W,AK w10 W->(AY W w.heap.size 32 #[v0,v1,AA A n c,v3,v4,v5,v6]/\W.cell? ⟨w.heap.size+1+1,38,none⟩=some (AA (some ⟨kb,ko,none⟩) kn kc))/\(Instr.loadAt 36 (AU (some ⟨w.heap.size+1,0,none⟩))).run prog W=.ok (.agg RR) W/\(Instr.loadAt 46 (AU (some ⟨w.heap.size+1+1,0,none⟩))).run prog W=.ok (.agg C2) W/\(Instr.loadAt 57 (AU (some ⟨gs,0,none⟩))).run prog W=.ok (.agg SS) W):=AF (fun W hW=>by have hx:AK w1 W:=AV IH.o (AV ND.o hW);have hc:=(HE.o W hx).2.2;rw [HC2.o] at hc;exact ⟨⟨(HE.o W hx).1,(PS hc HH.o).claims⟩,(Pg.o W hx).1,(Pg.o W hx).2,loadRow (AIp.o.below hW AIp.o.lt) underlying57 rfl ALC.o⟩)
 have jN:=AF (Rf.o w10 (Af _ _));obtain ⟨d0,d1,d2,d3,d4,d5,d6⟩:=HT.o w10 jN.o.1.1;go_upto_region 12 with (first
  | (refine Az AJ 36 (AX 6) rfl _ AJ jN.o.2.1 ?_)
  | (refine Az AJ 57 (AX 14) rfl _ AJ jN.o.2.2.2 ?_)
  | (go_at_call 15;refine (Yh.o r RR 0 _ Ra.o HRR.o Hr.o (Af _ _)).mono ?_;rintro e JC ⟨rfl,hb⟩;have rm:=AF hb;have c38:=(Rf.o JC hb).1.2;clear hb)
  | fail)
 clear d0 d1 d2 d3 d4 d5 d6;go_upto_region 13 with fail;have AIR:AK w1 JC:=AV IH.o (AV ND.o rm.o);have ALB:=AF (HE.o JC AIR).2.2;have HCN:AI (C2.size=39):=AF (by rw [HC2.o];exact Jw HH.o);have HCO:AI (C2.all (·.oneCell')=true):=AF (by rw [HC2.o];exact QN rfl rfl rfl);clear AIR c38;go_upto_region 14 with (first
  | (refine Ci rfl 46 (AX 7) rfl (w.heap.size+1+1) AJ 46 C2 (0,0) _ ALB.o underlying46 rfl PZ.o ?_)
  | (refine FE 46 17 82 39 C2 HCN.o HCO.o rfl ?_)
  | fail)
 obtain ⟨k13,b13,s13⟩:=bx JC C2 46;generalize (JC.alloc (AO C2 46))=EH at k13 b13 s13 ⊢;obtain ⟨gl,hgl⟩:=Ad JC.heap.size;rw [<-hgl] at k13 s13 ⊢;have TS:AI (JC.heap.size<=gl):=AF (Nat.le_of_eq hgl.symm);have AFt:AI (AK w10 EH):=AF (AV rm.o b13);have AFP:=AF k13;have hkc:=J6.o.le;have hkl:=HKK.o;have h256:=H5.o;have hk0:=Int.natCast_nonneg k
 have hk1:(k:Int)<=(kn:Int):=AG
 have hk2:(k:Int)+1<=(kn:Int):=AG
 have hk4:(0:Int)<=(k:Int)+1:=AG
 have hk3:¬kc < k:=AG
 have hk5:(k:Int)<=(kc:Int):=AG
 have hk6:IntKind.i64.wrap ((k:Int)+1)=(k:Int)+1:=Ca _ (by have:=jO.o;omega);obtain ⟨KB,hKB⟩:∃B,B=(if kc=k+1 then some (⟨kb,ko,none⟩:Aa) else some ⟨kb,ko+(k+1)*3,none⟩):=⟨_,rfl⟩;have Fs:prog.follows .mixedOrders=true:=AJ
 have zl:AI (∀W,AK JC W->AK w W):=AF (fun W hW=>CW.o W (AV ND.o (AV rm.o hW)));have wA:AI (Ag 3 Cy w (AA KB (kn - (k+1)) (kc - (k+1))) (q.claims.drop (k+1))):=AF (by
  have hkl:=J6.o.le;rw [hKB];split
  ·next e=>
   have e1:kn - (k+1)=0:=AG
   rw [List.drop_eq_nil_of_le (by have:=jO.o;omega),e1];exact Ag.nil _ _ AG
  · exact J6.o.nB AG)
 have TK:∀W,AK JC W->W.cell? ⟨w.heap.size+1+1,38,none⟩=some (AA (some ⟨kb,ko,none⟩) kn kc):=fun W hW=>(Rf.o W (AV rm.o hW)).1.2;have nD:=AF b13;clear k13 b13 s13 hgl h256 hkl hkc;simp only [Act.put,Kf,CZ,Ch];refine Pe (fun W=>AK JC W) 14 _ Fs AJ rfl ?_;have bO:EH.heap.size<=EH.drew.heap.size:=Ac _;have hS:AK JC EH.drew:=nD.o.drew;refine qT 1 84 hS ?_;refine qT 2 85 hS ?_;refine qM 3 86 16 hS ?_;refine qT 4 87 hS ?_ (v:=AA (some ⟨kb,ko,none⟩) k kc);refine qT 6 89 hS ?_;refine qT 7 90 hS ?_;refine qM 8 91 16 hS ?_;refine qT 9 92 hS ?_ (v:=AB AE ((k:Int)+1));refine qT 10 93 hS ?_ (v:=AA KB (kn - (k+1)) (kc - (k+1))) (hv:=by intro W hW;have f:=TK W hW;rw [hKB];(go_simp) <;> rfl);have hD0:AK EH EH.drew:=(Af _ _).drew;have hD1:=hD0.alloc hD0.size (AO #[] 71);have hB0:=hS.alloc (BH nD.o.size bO) (AO #[] 71);refine ADK 0 83 44 0 #[] #[] AJ rfl rfl rfl rfl Array.map_empty (sJ _) hB0 ?_;obtain ⟨i0,hi0,hz0,hz1,hz2⟩:=I8 AB5;have hO0:(EH.drew.alloc (AO #[] 71)).ownsRow EH.heap.size 71 3 (AA (some ⟨EH.drew.heap.size,0,none⟩) 0 0) 0 []:=⟨rfl,.inr ⟨_,_,_,rfl,bO,AY.new _ _ _,Ac _,by unfold maxLen;omega,rfl,rfl⟩⟩;obtain ⟨rw0,AHu⟩:=Ad ((Value.slice (some ⟨EH.drew.heap.size,0,none⟩) 0 0));rw [<-AHu] at hO0 ⊢;generalize (EH.drew.alloc (AO #[] 71))=W1 at hB0 hO0 hD1 ⊢;have AKf:=HKK.o;have hkn2:k<=kn:=AG
 have hkm:(∀j,j<=kn->0+j<=maxLen)/\(∀j,j<=kn->(0+j)*56<=140737488355328):=by have:=H5.o;have:=jO.o;refine ⟨fun j hj=> ?_,fun j hj=>by omega⟩;unfold maxLen;omega
 refine qA 5 88 83 87 44 71 56 underlying44 hi0 hz0 hz1 hz2 rfl Ai (R:=fun _=>Cy w) (fun _=>jx w) EH.heap.size _ 0 [] hO0 (some ⟨kb,ko,none⟩) k kc (q.claims.take k) ((J6.o.wY hkn2).fix (zl.o _ hB0)) (hkm.1 k AG) (hkm.2 k AG) hD1.size ?_;intro rv1 W2 cs1 hcs1 qK hG1 _;have hD2:=YW hO0 hG1 hD1;have hB1:=AV nD.o hD2;refine ⟨hB1,?_⟩;refine qA 11 94 88 93 44 71 56 underlying44 hi0 hz0 hz1 hz2 rfl Ai (R:=fun _=>Cy w) (fun _=>jx w) EH.heap.size _ _ _ qK KB (kn - (k+1)) (kc - (k+1)) (q.claims.drop (k+1)) (wA.o.fix (zl.o _ hB1)) (by rw [Ji];exact hkm.1 _ AG) (by rw [Ji];exact hkm.2 _ AG) hD2.size ?_;intro rv2 W3 cs2 hcs2 hO2 hG2 _;have hD3:=YW qK hG2 hD2;have hB2:=AV nD.o hD3;refine ⟨hB2,?_⟩;have hlen:(q.claims.take k++q.claims.drop (k+1)).length=kn - 1:=by rw [CX,Df,IQ];have:=jO.o;omega
 rw [show 0+k+(kn - (k+1))=kn - 1 by omega,IJ] at hO2;have hcs:Ap 3 (fun _=>Cy w) W3 (cs1++cs2) (q.claims.take k++q.claims.drop (k+1)):=Ap.append (w:=W3) hcs1 hcs2;obtain ⟨A2,c2,rfl⟩:∃A2 c2,rv2=AA A2 (kn - 1) c2:=by
  rcases WD hO2 with ⟨_,h⟩ | ⟨g,cap,h,_⟩
  · have:=H5.o;have:=jO.o;omega
  · exact ⟨_,_,h⟩
 refine qT 12 95 hB2 ?_ (v:=AU (some ⟨gl,38,none⟩));have k3:=AFP.o.below hD3 AFP.o.lt;have AKj:gl < EH.heap.size:=AFP.o.lt;rw [HC2.o] at k3;refine qS 13 44 95 94 (Zi W3 gl 38 _ A2 (kn - 1) c2 (PS k3 HH.o).claims (k3.frozen 38)) (hB2.setCell (p:=⟨gl,38,none⟩) TS.o _) ?_;refine Ed AJ ?_ _;have k4:=k3.put 38 (AA A2 (kn - 1) c2);rw [qf _ HH.o] at k4;have hO3:=JL (W:=W3.setCell ⟨gl,38,none⟩ (AA A2 (kn - 1) c2)) hO2 (fun g hg _=>C5 W3 ⟨gl,38,none⟩ _ g (show g≠gl by omega));have hB4:=hB2.setCell (p:=⟨gl,38,none⟩) TS.o (AA A2 (kn - 1) c2);generalize W3.setCell ⟨gl,38,none⟩ (AA A2 (kn - 1) c2)=If at k4 hO3 hB4 ⊢;simp only [CZ,Ch];obtain ⟨CL,kP⟩:=Ad (q.claims.take k++q.claims.drop (k+1));rw [<-kP] at hcs hlen;have Ys:AI (Ag 3 Cy If (AA A2 (kn - 1) c2) CL):=AF ((B9 hO3 (w:=If) (R:=fun _=>Cy w) hcs hlen.symm).AJk Bc (zl.o _ hB4));have Hc:AI (CL.length≠q.claims.length):=AF (by rw [hlen,<-jO.o];have:=HKK.o;omega);obtain ⟨C3,hC3,k4⟩:∃C,C=Fo ⟨q.Ar,q.round,q.schema,q.place,q.holder,AA VA vn vc,AA LA ln lc,AA A2 (kn - 1) c2⟩/\AY If gl 46 C:=⟨_,rfl,k4⟩;have LD:AI ((prog.info? 46).map (·.size)=some C3.size):=AF (by rw [hC3,Jw HH.o];kernel_rfl);obtain ⟨TV,HK4,rl⟩:=BB hC3 k4 hB4;clear hC3 k4 hB4 hcs hlen kP hO3 hcs1 hcs2 qK hO2 hG1 hG2 hO0 hB0 hB1 hB2 hD0 hD1 hD2 hD3 hS k3 AKj bO TK hkm AKf hkn2 hi0 hz0 hz1 hz2 hKB AHu hk0 hk1 hk2 hk3 hk4 hk5 hk6;have H10:AI (∀W,AK If W->AK w10 W):=AF (fun W hW=>AV rm.o (AV rl.o hW));have Yg:AI (∀W,AK If W->AK w W):=AF (fun W hW=>zl.o W (AV rl.o hW));have fQ:AI (∀W,AK If W->AY W w.heap.size 32 #[v0,v1,AA A n c,v3,v4,v5,v6]/\(Instr.loadAt 36 (AU (some ⟨g1,0,none⟩))).run prog W=.ok (.agg RX) W/\(Instr.loadAt 36 (AU (some ⟨g2,0,none⟩))).run prog W=.ok (.agg RY) W/\(Instr.loadAt 36 (AU (some ⟨g3,0,none⟩))).run prog W=.ok (.agg RZ) W/\(Instr.loadAt 36 (AU (some ⟨w.heap.size+1,0,none⟩))).run prog W=.ok (.agg RR) W/\(Instr.loadAt 46 (AU (some ⟨w.heap.size+1+1,0,none⟩))).run prog W=.ok (.agg C2) W/\(Instr.loadAt 46 (AU (some ⟨gl,0,none⟩))).run prog W=.ok (.agg C3) W/\(Instr.loadAt 57 (AU (some ⟨gs,0,none⟩))).run prog W=.ok (.agg SS) W):=AF (fun W hW=>by have h10:=H10.o W hW;have h8:AK w8 W:=AV ND.o h10;have h:=Rf.o W h10;exact ⟨h.1.1,loadRow (MP.o.below h8 MP.o.lt) underlying36 rfl rB.o.1,loadRow (FC.o.below h8 FC.o.lt) underlying36 rfl rB.o.2.1,loadRow (Ls.o.below h8 Ls.o.lt) underlying36 rfl rB.o.2.2,h.2.1,h.2.2.1,loadRow (HK4.o.below hW HK4.o.lt) underlying46 rfl LD.o,h.2.2.2⟩)
 have Dz:AI (∀W,AK If W->(∀(R:Br) (X:Array AN),R.root.length=32->X=rdA R->(R.no≠r.no\/R.Ar≠r.Ar\/R.schema≠r.schema)->AS prog 13 #[AP #[v0,v1,AA A n c,v3,v4,v5,v6],.agg X,.agg C2] W fun e w'=>e=AW (AB AE 190)/\AK W w')
  /\AS prog 13 #[AP #[v0,v1,AA A n c,v3,v4,v5,v6],.agg RR,.agg C3] W fun e w'=>e=AW (AB AE 190)/\AK W w'):=AF (fun W hW=>by
  have h2:=Yg.o W hW;refine ⟨fun R X hR e hn=> ?_,?_⟩
  ·have h:=Lh.o R X W hR e h2
   rwa [xS Ii.o hn] at h
  have h:=Y0 v0 v1 v3 v4 v5 v6 A n c ns 0 val r {q with claims:=CL} VA LA A2 vn vc ln lc (kn - 1) c2 W (HS.o.mono Di h2) (HK.o.below h2) (HV.o.mono BT h2) (HL.o.mono BO h2) (Ys.o.mono Bc hW) HH.o Ra.o (I7.o.below h2);rw [AB1 Ii.o Hc.o] at h;rw [HRR.o,TV.o];exact h)
 have Pj:AI (∀W,AK If W->AS prog 13 #[AP #[v0,v1,AA A n c,v3,v4,v5,v6],.agg RR,.agg C3] W fun e w'=>e=AW (AB AE 190)/\AK W w'):=AF (fun W hW=>(Dz.o W hW).2);have HCX:AI (∀W,AK If W->AS prog 13 #[AP #[v0,v1,AA A n c,v3,v4,v5,v6],.agg RX,.agg C2] W fun e w'=>e=AW (AB AE 190)/\AK W w'):=AF (fun W hW=>(Dz.o W hW).1 {r with no:=zn} RX Ra.o HRX.o (.inl qv.o.1));have fV:AI (∀W,AK If W->AS prog 13 #[AP #[v0,v1,AA A n c,v3,v4,v5,v6],.agg RY,.agg C2] W fun e w'=>e=AW (AB AE 190)/\AK W w'):=AF (fun W hW=>(Dz.o W hW).1 {r with Ar:=zi} RY Ra.o lW.o (.inr (.inl qv.o.2.1)));have wD:AI (∀W,AK If W->AS prog 13 #[AP #[v0,v1,AA A n c,v3,v4,v5,v6],.agg RZ,.agg C2] W fun e w'=>e=AW (AB AE 190)/\AK W w'):=AF (fun W hW=>(Dz.o W hW).1 {r with schema:=zs} RZ Ra.o HRZ.o (.inr (.inr qv.o.2.2)));have zO:=AF (VF Hr.o).2.1;have HVV:AI (∀W,AK If W->∀(R:Br) (X:Array AN),R.root.length=32->X=rdA R->(R.no≠r.no\/R.Ar≠r.Ar\/R.schema≠r.schema)->AS prog 15 #[AP #[v0,v1,AA A n c,v3,v4,v5,v6],.agg X,.agg SS] W fun e w'=>e=AW (AB AE 190)/\AK W w'):=AF (fun W hW R X hR e hn=>Yh.o R X 190 W hR e (sS zO.o hn) (H10.o W hW));have HVX:AI (∀W,AK If W->AS prog 15 #[AP #[v0,v1,AA A n c,v3,v4,v5,v6],.agg RX,.agg SS] W fun e w'=>e=AW (AB AE 190)/\AK W w'):=AF (fun W hW=>HVV.o W hW {r with no:=zn} RX Ra.o HRX.o (.inl qv.o.1));have HVY:AI (∀W,AK If W->AS prog 15 #[AP #[v0,v1,AA A n c,v3,v4,v5,v6],.agg RY,.agg SS] W fun e w'=>e=AW (AB AE 190)/\AK W w'):=AF (fun W hW=>HVV.o W hW {r with Ar:=zi} RY Ra.o lW.o (.inr (.inl qv.o.2.1)));have HVZ:AI (∀W,AK If W->AS prog 15 #[AP #[v0,v1,AA A n c,v3,v4,v5,v6],.agg RZ,.agg SS] W fun e w'=>e=AW (AB AE 190)/\AK W w'):=AF (fun W hW=>HVV.o W hW {r with schema:=zs} RZ Ra.o HRZ.o (.inr (.inr qv.o.2.2)));have zX:=AF (fQ.o If (Af _ _));obtain ⟨d0,d1,d2,d3,d4,d5,d6⟩:=HT.o If zX.o.1;clear Ys Hc TV LD MP FC Ls HK4 Dz HVV zO Yh Lh Rf Pg HE rB HRX lW HRZ qv;go_upto_region 17 with (first
  | (refine Az AJ 36 (AX 11) rfl _ AJ zX.o.2.1 ?_)
  | (refine Az AJ 46 (AX 7) rfl _ AJ zX.o.2.2.2.2.2.1 ?_)
  | (go_at_call 13;(with_reducible refine (HCX.o _ (Af _ _)).mono ?_);rintro e Hn ⟨rfl,hb⟩;have cV:=AF hb;have zW:=AF (fQ.o Hn hb);clear hb d0 d1 d2 d3 d4 d5 d6;obtain ⟨d0,d1,d2,d3,d4,d5,d6⟩:=HT.o Hn zW.o.1)
  | (refine Az AJ 36 (AX 12) rfl _ AJ zW.o.2.2.1 ?_)
  | (refine Az AJ 46 (AX 7) rfl _ AJ zW.o.2.2.2.2.2.1 ?_)
  | (go_at_call 13;(with_reducible refine (fV.o _ cV.o).mono ?_);rintro e w16 ⟨rfl,hb⟩;have Uf:=AF (AV cV.o hb);have cQ:=AF (fQ.o w16 Uf.o);clear hb d0 d1 d2 d3 d4 d5 d6;obtain ⟨d0,d1,d2,d3,d4,d5,d6⟩:=HT.o w16 cQ.o.1)
  | (refine Az AJ 36 (AX 13) rfl _ AJ cQ.o.2.2.2.1 ?_)
  | (refine Az AJ 46 (AX 7) rfl _ AJ cQ.o.2.2.2.2.2.1 ?_)
  | (go_at_call 13;(with_reducible refine (wD.o _ Uf.o).mono ?_);rintro e Td ⟨rfl,hb⟩;have RL:=AF (AV Uf.o hb);have jM:=AF (fQ.o Td RL.o);clear hb d0 d1 d2 d3 d4 d5 d6;obtain ⟨d0,d1,d2,d3,d4,d5,d6⟩:=HT.o Td jM.o.1)
  | (refine Az AJ 36 (AX 6) rfl _ AJ jM.o.2.2.2.2.1 ?_)
  | (refine Az AJ 46 (AX 17) rfl _ AJ jM.o.2.2.2.2.2.2.1 ?_)
  | (go_at_call 13;(with_reducible refine (Pj.o _ RL.o).mono ?_);rintro e H9 ⟨rfl,hb⟩;have Pc:=AF (AV RL.o hb);have AFd:=AF (fQ.o H9 Pc.o);clear hb d0 d1 d2 d3 d4 d5 d6;obtain ⟨d0,d1,d2,d3,d4,d5,d6⟩:=HT.o H9 AFd.o.1)
  | fail)
 clear cV Uf RL zX zW cQ jM HCX fV wD Pj;go_wp2_with (first
  | (refine Az AJ 36 (AX 11) rfl _ AJ AFd.o.2.1 ?_)
  | (refine Az AJ 57 (AX 14) rfl _ AJ AFd.o.2.2.2.2.2.2.2 ?_)
  | (go_at_call 15;(with_reducible refine (HVX.o _ Pc.o).mono ?_);rintro e Z4 ⟨rfl,hb⟩;have Wc:=AF (AV Pc.o hb);have AFc:=AF (fQ.o Z4 Wc.o);clear hb d0 d1 d2 d3 d4 d5 d6;obtain ⟨d0,d1,d2,d3,d4,d5,d6⟩:=HT.o Z4 AFc.o.1)
  | (refine Az AJ 36 (AX 12) rfl _ AJ AFc.o.2.2.1 ?_)
  | (refine Az AJ 57 (AX 14) rfl _ AJ AFc.o.2.2.2.2.2.2.2 ?_)
  | (go_at_call 15;(with_reducible refine (HVY.o _ Wc.o).mono ?_);rintro e dO ⟨rfl,hb⟩;have Ue:=AF (AV Wc.o hb);have Yu:=AF (fQ.o dO Ue.o);clear hb d0 d1 d2 d3 d4 d5 d6;obtain ⟨d0,d1,d2,d3,d4,d5,d6⟩:=HT.o dO Yu.o.1)
  | (refine Az AJ 36 (AX 13) rfl _ AJ Yu.o.2.2.2.1 ?_)
  | (refine Az AJ 57 (AX 14) rfl _ AJ Yu.o.2.2.2.2.2.2.2 ?_)
  | (go_at_call 15;(with_reducible refine (HVZ.o _ Ue.o).mono ?_);rintro e oF ⟨rfl,hb⟩;have cT:=AF (AV Ue.o hb);clear hb d0 d1 d2 d3 d4 d5 d6)
  | fail)
 go_ret;exact ⟨rfl,Yg.o _ cT.o⟩
end Go.Proofs.YtamhoilkpppdbaaGreatDoor
