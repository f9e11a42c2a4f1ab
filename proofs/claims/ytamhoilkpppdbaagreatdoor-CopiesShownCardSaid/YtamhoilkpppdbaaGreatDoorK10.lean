import Derived.Test.YtamhoilkpppdbaaGreatDoorK09
namespace Go.Proofs.YtamhoilkpppdbaaGreatDoor
set_option maxHeartbeats 8000000
set_option maxRecDepth 100000
open Go renaming World→AH, Value→AN, Calls→AS, TypeId→Af, Program→BA, Addr→Aa
open Go.RowKit renaming Below→BI
open Go.Proofs.Tryz
open Go.Value renaming slice→AB, int→AE, pointer→AW, bool→Ab, agg→AP
open Go.IntKind renaming i64→AF
open Go.Ending renaming returned→AU, panicked→Bz
open Go.Obj renaming cells→AO
open Go.RowKit
def wQ {α:Type} (F:Fence) (n:Nat) (P:BA) (g:Nat) (lb:Array AN) (encs:α->Array AN) (T K:AH->AH->Prop) (G:List α->α->Prop) (S:List α->Prop) (w:AH):Prop:=
 ∀(l:Nat) (J:List α->AH->Prop) (Jp:List PanicEntry->AH->Prop) (N:Nat) (W:AH),AK w W->(∀s A C,J s A->T A C->J s C)->(∀s A,J s A->s.length<=N)->
  (∀pre x W1,J pre W1->G pre x->YieldAt F (n - 1) P l (encs x) W1 fun e W'=>(e=AU (Ab true)/\J (pre++[x]) W'/\K W1 W')\/∃ch,e=Bz ch/\Jp ch W')->
  J [] W->
  CallsIn F n P g (#[.func (.yield l) #[] #[]]++lb) W fun e W'=>((∃v,e=AU v)/\∃xs,S xs/\J xs W')\/∃ch,e=Bz ch/\Jp ch W'
section
variable {n:Nat} {P:BA}
end
open Go.Shelf
attribute [local go_sem] Oper.semAt_some
structure JF where
 Ar:Int
 round:Int
 schema:Int
 place:Int
 holder:AQ
 fields:AN
 values:AN
 link:Int
 token:AQ
 claims:AN
 links:AN
 tokens:AN
 width:Int
 present:Int
def shL (s:JF):List AN:=[Value.int .i64 s.Ar,Value.int .i64 s.round,Value.int .i64 s.schema,Value.int .i64 s.place]++s.holder.map (Value.int .u8)++[s.fields,s.values,Value.int .i64 s.link]++s.token.map (Value.int .u8)++[s.claims,s.links,s.tokens,Value.int .i64 s.width,Value.int .i64 s.present]
def JA (s:JF):Array AN:=(shL s).toArray
structure ShB (W:AH) (g:Nat) (s:JF):Prop where
 schema:W.cell? ⟨g,2,none⟩=some (AE AF s.schema)
 place:W.cell? ⟨g,3,none⟩=some (AE AF s.place)
 holder:W.rangeAt g 4 (s.holder.map (Value.int .u8))
 fields:W.cell? ⟨g,36,none⟩=some s.fields
 values:W.cell? ⟨g,37,none⟩=some s.values
 claims:W.cell? ⟨g,71,none⟩=some s.claims
 links:W.cell? ⟨g,72,none⟩=some s.links
 tokens:W.cell? ⟨g,73,none⟩=some s.tokens
 width:W.cell? ⟨g,74,none⟩=some (AE AF s.width)
 present:W.cell? ⟨g,75,none⟩=some (AE AF s.present)
theorem Wq {W:AH} {g:Nat} {t:Af} {s:JF} (h:AZ W g t (JA s)) (hh:s.holder.length=32) (ht:s.token.length=32):ShB W g s:=by
 have hc:∀i,W.cell? ⟨g,i,none⟩=([Value.int .i64 s.Ar,Value.int .i64 s.round,Value.int .i64 s.schema,Value.int .i64 s.place]++s.holder.map (Value.int .u8)++[s.fields,s.values,Value.int .i64 s.link]++s.token.map (Value.int .u8)++[s.claims,s.links,s.tokens,Value.int .i64 s.width,Value.int .i64 s.present])[i]? :=fun i=>by rw [h.cell,JA,Ak];rfl
 have ZU:∀k,k < 3->W.cell? ⟨g,36+k,none⟩=[s.fields,s.values,AE AF s.link][k]? :=fun k hk=>by rw [hc,ES Yg,ES UF,Cp (by simp [hh])];simp [hh]
 have h71:∀k,W.cell? ⟨g,71+k,none⟩=[s.claims,s.links,s.tokens,AE AF s.width,AE AF s.present][k]? :=fun k=>by rw [hc,Cp (by simp [hh,ht])];simp [hh,ht]
 refine ⟨by rw [hc];rfl,by rw [hc];rfl,fun j v hj=> ?_,ZU 0 AG,ZU 1 AG,h71 0,h71 1,h71 2,h71 3,h71 4⟩;have hl:j < 32:=by have:=(BD.1 hj).1;simpa [hh] using this
 rw [hc,ES Yg,ES UF,ES UF,Cp AX];simpa using hj
theorem FV (g o:Nat) {d:AQ} (hd:d.length=32) {W:AH} (h:W.rangeAt g o (d.map (Value.int .u8))):(Instr.loadAt 34 (AW (some ⟨g,o,none⟩))).run prog W=.ok (AP (yA d)) W:=by simp only [Instr.loadAt,Instr.sureAddr,Ck,DC,Result.andThen_ok,Q7 W g o 34 (d.map (Value.int .u8)) _ h underlying34 rfl (by rw [Cb,hd];exact Gm)];rfl
theorem XK (s:JF) (w:AH):AS prog 57 #[AP (JA s)] w fun e w'=>e=AU (.func (.func 81) #[] #[AW (some ⟨w.heap.size,0,none⟩)])/\w'=w.alloc (AO (JA s) 96):=by have hmf:∀(fn:Fn) (first cap:Array AN) (w:AH),(Instr.makeFunc fn first cap).run prog w=.ok (.func fn first cap) w:=fun _ _ _ _=>rfl;go_enter func57,ntmps57;go_wp2_with fail;go_ret;exact ⟨rfl,rfl⟩
theorem AAB {W:AH} {b o n c k:Nat} {l:AQ} {v:Int} (h:Ag 1 CK W (AB (some ⟨b,o,none⟩) n c) l) (hv:l[k]? =some v):W.cell? ⟨b,o+k,none⟩=some (AE AF v):=by
 have hk:k < n:=by rw [h.len];exact (BD.1 hv).1
 obtain ⟨b',o',x,e,_,hx,hc,_⟩:=ints_at h hk;injection e with e;injection e with e1 e2;subst e1 e2;rw [hv] at hx;injection hx with hx;rw [hx];exact hc
structure KX (n e g:Nat) (W W':AH):Prop where
 size:W.heap.size<=W'.heap.size
 same:∀b,b < n->b≠e->W'.heap[b]? =W.heap[b]?
 box:W'.heap[g]? =W.heap[g]?
 tab:Ca W->Ca W'
theorem KX.trans {n e g:Nat} {A B C:AH} (h:KX n e g A B) (k:KX n e g B C):KX n e g A C:=⟨BH h.size k.size,fun b h1 h2=>(k.same b h1 h2).trans (h.same b h1 h2),k.box.trans h.box,fun t=>k.tab (h.tab t)⟩
theorem KX.below {n e g:Nat} {A B C:AH} (h:KX n e g A B) (hb:AK B C) (hn:n<=B.heap.size) (hg:g < B.heap.size):KX n e g A C:=
 ⟨BH h.size hb.size,fun b h1 h2=>(hb.block b AG).trans (h.same b h1 h2),(hb.block g hg).trans h.box,fun t=>(h.tab t).below hb⟩
theorem KX.refl (n e g:Nat) (A:AH):KX n e g A A:=⟨Ac _,fun _ _ _=>rfl,rfl,id⟩
def tL (x:Int×AQ):Array AN:=#[AE AF x.1,AP (yA x.2)]
def GM (ms:List (Int×AQ)) (pre:List (Int×AQ)) (x:Int×AQ):Prop:=pre=ms.take pre.length/\ms[pre.length]? =some x
theorem Cs {P:BA} {W:AH} {p r:AN} {o:Oper} {a:Act} {x:Operand} {t:Af} (ho:o.op=.load t x) (he:a.eval x=p) (h:(Instr.loadAt t p).run P W=.ok r W):(execOp a.eval o).run P W=.ok (.value r) W:=by subst he;exact run_load h ho
theorem AEh {W:AH} {b o n c k:Nat} {l:List (AQ)} {d:AQ} (h:Ag 32 CV W (AB (some ⟨b,o,none⟩) n c) l) (hd:l[k]? =some d):W.rangeAt b (o+k*32) (d.map (Value.int .u8)):=by
 have hk:k < n:=by rw [h.len];exact (BD.1 hd).1
 obtain ⟨b',o',x,e,_,hx,_,_,hr⟩:=J5 h hk;injection e with e;injection e with e1 e2;subst e1 e2;rw [hd] at hx;injection hx with hx;rw [hx];exact hr
theorem Ux {ms:List (Int×AQ)} {k:Nat} {x:Int×AQ} (h:ms[k]? =some x):GM ms (ms.take k) x/\ms.take k++[x]=ms.take (k+1):=by
 have hk:=(BD.1 h).1;have hl:(ms.take k).length=k:=by rw [ER];omega
 exact ⟨⟨by rw [hl],by rw [hl];exact h⟩,by rw [Tp,h];rfl⟩
theorem tK (m n0 e g:Nat) (s:JF) (FA VA LA TA:Option Aa) (nf cf nv cv nl cl nt ct:Nat) (fs vs ls:AQ) (ts:List (AQ)) (w:AH)
 (hF:s.fields=AB FA nf cf) (hV:s.values=AB VA nv cv) (hL:s.links=AB LA nl cl) (hT:s.tokens=AB TA nt ct)
 (hR:∀W,KX n0 e g w W->Ag 1 CK W (AB FA nf cf) fs/\Ag 1 CK W (AB VA nv cv) vs/\Ag 1 CK W (AB LA nl cl) ls/\Ag 32 CV W (AB TA nt ct) ts)
 (hg:AZ w g 96 (JA s)) (hh:s.holder.length=32) (ht:s.token.length=32) (hn0:n0<=w.heap.size) (hfv:nf<=nv) (hlt:nl<=nt) (hsc:Gk s.schema)
 (hpl:0<=s.place/\s.place<=1000) (hw:0<=s.width/\s.width<=1000) (hpr:0<=s.present/\s.present<=1000) (hfr:∀f∈fs,0<=f/\f<=1000) (hlr:∀l∈ls,0<=l/\l<=1000) (MT:Ca w):
 wQ Fence.wide m prog 81 #[AW (some ⟨g,0,none⟩)] tL TB (KX n0 e g) (GM (Ga Aw (s.place*s.width) s.present s.schema s.holder fs vs ls ts)) (fun xs=>xs=Ga Aw (s.place*s.width) s.present s.schema s.holder fs vs ls ts) w:=by
 obtain ⟨first,hfi⟩:=Ad (s.place*s.width)
 rw [<-hfi];obtain ⟨ms,hms⟩:=Ad (Ga Aw first s.present s.schema s.holder fs vs ls ts)
 rw [<-hms];intro lp J Jp N W hW hJT tY hY h0;have hgl:=hg.lt;have VI:AI (KX n0 e g w W):=AA ((KX.refl n0 e g w).below hW hn0 hgl);have HG:=AA (hg.below hW hg.lt);have I0:=AA (MT.below hW);have AFv:=MT;have HH:=AA hh;have OU:AI (∀W,KX n0 e g w W->ShB W g s):=AA (fun W hk=>Wq (t:=96) (hk.box.trans hg) hh ht);have HR:=AA hR;have jb:=AA hJT;have HY:=AA hY;have WV:=AA h0;have hgw:g < W.heap.size:=Au hgl hW.size;have HN0:AI (n0<=W.heap.size):=AA (BH hn0 hW.size);have sb:=OU.o W VI.o;have c3:=sb.place;have jJ:=sb.fields;have c74:=sb.width;rw [hF] at jJ;have hnf:nf<=9223372036854775807:=by have:=(hR W VI.o).1.le;omega
 have hpw:IntKind.i64.wrap (s.place*s.width)=s.place*s.width:=CN _ (by have h1:0<=s.place*s.width:=Kj hpl.1 hw.1;have h2:s.place*s.width<=1000*1000:=PN hpl.2 hw.2 hw.1 AG;omega)
 rw [<-hfi] at hpw;clear hW hJT tY hY h0 hg MT hR sb hgl;refine Et.2 ?_;go_enter func81,ntmps81;go_wp2_with fail;clear c3 jJ c74;have hl1:fs.length=nf:=(HR.o W VI.o).1.len.symm;have hl2:vs.length=nv:=(HR.o W VI.o).2.1.len.symm;have hl3:ls.length=nl:=(HR.o W VI.o).2.2.1.len.symm;have hl4:ts.length=nt:=(HR.o W VI.o).2.2.2.len.symm;have Mj:AI (∀(k:Nat) f v,fs[k]? =some f->vs[k]? =some v->ms[k]? =some (first+f,msgP Aw s.schema f v s.holder)):=AA (fun k f v h1 h2=>by
  have hk:=(BD.1 h1).1;have ez:(fs.zip vs)[k]? =some (f,v):=by rw [Ic];exact ⟨h1,h2⟩
  rw [hms,Ga,Fm,Jk,ES BN,Bb,ez];rfl)
 have Mi:AI (∀(k:Nat) l t,ls[k]? =some l->ts[k]? =some t->ms[nf+k]? =some (first+s.present - 4+l,NB Aw s.schema l t s.holder)):=AA (fun k l t h1 h2=>by
  have hk:=(BD.1 h1).1;have ez:(ls.zip ts)[k]? =some (l,t):=by rw [Ic];exact ⟨h1,h2⟩
  have el:(Fm Aw first s.schema s.holder fs vs).length=nf:=by simp [Fm];omega
  rw [hms,Ga,MP,Jk,Cp AG,el,Nat.add_sub_cancel_left,ES BN,Bb,ez];rfl)
 have G9:AI (ms[nf+nl]? =some (first+s.present,msgP Aw s.schema (-1) 0 s.holder)/\ms.length=nf+nl+1):=AA (by
  have el:(Fm Aw first s.schema s.holder fs vs).length=nf:=by simp [Fm];omega
  have el2:(MP Aw first s.present s.schema s.holder ls ts).length=nl:=by simp [MP];omega
  refine ⟨?_,by rw [hms,Ga];simp only [CQ,el,el2];rfl⟩;rw [hms,Ga,Cp (by rw [CQ];omega),CQ,el,el2,PK];rfl)
 have SJ:=AA hl1;have HL3:=AA hl3;have jd:=AA hfr;have HLR:=AA hlr;have HVA:AI (∀f:Int,0<=f/\f<=1000->IntKind.i64.wrap (wrap64 (s.place*s.width)+f)=first+f):=AA (fun f h=>by
  have h1:0<=s.place*s.width:=Kj hpl.1 hw.1;have h2:s.place*s.width<=1000*1000:=PN hpl.2 hw.2 hw.1 AG;have e0:wrap64 (s.place*s.width)=first:=by rw [hfi];exact RD _ eT
  rw [e0];exact CN _ AG)
 have HVB:AI (∀f:Int,0<=f/\f<=1000->IntKind.i64.wrap (IntKind.i64.wrap (IntKind.i64.wrap (wrap64 (s.place*s.width)+s.present) - 4)+f)=first+s.present - 4+f):=AA (fun f h=>by
  have h1:0<=s.place*s.width:=Kj hpl.1 hw.1;have h2:s.place*s.width<=1000*1000:=PN hpl.2 hw.2 hw.1 AG;have e0:wrap64 (s.place*s.width)=first:=by rw [hfi];exact RD _ eT
  rw [<-hfi] at h1 h2;rw [e0,CN (first+s.present) AG,CN (first+s.present - 4) AG];exact CN _ AG)
 have HVC:AI (IntKind.i64.wrap (wrap64 (s.place*s.width)+s.present)=first+s.present):=AA (by
  have h1:0<=s.place*s.width:=Kj hpl.1 hw.1;have h2:s.place*s.width<=1000*1000:=PN hpl.2 hw.2 hw.1 AG;have e0:wrap64 (s.place*s.width)=first:=by rw [hfi];exact RD _ eT
  rw [<-hfi] at h1 h2;rw [e0];exact CN _ AG)
 have HT0:=AA AFv;clear AFv;clear hl1 hl2 hl3 hl4 hms hfr hlr;go_loopg [18] nf (fun q i wr=>∃k:Nat,k<=nf/\q=nf - k/\i=AE AF k/\J (ms.take k) wr/\KX n0 e g w wr/\g < wr.heap.size/\n0<=wr.heap.size/\Ca wr)
 case atStart=>exact ⟨0,Av _,rfl,rfl,WV.o,VI.o,hgw,HN0.o,I0.o⟩
 obtain ⟨k,hk,hq,rfl,hj,hkx,hgr,hnr,htb⟩:=hrel;have HQ:=AA hq;have HJ:=AA hj;have Zk:=AA hkx;have SG:=AA hnr;have R7:=AA htb;have hrd:=HR.o wr hkx;clear hq hj hkx hnr htb I0 VI WV;by_cases hlt1:k < nf
 ·obtain ⟨fb,fo,f,rfl,hfb,hf,ef,hf1,hf2⟩:=ints_at hrd.1 hlt1
  obtain ⟨vb,vo,v,rfl,hvb,hv,ev,hv1,hv2⟩:=ints_at hrd.2.1 (Au hlt1 hfv);have hkn:(k:Int) < (nf:Int):=AG
  have hkv:(k:Int) < (nv:Int):=AG
  have hk0:=Int.natCast_nonneg k
  have HX:=AA (Mj.o k f v hf hv);have hfr:=jd.o f (CS hf);have jS:AI (∀W,KX n0 e g w W->W.cell? ⟨g,2,none⟩=some (AE AF s.schema)/\W.cell? ⟨g,37,none⟩=some (AB (some ⟨vb,vo,none⟩) nv cv)/\W.cell? ⟨vb,vo+k,none⟩=some (AE AF v)):=AA (fun W hW=>⟨(OU.o W hW).schema,(OU.o W hW).values.trans (congrArg some hV),AAB (HR.o W hW).2.1 hv⟩);have I7:prog.follows .mixedOrders=true:=AJ
  clear hf hv;go_upto_region 4 with fail;refine (Dr (n:=m)).1 ?_;have hS0:KX n0 e g w wr.drew:=Zk.o.below (Ae _ _).drew SG.o hgr;refine rhB (KX n0 e g w) 20 _ I7 AJ rfl ?_;have hC:∀ops,ops.all Pv=true->Clear Fence.wide ops:=fun ops h=>⟨fun _=>trivial,h⟩;have AB7:∀W,KX n0 e g w W->(Instr.loadAt 34 (AW (some ⟨g,4,none⟩))).run prog W=.ok (AP (yA s.holder)) W:=fun W hW=>FV g 4 HH.o (OU.o W hW).holder;have hva:IntKind.i64.wrap (wrap64 (s.place*s.width)+f)=first+f:=HVA.o f hfr
  refine Ui (hC _ AJ) 0 23 0 AJ rfl rfl Aj hS0 rfl (.inl rfl) rfl ?_;refine Ui (hC _ AJ) 1 24 3 AJ rfl rfl Aj hS0 rfl (.inl rfl) rfl ?_;refine Ui (hC _ AJ) 2 25 5 AJ rfl rfl Aj hS0 rfl (.inl rfl) rfl ?_;refine EG (hC _ AJ) 3 26 AJ rfl rfl Aj hS0 rfl (v:=AE AF (first+f)) eX ?_;refine EG (hC _ AJ) 4 27 AJ rfl rfl Aj hS0 rfl Ls ?_;refine EG (hC _ AJ) 5 28 AJ rfl rfl Aj hS0 rfl Ls ?_;refine EG (hC _ AJ) 6 29 AJ rfl rfl Aj hS0 rfl Ls ?_;refine Ui (hC _ AJ) 7 30 5 AJ rfl rfl Aj hS0 rfl (.inl rfl) rfl ?_;refine EG (hC _ AJ) 8 31 AJ rfl rfl Aj hS0 rfl Ls ?_;refine EG (hC _ AJ) 9 32 AJ rfl rfl Aj hS0 rfl Ls ?_;refine EG (hC _ AJ) 10 33 AJ rfl rfl Aj hS0 rfl Ls ?_;refine Ui (hC _ AJ) 11 34 4 AJ rfl rfl Aj hS0 rfl (.inl rfl) rfl ?_;refine EG (hC _ AJ) 12 35 AJ rfl rfl Aj hS0 rfl Ls ?_;refine EG (hC _ AJ) 13 36 AJ rfl rfl Aj hS0 rfl Ls ?_;refine EG (hC _ AJ) 14 37 AJ rfl rfl Aj hS0 rfl Ls ?_;refine EG (hC _ AJ) 15 38 AJ rfl rfl Aj hS0 rfl Ls ?_;refine EG (hC _ AJ) 16 39 AJ rfl rfl Aj hS0 rfl (v:=AP (yA s.holder)) (fun W hW=>Cs rfl AJ (AB7 W hW)) ?_;refine rhF (hC _ AJ) 17 40 AJ rfl rfl rfl rfl (enters_of func18 AJ rfl) P9 (Et.2 (ZP s.schema f v s.holder wr.drew hsc ⟨hf1,hf2⟩ ⟨hv1,hv2⟩ HH.o (R7.o.below (Ae _ _).drew))) AJ ?_;rintro e w4 ⟨rfl,hb⟩;have hb4:AK wr w4:=(Ae _ _).drew.trans hb;have hK4:KX n0 e g w w4:=Zk.o.below hb4 SG.o hgr;have hgm:=Ux HX.o;refine ⟨_,rfl,hK4,?_⟩;refine rhY (hC _ AJ) 18 41 23 lp AJ rfl rfl rfl rfl AJ P9 (HY.o (ms.take k) _ w4 (jb.o _ _ _ HJ.o hb4) hgm.1) AJ ?_;rintro e W' (⟨rfl,hJ',hk'⟩ | ⟨ch,rfl,aT⟩)
  ·have hK5:KX n0 e g w W':=hK4.trans hk'
   refine .inl ⟨_,rfl,hK5,?_⟩;refine EG (hC _ AJ) 19 42 AJ rfl rfl Aj hK5 rfl (v:=Ab false) Ey ?_;refine rhD AJ ?_ _;rw [hgm.2] at hJ';have HJ2:=AA hJ';have TF:=AA hK5;have HT5:AI (Ca W'):=AA (hK5.tab HT0.o);have hs5:wr.heap.size<=W'.heap.size:=BH hb4.size hk'.size;have X6:AI (g < W'.heap.size):=AA (Au hgr hs5);have WU:AI (n0<=W'.heap.size):=AA (BH SG.o hs5);clear hJ' hK5 hK4 hb4 hb hk' hgm hS0 hC;simp only [Ct,DF];go_wp2_with fail;go_roundg (nf - (k+1))
   case measure=>exact BS
   case rel=>exact ⟨k+1,hlt1,rfl,rfl,HJ2.o,TF.o,X6.o,WU.o,HT5.o⟩
  · exact kq
 obtain ⟨q0,hq0⟩:=Ad nf;have hkn:k=nf:=AG
 subst hkn;have c72:wr.cell? ⟨g,72,none⟩=some (AB LA nl cl):=(OU.o wr Zk.o).links.trans (congrArg some hL);have hnl:nl<=9223372036854775807:=by have:=hrd.2.2.1.le;omega
 clear hq0 hrd;go_wp2_with fail;clear c72;obtain ⟨wy,hwy⟩:=Ad wr;subst hwy;have pJ:AI (ms.take k=ms.take (k+0)):=AA rfl;go_loopg [47] nl (fun q i wr=>∃l:Nat,l<=nl/\q=nl - l/\i=AE AF l/\J (ms.take (k+l)) wr/\KX n0 e g w wr/\g < wr.heap.size/\n0<=wr.heap.size/\Ca wr)
 case atStart=>exact ⟨0,Av _,rfl,rfl,HJ.o,Zk.o,hgr,SG.o,R7.o⟩
 clear HQ HJ Zk SG R7 hgr pJ;obtain ⟨l,hl,hq,rfl,hj,hkx,hgr,hnr,htb⟩:=hrel;have HQ:=AA hq;have HJ:=AA hj;have Zk:=AA hkx;have SG:=AA hnr;have R7:=AA htb;have hrd:=HR.o wr hkx;clear hq hj hkx hnr htb;by_cases hlt2:l < nl
 ·obtain ⟨lb,lo,x,rfl,hlb,hf,ef,hf1,hf2⟩:=ints_at hrd.2.2.1 hlt2
  obtain ⟨tb,to,t,rfl,htb,hv,AFM,_,_⟩:=J5 hrd.2.2.2 (Au hlt2 hlt);have hln:(l:Int) < (nl:Int):=AG
  have hlv:(l:Int) < (nt:Int):=AG
  have hl0:(0:Int)<=(l:Int):=AG
  have HX:=AA (Mi.o l x t hf hv);have hfr:=HLR.o x (CS hf);have CY:=AA Gm;have AGL:=AA AFM;have HS9:AI (∀W,KX n0 e g w W->W.cell? ⟨g,2,none⟩=some (AE AF s.schema)/\W.cell? ⟨g,73,none⟩=some (AB (some ⟨tb,to,none⟩) nt ct)/\W.cell? ⟨g,75,none⟩=some (AE AF s.present)):=AA (fun W hW=>⟨(OU.o W hW).schema,(OU.o W hW).tokens.trans (congrArg some hT),(OU.o W hW).present⟩);have AB7:∀W,KX n0 e g w W->(Instr.loadAt 34 (AW (some ⟨tb,to+l*32,none⟩))).run prog W=.ok (AP (yA t)) W:=fun W hW=>FV tb _ AGL.o (AEh (HR.o W hW).2.2.2 hv);have AHg:∀W,KX n0 e g w W->(Instr.loadAt 34 (AW (some ⟨g,4,none⟩))).run prog W=.ok (AP (yA s.holder)) W:=fun W hW=>FV g 4 HH.o (OU.o W hW).holder;have hva:=HVB.o x hfr;have I7:prog.follows .mixedOrders=true:=AJ
  clear hf hv AFM;go_upto_region 9 with fail;refine (Dr (n:=m)).1 ?_;have hS0:KX n0 e g w wr.drew:=Zk.o.below (Ae _ _).drew SG.o hgr;refine rhB (KX n0 e g w) 23 _ I7 AJ rfl ?_;have hC:∀ops,ops.all Pv=true->Clear Fence.wide ops:=fun ops h=>⟨fun _=>trivial,h⟩;refine Ui (hC _ AJ) 0 52 0 AJ rfl rfl Aj hS0 rfl (.inl rfl) rfl ?_;refine Ui (hC _ AJ) 1 53 3 AJ rfl rfl Aj hS0 rfl (.inl rfl) rfl ?_;refine EG (hC _ AJ) 2 54 AJ rfl rfl Aj hS0 rfl Jq ?_;refine EG (hC _ AJ) 3 55 AJ rfl rfl Aj hS0 rfl Jq ?_;refine EG (hC _ AJ) 4 56 AJ rfl rfl Aj hS0 rfl Jq ?_;refine EG (hC _ AJ) 5 57 AJ rfl rfl Aj hS0 rfl Jq ?_;refine Ui (hC _ AJ) 6 58 7 AJ rfl rfl Aj hS0 rfl (.inl rfl) rfl ?_;refine EG (hC _ AJ) 7 59 AJ rfl rfl Aj hS0 rfl (v:=AE AF (first+s.present - 4+x)) eX ?_;refine EG (hC _ AJ) 8 60 AJ rfl rfl Aj hS0 rfl Jq ?_;refine EG (hC _ AJ) 9 61 AJ rfl rfl Aj hS0 rfl Jq ?_;refine EG (hC _ AJ) 10 62 AJ rfl rfl Aj hS0 rfl Jq ?_;refine Ui (hC _ AJ) 11 63 7 AJ rfl rfl Aj hS0 rfl (.inl rfl) rfl ?_;refine EG (hC _ AJ) 12 64 AJ rfl rfl Aj hS0 rfl Jq ?_;refine EG (hC _ AJ) 13 65 AJ rfl rfl Aj hS0 rfl Jq ?_;refine Ui (hC _ AJ) 14 66 6 AJ rfl rfl Aj hS0 rfl (.inl rfl) rfl ?_;refine EG (hC _ AJ) 15 67 AJ rfl rfl Aj hS0 rfl Jq ?_;refine EG (hC _ AJ) 16 68 AJ rfl rfl Aj hS0 rfl (v:=AP (yA t)) (fun W hW=>Cs rfl AJ (AB7 W hW)) ?_;refine EG (hC _ AJ) 17 69 AJ rfl rfl Aj hS0 rfl Jq ?_;refine EG (hC _ AJ) 18 70 AJ rfl rfl Aj hS0 rfl Jq ?_;refine EG (hC _ AJ) 19 71 AJ rfl rfl Aj hS0 rfl (v:=AP (yA s.holder)) (fun W hW=>Cs rfl AJ (AHg W hW)) ?_;refine rhF (hC _ AJ) 20 72 AJ rfl rfl rfl rfl (enters_of func19 AJ rfl) P9 (Et.2 (link_any s.schema x t s.holder wr.drew hsc ⟨hf1,hf2⟩ AGL.o HH.o (R7.o.below (Ae _ _).drew))) AJ ?_;rintro e w4 ⟨rfl,hb⟩;have hb4:AK wr w4:=(Ae _ _).drew.trans hb;have hK4:KX n0 e g w w4:=Zk.o.below hb4 SG.o hgr;have hgm:=Ux HX.o;refine ⟨_,rfl,hK4,?_⟩;refine rhY (hC _ AJ) 21 73 52 lp AJ rfl rfl rfl rfl AJ P9 (HY.o (ms.take (k+l)) _ w4 (jb.o _ _ _ HJ.o hb4) hgm.1) AJ ?_;rintro e W' (⟨rfl,hJ',hk'⟩ | ⟨ch,rfl,aT⟩)
  ·have hK5:KX n0 e g w W':=hK4.trans hk'
   refine .inl ⟨_,rfl,hK5,?_⟩;refine EG (hC _ AJ) 22 74 AJ rfl rfl Aj hK5 rfl (v:=Ab false) Ey ?_;refine rhD AJ ?_ _;rw [hgm.2] at hJ';have HJ2:=AA hJ';have TF:=AA hK5;have HT5:AI (Ca W'):=AA (hK5.tab HT0.o);have hs5:wr.heap.size<=W'.heap.size:=BH hb4.size hk'.size;have X6:AI (g < W'.heap.size):=AA (Au hgr hs5);have WU:AI (n0<=W'.heap.size):=AA (BH SG.o hs5);clear hJ' hK5 hK4 hb4 hb hk' hgm hS0 hC;simp only [Ct,DF];go_wp2_with fail;go_roundg (nl - (l+1))
   case measure=>exact BS
   case rel=>exact ⟨l+1,hlt2,rfl,rfl,HJ2.o,TF.o,X6.o,WU.o,HT5.o⟩
  · exact kq
 have hll:l=nl:=AG
 subst hll;have hX:=G9.o;have I7:prog.follows .mixedOrders=true:=AJ
 have HS8:AI (∀W,KX n0 e g w W->W.cell? ⟨g,2,none⟩=some (AE AF s.schema)/\W.cell? ⟨g,75,none⟩=some (AE AF s.present)):=AA (fun W hW=>⟨(OU.o W hW).schema,(OU.o W hW).present⟩);have AHh:∀W,KX n0 e g w W->(Instr.loadAt 34 (AW (some ⟨g,4,none⟩))).run prog W=.ok (AP (yA s.holder)) W:=fun W hW=>FV g 4 HH.o (OU.o W hW).holder;have hva:=HVC.o;clear hrd;go_upto_region 11 with fail;refine (Dr (n:=m)).1 ?_;have hS0:KX n0 e g w wr.drew:=Zk.o.below (Ae _ _).drew SG.o hgr;refine rhB (KX n0 e g w) 13 _ I7 AJ rfl ?_;have hC:∀ops,ops.all Pv=true->Clear Fence.wide ops:=fun ops h=>⟨fun _=>trivial,h⟩;refine Ui (hC _ AJ) 0 76 0 AJ rfl rfl Aj hS0 rfl (.inl rfl) rfl ?_;refine Ui (hC _ AJ) 1 77 3 AJ rfl rfl Aj hS0 rfl (.inl rfl) rfl ?_;refine EG (hC _ AJ) 2 78 AJ rfl rfl Aj hS0 rfl Ph ?_;refine EG (hC _ AJ) 3 79 AJ rfl rfl Aj hS0 rfl Ph ?_;refine EG (hC _ AJ) 4 80 AJ rfl rfl Aj hS0 rfl (v:=AE AF (first+s.present)) eX ?_;refine EG (hC _ AJ) 5 81 AJ rfl rfl Aj hS0 rfl Ph ?_;refine EG (hC _ AJ) 6 82 AJ rfl rfl Aj hS0 rfl Ph ?_;refine EG (hC _ AJ) 7 83 AJ rfl rfl Aj hS0 rfl Ph ?_;refine EG (hC _ AJ) 8 84 AJ rfl rfl Aj hS0 rfl Ph ?_;refine EG (hC _ AJ) 9 85 AJ rfl rfl Aj hS0 rfl Ph ?_;refine EG (hC _ AJ) 10 86 AJ rfl rfl Aj hS0 rfl (v:=AP (yA s.holder)) (fun W hW=>Cs rfl AJ (AHh W hW)) ?_;refine rhF (hC _ AJ) 11 87 AJ rfl rfl rfl rfl (enters_of func18 AJ rfl) P9 (Et.2 (ZP s.schema (-1) 0 s.holder wr.drew hsc (by constructor <;> decide) (by constructor <;> decide) HH.o (R7.o.below (Ae _ _).drew))) AJ ?_;rintro e w4 ⟨rfl,hb⟩;have hb4:AK wr w4:=(Ae _ _).drew.trans hb;have hK4:KX n0 e g w w4:=Zk.o.below hb4 SG.o hgr;have hgm:=Ux hX.1;have hfull:ms.take (k+l+1)=ms:=Cu (by rw [hX.2];exact Ac _);refine ⟨_,rfl,hK4,?_⟩;refine rhY (hC _ AJ) 12 88 76 lp AJ rfl rfl rfl rfl AJ P9 (HY.o (ms.take (k+l)) _ w4 (jb.o _ _ _ HJ.o hb4) hgm.1) AJ ?_;rintro e W' (⟨rfl,hJ',hk'⟩ | ⟨ch,rfl,aT⟩)
 ·refine .inl ⟨_,rfl,hK4.trans hk',?_⟩
  refine rhD AJ ?_ _;rw [hgm.2,hfull] at hJ';have HJ2:=AA hJ';clear hJ' hK4 hb4 hb hk' hgm hS0 hC hX hfull;simp only [Ct,DF];go_wp2_with fail
  first | go_end0 | refine Eu (results_none rfl _ _ _) rfl ?_
  exact .inl ⟨⟨_,rfl⟩,ms,rfl,HJ2.o⟩
 · exact kq
attribute [local go_sem] Oper.semAt_some
def G4 (e:Int):List PanicEntry:=[{v:=.iface 133 (AP #[AE AF e]),recovered:=false}]
theorem Eg (e:Int) (w:AH):AS prog 38 #[Ab true,AE AF e] w fun en w'=>(∃v,en=AU v)/\w'=w:=by
 go_enter func38,ntmps38;go_wp2_with fail
 go_end0
 exact ⟨⟨_,rfl⟩,rfl⟩
theorem DN (e:Int) (w:AH):AS prog 38 #[Ab false,AE AF e] w fun en w'=>en=Bz (G4 e)/\w'=w:=by go_enter func38,ntmps38;go_wp2_with fail;exact ⟨rfl,rfl,rfl⟩
theorem Uu (A:Option Aa) (m c:Nat) (fs:AQ) (n:Nat) (w:AH) (h:Ag 1 CK w (AB A m c) fs):
 AS prog 43 #[AB A m c,AE AF n] w fun e w'=>e=AU (Ab (NM n (-1) fs))/\w'=w:=by
 have H:=AA h;have hle:m<=9223372036854775807:=by have:=h.le;omega
 have hlen:AI (fs.length=m):=AA h.len.symm;clear h;go_enter func43,ntmps43;go_wp2_with fail;go_loopg [5,10] m (fun q la i wr=>∃(k:Nat) (last:Int),k<=m/\q=m - k/\la=AE AF last/\i=AE AF k/\wr=w/\NM n (-1) fs=NM n last (fs.drop k))
 case atStart=>exact ⟨0, -1,Av _,rfl,rfl,rfl,rfl,rfl⟩
 obtain ⟨k,last,hk,hq,rfl,rfl,rfl,hi⟩:=hrel;have HQ:=AA hq;have HI:=AA hi;clear hq hi;by_cases hlt:k < m
 ·obtain ⟨b,o,f,rfl,hb,hf,ef,_,_⟩:=ints_at H.o hlt
  have hdr:fs.drop k=f::fs.drop (k+1):=by have hkl:=(BD.1 hf).1;rw [Ya hkl];rw [BJ hkl] at hf;injection hf with hf;rw [hf]
  rw [hdr] at HI;have hk1:(k:Int) < (m:Int):=AG
  have hk0:=Int.natCast_nonneg k
  clear hf hdr;by_cases h1:f<=last
  ·go_wp2_with fail
   go_ret;exact ⟨by rw [HI.o,NM,Bc (by omega:¬last < f)];rfl,rfl⟩
  by_cases h2:(n:Int)<=f
  ·go_wp2_with fail
   go_ret;exact ⟨by rw [HI.o,NM,Bc (by omega:¬f < (n:Int)),YG];rfl,rfl⟩
  go_wp2_with fail;go_roundg (m - (k+1))
  case measure=>exact BS
  case rel=>exact ⟨k+1,f,hlt,rfl,rfl,rfl,rfl,by rw [HI.o,NM,BR (by omega:last < f),BR (by omega:f < (n:Int))];rfl⟩
 have hkm:k=m:=AG
 subst hkm;go_wp2_with fail;go_ret;have e:fs.drop k=[]:=Ex (by rw [hlen.o];exact Ac _);exact ⟨by rw [HI.o,e];rfl,rfl⟩
attribute [local go_sem] Oper.semAt_some
structure Ql (S T:AN) (ck:Int) (val:Int->Int->Int->Bool) (w:AH):Prop where
 chk:∀(W:AH),AK w W->AS prog 23 #[T] W fun e w'=>e=AU (AE AF ck)/\AK W w'
 val:∀(sc f v:Int) (W:AH),AK w W->AS prog 46 #[S,AE AF sc,AE AF f,AE AF v] W fun e w'=>e=AU (Ab (val sc f v))/\AK W w'
theorem Ql.below {S T:AN} {ck:Int} {val:Int->Int->Int->Bool} {w w':AH} (h:Ql S T ck val w) (hb:AK w w'):Ql S T ck val w':=
 ⟨fun W hW=>h.chk W (AV hb hW),fun sc f v W hW=>h.val sc f v W (AV hb hW)⟩
def Lz (_:AH) (cs:List AN) (n:Nat):Prop:=∃v0 v1 v2 v3 A c v5,cs=[v0,v1,v2,v3,AB A n c,v5]/\n<=140737488355328/\(∀u∈[v0,v1,v2,v3,v5],u.oneCell'=true)
theorem EK:Eb Lz:=fun _ _ _ _ _ h=>h
theorem Na {W:AH} {A:Option Aa} {n c k:Nat} {ns:List Nat} (h:Ag 6 Lz W (AB A n c) ns) (hk:k < n):
 ∃b off x v0 v1 v2 v3 A1 c1 v5,A=some ⟨b,off,none⟩/\b < W.heap.size/\ns[k]? =some x/\x<=140737488355328/\(∀u∈[v0,v1,v2,v3,v5],u.oneCell'=true)/\(∀j v,[v0,v1,v2,v3,AB A1 x c1,v5][j]? =some v->W.cell? ⟨b,off+k*6+j,none⟩=some v):=by
 obtain ⟨b,off,x,cs,e,hb,hl,hlen,hc,hR⟩:=h.at_ hk;obtain ⟨v0,v1,v2,v3,A1,c1,v5,rfl,hx,ho⟩:=hR;exact ⟨b,off,x,v0,v1,v2,v3,A1,c1,v5,e,hb,hl,hx,ho,fun j v hj=>by rw [Km];exact hc j v hj⟩
theorem SX (v0 v1 v2 v3 v5:AN) (A:Option Aa) (n c:Nat) (w:AH) (hn:n<=140737488355328):
 AS prog 30 #[AP #[v0,v1,v2,v3,AB A n c,v5]] w fun e w'=>e=AU (AE AF ((n:Int)+4+1))/\AK w w':=by
 have e1:IntKind.i64.wrap ((n:Int)+4)=(n:Int)+4:=CN _ AG;have e2:IntKind.i64.wrap ((n:Int)+4+1)=(n:Int)+4+1:=CN _ AG;go_enter func30,ntmps30;exact xX
theorem TX (v0 v1 v3 v4 v5 v6:AN) (A:Option Aa) (n c:Nat) (i:Int) (w:AH):
 AS prog 29 #[AP #[v0,v1,AB A n c,v3,v4,v5,v6],AE AF i] w fun e w'=>e=AU (Ab (decide (0<=i) && decide (i < n)))/\AK w w':=by
 go_enter func29,ntmps29;by_cases h1:0<=i
 ·go_wp2_with fail
  go_ret;exact ⟨by rw [BR h1];rfl,(Ae _ _).alloc (Ac _) _⟩
 go_wp2_with fail;go_ret;exact ⟨by rw [Bc (by omega:¬0<=i)];rfl,(Ae _ _).alloc (Ac _) _⟩
attribute [local go_sem] Oper.semAt_some
def rdA (r:CM):Array AN:=#[AE AF r.Ar,AE AF r.no,AE AF r.schema,AE AF r.day,AE AF r.known,AE AF r.places]++yA r.root
def Bm (ns:List Nat) (i:Int):Option Nat:=if 0<=i then ns[i.toNat]? else none
section
variable {P:BA} {md:Region.Mode} {ops:Array Oper} {Q:Exit->Act->AH->Prop} {S:AH->Prop} {fuel:Nat} {listed:Array Bool} {l:List AN} {D:List Deferred} {w:AH}
theorem ABH (i d:Nat) {o:Oper} {f:FuncId} {xs:Array Operand} {ts:Array Af} {args:Array AN} {R:Ending->AH->Prop} (hr:Region.ready md ops listed=[i]) (hi:ops[i]? =some o) (hd:o.dst=some d) (hw:Region.wanted o (yielded ops l.toArray)=true)
 (ho:o.op=.call {callee:=.value (.func f),args:=xs,argTypes:=ts}) (he:Enters P f) (hc:AS P f args w R) (ha:xs.toList.map (Act.eval ⟨l.toArray,D⟩)=args.toList)
 (h:∀e w',R e w'->∃v,e=AU v/\S w'/\wpAnyH P md ops Q S fuel (listed.setIfInBounds i true) ⟨(l.set d v).toArray,D⟩ w'):wpAnyH P md ops Q S (fuel+1) listed ⟨l.toArray,D⟩ w:=by
 refine wpAnyH_all hr AX fun j hj=> ?_;obtain rfl:j=i:=by simpa using hj
 unfold wpOp;rw [hi];simp only [hw,C5];refine .inl ?_;have e:xs.map (Act.eval ⟨l.toArray,D⟩)=args:=by apply Tl.1;rw [Q9];exact ha
 have hex:(execOp (Act.eval ⟨l.toArray,D⟩) o).run P w=.ok (.enter f args) w:=by unfold execOp;rw [ho];simp [resolve,Act.eval,Deferred.ofValue,invoke,<-e];exact he _ w
 exact xu
end
theorem Xd (v0 v1 v3 v4 v5 v6:AN) (A:Option Aa) (n c:Nat) (ns:List Nat) (r:CM) (w:AH) (hs:Ag 6 Lz w (AB A n c) ns):
 AS prog 27 #[AP #[v0,v1,AB A n c,v3,v4,v5,v6],AP (rdA r)] w fun e w'=>e=AU (Ab (GN (Bm ns r.schema) r.places))/\AK w w':=by
 obtain ⟨sc,hsc1⟩:=Ad r.schema;obtain ⟨pl,vI⟩:=Ad r.places;rw [<-hsc1,<-vI];obtain ⟨R,hR⟩:=Ad (rdA r);obtain ⟨T,hT⟩:=Ad (#[v0,v1,AB A n c,v3,v4,v5,v6]);have HR2:AI (R[2]? =some (AE AF sc)):=AA (by rw [hR,rdA,hsc1,T7 AX];rfl);have S6:AI (R[5]? =some (AE AF pl)):=AA (by rw [hR,rdA,vI,T7 AX];rfl);rw [<-hR,<-hT];have HT:=AA hT;have HS:=AA hs;obtain ⟨X,hX⟩:=Ad ((decide (0<=sc) && decide (sc < n)));have HNI:AI (false=(decide (0<=sc) && decide (sc < n))->Bm ns sc=none):=AA (fun h=>by
  unfold Bm;split
  ·rename_i h0
   rw [BR h0,JI] at h;have h1:=RM h.symm;have hl:=hs.len;exact DT AG
  · rfl)
 have IC:AI (∀W,AS prog 29 #[.agg T,AE AF sc] W fun e w'=>e=AU (Ab X)/\AK W w'):=AA (fun W=>by rw [hT,hX];exact TX v0 v1 v3 v4 v5 v6 A n c sc W);clear hR hT hsc1 vI;go_enter func27,ntmps27;go_upto_region 1 with fail;have hwb:AK w ((w.alloc (AO T 32)).alloc (AO R 36)):=((Ae _ w).alloc (Ac _) _).alloc AX _;have HB1:AI (AZ ((w.alloc (AO T 32)).alloc (AO R 36)) w.heap.size 32 T):=AA ((Kk _ _ _ AX).trans (World.alloc_heap_new w _));have HB2:AI (AZ ((w.alloc (AO T 32)).alloc (AO R 36)) (w.heap.size+1) 36 R):=AA (by have:=World.alloc_heap_new (w.alloc (AO T 32)) (AO R 36);rwa [Ee] at this);have CX:=AA hwb;clear hwb;generalize ((w.alloc (AO T 32)).alloc (AO R 36))=w4 at *;have hd:AK w4 w4.drew:=(Ae _ _).drew;have SJ:AI (∀W,AK w4 W->(Instr.loadAt 32 (AW (some ⟨w.heap.size,0,none⟩))).run prog W=.ok (.agg T) W):=AA (fun W hW=>by simp only [Instr.loadAt,Instr.sureAddr,Ck,DC,Result.andThen_ok,My W w.heap.size 32 32 T (0,0) _ (HB1.o.below hW HB1.o.lt) underlying32 rfl (by rw [HT.o];kernel_rfl)])
 have HC2:AI (∀W,AK w4 W->W.cell? ⟨w.heap.size+1,2,none⟩=some (AE AF sc)/\W.cell? ⟨w.heap.size+1,5,none⟩=some (AE AF pl)/\W.cell? ⟨w.heap.size,2,none⟩=some (AB A n c)):=AA (fun W hW=>by have b1:=HB1.o.below hW HB1.o.lt;have b2:=HB2.o.below hW HB2.o.lt;exact ⟨(b2.cell 2).trans HR2.o,(b2.cell 5).trans S6.o,(b1.cell 2).trans (by rw [HT.o];rfl)⟩)
 have I7:prog.follows .mixedOrders=true:=AJ
 refine Sd (fun W=>AK w4 W) 29 _ I7 AJ rfl ?_;refine C9 0 5 AJ rfl rfl Aj hd rfl (v:=.agg T) (fun W hW=>Cs rfl AJ (SJ.o W hW)) ?_;refine C9 1 6 AJ rfl rfl Aj hd rfl Bk ?_;refine C9 2 7 AJ rfl rfl Aj hd rfl Bk ?_;refine WB 3 8 AJ rfl rfl rfl rfl (enters_of func29 AJ rfl) (IC.o w4.drew) AJ ?_;rintro e w5 ⟨rfl,hb5⟩;have h5:AK w4 w5:=hd.trans hb5;refine ⟨_,rfl,h5,?_⟩;have hq5:AK w w5:=AV CX.o h5;have Hk:=AA hX;clear hX;cases X with
 |
  false=>
  refine C9 4 9 AJ rfl rfl Aj h5 AJ Bk ?_;refine FR 5 10 AJ rfl rfl Aj h5 AJ ?_;refine FR 6 11 AJ rfl rfl Aj h5 AJ ?_;refine FR 7 12 AJ rfl rfl Aj h5 AJ ?_;refine C9 8 13 AJ rfl rfl Aj h5 AJ Bk ?_;refine C9 9 14 AJ rfl rfl Aj h5 AJ Bk ?_;refine FR 10 15 AJ rfl rfl Aj h5 AJ ?_;refine FR 11 16 AJ rfl rfl Aj h5 AJ ?_;refine FR 12 17 AJ rfl rfl Aj h5 AJ ?_;refine C9 13 18 AJ rfl rfl Aj h5 AJ Bk ?_;refine C9 14 19 AJ rfl rfl Aj h5 AJ Bk ?_;refine FR 15 20 AJ rfl rfl Aj h5 AJ ?_;refine FR 16 21 AJ rfl rfl Aj h5 AJ ?_;refine FR 17 22 AJ rfl rfl Aj h5 AJ ?_;refine FR 18 23 AJ rfl rfl Aj h5 AJ ?_;refine FR 19 24 AJ rfl rfl Aj h5 AJ ?_;refine FR 20 25 AJ rfl rfl Aj h5 AJ ?_;refine FR 21 26 AJ rfl rfl Aj h5 AJ ?_;refine FR 22 27 AJ rfl rfl Aj h5 AJ ?_;refine FR 23 28 AJ rfl rfl Aj h5 AJ ?_;refine FR 24 29 AJ rfl rfl Aj h5 AJ ?_;refine FR 25 30 AJ rfl rfl Aj h5 AJ ?_;refine FR 26 31 AJ rfl rfl Aj h5 AJ ?_;refine C9 27 32 AJ rfl rfl Aj h5 AJ Bk ?_;refine C9 28 4 AJ rfl rfl Aj h5 AJ Bk ?_;refine F6 AJ ?_ _;simp only [Ct,DF];go_wp2_with fail;go_ret;exact ⟨by rw [HNI.o Hk.o];rfl,hq5⟩
 |
  true=>
  have hin:0<=sc/\sc < n:=by have h:=Hk.o;rw [eq_comm,Bj,YP,YP] at h;exact h
  obtain ⟨k,rfl⟩:∃k:Nat,sc=(k:Int):=⟨sc.toNat,by omega⟩;have hk:k < n:=AG
  have hk1:(k:Int) < (n:Int):=AG
  have hk0:=Int.natCast_nonneg k
  obtain ⟨b,off,x,x0,x1,x2,x3,B,cc,x5,rfl,hb,hx,hxl,hone,hcell⟩:=Na HS.o hk;have HN:AI (Bm ns k=some x):=AA rJ;have dj:AI (∀W,AK w4 W->(Instr.loadAt 85 (AW (some ⟨b,off+k*6,none⟩))).run prog W=.ok (AP #[x0,x1,x2,x3,AB B x cc,x5]) W):=AA (fun W hW=>by have hr:W.rangeAt b (off+k*6) [x0,x1,x2,x3,AB B x cc,x5]:=fun j v hj=>((AV CX.o hW).cell (p:=⟨b,off+k*6+j,none⟩) hb).trans (hcell j v hj);simp only [Instr.loadAt,Instr.sureAddr,Ck,DC,Result.andThen_ok,Q7 W b (off+k*6) 85 _ _ hr underlying85 rfl AJ])
  have HWD:AI (∀W,AS prog 30 #[AP #[x0,x1,x2,x3,AB B x cc,x5]] W fun e w'=>e=AU (AE AF ((x:Int)+4+1))/\AK W w'):=AA (fun W=>SX x0 x1 x2 x3 x5 B x cc W hxl);have hsz:(prog.info? 85).map (·.size)=some 6:=AJ
  have CY:=AA hsz;clear hx hcell hone;by_cases h1:1<=pl
  ·by_cases h2:pl<=16
   ·have hmul:IntKind.i64.wrap (pl*((x:Int)+4+1))=pl*((x:Int)+4+1):=CN _ (by
     have ha:0<=pl*((x:Int)+4+1):=Kj AG AG;have hb:pl*((x:Int)+4+1)<=16*(140737488355328+4+1):=PN h2 AG AG AG;omega)
    refine C9 4 9 AJ rfl rfl Aj h5 AJ Bk ?_;refine C9 5 10 AJ rfl rfl Aj h5 AJ Bk ?_;refine C9 6 11 AJ rfl rfl Aj h5 AJ Bk ?_;refine C9 7 12 AJ rfl rfl Aj h5 AJ (v:=Ab true) Bk ?_;refine C9 8 13 AJ rfl rfl Aj h5 AJ Bk ?_;refine C9 9 14 AJ rfl rfl Aj h5 AJ Bk ?_;refine C9 10 15 AJ rfl rfl Aj h5 AJ Bk ?_;refine C9 11 16 AJ rfl rfl Aj h5 AJ Bk ?_;refine C9 12 17 AJ rfl rfl Aj h5 AJ (v:=Ab true) Bk ?_;refine C9 13 18 AJ rfl rfl Aj h5 AJ Bk ?_;refine C9 14 19 AJ rfl rfl Aj h5 AJ Bk ?_;refine C9 15 20 AJ rfl rfl Aj h5 AJ Bk ?_;refine C9 16 21 AJ rfl rfl Aj h5 AJ Bk ?_;refine C9 17 22 AJ rfl rfl Aj h5 AJ Bk ?_;refine C9 18 23 AJ rfl rfl Aj h5 AJ Bk ?_;refine C9 19 24 AJ rfl rfl Aj h5 AJ Bk ?_;refine C9 20 25 AJ rfl rfl Aj h5 AJ Bk ?_;refine C9 21 26 AJ rfl rfl Aj h5 AJ Bk ?_;refine C9 22 27 AJ rfl rfl Aj h5 AJ Bk ?_;refine C9 23 28 AJ rfl rfl Aj h5 AJ (v:=AP #[x0,x1,x2,x3,AB B x cc,x5]) (fun W hW=>Cs rfl AJ (dj.o W hW)) ?_;refine ABH 24 29 AJ rfl rfl AJ rfl (enters_of func30 AJ rfl) (HWD.o w5) AJ ?_;rintro e w6 ⟨rfl,hb6⟩;have h6:AK w4 w6:=AV h5 hb6;refine ⟨_,rfl,h6,?_⟩;refine C9 25 30 AJ rfl rfl Aj h6 AJ (v:=AE AF (pl*((x:Int)+4+1))) eZ ?_;refine C9 26 31 AJ rfl rfl Aj h6 AJ (v:=Ab (decide (pl*((x:Int)+4+1)<=256))) Bk ?_;refine C9 27 32 AJ rfl rfl Aj h6 AJ Bk ?_;refine C9 28 4 AJ rfl rfl Aj h6 AJ Bk ?_;refine F6 AJ ?_ _;simp only [Ct,DF];go_wp2_with fail;go_ret;exact ⟨by rw [HN.o,GN,BR h1,BR h2];rfl,AV CX.o h6⟩
   skip
   refine C9 4 9 AJ rfl rfl Aj h5 AJ Bk ?_;refine C9 5 10 AJ rfl rfl Aj h5 AJ Bk ?_;refine C9 6 11 AJ rfl rfl Aj h5 AJ Bk ?_;refine C9 7 12 AJ rfl rfl Aj h5 AJ (v:=Ab true) Bk ?_;refine C9 8 13 AJ rfl rfl Aj h5 AJ Bk ?_;refine C9 9 14 AJ rfl rfl Aj h5 AJ Bk ?_;refine C9 10 15 AJ rfl rfl Aj h5 AJ Bk ?_;refine C9 11 16 AJ rfl rfl Aj h5 AJ Bk ?_;refine C9 12 17 AJ rfl rfl Aj h5 AJ (v:=Ab false) Bk ?_;refine C9 13 18 AJ rfl rfl Aj h5 AJ Bk ?_;refine C9 14 19 AJ rfl rfl Aj h5 AJ Bk ?_;refine FR 15 20 AJ rfl rfl Aj h5 AJ ?_;refine FR 16 21 AJ rfl rfl Aj h5 AJ ?_;refine FR 17 22 AJ rfl rfl Aj h5 AJ ?_;refine FR 18 23 AJ rfl rfl Aj h5 AJ ?_;refine FR 19 24 AJ rfl rfl Aj h5 AJ ?_;refine FR 20 25 AJ rfl rfl Aj h5 AJ ?_;refine FR 21 26 AJ rfl rfl Aj h5 AJ ?_;refine FR 22 27 AJ rfl rfl Aj h5 AJ ?_;refine FR 23 28 AJ rfl rfl Aj h5 AJ ?_;refine FR 24 29 AJ rfl rfl Aj h5 AJ ?_;refine FR 25 30 AJ rfl rfl Aj h5 AJ ?_;refine FR 26 31 AJ rfl rfl Aj h5 AJ ?_;refine C9 27 32 AJ rfl rfl Aj h5 AJ Bk ?_;refine C9 28 4 AJ rfl rfl Aj h5 AJ Bk ?_;refine F6 AJ ?_ _;simp only [Ct,DF];go_wp2_with fail;go_ret;exact ⟨by rw [HN.o,GN,Bc (by omega:¬pl<=16),YG];rfl,hq5⟩
  skip
  refine C9 4 9 AJ rfl rfl Aj h5 AJ Bk ?_;refine C9 5 10 AJ rfl rfl Aj h5 AJ Bk ?_;refine C9 6 11 AJ rfl rfl Aj h5 AJ Bk ?_;refine C9 7 12 AJ rfl rfl Aj h5 AJ (v:=Ab false) Bk ?_;refine C9 8 13 AJ rfl rfl Aj h5 AJ Bk ?_;refine C9 9 14 AJ rfl rfl Aj h5 AJ Bk ?_;refine FR 10 15 AJ rfl rfl Aj h5 AJ ?_;refine FR 11 16 AJ rfl rfl Aj h5 AJ ?_;refine FR 12 17 AJ rfl rfl Aj h5 AJ ?_;refine C9 13 18 AJ rfl rfl Aj h5 AJ Bk ?_;refine C9 14 19 AJ rfl rfl Aj h5 AJ Bk ?_;refine FR 15 20 AJ rfl rfl Aj h5 AJ ?_;refine FR 16 21 AJ rfl rfl Aj h5 AJ ?_;refine FR 17 22 AJ rfl rfl Aj h5 AJ ?_;refine FR 18 23 AJ rfl rfl Aj h5 AJ ?_;refine FR 19 24 AJ rfl rfl Aj h5 AJ ?_;refine FR 20 25 AJ rfl rfl Aj h5 AJ ?_;refine FR 21 26 AJ rfl rfl Aj h5 AJ ?_;refine FR 22 27 AJ rfl rfl Aj h5 AJ ?_;refine FR 23 28 AJ rfl rfl Aj h5 AJ ?_;refine FR 24 29 AJ rfl rfl Aj h5 AJ ?_;refine FR 25 30 AJ rfl rfl Aj h5 AJ ?_;refine FR 26 31 AJ rfl rfl Aj h5 AJ ?_;refine C9 27 32 AJ rfl rfl Aj h5 AJ Bk ?_;refine C9 28 4 AJ rfl rfl Aj h5 AJ Bk ?_;refine F6 AJ ?_ _;simp only [Ct,DF];go_wp2_with fail;go_ret;exact ⟨by rw [HN.o,GN,Bc (by omega:¬1<=pl)];rfl,hq5⟩
attribute [local go_sem] Oper.semAt_some
theorem Xr (v0 v1 v3 v4 v5 v6:AN) (A:Option Aa) (n c:Nat) (ns:List Nat) (k x:Nat) (B:Option Aa) (m mc:Nat) (vs:AQ) (ck:Int) (val:Int->Int->Int->Bool) (w:AH) (hs:Ag 6 Lz w (AB A n c) ns) (hx:ns[k]? =some x)
 (hv:Ag 1 CK w (AB B m mc) vs) (hK:Ql (AP #[v0,v1,AB A n c,v3,v4,v5]) (AP #[v0,v1,AB A n c,v3,v4,v5,v6]) ck val w):
 AS prog 39 #[AP #[v0,v1,AB A n c,v3,v4,v5,v6],AE AF k,AB B m mc] w fun e w'=>e=AU (Ab (EL x (val k) vs))/\AK w w':=by
 have hk:k < n:=by rw [hs.len];exact (BD.1 hx).1
 have hk1:(k:Int) < (n:Int):=AG
 have hk0:=Int.natCast_nonneg k
 have hle:m<=9223372036854775807:=by have:=hv.le;omega
 have hlen:=hv.len;obtain ⟨b,off,x',x0,x1,x2,x3,C,cc,x5,rfl,hb,hx',hxl,hone,hcell⟩:=Na hs hk;rw [hx] at hx';injection hx' with hx';subst hx';obtain ⟨T,hT⟩:=Ad (#[v0,v1,AB (some ⟨b,off,none⟩) n c,v3,v4,v5,v6]);have HT:=AA hT;have HV:=AA hv;have HKN:=AA hK;have HLEN:=AA hlen;have hc4:∀W,AK w W->W.cell? ⟨b,off+k*6+4,none⟩=some (AB C x cc):=fun W hW=>(hW.cell (p:=⟨b,off+k*6+4,none⟩) hb).trans (hcell 4 _ rfl);have PD:=AA hc4;have hsz:(prog.info? 85).map (·.size)=some 6:=AJ
 have CY:=AA hsz;rw [<-hT];clear hs hv hK hlen hcell hone hx hT hc4;go_enter func39,ntmps39;go_upto_region 1 with fail;have HB1:AI (AZ (w.alloc (AO T 32)) w.heap.size 32 T):=AA (World.alloc_heap_new w _);have CX:AI (AK w (w.alloc (AO T 32))):=AA ((Ae _ w).alloc (Ac _) _);generalize (w.alloc (AO T 32))=w4 at *;have c2:w4.cell? ⟨w.heap.size,2,none⟩=some (AB (some ⟨b,off,none⟩) n c):=(HB1.o.cell 2).trans (by rw [HT.o];rfl);have c4:=PD.o w4 CX.o;by_cases hmx:m=x
 ·subst hmx
  go_wp2_with fail;clear c2 c4;obtain ⟨Z,hZ⟩:=Ad ((upto m).zip vs);have HZ:AI (∀(j:Nat) v,vs[j]? =some v->Z[j]? =some ((j:Int),v)):=AA (fun j v h=>by have hj:=(BD.1 h).1;rw [hZ,Ic];refine ⟨?_,h⟩;rw [upto,Bb,Lp (by rw [HLEN.o];exact hj)];rfl)
  have dW:AI (Z.length=m):=AA (by rw [hZ,List.length_zip,<-HLEN.o,upto,Cb,YN,Nat.min_self]);have NR:AI (EL m (val k) vs=Z.all fun p=>val k p.1 p.2):=AA (by rw [EL,BR (by rw [<-HLEN.o]:vs.length=m),JI,hZ]);clear hZ;have H0:AI (BI w.heap.size w4 w4):=AA (Ae _ _);go_loopg [22] m (fun q i wr=>∃j:Nat,j<=m/\q=m - j/\i=AE AF j/\(Z.all fun p=>val k p.1 p.2)=((Z.drop j).all fun p=>val k p.1 p.2)/\AK w4 wr)
  case atStart=>exact Lc
  obtain ⟨j,hj,hq,rfl,hall,hbw⟩:=hrel;have HQ:=AA hq;have EC:=AA hall;have CO:=AA hbw;have hvr:=(HV.o.mono BX (AV CX.o hbw));clear hq hall hbw;by_cases hlt:j < m
  ·obtain ⟨fb,fo,v,rfl,hfb,hf,ef,_,_⟩:=ints_at hvr hlt
   have hj1:(j:Int) < (m:Int):=AG
   have hj0:(0:Int)<=(j:Int):=AG
   have hdr:Z.drop j=((j:Int),v)::Z.drop (j+1):=by have hz:=HZ.o j v hf;have hkl:=(BD.1 hz).1;rw [Ya hkl];rw [BJ hkl] at hz;injection hz with hz;rw [hz]
   have HDR:AI ((Z.all fun p=>val k p.1 p.2)=(val k j v && (Z.drop (j+1)).all fun p=>val k p.1 p.2)):=AA (by rw [EC.o,hdr];rfl);obtain ⟨Y,hY⟩:=Ad (val k j v);rw [<-hY] at HDR;have HCV:AI (∀W,AK w4 W->AS prog 46 #[AP #[v0,v1,AB (some ⟨b,off,none⟩) n c,v3,v4,v5],AE AF k,AE AF j,AE AF v] W fun e w'=>e=AU (Ab Y)/\AK W w'):=AA (fun W hW=>by rw [hY];exact HKN.o.val k j v W (AV CX.o hW));have SC:AI (wr.rangeAt w.heap.size 0 [v0,v1,AB (some ⟨b,off,none⟩) n c,v3,v4,v5]):=AA (fun q u hu=>by
    have b1:=HB1.o.below CO.o HB1.o.lt;have hq6:q < 6:=(BD.1 hu).1;rw [Fc];refine (b1.cell q).trans ?_;rw [HT.o,Ak,<-hu];rcases q with _ | _ | _ | _ | _ | _ | q
    all_goals first | rfl | omega)
   have d0:wr.cell? ⟨w.heap.size,0,none⟩=some v0:=by simpa using SC.o 0 _ rfl
   have d1:wr.cell? ⟨w.heap.size,1,none⟩=some v1:=by simpa using SC.o 1 _ rfl
   have d2:wr.cell? ⟨w.heap.size,2,none⟩=some (AB (some ⟨b,off,none⟩) n c):=by simpa using SC.o 2 _ rfl
   have d3:wr.cell? ⟨w.heap.size,3,none⟩=some v3:=by simpa using SC.o 3 _ rfl
   have d4:wr.cell? ⟨w.heap.size,4,none⟩=some v4:=by simpa using SC.o 4 _ rfl
   have d5:wr.cell? ⟨w.heap.size,5,none⟩=some v5:=by simpa using SC.o 5 _ rfl
   clear hf hdr hY hvr;cases Y with
   |
    false=>
    go_wp2_with (first
     | (
      go_at_call 46;refine (HCV.o _ CO.o).mono ?_;rintro e w6 ⟨rfl,hb6⟩;have Fu:=AA hb6;clear hb6))
    go_ret;exact ⟨by rw [NR.o,HDR.o];rfl,AV CX.o (AV CO.o Fu.o)⟩
   |
    true=>
    go_wp2_with (first
     | (
      go_at_call 46;refine (HCV.o _ CO.o).mono ?_;rintro e w6 ⟨rfl,hb6⟩;have Fu:=AA (AV CO.o hb6);clear hb6))
    go_roundg (m - (j+1))
    case measure=>exact BS
    case rel=>exact ⟨j+1,hlt,rfl,rfl,by rw [HDR.o,JI],Fu.o⟩
  have hjm:j=m:=AG
  subst hjm;go_wp2_with fail;go_ret;have e:Z.drop j=[]:=Ex (by rw [dW.o];exact Ac _);exact ⟨by rw [NR.o,EC.o,e];rfl,AV CX.o CO.o⟩
 have hne:¬(m:Int)=(x:Int):=AG
 go_wp2_with fail;go_ret;exact ⟨by rw [EL,Bc (by rw [<-HLEN.o];exact hmx)];rfl,CX.o⟩
attribute [local go_sem] Oper.semAt_some
def UV (ck:Int) (nf:Option Nat):Int×Int:=if ck≠0 then (0,160) else match nf with
 | none=>(0,1)
 | some n=>((n:Int)+4+1,0)
theorem Xt (v0 v1 v3 v4 v5 v6:AN) (A:Option Aa) (n c:Nat) (ns:List Nat) (i:Int) (ck:Int) (val:Int->Int->Int->Bool) (w:AH) (hs:Ag 6 Lz w (AB A n c) ns)
 (hK:Ql (AP #[v0,v1,AB A n c,v3,v4,v5]) (AP #[v0,v1,AB A n c,v3,v4,v5,v6]) ck val w):
 AS prog 10 #[AP #[v0,v1,AB A n c,v3,v4,v5,v6],AE AF i] w fun e w'=>e=AU (.tuple #[AE AF (UV ck (Bm ns i)).1,AE AF (UV ck (Bm ns i)).2])/\AK w w':=by
 have HS:=AA hs;obtain ⟨X,hX⟩:=Ad ((decide (0<=i) && decide (i < n)));have Mn:=AA hK.chk;have IC:AI (∀W,AS prog 29 #[AP #[v0,v1,AB A n c,v3,v4,v5,v6],AE AF i] W fun e w'=>e=AU (Ab X)/\AK W w'):=AA (fun W=>by rw [hX];exact TX v0 v1 v3 v4 v5 v6 A n c i W);have HX:=AA hX;clear hs hX hK;go_enter func10,ntmps10;go_upto_region 1 with fail;have HB1:AI (AZ (w.alloc (AO #[v0,v1,AB A n c,v3,v4,v5,v6] 32)) w.heap.size 32 #[v0,v1,AB A n c,v3,v4,v5,v6]):=AA (World.alloc_heap_new w _);have CX:AI (AK w (w.alloc (AO #[v0,v1,AB A n c,v3,v4,v5,v6] 32))):=AA ((Ae _ w).alloc (Ac _) _);generalize (w.alloc (AO #[v0,v1,AB A n c,v3,v4,v5,v6] 32))=w4 at *;have HD:AI (∀W,AK w4 W->W.cell? ⟨w.heap.size,0,none⟩=some v0/\W.cell? ⟨w.heap.size,1,none⟩=some v1/\W.cell? ⟨w.heap.size,2,none⟩=some (AB A n c)/\W.cell? ⟨w.heap.size,3,none⟩=some v3/\W.cell? ⟨w.heap.size,4,none⟩=some v4/\W.cell? ⟨w.heap.size,5,none⟩=some v5/\W.cell? ⟨w.heap.size,6,none⟩=some v6):=AA (fun W hW=>by have b:=HB1.o.below hW HB1.o.lt;exact ⟨b.cell 0,b.cell 1,b.cell 2,b.cell 3,b.cell 4,b.cell 5,b.cell 6⟩)
 obtain ⟨d0,d1,d2,d3,d4,d5,d6⟩:=HD.o w4 (Ae _ _);by_cases hck:ck=0
 ·subst hck
  go_upto_region 3 with (first
   | (
    go_at_call 23;refine (Mn.o _ CX.o).mono ?_;rintro e w5 ⟨rfl,hb5⟩;obtain ⟨c0,c1,c2,c3,c4,c5,c6⟩:=HD.o w5 hb5;have CP:=AA hb5;clear hb5 d0 d1 d2 d3 d4 d5 d6))
  cases X with
  |
   false=>
   have Hk:AI (Bm ns i=none):=AA (by
    have h:=HX.o;unfold Bm;split
    ·rename_i h0
     rw [BR h0,JI] at h;have h1:=RM h.symm;have hl:=HS.o.len;exact DT AG
    · rfl)
   clear HX;go_wp2_with (first
    | (
     go_at_call 29;refine (IC.o _).mono ?_;rintro e w6 ⟨rfl,hb6⟩;have Fu:=AA (AV CP.o hb6);clear hb6))
   go_ret2;exact ⟨by rw [Hk.o];rfl,AV CX.o Fu.o⟩
  |
   true=>
   have hin:0<=i/\i < n:=by have h:=HX.o;rw [eq_comm,Bj,YP,YP] at h;exact h
   obtain ⟨k,rfl⟩:∃k:Nat,i=(k:Int):=⟨i.toNat,by omega⟩;have hk:k < n:=AG
   have hk1:(k:Int) < (n:Int):=AG
   have hk0:=Int.natCast_nonneg k
   obtain ⟨b,off,x,x0,x1,x2,x3,B,cc,x5,rfl,hb,hx,hxl,hone,hcell⟩:=Na HS.o hk;have Hk:AI (Bm ns k=some x):=AA rJ;have HWD:AI (∀W,AS prog 30 #[AP #[x0,x1,x2,x3,AB B x cc,x5]] W fun e w'=>e=AU (AE AF ((x:Int)+4+1))/\AK W w'):=AA (fun W=>SX x0 x1 x2 x3 x5 B x cc W hxl);have HC:AI (∀W,AK w W->∀j v,[x0,x1,x2,x3,AB B x cc,x5][j]? =some v->W.cell? ⟨b,off+k*6+j,none⟩=some v):=AA (fun W hW j v hj=>(hW.cell (p:=⟨b,off+k*6+j,none⟩) hb).trans (hcell j v hj));have hsz:(prog.info? 85).map (·.size)=some 6:=AJ
   have CY:=AA hsz;clear hx hcell hone HX hin;go_wp2_with (first
    | (
     go_at_call 29;refine (IC.o _).mono ?_;rintro e w6 ⟨rfl,hb6⟩;have Fu:=AA (AV CP.o hb6);have g2:=(HD.o w6 Fu.o).2.2.1;have e0:w6.cell? ⟨b,off+k*6,none⟩=some x0:=HC.o w6 (AV CX.o Fu.o) 0 _ rfl;have e1:=HC.o w6 (AV CX.o Fu.o) 1 _ rfl;have e2:=HC.o w6 (AV CX.o Fu.o) 2 _ rfl;have e3:=HC.o w6 (AV CX.o Fu.o) 3 _ rfl;have e4:=HC.o w6 (AV CX.o Fu.o) 4 _ rfl;have e5:=HC.o w6 (AV CX.o Fu.o) 5 _ rfl;clear hb6 c0 c1 c2 c3 c4 c5 c6)
    | (
     go_at_call 30;refine (HWD.o _).mono ?_;rintro e w7 ⟨rfl,hb7⟩;have Da:=AA (AV Fu.o hb7);clear hb7))
   go_ret2;exact ⟨by rw [Hk.o];rfl,AV CX.o Da.o⟩
 go_wp2_with (first
  | (
   go_at_call 23;refine (Mn.o _ CX.o).mono ?_;rintro e w5 ⟨rfl,hb5⟩;have CP:=AA (AV CX.o hb5);clear hb5))
 go_ret2;exact ⟨by simp only [UV,ne_eq,hck,not_false_eq_true,C5];rfl,CP.o⟩
theorem AAD:(prog.info? 3).map (fun i=>(i.zero,i.size,i.bytes))=some (some (AE AF 0),1,8):=by kernel_rfl
theorem oS {α:Type} {R:AH->List AN->α->Prop} (hone:One R) (A:Option Aa) (n c:Nat) (l:List α) (w:AH) (hs:Ag 1 R w (AB A n c) l) (hbd:l.length*8<=140737488355328):
 AS prog 44 #[AB A n c] w fun e w'=>∃v cs,e=AU v/\Aq 1 R w cs l/\w'.ownsRow w.heap.size 3 1 v l.length cs/\AK w w':=by
 have hlen:=hs.len;have HS:=AA hs;clear hs;rcases A with _ | ad
 ·have hl:l=[]:=by
   cases l with
   | nil=>rfl
   | cons x r=>obtain ⟨b,off,x,cs,e,_⟩:=HS.o.at_ (k:=0) (by rw [hlen];simp);cases e
  subst hl;obtain rfl:n=0:=by simpa using hlen
  clear hlen hbd;have hnil:=fun w:AH=>Lib.run_eql_slice_nil (P:=prog) w 30 3 none 0 c 0 0 underlying30;simp only [Option.isNone_none] at hnil;go_enter func44,ntmps44
  go_wp2
  exact lK
 obtain ⟨i0,hi,hz0,hz1,hz2⟩:=Kh AAD;have HLEN:=AA hlen;clear hlen;have hnb:n*8<=140737488355328:=by rw [HLEN.o];exact hbd
 have hnil:=fun w:AH=>Lib.run_eql_slice_nil (P:=prog) w 30 3 (some ad) n c 0 0 underlying30;simp only [Option.isNone_some] at hnil;go_enter func44,ntmps44;go_wp2_with (at_builtin;refine CU _ rfl (.tmp 5) (.tmp 6) 30 3 rfl i0 _ 8 underlying30 hi hz0 hz1 hz2 rfl Ah (R:=fun _=>R w) (fun _=>hone w) w.heap.size (AB (some ⟨w.heap.size,0,none⟩) 0 0) 0 [] rfl (World.ownsRow_lit w #[] 0 (Ac _) (Av _) rfl) (some ad) n c l rfl (HS.o.fix (BE _ _)) FN AG AX ?_;intro v' w1 cs hcs hown hgr hat);exact lN
theorem AFD:(prog.info? 34).map (fun i=>(i.zero,i.size,i.bytes))=some (some (AP (yA (zeros 32))),32,32):=by kernel_rfl
theorem ACv {α:Type} {R:AH->List AN->α->Prop} (hone:One R) (A:Option Aa) (n c:Nat) (l:List α) (w:AH) (hs:Ag 32 R w (AB A n c) l) (hbd:l.length*32<=140737488355328):
 AS prog 56 #[AB A n c] w fun e w'=>∃v cs,e=AU v/\Aq 32 R w cs l/\w'.ownsRow w.heap.size 34 32 v l.length cs/\AK w w':=by
 have hlen:=hs.len;have HS:=AA hs;clear hs;rcases A with _ | ad
 ·have hl:l=[]:=by
   cases l with
   | nil=>rfl
   | cons x r=>obtain ⟨b,off,x,cs,e,_⟩:=HS.o.at_ (k:=0) (by rw [hlen];simp);cases e
  subst hl;obtain rfl:n=0:=by simpa using hlen
  clear hlen hbd;have hnil:=fun w:AH=>Lib.run_eql_slice_nil (P:=prog) w 37 34 none 0 c 0 0 underlying37;simp only [Option.isNone_none] at hnil;go_enter func56,ntmps56
  go_wp2
  exact lK
 obtain ⟨i0,hi,hz0,hz1,hz2⟩:=Kh AFD;have HLEN:=AA hlen;clear hlen;have hnb:n*32<=140737488355328:=by rw [HLEN.o];exact hbd
 have hnil:=fun w:AH=>Lib.run_eql_slice_nil (P:=prog) w 37 34 (some ad) n c 0 0 underlying37;simp only [Option.isNone_some] at hnil;go_enter func56,ntmps56;go_wp2_with (at_builtin;refine CU _ rfl (.tmp 5) (.tmp 6) 37 34 rfl i0 _ 32 underlying37 hi hz0 hz1 hz2 rfl Ah (R:=fun _=>R w) (fun _=>hone w) w.heap.size (AB (some ⟨w.heap.size,0,none⟩) 0 0) 0 [] rfl (World.ownsRow_lit w #[] 0 (Ac _) (Av _) rfl) (some ad) n c l rfl (HS.o.fix (BE _ _)) FN AG AX ?_;intro v' w1 cs hcs hown hgr hat);exact lN
def veil (S:List Nat) (w:AH):AH:={w with heap:=w.heap.mapIdx (fun b o=>if b∈S then .cells #[] 0 else o)}
section
variable {S S':List Nat} {w w' w0:AH}
theorem Dz:(veil S w).heap.size=w.heap.size:=by simp [veil]
theorem I9 {b:Nat} (h:b∉S):(veil S w).heap[b]? =w.heap[b]? :=by
 simp only [veil,RK];cases w.heap[b]? with
 | none=>rfl
 | some o=>rw [Cl,Ai h]
theorem Rc {b:Nat} (h:b∈S) (hb:b < w.heap.size):(veil S w).heap[b]? =some (AO #[] 0):=by simp only [veil,RK];rw [Yd hb,Cl,Ao h]
theorem SY {b o:Nat} {v:AN} (h:(veil S w).cell? ⟨b,o,none⟩=some v):w.cell? ⟨b,o,none⟩=some v:=by
 by_cases hb:b∈S
 ·exfalso
  by_cases hs:b < w.heap.size
  · simp [World.cell?,Rc (w:=w) hb hs] at h
  have:(veil S w).heap[b]? =none:=by rw [Mz];rw [Dz];omega
  simp [World.cell?,this] at h
 rw [<-h];exact (Kl (I9 hb)).symm
def ti {α:Type} (R:AH->List AN->α->Prop):Prop:=∀(S:List Nat) (w:AH) (cs:List AN) (x:α),R (veil S w) cs x->R w cs x
theorem Ag.Ob {α:Type} {sz:Nat} {R:AH->List AN->α->Prop} (hR:ti R) {v:AN} {l:List α} (h:Ag sz R (veil S w) v l):Ag sz R w v l:=by obtain ⟨A,cap,e,h1,h2,h3⟩:=h;refine ⟨A,cap,e,h1,h2,fun i x hi=> ?_⟩;obtain ⟨b,off,cs,rfl,hlt,hl,hc,hr⟩:=h3 i x hi;exact ⟨b,off,cs,rfl,by rwa [Dz] at hlt,hl,fun j u hu=>SY (hc j u hu),hR _ _ _ _ hr⟩
theorem Aq.Ob {α:Type} {sz:Nat} {R:AH->List AN->α->Prop} (hR:ti R) {cs:List AN} {l:List α} (h:Aq sz R (veil S w) cs l):Aq sz R w cs l:=⟨h.1,fun i x hi=>hR _ _ _ _ (h.2 i x hi)⟩
theorem IE {row:Option Nat} (hg:w.grownBy w' row) (hr:∀r,row=some r->r < w.heap.size->r∈S) (hS:∀b,b < w.heap.size->(b∈S'↔b∈S)):BI (veil S w).heap.size (veil S w) (veil S' w'):=by
 refine ⟨hg.os,hg.tape,hg.output,by rw [Dz,Dz];exact hg.size,fun k hk=> ?_⟩;rw [Dz] at hk;by_cases hb:k∈S
 · rw [Rc hb hk,Rc ((hS k hk).2 hb) (Au hk hg.size)]
 rw [I9 hb,I9 (fun h=>hb ((hS k hk).1 h))];exact hg.block k hk (fun e=>hb (hr k e.symm hk))
theorem M3 (hb:AK w w'):BI (veil S w).heap.size (veil S w) (veil S w'):=
 IE (row:=none) ⟨hb.os,hb.tape,hb.output,hb.size,fun k hk _=>hb.block k hk⟩ AX (fun _ _=>Iff.rfl)
theorem Ra {base:Nat} {e:Af} {sz:Nat} {v:AN} {n:Nat} {cs:List AN} (h:w.ownsRow base e sz v n cs) (hS:∀b∈S,b < base):(veil S w).ownsRow base e sz v n cs:=by
 refine ⟨h.1,?_⟩;rcases h.2 with h | ⟨g,cap,cur,h1,h2,h3,h4⟩
 · exact .inl h
 · exact .inr ⟨g,cap,cur,h1,h2,(I9 (fun hm=>by have:=hS g hm;omega)).trans h3,h4⟩
theorem ABR {base:Nat} {e:Af} {sz:Nat} {v:AN} {n:Nat} {cs:List AN} (h:w.ownsRow base e sz v n cs):(v=AB none 0 0/\n=0)\/∃g cap,v=AB (some ⟨g,0,none⟩) n cap/\base<=g/\g < w.heap.size:=by
 rcases h.2 with ⟨rfl,h0⟩ | ⟨g,cap,cur,rfl,h2,h3,h4,h5,_⟩
 · exact .inl ⟨rfl,h0⟩
 · exact .inr ⟨g,cap,rfl,h2,(C6.1 h3).1⟩
def Qx {α:Type} (L:Nat) (T:Af) (sz:Nat) (R:AH->List AN->α->Prop) (v:AN) (l:List α) (w:AH):Prop:=
 ∃cs S,w.ownsRow L T sz v l.length cs/\(∀r,v.ownBlock=some r->r∈S)/\(∀b∈S,L<=b/\b < w.heap.size)/\Aq sz R (veil S w) cs l
variable {α:Type} {L:Nat} {T:Af} {sz:Nat} {R:AH->List AN->α->Prop} {v:AN} {l:List α}
theorem Qx.below (h:Qx L T sz R v l w) (hR:Eb R) (hb:AK w w'):Qx L T sz R v l w':=by obtain ⟨cs,S,h1,h2,h3,h4⟩:=h;exact ⟨cs,S,EW h1 hb,h2,fun b hm=>⟨(h3 b hm).1,Au (h3 b hm).2 hb.size⟩,h4.mono hR (M3 hb)⟩
theorem Qx.form (h:Qx L T sz R v l w):∃A c,v=AB A l.length c:=by
 obtain ⟨cs,S,h1,_⟩:=h;rcases ABR h1 with ⟨rfl,h0⟩ | ⟨g,cap,rfl,_⟩
 · exact ⟨none,0,by rw [h0]⟩
 · exact ⟨_,cap,rfl⟩
theorem Qx.sl (h:Qx L T sz R v l w) (hR:ti R):Ag sz R w v l:=by obtain ⟨cs,S,h1,h2,h3,h4⟩:=h;exact CW h1 (h4.Ob hR) rfl
theorem Qx.push {cs:List AN} (h2:∀r,v.ownBlock=some r->r∈S) (h3:∀b∈S,L<=b/\b < w.heap.size) (hc:Aq sz R (veil S w) cs l) (hR:Eb R) {v':AN} {news:List AN} {r:List α} {n:Nat}
 (hown:w'.ownsRow L T sz v' n (cs++news)) (hn:n=(l++r).length) (hg:w.grownBy w' v.ownBlock) (hat:v'.ownBlock=v.ownBlock\/v'.ownBlock=some w.heap.size) (hL:L<=w.heap.size) (hx:Aq sz R (veil S w) news r):Qx L T sz R v' (l++r) w':=by
 have hlt:∀r,v'.ownBlock=some r->r < w'.heap.size:=fun r e=>(hown.lt r e).2;subst hn;rcases hat with hat | hat
 ·refine ⟨_,S,hown,fun r e=>h2 r (by rw [<-hat];exact e),fun b hm=>⟨(h3 b hm).1,Au (h3 b hm).2 hg.size⟩,?_⟩
  have hb:=IE (S:=S) (S':=S) hg (fun r e _=>h2 r e) (fun _ _=>Iff.rfl);exact (hc.mono hR hb).append (hx.mono hR hb)
 refine ⟨_,w.heap.size::S,hown,fun r e=>by rw [hat] at e;injection e with e;simp [e],fun b hm=> ?_,?_⟩
 ·rcases CJ.1 hm with rfl | hm
  · exact ⟨hL,hlt _ hat⟩
  · exact ⟨(h3 b hm).1,Au (h3 b hm).2 hg.size⟩
 have hb:=IE (S:=S) (S':=w.heap.size::S) hg (fun r e _=>h2 r e) (fun b hlt=>by rw [CJ];exact ⟨fun h=>h.resolve_left AG,.inr⟩)
 exact (hc.mono hR hb).append (hx.mono hR hb)
end
def Dt (w:AH) (cs:List AN) (q:Cj):Prop:=∃A n c B m d,cs=[AE AF q.index,AB A n c,AB B m d]/\Ag 32 CV w (AB A n c) q.chains/\Ag 32 CV w (AB B m d) q.path
theorem Bd:Eb Dt:=fun w w' hb cs q h=>by obtain ⟨A,n,c,B,m,d,e,h1,h2⟩:=h;exact ⟨A,n,c,B,m,d,e,h1.mono BK hb,h2.mono BK hb⟩
theorem R0:ti CV:=fun _ _ _ _ h=>h
theorem Ns:ti CK:=fun _ _ _ _ h=>h
theorem QS:ti Dt:=fun S w cs q h=>by obtain ⟨A,n,c,B,m,d,e,h1,h2⟩:=h;exact ⟨A,n,c,B,m,d,e,h1.Ob R0,h2.Ob R0⟩
theorem OJ {W:AH} {A:Option Aa} {n c k:Nat} {l:List Cj} (h:Ag 3 Dt W (AB A n c) l) (hk:k < n):
 ∃b off q B m d C i j,A=some ⟨b,off,none⟩/\b < W.heap.size/\l[k]? =some q/\Ag 32 CV W (AB B m d) q.chains/\Ag 32 CV W (AB C i j) q.path/\∀j' v,[Value.int .i64 q.index,AB B m d,AB C i j][j']? =some v->W.cell? ⟨b,off+k*3+j',none⟩=some v:=by
 obtain ⟨b,off,q,cs,rfl,hb,hq,hl,hc,B,m,d,C,i,j,rfl,h1,h2⟩:=h.at_ hk;exact ⟨b,off,q,B,m,d,C,i,j,rfl,hb,hq,h1,h2,fun j' v hv=>by rw [Km];exact hc j' v hv⟩
theorem Ok {l:AQ} (h:l.length=32):l=[l.getD 0 0,l.getD 1 0,l.getD 2 0,l.getD 3 0,l.getD 4 0,l.getD 5 0,l.getD 6 0,l.getD 7 0,l.getD 8 0,l.getD 9 0,l.getD 10 0,l.getD 11 0,l.getD 12 0,l.getD 13 0,l.getD 14 0,l.getD 15 0,l.getD 16 0,l.getD 17 0,l.getD 18 0,l.getD 19 0,l.getD 20 0,l.getD 21 0,l.getD 22 0,l.getD 23 0,l.getD 24 0,l.getD 25 0,l.getD 26 0,l.getD 27 0,l.getD 28 0,l.getD 29 0,l.getD 30 0,l.getD 31 0]:=by
 apply N6;intro i;by_cases hi:i < 32
 ·have e:l[i]? =some (l.getD i 0):=by rw [Cv,BJ AG];rfl
  rw [e];clear e;rcases i with _ | _ | _ | _ | _ | _ | _ | _ | _ | _ | _ | _ | _ | _ | _ | _ | _ | _ | _ | _ | _ | _ | _ | _ | _ | _ | _ | _ | _ | _ | _ | _ | i
  all_goals first | rfl | omega
 · rw [DT AG,DT BN]
def Ua (s:JF):List AN:=[Value.int .i64 s.Ar,Value.int .i64 s.round,Value.int .i64 s.schema,Value.int .i64 s.place]++s.holder.map (Value.int .u8)++[s.fields,s.values,Value.int .i64 s.link]++s.token.map (Value.int .u8)++[s.claims]
def GD (s:JF):Array AN:=(Ua s).toArray
theorem bj (s:JF):JA s=GD s++#[s.links,s.tokens,AE AF s.width,AE AF s.present]:=by simp [JA,shL,GD,Ua]
theorem Iu {s:JF} (h:s.holder.length=32) (t:s.token.length=32):(GD s).size=72:=by simp [GD,Ua,h,t]
theorem Pp {s:JF} (h:s.holder.length=32) (t:s.token.length=32):(JA s).size=76:=by rw [bj,T6,Iu h t];rfl
structure TJ where
 Ar:Int
 round:Int
 schema:Int
 place:Int
 holder:AQ
 values:AN
 links:AN
 claims:AN
def oN (c:TJ):List AN:=[Value.int .i64 c.Ar,Value.int .i64 c.round,Value.int .i64 c.schema,Value.int .i64 c.place]++c.holder.map (Value.int .u8)++[c.values,c.links,c.claims]
def Fs (c:TJ):Array AN:=(oN c).toArray
theorem Ma {c:TJ} (h:c.holder.length=32):(Fs c).size=39:=by simp [Fs,oN,h]
structure pZ (W:AH) (g:Nat) (c:TJ):Prop where
 Ar:W.cell? ⟨g,0,none⟩=some (AE AF c.Ar)
 round:W.cell? ⟨g,1,none⟩=some (AE AF c.round)
 schema:W.cell? ⟨g,2,none⟩=some (AE AF c.schema)
 place:W.cell? ⟨g,3,none⟩=some (AE AF c.place)
 holder:W.rangeAt g 4 (c.holder.map (Value.int .u8))
 values:W.cell? ⟨g,36,none⟩=some c.values
 links:W.cell? ⟨g,37,none⟩=some c.links
 claims:W.cell? ⟨g,38,none⟩=some c.claims
theorem O4 {W:AH} {g:Nat} {t:Af} {c:TJ} (h:AZ W g t (Fs c)) (hh:c.holder.length=32):pZ W g c:=by
 have hc:∀i,W.cell? ⟨g,i,none⟩=(oN c)[i]? :=fun i=>by rw [h.cell,Fs,Ak]
 have ZU:∀k,W.cell? ⟨g,36+k,none⟩=[c.values,c.links,c.claims][k]? :=fun k=>by rw [hc,oN,Cp (by simp [hh])];simp [hh]
 refine ⟨by rw [hc];rfl,by rw [hc];rfl,by rw [hc];rfl,by rw [hc];rfl,fun j v hj=> ?_,ZU 0,ZU 1,ZU 2⟩;have hl:j < 32:=by have:=(BD.1 hj).1;simpa [hh] using this
 rw [hc,oN,ES UF,Cp AX];simpa using hj
structure SwB (W:AH) (g:Nat) (s:JF):Prop where
 Ar:W.cell? ⟨g,0,none⟩=some (AE AF s.Ar)
 round:W.cell? ⟨g,1,none⟩=some (AE AF s.round)
 schema:W.cell? ⟨g,2,none⟩=some (AE AF s.schema)
 place:W.cell? ⟨g,3,none⟩=some (AE AF s.place)
 fields:W.cell? ⟨g,36,none⟩=some s.fields
 values:W.cell? ⟨g,37,none⟩=some s.values
 link:W.cell? ⟨g,38,none⟩=some (AE AF s.link)
 token:W.rangeAt g 39 (s.token.map (Value.int .u8))
 claims:W.cell? ⟨g,71,none⟩=some s.claims
theorem JR {W:AH} {g:Nat} {t:Af} {s:JF} (h:AZ W g t (GD s)) (hh:s.holder.length=32) (ht:s.token.length=32):SwB W g s:=by
 have hc:∀i,W.cell? ⟨g,i,none⟩=(Ua s)[i]? :=fun i=>by rw [h.cell,GD,Ak]
 have ZU:∀k,k < 3->W.cell? ⟨g,36+k,none⟩=[s.fields,s.values,AE AF s.link][k]? :=fun k hk=>by rw [hc,Ua,ES Yg,ES UF,Cp (by simp [hh])];simp [hh]
 refine ⟨by rw [hc];rfl,by rw [hc];rfl,by rw [hc];rfl,by rw [hc];rfl,ZU 0 AG,ZU 1 AG,ZU 2 AG,fun j v hj=> ?_,?_⟩
 ·have hl:j < 32:=by have:=(BD.1 hj).1;simpa [ht] using this
  rw [hc,Ua,ES Yg,Cp (by simp [hh])];simpa [hh] using hj
 rw [hc,Ua,Cp (by simp [hh,ht])];simp [hh,ht]
theorem fX (k:IntKind) (x:Int):(Value.int k x).oneCell'=true:=rfl
theorem U0 {c:TJ} (h1:c.values.oneCell'=true) (h2:c.links.oneCell'=true) (h3:c.claims.oneCell'=true):(Fs c).all (·.oneCell')=true:=by simp [Fs,oN,h1,h2,h3,fX]
theorem UZ {s:JF} (h1:s.fields.oneCell'=true) (h2:s.values.oneCell'=true) (h3:s.claims.oneCell'=true):(GD s).all (·.oneCell')=true:=by simp [GD,Ua,h1,h2,h3,fX]
theorem Yv {s:JF} (h1:s.fields.oneCell'=true) (h2:s.values.oneCell'=true) (h3:s.claims.oneCell'=true) (h4:s.links.oneCell'=true) (h5:s.tokens.oneCell'=true):(JA s).all (·.oneCell')=true:=by rw [bj,Array.all_append,UZ h1 h2 h3];simp [h4,h5,fX]
theorem gL:(prog.info? 46).map (·.size)=some 39:=by kernel_rfl
theorem fI:(prog.info? 57).map (·.size)=some 72:=by kernel_rfl
theorem AA7:(prog.info? 96).map (·.size)=some 76:=by kernel_rfl
theorem qq (i r s p:Int) {h:AQ} (hh:h.length=32) (VA KA:Option Aa) (vn vc kn kc:Nat):prog.built 57 [(0,AE AF i),(1,AE AF r),(2,AE AF s),(3,AE AF p),(4,AP (yA h)),(6,AB VA vn vc),(9,AB KA kn kc)]=some (GD ⟨i,r,s,p,h,AB none 0 0,AB VA vn vc,0,zeros 32,AB KA kn kc,AB none 0 0,AB none 0 0,0,0⟩):=by rw [Ok hh];kernel_rfl
theorem wF (i r s p l:Int) {h:AQ} (hh:h.length=32) (FA:Option Aa) (fn fc:Nat):prog.built 57 [(0,AE AF i),(1,AE AF r),(2,AE AF s),(3,AE AF p),(4,AP (yA h)),(5,AB FA fn fc),(7,AE AF l)]=some (GD ⟨i,r,s,p,h,AB FA fn fc,AB none 0 0,l,zeros 32,AB none 0 0,AB none 0 0,AB none 0 0,0,0⟩):=by rw [Ok hh];kernel_rfl
theorem wG (i r s p:Int) {h:AQ} (hh:h.length=32) (VA LA:Option Aa) (vn vc ln lc:Nat):prog.built 46 [(0,AE AF i),(1,AE AF r),(2,AE AF s),(3,AE AF p),(4,AP (yA h)),(5,AB VA vn vc),(6,AB LA ln lc)]=some (Fs ⟨i,r,s,p,h,AB VA vn vc,AB LA ln lc,AB none 0 0⟩):=by rw [Ok hh];kernel_rfl
theorem ACx (x:JF) (hh:x.holder.length=32) (ht:x.token.length=32) (a b:Int):prog.built 96 [(0,AP (GD x)),(3,AE AF a),(4,AE AF b)]=some (JA {x with links:=AB none 0 0,tokens:=AB none 0 0,width:=a,present:=b}):=by
 obtain ⟨i,r,s,p,h,f,v,l,t,k,_,_,_,_⟩:=x
 dsimp only at hh ht
 exact RW
theorem AAZ (x:JF) (hh:x.holder.length=32) (ht:x.token.length=32) (TA:Option Aa) (tn tc:Nat) (a b:Int):prog.built 96 [(0,AP (GD x)),(2,AB TA tn tc),(3,AE AF a),(4,AE AF b)]=some (JA {x with links:=AB none 0 0,tokens:=AB TA tn tc,width:=a,present:=b}):=by
 obtain ⟨i,r,s,p,h,f,v,l,t,k,_,_,_,_⟩:=x
 dsimp only at hh ht
 exact RW
theorem fE {P:BA} {w:AH} {ops:Array Oper} {rest:List Oper} {o:Oper} {a:Act} {Q:Exit->Act->AH->Prop} (hgd:o.guard=none) (ty:Af) (x:Operand) (ho:o.op=.load ty x) (p v:AN) (hx:a.eval x=p) (h:(Instr.loadAt ty p).run P w=.ok v w)
 (hk:wpList P ops Q rest (a.put o.dst v) w):wpList P ops Q (o::rest) a w:=
 wpList_plain hgd fun _ hK=>by unfold Oper.wp execOp;exact xW
theorem AA9 (s:JF) (hh:s.holder.length=32) (ht:s.token.length=32) (v:AN):(JA s).setIfInBounds 36 v=JA {s with fields:=v}:=by
 obtain ⟨i,r,s,p,h,f,u,l,t,k,_,_,_,_⟩:=s
 dsimp only at hh ht
 exact RW
theorem AA8 (s:JF) (hh:s.holder.length=32) (ht:s.token.length=32) (v:AN):(JA s).setIfInBounds 72 v=JA {s with links:=v}:=by
 obtain ⟨i,r,s,p,h,f,u,l,t,k,_,_,_,_⟩:=s
 dsimp only at hh ht
 exact RW
section
variable {n:Nat} {P:BA}
theorem ABG {l:Nat} {f:FuncId} {tmps:Array AN} {assign body:Code} {w:AH} {R:Ending->AH->Prop} (hf:(P.funcs[f]?).isSome=true)
 (ha:assign.wpIn (Fence.wide.inRound l) n P (fun e a1 w0=>e=.normal/\∃w1,(Instr.beginRound l).run P w0=.ok () w1/\
  body.wpIn (Fence.wide.inRound l) n P (fun e a w'=>(e=.normal/\∃v w2,(Instr.endRound l none).run P w'=.ok v w2/\R (AU v) w2)\/∃ch,e=.panic ch/\a.defers=[]/\R (Bz ch) w') a1 w1) {tmps:=tmps,defers:=[]} w):
 RoundIn Fence.wide n P l f tmps assign body w R:=by
 refine ⟨trivial,fun c cs _=> ?_⟩;let b:Frame:={(default:Frame) with fn:=f,kind:=.normal,roundOf:=some l}
 have h0:Frame.round l f tmps assign body .normal=b.atR {tmps:=tmps,defers:=[]} [.code assign,.beginRound,.code body]:=by simp [Frame.round,Frame.atR,b]
 rw [h0];obtain ⟨e,a,w',⟨rfl,w1,hbr,h⟩,s1⟩:=ha b [.beginRound,.code body] (c::cs) rfl trivial (room_wide _);have s2:StepsIn (Machine.fenced P Fence.wide) P _ (lone (b.atR a [.code body]) (c::cs) w1):=StepsIn.trans s1 (.one Nk (stepR_beginRound rfl hbr));obtain ⟨e,a2,w2,hq,harr⟩:=h b [] (c::cs) rfl trivial (room_wide _);rcases hq with ⟨rfl,v,w3,he,hR⟩ | ⟨ch,rfl,hd,hR⟩
 · exact ⟨AU v,w3,hR,s2.trans (StepsIn.trans harr (.one Nk (stepR_round_end rfl rfl he)))⟩
 obtain ⟨k,hs⟩:=harr;obtain ⟨fn,hfn⟩:=du.1 hf;exact ⟨Bz ch,w2,hR,s2.trans (StepsIn.trans hs (.one Nk (step_leave_panicked (fr:={b.atR a2 k with mode:=.panicking ch}) ⟨rfl,hd,fn,hfn⟩)))⟩
theorem TM {α:Type} {f:FuncId} {g:Operand} {ps:Array Tmp} {assign body:Code} {Q:Exit->Act->AH->Prop} {a:Act} {w:AH}
 (hf:(P.funcs[f]?).isSome=true) {gf:Nat} {lb:Array AN} (hg:a.eval g=.func (.func gf) #[] lb) (eg:∀args w,(callFunc gf args).run P w=.ok (.enter gf args) w)
 {encs:α->Array AN} {T K:AH->AH->Prop} {G:List α->α->Prop} {S:List α->Prop} (hseq:wQ Fence.wide 2 P gf lb encs T K G S w)
 (hps:∀x,(encs x).size=ps.size) (N:Nat) (I:List α->AH->Prop) (Ip:List PanicEntry->AH->Prop)
 (hIT:∀s A C,I s A->T A C->I s C) (hIB:∀s A C,I s A->Book w.heap.size A C->I s C) (hlen:∀s A,I s A->s.length<=N)
 (hTO:∀A C,T A C->KeepsOthers A C) (hKt:∀A B C,K A B->K B C->K A C) (hKp:∀W l o o',w.heap.size<=l->W.heap[l]? =some o->o.isCells=false->K W (W.putObj l o'))
 (h0:I [] w) (Ax:α->Act->AH->Prop) (hAB:∀x a' A C,Ax x a' A->Book w.heap.size A C->Ax x a' C)
 (hassign:∀(l:Nat) (pre:List α) (x:α) (W:AH),I pre W->G pre x->w.heap.size+2<=W.heap.size->
  assign.wpIn (Fence.wide.inRound l) 1 P (fun e a' W'=>e=.normal/\KeepsOthers W W'/\K W W'/\I pre W'/\Ax x a' W') {tmps:=(ps.zip (encs x)).foldl (fun t (p,v)=>t.setIfInBounds p v) a.tmps,defers:=[]} W)
 (hbody:∀(l:Nat) (pre:List α) (x:α) (a':Act) (W:AH),I pre W->G pre x->Ax x a' W->w.heap.size+2<=W.heap.size->
  body.wpIn (Fence.wide.inRound l) 1 P (fun e a3 W'=>(e=.normal/\KeepsOthers W W'/\K W W'/\I (pre++[x]) W')\/∃ch,e=.panic ch/\a3.defers=[]/\KeepsOthers W W'/\Ip ch W') a' W)
 (hdone:∀(D:Nat) (xs:List α) (W:AH),w.heap.size<=D->S xs->I xs W->W.heap[D]? =some (.deferred (some []))->Q .normal {a with defers:={target:=.collected D,args:=#[]}::a.defers} W)
 (AHX:∀(D:Nat) (ch:List PanicEntry) (W:AH),w.heap.size<=D->Ip ch W->W.heap[D]? =some (.deferred (some []))->Q (.panic ch) {a with defers:={target:=.collected D,args:=#[]}::a.defers} W):
 RX f P (.rangeFunc g ps assign body) Q a w:=by
 obtain ⟨rec,hrec⟩:∃rec:LoopState->Option Code->Loop,rec=fun st pe=>{state:=st,pending:=pe,fn:=f,tmps:=a.tmps,params:=ps,assign,body,defers:=w.heap.size}:=⟨_,rfl⟩;obtain ⟨W1,hW1⟩:=BP ((w.alloc (.deferred (some []))).alloc (.loop (rec .ready none)));have hsz1:W1.heap.size=w.heap.size+2:=by rw [<-hW1];simp
 have hL1:W1.heap[w.heap.size+1]? =some (.loop (rec .ready none)):=by rw [<-hW1];have:=World.alloc_heap_new (w.alloc (.deferred (some []))) (.loop (rec .ready none));rwa [Ee] at this
 have hK1:W1.heap[w.heap.size]? =some (.deferred (some [])):=by rw [<-hW1];exact (Kk _ _ _ AX).trans (World.alloc_heap_new w _)
 have hI1:I [] W1:=by rw [<-hW1];exact hIB _ _ _ (hIB _ _ _ h0 (Book.alloc _ _ (Ac _))) (Book.alloc _ _ AX)
 have hb1:AK w W1:=by rw [<-hW1];exact ((Ae _ w).alloc (Ac _) _).alloc AX _
 refine fF (l:=w.heap.size+1) (mark:=[{target:=.collected w.heap.size,args:=#[]}]) (w1:=W1) (by rw [<-hW1,hrec];exact run_enterLoop_outer _ _ _ _ _) hg eg ((Et (n:=2)).1 ?_);refine (hseq (w.heap.size+1)
  (fun pre W=>I pre W/\W.heap[w.heap.size+1]? =some (.loop (rec .ready none))/\W.heap[w.heap.size]? =some (.deferred (some [])))
  (fun ch W=>Ip ch W/\W.heap[w.heap.size]? =some (.deferred (some []))) N
  W1 hb1
  (fun s A C hs ht=>⟨hIT s A C hs.1 ht,(hTO A C ht).same _ _ hs.2.1 rfl,(hTO A C ht).same _ _ hs.2.2 rfl⟩)
  (fun s A hs=>hlen s A hs.1)
  ?_ ⟨hI1,hL1,hK1⟩).mono ?_
 ·rintro pre x W ⟨hi,hl,hk⟩ hGx
  have hlt:w.heap.size+1 < W.heap.size:=(C6.1 hl).1;have hy:=run_yield (P:=P) (args:=encs x) hl eL;rw [hrec] at hy;refine ⟨f,_,assign,body,hy,ABG hf (wpIn_mono (hassign _ pre x W hi hGx AG) ?_)⟩;clear hy;rintro e a' Wa ⟨rfl,hkfa,hkpa,hia,hax⟩;have hl:=hkfa.same _ _ hl rfl;have hk:=hkfa.same _ _ hk rfl;have hlt:w.heap.size+1 < Wa.heap.size:=(C6.1 hl).1;refine ⟨rfl,_,run_beginRound hl (by rw [hrec]),?_⟩;have hl2:(Wa.putObj (w.heap.size+1) (.loop {rec .ready none with state:=.busy})).heap[w.heap.size+1]? =some (.loop {rec .ready none with state:=.busy}):=World.putObj_heap_same hlt;have hk2:(Wa.putObj (w.heap.size+1) (.loop {rec .ready none with state:=.busy})).heap[w.heap.size]? =some (.deferred (some [])):=(World.putObj_heap_other AG).trans hk;refine wpIn_mono (hbody _ pre x a' _ (hIB _ _ _ hia (Book.put _ _ _ AG hl rfl)) hGx (hAB _ _ _ _ hax (Book.put _ _ _ AG hl rfl)) (by simp [World.putObj];omega)) ?_;rintro e a3 W3 (⟨rfl,hk3,hkk,hi3⟩ | ⟨ch,rfl,hd,hk3,hi3⟩)
  ·have hl3:=hk3.same _ _ hl2 rfl
   have hr:=run_endRound (P:=P) none hl3;rw [hrec] at hr;refine .inl ⟨rfl,_,_,hr,.inl ⟨rfl,⟨hIB _ _ _ hi3 (Book.put _ _ _ AG hl3 rfl),?_,(World.putObj_heap_other AG).trans (hk3.same _ _ hk2 rfl)⟩,hKt _ _ _ hkpa (hKt _ _ _ (hKp _ _ _ _ AG hl rfl) (hKt _ _ _ hkk (hKp _ _ _ _ AG hl3 rfl)))⟩⟩;exact lH
  · exact .inr ⟨ch,rfl,hd,.inr ⟨ch,rfl,hi3,hk3.same _ _ hk2 rfl⟩⟩
 rintro e W2 (⟨⟨v,rfl⟩,⟨xs,hS,hi,hl,hk⟩⟩ | ⟨ch,rfl,hi,hk⟩)
 · refine .inl ⟨v,_,rfl,by have:=run_endLoop (P:=P) hl Ye;rw [hrec] at this;exact this,hdone _ xs _ (Ac _) hS (hIB _ _ _ hi (Book.put _ _ _ AG hl rfl)) ((World.putObj_heap_other AG).trans hk)⟩
 · exact .inr ⟨ch,rfl,AHX _ ch _ (Ac _) hi hk⟩
def calm (Q:Exit->Act->AH->Prop):Exit->Act->AH->Prop
 | .normal,a,w=>Q .normal a w
 | .ret,a,w=>Q .ret a w
 | .panic ch,a,w=>Q (.panic ch) a w
 | _,_,_=>False
theorem VN {f:FuncId} {id:Nat} {c:Code} {Q:Exit->Act->AH->Prop} {a:Act} {w:AH} (h:RX f P c (calm Q) a w):RX f P (.block id c) Q a w:=by
 intro b k cs hro hb;obtain ⟨e,a',w',hq,harr⟩:=h b (.inBlock id::k) cs hro hb;have s1:StepsIn (Machine.fenced P Fence.wide) P (lone (b.atR a (.code (.block id c)::k)) cs w) (lone (b.atR a (.code c::.inBlock id::k)) cs w):=.one Nk stepR_block;cases e with
 | normal=>exact ⟨.normal,a',w',hq,(s1.trans harr).trans (.one Nk stepR_inBlock)⟩
 | ret=>exact ⟨.ret,a',w',hq,fun hr=>(harr.1 hr).imp fun _ h=>s1.trans h,fun hr=>by rw [hro] at hr;cases hr⟩
 | panic ch=>exact ⟨.panic ch,a',w',hq,harr.imp fun _ h=>s1.trans h⟩
 | exit id=>exact hq.elim
 | goto t=>exact hq.elim
 | outgrown=>exact hq.elim
end
section
variable {H:AQ->AQ->Dg}
theorem Mb {root:Dg} {many:Int} {ms:List (Int×Dg)} {cs:List Cj}:Ik H root many ms cs=0↔∀(j:Nat) (m:Int×Dg) (c:Cj),ms[j]? =some m->cs[j]? =some c->c.index=m.1/\FO H root many m.2 c=true:=by
 have hz:∀(f:(Int×Dg)×Cj->Bool),(ms.zip cs).all f=true↔∀(j:Nat) (m:Int×Dg) (c:Cj),ms[j]? =some m->cs[j]? =some c->f (m,c)=true:=by
  intro f;rw [De];constructor
  ·intro h j m c hm hc
   refine h _ (CS (i:=j) ?_);rw [Ic];exact ⟨hm,hc⟩
  rintro h ⟨m,c⟩ hp;obtain ⟨j,hj,e⟩:=YR hp;have e2:(ms.zip cs)[j]? =some (m,c):=by rw [BJ hj,e]
  rw [Ic] at e2;exact h j m c e2.1 e2.2
 unfold Ik cn wM;constructor
 ·intro h j m c hm hc
  by_cases h1:((ms.zip cs).all fun p=>decide (p.2.index=p.1.1))=true
  ·rw [Ao h1] at h
   by_cases h2:((ms.zip cs).all fun p=>FO H root many p.1.2 p.2)=true
   · exact ⟨F8 ((hz _).1 h1 j m c hm hc),(hz _).1 h2 j m c hm hc⟩
   · rw [Ai h2] at h;cases h
  · rw [Ai h1] at h;cases h
 intro h;rw [Ao ((hz _).2 fun j m c hm hc=>BR (h j m c hm hc).1),Ao ((hz _).2 fun j m c hm hc=>(h j m c hm hc).2)]
theorem VP {n k:Nat} (h:k < n):(upto n)[k]? =some (k:Int):=by unfold upto;rw [Bb,Lp h];rfl
theorem Hp (n:Nat):(upto n).length=n:=by simp [upto]
theorem ZG {n:Nat} {c:Fb} (hv:c.values.length=n) {k:Nat} (h:k < n):(Fk H n c)[k]? =some (c.place*((n:Int)+4+1)+k,msgP H c.schema k (c.values.getD k 0) c.holder):=by
 unfold Fk Ga Fm;have ez:((upto n).zip c.values)[k]? =some ((k:Int),c.values[k]' AG):=by rw [Ic];exact ⟨VP h,BJ AG⟩
 rw [Jk,ES (by simp [Hp,hv];exact h),Bb,ez];simp [List.getD_eq_getElem?_getD,List.getElem?_eq_getElem (show k < c.values.length by omega)]
theorem bR {n:Nat} {c:Fb} (hv:c.values.length=n) (hl:c.links.length=4) {k:Nat} (h:k < 4):(Fk H n c)[n+k]? =some (c.place*((n:Int)+4+1)+((n:Int)+4) - 4+k,NB H c.schema k (c.links.getD k Ni) c.holder):=by
 unfold Fk Ga Fm MP;have e:(((upto n).zip c.values).map fun p=>(c.place*((n:Int)+4+1)+p.1,msgP H c.schema p.1 p.2 c.holder)).length=n:=by simp [Hp,hv]
 have ez:((upto 4).zip c.links)[k]? =some ((k:Int),c.links[k]' AG):=by rw [Ic];exact ⟨VP h,BJ AG⟩
 rw [Jk,Cp (by rw [e];omega),e,show n+k - n=k by omega,ES (by simp [Hp,hl];exact h),Bb,ez];simp [List.getD_eq_getElem?_getD,List.getElem?_eq_getElem (show k < c.links.length by omega)]
theorem bS {n:Nat} {c:Fb} (hv:c.values.length=n) (hl:c.links.length=4):(Fk H n c)[n+4]? =some (c.place*((n:Int)+4+1)+((n:Int)+4),msgP H c.schema (-1) 0 c.holder):=by unfold Fk Ga Fm MP;rw [Cp (by simp [Hp,hv,hl])];simp [Hp,hv,hl]
theorem QI {n:Nat} {c:Fb} (hv:c.values.length=n) (hl:c.links.length=4):(Fk H n c).length=n+5:=by simp [Fk,Ga,Fm,MP,Hp,hv,hl]
theorem iH {n:Nat} {c:Fb} (hv:c.values.length=n) (hl:c.links.length=4) {j:Nat} {m:Int×Dg} (hj:(Fk H n c)[j]? =some m):j < n+5/\m.1=c.place*((n:Int)+4+1)+j:=by
 have h:=(BD.1 hj).1;rw [QI hv hl] at h;refine ⟨h,?_⟩;rcases Ec j n with h1 | h1
 ·rw [ZG hv h1] at hj
  injection hj with hj;rw [<-hj]
 obtain ⟨k,rfl⟩:∃k,j=n+k:=⟨j - n,by omega⟩;rcases Ec k 4 with h2 | h2
 ·rw [bR hv hl h2] at hj
  injection hj with hj;rw [<-hj];simp only [Int.natCast_add];omega
 obtain rfl:k=4:=AG
 rw [bS hv hl] at hj;injection hj with hj;rw [<-hj];simp
theorem J4 {nf:Option Nat} {val:Int->Int->Bool} {r:CM} {c:Fb}:O5 nf val r c=true↔((GN nf r.places=true/\(c.Ar=r.Ar/\c.round=r.no)/\c.schema=r.schema)/\(0<=c.place/\c.place < r.places)/\EL (nf.getD 0) val c.values=true)/\c.links.length=4/\c.claims.length=nf.getD 0+5:=by simp only [O5,Bj,B8]
theorem Ef {nf:Option Nat} {val:Int->Int->Bool} {r:CM} {s:IX}:Js nf val r s=true↔(((((GN nf r.places=true/\(s.Ar=r.Ar/\s.round=r.no)/\s.schema=r.schema)/\0<=s.place/\s.place < r.places)/\NM (nf.getD 0) (-1) s.fields=true/\s.values.length=s.fields.length)/\((s.fields.zip s.values).all fun p=>val p.1 p.2)=true)/\(-1<=s.link/\s.link < 4)/\(s.link≠ -1\/s.token=Ni))/\s.claims.length=s.fields.length+(if s.link= -1 then 1 else 2):=by simp only [Js,Bj,B8,YH]
theorem NE {nf:Option Nat} {pl:Int} (h:GN nf pl=true):∃n,nf=some n/\1<=pl/\pl<=16/\pl*((n:Int)+4+1)<=256:=by
 unfold GN at h;cases nf with
 | none=>cases h
 |
  some n=>
  simp only [Bj,B8] at h;exact ⟨n,rfl,h.1.1,h.1.2,h.2⟩
theorem ABO {p r w j:Int} (hp:0<=p) (hr:p < r) (hj:0<=j) (hw:j < w):0<=p*w+j/\p*w+j < r*w:=by have h1:0<=p*w:=Kj hp AG;have h2:(p+1)*w<=r*w:=PZ AG AG;rw [Int.add_mul] at h2;omega
theorem tM {seed:Dg} {nf:Option Nat} {val:Int->Int->Bool} {r:CM} {place xs:Int} {holder:Dg} {links:List Dg} {vs:AQ} {n:Nat} (hn:nf=some n) (h:FS 0 nf val r place links xs vs=true)
 (R:CM) (hR:R={r with root:=M7 H seed (r.places*((n:Int)+4+1)).toNat}):EX H 0 nf val R (IJ H seed n r place holder links vs)=0:=by
 subst hn;simp only [FS,Bj,B8,Cc] at h;obtain ⟨⟨⟨⟨⟨⟨_,hf⟩,h0⟩,h1⟩,h2⟩,h3⟩,h4⟩:=h;have hv:vs.length=n:=by simp only [EL,Bj,B8] at h4;exact h4.1
 obtain ⟨n',e,p1,p2,p3⟩:=NE hf;injection e with e;subst e;have hwl:(Fk H n (O6 r place holder links vs)).length=n+5:=QI hv h2;have hok:O5 (some n) val R (IJ H seed n r place holder links vs)=true:=by subst hR;rw [J4];refine ⟨⟨⟨hf,⟨rfl,rfl⟩,rfl⟩,⟨h0,h1⟩,h4⟩,h2,?_⟩;show ((Fk H n (O6 r place holder links vs)).map _).length=_;rw [Cb];exact hwl
 unfold EX;rw [Ai AX,Ao hok];subst hR;simp only [Cc];rw [Mb];intro j m c hm hc;have hms:Fk H n (IJ H seed n r place holder links vs)=Fk H n (O6 r place holder links vs):=rfl;rw [hms] at hm;have hc':(U1 H seed (Dq H seed (r.places*((n:Int)+4+1)).toNat) (Fk H n (O6 r place holder links vs)))[j]? =some c:=hc;rw [U1,Bb,hm] at hc';injection hc' with hc';obtain ⟨hj,he⟩:=iH (H:=H) (c:=O6 r place holder links vs) hv h2 hm;have he:m.1=place*((n:Int)+4+1)+j:=he;have hpl:=ABO (w:=(n:Int)+4+1) h0 h1 (j:=(j:Int)) AG AG;obtain ⟨many,cx⟩:∃many:Nat,r.places*((n:Int)+4+1)=many:=⟨(r.places*((n:Int)+4+1)).toNat,by omega⟩;rw [cx] at hpl p3 hc' ⊢;subst hc';refine ⟨?_,?_⟩
 ·show ((m.1.toNat:Nat):Int)=m.1
  omega
 have:=pk H seed many m.1.toNat m.2 AG AG;simpa only [Cm] using this
theorem Ru {n:Nat}:∀{l:AQ} {last:Int},NM n last l=true->∀x∈l,last < x/\x < n
 | [],_,_,x,hx=>by simp at hx
 |
  f::l,last,h,x,hx=>by
  simp only [NM,Bj,B8] at h;rcases CJ.1 hx with rfl | hx
  · exact h.1
  have:=Ru h.2 x hx;omega
theorem mA {nf:Option Nat} {val:Int->Int->Bool} {R:CM} {c:Fb} {fs:AQ} {link:Int} {n:Nat} (hn:nf=some n) (hc:EX H 0 nf val R c=0) (ho:JV nf c fs link=true):
 DK H 0 nf val R (LR n c fs link)=0:=by
 subst hn;unfold EX at hc;rw [Ai AX] at hc;by_cases hok:O5 (some n) val R c=true
 ·rw [Ao hok] at hc
  simp only [Cc] at hc;rw [Mb] at hc;simp only [O5,Bj,B8,Cc] at hok;obtain ⟨⟨⟨hf,⟨e1,e2⟩,e3⟩,⟨hp0,hp1⟩,hac⟩,hl,hcl⟩:=hok;simp only [EL,Bj,B8] at hac;obtain ⟨hv,hval⟩:=hac;simp only [JV,Bj,B8] at ho;obtain ⟨_,⟨hinc,hlk0⟩,AHf⟩:=ho;have hmem:=Ru hinc;have AHA:∀f∈fs,val f (c.values.getD f.toNat 0)=true:=by intro f hf2;have:=hmem f hf2;rw [De] at hval;refine hval (f,c.values.getD f.toNat 0) (CS (i:=f.toNat) ?_);rw [Ic];refine ⟨by rw [VP AG];congr 1;omega,?_⟩;rw [Cv,BJ AG];rfl
  have hsh:Js (some n) val R (LR n c fs link)=true:=by
   rw [Ef];refine ⟨⟨⟨⟨⟨⟨hf,⟨e1,e2⟩,e3⟩,hp0,hp1⟩,hinc,Cb _⟩,?_⟩,⟨hlk0,AHf⟩,?_⟩,?_⟩
   ·rw [De]
    rintro ⟨f,v⟩ hp;obtain ⟨j,hj,e⟩:=YR hp;have e2:(fs.zip (fs.map fun f=>c.values.getD f.toNat 0))[j]? =some (f,v):=(BJ hj).trans (congrArg some e);rw [Ic] at e2;have e3:(fs.map fun f=>c.values.getD f.toNat 0)[j]? =some v:=e2.2;rw [Bb,e2.1] at e3;injection e3 with e3;show val f v=true;rw [<-e3];exact AHA f (by have:=List.of_mem_zip hp;exact this.1)
   ·by_cases h:link= -1
    · right;subst h;rfl
    · left;exact h
   by_cases h:link= -1
   ·subst h
    show (fs.map _++[]++[_]).length=fs.length+1;simp
   have h0:0<=link:=AG
   show (fs.map _++(if 0<=link then _ else [])++[_]).length=fs.length+(if link= -1 then 1 else 2);rw [Ai h,Ao h0];simp
  unfold DK;rw [Ai AX,Ao hsh];simp only [Cc]
  -- each message of what is shown,with its claim,is one of the copy's
  have AFl:∀f∈fs,∃q,c.claims[f.toNat]? =some q/\q.index=c.place*((n:Int)+4+1)+f/\FO H R.root (R.places*((n:Int)+4+1)) (msgP H c.schema f (c.values.getD f.toNat 0) c.holder) q=true:=by
   intro f hf2;have hr:=hmem f hf2;obtain ⟨k,rfl⟩:∃k:Nat,f=k:=⟨f.toNat,by omega⟩;refine ⟨c.claims[k]' AG,?_,?_⟩
   · rw [Cm,BJ]
   have:=hc k _ (c.claims[k]' AG) (ZG hv AG) (BJ AG);exact this
  have AHB:∀k:Nat,k < 4->∃q,c.claims[n+k]? =some q/\q.index=c.place*((n:Int)+4+1)+((n:Int)+4) - 4+k/\FO H R.root (R.places*((n:Int)+4+1)) (NB H c.schema k (c.links.getD k Ni) c.holder) q=true:=by intro k hk;refine ⟨c.claims[n+k]' AG,BJ _,?_⟩;exact hc (n+k) _ (c.claims[n+k]' AG) (bR hv hl hk) (BJ AG)
  have hlast:∃q,c.claims[n+4]? =some q/\q.index=c.place*((n:Int)+4+1)+((n:Int)+4)/\FO H R.root (R.places*((n:Int)+4+1)) (msgP H c.schema (-1) 0 c.holder) q=true:=by refine ⟨c.claims[n+4]' AG,BJ _,?_⟩;exact hc (n+4) _ (c.claims[n+4]' AG) (bS hv hl) (BJ AG)
  obtain ⟨qz,hqz,hz1,hz2⟩:=hlast;have hgz:c.claims.getD (n+4) LX=qz:=by rw [Cv,hqz];rfl
  have hpart:∀(F:AQ),(∀f∈F,f∈fs)->∀p∈((Fm H (c.place*((n:Int)+4+1)) c.schema c.holder F (F.map fun f=>c.values.getD f.toNat 0)).zip (F.map fun f=>c.claims.getD f.toNat LX)),p.2.index=p.1.1/\FO H R.root (R.places*((n:Int)+4+1)) p.1.2 p.2=true:=by
   intro F
   induction F with
   | nil=>intro _ p hp;simp [Fm] at hp
   |
    cons f F ih=>
    intro hF p hp;simp only [Fm,Fe,List.zip_cons_cons,CJ] at hp;rcases hp with rfl | hp
    ·obtain ⟨q,hq,h1,h2⟩:=AFl f (hF f AX)
     have hg:c.claims.getD f.toNat LX=q:=by rw [Cv,hq];rfl
     rw [hg];exact ⟨h1,h2⟩
    · exact ih (fun x hx=>hF x (by simp [hx])) p hp
  have hms:∀p∈(Up H n (LR n c fs link)).zip (LR n c fs link).claims,p.2.index=p.1.1/\FO H R.root (R.places*((n:Int)+4+1)) p.1.2 p.2=true:=by
   have el:(Fm H (c.place*((n:Int)+4+1)) c.schema c.holder fs (fs.map fun f=>c.values.getD f.toNat 0)).length=(fs.map fun f=>c.claims.getD f.toNat LX).length:=by simp [Fm]
   simp only [Up,Ga,LR];rw [Jk,Jk,List.zip_append el];intro p hp;rcases Ll.1 hp with hp | hp
   · exact hpart fs (fun _ h=>h) p hp
   by_cases h0:0<=link
   ·obtain ⟨k,rfl⟩:∃k:Nat,link=k:=⟨link.toNat,by omega⟩
    obtain ⟨q,hq,h1,h2⟩:=AHB k AG;simp only [Ao h0] at hp;have hp:p∈[((c.place*((n:Int)+4+1)+((n:Int)+4) - 4+k,NB H c.schema k (c.links.getD k Ni) c.holder),c.claims.getD (n+k) LX),((c.place*((n:Int)+4+1)+((n:Int)+4),msgP H c.schema (-1) 0 c.holder),c.claims.getD (n+4) LX)]:=hp;simp only [CJ,D5,D4] at hp;rcases hp with rfl | rfl
    ·have hg:c.claims.getD (n+k) LX=q:=by rw [Cv,hq];rfl
     rw [hg];exact ⟨h1,h2⟩
    rw [hgz];exact ⟨hz1,hz2⟩
   simp only [Ai h0] at hp;have hl0:∀(a b c:Int) (d:Dg) (L:AQ),MP H a b c d L []=[]:=fun _ _ _ _ L=>by simp [MP]
   rw [hl0] at hp;have hp:p∈[((c.place*((n:Int)+4+1)+((n:Int)+4),msgP H c.schema (-1) 0 c.holder),c.claims.getD (n+4) LX)]:=hp;simp only [CJ,D5,D4] at hp;subst hp;rw [hgz];exact ⟨hz1,hz2⟩
  rw [Mb];intro j m q hm hq;exact hms (m,q) (CS (i:=j) (by rw [Ic];exact ⟨hm,hq⟩))
 · rw [Ai hok] at hc;cases hc
end
end Go.Proofs.YtamhoilkpppdbaaGreatDoor
