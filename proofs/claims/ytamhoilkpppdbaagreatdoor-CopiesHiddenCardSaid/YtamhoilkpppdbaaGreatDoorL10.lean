import Derived.Test.YtamhoilkpppdbaaGreatDoorL09
namespace Go.Proofs.YtamhoilkpppdbaaGreatDoor
set_option maxHeartbeats 8000000
set_option maxRecDepth 100000
open Go renaming World→AH, Value→AN, Calls→AS, TypeId→Ae, Program→BE, Addr→Aa
open Go.RowKit renaming Below→BL
open Go.Proofs.Tryz
open Go.Value renaming slice→AA, int→AB, pointer→AU, bool→Ab, agg→AP
open Go.IntKind renaming i64→AE
open Go.Ending renaming returned→AW, panicked→CN
open Go.Obj renaming cells→AO
open Go.RowKit
def zJ {α:Type} (F:Fence) (n:Nat) (P:BE) (g:Nat) (lb:Array AN) (encs:α->Array AN) (T K:AH->AH->Prop) (G:List α->α->Prop) (S:List α->Prop) (w:AH):Prop:=
 ∀(l:Nat) (J:List α->AH->Prop) (Jp:List PanicEntry->AH->Prop) (N:Nat) (W:AH),AK w W->(∀s A C,J s A->T A C->J s C)->(∀s A,J s A->s.length<=N)->
  (∀pre x W1,J pre W1->G pre x->YieldAt F (n - 1) P l (encs x) W1 fun e W'=>(e=AW (Ab true)/\J (pre++[x]) W'/\K W1 W')\/∃ch,e=CN ch/\Jp ch W')->
  J [] W->
  CallsIn F n P g (#[.func (.yield l) #[] #[]]++lb) W fun e W'=>((∃v,e=AW v)/\∃xs,S xs/\J xs W')\/∃ch,e=CN ch/\Jp ch W'
section
variable {n:Nat} {P:BE}
end
open Go.Shelf
attribute [local go_sem] Oper.semAt_some
structure JS where
 Ar:Int
 round:Int
 schema:Int
 place:Int
 holder:AQ
 fields:AN
 values:AN
 link:Int
 token:AQ
 claims:AN
 links:AN
 tokens:AN
 width:Int
 present:Int
def shL (s:JS):List AN:=[Value.int .i64 s.Ar,Value.int .i64 s.round,Value.int .i64 s.schema,Value.int .i64 s.place]++s.holder.map (Value.int .u8)++[s.fields,s.values,Value.int .i64 s.link]++s.token.map (Value.int .u8)++[s.claims,s.links,s.tokens,Value.int .i64 s.width,Value.int .i64 s.present]
def JW (s:JS):Array AN:=(shL s).toArray
structure ShB (W:AH) (g:Nat) (s:JS):Prop where
 schema:W.cell? ⟨g,2,none⟩=some (AB AE s.schema)
 place:W.cell? ⟨g,3,none⟩=some (AB AE s.place)
 holder:W.rangeAt g 4 (s.holder.map (Value.int .u8))
 fields:W.cell? ⟨g,36,none⟩=some s.fields
 values:W.cell? ⟨g,37,none⟩=some s.values
 claims:W.cell? ⟨g,71,none⟩=some s.claims
 links:W.cell? ⟨g,72,none⟩=some s.links
 tokens:W.cell? ⟨g,73,none⟩=some s.tokens
 width:W.cell? ⟨g,74,none⟩=some (AB AE s.width)
 present:W.cell? ⟨g,75,none⟩=some (AB AE s.present)
theorem Xd {W:AH} {g:Nat} {t:Ae} {s:JS} (h:AY W g t (JW s)) (hh:s.holder.length=32) (ht:s.token.length=32):ShB W g s:=by
 have hc:∀i,W.cell? ⟨g,i,none⟩=([Value.int .i64 s.Ar,Value.int .i64 s.round,Value.int .i64 s.schema,Value.int .i64 s.place]++s.holder.map (Value.int .u8)++[s.fields,s.values,Value.int .i64 s.link]++s.token.map (Value.int .u8)++[s.claims,s.links,s.tokens,Value.int .i64 s.width,Value.int .i64 s.present])[i]? :=fun i=>by rw [h.cell,JW,Aj];rfl
 have aI:∀k,k < 3->W.cell? ⟨g,36+k,none⟩=[s.fields,s.values,AB AE s.link][k]? :=fun k hk=>by rw [hc,EB ZX,EB Uz,Cj SA];simp [hh]
 have h71:∀k,W.cell? ⟨g,71+k,none⟩=[s.claims,s.links,s.tokens,AB AE s.width,AB AE s.present][k]? :=fun k=>by rw [hc,Cj (by simp [hh,ht])];simp [hh,ht]
 refine ⟨by rw [hc];rfl,by rw [hc];rfl,fun j v hj=> ?_,aI 0 AG,aI 1 AG,h71 0,h71 1,h71 2,h71 3,h71 4⟩;have hl:j < 32:=by have:=(BF.1 hj).1;simpa [hh] using this
 rw [hc,EB ZX,EB Uz,EB Uz,Cj AZ];simpa using hj
theorem Ei (g o:Nat) {d:AQ} (hd:d.length=32) {W:AH} (h:W.rangeAt g o (d.map (Value.int .u8))):(Instr.loadAt 34 (AU (some ⟨g,o,none⟩))).run prog W=.ok (AP (yA d)) W:=by simp only [Instr.loadAt,Instr.sureAddr,Cp,DL,Result.andThen_ok,Rz W g o 34 (d.map (Value.int .u8)) _ h underlying34 rfl (by rw [CY,hd];exact Fw)];rfl
theorem Xx (s:JS) (w:AH):AS prog 57 #[AP (JW s)] w fun e w'=>e=AW (.func (.func 81) #[] #[AU (some ⟨w.heap.size,0,none⟩)])/\w'=w.alloc (AO (JW s) 96):=by have hmf:∀(fn:Fn) (first cap:Array AN) (w:AH),(Instr.makeFunc fn first cap).run prog w=.ok (.func fn first cap) w:=fun _ _ _ _=>rfl;go_enter func57,ntmps57;go_wp2;go_ret;exact ⟨rfl,rfl⟩
theorem ACC {W:AH} {b o n c k:Nat} {l:AQ} {v:Int} (h:Ag 1 Bt W (AA (some ⟨b,o,none⟩) n c) l) (hv:l[k]? =some v):W.cell? ⟨b,o+k,none⟩=some (AB AE v):=by
 have hk:k < n:=by rw [h.len];exact (BF.1 hv).1
 obtain ⟨b',o',x,e,_,hx,hc,_⟩:=ints_at h hk;injection e with e;injection e with e1 e2;subst e1 e2;rw [hv] at hx;injection hx with hx;rw [hx];exact hc
structure KX (n e g:Nat) (W W':AH):Prop where
 size:W.heap.size<=W'.heap.size
 same:∀b,b < n->b≠e->W'.heap[b]? =W.heap[b]?
 box:W'.heap[g]? =W.heap[g]?
 tab:Cc W->Cc W'
theorem KX.trans {n e g:Nat} {A B C:AH} (h:KX n e g A B) (k:KX n e g B C):KX n e g A C:=⟨BH h.size k.size,fun b h1 h2=>(k.same b h1 h2).trans (h.same b h1 h2),k.box.trans h.box,fun t=>k.tab (h.tab t)⟩
theorem KX.below {n e g:Nat} {A B C:AH} (h:KX n e g A B) (hb:AK B C) (hn:n<=B.heap.size) (hg:g < B.heap.size):KX n e g A C:=
 ⟨BH h.size hb.size,fun b h1 h2=>(hb.block b AG).trans (h.same b h1 h2),(hb.block g hg).trans h.box,fun t=>(h.tab t).below hb⟩
theorem KX.refl (n e g:Nat) (A:AH):KX n e g A A:=⟨Ac _,fun _ _ _=>rfl,rfl,id⟩
def vN (x:Int×AQ):Array AN:=#[AB AE x.1,AP (yA x.2)]
def GM (ms:List (Int×AQ)) (pre:List (Int×AQ)) (x:Int×AQ):Prop:=pre=ms.take pre.length/\ms[pre.length]? =some x
theorem Cv {P:BE} {W:AH} {p r:AN} {o:Oper} {a:Act} {x:Operand} {t:Ae} (ho:o.op=.load t x) (he:a.eval x=p) (h:(Instr.loadAt t p).run P W=.ok r W):(execOp a.eval o).run P W=.ok (.value r) W:=by subst he;exact run_load h ho
theorem AG7 {W:AH} {b o n c k:Nat} {l:List (AQ)} {d:AQ} (h:Ag 32 CP W (AA (some ⟨b,o,none⟩) n c) l) (hd:l[k]? =some d):W.rangeAt b (o+k*32) (d.map (Value.int .u8)):=by
 have hk:k < n:=by rw [h.len];exact (BF.1 hd).1
 obtain ⟨b',o',x,e,_,hx,_,_,hr⟩:=Kr h hk;injection e with e;injection e with e1 e2;subst e1 e2;rw [hd] at hx;injection hx with hx;rw [hx];exact hr
theorem Va {ms:List (Int×AQ)} {k:Nat} {x:Int×AQ} (h:ms[k]? =some x):GM ms (ms.take k) x/\ms.take k++[x]=ms.take (k+1):=by
 have hk:=(BF.1 h).1;have hl:(ms.take k).length=k:=by rw [Df];omega
 exact ⟨⟨by rw [hl],by rw [hl];exact h⟩,by rw [Pn,h];rfl⟩
theorem vM (m n0 e g:Nat) (s:JS) (FA VA LA TA:Option Aa) (nf cf nv cv nl cl nt ct:Nat) (fs vs ls:AQ) (ts:List (AQ)) (w:AH)
 (hF:s.fields=AA FA nf cf) (hV:s.values=AA VA nv cv) (hL:s.links=AA LA nl cl) (hT:s.tokens=AA TA nt ct)
 (hR:∀W,KX n0 e g w W->Ag 1 Bt W (AA FA nf cf) fs/\Ag 1 Bt W (AA VA nv cv) vs/\Ag 1 Bt W (AA LA nl cl) ls/\Ag 32 CP W (AA TA nt ct) ts)
 (hg:AY w g 96 (JW s)) (hh:s.holder.length=32) (ht:s.token.length=32) (hn0:n0<=w.heap.size) (hfv:nf<=nv) (hlt:nl<=nt) (hsc:FI s.schema)
 (hpl:0<=s.place/\s.place<=1000) (hw:0<=s.width/\s.width<=1000) (hpr:0<=s.present/\s.present<=1000) (hfr:∀f∈fs,0<=f/\f<=1000) (hlr:∀l∈ls,0<=l/\l<=1000) (LC:Cc w):
 zJ Fence.wide m prog 81 #[AU (some ⟨g,0,none⟩)] vN TB (KX n0 e g) (GM (Gt Aw (s.place*s.width) s.present s.schema s.holder fs vs ls ts)) (fun xs=>xs=Gt Aw (s.place*s.width) s.present s.schema s.holder fs vs ls ts) w:=by
 obtain ⟨first,hfi⟩:=Ad (s.place*s.width)
 rw [<-hfi];obtain ⟨ms,hms⟩:=Ad (Gt Aw first s.present s.schema s.holder fs vs ls ts)
 rw [<-hms];intro lp J Jp N W hW hJT vd hY h0;have hgl:=hg.lt;have Vr:AI (KX n0 e g w W):=AF ((KX.refl n0 e g w).below hW hn0 hgl);obtain ⟨HG,I7⟩:=Al (hg.below hW hg.lt) (LC.below hW);have AIY:=LC;have HH:=AF hh;have Ot:AI (∀W,KX n0 e g w W->ShB W g s):=AF (fun W hk=>Xd (t:=96) (hk.box.trans hg) hh ht);obtain ⟨HR,li,HY,XH⟩:=CD hR hJT hY h0;have hgw:g < W.heap.size:=Av hgl hW.size;have HN0:AI (n0<=W.heap.size):=AF (BH hn0 hW.size);have sb:=Ot.o W Vr.o;have c3:=sb.place;have qm:=sb.fields;have c74:=sb.width;rw [hF] at qm;have hnf:nf<=9223372036854775807:=by have:=(hR W Vr.o).1.le;omega
 have hpw:IntKind.i64.wrap (s.place*s.width)=s.place*s.width:=Ca _ (by have h1:0<=s.place*s.width:=LQ hpl.1 hw.1;have h2:s.place*s.width<=1000*1000:=Po hpl.2 hw.2 hw.1 AG;omega)
 rw [<-hfi] at hpw;clear hW hJT vd hY h0 hg LC hR sb hgl;refine FK.2 ?_;go_enter func81,ntmps81;go_wp2_with fail;clear c3 qm c74;have hl1:fs.length=nf:=(HR.o W Vr.o).1.len.symm;have hl2:vs.length=nv:=(HR.o W Vr.o).2.1.len.symm;have hl3:ls.length=nl:=(HR.o W Vr.o).2.2.1.len.symm;have hl4:ts.length=nt:=(HR.o W Vr.o).2.2.2.len.symm;have LI:AI (∀(k:Nat) f v,fs[k]? =some f->vs[k]? =some v->ms[k]? =some (first+f,msgP Aw s.schema f v s.holder)):=AF (fun k f v h1 h2=>by
  have hk:=(BF.1 h1).1;have ez:(fs.zip vs)[k]? =some (f,v):=by rw [JA];exact ⟨h1,h2⟩
  rw [hms,Gt,F8,Gc,EB Bd,Bg,ez];rfl)
 have M9:AI (∀(k:Nat) l t,ls[k]? =some l->ts[k]? =some t->ms[nf+k]? =some (first+s.present - 4+l,L8 Aw s.schema l t s.holder)):=AF (fun k l t h1 h2=>by
  have hk:=(BF.1 h1).1;have ez:(ls.zip ts)[k]? =some (l,t):=by rw [JA];exact ⟨h1,h2⟩
  have el:(F8 Aw first s.schema s.holder fs vs).length=nf:=by simp [F8];omega
  rw [hms,Gt,Mt,Gc,Cj AG,el,Nat.add_sub_cancel_left,EB Bd,Bg,ez];rfl)
 have Ht:AI (ms[nf+nl]? =some (first+s.present,msgP Aw s.schema (-1) 0 s.holder)/\ms.length=nf+nl+1):=AF (by
  have el:(F8 Aw first s.schema s.holder fs vs).length=nf:=by simp [F8];omega
  have el2:(Mt Aw first s.present s.schema s.holder ls ts).length=nl:=by simp [Mt];omega
  refine ⟨?_,by rw [hms,Gt];simp only [CX,el,el2];rfl⟩;rw [hms,Gt,Cj (by rw [CX];omega),CX,el,el2,Pm];rfl)
 obtain ⟨UC,Yt,lj,HLR⟩:=CD hl1 hl3 hfr hlr;have HVA:AI (∀f:Int,0<=f/\f<=1000->IntKind.i64.wrap (wrap64 (s.place*s.width)+f)=first+f):=AF (fun f h=>by
  have h1:0<=s.place*s.width:=LQ hpl.1 hw.1;have h2:s.place*s.width<=1000*1000:=Po hpl.2 hw.2 hw.1 AG;have e0:wrap64 (s.place*s.width)=first:=by rw [hfi];exact Pr _ gU
  rw [e0];exact Ca _ AG)
 have HVB:AI (∀f:Int,0<=f/\f<=1000->IntKind.i64.wrap (IntKind.i64.wrap (IntKind.i64.wrap (wrap64 (s.place*s.width)+s.present) - 4)+f)=first+s.present - 4+f):=AF (fun f h=>by
  have h1:0<=s.place*s.width:=LQ hpl.1 hw.1;have h2:s.place*s.width<=1000*1000:=Po hpl.2 hw.2 hw.1 AG;have e0:wrap64 (s.place*s.width)=first:=by rw [hfi];exact Pr _ gU
  rw [<-hfi] at h1 h2;rw [e0,Ca (first+s.present) AG,Ca (first+s.present - 4) AG];exact Ca _ AG)
 have HVC:AI (IntKind.i64.wrap (wrap64 (s.place*s.width)+s.present)=first+s.present):=AF (by
  have h1:0<=s.place*s.width:=LQ hpl.1 hw.1;have h2:s.place*s.width<=1000*1000:=Po hpl.2 hw.2 hw.1 AG;have e0:wrap64 (s.place*s.width)=first:=by rw [hfi];exact Pr _ gU
  rw [<-hfi] at h1 h2;rw [e0];exact Ca _ AG)
 have HT0:=AF AIY;clear AIY;clear hl1 hl2 hl3 hl4 hms hfr hlr;go_loopg [18] nf (fun q i wr=>∃k:Nat,k<=nf/\q=nf - k/\i=AB AE k/\J (ms.take k) wr/\KX n0 e g w wr/\g < wr.heap.size/\n0<=wr.heap.size/\Cc wr)
 case atStart=>exact ⟨0,Ay _,rfl,rfl,XH.o,Vr.o,hgw,HN0.o,I7.o⟩
 obtain ⟨k,hk,hq,rfl,hj,hkx,hgr,hnr,htb⟩:=hrel;obtain ⟨HQ,HJ,aY,TQ,TJ⟩:=Db hq hj hkx hnr htb;have hrd:=HR.o wr hkx;clear hq hj hkx hnr htb I7 Vr XH;by_cases hlt1:k < nf
 ·obtain ⟨fb,fo,f,rfl,hfb,hf,ef,hf1,hf2⟩:=ints_at hrd.1 hlt1
  obtain ⟨vb,vo,v,rfl,hvb,hv,ev,hv1,hv2⟩:=ints_at hrd.2.1 (Av hlt1 hfv);have hkn:(k:Int) < (nf:Int):=AG
  have hkv:(k:Int) < (nv:Int):=AG
  have hk0:=Int.natCast_nonneg k
  have HX:=AF (LI.o k f v hf hv);have hfr:=lj.o f (Cr hf);have lV:AI (∀W,KX n0 e g w W->W.cell? ⟨g,2,none⟩=some (AB AE s.schema)/\W.cell? ⟨g,37,none⟩=some (AA (some ⟨vb,vo,none⟩) nv cv)/\W.cell? ⟨vb,vo+k,none⟩=some (AB AE v)):=AF (fun W hW=>⟨(Ot.o W hW).schema,(Ot.o W hW).values.trans (congrArg some hV),ACC (HR.o W hW).2.1 hv⟩);have Fs:prog.follows .mixedOrders=true:=AJ
  clear hf hv;go_upto_region 4 with fail;refine (D6 (n:=m)).1 ?_;have hS0:KX n0 e g w wr.drew:=aY.o.below (Af _ _).drew TQ.o hgr;refine rhB (KX n0 e g w) 20 _ Fs AJ rfl ?_;have hC:∀ops,ops.all QF=true->Clear Fence.wide ops:=fun ops h=>⟨fun _=>trivial,h⟩;have AEO:∀W,KX n0 e g w W->(Instr.loadAt 34 (AU (some ⟨g,4,none⟩))).run prog W=.ok (AP (yA s.holder)) W:=fun W hW=>Ei g 4 HH.o (Ot.o W hW).holder;have hva:IntKind.i64.wrap (wrap64 (s.place*s.width)+f)=first+f:=HVA.o f hfr
  refine VK (hC _ AJ) 0 23 0 AJ rfl rfl An hS0 rfl (.inl rfl) rfl ?_;refine VK (hC _ AJ) 1 24 3 AJ rfl rfl An hS0 rfl (.inl rfl) rfl ?_;refine VK (hC _ AJ) 2 25 5 AJ rfl rfl An hS0 rfl (.inl rfl) rfl ?_;refine EZ (hC _ AJ) 3 26 AJ rfl rfl An hS0 rfl (v:=AB AE (first+f)) gZ ?_;refine EZ (hC _ AJ) 4 27 AJ rfl rfl An hS0 rfl Nm ?_;refine EZ (hC _ AJ) 5 28 AJ rfl rfl An hS0 rfl Nm ?_;refine EZ (hC _ AJ) 6 29 AJ rfl rfl An hS0 rfl Nm ?_;refine VK (hC _ AJ) 7 30 5 AJ rfl rfl An hS0 rfl (.inl rfl) rfl ?_;refine EZ (hC _ AJ) 8 31 AJ rfl rfl An hS0 rfl Nm ?_;refine EZ (hC _ AJ) 9 32 AJ rfl rfl An hS0 rfl Nm ?_;refine EZ (hC _ AJ) 10 33 AJ rfl rfl An hS0 rfl Nm ?_;refine VK (hC _ AJ) 11 34 4 AJ rfl rfl An hS0 rfl (.inl rfl) rfl ?_;refine EZ (hC _ AJ) 12 35 AJ rfl rfl An hS0 rfl Nm ?_;refine EZ (hC _ AJ) 13 36 AJ rfl rfl An hS0 rfl Nm ?_;refine EZ (hC _ AJ) 14 37 AJ rfl rfl An hS0 rfl Nm ?_;refine EZ (hC _ AJ) 15 38 AJ rfl rfl An hS0 rfl Nm ?_;refine EZ (hC _ AJ) 16 39 AJ rfl rfl An hS0 rfl (v:=AP (yA s.holder)) (fun W hW=>Cv rfl AJ (AEO W hW)) ?_;refine rhF (hC _ AJ) 17 40 AJ rfl rfl rfl rfl (enters_of func18 AJ rfl) QY (FK.2 (aD s.schema f v s.holder wr.drew hsc ⟨hf1,hf2⟩ ⟨hv1,hv2⟩ HH.o (TJ.o.below (Af _ _).drew))) AJ ?_;rintro e w4 ⟨rfl,hb⟩;have hb4:AK wr w4:=(Af _ _).drew.trans hb;have hK4:KX n0 e g w w4:=aY.o.below hb4 TQ.o hgr;have hgm:=Va HX.o;refine ⟨_,rfl,hK4,?_⟩;refine rhY (hC _ AJ) 18 41 23 lp AJ rfl rfl rfl rfl AJ QY (HY.o (ms.take k) _ w4 (li.o _ _ _ HJ.o hb4) hgm.1) AJ ?_;rintro e W' (⟨rfl,hJ',hk'⟩ | ⟨ch,rfl,bd⟩)
  ·have hK5:KX n0 e g w W':=hK4.trans hk'
   refine .inl ⟨_,rfl,hK5,?_⟩;refine EZ (hC _ AJ) 19 42 AJ rfl rfl An hK5 rfl (v:=Ab false) GV ?_;refine rhD AJ ?_ _;rw [hgm.2] at hJ';obtain ⟨HJ2,Yv⟩:=Al hJ' hK5;have HT5:AI (Cc W'):=AF (hK5.tab HT0.o);have hs5:wr.heap.size<=W'.heap.size:=BH hb4.size hk'.size;have Yw:AI (g < W'.heap.size):=AF (Av hgr hs5);have XG:AI (n0<=W'.heap.size):=AF (BH TQ.o hs5);clear hJ' hK5 hK4 hb4 hb hk' hgm hS0 hC;simp only [CZ,Ch];go_wp2;go_roundg (nf - (k+1))
   case measure=>exact Bi
   case rel=>exact ⟨k+1,hlt1,rfl,rfl,HJ2.o,Yv.o,Yw.o,XG.o,HT5.o⟩
  · exact nj
 obtain ⟨q0,hq0⟩:=Ad nf;have hkn:k=nf:=AG
 subst hkn;have c72:wr.cell? ⟨g,72,none⟩=some (AA LA nl cl):=(Ot.o wr aY.o).links.trans (congrArg some hL);have hnl:nl<=9223372036854775807:=by have:=hrd.2.2.1.le;omega
 clear hq0 hrd;go_wp2_with fail;clear c72;obtain ⟨wy,hwy⟩:=Ad wr;subst hwy;have HK9:AI (ms.take k=ms.take (k+0)):=AF rfl;go_loopg [47] nl (fun q i wr=>∃l:Nat,l<=nl/\q=nl - l/\i=AB AE l/\J (ms.take (k+l)) wr/\KX n0 e g w wr/\g < wr.heap.size/\n0<=wr.heap.size/\Cc wr)
 case atStart=>exact ⟨0,Ay _,rfl,rfl,HJ.o,aY.o,hgr,TQ.o,TJ.o⟩
 clear HQ HJ aY TQ TJ hgr HK9;obtain ⟨l,hl,hq,rfl,hj,hkx,hgr,hnr,htb⟩:=hrel;obtain ⟨HQ,HJ,aY,TQ,TJ⟩:=Db hq hj hkx hnr htb;have hrd:=HR.o wr hkx;clear hq hj hkx hnr htb;by_cases hlt2:l < nl
 ·obtain ⟨lb,lo,x,rfl,hlb,hf,ef,hf1,hf2⟩:=ints_at hrd.2.2.1 hlt2
  obtain ⟨tb,DS,t,rfl,htb,hv,AHq,_,_⟩:=Kr hrd.2.2.2 (Av hlt2 hlt);have hln:(l:Int) < (nl:Int):=AG
  have hlv:(l:Int) < (nt:Int):=AG
  have hl0:(0:Int)<=(l:Int):=AG
  have HX:=AF (M9.o l x t hf hv);have hfr:=HLR.o x (Cr hf);obtain ⟨Cd,AIx⟩:=Al Fw AHq;have HS9:AI (∀W,KX n0 e g w W->W.cell? ⟨g,2,none⟩=some (AB AE s.schema)/\W.cell? ⟨g,73,none⟩=some (AA (some ⟨tb,DS,none⟩) nt ct)/\W.cell? ⟨g,75,none⟩=some (AB AE s.present)):=AF (fun W hW=>⟨(Ot.o W hW).schema,(Ot.o W hW).tokens.trans (congrArg some hT),(Ot.o W hW).present⟩);have AEO:∀W,KX n0 e g w W->(Instr.loadAt 34 (AU (some ⟨tb,DS+l*32,none⟩))).run prog W=.ok (AP (yA t)) W:=fun W hW=>Ei tb _ AIx.o (AG7 (HR.o W hW).2.2.2 hv);have AKd:∀W,KX n0 e g w W->(Instr.loadAt 34 (AU (some ⟨g,4,none⟩))).run prog W=.ok (AP (yA s.holder)) W:=fun W hW=>Ei g 4 HH.o (Ot.o W hW).holder;have hva:=HVB.o x hfr;have Fs:prog.follows .mixedOrders=true:=AJ
  clear hf hv AHq;go_upto_region 9 with fail;refine (D6 (n:=m)).1 ?_;have hS0:KX n0 e g w wr.drew:=aY.o.below (Af _ _).drew TQ.o hgr;refine rhB (KX n0 e g w) 23 _ Fs AJ rfl ?_;have hC:∀ops,ops.all QF=true->Clear Fence.wide ops:=fun ops h=>⟨fun _=>trivial,h⟩;refine VK (hC _ AJ) 0 52 0 AJ rfl rfl An hS0 rfl (.inl rfl) rfl ?_;refine VK (hC _ AJ) 1 53 3 AJ rfl rfl An hS0 rfl (.inl rfl) rfl ?_;refine EZ (hC _ AJ) 2 54 AJ rfl rfl An hS0 rfl MI ?_;refine EZ (hC _ AJ) 3 55 AJ rfl rfl An hS0 rfl MI ?_;refine EZ (hC _ AJ) 4 56 AJ rfl rfl An hS0 rfl MI ?_;refine EZ (hC _ AJ) 5 57 AJ rfl rfl An hS0 rfl MI ?_;refine VK (hC _ AJ) 6 58 7 AJ rfl rfl An hS0 rfl (.inl rfl) rfl ?_;refine EZ (hC _ AJ) 7 59 AJ rfl rfl An hS0 rfl (v:=AB AE (first+s.present - 4+x)) gZ ?_;refine EZ (hC _ AJ) 8 60 AJ rfl rfl An hS0 rfl MI ?_;refine EZ (hC _ AJ) 9 61 AJ rfl rfl An hS0 rfl MI ?_;refine EZ (hC _ AJ) 10 62 AJ rfl rfl An hS0 rfl MI ?_;refine VK (hC _ AJ) 11 63 7 AJ rfl rfl An hS0 rfl (.inl rfl) rfl ?_;refine EZ (hC _ AJ) 12 64 AJ rfl rfl An hS0 rfl MI ?_;refine EZ (hC _ AJ) 13 65 AJ rfl rfl An hS0 rfl MI ?_;refine VK (hC _ AJ) 14 66 6 AJ rfl rfl An hS0 rfl (.inl rfl) rfl ?_;refine EZ (hC _ AJ) 15 67 AJ rfl rfl An hS0 rfl MI ?_;refine EZ (hC _ AJ) 16 68 AJ rfl rfl An hS0 rfl (v:=AP (yA t)) (fun W hW=>Cv rfl AJ (AEO W hW)) ?_;refine EZ (hC _ AJ) 17 69 AJ rfl rfl An hS0 rfl MI ?_;refine EZ (hC _ AJ) 18 70 AJ rfl rfl An hS0 rfl MI ?_;refine EZ (hC _ AJ) 19 71 AJ rfl rfl An hS0 rfl (v:=AP (yA s.holder)) (fun W hW=>Cv rfl AJ (AKd W hW)) ?_;refine rhF (hC _ AJ) 20 72 AJ rfl rfl rfl rfl (enters_of func19 AJ rfl) QY (FK.2 (link_any s.schema x t s.holder wr.drew hsc ⟨hf1,hf2⟩ AIx.o HH.o (TJ.o.below (Af _ _).drew))) AJ ?_;rintro e w4 ⟨rfl,hb⟩;have hb4:AK wr w4:=(Af _ _).drew.trans hb;have hK4:KX n0 e g w w4:=aY.o.below hb4 TQ.o hgr;have hgm:=Va HX.o;refine ⟨_,rfl,hK4,?_⟩;refine rhY (hC _ AJ) 21 73 52 lp AJ rfl rfl rfl rfl AJ QY (HY.o (ms.take (k+l)) _ w4 (li.o _ _ _ HJ.o hb4) hgm.1) AJ ?_;rintro e W' (⟨rfl,hJ',hk'⟩ | ⟨ch,rfl,bd⟩)
  ·have hK5:KX n0 e g w W':=hK4.trans hk'
   refine .inl ⟨_,rfl,hK5,?_⟩;refine EZ (hC _ AJ) 22 74 AJ rfl rfl An hK5 rfl (v:=Ab false) GV ?_;refine rhD AJ ?_ _;rw [hgm.2] at hJ';obtain ⟨HJ2,Yv⟩:=Al hJ' hK5;have HT5:AI (Cc W'):=AF (hK5.tab HT0.o);have hs5:wr.heap.size<=W'.heap.size:=BH hb4.size hk'.size;have Yw:AI (g < W'.heap.size):=AF (Av hgr hs5);have XG:AI (n0<=W'.heap.size):=AF (BH TQ.o hs5);clear hJ' hK5 hK4 hb4 hb hk' hgm hS0 hC;simp only [CZ,Ch];go_wp2;go_roundg (nl - (l+1))
   case measure=>exact Bi
   case rel=>exact ⟨l+1,hlt2,rfl,rfl,HJ2.o,Yv.o,Yw.o,XG.o,HT5.o⟩
  · exact nj
 have hll:l=nl:=AG
 subst hll;have hX:=Ht.o;have Fs:prog.follows .mixedOrders=true:=AJ
 have HS8:AI (∀W,KX n0 e g w W->W.cell? ⟨g,2,none⟩=some (AB AE s.schema)/\W.cell? ⟨g,75,none⟩=some (AB AE s.present)):=AF (fun W hW=>⟨(Ot.o W hW).schema,(Ot.o W hW).present⟩);have AKe:∀W,KX n0 e g w W->(Instr.loadAt 34 (AU (some ⟨g,4,none⟩))).run prog W=.ok (AP (yA s.holder)) W:=fun W hW=>Ei g 4 HH.o (Ot.o W hW).holder;have hva:=HVC.o;clear hrd;go_upto_region 11 with fail;refine (D6 (n:=m)).1 ?_;have hS0:KX n0 e g w wr.drew:=aY.o.below (Af _ _).drew TQ.o hgr;refine rhB (KX n0 e g w) 13 _ Fs AJ rfl ?_;have hC:∀ops,ops.all QF=true->Clear Fence.wide ops:=fun ops h=>⟨fun _=>trivial,h⟩;refine VK (hC _ AJ) 0 76 0 AJ rfl rfl An hS0 rfl (.inl rfl) rfl ?_;refine VK (hC _ AJ) 1 77 3 AJ rfl rfl An hS0 rfl (.inl rfl) rfl ?_;refine EZ (hC _ AJ) 2 78 AJ rfl rfl An hS0 rfl SV ?_;refine EZ (hC _ AJ) 3 79 AJ rfl rfl An hS0 rfl SV ?_;refine EZ (hC _ AJ) 4 80 AJ rfl rfl An hS0 rfl (v:=AB AE (first+s.present)) gZ ?_;refine EZ (hC _ AJ) 5 81 AJ rfl rfl An hS0 rfl SV ?_;refine EZ (hC _ AJ) 6 82 AJ rfl rfl An hS0 rfl SV ?_;refine EZ (hC _ AJ) 7 83 AJ rfl rfl An hS0 rfl SV ?_;refine EZ (hC _ AJ) 8 84 AJ rfl rfl An hS0 rfl SV ?_;refine EZ (hC _ AJ) 9 85 AJ rfl rfl An hS0 rfl SV ?_;refine EZ (hC _ AJ) 10 86 AJ rfl rfl An hS0 rfl (v:=AP (yA s.holder)) (fun W hW=>Cv rfl AJ (AKe W hW)) ?_;refine rhF (hC _ AJ) 11 87 AJ rfl rfl rfl rfl (enters_of func18 AJ rfl) QY (FK.2 (aD s.schema (-1) 0 s.holder wr.drew hsc (by constructor <;> decide) (by constructor <;> decide) HH.o (TJ.o.below (Af _ _).drew))) AJ ?_;rintro e w4 ⟨rfl,hb⟩;have hb4:AK wr w4:=(Af _ _).drew.trans hb;have hK4:KX n0 e g w w4:=aY.o.below hb4 TQ.o hgr;have hgm:=Va hX.1;have hfull:ms.take (k+l+1)=ms:=C7 (by rw [hX.2];exact Ac _);refine ⟨_,rfl,hK4,?_⟩;refine rhY (hC _ AJ) 12 88 76 lp AJ rfl rfl rfl rfl AJ QY (HY.o (ms.take (k+l)) _ w4 (li.o _ _ _ HJ.o hb4) hgm.1) AJ ?_;rintro e W' (⟨rfl,hJ',hk'⟩ | ⟨ch,rfl,bd⟩)
 ·refine .inl ⟨_,rfl,hK4.trans hk',?_⟩
  refine rhD AJ ?_ _;rw [hgm.2,hfull] at hJ';have HJ2:=AF hJ';clear hJ' hK4 hb4 hb hk' hgm hS0 hC hX hfull;simp only [CZ,Ch];go_wp2_with fail
  first | go_end0 | refine FN (results_none rfl _ _ _) rfl ?_
  exact .inl ⟨⟨_,rfl⟩,ms,rfl,HJ2.o⟩
 · exact nj
attribute [local go_sem] Oper.semAt_some
def Hk (e:Int):List PanicEntry:=[{v:=.iface 133 (AP #[AB AE e]),recovered:=false}]
theorem Ew (e:Int) (w:AH):AS prog 38 #[Ab true,AB AE e] w fun en w'=>(∃v,en=AW v)/\w'=w:=by
 go_enter func38,ntmps38;go_wp2_with fail
 go_end0
 exact ⟨⟨_,rfl⟩,rfl⟩
theorem EP (e:Int) (w:AH):AS prog 38 #[Ab false,AB AE e] w fun en w'=>en=CN (Hk e)/\w'=w:=by go_enter func38,ntmps38;go_wp2_with fail;exact ⟨rfl,rfl,rfl⟩
theorem VX (A:Option Aa) (m c:Nat) (fs:AQ) (n:Nat) (w:AH) (h:Ag 1 Bt w (AA A m c) fs):
 AS prog 43 #[AA A m c,AB AE n] w fun e w'=>e=AW (Ab (Nh n (-1) fs))/\w'=w:=by
 have H:=AF h;have hle:m<=9223372036854775807:=by have:=h.le;omega
 have hlen:AI (fs.length=m):=AF h.len.symm;clear h;go_enter func43,ntmps43;go_wp2_with fail;go_loopg [5,10] m (fun q la i wr=>∃(k:Nat) (last:Int),k<=m/\q=m - k/\la=AB AE last/\i=AB AE k/\wr=w/\Nh n (-1) fs=Nh n last (fs.drop k))
 case atStart=>exact ⟨0, -1,Ay _,rfl,rfl,rfl,rfl,rfl⟩
 obtain ⟨k,last,hk,hq,rfl,rfl,rfl,hi⟩:=hrel;obtain ⟨HQ,HI⟩:=Al hq hi;clear hq hi;by_cases hlt:k < m
 ·obtain ⟨b,o,f,rfl,hb,hf,ef,_,_⟩:=ints_at H.o hlt
  have hdr:fs.drop k=f::fs.drop (k+1):=by have hkl:=(BF.1 hf).1;rw [Ut hkl];rw [BN hkl] at hf;injection hf with hf;rw [hf]
  rw [hdr] at HI;have hk1:(k:Int) < (m:Int):=AG
  have hk0:=Int.natCast_nonneg k
  clear hf hdr;by_cases h1:f<=last
  ·go_wp2
   go_ret;exact ⟨by rw [HI.o,Nh,BS (by omega:¬last < f)];rfl,rfl⟩
  by_cases h2:(n:Int)<=f
  ·go_wp2
   go_ret;exact ⟨by rw [HI.o,Nh,BS (by omega:¬f < (n:Int)),Y5];rfl,rfl⟩
  go_wp2;go_roundg (m - (k+1))
  case measure=>exact Bi
  case rel=>exact ⟨k+1,f,hlt,rfl,rfl,rfl,rfl,by rw [HI.o,Nh,Bk (by omega:last < f),Bk (by omega:f < (n:Int))];rfl⟩
 have hkm:k=m:=AG
 subst hkm;go_wp2;go_ret;have e:fs.drop k=[]:=FQ (by rw [hlen.o];exact Ac _);exact ⟨by rw [HI.o,e];rfl,rfl⟩
attribute [local go_sem] Oper.semAt_some
structure PU (S T:AN) (ck:Int) (val:Int->Int->Int->Bool) (w:AH):Prop where
 chk:∀(W:AH),AK w W->AS prog 23 #[T] W fun e w'=>e=AW (AB AE ck)/\AK W w'
 val:∀(sc f v:Int) (W:AH),AK w W->AS prog 46 #[S,AB AE sc,AB AE f,AB AE v] W fun e w'=>e=AW (Ab (val sc f v))/\AK W w'
theorem PU.below {S T:AN} {ck:Int} {val:Int->Int->Int->Bool} {w w':AH} (h:PU S T ck val w) (hb:AK w w'):PU S T ck val w':=
 ⟨fun W hW=>h.chk W (AV hb hW),fun sc f v W hW=>h.val sc f v W (AV hb hW)⟩
def Kx (_:AH) (cs:List AN) (n:Nat):Prop:=∃v0 v1 v2 v3 A c v5,cs=[v0,v1,v2,v3,AA A n c,v5]/\n<=140737488355328/\(∀u∈[v0,v1,v2,v3,v5],u.oneCell'=true)
theorem Di:Ep Kx:=fun _ _ _ _ _ h=>h
theorem Nv {W:AH} {A:Option Aa} {n c k:Nat} {ns:List Nat} (h:Ag 6 Kx W (AA A n c) ns) (hk:k < n):
 ∃b off x v0 v1 v2 v3 A1 c1 v5,A=some ⟨b,off,none⟩/\b < W.heap.size/\ns[k]? =some x/\x<=140737488355328/\(∀u∈[v0,v1,v2,v3,v5],u.oneCell'=true)/\(∀j v,[v0,v1,v2,v3,AA A1 x c1,v5][j]? =some v->W.cell? ⟨b,off+k*6+j,none⟩=some v):=by
 obtain ⟨b,off,x,cs,e,hb,hl,hlen,hc,hR⟩:=h.at_ hk;obtain ⟨v0,v1,v2,v3,A1,c1,v5,rfl,hx,ho⟩:=hR;exact ⟨b,off,x,v0,v1,v2,v3,A1,c1,v5,e,hb,hl,hx,ho,fun j v hj=>by rw [Ji];exact hc j v hj⟩
theorem Tc (v0 v1 v2 v3 v5:AN) (A:Option Aa) (n c:Nat) (w:AH) (hn:n<=140737488355328):
 AS prog 30 #[AP #[v0,v1,v2,v3,AA A n c,v5]] w fun e w'=>e=AW (AB AE ((n:Int)+4+1))/\AK w w':=by
 have e1:IntKind.i64.wrap ((n:Int)+4)=(n:Int)+4:=Ca _ AG;have e2:IntKind.i64.wrap ((n:Int)+4+1)=(n:Int)+4+1:=Ca _ AG;go_enter func30,ntmps30;exact zt
theorem US (v0 v1 v3 v4 v5 v6:AN) (A:Option Aa) (n c:Nat) (i:Int) (w:AH):
 AS prog 29 #[AP #[v0,v1,AA A n c,v3,v4,v5,v6],AB AE i] w fun e w'=>e=AW (Ab (decide (0<=i) && decide (i < n)))/\AK w w':=by
 go_enter func29,ntmps29;by_cases h1:0<=i
 ·go_wp2
  go_ret;exact ⟨by rw [Bk h1];rfl,(Af _ _).alloc (Ac _) _⟩
 go_wp2;go_ret;exact ⟨by rw [BS (by omega:¬0<=i)];rfl,(Af _ _).alloc (Ac _) _⟩
attribute [local go_sem] Oper.semAt_some
def rdA (r:Br):Array AN:=#[AB AE r.Ar,AB AE r.no,AB AE r.schema,AB AE r.day,AB AE r.known,AB AE r.places]++yA r.root
def Ba (ns:List Nat) (i:Int):Option Nat:=if 0<=i then ns[i.toNat]? else none
section
variable {P:BE} {md:Region.Mode} {ops:Array Oper} {Q:Exit->Act->AH->Prop} {S:AH->Prop} {fuel:Nat} {listed:Array Bool} {l:List AN} {D:List Deferred} {w:AH}
theorem ADJ (i d:Nat) {o:Oper} {f:FuncId} {xs:Array Operand} {ts:Array Ae} {args:Array AN} {R:Ending->AH->Prop} (hr:Region.ready md ops listed=[i]) (hi:ops[i]? =some o) (hd:o.dst=some d) (hw:Region.wanted o (yielded ops l.toArray)=true)
 (ho:o.op=.call {callee:=.value (.func f),args:=xs,argTypes:=ts}) (he:Enters P f) (hc:AS P f args w R) (ha:xs.toList.map (Act.eval ⟨l.toArray,D⟩)=args.toList)
 (h:∀e w',R e w'->∃v,e=AW v/\S w'/\wpAnyH P md ops Q S fuel (listed.setIfInBounds i true) ⟨(l.set d v).toArray,D⟩ w'):wpAnyH P md ops Q S (fuel+1) listed ⟨l.toArray,D⟩ w:=by
 refine wpAnyH_all hr AZ fun j hj=> ?_;obtain rfl:j=i:=by simpa using hj
 unfold wpOp;rw [hi];simp only [hw,C4];refine .inl ?_;exact AAr
end
theorem YI (v0 v1 v3 v4 v5 v6:AN) (A:Option Aa) (n c:Nat) (ns:List Nat) (r:Br) (w:AH) (hs:Ag 6 Kx w (AA A n c) ns):
 AS prog 27 #[AP #[v0,v1,AA A n c,v3,v4,v5,v6],AP (rdA r)] w fun e w'=>e=AW (Ab (Gk (Ba ns r.schema) r.places))/\AK w w':=by
 obtain ⟨sc,hsc1⟩:=Ad r.schema;obtain ⟨pl,AEE⟩:=Ad r.places;rw [<-hsc1,<-AEE];obtain ⟨R,hR⟩:=Ad (rdA r);obtain ⟨T,hT⟩:=Ad (#[v0,v1,AA A n c,v3,v4,v5,v6]);have HR2:AI (R[2]? =some (AB AE sc)):=AF (by rw [hR,rdA,hsc1,P1 AZ];rfl);have Ym:AI (R[5]? =some (AB AE pl)):=AF (by rw [hR,rdA,AEE,P1 AZ];rfl);rw [<-hR,<-hT];obtain ⟨HT,HS⟩:=Al hT hs;obtain ⟨X,hX⟩:=Ad ((decide (0<=sc) && decide (sc < n)));have HNI:AI (false=(decide (0<=sc) && decide (sc < n))->Ba ns sc=none):=AF (fun h=>by
  unfold Ba;split
  ·rename_i h0
   rw [Bk h0,Jc] at h;have h1:=R8 h.symm;have hl:=hs.len;exact Dh AG
  · rfl)
 have Ij:AI (∀W,AS prog 29 #[.agg T,AB AE sc] W fun e w'=>e=AW (Ab X)/\AK W w'):=AF (fun W=>by rw [hT,hX];exact US v0 v1 v3 v4 v5 v6 A n c sc W);clear hR hT hsc1 AEE;go_enter func27,ntmps27;go_upto_region 1 with fail;have hwb:AK w ((w.alloc (AO T 32)).alloc (AO R 36)):=((Af _ w).alloc (Ac _) _).alloc AZ _;have HB1:AI (AY ((w.alloc (AO T 32)).alloc (AO R 36)) w.heap.size 32 T):=AF ((LR _ _ _ AZ).trans (World.alloc_heap_new w _));have HB2:AI (AY ((w.alloc (AO T 32)).alloc (AO R 36)) (w.heap.size+1) 36 R):=AF (by have:=World.alloc_heap_new (w.alloc (AO T 32)) (AO R 36);rwa [Ev] at this);have Cf:=AF hwb;clear hwb;generalize ((w.alloc (AO T 32)).alloc (AO R 36))=w4 at *;have hd:AK w4 w4.drew:=(Af _ _).drew;have UC:AI (∀W,AK w4 W->(Instr.loadAt 32 (AU (some ⟨w.heap.size,0,none⟩))).run prog W=.ok (.agg T) W):=AF (fun W hW=>by simp only [Instr.loadAt,Instr.sureAddr,Cp,DL,Result.andThen_ok,NL W w.heap.size 32 32 T (0,0) _ (HB1.o.below hW HB1.o.lt) underlying32 rfl (by rw [HT.o];kernel_rfl)])
 have HC2:AI (∀W,AK w4 W->W.cell? ⟨w.heap.size+1,2,none⟩=some (AB AE sc)/\W.cell? ⟨w.heap.size+1,5,none⟩=some (AB AE pl)/\W.cell? ⟨w.heap.size,2,none⟩=some (AA A n c)):=AF (fun W hW=>by have b1:=HB1.o.below hW HB1.o.lt;have b2:=HB2.o.below hW HB2.o.lt;exact ⟨(b2.cell 2).trans HR2.o,(b2.cell 5).trans Ym.o,(b1.cell 2).trans (by rw [HT.o];rfl)⟩)
 have Fs:prog.follows .mixedOrders=true:=AJ
 refine Pe (fun W=>AK w4 W) 29 _ Fs AJ rfl ?_;refine DP 0 5 AJ rfl rfl An hd rfl (v:=.agg T) (fun W hW=>Cv rfl AJ (UC.o W hW)) ?_;refine DP 1 6 AJ rfl rfl An hd rfl B8 ?_;refine DP 2 7 AJ rfl rfl An hd rfl B8 ?_;refine Wm 3 8 AJ rfl rfl rfl rfl (enters_of func29 AJ rfl) (Ij.o w4.drew) AJ ?_;rintro e w5 ⟨rfl,hb5⟩;have h5:AK w4 w5:=hd.trans hb5;refine ⟨_,rfl,h5,?_⟩;have hq5:AK w w5:=AV Cf.o h5;have JI:=AF hX;clear hX;cases X with
 |
  false=>
  refine DP 4 9 AJ rfl rfl An h5 AJ B8 ?_;refine Fm 5 10 AJ rfl rfl An h5 AJ ?_;refine Fm 6 11 AJ rfl rfl An h5 AJ ?_;refine Fm 7 12 AJ rfl rfl An h5 AJ ?_;refine DP 8 13 AJ rfl rfl An h5 AJ B8 ?_;refine DP 9 14 AJ rfl rfl An h5 AJ B8 ?_;refine Fm 10 15 AJ rfl rfl An h5 AJ ?_;refine Fm 11 16 AJ rfl rfl An h5 AJ ?_;refine Fm 12 17 AJ rfl rfl An h5 AJ ?_;refine DP 13 18 AJ rfl rfl An h5 AJ B8 ?_;refine DP 14 19 AJ rfl rfl An h5 AJ B8 ?_;refine Fm 15 20 AJ rfl rfl An h5 AJ ?_;refine Fm 16 21 AJ rfl rfl An h5 AJ ?_;refine Fm 17 22 AJ rfl rfl An h5 AJ ?_;refine Fm 18 23 AJ rfl rfl An h5 AJ ?_;refine Fm 19 24 AJ rfl rfl An h5 AJ ?_;refine Fm 20 25 AJ rfl rfl An h5 AJ ?_;refine Fm 21 26 AJ rfl rfl An h5 AJ ?_;refine Fm 22 27 AJ rfl rfl An h5 AJ ?_;refine Fm 23 28 AJ rfl rfl An h5 AJ ?_;refine Fm 24 29 AJ rfl rfl An h5 AJ ?_;refine Fm 25 30 AJ rfl rfl An h5 AJ ?_;refine Fm 26 31 AJ rfl rfl An h5 AJ ?_;refine DP 27 32 AJ rfl rfl An h5 AJ B8 ?_;refine DP 28 4 AJ rfl rfl An h5 AJ B8 ?_;refine Ed AJ ?_ _;simp only [CZ,Ch];go_wp2;go_ret;exact ⟨by rw [HNI.o JI.o];rfl,hq5⟩
 |
  true=>
  have hin:0<=sc/\sc < n:=by have h:=JI.o;rw [eq_comm,Bb,ZI,ZI] at h;exact h
  obtain ⟨k,rfl⟩:∃k:Nat,sc=(k:Int):=⟨sc.toNat,by omega⟩;have hk:k < n:=AG
  have hk1:(k:Int) < (n:Int):=AG
  have hk0:=Int.natCast_nonneg k
  obtain ⟨b,off,x,x0,x1,x2,x3,B,cc,x5,rfl,hb,hx,hxl,hone,hcell⟩:=Nv HS.o hk;have HN:AI (Ba ns k=some x):=AF tx;have fP:AI (∀W,AK w4 W->(Instr.loadAt 85 (AU (some ⟨b,off+k*6,none⟩))).run prog W=.ok (AP #[x0,x1,x2,x3,AA B x cc,x5]) W):=AF (fun W hW=>by have hr:W.rangeAt b (off+k*6) [x0,x1,x2,x3,AA B x cc,x5]:=fun j v hj=>((AV Cf.o hW).cell (p:=⟨b,off+k*6+j,none⟩) hb).trans (hcell j v hj);simp only [Instr.loadAt,Instr.sureAddr,Cp,DL,Result.andThen_ok,Rz W b (off+k*6) 85 _ _ hr underlying85 rfl AJ])
  have HWD:AI (∀W,AS prog 30 #[AP #[x0,x1,x2,x3,AA B x cc,x5]] W fun e w'=>e=AW (AB AE ((x:Int)+4+1))/\AK W w'):=AF (fun W=>Tc x0 x1 x2 x3 x5 B x cc W hxl);have hsz:(prog.info? 85).map (·.size)=some 6:=AJ
  have Cd:=AF hsz;clear hx hcell hone;by_cases h1:1<=pl
  ·by_cases h2:pl<=16
   ·have hmul:IntKind.i64.wrap (pl*((x:Int)+4+1))=pl*((x:Int)+4+1):=Ca _ (by
     have ha:0<=pl*((x:Int)+4+1):=LQ AG AG;have hb:pl*((x:Int)+4+1)<=16*(140737488355328+4+1):=Po h2 AG AG AG;omega)
    refine DP 4 9 AJ rfl rfl An h5 AJ B8 ?_;refine DP 5 10 AJ rfl rfl An h5 AJ B8 ?_;refine DP 6 11 AJ rfl rfl An h5 AJ B8 ?_;refine DP 7 12 AJ rfl rfl An h5 AJ (v:=Ab true) B8 ?_;refine DP 8 13 AJ rfl rfl An h5 AJ B8 ?_;refine DP 9 14 AJ rfl rfl An h5 AJ B8 ?_;refine DP 10 15 AJ rfl rfl An h5 AJ B8 ?_;refine DP 11 16 AJ rfl rfl An h5 AJ B8 ?_;refine DP 12 17 AJ rfl rfl An h5 AJ (v:=Ab true) B8 ?_;refine DP 13 18 AJ rfl rfl An h5 AJ B8 ?_;refine DP 14 19 AJ rfl rfl An h5 AJ B8 ?_;refine DP 15 20 AJ rfl rfl An h5 AJ B8 ?_;refine DP 16 21 AJ rfl rfl An h5 AJ B8 ?_;refine DP 17 22 AJ rfl rfl An h5 AJ B8 ?_;refine DP 18 23 AJ rfl rfl An h5 AJ B8 ?_;refine DP 19 24 AJ rfl rfl An h5 AJ B8 ?_;refine DP 20 25 AJ rfl rfl An h5 AJ B8 ?_;refine DP 21 26 AJ rfl rfl An h5 AJ B8 ?_;refine DP 22 27 AJ rfl rfl An h5 AJ B8 ?_;refine DP 23 28 AJ rfl rfl An h5 AJ (v:=AP #[x0,x1,x2,x3,AA B x cc,x5]) (fun W hW=>Cv rfl AJ (fP.o W hW)) ?_;refine ADJ 24 29 AJ rfl rfl AJ rfl (enters_of func30 AJ rfl) (HWD.o w5) AJ ?_;rintro e w6 ⟨rfl,hb6⟩;have h6:AK w4 w6:=AV h5 hb6;refine ⟨_,rfl,h6,?_⟩;refine DP 25 30 AJ rfl rfl An h6 AJ (v:=AB AE (pl*((x:Int)+4+1))) gj ?_;refine DP 26 31 AJ rfl rfl An h6 AJ (v:=Ab (decide (pl*((x:Int)+4+1)<=256))) B8 ?_;refine DP 27 32 AJ rfl rfl An h6 AJ B8 ?_;refine DP 28 4 AJ rfl rfl An h6 AJ B8 ?_;refine Ed AJ ?_ _;simp only [CZ,Ch];go_wp2;go_ret;exact ⟨by rw [HN.o,Gk,Bk h1,Bk h2];rfl,AV Cf.o h6⟩
   skip
   refine DP 4 9 AJ rfl rfl An h5 AJ B8 ?_;refine DP 5 10 AJ rfl rfl An h5 AJ B8 ?_;refine DP 6 11 AJ rfl rfl An h5 AJ B8 ?_;refine DP 7 12 AJ rfl rfl An h5 AJ (v:=Ab true) B8 ?_;refine DP 8 13 AJ rfl rfl An h5 AJ B8 ?_;refine DP 9 14 AJ rfl rfl An h5 AJ B8 ?_;refine DP 10 15 AJ rfl rfl An h5 AJ B8 ?_;refine DP 11 16 AJ rfl rfl An h5 AJ B8 ?_;refine DP 12 17 AJ rfl rfl An h5 AJ (v:=Ab false) B8 ?_;refine DP 13 18 AJ rfl rfl An h5 AJ B8 ?_;refine DP 14 19 AJ rfl rfl An h5 AJ B8 ?_;refine Fm 15 20 AJ rfl rfl An h5 AJ ?_;refine Fm 16 21 AJ rfl rfl An h5 AJ ?_;refine Fm 17 22 AJ rfl rfl An h5 AJ ?_;refine Fm 18 23 AJ rfl rfl An h5 AJ ?_;refine Fm 19 24 AJ rfl rfl An h5 AJ ?_;refine Fm 20 25 AJ rfl rfl An h5 AJ ?_;refine Fm 21 26 AJ rfl rfl An h5 AJ ?_;refine Fm 22 27 AJ rfl rfl An h5 AJ ?_;refine Fm 23 28 AJ rfl rfl An h5 AJ ?_;refine Fm 24 29 AJ rfl rfl An h5 AJ ?_;refine Fm 25 30 AJ rfl rfl An h5 AJ ?_;refine Fm 26 31 AJ rfl rfl An h5 AJ ?_;refine DP 27 32 AJ rfl rfl An h5 AJ B8 ?_;refine DP 28 4 AJ rfl rfl An h5 AJ B8 ?_;refine Ed AJ ?_ _;simp only [CZ,Ch];go_wp2;go_ret;exact ⟨by rw [HN.o,Gk,BS (by omega:¬pl<=16),Y5];rfl,hq5⟩
  skip
  refine DP 4 9 AJ rfl rfl An h5 AJ B8 ?_;refine DP 5 10 AJ rfl rfl An h5 AJ B8 ?_;refine DP 6 11 AJ rfl rfl An h5 AJ B8 ?_;refine DP 7 12 AJ rfl rfl An h5 AJ (v:=Ab false) B8 ?_;refine DP 8 13 AJ rfl rfl An h5 AJ B8 ?_;refine DP 9 14 AJ rfl rfl An h5 AJ B8 ?_;refine Fm 10 15 AJ rfl rfl An h5 AJ ?_;refine Fm 11 16 AJ rfl rfl An h5 AJ ?_;refine Fm 12 17 AJ rfl rfl An h5 AJ ?_;refine DP 13 18 AJ rfl rfl An h5 AJ B8 ?_;refine DP 14 19 AJ rfl rfl An h5 AJ B8 ?_;refine Fm 15 20 AJ rfl rfl An h5 AJ ?_;refine Fm 16 21 AJ rfl rfl An h5 AJ ?_;refine Fm 17 22 AJ rfl rfl An h5 AJ ?_;refine Fm 18 23 AJ rfl rfl An h5 AJ ?_;refine Fm 19 24 AJ rfl rfl An h5 AJ ?_;refine Fm 20 25 AJ rfl rfl An h5 AJ ?_;refine Fm 21 26 AJ rfl rfl An h5 AJ ?_;refine Fm 22 27 AJ rfl rfl An h5 AJ ?_;refine Fm 23 28 AJ rfl rfl An h5 AJ ?_;refine Fm 24 29 AJ rfl rfl An h5 AJ ?_;refine Fm 25 30 AJ rfl rfl An h5 AJ ?_;refine Fm 26 31 AJ rfl rfl An h5 AJ ?_;refine DP 27 32 AJ rfl rfl An h5 AJ B8 ?_;refine DP 28 4 AJ rfl rfl An h5 AJ B8 ?_;refine Ed AJ ?_ _;simp only [CZ,Ch];go_wp2;go_ret;exact ⟨by rw [HN.o,Gk,BS (by omega:¬1<=pl)];rfl,hq5⟩
attribute [local go_sem] Oper.semAt_some
theorem Yb (v0 v1 v3 v4 v5 v6:AN) (A:Option Aa) (n c:Nat) (ns:List Nat) (k x:Nat) (B:Option Aa) (m mc:Nat) (vs:AQ) (ck:Int) (val:Int->Int->Int->Bool) (w:AH) (hs:Ag 6 Kx w (AA A n c) ns) (hx:ns[k]? =some x)
 (hv:Ag 1 Bt w (AA B m mc) vs) (hK:PU (AP #[v0,v1,AA A n c,v3,v4,v5]) (AP #[v0,v1,AA A n c,v3,v4,v5,v6]) ck val w):
 AS prog 39 #[AP #[v0,v1,AA A n c,v3,v4,v5,v6],AB AE k,AA B m mc] w fun e w'=>e=AW (Ab (Dx x (val k) vs))/\AK w w':=by
 have hk:k < n:=by rw [hs.len];exact (BF.1 hx).1
 have hk1:(k:Int) < (n:Int):=AG
 have hk0:=Int.natCast_nonneg k
 have hle:m<=9223372036854775807:=by have:=hv.le;omega
 have hlen:=hv.len;obtain ⟨b,off,x',x0,x1,x2,x3,C,cc,x5,rfl,hb,hx',hxl,hone,hcell⟩:=Nv hs hk;rw [hx] at hx';injection hx' with hx';subst hx';obtain ⟨T,hT⟩:=Ad (#[v0,v1,AA (some ⟨b,off,none⟩) n c,v3,v4,v5,v6]);obtain ⟨HT,HV,vz,HLEN⟩:=CD hT hv hK hlen;have hc4:∀W,AK w W->W.cell? ⟨b,off+k*6+4,none⟩=some (AA C x cc):=fun W hW=>(hW.cell (p:=⟨b,off+k*6+4,none⟩) hb).trans (hcell 4 _ rfl);have Pa:=AF hc4;have hsz:(prog.info? 85).map (·.size)=some 6:=AJ
 have Cd:=AF hsz;rw [<-hT];clear hs hv hK hlen hcell hone hx hT hc4;go_enter func39,ntmps39;go_upto_region 1 with fail;have HB1:AI (AY (w.alloc (AO T 32)) w.heap.size 32 T):=AF (World.alloc_heap_new w _);have Cf:AI (AK w (w.alloc (AO T 32))):=AF ((Af _ w).alloc (Ac _) _);generalize (w.alloc (AO T 32))=w4 at *;have c2:w4.cell? ⟨w.heap.size,2,none⟩=some (AA (some ⟨b,off,none⟩) n c):=(HB1.o.cell 2).trans (by rw [HT.o];rfl);have c4:=Pa.o w4 Cf.o;by_cases hmx:m=x
 ·subst hmx
  go_wp2_with fail;clear c2 c4;obtain ⟨Z,hZ⟩:=Ad ((upto m).zip vs);have HZ:AI (∀(j:Nat) v,vs[j]? =some v->Z[j]? =some ((j:Int),v)):=AF (fun j v h=>by have hj:=(BF.1 h).1;rw [hZ,JA];refine ⟨?_,h⟩;rw [upto,Bg,MV (by rw [HLEN.o];exact hj)];rfl)
  have fF:AI (Z.length=m):=AF (by rw [hZ,List.length_zip,<-HLEN.o,upto,CY,ZF,Nat.min_self]);have Nk:AI (Dx m (val k) vs=Z.all fun p=>val k p.1 p.2):=AF (by rw [Dx,Bk (by rw [<-HLEN.o]:vs.length=m),Jc,hZ]);clear hZ;have H0:AI (BL w.heap.size w4 w4):=AF (Af _ _);go_loopg [22] m (fun q i wr=>∃j:Nat,j<=m/\q=m - j/\i=AB AE j/\(Z.all fun p=>val k p.1 p.2)=((Z.drop j).all fun p=>val k p.1 p.2)/\AK w4 wr)
  case atStart=>exact N3
  obtain ⟨j,hj,hq,rfl,hall,hbw⟩:=hrel;obtain ⟨HQ,EU,CW⟩:=BB hq hall hbw;have hvr:=(HV.o.mono BT (AV Cf.o hbw));clear hq hall hbw;by_cases hlt:j < m
  ·obtain ⟨fb,fo,v,rfl,hfb,hf,ef,_,_⟩:=ints_at hvr hlt
   have hj1:(j:Int) < (m:Int):=AG
   have hj0:(0:Int)<=(j:Int):=AG
   have hdr:Z.drop j=((j:Int),v)::Z.drop (j+1):=by have hz:=HZ.o j v hf;have hkl:=(BF.1 hz).1;rw [Ut hkl];rw [BN hkl] at hz;injection hz with hz;rw [hz]
   have HDR:AI ((Z.all fun p=>val k p.1 p.2)=(val k j v && (Z.drop (j+1)).all fun p=>val k p.1 p.2)):=AF (by rw [EU.o,hdr];rfl);obtain ⟨Y,hY⟩:=Ad (val k j v);rw [<-hY] at HDR;have HCV:AI (∀W,AK w4 W->AS prog 46 #[AP #[v0,v1,AA (some ⟨b,off,none⟩) n c,v3,v4,v5],AB AE k,AB AE j,AB AE v] W fun e w'=>e=AW (Ab Y)/\AK W w'):=AF (fun W hW=>by rw [hY];exact vz.o.val k j v W (AV Cf.o hW));have N0:AI (wr.rangeAt w.heap.size 0 [v0,v1,AA (some ⟨b,off,none⟩) n c,v3,v4,v5]):=AF (fun q u hu=>by
    have b1:=HB1.o.below CW.o HB1.o.lt;have hq6:q < 6:=(BF.1 hu).1;rw [Es];refine (b1.cell q).trans ?_;rw [HT.o,Aj,<-hu];rcases q with _ | _ | _ | _ | _ | _ | q
    all_goals first | rfl | omega)
   have d0:wr.cell? ⟨w.heap.size,0,none⟩=some v0:=by simpa using N0.o 0 _ rfl
   have d1:wr.cell? ⟨w.heap.size,1,none⟩=some v1:=by simpa using N0.o 1 _ rfl
   have d2:wr.cell? ⟨w.heap.size,2,none⟩=some (AA (some ⟨b,off,none⟩) n c):=by simpa using N0.o 2 _ rfl
   have d3:wr.cell? ⟨w.heap.size,3,none⟩=some v3:=by simpa using N0.o 3 _ rfl
   have d4:wr.cell? ⟨w.heap.size,4,none⟩=some v4:=by simpa using N0.o 4 _ rfl
   have d5:wr.cell? ⟨w.heap.size,5,none⟩=some v5:=by simpa using N0.o 5 _ rfl
   clear hf hdr hY hvr;cases Y with
   |
    false=>
    go_wp2_with (first
     | (
      go_at_call 46;refine (HCV.o _ CW.o).mono ?_;rintro e w6 ⟨rfl,hb6⟩;have Fb:=AF hb6;clear hb6))
    go_ret;exact ⟨by rw [Nk.o,HDR.o];rfl,AV Cf.o (AV CW.o Fb.o)⟩
   |
    true=>
    go_wp2_with (first
     | (
      go_at_call 46;refine (HCV.o _ CW.o).mono ?_;rintro e w6 ⟨rfl,hb6⟩;have Fb:=AF (AV CW.o hb6);clear hb6))
    go_roundg (m - (j+1))
    case measure=>exact Bi
    case rel=>exact ⟨j+1,hlt,rfl,rfl,by rw [HDR.o,Jc],Fb.o⟩
  have hjm:j=m:=AG
  subst hjm;go_wp2;go_ret;have e:Z.drop j=[]:=FQ (by rw [fF.o];exact Ac _);exact ⟨by rw [Nk.o,EU.o,e];rfl,AV Cf.o CW.o⟩
 have hne:¬(m:Int)=(x:Int):=AG
 go_wp2;go_ret;exact ⟨by rw [Dx,BS (by rw [<-HLEN.o];exact hmx)];rfl,Cf.o⟩
attribute [local go_sem] Oper.semAt_some
def oE (ck:Int) (nf:Option Nat):Int×Int:=if ck≠0 then (0,160) else match nf with
 | none=>(0,1)
 | some n=>((n:Int)+4+1,0)
theorem lJ (v0 v1 v3 v4 v5 v6:AN) (A:Option Aa) (n c:Nat) (ns:List Nat) (i:Int) (ck:Int) (val:Int->Int->Int->Bool) (w:AH) (hs:Ag 6 Kx w (AA A n c) ns)
 (hK:PU (AP #[v0,v1,AA A n c,v3,v4,v5]) (AP #[v0,v1,AA A n c,v3,v4,v5,v6]) ck val w):
 AS prog 10 #[AP #[v0,v1,AA A n c,v3,v4,v5,v6],AB AE i] w fun e w'=>e=AW (.tuple #[AB AE (oE ck (Ba ns i)).1,AB AE (oE ck (Ba ns i)).2])/\AK w w':=by
 have HS:=AF hs;obtain ⟨X,hX⟩:=Ad ((decide (0<=i) && decide (i < n)));have Lh:=AF hK.chk;have Ij:AI (∀W,AS prog 29 #[AP #[v0,v1,AA A n c,v3,v4,v5,v6],AB AE i] W fun e w'=>e=AW (Ab X)/\AK W w'):=AF (fun W=>by rw [hX];exact US v0 v1 v3 v4 v5 v6 A n c i W);have HX:=AF hX;clear hs hX hK;go_enter func10,ntmps10;go_upto_region 1 with fail;have HB1:AI (AY (w.alloc (AO #[v0,v1,AA A n c,v3,v4,v5,v6] 32)) w.heap.size 32 #[v0,v1,AA A n c,v3,v4,v5,v6]):=AF (World.alloc_heap_new w _);have Cf:AI (AK w (w.alloc (AO #[v0,v1,AA A n c,v3,v4,v5,v6] 32))):=AF ((Af _ w).alloc (Ac _) _);generalize (w.alloc (AO #[v0,v1,AA A n c,v3,v4,v5,v6] 32))=w4 at *;have HD:AI (∀W,AK w4 W->W.cell? ⟨w.heap.size,0,none⟩=some v0/\W.cell? ⟨w.heap.size,1,none⟩=some v1/\W.cell? ⟨w.heap.size,2,none⟩=some (AA A n c)/\W.cell? ⟨w.heap.size,3,none⟩=some v3/\W.cell? ⟨w.heap.size,4,none⟩=some v4/\W.cell? ⟨w.heap.size,5,none⟩=some v5/\W.cell? ⟨w.heap.size,6,none⟩=some v6):=AF (fun W hW=>by have b:=HB1.o.below hW HB1.o.lt;exact ⟨b.cell 0,b.cell 1,b.cell 2,b.cell 3,b.cell 4,b.cell 5,b.cell 6⟩)
 obtain ⟨d0,d1,d2,d3,d4,d5,d6⟩:=HD.o w4 (Af _ _);by_cases hck:ck=0
 ·subst hck
  go_upto_region 3 with (first
   | (
    go_at_call 23;refine (Lh.o _ Cf.o).mono ?_;rintro e w5 ⟨rfl,hb5⟩;obtain ⟨c0,c1,c2,c3,c4,c5,c6⟩:=HD.o w5 hb5;have Cg:=AF hb5;clear hb5 d0 d1 d2 d3 d4 d5 d6))
  cases X with
  |
   false=>
   have JI:AI (Ba ns i=none):=AF (by
    have h:=HX.o;unfold Ba;split
    ·rename_i h0
     rw [Bk h0,Jc] at h;have h1:=R8 h.symm;have hl:=HS.o.len;exact Dh AG
    · rfl)
   clear HX;go_wp2_with (first
    | (
     go_at_call 29;refine (Ij.o _).mono ?_;rintro e w6 ⟨rfl,hb6⟩;have Fb:=AF (AV Cg.o hb6);clear hb6))
   go_ret2;exact ⟨by rw [JI.o];rfl,AV Cf.o Fb.o⟩
  |
   true=>
   have hin:0<=i/\i < n:=by have h:=HX.o;rw [eq_comm,Bb,ZI,ZI] at h;exact h
   obtain ⟨k,rfl⟩:∃k:Nat,i=(k:Int):=⟨i.toNat,by omega⟩;have hk:k < n:=AG
   have hk1:(k:Int) < (n:Int):=AG
   have hk0:=Int.natCast_nonneg k
   obtain ⟨b,off,x,x0,x1,x2,x3,B,cc,x5,rfl,hb,hx,hxl,hone,hcell⟩:=Nv HS.o hk;have JI:AI (Ba ns k=some x):=AF tx;have HWD:AI (∀W,AS prog 30 #[AP #[x0,x1,x2,x3,AA B x cc,x5]] W fun e w'=>e=AW (AB AE ((x:Int)+4+1))/\AK W w'):=AF (fun W=>Tc x0 x1 x2 x3 x5 B x cc W hxl);have HC:AI (∀W,AK w W->∀j v,[x0,x1,x2,x3,AA B x cc,x5][j]? =some v->W.cell? ⟨b,off+k*6+j,none⟩=some v):=AF (fun W hW j v hj=>(hW.cell (p:=⟨b,off+k*6+j,none⟩) hb).trans (hcell j v hj));have hsz:(prog.info? 85).map (·.size)=some 6:=AJ
   have Cd:=AF hsz;clear hx hcell hone HX hin;go_wp2_with (first
    | (
     go_at_call 29;refine (Ij.o _).mono ?_;rintro e w6 ⟨rfl,hb6⟩;have Fb:=AF (AV Cg.o hb6);have g2:=(HD.o w6 Fb.o).2.2.1;have e0:w6.cell? ⟨b,off+k*6,none⟩=some x0:=HC.o w6 (AV Cf.o Fb.o) 0 _ rfl;have e1:=HC.o w6 (AV Cf.o Fb.o) 1 _ rfl;have e2:=HC.o w6 (AV Cf.o Fb.o) 2 _ rfl;have e3:=HC.o w6 (AV Cf.o Fb.o) 3 _ rfl;have e4:=HC.o w6 (AV Cf.o Fb.o) 4 _ rfl;have e5:=HC.o w6 (AV Cf.o Fb.o) 5 _ rfl;clear hb6 c0 c1 c2 c3 c4 c5 c6)
    | (
     go_at_call 30;refine (HWD.o _).mono ?_;rintro e w7 ⟨rfl,hb7⟩;have D4:=AF (AV Fb.o hb7);clear hb7))
   go_ret2;exact ⟨by rw [JI.o];rfl,AV Cf.o D4.o⟩
 go_wp2_with (first
  | (
   go_at_call 23;refine (Lh.o _ Cf.o).mono ?_;rintro e w5 ⟨rfl,hb5⟩;have Cg:=AF (AV Cf.o hb5);clear hb5))
 go_ret2;exact ⟨by simp only [oE,ne_eq,hck,not_false_eq_true,C4];rfl,Cg.o⟩
theorem pU:(prog.info? 3).map (fun i=>(i.zero,i.size,i.bytes))=some (some (AB AE 0),1,8):=by kernel_rfl
theorem qk {α:Type} {R:AH->List AN->α->Prop} (hone:One R) (A:Option Aa) (n c:Nat) (l:List α) (w:AH) (hs:Ag 1 R w (AA A n c) l) (hbd:l.length*8<=140737488355328):
 AS prog 44 #[AA A n c] w fun e w'=>∃v cs,e=AW v/\Ap 1 R w cs l/\w'.ownsRow w.heap.size 3 1 v l.length cs/\AK w w':=by
 have hlen:=hs.len;have HS:=AF hs;clear hs;rcases A with _ | ad
 ·have hl:l=[]:=by
   cases l with
   | nil=>rfl
   | cons x r=>obtain ⟨b,off,x,cs,e,_⟩:=HS.o.at_ (k:=0) (by rw [hlen];simp);cases e
  subst hl;obtain rfl:n=0:=by simpa using hlen
  clear hlen hbd;have hnil:=fun w:AH=>Lib.run_eql_slice_nil (P:=prog) w 30 3 none 0 c 0 0 underlying30;simp only [Option.isNone_none] at hnil;go_enter func44,ntmps44
  exact zx
 obtain ⟨i0,hi,hz0,hz1,hz2⟩:=I8 pU;have HLEN:=AF hlen;clear hlen;have hnb:n*8<=140737488355328:=by rw [HLEN.o];exact hbd
 have hnil:=fun w:AH=>Lib.run_eql_slice_nil (P:=prog) w 30 3 (some ad) n c 0 0 underlying30;simp only [Option.isNone_some] at hnil;go_enter func44,ntmps44;go_wp2_with (at_builtin;refine CQ _ rfl (.tmp 5) (.tmp 6) 30 3 rfl i0 _ 8 underlying30 hi hz0 hz1 hz2 rfl Ai (R:=fun _=>R w) (fun _=>hone w) w.heap.size (AA (some ⟨w.heap.size,0,none⟩) 0 0) 0 [] rfl (Ui w #[] 0 (Ac _) (Ay _) rfl) (some ad) n c l rfl (HS.o.fix (BK _ _)) Gx AG AZ ?_;intro v' w1 cs hcs hown hgr hat);exact nx
theorem ACE:(prog.info? 34).map (fun i=>(i.zero,i.size,i.bytes))=some (some (AP (yA (zeros 32))),32,32):=by kernel_rfl
theorem AFF {α:Type} {R:AH->List AN->α->Prop} (hone:One R) (A:Option Aa) (n c:Nat) (l:List α) (w:AH) (hs:Ag 32 R w (AA A n c) l) (hbd:l.length*32<=140737488355328):
 AS prog 56 #[AA A n c] w fun e w'=>∃v cs,e=AW v/\Ap 32 R w cs l/\w'.ownsRow w.heap.size 34 32 v l.length cs/\AK w w':=by
 have hlen:=hs.len;have HS:=AF hs;clear hs;rcases A with _ | ad
 ·have hl:l=[]:=by
   cases l with
   | nil=>rfl
   | cons x r=>obtain ⟨b,off,x,cs,e,_⟩:=HS.o.at_ (k:=0) (by rw [hlen];simp);cases e
  subst hl;obtain rfl:n=0:=by simpa using hlen
  clear hlen hbd;have hnil:=fun w:AH=>Lib.run_eql_slice_nil (P:=prog) w 37 34 none 0 c 0 0 underlying37;simp only [Option.isNone_none] at hnil;go_enter func56,ntmps56
  exact zx
 obtain ⟨i0,hi,hz0,hz1,hz2⟩:=I8 ACE;have HLEN:=AF hlen;clear hlen;have hnb:n*32<=140737488355328:=by rw [HLEN.o];exact hbd
 have hnil:=fun w:AH=>Lib.run_eql_slice_nil (P:=prog) w 37 34 (some ad) n c 0 0 underlying37;simp only [Option.isNone_some] at hnil;go_enter func56,ntmps56;go_wp2_with (at_builtin;refine CQ _ rfl (.tmp 5) (.tmp 6) 37 34 rfl i0 _ 32 underlying37 hi hz0 hz1 hz2 rfl Ai (R:=fun _=>R w) (fun _=>hone w) w.heap.size (AA (some ⟨w.heap.size,0,none⟩) 0 0) 0 [] rfl (Ui w #[] 0 (Ac _) (Ay _) rfl) (some ad) n c l rfl (HS.o.fix (BK _ _)) Gx AG AZ ?_;intro v' w1 cs hcs hown hgr hat);exact nx
def veil (S:List Nat) (w:AH):AH:={w with heap:=w.heap.mapIdx (fun b o=>if b∈S then .cells #[] 0 else o)}
section
variable {S S':List Nat} {w w' w0:AH}
theorem EM:(veil S w).heap.size=w.heap.size:=by simp [veil]
theorem Iy {b:Nat} (h:b∉S):(veil S w).heap[b]? =w.heap[b]? :=by
 simp only [veil,R6];cases w.heap[b]? with
 | none=>rfl
 | some o=>rw [C6,Ah h]
theorem Sd {b:Nat} (h:b∈S) (hb:b < w.heap.size):(veil S w).heap[b]? =some (AO #[] 0):=by simp only [veil,R6];rw [ZU hb,C6,Ak h]
theorem Te {b o:Nat} {v:AN} (h:(veil S w).cell? ⟨b,o,none⟩=some v):w.cell? ⟨b,o,none⟩=some v:=by
 by_cases hb:b∈S
 ·exfalso
  by_cases hs:b < w.heap.size
  · simp [World.cell?,Sd (w:=w) hb hs] at h
  have:(veil S w).heap[b]? =none:=by rw [NM];rw [EM];omega
  simp [World.cell?,this] at h
 rw [<-h];exact (Ke (Iy hb)).symm
def vj {α:Type} (R:AH->List AN->α->Prop):Prop:=∀(S:List Nat) (w:AH) (cs:List AN) (x:α),R (veil S w) cs x->R w cs x
theorem Ag.MK {α:Type} {sz:Nat} {R:AH->List AN->α->Prop} (hR:vj R) {v:AN} {l:List α} (h:Ag sz R (veil S w) v l):Ag sz R w v l:=by obtain ⟨A,cap,e,h1,h2,h3⟩:=h;refine ⟨A,cap,e,h1,h2,fun i x hi=> ?_⟩;obtain ⟨b,off,cs,rfl,hlt,hl,hc,hr⟩:=h3 i x hi;exact ⟨b,off,cs,rfl,by rwa [EM] at hlt,hl,fun j u hu=>Te (hc j u hu),hR _ _ _ _ hr⟩
theorem Ap.MK {α:Type} {sz:Nat} {R:AH->List AN->α->Prop} (hR:vj R) {cs:List AN} {l:List α} (h:Ap sz R (veil S w) cs l):Ap sz R w cs l:=⟨h.1,fun i x hi=>hR _ _ _ _ (h.2 i x hi)⟩
theorem Ik {row:Option Nat} (hg:w.grownBy w' row) (hr:∀r,row=some r->r < w.heap.size->r∈S) (hS:∀b,b < w.heap.size->(b∈S'↔b∈S)):BL (veil S w).heap.size (veil S w) (veil S' w'):=by
 refine ⟨hg.os,hg.tape,hg.output,by rw [EM,EM];exact hg.size,fun k hk=> ?_⟩;rw [EM] at hk;by_cases hb:k∈S
 · rw [Sd hb hk,Sd ((hS k hk).2 hb) (Av hk hg.size)]
 rw [Iy hb,Iy (fun h=>hb ((hS k hk).1 h))];exact hg.block k hk (fun e=>hb (hr k e.symm hk))
theorem Ox (hb:AK w w'):BL (veil S w).heap.size (veil S w) (veil S w'):=
 Ik (row:=none) ⟨hb.os,hb.tape,hb.output,hb.size,fun k hk _=>hb.block k hk⟩ AZ (fun _ _=>Iff.rfl)
theorem Sc {base:Nat} {e:Ae} {sz:Nat} {v:AN} {n:Nat} {cs:List AN} (h:w.ownsRow base e sz v n cs) (hS:∀b∈S,b < base):(veil S w).ownsRow base e sz v n cs:=by
 refine ⟨h.1,?_⟩;rcases h.2 with h | ⟨g,cap,cur,h1,h2,h3,h4⟩
 · exact .inl h
 · exact .inr ⟨g,cap,cur,h1,h2,(Iy (fun hm=>by have:=hS g hm;omega)).trans h3,h4⟩
theorem WD {base:Nat} {e:Ae} {sz:Nat} {v:AN} {n:Nat} {cs:List AN} (h:w.ownsRow base e sz v n cs):(v=AA none 0 0/\n=0)\/∃g cap,v=AA (some ⟨g,0,none⟩) n cap/\base<=g/\g < w.heap.size:=by
 rcases h.2 with ⟨rfl,h0⟩ | ⟨g,cap,cur,rfl,h2,h3,h4,h5,_⟩
 · exact .inl ⟨rfl,h0⟩
 · exact .inr ⟨g,cap,rfl,h2,(DF.1 h3).1⟩
def Rt {α:Type} (L:Nat) (T:Ae) (sz:Nat) (R:AH->List AN->α->Prop) (v:AN) (l:List α) (w:AH):Prop:=
 ∃cs S,w.ownsRow L T sz v l.length cs/\(∀r,v.ownBlock=some r->r∈S)/\(∀b∈S,L<=b/\b < w.heap.size)/\Ap sz R (veil S w) cs l
variable {α:Type} {L:Nat} {T:Ae} {sz:Nat} {R:AH->List AN->α->Prop} {v:AN} {l:List α}
theorem Rt.below (h:Rt L T sz R v l w) (hR:Ep R) (hb:AK w w'):Rt L T sz R v l w':=by obtain ⟨cs,S,h1,h2,h3,h4⟩:=h;exact ⟨cs,S,Eh h1 hb,h2,fun b hm=>⟨(h3 b hm).1,Av (h3 b hm).2 hb.size⟩,h4.mono hR (Ox hb)⟩
theorem Rt.form (h:Rt L T sz R v l w):∃A c,v=AA A l.length c:=by
 obtain ⟨cs,S,h1,_⟩:=h;rcases WD h1 with ⟨rfl,h0⟩ | ⟨g,cap,rfl,_⟩
 · exact ⟨none,0,by rw [h0]⟩
 · exact ⟨_,cap,rfl⟩
theorem Rt.sl (h:Rt L T sz R v l w) (hR:vj R):Ag sz R w v l:=by obtain ⟨cs,S,h1,h2,h3,h4⟩:=h;exact B9 h1 (h4.MK hR) rfl
theorem Rt.push {cs:List AN} (h2:∀r,v.ownBlock=some r->r∈S) (h3:∀b∈S,L<=b/\b < w.heap.size) (hc:Ap sz R (veil S w) cs l) (hR:Ep R) {v':AN} {news:List AN} {r:List α} {n:Nat}
 (hown:w'.ownsRow L T sz v' n (cs++news)) (hn:n=(l++r).length) (hg:w.grownBy w' v.ownBlock) (hat:v'.ownBlock=v.ownBlock\/v'.ownBlock=some w.heap.size) (hL:L<=w.heap.size) (hx:Ap sz R (veil S w) news r):Rt L T sz R v' (l++r) w':=by
 have hlt:∀r,v'.ownBlock=some r->r < w'.heap.size:=fun r e=>(hown.lt r e).2;subst hn;rcases hat with hat | hat
 ·refine ⟨_,S,hown,fun r e=>h2 r (by rw [<-hat];exact e),fun b hm=>⟨(h3 b hm).1,Av (h3 b hm).2 hg.size⟩,?_⟩
  have hb:=Ik (S:=S) (S':=S) hg (fun r e _=>h2 r e) (fun _ _=>Iff.rfl);exact (hc.mono hR hb).append (hx.mono hR hb)
 refine ⟨_,w.heap.size::S,hown,fun r e=>by rw [hat] at e;injection e with e;simp [e],fun b hm=> ?_,?_⟩
 ·rcases B0.1 hm with rfl | hm
  · exact ⟨hL,hlt _ hat⟩
  · exact ⟨(h3 b hm).1,Av (h3 b hm).2 hg.size⟩
 have hb:=Ik (S:=S) (S':=w.heap.size::S) hg (fun r e _=>h2 r e) (fun b hlt=>by rw [B0];exact ⟨fun h=>h.resolve_left AG,.inr⟩)
 exact (hc.mono hR hb).append (hx.mono hR hb)
end
def Cy (w:AH) (cs:List AN) (q:Cn):Prop:=∃A n c B m d,cs=[AB AE q.index,AA A n c,AA B m d]/\Ag 32 CP w (AA A n c) q.chains/\Ag 32 CP w (AA B m d) q.path
theorem Bc:Ep Cy:=fun w w' hb cs q h=>by obtain ⟨A,n,c,B,m,d,e,h1,h2⟩:=h;exact ⟨A,n,c,B,m,d,e,h1.mono BO hb,h2.mono BO hb⟩
theorem jx:One Cy:=fun w cs q h=>by obtain ⟨A,n,c,B,m,d,rfl,_⟩:=h;intro u hu;simp only [B0,DX,DW] at hu;rcases hu with rfl | rfl | rfl <;> rfl
theorem S8:vj CP:=fun _ _ _ _ h=>h
theorem Ju:vj Bt:=fun _ _ _ _ h=>h
theorem Mu:vj Cy:=fun S w cs q h=>by obtain ⟨A,n,c,B,m,d,e,h1,h2⟩:=h;exact ⟨A,n,c,B,m,d,e,h1.MK S8,h2.MK S8⟩
theorem Od {W:AH} {A:Option Aa} {n c k:Nat} {l:List Cn} (h:Ag 3 Cy W (AA A n c) l) (hk:k < n):
 ∃b off q B m d C i j,A=some ⟨b,off,none⟩/\b < W.heap.size/\l[k]? =some q/\Ag 32 CP W (AA B m d) q.chains/\Ag 32 CP W (AA C i j) q.path/\∀j' v,[Value.int .i64 q.index,AA B m d,AA C i j][j']? =some v->W.cell? ⟨b,off+k*3+j',none⟩=some v:=by
 obtain ⟨b,off,q,cs,rfl,hb,hq,hl,hc,B,m,d,C,i,j,rfl,h1,h2⟩:=h.at_ hk;exact ⟨b,off,q,B,m,d,C,i,j,rfl,hb,hq,h1,h2,fun j' v hv=>by rw [Ji];exact hc j' v hv⟩
theorem PD {l:AQ} (h:l.length=32):l=[l.getD 0 0,l.getD 1 0,l.getD 2 0,l.getD 3 0,l.getD 4 0,l.getD 5 0,l.getD 6 0,l.getD 7 0,l.getD 8 0,l.getD 9 0,l.getD 10 0,l.getD 11 0,l.getD 12 0,l.getD 13 0,l.getD 14 0,l.getD 15 0,l.getD 16 0,l.getD 17 0,l.getD 18 0,l.getD 19 0,l.getD 20 0,l.getD 21 0,l.getD 22 0,l.getD 23 0,l.getD 24 0,l.getD 25 0,l.getD 26 0,l.getD 27 0,l.getD 28 0,l.getD 29 0,l.getD 30 0,l.getD 31 0]:=by
 apply OW;intro i;by_cases hi:i < 32
 ·have e:l[i]? =some (l.getD i 0):=by rw [Ck,BN AG];rfl
  rw [e];clear e;rcases i with _ | _ | _ | _ | _ | _ | _ | _ | _ | _ | _ | _ | _ | _ | _ | _ | _ | _ | _ | _ | _ | _ | _ | _ | _ | _ | _ | _ | _ | _ | _ | _ | i
  all_goals first | rfl | omega
 · rw [Dh AG,Dh Bd]
def Sh (s:JS):List AN:=[Value.int .i64 s.Ar,Value.int .i64 s.round,Value.int .i64 s.schema,Value.int .i64 s.place]++s.holder.map (Value.int .u8)++[s.fields,s.values,Value.int .i64 s.link]++s.token.map (Value.int .u8)++[s.claims]
def Em (s:JS):Array AN:=(Sh s).toArray
theorem dV (s:JS):JW s=Em s++#[s.links,s.tokens,AB AE s.width,AB AE s.present]:=by simp [JW,shL,Em,Sh]
theorem G0 {s:JS} (h:s.holder.length=32) (t:s.token.length=32):(Em s).size=72:=by simp [Em,Sh,h,t]
theorem P9 {s:JS} (h:s.holder.length=32) (t:s.token.length=32):(JW s).size=76:=by rw [dV,OY,G0 h t];rfl
structure UH where
 Ar:Int
 round:Int
 schema:Int
 place:Int
 holder:AQ
 values:AN
 links:AN
 claims:AN
def km (c:UH):List AN:=[Value.int .i64 c.Ar,Value.int .i64 c.round,Value.int .i64 c.schema,Value.int .i64 c.place]++c.holder.map (Value.int .u8)++[c.values,c.links,c.claims]
def Fo (c:UH):Array AN:=(km c).toArray
theorem Jw {c:UH} (h:c.holder.length=32):(Fo c).size=39:=by simp [Fo,km,h]
structure CpB (W:AH) (g:Nat) (c:UH):Prop where
 Ar:W.cell? ⟨g,0,none⟩=some (AB AE c.Ar)
 round:W.cell? ⟨g,1,none⟩=some (AB AE c.round)
 schema:W.cell? ⟨g,2,none⟩=some (AB AE c.schema)
 place:W.cell? ⟨g,3,none⟩=some (AB AE c.place)
 holder:W.rangeAt g 4 (c.holder.map (Value.int .u8))
 values:W.cell? ⟨g,36,none⟩=some c.values
 links:W.cell? ⟨g,37,none⟩=some c.links
 claims:W.cell? ⟨g,38,none⟩=some c.claims
theorem PS {W:AH} {g:Nat} {t:Ae} {c:UH} (h:AY W g t (Fo c)) (hh:c.holder.length=32):CpB W g c:=by
 have hc:∀i,W.cell? ⟨g,i,none⟩=(km c)[i]? :=fun i=>by rw [h.cell,Fo,Aj]
 have aI:∀k,W.cell? ⟨g,36+k,none⟩=[c.values,c.links,c.claims][k]? :=fun k=>by rw [hc,km,Cj SA];simp [hh]
 refine ⟨by rw [hc];rfl,by rw [hc];rfl,by rw [hc];rfl,by rw [hc];rfl,fun j v hj=> ?_,aI 0,aI 1,aI 2⟩;have hl:j < 32:=by have:=(BF.1 hj).1;simpa [hh] using this
 rw [hc,km,EB Uz,Cj AZ];simpa using hj
structure SwB (W:AH) (g:Nat) (s:JS):Prop where
 Ar:W.cell? ⟨g,0,none⟩=some (AB AE s.Ar)
 round:W.cell? ⟨g,1,none⟩=some (AB AE s.round)
 schema:W.cell? ⟨g,2,none⟩=some (AB AE s.schema)
 place:W.cell? ⟨g,3,none⟩=some (AB AE s.place)
 fields:W.cell? ⟨g,36,none⟩=some s.fields
 values:W.cell? ⟨g,37,none⟩=some s.values
 link:W.cell? ⟨g,38,none⟩=some (AB AE s.link)
 token:W.rangeAt g 39 (s.token.map (Value.int .u8))
 claims:W.cell? ⟨g,71,none⟩=some s.claims
theorem JO {W:AH} {g:Nat} {t:Ae} {s:JS} (h:AY W g t (Em s)) (hh:s.holder.length=32) (ht:s.token.length=32):SwB W g s:=by
 have hc:∀i,W.cell? ⟨g,i,none⟩=(Sh s)[i]? :=fun i=>by rw [h.cell,Em,Aj]
 have aI:∀k,k < 3->W.cell? ⟨g,36+k,none⟩=[s.fields,s.values,AB AE s.link][k]? :=fun k hk=>by rw [hc,Sh,EB ZX,EB Uz,Cj SA];simp [hh]
 refine ⟨by rw [hc];rfl,by rw [hc];rfl,by rw [hc];rfl,by rw [hc];rfl,aI 0 AG,aI 1 AG,aI 2 AG,fun j v hj=> ?_,?_⟩
 ·have hl:j < 32:=by have:=(BF.1 hj).1;simpa [ht] using this
  rw [hc,Sh,EB ZX,Cj SA];simpa [hh] using hj
 rw [hc,Sh,Cj (by simp [hh,ht])];simp [hh,ht]
theorem iV (k:IntKind) (x:Int):(Value.int k x).oneCell'=true:=rfl
theorem QN {c:UH} (h1:c.values.oneCell'=true) (h2:c.links.oneCell'=true) (h3:c.claims.oneCell'=true):(Fo c).all (·.oneCell')=true:=by simp [Fo,km,h1,h2,h3,iV]
theorem SF {s:JS} (h1:s.fields.oneCell'=true) (h2:s.values.oneCell'=true) (h3:s.claims.oneCell'=true):(Em s).all (·.oneCell')=true:=by simp [Em,Sh,h1,h2,h3,iV]
theorem Zg {s:JS} (h1:s.fields.oneCell'=true) (h2:s.values.oneCell'=true) (h3:s.claims.oneCell'=true) (h4:s.links.oneCell'=true) (h5:s.tokens.oneCell'=true):(JW s).all (·.oneCell')=true:=by rw [dV,Array.all_append,SF h1 h2 h3];simp [h4,h5,iV]
theorem ix:(prog.info? 46).map (·.size)=some 39:=by kernel_rfl
theorem iH:(prog.info? 57).map (·.size)=some 72:=by kernel_rfl
theorem AC7:(prog.info? 96).map (·.size)=some 76:=by kernel_rfl
theorem tP (i r s p:Int) {h:AQ} (hh:h.length=32) (VA KA:Option Aa) (vn vc kn kc:Nat):prog.built 57 [(0,AB AE i),(1,AB AE r),(2,AB AE s),(3,AB AE p),(4,AP (yA h)),(6,AA VA vn vc),(9,AA KA kn kc)]=some (Em ⟨i,r,s,p,h,AA none 0 0,AA VA vn vc,0,zeros 32,AA KA kn kc,AA none 0 0,AA none 0 0,0,0⟩):=by rw [PD hh];kernel_rfl
theorem y7 (i r s p l:Int) {h:AQ} (hh:h.length=32) (FA:Option Aa) (fn fc:Nat):prog.built 57 [(0,AB AE i),(1,AB AE r),(2,AB AE s),(3,AB AE p),(4,AP (yA h)),(5,AA FA fn fc),(7,AB AE l)]=some (Em ⟨i,r,s,p,h,AA FA fn fc,AA none 0 0,l,zeros 32,AA none 0 0,AA none 0 0,AA none 0 0,0,0⟩):=by rw [PD hh];kernel_rfl
theorem y8 (i r s p:Int) {h:AQ} (hh:h.length=32) (VA LA:Option Aa) (vn vc ln lc:Nat):prog.built 46 [(0,AB AE i),(1,AB AE r),(2,AB AE s),(3,AB AE p),(4,AP (yA h)),(5,AA VA vn vc),(6,AA LA ln lc)]=some (Fo ⟨i,r,s,p,h,AA VA vn vc,AA LA ln lc,AA none 0 0⟩):=by rw [PD hh];kernel_rfl
theorem AFH (x:JS) (hh:x.holder.length=32) (ht:x.token.length=32) (a b:Int):prog.built 96 [(0,AP (Em x)),(3,AB AE a),(4,AB AE b)]=some (JW {x with links:=AA none 0 0,tokens:=AA none 0 0,width:=a,present:=b}):=by
 obtain ⟨i,r,s,p,h,f,v,l,t,k,_,_,_,_⟩:=x
 dsimp only at hh ht
 exact SL
theorem ACd (x:JS) (hh:x.holder.length=32) (ht:x.token.length=32) (TA:Option Aa) (tn tc:Nat) (a b:Int):prog.built 96 [(0,AP (Em x)),(2,AA TA tn tc),(3,AB AE a),(4,AB AE b)]=some (JW {x with links:=AA none 0 0,tokens:=AA TA tn tc,width:=a,present:=b}):=by
 obtain ⟨i,r,s,p,h,f,v,l,t,k,_,_,_,_⟩:=x
 dsimp only at hh ht
 exact SL
theorem iD {P:BE} {w:AH} {ops:Array Oper} {rest:List Oper} {o:Oper} {a:Act} {Q:Exit->Act->AH->Prop} (hgd:o.guard=none) (ty:Ae) (x:Operand) (ho:o.op=.load ty x) (p v:AN) (hx:a.eval x=p) (h:(Instr.loadAt ty p).run P w=.ok v w)
 (hk:wpList P ops Q rest (a.put o.dst v) w):wpList P ops Q (o::rest) a w:=
 wpList_plain hgd fun _ hK=>by unfold Oper.wp execOp;exact AA7
theorem AC9 (s:JS) (hh:s.holder.length=32) (ht:s.token.length=32) (v:AN):(JW s).setIfInBounds 36 v=JW {s with fields:=v}:=by
 obtain ⟨i,r,s,p,h,f,u,l,t,k,_,_,_,_⟩:=s
 dsimp only at hh ht
 exact SL
theorem AC8 (s:JS) (hh:s.holder.length=32) (ht:s.token.length=32) (v:AN):(JW s).setIfInBounds 72 v=JW {s with links:=v}:=by
 obtain ⟨i,r,s,p,h,f,u,l,t,k,_,_,_,_⟩:=s
 dsimp only at hh ht
 exact SL
section
variable {n:Nat} {P:BE}
theorem ADH {l:Nat} {f:FuncId} {tmps:Array AN} {assign body:Code} {w:AH} {R:Ending->AH->Prop} (hf:(P.funcs[f]?).isSome=true)
 (ha:assign.wpIn (Fence.wide.inRound l) n P (fun e a1 w0=>e=.normal/\∃w1,(Instr.beginRound l).run P w0=.ok () w1/\
  body.wpIn (Fence.wide.inRound l) n P (fun e a w'=>(e=.normal/\∃v w2,(Instr.endRound l none).run P w'=.ok v w2/\R (AW v) w2)\/∃ch,e=.panic ch/\a.defers=[]/\R (CN ch) w') a1 w1) {tmps:=tmps,defers:=[]} w):
 RoundIn Fence.wide n P l f tmps assign body w R:=by
 refine ⟨trivial,fun c cs _=> ?_⟩;let b:Frame:={(default:Frame) with fn:=f,kind:=.normal,roundOf:=some l}
 have h0:Frame.round l f tmps assign body .normal=b.atR {tmps:=tmps,defers:=[]} [.code assign,.beginRound,.code body]:=by simp [Frame.round,Frame.atR,b]
 rw [h0];obtain ⟨e,a,w',⟨rfl,w1,hbr,h⟩,s1⟩:=ha b [.beginRound,.code body] (c::cs) rfl trivial (room_wide _);have s2:StepsIn (Machine.fenced P Fence.wide) P _ (lone (b.atR a [.code body]) (c::cs) w1):=StepsIn.trans s1 (.one N5 (stepR_beginRound rfl hbr));obtain ⟨e,a2,w2,hq,harr⟩:=h b [] (c::cs) rfl trivial (room_wide _);rcases hq with ⟨rfl,v,w3,he,hR⟩ | ⟨ch,rfl,hd,hR⟩
 · exact ⟨AW v,w3,hR,s2.trans (StepsIn.trans harr (.one N5 (stepR_round_end rfl rfl he)))⟩
 obtain ⟨k,hs⟩:=harr;obtain ⟨fn,hfn⟩:=fY.1 hf;exact ⟨CN ch,w2,hR,s2.trans (StepsIn.trans hs (.one N5 (step_leave_panicked (fr:={b.atR a2 k with mode:=.panicking ch}) ⟨rfl,hd,fn,hfn⟩)))⟩
theorem UJ {α:Type} {f:FuncId} {g:Operand} {ps:Array Tmp} {assign body:Code} {Q:Exit->Act->AH->Prop} {a:Act} {w:AH}
 (hf:(P.funcs[f]?).isSome=true) {gf:Nat} {lb:Array AN} (hg:a.eval g=.func (.func gf) #[] lb) (eg:∀args w,(callFunc gf args).run P w=.ok (.enter gf args) w)
 {encs:α->Array AN} {T K:AH->AH->Prop} {G:List α->α->Prop} {S:List α->Prop} (hseq:zJ Fence.wide 2 P gf lb encs T K G S w)
 (hps:∀x,(encs x).size=ps.size) (N:Nat) (I:List α->AH->Prop) (Ip:List PanicEntry->AH->Prop)
 (hIT:∀s A C,I s A->T A C->I s C) (hIB:∀s A C,I s A->Book w.heap.size A C->I s C) (hlen:∀s A,I s A->s.length<=N)
 (hTO:∀A C,T A C->KeepsOthers A C) (hKt:∀A B C,K A B->K B C->K A C) (hKp:∀W l o o',w.heap.size<=l->W.heap[l]? =some o->o.isCells=false->K W (W.putObj l o'))
 (h0:I [] w) (Ax:α->Act->AH->Prop) (hAB:∀x a' A C,Ax x a' A->Book w.heap.size A C->Ax x a' C)
 (hassign:∀(l:Nat) (pre:List α) (x:α) (W:AH),I pre W->G pre x->w.heap.size+2<=W.heap.size->
  assign.wpIn (Fence.wide.inRound l) 1 P (fun e a' W'=>e=.normal/\KeepsOthers W W'/\K W W'/\I pre W'/\Ax x a' W') {tmps:=(ps.zip (encs x)).foldl (fun t (p,v)=>t.setIfInBounds p v) a.tmps,defers:=[]} W)
 (hbody:∀(l:Nat) (pre:List α) (x:α) (a':Act) (W:AH),I pre W->G pre x->Ax x a' W->w.heap.size+2<=W.heap.size->
  body.wpIn (Fence.wide.inRound l) 1 P (fun e a3 W'=>(e=.normal/\KeepsOthers W W'/\K W W'/\I (pre++[x]) W')\/∃ch,e=.panic ch/\a3.defers=[]/\KeepsOthers W W'/\Ip ch W') a' W)
 (hdone:∀(D:Nat) (xs:List α) (W:AH),w.heap.size<=D->S xs->I xs W->W.heap[D]? =some (.deferred (some []))->Q .normal {a with defers:={target:=.collected D,args:=#[]}::a.defers} W)
 (AKT:∀(D:Nat) (ch:List PanicEntry) (W:AH),w.heap.size<=D->Ip ch W->W.heap[D]? =some (.deferred (some []))->Q (.panic ch) {a with defers:={target:=.collected D,args:=#[]}::a.defers} W):
 Sb f P (.rangeFunc g ps assign body) Q a w:=by
 obtain ⟨rec,hrec⟩:∃rec:LoopState->Option Code->Loop,rec=fun st pe=>{state:=st,pending:=pe,fn:=f,tmps:=a.tmps,params:=ps,assign,body,defers:=w.heap.size}:=⟨_,rfl⟩;obtain ⟨W1,hW1⟩:=BR ((w.alloc (.deferred (some []))).alloc (.loop (rec .ready none)));have hsz1:W1.heap.size=w.heap.size+2:=by rw [<-hW1];simp
 have hL1:W1.heap[w.heap.size+1]? =some (.loop (rec .ready none)):=by rw [<-hW1];have:=World.alloc_heap_new (w.alloc (.deferred (some []))) (.loop (rec .ready none));rwa [Ev] at this
 have hK1:W1.heap[w.heap.size]? =some (.deferred (some [])):=by rw [<-hW1];exact (LR _ _ _ AZ).trans (World.alloc_heap_new w _)
 have hI1:I [] W1:=by rw [<-hW1];exact hIB _ _ _ (hIB _ _ _ h0 (Book.alloc _ _ (Ac _))) (Book.alloc _ _ AZ)
 have hb1:AK w W1:=by rw [<-hW1];exact ((Af _ w).alloc (Ac _) _).alloc AZ _
 refine iE (l:=w.heap.size+1) (mark:=[{target:=.collected w.heap.size,args:=#[]}]) (w1:=W1) (by rw [<-hW1,hrec];exact run_enterLoop_outer _ _ _ _ _) hg eg ((FK (n:=2)).1 ?_);refine (hseq (w.heap.size+1)
  (fun pre W=>I pre W/\W.heap[w.heap.size+1]? =some (.loop (rec .ready none))/\W.heap[w.heap.size]? =some (.deferred (some [])))
  (fun ch W=>Ip ch W/\W.heap[w.heap.size]? =some (.deferred (some []))) N
  W1 hb1
  (fun s A C hs ht=>⟨hIT s A C hs.1 ht,(hTO A C ht).same _ _ hs.2.1 rfl,(hTO A C ht).same _ _ hs.2.2 rfl⟩)
  (fun s A hs=>hlen s A hs.1)
  ?_ ⟨hI1,hL1,hK1⟩).mono ?_
 ·rintro pre x W ⟨hi,hl,hk⟩ hGx
  have hlt:w.heap.size+1 < W.heap.size:=(DF.1 hl).1;have hy:=run_yield (P:=P) (args:=encs x) hl gN;rw [hrec] at hy;refine ⟨f,_,assign,body,hy,ADH hf (wpIn_mono (hassign _ pre x W hi hGx AG) ?_)⟩;clear hy;rintro e a' Wa ⟨rfl,hkfa,hkpa,hia,hax⟩;have hl:=hkfa.same _ _ hl rfl;have hk:=hkfa.same _ _ hk rfl;have hlt:w.heap.size+1 < Wa.heap.size:=(DF.1 hl).1;refine ⟨rfl,_,run_beginRound hl (by rw [hrec]),?_⟩;have hl2:(Wa.putObj (w.heap.size+1) (.loop {rec .ready none with state:=.busy})).heap[w.heap.size+1]? =some (.loop {rec .ready none with state:=.busy}):=World.putObj_heap_same hlt;have hk2:(Wa.putObj (w.heap.size+1) (.loop {rec .ready none with state:=.busy})).heap[w.heap.size]? =some (.deferred (some [])):=(World.putObj_heap_other AG).trans hk;refine wpIn_mono (hbody _ pre x a' _ (hIB _ _ _ hia (Book.put _ _ _ AG hl rfl)) hGx (hAB _ _ _ _ hax (Book.put _ _ _ AG hl rfl)) (by simp [World.putObj];omega)) ?_;rintro e a3 W3 (⟨rfl,hk3,hkk,hi3⟩ | ⟨ch,rfl,hd,hk3,hi3⟩)
  ·have hl3:=hk3.same _ _ hl2 rfl
   have hr:=run_endRound (P:=P) none hl3;rw [hrec] at hr;refine .inl ⟨rfl,_,_,hr,.inl ⟨rfl,⟨hIB _ _ _ hi3 (Book.put _ _ _ AG hl3 rfl),?_,(World.putObj_heap_other AG).trans (hk3.same _ _ hk2 rfl)⟩,hKt _ _ _ hkpa (hKt _ _ _ (hKp _ _ _ _ AG hl rfl) (hKt _ _ _ hkk (hKp _ _ _ _ AG hl3 rfl)))⟩⟩;exact nK
  · exact .inr ⟨ch,rfl,hd,.inr ⟨ch,rfl,hi3,hk3.same _ _ hk2 rfl⟩⟩
 rintro e W2 (⟨⟨v,rfl⟩,⟨xs,hS,hi,hl,hk⟩⟩ | ⟨ch,rfl,hi,hk⟩)
 · refine .inl ⟨v,_,rfl,by have:=run_endLoop (P:=P) hl ZV;rw [hrec] at this;exact this,hdone _ xs _ (Ac _) hS (hIB _ _ _ hi (Book.put _ _ _ AG hl rfl)) ((World.putObj_heap_other AG).trans hk)⟩
 · exact .inr ⟨ch,rfl,AKT _ ch _ (Ac _) hi hk⟩
def calm (Q:Exit->Act->AH->Prop):Exit->Act->AH->Prop
 | .normal,a,w=>Q .normal a w
 | .ret,a,w=>Q .ret a w
 | .panic ch,a,w=>Q (.panic ch) a w
 | _,_,_=>False
theorem Vx {f:FuncId} {id:Nat} {c:Code} {Q:Exit->Act->AH->Prop} {a:Act} {w:AH} (h:Sb f P c (calm Q) a w):Sb f P (.block id c) Q a w:=by
 intro b k cs hro hb;obtain ⟨e,a',w',hq,harr⟩:=h b (.inBlock id::k) cs hro hb;have s1:StepsIn (Machine.fenced P Fence.wide) P (lone (b.atR a (.code (.block id c)::k)) cs w) (lone (b.atR a (.code c::.inBlock id::k)) cs w):=.one N5 stepR_block;cases e with
 | normal=>exact ⟨.normal,a',w',hq,(s1.trans harr).trans (.one N5 stepR_inBlock)⟩
 | ret=>exact ⟨.ret,a',w',hq,fun hr=>(harr.1 hr).imp fun _ h=>s1.trans h,fun hr=>by rw [hro] at hr;cases hr⟩
 | panic ch=>exact ⟨.panic ch,a',w',hq,harr.imp fun _ h=>s1.trans h⟩
 | exit id=>exact hq.elim
 | goto t=>exact hq.elim
 | outgrown=>exact hq.elim
end
section
variable {H:AQ->AQ->Dg}
theorem M2 {root:Dg} {many:Int} {ms:List (Int×Dg)} {cs:List Cn}:JG H root many ms cs=0↔∀(j:Nat) (m:Int×Dg) (c:Cn),ms[j]? =some m->cs[j]? =some c->c.index=m.1/\Fi H root many m.2 c=true:=by
 have hz:∀(f:(Int×Dg)×Cn->Bool),(ms.zip cs).all f=true↔∀(j:Nat) (m:Int×Dg) (c:Cn),ms[j]? =some m->cs[j]? =some c->f (m,c)=true:=by
  intro f;rw [DM];constructor
  ·intro h j m c hm hc
   refine h _ (Cr (i:=j) ?_);rw [JA];exact ⟨hm,hc⟩
  rintro h ⟨m,c⟩ hp;obtain ⟨j,hj,e⟩:=ZJ hp;have e2:(ms.zip cs)[j]? =some (m,c):=by rw [BN hj,e]
  rw [JA] at e2;exact h j m c e2.1 e2.2
 unfold JG eH zF;constructor
 ·intro h j m c hm hc
  by_cases h1:((ms.zip cs).all fun p=>decide (p.2.index=p.1.1))=true
  ·rw [Ak h1] at h
   by_cases h2:((ms.zip cs).all fun p=>Fi H root many p.1.2 p.2)=true
   · exact ⟨F4 ((hz _).1 h1 j m c hm hc),(hz _).1 h2 j m c hm hc⟩
   · rw [Ah h2] at h;cases h
  · rw [Ah h1] at h;cases h
 intro h;rw [Ak ((hz _).2 fun j m c hm hc=>Bk (h j m c hm hc).1),Ak ((hz _).2 fun j m c hm hc=>(h j m c hm hc).2)]
theorem V0 {n k:Nat} (h:k < n):(upto n)[k]? =some (k:Int):=by unfold upto;rw [Bg,MV h];rfl
theorem IX (n:Nat):(upto n).length=n:=by simp [upto]
theorem QZ {n:Nat} {c:EG} (hv:c.values.length=n) {k:Nat} (h:k < n):(Fh H n c)[k]? =some (c.place*((n:Int)+4+1)+k,msgP H c.schema k (c.values.getD k 0) c.holder):=by
 unfold Fh Gt F8;have ez:((upto n).zip c.values)[k]? =some ((k:Int),c.values[k]' AG):=by rw [JA];exact ⟨V0 h,BN AG⟩
 rw [Gc,EB (by simp [IX,hv];exact h),Bg,ez];simp [List.getD_eq_getElem?_getD,List.getElem?_eq_getElem (show k < c.values.length by omega)]
theorem Rk {n:Nat} {c:EG} (hv:c.values.length=n) (hl:c.links.length=4) {k:Nat} (h:k < 4):(Fh H n c)[n+k]? =some (c.place*((n:Int)+4+1)+((n:Int)+4) - 4+k,L8 H c.schema k (c.links.getD k Gq) c.holder):=by
 unfold Fh Gt F8 Mt;have e:(((upto n).zip c.values).map fun p=>(c.place*((n:Int)+4+1)+p.1,msgP H c.schema p.1 p.2 c.holder)).length=n:=by simp [IX,hv]
 have ez:((upto 4).zip c.links)[k]? =some ((k:Int),c.links[k]' AG):=by rw [JA];exact ⟨V0 h,BN AG⟩
 rw [Gc,Cj (by rw [e];omega),e,show n+k - n=k by omega,EB (by simp [IX,hl];exact h),Bg,ez];simp [List.getD_eq_getElem?_getD,List.getElem?_eq_getElem (show k < c.links.length by omega)]
theorem Rl {n:Nat} {c:EG} (hv:c.values.length=n) (hl:c.links.length=4):(Fh H n c)[n+4]? =some (c.place*((n:Int)+4+1)+((n:Int)+4),msgP H c.schema (-1) 0 c.holder):=by unfold Fh Gt F8 Mt;rw [Cj (by simp [IX,hv,hl])];simp [IX,hv,hl]
theorem Qn {n:Nat} {c:EG} (hv:c.values.length=n) (hl:c.links.length=4):(Fh H n c).length=n+5:=by simp [Fh,Gt,F8,Mt,IX,hv,hl]
theorem jV {n:Nat} {c:EG} (hv:c.values.length=n) (hl:c.links.length=4) {j:Nat} {m:Int×Dg} (hj:(Fh H n c)[j]? =some m):j < n+5/\m.1=c.place*((n:Int)+4+1)+j:=by
 have h:=(BF.1 hj).1;rw [Qn hv hl] at h;refine ⟨h,?_⟩;rcases FL j n with h1 | h1
 ·rw [QZ hv h1] at hj
  injection hj with hj;rw [<-hj]
 obtain ⟨k,rfl⟩:∃k,j=n+k:=⟨j - n,by omega⟩;rcases FL k 4 with h2 | h2
 ·rw [Rk hv hl h2] at hj
  injection hj with hj;rw [<-hj];simp only [Int.natCast_add];omega
 obtain rfl:k=4:=AG
 rw [Rl hv hl] at hj;injection hj with hj;rw [<-hj];simp
theorem Fk {nf:Option Nat} {val:Int->Int->Bool} {r:Br} {c:EG}:Kq nf val r c=true↔((Gk nf r.places=true/\(c.Ar=r.Ar/\c.round=r.no)/\c.schema=r.schema)/\(0<=c.place/\c.place < r.places)/\Dx (nf.getD 0) val c.values=true)/\c.links.length=4/\c.claims.length=nf.getD 0+5:=by simp only [Kq,Bb,By]
theorem EV {nf:Option Nat} {val:Int->Int->Bool} {r:Br} {s:Ha}:Jj nf val r s=true↔(((((Gk nf r.places=true/\(s.Ar=r.Ar/\s.round=r.no)/\s.schema=r.schema)/\0<=s.place/\s.place < r.places)/\Nh (nf.getD 0) (-1) s.fields=true/\s.values.length=s.fields.length)/\((s.fields.zip s.values).all fun p=>val p.1 p.2)=true)/\(-1<=s.link/\s.link < 4)/\(s.link≠ -1\/s.token=Gq))/\s.claims.length=s.fields.length+(if s.link= -1 then 1 else 2):=by simp only [Jj,Bb,By,Y6]
theorem ME {nf:Option Nat} {pl:Int} (h:Gk nf pl=true):∃n,nf=some n/\1<=pl/\pl<=16/\pl*((n:Int)+4+1)<=256:=by
 unfold Gk at h;cases nf with
 | none=>cases h
 |
  some n=>
  simp only [Bb,By] at h;exact ⟨n,rfl,h.1.1,h.1.2,h.2⟩
theorem ADU {p r w j:Int} (hp:0<=p) (hr:p < r) (hj:0<=j) (hw:j < w):0<=p*w+j/\p*w+j < r*w:=by have h1:0<=p*w:=LQ hp AG;have h2:(p+1)*w<=r*w:=P0 AG AG;rw [Int.add_mul] at h2;omega
theorem iY {seed:Dg} {nf:Option Nat} {val:Int->Int->Bool} {r:Br} {place xs:Int} {holder:Dg} {links:List Dg} {vs:AQ} {n:Nat} (hn:nf=some n) (h:Eo 0 nf val r place links xs vs=true)
 (R:Br) (hR:R={r with root:=O2 H seed (r.places*((n:Int)+4+1)).toNat}):DZ H 0 nf val R (C9 H seed n r place holder links vs)=0:=by
 subst hn;simp only [Eo,Bb,By,Ce] at h;obtain ⟨⟨⟨⟨⟨⟨_,hf⟩,h0⟩,h1⟩,h2⟩,h3⟩,h4⟩:=h;have hv:vs.length=n:=by simp only [Dx,Bb,By] at h4;exact h4.1
 obtain ⟨n',e,p1,p2,p3⟩:=ME hf;injection e with e;subst e;have hwl:(Fh H n (N9 r place holder links vs)).length=n+5:=Qn hv h2;have hok:Kq (some n) val R (C9 H seed n r place holder links vs)=true:=by subst hR;rw [Fk];refine ⟨⟨⟨hf,⟨rfl,rfl⟩,rfl⟩,⟨h0,h1⟩,h4⟩,h2,?_⟩;show ((Fh H n (N9 r place holder links vs)).map _).length=_;rw [CY];exact hwl
 unfold DZ;rw [Ah AZ,Ak hok];subst hR;simp only [Ce];rw [M2];intro j m c hm hc;have hms:Fh H n (C9 H seed n r place holder links vs)=Fh H n (N9 r place holder links vs):=rfl;rw [hms] at hm;have hc':(QS H seed (Dp H seed (r.places*((n:Int)+4+1)).toNat) (Fh H n (N9 r place holder links vs)))[j]? =some c:=hc;rw [QS,Bg,hm] at hc';injection hc' with hc';obtain ⟨hj,he⟩:=jV (H:=H) (c:=N9 r place holder links vs) hv h2 hm;have he:m.1=place*((n:Int)+4+1)+j:=he;have hpl:=ADU (w:=(n:Int)+4+1) h0 h1 (j:=(j:Int)) AG AG;obtain ⟨many,eL⟩:∃many:Nat,r.places*((n:Int)+4+1)=many:=⟨(r.places*((n:Int)+4+1)).toNat,by omega⟩;rw [eL] at hpl p3 hc' ⊢;subst hc';refine ⟨?_,?_⟩
 ·show ((m.1.toNat:Nat):Int)=m.1
  omega
 have:=rv H seed many m.1.toNat m.2 AG AG;simpa only [Cq] using this
theorem QI {n:Nat}:∀{l:AQ} {last:Int},Nh n last l=true->∀x∈l,last < x/\x < n
 | [],_,_,x,hx=>by simp at hx
 |
  f::l,last,h,x,hx=>by
  simp only [Nh,Bb,By] at h;rcases B0.1 hx with rfl | hx
  · exact h.1
  have:=QI h.2 x hx;omega
theorem oP {nf:Option Nat} {val:Int->Int->Bool} {R:Br} {c:EG} {fs:AQ} {link:Int} {n:Nat} (hn:nf=some n) (hc:DZ H 0 nf val R c=0) (ho:GI nf c fs link=true):
 DJ H 0 nf val R (Hx n c fs link)=0:=by
 subst hn;unfold DZ at hc;rw [Ah AZ] at hc;by_cases hok:Kq (some n) val R c=true
 ·rw [Ak hok] at hc
  simp only [Ce] at hc;rw [M2] at hc;simp only [Kq,Bb,By,Ce] at hok;obtain ⟨⟨⟨hf,⟨e1,e2⟩,e3⟩,⟨hp0,hp1⟩,hac⟩,hl,hcl⟩:=hok;simp only [Dx,Bb,By] at hac;obtain ⟨hv,hval⟩:=hac;simp only [GI,Bb,By] at ho;obtain ⟨_,⟨hinc,hlk0⟩,AKc⟩:=ho;have hmem:=QI hinc;have AJz:∀f∈fs,val f (c.values.getD f.toNat 0)=true:=by intro f hf2;have:=hmem f hf2;rw [DM] at hval;refine hval (f,c.values.getD f.toNat 0) (Cr (i:=f.toNat) ?_);rw [JA];refine ⟨by rw [V0 AG];congr 1;omega,?_⟩;rw [Ck,BN AG];rfl
  have hsh:Jj (some n) val R (Hx n c fs link)=true:=by
   rw [EV];refine ⟨⟨⟨⟨⟨⟨hf,⟨e1,e2⟩,e3⟩,hp0,hp1⟩,hinc,CY _⟩,?_⟩,⟨hlk0,AKc⟩,?_⟩,?_⟩
   ·rw [DM]
    rintro ⟨f,v⟩ hp;obtain ⟨j,hj,e⟩:=ZJ hp;have e2:(fs.zip (fs.map fun f=>c.values.getD f.toNat 0))[j]? =some (f,v):=(BN hj).trans (congrArg some e);rw [JA] at e2;have e3:(fs.map fun f=>c.values.getD f.toNat 0)[j]? =some v:=e2.2;rw [Bg,e2.1] at e3;injection e3 with e3;show val f v=true;rw [<-e3];exact AJz f (by have:=List.of_mem_zip hp;exact this.1)
   ·by_cases h:link= -1
    · right;subst h;rfl
    · left;exact h
   by_cases h:link= -1
   ·subst h
    show (fs.map _++[]++[_]).length=fs.length+1;simp
   have h0:0<=link:=AG
   show (fs.map _++(if 0<=link then _ else [])++[_]).length=fs.length+(if link= -1 then 1 else 2);rw [Ah h,Ak h0];simp
  unfold DJ;rw [Ah AZ,Ak hsh];simp only [Ce]
  -- each message of what is shown,with its claim,is one of the copy's
  have AIK:∀f∈fs,∃q,c.claims[f.toNat]? =some q/\q.index=c.place*((n:Int)+4+1)+f/\Fi H R.root (R.places*((n:Int)+4+1)) (msgP H c.schema f (c.values.getD f.toNat 0) c.holder) q=true:=by
   intro f hf2;have hr:=hmem f hf2;obtain ⟨k,rfl⟩:∃k:Nat,f=k:=⟨f.toNat,by omega⟩;refine ⟨c.claims[k]' AG,?_,?_⟩
   · rw [Cq,BN]
   have:=hc k _ (c.claims[k]' AG) (QZ hv AG) (BN AG);exact this
  have AJ0:∀k:Nat,k < 4->∃q,c.claims[n+k]? =some q/\q.index=c.place*((n:Int)+4+1)+((n:Int)+4) - 4+k/\Fi H R.root (R.places*((n:Int)+4+1)) (L8 H c.schema k (c.links.getD k Gq) c.holder) q=true:=by intro k hk;refine ⟨c.claims[n+k]' AG,BN _,?_⟩;exact hc (n+k) _ (c.claims[n+k]' AG) (Rk hv hl hk) (BN AG)
  have hlast:∃q,c.claims[n+4]? =some q/\q.index=c.place*((n:Int)+4+1)+((n:Int)+4)/\Fi H R.root (R.places*((n:Int)+4+1)) (msgP H c.schema (-1) 0 c.holder) q=true:=by refine ⟨c.claims[n+4]' AG,BN _,?_⟩;exact hc (n+4) _ (c.claims[n+4]' AG) (Rl hv hl) (BN AG)
  obtain ⟨qz,hqz,hz1,hz2⟩:=hlast;have hgz:c.claims.getD (n+4) GQ=qz:=by rw [Ck,hqz];rfl
  have hpart:∀(F:AQ),(∀f∈F,f∈fs)->∀p∈((F8 H (c.place*((n:Int)+4+1)) c.schema c.holder F (F.map fun f=>c.values.getD f.toNat 0)).zip (F.map fun f=>c.claims.getD f.toNat GQ)),p.2.index=p.1.1/\Fi H R.root (R.places*((n:Int)+4+1)) p.1.2 p.2=true:=by
   intro F
   induction F with
   | nil=>intro _ p hp;simp [F8] at hp
   |
    cons f F ih=>
    intro hF p hp;simp only [F8,Fz,List.zip_cons_cons,B0] at hp;rcases hp with rfl | hp
    ·obtain ⟨q,hq,h1,h2⟩:=AIK f (hF f AZ)
     have hg:c.claims.getD f.toNat GQ=q:=by rw [Ck,hq];rfl
     rw [hg];exact ⟨h1,h2⟩
    · exact ih (fun x hx=>hF x (by simp [hx])) p hp
  have hms:∀p∈(VR H n (Hx n c fs link)).zip (Hx n c fs link).claims,p.2.index=p.1.1/\Fi H R.root (R.places*((n:Int)+4+1)) p.1.2 p.2=true:=by
   have el:(F8 H (c.place*((n:Int)+4+1)) c.schema c.holder fs (fs.map fun f=>c.values.getD f.toNat 0)).length=(fs.map fun f=>c.claims.getD f.toNat GQ).length:=by simp [F8]
   simp only [VR,Gt,Hx];rw [Gc,Gc,List.zip_append el];intro p hp;rcases Ka.1 hp with hp | hp
   · exact hpart fs (fun _ h=>h) p hp
   by_cases h0:0<=link
   ·obtain ⟨k,rfl⟩:∃k:Nat,link=k:=⟨link.toNat,by omega⟩
    obtain ⟨q,hq,h1,h2⟩:=AJ0 k AG;simp only [Ak h0] at hp;have hp:p∈[((c.place*((n:Int)+4+1)+((n:Int)+4) - 4+k,L8 H c.schema k (c.links.getD k Gq) c.holder),c.claims.getD (n+k) GQ),((c.place*((n:Int)+4+1)+((n:Int)+4),msgP H c.schema (-1) 0 c.holder),c.claims.getD (n+4) GQ)]:=hp;simp only [B0,DX,DW] at hp;rcases hp with rfl | rfl
    ·have hg:c.claims.getD (n+k) GQ=q:=by rw [Ck,hq];rfl
     rw [hg];exact ⟨h1,h2⟩
    rw [hgz];exact ⟨hz1,hz2⟩
   simp only [Ah h0] at hp;have hl0:∀(a b c:Int) (d:Dg) (L:AQ),Mt H a b c d L []=[]:=fun _ _ _ _ L=>by simp [Mt]
   rw [hl0] at hp;have hp:p∈[((c.place*((n:Int)+4+1)+((n:Int)+4),msgP H c.schema (-1) 0 c.holder),c.claims.getD (n+4) GQ)]:=hp;simp only [B0,DX,DW] at hp;subst hp;rw [hgz];exact ⟨hz1,hz2⟩
  rw [M2];intro j m q hm hq;exact hms (m,q) (Cr (i:=j) (by rw [JA];exact ⟨hm,hq⟩))
 · rw [Ah hok] at hc;cases hc
theorem wd {seed:Dg} {n:Nat} {r:Br} {place:Int} {holder:Dg} {lx ly:List Dg} {vx vy fs:AQ} {link:Int} (hx:vx.length=n) (hy:vy.length=n) (kx:lx.length=4) (ky:ly.length=4)
 (hf:∀f∈fs,0<=f/\f < n/\vx.getD f.toNat 0=vy.getD f.toNat 0) (hl:0<=link->link < 4/\lx.getD link.toNat Gq=ly.getD link.toNat Gq):
 Hx n (C9 H seed n r place holder lx vx) fs link=Hx n (C9 H seed n r place holder ly vy) fs link:=by
 have hcl:∀(l:List Dg) (v:AQ) (k:Nat) (m:Int×Dg),(Fh H n (N9 r place holder l v))[k]? =some m->(C9 H seed n r place holder l v).claims.getD k GQ=Lu H seed (Dp H seed (r.places*((n:Int)+4+1)).toNat) m.1.toNat m.2:=by intro l v k m hm;show (QS H seed _ _).getD k GQ=_;rw [Ck,QS,Bg,hm];rfl
 have e1:∀f∈fs,(C9 H seed n r place holder lx vx).claims.getD f.toNat GQ=(C9 H seed n r place holder ly vy).claims.getD f.toNat GQ:=by intro f hf2;obtain ⟨h0,h1,h2⟩:=hf f hf2;rw [hcl lx vx f.toNat _ (QZ hx AG),hcl ly vy f.toNat _ (QZ hy AG)];show Lu H seed _ _ (msgP H r.schema _ (vx.getD f.toNat 0) holder)=Lu H seed _ _ (msgP H r.schema _ (vy.getD f.toNat 0) holder);rw [h2];rfl
 have e2:(C9 H seed n r place holder lx vx).claims.getD (n+4) GQ=(C9 H seed n r place holder ly vy).claims.getD (n+4) GQ:=by rw [hcl lx vx _ _ (Rl hx kx),hcl ly vy _ _ (Rl hy ky)];rfl
 unfold Hx;rw [e2];have e3:(fs.map fun f=>(C9 H seed n r place holder lx vx).claims.getD f.toNat GQ)=fs.map fun f=>(C9 H seed n r place holder ly vy).claims.getD f.toNat GQ:=List.map_congr_left e1;have e4:(fs.map fun f=>(C9 H seed n r place holder lx vx).values.getD f.toNat 0)=fs.map fun f=>(C9 H seed n r place holder ly vy).values.getD f.toNat 0:=List.map_congr_left fun f h=>(hf f h).2.2;rw [e3,e4];by_cases h0:0<=link
 ·obtain ⟨h1,h2⟩:=hl h0
  have e5:(C9 H seed n r place holder lx vx).claims.getD (n+link.toNat) GQ=(C9 H seed n r place holder ly vy).claims.getD (n+link.toNat) GQ:=by rw [hcl lx vx _ _ (Rk hx kx AG),hcl ly vy _ _ (Rk hy ky AG)];show Lu H seed _ _ (L8 H r.schema _ (lx.getD link.toNat Gq) holder)=Lu H seed _ _ (L8 H r.schema _ (ly.getD link.toNat Gq) holder);rw [h2];rfl
  simp only [Ak h0,e5];have e6:(C9 H seed n r place holder lx vx).links.getD link.toNat Gq=(C9 H seed n r place holder ly vy).links.getD link.toNat Gq:=h2;rw [e6];rfl
 · simp only [Ah h0];rfl
end
end Go.Proofs.YtamhoilkpppdbaaGreatDoor
