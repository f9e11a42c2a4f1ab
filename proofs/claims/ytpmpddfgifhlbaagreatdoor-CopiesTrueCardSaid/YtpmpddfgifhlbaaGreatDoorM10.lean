import Derived.Test.YtpmpddfgifhlbaaGreatDoorM09
namespace Go.Proofs.YtpmpddfgifhlbaaGreatDoor
set_option maxHeartbeats 8000000
set_option maxRecDepth 100000
open Go renaming World→AH, Value→AK, Calls→AS, TypeId→Ae, Program→BB, Addr→Aa
open Go.RowKit renaming Below→BK
open Go.Proofs.Tryz
open Go.Value renaming slice→AA, int→AB, pointer→AU, bool→AX, agg→AO
open Go.IntKind renaming i64→AE
open Go.Ending renaming returned→AV, panicked→B8
open Go.Obj renaming cells→AQ
open Go.RowKit
def yU {α:Type} (F:Fence) (n:Nat) (P:BB) (g:Nat) (lb:Array AK) (encs:α->Array AK) (T K:AH->AH->Prop) (G:List α->α->Prop) (S:List α->Prop) (w:AH):Prop:=
 ∀(l:Nat) (J:List α->AH->Prop) (Jp:List PanicEntry->AH->Prop) (N:Nat) (W:AH),AJ w W->(∀s A C,J s A->T A C->J s C)->(∀s A,J s A->s.length<=N)->
  (∀pre x W1,J pre W1->G pre x->YieldAt F (n - 1) P l (encs x) W1 fun e W'=>(e=AV (AX true)/\J (pre++[x]) W'/\K W1 W')\/∃ch,e=B8 ch/\Jp ch W')->
  J [] W->
  CallsIn F n P g (#[.func (.yield l) #[] #[]]++lb) W fun e W'=>((∃v,e=AV v)/\∃xs,S xs/\J xs W')\/∃ch,e=B8 ch/\Jp ch W'
section
variable {n:Nat} {P:BB}
end
open Go.Shelf
attribute [local go_sem] Oper.semAt_some
structure Iq where
 Au:Int
 round:Int
 schema:Int
 place:Int
 holder:AP
 fields:AK
 values:AK
 link:Int
 token:AP
 claims:AK
 links:AK
 tokens:AK
 width:Int
 present:Int
def shL (s:Iq):List AK:=[Value.int .i64 s.Au,Value.int .i64 s.round,Value.int .i64 s.schema,Value.int .i64 s.place]++s.holder.map (Value.int .u8)++[s.fields,s.values,Value.int .i64 s.link]++s.token.map (Value.int .u8)++[s.claims,s.links,s.tokens,Value.int .i64 s.width,Value.int .i64 s.present]
def I9 (s:Iq):Array AK:=(shL s).toArray
structure ShB (W:AH) (g:Nat) (s:Iq):Prop where
 schema:W.cell? ⟨g,2,none⟩=some (AB AE s.schema)
 place:W.cell? ⟨g,3,none⟩=some (AB AE s.place)
 holder:W.rangeAt g 4 (s.holder.map (Value.int .u8))
 fields:W.cell? ⟨g,36,none⟩=some s.fields
 values:W.cell? ⟨g,37,none⟩=some s.values
 claims:W.cell? ⟨g,71,none⟩=some s.claims
 links:W.cell? ⟨g,72,none⟩=some s.links
 tokens:W.cell? ⟨g,73,none⟩=some s.tokens
 width:W.cell? ⟨g,74,none⟩=some (AB AE s.width)
 present:W.cell? ⟨g,75,none⟩=some (AB AE s.present)
theorem XM {W:AH} {g:Nat} {t:Ae} {s:Iq} (h:AZ W g t (I9 s)) (hh:s.holder.length=32) (ht:s.token.length=32):ShB W g s:=by
 have hc:∀i,W.cell? ⟨g,i,none⟩=([Value.int .i64 s.Au,Value.int .i64 s.round,Value.int .i64 s.schema,Value.int .i64 s.place]++s.holder.map (Value.int .u8)++[s.fields,s.values,Value.int .i64 s.link]++s.token.map (Value.int .u8)++[s.claims,s.links,s.tokens,Value.int .i64 s.width,Value.int .i64 s.present])[i]? :=fun i=>by rw [h.cell,I9,Ai];rfl
 have Zc:∀k,k < 3->W.cell? ⟨g,36+k,none⟩=[s.fields,s.values,AB AE s.link][k]? :=fun k hk=>by rw [hc,EF Yy,EF UY,Cf (by simp [hh])];simp [hh]
 have h71:∀k,W.cell? ⟨g,71+k,none⟩=[s.claims,s.links,s.tokens,AB AE s.width,AB AE s.present][k]? :=fun k=>by rw [hc,Cf (by simp [hh,ht])];simp [hh,ht]
 refine ⟨by rw [hc];rfl,by rw [hc];rfl,fun j v hj=> ?_,Zc 0 AG,Zc 1 AG,h71 0,h71 1,h71 2,h71 3,h71 4⟩;have hl:j < 32:=by have:=(BA.1 hj).1;simpa [hh] using this
 rw [hc,EF Yy,EF UY,EF UY,Cf Ac];simpa using hj
theorem EY (g o:Nat) {d:AP} (hd:d.length=32) {W:AH} (h:W.rangeAt g o (d.map (Value.int .u8))):(Instr.loadAt 34 (AU (some ⟨g,o,none⟩))).run prog W=.ok (AO (yA d)) W:=by simp only [Instr.loadAt,Instr.sureAddr,Cs,DL,Result.andThen_ok,RV W g o 34 (d.map (Value.int .u8)) _ h underlying34 rfl (by rw [CX,hd];exact Du)];rfl
theorem Xf (s:Iq) (w:AH):AS prog 49 #[AO (I9 s)] w fun e w'=>e=AV (.func (.func 72) #[] #[AU (some ⟨w.heap.size,0,none⟩)])/\w'=w.alloc (AQ (I9 s) 88):=by have hmf:∀(fn:Fn) (first cap:Array AK) (w:AH),(Instr.makeFunc fn first cap).run prog w=.ok (.func fn first cap) w:=fun _ _ _ _=>rfl;go_enter func49,ntmps49;go_wp2;go_ret;exact ⟨rfl,rfl⟩
theorem ABl {W:AH} {b o n c k:Nat} {l:AP} {v:Int} (h:Ag 1 CF W (AA (some ⟨b,o,none⟩) n c) l) (hv:l[k]? =some v):W.cell? ⟨b,o+k,none⟩=some (AB AE v):=by
 have hk:k < n:=by rw [h.len];exact (BA.1 hv).1
 obtain ⟨b',o',x,e,_,hx,hc,_⟩:=ints_at h hk;injection e with e;injection e with e1 e2;subst e1 e2;rw [hv] at hx;injection hx with hx;rw [hx];exact hc
structure KX (n e g:Nat) (W W':AH):Prop where
 size:W.heap.size<=W'.heap.size
 same:∀b,b < n->b≠e->W'.heap[b]? =W.heap[b]?
 box:W'.heap[g]? =W.heap[g]?
 tab:Cc W->Cc W'
theorem KX.trans {n e g:Nat} {A B C:AH} (h:KX n e g A B) (k:KX n e g B C):KX n e g A C:=⟨BF h.size k.size,fun b h1 h2=>(k.same b h1 h2).trans (h.same b h1 h2),k.box.trans h.box,fun t=>k.tab (h.tab t)⟩
theorem KX.below {n e g:Nat} {A B C:AH} (h:KX n e g A B) (hb:AJ B C) (hn:n<=B.heap.size) (hg:g < B.heap.size):KX n e g A C:=
 ⟨BF h.size hb.size,fun b h1 h2=>(hb.block b AG).trans (h.same b h1 h2),(hb.block g hg).trans h.box,fun t=>(h.tab t).below hb⟩
theorem KX.refl (n e g:Nat) (A:AH):KX n e g A A:=⟨Ad _,fun _ _ _=>rfl,rfl,id⟩
def uQ (x:Int×AP):Array AK:=#[AB AE x.1,AO (yA x.2)]
def GM (ms:List (Int×AP)) (pre:List (Int×AP)) (x:Int×AP):Prop:=pre=ms.take pre.length/\ms[pre.length]? =some x
theorem Ch {P:BB} {W:AH} {p r:AK} {o:Oper} {a:Act} {x:Operand} {t:Ae} (ho:o.op=.load t x) (he:a.eval x=p) (h:(Instr.loadAt t p).run P W=.ok r W):(execOp a.eval o).run P W=.ok (.value r) W:=by subst he;exact run_load h ho
theorem AGf {W:AH} {b o n c k:Nat} {l:List (AP)} {d:AP} (h:Ag 32 CQ W (AA (some ⟨b,o,none⟩) n c) l) (hd:l[k]? =some d):W.rangeAt b (o+k*32) (d.map (Value.int .u8)):=by
 have hk:k < n:=by rw [h.len];exact (BA.1 hd).1
 obtain ⟨b',o',x,e,_,hx,_,_,hr⟩:=GU h hk;injection e with e;injection e with e1 e2;subst e1 e2;rw [hd] at hx;injection hx with hx;rw [hx];exact hr
theorem Uz {ms:List (Int×AP)} {k:Nat} {x:Int×AP} (h:ms[k]? =some x):GM ms (ms.take k) x/\ms.take k++[x]=ms.take (k+1):=by
 have hk:=(BA.1 h).1;have hl:(ms.take k).length=k:=by rw [DR];omega
 exact ⟨⟨by rw [hl],by rw [hl];exact h⟩,by rw [UL,h];rfl⟩
theorem uO (m n0 e g:Nat) (s:Iq) (FA VA LA TA:Option Aa) (nf cf nv cv nl cl nt ct:Nat) (fs vs ls:AP) (ts:List (AP)) (w:AH)
 (hF:s.fields=AA FA nf cf) (hV:s.values=AA VA nv cv) (hL:s.links=AA LA nl cl) (hT:s.tokens=AA TA nt ct)
 (hR:∀W,KX n0 e g w W->Ag 1 CF W (AA FA nf cf) fs/\Ag 1 CF W (AA VA nv cv) vs/\Ag 1 CF W (AA LA nl cl) ls/\Ag 32 CQ W (AA TA nt ct) ts)
 (hg:AZ w g 88 (I9 s)) (hh:s.holder.length=32) (ht:s.token.length=32) (hn0:n0<=w.heap.size) (hfv:nf<=nv) (hlt:nl<=nt) (hsc:EZ s.schema)
 (hpl:0<=s.place/\s.place<=1000) (hw:0<=s.width/\s.width<=1000) (hpr:0<=s.present/\s.present<=1000) (hfr:∀f∈fs,0<=f/\f<=1000) (hlr:∀l∈ls,0<=l/\l<=1000) (MJ:Cc w):
 yU Fence.wide m prog 72 #[AU (some ⟨g,0,none⟩)] uQ TB (KX n0 e g) (GM (Fb Aq (s.place*s.width) s.present s.schema s.holder fs vs ls ts)) (fun xs=>xs=Fb Aq (s.place*s.width) s.present s.schema s.holder fs vs ls ts) w:=by
 obtain ⟨first,hfi⟩:=Ab (s.place*s.width)
 rw [<-hfi];obtain ⟨ms,hms⟩:=Ab (Fb Aq first s.present s.schema s.holder fs vs ls ts)
 rw [<-hms];intro lp J Jp N W hW hJT uh hY h0;have hgl:=hg.lt;have Qr:AI (KX n0 e g w W):=AF ((KX.refl n0 e g w).below hW hn0 hgl);obtain ⟨HG,Hk⟩:=Aj (hg.below hW hg.lt) (MJ.below hW);have AH0:=MJ;have HH:=AF hh;have NH:AI (∀W,KX n0 e g w W->ShB W g s):=AF (fun W hk=>XM (t:=88) (hk.box.trans hg) hh ht);obtain ⟨HR,j4,HY,Wd⟩:=CJ hR hJT hY h0;have hgw:g < W.heap.size:=Ay hgl hW.size;have qh:AI (n0<=W.heap.size):=AF (BF hn0 hW.size);have sb:=NH.o W Qr.o;have c3:=sb.place;have di:=sb.fields;have c74:=sb.width;rw [hF] at di;have hnf:nf<=9223372036854775807:=by have:=(hR W Qr.o).1.le;omega
 have hpw:IntKind.i64.wrap (s.place*s.width)=s.place*s.width:=Bv _ (by have h1:0<=s.place*s.width:=JH hpl.1 hw.1;have h2:s.place*s.width<=1000*1000:=PZ hpl.2 hw.2 hw.1 AG;omega)
 rw [<-hfi] at hpw;clear hW hJT uh hY h0 hg MJ hR sb hgl;refine Ey.2 ?_;go_enter func72,ntmps72;go_wp2_with fail;clear c3 di c74;have hl1:fs.length=nf:=(HR.o W Qr.o).1.len.symm;have hl2:vs.length=nv:=(HR.o W Qr.o).2.1.len.symm;have hl3:ls.length=nl:=(HR.o W Qr.o).2.2.1.len.symm;have hl4:ts.length=nt:=(HR.o W Qr.o).2.2.2.len.symm;have LK:AI (∀(k:Nat) f v,fs[k]? =some f->vs[k]? =some v->ms[k]? =some (first+f,msgP Aq s.schema f v s.holder)):=AF (fun k f v h1 h2=>by
  have hk:=(BA.1 h1).1;have ez:(fs.zip vs)[k]? =some (f,v):=by rw [Ig];exact ⟨h1,h2⟩
  rw [hms,Fb,FC,Fh,EF BX,Be,ez];rfl)
 have Ls:AI (∀(k:Nat) l t,ls[k]? =some l->ts[k]? =some t->ms[nf+k]? =some (first+s.present - 4+l,Ko Aq s.schema l t s.holder)):=AF (fun k l t h1 h2=>by
  have hk:=(BA.1 h1).1;have ez:(ls.zip ts)[k]? =some (l,t):=by rw [Ig];exact ⟨h1,h2⟩
  have el:(FC Aq first s.schema s.holder fs vs).length=nf:=by simp [FC];omega
  rw [hms,Fb,LC,Fh,Cf AG,el,Nat.add_sub_cancel_left,EF BX,Be,ez];rfl)
 have G8:AI (ms[nf+nl]? =some (first+s.present,msgP Aq s.schema (-1) 0 s.holder)/\ms.length=nf+nl+1):=AF (by
  have el:(FC Aq first s.schema s.holder fs vs).length=nf:=by simp [FC];omega
  have el2:(LC Aq first s.present s.schema s.holder ls ts).length=nl:=by simp [LC];omega
  refine ⟨?_,by rw [hms,Fb];simp only [CT,el,el2];rfl⟩;rw [hms,Fb,Cf (by rw [CT];omega),CT,el,el2,PY];rfl)
 obtain ⟨Q9,jz,j5,HLR⟩:=CJ hl1 hl3 hfr hlr;have HVA:AI (∀f:Int,0<=f/\f<=1000->IntKind.i64.wrap (wrap64 (s.place*s.width)+f)=first+f):=AF (fun f h=>by
  have h1:0<=s.place*s.width:=JH hpl.1 hw.1;have h2:s.place*s.width<=1000*1000:=PZ hpl.2 hw.2 hw.1 AG;have e0:wrap64 (s.place*s.width)=first:=by rw [hfi];exact mG
  rw [e0];exact bN)
 have HVB:AI (∀f:Int,0<=f/\f<=1000->IntKind.i64.wrap (IntKind.i64.wrap (IntKind.i64.wrap (wrap64 (s.place*s.width)+s.present) - 4)+f)=first+s.present - 4+f):=AF (fun f h=>by
  have h1:0<=s.place*s.width:=JH hpl.1 hw.1;have h2:s.place*s.width<=1000*1000:=PZ hpl.2 hw.2 hw.1 AG;have e0:wrap64 (s.place*s.width)=first:=by rw [hfi];exact mG
  rw [<-hfi] at h1 h2;rw [e0,Bv (first+s.present) AG,Bv (first+s.present - 4) AG];exact bN)
 have HVC:AI (IntKind.i64.wrap (wrap64 (s.place*s.width)+s.present)=first+s.present):=AF (by
  have h1:0<=s.place*s.width:=JH hpl.1 hw.1;have h2:s.place*s.width<=1000*1000:=PZ hpl.2 hw.2 hw.1 AG;have e0:wrap64 (s.place*s.width)=first:=by rw [hfi];exact mG
  rw [<-hfi] at h1 h2;rw [e0];exact bN)
 have HT0:=AF AH0;clear AH0;clear hl1 hl2 hl3 hl4 hms hfr hlr;go_loopg [18] nf (fun q i wr=>∃k:Nat,k<=nf/\q=nf - k/\i=AB AE k/\J (ms.take k) wr/\KX n0 e g w wr/\g < wr.heap.size/\n0<=wr.heap.size/\Cc wr)
 case atStart=>exact ⟨0,Ar _,rfl,rfl,Wd.o,Qr.o,hgw,qh.o,Hk.o⟩
 obtain ⟨k,hk,hq,rfl,hj,hkx,hgr,hnr,htb⟩:=hrel;obtain ⟨HQ,HJ,Wc,Sm,Si⟩:=EG hq hj hkx hnr htb;have hrd:=HR.o wr hkx;clear hq hj hkx hnr htb Hk Qr Wd;by_cases hlt1:k < nf
 ·obtain ⟨fb,fo,f,rfl,hfb,hf,ef,hf1,hf2⟩:=ints_at hrd.1 hlt1
  obtain ⟨vb,vo,v,rfl,hvb,hv,ev,hv1,hv2⟩:=ints_at hrd.2.1 (Ay hlt1 hfv);have hkn:(k:Int) < (nf:Int):=AG
  have hkv:(k:Int) < (nv:Int):=AG
  have hk0:=Int.natCast_nonneg k
  have HX:=AF (LK.o k f v hf hv);have hfr:=j5.o f (Ci hf);have jm:AI (∀W,KX n0 e g w W->W.cell? ⟨g,2,none⟩=some (AB AE s.schema)/\W.cell? ⟨g,37,none⟩=some (AA (some ⟨vb,vo,none⟩) nv cv)/\W.cell? ⟨vb,vo+k,none⟩=some (AB AE v)):=AF (fun W hW=>⟨(NH.o W hW).schema,(NH.o W hW).values.trans (congrArg some hV),ABl (HR.o W hW).2.1 hv⟩);have DE:prog.follows .mixedOrders=true:=AL
  clear hf hv;go_upto_region 4 with fail;refine (Dq (n:=m)).1 ?_;have hS0:KX n0 e g w wr.drew:=Wc.o.below (Af _ _).drew Sm.o hgr;refine rhB (KX n0 e g w) 20 _ DE AL rfl ?_;have hC:∀ops,ops.all P0=true->Clear Fence.wide ops:=fun ops h=>⟨fun _=>trivial,h⟩;have ADo:∀W,KX n0 e g w W->(Instr.loadAt 34 (AU (some ⟨g,4,none⟩))).run prog W=.ok (AO (yA s.holder)) W:=fun W hW=>EY g 4 HH.o (NH.o W hW).holder;have hva:IntKind.i64.wrap (wrap64 (s.place*s.width)+f)=first+f:=HVA.o f hfr
  refine Uq (hC _ AL) 0 23 0 AL rfl rfl Al hS0 rfl (.inl rfl) rfl ?_;refine Uq (hC _ AL) 1 24 3 AL rfl rfl Al hS0 rfl (.inl rfl) rfl ?_;refine Uq (hC _ AL) 2 25 5 AL rfl rfl Al hS0 rfl (.inl rfl) rfl ?_;refine EP (hC _ AL) 3 26 AL rfl rfl Al hS0 rfl (v:=AB AE (first+f)) fT ?_;refine EP (hC _ AL) 4 27 AL rfl rfl Al hS0 rfl NT ?_;refine EP (hC _ AL) 5 28 AL rfl rfl Al hS0 rfl NT ?_;refine EP (hC _ AL) 6 29 AL rfl rfl Al hS0 rfl NT ?_;refine Uq (hC _ AL) 7 30 5 AL rfl rfl Al hS0 rfl (.inl rfl) rfl ?_;refine EP (hC _ AL) 8 31 AL rfl rfl Al hS0 rfl NT ?_;refine EP (hC _ AL) 9 32 AL rfl rfl Al hS0 rfl NT ?_;refine EP (hC _ AL) 10 33 AL rfl rfl Al hS0 rfl NT ?_;refine Uq (hC _ AL) 11 34 4 AL rfl rfl Al hS0 rfl (.inl rfl) rfl ?_;refine EP (hC _ AL) 12 35 AL rfl rfl Al hS0 rfl NT ?_;refine EP (hC _ AL) 13 36 AL rfl rfl Al hS0 rfl NT ?_;refine EP (hC _ AL) 14 37 AL rfl rfl Al hS0 rfl NT ?_;refine EP (hC _ AL) 15 38 AL rfl rfl Al hS0 rfl NT ?_;refine EP (hC _ AL) 16 39 AL rfl rfl Al hS0 rfl (v:=AO (yA s.holder)) (fun W hW=>Ch rfl AL (ADo W hW)) ?_;refine rhF (hC _ AL) 17 40 AL rfl rfl rfl rfl (enters_of func11 AL rfl) QG (Ey.2 (Tq s.schema f v s.holder wr.drew hsc ⟨hf1,hf2⟩ ⟨hv1,hv2⟩ HH.o (Si.o.below (Af _ _).drew))) AL ?_;rintro e w4 ⟨rfl,hb⟩;have hb4:AJ wr w4:=(Af _ _).drew.trans hb;have hK4:KX n0 e g w w4:=Wc.o.below hb4 Sm.o hgr;have hgm:=Uz HX.o;refine ⟨_,rfl,hK4,?_⟩;refine rhY (hC _ AL) 18 41 23 lp AL rfl rfl rfl rfl AL QG (HY.o (ms.take k) _ w4 (j4.o _ _ _ HJ.o hb4) hgm.1) AL ?_;rintro e W' (⟨rfl,hJ',hk'⟩ | ⟨ch,rfl,aU⟩)
  ·have hK5:KX n0 e g w W':=hK4.trans hk'
   refine .inl ⟨_,rfl,hK5,?_⟩;refine EP (hC _ AL) 19 42 AL rfl rfl Al hK5 rfl (v:=AX false) F7 ?_;refine rhD AL ?_ _;rw [hgm.2] at hJ';obtain ⟨HJ2,Tb⟩:=Aj hJ' hK5;have HT5:AI (Cc W'):=AF (hK5.tab HT0.o);have hs5:wr.heap.size<=W'.heap.size:=BF hb4.size hk'.size;have YO:AI (g < W'.heap.size):=AF (Ay hgr hs5);have Wb:AI (n0<=W'.heap.size):=AF (BF Sm.o hs5);clear hJ' hK5 hK4 hb4 hb hk' hgm hS0 hC;simp only [Bp,B9];go_wp2;go_roundg (nf - (k+1))
   case measure=>exact Bc
   case rel=>exact ⟨k+1,hlt1,rfl,rfl,HJ2.o,Tb.o,YO.o,Wb.o,HT5.o⟩
  · exact mI
 obtain ⟨q0,hq0⟩:=Ab nf;have hkn:k=nf:=AG
 subst hkn;have c72:wr.cell? ⟨g,72,none⟩=some (AA LA nl cl):=(NH.o wr Wc.o).links.trans (congrArg some hL);have hnl:nl<=9223372036854775807:=by have:=hrd.2.2.1.le;omega
 clear hq0 hrd;go_wp2_with fail;clear c72;obtain ⟨wy,hwy⟩:=Ab wr;subst hwy;have HK9:AI (ms.take k=ms.take (k+0)):=AF rfl;go_loopg [47] nl (fun q i wr=>∃l:Nat,l<=nl/\q=nl - l/\i=AB AE l/\J (ms.take (k+l)) wr/\KX n0 e g w wr/\g < wr.heap.size/\n0<=wr.heap.size/\Cc wr)
 case atStart=>exact ⟨0,Ar _,rfl,rfl,HJ.o,Wc.o,hgr,Sm.o,Si.o⟩
 clear HQ HJ Wc Sm Si hgr HK9;obtain ⟨l,hl,hq,rfl,hj,hkx,hgr,hnr,htb⟩:=hrel;obtain ⟨HQ,HJ,Wc,Sm,Si⟩:=EG hq hj hkx hnr htb;have hrd:=HR.o wr hkx;clear hq hj hkx hnr htb;by_cases hlt2:l < nl
 ·obtain ⟨lb,lo,x,rfl,hlb,hf,ef,hf1,hf2⟩:=ints_at hrd.2.2.1 hlt2
  obtain ⟨tb,DU,t,rfl,htb,hv,AHG,_,_⟩:=GU hrd.2.2.2 (Ay hlt2 hlt);have hln:(l:Int) < (nl:Int):=AG
  have hlv:(l:Int) < (nt:Int):=AG
  have hl0:(0:Int)<=(l:Int):=AG
  have HX:=AF (Ls.o l x t hf hv);have hfr:=HLR.o x (Ci hf);obtain ⟨CV,AIP⟩:=Aj Du AHG;have HS9:AI (∀W,KX n0 e g w W->W.cell? ⟨g,2,none⟩=some (AB AE s.schema)/\W.cell? ⟨g,73,none⟩=some (AA (some ⟨tb,DU,none⟩) nt ct)/\W.cell? ⟨g,75,none⟩=some (AB AE s.present)):=AF (fun W hW=>⟨(NH.o W hW).schema,(NH.o W hW).tokens.trans (congrArg some hT),(NH.o W hW).present⟩);have ADo:∀W,KX n0 e g w W->(Instr.loadAt 34 (AU (some ⟨tb,DU+l*32,none⟩))).run prog W=.ok (AO (yA t)) W:=fun W hW=>EY tb _ AIP.o (AGf (HR.o W hW).2.2.2 hv);have AJ1:∀W,KX n0 e g w W->(Instr.loadAt 34 (AU (some ⟨g,4,none⟩))).run prog W=.ok (AO (yA s.holder)) W:=fun W hW=>EY g 4 HH.o (NH.o W hW).holder;have hva:=HVB.o x hfr;have DE:prog.follows .mixedOrders=true:=AL
  clear hf hv AHG;go_upto_region 9 with fail;refine (Dq (n:=m)).1 ?_;have hS0:KX n0 e g w wr.drew:=Wc.o.below (Af _ _).drew Sm.o hgr;refine rhB (KX n0 e g w) 23 _ DE AL rfl ?_;have hC:∀ops,ops.all P0=true->Clear Fence.wide ops:=fun ops h=>⟨fun _=>trivial,h⟩;refine Uq (hC _ AL) 0 52 0 AL rfl rfl Al hS0 rfl (.inl rfl) rfl ?_;refine Uq (hC _ AL) 1 53 3 AL rfl rfl Al hS0 rfl (.inl rfl) rfl ?_;refine EP (hC _ AL) 2 54 AL rfl rfl Al hS0 rfl Lm ?_;refine EP (hC _ AL) 3 55 AL rfl rfl Al hS0 rfl Lm ?_;refine EP (hC _ AL) 4 56 AL rfl rfl Al hS0 rfl Lm ?_;refine EP (hC _ AL) 5 57 AL rfl rfl Al hS0 rfl Lm ?_;refine Uq (hC _ AL) 6 58 7 AL rfl rfl Al hS0 rfl (.inl rfl) rfl ?_;refine EP (hC _ AL) 7 59 AL rfl rfl Al hS0 rfl (v:=AB AE (first+s.present - 4+x)) fT ?_;refine EP (hC _ AL) 8 60 AL rfl rfl Al hS0 rfl Lm ?_;refine EP (hC _ AL) 9 61 AL rfl rfl Al hS0 rfl Lm ?_;refine EP (hC _ AL) 10 62 AL rfl rfl Al hS0 rfl Lm ?_;refine Uq (hC _ AL) 11 63 7 AL rfl rfl Al hS0 rfl (.inl rfl) rfl ?_;refine EP (hC _ AL) 12 64 AL rfl rfl Al hS0 rfl Lm ?_;refine EP (hC _ AL) 13 65 AL rfl rfl Al hS0 rfl Lm ?_;refine Uq (hC _ AL) 14 66 6 AL rfl rfl Al hS0 rfl (.inl rfl) rfl ?_;refine EP (hC _ AL) 15 67 AL rfl rfl Al hS0 rfl Lm ?_;refine EP (hC _ AL) 16 68 AL rfl rfl Al hS0 rfl (v:=AO (yA t)) (fun W hW=>Ch rfl AL (ADo W hW)) ?_;refine EP (hC _ AL) 17 69 AL rfl rfl Al hS0 rfl Lm ?_;refine EP (hC _ AL) 18 70 AL rfl rfl Al hS0 rfl Lm ?_;refine EP (hC _ AL) 19 71 AL rfl rfl Al hS0 rfl (v:=AO (yA s.holder)) (fun W hW=>Ch rfl AL (AJ1 W hW)) ?_;refine rhF (hC _ AL) 20 72 AL rfl rfl rfl rfl (enters_of func12 AL rfl) QG (Ey.2 (link_any s.schema x t s.holder wr.drew hsc ⟨hf1,hf2⟩ AIP.o HH.o (Si.o.below (Af _ _).drew))) AL ?_;rintro e w4 ⟨rfl,hb⟩;have hb4:AJ wr w4:=(Af _ _).drew.trans hb;have hK4:KX n0 e g w w4:=Wc.o.below hb4 Sm.o hgr;have hgm:=Uz HX.o;refine ⟨_,rfl,hK4,?_⟩;refine rhY (hC _ AL) 21 73 52 lp AL rfl rfl rfl rfl AL QG (HY.o (ms.take (k+l)) _ w4 (j4.o _ _ _ HJ.o hb4) hgm.1) AL ?_;rintro e W' (⟨rfl,hJ',hk'⟩ | ⟨ch,rfl,aU⟩)
  ·have hK5:KX n0 e g w W':=hK4.trans hk'
   refine .inl ⟨_,rfl,hK5,?_⟩;refine EP (hC _ AL) 22 74 AL rfl rfl Al hK5 rfl (v:=AX false) F7 ?_;refine rhD AL ?_ _;rw [hgm.2] at hJ';obtain ⟨HJ2,Tb⟩:=Aj hJ' hK5;have HT5:AI (Cc W'):=AF (hK5.tab HT0.o);have hs5:wr.heap.size<=W'.heap.size:=BF hb4.size hk'.size;have YO:AI (g < W'.heap.size):=AF (Ay hgr hs5);have Wb:AI (n0<=W'.heap.size):=AF (BF Sm.o hs5);clear hJ' hK5 hK4 hb4 hb hk' hgm hS0 hC;simp only [Bp,B9];go_wp2;go_roundg (nl - (l+1))
   case measure=>exact Bc
   case rel=>exact ⟨l+1,hlt2,rfl,rfl,HJ2.o,Tb.o,YO.o,Wb.o,HT5.o⟩
  · exact mI
 have hll:l=nl:=AG
 subst hll;have hX:=G8.o;have DE:prog.follows .mixedOrders=true:=AL
 have HS8:AI (∀W,KX n0 e g w W->W.cell? ⟨g,2,none⟩=some (AB AE s.schema)/\W.cell? ⟨g,75,none⟩=some (AB AE s.present)):=AF (fun W hW=>⟨(NH.o W hW).schema,(NH.o W hW).present⟩);have AJ2:∀W,KX n0 e g w W->(Instr.loadAt 34 (AU (some ⟨g,4,none⟩))).run prog W=.ok (AO (yA s.holder)) W:=fun W hW=>EY g 4 HH.o (NH.o W hW).holder;have hva:=HVC.o;clear hrd;go_upto_region 11 with fail;refine (Dq (n:=m)).1 ?_;have hS0:KX n0 e g w wr.drew:=Wc.o.below (Af _ _).drew Sm.o hgr;refine rhB (KX n0 e g w) 13 _ DE AL rfl ?_;have hC:∀ops,ops.all P0=true->Clear Fence.wide ops:=fun ops h=>⟨fun _=>trivial,h⟩;refine Uq (hC _ AL) 0 76 0 AL rfl rfl Al hS0 rfl (.inl rfl) rfl ?_;refine Uq (hC _ AL) 1 77 3 AL rfl rfl Al hS0 rfl (.inl rfl) rfl ?_;refine EP (hC _ AL) 2 78 AL rfl rfl Al hS0 rfl Rw ?_;refine EP (hC _ AL) 3 79 AL rfl rfl Al hS0 rfl Rw ?_;refine EP (hC _ AL) 4 80 AL rfl rfl Al hS0 rfl (v:=AB AE (first+s.present)) fT ?_;refine EP (hC _ AL) 5 81 AL rfl rfl Al hS0 rfl Rw ?_;refine EP (hC _ AL) 6 82 AL rfl rfl Al hS0 rfl Rw ?_;refine EP (hC _ AL) 7 83 AL rfl rfl Al hS0 rfl Rw ?_;refine EP (hC _ AL) 8 84 AL rfl rfl Al hS0 rfl Rw ?_;refine EP (hC _ AL) 9 85 AL rfl rfl Al hS0 rfl Rw ?_;refine EP (hC _ AL) 10 86 AL rfl rfl Al hS0 rfl (v:=AO (yA s.holder)) (fun W hW=>Ch rfl AL (AJ2 W hW)) ?_;refine rhF (hC _ AL) 11 87 AL rfl rfl rfl rfl (enters_of func11 AL rfl) QG (Ey.2 (Tq s.schema (-1) 0 s.holder wr.drew hsc (by constructor <;> decide) (by constructor <;> decide) HH.o (Si.o.below (Af _ _).drew))) AL ?_;rintro e w4 ⟨rfl,hb⟩;have hb4:AJ wr w4:=(Af _ _).drew.trans hb;have hK4:KX n0 e g w w4:=Wc.o.below hb4 Sm.o hgr;have hgm:=Uz hX.1;have hfull:ms.take (k+l+1)=ms:=Cy (by rw [hX.2];exact Ad _);refine ⟨_,rfl,hK4,?_⟩;refine rhY (hC _ AL) 12 88 76 lp AL rfl rfl rfl rfl AL QG (HY.o (ms.take (k+l)) _ w4 (j4.o _ _ _ HJ.o hb4) hgm.1) AL ?_;rintro e W' (⟨rfl,hJ',hk'⟩ | ⟨ch,rfl,aU⟩)
 ·refine .inl ⟨_,rfl,hK4.trans hk',?_⟩
  refine rhD AL ?_ _;rw [hgm.2,hfull] at hJ';have HJ2:=AF hJ';clear hJ' hK4 hb4 hb hk' hgm hS0 hC hX hfull;simp only [Bp,B9];go_wp2_with fail
  first | go_end0 | refine E8 (results_none rfl _ _ _) rfl ?_
  exact .inl ⟨⟨_,rfl⟩,ms,rfl,HJ2.o⟩
 · exact mI
attribute [local go_sem] Oper.semAt_some
def G0 (e:Int):List PanicEntry:=[{v:=.iface 123 (AO #[AB AE e]),recovered:=false}]
theorem Eh (e:Int) (w:AH):AS prog 30 #[AX true,AB AE e] w fun en w'=>(∃v,en=AV v)/\w'=w:=by
 go_enter func30,ntmps30;go_wp2_with fail
 go_end0
 exact ⟨⟨_,rfl⟩,rfl⟩
theorem EH (e:Int) (w:AH):AS prog 30 #[AX false,AB AE e] w fun en w'=>en=B8 (G0 e)/\w'=w:=by go_enter func30,ntmps30;go_wp2_with fail;exact ⟨rfl,rfl,rfl⟩
theorem Uw (A:Option Aa) (m c:Nat) (fs:AP) (n:Nat) (w:AH) (h:Ag 1 CF w (AA A m c) fs):
 AS prog 31 #[AA A m c,AB AE n] w fun e w'=>e=AV (AX (NM n (-1) fs))/\w'=w:=by
 have H:=AF h;have hle:m<=9223372036854775807:=by have:=h.le;omega
 have hlen:AI (fs.length=m):=AF h.len.symm;clear h;go_enter func31,ntmps31;go_wp2_with fail;go_loopg [5,10] m (fun q la i wr=>∃(k:Nat) (last:Int),k<=m/\q=m - k/\la=AB AE last/\i=AB AE k/\wr=w/\NM n (-1) fs=NM n last (fs.drop k))
 case atStart=>exact ⟨0, -1,Ar _,rfl,rfl,rfl,rfl,rfl⟩
 obtain ⟨k,last,hk,hq,rfl,rfl,rfl,hi⟩:=hrel;obtain ⟨HQ,HI⟩:=Aj hq hi;clear hq hi;by_cases hlt:k < m
 ·obtain ⟨b,o,f,rfl,hb,hf,ef,_,_⟩:=ints_at H.o hlt
  have hdr:fs.drop k=f::fs.drop (k+1):=by have hkl:=(BA.1 hf).1;rw [UR hkl];rw [BJ hkl] at hf;injection hf with hf;rw [hf]
  rw [hdr] at HI;have hk1:(k:Int) < (m:Int):=AG
  have hk0:=Int.natCast_nonneg k
  clear hf hdr;by_cases h1:f<=last
  ·go_wp2
   go_ret;exact ⟨by rw [HI.o,NM,BO (by omega:¬last < f)];rfl,rfl⟩
  by_cases h2:(n:Int)<=f
  ·go_wp2
   go_ret;exact ⟨by rw [HI.o,NM,BO (by omega:¬f < (n:Int)),YX];rfl,rfl⟩
  go_wp2;go_roundg (m - (k+1))
  case measure=>exact Bc
  case rel=>exact ⟨k+1,f,hlt,rfl,rfl,rfl,rfl,by rw [HI.o,NM,Bg (by omega:last < f),Bg (by omega:f < (n:Int))];rfl⟩
 have hkm:k=m:=AG
 subst hkm;go_wp2;go_ret;have e:fs.drop k=[]:=EV (by rw [hlen.o];exact Ad _);exact ⟨by rw [HI.o,e];rfl,rfl⟩
attribute [local go_sem] Oper.semAt_some
structure Qm (S T:AK) (ck:Int) (val:Int->Int->Int->Bool) (w:AH):Prop where
 chk:∀(W:AH),AJ w W->AS prog 17 #[T] W fun e w'=>e=AV (AB AE ck)/\AJ W w'
 val:∀(sc f v:Int) (W:AH),AJ w W->AS prog 32 #[S,AB AE sc,AB AE f,AB AE v] W fun e w'=>e=AV (AX (val sc f v))/\AJ W w'
theorem Qm.below {S T:AK} {ck:Int} {val:Int->Int->Int->Bool} {w w':AH} (h:Qm S T ck val w) (hb:AJ w w'):Qm S T ck val w':=
 ⟨fun W hW=>h.chk W (AW hb hW),fun sc f v W hW=>h.val sc f v W (AW hb hW)⟩
def LG (_:AH) (cs:List AK) (n:Nat):Prop:=∃v0 v1 v2 v3 A c v5,cs=[v0,v1,v2,v3,AA A n c,v5]/\n<=140737488355328/\(∀u∈[v0,v1,v2,v3,v5],u.oneCell'=true)
theorem FI:Ea LG:=fun _ _ _ _ _ h=>h
theorem Ni {W:AH} {A:Option Aa} {n c k:Nat} {ns:List Nat} (h:Ag 6 LG W (AA A n c) ns) (hk:k < n):
 ∃b off x v0 v1 v2 v3 A1 c1 v5,A=some ⟨b,off,none⟩/\b < W.heap.size/\ns[k]? =some x/\x<=140737488355328/\(∀u∈[v0,v1,v2,v3,v5],u.oneCell'=true)/\(∀j v,[v0,v1,v2,v3,AA A1 x c1,v5][j]? =some v->W.cell? ⟨b,off+k*6+j,none⟩=some v):=by
 obtain ⟨b,off,x,cs,e,hb,hl,hlen,hc,hR⟩:=h.at_ hk;obtain ⟨v0,v1,v2,v3,A1,c1,v5,rfl,hx,ho⟩:=hR;exact ⟨b,off,x,v0,v1,v2,v3,A1,c1,v5,e,hb,hl,hx,ho,fun j v hj=>by rw [L0];exact hc j v hj⟩
theorem S4 (v0 v1 v2 v3 v5:AK) (A:Option Aa) (n c:Nat) (w:AH) (hn:n<=140737488355328):
 AS prog 25 #[AO #[v0,v1,v2,v3,AA A n c,v5]] w fun e w'=>e=AV (AB AE ((n:Int)+4+1))/\AJ w w':=by
 have e1:IntKind.i64.wrap ((n:Int)+4)=(n:Int)+4:=Bv _ AG;have e2:IntKind.i64.wrap ((n:Int)+4+1)=(n:Int)+4+1:=Bv _ AG;go_enter func25,ntmps25;exact zg
theorem Ts (v0 v1 v3 v4 v5 v6:AK) (A:Option Aa) (n c:Nat) (i:Int) (w:AH):
 AS prog 24 #[AO #[v0,v1,AA A n c,v3,v4,v5,v6],AB AE i] w fun e w'=>e=AV (AX (decide (0<=i) && decide (i < n)))/\AJ w w':=by
 go_enter func24,ntmps24;by_cases h1:0<=i
 ·go_wp2
  go_ret;exact ⟨by rw [Bg h1];rfl,(Af _ _).alloc (Ad _) _⟩
 go_wp2;go_ret;exact ⟨by rw [BO (by omega:¬0<=i)];rfl,(Af _ _).alloc (Ad _) _⟩
attribute [local go_sem] Oper.semAt_some
def rdA (r:CS):Array AK:=#[AB AE r.Au,AB AE r.no,AB AE r.schema,AB AE r.day,AB AE r.known,AB AE r.places]++yA r.root
def Bt (ns:List Nat) (i:Int):Option Nat:=if 0<=i then ns[i.toNat]? else none
section
variable {P:BB} {md:Region.Mode} {ops:Array Oper} {Q:Exit->Act->AH->Prop} {S:AH->Prop} {fuel:Nat} {listed:Array Bool} {l:List AK} {D:List Deferred} {w:AH}
theorem ACw (i d:Nat) {o:Oper} {f:FuncId} {xs:Array Operand} {ts:Array Ae} {args:Array AK} {R:Ending->AH->Prop} (hr:Region.ready md ops listed=[i]) (hi:ops[i]? =some o) (hd:o.dst=some d) (hw:Region.wanted o (yielded ops l.toArray)=true)
 (ho:o.op=.call {callee:=.value (.func f),args:=xs,argTypes:=ts}) (he:Enters P f) (hc:AS P f args w R) (ha:xs.toList.map (Act.eval ⟨l.toArray,D⟩)=args.toList)
 (h:∀e w',R e w'->∃v,e=AV v/\S w'/\wpAnyH P md ops Q S fuel (listed.setIfInBounds i true) ⟨(l.set d v).toArray,D⟩ w'):wpAnyH P md ops Q S (fuel+1) listed ⟨l.toArray,D⟩ w:=by
 refine wpAnyH_all hr Ac fun j hj=> ?_;obtain rfl:j=i:=by simpa using hj
 unfold wpOp;rw [hi];simp only [hw,Ct];refine .inl ?_;exact AAa
end
theorem AB0 (v0 v1 v3 v4 v5 v6:AK) (A:Option Aa) (n c:Nat) (ns:List Nat) (r:CS) (w:AH) (hs:Ag 6 LG w (AA A n c) ns):
 AS prog 22 #[AO #[v0,v1,AA A n c,v3,v4,v5,v6],AO (rdA r)] w fun e w'=>e=AV (AX (GR (Bt ns r.schema) r.places))/\AJ w w':=by
 obtain ⟨sc,hsc1⟩:=Ab r.schema;obtain ⟨pl,oz⟩:=Ab r.places;rw [<-hsc1,<-oz];obtain ⟨R,hR⟩:=Ab (rdA r);obtain ⟨T,hT⟩:=Ab (#[v0,v1,AA A n c,v3,v4,v5,v6]);have HR2:AI (R[2]? =some (AB AE sc)):=AF (by rw [hR,rdA,hsc1,Ri Ac];rfl);have YH:AI (R[5]? =some (AB AE pl)):=AF (by rw [hR,rdA,oz,Ri Ac];rfl);rw [<-hR,<-hT];obtain ⟨HT,HS⟩:=Aj hT hs;obtain ⟨X,hX⟩:=Ab ((decide (0<=sc) && decide (sc < n)));have HNI:AI (false=(decide (0<=sc) && decide (sc < n))->Bt ns sc=none):=AF (fun h=>by
  unfold Bt;split
  ·rename_i h0
   rw [Bg h0,JI] at h;have h1:=Mu h.symm;have hl:=hs.len;exact DY AG
  · rfl)
 have IA:AI (∀W,AS prog 24 #[.agg T,AB AE sc] W fun e w'=>e=AV (AX X)/\AJ W w'):=AF (fun W=>by rw [hT,hX];exact Ts v0 v1 v3 v4 v5 v6 A n c sc W);clear hR hT hsc1 oz;go_enter func22,ntmps22;go_upto_region 1 with fail;have hwb:AJ w ((w.alloc (AQ T 32)).alloc (AQ R 36)):=((Af _ w).alloc (Ad _) _).alloc Ac _;have HB1:AI (AZ ((w.alloc (AQ T 32)).alloc (AQ R 36)) w.heap.size 32 T):=AF ((Mw _ _ _ Ac).trans (World.alloc_heap_new w _));have HB2:AI (AZ ((w.alloc (AQ T 32)).alloc (AQ R 36)) (w.heap.size+1) 36 R):=AF (by have:=World.alloc_heap_new (w.alloc (AQ T 32)) (AQ R 36);rwa [Eg] at this);have Cg:=AF hwb;clear hwb;generalize ((w.alloc (AQ T 32)).alloc (AQ R 36))=w4 at *;have hd:AJ w4 w4.drew:=(Af _ _).drew;have Q9:AI (∀W,AJ w4 W->(Instr.loadAt 32 (AU (some ⟨w.heap.size,0,none⟩))).run prog W=.ok (.agg T) W):=AF (fun W hW=>by simp only [Instr.loadAt,Instr.sureAddr,Cs,DL,Result.andThen_ok,Pn W w.heap.size 32 32 T (0,0) _ (HB1.o.below hW HB1.o.lt) underlying32 rfl (by rw [HT.o];kernel_rfl)])
 have HC2:AI (∀W,AJ w4 W->W.cell? ⟨w.heap.size+1,2,none⟩=some (AB AE sc)/\W.cell? ⟨w.heap.size+1,5,none⟩=some (AB AE pl)/\W.cell? ⟨w.heap.size,2,none⟩=some (AA A n c)):=AF (fun W hW=>by have b1:=HB1.o.below hW HB1.o.lt;have b2:=HB2.o.below hW HB2.o.lt;exact ⟨(b2.cell 2).trans HR2.o,(b2.cell 5).trans YH.o,(b1.cell 2).trans (by rw [HT.o];rfl)⟩)
 have DE:prog.follows .mixedOrders=true:=AL
 refine JA (fun W=>AJ w4 W) 29 _ DE AL rfl ?_;refine C9 0 5 AL rfl rfl Al hd rfl (v:=.agg T) (fun W hW=>Ch rfl AL (Q9.o W hW)) ?_;refine C9 1 6 AL rfl rfl Al hd rfl Bu ?_;refine C9 2 7 AL rfl rfl Al hd rfl Bu ?_;refine WJ 3 8 AL rfl rfl rfl rfl (enters_of func24 AL rfl) (IA.o w4.drew) AL ?_;rintro e w5 ⟨rfl,hb5⟩;have h5:AJ w4 w5:=hd.trans hb5;refine ⟨_,rfl,h5,?_⟩;have hq5:AJ w w5:=AW Cg.o h5;have Hm:=AF hX;clear hX;cases X with
 |
  false=>
  refine C9 4 9 AL rfl rfl Al h5 AL Bu ?_;refine FU 5 10 AL rfl rfl Al h5 AL ?_;refine FU 6 11 AL rfl rfl Al h5 AL ?_;refine FU 7 12 AL rfl rfl Al h5 AL ?_;refine C9 8 13 AL rfl rfl Al h5 AL Bu ?_;refine C9 9 14 AL rfl rfl Al h5 AL Bu ?_;refine FU 10 15 AL rfl rfl Al h5 AL ?_;refine FU 11 16 AL rfl rfl Al h5 AL ?_;refine FU 12 17 AL rfl rfl Al h5 AL ?_;refine C9 13 18 AL rfl rfl Al h5 AL Bu ?_;refine C9 14 19 AL rfl rfl Al h5 AL Bu ?_;refine FU 15 20 AL rfl rfl Al h5 AL ?_;refine FU 16 21 AL rfl rfl Al h5 AL ?_;refine FU 17 22 AL rfl rfl Al h5 AL ?_;refine FU 18 23 AL rfl rfl Al h5 AL ?_;refine FU 19 24 AL rfl rfl Al h5 AL ?_;refine FU 20 25 AL rfl rfl Al h5 AL ?_;refine FU 21 26 AL rfl rfl Al h5 AL ?_;refine FU 22 27 AL rfl rfl Al h5 AL ?_;refine FU 23 28 AL rfl rfl Al h5 AL ?_;refine FU 24 29 AL rfl rfl Al h5 AL ?_;refine FU 25 30 AL rfl rfl Al h5 AL ?_;refine FU 26 31 AL rfl rfl Al h5 AL ?_;refine C9 27 32 AL rfl rfl Al h5 AL Bu ?_;refine C9 28 4 AL rfl rfl Al h5 AL Bu ?_;refine Cx AL ?_ _;simp only [Bp,B9];go_wp2;go_ret;exact ⟨by rw [HNI.o Hm.o];rfl,hq5⟩
 |
  true=>
  have hin:0<=sc/\sc < n:=by have h:=Hm.o;rw [eq_comm,BZ,Yh,Yh] at h;exact h
  obtain ⟨k,rfl⟩:∃k:Nat,sc=(k:Int):=⟨sc.toNat,by omega⟩;have hk:k < n:=AG
  have hk1:(k:Int) < (n:Int):=AG
  have hk0:=Int.natCast_nonneg k
  obtain ⟨b,off,x,x0,x1,x2,x3,B,cc,x5,rfl,hb,hx,hxl,hone,hcell⟩:=Ni HS.o hk;have HN:AI (Bt ns k=some x):=AF su;have eJ:AI (∀W,AJ w4 W->(Instr.loadAt 79 (AU (some ⟨b,off+k*6,none⟩))).run prog W=.ok (AO #[x0,x1,x2,x3,AA B x cc,x5]) W):=AF (fun W hW=>by have hr:W.rangeAt b (off+k*6) [x0,x1,x2,x3,AA B x cc,x5]:=fun j v hj=>((AW Cg.o hW).cell (p:=⟨b,off+k*6+j,none⟩) hb).trans (hcell j v hj);simp only [Instr.loadAt,Instr.sureAddr,Cs,DL,Result.andThen_ok,RV W b (off+k*6) 79 _ _ hr underlying79 rfl AL])
  have HWD:AI (∀W,AS prog 25 #[AO #[x0,x1,x2,x3,AA B x cc,x5]] W fun e w'=>e=AV (AB AE ((x:Int)+4+1))/\AJ W w'):=AF (fun W=>S4 x0 x1 x2 x3 x5 B x cc W hxl);have hsz:(prog.info? 79).map (·.size)=some 6:=AL
  have CV:=AF hsz;clear hx hcell hone;by_cases h1:1<=pl
  ·by_cases h2:pl<=16
   ·have hmul:IntKind.i64.wrap (pl*((x:Int)+4+1))=pl*((x:Int)+4+1):=Bv _ (by
     have ha:0<=pl*((x:Int)+4+1):=JH AG AG;have hb:pl*((x:Int)+4+1)<=16*(140737488355328+4+1):=PZ h2 AG AG AG;omega)
    refine C9 4 9 AL rfl rfl Al h5 AL Bu ?_;refine C9 5 10 AL rfl rfl Al h5 AL Bu ?_;refine C9 6 11 AL rfl rfl Al h5 AL Bu ?_;refine C9 7 12 AL rfl rfl Al h5 AL (v:=AX true) Bu ?_;refine C9 8 13 AL rfl rfl Al h5 AL Bu ?_;refine C9 9 14 AL rfl rfl Al h5 AL Bu ?_;refine C9 10 15 AL rfl rfl Al h5 AL Bu ?_;refine C9 11 16 AL rfl rfl Al h5 AL Bu ?_;refine C9 12 17 AL rfl rfl Al h5 AL (v:=AX true) Bu ?_;refine C9 13 18 AL rfl rfl Al h5 AL Bu ?_;refine C9 14 19 AL rfl rfl Al h5 AL Bu ?_;refine C9 15 20 AL rfl rfl Al h5 AL Bu ?_;refine C9 16 21 AL rfl rfl Al h5 AL Bu ?_;refine C9 17 22 AL rfl rfl Al h5 AL Bu ?_;refine C9 18 23 AL rfl rfl Al h5 AL Bu ?_;refine C9 19 24 AL rfl rfl Al h5 AL Bu ?_;refine C9 20 25 AL rfl rfl Al h5 AL Bu ?_;refine C9 21 26 AL rfl rfl Al h5 AL Bu ?_;refine C9 22 27 AL rfl rfl Al h5 AL Bu ?_;refine C9 23 28 AL rfl rfl Al h5 AL (v:=AO #[x0,x1,x2,x3,AA B x cc,x5]) (fun W hW=>Ch rfl AL (eJ.o W hW)) ?_;refine ACw 24 29 AL rfl rfl AL rfl (enters_of func25 AL rfl) (HWD.o w5) AL ?_;rintro e w6 ⟨rfl,hb6⟩;have h6:AJ w4 w6:=AW h5 hb6;refine ⟨_,rfl,h6,?_⟩;refine C9 25 30 AL rfl rfl Al h6 AL (v:=AB AE (pl*((x:Int)+4+1))) fV ?_;refine C9 26 31 AL rfl rfl Al h6 AL (v:=AX (decide (pl*((x:Int)+4+1)<=256))) Bu ?_;refine C9 27 32 AL rfl rfl Al h6 AL Bu ?_;refine C9 28 4 AL rfl rfl Al h6 AL Bu ?_;refine Cx AL ?_ _;simp only [Bp,B9];go_wp2;go_ret;exact ⟨by rw [HN.o,GR,Bg h1,Bg h2];rfl,AW Cg.o h6⟩
   skip
   refine C9 4 9 AL rfl rfl Al h5 AL Bu ?_;refine C9 5 10 AL rfl rfl Al h5 AL Bu ?_;refine C9 6 11 AL rfl rfl Al h5 AL Bu ?_;refine C9 7 12 AL rfl rfl Al h5 AL (v:=AX true) Bu ?_;refine C9 8 13 AL rfl rfl Al h5 AL Bu ?_;refine C9 9 14 AL rfl rfl Al h5 AL Bu ?_;refine C9 10 15 AL rfl rfl Al h5 AL Bu ?_;refine C9 11 16 AL rfl rfl Al h5 AL Bu ?_;refine C9 12 17 AL rfl rfl Al h5 AL (v:=AX false) Bu ?_;refine C9 13 18 AL rfl rfl Al h5 AL Bu ?_;refine C9 14 19 AL rfl rfl Al h5 AL Bu ?_;refine FU 15 20 AL rfl rfl Al h5 AL ?_;refine FU 16 21 AL rfl rfl Al h5 AL ?_;refine FU 17 22 AL rfl rfl Al h5 AL ?_;refine FU 18 23 AL rfl rfl Al h5 AL ?_;refine FU 19 24 AL rfl rfl Al h5 AL ?_;refine FU 20 25 AL rfl rfl Al h5 AL ?_;refine FU 21 26 AL rfl rfl Al h5 AL ?_;refine FU 22 27 AL rfl rfl Al h5 AL ?_;refine FU 23 28 AL rfl rfl Al h5 AL ?_;refine FU 24 29 AL rfl rfl Al h5 AL ?_;refine FU 25 30 AL rfl rfl Al h5 AL ?_;refine FU 26 31 AL rfl rfl Al h5 AL ?_;refine C9 27 32 AL rfl rfl Al h5 AL Bu ?_;refine C9 28 4 AL rfl rfl Al h5 AL Bu ?_;refine Cx AL ?_ _;simp only [Bp,B9];go_wp2;go_ret;exact ⟨by rw [HN.o,GR,BO (by omega:¬pl<=16),YX];rfl,hq5⟩
  skip
  refine C9 4 9 AL rfl rfl Al h5 AL Bu ?_;refine C9 5 10 AL rfl rfl Al h5 AL Bu ?_;refine C9 6 11 AL rfl rfl Al h5 AL Bu ?_;refine C9 7 12 AL rfl rfl Al h5 AL (v:=AX false) Bu ?_;refine C9 8 13 AL rfl rfl Al h5 AL Bu ?_;refine C9 9 14 AL rfl rfl Al h5 AL Bu ?_;refine FU 10 15 AL rfl rfl Al h5 AL ?_;refine FU 11 16 AL rfl rfl Al h5 AL ?_;refine FU 12 17 AL rfl rfl Al h5 AL ?_;refine C9 13 18 AL rfl rfl Al h5 AL Bu ?_;refine C9 14 19 AL rfl rfl Al h5 AL Bu ?_;refine FU 15 20 AL rfl rfl Al h5 AL ?_;refine FU 16 21 AL rfl rfl Al h5 AL ?_;refine FU 17 22 AL rfl rfl Al h5 AL ?_;refine FU 18 23 AL rfl rfl Al h5 AL ?_;refine FU 19 24 AL rfl rfl Al h5 AL ?_;refine FU 20 25 AL rfl rfl Al h5 AL ?_;refine FU 21 26 AL rfl rfl Al h5 AL ?_;refine FU 22 27 AL rfl rfl Al h5 AL ?_;refine FU 23 28 AL rfl rfl Al h5 AL ?_;refine FU 24 29 AL rfl rfl Al h5 AL ?_;refine FU 25 30 AL rfl rfl Al h5 AL ?_;refine FU 26 31 AL rfl rfl Al h5 AL ?_;refine C9 27 32 AL rfl rfl Al h5 AL Bu ?_;refine C9 28 4 AL rfl rfl Al h5 AL Bu ?_;refine Cx AL ?_ _;simp only [Bp,B9];go_wp2;go_ret;exact ⟨by rw [HN.o,GR,BO (by omega:¬1<=pl)];rfl,hq5⟩
attribute [local go_sem] Oper.semAt_some
theorem X9 (v0 v1 v3 v4 v5 v6:AK) (A:Option Aa) (n c:Nat) (ns:List Nat) (k x:Nat) (B:Option Aa) (m mc:Nat) (vs:AP) (ck:Int) (val:Int->Int->Int->Bool) (w:AH) (hs:Ag 6 LG w (AA A n c) ns) (hx:ns[k]? =some x)
 (hv:Ag 1 CF w (AA B m mc) vs) (hK:Qm (AO #[v0,v1,AA A n c,v3,v4,v5]) (AO #[v0,v1,AA A n c,v3,v4,v5,v6]) ck val w):
 AS prog 43 #[AO #[v0,v1,AA A n c,v3,v4,v5,v6],AB AE k,AA B m mc] w fun e w'=>e=AV (AX (D4 x (val k) vs))/\AJ w w':=by
 have hk:k < n:=by rw [hs.len];exact (BA.1 hx).1
 have hk1:(k:Int) < (n:Int):=AG
 have hk0:=Int.natCast_nonneg k
 have hle:m<=9223372036854775807:=by have:=hv.le;omega
 have hlen:=hv.len;obtain ⟨b,off,x',x0,x1,x2,x3,C,cc,x5,rfl,hb,hx',hxl,hone,hcell⟩:=Ni hs hk;rw [hx] at hx';injection hx' with hx';subst hx';obtain ⟨T,hT⟩:=Ab (#[v0,v1,AA (some ⟨b,off,none⟩) n c,v3,v4,v5,v6]);obtain ⟨HT,HV,vE,HLEN⟩:=CJ hT hv hK hlen;have hc4:∀W,AJ w W->W.cell? ⟨b,off+k*6+4,none⟩=some (AA C x cc):=fun W hW=>(hW.cell (p:=⟨b,off+k*6+4,none⟩) hb).trans (hcell 4 _ rfl);have PR:=AF hc4;have hsz:(prog.info? 79).map (·.size)=some 6:=AL
 have CV:=AF hsz;rw [<-hT];clear hs hv hK hlen hcell hone hx hT hc4;go_enter func43,ntmps43;go_upto_region 1 with fail;have HB1:AI (AZ (w.alloc (AQ T 32)) w.heap.size 32 T):=AF (World.alloc_heap_new w _);have Cg:AI (AJ w (w.alloc (AQ T 32))):=AF ((Af _ w).alloc (Ad _) _);generalize (w.alloc (AQ T 32))=w4 at *;have c2:w4.cell? ⟨w.heap.size,2,none⟩=some (AA (some ⟨b,off,none⟩) n c):=(HB1.o.cell 2).trans (by rw [HT.o];rfl);have c4:=PR.o w4 Cg.o;by_cases hmx:m=x
 ·subst hmx
  go_wp2_with fail;clear c2 c4;obtain ⟨Z,hZ⟩:=Ab ((upto m).zip vs);have HZ:AI (∀(j:Nat) v,vs[j]? =some v->Z[j]? =some ((j:Int),v)):=AF (fun j v h=>by have hj:=(BA.1 h).1;rw [hZ,Ig];refine ⟨?_,h⟩;rw [upto,Be,Ly (by rw [HLEN.o];exact hj)];rfl)
  have Ib:AI (Z.length=m):=AF (by rw [hZ,List.length_zip,<-HLEN.o,upto,CX,Yf,Nat.min_self]);have NR:AI (D4 m (val k) vs=Z.all fun p=>val k p.1 p.2):=AF (by rw [D4,Bg (by rw [<-HLEN.o]:vs.length=m),JI,hZ]);clear hZ;have H0:AI (BK w.heap.size w4 w4):=AF (Af _ _);go_loopg [22] m (fun q i wr=>∃j:Nat,j<=m/\q=m - j/\i=AB AE j/\(Z.all fun p=>val k p.1 p.2)=((Z.drop j).all fun p=>val k p.1 p.2)/\AJ w4 wr)
  case atStart=>exact Li
  obtain ⟨j,hj,hq,rfl,hall,hbw⟩:=hrel;obtain ⟨HQ,EL,CY⟩:=Az hq hall hbw;have hvr:=(HV.o.mono BU (AW Cg.o hbw));clear hq hall hbw;by_cases hlt:j < m
  ·obtain ⟨fb,fo,v,rfl,hfb,hf,ef,_,_⟩:=ints_at hvr hlt
   have hj1:(j:Int) < (m:Int):=AG
   have hj0:(0:Int)<=(j:Int):=AG
   have hdr:Z.drop j=((j:Int),v)::Z.drop (j+1):=by have hz:=HZ.o j v hf;have hkl:=(BA.1 hz).1;rw [UR hkl];rw [BJ hkl] at hz;injection hz with hz;rw [hz]
   have HDR:AI ((Z.all fun p=>val k p.1 p.2)=(val k j v && (Z.drop (j+1)).all fun p=>val k p.1 p.2)):=AF (by rw [EL.o,hdr];rfl);obtain ⟨Y,hY⟩:=Ab (val k j v);rw [<-hY] at HDR;have HCV:AI (∀W,AJ w4 W->AS prog 32 #[AO #[v0,v1,AA (some ⟨b,off,none⟩) n c,v3,v4,v5],AB AE k,AB AE j,AB AE v] W fun e w'=>e=AV (AX Y)/\AJ W w'):=AF (fun W hW=>by rw [hY];exact vE.o.val k j v W (AW Cg.o hW));have Oa:AI (wr.rangeAt w.heap.size 0 [v0,v1,AA (some ⟨b,off,none⟩) n c,v3,v4,v5]):=AF (fun q u hu=>by
    have b1:=HB1.o.below CY.o HB1.o.lt;have hq6:q < 6:=(BA.1 hu).1;rw [Ex];refine (b1.cell q).trans ?_;rw [HT.o,Ai,<-hu];rcases q with _ | _ | _ | _ | _ | _ | q
    all_goals first | rfl | omega)
   have d0:wr.cell? ⟨w.heap.size,0,none⟩=some v0:=by simpa using Oa.o 0 _ rfl
   have d1:wr.cell? ⟨w.heap.size,1,none⟩=some v1:=by simpa using Oa.o 1 _ rfl
   have d2:wr.cell? ⟨w.heap.size,2,none⟩=some (AA (some ⟨b,off,none⟩) n c):=by simpa using Oa.o 2 _ rfl
   have d3:wr.cell? ⟨w.heap.size,3,none⟩=some v3:=by simpa using Oa.o 3 _ rfl
   have d4:wr.cell? ⟨w.heap.size,4,none⟩=some v4:=by simpa using Oa.o 4 _ rfl
   have d5:wr.cell? ⟨w.heap.size,5,none⟩=some v5:=by simpa using Oa.o 5 _ rfl
   clear hf hdr hY hvr;cases Y with
   |
    false=>
    go_wp2_with (first
     | (
      go_at_call 32;refine (HCV.o _ CY.o).mono ?_;rintro e w6 ⟨rfl,hb6⟩;have FK:=AF hb6;clear hb6))
    go_ret;exact ⟨by rw [NR.o,HDR.o];rfl,AW Cg.o (AW CY.o FK.o)⟩
   |
    true=>
    go_wp2_with (first
     | (
      go_at_call 32;refine (HCV.o _ CY.o).mono ?_;rintro e w6 ⟨rfl,hb6⟩;have FK:=AF (AW CY.o hb6);clear hb6))
    go_roundg (m - (j+1))
    case measure=>exact Bc
    case rel=>exact ⟨j+1,hlt,rfl,rfl,by rw [HDR.o,JI],FK.o⟩
  have hjm:j=m:=AG
  subst hjm;go_wp2;go_ret;have e:Z.drop j=[]:=EV (by rw [Ib.o];exact Ad _);exact ⟨by rw [NR.o,EL.o,e];rfl,AW Cg.o CY.o⟩
 have hne:¬(m:Int)=(x:Int):=AG
 go_wp2;go_ret;exact ⟨by rw [D4,BO (by rw [<-HLEN.o];exact hmx)];rfl,Cg.o⟩
attribute [local go_sem] Oper.semAt_some
def Uf (ck:Int) (nf:Option Nat):Int×Int:=if ck≠0 then (0,160) else match nf with
 | none=>(0,1)
 | some n=>((n:Int)+4+1,0)
theorem YD (v0 v1 v3 v4 v5 v6:AK) (A:Option Aa) (n c:Nat) (ns:List Nat) (i:Int) (ck:Int) (val:Int->Int->Int->Bool) (w:AH) (hs:Ag 6 LG w (AA A n c) ns)
 (hK:Qm (AO #[v0,v1,AA A n c,v3,v4,v5]) (AO #[v0,v1,AA A n c,v3,v4,v5,v6]) ck val w):
 AS prog 8 #[AO #[v0,v1,AA A n c,v3,v4,v5,v6],AB AE i] w fun e w'=>e=AV (.tuple #[AB AE (Uf ck (Bt ns i)).1,AB AE (Uf ck (Bt ns i)).2])/\AJ w w':=by
 have HS:=AF hs;obtain ⟨X,hX⟩:=Ab ((decide (0<=i) && decide (i < n)));have Mr:=AF hK.chk;have IA:AI (∀W,AS prog 24 #[AO #[v0,v1,AA A n c,v3,v4,v5,v6],AB AE i] W fun e w'=>e=AV (AX X)/\AJ W w'):=AF (fun W=>by rw [hX];exact Ts v0 v1 v3 v4 v5 v6 A n c i W);have HX:=AF hX;clear hs hX hK;go_enter func8,ntmps8;go_upto_region 1 with fail;have HB1:AI (AZ (w.alloc (AQ #[v0,v1,AA A n c,v3,v4,v5,v6] 32)) w.heap.size 32 #[v0,v1,AA A n c,v3,v4,v5,v6]):=AF (World.alloc_heap_new w _);have Cg:AI (AJ w (w.alloc (AQ #[v0,v1,AA A n c,v3,v4,v5,v6] 32))):=AF ((Af _ w).alloc (Ad _) _);generalize (w.alloc (AQ #[v0,v1,AA A n c,v3,v4,v5,v6] 32))=w4 at *;have HD:AI (∀W,AJ w4 W->W.cell? ⟨w.heap.size,0,none⟩=some v0/\W.cell? ⟨w.heap.size,1,none⟩=some v1/\W.cell? ⟨w.heap.size,2,none⟩=some (AA A n c)/\W.cell? ⟨w.heap.size,3,none⟩=some v3/\W.cell? ⟨w.heap.size,4,none⟩=some v4/\W.cell? ⟨w.heap.size,5,none⟩=some v5/\W.cell? ⟨w.heap.size,6,none⟩=some v6):=AF (fun W hW=>by have b:=HB1.o.below hW HB1.o.lt;exact Wo)
 obtain ⟨d0,d1,d2,d3,d4,d5,d6⟩:=HD.o w4 (Af _ _);by_cases hck:ck=0
 ·subst hck
  go_upto_region 3 with (first
   | (
    go_at_call 17;refine (Mr.o _ Cg.o).mono ?_;rintro e w5 ⟨rfl,hb5⟩;obtain ⟨c0,c1,c2,c3,c4,c5,c6⟩:=HD.o w5 hb5;have CW:=AF hb5;clear hb5 d0 d1 d2 d3 d4 d5 d6))
  cases X with
  |
   false=>
   have Hm:AI (Bt ns i=none):=AF (by
    have h:=HX.o;unfold Bt;split
    ·rename_i h0
     rw [Bg h0,JI] at h;have h1:=Mu h.symm;have hl:=HS.o.len;exact DY AG
    · rfl)
   clear HX;go_wp2_with (first
    | (
     go_at_call 24;refine (IA.o _).mono ?_;rintro e w6 ⟨rfl,hb6⟩;have FK:=AF (AW CW.o hb6);clear hb6))
   go_ret2;exact ⟨by rw [Hm.o];rfl,AW Cg.o FK.o⟩
  |
   true=>
   have hin:0<=i/\i < n:=by have h:=HX.o;rw [eq_comm,BZ,Yh,Yh] at h;exact h
   obtain ⟨k,rfl⟩:∃k:Nat,i=(k:Int):=⟨i.toNat,by omega⟩;have hk:k < n:=AG
   have hk1:(k:Int) < (n:Int):=AG
   have hk0:=Int.natCast_nonneg k
   obtain ⟨b,off,x,x0,x1,x2,x3,B,cc,x5,rfl,hb,hx,hxl,hone,hcell⟩:=Ni HS.o hk;have Hm:AI (Bt ns k=some x):=AF su;have HWD:AI (∀W,AS prog 25 #[AO #[x0,x1,x2,x3,AA B x cc,x5]] W fun e w'=>e=AV (AB AE ((x:Int)+4+1))/\AJ W w'):=AF (fun W=>S4 x0 x1 x2 x3 x5 B x cc W hxl);have HC:AI (∀W,AJ w W->∀j v,[x0,x1,x2,x3,AA B x cc,x5][j]? =some v->W.cell? ⟨b,off+k*6+j,none⟩=some v):=AF (fun W hW j v hj=>(hW.cell (p:=⟨b,off+k*6+j,none⟩) hb).trans (hcell j v hj));have hsz:(prog.info? 79).map (·.size)=some 6:=AL
   have CV:=AF hsz;clear hx hcell hone HX hin;go_wp2_with (first
    | (
     go_at_call 24;refine (IA.o _).mono ?_;rintro e w6 ⟨rfl,hb6⟩;have FK:=AF (AW CW.o hb6);have g2:=(HD.o w6 FK.o).2.2.1;have e0:w6.cell? ⟨b,off+k*6,none⟩=some x0:=HC.o w6 (AW Cg.o FK.o) 0 _ rfl;have e1:=HC.o w6 (AW Cg.o FK.o) 1 _ rfl;have e2:=HC.o w6 (AW Cg.o FK.o) 2 _ rfl;have e3:=HC.o w6 (AW Cg.o FK.o) 3 _ rfl;have e4:=HC.o w6 (AW Cg.o FK.o) 4 _ rfl;have e5:=HC.o w6 (AW Cg.o FK.o) 5 _ rfl;clear hb6 c0 c1 c2 c3 c4 c5 c6)
    | (
     go_at_call 25;refine (HWD.o _).mono ?_;rintro e w7 ⟨rfl,hb7⟩;have ET:=AF (AW FK.o hb7);clear hb7))
   go_ret2;exact ⟨by rw [Hm.o];rfl,AW Cg.o ET.o⟩
 go_wp2_with (first
  | (
   go_at_call 17;refine (Mr.o _ Cg.o).mono ?_;rintro e w5 ⟨rfl,hb5⟩;have CW:=AF (AW Cg.o hb5);clear hb5))
 go_ret2;exact ⟨by simp only [Uf,ne_eq,hck,not_false_eq_true,Ct];rfl,CW.o⟩
theorem oX:(prog.info? 3).map (fun i=>(i.zero,i.size,i.bytes))=some (some (AB AE 0),1,8):=by kernel_rfl
theorem au {α:Type} {R:AH->List AK->α->Prop} (hone:One R) (A:Option Aa) (n c:Nat) (l:List α) (w:AH) (hs:Ag 1 R w (AA A n c) l) (hbd:l.length*8<=140737488355328):
 AS prog 39 #[AA A n c] w fun e w'=>∃v cs,e=AV v/\Ao 1 R w cs l/\w'.ownsRow w.heap.size 3 1 v l.length cs/\AJ w w':=by
 have hlen:=hs.len;have HS:=AF hs;clear hs;rcases A with _ | ad
 ·have hl:l=[]:=by
   cases l with
   | nil=>rfl
   | cons x r=>obtain ⟨b,off,x,cs,e,_⟩:=HS.o.at_ (k:=0) (by rw [hlen];simp);cases e
  subst hl;obtain rfl:n=0:=by simpa using hlen
  clear hlen hbd;have hnil:=fun w:AH=>Lib.run_eql_slice_nil (P:=prog) w 30 3 none 0 c 0 0 underlying30;simp only [Option.isNone_none] at hnil;go_enter func39,ntmps39
  exact zk
 obtain ⟨i0,hi,hz0,hz1,hz2⟩:=JF oX;have HLEN:=AF hlen;clear hlen;have hnb:n*8<=140737488355328:=by rw [HLEN.o];exact hbd
 have hnil:=fun w:AH=>Lib.run_eql_slice_nil (P:=prog) w 30 3 (some ad) n c 0 0 underlying30;simp only [Option.isNone_some] at hnil;go_enter func39,ntmps39;go_wp2_with (at_builtin;refine Cb _ rfl (.tmp 5) (.tmp 6) 30 3 rfl i0 _ 8 underlying30 hi hz0 hz1 hz2 rfl BE (R:=fun _=>R w) (fun _=>hone w) w.heap.size (AA (some ⟨w.heap.size,0,none⟩) 0 0) 0 [] rfl (World.ownsRow_lit w #[] 0 (Ad _) (Ar _) rfl) (some ad) n c l rfl (HS.o.fix (BP _ _)) Gj AG Ac ?_;intro v' w1 cs hcs hown hgr hat);exact vR
theorem ABn:(prog.info? 34).map (fun i=>(i.zero,i.size,i.bytes))=some (some (AO (yA (zeros 32))),32,32):=by kernel_rfl
theorem AEg {α:Type} {R:AH->List AK->α->Prop} (hone:One R) (A:Option Aa) (n c:Nat) (l:List α) (w:AH) (hs:Ag 32 R w (AA A n c) l) (hbd:l.length*32<=140737488355328):
 AS prog 48 #[AA A n c] w fun e w'=>∃v cs,e=AV v/\Ao 32 R w cs l/\w'.ownsRow w.heap.size 34 32 v l.length cs/\AJ w w':=by
 have hlen:=hs.len;have HS:=AF hs;clear hs;rcases A with _ | ad
 ·have hl:l=[]:=by
   cases l with
   | nil=>rfl
   | cons x r=>obtain ⟨b,off,x,cs,e,_⟩:=HS.o.at_ (k:=0) (by rw [hlen];simp);cases e
  subst hl;obtain rfl:n=0:=by simpa using hlen
  clear hlen hbd;have hnil:=fun w:AH=>Lib.run_eql_slice_nil (P:=prog) w 37 34 none 0 c 0 0 underlying37;simp only [Option.isNone_none] at hnil;go_enter func48,ntmps48
  exact zk
 obtain ⟨i0,hi,hz0,hz1,hz2⟩:=JF ABn;have HLEN:=AF hlen;clear hlen;have hnb:n*32<=140737488355328:=by rw [HLEN.o];exact hbd
 have hnil:=fun w:AH=>Lib.run_eql_slice_nil (P:=prog) w 37 34 (some ad) n c 0 0 underlying37;simp only [Option.isNone_some] at hnil;go_enter func48,ntmps48;go_wp2_with (at_builtin;refine Cb _ rfl (.tmp 5) (.tmp 6) 37 34 rfl i0 _ 32 underlying37 hi hz0 hz1 hz2 rfl BE (R:=fun _=>R w) (fun _=>hone w) w.heap.size (AA (some ⟨w.heap.size,0,none⟩) 0 0) 0 [] rfl (World.ownsRow_lit w #[] 0 (Ad _) (Ar _) rfl) (some ad) n c l rfl (HS.o.fix (BP _ _)) Gj AG Ac ?_;intro v' w1 cs hcs hown hgr hat);exact vR
def veil (S:List Nat) (w:AH):AH:={w with heap:=w.heap.mapIdx (fun b o=>if b∈S then .cells #[] 0 else o)}
section
variable {S S':List Nat} {w w' w0:AH}
theorem Dz:(veil S w).heap.size=w.heap.size:=by simp [veil]
theorem J6 {b:Nat} (h:b∉S):(veil S w).heap[b]? =w.heap[b]? :=by
 simp only [veil,Rf];cases w.heap[b]? with
 | none=>rfl
 | some o=>rw [Cu,Ah h]
theorem R6 {b:Nat} (h:b∈S) (hb:b < w.heap.size):(veil S w).heap[b]? =some (AQ #[] 0):=by simp only [veil,Rf];rw [Yv hb,Cu,Am h]
theorem S5 {b o:Nat} {v:AK} (h:(veil S w).cell? ⟨b,o,none⟩=some v):w.cell? ⟨b,o,none⟩=some v:=by
 by_cases hb:b∈S
 ·exfalso
  by_cases hs:b < w.heap.size
  · simp [World.cell?,R6 (w:=w) hb hs] at h
  have:(veil S w).heap[b]? =none:=by rw [M0];rw [Dz];omega
  simp [World.cell?,this] at h
 rw [<-h];exact (Lz (J6 hb)).symm
def uk {α:Type} (R:AH->List AK->α->Prop):Prop:=∀(S:List Nat) (w:AH) (cs:List AK) (x:α),R (veil S w) cs x->R w cs x
theorem Ag.WC {α:Type} {sz:Nat} {R:AH->List AK->α->Prop} (hR:uk R) {v:AK} {l:List α} (h:Ag sz R (veil S w) v l):Ag sz R w v l:=by obtain ⟨A,cap,e,h1,h2,h3⟩:=h;refine ⟨A,cap,e,h1,h2,fun i x hi=> ?_⟩;obtain ⟨b,off,cs,rfl,hlt,hl,hc,hr⟩:=h3 i x hi;exact ⟨b,off,cs,rfl,by rwa [Dz] at hlt,hl,fun j u hu=>S5 (hc j u hu),hR _ _ _ _ hr⟩
theorem Ao.WC {α:Type} {sz:Nat} {R:AH->List AK->α->Prop} (hR:uk R) {cs:List AK} {l:List α} (h:Ao sz R (veil S w) cs l):Ao sz R w cs l:=⟨h.1,fun i x hi=>hR _ _ _ _ (h.2 i x hi)⟩
theorem IB {row:Option Nat} (hg:w.grownBy w' row) (hr:∀r,row=some r->r < w.heap.size->r∈S) (hS:∀b,b < w.heap.size->(b∈S'↔b∈S)):BK (veil S w).heap.size (veil S w) (veil S' w'):=by
 refine ⟨hg.os,hg.tape,hg.output,by rw [Dz,Dz];exact hg.size,fun k hk=> ?_⟩;rw [Dz] at hk;by_cases hb:k∈S
 · rw [R6 hb hk,R6 ((hS k hk).2 hb) (Ay hk hg.size)]
 rw [J6 hb,J6 (fun h=>hb ((hS k hk).1 h))];exact hg.block k hk (fun e=>hb (hr k e.symm hk))
theorem M3 (hb:AJ w w'):BK (veil S w).heap.size (veil S w) (veil S w'):=
 IB (row:=none) ⟨hb.os,hb.tape,hb.output,hb.size,fun k hk _=>hb.block k hk⟩ Ac (fun _ _=>Iff.rfl)
theorem R5 {base:Nat} {e:Ae} {sz:Nat} {v:AK} {n:Nat} {cs:List AK} (h:w.ownsRow base e sz v n cs) (hS:∀b∈S,b < base):(veil S w).ownsRow base e sz v n cs:=by
 refine ⟨h.1,?_⟩;rcases h.2 with h | ⟨g,cap,cur,h1,h2,h3,h4⟩
 · exact .inl h
 · exact .inr ⟨g,cap,cur,h1,h2,(J6 (fun hm=>by have:=hS g hm;omega)).trans h3,h4⟩
theorem AC5 {base:Nat} {e:Ae} {sz:Nat} {v:AK} {n:Nat} {cs:List AK} (h:w.ownsRow base e sz v n cs):(v=AA none 0 0/\n=0)\/∃g cap,v=AA (some ⟨g,0,none⟩) n cap/\base<=g/\g < w.heap.size:=by
 rcases h.2 with ⟨rfl,h0⟩ | ⟨g,cap,cur,rfl,h2,h3,h4,h5,_⟩
 · exact .inl ⟨rfl,h0⟩
 · exact .inr ⟨g,cap,rfl,h2,(Cz.1 h3).1⟩
def RM {α:Type} (L:Nat) (T:Ae) (sz:Nat) (R:AH->List AK->α->Prop) (v:AK) (l:List α) (w:AH):Prop:=
 ∃cs S,w.ownsRow L T sz v l.length cs/\(∀r,v.ownBlock=some r->r∈S)/\(∀b∈S,L<=b/\b < w.heap.size)/\Ao sz R (veil S w) cs l
variable {α:Type} {L:Nat} {T:Ae} {sz:Nat} {R:AH->List AK->α->Prop} {v:AK} {l:List α}
theorem RM.below (h:RM L T sz R v l w) (hR:Ea R) (hb:AJ w w'):RM L T sz R v l w':=by obtain ⟨cs,S,h1,h2,h3,h4⟩:=h;exact ⟨cs,S,EX h1 hb,h2,fun b hm=>⟨(h3 b hm).1,Ay (h3 b hm).2 hb.size⟩,h4.mono hR (M3 hb)⟩
theorem RM.form (h:RM L T sz R v l w):∃A c,v=AA A l.length c:=by
 obtain ⟨cs,S,h1,_⟩:=h;rcases AC5 h1 with ⟨rfl,h0⟩ | ⟨g,cap,rfl,_⟩
 · exact ⟨none,0,by rw [h0]⟩
 · exact ⟨_,cap,rfl⟩
theorem RM.sl (h:RM L T sz R v l w) (hR:uk R):Ag sz R w v l:=by obtain ⟨cs,S,h1,h2,h3,h4⟩:=h;exact CP h1 (h4.WC hR) rfl
theorem RM.push {cs:List AK} (h2:∀r,v.ownBlock=some r->r∈S) (h3:∀b∈S,L<=b/\b < w.heap.size) (hc:Ao sz R (veil S w) cs l) (hR:Ea R) {v':AK} {news:List AK} {r:List α} {n:Nat}
 (hown:w'.ownsRow L T sz v' n (cs++news)) (hn:n=(l++r).length) (hg:w.grownBy w' v.ownBlock) (hat:v'.ownBlock=v.ownBlock\/v'.ownBlock=some w.heap.size) (hL:L<=w.heap.size) (hx:Ao sz R (veil S w) news r):RM L T sz R v' (l++r) w':=by
 have hlt:∀r,v'.ownBlock=some r->r < w'.heap.size:=fun r e=>(hown.lt r e).2;subst hn;rcases hat with hat | hat
 ·refine ⟨_,S,hown,fun r e=>h2 r (by rw [<-hat];exact e),fun b hm=>⟨(h3 b hm).1,Ay (h3 b hm).2 hg.size⟩,?_⟩
  have hb:=IB (S:=S) (S':=S) hg (fun r e _=>h2 r e) (fun _ _=>Iff.rfl);exact (hc.mono hR hb).append (hx.mono hR hb)
 refine ⟨_,w.heap.size::S,hown,fun r e=>by rw [hat] at e;injection e with e;simp [e],fun b hm=> ?_,?_⟩
 ·rcases CO.1 hm with rfl | hm
  · exact ⟨hL,hlt _ hat⟩
  · exact ⟨(h3 b hm).1,Ay (h3 b hm).2 hg.size⟩
 have hb:=IB (S:=S) (S':=w.heap.size::S) hg (fun r e _=>h2 r e) (fun b hlt=>by rw [CO];exact Wn)
 exact (hc.mono hR hb).append (hx.mono hR hb)
end
def Dc (w:AH) (cs:List AK) (q:Cd):Prop:=∃A n c B m d,cs=[AB AE q.index,AA A n c,AA B m d]/\Ag 32 CQ w (AA A n c) q.chains/\Ag 32 CQ w (AA B m d) q.path
theorem CD:Ea Dc:=fun w w' hb cs q h=>by obtain ⟨A,n,c,B,m,d,e,h1,h2⟩:=h;exact ⟨A,n,c,B,m,d,e,h1.mono BL hb,h2.mono BL hb⟩
theorem Vv:uk CQ:=fun _ _ _ _ h=>h
theorem Vh:uk CF:=fun _ _ _ _ h=>h
theorem jI:uk Dc:=fun S w cs q h=>by obtain ⟨A,n,c,B,m,d,e,h1,h2⟩:=h;exact ⟨A,n,c,B,m,d,e,h1.WC Vv,h2.WC Vv⟩
theorem P2 {W:AH} {A:Option Aa} {n c k:Nat} {l:List Cd} (h:Ag 3 Dc W (AA A n c) l) (hk:k < n):
 ∃b off q B m d C i j,A=some ⟨b,off,none⟩/\b < W.heap.size/\l[k]? =some q/\Ag 32 CQ W (AA B m d) q.chains/\Ag 32 CQ W (AA C i j) q.path/\∀j' v,[Value.int .i64 q.index,AA B m d,AA C i j][j']? =some v->W.cell? ⟨b,off+k*3+j',none⟩=some v:=by
 obtain ⟨b,off,q,cs,rfl,hb,hq,hl,hc,B,m,d,C,i,j,rfl,h1,h2⟩:=h.at_ hk;exact ⟨b,off,q,B,m,d,C,i,j,rfl,hb,hq,h1,h2,fun j' v hv=>by rw [L0];exact hc j' v hv⟩
theorem Ou {l:AP} (h:l.length=32):l=[l.getD 0 0,l.getD 1 0,l.getD 2 0,l.getD 3 0,l.getD 4 0,l.getD 5 0,l.getD 6 0,l.getD 7 0,l.getD 8 0,l.getD 9 0,l.getD 10 0,l.getD 11 0,l.getD 12 0,l.getD 13 0,l.getD 14 0,l.getD 15 0,l.getD 16 0,l.getD 17 0,l.getD 18 0,l.getD 19 0,l.getD 20 0,l.getD 21 0,l.getD 22 0,l.getD 23 0,l.getD 24 0,l.getD 25 0,l.getD 26 0,l.getD 27 0,l.getD 28 0,l.getD 29 0,l.getD 30 0,l.getD 31 0]:=by
 apply Ms;intro i;by_cases hi:i < 32
 ·have e:l[i]? =some (l.getD i 0):=by rw [C0,BJ AG];rfl
  rw [e];clear e;rcases i with _ | _ | _ | _ | _ | _ | _ | _ | _ | _ | _ | _ | _ | _ | _ | _ | _ | _ | _ | _ | _ | _ | _ | _ | _ | _ | _ | _ | _ | _ | _ | _ | i
  all_goals first | rfl | omega
 · rw [DY AG,DY BX]
def SB (s:Iq):List AK:=[Value.int .i64 s.Au,Value.int .i64 s.round,Value.int .i64 s.schema,Value.int .i64 s.place]++s.holder.map (Value.int .u8)++[s.fields,s.values,Value.int .i64 s.link]++s.token.map (Value.int .u8)++[s.claims]
def Et (s:Iq):Array AK:=(SB s).toArray
theorem cR (s:Iq):I9 s=Et s++#[s.links,s.tokens,AB AE s.width,AB AE s.present]:=by simp [I9,shL,Et,SB]
theorem Iw {s:Iq} (h:s.holder.length=32) (t:s.token.length=32):(Et s).size=72:=by simp [Et,SB,h,t]
theorem Pu {s:Iq} (h:s.holder.length=32) (t:s.token.length=32):(I9 s).size=76:=by rw [cR,UU,Iw h t];rfl
structure Tg where
 Au:Int
 round:Int
 schema:Int
 place:Int
 holder:AP
 values:AK
 links:AK
 claims:AK
def jb (c:Tg):List AK:=[Value.int .i64 c.Au,Value.int .i64 c.round,Value.int .i64 c.schema,Value.int .i64 c.place]++c.holder.map (Value.int .u8)++[c.values,c.links,c.claims]
def Hf (c:Tg):Array AK:=(jb c).toArray
theorem N2 {c:Tg} (h:c.holder.length=32):(Hf c).size=39:=by simp [Hf,jb,h]
structure CpB (W:AH) (g:Nat) (c:Tg):Prop where
 Au:W.cell? ⟨g,0,none⟩=some (AB AE c.Au)
 round:W.cell? ⟨g,1,none⟩=some (AB AE c.round)
 schema:W.cell? ⟨g,2,none⟩=some (AB AE c.schema)
 place:W.cell? ⟨g,3,none⟩=some (AB AE c.place)
 holder:W.rangeAt g 4 (c.holder.map (Value.int .u8))
 values:W.cell? ⟨g,36,none⟩=some c.values
 links:W.cell? ⟨g,37,none⟩=some c.links
 claims:W.cell? ⟨g,38,none⟩=some c.claims
theorem Nh {W:AH} {g:Nat} {t:Ae} {c:Tg} (h:AZ W g t (Hf c)) (hh:c.holder.length=32):CpB W g c:=by
 have hc:∀i,W.cell? ⟨g,i,none⟩=(jb c)[i]? :=fun i=>by rw [h.cell,Hf,Ai]
 have Zc:∀k,W.cell? ⟨g,36+k,none⟩=[c.values,c.links,c.claims][k]? :=fun k=>by rw [hc,jb,Cf (by simp [hh])];simp [hh]
 refine ⟨by rw [hc];rfl,by rw [hc];rfl,by rw [hc];rfl,by rw [hc];rfl,fun j v hj=> ?_,Zc 0,Zc 1,Zc 2⟩;have hl:j < 32:=by have:=(BA.1 hj).1;simpa [hh] using this
 rw [hc,jb,EF UY,Cf Ac];simpa using hj
structure SwB (W:AH) (g:Nat) (s:Iq):Prop where
 Au:W.cell? ⟨g,0,none⟩=some (AB AE s.Au)
 round:W.cell? ⟨g,1,none⟩=some (AB AE s.round)
 schema:W.cell? ⟨g,2,none⟩=some (AB AE s.schema)
 place:W.cell? ⟨g,3,none⟩=some (AB AE s.place)
 fields:W.cell? ⟨g,36,none⟩=some s.fields
 values:W.cell? ⟨g,37,none⟩=some s.values
 link:W.cell? ⟨g,38,none⟩=some (AB AE s.link)
 token:W.rangeAt g 39 (s.token.map (Value.int .u8))
 claims:W.cell? ⟨g,71,none⟩=some s.claims
theorem IQ {W:AH} {g:Nat} {t:Ae} {s:Iq} (h:AZ W g t (Et s)) (hh:s.holder.length=32) (ht:s.token.length=32):SwB W g s:=by
 have hc:∀i,W.cell? ⟨g,i,none⟩=(SB s)[i]? :=fun i=>by rw [h.cell,Et,Ai]
 have Zc:∀k,k < 3->W.cell? ⟨g,36+k,none⟩=[s.fields,s.values,AB AE s.link][k]? :=fun k hk=>by rw [hc,SB,EF Yy,EF UY,Cf (by simp [hh])];simp [hh]
 refine ⟨by rw [hc];rfl,by rw [hc];rfl,by rw [hc];rfl,by rw [hc];rfl,Zc 0 AG,Zc 1 AG,Zc 2 AG,fun j v hj=> ?_,?_⟩
 ·have hl:j < 32:=by have:=(BA.1 hj).1;simpa [ht] using this
  rw [hc,SB,EF Yy,Cf (by simp [hh])];simpa [hh] using hj
 rw [hc,SB,Cf (by simp [hh,ht])];simp [hh,ht]
theorem gN (k:IntKind) (x:Int):(Value.int k x).oneCell'=true:=rfl
theorem U0 {c:Tg} (h1:c.values.oneCell'=true) (h2:c.links.oneCell'=true) (h3:c.claims.oneCell'=true):(Hf c).all (·.oneCell')=true:=by simp [Hf,jb,h1,h2,h3,gN]
theorem Uj {s:Iq} (h1:s.fields.oneCell'=true) (h2:s.values.oneCell'=true) (h3:s.claims.oneCell'=true):(Et s).all (·.oneCell')=true:=by simp [Et,SB,h1,h2,h3,gN]
theorem Y4 {s:Iq} (h1:s.fields.oneCell'=true) (h2:s.values.oneCell'=true) (h3:s.claims.oneCell'=true) (h4:s.links.oneCell'=true) (h5:s.tokens.oneCell'=true):(I9 s).all (·.oneCell')=true:=by rw [cR,Array.all_append,Uj h1 h2 h3];simp [h4,h5,gN]
theorem iB:(prog.info? 48).map (·.size)=some 39:=by kernel_rfl
theorem fh:(prog.info? 44).map (·.size)=some 72:=by kernel_rfl
theorem ACm:(prog.info? 88).map (·.size)=some 76:=by kernel_rfl
theorem sI (i r s p:Int) {h:AP} (hh:h.length=32) (VA KA:Option Aa) (vn vc kn kc:Nat):prog.built 44 [(0,AB AE i),(1,AB AE r),(2,AB AE s),(3,AB AE p),(4,AO (yA h)),(6,AA VA vn vc),(9,AA KA kn kc)]=some (Et ⟨i,r,s,p,h,AA none 0 0,AA VA vn vc,0,zeros 32,AA KA kn kc,AA none 0 0,AA none 0 0,0,0⟩):=by rw [Ou hh];kernel_rfl
theorem yJ (i r s p l:Int) {h:AP} (hh:h.length=32) (FA:Option Aa) (fn fc:Nat):prog.built 44 [(0,AB AE i),(1,AB AE r),(2,AB AE s),(3,AB AE p),(4,AO (yA h)),(5,AA FA fn fc),(7,AB AE l)]=some (Et ⟨i,r,s,p,h,AA FA fn fc,AA none 0 0,l,zeros 32,AA none 0 0,AA none 0 0,AA none 0 0,0,0⟩):=by rw [Ou hh];kernel_rfl
theorem yK (i r s p:Int) {h:AP} (hh:h.length=32) (VA LA:Option Aa) (vn vc ln lc:Nat):prog.built 48 [(0,AB AE i),(1,AB AE r),(2,AB AE s),(3,AB AE p),(4,AO (yA h)),(5,AA VA vn vc),(6,AA LA ln lc)]=some (Hf ⟨i,r,s,p,h,AA VA vn vc,AA LA ln lc,AA none 0 0⟩):=by rw [Ou hh];kernel_rfl
theorem AEi (x:Iq) (hh:x.holder.length=32) (ht:x.token.length=32) (a b:Int):prog.built 88 [(0,AO (Et x)),(3,AB AE a),(4,AB AE b)]=some (I9 {x with links:=AA none 0 0,tokens:=AA none 0 0,width:=a,present:=b}):=by
 obtain ⟨i,r,s,p,h,f,v,l,t,k,_,_,_,_⟩:=x
 dsimp only at hh ht
 exact Rq
theorem ACB (x:Iq) (hh:x.holder.length=32) (ht:x.token.length=32) (TA:Option Aa) (tn tc:Nat) (a b:Int):prog.built 88 [(0,AO (Et x)),(2,AA TA tn tc),(3,AB AE a),(4,AB AE b)]=some (I9 {x with links:=AA none 0 0,tokens:=AA TA tn tc,width:=a,present:=b}):=by
 obtain ⟨i,r,s,p,h,f,v,l,t,k,_,_,_,_⟩:=x
 dsimp only at hh ht
 exact Rq
theorem GI {P:BB} {w:AH} {ops:Array Oper} {rest:List Oper} {o:Oper} {a:Act} {Q:Exit->Act->AH->Prop} (hgd:o.guard=none) (ty:Ae) (x:Operand) (ho:o.op=.load ty x) (p v:AK) (hx:a.eval x=p) (h:(Instr.loadAt ty p).run P w=.ok v w)
 (hk:wpList P ops Q rest (a.put o.dst v) w):wpList P ops Q (o::rest) a w:=
 wpList_plain hgd fun _ hK=>by unfold Oper.wp execOp;exact AAl
theorem ACo (s:Iq) (hh:s.holder.length=32) (ht:s.token.length=32) (v:AK):(I9 s).setIfInBounds 36 v=I9 {s with fields:=v}:=by
 obtain ⟨i,r,s,p,h,f,u,l,t,k,_,_,_,_⟩:=s
 dsimp only at hh ht
 exact Rq
theorem ACn (s:Iq) (hh:s.holder.length=32) (ht:s.token.length=32) (v:AK):(I9 s).setIfInBounds 72 v=I9 {s with links:=v}:=by
 obtain ⟨i,r,s,p,h,f,u,l,t,k,_,_,_,_⟩:=s
 dsimp only at hh ht
 exact Rq
section
variable {n:Nat} {P:BB}
theorem ACu {l:Nat} {f:FuncId} {tmps:Array AK} {assign body:Code} {w:AH} {R:Ending->AH->Prop} (hf:(P.funcs[f]?).isSome=true)
 (ha:assign.wpIn (Fence.wide.inRound l) n P (fun e a1 w0=>e=.normal/\∃w1,(Instr.beginRound l).run P w0=.ok () w1/\
  body.wpIn (Fence.wide.inRound l) n P (fun e a w'=>(e=.normal/\∃v w2,(Instr.endRound l none).run P w'=.ok v w2/\R (AV v) w2)\/∃ch,e=.panic ch/\a.defers=[]/\R (B8 ch) w') a1 w1) {tmps:=tmps,defers:=[]} w):
 RoundIn Fence.wide n P l f tmps assign body w R:=by
 refine ⟨trivial,fun c cs _=> ?_⟩;let b:Frame:={(default:Frame) with fn:=f,kind:=.normal,roundOf:=some l}
 have h0:Frame.round l f tmps assign body .normal=b.atR {tmps:=tmps,defers:=[]} [.code assign,.beginRound,.code body]:=by simp [Frame.round,Frame.atR,b]
 rw [h0];obtain ⟨e,a,w',⟨rfl,w1,hbr,h⟩,s1⟩:=ha b [.beginRound,.code body] (c::cs) rfl trivial (room_wide _);have s2:StepsIn (Machine.fenced P Fence.wide) P _ (lone (b.atR a [.code body]) (c::cs) w1):=StepsIn.trans s1 (.one Nr (stepR_beginRound rfl hbr));obtain ⟨e,a2,w2,hq,harr⟩:=h b [] (c::cs) rfl trivial (room_wide _);rcases hq with ⟨rfl,v,w3,he,hR⟩ | ⟨ch,rfl,hd,hR⟩
 · exact ⟨AV v,w3,hR,s2.trans (StepsIn.trans harr (.one Nr (stepR_round_end rfl rfl he)))⟩
 obtain ⟨k,hs⟩:=harr;obtain ⟨fn,hfn⟩:=eR.1 hf;exact ⟨B8 ch,w2,hR,s2.trans (StepsIn.trans hs (.one Nr (step_leave_panicked (fr:={b.atR a2 k with mode:=.panicking ch}) ⟨rfl,hd,fn,hfn⟩)))⟩
theorem Tj {α:Type} {f:FuncId} {g:Operand} {ps:Array Tmp} {assign body:Code} {Q:Exit->Act->AH->Prop} {a:Act} {w:AH}
 (hf:(P.funcs[f]?).isSome=true) {gf:Nat} {lb:Array AK} (hg:a.eval g=.func (.func gf) #[] lb) (eg:∀args w,(callFunc gf args).run P w=.ok (.enter gf args) w)
 {encs:α->Array AK} {T K:AH->AH->Prop} {G:List α->α->Prop} {S:List α->Prop} (hseq:yU Fence.wide 2 P gf lb encs T K G S w)
 (hps:∀x,(encs x).size=ps.size) (N:Nat) (I:List α->AH->Prop) (Ip:List PanicEntry->AH->Prop)
 (hIT:∀s A C,I s A->T A C->I s C) (hIB:∀s A C,I s A->Book w.heap.size A C->I s C) (hlen:∀s A,I s A->s.length<=N)
 (hTO:∀A C,T A C->KeepsOthers A C) (hKt:∀A B C,K A B->K B C->K A C) (hKp:∀W l o o',w.heap.size<=l->W.heap[l]? =some o->o.isCells=false->K W (W.putObj l o'))
 (h0:I [] w) (Ax:α->Act->AH->Prop) (hAB:∀x a' A C,Ax x a' A->Book w.heap.size A C->Ax x a' C)
 (hassign:∀(l:Nat) (pre:List α) (x:α) (W:AH),I pre W->G pre x->w.heap.size+2<=W.heap.size->
  assign.wpIn (Fence.wide.inRound l) 1 P (fun e a' W'=>e=.normal/\KeepsOthers W W'/\K W W'/\I pre W'/\Ax x a' W') {tmps:=(ps.zip (encs x)).foldl (fun t (p,v)=>t.setIfInBounds p v) a.tmps,defers:=[]} W)
 (hbody:∀(l:Nat) (pre:List α) (x:α) (a':Act) (W:AH),I pre W->G pre x->Ax x a' W->w.heap.size+2<=W.heap.size->
  body.wpIn (Fence.wide.inRound l) 1 P (fun e a3 W'=>(e=.normal/\KeepsOthers W W'/\K W W'/\I (pre++[x]) W')\/∃ch,e=.panic ch/\a3.defers=[]/\KeepsOthers W W'/\Ip ch W') a' W)
 (hdone:∀(D:Nat) (xs:List α) (W:AH),w.heap.size<=D->S xs->I xs W->W.heap[D]? =some (.deferred (some []))->Q .normal {a with defers:={target:=.collected D,args:=#[]}::a.defers} W)
 (AJr:∀(D:Nat) (ch:List PanicEntry) (W:AH),w.heap.size<=D->Ip ch W->W.heap[D]? =some (.deferred (some []))->Q (.panic ch) {a with defers:={target:=.collected D,args:=#[]}::a.defers} W):
 R3 f P (.rangeFunc g ps assign body) Q a w:=by
 obtain ⟨rec,hrec⟩:∃rec:LoopState->Option Code->Loop,rec=fun st pe=>{state:=st,pending:=pe,fn:=f,tmps:=a.tmps,params:=ps,assign,body,defers:=w.heap.size}:=⟨_,rfl⟩;obtain ⟨W1,hW1⟩:=BH ((w.alloc (.deferred (some []))).alloc (.loop (rec .ready none)));have hsz1:W1.heap.size=w.heap.size+2:=by rw [<-hW1];simp
 have hL1:W1.heap[w.heap.size+1]? =some (.loop (rec .ready none)):=by rw [<-hW1];have:=World.alloc_heap_new (w.alloc (.deferred (some []))) (.loop (rec .ready none));rwa [Eg] at this
 have hK1:W1.heap[w.heap.size]? =some (.deferred (some [])):=by rw [<-hW1];exact vO
 have hI1:I [] W1:=by rw [<-hW1];exact zV
 have hb1:AJ w W1:=by rw [<-hW1];exact vP
 refine fY (l:=w.heap.size+1) (mark:=[{target:=.collected w.heap.size,args:=#[]}]) (w1:=W1) (by rw [<-hW1,hrec];exact mD) hg eg ((Ey (n:=2)).1 ?_);refine (hseq (w.heap.size+1)
  (fun pre W=>I pre W/\W.heap[w.heap.size+1]? =some (.loop (rec .ready none))/\W.heap[w.heap.size]? =some (.deferred (some [])))
  (fun ch W=>Ip ch W/\W.heap[w.heap.size]? =some (.deferred (some []))) N
  W1 hb1
  (fun s A C hs ht=>⟨hIT s A C hs.1 ht,(hTO A C ht).same _ _ hs.2.1 rfl,(hTO A C ht).same _ _ hs.2.2 rfl⟩)
  (fun s A hs=>hlen s A hs.1)
  ?_ ⟨hI1,hL1,hK1⟩).mono ?_
 ·rintro pre x W ⟨hi,hl,hk⟩ hGx
  have hlt:w.heap.size+1 < W.heap.size:=(Cz.1 hl).1;have hy:=run_yield (P:=P) (args:=encs x) hl fG;rw [hrec] at hy;refine ⟨f,_,assign,body,hy,ACu hf (wpIn_mono (hassign _ pre x W hi hGx AG) ?_)⟩;clear hy;rintro e a' Wa ⟨rfl,hkfa,hkpa,hia,hax⟩;have hl:=hkfa.same _ _ hl rfl;have hk:=hkfa.same _ _ hk rfl;have hlt:w.heap.size+1 < Wa.heap.size:=(Cz.1 hl).1;refine ⟨rfl,_,run_beginRound hl (by rw [hrec]),?_⟩;have hl2:(Wa.putObj (w.heap.size+1) (.loop {rec .ready none with state:=.busy})).heap[w.heap.size+1]? =some (.loop {rec .ready none with state:=.busy}):=World.putObj_heap_same hlt;have hk2:(Wa.putObj (w.heap.size+1) (.loop {rec .ready none with state:=.busy})).heap[w.heap.size]? =some (.deferred (some [])):=(World.putObj_heap_other AG).trans hk;refine wpIn_mono (hbody _ pre x a' _ (hIB _ _ _ hia (Book.put _ _ _ AG hl rfl)) hGx (hAB _ _ _ _ hax (Book.put _ _ _ AG hl rfl)) (by simp [World.putObj];omega)) ?_;rintro e a3 W3 (⟨rfl,hk3,hkk,hi3⟩ | ⟨ch,rfl,hd,hk3,hi3⟩)
  ·have hl3:=hk3.same _ _ hl2 rfl
   have hr:=run_endRound (P:=P) none hl3;rw [hrec] at hr;refine .inl ⟨rfl,_,_,hr,.inl ⟨rfl,⟨hIB _ _ _ hi3 (Book.put _ _ _ AG hl3 rfl),?_,(World.putObj_heap_other AG).trans (hk3.same _ _ hk2 rfl)⟩,hKt _ _ _ hkpa (hKt _ _ _ (hKp _ _ _ _ AG hl rfl) (hKt _ _ _ hkk (hKp _ _ _ _ AG hl3 rfl)))⟩⟩;exact mN
  · exact .inr ⟨ch,rfl,hd,.inr ⟨ch,rfl,hi3,hk3.same _ _ hk2 rfl⟩⟩
 rintro e W2 (⟨⟨v,rfl⟩,⟨xs,hS,hi,hl,hk⟩⟩ | ⟨ch,rfl,hi,hk⟩)
 · refine .inl ⟨v,_,rfl,by have:=run_endLoop (P:=P) hl Yw;rw [hrec] at this;exact this,hdone _ xs _ (Ad _) hS (hIB _ _ _ hi (Book.put _ _ _ AG hl rfl)) ((World.putObj_heap_other AG).trans hk)⟩
 · exact .inr ⟨ch,rfl,AJr _ ch _ (Ad _) hi hk⟩
def calm (Q:Exit->Act->AH->Prop):Exit->Act->AH->Prop
 | .normal,a,w=>Q .normal a w
 | .ret,a,w=>Q .ret a w
 | .panic ch,a,w=>Q (.panic ch) a w
 | _,_,_=>False
theorem VK {f:FuncId} {id:Nat} {c:Code} {Q:Exit->Act->AH->Prop} {a:Act} {w:AH} (h:R3 f P c (calm Q) a w):R3 f P (.block id c) Q a w:=by
 intro b k cs hro hb;obtain ⟨e,a',w',hq,harr⟩:=h b (.inBlock id::k) cs hro hb;have s1:StepsIn (Machine.fenced P Fence.wide) P (lone (b.atR a (.code (.block id c)::k)) cs w) (lone (b.atR a (.code c::.inBlock id::k)) cs w):=.one Nr stepR_block;cases e with
 | normal=>exact ⟨.normal,a',w',hq,(s1.trans harr).trans (.one Nr stepR_inBlock)⟩
 | ret=>exact zS
 | panic ch=>exact ⟨.panic ch,a',w',hq,harr.imp fun _ h=>s1.trans h⟩
 | exit id=>exact hq.elim
 | goto t=>exact hq.elim
 | outgrown=>exact hq.elim
end
section
variable {H:AP->AP->Dg}
theorem Mi {root:Dg} {many:Int} {ms:List (Int×Dg)} {cs:List Cd}:Il H root many ms cs=0↔∀(j:Nat) (m:Int×Dg) (c:Cd),ms[j]? =some m->cs[j]? =some c->c.index=m.1/\C7 H root many m.2 c=true:=by
 have hz:∀(f:(Int×Dg)×Cd->Bool),(ms.zip cs).all f=true↔∀(j:Nat) (m:Int×Dg) (c:Cd),ms[j]? =some m->cs[j]? =some c->f (m,c)=true:=by
  intro f;rw [Dr];constructor
  ·intro h j m c hm hc
   refine h _ (Ci (i:=j) ?_);rw [Ig];exact ⟨hm,hc⟩
  rintro h ⟨m,c⟩ hp;obtain ⟨j,hj,e⟩:=Yj hp;have e2:(ms.zip cs)[j]? =some (m,c):=by rw [BJ hj,e]
  rw [Ig] at e2;exact h j m c e2.1 e2.2
 unfold Il dN yQ;constructor
 ·intro h j m c hm hc
  by_cases h1:((ms.zip cs).all fun p=>decide (p.2.index=p.1.1))=true
  ·rw [Am h1] at h
   by_cases h2:((ms.zip cs).all fun p=>C7 H root many p.1.2 p.2)=true
   · exact ⟨Fj ((hz _).1 h1 j m c hm hc),(hz _).1 h2 j m c hm hc⟩
   · rw [Ah h2] at h;cases h
  · rw [Ah h1] at h;cases h
 intro h;rw [Am ((hz _).2 fun j m c hm hc=>Bg (h j m c hm hc).1),Am ((hz _).2 fun j m c hm hc=>(h j m c hm hc).2)]
theorem VM {n k:Nat} (h:k < n):(upto n)[k]? =some (k:Int):=by unfold upto;rw [Be,Ly h];rfl
theorem Ht (n:Nat):(upto n).length=n:=by simp [upto]
theorem ZN {n:Nat} {c:Ge} (hv:c.values.length=n) {k:Nat} (h:k < n):(Fo H n c)[k]? =some (c.place*((n:Int)+4+1)+k,msgP H c.schema k (c.values.getD k 0) c.holder):=by
 unfold Fo Fb FC;have ez:((upto n).zip c.values)[k]? =some ((k:Int),c.values[k]' AG):=by rw [Ig];exact ⟨VM h,BJ AG⟩
 rw [Fh,EF (by simp [Ht,hv];exact h),Be,ez];simp [List.getD_eq_getElem?_getD,List.getElem?_eq_getElem (show k < c.values.length by omega)]
theorem cE {n:Nat} {c:Ge} (hv:c.values.length=n) (hl:c.links.length=4) {k:Nat} (h:k < 4):(Fo H n c)[n+k]? =some (c.place*((n:Int)+4+1)+((n:Int)+4) - 4+k,Ko H c.schema k (c.links.getD k QF) c.holder):=by
 unfold Fo Fb FC LC;have e:(((upto n).zip c.values).map fun p=>(c.place*((n:Int)+4+1)+p.1,msgP H c.schema p.1 p.2 c.holder)).length=n:=by simp [Ht,hv]
 have ez:((upto 4).zip c.links)[k]? =some ((k:Int),c.links[k]' AG):=by rw [Ig];exact ⟨VM h,BJ AG⟩
 rw [Fh,Cf (by rw [e];omega),e,show n+k - n=k by omega,EF (by simp [Ht,hl];exact h),Be,ez];simp [List.getD_eq_getElem?_getD,List.getElem?_eq_getElem (show k < c.links.length by omega)]
theorem cG {n:Nat} {c:Ge} (hv:c.values.length=n) (hl:c.links.length=4):(Fo H n c)[n+4]? =some (c.place*((n:Int)+4+1)+((n:Int)+4),msgP H c.schema (-1) 0 c.holder):=by unfold Fo Fb FC LC;rw [Cf (by simp [Ht,hv,hl])];simp [Ht,hv,hl]
theorem QU {n:Nat} {c:Ge} (hv:c.values.length=n) (hl:c.links.length=4):(Fo H n c).length=n+5:=by simp [Fo,Fb,FC,LC,Ht,hv,hl]
theorem ic {n:Nat} {c:Ge} (hv:c.values.length=n) (hl:c.links.length=4) {j:Nat} {m:Int×Dg} (hj:(Fo H n c)[j]? =some m):j < n+5/\m.1=c.place*((n:Int)+4+1)+j:=by
 have h:=(BA.1 hj).1;rw [QU hv hl] at h;refine ⟨h,?_⟩;rcases Ez j n with h1 | h1
 ·rw [ZN hv h1] at hj
  injection hj with hj;rw [<-hj]
 obtain ⟨k,rfl⟩:∃k,j=n+k:=⟨j - n,by omega⟩;rcases Ez k 4 with h2 | h2
 ·rw [cE hv hl h2] at hj
  injection hj with hj;rw [<-hj];simp only [Int.natCast_add];omega
 obtain rfl:k=4:=AG
 rw [cG hv hl] at hj;injection hj with hj;rw [<-hj];simp
theorem KQ {nf:Option Nat} {val:Int->Int->Bool} {r:CS} {c:Ge}:PD nf val r c=true↔((GR nf r.places=true/\(c.Au=r.Au/\c.round=r.no)/\c.schema=r.schema)/\(0<=c.place/\c.place < r.places)/\D4 (nf.getD 0) val c.values=true)/\c.links.length=4/\c.claims.length=nf.getD 0+5:=by simp only [PD,BZ,Bw]
theorem EM {nf:Option Nat} {val:Int->Int->Bool} {r:CS} {s:Fw}:Jw nf val r s=true↔(((((GR nf r.places=true/\(s.Au=r.Au/\s.round=r.no)/\s.schema=r.schema)/\0<=s.place/\s.place < r.places)/\NM (nf.getD 0) (-1) s.fields=true/\s.values.length=s.fields.length)/\((s.fields.zip s.values).all fun p=>val p.1 p.2)=true)/\(-1<=s.link/\s.link < 4)/\(s.link≠ -1\/s.token=QF))/\s.claims.length=s.fields.length+(if s.link= -1 then 1 else 2):=by simp only [Jw,BZ,Bw,YZ]
theorem NB {nf:Option Nat} {pl:Int} (h:GR nf pl=true):∃n,nf=some n/\1<=pl/\pl<=16/\pl*((n:Int)+4+1)<=256:=by
 unfold GR at h;cases nf with
 | none=>cases h
 |
  some n=>
  simp only [BZ,Bw] at h;exact ⟨n,rfl,h.1.1,h.1.2,h.2⟩
theorem AC2 {p r w j:Int} (hp:0<=p) (hr:p < r) (hj:0<=j) (hw:j < w):0<=p*w+j/\p*w+j < r*w:=by have h1:0<=p*w:=JH hp AG;have h2:(p+1)*w<=r*w:=OL AG AG;rw [Int.add_mul] at h2;omega
theorem AGO {seed:Dg} {nf:Option Nat} {val:Int->Int->Bool} {r:CS} {place xs:Int} {holder:Dg} {links:List Dg} {vs:AP} {n:Nat} (hn:nf=some n) (h:FV 0 nf val r place links xs vs=true)
 (R:CS) (hR:R={r with root:=LY H seed (r.places*((n:Int)+4+1)).toNat}):F0 H 0 nf val R (Ij H seed n r place holder links vs)=0:=by
 subst hn;simp only [FV,BZ,Bw,Ce] at h;obtain ⟨⟨⟨⟨⟨⟨_,hf⟩,h0⟩,h1⟩,h2⟩,h3⟩,h4⟩:=h;have hv:vs.length=n:=by simp only [D4,BZ,Bw] at h4;exact h4.1
 obtain ⟨n',e,p1,p2,p3⟩:=NB hf;injection e with e;subst e;have hwl:(Fo H n (PE r place holder links vs)).length=n+5:=QU hv h2;have hok:PD (some n) val R (Ij H seed n r place holder links vs)=true:=by subst hR;rw [KQ];refine ⟨⟨⟨hf,⟨rfl,rfl⟩,rfl⟩,⟨h0,h1⟩,h4⟩,h2,?_⟩;show ((Fo H n (PE r place holder links vs)).map _).length=_;rw [CX];exact hwl
 unfold F0;rw [Ah Ac,Am hok];subst hR;simp only [Ce];rw [Mi];intro j m c hm hc;have hms:Fo H n (Ij H seed n r place holder links vs)=Fo H n (PE r place holder links vs):=rfl;rw [hms] at hm;have hc':(U1 H seed (Dp H seed (r.places*((n:Int)+4+1)).toNat) (Fo H n (PE r place holder links vs)))[j]? =some c:=hc;rw [U1,Be,hm] at hc';injection hc' with hc';obtain ⟨hj,he⟩:=ic (H:=H) (c:=PE r place holder links vs) hv h2 hm;have he:m.1=place*((n:Int)+4+1)+j:=he;have hpl:=AC2 (w:=(n:Int)+4+1) h0 h1 (j:=(j:Int)) AG AG;obtain ⟨many,O2⟩:∃many:Nat,r.places*((n:Int)+4+1)=many:=⟨(r.places*((n:Int)+4+1)).toNat,by omega⟩;rw [O2] at hpl p3 hc' ⊢;subst hc';refine ⟨?_,?_⟩
 ·show ((m.1.toNat:Nat):Int)=m.1
  omega
 have:=rG H seed many m.1.toNat m.2 AG AG;simpa only [CZ] using this
theorem P4 {n:Nat}:∀{l:AP} {last:Int},NM n last l=true->∀x∈l,last < x/\x < n
 | [],_,_,x,hx=>by simp at hx
 |
  f::l,last,h,x,hx=>by
  simp only [NM,BZ,Bw] at h;rcases CO.1 hx with rfl | hx
  · exact h.1
  have:=P4 h.2 x hx;omega
theorem ACl {nf:Option Nat} {val:Int->Int->Bool} {R:CS} {c:Ge} {fs:AP} {link:Int} {n:Nat} (hn:nf=some n) (hc:F0 H 0 nf val R c=0) (ho:LB nf c fs link=true):
 DC H 0 nf val R (Ok n c fs link)=0:=by
 subst hn;unfold F0 at hc;rw [Ah Ac] at hc;by_cases hok:PD (some n) val R c=true
 ·rw [Am hok] at hc
  simp only [Ce] at hc;rw [Mi] at hc;simp only [PD,BZ,Bw,Ce] at hok;obtain ⟨⟨⟨hf,⟨e1,e2⟩,e3⟩,⟨hp0,hp1⟩,hac⟩,hl,hcl⟩:=hok;simp only [D4,BZ,Bw] at hac;obtain ⟨hv,hval⟩:=hac;simp only [LB,BZ,Bw] at ho;obtain ⟨_,⟨hinc,hlk0⟩,AJ0⟩:=ho;have hmem:=P4 hinc;have AJJ:∀f∈fs,val f (c.values.getD f.toNat 0)=true:=by intro f hf2;have:=hmem f hf2;rw [Dr] at hval;refine hval (f,c.values.getD f.toNat 0) (Ci (i:=f.toNat) ?_);rw [Ig];refine ⟨by rw [VM AG];congr 1;omega,?_⟩;rw [C0,BJ AG];rfl
  have hsh:Jw (some n) val R (Ok n c fs link)=true:=by
   rw [EM];refine ⟨⟨⟨⟨⟨⟨hf,⟨e1,e2⟩,e3⟩,hp0,hp1⟩,hinc,CX _⟩,?_⟩,⟨hlk0,AJ0⟩,?_⟩,?_⟩
   ·rw [Dr]
    rintro ⟨f,v⟩ hp;obtain ⟨j,hj,e⟩:=Yj hp;have e2:(fs.zip (fs.map fun f=>c.values.getD f.toNat 0))[j]? =some (f,v):=(BJ hj).trans (congrArg some e);rw [Ig] at e2;have e3:(fs.map fun f=>c.values.getD f.toNat 0)[j]? =some v:=e2.2;rw [Be,e2.1] at e3;injection e3 with e3;show val f v=true;rw [<-e3];exact AJJ f (by have:=List.of_mem_zip hp;exact this.1)
   ·by_cases h:link= -1
    · right;subst h;rfl
    · left;exact h
   by_cases h:link= -1
   ·subst h
    show (fs.map _++[]++[_]).length=fs.length+1;simp
   have h0:0<=link:=AG
   show (fs.map _++(if 0<=link then _ else [])++[_]).length=fs.length+(if link= -1 then 1 else 2);rw [Ah h,Am h0];simp
  unfold DC;rw [Ah Ac,Am hsh];simp only [Ce]
  -- each message of what is shown,with its claim,is one of the copy's
  have AHl:∀f∈fs,∃q,c.claims[f.toNat]? =some q/\q.index=c.place*((n:Int)+4+1)+f/\C7 H R.root (R.places*((n:Int)+4+1)) (msgP H c.schema f (c.values.getD f.toNat 0) c.holder) q=true:=by
   intro f hf2;have hr:=hmem f hf2;obtain ⟨k,rfl⟩:∃k:Nat,f=k:=⟨f.toNat,by omega⟩;refine ⟨c.claims[k]' AG,?_,?_⟩
   · rw [CZ,BJ]
   have:=hc k _ (c.claims[k]' AG) (ZN hv AG) (BJ AG);exact this
  have AJN:∀k:Nat,k < 4->∃q,c.claims[n+k]? =some q/\q.index=c.place*((n:Int)+4+1)+((n:Int)+4) - 4+k/\C7 H R.root (R.places*((n:Int)+4+1)) (Ko H c.schema k (c.links.getD k QF) c.holder) q=true:=by intro k hk;refine ⟨c.claims[n+k]' AG,BJ _,?_⟩;exact hc (n+k) _ (c.claims[n+k]' AG) (cE hv hl hk) (BJ AG)
  have hlast:∃q,c.claims[n+4]? =some q/\q.index=c.place*((n:Int)+4+1)+((n:Int)+4)/\C7 H R.root (R.places*((n:Int)+4+1)) (msgP H c.schema (-1) 0 c.holder) q=true:=by refine ⟨c.claims[n+4]' AG,BJ _,?_⟩;exact hc (n+4) _ (c.claims[n+4]' AG) (cG hv hl) (BJ AG)
  obtain ⟨qz,hqz,hz1,hz2⟩:=hlast;have hgz:c.claims.getD (n+4) Ld=qz:=by rw [C0,hqz];rfl
  have hpart:∀(F:AP),(∀f∈F,f∈fs)->∀p∈((FC H (c.place*((n:Int)+4+1)) c.schema c.holder F (F.map fun f=>c.values.getD f.toNat 0)).zip (F.map fun f=>c.claims.getD f.toNat Ld)),p.2.index=p.1.1/\C7 H R.root (R.places*((n:Int)+4+1)) p.1.2 p.2=true:=by
   intro F
   induction F with
   | nil=>intro _ p hp;simp [FC] at hp
   |
    cons f F ih=>
    intro hF p hp;simp only [FC,Fi,List.zip_cons_cons,CO] at hp;rcases hp with rfl | hp
    ·obtain ⟨q,hq,h1,h2⟩:=AHl f (hF f Ac)
     have hg:c.claims.getD f.toNat Ld=q:=by rw [C0,hq];rfl
     rw [hg];exact ⟨h1,h2⟩
    · exact ih (fun x hx=>hF x (by simp [hx])) p hp
  have hms:∀p∈(Nb H n (Ok n c fs link)).zip (Ok n c fs link).claims,p.2.index=p.1.1/\C7 H R.root (R.places*((n:Int)+4+1)) p.1.2 p.2=true:=by
   have el:(FC H (c.place*((n:Int)+4+1)) c.schema c.holder fs (fs.map fun f=>c.values.getD f.toNat 0)).length=(fs.map fun f=>c.claims.getD f.toNat Ld).length:=by simp [FC]
   simp only [Nb,Fb,Ok];rw [Fh,Fh,List.zip_append el];intro p hp;rcases Jq.1 hp with hp | hp
   · exact hpart fs (fun _ h=>h) p hp
   by_cases h0:0<=link
   ·obtain ⟨k,rfl⟩:∃k:Nat,link=k:=⟨link.toNat,by omega⟩
    obtain ⟨q,hq,h1,h2⟩:=AJN k AG;simp only [Am h0] at hp;have hp:p∈[((c.place*((n:Int)+4+1)+((n:Int)+4) - 4+k,Ko H c.schema k (c.links.getD k QF) c.holder),c.claims.getD (n+k) Ld),((c.place*((n:Int)+4+1)+((n:Int)+4),msgP H c.schema (-1) 0 c.holder),c.claims.getD (n+4) Ld)]:=hp;simp only [CO,D7,D5] at hp;rcases hp with rfl | rfl
    ·have hg:c.claims.getD (n+k) Ld=q:=by rw [C0,hq];rfl
     rw [hg];exact ⟨h1,h2⟩
    rw [hgz];exact ⟨hz1,hz2⟩
   simp only [Ah h0] at hp;have hl0:∀(a b c:Int) (d:Dg) (L:AP),LC H a b c d L []=[]:=fun _ _ _ _ L=>by simp [LC]
   rw [hl0] at hp;have hp:p∈[((c.place*((n:Int)+4+1)+((n:Int)+4),msgP H c.schema (-1) 0 c.holder),c.claims.getD (n+4) Ld)]:=hp;simp only [CO,D7,D5] at hp;subst hp;rw [hgz];exact ⟨hz1,hz2⟩
  rw [Mi];intro j m q hm hq;exact hms (m,q) (Ci (i:=j) (by rw [Ig];exact ⟨hm,hq⟩))
 · rw [Ah hok] at hc;cases hc
end
end Go.Proofs.YtpmpddfgifhlbaaGreatDoor
