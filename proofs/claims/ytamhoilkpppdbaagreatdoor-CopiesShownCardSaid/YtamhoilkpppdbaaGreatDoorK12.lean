import Derived.Test.YtamhoilkpppdbaaGreatDoorK10
import Derived.Deep.WholeRow
namespace Go.Proofs.YtamhoilkpppdbaaGreatDoor
set_option maxHeartbeats 8000000
set_option maxRecDepth 100000
open Go renaming World→AH, Value→AN, TypeId→Af, Program→BA, Addr→Aa
open Go.RowKit renaming Below→BI
open Go.Proofs.Tryz
open Go.Value renaming slice→AB, int→AE, pointer→AW, agg→AP
open Go.IntKind renaming i64→AF
open Go.Obj renaming cells→AO
open Go.Operand renaming tmp→AY
open Go.RowKit
section
variable {P:BA} {ops:Array Oper} {Q:Exit->Act->AH->Prop}
theorem wpOp_mono {i:Nat} {K K':Act->AH->Prop} (hk:∀a w,K a w->K' a w) {a:Act} {w:AH} (h:wpOp P ops Q i K a w):wpOp P ops Q i K' a w:=by
 unfold wpOp at h ⊢;split at h
 · exact hk _ _ h
 rename_i o ho
 split at h
 ·rename_i hw
  rw [Ao hw];rcases h with h | h
  ·left
   unfold Oper.wp Oper.upon at h ⊢;split at h
   all_goals first
    | exact hk _ _ h
    | exact h
    | (
     refine Calls.mono h ?_;intro e w' hh;cases e <;> first | exact hk _ _ hh | exact hh)
    | exact Rows.mono h fun _ _ hh=>hk _ _ hh
  · exact .inr h
 rename_i hw
 rw [Ai hw];exact hk _ _ h
theorem sY {i:Nat} {o:Oper} {K:Act->AH->Prop} {a:Act} {w:AH} (ho:ops[i]? =some o) (hg:o.guard=none) (h:o.wp P a w K Q):wpOp P ops Q i K a w:=by
 unfold wpOp;rw [ho];have hw:Region.wanted o (yielded ops a.tmps)=true:=by simp [Region.wanted,hg]
 simp only [hw,C5];exact .inl h
end
open Go.Shelf
attribute [local go_sem] Oper.semAt_some
section
variable {P:BA} {md:Region.Mode} {ops:Array Oper} {Q:Exit->Act->AH->Prop} {S:AH->Prop} {fuel:Nat} {listed:Array Bool} {w:AH}
theorem rg2 (i j:Nat) {o o':Oper} {a:Act} (hr:Region.ready md ops listed=[i,j]) (hi:ops[i]? =some o) (hg:o.guard=none) (hj:ops[j]? =some o') (hg':o'.guard=none)
 (h:o.wp P a w (fun a' w'=>S w'/\wpAnyH P md ops Q S fuel (listed.setIfInBounds i true) a' w') Q) (h':o'.wp P a w (fun a' w'=>S w'/\wpAnyH P md ops Q S fuel (listed.setIfInBounds j true) a' w') Q):wpAnyH P md ops Q S (fuel+1) listed a w:=by
 refine wpAnyH_all hr AX fun k hk=> ?_;simp only [CJ,D5,D4] at hk;rcases hk with rfl | rfl
 · exact sY hi hg h
 · exact sY hj hg' h'
end
theorem bN {P:BA} {o:Oper} {l:List AN} {D:List Deferred} {w w':AH} {K:Act->AH->Prop} {Q:Exit->Act->AH->Prop} {v:AN} (d:Nat) (t:Af) (n:Nat) (parts:Array (Nat×Operand)) (vs:Array (Nat×AN)) (ho:o.op=.buildSlice t n parts) (hd:o.dst=some d)
 (hp:parts.map (fun (i,x)=>(i,Act.eval ⟨l.toArray,D⟩ x))=vs) (h:(Instr.buildSlice t n vs).run P w=.ok v w') (hk:K ⟨(l.set d v).toArray,D⟩ w'):o.wp P ⟨l.toArray,D⟩ w K Q:=by
 unfold Oper.wp execOp;simp only [ho,hp,Ck,DC,h,Result.andThen_ok];show K (Act.put ⟨l.toArray,D⟩ o.dst v) w';rw [hd,M8];exact hk
theorem uH {P:BA} {o:Oper} {a:Act} {w w':AH} {K:Act->AH->Prop} {Q:Exit->Act->AH->Prop} (ty:Af) (x y:Operand) (p v:AN) (ho:o.op=.store ty x y) (hd:o.dst=none) (hx:a.eval x=p) (hy:a.eval y=v) (h:(Instr.storeAt ty p v).run P w=.ok () w') (hk:K a w'):o.wp P a w K Q:=by unfold Oper.wp execOp;simp only [ho,hx,hy,Ck,DC,h,Result.andThen_ok];show K (a.put o.dst undef) w';rw [hd];exact hk
section
variable {P:BA} {md:Region.Mode} {ops:Array Oper} {Q:Exit->Act->AH->Prop} {S:AH->Prop} {fuel:Nat} {listed:Array Bool} {l:List AN} {D:List Deferred} {w w':AH}
theorem AEy (i d:Nat) {o:Oper} {v:AN} (t:Af) (n:Nat) (parts:Array (Nat×Operand)) (vs:Array (Nat×AN)) (hr:Region.ready md ops listed=[i]) (hi:ops[i]? =some o) (hd:o.dst=some d) (hg:o.guard=none) (ho:o.op=.buildSlice t n parts)
 (hp:parts.map (fun (i,x)=>(i,Act.eval ⟨l.toArray,D⟩ x))=vs) (h:(Instr.buildSlice t n vs).run P w=.ok v w') (hS:S w') (hk:wpAnyH P md ops Q S fuel (listed.setIfInBounds i true) ⟨(l.set d v).toArray,D⟩ w'):wpAnyH P md ops Q S (fuel+1) listed ⟨l.toArray,D⟩ w:=
 tF i hr hi hg (bN d t n parts vs ho hd hp h ⟨hS,hk⟩)
theorem Z5 (i:Nat) {o:Oper} (ty:Af) (a b:Nat) (p v:AN) (hr:Region.ready md ops listed=[i]) (hi:ops[i]? =some o) (hd:o.dst=none) (hg:o.guard=none) (ho:o.op=.store ty (AY a) (AY b))
 (hx:l[a]? =some p) (hy:l[b]? =some v) (h:(Instr.storeAt ty p v).run P w=.ok () w') (hS:S w') (hk:wpAnyH P md ops Q S fuel (listed.setIfInBounds i true) ⟨l.toArray,D⟩ w'):wpAnyH P md ops Q S (fuel+1) listed ⟨l.toArray,D⟩ w:=
 tF i hr hi hg (uH ty (AY a) (AY b) p v ho hd eB (by simp [Act.eval,hy]) h ⟨hS,hk⟩)
end
def AH4 {α β:Type} (F:α->β->Act) (G:α->β->AH->Prop):Exit->Act->AH->Prop
 | .normal,a',w'=>∃x y,a'=F x y/\G x y w'
 | _,_,_=>False
theorem ADs {P:BA} {c:Code} {Q:Exit->Act->AH->Prop} {a:Act} {w:AH} {α β:Type} (F:α->β->Act) (G:α->β->AH->Prop) (h1:c.wp P (AH4 F G) a w) (h2:∀x y w',G x y w'->Q .normal (F x y) w'):c.wp P Q a w:=
 Code.wp_mono (fun e a' w' h=>by
  cases e with
  | normal=>obtain ⟨x,y,rfl,hg⟩:=h;exact h2 x y w' hg
  | _=>exact h.elim) h1
theorem AEg {W:AH} {g:Nat} {t:Af} {d:AQ} (h:AZ W g t (yA d)) (hd:d.length=32):Ag 32 CV W (AB (some ⟨g,0,none⟩) 1 1) [d]:=by
 refine ⟨_,1,rfl,Ac _,by decide,fun i x hi=> ?_⟩;rcases i with _ | i
 ·injection hi with hi
  subst hi;exact ⟨g,0,_,rfl,h.lt,by rw [Cb,hd],fun j u hu=>by rw [h.cell,yA,Ak];simpa using hu,rfl,hd⟩
 · simp at hi
theorem tE (W:AH) (x:Int):(Instr.buildSlice 30 1 #[(0,AE AF x)]).run prog W=.ok (AB (some ⟨W.heap.size,0,none⟩) 1 1) (W.alloc (AO #[AE AF x] 3)):=by go_simp
theorem AD9 (W:AH) {d:AQ} (h:d.length=32):(Instr.buildSlice 37 1 #[(0,AP (yA d))]).run prog W=.ok (AB (some ⟨W.heap.size,0,none⟩) 1 1) (W.alloc (AO (yA d) 34)):=by rw [Ok h];kernel_rfl
theorem tC (W:AH) (g o:Nat) (v:AN) (a:Option Aa) (b c:Nat) (h:W.cell? ⟨g,o,none⟩=some v) (hf:W.frozen? ⟨g,o,none⟩=false):(Instr.storeAt 30 (AW (some ⟨g,o,none⟩)) (AB a b c)).run prog W=.ok () (W.setCell ⟨g,o,none⟩ (AB a b c)):=by go_simp
theorem tD (W:AH) (g o:Nat) (v:AN) (a:Option Aa) (b c:Nat) (h:W.cell? ⟨g,o,none⟩=some v) (hf:W.frozen? ⟨g,o,none⟩=false):(Instr.storeAt 37 (AW (some ⟨g,o,none⟩)) (AB a b c)).run prog W=.ok () (W.setCell ⟨g,o,none⟩ (AB a b c)):=by go_simp
theorem AD6 (s:JF) (hh:s.holder.length=32) (ht:s.token.length=32) (v u:AN):((JA s).setIfInBounds 72 v).setIfInBounds 73 u=JA {s with links:=v,tokens:=u}:=by
 rw [bj,bj];have h:=Iu hh ht;have e:GD {s with links:=v,tokens:=u}=GD s:=rfl;rw [e];apply RH;intro i;rw [PY,PY,Array.getElem?_append,Array.getElem?_append];simp only [Array.size_setIfInBounds,T6,h];rcases Nat.lt_trichotomy i 72 with c | rfl | c
 · rw [Ai AG,Ai AG,Ao c,Ao c]
 · simp
 rw [Ai (by omega:¬i < 72),Ai (by omega:¬i < 72),Ai (by omega:¬72=i)];obtain rfl | rfl | rfl | c:i=73\/i=74\/i=75\/76<=i:=AG
 · simp
 · simp
 · simp
 · rw [Ai AG,Mz BN,Mz BN]
theorem ABQ (v0 v1 v3 v4 v5 v6:AN) (A:Option Aa) (n c:Nat) (ns:List Nat) (k x:Nat) (s:JF) (w:AH) (hs:Ag 6 Lz w (AB A n c) ns) (hx:ns[k]? =some x) (hh:s.holder.length=32) (ht:s.token.length=32)
 (hsc:s.schema=k) (o1:s.fields.oneCell'=true) (o2:s.values.oneCell'=true) (o3:s.claims.oneCell'=true) (iy:Gk s.link):
 Calls prog 47 #[AP #[v0,v1,AB A n c,v3,v4,v5,v6],AP (GD s)] w fun e w'=>∃L T,e=.returned (AP (JA {s with links:=L,tokens:=T,width:=(x:Int)+4+1,present:=(x:Int)+4}))/\
  Ag 1 CK w' L (if 0<=s.link then [s.link] else [])/\Ag 32 CV w' T (if 0<=s.link then [s.token] else [])/\AK w w':=by
 have hk:k < n:=by rw [hs.len];exact (BD.1 hx).1
 have hk1:(k:Int) < (n:Int):=AG
 have hk0:=Int.natCast_nonneg k
 obtain ⟨b,off,x',x0,x1,x2,x3,C,cc,x5,rfl,hb,hx',hxl,hone,hcell⟩:=Na hs hk;rw [hx] at hx';injection hx' with hx';subst hx';obtain ⟨Y,hY⟩:=Ad (GD s);obtain ⟨O,hO⟩:∃O,O=JA {s with links:=AB none 0 0,tokens:=AB none 0 0,width:=(x:Int)+4+1,present:=(x:Int)+4}:=⟨_,rfl⟩;rw [<-hY];have AIH:AI ((prog.info? 57).map (·.size)=some Y.size):=AA (by rw [hY,Iu hh ht];exact fI);have hos:O.size=76:=by rw [hO];exact Pp hh ht
 have X2:=AA hos;have Xx:AI ((prog.info? 96).map (·.size)=some O.size):=AA (by rw [hos];exact AA7);have HOL:AI (zeroCells96.size=O.size):=AA (by rw [hos];rfl);have jW:AI (O.all (·.oneCell')=true):=AA (by rw [hO];exact Yv o1 o2 o3 rfl rfl);have VL:AI (prog.built 96 [(0,.agg Y),(3,AE AF ((x:Int)+4+1)),(4,AE AF ((x:Int)+4))]=some O):=AA (by rw [hY,hO];exact ACx s hh ht _ _);have OU:AI (∀W g,AZ W g 57 Y->SwB W g s):=AA (fun W g h=>by rw [hY] at h;exact JR h hh ht);have HO:=AA hO;have R8:=AA ht;have Zr:=AA hh;clear hY hO hone hos;go_enter func47,ntmps47;go_upto_region 1 with fail;obtain ⟨k1,b1,s1⟩:=bx w #[v0,v1,AB (some ⟨b,off,none⟩) n c,v3,v4,v5,v6] 32;generalize (w.alloc (AO #[v0,v1,AB (some ⟨b,off,none⟩) n c,v3,v4,v5,v6] 32))=w1 at k1 b1 s1 ⊢;obtain ⟨k2,b2,s2⟩:=bx w1 Y 57;generalize (w1.alloc (AO Y 57))=w2 at k2 b2 s2 ⊢;obtain ⟨k3,b3,s3⟩:=bx w2 zeroCells96 96;generalize (w2.alloc (AO zeroCells96 96))=w3 at k3 b3 s3 ⊢;rw [s1] at k2 b2 s2;rw [s2] at k3 b3 s3;have K13:=AA ((k1.below b2 AG).below b3 AG);have jN:=AA (k2.below b3 AG);have K33:=AA k3;have HB3:=AA ((b1.trans (b2.mono AG)).trans (b3.mono AG));have H3:AI (w3.heap.size=w.heap.size+1+1+1):=AA AG;clear k1 k2 k3 b1 b2 b3 s1 s2 s3;have d2:w3.cell? ⟨w.heap.size,2,none⟩=some (AB (some ⟨b,off,none⟩) n c):=K13.o.cell 2;have f2:w3.cell? ⟨w.heap.size+1,2,none⟩=some (AE AF k):=by rw [(OU.o _ _ jN.o).schema,hsc]
 have f7:w3.cell? ⟨w.heap.size+1,38,none⟩=some (AE AF s.link):=(OU.o _ _ jN.o).link;have e4:w3.cell? ⟨b,off+k*6+4,none⟩=some (AB C x cc):=(HB3.o.cell (p:=⟨b,off+k*6+4,none⟩) hb).trans (hcell 4 _ rfl);have hsz:(prog.info? 85).map (·.size)=some 6:=AJ
 clear hcell hs hsc;go_upto_region 2 with fail;have w1:IntKind.i64.wrap ((x:Int)+4)=(x:Int)+4:=CN _ AG;have w2:IntKind.i64.wrap ((x:Int)+4+1)=(x:Int)+4+1:=CN _ AG;go_upto_region 3 with (first
  | (refine Bv rfl 57 (AY 3) rfl (w.heap.size+1) rfl 57 Y (0,0) _ jN.o underlying57 rfl AIH.o ?_)
  | (refine wpList_buildTo rfl 96 _ rfl _ rfl O (Es (congrArg (prog.built 96) AJ) VL.o) ?_)
  | (refine wpList_store_rowTo rfl 96 (AY 6) (AY 22) rfl rfl w3.heap.size O rfl rfl 96 zeroCells96 (World.alloc_heap_new _ _) Xx.o HOL.o jW.o ?_)
  | fail)
 rw [World.setRow_alloc_new];obtain ⟨k4,b4,s4⟩:=bx w3 O 96;generalize (w3.alloc (AO O 96))=w4 at k4 b4 s4 ⊢;have h3:=H3.o;have tq:=AA (jN.o.below b4 AG);have jM:=AA (K33.o.below b4 AG);have K4:=AA k4;have HB4:=AA (HB3.o.trans (b4.mono AG));have H4:AI (w4.heap.size=w.heap.size+1+1+1+1):=AA AG;have f7:w4.cell? ⟨w.heap.size+1,38,none⟩=some (AE AF s.link):=(OU.o _ _ tq.o).link;rw [h3] at K4;rw [h3];clear k4 b4 s4 K13 jN K33 HB3 H3 h3 d2 f2 e4;by_cases hl0:0<=s.link
 ·go_upto_region 4 with fail
  have hd0:BI (w.heap.size+1+1+1) w4 w4.drew:=(Ae _ _).drew;have HC:AI (∀W,BI (w.heap.size+1+1+1) w4 W->W.cell? ⟨w.heap.size+1,38,none⟩=some (AE AF s.link)/\(Instr.loadAt 34 (AW (some ⟨w.heap.size+1,39,none⟩))).run prog W=.ok (AP (yA s.token)) W):=AA (fun W hW=>by have b:=OU.o _ _ (tq.o.below hW AG);exact ⟨b.link,FV _ _ R8.o b.token⟩)
  have SI:∀W:AH,∃W' x,(Instr.buildSlice 30 1 #[(0,AE AF s.link)]).run prog W=.ok (AB (some ⟨x,0,none⟩) 1 1) W'/\AZ W' x 3 #[AE AF s.link]/\AK W W'/\W.heap.size=x:=fun W=>⟨_,_,tE W s.link,(bx W _ _).1,(bx W _ _).2.1,rfl⟩;have SD:∀W:AH,∃W' x,(Instr.buildSlice 37 1 #[(0,AP (yA s.token))]).run prog W=.ok (AB (some ⟨x,0,none⟩) 1 1) W'/\AZ W' x 34 (yA s.token)/\AK W W'/\W.heap.size=x:=fun W=>⟨_,_,AD9 W R8.o,(bx W _ _).1,(bx W _ _).2.1,rfl⟩;have S7:∀(W:AH) (cs:Array AN) (x:Nat),AZ W (w.heap.size+1+1+1) 96 cs->cs.size=76->∃W',(Instr.storeAt 30 (AW (some ⟨w.heap.size+1+1+1,72,none⟩)) (AB (some ⟨x,0,none⟩) 1 1)).run prog W=.ok () W'/\AZ W' (w.heap.size+1+1+1) 96 (cs.setIfInBounds 72 (AB (some ⟨x,0,none⟩) 1 1))/\BI (w.heap.size+1+1+1) W W'/\∀g t cs',w.heap.size+1+1+1 < g->AZ W g t cs'->AZ W' g t cs':=fun W cs x k h=>⟨_,tC W _ 72 (cs[72]' AG) _ _ _ rv (k.frozen 72),k.put 72 _,(Ae (w.heap.size+1+1+1) W).setCell (Ac (w.heap.size+1+1+1)) _,fun g t cs' hg kb=>kb.far (Nat.ne_of_gt hg) _⟩;have S9:∀(W:AH) (cs:Array AN) (x:Nat),AZ W (w.heap.size+1+1+1) 96 cs->cs.size=76->∃W',(Instr.storeAt 37 (AW (some ⟨w.heap.size+1+1+1,73,none⟩)) (AB (some ⟨x,0,none⟩) 1 1)).run prog W=.ok () W'/\AZ W' (w.heap.size+1+1+1) 96 (cs.setIfInBounds 73 (AB (some ⟨x,0,none⟩) 1 1))/\BI (w.heap.size+1+1+1) W W'/\∀g t cs',w.heap.size+1+1+1 < g->AZ W g t cs'->AZ W' g t cs':=fun W cs x k h=>⟨_,tD W _ 73 (cs[73]' AG) _ _ _ rv (k.frozen 73),k.put 73 _,(Ae (w.heap.size+1+1+1) W).setCell (Ac (w.heap.size+1+1+1)) _,fun g t cs' hg kb=>kb.far (Nat.ne_of_gt hg) _⟩;have hsz:∀W,BI (w.heap.size+1+1+1) w4 W->w.heap.size+1+1+1<=W.heap.size:=fun W h=>by have:=h.size;have:=H4.o;omega
  have hlt:∀W,BI (w.heap.size+1+1+1) w4 W->w.heap.size+1+1+1 < W.heap.size:=fun W h=>by have:=h.size;have:=H4.o;omega
  have hge:=hlt;have I7:prog.follows .mixedOrders=true:=AJ
  apply ADs (G:=fun (x' y':Nat) W=>AZ W x' 3 #[AE AF s.link]/\AZ W y' 34 (yA s.token)/\AZ W (w.heap.size+1+1+1) 96 ((O.setIfInBounds 72 (AB (some ⟨x',0,none⟩) 1 1)).setIfInBounds 73 (AB (some ⟨y',0,none⟩) 1 1))/\BI (w.heap.size+1+1+1) w4 W/\w.heap.size+1+1+1 < x'/\w.heap.size+1+1+1 < y')
  ·have kO:AZ w4.drew (w.heap.size+1+1+1) 96 O:=K4.o
   refine Sd (fun W=>BI (w.heap.size+1+1+1) w4 W) 10 _ I7 AJ rfl ?_;refine C9 0 26 AJ rfl rfl Aj hd0 rfl Ey ?_;refine C9 1 27 AJ rfl rfl Aj hd0 rfl (by intro W hW;obtain ⟨e1,e2⟩:=HC.o W hW;(go_simp) <;> rfl) ?_;refine C9 3 29 AJ rfl rfl Aj hd0 rfl Ey ?_;refine C9 4 30 AJ rfl rfl Aj hd0 rfl (v:=AP (yA s.token)) (fun W hW=>Cs rfl AJ (HC.o W hW).2) ?_;refine rg2 2 5 AJ rfl rfl rfl rfl ?_ ?_
   ·obtain ⟨W1,x1,r1,k1,b1,z1⟩:=SI w4.drew
    refine bN 28 30 1 _ #[(0,AE AF s.link)] rfl rfl AJ r1 ⟨hd0.trans (b1.mono (hsz _ hd0)),?_⟩;have s1:=hd0.trans (b1.mono (hsz _ hd0));have o1:=kO.below b1 (hlt _ hd0);refine C9 6 32 AJ rfl rfl Aj s1 rfl Ey ?_;refine rg2 5 7 AJ rfl rfl rfl rfl ?_ ?_
    ·obtain ⟨W2,x2,r2,k2,b2,z2⟩:=SD W1
     refine bN 31 37 1 _ #[(0,AP (yA s.token))] rfl rfl AJ r2 ⟨s1.trans (b2.mono (hsz _ s1)),?_⟩;have s2:=s1.trans (b2.mono (hsz _ s1));have o2:=o1.below b2 (hlt _ s1);have i2:=k1.below b2 k1.lt;obtain ⟨W3,r3,k3,b3,g3⟩:=S7 W2 _ x1 o2 RP;refine Z5 7 30 32 28 _ _ AJ rfl rfl rfl rfl AJ AJ r3 (s2.trans b3) ?_;have s3:=s2.trans b3;have i3:=g3 _ _ _ (z1 ▸ hge _ hd0) i2;have e3:=g3 _ _ _ (z2 ▸ hge _ s1) k2;refine C9 8 33 AJ rfl rfl Aj s3 rfl Ey ?_;obtain ⟨W4,r4,k4,b4,g4⟩:=S9 W3 _ x2 k3 RP;refine Z5 9 37 33 31 _ _ AJ rfl rfl rfl rfl AJ AJ r4 (s3.trans b4) ?_;have s4:=s3.trans b4;have i4:=g4 _ _ _ (z1 ▸ hge _ hd0) i3;have e4:=g4 _ _ _ (z2 ▸ hge _ s1) e3;refine F6 AJ ?_ _;simp only [Ct,DF];exact ⟨x1,x2,rfl,i4,e4,k4,s4,z1 ▸ hge _ hd0,z2 ▸ hge _ s1⟩
    obtain ⟨W2,r2,k2,b2,g2⟩:=S7 W1 _ x1 o1 RP;refine uH 30 (AY 32) (AY 28) _ _ rfl rfl AJ AJ r2 ⟨s1.trans b2,?_⟩;have s2:=s1.trans b2;have i2:=g2 _ _ _ (z1 ▸ hge _ hd0) k1;obtain ⟨W3,x3,r3,k3,b3,z3⟩:=SD W2;refine AEy 5 31 37 1 _ #[(0,AP (yA s.token))] AJ rfl rfl rfl rfl AJ r3 (s2.trans (b3.mono (hsz _ s2))) ?_;have s3:=s2.trans (b3.mono (hsz _ s2));have o3:=k2.below b3 (hlt _ s2);have i3:=i2.below b3 i2.lt;refine C9 8 33 AJ rfl rfl Aj s3 rfl Ey ?_;obtain ⟨W4,r4,k4,b4,g4⟩:=S9 W3 _ x3 o3 RP;refine Z5 9 37 33 31 _ _ AJ rfl rfl rfl rfl AJ AJ r4 (s3.trans b4) ?_;have s4:=s3.trans b4;have i4:=g4 _ _ _ (z1 ▸ hge _ hd0) i3;have e4:=g4 _ _ _ (z3 ▸ hge _ s2) k3;refine F6 AJ ?_ _;simp only [Ct,DF];exact ⟨x1,x3,rfl,i4,e4,k4,s4,z1 ▸ hge _ hd0,z3 ▸ hge _ s2⟩
   obtain ⟨W1,x1,r1,k1,b1,z1⟩:=SD w4.drew;refine bN 31 37 1 _ #[(0,AP (yA s.token))] rfl rfl AJ r1 ⟨hd0.trans (b1.mono (hsz _ hd0)),?_⟩;have s1:=hd0.trans (b1.mono (hsz _ hd0));have o1:=kO.below b1 (hlt _ hd0);obtain ⟨W2,x2,r2,k2,b2,z2⟩:=SI W1;refine AEy 2 28 30 1 _ #[(0,AE AF s.link)] AJ rfl rfl rfl rfl AJ r2 (s1.trans (b2.mono (hsz _ s1))) ?_;have s2:=s1.trans (b2.mono (hsz _ s1));have o2:=o1.below b2 (hlt _ s1);have e2:=k1.below b2 k1.lt;refine C9 6 32 AJ rfl rfl Aj s2 rfl Ey ?_;obtain ⟨W3,r3,k3,b3,g3⟩:=S7 W2 _ x2 o2 RP;refine Z5 7 30 32 28 _ _ AJ rfl rfl rfl rfl AJ AJ r3 (s2.trans b3) ?_;have s3:=s2.trans b3;have i3:=g3 _ _ _ (z2 ▸ hge _ s1) k2;have e3:=g3 _ _ _ (z1 ▸ hge _ hd0) e2;refine C9 8 33 AJ rfl rfl Aj s3 rfl Ey ?_;obtain ⟨W4,r4,k4,b4,g4⟩:=S9 W3 _ x1 k3 RP;refine Z5 9 37 33 31 _ _ AJ rfl rfl rfl rfl AJ AJ r4 (s3.trans b4) ?_;have s4:=s3.trans b4;have i4:=g4 _ _ _ (z2 ▸ hge _ s1) i3;have e4:=g4 _ _ _ (z1 ▸ hge _ hd0) e3;refine F6 AJ ?_ _;simp only [Ct,DF];exact ⟨x2,x1,rfl,i4,e4,k4,s4,z2 ▸ hge _ s1,z1 ▸ hge _ hd0⟩
  rintro x' y' W ⟨kI,kD,kO,hb,hx',hy'⟩;obtain ⟨O',Uv⟩:=Ad ((O.setIfInBounds 72 (AB (some ⟨x',0,none⟩) 1 1)).setIfInBounds 73 (AB (some ⟨y',0,none⟩) 1 1));rw [<-Uv] at kO;have hOs:=X2.o;have Kz:AI ((prog.info? 96).map (·.size)=some O'.size):=AA (by rw [Uv];simpa using Xx.o);have SH:AI (zeroCells96.size=O'.size):=AA (by rw [Uv];simpa using HOL.o);rw [HO.o,AD6 _ (by exact Zr.o) (by exact R8.o)] at Uv;have Cf:AI (O'.all (·.oneCell')=true):=AA (by rw [Uv];exact Yv o1 o2 o3 rfl rfl);have pC:=AA Uv;have KO':=AA kO;have KZ:=AA (jM.o.below hb AG);have KI:=AA kI;have KD:=AA kD;have CO:=AA (HB4.o.trans (hb.mono AG));clear Uv kO hb kI kD hOs;go_wp2_with (first
   | (refine Bv rfl 96 (AY 6) rfl (w.heap.size+1+1+1) rfl 96 O' (0,0) _ KO'.o underlying96 rfl Kz.o ?_)
   | (refine wpList_store_rowTo rfl 96 (AY 4) (AY 34) rfl rfl (w.heap.size+1+1) O' rfl rfl 96 zeroCells96 KZ.o Kz.o SH.o Cf.o ?_)
   | fail)
  refine Eu (N5 rfl _ _ (w.heap.size+1+1) 96 O' (0,0) _ rfl (KZ.o.row _) underlying96 rfl Kz.o) rfl ?_;rw [pC.o];exact ⟨_,_,rfl,MQ (l:=[s.link]) ((Gt _ _ _ _ AG).trans KI.o) (by intro z hz;rw [Fg] at hz;rw [hz];exact iy) AX,AEg ((Gt _ _ _ _ AG).trans KD.o) R8.o,below_setRow CO.o AG _⟩
 go_wp2_with (first
  | (refine Bv rfl 96 (AY 6) rfl (w.heap.size+1+1+1) rfl 96 O (0,0) _ K4.o underlying96 rfl Xx.o ?_)
  | (refine wpList_store_rowTo rfl 96 (AY 4) (AY 34) rfl rfl (w.heap.size+1+1) O rfl rfl 96 zeroCells96 jM.o Xx.o HOL.o jW.o ?_)
  | fail)
 refine Eu (N5 rfl _ _ (w.heap.size+1+1) 96 O (0,0) _ rfl (jM.o.row _) underlying96 rfl Xx.o) rfl ?_;rw [HO.o];exact ⟨_,_,rfl,Ag.nil _ _ (Av _),Ag.nil _ _ (Av _),below_setRow HB4.o AG _⟩
attribute [local go_sem] Oper.semAt_some
theorem ZM (W:AH) (x:Int) (hx: -9223372036854775808<=x/\x<=9223372036854775807):Ag 1 CK (W.alloc (AO #[AE AF x] 3)) (AB (some ⟨W.heap.size,0,none⟩) 1 1) [x]:=
 MQ (l:=[x]) (AZ.new W _ _) (by intro z hz;rw [Fg] at hz;rw [hz];exact hx) AX
theorem upto_take {n j:Nat} (h:j < n):(upto n).take (j+1)=(upto n).take j++[(j:Int)]:=by rw [Tp,VP h];rfl
theorem upto_all (n:Nat):(upto n).take n=upto n:=Cu q9
theorem Px {w w':AH} {cs:List AN} {l:AQ} (h:Aq 1 CK w cs l):Aq 1 CK w' cs l:=h
def NewAt (B:Nat) (v:AN):Prop:=∀r,v.ownBlock=some r->B<=r
theorem bT (v0 v1 v3 v4 v5 v6:AN) (A:Option Aa) (n c:Nat) (ns:List Nat) (k x:Nat) (q:TJ) (VA LA KA:Option Aa) (vn vc ln lc kn kc:Nat) (w:AH) (hs:Ag 6 Lz w (AB A n c) ns) (hx:ns[k]? =some x) (hx5:x<=1000) (hh:q.holder.length=32)
 (hsc:q.schema=k) (hv:q.values=AB VA vn vc) (hl:q.links=AB LA ln lc) (hk:q.claims=AB KA kn kc):
 Calls prog 40 #[AP #[v0,v1,AB A n c,v3,v4,v5,v6],AP (Fs q)] w fun e w'=>∃F L,e=.returned (AP (JA ⟨q.Ar,q.round,q.schema,q.place,q.holder,F,q.values,0,zeros 32,q.claims,L,q.links,(x:Int)+4+1,(x:Int)+4⟩))/\
  Ag 1 CK w' F (upto x)/\Ag 1 CK w' L (upto 4)/\AK w w'/\NewAt w.heap.size F/\NewAt w.heap.size L:=by
 have hk':k < n:=by rw [hs.len];exact (BD.1 hx).1
 have hk1:(k:Int) < (n:Int):=AG
 have hk0:=Int.natCast_nonneg k
 obtain ⟨b,off,x',x0,x1,x2,x3,C,cc,x5,rfl,hb,hx',hxl,hone,hcell⟩:=Na hs hk';rw [hx] at hx';injection hx' with hx';subst hx';obtain ⟨Y,hY⟩:=Ad (Fs q);obtain ⟨s0,hs0⟩:=Ad (⟨q.Ar,q.round,q.schema,q.place,q.holder,AB none 0 0,q.values,0,zeros 32,q.claims,AB none 0 0,q.links,(x:Int)+4+1,(x:Int)+4⟩:JF);obtain ⟨O1,hO1⟩:=Ad (GD s0);obtain ⟨O,hO⟩:=Ad (JA s0);rw [<-hY];have hth:s0.holder.length=32:=by rw [hs0];exact hh
 have htt:s0.token.length=32:=by rw [hs0];rfl
 have Xx:AI ((prog.info? 96).map (·.size)=some O.size):=AA (by rw [hO,Pp hth htt];exact AA7);have HOL:AI (zeroCells96.size=O.size):=AA (by rw [hO,Pp hth htt];rfl);have jW:AI (O.all (·.oneCell')=true):=AA (by rw [hO];exact Yv (by rw [hs0];rfl) (by rw [hs0];exact (congrArg _ hv).trans rfl) (by rw [hs0];exact (congrArg _ hk).trans rfl) (by rw [hs0];rfl) (by rw [hs0];exact (congrArg _ hl).trans rfl));have HOV:AI (s0.values.oneCell'=true/\s0.claims.oneCell'=true/\s0.tokens.oneCell'=true):=AA (by rw [hs0];exact ⟨(congrArg _ hv).trans rfl,(congrArg _ hk).trans rfl,(congrArg _ hl).trans rfl⟩);have HB1:AI (prog.built 57 [(0,AE AF q.Ar),(1,AE AF q.round),(2,AE AF q.schema),(3,AE AF q.place),(4,AP (yA q.holder)),(6,q.values),(9,q.claims)]=some O1):=AA (by rw [hO1,hs0,hv,hk];exact qq _ _ _ _ hh _ _ _ _ _ _);have HB2:AI (prog.built 96 [(0,.agg O1),(2,q.links),(3,AE AF ((x:Int)+4+1)),(4,AE AF ((x:Int)+4))]=some O):=AA (by rw [hO1,hO,hl,AAZ s0 hth htt,hs0,hl]);have MD:AI (∀W g,AZ W g 46 Y->pZ W g q):=AA (fun W g h=>by rw [hY] at h;exact O4 h hh);have HO:=AA hO;have db:=AA hs0;have Sy:=AA hth;have O8:=AA htt;have Zr:=AA hh;clear hY hO1 hO hone hs0 hth htt hv hl hk hh;go_enter func40,ntmps40;go_upto_region 1 with fail;obtain ⟨k1,b1,s1⟩:=bx w #[v0,v1,AB (some ⟨b,off,none⟩) n c,v3,v4,v5,v6] 32;generalize (w.alloc (AO #[v0,v1,AB (some ⟨b,off,none⟩) n c,v3,v4,v5,v6] 32))=w1 at k1 b1 s1 ⊢;obtain ⟨k2,b2,s2⟩:=bx w1 Y 46;generalize (w1.alloc (AO Y 46))=w2 at k2 b2 s2 ⊢;obtain ⟨k3,b3,s3⟩:=bx w2 zeroCells96 96;generalize (w2.alloc (AO zeroCells96 96))=w3 at k3 b3 s3 ⊢;rw [s1] at k2 b2 s2;rw [s2] at k3 b3 s3;have K13:=AA ((k1.below b2 AG).below b3 AG);have jN:=AA (k2.below b3 AG);have K33:=AA k3;have HB3:=AA ((b1.trans (b2.mono AG)).trans (b3.mono AG));have H3:AI (w3.heap.size=w.heap.size+1+1+1):=AA AG;clear k1 k2 k3 b1 b2 b3 s1 s2 s3;have cb:=MD.o _ _ jN.o;have d2:w3.cell? ⟨w.heap.size,2,none⟩=some (AB (some ⟨b,off,none⟩) n c):=K13.o.cell 2;have f0:=cb.Ar;have f1:=cb.round;have f2:w3.cell? ⟨w.heap.size+1,2,none⟩=some (AE AF k):=by rw [cb.schema,hsc]
 have f3:=cb.place;have f36:=cb.values;have f37:=cb.links;have f38:=cb.claims;have e4:w3.cell? ⟨b,off+k*6+4,none⟩=some (AB C x cc):=(HB3.o.cell (p:=⟨b,off+k*6+4,none⟩) hb).trans (hcell 4 _ rfl);have hsz:(prog.info? 85).map (·.size)=some 6:=AJ
 have t8:=AA (FV (w.heap.size+1) 4 Zr.o cb.holder);clear hcell hs cb;go_upto_region 2 with fail;have w1:IntKind.i64.wrap ((x:Int)+4)=(x:Int)+4:=CN _ AG;have w2:IntKind.i64.wrap ((x:Int)+4+1)=(x:Int)+4+1:=CN _ AG;rw [hsc] at HB1;go_upto_region 3 with (first
  | (refine fE rfl 34 (AY 26) rfl _ _ rfl t8.o ?_)
  | (refine wpList_buildTo rfl 57 _ rfl _ rfl O1 (Es (congrArg (prog.built 57) AJ) HB1.o) ?_)
  | (refine wpList_buildTo rfl 96 _ rfl _ rfl O (Es (congrArg (prog.built 96) AJ) HB2.o) ?_)
  | (refine wpList_store_rowTo rfl 96 (AY 6) (AY 40) rfl rfl w3.heap.size O rfl rfl 96 zeroCells96 (World.alloc_heap_new _ _) Xx.o HOL.o jW.o ?_)
  | fail)
 rw [World.setRow_alloc_new];obtain ⟨k4,b4,s4⟩:=bx w3 O 96;generalize (w3.alloc (AO O 96))=w4 at k4 b4 s4 ⊢;have h3:=H3.o;rw [h3] at k4 ⊢;have jM:=AA (K33.o.below b4 AG);have HB4:=AA (HB3.o.trans (b4.mono AG));have H4:AI (w4.heap.size=w.heap.size+1+1+1+1):=AA AG;rw [HO.o] at k4;have K4:=AA k4;clear k4 b4 s4 h3 K13 K33 HB3 H3 d2 f0 f1 f2 f3 f36 f37 f38 e4 jN hsc t8 HB1 HB2 jW;have hii:=AAD;obtain ⟨i0,hi,hiv⟩:=Ds.1 hii;have hz0:i0.zero=some (AE AF 0):=congrArg (·.1) hiv;have hz1:i0.size=1:=congrArg (·.2.1) hiv;have hz2:i0.bytes=8:=congrArg (·.2.2) hiv;have HI:=AA (And.intro hi (And.intro hz0 (And.intro hz1 hz2)));clear hii hiv hi hz0 hz1 hz2;have HX5:=AA hx5;clear hx5;go_upto_region 4 with fail;go_loopg [42] x (fun q' i wr=>∃(j:Nat) (v:AN) (cs:List AN),j<=x/\q'=x - j/\i=AE AF j/\AZ wr (w.heap.size+1+1+1) 96 (JA {s0 with fields:=v})/\wr.ownsRow (w.heap.size+1+1+1+1) 3 1 v j cs/\Aq 1 CK wr cs ((upto x).take j)/\BI (w.heap.size+1+1+1) w4 wr)
 case atStart=>exact ⟨0,AB none 0 0,[],Av _,rfl,rfl,by rw [db.o] at K4 ⊢;exact K4.o,Ev _ _ _ _,Aq.nil,Ae _ _⟩
 obtain ⟨j,v,cs,hj,hq,rfl,h1,h2,h3,h4⟩:=hrel;obtain ⟨vA,MF,rfl⟩:=CG h2;have sb:=Wq h1 Pb Pa;have f3:=h1.frozen 36;have l1:=h1.lt;have jJ:=sb.fields
 dsimp only at jJ
 have HQ:=AA hq;have K1:=AA h1;have HV:=AA h2;have OX:=AA h3;have HB2:=AA h4;have WT:=AA h4.size;clear hq h1 h2 h3 h4 sb;by_cases hlt:j < x
 ·have hkn:(j:Int) < (x:Int):=by omega
  have hk0':(0:Int)<=(j:Int):=AG
  go_wp2_with (at_builtin;refine CU _ rfl (AY 47) (AY 49) 30 3 rfl i0 (AE AF 0) 8 underlying30 HI.o.1 HI.o.2.1 HI.o.2.2.1 HI.o.2.2.2 rfl Ah (R:=CK) Vh (w.heap.size+1+1+1+1) _ _ _ rfl (HV.o.alloc _) (some ⟨wr.heap.size,0,none⟩) 1 1 [(j:Int)] rfl (ZM wr j (by have:=HX5.o;omega)) (by have:=HX5.o;unfold maxLen;omega) (by have:=HX5.o;omega) rK ?_;intro v5 w5 NZ hc5 GK hg5 OL;obtain ⟨A5,c5,rfl⟩:=CG GK;have k5:=(K1.o.alloc (AO #[AE AF (j:Int)] 3)).grown hg5 (DX HV.o (Ib _));have f5:=k5.frozen 36;have l5:=k5.lt;have d5:=(Wq k5 Pb Pa).fields;dsimp only at d5);have hb5:=(HB2.o.alloc (by have:=WT.o;have:=H4.o;omega) (AO #[AE AF (j:Int)] 3)).grown hg5 rK (fun r hr=>by have:=(HV.o.lt r hr).1;omega);go_roundg (x - (j+1))
  case measure=>exact BS
  refine ⟨j+1,_,cs++NZ,by omega,rfl,by go_num,?_,Ew GK (Ib _) _,?_,hb5.setCell (Ac _) _⟩
  ·have:=k5.put 36 (AB A5 (j+1) c5)
   rwa [AA9 _ Pb Pa] at this
  exact xS
 have hjx:j=x:=AG
 subst hjx;have Kb:=AA (show Aq 1 CK wr cs (upto j) by rw [<-upto_all j];exact OX.o);have hrs:=HB2.o.size;have h4s:=H4.o;clear jJ f3 OX HQ;go_upto_region 9 with fail;obtain ⟨wf,hwf⟩:=Ad wr;rw [<-hwf];have KZ:=AA (jM.o.below HB2.o AG);have pX:=AA (HB4.o.trans (HB2.o.mono AG));rw [<-hwf] at HV Kb K1 KZ pX l1 hrs;have Qb:AI (w.heap.size+1+1+1+1<=wf.heap.size):=AA AG;clear hwf hrs h4s HB2 WT H4 HB4 jM;go_loopg [54] 4 (fun q' i wr=>∃(m:Nat) (v:AN) (ds:List AN),m<=4/\q'=4 - m/\i=AE AF m/\AZ wr (w.heap.size+1+1+1) 96 (JA {s0 with fields:=AB vA j MF,links:=v})/\wr.ownsRow wf.heap.size 3 1 v m ds/\Aq 1 CK wr ds ((upto 4).take m)/\BI (w.heap.size+1+1+1) wf wr/\wr.ownsRow (w.heap.size+1+1+1+1) 3 1 (AB vA j MF) j cs)
 case atStart=>exact ⟨0,AB none 0 0,[],Av _,rfl,rfl,by rw [db.o] at K1 ⊢;exact K1.o,Ev _ _ _ _,Aq.nil,Ae _ _,HV.o⟩
 obtain ⟨m,v,ds,hm,hq,rfl,h1,h2,h3,h4,h5⟩:=hrel;obtain ⟨lA,tN,rfl⟩:=CG h2;have sb:=Wq h1 Pb Pa;have f3:=h1.frozen 72;have l1:=h1.lt;have c72:=sb.links
 dsimp only at c72
 have HQ:=AA hq;have K5:=AA h1;have Dw:=AA h2;have OX:=AA h3;have HB2:=AA h4;have HV1:=AA h5;have WT:=AA h4.size;clear hq h1 h2 h3 h4 h5 sb K1;by_cases hlt:m < 4
 ·have hkn:(m:Int) < (4:Int):=by omega
  have hk0':(0:Int)<=(m:Int):=AG
  go_wp2_with (at_builtin;refine CU _ rfl (AY 58) (AY 60) 30 3 rfl i0 (AE AF 0) 8 underlying30 HI.o.1 HI.o.2.1 HI.o.2.2.1 HI.o.2.2.2 rfl Ah (R:=CK) Vh wf.heap.size _ _ _ rfl (Dw.o.alloc _) (some ⟨wr.heap.size,0,none⟩) 1 1 [(m:Int)] rfl (ZM wr m AG) FN AG (by have:=WT.o;simp;omega) ?_;intro v5 w5 NZ hc5 GK hg5 OL;obtain ⟨A5,c5,rfl⟩:=CG GK;have k5:=(K5.o.alloc (AO #[AE AF (m:Int)] 3)).grown hg5 (DX Dw.o (by have:=Qb.o;omega));have f5:=k5.frozen 72;have l5:=k5.lt;have d5:=(Wq k5 Pb Pa).links;dsimp only at d5);have hb5:=(HB2.o.alloc (by have:=WT.o;have:=Qb.o;omega) (AO #[AE AF (m:Int)] 3)).grown hg5 (by have:=WT.o;have:=Qb.o;simp;omega) (fun r hr=>by have:=(Dw.o.lt r hr).1;have:=Qb.o;omega);have hne:(Value.slice vA j MF).ownBlock=none\/(Value.slice vA j MF).ownBlock≠(Value.slice lA m tN).ownBlock:=by
   rcases h:(Value.slice vA j MF).ownBlock with _ | r
   · exact .inl rfl
   refine .inr fun e=> ?_;have h1:=(HV.o.lt r h).2;have h2:=(Dw.o.lt r e.symm).1;omega
  have ho9:=(HV1.o.alloc (AO #[AE AF (m:Int)] 3)).kept hg5 hne;go_roundg (4 - (m+1))
  case measure=>exact BS
  refine ⟨m+1,_,ds++NZ,by omega,rfl,by go_num,?_,Ew GK (by have:=Qb.o;omega) _,?_,hb5.setCell (Ac _) _,Ew ho9 (Ib _) _⟩
  ·have:=k5.put 72 (AB A5 (m+1) c5)
   rwa [AA8 _ Pb Pa] at this
  exact xS
 have hm4:m=4:=AG
 subst hm4;obtain ⟨O',Uv⟩:∃O',O'=JA {s0 with fields:=AB vA j MF,links:=AB lA 4 tN}:=⟨_,rfl⟩;have hsO:O'.size=O.size:=by rw [Uv,HO.o,Pp Sy.o O8.o];exact Pp Pb Pa
 have Kz:AI ((prog.info? 96).map (·.size)=some O'.size):=AA (by rw [hsO];exact Xx.o);have SH:AI (zeroCells96.size=O'.size):=AA (by rw [hsO];exact HOL.o);have Cf:AI (O'.all (·.oneCell')=true):=AA (by rw [Uv];exact Yv rfl HOV.o.1 HOV.o.2.1 rfl HOV.o.2.2);have KO:AI (AZ wr (w.heap.size+1+1+1) 96 O'):=AA (by rw [Uv];exact K5.o);have KZ2:=AA (KZ.o.below HB2.o AG);have pC:=AA Uv;have jh:=AA (pX.o.trans (HB2.o.mono AG));have HSL:AI (Ag 1 CK wr (AB lA 4 tN) (upto 4)):=AA (CW Dw.o (by rw [<-upto_all 4];exact OX.o) rfl);have HSV:AI (Ag 1 CK wr (AB vA j MF) (upto j)):=AA (CW HV1.o (Px Kb.o) (Hp j).symm);have hss:=WT.o;have hfs:=Qb.o;clear Uv hsO c72 f3;go_wp2_with (first
  | (refine Bv rfl 96 (AY 6) rfl (w.heap.size+1+1+1) rfl 96 O' (0,0) _ KO.o underlying96 rfl Kz.o ?_)
  | (refine wpList_store_rowTo rfl 96 (AY 4) (AY 64) rfl rfl (w.heap.size+1+1) O' rfl rfl 96 zeroCells96 KZ2.o Kz.o SH.o Cf.o ?_)
  | fail)
 refine Eu (N5 rfl _ _ (w.heap.size+1+1) 96 O' (0,0) _ rfl (KZ2.o.row _) underlying96 rfl Kz.o) rfl ?_;have hse:∀(u:AN) (l:AQ),Ag 1 CK wr u l->(∀r,u.ownBlock=some r->r≠w.heap.size+1+1)->Ag 1 CK (wr.setRow (w.heap.size+1+1) O') u l:=fun u l h hn=>by obtain ⟨A',cap,e,h1,h2,h3⟩:=h;refine ⟨A',cap,e,h1,h2,fun i z hi=> ?_⟩;obtain ⟨b',off',cs',rfl,hlt',hl',hc',hr'⟩:=h3 i z hi;refine ⟨b',off',cs',rfl,by simpa using hlt',hl',fun j' u' hu=> ?_,hr'⟩;exact (Kl (Gt _ _ _ _ (hn b' (by rw [e];rfl)))).trans (hc' j' u' hu)
 exact ⟨AB vA j MF,AB lA 4 tN,by rw [pC.o,db.o],hse _ _ HSV.o (fun r hr=>by have:=(HV.o.lt r hr).1;omega),hse _ _ HSL.o (fun r hr=>by have:=(Dw.o.lt r hr).1;omega),below_setRow jh.o AG _,fun r hr=>by have:=(HV.o.lt r hr).1;omega,fun r hr=>by have:=(Dw.o.lt r hr).1;omega⟩
end Go.Proofs.YtamhoilkpppdbaaGreatDoor
