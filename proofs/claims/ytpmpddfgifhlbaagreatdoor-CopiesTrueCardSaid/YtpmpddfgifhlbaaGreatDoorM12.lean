import Derived.Test.YtpmpddfgifhlbaaGreatDoorM10
namespace Go.Proofs.YtpmpddfgifhlbaaGreatDoor
set_option maxHeartbeats 8000000
set_option maxRecDepth 100000
open Go renaming World→AH, Value→AK, TypeId→Ae, Program→BB, Addr→Aa
open Go.RowKit renaming Below→BK
open Go.Proofs.Tryz
open Go.Value renaming slice→AA, int→AB, pointer→AU, agg→AO
open Go.IntKind renaming i64→AE
open Go.Obj renaming cells→AQ
open Go.Operand renaming tmp→AY
open Go.RowKit
section
variable {P:BB} {ops:Array Oper} {Q:Exit->Act->AH->Prop}
theorem wpOp_mono {i:Nat} {K K':Act->AH->Prop} (hk:∀a w,K a w->K' a w) {a:Act} {w:AH} (h:wpOp P ops Q i K a w):wpOp P ops Q i K' a w:=by
 unfold wpOp at h ⊢;split at h
 · exact hk _ _ h
 rename_i o ho
 split at h
 ·rename_i hw
  rw [Am hw];rcases h with h | h
  ·left
   unfold Oper.wp Oper.upon at h ⊢;split at h
   all_goals first
    | exact hk _ _ h
    | exact h
    | (
     refine Calls.mono h ?_;intro e w' hh;cases e <;> first | exact hk _ _ hh | exact hh)
    | exact Rows.mono h fun _ _ hh=>hk _ _ hh
  · exact .inr h
 rename_i hw
 rw [Ah hw];exact hk _ _ h
theorem tx {i:Nat} {o:Oper} {K:Act->AH->Prop} {a:Act} {w:AH} (ho:ops[i]? =some o) (hg:o.guard=none) (h:o.wp P a w K Q):wpOp P ops Q i K a w:=by
 unfold wpOp;rw [ho];exact zw
end
open Go.Shelf
attribute [local go_sem] Oper.semAt_some
section
variable {P:BB} {md:Region.Mode} {ops:Array Oper} {Q:Exit->Act->AH->Prop} {S:AH->Prop} {fuel:Nat} {listed:Array Bool} {w:AH}
theorem rg2 (i j:Nat) {o o':Oper} {a:Act} (hr:Region.ready md ops listed=[i,j]) (hi:ops[i]? =some o) (hg:o.guard=none) (hj:ops[j]? =some o') (hg':o'.guard=none)
 (h:o.wp P a w (fun a' w'=>S w'/\wpAnyH P md ops Q S fuel (listed.setIfInBounds i true) a' w') Q) (h':o'.wp P a w (fun a' w'=>S w'/\wpAnyH P md ops Q S fuel (listed.setIfInBounds j true) a' w') Q):wpAnyH P md ops Q S (fuel+1) listed a w:=by
 refine wpAnyH_all hr Ac fun k hk=> ?_;simp only [CO,D7,D5] at hk;rcases hk with rfl | rfl
 · exact tx hi hg h
 · exact tx hj hg' h'
end
theorem cA {P:BB} {o:Oper} {l:List AK} {D:List Deferred} {w w':AH} {K:Act->AH->Prop} {Q:Exit->Act->AH->Prop} {v:AK} (d:Nat) (t:Ae) (n:Nat) (parts:Array (Nat×Operand)) (vs:Array (Nat×AK)) (ho:o.op=.buildSlice t n parts) (hd:o.dst=some d)
 (hp:parts.map (fun (i,x)=>(i,Act.eval ⟨l.toArray,D⟩ x))=vs) (h:(Instr.buildSlice t n vs).run P w=.ok v w') (hk:K ⟨(l.set d v).toArray,D⟩ w'):o.wp P ⟨l.toArray,D⟩ w K Q:=by
 unfold Oper.wp execOp;simp only [ho,hp,Cs,DL,h,Result.andThen_ok];show K (Act.put ⟨l.toArray,D⟩ o.dst v) w';rw [hd,MG];exact hk
theorem vW {P:BB} {o:Oper} {a:Act} {w w':AH} {K:Act->AH->Prop} {Q:Exit->Act->AH->Prop} (ty:Ae) (x y:Operand) (p v:AK) (ho:o.op=.store ty x y) (hd:o.dst=none) (hx:a.eval x=p) (hy:a.eval y=v) (h:(Instr.storeAt ty p v).run P w=.ok () w') (hk:K a w'):o.wp P a w K Q:=by unfold Oper.wp execOp;simp only [ho,hx,hy,Cs,DL,h,Result.andThen_ok];show K (a.put o.dst undef) w';rw [hd];exact hk
section
variable {P:BB} {md:Region.Mode} {ops:Array Oper} {Q:Exit->Act->AH->Prop} {S:AH->Prop} {fuel:Nat} {listed:Array Bool} {l:List AK} {D:List Deferred} {w w':AH}
theorem AGs (i d:Nat) {o:Oper} {v:AK} (t:Ae) (n:Nat) (parts:Array (Nat×Operand)) (vs:Array (Nat×AK)) (hr:Region.ready md ops listed=[i]) (hi:ops[i]? =some o) (hd:o.dst=some d) (hg:o.guard=none) (ho:o.op=.buildSlice t n parts)
 (hp:parts.map (fun (i,x)=>(i,Act.eval ⟨l.toArray,D⟩ x))=vs) (h:(Instr.buildSlice t n vs).run P w=.ok v w') (hS:S w') (hk:wpAnyH P md ops Q S fuel (listed.setIfInBounds i true) ⟨(l.set d v).toArray,D⟩ w'):wpAnyH P md ops Q S (fuel+1) listed ⟨l.toArray,D⟩ w:=
 nk i hr hi hg (cA d t n parts vs ho hd hp h ⟨hS,hk⟩)
theorem aA (i:Nat) {o:Oper} (ty:Ae) (a b:Nat) (p v:AK) (hr:Region.ready md ops listed=[i]) (hi:ops[i]? =some o) (hd:o.dst=none) (hg:o.guard=none) (ho:o.op=.store ty (AY a) (AY b))
 (hx:l[a]? =some p) (hy:l[b]? =some v) (h:(Instr.storeAt ty p v).run P w=.ok () w') (hS:S w') (hk:wpAnyH P md ops Q S fuel (listed.setIfInBounds i true) ⟨l.toArray,D⟩ w'):wpAnyH P md ops Q S (fuel+1) listed ⟨l.toArray,D⟩ w:=
 nk i hr hi hg (vW ty (AY a) (AY b) p v ho hd eX (by simp [Act.eval,hy]) h ⟨hS,hk⟩)
end
def AKR {α β:Type} (F:α->β->Act) (G:α->β->AH->Prop):Exit->Act->AH->Prop
 | .normal,a',w'=>∃x y,a'=F x y/\G x y w'
 | _,_,_=>False
theorem AFn {P:BB} {c:Code} {Q:Exit->Act->AH->Prop} {a:Act} {w:AH} {α β:Type} (F:α->β->Act) (G:α->β->AH->Prop) (h1:c.wp P (AKR F G) a w) (h2:∀x y w',G x y w'->Q .normal (F x y) w'):c.wp P Q a w:=
 Code.wp_mono (fun e a' w' h=>by
  cases e with
  | normal=>obtain ⟨x,y,rfl,hg⟩:=h;exact h2 x y w' hg
  | _=>exact h.elim) h1
theorem AGe {W:AH} {g:Nat} {t:Ae} {d:AP} (h:AZ W g t (yA d)) (hd:d.length=32):Ag 32 CQ W (AA (some ⟨g,0,none⟩) 1 1) [d]:=by
 refine ⟨_,1,rfl,Ad _,by decide,fun i x hi=> ?_⟩;rcases i with _ | i
 ·injection hi with hi
  subst hi;exact ⟨g,0,_,rfl,h.lt,by rw [CX,hd],fun j u hu=>by rw [h.cell,yA,Ai];simpa using hu,rfl,hd⟩
 · simp at hi
theorem uI (W:AH) (x:Int):(Instr.buildSlice 30 1 #[(0,AB AE x)]).run prog W=.ok (AA (some ⟨W.heap.size,0,none⟩) 1 1) (W.alloc (AQ #[AB AE x] 3)):=by go_simp
theorem AF4 (W:AH) {d:AP} (h:d.length=32):(Instr.buildSlice 37 1 #[(0,AO (yA d))]).run prog W=.ok (AA (some ⟨W.heap.size,0,none⟩) 1 1) (W.alloc (AQ (yA d) 34)):=by rw [Ou h];kernel_rfl
theorem uG (W:AH) (g o:Nat) (v:AK) (a:Option Aa) (b c:Nat) (h:W.cell? ⟨g,o,none⟩=some v) (hf:W.frozen? ⟨g,o,none⟩=false):(Instr.storeAt 30 (AU (some ⟨g,o,none⟩)) (AA a b c)).run prog W=.ok () (W.setCell ⟨g,o,none⟩ (AA a b c)):=by go_simp
theorem uH (W:AH) (g o:Nat) (v:AK) (a:Option Aa) (b c:Nat) (h:W.cell? ⟨g,o,none⟩=some v) (hf:W.frozen? ⟨g,o,none⟩=false):(Instr.storeAt 37 (AU (some ⟨g,o,none⟩)) (AA a b c)).run prog W=.ok () (W.setCell ⟨g,o,none⟩ (AA a b c)):=by go_simp
theorem AF1 (s:Iq) (hh:s.holder.length=32) (ht:s.token.length=32) (v u:AK):((I9 s).setIfInBounds 72 v).setIfInBounds 73 u=I9 {s with links:=v,tokens:=u}:=by
 rw [cR,cR];have h:=Iw hh ht;have e:Et {s with links:=v,tokens:=u}=Et s:=rfl;rw [e];apply RY;intro i;rw [Rh,Rh,Array.getElem?_append,Array.getElem?_append];simp only [Array.size_setIfInBounds,UU,h];rcases Nat.lt_trichotomy i 72 with c | rfl | c
 · rw [Ah AG,Ah AG,Am c,Am c]
 · simp
 rw [Ah (by omega:¬i < 72),Ah (by omega:¬i < 72),Ah (by omega:¬72=i)];obtain rfl | rfl | rfl | c:i=73\/i=74\/i=75\/76<=i:=AG
 · simp
 · simp
 · simp
 · rw [Ah AG,M0 BX,M0 BX]
theorem AC4 (v0 v1 v3 v4 v5 v6:AK) (A:Option Aa) (n c:Nat) (ns:List Nat) (k x:Nat) (s:Iq) (w:AH) (hs:Ag 6 LG w (AA A n c) ns) (hx:ns[k]? =some x) (hh:s.holder.length=32) (ht:s.token.length=32)
 (hsc:s.schema=k) (o1:s.fields.oneCell'=true) (o2:s.values.oneCell'=true) (o3:s.claims.oneCell'=true) (hli:EZ s.link):
 Calls prog 33 #[AO #[v0,v1,AA A n c,v3,v4,v5,v6],AO (Et s)] w fun e w'=>∃L T,e=.returned (AO (I9 {s with links:=L,tokens:=T,width:=(x:Int)+4+1,present:=(x:Int)+4}))/\
  Ag 1 CF w' L (if 0<=s.link then [s.link] else [])/\Ag 32 CQ w' T (if 0<=s.link then [s.token] else [])/\AJ w w':=by
 have hk:k < n:=by rw [hs.len];exact (BA.1 hx).1
 have hk1:(k:Int) < (n:Int):=AG
 have hk0:=Int.natCast_nonneg k
 obtain ⟨b,off,x',x0,x1,x2,x3,C,cc,x5,rfl,hb,hx',hxl,hone,hcell⟩:=Ni hs hk;rw [hx] at hx';injection hx' with hx';subst hx';obtain ⟨Y,hY⟩:=Ab (Et s);obtain ⟨O,hO⟩:∃O,O=I9 {s with links:=AA none 0 0,tokens:=AA none 0 0,width:=(x:Int)+4+1,present:=(x:Int)+4}:=⟨_,rfl⟩;rw [<-hY];have AKb:AI ((prog.info? 44).map (·.size)=some Y.size):=AF (by rw [hY,Iw hh ht];exact fh);have hos:O.size=76:=by rw [hO];exact Pu hh ht
 have YJ:=AF hos;have YG:AI ((prog.info? 88).map (·.size)=some O.size):=AF (by rw [hos];exact ACm);have HOL:AI (zeroCells88.size=O.size):=AF (by rw [hos];rfl);have jq:AI (O.all (·.oneCell')=true):=AF (by rw [hO];exact Y4 o1 o2 o3 rfl rfl);have VI:AI (prog.built 88 [(0,.agg Y),(3,AB AE ((x:Int)+4+1)),(4,AB AE ((x:Int)+4))]=some O):=AF (by rw [hY,hO];exact AEi s hh ht _ _);have NH:AI (∀W g,AZ W g 44 Y->SwB W g s):=AF (fun W g h=>by rw [hY] at h;exact IQ h hh ht);obtain ⟨HO,OY,Zw⟩:=Az hO ht hh;clear hY hO hone hos;go_enter func33,ntmps33;go_upto_region 1 with fail;obtain ⟨k1,b1,s1⟩:=bx w #[v0,v1,AA (some ⟨b,off,none⟩) n c,v3,v4,v5,v6] 32;generalize (w.alloc (AQ #[v0,v1,AA (some ⟨b,off,none⟩) n c,v3,v4,v5,v6] 32))=w1 at k1 b1 s1 ⊢;obtain ⟨k2,b2,s2⟩:=bx w1 Y 44;generalize (w1.alloc (AQ Y 44))=w2 at k2 b2 s2 ⊢;obtain ⟨k3,b3,s3⟩:=bx w2 zeroCells88 88;generalize (w2.alloc (AQ zeroCells88 88))=w3 at k3 b3 s3 ⊢;rw [s1] at k2 b2 s2;rw [s2] at k3 b3 s3;obtain ⟨K13,jh,K33,HB3⟩:=CJ ((k1.below b2 AG).below b3 AG) (k2.below b3 AG) k3 ((b1.trans (b2.mono AG)).trans (b3.mono AG));have H3:AI (w3.heap.size=w.heap.size+1+1+1):=AF AG;clear k1 k2 k3 b1 b2 b3 s1 s2 s3;have d2:w3.cell? ⟨w.heap.size,2,none⟩=some (AA (some ⟨b,off,none⟩) n c):=K13.o.cell 2;have f2:w3.cell? ⟨w.heap.size+1,2,none⟩=some (AB AE k):=by rw [(NH.o _ _ jh.o).schema,hsc]
 have f7:w3.cell? ⟨w.heap.size+1,38,none⟩=some (AB AE s.link):=(NH.o _ _ jh.o).link;have e4:w3.cell? ⟨b,off+k*6+4,none⟩=some (AA C x cc):=(HB3.o.cell (p:=⟨b,off+k*6+4,none⟩) hb).trans (hcell 4 _ rfl);have hsz:(prog.info? 79).map (·.size)=some 6:=AL
 clear hcell hs hsc;go_upto_region 2 with fail;have w1:IntKind.i64.wrap ((x:Int)+4)=(x:Int)+4:=Bv _ AG;have w2:IntKind.i64.wrap ((x:Int)+4+1)=(x:Int)+4+1:=Bv _ AG;go_upto_region 3 with (first
  | (refine Cm rfl 44 (AY 3) rfl (w.heap.size+1) AL 44 Y (0,0) _ jh.o underlying44 rfl AKb.o ?_)
  | (refine wpList_buildTo rfl 88 _ rfl _ rfl O (Fg (congrArg (prog.built 88) AL) VI.o) ?_)
  | (refine wpList_store_rowTo rfl 88 (AY 6) (AY 22) rfl rfl w3.heap.size O rfl rfl 88 zeroCells88 (World.alloc_heap_new _ _) YG.o HOL.o jq.o ?_)
  | fail)
 rw [World.setRow_alloc_new];obtain ⟨k4,b4,s4⟩:=bx w3 O 88;generalize (w3.alloc (AQ O 88))=w4 at k4 b4 s4 ⊢;have h3:=H3.o;obtain ⟨um,jg,K4,HB4⟩:=CJ (jh.o.below b4 AG) (K33.o.below b4 AG) k4 (HB3.o.trans (b4.mono AG));have H4:AI (w4.heap.size=w.heap.size+1+1+1+1):=AF AG;have f7:w4.cell? ⟨w.heap.size+1,38,none⟩=some (AB AE s.link):=(NH.o _ _ um.o).link;rw [h3] at K4;rw [h3];clear k4 b4 s4 K13 jh K33 HB3 H3 h3 d2 f2 e4;by_cases hl0:0<=s.link
 ·go_upto_region 4 with fail
  have hd0:BK (w.heap.size+1+1+1) w4 w4.drew:=(Af _ _).drew;have HC:AI (∀W,BK (w.heap.size+1+1+1) w4 W->W.cell? ⟨w.heap.size+1,38,none⟩=some (AB AE s.link)/\(Instr.loadAt 34 (AU (some ⟨w.heap.size+1,39,none⟩))).run prog W=.ok (AO (yA s.token)) W):=AF (fun W hW=>by have b:=NH.o _ _ (um.o.below hW AG);exact ⟨b.link,EY _ _ OY.o b.token⟩)
  have SI:∀W:AH,∃W' x,(Instr.buildSlice 30 1 #[(0,AB AE s.link)]).run prog W=.ok (AA (some ⟨x,0,none⟩) 1 1) W'/\AZ W' x 3 #[AB AE s.link]/\AJ W W'/\W.heap.size=x:=fun W=>⟨_,_,uI W s.link,(bx W _ _).1,(bx W _ _).2.1,rfl⟩;have SD:∀W:AH,∃W' x,(Instr.buildSlice 37 1 #[(0,AO (yA s.token))]).run prog W=.ok (AA (some ⟨x,0,none⟩) 1 1) W'/\AZ W' x 34 (yA s.token)/\AJ W W'/\W.heap.size=x:=fun W=>⟨_,_,AF4 W OY.o,(bx W _ _).1,(bx W _ _).2.1,rfl⟩;have S7:∀(W:AH) (cs:Array AK) (x:Nat),AZ W (w.heap.size+1+1+1) 88 cs->cs.size=76->∃W',(Instr.storeAt 30 (AU (some ⟨w.heap.size+1+1+1,72,none⟩)) (AA (some ⟨x,0,none⟩) 1 1)).run prog W=.ok () W'/\AZ W' (w.heap.size+1+1+1) 88 (cs.setIfInBounds 72 (AA (some ⟨x,0,none⟩) 1 1))/\BK (w.heap.size+1+1+1) W W'/\∀g t cs',w.heap.size+1+1+1 < g->AZ W g t cs'->AZ W' g t cs':=fun W cs x k h=>⟨_,uG W _ 72 (cs[72]' AG) _ _ _ tY (k.frozen 72),k.put 72 _,(Af (w.heap.size+1+1+1) W).setCell (Ad (w.heap.size+1+1+1)) _,fun g t cs' hg kb=>kb.far (Nat.ne_of_gt hg) _⟩;have S9:∀(W:AH) (cs:Array AK) (x:Nat),AZ W (w.heap.size+1+1+1) 88 cs->cs.size=76->∃W',(Instr.storeAt 37 (AU (some ⟨w.heap.size+1+1+1,73,none⟩)) (AA (some ⟨x,0,none⟩) 1 1)).run prog W=.ok () W'/\AZ W' (w.heap.size+1+1+1) 88 (cs.setIfInBounds 73 (AA (some ⟨x,0,none⟩) 1 1))/\BK (w.heap.size+1+1+1) W W'/\∀g t cs',w.heap.size+1+1+1 < g->AZ W g t cs'->AZ W' g t cs':=fun W cs x k h=>⟨_,uH W _ 73 (cs[73]' AG) _ _ _ tY (k.frozen 73),k.put 73 _,(Af (w.heap.size+1+1+1) W).setCell (Ad (w.heap.size+1+1+1)) _,fun g t cs' hg kb=>kb.far (Nat.ne_of_gt hg) _⟩;have hsz:∀W,BK (w.heap.size+1+1+1) w4 W->w.heap.size+1+1+1<=W.heap.size:=fun W h=>by have:=h.size;have:=H4.o;omega
  have hlt:∀W,BK (w.heap.size+1+1+1) w4 W->w.heap.size+1+1+1 < W.heap.size:=fun W h=>by have:=h.size;have:=H4.o;omega
  have hge:=hlt;have DE:prog.follows .mixedOrders=true:=AL
  apply AFn (G:=fun (x' y':Nat) W=>AZ W x' 3 #[AB AE s.link]/\AZ W y' 34 (yA s.token)/\AZ W (w.heap.size+1+1+1) 88 ((O.setIfInBounds 72 (AA (some ⟨x',0,none⟩) 1 1)).setIfInBounds 73 (AA (some ⟨y',0,none⟩) 1 1))/\BK (w.heap.size+1+1+1) w4 W/\w.heap.size+1+1+1 < x'/\w.heap.size+1+1+1 < y')
  ·have kO:AZ w4.drew (w.heap.size+1+1+1) 88 O:=K4.o
   refine JA (fun W=>BK (w.heap.size+1+1+1) w4 W) 10 _ DE AL rfl ?_;refine C9 0 26 AL rfl rfl Al hd0 rfl F7 ?_;refine C9 1 27 AL rfl rfl Al hd0 rfl (by intro W hW;obtain ⟨e1,e2⟩:=HC.o W hW;(go_simp) <;> rfl) ?_;refine C9 3 29 AL rfl rfl Al hd0 rfl F7 ?_;refine C9 4 30 AL rfl rfl Al hd0 rfl (v:=AO (yA s.token)) (fun W hW=>Ch rfl AL (HC.o W hW).2) ?_;refine rg2 2 5 AL rfl rfl rfl rfl ?_ ?_
   ·obtain ⟨W1,x1,r1,k1,b1,z1⟩:=SI w4.drew
    refine cA 28 30 1 _ #[(0,AB AE s.link)] rfl rfl AL r1 ⟨hd0.trans (b1.mono (hsz _ hd0)),?_⟩;have s1:=hd0.trans (b1.mono (hsz _ hd0));have o1:=kO.below b1 (hlt _ hd0);refine C9 6 32 AL rfl rfl Al s1 rfl F7 ?_;refine rg2 5 7 AL rfl rfl rfl rfl ?_ ?_
    ·obtain ⟨W2,x2,r2,k2,b2,z2⟩:=SD W1
     refine cA 31 37 1 _ #[(0,AO (yA s.token))] rfl rfl AL r2 ⟨s1.trans (b2.mono (hsz _ s1)),?_⟩;have s2:=s1.trans (b2.mono (hsz _ s1));have o2:=o1.below b2 (hlt _ s1);have i2:=k1.below b2 k1.lt;obtain ⟨W3,r3,k3,b3,g3⟩:=S7 W2 _ x1 o2 Rk;refine aA 7 30 32 28 _ _ AL rfl rfl rfl rfl AL AL r3 (s2.trans b3) ?_;have s3:=s2.trans b3;have i3:=g3 _ _ _ (z1 ▸ hge _ hd0) i2;have e3:=g3 _ _ _ (z2 ▸ hge _ s1) k2;refine C9 8 33 AL rfl rfl Al s3 rfl F7 ?_;obtain ⟨W4,r4,k4,b4,g4⟩:=S9 W3 _ x2 k3 Rk;refine aA 9 37 33 31 _ _ AL rfl rfl rfl rfl AL AL r4 (s3.trans b4) ?_;have s4:=s3.trans b4;have i4:=g4 _ _ _ (z1 ▸ hge _ hd0) i3;have e4:=g4 _ _ _ (z2 ▸ hge _ s1) e3;refine Cx AL ?_ _;simp only [Bp,B9];exact ⟨x1,x2,rfl,i4,e4,k4,s4,z1 ▸ hge _ hd0,z2 ▸ hge _ s1⟩
    obtain ⟨W2,r2,k2,b2,g2⟩:=S7 W1 _ x1 o1 Rk;refine vW 30 (AY 32) (AY 28) _ _ rfl rfl AL AL r2 ⟨s1.trans b2,?_⟩;have s2:=s1.trans b2;have i2:=g2 _ _ _ (z1 ▸ hge _ hd0) k1;obtain ⟨W3,x3,r3,k3,b3,z3⟩:=SD W2;refine AGs 5 31 37 1 _ #[(0,AO (yA s.token))] AL rfl rfl rfl rfl AL r3 (s2.trans (b3.mono (hsz _ s2))) ?_;have s3:=s2.trans (b3.mono (hsz _ s2));have o3:=k2.below b3 (hlt _ s2);have i3:=i2.below b3 i2.lt;refine C9 8 33 AL rfl rfl Al s3 rfl F7 ?_;obtain ⟨W4,r4,k4,b4,g4⟩:=S9 W3 _ x3 o3 Rk;refine aA 9 37 33 31 _ _ AL rfl rfl rfl rfl AL AL r4 (s3.trans b4) ?_;have s4:=s3.trans b4;have i4:=g4 _ _ _ (z1 ▸ hge _ hd0) i3;have e4:=g4 _ _ _ (z3 ▸ hge _ s2) k3;refine Cx AL ?_ _;simp only [Bp,B9];exact ⟨x1,x3,rfl,i4,e4,k4,s4,z1 ▸ hge _ hd0,z3 ▸ hge _ s2⟩
   obtain ⟨W1,x1,r1,k1,b1,z1⟩:=SD w4.drew;refine cA 31 37 1 _ #[(0,AO (yA s.token))] rfl rfl AL r1 ⟨hd0.trans (b1.mono (hsz _ hd0)),?_⟩;have s1:=hd0.trans (b1.mono (hsz _ hd0));have o1:=kO.below b1 (hlt _ hd0);obtain ⟨W2,x2,r2,k2,b2,z2⟩:=SI W1;refine AGs 2 28 30 1 _ #[(0,AB AE s.link)] AL rfl rfl rfl rfl AL r2 (s1.trans (b2.mono (hsz _ s1))) ?_;have s2:=s1.trans (b2.mono (hsz _ s1));have o2:=o1.below b2 (hlt _ s1);have e2:=k1.below b2 k1.lt;refine C9 6 32 AL rfl rfl Al s2 rfl F7 ?_;obtain ⟨W3,r3,k3,b3,g3⟩:=S7 W2 _ x2 o2 Rk;refine aA 7 30 32 28 _ _ AL rfl rfl rfl rfl AL AL r3 (s2.trans b3) ?_;have s3:=s2.trans b3;have i3:=g3 _ _ _ (z2 ▸ hge _ s1) k2;have e3:=g3 _ _ _ (z1 ▸ hge _ hd0) e2;refine C9 8 33 AL rfl rfl Al s3 rfl F7 ?_;obtain ⟨W4,r4,k4,b4,g4⟩:=S9 W3 _ x1 k3 Rk;refine aA 9 37 33 31 _ _ AL rfl rfl rfl rfl AL AL r4 (s3.trans b4) ?_;have s4:=s3.trans b4;have i4:=g4 _ _ _ (z2 ▸ hge _ s1) i3;have e4:=g4 _ _ _ (z1 ▸ hge _ hd0) e3;refine Cx AL ?_ _;simp only [Bp,B9];exact ⟨x2,x1,rfl,i4,e4,k4,s4,z2 ▸ hge _ s1,z1 ▸ hge _ hd0⟩
  rintro x' y' W ⟨kI,kD,kO,hb,hx',hy'⟩;obtain ⟨O',Ux⟩:=Ab ((O.setIfInBounds 72 (AA (some ⟨x',0,none⟩) 1 1)).setIfInBounds 73 (AA (some ⟨y',0,none⟩) 1 1));rw [<-Ux] at kO;have hOs:=YJ.o;have LJ:AI ((prog.info? 88).map (·.size)=some O'.size):=AF (by rw [Ux];simpa using YG.o);have Sn:AI (zeroCells88.size=O'.size):=AF (by rw [Ux];simpa using HOL.o);rw [HO.o,AF1 _ (by exact Zw.o) (by exact OY.o)] at Ux;have Cl:AI (O'.all (·.oneCell')=true):=AF (by rw [Ux];exact Y4 o1 o2 o3 rfl rfl);obtain ⟨qf,KO',KZ,KI,KD,CY⟩:=FR Ux kO (jg.o.below hb AG) kI kD (HB4.o.trans (hb.mono AG));clear Ux kO hb kI kD hOs;go_wp2_with (first
   | (refine Cm rfl 88 (AY 6) rfl (w.heap.size+1+1+1) AL 88 O' (0,0) _ KO'.o underlying88 rfl LJ.o ?_)
   | (refine wpList_store_rowTo rfl 88 (AY 4) (AY 34) rfl rfl (w.heap.size+1+1) O' rfl rfl 88 zeroCells88 KZ.o LJ.o Sn.o Cl.o ?_)
   | fail)
  refine E8 (OH rfl _ _ (w.heap.size+1+1) 88 O' (0,0) _ rfl (KZ.o.row _) underlying88 rfl LJ.o) rfl ?_;rw [qf.o];exact ⟨_,_,rfl,MY (l:=[s.link]) ((Gu _ _ _ _ AG).trans KI.o) (by intro z hz;rw [Fk] at hz;rw [hz];exact hli) Ac,AGe ((Gu _ _ _ _ AG).trans KD.o) OY.o,below_setRow CY.o AG _⟩
 go_wp2_with (first
  | (refine Cm rfl 88 (AY 6) rfl (w.heap.size+1+1+1) AL 88 O (0,0) _ K4.o underlying88 rfl YG.o ?_)
  | (refine wpList_store_rowTo rfl 88 (AY 4) (AY 34) rfl rfl (w.heap.size+1+1) O rfl rfl 88 zeroCells88 jg.o YG.o HOL.o jq.o ?_)
  | fail)
 refine E8 (OH rfl _ _ (w.heap.size+1+1) 88 O (0,0) _ rfl (jg.o.row _) underlying88 rfl YG.o) rfl ?_;rw [HO.o];exact ⟨_,_,rfl,Ag.nil _ _ (Ar _),Ag.nil _ _ (Ar _),below_setRow HB4.o AG _⟩
attribute [local go_sem] Oper.semAt_some
theorem ZT (W:AH) (x:Int) (hx: -9223372036854775808<=x/\x<=9223372036854775807):Ag 1 CF (W.alloc (AQ #[AB AE x] 3)) (AA (some ⟨W.heap.size,0,none⟩) 1 1) [x]:=
 MY (l:=[x]) (AZ.new W _ _) (by intro z hz;rw [Fk] at hz;rw [hz];exact hx) Ac
theorem upto_take {n j:Nat} (h:j < n):(upto n).take (j+1)=(upto n).take j++[(j:Int)]:=by rw [UL,VM h];rfl
theorem upto_all (n:Nat):(upto n).take n=upto n:=Cy sV
theorem P3 {w w':AH} {cs:List AK} {l:AP} (h:Ao 1 CF w cs l):Ao 1 CF w' cs l:=h
def NewAt (B:Nat) (v:AK):Prop:=∀r,v.ownBlock=some r->B<=r
theorem cH (v0 v1 v3 v4 v5 v6:AK) (A:Option Aa) (n c:Nat) (ns:List Nat) (k x:Nat) (q:Tg) (VA LA KA:Option Aa) (vn vc ln lc kn kc:Nat) (w:AH) (hs:Ag 6 LG w (AA A n c) ns) (hx:ns[k]? =some x) (hx5:x<=1000) (hh:q.holder.length=32)
 (hsc:q.schema=k) (hv:q.values=AA VA vn vc) (hl:q.links=AA LA ln lc) (hk:q.claims=AA KA kn kc):
 Calls prog 44 #[AO #[v0,v1,AA A n c,v3,v4,v5,v6],AO (Hf q)] w fun e w'=>∃F L,e=.returned (AO (I9 ⟨q.Au,q.round,q.schema,q.place,q.holder,F,q.values,0,zeros 32,q.claims,L,q.links,(x:Int)+4+1,(x:Int)+4⟩))/\
  Ag 1 CF w' F (upto x)/\Ag 1 CF w' L (upto 4)/\AJ w w'/\NewAt w.heap.size F/\NewAt w.heap.size L:=by
 have hk':k < n:=by rw [hs.len];exact (BA.1 hx).1
 have hk1:(k:Int) < (n:Int):=AG
 have hk0:=Int.natCast_nonneg k
 obtain ⟨b,off,x',x0,x1,x2,x3,C,cc,x5,rfl,hb,hx',hxl,hone,hcell⟩:=Ni hs hk';rw [hx] at hx';injection hx' with hx';subst hx';obtain ⟨Y,hY⟩:=Ab (Hf q);obtain ⟨s0,hs0⟩:=Ab (⟨q.Au,q.round,q.schema,q.place,q.holder,AA none 0 0,q.values,0,zeros 32,q.claims,AA none 0 0,q.links,(x:Int)+4+1,(x:Int)+4⟩:Iq);obtain ⟨O1,hO1⟩:=Ab (Et s0);obtain ⟨O,hO⟩:=Ab (I9 s0);rw [<-hY];have hth:s0.holder.length=32:=by rw [hs0];exact hh
 have htt:s0.token.length=32:=by rw [hs0];rfl
 have YG:AI ((prog.info? 88).map (·.size)=some O.size):=AF (by rw [hO,Pu hth htt];exact ACm);have HOL:AI (zeroCells88.size=O.size):=AF (by rw [hO,Pu hth htt];rfl);have jq:AI (O.all (·.oneCell')=true):=AF (by rw [hO];exact Y4 (by rw [hs0];rfl) (by rw [hs0];exact (congrArg _ hv).trans rfl) (by rw [hs0];exact (congrArg _ hk).trans rfl) (by rw [hs0];rfl) (by rw [hs0];exact (congrArg _ hl).trans rfl));have HOV:AI (s0.values.oneCell'=true/\s0.claims.oneCell'=true/\s0.tokens.oneCell'=true):=AF (by rw [hs0];exact ⟨(congrArg _ hv).trans rfl,(congrArg _ hk).trans rfl,(congrArg _ hl).trans rfl⟩);have HB1:AI (prog.built 44 [(0,AB AE q.Au),(1,AB AE q.round),(2,AB AE q.schema),(3,AB AE q.place),(4,AO (yA q.holder)),(6,q.values),(9,q.claims)]=some O1):=AF (by rw [hO1,hs0,hv,hk];exact sI _ _ _ _ hh _ _ _ _ _ _);have HB2:AI (prog.built 88 [(0,.agg O1),(2,q.links),(3,AB AE ((x:Int)+4+1)),(4,AB AE ((x:Int)+4))]=some O):=AF (by rw [hO1,hO,hl,ACB s0 hth htt,hs0,hl]);have LV:AI (∀W g,AZ W g 48 Y->CpB W g q):=AF (fun W g h=>by rw [hY] at h;exact Nh h hh);obtain ⟨HO,eC,OZ,PH,Zw⟩:=EG hO hs0 hth htt hh;clear hY hO1 hO hone hs0 hth htt hv hl hk hh;go_enter func44,ntmps44;go_upto_region 1 with fail;obtain ⟨k1,b1,s1⟩:=bx w #[v0,v1,AA (some ⟨b,off,none⟩) n c,v3,v4,v5,v6] 32;generalize (w.alloc (AQ #[v0,v1,AA (some ⟨b,off,none⟩) n c,v3,v4,v5,v6] 32))=w1 at k1 b1 s1 ⊢;obtain ⟨k2,b2,s2⟩:=bx w1 Y 48;generalize (w1.alloc (AQ Y 48))=w2 at k2 b2 s2 ⊢;obtain ⟨k3,b3,s3⟩:=bx w2 zeroCells88 88;generalize (w2.alloc (AQ zeroCells88 88))=w3 at k3 b3 s3 ⊢;rw [s1] at k2 b2 s2;rw [s2] at k3 b3 s3;obtain ⟨K13,jh,K33,HB3⟩:=CJ ((k1.below b2 AG).below b3 AG) (k2.below b3 AG) k3 ((b1.trans (b2.mono AG)).trans (b3.mono AG));have H3:AI (w3.heap.size=w.heap.size+1+1+1):=AF AG;clear k1 k2 k3 b1 b2 b3 s1 s2 s3;have cb:=LV.o _ _ jh.o;have d2:w3.cell? ⟨w.heap.size,2,none⟩=some (AA (some ⟨b,off,none⟩) n c):=K13.o.cell 2;have f0:=cb.Au;have f1:=cb.round;have f2:w3.cell? ⟨w.heap.size+1,2,none⟩=some (AB AE k):=by rw [cb.schema,hsc]
 have f3:=cb.place;have f36:=cb.values;have f37:=cb.links;have f38:=cb.claims;have e4:w3.cell? ⟨b,off+k*6+4,none⟩=some (AA C x cc):=(HB3.o.cell (p:=⟨b,off+k*6+4,none⟩) hb).trans (hcell 4 _ rfl);have hsz:(prog.info? 79).map (·.size)=some 6:=AL
 have PK:=AF (EY (w.heap.size+1) 4 Zw.o cb.holder);clear hcell hs cb;go_upto_region 2 with fail;have w1:IntKind.i64.wrap ((x:Int)+4)=(x:Int)+4:=Bv _ AG;have w2:IntKind.i64.wrap ((x:Int)+4+1)=(x:Int)+4+1:=Bv _ AG;rw [hsc] at HB1;go_upto_region 3 with (first
  | (refine GI rfl 34 (AY 26) rfl _ _ rfl PK.o ?_)
  | (refine wpList_buildTo rfl 44 _ rfl _ rfl O1 (Fg (congrArg (prog.built 44) AL) HB1.o) ?_)
  | (refine wpList_buildTo rfl 88 _ rfl _ rfl O (Fg (congrArg (prog.built 88) AL) HB2.o) ?_)
  | (refine wpList_store_rowTo rfl 88 (AY 6) (AY 40) rfl rfl w3.heap.size O rfl rfl 88 zeroCells88 (World.alloc_heap_new _ _) YG.o HOL.o jq.o ?_)
  | fail)
 rw [World.setRow_alloc_new];obtain ⟨k4,b4,s4⟩:=bx w3 O 88;generalize (w3.alloc (AQ O 88))=w4 at k4 b4 s4 ⊢;have h3:=H3.o;rw [h3] at k4 ⊢;obtain ⟨jg,HB4⟩:=Aj (K33.o.below b4 AG) (HB3.o.trans (b4.mono AG));have H4:AI (w4.heap.size=w.heap.size+1+1+1+1):=AF AG;rw [HO.o] at k4;have K4:=AF k4;clear k4 b4 s4 h3 K13 K33 HB3 H3 d2 f0 f1 f2 f3 f36 f37 f38 e4 jh hsc PK HB1 HB2 jq;have hii:=oX;obtain ⟨i0,hi,hiv⟩:=Ds.1 hii;have hz0:i0.zero=some (AB AE 0):=congrArg (·.1) hiv;have hz1:i0.size=1:=congrArg (·.2.1) hiv;have hz2:i0.bytes=8:=congrArg (·.2.2) hiv;have HI:=AF (And.intro hi (And.intro hz0 (And.intro hz1 hz2)));clear hii hiv hi hz0 hz1 hz2;have HX5:=AF hx5;clear hx5;go_upto_region 4 with fail;go_loopg [42] x (fun q' i wr=>∃(j:Nat) (v:AK) (cs:List AK),j<=x/\q'=x - j/\i=AB AE j/\AZ wr (w.heap.size+1+1+1) 88 (I9 {s0 with fields:=v})/\wr.ownsRow (w.heap.size+1+1+1+1) 3 1 v j cs/\Ao 1 CF wr cs ((upto x).take j)/\BK (w.heap.size+1+1+1) w4 wr)
 case atStart=>exact ⟨0,AA none 0 0,[],Ar _,rfl,rfl,by rw [eC.o] at K4 ⊢;exact K4.o,ED _ _ _ _,Ao.nil,Af _ _⟩
 obtain ⟨j,v,cs,hj,hq,rfl,h1,h2,h3,h4⟩:=hrel;obtain ⟨vA,MQ,rfl⟩:=Bz h2;have sb:=XM h1 Rs Rr;have f3:=h1.frozen 36;have l1:=h1.lt;have di:=sb.fields
 dsimp only at di
 obtain ⟨HQ,K1,HV,Sp,HB2,WX⟩:=FR hq h1 h2 h3 h4 h4.size;clear hq h1 h2 h3 h4 sb;by_cases hlt:j < x
 ·have hkn:(j:Int) < (x:Int):=by omega
  have hk0':(0:Int)<=(j:Int):=AG
  go_wp2_with (at_builtin;refine Cb _ rfl (AY 47) (AY 49) 30 3 rfl i0 (AB AE 0) 8 underlying30 HI.o.1 HI.o.2.1 HI.o.2.2.1 HI.o.2.2.2 rfl BE (R:=CF) SY (w.heap.size+1+1+1+1) _ _ _ rfl (HV.o.alloc _) (some ⟨wr.heap.size,0,none⟩) 1 1 [(j:Int)] rfl (ZT wr j (by have:=HX5.o;omega)) (by have:=HX5.o;unfold maxLen;omega) (by have:=HX5.o;omega) sw ?_;intro v5 w5 Ng hc5 GN hg5 OS;obtain ⟨A5,c5,rfl⟩:=Bz GN;have k5:=(K1.o.alloc (AQ #[AB AE (j:Int)] 3)).grown hg5 (Da HV.o (Ie _));have f5:=k5.frozen 36;have l5:=k5.lt;have d5:=(XM k5 Rs Rr).fields;dsimp only at d5);have hb5:=(HB2.o.alloc (by have:=WX.o;have:=H4.o;omega) (AQ #[AB AE (j:Int)] 3)).grown hg5 sw (fun r hr=>by have:=(HV.o.lt r hr).1;omega);go_roundg (x - (j+1))
  case measure=>exact Bc
  refine ⟨j+1,_,cs++Ng,by omega,rfl,by go_num,?_,E9 GN (Ie _) _,?_,hb5.setCell (Ad _) _⟩
  ·have:=k5.put 36 (AA A5 (j+1) c5)
   rwa [ACo _ Rs Rr] at this
  exact AAk
 have hjx:j=x:=AG
 subst hjx;have Lp:=AF (show Ao 1 CF wr cs (upto j) by rw [<-upto_all j];exact Sp.o);have hrs:=HB2.o.size;have h4s:=H4.o;clear di f3 Sp HQ;go_upto_region 9 with fail;obtain ⟨wf,hwf⟩:=Ab wr;rw [<-hwf];obtain ⟨KZ,qy⟩:=Aj (jg.o.below HB2.o AG) (HB4.o.trans (HB2.o.mono AG));rw [<-hwf] at HV Lp K1 KZ qy l1 hrs;have PO:AI (w.heap.size+1+1+1+1<=wf.heap.size):=AF AG;clear hwf hrs h4s HB2 WX H4 HB4 jg;go_loopg [54] 4 (fun q' i wr=>∃(m:Nat) (v:AK) (ds:List AK),m<=4/\q'=4 - m/\i=AB AE m/\AZ wr (w.heap.size+1+1+1) 88 (I9 {s0 with fields:=AA vA j MQ,links:=v})/\wr.ownsRow wf.heap.size 3 1 v m ds/\Ao 1 CF wr ds ((upto 4).take m)/\BK (w.heap.size+1+1+1) wf wr/\wr.ownsRow (w.heap.size+1+1+1+1) 3 1 (AA vA j MQ) j cs)
 case atStart=>exact ⟨0,AA none 0 0,[],Ar _,rfl,rfl,by rw [eC.o] at K1 ⊢;exact K1.o,ED _ _ _ _,Ao.nil,Af _ _,HV.o⟩
 obtain ⟨m,v,ds,hm,hq,rfl,h1,h2,h3,h4,h5⟩:=hrel;obtain ⟨lA,uR,rfl⟩:=Bz h2;have sb:=XM h1 Rs Rr;have f3:=h1.frozen 72;have l1:=h1.lt;have c72:=sb.links
 dsimp only at c72
 obtain ⟨HQ,K5,Dw,Sp,HB2,HV1,WX⟩:=LW hq h1 h2 h3 h4 h5 h4.size;clear hq h1 h2 h3 h4 h5 sb K1;by_cases hlt:m < 4
 ·have hkn:(m:Int) < (4:Int):=by omega
  have hk0':(0:Int)<=(m:Int):=AG
  go_wp2_with (at_builtin;refine Cb _ rfl (AY 58) (AY 60) 30 3 rfl i0 (AB AE 0) 8 underlying30 HI.o.1 HI.o.2.1 HI.o.2.2.1 HI.o.2.2.2 rfl BE (R:=CF) SY wf.heap.size _ _ _ rfl (Dw.o.alloc _) (some ⟨wr.heap.size,0,none⟩) 1 1 [(m:Int)] rfl (ZT wr m AG) Gj AG (by have:=WX.o;simp;omega) ?_;intro v5 w5 Ng hc5 GN hg5 OS;obtain ⟨A5,c5,rfl⟩:=Bz GN;have k5:=(K5.o.alloc (AQ #[AB AE (m:Int)] 3)).grown hg5 (Da Dw.o (by have:=PO.o;omega));have f5:=k5.frozen 72;have l5:=k5.lt;have d5:=(XM k5 Rs Rr).links;dsimp only at d5);have hb5:=(HB2.o.alloc (by have:=WX.o;have:=PO.o;omega) (AQ #[AB AE (m:Int)] 3)).grown hg5 (by have:=WX.o;have:=PO.o;simp;omega) (fun r hr=>by have:=(Dw.o.lt r hr).1;have:=PO.o;omega);have hne:(Value.slice vA j MQ).ownBlock=none\/(Value.slice vA j MQ).ownBlock≠(Value.slice lA m uR).ownBlock:=by
   rcases h:(Value.slice vA j MQ).ownBlock with _ | r
   · exact .inl rfl
   refine .inr fun e=> ?_;have h1:=(HV.o.lt r h).2;have h2:=(Dw.o.lt r e.symm).1;omega
  have ho9:=(HV1.o.alloc (AQ #[AB AE (m:Int)] 3)).kept hg5 hne;go_roundg (4 - (m+1))
  case measure=>exact Bc
  refine ⟨m+1,_,ds++Ng,by omega,rfl,by go_num,?_,E9 GN (by have:=PO.o;omega) _,?_,hb5.setCell (Ad _) _,E9 ho9 (Ie _) _⟩
  ·have:=k5.put 72 (AA A5 (m+1) c5)
   rwa [ACn _ Rs Rr] at this
  exact AAk
 have hm4:m=4:=AG
 subst hm4;obtain ⟨O',Ux⟩:∃O',O'=I9 {s0 with fields:=AA vA j MQ,links:=AA lA 4 uR}:=⟨_,rfl⟩;have hsO:O'.size=O.size:=by rw [Ux,HO.o,Pu OZ.o PH.o];exact Pu Rs Rr
 have LJ:AI ((prog.info? 88).map (·.size)=some O'.size):=AF (by rw [hsO];exact YG.o);have Sn:AI (zeroCells88.size=O'.size):=AF (by rw [hsO];exact HOL.o);have Cl:AI (O'.all (·.oneCell')=true):=AF (by rw [Ux];exact Y4 rfl HOV.o.1 HOV.o.2.1 rfl HOV.o.2.2);have KO:AI (AZ wr (w.heap.size+1+1+1) 88 O'):=AF (by rw [Ux];exact K5.o);obtain ⟨KZ2,qf,YS⟩:=Az (KZ.o.below HB2.o AG) Ux (qy.o.trans (HB2.o.mono AG));have HSL:AI (Ag 1 CF wr (AA lA 4 uR) (upto 4)):=AF (CP Dw.o (by rw [<-upto_all 4];exact Sp.o) rfl);have HSV:AI (Ag 1 CF wr (AA vA j MQ) (upto j)):=AF (CP HV1.o (P3 Lp.o) (Ht j).symm);have hss:=WX.o;have hfs:=PO.o;clear Ux hsO c72 f3;go_wp2_with (first
  | (refine Cm rfl 88 (AY 6) rfl (w.heap.size+1+1+1) AL 88 O' (0,0) _ KO.o underlying88 rfl LJ.o ?_)
  | (refine wpList_store_rowTo rfl 88 (AY 4) (AY 64) rfl rfl (w.heap.size+1+1) O' rfl rfl 88 zeroCells88 KZ2.o LJ.o Sn.o Cl.o ?_)
  | fail)
 refine E8 (OH rfl _ _ (w.heap.size+1+1) 88 O' (0,0) _ rfl (KZ2.o.row _) underlying88 rfl LJ.o) rfl ?_;have hse:∀(u:AK) (l:AP),Ag 1 CF wr u l->(∀r,u.ownBlock=some r->r≠w.heap.size+1+1)->Ag 1 CF (wr.setRow (w.heap.size+1+1) O') u l:=fun u l h hn=>by obtain ⟨A',cap,e,h1,h2,h3⟩:=h;refine ⟨A',cap,e,h1,h2,fun i z hi=> ?_⟩;obtain ⟨b',off',cs',rfl,hlt',hl',hc',hr'⟩:=h3 i z hi;refine ⟨b',off',cs',rfl,by simpa using hlt',hl',fun j' u' hu=> ?_,hr'⟩;exact (Lz (Gu _ _ _ _ (hn b' (by rw [e];rfl)))).trans (hc' j' u' hu)
 exact ⟨AA vA j MQ,AA lA 4 uR,by rw [qf.o,eC.o],hse _ _ HSV.o (fun r hr=>by have:=(HV.o.lt r hr).1;omega),hse _ _ HSL.o (fun r hr=>by have:=(Dw.o.lt r hr).1;omega),below_setRow YS.o AG _,fun r hr=>by have:=(HV.o.lt r hr).1;omega,fun r hr=>by have:=(Dw.o.lt r hr).1;omega⟩
end Go.Proofs.YtpmpddfgifhlbaaGreatDoor
