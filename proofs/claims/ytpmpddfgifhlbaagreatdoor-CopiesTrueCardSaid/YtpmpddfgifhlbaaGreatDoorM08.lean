import Derived.Test.YtpmpddfgifhlbaaGreatDoorM07
namespace Go.Proofs.YtpmpddfgifhlbaaGreatDoor
set_option maxHeartbeats 8000000
set_option maxRecDepth 100000
open Go renaming World→AH, Value→AK, Calls→AS, TypeId→Ae, Program→BB
open Go.RowKit renaming Below→BK
open Go.Proofs.Tryz
open Go.Value renaming slice→AA, int→AB, pointer→AU, agg→AO
open Go.IntKind renaming i64→AE
open Go.Ending renaming returned→AV, panicked→B8
open Go.Obj renaming cells→AQ
open Go.Operand renaming tmp→AY
open Go.RowKit
variable {n:Nat} {P:BB}
theorem Nr {m:Machine}:Machine.fenced P Fence.wide m:=fenced_wide P m
def R3 (f:FuncId) (P:BB) (c:Code) (Q:Exit->Act->AH->Prop) (a:Act) (w:AH):Prop:=
 ∀(b:Frame) (k:List Item) (cs:List Frame),b.roundOf=none->b.fn=f->∃e a' w',Q e a' w'/\ArrivesIn (Machine.fenced P Fence.wide) P (lone (b.atR a (.code c::k)) cs w) b k cs e a' w'
theorem Gk {f:FuncId} {c:Code} {Q:Exit->Act->AH->Prop} {a:Act} {w:AH} (h:c.wpIn Fence.wide n P Q a w):R3 f P c Q a w:=
 fun b k cs hro _=>h b k cs hro trivial (room_wide _)
def AGo (f:FuncId) (P:BB) (y:Code) (Q:Exit->Act->AH->Prop):Exit->Act->AH->Prop
 | .normal,a,w=>R3 f P y Q a w
 | .ret,a,w=>Q .ret a w
 | .panic ch,a,w=>Q (.panic ch) a w
 | _,_,_=>False
theorem Iv {f:FuncId} {x y:Code} {Q:Exit->Act->AH->Prop} {a:Act} {w:AH} (h:R3 f P x (AGo f P y Q) a w):R3 f P (.seq x y) Q a w:=by
 intro b k cs hro hb;obtain ⟨e,a',w',hq,harr⟩:=h b (.code y::k) cs hro hb;have s1:StepsIn (Machine.fenced P Fence.wide) P (lone (b.atR a (.code (.seq x y)::k)) cs w) (lone (b.atR a (.code x::.code y::k)) cs w):=.one Nr stepR_seq;cases e with
 |
  normal=>
  obtain ⟨e2,a2,w2,hq2,AJP⟩:=hq b k cs hro hb;exact ⟨e2,a2,w2,hq2,.of_steps (s1.trans harr) AJP⟩
 | ret=>exact zS
 | panic ch=>exact ⟨.panic ch,a',w',hq,harr.imp fun _ h=>s1.trans h⟩
 | exit id=>exact hq.elim
 | goto t=>exact hq.elim
 | outgrown=>exact hq.elim
theorem WU {f:FuncId} {fn:Func} {c:Code} {args:Array AK} {w:AH} {R:Ending->AH->Prop} (hf:P.funcs[f]? =some fn) (hb:fn.body=some c)
 (h:R3 f P c (bodyPostM Fence.wide 1 P fn R) {tmps:=args++Array.replicate (fn.ntmps - args.size) undef,defers:=[]} w):AS P f args w R:=by
 refine (Ey (n:=1)).1 ⟨trivial,fun cs _=> ?_⟩;let b:Frame:={(default:Frame) with fn:=f,kind:=.normal,roundOf:=none}
 have he:Frame.enter P f args .normal=b.atR {tmps:=args++Array.replicate (fn.ntmps - args.size) undef,defers:=[]} [.code c]:=by simp [Frame.enter,Frame.atR,hf,hb,b]
 rw [he];obtain ⟨e,a',w',hq,harr⟩:=h b [] cs rfl rfl;have go:∀(u:FrameMode) (todo:List Item),StepsIn (Machine.fenced P Fence.wide) P (lone (b.atR {tmps:=args++Array.replicate (fn.ntmps - args.size) undef,defers:=[]} [.code c]) cs w) (lone {b.atR a' todo with mode:=u} cs w')->LeavesInM Fence.wide 1 P fn a'.tmps R a'.defers u w'->
  ∃e w'' fr,R e w''/\ComesIn (Machine.fenced P Fence.wide) P (lone (b.atR {tmps:=args++Array.replicate (fn.ntmps - args.size) undef,defers:=[]} [.code c]) cs w) (lone fr cs w'') e/\fr.fn=f/\fr.leaving P w'' e:=fun u todo hs hq=>by
  obtain ⟨e',w'',fr',hR,hs',hfn,hl⟩:=leaves_stepsInM a'.defers u w' {b.atR a' todo with mode:=u} cs rfl rfl rfl hf rfl trivial (room_wide _) hq;exact ⟨e',w'',fr',hR,ComesIn.of_steps hs hs',hfn,hl⟩
 cases e with
 | normal=>exact go .returning [] (harr.trans (.one Nr (stepR_end rfl))) hq
 |
  ret=>
  obtain ⟨todo,hs⟩:=harr.1 rfl;exact go .returning todo hs hq
 |
  panic ch=>
  obtain ⟨todo,hs⟩:=harr;exact go (.panicking ch) todo hs hq
 | exit id=>exact hq.elim
 | goto l=>exact hq.elim
 | outgrown=>exact ⟨.outgrown,w',b,hq,harr.resolve_left (by simp [b]),rfl,trivial⟩
theorem fY {f:FuncId} {g:Operand} {ps:Array Tmp} {assign body:Code} {Q:Exit->Act->AH->Prop} {a:Act} {w w1:AH} {l:Nat} {mark:List Deferred} {gf:Nat} {lb:Array AK}
 (he:(Instr.enterLoop f a.tmps ps assign body none).run P w=.ok (l,mark) w1) (hg:a.eval g=.func (.func gf) #[] lb) (eg:∀args w,(callFunc gf args).run P w=.ok (.enter gf args) w)
 (hc:AS P gf (#[.func (.yield l) #[] #[]]++lb) w1 fun e w3=>(∃v w4,e=AV v/\(Instr.endLoop l).run P w3=.ok none w4/\Q .normal {a with defers:=mark++a.defers} w4)\/∃ch,e=B8 ch/\Q (.panic ch) {a with defers:=mark++a.defers} w3):
 R3 f P (.rangeFunc g ps assign body) Q a w:=by
 intro b k cs hro hb;have hres:(resolve a.eval (rangeCall g l) 0).run P w1=.ok {target:=.fn (.func gf) lb,args:=#[.func (.yield l) #[] #[]]} w1:=by simp only [resolve,hg];simp [go_sem]
 have hinv:(invoke (.fn (.func gf) lb) #[.func (.yield l) #[] #[]]).run P w1=.ok (.enter gf (#[.func (.yield l) #[] #[]]++lb)) w1:=by simp [invoke,go_sem,eg]
 rw [<-hb,<-hro] at he;have s1:=stepR_rangeFunc (k:=k) (cs:=cs) he hres hinv;obtain ⟨e,w3,fr,hR,hs,hfn,hl⟩:=hc (b.atR {a with defers:=mark++a.defers} (.inRangeFunc l::k)::cs);rcases hR with ⟨v,w4,rfl,hend,hq⟩ | ⟨ch,rfl,hq⟩
 ·have hs:StepsIn (Machine.fenced P Fence.wide) P _ _:=stepsIn_wide.2 hs
  have s2:=step_leave_returned (c:=b.atR {a with defers:=mark++a.defers} (.inRangeFunc l::k)) (cs:=cs) hl;rw [finish_atR_inRangeFunc] at s2;exact ⟨.normal,_,w4,hq,.head Nr s1 (hs.trans (.head Nr s2 (.one Nr (stepR_endRangeFunc hend))))⟩
 have hs:StepsIn (Machine.fenced P Fence.wide) P _ _:=stepsIn_wide.2 hs;have s2:=step_leave_panicked (c:=b.atR {a with defers:=mark++a.defers} (.inRangeFunc l::k)) (cs:=cs) hl;rw [Frame.raise_atR] at s2;exact ⟨.panic ch,_,w3,hq,_,.head Nr s1 (hs.trans (.one Nr s2))⟩
def AEl {α:Type} (F:Fence) (n:Nat) (P:BB) (g:Nat) (lb:Array AK) (encs:α->Array AK) (T K:AH->AH->Prop) (G:List α->α->Prop) (S:List α->Prop) (w:AH):Prop:=
 ∀(l:Nat) (J:List α->AH->Prop) (Jx:AH->Prop) (Jp:List PanicEntry->AH->Prop) (N:Nat) (W:AH),AJ w W->(∀s A C,J s A->T A C->J s C)->(∀s A,J s A->s.length<=N)->
  (∀pre x W1,J pre W1->G pre x->YieldAt F (n - 1) P l (encs x) W1 fun e W'=>(e=AV (.bool true)/\J (pre++[x]) W'/\K W1 W')\/(e=AV (.bool false)/\Jx W')\/∃ch,e=B8 ch/\Jp ch W')->
  J [] W->
  CallsIn F n P g (#[.func (.yield l) #[] #[]]++lb) W fun e W'=>((∃v,e=AV v)/\((∃xs,S xs/\J xs W')\/Jx W'))\/∃ch,e=B8 ch/\Jp ch W'
structure Book (n₀:Nat) (A C:AH):Prop where
 os:C.os=A.os
 tape:C.tape=A.tape
 output:C.output=A.output
 size:A.heap.size<=C.heap.size
 block:∀b,b < n₀->C.heap[b]? =A.heap[b]?
 cells:∀(b:Nat) (cs:Array AK) (t:Ae) (fz:Nat×Nat),A.heap[b]? =some (Obj.cells cs t fz)->C.heap[b]? =A.heap[b]?
theorem Book.refl (n₀:Nat) (A:AH):Book n₀ A A:=⟨rfl,rfl,rfl,Ad _,fun _ _=>rfl,fun _ _ _ _ _=>rfl⟩
theorem Book.alloc {n₀:Nat} (A:AH) (o:Obj) (h:n₀<=A.heap.size):Book n₀ A (A.alloc o):=
 ⟨rfl,rfl,rfl,by simp,fun b hb=>Mw A o b AG,fun b cs t fz hb=>Mw A o b (Cz.1 hb).1⟩
theorem Book.put {n₀ l:Nat} (A:AH) (o o':Obj) (h:n₀<=l) (hl:A.heap[l]? =some o) (hc:o.isCells=false):Book n₀ A (A.putObj l o'):=
 ⟨rfl,rfl,rfl,by simp [World.putObj],fun b hb=>World.putObj_heap_other AG,fun b cs t fz hb=>World.putObj_heap_other (fun e=>by subst e;rw [hb] at hl;injection hl with hl;subst hl;cases hc)⟩
section
variable {n:Nat} {P:BB}
theorem Ue {α:Type} {g:Operand} {ps:Array Tmp} {assign body:Code} {Q:Exit->Act->AH->Prop} {a:Act} {w:AH}
 {gf:Nat} {lb:Array AK} (hg:a.eval g=.func (.func gf) #[] lb) (eg:∀args w,(callFunc gf args).run P w=.ok (.enter gf args) w)
 {encs:α->Array AK} {T K:AH->AH->Prop} {G:List α->α->Prop} {S:List α->Prop} (hseq:AEl Fence.wide (n - 1) P gf lb encs T K G S w)
 (hps:∀x,(encs x).size=ps.size) (N:Nat) (I:List α->AH->Prop) (Ix:AH->Prop)
 (hIT:∀s A C,I s A->T A C->I s C) (hIB:∀s A C,I s A->Book w.heap.size A C->I s C) (hXB:∀A C,Ix A->Book w.heap.size A C->Ix C) (hlen:∀s A,I s A->s.length<=N)
 (hTO:∀A C,T A C->KeepsOthers A C) (hKt:∀A B C,K A B->K B C->K A C) (hKp:∀W l o o',w.heap.size<=l->W.heap[l]? =some o->o.isCells=false->K W (W.putObj l o'))
 (h0:I [] w) (Ax:α->Act->AH->Prop) (hAB:∀x a' A C,Ax x a' A->Book w.heap.size A C->Ax x a' C)
 (hassign:∀(l:Nat) (pre:List α) (x:α) (W:AH) (K':Act->AH->Prop),I pre W->G pre x->(∀a' W',KeepsOthers W W'->K W W'->I pre W'->Ax x a' W'->K' a' W')->
  assign.wpIn (Fence.wide.inRound l) (n - 1 - 1) P (Exit.then K' (fun _ _ _=>False)) {tmps:=(ps.zip (encs x)).foldl (fun t (p,v)=>t.setIfInBounds p v) a.tmps,defers:=[]} W)
 (hbody:∀(l:Nat) (pre:List α) (x:α) (a':Act) (W:AH),I pre W->G pre x->Ax x a' W->
  body.wpIn (Fence.wide.inRound l) (n - 1 - 1) P (fun e _ W'=>(e=.normal/\KeepsOthers W W'/\K W W'/\I (pre++[x]) W')\/(e=.ret/\KeepsOthers W W'/\Ix W')) a' W)
 (hdone:∀(D:Nat) (xs:List α) (W:AH),w.heap.size<=D->S xs->I xs W->W.heap[D]? =some (.deferred (some []))->Q .normal {a with defers:={target:=.collected D,args:=#[]}::a.defers} W)
 (hret:∀(D:Nat) (W:AH),w.heap.size<=D->Ix W->W.heap[D]? =some (.deferred (some []))->Code.ret.wpIn Fence.wide n P Q {a with defers:={target:=.collected D,args:=#[]}::a.defers} W):
 (Code.rangeFunc g ps assign body).wpIn Fence.wide n P Q a w:=by
 refine wpIn_rangeFunc ?_;intro fn _;obtain ⟨rec,hrec⟩:∃rec:LoopState->Option Code->Loop,rec=fun st pe=>{state:=st,pending:=pe,fn,tmps:=a.tmps,params:=ps,assign,body,defers:=w.heap.size}:=⟨_,rfl⟩;obtain ⟨W1,hW1⟩:=BH ((w.alloc (.deferred (some []))).alloc (.loop (rec .ready none)));have hL1:W1.heap[w.heap.size+1]? =some (.loop (rec .ready none)):=by rw [<-hW1];have:=World.alloc_heap_new (w.alloc (.deferred (some []))) (.loop (rec .ready none));rwa [Eg] at this
 have hK1:W1.heap[w.heap.size]? =some (.deferred (some [])):=by rw [<-hW1];exact vO
 have hI1:I [] W1:=by rw [<-hW1];exact zV
 have hb1:AJ w W1:=by rw [<-hW1];exact vP
 refine ⟨w.heap.size+1,[{target:=.collected w.heap.size,args:=#[]}],W1,{target:=.fn (.func gf) lb,args:=#[.func (.yield (w.heap.size+1)) #[] #[]]},W1,gf,
  #[.func (.yield (w.heap.size+1)) #[] #[]]++lb,W1,?_,?_,fun _ _=>trivial,?_,(fun h=>by cases h),?_⟩
 · rw [<-hW1,hrec];exact mD
 ·simp only [resolve,hg]
  simp [go_sem]
 · simp [invoke,go_sem,eg]
 refine (hseq (w.heap.size+1)
  (fun pre W=>I pre W/\W.heap[w.heap.size+1]? =some (.loop (rec .ready none))/\W.heap[w.heap.size]? =some (.deferred (some [])))
  (fun W=>Ix W/\W.heap[w.heap.size+1]? =some (.loop (rec .done (some .ret)))/\W.heap[w.heap.size]? =some (.deferred (some [])))
  (fun _ _=>False) N W1 hb1
  (fun s A C hs ht=>⟨hIT s A C hs.1 ht,(hTO A C ht).same _ _ hs.2.1 rfl,(hTO A C ht).same _ _ hs.2.2 rfl⟩)
  (fun s A hs=>hlen s A hs.1)
  ?_ ⟨hI1,hL1,hK1⟩).mono ?_
 ·rintro pre x W ⟨hi,hl,hk⟩ hGx
  have hy:=run_yield (P:=P) (args:=encs x) hl fG;rw [hrec] at hy;refine ⟨fn,_,assign,body,hy,roundIn_of_wpIn trivial (hassign _ pre x W _ hi hGx ?_)⟩;clear hy;intro a' Wa hkfa hkpa hia hax;have hl:=hkfa.same _ _ hl rfl;have hk:=hkfa.same _ _ hk rfl;have hlt:w.heap.size+1 < Wa.heap.size:=(Cz.1 hl).1;refine ⟨_,run_beginRound hl (by rw [hrec]),?_⟩;have hl2:(Wa.putObj (w.heap.size+1) (.loop {rec .ready none with state:=.busy})).heap[w.heap.size+1]? =some (.loop {rec .ready none with state:=.busy}):=World.putObj_heap_same hlt;have hk2:(Wa.putObj (w.heap.size+1) (.loop {rec .ready none with state:=.busy})).heap[w.heap.size]? =some (.deferred (some [])):=(World.putObj_heap_other AG).trans hk;refine wpIn_mono (hbody _ pre x a' _ (hIB _ _ _ hia (Book.put _ _ _ AG hl rfl)) hGx (hAB _ _ _ _ hax (Book.put _ _ _ AG hl rfl))) ?_;rintro e a3 W3 (⟨rfl,hk3,hkk,hi3⟩ | ⟨rfl,hk3,hx3⟩)
  ·have hl3:=hk3.same _ _ hl2 rfl
   have hr:=run_endRound (P:=P) none hl3;rw [hrec] at hr;refine ⟨_,_,hr,.inl ⟨rfl,⟨hIB _ _ _ hi3 (Book.put _ _ _ AG hl3 rfl),?_,(World.putObj_heap_other AG).trans (hk3.same _ _ hk2 rfl)⟩,hKt _ _ _ hkpa (hKt _ _ _ (hKp _ _ _ _ AG hl rfl) (hKt _ _ _ hkk (hKp _ _ _ _ AG hl3 rfl)))⟩⟩;exact mN
  have hl3:=hk3.same _ _ hl2 rfl;have hr:=run_endRound (P:=P) (some .ret) hl3;rw [hrec] at hr;refine ⟨_,_,hr,.inr (.inl ⟨rfl,hXB _ _ hx3 (Book.put _ _ _ AG hl3 rfl),?_,(World.putObj_heap_other AG).trans (hk3.same _ _ hk2 rfl)⟩)⟩;exact mN
 rintro e W2 (⟨⟨v,rfl⟩,(⟨xs,hS,hi,hl,hk⟩ | ⟨hx,hl,hk⟩)⟩ | ⟨ch,_,h⟩)
 · exact ⟨none,_,by have:=run_endLoop (P:=P) hl Yw;rw [hrec] at this;exact this,hdone _ xs _ (Ad _) hS (hIB _ _ _ hi (Book.put _ _ _ AG hl rfl)) ((World.putObj_heap_other AG).trans hk)⟩
 · exact ⟨some .ret,_,by have:=run_endLoop (P:=P) hl Yw;rw [hrec] at this;exact this,hret _ _ (Ad _) (hXB _ _ hx (Book.put _ _ _ AG hl rfl)) ((World.putObj_heap_other AG).trans hk)⟩
 · exact h.elim
theorem Ih {F:Fence} {w:AH} {ops:Array Oper} {rest:List Oper} {o:Oper} {a:Act} {Q:Exit->Act->AH->Prop} (hgd:o.guard=none) (ty:Ae) (x:Operand) (ho:o.op=.load ty x)
 (g:Nat) (d:AP) (hx:a.eval x=AU (some ⟨g,0,none⟩)) (t:Ae) (ds:TypeDesc) (hg:AZ w g t (yA d)) (hu:P.underlying ty=some ds) (hds:(match ds with | .struct _ | .array _ _=>true | _=>false)=true) (hi:(P.info? ty).map (·.size)=some 32) (hd:d.length=32)
 (h:wpListIn F n P ops Q rest (a.put o.dst (AO (yA d))) w):wpListIn F n P ops Q (o::rest) a w:=by
 refine wpListIn_plain hgd fun K hK=>⟨?_,?_⟩
 · simp [Oper.about,ho]
 rw [Oper.semAt_plain F _ _ (by rw [ho];intro c hc;cases hc)];unfold execOp;exact AAo
theorem JV {F:Fence} {w:AH} {ops:Array Oper} {rest:List Oper} {o:Oper} {a:Act} {Q:Exit->Act->AH->Prop} (hgd:o.guard=none) (ty:Ae) (x y:Operand) (ho:o.op=.store ty x y)
 (g:Nat) (d:AP) (hx:a.eval x=AU (some ⟨g,0,none⟩)) (hy:a.eval y=AO (yA d)) (t:Ae) (old:Array AK) (hg:AZ w g t old) (hi:(P.info? ty).map (·.size)=some 32) (hold:old.size=32) (hd:d.length=32)
 (h:∀w',AZ w' g t (yA d)->BK g w w'->w.grownBy w' (some g)->wpListIn F n P ops Q rest (a.put o.dst undef) w'):wpListIn F n P ops Q (o::rest) a w:=by
 have hs:(yA d).size=32:=by rw [Bb,hd]
 refine wpListIn_plain hgd fun K hK=>⟨?_,?_⟩
 · simp [Oper.about,ho]
 rw [Oper.semAt_plain F _ _ (by rw [ho];intro c hc;cases hc)];unfold execOp;simp only [ho,hx,hy,Instr.storeAt,Instr.sureAddr,Cs,DL,Result.andThen_ok,run_storeVar_row w g t ty old (yA d) hg eV eY (GH d)];exact hK _ _ (h _ (hg.row _) (below_setRow (Af _ _) (Ad _) _) ⟨rfl,rfl,rfl,by simp [World.setRow],fun k hk hne=>Gu w g k _ (fun e=>hne M1)⟩)
end
attribute [local go_sem] Oper.semAt_some
def TE (bs:Nat) (A C:AH):Prop:=A.grownBy C (some bs)/\∃(cs:Array AK) (t:Ae) (fz:Nat×Nat),A.heap[bs]? =some (Obj.cells cs t fz)
structure KE (bs:Nat) (W W':AH):Prop where
 size:W.heap.size<=W'.heap.size
 own:W'.heap[bs]? =W.heap[bs]?
 tab:Cc W->Cc W'
theorem Cc.grown {w w':AH} {g:Nat} (h:Cc w) (hg:w.grownBy w' (some g)) (h0:0 < g):Cc w':=
 ⟨Ay h.1 hg.size,fun t ht=>hg.cell (h.2 t ht) (by intro e;injection e with e;have e:0=g:=e;omega)⟩
def GE (x0:AP) (pre:List (AP)) (x:AP):Prop:=x=C6 Aq x0 pre.length
def gq (x:AP):Array AK:=#[AO (yA x)]
theorem ND (n:Nat):∀{x:AP},x.length=32->(C6 Aq x n).length=32:=by
 induction n with
 | zero=>intro x h;simp only [C6];exact h
 | succ n ih=>intro x _;simp only [C6];exact ih (C3 _ _)
theorem sN (x:AP) (n:Nat):Aq stepT (C6 Aq x n)=C6 Aq x (n+1):=by rw [<-dk Aq x n 1];simp only [C6]
theorem AEY (m bs:Nat) (x0:AP) (w:AH) (hk:AZ w bs 34 (yA x0)) (hl:x0.length=32) (hT:Cc w) (h0b:0 < bs):
 AEl Fence.wide m prog 187 #[AU (some ⟨bs,0,none⟩)] gq (TE bs) (KE bs) (GE x0) (fun _=>False) w:=by
 intro lp J Jx Jp N W hW hJT uh hY h0;obtain ⟨HK,HT,HL,j4,HJN,HY,Wd⟩:=LW (hk.below hW hk.lt) (hT.below hW) hl hJT uh hY h0;have Ew:(prog.info? 34).map (·.size)=some 32:=AL
 have HI:=AF Ew;clear hW hJT uh hY h0 hk hl hT Ew;refine Ey.2 ?_;go_enter func187,ntmps187;go_wp2_with fail;go_loopg [5] (N+1) (fun q u wr=>∃pre:List (AP),q=N+1 - pre.length/\J pre wr/\AZ wr bs 34 (yA (C6 Aq x0 pre.length))/\Cc wr)
 case atStart=>exact ⟨[],rfl,Wd.o,HK.o,HT.o⟩
 obtain ⟨pre,hq,hj,hk,ht⟩:=hrel;obtain ⟨x,hx⟩:=Ab (C6 Aq x0 pre.length);obtain ⟨fn,tmps,assign,body,hy,hR⟩:=HY.o pre x wr hj hx;rw [<-hx] at hk;have Fx:AI (x.length=32):=AF (by rw [hx];exact ND _ HL.o)
 dsimp only [gq] at hy
 obtain ⟨HR,HQ,HB,Si,HX⟩:=EG hR hq hk ht hx;clear hR hq hk ht hx hj;go_upto_region 0 with fail;refine (Dq (n:=m)).1 ?_
 gi_wp2_with (refine Ih rfl 34 (AY 1) rfl bs x rfl 34 _ HB.o underlying34 rfl HI.o Fx.o ?_)
 refine ⟨(fun h=>by cases h),HR.o.mono ?_⟩;rintro e W' (⟨rfl,hJ',hk'⟩ | ⟨rfl,pP⟩ | ⟨ch,rfl,aU⟩)
 ·have hpl:=HJN.o _ _ hJ'
  rw [CT] at hpl;have hpl:pre.length+1<=N:=hpl;have HJ2:=AF hJ';have HB2:AI (AZ W' bs 34 (yA x)):=AF (hk'.own.trans HB.o);have HT2:AI (Cc W'):=AF (hk'.tab Si.o);have HC:AI (∀W,AJ W' W->AZ W bs 34 (yA x)->AS prog 35 #[.string {data:=#[115,116,101,112]},AA (some ⟨bs,0,none⟩) 32 32] W (DW (Aq stepT x) W)):=AF (fun W hW hk=>by have hy:=GV hk (by rw [Fx.o];omega);rw [Fx.o] at hy;exact IC {data:=#[115,116,101,112]} _ 32 32 x W BE (HT2.o.below hW) hy)
  obtain ⟨D,hD⟩:=Ab (Aq stepT x);rw [<-hD] at HC;have Eb:AI (D.length=32):=AF Wr;have vJ:=AF hD;clear hJ' hk' hy hD HR
  gi_wp2
  go_wp2_with (first
   | (
    go_at_call 35;refine (HC.o _ (Af _ _) HB2.o).mono ?_;rintro e w3 ⟨rfl,hb⟩;obtain ⟨HB3,Np⟩:=Aj (HB2.o.below hb HB2.o.lt) hb;clear hb)
   | (refine Dh rfl 34 (AY 1) (AY 7) rfl bs D rfl rfl 34 _ HB3.o HI.o (by rw [Bb,Fx.o]) Eb.o ?_;intro w4 k4 hb4 hg4))
  go_roundg (N+1 - (pre.length+1))
  case measure=>exact Bc
  refine ⟨pre++[x],by rw [CT];rfl,j4.o _ _ _ (j4.o _ _ _ HJ2.o ⟨⟨Np.o.os,Np.o.tape,Np.o.output,Np.o.size,fun k hk _=>Np.o.block k hk⟩,_,_,_,HB2.o⟩) ⟨hg4,_,_,_,HB3.o⟩,?_,?_⟩
  ·rw [CT]
   show AZ w4 bs 34 (yA (C6 Aq x0 (pre.length+1)));rw [<-sN,<-HX.o,<-vJ.o];exact k4
  have ht3:=HT2.o.below Np.o;exact Cc.grown ht3 hg4 h0b
 ·have HJX:=AF pP
  clear pP hy HR
  gi_wp2
  go_wp2_with fail
  go_end0
  exact .inl ⟨⟨_,rfl⟩,.inr HJX.o⟩
 · exact ⟨rfl,.inr ⟨ch,rfl,aU⟩⟩
open Go.Shelf
attribute [local go_sem] Oper.semAt_some
theorem pn (x:AP) (w:AH):AS prog 140 #[AO (yA x)] w fun e w'=>e=AV (.func (.func 187) #[] #[AU (some ⟨w.heap.size,0,none⟩)])/\w'=w.alloc (AQ (yA x) 34):=by have hmf:∀(fn:Fn) (first cap:Array AK) (w:AH),(Instr.makeFunc fn first cap).run prog w=.ok (.func fn first cap) w:=fun _ _ _ _=>rfl;go_enter func140,ntmps140;go_wp2;go_ret;exact ⟨rfl,rfl⟩
theorem TE.others {bs:Nat} {A C:AH} (h:TE bs A C):KeepsOthers A C:=KeepsOthers.of_grownBy h.1 (fun j o e ho=>by obtain ⟨cs,t,fz,hc⟩:=h.2;cases e;rw [hc] at ho;cases ho;rfl)
theorem KE.trans {bs:Nat} {A B C:AH} (h:KE bs A B) (k:KE bs B C):KE bs A C:=⟨BF h.size k.size,k.own.trans h.own,fun t=>k.tab (h.tab t)⟩
theorem KE.put {bs l:Nat} (W:AH) (o:Obj) (h:bs < l):KE bs W (W.putObj l o):=
 ⟨by simp [World.putObj],World.putObj_heap_other AG,fun t=>⟨by simpa [World.putObj] using t.1,fun i hi=>by have h0:(W.putObj l o).heap[0]? =W.heap[0]? :=World.putObj_heap_other AG;have:=t.2 i hi;unfold World.cell? at this ⊢;rw [h0];exact this⟩⟩
theorem KE.grown {bs:Nat} {A C:AH} {row:Option Nat} (hg:A.grownBy C row) (hb:bs < A.heap.size) (hne:some bs≠row) (h0:some 0≠row):KE bs A C:=
 ⟨hg.size,hg.block bs hb hne,fun t=>⟨Ay t.1 hg.size,fun i hi=>hg.cell (t.2 i hi) h0⟩⟩
theorem Below.book {n B:Nat} {w A C:AH} (h:BK B w A) (hb:Book n A C) (hB:B<=n):BK B w C:=
 h.trans ⟨hb.os,hb.tape,hb.output,hb.size,fun k hk=>hb.block k AG⟩
theorem F6 {n g:Nat} {t:Ae} {cs:Array AK} {A C:AH} (h:AZ A g t cs) (b:Book n A C):AZ C g t cs:=(b.cells _ _ _ _ h).trans h
theorem X7 (x0:AP) (n:Nat) (w:AH) (hl:x0.length=32) (hn:n<=1000) (hT:Cc w):AS prog 91 #[AO (yA x0),AB AE n] w (DW (C6 Aq x0 n) w):=by
 obtain ⟨HL,HT⟩:=Aj hl hT;have Ew:(prog.info? 34).map (·.size)=some 32:=AL
 have HI:=AF Ew;clear hl hT Ew;refine (Ey (n:=8)).1 ?_;refine callsIn_of_wp_marks func91 rfl trivial ?_ rfl;simp only [ntmps91,Pb,Fl,Ph,Nat.reduceAdd,Nat.reduceSub,UO,UQ,UK,UN,Ic,Lx];refine Dq.2 ?_;go_upto_region 1 with fail;have hq:=Ir ((w.alloc (AQ (yA x0) 34)).alloc (AQ #[AB AE (n:Int)] 3)) 34;have kd:AZ ((w.alloc (AQ (yA x0) 34)).alloc (AQ #[AB AE (n:Int)] 3)) w.heap.size 34 (yA x0):=(AZ.new _ _ _).alloc _;have kn:AZ ((w.alloc (AQ (yA x0) 34)).alloc (AQ #[AB AE (n:Int)] 3)) (w.heap.size+1) 3 #[AB AE (n:Int)]:=by
  have:=AZ.new (w.alloc (AQ (yA x0) 34)) 3 #[AB AE (n:Int)]
  rwa [Eg] at this
 have hb0:AJ w ((w.alloc (AQ (yA x0) 34)).alloc (AQ #[AB AE (n:Int)] 3)):=(BP _ _).alloc Ac _;have hs0:((w.alloc (AQ (yA x0) 34)).alloc (AQ #[AB AE (n:Int)] 3)).heap.size=w.heap.size+1+1:=Ac
 generalize ((w.alloc (AQ (yA x0) 34)).alloc (AQ #[AB AE (n:Int)] 3))=w0 at hq kd kn hb0 hs0 ⊢;rw [hs0] at hq;generalize (w0.alloc _)=wa at hq ⊢;obtain ⟨kr,hba,hza⟩:=hq;obtain ⟨KD,KN,KR,H0,HZ⟩:=EG (kd.below hba AG) (kn.below hba AG) kr (hb0.trans (hba.mono AG)) hza;clear hs0 hb0 hba kd kn kr hza;go_wp2_with (first
  | (refine Ca rfl 34 (AY 2) rfl w.heap.size x0 rfl 34 _ KD.o underlying34 rfl HI.o HL.o ?_)
  | (go_at_call 140;refine (pn _ _).mono ?_;rintro e w2 ⟨rfl,rfl⟩))
 obtain ⟨w2,hw2⟩:=Ab (wa.alloc (AQ (yA x0) 34));rw [<-hw2];have kb:AZ w2 wa.heap.size 34 (yA x0):=by rw [hw2];exact AZ.new _ _ _
 have hbW:AJ wa w2:=by rw [hw2];exact bF
 have hz2:w2.heap.size=w.heap.size+1+1+1+1:=by rw [hw2];have:=HZ.o;simp;omega
 have hbs:wa.heap.size=w.heap.size+1+1+1:=HZ.o;obtain ⟨bs,hbe⟩:=Ab wa.heap.size;rw [<-hbe] at kb hbs ⊢;obtain ⟨HD2,Zo,HR2,HB2,HKB⟩:=EG (KD.o.below hbW KD.o.lt) (KN.o.below hbW KN.o.lt) (KR.o.below hbW KR.o.lt) (AW H0.o hbW) kb;clear hw2 kb hbW hbe KD KN KR H0 HZ;subst hbs;refine (Dq (n:=8)).1 ?_;refine Ue (gf:=187) (lb:=#[AU (some ⟨w.heap.size+1+1+1,0,none⟩)]) rfl (enters_of func187 AL rfl)
  (AEY 7 (w.heap.size+1+1+1) x0 w2 HKB.o HL.o (HT.o.below HB2.o) AG) (fun _=>rfl) n
  (fun pre W=>AZ W w.heap.size 34 (yA x0)/\AZ W (w.heap.size+1) 3 #[AB AE ((n - pre.length:Nat):Int)]/\AZ W (w.heap.size+1+1) 34 (yA (zeros 32))/\pre.length<=n/\AJ w W/\w2.heap.size<=W.heap.size)
  (fun W=>AZ W (w.heap.size+1+1) 34 (yA (C6 Aq x0 n))/\AJ w W)
  (fun s A C h t=>⟨h.1.grown t.1 FD,h.2.1.grown t.1 FD,h.2.2.1.grown t.1 FD,h.2.2.2.1,h.2.2.2.2.1.grown t.1 (by have:=h.2.2.2.2.2;omega) (by intro r e;injection e with e;omega),BF h.2.2.2.2.2 t.1.size⟩)
  (fun s A C h b=>⟨F6 h.1 b,F6 h.2.1 b,F6 h.2.2.1 b,h.2.2.2.1,Below.book h.2.2.2.2.1 b AG,BF h.2.2.2.2.2 b.size⟩)
  (fun A C h b=>⟨F6 h.1 b,Below.book h.2 b AG⟩)
  (fun s A h=>h.2.2.2.1) (fun A C h=>h.others) (fun A B C h k=>h.trans k) (fun W l o o' hl h ho=>KE.put W o' AG)
  ⟨HD2.o,Zo.o,HR2.o,Ar _,HB2.o,Ad _⟩
  (fun x a' W=>∃Bx,w2.heap.size<=Bx/\AZ W Bx 34 (yA x)/\a'={tmps:=#[AO (yA x0),AB AE n,AU (some ⟨w.heap.size,0,none⟩),AU (some ⟨w.heap.size+1,0,none⟩),AU (some ⟨w.heap.size+1+1,0,none⟩),AU (some ⟨Bx,0,none⟩),AO (yA x0),.func (.func 187) #[] #[AU (some ⟨w.heap.size+1+1+1,0,none⟩)],AO (yA x),undef,undef,undef,undef,undef,undef],defers:=[]})
  (fun x a' A C h b=>by obtain ⟨Bx,h1,h2,h3⟩:=h;exact ⟨Bx,h1,F6 h2 b,h3⟩)
  ?assign ?body ?done ?ret
 case assign=>
  rintro lp pre x W K ⟨h1,h2,h3,h4,h5,h6⟩ hG hK;have Fx:AI (x.length=32):=AF tT;have HKK:=AF hK;have hzb:=Ir W 34;obtain ⟨K1,K2,K3,K5⟩:=CJ h1 h2 h3 h5;clear hK hG h1 h2 h3 h5
  dsimp only [gq]
  gi_wp2_with (refine JV rfl 34 (AY 5) (AY 8) rfl W.heap.size x rfl rfl 34 (yA (zeros 32)) hzb.1 HI.o EO Fx.o ?_;intro w4 k4 hb4 hg4)
  exact HKK.o _ _ ((KeepsOthers.alloc _ _).trans (TE.others ⟨hg4,_,_,_,hzb.1⟩)) ((KE.grown (Fm W _ none) AG Ac Ac).trans (KE.grown hg4 BX FD FD))
   ⟨(K1.o.alloc _).grown hg4 FD,(K2.o.alloc _).grown hg4 FD,(K3.o.alloc _).grown hg4 FD,h4,(K5.o.alloc K5.o.size _).trans (hb4.mono K5.o.size),BF h6 (BF Ac hg4.size)⟩ ⟨W.heap.size,h6,k4,rfl⟩
 case body=>
  rintro lp pre x a' W ⟨h1,h2,h3,h4,h5,h6⟩ hG ⟨Bx,hBx,hbx,rfl⟩;have Fx:AI (x.length=32):=AF tT;have c0:=h2.cell 0;have f0:=h2.frozen 0;have l0:=h2.lt;simp only [Ai,An] at c0;obtain ⟨K1,K2,K3,K5,KX,HG⟩:=FR h1 h2 h3 h5 hbx hG;obtain ⟨q,hq⟩:=Ab (n - pre.length);rw [<-hq] at c0;have HQ:=AF hq;clear h1 h2 h3 h5 hbx hG hq;by_cases hlt:0 < q
  ·have hq0:¬(q:Int)<=0:=by omega
   gi_wp2
   have hq1:wrap64 ((q:Int) - 1)=((n - (pre.length+1):Nat):Int):=by have:=HQ.o;rw [cJ AG AG];omega
   rw [hq1];exact ⟨KeepsOthers.setCell _ _ _,KE.grown (grownBy_setCell' _ _ _) AG FD FD,
    K1.o.far tC _,K2.o.put 0 _,K3.o.far (by show w.heap.size+1+1≠w.heap.size+1;omega) _,by have:=HQ.o;omega,K5.o.setCell fR _,by omega⟩
  have hq0:(q:Int)<=0:=AG
  gi_wp2_with (first
   | (refine Ih rfl 34 (AY 5) rfl Bx x rfl 34 _ KX.o underlying34 rfl HI.o Fx.o ?_)
   | (refine JV rfl 34 (AY 4) (AY 11) rfl (w.heap.size+1+1) x rfl rfl 34 (yA (zeros 32)) K3.o HI.o EO Fx.o ?_;intro w4 k4 hb4 hg4))
  have hx:x=C6 Aq x0 n:=by have h:=HG.o;have:=HQ.o;rw [show n=pre.length by omega];exact h
  rw [<-hx];exact ⟨TE.others ⟨hg4,_,_,_,K3.o⟩,k4,K5.o.trans (hb4.mono AG)⟩
 case done=>exact fun D xs W _ h _ _=>h.elim
 rintro D W hD ⟨h1,h2⟩ hK
 gi_wp2
 have hne:w.heap.size+1+1≠D:=AG
 refine ⟨by simp,.inl ⟨_,_,rfl,run_takeDeferred hK,?_⟩⟩;have k8:AZ (W.putObj D (.deferred none)) (w.heap.size+1+1) 34 (yA (C6 Aq x0 n)):=(World.putObj_heap_other hne).trans h1;exact ⟨_,OH rfl _ _ (w.heap.size+1+1) 34 (yA (C6 Aq x0 n)) (0,0) _ rfl k8 underlying34 rfl (by rw [Bb,ND _ HL.o];exact HI.o),rfl,h2.trans (belowK_b (w:=w2) AG W D _ _ hD hK rfl rfl)⟩
theorem Di {P:BB} {ops:Array Oper} {rest:List Oper} {o:Oper} {a:Act} {w:AH} {Q:Exit->Act->AH->Prop} (hgd:o.guard=none) (T:Ae) (ho:o.op=.alloc T) (cs:Array AK) (hz:(P.info? T).bind (·.zero)=some (.agg cs))
 (h:wpList P ops Q rest (a.put o.dst (AU (some ⟨w.heap.size,0,none⟩))) (w.alloc (AQ cs T))):wpList P ops Q (o::rest) a w:=by
 obtain ⟨i,hi,hzi⟩:=eQ.1 hz;refine wpList_plain hgd fun K hK=> ?_;unfold Oper.wp execOp;simp [ho,Instr.alloc,zeroValue,typeInfo,hi,hzi,newVar,newRow,Value.cells];exact hK _ _ h
theorem iw {w:AH} {g o n:Nat} {t:Ae} {l:AP} (h:AZ w g t (yA l)) (hl:o+n<=l.length):w.there g o n:=fun j hj=>by rw [Jv h (i:=o+j) AG];exact ⟨rfl,h.frozen _⟩
def FP (f:Nat->AP) (k:Nat):AP:=((List.range k).map f).flatten++zeros ((19 - k)*32)
theorem aV {f:Nat->AP} (hf:∀i,(f i).length=32):∀k,((List.range k).map f).flatten.length=k*32
 | 0=>rfl
 | k+1=>by rw [Pk,DM,Pj,CT,aV hf k];simp [hf];omega
theorem VJ {f:Nat->AP} (hf:∀i,(f i).length=32) {k:Nat} (hk:k<=19):(FP f k).length=608:=by rw [FP,CT,aV hf];simp [zeros];omega
theorem kG {f:Nat->AP} (hf:∀i,(f i).length=32) {k:Nat} (hk:k < 19):splice (FP f k) (k*32) (f k)=FP f (k+1):=by have h:=aV hf k;unfold splice FP;rw [Pk,DM,Pj,hf k,List.take_append_of_le_length AG,Cy AG,List.drop_append,EV AG,h];simp [zeros];congr 1;omega
theorem ACR (f:Nat->AP):FP f 19=((List.range 19).map f).flatten:=by simp [FP,zeros]
theorem vM (f:Nat->AP):FP f 0=zeros 608:=by simp [FP]
theorem AFe:(prog.info? 224).bind (·.zero)=some (AO (yA (zeros 608))):=by kernel_rfl
theorem wK (seed:AP) (w:AH) (hl:seed.length=32) (hT:Cc w):AS prog 76 #[AO (yA seed)] w (DW (Ii Aq seed) w):=by
 obtain ⟨HL,HT⟩:=Aj hl hT;have Ew:(prog.info? 34).map (·.size)=some 32:=AL
 have HI:=AF Ew;have dS:(prog.info? 224).map (·.size)=some 608:=AL
 obtain ⟨HI2,HZ2⟩:=Aj dS AFe;obtain ⟨f,hf⟩:∃f:Nat->AP,f=fun i=>C6 Aq (Hi Aq seed i) 3:=⟨_,rfl⟩;have LU:AI (∀i,(f i).length=32):=AF (fun i=>by rw [hf];exact ND _ bZ);obtain ⟨Z,hZ⟩:=Ab (Ii Aq seed);have Ib:AI (Z.length=32):=AF (by rw [hZ,Ii,JB];exact C3 _ _);have HP:AI (∀W,AJ w W->AS prog 122 #[AO (yA (FP f 19))] W (DW Z W)):=AF (fun W hW=>by have:=XY (FP f 19) W (VJ LU.o (Ad _)) (hT.below hW);rw [hZ,Ii,JB];rw [ACR] at this ⊢;rw [hf] at this ⊢;exact this)
 have YS:AI (∀(i:Nat),i < 19->∀W,AJ w W->AS prog 92 #[AO (yA seed),AB AE i] W (DW (Hi Aq seed i) W)):=AF (fun i hi W hW=>je seed i W hl AG (hT.below hW));have HAF:AI (∀(i:Nat),∀W,AJ w W->AS prog 91 #[AO (yA (Hi Aq seed i)),AB AE 3] W (DW (f i) W)):=AF (fun i W hW=>by rw [hf];exact X7 (Hi Aq seed i) 3 W bZ AG (hT.below hW));rw [<-hZ];clear hl hT Ew dS hf hZ;go_enter func76,ntmps76;go_upto_region 1 with fail;have hq:=Ir (w.alloc (AQ (yA seed) 34)) 34;have kd:AZ (w.alloc (AQ (yA seed) 34)) w.heap.size 34 (yA seed):=AZ.new _ _ _;have hb0:AJ w (w.alloc (AQ (yA seed) 34)):=(Af _ _).alloc (Ad _) _;have hs0:(w.alloc (AQ (yA seed) 34)).heap.size=w.heap.size+1:=Ac
 generalize (w.alloc (AQ (yA seed) 34))=w0 at hq kd hb0 hs0 ⊢;rw [hs0] at hq;generalize (w0.alloc _)=wa at hq ⊢;obtain ⟨kr,hba,hza⟩:=hq;obtain ⟨KD,KR,KA,HB,YF⟩:=EG ((kd.below hba AG).alloc (AQ (yA (zeros 608)) 224)) (kr.alloc (AQ (yA (zeros 608)) 224)) (AZ.new wa 224 (yA (zeros 608))) ((hb0.trans (hba.mono AG)).alloc AG (AQ (yA (zeros 608)) 224)) hza;clear hs0 hb0 hba kd kr hza;go_wp2_with (refine Di rfl 224 rfl _ HZ2.o ?_);go_loopg [5] 19 (fun q i wr=>∃k:Nat,k<=19/\q=19 - k/\i=AB AE k/\AZ wr w.heap.size 34 (yA seed)/\AZ wr (w.heap.size+1) 34 (yA (zeros 32))/\AZ wr wa.heap.size 224 (yA (FP f k))/\AJ w wr)
 case atStart=>exact ⟨0,Ar _,rfl,rfl,KD.o,KR.o,by rw [vM];exact KA.o,HB.o⟩
 clear KD KR KA HB;obtain ⟨k,hk,hq,rfl,h1,h2,h3,h4⟩:=hrel;obtain ⟨HQ,KD,KR,KA,HB⟩:=EG hq h1 h2 h3 h4;clear hq h1 h2 h3 h4;by_cases hlt:k < 19
 ·have hk0:=Int.natCast_nonneg k
  have hk1:(k:Int) < 19:=AG
  have hb1:=YS.o k hlt;have ha1:=HAF.o k;obtain ⟨B,hB⟩:=Ab (Hi Aq seed k);rw [<-hB] at hb1 ha1;obtain ⟨D,hD⟩:=Ab (f k);rw [<-hD] at ha1;have WR:D.length=32:=by rw [hD];exact LU.o k
  obtain ⟨HB1,HA1,vJ⟩:=Az hb1 ha1 hD;have OZ:AI (∀W,AZ W wa.heap.size 224 (yA (FP f k))->W.there wa.heap.size (k*32) (yA D).size):=AF (fun W h=>by rw [Bb,WR];exact iw h (by rw [VJ LU.o hk];omega));have CV:AI ((prog.info? 34).map (·.size)=some (yA D).size):=AF (by rw [Bb,WR];exact HI.o);obtain ⟨Eb,LQ⟩:=Aj WR hlt;clear hb1 ha1 hB hD WR hlt;go_wp2_with (first
   | (refine Ca rfl 34 (AY 1) rfl w.heap.size seed rfl 34 _ KD.o underlying34 rfl HI.o HL.o ?_)
   | (
    go_at_call 92;refine (HB1.o _ HB.o).mono ?_;rintro e w2 ⟨rfl,hb⟩;obtain ⟨KD2,NG,dr,HB2⟩:=CJ (KD.o.below hb KD.o.lt) (KR.o.below hb KR.o.lt) (KA.o.below hb KA.o.lt) (AW HB.o hb);clear hb)
   | (
    go_at_call 91;refine (HA1.o _ HB2.o).mono ?_;rintro e w3 ⟨rfl,hb⟩;obtain ⟨KD3,Q7,Zj,HB3⟩:=CJ (KD2.o.below hb KD2.o.lt) (NG.o.below hb NG.o.lt) (dr.o.below hb dr.o.lt) (AW HB2.o hb);clear hb)
   | (refine N9 rfl 34 (AY 13) (AY 12) rfl wa.heap.size (k*32) (yA D) rfl rfl (OZ.o _ Zj.o) CV.o (GH D) ?_))
  go_roundg (19 - (k+1))
  case measure=>exact bt
  have hlt:=LQ.o;have hz:=YF.o;have hbb:BK wa.heap.size w3 (w3.setCells wa.heap.size (k*32) (yA D).toList):=below_setCells _ _ _ _ (Af _ _) (Ad _);refine ⟨k+1,by omega,rfl,by go_num,(hbb.block _ AG).trans KD3.o,(hbb.block _ AG).trans Q7.o,?_,HB3.o.trans (hbb.mono AG)⟩;rw [<-kG LU.o hlt,<-vJ.o];exact zf
 have h19:k=19:=AG
 subst h19;have CV:AI ((prog.info? 224).map (·.size)=some (yA (FP f 19)).size):=AF tZ;obtain ⟨F,hF⟩:=Ab (FP f 19);rw [<-hF] at CV KA HP;clear hF hlt;go_wp2_with (first
  | (refine Cm rfl 224 (AY 3) rfl wa.heap.size rfl 224 (yA F) (0,0) _ KA.o underlying224 rfl CV.o ?_)
  | (
   go_at_call 122;refine (HP.o _ HB.o).mono ?_;rintro e w2 ⟨rfl,hb⟩;obtain ⟨NG,HB2⟩:=Aj (KR.o.below hb KR.o.lt) (AW HB.o hb);clear hb)
  | (refine DS rfl 34 (AY 2) (AY 16) rfl (w.heap.size+1) Z rfl rfl 34 _ NG.o HI.o EO Ib.o ?_;intro w4 k4 hb4))
 exact VW (.inl rfl) rfl rfl rfl k4 underlying34 rfl HI.o Ib.o (HB2.o.trans (hb4.mono (Ed _)))
theorem bx (w:AH) (cs:Array AK) (T:Ae):AZ (w.alloc (AQ cs T)) w.heap.size T cs/\BK w.heap.size w (w.alloc (AQ cs T))/\(w.alloc (AQ cs T)).heap.size=w.heap.size+1:=
 ⟨AZ.new _ _ _,(Af _ _).alloc (Ad _) _,by simp⟩
theorem Ny {w:AH} {base base':Nat} {e:Ae} {size:Nat} {v:AK} {n:Nat} {xs:List AK} (h:w.ownsRow base e size v n xs) (hb:base'<=base):w.ownsRow base' e size v n xs:=by
 refine ⟨h.1,?_⟩;rcases h.2 with h2 | ⟨g,cap,cur,hv,hg,r⟩
 · exact .inl h2
 · exact .inr ⟨g,cap,cur,hv,BF hb hg,r⟩
theorem Da {w:AH} {base g:Nat} {e:Ae} {size:Nat} {v:AK} {n:Nat} {xs:List AK} (h:w.ownsRow base e size v n xs) (hg:g < base):some g≠v.ownBlock:=by intro e2;have:=(h.lt g e2.symm).1;omega
theorem gx:∃(j:TypeInfo) (z:AK),prog.info? 34=some j/\j.zero=some z/\z.cells.size=32/\j.size=32/\j.bytes=32:=by obtain ⟨j,hj,hz⟩:=Ds.1 (show (prog.info? 34).map (fun i=>(i.zero.map (·.cells.size),i.size,i.bytes))=some (some 32,32,32) by kernel_rfl);simp only [GD] at hz;obtain ⟨z,hz0,hz1⟩:=Ds.1 hz.1;exact ⟨j,z,hj,hz0,hz1,hz.2⟩
theorem Du:(prog.info? 34).map (·.size)=some 32:=by kernel_rfl
theorem iz (m:AP) (k:Nat) (hk:k < 19):∃d:Nat,(Dk m)[k]? =some (d:Int)/\(Dk m).getD k 0=(d:Int)/\d<=3:=by
 have h:=VQ (m:=m) _ (UJ (show k < (Dk m).length by rw [LX];exact hk));refine ⟨((Dk m)[k]' fI).toNat,?_,?_,by omega⟩
 · rw [BJ fI];congr 1;omega
 · rw [C0,BJ fI];simp only [Ce];omega
theorem AFc {l:AP} {k:Nat} {x:Int} (h:l[k]? =some x) (hk:k < 19) (w:AH):(Instr.index 181 (AO (iA l)) (AB AE (k:Int))).run prog w=.ok (AB AE x) w:=by
 have hx:(iA l)[k]? =some (AB AE x):=by rw [iA,Ai,Be,h];rfl
 have hk':(0:Int)<=(k:Int)/\(k:Int) < ((19:Nat):Int):=AG
 obtain ⟨j,hj,hz⟩:=Ds.1 (show (prog.info? 3).map (·.size)=some 1 by kernel_rfl);simp only [Instr.index,asIntOf,Cs,DL,Result.andThen_ok,UV underlying181,hk',and_self,Ct];simp [sizeOf,part,isAgg,run_underlying underlying3,hx,typeInfo,hj,hz]
theorem nS (seed m:AP) (w:AH) (hs:seed.length=32) (hm:m.length=32) (hr:∀x∈m,0<=x/\x < 256) (hT:Cc w):
 AS prog 63 #[AO (yA seed),AO (yA m)] w (Qw (J0 Aq seed m) w):=by
 obtain ⟨HS,HM⟩:=Aj hs hm;have WY:AI (∀W,AJ w W->AS prog 89 #[AO (yA m)] W (qE (Dk m) W)):=AF (fun W hW=>XK m W hm hr);have YS:AI (∀(i:Nat),i < 19->∀W,AJ w W->AS prog 92 #[AO (yA seed),AB AE i] W (DW (Hi Aq seed i) W)):=AF (fun i hi W hW=>je seed i W hs AG (hT.below hW));have HAF:AI (∀(i d:Nat),d<=3->∀W,AJ w W->AS prog 91 #[AO (yA (Hi Aq seed i)),AB AE d] W (DW (C6 Aq (Hi Aq seed i) d) W)):=AF (fun i d hd W hW=>X7 (Hi Aq seed i) d W bZ AG (hT.below hW));have LU:AI (∀(i d:Nat),(C6 Aq (Hi Aq seed i) d).length=32):=AF (fun i d=>ND _ bZ);have Sj:AI (∀(k:Nat),k < 19->∃d:Nat,(Dk m)[k]? =some (d:Int)/\(Dk m).getD k 0=(d:Int)/\d<=3):=AF (fun k hk=>iz m k hk);obtain ⟨L,hL⟩:=Ab (Dk m);have jx:AI (L.length=19):=AF (by rw [hL];exact LX m);obtain ⟨f,hf⟩:∃f:Nat->AP,f=fun i=>C6 Aq (Hi Aq seed i) (L.getD i 0).toNat:=⟨_,rfl⟩;have hz:J0 Aq seed m=(List.range 19).map f:=by rw [hf,hL];rfl
 rw [hz];obtain ⟨R,hR⟩:=Ab ((List.range 19).map f);have HRE:=AF hR;rw [<-hR];rw [<-hL] at WY Sj;obtain ⟨j0,z0,hj⟩:=gx;obtain ⟨HJ,CV,HF⟩:=Az hj Du hf;clear hs hm hr hT hL hj hz hf hR;go_enter func63,ntmps63;go_upto_region 1 with fail;obtain ⟨k1,b1,s1⟩:=bx w (yA seed) 34;obtain ⟨k2,b2,s2⟩:=bx (w.alloc (AQ (yA seed) 34)) (yA m) 34;generalize ((w.alloc (AQ (yA seed) 34)).alloc (AQ (yA m) 34))=w2 at k2 b2 s2 ⊢;generalize (w.alloc (AQ (yA seed) 34))=w1 at k1 b1 s1 k2 b2 s2 ⊢;rw [s1] at k2 b2 s2;obtain ⟨KS,KM,HB,HZ⟩:=CJ (k1.below b2 AG) k2 (b1.trans (b2.mono AG)) s2;clear k1 b1 k2 b2 s2 s1;go_wp2_with (first
  | (refine Ca rfl 34 (AY 3) rfl (w.heap.size+1) m rfl 34 _ KM.o underlying34 rfl CV.o HM.o ?_)
  | (
   go_at_call 89;refine (WY.o _ HB.o).mono ?_;rintro e w3 ⟨rfl,hb⟩;obtain ⟨KS3,HB3⟩:=Aj (KS.o.below hb KS.o.lt) (AW HB.o hb);have Gr:AI (w.heap.size+2<=w3.heap.size):=AF (by have:=hb.size;have:=HZ.o;omega);clear hb))
 go_loopg [4,9] 19 (fun q v i wr=>∃k:Nat,k<=19/\q=19 - k/\i=AB AE k/\AZ wr w.heap.size 34 (yA seed)/\(∃cs,wr.ownsRow (w.heap.size+2) 34 32 v k cs/\Ao 32 CQ wr cs ((List.range k).map f))/\w.heap.size+2<=wr.heap.size/\AJ w wr)
 case atStart=>exact ⟨0,Ar _,rfl,rfl,KS3.o,⟨[],ED _ _ _ _,Ao.nil⟩,Gr.o,HB3.o⟩
 clear KS KM HB KS3 HB3 Gr;obtain ⟨k,hk,hq,rfl,h1,⟨cs,h2,h3⟩,h4,h5⟩:=hrel;obtain ⟨HQ,KS,HO,HC,jm,HB⟩:=FR hq h1 h2 h3 h4 h5;clear hq h1 h2 h3 h4 h5;by_cases hlt:k < 19
 ·have hk0:=Int.natCast_nonneg k
  have hk1:(k:Int) < 19:=AG
  obtain ⟨d,hd1,hd2,hd3⟩:=Sj.o k hlt;have hix:=fun W=>AFc hd1 hlt W;obtain ⟨BV,vL⟩:=Aj (YS.o k hlt) (HAF.o k d hd3);obtain ⟨B,hB⟩:=Ab (Hi Aq seed k);obtain ⟨D,hD⟩:=Ab (C6 Aq B d);have YP:AI (f k=D):=AF (by rw [HF.o,hD,hB];simp only [hd2,CZ]);have hDl:D.length=32:=by rw [hD,hB];exact LU.o k d
  rw [<-hB] at BV vL;rw [<-hD] at vL;have Eb:=AF hDl;have hys:(yA D).size=32:=by rw [Bb,hDl]
  have hfl:=Uu D hDl;have LQ:=AF hlt;clear hB hD hd1 hd2 hd3 hDl hlt;go_wp2_with (first
   | (refine Ca rfl 34 (AY 2) rfl w.heap.size seed rfl 34 _ KS.o underlying34 rfl CV.o HS.o ?_)
   | (
    go_at_call 92;refine (BV.o _ HB.o).mono ?_;rintro e w3 ⟨rfl,hb⟩;obtain ⟨KS3,JD,VC,HB3⟩:=CJ (KS.o.below hb KS.o.lt) (EX HO.o hb) (BF jm.o hb.size) (AW HB.o hb);clear hb)
   | (
    go_at_call 91;refine (vL.o _ HB3.o).mono ?_;rintro e w4 ⟨rfl,hb⟩;obtain ⟨KS4,Qq,jl,HB4⟩:=CJ (KS3.o.below hb KS3.o.lt) (EX JD.o hb) (BF VC.o hb.size) (AW HB3.o hb);clear hb)
   | (at_builtin;refine Cb _ rfl (AY 13) (AY 19) 37 34 rfl j0 z0 32 underlying37 HJ.o.1 HJ.o.2.1 HJ.o.2.2.2.1 HJ.o.2.2.2.2 HJ.o.2.2.1 BE (R:=CQ) Vw (w.heap.size+2) _ _ _ rfl (Qq.o.alloc _) (some ⟨w4.heap.size,0,none⟩) 1 1 [D] rfl (ZA w4 D Eb.o) Gj AG (by have:=jl.o;simp;omega) ?_;intro v' w5 Ng hc5 GN hg5 OS))
  go_roundg (19 - (k+1))
  case measure=>exact bt
  have h6:=jl.o;have hsz:=hg5.size;simp only [Eg] at hsz;refine ⟨k+1,by have:=LQ.o;omega,rfl,by go_num,(KS4.o.alloc _).grown hg5 (Da Qq.o AG),⟨cs++Ng,GN,?_⟩,by omega,(HB4.o.alloc HB4.o.size _).grown hg5 BX (fun r hr=>by have:=(Qq.o.lt r hr).1;omega)⟩;rw [Pk,DM];exact (Ik HC.o).append (by rw [show [k].map f=[D] by rw [Fi,YP.o];rfl];exact hc5)
 have h19:k=19:=AG
 subst h19;go_wp2;go_ret;rw [HRE.o];exact ⟨_,cs,rfl,by rw [CX,Yf];exact Ny HO.o AG,HC.o,HB.o⟩
theorem rQ (m:AP) (A:Option Addr) (n c:Nat) (s:List (AP)) (w:AH) (hm:m.length=32) (hr:∀x∈m,0<=x/\x < 256) (hT:Cc w) (hs:Ag 32 CQ w (AA A n c) s):
 AS prog 82 #[AO (yA m),AA A n c] w (V3 (if s.length=19 then Hg Aq m s else zeros 32) (if s.length=19 then 0 else 50) w):=by
 obtain ⟨HM,HS,H9⟩:=Az hm hs hs.len;have hnc:=hs.le;have CV:=AF Du;have dS:(prog.info? 224).map (·.size)=some 608:=AL
 obtain ⟨HI2,HZ2,HT,HR⟩:=CJ dS AFe hT hr;clear hm hr hT hs dS;by_cases h19:n=19
 ·subst h19
  have hsl:s.length=19:=H9.o.symm;rw [Am hsl,Am hsl];have WY:AI (∀W,AJ w W->AS prog 89 #[AO (yA m)] W (qE (Dk m) W)):=AF (fun W hW=>XK m W HM.o HR.o);have Sj:AI (∀(k:Nat),k < 19->∃d:Nat,(Dk m)[k]? =some (d:Int)/\(Dk m).getD k 0=(d:Int)/\d<=3):=AF (fun k hk=>iz m k hk);obtain ⟨L,hL⟩:=Ab (Dk m);obtain ⟨f,hf⟩:∃f:Nat->AP,f=fun i=>if i < 19 then C6 Aq (s.getD i []) (3 - L.getD i 0).toNat else zeros 32:=⟨_,rfl⟩
  have HEL:AI (∀k,k < 19->∃x,s[k]? =some x/\x.length=32):=AF (fun k hk=>by obtain ⟨_,_,x,_,_,hx,hxl,_⟩:=GU HS.o hk;exact ⟨x,hx,hxl⟩)
  have vI:AI (∀k x,k < 19->s[k]? =some x->f k=C6 Aq x (3 - L.getD k 0).toNat):=AF (fun k x hk hx=>by rw [hf];simp only [Am hk];rw [C0,hx];rfl);have LU:AI (∀i,(f i).length=32):=AF (fun i=>by
   rw [hf];by_cases h:i < 19
   ·obtain ⟨x,hx,hxl⟩:=HEL.o i h
    simp only [Am h];rw [C0,hx];exact ND _ hxl
   · simp only [Ah h];simp [zeros])
  obtain ⟨Z,hZ⟩:=Ab (Hg Aq m s);have Ib:AI (Z.length=32):=AF (by rw [hZ,Hg,JB];exact C3 _ _);have HP:AI (∀W,AJ w W->AS prog 122 #[AO (yA (FP f 19))] W (DW Z W)):=AF (fun W hW=>by
   have:=XY (FP f 19) W (VJ LU.o (Ad _)) (HT.o.below hW);have e:(List.range 19).map f=(List.range 19).map fun i=>C6 Aq (s.getD i []) (3 - (Dk m).getD i 0).toNat:=List.map_congr_left fun i hi=>by rw [hf,hL];simp only [Am (Ef.1 hi)]
   rw [hZ,Hg,JB,<-e,<-ACR];exact this)
  have HAF:AI (∀(x:AP) (d:Nat),x.length=32->d<=3->∀W,AJ w W->AS prog 91 #[AO (yA x),AB AE d] W (DW (C6 Aq x d) W)):=AF (fun x d hx hd W hW=>X7 x d W hx AG (HT.o.below hW));rw [<-hZ];rw [<-hL] at WY Sj;clear hf hZ hL HT HR H9;go_enter func82,ntmps82;go_upto_region 1 with fail;obtain ⟨k1,b1,s1⟩:=bx w (yA m) 34;have hq:=Ir (w.alloc (AQ (yA m) 34)) 34;generalize (w.alloc (AQ (yA m) 34))=w0 at hq k1 b1 s1 ⊢;rw [s1] at hq;generalize (w0.alloc _)=wa at hq ⊢;obtain ⟨kr,hba,hza⟩:=hq;obtain ⟨KM,KR,HB,YF⟩:=CJ (k1.below hba AG) kr (b1.trans (hba.mono AG)) hza;clear s1 b1 hba k1 kr hza;go_wp2_with (first
   | (refine Di rfl 224 rfl _ HZ2.o ?_)
   | (refine Ca rfl 34 (AY 2) rfl w.heap.size m rfl 34 _ (KM.o.alloc _) underlying34 rfl CV.o HM.o ?_)
   | (
    go_at_call 89;refine (WY.o _ (HB.o.alloc HB.o.size _)).mono ?_;rintro e w3 ⟨rfl,hb⟩;obtain ⟨Q7,Zj,HB3⟩:=Az ((KR.o.alloc (AQ (yA (zeros 608)) 224)).below hb (KR.o.alloc _).lt) ((AZ.new wa 224 (yA (zeros 608))).below hb (AZ.new _ _ _).lt) ((HB.o.alloc HB.o.size (AQ (yA (zeros 608)) 224)).trans (hb.mono (HB.o.alloc HB.o.size _).size));clear hb))
  go_loopg [15] 19 (fun q i wr=>∃k:Nat,k<=19/\q=19 - k/\i=AB AE k/\AZ wr (w.heap.size+1) 34 (yA (zeros 32))/\AZ wr wa.heap.size 224 (yA (FP f k))/\AJ w wr)
  case atStart=>exact ⟨0,Ar _,rfl,rfl,Q7.o,by rw [vM];exact Zj.o,HB3.o⟩
  clear KR KM HB Q7 Zj HB3;obtain ⟨k,hk,hq,rfl,h2,h3,h4⟩:=hrel;obtain ⟨HQ,KR,KA,HB⟩:=CJ hq h2 h3 h4;clear hq h2 h3 h4;by_cases hlt:k < 19
  ·have hk0:=Int.natCast_nonneg k
   have hk1:(k:Int) < 19:=AG
   obtain ⟨d,hd1,hd2,hd3⟩:=Sj.o k hlt;have hix:=fun W=>AFc hd1 hlt W;have hdw:IntKind.i64.wrap (3 - (d:Int))=((3 - d:Nat):Int):=by rw [Bv _ AG];omega
   obtain ⟨b,off,x,rfl,hbl,hx,hxl,_,hrg⟩:=GU (HS.o.mono BL HB.o) hlt;have vL:=AF (HAF.o x (3 - d) hxl AG);obtain ⟨D,hD⟩:=Ab (C6 Aq x (3 - d));have vJ:AI (f k=D):=AF (by rw [vI.o k x hlt hx,hD,hd2];congr 1;omega);rw [<-hD] at vL;have WR:D.length=32:=by rw [<-vJ.o];exact LU.o k
   have OZ:AI (∀W,AZ W wa.heap.size 224 (yA (FP f k))->W.there wa.heap.size (k*32) (yA D).size):=AF (fun W h=>by rw [Bb,WR];exact iw h (by rw [VJ LU.o hk];omega));have HS2:AI ((prog.info? 34).map (·.size)=some (yA D).size):=AF (by rw [Bb,WR];exact CV.o);obtain ⟨Eb,LQ,Fx,Oa⟩:=CJ WR hlt hxl hrg;clear hD hd1 hd2 WR hx hxl hrg hlt hbl;go_wp2_with (first
    | (refine Iu rfl 34 (AY 22) rfl b (off+k*32) rfl x _ Oa.o underlying34 rfl CV.o Fx.o ?_)
    | (
     go_at_call 91;refine (vL.o _ HB.o).mono ?_;rintro e w3 ⟨rfl,hb⟩;obtain ⟨Q7,Zj,HB3⟩:=Az (KR.o.below hb KR.o.lt) (KA.o.below hb KA.o.lt) (AW HB.o hb);clear hb)
    | (refine N9 rfl 34 (AY 27) (AY 26) rfl wa.heap.size (k*32) (yA D) rfl rfl (OZ.o _ Zj.o) HS2.o (GH D) ?_))
   go_roundg (19 - (k+1))
   case measure=>exact bt
   have hlt:=LQ.o;have hz:=YF.o;have hbb:BK wa.heap.size w3 (w3.setCells wa.heap.size (k*32) (yA D).toList):=below_setCells _ _ _ _ (Af _ _) (Ad _);refine ⟨k+1,by omega,rfl,by go_num,(hbb.block _ AG).trans Q7.o,?_,HB3.o.trans (hbb.mono AG)⟩;rw [<-kG LU.o hlt,vJ.o];exact zf
  have h19:k=19:=AG
  subst h19;have HS2:AI ((prog.info? 224).map (·.size)=some (yA (FP f 19)).size):=AF tZ;obtain ⟨F,hF⟩:=Ab (FP f 19);rw [<-hF] at HS2 KA HP;clear hF hlt;go_wp2_with (first
   | (refine Cm rfl 224 (AY 6) rfl wa.heap.size rfl 224 (yA F) (0,0) _ KA.o underlying224 rfl HS2.o ?_)
   | (
    go_at_call 122;refine (HP.o _ HB.o).mono ?_;rintro e w2 ⟨rfl,hb⟩;obtain ⟨NG,HB2⟩:=Aj (KR.o.below hb KR.o.lt) (AW HB.o hb);clear hb)
   | (refine DS rfl 34 (AY 4) (AY 30) rfl (w.heap.size+1) Z rfl rfl 34 _ NG.o CV.o EO Ib.o ?_;intro w4 k4 hb4))
  exact XQ (.inl rfl) rfl rfl rfl rfl k4 underlying34 rfl CV.o Ib.o (HB2.o.trans (hb4.mono (Ed _)))
 have hsl:¬s.length=19:=by rw [<-H9.o];exact h19
 rw [Ah hsl,Ah hsl];have hne:((n:Int)==19)=false:=by simp;omega
 have hne':¬(n:Int)=19:=AG
 clear CV HI2 HZ2 HT HR HS hsl H9;have CV:=AF Du;go_enter func82,ntmps82;go_upto_region 1 with fail;obtain ⟨k1,b1,s1⟩:=bx w (yA m) 34;have hq:=Ir (w.alloc (AQ (yA m) 34)) 34;generalize (w.alloc (AQ (yA m) 34))=w0 at hq k1 b1 s1 ⊢;rw [s1] at hq;generalize (w0.alloc _)=wa at hq ⊢;obtain ⟨kr,hba,hza⟩:=hq;obtain ⟨KR,HB⟩:=Aj kr (b1.trans (hba.mono AG));clear s1 b1 hba k1 kr hza;go_wp2_with (first
  | (refine Ca rfl 34 (AY 4) rfl (w.heap.size+1) (zeros 32) rfl 34 _ KR.o underlying34 rfl CV.o rfl ?_)
  | (refine DS rfl 34 (AY 4) (AY 12) rfl (w.heap.size+1) (zeros 32) rfl rfl 34 (yA (zeros 32)) KR.o CV.o EO rfl ?_;intro w4 k4 hb4))
 exact XQ (.inl rfl) rfl rfl rfl rfl k4 underlying34 rfl CV.o rfl (HB.o.trans (hb4.mono (Ed _)))
attribute [local go_sem] Oper.semAt_some
def WH (s:AP) (n:Nat):Nat->AP
 | 0=>s++zeros 4
 | i+1=>(WH s n i).set (32+i) ((n / 2 ^ (24 - 8*i) % 256:Nat):Int)
theorem AF2 {s:AP} {n:Nat} (hs:s.length=32):WH s n 4=s++bytes4 n:=by simp [WH,bytes4,zeros,hs]
theorem Y5 {s:AP} {n:Nat} (hs:s.length=32):∀i,(WH s n i).length=36
 | 0=>by simp [WH,zeros,hs]
 | i+1=>by rw [WH,D8];exact Y5 hs i
theorem AJh:(prog.info? 185).bind (·.zero)=some (AO (yA (zeros 36))):=by kernel_rfl
theorem uj {w:AH} {g:Nat} {t:Ae} {l:AP} (h:AZ w g t (yA l)):∀(j:Nat) (v:AK),(l.map (Value.int .u8))[j]? =some v->w.cell? ((Addr.mk g 0 none).add j)=some v:=fun j v hv=>by
 have e:(Addr.mk g 0 none).add j=⟨g,0+j,none⟩:=by
  unfold Addr.add;split
  · subst_vars;rfl
  · rfl
 rw [e,Ex,h.cell,yA,Ai];exact hv
theorem Z6 (seed:AP) (k:Nat) (w:AH) (hs:seed.length=32) (hk:k<=256) (hT:Cc w):
 AS prog 64 #[AO (yA seed),AB AE k] w (DW (J7 Aq seed k) w):=by
 obtain ⟨HS,HZ,CV⟩:=Az hs AJh Du;obtain ⟨D,hD⟩:=Ab (J7 Aq seed k);have Eb:AI (D.length=32):=AF (by rw [hD,J7];exact C3 _ _);have HC:AI (∀g W,AJ w W->AZ W g 185 (yA (WH seed k 4))->AS prog 35 #[.string {data:=#[108,101,97,102]},AA (some ⟨g,0,none⟩) 36 36] W (DW D W)):=AF (fun g W hW hb=>by have hy:=GV hb (by rw [Y5 hs];omega);rw [Y5 hs] at hy;rw [hD,J7,<-AF2 hs];exact IC {data:=#[108,101,97,102]} _ 36 36 _ W BE (hT.below hW) hy)
 have H9:AI (∀i,(WH seed k i).length=36):=AF (fun i=>Y5 hs i);rw [<-hD];clear hs hD hT;go_enter func64,ntmps64;go_upto_region 1 with fail;obtain ⟨k1,b1,s1⟩:=bx w (yA seed) 34;have hq:=Ir (w.alloc (AQ (yA seed) 34)) 34;generalize (w.alloc (AQ (yA seed) 34))=w0 at hq k1 b1 s1 ⊢;rw [s1] at hq;generalize (w0.alloc _)=wa at hq ⊢;obtain ⟨kr,hba,hza⟩:=hq;obtain ⟨k3,b3,s3⟩:=bx wa (yA (zeros 36)) 185;obtain ⟨KS,KR,HB,KB,YF⟩:=EG ((k1.below hba AG).below b3 AG) (kr.below b3 AG) ((b1.trans (hba.mono AG)).trans (b3.mono AG)) k3 hza;have HSR:=AF (uj (KS.o.drew));clear s1 b1 hba k1 kr hza k3 b3 s3;go_wp2_with (refine Di rfl 185 rfl _ HZ.o ?_);generalize wa.alloc (AQ (yA (zeros 36)) 185)=wb at *
 go_region_held3 (fun _=>True) (trivial) (first
  | (
   refine step_copy_splice rfl (AY 7) (AY 8) 92 92 rfl 5 underlying92 AL _ _ _ _ _ _ rfl rfl wa.heap.size 0 ((zeros 36).map (Value.int .u8)) 185 KB.o.drew (seed.map (Value.int .u8)) (by rw [CX,HS.o];rfl) (fun _=>⟨rfl,_,rfl,HSR.o⟩) (by rw [CX,HS.o];simp [zeros]) (Y9 seed) wa.heap.size wb.drew (Af _ _) (Ad _) ?_;intro w4 hg4 hb4)
  | fail)
 have K4:AZ w4 wa.heap.size 185 (yA (WH seed k 0)):=by have h:_=_:=hg4;rw [<-dH,show splice (zeros 36) 0 seed=WH seed k 0 by simp [splice,WH,zeros,HS.o]] at h;exact h
 obtain ⟨KA,KR4,HB4⟩:=Az K4 (KR.o.drew.below hb4 Rt) (HB.o.drew.trans (hb4.mono Rt));clear hg4 hb4 K4;go_wp2_with fail;go_loopg [10] 4 (fun q i wr=>∃j:Nat,j<=4/\q=4 - j/\i=AB AE j/\AZ wr (w.heap.size+1) 34 (yA (zeros 32))/\AZ wr wa.heap.size 185 (yA (WH seed k j))/\AJ w wr)
 case atStart=>exact ⟨0,Ar _,rfl,rfl,KR4.o,KA.o,HB4.o⟩
 obtain ⟨j,hj,hq,rfl,h1,h2,h3⟩:=hrel;obtain ⟨HQ,Nl,KA5,CW⟩:=CJ hq h1 h2 h3;have hl:=H9.o j;by_cases hlt:j < 4
 ·have fz:=h2.frozen (32+j)
  have c0:=Jv h2 (i:=32+j) AG;obtain ⟨YI,LQ⟩:=Aj (Wz h2 (32+j) (((k / 2 ^ (24 - 8*j) % 256:Nat)):Int)) hlt;clear hq h1 h2 h3 HSR KA KR4 HB4;have hc:j=0\/j=1\/j=2\/j=3:=AG
  rcases hc with rfl | rfl | rfl | rfl
  ·go_wp2
   go_roundg (4 - (0+1))
   case measure=>exact Bc
   refine ⟨1,by omega,rfl,rfl,Nl.o.far bq _,?_,CW.o.setCell bk _⟩;rw [show (k:Int) / 16777216=((k / 16777216 % 256:Nat):Int) by omega];exact YI.o
  ·go_wp2
   go_roundg (4 - (1+1))
   case measure=>exact Bc
   refine ⟨2,by omega,rfl,rfl,Nl.o.far bq _,?_,CW.o.setCell bk _⟩;rw [show (k:Int) / 65536=((k / 65536 % 256:Nat):Int) by omega];exact YI.o
  ·go_wp2
   go_roundg (4 - (2+1))
   case measure=>exact Bc
   refine ⟨3,by omega,rfl,rfl,Nl.o.far bq _,?_,CW.o.setCell bk _⟩;rw [show (k:Int) / 256=((k / 256 % 256:Nat):Int) by omega];exact YI.o
  go_wp2;go_roundg (4 - (3+1))
  case measure=>exact Bc
  refine ⟨4,by omega,rfl,rfl,Nl.o.far bq _,?_,CW.o.setCell bk _⟩;rw [show (k:Int) % 256=((k / 1 % 256:Nat):Int) by omega];exact YI.o
 have h4:j=4:=AG
 subst h4;clear hq h1 h2 h3 HSR KA KR4 HB4 hlt hl;go_wp2_with (first
  | (
   go_at_call 35;refine (HC.o _ _ CW.o KA5.o).mono ?_;rintro e w3 ⟨rfl,hb⟩;obtain ⟨dq,FK⟩:=Aj (Nl.o.below hb Nl.o.lt) (AW CW.o hb);clear hb)
  | (refine DS rfl 34 (AY 4) (AY 24) rfl (w.heap.size+1) D rfl rfl 34 _ dq.o CV.o EO Eb.o ?_;intro w7 k7 hb7))
 exact AAE
attribute [local go_sem] Oper.semAt_some
theorem rV (seed:AP) (n:Int) (w:AH):AS prog 52 #[AO (yA seed),AB AE n] w fun e w'=>e=AV (.func (.func 75) #[] #[AU (some ⟨w.heap.size+1,0,none⟩),AU (some ⟨w.heap.size,0,none⟩)])/\w'=(w.alloc (AQ (yA seed) 34)).alloc (AQ #[AB AE n] 3):=by have hmf:∀(fn:Fn) (first cap:Array AK) (w:AH),(Instr.makeFunc fn first cap).run prog w=.ok (.func fn first cap) w:=fun _ _ _ _=>rfl;go_enter func52,ntmps52;go_wp2;go_ret;exact ⟨rfl,rfl⟩
theorem QG {m:Nat}:Fence.wide.depth.isSome=true->1<=m:=fun h=>by cases h
def TB (A C:AH):Prop:=AJ A C
theorem TB.others {A C:AH} (h:TB A C):KeepsOthers A C:=KeepsOthers.of_grownBy (row:=none) ⟨h.os,h.tape,h.output,h.size,fun k hk _=>h.block k hk⟩ (fun j o e ho=>by cases e)
structure KT (a b:Nat) (W W':AH):Prop where
 size:W.heap.size<=W'.heap.size
 fst:W'.heap[a]? =W.heap[a]?
 snd:W'.heap[b]? =W.heap[b]?
 tab:Cc W->Cc W'
def GP (seed:AP) (n:Nat) (pre:List (AP)) (x:AP):Prop:=pre.length < n/\x=Ii Aq (J7 Aq seed pre.length)
theorem AGB (m bm bs n:Nat) (seed:AP) (w:AH) (hm:AZ w bm 3 #[AB AE n]) (hs:AZ w bs 34 (yA seed)) (hl:seed.length=32) (hn:n<=256) (hT:Cc w):
 AEl Fence.wide m prog 75 #[AU (some ⟨bm,0,none⟩),AU (some ⟨bs,0,none⟩)] gq TB (KT bm bs) (GP seed n) (fun xs=>xs=Dp Aq seed n) w:=by
 intro lp J Jx Jp N W hW hJT uh hY h0;have HS:=AF (hs.below hW hs.lt);have ML:=hm.below hW hm.lt;have c0:=ML.cell 0;have f0:=ML.frozen 0;have l0:=ML.lt;simp only [Ai,An] at c0;obtain ⟨HT,HL,j4,HY,Wd,CV⟩:=FR (hT.below hW) hl hJT hY h0 Du;clear hW hJT uh hY h0 hs hm hl hT ML;refine Ey.2 ?_;go_enter func75,ntmps75;go_wp2_with fail;go_loopg [6] n (fun q i wr=>∃pre:List (AP),pre.length<=n/\q=n - pre.length/\i=AB AE pre.length/\pre=(List.range pre.length).map (fun k=>Ii Aq (J7 Aq seed k))/\J pre wr/\AZ wr bs 34 (yA seed)/\Cc wr)
 case atStart=>exact ⟨[],Ar _,rfl,rfl,rfl,Wd.o,HS.o,HT.o⟩
 obtain ⟨pre,hpn,hq,rfl,hpr,hj,hk,ht⟩:=hrel;obtain ⟨HPR,HQ,HB,Si⟩:=CJ hpr hq hk ht;obtain ⟨k,hkk⟩:=Ab pre.length;rw [<-hkk];have HKK:=AF hkk;rw [<-hkk] at hpn;have Zv:=AF hj;clear hpr hq hk ht hj hkk;by_cases hlt:k < n
 ·have hk1:(k:Int) < (n:Int):=by omega
  obtain ⟨D,hD⟩:=Ab (J7 Aq seed k);obtain ⟨x,hx⟩:=Ab (Ii Aq D);have Eb:D.length=32:=by rw [hD,J7];exact C3 _ _
  have Kl:AI (∀W,AJ wr W->AS prog 64 #[AO (yA seed),AB AE k] W (DW D W)):=AF (fun W hW=>by rw [hD];exact Z6 seed k W HL.o AG (Si.o.below hW));have HC2:AI (∀W,AJ wr W->AS prog 76 #[AO (yA D)] W (DW x W)):=AF (fun W hW=>by rw [hx];exact wK D W Eb (Si.o.below hW));have HX:AI (x=Ii Aq (J7 Aq seed pre.length)):=AF (by rw [hx,hD,HKK.o]);have LQ:=AF hlt;clear Eb hD hx;have hfn:∀g,Fence.wide.fn g:=fun _=>trivial;go_upto_region 3 with fail;refine (Dq (n:=m)).1 ?_
  gi_wp2_with (first
   | (refine Ih rfl 34 (AY 2) rfl bs seed rfl 34 _ HB.o underlying34 rfl CV.o HL.o ?_)
   | (
    refine ⟨QG,?_⟩
    gi_at_call 64
    refine (Ey.2 (Kl.o _ (Af _ _))).mono ?_;rintro e w3 ⟨rfl,hb⟩;have HB3:=AF hb;clear hb)
   | (
    refine ⟨QG,?_⟩
    gi_at_call 76
    refine (Ey.2 (HC2.o _ HB3.o)).mono ?_;rintro e w4 ⟨rfl,hb⟩;have HB4:=AF (AW HB3.o hb);clear hb))
  obtain ⟨fn,tmps,assign,body,hy,hR⟩:=HY.o pre x w4 (j4.o _ _ _ Zv.o HB4.o) ⟨by rw [<-HKK.o];exact LQ.o,HX.o⟩
  dsimp only [gq] at hy
  have HR:=AF hR;clear hR;simp only [hy];refine ⟨QG,HR.o.mono ?_⟩;rintro e W' (⟨rfl,hJ',hk'⟩ | ⟨rfl,pP⟩ | ⟨ch,rfl,aU⟩)
  ·have HJ2:=AF hJ'
   have CW:AI (AZ W' bs 34 (yA seed)):=AF (hk'.snd.trans (HB.o.below HB4.o HB.o.lt));have HT5:AI (Cc W'):=AF (hk'.tab (Si.o.below HB4.o));clear hJ' hk' hy HR
   gi_wp2
   go_wp2;go_roundg (n - (k+1))
   case measure=>have:=HQ.o;have:=HKK.o;have:=LQ.o;omega
   have hkk:=HKK.o;refine ⟨pre++[x],by rw [CT,<-hkk];exact LQ.o,by rw [CT,<-hkk];rfl,by rw [CT,<-hkk];rfl,?_,HJ2.o,CW.o,HT5.o⟩;rw [CT,<-hkk];show pre++[x]=(List.range (k+1)).map _;rw [Pk,DM,hkk,<-HPR.o,HX.o];rfl
  ·have HJX:=AF pP
   clear pP hy HR
   gi_wp2
   go_wp2_with fail
   first | go_end0 | refine E8 (results_none rfl _ _ _) rfl ?_
   exact .inl ⟨⟨_,rfl⟩,.inr HJX.o⟩
  · exact ⟨rfl,.inr ⟨ch,rfl,aU⟩⟩
 have hkn:k=n:=AG
 subst hkn;go_wp2_with fail
 go_end0
 exact .inl ⟨⟨_,rfl⟩,.inl ⟨pre,by rw [HPR.o,<-HKK.o];rfl,Zv.o⟩⟩
attribute [local go_sem] Oper.semAt_some
theorem oH {w w':AH} {base k:Nat} {e:Ae} {size:Nat} {v:AK} {n:Nat} {xs:List AK} (h:w.ownsRow base e size v n xs) (b:Book k w w'):w'.ownsRow base e size v n xs:=by
 refine ⟨h.1,?_⟩;rcases h.2 with h2 | ⟨g,cap,cur,hv,hg,hh,r⟩
 · exact .inl h2
 · exact .inr ⟨g,cap,cur,hv,hg,(b.cells _ _ _ _ hh).trans hh,r⟩
theorem cx {w w':AH} {base:Nat} {e:Ae} {size:Nat} {v:AK} {n:Nat} {xs:List AK} (h:w.ownsRow base e size v n xs) (hg:w.grownBy w' v.ownBlock):KeepsOthers w w':=KeepsOthers.of_grownBy hg (fun j o e2 ho=>by
 rcases h.2 with ⟨rfl,_⟩ | ⟨g,cap,cur,rfl,_,hh,_⟩
 · simp [Value.ownBlock] at e2
 simp only [Value.ownBlock,Bq] at e2;subst e2;rw [hh] at ho;cases ho;rfl)
theorem KT.trans {a b:Nat} {A B C:AH} (h:KT a b A B) (k:KT a b B C):KT a b A C:=⟨BF h.size k.size,k.fst.trans h.fst,k.snd.trans h.snd,fun t=>k.tab (h.tab t)⟩
theorem MW {W W':AH} (h0:W'.heap[0]? =W.heap[0]?) (hs:W.heap.size<=W'.heap.size) (t:Cc W):Cc W':=
 ⟨Ay t.1 hs,fun i hi=>by have:=t.2 i hi;unfold World.cell? at this ⊢;rw [h0];exact this⟩
theorem KT.put {a b l:Nat} (W:AH) (o:Obj) (ha:a < l) (hb:b < l):KT a b W (W.putObj l o):=
 ⟨by simp [World.putObj],World.putObj_heap_other AG,World.putObj_heap_other AG,MW (World.putObj_heap_other AG) (by simp [World.putObj])⟩
theorem KT.grown {a b:Nat} {A C:AH} {row:Option Nat} (hg:A.grownBy C row) (ha:a < A.heap.size) (hb:b < A.heap.size) (na:some a≠row) (nb:some b≠row) (n0:some 0≠row):KT a b A C:=
 ⟨hg.size,hg.block a ha na,hg.block b hb nb,fun t=>MW (hg.block 0 t.1 n0) hg.size t⟩
def AJS (hb B:Nat) (l:List (AP)) (W:AH):Prop:=∃v cs,AZ W hb 37 #[v]/\W.ownsRow B 34 32 v l.length cs/\Ao 32 CQ W cs l
theorem yO (bm bs n:Nat) (seed:AP) (w:AH) (hm:AZ w bm 3 #[AB AE n]) (hs:AZ w bs 34 (yA seed)) (hl:seed.length=32) (hn:n<=256) (hT:Cc w):
 AS prog 74 #[AA none 0 0,.func (.func 75) #[] #[AU (some ⟨bm,0,none⟩),AU (some ⟨bs,0,none⟩)]] w (Qw (Dp Aq seed n) w):=by
 obtain ⟨HL,CV⟩:=Aj hl Du;obtain ⟨j0,z0,hj⟩:=gx;have HJ:=AF hj;have hml:=hm.lt;have hsl:=hs.lt;have h0l:=hT.1;obtain ⟨HM,HS,HT⟩:=Az hm hs hT;clear hj hm hs hT hl;refine (Ey (n:=8)).1 ?_;refine callsIn_of_wp_marks func74 rfl trivial ?_ rfl;simp only [ntmps74,Pb,Fl,Ph,Nat.reduceAdd,Nat.reduceSub,UO,UQ,UK,UN,Ic,Lx];refine Dq.2 ?_;go_wp2_with fail;obtain ⟨k1,b1,s1⟩:=bx w #[AA none 0 0] 37;generalize hw2:w.alloc (AQ #[AA none 0 0] 37)=w2 at k1 b1 s1 ⊢;obtain ⟨Ls,HS2,HH,HB,HZ,HT2⟩:=FR (HM.o.below b1 hml) (HS.o.below b1 hsl) k1 b1 s1 (HT.o.below b1);clear k1 b1 s1 hw2;refine (Dq (n:=8)).1 ?_;refine Ue (gf:=75) (lb:=#[AU (some ⟨bm,0,none⟩),AU (some ⟨bs,0,none⟩)]) rfl (enters_of func75 AL rfl)
  (AGB 7 bm bs n seed w2 Ls.o HS2.o HL.o hn HT2.o) (fun _=>rfl) n
  (fun pre W=>AJS w.heap.size (w.heap.size+1) pre W/\pre.length<=n/\AJ w W/\w.heap.size+1<=W.heap.size)
  (fun _=>False)
  (fun s A C h t=>⟨by obtain ⟨v,cs,h1,h2,h3⟩:=h.1;exact ⟨v,cs,h1.below t (by have:=h.2.2.2;omega),EX h2 t,Ik h3⟩,h.2.1,AW h.2.2.1 t,BF h.2.2.2 t.size⟩)
  (fun s A C h b=>⟨by obtain ⟨v,cs,h1,h2,h3⟩:=h.1;exact ⟨v,cs,F6 h1 b,oH h2 b,Ik h3⟩,h.2.1,Below.book h.2.2.1 b Ua,BF h.2.2.2 b.size⟩)
  (fun A C h b=>h.elim)
  (fun s A h=>h.2.1) (fun A C h=>h.others) (fun A B C h k=>h.trans k) (fun W l o o' hl h ho=>KT.put W o' Ua Ua)
  ⟨⟨_,[],HH.o,ED _ _ _ _,Ao.nil⟩,Ar _,HB.o,by have:=HZ.o;omega⟩
  (fun x a' W=>∃Bx,w.heap.size+1<=Bx/\AZ W Bx 34 (yA x)/\a'={tmps:=#[AA none 0 0,.func (.func 75) #[] #[AU (some ⟨bm,0,none⟩),AU (some ⟨bs,0,none⟩)],AU (some ⟨w.heap.size,0,none⟩),undef,AA none 0 0,AU (some ⟨Bx,0,none⟩),.func (.func 75) #[] #[AU (some ⟨bm,0,none⟩),AU (some ⟨bs,0,none⟩)],AO (yA x),undef,undef,undef,undef,undef],defers:=[]})
  (fun x a' A C h b=>by obtain ⟨Bx,h1,h2,h3⟩:=h;exact ⟨Bx,h1,F6 h2 b,h3⟩)
  ?assign ?body ?done ?ret
 case assign=>
  rintro lp pre x W K ⟨⟨v,cs,h1,h2,h3⟩,h4,h5,h6⟩ hG hK;have Fx:AI (x.length=32):=AF (by rw [hG.2,Ii,JB];exact C3 _ _);have HKK:=AF hK;have hzb:=Ir W 34;obtain ⟨HO,HC,KH,CW⟩:=CJ h2 h3 h1 h5;clear hK hG h1 h2 h3 h5
  dsimp only [gq]
  gi_wp2_with (refine JV rfl 34 (AY 5) (AY 7) rfl W.heap.size x rfl rfl 34 (yA (zeros 32)) hzb.1 CV.o EO Fx.o ?_;intro w4 k4 hb4 hg4)
  have hne:∀b,b < W.heap.size->some b≠some W.heap.size:=fun b hb e=>by injection e with e;omega
  have hB5:=CW.o.size;refine HKK.o _ _ ((KeepsOthers.alloc _ _).trans (TE.others ⟨hg4,_,_,_,hzb.1⟩)) ((KT.grown (Fm W _ none) AG AG Ac Ac Ac).trans (KT.grown hg4 BX BX (hne _ AG) (hne _ AG) (hne _ AG)))
   ⟨⟨v,cs,(KH.o.alloc _).grown hg4 (hne _ AG),(HO.o.alloc _).kept hg4 (.inr s9),Ik HC.o⟩,h4,(CW.o.alloc CW.o.size _).trans (hb4.mono CW.o.size),by have:=hg4.size;simp at this;omega⟩ ⟨W.heap.size,h6,k4,rfl⟩
 case body=>
  rintro lp pre x a' W ⟨⟨v,cs,h1,h2,h3⟩,h4,h5,h6⟩ hG ⟨Bx,hBx,hbx,rfl⟩;have hXL:x.length=32:=by rw [hG.2,Ii,JB];exact C3 _ _
  have Fx:=AF hXL;obtain ⟨rA,rc,rfl⟩:=Bz h2;have c0:=h1.cell 0;have f0:=h1.frozen 0;have l0:=h1.lt;simp only [Ai,An] at c0;obtain ⟨KH,KX,HO,HC,CW,HG⟩:=FR h1 hbx h2 h3 h5 hG;have hys:(yA x).size=32:=by rw [Bb,hXL]
  have hfl:=Uu x hXL;clear h1 h2 h3 h5 hbx hG hXL
  gi_wp2_with (first
   | (refine Ih rfl 34 (AY 5) rfl Bx x rfl 34 _ KX.o underlying34 rfl CV.o Fx.o ?_)
   | (
    gi_at_builtin;refine wpListIn_append_own_at _ rfl (AY 8) (AY 10) 37 rfl (w.heap.size+1) 34 j0 z0 32 32 underlying37 HJ.o.1 HJ.o.2.1 HJ.o.2.2.2.1 HJ.o.2.2.2.2 HJ.o.2.2.1 BE _ _ _ rfl (HO.o.alloc _) ⟨W.heap.size,0,none⟩ 1 1 (x.map (Value.int .u8)) rfl (by rw [CX,Fx.o]) (uj (AZ.new W 34 (yA x))) (Y9 x) Gj AG BX ?_
    intro v' w5 GN hg5 _ _;obtain ⟨rA',rc',rfl⟩:=Bz GN;have k5:=(KH.o.alloc (AQ (yA x) 34)).grown hg5 (Da HO.o AG);have f5:=k5.frozen 0;have c5:=k5.cell 0;simp only [Ai,An] at c5;have l5:=k5.lt;obtain ⟨K5,YL,YO⟩:=Az k5 GN hg5;clear k5 GN hg5))
  have hb5:=CW.o.size;have hne:∀b,b < w.heap.size+1->some b≠(Value.slice rA pre.length rc).ownBlock:=fun b hb=>Da HO.o hb;have h0:=YO.o.size;rw [Eg] at h0;have hb7:AJ w w5:=(CW.o.alloc CW.o.size _).grown YO.o BX (fun r hr=>by have:=(HO.o.lt r hr).1;omega);refine ⟨(KeepsOthers.alloc _ _).trans ((cx (HO.o.alloc _) YO.o).trans (KeepsOthers.setCell _ _ _)),
   ((KT.grown (Fm W _ none) AG AG Ac Ac Ac).trans (KT.grown YO.o BX BX (hne _ AG) (hne _ AG) (hne _ AG))).trans (KT.grown (grownBy_setCell' _ _ _) AG AG FD FD FD),
   ⟨_,cs++x.map (Value.int .u8),K5.o.put 0 _,?_,?_⟩,?_,hb7.setCell (Ad _) _,by omega⟩
  ·rw [CT]
   exact E9 YL.o (Ie _) _
  · exact (Ik HC.o).append (Ao.one (by rw [CX,Fx.o]) ⟨rfl,Fx.o⟩)
  · exact HG.o.1
 case done=>rintro D xs W hD rfl ⟨⟨v,cs,h1,h2,h3⟩,h4,h5,h6⟩ hdf;obtain ⟨rA,rc,rfl⟩:=Bz h2;have c0:=h1.cell 0;simp only [Ai,An] at c0;obtain ⟨HO,HC,CW,YP,HZD⟩:=EG h2 h3 h5 hdf hD;clear h1 h2 h3 h5 hdf hD;go_wp2_with fail;refine ⟨by simp,.inl ⟨_,_,rfl,run_takeDeferred YP.o,?_⟩⟩;have HK:=belowK_b (w:=w2) (n₀:=w.heap.size) Ua W D _ (.deferred none) HZD.o YP.o rfl rfl;exact ⟨_,results_tmp rfl _ _ _,⟨_,cs,rfl,Ny (ownsRow_putObj HO.o _ YP.o rfl) (Ed _),Ik HC.o,CW.o.trans HK⟩⟩
 case ret=>exact fun D W _ h _=>h.elim
theorem pw (bm bs n:Nat) (seed:AP) (w:AH) (hm:AZ w bm 3 #[AB AE n]) (hs:AZ w bs 34 (yA seed)) (hl:seed.length=32) (hn:n<=256) (hT:Cc w):
 AS prog 51 #[.func (.func 75) #[] #[AU (some ⟨bm,0,none⟩),AU (some ⟨bs,0,none⟩)]] w (Qw (Dp Aq seed n) w):=by
 have HC:=AF (yO bm bs n seed w hm hs hl hn hT);clear hm hs hl hT;go_enter func51,ntmps51;go_wp2_with (go_at_call 74;refine HC.o.mono ?_;rintro e w2 ⟨v,cs,rfl,ho,hc,hb⟩;have HO:=AF ho;have HC2:=AF hc;have HB:=AF hb;clear ho hc hb);go_ret;exact ⟨v,cs,rfl,HO.o,HC2.o,HB.o⟩
theorem XW (seed:AP) (n:Int) (w:AH) (hl:seed.length=32) (h1:1<=n) (hn:n<=256) (hT:Cc w):
 AS prog 26 #[AO (yA seed),AB AE n] w (l8 (Dp Aq seed n.toNat) 0 w):=by
 obtain ⟨n,rfl⟩:∃k:Nat,n=k:=⟨n.toNat,by omega⟩;rw [CZ];obtain ⟨HL,CV⟩:=Aj hl Du;have HC:AI (∀W,AJ w W->AS prog 51 #[.func (.func 75) #[] #[AU (some ⟨W.heap.size+1,0,none⟩),AU (some ⟨W.heap.size,0,none⟩)]] ((W.alloc (AQ (yA seed) 34)).alloc (AQ #[AB AE n] 3)) (Qw (Dp Aq seed n) ((W.alloc (AQ (yA seed) 34)).alloc (AQ #[AB AE n] 3)))):=AF (fun W hW=>by obtain ⟨k1,b1,s1⟩:=bx W (yA seed) 34;obtain ⟨k2,b2,s2⟩:=bx (W.alloc (AQ (yA seed) 34)) #[AB AE n] 3;rw [s1] at k2 b2;exact pw _ _ n seed _ k2 (k1.below b2 AG) hl AG ((hT.below (AW hW b1)).below (by show BK (W.alloc (AQ (yA seed) 34)).heap.size _ _;rw [s1];exact b2)))
 have h1':¬(n:Int) < 1:=AG
 have h2':¬(256:Int) < (n:Int):=AG
 clear hl hT;go_enter func26,ntmps26;go_upto_region 1 with fail;obtain ⟨k1,b1,s1⟩:=bx w (yA seed) 34;generalize (w.alloc (AQ (yA seed) 34))=w0 at k1 b1 s1 ⊢;obtain ⟨KS,HB⟩:=Aj k1 b1;clear k1 b1 s1;go_wp2_with (first
  | (refine Ca rfl 34 (AY 2) rfl w.heap.size seed rfl 34 _ KS.o underlying34 rfl CV.o HL.o ?_)
  | (go_at_call 52;refine (rV _ _ _).mono ?_;rintro e w2 ⟨rfl,rfl⟩)
  | (go_at_call 51;refine (HC.o _ HB.o).mono ?_;rintro e w2 ⟨v,cs,rfl,ho,hc,hb⟩;have HO:=AF ho;have HC2:=AF hc;have HB2:=AF hb;clear ho hc hb))
 go_ret2;have hs:=HB.o.size;refine ⟨v,cs,rfl,Ny HO.o BX,HC2.o,HB.o.trans (Below.mono ?_ hs)⟩;exact ((BP _ _).alloc Ac _).trans (HB2.o.mono BX)
theorem Z9 (seed:AP) (n:Int) (w:AH) (hl:seed.length=32) (h1:1<=n) (hn:n<=256) (hT:Cc w):
 AS prog 9 #[AO (yA seed),AB AE n] w (V3 (LY Aq seed n.toNat) 0 w):=by
 obtain ⟨HL,CV⟩:=Aj hl Du;obtain ⟨P,hP⟩:=Ab (Dp Aq seed n.toNat);obtain ⟨D,hD⟩:=Ab (LY Aq seed n.toNat);have Eb:AI (D.length=32):=AF (by rw [hD];exact OM _);have ud:P.length=n.toNat:=by rw [hP];exact SH Aq seed _
 have HC:AI (∀W,AJ w W->AS prog 26 #[AO (yA seed),AB AE n] W (l8 P 0 W)):=AF (fun W hW=>by rw [hP];exact XW seed n W hl h1 hn (hT.below hW));have HT:AI (∀(A:Option Addr) (m c:Nat) W,AJ w W->Ag 32 CQ W (AA A m c) P->AS prog 27 #[AA A m c] W (DW D W)):=AF (fun A m c W hW hs=>by rw [hD,LY,<-hP];exact Z3 m A m c P W (Ad _) (by rw [hs.len,ud];omega) (hT.below hW) hs)
 rw [<-hD];clear hl hT hP hD ud;go_enter func9,ntmps9;go_upto_region 1 with fail;obtain ⟨k1,b1,s1⟩:=bx w (yA seed) 34;have hq:=Ir (w.alloc (AQ (yA seed) 34)) 34;generalize (w.alloc (AQ (yA seed) 34))=w0 at hq k1 b1 s1 ⊢;rw [s1] at hq;generalize (w0.alloc _)=wa at hq ⊢;obtain ⟨kr,hba,hza⟩:=hq;obtain ⟨KS,KR,HB⟩:=Az (k1.below hba AG) kr (b1.trans (hba.mono AG));clear s1 b1 hba k1 kr hza;go_wp2_with (first
  | (refine Ca rfl 34 (AY 2) rfl w.heap.size seed rfl 34 _ KS.o underlying34 rfl CV.o HL.o ?_)
  | (
   go_at_call 26;refine (HC.o _ HB.o).mono ?_;rintro e w2 ⟨v,cs,rfl,ho,hc,hb⟩;have hsl:=AGd ho hc rfl;obtain ⟨rA,rc,rfl⟩:=Bz ho;obtain ⟨HSL,NG,HB2⟩:=Az hsl (KR.o.below hb KR.o.lt) (AW HB.o hb);clear ho hc hb hsl)
  | (
   go_at_call 27;refine (HT.o _ _ _ _ HB2.o HSL.o).mono ?_;rintro e w3 ⟨rfl,hb⟩;obtain ⟨Q7,HB3⟩:=Aj (NG.o.below hb NG.o.lt) (AW HB2.o hb);clear hb)
  | (refine DS rfl 34 (AY 4) (AY 18) rfl (w.heap.size+1) D rfl rfl 34 _ Q7.o CV.o EO Eb.o ?_;intro w4 k4 hb4))
 exact XQ (.inl rfl) rfl rfl rfl rfl k4 underlying34 rfl CV.o Eb.o (HB3.o.trans (hb4.mono (Ed _)))
section
variable {P:BB} {md:Region.Mode} {ops:Array Oper} {Q:Exit->Act->AH->Prop} {S:AH->Prop} {fuel:Nat} {listed:Array Bool} {l:List AK} {D:List Deferred} {w:AH}
theorem JA {id:Nat} {a:Act} (S:AH->Prop) (n:Nat) (L:Array Bool) (hm:P.follows .mixedOrders=true) (hn:ops.size=n) (hL:Array.replicate n false=L) (h:wpAnyH P .any ops Q S n L a w.drew):(Code.region id ops true).wp P Q a w:=by subst hn hL;exact wp_region_held hm h
abbrev Qy (md:Region.Mode) (ops:Array Oper) (listed:Array Bool) (i:Nat):Bool:=Region.noSelect ops && (Region.free md ops listed i && (Region.ready md ops listed).contains i)
theorem MG {d:Nat} {v:AK}:(⟨l.toArray,D⟩:Act).put (some d) v=⟨(l.set d v).toArray,D⟩:=by simp [Act.put]
theorem C9 (i d:Nat) {oi:Oper} {v:AK} (hB:Qy md ops listed i=true) (hi:ops[i]? =some oi) (hd:oi.dst=some d) (hQ:∀c (a:Act) d v w,Q (.panic c) (a.put (some d) v) w->Q (.panic c) a w) (hS:S w)
 (hw:Region.wanted oi (yielded ops l.toArray)=true) (hv:∀w,S w->(execOp (Act.eval ⟨l.toArray,D⟩) oi).run P w=.ok (.value v) w)
 (h:wpAnyH P md ops Q S fuel (listed.setIfInBounds i true) ⟨(l.set d v).toArray,D⟩ w):wpAnyH P md ops Q S (fuel+1) listed ⟨l.toArray,D⟩ w:=by
 simp only [BZ] at hB;rw [<-MG,<-hd] at h;exact wpAnyH_take hi hB.1 hB.2.1 hB.2.2 (fun c a w hq=>by rw [hd] at hq;exact hQ c a _ _ w hq) (.inl ⟨hw,hv⟩) hS h
theorem rgM (i d t:Nat) {oi:Oper} {v:AK} (hB:Qy md ops listed i=true) (hi:ops[i]? =some oi) (hd:oi.dst=some d) (hQ:∀c (a:Act) d v w,Q (.panic c) (a.put (some d) v) w->Q (.panic c) a w) (hS:S w)
 (hw:Region.wanted oi (yielded ops l.toArray)=true) (ho:oi.op=.move (AY t)\/oi.op=.assign (AY t)) (hv:l[t]? =some v)
 (h:wpAnyH P md ops Q S fuel (listed.setIfInBounds i true) ⟨(l.set d v).toArray,D⟩ w):wpAnyH P md ops Q S (fuel+1) listed ⟨l.toArray,D⟩ w:=by
 refine C9 i d hB hi hd hQ hS hw (fun W _=> ?_) h;exact mQ
theorem FU (i d:Nat) {oi:Oper} (hB:Qy md ops listed i=true) (hi:ops[i]? =some oi) (hd:oi.dst=some d) (hQ:∀c (a:Act) d v w,Q (.panic c) (a.put (some d) v) w->Q (.panic c) a w) (hS:S w)
 (hw:Region.wanted oi (yielded ops l.toArray)=false)
 (h:wpAnyH P md ops Q S fuel (listed.setIfInBounds i true) ⟨(l.set d undef).toArray,D⟩ w):wpAnyH P md ops Q S (fuel+1) listed ⟨l.toArray,D⟩ w:=by
 simp only [BZ] at hB;rw [<-MG,<-hd] at h;exact wpAnyH_take hi hB.1 hB.2.1 hB.2.2 (fun c a w hq=>by rw [hd] at hq;exact hQ c a _ _ w hq) (.inr ⟨hw,rfl⟩) hS h
theorem nk (i:Nat) {o:Oper} {a:Act} (hr:Region.ready md ops listed=[i]) (hi:ops[i]? =some o) (hg:o.guard=none)
 (h:o.wp P a w (fun a' w'=>S w'/\wpAnyH P md ops Q S fuel (listed.setIfInBounds i true) a' w') Q):wpAnyH P md ops Q S (fuel+1) listed a w:=by
 refine wpAnyH_all hr Ac fun j hj=> ?_;obtain rfl:j=i:=by simpa using hj
 unfold wpOp;rw [hi];exact zw
theorem WJ (i d:Nat) {o:Oper} {f:FuncId} {xs:Array Operand} {ts:Array Ae} {args:Array AK} {R:Ending->AH->Prop} (hr:Region.ready md ops listed=[i]) (hi:ops[i]? =some o) (hd:o.dst=some d) (hg:o.guard=none)
 (ho:o.op=.call {callee:=.value (.func f),args:=xs,argTypes:=ts}) (he:Enters P f) (hc:AS P f args w R) (ha:xs.toList.map (Act.eval ⟨l.toArray,D⟩)=args.toList)
 (h:∀e w',R e w'->∃v,e=AV v/\S w'/\wpAnyH P md ops Q S fuel (listed.setIfInBounds i true) ⟨(l.set d v).toArray,D⟩ w'):wpAnyH P md ops Q S (fuel+1) listed ⟨l.toArray,D⟩ w:=by
 refine nk i hr hi hg ?_;exact AAa
theorem rgS (i:Nat) {o:Oper} (ty:Ae) (x y:Operand) (g off:Nat) (cells:Array AK) (hr:Region.ready md ops listed=[i]) (hi:ops[i]? =some o) (hd:o.dst=none) (hg:o.guard=none) (ho:o.op=.store ty x y)
 (hx:Act.eval ⟨l.toArray,D⟩ x=AU (some ⟨g,off,none⟩)) (hy:Act.eval ⟨l.toArray,D⟩ y=.agg cells) {n:Nat} (hn:cells.size=n) (ht:w.there g off n) (hs:(P.info? ty).map (·.size)=some n) (h1:cells.all (·.oneCell')=true)
 (hS:S (w.setCells g off cells.toList)) (h:wpAnyH P md ops Q S fuel (listed.setIfInBounds i true) ⟨l.toArray,D⟩ (w.setCells g off cells.toList)):wpAnyH P md ops Q S (fuel+1) listed ⟨l.toArray,D⟩ w:=
 nk i hr hi hg (wp_store_mid ty x y ho g off cells hx hy (hn ▸ ht) (hn ▸ hs) h1 (by rw [hd];exact ⟨hS,h⟩))
end
theorem run_load {P:BB} {W:AH} {r:AK} {o:Oper} {a:Act} {x:Operand} {t:Ae} (h:(Instr.loadAt t (a.eval x)).run P W=.ok r W) (ho:o.op=.load t x:=by rfl):(execOp a.eval o).run P W=.ok (.value r) W:=by unfold execOp;simp [ho,h]
theorem Y6 {P:BB} {W:AH} {o:Oper} {a:Act} {t:Ae} {parts:Array (Nat×Operand)} {cells:Array AK} (h:P.built t (parts.toList.map fun p=>(p.1,a.eval p.2))=some cells) (ho:o.op=.build t parts:=by rfl):(execOp a.eval o).run P W=.ok (.value (.agg cells)) W:=by have hb:(Instr.build t (parts.map fun x=>match x with | (i,x)=>(i,a.eval x))).run P W=.ok (.agg cells) W:=run_build W t _ cells (by rw [UM];exact h);unfold execOp;rw [ho];simp only [Cs,DL,hb,Result.andThen_ok]
end Go.Proofs.YtpmpddfgifhlbaaGreatDoor
