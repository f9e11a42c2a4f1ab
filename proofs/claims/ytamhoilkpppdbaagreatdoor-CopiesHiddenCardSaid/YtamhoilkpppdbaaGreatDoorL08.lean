import Derived.Test.YtamhoilkpppdbaaGreatDoorL07
namespace Go.Proofs.YtamhoilkpppdbaaGreatDoor
set_option maxHeartbeats 8000000
set_option maxRecDepth 100000
open Go renaming World→AH, Value→AN, Calls→AS, TypeId→Ae, Program→BE
open Go.RowKit renaming Below→BL
open Go.Proofs.Tryz
open Go.Value renaming slice→AA, int→AB, pointer→AU, agg→AP
open Go.IntKind renaming i64→AE
open Go.Ending renaming returned→AW, panicked→CN
open Go.Obj renaming cells→AO
open Go.Operand renaming tmp→AX
open Go.RowKit
variable {n:Nat} {P:BE}
theorem N5 {m:Machine}:Machine.fenced P Fence.wide m:=fenced_wide P m
def Sb (f:FuncId) (P:BE) (c:Code) (Q:Exit->Act->AH->Prop) (a:Act) (w:AH):Prop:=
 ∀(b:Frame) (k:List Item) (cs:List Frame),b.roundOf=none->b.fn=f->∃e a' w',Q e a' w'/\ArrivesIn (Machine.fenced P Fence.wide) P (lone (b.atR a (.code c::k)) cs w) b k cs e a' w'
theorem Gy {f:FuncId} {c:Code} {Q:Exit->Act->AH->Prop} {a:Act} {w:AH} (h:c.wpIn Fence.wide n P Q a w):Sb f P c Q a w:=
 fun b k cs hro _=>h b k cs hro trivial (room_wide _)
def AHQ (f:FuncId) (P:BE) (y:Code) (Q:Exit->Act->AH->Prop):Exit->Act->AH->Prop
 | .normal,a,w=>Sb f P y Q a w
 | .ret,a,w=>Q .ret a w
 | .panic ch,a,w=>Q (.panic ch) a w
 | _,_,_=>False
theorem JK {f:FuncId} {x y:Code} {Q:Exit->Act->AH->Prop} {a:Act} {w:AH} (h:Sb f P x (AHQ f P y Q) a w):Sb f P (.seq x y) Q a w:=by
 intro b k cs hro hb;obtain ⟨e,a',w',hq,harr⟩:=h b (.code y::k) cs hro hb;have s1:StepsIn (Machine.fenced P Fence.wide) P (lone (b.atR a (.code (.seq x y)::k)) cs w) (lone (b.atR a (.code x::.code y::k)) cs w):=.one N5 stepR_seq;cases e with
 |
  normal=>
  obtain ⟨e2,a2,w2,hq2,AJ2⟩:=hq b k cs hro hb;exact ⟨e2,a2,w2,hq2,.of_steps (s1.trans harr) AJ2⟩
 | ret=>exact ⟨.ret,a',w',hq,fun hr=>(harr.1 hr).imp fun _ h=>s1.trans h,fun hr=>by rw [hro] at hr;cases hr⟩
 | panic ch=>exact ⟨.panic ch,a',w',hq,harr.imp fun _ h=>s1.trans h⟩
 | exit id=>exact hq.elim
 | goto t=>exact hq.elim
 | outgrown=>exact hq.elim
theorem Wz {f:FuncId} {fn:Func} {c:Code} {args:Array AN} {w:AH} {R:Ending->AH->Prop} (hf:P.funcs[f]? =some fn) (hb:fn.body=some c)
 (h:Sb f P c (bodyPostM Fence.wide 1 P fn R) {tmps:=args++Array.replicate (fn.ntmps - args.size) undef,defers:=[]} w):AS P f args w R:=by
 refine (FK (n:=1)).1 ⟨trivial,fun cs _=> ?_⟩;let b:Frame:={(default:Frame) with fn:=f,kind:=.normal,roundOf:=none}
 have he:Frame.enter P f args .normal=b.atR {tmps:=args++Array.replicate (fn.ntmps - args.size) undef,defers:=[]} [.code c]:=by simp [Frame.enter,Frame.atR,hf,hb,b]
 rw [he];obtain ⟨e,a',w',hq,harr⟩:=h b [] cs rfl rfl;have go:∀(u:FrameMode) (todo:List Item),StepsIn (Machine.fenced P Fence.wide) P (lone (b.atR {tmps:=args++Array.replicate (fn.ntmps - args.size) undef,defers:=[]} [.code c]) cs w) (lone {b.atR a' todo with mode:=u} cs w')->LeavesInM Fence.wide 1 P fn a'.tmps R a'.defers u w'->
  ∃e w'' fr,R e w''/\ComesIn (Machine.fenced P Fence.wide) P (lone (b.atR {tmps:=args++Array.replicate (fn.ntmps - args.size) undef,defers:=[]} [.code c]) cs w) (lone fr cs w'') e/\fr.fn=f/\fr.leaving P w'' e:=fun u todo hs hq=>by
  obtain ⟨e',w'',fr',hR,hs',hfn,hl⟩:=leaves_stepsInM a'.defers u w' {b.atR a' todo with mode:=u} cs rfl rfl rfl hf rfl trivial (room_wide _) hq;exact ⟨e',w'',fr',hR,ComesIn.of_steps hs hs',hfn,hl⟩
 cases e with
 | normal=>exact go .returning [] (harr.trans (.one N5 (stepR_end rfl))) hq
 |
  ret=>
  obtain ⟨todo,hs⟩:=harr.1 rfl;exact go .returning todo hs hq
 |
  panic ch=>
  obtain ⟨todo,hs⟩:=harr;exact go (.panicking ch) todo hs hq
 | exit id=>exact hq.elim
 | goto l=>exact hq.elim
 | outgrown=>exact ⟨.outgrown,w',b,hq,harr.resolve_left (by simp [b]),rfl,trivial⟩
theorem iE {f:FuncId} {g:Operand} {ps:Array Tmp} {assign body:Code} {Q:Exit->Act->AH->Prop} {a:Act} {w w1:AH} {l:Nat} {mark:List Deferred} {gf:Nat} {lb:Array AN}
 (he:(Instr.enterLoop f a.tmps ps assign body none).run P w=.ok (l,mark) w1) (hg:a.eval g=.func (.func gf) #[] lb) (eg:∀args w,(callFunc gf args).run P w=.ok (.enter gf args) w)
 (hc:AS P gf (#[.func (.yield l) #[] #[]]++lb) w1 fun e w3=>(∃v w4,e=AW v/\(Instr.endLoop l).run P w3=.ok none w4/\Q .normal {a with defers:=mark++a.defers} w4)\/∃ch,e=CN ch/\Q (.panic ch) {a with defers:=mark++a.defers} w3):
 Sb f P (.rangeFunc g ps assign body) Q a w:=by
 intro b k cs hro hb;have hres:(resolve a.eval (rangeCall g l) 0).run P w1=.ok {target:=.fn (.func gf) lb,args:=#[.func (.yield l) #[] #[]]} w1:=by simp only [resolve,hg];simp [go_sem]
 have hinv:(invoke (.fn (.func gf) lb) #[.func (.yield l) #[] #[]]).run P w1=.ok (.enter gf (#[.func (.yield l) #[] #[]]++lb)) w1:=by simp [invoke,go_sem,eg]
 rw [<-hb,<-hro] at he;have s1:=stepR_rangeFunc (k:=k) (cs:=cs) he hres hinv;obtain ⟨e,w3,fr,hR,hs,hfn,hl⟩:=hc (b.atR {a with defers:=mark++a.defers} (.inRangeFunc l::k)::cs);rcases hR with ⟨v,w4,rfl,hend,hq⟩ | ⟨ch,rfl,hq⟩
 ·have hs:StepsIn (Machine.fenced P Fence.wide) P _ _:=stepsIn_wide.2 hs
  have s2:=step_leave_returned (c:=b.atR {a with defers:=mark++a.defers} (.inRangeFunc l::k)) (cs:=cs) hl;rw [finish_atR_inRangeFunc] at s2;exact ⟨.normal,_,w4,hq,.head N5 s1 (hs.trans (.head N5 s2 (.one N5 (stepR_endRangeFunc hend))))⟩
 have hs:StepsIn (Machine.fenced P Fence.wide) P _ _:=stepsIn_wide.2 hs;have s2:=step_leave_panicked (c:=b.atR {a with defers:=mark++a.defers} (.inRangeFunc l::k)) (cs:=cs) hl;rw [Frame.raise_atR] at s2;exact ⟨.panic ch,_,w3,hq,_,.head N5 s1 (hs.trans (.one N5 s2))⟩
def AFL {α:Type} (F:Fence) (n:Nat) (P:BE) (g:Nat) (lb:Array AN) (encs:α->Array AN) (T K:AH->AH->Prop) (G:List α->α->Prop) (S:List α->Prop) (w:AH):Prop:=
 ∀(l:Nat) (J:List α->AH->Prop) (Jx:AH->Prop) (Jp:List PanicEntry->AH->Prop) (N:Nat) (W:AH),AK w W->(∀s A C,J s A->T A C->J s C)->(∀s A,J s A->s.length<=N)->
  (∀pre x W1,J pre W1->G pre x->YieldAt F (n - 1) P l (encs x) W1 fun e W'=>(e=AW (.bool true)/\J (pre++[x]) W'/\K W1 W')\/(e=AW (.bool false)/\Jx W')\/∃ch,e=CN ch/\Jp ch W')->
  J [] W->
  CallsIn F n P g (#[.func (.yield l) #[] #[]]++lb) W fun e W'=>((∃v,e=AW v)/\((∃xs,S xs/\J xs W')\/Jx W'))\/∃ch,e=CN ch/\Jp ch W'
structure Book (n₀:Nat) (A C:AH):Prop where
 os:C.os=A.os
 tape:C.tape=A.tape
 output:C.output=A.output
 size:A.heap.size<=C.heap.size
 block:∀b,b < n₀->C.heap[b]? =A.heap[b]?
 cells:∀(b:Nat) (cs:Array AN) (t:Ae) (fz:Nat×Nat),A.heap[b]? =some (Obj.cells cs t fz)->C.heap[b]? =A.heap[b]?
theorem Book.refl (n₀:Nat) (A:AH):Book n₀ A A:=⟨rfl,rfl,rfl,Ac _,fun _ _=>rfl,fun _ _ _ _ _=>rfl⟩
theorem Book.alloc {n₀:Nat} (A:AH) (o:Obj) (h:n₀<=A.heap.size):Book n₀ A (A.alloc o):=
 ⟨rfl,rfl,rfl,by simp,fun b hb=>LR A o b AG,fun b cs t fz hb=>LR A o b (DF.1 hb).1⟩
theorem Book.put {n₀ l:Nat} (A:AH) (o o':Obj) (h:n₀<=l) (hl:A.heap[l]? =some o) (hc:o.isCells=false):Book n₀ A (A.putObj l o'):=
 ⟨rfl,rfl,rfl,by simp [World.putObj],fun b hb=>World.putObj_heap_other AG,fun b cs t fz hb=>World.putObj_heap_other (fun e=>by subst e;rw [hb] at hl;injection hl with hl;subst hl;cases hc)⟩
section
variable {n:Nat} {P:BE}
theorem U8 {α:Type} {g:Operand} {ps:Array Tmp} {assign body:Code} {Q:Exit->Act->AH->Prop} {a:Act} {w:AH}
 {gf:Nat} {lb:Array AN} (hg:a.eval g=.func (.func gf) #[] lb) (eg:∀args w,(callFunc gf args).run P w=.ok (.enter gf args) w)
 {encs:α->Array AN} {T K:AH->AH->Prop} {G:List α->α->Prop} {S:List α->Prop} (hseq:AFL Fence.wide (n - 1) P gf lb encs T K G S w)
 (hps:∀x,(encs x).size=ps.size) (N:Nat) (I:List α->AH->Prop) (Ix:AH->Prop)
 (hIT:∀s A C,I s A->T A C->I s C) (hIB:∀s A C,I s A->Book w.heap.size A C->I s C) (hXB:∀A C,Ix A->Book w.heap.size A C->Ix C) (hlen:∀s A,I s A->s.length<=N)
 (hTO:∀A C,T A C->KeepsOthers A C) (hKt:∀A B C,K A B->K B C->K A C) (hKp:∀W l o o',w.heap.size<=l->W.heap[l]? =some o->o.isCells=false->K W (W.putObj l o'))
 (h0:I [] w) (Ax:α->Act->AH->Prop) (hAB:∀x a' A C,Ax x a' A->Book w.heap.size A C->Ax x a' C)
 (hassign:∀(l:Nat) (pre:List α) (x:α) (W:AH) (K':Act->AH->Prop),I pre W->G pre x->(∀a' W',KeepsOthers W W'->K W W'->I pre W'->Ax x a' W'->K' a' W')->
  assign.wpIn (Fence.wide.inRound l) (n - 1 - 1) P (Exit.then K' (fun _ _ _=>False)) {tmps:=(ps.zip (encs x)).foldl (fun t (p,v)=>t.setIfInBounds p v) a.tmps,defers:=[]} W)
 (hbody:∀(l:Nat) (pre:List α) (x:α) (a':Act) (W:AH),I pre W->G pre x->Ax x a' W->
  body.wpIn (Fence.wide.inRound l) (n - 1 - 1) P (fun e _ W'=>(e=.normal/\KeepsOthers W W'/\K W W'/\I (pre++[x]) W')\/(e=.ret/\KeepsOthers W W'/\Ix W')) a' W)
 (hdone:∀(D:Nat) (xs:List α) (W:AH),w.heap.size<=D->S xs->I xs W->W.heap[D]? =some (.deferred (some []))->Q .normal {a with defers:={target:=.collected D,args:=#[]}::a.defers} W)
 (hret:∀(D:Nat) (W:AH),w.heap.size<=D->Ix W->W.heap[D]? =some (.deferred (some []))->Code.ret.wpIn Fence.wide n P Q {a with defers:={target:=.collected D,args:=#[]}::a.defers} W):
 (Code.rangeFunc g ps assign body).wpIn Fence.wide n P Q a w:=by
 refine wpIn_rangeFunc ?_;intro fn _;obtain ⟨rec,hrec⟩:∃rec:LoopState->Option Code->Loop,rec=fun st pe=>{state:=st,pending:=pe,fn,tmps:=a.tmps,params:=ps,assign,body,defers:=w.heap.size}:=⟨_,rfl⟩;obtain ⟨W1,hW1⟩:=BR ((w.alloc (.deferred (some []))).alloc (.loop (rec .ready none)));have hL1:W1.heap[w.heap.size+1]? =some (.loop (rec .ready none)):=by rw [<-hW1];have:=World.alloc_heap_new (w.alloc (.deferred (some []))) (.loop (rec .ready none));rwa [Ev] at this
 have hK1:W1.heap[w.heap.size]? =some (.deferred (some [])):=by rw [<-hW1];exact (LR _ _ _ AZ).trans (World.alloc_heap_new w _)
 have hI1:I [] W1:=by rw [<-hW1];exact hIB _ _ _ (hIB _ _ _ h0 (Book.alloc _ _ (Ac _))) (Book.alloc _ _ AZ)
 have hb1:AK w W1:=by rw [<-hW1];exact ((Af _ w).alloc (Ac _) _).alloc AZ _
 refine ⟨w.heap.size+1,[{target:=.collected w.heap.size,args:=#[]}],W1,{target:=.fn (.func gf) lb,args:=#[.func (.yield (w.heap.size+1)) #[] #[]]},W1,gf,
  #[.func (.yield (w.heap.size+1)) #[] #[]]++lb,W1,?_,?_,fun _ _=>trivial,?_,(fun h=>by cases h),?_⟩
 · rw [<-hW1,hrec];exact run_enterLoop_outer _ _ _ _ _
 ·simp only [resolve,hg]
  simp [go_sem]
 · simp [invoke,go_sem,eg]
 refine (hseq (w.heap.size+1)
  (fun pre W=>I pre W/\W.heap[w.heap.size+1]? =some (.loop (rec .ready none))/\W.heap[w.heap.size]? =some (.deferred (some [])))
  (fun W=>Ix W/\W.heap[w.heap.size+1]? =some (.loop (rec .done (some .ret)))/\W.heap[w.heap.size]? =some (.deferred (some [])))
  (fun _ _=>False) N W1 hb1
  (fun s A C hs ht=>⟨hIT s A C hs.1 ht,(hTO A C ht).same _ _ hs.2.1 rfl,(hTO A C ht).same _ _ hs.2.2 rfl⟩)
  (fun s A hs=>hlen s A hs.1)
  ?_ ⟨hI1,hL1,hK1⟩).mono ?_
 ·rintro pre x W ⟨hi,hl,hk⟩ hGx
  have hy:=run_yield (P:=P) (args:=encs x) hl gN;rw [hrec] at hy;refine ⟨fn,_,assign,body,hy,roundIn_of_wpIn trivial (hassign _ pre x W _ hi hGx ?_)⟩;clear hy;intro a' Wa hkfa hkpa hia hax;have hl:=hkfa.same _ _ hl rfl;have hk:=hkfa.same _ _ hk rfl;have hlt:w.heap.size+1 < Wa.heap.size:=(DF.1 hl).1;refine ⟨_,run_beginRound hl (by rw [hrec]),?_⟩;have hl2:(Wa.putObj (w.heap.size+1) (.loop {rec .ready none with state:=.busy})).heap[w.heap.size+1]? =some (.loop {rec .ready none with state:=.busy}):=World.putObj_heap_same hlt;have hk2:(Wa.putObj (w.heap.size+1) (.loop {rec .ready none with state:=.busy})).heap[w.heap.size]? =some (.deferred (some [])):=(World.putObj_heap_other AG).trans hk;refine wpIn_mono (hbody _ pre x a' _ (hIB _ _ _ hia (Book.put _ _ _ AG hl rfl)) hGx (hAB _ _ _ _ hax (Book.put _ _ _ AG hl rfl))) ?_;rintro e a3 W3 (⟨rfl,hk3,hkk,hi3⟩ | ⟨rfl,hk3,hx3⟩)
  ·have hl3:=hk3.same _ _ hl2 rfl
   have hr:=run_endRound (P:=P) none hl3;rw [hrec] at hr;refine ⟨_,_,hr,.inl ⟨rfl,⟨hIB _ _ _ hi3 (Book.put _ _ _ AG hl3 rfl),?_,(World.putObj_heap_other AG).trans (hk3.same _ _ hk2 rfl)⟩,hKt _ _ _ hkpa (hKt _ _ _ (hKp _ _ _ _ AG hl rfl) (hKt _ _ _ hkk (hKp _ _ _ _ AG hl3 rfl)))⟩⟩;exact nK
  have hl3:=hk3.same _ _ hl2 rfl;have hr:=run_endRound (P:=P) (some .ret) hl3;rw [hrec] at hr;refine ⟨_,_,hr,.inr (.inl ⟨rfl,hXB _ _ hx3 (Book.put _ _ _ AG hl3 rfl),?_,(World.putObj_heap_other AG).trans (hk3.same _ _ hk2 rfl)⟩)⟩;exact nK
 rintro e W2 (⟨⟨v,rfl⟩,(⟨xs,hS,hi,hl,hk⟩ | ⟨hx,hl,hk⟩)⟩ | ⟨ch,_,h⟩)
 · exact ⟨none,_,by have:=run_endLoop (P:=P) hl ZV;rw [hrec] at this;exact this,hdone _ xs _ (Ac _) hS (hIB _ _ _ hi (Book.put _ _ _ AG hl rfl)) ((World.putObj_heap_other AG).trans hk)⟩
 · exact ⟨some .ret,_,by have:=run_endLoop (P:=P) hl ZV;rw [hrec] at this;exact this,hret _ _ (Ac _) (hXB _ _ hx (Book.put _ _ _ AG hl rfl)) ((World.putObj_heap_other AG).trans hk)⟩
 · exact h.elim
theorem JB {F:Fence} {w:AH} {ops:Array Oper} {rest:List Oper} {o:Oper} {a:Act} {Q:Exit->Act->AH->Prop} (hgd:o.guard=none) (ty:Ae) (x:Operand) (ho:o.op=.load ty x)
 (g:Nat) (d:AQ) (hx:a.eval x=AU (some ⟨g,0,none⟩)) (t:Ae) (ds:TypeDesc) (hg:AY w g t (yA d)) (hu:P.underlying ty=some ds) (hds:(match ds with | .struct _ | .array _ _=>true | _=>false)=true) (hi:(P.info? ty).map (·.size)=some 32) (hd:d.length=32)
 (h:wpListIn F n P ops Q rest (a.put o.dst (AP (yA d))) w):wpListIn F n P ops Q (o::rest) a w:=by
 refine wpListIn_plain hgd fun K hK=>⟨?_,?_⟩
 · simp [Oper.about,ho]
 rw [Oper.semAt_plain F _ _ (by rw [ho];intro c hc;cases hc)];unfold execOp;exact ABB
theorem Jo {F:Fence} {w:AH} {ops:Array Oper} {rest:List Oper} {o:Oper} {a:Act} {Q:Exit->Act->AH->Prop} (hgd:o.guard=none) (ty:Ae) (x y:Operand) (ho:o.op=.store ty x y)
 (g:Nat) (d:AQ) (hx:a.eval x=AU (some ⟨g,0,none⟩)) (hy:a.eval y=AP (yA d)) (t:Ae) (old:Array AN) (hg:AY w g t old) (hi:(P.info? ty).map (·.size)=some 32) (hold:old.size=32) (hd:d.length=32)
 (h:∀w',AY w' g t (yA d)->BL g w w'->w.grownBy w' (some g)->wpListIn F n P ops Q rest (a.put o.dst undef) w'):wpListIn F n P ops Q (o::rest) a w:=by
 have hs:(yA d).size=32:=by rw [CJ,hd]
 refine wpListIn_plain hgd fun K hK=>⟨?_,?_⟩
 · simp [Oper.about,ho]
 rw [Oper.semAt_plain F _ _ (by rw [ho];intro c hc;cases hc)];unfold execOp;simp only [ho,hx,hy,Instr.storeAt,Instr.sureAddr,Cp,DL,Result.andThen_ok,run_storeVar_row w g t ty old (yA d) hg ft gE (Kh d)];exact hK _ _ (h _ (hg.row _) (below_setRow (Af _ _) (Ac _) _) ⟨rfl,rfl,rfl,by simp [World.setRow],fun k hk hne=>Gb w g k _ (fun e=>hne Kg)⟩)
end
attribute [local go_sem] Oper.semAt_some
def TE (bs:Nat) (A C:AH):Prop:=A.grownBy C (some bs)/\∃(cs:Array AN) (t:Ae) (fz:Nat×Nat),A.heap[bs]? =some (Obj.cells cs t fz)
structure KE (bs:Nat) (W W':AH):Prop where
 size:W.heap.size<=W'.heap.size
 own:W'.heap[bs]? =W.heap[bs]?
 tab:Cc W->Cc W'
theorem Cc.grown {w w':AH} {g:Nat} (h:Cc w) (hg:w.grownBy w' (some g)) (h0:0 < g):Cc w':=
 ⟨Av h.1 hg.size,fun t ht=>hg.cell (h.2 t ht) (by intro e;injection e with e;have e:0=g:=e;omega)⟩
def GE (x0:AQ) (pre:List (AQ)) (x:AQ):Prop:=x=DI Aw x0 pre.length
def ip (x:AQ):Array AN:=#[AP (yA x)]
theorem NV (n:Nat):∀{x:AQ},x.length=32->(DI Aw x n).length=32:=by
 induction n with
 | zero=>intro x h;simp only [DI];exact h
 | succ n ih=>intro x _;simp only [DI];exact ih (DN _ _)
theorem tU (x:AQ) (n:Nat):Aw stepT (DI Aw x n)=DI Aw x (n+1):=by rw [<-em Aw x n 1];simp only [DI]
theorem AFA (m bs:Nat) (x0:AQ) (w:AH) (hk:AY w bs 34 (yA x0)) (hl:x0.length=32) (hT:Cc w) (h0b:0 < bs):
 AFL Fence.wide m prog 196 #[AU (some ⟨bs,0,none⟩)] ip (TE bs) (KE bs) (GE x0) (fun _=>False) w:=by
 intro lp J Jx Jp N W hW hJT vd hY h0;obtain ⟨HK,HT,HL,li,HJN,HY,XH⟩:=LU (hk.below hW hk.lt) (hT.below hW) hl hJT vd hY h0;have FJ:(prog.info? 34).map (·.size)=some 32:=AJ
 have HI:=AF FJ;clear hW hJT vd hY h0 hk hl hT FJ;refine FK.2 ?_;go_enter func196,ntmps196;go_wp2_with fail;go_loopg [5] (N+1) (fun q u wr=>∃pre:List (AQ),q=N+1 - pre.length/\J pre wr/\AY wr bs 34 (yA (DI Aw x0 pre.length))/\Cc wr)
 case atStart=>exact ⟨[],rfl,XH.o,HK.o,HT.o⟩
 obtain ⟨pre,hq,hj,hk,ht⟩:=hrel;obtain ⟨x,hx⟩:=Ad (DI Aw x0 pre.length);obtain ⟨fn,tmps,assign,body,hy,hR⟩:=HY.o pre x wr hj hx;rw [<-hx] at hk;have Ih:AI (x.length=32):=AF (by rw [hx];exact NV _ HL.o)
 dsimp only [ip] at hy
 obtain ⟨HR,HQ,HB,TJ,HX⟩:=Db hR hq hk ht hx;clear hR hq hk ht hx hj;go_upto_region 0 with fail;refine (D6 (n:=m)).1 ?_
 gi_wp2_with (refine JB rfl 34 (AX 1) rfl bs x rfl 34 _ HB.o underlying34 rfl HI.o Ih.o ?_)
 refine ⟨(fun h=>by cases h),HR.o.mono ?_⟩;rintro e W' (⟨rfl,hJ',hk'⟩ | ⟨rfl,qL⟩ | ⟨ch,rfl,bd⟩)
 ·have hpl:=HJN.o _ _ hJ'
  rw [CX] at hpl;have hpl:pre.length+1<=N:=hpl;have HJ2:=AF hJ';have HB2:AI (AY W' bs 34 (yA x)):=AF (hk'.own.trans HB.o);have HT2:AI (Cc W'):=AF (hk'.tab TJ.o);have HC:AI (∀W,AK W' W->AY W bs 34 (yA x)->AS prog 48 #[.string {data:=#[115,116,101,112]},AA (some ⟨bs,0,none⟩) 32 32] W (Dy (Aw stepT x) W)):=AF (fun W hW hk=>by have hy:=Gm hk (by rw [Ih.o];omega);rw [Ih.o] at hy;exact Il {data:=#[115,116,101,112]} _ 32 32 x W Ai (HT2.o.below hW) hy)
  obtain ⟨D,hD⟩:=Ad (Aw stepT x);rw [<-hD] at HC;have ET:AI (D.length=32):=AF U4;have wC:=AF hD;clear hJ' hk' hy hD HR
  gi_wp2
  go_wp2_with (first
   | (
    go_at_call 48;refine (HC.o _ (Af _ _) HB2.o).mono ?_;rintro e w3 ⟨rfl,hb⟩;obtain ⟨HB3,N2⟩:=Al (HB2.o.below hb HB2.o.lt) hb;clear hb)
   | (refine Ds rfl 34 (AX 1) (AX 7) rfl bs D rfl rfl 34 _ HB3.o HI.o (by rw [CJ,Ih.o]) ET.o ?_;intro w4 k4 hb4 hg4))
  go_roundg (N+1 - (pre.length+1))
  case measure=>exact Bi
  refine ⟨pre++[x],by rw [CX];rfl,li.o _ _ _ (li.o _ _ _ HJ2.o ⟨⟨N2.o.os,N2.o.tape,N2.o.output,N2.o.size,fun k hk _=>N2.o.block k hk⟩,_,_,_,HB2.o⟩) ⟨hg4,_,_,_,HB3.o⟩,?_,?_⟩
  ·rw [CX]
   show AY w4 bs 34 (yA (DI Aw x0 (pre.length+1)));rw [<-tU,<-HX.o,<-wC.o];exact k4
  have ht3:=HT2.o.below N2.o;exact Cc.grown ht3 hg4 h0b
 ·have HJX:=AF qL
  clear qL hy HR
  gi_wp2
  go_wp2_with fail
  go_end0
  exact .inl ⟨⟨_,rfl⟩,.inr HJX.o⟩
 · exact ⟨rfl,.inr ⟨ch,rfl,bd⟩⟩
open Go.Shelf
attribute [local go_sem] Oper.semAt_some
theorem qX (x:AQ) (w:AH):AS prog 149 #[AP (yA x)] w fun e w'=>e=AW (.func (.func 196) #[] #[AU (some ⟨w.heap.size,0,none⟩)])/\w'=w.alloc (AO (yA x) 34):=by have hmf:∀(fn:Fn) (first cap:Array AN) (w:AH),(Instr.makeFunc fn first cap).run prog w=.ok (.func fn first cap) w:=fun _ _ _ _=>rfl;go_enter func149,ntmps149;go_wp2;go_ret;exact ⟨rfl,rfl⟩
theorem TE.others {bs:Nat} {A C:AH} (h:TE bs A C):KeepsOthers A C:=KeepsOthers.of_grownBy h.1 (fun j o e ho=>by obtain ⟨cs,t,fz,hc⟩:=h.2;cases e;rw [hc] at ho;cases ho;rfl)
theorem KE.trans {bs:Nat} {A B C:AH} (h:KE bs A B) (k:KE bs B C):KE bs A C:=⟨BH h.size k.size,k.own.trans h.own,fun t=>k.tab (h.tab t)⟩
theorem KE.put {bs l:Nat} (W:AH) (o:Obj) (h:bs < l):KE bs W (W.putObj l o):=
 ⟨by simp [World.putObj],World.putObj_heap_other AG,fun t=>⟨by simpa [World.putObj] using t.1,fun i hi=>by have h0:(W.putObj l o).heap[0]? =W.heap[0]? :=World.putObj_heap_other AG;have:=t.2 i hi;unfold World.cell? at this ⊢;rw [h0];exact this⟩⟩
theorem KE.grown {bs:Nat} {A C:AH} {row:Option Nat} (hg:A.grownBy C row) (hb:bs < A.heap.size) (hne:some bs≠row) (h0:some 0≠row):KE bs A C:=
 ⟨hg.size,hg.block bs hb hne,fun t=>⟨Av t.1 hg.size,fun i hi=>hg.cell (t.2 i hi) h0⟩⟩
theorem Below.book {n B:Nat} {w A C:AH} (h:BL B w A) (hb:Book n A C) (hB:B<=n):BL B w C:=
 h.trans ⟨hb.os,hb.tape,hb.output,hb.size,fun k hk=>hb.block k AG⟩
theorem GU {n g:Nat} {t:Ae} {cs:Array AN} {A C:AH} (h:AY A g t cs) (b:Book n A C):AY C g t cs:=(b.cells _ _ _ _ h).trans h
theorem YZ (x0:AQ) (n:Nat) (w:AH) (hl:x0.length=32) (hn:n<=1000) (hT:Cc w):AS prog 100 #[AP (yA x0),AB AE n] w (Dy (DI Aw x0 n) w):=by
 obtain ⟨HL,HT⟩:=Al hl hT;have FJ:(prog.info? 34).map (·.size)=some 32:=AJ
 have HI:=AF FJ;clear hl hT FJ;refine (FK (n:=8)).1 ?_;refine callsIn_of_wp_marks func100 rfl trivial ?_ rfl;simp only [ntmps100,R2,F6,Pw,Nat.reduceAdd,Nat.reduceSub,Ur,Us,Uo,Uq,IJ,MU];refine D6.2 ?_;go_upto_region 1 with fail;have hq:=JJ ((w.alloc (AO (yA x0) 34)).alloc (AO #[AB AE (n:Int)] 3)) 34;have kd:AY ((w.alloc (AO (yA x0) 34)).alloc (AO #[AB AE (n:Int)] 3)) w.heap.size 34 (yA x0):=(AY.new _ _ _).alloc _;have kn:AY ((w.alloc (AO (yA x0) 34)).alloc (AO #[AB AE (n:Int)] 3)) (w.heap.size+1) 3 #[AB AE (n:Int)]:=by
  have:=AY.new (w.alloc (AO (yA x0) 34)) 3 #[AB AE (n:Int)]
  rwa [Ev] at this
 have hb0:AK w ((w.alloc (AO (yA x0) 34)).alloc (AO #[AB AE (n:Int)] 3)):=(BK _ _).alloc AZ _;have hs0:((w.alloc (AO (yA x0) 34)).alloc (AO #[AB AE (n:Int)] 3)).heap.size=w.heap.size+1+1:=AZ
 generalize ((w.alloc (AO (yA x0) 34)).alloc (AO #[AB AE (n:Int)] 3))=w0 at hq kd kn hb0 hs0 ⊢;rw [hs0] at hq;generalize (w0.alloc _)=wa at hq ⊢;obtain ⟨kr,hba,hza⟩:=hq;obtain ⟨KD,KN,KR,H0,HZ⟩:=Db (kd.below hba AG) (kn.below hba AG) kr (hb0.trans (hba.mono AG)) hza;clear hs0 hb0 hba kd kn kr hza;go_wp2_with (first
  | (refine Cb rfl 34 (AX 2) rfl w.heap.size x0 rfl 34 _ KD.o underlying34 rfl HI.o HL.o ?_)
  | (go_at_call 149;refine (qX _ _).mono ?_;rintro e w2 ⟨rfl,rfl⟩))
 obtain ⟨w2,hw2⟩:=Ad (wa.alloc (AO (yA x0) 34));rw [<-hw2];have kb:AY w2 wa.heap.size 34 (yA x0):=by rw [hw2];exact AY.new _ _ _
 have hbW:AK wa w2:=by rw [hw2];exact (Af _ _).alloc (Ac _) _
 have hz2:w2.heap.size=w.heap.size+1+1+1+1:=by rw [hw2];have:=HZ.o;simp;omega
 have hbs:wa.heap.size=w.heap.size+1+1+1:=HZ.o;obtain ⟨bs,hbe⟩:=Ad wa.heap.size;rw [<-hbe] at kb hbs ⊢;obtain ⟨HD2,Q9,HR2,HB2,HKB⟩:=Db (KD.o.below hbW KD.o.lt) (KN.o.below hbW KN.o.lt) (KR.o.below hbW KR.o.lt) (AV H0.o hbW) kb;clear hw2 kb hbW hbe KD KN KR H0 HZ;subst hbs;refine (D6 (n:=8)).1 ?_;refine U8 (gf:=196) (lb:=#[AU (some ⟨w.heap.size+1+1+1,0,none⟩)]) rfl (enters_of func196 AJ rfl)
  (AFA 7 (w.heap.size+1+1+1) x0 w2 HKB.o HL.o (HT.o.below HB2.o) AG) (fun _=>rfl) n
  (fun pre W=>AY W w.heap.size 34 (yA x0)/\AY W (w.heap.size+1) 3 #[AB AE ((n - pre.length:Nat):Int)]/\AY W (w.heap.size+1+1) 34 (yA (zeros 32))/\pre.length<=n/\AK w W/\w2.heap.size<=W.heap.size)
  (fun W=>AY W (w.heap.size+1+1) 34 (yA (DI Aw x0 n))/\AK w W)
  (fun s A C h t=>⟨h.1.grown t.1 FT,h.2.1.grown t.1 FT,h.2.2.1.grown t.1 FT,h.2.2.2.1,h.2.2.2.2.1.grown t.1 (by have:=h.2.2.2.2.2;omega) (by intro r e;injection e with e;omega),BH h.2.2.2.2.2 t.1.size⟩)
  (fun s A C h b=>⟨GU h.1 b,GU h.2.1 b,GU h.2.2.1 b,h.2.2.2.1,Below.book h.2.2.2.2.1 b AG,BH h.2.2.2.2.2 b.size⟩)
  (fun A C h b=>⟨GU h.1 b,Below.book h.2 b AG⟩)
  (fun s A h=>h.2.2.2.1) (fun A C h=>h.others) (fun A B C h k=>h.trans k) (fun W l o o' hl h ho=>KE.put W o' AG)
  ⟨HD2.o,Q9.o,HR2.o,Ay _,HB2.o,Ac _⟩
  (fun x a' W=>∃Bx,w2.heap.size<=Bx/\AY W Bx 34 (yA x)/\a'={tmps:=#[AP (yA x0),AB AE n,AU (some ⟨w.heap.size,0,none⟩),AU (some ⟨w.heap.size+1,0,none⟩),AU (some ⟨w.heap.size+1+1,0,none⟩),AU (some ⟨Bx,0,none⟩),AP (yA x0),.func (.func 196) #[] #[AU (some ⟨w.heap.size+1+1+1,0,none⟩)],AP (yA x),undef,undef,undef,undef,undef,undef],defers:=[]})
  (fun x a' A C h b=>by obtain ⟨Bx,h1,h2,h3⟩:=h;exact ⟨Bx,h1,GU h2 b,h3⟩)
  ?assign ?body ?done ?ret
 case assign=>
  rintro lp pre x W K ⟨h1,h2,h3,h4,h5,h6⟩ hG hK;have Ih:AI (x.length=32):=AF uT;have HKK:=AF hK;have hzb:=JJ W 34;obtain ⟨K1,K2,K3,K5⟩:=CD h1 h2 h3 h5;clear hK hG h1 h2 h3 h5
  dsimp only [ip]
  gi_wp2_with (refine Jo rfl 34 (AX 5) (AX 8) rfl W.heap.size x rfl rfl 34 (yA (zeros 32)) hzb.1 HI.o EY Ih.o ?_;intro w4 k4 hb4 hg4)
  exact HKK.o _ _ ((KeepsOthers.alloc _ _).trans (TE.others ⟨hg4,_,_,_,hzb.1⟩)) ((KE.grown (D8 W _ none) AG AZ AZ).trans (KE.grown hg4 Bd FT FT))
   ⟨(K1.o.alloc _).grown hg4 FT,(K2.o.alloc _).grown hg4 FT,(K3.o.alloc _).grown hg4 FT,h4,(K5.o.alloc K5.o.size _).trans (hb4.mono K5.o.size),BH h6 (BH AZ hg4.size)⟩ ⟨W.heap.size,h6,k4,rfl⟩
 case body=>
  rintro lp pre x a' W ⟨h1,h2,h3,h4,h5,h6⟩ hG ⟨Bx,hBx,hbx,rfl⟩;have Ih:AI (x.length=32):=AF uT;have c0:=h2.cell 0;have f0:=h2.frozen 0;have l0:=h2.lt;simp only [Aj,Ao] at c0;obtain ⟨K1,K2,K3,K5,KX,HG⟩:=Fg h1 h2 h3 h5 hbx hG;obtain ⟨q,hq⟩:=Ad (n - pre.length);rw [<-hq] at c0;have HQ:=AF hq;clear h1 h2 h3 h5 hbx hG hq;by_cases hlt:0 < q
  ·have hq0:¬(q:Int)<=0:=by omega
   gi_wp2
   have hq1:wrap64 ((q:Int) - 1)=((n - (pre.length+1):Nat):Int):=by have:=HQ.o;rw [dL AG AG];omega
   rw [hq1];exact ⟨KeepsOthers.setCell _ _ _,KE.grown (grownBy_setCell' _ _ _) AG FT FT,
    K1.o.far uC _,K2.o.put 0 _,K3.o.far (by show w.heap.size+1+1≠w.heap.size+1;omega) _,by have:=HQ.o;omega,K5.o.setCell gX _,by omega⟩
  have hq0:(q:Int)<=0:=AG
  gi_wp2_with (first
   | (refine JB rfl 34 (AX 5) rfl Bx x rfl 34 _ KX.o underlying34 rfl HI.o Ih.o ?_)
   | (refine Jo rfl 34 (AX 4) (AX 11) rfl (w.heap.size+1+1) x rfl rfl 34 (yA (zeros 32)) K3.o HI.o EY Ih.o ?_;intro w4 k4 hb4 hg4))
  have hx:x=DI Aw x0 n:=by have h:=HG.o;have:=HQ.o;rw [show n=pre.length by omega];exact h
  rw [<-hx];exact ⟨TE.others ⟨hg4,_,_,_,K3.o⟩,k4,K5.o.trans (hb4.mono AG)⟩
 case done=>exact fun D xs W _ h _ _=>h.elim
 rintro D W hD ⟨h1,h2⟩ hK
 gi_wp2
 have hne:w.heap.size+1+1≠D:=AG
 refine ⟨by simp,.inl ⟨_,_,rfl,run_takeDeferred hK,?_⟩⟩;have k8:AY (W.putObj D (.deferred none)) (w.heap.size+1+1) 34 (yA (DI Aw x0 n)):=(World.putObj_heap_other hne).trans h1;exact ⟨_,OV rfl _ _ (w.heap.size+1+1) 34 (yA (DI Aw x0 n)) (0,0) _ rfl k8 underlying34 rfl (by rw [CJ,NV _ HL.o];exact HI.o),rfl,h2.trans (belowK_b (w:=w2) AG W D _ _ hD hK rfl rfl)⟩
theorem Ek {P:BE} {ops:Array Oper} {rest:List Oper} {o:Oper} {a:Act} {w:AH} {Q:Exit->Act->AH->Prop} (hgd:o.guard=none) (T:Ae) (ho:o.op=.alloc T) (cs:Array AN) (hz:(P.info? T).bind (·.zero)=some (.agg cs))
 (h:wpList P ops Q rest (a.put o.dst (AU (some ⟨w.heap.size,0,none⟩))) (w.alloc (AO cs T))):wpList P ops Q (o::rest) a w:=by
 obtain ⟨i,hi,hzi⟩:=ZH.1 hz;refine wpList_plain hgd fun K hK=> ?_;unfold Oper.wp execOp;simp [ho,Instr.alloc,zeroValue,typeInfo,hi,hzi,newVar,newRow,Value.cells];exact hK _ _ h
theorem je {w:AH} {g o n:Nat} {t:Ae} {l:AQ} (h:AY w g t (yA l)) (hl:o+n<=l.length):w.there g o n:=fun j hj=>by rw [Ki h (i:=o+j) AG];exact ⟨rfl,h.frozen _⟩
def FP (f:Nat->AQ) (k:Nat):AQ:=((List.range k).map f).flatten++zeros ((19 - k)*32)
theorem bf {f:Nat->AQ} (hf:∀i,(f i).length=32):∀k,((List.range k).map f).flatten.length=k*32
 | 0=>rfl
 | k+1=>by rw [Py,DY,Px,CX,bf hf k];simp [hf];omega
theorem Vw {f:Nat->AQ} (hf:∀i,(f i).length=32) {k:Nat} (hk:k<=19):(FP f k).length=608:=by rw [FP,CX,bf hf];simp [zeros];omega
theorem mC {f:Nat->AQ} (hf:∀i,(f i).length=32) {k:Nat} (hk:k < 19):splice (FP f k) (k*32) (f k)=FP f (k+1):=by have h:=bf hf k;unfold splice FP;rw [Py,DY,Px,hf k,List.take_append_of_le_length AG,C7 AG,List.drop_append,FQ AG,h];simp [zeros];congr 1;omega
theorem ACn (f:Nat->AQ):FP f 19=((List.range 19).map f).flatten:=by simp [FP,zeros]
theorem wI (f:Nat->AQ):FP f 0=zeros 608:=by simp [FP]
theorem AF6:(prog.info? 232).bind (·.zero)=some (AP (yA (zeros 608))):=by kernel_rfl
theorem xO (seed:AQ) (w:AH) (hl:seed.length=32) (hT:Cc w):AS prog 85 #[AP (yA seed)] w (Dy (JE Aw seed) w):=by
 obtain ⟨HL,HT⟩:=Al hl hT;have FJ:(prog.info? 34).map (·.size)=some 32:=AJ
 have HI:=AF FJ;have eN:(prog.info? 232).map (·.size)=some 608:=AJ
 obtain ⟨HI2,HZ2⟩:=Al eN AF6;obtain ⟨f,hf⟩:∃f:Nat->AQ,f=fun i=>DI Aw (IE Aw seed i) 3:=⟨_,rfl⟩;have Mi:AI (∀i,(f i).length=32):=AF (fun i=>by rw [hf];exact NV _ Zf);obtain ⟨Z,hZ⟩:=Ad (JE Aw seed);have fF:AI (Z.length=32):=AF (by rw [hZ,JE,JX];exact DN _ _);have HP:AI (∀W,AK w W->AS prog 131 #[AP (yA (FP f 19))] W (Dy Z W)):=AF (fun W hW=>by have:=Xp (FP f 19) W (Vw Mi.o (Ac _)) (hT.below hW);rw [hZ,JE,JX];rw [ACn] at this ⊢;rw [hf] at this ⊢;exact this)
 have XJ:AI (∀(i:Nat),i < 19->∀W,AK w W->AS prog 101 #[AP (yA seed),AB AE i] W (Dy (IE Aw seed i) W)):=AF (fun i hi W hW=>lE seed i W hl AG (hT.below hW));have HAF:AI (∀(i:Nat),∀W,AK w W->AS prog 100 #[AP (yA (IE Aw seed i)),AB AE 3] W (Dy (f i) W)):=AF (fun i W hW=>by rw [hf];exact YZ (IE Aw seed i) 3 W Zf AG (hT.below hW));rw [<-hZ];clear hl hT FJ eN hf hZ;go_enter func85,ntmps85;go_upto_region 1 with fail;have hq:=JJ (w.alloc (AO (yA seed) 34)) 34;have kd:AY (w.alloc (AO (yA seed) 34)) w.heap.size 34 (yA seed):=AY.new _ _ _;have hb0:AK w (w.alloc (AO (yA seed) 34)):=(Af _ _).alloc (Ac _) _;have hs0:(w.alloc (AO (yA seed) 34)).heap.size=w.heap.size+1:=AZ
 generalize (w.alloc (AO (yA seed) 34))=w0 at hq kd hb0 hs0 ⊢;rw [hs0] at hq;generalize (w0.alloc _)=wa at hq ⊢;obtain ⟨kr,hba,hza⟩:=hq;obtain ⟨KD,KR,KA,HB,Ye⟩:=Db ((kd.below hba AG).alloc (AO (yA (zeros 608)) 232)) (kr.alloc (AO (yA (zeros 608)) 232)) (AY.new wa 232 (yA (zeros 608))) ((hb0.trans (hba.mono AG)).alloc AG (AO (yA (zeros 608)) 232)) hza;clear hs0 hb0 hba kd kr hza;go_wp2_with (refine Ek rfl 232 rfl _ HZ2.o ?_);go_loopg [5] 19 (fun q i wr=>∃k:Nat,k<=19/\q=19 - k/\i=AB AE k/\AY wr w.heap.size 34 (yA seed)/\AY wr (w.heap.size+1) 34 (yA (zeros 32))/\AY wr wa.heap.size 232 (yA (FP f k))/\AK w wr)
 case atStart=>exact ⟨0,Ay _,rfl,rfl,KD.o,KR.o,by rw [wI];exact KA.o,HB.o⟩
 clear KD KR KA HB;obtain ⟨k,hk,hq,rfl,h1,h2,h3,h4⟩:=hrel;obtain ⟨HQ,KD,KR,KA,HB⟩:=Db hq h1 h2 h3 h4;clear hq h1 h2 h3 h4;by_cases hlt:k < 19
 ·have hk0:=Int.natCast_nonneg k
  have hk1:(k:Int) < 19:=AG
  have hb1:=XJ.o k hlt;have ha1:=HAF.o k;obtain ⟨B,hB⟩:=Ad (IE Aw seed k);rw [<-hB] at hb1 ha1;obtain ⟨D,hD⟩:=Ad (f k);rw [<-hD] at ha1;have eR:D.length=32:=by rw [hD];exact Mi.o k
  obtain ⟨HB1,HA1,wC⟩:=BB hb1 ha1 hD;have Tz:AI (∀W,AY W wa.heap.size 232 (yA (FP f k))->W.there wa.heap.size (k*32) (yA D).size):=AF (fun W h=>by rw [CJ,eR];exact je h (by rw [Vw Mi.o hk];omega));have Cd:AI ((prog.info? 34).map (·.size)=some (yA D).size):=AF (by rw [CJ,eR];exact HI.o);obtain ⟨ET,LJ⟩:=Al eR hlt;clear hb1 ha1 hB hD eR hlt;go_wp2_with (first
   | (refine Cb rfl 34 (AX 1) rfl w.heap.size seed rfl 34 _ KD.o underlying34 rfl HI.o HL.o ?_)
   | (
    go_at_call 101;refine (HB1.o _ HB.o).mono ?_;rintro e w2 ⟨rfl,hb⟩;obtain ⟨KD2,Nb,fD,HB2⟩:=CD (KD.o.below hb KD.o.lt) (KR.o.below hb KR.o.lt) (KA.o.below hb KA.o.lt) (AV HB.o hb);clear hb)
   | (
    go_at_call 100;refine (HA1.o _ HB2.o).mono ?_;rintro e w3 ⟨rfl,hb⟩;obtain ⟨KD3,RT,aQ,HB3⟩:=CD (KD2.o.below hb KD2.o.lt) (Nb.o.below hb Nb.o.lt) (fD.o.below hb fD.o.lt) (AV HB2.o hb);clear hb)
   | (refine Un rfl 34 (AX 13) (AX 12) rfl wa.heap.size (k*32) (yA D) rfl rfl (Tz.o _ aQ.o) Cd.o (Kh D) ?_))
  go_roundg (19 - (k+1))
  case measure=>exact dD
  have hlt:=LJ.o;have hz:=Ye.o;have hbb:BL wa.heap.size w3 (w3.setCells wa.heap.size (k*32) (yA D).toList):=below_setCells _ _ _ _ (Af _ _) (Ac _);refine ⟨k+1,by omega,rfl,by go_num,(hbb.block _ AG).trans KD3.o,(hbb.block _ AG).trans RT.o,?_,HB3.o.trans (hbb.mono AG)⟩;rw [<-mC Mi.o hlt,<-wC.o];exact zr
 have h19:k=19:=AG
 subst h19;have Cd:AI ((prog.info? 232).map (·.size)=some (yA (FP f 19)).size):=AF uZ;obtain ⟨F,hF⟩:=Ad (FP f 19);rw [<-hF] at Cd KA HP;clear hF hlt;go_wp2_with (first
  | (refine Ci rfl 232 (AX 3) rfl wa.heap.size rfl 232 (yA F) (0,0) _ KA.o underlying232 rfl Cd.o ?_)
  | (
   go_at_call 131;refine (HP.o _ HB.o).mono ?_;rintro e w2 ⟨rfl,hb⟩;obtain ⟨Nb,HB2⟩:=Al (KR.o.below hb KR.o.lt) (AV HB.o hb);clear hb)
  | (refine Da rfl 34 (AX 2) (AX 16) rfl (w.heap.size+1) Z rfl rfl 34 _ Nb.o HI.o EY fF.o ?_;intro w4 k4 hb4))
 exact V9 (.inl rfl) rfl rfl rfl k4 underlying34 rfl HI.o fF.o (HB2.o.trans (hb4.mono (Et _)))
theorem bx (w:AH) (cs:Array AN) (T:Ae):AY (w.alloc (AO cs T)) w.heap.size T cs/\BL w.heap.size w (w.alloc (AO cs T))/\(w.alloc (AO cs T)).heap.size=w.heap.size+1:=
 ⟨AY.new _ _ _,(Af _ _).alloc (Ac _) _,by simp⟩
theorem OG {w:AH} {base base':Nat} {e:Ae} {size:Nat} {v:AN} {n:Nat} {xs:List AN} (h:w.ownsRow base e size v n xs) (hb:base'<=base):w.ownsRow base' e size v n xs:=by
 refine ⟨h.1,?_⟩;rcases h.2 with h2 | ⟨g,cap,cur,hv,hg,r⟩
 · exact .inl h2
 · exact .inr ⟨g,cap,cur,hv,BH hb hg,r⟩
theorem Dj {w:AH} {base g:Nat} {e:Ae} {size:Nat} {v:AN} {n:Nat} {xs:List AN} (h:w.ownsRow base e size v n xs) (hg:g < base):some g≠v.ownBlock:=by intro e2;have:=(h.lt g e2.symm).1;omega
theorem iq:∃(j:TypeInfo) (z:AN),prog.info? 34=some j/\j.zero=some z/\z.cells.size=32/\j.size=32/\j.bytes=32:=by obtain ⟨j,hj,hz⟩:=EC.1 (show (prog.info? 34).map (fun i=>(i.zero.map (·.cells.size),i.size,i.bytes))=some (some 32,32,32) by kernel_rfl);simp only [Gd] at hz;obtain ⟨z,hz0,hz1⟩:=EC.1 hz.1;exact ⟨j,z,hj,hz0,hz1,hz.2⟩
theorem Fw:(prog.info? 34).map (·.size)=some 32:=by kernel_rfl
theorem jh (m:AQ) (k:Nat) (hk:k < 19):∃d:Nat,(En m)[k]? =some (d:Int)/\(En m).getD k 0=(d:Int)/\d<=3:=by
 have h:=dU (m:=m) _ (Um (show k < (En m).length by rw [Oz];exact hk));refine ⟨((En m)[k]' gP).toNat,?_,?_,by omega⟩
 · rw [BN gP];congr 1;omega
 · rw [Ck,BN gP];simp only [Ce];omega
theorem AF5 {l:AQ} {k:Nat} {x:Int} (h:l[k]? =some x) (hk:k < 19) (w:AH):(Instr.index 189 (AP (iA l)) (AB AE (k:Int))).run prog w=.ok (AB AE x) w:=by
 have hx:(iA l)[k]? =some (AB AE x):=by rw [iA,Aj,Bg,h];rfl
 have hk':(0:Int)<=(k:Int)/\(k:Int) < ((19:Nat):Int):=AG
 obtain ⟨j,hj,hz⟩:=EC.1 (show (prog.info? 3).map (·.size)=some 1 by kernel_rfl);simp only [Instr.index,asIntOf,Cp,DL,Result.andThen_ok,Uw underlying189,hk',and_self,C4];simp [sizeOf,part,isAgg,run_underlying underlying3,hx,typeInfo,hj,hz]
theorem AC6 (seed m:AQ) (w:AH) (hs:seed.length=32) (hm:m.length=32) (hr:∀x∈m,0<=x/\x < 256) (hT:Cc w):
 AS prog 72 #[AP (yA seed),AP (yA m)] w (TG (Ld Aw seed m) w):=by
 obtain ⟨HS,HM⟩:=Al hs hm;have aR:AI (∀W,AK w W->AS prog 98 #[AP (yA m)] W (zK (En m) W)):=AF (fun W hW=>ji m W hm hr);have XJ:AI (∀(i:Nat),i < 19->∀W,AK w W->AS prog 101 #[AP (yA seed),AB AE i] W (Dy (IE Aw seed i) W)):=AF (fun i hi W hW=>lE seed i W hs AG (hT.below hW));have HAF:AI (∀(i d:Nat),d<=3->∀W,AK w W->AS prog 100 #[AP (yA (IE Aw seed i)),AB AE d] W (Dy (DI Aw (IE Aw seed i) d) W)):=AF (fun i d hd W hW=>YZ (IE Aw seed i) d W Zf AG (hT.below hW));have Mi:AI (∀(i d:Nat),(DI Aw (IE Aw seed i) d).length=32):=AF (fun i d=>NV _ Zf);have RV:AI (∀(k:Nat),k < 19->∃d:Nat,(En m)[k]? =some (d:Int)/\(En m).getD k 0=(d:Int)/\d<=3):=AF (fun k hk=>jh m k hk);obtain ⟨L,hL⟩:=Ad (En m);have Ys:AI (L.length=19):=AF (by rw [hL];exact Oz m);obtain ⟨f,hf⟩:∃f:Nat->AQ,f=fun i=>DI Aw (IE Aw seed i) (L.getD i 0).toNat:=⟨_,rfl⟩;have hz:Ld Aw seed m=(List.range 19).map f:=by rw [hf,hL];rfl
 rw [hz];obtain ⟨R,hR⟩:=Ad ((List.range 19).map f);have HRE:=AF hR;rw [<-hR];rw [<-hL] at aR RV;obtain ⟨j0,z0,hj⟩:=iq;obtain ⟨HJ,Cd,HF⟩:=BB hj Fw hf;clear hs hm hr hT hL hj hz hf hR;go_enter func72,ntmps72;go_upto_region 1 with fail;obtain ⟨k1,b1,s1⟩:=bx w (yA seed) 34;obtain ⟨k2,b2,s2⟩:=bx (w.alloc (AO (yA seed) 34)) (yA m) 34;generalize ((w.alloc (AO (yA seed) 34)).alloc (AO (yA m) 34))=w2 at k2 b2 s2 ⊢;generalize (w.alloc (AO (yA seed) 34))=w1 at k1 b1 s1 k2 b2 s2 ⊢;rw [s1] at k2 b2 s2;obtain ⟨KS,KM,HB,HZ⟩:=CD (k1.below b2 AG) k2 (b1.trans (b2.mono AG)) s2;clear k1 b1 k2 b2 s2 s1;go_wp2_with (first
  | (refine Cb rfl 34 (AX 3) rfl (w.heap.size+1) m rfl 34 _ KM.o underlying34 rfl Cd.o HM.o ?_)
  | (
   go_at_call 98;refine (aR.o _ HB.o).mono ?_;rintro e w3 ⟨rfl,hb⟩;obtain ⟨KS3,HB3⟩:=Al (KS.o.below hb KS.o.lt) (AV HB.o hb);have LD:AI (w.heap.size+2<=w3.heap.size):=AF (by have:=hb.size;have:=HZ.o;omega);clear hb))
 go_loopg [4,9] 19 (fun q v i wr=>∃k:Nat,k<=19/\q=19 - k/\i=AB AE k/\AY wr w.heap.size 34 (yA seed)/\(∃cs,wr.ownsRow (w.heap.size+2) 34 32 v k cs/\Ap 32 CP wr cs ((List.range k).map f))/\w.heap.size+2<=wr.heap.size/\AK w wr)
 case atStart=>exact ⟨0,Ay _,rfl,rfl,KS3.o,⟨[],Ef _ _ _ _,Ap.nil⟩,LD.o,HB3.o⟩
 clear KS KM HB KS3 HB3 LD;obtain ⟨k,hk,hq,rfl,h1,⟨cs,h2,h3⟩,h4,h5⟩:=hrel;obtain ⟨HQ,KS,HO,HC,lV,HB⟩:=Fg hq h1 h2 h3 h4 h5;clear hq h1 h2 h3 h4 h5;by_cases hlt:k < 19
 ·have hk0:=Int.natCast_nonneg k
  have hk1:(k:Int) < 19:=AG
  obtain ⟨d,hd1,hd2,hd3⟩:=RV.o k hlt;have hix:=fun W=>AF5 hd1 hlt W;obtain ⟨BJ,wF⟩:=Al (XJ.o k hlt) (HAF.o k d hd3);obtain ⟨B,hB⟩:=Ad (IE Aw seed k);obtain ⟨D,hD⟩:=Ad (DI Aw B d);have Yx:AI (f k=D):=AF (by rw [HF.o,hD,hB];simp only [hd2,Cq]);have hDl:D.length=32:=by rw [hD,hB];exact Mi.o k d
  rw [<-hB] at BJ wF;rw [<-hD] at wF;have ET:=AF hDl;have hys:(yA D).size=32:=by rw [CJ,hDl]
  have hfl:=VW D hDl;have LJ:=AF hlt;clear hB hD hd1 hd2 hd3 hDl hlt;go_wp2_with (first
   | (refine Cb rfl 34 (AX 2) rfl w.heap.size seed rfl 34 _ KS.o underlying34 rfl Cd.o HS.o ?_)
   | (
    go_at_call 101;refine (BJ.o _ HB.o).mono ?_;rintro e w3 ⟨rfl,hb⟩;obtain ⟨KS3,Ja,Vm,HB3⟩:=CD (KS.o.below hb KS.o.lt) (Eh HO.o hb) (BH lV.o hb.size) (AV HB.o hb);clear hb)
   | (
    go_at_call 100;refine (wF.o _ HB3.o).mono ?_;rintro e w4 ⟨rfl,hb⟩;obtain ⟨KS4,Q8,lQ,HB4⟩:=CD (KS3.o.below hb KS3.o.lt) (Eh Ja.o hb) (BH Vm.o hb.size) (AV HB3.o hb);clear hb)
   | (at_builtin;refine CQ _ rfl (AX 13) (AX 19) 37 34 rfl j0 z0 32 underlying37 HJ.o.1 HJ.o.2.1 HJ.o.2.2.2.1 HJ.o.2.2.2.2 HJ.o.2.2.1 Ai (R:=CP) TC (w.heap.size+2) _ _ _ rfl (Q8.o.alloc _) (some ⟨w4.heap.size,0,none⟩) 1 1 [D] rfl (Zn w4 D ET.o) Gx AG (by have:=lQ.o;simp;omega) ?_;intro v' w5 Nu hc5 Gi hg5 Og))
  go_roundg (19 - (k+1))
  case measure=>exact dD
  have h6:=lQ.o;have hsz:=hg5.size;simp only [Ev] at hsz;refine ⟨k+1,by have:=LJ.o;omega,rfl,by go_num,(KS4.o.alloc _).grown hg5 (Dj Q8.o AG),⟨cs++Nu,Gi,?_⟩,by omega,(HB4.o.alloc HB4.o.size _).grown hg5 Bd (fun r hr=>by have:=(Q8.o.lt r hr).1;omega)⟩;rw [Py,DY];exact (JF HC.o).append (by rw [show [k].map f=[D] by rw [Fz,Yx.o];rfl];exact hc5)
 have h19:k=19:=AG
 subst h19;go_wp2;go_ret;rw [HRE.o];exact ⟨_,cs,rfl,by rw [CY,ZF];exact OG HO.o AG,HC.o,HB.o⟩
theorem sL (m:AQ) (A:Option Addr) (n c:Nat) (s:List (AQ)) (w:AH) (hm:m.length=32) (hr:∀x∈m,0<=x/\x < 256) (hT:Cc w) (hs:Ag 32 CP w (AA A n c) s):
 AS prog 90 #[AP (yA m),AA A n c] w (fB (if s.length=19 then IC Aw m s else zeros 32) (if s.length=19 then 0 else 50) w):=by
 obtain ⟨HM,HS,Hc⟩:=BB hm hs hs.len;have hnc:=hs.le;have Cd:=AF Fw;have eN:(prog.info? 232).map (·.size)=some 608:=AJ
 obtain ⟨HI2,HZ2,HT,HR⟩:=CD eN AF6 hT hr;clear hm hr hT hs eN;by_cases h19:n=19
 ·subst h19
  have hsl:s.length=19:=Hc.o.symm;rw [Ak hsl,Ak hsl];have aR:AI (∀W,AK w W->AS prog 98 #[AP (yA m)] W (zK (En m) W)):=AF (fun W hW=>ji m W HM.o HR.o);have RV:AI (∀(k:Nat),k < 19->∃d:Nat,(En m)[k]? =some (d:Int)/\(En m).getD k 0=(d:Int)/\d<=3):=AF (fun k hk=>jh m k hk);obtain ⟨L,hL⟩:=Ad (En m);obtain ⟨f,hf⟩:∃f:Nat->AQ,f=fun i=>if i < 19 then DI Aw (s.getD i []) (3 - L.getD i 0).toNat else zeros 32:=⟨_,rfl⟩
  have HEL:AI (∀k,k < 19->∃x,s[k]? =some x/\x.length=32):=AF (fun k hk=>by obtain ⟨_,_,x,_,_,hx,hxl,_⟩:=Kr HS.o hk;exact ⟨x,hx,hxl⟩)
  have fT:AI (∀k x,k < 19->s[k]? =some x->f k=DI Aw x (3 - L.getD k 0).toNat):=AF (fun k x hk hx=>by rw [hf];simp only [Ak hk];rw [Ck,hx];rfl);have Mi:AI (∀i,(f i).length=32):=AF (fun i=>by
   rw [hf];by_cases h:i < 19
   ·obtain ⟨x,hx,hxl⟩:=HEL.o i h
    simp only [Ak h];rw [Ck,hx];exact NV _ hxl
   · simp only [Ah h];simp [zeros])
  obtain ⟨Z,hZ⟩:=Ad (IC Aw m s);have fF:AI (Z.length=32):=AF (by rw [hZ,IC,JX];exact DN _ _);have HP:AI (∀W,AK w W->AS prog 131 #[AP (yA (FP f 19))] W (Dy Z W)):=AF (fun W hW=>by
   have:=Xp (FP f 19) W (Vw Mi.o (Ac _)) (HT.o.below hW);have e:(List.range 19).map f=(List.range 19).map fun i=>DI Aw (s.getD i []) (3 - (En m).getD i 0).toNat:=List.map_congr_left fun i hi=>by rw [hf,hL];simp only [Ak (Eu.1 hi)]
   rw [hZ,IC,JX,<-e,<-ACn];exact this)
  have HAF:AI (∀(x:AQ) (d:Nat),x.length=32->d<=3->∀W,AK w W->AS prog 100 #[AP (yA x),AB AE d] W (Dy (DI Aw x d) W)):=AF (fun x d hx hd W hW=>YZ x d W hx AG (HT.o.below hW));rw [<-hZ];rw [<-hL] at aR RV;clear hf hZ hL HT HR Hc;go_enter func90,ntmps90;go_upto_region 1 with fail;obtain ⟨k1,b1,s1⟩:=bx w (yA m) 34;have hq:=JJ (w.alloc (AO (yA m) 34)) 34;generalize (w.alloc (AO (yA m) 34))=w0 at hq k1 b1 s1 ⊢;rw [s1] at hq;generalize (w0.alloc _)=wa at hq ⊢;obtain ⟨kr,hba,hza⟩:=hq;obtain ⟨KM,KR,HB,Ye⟩:=CD (k1.below hba AG) kr (b1.trans (hba.mono AG)) hza;clear s1 b1 hba k1 kr hza;go_wp2_with (first
   | (refine Ek rfl 232 rfl _ HZ2.o ?_)
   | (refine Cb rfl 34 (AX 2) rfl w.heap.size m rfl 34 _ (KM.o.alloc _) underlying34 rfl Cd.o HM.o ?_)
   | (
    go_at_call 98;refine (aR.o _ (HB.o.alloc HB.o.size _)).mono ?_;rintro e w3 ⟨rfl,hb⟩;obtain ⟨RT,aQ,HB3⟩:=BB ((KR.o.alloc (AO (yA (zeros 608)) 232)).below hb (KR.o.alloc _).lt) ((AY.new wa 232 (yA (zeros 608))).below hb (AY.new _ _ _).lt) ((HB.o.alloc HB.o.size (AO (yA (zeros 608)) 232)).trans (hb.mono (HB.o.alloc HB.o.size _).size));clear hb))
  go_loopg [15] 19 (fun q i wr=>∃k:Nat,k<=19/\q=19 - k/\i=AB AE k/\AY wr (w.heap.size+1) 34 (yA (zeros 32))/\AY wr wa.heap.size 232 (yA (FP f k))/\AK w wr)
  case atStart=>exact ⟨0,Ay _,rfl,rfl,RT.o,by rw [wI];exact aQ.o,HB3.o⟩
  clear KR KM HB RT aQ HB3;obtain ⟨k,hk,hq,rfl,h2,h3,h4⟩:=hrel;obtain ⟨HQ,KR,KA,HB⟩:=CD hq h2 h3 h4;clear hq h2 h3 h4;by_cases hlt:k < 19
  ·have hk0:=Int.natCast_nonneg k
   have hk1:(k:Int) < 19:=AG
   obtain ⟨d,hd1,hd2,hd3⟩:=RV.o k hlt;have hix:=fun W=>AF5 hd1 hlt W;have hdw:IntKind.i64.wrap (3 - (d:Int))=((3 - d:Nat):Int):=by rw [Ca _ AG];omega
   obtain ⟨b,off,x,rfl,hbl,hx,hxl,_,hrg⟩:=Kr (HS.o.mono BO HB.o) hlt;have wF:=AF (HAF.o x (3 - d) hxl AG);obtain ⟨D,hD⟩:=Ad (DI Aw x (3 - d));have wC:AI (f k=D):=AF (by rw [fT.o k x hlt hx,hD,hd2];congr 1;omega);rw [<-hD] at wF;have eR:D.length=32:=by rw [<-wC.o];exact Mi.o k
   have Tz:AI (∀W,AY W wa.heap.size 232 (yA (FP f k))->W.there wa.heap.size (k*32) (yA D).size):=AF (fun W h=>by rw [CJ,eR];exact je h (by rw [Vw Mi.o hk];omega));have HS2:AI ((prog.info? 34).map (·.size)=some (yA D).size):=AF (by rw [CJ,eR];exact Cd.o);obtain ⟨ET,LJ,Ih,N0⟩:=CD eR hlt hxl hrg;clear hD hd1 hd2 eR hx hxl hrg hlt hbl;go_wp2_with (first
    | (refine Kj rfl 34 (AX 22) rfl b (off+k*32) rfl x _ N0.o underlying34 rfl Cd.o Ih.o ?_)
    | (
     go_at_call 100;refine (wF.o _ HB.o).mono ?_;rintro e w3 ⟨rfl,hb⟩;obtain ⟨RT,aQ,HB3⟩:=BB (KR.o.below hb KR.o.lt) (KA.o.below hb KA.o.lt) (AV HB.o hb);clear hb)
    | (refine Un rfl 34 (AX 27) (AX 26) rfl wa.heap.size (k*32) (yA D) rfl rfl (Tz.o _ aQ.o) HS2.o (Kh D) ?_))
   go_roundg (19 - (k+1))
   case measure=>exact dD
   have hlt:=LJ.o;have hz:=Ye.o;have hbb:BL wa.heap.size w3 (w3.setCells wa.heap.size (k*32) (yA D).toList):=below_setCells _ _ _ _ (Af _ _) (Ac _);refine ⟨k+1,by omega,rfl,by go_num,(hbb.block _ AG).trans RT.o,?_,HB3.o.trans (hbb.mono AG)⟩;rw [<-mC Mi.o hlt,wC.o];exact zr
  have h19:k=19:=AG
  subst h19;have HS2:AI ((prog.info? 232).map (·.size)=some (yA (FP f 19)).size):=AF uZ;obtain ⟨F,hF⟩:=Ad (FP f 19);rw [<-hF] at HS2 KA HP;clear hF hlt;go_wp2_with (first
   | (refine Ci rfl 232 (AX 6) rfl wa.heap.size rfl 232 (yA F) (0,0) _ KA.o underlying232 rfl HS2.o ?_)
   | (
    go_at_call 131;refine (HP.o _ HB.o).mono ?_;rintro e w2 ⟨rfl,hb⟩;obtain ⟨Nb,HB2⟩:=Al (KR.o.below hb KR.o.lt) (AV HB.o hb);clear hb)
   | (refine Da rfl 34 (AX 4) (AX 30) rfl (w.heap.size+1) Z rfl rfl 34 _ Nb.o Cd.o EY fF.o ?_;intro w4 k4 hb4))
  exact Xi (.inl rfl) rfl rfl rfl rfl k4 underlying34 rfl Cd.o fF.o (HB2.o.trans (hb4.mono (Et _)))
 have hsl:¬s.length=19:=by rw [<-Hc.o];exact h19
 rw [Ah hsl,Ah hsl];have hne:((n:Int)==19)=false:=by simp;omega
 have hne':¬(n:Int)=19:=AG
 clear Cd HI2 HZ2 HT HR HS hsl Hc;have Cd:=AF Fw;go_enter func90,ntmps90;go_upto_region 1 with fail;obtain ⟨k1,b1,s1⟩:=bx w (yA m) 34;have hq:=JJ (w.alloc (AO (yA m) 34)) 34;generalize (w.alloc (AO (yA m) 34))=w0 at hq k1 b1 s1 ⊢;rw [s1] at hq;generalize (w0.alloc _)=wa at hq ⊢;obtain ⟨kr,hba,hza⟩:=hq;obtain ⟨KR,HB⟩:=Al kr (b1.trans (hba.mono AG));clear s1 b1 hba k1 kr hza;go_wp2_with (first
  | (refine Cb rfl 34 (AX 4) rfl (w.heap.size+1) (zeros 32) rfl 34 _ KR.o underlying34 rfl Cd.o rfl ?_)
  | (refine Da rfl 34 (AX 4) (AX 12) rfl (w.heap.size+1) (zeros 32) rfl rfl 34 (yA (zeros 32)) KR.o Cd.o EY rfl ?_;intro w4 k4 hb4))
 exact Xi (.inl rfl) rfl rfl rfl rfl k4 underlying34 rfl Cd.o rfl (HB.o.trans (hb4.mono (Et _)))
attribute [local go_sem] Oper.semAt_some
def Wj (s:AQ) (n:Nat):Nat->AQ
 | 0=>s++zeros 4
 | i+1=>(Wj s n i).set (32+i) ((n / 2 ^ (24 - 8*i) % 256:Nat):Int)
theorem AGV {s:AQ} {n:Nat} (hs:s.length=32):Wj s n 4=s++bytes4 n:=by simp [Wj,bytes4,zeros,hs]
theorem Zh {s:AQ} {n:Nat} (hs:s.length=32):∀i,(Wj s n i).length=36
 | 0=>by simp [Wj,zeros,hs]
 | i+1=>by rw [Wj,D7];exact Zh hs i
theorem AKL:(prog.info? 193).bind (·.zero)=some (AP (yA (zeros 36))):=by kernel_rfl
theorem vh {w:AH} {g:Nat} {t:Ae} {l:AQ} (h:AY w g t (yA l)):∀(j:Nat) (v:AN),(l.map (Value.int .u8))[j]? =some v->w.cell? ((Addr.mk g 0 none).add j)=some v:=fun j v hv=>by
 have e:(Addr.mk g 0 none).add j=⟨g,0+j,none⟩:=by
  unfold Addr.add;split
  · subst_vars;rfl
  · rfl
 rw [e,Es,h.cell,yA,Aj];exact hv
theorem oQ (seed:AQ) (k:Nat) (w:AH) (hs:seed.length=32) (hk:k<=256) (hT:Cc w):
 AS prog 73 #[AP (yA seed),AB AE k] w (Dy (Lv Aw seed k) w):=by
 obtain ⟨HS,HZ,Cd⟩:=BB hs AKL Fw;obtain ⟨D,hD⟩:=Ad (Lv Aw seed k);have ET:AI (D.length=32):=AF (by rw [hD,Lv];exact DN _ _);have HC:AI (∀g W,AK w W->AY W g 193 (yA (Wj seed k 4))->AS prog 48 #[.string {data:=#[108,101,97,102]},AA (some ⟨g,0,none⟩) 36 36] W (Dy D W)):=AF (fun g W hW hb=>by have hy:=Gm hb (by rw [Zh hs];omega);rw [Zh hs] at hy;rw [hD,Lv,<-AGV hs];exact Il {data:=#[108,101,97,102]} _ 36 36 _ W Ai (hT.below hW) hy)
 have Hc:AI (∀i,(Wj seed k i).length=36):=AF (fun i=>Zh hs i);rw [<-hD];clear hs hD hT;go_enter func73,ntmps73;go_upto_region 1 with fail;obtain ⟨k1,b1,s1⟩:=bx w (yA seed) 34;have hq:=JJ (w.alloc (AO (yA seed) 34)) 34;generalize (w.alloc (AO (yA seed) 34))=w0 at hq k1 b1 s1 ⊢;rw [s1] at hq;generalize (w0.alloc _)=wa at hq ⊢;obtain ⟨kr,hba,hza⟩:=hq;obtain ⟨k3,b3,s3⟩:=bx wa (yA (zeros 36)) 193;obtain ⟨KS,KR,HB,KB,Ye⟩:=Db ((k1.below hba AG).below b3 AG) (kr.below b3 AG) ((b1.trans (hba.mono AG)).trans (b3.mono AG)) k3 hza;have HSR:=AF (vh (KS.o.drew));clear s1 b1 hba k1 kr hza k3 b3 s3;go_wp2_with (refine Ek rfl 193 rfl _ HZ.o ?_);generalize wa.alloc (AO (yA (zeros 36)) 193)=wb at *
 go_region_held3 (fun _=>True) (trivial) (first
  | (
   refine step_copy_splice rfl (AX 7) (AX 8) 104 104 rfl 5 underlying104 AJ _ _ _ _ _ _ rfl rfl wa.heap.size 0 ((zeros 36).map (Value.int .u8)) 193 KB.o.drew (seed.map (Value.int .u8)) (by rw [CY,HS.o];rfl) (fun _=>⟨rfl,_,rfl,HSR.o⟩) (by rw [CY,HS.o];simp [zeros]) (Zm seed) wa.heap.size wb.drew (Af _ _) (Ac _) ?_;intro w4 hg4 hb4)
  | fail)
 have K4:AY w4 wa.heap.size 193 (yA (Wj seed k 0)):=by have h:_=_:=hg4;rw [<-eB,show splice (zeros 36) 0 seed=Wj seed k 0 by simp [splice,Wj,zeros,HS.o]] at h;exact h
 obtain ⟨KA,KR4,HB4⟩:=BB K4 (KR.o.drew.below hb4 SN) (HB.o.drew.trans (hb4.mono SN));clear hg4 hb4 K4;go_wp2_with fail;go_loopg [10] 4 (fun q i wr=>∃j:Nat,j<=4/\q=4 - j/\i=AB AE j/\AY wr (w.heap.size+1) 34 (yA (zeros 32))/\AY wr wa.heap.size 193 (yA (Wj seed k j))/\AK w wr)
 case atStart=>exact ⟨0,Ay _,rfl,rfl,KR4.o,KA.o,HB4.o⟩
 obtain ⟨j,hj,hq,rfl,h1,h2,h3⟩:=hrel;obtain ⟨HQ,Nz,KA5,Cg⟩:=CD hq h1 h2 h3;have hl:=Hc.o j;by_cases hlt:j < 4
 ·have fz:=h2.frozen (32+j)
  have c0:=Ki h2 (i:=32+j) AG;obtain ⟨Yn,LJ⟩:=Al (XS h2 (32+j) (((k / 2 ^ (24 - 8*j) % 256:Nat)):Int)) hlt;clear hq h1 h2 h3 HSR KA KR4 HB4;have hc:j=0\/j=1\/j=2\/j=3:=AG
  rcases hc with rfl | rfl | rfl | rfl
  ·go_wp2
   go_roundg (4 - (0+1))
   case measure=>exact Bi
   refine ⟨1,by omega,rfl,rfl,Nz.o.far dC _,?_,Cg.o.setCell dB _⟩;rw [show (k:Int) / 16777216=((k / 16777216 % 256:Nat):Int) by omega];exact Yn.o
  ·go_wp2
   go_roundg (4 - (1+1))
   case measure=>exact Bi
   refine ⟨2,by omega,rfl,rfl,Nz.o.far dC _,?_,Cg.o.setCell dB _⟩;rw [show (k:Int) / 65536=((k / 65536 % 256:Nat):Int) by omega];exact Yn.o
  ·go_wp2
   go_roundg (4 - (2+1))
   case measure=>exact Bi
   refine ⟨3,by omega,rfl,rfl,Nz.o.far dC _,?_,Cg.o.setCell dB _⟩;rw [show (k:Int) / 256=((k / 256 % 256:Nat):Int) by omega];exact Yn.o
  go_wp2;go_roundg (4 - (3+1))
  case measure=>exact Bi
  refine ⟨4,by omega,rfl,rfl,Nz.o.far dC _,?_,Cg.o.setCell dB _⟩;rw [show (k:Int) % 256=((k / 1 % 256:Nat):Int) by omega];exact Yn.o
 have h4:j=4:=AG
 subst h4;clear hq h1 h2 h3 HSR KA KR4 HB4 hlt hl;go_wp2_with (first
  | (
   go_at_call 48;refine (HC.o _ _ Cg.o KA5.o).mono ?_;rintro e w3 ⟨rfl,hb⟩;obtain ⟨fC,Fb⟩:=Al (Nz.o.below hb Nz.o.lt) (AV Cg.o hb);clear hb)
  | (refine Da rfl 34 (AX 4) (AX 24) rfl (w.heap.size+1) D rfl rfl 34 _ fC.o Cd.o EY ET.o ?_;intro w7 k7 hb7))
 exact AAP
attribute [local go_sem] Oper.semAt_some
theorem sR (seed:AQ) (n:Int) (w:AH):AS prog 61 #[AP (yA seed),AB AE n] w fun e w'=>e=AW (.func (.func 84) #[] #[AU (some ⟨w.heap.size+1,0,none⟩),AU (some ⟨w.heap.size,0,none⟩)])/\w'=(w.alloc (AO (yA seed) 34)).alloc (AO #[AB AE n] 3):=by have hmf:∀(fn:Fn) (first cap:Array AN) (w:AH),(Instr.makeFunc fn first cap).run prog w=.ok (.func fn first cap) w:=fun _ _ _ _=>rfl;go_enter func61,ntmps61;go_wp2;go_ret;exact ⟨rfl,rfl⟩
theorem QY {m:Nat}:Fence.wide.depth.isSome=true->1<=m:=fun h=>by cases h
def TB (A C:AH):Prop:=AK A C
theorem TB.others {A C:AH} (h:TB A C):KeepsOthers A C:=KeepsOthers.of_grownBy (row:=none) ⟨h.os,h.tape,h.output,h.size,fun k hk _=>h.block k hk⟩ (fun j o e ho=>by cases e)
structure KT (a b:Nat) (W W':AH):Prop where
 size:W.heap.size<=W'.heap.size
 fst:W'.heap[a]? =W.heap[a]?
 snd:W'.heap[b]? =W.heap[b]?
 tab:Cc W->Cc W'
def GP (seed:AQ) (n:Nat) (pre:List (AQ)) (x:AQ):Prop:=pre.length < n/\x=JE Aw (Lv Aw seed pre.length)
theorem AGe (m bm bs n:Nat) (seed:AQ) (w:AH) (hm:AY w bm 3 #[AB AE n]) (hs:AY w bs 34 (yA seed)) (hl:seed.length=32) (hn:n<=256) (hT:Cc w):
 AFL Fence.wide m prog 84 #[AU (some ⟨bm,0,none⟩),AU (some ⟨bs,0,none⟩)] ip TB (KT bm bs) (GP seed n) (fun xs=>xs=Dp Aw seed n) w:=by
 intro lp J Jx Jp N W hW hJT vd hY h0;have HS:=AF (hs.below hW hs.lt);have Mh:=hm.below hW hm.lt;have c0:=Mh.cell 0;have f0:=Mh.frozen 0;have l0:=Mh.lt;simp only [Aj,Ao] at c0;obtain ⟨HT,HL,li,HY,XH,Cd⟩:=Fg (hT.below hW) hl hJT hY h0 Fw;clear hW hJT vd hY h0 hs hm hl hT Mh;refine FK.2 ?_;go_enter func84,ntmps84;go_wp2_with fail;go_loopg [6] n (fun q i wr=>∃pre:List (AQ),pre.length<=n/\q=n - pre.length/\i=AB AE pre.length/\pre=(List.range pre.length).map (fun k=>JE Aw (Lv Aw seed k))/\J pre wr/\AY wr bs 34 (yA seed)/\Cc wr)
 case atStart=>exact ⟨[],Ay _,rfl,rfl,rfl,XH.o,HS.o,HT.o⟩
 obtain ⟨pre,hpn,hq,rfl,hpr,hj,hk,ht⟩:=hrel;obtain ⟨HPR,HQ,HB,TJ⟩:=CD hpr hq hk ht;obtain ⟨k,hkk⟩:=Ad pre.length;rw [<-hkk];have HKK:=AF hkk;rw [<-hkk] at hpn;have ag:=AF hj;clear hpr hq hk ht hj hkk;by_cases hlt:k < n
 ·have hk1:(k:Int) < (n:Int):=by omega
  obtain ⟨D,hD⟩:=Ad (Lv Aw seed k);obtain ⟨x,hx⟩:=Ad (JE Aw D);have ET:D.length=32:=by rw [hD,Lv];exact DN _ _
  have J7:AI (∀W,AK wr W->AS prog 73 #[AP (yA seed),AB AE k] W (Dy D W)):=AF (fun W hW=>by rw [hD];exact oQ seed k W HL.o AG (TJ.o.below hW));have HC2:AI (∀W,AK wr W->AS prog 85 #[AP (yA D)] W (Dy x W)):=AF (fun W hW=>by rw [hx];exact xO D W ET (TJ.o.below hW));have HX:AI (x=JE Aw (Lv Aw seed pre.length)):=AF (by rw [hx,hD,HKK.o]);have LJ:=AF hlt;clear ET hD hx;have hfn:∀g,Fence.wide.fn g:=fun _=>trivial;go_upto_region 3 with fail;refine (D6 (n:=m)).1 ?_
  gi_wp2_with (first
   | (refine JB rfl 34 (AX 2) rfl bs seed rfl 34 _ HB.o underlying34 rfl Cd.o HL.o ?_)
   | (
    refine ⟨QY,?_⟩
    gi_at_call 73
    refine (FK.2 (J7.o _ (Af _ _))).mono ?_;rintro e w3 ⟨rfl,hb⟩;have HB3:=AF hb;clear hb)
   | (
    refine ⟨QY,?_⟩
    gi_at_call 85
    refine (FK.2 (HC2.o _ HB3.o)).mono ?_;rintro e w4 ⟨rfl,hb⟩;have HB4:=AF (AV HB3.o hb);clear hb))
  obtain ⟨fn,tmps,assign,body,hy,hR⟩:=HY.o pre x w4 (li.o _ _ _ ag.o HB4.o) ⟨by rw [<-HKK.o];exact LJ.o,HX.o⟩
  dsimp only [ip] at hy
  have HR:=AF hR;clear hR;simp only [hy];refine ⟨QY,HR.o.mono ?_⟩;rintro e W' (⟨rfl,hJ',hk'⟩ | ⟨rfl,qL⟩ | ⟨ch,rfl,bd⟩)
  ·have HJ2:=AF hJ'
   have Cg:AI (AY W' bs 34 (yA seed)):=AF (hk'.snd.trans (HB.o.below HB4.o HB.o.lt));have HT5:AI (Cc W'):=AF (hk'.tab (TJ.o.below HB4.o));clear hJ' hk' hy HR
   gi_wp2
   go_wp2;go_roundg (n - (k+1))
   case measure=>have:=HQ.o;have:=HKK.o;have:=LJ.o;omega
   have hkk:=HKK.o;refine ⟨pre++[x],by rw [CX,<-hkk];exact LJ.o,by rw [CX,<-hkk];rfl,by rw [CX,<-hkk];rfl,?_,HJ2.o,Cg.o,HT5.o⟩;rw [CX,<-hkk];show pre++[x]=(List.range (k+1)).map _;rw [Py,DY,hkk,<-HPR.o,HX.o];rfl
  ·have HJX:=AF qL
   clear qL hy HR
   gi_wp2
   go_wp2_with fail
   first | go_end0 | refine FN (results_none rfl _ _ _) rfl ?_
   exact .inl ⟨⟨_,rfl⟩,.inr HJX.o⟩
  · exact ⟨rfl,.inr ⟨ch,rfl,bd⟩⟩
 have hkn:k=n:=AG
 subst hkn;go_wp2_with fail
 go_end0
 exact .inl ⟨⟨_,rfl⟩,.inl ⟨pre,by rw [HPR.o,<-HKK.o];rfl,ag.o⟩⟩
attribute [local go_sem] Oper.semAt_some
theorem pG {w w':AH} {base k:Nat} {e:Ae} {size:Nat} {v:AN} {n:Nat} {xs:List AN} (h:w.ownsRow base e size v n xs) (b:Book k w w'):w'.ownsRow base e size v n xs:=by
 refine ⟨h.1,?_⟩;rcases h.2 with h2 | ⟨g,cap,cur,hv,hg,hh,r⟩
 · exact .inl h2
 · exact .inr ⟨g,cap,cur,hv,hg,(b.cells _ _ _ _ hh).trans hh,r⟩
theorem dp {w w':AH} {base:Nat} {e:Ae} {size:Nat} {v:AN} {n:Nat} {xs:List AN} (h:w.ownsRow base e size v n xs) (hg:w.grownBy w' v.ownBlock):KeepsOthers w w':=KeepsOthers.of_grownBy hg (fun j o e2 ho=>by
 rcases h.2 with ⟨rfl,_⟩ | ⟨g,cap,cur,rfl,_,hh,_⟩
 · simp [Value.ownBlock] at e2
 simp only [Value.ownBlock,Bz] at e2;subst e2;rw [hh] at ho;cases ho;rfl)
theorem KT.trans {a b:Nat} {A B C:AH} (h:KT a b A B) (k:KT a b B C):KT a b A C:=⟨BH h.size k.size,k.fst.trans h.fst,k.snd.trans h.snd,fun t=>k.tab (h.tab t)⟩
theorem Mr {W W':AH} (h0:W'.heap[0]? =W.heap[0]?) (hs:W.heap.size<=W'.heap.size) (t:Cc W):Cc W':=
 ⟨Av t.1 hs,fun i hi=>by have:=t.2 i hi;unfold World.cell? at this ⊢;rw [h0];exact this⟩
theorem KT.put {a b l:Nat} (W:AH) (o:Obj) (ha:a < l) (hb:b < l):KT a b W (W.putObj l o):=
 ⟨by simp [World.putObj],World.putObj_heap_other AG,World.putObj_heap_other AG,Mr (World.putObj_heap_other AG) (by simp [World.putObj])⟩
theorem KT.grown {a b:Nat} {A C:AH} {row:Option Nat} (hg:A.grownBy C row) (ha:a < A.heap.size) (hb:b < A.heap.size) (na:some a≠row) (nb:some b≠row) (n0:some 0≠row):KT a b A C:=
 ⟨hg.size,hg.block a ha na,hg.block b hb nb,fun t=>Mr (hg.block 0 t.1 n0) hg.size t⟩
def AJ7 (hb B:Nat) (l:List (AQ)) (W:AH):Prop:=∃v cs,AY W hb 37 #[v]/\W.ownsRow B 34 32 v l.length cs/\Ap 32 CP W cs l
theorem zD (bm bs n:Nat) (seed:AQ) (w:AH) (hm:AY w bm 3 #[AB AE n]) (hs:AY w bs 34 (yA seed)) (hl:seed.length=32) (hn:n<=256) (hT:Cc w):
 AS prog 83 #[AA none 0 0,.func (.func 84) #[] #[AU (some ⟨bm,0,none⟩),AU (some ⟨bs,0,none⟩)]] w (TG (Dp Aw seed n) w):=by
 obtain ⟨HL,Cd⟩:=Al hl Fw;obtain ⟨j0,z0,hj⟩:=iq;have HJ:=AF hj;have hml:=hm.lt;have hsl:=hs.lt;have h0l:=hT.1;obtain ⟨HM,HS,HT⟩:=BB hm hs hT;clear hj hm hs hT hl;refine (FK (n:=8)).1 ?_;refine callsIn_of_wp_marks func83 rfl trivial ?_ rfl;simp only [ntmps83,R2,F6,Pw,Nat.reduceAdd,Nat.reduceSub,Ur,Us,Uo,Uq,IJ,MU];refine D6.2 ?_;go_wp2_with fail;obtain ⟨k1,b1,s1⟩:=bx w #[AA none 0 0] 37;generalize hw2:w.alloc (AO #[AA none 0 0] 37)=w2 at k1 b1 s1 ⊢;obtain ⟨M9,HS2,HH,HB,HZ,HT2⟩:=Fg (HM.o.below b1 hml) (HS.o.below b1 hsl) k1 b1 s1 (HT.o.below b1);clear k1 b1 s1 hw2;refine (D6 (n:=8)).1 ?_;refine U8 (gf:=84) (lb:=#[AU (some ⟨bm,0,none⟩),AU (some ⟨bs,0,none⟩)]) rfl (enters_of func84 AJ rfl)
  (AGe 7 bm bs n seed w2 M9.o HS2.o HL.o hn HT2.o) (fun _=>rfl) n
  (fun pre W=>AJ7 w.heap.size (w.heap.size+1) pre W/\pre.length<=n/\AK w W/\w.heap.size+1<=W.heap.size)
  (fun _=>False)
  (fun s A C h t=>⟨by obtain ⟨v,cs,h1,h2,h3⟩:=h.1;exact ⟨v,cs,h1.below t (by have:=h.2.2.2;omega),Eh h2 t,JF h3⟩,h.2.1,AV h.2.2.1 t,BH h.2.2.2 t.size⟩)
  (fun s A C h b=>⟨by obtain ⟨v,cs,h1,h2,h3⟩:=h.1;exact ⟨v,cs,GU h1 b,pG h2 b,JF h3⟩,h.2.1,Below.book h.2.2.1 b U3,BH h.2.2.2 b.size⟩)
  (fun A C h b=>h.elim)
  (fun s A h=>h.2.1) (fun A C h=>h.others) (fun A B C h k=>h.trans k) (fun W l o o' hl h ho=>KT.put W o' U3 U3)
  ⟨⟨_,[],HH.o,Ef _ _ _ _,Ap.nil⟩,Ay _,HB.o,by have:=HZ.o;omega⟩
  (fun x a' W=>∃Bx,w.heap.size+1<=Bx/\AY W Bx 34 (yA x)/\a'={tmps:=#[AA none 0 0,.func (.func 84) #[] #[AU (some ⟨bm,0,none⟩),AU (some ⟨bs,0,none⟩)],AU (some ⟨w.heap.size,0,none⟩),undef,AA none 0 0,AU (some ⟨Bx,0,none⟩),.func (.func 84) #[] #[AU (some ⟨bm,0,none⟩),AU (some ⟨bs,0,none⟩)],AP (yA x),undef,undef,undef,undef,undef],defers:=[]})
  (fun x a' A C h b=>by obtain ⟨Bx,h1,h2,h3⟩:=h;exact ⟨Bx,h1,GU h2 b,h3⟩)
  ?assign ?body ?done ?ret
 case assign=>
  rintro lp pre x W K ⟨⟨v,cs,h1,h2,h3⟩,h4,h5,h6⟩ hG hK;have Ih:AI (x.length=32):=AF (by rw [hG.2,JE,JX];exact DN _ _);have HKK:=AF hK;have hzb:=JJ W 34;obtain ⟨HO,HC,KH,Cg⟩:=CD h2 h3 h1 h5;clear hK hG h1 h2 h3 h5
  dsimp only [ip]
  gi_wp2_with (refine Jo rfl 34 (AX 5) (AX 7) rfl W.heap.size x rfl rfl 34 (yA (zeros 32)) hzb.1 Cd.o EY Ih.o ?_;intro w4 k4 hb4 hg4)
  have hne:∀b,b < W.heap.size->some b≠some W.heap.size:=fun b hb e=>by injection e with e;omega
  have hB5:=Cg.o.size;refine HKK.o _ _ ((KeepsOthers.alloc _ _).trans (TE.others ⟨hg4,_,_,_,hzb.1⟩)) ((KT.grown (D8 W _ none) AG AG AZ AZ AZ).trans (KT.grown hg4 Bd Bd (hne _ AG) (hne _ AG) (hne _ AG)))
   ⟨⟨v,cs,(KH.o.alloc _).grown hg4 (hne _ AG),(HO.o.alloc _).kept hg4 (.inr t8),JF HC.o⟩,h4,(Cg.o.alloc Cg.o.size _).trans (hb4.mono Cg.o.size),by have:=hg4.size;simp at this;omega⟩ ⟨W.heap.size,h6,k4,rfl⟩
 case body=>
  rintro lp pre x a' W ⟨⟨v,cs,h1,h2,h3⟩,h4,h5,h6⟩ hG ⟨Bx,hBx,hbx,rfl⟩;have hXL:x.length=32:=by rw [hG.2,JE,JX];exact DN _ _
  have Ih:=AF hXL;obtain ⟨rA,rc,rfl⟩:=CG h2;have c0:=h1.cell 0;have f0:=h1.frozen 0;have l0:=h1.lt;simp only [Aj,Ao] at c0;obtain ⟨KH,KX,HO,HC,Cg,HG⟩:=Fg h1 hbx h2 h3 h5 hG;have hys:(yA x).size=32:=by rw [CJ,hXL]
  have hfl:=VW x hXL;clear h1 h2 h3 h5 hbx hG hXL
  gi_wp2_with (first
   | (refine JB rfl 34 (AX 5) rfl Bx x rfl 34 _ KX.o underlying34 rfl Cd.o Ih.o ?_)
   | (
    gi_at_builtin;refine wpListIn_append_own_at _ rfl (AX 8) (AX 10) 37 rfl (w.heap.size+1) 34 j0 z0 32 32 underlying37 HJ.o.1 HJ.o.2.1 HJ.o.2.2.2.1 HJ.o.2.2.2.2 HJ.o.2.2.1 Ai _ _ _ rfl (HO.o.alloc _) ⟨W.heap.size,0,none⟩ 1 1 (x.map (Value.int .u8)) rfl (by rw [CY,Ih.o]) (vh (AY.new W 34 (yA x))) (Zm x) Gx AG Bd ?_
    intro v' w5 Gi hg5 _ _;obtain ⟨rA',rc',rfl⟩:=CG Gi;have k5:=(KH.o.alloc (AO (yA x) 34)).grown hg5 (Dj HO.o AG);have f5:=k5.frozen 0;have c5:=k5.cell 0;simp only [Aj,Ao] at c5;have l5:=k5.lt;obtain ⟨K5,Yp,Yw⟩:=BB k5 Gi hg5;clear k5 Gi hg5))
  have hb5:=Cg.o.size;have hne:∀b,b < w.heap.size+1->some b≠(Value.slice rA pre.length rc).ownBlock:=fun b hb=>Dj HO.o hb;have h0:=Yw.o.size;rw [Ev] at h0;have hb7:AK w w5:=(Cg.o.alloc Cg.o.size _).grown Yw.o Bd (fun r hr=>by have:=(HO.o.lt r hr).1;omega);refine ⟨(KeepsOthers.alloc _ _).trans ((dp (HO.o.alloc _) Yw.o).trans (KeepsOthers.setCell _ _ _)),
   ((KT.grown (D8 W _ none) AG AG AZ AZ AZ).trans (KT.grown Yw.o Bd Bd (hne _ AG) (hne _ AG) (hne _ AG))).trans (KT.grown (grownBy_setCell' _ _ _) AG AG FT FT FT),
   ⟨_,cs++x.map (Value.int .u8),K5.o.put 0 _,?_,?_⟩,?_,hb7.setCell (Ac _) _,by omega⟩
  ·rw [CX]
   exact FO Yp.o (I9 _) _
  · exact (JF HC.o).append (Ap.one (by rw [CY,Ih.o]) ⟨rfl,Ih.o⟩)
  · exact HG.o.1
 case done=>rintro D xs W hD rfl ⟨⟨v,cs,h1,h2,h3⟩,h4,h5,h6⟩ hdf;obtain ⟨rA,rc,rfl⟩:=CG h2;have c0:=h1.cell 0;simp only [Aj,Ao] at c0;obtain ⟨HO,HC,Cg,Yx,HZD⟩:=Db h2 h3 h5 hdf hD;clear h1 h2 h3 h5 hdf hD;go_wp2_with fail;refine ⟨by simp,.inl ⟨_,_,rfl,run_takeDeferred Yx.o,?_⟩⟩;have HK:=belowK_b (w:=w2) (n₀:=w.heap.size) U3 W D _ (.deferred none) HZD.o Yx.o rfl rfl;exact ⟨_,results_tmp rfl _ _ _,⟨_,cs,rfl,OG (ownsRow_putObj HO.o _ Yx.o rfl) (Et _),JF HC.o,Cg.o.trans HK⟩⟩
 case ret=>exact fun D W _ h _=>h.elim
theorem qg (bm bs n:Nat) (seed:AQ) (w:AH) (hm:AY w bm 3 #[AB AE n]) (hs:AY w bs 34 (yA seed)) (hl:seed.length=32) (hn:n<=256) (hT:Cc w):
 AS prog 60 #[.func (.func 84) #[] #[AU (some ⟨bm,0,none⟩),AU (some ⟨bs,0,none⟩)]] w (TG (Dp Aw seed n) w):=by
 have HC:=AF (zD bm bs n seed w hm hs hl hn hT);clear hm hs hl hT;go_enter func60,ntmps60;go_wp2_with (go_at_call 83;refine HC.o.mono ?_;rintro e w2 ⟨v,cs,rfl,ho,hc,hb⟩;have HO:=AF ho;have HC2:=AF hc;have HB:=AF hb;clear ho hc hb);go_ret;exact ⟨v,cs,rfl,HO.o,HC2.o,HB.o⟩
theorem Xo (seed:AQ) (n:Int) (w:AH) (hl:seed.length=32) (h1:1<=n) (hn:n<=256) (hT:Cc w):
 AS prog 34 #[AP (yA seed),AB AE n] w (nC (Dp Aw seed n.toNat) 0 w):=by
 obtain ⟨n,rfl⟩:∃k:Nat,n=k:=⟨n.toNat,by omega⟩;rw [Cq];obtain ⟨HL,Cd⟩:=Al hl Fw;have HC:AI (∀W,AK w W->AS prog 60 #[.func (.func 84) #[] #[AU (some ⟨W.heap.size+1,0,none⟩),AU (some ⟨W.heap.size,0,none⟩)]] ((W.alloc (AO (yA seed) 34)).alloc (AO #[AB AE n] 3)) (TG (Dp Aw seed n) ((W.alloc (AO (yA seed) 34)).alloc (AO #[AB AE n] 3)))):=AF (fun W hW=>by obtain ⟨k1,b1,s1⟩:=bx W (yA seed) 34;obtain ⟨k2,b2,s2⟩:=bx (W.alloc (AO (yA seed) 34)) #[AB AE n] 3;rw [s1] at k2 b2;exact qg _ _ n seed _ k2 (k1.below b2 AG) hl AG ((hT.below (AV hW b1)).below (by show BL (W.alloc (AO (yA seed) 34)).heap.size _ _;rw [s1];exact b2)))
 have h1':¬(n:Int) < 1:=AG
 have h2':¬(256:Int) < (n:Int):=AG
 clear hl hT;go_enter func34,ntmps34;go_upto_region 1 with fail;obtain ⟨k1,b1,s1⟩:=bx w (yA seed) 34;generalize (w.alloc (AO (yA seed) 34))=w0 at k1 b1 s1 ⊢;obtain ⟨KS,HB⟩:=Al k1 b1;clear k1 b1 s1;go_wp2_with (first
  | (refine Cb rfl 34 (AX 2) rfl w.heap.size seed rfl 34 _ KS.o underlying34 rfl Cd.o HL.o ?_)
  | (go_at_call 61;refine (sR _ _ _).mono ?_;rintro e w2 ⟨rfl,rfl⟩)
  | (go_at_call 60;refine (HC.o _ HB.o).mono ?_;rintro e w2 ⟨v,cs,rfl,ho,hc,hb⟩;have HO:=AF ho;have HC2:=AF hc;have HB2:=AF hb;clear ho hc hb))
 go_ret2;have hs:=HB.o.size;refine ⟨v,cs,rfl,OG HO.o Bd,HC2.o,HB.o.trans (Below.mono ?_ hs)⟩;exact ((BK _ _).alloc AZ _).trans (HB2.o.mono Bd)
theorem ADI (seed:AQ) (n:Int) (w:AH) (hl:seed.length=32) (h1:1<=n) (hn:n<=256) (hT:Cc w):
 AS prog 12 #[AP (yA seed),AB AE n] w (fB (O2 Aw seed n.toNat) 0 w):=by
 obtain ⟨HL,Cd⟩:=Al hl Fw;obtain ⟨P,hP⟩:=Ad (Dp Aw seed n.toNat);obtain ⟨D,hD⟩:=Ad (O2 Aw seed n.toNat);have ET:AI (D.length=32):=AF (by rw [hD];exact Oa _);have vX:P.length=n.toNat:=by rw [hP];exact Sl Aw seed _
 have HC:AI (∀W,AK w W->AS prog 34 #[AP (yA seed),AB AE n] W (nC P 0 W)):=AF (fun W hW=>by rw [hP];exact Xo seed n W hl h1 hn (hT.below hW));have HT:AI (∀(A:Option Addr) (m c:Nat) W,AK w W->Ag 32 CP W (AA A m c) P->AS prog 35 #[AA A m c] W (Dy D W)):=AF (fun A m c W hW hs=>by rw [hD,O2,<-hP];exact aw m A m c P W (Ac _) (by rw [hs.len,vX];omega) (hT.below hW) hs)
 rw [<-hD];clear hl hT hP hD vX;go_enter func12,ntmps12;go_upto_region 1 with fail;obtain ⟨k1,b1,s1⟩:=bx w (yA seed) 34;have hq:=JJ (w.alloc (AO (yA seed) 34)) 34;generalize (w.alloc (AO (yA seed) 34))=w0 at hq k1 b1 s1 ⊢;rw [s1] at hq;generalize (w0.alloc _)=wa at hq ⊢;obtain ⟨kr,hba,hza⟩:=hq;obtain ⟨KS,KR,HB⟩:=BB (k1.below hba AG) kr (b1.trans (hba.mono AG));clear s1 b1 hba k1 kr hza;go_wp2_with (first
  | (refine Cb rfl 34 (AX 2) rfl w.heap.size seed rfl 34 _ KS.o underlying34 rfl Cd.o HL.o ?_)
  | (
   go_at_call 34;refine (HC.o _ HB.o).mono ?_;rintro e w2 ⟨v,cs,rfl,ho,hc,hb⟩;have hsl:=AG5 ho hc rfl;obtain ⟨rA,rc,rfl⟩:=CG ho;obtain ⟨HSL,Nb,HB2⟩:=BB hsl (KR.o.below hb KR.o.lt) (AV HB.o hb);clear ho hc hb hsl)
  | (
   go_at_call 35;refine (HT.o _ _ _ _ HB2.o HSL.o).mono ?_;rintro e w3 ⟨rfl,hb⟩;obtain ⟨RT,HB3⟩:=Al (Nb.o.below hb Nb.o.lt) (AV HB2.o hb);clear hb)
  | (refine Da rfl 34 (AX 4) (AX 18) rfl (w.heap.size+1) D rfl rfl 34 _ RT.o Cd.o EY ET.o ?_;intro w4 k4 hb4))
 exact Xi (.inl rfl) rfl rfl rfl rfl k4 underlying34 rfl Cd.o ET.o (HB3.o.trans (hb4.mono (Et _)))
section
variable {P:BE} {md:Region.Mode} {ops:Array Oper} {Q:Exit->Act->AH->Prop} {S:AH->Prop} {fuel:Nat} {listed:Array Bool} {l:List AN} {D:List Deferred} {w:AH}
theorem Pe {id:Nat} {a:Act} (S:AH->Prop) (n:Nat) (L:Array Bool) (hm:P.follows .mixedOrders=true) (hn:ops.size=n) (hL:Array.replicate n false=L) (h:wpAnyH P .any ops Q S n L a w.drew):(Code.region id ops true).wp P Q a w:=by subst hn hL;exact wp_region_held hm h
abbrev Xg (md:Region.Mode) (ops:Array Oper) (listed:Array Bool) (i:Nat):Bool:=Region.noSelect ops && (Region.free md ops listed i && (Region.ready md ops listed).contains i)
theorem Lx {d:Nat} {v:AN}:(⟨l.toArray,D⟩:Act).put (some d) v=⟨(l.set d v).toArray,D⟩:=by simp [Act.put]
theorem DP (i d:Nat) {oi:Oper} {v:AN} (hB:Xg md ops listed i=true) (hi:ops[i]? =some oi) (hd:oi.dst=some d) (hQ:∀c (a:Act) d v w,Q (.panic c) (a.put (some d) v) w->Q (.panic c) a w) (hS:S w)
 (hw:Region.wanted oi (yielded ops l.toArray)=true) (hv:∀w,S w->(execOp (Act.eval ⟨l.toArray,D⟩) oi).run P w=.ok (.value v) w)
 (h:wpAnyH P md ops Q S fuel (listed.setIfInBounds i true) ⟨(l.set d v).toArray,D⟩ w):wpAnyH P md ops Q S (fuel+1) listed ⟨l.toArray,D⟩ w:=by
 simp only [Bb] at hB;rw [<-Lx,<-hd] at h;exact wpAnyH_take hi hB.1 hB.2.1 hB.2.2 (fun c a w hq=>by rw [hd] at hq;exact hQ c a _ _ w hq) (.inl ⟨hw,hv⟩) hS h
theorem rgM (i d t:Nat) {oi:Oper} {v:AN} (hB:Xg md ops listed i=true) (hi:ops[i]? =some oi) (hd:oi.dst=some d) (hQ:∀c (a:Act) d v w,Q (.panic c) (a.put (some d) v) w->Q (.panic c) a w) (hS:S w)
 (hw:Region.wanted oi (yielded ops l.toArray)=true) (ho:oi.op=.move (AX t)\/oi.op=.assign (AX t)) (hv:l[t]? =some v)
 (h:wpAnyH P md ops Q S fuel (listed.setIfInBounds i true) ⟨(l.set d v).toArray,D⟩ w):wpAnyH P md ops Q S (fuel+1) listed ⟨l.toArray,D⟩ w:=by
 refine DP i d hB hi hd hQ hS hw (fun W _=> ?_) h;exact nN
theorem Fm (i d:Nat) {oi:Oper} (hB:Xg md ops listed i=true) (hi:ops[i]? =some oi) (hd:oi.dst=some d) (hQ:∀c (a:Act) d v w,Q (.panic c) (a.put (some d) v) w->Q (.panic c) a w) (hS:S w)
 (hw:Region.wanted oi (yielded ops l.toArray)=false)
 (h:wpAnyH P md ops Q S fuel (listed.setIfInBounds i true) ⟨(l.set d undef).toArray,D⟩ w):wpAnyH P md ops Q S (fuel+1) listed ⟨l.toArray,D⟩ w:=by
 simp only [Bb] at hB;rw [<-Lx,<-hd] at h;exact wpAnyH_take hi hB.1 hB.2.1 hB.2.2 (fun c a w hq=>by rw [hd] at hq;exact hQ c a _ _ w hq) (.inr ⟨hw,rfl⟩) hS h
theorem oh (i:Nat) {o:Oper} {a:Act} (hr:Region.ready md ops listed=[i]) (hi:ops[i]? =some o) (hg:o.guard=none)
 (h:o.wp P a w (fun a' w'=>S w'/\wpAnyH P md ops Q S fuel (listed.setIfInBounds i true) a' w') Q):wpAnyH P md ops Q S (fuel+1) listed a w:=by
 refine wpAnyH_all hr AZ fun j hj=> ?_;obtain rfl:j=i:=by simpa using hj
 unfold wpOp;rw [hi];exact AAH
theorem Wm (i d:Nat) {o:Oper} {f:FuncId} {xs:Array Operand} {ts:Array Ae} {args:Array AN} {R:Ending->AH->Prop} (hr:Region.ready md ops listed=[i]) (hi:ops[i]? =some o) (hd:o.dst=some d) (hg:o.guard=none)
 (ho:o.op=.call {callee:=.value (.func f),args:=xs,argTypes:=ts}) (he:Enters P f) (hc:AS P f args w R) (ha:xs.toList.map (Act.eval ⟨l.toArray,D⟩)=args.toList)
 (h:∀e w',R e w'->∃v,e=AW v/\S w'/\wpAnyH P md ops Q S fuel (listed.setIfInBounds i true) ⟨(l.set d v).toArray,D⟩ w'):wpAnyH P md ops Q S (fuel+1) listed ⟨l.toArray,D⟩ w:=by
 refine oh i hr hi hg ?_;exact AAr
theorem rgS (i:Nat) {o:Oper} (ty:Ae) (x y:Operand) (g off:Nat) (cells:Array AN) (hr:Region.ready md ops listed=[i]) (hi:ops[i]? =some o) (hd:o.dst=none) (hg:o.guard=none) (ho:o.op=.store ty x y)
 (hx:Act.eval ⟨l.toArray,D⟩ x=AU (some ⟨g,off,none⟩)) (hy:Act.eval ⟨l.toArray,D⟩ y=.agg cells) {n:Nat} (hn:cells.size=n) (ht:w.there g off n) (hs:(P.info? ty).map (·.size)=some n) (h1:cells.all (·.oneCell')=true)
 (hS:S (w.setCells g off cells.toList)) (h:wpAnyH P md ops Q S fuel (listed.setIfInBounds i true) ⟨l.toArray,D⟩ (w.setCells g off cells.toList)):wpAnyH P md ops Q S (fuel+1) listed ⟨l.toArray,D⟩ w:=
 oh i hr hi hg (wp_store_mid ty x y ho g off cells hx hy (hn ▸ ht) (hn ▸ hs) h1 (by rw [hd];exact ⟨hS,h⟩))
end
theorem run_load {P:BE} {W:AH} {r:AN} {o:Oper} {a:Act} {x:Operand} {t:Ae} (h:(Instr.loadAt t (a.eval x)).run P W=.ok r W) (ho:o.op=.load t x:=by rfl):(execOp a.eval o).run P W=.ok (.value r) W:=by unfold execOp;simp [ho,h]
theorem Zj {P:BE} {W:AH} {o:Oper} {a:Act} {t:Ae} {parts:Array (Nat×Operand)} {cells:Array AN} (h:P.built t (parts.toList.map fun p=>(p.1,a.eval p.2))=some cells) (ho:o.op=.build t parts:=by rfl):(execOp a.eval o).run P W=.ok (.value (.agg cells)) W:=by have hb:(Instr.build t (parts.map fun x=>match x with | (i,x)=>(i,a.eval x))).run P W=.ok (.agg cells) W:=run_build W t _ cells (by rw [Up];exact h);unfold execOp;rw [ho];simp only [Cp,DL,hb,Result.andThen_ok]
end Go.Proofs.YtamhoilkpppdbaaGreatDoor
