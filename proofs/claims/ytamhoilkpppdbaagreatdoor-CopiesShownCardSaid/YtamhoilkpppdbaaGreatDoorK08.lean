import Derived.RangeFuncNested
import Derived.RangeFuncBound
import Derived.Test.YtamhoilkpppdbaaGreatDoorK07
import Derived.Shelf.Abstract
import Derived.Maps.OwnIn
namespace Go.Proofs.YtamhoilkpppdbaaGreatDoor
set_option maxHeartbeats 8000000
set_option maxRecDepth 100000
open Go renaming World→AH, Value→AN, Calls→AS, TypeId→Af, Program→BA
open Go.RowKit renaming Below→BI
open Go.Proofs.Tryz
open Go.Value renaming slice→AB, int→AE, pointer→AW, agg→AP
open Go.IntKind renaming i64→AF
open Go.Ending renaming returned→AU, panicked→Bz
open Go.Obj renaming cells→AO
open Go.Operand renaming tmp→AY
open Go.RowKit
variable {n:Nat} {P:BA}
theorem Nk {m:Machine}:Machine.fenced P Fence.wide m:=fenced_wide P m
def RX (f:FuncId) (P:BA) (c:Code) (Q:Exit->Act->AH->Prop) (a:Act) (w:AH):Prop:=
 ∀(b:Frame) (k:List Item) (cs:List Frame),b.roundOf=none->b.fn=f->∃e a' w',Q e a' w'/\ArrivesIn (Machine.fenced P Fence.wide) P (lone (b.atR a (.code c::k)) cs w) b k cs e a' w'
theorem Gd {f:FuncId} {c:Code} {Q:Exit->Act->AH->Prop} {a:Act} {w:AH} (h:c.wpIn Fence.wide n P Q a w):RX f P c Q a w:=
 fun b k cs hro _=>h b k cs hro trivial (room_wide _)
def AEu (f:FuncId) (P:BA) (y:Code) (Q:Exit->Act->AH->Prop):Exit->Act->AH->Prop
 | .normal,a,w=>RX f P y Q a w
 | .ret,a,w=>Q .ret a w
 | .panic ch,a,w=>Q (.panic ch) a w
 | _,_,_=>False
theorem Ir {f:FuncId} {x y:Code} {Q:Exit->Act->AH->Prop} {a:Act} {w:AH} (h:RX f P x (AEu f P y Q) a w):RX f P (.seq x y) Q a w:=by
 intro b k cs hro hb;obtain ⟨e,a',w',hq,harr⟩:=h b (.code y::k) cs hro hb;have s1:StepsIn (Machine.fenced P Fence.wide) P (lone (b.atR a (.code (.seq x y)::k)) cs w) (lone (b.atR a (.code x::.code y::k)) cs w):=.one Nk stepR_seq;cases e with
 |
  normal=>
  obtain ⟨e2,a2,w2,hq2,AHD⟩:=hq b k cs hro hb;exact ⟨e2,a2,w2,hq2,.of_steps (s1.trans harr) AHD⟩
 | ret=>exact ⟨.ret,a',w',hq,fun hr=>(harr.1 hr).imp fun _ h=>s1.trans h,fun hr=>by rw [hro] at hr;cases hr⟩
 | panic ch=>exact ⟨.panic ch,a',w',hq,harr.imp fun _ h=>s1.trans h⟩
 | exit id=>exact hq.elim
 | goto t=>exact hq.elim
 | outgrown=>exact hq.elim
theorem WR {f:FuncId} {fn:Func} {c:Code} {args:Array AN} {w:AH} {R:Ending->AH->Prop} (hf:P.funcs[f]? =some fn) (hb:fn.body=some c)
 (h:RX f P c (bodyPostM Fence.wide 1 P fn R) {tmps:=args++Array.replicate (fn.ntmps - args.size) undef,defers:=[]} w):AS P f args w R:=by
 refine (Et (n:=1)).1 ⟨trivial,fun cs _=> ?_⟩;let b:Frame:={(default:Frame) with fn:=f,kind:=.normal,roundOf:=none}
 have he:Frame.enter P f args .normal=b.atR {tmps:=args++Array.replicate (fn.ntmps - args.size) undef,defers:=[]} [.code c]:=by simp [Frame.enter,Frame.atR,hf,hb,b]
 rw [he];obtain ⟨e,a',w',hq,harr⟩:=h b [] cs rfl rfl;have go:∀(u:FrameMode) (todo:List Item),StepsIn (Machine.fenced P Fence.wide) P (lone (b.atR {tmps:=args++Array.replicate (fn.ntmps - args.size) undef,defers:=[]} [.code c]) cs w) (lone {b.atR a' todo with mode:=u} cs w')->LeavesInM Fence.wide 1 P fn a'.tmps R a'.defers u w'->
  ∃e w'' fr,R e w''/\ComesIn (Machine.fenced P Fence.wide) P (lone (b.atR {tmps:=args++Array.replicate (fn.ntmps - args.size) undef,defers:=[]} [.code c]) cs w) (lone fr cs w'') e/\fr.fn=f/\fr.leaving P w'' e:=fun u todo hs hq=>by
  obtain ⟨e',w'',fr',hR,hs',hfn,hl⟩:=leaves_stepsInM a'.defers u w' {b.atR a' todo with mode:=u} cs rfl rfl rfl hf rfl trivial (room_wide _) hq;exact ⟨e',w'',fr',hR,ComesIn.of_steps hs hs',hfn,hl⟩
 cases e with
 | normal=>exact go .returning [] (harr.trans (.one Nk (stepR_end rfl))) hq
 |
  ret=>
  obtain ⟨todo,hs⟩:=harr.1 rfl;exact go .returning todo hs hq
 |
  panic ch=>
  obtain ⟨todo,hs⟩:=harr;exact go (.panicking ch) todo hs hq
 | exit id=>exact hq.elim
 | goto l=>exact hq.elim
 | outgrown=>exact ⟨.outgrown,w',b,hq,harr.resolve_left (by simp [b]),rfl,trivial⟩
theorem fF {f:FuncId} {g:Operand} {ps:Array Tmp} {assign body:Code} {Q:Exit->Act->AH->Prop} {a:Act} {w w1:AH} {l:Nat} {mark:List Deferred} {gf:Nat} {lb:Array AN}
 (he:(Instr.enterLoop f a.tmps ps assign body none).run P w=.ok (l,mark) w1) (hg:a.eval g=.func (.func gf) #[] lb) (eg:∀args w,(callFunc gf args).run P w=.ok (.enter gf args) w)
 (hc:AS P gf (#[.func (.yield l) #[] #[]]++lb) w1 fun e w3=>(∃v w4,e=AU v/\(Instr.endLoop l).run P w3=.ok none w4/\Q .normal {a with defers:=mark++a.defers} w4)\/∃ch,e=Bz ch/\Q (.panic ch) {a with defers:=mark++a.defers} w3):
 RX f P (.rangeFunc g ps assign body) Q a w:=by
 intro b k cs hro hb;have hres:(resolve a.eval (rangeCall g l) 0).run P w1=.ok {target:=.fn (.func gf) lb,args:=#[.func (.yield l) #[] #[]]} w1:=by simp only [resolve,hg];simp [go_sem]
 have hinv:(invoke (.fn (.func gf) lb) #[.func (.yield l) #[] #[]]).run P w1=.ok (.enter gf (#[.func (.yield l) #[] #[]]++lb)) w1:=by simp [invoke,go_sem,eg]
 rw [<-hb,<-hro] at he;have s1:=stepR_rangeFunc (k:=k) (cs:=cs) he hres hinv;obtain ⟨e,w3,fr,hR,hs,hfn,hl⟩:=hc (b.atR {a with defers:=mark++a.defers} (.inRangeFunc l::k)::cs);rcases hR with ⟨v,w4,rfl,hend,hq⟩ | ⟨ch,rfl,hq⟩
 ·have hs:StepsIn (Machine.fenced P Fence.wide) P _ _:=stepsIn_wide.2 hs
  have s2:=step_leave_returned (c:=b.atR {a with defers:=mark++a.defers} (.inRangeFunc l::k)) (cs:=cs) hl;rw [finish_atR_inRangeFunc] at s2;exact ⟨.normal,_,w4,hq,.head Nk s1 (hs.trans (.head Nk s2 (.one Nk (stepR_endRangeFunc hend))))⟩
 have hs:StepsIn (Machine.fenced P Fence.wide) P _ _:=stepsIn_wide.2 hs;have s2:=step_leave_panicked (c:=b.atR {a with defers:=mark++a.defers} (.inRangeFunc l::k)) (cs:=cs) hl;rw [Frame.raise_atR] at s2;exact ⟨.panic ch,_,w3,hq,_,.head Nk s1 (hs.trans (.one Nk s2))⟩
def AC1 {α:Type} (F:Fence) (n:Nat) (P:BA) (g:Nat) (lb:Array AN) (encs:α->Array AN) (T K:AH->AH->Prop) (G:List α->α->Prop) (S:List α->Prop) (w:AH):Prop:=
 ∀(l:Nat) (J:List α->AH->Prop) (Jx:AH->Prop) (Jp:List PanicEntry->AH->Prop) (N:Nat) (W:AH),AK w W->(∀s A C,J s A->T A C->J s C)->(∀s A,J s A->s.length<=N)->
  (∀pre x W1,J pre W1->G pre x->YieldAt F (n - 1) P l (encs x) W1 fun e W'=>(e=AU (.bool true)/\J (pre++[x]) W'/\K W1 W')\/(e=AU (.bool false)/\Jx W')\/∃ch,e=Bz ch/\Jp ch W')->
  J [] W->
  CallsIn F n P g (#[.func (.yield l) #[] #[]]++lb) W fun e W'=>((∃v,e=AU v)/\((∃xs,S xs/\J xs W')\/Jx W'))\/∃ch,e=Bz ch/\Jp ch W'
structure Book (n₀:Nat) (A C:AH):Prop where
 os:C.os=A.os
 tape:C.tape=A.tape
 output:C.output=A.output
 size:A.heap.size<=C.heap.size
 block:∀b,b < n₀->C.heap[b]? =A.heap[b]?
 cells:∀(b:Nat) (cs:Array AN) (t:Af) (fz:Nat×Nat),A.heap[b]? =some (Obj.cells cs t fz)->C.heap[b]? =A.heap[b]?
theorem Book.refl (n₀:Nat) (A:AH):Book n₀ A A:=⟨rfl,rfl,rfl,Ac _,fun _ _=>rfl,fun _ _ _ _ _=>rfl⟩
theorem Book.alloc {n₀:Nat} (A:AH) (o:Obj) (h:n₀<=A.heap.size):Book n₀ A (A.alloc o):=
 ⟨rfl,rfl,rfl,by simp,fun b hb=>Kk A o b AG,fun b cs t fz hb=>Kk A o b (C6.1 hb).1⟩
theorem Book.put {n₀ l:Nat} (A:AH) (o o':Obj) (h:n₀<=l) (hl:A.heap[l]? =some o) (hc:o.isCells=false):Book n₀ A (A.putObj l o'):=
 ⟨rfl,rfl,rfl,by simp [World.putObj],fun b hb=>World.putObj_heap_other AG,fun b cs t fz hb=>World.putObj_heap_other (fun e=>by subst e;rw [hb] at hl;injection hl with hl;subst hl;cases hc)⟩
section
variable {n:Nat} {P:BA}
theorem UU {α:Type} {g:Operand} {ps:Array Tmp} {assign body:Code} {Q:Exit->Act->AH->Prop} {a:Act} {w:AH}
 {gf:Nat} {lb:Array AN} (hg:a.eval g=.func (.func gf) #[] lb) (eg:∀args w,(callFunc gf args).run P w=.ok (.enter gf args) w)
 {encs:α->Array AN} {T K:AH->AH->Prop} {G:List α->α->Prop} {S:List α->Prop} (hseq:AC1 Fence.wide (n - 1) P gf lb encs T K G S w)
 (hps:∀x,(encs x).size=ps.size) (N:Nat) (I:List α->AH->Prop) (Ix:AH->Prop)
 (hIT:∀s A C,I s A->T A C->I s C) (hIB:∀s A C,I s A->Book w.heap.size A C->I s C) (hXB:∀A C,Ix A->Book w.heap.size A C->Ix C) (hlen:∀s A,I s A->s.length<=N)
 (hTO:∀A C,T A C->KeepsOthers A C) (hKt:∀A B C,K A B->K B C->K A C) (hKp:∀W l o o',w.heap.size<=l->W.heap[l]? =some o->o.isCells=false->K W (W.putObj l o'))
 (h0:I [] w) (Ax:α->Act->AH->Prop) (hAB:∀x a' A C,Ax x a' A->Book w.heap.size A C->Ax x a' C)
 (hassign:∀(l:Nat) (pre:List α) (x:α) (W:AH) (K':Act->AH->Prop),I pre W->G pre x->(∀a' W',KeepsOthers W W'->K W W'->I pre W'->Ax x a' W'->K' a' W')->
  assign.wpIn (Fence.wide.inRound l) (n - 1 - 1) P (Exit.then K' (fun _ _ _=>False)) {tmps:=(ps.zip (encs x)).foldl (fun t (p,v)=>t.setIfInBounds p v) a.tmps,defers:=[]} W)
 (hbody:∀(l:Nat) (pre:List α) (x:α) (a':Act) (W:AH),I pre W->G pre x->Ax x a' W->
  body.wpIn (Fence.wide.inRound l) (n - 1 - 1) P (fun e _ W'=>(e=.normal/\KeepsOthers W W'/\K W W'/\I (pre++[x]) W')\/(e=.ret/\KeepsOthers W W'/\Ix W')) a' W)
 (hdone:∀(D:Nat) (xs:List α) (W:AH),w.heap.size<=D->S xs->I xs W->W.heap[D]? =some (.deferred (some []))->Q .normal {a with defers:={target:=.collected D,args:=#[]}::a.defers} W)
 (hret:∀(D:Nat) (W:AH),w.heap.size<=D->Ix W->W.heap[D]? =some (.deferred (some []))->Code.ret.wpIn Fence.wide n P Q {a with defers:={target:=.collected D,args:=#[]}::a.defers} W):
 (Code.rangeFunc g ps assign body).wpIn Fence.wide n P Q a w:=by
 refine wpIn_rangeFunc ?_;intro fn _;obtain ⟨rec,hrec⟩:∃rec:LoopState->Option Code->Loop,rec=fun st pe=>{state:=st,pending:=pe,fn,tmps:=a.tmps,params:=ps,assign,body,defers:=w.heap.size}:=⟨_,rfl⟩;obtain ⟨W1,hW1⟩:=BP ((w.alloc (.deferred (some []))).alloc (.loop (rec .ready none)));have hL1:W1.heap[w.heap.size+1]? =some (.loop (rec .ready none)):=by rw [<-hW1];have:=World.alloc_heap_new (w.alloc (.deferred (some []))) (.loop (rec .ready none));rwa [Ee] at this
 have hK1:W1.heap[w.heap.size]? =some (.deferred (some [])):=by rw [<-hW1];exact (Kk _ _ _ AX).trans (World.alloc_heap_new w _)
 have hI1:I [] W1:=by rw [<-hW1];exact hIB _ _ _ (hIB _ _ _ h0 (Book.alloc _ _ (Ac _))) (Book.alloc _ _ AX)
 have hb1:AK w W1:=by rw [<-hW1];exact ((Ae _ w).alloc (Ac _) _).alloc AX _
 refine ⟨w.heap.size+1,[{target:=.collected w.heap.size,args:=#[]}],W1,{target:=.fn (.func gf) lb,args:=#[.func (.yield (w.heap.size+1)) #[] #[]]},W1,gf,
  #[.func (.yield (w.heap.size+1)) #[] #[]]++lb,W1,?_,?_,fun _ _=>trivial,?_,(fun h=>by cases h),?_⟩
 · rw [<-hW1,hrec];exact run_enterLoop_outer _ _ _ _ _
 ·simp only [resolve,hg]
  simp [go_sem]
 · simp [invoke,go_sem,eg]
 refine (hseq (w.heap.size+1)
  (fun pre W=>I pre W/\W.heap[w.heap.size+1]? =some (.loop (rec .ready none))/\W.heap[w.heap.size]? =some (.deferred (some [])))
  (fun W=>Ix W/\W.heap[w.heap.size+1]? =some (.loop (rec .done (some .ret)))/\W.heap[w.heap.size]? =some (.deferred (some [])))
  (fun _ _=>False) N W1 hb1
  (fun s A C hs ht=>⟨hIT s A C hs.1 ht,(hTO A C ht).same _ _ hs.2.1 rfl,(hTO A C ht).same _ _ hs.2.2 rfl⟩)
  (fun s A hs=>hlen s A hs.1)
  ?_ ⟨hI1,hL1,hK1⟩).mono ?_
 ·rintro pre x W ⟨hi,hl,hk⟩ hGx
  have hy:=run_yield (P:=P) (args:=encs x) hl eL;rw [hrec] at hy;refine ⟨fn,_,assign,body,hy,roundIn_of_wpIn trivial (hassign _ pre x W _ hi hGx ?_)⟩;clear hy;intro a' Wa hkfa hkpa hia hax;have hl:=hkfa.same _ _ hl rfl;have hk:=hkfa.same _ _ hk rfl;have hlt:w.heap.size+1 < Wa.heap.size:=(C6.1 hl).1;refine ⟨_,run_beginRound hl (by rw [hrec]),?_⟩;have hl2:(Wa.putObj (w.heap.size+1) (.loop {rec .ready none with state:=.busy})).heap[w.heap.size+1]? =some (.loop {rec .ready none with state:=.busy}):=World.putObj_heap_same hlt;have hk2:(Wa.putObj (w.heap.size+1) (.loop {rec .ready none with state:=.busy})).heap[w.heap.size]? =some (.deferred (some [])):=(World.putObj_heap_other AG).trans hk;refine wpIn_mono (hbody _ pre x a' _ (hIB _ _ _ hia (Book.put _ _ _ AG hl rfl)) hGx (hAB _ _ _ _ hax (Book.put _ _ _ AG hl rfl))) ?_;rintro e a3 W3 (⟨rfl,hk3,hkk,hi3⟩ | ⟨rfl,hk3,hx3⟩)
  ·have hl3:=hk3.same _ _ hl2 rfl
   have hr:=run_endRound (P:=P) none hl3;rw [hrec] at hr;refine ⟨_,_,hr,.inl ⟨rfl,⟨hIB _ _ _ hi3 (Book.put _ _ _ AG hl3 rfl),?_,(World.putObj_heap_other AG).trans (hk3.same _ _ hk2 rfl)⟩,hKt _ _ _ hkpa (hKt _ _ _ (hKp _ _ _ _ AG hl rfl) (hKt _ _ _ hkk (hKp _ _ _ _ AG hl3 rfl)))⟩⟩;exact lH
  have hl3:=hk3.same _ _ hl2 rfl;have hr:=run_endRound (P:=P) (some .ret) hl3;rw [hrec] at hr;refine ⟨_,_,hr,.inr (.inl ⟨rfl,hXB _ _ hx3 (Book.put _ _ _ AG hl3 rfl),?_,(World.putObj_heap_other AG).trans (hk3.same _ _ hk2 rfl)⟩)⟩;exact lH
 rintro e W2 (⟨⟨v,rfl⟩,(⟨xs,hS,hi,hl,hk⟩ | ⟨hx,hl,hk⟩)⟩ | ⟨ch,_,h⟩)
 · exact ⟨none,_,by have:=run_endLoop (P:=P) hl Ye;rw [hrec] at this;exact this,hdone _ xs _ (Ac _) hS (hIB _ _ _ hi (Book.put _ _ _ AG hl rfl)) ((World.putObj_heap_other AG).trans hk)⟩
 · exact ⟨some .ret,_,by have:=run_endLoop (P:=P) hl Ye;rw [hrec] at this;exact this,hret _ _ (Ac _) (hXB _ _ hx (Book.put _ _ _ AG hl rfl)) ((World.putObj_heap_other AG).trans hk)⟩
 · exact h.elim
theorem If {F:Fence} {w:AH} {ops:Array Oper} {rest:List Oper} {o:Oper} {a:Act} {Q:Exit->Act->AH->Prop} (hgd:o.guard=none) (ty:Af) (x:Operand) (ho:o.op=.load ty x)
 (g:Nat) (d:AQ) (hx:a.eval x=AW (some ⟨g,0,none⟩)) (t:Af) (ds:TypeDesc) (hg:AZ w g t (yA d)) (hu:P.underlying ty=some ds) (hds:(match ds with | .struct _ | .array _ _=>true | _=>false)=true) (hi:(P.info? ty).map (·.size)=some 32) (hd:d.length=32)
 (h:wpListIn F n P ops Q rest (a.put o.dst (AP (yA d))) w):wpListIn F n P ops Q (o::rest) a w:=by
 refine wpListIn_plain hgd fun K hK=>⟨?_,?_⟩
 · simp [Oper.about,ho]
 rw [Oper.semAt_plain F _ _ (by rw [ho];intro c hc;cases hc)];unfold execOp;exact yF
theorem JQ {F:Fence} {w:AH} {ops:Array Oper} {rest:List Oper} {o:Oper} {a:Act} {Q:Exit->Act->AH->Prop} (hgd:o.guard=none) (ty:Af) (x y:Operand) (ho:o.op=.store ty x y)
 (g:Nat) (d:AQ) (hx:a.eval x=AW (some ⟨g,0,none⟩)) (hy:a.eval y=AP (yA d)) (t:Af) (old:Array AN) (hg:AZ w g t old) (hi:(P.info? ty).map (·.size)=some 32) (hold:old.size=32) (hd:d.length=32)
 (h:∀w',AZ w' g t (yA d)->BI g w w'->w.grownBy w' (some g)->wpListIn F n P ops Q rest (a.put o.dst undef) w'):wpListIn F n P ops Q (o::rest) a w:=by
 have hs:(yA d).size=32:=by rw [B9,hd]
 refine wpListIn_plain hgd fun K hK=>⟨?_,?_⟩
 · simp [Oper.about,ho]
 rw [Oper.semAt_plain F _ _ (by rw [ho];intro c hc;cases hc)];unfold execOp;simp only [ho,hx,hy,Instr.storeAt,Instr.sureAddr,Ck,DC,Result.andThen_ok,run_storeVar_row w g t ty old (yA d) hg dy eC (Kq d)];exact hK _ _ (h _ (hg.row _) (below_setRow (Ae _ _) (Ac _) _) ⟨rfl,rfl,rfl,by simp [World.setRow],fun k hk hne=>Gt w g k _ (fun e=>hne M0)⟩)
end
attribute [local go_sem] Oper.semAt_some
def TE (bs:Nat) (A C:AH):Prop:=A.grownBy C (some bs)/\∃(cs:Array AN) (t:Af) (fz:Nat×Nat),A.heap[bs]? =some (Obj.cells cs t fz)
structure KE (bs:Nat) (W W':AH):Prop where
 size:W.heap.size<=W'.heap.size
 own:W'.heap[bs]? =W.heap[bs]?
 tab:Ca W->Ca W'
theorem Ca.grown {w w':AH} {g:Nat} (h:Ca w) (hg:w.grownBy w' (some g)) (h0:0 < g):Ca w':=
 ⟨Au h.1 hg.size,fun t ht=>hg.cell (h.2 t ht) (by intro e;injection e with e;have e:0=g:=e;omega)⟩
def GE (x0:AQ) (pre:List (AQ)) (x:AQ):Prop:=x=C3 Aw x0 pre.length
def gI (x:AQ):Array AN:=#[AP (yA x)]
theorem NG (n:Nat):∀{x:AQ},x.length=32->(C3 Aw x n).length=32:=by
 induction n with
 | zero=>intro x h;simp only [C3];exact h
 | succ n ih=>intro x _;simp only [C3];exact ih (C7 _ _)
theorem qv (x:AQ) (n:Nat):Aw stepT (C3 Aw x n)=C3 Aw x (n+1):=by rw [<-dR Aw x n 1];simp only [C3]
theorem ACp (m bs:Nat) (x0:AQ) (w:AH) (hk:AZ w bs 34 (yA x0)) (hl:x0.length=32) (hT:Ca w) (h0b:0 < bs):
 AC1 Fence.wide m prog 196 #[AW (some ⟨bs,0,none⟩)] gI (TE bs) (KE bs) (GE x0) (fun _=>False) w:=by
 intro lp J Jx Jp N W hW hJT tY hY h0;have HK:=AA (hk.below hW hk.lt);have HT:=AA (hT.below hW);have HL:=AA hl;have jb:=AA hJT;have HJN:=AA tY;have HY:=AA hY;have WV:=AA h0;have Er:(prog.info? 34).map (·.size)=some 32:=AJ
 have HI:=AA Er;clear hW hJT tY hY h0 hk hl hT Er;refine Et.2 ?_;go_enter func196,ntmps196;go_wp2_with fail;go_loopg [5] (N+1) (fun q u wr=>∃pre:List (AQ),q=N+1 - pre.length/\J pre wr/\AZ wr bs 34 (yA (C3 Aw x0 pre.length))/\Ca wr)
 case atStart=>exact ⟨[],rfl,WV.o,HK.o,HT.o⟩
 obtain ⟨pre,hq,hj,hk,ht⟩:=hrel;obtain ⟨x,hx⟩:=Ad (C3 Aw x0 pre.length);obtain ⟨fn,tmps,assign,body,hy,hR⟩:=HY.o pre x wr hj hx;rw [<-hx] at hk;have H9:AI (x.length=32):=AA (by rw [hx];exact NG _ HL.o)
 dsimp only [gI] at hy
 have HR:=AA hR;have HQ:=AA hq;have HB:=AA hk;have R7:=AA ht;have HX:=AA hx;clear hR hq hk ht hx hj;go_upto_region 0 with fail;refine (Dr (n:=m)).1 ?_
 gi_wp2_with (refine If rfl 34 (AY 1) rfl bs x rfl 34 _ HB.o underlying34 rfl HI.o H9.o ?_)
 refine ⟨(fun h=>by cases h),HR.o.mono ?_⟩;rintro e W' (⟨rfl,hJ',hk'⟩ | ⟨rfl,n8⟩ | ⟨ch,rfl,aT⟩)
 ·have hpl:=HJN.o _ _ hJ'
  rw [CQ] at hpl;have hpl:pre.length+1<=N:=hpl;have HJ2:=AA hJ';have HB2:AI (AZ W' bs 34 (yA x)):=AA (hk'.own.trans HB.o);have HT2:AI (Ca W'):=AA (hk'.tab R7.o);have HC:AI (∀W,AK W' W->AZ W bs 34 (yA x)->AS prog 48 #[.string {data:=#[115,116,101,112]},AB (some ⟨bs,0,none⟩) 32 32] W (Dl (Aw stepT x) W)):=AA (fun W hW hk=>by have hy:=GR hk (by rw [H9.o];omega);rw [H9.o] at hy;exact IF {data:=#[115,116,101,112]} _ 32 32 x W Ah (HT2.o.below hW) hy)
  obtain ⟨D,hD⟩:=Ad (Aw stepT x);rw [<-hD] at HC;have EM:AI (D.length=32):=AA UJ;have uD:=AA hD;clear hJ' hk' hy hD HR
  gi_wp2
  go_wp2_with (first
   | (
    go_at_call 48;refine (HC.o _ (Ae _ _) HB2.o).mono ?_;rintro e w3 ⟨rfl,hb⟩;have HB3:=AA (HB2.o.below hb HB2.o.lt);have Nh:=AA hb;clear hb)
   | (refine Df rfl 34 (AY 1) (AY 7) rfl bs D rfl rfl 34 _ HB3.o HI.o (by rw [B9,H9.o]) EM.o ?_;intro w4 k4 hb4 hg4))
  go_roundg (N+1 - (pre.length+1))
  case measure=>exact BS
  refine ⟨pre++[x],by rw [CQ];rfl,jb.o _ _ _ (jb.o _ _ _ HJ2.o ⟨⟨Nh.o.os,Nh.o.tape,Nh.o.output,Nh.o.size,fun k hk _=>Nh.o.block k hk⟩,_,_,_,HB2.o⟩) ⟨hg4,_,_,_,HB3.o⟩,?_,?_⟩
  ·rw [CQ]
   show AZ w4 bs 34 (yA (C3 Aw x0 (pre.length+1)));rw [<-qv,<-HX.o,<-uD.o];exact k4
  have ht3:=HT2.o.below Nh.o;exact Ca.grown ht3 hg4 h0b
 ·have HJX:=AA n8
  clear n8 hy HR
  gi_wp2
  go_wp2_with fail
  go_end0
  exact .inl ⟨⟨_,rfl⟩,.inr HJX.o⟩
 · exact ⟨rfl,.inr ⟨ch,rfl,aT⟩⟩
open Go.Shelf
attribute [local go_sem] Oper.semAt_some
theorem oJ (x:AQ) (w:AH):AS prog 149 #[AP (yA x)] w fun e w'=>e=AU (.func (.func 196) #[] #[AW (some ⟨w.heap.size,0,none⟩)])/\w'=w.alloc (AO (yA x) 34):=by have hmf:∀(fn:Fn) (first cap:Array AN) (w:AH),(Instr.makeFunc fn first cap).run prog w=.ok (.func fn first cap) w:=fun _ _ _ _=>rfl;go_enter func149,ntmps149;go_wp2_with fail;go_ret;exact ⟨rfl,rfl⟩
theorem TE.others {bs:Nat} {A C:AH} (h:TE bs A C):KeepsOthers A C:=KeepsOthers.of_grownBy h.1 (fun j o e ho=>by obtain ⟨cs,t,fz,hc⟩:=h.2;cases e;rw [hc] at ho;cases ho;rfl)
theorem KE.trans {bs:Nat} {A B C:AH} (h:KE bs A B) (k:KE bs B C):KE bs A C:=⟨BH h.size k.size,k.own.trans h.own,fun t=>k.tab (h.tab t)⟩
theorem KE.put {bs l:Nat} (W:AH) (o:Obj) (h:bs < l):KE bs W (W.putObj l o):=
 ⟨by simp [World.putObj],World.putObj_heap_other AG,fun t=>⟨by simpa [World.putObj] using t.1,fun i hi=>by have h0:(W.putObj l o).heap[0]? =W.heap[0]? :=World.putObj_heap_other AG;have:=t.2 i hi;unfold World.cell? at this ⊢;rw [h0];exact this⟩⟩
theorem KE.grown {bs:Nat} {A C:AH} {row:Option Nat} (hg:A.grownBy C row) (hb:bs < A.heap.size) (hne:some bs≠row) (h0:some 0≠row):KE bs A C:=
 ⟨hg.size,hg.block bs hb hne,fun t=>⟨Au t.1 hg.size,fun i hi=>hg.cell (t.2 i hi) h0⟩⟩
theorem Below.book {n B:Nat} {w A C:AH} (h:BI B w A) (hb:Book n A C) (hB:B<=n):BI B w C:=
 h.trans ⟨hb.os,hb.tape,hb.output,hb.size,fun k hk=>hb.block k AG⟩
theorem F4 {n g:Nat} {t:Af} {cs:Array AN} {A C:AH} (h:AZ A g t cs) (b:Book n A C):AZ C g t cs:=(b.cells _ _ _ _ h).trans h
theorem Xp (x0:AQ) (n:Nat) (w:AH) (hl:x0.length=32) (hn:n<=1000) (hT:Ca w):AS prog 100 #[AP (yA x0),AE AF n] w (Dl (C3 Aw x0 n) w):=by
 have HL:=AA hl;have HT:=AA hT;have Er:(prog.info? 34).map (·.size)=some 32:=AJ
 have HI:=AA Er;clear hl hT Er;refine (Et (n:=8)).1 ?_;refine callsIn_of_wp_marks func100 rfl trivial ?_ rfl;simp only [ntmps100,RF,Gw,PU,Nat.reduceAdd,Nat.reduceSub,Ts,Tv,To,Tr,Jh,Ln];refine Dr.2 ?_;go_upto_region 1 with fail;have hq:=Iq ((w.alloc (AO (yA x0) 34)).alloc (AO #[AE AF (n:Int)] 3)) 34;have kd:AZ ((w.alloc (AO (yA x0) 34)).alloc (AO #[AE AF (n:Int)] 3)) w.heap.size 34 (yA x0):=(AZ.new _ _ _).alloc _;have kn:AZ ((w.alloc (AO (yA x0) 34)).alloc (AO #[AE AF (n:Int)] 3)) (w.heap.size+1) 3 #[AE AF (n:Int)]:=by
  have:=AZ.new (w.alloc (AO (yA x0) 34)) 3 #[AE AF (n:Int)]
  rwa [Ee] at this
 have hb0:AK w ((w.alloc (AO (yA x0) 34)).alloc (AO #[AE AF (n:Int)] 3)):=(BE _ _).alloc AX _;have hs0:((w.alloc (AO (yA x0) 34)).alloc (AO #[AE AF (n:Int)] 3)).heap.size=w.heap.size+1+1:=AX
 generalize ((w.alloc (AO (yA x0) 34)).alloc (AO #[AE AF (n:Int)] 3))=w0 at hq kd kn hb0 hs0 ⊢;rw [hs0] at hq;generalize (w0.alloc _)=wa at hq ⊢;obtain ⟨kr,hba,hza⟩:=hq;have KD:=AA (kd.below hba AG);have KN:=AA (kn.below hba AG);have KR:=AA kr;have H0:=AA (hb0.trans (hba.mono AG));have HZ:=AA hza;clear hs0 hb0 hba kd kn kr hza;go_wp2_with (first
  | (refine CT rfl 34 (AY 2) rfl w.heap.size x0 rfl 34 _ KD.o underlying34 rfl HI.o HL.o ?_)
  | (go_at_call 149;refine (oJ _ _).mono ?_;rintro e w2 ⟨rfl,rfl⟩))
 obtain ⟨w2,hw2⟩:=Ad (wa.alloc (AO (yA x0) 34));rw [<-hw2];have kb:AZ w2 wa.heap.size 34 (yA x0):=by rw [hw2];exact AZ.new _ _ _
 have hbW:AK wa w2:=by rw [hw2];exact (Ae _ _).alloc (Ac _) _
 have hz2:w2.heap.size=w.heap.size+1+1+1+1:=by rw [hw2];have:=HZ.o;simp;omega
 have hbs:wa.heap.size=w.heap.size+1+1+1:=HZ.o;obtain ⟨bs,hbe⟩:=Ad wa.heap.size;rw [<-hbe] at kb hbs ⊢;have HD2:=AA (KD.o.below hbW KD.o.lt);have Zg:=AA (KN.o.below hbW KN.o.lt);have HR2:=AA (KR.o.below hbW KR.o.lt);have HB2:=AA (AV H0.o hbW);have HKB:=AA kb;clear hw2 kb hbW hbe KD KN KR H0 HZ;subst hbs;refine (Dr (n:=8)).1 ?_;refine UU (gf:=196) (lb:=#[AW (some ⟨w.heap.size+1+1+1,0,none⟩)]) rfl (enters_of func196 AJ rfl)
  (ACp 7 (w.heap.size+1+1+1) x0 w2 HKB.o HL.o (HT.o.below HB2.o) AG) (fun _=>rfl) n
  (fun pre W=>AZ W w.heap.size 34 (yA x0)/\AZ W (w.heap.size+1) 3 #[AE AF ((n - pre.length:Nat):Int)]/\AZ W (w.heap.size+1+1) 34 (yA (zeros 32))/\pre.length<=n/\AK w W/\w2.heap.size<=W.heap.size)
  (fun W=>AZ W (w.heap.size+1+1) 34 (yA (C3 Aw x0 n))/\AK w W)
  (fun s A C h t=>⟨h.1.grown t.1 D7,h.2.1.grown t.1 D7,h.2.2.1.grown t.1 D7,h.2.2.2.1,h.2.2.2.2.1.grown t.1 (by have:=h.2.2.2.2.2;omega) (by intro r e;injection e with e;omega),BH h.2.2.2.2.2 t.1.size⟩)
  (fun s A C h b=>⟨F4 h.1 b,F4 h.2.1 b,F4 h.2.2.1 b,h.2.2.2.1,Below.book h.2.2.2.2.1 b AG,BH h.2.2.2.2.2 b.size⟩)
  (fun A C h b=>⟨F4 h.1 b,Below.book h.2 b AG⟩)
  (fun s A h=>h.2.2.2.1) (fun A C h=>h.others) (fun A B C h k=>h.trans k) (fun W l o o' hl h ho=>KE.put W o' AG)
  ⟨HD2.o,Zg.o,HR2.o,Av _,HB2.o,Ac _⟩
  (fun x a' W=>∃Bx,w2.heap.size<=Bx/\AZ W Bx 34 (yA x)/\a'={tmps:=#[AP (yA x0),AE AF n,AW (some ⟨w.heap.size,0,none⟩),AW (some ⟨w.heap.size+1,0,none⟩),AW (some ⟨w.heap.size+1+1,0,none⟩),AW (some ⟨Bx,0,none⟩),AP (yA x0),.func (.func 196) #[] #[AW (some ⟨w.heap.size+1+1+1,0,none⟩)],AP (yA x),undef,undef,undef,undef,undef,undef],defers:=[]})
  (fun x a' A C h b=>by obtain ⟨Bx,h1,h2,h3⟩:=h;exact ⟨Bx,h1,F4 h2 b,h3⟩)
  ?assign ?body ?done ?ret
 case assign=>
  rintro lp pre x W K ⟨h1,h2,h3,h4,h5,h6⟩ hG hK;have H9:AI (x.length=32):=AA rl;have HKK:=AA hK;have hzb:=Iq W 34;have K1:=AA h1;have K2:=AA h2;have K3:=AA h3;have K5:=AA h5;clear hK hG h1 h2 h3 h5
  dsimp only [gI]
  gi_wp2_with (refine JQ rfl 34 (AY 5) (AY 8) rfl W.heap.size x rfl rfl 34 (yA (zeros 32)) hzb.1 HI.o DU H9.o ?_;intro w4 k4 hb4 hg4)
  exact HKK.o _ _ ((KeepsOthers.alloc _ _).trans (TE.others ⟨hg4,_,_,_,hzb.1⟩)) ((KE.grown (EQ W _ none) AG AX AX).trans (KE.grown hg4 BN D7 D7))
   ⟨(K1.o.alloc _).grown hg4 D7,(K2.o.alloc _).grown hg4 D7,(K3.o.alloc _).grown hg4 D7,h4,(K5.o.alloc K5.o.size _).trans (hb4.mono K5.o.size),BH h6 (BH AX hg4.size)⟩ ⟨W.heap.size,h6,k4,rfl⟩
 case body=>
  rintro lp pre x a' W ⟨h1,h2,h3,h4,h5,h6⟩ hG ⟨Bx,hBx,hbx,rfl⟩;have H9:AI (x.length=32):=AA rl;have c0:=h2.cell 0;have f0:=h2.frozen 0;have l0:=h2.lt;simp only [Ak,Al] at c0;have K1:=AA h1;have K2:=AA h2;have K3:=AA h3;have K5:=AA h5;have KX:=AA hbx;have HG:=AA hG;obtain ⟨q,hq⟩:=Ad (n - pre.length);rw [<-hq] at c0;have HQ:=AA hq;clear h1 h2 h3 h5 hbx hG hq;by_cases hlt:0 < q
  ·have hq0:¬(q:Int)<=0:=by omega
   gi_wp2
   have hq1:wrap64 ((q:Int) - 1)=((n - (pre.length+1):Nat):Int):=by have:=HQ.o;rw [bV AG AG];omega
   rw [hq1];exact ⟨KeepsOthers.setCell _ _ _,KE.grown (grownBy_setCell' _ _ _) AG D7 D7,
    K1.o.far rO _,K2.o.put 0 _,K3.o.far (by show w.heap.size+1+1≠w.heap.size+1;omega) _,by have:=HQ.o;omega,K5.o.setCell eV _,by omega⟩
  have hq0:(q:Int)<=0:=AG
  gi_wp2_with (first
   | (refine If rfl 34 (AY 5) rfl Bx x rfl 34 _ KX.o underlying34 rfl HI.o H9.o ?_)
   | (refine JQ rfl 34 (AY 4) (AY 11) rfl (w.heap.size+1+1) x rfl rfl 34 (yA (zeros 32)) K3.o HI.o DU H9.o ?_;intro w4 k4 hb4 hg4))
  have hx:x=C3 Aw x0 n:=by have h:=HG.o;have:=HQ.o;rw [show n=pre.length by omega];exact h
  rw [<-hx];exact ⟨TE.others ⟨hg4,_,_,_,K3.o⟩,k4,K5.o.trans (hb4.mono AG)⟩
 case done=>exact fun D xs W _ h _ _=>h.elim
 rintro D W hD ⟨h1,h2⟩ hK
 gi_wp2
 have hne:w.heap.size+1+1≠D:=AG
 refine ⟨by simp,.inl ⟨_,_,rfl,run_takeDeferred hK,?_⟩⟩;have k8:AZ (W.putObj D (.deferred none)) (w.heap.size+1+1) 34 (yA (C3 Aw x0 n)):=(World.putObj_heap_other hne).trans h1;exact ⟨_,N5 rfl _ _ (w.heap.size+1+1) 34 (yA (C3 Aw x0 n)) (0,0) _ rfl k8 underlying34 rfl (by rw [B9,NG _ HL.o];exact HI.o),rfl,h2.trans (belowK_b (w:=w2) AG W D _ _ hD hK rfl rfl)⟩
theorem EY {P:BA} {ops:Array Oper} {rest:List Oper} {o:Oper} {a:Act} {w:AH} {Q:Exit->Act->AH->Prop} (hgd:o.guard=none) (T:Af) (ho:o.op=.alloc T) (cs:Array AN) (hz:(P.info? T).bind (·.zero)=some (.agg cs))
 (h:wpList P ops Q rest (a.put o.dst (AW (some ⟨w.heap.size,0,none⟩))) (w.alloc (AO cs T))):wpList P ops Q (o::rest) a w:=by
 obtain ⟨i,hi,hzi⟩:=dt.1 hz;refine wpList_plain hgd fun K hK=> ?_;unfold Oper.wp execOp;simp [ho,Instr.alloc,zeroValue,typeInfo,hi,hzi,newVar,newRow,Value.cells];exact hK _ _ h
theorem iP {w:AH} {g o n:Nat} {t:Af} {l:AQ} (h:AZ w g t (yA l)) (hl:o+n<=l.length):w.there g o n:=fun j hj=>by rw [Jr h (i:=o+j) AG];exact ⟨rfl,h.frozen _⟩
def FP (f:Nat->AQ) (k:Nat):AQ:=((List.range k).map f).flatten++zeros ((19 - k)*32)
theorem aU {f:Nat->AQ} (hf:∀i,(f i).length=32):∀k,((List.range k).map f).flatten.length=k*32
 | 0=>rfl
 | k+1=>by rw [PW,DE,PV,CQ,aU hf k];simp [hf];omega
theorem VM {f:Nat->AQ} (hf:∀i,(f i).length=32) {k:Nat} (hk:k<=19):(FP f k).length=608:=by rw [FP,CQ,aU hf];simp [zeros];omega
theorem jj {f:Nat->AQ} (hf:∀i,(f i).length=32) {k:Nat} (hk:k < 19):splice (FP f k) (k*32) (f k)=FP f (k+1):=by have h:=aU hf k;unfold splice FP;rw [PW,DE,PV,hf k,List.take_append_of_le_length AG,Cu AG,List.drop_append,Ex AG,h];simp [zeros];congr 1;omega
theorem AAn (f:Nat->AQ):FP f 19=((List.range 19).map f).flatten:=by simp [FP,zeros]
theorem uG (f:Nat->AQ):FP f 0=zeros 608:=by simp [FP]
theorem ADg:(prog.info? 232).bind (·.zero)=some (AP (yA (zeros 608))):=by kernel_rfl
theorem uk (seed:AQ) (w:AH) (hl:seed.length=32) (hT:Ca w):AS prog 85 #[AP (yA seed)] w (Dl (Ii Aw seed) w):=by
 have HL:=AA hl;have HT:=AA hT;have Er:(prog.info? 34).map (·.size)=some 32:=AJ
 have HI:=AA Er;have dB:(prog.info? 232).map (·.size)=some 608:=AJ
 have HI2:=AA dB;have HZ2:=AA ADg;obtain ⟨f,hf⟩:∃f:Nat->AQ,f=fun i=>C3 Aw (Hh Aw seed i) 3:=⟨_,rfl⟩;have LL:AI (∀i,(f i).length=32):=AA (fun i=>by rw [hf];exact NG _ Yn);obtain ⟨Z,hZ⟩:=Ad (Ii Aw seed);have dW:AI (Z.length=32):=AA (by rw [hZ,Ii,JB];exact C7 _ _);have HP:AI (∀W,AK w W->AS prog 131 #[AP (yA (FP f 19))] W (Dl Z W)):=AA (fun W hW=>by have:=XE (FP f 19) W (VM LL.o (Ac _)) (hT.below hW);rw [hZ,Ii,JB];rw [AAn] at this ⊢;rw [hf] at this ⊢;exact this)
 have jh:AI (∀(i:Nat),i < 19->∀W,AK w W->AS prog 101 #[AP (yA seed),AE AF i] W (Dl (Hh Aw seed i) W)):=AA (fun i hi W hW=>jL seed i W hl AG (hT.below hW));have HAF:AI (∀(i:Nat),∀W,AK w W->AS prog 100 #[AP (yA (Hh Aw seed i)),AE AF 3] W (Dl (f i) W)):=AA (fun i W hW=>by rw [hf];exact Xp (Hh Aw seed i) 3 W Yn AG (hT.below hW));rw [<-hZ];clear hl hT Er dB hf hZ;go_enter func85,ntmps85;go_upto_region 1 with fail;have hq:=Iq (w.alloc (AO (yA seed) 34)) 34;have kd:AZ (w.alloc (AO (yA seed) 34)) w.heap.size 34 (yA seed):=AZ.new _ _ _;have hb0:AK w (w.alloc (AO (yA seed) 34)):=(Ae _ _).alloc (Ac _) _;have hs0:(w.alloc (AO (yA seed) 34)).heap.size=w.heap.size+1:=AX
 generalize (w.alloc (AO (yA seed) 34))=w0 at hq kd hb0 hs0 ⊢;rw [hs0] at hq;generalize (w0.alloc _)=wa at hq ⊢;obtain ⟨kr,hba,hza⟩:=hq;have KD:=AA ((kd.below hba AG).alloc (AO (yA (zeros 608)) 232));have KR:=AA (kr.alloc (AO (yA (zeros 608)) 232));have KA:=AA (AZ.new wa 232 (yA (zeros 608)));have HB:=AA ((hb0.trans (hba.mono AG)).alloc AG (AO (yA (zeros 608)) 232));have Xw:=AA hza;clear hs0 hb0 hba kd kr hza;go_wp2_with (refine EY rfl 232 rfl _ HZ2.o ?_);go_loopg [5] 19 (fun q i wr=>∃k:Nat,k<=19/\q=19 - k/\i=AE AF k/\AZ wr w.heap.size 34 (yA seed)/\AZ wr (w.heap.size+1) 34 (yA (zeros 32))/\AZ wr wa.heap.size 232 (yA (FP f k))/\AK w wr)
 case atStart=>exact ⟨0,Av _,rfl,rfl,KD.o,KR.o,by rw [uG];exact KA.o,HB.o⟩
 clear KD KR KA HB;obtain ⟨k,hk,hq,rfl,h1,h2,h3,h4⟩:=hrel;have HQ:=AA hq;have KD:=AA h1;have KR:=AA h2;have KA:=AA h3;have HB:=AA h4;clear hq h1 h2 h3 h4;by_cases hlt:k < 19
 ·have hk0:=Int.natCast_nonneg k
  have hk1:(k:Int) < 19:=AG
  have hb1:=jh.o k hlt;have ha1:=HAF.o k;obtain ⟨B,hB⟩:=Ad (Hh Aw seed k);rw [<-hB] at hb1 ha1;obtain ⟨D,hD⟩:=Ad (f k);rw [<-hD] at ha1;have dH:D.length=32:=by rw [hD];exact LL.o k
  have HB1:=AA hb1;have HA1:=AA ha1;have uD:=AA hD;have Sy:AI (∀W,AZ W wa.heap.size 232 (yA (FP f k))->W.there wa.heap.size (k*32) (yA D).size):=AA (fun W h=>by rw [B9,dH];exact iP h (by rw [VM LL.o hk];omega));have CY:AI ((prog.info? 34).map (·.size)=some (yA D).size):=AA (by rw [B9,dH];exact HI.o);have EM:=AA dH;have Ml:=AA hlt;clear hb1 ha1 hB hD dH hlt;go_wp2_with (first
   | (refine CT rfl 34 (AY 1) rfl w.heap.size seed rfl 34 _ KD.o underlying34 rfl HI.o HL.o ?_)
   | (
    go_at_call 101;refine (HB1.o _ HB.o).mono ?_;rintro e w2 ⟨rfl,hb⟩;have KD2:=AA (KD.o.below hb KD.o.lt);have NJ:=AA (KR.o.below hb KR.o.lt);have dU:=AA (KA.o.below hb KA.o.lt);have HB2:=AA (AV HB.o hb);clear hb)
   | (
    go_at_call 100;refine (HA1.o _ HB2.o).mono ?_;rintro e w3 ⟨rfl,hb⟩;have KD3:=AA (KD2.o.below hb KD2.o.lt);have Qm:=AA (NJ.o.below hb NJ.o.lt);have Zd:=AA (dU.o.below hb dU.o.lt);have HB3:=AA (AV HB2.o hb);clear hb)
   | (refine Tn rfl 34 (AY 13) (AY 12) rfl wa.heap.size (k*32) (yA D) rfl rfl (Sy.o _ Zd.o) CY.o (Kq D) ?_))
  go_roundg (19 - (k+1))
  case measure=>have:=HQ.o;exact QH
  have hlt:=Ml.o;have hz:=Xw.o;have hbb:BI wa.heap.size w3 (w3.setCells wa.heap.size (k*32) (yA D).toList):=below_setCells _ _ _ _ (Ae _ _) (Ac _);refine ⟨k+1,by omega,rfl,by go_num,(hbb.block _ AG).trans KD3.o,(hbb.block _ AG).trans Qm.o,?_,HB3.o.trans (hbb.mono AG)⟩;rw [<-jj LL.o hlt,<-uD.o];exact xV
 have h19:k=19:=AG
 subst h19;have CY:AI ((prog.info? 232).map (·.size)=some (yA (FP f 19)).size):=AA rx;obtain ⟨F,hF⟩:=Ad (FP f 19);rw [<-hF] at CY KA HP;clear hF hlt;go_wp2_with (first
  | (refine Bv rfl 232 (AY 3) rfl wa.heap.size rfl 232 (yA F) (0,0) _ KA.o underlying232 rfl CY.o ?_)
  | (
   go_at_call 131;refine (HP.o _ HB.o).mono ?_;rintro e w2 ⟨rfl,hb⟩;have NJ:=AA (KR.o.below hb KR.o.lt);have HB2:=AA (AV HB.o hb);clear hb)
  | (refine DM rfl 34 (AY 2) (AY 16) rfl (w.heap.size+1) Z rfl rfl 34 _ NJ.o HI.o DU dW.o ?_;intro w4 k4 hb4))
 exact Se (.inl rfl) rfl rfl rfl k4 underlying34 rfl HI.o dW.o (HB2.o.trans (hb4.mono (Ff _)))
theorem bx (w:AH) (cs:Array AN) (T:Af):AZ (w.alloc (AO cs T)) w.heap.size T cs/\BI w.heap.size w (w.alloc (AO cs T))/\(w.alloc (AO cs T)).heap.size=w.heap.size+1:=
 ⟨AZ.new _ _ _,(Ae _ _).alloc (Ac _) _,by simp⟩
theorem Nq {w:AH} {base base':Nat} {e:Af} {size:Nat} {v:AN} {n:Nat} {xs:List AN} (h:w.ownsRow base e size v n xs) (hb:base'<=base):w.ownsRow base' e size v n xs:=by
 refine ⟨h.1,?_⟩;rcases h.2 with h2 | ⟨g,cap,cur,hv,hg,r⟩
 · exact .inl h2
 · exact .inr ⟨g,cap,cur,hv,BH hb hg,r⟩
theorem DX {w:AH} {base g:Nat} {e:Af} {size:Nat} {v:AN} {n:Nat} {xs:List AN} (h:w.ownsRow base e size v n xs) (hg:g < base):some g≠v.ownBlock:=by intro e2;have:=(h.lt g e2.symm).1;omega
theorem gJ:∃(j:TypeInfo) (z:AN),prog.info? 34=some j/\j.zero=some z/\z.cells.size=32/\j.size=32/\j.bytes=32:=by obtain ⟨j,hj,hz⟩:=Ds.1 (show (prog.info? 34).map (fun i=>(i.zero.map (·.cells.size),i.size,i.bytes))=some (some 32,32,32) by kernel_rfl);simp only [F7] at hz;obtain ⟨z,hz0,hz1⟩:=Ds.1 hz.1;exact ⟨j,z,hj,hz0,hz1,hz.2⟩
theorem Gm:(prog.info? 34).map (·.size)=some 32:=by kernel_rfl
theorem iU (m:AQ) (k:Nat) (hk:k < 19):∃d:Nat,(Ea m)[k]? =some (d:Int)/\(Ea m).getD k 0=(d:Int)/\d<=3:=by
 have h:=bh (m:=m) _ (Tm (show k < (Ea m).length by rw [Oc];exact hk));refine ⟨((Ea m)[k]' eN).toNat,?_,?_,by omega⟩
 · rw [BJ eN];congr 1;omega
 · rw [Cv,BJ eN];simp only [Cc];omega
theorem ADf {l:AQ} {k:Nat} {x:Int} (h:l[k]? =some x) (hk:k < 19) (w:AH):(Instr.index 189 (AP (iA l)) (AE AF (k:Int))).run prog w=.ok (AE AF x) w:=by
 have hx:(iA l)[k]? =some (AE AF x):=by rw [iA,Ak,Bb,h];rfl
 have hk':(0:Int)<=(k:Int)/\(k:Int) < ((19:Nat):Int):=AG
 obtain ⟨j,hj,hz⟩:=Ds.1 (show (prog.info? 3).map (·.size)=some 1 by kernel_rfl);simp only [Instr.index,asIntOf,Ck,DC,Result.andThen_ok,T8 underlying189,hk',and_self,C5];simp [sizeOf,part,isAgg,run_underlying underlying3,hx,typeInfo,hj,hz]
theorem AA6 (seed m:AQ) (w:AH) (hs:seed.length=32) (hm:m.length=32) (hr:∀x∈m,0<=x/\x < 256) (hT:Ca w):
 AS prog 72 #[AP (yA seed),AP (yA m)] w (R4 (Kx Aw seed m) w):=by
 have HS:=AA hs;have HM:=AA hm;have Sz:AI (∀W,AK w W->AS prog 98 #[AP (yA m)] W (wR (Ea m) W)):=AA (fun W hW=>iV m W hm hr);have jh:AI (∀(i:Nat),i < 19->∀W,AK w W->AS prog 101 #[AP (yA seed),AE AF i] W (Dl (Hh Aw seed i) W)):=AA (fun i hi W hW=>jL seed i W hs AG (hT.below hW));have HAF:AI (∀(i d:Nat),d<=3->∀W,AK w W->AS prog 100 #[AP (yA (Hh Aw seed i)),AE AF d] W (Dl (C3 Aw (Hh Aw seed i) d) W)):=AA (fun i d hd W hW=>Xp (Hh Aw seed i) d W Yn AG (hT.below hW));have LL:AI (∀(i d:Nat),(C3 Aw (Hh Aw seed i) d).length=32):=AA (fun i d=>NG _ Yn);have SA:AI (∀(k:Nat),k < 19->∃d:Nat,(Ea m)[k]? =some (d:Int)/\(Ea m).getD k 0=(d:Int)/\d<=3):=AA (fun k hk=>iU m k hk);obtain ⟨L,hL⟩:=Ad (Ea m);have ja:AI (L.length=19):=AA (by rw [hL];exact Oc m);obtain ⟨f,hf⟩:∃f:Nat->AQ,f=fun i=>C3 Aw (Hh Aw seed i) (L.getD i 0).toNat:=⟨_,rfl⟩;have hz:Kx Aw seed m=(List.range 19).map f:=by rw [hf,hL];rfl
 rw [hz];obtain ⟨R,hR⟩:=Ad ((List.range 19).map f);have HRE:=AA hR;rw [<-hR];rw [<-hL] at Sz SA;obtain ⟨j0,z0,hj⟩:=gJ;have HJ:=AA hj;have CY:=AA Gm;have HF:=AA hf;clear hs hm hr hT hL hj hz hf hR;go_enter func72,ntmps72;go_upto_region 1 with fail;obtain ⟨k1,b1,s1⟩:=bx w (yA seed) 34;obtain ⟨k2,b2,s2⟩:=bx (w.alloc (AO (yA seed) 34)) (yA m) 34;generalize ((w.alloc (AO (yA seed) 34)).alloc (AO (yA m) 34))=w2 at k2 b2 s2 ⊢;generalize (w.alloc (AO (yA seed) 34))=w1 at k1 b1 s1 k2 b2 s2 ⊢;rw [s1] at k2 b2 s2;have KS:=AA (k1.below b2 AG);have KM:=AA k2;have HB:=AA (b1.trans (b2.mono AG));have HZ:=AA s2;clear k1 b1 k2 b2 s2 s1;go_wp2_with (first
  | (refine CT rfl 34 (AY 3) rfl (w.heap.size+1) m rfl 34 _ KM.o underlying34 rfl CY.o HM.o ?_)
  | (
   go_at_call 98;refine (Sz.o _ HB.o).mono ?_;rintro e w3 ⟨rfl,hb⟩;have KS3:=AA (KS.o.below hb KS.o.lt);have HB3:=AA (AV HB.o hb);have J6:AI (w.heap.size+2<=w3.heap.size):=AA (by have:=hb.size;have:=HZ.o;omega);clear hb))
 go_loopg [4,9] 19 (fun q v i wr=>∃k:Nat,k<=19/\q=19 - k/\i=AE AF k/\AZ wr w.heap.size 34 (yA seed)/\(∃cs,wr.ownsRow (w.heap.size+2) 34 32 v k cs/\Aq 32 CV wr cs ((List.range k).map f))/\w.heap.size+2<=wr.heap.size/\AK w wr)
 case atStart=>exact ⟨0,Av _,rfl,rfl,KS3.o,⟨[],Ev _ _ _ _,Aq.nil⟩,J6.o,HB3.o⟩
 clear KS KM HB KS3 HB3 J6;obtain ⟨k,hk,hq,rfl,h1,⟨cs,h2,h3⟩,h4,h5⟩:=hrel;have HQ:=AA hq;have KS:=AA h1;have HO:=AA h2;have HC:=AA h3;have jS:=AA h4;have HB:=AA h5;clear hq h1 h2 h3 h4 h5;by_cases hlt:k < 19
 ·have hk0:=Int.natCast_nonneg k
  have hk1:(k:Int) < 19:=AG
  obtain ⟨d,hd1,hd2,hd3⟩:=SA.o k hlt;have hix:=fun W=>ADf hd1 hlt W;have BG:=AA (jh.o k hlt);have uF:=AA (HAF.o k d hd3);obtain ⟨B,hB⟩:=Ad (Hh Aw seed k);obtain ⟨D,hD⟩:=Ad (C3 Aw B d);have X7:AI (f k=D):=AA (by rw [HF.o,hD,hB];simp only [hd2,Cm]);have hDl:D.length=32:=by rw [hD,hB];exact LL.o k d
  rw [<-hB] at BG uF;rw [<-hD] at uF;have EM:=AA hDl;have hys:(yA D).size=32:=by rw [B9,hDl]
  have hfl:=Ut D hDl;have Ml:=AA hlt;clear hB hD hd1 hd2 hd3 hDl hlt;go_wp2_with (first
   | (refine CT rfl 34 (AY 2) rfl w.heap.size seed rfl 34 _ KS.o underlying34 rfl CY.o HS.o ?_)
   | (
    go_at_call 101;refine (BG.o _ HB.o).mono ?_;rintro e w3 ⟨rfl,hb⟩;have KS3:=AA (KS.o.below hb KS.o.lt);have I4:=AA (EW HO.o hb);have VF:=AA (BH jS.o hb.size);have HB3:=AA (AV HB.o hb);clear hb)
   | (
    go_at_call 100;refine (uF.o _ HB3.o).mono ?_;rintro e w4 ⟨rfl,hb⟩;have KS4:=AA (KS3.o.below hb KS3.o.lt);have Qa:=AA (EW I4.o hb);have jR:=AA (BH VF.o hb.size);have HB4:=AA (AV HB3.o hb);clear hb)
   | (at_builtin;refine CU _ rfl (AY 13) (AY 19) 37 34 rfl j0 z0 32 underlying37 HJ.o.1 HJ.o.2.1 HJ.o.2.2.2.1 HJ.o.2.2.2.2 HJ.o.2.2.1 Ah (R:=CV) Vr (w.heap.size+2) _ _ _ rfl (Qa.o.alloc _) (some ⟨w4.heap.size,0,none⟩) 1 1 [D] rfl (Y0 w4 D EM.o) FN AG (by have:=jR.o;simp;omega) ?_;intro v' w5 NZ hc5 GK hg5 OL))
  go_roundg (19 - (k+1))
  case measure=>have:=HQ.o;exact QH
  have h6:=jR.o;have hsz:=hg5.size;simp only [Ee] at hsz;refine ⟨k+1,by have:=Ml.o;omega,rfl,by go_num,(KS4.o.alloc _).grown hg5 (DX Qa.o AG),⟨cs++NZ,GK,?_⟩,by omega,(HB4.o.alloc HB4.o.size _).grown hg5 BN (fun r hr=>by have:=(Qa.o.lt r hr).1;omega)⟩;rw [PW,DE];exact (Ij HC.o).append (by rw [show [k].map f=[D] by rw [Fe,X7.o];rfl];exact hc5)
 have h19:k=19:=AG
 subst h19;go_wp2_with fail;go_ret;rw [HRE.o];exact ⟨_,cs,rfl,by rw [Cb,YN];exact Nq HO.o AG,HC.o,HB.o⟩
theorem qD (m:AQ) (A:Option Addr) (n c:Nat) (s:List (AQ)) (w:AH) (hm:m.length=32) (hr:∀x∈m,0<=x/\x < 256) (hT:Ca w) (hs:Ag 32 CV w (AB A n c) s):
 AS prog 90 #[AP (yA m),AB A n c] w (Y6 (if s.length=19 then Hg Aw m s else zeros 32) (if s.length=19 then 0 else 50) w):=by
 have HM:=AA hm;have HS:=AA hs;have IB:=AA hs.len;have hnc:=hs.le;have CY:=AA Gm;have dB:(prog.info? 232).map (·.size)=some 608:=AJ
 have HI2:=AA dB;have HZ2:=AA ADg;have HT:=AA hT;have HR:=AA hr;clear hm hr hT hs dB;by_cases h19:n=19
 ·subst h19
  have hsl:s.length=19:=IB.o.symm;rw [Ao hsl,Ao hsl];have Sz:AI (∀W,AK w W->AS prog 98 #[AP (yA m)] W (wR (Ea m) W)):=AA (fun W hW=>iV m W HM.o HR.o);have SA:AI (∀(k:Nat),k < 19->∃d:Nat,(Ea m)[k]? =some (d:Int)/\(Ea m).getD k 0=(d:Int)/\d<=3):=AA (fun k hk=>iU m k hk);obtain ⟨L,hL⟩:=Ad (Ea m);obtain ⟨f,hf⟩:∃f:Nat->AQ,f=fun i=>if i < 19 then C3 Aw (s.getD i []) (3 - L.getD i 0).toNat else zeros 32:=⟨_,rfl⟩
  have HEL:AI (∀k,k < 19->∃x,s[k]? =some x/\x.length=32):=AA (fun k hk=>by obtain ⟨_,_,x,_,_,hx,hxl,_⟩:=J5 HS.o hk;exact ⟨x,hx,hxl⟩)
  have pO:AI (∀k x,k < 19->s[k]? =some x->f k=C3 Aw x (3 - L.getD k 0).toNat):=AA (fun k x hk hx=>by rw [hf];simp only [Ao hk];rw [Cv,hx];rfl);have LL:AI (∀i,(f i).length=32):=AA (fun i=>by
   rw [hf];by_cases h:i < 19
   ·obtain ⟨x,hx,hxl⟩:=HEL.o i h
    simp only [Ao h];rw [Cv,hx];exact NG _ hxl
   · simp only [Ai h];simp [zeros])
  obtain ⟨Z,hZ⟩:=Ad (Hg Aw m s);have dW:AI (Z.length=32):=AA (by rw [hZ,Hg,JB];exact C7 _ _);have HP:AI (∀W,AK w W->AS prog 131 #[AP (yA (FP f 19))] W (Dl Z W)):=AA (fun W hW=>by
   have:=XE (FP f 19) W (VM LL.o (Ac _)) (HT.o.below hW);have e:(List.range 19).map f=(List.range 19).map fun i=>C3 Aw (s.getD i []) (3 - (Ea m).getD i 0).toNat:=List.map_congr_left fun i hi=>by rw [hf,hL];simp only [Ao (Ed.1 hi)]
   rw [hZ,Hg,JB,<-e,<-AAn];exact this)
  have HAF:AI (∀(x:AQ) (d:Nat),x.length=32->d<=3->∀W,AK w W->AS prog 100 #[AP (yA x),AE AF d] W (Dl (C3 Aw x d) W)):=AA (fun x d hx hd W hW=>Xp x d W hx AG (HT.o.below hW));rw [<-hZ];rw [<-hL] at Sz SA;clear hf hZ hL HT HR IB;go_enter func90,ntmps90;go_upto_region 1 with fail;obtain ⟨k1,b1,s1⟩:=bx w (yA m) 34;have hq:=Iq (w.alloc (AO (yA m) 34)) 34;generalize (w.alloc (AO (yA m) 34))=w0 at hq k1 b1 s1 ⊢;rw [s1] at hq;generalize (w0.alloc _)=wa at hq ⊢;obtain ⟨kr,hba,hza⟩:=hq;have KM:=AA (k1.below hba AG);have KR:=AA kr;have HB:=AA (b1.trans (hba.mono AG));have Xw:=AA hza;clear s1 b1 hba k1 kr hza;go_wp2_with (first
   | (refine EY rfl 232 rfl _ HZ2.o ?_)
   | (refine CT rfl 34 (AY 2) rfl w.heap.size m rfl 34 _ (KM.o.alloc _) underlying34 rfl CY.o HM.o ?_)
   | (
    go_at_call 98;refine (Sz.o _ (HB.o.alloc HB.o.size _)).mono ?_;rintro e w3 ⟨rfl,hb⟩;have Qm:=AA ((KR.o.alloc (AO (yA (zeros 608)) 232)).below hb (KR.o.alloc _).lt);have Zd:=AA ((AZ.new wa 232 (yA (zeros 608))).below hb (AZ.new _ _ _).lt);have HB3:=AA ((HB.o.alloc HB.o.size (AO (yA (zeros 608)) 232)).trans (hb.mono (HB.o.alloc HB.o.size _).size));clear hb))
  go_loopg [15] 19 (fun q i wr=>∃k:Nat,k<=19/\q=19 - k/\i=AE AF k/\AZ wr (w.heap.size+1) 34 (yA (zeros 32))/\AZ wr wa.heap.size 232 (yA (FP f k))/\AK w wr)
  case atStart=>exact ⟨0,Av _,rfl,rfl,Qm.o,by rw [uG];exact Zd.o,HB3.o⟩
  clear KR KM HB Qm Zd HB3;obtain ⟨k,hk,hq,rfl,h2,h3,h4⟩:=hrel;have HQ:=AA hq;have KR:=AA h2;have KA:=AA h3;have HB:=AA h4;clear hq h2 h3 h4;by_cases hlt:k < 19
  ·have hk0:=Int.natCast_nonneg k
   have hk1:(k:Int) < 19:=AG
   obtain ⟨d,hd1,hd2,hd3⟩:=SA.o k hlt;have hix:=fun W=>ADf hd1 hlt W;have hdw:IntKind.i64.wrap (3 - (d:Int))=((3 - d:Nat):Int):=by rw [CN _ AG];omega
   obtain ⟨b,off,x,rfl,hbl,hx,hxl,_,hrg⟩:=J5 (HS.o.mono BK HB.o) hlt;have uF:=AA (HAF.o x (3 - d) hxl AG);obtain ⟨D,hD⟩:=Ad (C3 Aw x (3 - d));have uD:AI (f k=D):=AA (by rw [pO.o k x hlt hx,hD,hd2];congr 1;omega);rw [<-hD] at uF;have dH:D.length=32:=by rw [<-uD.o];exact LL.o k
   have Sy:AI (∀W,AZ W wa.heap.size 232 (yA (FP f k))->W.there wa.heap.size (k*32) (yA D).size):=AA (fun W h=>by rw [B9,dH];exact iP h (by rw [VM LL.o hk];omega));have HS2:AI ((prog.info? 34).map (·.size)=some (yA D).size):=AA (by rw [B9,dH];exact CY.o);have EM:=AA dH;have Ml:=AA hlt;have H9:=AA hxl;have SC:=AA hrg;clear hD hd1 hd2 dH hx hxl hrg hlt hbl;go_wp2_with (first
    | (refine Ld rfl 34 (AY 22) rfl b (off+k*32) rfl x _ SC.o underlying34 rfl CY.o H9.o ?_)
    | (
     go_at_call 100;refine (uF.o _ HB.o).mono ?_;rintro e w3 ⟨rfl,hb⟩;have Qm:=AA (KR.o.below hb KR.o.lt);have Zd:=AA (KA.o.below hb KA.o.lt);have HB3:=AA (AV HB.o hb);clear hb)
    | (refine Tn rfl 34 (AY 27) (AY 26) rfl wa.heap.size (k*32) (yA D) rfl rfl (Sy.o _ Zd.o) HS2.o (Kq D) ?_))
   go_roundg (19 - (k+1))
   case measure=>have:=HQ.o;exact QH
   have hlt:=Ml.o;have hz:=Xw.o;have hbb:BI wa.heap.size w3 (w3.setCells wa.heap.size (k*32) (yA D).toList):=below_setCells _ _ _ _ (Ae _ _) (Ac _);refine ⟨k+1,by omega,rfl,by go_num,(hbb.block _ AG).trans Qm.o,?_,HB3.o.trans (hbb.mono AG)⟩;rw [<-jj LL.o hlt,uD.o];exact xV
  have h19:k=19:=AG
  subst h19;have HS2:AI ((prog.info? 232).map (·.size)=some (yA (FP f 19)).size):=AA rx;obtain ⟨F,hF⟩:=Ad (FP f 19);rw [<-hF] at HS2 KA HP;clear hF hlt;go_wp2_with (first
   | (refine Bv rfl 232 (AY 6) rfl wa.heap.size rfl 232 (yA F) (0,0) _ KA.o underlying232 rfl HS2.o ?_)
   | (
    go_at_call 131;refine (HP.o _ HB.o).mono ?_;rintro e w2 ⟨rfl,hb⟩;have NJ:=AA (KR.o.below hb KR.o.lt);have HB2:=AA (AV HB.o hb);clear hb)
   | (refine DM rfl 34 (AY 4) (AY 30) rfl (w.heap.size+1) Z rfl rfl 34 _ NJ.o CY.o DU dW.o ?_;intro w4 k4 hb4))
  exact Wv (.inl rfl) rfl rfl rfl rfl k4 underlying34 rfl CY.o dW.o (HB2.o.trans (hb4.mono (Ff _)))
 have hsl:¬s.length=19:=by rw [<-IB.o];exact h19
 rw [Ai hsl,Ai hsl];have hne:((n:Int)==19)=false:=by simp;omega
 have hne':¬(n:Int)=19:=AG
 clear CY HI2 HZ2 HT HR HS hsl IB;have CY:=AA Gm;go_enter func90,ntmps90;go_upto_region 1 with fail;obtain ⟨k1,b1,s1⟩:=bx w (yA m) 34;have hq:=Iq (w.alloc (AO (yA m) 34)) 34;generalize (w.alloc (AO (yA m) 34))=w0 at hq k1 b1 s1 ⊢;rw [s1] at hq;generalize (w0.alloc _)=wa at hq ⊢;obtain ⟨kr,hba,hza⟩:=hq;have KR:=AA kr;have HB:=AA (b1.trans (hba.mono AG));clear s1 b1 hba k1 kr hza;go_wp2_with (first
  | (refine CT rfl 34 (AY 4) rfl (w.heap.size+1) (zeros 32) rfl 34 _ KR.o underlying34 rfl CY.o rfl ?_)
  | (refine DM rfl 34 (AY 4) (AY 12) rfl (w.heap.size+1) (zeros 32) rfl rfl 34 (yA (zeros 32)) KR.o CY.o DU rfl ?_;intro w4 k4 hb4))
 exact Wv (.inl rfl) rfl rfl rfl rfl k4 underlying34 rfl CY.o rfl (HB.o.trans (hb4.mono (Ff _)))
attribute [local go_sem] Oper.semAt_some
def V9 (s:AQ) (n:Nat):Nat->AQ
 | 0=>s++zeros 4
 | i+1=>(V9 s n i).set (32+i) ((n / 2 ^ (24 - 8*i) % 256:Nat):Int)
theorem AD7 {s:AQ} {n:Nat} (hs:s.length=32):V9 s n 4=s++bytes4 n:=by simp [V9,bytes4,zeros,hs]
theorem Yw {s:AQ} {n:Nat} (hs:s.length=32):∀i,(V9 s n i).length=36
 | 0=>by simp [V9,zeros,hs]
 | i+1=>by rw [V9,FM];exact Yw hs i
theorem AHQ:(prog.info? 193).bind (·.zero)=some (AP (yA (zeros 36))):=by kernel_rfl
theorem tg {w:AH} {g:Nat} {t:Af} {l:AQ} (h:AZ w g t (yA l)):∀(j:Nat) (v:AN),(l.map (Value.int .u8))[j]? =some v->w.cell? ((Addr.mk g 0 none).add j)=some v:=fun j v hv=>by
 have e:(Addr.mk g 0 none).add j=⟨g,0+j,none⟩:=by
  unfold Addr.add;split
  · subst_vars;rfl
  · rfl
 rw [e,Fc,h.cell,yA,Ak];exact hv
theorem mB (seed:AQ) (k:Nat) (w:AH) (hs:seed.length=32) (hk:k<=256) (hT:Ca w):
 AS prog 73 #[AP (yA seed),AE AF k] w (Dl (LN Aw seed k) w):=by
 have HS:=AA hs;have HZ:=AA AHQ;have CY:=AA Gm;obtain ⟨D,hD⟩:=Ad (LN Aw seed k);have EM:AI (D.length=32):=AA (by rw [hD,LN];exact C7 _ _);have HC:AI (∀g W,AK w W->AZ W g 193 (yA (V9 seed k 4))->AS prog 48 #[.string {data:=#[108,101,97,102]},AB (some ⟨g,0,none⟩) 36 36] W (Dl D W)):=AA (fun g W hW hb=>by have hy:=GR hb (by rw [Yw hs];omega);rw [Yw hs] at hy;rw [hD,LN,<-AD7 hs];exact IF {data:=#[108,101,97,102]} _ 36 36 _ W Ah (hT.below hW) hy)
 have IB:AI (∀i,(V9 seed k i).length=36):=AA (fun i=>Yw hs i);rw [<-hD];clear hs hD hT;go_enter func73,ntmps73;go_upto_region 1 with fail;obtain ⟨k1,b1,s1⟩:=bx w (yA seed) 34;have hq:=Iq (w.alloc (AO (yA seed) 34)) 34;generalize (w.alloc (AO (yA seed) 34))=w0 at hq k1 b1 s1 ⊢;rw [s1] at hq;generalize (w0.alloc _)=wa at hq ⊢;obtain ⟨kr,hba,hza⟩:=hq;obtain ⟨k3,b3,s3⟩:=bx wa (yA (zeros 36)) 193;have KS:=AA ((k1.below hba AG).below b3 AG);have KR:=AA (kr.below b3 AG);have HB:=AA ((b1.trans (hba.mono AG)).trans (b3.mono AG));have KB:=AA k3;have Xw:=AA hza;have HSR:=AA (tg (KS.o.drew));clear s1 b1 hba k1 kr hza k3 b3 s3;go_wp2_with (refine EY rfl 193 rfl _ HZ.o ?_);generalize wa.alloc (AO (yA (zeros 36)) 193)=wb at *
 go_region_held3 (fun _=>True) (trivial) (first
  | (
   refine step_copy_splice rfl (AY 7) (AY 8) 104 104 rfl 5 underlying104 AJ _ _ _ _ _ _ rfl rfl wa.heap.size 0 ((zeros 36).map (Value.int .u8)) 193 KB.o.drew (seed.map (Value.int .u8)) (by rw [Cb,HS.o];rfl) (fun _=>⟨rfl,_,rfl,HSR.o⟩) (by rw [Cb,HS.o];simp [zeros]) (Yz seed) wa.heap.size wb.drew (Ae _ _) (Ac _) ?_;intro w4 hg4 hb4)
  | fail)
 have K4:AZ w4 wa.heap.size 193 (yA (V9 seed k 0)):=by have h:_=_:=hg4;rw [<-cW,show splice (zeros 36) 0 seed=V9 seed k 0 by simp [splice,V9,zeros,HS.o]] at h;exact h
 have KA:=AA K4;have KR4:=AA (KR.o.drew.below hb4 Pc);have HB4:=AA (HB.o.drew.trans (hb4.mono Pc));clear hg4 hb4 K4;go_wp2_with fail;go_loopg [10] 4 (fun q i wr=>∃j:Nat,j<=4/\q=4 - j/\i=AE AF j/\AZ wr (w.heap.size+1) 34 (yA (zeros 32))/\AZ wr wa.heap.size 193 (yA (V9 seed k j))/\AK w wr)
 case atStart=>exact ⟨0,Av _,rfl,rfl,KR4.o,KA.o,HB4.o⟩
 obtain ⟨j,hj,hq,rfl,h1,h2,h3⟩:=hrel;have HQ:=AA hq;have Nc:=AA h1;have KA5:=AA h2;have CP:=AA h3;have hl:=IB.o j;by_cases hlt:j < 4
 ·have fz:=h2.frozen (32+j)
  have c0:=Jr h2 (i:=32+j) AG;have X0:=AA (Wf h2 (32+j) (((k / 2 ^ (24 - 8*j) % 256:Nat)):Int));have Ml:=AA hlt;clear hq h1 h2 h3 HSR KA KR4 HB4;have hc:j=0\/j=1\/j=2\/j=3:=AG
  rcases hc with rfl | rfl | rfl | rfl
  ·go_wp2_with fail
   go_roundg (4 - (0+1))
   case measure=>exact BS
   refine ⟨1,by omega,rfl,rfl,Nc.o.far Ys _,?_,CP.o.setCell Yr _⟩;rw [show (k:Int) / 16777216=((k / 16777216 % 256:Nat):Int) by omega];exact X0.o
  ·go_wp2_with fail
   go_roundg (4 - (1+1))
   case measure=>exact BS
   refine ⟨2,by omega,rfl,rfl,Nc.o.far Ys _,?_,CP.o.setCell Yr _⟩;rw [show (k:Int) / 65536=((k / 65536 % 256:Nat):Int) by omega];exact X0.o
  ·go_wp2_with fail
   go_roundg (4 - (2+1))
   case measure=>exact BS
   refine ⟨3,by omega,rfl,rfl,Nc.o.far Ys _,?_,CP.o.setCell Yr _⟩;rw [show (k:Int) / 256=((k / 256 % 256:Nat):Int) by omega];exact X0.o
  go_wp2_with fail;go_roundg (4 - (3+1))
  case measure=>exact BS
  refine ⟨4,by omega,rfl,rfl,Nc.o.far Ys _,?_,CP.o.setCell Yr _⟩;rw [show (k:Int) % 256=((k / 1 % 256:Nat):Int) by omega];exact X0.o
 have h4:j=4:=AG
 subst h4;clear hq h1 h2 h3 HSR KA KR4 HB4 hlt hl;go_wp2_with (first
  | (
   go_at_call 48;refine (HC.o _ _ CP.o KA5.o).mono ?_;rintro e w3 ⟨rfl,hb⟩;have U8:=AA (Nc.o.below hb Nc.o.lt);have Fu:=AA (AV CP.o hb);clear hb)
  | (refine DM rfl 34 (AY 4) (AY 24) rfl (w.heap.size+1) D rfl rfl 34 _ U8.o CY.o DU EM.o ?_;intro w7 k7 hb7))
 exact xr
attribute [local go_sem] Oper.semAt_some
theorem qJ (seed:AQ) (n:Int) (w:AH):AS prog 61 #[AP (yA seed),AE AF n] w fun e w'=>e=AU (.func (.func 84) #[] #[AW (some ⟨w.heap.size+1,0,none⟩),AW (some ⟨w.heap.size,0,none⟩)])/\w'=(w.alloc (AO (yA seed) 34)).alloc (AO #[AE AF n] 3):=by have hmf:∀(fn:Fn) (first cap:Array AN) (w:AH),(Instr.makeFunc fn first cap).run prog w=.ok (.func fn first cap) w:=fun _ _ _ _=>rfl;go_enter func61,ntmps61;go_wp2_with fail;go_ret;exact ⟨rfl,rfl⟩
theorem P9 {m:Nat}:Fence.wide.depth.isSome=true->1<=m:=fun h=>by cases h
def TB (A C:AH):Prop:=AK A C
theorem TB.others {A C:AH} (h:TB A C):KeepsOthers A C:=KeepsOthers.of_grownBy (row:=none) ⟨h.os,h.tape,h.output,h.size,fun k hk _=>h.block k hk⟩ (fun j o e ho=>by cases e)
structure KT (a b:Nat) (W W':AH):Prop where
 size:W.heap.size<=W'.heap.size
 fst:W'.heap[a]? =W.heap[a]?
 snd:W'.heap[b]? =W.heap[b]?
 tab:Ca W->Ca W'
def GP (seed:AQ) (n:Nat) (pre:List (AQ)) (x:AQ):Prop:=pre.length < n/\x=Ii Aw (LN Aw seed pre.length)
theorem AEF (m bm bs n:Nat) (seed:AQ) (w:AH) (hm:AZ w bm 3 #[AE AF n]) (hs:AZ w bs 34 (yA seed)) (hl:seed.length=32) (hn:n<=256) (hT:Ca w):
 AC1 Fence.wide m prog 84 #[AW (some ⟨bm,0,none⟩),AW (some ⟨bs,0,none⟩)] gI TB (KT bm bs) (GP seed n) (fun xs=>xs=Dq Aw seed n) w:=by
 intro lp J Jx Jp N W hW hJT tY hY h0;have HS:=AA (hs.below hW hs.lt);have MC:=hm.below hW hm.lt;have c0:=MC.cell 0;have f0:=MC.frozen 0;have l0:=MC.lt;simp only [Ak,Al] at c0;have HT:=AA (hT.below hW);have HL:=AA hl;have jb:=AA hJT;have HY:=AA hY;have WV:=AA h0;have CY:=AA Gm;clear hW hJT tY hY h0 hs hm hl hT MC;refine Et.2 ?_;go_enter func84,ntmps84;go_wp2_with fail;go_loopg [6] n (fun q i wr=>∃pre:List (AQ),pre.length<=n/\q=n - pre.length/\i=AE AF pre.length/\pre=(List.range pre.length).map (fun k=>Ii Aw (LN Aw seed k))/\J pre wr/\AZ wr bs 34 (yA seed)/\Ca wr)
 case atStart=>exact ⟨[],Av _,rfl,rfl,rfl,WV.o,HS.o,HT.o⟩
 obtain ⟨pre,hpn,hq,rfl,hpr,hj,hk,ht⟩:=hrel;have HPR:=AA hpr;have HQ:=AA hq;have HB:=AA hk;have R7:=AA ht;obtain ⟨k,hkk⟩:=Ad pre.length;rw [<-hkk];have HKK:=AA hkk;rw [<-hkk] at hpn;have Zp:=AA hj;clear hpr hq hk ht hj hkk;by_cases hlt:k < n
 ·have hk1:(k:Int) < (n:Int):=by omega
  obtain ⟨D,hD⟩:=Ad (LN Aw seed k);obtain ⟨x,hx⟩:=Ad (Ii Aw D);have EM:D.length=32:=by rw [hD,LN];exact C7 _ _
  have Kd:AI (∀W,AK wr W->AS prog 73 #[AP (yA seed),AE AF k] W (Dl D W)):=AA (fun W hW=>by rw [hD];exact mB seed k W HL.o AG (R7.o.below hW));have HC2:AI (∀W,AK wr W->AS prog 85 #[AP (yA D)] W (Dl x W)):=AA (fun W hW=>by rw [hx];exact uk D W EM (R7.o.below hW));have HX:AI (x=Ii Aw (LN Aw seed pre.length)):=AA (by rw [hx,hD,HKK.o]);have Ml:=AA hlt;clear EM hD hx;have hfn:∀g,Fence.wide.fn g:=fun _=>trivial;go_upto_region 3 with fail;refine (Dr (n:=m)).1 ?_
  gi_wp2_with (first
   | (refine If rfl 34 (AY 2) rfl bs seed rfl 34 _ HB.o underlying34 rfl CY.o HL.o ?_)
   | (
    refine ⟨P9,?_⟩
    gi_at_call 73
    refine (Et.2 (Kd.o _ (Ae _ _))).mono ?_;rintro e w3 ⟨rfl,hb⟩;have HB3:=AA hb;clear hb)
   | (
    refine ⟨P9,?_⟩
    gi_at_call 85
    refine (Et.2 (HC2.o _ HB3.o)).mono ?_;rintro e w4 ⟨rfl,hb⟩;have HB4:=AA (AV HB3.o hb);clear hb))
  obtain ⟨fn,tmps,assign,body,hy,hR⟩:=HY.o pre x w4 (jb.o _ _ _ Zp.o HB4.o) ⟨by rw [<-HKK.o];exact Ml.o,HX.o⟩
  dsimp only [gI] at hy
  have HR:=AA hR;clear hR;simp only [hy];refine ⟨P9,HR.o.mono ?_⟩;rintro e W' (⟨rfl,hJ',hk'⟩ | ⟨rfl,n8⟩ | ⟨ch,rfl,aT⟩)
  ·have HJ2:=AA hJ'
   have CP:AI (AZ W' bs 34 (yA seed)):=AA (hk'.snd.trans (HB.o.below HB4.o HB.o.lt));have HT5:AI (Ca W'):=AA (hk'.tab (R7.o.below HB4.o));clear hJ' hk' hy HR
   gi_wp2
   go_wp2_with fail;go_roundg (n - (k+1))
   case measure=>have:=HQ.o;have:=HKK.o;exact QH
   have hkk:=HKK.o;refine ⟨pre++[x],by rw [CQ,<-hkk];exact Ml.o,by rw [CQ,<-hkk];rfl,by rw [CQ,<-hkk];rfl,?_,HJ2.o,CP.o,HT5.o⟩;rw [CQ,<-hkk];show pre++[x]=(List.range (k+1)).map _;rw [PW,DE,hkk,<-HPR.o,HX.o];rfl
  ·have HJX:=AA n8
   clear n8 hy HR
   gi_wp2
   go_wp2_with fail
   first | go_end0 | refine Eu (results_none rfl _ _ _) rfl ?_
   exact .inl ⟨⟨_,rfl⟩,.inr HJX.o⟩
  · exact ⟨rfl,.inr ⟨ch,rfl,aT⟩⟩
 have hkn:k=n:=AG
 subst hkn;go_wp2_with fail
 go_end0
 exact .inl ⟨⟨_,rfl⟩,.inl ⟨pre,by rw [HPR.o,<-HKK.o];rfl,Zp.o⟩⟩
attribute [local go_sem] Oper.semAt_some
theorem mV {w w':AH} {base k:Nat} {e:Af} {size:Nat} {v:AN} {n:Nat} {xs:List AN} (h:w.ownsRow base e size v n xs) (b:Book k w w'):w'.ownsRow base e size v n xs:=by
 refine ⟨h.1,?_⟩;rcases h.2 with h2 | ⟨g,cap,cur,hv,hg,hh,r⟩
 · exact .inl h2
 · exact .inr ⟨g,cap,cur,hv,hg,(b.cells _ _ _ _ hh).trans hh,r⟩
theorem cM {w w':AH} {base:Nat} {e:Af} {size:Nat} {v:AN} {n:Nat} {xs:List AN} (h:w.ownsRow base e size v n xs) (hg:w.grownBy w' v.ownBlock):KeepsOthers w w':=KeepsOthers.of_grownBy hg (fun j o e2 ho=>by
 rcases h.2 with ⟨rfl,_⟩ | ⟨g,cap,cur,rfl,_,hh,_⟩
 · simp [Value.ownBlock] at e2
 simp only [Value.ownBlock,Bu] at e2;subst e2;rw [hh] at ho;cases ho;rfl)
theorem KT.trans {a b:Nat} {A B C:AH} (h:KT a b A B) (k:KT a b B C):KT a b A C:=⟨BH h.size k.size,k.fst.trans h.fst,k.snd.trans h.snd,fun t=>k.tab (h.tab t)⟩
theorem ML {W W':AH} (h0:W'.heap[0]? =W.heap[0]?) (hs:W.heap.size<=W'.heap.size) (t:Ca W):Ca W':=
 ⟨Au t.1 hs,fun i hi=>by have:=t.2 i hi;unfold World.cell? at this ⊢;rw [h0];exact this⟩
theorem KT.put {a b l:Nat} (W:AH) (o:Obj) (ha:a < l) (hb:b < l):KT a b W (W.putObj l o):=
 ⟨by simp [World.putObj],World.putObj_heap_other AG,World.putObj_heap_other AG,ML (World.putObj_heap_other AG) (by simp [World.putObj])⟩
theorem KT.grown {a b:Nat} {A C:AH} {row:Option Nat} (hg:A.grownBy C row) (ha:a < A.heap.size) (hb:b < A.heap.size) (na:some a≠row) (nb:some b≠row) (n0:some 0≠row):KT a b A C:=
 ⟨hg.size,hg.block a ha na,hg.block b hb nb,fun t=>ML (hg.block 0 t.1 n0) hg.size t⟩
def AHF (hb B:Nat) (l:List (AQ)) (W:AH):Prop:=∃v cs,AZ W hb 37 #[v]/\W.ownsRow B 34 32 v l.length cs/\Aq 32 CV W cs l
theorem wK (bm bs n:Nat) (seed:AQ) (w:AH) (hm:AZ w bm 3 #[AE AF n]) (hs:AZ w bs 34 (yA seed)) (hl:seed.length=32) (hn:n<=256) (hT:Ca w):
 AS prog 83 #[AB none 0 0,.func (.func 84) #[] #[AW (some ⟨bm,0,none⟩),AW (some ⟨bs,0,none⟩)]] w (R4 (Dq Aw seed n) w):=by
 have HL:=AA hl;have CY:=AA Gm;obtain ⟨j0,z0,hj⟩:=gJ;have HJ:=AA hj;have hml:=hm.lt;have hsl:=hs.lt;have h0l:=hT.1;have HM:=AA hm;have HS:=AA hs;have HT:=AA hT;clear hj hm hs hT hl;refine (Et (n:=8)).1 ?_;refine callsIn_of_wp_marks func83 rfl trivial ?_ rfl;simp only [ntmps83,RF,Gw,PU,Nat.reduceAdd,Nat.reduceSub,Ts,Tv,To,Tr,Jh,Ln];refine Dr.2 ?_;go_wp2_with fail;obtain ⟨k1,b1,s1⟩:=bx w #[AB none 0 0] 37;generalize hw2:w.alloc (AO #[AB none 0 0] 37)=w2 at k1 b1 s1 ⊢;have Mi:=AA (HM.o.below b1 hml);have HS2:=AA (HS.o.below b1 hsl);have HH:=AA k1;have HB:=AA b1;have HZ:=AA s1;have HT2:=AA (HT.o.below b1);clear k1 b1 s1 hw2;refine (Dr (n:=8)).1 ?_;refine UU (gf:=84) (lb:=#[AW (some ⟨bm,0,none⟩),AW (some ⟨bs,0,none⟩)]) rfl (enters_of func84 AJ rfl)
  (AEF 7 bm bs n seed w2 Mi.o HS2.o HL.o hn HT2.o) (fun _=>rfl) n
  (fun pre W=>AHF w.heap.size (w.heap.size+1) pre W/\pre.length<=n/\AK w W/\w.heap.size+1<=W.heap.size)
  (fun _=>False)
  (fun s A C h t=>⟨by obtain ⟨v,cs,h1,h2,h3⟩:=h.1;exact ⟨v,cs,h1.below t (by have:=h.2.2.2;omega),EW h2 t,Ij h3⟩,h.2.1,AV h.2.2.1 t,BH h.2.2.2 t.size⟩)
  (fun s A C h b=>⟨by obtain ⟨v,cs,h1,h2,h3⟩:=h.1;exact ⟨v,cs,F4 h1 b,mV h2 b,Ij h3⟩,h.2.1,Below.book h.2.2.1 b UI,BH h.2.2.2 b.size⟩)
  (fun A C h b=>h.elim)
  (fun s A h=>h.2.1) (fun A C h=>h.others) (fun A B C h k=>h.trans k) (fun W l o o' hl h ho=>KT.put W o' UI UI)
  ⟨⟨_,[],HH.o,Ev _ _ _ _,Aq.nil⟩,Av _,HB.o,by have:=HZ.o;omega⟩
  (fun x a' W=>∃Bx,w.heap.size+1<=Bx/\AZ W Bx 34 (yA x)/\a'={tmps:=#[AB none 0 0,.func (.func 84) #[] #[AW (some ⟨bm,0,none⟩),AW (some ⟨bs,0,none⟩)],AW (some ⟨w.heap.size,0,none⟩),undef,AB none 0 0,AW (some ⟨Bx,0,none⟩),.func (.func 84) #[] #[AW (some ⟨bm,0,none⟩),AW (some ⟨bs,0,none⟩)],AP (yA x),undef,undef,undef,undef,undef],defers:=[]})
  (fun x a' A C h b=>by obtain ⟨Bx,h1,h2,h3⟩:=h;exact ⟨Bx,h1,F4 h2 b,h3⟩)
  ?assign ?body ?done ?ret
 case assign=>
  rintro lp pre x W K ⟨⟨v,cs,h1,h2,h3⟩,h4,h5,h6⟩ hG hK;have H9:AI (x.length=32):=AA (by rw [hG.2,Ii,JB];exact C7 _ _);have HKK:=AA hK;have hzb:=Iq W 34;have HO:=AA h2;have HC:=AA h3;have KH:=AA h1;have CP:=AA h5;clear hK hG h1 h2 h3 h5
  dsimp only [gI]
  gi_wp2_with (refine JQ rfl 34 (AY 5) (AY 7) rfl W.heap.size x rfl rfl 34 (yA (zeros 32)) hzb.1 CY.o DU H9.o ?_;intro w4 k4 hb4 hg4)
  have hne:∀b,b < W.heap.size->some b≠some W.heap.size:=fun b hb e=>by injection e with e;omega
  have hB5:=CP.o.size;refine HKK.o _ _ ((KeepsOthers.alloc _ _).trans (TE.others ⟨hg4,_,_,_,hzb.1⟩)) ((KT.grown (EQ W _ none) AG AG AX AX AX).trans (KT.grown hg4 BN BN (hne _ AG) (hne _ AG) (hne _ AG)))
   ⟨⟨v,cs,(KH.o.alloc _).grown hg4 (hne _ AG),(HO.o.alloc _).kept hg4 (.inr rL),Ij HC.o⟩,h4,(CP.o.alloc CP.o.size _).trans (hb4.mono CP.o.size),by have:=hg4.size;simp at this;omega⟩ ⟨W.heap.size,h6,k4,rfl⟩
 case body=>
  rintro lp pre x a' W ⟨⟨v,cs,h1,h2,h3⟩,h4,h5,h6⟩ hG ⟨Bx,hBx,hbx,rfl⟩;have hXL:x.length=32:=by rw [hG.2,Ii,JB];exact C7 _ _
  have H9:=AA hXL;obtain ⟨rA,rc,rfl⟩:=CG h2;have c0:=h1.cell 0;have f0:=h1.frozen 0;have l0:=h1.lt;simp only [Ak,Al] at c0;have KH:=AA h1;have KX:=AA hbx;have HO:=AA h2;have HC:=AA h3;have CP:=AA h5;have HG:=AA hG;have hys:(yA x).size=32:=by rw [B9,hXL]
  have hfl:=Ut x hXL;clear h1 h2 h3 h5 hbx hG hXL
  gi_wp2_with (first
   | (refine If rfl 34 (AY 5) rfl Bx x rfl 34 _ KX.o underlying34 rfl CY.o H9.o ?_)
   | (
    gi_at_builtin;refine wpListIn_append_own_at _ rfl (AY 8) (AY 10) 37 rfl (w.heap.size+1) 34 j0 z0 32 32 underlying37 HJ.o.1 HJ.o.2.1 HJ.o.2.2.2.1 HJ.o.2.2.2.2 HJ.o.2.2.1 Ah _ _ _ rfl (HO.o.alloc _) ⟨W.heap.size,0,none⟩ 1 1 (x.map (Value.int .u8)) rfl (by rw [Cb,H9.o]) (tg (AZ.new W 34 (yA x))) (Yz x) FN AG BN ?_
    intro v' w5 GK hg5 _ _;obtain ⟨rA',rc',rfl⟩:=CG GK;have k5:=(KH.o.alloc (AO (yA x) 34)).grown hg5 (DX HO.o AG);have f5:=k5.frozen 0;have c5:=k5.cell 0;simp only [Ak,Al] at c5;have l5:=k5.lt;have K5:=AA k5;have X4:=AA GK;have X6:=AA hg5;clear k5 GK hg5))
  have hb5:=CP.o.size;have hne:∀b,b < w.heap.size+1->some b≠(Value.slice rA pre.length rc).ownBlock:=fun b hb=>DX HO.o hb;have h0:=X6.o.size;rw [Ee] at h0;have hb7:AK w w5:=(CP.o.alloc CP.o.size _).grown X6.o BN (fun r hr=>by have:=(HO.o.lt r hr).1;omega);refine ⟨(KeepsOthers.alloc _ _).trans ((cM (HO.o.alloc _) X6.o).trans (KeepsOthers.setCell _ _ _)),
   ((KT.grown (EQ W _ none) AG AG AX AX AX).trans (KT.grown X6.o BN BN (hne _ AG) (hne _ AG) (hne _ AG))).trans (KT.grown (grownBy_setCell' _ _ _) AG AG D7 D7 D7),
   ⟨_,cs++x.map (Value.int .u8),K5.o.put 0 _,?_,?_⟩,?_,hb7.setCell (Ac _) _,by omega⟩
  ·rw [CQ]
   exact Ew X4.o (Ib _) _
  · exact (Ij HC.o).append (Aq.one (by rw [Cb,H9.o]) ⟨rfl,H9.o⟩)
  · exact HG.o.1
 case done=>rintro D xs W hD rfl ⟨⟨v,cs,h1,h2,h3⟩,h4,h5,h6⟩ hdf;obtain ⟨rA,rc,rfl⟩:=CG h2;have c0:=h1.cell 0;simp only [Ak,Al] at c0;have HO:=AA h2;have HC:=AA h3;have CP:=AA h5;have X7:=AA hdf;have HZD:=AA hD;clear h1 h2 h3 h5 hdf hD;go_wp2_with fail;refine ⟨by simp,.inl ⟨_,_,rfl,run_takeDeferred X7.o,?_⟩⟩;have HK:=belowK_b (w:=w2) (n₀:=w.heap.size) UI W D _ (.deferred none) HZD.o X7.o rfl rfl;exact ⟨_,results_tmp rfl _ _ _,⟨_,cs,rfl,Nq (ownsRow_putObj HO.o _ X7.o rfl) (Ff _),Ij HC.o,CP.o.trans HK⟩⟩
 case ret=>exact fun D W _ h _=>h.elim
theorem oO (bm bs n:Nat) (seed:AQ) (w:AH) (hm:AZ w bm 3 #[AE AF n]) (hs:AZ w bs 34 (yA seed)) (hl:seed.length=32) (hn:n<=256) (hT:Ca w):
 AS prog 60 #[.func (.func 84) #[] #[AW (some ⟨bm,0,none⟩),AW (some ⟨bs,0,none⟩)]] w (R4 (Dq Aw seed n) w):=by
 have HC:=AA (wK bm bs n seed w hm hs hl hn hT);clear hm hs hl hT;go_enter func60,ntmps60;go_wp2_with (go_at_call 83;refine HC.o.mono ?_;rintro e w2 ⟨v,cs,rfl,ho,hc,hb⟩;have HO:=AA ho;have HC2:=AA hc;have HB:=AA hb;clear ho hc hb);go_ret;exact ⟨v,cs,rfl,HO.o,HC2.o,HB.o⟩
theorem XD (seed:AQ) (n:Int) (w:AH) (hl:seed.length=32) (h1:1<=n) (hn:n<=256) (hT:Ca w):
 AS prog 34 #[AP (yA seed),AE AF n] w (ke (Dq Aw seed n.toNat) 0 w):=by
 obtain ⟨n,rfl⟩:∃k:Nat,n=k:=⟨n.toNat,by omega⟩;rw [Cm];have HL:=AA hl;have CY:=AA Gm;have HC:AI (∀W,AK w W->AS prog 60 #[.func (.func 84) #[] #[AW (some ⟨W.heap.size+1,0,none⟩),AW (some ⟨W.heap.size,0,none⟩)]] ((W.alloc (AO (yA seed) 34)).alloc (AO #[AE AF n] 3)) (R4 (Dq Aw seed n) ((W.alloc (AO (yA seed) 34)).alloc (AO #[AE AF n] 3)))):=AA (fun W hW=>by obtain ⟨k1,b1,s1⟩:=bx W (yA seed) 34;obtain ⟨k2,b2,s2⟩:=bx (W.alloc (AO (yA seed) 34)) #[AE AF n] 3;rw [s1] at k2 b2;exact oO _ _ n seed _ k2 (k1.below b2 AG) hl AG ((hT.below (AV hW b1)).below (by show BI (W.alloc (AO (yA seed) 34)).heap.size _ _;rw [s1];exact b2)))
 have h1':¬(n:Int) < 1:=AG
 have h2':¬(256:Int) < (n:Int):=AG
 clear hl hT;go_enter func34,ntmps34;go_upto_region 1 with fail;obtain ⟨k1,b1,s1⟩:=bx w (yA seed) 34;generalize (w.alloc (AO (yA seed) 34))=w0 at k1 b1 s1 ⊢;have KS:=AA k1;have HB:=AA b1;clear k1 b1 s1;go_wp2_with (first
  | (refine CT rfl 34 (AY 2) rfl w.heap.size seed rfl 34 _ KS.o underlying34 rfl CY.o HL.o ?_)
  | (go_at_call 61;refine (qJ _ _ _).mono ?_;rintro e w2 ⟨rfl,rfl⟩)
  | (go_at_call 60;refine (HC.o _ HB.o).mono ?_;rintro e w2 ⟨v,cs,rfl,ho,hc,hb⟩;have HO:=AA ho;have HC2:=AA hc;have HB2:=AA hb;clear ho hc hb))
 go_ret2;have hs:=HB.o.size;refine ⟨v,cs,rfl,Nq HO.o BN,HC2.o,HB.o.trans (Below.mono ?_ hs)⟩;exact ((BE _ _).alloc AX _).trans (HB2.o.mono BN)
theorem mH (seed:AQ) (n:Int) (w:AH) (hl:seed.length=32) (h1:1<=n) (hn:n<=256) (hT:Ca w):
 AS prog 12 #[AP (yA seed),AE AF n] w (Y6 (M7 Aw seed n.toNat) 0 w):=by
 have HL:=AA hl;have CY:=AA Gm;obtain ⟨P,hP⟩:=Ad (Dq Aw seed n.toNat);obtain ⟨D,hD⟩:=Ad (M7 Aw seed n.toNat);have EM:AI (D.length=32):=AA (by rw [hD];exact MK _);have tW:P.length=n.toNat:=by rw [hP];exact Rk Aw seed _
 have HC:AI (∀W,AK w W->AS prog 34 #[AP (yA seed),AE AF n] W (ke P 0 W)):=AA (fun W hW=>by rw [hP];exact XD seed n W hl h1 hn (hT.below hW));have HT:AI (∀(A:Option Addr) (m c:Nat) W,AK w W->Ag 32 CV W (AB A m c) P->AS prog 35 #[AB A m c] W (Dl D W)):=AA (fun A m c W hW hs=>by rw [hD,M7,<-hP];exact Zy m A m c P W (Ac _) (by rw [hs.len,tW];omega) (hT.below hW) hs)
 rw [<-hD];clear hl hT hP hD tW;go_enter func12,ntmps12;go_upto_region 1 with fail;obtain ⟨k1,b1,s1⟩:=bx w (yA seed) 34;have hq:=Iq (w.alloc (AO (yA seed) 34)) 34;generalize (w.alloc (AO (yA seed) 34))=w0 at hq k1 b1 s1 ⊢;rw [s1] at hq;generalize (w0.alloc _)=wa at hq ⊢;obtain ⟨kr,hba,hza⟩:=hq;have KS:=AA (k1.below hba AG);have KR:=AA kr;have HB:=AA (b1.trans (hba.mono AG));clear s1 b1 hba k1 kr hza;go_wp2_with (first
  | (refine CT rfl 34 (AY 2) rfl w.heap.size seed rfl 34 _ KS.o underlying34 rfl CY.o HL.o ?_)
  | (
   go_at_call 34;refine (HC.o _ HB.o).mono ?_;rintro e w2 ⟨v,cs,rfl,ho,hc,hb⟩;have hsl:=AEf ho hc rfl;obtain ⟨rA,rc,rfl⟩:=CG ho;have HSL:=AA hsl;have NJ:=AA (KR.o.below hb KR.o.lt);have HB2:=AA (AV HB.o hb);clear ho hc hb hsl)
  | (
   go_at_call 35;refine (HT.o _ _ _ _ HB2.o HSL.o).mono ?_;rintro e w3 ⟨rfl,hb⟩;have Qm:=AA (NJ.o.below hb NJ.o.lt);have HB3:=AA (AV HB2.o hb);clear hb)
  | (refine DM rfl 34 (AY 4) (AY 18) rfl (w.heap.size+1) D rfl rfl 34 _ Qm.o CY.o DU EM.o ?_;intro w4 k4 hb4))
 exact Wv (.inl rfl) rfl rfl rfl rfl k4 underlying34 rfl CY.o EM.o (HB3.o.trans (hb4.mono (Ff _)))
section
variable {P:BA} {md:Region.Mode} {ops:Array Oper} {Q:Exit->Act->AH->Prop} {S:AH->Prop} {fuel:Nat} {listed:Array Bool} {l:List AN} {D:List Deferred} {w:AH}
theorem Sd {id:Nat} {a:Act} (S:AH->Prop) (n:Nat) (L:Array Bool) (hm:P.follows .mixedOrders=true) (hn:ops.size=n) (hL:Array.replicate n false=L) (h:wpAnyH P .any ops Q S n L a w.drew):(Code.region id ops true).wp P Q a w:=by subst hn hL;exact wp_region_held hm h
abbrev Wt (md:Region.Mode) (ops:Array Oper) (listed:Array Bool) (i:Nat):Bool:=Region.noSelect ops && (Region.free md ops listed i && (Region.ready md ops listed).contains i)
theorem M8 {d:Nat} {v:AN}:(⟨l.toArray,D⟩:Act).put (some d) v=⟨(l.set d v).toArray,D⟩:=by simp [Act.put]
theorem C9 (i d:Nat) {oi:Oper} {v:AN} (hB:Wt md ops listed i=true) (hi:ops[i]? =some oi) (hd:oi.dst=some d) (hQ:∀c (a:Act) d v w,Q (.panic c) (a.put (some d) v) w->Q (.panic c) a w) (hS:S w)
 (hw:Region.wanted oi (yielded ops l.toArray)=true) (hv:∀w,S w->(execOp (Act.eval ⟨l.toArray,D⟩) oi).run P w=.ok (.value v) w)
 (h:wpAnyH P md ops Q S fuel (listed.setIfInBounds i true) ⟨(l.set d v).toArray,D⟩ w):wpAnyH P md ops Q S (fuel+1) listed ⟨l.toArray,D⟩ w:=by
 simp only [Bj] at hB;rw [<-M8,<-hd] at h;exact wpAnyH_take hi hB.1 hB.2.1 hB.2.2 (fun c a w hq=>by rw [hd] at hq;exact hQ c a _ _ w hq) (.inl ⟨hw,hv⟩) hS h
theorem rgM (i d t:Nat) {oi:Oper} {v:AN} (hB:Wt md ops listed i=true) (hi:ops[i]? =some oi) (hd:oi.dst=some d) (hQ:∀c (a:Act) d v w,Q (.panic c) (a.put (some d) v) w->Q (.panic c) a w) (hS:S w)
 (hw:Region.wanted oi (yielded ops l.toArray)=true) (ho:oi.op=.move (AY t)\/oi.op=.assign (AY t)) (hv:l[t]? =some v)
 (h:wpAnyH P md ops Q S fuel (listed.setIfInBounds i true) ⟨(l.set d v).toArray,D⟩ w):wpAnyH P md ops Q S (fuel+1) listed ⟨l.toArray,D⟩ w:=by
 refine C9 i d hB hi hd hQ hS hw (fun W _=> ?_) h;have e:Act.eval ⟨l.toArray,D⟩ (AY t)=v:=by simp [Act.eval,hv]
 unfold execOp;rcases ho with ho | ho
 · rw [ho];simp [e]
 · rw [ho];simp [e]
theorem FR (i d:Nat) {oi:Oper} (hB:Wt md ops listed i=true) (hi:ops[i]? =some oi) (hd:oi.dst=some d) (hQ:∀c (a:Act) d v w,Q (.panic c) (a.put (some d) v) w->Q (.panic c) a w) (hS:S w)
 (hw:Region.wanted oi (yielded ops l.toArray)=false)
 (h:wpAnyH P md ops Q S fuel (listed.setIfInBounds i true) ⟨(l.set d undef).toArray,D⟩ w):wpAnyH P md ops Q S (fuel+1) listed ⟨l.toArray,D⟩ w:=by
 simp only [Bj] at hB;rw [<-M8,<-hd] at h;exact wpAnyH_take hi hB.1 hB.2.1 hB.2.2 (fun c a w hq=>by rw [hd] at hq;exact hQ c a _ _ w hq) (.inr ⟨hw,rfl⟩) hS h
theorem tF (i:Nat) {o:Oper} {a:Act} (hr:Region.ready md ops listed=[i]) (hi:ops[i]? =some o) (hg:o.guard=none)
 (h:o.wp P a w (fun a' w'=>S w'/\wpAnyH P md ops Q S fuel (listed.setIfInBounds i true) a' w') Q):wpAnyH P md ops Q S (fuel+1) listed a w:=by
 refine wpAnyH_all hr AX fun j hj=> ?_;obtain rfl:j=i:=by simpa using hj
 unfold wpOp;rw [hi];have hw:Region.wanted o (yielded ops a.tmps)=true:=by simp [Region.wanted,hg]
 simp only [hw,C5];exact .inl h
theorem WB (i d:Nat) {o:Oper} {f:FuncId} {xs:Array Operand} {ts:Array Af} {args:Array AN} {R:Ending->AH->Prop} (hr:Region.ready md ops listed=[i]) (hi:ops[i]? =some o) (hd:o.dst=some d) (hg:o.guard=none)
 (ho:o.op=.call {callee:=.value (.func f),args:=xs,argTypes:=ts}) (he:Enters P f) (hc:AS P f args w R) (ha:xs.toList.map (Act.eval ⟨l.toArray,D⟩)=args.toList)
 (h:∀e w',R e w'->∃v,e=AU v/\S w'/\wpAnyH P md ops Q S fuel (listed.setIfInBounds i true) ⟨(l.set d v).toArray,D⟩ w'):wpAnyH P md ops Q S (fuel+1) listed ⟨l.toArray,D⟩ w:=by
 refine tF i hr hi hg ?_;have e:xs.map (Act.eval ⟨l.toArray,D⟩)=args:=by apply Tl.1;rw [Q9];exact ha
 have hex:(execOp (Act.eval ⟨l.toArray,D⟩) o).run P w=.ok (.enter f args) w:=by unfold execOp;rw [ho];simp [resolve,Act.eval,Deferred.ofValue,invoke,<-e];exact he _ w
 exact xu
theorem rgS (i:Nat) {o:Oper} (ty:Af) (x y:Operand) (g off:Nat) (cells:Array AN) (hr:Region.ready md ops listed=[i]) (hi:ops[i]? =some o) (hd:o.dst=none) (hg:o.guard=none) (ho:o.op=.store ty x y)
 (hx:Act.eval ⟨l.toArray,D⟩ x=AW (some ⟨g,off,none⟩)) (hy:Act.eval ⟨l.toArray,D⟩ y=.agg cells) {n:Nat} (hn:cells.size=n) (ht:w.there g off n) (hs:(P.info? ty).map (·.size)=some n) (h1:cells.all (·.oneCell')=true)
 (hS:S (w.setCells g off cells.toList)) (h:wpAnyH P md ops Q S fuel (listed.setIfInBounds i true) ⟨l.toArray,D⟩ (w.setCells g off cells.toList)):wpAnyH P md ops Q S (fuel+1) listed ⟨l.toArray,D⟩ w:=
 tF i hr hi hg (wp_store_mid ty x y ho g off cells hx hy (hn ▸ ht) (hn ▸ hs) h1 (by rw [hd];exact ⟨hS,h⟩))
end
theorem run_load {P:BA} {W:AH} {r:AN} {o:Oper} {a:Act} {x:Operand} {t:Af} (h:(Instr.loadAt t (a.eval x)).run P W=.ok r W) (ho:o.op=.load t x:=by rfl):(execOp a.eval o).run P W=.ok (.value r) W:=by unfold execOp;simp [ho,h]
theorem Yx {P:BA} {W:AH} {o:Oper} {a:Act} {t:Af} {parts:Array (Nat×Operand)} {cells:Array AN} (h:P.built t (parts.toList.map fun p=>(p.1,a.eval p.2))=some cells) (ho:o.op=.build t parts:=by rfl):(execOp a.eval o).run P W=.ok (.value (.agg cells)) W:=by have hb:(Instr.build t (parts.map fun x=>match x with | (i,x)=>(i,a.eval x))).run P W=.ok (.agg cells) W:=run_build W t _ cells (by rw [Q9];exact h);unfold execOp;rw [ho];simp only [Ck,DC,hb,Result.andThen_ok]
end Go.Proofs.YtamhoilkpppdbaaGreatDoor
