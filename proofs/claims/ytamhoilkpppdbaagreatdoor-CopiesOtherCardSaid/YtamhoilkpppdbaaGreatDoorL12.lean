import Derived.Test.YtamhoilkpppdbaaGreatDoorL10
namespace Go.Proofs.YtamhoilkpppdbaaGreatDoor
set_option maxHeartbeats 8000000
set_option maxRecDepth 100000
open Go renaming World→AH, Value→AN, TypeId→Ae, Program→BE, Addr→Aa
open Go.RowKit renaming Below→BL
open Go.Proofs.Tryz
open Go.Value renaming slice→AA, int→AB, pointer→AU, agg→AP
open Go.IntKind renaming i64→AE
open Go.Obj renaming cells→AO
open Go.Operand renaming tmp→AX
open Go.RowKit
section
variable {P:BE} {ops:Array Oper} {Q:Exit->Act->AH->Prop}
theorem wpOp_mono {i:Nat} {K K':Act->AH->Prop} (hk:∀a w,K a w->K' a w) {a:Act} {w:AH} (h:wpOp P ops Q i K a w):wpOp P ops Q i K' a w:=by
 unfold wpOp at h ⊢;split at h
 · exact hk _ _ h
 rename_i o ho
 split at h
 ·rename_i hw
  rw [Ak hw];rcases h with h | h
  ·left
   unfold Oper.wp Oper.upon at h ⊢;split at h
   all_goals first
    | exact hk _ _ h
    | exact h
    | (
     refine Calls.mono h ?_;intro e w' hh;cases e <;> first | exact hk _ _ hh | exact hh)
    | exact Rows.mono h fun _ _ hh=>hk _ _ hh
  · exact .inr h
 rename_i hw
 rw [Ah hw];exact hk _ _ h
theorem iC {i:Nat} {o:Oper} {K:Act->AH->Prop} {a:Act} {w:AH} (ho:ops[i]? =some o) (hg:o.guard=none) (h:o.wp P a w K Q):wpOp P ops Q i K a w:=by
 unfold wpOp;rw [ho];exact AAH
end
open Go.Shelf
attribute [local go_sem] Oper.semAt_some
section
variable {P:BE} {md:Region.Mode} {ops:Array Oper} {Q:Exit->Act->AH->Prop} {S:AH->Prop} {fuel:Nat} {listed:Array Bool} {w:AH}
theorem rg2 (i j:Nat) {o o':Oper} {a:Act} (hr:Region.ready md ops listed=[i,j]) (hi:ops[i]? =some o) (hg:o.guard=none) (hj:ops[j]? =some o') (hg':o'.guard=none)
 (h:o.wp P a w (fun a' w'=>S w'/\wpAnyH P md ops Q S fuel (listed.setIfInBounds i true) a' w') Q) (h':o'.wp P a w (fun a' w'=>S w'/\wpAnyH P md ops Q S fuel (listed.setIfInBounds j true) a' w') Q):wpAnyH P md ops Q S (fuel+1) listed a w:=by
 refine wpAnyH_all hr AZ fun k hk=> ?_;simp only [B0,DX,DW] at hk;rcases hk with rfl | rfl
 · exact iC hi hg h
 · exact iC hj hg' h'
end
theorem dG {P:BE} {o:Oper} {l:List AN} {D:List Deferred} {w w':AH} {K:Act->AH->Prop} {Q:Exit->Act->AH->Prop} {v:AN} (d:Nat) (t:Ae) (n:Nat) (parts:Array (Nat×Operand)) (vs:Array (Nat×AN)) (ho:o.op=.buildSlice t n parts) (hd:o.dst=some d)
 (hp:parts.map (fun (i,x)=>(i,Act.eval ⟨l.toArray,D⟩ x))=vs) (h:(Instr.buildSlice t n vs).run P w=.ok v w') (hk:K ⟨(l.set d v).toArray,D⟩ w'):o.wp P ⟨l.toArray,D⟩ w K Q:=by
 unfold Oper.wp execOp;simp only [ho,hp,Cp,DL,h,Result.andThen_ok];show K (Act.put ⟨l.toArray,D⟩ o.dst v) w';rw [hd,Lx];exact hk
theorem wM {P:BE} {o:Oper} {a:Act} {w w':AH} {K:Act->AH->Prop} {Q:Exit->Act->AH->Prop} (ty:Ae) (x y:Operand) (p v:AN) (ho:o.op=.store ty x y) (hd:o.dst=none) (hx:a.eval x=p) (hy:a.eval y=v) (h:(Instr.storeAt ty p v).run P w=.ok () w') (hk:K a w'):o.wp P a w K Q:=by unfold Oper.wp execOp;simp only [ho,hx,hy,Cp,DL,h,Result.andThen_ok];show K (a.put o.dst undef) w';rw [hd];exact hk
section
variable {P:BE} {md:Region.Mode} {ops:Array Oper} {Q:Exit->Act->AH->Prop} {S:AH->Prop} {fuel:Nat} {listed:Array Bool} {l:List AN} {D:List Deferred} {w w':AH}
theorem ADK (i d:Nat) {o:Oper} {v:AN} (t:Ae) (n:Nat) (parts:Array (Nat×Operand)) (vs:Array (Nat×AN)) (hr:Region.ready md ops listed=[i]) (hi:ops[i]? =some o) (hd:o.dst=some d) (hg:o.guard=none) (ho:o.op=.buildSlice t n parts)
 (hp:parts.map (fun (i,x)=>(i,Act.eval ⟨l.toArray,D⟩ x))=vs) (h:(Instr.buildSlice t n vs).run P w=.ok v w') (hS:S w') (hk:wpAnyH P md ops Q S fuel (listed.setIfInBounds i true) ⟨(l.set d v).toArray,D⟩ w'):wpAnyH P md ops Q S (fuel+1) listed ⟨l.toArray,D⟩ w:=
 oh i hr hi hg (dG d t n parts vs ho hd hp h ⟨hS,hk⟩)
theorem Xf (i:Nat) {o:Oper} (ty:Ae) (a b:Nat) (p v:AN) (hr:Region.ready md ops listed=[i]) (hi:ops[i]? =some o) (hd:o.dst=none) (hg:o.guard=none) (ho:o.op=.store ty (AX a) (AX b))
 (hx:l[a]? =some p) (hy:l[b]? =some v) (h:(Instr.storeAt ty p v).run P w=.ok () w') (hS:S w') (hk:wpAnyH P md ops Q S fuel (listed.setIfInBounds i true) ⟨l.toArray,D⟩ w'):wpAnyH P md ops Q S (fuel+1) listed ⟨l.toArray,D⟩ w:=
 oh i hr hi hg (wM ty (AX a) (AX b) p v ho hd gD (by simp [Act.eval,hy]) h ⟨hS,hk⟩)
end
def AK5 {α β:Type} (F:α->β->Act) (G:α->β->AH->Prop):Exit->Act->AH->Prop
 | .normal,a',w'=>∃x y,a'=F x y/\G x y w'
 | _,_,_=>False
theorem AGG {P:BE} {c:Code} {Q:Exit->Act->AH->Prop} {a:Act} {w:AH} {α β:Type} (F:α->β->Act) (G:α->β->AH->Prop) (h1:c.wp P (AK5 F G) a w) (h2:∀x y w',G x y w'->Q .normal (F x y) w'):c.wp P Q a w:=
 Code.wp_mono (fun e a' w' h=>by
  cases e with
  | normal=>obtain ⟨x,y,rfl,hg⟩:=h;exact h2 x y w' hg
  | _=>exact h.elim) h1
theorem AG6 {W:AH} {g:Nat} {t:Ae} {d:AQ} (h:AY W g t (yA d)) (hd:d.length=32):Ag 32 CP W (AA (some ⟨g,0,none⟩) 1 1) [d]:=by
 refine ⟨_,1,rfl,Ac _,by decide,fun i x hi=> ?_⟩;rcases i with _ | i
 ·injection hi with hi
  subst hi;exact ⟨g,0,_,rfl,h.lt,by rw [CY,hd],fun j u hu=>by rw [h.cell,yA,Aj];simpa using hu,rfl,hd⟩
 · simp at hi
theorem vH (W:AH) (x:Int):(Instr.buildSlice 30 1 #[(0,AB AE x)]).run prog W=.ok (AA (some ⟨W.heap.size,0,none⟩) 1 1) (W.alloc (AO #[AB AE x] 3)):=by go_simp
theorem AGX (W:AH) {d:AQ} (h:d.length=32):(Instr.buildSlice 37 1 #[(0,AP (yA d))]).run prog W=.ok (AA (some ⟨W.heap.size,0,none⟩) 1 1) (W.alloc (AO (yA d) 34)):=by rw [PD h];kernel_rfl
theorem vF (W:AH) (g o:Nat) (v:AN) (a:Option Aa) (b c:Nat) (h:W.cell? ⟨g,o,none⟩=some v) (hf:W.frozen? ⟨g,o,none⟩=false):(Instr.storeAt 30 (AU (some ⟨g,o,none⟩)) (AA a b c)).run prog W=.ok () (W.setCell ⟨g,o,none⟩ (AA a b c)):=by go_simp
theorem vG (W:AH) (g o:Nat) (v:AN) (a:Option Aa) (b c:Nat) (h:W.cell? ⟨g,o,none⟩=some v) (hf:W.frozen? ⟨g,o,none⟩=false):(Instr.storeAt 37 (AU (some ⟨g,o,none⟩)) (AA a b c)).run prog W=.ok () (W.setCell ⟨g,o,none⟩ (AA a b c)):=by go_simp
theorem AGU (s:JS) (hh:s.holder.length=32) (ht:s.token.length=32) (v u:AN):((JW s).setIfInBounds 72 v).setIfInBounds 73 u=JW {s with links:=v,tokens:=u}:=by
 rw [dV,dV];have h:=G0 hh ht;have e:Em {s with links:=v,tokens:=u}=Em s:=rfl;rw [e];apply R3;intro i;rw [R9,R9,Array.getElem?_append,Array.getElem?_append];simp only [Array.size_setIfInBounds,OY,h];rcases Nat.lt_trichotomy i 72 with c | rfl | c
 · rw [Ah AG,Ah AG,Ak c,Ak c]
 · simp
 rw [Ah (by omega:¬i < 72),Ah (by omega:¬i < 72),Ah (by omega:¬72=i)];obtain rfl | rfl | rfl | c:i=73\/i=74\/i=75\/76<=i:=AG
 · simp
 · simp
 · simp
 · rw [Ah AG,NM Bd,NM Bd]
theorem ADW (v0 v1 v3 v4 v5 v6:AN) (A:Option Aa) (n c:Nat) (ns:List Nat) (k x:Nat) (s:JS) (w:AH) (hs:Ag 6 Kx w (AA A n c) ns) (hx:ns[k]? =some x) (hh:s.holder.length=32) (ht:s.token.length=32)
 (hsc:s.schema=k) (o1:s.fields.oneCell'=true) (o2:s.values.oneCell'=true) (o3:s.claims.oneCell'=true) (hli:FI s.link):
 Calls prog 47 #[AP #[v0,v1,AA A n c,v3,v4,v5,v6],AP (Em s)] w fun e w'=>∃L T,e=.returned (AP (JW {s with links:=L,tokens:=T,width:=(x:Int)+4+1,present:=(x:Int)+4}))/\
  Ag 1 Bt w' L (if 0<=s.link then [s.link] else [])/\Ag 32 CP w' T (if 0<=s.link then [s.token] else [])/\AK w w':=by
 have hk:k < n:=by rw [hs.len];exact (BF.1 hx).1
 have hk1:(k:Int) < (n:Int):=AG
 have hk0:=Int.natCast_nonneg k
 obtain ⟨b,off,x',x0,x1,x2,x3,C,cc,x5,rfl,hb,hx',hxl,hone,hcell⟩:=Nv hs hk;rw [hx] at hx';injection hx' with hx';subst hx';obtain ⟨Y,hY⟩:=Ad (Em s);obtain ⟨O,hO⟩:∃O,O=JW {s with links:=AA none 0 0,tokens:=AA none 0 0,width:=(x:Int)+4+1,present:=(x:Int)+4}:=⟨_,rfl⟩;rw [<-hY];have ALK:AI ((prog.info? 57).map (·.size)=some Y.size):=AF (by rw [hY,G0 hh ht];exact iH);have hos:O.size=76:=by rw [hO];exact P9 hh ht
 have aU:=AF hos;have Yi:AI ((prog.info? 96).map (·.size)=some O.size):=AF (by rw [hos];exact AC7);have HOL:AI (zeroCells96.size=O.size):=AF (by rw [hos];rfl);have Vo:AI (O.all (·.oneCell')=true):=AF (by rw [hO];exact Zg o1 o2 o3 rfl rfl);have Vv:AI (prog.built 96 [(0,.agg Y),(3,AB AE ((x:Int)+4+1)),(4,AB AE ((x:Int)+4))]=some O):=AF (by rw [hY,hO];exact AFH s hh ht _ _);have Ot:AI (∀W g,AY W g 57 Y->SwB W g s):=AF (fun W g h=>by rw [hY] at h;exact JO h hh ht);obtain ⟨HO,TL,ai⟩:=BB hO ht hh;clear hY hO hone hos;go_enter func47,ntmps47;go_upto_region 1 with fail;obtain ⟨k1,b1,s1⟩:=bx w #[v0,v1,AA (some ⟨b,off,none⟩) n c,v3,v4,v5,v6] 32;generalize (w.alloc (AO #[v0,v1,AA (some ⟨b,off,none⟩) n c,v3,v4,v5,v6] 32))=w1 at k1 b1 s1 ⊢;obtain ⟨k2,b2,s2⟩:=bx w1 Y 57;generalize (w1.alloc (AO Y 57))=w2 at k2 b2 s2 ⊢;obtain ⟨k3,b3,s3⟩:=bx w2 zeroCells96 96;generalize (w2.alloc (AO zeroCells96 96))=w3 at k3 b3 s3 ⊢;rw [s1] at k2 b2 s2;rw [s2] at k3 b3 s3;obtain ⟨K13,lN,K33,HB3⟩:=CD ((k1.below b2 AG).below b3 AG) (k2.below b3 AG) k3 ((b1.trans (b2.mono AG)).trans (b3.mono AG));have H3:AI (w3.heap.size=w.heap.size+1+1+1):=AF AG;clear k1 k2 k3 b1 b2 b3 s1 s2 s3;have d2:w3.cell? ⟨w.heap.size,2,none⟩=some (AA (some ⟨b,off,none⟩) n c):=K13.o.cell 2;have f2:w3.cell? ⟨w.heap.size+1,2,none⟩=some (AB AE k):=by rw [(Ot.o _ _ lN.o).schema,hsc]
 have f7:w3.cell? ⟨w.heap.size+1,38,none⟩=some (AB AE s.link):=(Ot.o _ _ lN.o).link;have e4:w3.cell? ⟨b,off+k*6+4,none⟩=some (AA C x cc):=(HB3.o.cell (p:=⟨b,off+k*6+4,none⟩) hb).trans (hcell 4 _ rfl);have hsz:(prog.info? 85).map (·.size)=some 6:=AJ
 clear hcell hs hsc;go_upto_region 2 with fail;have w1:IntKind.i64.wrap ((x:Int)+4)=(x:Int)+4:=Ca _ AG;have w2:IntKind.i64.wrap ((x:Int)+4+1)=(x:Int)+4+1:=Ca _ AG;go_upto_region 3 with (first
  | (refine Ci rfl 57 (AX 3) rfl (w.heap.size+1) AJ 57 Y (0,0) _ lN.o underlying57 rfl ALK.o ?_)
  | (refine wpList_buildTo rfl 96 _ rfl _ rfl O (Er (congrArg (prog.built 96) AJ) Vv.o) ?_)
  | (refine wpList_store_rowTo rfl 96 (AX 6) (AX 22) rfl rfl w3.heap.size O rfl rfl 96 zeroCells96 (World.alloc_heap_new _ _) Yi.o HOL.o Vo.o ?_)
  | fail)
 rw [World.setRow_alloc_new];obtain ⟨k4,b4,s4⟩:=bx w3 O 96;generalize (w3.alloc (AO O 96))=w4 at k4 b4 s4 ⊢;have h3:=H3.o;obtain ⟨vm,lK,K4,HB4⟩:=CD (lN.o.below b4 AG) (K33.o.below b4 AG) k4 (HB3.o.trans (b4.mono AG));have H4:AI (w4.heap.size=w.heap.size+1+1+1+1):=AF AG;have f7:w4.cell? ⟨w.heap.size+1,38,none⟩=some (AB AE s.link):=(Ot.o _ _ vm.o).link;rw [h3] at K4;rw [h3];clear k4 b4 s4 K13 lN K33 HB3 H3 h3 d2 f2 e4;by_cases hl0:0<=s.link
 ·go_upto_region 4 with fail
  have hd0:BL (w.heap.size+1+1+1) w4 w4.drew:=(Af _ _).drew;have HC:AI (∀W,BL (w.heap.size+1+1+1) w4 W->W.cell? ⟨w.heap.size+1,38,none⟩=some (AB AE s.link)/\(Instr.loadAt 34 (AU (some ⟨w.heap.size+1,39,none⟩))).run prog W=.ok (AP (yA s.token)) W):=AF (fun W hW=>by have b:=Ot.o _ _ (vm.o.below hW AG);exact ⟨b.link,Ei _ _ TL.o b.token⟩)
  have SI:∀W:AH,∃W' x,(Instr.buildSlice 30 1 #[(0,AB AE s.link)]).run prog W=.ok (AA (some ⟨x,0,none⟩) 1 1) W'/\AY W' x 3 #[AB AE s.link]/\AK W W'/\W.heap.size=x:=fun W=>⟨_,_,vH W s.link,(bx W _ _).1,(bx W _ _).2.1,rfl⟩;have SD:∀W:AH,∃W' x,(Instr.buildSlice 37 1 #[(0,AP (yA s.token))]).run prog W=.ok (AA (some ⟨x,0,none⟩) 1 1) W'/\AY W' x 34 (yA s.token)/\AK W W'/\W.heap.size=x:=fun W=>⟨_,_,AGX W TL.o,(bx W _ _).1,(bx W _ _).2.1,rfl⟩;have S7:∀(W:AH) (cs:Array AN) (x:Nat),AY W (w.heap.size+1+1+1) 96 cs->cs.size=76->∃W',(Instr.storeAt 30 (AU (some ⟨w.heap.size+1+1+1,72,none⟩)) (AA (some ⟨x,0,none⟩) 1 1)).run prog W=.ok () W'/\AY W' (w.heap.size+1+1+1) 96 (cs.setIfInBounds 72 (AA (some ⟨x,0,none⟩) 1 1))/\BL (w.heap.size+1+1+1) W W'/\∀g t cs',w.heap.size+1+1+1 < g->AY W g t cs'->AY W' g t cs':=fun W cs x k h=>⟨_,vF W _ 72 (cs[72]' AG) _ _ _ uY (k.frozen 72),k.put 72 _,(Af (w.heap.size+1+1+1) W).setCell (Ac (w.heap.size+1+1+1)) _,fun g t cs' hg kb=>kb.far (Nat.ne_of_gt hg) _⟩;have S9:∀(W:AH) (cs:Array AN) (x:Nat),AY W (w.heap.size+1+1+1) 96 cs->cs.size=76->∃W',(Instr.storeAt 37 (AU (some ⟨w.heap.size+1+1+1,73,none⟩)) (AA (some ⟨x,0,none⟩) 1 1)).run prog W=.ok () W'/\AY W' (w.heap.size+1+1+1) 96 (cs.setIfInBounds 73 (AA (some ⟨x,0,none⟩) 1 1))/\BL (w.heap.size+1+1+1) W W'/\∀g t cs',w.heap.size+1+1+1 < g->AY W g t cs'->AY W' g t cs':=fun W cs x k h=>⟨_,vG W _ 73 (cs[73]' AG) _ _ _ uY (k.frozen 73),k.put 73 _,(Af (w.heap.size+1+1+1) W).setCell (Ac (w.heap.size+1+1+1)) _,fun g t cs' hg kb=>kb.far (Nat.ne_of_gt hg) _⟩;have hsz:∀W,BL (w.heap.size+1+1+1) w4 W->w.heap.size+1+1+1<=W.heap.size:=fun W h=>by have:=h.size;have:=H4.o;omega
  have hlt:∀W,BL (w.heap.size+1+1+1) w4 W->w.heap.size+1+1+1 < W.heap.size:=fun W h=>by have:=h.size;have:=H4.o;omega
  have hge:=hlt;have Fs:prog.follows .mixedOrders=true:=AJ
  apply AGG (G:=fun (x' y':Nat) W=>AY W x' 3 #[AB AE s.link]/\AY W y' 34 (yA s.token)/\AY W (w.heap.size+1+1+1) 96 ((O.setIfInBounds 72 (AA (some ⟨x',0,none⟩) 1 1)).setIfInBounds 73 (AA (some ⟨y',0,none⟩) 1 1))/\BL (w.heap.size+1+1+1) w4 W/\w.heap.size+1+1+1 < x'/\w.heap.size+1+1+1 < y')
  ·have kO:AY w4.drew (w.heap.size+1+1+1) 96 O:=K4.o
   refine Pe (fun W=>BL (w.heap.size+1+1+1) w4 W) 10 _ Fs AJ rfl ?_;refine DP 0 26 AJ rfl rfl An hd0 rfl GV ?_;refine DP 1 27 AJ rfl rfl An hd0 rfl (by intro W hW;obtain ⟨e1,e2⟩:=HC.o W hW;(go_simp) <;> rfl) ?_;refine DP 3 29 AJ rfl rfl An hd0 rfl GV ?_;refine DP 4 30 AJ rfl rfl An hd0 rfl (v:=AP (yA s.token)) (fun W hW=>Cv rfl AJ (HC.o W hW).2) ?_;refine rg2 2 5 AJ rfl rfl rfl rfl ?_ ?_
   ·obtain ⟨W1,x1,r1,k1,b1,z1⟩:=SI w4.drew
    refine dG 28 30 1 _ #[(0,AB AE s.link)] rfl rfl AJ r1 ⟨hd0.trans (b1.mono (hsz _ hd0)),?_⟩;have s1:=hd0.trans (b1.mono (hsz _ hd0));have o1:=kO.below b1 (hlt _ hd0);refine DP 6 32 AJ rfl rfl An s1 rfl GV ?_;refine rg2 5 7 AJ rfl rfl rfl rfl ?_ ?_
    ·obtain ⟨W2,x2,r2,k2,b2,z2⟩:=SD W1
     refine dG 31 37 1 _ #[(0,AP (yA s.token))] rfl rfl AJ r2 ⟨s1.trans (b2.mono (hsz _ s1)),?_⟩;have s2:=s1.trans (b2.mono (hsz _ s1));have o2:=o1.below b2 (hlt _ s1);have i2:=k1.below b2 k1.lt;obtain ⟨W3,r3,k3,b3,g3⟩:=S7 W2 _ x1 o2 SC;refine Xf 7 30 32 28 _ _ AJ rfl rfl rfl rfl AJ AJ r3 (s2.trans b3) ?_;have s3:=s2.trans b3;have i3:=g3 _ _ _ (z1 ▸ hge _ hd0) i2;have e3:=g3 _ _ _ (z2 ▸ hge _ s1) k2;refine DP 8 33 AJ rfl rfl An s3 rfl GV ?_;obtain ⟨W4,r4,k4,b4,g4⟩:=S9 W3 _ x2 k3 SC;refine Xf 9 37 33 31 _ _ AJ rfl rfl rfl rfl AJ AJ r4 (s3.trans b4) ?_;have s4:=s3.trans b4;have i4:=g4 _ _ _ (z1 ▸ hge _ hd0) i3;have e4:=g4 _ _ _ (z2 ▸ hge _ s1) e3;refine Ed AJ ?_ _;simp only [CZ,Ch];exact ⟨x1,x2,rfl,i4,e4,k4,s4,z1 ▸ hge _ hd0,z2 ▸ hge _ s1⟩
    obtain ⟨W2,r2,k2,b2,g2⟩:=S7 W1 _ x1 o1 SC;refine wM 30 (AX 32) (AX 28) _ _ rfl rfl AJ AJ r2 ⟨s1.trans b2,?_⟩;have s2:=s1.trans b2;have i2:=g2 _ _ _ (z1 ▸ hge _ hd0) k1;obtain ⟨W3,x3,r3,k3,b3,z3⟩:=SD W2;refine ADK 5 31 37 1 _ #[(0,AP (yA s.token))] AJ rfl rfl rfl rfl AJ r3 (s2.trans (b3.mono (hsz _ s2))) ?_;have s3:=s2.trans (b3.mono (hsz _ s2));have o3:=k2.below b3 (hlt _ s2);have i3:=i2.below b3 i2.lt;refine DP 8 33 AJ rfl rfl An s3 rfl GV ?_;obtain ⟨W4,r4,k4,b4,g4⟩:=S9 W3 _ x3 o3 SC;refine Xf 9 37 33 31 _ _ AJ rfl rfl rfl rfl AJ AJ r4 (s3.trans b4) ?_;have s4:=s3.trans b4;have i4:=g4 _ _ _ (z1 ▸ hge _ hd0) i3;have e4:=g4 _ _ _ (z3 ▸ hge _ s2) k3;refine Ed AJ ?_ _;simp only [CZ,Ch];exact ⟨x1,x3,rfl,i4,e4,k4,s4,z1 ▸ hge _ hd0,z3 ▸ hge _ s2⟩
   obtain ⟨W1,x1,r1,k1,b1,z1⟩:=SD w4.drew;refine dG 31 37 1 _ #[(0,AP (yA s.token))] rfl rfl AJ r1 ⟨hd0.trans (b1.mono (hsz _ hd0)),?_⟩;have s1:=hd0.trans (b1.mono (hsz _ hd0));have o1:=kO.below b1 (hlt _ hd0);obtain ⟨W2,x2,r2,k2,b2,z2⟩:=SI W1;refine ADK 2 28 30 1 _ #[(0,AB AE s.link)] AJ rfl rfl rfl rfl AJ r2 (s1.trans (b2.mono (hsz _ s1))) ?_;have s2:=s1.trans (b2.mono (hsz _ s1));have o2:=o1.below b2 (hlt _ s1);have e2:=k1.below b2 k1.lt;refine DP 6 32 AJ rfl rfl An s2 rfl GV ?_;obtain ⟨W3,r3,k3,b3,g3⟩:=S7 W2 _ x2 o2 SC;refine Xf 7 30 32 28 _ _ AJ rfl rfl rfl rfl AJ AJ r3 (s2.trans b3) ?_;have s3:=s2.trans b3;have i3:=g3 _ _ _ (z2 ▸ hge _ s1) k2;have e3:=g3 _ _ _ (z1 ▸ hge _ hd0) e2;refine DP 8 33 AJ rfl rfl An s3 rfl GV ?_;obtain ⟨W4,r4,k4,b4,g4⟩:=S9 W3 _ x1 k3 SC;refine Xf 9 37 33 31 _ _ AJ rfl rfl rfl rfl AJ AJ r4 (s3.trans b4) ?_;have s4:=s3.trans b4;have i4:=g4 _ _ _ (z2 ▸ hge _ s1) i3;have e4:=g4 _ _ _ (z1 ▸ hge _ hd0) e3;refine Ed AJ ?_ _;simp only [CZ,Ch];exact ⟨x2,x1,rfl,i4,e4,k4,s4,z2 ▸ hge _ s1,z1 ▸ hge _ hd0⟩
  rintro x' y' W ⟨kI,kD,kO,hb,hx',hy'⟩;obtain ⟨O',VY⟩:=Ad ((O.setIfInBounds 72 (AA (some ⟨x',0,none⟩) 1 1)).setIfInBounds 73 (AA (some ⟨y',0,none⟩) 1 1));rw [<-VY] at kO;have hOs:=aU.o;have Lg:AI ((prog.info? 96).map (·.size)=some O'.size):=AF (by rw [VY];simpa using Yi.o);have TR:AI (zeroCells96.size=O'.size):=AF (by rw [VY];simpa using HOL.o);rw [HO.o,AGU _ (by exact ai.o) (by exact TL.o)] at VY;have Co:AI (O'.all (·.oneCell')=true):=AF (by rw [VY];exact Zg o1 o2 o3 rfl rfl);obtain ⟨rN,KO',KZ,KI,KD,CW⟩:=Fg VY kO (lK.o.below hb AG) kI kD (HB4.o.trans (hb.mono AG));clear VY kO hb kI kD hOs;go_wp2_with (first
   | (refine Ci rfl 96 (AX 6) rfl (w.heap.size+1+1+1) AJ 96 O' (0,0) _ KO'.o underlying96 rfl Lg.o ?_)
   | (refine wpList_store_rowTo rfl 96 (AX 4) (AX 34) rfl rfl (w.heap.size+1+1) O' rfl rfl 96 zeroCells96 KZ.o Lg.o TR.o Co.o ?_)
   | fail)
  refine FN (OV rfl _ _ (w.heap.size+1+1) 96 O' (0,0) _ rfl (KZ.o.row _) underlying96 rfl Lg.o) rfl ?_;rw [rN.o];exact ⟨_,_,rfl,Mv (l:=[s.link]) ((Gb _ _ _ _ AG).trans KI.o) (by intro z hz;rw [F5] at hz;rw [hz];exact hli) AZ,AG6 ((Gb _ _ _ _ AG).trans KD.o) TL.o,below_setRow CW.o AG _⟩
 go_wp2_with (first
  | (refine Ci rfl 96 (AX 6) rfl (w.heap.size+1+1+1) AJ 96 O (0,0) _ K4.o underlying96 rfl Yi.o ?_)
  | (refine wpList_store_rowTo rfl 96 (AX 4) (AX 34) rfl rfl (w.heap.size+1+1) O rfl rfl 96 zeroCells96 lK.o Yi.o HOL.o Vo.o ?_)
  | fail)
 refine FN (OV rfl _ _ (w.heap.size+1+1) 96 O (0,0) _ rfl (lK.o.row _) underlying96 rfl Yi.o) rfl ?_;rw [HO.o];exact ⟨_,_,rfl,Ag.nil _ _ (Ay _),Ag.nil _ _ (Ay _),below_setRow HB4.o AG _⟩
attribute [local go_sem] Oper.semAt_some
theorem aA (W:AH) (x:Int) (hx: -9223372036854775808<=x/\x<=9223372036854775807):Ag 1 Bt (W.alloc (AO #[AB AE x] 3)) (AA (some ⟨W.heap.size,0,none⟩) 1 1) [x]:=
 Mv (l:=[x]) (AY.new W _ _) (by intro z hz;rw [F5] at hz;rw [hz];exact hx) AZ
theorem upto_take {n j:Nat} (h:j < n):(upto n).take (j+1)=(upto n).take j++[(j:Int)]:=by rw [Pn,V0 h];rfl
theorem upto_all (n:Nat):(upto n).take n=upto n:=C7 tY
theorem QH {w w':AH} {cs:List AN} {l:AQ} (h:Ap 1 Bt w cs l):Ap 1 Bt w' cs l:=h
def NewAt (B:Nat) (v:AN):Prop:=∀r,v.ownBlock=some r->B<=r
theorem dK (v0 v1 v3 v4 v5 v6:AN) (A:Option Aa) (n c:Nat) (ns:List Nat) (k x:Nat) (q:UH) (VA LA KA:Option Aa) (vn vc ln lc kn kc:Nat) (w:AH) (hs:Ag 6 Kx w (AA A n c) ns) (hx:ns[k]? =some x) (hx5:x<=1000) (hh:q.holder.length=32)
 (hsc:q.schema=k) (hv:q.values=AA VA vn vc) (hl:q.links=AA LA ln lc) (hk:q.claims=AA KA kn kc):
 Calls prog 40 #[AP #[v0,v1,AA A n c,v3,v4,v5,v6],AP (Fo q)] w fun e w'=>∃F L,e=.returned (AP (JW ⟨q.Ar,q.round,q.schema,q.place,q.holder,F,q.values,0,zeros 32,q.claims,L,q.links,(x:Int)+4+1,(x:Int)+4⟩))/\
  Ag 1 Bt w' F (upto x)/\Ag 1 Bt w' L (upto 4)/\AK w w'/\NewAt w.heap.size F/\NewAt w.heap.size L:=by
 have hk':k < n:=by rw [hs.len];exact (BF.1 hx).1
 have hk1:(k:Int) < (n:Int):=AG
 have hk0:=Int.natCast_nonneg k
 obtain ⟨b,off,x',x0,x1,x2,x3,C,cc,x5,rfl,hb,hx',hxl,hone,hcell⟩:=Nv hs hk';rw [hx] at hx';injection hx' with hx';subst hx';obtain ⟨Y,hY⟩:=Ad (Fo q);obtain ⟨s0,hs0⟩:=Ad (⟨q.Ar,q.round,q.schema,q.place,q.holder,AA none 0 0,q.values,0,zeros 32,q.claims,AA none 0 0,q.links,(x:Int)+4+1,(x:Int)+4⟩:JS);obtain ⟨O1,qK⟩:=Ad (Em s0);obtain ⟨O,hO⟩:=Ad (JW s0);rw [<-hY];have hth:s0.holder.length=32:=by rw [hs0];exact hh
 have htt:s0.token.length=32:=by rw [hs0];rfl
 have Yi:AI ((prog.info? 96).map (·.size)=some O.size):=AF (by rw [hO,P9 hth htt];exact AC7);have HOL:AI (zeroCells96.size=O.size):=AF (by rw [hO,P9 hth htt];rfl);have Vo:AI (O.all (·.oneCell')=true):=AF (by rw [hO];exact Zg (by rw [hs0];rfl) (by rw [hs0];exact (congrArg _ hv).trans rfl) (by rw [hs0];exact (congrArg _ hk).trans rfl) (by rw [hs0];rfl) (by rw [hs0];exact (congrArg _ hl).trans rfl));have HOV:AI (s0.values.oneCell'=true/\s0.claims.oneCell'=true/\s0.tokens.oneCell'=true):=AF (by rw [hs0];exact ⟨(congrArg _ hv).trans rfl,(congrArg _ hk).trans rfl,(congrArg _ hl).trans rfl⟩);have HB1:AI (prog.built 57 [(0,AB AE q.Ar),(1,AB AE q.round),(2,AB AE q.schema),(3,AB AE q.place),(4,AP (yA q.holder)),(6,q.values),(9,q.claims)]=some O1):=AF (by rw [qK,hs0,hv,hk];exact tP _ _ _ _ hh _ _ _ _ _ _);have HB2:AI (prog.built 96 [(0,.agg O1),(2,q.links),(3,AB AE ((x:Int)+4+1)),(4,AB AE ((x:Int)+4))]=some O):=AF (by rw [qK,hO,hl,ACd s0 hth htt,hs0,hl]);have Mj:AI (∀W g,AY W g 46 Y->CpB W g q):=AF (fun W g h=>by rw [hY] at h;exact PS h hh);obtain ⟨HO,RW,Tz,PV,ai⟩:=Db hO hs0 hth htt hh;clear hY qK hO hone hs0 hth htt hv hl hk hh;go_enter func40,ntmps40;go_upto_region 1 with fail;obtain ⟨k1,b1,s1⟩:=bx w #[v0,v1,AA (some ⟨b,off,none⟩) n c,v3,v4,v5,v6] 32;generalize (w.alloc (AO #[v0,v1,AA (some ⟨b,off,none⟩) n c,v3,v4,v5,v6] 32))=w1 at k1 b1 s1 ⊢;obtain ⟨k2,b2,s2⟩:=bx w1 Y 46;generalize (w1.alloc (AO Y 46))=w2 at k2 b2 s2 ⊢;obtain ⟨k3,b3,s3⟩:=bx w2 zeroCells96 96;generalize (w2.alloc (AO zeroCells96 96))=w3 at k3 b3 s3 ⊢;rw [s1] at k2 b2 s2;rw [s2] at k3 b3 s3;obtain ⟨K13,lN,K33,HB3⟩:=CD ((k1.below b2 AG).below b3 AG) (k2.below b3 AG) k3 ((b1.trans (b2.mono AG)).trans (b3.mono AG));have H3:AI (w3.heap.size=w.heap.size+1+1+1):=AF AG;clear k1 k2 k3 b1 b2 b3 s1 s2 s3;have cb:=Mj.o _ _ lN.o;have d2:w3.cell? ⟨w.heap.size,2,none⟩=some (AA (some ⟨b,off,none⟩) n c):=K13.o.cell 2;have f0:=cb.Ar;have f1:=cb.round;have f2:w3.cell? ⟨w.heap.size+1,2,none⟩=some (AB AE k):=by rw [cb.schema,hsc]
 have f3:=cb.place;have f36:=cb.values;have f37:=cb.links;have f38:=cb.claims;have e4:w3.cell? ⟨b,off+k*6+4,none⟩=some (AA C x cc):=(HB3.o.cell (p:=⟨b,off+k*6+4,none⟩) hb).trans (hcell 4 _ rfl);have hsz:(prog.info? 85).map (·.size)=some 6:=AJ
 have Pg:=AF (Ei (w.heap.size+1) 4 ai.o cb.holder);clear hcell hs cb;go_upto_region 2 with fail;have w1:IntKind.i64.wrap ((x:Int)+4)=(x:Int)+4:=Ca _ AG;have w2:IntKind.i64.wrap ((x:Int)+4+1)=(x:Int)+4+1:=Ca _ AG;rw [hsc] at HB1;go_upto_region 3 with (first
  | (refine iD rfl 34 (AX 26) rfl _ _ rfl Pg.o ?_)
  | (refine wpList_buildTo rfl 57 _ rfl _ rfl O1 (Er (congrArg (prog.built 57) AJ) HB1.o) ?_)
  | (refine wpList_buildTo rfl 96 _ rfl _ rfl O (Er (congrArg (prog.built 96) AJ) HB2.o) ?_)
  | (refine wpList_store_rowTo rfl 96 (AX 6) (AX 40) rfl rfl w3.heap.size O rfl rfl 96 zeroCells96 (World.alloc_heap_new _ _) Yi.o HOL.o Vo.o ?_)
  | fail)
 rw [World.setRow_alloc_new];obtain ⟨k4,b4,s4⟩:=bx w3 O 96;generalize (w3.alloc (AO O 96))=w4 at k4 b4 s4 ⊢;have h3:=H3.o;rw [h3] at k4 ⊢;obtain ⟨lK,HB4⟩:=Al (K33.o.below b4 AG) (HB3.o.trans (b4.mono AG));have H4:AI (w4.heap.size=w.heap.size+1+1+1+1):=AF AG;rw [HO.o] at k4;have K4:=AF k4;clear k4 b4 s4 h3 K13 K33 HB3 H3 d2 f0 f1 f2 f3 f36 f37 f38 e4 lN hsc Pg HB1 HB2 Vo;have hii:=pU;obtain ⟨i0,hi,hiv⟩:=EC.1 hii;have hz0:i0.zero=some (AB AE 0):=congrArg (·.1) hiv;have hz1:i0.size=1:=congrArg (·.2.1) hiv;have hz2:i0.bytes=8:=congrArg (·.2.2) hiv;have HI:=AF (And.intro hi (And.intro hz0 (And.intro hz1 hz2)));clear hii hiv hi hz0 hz1 hz2;have HX5:=AF hx5;clear hx5;go_upto_region 4 with fail;go_loopg [42] x (fun q' i wr=>∃(j:Nat) (v:AN) (cs:List AN),j<=x/\q'=x - j/\i=AB AE j/\AY wr (w.heap.size+1+1+1) 96 (JW {s0 with fields:=v})/\wr.ownsRow (w.heap.size+1+1+1+1) 3 1 v j cs/\Ap 1 Bt wr cs ((upto x).take j)/\BL (w.heap.size+1+1+1) w4 wr)
 case atStart=>exact ⟨0,AA none 0 0,[],Ay _,rfl,rfl,by rw [RW.o] at K4 ⊢;exact K4.o,Ef _ _ _ _,Ap.nil,Af _ _⟩
 obtain ⟨j,v,cs,hj,hq,rfl,h1,h2,h3,h4⟩:=hrel;obtain ⟨vA,Ml,rfl⟩:=CG h2;have sb:=Xd h1 P3 P2;have f3:=h1.frozen 36;have l1:=h1.lt;have qm:=sb.fields
 dsimp only at qm
 obtain ⟨HQ,K1,HV,PZ,HB2,XD⟩:=Fg hq h1 h2 h3 h4 h4.size;clear hq h1 h2 h3 h4 sb;by_cases hlt:j < x
 ·have hkn:(j:Int) < (x:Int):=by omega
  have hk0':(0:Int)<=(j:Int):=AG
  go_wp2_with (at_builtin;refine CQ _ rfl (AX 47) (AX 49) 30 3 rfl i0 (AB AE 0) 8 underlying30 HI.o.1 HI.o.2.1 HI.o.2.2.1 HI.o.2.2.2 rfl Ai (R:=Bt) Sy (w.heap.size+1+1+1+1) _ _ _ rfl (HV.o.alloc _) (some ⟨wr.heap.size,0,none⟩) 1 1 [(j:Int)] rfl (aA wr j (by have:=HX5.o;omega)) (by have:=HX5.o;unfold maxLen;omega) (by have:=HX5.o;omega) t7 ?_;intro v5 w5 Nu hc5 Gi hg5 Og;obtain ⟨A5,c5,rfl⟩:=CG Gi;have k5:=(K1.o.alloc (AO #[AB AE (j:Int)] 3)).grown hg5 (Dj HV.o (I9 _));have f5:=k5.frozen 36;have l5:=k5.lt;have d5:=(Xd k5 P3 P2).fields;dsimp only at d5);have hb5:=(HB2.o.alloc (by have:=XD.o;have:=H4.o;omega) (AO #[AB AE (j:Int)] 3)).grown hg5 t7 (fun r hr=>by have:=(HV.o.lt r hr).1;omega);go_roundg (x - (j+1))
  case measure=>exact Bi
  refine ⟨j+1,_,cs++Nu,by omega,rfl,by go_num,?_,FO Gi (I9 _) _,?_,hb5.setCell (Ac _) _⟩
  ·have:=k5.put 36 (AA A5 (j+1) c5)
   rwa [AC9 _ P3 P2] at this
  exact AA6
 have hjx:j=x:=AG
 subst hjx;have Lf:=AF (show Ap 1 Bt wr cs (upto j) by rw [<-upto_all j];exact PZ.o);have hrs:=HB2.o.size;have h4s:=H4.o;clear qm f3 PZ HQ;go_upto_region 9 with fail;obtain ⟨wf,hwf⟩:=Ad wr;rw [<-hwf];obtain ⟨KZ,rj⟩:=Al (lK.o.below HB2.o AG) (HB4.o.trans (HB2.o.mono AG));rw [<-hwf] at HV Lf K1 KZ rj l1 hrs;have Ph:AI (w.heap.size+1+1+1+1<=wf.heap.size):=AF AG;clear hwf hrs h4s HB2 XD H4 HB4 lK;go_loopg [54] 4 (fun q' i wr=>∃(m:Nat) (v:AN) (ds:List AN),m<=4/\q'=4 - m/\i=AB AE m/\AY wr (w.heap.size+1+1+1) 96 (JW {s0 with fields:=AA vA j Ml,links:=v})/\wr.ownsRow wf.heap.size 3 1 v m ds/\Ap 1 Bt wr ds ((upto 4).take m)/\BL (w.heap.size+1+1+1) wf wr/\wr.ownsRow (w.heap.size+1+1+1+1) 3 1 (AA vA j Ml) j cs)
 case atStart=>exact ⟨0,AA none 0 0,[],Ay _,rfl,rfl,by rw [RW.o] at K1 ⊢;exact K1.o,Ef _ _ _ _,Ap.nil,Af _ _,HV.o⟩
 obtain ⟨m,v,ds,hm,hq,rfl,h1,h2,h3,h4,h5⟩:=hrel;obtain ⟨lA,vO,rfl⟩:=CG h2;have sb:=Xd h1 P3 P2;have f3:=h1.frozen 72;have l1:=h1.lt;have c72:=sb.links
 dsimp only at c72
 obtain ⟨HQ,K5,EJ,PZ,HB2,HV1,XD⟩:=LU hq h1 h2 h3 h4 h5 h4.size;clear hq h1 h2 h3 h4 h5 sb K1;by_cases hlt:m < 4
 ·have hkn:(m:Int) < (4:Int):=by omega
  have hk0':(0:Int)<=(m:Int):=AG
  go_wp2_with (at_builtin;refine CQ _ rfl (AX 58) (AX 60) 30 3 rfl i0 (AB AE 0) 8 underlying30 HI.o.1 HI.o.2.1 HI.o.2.2.1 HI.o.2.2.2 rfl Ai (R:=Bt) Sy wf.heap.size _ _ _ rfl (EJ.o.alloc _) (some ⟨wr.heap.size,0,none⟩) 1 1 [(m:Int)] rfl (aA wr m AG) Gx AG (by have:=XD.o;simp;omega) ?_;intro v5 w5 Nu hc5 Gi hg5 Og;obtain ⟨A5,c5,rfl⟩:=CG Gi;have k5:=(K5.o.alloc (AO #[AB AE (m:Int)] 3)).grown hg5 (Dj EJ.o (by have:=Ph.o;omega));have f5:=k5.frozen 72;have l5:=k5.lt;have d5:=(Xd k5 P3 P2).links;dsimp only at d5);have hb5:=(HB2.o.alloc (by have:=XD.o;have:=Ph.o;omega) (AO #[AB AE (m:Int)] 3)).grown hg5 (by have:=XD.o;have:=Ph.o;simp;omega) (fun r hr=>by have:=(EJ.o.lt r hr).1;have:=Ph.o;omega);have hne:(Value.slice vA j Ml).ownBlock=none\/(Value.slice vA j Ml).ownBlock≠(Value.slice lA m vO).ownBlock:=by
   rcases h:(Value.slice vA j Ml).ownBlock with _ | r
   · exact .inl rfl
   refine .inr fun e=> ?_;have h1:=(HV.o.lt r h).2;have h2:=(EJ.o.lt r e.symm).1;omega
  have ho9:=(HV1.o.alloc (AO #[AB AE (m:Int)] 3)).kept hg5 hne;go_roundg (4 - (m+1))
  case measure=>exact Bi
  refine ⟨m+1,_,ds++Nu,by omega,rfl,by go_num,?_,FO Gi (by have:=Ph.o;omega) _,?_,hb5.setCell (Ac _) _,FO ho9 (I9 _) _⟩
  ·have:=k5.put 72 (AA A5 (m+1) c5)
   rwa [AC8 _ P3 P2] at this
  exact AA6
 have hm4:m=4:=AG
 subst hm4;obtain ⟨O',VY⟩:∃O',O'=JW {s0 with fields:=AA vA j Ml,links:=AA lA 4 vO}:=⟨_,rfl⟩;have hsO:O'.size=O.size:=by rw [VY,HO.o,P9 Tz.o PV.o];exact P9 P3 P2
 have Lg:AI ((prog.info? 96).map (·.size)=some O'.size):=AF (by rw [hsO];exact Yi.o);have TR:AI (zeroCells96.size=O'.size):=AF (by rw [hsO];exact HOL.o);have Co:AI (O'.all (·.oneCell')=true):=AF (by rw [VY];exact Zg rfl HOV.o.1 HOV.o.2.1 rfl HOV.o.2.2);have KO:AI (AY wr (w.heap.size+1+1+1) 96 O'):=AF (by rw [VY];exact K5.o);obtain ⟨KZ2,rN,XJ⟩:=BB (KZ.o.below HB2.o AG) VY (rj.o.trans (HB2.o.mono AG));have HSL:AI (Ag 1 Bt wr (AA lA 4 vO) (upto 4)):=AF (B9 EJ.o (by rw [<-upto_all 4];exact PZ.o) rfl);have HSV:AI (Ag 1 Bt wr (AA vA j Ml) (upto j)):=AF (B9 HV1.o (QH Lf.o) (IX j).symm);have hss:=XD.o;have hfs:=Ph.o;clear VY hsO c72 f3;go_wp2_with (first
  | (refine Ci rfl 96 (AX 6) rfl (w.heap.size+1+1+1) AJ 96 O' (0,0) _ KO.o underlying96 rfl Lg.o ?_)
  | (refine wpList_store_rowTo rfl 96 (AX 4) (AX 64) rfl rfl (w.heap.size+1+1) O' rfl rfl 96 zeroCells96 KZ2.o Lg.o TR.o Co.o ?_)
  | fail)
 refine FN (OV rfl _ _ (w.heap.size+1+1) 96 O' (0,0) _ rfl (KZ2.o.row _) underlying96 rfl Lg.o) rfl ?_;have hse:∀(u:AN) (l:AQ),Ag 1 Bt wr u l->(∀r,u.ownBlock=some r->r≠w.heap.size+1+1)->Ag 1 Bt (wr.setRow (w.heap.size+1+1) O') u l:=fun u l h hn=>by obtain ⟨A',cap,e,h1,h2,h3⟩:=h;refine ⟨A',cap,e,h1,h2,fun i z hi=> ?_⟩;obtain ⟨b',off',cs',rfl,hlt',hl',hc',hr'⟩:=h3 i z hi;refine ⟨b',off',cs',rfl,by simpa using hlt',hl',fun j' u' hu=> ?_,hr'⟩;exact (Ke (Gb _ _ _ _ (hn b' (by rw [e];rfl)))).trans (hc' j' u' hu)
 exact ⟨AA vA j Ml,AA lA 4 vO,by rw [rN.o,RW.o],hse _ _ HSV.o (fun r hr=>by have:=(HV.o.lt r hr).1;omega),hse _ _ HSL.o (fun r hr=>by have:=(EJ.o.lt r hr).1;omega),below_setRow XJ.o AG _,fun r hr=>by have:=(HV.o.lt r hr).1;omega,fun r hr=>by have:=(EJ.o.lt r hr).1;omega⟩
end Go.Proofs.YtamhoilkpppdbaaGreatDoor
