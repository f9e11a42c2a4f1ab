import Derived.Test.YtamhoilkpppdbaaGreatDoorLTt
import Derived.Test.YtamhoilkpppdbaaGreatDoorProg
namespace Go.Proofs.YtamhoilkpppdbaaGreatDoor
set_option maxHeartbeats 8000000
set_option maxRecDepth 100000
open Go renaming World→AH, Value→AN, Calls→AS, TypeId→Ae, Program→BE, Addr→Aa
open Go.RowKit renaming Below→BL
open Go.Proofs.Tryz
open Go.Value renaming slice→AA, int→AB, string→AL, bool→Ab, agg→AP
open Go.IntKind renaming i64→AE
open Go.Ending renaming returned→AW
open Go.Obj renaming cells→AO
open Go.RowKit
def Ag {α:Type} (sz:Nat) (R:AH->List AN->α->Prop) (w:AH) (v:AN) (l:List α):Prop:=
 ∃A cap,v=AA A l.length cap/\l.length<=cap/\cap<=maxLen/\
  ∀i x,l[i]? =some x->∃b off cs,A=some ⟨b,off,none⟩/\b < w.heap.size/\cs.length=sz/\(∀j u,cs[j]? =some u->w.cell? ⟨b,off+(i*sz+j),none⟩=some u)/\R w cs x
def Ret (v:AN) (w:AH) (e:Ending) (w':AH):Prop:=e=AW v/\AK w w'
def Bt (_:AH) (cs:List AN) (x:Int):Prop:=cs=[AB AE x]/\ -9223372036854775808<=x/\x<=9223372036854775807
def Ep {α:Type} (R:AH->List AN->α->Prop):Prop:=∀(w w':AH),AK w w'->∀(cs:List AN) (x:α),R w cs x->R w' cs x
theorem BT:Ep Bt:=fun _ _ _ _ _ h=>h
theorem below_drewN {B:Nat} {a w:AH} (h:BL B a w) (n:Nat):BL B a (w.drewN n):=⟨h.os,h.tape,h.output,h.size,h.block⟩
section
variable {α:Type} {sz:Nat} {R:AH->List AN->α->Prop} {w w':AH} {l:List α}
theorem Ag.mono (hR:Ep R) (hb:AK w w') {v:AN} (h:Ag sz R w v l):Ag sz R w' v l:=by obtain ⟨A,cap,e,h1,h2,h3⟩:=h;refine ⟨A,cap,e,h1,h2,fun i x hi=> ?_⟩;obtain ⟨b,off,cs,rfl,hlt,hl,hc,hr⟩:=h3 i x hi;exact ⟨b,off,cs,rfl,Av hlt hb.size,hl,fun j u hu=>(hb.cell (p:=⟨b,_,none⟩) hlt).trans (hc j u hu),hR _ _ hb _ _ hr⟩
theorem Ag.at_ {A:Option Aa} {n cap:Nat} (h:Ag sz R w (AA A n cap) l) {k:Nat} (hk:k < n):
 ∃b off x cs,A=some ⟨b,off,none⟩/\b < w.heap.size/\l[k]? =some x/\cs.length=sz/\(∀j u,cs[j]? =some u->w.cell? ⟨b,off+(k*sz+j),none⟩=some u)/\R w cs x:=by
 obtain ⟨A',cap',e,h1,h2,h3⟩:=h;injection e with e1 e2 e3;subst e1 e2 e3;obtain ⟨b,off,cs,rfl,hb,hl,hc,hr⟩:=h3 k l[k] (BN hk);exact ⟨b,off,l[k],cs,rfl,hb,BN hk,hl,hc,hr⟩
theorem Ag.len {A:Option Aa} {n cap:Nat} (h:Ag sz R w (AA A n cap) l):n=l.length:=by obtain ⟨A',cap',e,h1,h2,h3⟩:=h;injection e
theorem Ag.le {A:Option Aa} {n cap:Nat} (h:Ag sz R w (AA A n cap) l):n<=cap/\cap<=9223372036854775807:=by obtain ⟨A',cap',e,h1,h2,h3⟩:=h;injection e with e1 e2 e3;unfold maxLen at h2;omega
theorem Ag.form {v:AN} (h:Ag sz R w v l):∃A cap,v=AA A l.length cap:=by obtain ⟨A,cap,e,_⟩:=h;exact ⟨A,cap,e⟩
theorem Ag.nil (A:Option Aa) (cap:Nat) (hc:cap<=maxLen):Ag sz R w (AA A 0 cap) []:=
 ⟨A,cap,rfl,Ay _,hc,fun i x h=>by simp at h⟩
end
theorem ints_at {w:AH} {A:Option Aa} {n cap:Nat} {l:AQ} (h:Ag 1 Bt w (AA A n cap) l) {k:Nat} (hk:k < n):
 ∃b off x,A=some ⟨b,off,none⟩/\b < w.heap.size/\l[k]? =some x/\w.cell? ⟨b,off+k,none⟩=some (AB AE x)/\ -9223372036854775808<=x/\x<=9223372036854775807:=by
 obtain ⟨b,off,x,cs,e,hb,hl,hlen,hc,rfl,hx⟩:=h.at_ hk;exact ⟨b,off,x,e,hb,hl,by simpa using hc 0 _ rfl,hx⟩
theorem drop_cons {α:Type} {l:List α} {k:Nat} {x:α} (h:l[k]? =some x):l.drop k=x::l.drop (k+1):=by obtain ⟨hk,rfl⟩:=BF.1 h;exact Ut hk
theorem take_snoc {α:Type} {l:List α} {k:Nat} {x:α} (h:l[k]? =some x):l.take (k+1)=l.take k++[x]:=by obtain ⟨hk,rfl⟩:=BF.1 h;exact fh hk
theorem A8 {a b:Bool} (h:a=b):Ending.returned (Ab a)=AW (Ab b):=by rw [h]
theorem DG {k:IntKind} {a b:Int} (h:a=b):Ending.returned (.int k a)=AW (.int k b):=by rw [h]
theorem J4 {W w1:AH} (hb:AK W w1):(∀b o,b < W.heap.size->w1.cell? ⟨b,o,none⟩=W.cell? ⟨b,o,none⟩)/\(∀b o,b < W.heap.size->w1.frozen? ⟨b,o,none⟩=W.frozen? ⟨b,o,none⟩):=
 ⟨fun b o h=>hb.cell (p:=⟨b,o,none⟩) h,fun b o h=>hb.frozen (p:=⟨b,o,none⟩) h⟩
def AY (w:AH) (g:Nat) (t:Ae) (cs:Array AN):Prop:=w.heap[g]? =some (AO cs t (0,0))
section
variable {w w':AH} {g:Nat} {t:Ae} {cs:Array AN}
theorem AY.lt (h:AY w g t cs):g < w.heap.size:=(DF.1 h).1
theorem AY.cell (h:AY w g t cs) (i:Nat):w.cell? ⟨g,i,none⟩=cs[i]? :=by have h':w.heap[g]? =some (AO cs t (0,0)):=h;simp [World.cell?,h']
theorem AY.frozen (h:AY w g t cs) (i:Nat):w.frozen? ⟨g,i,none⟩=false:=by have h':w.heap[g]? =some (AO cs t (0,0)):=h;simp [World.frozen?,h']
theorem AY.new (w:AH) (t:Ae) (cs:Array AN):AY (w.alloc (AO cs t)) w.heap.size t cs:=heap_alloc_new w _
theorem AY.alloc (h:AY w g t cs) (o:Obj):AY (w.alloc o) g t cs:=(LR w o g h.lt).trans h
theorem AY.drew (h:AY w g t cs):AY w.drew g t cs:=h
theorem AY.drewN (h:AY w g t cs) (n:Nat):AY (w.drewN n) g t cs:=h
theorem AY.put (h:AY w g t cs) (i:Nat) (u:AN):AY (w.setCell ⟨g,i,none⟩ u) g t (cs.setIfInBounds i u):=by have h':w.heap[g]? =some (AO cs t (0,0)):=h;show (w.setCell ⟨g,i,none⟩ u).heap[g]? =_;simp [World.setCell,Array.getElem?_modify,h']
theorem AY.far (h:AY w g t cs) {p:Aa} (hp:g≠p.block) (u:AN):AY (w.setCell p u) g t cs:=(C5 w p u g hp).trans h
theorem AY.below {B:Nat} (h:AY w g t cs) (hb:BL B w w') (hg:g < B):AY w' g t cs:=(hb.block g hg).trans h
theorem AY.grown {row:Option Nat} (h:AY w g t cs) (hb:w.grownBy w' row) (hg:some g≠row):AY w' g t cs:=(hb.block g h.lt hg).trans h
end
theorem UV {a w:AH} {row:Option Nat} (h:a.grownBy w row) (o:Obj):a.grownBy (w.alloc o) row:=
 ⟨h.os,h.tape,h.output,BH h.size AZ,fun i hi hne=>(LR w o i (Av hi h.size)).trans (h.block i hi hne)⟩
theorem grown_drewN {a w:AH} {row:Option Nat} (h:a.grownBy w row) (n:Nat):a.grownBy (w.drewN n) row:=⟨h.os,h.tape,h.output,h.size,h.block⟩
theorem grown_drew {a w:AH} {row:Option Nat} (h:a.grownBy w row):a.grownBy w.drew row:=⟨h.os,h.tape,h.output,h.size,h.block⟩
theorem Oi {a w:AH} {g:Nat} (h:a.grownBy w (some g)) (i:Nat) (u:AN):a.grownBy (w.setCell ⟨g,i,none⟩ u) (some g):=
 ⟨h.os,h.tape,h.output,by simpa [World.setCell] using h.size,fun k hk hne=>(C5 w _ u k (fun e=>hne Kg)).trans (h.block k hk hne)⟩
def Ap {α:Type} (sz:Nat) (R:AH->List AN->α->Prop) (w:AH) (cs:List AN) (l:List α):Prop:=
 cs.length=l.length*sz/\∀i x,l[i]? =some x->R w ((cs.drop (i*sz)).take sz) x
section
variable {α:Type} {sz:Nat} {R:AH->List AN->α->Prop} {w w':AH} {l:List α}
theorem Ap.mono (hR:Ep R) (hb:AK w w') {cs:List AN} (h:Ap sz R w cs l):Ap sz R w' cs l:=
 ⟨h.1,fun i x hi=>hR _ _ hb _ _ (h.2 i x hi)⟩
theorem Ap.nil:Ap sz R w [] ([]:List α):=⟨by simp,fun i x h=>by simp at h⟩
theorem Ap.one {cs:List AN} {x:α} (hl:cs.length=sz) (h:R w cs x):Ap sz R w cs [x]:=by
 refine ⟨by simp [hl],fun i y hi=> ?_⟩;rcases i with _ | i
 ·simp only [Ao,Bz] at hi
  subst hi;rw [Ru,IK,C7 AG];exact h
 · simp at hi
theorem Ap.append {cs cs':List AN} {l':List α} (h:Ap sz R w cs l) (h':Ap sz R w cs' l'):Ap sz R w (cs++cs') (l++l'):=by
 refine ⟨by rw [CX,CX,h.1,h'.1,Nat.add_mul],fun i x hi=> ?_⟩;rcases FL i l.length with hlt | hge
 ·rw [EB hlt] at hi
  have hle:i*sz+sz<=cs.length:=by rw [h.1,<-KQ];exact Kb _ hlt
  rw [List.drop_append_of_le_length AG,List.take_append_of_le_length U5];exact h.2 i x hi
 rw [Cj hge] at hi;have e:i*sz=cs.length+(i - l.length)*sz:=by rw [h.1,<-Nat.add_mul];congr 1;omega
 rw [e,List.drop_append,FQ AG,IJ,show cs.length+(i - l.length)*sz - cs.length=(i - l.length)*sz by omega];exact h'.2 _ x hi
theorem Ag.cells {A:Option Aa} {n c:Nat} (h:Ag sz R w (AA A n c) l):∃cs,Ap sz R w cs l/\∀ad,A=some ad->∀j u,cs[j]? =some u->w.cell? (ad.add j)=some u:=by
 rcases A with _ | ad
 ·have hl:l=[]:=by
   cases l with
   | nil=>rfl
   |
    cons x r=>
    obtain ⟨A',cap',e,h1,h2,h3⟩:=h;obtain ⟨b,off,cs,e',_⟩:=h3 0 x rfl;injection e with e1;rw [<-e1] at e';cases e'
  subst hl;exact ⟨[],Ap.nil,fun ad e=>by cases e⟩
 have hn:=h.len;rcases Pt n with h0 | h0
 ·have hl:l=[]:=Jh AG
  subst hl;exact ⟨[],Ap.nil,fun ad e j u hu=>by simp at hu⟩
 obtain ⟨b,off,x0,cs0,e,_⟩:=h.at_ h0;injection e with e;subst e;have hadd:∀j,(Addr.mk b off none).add j=⟨b,off+j,none⟩:=fun j=>by unfold Addr.add;split <;> simp_all
 have hcell:∀i (hi:i < n) k,k < sz->∃u,w.cell? ⟨b,off+(i*sz+k),none⟩=some u:=by intro i hi k hk;obtain ⟨b',off',x,cs,e,_,_,hl,hc,_⟩:=h.at_ hi;injection e with e;injection e with e1 e2 _;subst e1 e2;exact ⟨cs[k],hc k _ (BN AG)⟩
 refine ⟨(List.range (n*sz)).map (fun j=>(w.cell? ⟨b,off+j,none⟩).getD undef),⟨by simp [hn],?_⟩,?_⟩
 ·intro i x hi
  have hin:i < n:=by have:=(BF.1 hi).1;omega
  obtain ⟨b',off',x',cs,e,_,hx',hl,hc,hR⟩:=h.at_ hin;injection e with e;injection e with e1 e2 _;subst e1 e2;rw [hi] at hx';injection hx' with hx';subst hx';have he:(((List.range (n*sz)).map (fun j=>(w.cell? ⟨b,off+j,none⟩).getD undef)).drop (i*sz)).take sz=cs:=by
   have hle:i*sz+sz<=n*sz:=by rw [<-KQ];exact Kb _ hin
   apply OW;intro k;rcases FL k sz with hk | hk
   ·rw [Jg hk,EO,Bg,MV AG,C6,hc k cs[k] (BN AG),BN AG]
    rfl
   · rw [Dh Ql,Dh AG]
  rw [he];exact hR
 intro ad e j u hu;injection e with e;subst e;rw [Bg] at hu;rw [hadd];rcases FL j (n*sz) with hj | hj
 ·rw [MV hj,C6,Bz] at hu
  have hsz:0 < sz:=by
   rcases Pt sz with e | e
   · subst e;omega
   · exact e
  obtain ⟨v,hv⟩:=hcell (j / sz) (by rw [Nat.div_lt_iff_lt_mul hsz];exact hj) (j % sz) (Nat.mod_lt _ hsz);have e:j / sz*sz+j % sz=j:=by rw [Nat.mul_comm];exact Nat.div_add_mod j sz
  rw [e] at hv;rw [hv] at hu ⊢;exact congrArg some hu
 rw [Dh (by simpa using hj)] at hu;cases hu
theorem B9 {base:Nat} {e:Ae} {v:AN} {n:Nat} {cs:List AN} (h:w.ownsRow base e sz v n cs) (hc:Ap sz R w cs l) (hn:n=l.length):Ag sz R w v l:=by
 rcases h.2 with ⟨rfl,h0⟩ | ⟨g,cap,cur,rfl,hg,hh,hnc,hcm,hsz,htk⟩
 ·have hl0:l=[]:=Jh AG
  subst hl0;exact Ag.nil _ _ (Ay _)
 subst hn;refine ⟨some ⟨g,0,none⟩,cap,rfl,hnc,hcm,fun i x hi=>⟨g,0,(cs.drop (i*sz)).take sz,rfl,(DF.1 hh).1,?_,?_,hc.2 i x hi⟩⟩
 ·have hil:=(BF.1 hi).1
  exact AAS
 intro j u hu;rcases FL j sz with hj | hj
 ·rw [Jg hj,EO] at hu
  rw [<-htk] at hu;have hlt:i*sz+j < l.length*sz:=by
   have hil:=(BF.1 hi).1;have:i*sz+sz<=l.length*sz:=by rw [<-KQ];exact Kb _ hil
   omega
  rw [Jg hlt] at hu;simp only [World.cell?,hh,Es];simpa using hu
 rw [Dh Ql] at hu;cases hu
end
theorem Ag.fix {α:Type} {sz:Nat} {R:AH->List AN->α->Prop} {w w':AH} {l:List α} {v:AN} (h:Ag sz R w v l) (hb:AK w w'):Ag sz (fun _=>R w) w' v l:=by obtain ⟨A,cap,e,h1,h2,h3⟩:=h;refine ⟨A,cap,e,h1,h2,fun i x hi=> ?_⟩;obtain ⟨b,off,cs,rfl,hlt,hl,hc,hr⟩:=h3 i x hi;exact ⟨b,off,cs,rfl,Av hlt hb.size,hl,fun j u hu=>(hb.cell (p:=⟨b,_,none⟩) hlt).trans (hc j u hu),hr⟩
def One {α:Type} (R:AH->List AN->α->Prop):Prop:=∀w cs x,R w cs x->∀u∈cs,u.oneCell'=true
theorem Ap.ones {α:Type} {sz:Nat} {R:AH->List AN->α->Prop} {w:AH} {l:List α} (ho:One R) {cs:List AN} (h:Ap sz R w cs l):∀u∈cs,u.oneCell'=true:=by
 intro u hu;obtain ⟨j,hj,rfl⟩:=ZJ hu;have hl:=h.1;have hsz:0 < sz:=by
  rcases Pt sz with e | e
  · subst e;omega
  · exact e
 have hi:j / sz < l.length:=by rw [Nat.div_lt_iff_lt_mul hsz,<-hl];exact hj
 refine ho _ _ _ (h.2 (j / sz) _ (BN hi)) _ (Cr (i:=j % sz) ?_);rw [Jg (Nat.mod_lt _ hsz),EO,show j / sz*sz+j % sz=j by rw [Nat.mul_comm];exact Nat.div_add_mod j sz,BN hj]
section
variable {P:BE} {α:Type} {sz:Nat} {R:AH->List AN->α->Prop}
theorem iN (w:AH) (t ty e:Ae) (i:TypeInfo) (z:AN) (bytes:Nat) (ht:P.underlying t=some (.slice e)) (hi:P.info? e=some i) (hz:i.zero=some z) (hsize:i.size=sz) (hby:i.bytes=bytes) (hzs:z.cells.size=sz) (hsz:0 < sz) (ho:One R)
 (base:Nat) (v:AN) (n:Nat) (xs:List AN) (hown:w.ownsRow base e sz v n xs) (A:Option Aa) (m c:Nat) (l:List α) (hr:Ag sz R w (AA A m c) l)
 (hn:n+m<=maxLen) (hb:(n+m)*bytes<=140737488355328) (hbase:base<=w.heap.size):
 ∃v' w' cs,(Builtin.append_ #[t,t] ty #[v,AA A m c]).run P w=.ok v' w'/\Ap sz R w cs l/\w'.ownsRow base e sz v' (n+m) (xs++cs)/\w.grownBy w' v.ownBlock/\(v'.ownBlock=v.ownBlock\/v'.ownBlock=some w.heap.size):=by
 obtain ⟨cs,hcs,hcell⟩:=hr.cells;have hlen:=hr.len;rcases A with _ | ad
 ·have hm:m=0:=by
   rcases Pt m with h0 | h0
   · exact h0
   obtain ⟨b,off,x,cs,e,_⟩:=hr.at_ h0;cases e
  subst hm;have hl:l=[]:=Jh AG;subst hl;have hcs0:cs=[]:=Jh (by rw [hcs.1];simp);subst hcs0;refine ⟨v,w,[],?_,hcs,by simpa using hown,Cu w _,.inl rfl⟩;rcases hown.2 with ⟨rfl,rfl⟩ | ⟨g,cap,cur,rfl,_,_,hnc,_⟩
  · simp [Builtin.append_,run_underlying ht,sizeOf,typeInfo,hi,Builtin.lenOf,Builtin.firstCells]
  · simp [Builtin.append_,run_underlying ht,sizeOf,typeInfo,hi,Builtin.lenOf,Builtin.firstCells,hnc,storeCells]
 obtain ⟨v',w',h1,h2,h3,_,h5⟩:=run_append_own_at (P:=P) w base t ty e i z sz bytes ht hi hz hsize hby hzs hsz v n xs hown ad m c cs (by rw [hcs.1,<-hlen]) (hcell ad rfl) (hcs.ones ho) hn hb hbase;exact ⟨v',w',cs,h1,hcs,h2,h3,h5⟩
theorem RF (w:AH) {o:Oper} {a:Act} {K:Act->AH->Prop} {Q:Exit->Act->AH->Prop} (s x:Operand) (t e:Ae)
 (hop:o.op=.call {callee:=.builtin .append,args:=#[s,x],argTypes:=#[t,t]}) (i:TypeInfo) (z:AN) (bytes:Nat) (ht:P.underlying t=some (.slice e)) (hi:P.info? e=some i) (hz:i.zero=some z) (hsize:i.size=sz) (hby:i.bytes=bytes) (hzs:z.cells.size=sz) (hsz:0 < sz) (ho:One R)
 (base:Nat) (v:AN) (n:Nat) (xs:List AN) (hs:a.eval s=v) (hown:w.ownsRow base e sz v n xs) (A:Option Aa) (m c:Nat) (l:List α) (hx:a.eval x=AA A m c) (hr:Ag sz R w (AA A m c) l)
 (hn:n+m<=maxLen) (hb:(n+m)*bytes<=140737488355328) (hbase:base<=w.heap.size)
 (h:∀v' w' cs,Ap sz R w cs l->w'.ownsRow base e sz v' (n+m) (xs++cs)->w.grownBy w' v.ownBlock->(v'.ownBlock=v.ownBlock\/v'.ownBlock=some w.heap.size)->K (a.put o.dst v') w'):o.wp P a w K Q:=by
 obtain ⟨v',w',cs,hrun,h2,h3,h4,h5⟩:=iN w t o.type e i z bytes ht hi hz hsize hby hzs hsz ho base v n xs hown A m c l hr hn hb hbase;unfold Oper.wp execOp;simp only [hop,resolve,invoke,builtin,Cp,DL,Result.andThen_ok,Uj,Fz,NF,hs,hx,hrun];exact h v' w' cs h2 h3 h4 h5
end
theorem CQ {P:BE} {α:Type} {sz:Nat} {R:AH->List AN->α->Prop} (w:AH) {ops:Array Oper} {rest:List Oper} {o:Oper} {a:Act} {Q:Exit->Act->AH->Prop} (hgd:o.guard=none) (s x:Operand) (t e:Ae)
 (hop:o.op=.call {callee:=.builtin .append,args:=#[s,x],argTypes:=#[t,t]}) (i:TypeInfo) (z:AN) (bytes:Nat) (ht:P.underlying t=some (.slice e)) (hi:P.info? e=some i) (hz:i.zero=some z) (hsize:i.size=sz) (hby:i.bytes=bytes) (hzs:z.cells.size=sz) (hsz:0 < sz) (ho:One R)
 (base:Nat) (v:AN) (n:Nat) (xs:List AN) (hs:a.eval s=v) (hown:w.ownsRow base e sz v n xs) (A:Option Aa) (m c:Nat) (l:List α) (hx:a.eval x=AA A m c) (hr:Ag sz R w (AA A m c) l)
 (hn:n+m<=maxLen) (hb:(n+m)*bytes<=140737488355328) (hbase:base<=w.heap.size)
 (h:∀v' w' cs,Ap sz R w cs l->w'.ownsRow base e sz v' (n+m) (xs++cs)->w.grownBy w' v.ownBlock->(v'.ownBlock=v.ownBlock\/v'.ownBlock=some w.heap.size)->wpList P ops Q rest (a.put o.dst v') w'):wpList P ops Q (o::rest) a w:=
 wpList_plain hgd fun _ hK=>RF w s x t e hop i z bytes ht hi hz hsize hby hzs hsz ho base v n xs hs hown A m c l hx hr hn hb hbase fun v' w' cs h2 h3 h4 h5=>hK _ _ (h v' w' cs h2 h3 h4 h5)
theorem Sy:One Bt:=by rintro w cs x ⟨rfl,_⟩ u hu;simp only [F5] at hu;subst hu;rfl
def Dd (_:AH) (cs:List AN) (x:ByteArray):Prop:=cs=[AL x]
def iR (_:AH) (cs:List AN) (x:Int):Prop:=cs=[AB AE x]
theorem BX:Ep Dd:=fun _ _ _ _ _ h=>h
theorem IZ:Ep iR:=fun _ _ _ _ _ h=>h
theorem AC3:One Dd:=by rintro w cs x rfl u hu;simp only [F5] at hu;subst hu;rfl
theorem AHk:One iR:=by rintro w cs x rfl u hu;simp only [F5] at hu;subst hu;rfl
def BV {α:Type} (sz bytes:Nat) (R:AH->List AN->α->Prop) (w:AH) (v:AN) (l:List α):Prop:=Ag sz R w v l/\l.length*bytes<=140737488355328
theorem BV.mono {α:Type} {sz bytes:Nat} {R:AH->List AN->α->Prop} {w w':AH} {l:List α} (hR:Ep R) (hb:AK w w') {v:AN} (h:BV sz bytes R w v l):BV sz bytes R w' v l:=⟨h.1.mono hR hb,h.2⟩
theorem Xa {w:AH} {A:Option Aa} {n cap:Nat} {l:List ByteArray} (h:Ag 1 Dd w (AA A n cap) l) {k:Nat} (hk:k < n):
 ∃b off x,A=some ⟨b,off,none⟩/\b < w.heap.size/\l[k]? =some x/\w.cell? ⟨b,off+k,none⟩=some (AL x):=by
 exact AAF
theorem xq {w:AH} {A:Option Aa} {n cap:Nat} {l:AQ} (h:Ag 1 iR w (AA A n cap) l) {k:Nat} (hk:k < n):
 ∃b off x,A=some ⟨b,off,none⟩/\b < w.heap.size/\l[k]? =some x/\w.cell? ⟨b,off+k,none⟩=some (AB AE x):=by
 exact AAF
structure Bv where
 name:ByteArray
 Au:ByteArray
 factor:Int
 base:Int
 scale:Int
 deriving DecidableEq
structure EF where
 name:ByteArray
 path:ByteArray
 var:Int
 field:Int
 n:Int
 deriving DecidableEq
structure Iv where
 op:Int
 a:EF
 b:EF
 deriving DecidableEq
structure CO where
 name:ByteArray
 kind:ByteArray
 schema:Int
 Au:EF
 deriving DecidableEq
structure Ma where
 path:ByteArray
 field:Int
 term:EF
 deriving DecidableEq
structure LL where
 DS:ByteArray
 from_:ByteArray
 b:Int
 a:Int
 shift:Int
 deriving DecidableEq
structure Mb where
 name:ByteArray
 path:ByteArray
 schema:Int
 field:Int
 deriving DecidableEq
structure Fy where
 kind:Int
 lo:Int
 hi:Int
 Au:ByteArray
 unit:Int
 names:List ByteArray
 deriving DecidableEq
structure Gn where
 name:ByteArray
 type:Fy
 w0:Int
 w1:Int
 w2:Int
 w3:Int
 deriving DecidableEq
structure M7 where
 names:List ByteArray
 name:ByteArray
 src:AQ
 dst:Int
 deriving DecidableEq
structure BM where
 name:ByteArray
 FX:ByteArray
 Ar:Int
 version:Int
 fields:List Gn
 deps:List M7
 deriving DecidableEq
structure Cm where
 head:ByteArray
 schema:Int
 froms:List CO
 C0:List Iv
 sets:List Ma
 deriving DecidableEq
structure DH where
 from_:ByteArray
 DS:ByteArray
 a:Int
 b:Int
 moves:List LL
 deriving DecidableEq
structure Cl where
 name:ByteArray
 may:List Mb
 most:Int
 deriving DecidableEq
structure BG where
 Bh:List ByteArray
 units:List Bv
 Aq:List BM
 rules:List Cm
 converts:List DH
 purposes:List Cl
 deriving DecidableEq
def CS (_:AH) (cs:List AN) (x:Bv):Prop:=cs=[AL x.name,AL x.Au,AB AE x.factor,AB AE x.base,AB AE x.scale]
theorem Bq:Ep CS:=fun _ _ _ _ _ h=>h
theorem xD:One CS:=by rintro w cs x rfl u hu;simp only [B0,DX,DW] at hu;rcases hu with rfl | rfl | rfl | rfl | rfl <;> rfl
theorem OE {w:AH} {A:Option Aa} {n cap:Nat} {l:List Bv} (h:Ag 5 CS w (AA A n cap) l) {k:Nat} (hk:k < n):
 ∃b off x,A=some ⟨b,off,none⟩/\b < w.heap.size/\l[k]? =some x/\
  w.cell? ⟨b,off+k*5,none⟩=some (AL x.name)/\
  w.cell? ⟨b,off+k*5+1,none⟩=some (AL x.Au)/\
  w.cell? ⟨b,off+k*5+2,none⟩=some (AB AE x.factor)/\
  w.cell? ⟨b,off+k*5+3,none⟩=some (AB AE x.base)/\
  w.cell? ⟨b,off+k*5+4,none⟩=some (AB AE x.scale):=by
 exact AAm
def AHV (_:AH) (cs:List AN) (x:EF):Prop:=cs=[AL x.name,AL x.path,AB AE x.var,AB AE x.field,AB AE x.n]
def Ea (_:AH) (cs:List AN) (x:Iv):Prop:=cs=[AB AE x.op,AL x.a.name,AL x.a.path,AB AE x.a.var,AB AE x.a.field,AB AE x.a.n,AL x.b.name,AL x.b.path,AB AE x.b.var,AB AE x.b.field,AB AE x.b.n]
theorem FZ:Ep Ea:=fun _ _ _ _ _ h=>h
theorem xK:One Ea:=by rintro w cs x rfl u hu;simp only [B0,DX,DW] at hu;rcases hu with rfl | rfl | rfl | rfl | rfl | rfl | rfl | rfl | rfl | rfl | rfl <;> rfl
theorem bE {w:AH} {A:Option Aa} {n cap:Nat} {l:List Iv} (h:Ag 11 Ea w (AA A n cap) l) {k:Nat} (hk:k < n):
 ∃b off x,A=some ⟨b,off,none⟩/\b < w.heap.size/\l[k]? =some x/\
  w.cell? ⟨b,off+k*11,none⟩=some (AB AE x.op)/\
  w.cell? ⟨b,off+k*11+1,none⟩=some (AL x.a.name)/\
  w.cell? ⟨b,off+k*11+2,none⟩=some (AL x.a.path)/\
  w.cell? ⟨b,off+k*11+3,none⟩=some (AB AE x.a.var)/\
  w.cell? ⟨b,off+k*11+4,none⟩=some (AB AE x.a.field)/\
  w.cell? ⟨b,off+k*11+5,none⟩=some (AB AE x.a.n)/\
  w.cell? ⟨b,off+k*11+6,none⟩=some (AL x.b.name)/\
  w.cell? ⟨b,off+k*11+7,none⟩=some (AL x.b.path)/\
  w.cell? ⟨b,off+k*11+8,none⟩=some (AB AE x.b.var)/\
  w.cell? ⟨b,off+k*11+9,none⟩=some (AB AE x.b.field)/\
  w.cell? ⟨b,off+k*11+10,none⟩=some (AB AE x.b.n):=by
 obtain ⟨b,off,x,cs,e,hb,hl,hlen,hc,hR⟩:=h.at_ hk;have hR':cs=_:=hR;subst hR';exact ⟨b,off,x,e,hb,hl,by simpa using hc 0 _ rfl,by simpa [Nat.add_assoc] using hc 1 _ rfl,by simpa [Nat.add_assoc] using hc 2 _ rfl,by simpa [Nat.add_assoc] using hc 3 _ rfl,by simpa [Nat.add_assoc] using hc 4 _ rfl,by simpa [Nat.add_assoc] using hc 5 _ rfl,by simpa [Nat.add_assoc] using hc 6 _ rfl,by simpa [Nat.add_assoc] using hc 7 _ rfl,by simpa [Nat.add_assoc] using hc 8 _ rfl,by simpa [Nat.add_assoc] using hc 9 _ rfl,by simpa [Nat.add_assoc] using hc 10 _ rfl⟩
def DU (_:AH) (cs:List AN) (x:CO):Prop:=cs=[AL x.name,AL x.kind,AB AE x.schema,AL x.Au.name,AL x.Au.path,AB AE x.Au.var,AB AE x.Au.field,AB AE x.Au.n]
theorem EW:Ep DU:=fun _ _ _ _ _ h=>h
theorem xJ:One DU:=by rintro w cs x rfl u hu;simp only [B0,DX,DW] at hu;rcases hu with rfl | rfl | rfl | rfl | rfl | rfl | rfl | rfl <;> rfl
theorem QC {w:AH} {A:Option Aa} {n cap:Nat} {l:List CO} (h:Ag 8 DU w (AA A n cap) l) {k:Nat} (hk:k < n):
 ∃b off x,A=some ⟨b,off,none⟩/\b < w.heap.size/\l[k]? =some x/\
  w.cell? ⟨b,off+k*8,none⟩=some (AL x.name)/\
  w.cell? ⟨b,off+k*8+1,none⟩=some (AL x.kind)/\
  w.cell? ⟨b,off+k*8+2,none⟩=some (AB AE x.schema)/\
  w.cell? ⟨b,off+k*8+3,none⟩=some (AL x.Au.name)/\
  w.cell? ⟨b,off+k*8+4,none⟩=some (AL x.Au.path)/\
  w.cell? ⟨b,off+k*8+5,none⟩=some (AB AE x.Au.var)/\
  w.cell? ⟨b,off+k*8+6,none⟩=some (AB AE x.Au.field)/\
  w.cell? ⟨b,off+k*8+7,none⟩=some (AB AE x.Au.n):=by
 obtain ⟨b,off,x,cs,e,hb,hl,hlen,hc,hR⟩:=h.at_ hk;have hR':cs=_:=hR;subst hR';exact ⟨b,off,x,e,hb,hl,by simpa using hc 0 _ rfl,by simpa [Nat.add_assoc] using hc 1 _ rfl,by simpa [Nat.add_assoc] using hc 2 _ rfl,by simpa [Nat.add_assoc] using hc 3 _ rfl,by simpa [Nat.add_assoc] using hc 4 _ rfl,by simpa [Nat.add_assoc] using hc 5 _ rfl,by simpa [Nat.add_assoc] using hc 6 _ rfl,by simpa [Nat.add_assoc] using hc 7 _ rfl⟩
def Gs (_:AH) (cs:List AN) (x:Ma):Prop:=cs=[AL x.path,AB AE x.field,AL x.term.name,AL x.term.path,AB AE x.term.var,AB AE x.term.field,AB AE x.term.n]
theorem GK:Ep Gs:=fun _ _ _ _ _ h=>h
theorem ABd:One Gs:=by rintro w cs x rfl u hu;simp only [B0,DX,DW] at hu;rcases hu with rfl | rfl | rfl | rfl | rfl | rfl | rfl <;> rfl
theorem iP {w:AH} {A:Option Aa} {n cap:Nat} {l:List Ma} (h:Ag 7 Gs w (AA A n cap) l) {k:Nat} (hk:k < n):
 ∃b off x,A=some ⟨b,off,none⟩/\b < w.heap.size/\l[k]? =some x/\
  w.cell? ⟨b,off+k*7,none⟩=some (AL x.path)/\
  w.cell? ⟨b,off+k*7+1,none⟩=some (AB AE x.field)/\
  w.cell? ⟨b,off+k*7+2,none⟩=some (AL x.term.name)/\
  w.cell? ⟨b,off+k*7+3,none⟩=some (AL x.term.path)/\
  w.cell? ⟨b,off+k*7+4,none⟩=some (AB AE x.term.var)/\
  w.cell? ⟨b,off+k*7+5,none⟩=some (AB AE x.term.field)/\
  w.cell? ⟨b,off+k*7+6,none⟩=some (AB AE x.term.n):=by
 obtain ⟨b,off,x,cs,e,hb,hl,hlen,hc,hR⟩:=h.at_ hk;have hR':cs=_:=hR;subst hR';exact ⟨b,off,x,e,hb,hl,by simpa using hc 0 _ rfl,by simpa [Nat.add_assoc] using hc 1 _ rfl,by simpa [Nat.add_assoc] using hc 2 _ rfl,by simpa [Nat.add_assoc] using hc 3 _ rfl,by simpa [Nat.add_assoc] using hc 4 _ rfl,by simpa [Nat.add_assoc] using hc 5 _ rfl,by simpa [Nat.add_assoc] using hc 6 _ rfl⟩
def Gf (_:AH) (cs:List AN) (x:LL):Prop:=cs=[AL x.DS,AL x.from_,AB AE x.b,AB AE x.a,AB AE x.shift]
theorem GH:Ep Gf:=fun _ _ _ _ _ h=>h
theorem xI:One Gf:=by rintro w cs x rfl u hu;simp only [B0,DX,DW] at hu;rcases hu with rfl | rfl | rfl | rfl | rfl <;> rfl
theorem bD {w:AH} {A:Option Aa} {n cap:Nat} {l:List LL} (h:Ag 5 Gf w (AA A n cap) l) {k:Nat} (hk:k < n):
 ∃b off x,A=some ⟨b,off,none⟩/\b < w.heap.size/\l[k]? =some x/\
  w.cell? ⟨b,off+k*5,none⟩=some (AL x.DS)/\
  w.cell? ⟨b,off+k*5+1,none⟩=some (AL x.from_)/\
  w.cell? ⟨b,off+k*5+2,none⟩=some (AB AE x.b)/\
  w.cell? ⟨b,off+k*5+3,none⟩=some (AB AE x.a)/\
  w.cell? ⟨b,off+k*5+4,none⟩=some (AB AE x.shift):=by
 exact AAm
def Iq (_:AH) (cs:List AN) (x:Mb):Prop:=cs=[AL x.name,AL x.path,AB AE x.schema,AB AE x.field]
theorem Io:Ep Iq:=fun _ _ _ _ _ h=>h
theorem ABe:One Iq:=by rintro w cs x rfl u hu;simp only [B0,DX,DW] at hu;rcases hu with rfl | rfl | rfl | rfl <;> rfl
theorem iQ {w:AH} {A:Option Aa} {n cap:Nat} {l:List Mb} (h:Ag 4 Iq w (AA A n cap) l) {k:Nat} (hk:k < n):
 ∃b off x,A=some ⟨b,off,none⟩/\b < w.heap.size/\l[k]? =some x/\
  w.cell? ⟨b,off+k*4,none⟩=some (AL x.name)/\
  w.cell? ⟨b,off+k*4+1,none⟩=some (AL x.path)/\
  w.cell? ⟨b,off+k*4+2,none⟩=some (AB AE x.schema)/\
  w.cell? ⟨b,off+k*4+3,none⟩=some (AB AE x.field):=by
 obtain ⟨b,off,x,cs,e,hb,hl,hlen,hc,hR⟩:=h.at_ hk;have hR':cs=_:=hR;subst hR';exact ⟨b,off,x,e,hb,hl,by simpa using hc 0 _ rfl,by simpa [Nat.add_assoc] using hc 1 _ rfl,by simpa [Nat.add_assoc] using hc 2 _ rfl,by simpa [Nat.add_assoc] using hc 3 _ rfl⟩
def Nr (w:AH) (cs:List AN) (x:Fy):Prop:=∃A1 n1 c1,cs=[AB AE x.kind,AB AE x.lo,AB AE x.hi,AL x.Au,AB AE x.unit,AA A1 n1 c1]/\BV 1 16 Dd w (AA A1 n1 c1) x.names
theorem dg:One Nr:=by rintro w cs x ⟨A1,n1,c1,rfl,_⟩ u hu;simp only [B0,DX,DW] at hu;rcases hu with rfl | rfl | rfl | rfl | rfl | rfl <;> rfl
def Eg (w:AH) (cs:List AN) (x:Gn):Prop:=∃A1 n1 c1,cs=[AL x.name,AB AE x.type.kind,AB AE x.type.lo,AB AE x.type.hi,AL x.type.Au,AB AE x.type.unit,AA A1 n1 c1,AB AE x.w0,AB AE x.w1,AB AE x.w2,AB AE x.w3]/\BV 1 16 Dd w (AA A1 n1 c1) x.type.names
theorem DC:Ep Eg:=by rintro w w' hb cs x ⟨A1,n1,c1,h0,h1⟩;exact ⟨A1,n1,c1,h0,h1.mono BX hb⟩
theorem sP:One Eg:=by rintro w cs x ⟨A1,n1,c1,rfl,_⟩ u hu;simp only [B0,DX,DW] at hu;rcases hu with rfl | rfl | rfl | rfl | rfl | rfl | rfl | rfl | rfl | rfl | rfl <;> rfl
theorem Iz {w:AH} {A:Option Aa} {n cap:Nat} {l:List Gn} (h:Ag 11 Eg w (AA A n cap) l) {k:Nat} (hk:k < n):
 ∃b off x A1 n1 c1,A=some ⟨b,off,none⟩/\b < w.heap.size/\l[k]? =some x/\
  w.cell? ⟨b,off+k*11,none⟩=some (AL x.name)/\
  w.cell? ⟨b,off+k*11+1,none⟩=some (AB AE x.type.kind)/\
  w.cell? ⟨b,off+k*11+2,none⟩=some (AB AE x.type.lo)/\
  w.cell? ⟨b,off+k*11+3,none⟩=some (AB AE x.type.hi)/\
  w.cell? ⟨b,off+k*11+4,none⟩=some (AL x.type.Au)/\
  w.cell? ⟨b,off+k*11+5,none⟩=some (AB AE x.type.unit)/\
  w.cell? ⟨b,off+k*11+6,none⟩=some (AA A1 n1 c1)/\
  w.cell? ⟨b,off+k*11+7,none⟩=some (AB AE x.w0)/\
  w.cell? ⟨b,off+k*11+8,none⟩=some (AB AE x.w1)/\
  w.cell? ⟨b,off+k*11+9,none⟩=some (AB AE x.w2)/\
  w.cell? ⟨b,off+k*11+10,none⟩=some (AB AE x.w3)/\BV 1 16 Dd w (AA A1 n1 c1) x.type.names:=by
 obtain ⟨b,off,x,cs,e,hb,hl,hlen,hc,hR⟩:=h.at_ hk;obtain ⟨A1,n1,c1,rfl,h1⟩:=hR;exact ⟨b,off,x,A1,n1,c1,e,hb,hl,by simpa using hc 0 _ rfl,by simpa [Nat.add_assoc] using hc 1 _ rfl,by simpa [Nat.add_assoc] using hc 2 _ rfl,by simpa [Nat.add_assoc] using hc 3 _ rfl,by simpa [Nat.add_assoc] using hc 4 _ rfl,by simpa [Nat.add_assoc] using hc 5 _ rfl,by simpa [Nat.add_assoc] using hc 6 _ rfl,by simpa [Nat.add_assoc] using hc 7 _ rfl,by simpa [Nat.add_assoc] using hc 8 _ rfl,by simpa [Nat.add_assoc] using hc 9 _ rfl,by simpa [Nat.add_assoc] using hc 10 _ rfl,h1⟩
def Hw (w:AH) (cs:List AN) (x:M7):Prop:=∃A1 n1 c1 A2 n2 c2,cs=[AA A1 n1 c1,AL x.name,AA A2 n2 c2,AB AE x.dst]/\BV 1 16 Dd w (AA A1 n1 c1) x.names/\BV 1 8 iR w (AA A2 n2 c2) x.src
theorem GN:Ep Hw:=by rintro w w' hb cs x ⟨A1,n1,c1,A2,n2,c2,h0,h1,h2⟩;exact ⟨A1,n1,c1,A2,n2,c2,h0,h1.mono BX hb,h2.mono IZ hb⟩
theorem ABg:One Hw:=by rintro w cs x ⟨A1,n1,c1,A2,n2,c2,rfl,_⟩ u hu;simp only [B0,DX,DW] at hu;rcases hu with rfl | rfl | rfl | rfl <;> rfl
theorem vI {w:AH} {A:Option Aa} {n cap:Nat} {l:List M7} (h:Ag 4 Hw w (AA A n cap) l) {k:Nat} (hk:k < n):
 ∃b off x A1 n1 c1 A2 n2 c2,A=some ⟨b,off,none⟩/\b < w.heap.size/\l[k]? =some x/\
  w.cell? ⟨b,off+k*4,none⟩=some (AA A1 n1 c1)/\
  w.cell? ⟨b,off+k*4+1,none⟩=some (AL x.name)/\
  w.cell? ⟨b,off+k*4+2,none⟩=some (AA A2 n2 c2)/\
  w.cell? ⟨b,off+k*4+3,none⟩=some (AB AE x.dst)/\BV 1 16 Dd w (AA A1 n1 c1) x.names/\BV 1 8 iR w (AA A2 n2 c2) x.src:=by
 obtain ⟨b,off,x,cs,e,hb,hl,hlen,hc,hR⟩:=h.at_ hk;obtain ⟨A1,n1,c1,A2,n2,c2,rfl,h1,h2⟩:=hR;exact ⟨b,off,x,A1,n1,c1,A2,n2,c2,e,hb,hl,by simpa using hc 0 _ rfl,by simpa [Nat.add_assoc] using hc 1 _ rfl,by simpa [Nat.add_assoc] using hc 2 _ rfl,by simpa [Nat.add_assoc] using hc 3 _ rfl,h1,h2⟩
def BW (w:AH) (cs:List AN) (x:BM):Prop:=∃A1 n1 c1 A2 n2 c2,cs=[AL x.name,AL x.FX,AB AE x.Ar,AB AE x.version,AA A1 n1 c1,AA A2 n2 c2]/\BV 11 120 Eg w (AA A1 n1 c1) x.fields/\BV 4 72 Hw w (AA A2 n2 c2) x.deps
theorem BP:Ep BW:=by rintro w w' hb cs x ⟨A1,n1,c1,A2,n2,c2,h0,h1,h2⟩;exact ⟨A1,n1,c1,A2,n2,c2,h0,h1.mono DC hb,h2.mono GN hb⟩
theorem pB:One BW:=by rintro w cs x ⟨A1,n1,c1,A2,n2,c2,rfl,_⟩ u hu;simp only [B0,DX,DW] at hu;rcases hu with rfl | rfl | rfl | rfl | rfl | rfl <;> rfl
theorem GL {w:AH} {A:Option Aa} {n cap:Nat} {l:List BM} (h:Ag 6 BW w (AA A n cap) l) {k:Nat} (hk:k < n):
 ∃b off x A1 n1 c1 A2 n2 c2,A=some ⟨b,off,none⟩/\b < w.heap.size/\l[k]? =some x/\
  w.cell? ⟨b,off+k*6,none⟩=some (AL x.name)/\
  w.cell? ⟨b,off+k*6+1,none⟩=some (AL x.FX)/\
  w.cell? ⟨b,off+k*6+2,none⟩=some (AB AE x.Ar)/\
  w.cell? ⟨b,off+k*6+3,none⟩=some (AB AE x.version)/\
  w.cell? ⟨b,off+k*6+4,none⟩=some (AA A1 n1 c1)/\
  w.cell? ⟨b,off+k*6+5,none⟩=some (AA A2 n2 c2)/\BV 11 120 Eg w (AA A1 n1 c1) x.fields/\BV 4 72 Hw w (AA A2 n2 c2) x.deps:=by
 obtain ⟨b,off,x,cs,e,hb,hl,hlen,hc,hR⟩:=h.at_ hk;obtain ⟨A1,n1,c1,A2,n2,c2,rfl,h1,h2⟩:=hR;exact ⟨b,off,x,A1,n1,c1,A2,n2,c2,e,hb,hl,by simpa using hc 0 _ rfl,by simpa [Nat.add_assoc] using hc 1 _ rfl,by simpa [Nat.add_assoc] using hc 2 _ rfl,by simpa [Nat.add_assoc] using hc 3 _ rfl,by simpa [Nat.add_assoc] using hc 4 _ rfl,by simpa [Nat.add_assoc] using hc 5 _ rfl,h1,h2⟩
def CT (w:AH) (cs:List AN) (x:Cm):Prop:=∃A1 n1 c1 A2 n2 c2 A3 n3 c3,cs=[AL x.head,AB AE x.schema,AA A1 n1 c1,AA A2 n2 c2,AA A3 n3 c3]/\BV 8 96 DU w (AA A1 n1 c1) x.froms/\BV 11 120 Ea w (AA A2 n2 c2) x.C0/\BV 7 80 Gs w (AA A3 n3 c3) x.sets
theorem Bf:Ep CT:=by rintro w w' hb cs x ⟨A1,n1,c1,A2,n2,c2,A3,n3,c3,h0,h1,h2,h3⟩;exact ⟨A1,n1,c1,A2,n2,c2,A3,n3,c3,h0,h1.mono EW hb,h2.mono FZ hb,h3.mono GK hb⟩
theorem xH:One CT:=by rintro w cs x ⟨A1,n1,c1,A2,n2,c2,A3,n3,c3,rfl,_⟩ u hu;simp only [B0,DX,DW] at hu;rcases hu with rfl | rfl | rfl | rfl | rfl <;> rfl
theorem QB {w:AH} {A:Option Aa} {n cap:Nat} {l:List Cm} (h:Ag 5 CT w (AA A n cap) l) {k:Nat} (hk:k < n):
 ∃b off x A1 n1 c1 A2 n2 c2 A3 n3 c3,A=some ⟨b,off,none⟩/\b < w.heap.size/\l[k]? =some x/\
  w.cell? ⟨b,off+k*5,none⟩=some (AL x.head)/\
  w.cell? ⟨b,off+k*5+1,none⟩=some (AB AE x.schema)/\
  w.cell? ⟨b,off+k*5+2,none⟩=some (AA A1 n1 c1)/\
  w.cell? ⟨b,off+k*5+3,none⟩=some (AA A2 n2 c2)/\
  w.cell? ⟨b,off+k*5+4,none⟩=some (AA A3 n3 c3)/\BV 8 96 DU w (AA A1 n1 c1) x.froms/\BV 11 120 Ea w (AA A2 n2 c2) x.C0/\BV 7 80 Gs w (AA A3 n3 c3) x.sets:=by
 obtain ⟨b,off,x,cs,e,hb,hl,hlen,hc,hR⟩:=h.at_ hk;obtain ⟨A1,n1,c1,A2,n2,c2,A3,n3,c3,rfl,h1,h2,h3⟩:=hR;exact ⟨b,off,x,A1,n1,c1,A2,n2,c2,A3,n3,c3,e,hb,hl,by simpa using hc 0 _ rfl,by simpa [Nat.add_assoc] using hc 1 _ rfl,by simpa [Nat.add_assoc] using hc 2 _ rfl,by simpa [Nat.add_assoc] using hc 3 _ rfl,by simpa [Nat.add_assoc] using hc 4 _ rfl,h1,h2,h3⟩
def CF (w:AH) (cs:List AN) (x:DH):Prop:=∃A1 n1 c1,cs=[AL x.from_,AL x.DS,AB AE x.a,AB AE x.b,AA A1 n1 c1]/\BV 5 56 Gf w (AA A1 n1 c1) x.moves
theorem Bo:Ep CF:=by rintro w w' hb cs x ⟨A1,n1,c1,h0,h1⟩;exact ⟨A1,n1,c1,h0,h1.mono GH hb⟩
theorem mM:One CF:=by rintro w cs x ⟨A1,n1,c1,rfl,_⟩ u hu;simp only [B0,DX,DW] at hu;rcases hu with rfl | rfl | rfl | rfl | rfl <;> rfl
theorem Qc {w:AH} {A:Option Aa} {n cap:Nat} {l:List DH} (h:Ag 5 CF w (AA A n cap) l) {k:Nat} (hk:k < n):
 ∃b off x A1 n1 c1,A=some ⟨b,off,none⟩/\b < w.heap.size/\l[k]? =some x/\
  w.cell? ⟨b,off+k*5,none⟩=some (AL x.from_)/\
  w.cell? ⟨b,off+k*5+1,none⟩=some (AL x.DS)/\
  w.cell? ⟨b,off+k*5+2,none⟩=some (AB AE x.a)/\
  w.cell? ⟨b,off+k*5+3,none⟩=some (AB AE x.b)/\
  w.cell? ⟨b,off+k*5+4,none⟩=some (AA A1 n1 c1)/\BV 5 56 Gf w (AA A1 n1 c1) x.moves:=by
 obtain ⟨b,off,x,cs,e,hb,hl,hlen,hc,hR⟩:=h.at_ hk;obtain ⟨A1,n1,c1,rfl,h1⟩:=hR;exact ⟨b,off,x,A1,n1,c1,e,hb,hl,by simpa using hc 0 _ rfl,by simpa [Nat.add_assoc] using hc 1 _ rfl,by simpa [Nat.add_assoc] using hc 2 _ rfl,by simpa [Nat.add_assoc] using hc 3 _ rfl,by simpa [Nat.add_assoc] using hc 4 _ rfl,h1⟩
def BZ (w:AH) (cs:List AN) (x:Cl):Prop:=∃A1 n1 c1,cs=[AL x.name,AA A1 n1 c1,AB AE x.most]/\BV 4 48 Iq w (AA A1 n1 c1) x.may
theorem BQ:Ep BZ:=by rintro w w' hb cs x ⟨A1,n1,c1,h0,h1⟩;exact ⟨A1,n1,c1,h0,h1.mono Io hb⟩
theorem mJ:One BZ:=by rintro w cs x ⟨A1,n1,c1,rfl,_⟩ u hu;simp only [B0,DX,DW] at hu;rcases hu with rfl | rfl | rfl <;> rfl
theorem MX {w:AH} {A:Option Aa} {n cap:Nat} {l:List Cl} (h:Ag 3 BZ w (AA A n cap) l) {k:Nat} (hk:k < n):
 ∃b off x A1 n1 c1,A=some ⟨b,off,none⟩/\b < w.heap.size/\l[k]? =some x/\
  w.cell? ⟨b,off+k*3,none⟩=some (AL x.name)/\
  w.cell? ⟨b,off+k*3+1,none⟩=some (AA A1 n1 c1)/\
  w.cell? ⟨b,off+k*3+2,none⟩=some (AB AE x.most)/\BV 4 48 Iq w (AA A1 n1 c1) x.may:=by
 obtain ⟨b,off,x,cs,e,hb,hl,hlen,hc,hR⟩:=h.at_ hk;obtain ⟨A1,n1,c1,rfl,h1⟩:=hR;exact ⟨b,off,x,A1,n1,c1,e,hb,hl,by simpa using hc 0 _ rfl,by simpa [Nat.add_assoc] using hc 1 _ rfl,by simpa [Nat.add_assoc] using hc 2 _ rfl,h1⟩
def bC (w:AH) (cs:List AN) (x:BG):Prop:=∃A1 n1 c1 A2 n2 c2 A3 n3 c3 A4 n4 c4 A5 n5 c5 A6 n6 c6,cs=[AA A1 n1 c1,AA A2 n2 c2,AA A3 n3 c3,AA A4 n4 c4,AA A5 n5 c5,AA A6 n6 c6]/\BV 1 16 Dd w (AA A1 n1 c1) x.Bh/\BV 5 56 CS w (AA A2 n2 c2) x.units/\BV 6 96 BW w (AA A3 n3 c3) x.Aq/\BV 5 96 CT w (AA A4 n4 c4) x.rules/\BV 5 72 CF w (AA A5 n5 c5) x.converts/\BV 3 48 BZ w (AA A6 n6 c6) x.purposes
def Dw {α:Type} [DecidableEq α] (seen:List α):List α->Bool
 | []=>true
 | x::l=>if x∈seen then false else Dw (seen++[x]) l
def Mq (us:List Bv) (u:Bv):Bool:=
 decide (1<=u.scale) && decide (u.scale<=1099511627776) && decide (0<=u.base) && decide (u.base < us.length) && ((us[u.base.toNat]?).any fun b=>decide (b.scale=1))
def Jq (units:Nat) (t:Fy):Bool:=
 if t.kind=1 then decide (0<=t.lo) && decide (t.lo<=t.hi) && decide (t.hi<=1048576) && decide (-1<=t.unit) && decide (t.unit < units) && decide (t.names.length=0)
 else if t.kind=2 then decide (t.lo=0) && decide (t.hi=1023) && decide (t.unit= -1) && decide (t.names.length=0)
 else if t.kind=3 then decide (t.lo=0) && decide (t.hi=4095) && decide (t.unit= -1) && decide (t.names.length=0)
 else if t.kind=4 then decide (t.lo=0) && decide (t.hi=(t.names.length:Int) - 1) && decide (t.unit= -1) && decide (1<=t.names.length) && decide (t.names.length<=16) && Dw [] t.names
 else false
def Dm (w:Int):Bool:=decide (0<=w) && decide (w<=9)
def Km (units:Nat) (f:Gn):Bool:=Jq units f.type && (Dm f.w0 && (Dm f.w1 && (Dm f.w2 && Dm f.w3)))
def D5 (Bh units:Nat) (s:BM):Bool:=
 decide (0<=s.Ar) && decide (s.Ar < Bh) && decide (1<=s.version) && decide (s.version<=255) && decide (1<=s.fields.length) && decide (s.fields.length<=12) &&
  ((s.fields[0]?).any fun f=>decide (f.type.kind=3)) && s.fields.all (Km units)
def FW (s:BG):Bool:=
 decide (s.Bh.length<=8) && decide (s.units.length<=64) && decide (s.Aq.length<=16) && decide (s.rules.length<=16) && decide (s.converts.length<=16) && decide (s.purposes.length<=8) &&
  s.purposes.all fun p=>decide (p.may.length<=64)
open Go.MapKept (run_checkKey heap_set heap_alloc IsKey)
structure Tx (P:BE) (kt:Ae) {κ:Type} (ek:κ->AN):Prop where
 eq:∀(a b:κ) (w:AH),∃r:Bool,(Op.equal kt (ek a) (ek b)).run P w=.ok r w/\(r=true↔a=b)
 ck:∀(e:Bool) (a:κ) (w:AH),(Instr.checkKey e 10000 kt (ek a)).run P w=.ok () w
 sb:∀a:κ,Instr.sameBits 10000 (ek a) (ek a)=true
 un:∃d,P.underlying kt=some d/\∀(a b:κ) (r:Bool),Instr.sameNow d (ek a) (ek b)=some r->(r=true↔a=b)
section
variable {κ ν:Type} [DecidableEq κ]
def JT:List (κ×ν)->κ->Nat->Option (Nat×ν)
 | [],_,_=>none
 | p::m,k,i=>if k=p.1 then some (i,p.2) else JT m k (i+1)
def getM (m:List (κ×ν)) (k:κ):Option ν:=(JT m k 0).map (·.2)
def Hv:List (κ×ν)->κ->ν->List (κ×ν)
 | [],k,v=>[(k,v)]
 | p::m,k,v=>if k=p.1 then (k,v)::m else p::Hv m k v
theorem ABz (m:List (κ×ν)) (k:κ) (i j:Nat):(JT m k i).map (·.2)=(JT m k j).map (·.2):=by
 induction m generalizing i j with
 | nil=>rfl
 |
  cons p m ih=>
  unfold JT;split
  · rfl
  · exact ih _ _
theorem QL (k:κ):getM ([]:List (κ×ν)) k=none:=rfl
theorem Ok (p:κ×ν) (m:List (κ×ν)) (k:κ):getM (p::m) k=if k=p.1 then some p.2 else getM m k:=by
 simp only [getM];rw [JT];split
 · rfl
 · exact ABz m k _ _
theorem qP (m:List (κ×ν)) (k k':κ) (v:ν):getM (Hv m k v) k'=if k'=k then some v else getM m k':=by
 induction m with
 | nil=>simp only [Hv,Ok,QL]
 |
  cons p m ih=>
  unfold Hv;split
  ·rename_i h
   subst h;simp only [Ok];split <;> rfl
  rename_i h
  simp only [Ok,ih];split
  ·rename_i h2
   subst h2;rw [Ah (fun e=>h e.symm)]
  · rfl
def MapAt (ek:κ->AN) (ev:ν->AN) (w:AH) (b:Nat) (m:List (κ×ν)):Prop:=
 ∃es clock,w.heap[b]? =some (.map es clock)/\es.toList.map (fun e=>(e.key,e.val))=m.map (fun p=>(ek p.1,ev p.2))
variable {ek:κ->AN} {ev:ν->AN} {P:BE} {kt et t:Ae} {w w':AH} {b:Nat} {m:List (κ×ν)}
omit [DecidableEq κ] in
theorem MapAt.lt (h:MapAt ek ev w b m):b < w.heap.size:=by obtain ⟨es,clock,h,_⟩:=h;exact (DF.1 h).1
omit [DecidableEq κ] in
theorem MapAt.same (h:MapAt ek ev w b m) (hb:w'.heap[b]? =w.heap[b]?):MapAt ek ev w' b m:=by obtain ⟨es,clock,h,h2⟩:=h;exact ⟨es,clock,hb.trans h,h2⟩
omit [DecidableEq κ] in
theorem MapAt.grown {row:Option Nat} (h:MapAt ek ev w b m) (hg:w.grownBy w' row) (hne:some b≠row):MapAt ek ev w' b m:=
 h.same (hg.block b h.lt hne)
omit [DecidableEq κ] in
omit [DecidableEq κ] in
theorem MapAt.new (ek:κ->AN) (ev:ν->AN) (w:AH):MapAt ek ev (w.alloc (.map #[] 0)) w.heap.size []:=
 ⟨#[],0,(heap_alloc w _).1,rfl⟩
theorem ACT (K:Tx P kt ek) {d:TypeDesc} (hd:P.underlying kt=some d) (k:κ):∀(l:List MapEntry) (m:List (κ×ν)) (i:Nat),l.map (fun e=>(e.key,e.val))=m.map (fun p=>(ek p.1,ev p.2))->
 Instr.findNow d (ek k) l i=none\/Instr.findNow d (ek k) l i=some ((JT m k i).map (fun q=>(q.1,ev q.2))):=by
 intro l
 induction l with
 |
  nil=>
  intro m i h;cases m with
  | nil=>exact .inr rfl
  | cons p m=>simp at h
 |
  cons e l ih=>
  intro m i h;cases m with
  | nil=>simp at h
  |
   cons p m=>
   simp only [Fz,Rx,Gd] at h;obtain ⟨⟨h1,h2⟩,h3⟩:=h;obtain ⟨d',hd',hun⟩:=K.un;obtain rfl:d'=d:=by rw [hd] at hd';exact (DE hd').symm
   unfold Instr.findNow JT;rw [h1];cases hs:Instr.sameNow d' (ek k) (ek p.1) with
   | none=>exact .inl rfl
   |
    some r=>
    have hr:=hun _ _ _ hs;cases r with
    |
     true=>
     right;rw [Ak (hr.1 rfl)];simp [h2]
    |
     false=>
     rw [Ah (fun e=>by have:=hr.2 e;cases this)];exact ih m (i+1) h3
theorem qU (K:Tx P kt ek) (k:κ) (w:AH):∀(l:List MapEntry) (m:List (κ×ν)) (i:Nat),l.map (fun e=>(e.key,e.val))=m.map (fun p=>(ek p.1,ev p.2))->
 (Instr.findAsking kt (ek k) l i).run P w=.ok ((JT m k i).map (fun q=>(q.1,ev q.2))) w:=by
 intro l
 induction l with
 |
  nil=>
  intro m i h;cases m with
  | nil=>rfl
  | cons p m=>simp at h
 |
  cons e l ih=>
  intro m i h;cases m with
  | nil=>simp at h
  |
   cons p m=>
   simp only [Fz,Rx,Gd] at h;obtain ⟨⟨h1,h2⟩,h3⟩:=h;obtain ⟨r,hr,hiff⟩:=K.eq k p.1 w;unfold Instr.findAsking JT;simp only [Cp,h1,hr,Result.andThen_ok];cases r with
   | true=>rw [Ak (hiff.1 rfl)];simp [h2]
   |
    false=>
    have hk:¬k=p.1:=fun e=>by have:=hiff.2 e;cases this
    rw [Ah hk];simpa using ih m (i+1) h3
theorem YJ (K:Tx P kt ek) (k:κ) (w:AH) (l:List MapEntry) (m:List (κ×ν)) (h:l.map (fun e=>(e.key,e.val))=m.map (fun p=>(ek p.1,ev p.2))):
 (Instr.findKey kt (ek k) l).run P w=.ok ((JT m k 0).map (fun q=>(q.1,ev q.2))) w:=by
 obtain ⟨d,hd,hun⟩:=K.un;unfold Instr.findKey;simp only [Cp,Uw hd,Result.andThen_ok];rcases ACT (ev:=ev) K hd k l m 0 h with h1 | h1
 · rw [h1];exact qU K k w l m 0 h
 · rw [h1];rfl
theorem DT (K:Tx P kt ek) (ht:P.underlying t=some (.map kt et)) {z:AN} (hz:(zeroValue et).run P w=.ok z w) (h:MapAt ek ev w b m) (k:κ) (c:Bool):
 (Instr.lookup t (.map (some b)) (ek k) c).run P w=.ok (if c then .tuple #[((getM m k).map ev).getD z,Ab (getM m k).isSome] else ((getM m k).map ev).getD z) w:=by
 obtain ⟨es,clock,hb,hes⟩:=h;unfold Instr.lookup getM;simp only [Cp,Uw ht,Result.andThen_ok,fX hb,DL,K.ck,YJ (ev:=ev) K k w _ m hes];cases JT m k 0 with
 | none=>simp [hz]
 | some q=>simp
theorem X0 (ek:κ->AN) (ev:ν->AN) (k:κ) (v:ν):∀(l:List MapEntry) (m:List (κ×ν)) (i j:Nat) (x:ν),l.map (fun e=>(e.key,e.val))=m.map (fun p=>(ek p.1,ev p.2))->JT m k i=some (j,x)->
 i<=j/\(∃e,l[j - i]? =some e/\e.key=ek k)/\(l.modify (j - i) (fun e=>{e with key:=ek k,val:=ev v})).map (fun e=>(e.key,e.val))=(Hv m k v).map (fun p=>(ek p.1,ev p.2)):=by
 intro l
 induction l with
 |
  nil=>
  intro m i j x h;cases m with
  | nil=>intro h2;simp [JT] at h2
  | cons p m=>simp at h
 |
  cons e l ih=>
  intro m i j x h;cases m with
  | nil=>simp at h
  |
   cons p m=>
   simp only [Fz,Rx,Gd] at h;obtain ⟨⟨h1,h2⟩,h3⟩:=h;unfold JT Hv;split
   ·rename_i hk
    intro hs;simp only [Bz,Gd] at hs;obtain ⟨rfl,rfl⟩:=hs;refine ⟨Ac _,⟨e,by simp,by rw [h1,hk]⟩,?_⟩;simp [h3]
   rename_i hk
   intro hs;obtain ⟨a1,⟨e',a2,a3⟩,a4⟩:=ih m (i+1) j x h3 hs;have hj:j - i=(j - (i+1))+1:=AG
   refine ⟨by omega,⟨e',by rw [hj];simpa using a2,a3⟩,?_⟩;rw [hj,List.modify_succ_cons];simp [h1,h2,a4]
omit [DecidableEq κ] in
theorem jr [DecidableEq κ] (k:κ) (v:ν):∀(m:List (κ×ν)) (i:Nat),JT m k i=none->Hv m k v=m++[(k,v)]:=by
 intro m
 induction m with
 | nil=>intro i _;rfl
 |
  cons p m ih=>
  intro i h;unfold JT at h;unfold Hv;split at h
  · cases h
  rename_i hk
  rw [Ah hk,ih _ h];rfl
theorem FV (K:Tx P kt ek) (ht:P.underlying t=some (.map kt et)) (h:MapAt ek ev w b m) (k:κ) (v:ν):
 ∃w',(Instr.mapUpdate t (.map (some b)) (ek k) (ev v)).run P w=.ok () w'/\MapAt ek ev w' b (Hv m k v)/\w.grownBy w' (some b):=by
 have hlt:=h.lt;obtain ⟨es,clock,hb,hes⟩:=h;have hgrow:∀o:Obj,w.grownBy {w with heap:=w.heap.setIfInBounds b o} (some b):=fun o=>
  ⟨rfl,rfl,rfl,by simp,fun i _ hne=>(heap_set hb).2 i (fun e=>hne Kg)⟩
 unfold Instr.mapUpdate;simp only [Cp,Uw ht,Result.andThen_ok,fX hb,K.ck,YJ (ev:=ev) K k w _ m hes];cases hl:JT m k 0 with
 |
  none=>
  refine ⟨_,ZP _ hb,⟨_,_,(heap_set hb).1,?_⟩,hgrow _⟩;rw [jr k v m 0 hl];simp [hes]
 |
  some q=>
  obtain ⟨j,x⟩:=q;obtain ⟨_,⟨e,he,hek⟩,h3⟩:=X0 ek ev k v es.toList m 0 j x hes hl;simp only [Nat.sub_zero] at he h3;have he':es[j]? =some e:=by simpa using he
  simp only [C6,he',Ce,hek];unfold Instr.keyThatStays;rw [K.sb,Ak rfl];simp only [Cp,DL,Result.andThen_ok];refine ⟨_,ZP _ hb,⟨_,_,(heap_set hb).1,?_⟩,hgrow _⟩;simpa using h3
end
theorem I0 {P:BE} {kt:Ae} {q:IntKind} (hk:P.underlying kt=some (.int q)):Tx P kt (fun x:Int=>Value.int q x) where
 eq a b w:=⟨a==b,by simpa [Op.equal,Op.maxDepth] using MT w 9999 kt q q a b hk,by simp⟩
 ck e a w:=run_checkKey (d:=.int q) hk (by simp [IsKey]) e 9999
 sb a:=by simp [Instr.sameBits]
 un:=⟨_,hk,fun a b r h=>by simp [Instr.sameNow] at h;subst h;simp⟩
open Go.MapKept (run_checkKey heap_set heap_alloc IsKey)
theorem str_eq (a b:ByteArray):((a.toList==b.toList)=true)↔a=b:=by rw [beq_iff_eq,ByteArray.toList_eq,ByteArray.toList_eq];exact ⟨fun h=>WideShapes.bytes_inj h,fun h=>by rw [h]⟩
theorem ED (a b:ByteArray):(a.toList==b.toList)=decide (a=b):=by rw [Bool.eq_iff_iff,str_eq,By]
theorem ACi (a b:ByteArray):((a==b)=true)↔a=b:=by rw [beq_toListBytes];exact str_eq a b
theorem DQ {P:BE} {kt:Ae} (hk:P.underlying kt=some .string):Tx P kt (fun x:ByteArray=>Value.string x) where
 eq a b w:=⟨a.toList==b.toList,by simpa [Op.equal,Op.maxDepth] using Pu w 9999 kt a b hk,str_eq a b⟩
 ck e a w:=run_checkKey (d:=.string) hk (by simp [IsKey]) e 9999
 sb a:=by simp only [Instr.sameBits];exact (ACi a a).2 rfl
 un:=⟨_,hk,fun a b r h=>by simp only [Instr.sameNow,Bz] at h;subst h;exact ACi a b⟩
def FH {κ:Type} (l:List κ):List (κ×Bool):=l.map fun x=>(x,true)
theorem YF {κ:Type} [DecidableEq κ] (l:List κ) (x:κ):getM (FH l) x=if x∈l then some true else none:=by
 induction l with
 | nil=>simp [FH,QL]
 |
  cons y l ih=>
  have h:getM (FH (y::l)) x=if x=y then some true else getM (FH l) x:=Ok (y,true) (FH l) x
  rw [h,ih];by_cases e:x=y <;> simp [e]
theorem Xl {κ:Type} [DecidableEq κ] (l:List κ) (x:κ) (h:x∉l):Hv (FH l) x true=FH (l++[x]):=by
 induction l with
 | nil=>rfl
 |
  cons y l ih=>
  have e:¬x=y:=fun e=>h (by simp [e]);have h2:x∉l:=fun e=>h (by simp [e]);have:=ih h2;simp only [FH,Fz,MU] at this ⊢;rw [Hv,Ah e,this]
theorem bt (A:Option Aa) (n c:Nat) (l:List ByteArray) (w:AH) (hs:Ag 1 Dd w (AA A n c) l):
 AS prog 138 #[AA A n c] w fun e w'=>e=AW (Ab (Dw [] l))/\AK w w':=by
 have hn2:n<=9223372036854775807:=by have:=hs.le;omega
 obtain ⟨HN,HS⟩:=Al hs.len hs;clear hs;have hmm:∀(n:Int) (w:AH),(Instr.makeMap 319 (some (AB AE n))).run prog w=.ok (.map (some w.heap.size)) (w.alloc (.map #[] 0)):=by intro n w;simp [Instr.makeMap,run_underlying underlying319,asInt,asIntOf]
 obtain ⟨v,hv⟩:=BR (Dw [] l);rw [hv];have HV:AI (Dw (l.take 0) (l.drop 0)=v):=AF hv;clear hv;go_enter func138,ntmps138;go_wp2_with fail;clear hmm;have hm0:MapAt Value.string Value.bool (w.alloc (.map #[] 0)) w.heap.size (FH (l.take 0)):=MapAt.new _ _ w;have hb0:AK w (w.alloc (.map #[] 0)):=(Af _ _).alloc (Ac _) _;obtain ⟨Mh,HB0⟩:=Al hm0 hb0;clear hm0 hb0;go_loopg [11] n (fun g i wr=>∃k:Nat,k<=n/\g=n - k/\i=AB AE k/\Dw (l.take k) (l.drop k)=v/\MapAt Value.string Value.bool wr w.heap.size (FH (l.take k))/\AK w wr)
 case atStart=>exact AAz
 clear Mh HB0 HV;obtain ⟨k,hk,hg,rfl,hv,hm,hb⟩:=hrel;obtain ⟨HG,HB⟩:=Al hg hb;by_cases hlt:k < n
 ·obtain ⟨b,off,x,rfl,hbl,hx,hc⟩:=Xa (HS.o.mono BX HB.o) hlt
  rw [drop_cons hx,Dw] at hv;have hlook:=DT (DQ underlying9) underlying319 (z:=Ab false) AJ hm x false;rw [YF] at hlook;by_cases hmem:x∈l.take k
  ·rw [Ak hmem] at hv hlook
   exact AAY
  rw [Ah hmem] at hv hlook;simp only [Jd,Kd,IU,He] at hlook;obtain ⟨w3,hrun3,ER,hg3⟩:=FV (DQ underlying9) underlying319 hm x true;exact AAp
 exact AAN
theorem AHA (n:Nat):((n:Int)==0)=decide (n=0):=by by_cases h:n=0 <;> simp [h]
theorem ACA (k lo hi u:Int) (s:ByteArray) (A:Option Aa) (n c:Nat) (m:Int) (w:AH):
 AS prog 134 #[AP #[AB AE k,AB AE lo,AB AE hi,AL s,AB AE u,AA A n c],AB AE m] w fun e w'=>
  e=AW (Ab (decide (0<=lo) && decide (lo<=hi) && decide (hi<=1048576) && decide (-1<=u) && decide (u < m) && decide (n=0)))/\AK w w':=by
 go_enter func134,ntmps134;exact nQ
theorem AB9 (k lo hi u:Int) (s:ByteArray) (A:Option Aa) (n c:Nat) (m:Int) (w:AH):
 AS prog 135 #[AP #[AB AE k,AB AE lo,AB AE hi,AL s,AB AE u,AA A n c],AB AE m] w fun e w'=>
  e=AW (Ab (decide (lo=0) && decide (hi=1023) && decide (u= -1) && decide (n=0)))/\AK w w':=by
 go_enter func135,ntmps135;exact nQ
theorem AB8 (k lo hi u:Int) (s:ByteArray) (A:Option Aa) (n c:Nat) (m:Int) (w:AH):
 AS prog 136 #[AP #[AB AE k,AB AE lo,AB AE hi,AL s,AB AE u,AA A n c],AB AE m] w fun e w'=>
  e=AW (Ab (decide (lo=0) && decide (hi=4095) && decide (u= -1) && decide (n=0)))/\AK w w':=by
 go_enter func136,ntmps136;exact nQ
theorem AB7 (k lo hi u:Int) (s:ByteArray) (A:Option Aa) (n c:Nat) (m:Int) (l:List ByteArray) (w:AH) (hs:Ag 1 Dd w (AA A n c) l):
 AS prog 137 #[AP #[AB AE k,AB AE lo,AB AE hi,AL s,AB AE u,AA A n c],AB AE m] w fun e w'=>
  e=AW (Ab (decide (lo=0) && decide (hi=(n:Int) - 1) && decide (u= -1) && decide (1<=n) && decide (n<=16) && Dw [] l))/\AK w w':=by
 have hn2:n<=9223372036854775807:=by have:=hs.le;omega
 have HS:=AF hs;clear hs;go_enter func137,ntmps137;go_wp2_with (go_at_call 138;refine (bt _ _ _ l _ (HS.o.mono BX (BK _ _))).mono ?_;rintro e w1 ⟨rfl,hb1⟩)
 all_goals
  go_ret
  first
   | refine ⟨A8 ?_,(Af _ _).alloc (Ac _) _⟩
   | refine ⟨A8 ?_,Below.trans (BK _ _) (Below.mono hb1 AZ)⟩
  go_light
  first
   | (simp_all;done)
   | (simp_all;intros;exfalso;omega)
   | (simp_all;intros;omega)
def Sw:AN:=AP #[.nilFunc,.func (.func 134) #[] #[],.func (.func 135) #[] #[],.func (.func 136) #[] #[],.func (.func 137) #[] #[]]
theorem Tm (w:AH):AS prog 93 #[] w fun e w'=>e=AW Sw/\AK w w':=by go_enter func93,ntmps93;go_wp2_with fail;exact FN (v:=Sw) (by simp [results,results93,go_sem,Sw]) rfl ⟨rfl,(Af _ _).alloc (Ac _) _⟩
theorem wR (A1 A2 A3 A4 A5 A6:Option Aa) (n1 c1 n2 c2 n3 c3 n4 c4 n5 c5 n6 c6:Nat) (u:Bv) (us:List Bv) (w:AH) (h2:Ag 5 CS w (AA A2 n2 c2) us):
 AS prog 107 #[(AP #[AA A1 n1 c1,AA A2 n2 c2,AA A3 n3 c3,AA A4 n4 c4,AA A5 n5 c5,AA A6 n6 c6]),AP #[AL u.name,AL u.Au,AB AE u.factor,AB AE u.base,AB AE u.scale]] w fun e w'=>
  e=AW (Ab (Mq us u))/\AK w w':=by
 have hn2:n2<=9223372036854775807:=by have:=h2.le;omega
 have hln:=h2.len;have H2:=AF h2;clear h2;obtain ⟨nm,Au,fa,ba,sc⟩:=u;unfold Mq;simp only;by_cases hin:0<=ba/\ba < n2
 ·obtain ⟨k,rfl⟩:∃k:Nat,ba=k:=⟨ba.toNat,by omega⟩
  have hk:k < n2:=AG
  obtain ⟨b,off,x,rfl,hbl,hx,e0,e1,e2,e3,e4⟩:=OE H2.o hk;have hx2:us[(k:Int).toNat]? =some x:=by simpa using hx
  rw [hx2,<-hln];have hk0:=Int.natCast_nonneg k
  have hkn:(k:Int) < (n2:Int):=AG
  clear hx hx2 hin hln;go_enter func107,ntmps107;go_wp2_with fail
  all_goals
   go_ret;refine ⟨A8 ?_,((BK _ _).alloc AZ _)⟩
   go_light
   first
    | (simp_all;done)
    | (simp_all;intros;exfalso;omega)
    | (simp_all;rfl)
 have hf:(decide (0<=ba) && decide (ba < us.length))=false:=by rw [<-hln];simp only [NJ,NK];omega
 clear hln;go_enter func107,ntmps107;go_wp2_with fail
 all_goals
  go_ret;refine ⟨A8 ?_,((BK _ _).alloc AZ _)⟩
  go_light
  first
   | (simp_all;done)
   | (simp_all;intros;exfalso;omega)
   | (simp_all;intros;omega)
   | (exfalso;omega)
theorem bj (d:Nat) (x y:EF) (w:AH):(Op.equalIn (d+2) 279 (AP #[AL x.name,AL x.path,AB AE x.var,AB AE x.field,AB AE x.n]) (AP #[AL y.name,AL y.path,AB AE y.var,AB AE y.field,AB AE y.n])).run prog w=.ok (decide (x=y)) w:=by
 have hu:=underlying279;have hp:prog.stoodInHeld 279=false:=AJ
 have ht:prog.underlying 279=some (.struct (prog.fieldsOf 279)):=by rw [Program.fieldsOf,hu]
 have h1:prog.plainKey 9=true:=AJ
 have h2:prog.plainKey 3=true:=AJ
 rw [Pv w (d+1) 279 _ _ ht hp,Program.fieldsOf,hu];have es:∀(a b:ByteArray),(Op.equalIn (d+1) 9 (AL a) (AL b)).run prog w=.ok (decide (a=b)) w:=fun a b=>by rw [Pu w (d+0) 9 a b underlying9,ED]
 have ei:∀(a b:Int),(Op.equalIn (d+1) 3 (AB AE a) (AB AE b)).run prog w=.ok (decide (a=b)) w:=fun a b=>by rw [MT w (d+0) 3 .i64 .i64 a b underlying3];rfl
 have VQ:=Be (P:=prog) w h1 (xs:=#[AL x.name,AL x.path,AB AE x.var,AB AE x.field,AB AE x.n]) (off:=0) (v:=AL x.name) rfl;have VN:=Be (P:=prog) w h1 (xs:=#[AL y.name,AL y.path,AB AE y.var,AB AE y.field,AB AE y.n]) (off:=0) (v:=AL y.name) rfl;have VP:=Be (P:=prog) w h1 (xs:=#[AL x.name,AL x.path,AB AE x.var,AB AE x.field,AB AE x.n]) (off:=1) (v:=AL x.path) rfl;have VM:=Be (P:=prog) w h1 (xs:=#[AL y.name,AL y.path,AB AE y.var,AB AE y.field,AB AE y.n]) (off:=1) (v:=AL y.path) rfl;have VO:=Be (P:=prog) w h2 (xs:=#[AL x.name,AL x.path,AB AE x.var,AB AE x.field,AB AE x.n]) (off:=2) (v:=AB AE x.var) rfl;have VL:=Be (P:=prog) w h2 (xs:=#[AL y.name,AL y.path,AB AE y.var,AB AE y.field,AB AE y.n]) (off:=2) (v:=AB AE y.var) rfl;have df:=Be (P:=prog) w h2 (xs:=#[AL x.name,AL x.path,AB AE x.var,AB AE x.field,AB AE x.n]) (off:=3) (v:=AB AE x.field) rfl;have de:=Be (P:=prog) w h2 (xs:=#[AL y.name,AL y.path,AB AE y.var,AB AE y.field,AB AE y.n]) (off:=3) (v:=AB AE y.field) rfl;have qx4:=Be (P:=prog) w h2 (xs:=#[AL x.name,AL x.path,AB AE x.var,AB AE x.field,AB AE x.n]) (off:=4) (v:=AB AE x.n) rfl;have qy4:=Be (P:=prog) w h2 (xs:=#[AL y.name,AL y.path,AB AE y.var,AB AE y.field,AB AE y.n]) (off:=4) (v:=AB AE y.n) rfl;simp [Op.eqFields,VQ,VN,VP,VM,VO,VL,df,de,qx4,qy4,es,ei,Result.andThen_ok];obtain ⟨x0,x1,x2,x3,x4⟩:=x;obtain ⟨y0,y1,y2,y3,y4⟩:=y;simp only [EF.mk.injEq];exact nS
theorem AE4 (d:Nat) (x y:Bv) (w:AH):(Op.equalIn (d+2) 201 (AP #[AL x.name,AL x.Au,AB AE x.factor,AB AE x.base,AB AE x.scale]) (AP #[AL y.name,AL y.Au,AB AE y.factor,AB AE y.base,AB AE y.scale])).run prog w=.ok (decide (x=y)) w:=by
 have hu:=underlying201;have hp:prog.stoodInHeld 201=false:=AJ
 have ht:prog.underlying 201=some (.struct (prog.fieldsOf 201)):=by rw [Program.fieldsOf,hu]
 have h1:prog.plainKey 9=true:=AJ
 have h2:prog.plainKey 3=true:=AJ
 rw [Pv w (d+1) 201 _ _ ht hp,Program.fieldsOf,hu];have es:∀(a b:ByteArray),(Op.equalIn (d+1) 9 (AL a) (AL b)).run prog w=.ok (decide (a=b)) w:=fun a b=>by rw [Pu w (d+0) 9 a b underlying9,ED]
 have ei:∀(a b:Int),(Op.equalIn (d+1) 3 (AB AE a) (AB AE b)).run prog w=.ok (decide (a=b)) w:=fun a b=>by rw [MT w (d+0) 3 .i64 .i64 a b underlying3];rfl
 have VQ:=Be (P:=prog) w h1 (xs:=#[AL x.name,AL x.Au,AB AE x.factor,AB AE x.base,AB AE x.scale]) (off:=0) (v:=AL x.name) rfl;have VN:=Be (P:=prog) w h1 (xs:=#[AL y.name,AL y.Au,AB AE y.factor,AB AE y.base,AB AE y.scale]) (off:=0) (v:=AL y.name) rfl;have VP:=Be (P:=prog) w h1 (xs:=#[AL x.name,AL x.Au,AB AE x.factor,AB AE x.base,AB AE x.scale]) (off:=1) (v:=AL x.Au) rfl;have VM:=Be (P:=prog) w h1 (xs:=#[AL y.name,AL y.Au,AB AE y.factor,AB AE y.base,AB AE y.scale]) (off:=1) (v:=AL y.Au) rfl;have VO:=Be (P:=prog) w h2 (xs:=#[AL x.name,AL x.Au,AB AE x.factor,AB AE x.base,AB AE x.scale]) (off:=2) (v:=AB AE x.factor) rfl;have VL:=Be (P:=prog) w h2 (xs:=#[AL y.name,AL y.Au,AB AE y.factor,AB AE y.base,AB AE y.scale]) (off:=2) (v:=AB AE y.factor) rfl;have df:=Be (P:=prog) w h2 (xs:=#[AL x.name,AL x.Au,AB AE x.factor,AB AE x.base,AB AE x.scale]) (off:=3) (v:=AB AE x.base) rfl;have de:=Be (P:=prog) w h2 (xs:=#[AL y.name,AL y.Au,AB AE y.factor,AB AE y.base,AB AE y.scale]) (off:=3) (v:=AB AE y.base) rfl;have qx4:=Be (P:=prog) w h2 (xs:=#[AL x.name,AL x.Au,AB AE x.factor,AB AE x.base,AB AE x.scale]) (off:=4) (v:=AB AE x.scale) rfl;have qy4:=Be (P:=prog) w h2 (xs:=#[AL y.name,AL y.Au,AB AE y.factor,AB AE y.base,AB AE y.scale]) (off:=4) (v:=AB AE y.scale) rfl;simp [Op.eqFields,VQ,VN,VP,VM,VO,VL,df,de,qx4,qy4,es,ei,Result.andThen_ok];obtain ⟨x0,x1,x2,x3,x4⟩:=x;obtain ⟨y0,y1,y2,y3,y4⟩:=y;simp only [Bv.mk.injEq];exact nS
theorem AGl (x y:Bv) (w:AH):(binOp .neq 201 (AP #[AL x.name,AL x.Au,AB AE x.factor,AB AE x.base,AB AE x.scale]) (AP #[AL y.name,AL y.Au,AB AE y.factor,AB AE y.base,AB AE y.scale])).run prog w=.ok (Ab (!decide (x=y))) w:=by rw [Rv w,AE4 9998 x y w];rfl
theorem AE5 (d:Nat) (x y:LL) (w:AH):(Op.equalIn (d+2) 294 (AP #[AL x.DS,AL x.from_,AB AE x.b,AB AE x.a,AB AE x.shift]) (AP #[AL y.DS,AL y.from_,AB AE y.b,AB AE y.a,AB AE y.shift])).run prog w=.ok (decide (x=y)) w:=by
 have hu:=underlying294;have hp:prog.stoodInHeld 294=false:=AJ
 have ht:prog.underlying 294=some (.struct (prog.fieldsOf 294)):=by rw [Program.fieldsOf,hu]
 have h1:prog.plainKey 9=true:=AJ
 have h2:prog.plainKey 3=true:=AJ
 rw [Pv w (d+1) 294 _ _ ht hp,Program.fieldsOf,hu];have es:∀(a b:ByteArray),(Op.equalIn (d+1) 9 (AL a) (AL b)).run prog w=.ok (decide (a=b)) w:=fun a b=>by rw [Pu w (d+0) 9 a b underlying9,ED]
 have ei:∀(a b:Int),(Op.equalIn (d+1) 3 (AB AE a) (AB AE b)).run prog w=.ok (decide (a=b)) w:=fun a b=>by rw [MT w (d+0) 3 .i64 .i64 a b underlying3];rfl
 have VQ:=Be (P:=prog) w h1 (xs:=#[AL x.DS,AL x.from_,AB AE x.b,AB AE x.a,AB AE x.shift]) (off:=0) (v:=AL x.DS) rfl;have VN:=Be (P:=prog) w h1 (xs:=#[AL y.DS,AL y.from_,AB AE y.b,AB AE y.a,AB AE y.shift]) (off:=0) (v:=AL y.DS) rfl;have VP:=Be (P:=prog) w h1 (xs:=#[AL x.DS,AL x.from_,AB AE x.b,AB AE x.a,AB AE x.shift]) (off:=1) (v:=AL x.from_) rfl;have VM:=Be (P:=prog) w h1 (xs:=#[AL y.DS,AL y.from_,AB AE y.b,AB AE y.a,AB AE y.shift]) (off:=1) (v:=AL y.from_) rfl;have VO:=Be (P:=prog) w h2 (xs:=#[AL x.DS,AL x.from_,AB AE x.b,AB AE x.a,AB AE x.shift]) (off:=2) (v:=AB AE x.b) rfl;have VL:=Be (P:=prog) w h2 (xs:=#[AL y.DS,AL y.from_,AB AE y.b,AB AE y.a,AB AE y.shift]) (off:=2) (v:=AB AE y.b) rfl;have df:=Be (P:=prog) w h2 (xs:=#[AL x.DS,AL x.from_,AB AE x.b,AB AE x.a,AB AE x.shift]) (off:=3) (v:=AB AE x.a) rfl;have de:=Be (P:=prog) w h2 (xs:=#[AL y.DS,AL y.from_,AB AE y.b,AB AE y.a,AB AE y.shift]) (off:=3) (v:=AB AE y.a) rfl;have qx4:=Be (P:=prog) w h2 (xs:=#[AL x.DS,AL x.from_,AB AE x.b,AB AE x.a,AB AE x.shift]) (off:=4) (v:=AB AE x.shift) rfl;have qy4:=Be (P:=prog) w h2 (xs:=#[AL y.DS,AL y.from_,AB AE y.b,AB AE y.a,AB AE y.shift]) (off:=4) (v:=AB AE y.shift) rfl;simp [Op.eqFields,VQ,VN,VP,VM,VO,VL,df,de,qx4,qy4,es,ei,Result.andThen_ok];obtain ⟨x0,x1,x2,x3,x4⟩:=x;obtain ⟨y0,y1,y2,y3,y4⟩:=y;simp only [LL.mk.injEq];exact nS
theorem AGm (x y:LL) (w:AH):(binOp .neq 294 (AP #[AL x.DS,AL x.from_,AB AE x.b,AB AE x.a,AB AE x.shift]) (AP #[AL y.DS,AL y.from_,AB AE y.b,AB AE y.a,AB AE y.shift])).run prog w=.ok (Ab (!decide (x=y))) w:=by rw [Rv w,AE5 9998 x y w];rfl
theorem AG2 (d:Nat) (x y:Mb) (w:AH):(Op.equalIn (d+2) 288 (AP #[AL x.name,AL x.path,AB AE x.schema,AB AE x.field]) (AP #[AL y.name,AL y.path,AB AE y.schema,AB AE y.field])).run prog w=.ok (decide (x=y)) w:=by
 have hu:=underlying288;have hp:prog.stoodInHeld 288=false:=AJ
 have ht:prog.underlying 288=some (.struct (prog.fieldsOf 288)):=by rw [Program.fieldsOf,hu]
 have h1:prog.plainKey 9=true:=AJ
 have h2:prog.plainKey 3=true:=AJ
 rw [Pv w (d+1) 288 _ _ ht hp,Program.fieldsOf,hu];have es:∀(a b:ByteArray),(Op.equalIn (d+1) 9 (AL a) (AL b)).run prog w=.ok (decide (a=b)) w:=fun a b=>by rw [Pu w (d+0) 9 a b underlying9,ED]
 have ei:∀(a b:Int),(Op.equalIn (d+1) 3 (AB AE a) (AB AE b)).run prog w=.ok (decide (a=b)) w:=fun a b=>by rw [MT w (d+0) 3 .i64 .i64 a b underlying3];rfl
 have VQ:=Be (P:=prog) w h1 (xs:=#[AL x.name,AL x.path,AB AE x.schema,AB AE x.field]) (off:=0) (v:=AL x.name) rfl;have VN:=Be (P:=prog) w h1 (xs:=#[AL y.name,AL y.path,AB AE y.schema,AB AE y.field]) (off:=0) (v:=AL y.name) rfl;have VP:=Be (P:=prog) w h1 (xs:=#[AL x.name,AL x.path,AB AE x.schema,AB AE x.field]) (off:=1) (v:=AL x.path) rfl;have VM:=Be (P:=prog) w h1 (xs:=#[AL y.name,AL y.path,AB AE y.schema,AB AE y.field]) (off:=1) (v:=AL y.path) rfl;have VO:=Be (P:=prog) w h2 (xs:=#[AL x.name,AL x.path,AB AE x.schema,AB AE x.field]) (off:=2) (v:=AB AE x.schema) rfl;have VL:=Be (P:=prog) w h2 (xs:=#[AL y.name,AL y.path,AB AE y.schema,AB AE y.field]) (off:=2) (v:=AB AE y.schema) rfl;have df:=Be (P:=prog) w h2 (xs:=#[AL x.name,AL x.path,AB AE x.schema,AB AE x.field]) (off:=3) (v:=AB AE x.field) rfl;have de:=Be (P:=prog) w h2 (xs:=#[AL y.name,AL y.path,AB AE y.schema,AB AE y.field]) (off:=3) (v:=AB AE y.field) rfl;simp [Op.eqFields,VQ,VN,VP,VM,VO,VL,df,de,es,ei,Result.andThen_ok];obtain ⟨x0,x1,x2,x3⟩:=x;obtain ⟨y0,y1,y2,y3⟩:=y;simp only [Mb.mk.injEq];exact AAb
theorem AHZ (x y:Mb) (w:AH):(binOp .neq 288 (AP #[AL x.name,AL x.path,AB AE x.schema,AB AE x.field]) (AP #[AL y.name,AL y.path,AB AE y.schema,AB AE y.field])).run prog w=.ok (Ab (!decide (x=y))) w:=by rw [Rv w,AG2 9998 x y w];rfl
theorem AE6 (d:Nat) (x y:CO) (w:AH):(Op.equalIn (d+3) 298 (AP #[AL x.name,AL x.kind,AB AE x.schema,AL x.Au.name,AL x.Au.path,AB AE x.Au.var,AB AE x.Au.field,AB AE x.Au.n]) (AP #[AL y.name,AL y.kind,AB AE y.schema,AL y.Au.name,AL y.Au.path,AB AE y.Au.var,AB AE y.Au.field,AB AE y.Au.n])).run prog w=.ok (decide (x=y)) w:=by
 have hu:=underlying298;have hp:prog.stoodInHeld 298=false:=AJ
 have ht:prog.underlying 298=some (.struct (prog.fieldsOf 298)):=by rw [Program.fieldsOf,hu]
 have h1:prog.plainKey 9=true:=AJ
 have h2:prog.plainKey 3=true:=AJ
 rw [Pv w (d+2) 298 _ _ ht hp,Program.fieldsOf,hu];have es:∀(a b:ByteArray),(Op.equalIn (d+2) 9 (AL a) (AL b)).run prog w=.ok (decide (a=b)) w:=fun a b=>by rw [Pu w (d+1) 9 a b underlying9,ED]
 have ei:∀(a b:Int),(Op.equalIn (d+2) 3 (AB AE a) (AB AE b)).run prog w=.ok (decide (a=b)) w:=fun a b=>by rw [MT w (d+1) 3 .i64 .i64 a b underlying3];rfl
 have VQ:=Be (P:=prog) w h1 (xs:=#[AL x.name,AL x.kind,AB AE x.schema,AL x.Au.name,AL x.Au.path,AB AE x.Au.var,AB AE x.Au.field,AB AE x.Au.n]) (off:=0) (v:=AL x.name) rfl;have VN:=Be (P:=prog) w h1 (xs:=#[AL y.name,AL y.kind,AB AE y.schema,AL y.Au.name,AL y.Au.path,AB AE y.Au.var,AB AE y.Au.field,AB AE y.Au.n]) (off:=0) (v:=AL y.name) rfl;have VP:=Be (P:=prog) w h1 (xs:=#[AL x.name,AL x.kind,AB AE x.schema,AL x.Au.name,AL x.Au.path,AB AE x.Au.var,AB AE x.Au.field,AB AE x.Au.n]) (off:=1) (v:=AL x.kind) rfl;have VM:=Be (P:=prog) w h1 (xs:=#[AL y.name,AL y.kind,AB AE y.schema,AL y.Au.name,AL y.Au.path,AB AE y.Au.var,AB AE y.Au.field,AB AE y.Au.n]) (off:=1) (v:=AL y.kind) rfl;have VO:=Be (P:=prog) w h2 (xs:=#[AL x.name,AL x.kind,AB AE x.schema,AL x.Au.name,AL x.Au.path,AB AE x.Au.var,AB AE x.Au.field,AB AE x.Au.n]) (off:=2) (v:=AB AE x.schema) rfl;have VL:=Be (P:=prog) w h2 (xs:=#[AL y.name,AL y.kind,AB AE y.schema,AL y.Au.name,AL y.Au.path,AB AE y.Au.var,AB AE y.Au.field,AB AE y.Au.n]) (off:=2) (v:=AB AE y.schema) rfl;have df:(part 279 #[AL x.name,AL x.kind,AB AE x.schema,AL x.Au.name,AL x.Au.path,AB AE x.Au.var,AB AE x.Au.field,AB AE x.Au.n] 3).run prog w=.ok (AP #[AL x.Au.name,AL x.Au.path,AB AE x.Au.var,AB AE x.Au.field,AB AE x.Au.n]) w:=by
  exact Qh
 have de:(part 279 #[AL y.name,AL y.kind,AB AE y.schema,AL y.Au.name,AL y.Au.path,AB AE y.Au.var,AB AE y.Au.field,AB AE y.Au.n] 3).run prog w=.ok (AP #[AL y.Au.name,AL y.Au.path,AB AE y.Au.var,AB AE y.Au.field,AB AE y.Au.n]) w:=by
  exact Qh
 simp [Op.eqFields,VQ,VN,VP,VM,VO,VL,df,de,es,ei,bj d,Result.andThen_ok];obtain ⟨x0,x1,x2,x3⟩:=x;obtain ⟨y0,y1,y2,y3⟩:=y;simp only [CO.mk.injEq];exact AAb
theorem AGn (x y:CO) (w:AH):(binOp .neq 298 (AP #[AL x.name,AL x.kind,AB AE x.schema,AL x.Au.name,AL x.Au.path,AB AE x.Au.var,AB AE x.Au.field,AB AE x.Au.n]) (AP #[AL y.name,AL y.kind,AB AE y.schema,AL y.Au.name,AL y.Au.path,AB AE y.Au.var,AB AE y.Au.field,AB AE y.Au.n])).run prog w=.ok (Ab (!decide (x=y))) w:=by rw [Rv w,AE6 9997 x y w];rfl
theorem AE7 (d:Nat) (x y:Iv) (w:AH):(Op.equalIn (d+3) 281 (AP #[AB AE x.op,AL x.a.name,AL x.a.path,AB AE x.a.var,AB AE x.a.field,AB AE x.a.n,AL x.b.name,AL x.b.path,AB AE x.b.var,AB AE x.b.field,AB AE x.b.n]) (AP #[AB AE y.op,AL y.a.name,AL y.a.path,AB AE y.a.var,AB AE y.a.field,AB AE y.a.n,AL y.b.name,AL y.b.path,AB AE y.b.var,AB AE y.b.field,AB AE y.b.n])).run prog w=.ok (decide (x=y)) w:=by
 have hu:=underlying281;have hp:prog.stoodInHeld 281=false:=AJ
 have ht:prog.underlying 281=some (.struct (prog.fieldsOf 281)):=by rw [Program.fieldsOf,hu]
 have h1:prog.plainKey 9=true:=AJ
 have h2:prog.plainKey 3=true:=AJ
 rw [Pv w (d+2) 281 _ _ ht hp,Program.fieldsOf,hu];have ei:∀(a b:Int),(Op.equalIn (d+2) 3 (AB AE a) (AB AE b)).run prog w=.ok (decide (a=b)) w:=fun a b=>by rw [MT w (d+1) 3 .i64 .i64 a b underlying3];rfl
 have VQ:=Be (P:=prog) w h2 (xs:=#[AB AE x.op,AL x.a.name,AL x.a.path,AB AE x.a.var,AB AE x.a.field,AB AE x.a.n,AL x.b.name,AL x.b.path,AB AE x.b.var,AB AE x.b.field,AB AE x.b.n]) (off:=0) (v:=AB AE x.op) rfl;have VN:=Be (P:=prog) w h2 (xs:=#[AB AE y.op,AL y.a.name,AL y.a.path,AB AE y.a.var,AB AE y.a.field,AB AE y.a.n,AL y.b.name,AL y.b.path,AB AE y.b.var,AB AE y.b.field,AB AE y.b.n]) (off:=0) (v:=AB AE y.op) rfl;have VP:(part 279 #[AB AE x.op,AL x.a.name,AL x.a.path,AB AE x.a.var,AB AE x.a.field,AB AE x.a.n,AL x.b.name,AL x.b.path,AB AE x.b.var,AB AE x.b.field,AB AE x.b.n] 1).run prog w=.ok (AP #[AL x.a.name,AL x.a.path,AB AE x.a.var,AB AE x.a.field,AB AE x.a.n]) w:=by
  exact Qh
 have VM:(part 279 #[AB AE y.op,AL y.a.name,AL y.a.path,AB AE y.a.var,AB AE y.a.field,AB AE y.a.n,AL y.b.name,AL y.b.path,AB AE y.b.var,AB AE y.b.field,AB AE y.b.n] 1).run prog w=.ok (AP #[AL y.a.name,AL y.a.path,AB AE y.a.var,AB AE y.a.field,AB AE y.a.n]) w:=by
  exact Qh
 have VO:(part 279 #[AB AE x.op,AL x.a.name,AL x.a.path,AB AE x.a.var,AB AE x.a.field,AB AE x.a.n,AL x.b.name,AL x.b.path,AB AE x.b.var,AB AE x.b.field,AB AE x.b.n] 6).run prog w=.ok (AP #[AL x.b.name,AL x.b.path,AB AE x.b.var,AB AE x.b.field,AB AE x.b.n]) w:=by
  exact Qh
 have VL:(part 279 #[AB AE y.op,AL y.a.name,AL y.a.path,AB AE y.a.var,AB AE y.a.field,AB AE y.a.n,AL y.b.name,AL y.b.path,AB AE y.b.var,AB AE y.b.field,AB AE y.b.n] 6).run prog w=.ok (AP #[AL y.b.name,AL y.b.path,AB AE y.b.var,AB AE y.b.field,AB AE y.b.n]) w:=by
  exact Qh
 simp [Op.eqFields,VQ,VN,VP,VM,VO,VL,ei,bj d,Result.andThen_ok];obtain ⟨x0,x1,x2⟩:=x;obtain ⟨y0,y1,y2⟩:=y;simp only [Iv.mk.injEq];exact AAT
theorem AGo (x y:Iv) (w:AH):(binOp .neq 281 (AP #[AB AE x.op,AL x.a.name,AL x.a.path,AB AE x.a.var,AB AE x.a.field,AB AE x.a.n,AL x.b.name,AL x.b.path,AB AE x.b.var,AB AE x.b.field,AB AE x.b.n]) (AP #[AB AE y.op,AL y.a.name,AL y.a.path,AB AE y.a.var,AB AE y.a.field,AB AE y.a.n,AL y.b.name,AL y.b.path,AB AE y.b.var,AB AE y.b.field,AB AE y.b.n])).run prog w=.ok (Ab (!decide (x=y))) w:=by rw [Rv w,AE7 9997 x y w];rfl
theorem AG1 (d:Nat) (x y:Ma) (w:AH):(Op.equalIn (d+3) 284 (AP #[AL x.path,AB AE x.field,AL x.term.name,AL x.term.path,AB AE x.term.var,AB AE x.term.field,AB AE x.term.n]) (AP #[AL y.path,AB AE y.field,AL y.term.name,AL y.term.path,AB AE y.term.var,AB AE y.term.field,AB AE y.term.n])).run prog w=.ok (decide (x=y)) w:=by
 have hu:=underlying284;have hp:prog.stoodInHeld 284=false:=AJ
 have ht:prog.underlying 284=some (.struct (prog.fieldsOf 284)):=by rw [Program.fieldsOf,hu]
 have h1:prog.plainKey 9=true:=AJ
 have h2:prog.plainKey 3=true:=AJ
 rw [Pv w (d+2) 284 _ _ ht hp,Program.fieldsOf,hu];have es:∀(a b:ByteArray),(Op.equalIn (d+2) 9 (AL a) (AL b)).run prog w=.ok (decide (a=b)) w:=fun a b=>by rw [Pu w (d+1) 9 a b underlying9,ED]
 have ei:∀(a b:Int),(Op.equalIn (d+2) 3 (AB AE a) (AB AE b)).run prog w=.ok (decide (a=b)) w:=fun a b=>by rw [MT w (d+1) 3 .i64 .i64 a b underlying3];rfl
 have VQ:=Be (P:=prog) w h1 (xs:=#[AL x.path,AB AE x.field,AL x.term.name,AL x.term.path,AB AE x.term.var,AB AE x.term.field,AB AE x.term.n]) (off:=0) (v:=AL x.path) rfl;have VN:=Be (P:=prog) w h1 (xs:=#[AL y.path,AB AE y.field,AL y.term.name,AL y.term.path,AB AE y.term.var,AB AE y.term.field,AB AE y.term.n]) (off:=0) (v:=AL y.path) rfl;have VP:=Be (P:=prog) w h2 (xs:=#[AL x.path,AB AE x.field,AL x.term.name,AL x.term.path,AB AE x.term.var,AB AE x.term.field,AB AE x.term.n]) (off:=1) (v:=AB AE x.field) rfl;have VM:=Be (P:=prog) w h2 (xs:=#[AL y.path,AB AE y.field,AL y.term.name,AL y.term.path,AB AE y.term.var,AB AE y.term.field,AB AE y.term.n]) (off:=1) (v:=AB AE y.field) rfl;have VO:(part 279 #[AL x.path,AB AE x.field,AL x.term.name,AL x.term.path,AB AE x.term.var,AB AE x.term.field,AB AE x.term.n] 2).run prog w=.ok (AP #[AL x.term.name,AL x.term.path,AB AE x.term.var,AB AE x.term.field,AB AE x.term.n]) w:=by
  exact Qh
 have VL:(part 279 #[AL y.path,AB AE y.field,AL y.term.name,AL y.term.path,AB AE y.term.var,AB AE y.term.field,AB AE y.term.n] 2).run prog w=.ok (AP #[AL y.term.name,AL y.term.path,AB AE y.term.var,AB AE y.term.field,AB AE y.term.n]) w:=by
  exact Qh
 simp [Op.eqFields,VQ,VN,VP,VM,VO,VL,es,ei,bj d,Result.andThen_ok];obtain ⟨x0,x1,x2⟩:=x;obtain ⟨y0,y1,y2⟩:=y;simp only [Ma.mk.injEq];exact AAT
theorem AHY (x y:Ma) (w:AH):(binOp .neq 284 (AP #[AL x.path,AB AE x.field,AL x.term.name,AL x.term.path,AB AE x.term.var,AB AE x.term.field,AB AE x.term.n]) (AP #[AL y.path,AB AE y.field,AL y.term.name,AL y.term.path,AB AE y.term.var,AB AE y.term.field,AB AE y.term.n])).run prog w=.ok (Ab (!decide (x=y))) w:=by rw [Rv w,AG1 9997 x y w];rfl
theorem Dk {w:AH} {t:Ae} {cs:Array AN} {g:Nat} (h:w.heap.size=g):AY (w.alloc (AO cs t)) g t cs:=by subst h;exact AY.new _ _ _
theorem AIc (a b c d a' b' c' d':Int) (w:AH):(Op.equalIn 10000 110 (AP #[AB AE a,AB AE b,AB AE c,AB AE d]) (AP #[AB AE a',AB AE b',AB AE c',AB AE d'])).run prog w=.ok (decide (a=a') && decide (b=b') && decide (c=c') && decide (d=d')) w:=by
 obtain ⟨i0,hi⟩:=info_of_underlying (P:=prog) underlying3;have h:=run_equalIn_array (P:=prog) w 9999 #[AB AE a,AB AE b,AB AE c,AB AE d] #[AB AE a',AB AE b',AB AE c',AB AE d'] underlying110 hi;have h1:prog.cellsOf 3=1:=AJ
 rw [h1,show List.range 4=[0,1,2,3] from rfl] at h;have he:∀(x y:Int),(Op.equalIn 9999 3 (AB AE x) (AB AE y)).run prog w=.ok (decide (x=y)) w:=fun x y=>by rw [MT (P:=prog) w 9998 3 .i64 .i64 x y underlying3];rfl
 have hp:prog.plainKey 3=true:=AJ
 have qa:=Be (P:=prog) w hp (xs:=#[AB AE a,AB AE b,AB AE c,AB AE d]) (off:=0) (v:=AB AE a) rfl;have qb:=Be (P:=prog) w hp (xs:=#[AB AE a,AB AE b,AB AE c,AB AE d]) (off:=1) (v:=AB AE b) rfl;have qc:=Be (P:=prog) w hp (xs:=#[AB AE a,AB AE b,AB AE c,AB AE d]) (off:=2) (v:=AB AE c) rfl;have qd:=Be (P:=prog) w hp (xs:=#[AB AE a,AB AE b,AB AE c,AB AE d]) (off:=3) (v:=AB AE d) rfl;have qa':=Be (P:=prog) w hp (xs:=#[AB AE a',AB AE b',AB AE c',AB AE d']) (off:=0) (v:=AB AE a') rfl;have qb':=Be (P:=prog) w hp (xs:=#[AB AE a',AB AE b',AB AE c',AB AE d']) (off:=1) (v:=AB AE b') rfl;have qc':=Be (P:=prog) w hp (xs:=#[AB AE a',AB AE b',AB AE c',AB AE d']) (off:=2) (v:=AB AE c') rfl;have qd':=Be (P:=prog) w hp (xs:=#[AB AE a',AB AE b',AB AE c',AB AE d']) (off:=3) (v:=AB AE d') rfl;simp only [Op.eqItems,Cp,Ga,qa,qb,qc,qd,qa',qb',qc',qd',Result.andThen_ok,he,Sem.run_ite,DL] at h;refine h.trans ?_;by_cases e0:a=a'
 case neg=>simp [e0]
 by_cases e1:b=b'
 case neg=>simp [e0,e1]
 by_cases e2:c=c'
 case neg=>simp [e0,e1,e2]
 by_cases e3:d=d'
 case neg=>simp [e0,e1,e2,e3]
 simp [e0,e1,e2,e3]
theorem AG0 (a b c d a' b' c' d':Int) (w:AH):(binOp .eql 110 (AP #[AB AE a,AB AE b,AB AE c,AB AE d]) (AP #[AB AE a',AB AE b',AB AE c',AB AE d'])).run prog w=.ok (Ab (decide (a=a') && decide (b=b') && decide (c=c') && decide (d=d'))) w:=by rw [run_eql_struct w,AIc];rfl
end Go.Proofs.YtamhoilkpppdbaaGreatDoor
