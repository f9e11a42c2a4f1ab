import Derived.Test.YtpmpddfgifhlbaaGreatDoorMTt
import Derived.Test.YtpmpddfgifhlbaaGreatDoorProg
namespace Go.Proofs.YtpmpddfgifhlbaaGreatDoor
set_option maxHeartbeats 8000000
set_option maxRecDepth 100000
open Go renaming World→AH, Value→AK, Calls→AS, TypeId→Ae, Program→BB, Addr→Aa
open Go.RowKit renaming Below→BK
open Go.Proofs.Tryz
open Go.Value renaming slice→AA, int→AB, string→AN, bool→AX, agg→AO
open Go.IntKind renaming i64→AE
open Go.Ending renaming returned→AV
open Go.Obj renaming cells→AQ
open Go.RowKit
def Ag {α:Type} (sz:Nat) (R:AH->List AK->α->Prop) (w:AH) (v:AK) (l:List α):Prop:=
 ∃A cap,v=AA A l.length cap/\l.length<=cap/\cap<=maxLen/\
  ∀i x,l[i]? =some x->∃b off cs,A=some ⟨b,off,none⟩/\b < w.heap.size/\cs.length=sz/\(∀j u,cs[j]? =some u->w.cell? ⟨b,off+(i*sz+j),none⟩=some u)/\R w cs x
def Ret (v:AK) (w:AH) (e:Ending) (w':AH):Prop:=e=AV v/\AJ w w'
def CF (_:AH) (cs:List AK) (x:Int):Prop:=cs=[AB AE x]/\ -9223372036854775808<=x/\x<=9223372036854775807
def Ea {α:Type} (R:AH->List AK->α->Prop):Prop:=∀(w w':AH),AJ w w'->∀(cs:List AK) (x:α),R w cs x->R w' cs x
theorem BU:Ea CF:=fun _ _ _ _ _ h=>h
theorem below_drewN {B:Nat} {a w:AH} (h:BK B a w) (n:Nat):BK B a (w.drewN n):=⟨h.os,h.tape,h.output,h.size,h.block⟩
section
variable {α:Type} {sz:Nat} {R:AH->List AK->α->Prop} {w w':AH} {l:List α}
theorem Ag.mono (hR:Ea R) (hb:AJ w w') {v:AK} (h:Ag sz R w v l):Ag sz R w' v l:=by obtain ⟨A,cap,e,h1,h2,h3⟩:=h;refine ⟨A,cap,e,h1,h2,fun i x hi=> ?_⟩;obtain ⟨b,off,cs,rfl,hlt,hl,hc,hr⟩:=h3 i x hi;exact ⟨b,off,cs,rfl,Ay hlt hb.size,hl,fun j u hu=>(hb.cell (p:=⟨b,_,none⟩) hlt).trans (hc j u hu),hR _ _ hb _ _ hr⟩
theorem Ag.at_ {A:Option Aa} {n cap:Nat} (h:Ag sz R w (AA A n cap) l) {k:Nat} (hk:k < n):
 ∃b off x cs,A=some ⟨b,off,none⟩/\b < w.heap.size/\l[k]? =some x/\cs.length=sz/\(∀j u,cs[j]? =some u->w.cell? ⟨b,off+(k*sz+j),none⟩=some u)/\R w cs x:=by
 obtain ⟨A',cap',e,h1,h2,h3⟩:=h;injection e with e1 e2 e3;subst e1 e2 e3;obtain ⟨b,off,cs,rfl,hb,hl,hc,hr⟩:=h3 k l[k] (BJ hk);exact ⟨b,off,l[k],cs,rfl,hb,BJ hk,hl,hc,hr⟩
theorem Ag.len {A:Option Aa} {n cap:Nat} (h:Ag sz R w (AA A n cap) l):n=l.length:=by obtain ⟨A',cap',e,h1,h2,h3⟩:=h;injection e
theorem Ag.le {A:Option Aa} {n cap:Nat} (h:Ag sz R w (AA A n cap) l):n<=cap/\cap<=9223372036854775807:=by obtain ⟨A',cap',e,h1,h2,h3⟩:=h;injection e with e1 e2 e3;unfold maxLen at h2;omega
theorem Ag.form {v:AK} (h:Ag sz R w v l):∃A cap,v=AA A l.length cap:=by obtain ⟨A,cap,e,_⟩:=h;exact ⟨A,cap,e⟩
theorem Ag.nil (A:Option Aa) (cap:Nat) (hc:cap<=maxLen):Ag sz R w (AA A 0 cap) []:=
 ⟨A,cap,rfl,Ar _,hc,fun i x h=>by simp at h⟩
end
theorem ints_at {w:AH} {A:Option Aa} {n cap:Nat} {l:AP} (h:Ag 1 CF w (AA A n cap) l) {k:Nat} (hk:k < n):
 ∃b off x,A=some ⟨b,off,none⟩/\b < w.heap.size/\l[k]? =some x/\w.cell? ⟨b,off+k,none⟩=some (AB AE x)/\ -9223372036854775808<=x/\x<=9223372036854775807:=by
 obtain ⟨b,off,x,cs,e,hb,hl,hlen,hc,rfl,hx⟩:=h.at_ hk;exact ⟨b,off,x,e,hb,hl,by simpa using hc 0 _ rfl,hx⟩
theorem drop_cons {α:Type} {l:List α} {k:Nat} {x:α} (h:l[k]? =some x):l.drop k=x::l.drop (k+1):=by obtain ⟨hk,rfl⟩:=BA.1 h;exact UR hk
theorem take_snoc {α:Type} {l:List α} {k:Nat} {x:α} (h:l[k]? =some x):l.take (k+1)=l.take k++[x]:=by obtain ⟨hk,rfl⟩:=BA.1 h;exact eU hk
theorem A8 {a b:Bool} (h:a=b):Ending.returned (AX a)=AV (AX b):=by rw [h]
theorem C8 {k:IntKind} {a b:Int} (h:a=b):Ending.returned (.int k a)=AV (.int k b):=by rw [h]
theorem Jg {W w1:AH} (hb:AJ W w1):(∀b o,b < W.heap.size->w1.cell? ⟨b,o,none⟩=W.cell? ⟨b,o,none⟩)/\(∀b o,b < W.heap.size->w1.frozen? ⟨b,o,none⟩=W.frozen? ⟨b,o,none⟩):=
 ⟨fun b o h=>hb.cell (p:=⟨b,o,none⟩) h,fun b o h=>hb.frozen (p:=⟨b,o,none⟩) h⟩
def AZ (w:AH) (g:Nat) (t:Ae) (cs:Array AK):Prop:=w.heap[g]? =some (AQ cs t (0,0))
section
variable {w w':AH} {g:Nat} {t:Ae} {cs:Array AK}
theorem AZ.lt (h:AZ w g t cs):g < w.heap.size:=(Cz.1 h).1
theorem AZ.cell (h:AZ w g t cs) (i:Nat):w.cell? ⟨g,i,none⟩=cs[i]? :=by have h':w.heap[g]? =some (AQ cs t (0,0)):=h;simp [World.cell?,h']
theorem AZ.frozen (h:AZ w g t cs) (i:Nat):w.frozen? ⟨g,i,none⟩=false:=by have h':w.heap[g]? =some (AQ cs t (0,0)):=h;simp [World.frozen?,h']
theorem AZ.new (w:AH) (t:Ae) (cs:Array AK):AZ (w.alloc (AQ cs t)) w.heap.size t cs:=heap_alloc_new w _
theorem AZ.alloc (h:AZ w g t cs) (o:Obj):AZ (w.alloc o) g t cs:=(Mw w o g h.lt).trans h
theorem AZ.drew (h:AZ w g t cs):AZ w.drew g t cs:=h
theorem AZ.drewN (h:AZ w g t cs) (n:Nat):AZ (w.drewN n) g t cs:=h
theorem AZ.put (h:AZ w g t cs) (i:Nat) (u:AK):AZ (w.setCell ⟨g,i,none⟩ u) g t (cs.setIfInBounds i u):=by have h':w.heap[g]? =some (AQ cs t (0,0)):=h;show (w.setCell ⟨g,i,none⟩ u).heap[g]? =_;simp [World.setCell,Array.getElem?_modify,h']
theorem AZ.far (h:AZ w g t cs) {p:Aa} (hp:g≠p.block) (u:AK):AZ (w.setCell p u) g t cs:=(EB w p u g hp).trans h
theorem AZ.below {B:Nat} (h:AZ w g t cs) (hb:BK B w w') (hg:g < B):AZ w' g t cs:=(hb.block g hg).trans h
theorem AZ.grown {row:Option Nat} (h:AZ w g t cs) (hb:w.grownBy w' row) (hg:some g≠row):AZ w' g t cs:=(hb.block g h.lt hg).trans h
end
theorem Tw {a w:AH} {row:Option Nat} (h:a.grownBy w row) (o:Obj):a.grownBy (w.alloc o) row:=
 ⟨h.os,h.tape,h.output,BF h.size Ac,fun i hi hne=>(Mw w o i (Ay hi h.size)).trans (h.block i hi hne)⟩
theorem grown_drewN {a w:AH} {row:Option Nat} (h:a.grownBy w row) (n:Nat):a.grownBy (w.drewN n) row:=⟨h.os,h.tape,h.output,h.size,h.block⟩
theorem grown_drew {a w:AH} {row:Option Nat} (h:a.grownBy w row):a.grownBy w.drew row:=⟨h.os,h.tape,h.output,h.size,h.block⟩
theorem OT {a w:AH} {g:Nat} (h:a.grownBy w (some g)) (i:Nat) (u:AK):a.grownBy (w.setCell ⟨g,i,none⟩ u) (some g):=
 ⟨h.os,h.tape,h.output,by simpa [World.setCell] using h.size,fun k hk hne=>(EB w _ u k (fun e=>hne M1)).trans (h.block k hk hne)⟩
def Ao {α:Type} (sz:Nat) (R:AH->List AK->α->Prop) (w:AH) (cs:List AK) (l:List α):Prop:=
 cs.length=l.length*sz/\∀i x,l[i]? =some x->R w ((cs.drop (i*sz)).take sz) x
section
variable {α:Type} {sz:Nat} {R:AH->List AK->α->Prop} {w w':AH} {l:List α}
theorem Ao.mono (hR:Ea R) (hb:AJ w w') {cs:List AK} (h:Ao sz R w cs l):Ao sz R w' cs l:=
 ⟨h.1,fun i x hi=>hR _ _ hb _ _ (h.2 i x hi)⟩
theorem Ao.nil:Ao sz R w [] ([]:List α):=⟨by simp,fun i x h=>by simp at h⟩
theorem Ao.one {cs:List AK} {x:α} (hl:cs.length=sz) (h:R w cs x):Ao sz R w cs [x]:=by
 refine ⟨by simp [hl],fun i y hi=> ?_⟩;rcases i with _ | i
 ·simp only [An,Bq] at hi
  subst hi;rw [RN,Ho,Cy AG];exact h
 · simp at hi
theorem Ao.append {cs cs':List AK} {l':List α} (h:Ao sz R w cs l) (h':Ao sz R w cs' l'):Ao sz R w (cs++cs') (l++l'):=by
 refine ⟨by rw [CT,CT,h.1,h'.1,Nat.add_mul],fun i x hi=> ?_⟩;rcases Ez i l.length with hlt | hge
 ·rw [EF hlt] at hi
  have hle:i*sz+sz<=cs.length:=by rw [h.1,<-Jm];exact Jr _ hlt
  rw [List.drop_append_of_le_length AG,List.take_append_of_le_length Ws];exact h.2 i x hi
 rw [Cf hge] at hi;have e:i*sz=cs.length+(i - l.length)*sz:=by rw [h.1,<-Nat.add_mul];congr 1;omega
 rw [e,List.drop_append,EV AG,Ic,show cs.length+(i - l.length)*sz - cs.length=(i - l.length)*sz by omega];exact h'.2 _ x hi
theorem Ag.cells {A:Option Aa} {n c:Nat} (h:Ag sz R w (AA A n c) l):∃cs,Ao sz R w cs l/\∀ad,A=some ad->∀j u,cs[j]? =some u->w.cell? (ad.add j)=some u:=by
 rcases A with _ | ad
 ·have hl:l=[]:=by
   cases l with
   | nil=>rfl
   |
    cons x r=>
    obtain ⟨A',cap',e,h1,h2,h3⟩:=h;obtain ⟨b,off,cs,e',_⟩:=h3 0 x rfl;injection e with e1;rw [<-e1] at e';cases e'
  subst hl;exact ⟨[],Ao.nil,fun ad e=>by cases e⟩
 have hn:=h.len;rcases Pe n with h0 | h0
 ·have hl:l=[]:=JO AG
  subst hl;exact ⟨[],Ao.nil,fun ad e j u hu=>by simp at hu⟩
 obtain ⟨b,off,x0,cs0,e,_⟩:=h.at_ h0;injection e with e;subst e;have hadd:∀j,(Addr.mk b off none).add j=⟨b,off+j,none⟩:=fun j=>by unfold Addr.add;split <;> simp_all
 have hcell:∀i (hi:i < n) k,k < sz->∃u,w.cell? ⟨b,off+(i*sz+k),none⟩=some u:=by intro i hi k hk;obtain ⟨b',off',x,cs,e,_,_,hl,hc,_⟩:=h.at_ hi;injection e with e;injection e with e1 e2 _;subst e1 e2;exact ⟨cs[k],hc k _ (BJ AG)⟩
 refine ⟨(List.range (n*sz)).map (fun j=>(w.cell? ⟨b,off+j,none⟩).getD undef),⟨by simp [hn],?_⟩,?_⟩
 ·intro i x hi
  have hin:i < n:=by have:=(BA.1 hi).1;omega
  obtain ⟨b',off',x',cs,e,_,hx',hl,hc,hR⟩:=h.at_ hin;injection e with e;injection e with e1 e2 _;subst e1 e2;rw [hi] at hx';injection hx' with hx';subst hx';have he:(((List.range (n*sz)).map (fun j=>(w.cell? ⟨b,off+j,none⟩).getD undef)).drop (i*sz)).take sz=cs:=by
   have hle:i*sz+sz<=n*sz:=by rw [<-Jm];exact Jr _ hin
   apply Ms;intro k;rcases Ez k sz with hk | hk
   ·rw [JN hk,EC,Be,Ly AG,Cu,hc k cs[k] (BJ AG),BJ AG]
    rfl
   · rw [DY QS,DY AG]
  rw [he];exact hR
 intro ad e j u hu;injection e with e;subst e;rw [Be] at hu;rw [hadd];rcases Ez j (n*sz) with hj | hj
 ·rw [Ly hj,Cu,Bq] at hu
  have hsz:0 < sz:=by
   rcases Pe sz with e | e
   · subst e;omega
   · exact e
  obtain ⟨v,hv⟩:=hcell (j / sz) (by rw [Nat.div_lt_iff_lt_mul hsz];exact hj) (j % sz) (Nat.mod_lt _ hsz);have e:j / sz*sz+j % sz=j:=by rw [Nat.mul_comm];exact Nat.div_add_mod j sz
  rw [e] at hv;rw [hv] at hu ⊢;exact congrArg some hu
 rw [DY (by simpa using hj)] at hu;cases hu
theorem CP {base:Nat} {e:Ae} {v:AK} {n:Nat} {cs:List AK} (h:w.ownsRow base e sz v n cs) (hc:Ao sz R w cs l) (hn:n=l.length):Ag sz R w v l:=by
 rcases h.2 with ⟨rfl,h0⟩ | ⟨g,cap,cur,rfl,hg,hh,hnc,hcm,hsz,htk⟩
 ·have hl0:l=[]:=JO AG
  subst hl0;exact Ag.nil _ _ (Ar _)
 subst hn;refine ⟨some ⟨g,0,none⟩,cap,rfl,hnc,hcm,fun i x hi=>⟨g,0,(cs.drop (i*sz)).take sz,rfl,(Cz.1 hh).1,?_,?_,hc.2 i x hi⟩⟩
 ·have hil:=(BA.1 hi).1
  exact AAG
 intro j u hu;rcases Ez j sz with hj | hj
 ·rw [JN hj,EC] at hu
  rw [<-htk] at hu;have hlt:i*sz+j < l.length*sz:=by
   have hil:=(BA.1 hi).1;have:i*sz+sz<=l.length*sz:=by rw [<-Jm];exact Jr _ hil
   omega
  rw [JN hlt] at hu;simp only [World.cell?,hh,Ex];simpa using hu
 rw [DY QS] at hu;cases hu
end
theorem Ag.fix {α:Type} {sz:Nat} {R:AH->List AK->α->Prop} {w w':AH} {l:List α} {v:AK} (h:Ag sz R w v l) (hb:AJ w w'):Ag sz (fun _=>R w) w' v l:=by obtain ⟨A,cap,e,h1,h2,h3⟩:=h;refine ⟨A,cap,e,h1,h2,fun i x hi=> ?_⟩;obtain ⟨b,off,cs,rfl,hlt,hl,hc,hr⟩:=h3 i x hi;exact ⟨b,off,cs,rfl,Ay hlt hb.size,hl,fun j u hu=>(hb.cell (p:=⟨b,_,none⟩) hlt).trans (hc j u hu),hr⟩
def One {α:Type} (R:AH->List AK->α->Prop):Prop:=∀w cs x,R w cs x->∀u∈cs,u.oneCell'=true
theorem Ao.ones {α:Type} {sz:Nat} {R:AH->List AK->α->Prop} {w:AH} {l:List α} (ho:One R) {cs:List AK} (h:Ao sz R w cs l):∀u∈cs,u.oneCell'=true:=by
 intro u hu;obtain ⟨j,hj,rfl⟩:=Yj hu;have hl:=h.1;have hsz:0 < sz:=by
  rcases Pe sz with e | e
  · subst e;omega
  · exact e
 have hi:j / sz < l.length:=by rw [Nat.div_lt_iff_lt_mul hsz,<-hl];exact hj
 refine ho _ _ _ (h.2 (j / sz) _ (BJ hi)) _ (Ci (i:=j % sz) ?_);rw [JN (Nat.mod_lt _ hsz),EC,show j / sz*sz+j % sz=j by rw [Nat.mul_comm];exact Nat.div_add_mod j sz,BJ hj]
section
variable {P:BB} {α:Type} {sz:Nat} {R:AH->List AK->α->Prop}
theorem gH (w:AH) (t ty e:Ae) (i:TypeInfo) (z:AK) (bytes:Nat) (ht:P.underlying t=some (.slice e)) (hi:P.info? e=some i) (hz:i.zero=some z) (hsize:i.size=sz) (hby:i.bytes=bytes) (hzs:z.cells.size=sz) (hsz:0 < sz) (ho:One R)
 (base:Nat) (v:AK) (n:Nat) (xs:List AK) (hown:w.ownsRow base e sz v n xs) (A:Option Aa) (m c:Nat) (l:List α) (hr:Ag sz R w (AA A m c) l)
 (hn:n+m<=maxLen) (hb:(n+m)*bytes<=140737488355328) (hbase:base<=w.heap.size):
 ∃v' w' cs,(Builtin.append_ #[t,t] ty #[v,AA A m c]).run P w=.ok v' w'/\Ao sz R w cs l/\w'.ownsRow base e sz v' (n+m) (xs++cs)/\w.grownBy w' v.ownBlock/\(v'.ownBlock=v.ownBlock\/v'.ownBlock=some w.heap.size):=by
 obtain ⟨cs,hcs,hcell⟩:=hr.cells;have hlen:=hr.len;rcases A with _ | ad
 ·have hm:m=0:=by
   rcases Pe m with h0 | h0
   · exact h0
   obtain ⟨b,off,x,cs,e,_⟩:=hr.at_ h0;cases e
  subst hm;have hl:l=[]:=JO AG;subst hl;have hcs0:cs=[]:=JO (by rw [hcs.1];simp);subst hcs0;refine ⟨v,w,[],?_,hcs,by simpa using hown,DN w _,.inl rfl⟩;rcases hown.2 with ⟨rfl,rfl⟩ | ⟨g,cap,cur,rfl,_,_,hnc,_⟩
  · simp [Builtin.append_,run_underlying ht,sizeOf,typeInfo,hi,Builtin.lenOf,Builtin.firstCells]
  · simp [Builtin.append_,run_underlying ht,sizeOf,typeInfo,hi,Builtin.lenOf,Builtin.firstCells,hnc,storeCells]
 obtain ⟨v',w',h1,h2,h3,_,h5⟩:=run_append_own_at (P:=P) w base t ty e i z sz bytes ht hi hz hsize hby hzs hsz v n xs hown ad m c cs (by rw [hcs.1,<-hlen]) (hcell ad rfl) (hcs.ones ho) hn hb hbase;exact ⟨v',w',cs,h1,hcs,h2,h3,h5⟩
theorem V8 (w:AH) {o:Oper} {a:Act} {K:Act->AH->Prop} {Q:Exit->Act->AH->Prop} (s x:Operand) (t e:Ae)
 (hop:o.op=.call {callee:=.builtin .append,args:=#[s,x],argTypes:=#[t,t]}) (i:TypeInfo) (z:AK) (bytes:Nat) (ht:P.underlying t=some (.slice e)) (hi:P.info? e=some i) (hz:i.zero=some z) (hsize:i.size=sz) (hby:i.bytes=bytes) (hzs:z.cells.size=sz) (hsz:0 < sz) (ho:One R)
 (base:Nat) (v:AK) (n:Nat) (xs:List AK) (hs:a.eval s=v) (hown:w.ownsRow base e sz v n xs) (A:Option Aa) (m c:Nat) (l:List α) (hx:a.eval x=AA A m c) (hr:Ag sz R w (AA A m c) l)
 (hn:n+m<=maxLen) (hb:(n+m)*bytes<=140737488355328) (hbase:base<=w.heap.size)
 (h:∀v' w' cs,Ao sz R w cs l->w'.ownsRow base e sz v' (n+m) (xs++cs)->w.grownBy w' v.ownBlock->(v'.ownBlock=v.ownBlock\/v'.ownBlock=some w.heap.size)->K (a.put o.dst v') w'):o.wp P a w K Q:=by
 obtain ⟨v',w',cs,hrun,h2,h3,h4,h5⟩:=gH w t o.type e i z bytes ht hi hz hsize hby hzs hsz ho base v n xs hown A m c l hr hn hb hbase;unfold Oper.wp execOp;simp only [hop,resolve,invoke,builtin,Cs,DL,Result.andThen_ok,Yc,Fi,OD,hs,hx,hrun];exact h v' w' cs h2 h3 h4 h5
end
theorem Cb {P:BB} {α:Type} {sz:Nat} {R:AH->List AK->α->Prop} (w:AH) {ops:Array Oper} {rest:List Oper} {o:Oper} {a:Act} {Q:Exit->Act->AH->Prop} (hgd:o.guard=none) (s x:Operand) (t e:Ae)
 (hop:o.op=.call {callee:=.builtin .append,args:=#[s,x],argTypes:=#[t,t]}) (i:TypeInfo) (z:AK) (bytes:Nat) (ht:P.underlying t=some (.slice e)) (hi:P.info? e=some i) (hz:i.zero=some z) (hsize:i.size=sz) (hby:i.bytes=bytes) (hzs:z.cells.size=sz) (hsz:0 < sz) (ho:One R)
 (base:Nat) (v:AK) (n:Nat) (xs:List AK) (hs:a.eval s=v) (hown:w.ownsRow base e sz v n xs) (A:Option Aa) (m c:Nat) (l:List α) (hx:a.eval x=AA A m c) (hr:Ag sz R w (AA A m c) l)
 (hn:n+m<=maxLen) (hb:(n+m)*bytes<=140737488355328) (hbase:base<=w.heap.size)
 (h:∀v' w' cs,Ao sz R w cs l->w'.ownsRow base e sz v' (n+m) (xs++cs)->w.grownBy w' v.ownBlock->(v'.ownBlock=v.ownBlock\/v'.ownBlock=some w.heap.size)->wpList P ops Q rest (a.put o.dst v') w'):wpList P ops Q (o::rest) a w:=
 wpList_plain hgd fun _ hK=>V8 w s x t e hop i z bytes ht hi hz hsize hby hzs hsz ho base v n xs hs hown A m c l hx hr hn hb hbase fun v' w' cs h2 h3 h4 h5=>hK _ _ (h v' w' cs h2 h3 h4 h5)
theorem SY:One CF:=by rintro w cs x ⟨rfl,_⟩ u hu;simp only [Fk] at hu;subst hu;rfl
def DV (_:AH) (cs:List AK) (x:ByteArray):Prop:=cs=[AN x]
def iR (_:AH) (cs:List AK) (x:Int):Prop:=cs=[AB AE x]
theorem Ba:Ea DV:=fun _ _ _ _ _ h=>h
theorem JS:Ea iR:=fun _ _ _ _ _ h=>h
theorem ACj:One DV:=by rintro w cs x rfl u hu;simp only [Fk] at hu;subst hu;rfl
theorem AHA:One iR:=by rintro w cs x rfl u hu;simp only [Fk] at hu;subst hu;rfl
def BQ {α:Type} (sz bytes:Nat) (R:AH->List AK->α->Prop) (w:AH) (v:AK) (l:List α):Prop:=Ag sz R w v l/\l.length*bytes<=140737488355328
theorem BQ.mono {α:Type} {sz bytes:Nat} {R:AH->List AK->α->Prop} {w w':AH} {l:List α} (hR:Ea R) (hb:AJ w w') {v:AK} (h:BQ sz bytes R w v l):BQ sz bytes R w' v l:=⟨h.1.mono hR hb,h.2⟩
theorem XI {w:AH} {A:Option Aa} {n cap:Nat} {l:List ByteArray} (h:Ag 1 DV w (AA A n cap) l) {k:Nat} (hk:k < n):
 ∃b off x,A=some ⟨b,off,none⟩/\b < w.heap.size/\l[k]? =some x/\w.cell? ⟨b,off+k,none⟩=some (AN x):=by
 exact zt
theorem wW {w:AH} {A:Option Aa} {n cap:Nat} {l:AP} (h:Ag 1 iR w (AA A n cap) l) {k:Nat} (hk:k < n):
 ∃b off x,A=some ⟨b,off,none⟩/\b < w.heap.size/\l[k]? =some x/\w.cell? ⟨b,off+k,none⟩=some (AB AE x):=by
 exact zt
structure Bk where
 name:ByteArray
 Av:ByteArray
 factor:Int
 base:Int
 scale:Int
 deriving DecidableEq
structure DP where
 name:ByteArray
 path:ByteArray
 var:Int
 field:Int
 n:Int
 deriving DecidableEq
structure Gf where
 op:Int
 a:DP
 b:DP
 deriving DecidableEq
structure Br where
 name:ByteArray
 kind:ByteArray
 schema:Int
 Av:DP
 deriving DecidableEq
structure Kf where
 path:ByteArray
 field:Int
 term:DP
 deriving DecidableEq
structure IL where
 DU:ByteArray
 from_:ByteArray
 b:Int
 a:Int
 shift:Int
 deriving DecidableEq
structure Jl where
 name:ByteArray
 path:ByteArray
 schema:Int
 field:Int
 deriving DecidableEq
structure Fe where
 kind:Int
 lo:Int
 hi:Int
 Av:ByteArray
 unit:Int
 names:List ByteArray
 deriving DecidableEq
structure GZ where
 name:ByteArray
 type:Fe
 w0:Int
 w1:Int
 w2:Int
 w3:Int
 deriving DecidableEq
structure Mn where
 names:List ByteArray
 name:ByteArray
 src:AP
 dst:Int
 deriving DecidableEq
structure BI where
 name:ByteArray
 Hh:ByteArray
 Au:Int
 version:Int
 fields:List GZ
 deps:List Mn
 deriving DecidableEq
structure Ck where
 head:ByteArray
 schema:Int
 froms:List Br
 DQ:List Gf
 sets:List Kf
 deriving DecidableEq
structure C4 where
 from_:ByteArray
 DU:ByteArray
 a:Int
 b:Int
 moves:List IL
 deriving DecidableEq
structure Cj where
 name:ByteArray
 may:List Jl
 most:Int
 deriving DecidableEq
structure BD where
 Bl:List ByteArray
 units:List Bk
 Ap:List BI
 rules:List Ck
 converts:List C4
 purposes:List Cj
 deriving DecidableEq
def CK (_:AH) (cs:List AK) (x:Bk):Prop:=cs=[AN x.name,AN x.Av,AB AE x.factor,AB AE x.base,AB AE x.scale]
theorem Bn:Ea CK:=fun _ _ _ _ _ h=>h
theorem wA:One CK:=by rintro w cs x rfl u hu;simp only [CO,D7,D5] at hu;rcases hu with rfl | rfl | rfl | rfl | rfl <;> rfl
theorem Nx {w:AH} {A:Option Aa} {n cap:Nat} {l:List Bk} (h:Ag 5 CK w (AA A n cap) l) {k:Nat} (hk:k < n):
 ∃b off x,A=some ⟨b,off,none⟩/\b < w.heap.size/\l[k]? =some x/\
  w.cell? ⟨b,off+k*5,none⟩=some (AN x.name)/\
  w.cell? ⟨b,off+k*5+1,none⟩=some (AN x.Av)/\
  w.cell? ⟨b,off+k*5+2,none⟩=some (AB AE x.factor)/\
  w.cell? ⟨b,off+k*5+3,none⟩=some (AB AE x.base)/\
  w.cell? ⟨b,off+k*5+4,none⟩=some (AB AE x.scale):=by
 exact AAW
def AGu (_:AH) (cs:List AK) (x:DP):Prop:=cs=[AN x.name,AN x.path,AB AE x.var,AB AE x.field,AB AE x.n]
def EQ (_:AH) (cs:List AK) (x:Gf):Prop:=cs=[AB AE x.op,AN x.a.name,AN x.a.path,AB AE x.a.var,AB AE x.a.field,AB AE x.a.n,AN x.b.name,AN x.b.path,AB AE x.b.var,AB AE x.b.field,AB AE x.b.n]
theorem Gi:Ea EQ:=fun _ _ _ _ _ h=>h
theorem wG:One EQ:=by rintro w cs x rfl u hu;simp only [CO,D7,D5] at hu;rcases hu with rfl | rfl | rfl | rfl | rfl | rfl | rfl | rfl | rfl | rfl | rfl <;> rfl
theorem aD {w:AH} {A:Option Aa} {n cap:Nat} {l:List Gf} (h:Ag 11 EQ w (AA A n cap) l) {k:Nat} (hk:k < n):
 ∃b off x,A=some ⟨b,off,none⟩/\b < w.heap.size/\l[k]? =some x/\
  w.cell? ⟨b,off+k*11,none⟩=some (AB AE x.op)/\
  w.cell? ⟨b,off+k*11+1,none⟩=some (AN x.a.name)/\
  w.cell? ⟨b,off+k*11+2,none⟩=some (AN x.a.path)/\
  w.cell? ⟨b,off+k*11+3,none⟩=some (AB AE x.a.var)/\
  w.cell? ⟨b,off+k*11+4,none⟩=some (AB AE x.a.field)/\
  w.cell? ⟨b,off+k*11+5,none⟩=some (AB AE x.a.n)/\
  w.cell? ⟨b,off+k*11+6,none⟩=some (AN x.b.name)/\
  w.cell? ⟨b,off+k*11+7,none⟩=some (AN x.b.path)/\
  w.cell? ⟨b,off+k*11+8,none⟩=some (AB AE x.b.var)/\
  w.cell? ⟨b,off+k*11+9,none⟩=some (AB AE x.b.field)/\
  w.cell? ⟨b,off+k*11+10,none⟩=some (AB AE x.b.n):=by
 obtain ⟨b,off,x,cs,e,hb,hl,hlen,hc,hR⟩:=h.at_ hk;have hR':cs=_:=hR;subst hR';exact ⟨b,off,x,e,hb,hl,by simpa using hc 0 _ rfl,by simpa [Nat.add_assoc] using hc 1 _ rfl,by simpa [Nat.add_assoc] using hc 2 _ rfl,by simpa [Nat.add_assoc] using hc 3 _ rfl,by simpa [Nat.add_assoc] using hc 4 _ rfl,by simpa [Nat.add_assoc] using hc 5 _ rfl,by simpa [Nat.add_assoc] using hc 6 _ rfl,by simpa [Nat.add_assoc] using hc 7 _ rfl,by simpa [Nat.add_assoc] using hc 8 _ rfl,by simpa [Nat.add_assoc] using hc 9 _ rfl,by simpa [Nat.add_assoc] using hc 10 _ rfl⟩
def DI (_:AH) (cs:List AK) (x:Br):Prop:=cs=[AN x.name,AN x.kind,AB AE x.schema,AN x.Av.name,AN x.Av.path,AB AE x.Av.var,AB AE x.Av.field,AB AE x.Av.n]
theorem FL:Ea DI:=fun _ _ _ _ _ h=>h
theorem wF:One DI:=by rintro w cs x rfl u hu;simp only [CO,D7,D5] at hu;rcases hu with rfl | rfl | rfl | rfl | rfl | rfl | rfl | rfl <;> rfl
theorem Px {w:AH} {A:Option Aa} {n cap:Nat} {l:List Br} (h:Ag 8 DI w (AA A n cap) l) {k:Nat} (hk:k < n):
 ∃b off x,A=some ⟨b,off,none⟩/\b < w.heap.size/\l[k]? =some x/\
  w.cell? ⟨b,off+k*8,none⟩=some (AN x.name)/\
  w.cell? ⟨b,off+k*8+1,none⟩=some (AN x.kind)/\
  w.cell? ⟨b,off+k*8+2,none⟩=some (AB AE x.schema)/\
  w.cell? ⟨b,off+k*8+3,none⟩=some (AN x.Av.name)/\
  w.cell? ⟨b,off+k*8+4,none⟩=some (AN x.Av.path)/\
  w.cell? ⟨b,off+k*8+5,none⟩=some (AB AE x.Av.var)/\
  w.cell? ⟨b,off+k*8+6,none⟩=some (AB AE x.Av.field)/\
  w.cell? ⟨b,off+k*8+7,none⟩=some (AB AE x.Av.n):=by
 obtain ⟨b,off,x,cs,e,hb,hl,hlen,hc,hR⟩:=h.at_ hk;have hR':cs=_:=hR;subst hR';exact ⟨b,off,x,e,hb,hl,by simpa using hc 0 _ rfl,by simpa [Nat.add_assoc] using hc 1 _ rfl,by simpa [Nat.add_assoc] using hc 2 _ rfl,by simpa [Nat.add_assoc] using hc 3 _ rfl,by simpa [Nat.add_assoc] using hc 4 _ rfl,by simpa [Nat.add_assoc] using hc 5 _ rfl,by simpa [Nat.add_assoc] using hc 6 _ rfl,by simpa [Nat.add_assoc] using hc 7 _ rfl⟩
def Gc (_:AH) (cs:List AK) (x:Kf):Prop:=cs=[AN x.path,AB AE x.field,AN x.term.name,AN x.term.path,AB AE x.term.var,AB AE x.term.field,AB AE x.term.n]
theorem IE:Ea Gc:=fun _ _ _ _ _ h=>h
theorem ABB:One Gc:=by rintro w cs x rfl u hu;simp only [CO,D7,D5] at hu;rcases hu with rfl | rfl | rfl | rfl | rfl | rfl | rfl <;> rfl
theorem gJ {w:AH} {A:Option Aa} {n cap:Nat} {l:List Kf} (h:Ag 7 Gc w (AA A n cap) l) {k:Nat} (hk:k < n):
 ∃b off x,A=some ⟨b,off,none⟩/\b < w.heap.size/\l[k]? =some x/\
  w.cell? ⟨b,off+k*7,none⟩=some (AN x.path)/\
  w.cell? ⟨b,off+k*7+1,none⟩=some (AB AE x.field)/\
  w.cell? ⟨b,off+k*7+2,none⟩=some (AN x.term.name)/\
  w.cell? ⟨b,off+k*7+3,none⟩=some (AN x.term.path)/\
  w.cell? ⟨b,off+k*7+4,none⟩=some (AB AE x.term.var)/\
  w.cell? ⟨b,off+k*7+5,none⟩=some (AB AE x.term.field)/\
  w.cell? ⟨b,off+k*7+6,none⟩=some (AB AE x.term.n):=by
 obtain ⟨b,off,x,cs,e,hb,hl,hlen,hc,hR⟩:=h.at_ hk;have hR':cs=_:=hR;subst hR';exact ⟨b,off,x,e,hb,hl,by simpa using hc 0 _ rfl,by simpa [Nat.add_assoc] using hc 1 _ rfl,by simpa [Nat.add_assoc] using hc 2 _ rfl,by simpa [Nat.add_assoc] using hc 3 _ rfl,by simpa [Nat.add_assoc] using hc 4 _ rfl,by simpa [Nat.add_assoc] using hc 5 _ rfl,by simpa [Nat.add_assoc] using hc 6 _ rfl⟩
def GJ (_:AH) (cs:List AK) (x:IL):Prop:=cs=[AN x.DU,AN x.from_,AB AE x.b,AB AE x.a,AB AE x.shift]
theorem IG:Ea GJ:=fun _ _ _ _ _ h=>h
theorem wE:One GJ:=by rintro w cs x rfl u hu;simp only [CO,D7,D5] at hu;rcases hu with rfl | rfl | rfl | rfl | rfl <;> rfl
theorem aC {w:AH} {A:Option Aa} {n cap:Nat} {l:List IL} (h:Ag 5 GJ w (AA A n cap) l) {k:Nat} (hk:k < n):
 ∃b off x,A=some ⟨b,off,none⟩/\b < w.heap.size/\l[k]? =some x/\
  w.cell? ⟨b,off+k*5,none⟩=some (AN x.DU)/\
  w.cell? ⟨b,off+k*5+1,none⟩=some (AN x.from_)/\
  w.cell? ⟨b,off+k*5+2,none⟩=some (AB AE x.b)/\
  w.cell? ⟨b,off+k*5+3,none⟩=some (AB AE x.a)/\
  w.cell? ⟨b,off+k*5+4,none⟩=some (AB AE x.shift):=by
 exact AAW
def IF (_:AH) (cs:List AK) (x:Jl):Prop:=cs=[AN x.name,AN x.path,AB AE x.schema,AB AE x.field]
theorem J8:Ea IF:=fun _ _ _ _ _ h=>h
theorem ABD:One IF:=by rintro w cs x rfl u hu;simp only [CO,D7,D5] at hu;rcases hu with rfl | rfl | rfl | rfl <;> rfl
theorem gK {w:AH} {A:Option Aa} {n cap:Nat} {l:List Jl} (h:Ag 4 IF w (AA A n cap) l) {k:Nat} (hk:k < n):
 ∃b off x,A=some ⟨b,off,none⟩/\b < w.heap.size/\l[k]? =some x/\
  w.cell? ⟨b,off+k*4,none⟩=some (AN x.name)/\
  w.cell? ⟨b,off+k*4+1,none⟩=some (AN x.path)/\
  w.cell? ⟨b,off+k*4+2,none⟩=some (AB AE x.schema)/\
  w.cell? ⟨b,off+k*4+3,none⟩=some (AB AE x.field):=by
 obtain ⟨b,off,x,cs,e,hb,hl,hlen,hc,hR⟩:=h.at_ hk;have hR':cs=_:=hR;subst hR';exact ⟨b,off,x,e,hb,hl,by simpa using hc 0 _ rfl,by simpa [Nat.add_assoc] using hc 1 _ rfl,by simpa [Nat.add_assoc] using hc 2 _ rfl,by simpa [Nat.add_assoc] using hc 3 _ rfl⟩
def Na (w:AH) (cs:List AK) (x:Fe):Prop:=∃A1 n1 c1,cs=[AB AE x.kind,AB AE x.lo,AB AE x.hi,AN x.Av,AB AE x.unit,AA A1 n1 c1]/\BQ 1 16 DV w (AA A1 n1 c1) x.names
theorem cY:One Na:=by rintro w cs x ⟨A1,n1,c1,rfl,_⟩ u hu;simp only [CO,D7,D5] at hu;rcases hu with rfl | rfl | rfl | rfl | rfl | rfl <;> rfl
def EW (w:AH) (cs:List AK) (x:GZ):Prop:=∃A1 n1 c1,cs=[AN x.name,AB AE x.type.kind,AB AE x.type.lo,AB AE x.type.hi,AN x.type.Av,AB AE x.type.unit,AA A1 n1 c1,AB AE x.w0,AB AE x.w1,AB AE x.w2,AB AE x.w3]/\BQ 1 16 DV w (AA A1 n1 c1) x.type.names
theorem DJ:Ea EW:=by rintro w w' hb cs x ⟨A1,n1,c1,h0,h1⟩;exact ⟨A1,n1,c1,h0,h1.mono Ba hb⟩
theorem rT:One EW:=by rintro w cs x ⟨A1,n1,c1,rfl,_⟩ u hu;simp only [CO,D7,D5] at hu;rcases hu with rfl | rfl | rfl | rfl | rfl | rfl | rfl | rfl | rfl | rfl | rfl <;> rfl
theorem IV {w:AH} {A:Option Aa} {n cap:Nat} {l:List GZ} (h:Ag 11 EW w (AA A n cap) l) {k:Nat} (hk:k < n):
 ∃b off x A1 n1 c1,A=some ⟨b,off,none⟩/\b < w.heap.size/\l[k]? =some x/\
  w.cell? ⟨b,off+k*11,none⟩=some (AN x.name)/\
  w.cell? ⟨b,off+k*11+1,none⟩=some (AB AE x.type.kind)/\
  w.cell? ⟨b,off+k*11+2,none⟩=some (AB AE x.type.lo)/\
  w.cell? ⟨b,off+k*11+3,none⟩=some (AB AE x.type.hi)/\
  w.cell? ⟨b,off+k*11+4,none⟩=some (AN x.type.Av)/\
  w.cell? ⟨b,off+k*11+5,none⟩=some (AB AE x.type.unit)/\
  w.cell? ⟨b,off+k*11+6,none⟩=some (AA A1 n1 c1)/\
  w.cell? ⟨b,off+k*11+7,none⟩=some (AB AE x.w0)/\
  w.cell? ⟨b,off+k*11+8,none⟩=some (AB AE x.w1)/\
  w.cell? ⟨b,off+k*11+9,none⟩=some (AB AE x.w2)/\
  w.cell? ⟨b,off+k*11+10,none⟩=some (AB AE x.w3)/\BQ 1 16 DV w (AA A1 n1 c1) x.type.names:=by
 obtain ⟨b,off,x,cs,e,hb,hl,hlen,hc,hR⟩:=h.at_ hk;obtain ⟨A1,n1,c1,rfl,h1⟩:=hR;exact ⟨b,off,x,A1,n1,c1,e,hb,hl,by simpa using hc 0 _ rfl,by simpa [Nat.add_assoc] using hc 1 _ rfl,by simpa [Nat.add_assoc] using hc 2 _ rfl,by simpa [Nat.add_assoc] using hc 3 _ rfl,by simpa [Nat.add_assoc] using hc 4 _ rfl,by simpa [Nat.add_assoc] using hc 5 _ rfl,by simpa [Nat.add_assoc] using hc 6 _ rfl,by simpa [Nat.add_assoc] using hc 7 _ rfl,by simpa [Nat.add_assoc] using hc 8 _ rfl,by simpa [Nat.add_assoc] using hc 9 _ rfl,by simpa [Nat.add_assoc] using hc 10 _ rfl,h1⟩
def Hb (w:AH) (cs:List AK) (x:Mn):Prop:=∃A1 n1 c1 A2 n2 c2,cs=[AA A1 n1 c1,AN x.name,AA A2 n2 c2,AB AE x.dst]/\BQ 1 16 DV w (AA A1 n1 c1) x.names/\BQ 1 8 iR w (AA A2 n2 c2) x.src
theorem IH:Ea Hb:=by rintro w w' hb cs x ⟨A1,n1,c1,A2,n2,c2,h0,h1,h2⟩;exact ⟨A1,n1,c1,A2,n2,c2,h0,h1.mono Ba hb,h2.mono JS hb⟩
theorem ABF:One Hb:=by rintro w cs x ⟨A1,n1,c1,A2,n2,c2,rfl,_⟩ u hu;simp only [CO,D7,D5] at hu;rcases hu with rfl | rfl | rfl | rfl <;> rfl
theorem uJ {w:AH} {A:Option Aa} {n cap:Nat} {l:List Mn} (h:Ag 4 Hb w (AA A n cap) l) {k:Nat} (hk:k < n):
 ∃b off x A1 n1 c1 A2 n2 c2,A=some ⟨b,off,none⟩/\b < w.heap.size/\l[k]? =some x/\
  w.cell? ⟨b,off+k*4,none⟩=some (AA A1 n1 c1)/\
  w.cell? ⟨b,off+k*4+1,none⟩=some (AN x.name)/\
  w.cell? ⟨b,off+k*4+2,none⟩=some (AA A2 n2 c2)/\
  w.cell? ⟨b,off+k*4+3,none⟩=some (AB AE x.dst)/\BQ 1 16 DV w (AA A1 n1 c1) x.names/\BQ 1 8 iR w (AA A2 n2 c2) x.src:=by
 obtain ⟨b,off,x,cs,e,hb,hl,hlen,hc,hR⟩:=h.at_ hk;obtain ⟨A1,n1,c1,A2,n2,c2,rfl,h1,h2⟩:=hR;exact ⟨b,off,x,A1,n1,c1,A2,n2,c2,e,hb,hl,by simpa using hc 0 _ rfl,by simpa [Nat.add_assoc] using hc 1 _ rfl,by simpa [Nat.add_assoc] using hc 2 _ rfl,by simpa [Nat.add_assoc] using hc 3 _ rfl,h1,h2⟩
def BR (w:AH) (cs:List AK) (x:BI):Prop:=∃A1 n1 c1 A2 n2 c2,cs=[AN x.name,AN x.Hh,AB AE x.Au,AB AE x.version,AA A1 n1 c1,AA A2 n2 c2]/\BQ 11 120 EW w (AA A1 n1 c1) x.fields/\BQ 4 72 Hb w (AA A2 n2 c2) x.deps
theorem BM:Ea BR:=by rintro w w' hb cs x ⟨A1,n1,c1,A2,n2,c2,h0,h1,h2⟩;exact ⟨A1,n1,c1,A2,n2,c2,h0,h1.mono DJ hb,h2.mono IH hb⟩
theorem oD:One BR:=by rintro w cs x ⟨A1,n1,c1,A2,n2,c2,rfl,_⟩ u hu;simp only [CO,D7,D5] at hu;rcases hu with rfl | rfl | rfl | rfl | rfl | rfl <;> rfl
theorem Fz {w:AH} {A:Option Aa} {n cap:Nat} {l:List BI} (h:Ag 6 BR w (AA A n cap) l) {k:Nat} (hk:k < n):
 ∃b off x A1 n1 c1 A2 n2 c2,A=some ⟨b,off,none⟩/\b < w.heap.size/\l[k]? =some x/\
  w.cell? ⟨b,off+k*6,none⟩=some (AN x.name)/\
  w.cell? ⟨b,off+k*6+1,none⟩=some (AN x.Hh)/\
  w.cell? ⟨b,off+k*6+2,none⟩=some (AB AE x.Au)/\
  w.cell? ⟨b,off+k*6+3,none⟩=some (AB AE x.version)/\
  w.cell? ⟨b,off+k*6+4,none⟩=some (AA A1 n1 c1)/\
  w.cell? ⟨b,off+k*6+5,none⟩=some (AA A2 n2 c2)/\BQ 11 120 EW w (AA A1 n1 c1) x.fields/\BQ 4 72 Hb w (AA A2 n2 c2) x.deps:=by
 obtain ⟨b,off,x,cs,e,hb,hl,hlen,hc,hR⟩:=h.at_ hk;obtain ⟨A1,n1,c1,A2,n2,c2,rfl,h1,h2⟩:=hR;exact ⟨b,off,x,A1,n1,c1,A2,n2,c2,e,hb,hl,by simpa using hc 0 _ rfl,by simpa [Nat.add_assoc] using hc 1 _ rfl,by simpa [Nat.add_assoc] using hc 2 _ rfl,by simpa [Nat.add_assoc] using hc 3 _ rfl,by simpa [Nat.add_assoc] using hc 4 _ rfl,by simpa [Nat.add_assoc] using hc 5 _ rfl,h1,h2⟩
def CM (w:AH) (cs:List AK) (x:Ck):Prop:=∃A1 n1 c1 A2 n2 c2 A3 n3 c3,cs=[AN x.head,AB AE x.schema,AA A1 n1 c1,AA A2 n2 c2,AA A3 n3 c3]/\BQ 8 96 DI w (AA A1 n1 c1) x.froms/\BQ 11 120 EQ w (AA A2 n2 c2) x.DQ/\BQ 7 80 Gc w (AA A3 n3 c3) x.sets
theorem Bh:Ea CM:=by rintro w w' hb cs x ⟨A1,n1,c1,A2,n2,c2,A3,n3,c3,h0,h1,h2,h3⟩;exact ⟨A1,n1,c1,A2,n2,c2,A3,n3,c3,h0,h1.mono FL hb,h2.mono Gi hb,h3.mono IE hb⟩
theorem wD:One CM:=by rintro w cs x ⟨A1,n1,c1,A2,n2,c2,A3,n3,c3,rfl,_⟩ u hu;simp only [CO,D7,D5] at hu;rcases hu with rfl | rfl | rfl | rfl | rfl <;> rfl
theorem Pw {w:AH} {A:Option Aa} {n cap:Nat} {l:List Ck} (h:Ag 5 CM w (AA A n cap) l) {k:Nat} (hk:k < n):
 ∃b off x A1 n1 c1 A2 n2 c2 A3 n3 c3,A=some ⟨b,off,none⟩/\b < w.heap.size/\l[k]? =some x/\
  w.cell? ⟨b,off+k*5,none⟩=some (AN x.head)/\
  w.cell? ⟨b,off+k*5+1,none⟩=some (AB AE x.schema)/\
  w.cell? ⟨b,off+k*5+2,none⟩=some (AA A1 n1 c1)/\
  w.cell? ⟨b,off+k*5+3,none⟩=some (AA A2 n2 c2)/\
  w.cell? ⟨b,off+k*5+4,none⟩=some (AA A3 n3 c3)/\BQ 8 96 DI w (AA A1 n1 c1) x.froms/\BQ 11 120 EQ w (AA A2 n2 c2) x.DQ/\BQ 7 80 Gc w (AA A3 n3 c3) x.sets:=by
 obtain ⟨b,off,x,cs,e,hb,hl,hlen,hc,hR⟩:=h.at_ hk;obtain ⟨A1,n1,c1,A2,n2,c2,A3,n3,c3,rfl,h1,h2,h3⟩:=hR;exact ⟨b,off,x,A1,n1,c1,A2,n2,c2,A3,n3,c3,e,hb,hl,by simpa using hc 0 _ rfl,by simpa [Nat.add_assoc] using hc 1 _ rfl,by simpa [Nat.add_assoc] using hc 2 _ rfl,by simpa [Nat.add_assoc] using hc 3 _ rfl,by simpa [Nat.add_assoc] using hc 4 _ rfl,h1,h2,h3⟩
def By (w:AH) (cs:List AK) (x:C4):Prop:=∃A1 n1 c1,cs=[AN x.from_,AN x.DU,AB AE x.a,AB AE x.b,AA A1 n1 c1]/\BQ 5 56 GJ w (AA A1 n1 c1) x.moves
theorem Bo:Ea By:=by rintro w w' hb cs x ⟨A1,n1,c1,h0,h1⟩;exact ⟨A1,n1,c1,h0,h1.mono IG hb⟩
theorem kf:One By:=by rintro w cs x ⟨A1,n1,c1,rfl,_⟩ u hu;simp only [CO,D7,D5] at hu;rcases hu with rfl | rfl | rfl | rfl | rfl <;> rfl
theorem QK {w:AH} {A:Option Aa} {n cap:Nat} {l:List C4} (h:Ag 5 By w (AA A n cap) l) {k:Nat} (hk:k < n):
 ∃b off x A1 n1 c1,A=some ⟨b,off,none⟩/\b < w.heap.size/\l[k]? =some x/\
  w.cell? ⟨b,off+k*5,none⟩=some (AN x.from_)/\
  w.cell? ⟨b,off+k*5+1,none⟩=some (AN x.DU)/\
  w.cell? ⟨b,off+k*5+2,none⟩=some (AB AE x.a)/\
  w.cell? ⟨b,off+k*5+3,none⟩=some (AB AE x.b)/\
  w.cell? ⟨b,off+k*5+4,none⟩=some (AA A1 n1 c1)/\BQ 5 56 GJ w (AA A1 n1 c1) x.moves:=by
 obtain ⟨b,off,x,cs,e,hb,hl,hlen,hc,hR⟩:=h.at_ hk;obtain ⟨A1,n1,c1,rfl,h1⟩:=hR;exact ⟨b,off,x,A1,n1,c1,e,hb,hl,by simpa using hc 0 _ rfl,by simpa [Nat.add_assoc] using hc 1 _ rfl,by simpa [Nat.add_assoc] using hc 2 _ rfl,by simpa [Nat.add_assoc] using hc 3 _ rfl,by simpa [Nat.add_assoc] using hc 4 _ rfl,h1⟩
def BT (w:AH) (cs:List AK) (x:Cj):Prop:=∃A1 n1 c1,cs=[AN x.name,AA A1 n1 c1,AB AE x.most]/\BQ 4 48 IF w (AA A1 n1 c1) x.may
theorem BN:Ea BT:=by rintro w w' hb cs x ⟨A1,n1,c1,h0,h1⟩;exact ⟨A1,n1,c1,h0,h1.mono J8 hb⟩
theorem kX:One BT:=by rintro w cs x ⟨A1,n1,c1,rfl,_⟩ u hu;simp only [CO,D7,D5] at hu;rcases hu with rfl | rfl | rfl <;> rfl
theorem L7 {w:AH} {A:Option Aa} {n cap:Nat} {l:List Cj} (h:Ag 3 BT w (AA A n cap) l) {k:Nat} (hk:k < n):
 ∃b off x A1 n1 c1,A=some ⟨b,off,none⟩/\b < w.heap.size/\l[k]? =some x/\
  w.cell? ⟨b,off+k*3,none⟩=some (AN x.name)/\
  w.cell? ⟨b,off+k*3+1,none⟩=some (AA A1 n1 c1)/\
  w.cell? ⟨b,off+k*3+2,none⟩=some (AB AE x.most)/\BQ 4 48 IF w (AA A1 n1 c1) x.may:=by
 obtain ⟨b,off,x,cs,e,hb,hl,hlen,hc,hR⟩:=h.at_ hk;obtain ⟨A1,n1,c1,rfl,h1⟩:=hR;exact ⟨b,off,x,A1,n1,c1,e,hb,hl,by simpa using hc 0 _ rfl,by simpa [Nat.add_assoc] using hc 1 _ rfl,by simpa [Nat.add_assoc] using hc 2 _ rfl,h1⟩
def aB (w:AH) (cs:List AK) (x:BD):Prop:=∃A1 n1 c1 A2 n2 c2 A3 n3 c3 A4 n4 c4 A5 n5 c5 A6 n6 c6,cs=[AA A1 n1 c1,AA A2 n2 c2,AA A3 n3 c3,AA A4 n4 c4,AA A5 n5 c5,AA A6 n6 c6]/\BQ 1 16 DV w (AA A1 n1 c1) x.Bl/\BQ 5 56 CK w (AA A2 n2 c2) x.units/\BQ 6 96 BR w (AA A3 n3 c3) x.Ap/\BQ 5 96 CM w (AA A4 n4 c4) x.rules/\BQ 5 72 By w (AA A5 n5 c5) x.converts/\BQ 3 48 BT w (AA A6 n6 c6) x.purposes
def Dm {α:Type} [DecidableEq α] (seen:List α):List α->Bool
 | []=>true
 | x::l=>if x∈seen then false else Dm (seen++[x]) l
def MU (us:List Bk) (u:Bk):Bool:=
 decide (1<=u.scale) && decide (u.scale<=1099511627776) && decide (0<=u.base) && decide (u.base < us.length) && ((us[u.base.toNat]?).any fun b=>decide (b.scale=1))
def JW (units:Nat) (t:Fe):Bool:=
 if t.kind=1 then decide (0<=t.lo) && decide (t.lo<=t.hi) && decide (t.hi<=1048576) && decide (-1<=t.unit) && decide (t.unit < units) && decide (t.names.length=0)
 else if t.kind=2 then decide (t.lo=0) && decide (t.hi=1023) && decide (t.unit= -1) && decide (t.names.length=0)
 else if t.kind=3 then decide (t.lo=0) && decide (t.hi=4095) && decide (t.unit= -1) && decide (t.names.length=0)
 else if t.kind=4 then decide (t.lo=0) && decide (t.hi=(t.names.length:Int) - 1) && decide (t.unit= -1) && decide (1<=t.names.length) && decide (t.names.length<=16) && Dm [] t.names
 else false
def Dd (w:Int):Bool:=decide (0<=w) && decide (w<=9)
def Jz (units:Nat) (f:GZ):Bool:=JW units f.type && (Dd f.w0 && (Dd f.w1 && (Dd f.w2 && Dd f.w3)))
def Dn (Bl units:Nat) (s:BI):Bool:=
 decide (0<=s.Au) && decide (s.Au < Bl) && decide (1<=s.version) && decide (s.version<=255) && decide (1<=s.fields.length) && decide (s.fields.length<=12) &&
  ((s.fields[0]?).any fun f=>decide (f.type.kind=3)) && s.fields.all (Jz units)
def FH (s:BD):Bool:=
 decide (s.Bl.length<=8) && decide (s.units.length<=64) && decide (s.Ap.length<=16) && decide (s.rules.length<=16) && decide (s.converts.length<=16) && decide (s.purposes.length<=8) &&
  s.purposes.all fun p=>decide (p.may.length<=64)
open Go.MapKept (run_checkKey heap_set heap_alloc IsKey)
structure TS (P:BB) (kt:Ae) {κ:Type} (ek:κ->AK):Prop where
 eq:∀(a b:κ) (w:AH),∃r:Bool,(Op.equal kt (ek a) (ek b)).run P w=.ok r w/\(r=true↔a=b)
 ck:∀(e:Bool) (a:κ) (w:AH),(Instr.checkKey e 10000 kt (ek a)).run P w=.ok () w
 sb:∀a:κ,Instr.sameBits 10000 (ek a) (ek a)=true
 un:∃d,P.underlying kt=some d/\∀(a b:κ) (r:Bool),Instr.sameNow d (ek a) (ek b)=some r->(r=true↔a=b)
section
variable {κ ν:Type} [DecidableEq κ]
def I7:List (κ×ν)->κ->Nat->Option (Nat×ν)
 | [],_,_=>none
 | p::m,k,i=>if k=p.1 then some (i,p.2) else I7 m k (i+1)
def getM (m:List (κ×ν)) (k:κ):Option ν:=(I7 m k 0).map (·.2)
def Ha:List (κ×ν)->κ->ν->List (κ×ν)
 | [],k,v=>[(k,v)]
 | p::m,k,v=>if k=p.1 then (k,v)::m else p::Ha m k v
theorem ABb (m:List (κ×ν)) (k:κ) (i j:Nat):(I7 m k i).map (·.2)=(I7 m k j).map (·.2):=by
 induction m generalizing i j with
 | nil=>rfl
 |
  cons p m ih=>
  unfold I7;split
  · rfl
  · exact ih _ _
theorem P7 (k:κ):getM ([]:List (κ×ν)) k=none:=rfl
theorem OV (p:κ×ν) (m:List (κ×ν)) (k:κ):getM (p::m) k=if k=p.1 then some p.2 else getM m k:=by
 simp only [getM];rw [I7];split
 · rfl
 · exact ABb m k _ _
theorem pS (m:List (κ×ν)) (k k':κ) (v:ν):getM (Ha m k v) k'=if k'=k then some v else getM m k':=by
 induction m with
 | nil=>simp only [Ha,OV,P7]
 |
  cons p m ih=>
  unfold Ha;split
  ·rename_i h
   subst h;simp only [OV];split <;> rfl
  rename_i h
  simp only [OV,ih];split
  ·rename_i h2
   subst h2;rw [Ah (fun e=>h e.symm)]
  · rfl
def MapAt (ek:κ->AK) (ev:ν->AK) (w:AH) (b:Nat) (m:List (κ×ν)):Prop:=
 ∃es clock,w.heap[b]? =some (.map es clock)/\es.toList.map (fun e=>(e.key,e.val))=m.map (fun p=>(ek p.1,ev p.2))
variable {ek:κ->AK} {ev:ν->AK} {P:BB} {kt et t:Ae} {w w':AH} {b:Nat} {m:List (κ×ν)}
omit [DecidableEq κ] in
theorem MapAt.lt (h:MapAt ek ev w b m):b < w.heap.size:=by obtain ⟨es,clock,h,_⟩:=h;exact (Cz.1 h).1
omit [DecidableEq κ] in
theorem MapAt.same (h:MapAt ek ev w b m) (hb:w'.heap[b]? =w.heap[b]?):MapAt ek ev w' b m:=by obtain ⟨es,clock,h,h2⟩:=h;exact ⟨es,clock,hb.trans h,h2⟩
omit [DecidableEq κ] in
theorem MapAt.grown {row:Option Nat} (h:MapAt ek ev w b m) (hg:w.grownBy w' row) (hne:some b≠row):MapAt ek ev w' b m:=
 h.same (hg.block b h.lt hne)
omit [DecidableEq κ] in
omit [DecidableEq κ] in
theorem MapAt.new (ek:κ->AK) (ev:ν->AK) (w:AH):MapAt ek ev (w.alloc (.map #[] 0)) w.heap.size []:=
 ⟨#[],0,(heap_alloc w _).1,rfl⟩
theorem AB1 (K:TS P kt ek) {d:TypeDesc} (hd:P.underlying kt=some d) (k:κ):∀(l:List MapEntry) (m:List (κ×ν)) (i:Nat),l.map (fun e=>(e.key,e.val))=m.map (fun p=>(ek p.1,ev p.2))->
 Instr.findNow d (ek k) l i=none\/Instr.findNow d (ek k) l i=some ((I7 m k i).map (fun q=>(q.1,ev q.2))):=by
 intro l
 induction l with
 |
  nil=>
  intro m i h;cases m with
  | nil=>exact .inr rfl
  | cons p m=>simp at h
 |
  cons e l ih=>
  intro m i h;cases m with
  | nil=>simp at h
  |
   cons p m=>
   simp only [Fi,RT,GD] at h;obtain ⟨⟨h1,h2⟩,h3⟩:=h;obtain ⟨d',hd',hun⟩:=K.un;obtain rfl:d'=d:=by rw [hd] at hd';exact (FO hd').symm
   unfold Instr.findNow I7;rw [h1];cases hs:Instr.sameNow d' (ek k) (ek p.1) with
   | none=>exact .inl rfl
   |
    some r=>
    have hr:=hun _ _ _ hs;cases r with
    |
     true=>
     right;rw [Am (hr.1 rfl)];simp [h2]
    |
     false=>
     rw [Ah (fun e=>by have:=hr.2 e;cases this)];exact ih m (i+1) h3
theorem pW (K:TS P kt ek) (k:κ) (w:AH):∀(l:List MapEntry) (m:List (κ×ν)) (i:Nat),l.map (fun e=>(e.key,e.val))=m.map (fun p=>(ek p.1,ev p.2))->
 (Instr.findAsking kt (ek k) l i).run P w=.ok ((I7 m k i).map (fun q=>(q.1,ev q.2))) w:=by
 intro l
 induction l with
 |
  nil=>
  intro m i h;cases m with
  | nil=>rfl
  | cons p m=>simp at h
 |
  cons e l ih=>
  intro m i h;cases m with
  | nil=>simp at h
  |
   cons p m=>
   simp only [Fi,RT,GD] at h;obtain ⟨⟨h1,h2⟩,h3⟩:=h;obtain ⟨r,hr,hiff⟩:=K.eq k p.1 w;unfold Instr.findAsking I7;simp only [Cs,h1,hr,Result.andThen_ok];cases r with
   | true=>rw [Am (hiff.1 rfl)];simp [h2]
   |
    false=>
    have hk:¬k=p.1:=fun e=>by have:=hiff.2 e;cases this
    rw [Ah hk];simpa using ih m (i+1) h3
theorem Xy (K:TS P kt ek) (k:κ) (w:AH) (l:List MapEntry) (m:List (κ×ν)) (h:l.map (fun e=>(e.key,e.val))=m.map (fun p=>(ek p.1,ev p.2))):
 (Instr.findKey kt (ek k) l).run P w=.ok ((I7 m k 0).map (fun q=>(q.1,ev q.2))) w:=by
 obtain ⟨d,hd,hun⟩:=K.un;unfold Instr.findKey;simp only [Cs,UV hd,Result.andThen_ok];rcases AB1 (ev:=ev) K hd k l m 0 h with h1 | h1
 · rw [h1];exact pW K k w l m 0 h
 · rw [h1];rfl
theorem DH (K:TS P kt ek) (ht:P.underlying t=some (.map kt et)) {z:AK} (hz:(zeroValue et).run P w=.ok z w) (h:MapAt ek ev w b m) (k:κ) (c:Bool):
 (Instr.lookup t (.map (some b)) (ek k) c).run P w=.ok (if c then .tuple #[((getM m k).map ev).getD z,AX (getM m k).isSome] else ((getM m k).map ev).getD z) w:=by
 obtain ⟨es,clock,hb,hes⟩:=h;unfold Instr.lookup getM;simp only [Cs,UV ht,Result.andThen_ok,eP hb,DL,K.ck,Xy (ev:=ev) K k w _ m hes];cases I7 m k 0 with
 | none=>simp [hz]
 | some q=>simp
theorem Xi (ek:κ->AK) (ev:ν->AK) (k:κ) (v:ν):∀(l:List MapEntry) (m:List (κ×ν)) (i j:Nat) (x:ν),l.map (fun e=>(e.key,e.val))=m.map (fun p=>(ek p.1,ev p.2))->I7 m k i=some (j,x)->
 i<=j/\(∃e,l[j - i]? =some e/\e.key=ek k)/\(l.modify (j - i) (fun e=>{e with key:=ek k,val:=ev v})).map (fun e=>(e.key,e.val))=(Ha m k v).map (fun p=>(ek p.1,ev p.2)):=by
 intro l
 induction l with
 |
  nil=>
  intro m i j x h;cases m with
  | nil=>intro h2;simp [I7] at h2
  | cons p m=>simp at h
 |
  cons e l ih=>
  intro m i j x h;cases m with
  | nil=>simp at h
  |
   cons p m=>
   simp only [Fi,RT,GD] at h;obtain ⟨⟨h1,h2⟩,h3⟩:=h;unfold I7 Ha;split
   ·rename_i hk
    intro hs;simp only [Bq,GD] at hs;obtain ⟨rfl,rfl⟩:=hs;refine ⟨Ad _,⟨e,by simp,by rw [h1,hk]⟩,?_⟩;simp [h3]
   rename_i hk
   intro hs;obtain ⟨a1,⟨e',a2,a3⟩,a4⟩:=ih m (i+1) j x h3 hs;have hj:j - i=(j - (i+1))+1:=AG
   refine ⟨by omega,⟨e',by rw [hj];simpa using a2,a3⟩,?_⟩;rw [hj,List.modify_succ_cons];simp [h1,h2,a4]
omit [DecidableEq κ] in
theorem jD [DecidableEq κ] (k:κ) (v:ν):∀(m:List (κ×ν)) (i:Nat),I7 m k i=none->Ha m k v=m++[(k,v)]:=by
 intro m
 induction m with
 | nil=>intro i _;rfl
 |
  cons p m ih=>
  intro i h;unfold I7 at h;unfold Ha;split at h
  · cases h
  rename_i hk
  rw [Ah hk,ih _ h];rfl
theorem FG (K:TS P kt ek) (ht:P.underlying t=some (.map kt et)) (h:MapAt ek ev w b m) (k:κ) (v:ν):
 ∃w',(Instr.mapUpdate t (.map (some b)) (ek k) (ev v)).run P w=.ok () w'/\MapAt ek ev w' b (Ha m k v)/\w.grownBy w' (some b):=by
 have hlt:=h.lt;obtain ⟨es,clock,hb,hes⟩:=h;have hgrow:∀o:Obj,w.grownBy {w with heap:=w.heap.setIfInBounds b o} (some b):=fun o=>
  ⟨rfl,rfl,rfl,by simp,fun i _ hne=>(heap_set hb).2 i (fun e=>hne M1)⟩
 unfold Instr.mapUpdate;simp only [Cs,UV ht,Result.andThen_ok,eP hb,K.ck,Xy (ev:=ev) K k w _ m hes];cases hl:I7 m k 0 with
 |
  none=>
  refine ⟨_,Yp _ hb,⟨_,_,(heap_set hb).1,?_⟩,hgrow _⟩;rw [jD k v m 0 hl];simp [hes]
 |
  some q=>
  obtain ⟨j,x⟩:=q;obtain ⟨_,⟨e,he,hek⟩,h3⟩:=Xi ek ev k v es.toList m 0 j x hes hl;simp only [Nat.sub_zero] at he h3;have he':es[j]? =some e:=by simpa using he
  simp only [Cu,he',Ce,hek];unfold Instr.keyThatStays;rw [K.sb,Am rfl];simp only [Cs,DL,Result.andThen_ok];refine ⟨_,Yp _ hb,⟨_,_,(heap_set hb).1,?_⟩,hgrow _⟩;simpa using h3
end
theorem IW {P:BB} {kt:Ae} {q:IntKind} (hk:P.underlying kt=some (.int q)):TS P kt (fun x:Int=>Value.int q x) where
 eq a b w:=⟨a==b,by simpa [Op.equal,Op.maxDepth] using Lw w 9999 kt q q a b hk,by simp⟩
 ck e a w:=run_checkKey (d:=.int q) hk (by simp [IsKey]) e 9999
 sb a:=by simp [Instr.sameBits]
 un:=⟨_,hk,fun a b r h=>by simp [Instr.sameNow] at h;subst h;simp⟩
open Go.MapKept (run_checkKey heap_set heap_alloc IsKey)
theorem str_eq (a b:ByteArray):((a.toList==b.toList)=true)↔a=b:=by rw [beq_iff_eq,ByteArray.toList_eq,ByteArray.toList_eq];exact ⟨fun h=>WideShapes.bytes_inj h,fun h=>by rw [h]⟩
theorem Dt (a b:ByteArray):(a.toList==b.toList)=decide (a=b):=by rw [Bool.eq_iff_iff,str_eq,Bw]
theorem ACH (a b:ByteArray):((a==b)=true)↔a=b:=by rw [beq_toListBytes];exact str_eq a b
theorem DB {P:BB} {kt:Ae} (hk:P.underlying kt=some .string):TS P kt (fun x:ByteArray=>Value.string x) where
 eq a b w:=⟨a.toList==b.toList,by simpa [Op.equal,Op.maxDepth] using Pf w 9999 kt a b hk,str_eq a b⟩
 ck e a w:=run_checkKey (d:=.string) hk (by simp [IsKey]) e 9999
 sb a:=by simp only [Instr.sameBits];exact (ACH a a).2 rfl
 un:=⟨_,hk,fun a b r h=>by simp only [Instr.sameNow,Bq] at h;subst h;exact ACH a b⟩
def Ev {κ:Type} (l:List κ):List (κ×Bool):=l.map fun x=>(x,true)
theorem Xw {κ:Type} [DecidableEq κ] (l:List κ) (x:κ):getM (Ev l) x=if x∈l then some true else none:=by
 induction l with
 | nil=>simp [Ev,P7]
 |
  cons y l ih=>
  have h:getM (Ev (y::l)) x=if x=y then some true else getM (Ev l) x:=OV (y,true) (Ev l) x
  rw [h,ih];by_cases e:x=y <;> simp [e]
theorem XT {κ:Type} [DecidableEq κ] (l:List κ) (x:κ) (h:x∉l):Ha (Ev l) x true=Ev (l++[x]):=by
 induction l with
 | nil=>rfl
 |
  cons y l ih=>
  have e:¬x=y:=fun e=>h (by simp [e]);have h2:x∉l:=fun e=>h (by simp [e]);have:=ih h2;simp only [Ev,Fi,Lx] at this ⊢;rw [Ha,Ah e,this]
theorem ae (A:Option Aa) (n c:Nat) (l:List ByteArray) (w:AH) (hs:Ag 1 DV w (AA A n c) l):
 AS prog 129 #[AA A n c] w fun e w'=>e=AV (AX (Dm [] l))/\AJ w w':=by
 have hn2:n<=9223372036854775807:=by have:=hs.le;omega
 obtain ⟨HN,HS⟩:=Aj hs.len hs;clear hs;have hmm:∀(n:Int) (w:AH),(Instr.makeMap 311 (some (AB AE n))).run prog w=.ok (.map (some w.heap.size)) (w.alloc (.map #[] 0)):=by intro n w;simp [Instr.makeMap,run_underlying underlying311,asInt,asIntOf]
 obtain ⟨v,hv⟩:=BH (Dm [] l);rw [hv];have HV:AI (Dm (l.take 0) (l.drop 0)=v):=AF hv;clear hv;go_enter func129,ntmps129;go_wp2_with fail;clear hmm;have hm0:MapAt Value.string Value.bool (w.alloc (.map #[] 0)) w.heap.size (Ev (l.take 0)):=MapAt.new _ _ w;have hb0:AJ w (w.alloc (.map #[] 0)):=(Af _ _).alloc (Ad _) _;obtain ⟨ML,HB0⟩:=Aj hm0 hb0;clear hm0 hb0;go_loopg [11] n (fun g i wr=>∃k:Nat,k<=n/\g=n - k/\i=AB AE k/\Dm (l.take k) (l.drop k)=v/\MapAt Value.string Value.bool wr w.heap.size (Ev (l.take k))/\AJ w wr)
 case atStart=>exact AAf
 clear ML HB0 HV;obtain ⟨k,hk,hg,rfl,hv,hm,hb⟩:=hrel;obtain ⟨HG,HB⟩:=Aj hg hb;by_cases hlt:k < n
 ·obtain ⟨b,off,x,rfl,hbl,hx,hc⟩:=XI (HS.o.mono Ba HB.o) hlt
  rw [drop_cons hx,Dm] at hv;have hlook:=DH (DB underlying9) underlying311 (z:=AX false) AL hm x false;rw [Xw] at hlook;by_cases hmem:x∈l.take k
  ·rw [Am hmem] at hv hlook
   exact AAL
  rw [Ah hmem] at hv hlook;simp only [JJ,Jt,If,Hn] at hlook;obtain ⟨w3,hrun3,EI,hg3⟩:=FG (DB underlying9) underlying311 hm x true;exact AAY
 exact AAC
theorem AGi (n:Nat):((n:Int)==0)=decide (n=0):=by by_cases h:n=0 <;> simp [h]
theorem ABk (k lo hi u:Int) (s:ByteArray) (A:Option Aa) (n c:Nat) (m:Int) (w:AH):
 AS prog 125 #[AO #[AB AE k,AB AE lo,AB AE hi,AN s,AB AE u,AA A n c],AB AE m] w fun e w'=>
  e=AV (AX (decide (0<=lo) && decide (lo<=hi) && decide (hi<=1048576) && decide (-1<=u) && decide (u < m) && decide (n=0)))/\AJ w w':=by
 go_enter func125,ntmps125;exact mU
theorem ABj (k lo hi u:Int) (s:ByteArray) (A:Option Aa) (n c:Nat) (m:Int) (w:AH):
 AS prog 126 #[AO #[AB AE k,AB AE lo,AB AE hi,AN s,AB AE u,AA A n c],AB AE m] w fun e w'=>
  e=AV (AX (decide (lo=0) && decide (hi=1023) && decide (u= -1) && decide (n=0)))/\AJ w w':=by
 go_enter func126,ntmps126;exact mU
theorem ABi (k lo hi u:Int) (s:ByteArray) (A:Option Aa) (n c:Nat) (m:Int) (w:AH):
 AS prog 127 #[AO #[AB AE k,AB AE lo,AB AE hi,AN s,AB AE u,AA A n c],AB AE m] w fun e w'=>
  e=AV (AX (decide (lo=0) && decide (hi=4095) && decide (u= -1) && decide (n=0)))/\AJ w w':=by
 go_enter func127,ntmps127;exact mU
theorem ABh (k lo hi u:Int) (s:ByteArray) (A:Option Aa) (n c:Nat) (m:Int) (l:List ByteArray) (w:AH) (hs:Ag 1 DV w (AA A n c) l):
 AS prog 128 #[AO #[AB AE k,AB AE lo,AB AE hi,AN s,AB AE u,AA A n c],AB AE m] w fun e w'=>
  e=AV (AX (decide (lo=0) && decide (hi=(n:Int) - 1) && decide (u= -1) && decide (1<=n) && decide (n<=16) && Dm [] l))/\AJ w w':=by
 have hn2:n<=9223372036854775807:=by have:=hs.le;omega
 have HS:=AF hs;clear hs;go_enter func128,ntmps128;go_wp2_with (go_at_call 129;refine (ae _ _ _ l _ (HS.o.mono Ba (BP _ _))).mono ?_;rintro e w1 ⟨rfl,hb1⟩)
 all_goals
  go_ret
  first
   | refine ⟨A8 ?_,(Af _ _).alloc (Ad _) _⟩
   | refine ⟨A8 ?_,Below.trans (BP _ _) (Below.mono hb1 Ac)⟩
  go_light
  first
   | (simp_all;done)
   | (simp_all;intros;exfalso;omega)
   | (simp_all;intros;omega)
def SU:AK:=AO #[.nilFunc,.func (.func 125) #[] #[],.func (.func 126) #[] #[],.func (.func 127) #[] #[],.func (.func 128) #[] #[]]
theorem TD (w:AH):AS prog 78 #[] w fun e w'=>e=AV SU/\AJ w w':=by go_enter func78,ntmps78;go_wp2_with fail;exact E8 (v:=SU) (by simp [results,results78,go_sem,SU]) rfl ⟨rfl,(Af _ _).alloc (Ad _) _⟩
theorem vd (A1 A2 A3 A4 A5 A6:Option Aa) (n1 c1 n2 c2 n3 c3 n4 c4 n5 c5 n6 c6:Nat) (u:Bk) (us:List Bk) (w:AH) (h2:Ag 5 CK w (AA A2 n2 c2) us):
 AS prog 98 #[(AO #[AA A1 n1 c1,AA A2 n2 c2,AA A3 n3 c3,AA A4 n4 c4,AA A5 n5 c5,AA A6 n6 c6]),AO #[AN u.name,AN u.Av,AB AE u.factor,AB AE u.base,AB AE u.scale]] w fun e w'=>
  e=AV (AX (MU us u))/\AJ w w':=by
 have hn2:n2<=9223372036854775807:=by have:=h2.le;omega
 have hln:=h2.len;have H2:=AF h2;clear h2;obtain ⟨nm,Av,fa,ba,sc⟩:=u;unfold MU;simp only;by_cases hin:0<=ba/\ba < n2
 ·obtain ⟨k,rfl⟩:∃k:Nat,ba=k:=⟨ba.toNat,by omega⟩
  have hk:k < n2:=AG
  obtain ⟨b,off,x,rfl,hbl,hx,e0,e1,e2,e3,e4⟩:=Nx H2.o hk;have hx2:us[(k:Int).toNat]? =some x:=by simpa using hx
  rw [hx2,<-hln];have hk0:=Int.natCast_nonneg k
  have hkn:(k:Int) < (n2:Int):=AG
  clear hx hx2 hin hln;go_enter func98,ntmps98;go_wp2_with fail
  all_goals
   go_ret;refine ⟨A8 ?_,((BP _ _).alloc Ac _)⟩
   go_light
   first
    | (simp_all;done)
    | (simp_all;intros;exfalso;omega)
    | (simp_all;rfl)
 have hf:(decide (0<=ba) && decide (ba < us.length))=false:=by rw [<-hln];simp only [My,Mz];omega
 clear hln;go_enter func98,ntmps98;go_wp2_with fail
 all_goals
  go_ret;refine ⟨A8 ?_,((BP _ _).alloc Ac _)⟩
  go_light
  first
   | (simp_all;done)
   | (simp_all;intros;exfalso;omega)
   | (simp_all;intros;omega)
   | (exfalso;omega)
theorem aX (d:Nat) (x y:DP) (w:AH):(Op.equalIn (d+2) 271 (AO #[AN x.name,AN x.path,AB AE x.var,AB AE x.field,AB AE x.n]) (AO #[AN y.name,AN y.path,AB AE y.var,AB AE y.field,AB AE y.n])).run prog w=.ok (decide (x=y)) w:=by
 have hu:=underlying271;have hp:prog.stoodInHeld 271=false:=AL
 have ht:prog.underlying 271=some (.struct (prog.fieldsOf 271)):=by rw [Program.fieldsOf,hu]
 have h1:prog.plainKey 9=true:=AL
 have h2:prog.plainKey 3=true:=AL
 rw [Pg w (d+1) 271 _ _ ht hp,Program.fieldsOf,hu];have es:∀(a b:ByteArray),(Op.equalIn (d+1) 9 (AN a) (AN b)).run prog w=.ok (decide (a=b)) w:=fun a b=>by rw [Pf w (d+0) 9 a b underlying9,Dt]
 have ei:∀(a b:Int),(Op.equalIn (d+1) 3 (AB AE a) (AB AE b)).run prog w=.ok (decide (a=b)) w:=fun a b=>by rw [Lw w (d+0) 3 .i64 .i64 a b underlying3];rfl
 have q0:=fun z:DP=>Cn (P:=prog) w h1 (xs:=#[AN z.name,AN z.path,AB AE z.var,AB AE z.field,AB AE z.n]) (off:=0) (v:=AN z.name) rfl;have q1:=fun z:DP=>Cn (P:=prog) w h1 (xs:=#[AN z.name,AN z.path,AB AE z.var,AB AE z.field,AB AE z.n]) (off:=1) (v:=AN z.path) rfl;have q2:=fun z:DP=>Cn (P:=prog) w h2 (xs:=#[AN z.name,AN z.path,AB AE z.var,AB AE z.field,AB AE z.n]) (off:=2) (v:=AB AE z.var) rfl;have q3:=fun z:DP=>Cn (P:=prog) w h2 (xs:=#[AN z.name,AN z.path,AB AE z.var,AB AE z.field,AB AE z.n]) (off:=3) (v:=AB AE z.field) rfl;have q4:=fun z:DP=>Cn (P:=prog) w h2 (xs:=#[AN z.name,AN z.path,AB AE z.var,AB AE z.field,AB AE z.n]) (off:=4) (v:=AB AE z.n) rfl;simp [Op.eqFields,q0,q1,q2,q3,q4,es,ei,Result.andThen_ok];obtain ⟨x0,x1,x2,x3,x4⟩:=x;obtain ⟨y0,y1,y2,y3,y4⟩:=y;simp only [DP.mk.injEq];by_cases e0:x0=y0
 case neg=>simp [e0]
 exact mT
theorem AES (d:Nat) (x y:Bk) (w:AH):(Op.equalIn (d+2) 193 (AO #[AN x.name,AN x.Av,AB AE x.factor,AB AE x.base,AB AE x.scale]) (AO #[AN y.name,AN y.Av,AB AE y.factor,AB AE y.base,AB AE y.scale])).run prog w=.ok (decide (x=y)) w:=by
 have hu:=underlying193;have hp:prog.stoodInHeld 193=false:=AL
 have ht:prog.underlying 193=some (.struct (prog.fieldsOf 193)):=by rw [Program.fieldsOf,hu]
 have h1:prog.plainKey 9=true:=AL
 have h2:prog.plainKey 3=true:=AL
 rw [Pg w (d+1) 193 _ _ ht hp,Program.fieldsOf,hu];have es:∀(a b:ByteArray),(Op.equalIn (d+1) 9 (AN a) (AN b)).run prog w=.ok (decide (a=b)) w:=fun a b=>by rw [Pf w (d+0) 9 a b underlying9,Dt]
 have ei:∀(a b:Int),(Op.equalIn (d+1) 3 (AB AE a) (AB AE b)).run prog w=.ok (decide (a=b)) w:=fun a b=>by rw [Lw w (d+0) 3 .i64 .i64 a b underlying3];rfl
 have q0:=fun z:Bk=>Cn (P:=prog) w h1 (xs:=#[AN z.name,AN z.Av,AB AE z.factor,AB AE z.base,AB AE z.scale]) (off:=0) (v:=AN z.name) rfl;have q1:=fun z:Bk=>Cn (P:=prog) w h1 (xs:=#[AN z.name,AN z.Av,AB AE z.factor,AB AE z.base,AB AE z.scale]) (off:=1) (v:=AN z.Av) rfl;have q2:=fun z:Bk=>Cn (P:=prog) w h2 (xs:=#[AN z.name,AN z.Av,AB AE z.factor,AB AE z.base,AB AE z.scale]) (off:=2) (v:=AB AE z.factor) rfl;have q3:=fun z:Bk=>Cn (P:=prog) w h2 (xs:=#[AN z.name,AN z.Av,AB AE z.factor,AB AE z.base,AB AE z.scale]) (off:=3) (v:=AB AE z.base) rfl;have q4:=fun z:Bk=>Cn (P:=prog) w h2 (xs:=#[AN z.name,AN z.Av,AB AE z.factor,AB AE z.base,AB AE z.scale]) (off:=4) (v:=AB AE z.scale) rfl;simp [Op.eqFields,q0,q1,q2,q3,q4,es,ei,Result.andThen_ok];obtain ⟨x0,x1,x2,x3,x4⟩:=x;obtain ⟨y0,y1,y2,y3,y4⟩:=y;simp only [Bk.mk.injEq];by_cases e0:x0=y0
 case neg=>simp [e0]
 exact mT
theorem AGJ (x y:Bk) (w:AH):(binOp .neq 193 (AO #[AN x.name,AN x.Av,AB AE x.factor,AB AE x.base,AB AE x.scale]) (AO #[AN y.name,AN y.Av,AB AE y.factor,AB AE y.base,AB AE y.scale])).run prog w=.ok (AX (!decide (x=y))) w:=by rw [RQ w,AES 9998 x y w];rfl
theorem AET (d:Nat) (x y:IL) (w:AH):(Op.equalIn (d+2) 286 (AO #[AN x.DU,AN x.from_,AB AE x.b,AB AE x.a,AB AE x.shift]) (AO #[AN y.DU,AN y.from_,AB AE y.b,AB AE y.a,AB AE y.shift])).run prog w=.ok (decide (x=y)) w:=by
 have hu:=underlying286;have hp:prog.stoodInHeld 286=false:=AL
 have ht:prog.underlying 286=some (.struct (prog.fieldsOf 286)):=by rw [Program.fieldsOf,hu]
 have h1:prog.plainKey 9=true:=AL
 have h2:prog.plainKey 3=true:=AL
 rw [Pg w (d+1) 286 _ _ ht hp,Program.fieldsOf,hu];have es:∀(a b:ByteArray),(Op.equalIn (d+1) 9 (AN a) (AN b)).run prog w=.ok (decide (a=b)) w:=fun a b=>by rw [Pf w (d+0) 9 a b underlying9,Dt]
 have ei:∀(a b:Int),(Op.equalIn (d+1) 3 (AB AE a) (AB AE b)).run prog w=.ok (decide (a=b)) w:=fun a b=>by rw [Lw w (d+0) 3 .i64 .i64 a b underlying3];rfl
 have q0:=fun z:IL=>Cn (P:=prog) w h1 (xs:=#[AN z.DU,AN z.from_,AB AE z.b,AB AE z.a,AB AE z.shift]) (off:=0) (v:=AN z.DU) rfl;have q1:=fun z:IL=>Cn (P:=prog) w h1 (xs:=#[AN z.DU,AN z.from_,AB AE z.b,AB AE z.a,AB AE z.shift]) (off:=1) (v:=AN z.from_) rfl;have q2:=fun z:IL=>Cn (P:=prog) w h2 (xs:=#[AN z.DU,AN z.from_,AB AE z.b,AB AE z.a,AB AE z.shift]) (off:=2) (v:=AB AE z.b) rfl;have q3:=fun z:IL=>Cn (P:=prog) w h2 (xs:=#[AN z.DU,AN z.from_,AB AE z.b,AB AE z.a,AB AE z.shift]) (off:=3) (v:=AB AE z.a) rfl;have q4:=fun z:IL=>Cn (P:=prog) w h2 (xs:=#[AN z.DU,AN z.from_,AB AE z.b,AB AE z.a,AB AE z.shift]) (off:=4) (v:=AB AE z.shift) rfl;simp [Op.eqFields,q0,q1,q2,q3,q4,es,ei,Result.andThen_ok];obtain ⟨x0,x1,x2,x3,x4⟩:=x;obtain ⟨y0,y1,y2,y3,y4⟩:=y;simp only [IL.mk.injEq];by_cases e0:x0=y0
 case neg=>simp [e0]
 exact mT
theorem AGK (x y:IL) (w:AH):(binOp .neq 286 (AO #[AN x.DU,AN x.from_,AB AE x.b,AB AE x.a,AB AE x.shift]) (AO #[AN y.DU,AN y.from_,AB AE y.b,AB AE y.a,AB AE y.shift])).run prog w=.ok (AX (!decide (x=y))) w:=by rw [RQ w,AET 9998 x y w];rfl
theorem AGa (d:Nat) (x y:Jl) (w:AH):(Op.equalIn (d+2) 280 (AO #[AN x.name,AN x.path,AB AE x.schema,AB AE x.field]) (AO #[AN y.name,AN y.path,AB AE y.schema,AB AE y.field])).run prog w=.ok (decide (x=y)) w:=by
 have hu:=underlying280;have hp:prog.stoodInHeld 280=false:=AL
 have ht:prog.underlying 280=some (.struct (prog.fieldsOf 280)):=by rw [Program.fieldsOf,hu]
 have h1:prog.plainKey 9=true:=AL
 have h2:prog.plainKey 3=true:=AL
 rw [Pg w (d+1) 280 _ _ ht hp,Program.fieldsOf,hu];have es:∀(a b:ByteArray),(Op.equalIn (d+1) 9 (AN a) (AN b)).run prog w=.ok (decide (a=b)) w:=fun a b=>by rw [Pf w (d+0) 9 a b underlying9,Dt]
 have ei:∀(a b:Int),(Op.equalIn (d+1) 3 (AB AE a) (AB AE b)).run prog w=.ok (decide (a=b)) w:=fun a b=>by rw [Lw w (d+0) 3 .i64 .i64 a b underlying3];rfl
 have q0:=fun z:Jl=>Cn (P:=prog) w h1 (xs:=#[AN z.name,AN z.path,AB AE z.schema,AB AE z.field]) (off:=0) (v:=AN z.name) rfl;have q1:=fun z:Jl=>Cn (P:=prog) w h1 (xs:=#[AN z.name,AN z.path,AB AE z.schema,AB AE z.field]) (off:=1) (v:=AN z.path) rfl;have q2:=fun z:Jl=>Cn (P:=prog) w h2 (xs:=#[AN z.name,AN z.path,AB AE z.schema,AB AE z.field]) (off:=2) (v:=AB AE z.schema) rfl;have q3:=fun z:Jl=>Cn (P:=prog) w h2 (xs:=#[AN z.name,AN z.path,AB AE z.schema,AB AE z.field]) (off:=3) (v:=AB AE z.field) rfl;simp [Op.eqFields,q0,q1,q2,q3,es,ei,Result.andThen_ok];obtain ⟨x0,x1,x2,x3⟩:=x;obtain ⟨y0,y1,y2,y3⟩:=y;simp only [Jl.mk.injEq];by_cases e0:x0=y0
 case neg=>simp [e0]
 exact AAJ
theorem AGx (x y:Jl) (w:AH):(binOp .neq 280 (AO #[AN x.name,AN x.path,AB AE x.schema,AB AE x.field]) (AO #[AN y.name,AN y.path,AB AE y.schema,AB AE y.field])).run prog w=.ok (AX (!decide (x=y))) w:=by rw [RQ w,AGa 9998 x y w];rfl
theorem AEU (d:Nat) (x y:Br) (w:AH):(Op.equalIn (d+3) 290 (AO #[AN x.name,AN x.kind,AB AE x.schema,AN x.Av.name,AN x.Av.path,AB AE x.Av.var,AB AE x.Av.field,AB AE x.Av.n]) (AO #[AN y.name,AN y.kind,AB AE y.schema,AN y.Av.name,AN y.Av.path,AB AE y.Av.var,AB AE y.Av.field,AB AE y.Av.n])).run prog w=.ok (decide (x=y)) w:=by
 have hu:=underlying290;have hp:prog.stoodInHeld 290=false:=AL
 have ht:prog.underlying 290=some (.struct (prog.fieldsOf 290)):=by rw [Program.fieldsOf,hu]
 have h1:prog.plainKey 9=true:=AL
 have h2:prog.plainKey 3=true:=AL
 rw [Pg w (d+2) 290 _ _ ht hp,Program.fieldsOf,hu];have es:∀(a b:ByteArray),(Op.equalIn (d+2) 9 (AN a) (AN b)).run prog w=.ok (decide (a=b)) w:=fun a b=>by rw [Pf w (d+1) 9 a b underlying9,Dt]
 have ei:∀(a b:Int),(Op.equalIn (d+2) 3 (AB AE a) (AB AE b)).run prog w=.ok (decide (a=b)) w:=fun a b=>by rw [Lw w (d+1) 3 .i64 .i64 a b underlying3];rfl
 have q0:=fun z:Br=>Cn (P:=prog) w h1 (xs:=#[AN z.name,AN z.kind,AB AE z.schema,AN z.Av.name,AN z.Av.path,AB AE z.Av.var,AB AE z.Av.field,AB AE z.Av.n]) (off:=0) (v:=AN z.name) rfl;have q1:=fun z:Br=>Cn (P:=prog) w h1 (xs:=#[AN z.name,AN z.kind,AB AE z.schema,AN z.Av.name,AN z.Av.path,AB AE z.Av.var,AB AE z.Av.field,AB AE z.Av.n]) (off:=1) (v:=AN z.kind) rfl;have q2:=fun z:Br=>Cn (P:=prog) w h2 (xs:=#[AN z.name,AN z.kind,AB AE z.schema,AN z.Av.name,AN z.Av.path,AB AE z.Av.var,AB AE z.Av.field,AB AE z.Av.n]) (off:=2) (v:=AB AE z.schema) rfl;have q3:∀z:Br,(part 271 #[AN z.name,AN z.kind,AB AE z.schema,AN z.Av.name,AN z.Av.path,AB AE z.Av.var,AB AE z.Av.field,AB AE z.Av.n] 3).run prog w=.ok (AO #[AN z.Av.name,AN z.Av.path,AB AE z.Av.var,AB AE z.Av.field,AB AE z.Av.n]) w:=fun z=>by
  exact bR
 simp [Op.eqFields,q0,q1,q2,q3,es,ei,aX d,Result.andThen_ok];obtain ⟨x0,x1,x2,x3⟩:=x;obtain ⟨y0,y1,y2,y3⟩:=y;simp only [Br.mk.injEq];by_cases e0:x0=y0
 case neg=>simp [e0]
 exact AAJ
theorem AGL (x y:Br) (w:AH):(binOp .neq 290 (AO #[AN x.name,AN x.kind,AB AE x.schema,AN x.Av.name,AN x.Av.path,AB AE x.Av.var,AB AE x.Av.field,AB AE x.Av.n]) (AO #[AN y.name,AN y.kind,AB AE y.schema,AN y.Av.name,AN y.Av.path,AB AE y.Av.var,AB AE y.Av.field,AB AE y.Av.n])).run prog w=.ok (AX (!decide (x=y))) w:=by rw [RQ w,AEU 9997 x y w];rfl
theorem AEV (d:Nat) (x y:Gf) (w:AH):(Op.equalIn (d+3) 273 (AO #[AB AE x.op,AN x.a.name,AN x.a.path,AB AE x.a.var,AB AE x.a.field,AB AE x.a.n,AN x.b.name,AN x.b.path,AB AE x.b.var,AB AE x.b.field,AB AE x.b.n]) (AO #[AB AE y.op,AN y.a.name,AN y.a.path,AB AE y.a.var,AB AE y.a.field,AB AE y.a.n,AN y.b.name,AN y.b.path,AB AE y.b.var,AB AE y.b.field,AB AE y.b.n])).run prog w=.ok (decide (x=y)) w:=by
 have hu:=underlying273;have hp:prog.stoodInHeld 273=false:=AL
 have ht:prog.underlying 273=some (.struct (prog.fieldsOf 273)):=by rw [Program.fieldsOf,hu]
 have h1:prog.plainKey 9=true:=AL
 have h2:prog.plainKey 3=true:=AL
 rw [Pg w (d+2) 273 _ _ ht hp,Program.fieldsOf,hu];have ei:∀(a b:Int),(Op.equalIn (d+2) 3 (AB AE a) (AB AE b)).run prog w=.ok (decide (a=b)) w:=fun a b=>by rw [Lw w (d+1) 3 .i64 .i64 a b underlying3];rfl
 have q0:=fun z:Gf=>Cn (P:=prog) w h2 (xs:=#[AB AE z.op,AN z.a.name,AN z.a.path,AB AE z.a.var,AB AE z.a.field,AB AE z.a.n,AN z.b.name,AN z.b.path,AB AE z.b.var,AB AE z.b.field,AB AE z.b.n]) (off:=0) (v:=AB AE z.op) rfl;have q1:∀z:Gf,(part 271 #[AB AE z.op,AN z.a.name,AN z.a.path,AB AE z.a.var,AB AE z.a.field,AB AE z.a.n,AN z.b.name,AN z.b.path,AB AE z.b.var,AB AE z.b.field,AB AE z.b.n] 1).run prog w=.ok (AO #[AN z.a.name,AN z.a.path,AB AE z.a.var,AB AE z.a.field,AB AE z.a.n]) w:=fun z=>by
  exact bR
 have q2:∀z:Gf,(part 271 #[AB AE z.op,AN z.a.name,AN z.a.path,AB AE z.a.var,AB AE z.a.field,AB AE z.a.n,AN z.b.name,AN z.b.path,AB AE z.b.var,AB AE z.b.field,AB AE z.b.n] 6).run prog w=.ok (AO #[AN z.b.name,AN z.b.path,AB AE z.b.var,AB AE z.b.field,AB AE z.b.n]) w:=fun z=>by
  exact bR
 simp [Op.eqFields,q0,q1,q2,ei,aX d,Result.andThen_ok];obtain ⟨x0,x1,x2⟩:=x;obtain ⟨y0,y1,y2⟩:=y;simp only [Gf.mk.injEq];exact AAH
theorem AGM (x y:Gf) (w:AH):(binOp .neq 273 (AO #[AB AE x.op,AN x.a.name,AN x.a.path,AB AE x.a.var,AB AE x.a.field,AB AE x.a.n,AN x.b.name,AN x.b.path,AB AE x.b.var,AB AE x.b.field,AB AE x.b.n]) (AO #[AB AE y.op,AN y.a.name,AN y.a.path,AB AE y.a.var,AB AE y.a.field,AB AE y.a.n,AN y.b.name,AN y.b.path,AB AE y.b.var,AB AE y.b.field,AB AE y.b.n])).run prog w=.ok (AX (!decide (x=y))) w:=by rw [RQ w,AEV 9997 x y w];rfl
theorem AGZ (d:Nat) (x y:Kf) (w:AH):(Op.equalIn (d+3) 276 (AO #[AN x.path,AB AE x.field,AN x.term.name,AN x.term.path,AB AE x.term.var,AB AE x.term.field,AB AE x.term.n]) (AO #[AN y.path,AB AE y.field,AN y.term.name,AN y.term.path,AB AE y.term.var,AB AE y.term.field,AB AE y.term.n])).run prog w=.ok (decide (x=y)) w:=by
 have hu:=underlying276;have hp:prog.stoodInHeld 276=false:=AL
 have ht:prog.underlying 276=some (.struct (prog.fieldsOf 276)):=by rw [Program.fieldsOf,hu]
 have h1:prog.plainKey 9=true:=AL
 have h2:prog.plainKey 3=true:=AL
 rw [Pg w (d+2) 276 _ _ ht hp,Program.fieldsOf,hu];have es:∀(a b:ByteArray),(Op.equalIn (d+2) 9 (AN a) (AN b)).run prog w=.ok (decide (a=b)) w:=fun a b=>by rw [Pf w (d+1) 9 a b underlying9,Dt]
 have ei:∀(a b:Int),(Op.equalIn (d+2) 3 (AB AE a) (AB AE b)).run prog w=.ok (decide (a=b)) w:=fun a b=>by rw [Lw w (d+1) 3 .i64 .i64 a b underlying3];rfl
 have q0:=fun z:Kf=>Cn (P:=prog) w h1 (xs:=#[AN z.path,AB AE z.field,AN z.term.name,AN z.term.path,AB AE z.term.var,AB AE z.term.field,AB AE z.term.n]) (off:=0) (v:=AN z.path) rfl;have q1:=fun z:Kf=>Cn (P:=prog) w h2 (xs:=#[AN z.path,AB AE z.field,AN z.term.name,AN z.term.path,AB AE z.term.var,AB AE z.term.field,AB AE z.term.n]) (off:=1) (v:=AB AE z.field) rfl;have q2:∀z:Kf,(part 271 #[AN z.path,AB AE z.field,AN z.term.name,AN z.term.path,AB AE z.term.var,AB AE z.term.field,AB AE z.term.n] 2).run prog w=.ok (AO #[AN z.term.name,AN z.term.path,AB AE z.term.var,AB AE z.term.field,AB AE z.term.n]) w:=fun z=>by
  exact bR
 simp [Op.eqFields,q0,q1,q2,es,ei,aX d,Result.andThen_ok];obtain ⟨x0,x1,x2⟩:=x;obtain ⟨y0,y1,y2⟩:=y;simp only [Kf.mk.injEq];exact AAH
theorem AGw (x y:Kf) (w:AH):(binOp .neq 276 (AO #[AN x.path,AB AE x.field,AN x.term.name,AN x.term.path,AB AE x.term.var,AB AE x.term.field,AB AE x.term.n]) (AO #[AN y.path,AB AE y.field,AN y.term.name,AN y.term.path,AB AE y.term.var,AB AE y.term.field,AB AE y.term.n])).run prog w=.ok (AX (!decide (x=y))) w:=by rw [RQ w,AGZ 9997 x y w];rfl
theorem EJ {w:AH} {t:Ae} {cs:Array AK} {g:Nat} (h:w.heap.size=g):AZ (w.alloc (AQ cs t)) g t cs:=by subst h;exact AZ.new _ _ _
theorem AH3 (a b c d a' b' c' d':Int) (w:AH):(Op.equalIn 10000 98 (AO #[AB AE a,AB AE b,AB AE c,AB AE d]) (AO #[AB AE a',AB AE b',AB AE c',AB AE d'])).run prog w=.ok (decide (a=a') && decide (b=b') && decide (c=c') && decide (d=d')) w:=by
 obtain ⟨i0,hi⟩:=info_of_underlying (P:=prog) underlying3;have h:=run_equalIn_array (P:=prog) w 9999 #[AB AE a,AB AE b,AB AE c,AB AE d] #[AB AE a',AB AE b',AB AE c',AB AE d'] underlying98 hi;have h1:prog.cellsOf 3=1:=AL
 rw [h1,show List.range 4=[0,1,2,3] from rfl] at h;have he:∀(x y:Int),(Op.equalIn 9999 3 (AB AE x) (AB AE y)).run prog w=.ok (decide (x=y)) w:=fun x y=>by rw [Lw (P:=prog) w 9998 3 .i64 .i64 x y underlying3];rfl
 have hp:prog.plainKey 3=true:=AL
 have qa:=Cn (P:=prog) w hp (xs:=#[AB AE a,AB AE b,AB AE c,AB AE d]) (off:=0) (v:=AB AE a) rfl;have qb:=Cn (P:=prog) w hp (xs:=#[AB AE a,AB AE b,AB AE c,AB AE d]) (off:=1) (v:=AB AE b) rfl;have qc:=Cn (P:=prog) w hp (xs:=#[AB AE a,AB AE b,AB AE c,AB AE d]) (off:=2) (v:=AB AE c) rfl;have qd:=Cn (P:=prog) w hp (xs:=#[AB AE a,AB AE b,AB AE c,AB AE d]) (off:=3) (v:=AB AE d) rfl;have qa':=Cn (P:=prog) w hp (xs:=#[AB AE a',AB AE b',AB AE c',AB AE d']) (off:=0) (v:=AB AE a') rfl;have qb':=Cn (P:=prog) w hp (xs:=#[AB AE a',AB AE b',AB AE c',AB AE d']) (off:=1) (v:=AB AE b') rfl;have qc':=Cn (P:=prog) w hp (xs:=#[AB AE a',AB AE b',AB AE c',AB AE d']) (off:=2) (v:=AB AE c') rfl;have qd':=Cn (P:=prog) w hp (xs:=#[AB AE a',AB AE b',AB AE c',AB AE d']) (off:=3) (v:=AB AE d') rfl;simp only [Op.eqItems,Cs,F9,qa,qb,qc,qd,qa',qb',qc',qd',Result.andThen_ok,he,Sem.run_ite,DL] at h;refine h.trans ?_;by_cases e0:a=a'
 case neg=>simp [e0]
 by_cases e1:b=b'
 case neg=>simp [e0,e1]
 by_cases e2:c=c'
 case neg=>simp [e0,e1,e2]
 by_cases e3:d=d'
 case neg=>simp [e0,e1,e2,e3]
 simp [e0,e1,e2,e3]
theorem AGY (a b c d a' b' c' d':Int) (w:AH):(binOp .eql 98 (AO #[AB AE a,AB AE b,AB AE c,AB AE d]) (AO #[AB AE a',AB AE b',AB AE c',AB AE d'])).run prog w=.ok (AX (decide (a=a') && decide (b=b') && decide (c=c') && decide (d=d'))) w:=by rw [run_eql_struct w,AH3];rfl
end Go.Proofs.YtpmpddfgifhlbaaGreatDoor
