import Derived.Test.YtamhoilkpppdbaaGreatDoorKAl
import Derived.Deep.Light
import Derived.Maps.AppendAt
import Derived.Test.YtamhoilkpppdbaaGreatDoorProg
import Derived.Laws.EntriesVeiled
namespace Go.Proofs.YtamhoilkpppdbaaGreatDoor
set_option maxHeartbeats 8000000
set_option maxRecDepth 100000
open Go renaming World→AH, Value→AN, Calls→AS, TypeId→Af, Program→BA, Addr→Aa
open Go.RowKit renaming Below→BI
open Go.Proofs.Tryz
open Go.Value renaming slice→AB, int→AE, string→AL, bool→Ab, agg→AP
open Go.IntKind renaming i64→AF
open Go.Ending renaming returned→AU
open Go.Obj renaming cells→AO
open Go.RowKit
def Ag {α:Type} (sz:Nat) (R:AH->List AN->α->Prop) (w:AH) (v:AN) (l:List α):Prop:=
 ∃A cap,v=AB A l.length cap/\l.length<=cap/\cap<=maxLen/\
  ∀i x,l[i]? =some x->∃b off cs,A=some ⟨b,off,none⟩/\b < w.heap.size/\cs.length=sz/\(∀j u,cs[j]? =some u->w.cell? ⟨b,off+(i*sz+j),none⟩=some u)/\R w cs x
def Ret (v:AN) (w:AH) (e:Ending) (w':AH):Prop:=e=AU v/\AK w w'
def CK (_:AH) (cs:List AN) (x:Int):Prop:=cs=[AE AF x]/\ -9223372036854775808<=x/\x<=9223372036854775807
def Eb {α:Type} (R:AH->List AN->α->Prop):Prop:=∀(w w':AH),AK w w'->∀(cs:List AN) (x:α),R w cs x->R w' cs x
theorem BX:Eb CK:=fun _ _ _ _ _ h=>h
theorem below_drewN {B:Nat} {a w:AH} (h:BI B a w) (n:Nat):BI B a (w.drewN n):=⟨h.os,h.tape,h.output,h.size,h.block⟩
section
variable {α:Type} {sz:Nat} {R:AH->List AN->α->Prop} {w w':AH} {l:List α}
theorem Ag.mono (hR:Eb R) (hb:AK w w') {v:AN} (h:Ag sz R w v l):Ag sz R w' v l:=by obtain ⟨A,cap,e,h1,h2,h3⟩:=h;refine ⟨A,cap,e,h1,h2,fun i x hi=> ?_⟩;obtain ⟨b,off,cs,rfl,hlt,hl,hc,hr⟩:=h3 i x hi;exact ⟨b,off,cs,rfl,Au hlt hb.size,hl,fun j u hu=>(hb.cell (p:=⟨b,_,none⟩) hlt).trans (hc j u hu),hR _ _ hb _ _ hr⟩
theorem Ag.at_ {A:Option Aa} {n cap:Nat} (h:Ag sz R w (AB A n cap) l) {k:Nat} (hk:k < n):
 ∃b off x cs,A=some ⟨b,off,none⟩/\b < w.heap.size/\l[k]? =some x/\cs.length=sz/\(∀j u,cs[j]? =some u->w.cell? ⟨b,off+(k*sz+j),none⟩=some u)/\R w cs x:=by
 obtain ⟨A',cap',e,h1,h2,h3⟩:=h;injection e with e1 e2 e3;subst e1 e2 e3;obtain ⟨b,off,cs,rfl,hb,hl,hc,hr⟩:=h3 k l[k] (BJ hk);exact ⟨b,off,l[k],cs,rfl,hb,BJ hk,hl,hc,hr⟩
theorem Ag.len {A:Option Aa} {n cap:Nat} (h:Ag sz R w (AB A n cap) l):n=l.length:=by obtain ⟨A',cap',e,h1,h2,h3⟩:=h;injection e
theorem Ag.le {A:Option Aa} {n cap:Nat} (h:Ag sz R w (AB A n cap) l):n<=cap/\cap<=9223372036854775807:=by obtain ⟨A',cap',e,h1,h2,h3⟩:=h;injection e with e1 e2 e3;unfold maxLen at h2;omega
theorem Ag.form {v:AN} (h:Ag sz R w v l):∃A cap,v=AB A l.length cap:=by obtain ⟨A,cap,e,_⟩:=h;exact ⟨A,cap,e⟩
theorem Ag.nil (A:Option Aa) (cap:Nat) (hc:cap<=maxLen):Ag sz R w (AB A 0 cap) []:=
 ⟨A,cap,rfl,Av _,hc,fun i x h=>by simp at h⟩
end
theorem ints_at {w:AH} {A:Option Aa} {n cap:Nat} {l:AQ} (h:Ag 1 CK w (AB A n cap) l) {k:Nat} (hk:k < n):
 ∃b off x,A=some ⟨b,off,none⟩/\b < w.heap.size/\l[k]? =some x/\w.cell? ⟨b,off+k,none⟩=some (AE AF x)/\ -9223372036854775808<=x/\x<=9223372036854775807:=by
 obtain ⟨b,off,x,cs,e,hb,hl,hlen,hc,rfl,hx⟩:=h.at_ hk;exact ⟨b,off,x,e,hb,hl,by simpa using hc 0 _ rfl,hx⟩
theorem drop_cons {α:Type} {l:List α} {k:Nat} {x:α} (h:l[k]? =some x):l.drop k=x::l.drop (k+1):=by obtain ⟨hk,rfl⟩:=BD.1 h;exact Ya hk
theorem take_snoc {α:Type} {l:List α} {k:Nat} {x:α} (h:l[k]? =some x):l.take (k+1)=l.take k++[x]:=by obtain ⟨hk,rfl⟩:=BD.1 h;exact dx hk
theorem Ay {a b:Bool} (h:a=b):Ending.returned (Ab a)=AU (Ab b):=by rw [h]
theorem Cz {k:IntKind} {a b:Int} (h:a=b):Ending.returned (.int k a)=AU (.int k b):=by rw [h]
theorem Ja {W w1:AH} (hb:AK W w1):(∀b o,b < W.heap.size->w1.cell? ⟨b,o,none⟩=W.cell? ⟨b,o,none⟩)/\(∀b o,b < W.heap.size->w1.frozen? ⟨b,o,none⟩=W.frozen? ⟨b,o,none⟩):=
 ⟨fun b o h=>hb.cell (p:=⟨b,o,none⟩) h,fun b o h=>hb.frozen (p:=⟨b,o,none⟩) h⟩
def AZ (w:AH) (g:Nat) (t:Af) (cs:Array AN):Prop:=w.heap[g]? =some (AO cs t (0,0))
section
variable {w w':AH} {g:Nat} {t:Af} {cs:Array AN}
theorem AZ.lt (h:AZ w g t cs):g < w.heap.size:=(C6.1 h).1
theorem AZ.cell (h:AZ w g t cs) (i:Nat):w.cell? ⟨g,i,none⟩=cs[i]? :=by have h':w.heap[g]? =some (AO cs t (0,0)):=h;simp [World.cell?,h']
theorem AZ.frozen (h:AZ w g t cs) (i:Nat):w.frozen? ⟨g,i,none⟩=false:=by have h':w.heap[g]? =some (AO cs t (0,0)):=h;simp [World.frozen?,h']
theorem AZ.new (w:AH) (t:Af) (cs:Array AN):AZ (w.alloc (AO cs t)) w.heap.size t cs:=heap_alloc_new w _
theorem AZ.alloc (h:AZ w g t cs) (o:Obj):AZ (w.alloc o) g t cs:=(Kk w o g h.lt).trans h
theorem AZ.drew (h:AZ w g t cs):AZ w.drew g t cs:=h
theorem AZ.drewN (h:AZ w g t cs) (n:Nat):AZ (w.drewN n) g t cs:=h
theorem AZ.put (h:AZ w g t cs) (i:Nat) (u:AN):AZ (w.setCell ⟨g,i,none⟩ u) g t (cs.setIfInBounds i u):=by have h':w.heap[g]? =some (AO cs t (0,0)):=h;show (w.setCell ⟨g,i,none⟩ u).heap[g]? =_;simp [World.setCell,Array.getElem?_modify,h']
theorem AZ.far (h:AZ w g t cs) {p:Aa} (hp:g≠p.block) (u:AN):AZ (w.setCell p u) g t cs:=(D6 w p u g hp).trans h
theorem AZ.below {B:Nat} (h:AZ w g t cs) (hb:BI B w w') (hg:g < B):AZ w' g t cs:=(hb.block g hg).trans h
theorem AZ.grown {row:Option Nat} (h:AZ w g t cs) (hb:w.grownBy w' row) (hg:some g≠row):AZ w' g t cs:=(hb.block g h.lt hg).trans h
end
theorem Ta {a w:AH} {row:Option Nat} (h:a.grownBy w row) (o:Obj):a.grownBy (w.alloc o) row:=
 ⟨h.os,h.tape,h.output,BH h.size AX,fun i hi hne=>(Kk w o i (Au hi h.size)).trans (h.block i hi hne)⟩
theorem grown_drewN {a w:AH} {row:Option Nat} (h:a.grownBy w row) (n:Nat):a.grownBy (w.drewN n) row:=⟨h.os,h.tape,h.output,h.size,h.block⟩
theorem grown_drew {a w:AH} {row:Option Nat} (h:a.grownBy w row):a.grownBy w.drew row:=⟨h.os,h.tape,h.output,h.size,h.block⟩
theorem OM {a w:AH} {g:Nat} (h:a.grownBy w (some g)) (i:Nat) (u:AN):a.grownBy (w.setCell ⟨g,i,none⟩ u) (some g):=
 ⟨h.os,h.tape,h.output,by simpa [World.setCell] using h.size,fun k hk hne=>(D6 w _ u k (fun e=>hne M0)).trans (h.block k hk hne)⟩
def Aq {α:Type} (sz:Nat) (R:AH->List AN->α->Prop) (w:AH) (cs:List AN) (l:List α):Prop:=
 cs.length=l.length*sz/\∀i x,l[i]? =some x->R w ((cs.drop (i*sz)).take sz) x
section
variable {α:Type} {sz:Nat} {R:AH->List AN->α->Prop} {w w':AH} {l:List α}
theorem Aq.mono (hR:Eb R) (hb:AK w w') {cs:List AN} (h:Aq sz R w cs l):Aq sz R w' cs l:=
 ⟨h.1,fun i x hi=>hR _ _ hb _ _ (h.2 i x hi)⟩
theorem Aq.nil:Aq sz R w [] ([]:List α):=⟨by simp,fun i x h=>by simp at h⟩
theorem Aq.one {cs:List AN} {x:α} (hl:cs.length=sz) (h:R w cs x):Aq sz R w cs [x]:=by
 refine ⟨by simp [hl],fun i y hi=> ?_⟩;rcases i with _ | i
 ·simp only [Al,Bu] at hi
  subst hi;rw [Qy,Hl,Cu AG];exact h
 · simp at hi
theorem Aq.append {cs cs':List AN} {l':List α} (h:Aq sz R w cs l) (h':Aq sz R w cs' l'):Aq sz R w (cs++cs') (l++l'):=by
 refine ⟨by rw [CQ,CQ,h.1,h'.1,Nat.add_mul],fun i x hi=> ?_⟩;rcases Ec i l.length with hlt | hge
 ·rw [ES hlt] at hi
  have hle:i*sz+sz<=cs.length:=by rw [h.1,<-Mr];exact Mv _ hlt
  rw [List.drop_append_of_le_length AG,List.take_append_of_le_length UK];exact h.2 i x hi
 rw [Cp hge] at hi;have e:i*sz=cs.length+(i - l.length)*sz:=by rw [h.1,<-Nat.add_mul];congr 1;omega
 rw [e,List.drop_append,Ex AG,Jh,show cs.length+(i - l.length)*sz - cs.length=(i - l.length)*sz by omega];exact h'.2 _ x hi
theorem Ag.cells {A:Option Aa} {n c:Nat} (h:Ag sz R w (AB A n c) l):∃cs,Aq sz R w cs l/\∀ad,A=some ad->∀j u,cs[j]? =some u->w.cell? (ad.add j)=some u:=by
 rcases A with _ | ad
 ·have hl:l=[]:=by
   cases l with
   | nil=>rfl
   |
    cons x r=>
    obtain ⟨A',cap',e,h1,h2,h3⟩:=h;obtain ⟨b,off,cs,e',_⟩:=h3 0 x rfl;injection e with e1;rw [<-e1] at e';cases e'
  subst hl;exact ⟨[],Aq.nil,fun ad e=>by cases e⟩
 have hn:=h.len;rcases PR n with h0 | h0
 ·have hl:l=[]:=Ie AG
  subst hl;exact ⟨[],Aq.nil,fun ad e j u hu=>by simp at hu⟩
 obtain ⟨b,off,x0,cs0,e,_⟩:=h.at_ h0;injection e with e;subst e;have hadd:∀j,(Addr.mk b off none).add j=⟨b,off+j,none⟩:=fun j=>by unfold Addr.add;split <;> simp_all
 have hcell:∀i (hi:i < n) k,k < sz->∃u,w.cell? ⟨b,off+(i*sz+k),none⟩=some u:=by intro i hi k hk;obtain ⟨b',off',x,cs,e,_,_,hl,hc,_⟩:=h.at_ hi;injection e with e;injection e with e1 e2 _;subst e1 e2;exact ⟨cs[k],hc k _ (BJ AG)⟩
 refine ⟨(List.range (n*sz)).map (fun j=>(w.cell? ⟨b,off+j,none⟩).getD undef),⟨by simp [hn],?_⟩,?_⟩
 ·intro i x hi
  have hin:i < n:=by have:=(BD.1 hi).1;omega
  obtain ⟨b',off',x',cs,e,_,hx',hl,hc,hR⟩:=h.at_ hin;injection e with e;injection e with e1 e2 _;subst e1 e2;rw [hi] at hx';injection hx' with hx';subst hx';have he:(((List.range (n*sz)).map (fun j=>(w.cell? ⟨b,off+j,none⟩).getD undef)).drop (i*sz)).take sz=cs:=by
   have hle:i*sz+sz<=n*sz:=by rw [<-Mr];exact Mv _ hin
   apply N6;intro k;rcases Ec k sz with hk | hk
   ·rw [Jl hk,EP,Bb,Lp AG,Cl,hc k cs[k] (BJ AG),BJ AG]
    rfl
   · rw [DT Pg,DT AG]
  rw [he];exact hR
 intro ad e j u hu;injection e with e;subst e;rw [Bb] at hu;rw [hadd];rcases Ec j (n*sz) with hj | hj
 ·rw [Lp hj,Cl,Bu] at hu
  have hsz:0 < sz:=by
   rcases PR sz with e | e
   · subst e;omega
   · exact e
  obtain ⟨v,hv⟩:=hcell (j / sz) (by rw [Nat.div_lt_iff_lt_mul hsz];exact hj) (j % sz) (Nat.mod_lt _ hsz);have e:j / sz*sz+j % sz=j:=by rw [Nat.mul_comm];exact Nat.div_add_mod j sz
  rw [e] at hv;rw [hv] at hu ⊢;exact congrArg some hu
 rw [DT (by simpa using hj)] at hu;cases hu
theorem CW {base:Nat} {e:Af} {v:AN} {n:Nat} {cs:List AN} (h:w.ownsRow base e sz v n cs) (hc:Aq sz R w cs l) (hn:n=l.length):Ag sz R w v l:=by
 rcases h.2 with ⟨rfl,h0⟩ | ⟨g,cap,cur,rfl,hg,hh,hnc,hcm,hsz,htk⟩
 ·have hl0:l=[]:=Ie AG
  subst hl0;exact Ag.nil _ _ (Av _)
 subst hn;refine ⟨some ⟨g,0,none⟩,cap,rfl,hnc,hcm,fun i x hi=>⟨g,0,(cs.drop (i*sz)).take sz,rfl,(C6.1 hh).1,?_,?_,hc.2 i x hi⟩⟩
 ·have hil:=(BD.1 hi).1
  have hle:i*sz+sz<=cs.length:=by rw [hc.1,<-Mr];exact Mv _ hil
  rw [ER,JN];omega
 intro j u hu;rcases Ec j sz with hj | hj
 ·rw [Jl hj,EP] at hu
  rw [<-htk] at hu;have hlt:i*sz+j < l.length*sz:=by
   have hil:=(BD.1 hi).1;have:i*sz+sz<=l.length*sz:=by rw [<-Mr];exact Mv _ hil
   omega
  rw [Jl hlt] at hu;simp only [World.cell?,hh,Fc];simpa using hu
 rw [DT Pg] at hu;cases hu
end
theorem Ag.fix {α:Type} {sz:Nat} {R:AH->List AN->α->Prop} {w w':AH} {l:List α} {v:AN} (h:Ag sz R w v l) (hb:AK w w'):Ag sz (fun _=>R w) w' v l:=by obtain ⟨A,cap,e,h1,h2,h3⟩:=h;refine ⟨A,cap,e,h1,h2,fun i x hi=> ?_⟩;obtain ⟨b,off,cs,rfl,hlt,hl,hc,hr⟩:=h3 i x hi;exact ⟨b,off,cs,rfl,Au hlt hb.size,hl,fun j u hu=>(hb.cell (p:=⟨b,_,none⟩) hlt).trans (hc j u hu),hr⟩
def One {α:Type} (R:AH->List AN->α->Prop):Prop:=∀w cs x,R w cs x->∀u∈cs,u.oneCell'=true
theorem Aq.ones {α:Type} {sz:Nat} {R:AH->List AN->α->Prop} {w:AH} {l:List α} (ho:One R) {cs:List AN} (h:Aq sz R w cs l):∀u∈cs,u.oneCell'=true:=by
 intro u hu;obtain ⟨j,hj,rfl⟩:=YR hu;have hl:=h.1;have hsz:0 < sz:=by
  rcases PR sz with e | e
  · subst e;omega
  · exact e
 have hi:j / sz < l.length:=by rw [Nat.div_lt_iff_lt_mul hsz,<-hl];exact hj
 refine ho _ _ _ (h.2 (j / sz) _ (BJ hi)) _ (CS (i:=j % sz) ?_);rw [Jl (Nat.mod_lt _ hsz),EP,show j / sz*sz+j % sz=j by rw [Nat.mul_comm];exact Nat.div_add_mod j sz,BJ hj]
section
variable {P:BA} {α:Type} {sz:Nat} {R:AH->List AN->α->Prop}
theorem fQ (w:AH) (t ty e:Af) (i:TypeInfo) (z:AN) (bytes:Nat) (ht:P.underlying t=some (.slice e)) (hi:P.info? e=some i) (hz:i.zero=some z) (hsize:i.size=sz) (hby:i.bytes=bytes) (hzs:z.cells.size=sz) (hsz:0 < sz) (ho:One R)
 (base:Nat) (v:AN) (n:Nat) (xs:List AN) (hown:w.ownsRow base e sz v n xs) (A:Option Aa) (m c:Nat) (l:List α) (hr:Ag sz R w (AB A m c) l)
 (hn:n+m<=maxLen) (hb:(n+m)*bytes<=140737488355328) (hbase:base<=w.heap.size):
 ∃v' w' cs,(Builtin.append_ #[t,t] ty #[v,AB A m c]).run P w=.ok v' w'/\Aq sz R w cs l/\w'.ownsRow base e sz v' (n+m) (xs++cs)/\w.grownBy w' v.ownBlock/\(v'.ownBlock=v.ownBlock\/v'.ownBlock=some w.heap.size):=by
 obtain ⟨cs,hcs,hcell⟩:=hr.cells;have hlen:=hr.len;rcases A with _ | ad
 ·have hm:m=0:=by
   rcases PR m with h0 | h0
   · exact h0
   obtain ⟨b,off,x,cs,e,_⟩:=hr.at_ h0;cases e
  subst hm;have hl:l=[]:=Ie AG;subst hl;have hcs0:cs=[]:=Ie (by rw [hcs.1];simp);subst hcs0;refine ⟨v,w,[],?_,hcs,by simpa using hown,DS w _,.inl rfl⟩;rcases hown.2 with ⟨rfl,rfl⟩ | ⟨g,cap,cur,rfl,_,_,hnc,_⟩
  · simp [Builtin.append_,run_underlying ht,sizeOf,typeInfo,hi,Builtin.lenOf,Builtin.firstCells]
  · simp [Builtin.append_,run_underlying ht,sizeOf,typeInfo,hi,Builtin.lenOf,Builtin.firstCells,hnc,storeCells]
 obtain ⟨v',w',h1,h2,h3,_,h5⟩:=run_append_own_at (P:=P) w base t ty e i z sz bytes ht hi hz hsize hby hzs hsz v n xs hown ad m c cs (by rw [hcs.1,<-hlen]) (hcell ad rfl) (hcs.ones ho) hn hb hbase;exact ⟨v',w',cs,h1,hcs,h2,h3,h5⟩
theorem V2 (w:AH) {o:Oper} {a:Act} {K:Act->AH->Prop} {Q:Exit->Act->AH->Prop} (s x:Operand) (t e:Af)
 (hop:o.op=.call {callee:=.builtin .append,args:=#[s,x],argTypes:=#[t,t]}) (i:TypeInfo) (z:AN) (bytes:Nat) (ht:P.underlying t=some (.slice e)) (hi:P.info? e=some i) (hz:i.zero=some z) (hsize:i.size=sz) (hby:i.bytes=bytes) (hzs:z.cells.size=sz) (hsz:0 < sz) (ho:One R)
 (base:Nat) (v:AN) (n:Nat) (xs:List AN) (hs:a.eval s=v) (hown:w.ownsRow base e sz v n xs) (A:Option Aa) (m c:Nat) (l:List α) (hx:a.eval x=AB A m c) (hr:Ag sz R w (AB A m c) l)
 (hn:n+m<=maxLen) (hb:(n+m)*bytes<=140737488355328) (hbase:base<=w.heap.size)
 (h:∀v' w' cs,Aq sz R w cs l->w'.ownsRow base e sz v' (n+m) (xs++cs)->w.grownBy w' v.ownBlock->(v'.ownBlock=v.ownBlock\/v'.ownBlock=some w.heap.size)->K (a.put o.dst v') w'):o.wp P a w K Q:=by
 obtain ⟨v',w',cs,hrun,h2,h3,h4,h5⟩:=fQ w t o.type e i z bytes ht hi hz hsize hby hzs hsz ho base v n xs hown A m c l hr hn hb hbase;unfold Oper.wp execOp;simp only [hop,resolve,invoke,builtin,Ck,DC,Result.andThen_ok,YK,Fe,N2,hs,hx,hrun];exact h v' w' cs h2 h3 h4 h5
end
theorem CU {P:BA} {α:Type} {sz:Nat} {R:AH->List AN->α->Prop} (w:AH) {ops:Array Oper} {rest:List Oper} {o:Oper} {a:Act} {Q:Exit->Act->AH->Prop} (hgd:o.guard=none) (s x:Operand) (t e:Af)
 (hop:o.op=.call {callee:=.builtin .append,args:=#[s,x],argTypes:=#[t,t]}) (i:TypeInfo) (z:AN) (bytes:Nat) (ht:P.underlying t=some (.slice e)) (hi:P.info? e=some i) (hz:i.zero=some z) (hsize:i.size=sz) (hby:i.bytes=bytes) (hzs:z.cells.size=sz) (hsz:0 < sz) (ho:One R)
 (base:Nat) (v:AN) (n:Nat) (xs:List AN) (hs:a.eval s=v) (hown:w.ownsRow base e sz v n xs) (A:Option Aa) (m c:Nat) (l:List α) (hx:a.eval x=AB A m c) (hr:Ag sz R w (AB A m c) l)
 (hn:n+m<=maxLen) (hb:(n+m)*bytes<=140737488355328) (hbase:base<=w.heap.size)
 (h:∀v' w' cs,Aq sz R w cs l->w'.ownsRow base e sz v' (n+m) (xs++cs)->w.grownBy w' v.ownBlock->(v'.ownBlock=v.ownBlock\/v'.ownBlock=some w.heap.size)->wpList P ops Q rest (a.put o.dst v') w'):wpList P ops Q (o::rest) a w:=
 wpList_plain hgd fun _ hK=>V2 w s x t e hop i z bytes ht hi hz hsize hby hzs hsz ho base v n xs hs hown A m c l hx hr hn hb hbase fun v' w' cs h2 h3 h4 h5=>hK _ _ (h v' w' cs h2 h3 h4 h5)
theorem Vh:One CK:=by rintro w cs x ⟨rfl,_⟩ u hu;simp only [Fg] at hu;subst hu;rfl
def DQ (_:AH) (cs:List AN) (x:ByteArray):Prop:=cs=[AL x]
def iR (_:AH) (cs:List AN) (x:Int):Prop:=cs=[AE AF x]
theorem BV:Eb DQ:=fun _ _ _ _ _ h=>h
theorem Ht:Eb iR:=fun _ _ _ _ _ h=>h
theorem AA3:One DQ:=by rintro w cs x rfl u hu;simp only [Fg] at hu;subst hu;rfl
theorem AFF:One iR:=by rintro w cs x rfl u hu;simp only [Fg] at hu;subst hu;rfl
def BT {α:Type} (sz bytes:Nat) (R:AH->List AN->α->Prop) (w:AH) (v:AN) (l:List α):Prop:=Ag sz R w v l/\l.length*bytes<=140737488355328
theorem BT.mono {α:Type} {sz bytes:Nat} {R:AH->List AN->α->Prop} {w w':AH} {l:List α} (hR:Eb R) (hb:AK w w') {v:AN} (h:BT sz bytes R w v l):BT sz bytes R w' v l:=⟨h.1.mono hR hb,h.2⟩
theorem Wn {w:AH} {A:Option Aa} {n cap:Nat} {l:List ByteArray} (h:Ag 1 DQ w (AB A n cap) l) {k:Nat} (hk:k < n):
 ∃b off x,A=some ⟨b,off,none⟩/\b < w.heap.size/\l[k]? =some x/\w.cell? ⟨b,off+k,none⟩=some (AL x):=by
 exact xh
theorem vD {w:AH} {A:Option Aa} {n cap:Nat} {l:AQ} (h:Ag 1 iR w (AB A n cap) l) {k:Nat} (hk:k < n):
 ∃b off x,A=some ⟨b,off,none⟩/\b < w.heap.size/\l[k]? =some x/\w.cell? ⟨b,off+k,none⟩=some (AE AF x):=by
 exact xh
structure Bt where
 name:ByteArray
 An:ByteArray
 factor:Int
 base:Int
 scale:Int
 deriving DecidableEq
structure Du where
 name:ByteArray
 path:ByteArray
 var:Int
 field:Int
 n:Int
 deriving DecidableEq
structure IL where
 op:Int
 a:Du
 b:Du
 deriving DecidableEq
structure B0 where
 name:ByteArray
 kind:ByteArray
 schema:Int
 An:Du
 deriving DecidableEq
structure L0 where
 path:ByteArray
 field:Int
 term:Du
 deriving DecidableEq
structure Kf where
 DJ:ByteArray
 from_:ByteArray
 b:Int
 a:Int
 shift:Int
 deriving DecidableEq
structure L1 where
 name:ByteArray
 path:ByteArray
 schema:Int
 field:Int
 deriving DecidableEq
structure Fa where
 kind:Int
 lo:Int
 hi:Int
 An:ByteArray
 unit:Int
 names:List ByteArray
 deriving DecidableEq
structure GT where
 name:ByteArray
 type:Fa
 w0:Int
 w1:Int
 w2:Int
 w3:Int
 deriving DecidableEq
structure Mg where
 names:List ByteArray
 name:ByteArray
 src:AQ
 dst:Int
 deriving DecidableEq
structure BL where
 name:ByteArray
 FD:ByteArray
 Ar:Int
 version:Int
 fields:List GT
 deps:List Mg
 deriving DecidableEq
structure Ce where
 head:ByteArray
 schema:Int
 froms:List B0
 Cr:List IL
 sets:List L0
 deriving DecidableEq
structure C0 where
 from_:ByteArray
 DJ:ByteArray
 a:Int
 b:Int
 moves:List Kf
 deriving DecidableEq
structure Cd where
 name:ByteArray
 may:List L1
 most:Int
 deriving DecidableEq
structure BB where
 Bg:List ByteArray
 units:List Bt
 Ap:List BL
 rules:List Ce
 converts:List C0
 purposes:List Cd
 deriving DecidableEq
def CD (_:AH) (cs:List AN) (x:Bt):Prop:=cs=[AL x.name,AL x.An,AE AF x.factor,AE AF x.base,AE AF x.scale]
theorem Bp:Eb CD:=fun _ _ _ _ _ h=>h
theorem uX:One CD:=by rintro w cs x rfl u hu;simp only [CJ,D5,D4] at hu;rcases hu with rfl | rfl | rfl | rfl | rfl <;> rfl
theorem Nn {w:AH} {A:Option Aa} {n cap:Nat} {l:List Bt} (h:Ag 5 CD w (AB A n cap) l) {k:Nat} (hk:k < n):
 ∃b off x,A=some ⟨b,off,none⟩/\b < w.heap.size/\l[k]? =some x/\
  w.cell? ⟨b,off+k*5,none⟩=some (AL x.name)/\
  w.cell? ⟨b,off+k*5+1,none⟩=some (AL x.An)/\
  w.cell? ⟨b,off+k*5+2,none⟩=some (AE AF x.factor)/\
  w.cell? ⟨b,off+k*5+3,none⟩=some (AE AF x.base)/\
  w.cell? ⟨b,off+k*5+4,none⟩=some (AE AF x.scale):=by
 exact yO
def AE1 (_:AH) (cs:List AN) (x:Du):Prop:=cs=[AL x.name,AL x.path,AE AF x.var,AE AF x.field,AE AF x.n]
def EH (_:AH) (cs:List AN) (x:IL):Prop:=cs=[AE AF x.op,AL x.a.name,AL x.a.path,AE AF x.a.var,AE AF x.a.field,AE AF x.a.n,AL x.b.name,AL x.b.path,AE AF x.b.var,AE AF x.b.field,AE AF x.b.n]
theorem FG:Eb EH:=fun _ _ _ _ _ h=>h
theorem ug:One EH:=by rintro w cs x rfl u hu;simp only [CJ,D5,D4] at hu;rcases hu with rfl | rfl | rfl | rfl | rfl | rfl | rfl | rfl | rfl | rfl | rfl <;> rfl
theorem Z8 {w:AH} {A:Option Aa} {n cap:Nat} {l:List IL} (h:Ag 11 EH w (AB A n cap) l) {k:Nat} (hk:k < n):
 ∃b off x,A=some ⟨b,off,none⟩/\b < w.heap.size/\l[k]? =some x/\
  w.cell? ⟨b,off+k*11,none⟩=some (AE AF x.op)/\
  w.cell? ⟨b,off+k*11+1,none⟩=some (AL x.a.name)/\
  w.cell? ⟨b,off+k*11+2,none⟩=some (AL x.a.path)/\
  w.cell? ⟨b,off+k*11+3,none⟩=some (AE AF x.a.var)/\
  w.cell? ⟨b,off+k*11+4,none⟩=some (AE AF x.a.field)/\
  w.cell? ⟨b,off+k*11+5,none⟩=some (AE AF x.a.n)/\
  w.cell? ⟨b,off+k*11+6,none⟩=some (AL x.b.name)/\
  w.cell? ⟨b,off+k*11+7,none⟩=some (AL x.b.path)/\
  w.cell? ⟨b,off+k*11+8,none⟩=some (AE AF x.b.var)/\
  w.cell? ⟨b,off+k*11+9,none⟩=some (AE AF x.b.field)/\
  w.cell? ⟨b,off+k*11+10,none⟩=some (AE AF x.b.n):=by
 obtain ⟨b,off,x,cs,e,hb,hl,hlen,hc,hR⟩:=h.at_ hk;have hR':cs=_:=hR;subst hR';exact ⟨b,off,x,e,hb,hl,by simpa using hc 0 _ rfl,by simpa [Nat.add_assoc] using hc 1 _ rfl,by simpa [Nat.add_assoc] using hc 2 _ rfl,by simpa [Nat.add_assoc] using hc 3 _ rfl,by simpa [Nat.add_assoc] using hc 4 _ rfl,by simpa [Nat.add_assoc] using hc 5 _ rfl,by simpa [Nat.add_assoc] using hc 6 _ rfl,by simpa [Nat.add_assoc] using hc 7 _ rfl,by simpa [Nat.add_assoc] using hc 8 _ rfl,by simpa [Nat.add_assoc] using hc 9 _ rfl,by simpa [Nat.add_assoc] using hc 10 _ rfl⟩
def DH (_:AH) (cs:List AN) (x:B0):Prop:=cs=[AL x.name,AL x.kind,AE AF x.schema,AL x.An.name,AL x.An.path,AE AF x.An.var,AE AF x.An.field,AE AF x.An.n]
theorem Dp:Eb DH:=fun _ _ _ _ _ h=>h
theorem uf:One DH:=by rintro w cs x rfl u hu;simp only [CJ,D5,D4] at hu;rcases hu with rfl | rfl | rfl | rfl | rfl | rfl | rfl | rfl <;> rfl
theorem Np {w:AH} {A:Option Aa} {n cap:Nat} {l:List B0} (h:Ag 8 DH w (AB A n cap) l) {k:Nat} (hk:k < n):
 ∃b off x,A=some ⟨b,off,none⟩/\b < w.heap.size/\l[k]? =some x/\
  w.cell? ⟨b,off+k*8,none⟩=some (AL x.name)/\
  w.cell? ⟨b,off+k*8+1,none⟩=some (AL x.kind)/\
  w.cell? ⟨b,off+k*8+2,none⟩=some (AE AF x.schema)/\
  w.cell? ⟨b,off+k*8+3,none⟩=some (AL x.An.name)/\
  w.cell? ⟨b,off+k*8+4,none⟩=some (AL x.An.path)/\
  w.cell? ⟨b,off+k*8+5,none⟩=some (AE AF x.An.var)/\
  w.cell? ⟨b,off+k*8+6,none⟩=some (AE AF x.An.field)/\
  w.cell? ⟨b,off+k*8+7,none⟩=some (AE AF x.An.n):=by
 obtain ⟨b,off,x,cs,e,hb,hl,hlen,hc,hR⟩:=h.at_ hk;have hR':cs=_:=hR;subst hR';exact ⟨b,off,x,e,hb,hl,by simpa using hc 0 _ rfl,by simpa [Nat.add_assoc] using hc 1 _ rfl,by simpa [Nat.add_assoc] using hc 2 _ rfl,by simpa [Nat.add_assoc] using hc 3 _ rfl,by simpa [Nat.add_assoc] using hc 4 _ rfl,by simpa [Nat.add_assoc] using hc 5 _ rfl,by simpa [Nat.add_assoc] using hc 6 _ rfl,by simpa [Nat.add_assoc] using hc 7 _ rfl⟩
def GZ (_:AH) (cs:List AN) (x:L0):Prop:=cs=[AL x.path,AE AF x.field,AL x.term.name,AL x.term.path,AE AF x.term.var,AE AF x.term.field,AE AF x.term.n]
theorem Fw:Eb GZ:=fun _ _ _ _ _ h=>h
theorem zG:One GZ:=by rintro w cs x rfl u hu;simp only [CJ,D5,D4] at hu;rcases hu with rfl | rfl | rfl | rfl | rfl | rfl | rfl <;> rfl
theorem fT {w:AH} {A:Option Aa} {n cap:Nat} {l:List L0} (h:Ag 7 GZ w (AB A n cap) l) {k:Nat} (hk:k < n):
 ∃b off x,A=some ⟨b,off,none⟩/\b < w.heap.size/\l[k]? =some x/\
  w.cell? ⟨b,off+k*7,none⟩=some (AL x.path)/\
  w.cell? ⟨b,off+k*7+1,none⟩=some (AE AF x.field)/\
  w.cell? ⟨b,off+k*7+2,none⟩=some (AL x.term.name)/\
  w.cell? ⟨b,off+k*7+3,none⟩=some (AL x.term.path)/\
  w.cell? ⟨b,off+k*7+4,none⟩=some (AE AF x.term.var)/\
  w.cell? ⟨b,off+k*7+5,none⟩=some (AE AF x.term.field)/\
  w.cell? ⟨b,off+k*7+6,none⟩=some (AE AF x.term.n):=by
 obtain ⟨b,off,x,cs,e,hb,hl,hlen,hc,hR⟩:=h.at_ hk;have hR':cs=_:=hR;subst hR';exact ⟨b,off,x,e,hb,hl,by simpa using hc 0 _ rfl,by simpa [Nat.add_assoc] using hc 1 _ rfl,by simpa [Nat.add_assoc] using hc 2 _ rfl,by simpa [Nat.add_assoc] using hc 3 _ rfl,by simpa [Nat.add_assoc] using hc 4 _ rfl,by simpa [Nat.add_assoc] using hc 5 _ rfl,by simpa [Nat.add_assoc] using hc 6 _ rfl⟩
def GF (_:AH) (cs:List AN) (x:Kf):Prop:=cs=[AL x.DJ,AL x.from_,AE AF x.b,AE AF x.a,AE AF x.shift]
theorem Fq:Eb GF:=fun _ _ _ _ _ h=>h
theorem ud:One GF:=by rintro w cs x rfl u hu;simp only [CJ,D5,D4] at hu;rcases hu with rfl | rfl | rfl | rfl | rfl <;> rfl
theorem Z7 {w:AH} {A:Option Aa} {n cap:Nat} {l:List Kf} (h:Ag 5 GF w (AB A n cap) l) {k:Nat} (hk:k < n):
 ∃b off x,A=some ⟨b,off,none⟩/\b < w.heap.size/\l[k]? =some x/\
  w.cell? ⟨b,off+k*5,none⟩=some (AL x.DJ)/\
  w.cell? ⟨b,off+k*5+1,none⟩=some (AL x.from_)/\
  w.cell? ⟨b,off+k*5+2,none⟩=some (AE AF x.b)/\
  w.cell? ⟨b,off+k*5+3,none⟩=some (AE AF x.a)/\
  w.cell? ⟨b,off+k*5+4,none⟩=some (AE AF x.shift):=by
 exact yO
def IH (_:AH) (cs:List AN) (x:L1):Prop:=cs=[AL x.name,AL x.path,AE AF x.schema,AE AF x.field]
theorem IG:Eb IH:=fun _ _ _ _ _ h=>h
theorem zH:One IH:=by rintro w cs x rfl u hu;simp only [CJ,D5,D4] at hu;rcases hu with rfl | rfl | rfl | rfl <;> rfl
theorem fU {w:AH} {A:Option Aa} {n cap:Nat} {l:List L1} (h:Ag 4 IH w (AB A n cap) l) {k:Nat} (hk:k < n):
 ∃b off x,A=some ⟨b,off,none⟩/\b < w.heap.size/\l[k]? =some x/\
  w.cell? ⟨b,off+k*4,none⟩=some (AL x.name)/\
  w.cell? ⟨b,off+k*4+1,none⟩=some (AL x.path)/\
  w.cell? ⟨b,off+k*4+2,none⟩=some (AE AF x.schema)/\
  w.cell? ⟨b,off+k*4+3,none⟩=some (AE AF x.field):=by
 obtain ⟨b,off,x,cs,e,hb,hl,hlen,hc,hR⟩:=h.at_ hk;have hR':cs=_:=hR;subst hR';exact ⟨b,off,x,e,hb,hl,by simpa using hc 0 _ rfl,by simpa [Nat.add_assoc] using hc 1 _ rfl,by simpa [Nat.add_assoc] using hc 2 _ rfl,by simpa [Nat.add_assoc] using hc 3 _ rfl⟩
def NV (w:AH) (cs:List AN) (x:Fa):Prop:=∃A1 n1 c1,cs=[AE AF x.kind,AE AF x.lo,AE AF x.hi,AL x.An,AE AF x.unit,AB A1 n1 c1]/\BT 1 16 DQ w (AB A1 n1 c1) x.names
theorem cE:One NV:=by rintro w cs x ⟨A1,n1,c1,rfl,_⟩ u hu;simp only [CJ,D5,D4] at hu;rcases hu with rfl | rfl | rfl | rfl | rfl | rfl <;> rfl
def EU (w:AH) (cs:List AN) (x:GT):Prop:=∃A1 n1 c1,cs=[AL x.name,AE AF x.type.kind,AE AF x.type.lo,AE AF x.type.hi,AL x.type.An,AE AF x.type.unit,AB A1 n1 c1,AE AF x.w0,AE AF x.w1,AE AF x.w2,AE AF x.w3]/\BT 1 16 DQ w (AB A1 n1 c1) x.type.names
theorem Cy:Eb EU:=by rintro w w' hb cs x ⟨A1,n1,c1,h0,h1⟩;exact ⟨A1,n1,c1,h0,h1.mono BV hb⟩
theorem qH:One EU:=by rintro w cs x ⟨A1,n1,c1,rfl,_⟩ u hu;simp only [CJ,D5,D4] at hu;rcases hu with rfl | rfl | rfl | rfl | rfl | rfl | rfl | rfl | rfl | rfl | rfl <;> rfl
theorem IQ {w:AH} {A:Option Aa} {n cap:Nat} {l:List GT} (h:Ag 11 EU w (AB A n cap) l) {k:Nat} (hk:k < n):
 ∃b off x A1 n1 c1,A=some ⟨b,off,none⟩/\b < w.heap.size/\l[k]? =some x/\
  w.cell? ⟨b,off+k*11,none⟩=some (AL x.name)/\
  w.cell? ⟨b,off+k*11+1,none⟩=some (AE AF x.type.kind)/\
  w.cell? ⟨b,off+k*11+2,none⟩=some (AE AF x.type.lo)/\
  w.cell? ⟨b,off+k*11+3,none⟩=some (AE AF x.type.hi)/\
  w.cell? ⟨b,off+k*11+4,none⟩=some (AL x.type.An)/\
  w.cell? ⟨b,off+k*11+5,none⟩=some (AE AF x.type.unit)/\
  w.cell? ⟨b,off+k*11+6,none⟩=some (AB A1 n1 c1)/\
  w.cell? ⟨b,off+k*11+7,none⟩=some (AE AF x.w0)/\
  w.cell? ⟨b,off+k*11+8,none⟩=some (AE AF x.w1)/\
  w.cell? ⟨b,off+k*11+9,none⟩=some (AE AF x.w2)/\
  w.cell? ⟨b,off+k*11+10,none⟩=some (AE AF x.w3)/\BT 1 16 DQ w (AB A1 n1 c1) x.type.names:=by
 obtain ⟨b,off,x,cs,e,hb,hl,hlen,hc,hR⟩:=h.at_ hk;obtain ⟨A1,n1,c1,rfl,h1⟩:=hR;exact ⟨b,off,x,A1,n1,c1,e,hb,hl,by simpa using hc 0 _ rfl,by simpa [Nat.add_assoc] using hc 1 _ rfl,by simpa [Nat.add_assoc] using hc 2 _ rfl,by simpa [Nat.add_assoc] using hc 3 _ rfl,by simpa [Nat.add_assoc] using hc 4 _ rfl,by simpa [Nat.add_assoc] using hc 5 _ rfl,by simpa [Nat.add_assoc] using hc 6 _ rfl,by simpa [Nat.add_assoc] using hc 7 _ rfl,by simpa [Nat.add_assoc] using hc 8 _ rfl,by simpa [Nat.add_assoc] using hc 9 _ rfl,by simpa [Nat.add_assoc] using hc 10 _ rfl,h1⟩
def Hc (w:AH) (cs:List AN) (x:Mg):Prop:=∃A1 n1 c1 A2 n2 c2,cs=[AB A1 n1 c1,AL x.name,AB A2 n2 c2,AE AF x.dst]/\BT 1 16 DQ w (AB A1 n1 c1) x.names/\BT 1 8 iR w (AB A2 n2 c2) x.src
theorem Fy:Eb Hc:=by rintro w w' hb cs x ⟨A1,n1,c1,A2,n2,c2,h0,h1,h2⟩;exact ⟨A1,n1,c1,A2,n2,c2,h0,h1.mono BV hb,h2.mono Ht hb⟩
theorem zJ:One Hc:=by rintro w cs x ⟨A1,n1,c1,A2,n2,c2,rfl,_⟩ u hu;simp only [CJ,D5,D4] at hu;rcases hu with rfl | rfl | rfl | rfl <;> rfl
theorem tG {w:AH} {A:Option Aa} {n cap:Nat} {l:List Mg} (h:Ag 4 Hc w (AB A n cap) l) {k:Nat} (hk:k < n):
 ∃b off x A1 n1 c1 A2 n2 c2,A=some ⟨b,off,none⟩/\b < w.heap.size/\l[k]? =some x/\
  w.cell? ⟨b,off+k*4,none⟩=some (AB A1 n1 c1)/\
  w.cell? ⟨b,off+k*4+1,none⟩=some (AL x.name)/\
  w.cell? ⟨b,off+k*4+2,none⟩=some (AB A2 n2 c2)/\
  w.cell? ⟨b,off+k*4+3,none⟩=some (AE AF x.dst)/\BT 1 16 DQ w (AB A1 n1 c1) x.names/\BT 1 8 iR w (AB A2 n2 c2) x.src:=by
 obtain ⟨b,off,x,cs,e,hb,hl,hlen,hc,hR⟩:=h.at_ hk;obtain ⟨A1,n1,c1,A2,n2,c2,rfl,h1,h2⟩:=hR;exact ⟨b,off,x,A1,n1,c1,A2,n2,c2,e,hb,hl,by simpa using hc 0 _ rfl,by simpa [Nat.add_assoc] using hc 1 _ rfl,by simpa [Nat.add_assoc] using hc 2 _ rfl,by simpa [Nat.add_assoc] using hc 3 _ rfl,h1,h2⟩
def BU (w:AH) (cs:List AN) (x:BL):Prop:=∃A1 n1 c1 A2 n2 c2,cs=[AL x.name,AL x.FD,AE AF x.Ar,AE AF x.version,AB A1 n1 c1,AB A2 n2 c2]/\BT 11 120 EU w (AB A1 n1 c1) x.fields/\BT 4 72 Hc w (AB A2 n2 c2) x.deps
theorem BM:Eb BU:=by rintro w w' hb cs x ⟨A1,n1,c1,A2,n2,c2,h0,h1,h2⟩;exact ⟨A1,n1,c1,A2,n2,c2,h0,h1.mono Cy hb,h2.mono Fy hb⟩
theorem mR:One BU:=by rintro w cs x ⟨A1,n1,c1,A2,n2,c2,rfl,_⟩ u hu;simp only [CJ,D5,D4] at hu;rcases hu with rfl | rfl | rfl | rfl | rfl | rfl <;> rfl
theorem Fx {w:AH} {A:Option Aa} {n cap:Nat} {l:List BL} (h:Ag 6 BU w (AB A n cap) l) {k:Nat} (hk:k < n):
 ∃b off x A1 n1 c1 A2 n2 c2,A=some ⟨b,off,none⟩/\b < w.heap.size/\l[k]? =some x/\
  w.cell? ⟨b,off+k*6,none⟩=some (AL x.name)/\
  w.cell? ⟨b,off+k*6+1,none⟩=some (AL x.FD)/\
  w.cell? ⟨b,off+k*6+2,none⟩=some (AE AF x.Ar)/\
  w.cell? ⟨b,off+k*6+3,none⟩=some (AE AF x.version)/\
  w.cell? ⟨b,off+k*6+4,none⟩=some (AB A1 n1 c1)/\
  w.cell? ⟨b,off+k*6+5,none⟩=some (AB A2 n2 c2)/\BT 11 120 EU w (AB A1 n1 c1) x.fields/\BT 4 72 Hc w (AB A2 n2 c2) x.deps:=by
 obtain ⟨b,off,x,cs,e,hb,hl,hlen,hc,hR⟩:=h.at_ hk;obtain ⟨A1,n1,c1,A2,n2,c2,rfl,h1,h2⟩:=hR;exact ⟨b,off,x,A1,n1,c1,A2,n2,c2,e,hb,hl,by simpa using hc 0 _ rfl,by simpa [Nat.add_assoc] using hc 1 _ rfl,by simpa [Nat.add_assoc] using hc 2 _ rfl,by simpa [Nat.add_assoc] using hc 3 _ rfl,by simpa [Nat.add_assoc] using hc 4 _ rfl,by simpa [Nat.add_assoc] using hc 5 _ rfl,h1,h2⟩
def CF (w:AH) (cs:List AN) (x:Ce):Prop:=∃A1 n1 c1 A2 n2 c2 A3 n3 c3,cs=[AL x.head,AE AF x.schema,AB A1 n1 c1,AB A2 n2 c2,AB A3 n3 c3]/\BT 8 96 DH w (AB A1 n1 c1) x.froms/\BT 11 120 EH w (AB A2 n2 c2) x.Cr/\BT 7 80 GZ w (AB A3 n3 c3) x.sets
theorem Be:Eb CF:=by rintro w w' hb cs x ⟨A1,n1,c1,A2,n2,c2,A3,n3,c3,h0,h1,h2,h3⟩;exact ⟨A1,n1,c1,A2,n2,c2,A3,n3,c3,h0,h1.mono Dp hb,h2.mono FG hb,h3.mono Fw hb⟩
theorem ua:One CF:=by rintro w cs x ⟨A1,n1,c1,A2,n2,c2,A3,n3,c3,rfl,_⟩ u hu;simp only [CJ,D5,D4] at hu;rcases hu with rfl | rfl | rfl | rfl | rfl <;> rfl
theorem Ps {w:AH} {A:Option Aa} {n cap:Nat} {l:List Ce} (h:Ag 5 CF w (AB A n cap) l) {k:Nat} (hk:k < n):
 ∃b off x A1 n1 c1 A2 n2 c2 A3 n3 c3,A=some ⟨b,off,none⟩/\b < w.heap.size/\l[k]? =some x/\
  w.cell? ⟨b,off+k*5,none⟩=some (AL x.head)/\
  w.cell? ⟨b,off+k*5+1,none⟩=some (AE AF x.schema)/\
  w.cell? ⟨b,off+k*5+2,none⟩=some (AB A1 n1 c1)/\
  w.cell? ⟨b,off+k*5+3,none⟩=some (AB A2 n2 c2)/\
  w.cell? ⟨b,off+k*5+4,none⟩=some (AB A3 n3 c3)/\BT 8 96 DH w (AB A1 n1 c1) x.froms/\BT 11 120 EH w (AB A2 n2 c2) x.Cr/\BT 7 80 GZ w (AB A3 n3 c3) x.sets:=by
 obtain ⟨b,off,x,cs,e,hb,hl,hlen,hc,hR⟩:=h.at_ hk;obtain ⟨A1,n1,c1,A2,n2,c2,A3,n3,c3,rfl,h1,h2,h3⟩:=hR;exact ⟨b,off,x,A1,n1,c1,A2,n2,c2,A3,n3,c3,e,hb,hl,by simpa using hc 0 _ rfl,by simpa [Nat.add_assoc] using hc 1 _ rfl,by simpa [Nat.add_assoc] using hc 2 _ rfl,by simpa [Nat.add_assoc] using hc 3 _ rfl,by simpa [Nat.add_assoc] using hc 4 _ rfl,h1,h2,h3⟩
def Bw (w:AH) (cs:List AN) (x:C0):Prop:=∃A1 n1 c1,cs=[AL x.from_,AL x.DJ,AE AF x.a,AE AF x.b,AB A1 n1 c1]/\BT 5 56 GF w (AB A1 n1 c1) x.moves
theorem Bo:Eb Bw:=by rintro w w' hb cs x ⟨A1,n1,c1,h0,h1⟩;exact ⟨A1,n1,c1,h0,h1.mono Fq hb⟩
theorem jw:One Bw:=by rintro w cs x ⟨A1,n1,c1,rfl,_⟩ u hu;simp only [CJ,D5,D4] at hu;rcases hu with rfl | rfl | rfl | rfl | rfl <;> rfl
theorem QC {w:AH} {A:Option Aa} {n cap:Nat} {l:List C0} (h:Ag 5 Bw w (AB A n cap) l) {k:Nat} (hk:k < n):
 ∃b off x A1 n1 c1,A=some ⟨b,off,none⟩/\b < w.heap.size/\l[k]? =some x/\
  w.cell? ⟨b,off+k*5,none⟩=some (AL x.from_)/\
  w.cell? ⟨b,off+k*5+1,none⟩=some (AL x.DJ)/\
  w.cell? ⟨b,off+k*5+2,none⟩=some (AE AF x.a)/\
  w.cell? ⟨b,off+k*5+3,none⟩=some (AE AF x.b)/\
  w.cell? ⟨b,off+k*5+4,none⟩=some (AB A1 n1 c1)/\BT 5 56 GF w (AB A1 n1 c1) x.moves:=by
 obtain ⟨b,off,x,cs,e,hb,hl,hlen,hc,hR⟩:=h.at_ hk;obtain ⟨A1,n1,c1,rfl,h1⟩:=hR;exact ⟨b,off,x,A1,n1,c1,e,hb,hl,by simpa using hc 0 _ rfl,by simpa [Nat.add_assoc] using hc 1 _ rfl,by simpa [Nat.add_assoc] using hc 2 _ rfl,by simpa [Nat.add_assoc] using hc 3 _ rfl,by simpa [Nat.add_assoc] using hc 4 _ rfl,h1⟩
def BW (w:AH) (cs:List AN) (x:Cd):Prop:=∃A1 n1 c1,cs=[AL x.name,AB A1 n1 c1,AE AF x.most]/\BT 4 48 IH w (AB A1 n1 c1) x.may
theorem BO:Eb BW:=by rintro w w' hb cs x ⟨A1,n1,c1,h0,h1⟩;exact ⟨A1,n1,c1,h0,h1.mono IG hb⟩
theorem jt:One BW:=by rintro w cs x ⟨A1,n1,c1,rfl,_⟩ u hu;simp only [CJ,D5,D4] at hu;rcases hu with rfl | rfl | rfl <;> rfl
theorem Lw {w:AH} {A:Option Aa} {n cap:Nat} {l:List Cd} (h:Ag 3 BW w (AB A n cap) l) {k:Nat} (hk:k < n):
 ∃b off x A1 n1 c1,A=some ⟨b,off,none⟩/\b < w.heap.size/\l[k]? =some x/\
  w.cell? ⟨b,off+k*3,none⟩=some (AL x.name)/\
  w.cell? ⟨b,off+k*3+1,none⟩=some (AB A1 n1 c1)/\
  w.cell? ⟨b,off+k*3+2,none⟩=some (AE AF x.most)/\BT 4 48 IH w (AB A1 n1 c1) x.may:=by
 obtain ⟨b,off,x,cs,e,hb,hl,hlen,hc,hR⟩:=h.at_ hk;obtain ⟨A1,n1,c1,rfl,h1⟩:=hR;exact ⟨b,off,x,A1,n1,c1,e,hb,hl,by simpa using hc 0 _ rfl,by simpa [Nat.add_assoc] using hc 1 _ rfl,by simpa [Nat.add_assoc] using hc 2 _ rfl,h1⟩
def Z6 (w:AH) (cs:List AN) (x:BB):Prop:=∃A1 n1 c1 A2 n2 c2 A3 n3 c3 A4 n4 c4 A5 n5 c5 A6 n6 c6,cs=[AB A1 n1 c1,AB A2 n2 c2,AB A3 n3 c3,AB A4 n4 c4,AB A5 n5 c5,AB A6 n6 c6]/\BT 1 16 DQ w (AB A1 n1 c1) x.Bg/\BT 5 56 CD w (AB A2 n2 c2) x.units/\BT 6 96 BU w (AB A3 n3 c3) x.Ap/\BT 5 96 CF w (AB A4 n4 c4) x.rules/\BT 5 72 Bw w (AB A5 n5 c5) x.converts/\BT 3 48 BW w (AB A6 n6 c6) x.purposes
def Dk {α:Type} [DecidableEq α] (seen:List α):List α->Bool
 | []=>true
 | x::l=>if x∈seen then false else Dk (seen++[x]) l
def MJ (us:List Bt) (u:Bt):Bool:=
 decide (1<=u.scale) && decide (u.scale<=1099511627776) && decide (0<=u.base) && decide (u.base < us.length) && ((us[u.base.toNat]?).any fun b=>decide (b.scale=1))
def He (units:Nat) (t:Fa):Bool:=
 if t.kind=1 then decide (0<=t.lo) && decide (t.lo<=t.hi) && decide (t.hi<=1048576) && decide (-1<=t.unit) && decide (t.unit < units) && decide (t.names.length=0)
 else if t.kind=2 then decide (t.lo=0) && decide (t.hi=1023) && decide (t.unit= -1) && decide (t.names.length=0)
 else if t.kind=3 then decide (t.lo=0) && decide (t.hi=4095) && decide (t.unit= -1) && decide (t.names.length=0)
 else if t.kind=4 then decide (t.lo=0) && decide (t.hi=(t.names.length:Int) - 1) && decide (t.unit= -1) && decide (1<=t.names.length) && decide (t.names.length<=16) && Dk [] t.names
 else false
def Db (w:Int):Bool:=decide (0<=w) && decide (w<=9)
def Jv (units:Nat) (f:GT):Bool:=He units f.type && (Db f.w0 && (Db f.w1 && (Db f.w2 && Db f.w3)))
def Dn (Bg units:Nat) (s:BL):Bool:=
 decide (0<=s.Ar) && decide (s.Ar < Bg) && decide (1<=s.version) && decide (s.version<=255) && decide (1<=s.fields.length) && decide (s.fields.length<=12) &&
  ((s.fields[0]?).any fun f=>decide (f.type.kind=3)) && s.fields.all (Jv units)
def FC (s:BB):Bool:=
 decide (s.Bg.length<=8) && decide (s.units.length<=64) && decide (s.Ap.length<=16) && decide (s.rules.length<=16) && decide (s.converts.length<=16) && decide (s.purposes.length<=8) &&
  s.purposes.all fun p=>decide (p.may.length<=64)
open Go.MapKept (run_checkKey heap_set heap_alloc IsKey)
structure Sw (P:BA) (kt:Af) {κ:Type} (ek:κ->AN):Prop where
 eq:∀(a b:κ) (w:AH),∃r:Bool,(Op.equal kt (ek a) (ek b)).run P w=.ok r w/\(r=true↔a=b)
 ck:∀(e:Bool) (a:κ) (w:AH),(Instr.checkKey e 10000 kt (ek a)).run P w=.ok () w
 sb:∀a:κ,Instr.sameBits 10000 (ek a) (ek a)=true
 un:∃d,P.underlying kt=some d/\∀(a b:κ) (r:Bool),Instr.sameNow d (ek a) (ek b)=some r->(r=true↔a=b)
section
variable {κ ν:Type} [DecidableEq κ]
def I5:List (κ×ν)->κ->Nat->Option (Nat×ν)
 | [],_,_=>none
 | p::m,k,i=>if k=p.1 then some (i,p.2) else I5 m k (i+1)
def getM (m:List (κ×ν)) (k:κ):Option ν:=(I5 m k 0).map (·.2)
def Hb:List (κ×ν)->κ->ν->List (κ×ν)
 | [],k,v=>[(k,v)]
 | p::m,k,v=>if k=p.1 then (k,v)::m else p::Hb m k v
theorem zg (m:List (κ×ν)) (k:κ) (i j:Nat):(I5 m k i).map (·.2)=(I5 m k j).map (·.2):=by
 induction m generalizing i j with
 | nil=>rfl
 |
  cons p m ih=>
  unfold I5;split
  · rfl
  · exact ih _ _
theorem P0 (k:κ):getM ([]:List (κ×ν)) k=none:=rfl
theorem OQ (p:κ×ν) (m:List (κ×ν)) (k:κ):getM (p::m) k=if k=p.1 then some p.2 else getM m k:=by
 simp only [getM];rw [I5];split
 · rfl
 · exact zg m k _ _
theorem oD (m:List (κ×ν)) (k k':κ) (v:ν):getM (Hb m k v) k'=if k'=k then some v else getM m k':=by
 induction m with
 | nil=>simp only [Hb,OQ,P0]
 |
  cons p m ih=>
  unfold Hb;split
  ·rename_i h
   subst h;simp only [OQ];split <;> rfl
  rename_i h
  simp only [OQ,ih];split
  ·rename_i h2
   subst h2;rw [Ai (fun e=>h e.symm)]
  · rfl
def MapAt (ek:κ->AN) (ev:ν->AN) (w:AH) (b:Nat) (m:List (κ×ν)):Prop:=
 ∃es clock,w.heap[b]? =some (.map es clock)/\es.toList.map (fun e=>(e.key,e.val))=m.map (fun p=>(ek p.1,ev p.2))
variable {ek:κ->AN} {ev:ν->AN} {P:BA} {kt et t:Af} {w w':AH} {b:Nat} {m:List (κ×ν)}
omit [DecidableEq κ] in
theorem MapAt.lt (h:MapAt ek ev w b m):b < w.heap.size:=by obtain ⟨es,clock,h,_⟩:=h;exact (C6.1 h).1
omit [DecidableEq κ] in
theorem MapAt.same (h:MapAt ek ev w b m) (hb:w'.heap[b]? =w.heap[b]?):MapAt ek ev w' b m:=by obtain ⟨es,clock,h,h2⟩:=h;exact ⟨es,clock,hb.trans h,h2⟩
omit [DecidableEq κ] in
theorem MapAt.grown {row:Option Nat} (h:MapAt ek ev w b m) (hg:w.grownBy w' row) (hne:some b≠row):MapAt ek ev w' b m:=
 h.same (hg.block b h.lt hne)
omit [DecidableEq κ] in
omit [DecidableEq κ] in
theorem MapAt.new (ek:κ->AN) (ev:ν->AN) (w:AH):MapAt ek ev (w.alloc (.map #[] 0)) w.heap.size []:=
 ⟨#[],0,(heap_alloc w _).1,rfl⟩
theorem AAQ (K:Sw P kt ek) {d:TypeDesc} (hd:P.underlying kt=some d) (k:κ):∀(l:List MapEntry) (m:List (κ×ν)) (i:Nat),l.map (fun e=>(e.key,e.val))=m.map (fun p=>(ek p.1,ev p.2))->
 Instr.findNow d (ek k) l i=none\/Instr.findNow d (ek k) l i=some ((I5 m k i).map (fun q=>(q.1,ev q.2))):=by
 intro l
 induction l with
 |
  nil=>
  intro m i h;cases m with
  | nil=>exact .inr rfl
  | cons p m=>simp at h
 |
  cons e l ih=>
  intro m i h;cases m with
  | nil=>simp at h
  |
   cons p m=>
   simp only [Fe,Q5,F7] at h;obtain ⟨⟨h1,h2⟩,h3⟩:=h;obtain ⟨d',hd',hun⟩:=K.un;obtain rfl:d'=d:=by rw [hd] at hd';exact (Hm hd').symm
   unfold Instr.findNow I5;rw [h1];cases hs:Instr.sameNow d' (ek k) (ek p.1) with
   | none=>exact .inl rfl
   |
    some r=>
    have hr:=hun _ _ _ hs;cases r with
    |
     true=>
     right;rw [Ao (hr.1 rfl)];simp [h2]
    |
     false=>
     rw [Ai (fun e=>by have:=hr.2 e;cases this)];exact ih m (i+1) h3
theorem oG (K:Sw P kt ek) (k:κ) (w:AH):∀(l:List MapEntry) (m:List (κ×ν)) (i:Nat),l.map (fun e=>(e.key,e.val))=m.map (fun p=>(ek p.1,ev p.2))->
 (Instr.findAsking kt (ek k) l i).run P w=.ok ((I5 m k i).map (fun q=>(q.1,ev q.2))) w:=by
 intro l
 induction l with
 |
  nil=>
  intro m i h;cases m with
  | nil=>rfl
  | cons p m=>simp at h
 |
  cons e l ih=>
  intro m i h;cases m with
  | nil=>simp at h
  |
   cons p m=>
   simp only [Fe,Q5,F7] at h;obtain ⟨⟨h1,h2⟩,h3⟩:=h;obtain ⟨r,hr,hiff⟩:=K.eq k p.1 w;unfold Instr.findAsking I5;simp only [Ck,h1,hr,Result.andThen_ok];cases r with
   | true=>rw [Ao (hiff.1 rfl)];simp [h2]
   |
    false=>
    have hk:¬k=p.1:=fun e=>by have:=hiff.2 e;cases this
    rw [Ai hk];simpa using ih m (i+1) h3
theorem Xe (K:Sw P kt ek) (k:κ) (w:AH) (l:List MapEntry) (m:List (κ×ν)) (h:l.map (fun e=>(e.key,e.val))=m.map (fun p=>(ek p.1,ev p.2))):
 (Instr.findKey kt (ek k) l).run P w=.ok ((I5 m k 0).map (fun q=>(q.1,ev q.2))) w:=by
 obtain ⟨d,hd,hun⟩:=K.un;unfold Instr.findKey;simp only [Ck,T8 hd,Result.andThen_ok];rcases AAQ (ev:=ev) K hd k l m 0 h with h1 | h1
 · rw [h1];exact oG K k w l m 0 h
 · rw [h1];rfl
theorem C8 (K:Sw P kt ek) (ht:P.underlying t=some (.map kt et)) {z:AN} (hz:(zeroValue et).run P w=.ok z w) (h:MapAt ek ev w b m) (k:κ) (c:Bool):
 (Instr.lookup t (.map (some b)) (ek k) c).run P w=.ok (if c then .tuple #[((getM m k).map ev).getD z,Ab (getM m k).isSome] else ((getM m k).map ev).getD z) w:=by
 obtain ⟨es,clock,hb,hes⟩:=h;unfold Instr.lookup getM;simp only [Ck,T8 ht,Result.andThen_ok,dr hb,DC,K.ck,Xe (ev:=ev) K k w _ m hes];cases I5 m k 0 with
 | none=>simp [hz]
 | some q=>simp
theorem XO (ek:κ->AN) (ev:ν->AN) (k:κ) (v:ν):∀(l:List MapEntry) (m:List (κ×ν)) (i j:Nat) (x:ν),l.map (fun e=>(e.key,e.val))=m.map (fun p=>(ek p.1,ev p.2))->I5 m k i=some (j,x)->
 i<=j/\(∃e,l[j - i]? =some e/\e.key=ek k)/\(l.modify (j - i) (fun e=>{e with key:=ek k,val:=ev v})).map (fun e=>(e.key,e.val))=(Hb m k v).map (fun p=>(ek p.1,ev p.2)):=by
 intro l
 induction l with
 |
  nil=>
  intro m i j x h;cases m with
  | nil=>intro h2;simp [I5] at h2
  | cons p m=>simp at h
 |
  cons e l ih=>
  intro m i j x h;cases m with
  | nil=>simp at h
  |
   cons p m=>
   simp only [Fe,Q5,F7] at h;obtain ⟨⟨h1,h2⟩,h3⟩:=h;unfold I5 Hb;split
   ·rename_i hk
    intro hs;simp only [Bu,F7] at hs;obtain ⟨rfl,rfl⟩:=hs;refine ⟨Ac _,⟨e,by simp,by rw [h1,hk]⟩,?_⟩;simp [h3]
   rename_i hk
   intro hs;obtain ⟨a1,⟨e',a2,a3⟩,a4⟩:=ih m (i+1) j x h3 hs;have hj:j - i=(j - (i+1))+1:=AG
   refine ⟨by omega,⟨e',by rw [hj];simpa using a2,a3⟩,?_⟩;rw [hj,List.modify_succ_cons];simp [h1,h2,a4]
omit [DecidableEq κ] in
theorem ig [DecidableEq κ] (k:κ) (v:ν):∀(m:List (κ×ν)) (i:Nat),I5 m k i=none->Hb m k v=m++[(k,v)]:=by
 intro m
 induction m with
 | nil=>intro i _;rfl
 |
  cons p m ih=>
  intro i h;unfold I5 at h;unfold Hb;split at h
  · cases h
  rename_i hk
  rw [Ai hk,ih _ h];rfl
theorem FB (K:Sw P kt ek) (ht:P.underlying t=some (.map kt et)) (h:MapAt ek ev w b m) (k:κ) (v:ν):
 ∃w',(Instr.mapUpdate t (.map (some b)) (ek k) (ev v)).run P w=.ok () w'/\MapAt ek ev w' b (Hb m k v)/\w.grownBy w' (some b):=by
 have hlt:=h.lt;obtain ⟨es,clock,hb,hes⟩:=h;have hgrow:∀o:Obj,w.grownBy {w with heap:=w.heap.setIfInBounds b o} (some b):=fun o=>
  ⟨rfl,rfl,rfl,by simp,fun i _ hne=>(heap_set hb).2 i (fun e=>hne M0)⟩
 unfold Instr.mapUpdate;simp only [Ck,T8 ht,Result.andThen_ok,dr hb,K.ck,Xe (ev:=ev) K k w _ m hes];cases hl:I5 m k 0 with
 |
  none=>
  refine ⟨_,YW _ hb,⟨_,_,(heap_set hb).1,?_⟩,hgrow _⟩;rw [ig k v m 0 hl];simp [hes]
 |
  some q=>
  obtain ⟨j,x⟩:=q;obtain ⟨_,⟨e,he,hek⟩,h3⟩:=XO ek ev k v es.toList m 0 j x hes hl;simp only [Nat.sub_zero] at he h3;have he':es[j]? =some e:=by simpa using he
  simp only [Cl,he',Cc,hek];unfold Instr.keyThatStays;rw [K.sb,Ao rfl];simp only [Ck,DC,Result.andThen_ok];refine ⟨_,YW _ hb,⟨_,_,(heap_set hb).1,?_⟩,hgrow _⟩;simpa using h3
end
theorem GI {P:BA} {kt:Af} {q:IntKind} (hk:P.underlying kt=some (.int q)):Sw P kt (fun x:Int=>Value.int q x) where
 eq a b w:=⟨a==b,by simpa [Op.equal,Op.maxDepth] using Lm w 9999 kt q q a b hk,by simp⟩
 ck e a w:=run_checkKey (d:=.int q) hk (by simp [IsKey]) e 9999
 sb a:=by simp [Instr.sameBits]
 un:=⟨_,hk,fun a b r h=>by simp [Instr.sameNow] at h;subst h;simp⟩
open Go.MapKept (run_checkKey heap_set heap_alloc IsKey)
theorem str_eq (a b:ByteArray):((a.toList==b.toList)=true)↔a=b:=by rw [beq_iff_eq,ByteArray.toList_eq,ByteArray.toList_eq];exact ⟨fun h=>WideShapes.bytes_inj h,fun h=>by rw [h]⟩
theorem DG (a b:ByteArray):(a.toList==b.toList)=decide (a=b):=by rw [Bool.eq_iff_iff,str_eq,B8]
theorem AAg (a b:ByteArray):((a==b)=true)↔a=b:=by rw [beq_toListBytes];exact str_eq a b
theorem DB {P:BA} {kt:Af} (hk:P.underlying kt=some .string):Sw P kt (fun x:ByteArray=>Value.string x) where
 eq a b w:=⟨a.toList==b.toList,by simpa [Op.equal,Op.maxDepth] using PS w 9999 kt a b hk,str_eq a b⟩
 ck e a w:=run_checkKey (d:=.string) hk (by simp [IsKey]) e 9999
 sb a:=by simp only [Instr.sameBits];exact (AAg a a).2 rfl
 un:=⟨_,hk,fun a b r h=>by simp only [Instr.sameNow,Bu] at h;subst h;exact AAg a b⟩
def Ep {κ:Type} (l:List κ):List (κ×Bool):=l.map fun x=>(x,true)
theorem Xa {κ:Type} [DecidableEq κ] (l:List κ) (x:κ):getM (Ep l) x=if x∈l then some true else none:=by
 induction l with
 | nil=>simp [Ep,P0]
 |
  cons y l ih=>
  have h:getM (Ep (y::l)) x=if x=y then some true else getM (Ep l) x:=OQ (y,true) (Ep l) x
  rw [h,ih];by_cases e:x=y <;> simp [e]
theorem Sf {κ:Type} [DecidableEq κ] (l:List κ) (x:κ) (h:x∉l):Hb (Ep l) x true=Ep (l++[x]):=by
 induction l with
 | nil=>rfl
 |
  cons y l ih=>
  have e:¬x=y:=fun e=>h (by simp [e]);have h2:x∉l:=fun e=>h (by simp [e]);have:=ih h2;simp only [Ep,Fe,Ln] at this ⊢;rw [Hb,Ai e,this]
theorem aZ (A:Option Aa) (n c:Nat) (l:List ByteArray) (w:AH) (hs:Ag 1 DQ w (AB A n c) l):
 AS prog 138 #[AB A n c] w fun e w'=>e=AU (Ab (Dk [] l))/\AK w w':=by
 have hn2:n<=9223372036854775807:=by have:=hs.le;omega
 have HN:=AA hs.len;have HS:=AA hs;clear hs;have hmm:∀(n:Int) (w:AH),(Instr.makeMap 319 (some (AE AF n))).run prog w=.ok (.map (some w.heap.size)) (w.alloc (.map #[] 0)):=by intro n w;simp [Instr.makeMap,run_underlying underlying319,asInt,asIntOf]
 obtain ⟨v,hv⟩:=BP (Dk [] l);rw [hv];have HV:AI (Dk (l.take 0) (l.drop 0)=v):=AA hv;clear hv;go_enter func138,ntmps138;go_wp2_with fail;clear hmm;have hm0:MapAt Value.string Value.bool (w.alloc (.map #[] 0)) w.heap.size (Ep (l.take 0)):=MapAt.new _ _ w;have hb0:AK w (w.alloc (.map #[] 0)):=(Ae _ _).alloc (Ac _) _;have MC:=AA hm0;have HB0:=AA hb0;clear hm0 hb0;go_loopg [11] n (fun g i wr=>∃k:Nat,k<=n/\g=n - k/\i=AE AF k/\Dk (l.take k) (l.drop k)=v/\MapAt Value.string Value.bool wr w.heap.size (Ep (l.take k))/\AK w wr)
 case atStart=>exact sP
 clear MC HB0 HV;obtain ⟨k,hk,hg,rfl,hv,hm,hb⟩:=hrel;have HG:=AA hg;have HB:=AA hb;by_cases hlt:k < n
 ·obtain ⟨b,off,x,rfl,hbl,hx,hc⟩:=Wn (HS.o.mono BV HB.o) hlt
  rw [drop_cons hx,Dk] at hv;have hlook:=C8 (DB underlying9) underlying319 (z:=Ab false) AJ hm x false;rw [Xa] at hlook;by_cases hmem:x∈l.take k
  ·rw [Ao hmem] at hv hlook
   subst hv;simp only [Cl,Cc,Gu,F5] at hlook;clear hx hg hb hm hmem;exact P8
  rw [Ai hmem] at hv hlook;simp only [JJ,Jj,Gu,F5] at hlook;obtain ⟨w3,hrun3,Dm,hg3⟩:=FB (DB underlying9) underlying319 hm x true;rw [Sf _ _ hmem,<-take_snoc hx] at Dm;rw [<-take_snoc hx] at hv;have HB3:=AA (HB.o.grown hg3 HB.o.size (fun r e=>by cases e;exact Ac _));have G9:=AA Dm;have HV3:=AA hv;clear Dm hg3 hv hx hg hb hm hmem;go_wp2_with fail;go_roundg (n - (k+1))
  case measure=>exact EF
  case rel=>exact lE
 rw [Ex Gx] at hv;subst hv;clear hm hb;exact P8
theorem gS (n:Nat):((n:Int)==0)=decide (n=0):=by by_cases h:n=0 <;> simp [h]
theorem zu (k lo hi u:Int) (s:ByteArray) (A:Option Aa) (n c:Nat) (m:Int) (w:AH):
 AS prog 134 #[AP #[AE AF k,AE AF lo,AE AF hi,AL s,AE AF u,AB A n c],AE AF m] w fun e w'=>
  e=AU (Ab (decide (0<=lo) && decide (lo<=hi) && decide (hi<=1048576) && decide (-1<=u) && decide (u < m) && decide (n=0)))/\AK w w':=by
 go_enter func134,ntmps134;go_wp2_with fail
 all_goals
  go_ret;refine ⟨Ay ?_,(Ae _ _).alloc (Ac _) _⟩
  go_light
  first
   | (simp_all;done)
   | (simp_all [gS];done)
   | (simp_all;intros;exfalso;omega)
theorem zt (k lo hi u:Int) (s:ByteArray) (A:Option Aa) (n c:Nat) (m:Int) (w:AH):
 AS prog 135 #[AP #[AE AF k,AE AF lo,AE AF hi,AL s,AE AF u,AB A n c],AE AF m] w fun e w'=>
  e=AU (Ab (decide (lo=0) && decide (hi=1023) && decide (u= -1) && decide (n=0)))/\AK w w':=by
 go_enter func135,ntmps135;go_wp2_with fail
 all_goals
  go_ret;refine ⟨Ay ?_,(Ae _ _).alloc (Ac _) _⟩
  go_light
  first
   | (simp_all;done)
   | (simp_all [gS];done)
   | (simp_all;intros;exfalso;omega)
theorem zr (k lo hi u:Int) (s:ByteArray) (A:Option Aa) (n c:Nat) (m:Int) (w:AH):
 AS prog 136 #[AP #[AE AF k,AE AF lo,AE AF hi,AL s,AE AF u,AB A n c],AE AF m] w fun e w'=>
  e=AU (Ab (decide (lo=0) && decide (hi=4095) && decide (u= -1) && decide (n=0)))/\AK w w':=by
 go_enter func136,ntmps136;go_wp2_with fail
 all_goals
  go_ret;refine ⟨Ay ?_,(Ae _ _).alloc (Ac _) _⟩
  go_light
  first
   | (simp_all;done)
   | (simp_all [gS];done)
   | (simp_all;intros;exfalso;omega)
theorem zq (k lo hi u:Int) (s:ByteArray) (A:Option Aa) (n c:Nat) (m:Int) (l:List ByteArray) (w:AH) (hs:Ag 1 DQ w (AB A n c) l):
 AS prog 137 #[AP #[AE AF k,AE AF lo,AE AF hi,AL s,AE AF u,AB A n c],AE AF m] w fun e w'=>
  e=AU (Ab (decide (lo=0) && decide (hi=(n:Int) - 1) && decide (u= -1) && decide (1<=n) && decide (n<=16) && Dk [] l))/\AK w w':=by
 have hn2:n<=9223372036854775807:=by have:=hs.le;omega
 have HS:=AA hs;clear hs;go_enter func137,ntmps137;go_wp2_with (go_at_call 138;refine (aZ _ _ _ l _ (HS.o.mono BV (BE _ _))).mono ?_;rintro e w1 ⟨rfl,hb1⟩)
 all_goals
  go_ret
  first
   | refine ⟨Ay ?_,(Ae _ _).alloc (Ac _) _⟩
   | refine ⟨Ay ?_,Below.trans (BE _ _) (Below.mono hb1 AX)⟩
  go_light
  first
   | (simp_all;done)
   | (simp_all;intros;exfalso;omega)
   | (simp_all;intros;omega)
def Rs:AN:=AP #[.nilFunc,.func (.func 134) #[] #[],.func (.func 135) #[] #[],.func (.func 136) #[] #[],.func (.func 137) #[] #[]]
theorem Sj (w:AH):AS prog 93 #[] w fun e w'=>e=AU Rs/\AK w w':=by go_enter func93,ntmps93;go_wp2_with fail;exact Eu (v:=Rs) (by simp [results,results93,go_sem,Rs]) rfl ⟨rfl,(Ae _ _).alloc (Ac _) _⟩
theorem uL (A1 A2 A3 A4 A5 A6:Option Aa) (n1 c1 n2 c2 n3 c3 n4 c4 n5 c5 n6 c6:Nat) (u:Bt) (us:List Bt) (w:AH) (h2:Ag 5 CD w (AB A2 n2 c2) us):
 AS prog 107 #[(AP #[AB A1 n1 c1,AB A2 n2 c2,AB A3 n3 c3,AB A4 n4 c4,AB A5 n5 c5,AB A6 n6 c6]),AP #[AL u.name,AL u.An,AE AF u.factor,AE AF u.base,AE AF u.scale]] w fun e w'=>
  e=AU (Ab (MJ us u))/\AK w w':=by
 have hn2:n2<=9223372036854775807:=by have:=h2.le;omega
 have hln:=h2.len;have H2:=AA h2;clear h2;obtain ⟨nm,An,fa,ba,sc⟩:=u;unfold MJ;simp only;by_cases hin:0<=ba/\ba < n2
 ·obtain ⟨k,rfl⟩:∃k:Nat,ba=k:=⟨ba.toNat,by omega⟩
  have hk:k < n2:=AG
  obtain ⟨b,off,x,rfl,hbl,hx,e0,e1,e2,e3,e4⟩:=Nn H2.o hk;have hx2:us[(k:Int).toNat]? =some x:=by simpa using hx
  rw [hx2,<-hln];have hk0:=Int.natCast_nonneg k
  have hkn:(k:Int) < (n2:Int):=AG
  clear hx hx2 hin hln;go_enter func107,ntmps107;go_wp2_with fail
  all_goals
   go_ret;refine ⟨Ay ?_,((BE _ _).alloc AX _)⟩
   go_light
   first
    | (simp_all;done)
    | (simp_all;intros;exfalso;omega)
    | (simp_all;rfl)
 have hf:(decide (0<=ba) && decide (ba < us.length))=false:=by rw [<-hln];simp only [Mw,Mx];omega
 clear hln;go_enter func107,ntmps107;go_wp2_with fail
 all_goals
  go_ret;refine ⟨Ay ?_,((BE _ _).alloc AX _)⟩
  go_light
  first
   | (simp_all;done)
   | (simp_all;intros;exfalso;omega)
   | (simp_all;intros;omega)
   | (exfalso;omega)
theorem aW (d:Nat) (x y:Du) (w:AH):(Op.equalIn (d+2) 279 (AP #[AL x.name,AL x.path,AE AF x.var,AE AF x.field,AE AF x.n]) (AP #[AL y.name,AL y.path,AE AF y.var,AE AF y.field,AE AF y.n])).run prog w=.ok (decide (x=y)) w:=by
 have hu:=underlying279;have hp:prog.stoodInHeld 279=false:=AJ
 have ht:prog.underlying 279=some (.struct (prog.fieldsOf 279)):=by rw [Program.fieldsOf,hu]
 have h1:prog.plainKey 9=true:=AJ
 have h2:prog.plainKey 3=true:=AJ
 rw [PT w (d+1) 279 _ _ ht hp,Program.fieldsOf,hu];have es:∀(a b:ByteArray),(Op.equalIn (d+1) 9 (AL a) (AL b)).run prog w=.ok (decide (a=b)) w:=fun a b=>by rw [PS w (d+0) 9 a b underlying9,DG]
 have ei:∀(a b:Int),(Op.equalIn (d+1) 3 (AE AF a) (AE AF b)).run prog w=.ok (decide (a=b)) w:=fun a b=>by rw [Lm w (d+0) 3 .i64 .i64 a b underlying3];rfl
 have Uo:=BZ (P:=prog) w h1 (xs:=#[AL x.name,AL x.path,AE AF x.var,AE AF x.field,AE AF x.n]) (off:=0) (v:=AL x.name) rfl;have Ul:=BZ (P:=prog) w h1 (xs:=#[AL y.name,AL y.path,AE AF y.var,AE AF y.field,AE AF y.n]) (off:=0) (v:=AL y.name) rfl;have Un:=BZ (P:=prog) w h1 (xs:=#[AL x.name,AL x.path,AE AF x.var,AE AF x.field,AE AF x.n]) (off:=1) (v:=AL x.path) rfl;have Uk:=BZ (P:=prog) w h1 (xs:=#[AL y.name,AL y.path,AE AF y.var,AE AF y.field,AE AF y.n]) (off:=1) (v:=AL y.path) rfl;have Um:=BZ (P:=prog) w h2 (xs:=#[AL x.name,AL x.path,AE AF x.var,AE AF x.field,AE AF x.n]) (off:=2) (v:=AE AF x.var) rfl;have Uj:=BZ (P:=prog) w h2 (xs:=#[AL y.name,AL y.path,AE AF y.var,AE AF y.field,AE AF y.n]) (off:=2) (v:=AE AF y.var) rfl;have cD:=BZ (P:=prog) w h2 (xs:=#[AL x.name,AL x.path,AE AF x.var,AE AF x.field,AE AF x.n]) (off:=3) (v:=AE AF x.field) rfl;have cC:=BZ (P:=prog) w h2 (xs:=#[AL y.name,AL y.path,AE AF y.var,AE AF y.field,AE AF y.n]) (off:=3) (v:=AE AF y.field) rfl;have zE:=BZ (P:=prog) w h2 (xs:=#[AL x.name,AL x.path,AE AF x.var,AE AF x.field,AE AF x.n]) (off:=4) (v:=AE AF x.n) rfl;have zD:=BZ (P:=prog) w h2 (xs:=#[AL y.name,AL y.path,AE AF y.var,AE AF y.field,AE AF y.n]) (off:=4) (v:=AE AF y.n) rfl;simp [Op.eqFields,Uo,Ul,Un,Uk,Um,Uj,cD,cC,zE,zD,es,ei,Result.andThen_ok];obtain ⟨x0,x1,x2,x3,x4⟩:=x;obtain ⟨y0,y1,y2,y3,y4⟩:=y;simp only [Du.mk.injEq];by_cases e0:x0=y0
 case neg=>simp [e0]
 by_cases e1:x1=y1
 case neg=>simp [e0,e1]
 by_cases e2:x2=y2
 case neg=>simp [e0,e1,e2]
 by_cases e3:x3=y3
 case neg=>simp [e0,e1,e2,e3]
 by_cases e4:x4=y4
 case neg=>simp [e0,e1,e2,e3,e4]
 simp [e0,e1,e2,e3,e4]
theorem ACj (d:Nat) (x y:Bt) (w:AH):(Op.equalIn (d+2) 201 (AP #[AL x.name,AL x.An,AE AF x.factor,AE AF x.base,AE AF x.scale]) (AP #[AL y.name,AL y.An,AE AF y.factor,AE AF y.base,AE AF y.scale])).run prog w=.ok (decide (x=y)) w:=by
 have hu:=underlying201;have hp:prog.stoodInHeld 201=false:=AJ
 have ht:prog.underlying 201=some (.struct (prog.fieldsOf 201)):=by rw [Program.fieldsOf,hu]
 have h1:prog.plainKey 9=true:=AJ
 have h2:prog.plainKey 3=true:=AJ
 rw [PT w (d+1) 201 _ _ ht hp,Program.fieldsOf,hu];have es:∀(a b:ByteArray),(Op.equalIn (d+1) 9 (AL a) (AL b)).run prog w=.ok (decide (a=b)) w:=fun a b=>by rw [PS w (d+0) 9 a b underlying9,DG]
 have ei:∀(a b:Int),(Op.equalIn (d+1) 3 (AE AF a) (AE AF b)).run prog w=.ok (decide (a=b)) w:=fun a b=>by rw [Lm w (d+0) 3 .i64 .i64 a b underlying3];rfl
 have Uo:=BZ (P:=prog) w h1 (xs:=#[AL x.name,AL x.An,AE AF x.factor,AE AF x.base,AE AF x.scale]) (off:=0) (v:=AL x.name) rfl;have Ul:=BZ (P:=prog) w h1 (xs:=#[AL y.name,AL y.An,AE AF y.factor,AE AF y.base,AE AF y.scale]) (off:=0) (v:=AL y.name) rfl;have Un:=BZ (P:=prog) w h1 (xs:=#[AL x.name,AL x.An,AE AF x.factor,AE AF x.base,AE AF x.scale]) (off:=1) (v:=AL x.An) rfl;have Uk:=BZ (P:=prog) w h1 (xs:=#[AL y.name,AL y.An,AE AF y.factor,AE AF y.base,AE AF y.scale]) (off:=1) (v:=AL y.An) rfl;have Um:=BZ (P:=prog) w h2 (xs:=#[AL x.name,AL x.An,AE AF x.factor,AE AF x.base,AE AF x.scale]) (off:=2) (v:=AE AF x.factor) rfl;have Uj:=BZ (P:=prog) w h2 (xs:=#[AL y.name,AL y.An,AE AF y.factor,AE AF y.base,AE AF y.scale]) (off:=2) (v:=AE AF y.factor) rfl;have cD:=BZ (P:=prog) w h2 (xs:=#[AL x.name,AL x.An,AE AF x.factor,AE AF x.base,AE AF x.scale]) (off:=3) (v:=AE AF x.base) rfl;have cC:=BZ (P:=prog) w h2 (xs:=#[AL y.name,AL y.An,AE AF y.factor,AE AF y.base,AE AF y.scale]) (off:=3) (v:=AE AF y.base) rfl;have zE:=BZ (P:=prog) w h2 (xs:=#[AL x.name,AL x.An,AE AF x.factor,AE AF x.base,AE AF x.scale]) (off:=4) (v:=AE AF x.scale) rfl;have zD:=BZ (P:=prog) w h2 (xs:=#[AL y.name,AL y.An,AE AF y.factor,AE AF y.base,AE AF y.scale]) (off:=4) (v:=AE AF y.scale) rfl;simp [Op.eqFields,Uo,Ul,Un,Uk,Um,Uj,cD,cC,zE,zD,es,ei,Result.andThen_ok];obtain ⟨x0,x1,x2,x3,x4⟩:=x;obtain ⟨y0,y1,y2,y3,y4⟩:=y;simp only [Bt.mk.injEq];by_cases e0:x0=y0
 case neg=>simp [e0]
 by_cases e1:x1=y1
 case neg=>simp [e0,e1]
 by_cases e2:x2=y2
 case neg=>simp [e0,e1,e2]
 by_cases e3:x3=y3
 case neg=>simp [e0,e1,e2,e3]
 by_cases e4:x4=y4
 case neg=>simp [e0,e1,e2,e3,e4]
 simp [e0,e1,e2,e3,e4]
theorem AEM (x y:Bt) (w:AH):(binOp .neq 201 (AP #[AL x.name,AL x.An,AE AF x.factor,AE AF x.base,AE AF x.scale]) (AP #[AL y.name,AL y.An,AE AF y.factor,AE AF y.base,AE AF y.scale])).run prog w=.ok (Ab (!decide (x=y))) w:=by rw [Q0 w,ACj 9998 x y w];rfl
theorem ACk (d:Nat) (x y:Kf) (w:AH):(Op.equalIn (d+2) 294 (AP #[AL x.DJ,AL x.from_,AE AF x.b,AE AF x.a,AE AF x.shift]) (AP #[AL y.DJ,AL y.from_,AE AF y.b,AE AF y.a,AE AF y.shift])).run prog w=.ok (decide (x=y)) w:=by
 have hu:=underlying294;have hp:prog.stoodInHeld 294=false:=AJ
 have ht:prog.underlying 294=some (.struct (prog.fieldsOf 294)):=by rw [Program.fieldsOf,hu]
 have h1:prog.plainKey 9=true:=AJ
 have h2:prog.plainKey 3=true:=AJ
 rw [PT w (d+1) 294 _ _ ht hp,Program.fieldsOf,hu];have es:∀(a b:ByteArray),(Op.equalIn (d+1) 9 (AL a) (AL b)).run prog w=.ok (decide (a=b)) w:=fun a b=>by rw [PS w (d+0) 9 a b underlying9,DG]
 have ei:∀(a b:Int),(Op.equalIn (d+1) 3 (AE AF a) (AE AF b)).run prog w=.ok (decide (a=b)) w:=fun a b=>by rw [Lm w (d+0) 3 .i64 .i64 a b underlying3];rfl
 have Uo:=BZ (P:=prog) w h1 (xs:=#[AL x.DJ,AL x.from_,AE AF x.b,AE AF x.a,AE AF x.shift]) (off:=0) (v:=AL x.DJ) rfl;have Ul:=BZ (P:=prog) w h1 (xs:=#[AL y.DJ,AL y.from_,AE AF y.b,AE AF y.a,AE AF y.shift]) (off:=0) (v:=AL y.DJ) rfl;have Un:=BZ (P:=prog) w h1 (xs:=#[AL x.DJ,AL x.from_,AE AF x.b,AE AF x.a,AE AF x.shift]) (off:=1) (v:=AL x.from_) rfl;have Uk:=BZ (P:=prog) w h1 (xs:=#[AL y.DJ,AL y.from_,AE AF y.b,AE AF y.a,AE AF y.shift]) (off:=1) (v:=AL y.from_) rfl;have Um:=BZ (P:=prog) w h2 (xs:=#[AL x.DJ,AL x.from_,AE AF x.b,AE AF x.a,AE AF x.shift]) (off:=2) (v:=AE AF x.b) rfl;have Uj:=BZ (P:=prog) w h2 (xs:=#[AL y.DJ,AL y.from_,AE AF y.b,AE AF y.a,AE AF y.shift]) (off:=2) (v:=AE AF y.b) rfl;have cD:=BZ (P:=prog) w h2 (xs:=#[AL x.DJ,AL x.from_,AE AF x.b,AE AF x.a,AE AF x.shift]) (off:=3) (v:=AE AF x.a) rfl;have cC:=BZ (P:=prog) w h2 (xs:=#[AL y.DJ,AL y.from_,AE AF y.b,AE AF y.a,AE AF y.shift]) (off:=3) (v:=AE AF y.a) rfl;have zE:=BZ (P:=prog) w h2 (xs:=#[AL x.DJ,AL x.from_,AE AF x.b,AE AF x.a,AE AF x.shift]) (off:=4) (v:=AE AF x.shift) rfl;have zD:=BZ (P:=prog) w h2 (xs:=#[AL y.DJ,AL y.from_,AE AF y.b,AE AF y.a,AE AF y.shift]) (off:=4) (v:=AE AF y.shift) rfl;simp [Op.eqFields,Uo,Ul,Un,Uk,Um,Uj,cD,cC,zE,zD,es,ei,Result.andThen_ok];obtain ⟨x0,x1,x2,x3,x4⟩:=x;obtain ⟨y0,y1,y2,y3,y4⟩:=y;simp only [Kf.mk.injEq];by_cases e0:x0=y0
 case neg=>simp [e0]
 by_cases e1:x1=y1
 case neg=>simp [e0,e1]
 by_cases e2:x2=y2
 case neg=>simp [e0,e1,e2]
 by_cases e3:x3=y3
 case neg=>simp [e0,e1,e2,e3]
 by_cases e4:x4=y4
 case neg=>simp [e0,e1,e2,e3,e4]
 simp [e0,e1,e2,e3,e4]
theorem AEN (x y:Kf) (w:AH):(binOp .neq 294 (AP #[AL x.DJ,AL x.from_,AE AF x.b,AE AF x.a,AE AF x.shift]) (AP #[AL y.DJ,AL y.from_,AE AF y.b,AE AF y.a,AE AF y.shift])).run prog w=.ok (Ab (!decide (x=y))) w:=by rw [Q0 w,ACk 9998 x y w];rfl
theorem AEc (d:Nat) (x y:L1) (w:AH):(Op.equalIn (d+2) 288 (AP #[AL x.name,AL x.path,AE AF x.schema,AE AF x.field]) (AP #[AL y.name,AL y.path,AE AF y.schema,AE AF y.field])).run prog w=.ok (decide (x=y)) w:=by
 have hu:=underlying288;have hp:prog.stoodInHeld 288=false:=AJ
 have ht:prog.underlying 288=some (.struct (prog.fieldsOf 288)):=by rw [Program.fieldsOf,hu]
 have h1:prog.plainKey 9=true:=AJ
 have h2:prog.plainKey 3=true:=AJ
 rw [PT w (d+1) 288 _ _ ht hp,Program.fieldsOf,hu];have es:∀(a b:ByteArray),(Op.equalIn (d+1) 9 (AL a) (AL b)).run prog w=.ok (decide (a=b)) w:=fun a b=>by rw [PS w (d+0) 9 a b underlying9,DG]
 have ei:∀(a b:Int),(Op.equalIn (d+1) 3 (AE AF a) (AE AF b)).run prog w=.ok (decide (a=b)) w:=fun a b=>by rw [Lm w (d+0) 3 .i64 .i64 a b underlying3];rfl
 have Uo:=BZ (P:=prog) w h1 (xs:=#[AL x.name,AL x.path,AE AF x.schema,AE AF x.field]) (off:=0) (v:=AL x.name) rfl;have Ul:=BZ (P:=prog) w h1 (xs:=#[AL y.name,AL y.path,AE AF y.schema,AE AF y.field]) (off:=0) (v:=AL y.name) rfl;have Un:=BZ (P:=prog) w h1 (xs:=#[AL x.name,AL x.path,AE AF x.schema,AE AF x.field]) (off:=1) (v:=AL x.path) rfl;have Uk:=BZ (P:=prog) w h1 (xs:=#[AL y.name,AL y.path,AE AF y.schema,AE AF y.field]) (off:=1) (v:=AL y.path) rfl;have Um:=BZ (P:=prog) w h2 (xs:=#[AL x.name,AL x.path,AE AF x.schema,AE AF x.field]) (off:=2) (v:=AE AF x.schema) rfl;have Uj:=BZ (P:=prog) w h2 (xs:=#[AL y.name,AL y.path,AE AF y.schema,AE AF y.field]) (off:=2) (v:=AE AF y.schema) rfl;have cD:=BZ (P:=prog) w h2 (xs:=#[AL x.name,AL x.path,AE AF x.schema,AE AF x.field]) (off:=3) (v:=AE AF x.field) rfl;have cC:=BZ (P:=prog) w h2 (xs:=#[AL y.name,AL y.path,AE AF y.schema,AE AF y.field]) (off:=3) (v:=AE AF y.field) rfl;simp [Op.eqFields,Uo,Ul,Un,Uk,Um,Uj,cD,cC,es,ei,Result.andThen_ok];obtain ⟨x0,x1,x2,x3⟩:=x;obtain ⟨y0,y1,y2,y3⟩:=y;simp only [L1.mk.injEq];by_cases e0:x0=y0
 case neg=>simp [e0]
 by_cases e1:x1=y1
 case neg=>simp [e0,e1]
 by_cases e2:x2=y2
 case neg=>simp [e0,e1,e2]
 by_cases e3:x3=y3
 case neg=>simp [e0,e1,e2,e3]
 simp [e0,e1,e2,e3]
theorem AE4 (x y:L1) (w:AH):(binOp .neq 288 (AP #[AL x.name,AL x.path,AE AF x.schema,AE AF x.field]) (AP #[AL y.name,AL y.path,AE AF y.schema,AE AF y.field])).run prog w=.ok (Ab (!decide (x=y))) w:=by rw [Q0 w,AEc 9998 x y w];rfl
theorem ACl (d:Nat) (x y:B0) (w:AH):(Op.equalIn (d+3) 298 (AP #[AL x.name,AL x.kind,AE AF x.schema,AL x.An.name,AL x.An.path,AE AF x.An.var,AE AF x.An.field,AE AF x.An.n]) (AP #[AL y.name,AL y.kind,AE AF y.schema,AL y.An.name,AL y.An.path,AE AF y.An.var,AE AF y.An.field,AE AF y.An.n])).run prog w=.ok (decide (x=y)) w:=by
 have hu:=underlying298;have hp:prog.stoodInHeld 298=false:=AJ
 have ht:prog.underlying 298=some (.struct (prog.fieldsOf 298)):=by rw [Program.fieldsOf,hu]
 have h1:prog.plainKey 9=true:=AJ
 have h2:prog.plainKey 3=true:=AJ
 rw [PT w (d+2) 298 _ _ ht hp,Program.fieldsOf,hu];have es:∀(a b:ByteArray),(Op.equalIn (d+2) 9 (AL a) (AL b)).run prog w=.ok (decide (a=b)) w:=fun a b=>by rw [PS w (d+1) 9 a b underlying9,DG]
 have ei:∀(a b:Int),(Op.equalIn (d+2) 3 (AE AF a) (AE AF b)).run prog w=.ok (decide (a=b)) w:=fun a b=>by rw [Lm w (d+1) 3 .i64 .i64 a b underlying3];rfl
 have Uo:=BZ (P:=prog) w h1 (xs:=#[AL x.name,AL x.kind,AE AF x.schema,AL x.An.name,AL x.An.path,AE AF x.An.var,AE AF x.An.field,AE AF x.An.n]) (off:=0) (v:=AL x.name) rfl;have Ul:=BZ (P:=prog) w h1 (xs:=#[AL y.name,AL y.kind,AE AF y.schema,AL y.An.name,AL y.An.path,AE AF y.An.var,AE AF y.An.field,AE AF y.An.n]) (off:=0) (v:=AL y.name) rfl;have Un:=BZ (P:=prog) w h1 (xs:=#[AL x.name,AL x.kind,AE AF x.schema,AL x.An.name,AL x.An.path,AE AF x.An.var,AE AF x.An.field,AE AF x.An.n]) (off:=1) (v:=AL x.kind) rfl;have Uk:=BZ (P:=prog) w h1 (xs:=#[AL y.name,AL y.kind,AE AF y.schema,AL y.An.name,AL y.An.path,AE AF y.An.var,AE AF y.An.field,AE AF y.An.n]) (off:=1) (v:=AL y.kind) rfl;have Um:=BZ (P:=prog) w h2 (xs:=#[AL x.name,AL x.kind,AE AF x.schema,AL x.An.name,AL x.An.path,AE AF x.An.var,AE AF x.An.field,AE AF x.An.n]) (off:=2) (v:=AE AF x.schema) rfl;have Uj:=BZ (P:=prog) w h2 (xs:=#[AL y.name,AL y.kind,AE AF y.schema,AL y.An.name,AL y.An.path,AE AF y.An.var,AE AF y.An.field,AE AF y.An.n]) (off:=2) (v:=AE AF y.schema) rfl;have cD:(part 279 #[AL x.name,AL x.kind,AE AF x.schema,AL x.An.name,AL x.An.path,AE AF x.An.var,AE AF x.An.field,AE AF x.An.n] 3).run prog w=.ok (AP #[AL x.An.name,AL x.An.path,AE AF x.An.var,AE AF x.An.field,AE AF x.An.n]) w:=by
  have hz:prog.cellsOf 279=5:=AJ
  simp [part,isAgg,run_underlying (P:=prog) underlying279]
 have cC:(part 279 #[AL y.name,AL y.kind,AE AF y.schema,AL y.An.name,AL y.An.path,AE AF y.An.var,AE AF y.An.field,AE AF y.An.n] 3).run prog w=.ok (AP #[AL y.An.name,AL y.An.path,AE AF y.An.var,AE AF y.An.field,AE AF y.An.n]) w:=by
  have hz:prog.cellsOf 279=5:=AJ
  simp [part,isAgg,run_underlying (P:=prog) underlying279]
 simp [Op.eqFields,Uo,Ul,Un,Uk,Um,Uj,cD,cC,es,ei,aW d,Result.andThen_ok];obtain ⟨x0,x1,x2,x3⟩:=x;obtain ⟨y0,y1,y2,y3⟩:=y;simp only [B0.mk.injEq];by_cases e0:x0=y0
 case neg=>simp [e0]
 by_cases e1:x1=y1
 case neg=>simp [e0,e1]
 by_cases e2:x2=y2
 case neg=>simp [e0,e1,e2]
 by_cases e3:x3=y3
 case neg=>simp [e0,e1,e2,e3]
 simp [e0,e1,e2,e3]
theorem AEO (x y:B0) (w:AH):(binOp .neq 298 (AP #[AL x.name,AL x.kind,AE AF x.schema,AL x.An.name,AL x.An.path,AE AF x.An.var,AE AF x.An.field,AE AF x.An.n]) (AP #[AL y.name,AL y.kind,AE AF y.schema,AL y.An.name,AL y.An.path,AE AF y.An.var,AE AF y.An.field,AE AF y.An.n])).run prog w=.ok (Ab (!decide (x=y))) w:=by rw [Q0 w,ACl 9997 x y w];rfl
theorem ACm (d:Nat) (x y:IL) (w:AH):(Op.equalIn (d+3) 281 (AP #[AE AF x.op,AL x.a.name,AL x.a.path,AE AF x.a.var,AE AF x.a.field,AE AF x.a.n,AL x.b.name,AL x.b.path,AE AF x.b.var,AE AF x.b.field,AE AF x.b.n]) (AP #[AE AF y.op,AL y.a.name,AL y.a.path,AE AF y.a.var,AE AF y.a.field,AE AF y.a.n,AL y.b.name,AL y.b.path,AE AF y.b.var,AE AF y.b.field,AE AF y.b.n])).run prog w=.ok (decide (x=y)) w:=by
 have hu:=underlying281;have hp:prog.stoodInHeld 281=false:=AJ
 have ht:prog.underlying 281=some (.struct (prog.fieldsOf 281)):=by rw [Program.fieldsOf,hu]
 have h1:prog.plainKey 9=true:=AJ
 have h2:prog.plainKey 3=true:=AJ
 rw [PT w (d+2) 281 _ _ ht hp,Program.fieldsOf,hu];have ei:∀(a b:Int),(Op.equalIn (d+2) 3 (AE AF a) (AE AF b)).run prog w=.ok (decide (a=b)) w:=fun a b=>by rw [Lm w (d+1) 3 .i64 .i64 a b underlying3];rfl
 have Uo:=BZ (P:=prog) w h2 (xs:=#[AE AF x.op,AL x.a.name,AL x.a.path,AE AF x.a.var,AE AF x.a.field,AE AF x.a.n,AL x.b.name,AL x.b.path,AE AF x.b.var,AE AF x.b.field,AE AF x.b.n]) (off:=0) (v:=AE AF x.op) rfl;have Ul:=BZ (P:=prog) w h2 (xs:=#[AE AF y.op,AL y.a.name,AL y.a.path,AE AF y.a.var,AE AF y.a.field,AE AF y.a.n,AL y.b.name,AL y.b.path,AE AF y.b.var,AE AF y.b.field,AE AF y.b.n]) (off:=0) (v:=AE AF y.op) rfl;have Un:(part 279 #[AE AF x.op,AL x.a.name,AL x.a.path,AE AF x.a.var,AE AF x.a.field,AE AF x.a.n,AL x.b.name,AL x.b.path,AE AF x.b.var,AE AF x.b.field,AE AF x.b.n] 1).run prog w=.ok (AP #[AL x.a.name,AL x.a.path,AE AF x.a.var,AE AF x.a.field,AE AF x.a.n]) w:=by
  have hz:prog.cellsOf 279=5:=AJ
  simp [part,isAgg,run_underlying (P:=prog) underlying279]
 have Uk:(part 279 #[AE AF y.op,AL y.a.name,AL y.a.path,AE AF y.a.var,AE AF y.a.field,AE AF y.a.n,AL y.b.name,AL y.b.path,AE AF y.b.var,AE AF y.b.field,AE AF y.b.n] 1).run prog w=.ok (AP #[AL y.a.name,AL y.a.path,AE AF y.a.var,AE AF y.a.field,AE AF y.a.n]) w:=by
  have hz:prog.cellsOf 279=5:=AJ
  simp [part,isAgg,run_underlying (P:=prog) underlying279]
 have Um:(part 279 #[AE AF x.op,AL x.a.name,AL x.a.path,AE AF x.a.var,AE AF x.a.field,AE AF x.a.n,AL x.b.name,AL x.b.path,AE AF x.b.var,AE AF x.b.field,AE AF x.b.n] 6).run prog w=.ok (AP #[AL x.b.name,AL x.b.path,AE AF x.b.var,AE AF x.b.field,AE AF x.b.n]) w:=by
  have hz:prog.cellsOf 279=5:=AJ
  simp [part,isAgg,run_underlying (P:=prog) underlying279]
 have Uj:(part 279 #[AE AF y.op,AL y.a.name,AL y.a.path,AE AF y.a.var,AE AF y.a.field,AE AF y.a.n,AL y.b.name,AL y.b.path,AE AF y.b.var,AE AF y.b.field,AE AF y.b.n] 6).run prog w=.ok (AP #[AL y.b.name,AL y.b.path,AE AF y.b.var,AE AF y.b.field,AE AF y.b.n]) w:=by
  have hz:prog.cellsOf 279=5:=AJ
  simp [part,isAgg,run_underlying (P:=prog) underlying279]
 simp [Op.eqFields,Uo,Ul,Un,Uk,Um,Uj,ei,aW d,Result.andThen_ok];obtain ⟨x0,x1,x2⟩:=x;obtain ⟨y0,y1,y2⟩:=y;simp only [IL.mk.injEq];by_cases e0:x0=y0
 case neg=>simp [e0]
 by_cases e1:x1=y1
 case neg=>simp [e0,e1]
 by_cases e2:x2=y2
 case neg=>simp [e0,e1,e2]
 simp [e0,e1,e2]
theorem AEP (x y:IL) (w:AH):(binOp .neq 281 (AP #[AE AF x.op,AL x.a.name,AL x.a.path,AE AF x.a.var,AE AF x.a.field,AE AF x.a.n,AL x.b.name,AL x.b.path,AE AF x.b.var,AE AF x.b.field,AE AF x.b.n]) (AP #[AE AF y.op,AL y.a.name,AL y.a.path,AE AF y.a.var,AE AF y.a.field,AE AF y.a.n,AL y.b.name,AL y.b.path,AE AF y.b.var,AE AF y.b.field,AE AF y.b.n])).run prog w=.ok (Ab (!decide (x=y))) w:=by rw [Q0 w,ACm 9997 x y w];rfl
theorem AEb (d:Nat) (x y:L0) (w:AH):(Op.equalIn (d+3) 284 (AP #[AL x.path,AE AF x.field,AL x.term.name,AL x.term.path,AE AF x.term.var,AE AF x.term.field,AE AF x.term.n]) (AP #[AL y.path,AE AF y.field,AL y.term.name,AL y.term.path,AE AF y.term.var,AE AF y.term.field,AE AF y.term.n])).run prog w=.ok (decide (x=y)) w:=by
 have hu:=underlying284;have hp:prog.stoodInHeld 284=false:=AJ
 have ht:prog.underlying 284=some (.struct (prog.fieldsOf 284)):=by rw [Program.fieldsOf,hu]
 have h1:prog.plainKey 9=true:=AJ
 have h2:prog.plainKey 3=true:=AJ
 rw [PT w (d+2) 284 _ _ ht hp,Program.fieldsOf,hu];have es:∀(a b:ByteArray),(Op.equalIn (d+2) 9 (AL a) (AL b)).run prog w=.ok (decide (a=b)) w:=fun a b=>by rw [PS w (d+1) 9 a b underlying9,DG]
 have ei:∀(a b:Int),(Op.equalIn (d+2) 3 (AE AF a) (AE AF b)).run prog w=.ok (decide (a=b)) w:=fun a b=>by rw [Lm w (d+1) 3 .i64 .i64 a b underlying3];rfl
 have Uo:=BZ (P:=prog) w h1 (xs:=#[AL x.path,AE AF x.field,AL x.term.name,AL x.term.path,AE AF x.term.var,AE AF x.term.field,AE AF x.term.n]) (off:=0) (v:=AL x.path) rfl;have Ul:=BZ (P:=prog) w h1 (xs:=#[AL y.path,AE AF y.field,AL y.term.name,AL y.term.path,AE AF y.term.var,AE AF y.term.field,AE AF y.term.n]) (off:=0) (v:=AL y.path) rfl;have Un:=BZ (P:=prog) w h2 (xs:=#[AL x.path,AE AF x.field,AL x.term.name,AL x.term.path,AE AF x.term.var,AE AF x.term.field,AE AF x.term.n]) (off:=1) (v:=AE AF x.field) rfl;have Uk:=BZ (P:=prog) w h2 (xs:=#[AL y.path,AE AF y.field,AL y.term.name,AL y.term.path,AE AF y.term.var,AE AF y.term.field,AE AF y.term.n]) (off:=1) (v:=AE AF y.field) rfl;have Um:(part 279 #[AL x.path,AE AF x.field,AL x.term.name,AL x.term.path,AE AF x.term.var,AE AF x.term.field,AE AF x.term.n] 2).run prog w=.ok (AP #[AL x.term.name,AL x.term.path,AE AF x.term.var,AE AF x.term.field,AE AF x.term.n]) w:=by
  have hz:prog.cellsOf 279=5:=AJ
  simp [part,isAgg,run_underlying (P:=prog) underlying279]
 have Uj:(part 279 #[AL y.path,AE AF y.field,AL y.term.name,AL y.term.path,AE AF y.term.var,AE AF y.term.field,AE AF y.term.n] 2).run prog w=.ok (AP #[AL y.term.name,AL y.term.path,AE AF y.term.var,AE AF y.term.field,AE AF y.term.n]) w:=by
  have hz:prog.cellsOf 279=5:=AJ
  simp [part,isAgg,run_underlying (P:=prog) underlying279]
 simp [Op.eqFields,Uo,Ul,Un,Uk,Um,Uj,es,ei,aW d,Result.andThen_ok];obtain ⟨x0,x1,x2⟩:=x;obtain ⟨y0,y1,y2⟩:=y;simp only [L0.mk.injEq];by_cases e0:x0=y0
 case neg=>simp [e0]
 by_cases e1:x1=y1
 case neg=>simp [e0,e1]
 by_cases e2:x2=y2
 case neg=>simp [e0,e1,e2]
 simp [e0,e1,e2]
theorem AE3 (x y:L0) (w:AH):(binOp .neq 284 (AP #[AL x.path,AE AF x.field,AL x.term.name,AL x.term.path,AE AF x.term.var,AE AF x.term.field,AE AF x.term.n]) (AP #[AL y.path,AE AF y.field,AL y.term.name,AL y.term.path,AE AF y.term.var,AE AF y.term.field,AE AF y.term.n])).run prog w=.ok (Ab (!decide (x=y))) w:=by rw [Q0 w,AEb 9997 x y w];rfl
theorem DY {w:AH} {t:Af} {cs:Array AN} {g:Nat} (h:w.heap.size=g):AZ (w.alloc (AO cs t)) g t cs:=by subst h;exact AZ.new _ _ _
theorem AFy (a b c d a' b' c' d':Int) (w:AH):(Op.equalIn 10000 110 (AP #[AE AF a,AE AF b,AE AF c,AE AF d]) (AP #[AE AF a',AE AF b',AE AF c',AE AF d'])).run prog w=.ok (decide (a=a') && decide (b=b') && decide (c=c') && decide (d=d')) w:=by
 obtain ⟨i0,hi⟩:=info_of_underlying (P:=prog) underlying3;have h:=run_equalIn_array (P:=prog) w 9999 #[AE AF a,AE AF b,AE AF c,AE AF d] #[AE AF a',AE AF b',AE AF c',AE AF d'] underlying110 hi;have h1:prog.cellsOf 3=1:=AJ
 rw [h1,show List.range 4=[0,1,2,3] from rfl] at h;have he:∀(x y:Int),(Op.equalIn 9999 3 (AE AF x) (AE AF y)).run prog w=.ok (decide (x=y)) w:=fun x y=>by rw [Lm (P:=prog) w 9998 3 .i64 .i64 x y underlying3];rfl
 have hp:prog.plainKey 3=true:=AJ
 have qa:=BZ (P:=prog) w hp (xs:=#[AE AF a,AE AF b,AE AF c,AE AF d]) (off:=0) (v:=AE AF a) rfl;have qb:=BZ (P:=prog) w hp (xs:=#[AE AF a,AE AF b,AE AF c,AE AF d]) (off:=1) (v:=AE AF b) rfl;have qc:=BZ (P:=prog) w hp (xs:=#[AE AF a,AE AF b,AE AF c,AE AF d]) (off:=2) (v:=AE AF c) rfl;have qd:=BZ (P:=prog) w hp (xs:=#[AE AF a,AE AF b,AE AF c,AE AF d]) (off:=3) (v:=AE AF d) rfl;have qa':=BZ (P:=prog) w hp (xs:=#[AE AF a',AE AF b',AE AF c',AE AF d']) (off:=0) (v:=AE AF a') rfl;have qb':=BZ (P:=prog) w hp (xs:=#[AE AF a',AE AF b',AE AF c',AE AF d']) (off:=1) (v:=AE AF b') rfl;have qc':=BZ (P:=prog) w hp (xs:=#[AE AF a',AE AF b',AE AF c',AE AF d']) (off:=2) (v:=AE AF c') rfl;have qd':=BZ (P:=prog) w hp (xs:=#[AE AF a',AE AF b',AE AF c',AE AF d']) (off:=3) (v:=AE AF d') rfl;simp only [Op.eqItems,Ck,Gs,qa,qb,qc,qd,qa',qb',qc',qd',Result.andThen_ok,he,Sem.run_ite,DC] at h;refine h.trans ?_;by_cases e0:a=a'
 case neg=>simp [e0]
 by_cases e1:b=b'
 case neg=>simp [e0,e1]
 by_cases e2:c=c'
 case neg=>simp [e0,e1,e2]
 by_cases e3:d=d'
 case neg=>simp [e0,e1,e2,e3]
 simp [e0,e1,e2,e3]
theorem td (a b c d a' b' c' d':Int) (w:AH):(binOp .eql 110 (AP #[AE AF a,AE AF b,AE AF c,AE AF d]) (AP #[AE AF a',AE AF b',AE AF c',AE AF d'])).run prog w=.ok (Ab (decide (a=a') && decide (b=b') && decide (c=c') && decide (d=d'))) w:=by rw [run_eql_struct w,AFy];rfl
end Go.Proofs.YtamhoilkpppdbaaGreatDoor
