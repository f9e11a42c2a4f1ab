import Derived.Test.YtpmpddfgifhlbaaGreatDoorM18
namespace Go.Proofs.YtpmpddfgifhlbaaGreatDoor
set_option maxHeartbeats 8000000
set_option maxRecDepth 100000
open Go renaming World→AH, Value→AK, TypeId→Ae
open Go.Value renaming slice→AA
open Go.RowKit Go.Shelf
attribute [local go_sem] Oper.semAt_some
theorem Ao.AI5 {α:Type} {sz:Nat} {R:AH->List AK->α->Prop} {w:AH} {cs:List AK} {l:List α} (h:Ao sz R w cs l) (k:Nat) (hk:k<=l.length):Ao sz R w (cs.take (k*sz)) (l.take k):=by
 have hle:k*sz<=cs.length:=by rw [h.1];exact Jr _ hk
 refine ⟨by rw [DR,DR,Kr hle,Kr hk],fun i x hi=> ?_⟩;have hil:i < k:=by have:=(BA.1 hi).1;rw [DR] at this;omega
 rw [JN hil] at hi;have h1:i*sz+sz<=k*sz:=by rw [<-Jm];exact Jr _ hil
 rw [List.drop_take,List.take_take,Kr AG];exact h.2 i x hi
theorem Ao.AJQ {α:Type} {sz:Nat} {R:AH->List AK->α->Prop} {w:AH} {cs:List AK} {l:List α} (h:Ao sz R w cs l) (k:Nat):Ao sz R w (cs.drop (k*sz)) (l.drop k):=by refine ⟨by rw [Hq,Hq,h.1,Nat.sub_mul],fun i x hi=> ?_⟩;rw [EC] at hi;rw [List.drop_drop,<-Nat.add_mul];exact h.2 _ x hi
theorem Ao.AJY {α:Type} {sz:Nat} {R:AH->List AK->α->Prop} {w:AH} {cs vs:List AK} {l:List α} (h:Ao sz R w cs l) {k:Nat} (hk:k < l.length) {x:α} (hv:vs.length=sz) (hx:R w vs x):Ao sz R w (cs.take (k*sz)++vs++cs.drop (k*sz+sz)) (l.set k x):=by rw [List.set_eq_take_append_cons_drop,Am hk,<-Jm,show l.take k++x::l.drop (k+1)=l.take k++[x]++l.drop (k+1) by simp];exact ((h.AI5 k (Nat.le_of_lt hk)).append (Ao.one hv hx)).append (h.AJQ (k+1))
theorem cy {base:Nat} {e:Ae} {sz g n cap:Nat}:∀(vs:List AK) (o:Nat) (w:AH) (cs:List AK),w.ownsRow base e sz (AA (some ⟨g,0,none⟩) n cap) n cs->o+vs.length<=cs.length->(w.setCells g o vs).ownsRow base e sz (AA (some ⟨g,0,none⟩) n cap) n (cs.take o++vs++cs.drop (o+vs.length))
 | [],o,w,cs,h,_=>by simpa [World.setCells] using h
 |
  u::r,o,w,cs,h,hl=>by
  simp only [Fl] at hl;have h2:=cy r (o+1) _ _ (h.stored o u).1 (by rw [D8];omega);rw [World.setCells];have e1:(cs.set o u).take (o+1)=cs.take o++[u]:=by
   have hlt:o < cs.length:=AG
   rw [List.set_eq_take_append_cons_drop,Am hlt,List.take_append,Cy QS,DR,Kr AG,show o+1 - o=1 by omega];rfl
  have e2:(cs.set o u).drop (o+1+r.length)=cs.drop (o+1+r.length):=by rw [List.drop_set_of_lt AG]
  rw [e1,e2] at h2;rw [Fl,show o+(r.length+1)=o+1+r.length by omega,show cs.take o++u::r=cs.take o++[u]++r by simp];exact h2
theorem AC7 {α:Type} {R:AH->List AK->α->Prop} (hR:∀w w' cs x,R w cs x->R w' cs x) {base:Nat} {e:Ae} {sz g n cap:Nat} {w:AH} {cs vs:List AK} {l:List α} {x:α} {k:Nat} (h:w.ownsRow base e sz (AA (some ⟨g,0,none⟩) n cap) n cs) (hc:Ao sz R w cs l) (hn:n=l.length) (hk:k < n) (hv:vs.length=sz) (hx:R w vs x):
 ∃cs',(w.setCells g (k*sz) vs).ownsRow base e sz (AA (some ⟨g,0,none⟩) n cap) n cs'/\Ao sz R (w.setCells g (k*sz) vs) cs' (l.set k x):=by
 have hle:k*sz+sz<=cs.length:=by rw [hc.1,<-Jm,<-hn];exact Jr _ hk
 have h1:=cy vs (k*sz) w cs h AG;have h2:=hc.AJY (hn ▸ hk) hv hx;rw [hv] at h1;exact ⟨_,h1,h2.1,fun i y hi=>hR _ _ _ _ (h2.2 i y hi)⟩
theorem AC8 {w:AH} {base:Nat} {e:Ae} {sz g n cap:Nat} {cs:List AK} (h:w.ownsRow base e sz (AA (some ⟨g,0,none⟩) n cap) n cs):base<=g/\∃cur,AZ w g e cur:=by
 rcases h.2 with ⟨h',_⟩ | ⟨g',cap',cur,h',hb,hg,_⟩
 · cases h'
 injection h' with h';injection h' with h';injection h' with h';subst h';exact ⟨hb,cur,hg⟩
theorem AC6 {w:AH} {base:Nat} {e:Ae} {sz g n cap k:Nat} {cs:List AK} {cur:Array AK} (h:w.ownsRow base e sz (AA (some ⟨g,0,none⟩) n cap) n cs) (hb:AZ w g e cur) (hk:k < n):k*sz+sz<=cur.size:=by
 rcases h.2 with ⟨h',_⟩ | ⟨g',cap',cur',h',_,hg,hnc,_,hsz,_⟩
 · cases h'
 injection h' with h1 h2 h3;injection h1 with h1;injection h1 with h1;subst h1;obtain rfl:cur=cur':=by have e:=hb.symm.trans hg;injection e with e;injection e
 rw [hsz,<-Jm];exact Jr _ AG
end Go.Proofs.YtpmpddfgifhlbaaGreatDoor
