import Derived.Test.YtpmpddfgifhlbaaGreatDoorM13
namespace Go.Proofs.YtpmpddfgifhlbaaGreatDoor
set_option maxHeartbeats 8000000
set_option maxRecDepth 100000
structure AFj (RO:AP) (m:Int) (x:Nat) (schema:Int) (s:Fw):Prop where
 vals:s.values.length=s.fields.length
 many:s.claims.length=s.fields.length+(if s.link= -1 then 1 else 2)
 link: -1<=s.link/\s.link < 4
 rng:∀f∈s.fields,0<=f/\f < x
 field:∀(j:Nat) (f:Int) (c:Cd),s.fields[j]? =some f->s.claims[j]? =some c->C7 Aq RO m (msgP Aq schema f (s.values.getD j 0) s.holder) c=true
 AI6:∀c,0<=s.link->s.claims[s.fields.length]? =some c->C7 Aq RO m (Ko Aq schema s.link s.token s.holder) c=true
 last:∀c,s.claims[s.claims.length - 1]? =some c->C7 Aq RO m (msgP Aq schema (-1) 0 s.holder) c=true
theorem AFx {ck:Int} {nf:Option Nat} {val:Int->Int->Bool} {r:CS} {s:Fw} {x:Nat} (hn:nf=some x) (h:DC Aq ck nf val r s=0):AFj r.root (r.places*((x:Int)+4+1)) x r.schema s:=by
 subst hn;obtain ⟨_,h1,h2⟩:=Um h;rw [EM] at h1;obtain ⟨⟨⟨⟨⟨⟨_,_,hsc⟩,_⟩,hi,hv⟩,_⟩,hl,_⟩,hc⟩:=h1;rw [Ce] at hi h2;refine ⟨hv,hc,hl,fun f hf=>by have:=P4 hi f hf;omega,fun j f c hf hc=> ?_,fun c h0 hcl=> ?_,fun c hcl=> ?_⟩
 ·rw [<-hsc]
  have h:=h2 j _ c (Va (H:=Aq) (n:=x) hv hf) hc;have h3:=h.2
  dsimp only at h3
  with_reducible exact h3
 ·rw [<-hsc]
  have h:=h2 _ _ c (ABH (H:=Aq) (n:=x) hv h0) hcl;have h3:=h.2
  dsimp only at h3
  with_reducible exact h3
 have e:s.claims.length - 1=s.fields.length+(if 0<=s.link then 1 else 0):=by rw [hc];split <;> split <;> omega
 rw [e] at hcl;rw [<-hsc];have h:=h2 _ _ c (ABJ (H:=Aq) (n:=x) hv) hcl;have h3:=h.2
 dsimp only at h3
 with_reducible exact h3
end Go.Proofs.YtpmpddfgifhlbaaGreatDoor
