import Derived.Test.YtpmpddfgifhlbaaGreatDoorMCpOw
import Derived.Test.YtpmpddfgifhlbaaGreatDoorMCpEx
namespace Go.Proofs.YtpmpddfgifhlbaaGreatDoor
set_option maxHeartbeats 8000000
set_option maxRecDepth 100000
open Go renaming World→AH, Value→AK, Addr→Aa
open Go.Proofs.Tryz
open Go.Value renaming slice→AA, int→AB, pointer→AU, agg→AO
open Go.IntKind renaming i64→AE
open Go.RowKit Go.Shelf
attribute [local go_sem] Oper.semAt_some
def MkS (ns:List Nat) (ck:Int) (val:Int->Int->Int->Bool) (seed:AP) (r:CS) (place:Int) (holder:AP) (links:List (AP)) (xs:Int) (vs:AP) (q:Ge) (E:Int):Prop:=
 (E=0->FV ck (Bt ns r.schema) (val r.schema) r place links xs vs=true/\q=Ij Aq seed ((Bt ns r.schema).getD 0) r place holder links vs)/\q.holder.length=32/\∀d∈q.links,d.length=32
theorem ABW (v0 v1 v3 v4 v5 v6:AK) (A:Option Aa) (n c:Nat) (ns:List Nat) (ck:Int) (val:Int->Int->Int->Bool) (seed:AP) (r:CS) (place pe it xs xp xi:Int) (holder:AP) (links:List (AP)) (vs:AP) (VA LA:Option Aa) (vn vc ln lc:Nat) (w W0:AH) (hb:AJ w W0) (hs:Ag 6 LG w (AA A n c) ns)
 (hK:Qm (AO #[v0,v1,AA A n c,v3,v4,v5]) (AO #[v0,v1,AA A n c,v3,v4,v5,v6]) ck val w) (hv:Ag 1 CF W0 (AA VA vn vc) vs) (hl:Ag 32 CQ W0 (AA LA ln lc) links) (hsd:seed.length=32) (hh:holder.length=32) (hro:r.root.length=32) (MJ:Cc w):
 ∃q E,MkS ns ck val seed r place holder links xs vs q E/\∀W,AJ W0 W->Calls prog 7 #[AO #[v0,v1,AA A n c,v3,v4,v5,v6],AO (yA seed),AO (rdA r),AB AE place,AO (Qc pe it holder (AA LA ln lc)),AO #[AB AE xs,AB AE xp,AB AE xi,AA VA vn vc]] W (IK W q E):=by
 have h:=fun W (hW:AJ W0 W)=>aJ v0 v1 v3 v4 v5 v6 A n c ns ck val seed r place pe it xs xp xi holder links vs VA LA vn vc ln lc W (hs.mono FI (AW hb hW)) (hK.below (AW hb hW)) (hv.mono BU hW) (hl.mono BL hW) hsd hh hro (MJ.below (AW hb hW));by_cases hm:FV ck (Bt ns r.schema) (val r.schema) r place links xs vs=true
 ·simp only [Am hm] at h
  exact ⟨_,0,⟨fun _=>⟨hm,rfl⟩,hh,hl.AKN⟩,h⟩
 simp only [Ah hm] at h;exact ⟨_,_,⟨(fun e=>absurd e (by unfold dJ;split <;> decide)),rfl,(fun d hd=>by cases hd)⟩,h⟩
def Eo (w0:AH) (M:Nat) (W:AH):Prop:=
 AJ w0 W/\∃cs l,W.ownsRow w0.heap.size 34 32 (AA (some ⟨w0.heap.size,0,none⟩) M M) M cs/\Ao 32 gy W cs l/\l.length=M
theorem Eo.below {w0 W W':AH} {M:Nat} (h:Eo w0 M W) (hb:AJ W W'):Eo w0 M W':=by obtain ⟨h1,cs,l,ho,hc,hl⟩:=h;exact ⟨AW h1 hb,cs,l,Nz ho (fun g _ hg=>hb.block g hg),⟨hc.1,hc.2⟩,hl⟩
theorem Eo.put {w0 W:AH} {M k:Nat} {d:AP} (h:Eo w0 M W) (hk:k < M) (hd:d.length=32/\∀x∈d,0<=x/\x < 256):Eo w0 M (W.setCells w0.heap.size (k*32) (yA d).toList):=by obtain ⟨h1,cs,l,ho,hc,hl⟩:=h;obtain ⟨cs',ho2,hc2⟩:=AC7 (R:=gy) (x:=d) (vs:=(yA d).toList) (k:=k) Iz ho hc hl.symm hk (by show (d.map (Value.int .u8)).length=32;rw [CX,hd.1]) ⟨⟨rfl,hd.1⟩,hd.2⟩;exact ⟨below_setCells _ _ _ _ h1 (Ad _),cs',_,ho2,hc2,by rw [D8];exact hl⟩
theorem Eo.room {w0 W:AH} {M k:Nat} (h:Eo w0 M W) (hk:k < M):W.there w0.heap.size (k*32) 32:=by obtain ⟨_,cs,l,ho,_⟩:=h;obtain ⟨_,cur,hcur⟩:=AC8 ho;exact MV hcur (AC6 ho hcur hk)
theorem Eo.slR {w0 W:AH} {M:Nat} (h:Eo w0 M W):∃l,Ag 32 gy W (AA (some ⟨w0.heap.size,0,none⟩) M M) l:=by obtain ⟨_,cs,l,ho,hc,hl⟩:=h;exact ⟨l,CP ho hc hl.symm⟩
theorem ABY (n:Nat):(madeCells (yA (zeros 32)) (n*32)).toList=List.replicate (n*32) (AB .u8 0):=by
 rw [show yA (zeros 32)=Array.replicate 32 (Value.int .u8 0) by kernel_rfl];apply Ms;intro j;by_cases hj:j < n*32
 ·have hm:j % 32 < 32:=Nat.mod_lt _ BE
  simp only [madeCells];simp [hj,hm]
 simp only [madeCells];simp [hj]
theorem Eo.new {w W:AH} {M:Nat} (ho:W.ownsRow w.heap.size 34 32 (AA (some ⟨w.heap.size,0,none⟩) M M) M (madeCells (Value.agg (yA (zeros 32))).cells (M*32)).toList) (hg:w.grownBy W none):Eo w M W:=by
 refine ⟨⟨hg.os,hg.tape,hg.output,hg.size,fun i hi=>hg.block i hi Ac⟩,_,List.replicate M (zeros 32),ho,?_,by simp⟩;rw [show (Value.agg (yA (zeros 32))).cells=yA (zeros 32) from rfl,ABY];refine ⟨by simp,fun i x hi=> ?_⟩;obtain ⟨hl,rfl⟩:=BA.1 hi;rw [List.length_replicate] at hl;have h1:i*32+32<=M*32:=AG
 rw [List.getElem_replicate,List.drop_replicate,List.take_replicate,Kr AG];exact ⟨⟨by simp [zeros],rfl⟩,fun y hy=>by rw [zeros,List.mem_replicate] at hy;rw [hy.2];decide⟩
theorem jH {W:AH} {A:Option Aa} {n c k:Nat} {l:List Cd} (h:Ag 3 Dc W (AA A n c) l) (hk:k < n):
 ∃b off q B m d C i j,A=some ⟨b,off,none⟩/\l[k]? =some q/\Ag 32 CQ W (AA B m d) q.chains/\Ag 32 CQ W (AA C i j) q.path/\∀W',AJ W W'->(Instr.loadAt 62 (AU (some ⟨b,off+k*3,none⟩))).run prog W'=.ok (AO #[AB AE q.index,AA B m d,AA C i j]) W':=by
 obtain ⟨lb,lo,q,B1,m1,d1,C1,m2,d2,rfl,hlb,hq,hs1,hs2,hcell⟩:=P2 h hk;refine ⟨lb,lo,q,B1,m1,d1,C1,m2,d2,rfl,hq,hs1,hs2,fun W' hW=> ?_⟩;have hr:W'.rangeAt lb (lo+k*3) [AB AE q.index,AA B1 m1 d1,AA C1 m2 d2]:=fun j v hj=>(hW.cell (p:=⟨lb,lo+k*3+j,none⟩) hlb).trans (hcell j v hj);simp only [Instr.loadAt,Instr.sureAddr,Cs,DL,Result.andThen_ok,RV W' lb (lo+k*3) 62 _ _ hr underlying62 rfl AL]
theorem ACh {W:AH} {g:Nat} {t:TypeId} {s:Iq} (h:AZ W g t (Et s)):W.rangeAt g 4 (s.holder.map (Value.int .u8)):=fun j v hj=>by have hl:=(BA.1 hj).1;rw [h.cell,Et,Ai,SB,Fh,Fh,Fh,Cf Ac];rw [show 4+j - [Value.int .i64 s.Au,Value.int .i64 s.round,Value.int .i64 s.schema,Value.int .i64 s.place].length=j by simp,EF hl];exact hj
theorem Nc {W:AH} {g o:Nat} {x:Int} (h:W.cell? ⟨g,o,none⟩=some (AB AE x)):(Instr.loadAt 3 (AU (some ⟨g,o,none⟩))).run prog W=.ok (AB AE x) W:=by go_simp
theorem gR {W:AH} {g o:Nat} {a:Option Aa} {b c:Nat} (h:W.cell? ⟨g,o,none⟩=some (AA a b c)):(Instr.loadAt 30 (AU (some ⟨g,o,none⟩))).run prog W=.ok (AA a b c) W:=by go_simp
theorem AG2 {W:AH} {g o:Nat} {a:Option Aa} {b c:Nat} (h:W.cell? ⟨g,o,none⟩=some (AA a b c)):(Instr.loadAt 37 (AU (some ⟨g,o,none⟩))).run prog W=.ok (AA a b c) W:=by go_simp
theorem gQ {W:AH} {g o:Nat} {a:Option Aa} {b c:Nat} (h:W.cell? ⟨g,o,none⟩=some (AA a b c)):(Instr.loadAt 42 (AU (some ⟨g,o,none⟩))).run prog W=.ok (AA a b c) W:=by go_simp
section
variable {P:Program} {md:Region.Mode} {ops:Array Oper} {Q:Exit->Act->AH->Prop} {S:AH->Prop} {fuel:Nat} {listed:Array Bool} {l:List AK} {D:List Deferred} {w:AH}
theorem qL (i d:Nat) (hS:S w) {oi:Oper} {v p:AK} {x:Operand} {t:TypeId} (hF:∀W,S W->(Instr.loadAt t p).run P W=.ok v W) (h:wpAnyH P md ops Q S fuel (listed.setIfInBounds i true) ⟨(l.set d v).toArray,D⟩ w)
 (hB:Qy md ops listed i=true:=by kernel_rfl) (hi:ops[i]? =some oi:=by rfl) (hd:oi.dst=some d:=by rfl) (hQ:∀c (a:Act) v w,Q (.panic c) (a.put (some d) v) w->Q (.panic c) a w:=by first | exact Ro | exact Vl rfl BE | exact fun _ _ _ _ h=>h | exact Oc)
 (hw:Region.wanted oi (yielded ops l.toArray)=true:=by kernel_rfl) (ho:oi.op=.load t x:=by rfl) (he:Act.eval ⟨l.toArray,D⟩ x=p:=by kernel_rfl):
 wpAnyH P md ops Q S (fuel+1) listed ⟨l.toArray,D⟩ w:=qT i d hS h hB hi hd hQ hw fun W hW=>Ch ho he (hF W hW)
theorem qV (i d t:Nat) (v:AK) (hS:S w) {oi:Oper} (h:wpAnyH P md ops Q S fuel (listed.setIfInBounds i true) ⟨(l.set d v).toArray,D⟩ w)
 (hv:l[t]? =some v:=by kernel_rfl) (hB:Qy md ops listed i=true:=by kernel_rfl) (hi:ops[i]? =some oi:=by rfl) (hd:oi.dst=some d:=by rfl) (hQ:∀c (a:Act) v w,Q (.panic c) (a.put (some d) v) w->Q (.panic c) a w:=by first | exact Ro | exact Vl rfl BE | exact fun _ _ _ _ h=>h | exact Oc)
 (hw:Region.wanted oi (yielded ops l.toArray)=true:=by kernel_rfl) (ho:oi.op=.move (.tmp t)\/oi.op=.assign (.tmp t):=by first | exact .inl rfl | exact .inr rfl):
 wpAnyH P md ops Q S (fuel+1) listed ⟨l.toArray,D⟩ w:=qM i d t hS h hv hB hi hd hQ hw ho
end
end Go.Proofs.YtpmpddfgifhlbaaGreatDoor
