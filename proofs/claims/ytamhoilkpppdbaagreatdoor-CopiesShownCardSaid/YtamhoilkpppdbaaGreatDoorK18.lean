import Derived.Test.YtamhoilkpppdbaaGreatDoorRows
import Derived.Test.YtamhoilkpppdbaaGreatDoorK05
import Derived.Test.YtamhoilkpppdbaaGreatDoorK14
namespace Go.Proofs.YtamhoilkpppdbaaGreatDoor
set_option maxHeartbeats 8000000
set_option maxRecDepth 100000
open Go renaming World→AH, Value→AN, TypeId→Af, Program→BA
open Go.Proofs.Tryz
open Go.Value renaming slice→AB, int→AE
open Go.IntKind renaming i64→AF
open Go.ChangeShapes Go.WideShapes Go.ChangeAt Go.RowKit Go.Deep
section
variable {H:Type} {enc:Af×AN->H} {P:BA} {w:AH} {base:Nat} {hd:Bool}
theorem Sv (b off k:Nat):(Addr.mk b off none).add k=⟨b,off+k,none⟩:=by
 unfold Addr.add;split
 · subst_vars;rfl
 · rfl
theorem AA4 {α:Type} {sz:Nat} {R:AH->List AN->α->Prop} {t e:Af} {fuel:Nat} {v:AN} {x:DataW H×List MemPlace} (ht:P.underlying t=some (.slice e)) (hC:P.cellsOf e=sz) (hz:0 < sz)
 (h:DataW.trod enc P w base (fun _=>true) hd fuel t [v]=some x)
 (hR:∀(n:Nat) (cs:List AN) (y:DataW H×List MemPlace),cs.length=sz->DataW.trod enc P w base (fun _=>true) hd n e cs=some y->∃a,R w cs a):
 ∃A n c l,v=AB A n c/\Ag sz R w (AB A n c) l:=by
 rcases open_slice ht h with ⟨hcs,_⟩ | ⟨a,len,cap,m,n,D,Pl,hcs,hb,hl,hm,hmm,hx,hi⟩
 ·injection hcs with hcs
  exact ⟨none,0,0,[],hcs,Ag.nil _ _ (Av _)⟩
 injection hcs with hcs;have hmc:m=cap:=by rw [hmm];simp
 subst hmc;rw [hC] at hi;have hex:∀i,i < len->∃(x:α) (cs:List AN),w.cells? base (a.add (i*sz)) sz=some cs/\R w cs x:=by intro i hlt;obtain ⟨cs,h1,h2⟩:=hi i AG;obtain ⟨y,hy⟩:=hR _ cs _ (RG h1).2.1 h2;exact ⟨y,cs,h1,hy⟩
 refine ⟨some a,len,m,List.ofFn (fun i:Fin len=>Classical.choose (hex i.1 i.2)),hcs,some a,m,by simp,by simpa using hl,hm,fun i x hix=> ?_⟩;rw [List.getElem?_ofFn] at hix;split at hix
 ·rename_i hlt
  injection hix with hix;obtain ⟨cs,h1,h2⟩:=Classical.choose_spec (hex i hlt);rw [hix] at h2;have hsp:a.spot=none:=by obtain ⟨_,cs0,h3,_⟩:=hex 0 AG;obtain ⟨_,k1,k2⟩:=RG h3;have k3:=k2 0 hz;rw [BJ AG] at k3;have:=World.cell?_spot k3;simpa [Addr.add] using this
  obtain ⟨b,off,spot⟩:=a;subst hsp;obtain ⟨_,k1,k2⟩:=RG h1;have hcell:∀j u,cs[j]? =some u->w.cell? ⟨b,off+(i*sz+j),none⟩=some u:=by
   intro j u hu;have hj:j < sz:=by have:=(BD.1 hu).1;omega
   have:=k2 j hj;rw [Sv,Sv,hu] at this;rw [<-this,Km]
  exact xv
 · exact absurd hix AX
theorem AAA {fuel:Nat} {v:AN} {x:DataW H×List MemPlace} (h:DataW.trod enc prog w base (fun _=>true) hd fuel 30 [v]=some x):
 ∃A n c l,v=AB A n c/\Ag 1 CK w (AB A n c) l:=
 AA4 underlying30 AJ AG h fun n cs y hl hy=>by obtain ⟨k,rfl,_,hk⟩:=DataW.trod_int underlying3 hy;exact ⟨k,rfl,by simpa [Lit.wf,IntKind.min,IntKind.max,IntKind.signed,IntKind.bits] using hk⟩
theorem ACz {b0:Nat} {v:AN} {d:DataW H} {ps:List MemPlace} (hv:Value.okWide prog w .any b0 30 v) (h:DataW.Trod enc prog w base (fun _=>true) hd 30 v d ps):
 ∃A n c l,v=AB A n c/\Ag 1 CK w (AB A n c) l:=by
 obtain ⟨A,n,c,rfl⟩:=okWide_slice underlying30 hv;obtain ⟨fuel,hf⟩:=h;exact AAA hf
theorem V7 (hl:laidOutB P=true) {W W':AH} {sp:Nat->Bool} (hb:AK W W'):∀{ts:List Af} {vs:List AN} {ds:List (DataW H)} {ps:List MemPlace},
 ts.all (fun t=>P.readableRec t && decide (t < P.types.size))=true->DataW.TrodAll enc P W 0 (fun _=>true) true ts vs ds ps->(∀x∈ps,x.block < W.heap.size)->(∀x∈ps,sp x.block=true)->
 DataW.TrodAll enc P W' 0 sp true ts vs ds ps
 |
  [],_,_,_,_,h,_,_=>by
  obtain ⟨rfl,rfl,rfl⟩:=trodAll_nil h;exact trodAll_mk0
 |
  t::ts,_,_,_,ht,h,hlt,hsp=>by
  obtain ⟨v,vs,d,ds,p,q,rfl,rfl,rfl,h1,h2⟩:=trodAll_cons h;simp only [N3,Bj,B8] at ht;exact trodAll_cons_mk (WideElems.Trod_stays hl ht.1.1 ht.1.2 h1 (fun x hx=>hb.same (hlt x (RJ _ hx))) (fun x hx=>hsp x (RJ _ hx)))
   (V7 hl hb ht.2 h2 (fun x hx=>hlt x (List.mem_append_right _ hx)) (fun x hx=>hsp x (List.mem_append_right _ hx)))
theorem ABf (hl:laidOutB P=true) {f:Func} {s:ChangeSpec} {tb:Af} {apart fresh handsOn:Bool} {W W':AH} {args:Array AN} {ds gs:List (DataW H)} {before:List MemPlace}
 (hW:DataW.Whole enc P f.params.toList s.vars apart W args.toList ds gs before) (hsv:s.vars=[]) (hr:f.resultTypes=#[tb]) (htb:P.underlying tb=some .bool)
 (hts:f.params.toList.all (fun t=>P.readableRec t && decide (t < P.types.size))=true)
 (hres:(s.fn H (ds++gs)).results=[.lit (.bool true)]) (hargs:(s.fn H (ds++gs)).args=ds) (hvars:(s.fn H (ds++gs)).vars=[])
 (hb:AK W W'):s.post enc P f apart fresh handsOn false W args (.bool true) W':=by
 have hlt:∀x∈before,x.block < W.heap.size:=fun x hx=>hW.lt x hx;have hW':=hW;obtain ⟨p,q,hA,hV,rfl,hfz,hnd⟩:=hW;rw [hsv] at hV;obtain ⟨rfl,rfl⟩:=trodVars_none hV;refine ⟨ds,[],p++[],[],p,[],hW',?_,?_,?_,World.keptBut_mono (fun x hx=>⟨hx,?_⟩) (hb.frame (· ∈p++[])),fun h=> ?_⟩
 ·rw [hres,hr]
  exact trodAll_mk1 (shut_bool htb true)
 ·rw [hargs]
  exact V7 hl hb hts hA (fun x hx=>hlt x (RJ _ hx)) (fun x hx=>by simpa using hlt x (RJ _ hx))
 ·rw [hvars,hsv]
  exact rfl
 · exact Or.inr (Or.inl (by simpa using hx))
 · cases h
end
section
variable {H:Type} {enc:Af×AN->H} {P:BA} {w:AH} {base:Nat} {hd:Bool}
def Qj (P:BA) (t:Af) (d:DataW H):Prop:=∀n∈d.weights P t,n<=reachBytes
theorem Ur {e:Af}:∀{l:List (DataW H)} {d:DataW H},d∈l->∀n∈d.weights P e,n∈DataW.weightsAll P e l
 |
  x::r,d,hm,n,hn=>by
  simp only [DataW.weightsAll,Ll];rcases CJ.1 hm with rfl | hm
  · exact .inl hn
  · exact .inr (Ur hm n hn)
 | [],_,hm,_,_=>by cases hm
theorem AA5 {α:Type} {sz bytes:Nat} {R:AH->List AN->α->Prop} {t e:Af} {fuel:Nat} {v:AN} {x:DataW H×List MemPlace} (ht:P.underlying t=some (.slice e)) (hC:P.cellsOf e=sz) (hz:0 < sz) (hby:P.bytesOf e=bytes)
 (h:DataW.trod enc P w base (fun _=>true) hd fuel t [v]=some x) (hw:Qj P t x.1)
 (hR:∀(n:Nat) (cs:List AN) (y:DataW H×List MemPlace),cs.length=sz->DataW.trod enc P w base (fun _=>true) hd n e cs=some y->Qj P e y.1->∃a,R w cs a):
 ∃A n c l,v=AB A n c/\BT sz bytes R w (AB A n c) l:=by
 rcases open_slice ht h with ⟨hcs,_⟩ | ⟨a,len,cap,m,n,D,Pl,hcs,hb,hl,hm,hmm,hx,hi⟩
 ·injection hcs with hcs
  exact ⟨none,0,0,[],hcs,Ag.nil _ _ (Av _),by simp⟩
 injection hcs with hcs;have hmc:m=cap:=by rw [hmm];simp
 subst hmc;rw [hC] at hi;subst hx;have hwt:∀n∈(DataW.slice ((List.range len).map D) ((List.range (m - len)).map fun j=>D (len+j))).weights P t,n<=reachBytes:=hw;simp only [DataW.weights,ht] at hwt;have hbound:len*bytes<=140737488355328:=by
  have h1:=hwt _ N7;simp only [Cb,YN,hby] at h1;have h2:len*bytes<=(len+(m - len))*bytes:=Mv _ AG;have h3:reachBytes<=140737488355328:=Ah
  omega
 have hex:∀i,i < len->∃(x:α) (cs:List AN),w.cells? base (a.add (i*sz)) sz=some cs/\R w cs x:=by intro i hlt;obtain ⟨cs,h1,h2⟩:=hi i AG;obtain ⟨y,hy⟩:=hR _ cs _ (RG h1).2.1 h2 (fun n hn=>hwt n (Mu _ (RJ _ (Ur (Dd.2 ⟨i,Ed.2 hlt,rfl⟩) n hn))));exact ⟨y,cs,h1,hy⟩
 refine ⟨some a,len,m,List.ofFn (fun i:Fin len=>Classical.choose (hex i.1 i.2)),hcs,⟨some a,m,by simp,by simpa using hl,hm,fun i x hix=> ?_⟩,by simpa using hbound⟩;rw [List.getElem?_ofFn] at hix;split at hix
 ·rename_i hlt
  injection hix with hix;obtain ⟨cs,h1,h2⟩:=Classical.choose_spec (hex i hlt);rw [hix] at h2;have hsp:a.spot=none:=by obtain ⟨_,cs0,h3,_⟩:=hex 0 AG;obtain ⟨_,k1,k2⟩:=RG h3;have k3:=k2 0 hz;rw [BJ AG] at k3;have:=World.cell?_spot k3;simpa [Addr.add] using this
  obtain ⟨b,off,spot⟩:=a;subst hsp;obtain ⟨_,k1,k2⟩:=RG h1;have hcell:∀j u,cs[j]? =some u->w.cell? ⟨b,off+(i*sz+j),none⟩=some u:=by
   intro j u hu;have hj:j < sz:=by have:=(BD.1 hu).1;omega
   have:=k2 j hj;rw [Sv,Sv,hu] at this;rw [<-this,Km]
  exact xv
 · exact absurd hix AX
theorem uO {t:Af} {fs:Array Field} {fuel k:Nat} {cs:List AN} {x:DataW H×List MemPlace} {sp:Nat->Bool} (ht:P.underlying t=some (.struct fs)) (ks:List Nat) (hks:fs.toList.map (fun f=>P.cellsOf f.type)=ks) (hC:P.cellsOf t=k)
 (h:DataW.trod enc P w base sp hd fuel t cs=some x) (hw:Qj P t x.1):
 cs.length=k/\∃n,∀(i:Nat) (f:Field) (c:Nat),fs[i]? =some f->ks[i]? =some c->∃y,DataW.trod enc P w base sp hd n f.type ((cs.drop f.offset).take c)=some y/\Qj P f.type y.1:=by
 obtain ⟨xs,n,_,hx,hl,hxl,hf⟩:=DataW.trod_struct ht h;refine ⟨hl.trans hC,n,fun i f c hi hc=> ?_⟩;have hcc:c=P.cellsOf f.type:=by
  rw [<-hks,Bb] at hc;have h2:fs.toList[i]? =some f:=by simpa using hi
  rw [h2,Cl,Bu] at hc;exact hc.symm
 subst hcc;have hlt:i < fs.size:=(C6.1 hi).1;have h1:=hf i f hi;rw [BJ AG] at h1;refine ⟨_,h1,fun m hm=>hw m ?_⟩;subst hx;show m∈(DataW.agg (xs.map (·.1))).weights P t;simp only [DataW.weights,ht];exact DataW.weights_mem_each (j:=i) (t:=f.type) (d:=(xs[i]' AG).1) (by rw [Bb];simp [hi]) (by rw [Bb,BJ AG];rfl) m hm
theorem Ag.split {α:Type} {sz:Nat} {R:AH->List AN->α->Prop} {Q:α->Prop} {w:AH} {v:AN} {l:List α} (h:Ag sz (fun w cs x=>R w cs x/\Q x) w v l):Ag sz R w v l/\∀x∈l,Q x:=by
 obtain ⟨A,cap,e,h1,h2,h3⟩:=h;refine ⟨⟨A,cap,e,h1,h2,fun i y hi=> ?_⟩,fun x hx=> ?_⟩
 ·obtain ⟨b,off,cs,e1,e2,e3,e4,e5,_⟩:=h3 i y hi
  exact ⟨b,off,cs,e1,e2,e3,e4,e5⟩
 obtain ⟨i,hi⟩:=dq hx;obtain ⟨b,off,cs,e1,e2,e3,e4,_,e5⟩:=h3 i x hi;exact e5
theorem BT.split {α:Type} {sz FD:Nat} {R:AH->List AN->α->Prop} {Q:α->Prop} {w:AH} {v:AN} {l:List α} (h:BT sz FD (fun w cs x=>R w cs x/\Q x) w v l):BT sz FD R w v l/\∀x∈l,Q x:=
 ⟨⟨h.1.split.1,h.2⟩,h.1.split.2⟩
def Rd (enc:Af×AN->H) (w:AH) (base:Nat) (hd:Bool) (t:Af) (cs:List AN):Prop:=∃n y,DataW.trod enc prog w base (fun _=>true) hd n t cs=some y/\Qj prog t y.1
theorem EV {t:Af} {fs:Array Field} {k:Nat} {cs:List AN} (ks:List Nat) (ht:prog.underlying t=some (.struct fs)) (h:Rd enc w base hd t cs) (hks:fs.toList.map (fun f=>prog.cellsOf f.type)=ks:=by kernel_rfl) (hC:prog.cellsOf t=k:=by kernel_rfl):
 cs.length=k/\∀(i:Nat) (f:Field) (c:Nat),fs[i]? =some f->ks[i]? =some c->Rd enc w base hd f.type ((cs.drop f.offset).take c):=by
 obtain ⟨m,y,h,hw⟩:=h;obtain ⟨hl,n,hf⟩:=uO ht ks hks hC h hw;exact ⟨hl,fun i f c a b=>⟨n,hf i f c a b⟩⟩
theorem Iy {c:AN} (h:Rd enc w base hd 9 [c]):∃s,c=.string s:=by obtain ⟨n,y,h,_⟩:=h;obtain ⟨s,e,_,_⟩:=DataW.trod_string underlying9 h;injection e with e;exact ⟨s,e⟩
theorem DW {c:AN} (h:Rd enc w base hd 3 [c]):∃k,Oo k/\c=AE AF k:=by obtain ⟨n,y,h,_⟩:=h;obtain ⟨k,e,_,hk⟩:=DataW.trod_int underlying3 h;injection e with e;exact ⟨k,by simpa [Oo,Lit.wf,IntKind.min,IntKind.max,IntKind.signed,IntKind.bits] using hk,e⟩
theorem LP {α:Type} {sz bytes:Nat} {R:AH->List AN->α->Prop} {t e:Af} {v:AN} (ht:prog.underlying t=some (.slice e)) (h:Rd enc w base hd t [v]) (hR:∀cs,Rd enc w base hd e cs->∃a,R w cs a) (hC:prog.cellsOf e=sz:=by kernel_rfl) (hz:0 < sz:=by decide) (hby:prog.bytesOf e=bytes:=by kernel_rfl):
 ∃A n c l,BT sz bytes R w (AB A n c) l/\v=AB A n c:=by
 obtain ⟨n,y,h,hw⟩:=h;obtain ⟨A,n,c,l,e,hs⟩:=AA5 ht hC hz hby h hw fun m cs y _ hy hv=>hR cs ⟨m,y,hy,hv⟩;exact ⟨A,n,c,l,hs,e⟩
theorem fR {v:AN} (h:Rd enc w base hd 22 [v]):∃A n c l,BT 1 16 DQ w (AB A n c) l/\v=AB A n c:=
 LP underlying22 h fun cs h=>by obtain ⟨n,y,h,_⟩:=h;obtain ⟨s,rfl,_,_⟩:=DataW.trod_string underlying9 h;exact ⟨s,rfl⟩
theorem fS {v:AN} (h:Rd enc w base hd 30 [v]):∃A n c l,(BT 1 8 iR w (AB A n c) l/\∀x∈l,Oo x)/\v=AB A n c:=by
 obtain ⟨A,n,c,l,hs,e⟩:=LP (sz:=1) (bytes:=8) (R:=fun w cs x=>iR w cs x/\Oo x) underlying30 h fun cs h=>by obtain ⟨n,y,h,_⟩:=h;obtain ⟨k,rfl,_,hk⟩:=DataW.trod_int underlying3 h;exact ⟨k,rfl,by simpa [Oo,Lit.wf,IntKind.min,IntKind.max,IntKind.signed,IntKind.bits] using hk⟩
 exact ⟨A,n,c,l,hs.split,e⟩
theorem jz {w:AH} {v:AN} {l:AQ} {b:Nat} (h:BT 1 b iR w v l/\∀x∈l,Oo x):Ag 1 CK w v l:=iq h.1.1 h.2
theorem y9 {t e:Af} {n:Nat} {k:IntKind} {cs:List AN} (ht:prog.underlying t=some (.array n e)) (he:prog.underlying e=some (.int k)) (h:Rd enc w base hd t cs) (hC:prog.cellsOf t=n:=by kernel_rfl) (h1:prog.cellsOf e=1:=by kernel_rfl):∃d:AQ,d.length=n/\cs=d.map (Value.int k):=by
 obtain ⟨m,y,h,_⟩:=h;obtain ⟨xs,m,_,_,hl,hx,hf⟩:=DataW.trod_array ht h;rw [h1] at hf;replace hl:cs.length=n:=hl.trans hC;have hall:∀u∈cs,∃x,u=Value.int k x:=fun u hu=>by
  obtain ⟨i,hi⟩:=dq hu;have hlt:i < n:=by have:=(BD.1 hi).1;omega
  have h2:=(hf i hlt).trans (BJ AG);have e:(cs.drop (i*1)).take 1=[u]:=by rw [Gs,List.take_one,List.head?_drop,hi];rfl
  rw [e] at h2;obtain ⟨x,e,_,_⟩:=DataW.trod_int he h2;injection e with e;exact ⟨x,e⟩
 clear hf h hC ht he h1;subst hl;clear hx
 induction cs with
 | nil=>exact ⟨[],rfl,rfl⟩
 |
  cons u r ih=>
  obtain ⟨x,rfl⟩:=hall u N7;obtain ⟨d,h1,rfl⟩:=ih fun u hu=>hall u (Mu _ hu);exact ⟨x::d,by simp,rfl⟩
theorem cA {cs:List AN} (h:Rd enc w base hd 34 cs):∃d:AQ,d.length=32/\cs=d.map (Value.int .u8):=y9 underlying34 underlying5 h
theorem AEE {v:AN} (h:Rd enc w base hd 37 [v]):∃A n c l,BT 32 32 CV w (AB A n c) l/\v=AB A n c:=
 LP underlying37 h fun cs h=>by obtain ⟨d,hl,e⟩:=cA h;exact ⟨d,e,hl⟩
theorem AED {c0 c1 c2 c3:AN} (h:Rd enc w base hd 110 [c0,c1,c2,c3]):∃a b c d,c0=AE AF a/\c1=AE AF b/\c2=AE AF c/\c3=AE AF d:=by
 obtain ⟨l,hl,e⟩:=y9 underlying110 underlying3 h
 match l,hl with
 |
  [a,b,c,d],_=>
  simp only [Fe,N2,Q5,and_true] at e;exact ⟨a,b,c,d,e⟩
theorem ABS {cs:List AN} (h:Rd enc w base hd 201 cs):∃x,CD w cs x:=by
 obtain ⟨hl,hf⟩:=EV (k:=5) [1,1,1,1,1] underlying201 h
 match cs,hl with
 |
  [c0,c1,c2,c3,c4],_=>
  exact lQ
theorem zP {v:AN} (h:Rd enc w base hd 23 [v]):∃A n c l,BT 5 56 CD w (AB A n c) l/\v=AB A n c:=LP underlying23 h fun _ h=>ABS h
theorem Vb {cs:List AN} (h:Rd enc w base hd 279 cs):∃x,AE1 w cs x:=by
 obtain ⟨hl,hf⟩:=EV (k:=5) [1,1,1,1,1] underlying279 h
 match cs,hl with
 |
  [c0,c1,c2,c3,c4],_=>
  exact lQ
theorem ABZ {cs:List AN} (h:Rd enc w base hd 281 cs):∃x,EH w cs x:=by
 obtain ⟨hl,hf⟩:=EV (k:=11) [1,5,5] underlying281 h
 match cs,hl with
 |
  [c0,c1,c2,c3,c4,c5,c6,c7,c8,c9,c10],_=>
  obtain ⟨v0,w0,rfl⟩:=DW (c:=c0) (hf 0 _ 1 rfl rfl);obtain ⟨v1,q⟩:=Vb (cs:=[c1,c2,c3,c4,c5]) (hf 1 _ 5 rfl rfl);cases q;obtain ⟨v2,q⟩:=Vb (cs:=[c6,c7,c8,c9,c10]) (hf 2 _ 5 rfl rfl);cases q;exact ⟨⟨v0,v1,v2⟩,rfl⟩
theorem zV {v:AN} (h:Rd enc w base hd 157 [v]):∃A n c l,BT 11 120 EH w (AB A n c) l/\v=AB A n c:=LP underlying157 h fun _ h=>ABZ h
theorem ABY {cs:List AN} (h:Rd enc w base hd 298 cs):∃x,DH w cs x:=by
 obtain ⟨hl,hf⟩:=EV (k:=8) [1,1,1,5] underlying298 h
 match cs,hl with
 |
  [c0,c1,c2,c3,c4,c5,c6,c7],_=>
  obtain ⟨v0,rfl⟩:=Iy (c:=c0) (hf 0 _ 1 rfl rfl);obtain ⟨v1,rfl⟩:=Iy (c:=c1) (hf 1 _ 1 rfl rfl);obtain ⟨v2,w2,rfl⟩:=DW (c:=c2) (hf 2 _ 1 rfl rfl);obtain ⟨v3,q⟩:=Vb (cs:=[c3,c4,c5,c6,c7]) (hf 3 _ 5 rfl rfl);cases q;exact ⟨⟨v0,v1,v2,v3⟩,rfl⟩
theorem zS {v:AN} (h:Rd enc w base hd 156 [v]):∃A n c l,BT 8 96 DH w (AB A n c) l/\v=AB A n c:=LP underlying156 h fun _ h=>ABY h
theorem AEJ {cs:List AN} (h:Rd enc w base hd 284 cs):∃x,GZ w cs x:=by
 obtain ⟨hl,hf⟩:=EV (k:=7) [1,1,5] underlying284 h
 match cs,hl with
 |
  [c0,c1,c2,c3,c4,c5,c6],_=>
  obtain ⟨v0,rfl⟩:=Iy (c:=c0) (hf 0 _ 1 rfl rfl);obtain ⟨v1,w1,rfl⟩:=DW (c:=c1) (hf 1 _ 1 rfl rfl);obtain ⟨v2,q⟩:=Vb (cs:=[c2,c3,c4,c5,c6]) (hf 2 _ 5 rfl rfl);cases q;exact ⟨⟨v0,v1,v2⟩,rfl⟩
theorem ABU {v:AN} (h:Rd enc w base hd 158 [v]):∃A n c l,BT 7 80 GZ w (AB A n c) l/\v=AB A n c:=LP underlying158 h fun _ h=>AEJ h
theorem ABX {cs:List AN} (h:Rd enc w base hd 294 cs):∃x,GF w cs x:=by
 obtain ⟨hl,hf⟩:=EV (k:=5) [1,1,1,1,1] underlying294 h
 match cs,hl with
 |
  [c0,c1,c2,c3,c4],_=>
  exact lQ
theorem zR {v:AN} (h:Rd enc w base hd 161 [v]):∃A n c l,BT 5 56 GF w (AB A n c) l/\v=AB A n c:=LP underlying161 h fun _ h=>ABX h
theorem AEK {cs:List AN} (h:Rd enc w base hd 288 cs):∃x,IH w cs x:=by
 obtain ⟨hl,hf⟩:=EV (k:=4) [1,1,1,1] underlying288 h
 match cs,hl with
 |
  [c0,c1,c2,c3],_=>
  obtain ⟨v0,rfl⟩:=Iy (c:=c0) (hf 0 _ 1 rfl rfl);obtain ⟨v1,rfl⟩:=Iy (c:=c1) (hf 1 _ 1 rfl rfl);obtain ⟨v2,w2,rfl⟩:=DW (c:=c2) (hf 2 _ 1 rfl rfl);obtain ⟨v3,w3,rfl⟩:=DW (c:=c3) (hf 3 _ 1 rfl rfl);exact ⟨⟨v0,v1,v2,v3⟩,rfl⟩
theorem ABW {v:AN} (h:Rd enc w base hd 164 [v]):∃A n c l,BT 4 48 IH w (AB A n c) l/\v=AB A n c:=LP underlying164 h fun _ h=>AEK h
theorem ABT {cs:List AN} (h:Rd enc w base hd 109 cs):∃x,NV w cs x:=by
 obtain ⟨hl,hf⟩:=EV (k:=6) [1,1,1,1,1,1] underlying109 h
 match cs,hl with
 |
  [c0,c1,c2,c3,c4,c5],_=>
  obtain ⟨v0,w0,rfl⟩:=DW (c:=c0) (hf 0 _ 1 rfl rfl);obtain ⟨v1,w1,rfl⟩:=DW (c:=c1) (hf 1 _ 1 rfl rfl);obtain ⟨v2,w2,rfl⟩:=DW (c:=c2) (hf 2 _ 1 rfl rfl);obtain ⟨v3,rfl⟩:=Iy (c:=c3) (hf 3 _ 1 rfl rfl);obtain ⟨v4,w4,rfl⟩:=DW (c:=c4) (hf 4 _ 1 rfl rfl);obtain ⟨A5,n5,d5,v5,s5,rfl⟩:=fR (v:=c5) (hf 5 _ 1 rfl rfl);exact ⟨⟨v0,v1,v2,v3,v4,v5⟩,⟨A5,n5,d5,rfl,s5⟩⟩
theorem zU {cs:List AN} (h:Rd enc w base hd 112 cs):∃x,EU w cs x:=by
 obtain ⟨hl,hf⟩:=EV (k:=11) [1,6,4] underlying112 h
 match cs,hl with
 |
  [c0,c1,c2,c3,c4,c5,c6,c7,c8,c9,c10],_=>
  obtain ⟨v0,rfl⟩:=Iy (c:=c0) (hf 0 _ 1 rfl rfl);obtain ⟨v1,A1,n1,d1,q,s1⟩:=ABT (cs:=[c1,c2,c3,c4,c5,c6]) (hf 1 _ 6 rfl rfl);cases q;obtain ⟨a,b,c,d,rfl,rfl,rfl,rfl⟩:=AED (c0:=c7) (c1:=c8) (c2:=c9) (c3:=c10) (hf 2 _ 4 rfl rfl);exact ⟨⟨v0,v1,a,b,c,d⟩,⟨A1,n1,d1,rfl,s1⟩⟩
theorem uv {v:AN} (h:Rd enc w base hd 82 [v]):∃A n c l,BT 11 120 EU w (AB A n c) l/\v=AB A n c:=LP underlying82 h fun _ h=>zU h
theorem uw {cs:List AN} (h:Rd enc w base hd 290 cs):∃x,Hc w cs x/\IV x:=by
 obtain ⟨hl,hf⟩:=EV (k:=4) [1,1,1,1] underlying290 h
 match cs,hl with
 |
  [c0,c1,c2,c3],_=>
  obtain ⟨A0,n0,d0,v0,s0,rfl⟩:=fR (v:=c0) (hf 0 _ 1 rfl rfl);obtain ⟨v1,rfl⟩:=Iy (c:=c1) (hf 1 _ 1 rfl rfl);obtain ⟨A2,n2,d2,v2,s2,rfl⟩:=fS (v:=c2) (hf 2 _ 1 rfl rfl);obtain ⟨v3,w3,rfl⟩:=DW (c:=c3) (hf 3 _ 1 rfl rfl);exact ⟨⟨v0,v1,v2,v3⟩,⟨A0,n0,d0,A2,n2,d2,rfl,s0,s2.1⟩,s2.2,w3⟩
theorem qP {v:AN} (h:Rd enc w base hd 83 [v]):∃A n c l,BT 4 72 Hc w (AB A n c) l/\(∀x∈l,IV x)/\v=AB A n c:=by obtain ⟨A,n,c,l,hs,e⟩:=LP (sz:=4) (bytes:=72) (R:=fun w cs x=>Hc w cs x/\IV x) underlying83 h fun _ h=>uw h;exact ⟨A,n,c,l,hs.split.1,hs.split.2,e⟩
theorem ut {cs:List AN} (h:Rd enc w base hd 85 cs):∃x,BU w cs x/\∀d∈x.deps,IV d:=by
 obtain ⟨hl,hf⟩:=EV (k:=6) [1,1,1,1,1,1] underlying85 h
 match cs,hl with
 |
  [c0,c1,c2,c3,c4,c5],_=>
  obtain ⟨v0,rfl⟩:=Iy (c:=c0) (hf 0 _ 1 rfl rfl);obtain ⟨v1,rfl⟩:=Iy (c:=c1) (hf 1 _ 1 rfl rfl);obtain ⟨v2,w2,rfl⟩:=DW (c:=c2) (hf 2 _ 1 rfl rfl);obtain ⟨v3,w3,rfl⟩:=DW (c:=c3) (hf 3 _ 1 rfl rfl);obtain ⟨A4,n4,d4,v4,s4,rfl⟩:=uv (v:=c4) (hf 4 _ 1 rfl rfl);obtain ⟨A5,n5,d5,v5,s5,t5,rfl⟩:=qP (v:=c5) (hf 5 _ 1 rfl rfl);exact ⟨⟨v0,v1,v2,v3,v4,v5⟩,⟨A4,n4,d4,A5,n5,d5,rfl,s4,s5⟩,t5⟩
theorem qN {v:AN} (h:Rd enc w base hd 24 [v]):∃A n c l,BT 6 96 BU w (AB A n c) l/\(∀x∈l,∀d∈x.deps,IV d)/\v=AB A n c:=by obtain ⟨A,n,c,l,hs,e⟩:=LP (sz:=6) (bytes:=96) (R:=fun w cs x=>BU w cs x/\∀d∈x.deps,IV d) underlying24 h fun _ h=>ut h;exact ⟨A,n,c,l,hs.split.1,hs.split.2,e⟩
theorem ABV {cs:List AN} (h:Rd enc w base hd 160 cs):∃x,CF w cs x:=by
 obtain ⟨hl,hf⟩:=EV (k:=5) [1,1,1,1,1] underlying160 h
 match cs,hl with
 |
  [c0,c1,c2,c3,c4],_=>
  obtain ⟨v0,rfl⟩:=Iy (c:=c0) (hf 0 _ 1 rfl rfl);obtain ⟨v1,w1,rfl⟩:=DW (c:=c1) (hf 1 _ 1 rfl rfl);obtain ⟨A2,n2,d2,v2,s2,rfl⟩:=zS (v:=c2) (hf 2 _ 1 rfl rfl);obtain ⟨A3,n3,d3,v3,s3,rfl⟩:=zV (v:=c3) (hf 3 _ 1 rfl rfl);obtain ⟨A4,n4,d4,v4,s4,rfl⟩:=ABU (v:=c4) (hf 4 _ 1 rfl rfl);exact ⟨⟨v0,v1,v2,v3,v4⟩,⟨A2,n2,d2,A3,n3,d3,A4,n4,d4,rfl,s2,s3,s4⟩⟩
theorem zQ {v:AN} (h:Rd enc w base hd 25 [v]):∃A n c l,BT 5 96 CF w (AB A n c) l/\v=AB A n c:=LP underlying25 h fun _ h=>ABV h
theorem qQ {cs:List AN} (h:Rd enc w base hd 163 cs):∃x,Bw w cs x:=by
 obtain ⟨hl,hf⟩:=EV (k:=5) [1,1,1,1,1] underlying163 h
 match cs,hl with
 |
  [c0,c1,c2,c3,c4],_=>
  obtain ⟨v0,rfl⟩:=Iy (c:=c0) (hf 0 _ 1 rfl rfl);obtain ⟨v1,rfl⟩:=Iy (c:=c1) (hf 1 _ 1 rfl rfl);obtain ⟨v2,w2,rfl⟩:=DW (c:=c2) (hf 2 _ 1 rfl rfl);obtain ⟨v3,w3,rfl⟩:=DW (c:=c3) (hf 3 _ 1 rfl rfl);obtain ⟨A4,n4,d4,v4,s4,rfl⟩:=zR (v:=c4) (hf 4 _ 1 rfl rfl);exact ⟨⟨v0,v1,v2,v3,v4⟩,⟨A4,n4,d4,rfl,s4⟩⟩
theorem mY {v:AN} (h:Rd enc w base hd 26 [v]):∃A n c l,BT 5 72 Bw w (AB A n c) l/\v=AB A n c:=LP underlying26 h fun _ h=>qQ h
theorem qO {cs:List AN} (h:Rd enc w base hd 166 cs):∃x,BW w cs x:=by
 obtain ⟨hl,hf⟩:=EV (k:=3) [1,1,1] underlying166 h
 match cs,hl with
 |
  [c0,c1,c2],_=>
  obtain ⟨v0,rfl⟩:=Iy (c:=c0) (hf 0 _ 1 rfl rfl);obtain ⟨A1,n1,d1,v1,s1,rfl⟩:=ABW (v:=c1) (hf 1 _ 1 rfl rfl);obtain ⟨v2,w2,rfl⟩:=DW (c:=c2) (hf 2 _ 1 rfl rfl);exact ⟨⟨v0,v1,v2⟩,⟨A1,n1,d1,rfl,s1⟩⟩
theorem mX {v:AN} (h:Rd enc w base hd 27 [v]):∃A n c l,BT 3 48 BW w (AB A n c) l/\v=AB A n c:=LP underlying27 h fun _ h=>qO h
theorem ur {cs:List AN} (h:Rd enc w base hd 29 cs):∃x,Z6 w cs x/\∀y∈x.Ap,∀d∈y.deps,IV d:=by
 obtain ⟨hl,hf⟩:=EV (k:=6) [1,1,1,1,1,1] underlying29 h
 match cs,hl with
 |
  [c0,c1,c2,c3,c4,c5],_=>
  obtain ⟨A0,n0,d0,v0,s0,rfl⟩:=fR (v:=c0) (hf 0 _ 1 rfl rfl);obtain ⟨A1,n1,d1,v1,s1,rfl⟩:=zP (v:=c1) (hf 1 _ 1 rfl rfl);obtain ⟨A2,n2,d2,v2,s2,t2,rfl⟩:=qN (v:=c2) (hf 2 _ 1 rfl rfl);obtain ⟨A3,n3,d3,v3,s3,rfl⟩:=zQ (v:=c3) (hf 3 _ 1 rfl rfl);obtain ⟨A4,n4,d4,v4,s4,rfl⟩:=mY (v:=c4) (hf 4 _ 1 rfl rfl);obtain ⟨A5,n5,d5,v5,s5,rfl⟩:=mX (v:=c5) (hf 5 _ 1 rfl rfl);exact ⟨⟨v0,v1,v2,v3,v4,v5⟩,⟨A0,n0,d0,A1,n1,d1,A2,n2,d2,A3,n3,d3,A4,n4,d4,A5,n5,d5,rfl,s0,s1,s2,s3,s4,s5⟩,t2⟩
theorem ux {r:Reach} {b:Nat} {t e:Af} {n:Nat} {v:AN} (ht:P.underlying t=some (.array n e)) (h:Value.okWide P w r b t v):∃cs,v=.agg cs:=by simp only [Value.okWide,ht] at h;obtain ⟨cs,h1,_⟩:=h;exact ⟨cs,h1⟩
theorem bw {t:Af} {cs:Array AN} {d:DataW H} {ps:List MemPlace} (h:DataW.Trod enc prog w base (fun _=>true) hd t (.agg cs) d ps) (hw:Qj prog t d):Rd enc w base hd t cs.toList:=by obtain ⟨n,h⟩:=h;exact ⟨n,(d,ps),h,hw⟩
theorem AEq {b0:Nat} {v:AN} {d:DataW H} {ps:List MemPlace} (hv:Value.okWide prog w .any b0 34 v) (h:DataW.Trod enc prog w base (fun _=>true) hd 34 v d ps) (hw:Qj prog 34 d):∃l,l.length=32/\v=.agg (yA l):=by obtain ⟨cs,rfl⟩:=ux underlying34 hv;obtain ⟨l,hl,e⟩:=cA (bw h hw);exact ⟨l,hl,by rw [yA,<-e]⟩
theorem AAk {b0:Nat} {v:AN} {d:DataW H} {ps:List MemPlace} (hv:Value.okWide prog w .any b0 36 v) (h:DataW.Trod enc prog w base (fun _=>true) hd 36 v d ps) (hw:Qj prog 36 d):∃r:CM,r.root.length=32/\v=.agg (rdA r):=by
 obtain ⟨⟨cs⟩,rfl,_⟩:=okWide_struct underlying36 hv;obtain ⟨hl,hf⟩:=EV (k:=38) [1,1,1,1,1,1,32] underlying36 (bw h hw)
 match cs,hl with
 |
  c0::c1::c2::c3::c4::c5::l,hl=>
  obtain ⟨v0,w0,rfl⟩:=DW (c:=c0) (hf 0 _ 1 rfl rfl);obtain ⟨v1,w1,rfl⟩:=DW (c:=c1) (hf 1 _ 1 rfl rfl);obtain ⟨v2,w2,rfl⟩:=DW (c:=c2) (hf 2 _ 1 rfl rfl);obtain ⟨v3,w3,rfl⟩:=DW (c:=c3) (hf 3 _ 1 rfl rfl);obtain ⟨v4,w4,rfl⟩:=DW (c:=c4) (hf 4 _ 1 rfl rfl);obtain ⟨v5,w5,rfl⟩:=DW (c:=c5) (hf 5 _ 1 rfl rfl);obtain ⟨d,hdl,e⟩:=cA (cs:=l.take 32) (hf 6 _ 32 rfl rfl);rw [Cu (by simp at hl;omega)] at e;exact ⟨⟨v0,v1,v2,v3,v4,v5,d⟩,hdl,by rw [e,rdA,yA];simp⟩
theorem AAl {b0:Nat} {v:AN} {d:DataW H} {ps:List MemPlace} (hv:Value.okWide prog w .any b0 39 v) (h:DataW.Trod enc prog w base (fun _=>true) hd 39 v d ps) (hw:Qj prog 39 d):∃a b holder A n c l,holder.length=32/\Ag 32 CV w (AB A n c) l/\v=.agg (Qg a b holder (AB A n c)):=by
 obtain ⟨⟨cs⟩,rfl,_⟩:=okWide_struct underlying39 hv;obtain ⟨hl,hf⟩:=EV (k:=35) [1,1,32,1] underlying39 (bw h hw)
 match cs,hl with
 |
  c0::c1::l,hl=>
  obtain ⟨v0,w0,rfl⟩:=DW (c:=c0) (hf 0 _ 1 rfl rfl);obtain ⟨v1,w1,rfl⟩:=DW (c:=c1) (hf 1 _ 1 rfl rfl);obtain ⟨d,hdl,e⟩:=cA (cs:=l.take 32) (hf 2 _ 32 rfl rfl);have hl:l.length=33:=by simpa using hl
  have e2:(l.drop 32).take 1=[l[32]]:=by rw [List.take_one,List.head?_drop,BJ AG];rfl
  have h3:Rd enc w base hd 37 (((Value.int .i64 v0::AE AF v1::l).drop 34).take 1):=hf 3 _ 1 rfl rfl;rw [show ((Value.int .i64 v0::AE AF v1::l).drop 34).take 1=[l[32]] from e2] at h3;obtain ⟨A,n,c,q,hs,e3⟩:=AEE h3;refine ⟨v0,v1,d,A,n,c,q,hdl,hs.1,?_⟩;have e4:l=d.map (Value.int .u8)++[AB A n c]:=by rw [<-e,<-e3,<-e2,Cu (l:=l.drop 32) BN,Tw]
  rw [e4,Qg,yA];simp
theorem AC0 {b0:Nat} {v:AN} {d:DataW H} {ps:List MemPlace} (hv:Value.okWide prog w .any b0 41 v) (h:DataW.Trod enc prog w base (fun _=>true) hd 41 v d ps) (hw:Qj prog 41 d):∃a b c A n k l,Ag 1 CK w (AB A n k) l/\v=.agg #[AE AF a,AE AF b,AE AF c,AB A n k]:=by
 obtain ⟨⟨cs⟩,rfl,_⟩:=okWide_struct underlying41 hv;obtain ⟨hl,hf⟩:=EV (k:=4) [1,1,1,1] underlying41 (bw h hw)
 match cs,hl with
 |
  [c0,c1,c2,c3],_=>
  obtain ⟨v0,w0,rfl⟩:=DW (c:=c0) (hf 0 _ 1 rfl rfl);obtain ⟨v1,w1,rfl⟩:=DW (c:=c1) (hf 1 _ 1 rfl rfl);obtain ⟨v2,w2,rfl⟩:=DW (c:=c2) (hf 2 _ 1 rfl rfl);obtain ⟨A,n,k,l,s,rfl⟩:=fS (v:=c3) (hf 3 _ 1 rfl rfl);exact ⟨v0,v1,v2,A,n,k,l,jz s,rfl⟩
theorem wJ {b0:Nat} {v:AN} {d:DataW H} {ps:List MemPlace} (hv:Value.okWide prog w .any b0 32 v) (h:DataW.Trod enc prog w base (fun _=>true) hd 32 v d ps) (hw:Qj prog 32 d):
 ∃A1 n1 c1 A2 n2 c2 A3 n3 c3 A4 n4 c4 A5 n5 c5 A6 n6 c6 A7 n7 c7,∃(s:BB) (l:AQ),v=.agg #[AB A1 n1 c1,AB A2 n2 c2,AB A3 n3 c3,AB A4 n4 c4,AB A5 n5 c5,AB A6 n6 c6,AB A7 n7 c7]/\BT 1 16 DQ w (AB A1 n1 c1) s.Bg/\BT 5 56 CD w (AB A2 n2 c2) s.units/\BT 6 96 BU w (AB A3 n3 c3) s.Ap/\BT 5 96 CF w (AB A4 n4 c4) s.rules/\BT 5 72 Bw w (AB A5 n5 c5) s.converts/\BT 3 48 BW w (AB A6 n6 c6) s.purposes/\Ag 1 iR w (AB A7 n7 c7) l/\∀x∈s.Ap,∀d∈x.deps,IV d:=by
 obtain ⟨⟨cs⟩,rfl,_⟩:=okWide_struct underlying32 hv;obtain ⟨hl,hf⟩:=EV (k:=7) [6,1] underlying32 (bw h hw)
 match cs,hl with
 |
  [u1,u2,u3,u4,u5,u6,u7],_=>
  obtain ⟨s,⟨A1,n1,c1,A2,n2,c2,A3,n3,c3,A4,n4,c4,A5,n5,c5,A6,n6,c6,he,h1,h2,h3,h4,h5,h6⟩,hI⟩:=ur (cs:=[u1,u2,u3,u4,u5,u6]) (hf 0 _ 6 rfl rfl);cases he;obtain ⟨A7,n7,c7,l,h7,rfl⟩:=fS (v:=u7) (hf 1 _ 1 rfl rfl);exact ⟨A1,n1,c1,A2,n2,c2,A3,n3,c3,A4,n4,c4,A5,n5,c5,A6,n6,c6,A7,n7,c7,s,l,rfl,h1,h2,h3,h4,h5,h6,h7.1.1,hI⟩
end
end Go.Proofs.YtamhoilkpppdbaaGreatDoor
