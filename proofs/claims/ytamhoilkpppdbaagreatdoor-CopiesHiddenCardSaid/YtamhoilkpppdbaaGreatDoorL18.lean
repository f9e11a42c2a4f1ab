import Derived.Test.YtamhoilkpppdbaaGreatDoorRows
import Derived.Test.YtamhoilkpppdbaaGreatDoorL05
import Derived.Test.YtamhoilkpppdbaaGreatDoorL15
import Derived.Test.YtamhoilkpppdbaaGreatDoorL16
namespace Go.Proofs.YtamhoilkpppdbaaGreatDoor
set_option maxHeartbeats 8000000
set_option maxRecDepth 100000
open Go renaming World→AH, Value→AN, TypeId→Ae, Program→BE
open Go.Proofs.Tryz
open Go.Value renaming slice→AA, int→AB
open Go.IntKind renaming i64→AE
open Go.Obj renaming cells→AO
open Go.ChangeShapes Go.WideShapes Go.ChangeAt Go.RowKit Go.Deep
section
variable {H:Type} {enc:Ae×AN->H} {P:BE} {w:AH} {base:Nat} {hd:Bool}
theorem lI (b off k:Nat):(Addr.mk b off none).add k=⟨b,off+k,none⟩:=by
 unfold Addr.add;split
 · subst_vars;rfl
 · rfl
theorem AC4 {α:Type} {sz:Nat} {R:AH->List AN->α->Prop} {t e:Ae} {fuel:Nat} {v:AN} {x:DataW H×List MemPlace} (ht:P.underlying t=some (.slice e)) (hC:P.cellsOf e=sz) (hz:0 < sz)
 (h:DataW.trod enc P w base (fun _=>true) hd fuel t [v]=some x)
 (hR:∀(n:Nat) (cs:List AN) (y:DataW H×List MemPlace),cs.length=sz->DataW.trod enc P w base (fun _=>true) hd n e cs=some y->∃a,R w cs a):
 ∃A n c l,v=AA A n c/\Ag sz R w (AA A n c) l:=by
 rcases open_slice ht h with ⟨hcs,_⟩ | ⟨a,len,cap,m,n,D,Pl,hcs,hb,hl,hm,hmm,hx,hi⟩
 ·injection hcs with hcs
  exact ⟨none,0,0,[],hcs,Ag.nil _ _ (Ay _)⟩
 injection hcs with hcs;have hmc:m=cap:=by rw [hmm];simp
 subst hmc;rw [hC] at hi;have hex:∀i,i < len->∃(x:α) (cs:List AN),w.cells? base (a.add (i*sz)) sz=some cs/\R w cs x:=by intro i hlt;obtain ⟨cs,h1,h2⟩:=hi i AG;obtain ⟨y,hy⟩:=hR _ cs _ (ZR h1).2.1 h2;exact ⟨y,cs,h1,hy⟩
 refine ⟨some a,len,m,List.ofFn (fun i:Fin len=>Classical.choose (hex i.1 i.2)),hcs,some a,m,by simp,by simpa using hl,hm,fun i x hix=> ?_⟩;exact AAv
theorem ACB {fuel:Nat} {v:AN} {x:DataW H×List MemPlace} (h:DataW.trod enc prog w base (fun _=>true) hd fuel 30 [v]=some x):
 ∃A n c l,v=AA A n c/\Ag 1 Bt w (AA A n c) l:=
 AC4 underlying30 AJ AG h fun n cs y hl hy=>by obtain ⟨k,rfl,_,hk⟩:=DataW.trod_int underlying3 hy;exact ⟨k,rfl,by simpa [Lit.wf,IntKind.min,IntKind.max,IntKind.signed,IntKind.bits] using hk⟩
theorem AFJ {b0:Nat} {v:AN} {d:DataW H} {ps:List MemPlace} (hv:Value.okWide prog w .any b0 30 v) (h:DataW.Trod enc prog w base (fun _=>true) hd 30 v d ps):
 ∃A n c l,v=AA A n c/\Ag 1 Bt w (AA A n c) l:=by
 obtain ⟨A,n,c,rfl⟩:=okWide_slice underlying30 hv;obtain ⟨fuel,hf⟩:=h;exact ACB hf
theorem Wi (hl:laidOutB P=true) {W W':AH} {sp:Nat->Bool} (hb:AK W W'):∀{ts:List Ae} {vs:List AN} {ds:List (DataW H)} {ps:List MemPlace},
 ts.all (fun t=>P.readableRec t && decide (t < P.types.size))=true->DataW.TrodAll enc P W 0 (fun _=>true) true ts vs ds ps->(∀x∈ps,x.block < W.heap.size)->(∀x∈ps,sp x.block=true)->
 DataW.TrodAll enc P W' 0 sp true ts vs ds ps
 |
  [],_,_,_,_,h,_,_=>by
  obtain ⟨rfl,rfl,rfl⟩:=trodAll_nil h;exact trodAll_mk0
 |
  t::ts,_,_,_,ht,h,hlt,hsp=>by
  obtain ⟨v,vs,d,ds,p,q,rfl,rfl,rfl,h1,h2⟩:=trodAll_cons h;simp only [Pp,Bb,By] at ht;exact trodAll_cons_mk (WideElems.Trod_stays hl ht.1.1 ht.1.2 h1 (fun x hx=>hb.same (hlt x (R5 _ hx))) (fun x hx=>hsp x (R5 _ hx)))
   (Wi hl hb ht.2 h2 (fun x hx=>hlt x (List.mem_append_right _ hx)) (fun x hx=>hsp x (List.mem_append_right _ hx)))
theorem ADo (hl:laidOutB P=true) {f:Func} {s:ChangeSpec} {tb:Ae} {apart fresh handsOn:Bool} {W W':AH} {args:Array AN} {ds gs:List (DataW H)} {before:List MemPlace}
 (hW:DataW.Whole enc P f.params.toList s.vars apart W args.toList ds gs before) (hsv:s.vars=[]) (hr:f.resultTypes=#[tb]) (htb:P.underlying tb=some .bool)
 (hts:f.params.toList.all (fun t=>P.readableRec t && decide (t < P.types.size))=true)
 (hres:(s.fn H (ds++gs)).results=[.lit (.bool true)]) (hargs:(s.fn H (ds++gs)).args=ds) (hvars:(s.fn H (ds++gs)).vars=[])
 (hb:AK W W'):s.post enc P f apart fresh handsOn false W args (.bool true) W':=by
 have hlt:∀x∈before,x.block < W.heap.size:=fun x hx=>hW.lt x hx;have hW':=hW;obtain ⟨p,q,hA,hV,rfl,hfz,hnd⟩:=hW;rw [hsv] at hV;obtain ⟨rfl,rfl⟩:=trodVars_none hV;refine ⟨ds,[],p++[],[],p,[],hW',?_,?_,?_,World.keptBut_mono (fun x hx=>⟨hx,?_⟩) (hb.frame (· ∈p++[])),fun h=> ?_⟩
 ·rw [hres,hr]
  exact trodAll_mk1 (shut_bool htb true)
 ·rw [hargs]
  exact Wi hl hb hts hA (fun x hx=>hlt x (R5 _ hx)) (fun x hx=>by simpa using hlt x (R5 _ hx))
 ·rw [hvars,hsv]
  exact rfl
 · exact Or.inr (Or.inl (by simpa using hx))
 · cases h
end
section
variable {H:Type} {enc:Ae×AN->H} {P:BE} {w:AH} {base:Nat} {hd:Bool}
def M5 (P:BE) (t:Ae) (d:DataW H):Prop:=∀n∈d.weights P t,n<=reachBytes
theorem VT {e:Ae}:∀{l:List (DataW H)} {d:DataW H},d∈l->∀n∈d.weights P e,n∈DataW.weightsAll P e l
 |
  x::r,d,hm,n,hn=>by
  simp only [DataW.weightsAll,Ka];rcases B0.1 hm with rfl | hm
  · exact .inl hn
  · exact .inr (VT hm n hn)
 | [],_,hm,_,_=>by cases hm
theorem AC5 {α:Type} {sz bytes:Nat} {R:AH->List AN->α->Prop} {t e:Ae} {fuel:Nat} {v:AN} {x:DataW H×List MemPlace} (ht:P.underlying t=some (.slice e)) (hC:P.cellsOf e=sz) (hz:0 < sz) (hby:P.bytesOf e=bytes)
 (h:DataW.trod enc P w base (fun _=>true) hd fuel t [v]=some x) (hw:M5 P t x.1)
 (hR:∀(n:Nat) (cs:List AN) (y:DataW H×List MemPlace),cs.length=sz->DataW.trod enc P w base (fun _=>true) hd n e cs=some y->M5 P e y.1->∃a,R w cs a):
 ∃A n c l,v=AA A n c/\BV sz bytes R w (AA A n c) l:=by
 rcases open_slice ht h with ⟨hcs,_⟩ | ⟨a,len,cap,m,n,D,Pl,hcs,hb,hl,hm,hmm,hx,hi⟩
 ·injection hcs with hcs
  exact ⟨none,0,0,[],hcs,Ag.nil _ _ (Ay _),by simp⟩
 injection hcs with hcs;have hmc:m=cap:=by rw [hmm];simp
 subst hmc;rw [hC] at hi;subst hx;have hwt:∀n∈(DataW.slice ((List.range len).map D) ((List.range (m - len)).map fun j=>D (len+j))).weights P t,n<=reachBytes:=hw;simp only [DataW.weights,ht] at hwt;have hbound:len*bytes<=140737488355328:=by
  have h1:=hwt _ OX;simp only [CY,ZF,hby] at h1;have h2:len*bytes<=(len+(m - len))*bytes:=Kb _ AG;have h3:reachBytes<=140737488355328:=Ai
  omega
 have hex:∀i,i < len->∃(x:α) (cs:List AN),w.cells? base (a.add (i*sz)) sz=some cs/\R w cs x:=by intro i hlt;obtain ⟨cs,h1,h2⟩:=hi i AG;obtain ⟨y,hy⟩:=hR _ cs _ (ZR h1).2.1 h2 (fun n hn=>hwt n (NI _ (R5 _ (VT (Dr.2 ⟨i,Eu.2 hlt,rfl⟩) n hn))));exact ⟨y,cs,h1,hy⟩
 refine ⟨some a,len,m,List.ofFn (fun i:Fin len=>Classical.choose (hex i.1 i.2)),hcs,⟨some a,m,by simp,by simpa using hl,hm,fun i x hix=> ?_⟩,by simpa using hbound⟩;exact AAv
theorem wU {t:Ae} {fs:Array Field} {fuel k:Nat} {cs:List AN} {x:DataW H×List MemPlace} {sp:Nat->Bool} (ht:P.underlying t=some (.struct fs)) (ks:List Nat) (hks:fs.toList.map (fun f=>P.cellsOf f.type)=ks) (hC:P.cellsOf t=k)
 (h:DataW.trod enc P w base sp hd fuel t cs=some x) (hw:M5 P t x.1):
 cs.length=k/\∃n,∀(i:Nat) (f:Field) (c:Nat),fs[i]? =some f->ks[i]? =some c->∃y,DataW.trod enc P w base sp hd n f.type ((cs.drop f.offset).take c)=some y/\M5 P f.type y.1:=by
 obtain ⟨xs,n,_,hx,hl,hxl,hf⟩:=DataW.trod_struct ht h;refine ⟨hl.trans hC,n,fun i f c hi hc=> ?_⟩;have hcc:c=P.cellsOf f.type:=by
  rw [<-hks,Bg] at hc;have h2:fs.toList[i]? =some f:=by simpa using hi
  rw [h2,C6,Bz] at hc;exact hc.symm
 subst hcc;have hlt:i < fs.size:=(DF.1 hi).1;have h1:=hf i f hi;rw [BN AG] at h1;refine ⟨_,h1,fun m hm=>hw m ?_⟩;subst hx;show m∈(DataW.agg (xs.map (·.1))).weights P t;simp only [DataW.weights,ht];exact DataW.weights_mem_each (j:=i) (t:=f.type) (d:=(xs[i]' AG).1) (by rw [Bg];simp [hi]) (by rw [Bg,BN AG];rfl) m hm
theorem Ag.split {α:Type} {sz:Nat} {R:AH->List AN->α->Prop} {Q:α->Prop} {w:AH} {v:AN} {l:List α} (h:Ag sz (fun w cs x=>R w cs x/\Q x) w v l):Ag sz R w v l/\∀x∈l,Q x:=by
 obtain ⟨A,cap,e,h1,h2,h3⟩:=h;refine ⟨⟨A,cap,e,h1,h2,fun i y hi=> ?_⟩,fun x hx=> ?_⟩
 ·obtain ⟨b,off,cs,e1,e2,e3,e4,e5,_⟩:=h3 i y hi
  exact ⟨b,off,cs,e1,e2,e3,e4,e5⟩
 obtain ⟨i,hi⟩:=Y9 hx;obtain ⟨b,off,cs,e1,e2,e3,e4,_,e5⟩:=h3 i x hi;exact e5
theorem BV.split {α:Type} {sz FX:Nat} {R:AH->List AN->α->Prop} {Q:α->Prop} {w:AH} {v:AN} {l:List α} (h:BV sz FX (fun w cs x=>R w cs x/\Q x) w v l):BV sz FX R w v l/\∀x∈l,Q x:=
 ⟨⟨h.1.split.1,h.2⟩,h.1.split.2⟩
def Rd (enc:Ae×AN->H) (w:AH) (base:Nat) (hd:Bool) (t:Ae) (cs:List AN):Prop:=∃n y,DataW.trod enc prog w base (fun _=>true) hd n t cs=some y/\M5 prog t y.1
theorem Dn {t:Ae} {fs:Array Field} {k:Nat} {cs:List AN} (ks:List Nat) (ht:prog.underlying t=some (.struct fs)) (h:Rd enc w base hd t cs) (hks:fs.toList.map (fun f=>prog.cellsOf f.type)=ks:=by kernel_rfl) (hC:prog.cellsOf t=k:=by kernel_rfl):
 cs.length=k/\∀(i:Nat) (f:Field) (c:Nat),fs[i]? =some f->ks[i]? =some c->Rd enc w base hd f.type ((cs.drop f.offset).take c):=by
 obtain ⟨m,y,h,hw⟩:=h;obtain ⟨hl,n,hf⟩:=wU ht ks hks hC h hw;exact ⟨hl,fun i f c a b=>⟨n,hf i f c a b⟩⟩
theorem JQ {c:AN} (h:Rd enc w base hd 9 [c]):∃s,c=.string s:=by obtain ⟨n,y,h,_⟩:=h;obtain ⟨s,e,_,_⟩:=DataW.trod_string underlying9 h;injection e with e;exact ⟨s,e⟩
theorem Ct {c:AN} (h:Rd enc w base hd 3 [c]):∃k,PG k/\c=AB AE k:=by obtain ⟨n,y,h,_⟩:=h;obtain ⟨k,e,_,hk⟩:=DataW.trod_int underlying3 h;injection e with e;exact ⟨k,by simpa [PG,Lit.wf,IntKind.min,IntKind.max,IntKind.signed,IntKind.bits] using hk,e⟩
theorem LK {α:Type} {sz bytes:Nat} {R:AH->List AN->α->Prop} {t e:Ae} {v:AN} (ht:prog.underlying t=some (.slice e)) (h:Rd enc w base hd t [v]) (hR:∀cs,Rd enc w base hd e cs->∃a,R w cs a) (hC:prog.cellsOf e=sz:=by kernel_rfl) (hz:0 < sz:=by decide) (hby:prog.bytesOf e=bytes:=by kernel_rfl):
 ∃A n c l,BV sz bytes R w (AA A n c) l/\v=AA A n c:=by
 obtain ⟨n,y,h,hw⟩:=h;obtain ⟨A,n,c,l,e,hs⟩:=AC5 ht hC hz hby h hw fun m cs y _ hy hv=>hR cs ⟨m,y,hy,hv⟩;exact ⟨A,n,c,l,hs,e⟩
theorem iO {v:AN} (h:Rd enc w base hd 22 [v]):∃A n c l,BV 1 16 Dd w (AA A n c) l/\v=AA A n c:=
 LK underlying22 h fun cs h=>by obtain ⟨n,y,h,_⟩:=h;obtain ⟨s,rfl,_,_⟩:=DataW.trod_string underlying9 h;exact ⟨s,rfl⟩
theorem SG {v:AN} (h:Rd enc w base hd 30 [v]):∃A n c l,(BV 1 8 iR w (AA A n c) l/\∀x∈l,PG x)/\v=AA A n c:=by
 obtain ⟨A,n,c,l,hs,e⟩:=LK (sz:=1) (bytes:=8) (R:=fun w cs x=>iR w cs x/\PG x) underlying30 h fun cs h=>by obtain ⟨n,y,h,_⟩:=h;obtain ⟨k,rfl,_,hk⟩:=DataW.trod_int underlying3 h;exact ⟨k,rfl,by simpa [PG,Lit.wf,IntKind.min,IntKind.max,IntKind.signed,IntKind.bits] using hk⟩
 exact ⟨A,n,c,l,hs.split,e⟩
theorem N8 {w:AH} {v:AN} {l:AQ} {b:Nat} (h:BV 1 b iR w v l/\∀x∈l,PG x):Ag 1 Bt w v l:=j4 h.1.1 h.2
theorem ABb {t e:Ae} {n:Nat} {k:IntKind} {cs:List AN} (ht:prog.underlying t=some (.array n e)) (he:prog.underlying e=some (.int k)) (h:Rd enc w base hd t cs) (hC:prog.cellsOf t=n:=by kernel_rfl) (h1:prog.cellsOf e=1:=by kernel_rfl):∃d:AQ,d.length=n/\cs=d.map (Value.int k):=by
 obtain ⟨m,y,h,_⟩:=h;obtain ⟨xs,m,_,_,hl,hx,hf⟩:=DataW.trod_array ht h;rw [h1] at hf;replace hl:cs.length=n:=hl.trans hC;have hall:∀u∈cs,∃x,u=Value.int k x:=fun u hu=>by
  obtain ⟨i,hi⟩:=Y9 hu;have hlt:i < n:=by have:=(BF.1 hi).1;omega
  have h2:=(hf i hlt).trans (BN AG);have e:(cs.drop (i*1)).take 1=[u]:=by rw [Ga,List.take_one,List.head?_drop,hi];rfl
  rw [e] at h2;obtain ⟨x,e,_,_⟩:=DataW.trod_int he h2;injection e with e;exact ⟨x,e⟩
 clear hf h hC ht he h1;subst hl;clear hx
 induction cs with
 | nil=>exact ⟨[],rfl,rfl⟩
 |
  cons u r ih=>
  obtain ⟨x,rfl⟩:=hall u OX;obtain ⟨d,h1,rfl⟩:=ih fun u hu=>hall u (NI _ hu);exact ⟨x::d,by simp,rfl⟩
theorem Sj {cs:List AN} (h:Rd enc w base hd 34 cs):∃d:AQ,d.length=32/\cs=d.map (Value.int .u8):=ABb underlying34 underlying5 h
theorem Zl {v:AN} (h:Rd enc w base hd 37 [v]):∃A n c l,BV 32 32 CP w (AA A n c) l/\v=AA A n c:=
 LK underlying37 h fun cs h=>by obtain ⟨d,hl,e⟩:=Sj h;exact ⟨d,e,hl⟩
theorem AGd {c0 c1 c2 c3:AN} (h:Rd enc w base hd 110 [c0,c1,c2,c3]):∃a b c d,c0=AB AE a/\c1=AB AE b/\c2=AB AE c/\c3=AB AE d:=by
 obtain ⟨l,hl,e⟩:=ABb underlying110 underlying3 h
 match l,hl with
 |
  [a,b,c,d],_=>
  simp only [Fz,NF,Rx,and_true] at e;exact ⟨a,b,c,d,e⟩
theorem ADb {cs:List AN} (h:Rd enc w base hd 201 cs):∃x,CS w cs x:=by
 obtain ⟨hl,hf⟩:=Dn (k:=5) [1,1,1,1,1] underlying201 h
 match cs,hl with
 |
  [c0,c1,c2,c3,c4],_=>
  exact wJ
theorem ABm {v:AN} (h:Rd enc w base hd 23 [v]):∃A n c l,BV 5 56 CS w (AA A n c) l/\v=AA A n c:=LK underlying23 h fun _ h=>ADb h
theorem WG {cs:List AN} (h:Rd enc w base hd 279 cs):∃x,AHV w cs x:=by
 obtain ⟨hl,hf⟩:=Dn (k:=5) [1,1,1,1,1] underlying279 h
 match cs,hl with
 |
  [c0,c1,c2,c3,c4],_=>
  exact wJ
theorem ADi {cs:List AN} (h:Rd enc w base hd 281 cs):∃x,Ea w cs x:=by
 obtain ⟨hl,hf⟩:=Dn (k:=11) [1,5,5] underlying281 h
 match cs,hl with
 |
  [c0,c1,c2,c3,c4,c5,c6,c7,c8,c9,c10],_=>
  obtain ⟨v0,w0,rfl⟩:=Ct (c:=c0) (hf 0 _ 1 rfl rfl);obtain ⟨v1,q⟩:=WG (cs:=[c1,c2,c3,c4,c5]) (hf 1 _ 5 rfl rfl);cases q;obtain ⟨v2,q⟩:=WG (cs:=[c6,c7,c8,c9,c10]) (hf 2 _ 5 rfl rfl);cases q;exact ⟨⟨v0,v1,v2⟩,rfl⟩
theorem ABr {v:AN} (h:Rd enc w base hd 157 [v]):∃A n c l,BV 11 120 Ea w (AA A n c) l/\v=AA A n c:=LK underlying157 h fun _ h=>ADi h
theorem ADh {cs:List AN} (h:Rd enc w base hd 298 cs):∃x,DU w cs x:=by
 obtain ⟨hl,hf⟩:=Dn (k:=8) [1,1,1,5] underlying298 h
 match cs,hl with
 |
  [c0,c1,c2,c3,c4,c5,c6,c7],_=>
  obtain ⟨v0,rfl⟩:=JQ (c:=c0) (hf 0 _ 1 rfl rfl);obtain ⟨v1,rfl⟩:=JQ (c:=c1) (hf 1 _ 1 rfl rfl);obtain ⟨v2,w2,rfl⟩:=Ct (c:=c2) (hf 2 _ 1 rfl rfl);obtain ⟨v3,q⟩:=WG (cs:=[c3,c4,c5,c6,c7]) (hf 3 _ 5 rfl rfl);cases q;exact ⟨⟨v0,v1,v2,v3⟩,rfl⟩
theorem ABp {v:AN} (h:Rd enc w base hd 156 [v]):∃A n c l,BV 8 96 DU w (AA A n c) l/\v=AA A n c:=LK underlying156 h fun _ h=>ADh h
theorem AGi {cs:List AN} (h:Rd enc w base hd 284 cs):∃x,Gs w cs x:=by
 obtain ⟨hl,hf⟩:=Dn (k:=7) [1,1,5] underlying284 h
 match cs,hl with
 |
  [c0,c1,c2,c3,c4,c5,c6],_=>
  obtain ⟨v0,rfl⟩:=JQ (c:=c0) (hf 0 _ 1 rfl rfl);obtain ⟨v1,w1,rfl⟩:=Ct (c:=c1) (hf 1 _ 1 rfl rfl);obtain ⟨v2,q⟩:=WG (cs:=[c2,c3,c4,c5,c6]) (hf 2 _ 5 rfl rfl);cases q;exact ⟨⟨v0,v1,v2⟩,rfl⟩
theorem ADd {v:AN} (h:Rd enc w base hd 158 [v]):∃A n c l,BV 7 80 Gs w (AA A n c) l/\v=AA A n c:=LK underlying158 h fun _ h=>AGi h
theorem ADg {cs:List AN} (h:Rd enc w base hd 294 cs):∃x,Gf w cs x:=by
 obtain ⟨hl,hf⟩:=Dn (k:=5) [1,1,1,1,1] underlying294 h
 match cs,hl with
 |
  [c0,c1,c2,c3,c4],_=>
  exact wJ
theorem ABo {v:AN} (h:Rd enc w base hd 161 [v]):∃A n c l,BV 5 56 Gf w (AA A n c) l/\v=AA A n c:=LK underlying161 h fun _ h=>ADg h
theorem AGj {cs:List AN} (h:Rd enc w base hd 288 cs):∃x,Iq w cs x:=by
 obtain ⟨hl,hf⟩:=Dn (k:=4) [1,1,1,1] underlying288 h
 match cs,hl with
 |
  [c0,c1,c2,c3],_=>
  obtain ⟨v0,rfl⟩:=JQ (c:=c0) (hf 0 _ 1 rfl rfl);obtain ⟨v1,rfl⟩:=JQ (c:=c1) (hf 1 _ 1 rfl rfl);obtain ⟨v2,w2,rfl⟩:=Ct (c:=c2) (hf 2 _ 1 rfl rfl);obtain ⟨v3,w3,rfl⟩:=Ct (c:=c3) (hf 3 _ 1 rfl rfl);exact ⟨⟨v0,v1,v2,v3⟩,rfl⟩
theorem ADf {v:AN} (h:Rd enc w base hd 164 [v]):∃A n c l,BV 4 48 Iq w (AA A n c) l/\v=AA A n c:=LK underlying164 h fun _ h=>AGj h
theorem ADc {cs:List AN} (h:Rd enc w base hd 109 cs):∃x,Nr w cs x:=by
 obtain ⟨hl,hf⟩:=Dn (k:=6) [1,1,1,1,1,1] underlying109 h
 match cs,hl with
 |
  [c0,c1,c2,c3,c4,c5],_=>
  obtain ⟨v0,w0,rfl⟩:=Ct (c:=c0) (hf 0 _ 1 rfl rfl);obtain ⟨v1,w1,rfl⟩:=Ct (c:=c1) (hf 1 _ 1 rfl rfl);obtain ⟨v2,w2,rfl⟩:=Ct (c:=c2) (hf 2 _ 1 rfl rfl);obtain ⟨v3,rfl⟩:=JQ (c:=c3) (hf 3 _ 1 rfl rfl);obtain ⟨v4,w4,rfl⟩:=Ct (c:=c4) (hf 4 _ 1 rfl rfl);obtain ⟨A5,n5,d5,v5,s5,rfl⟩:=iO (v:=c5) (hf 5 _ 1 rfl rfl);exact ⟨⟨v0,v1,v2,v3,v4,v5⟩,⟨A5,n5,d5,rfl,s5⟩⟩
theorem ABq {cs:List AN} (h:Rd enc w base hd 112 cs):∃x,Eg w cs x:=by
 obtain ⟨hl,hf⟩:=Dn (k:=11) [1,6,4] underlying112 h
 match cs,hl with
 |
  [c0,c1,c2,c3,c4,c5,c6,c7,c8,c9,c10],_=>
  obtain ⟨v0,rfl⟩:=JQ (c:=c0) (hf 0 _ 1 rfl rfl);obtain ⟨v1,A1,n1,d1,q,s1⟩:=ADc (cs:=[c1,c2,c3,c4,c5,c6]) (hf 1 _ 6 rfl rfl);cases q;obtain ⟨a,b,c,d,rfl,rfl,rfl,rfl⟩:=AGd (c0:=c7) (c1:=c8) (c2:=c9) (c3:=c10) (hf 2 _ 4 rfl rfl);exact ⟨⟨v0,v1,a,b,c,d⟩,⟨A1,n1,d1,rfl,s1⟩⟩
theorem xW {v:AN} (h:Rd enc w base hd 82 [v]):∃A n c l,BV 11 120 Eg w (AA A n c) l/\v=AA A n c:=LK underlying82 h fun _ h=>ABq h
theorem xX {cs:List AN} (h:Rd enc w base hd 290 cs):∃x,Hw w cs x/\I4 x:=by
 obtain ⟨hl,hf⟩:=Dn (k:=4) [1,1,1,1] underlying290 h
 match cs,hl with
 |
  [c0,c1,c2,c3],_=>
  obtain ⟨A0,n0,d0,v0,s0,rfl⟩:=iO (v:=c0) (hf 0 _ 1 rfl rfl);obtain ⟨v1,rfl⟩:=JQ (c:=c1) (hf 1 _ 1 rfl rfl);obtain ⟨A2,n2,d2,v2,s2,rfl⟩:=SG (v:=c2) (hf 2 _ 1 rfl rfl);obtain ⟨v3,w3,rfl⟩:=Ct (c:=c3) (hf 3 _ 1 rfl rfl);exact ⟨⟨v0,v1,v2,v3⟩,⟨A0,n0,d0,A2,n2,d2,rfl,s0,s2.1⟩,s2.2,w3⟩
theorem sZ {v:AN} (h:Rd enc w base hd 83 [v]):∃A n c l,BV 4 72 Hw w (AA A n c) l/\(∀x∈l,I4 x)/\v=AA A n c:=by obtain ⟨A,n,c,l,hs,e⟩:=LK (sz:=4) (bytes:=72) (R:=fun w cs x=>Hw w cs x/\I4 x) underlying83 h fun _ h=>xX h;exact ⟨A,n,c,l,hs.split.1,hs.split.2,e⟩
theorem xV {cs:List AN} (h:Rd enc w base hd 85 cs):∃x,BW w cs x/\∀d∈x.deps,I4 d:=by
 obtain ⟨hl,hf⟩:=Dn (k:=6) [1,1,1,1,1,1] underlying85 h
 match cs,hl with
 |
  [c0,c1,c2,c3,c4,c5],_=>
  obtain ⟨v0,rfl⟩:=JQ (c:=c0) (hf 0 _ 1 rfl rfl);obtain ⟨v1,rfl⟩:=JQ (c:=c1) (hf 1 _ 1 rfl rfl);obtain ⟨v2,w2,rfl⟩:=Ct (c:=c2) (hf 2 _ 1 rfl rfl);obtain ⟨v3,w3,rfl⟩:=Ct (c:=c3) (hf 3 _ 1 rfl rfl);obtain ⟨A4,n4,d4,v4,s4,rfl⟩:=xW (v:=c4) (hf 4 _ 1 rfl rfl);obtain ⟨A5,n5,d5,v5,s5,t5,rfl⟩:=sZ (v:=c5) (hf 5 _ 1 rfl rfl);exact ⟨⟨v0,v1,v2,v3,v4,v5⟩,⟨A4,n4,d4,A5,n5,d5,rfl,s4,s5⟩,t5⟩
theorem sX {v:AN} (h:Rd enc w base hd 24 [v]):∃A n c l,BV 6 96 BW w (AA A n c) l/\(∀x∈l,∀d∈x.deps,I4 d)/\v=AA A n c:=by obtain ⟨A,n,c,l,hs,e⟩:=LK (sz:=6) (bytes:=96) (R:=fun w cs x=>BW w cs x/\∀d∈x.deps,I4 d) underlying24 h fun _ h=>xV h;exact ⟨A,n,c,l,hs.split.1,hs.split.2,e⟩
theorem ADe {cs:List AN} (h:Rd enc w base hd 160 cs):∃x,CT w cs x:=by
 obtain ⟨hl,hf⟩:=Dn (k:=5) [1,1,1,1,1] underlying160 h
 match cs,hl with
 |
  [c0,c1,c2,c3,c4],_=>
  obtain ⟨v0,rfl⟩:=JQ (c:=c0) (hf 0 _ 1 rfl rfl);obtain ⟨v1,w1,rfl⟩:=Ct (c:=c1) (hf 1 _ 1 rfl rfl);obtain ⟨A2,n2,d2,v2,s2,rfl⟩:=ABp (v:=c2) (hf 2 _ 1 rfl rfl);obtain ⟨A3,n3,d3,v3,s3,rfl⟩:=ABr (v:=c3) (hf 3 _ 1 rfl rfl);obtain ⟨A4,n4,d4,v4,s4,rfl⟩:=ADd (v:=c4) (hf 4 _ 1 rfl rfl);exact ⟨⟨v0,v1,v2,v3,v4⟩,⟨A2,n2,d2,A3,n3,d3,A4,n4,d4,rfl,s2,s3,s4⟩⟩
theorem ABn {v:AN} (h:Rd enc w base hd 25 [v]):∃A n c l,BV 5 96 CT w (AA A n c) l/\v=AA A n c:=LK underlying25 h fun _ h=>ADe h
theorem si {cs:List AN} (h:Rd enc w base hd 163 cs):∃x,CF w cs x:=by
 obtain ⟨hl,hf⟩:=Dn (k:=5) [1,1,1,1,1] underlying163 h
 match cs,hl with
 |
  [c0,c1,c2,c3,c4],_=>
  obtain ⟨v0,rfl⟩:=JQ (c:=c0) (hf 0 _ 1 rfl rfl);obtain ⟨v1,rfl⟩:=JQ (c:=c1) (hf 1 _ 1 rfl rfl);obtain ⟨v2,w2,rfl⟩:=Ct (c:=c2) (hf 2 _ 1 rfl rfl);obtain ⟨v3,w3,rfl⟩:=Ct (c:=c3) (hf 3 _ 1 rfl rfl);obtain ⟨A4,n4,d4,v4,s4,rfl⟩:=ABo (v:=c4) (hf 4 _ 1 rfl rfl);exact ⟨⟨v0,v1,v2,v3,v4⟩,⟨A4,n4,d4,rfl,s4⟩⟩
theorem pK {v:AN} (h:Rd enc w base hd 26 [v]):∃A n c l,BV 5 72 CF w (AA A n c) l/\v=AA A n c:=LK underlying26 h fun _ h=>si h
theorem sY {cs:List AN} (h:Rd enc w base hd 166 cs):∃x,BZ w cs x:=by
 obtain ⟨hl,hf⟩:=Dn (k:=3) [1,1,1] underlying166 h
 match cs,hl with
 |
  [c0,c1,c2],_=>
  obtain ⟨v0,rfl⟩:=JQ (c:=c0) (hf 0 _ 1 rfl rfl);obtain ⟨A1,n1,d1,v1,s1,rfl⟩:=ADf (v:=c1) (hf 1 _ 1 rfl rfl);obtain ⟨v2,w2,rfl⟩:=Ct (c:=c2) (hf 2 _ 1 rfl rfl);exact ⟨⟨v0,v1,v2⟩,⟨A1,n1,d1,rfl,s1⟩⟩
theorem pJ {v:AN} (h:Rd enc w base hd 27 [v]):∃A n c l,BV 3 48 BZ w (AA A n c) l/\v=AA A n c:=LK underlying27 h fun _ h=>sY h
theorem xT {cs:List AN} (h:Rd enc w base hd 29 cs):∃x,bC w cs x/\∀y∈x.Aq,∀d∈y.deps,I4 d:=by
 obtain ⟨hl,hf⟩:=Dn (k:=6) [1,1,1,1,1,1] underlying29 h
 match cs,hl with
 |
  [c0,c1,c2,c3,c4,c5],_=>
  obtain ⟨A0,n0,d0,v0,s0,rfl⟩:=iO (v:=c0) (hf 0 _ 1 rfl rfl);obtain ⟨A1,n1,d1,v1,s1,rfl⟩:=ABm (v:=c1) (hf 1 _ 1 rfl rfl);obtain ⟨A2,n2,d2,v2,s2,t2,rfl⟩:=sX (v:=c2) (hf 2 _ 1 rfl rfl);obtain ⟨A3,n3,d3,v3,s3,rfl⟩:=ABn (v:=c3) (hf 3 _ 1 rfl rfl);obtain ⟨A4,n4,d4,v4,s4,rfl⟩:=pK (v:=c4) (hf 4 _ 1 rfl rfl);obtain ⟨A5,n5,d5,v5,s5,rfl⟩:=pJ (v:=c5) (hf 5 _ 1 rfl rfl);exact ⟨⟨v0,v1,v2,v3,v4,v5⟩,⟨A0,n0,d0,A1,n1,d1,A2,n2,d2,A3,n3,d3,A4,n4,d4,A5,n5,d5,rfl,s0,s1,s2,s3,s4,s5⟩,t2⟩
theorem xY {r:Reach} {b:Nat} {t e:Ae} {n:Nat} {v:AN} (ht:P.underlying t=some (.array n e)) (h:Value.okWide P w r b t v):∃cs,v=.agg cs:=by simp only [Value.okWide,ht] at h;obtain ⟨cs,h1,_⟩:=h;exact ⟨cs,h1⟩
theorem WA {t:Ae} {cs:Array AN} {d:DataW H} {ps:List MemPlace} (h:DataW.Trod enc prog w base (fun _=>true) hd t (.agg cs) d ps) (hw:M5 prog t d):Rd enc w base hd t cs.toList:=by obtain ⟨n,h⟩:=h;exact ⟨n,(d,ps),h,hw⟩
theorem AHI {b0:Nat} {v:AN} {d:DataW H} {ps:List MemPlace} (hv:Value.okWide prog w .any b0 34 v) (h:DataW.Trod enc prog w base (fun _=>true) hd 34 v d ps) (hw:M5 prog 34 d):∃l,l.length=32/\v=.agg (yA l):=by obtain ⟨cs,rfl⟩:=xY underlying34 hv;obtain ⟨l,hl,e⟩:=Sj (WA h hw);exact ⟨l,hl,by rw [yA,<-e]⟩
theorem lF {b0:Nat} {v:AN} {d:DataW H} {ps:List MemPlace} (hv:Value.okWide prog w .any b0 36 v) (h:DataW.Trod enc prog w base (fun _=>true) hd 36 v d ps) (hw:M5 prog 36 d):∃r:Br,r.root.length=32/\v=.agg (rdA r):=by
 obtain ⟨⟨cs⟩,rfl,_⟩:=okWide_struct underlying36 hv;obtain ⟨hl,hf⟩:=Dn (k:=38) [1,1,1,1,1,1,32] underlying36 (WA h hw)
 match cs,hl with
 |
  c0::c1::c2::c3::c4::c5::l,hl=>
  obtain ⟨v0,w0,rfl⟩:=Ct (c:=c0) (hf 0 _ 1 rfl rfl);obtain ⟨v1,w1,rfl⟩:=Ct (c:=c1) (hf 1 _ 1 rfl rfl);obtain ⟨v2,w2,rfl⟩:=Ct (c:=c2) (hf 2 _ 1 rfl rfl);obtain ⟨v3,w3,rfl⟩:=Ct (c:=c3) (hf 3 _ 1 rfl rfl);obtain ⟨v4,w4,rfl⟩:=Ct (c:=c4) (hf 4 _ 1 rfl rfl);obtain ⟨v5,w5,rfl⟩:=Ct (c:=c5) (hf 5 _ 1 rfl rfl);obtain ⟨d,hdl,e⟩:=Sj (cs:=l.take 32) (hf 6 _ 32 rfl rfl);rw [C7 (by simp at hl;omega)] at e;exact ⟨⟨v0,v1,v2,v3,v4,v5,d⟩,hdl,by rw [e,rdA,yA];simp⟩
theorem lH {b0:Nat} {v:AN} {d:DataW H} {ps:List MemPlace} (hv:Value.okWide prog w .any b0 39 v) (h:DataW.Trod enc prog w base (fun _=>true) hd 39 v d ps) (hw:M5 prog 39 d):∃a b holder A n c l,holder.length=32/\BV 32 32 CP w (AA A n c) l/\v=.agg (Hp a b holder (AA A n c)):=by
 obtain ⟨⟨cs⟩,rfl,_⟩:=okWide_struct underlying39 hv;obtain ⟨hl,hf⟩:=Dn (k:=35) [1,1,32,1] underlying39 (WA h hw)
 match cs,hl with
 |
  c0::c1::l,hl=>
  obtain ⟨v0,w0,rfl⟩:=Ct (c:=c0) (hf 0 _ 1 rfl rfl);obtain ⟨v1,w1,rfl⟩:=Ct (c:=c1) (hf 1 _ 1 rfl rfl);obtain ⟨d,hdl,e⟩:=Sj (cs:=l.take 32) (hf 2 _ 32 rfl rfl);have hl:l.length=33:=by simpa using hl
  have e2:(l.drop 32).take 1=[l[32]]:=by rw [List.take_one,List.head?_drop,BN AG];rfl
  have h3:Rd enc w base hd 37 (((Value.int .i64 v0::AB AE v1::l).drop 34).take 1):=hf 3 _ 1 rfl rfl;rw [show ((Value.int .i64 v0::AB AE v1::l).drop 34).take 1=[l[32]] from e2] at h3;obtain ⟨A,n,c,q,hs,e3⟩:=Zl h3;refine ⟨v0,v1,d,A,n,c,q,hdl,hs,?_⟩;have e4:l=d.map (Value.int .u8)++[AA A n c]:=by rw [<-e,<-e3,<-e2,C7 (l:=l.drop 32) Bd,OU]
  rw [e4,Hp,yA];simp
theorem qo {b0:Nat} {v:AN} {d:DataW H} {ps:List MemPlace} (hv:Value.okWide prog w .any b0 41 v) (h:DataW.Trod enc prog w base (fun _=>true) hd 41 v d ps) (hw:M5 prog 41 d):∃a b c A n k l,(Ag 1 Bt w (AA A n k) l/\l.length*8<=140737488355328)/\v=.agg #[AB AE a,AB AE b,AB AE c,AA A n k]:=by
 obtain ⟨⟨cs⟩,rfl,_⟩:=okWide_struct underlying41 hv;obtain ⟨hl,hf⟩:=Dn (k:=4) [1,1,1,1] underlying41 (WA h hw)
 match cs,hl with
 |
  [c0,c1,c2,c3],_=>
  obtain ⟨v0,w0,rfl⟩:=Ct (c:=c0) (hf 0 _ 1 rfl rfl);obtain ⟨v1,w1,rfl⟩:=Ct (c:=c1) (hf 1 _ 1 rfl rfl);obtain ⟨v2,w2,rfl⟩:=Ct (c:=c2) (hf 2 _ 1 rfl rfl);obtain ⟨A,n,k,l,s,rfl⟩:=SG (v:=c3) (hf 3 _ 1 rfl rfl);exact ⟨v0,v1,v2,A,n,k,l,⟨N8 s,s.1.2⟩,rfl⟩
theorem eZ {b0:Nat} {v:AN} {d:DataW H} {ps:List MemPlace} (hv:Value.okWide prog w .any b0 32 v) (h:DataW.Trod enc prog w base (fun _=>true) hd 32 v d ps) (hw:M5 prog 32 d):
 ∃A1 n1 c1 A2 n2 c2 A3 n3 c3 A4 n4 c4 A5 n5 c5 A6 n6 c6 A7 n7 c7,∃(s:BG) (l:AQ),v=.agg #[AA A1 n1 c1,AA A2 n2 c2,AA A3 n3 c3,AA A4 n4 c4,AA A5 n5 c5,AA A6 n6 c6,AA A7 n7 c7]/\BV 1 16 Dd w (AA A1 n1 c1) s.Bh/\BV 5 56 CS w (AA A2 n2 c2) s.units/\BV 6 96 BW w (AA A3 n3 c3) s.Aq/\BV 5 96 CT w (AA A4 n4 c4) s.rules/\BV 5 72 CF w (AA A5 n5 c5) s.converts/\BV 3 48 BZ w (AA A6 n6 c6) s.purposes/\Ag 1 iR w (AA A7 n7 c7) l/\∀x∈s.Aq,∀d∈x.deps,I4 d:=by
 obtain ⟨⟨cs⟩,rfl,_⟩:=okWide_struct underlying32 hv;obtain ⟨hl,hf⟩:=Dn (k:=7) [6,1] underlying32 (WA h hw)
 match cs,hl with
 |
  [u1,u2,u3,u4,u5,u6,u7],_=>
  obtain ⟨s,⟨A1,n1,c1,A2,n2,c2,A3,n3,c3,A4,n4,c4,A5,n5,c5,A6,n6,c6,he,h1,h2,h3,h4,h5,h6⟩,hI⟩:=xT (cs:=[u1,u2,u3,u4,u5,u6]) (hf 0 _ 6 rfl rfl);cases he;obtain ⟨A7,n7,c7,l,h7,rfl⟩:=SG (v:=u7) (hf 1 _ 1 rfl rfl);exact ⟨A1,n1,c1,A2,n2,c2,A3,n3,c3,A4,n4,c4,A5,n5,c5,A6,n6,c6,A7,n7,c7,s,l,rfl,h1,h2,h3,h4,h5,h6,h7.1.1,hI⟩
end
open Go.Shelf
theorem k9 (VA LA:Option Addr) (vn vc ln lc:Nat):prog.built 46 [(5,AA VA vn vc),(6,AA LA ln lc)]=some (Fo ⟨0,0,0,0,zeros 32,AA VA vn vc,AA LA ln lc,AA none 0 0⟩):=by kernel_rfl
theorem yZ (w:AH) (A B C D E:Array AN) (T1 T2 T3 T4 T5:Ae):∃w',w'=(((((w.alloc (AO A T1)).alloc (AO B T2)).alloc (AO C T3)).alloc (AO D T4)).alloc (AO E T5))/\AY w' w.heap.size T1 A/\AY w' (w.heap.size+1) T2 B/\AY w' (w.heap.size+1+1) T3 C/\AY w' (w.heap.size+1+1+1) T4 D/\AY w' (w.heap.size+1+1+1+1) T5 E/\AK w w'/\w'.heap.size=w.heap.size+1+1+1+1+1:=by obtain ⟨k1,b1,s1⟩:=bx w A T1;obtain ⟨k2,b2,s2⟩:=bx (w.alloc (AO A T1)) B T2;rw [s1] at k2 b2 s2;obtain ⟨k3,b3,s3⟩:=bx ((w.alloc (AO A T1)).alloc (AO B T2)) C T3;rw [s2] at k3 b3 s3;obtain ⟨k4,b4,s4⟩:=bx (((w.alloc (AO A T1)).alloc (AO B T2)).alloc (AO C T3)) D T4;rw [s3] at k4 b4 s4;obtain ⟨k5,b5,s5⟩:=bx ((((w.alloc (AO A T1)).alloc (AO B T2)).alloc (AO C T3)).alloc (AO D T4)) E T5;rw [s4] at k5 b5 s5;exact ⟨_,rfl,(((k1.below b2 AG).below b3 AG).below b4 AG).below b5 AG,((k2.below b3 AG).below b4 AG).below b5 AG,(k3.below b4 AG).below b5 AG,k4.below b5 AG,k5,(((b1.trans (b2.mono AG)).trans (b3.mono AG)).trans (b4.mono AG)).trans (b5.mono AG),s5⟩
theorem Ag.AHe {α:Type} {sz:Nat} {R:AH->List AN->α->Prop} (hC:Qg R) {w:AH} {v:AN} {l:List α} (h:Ag sz R w v l):Ag sz R (veil [] w) v l:=
 h.PT hC gW (fun a v hv=>by rw [Ke (Iy AZ)];exact hv)
theorem Ag.AK2 {w:AH} {v:AN} {l:List (AQ)} (h:Ag 32 CP w v l):∀d∈l,d.length=32:=by obtain ⟨A,cap,_,_,_,h⟩:=h;intro d hd;obtain ⟨i,hi⟩:=Y9 hd;obtain ⟨_,_,cs,_,_,_,_,hr⟩:=h i d hi;exact hr.2
theorem AGQ {q:EG} (h:∀d∈q.links,d.length=32) (n:Nat) (fs:AQ) (link:Int):(Hx n q fs link).token.length=32:=by
 exact AAf
end Go.Proofs.YtamhoilkpppdbaaGreatDoor
