import Derived.Test.YtpmpddfgifhlbaaGreatDoorRows
import Derived.Test.YtpmpddfgifhlbaaGreatDoorM05
import Derived.Test.YtpmpddfgifhlbaaGreatDoorM15
import Derived.Test.YtpmpddfgifhlbaaGreatDoorM16
namespace Go.Proofs.YtpmpddfgifhlbaaGreatDoor
set_option maxHeartbeats 8000000
set_option maxRecDepth 100000
open Go renaming World→AH, Value→AK, TypeId→Ae, Program→BB
open Go.Proofs.Tryz
open Go.Value renaming slice→AA, int→AB
open Go.IntKind renaming i64→AE
open Go.Obj renaming cells→AQ
open Go.ChangeShapes Go.WideShapes Go.ChangeAt Go.RowKit Go.Deep
section
variable {H:Type} {enc:Ae×AK->H} {P:BB} {w:AH} {base:Nat} {hd:Bool}
theorem jf (b off k:Nat):(Addr.mk b off none).add k=⟨b,off+k,none⟩:=by
 unfold Addr.add;split
 · subst_vars;rfl
 · rfl
theorem WE (hl:laidOutB P=true) {W W':AH} {sp:Nat->Bool} (hb:AJ W W'):∀{ts:List Ae} {vs:List AK} {ds:List (DataW H)} {ps:List MemPlace},
 ts.all (fun t=>P.readableRec t && decide (t < P.types.size))=true->DataW.TrodAll enc P W 0 (fun _=>true) true ts vs ds ps->(∀x∈ps,x.block < W.heap.size)->(∀x∈ps,sp x.block=true)->
 DataW.TrodAll enc P W' 0 sp true ts vs ds ps
 |
  [],_,_,_,_,h,_,_=>by
  obtain ⟨rfl,rfl,rfl⟩:=trodAll_nil h;exact trodAll_mk0
 |
  t::ts,_,_,_,ht,h,hlt,hsp=>by
  obtain ⟨v,vs,d,ds,p,q,rfl,rfl,rfl,h1,h2⟩:=trodAll_cons h;simp only [Pa,BZ,Bw] at ht;exact trodAll_cons_mk (WideElems.Trod_stays hl ht.1.1 ht.1.2 h1 (fun x hx=>hb.same (hlt x (Rc _ hx))) (fun x hx=>hsp x (Rc _ hx)))
   (WE hl hb ht.2 h2 (fun x hx=>hlt x (List.mem_append_right _ hx)) (fun x hx=>hsp x (List.mem_append_right _ hx)))
theorem ADM (hl:laidOutB P=true) {f:Func} {s:ChangeSpec} {tb:Ae} {apart fresh handsOn:Bool} {W W':AH} {args:Array AK} {ds gs:List (DataW H)} {before:List MemPlace}
 (hW:DataW.Whole enc P f.params.toList s.vars apart W args.toList ds gs before) (hsv:s.vars=[]) (hr:f.resultTypes=#[tb]) (htb:P.underlying tb=some .bool)
 (hts:f.params.toList.all (fun t=>P.readableRec t && decide (t < P.types.size))=true)
 (hres:(s.fn H (ds++gs)).results=[.lit (.bool true)]) (hargs:(s.fn H (ds++gs)).args=ds) (hvars:(s.fn H (ds++gs)).vars=[])
 (hb:AJ W W'):s.post enc P f apart fresh handsOn false W args (.bool true) W':=by
 have hlt:∀x∈before,x.block < W.heap.size:=fun x hx=>hW.lt x hx;have hW':=hW;obtain ⟨p,q,hA,hV,rfl,hfz,hnd⟩:=hW;rw [hsv] at hV;obtain ⟨rfl,rfl⟩:=trodVars_none hV;refine ⟨ds,[],p++[],[],p,[],hW',?_,?_,?_,World.keptBut_mono (fun x hx=>⟨hx,?_⟩) (hb.frame (· ∈p++[])),fun h=> ?_⟩
 ·rw [hres,hr]
  exact trodAll_mk1 (shut_bool htb true)
 ·rw [hargs]
  exact WE hl hb hts hA (fun x hx=>hlt x (Rc _ hx)) (fun x hx=>by simpa using hlt x (Rc _ hx))
 ·rw [hvars,hsv]
  exact rfl
 · exact Or.inr (Or.inl (by simpa using hx))
 · cases h
end
section
variable {H:Type} {enc:Ae×AK->H} {P:BB} {w:AH} {base:Nat} {hd:Bool}
def PG (P:BB) (t:Ae) (d:DataW H):Prop:=∀n∈d.weights P t,n<=reachBytes
theorem Us {e:Ae}:∀{l:List (DataW H)} {d:DataW H},d∈l->∀n∈d.weights P e,n∈DataW.weightsAll P e l
 |
  x::r,d,hm,n,hn=>by
  simp only [DataW.weightsAll,Jq];rcases CO.1 hm with rfl | hm
  · exact .inl hn
  · exact .inr (Us hm n hn)
 | [],_,hm,_,_=>by cases hm
theorem ACk {α:Type} {sz bytes:Nat} {R:AH->List AK->α->Prop} {t e:Ae} {fuel:Nat} {v:AK} {x:DataW H×List MemPlace} (ht:P.underlying t=some (.slice e)) (hC:P.cellsOf e=sz) (hz:0 < sz) (hby:P.bytesOf e=bytes)
 (h:DataW.trod enc P w base (fun _=>true) hd fuel t [v]=some x) (hw:PG P t x.1)
 (hR:∀(n:Nat) (cs:List AK) (y:DataW H×List MemPlace),cs.length=sz->DataW.trod enc P w base (fun _=>true) hd n e cs=some y->PG P e y.1->∃a,R w cs a):
 ∃A n c l,v=AA A n c/\BQ sz bytes R w (AA A n c) l:=by
 rcases open_slice ht h with ⟨hcs,_⟩ | ⟨a,len,cap,m,n,D,Pl,hcs,hb,hl,hm,hmm,hx,hi⟩
 ·injection hcs with hcs
  exact ⟨none,0,0,[],hcs,Ag.nil _ _ (Ar _),by simp⟩
 injection hcs with hcs;have hmc:m=cap:=by rw [hmm];simp
 subst hmc;rw [hC] at hi;subst hx;have hwt:∀n∈(DataW.slice ((List.range len).map D) ((List.range (m - len)).map fun j=>D (len+j))).weights P t,n<=reachBytes:=hw;simp only [DataW.weights,ht] at hwt;have hbound:len*bytes<=140737488355328:=by
  have h1:=hwt _ OI;simp only [CX,Yf,hby] at h1;have h2:len*bytes<=(len+(m - len))*bytes:=Jr _ AG;have h3:reachBytes<=140737488355328:=BE
  omega
 have hex:∀i,i < len->∃(x:α) (cs:List AK),w.cells? base (a.add (i*sz)) sz=some cs/\R w cs x:=by intro i hlt;obtain ⟨cs,h1,h2⟩:=hi i AG;obtain ⟨y,hy⟩:=hR _ cs _ (World.cells?_some h1).2.1 h2 (fun n hn=>hwt n (Mx _ (Rc _ (Us (Df.2 ⟨i,Ef.2 hlt,rfl⟩) n hn))));exact ⟨y,cs,h1,hy⟩
 refine ⟨some a,len,m,List.ofFn (fun i:Fin len=>Classical.choose (hex i.1 i.2)),hcs,⟨some a,m,by simp,by simpa using hl,hm,fun i x hix=> ?_⟩,by simpa using hbound⟩;rw [List.getElem?_ofFn] at hix;split at hix
 ·rename_i hlt
  injection hix with hix;obtain ⟨cs,h1,h2⟩:=Classical.choose_spec (hex i hlt);rw [hix] at h2;have hsp:a.spot=none:=by obtain ⟨_,cs0,h3,_⟩:=hex 0 AG;obtain ⟨_,k1,k2⟩:=World.cells?_some h3;have k3:=k2 0 hz;rw [BJ AG] at k3;have:=World.cell?_spot k3;simpa [Addr.add] using this
  obtain ⟨b,off,spot⟩:=a;subst hsp;obtain ⟨_,k1,k2⟩:=World.cells?_some h1;have hcell:∀j u,cs[j]? =some u->w.cell? ⟨b,off+(i*sz+j),none⟩=some u:=by
   intro j u hu;have hj:j < sz:=by have:=(BA.1 hu).1;omega
   have:=k2 j hj;rw [jf,jf,hu] at this;rw [<-this,L0]
  refine ⟨b,off,cs,rfl,?_,k1,hcell,h2⟩;have h0:=hcell 0 cs[0] (BJ AG);exact World.block_lt_of_cell? _ _ h0
 · exact absurd hix Ac
theorem vi {t:Ae} {fs:Array Field} {fuel k:Nat} {cs:List AK} {x:DataW H×List MemPlace} {sp:Nat->Bool} (ht:P.underlying t=some (.struct fs)) (ks:List Nat) (hks:fs.toList.map (fun f=>P.cellsOf f.type)=ks) (hC:P.cellsOf t=k)
 (h:DataW.trod enc P w base sp hd fuel t cs=some x) (hw:PG P t x.1):
 cs.length=k/\∃n,∀(i:Nat) (f:Field) (c:Nat),fs[i]? =some f->ks[i]? =some c->∃y,DataW.trod enc P w base sp hd n f.type ((cs.drop f.offset).take c)=some y/\PG P f.type y.1:=by
 obtain ⟨xs,n,_,hx,hl,hxl,hf⟩:=DataW.trod_struct ht h;refine ⟨hl.trans hC,n,fun i f c hi hc=> ?_⟩;have hcc:c=P.cellsOf f.type:=by
  rw [<-hks,Be] at hc;have h2:fs.toList[i]? =some f:=by simpa using hi
  rw [h2,Cu,Bq] at hc;exact hc.symm
 subst hcc;have hlt:i < fs.size:=(Cz.1 hi).1;have h1:=hf i f hi;rw [BJ AG] at h1;refine ⟨_,h1,fun m hm=>hw m ?_⟩;subst hx;show m∈(DataW.agg (xs.map (·.1))).weights P t;simp only [DataW.weights,ht];exact DataW.weights_mem_each (j:=i) (t:=f.type) (d:=(xs[i]' AG).1) (by rw [Be];simp [hi]) (by rw [Be,BJ AG];rfl) m hm
theorem Ag.split {α:Type} {sz:Nat} {R:AH->List AK->α->Prop} {Q:α->Prop} {w:AH} {v:AK} {l:List α} (h:Ag sz (fun w cs x=>R w cs x/\Q x) w v l):Ag sz R w v l/\∀x∈l,Q x:=by
 obtain ⟨A,cap,e,h1,h2,h3⟩:=h;refine ⟨⟨A,cap,e,h1,h2,fun i y hi=> ?_⟩,fun x hx=> ?_⟩
 ·obtain ⟨b,off,cs,e1,e2,e3,e4,e5,_⟩:=h3 i y hi
  exact ⟨b,off,cs,e1,e2,e3,e4,e5⟩
 obtain ⟨i,hi⟩:=eO hx;obtain ⟨b,off,cs,e1,e2,e3,e4,_,e5⟩:=h3 i x hi;exact e5
theorem BQ.split {α:Type} {sz Hh:Nat} {R:AH->List AK->α->Prop} {Q:α->Prop} {w:AH} {v:AK} {l:List α} (h:BQ sz Hh (fun w cs x=>R w cs x/\Q x) w v l):BQ sz Hh R w v l/\∀x∈l,Q x:=
 ⟨⟨h.1.split.1,h.2⟩,h.1.split.2⟩
def Rd (enc:Ae×AK->H) (w:AH) (base:Nat) (hd:Bool) (t:Ae) (cs:List AK):Prop:=∃n y,DataW.trod enc prog w base (fun _=>true) hd n t cs=some y/\PG prog t y.1
theorem De {t:Ae} {fs:Array Field} {k:Nat} {cs:List AK} (ks:List Nat) (ht:prog.underlying t=some (.struct fs)) (h:Rd enc w base hd t cs) (hks:fs.toList.map (fun f=>prog.cellsOf f.type)=ks:=by kernel_rfl) (hC:prog.cellsOf t=k:=by kernel_rfl):
 cs.length=k/\∀(i:Nat) (f:Field) (c:Nat),fs[i]? =some f->ks[i]? =some c->Rd enc w base hd f.type ((cs.drop f.offset).take c):=by
 obtain ⟨m,y,h,hw⟩:=h;obtain ⟨hl,n,hf⟩:=vi ht ks hks hC h hw;exact ⟨hl,fun i f c a b=>⟨n,hf i f c a b⟩⟩
theorem I3 {c:AK} (h:Rd enc w base hd 9 [c]):∃s,c=.string s:=by obtain ⟨n,y,h,_⟩:=h;obtain ⟨s,e,_,_⟩:=DataW.trod_string underlying9 h;injection e with e;exact ⟨s,e⟩
theorem Cp {c:AK} (h:Rd enc w base hd 3 [c]):∃k,Ox k/\c=AB AE k:=by obtain ⟨n,y,h,_⟩:=h;obtain ⟨k,e,_,hk⟩:=DataW.trod_int underlying3 h;injection e with e;exact ⟨k,by simpa [Ox,Lit.wf,IntKind.min,IntKind.max,IntKind.signed,IntKind.bits] using hk,e⟩
theorem Km {α:Type} {sz bytes:Nat} {R:AH->List AK->α->Prop} {t e:Ae} {v:AK} (ht:prog.underlying t=some (.slice e)) (h:Rd enc w base hd t [v]) (hR:∀cs,Rd enc w base hd e cs->∃a,R w cs a) (hC:prog.cellsOf e=sz:=by kernel_rfl) (hz:0 < sz:=by decide) (hby:prog.bytesOf e=bytes:=by kernel_rfl):
 ∃A n c l,BQ sz bytes R w (AA A n c) l/\v=AA A n c:=by
 obtain ⟨n,y,h,hw⟩:=h;obtain ⟨A,n,c,l,e,hs⟩:=ACk ht hC hz hby h hw fun m cs y _ hy hv=>hR cs ⟨m,y,hy,hv⟩;exact ⟨A,n,c,l,hs,e⟩
theorem gI {v:AK} (h:Rd enc w base hd 22 [v]):∃A n c l,BQ 1 16 DV w (AA A n c) l/\v=AA A n c:=
 Km underlying22 h fun cs h=>by obtain ⟨n,y,h,_⟩:=h;obtain ⟨s,rfl,_,_⟩:=DataW.trod_string underlying9 h;exact ⟨s,rfl⟩
theorem Rl {v:AK} (h:Rd enc w base hd 30 [v]):∃A n c l,(BQ 1 8 iR w (AA A n c) l/\∀x∈l,Ox x)/\v=AA A n c:=by
 obtain ⟨A,n,c,l,hs,e⟩:=Km (sz:=1) (bytes:=8) (R:=fun w cs x=>iR w cs x/\Ox x) underlying30 h fun cs h=>by obtain ⟨n,y,h,_⟩:=h;obtain ⟨k,rfl,_,hk⟩:=DataW.trod_int underlying3 h;exact ⟨k,rfl,by simpa [Ox,Lit.wf,IntKind.min,IntKind.max,IntKind.signed,IntKind.bits] using hk⟩
 exact ⟨A,n,c,l,hs.split,e⟩
theorem Nu {w:AH} {v:AK} {l:AP} {b:Nat} (h:BQ 1 b iR w v l/\∀x∈l,Ox x):Ag 1 CF w v l:=jL h.1.1 h.2
theorem AA9 {t e:Ae} {n:Nat} {k:IntKind} {cs:List AK} (ht:prog.underlying t=some (.array n e)) (he:prog.underlying e=some (.int k)) (h:Rd enc w base hd t cs) (hC:prog.cellsOf t=n:=by kernel_rfl) (h1:prog.cellsOf e=1:=by kernel_rfl):∃d:AP,d.length=n/\cs=d.map (Value.int k):=by
 obtain ⟨m,y,h,_⟩:=h;obtain ⟨xs,m,_,_,hl,hx,hf⟩:=DataW.trod_array ht h;rw [h1] at hf;replace hl:cs.length=n:=hl.trans hC;have hall:∀u∈cs,∃x,u=Value.int k x:=fun u hu=>by
  obtain ⟨i,hi⟩:=eO hu;have hlt:i < n:=by have:=(BA.1 hi).1;omega
  have h2:=(hf i hlt).trans (BJ AG);have e:(cs.drop (i*1)).take 1=[u]:=by rw [F9,List.take_one,List.head?_drop,hi];rfl
  rw [e] at h2;obtain ⟨x,e,_,_⟩:=DataW.trod_int he h2;injection e with e;exact ⟨x,e⟩
 clear hf h hC ht he h1;subst hl;clear hx
 induction cs with
 | nil=>exact ⟨[],rfl,rfl⟩
 |
  cons u r ih=>
  obtain ⟨x,rfl⟩:=hall u OI;obtain ⟨d,h1,rfl⟩:=ih fun u hu=>hall u (Mx _ hu);exact ⟨x::d,by simp,rfl⟩
theorem SE {cs:List AK} (h:Rd enc w base hd 34 cs):∃d:AP,d.length=32/\cs=d.map (Value.int .u8):=AA9 underlying34 underlying5 h
theorem Y8 {v:AK} (h:Rd enc w base hd 37 [v]):∃A n c l,BQ 32 32 CQ w (AA A n c) l/\v=AA A n c:=
 Km underlying37 h fun cs h=>by obtain ⟨d,hl,e⟩:=SE h;exact ⟨d,e,hl⟩
theorem AGA {c0 c1 c2 c3:AK} (h:Rd enc w base hd 98 [c0,c1,c2,c3]):∃a b c d,c0=AB AE a/\c1=AB AE b/\c2=AB AE c/\c3=AB AE d:=by
 obtain ⟨l,hl,e⟩:=AA9 underlying98 underlying3 h
 match l,hl with
 |
  [a,b,c,d],_=>
  simp only [Fi,OD,RT,and_true] at e;exact ⟨a,b,c,d,e⟩
theorem AC9 {cs:List AK} (h:Rd enc w base hd 193 cs):∃x,CK w cs x:=by
 obtain ⟨hl,hf⟩:=De (k:=5) [1,1,1,1,1] underlying193 h
 match cs,hl with
 |
  [c0,c1,c2,c3,c4],_=>
  exact vU
theorem ABN {v:AK} (h:Rd enc w base hd 23 [v]):∃A n c l,BQ 5 56 CK w (AA A n c) l/\v=AA A n c:=Km underlying23 h fun _ h=>AC9 h
theorem Vc {cs:List AK} (h:Rd enc w base hd 271 cs):∃x,AGu w cs x:=by
 obtain ⟨hl,hf⟩:=De (k:=5) [1,1,1,1,1] underlying271 h
 match cs,hl with
 |
  [c0,c1,c2,c3,c4],_=>
  exact vU
theorem ADH {cs:List AK} (h:Rd enc w base hd 273 cs):∃x,EQ w cs x:=by
 obtain ⟨hl,hf⟩:=De (k:=11) [1,5,5] underlying273 h
 match cs,hl with
 |
  [c0,c1,c2,c3,c4,c5,c6,c7,c8,c9,c10],_=>
  obtain ⟨v0,w0,rfl⟩:=Cp (c:=c0) (hf 0 _ 1 rfl rfl);obtain ⟨v1,q⟩:=Vc (cs:=[c1,c2,c3,c4,c5]) (hf 1 _ 5 rfl rfl);cases q;obtain ⟨v2,q⟩:=Vc (cs:=[c6,c7,c8,c9,c10]) (hf 2 _ 5 rfl rfl);cases q;exact ⟨⟨v0,v1,v2⟩,rfl⟩
theorem ABS {v:AK} (h:Rd enc w base hd 148 [v]):∃A n c l,BQ 11 120 EQ w (AA A n c) l/\v=AA A n c:=Km underlying148 h fun _ h=>ADH h
theorem ADG {cs:List AK} (h:Rd enc w base hd 290 cs):∃x,DI w cs x:=by
 obtain ⟨hl,hf⟩:=De (k:=8) [1,1,1,5] underlying290 h
 match cs,hl with
 |
  [c0,c1,c2,c3,c4,c5,c6,c7],_=>
  obtain ⟨v0,rfl⟩:=I3 (c:=c0) (hf 0 _ 1 rfl rfl);obtain ⟨v1,rfl⟩:=I3 (c:=c1) (hf 1 _ 1 rfl rfl);obtain ⟨v2,w2,rfl⟩:=Cp (c:=c2) (hf 2 _ 1 rfl rfl);obtain ⟨v3,q⟩:=Vc (cs:=[c3,c4,c5,c6,c7]) (hf 3 _ 5 rfl rfl);cases q;exact ⟨⟨v0,v1,v2,v3⟩,rfl⟩
theorem ABQ {v:AK} (h:Rd enc w base hd 147 [v]):∃A n c l,BQ 8 96 DI w (AA A n c) l/\v=AA A n c:=Km underlying147 h fun _ h=>ADG h
theorem AGG {cs:List AK} (h:Rd enc w base hd 276 cs):∃x,Gc w cs x:=by
 obtain ⟨hl,hf⟩:=De (k:=7) [1,1,5] underlying276 h
 match cs,hl with
 |
  [c0,c1,c2,c3,c4,c5,c6],_=>
  obtain ⟨v0,rfl⟩:=I3 (c:=c0) (hf 0 _ 1 rfl rfl);obtain ⟨v1,w1,rfl⟩:=Cp (c:=c1) (hf 1 _ 1 rfl rfl);obtain ⟨v2,q⟩:=Vc (cs:=[c2,c3,c4,c5,c6]) (hf 2 _ 5 rfl rfl);cases q;exact ⟨⟨v0,v1,v2⟩,rfl⟩
theorem ADB {v:AK} (h:Rd enc w base hd 149 [v]):∃A n c l,BQ 7 80 Gc w (AA A n c) l/\v=AA A n c:=Km underlying149 h fun _ h=>AGG h
theorem ADF {cs:List AK} (h:Rd enc w base hd 286 cs):∃x,GJ w cs x:=by
 obtain ⟨hl,hf⟩:=De (k:=5) [1,1,1,1,1] underlying286 h
 match cs,hl with
 |
  [c0,c1,c2,c3,c4],_=>
  exact vU
theorem ABP {v:AK} (h:Rd enc w base hd 152 [v]):∃A n c l,BQ 5 56 GJ w (AA A n c) l/\v=AA A n c:=Km underlying152 h fun _ h=>ADF h
theorem AGH {cs:List AK} (h:Rd enc w base hd 280 cs):∃x,IF w cs x:=by
 obtain ⟨hl,hf⟩:=De (k:=4) [1,1,1,1] underlying280 h
 match cs,hl with
 |
  [c0,c1,c2,c3],_=>
  obtain ⟨v0,rfl⟩:=I3 (c:=c0) (hf 0 _ 1 rfl rfl);obtain ⟨v1,rfl⟩:=I3 (c:=c1) (hf 1 _ 1 rfl rfl);obtain ⟨v2,w2,rfl⟩:=Cp (c:=c2) (hf 2 _ 1 rfl rfl);obtain ⟨v3,w3,rfl⟩:=Cp (c:=c3) (hf 3 _ 1 rfl rfl);exact ⟨⟨v0,v1,v2,v3⟩,rfl⟩
theorem ADE {v:AK} (h:Rd enc w base hd 155 [v]):∃A n c l,BQ 4 48 IF w (AA A n c) l/\v=AA A n c:=Km underlying155 h fun _ h=>AGH h
theorem ADA {cs:List AK} (h:Rd enc w base hd 97 cs):∃x,Na w cs x:=by
 obtain ⟨hl,hf⟩:=De (k:=6) [1,1,1,1,1,1] underlying97 h
 match cs,hl with
 |
  [c0,c1,c2,c3,c4,c5],_=>
  obtain ⟨v0,w0,rfl⟩:=Cp (c:=c0) (hf 0 _ 1 rfl rfl);obtain ⟨v1,w1,rfl⟩:=Cp (c:=c1) (hf 1 _ 1 rfl rfl);obtain ⟨v2,w2,rfl⟩:=Cp (c:=c2) (hf 2 _ 1 rfl rfl);obtain ⟨v3,rfl⟩:=I3 (c:=c3) (hf 3 _ 1 rfl rfl);obtain ⟨v4,w4,rfl⟩:=Cp (c:=c4) (hf 4 _ 1 rfl rfl);obtain ⟨A5,n5,d5,v5,s5,rfl⟩:=gI (v:=c5) (hf 5 _ 1 rfl rfl);exact ⟨⟨v0,v1,v2,v3,v4,v5⟩,⟨A5,n5,d5,rfl,s5⟩⟩
theorem ABR {cs:List AK} (h:Rd enc w base hd 100 cs):∃x,EW w cs x:=by
 obtain ⟨hl,hf⟩:=De (k:=11) [1,6,4] underlying100 h
 match cs,hl with
 |
  [c0,c1,c2,c3,c4,c5,c6,c7,c8,c9,c10],_=>
  obtain ⟨v0,rfl⟩:=I3 (c:=c0) (hf 0 _ 1 rfl rfl);obtain ⟨v1,A1,n1,d1,q,s1⟩:=ADA (cs:=[c1,c2,c3,c4,c5,c6]) (hf 1 _ 6 rfl rfl);cases q;obtain ⟨a,b,c,d,rfl,rfl,rfl,rfl⟩:=AGA (c0:=c7) (c1:=c8) (c2:=c9) (c3:=c10) (hf 2 _ 4 rfl rfl);exact ⟨⟨v0,v1,a,b,c,d⟩,⟨A1,n1,d1,rfl,s1⟩⟩
theorem wP {v:AK} (h:Rd enc w base hd 76 [v]):∃A n c l,BQ 11 120 EW w (AA A n c) l/\v=AA A n c:=Km underlying76 h fun _ h=>ABR h
theorem wQ {cs:List AK} (h:Rd enc w base hd 282 cs):∃x,Hb w cs x/\IY x:=by
 obtain ⟨hl,hf⟩:=De (k:=4) [1,1,1,1] underlying282 h
 match cs,hl with
 |
  [c0,c1,c2,c3],_=>
  obtain ⟨A0,n0,d0,v0,s0,rfl⟩:=gI (v:=c0) (hf 0 _ 1 rfl rfl);obtain ⟨v1,rfl⟩:=I3 (c:=c1) (hf 1 _ 1 rfl rfl);obtain ⟨A2,n2,d2,v2,s2,rfl⟩:=Rl (v:=c2) (hf 2 _ 1 rfl rfl);obtain ⟨v3,w3,rfl⟩:=Cp (c:=c3) (hf 3 _ 1 rfl rfl);exact ⟨⟨v0,v1,v2,v3⟩,⟨A0,n0,d0,A2,n2,d2,rfl,s0,s2.1⟩,s2.2,w3⟩
theorem rf {v:AK} (h:Rd enc w base hd 77 [v]):∃A n c l,BQ 4 72 Hb w (AA A n c) l/\(∀x∈l,IY x)/\v=AA A n c:=by obtain ⟨A,n,c,l,hs,e⟩:=Km (sz:=4) (bytes:=72) (R:=fun w cs x=>Hb w cs x/\IY x) underlying77 h fun _ h=>wQ h;exact ⟨A,n,c,l,hs.split.1,hs.split.2,e⟩
theorem wO {cs:List AK} (h:Rd enc w base hd 79 cs):∃x,BR w cs x/\∀d∈x.deps,IY d:=by
 obtain ⟨hl,hf⟩:=De (k:=6) [1,1,1,1,1,1] underlying79 h
 match cs,hl with
 |
  [c0,c1,c2,c3,c4,c5],_=>
  obtain ⟨v0,rfl⟩:=I3 (c:=c0) (hf 0 _ 1 rfl rfl);obtain ⟨v1,rfl⟩:=I3 (c:=c1) (hf 1 _ 1 rfl rfl);obtain ⟨v2,w2,rfl⟩:=Cp (c:=c2) (hf 2 _ 1 rfl rfl);obtain ⟨v3,w3,rfl⟩:=Cp (c:=c3) (hf 3 _ 1 rfl rfl);obtain ⟨A4,n4,d4,v4,s4,rfl⟩:=wP (v:=c4) (hf 4 _ 1 rfl rfl);obtain ⟨A5,n5,d5,v5,s5,t5,rfl⟩:=rf (v:=c5) (hf 5 _ 1 rfl rfl);exact ⟨⟨v0,v1,v2,v3,v4,v5⟩,⟨A4,n4,d4,A5,n5,d5,rfl,s4,s5⟩,t5⟩
theorem rY {v:AK} (h:Rd enc w base hd 24 [v]):∃A n c l,BQ 6 96 BR w (AA A n c) l/\(∀x∈l,∀d∈x.deps,IY d)/\v=AA A n c:=by obtain ⟨A,n,c,l,hs,e⟩:=Km (sz:=6) (bytes:=96) (R:=fun w cs x=>BR w cs x/\∀d∈x.deps,IY d) underlying24 h fun _ h=>wO h;exact ⟨A,n,c,l,hs.split.1,hs.split.2,e⟩
theorem ADC {cs:List AK} (h:Rd enc w base hd 151 cs):∃x,CM w cs x:=by
 obtain ⟨hl,hf⟩:=De (k:=5) [1,1,1,1,1] underlying151 h
 match cs,hl with
 |
  [c0,c1,c2,c3,c4],_=>
  obtain ⟨v0,rfl⟩:=I3 (c:=c0) (hf 0 _ 1 rfl rfl);obtain ⟨v1,w1,rfl⟩:=Cp (c:=c1) (hf 1 _ 1 rfl rfl);obtain ⟨A2,n2,d2,v2,s2,rfl⟩:=ABQ (v:=c2) (hf 2 _ 1 rfl rfl);obtain ⟨A3,n3,d3,v3,s3,rfl⟩:=ABS (v:=c3) (hf 3 _ 1 rfl rfl);obtain ⟨A4,n4,d4,v4,s4,rfl⟩:=ADB (v:=c4) (hf 4 _ 1 rfl rfl);exact ⟨⟨v0,v1,v2,v3,v4⟩,⟨A2,n2,d2,A3,n3,d3,A4,n4,d4,rfl,s2,s3,s4⟩⟩
theorem ABO {v:AK} (h:Rd enc w base hd 25 [v]):∃A n c l,BQ 5 96 CM w (AA A n c) l/\v=AA A n c:=Km underlying25 h fun _ h=>ADC h
theorem rh {cs:List AK} (h:Rd enc w base hd 154 cs):∃x,By w cs x:=by
 obtain ⟨hl,hf⟩:=De (k:=5) [1,1,1,1,1] underlying154 h
 match cs,hl with
 |
  [c0,c1,c2,c3,c4],_=>
  obtain ⟨v0,rfl⟩:=I3 (c:=c0) (hf 0 _ 1 rfl rfl);obtain ⟨v1,rfl⟩:=I3 (c:=c1) (hf 1 _ 1 rfl rfl);obtain ⟨v2,w2,rfl⟩:=Cp (c:=c2) (hf 2 _ 1 rfl rfl);obtain ⟨v3,w3,rfl⟩:=Cp (c:=c3) (hf 3 _ 1 rfl rfl);obtain ⟨A4,n4,d4,v4,s4,rfl⟩:=ABP (v:=c4) (hf 4 _ 1 rfl rfl);exact ⟨⟨v0,v1,v2,v3,v4⟩,⟨A4,n4,d4,rfl,s4⟩⟩
theorem oK {v:AK} (h:Rd enc w base hd 26 [v]):∃A n c l,BQ 5 72 By w (AA A n c) l/\v=AA A n c:=Km underlying26 h fun _ h=>rh h
theorem rZ {cs:List AK} (h:Rd enc w base hd 157 cs):∃x,BT w cs x:=by
 obtain ⟨hl,hf⟩:=De (k:=3) [1,1,1] underlying157 h
 match cs,hl with
 |
  [c0,c1,c2],_=>
  obtain ⟨v0,rfl⟩:=I3 (c:=c0) (hf 0 _ 1 rfl rfl);obtain ⟨A1,n1,d1,v1,s1,rfl⟩:=ADE (v:=c1) (hf 1 _ 1 rfl rfl);obtain ⟨v2,w2,rfl⟩:=Cp (c:=c2) (hf 2 _ 1 rfl rfl);exact ⟨⟨v0,v1,v2⟩,⟨A1,n1,d1,rfl,s1⟩⟩
theorem oJ {v:AK} (h:Rd enc w base hd 27 [v]):∃A n c l,BQ 3 48 BT w (AA A n c) l/\v=AA A n c:=Km underlying27 h fun _ h=>rZ h
theorem wN {cs:List AK} (h:Rd enc w base hd 29 cs):∃x,aB w cs x/\∀y∈x.Ap,∀d∈y.deps,IY d:=by
 obtain ⟨hl,hf⟩:=De (k:=6) [1,1,1,1,1,1] underlying29 h
 match cs,hl with
 |
  [c0,c1,c2,c3,c4,c5],_=>
  obtain ⟨A0,n0,d0,v0,s0,rfl⟩:=gI (v:=c0) (hf 0 _ 1 rfl rfl);obtain ⟨A1,n1,d1,v1,s1,rfl⟩:=ABN (v:=c1) (hf 1 _ 1 rfl rfl);obtain ⟨A2,n2,d2,v2,s2,t2,rfl⟩:=rY (v:=c2) (hf 2 _ 1 rfl rfl);obtain ⟨A3,n3,d3,v3,s3,rfl⟩:=ABO (v:=c3) (hf 3 _ 1 rfl rfl);obtain ⟨A4,n4,d4,v4,s4,rfl⟩:=oK (v:=c4) (hf 4 _ 1 rfl rfl);obtain ⟨A5,n5,d5,v5,s5,rfl⟩:=oJ (v:=c5) (hf 5 _ 1 rfl rfl);exact ⟨⟨v0,v1,v2,v3,v4,v5⟩,⟨A0,n0,d0,A1,n1,d1,A2,n2,d2,A3,n3,d3,A4,n4,d4,A5,n5,d5,rfl,s0,s1,s2,s3,s4,s5⟩,t2⟩
theorem wR {r:Reach} {b:Nat} {t e:Ae} {n:Nat} {v:AK} (ht:P.underlying t=some (.array n e)) (h:Value.okWide P w r b t v):∃cs,v=.agg cs:=by simp only [Value.okWide,ht] at h;obtain ⟨cs,h1,_⟩:=h;exact ⟨cs,h1⟩
theorem VX {t:Ae} {cs:Array AK} {d:DataW H} {ps:List MemPlace} (h:DataW.Trod enc prog w base (fun _=>true) hd t (.agg cs) d ps) (hw:PG prog t d):Rd enc w base hd t cs.toList:=by obtain ⟨n,h⟩:=h;exact ⟨n,(d,ps),h,hw⟩
theorem AGj {b0:Nat} {v:AK} {d:DataW H} {ps:List MemPlace} (hv:Value.okWide prog w .any b0 34 v) (h:DataW.Trod enc prog w base (fun _=>true) hd 34 v d ps) (hw:PG prog 34 d):∃l,l.length=32/\v=.agg (yA l):=by obtain ⟨cs,rfl⟩:=wR underlying34 hv;obtain ⟨l,hl,e⟩:=SE (VX h hw);exact ⟨l,hl,by rw [yA,<-e]⟩
theorem ACO {b0:Nat} {v:AK} {d:DataW H} {ps:List MemPlace} (hv:Value.okWide prog w .any b0 36 v) (h:DataW.Trod enc prog w base (fun _=>true) hd 36 v d ps) (hw:PG prog 36 d):∃r:CS,r.root.length=32/\v=.agg (rdA r):=by
 obtain ⟨⟨cs⟩,rfl,_⟩:=okWide_struct underlying36 hv;obtain ⟨hl,hf⟩:=De (k:=38) [1,1,1,1,1,1,32] underlying36 (VX h hw)
 match cs,hl with
 |
  c0::c1::c2::c3::c4::c5::l,hl=>
  obtain ⟨v0,w0,rfl⟩:=Cp (c:=c0) (hf 0 _ 1 rfl rfl);obtain ⟨v1,w1,rfl⟩:=Cp (c:=c1) (hf 1 _ 1 rfl rfl);obtain ⟨v2,w2,rfl⟩:=Cp (c:=c2) (hf 2 _ 1 rfl rfl);obtain ⟨v3,w3,rfl⟩:=Cp (c:=c3) (hf 3 _ 1 rfl rfl);obtain ⟨v4,w4,rfl⟩:=Cp (c:=c4) (hf 4 _ 1 rfl rfl);obtain ⟨v5,w5,rfl⟩:=Cp (c:=c5) (hf 5 _ 1 rfl rfl);obtain ⟨d,hdl,e⟩:=SE (cs:=l.take 32) (hf 6 _ 32 rfl rfl);rw [Cy (by simp at hl;omega)] at e;exact ⟨⟨v0,v1,v2,v3,v4,v5,d⟩,hdl,by rw [e,rdA,yA];simp⟩
theorem ACP {b0:Nat} {v:AK} {d:DataW H} {ps:List MemPlace} (hv:Value.okWide prog w .any b0 39 v) (h:DataW.Trod enc prog w base (fun _=>true) hd 39 v d ps) (hw:PG prog 39 d):∃a b holder A n c l,holder.length=32/\BQ 32 32 CQ w (AA A n c) l/\v=.agg (Qc a b holder (AA A n c)):=by
 obtain ⟨⟨cs⟩,rfl,_⟩:=okWide_struct underlying39 hv;obtain ⟨hl,hf⟩:=De (k:=35) [1,1,32,1] underlying39 (VX h hw)
 match cs,hl with
 |
  c0::c1::l,hl=>
  obtain ⟨v0,w0,rfl⟩:=Cp (c:=c0) (hf 0 _ 1 rfl rfl);obtain ⟨v1,w1,rfl⟩:=Cp (c:=c1) (hf 1 _ 1 rfl rfl);obtain ⟨d,hdl,e⟩:=SE (cs:=l.take 32) (hf 2 _ 32 rfl rfl);have hl:l.length=33:=by simpa using hl
  have e2:(l.drop 32).take 1=[l[32]]:=by rw [List.take_one,List.head?_drop,BJ AG];rfl
  have h3:Rd enc w base hd 37 (((Value.int .i64 v0::AB AE v1::l).drop 34).take 1):=hf 3 _ 1 rfl rfl;rw [show ((Value.int .i64 v0::AB AE v1::l).drop 34).take 1=[l[32]] from e2] at h3;obtain ⟨A,n,c,q,hs,e3⟩:=Y8 h3;refine ⟨v0,v1,d,A,n,c,q,hdl,hs,?_⟩;have e4:l=d.map (Value.int .u8)++[AA A n c]:=by rw [<-e,<-e3,<-e2,Cy (l:=l.drop 32) BX,OG]
  rw [e4,Qc,yA];simp
theorem AEk {b0:Nat} {v:AK} {d:DataW H} {ps:List MemPlace} (hv:Value.okWide prog w .any b0 41 v) (h:DataW.Trod enc prog w base (fun _=>true) hd 41 v d ps) (hw:PG prog 41 d):∃a b c A n k l,(Ag 1 CF w (AA A n k) l/\l.length*8<=140737488355328)/\v=.agg #[AB AE a,AB AE b,AB AE c,AA A n k]:=by
 obtain ⟨⟨cs⟩,rfl,_⟩:=okWide_struct underlying41 hv;obtain ⟨hl,hf⟩:=De (k:=4) [1,1,1,1] underlying41 (VX h hw)
 match cs,hl with
 |
  [c0,c1,c2,c3],_=>
  obtain ⟨v0,w0,rfl⟩:=Cp (c:=c0) (hf 0 _ 1 rfl rfl);obtain ⟨v1,w1,rfl⟩:=Cp (c:=c1) (hf 1 _ 1 rfl rfl);obtain ⟨v2,w2,rfl⟩:=Cp (c:=c2) (hf 2 _ 1 rfl rfl);obtain ⟨A,n,k,l,s,rfl⟩:=Rl (v:=c3) (hf 3 _ 1 rfl rfl);exact ⟨v0,v1,v2,A,n,k,l,⟨Nu s,s.1.2⟩,rfl⟩
theorem yN {b0:Nat} {v:AK} {d:DataW H} {ps:List MemPlace} (hv:Value.okWide prog w .any b0 32 v) (h:DataW.Trod enc prog w base (fun _=>true) hd 32 v d ps) (hw:PG prog 32 d):
 ∃A1 n1 c1 A2 n2 c2 A3 n3 c3 A4 n4 c4 A5 n5 c5 A6 n6 c6 A7 n7 c7,∃(s:BD) (l:AP),v=.agg #[AA A1 n1 c1,AA A2 n2 c2,AA A3 n3 c3,AA A4 n4 c4,AA A5 n5 c5,AA A6 n6 c6,AA A7 n7 c7]/\BQ 1 16 DV w (AA A1 n1 c1) s.Bl/\BQ 5 56 CK w (AA A2 n2 c2) s.units/\BQ 6 96 BR w (AA A3 n3 c3) s.Ap/\BQ 5 96 CM w (AA A4 n4 c4) s.rules/\BQ 5 72 By w (AA A5 n5 c5) s.converts/\BQ 3 48 BT w (AA A6 n6 c6) s.purposes/\Ag 1 iR w (AA A7 n7 c7) l/\∀x∈s.Ap,∀d∈x.deps,IY d:=by
 obtain ⟨⟨cs⟩,rfl,_⟩:=okWide_struct underlying32 hv;obtain ⟨hl,hf⟩:=De (k:=7) [6,1] underlying32 (VX h hw)
 match cs,hl with
 |
  [u1,u2,u3,u4,u5,u6,u7],_=>
  obtain ⟨s,⟨A1,n1,c1,A2,n2,c2,A3,n3,c3,A4,n4,c4,A5,n5,c5,A6,n6,c6,he,h1,h2,h3,h4,h5,h6⟩,hI⟩:=wN (cs:=[u1,u2,u3,u4,u5,u6]) (hf 0 _ 6 rfl rfl);cases he;obtain ⟨A7,n7,c7,l,h7,rfl⟩:=Rl (v:=u7) (hf 1 _ 1 rfl rfl);exact ⟨A1,n1,c1,A2,n2,c2,A3,n3,c3,A4,n4,c4,A5,n5,c5,A6,n6,c6,A7,n7,c7,s,l,rfl,h1,h2,h3,h4,h5,h6,h7.1.1,hI⟩
end
open Go.Shelf
theorem ACF (VA LA:Option Addr) (vn vc ln lc:Nat):prog.built 48 [(5,AA VA vn vc),(6,AA LA ln lc)]=some (Hf ⟨0,0,0,0,zeros 32,AA VA vn vc,AA LA ln lc,AA none 0 0⟩):=by kernel_rfl
theorem xh (w:AH) (A B C D E:Array AK) (T1 T2 T3 T4 T5:Ae):∃w',w'=(((((w.alloc (AQ A T1)).alloc (AQ B T2)).alloc (AQ C T3)).alloc (AQ D T4)).alloc (AQ E T5))/\AZ w' w.heap.size T1 A/\AZ w' (w.heap.size+1) T2 B/\AZ w' (w.heap.size+1+1) T3 C/\AZ w' (w.heap.size+1+1+1) T4 D/\AZ w' (w.heap.size+1+1+1+1) T5 E/\AJ w w'/\w'.heap.size=w.heap.size+1+1+1+1+1:=by obtain ⟨k1,b1,s1⟩:=bx w A T1;obtain ⟨k2,b2,s2⟩:=bx (w.alloc (AQ A T1)) B T2;rw [s1] at k2 b2 s2;obtain ⟨k3,b3,s3⟩:=bx ((w.alloc (AQ A T1)).alloc (AQ B T2)) C T3;rw [s2] at k3 b3 s3;obtain ⟨k4,b4,s4⟩:=bx (((w.alloc (AQ A T1)).alloc (AQ B T2)).alloc (AQ C T3)) D T4;rw [s3] at k4 b4 s4;obtain ⟨k5,b5,s5⟩:=bx ((((w.alloc (AQ A T1)).alloc (AQ B T2)).alloc (AQ C T3)).alloc (AQ D T4)) E T5;rw [s4] at k5 b5 s5;exact ⟨_,rfl,(((k1.below b2 AG).below b3 AG).below b4 AG).below b5 AG,((k2.below b3 AG).below b4 AG).below b5 AG,(k3.below b4 AG).below b5 AG,k4.below b5 AG,k5,(((b1.trans (b2.mono AG)).trans (b3.mono AG)).trans (b4.mono AG)).trans (b5.mono AG),s5⟩
theorem Ag.AKN {w:AH} {v:AK} {l:List (AP)} (h:Ag 32 CQ w v l):∀d∈l,d.length=32:=by obtain ⟨A,cap,_,_,_,h⟩:=h;intro d hd;obtain ⟨i,hi⟩:=eO hd;obtain ⟨_,_,cs,_,_,_,_,hr⟩:=h i d hi;exact hr.2
theorem XG (w:AH) (A B C:Array AK) (T1 T2 T3:Ae):∃w',w'=(((w.alloc (AQ A T1)).alloc (AQ B T2)).alloc (AQ C T3))/\AZ w' w.heap.size T1 A/\AZ w' (w.heap.size+1) T2 B/\AZ w' (w.heap.size+1+1) T3 C/\AJ w w'/\w'.heap.size=w.heap.size+1+1+1:=by obtain ⟨k1,b1,s1⟩:=bx w A T1;obtain ⟨k2,b2,s2⟩:=bx (w.alloc (AQ A T1)) B T2;rw [s1] at k2 b2 s2;obtain ⟨k3,b3,s3⟩:=bx ((w.alloc (AQ A T1)).alloc (AQ B T2)) C T3;rw [s2] at k3 b3 s3;exact ⟨_,rfl,(k1.below b2 AG).below b3 AG,k2.below b3 AG,k3,(b1.trans (b2.mono AG)).trans (b3.mono AG),s3⟩
end Go.Proofs.YtpmpddfgifhlbaaGreatDoor
