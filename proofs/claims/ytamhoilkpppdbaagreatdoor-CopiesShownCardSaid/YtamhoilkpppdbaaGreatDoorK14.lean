import Derived.Test.YtamhoilkpppdbaaGreatDoorK13
import Derived.Deep.CutRange
namespace Go.Proofs.YtamhoilkpppdbaaGreatDoor
set_option maxHeartbeats 8000000
set_option maxRecDepth 100000
open Go renaming World→AH, Value→AN, Calls→AS, TypeId→Af, Program→BA, Addr→Aa
open Go.RowKit renaming Below→BI
open Go.Proofs.Tryz
open Go.Value renaming slice→AB, int→AE, pointer→AW, agg→AP, tuple→BQ
open Go.IntKind renaming i64→AF
open Go.Ending renaming returned→AU
open Go.Obj renaming cells→AO
open Go.Operand renaming tmp→AY
open Go.RowKit Go.Shelf
attribute [local go_sem] Oper.semAt_some
def Qg (p i:Int) (h:AQ) (l:AN):Array AN:=#[AE AF p,AE AF i]++yA h++#[l]
def Ci:Fb:=⟨0,0,0,0,zeros 32,[],[],[]⟩
def Gn (w:AH) (q:Fb) (e0:Int) (e:Ending) (w':AH):Prop:=∃VA vn vc LA ln lc KA kn kc,e=AU (BQ #[AP (Fs ⟨q.Ar,q.round,q.schema,q.place,q.holder,AB VA vn vc,AB LA ln lc,AB KA kn kc⟩),AE AF e0])/\
 Ag 1 CK (RY w.heap.size w') (AB VA vn vc) q.values/\Ag 32 CV (RY w.heap.size w') (AB LA ln lc) q.links/\Ag 3 Dt (RY w.heap.size w') (AB KA kn kc) q.claims/\AK w w'
theorem AHM {p i:Int} {h:AQ} {l:AN} (hh:h.length=32):(Qg p i h l).size=35:=by simp [Qg,B9,hh]
theorem QN {W:AH} {h:Nat} {e:Int} (hc:W.cell? ⟨h,0,none⟩=some (AE AF e)):(loadVar 47 ⟨h,0,none⟩).run prog W=.ok (AE AF e) W:=by go_simp
theorem AD8 (W:AH) (g:Nat) {v:AN} {e:Int} (h:W.cell? ⟨g,0,none⟩=some v) (hf:W.frozen? ⟨g,0,none⟩=false):(Instr.storeAt 47 (AW (some ⟨g,0,none⟩)) (AE AF e)).run prog W=.ok () (W.setCell ⟨g,0,none⟩ (AE AF e)):=by go_simp
theorem Ww {P:BA} {fn:Func} {tmps:Array AN} {p q:Tmp} {ty tz:Af} {t:Af} {ds:TypeDesc} {cs:Array AN} {e:Int} {g h:Nat} {w:AH} (hr:fn.results=#[.cell p ty,.cell q tz]) (hp:tmps.getD p undef=AW (some ⟨g,0,none⟩)) (hq:tmps.getD q undef=AW (some ⟨h,0,none⟩)) (hg:AZ w g t cs) (hu:P.underlying ty=some ds) (hds:(match ds with | .struct _ | .array _ _=>true | _=>false)=true) (hi:(P.info? ty).map (·.size)=some cs.size)
 (hc:(loadVar tz ⟨h,0,none⟩).run P w=.ok (AE AF e) w):(results fn tmps).run P w=.ok (BQ #[.agg cs,AE AF e]) w:=by
 have hp':tmps[p]?.getD undef=AW (some ⟨g,0,none⟩):=by simpa using hp
 have hq':tmps[q]?.getD undef=AW (some ⟨h,0,none⟩):=by simpa using hq
 simp [results,hr,hp',hq',asAddr,run_loadVar_row w g t ty cs (0,0) ds hg hu hds hi,hc]
def AHE (Q:Exit->Act->AH->Prop) (e:Exit) (a:Act) (w:AH):Prop:=e=.normal/\Q .normal a w
theorem lX {P:BA} {c:Code} {Q:Exit->Act->AH->Prop} {a:Act} {w:AH} (h:c.wp P (AHE Q) a w):c.wp P Q a w:=Code.wp_mono (fun _ _ _ hh=>by obtain ⟨rfl,hq⟩:=hh;exact hq) h
section
variable {P:BA} {md:Region.Mode} {ops:Array Oper} {Q:Exit->Act->AH->Prop} {S:AH->Prop} {fuel:Nat} {listed:Array Bool} {l:List AN} {D:List Deferred} {w:AH}
theorem ADc (i:Nat) {o:Oper} (ty:Af) (a b g:Nat) (cells:Array AN) (t:Af) (old:Array AN) (hr:Region.ready md ops listed=[i]) (hi:ops[i]? =some o) (hd:o.dst=none) (hg:o.guard=none) (ho:o.op=.store ty (AY a) (AY b))
 (hx:l[a]? =some (AW (some ⟨g,0,none⟩))) (hy:l[b]? =some (.agg cells)) (hb:w.heap[g]? =some (AO old t (0,0))) (hs:(P.info? ty).map (·.size)=some cells.size) (hold:old.size=cells.size) (h1:cells.all (·.oneCell')=true)
 (hS:S (w.setRow g cells)) (hk:wpAnyH P md ops Q S fuel (listed.setIfInBounds i true) ⟨l.toArray,D⟩ (w.setRow g cells)):wpAnyH P md ops Q S (fuel+1) listed ⟨l.toArray,D⟩ w:=
 tF i hr hi hg (wp_store_row ty (AY a) (AY b) ho g cells eB (by simp [Act.eval,hy]) t old hb hs hold h1 (by rw [hd];exact ⟨hS,hk⟩))
end
structure QY (w:AH) (TT SD RR OO II:Array AN) (W:AH):Prop where
 old:AK w W
 tt:AZ W w.heap.size 32 TT
 sd:AZ W (w.heap.size+1) 34 SD
 rr:AZ W (w.heap.size+1+1+1) 36 RR
 oo:AZ W (w.heap.size+1+1+1+1) 39 OO
 ii:AZ W (w.heap.size+1+1+1+1+1) 41 II
section
variable {w W W':AH} {TT SD RR OO II:Array AN}
theorem QY.same (h:QY w TT SD RR OO II W) (hb:AK w W') (hk:∀b,b < W.heap.size->b≠w.heap.size+1+1->b≠w.heap.size+1+1+1+1+1+1->b≠w.heap.size+1+1+1+1+1+1+1->W'.heap[b]? =W.heap[b]?):QY w TT SD RR OO II W':=
 ⟨hb,(hk _ h.tt.lt AG AG AG).trans h.tt,(hk _ h.sd.lt AG AG AG).trans h.sd,(hk _ h.rr.lt AG AG AG).trans h.rr,(hk _ h.oo.lt AG AG AG).trans h.oo,(hk _ h.ii.lt AG AG AG).trans h.ii⟩
theorem QY.below (h:QY w TT SD RR OO II W) (hb:AK W W'):QY w TT SD RR OO II W':=h.same (AV h.old hb) fun b hlt _ _ _=>hb.block b hlt
theorem QY.row (h:QY w TT SD RR OO II W) (g:Nat) (cs:Array AN) (hg:g=w.heap.size+1+1\/g=w.heap.size+1+1+1+1+1+1\/g=w.heap.size+1+1+1+1+1+1+1):QY w TT SD RR OO II (W.setRow g cs):=
 h.same (below_setRow h.old AG _) fun b _ h1 h2 h3=>Gt W g b cs AG
theorem QY.put (h:QY w TT SD RR OO II W) (g o:Nat) (v:AN) (hg:g=w.heap.size+1+1\/g=w.heap.size+1+1+1+1+1+1\/g=w.heap.size+1+1+1+1+1+1+1):QY w TT SD RR OO II (W.setCell ⟨g,o,none⟩ v):=
 h.same (h.old.setCell (by show w.heap.size<=g;omega) _) fun b _ h1 h2 h3=>D6 W _ v b (by show b≠g;omega)
end
theorem m9 (v0 v1 v3 v4 v5 v6:AN) (A:Option Aa) (n c:Nat) (ns:List Nat) (ck:Int) (val:Int->Int->Int->Bool) (seed:AQ) (r:CM) (place pe it xs xp xi:Int) (holder:AQ) (links:List (AQ)) (vs:AQ) (VA LA:Option Aa) (vn vc ln lc x k:Nat) (w:AH) (hs:Ag 6 Lz w (AB A n c) ns)
 (hK:Ql (AP #[v0,v1,AB A n c,v3,v4,v5]) (AP #[v0,v1,AB A n c,v3,v4,v5,v6]) ck val w) (hv:Ag 1 CK w (AB VA vn vc) vs) (hl:Ag 32 CV w (AB LA ln lc) links) (hsd:seed.length=32) (hh:holder.length=32) (hro:r.root.length=32) (MT:Ca w)
 (hx:ns[k]? =some x) (hsc:r.schema=k) (hft:GN (some x) r.places=true):
 AS prog 28 #[AP #[v0,v1,AB A n c,v3,v4,v5,v6],AP (yA seed),AB none 0 0,AP (rdA r),AE AF place,AP (Qg pe it holder (AB LA ln lc)),AP #[AE AF xs,AE AF xp,AE AF xi,AB VA vn vc]] w
  (if FS 0 (some x) (val r.schema) r place links xs vs=true then Gn w (IJ Aw seed x r place holder links vs) 0 else Gn w Ci 190):=by
 obtain ⟨RR,hRR⟩:=Ad (rdA r);obtain ⟨OO,Oy⟩:=Ad (Qg pe it holder (AB LA ln lc));obtain ⟨SD,hSD⟩:=Ad (yA seed);rw [<-hRR,<-Oy,<-hSD];have NK:AI ((prog.info? 36).map (·.size)=some RR.size):=AA UO;have X2:AI ((prog.info? 39).map (·.size)=some OO.size):=AA eQ;have Lg:AI (RR[0]? =some (AE AF r.Ar)/\RR[1]? =some (AE AF r.no)/\RR[2]? =some (AE AF r.schema)/\RR[5]? =some (AE AF r.places)):=AA ew
 have dh:AI (OO[34]? =some (AB LA ln lc)/\∀j v,(holder.map (Value.int .u8))[j]? =some v->OO[2+j]? =some v):=AA (by rw [Oy,Qg];refine ⟨by rw [Yc (by simp [B9,hh])];simp [B9,hh],fun j v hj=> ?_⟩;have hlt:=(BD.1 hj).1;rw [Cb] at hlt;rw [T7 (by simp [B9];omega),Yc AX,yA,Ak];simpa using hj)
 have dY:AI (∀(W:AH) (YA YB YC:Option Aa) (yn yc zn zc un uc:Nat),AK w W->x<=1000->AS prog 40 #[AP #[v0,v1,AB A n c,v3,v4,v5,v6],AP (Fs ⟨r.Ar,r.no,r.schema,place,holder,AB YA yn yc,AB YB zn zc,AB YC un uc⟩)] W fun e w'=>∃F L,e=AU (AP (JA ⟨r.Ar,r.no,r.schema,place,holder,F,AB YA yn yc,0,zeros 32,AB YC un uc,L,AB YB zn zc,(x:Int)+4+1,(x:Int)+4⟩))/\Ag 1 CK w' F (upto x)/\Ag 1 CK w' L (upto 4)/\AK W w'/\NewAt W.heap.size F/\NewAt W.heap.size L):=AA (fun W YA YB YC yn yc zn zc un uc hW h5=>
  bT v0 v1 v3 v4 v5 v6 A n c ns k x ⟨r.Ar,r.no,r.schema,place,holder,AB YA yn yc,AB YB zn zc,AB YC un uc⟩ YA YB YC yn yc zn zc un uc W (hs.mono EK hW) hx h5 hh hsc rfl rfl rfl)
 have Qc:AI (∀W,AK w W->AS prog 39 #[AP #[v0,v1,AB A n c,v3,v4,v5,v6],AE AF r.schema,AB VA vn vc] W fun e w'=>e=AU (.bool (EL x (val r.schema) vs))/\AK W w'):=AA (fun W hW=>by rw [hsc];exact Xr v0 v1 v3 v4 v5 v6 A n c ns k x VA vn vc vs ck val W (hs.mono EK hW) hx (hv.mono BX hW) (hK.below hW))
 obtain ⟨R,hR⟩:∃R,R=(if FS 0 (some x) (val r.schema) r place links xs vs=true then Gn w (IJ Aw seed x r place holder links vs) 0 else Gn w Ci 190):=⟨_,rfl⟩;rw [<-hR];obtain ⟨ZZ,dD⟩:=Ad (Fs ⟨0,0,0,0,zeros 32,AB none 0 0,AB none 0 0,AB none 0 0⟩);have HZI:AI ((prog.info? 46).bind (·.zero)=some (.agg ZZ)):=AA OB;have O7:AI ((prog.info? 46).map (·.size)=some ZZ.size):=AA OB;have HZO:AI (ZZ.all (·.oneCell')=true):=AA OB;have dV:=AA dD;have Cf:AI (FS 0 (some x) (val r.schema) r place links xs vs=false->R=Gn w Ci 190):=AA (fun h=>by rw [hR,h];rfl);have I3:AI (FS 0 (some x) (val r.schema) r place links xs vs=true->R=Gn w (IJ Aw seed x r place holder links vs) 0):=AA (fun h=>by rw [hR,h];rfl);obtain ⟨x',hx',hp1,nN,Y1⟩:=NE hft;injection hx' with hx';subst hx';have HP2:=AA Y1;have HS:=AA hs;have HV:=AA hv;have HL:=AA hl;have HSL:=AA hsd;have Zr:=AA hh;have I0:=AA MT;have HX:=AA hx;have o5:=AA hsc;have OW:=AA hft;have Nd:=AA hSD;have hlv:=hv.len;have hll:=hl.len;have HLV:=AA hlv;have ja:=AA hll;clear hs hv hl hsd hh MT hx hsc hft hSD hRR Oy hK hro hR hlv hll dD;refine WR func28 rfl ?_;simp only [ntmps28,RF,Gw,PU,Nat.reduceAdd,Nat.reduceSub,Ts,Tv,To,Tr,Jh,Ln];refine Ir (Gd (n:=1) (Dr.2 ?_));go_wp2_with (first | (refine EY rfl 46 rfl ZZ HZI.o ?_) | fail);obtain ⟨k1,b1,s1⟩:=bx w #[v0,v1,AB A n c,v3,v4,v5,v6] 32;generalize (w.alloc (AO #[v0,v1,AB A n c,v3,v4,v5,v6] 32))=w1 at k1 b1 s1 ⊢;obtain ⟨k2,b2,s2⟩:=bx w1 SD 34;generalize (w1.alloc (AO SD 34))=w2 at k2 b2 s2 ⊢;rw [s1] at k2 b2 s2;obtain ⟨k3,b3,s3⟩:=bx w2 #[AB none 0 0] 37;generalize (w2.alloc (AO #[AB none 0 0] 37))=w3 at k3 b3 s3 ⊢;rw [s2] at k3 b3 s3;obtain ⟨k4,b4,s4⟩:=bx w3 RR 36;generalize (w3.alloc (AO RR 36))=w4 at k4 b4 s4 ⊢;rw [s3] at k4 b4 s4;obtain ⟨k5,b5,s5⟩:=bx w4 OO 39;generalize (w4.alloc (AO OO 39))=w5 at k5 b5 s5 ⊢;rw [s4] at k5 b5 s5;obtain ⟨k6,b6,s6⟩:=bx w5 #[AE AF xs,AE AF xp,AE AF xi,AB VA vn vc] 41;generalize (w5.alloc (AO #[AE AF xs,AE AF xp,AE AF xi,AB VA vn vc] 41))=w6 at k6 b6 s6 ⊢;rw [s5] at k6 b6 s6;obtain ⟨k7,b7,s7⟩:=bx w6 ZZ 46;generalize (w6.alloc (AO ZZ 46))=w7 at k7 b7 s7 ⊢;rw [s6] at k7 b7 s7;obtain ⟨k8,b8,s8⟩:=bx w7 #[AE AF 0] 47;generalize (w7.alloc (AO #[AE AF 0] 47))=w8 at k8 b8 s8 ⊢;rw [s7] at k8 b8 s8;have CX:AI (AK w w8):=AA (((((((b1.trans (b2.mono AG)).trans (b3.mono AG)).trans (b4.mono AG)).trans (b5.mono AG)).trans (b6.mono AG)).trans (b7.mono AG)).trans (b8.mono AG));have H8:AI (w8.heap.size=w.heap.size+1+1+1+1+1+1+1+1):=AA AG;have HE:AI (∀W,AK w8 W->AZ W w.heap.size 32 #[v0,v1,AB A n c,v3,v4,v5,v6]/\AZ W (w.heap.size+1) 34 SD/\AZ W (w.heap.size+1+1) 37 #[AB none 0 0]/\AZ W (w.heap.size+1+1+1) 36 RR/\AZ W (w.heap.size+1+1+1+1) 39 OO/\AZ W (w.heap.size+1+1+1+1+1) 41 #[AE AF xs,AE AF xp,AE AF xi,AB VA vn vc]/\AZ W (w.heap.size+1+1+1+1+1+1) 46 ZZ/\AZ W (w.heap.size+1+1+1+1+1+1+1) 47 #[AE AF 0]):=AA (fun W hW=>⟨(((((((k1.below b2 AG).below b3 AG).below b4 AG).below b5 AG).below b6 AG).below b7 AG).below b8 AG).below hW AG,((((((k2.below b3 AG).below b4 AG).below b5 AG).below b6 AG).below b7 AG).below b8 AG).below hW AG,(((((k3.below b4 AG).below b5 AG).below b6 AG).below b7 AG).below b8 AG).below hW AG,((((k4.below b5 AG).below b6 AG).below b7 AG).below b8 AG).below hW AG,(((k5.below b6 AG).below b7 AG).below b8 AG).below hW AG,((k6.below b7 AG).below b8 AG).below hW AG,(k7.below b8 AG).below hW AG,k8.below hW AG⟩);clear k1 b1 s1 k2 b2 s2 k3 b3 s3 k4 b4 s4 k5 b5 s5 k6 b6 s6 k7 b7 s7 k8 b8 s8;refine Ir (Gd (n:=1) (Dr.2 ?_));have HT:AI (∀W,AK w8 W->W.cell? ⟨w.heap.size,0,none⟩=some v0/\W.cell? ⟨w.heap.size,1,none⟩=some v1/\W.cell? ⟨w.heap.size,2,none⟩=some (AB A n c)/\W.cell? ⟨w.heap.size,3,none⟩=some v3/\W.cell? ⟨w.heap.size,4,none⟩=some v4/\W.cell? ⟨w.heap.size,5,none⟩=some v5/\W.cell? ⟨w.heap.size,6,none⟩=some v6):=AA (fun W hW=>by have b:=(HE.o W hW).1;exact ⟨b.cell 0,b.cell 1,b.cell 2,b.cell 3,b.cell 4,b.cell 5,b.cell 6⟩)
 have HC:AI (∀W,AK w8 W->(W.cell? ⟨w.heap.size+1+1+1,0,none⟩=some (AE AF r.Ar)/\W.cell? ⟨w.heap.size+1+1+1,1,none⟩=some (AE AF r.no)/\W.cell? ⟨w.heap.size+1+1+1,2,none⟩=some (AE AF r.schema)/\W.cell? ⟨w.heap.size+1+1+1,5,none⟩=some (AE AF r.places))/\W.cell? ⟨w.heap.size+1+1+1+1,34,none⟩=some (AB LA ln lc)/\(W.cell? ⟨w.heap.size+1+1+1+1+1,0,none⟩=some (AE AF xs)/\W.cell? ⟨w.heap.size+1+1+1+1+1,3,none⟩=some (AB VA vn vc))/\(Instr.loadAt 34 (AW (some ⟨w.heap.size+1+1+1+1,2,none⟩))).run prog W=.ok (AP (yA holder)) W):=AA (fun W hW=>by obtain ⟨_,_,_,b3,b4,b5,_,_⟩:=HE.o W hW;exact ⟨⟨(b3.cell 0).trans Lg.o.1,(b3.cell 1).trans Lg.o.2.1,(b3.cell 2).trans Lg.o.2.2.1,(b3.cell 5).trans Lg.o.2.2.2⟩,(b4.cell 34).trans dh.o.1,⟨b5.cell 0,b5.cell 3⟩,FV _ 2 Zr.o (fun j v hj=>by rw [b4.cell];exact dh.o.2 j v hj)⟩)
 obtain ⟨d0,d1,d2,d3,d4,d5,d6⟩:=HT.o w8 (Ae _ _);obtain ⟨_,_,_,_,_,_,k6,k7⟩:=HE.o w8 (Ae _ _);have e7:=k7.cell 0;have f7:=k7.frozen 0;have l7:=k7.lt;simp only [Ak,Al] at e7;have K6:=AA k6;have K7:=AA k7;clear k6 k7;obtain ⟨⟨r0,r1,r2,r5⟩,zW,⟨i0,i3⟩,_⟩:=HC.o w8 (Ae _ _);have hcase:(¬0<=place\/(0<=place/\¬place < r.places)\/(0<=place/\place < r.places/\¬ln=4)\/(0<=place/\place < r.places/\ln=4/\¬xs=r.schema))\/(0<=place/\place < r.places/\ln=4/\xs=r.schema):=AG
 rcases hcase with hno | ⟨h1,h2,rfl,h4⟩
 ·have HN:AI (R=Gn w Ci 190):=AA (Cf.o (by
   have:=ja.o;cases hm:FS 0 (some x) (val r.schema) r place links xs vs with
   | false=>rfl
   |
    true=>
    simp only [FS,Bj,B8] at hm;omega))
  rcases hno with h | ⟨h1,h⟩ | ⟨h1,h2,h⟩ | ⟨h1,h2,h3,h⟩
  all_goals go_upto_region 2 with fail
  all_goals go_upto_region 3 with (first | (refine Bv rfl 46 (AY 14) rfl (w.heap.size+1+1+1+1+1+1) rfl 46 ZZ (0,0) _ K6.o underlying46 rfl O7.o ?_) | (refine wpList_store_rowTo rfl 46 (AY 14) (AY 50) rfl rfl (w.heap.size+1+1+1+1+1+1) ZZ rfl rfl 46 ZZ K6.o O7.o rfl HZO.o ?_;rw [N1 _ _ _ _ _ K6.o]) | fail)
  all_goals
   have h6:AZ (w8.setCell ⟨w.heap.size+1+1+1+1+1+1+1,0,none⟩ (AE AF 190)) (w.heap.size+1+1+1+1+1+1) 46 ZZ:=K6.o.far (Ki (Ib _)) _;refine ⟨_,Ww (h:=w.heap.size+1+1+1+1+1+1+1) rfl rfl rfl h6 underlying46 rfl O7.o (QN ((K7.o.put 0 (AE AF 190)).cell 0)),?_⟩;rw [HN.o,dV.o];exact ⟨_,_,_,_,_,_,_,_,_,rfl,Ag.nil _ _ (Av _),Ag.nil _ _ (Av _),Ag.nil _ _ (Av _),CX.o.setCell rn _⟩
 cases hac:EL x (val r.schema) vs with
 |
  false=>
  rw [hac] at Qc;have HN:AI (R=Gn w Ci 190):=AA (Cf.o (by unfold FS;simp only [Cc,hac,YG]))
  go_upto_region 2 with (
   go_at_call 39;refine (Qc.o _ CX.o).mono ?_;rintro e w9 ⟨rfl,Lf⟩;have LM:=AA Lf;have oh:=AA (K6.o.below Lf K6.o.lt);have k79:=K7.o.below Lf K7.o.lt;have e9:=k79.cell 0;have f9:=k79.frozen 0;have l9:=k79.lt;simp only [Ak,Al] at e9;have K79:=AA k79;clear Lf k79 e7 f7 l7)
  go_upto_region 3 with (first
   | (refine Bv rfl 46 (AY 14) rfl (w.heap.size+1+1+1+1+1+1) rfl 46 ZZ (0,0) _ oh.o underlying46 rfl O7.o ?_)
   | (refine wpList_store_rowTo rfl 46 (AY 14) (AY 50) rfl rfl (w.heap.size+1+1+1+1+1+1) ZZ rfl rfl 46 ZZ oh.o O7.o rfl HZO.o ?_;rw [N1 _ _ _ _ _ oh.o])
   | fail)
  have h6:AZ (w9.setCell ⟨w.heap.size+1+1+1+1+1+1+1,0,none⟩ (AE AF 190)) (w.heap.size+1+1+1+1+1+1) 46 ZZ:=oh.o.far (Ki (Ib _)) _;refine ⟨_,Ww (h:=w.heap.size+1+1+1+1+1+1+1) rfl rfl rfl h6 underlying46 rfl O7.o (QN ((K79.o.put 0 (AE AF 190)).cell 0)),?_⟩;rw [HN.o,dV.o];exact ⟨_,_,_,_,_,_,_,_,_,rfl,Ag.nil _ _ (Av _),Ag.nil _ _ (Av _),Ag.nil _ _ (Av _),(AV CX.o LM.o).setCell rn _⟩
 |
  true=>
  rw [hac] at Qc;have HN:AI (R=Gn w (IJ Aw seed x r place holder links vs) 0):=AA (I3.o (by have:=ja.o;simp only [FS,Bj,B8];exact ⟨⟨⟨⟨⟨⟨trivial,OW.o⟩,h1⟩,h2⟩,by omega⟩,h4⟩,hac⟩))
  go_wp2_with (
   go_at_call 39;refine (Qc.o _ CX.o).mono ?_;rintro e w9 ⟨rfl,Lf⟩;have LM:=AA Lf;clear Lf)
  have HM:AI (∀W,AK w8 W->QY w #[v0,v1,AB A n c,v3,v4,v5,v6] SD RR OO #[AE AF xs,AE AF xp,AE AF xi,AB VA vn vc] W):=AA (fun W hW=>by obtain ⟨b0,b1,_,b3,b4,b5,_,_⟩:=HE.o W hW;exact ⟨AV CX.o hW,b0,b1,b3,b4,b5⟩)
  clear d0 d1 d2 d3 d4 d5 d6 r0 r1 r2 r5 zW i0 i3 e7 f7 l7 Y1;have hm9:=HM.o _ LM.o;obtain ⟨_,_,k2,_,_,_,k6,k7⟩:=HE.o _ LM.o;have e2:=k2.cell 0;have f2:=k2.frozen 0;have l2:=k2.lt;simp only [Ak,Al] at e2;have K26:=AA k2;have oh:=AA k6;have K79:=AA k7;have HM9:=AA hm9;clear hm9 k2 k6 k7 K6 K7;refine Ir (Gd (n:=1) (Dr.2 ?_));go_upto_region 4 with fail
  -- REGION 4
  have I7:prog.follows .mixedOrders=true:=AJ
  have hkn':k < n:=by rw [HS.o.len];exact (BD.1 HX.o).1
  have hk1:(k:Int) < (n:Int):=AG
  have hk0:=Int.natCast_nonneg k
  obtain ⟨b,off,x',x0,x1,x2,x3,B,cc,x5,hA,hb,hx',hxl,hone,hcell⟩:=Na HS.o hkn';rw [HX.o] at hx';injection hx' with hx';subst hx';subst hA;have dj:AI (∀W,AK w W->(Instr.loadAt 85 (AW (some ⟨b,off+k*6,none⟩))).run prog W=.ok (AP #[x0,x1,x2,x3,AB B x cc,x5]) W):=AA (fun W hW=>by have hr:W.rangeAt b (off+k*6) [x0,x1,x2,x3,AB B x cc,x5]:=fun j v hj=>(hW.cell (p:=⟨b,off+k*6+j,none⟩) hb).trans (hcell j v hj);simp only [Instr.loadAt,Instr.sureAddr,Ck,DC,Result.andThen_ok,Q7 W b (off+k*6) 85 _ _ hr underlying85 rfl AJ])
  have hsz:(prog.info? 85).map (·.size)=some 6:=AJ
  clear hcell hone HC HT;have HTM:AI (∀W,QY w #[v0,v1,AB (some ⟨b,off,none⟩) n c,v3,v4,v5,v6] SD RR OO #[AE AF xs,AE AF xp,AE AF xi,AB VA vn vc] W->W.cell? ⟨w.heap.size,0,none⟩=some v0/\W.cell? ⟨w.heap.size,1,none⟩=some v1/\W.cell? ⟨w.heap.size,2,none⟩=some (AB (some ⟨b,off,none⟩) n c)/\W.cell? ⟨w.heap.size,3,none⟩=some v3/\W.cell? ⟨w.heap.size,4,none⟩=some v4/\W.cell? ⟨w.heap.size,5,none⟩=some v5/\W.cell? ⟨w.heap.size,6,none⟩=some v6):=AA (fun W hW=>⟨hW.tt.cell 0,hW.tt.cell 1,hW.tt.cell 2,hW.tt.cell 3,hW.tt.cell 4,hW.tt.cell 5,hW.tt.cell 6⟩);have HCM:AI (∀W,QY w #[v0,v1,AB (some ⟨b,off,none⟩) n c,v3,v4,v5,v6] SD RR OO #[AE AF xs,AE AF xp,AE AF xi,AB VA vn vc] W->(W.cell? ⟨w.heap.size+1+1+1,0,none⟩=some (AE AF r.Ar)/\W.cell? ⟨w.heap.size+1+1+1,1,none⟩=some (AE AF r.no)/\W.cell? ⟨w.heap.size+1+1+1,2,none⟩=some (AE AF r.schema)/\W.cell? ⟨w.heap.size+1+1+1,5,none⟩=some (AE AF r.places))/\W.cell? ⟨w.heap.size+1+1+1+1,34,none⟩=some (AB LA 4 lc)/\(W.cell? ⟨w.heap.size+1+1+1+1+1,0,none⟩=some (AE AF xs)/\W.cell? ⟨w.heap.size+1+1+1+1+1,3,none⟩=some (AB VA vn vc))/\(Instr.loadAt 34 (AW (some ⟨w.heap.size+1+1+1+1,2,none⟩))).run prog W=.ok (AP (yA holder)) W/\(Instr.loadAt 34 (AW (some ⟨w.heap.size+1,0,none⟩))).run prog W=.ok (.agg SD) W):=AA (fun W hW=>by exact ⟨⟨(hW.rr.cell 0).trans Lg.o.1,(hW.rr.cell 1).trans Lg.o.2.1,(hW.rr.cell 2).trans Lg.o.2.2.1,(hW.rr.cell 5).trans Lg.o.2.2.2⟩,(hW.oo.cell 34).trans dh.o.1,⟨hW.ii.cell 0,hW.ii.cell 3⟩,FV _ 2 Zr.o (fun j v hj=>by rw [hW.oo.cell];exact dh.o.2 j v hj),by rw [Nd.o];exact Si _ seed HSL.o W (by rw [<-Nd.o];exact hW.sd)⟩)
  have hx1:x<=251:=by have h1:1*((x:Int)+4+1)<=r.places*((x:Int)+4+1):=PZ hp1 AG;have:=HP2.o;omega
  have hmul:IntKind.i64.wrap (r.places*((x:Int)+4+1))=r.places*((x:Int)+4+1):=CN _ (by have h1:0<=r.places*((x:Int)+4+1):=Kj AG AG;have:=HP2.o;omega)
  have hm1:1<=r.places*((x:Int)+4+1):=by have h1:1*((x:Int)+4+1)<=r.places*((x:Int)+4+1):=PZ hp1 AG;omega
  refine lX ?_;have hS:=HM9.o.below (Ae _ _).drew;have hb0:AK w9 w9.drew:=(Ae _ _).drew;refine Sd (fun W=>QY w #[v0,v1,AB (some ⟨b,off,none⟩) n c,v3,v4,v5,v6] SD RR OO #[AE AF xs,AE AF xp,AE AF xi,AB VA vn vc] W) 18 _ I7 AJ rfl ?_;refine Bl 0 55 AJ rfl rfl DL hS AJ (v:=.agg SD) (fun W hW=>Cs rfl AJ (HCM.o W hW).2.2.2.2) ?_;refine Bl 1 56 AJ rfl rfl DL hS AJ Fi ?_;refine Bl 2 57 AJ rfl rfl DL hS AJ Fi ?_;refine Bl 3 58 AJ rfl rfl DL hS AJ Fi ?_;refine Bl 4 59 AJ rfl rfl DL hS AJ Fi ?_;refine Bl 5 60 AJ rfl rfl DL hS AJ Fi ?_;refine Bl 6 61 AJ rfl rfl DL hS AJ Fi ?_;refine Bl 7 62 AJ rfl rfl DL hS AJ Fi ?_;refine Bl 8 63 AJ rfl rfl DL hS AJ Fi ?_;refine Bl 9 64 AJ rfl rfl DL hS AJ (v:=AP #[x0,x1,x2,x3,AB B x cc,x5]) (fun W hW=>Cs rfl AJ (dj.o W hW.old)) ?_;refine WB 10 65 AJ rfl rfl rfl rfl (enters_of func30 AJ rfl) (SX x0 x1 x2 x3 x5 B x cc _ hxl) AJ ?_;rintro e Le ⟨rfl,Lx⟩;have hS2:=hS.below Lx;have hb2:=AV hb0 Lx;refine ⟨_,rfl,hS2,?_⟩;refine Bl 11 66 AJ rfl rfl DL hS2 AJ (v:=AE AF (r.places*((x:Int)+4+1))) eZ ?_;obtain ⟨PL,tW⟩:=Ad (Dq Aw seed (r.places*((x:Int)+4+1)).toNat);have AB0:=XD seed (r.places*((x:Int)+4+1)) Le HSL.o hm1 HP2.o (I0.o.below hS2.old);rw [<-Nd.o,<-tW] at AB0;have SF:=AA tW;clear tW;refine WB 12 67 AJ rfl rfl rfl rfl (enters_of func34 AJ rfl) AB0 AJ ?_;rintro e w12 ⟨pv,pcs,rfl,hpo,hpc,vR⟩;have hS3:=hS2.below vR;have hb3:=AV hb2 vR;refine ⟨_,rfl,hS3,?_⟩;obtain ⟨PA,pc,rfl⟩:=CG hpo;refine rgM 13 54 67 AJ rfl rfl (fun _ _ _ _ _ h=>by cases h.1) hS3 rfl (.inl rfl) rfl ?_;refine Bl 14 68 AJ rfl rfl DL hS3 rfl (v:=AB PA _ pc) (fun W _=>by (go_simp) <;> rfl) ?_;refine Bl 15 69 AJ rfl rfl DL hS3 rfl (v:=AE AF 0) (fun W _=>by (go_simp) <;> rfl) ?_;have k2:=K26.o.below hb3 K26.o.lt;have k6:=oh.o.below hb3 oh.o.lt;have k7:=K79.o.below hb3 K79.o.lt;refine Z5 16 37 9 68 (AW (some ⟨w.heap.size+1+1,0,none⟩)) (AB PA PL.length pc) AJ rfl rfl rfl rfl AJ AJ (tD w12 (w.heap.size+1+1) 0 (AB none 0 0) PA PL.length pc (k2.cell 0) (k2.frozen 0)) (hS3.put (w.heap.size+1+1) 0 _ (.inl rfl)) ?_;have k22:=k2.put 0 (AB PA PL.length pc);have k62:=k6.far (p:=⟨w.heap.size+1+1,0,none⟩) rI (AB PA PL.length pc);have k72:=k7.far (p:=⟨w.heap.size+1+1,0,none⟩) rI (AB PA PL.length pc);have hz8:=H8.o;have hz9:=LM.o.size;have AFG:=hb2.size;have ho2:=Ew hpo (a:=⟨w.heap.size+1+1,0,none⟩) (by show w.heap.size+1+1 < Le.heap.size;omega) (AB PA PL.length pc);have hS4:=hS3.put (w.heap.size+1+1) 0 (AB PA PL.length pc) (.inl rfl);refine Z5 17 47 15 69 (AW (some ⟨w.heap.size+1+1+1+1+1+1+1,0,none⟩)) (AE AF 0) AJ rfl rfl rfl rfl AJ AJ (AD8 _ (w.heap.size+1+1+1+1+1+1+1) (k72.cell 0) (k72.frozen 0)) (hS4.put (w.heap.size+1+1+1+1+1+1+1) 0 _ (.inr (.inr rfl))) ?_;refine F6 AJ ?_ _;refine ⟨rfl,?_⟩;simp only [Ct,DF];have hz8:=H8.o;have hz9:=LM.o.size;have AFG:=hb2.size;have hm:=hS4.put (w.heap.size+1+1+1+1+1+1+1) 0 (AE AF 0) (.inr (.inr rfl));have k2e:=k22.far (p:=⟨w.heap.size+1+1+1+1+1+1+1,0,none⟩) ri (AE AF 0);have k6e:=k62.far (p:=⟨w.heap.size+1+1+1+1+1+1+1,0,none⟩) ri (AE AF 0);have k7e:=k72.put 0 (AE AF 0);have hoe:=Nq (Ew ho2 (a:=⟨w.heap.size+1+1+1+1+1+1+1,0,none⟩) (by show w.heap.size+1+1+1+1+1+1+1 < Le.heap.size;omega) (AE AF 0)) (BH hz9 AFG);have ABv:w8.heap.size<=((w12.setCell ⟨w.heap.size+1+1,0,none⟩ (AB PA PL.length pc)).setCell ⟨w.heap.size+1+1+1+1+1+1+1,0,none⟩ (AE AF 0)).heap.size:=by rw [RI,RI];have:=vR.size;omega
  generalize ((w12.setCell ⟨w.heap.size+1+1,0,none⟩ (AB PA PL.length pc)).setCell ⟨w.heap.size+1+1+1+1+1+1+1,0,none⟩ (AE AF 0))=Hd at hm k2e k6e k7e hoe ABv ⊢;have e7:Hd.cell? ⟨w.heap.size+1+1+1+1+1+1+1,0,none⟩=some (AE AF 0):=k7e.cell 0;have AIe:=AA hm;have KB2:=AA k2e;have KB6:=AA k6e;have KB7:=AA k7e;have HOP:=AA hoe;have HPC:=AA hpc;have AFP:w8.heap.size<=Hd.heap.size:=ABv;clear hm k2e k6e k7e hoe hpc ho2 hpo k22 k62 k72 k2 k6 k7 hS hS2 hS3 hS4 hb0 hb2 hb3 Lx vR AB0;go_wp2_with fail;refine Ir (Gd (n:=1) (Dr.2 ?_));refine lX ?_;have hS:=AIe.o.below (Ae _ _).drew;have AFn:AK Hd Hd.drew:=(Ae _ _).drew;refine Sd (fun W=>QY w #[v0,v1,AB (some ⟨b,off,none⟩) n c,v3,v4,v5,v6] SD RR OO #[AE AF xs,AE AF xp,AE AF xi,AB VA vn vc] W) 17 _ I7 AJ rfl ?_;refine Bl 0 74 AJ rfl rfl DL hS AJ Fi ?_;refine Bl 1 75 AJ rfl rfl DL hS AJ Fi ?_;refine Bl 2 76 AJ rfl rfl DL hS AJ Fi ?_;refine Bl 3 77 AJ rfl rfl DL hS AJ Fi ?_;refine Bl 4 78 AJ rfl rfl DL hS AJ Fi ?_;refine Bl 5 79 AJ rfl rfl DL hS AJ Fi ?_;refine Bl 6 80 AJ rfl rfl DL hS AJ Fi ?_;refine Bl 7 81 AJ rfl rfl DL hS AJ Fi ?_;refine Bl 8 82 AJ rfl rfl DL hS AJ (v:=AP (yA holder)) (fun W hW=>Cs rfl AJ (HCM.o W hW).2.2.2.1) ?_;refine Bl 9 83 AJ rfl rfl DL hS AJ Fi ?_;refine Bl 10 84 AJ rfl rfl DL hS AJ Fi ?_;have hlx:vs.length=x:=by have h:=hac;rw [EL,Bj] at h;exact F8 h.1
  refine Bl 12 86 AJ rfl rfl DL hS AJ Ey ?_;refine Bl 13 87 AJ rfl rfl DL hS AJ (by intro W hW;have zW:=(HCM.o W hW).2.1;(go_simp) <;> rfl) ?_;refine WB 11 85 AJ rfl rfl rfl rfl (enters_of func44 AJ rfl) (oS Vh VA vn vc vs Hd.drew (HV.o.mono BX hS.old) AG) AJ ?_;rintro e QJ ⟨cv,ccs,rfl,hcc,hco,Pz⟩;have hS7:=hS.below Pz;refine ⟨_,rfl,hS7,?_⟩;obtain ⟨CA,cc',rfl⟩:=CG hco;have hl4:links.length=4:=by have:=ja.o;omega
  refine WB 14 88 AJ rfl rfl rfl rfl (enters_of func56 AJ rfl) (ACv Vr LA 4 lc links QJ (HL.o.mono BK hS7.old) AG) AJ ?_;rintro e Ig ⟨dv,dcs,rfl,hdc,hdo,Vn⟩;have XY:=hS7.below Vn;refine ⟨_,rfl,XY,?_⟩;obtain ⟨DA,dc',rfl⟩:=CG hdo;obtain ⟨PP,WG⟩:=Ad (Fs ⟨r.Ar,r.no,k,place,holder,AB CA vs.length cc',AB DA links.length dc',AB none 0 0⟩);have hbc:prog.built 46 [(0,AE AF r.Ar),(1,AE AF r.no),(2,AE AF k),(3,AE AF place),(4,AP (yA holder)),(5,AB CA vs.length cc'),(6,AB DA links.length dc')]=some PP:=by rw [WG];exact wG _ _ _ _ Zr.o _ _ _ _ _ _
  refine Bl 15 89 AJ rfl rfl DL XY AJ (v:=.agg PP) (fun W _=>Yx (Es (congrArg (prog.built 46) AJ) hbc)) ?_;have hb16:AK Hd Ig:=(AFn.trans Pz).trans (Vn.mono Pz.size);have k6f:=KB6.o.below hb16 KB6.o.lt;have hPs:PP.size=39:=by rw [WG];exact Ma Zr.o
  have hZs:ZZ.size=PP.size:=by rw [dV.o,hPs];rfl
  refine ADc 16 46 14 89 (w.heap.size+1+1+1+1+1+1) PP 46 ZZ AJ rfl rfl rfl rfl AJ AJ k6f (by rw [hPs];exact gL) hZs (by rw [WG];exact U0 rfl rfl rfl) (XY.row (w.heap.size+1+1+1+1+1+1) PP (.inr (.inl rfl))) ?_;refine F6 AJ ?_ _;refine ⟨rfl,?_⟩;simp only [Ct,DF]
  -- THE TAIL
  have hzA:=H8.o;have hzB:w8.heap.size<=Hd.heap.size:=AFP;have hzC:=hb16.size;have hzD:Hd.heap.size<=QJ.heap.size:=Pz.size;have nT:=XY.row (w.heap.size+1+1+1+1+1+1) PP (.inr (.inl rfl));have ACX:AZ (Ig.setRow (w.heap.size+1+1+1+1+1+1) PP) (w.heap.size+1+1+1+1+1+1) 46 PP:=setRow_heap Ig _ ZZ PP _ _ k6f;have ACQ:Ag 1 CK (Ig.setRow (w.heap.size+1+1+1+1+1+1) PP) (AB CA vs.length cc') vs:=CW (Pt (EW hco Vn) (fun g h1 _=>Gt _ _ _ _ (by have h:Hd.heap.size<=g:=h1;omega))) ⟨hcc.1,hcc.2⟩ rfl;have ACV:Ag 32 CV (Ig.setRow (w.heap.size+1+1+1+1+1+1) PP) (AB DA links.length dc') links:=CW (Pt hdo (fun g h1 _=>Gt _ _ _ _ AG)) (Ij hdc) rfl;have ACR:Ag 32 CV (Ig.setRow (w.heap.size+1+1+1+1+1+1) PP) (AB PA PL.length pc) PL:=CW (Pt (EW HOP.o hb16) (fun g h1 _=>Gt _ _ _ _ AG)) (Ij HPC.o) rfl;have ABj:AZ (Ig.setRow (w.heap.size+1+1+1+1+1+1) PP) (w.heap.size+1+1) 37 #[AB PA PL.length pc]:=(Gt _ _ _ _ AG).trans (KB2.o.below hb16 KB2.o.lt);have ABi:AZ (Ig.setRow (w.heap.size+1+1+1+1+1+1) PP) (w.heap.size+1+1+1+1+1+1+1) 47 #[AE AF 0]:=(Gt _ _ _ _ AG).trans (KB7.o.below hb16 KB7.o.lt);have hNV:NewAt (w8.heap.size) (AB CA vs.length cc'):=fun r hr=>by have h:Hd.heap.size<=r:=Sh hco r hr;omega
  have hNL:NewAt (w8.heap.size) (AB DA links.length dc'):=fun r hr=>by have h:=Sh hdo r hr;omega
  have hNP:NewAt (w8.heap.size) (AB PA PL.length pc):=Sh HOP.o;have nJ:w8.heap.size<=(Ig.setRow (w.heap.size+1+1+1+1+1+1) PP).heap.size:=by rw [setRow_size];omega
  have hwh:=dY.o (Ig.setRow (w.heap.size+1+1+1+1+1+1) PP) CA DA none vs.length cc' links.length dc' 0 0 nT.old AG;rw [o5.o,<-WG] at hwh;generalize Ig.setRow (w.heap.size+1+1+1+1+1+1) PP=w16 at nT ACX ACQ ACV ACR ABj ABi nJ hwh ⊢;have HPP:=AA WG;have HPS:AI ((prog.info? 46).map (·.size)=some PP.size):=AA (by rw [hPs];exact gL);have AId:=AA nT;have AC7:=AA ACX;have AGK:=AA ACQ;have pH:=AA ACV;have AIP:=AA ACR;have AGG:=AA ABj;have AGF:=AA ABi;have HNV:=AA hNV;have SH:=AA hNL;have pD:=AA hNP;have HWF:=AA hwh;have AID:=AA nJ;have dj:=AA hlx;have pG:=AA hl4;obtain ⟨d0,d1,d2,d3,d4,d5,d6⟩:=HTM.o w16 nT;clear nT ACX ACQ ACV ACR ABj ABi hNV hNL hNP hwh nJ WG hPs hZs hbc hco hcc hdo hdc hS hS7 XY AFn Pz Vn hb16 k6f AFP hzB hzC hzD e7 hlx hl4 ABv;refine Ir (Ir (Gd (n:=1) (Dr.2 ?_)));go_wp2_with (first
   | (refine Bv rfl 46 (AY 14) rfl (w.heap.size+1+1+1+1+1+1) rfl 46 PP (0,0) _ AC7.o underlying46 rfl HPS.o ?_)
   | (
    go_at_call 40;refine HWF.o.mono ?_;rintro e bY ⟨F,L,rfl,hF,hL,gH,hNF,hNM⟩;obtain ⟨FA,fc,rfl⟩:=hF.form;obtain ⟨MA,mc,rfl⟩:=hL.form;obtain ⟨X,hX⟩:=Ad (JA ⟨r.Ar,r.no,k,place,holder,AB FA (upto x).length fc,AB CA vs.length cc',0,zeros 32,AB none 0 0,AB MA (upto 4).length mc,AB DA links.length dc',(x:Int)+4+1,(x:Int)+4⟩);rw [<-hX];have HX:=AA hX;have AIn:=AA hF;have AIg:=AA hL;have bC:=AA gH;have Hk:=AA hNF;have di:=AA hNM;clear hX hF hL gH hNF hNM)
   | (go_at_call 57;refine (ABa HX.o _).mono ?_;rintro e ME ⟨rfl,rfl⟩)
   | fail)
  obtain ⟨k18,b18,s18⟩:=bx bY X 96;generalize (bY.alloc (AO X 96))=ME at k18 b18 s18 ⊢;obtain ⟨g,hg⟩:=Ad bY.heap.size;rw [<-hg] at k18 s18 ⊢;have gG:AK w16 ME:=AV bC.o b18;have hm18:=AId.o.below gG;have nJ:=AID.o;have AHR:=bC.o.size;have hzA:=H8.o;obtain ⟨ms,hms⟩:=Ad (Fk Aw x (O6 r place holder links vs));have AJI:(k:Int)<=9223372036854775807:=by have:=HS.o.le;omega
  have hseq:wQ Fence.wide 2 prog 81 #[AW (some ⟨g,0,none⟩)] tL TB (KX ME.heap.size (w.heap.size+1+1+1+1+1+1) g) (GM ms) (fun xs=>xs=ms) ME:=by
   have h:=tK 2 ME.heap.size (w.heap.size+1+1+1+1+1+1) g ⟨r.Ar,r.no,k,place,holder,AB FA (upto x).length fc,AB CA vs.length cc',0,zeros 32,AB none 0 0,AB MA (upto 4).length mc,AB DA links.length dc',(x:Int)+4+1,(x:Int)+4⟩ FA CA MA DA _ fc _ cc' _ mc _ dc' (upto x) vs (upto 4) links ME rfl rfl rfl rfl
    (fun W hk=>⟨(AIn.o.mono BX b18).kx Ho Hk.o AG (Ac _) hk,(AGK.o.mono BX gG).kx Ho HNV.o AG (Ac _) hk,(AIg.o.mono BX b18).kx Ho di.o AG (Ac _) hk,(pH.o.mono BK gG).kx Ho SH.o AG (Ac _) hk⟩)
    (by rw [<-HX.o];exact k18) Zr.o rfl (Ac _) (by rw [Hp,dj.o];exact Ac _) (by rw [Hp,pG.o];exact Ac _) (by show Gk (k:Int);unfold Gk;omega)
    (by show 0<=place/\place<=1000;omega) Yq Yp (VO AG) (VO AG) (I0.o.below hm18.old)
   rw [hms,Fk,O6,o5.o];exact h
  have Zi:AI (∀m∈ms,m.2.length=32/\∀z∈m.2,0<=z/\z < 256):=AA (by rw [hms];exact mg);have Zh:AI (ms.length=x+5):=AA (by rw [hms];exact QI dj.o pG.o);have AGR:AI ((PL.length:Int)=r.places*((x:Int)+4+1)):=AA (by rw [SF.o,Rk];omega);have t7:AI (∀(j:Nat) (m:Int×AQ),ms[j]? =some m->0<=m.1/\m.1.toNat < PL.length):=AA (fun j m hj=>by rw [hms] at hj;obtain ⟨h1',h2'⟩:=iH (c:=O6 r place holder links vs) dj.o pG.o hj;have h3':m.1=place*((x:Int)+4+1)+j:=h2';have h5':(place+1)*((x:Int)+4+1)<=r.places*((x:Int)+4+1):=PZ AG AG;have h6':0<=place*((x:Int)+4+1):=Kj h1 AG;have So:=AGR.o;rw [Int.add_mul,Int.one_mul] at h5';omega)
  have AGS:AI (PL.length<=256):=AA (by have:=AGR.o;have:=HP2.o;omega);obtain ⟨sg,hsg⟩:∃sg:Int×AQ->Cj,sg=fun m=>QA Aw seed PL m.1.toNat m.2:=⟨_,rfl⟩;obtain ⟨q,hq⟩:=Ad (⟨r.Ar,r.no,k,place,holder,AB CA vs.length cc',AB DA links.length dc',AB none 0 0⟩:TJ);have nM:q.holder.length=32:=by rw [hq];exact Zr.o
  have HI0:AI (Xu ME.heap.size g ms sg q w ME [] ME):=AA ⟨rfl,Av _,KX.refl _ _ _ _,hm18.old,none,0,[],List.range ME.heap.size,fun b hb=>by rw [Ed];omega,by
   have h:=AC7.o.below gG AC7.o.lt;rw [HPP.o] at h;rw [hq];exact h,⟨Ev _ _ _ _,fun r hr=>absurd hr M1,fun b hb=>Ed.1 hb,by rw [Ed];omega,Aq.nil⟩⟩
  have wX:=AA hseq;have HMS:=AA hms;have HSG:=AA hsg;have HQ:=AA hq;have OV:=AA nM;have AIc:=AA hm18;have YD:=AA gG;have xH:AI (ME.heap.size=g+1/\w.heap.size+8<=g):=AA ⟨s18,by omega⟩;have KG:=AA k18;clear hseq hms hsg hq nM hm18 gG hg k18 b18 nJ AHR hzA s18 d0 d1 d2 d3 d4 d5 d6;refine VN ?_;refine yV fun L hL=> ?_;refine TM rfl (gf:=81) (lb:=#[AW (some ⟨g,0,none⟩)]) (by rw [hL];rfl) (enters_of func81 AJ rfl) wX.o (fun _=>rfl) ms.length
   (Xu ME.heap.size g ms sg q w ME) (fun _ _=>False)
   (fun s A C h t=>h.below (Ac _) Jm t) (fun s A C h b=>h.book b (Ac _) Jm Jm Jm) (fun s A h=>h.le) (fun A C h=>h.others) (fun A B C h k=>h.trans k) (fun W l o o' hl _ _=>KX.put W o' hl Jm)
   HI0.o (fun y a' W=>∃Bx,(ME.heap.size<=Bx/\AZ W Bx 34 (yA y.2))/\a'=⟨((((L.set 94 (AE AF y.1)).set 95 (AP (yA y.2))).set 16 (AE AF y.1)).set 17 (AW (some ⟨Bx,0,none⟩))).toArray,[]⟩)
   (fun y a' A C h b=>by obtain ⟨Bx,⟨h1,h2⟩,h3⟩:=h;exact ⟨Bx,⟨h1,F4 h2 b⟩,h3⟩) ?assign ?body ?done ?zL
  case zL=>exact fun _ _ _ _ h _=>h.elim
  case assign=>
   rintro l pre y W hI hG hsz;subst hL;have hyl:=(Zi.o y (CS hG.2)).1;have hzb:=Iq W 34;have CY:=AA Gm;have ox:=AA hyl;have HI:=AA hI;clear hI hG hyl
   dsimp only [tL]
   gi_wp2_with (refine JQ rfl 34 (AY 17) (AY 95) rfl W.heap.size y.2 rfl rfl 34 (yA (zeros 32)) hzb.1 CY.o DU ox.o ?_;intro w7 k7 hb7 EJ)
   have hbW:=((Ae W.heap.size W).alloc (Ac _) _).trans hb7;exact ⟨(KeepsOthers.alloc _ _).trans (TE.others ⟨EJ,_,_,_,hzb.1⟩),(KX.refl _ _ _ _).below hbW AG Jm,HI.o.below (Ac _) Jm hbW,by omega⟩
  case body=>
   rintro l pre y a' W hI hG ⟨Bx,⟨hBx,hbx⟩,rfl⟩ hsz;subst hL;simp only [Ct,DF];have hpl:pre.length < ms.length:=(BD.1 hG.2).1;obtain ⟨hyl,hyr⟩:=Zi.o y (CS hG.2);obtain ⟨hy0,hy1⟩:=t7.o _ _ hG.2;obtain ⟨RA,rc,cs,S,hSO,hE,hR⟩:=hI.row;have k1:AZ W (w.heap.size+1) 34 (yA seed):=by rw [<-Nd.o];exact (hI.kx.same _ Jm AG).trans AIc.o.sd
   have k2:AZ W (w.heap.size+1+1) 37 #[AB PA PL.length pc]:=(hI.kx.same _ Jm AG).trans (AGG.o.below YD.o AGG.o.lt);have hsw:AS prog 58 #[AP (yA seed),AB PA PL.length pc,AE AF y.1,AP (yA y.2)] W (ADm (sg y) W):=by have h:=l8 seed y.2 PA PL.length pc y.1.toNat PL W HSL.o hyl hyr AGS.o hy1 (I0.o.below hI.old) ((AIP.o.mono BK YD.o).kx Ho pD.o (by have:=xH.o;have:=H8.o;omega) (Ac _) hI.kx);rw [YQ hy0] at h;rw [HSG.o];exact h
   have c2:=k2.cell 0;simp only [Ak,Al] at c2;have CY:=AA Gm;have ox:=AA hyl;obtain ⟨j0,z0,hj⟩:=Vg;have HJ:=AA hj;have K1:=AA k1;have KBX:=AA hbx;have WT:=AA hsw;have HI:=AA hI;have HG:=AA hG;have HE:=AA hE;have jQ:=AA hSO;have HR:=AA hR;have gq:=AA hpl;clear hpl hyl hyr hy0 hy1 hE hR hSO k1 k2 hsw hbx hI hG hj
   gi_wp2_with (first
    | (refine If rfl 34 (AY 8) rfl (w.heap.size+1) seed rfl 34 _ K1.o underlying34 rfl CY.o HSL.o ?_)
    | (refine If rfl 34 (AY 17) rfl Bx y.2 rfl 34 _ KBX.o underlying34 rfl CY.o ox.o ?_)
    | (
     refine ⟨trivial,(CallsIn.inRound l (Et.2 WT.o)).mono ?_⟩;rintro e w5 ⟨v1,cs1,v2,cs2,rfl,ho1,hc1,ho2,hc2,hb5⟩;obtain ⟨A1,c1,rfl⟩:=CG ho1;obtain ⟨A2,c2',rfl⟩:=CG ho2;have kE5:=HE.o.below hb5 HE.o.lt;have c5:=(O4 kE5 OV.o).claims;have f5:=kE5.frozen 38;have l5:=kE5.lt;have hS5:∀b∈S,b < W.heap.size:=HR.o.lt;have HLF:AI (∀o,Dt (veil S ((w5.alloc o).alloc o)) [AE AF (sg y).index,AB A1 (sg y).chains.length c1,AB A2 (sg y).path.length c2'] (sg y)):=AA (fun o=>ABe hS5 ho1 hc1 ho2 hc2 (((Ae _ _).alloc (Ac _) o).alloc AX o));have HR6:AI (∀o,Je ME.heap.size 71 3 Dt (w.heap.size+1+1+1+1+1+1) (AB RA pre.length rc) (pre.map sg) ((w5.alloc o).alloc o) cs S):=AA (fun o=>(HR.o.below Bd hb5).below Bd (((Ae _ _).alloc (Ac _) o).alloc AX o));have QZ:AI (∀o,((w5.alloc o).alloc o).ownsRow ME.heap.size 71 3 (AB RA pre.length rc) pre.length cs):=AA (fun o=>by have h:=(HR6.o o).own;rw [Cb] at h;exact h)
     have CP:=AA hb5;have KE5:=AA kE5;have AJB:pre.length < 4294967296:=by have:=gq.o;have:=Zh.o;omega
     have HZ5:AI (ME.heap.size+2<=w5.heap.size):=AA (BH hsz hb5.size);have jR:AI (∀o,ME.heap.size<=((w5.alloc o).alloc o).heap.size):=AA (fun o=>by have:=HZ5.o;rw [Ee,Ee];omega)
     have jd:AI (some (w.heap.size+1+1+1+1+1+1)≠(Value.slice RA pre.length rc).ownBlock):=AA (DX (QZ.o (AO #[] 0)) Jm);have H63:AI (pre.length+1<=maxLen):=AA FN;have X9:AI ((pre.length+1)*56<=140737488355328):=AA AG;clear ho1 hc1 ho2 hc2 hb5 kE5 hS5)
    | (
     gi_at_builtin
     refine wpListIn_append_own_at _ rfl (AY 109) (AY 111) 44 rfl ME.heap.size 71 j0 z0 3 56 underlying44 HJ.o.1 HJ.o.2.1 HJ.o.2.2.2.1 HJ.o.2.2.2.2 HJ.o.2.2.1 Ah _ _ _ rfl (QZ.o _) ⟨w5.heap.size+1,0,none⟩ 1 1 [AE AF (sg y).index,AB A1 (sg y).chains.length c1,AB A2 (sg y).path.length c2'] rfl rfl AHO (kV _ _ _ _ _ _ _) H63.o X9.o (jR.o _) ?_;intro v' w7 GJ EJ _ Ow;obtain ⟨A',c',rfl⟩:=CG GJ;have kE7:=((KE5.o.alloc _).alloc _).grown EJ jd.o;have c7:=(O4 kE7 OV.o).claims;have f7:=kE7.frozen 38;have l7:=kE7.lt;have pB:=AA GJ;have HG7:=AA EJ;have AIz:=AA Ow;clear GJ EJ Ow kE7)
    | fail)
   have AJL:=HZ5.o;have hgg:=xH.o;have hpush:=HI.o.push HG.o OV.o (w6:=(w5.alloc _).alloc _) (((KX.refl _ _ _ _).below CP.o AG AG).below ((BE _ _).alloc AX _) AG AG) ((AV HI.o.old CP.o).trans ((((Ae w5.heap.size w5).alloc (Ac _) _).alloc AX _).mono (BH HI.o.old.size CP.o.size))) jQ.o ((KE5.o.alloc _).alloc _) (HR6.o _) BN AG AG pB.o HG7.o AIz.o rfl (HLF.o _);exact ⟨(((TB.others CP.o).trans (KeepsOthers.alloc _ _)).trans (KeepsOthers.alloc _ _)).trans ((cM (QZ.o _) HG7.o).trans (KeepsOthers.setCell _ _ _)),hpush.1,hpush.2⟩
  rintro D ys W hD rfl hI hdf;subst hL;obtain ⟨A',c',cs,S,hSO,hE,hR⟩:=hI.row;have k7:AZ W (w.heap.size+1+1+1+1+1+1+1) 47 #[AE AF 0]:=(hI.kx.same _ Jm AG).trans (AGF.o.below YD.o AGF.o.lt);obtain ⟨CL,hCL⟩:∃CL,CL=Fs {q with claims:=AB A' ys.length c'}:=⟨_,rfl⟩;rw [<-hCL] at hE;have OX:AI ((prog.info? 46).map (·.size)=some CL.size):=AA (by rw [hCL,Ma (by exact OV.o)];exact gL);have HCO:AI (CL.all (·.oneCell')=true):=AA (by rw [hCL,HQ.o];exact U0 rfl rfl rfl);have e7:=k7.cell 0;have f7:=k7.frozen 0;have l7:=k7.lt;simp only [Ak,Al] at e7;have KE:=AA hE;have K7:=AA k7;have HI:=AA hI;have HR:=AA hR;have X7:=AA hdf;have HD:=AA hD;have SN:=AA hCL;clear hE k7 hI hR hdf hD hCL;refine Gd (n:=1) (Dr.2 ?_);go_wp2_with (first
   | (refine Bv rfl 46 (AY 14) rfl (w.heap.size+1+1+1+1+1+1) rfl 46 CL (0,0) _ KE.o underlying46 rfl OX.o ?_)
   | (refine wpList_store_rowTo rfl 46 (AY 14) (AY 114) rfl rfl (w.heap.size+1+1+1+1+1+1) CL rfl rfl 46 CL KE.o OX.o rfl HCO.o ?_;rw [N1 _ _ _ _ _ KE.o])
   | fail)
  have hself:W.setCell ⟨w.heap.size+1+1+1+1+1+1+1,0,none⟩ (AE AF 0)=W:=by rw [setCell_eq_setRow W (w.heap.size+1+1+1+1+1+1+1) 0 _ _ _ _ K7.o];exact N1 _ _ _ _ _ K7.o
  rw [hself];have hB:Book ME.heap.size W (W.putObj D (.deferred none)):=Book.put _ _ _ HD.o X7.o rfl;have hmk:FS 0 (some x) (val r.schema) r place links xs vs=true:=by have:=OW.o;have:=pG.o;simp only [FS,Bj,B8];exact ⟨⟨⟨⟨⟨⟨trivial,OW.o⟩,h1⟩,h2⟩,pG.o⟩,h4⟩,hac⟩
  refine ⟨by simp,.inl ⟨_,_,rfl,run_takeDeferred X7.o,?_⟩⟩;refine ⟨_,Ww (h:=w.heap.size+1+1+1+1+1+1+1) rfl rfl rfl (F4 KE.o hB) underlying46 rfl OX.o (QN ((F4 K7.o hB).cell 0)),?_⟩;have hzw:w.heap.size<=w8.heap.size:=CX.o.size;have hV:=(((AGK.o.mono BX YD.o).kx Ho HNV.o (by have:=H8.o;omega) (Ac _) HI.o.kx).QW Vi hB.size (fun _ _ h=>Xn hB h)).ADa Ho HNV.o hzw;have hLk:=(((pH.o.mono BK YD.o).kx Ho SH.o (by have:=H8.o;omega) (Ac _) HI.o.kx).QW O2 hB.size (fun _ _ h=>Xn hB h)).ADa Ho SH.o hzw;have hC0:=(CW (Ra (S:=List.range w.heap.size) HR.o.own (fun b hb=>by rw [Ed] at hb;have:=xH.o;omega)) ⟨HR.o.els.1,fun i x hi=>JD _ _ _ _ ej (fun _ _=>Zw (fun b hb=>hSO b (Ed.1 hb))) (HR.o.els.2 i x hi)⟩ rfl);have hC:=hC0.QW JD (by rw [Dz,Dz];exact hB.size) (fun _ _ h=>iI hB h);have ec:ys.map sg=(IJ Aw seed x r place holder links vs).claims:=by rw [HMS.o,HSG.o,SF.o];rfl
  rw [ec] at hC;rw [I3.o hmk,SN.o,HQ.o];refine ⟨CA,vs.length,cc',DA,links.length,dc',A',ys.length,c',?_,hV,hLk,hC,Below.book HI.o.old hB Jm⟩;simp only [IJ,O6,o5.o]
attribute [local go_sem] Oper.semAt_some
theorem mJ {P:BA} {fn:Func} {tmps:Array AN} {p q:Tmp} {ty t:Af} {ds:TypeDesc} {cs:Array AN} {v:AN} {g:Nat} {w:AH} (hr:fn.results=#[.cell p ty,.tmp q]) (hp:tmps.getD p undef=AW (some ⟨g,0,none⟩)) (hq:tmps.getD q undef=v) (hg:AZ w g t cs) (hu:P.underlying ty=some ds) (hds:(match ds with | .struct _ | .array _ _=>true | _=>false)=true) (hi:(P.info? ty).map (·.size)=some cs.size):
 (results fn tmps).run P w=.ok (BQ #[.agg cs,v]) w:=by
 have hp':tmps[p]?.getD undef=AW (some ⟨g,0,none⟩):=by simpa using hp
 have hq':tmps[q]?.getD undef=v:=by simpa using hq
 simp [results,hr,hp',hq',asAddr,run_loadVar_row w g t ty cs (0,0) ds hg hu hds hi]
theorem zX {ns:List Nat} {sc:Int} {x:Nat} (h:Bm ns sc=some x):∃k:Nat,sc=k/\ns[k]? =some x:=by
 unfold Bm at h;by_cases h0:0<=sc
 ·rw [Ao h0] at h
  exact ⟨sc.toNat,(YQ h0).symm,h⟩
 rw [Ai h0] at h;cases h
theorem Gn.outer {w W w' w'':AH} {q:Fb} {e0:Int} {VA LA KA:Option Aa} {vn vc ln lc kn kc g:Nat} (h1:Ag 1 CK (RY W.heap.size w') (AB VA vn vc) q.values) (h2:Ag 32 CV (RY W.heap.size w') (AB LA ln lc) q.links) (h3:Ag 3 Dt (RY W.heap.size w') (AB KA kn kc) q.claims)
 (hg:w'.grownBy w'' (some g)) (hgB:g < W.heap.size) (hw:w.heap.size<=W.heap.size) (hb:AK w w''):Gn w q e0 (AU (BQ #[AP (Fs ⟨q.Ar,q.round,q.schema,q.place,q.holder,AB VA vn vc,AB LA ln lc,AB KA kn kc⟩),AE AF e0])) w'':=
 ⟨VA,vn,vc,LA,ln,lc,KA,kn,kc,rfl,h1.Yt BX Vi hg hgB hw,h2.Yt BK O2 hg hgB hw,h3.Yt Bd JD hg hgB hw,hb⟩
theorem aE (v0 v1 v3 v4 v5 v6:AN) (A:Option Aa) (n c:Nat) (ns:List Nat) (ck:Int) (val:Int->Int->Int->Bool) (seed:AQ) (r:CM) (place pe it xs xp xi:Int) (holder:AQ) (links:List (AQ)) (vs:AQ) (VA LA:Option Aa) (vn vc ln lc:Nat) (w:AH) (hs:Ag 6 Lz w (AB A n c) ns)
 (hK:Ql (AP #[v0,v1,AB A n c,v3,v4,v5]) (AP #[v0,v1,AB A n c,v3,v4,v5,v6]) ck val w) (hv:Ag 1 CK w (AB VA vn vc) vs) (hl:Ag 32 CV w (AB LA ln lc) links) (hsd:seed.length=32) (hh:holder.length=32) (hro:r.root.length=32) (MT:Ca w):
 AS prog 9 #[AP #[v0,v1,AB A n c,v3,v4,v5,v6],AP (yA seed),AP (rdA r),AE AF place,AP (Qg pe it holder (AB LA ln lc)),AP #[AE AF xs,AE AF xp,AE AF xi,AB VA vn vc]] w
  (if FS ck (Bm ns r.schema) (val r.schema) r place links xs vs=true then Gn w (IJ Aw seed ((Bm ns r.schema).getD 0) r place holder links vs) 0 else Gn w Ci (Ve ck)):=by
 obtain ⟨R,hR⟩:∃R,R=(if FS ck (Bm ns r.schema) (val r.schema) r place links xs vs=true then Gn w (IJ Aw seed ((Bm ns r.schema).getD 0) r place holder links vs) 0 else Gn w Ci (Ve ck)):=⟨_,rfl⟩;obtain ⟨RR,hRR⟩:=Ad (rdA r);obtain ⟨OO,Oy⟩:=Ad (Qg pe it holder (AB LA ln lc));obtain ⟨SD,hSD⟩:=Ad (yA seed);obtain ⟨ZZ,dD⟩:=Ad (Fs ⟨0,0,0,0,zeros 32,AB none 0 0,AB none 0 0,AB none 0 0⟩);rw [<-hR,<-hRR,<-Oy,<-hSD];have NK:AI ((prog.info? 36).map (·.size)=some RR.size):=AA UO;have X2:AI ((prog.info? 39).map (·.size)=some OO.size):=AA eQ;have VE:AI ((prog.info? 34).map (·.size)=some SD.size):=AA (by rw [hSD,B9,hsd];kernel_rfl);have HZI:AI ((prog.info? 46).bind (·.zero)=some (.agg ZZ)):=AA OB;have O7:AI ((prog.info? 46).map (·.size)=some ZZ.size):=AA OB;have HZO:AI (ZZ.all (·.oneCell')=true):=AA OB;have Mn:AI (∀W,AK w W->AS prog 23 #[AP #[v0,v1,AB A n c,v3,v4,v5,v6]] W fun e w'=>e=AU (AE AF ck)/\AK W w'):=AA hK.chk;have OW:AI (∀W,AK w W->AS prog 27 #[AP #[v0,v1,AB A n c,v3,v4,v5,v6],.agg RR] W fun e w'=>e=AU (.bool (GN (Bm ns r.schema) r.places))/\AK W w'):=AA (fun W hW=>by rw [hRR];exact Xd v0 v1 v3 v4 v5 v6 A n c ns r W (hs.mono EK hW));have Mh:AI (∀x k W,AK w W->r.schema=(k:Nat)->ns[k]? =some x->ck=0->GN (Bm ns r.schema) r.places=true->AS prog 28 #[AP #[v0,v1,AB A n c,v3,v4,v5,v6],.agg SD,AB none 0 0,.agg RR,AE AF place,.agg OO,AP #[AE AF xs,AE AF xp,AE AF xi,AB VA vn vc]] W fun e w'=>∃q e0,Gn W q e0 e w'/\q.holder.length=32/\∀w1 e1 w2,Gn w1 q e0 e1 w2->w1=w->R e1 w2):=AA (fun x k W hW h1 h2 h3 h4=>by
  have hn:Bm ns r.schema=some x:=by rw [h1,Bm,Ao AG,Cm];exact h2
  rw [hn] at h4;rw [hSD,hRR,Oy];refine (m9 v0 v1 v3 v4 v5 v6 A n c ns ck val seed r place pe it xs xp xi holder links vs VA LA vn vc ln lc x k W (hs.mono EK hW) (hK.below hW) (hv.mono BX hW) (hl.mono BK hW) hsd hh hro (MT.below hW) h2 h1 h4).mono ?_;intro e w' h;rw [hR,hn,h3];by_cases hm:FS 0 (some x) (val r.schema) r place links xs vs=true
  ·rw [Ao hm] at h
   exact ⟨_,_,h,hh,fun w1 e1 w2 hr hw=>by rw [Ao hm];rw [hw] at hr;exact hr⟩
  rw [Ai hm] at h;exact ⟨_,_,h,rfl,fun w1 e1 w2 hr hw=>by rw [Ai hm];rw [hw] at hr;exact hr⟩)
 have Cf:AI (¬(ck=0/\GN (Bm ns r.schema) r.places=true)->∀w2,AK w w2->R (AU (BQ #[.agg ZZ,AE AF (Ve ck)])) w2):=AA (fun h w2 hb=>by rw [hR,Ai (fun hm=>h (by simp only [FS,Bj,B8] at hm;exact ⟨hm.1.1.1.1.1.1,hm.1.1.1.1.1.2⟩)),dD];exact ⟨_,_,_,_,_,_,_,_,_,rfl,Ag.nil _ _ (Av _),Ag.nil _ _ (Av _),Ag.nil _ _ (Av _),hb⟩)
 clear hs hK hv hl hsd hh hro MT hR hRR Oy hSD dD;go_enter func9,ntmps9;go_upto_region 1 with (first | (refine EY rfl 46 rfl ZZ HZI.o ?_) | fail);obtain ⟨k1,b1,s1⟩:=bx w #[v0,v1,AB A n c,v3,v4,v5,v6] 32;generalize (w.alloc (AO #[v0,v1,AB A n c,v3,v4,v5,v6] 32))=w1 at k1 b1 s1 ⊢;obtain ⟨k2,b2,s2⟩:=bx w1 SD 34;generalize (w1.alloc (AO SD 34))=w2 at k2 b2 s2 ⊢;rw [s1] at k2 b2 s2;obtain ⟨k3,b3,s3⟩:=bx w2 RR 36;generalize (w2.alloc (AO RR 36))=w3 at k3 b3 s3 ⊢;rw [s2] at k3 b3 s3;obtain ⟨k4,b4,s4⟩:=bx w3 OO 39;generalize (w3.alloc (AO OO 39))=w4 at k4 b4 s4 ⊢;rw [s3] at k4 b4 s4;obtain ⟨k5,b5,s5⟩:=bx w4 #[AE AF xs,AE AF xp,AE AF xi,AB VA vn vc] 41;generalize (w4.alloc (AO #[AE AF xs,AE AF xp,AE AF xi,AB VA vn vc] 41))=w5 at k5 b5 s5 ⊢;rw [s4] at k5 b5 s5;obtain ⟨k6,b6,s6⟩:=bx w5 ZZ 46;generalize (w5.alloc (AO ZZ 46))=w6 at k6 b6 s6 ⊢;rw [s5] at k6 b6 s6;have CX:AI (AK w w6):=AA (((((b1.trans (b2.mono AG)).trans (b3.mono AG)).trans (b4.mono AG)).trans (b5.mono AG)).trans (b6.mono AG));have H6:AI (w6.heap.size=w.heap.size+1+1+1+1+1+1):=AA AG;have HE:AI (∀W,AK w6 W->AZ W w.heap.size 32 #[v0,v1,AB A n c,v3,v4,v5,v6]/\AZ W (w.heap.size+1) 34 SD/\AZ W (w.heap.size+1+1) 36 RR/\AZ W (w.heap.size+1+1+1) 39 OO/\AZ W (w.heap.size+1+1+1+1) 41 #[AE AF xs,AE AF xp,AE AF xi,AB VA vn vc]/\AZ W (w.heap.size+1+1+1+1+1) 46 ZZ):=AA (fun W hW=>
  ⟨(((((k1.below b2 AG).below b3 AG).below b4 AG).below b5 AG).below b6 AG).below hW AG,((((k2.below b3 AG).below b4 AG).below b5 AG).below b6 AG).below hW AG,(((k3.below b4 AG).below b5 AG).below b6 AG).below hW AG,((k4.below b5 AG).below b6 AG).below hW AG,(k5.below b6 AG).below hW AG,k6.below hW AG⟩)
 have HC:AI (∀W,AK w6 W->(W.cell? ⟨w.heap.size,0,none⟩=some v0/\W.cell? ⟨w.heap.size,1,none⟩=some v1/\W.cell? ⟨w.heap.size,2,none⟩=some (AB A n c)/\W.cell? ⟨w.heap.size,3,none⟩=some v3/\W.cell? ⟨w.heap.size,4,none⟩=some v4/\W.cell? ⟨w.heap.size,5,none⟩=some v5/\W.cell? ⟨w.heap.size,6,none⟩=some v6)/\W.cell? ⟨w.heap.size+1+1+1+1,0,none⟩=some (AE AF xs)/\W.cell? ⟨w.heap.size+1+1+1+1,1,none⟩=some (AE AF xp)/\W.cell? ⟨w.heap.size+1+1+1+1,2,none⟩=some (AE AF xi)/\W.cell? ⟨w.heap.size+1+1+1+1,3,none⟩=some (AB VA vn vc)):=AA (fun W hW=>by obtain ⟨b,_,_,_,i,_⟩:=HE.o W hW;exact ⟨⟨b.cell 0,b.cell 1,b.cell 2,b.cell 3,b.cell 4,b.cell 5,b.cell 6⟩,i.cell 0,i.cell 1,i.cell 2,i.cell 3⟩)
 clear k1 b1 s1 k2 b2 s2 k3 b3 s3 k4 b4 s4 k5 b5 s5 k6 b6 s6;obtain ⟨⟨d0,d1,d2,d3,d4,d5,d6⟩,_⟩:=HC.o w6 (Ae _ _);by_cases hck:ck=0
 rotate_left
 ·have hcf:(ck==0)=false:=JK hck
  have HN:=AA (Cf.o (fun h=>hck h.1));have HKN:=AA hck;go_wp2_with (first
   | (go_at_call 23;refine (Mn.o _ CX.o).mono ?_;rintro e w7 ⟨rfl,hb7⟩;have Da:=AA hb7;have K7:=AA (HE.o w7 hb7).2.2.2.2.2;clear hb7)
   | (refine Bv rfl 46 (AY 12) rfl (w.heap.size+1+1+1+1+1) rfl 46 ZZ (0,0) _ K7.o underlying46 rfl O7.o ?_)
   | (refine wpList_store_rowTo rfl 46 (AY 12) (AY 17) rfl rfl (w.heap.size+1+1+1+1+1) ZZ rfl rfl 46 ZZ K7.o O7.o rfl HZO.o ?_;rw [N1 _ _ _ _ _ K7.o])
   | fail)
  refine Eu (mJ rfl rfl rfl K7.o underlying46 rfl O7.o) rfl ?_;have h:=HN.o w7 (AV CX.o Da.o);rw [Ve,Ai HKN.o] at h;exact h
 subst hck;cases hft:GN (Bm ns r.schema) r.places with
 |
  false=>
  rw [hft] at OW Cf;have HN:=AA (Cf.o (fun h=>by cases h.2));go_wp2_with (first
   | (go_at_call 23;refine (Mn.o _ CX.o).mono ?_;rintro e w7 ⟨rfl,hb7⟩;have Da:=AA hb7;have KR:=AA (HE.o w7 hb7).2.2.1;obtain ⟨⟨d0,d1,d2,d3,d4,d5,d6⟩,_⟩:=HC.o w7 hb7;clear hb7)
   | (refine Bv rfl 36 (AY 8) rfl (w.heap.size+1+1) rfl 36 RR (0,0) _ KR.o underlying36 rfl NK.o ?_)
   | (go_at_call 27;refine (OW.o _ (AV CX.o Da.o)).mono ?_;rintro e w8 ⟨rfl,hb8⟩;have Ke:=AA (AV Da.o hb8);have K8:=AA (HE.o w8 Ke.o).2.2.2.2.2;clear hb8)
   | (refine Bv rfl 46 (AY 12) rfl (w.heap.size+1+1+1+1+1) rfl 46 ZZ (0,0) _ K8.o underlying46 rfl O7.o ?_)
   | (refine wpList_store_rowTo rfl 46 (AY 12) (AY 22) rfl rfl (w.heap.size+1+1+1+1+1) ZZ rfl rfl 46 ZZ K8.o O7.o rfl HZO.o ?_;rw [N1 _ _ _ _ _ K8.o])
   | fail)
  refine Eu (mJ rfl rfl rfl K8.o underlying46 rfl O7.o) rfl ?_;exact HN.o w8 (AV CX.o Ke.o)
 |
  true=>
  obtain ⟨x,hnf,_⟩:=NE hft;obtain ⟨k,hk,hx⟩:=zX hnf;have HM:=AA (fun W hW=>Mh.o x k W hW hk hx rfl hft);rw [hft] at OW;clear hnf hk hx Mh Cf;go_wp2_with (first
   | (go_at_call 23;refine (Mn.o _ CX.o).mono ?_;rintro e w7 ⟨rfl,hb7⟩;have Da:=AA hb7;have KR:=AA (HE.o w7 hb7).2.2.1;obtain ⟨⟨d0,d1,d2,d3,d4,d5,d6⟩,_⟩:=HC.o w7 hb7;clear hb7)
   | (refine Bv rfl 36 (AY 8) rfl (w.heap.size+1+1) rfl 36 RR (0,0) _ KR.o underlying36 rfl NK.o ?_)
   | (
    go_at_call 27;refine (OW.o _ (AV CX.o Da.o)).mono ?_;rintro e w8 ⟨rfl,hb8⟩;have Ke:=AA (AV Da.o hb8);clear hb8;have KS:=AA (HE.o w8 Ke.o).2.1;have KR8:=AA (HE.o w8 Ke.o).2.2.1;have KO:=AA (HE.o w8 Ke.o).2.2.2.1;obtain ⟨⟨d0,d1,d2,d3,d4,d5,d6⟩,i0,i1,i2,i3⟩:=HC.o w8 Ke.o)
   | (refine Bv rfl 34 (AY 7) rfl (w.heap.size+1) rfl 34 SD (0,0) _ KS.o underlying34 rfl VE.o ?_)
   | (refine Bv rfl 36 (AY 8) rfl (w.heap.size+1+1) rfl 36 RR (0,0) _ KR8.o underlying36 rfl NK.o ?_)
   | (refine Bv rfl 39 (AY 10) rfl (w.heap.size+1+1+1) rfl 39 OO (0,0) _ KO.o underlying39 rfl X2.o ?_)
   | (
    go_at_call 28;refine (HM.o _ (AV CX.o Ke.o)).mono ?_;rintro e w9 ⟨q,e0,⟨U5,vn',MF,LA',ln',tN,MB,kn',L8,rfl,s1,s2,s3,Lf⟩,nM,hfin⟩;obtain ⟨QQ,dF⟩:=Ad (Fs ⟨q.Ar,q.round,q.schema,q.place,q.holder,AB U5 vn' MF,AB LA' ln' tN,AB MB kn' L8⟩);rw [<-dF];have LM:=AA (AV Ke.o Lf);have K9:=AA (HE.o w9 LM.o).2.2.2.2.2;have S1:=AA s1;have S2:=AA s2;have S3:=AA s3;have NR:=AA hfin;have HQQ:=AA dF;have tT:QQ.size=39:=by rw [HQQ.o];exact Ma nM
    have VG:AI ((prog.info? 46).map (·.size)=some QQ.size):=AA (by rw [tT];exact gL);have HZQ:AI (ZZ.size=QQ.size):=AA (by rw [tT];exact (Hm (gL.symm.trans O7.o)).symm);have HQO:AI (QQ.all (·.oneCell')=true):=AA (by rw [HQQ.o];exact U0 rfl rfl rfl);clear Lf s1 s2 s3 hfin dF nM tT)
   | (refine wpList_store_rowTo rfl 46 (AY 12) (AY 30) rfl rfl (w.heap.size+1+1+1+1+1) QQ rfl rfl 46 ZZ K9.o VG.o HZQ.o HQO.o ?_)
   | fail)
  refine Eu (mJ rfl rfl rfl (K9.o.row _) underlying46 rfl VG.o) rfl ?_;rw [HQQ.o];have h6:=H6.o;have h8:=Ke.o.size;exact NR.o _ _ _ (Gn.outer (g:=w.heap.size+1+1+1+1+1) S1.o S2.o S3.o ⟨rfl,rfl,rfl,by simp [World.setRow],fun k hk hne=>Gt _ _ k _ (fun e=>hne M0)⟩ AG (BH CX.o.size h8) (below_setRow (AV CX.o LM.o) AG _)) rfl
attribute [local go_sem] Oper.semAt_some
theorem zO {tmps:Array AN} {w W:AH} {g8 g:Nat} {ZZ:Array AN} {e k:Int} {R:Ending->AH->Prop} (h8:tmps.getD 8 undef=AW (some ⟨g8,0,none⟩)) (hg:tmps.getD 9 undef=AW (some ⟨g,0,none⟩)) (hB:AZ W g8 57 ZZ) (hZS:(prog.info? 57).map (·.size)=some ZZ.size) (h8g:g8 < g) (hk:W.cell? ⟨g,0,none⟩=some (AE AF k)) (hz:W.frozen? ⟨g,0,none⟩=false) (hlt:g < W.heap.size) (hgw:w.heap.size<=g) (hb:AK w W)
 (hR:∀w'',AK w w''->R (AU (BQ #[.agg ZZ,AE AF e])) w''):Leaves prog f14 tmps R [{target:=.fn (.func 42) #[AW (some ⟨g,0,none⟩)],args:=#[]}] (.panicking (G4 e)) W:=by
 refine N0 (f:=42) (args:=#[AW (some ⟨g,0,none⟩)]) AX Kp ?_;refine (dM g k e W hk hz hlt).mono ?_;rintro en u' w'' ⟨rfl,rfl,hc,hb'⟩;have hB':AZ w'' g8 57 ZZ:=((hb' g (Ac _)).block g8 h8g).trans hB;exact ⟨_,Ww (h:=g) rfl h8 hg hB' underlying57 rfl hZS (QN hc),hR _ (hb.trans (hb' _ hgw))⟩
theorem AEI {tmps:Array AN} {W:AH} {g8 g:Nat} {ZZ:Array AN} {e:Int} {R:Ending->AH->Prop} (h8:tmps.getD 8 undef=AW (some ⟨g8,0,none⟩)) (hg:tmps.getD 9 undef=AW (some ⟨g,0,none⟩)) (hB:AZ W g8 57 ZZ) (hZS:(prog.info? 57).map (·.size)=some ZZ.size) (hk:W.cell? ⟨g,0,none⟩=some (AE AF e)) (hR:R (AU (BQ #[.agg ZZ,AE AF e])) W):
 Leaves prog f14 tmps R [{target:=.fn (.func 42) #[AW (some ⟨g,0,none⟩)],args:=#[]}] .returning W:=by
 refine N0 (f:=42) (args:=#[AW (some ⟨g,0,none⟩)]) AX Kp ?_;refine (dN ⟨g,0,none⟩ W).mono ?_;rintro en u' w'' ⟨rfl,rfl,rfl⟩;exact ⟨_,Ww (h:=g) rfl h8 hg hB underlying57 rfl hZS (QN hk),hR⟩
theorem open_any (
 v0 v1 v3 v4 v5 v6:AN) (A:Option Aa) (n c:Nat) (ns:List Nat) (ck:Int) (val:Int->Int->Int->Bool) (q:Fb) (VA LA KA FA:Option Aa) (vn vc ln lc kn kc fn fc:Nat) (fs:AQ) (link:Int) (S0:List Nat) (w:AH) (hs:Ag 6 Lz w (AB A n c) ns)
 (hK:Ql (AP #[v0,v1,AB A n c,v3,v4,v5]) (AP #[v0,v1,AB A n c,v3,v4,v5,v6]) ck val w) (hv:Ag 1 CK w (AB VA vn vc) q.values) (hl:Ag 32 CV w (AB LA ln lc) q.links) (hk:Ag 3 Dt (veil S0 w) (AB KA kn kc) q.claims) (hf:Ag 1 CK w (AB FA fn fc) fs)
 (hh:q.holder.length=32) (hfl:fs.length<=1000) (hS0:∀b∈S0,b < w.heap.size):
 AS prog 14 #[AP #[v0,v1,AB A n c,v3,v4,v5,v6],AP (Fs ⟨q.Ar,q.round,q.schema,q.place,q.holder,AB VA vn vc,AB LA ln lc,AB KA kn kc⟩),AB FA fn fc,AE AF link] w
  (if Gi ck (Bm ns q.schema) q fs link=0 then QG S0 w (LR ((Bm ns q.schema).getD 0) q fs link) 0 else QG S0 w MN (Gi ck (Bm ns q.schema) q fs link)):=by
 obtain ⟨R,hR⟩:∃R,R=(if Gi ck (Bm ns q.schema) q fs link=0 then QG S0 w (LR ((Bm ns q.schema).getD 0) q fs link) 0 else QG S0 w MN (Gi ck (Bm ns q.schema) q fs link)):=⟨_,rfl⟩;obtain ⟨p,hp⟩:=Ad (⟨q.Ar,q.round,q.schema,q.place,q.holder,AB VA vn vc,AB LA ln lc,AB KA kn kc⟩:TJ);rw [<-hR,<-hp];obtain ⟨Y,hY⟩:=Ad (Fs p);obtain ⟨ZZ,dD⟩:=Ad (GD ⟨0,0,0,0,zeros 32,AB none 0 0,AB none 0 0,0,zeros 32,AB none 0 0,undef,undef,0,0⟩);have WD:p.holder.length=32:=by rw [hp];exact hh
 rw [<-hY];have MD:AI (∀W g,AZ W g 46 Y->pZ W g p):=AA (fun W g h=>by rw [hY] at h;exact O4 h WD);have HYH:AI (∀j v,(q.holder.map (Value.int .u8))[j]? =some v->Y[4+j]? =some v):=AA (fun j v hj=>by have hlt:=(BD.1 hj).1;rw [Cb] at hlt;rw [hY,Fs,oN,hp,Ak,ES BN,Cp AX];simpa using hj)
 have HZI:AI ((prog.info? 57).bind (·.zero)=some (.agg ZZ)):=AA OB;have O7:AI ((prog.info? 57).map (·.size)=some ZZ.size):=AA OB;have Mn:AI (∀W,AK w W->AS prog 23 #[AP #[v0,v1,AB A n c,v3,v4,v5,v6]] W fun e w'=>e=AU (AE AF ck)/\AK W w'):=AA hK.chk;have Cf:AI (∀e w2,Gi ck (Bm ns q.schema) q fs link=e->e≠0->AK w w2->R (AU (BQ #[.agg ZZ,AE AF e])) w2):=AA (fun e w2 he hne hb=>by rw [hR,he,Ai hne,dD];exact ⟨_,_,_,_,_,_,_,_,_,rfl,Ag.nil _ _ (Av _),Ag.nil _ _ (Av _),Ag.nil _ _ (Av _),hb⟩)
 have I3:AI (Gi ck (Bm ns q.schema) q fs link=0->R=QG S0 w (LR ((Bm ns q.schema).getD 0) q fs link) 0):=AA (fun h=>by rw [hR,Ao h]);have HS:=AA hs;have HV:=AA hv;have HL:=AA hl;have Ng:=AA hk;have HF:=AA hf;have HH:=AA hh;have db:=AA hS0;have HP:=AA hp;have LL:=AA hfl;clear hfl hs hK hv hl hk hf hh hS0 hR hY dD WD hp;have hmf:∀(fn:Fn) (first cap:Array AN) (w:AH),(Instr.makeFunc fn first cap).run prog w=.ok (.func fn first cap) w:=fun _ _ _ _=>rfl
 go_enter_defers func14,ntmps14
 go_upto_region 2 with (first | (refine EY rfl 57 rfl ZZ HZI.o ?_) | fail);obtain ⟨k1,b1,s1⟩:=bx w #[v0,v1,AB A n c,v3,v4,v5,v6] 32;generalize (w.alloc (AO #[v0,v1,AB A n c,v3,v4,v5,v6] 32))=w1 at k1 b1 s1 ⊢;obtain ⟨k2,b2,s2⟩:=bx w1 Y 46;generalize (w1.alloc (AO Y 46))=w2 at k2 b2 s2 ⊢;rw [s1] at k2 b2 s2;obtain ⟨k3,b3,s3⟩:=bx w2 ZZ 57;generalize (w2.alloc (AO ZZ 57))=w3 at k3 b3 s3 ⊢;rw [s2] at k3 b3 s3;obtain ⟨k4,b4,s4⟩:=bx w3 #[AE AF 0] 47;generalize (w3.alloc (AO #[AE AF 0] 47))=w4 at k4 b4 s4 ⊢;rw [s3] at k4 b4 s4;have CX:AI (AK w w4):=AA (((b1.trans (b2.mono AG)).trans (b3.mono AG)).trans (b4.mono AG));have H4:AI (w4.heap.size=w.heap.size+1+1+1+1):=AA AG;have HE:AI (∀W,AK w4 W->AZ W (w.heap.size+1) 46 Y/\AZ W (w.heap.size+1+1) 57 ZZ/\AZ W (w.heap.size+1+1+1) 47 #[AE AF 0]/\AZ W w.heap.size 32 #[v0,v1,AB A n c,v3,v4,v5,v6]):=AA (fun W hW=>⟨((k2.below b3 AG).below b4 AG).below hW AG,(k3.below b4 AG).below hW AG,k4.below hW AG,(((k1.below b2 AG).below b3 AG).below b4 AG).below hW AG⟩);have HD:AI (∀W,AK w4 W->W.cell? ⟨w.heap.size,0,none⟩=some v0/\W.cell? ⟨w.heap.size,1,none⟩=some v1/\W.cell? ⟨w.heap.size,2,none⟩=some (AB A n c)/\W.cell? ⟨w.heap.size,3,none⟩=some v3/\W.cell? ⟨w.heap.size,4,none⟩=some v4/\W.cell? ⟨w.heap.size,5,none⟩=some v5/\W.cell? ⟨w.heap.size,6,none⟩=some v6):=AA (fun W hW=>by have b:=(HE.o W hW).2.2.2;exact ⟨b.cell 0,b.cell 1,b.cell 2,b.cell 3,b.cell 4,b.cell 5,b.cell 6⟩)
 clear k1 b1 s1 k2 b2 s2 k3 b3 s3 k4 b4 s4;have Gq:AI (∀(tmps:Array AN) (W:AH) (e:Int),tmps.getD 8 undef=AW (some ⟨w.heap.size+1+1,0,none⟩)->tmps.getD 9 undef=AW (some ⟨w.heap.size+1+1+1,0,none⟩)->AK w4 W->Gi ck (Bm ns q.schema) q fs link=e->e≠0->Leaves prog f14 tmps R [{target:=.fn (.func 42) #[AW (some ⟨w.heap.size+1+1+1,0,none⟩)],args:=#[]}] (.panicking (G4 e)) W):=AA (fun tmps W e h8 h9 hW he hne=>by obtain ⟨_,k8,k,_⟩:=HE.o W hW;exact zO h8 h9 k8 O7.o (Ib _) (k.cell 0) (k.frozen 0) k.lt AG (AV CX.o hW) (fun w'' hb=>Cf.o e w'' he hne hb))
 have EN:AI (∀W,AZ W (w.heap.size+1) 46 Y->(W.cell? ⟨w.heap.size+1,0,none⟩=some (AE AF q.Ar)/\W.cell? ⟨w.heap.size+1,1,none⟩=some (AE AF q.round)/\W.cell? ⟨w.heap.size+1,2,none⟩=some (AE AF q.schema)/\W.cell? ⟨w.heap.size+1,3,none⟩=some (AE AF q.place))/\W.cell? ⟨w.heap.size+1,36,none⟩=some (AB VA vn vc)/\W.cell? ⟨w.heap.size+1,37,none⟩=some (AB LA ln lc)/\W.cell? ⟨w.heap.size+1,38,none⟩=some (AB KA kn kc)):=AA (fun W hW=>by have b:=MD.o _ _ hW;rw [HP.o] at b;exact ⟨⟨b.Ar,b.round,b.schema,b.place⟩,b.values,b.links,b.claims⟩)
 obtain ⟨d0,d1,d2,d3,d4,d5,d6⟩:=HD.o w4 (Ae _ _);by_cases hck:ck=0
 rotate_left
 ·have hcf:(ck==0)=false:=JK hck
  have HN:AI (Gi ck (Bm ns q.schema) q fs link=160):=AA (by rw [Gi,Ao hck]);go_wp2_with (first
   | (go_at_call 23;refine (Mn.o _ CX.o).mono ?_;rintro e w5 ⟨rfl,hb5⟩;have CP:=AA hb5;clear hb5)
   | (go_at_call 38;refine (DN 160 _).mono ?_;rintro e w8 ⟨rfl,rfl⟩)
   | fail)
  exact Gq.o _ _ _ rfl rfl CP.o HN.o Ah
 subst hck;have jX:AI (¬JV (Bm ns q.schema) q fs link=true->Gi 0 (Bm ns q.schema) q fs link=190):=AA (fun h=>by rw [Gi,Ai AX,Ai h]);go_upto_region 3 with (first
  | (
   go_at_call 23;refine (Mn.o _ CX.o).mono ?_;rintro e w5 ⟨rfl,hb5⟩;obtain ⟨c0,c1,c2,c3,c4,c5,c6⟩:=HD.o w5 hb5;obtain ⟨⟨_,_,a2,_⟩,_⟩:=EN.o _ (HE.o w5 hb5).1;have CP:=AA hb5;clear hb5 d0 d1 d2 d3 d4 d5 d6)
  | (go_at_call 38;refine (Eg 160 _).mono ?_;rintro e w6 ⟨⟨v,rfl⟩,rfl⟩))
 obtain ⟨z,hz⟩:=Ad ((decide (0<=q.schema) && decide (q.schema < n)));have IC:AI (∀W,AS prog 29 #[AP #[v0,v1,AB A n c,v3,v4,v5,v6],AE AF q.schema] W fun e w'=>e=AU (.bool z)/\AK W w'):=AA (fun W=>by rw [hz];exact TX v0 v1 v3 v4 v5 v6 A n c q.schema W);cases z with
 |
  false=>
  have HN:=AA (jX.o (fun h=>by
   unfold Bm at h;by_cases h0:0<=q.schema
   ·have hge:¬q.schema < n:=fun h1=>by rw [BR h0,BR h1] at hz;cases hz
    rw [Ao h0,DT (by have:=HS.o.len;omega)] at h;cases h
   · rw [Ai h0] at h;cases h))
  clear hz;go_wp2_with (first
   | (go_at_call 29;refine (IC.o _).mono ?_;rintro e w7 ⟨rfl,hb7⟩;have Da:=AA (AV CP.o hb7);clear hb7)
   | (go_at_call 38;refine (DN 190 _).mono ?_;rintro e w8 ⟨rfl,rfl⟩)
   | fail)
  exact Gq.o _ _ _ rfl rfl Da.o HN.o Ah
 |
  true=>
  have hz2:=hz.symm;rw [Bj,B8,B8] at hz2;obtain ⟨k,hkk⟩:∃k:Nat,q.schema=k:=⟨q.schema.toNat,by omega⟩;have hkn:k < n:=AG
  have hk1:(k:Int) < (n:Int):=AG
  have hk0:=Int.natCast_nonneg k
  obtain ⟨b,off,x,x0,x1,x2,x3,B,cc,x5,hA,hb,hx,hxl,hone,hcell⟩:=Na HS.o hkn;subst hA;have HE4:AI (∀W,AK w W->W.cell? ⟨b,off+k*6+4,none⟩=some (AB B x cc)):=AA (fun W hW=>(hW.cell (p:=⟨b,off+k*6+4,none⟩) hb).trans (hcell 4 _ rfl));have Hk:AI (Bm ns q.schema=some x):=AA (by rw [hkk,Bm,Ao AG,Cm];exact hx);have HKK:=AA hkk;have H9:=AA hxl;clear hz hz2 hcell hone hx hkk hxl;go_upto_region 4 with (first
   | (
    go_at_call 29;refine (IC.o _).mono ?_;rintro e w7 ⟨rfl,hb7⟩;have Da:=AA (AV CP.o hb7);obtain ⟨t0,t1,t2,t3,t4,t5,t6⟩:=HD.o w7 Da.o;obtain ⟨⟨f0,f1,f2,f3⟩,f36,f37,f38⟩:=EN.o _ (HE.o w7 Da.o).1;rw [HKK.o] at f2;have e4:=HE4.o w7 (AV CX.o Da.o);clear hb7 c0 c1 c2 c3 c4 c5 c6 a2)
   | (go_at_call 38;refine (Eg 190 _).mono ?_;rintro e w6 ⟨⟨v,rfl⟩,rfl⟩))
  go_upto_region 5 with fail;clear e4 t0 t1 t2 t3 t4 t5 t6;have hin:IntKind.i64.wrap ((x:Int)+4)=(x:Int)+4:=CN _ Yh;have hin2:IntKind.i64.wrap ((x:Int)+4+1)=(x:Int)+4+1:=CN _ Yh;have hcase:(¬vn=x\/(vn=x/\¬ln=4)\/(vn=x/\ln=4/\¬kn=x+4+1))\/(vn=x/\ln=4/\kn=x+4+1):=AG
  have hle:=And.intro HV.o.len (And.intro HL.o.len Ng.o.len);rcases hcase with hno | ⟨rfl,rfl,rfl⟩
  ·have HN:=AA (jX.o (fun h=>by
    rw [Hk.o] at h;simp only [JV,Bj,B8] at h;omega))
   clear hle;rcases hno with h | ⟨rfl,h⟩ | ⟨rfl,rfl,h⟩
   ·have hf1:((vn:Int)==(x:Int))=false:=JK AG
    clear h;go_wp2_with (first | (go_at_call 38;refine (DN 190 _).mono ?_;rintro e w8 ⟨rfl,rfl⟩) | fail);exact Gq.o _ _ _ rfl rfl Da.o HN.o Ah
   ·have hf1:((ln:Int)==4)=false:=JK AG
    clear h;go_wp2_with (first | (go_at_call 38;refine (DN 190 _).mono ?_;rintro e w8 ⟨rfl,rfl⟩) | fail);exact Gq.o _ _ _ rfl rfl Da.o HN.o Ah
   have hf1:((kn:Int)==(vn:Int)+4+1)=false:=JK AG;clear h;go_wp2_with (first | (go_at_call 38;refine (DN 190 _).mono ?_;rintro e w8 ⟨rfl,rfl⟩) | fail);exact Gq.o _ _ _ rfl rfl Da.o HN.o Ah
  have pF:=AA hle;clear hle;go_upto_region 6 with (first | (go_at_call 38;refine (Eg 190 _).mono ?_;rintro e w8 ⟨⟨v,rfl⟩,rfl⟩) | fail);clear f37 f38 f36;obtain ⟨zi,hzi⟩:=Ad (NM vn (-1) fs);have ADL:AI (∀W,AK w W->AS prog 43 #[AB FA fn fc,AE AF vn] W fun e w'=>e=AU (.bool zi)/\w'=W):=AA (fun W hW=>by rw [hzi];exact Uu FA fn fc fs vn W (HF.o.mono BX hW));have HW7:AI (AK w w8):=AA (AV CX.o Da.o);cases zi with
  |
   false=>
   have HN:=AA (jX.o (fun h=>by rw [Hk.o] at h;simp only [JV,Bj,<-hzi] at h;exact absurd h.2.1.1 Ah))
   clear hzi;go_wp2_with (first
    | (go_at_call 43;refine (ADL.o _ HW7.o).mono ?_;rintro e w9 ⟨rfl,rfl⟩)
    | (go_at_call 38;refine (DN 190 _).mono ?_;rintro e w10 ⟨rfl,rfl⟩) | fail)
   exact Gq.o _ _ _ rfl rfl Da.o HN.o Ah
  |
   true=>
   have hcase:(¬ -1<=link\/(-1<=link/\¬link < 4))\/(-1<=link/\link < 4):=AG
   rcases hcase with hno | ⟨h1,h2⟩
   ·have HN:=AA (jX.o (fun h=>by
     rw [Hk.o] at h;simp only [JV,Bj,B8] at h;omega))
    clear hzi;rcases hno with h | ⟨h1,h⟩
    all_goals try have hf4:decide (link < 4)=false:=Bc AG
    all_goals go_wp2_with (first
     | (go_at_call 43;refine (ADL.o _ HW7.o).mono ?_;rintro e w9 ⟨rfl,rfl⟩)
     | (go_at_call 38;refine (DN 190 _).mono ?_;rintro e w10 ⟨rfl,rfl⟩) | fail)
    all_goals exact Gq.o _ _ _ rfl rfl Da.o HN.o Ah
   have hok:Gi 0 (Bm ns q.schema) q fs link=0:=by have hle:=pF.o;rw [Gi,Ai AX,Hk.o,Ao];simp only [JV,Bj,B8];exact ⟨⟨⟨hle.1.symm,hle.2.1.symm⟩,hle.2.2.symm⟩,⟨hzi.symm,h1⟩,h2⟩
   have HRR:=AA (I3.o hok);have AIk:=AA hzi.symm;clear hok hzi I3 Cf jX Gq;go_upto_region 7 with (first
    | (go_at_call 43;refine (ADL.o _ HW7.o).mono ?_;rintro e w9 ⟨rfl,rfl⟩)
    | (go_at_call 38;refine (Eg 190 _).mono ?_;rintro e w10 ⟨⟨v,rfl⟩,rfl⟩) | fail)
   have I7:prog.follows .mixedOrders=true:=AJ
   have Mq:=AA (Da.o.drew);have vS:=(HE.o _ Mq.o).1;have nr:=(HE.o _ Mq.o).2.1;have ACT:=(HE.o _ Mq.o).2.2.1;have AHx:=(HE.o _ Mq.o).2.2.2;have vT:=HW7.o.drew;have hS:AZ w10.drew (w.heap.size+1) 46 Y/\AK w w10.drew:=⟨vS,vT⟩;have TK:∀W,AZ W (w.heap.size+1) 46 Y/\AK w W->W.cell? ⟨w.heap.size+1,0,none⟩=some (AE AF q.Ar)/\W.cell? ⟨w.heap.size+1,1,none⟩=some (AE AF q.round)/\W.cell? ⟨w.heap.size+1,2,none⟩=some (AE AF k)/\W.cell? ⟨w.heap.size+1,3,none⟩=some (AE AF q.place):=fun W hW=>by obtain ⟨⟨a0,a1,a2,a3⟩,_⟩:=EN.o _ hW.1;rw [HKK.o] at a2;exact ⟨a0,a1,a2,a3⟩
   clear f0 f1 f2 f3;refine Sd (fun W=>AZ W (w.heap.size+1) 46 Y/\AK w W) 15 _ I7 AJ rfl ?_;refine qT 0 65 hS ?_;refine qT 1 66 hS ?_;refine qT 2 67 hS ?_;refine qT 3 68 hS ?_;refine qT 4 69 hS ?_;refine qT 5 70 hS ?_;refine qT 6 71 hS ?_;refine qT 7 72 hS ?_;refine qT 8 73 hS ?_;refine qT 9 74 hS (v:=AP (yA q.holder)) ?_ (hv:=fun W hW=>Cs rfl AJ (FV _ 4 HH.o (fun j v hj=>by rw [hW.1.cell];exact HYH.o j v hj)));refine qM 10 75 2 hS ?_;refine qM 12 77 3 hS ?_;refine qF 11 76 (oS Vh FA fn fc fs w10.drew (HF.o.mono BX vT) (by have:=LL.o;omega)) ?_;rintro e Le ⟨cv,ccs,rfl,hcc,hco,Lx⟩;have hS2:AZ Le (w.heap.size+1) 46 Y/\AK w Le:=⟨vS.below Lx vS.lt,AV vT Lx⟩;refine ⟨_,rfl,hS2,?_⟩;obtain ⟨CA,cc',rfl⟩:=CG hco;obtain ⟨sv,hsv⟩:=Ad (⟨q.Ar,q.round,k,q.place,q.holder,AB CA fs.length cc',AB none 0 0,link,zeros 32,AB none 0 0,AB none 0 0,AB none 0 0,0,0⟩:JF);obtain ⟨PP,WG⟩:=Ad (GD sv);have hsh:sv.holder.length=32:=by rw [hsv];exact HH.o
   have hst:sv.token.length=32:=by rw [hsv];rfl
   have iz:prog.built 57 [(0,AE AF q.Ar),(1,AE AF q.round),(2,AE AF k),(3,AE AF q.place),(4,AP (yA q.holder)),(5,AB CA fs.length cc'),(7,AE AF link)]=some PP:=by rw [WG,hsv];exact wF _ _ _ _ _ HH.o _ _ _
   have hps:PP.size=72:=by rw [WG,Iu hsh hst]
   have hzs:ZZ.size=PP.size:=by rw [hps];exact Hm (O7.o.symm.trans fI)
   have h4:=H4.o;have h10:=Mq.o.size;refine qT 13 78 hS2 (v:=.agg PP) ?_ (hv:=fun W _=>Yx (Es (congrArg (prog.built 57) AJ) iz));refine ADc 14 57 8 78 (w.heap.size+1+1) PP 57 ZZ AJ rfl rfl rfl rfl AJ AJ (nr.below Lx nr.lt) (by rw [hps];exact fI) hzs (by rw [WG,hsv];exact UZ rfl rfl rfl) ⟨(Gt _ _ _ _ AG).trans hS2.1,below_setRow hS2.2 AG _⟩ ?_;refine F6 AJ ?_ _;simp only [Ct,DF];have hfn:=HF.o.len;have h11:=Lx.size;have hd10:w10.drew.heap.size=w10.heap.size:=rfl;have ACW:Ag 1 CK (Le.setRow (w.heap.size+1+1) PP) (AB CA fs.length cc') fs:=CW (Pt hco (fun g h1 _=>Gt _ _ _ _ AG)) ⟨hcc.1,hcc.2⟩ rfl;have hNF:NewAt w4.heap.size (AB CA fs.length cc'):=fun r hr=>by have h:=Sh hco r hr;omega
   have ACY:AK w (Le.setRow (w.heap.size+1+1) PP):=below_setRow hS2.2 AG _;have ACP:AZ (Le.setRow (w.heap.size+1+1) PP) (w.heap.size+1) 46 Y:=(Gt _ _ _ _ AG).trans hS2.1;have ACS:AZ (Le.setRow (w.heap.size+1+1) PP) (w.heap.size+1+1+1) 47 #[AE AF 0]:=(Gt _ _ _ _ AG).trans (ACT.below Lx ACT.lt);have vU:AZ (Le.setRow (w.heap.size+1+1) PP) (w.heap.size+1+1) 57 PP:=setRow_heap _ _ ZZ PP _ _ (nr.below Lx nr.lt);have XT:w.heap.size+1+1+1+1<=(Le.setRow (w.heap.size+1+1) PP).heap.size:=by rw [setRow_size];omega
   generalize Le.setRow (w.heap.size+1+1) PP=w12 at ACW ACY ACP ACS vU XT ⊢;have hI0:Qk S0 w12.heap.size sv w w12 [] [] w12:=⟨KX.refl _ _ _ _,ACY,none,0,[],none,0,[],(w.heap.size+1+1)::S0,by
    rw [WG,hsv] at vU;rw [hsv];exact vU,Ev _ _ _ _,Aq.nil,fun r hr=>absurd hr M1,⟨Ev _ _ _ _,fun r hr=>absurd hr M1,fun b hb=>by
     rcases CJ.1 hb with rfl | hb
     · omega
     have:=db.o b hb;omega,N7,Aq.nil⟩,fun b hb=>by rw [CJ];exact ⟨fun h=>h.resolve_left AG,.inr⟩,fun r hr=>absurd hr M1⟩
   obtain ⟨Wh,AFI⟩:∃Wh:Int->Int,Wh=fun f=>q.values.getD f.toNat 0:=⟨_,rfl⟩;obtain ⟨ip,AFg⟩:∃ip:Int->Cj,ip=fun f=>q.claims.getD f.toNat LX:=⟨_,rfl⟩;have HI0:=AA hI0;have Li:=AA hfn;have HSV:=AA hsv;have Hj:=AA hsh;have HST:=AA hst;have AIp:=AA ACW;have AGX:=AA hNF;have oy:=AA ACP;have AIb:=AA ACS;have AC9:=AA XT;have AGJ:=AA AFI;have AGd:=AA AFg;clear hI0 hfn hsv hsh hst ACW hNF ACP ACS vU XT AFI AFg ACY hco hcc Lx hS hS2 vS nr ACT AHx vT TK WG iz hps hzs h4 h10 h11 hd10;go_upto_region 9 with fail;go_loopg [81] fn (fun q' i wr=>∃j:Nat,j<=fn/\q'=fn - j/\i=AE AF j/\Qk S0 w12.heap.size sv w w12 ((fs.take j).map Wh) ((fs.take j).map ip) wr)
   case atStart=>exact ⟨0,Av _,rfl,rfl,HI0.o⟩
   obtain ⟨j,hj,hq,rfl,hI⟩:=hrel;have HQ:=AA hq;have HI:=AA hI;clear hq hI;by_cases hlt:j < fn
   ·obtain ⟨fb,fo,f,rfl,hfb,hf,ef,_,_⟩:=ints_at (HF.o.mono BX HI.o.old) hlt
    obtain ⟨hf0,hf1⟩:=Ru AIk.o f (CS hf);obtain ⟨fk,rfl⟩:∃fk:Nat,f=fk:=⟨f.toNat,by omega⟩;have hfv:fk < vn:=AG
    obtain ⟨vb,vo,u,rfl,hvb,hu,eu,hu1,hu2⟩:=ints_at HV.o hfv;obtain ⟨lb,lo,x,B1,m1,e1,B2,m2,e2,rfl,hlb,hx,hx1,hx2,hlc⟩:=OJ Ng.o (show fk < vn+4+1 by omega);rw [Dz] at hlb;have hj1:(j:Int) < (fn:Int):=AG
    have hj0:(0:Int)<=(j:Int):=AG
    have hk5:(fk:Int) < (vn:Int)+4+1:=AG
    have hz:=HI.o.kx.size;have XT:=AC9.o;have n9:=HI.o.below AG AG (Ae _ _).drew;obtain ⟨vl,hvl⟩:=Ad ((fs.take j).map Wh);obtain ⟨kl,hkl⟩:=Ad ((fs.take j).map ip);rw [<-hvl,<-hkl] at n9;have hln:vl.length=j/\kl.length=j:=⟨by rw [hvl];exact take_len Yi,by rw [hkl];exact take_len Yi⟩;have IB:=AA hln;have AI1:j < 1000:=by have:=LL.o;have:=Li.o;omega
    have hYA:AZ wr.drew (w.heap.size+1) 46 Y:=(n9.kx.same _ AG AG).trans oy.o;have HIA:=AA n9;have VC:=AA hvl;have ADI:=AA hkl;have HX:=AA (And.intro hx (And.intro hx1 hx2));have HU:=AA hu;have pO:=AA hf;have HLC:=AA hlc;have HYA:=AA hYA;have HEU:AI (∀W,AK w W->W.cell? ⟨vb,vo+fk,none⟩=some (AE AF u)):=AA (fun W hW=>(hW.cell (p:=⟨vb,vo+fk,none⟩) hvb).trans eu);clear hvl hkl hln hx hx1 hx2 hlc hYA hu hf eu hf0;go_upto_region 11 with fail;obtain ⟨U5,MF,cv,MB,L8,ck',S,h1',h2',h3',h4',h5',h6',So⟩:=n9.row;have hL:w.heap.size+1+1 < w12.heap.size:=AG
    have Oz:w12.heap.size<=wr.drew.heap.size:=n9.kx.size;have TK:∀W,wr.drew.grownBy W (Value.slice U5 vl.length MF).ownBlock->W.cell? ⟨w.heap.size+1+1,37,none⟩=some (AB U5 vl.length MF)/\W.cell? ⟨w.heap.size+1,36,none⟩=some (AB (some ⟨vb,vo,none⟩) vn vc)/\W.cell? ⟨vb,vo+fk,none⟩=some (AE AF u):=fun W hW=>
     ⟨hW.cell (JR h1' Hj.o HST.o).values (DX h2' hL),hW.cell (EN.o _ HYA.o).2.1 (DX h2' Ym),hW.cell (HEU.o _ n9.old) (DX h2' (by show vb < _;omega))⟩
    have hS:=DS wr.drew (Value.slice U5 vl.length MF).ownBlock;have hu':Gk u:=⟨hu1,hu2⟩;refine lB (fun W=>wr.drew.grownBy W (Value.slice U5 vl.length MF).ownBlock) [10] 11 _ ?_;refine lT 0 85 hS ?_;refine lT 1 86 hS ?_;refine lT 2 87 hS ?_;refine lT 3 88 hS ?_;refine lM 4 89 12 hS ?_;refine lT 5 90 hS ?_;refine lT 6 91 hS ?_;refine kW 7 8 9 10 92 93 94 86 30 3 91 h2' (news:=#[AE AF u]) rfl (by intro z hz;simp at hz;rw [hz];rfl) (by unfold maxLen;have:=IB.o.1;omega) (by have:=IB.o.1;omega) Oz (tE _ u)
     (fun v' w7 GJ EJ=>by obtain ⟨A'',c'',rfl⟩:=CG GJ;have k7:=(h1'.alloc _).grown EJ (DX h2' hL);exact tC w7 _ 37 _ _ _ _ ((JR k7 Hj.o HST.o).values) (k7.frozen 37)) ?_ AES.choose_spec.choose_spec
    intro v7 w7 GJ EJ Ow;simp only [Ct,DF];have hI2:=HIA.o.AG1 (x:=u) Hj.o HST.o hL Oz h1' h2' h3' h4' h5' h6' So hu' GJ EJ Ow;generalize (w7.setCell ⟨w.heap.size+1+1,37,none⟩ v7)=wv at hI2 ⊢;have HI2:=AA hI2;clear hI2 GJ EJ Ow h1' h2' h3' h4' h5' h6' So TK hS hL Oz n9;go_upto_region 12 with fail;have hz2:=HI2.o.kx.size;have hIB:=HI2.o.below AG AG (Ae _ _).drew;have Zq:=AA hIB;obtain ⟨U5,MF,cv,MB,L8,ck',S,h1',h2',h3',h4',h5',h6',So⟩:=hIB.row;have hL:w.heap.size+1+1 < w12.heap.size:=AG
    have Oz:w12.heap.size<=wv.drew.heap.size:=hIB.kx.size;have i5:AZ wv.drew (w.heap.size+1) 46 Y:=(hIB.kx.same _ AG AG).trans oy.o;have hcl:=HLC.o;have TH:∀(j':Nat) (v:AN),[Value.int .i64 x.index,AB B1 m1 e1,AB B2 m2 e2][j']? =some v->wv.drew.cell? ⟨lb,lo+fk*3+j',none⟩=some v:=fun j' v hv=>(hIB.old.cell (p:=⟨lb,lo+fk*3+j',none⟩) hlb).trans (SY (hcl j' v hv));have TK:∀W,wv.drew.grownBy W (Value.slice MB kl.length L8).ownBlock->W.cell? ⟨w.heap.size+1+1,71,none⟩=some (AB MB kl.length L8)/\W.cell? ⟨w.heap.size+1,38,none⟩=some (AB (some ⟨lb,lo,none⟩) (vn+4+1) kc)/\W.cell? ⟨lb,lo+fk*3,none⟩=some (AE AF x.index)/\W.cell? ⟨lb,lo+fk*3+1,none⟩=some (AB B1 m1 e1)/\W.cell? ⟨lb,lo+fk*3+2,none⟩=some (AB B2 m2 e2):=fun W hW=>by have hf:∀o,some (Addr.mk lb o none).block≠(Value.slice MB kl.length L8).ownBlock:=fun o=>DX h5'.own eA;exact ⟨hW.cell (JR h1' Hj.o HST.o).claims (DX h5'.own hL),hW.cell (EN.o _ i5).2.2.2 (DX h5'.own Ym),hW.cell (TH 0 _ rfl) (hf _),hW.cell (TH 1 _ rfl) (hf _),hW.cell (TH 2 _ rfl) (hf _)⟩
    have hS:=DS wv.drew (Value.slice MB kl.length L8).ownBlock;have hvb:BI (veil S0 w).heap.size (veil S0 w) (veil S wv.drew):=Zx hIB.old h6';have hlf:Dt (veil S wv.drew) [AE AF x.index,AB B1 m1 e1,AB B2 m2 e2] x:=⟨B1,m1,e1,B2,m2,e2,rfl,HX.o.2.1.mono BK hvb,HX.o.2.2.mono BK hvb⟩;refine lB (fun W=>wv.drew.grownBy W (Value.slice MB kl.length L8).ownBlock) [10] 11 _ ?_;refine lT 0 95 hS ?_;refine lT 1 96 hS ?_;refine lT 2 97 hS ?_;refine lT 3 98 hS ?_;refine lM 4 99 12 hS ?_;refine lT 5 100 hS ?_;refine lT 6 101 hS ?_;refine kW 7 8 9 10 102 103 104 96 44 71 101 h5'.own (news:=#[AE AF x.index,AB B1 m1 e1,AB B2 m2 e2]) rfl (kV _ _ _ _ _ _ _) (by unfold maxLen;have:=IB.o.2;omega) (by have:=IB.o.2;omega) Oz (fP _ _ _ _ _ _ _ _)
     (fun v' w7 GJ EJ=>by obtain ⟨A'',c'',rfl⟩:=CG GJ;have k7:=(h1'.alloc _).grown EJ (DX h5'.own hL);exact fO w7 _ 71 _ _ _ _ ((JR k7 Hj.o HST.o).claims) (k7.frozen 71)) ?_ Vg.choose_spec.choose_spec
    intro v7 w7 GJ EJ Ow;simp only [Ct,DF];have XZ:=Zq.o.uh (x:=x) Hj.o HST.o hL Oz h1' h2' h3' h4' h5' h6' So rfl hlf GJ EJ Ow;generalize (w7.setCell ⟨w.heap.size+1+1,71,none⟩ v7)=wk at XZ ⊢;have HI3:=AA XZ;clear XZ GJ EJ Ow h1' h2' h3' h4' h5' h6' So TK hS hL Oz hIB i5 hcl TH hvb hlf Zq hz2;go_wp2_with fail;go_roundg (fn - (j+1))
    case measure=>exact BS
    refine ⟨j+1,by omega,rfl,by go_num,?_⟩;have hu:=HU.o;have e1:Wh fk=u:=by rw [AGJ.o];show q.values.getD (fk:Int).toNat 0=u;rw [Cm,Cv,hu];rfl
    have e2:ip fk=x:=by rw [AGd.o];show q.claims.getD (fk:Int).toNat LX=x;rw [Cm,Cv,HX.o.1];rfl
    rw [iQ pO.o,iQ pO.o,e1,e2,<-VC.o,<-ADI.o];exact HI3.o
   obtain rfl:fn=j:=AG
   have htk:fs.take fn=fs:=Cu (by rw [Li.o];exact Ac _);have hI:=HI.o;rw [htk] at hI;have t9:=AA hI;clear HI hI htk hj
   go_upto_if 107 with fail
   go_cut [108] from 107 to 125 (fun _ wx=>∃tk kl,(tk=if 0<=link then q.links.getD link.toNat Ni else Ni)/\kl=fs.map ip++(if 0<=link then [q.claims.getD (vn+link.toNat) LX] else [])/\tk.length=32/\Qk S0 w12.heap.size {sv with token:=tk} w w12 (fs.map Wh) kl wx)
   have hz:=t9.o.kx.size;have XT:=AC9.o;have hfl:fs.length<=1000:=LL.o
   case first=>
    by_cases h0:0<=link
    ·obtain ⟨lk,rfl⟩:∃lk:Nat,link=lk:=⟨link.toNat,by omega⟩
     have hk4:lk < 4:=AG
     have AJJ:(lk:Int) < 4:=h2;obtain ⟨tb,DJ,d,cs,rfl,htb,hd,hlen,hc,rfl,hdl⟩:=HL.o.at_ hk4;have EM:=AA hdl;have HD1:=AA hd;have CY:=AA Gm;have SC:AI (wr.rangeAt tb (DJ+lk*32) (d.map (Value.int .u8))):=AA (fun j' v hv=>(t9.o.old.cell (p:=⟨tb,DJ+lk*32+j',none⟩) htb).trans (by have:=hc j' v hv;rwa [<-Km] at this));have hYW:AZ wr (w.heap.size+1) 46 Y:=(t9.o.kx.same _ AG AG).trans oy.o;have HYC:wr.cell? ⟨w.heap.size+1,37,none⟩=some (AB (some ⟨tb,DJ,none⟩) 4 lc):=(EN.o _ hYW).2.2.1;have Sy:AI (wr.there (w.heap.size+1+1) 39 (yA d).size):=AA (by
      obtain ⟨_,_,_,_,_,_,_,hb,_⟩:=t9.o.row;refine Sc hb ?_;rw [Iu,B9,hdl]
      · decide
      · exact Hj.o
      · exact HST.o)
     have HYZ:AI ((prog.info? 34).map (·.size)=some (yA d).size):=AA (by rw [B9,hdl];exact Gm);have HT0:=AA (t9.o.tok Hj.o HST.o hdl AG);obtain ⟨mk,hmk⟩:=Ad (vn+lk:Nat);have hmw:IntKind.i64.wrap ((vn:Int)+(lk:Int))=(mk:Nat):=by rw [CN _ Yh];omega
     obtain ⟨lb,lo,x,B1,m1,e1,B2,m2,e2,rfl,hlb,hx,hx1,hx2,hlc⟩:=OJ Ng.o (show mk < vn+4+1 by omega);rw [Dz] at hlb;have hk5:(mk:Int) < (vn:Int)+4+1:=AG
     obtain ⟨kl,hkl⟩:=Ad (fs.map ip);have HX:=AA (And.intro hx (And.intro hx1 hx2));have HLC:=AA hlc;rw [<-hkl] at HT0;have IB:kl.length < 2000:=by rw [hkl,Cb];omega
     have ADI:=AA hkl;have PH:=AA hmk;clear hx hx1 hx2 hlc hkl hYW hd hdl hc hfl hmk;go_upto_region 16 with (first
      | (refine Ld rfl 34 (AY 111) rfl tb (DJ+lk*32) rfl d _ SC.o underlying34 rfl CY.o EM.o ?_)
      | (refine Tn rfl 34 (AY 113) (AY 112) rfl (w.heap.size+1+1) 39 (yA d) rfl rfl Sy.o HYZ.o (Kq d) ?_)
      | fail)
     have hI:=HT0.o;change Qk _ _ _ _ _ _ _ (wr.setCells (w.heap.size+1+1) 39 (yA d).toList) at hI;generalize wr.setCells (w.heap.size+1+1) 39 (yA d).toList=wt at hI ⊢;have HIT:=AA hI;clear hI;have hz2:=HIT.o.kx.size;have hIB:=HIT.o.below AG AG (Ae _ _).drew;have Zq:=AA hIB;obtain ⟨U5,MF,cv,MB,L8,ck',S,h1',h2',h3',h4',h5',h6',So⟩:=hIB.row;have hL:w.heap.size+1+1 < w12.heap.size:=AG
     have Oz:w12.heap.size<=wt.drew.heap.size:=hIB.kx.size;have i5:AZ wt.drew (w.heap.size+1) 46 Y:=(hIB.kx.same _ AG AG).trans oy.o;have hcl:=HLC.o;have TH:∀(j':Nat) (v:AN),[Value.int .i64 x.index,AB B1 m1 e1,AB B2 m2 e2][j']? =some v->wt.drew.cell? ⟨lb,lo+mk*3+j',none⟩=some v:=fun j' v hv=>(hIB.old.cell (p:=⟨lb,lo+mk*3+j',none⟩) hlb).trans (SY (hcl j' v hv));have TK:∀W,wt.drew.grownBy W (Value.slice MB kl.length L8).ownBlock->W.cell? ⟨w.heap.size+1+1,71,none⟩=some (AB MB kl.length L8)/\W.cell? ⟨w.heap.size+1,38,none⟩=some (AB (some ⟨lb,lo,none⟩) (vn+4+1) kc)/\W.cell? ⟨lb,lo+mk*3,none⟩=some (AE AF x.index)/\W.cell? ⟨lb,lo+mk*3+1,none⟩=some (AB B1 m1 e1)/\W.cell? ⟨lb,lo+mk*3+2,none⟩=some (AB B2 m2 e2):=fun W hW=>by have hf:∀o,some (Addr.mk lb o none).block≠(Value.slice MB kl.length L8).ownBlock:=fun o=>DX h5'.own eA;exact ⟨hW.cell (JR h1' Hj.o EM.o).claims (DX h5'.own hL),hW.cell (EN.o _ i5).2.2.2 (DX h5'.own Ym),hW.cell (TH 0 _ rfl) (hf _),hW.cell (TH 1 _ rfl) (hf _),hW.cell (TH 2 _ rfl) (hf _)⟩
     have hS:=DS wt.drew (Value.slice MB kl.length L8).ownBlock;have hvb:BI (veil S0 w).heap.size (veil S0 w) (veil S wt.drew):=Zx hIB.old h6';have hlf:Dt (veil S wt.drew) [AE AF x.index,AB B1 m1 e1,AB B2 m2 e2] x:=⟨B1,m1,e1,B2,m2,e2,rfl,HX.o.2.1.mono BK hvb,HX.o.2.2.mono BK hvb⟩;refine lB (fun W=>wt.drew.grownBy W (Value.slice MB kl.length L8).ownBlock) [12] 13 _ ?_;refine lT 0 114 hS ?_;refine lT 1 115 hS ?_;refine lT 2 116 hS ?_;refine lT 3 117 hS ?_;refine lM 4 118 10 hS ?_;refine lM 5 119 3 hS ?_;refine lT 6 120 hS (v:=AE AF (mk:Nat)) ?_ (hv:=by intro W hW;rw [<-hmw];(go_simp) <;> rfl);refine lT 7 121 hS ?_;refine lT 8 122 hS ?_;refine kW 9 10 11 12 123 124 125 115 44 71 122 h5'.own (news:=#[AE AF x.index,AB B1 m1 e1,AB B2 m2 e2]) rfl (kV _ _ _ _ _ _ _) (by unfold maxLen;have:=IB;omega) (by have:=IB;omega) Oz (fP _ _ _ _ _ _ _ _)
      (fun v' w7 GJ EJ=>by obtain ⟨A'',c'',rfl⟩:=CG GJ;have k7:=(h1'.alloc _).grown EJ (DX h5'.own hL);exact fO w7 _ 71 _ _ _ _ ((JR k7 Hj.o EM.o).claims) (k7.frozen 71)) ?_ Vg.choose_spec.choose_spec
     intro v7 w7 GJ EJ Ow;simp only [Ct,DF];have XZ:=Zq.o.uh (x:=x) Hj.o EM.o hL Oz h1' h2' h3' h4' h5' h6' So rfl hlf GJ EJ Ow;generalize (w7.setCell ⟨w.heap.size+1+1,71,none⟩ v7)=wk at XZ ⊢;have HI3:=AA XZ;clear XZ GJ EJ Ow h1' h2' h3' h4' h5' h6' So TK hS hL Oz hIB i5 hcl TH hvb hlf Zq hz2;go_wp2_with fail
     go_meet
     refine ⟨d,kl++[x],?_,?_,EM.o,HI3.o⟩
     · rw [Ao h0,Cm,Cv,HD1.o];rfl
     · rw [Ao h0,Cm,<-PH.o,Cv,HX.o.1,ADI.o];rfl
    go_wp2_with fail
    go_meet
    refine ⟨Ni,fs.map ip,by rw [Ai (by omega:¬0<=link)],by rw [Ai (by omega:¬0<=link),FK],rfl,?_⟩;have h:=t9.o;rw [HSV.o] at h ⊢;exact h
   obtain ⟨tk,kl,htk,hkl,htl,hI⟩:=hcut;have SL:=AA hI;have hfl:fs.length<=1000:=LL.o;have XT:=AC9.o;have R9:AI ({sv with token:=tk}.token.length=32):=AA htl;have AIF:=AA htk;have AIh:=AA hkl;have IB:kl.length < 2000:=by rw [hkl,CQ,Cb];split <;> simp <;> omega
   obtain ⟨mk,hmk⟩:=Ad (vn+4:Nat);have hmw:IntKind.i64.wrap ((vn:Int)+4)=(mk:Nat):=by rw [CN _ Yh];omega
   obtain ⟨lb,lo,x,B1,m1,e1,B2,m2,e2,rfl,hlb,hx,hx1,hx2,hlc⟩:=OJ Ng.o (show mk < vn+4+1 by omega);rw [Dz] at hlb;have hk5:(mk:Int) < (vn:Int)+4+1:=AG
   have HX:=AA (And.intro hx (And.intro hx1 hx2));have HLC:=AA hlc;have PH:=AA hmk;clear hx hx1 hx2 hlc hkl htk htl hI hmk hfl;go_upto_region 17 with fail;have hz2:=SL.o.kx.size;have hIB:=SL.o.below AG AG (Ae _ _).drew;have Zq:=AA hIB;obtain ⟨U5,MF,cv,MB,L8,ck',S,h1',h2',h3',h4',h5',h6',So⟩:=hIB.row;have hL:w.heap.size+1+1 < w12.heap.size:=AG
   have Oz:w12.heap.size<=wc.drew.heap.size:=hIB.kx.size;have i5:AZ wc.drew (w.heap.size+1) 46 Y:=(hIB.kx.same _ AG AG).trans oy.o;have hcl:=HLC.o;have TH:∀(j':Nat) (v:AN),[Value.int .i64 x.index,AB B1 m1 e1,AB B2 m2 e2][j']? =some v->wc.drew.cell? ⟨lb,lo+mk*3+j',none⟩=some v:=fun j' v hv=>(hIB.old.cell (p:=⟨lb,lo+mk*3+j',none⟩) hlb).trans (SY (hcl j' v hv));have TK:∀W,wc.drew.grownBy W (Value.slice MB kl.length L8).ownBlock->W.cell? ⟨w.heap.size+1+1,71,none⟩=some (AB MB kl.length L8)/\W.cell? ⟨w.heap.size+1,38,none⟩=some (AB (some ⟨lb,lo,none⟩) (vn+4+1) kc)/\W.cell? ⟨lb,lo+mk*3,none⟩=some (AE AF x.index)/\W.cell? ⟨lb,lo+mk*3+1,none⟩=some (AB B1 m1 e1)/\W.cell? ⟨lb,lo+mk*3+2,none⟩=some (AB B2 m2 e2):=fun W hW=>by have hf:∀o,some (Addr.mk lb o none).block≠(Value.slice MB kl.length L8).ownBlock:=fun o=>DX h5'.own eA;exact ⟨hW.cell (JR h1' Hj.o R9.o).claims (DX h5'.own hL),hW.cell (EN.o _ i5).2.2.2 (DX h5'.own Ym),hW.cell (TH 0 _ rfl) (hf _),hW.cell (TH 1 _ rfl) (hf _),hW.cell (TH 2 _ rfl) (hf _)⟩
   have hS:=DS wc.drew (Value.slice MB kl.length L8).ownBlock;have hvb:BI (veil S0 w).heap.size (veil S0 w) (veil S wc.drew):=Zx hIB.old h6';have hlf:Dt (veil S wc.drew) [AE AF x.index,AB B1 m1 e1,AB B2 m2 e2] x:=⟨B1,m1,e1,B2,m2,e2,rfl,HX.o.2.1.mono BK hvb,HX.o.2.2.mono BK hvb⟩;refine lB (fun W=>wc.drew.grownBy W (Value.slice MB kl.length L8).ownBlock) [11] 12 _ ?_;refine lT 0 126 hS ?_;refine lT 1 127 hS ?_;refine lT 2 128 hS ?_;refine lT 3 129 hS ?_;refine lM 4 130 10 hS ?_;refine lT 5 131 hS (v:=AE AF (mk:Nat)) ?_ (hv:=by intro W hW;rw [<-hmw];(go_simp) <;> rfl);refine lT 6 132 hS ?_;refine lT 7 133 hS ?_;refine kW 8 9 10 11 134 135 136 127 44 71 133 h5'.own (news:=#[AE AF x.index,AB B1 m1 e1,AB B2 m2 e2]) rfl (kV _ _ _ _ _ _ _) (by unfold maxLen;have:=IB;omega) (by have:=IB;omega) Oz (fP _ _ _ _ _ _ _ _)
    (fun v' w7 GJ EJ=>by obtain ⟨A'',c'',rfl⟩:=CG GJ;have k7:=(h1'.alloc _).grown EJ (DX h5'.own hL);exact fO w7 _ 71 _ _ _ _ ((JR k7 Hj.o R9.o).claims) (k7.frozen 71)) ?_ Vg.choose_spec.choose_spec
   intro v7 w7 GJ EJ Ow;simp only [Ct,DF];have XZ:=Zq.o.uh (x:=x) Hj.o R9.o hL Oz h1' h2' h3' h4' h5' h6' So rfl hlf GJ EJ Ow;generalize (w7.setCell ⟨w.heap.size+1+1,71,none⟩ v7)=wk at XZ ⊢;have HI3:=AA XZ;clear XZ GJ EJ Ow h1' h2' h3' h4' h5' h6' So TK hS hL Oz hIB i5 hcl TH hvb hlf Zq hz2;have hI:=HI3.o;obtain ⟨U5,MF,cv,MB,L8,ck',S,h1',h2',h3',h4',h5',h6',So⟩:=hI.row;obtain ⟨QQ,dF⟩:∃QQ,QQ=GD {{sv with token:=tk} with values:=AB U5 (fs.map Wh).length MF,claims:=AB MB (kl++[x]).length L8}:=⟨_,rfl⟩;rw [<-dF] at h1';have tT:QQ.size=72:=by
    rw [dF,Iu]
    · exact Hj.o
    · exact R9.o
   have VG:AI ((prog.info? 57).map (·.size)=some QQ.size):=AA (by rw [tT];exact fI);have HQO:AI (QQ.all (·.oneCell')=true):=AA (by rw [dF,HSV.o];exact UZ rfl rfl rfl);have hz3:=hI.kx.size;have kN:AZ wk (w.heap.size+1+1+1) 47 #[AE AF 0]:=(hI.kx.same _ AG AG).trans AIb.o;have e3:=kN.cell 0;have f3:=kN.frozen 0;have l3:=kN.lt;simp only [Ak,Al] at e3;have hsf:Ag 1 CK (veil S0 wk) (AB CA fs.length cc') fs:=(AIp.o.kx Ho AGX.o (by have:=H4.o;omega) (Ac _) hI.kx).ADZ Ho AGX.o (fun b hb=>by have:=db.o b hb;have:=CX.o.size;omega);have AFO:Ag 1 CK (veil S0 wk) (AB U5 (fs.map Wh).length MF) (fs.map Wh):=CW (Ra h2' (fun b hb=>by have:=db.o b hb;omega)) ⟨h3'.1,h3'.2⟩ rfl;have hsk:Ag 3 Dt (veil S0 wk) (AB MB (kl++[x]).length L8) (kl++[x]):=CW (Ra h5'.own (fun b hb=>by have:=db.o b hb;omega)) ⟨h5'.els.1,fun i y hy=>JD _ _ _ _ ej (fun _ _=>Zw (fun b hb=>(h6' b (db.o b hb)).2 hb)) (h5'.els.2 i y hy)⟩ rfl;have K1:=AA h1';have KN:=AA kN;have Kb:=AA hsf;have AII:=AA AFO;have Xy:=AA hsk;have HQQ:=AA dF;have HOLD:=AA hI.old;clear hI h1' h2' h3' h4' h5' h6' So dF tT hz3 kN hsf AFO hsk;go_wp2_with (first
    | (refine Bv rfl 57 (AY 8) rfl (w.heap.size+1+1) rfl 57 QQ (0,0) _ K1.o underlying57 rfl VG.o ?_)
    | (refine wpList_store_rowTo rfl 57 (AY 8) (AY 137) rfl rfl (w.heap.size+1+1) QQ rfl rfl 57 QQ K1.o VG.o rfl HQO.o ?_;rw [N1 _ _ _ _ _ K1.o])
    | fail)
   have hself:wk.setCell ⟨w.heap.size+1+1+1,0,none⟩ (AE AF 0)=wk:=by rw [setCell_eq_setRow wk (w.heap.size+1+1+1) 0 _ _ _ _ KN.o];exact N1 _ _ _ _ _ KN.o
   rw [hself];refine AEI (e:=0) (g8:=w.heap.size+1+1) (ZZ:=QQ) rfl rfl K1.o VG.o (KN.o.cell 0) ?_;rw [HRR.o,Hk.o];have ev:fs.map Wh=(LR vn q fs link).values:=by rw [AGJ.o];rfl
   have ex:x=q.claims.getD (vn+4) LX:=by rw [<-PH.o,Cv,HX.o.1];rfl
   have ek:kl++[x]=(LR vn q fs link).claims:=by rw [AIh.o,AGd.o,ex];rfl
   have hv:=AII.o;have hk:=Xy.o;refine ⟨CA,fs.length,cc',U5,(fs.map Wh).length,MF,MB,(kl++[x]).length,L8,?_,Kb.o,?_,?_,HOLD.o⟩
   ·rw [HQQ.o,HSV.o,AIF.o]
    show _=Ending.returned (BQ #[AP (GD ⟨q.Ar,q.round,q.schema,q.place,q.holder,_,_,_,_,_,_,_,_,_⟩),_]);rw [HKK.o];rfl
   ·rw [ev] at hv ⊢
    exact hv
   rw [ek] at hk ⊢;exact hk
end Go.Proofs.YtamhoilkpppdbaaGreatDoor
