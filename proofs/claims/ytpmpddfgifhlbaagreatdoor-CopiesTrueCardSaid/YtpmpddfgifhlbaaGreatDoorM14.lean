import Derived.Test.YtpmpddfgifhlbaaGreatDoorM13
namespace Go.Proofs.YtpmpddfgifhlbaaGreatDoor
set_option maxHeartbeats 8000000
set_option maxRecDepth 100000
open Go renaming World→AH, Value→AK, Calls→AS, TypeId→Ae, Program→BB, Addr→Aa
open Go.RowKit renaming Below→BK
open Go.Proofs.Tryz
open Go.Value renaming slice→AA, int→AB, pointer→AU, agg→AO, tuple→BS
open Go.IntKind renaming i64→AE
open Go.Ending renaming returned→AV
open Go.Obj renaming cells→AQ
open Go.Operand renaming tmp→AY
open Go.RowKit Go.Shelf
attribute [local go_sem] Oper.semAt_some
def Qc (p i:Int) (h:AP) (l:AK):Array AK:=#[AB AE p,AB AE i]++yA h++#[l]
def Gd:Ge:=⟨0,0,0,0,zeros 32,[],[],[]⟩
def IK (w:AH) (q:Ge) (e0:Int) (e:Ending) (w':AH):Prop:=∃VA vn vc LA ln lc KA kn kc,e=AV (BS #[AO (Hf ⟨q.Au,q.round,q.schema,q.place,q.holder,AA VA vn vc,AA LA ln lc,AA KA kn kc⟩),AB AE e0])/\
 Ag 1 CF (R4 w.heap.size w') (AA VA vn vc) q.values/\Ag 32 CQ (R4 w.heap.size w') (AA LA ln lc) q.links/\Ag 3 Dc (R4 w.heap.size w') (AA KA kn kc) q.claims/\AJ w w'
theorem AJd {p i:Int} {h:AP} {l:AK} (hh:h.length=32):(Qc p i h l).size=35:=by simp [Qc,Bb,hh]
theorem QZ {W:AH} {h:Nat} {e:Int} (hc:W.cell? ⟨h,0,none⟩=some (AB AE e)):(loadVar 50 ⟨h,0,none⟩).run prog W=.ok (AB AE e) W:=by go_simp
theorem AF3 (W:AH) (g:Nat) {v:AK} {e:Int} (h:W.cell? ⟨g,0,none⟩=some v) (hf:W.frozen? ⟨g,0,none⟩=false):(Instr.storeAt 50 (AU (some ⟨g,0,none⟩)) (AB AE e)).run prog W=.ok () (W.setCell ⟨g,0,none⟩ (AB AE e)):=by go_simp
theorem XR {P:BB} {fn:Func} {tmps:Array AK} {p q:Tmp} {ty tz:Ae} {t:Ae} {ds:TypeDesc} {cs:Array AK} {e:Int} {g h:Nat} {w:AH} (hr:fn.results=#[.cell p ty,.cell q tz]) (hp:tmps.getD p undef=AU (some ⟨g,0,none⟩)) (hq:tmps.getD q undef=AU (some ⟨h,0,none⟩)) (hg:AZ w g t cs) (hu:P.underlying ty=some ds) (hds:(match ds with | .struct _ | .array _ _=>true | _=>false)=true) (hi:(P.info? ty).map (·.size)=some cs.size)
 (hc:(loadVar tz ⟨h,0,none⟩).run P w=.ok (AB AE e) w):(results fn tmps).run P w=.ok (BS #[.agg cs,AB AE e]) w:=by
 have hp':tmps[p]?.getD undef=AU (some ⟨g,0,none⟩):=by simpa using hp
 have hq':tmps[q]?.getD undef=AU (some ⟨h,0,none⟩):=by simpa using hq
 simp [results,hr,hp',hq',asAddr,run_loadVar_row w g t ty cs (0,0) ds hg hu hds hi,hc]
def AJR (Q:Exit->Act->AH->Prop) (e:Exit) (a:Act) (w:AH):Prop:=e=.normal/\Q .normal a w
theorem nD {P:BB} {c:Code} {Q:Exit->Act->AH->Prop} {a:Act} {w:AH} (h:c.wp P (AJR Q) a w):c.wp P Q a w:=Code.wp_mono (fun _ _ _ hh=>by obtain ⟨rfl,hq⟩:=hh;exact hq) h
section
variable {P:BB} {md:Region.Mode} {ops:Array Oper} {Q:Exit->Act->AH->Prop} {S:AH->Prop} {fuel:Nat} {listed:Array Bool} {l:List AK} {D:List Deferred} {w:AH}
theorem AFZ (i:Nat) {o:Oper} (ty:Ae) (a b g:Nat) (cells:Array AK) (t:Ae) (old:Array AK) (hr:Region.ready md ops listed=[i]) (hi:ops[i]? =some o) (hd:o.dst=none) (hg:o.guard=none) (ho:o.op=.store ty (AY a) (AY b))
 (hx:l[a]? =some (AU (some ⟨g,0,none⟩))) (hy:l[b]? =some (.agg cells)) (hb:w.heap[g]? =some (AQ old t (0,0))) (hs:(P.info? ty).map (·.size)=some cells.size) (hold:old.size=cells.size) (h1:cells.all (·.oneCell')=true)
 (hS:S (w.setRow g cells)) (hk:wpAnyH P md ops Q S fuel (listed.setIfInBounds i true) ⟨l.toArray,D⟩ (w.setRow g cells)):wpAnyH P md ops Q S (fuel+1) listed ⟨l.toArray,D⟩ w:=
 nk i hr hi hg (wp_store_row ty (AY a) (AY b) ho g cells eX (by simp [Act.eval,hy]) t old hb hs hold h1 (by rw [hd];exact ⟨hS,hk⟩))
end
structure Ql (w:AH) (TT SD RR OO II:Array AK) (W:AH):Prop where
 old:AJ w W
 tt:AZ W w.heap.size 32 TT
 sd:AZ W (w.heap.size+1) 34 SD
 rr:AZ W (w.heap.size+1+1+1) 36 RR
 oo:AZ W (w.heap.size+1+1+1+1) 39 OO
 ii:AZ W (w.heap.size+1+1+1+1+1) 41 II
section
variable {w W W':AH} {TT SD RR OO II:Array AK}
theorem Ql.same (h:Ql w TT SD RR OO II W) (hb:AJ w W') (hk:∀b,b < W.heap.size->b≠w.heap.size+1+1->b≠w.heap.size+1+1+1+1+1+1->b≠w.heap.size+1+1+1+1+1+1+1->W'.heap[b]? =W.heap[b]?):Ql w TT SD RR OO II W':=
 ⟨hb,(hk _ h.tt.lt AG AG AG).trans h.tt,(hk _ h.sd.lt AG AG AG).trans h.sd,(hk _ h.rr.lt AG AG AG).trans h.rr,(hk _ h.oo.lt AG AG AG).trans h.oo,(hk _ h.ii.lt AG AG AG).trans h.ii⟩
theorem Ql.below (h:Ql w TT SD RR OO II W) (hb:AJ W W'):Ql w TT SD RR OO II W':=h.same (AW h.old hb) fun b hlt _ _ _=>hb.block b hlt
theorem Ql.row (h:Ql w TT SD RR OO II W) (g:Nat) (cs:Array AK) (hg:g=w.heap.size+1+1\/g=w.heap.size+1+1+1+1+1+1\/g=w.heap.size+1+1+1+1+1+1+1):Ql w TT SD RR OO II (W.setRow g cs):=
 h.same (below_setRow h.old AG _) fun b _ h1 h2 h3=>Gu W g b cs AG
theorem Ql.put (h:Ql w TT SD RR OO II W) (g o:Nat) (v:AK) (hg:g=w.heap.size+1+1\/g=w.heap.size+1+1+1+1+1+1\/g=w.heap.size+1+1+1+1+1+1+1):Ql w TT SD RR OO II (W.setCell ⟨g,o,none⟩ v):=
 h.same (h.old.setCell (by show w.heap.size<=g;omega) _) fun b _ h1 h2 h3=>EB W _ v b (by show b≠g;omega)
end
theorem oQ (v0 v1 v3 v4 v5 v6:AK) (A:Option Aa) (n c:Nat) (ns:List Nat) (ck:Int) (val:Int->Int->Int->Bool) (seed:AP) (r:CS) (place pe it xs xp xi:Int) (holder:AP) (links:List (AP)) (vs:AP) (VA LA:Option Aa) (vn vc ln lc x k:Nat) (w:AH) (hs:Ag 6 LG w (AA A n c) ns)
 (hK:Qm (AO #[v0,v1,AA A n c,v3,v4,v5]) (AO #[v0,v1,AA A n c,v3,v4,v5,v6]) ck val w) (hv:Ag 1 CF w (AA VA vn vc) vs) (hl:Ag 32 CQ w (AA LA ln lc) links) (hsd:seed.length=32) (hh:holder.length=32) (hro:r.root.length=32) (MJ:Cc w)
 (hx:ns[k]? =some x) (hsc:r.schema=k) (hft:GR (some x) r.places=true):
 AS prog 23 #[AO #[v0,v1,AA A n c,v3,v4,v5,v6],AO (yA seed),AA none 0 0,AO (rdA r),AB AE place,AO (Qc pe it holder (AA LA ln lc)),AO #[AB AE xs,AB AE xp,AB AE xi,AA VA vn vc]] w
  (if FV 0 (some x) (val r.schema) r place links xs vs=true then IK w (Ij Aq seed x r place holder links vs) 0 else IK w Gd 190):=by
 obtain ⟨RR,hRR⟩:=Ab (rdA r);obtain ⟨OO,PS⟩:=Ab (Qc pe it holder (AA LA ln lc));obtain ⟨SD,hSD⟩:=Ab (yA seed);rw [<-hRR,<-PS,<-hSD];have PI:AI ((prog.info? 36).map (·.size)=some RR.size):=AF Ww;have YJ:AI ((prog.info? 39).map (·.size)=some OO.size):=AF fM;have LI:AI (RR[0]? =some (AB AE r.Au)/\RR[1]? =some (AB AE r.no)/\RR[2]? =some (AB AE r.schema)/\RR[5]? =some (AB AE r.places)):=AF mr
 have qZ:AI (OO[34]? =some (AA LA ln lc)/\∀j v,(holder.map (Value.int .u8))[j]? =some v->OO[2+j]? =some v):=AF (by rw [PS,Qc];refine ⟨by rw [Yt (by simp [Bb,hh])];simp [Bb,hh],fun j v hj=> ?_⟩;have hlt:=(BA.1 hj).1;rw [CX] at hlt;rw [Ri (by simp [Bb];omega),Yt Ac,yA,Ai];simpa using hj)
 have dy:AI (∀(W:AH) (YA YB YC:Option Aa) (yn yc zn zc un uc:Nat),AJ w W->x<=1000->AS prog 44 #[AO #[v0,v1,AA A n c,v3,v4,v5,v6],AO (Hf ⟨r.Au,r.no,r.schema,place,holder,AA YA yn yc,AA YB zn zc,AA YC un uc⟩)] W fun e w'=>∃F L,e=AV (AO (I9 ⟨r.Au,r.no,r.schema,place,holder,F,AA YA yn yc,0,zeros 32,AA YC un uc,L,AA YB zn zc,(x:Int)+4+1,(x:Int)+4⟩))/\Ag 1 CF w' F (upto x)/\Ag 1 CF w' L (upto 4)/\AJ W w'/\NewAt W.heap.size F/\NewAt W.heap.size L):=AF (fun W YA YB YC yn yc zn zc un uc hW h5=>
  cH v0 v1 v3 v4 v5 v6 A n c ns k x ⟨r.Au,r.no,r.schema,place,holder,AA YA yn yc,AA YB zn zc,AA YC un uc⟩ YA YB YC yn yc zn zc un uc W (hs.mono FI hW) hx h5 hh hsc rfl rfl rfl)
 have Qt:AI (∀W,AJ w W->AS prog 43 #[AO #[v0,v1,AA A n c,v3,v4,v5,v6],AB AE r.schema,AA VA vn vc] W fun e w'=>e=AV (.bool (D4 x (val r.schema) vs))/\AJ W w'):=AF (fun W hW=>by rw [hsc];exact X9 v0 v1 v3 v4 v5 v6 A n c ns k x VA vn vc vs ck val W (hs.mono FI hW) hx (hv.mono BU hW) (hK.below hW))
 obtain ⟨R,hR⟩:∃R,R=(if FV 0 (some x) (val r.schema) r place links xs vs=true then IK w (Ij Aq seed x r place holder links vs) 0 else IK w Gd 190):=⟨_,rfl⟩;rw [<-hR];obtain ⟨ZZ,dW⟩:=Ab (Hf ⟨0,0,0,0,zeros 32,AA none 0 0,AA none 0 0,AA none 0 0⟩);have HZI:AI ((prog.info? 48).bind (·.zero)=some (.agg ZZ)):=AF QP;have Qn:AI ((prog.info? 48).map (·.size)=some ZZ.size):=AF QP;have HZO:AI (ZZ.all (·.oneCell')=true):=AF QP;have dt:=AF dW;have Cl:AI (FV 0 (some x) (val r.schema) r place links xs vs=false->R=IK w Gd 190):=AF (fun h=>by rw [hR,h];rfl);have I5:AI (FV 0 (some x) (val r.schema) r place links xs vs=true->R=IK w (Ij Aq seed x r place holder links vs) 0):=AF (fun h=>by rw [hR,h];rfl);obtain ⟨x',hx',hp1,o5,Vm⟩:=NB hft;injection hx' with hx';subst hx';obtain ⟨HP2,HS,HV,HL,HSL,Zw,Hk,HX,Zl,NJ,Lr⟩:=vV Vm hs hv hl hsd hh MJ hx hsc hft hSD;have hlv:=hv.len;have hll:=hl.len;obtain ⟨HLV,jx⟩:=Aj hlv hll;clear hs hv hl hsd hh MJ hx hsc hft hSD hRR PS hK hro hR hlv hll dW;refine WU func23 rfl ?_;simp only [ntmps23,Pb,Fl,Ph,Nat.reduceAdd,Nat.reduceSub,UO,UQ,UK,UN,Ic,Lx];refine Iv (Gk (n:=1) (Dq.2 ?_));go_wp2_with (first | (refine Di rfl 48 rfl ZZ HZI.o ?_) | fail);obtain ⟨k1,b1,s1⟩:=bx w #[v0,v1,AA A n c,v3,v4,v5,v6] 32;generalize (w.alloc (AQ #[v0,v1,AA A n c,v3,v4,v5,v6] 32))=w1 at k1 b1 s1 ⊢;obtain ⟨k2,b2,s2⟩:=bx w1 SD 34;generalize (w1.alloc (AQ SD 34))=w2 at k2 b2 s2 ⊢;rw [s1] at k2 b2 s2;obtain ⟨k3,b3,s3⟩:=bx w2 #[AA none 0 0] 37;generalize (w2.alloc (AQ #[AA none 0 0] 37))=w3 at k3 b3 s3 ⊢;rw [s2] at k3 b3 s3;obtain ⟨k4,b4,s4⟩:=bx w3 RR 36;generalize (w3.alloc (AQ RR 36))=w4 at k4 b4 s4 ⊢;rw [s3] at k4 b4 s4;obtain ⟨k5,b5,s5⟩:=bx w4 OO 39;generalize (w4.alloc (AQ OO 39))=w5 at k5 b5 s5 ⊢;rw [s4] at k5 b5 s5;obtain ⟨k6,b6,s6⟩:=bx w5 #[AB AE xs,AB AE xp,AB AE xi,AA VA vn vc] 41;generalize (w5.alloc (AQ #[AB AE xs,AB AE xp,AB AE xi,AA VA vn vc] 41))=w6 at k6 b6 s6 ⊢;rw [s5] at k6 b6 s6;obtain ⟨k7,b7,s7⟩:=bx w6 ZZ 48;generalize (w6.alloc (AQ ZZ 48))=w7 at k7 b7 s7 ⊢;rw [s6] at k7 b7 s7;obtain ⟨k8,b8,s8⟩:=bx w7 #[AB AE 0] 50;generalize (w7.alloc (AQ #[AB AE 0] 50))=w8 at k8 b8 s8 ⊢;rw [s7] at k8 b8 s8;have Cg:AI (AJ w w8):=AF (((((((b1.trans (b2.mono AG)).trans (b3.mono AG)).trans (b4.mono AG)).trans (b5.mono AG)).trans (b6.mono AG)).trans (b7.mono AG)).trans (b8.mono AG));have H8:AI (w8.heap.size=w.heap.size+1+1+1+1+1+1+1+1):=AF AG;have HE:AI (∀W,AJ w8 W->AZ W w.heap.size 32 #[v0,v1,AA A n c,v3,v4,v5,v6]/\AZ W (w.heap.size+1) 34 SD/\AZ W (w.heap.size+1+1) 37 #[AA none 0 0]/\AZ W (w.heap.size+1+1+1) 36 RR/\AZ W (w.heap.size+1+1+1+1) 39 OO/\AZ W (w.heap.size+1+1+1+1+1) 41 #[AB AE xs,AB AE xp,AB AE xi,AA VA vn vc]/\AZ W (w.heap.size+1+1+1+1+1+1) 48 ZZ/\AZ W (w.heap.size+1+1+1+1+1+1+1) 50 #[AB AE 0]):=AF (fun W hW=>⟨(((((((k1.below b2 AG).below b3 AG).below b4 AG).below b5 AG).below b6 AG).below b7 AG).below b8 AG).below hW AG,((((((k2.below b3 AG).below b4 AG).below b5 AG).below b6 AG).below b7 AG).below b8 AG).below hW AG,(((((k3.below b4 AG).below b5 AG).below b6 AG).below b7 AG).below b8 AG).below hW AG,((((k4.below b5 AG).below b6 AG).below b7 AG).below b8 AG).below hW AG,(((k5.below b6 AG).below b7 AG).below b8 AG).below hW AG,((k6.below b7 AG).below b8 AG).below hW AG,(k7.below b8 AG).below hW AG,k8.below hW AG⟩);clear k1 b1 s1 k2 b2 s2 k3 b3 s3 k4 b4 s4 k5 b5 s5 k6 b6 s6 k7 b7 s7 k8 b8 s8;refine Iv (Gk (n:=1) (Dq.2 ?_));have HT:AI (∀W,AJ w8 W->W.cell? ⟨w.heap.size,0,none⟩=some v0/\W.cell? ⟨w.heap.size,1,none⟩=some v1/\W.cell? ⟨w.heap.size,2,none⟩=some (AA A n c)/\W.cell? ⟨w.heap.size,3,none⟩=some v3/\W.cell? ⟨w.heap.size,4,none⟩=some v4/\W.cell? ⟨w.heap.size,5,none⟩=some v5/\W.cell? ⟨w.heap.size,6,none⟩=some v6):=AF (fun W hW=>by have b:=(HE.o W hW).1;exact Wo)
 have HC:AI (∀W,AJ w8 W->(W.cell? ⟨w.heap.size+1+1+1,0,none⟩=some (AB AE r.Au)/\W.cell? ⟨w.heap.size+1+1+1,1,none⟩=some (AB AE r.no)/\W.cell? ⟨w.heap.size+1+1+1,2,none⟩=some (AB AE r.schema)/\W.cell? ⟨w.heap.size+1+1+1,5,none⟩=some (AB AE r.places))/\W.cell? ⟨w.heap.size+1+1+1+1,34,none⟩=some (AA LA ln lc)/\(W.cell? ⟨w.heap.size+1+1+1+1+1,0,none⟩=some (AB AE xs)/\W.cell? ⟨w.heap.size+1+1+1+1+1,3,none⟩=some (AA VA vn vc))/\(Instr.loadAt 34 (AU (some ⟨w.heap.size+1+1+1+1,2,none⟩))).run prog W=.ok (AO (yA holder)) W):=AF (fun W hW=>by obtain ⟨_,_,_,b3,b4,b5,_,_⟩:=HE.o W hW;exact ⟨⟨(b3.cell 0).trans LI.o.1,(b3.cell 1).trans LI.o.2.1,(b3.cell 2).trans LI.o.2.2.1,(b3.cell 5).trans LI.o.2.2.2⟩,(b4.cell 34).trans qZ.o.1,⟨b5.cell 0,b5.cell 3⟩,EY _ 2 Zw.o (fun j v hj=>by rw [b4.cell];exact qZ.o.2 j v hj)⟩)
 obtain ⟨d0,d1,d2,d3,d4,d5,d6⟩:=HT.o w8 (Af _ _);obtain ⟨_,_,_,_,_,_,k6,k7⟩:=HE.o w8 (Af _ _);have e7:=k7.cell 0;have f7:=k7.frozen 0;have l7:=k7.lt;simp only [Ai,An] at e7;obtain ⟨K6,K7⟩:=Aj k6 k7;clear k6 k7;obtain ⟨⟨r0,r1,r2,r5⟩,o34,⟨i0,i3⟩,_⟩:=HC.o w8 (Af _ _);have hcase:(¬0<=place\/(0<=place/\¬place < r.places)\/(0<=place/\place < r.places/\¬ln=4)\/(0<=place/\place < r.places/\ln=4/\¬xs=r.schema))\/(0<=place/\place < r.places/\ln=4/\xs=r.schema):=AG
 rcases hcase with hno | ⟨h1,h2,rfl,h4⟩
 ·have HN:AI (R=IK w Gd 190):=AF (Cl.o (by
   have:=jx.o;cases hm:FV 0 (some x) (val r.schema) r place links xs vs with
   | false=>rfl
   |
    true=>
    simp only [FV,BZ,Bw] at hm;omega))
  rcases hno with h | ⟨h1,h⟩ | ⟨h1,h2,h⟩ | ⟨h1,h2,h3,h⟩
  all_goals go_upto_region 2 with fail
  all_goals go_upto_region 3 with (first | (refine Cm rfl 48 (AY 14) rfl (w.heap.size+1+1+1+1+1+1) AL 48 ZZ (0,0) _ K6.o underlying48 rfl Qn.o ?_) | (refine wpList_store_rowTo rfl 48 (AY 14) (AY 50) rfl rfl (w.heap.size+1+1+1+1+1+1) ZZ rfl rfl 48 ZZ K6.o Qn.o rfl HZO.o ?_;rw [OC _ _ _ _ _ K6.o]) | fail)
  all_goals
   have h6:AZ (w8.setCell ⟨w.heap.size+1+1+1+1+1+1+1,0,none⟩ (AB AE 190)) (w.heap.size+1+1+1+1+1+1) 48 ZZ:=K6.o.far (Ks (Ie _)) _;refine ⟨_,XR (h:=w.heap.size+1+1+1+1+1+1+1) rfl rfl rfl h6 underlying48 rfl Qn.o (QZ ((K7.o.put 0 (AB AE 190)).cell 0)),?_⟩;rw [HN.o,dt.o];exact ⟨_,_,_,_,_,_,_,_,_,rfl,Ag.nil _ _ (Ar _),Ag.nil _ _ (Ar _),Ag.nil _ _ (Ar _),Cg.o.setCell tV _⟩
 cases hac:D4 x (val r.schema) vs with
 |
  false=>
  rw [hac] at Qt;have HN:AI (R=IK w Gd 190):=AF (Cl.o (by unfold FV;simp only [Ce,hac,YX]))
  go_upto_region 2 with (
   go_at_call 43;refine (Qt.o _ Cg.o).mono ?_;rintro e w9 ⟨rfl,O6⟩;obtain ⟨LL,qK⟩:=Aj O6 (K6.o.below O6 K6.o.lt);have k79:=K7.o.below O6 K7.o.lt;have e9:=k79.cell 0;have f9:=k79.frozen 0;have l9:=k79.lt;simp only [Ai,An] at e9;have K79:=AF k79;clear O6 k79 e7 f7 l7)
  go_upto_region 3 with (first
   | (refine Cm rfl 48 (AY 14) rfl (w.heap.size+1+1+1+1+1+1) AL 48 ZZ (0,0) _ qK.o underlying48 rfl Qn.o ?_)
   | (refine wpList_store_rowTo rfl 48 (AY 14) (AY 50) rfl rfl (w.heap.size+1+1+1+1+1+1) ZZ rfl rfl 48 ZZ qK.o Qn.o rfl HZO.o ?_;rw [OC _ _ _ _ _ qK.o])
   | fail)
  have h6:AZ (w9.setCell ⟨w.heap.size+1+1+1+1+1+1+1,0,none⟩ (AB AE 190)) (w.heap.size+1+1+1+1+1+1) 48 ZZ:=qK.o.far (Ks (Ie _)) _;refine ⟨_,XR (h:=w.heap.size+1+1+1+1+1+1+1) rfl rfl rfl h6 underlying48 rfl Qn.o (QZ ((K79.o.put 0 (AB AE 190)).cell 0)),?_⟩;rw [HN.o,dt.o];exact ⟨_,_,_,_,_,_,_,_,_,rfl,Ag.nil _ _ (Ar _),Ag.nil _ _ (Ar _),Ag.nil _ _ (Ar _),(AW Cg.o LL.o).setCell tV _⟩
 |
  true=>
  rw [hac] at Qt;have HN:AI (R=IK w (Ij Aq seed x r place holder links vs) 0):=AF (I5.o (by have:=jx.o;simp only [FV,BZ,Bw];exact ⟨⟨⟨⟨⟨⟨trivial,NJ.o⟩,h1⟩,h2⟩,by omega⟩,h4⟩,hac⟩))
  go_wp2_with (
   go_at_call 43;refine (Qt.o _ Cg.o).mono ?_;rintro e w9 ⟨rfl,O6⟩;have LL:=AF O6;clear O6)
  have HM:AI (∀W,AJ w8 W->Ql w #[v0,v1,AA A n c,v3,v4,v5,v6] SD RR OO #[AB AE xs,AB AE xp,AB AE xi,AA VA vn vc] W):=AF (fun W hW=>by obtain ⟨b0,b1,_,b3,b4,b5,_,_⟩:=HE.o W hW;exact ⟨AW Cg.o hW,b0,b1,b3,b4,b5⟩)
  clear d0 d1 d2 d3 d4 d5 d6 r0 r1 r2 r5 o34 i0 i3 e7 f7 l7 Vm;have hm9:=HM.o _ LL.o;obtain ⟨_,_,k2,_,_,_,k6,k7⟩:=HE.o _ LL.o;have e2:=k2.cell 0;have f2:=k2.frozen 0;have l2:=k2.lt;simp only [Ai,An] at e2;obtain ⟨K26,qK,K79,u9⟩:=CJ k2 k6 k7 hm9;clear hm9 k2 k6 k7 K6 K7;refine Iv (Gk (n:=1) (Dq.2 ?_));go_upto_region 4 with fail
  -- REGION 4
  have DE:prog.follows .mixedOrders=true:=AL
  have hkn':k < n:=by rw [HS.o.len];exact (BA.1 HX.o).1
  have hk1:(k:Int) < (n:Int):=AG
  have hk0:=Int.natCast_nonneg k
  obtain ⟨b,off,x',x0,x1,x2,x3,B,cc,x5,hA,hb,hx',hxl,hone,hcell⟩:=Ni HS.o hkn';rw [HX.o] at hx';injection hx' with hx';subst hx';subst hA;have eJ:AI (∀W,AJ w W->(Instr.loadAt 79 (AU (some ⟨b,off+k*6,none⟩))).run prog W=.ok (AO #[x0,x1,x2,x3,AA B x cc,x5]) W):=AF (fun W hW=>by have hr:W.rangeAt b (off+k*6) [x0,x1,x2,x3,AA B x cc,x5]:=fun j v hj=>(hW.cell (p:=⟨b,off+k*6+j,none⟩) hb).trans (hcell j v hj);simp only [Instr.loadAt,Instr.sureAddr,Cs,DL,Result.andThen_ok,RV W b (off+k*6) 79 _ _ hr underlying79 rfl AL])
  have hsz:(prog.info? 79).map (·.size)=some 6:=AL
  clear hcell hone HC HT;have HTM:AI (∀W,Ql w #[v0,v1,AA (some ⟨b,off,none⟩) n c,v3,v4,v5,v6] SD RR OO #[AB AE xs,AB AE xp,AB AE xi,AA VA vn vc] W->W.cell? ⟨w.heap.size,0,none⟩=some v0/\W.cell? ⟨w.heap.size,1,none⟩=some v1/\W.cell? ⟨w.heap.size,2,none⟩=some (AA (some ⟨b,off,none⟩) n c)/\W.cell? ⟨w.heap.size,3,none⟩=some v3/\W.cell? ⟨w.heap.size,4,none⟩=some v4/\W.cell? ⟨w.heap.size,5,none⟩=some v5/\W.cell? ⟨w.heap.size,6,none⟩=some v6):=AF (fun W hW=>⟨hW.tt.cell 0,hW.tt.cell 1,hW.tt.cell 2,hW.tt.cell 3,hW.tt.cell 4,hW.tt.cell 5,hW.tt.cell 6⟩);have HCM:AI (∀W,Ql w #[v0,v1,AA (some ⟨b,off,none⟩) n c,v3,v4,v5,v6] SD RR OO #[AB AE xs,AB AE xp,AB AE xi,AA VA vn vc] W->(W.cell? ⟨w.heap.size+1+1+1,0,none⟩=some (AB AE r.Au)/\W.cell? ⟨w.heap.size+1+1+1,1,none⟩=some (AB AE r.no)/\W.cell? ⟨w.heap.size+1+1+1,2,none⟩=some (AB AE r.schema)/\W.cell? ⟨w.heap.size+1+1+1,5,none⟩=some (AB AE r.places))/\W.cell? ⟨w.heap.size+1+1+1+1,34,none⟩=some (AA LA 4 lc)/\(W.cell? ⟨w.heap.size+1+1+1+1+1,0,none⟩=some (AB AE xs)/\W.cell? ⟨w.heap.size+1+1+1+1+1,3,none⟩=some (AA VA vn vc))/\(Instr.loadAt 34 (AU (some ⟨w.heap.size+1+1+1+1,2,none⟩))).run prog W=.ok (AO (yA holder)) W/\(Instr.loadAt 34 (AU (some ⟨w.heap.size+1,0,none⟩))).run prog W=.ok (.agg SD) W):=AF (fun W hW=>by exact ⟨⟨(hW.rr.cell 0).trans LI.o.1,(hW.rr.cell 1).trans LI.o.2.1,(hW.rr.cell 2).trans LI.o.2.2.1,(hW.rr.cell 5).trans LI.o.2.2.2⟩,(hW.oo.cell 34).trans qZ.o.1,⟨hW.ii.cell 0,hW.ii.cell 3⟩,EY _ 2 Zw.o (fun j v hj=>by rw [hW.oo.cell];exact qZ.o.2 j v hj),by rw [Lr.o];exact Qe _ seed HSL.o W (by rw [<-Lr.o];exact hW.sd)⟩)
  have hx1:x<=251:=by have h1:1*((x:Int)+4+1)<=r.places*((x:Int)+4+1):=OL hp1 AG;have:=HP2.o;omega
  have hmul:IntKind.i64.wrap (r.places*((x:Int)+4+1))=r.places*((x:Int)+4+1):=Bv _ (by have h1:0<=r.places*((x:Int)+4+1):=JH AG AG;have:=HP2.o;omega)
  have hm1:1<=r.places*((x:Int)+4+1):=by have h1:1*((x:Int)+4+1)<=r.places*((x:Int)+4+1):=OL hp1 AG;omega
  refine nD ?_;have hS:=u9.o.below (Af _ _).drew;have hb0:AJ w9 w9.drew:=(Af _ _).drew;refine JA (fun W=>Ql w #[v0,v1,AA (some ⟨b,off,none⟩) n c,v3,v4,v5,v6] SD RR OO #[AB AE xs,AB AE xp,AB AE xi,AA VA vn vc] W) 18 _ DE AL rfl ?_;refine uT 0 55 hS ?_ (v:=.agg SD) (hv:=fun W hW=>Ch rfl AL (HCM.o W hW).2.2.2.2);refine uT 1 56 hS ?_ (hv:=Hc);refine uT 2 57 hS ?_ (hv:=Hc);refine uT 3 58 hS ?_ (hv:=Hc);refine uT 4 59 hS ?_ (hv:=Hc);refine uT 5 60 hS ?_ (hv:=Hc);refine uT 6 61 hS ?_ (hv:=Hc);refine uT 7 62 hS ?_ (hv:=Hc);refine uT 8 63 hS ?_ (hv:=Hc);refine uT 9 64 hS ?_ (v:=AO #[x0,x1,x2,x3,AA B x cc,x5]) (hv:=fun W hW=>Ch rfl AL (eJ.o W hW.old));refine WJ 10 65 AL rfl rfl rfl rfl (enters_of func25 AL rfl) (S4 x0 x1 x2 x3 x5 B x cc _ hxl) AL ?_;rintro e MF ⟨rfl,L9⟩;have hS2:=hS.below L9;have hb2:=AW hb0 L9;refine ⟨_,rfl,hS2,?_⟩;refine uT 11 66 hS2 ?_ (v:=AB AE (r.places*((x:Int)+4+1))) (hv:=fV);obtain ⟨PL,ud⟩:=Ab (Dp Aq seed (r.places*((x:Int)+4+1)).toNat);have ADh:=XW seed (r.places*((x:Int)+4+1)) MF HSL.o hm1 HP2.o (Hk.o.below hS2.old);rw [<-Lr.o,<-ud] at ADh;have WZ:=AF ud;clear ud;refine WJ 12 67 AL rfl rfl rfl rfl (enters_of func26 AL rfl) ADh AL ?_;rintro e w12 ⟨pv,pcs,rfl,hpo,hpc,xL⟩;have hS3:=hS2.below xL;have hb3:=AW hb2 xL;refine ⟨_,rfl,hS3,?_⟩;obtain ⟨PA,pc,rfl⟩:=Bz hpo;refine rgM 13 54 67 AL rfl rfl (fun _ _ _ _ _ h=>by cases h.1) hS3 rfl (.inl rfl) rfl ?_;refine ACv 14 68 AL rfl rfl sU hS3 rfl (v:=AA PA _ pc) (fun W _=>by (go_simp) <;> rfl) ?_;refine ACv 15 69 AL rfl rfl sU hS3 rfl (v:=AB AE 0) (fun W _=>by (go_simp) <;> rfl) ?_;have k2:=K26.o.below hb3 K26.o.lt;have k6:=qK.o.below hb3 qK.o.lt;have k7:=K79.o.below hb3 K79.o.lt;refine aA 16 37 9 68 (AU (some ⟨w.heap.size+1+1,0,none⟩)) (AA PA PL.length pc) AL rfl rfl rfl rfl AL AL (uH w12 (w.heap.size+1+1) 0 (AA none 0 0) PA PL.length pc (k2.cell 0) (k2.frozen 0)) (hS3.put (w.heap.size+1+1) 0 _ (.inl rfl)) ?_;have k22:=k2.put 0 (AA PA PL.length pc);have k62:=k6.far (p:=⟨w.heap.size+1+1,0,none⟩) sm (AA PA PL.length pc);have k72:=k7.far (p:=⟨w.heap.size+1+1,0,none⟩) sm (AA PA PL.length pc);have hz8:=H8.o;have hz9:=LL.o.size;have AHB:=hb2.size;have ho2:=E9 hpo (a:=⟨w.heap.size+1+1,0,none⟩) (by show w.heap.size+1+1 < MF.heap.size;omega) (AA PA PL.length pc);have hS4:=hS3.put (w.heap.size+1+1) 0 (AA PA PL.length pc) (.inl rfl);refine aA 17 50 15 69 (AU (some ⟨w.heap.size+1+1+1+1+1+1+1,0,none⟩)) (AB AE 0) AL rfl rfl rfl rfl AL AL (AF3 _ (w.heap.size+1+1+1+1+1+1+1) (k72.cell 0) (k72.frozen 0)) (hS4.put (w.heap.size+1+1+1+1+1+1+1) 0 _ (.inr (.inr rfl))) ?_;refine Cx AL ?_ _;refine ⟨rfl,?_⟩;simp only [Bp,B9];have hz8:=H8.o;have hz9:=LL.o.size;have AHB:=hb2.size;have hm:=hS4.put (w.heap.size+1+1+1+1+1+1+1) 0 (AB AE 0) (.inr (.inr rfl));have k2e:=k22.far (p:=⟨w.heap.size+1+1+1+1+1+1+1,0,none⟩) tR (AB AE 0);have k6e:=k62.far (p:=⟨w.heap.size+1+1+1+1+1+1+1,0,none⟩) tR (AB AE 0);have k7e:=k72.put 0 (AB AE 0);have hoe:=Ny (E9 ho2 (a:=⟨w.heap.size+1+1+1+1+1+1+1,0,none⟩) (by show w.heap.size+1+1+1+1+1+1+1 < MF.heap.size;omega) (AB AE 0)) (BF hz9 AHB);have oq:w8.heap.size<=((w12.setCell ⟨w.heap.size+1+1,0,none⟩ (AA PA PL.length pc)).setCell ⟨w.heap.size+1+1+1+1+1+1+1,0,none⟩ (AB AE 0)).heap.size:=by rw [Ra,Ra];have:=xL.size;omega
  generalize ((w12.setCell ⟨w.heap.size+1+1,0,none⟩ (AA PA PL.length pc)).setCell ⟨w.heap.size+1+1+1+1+1+1+1,0,none⟩ (AB AE 0))=Fs at hm k2e k6e k7e hoe oq ⊢;have e7:Fs.cell? ⟨w.heap.size+1+1+1+1+1+1+1,0,none⟩=some (AB AE 0):=k7e.cell 0;obtain ⟨AK0,KB2,KB6,KB7,HOP,HPC⟩:=FR hm k2e k6e k7e hoe hpc;have AHK:w8.heap.size<=Fs.heap.size:=oq;clear hm k2e k6e k7e hoe hpc ho2 hpo k22 k62 k72 k2 k6 k7 hS hS2 hS3 hS4 hb0 hb2 hb3 L9 xL ADh;go_wp2_with fail;refine Iv (Gk (n:=1) (Dq.2 ?_));refine nD ?_;have hS:=AK0.o.below (Af _ _).drew;have AHo:AJ Fs Fs.drew:=(Af _ _).drew;refine JA (fun W=>Ql w #[v0,v1,AA (some ⟨b,off,none⟩) n c,v3,v4,v5,v6] SD RR OO #[AB AE xs,AB AE xp,AB AE xi,AA VA vn vc] W) 17 _ DE AL rfl ?_;refine uT 0 74 hS ?_ (hv:=Hc);refine uT 1 75 hS ?_ (hv:=Hc);refine uT 2 76 hS ?_ (hv:=Hc);refine uT 3 77 hS ?_ (hv:=Hc);refine uT 4 78 hS ?_ (hv:=Hc);refine uT 5 79 hS ?_ (hv:=Hc);refine uT 6 80 hS ?_ (hv:=Hc);refine uT 7 81 hS ?_ (hv:=Hc);refine uT 8 82 hS ?_ (v:=AO (yA holder)) (hv:=fun W hW=>Ch rfl AL (HCM.o W hW).2.2.2.1);refine uT 9 83 hS ?_ (hv:=Hc);refine uT 10 84 hS ?_ (hv:=Hc);have hlx:vs.length=x:=by have h:=hac;rw [D4,BZ] at h;exact Fj h.1
  refine uT 12 86 hS ?_ (hv:=F7);refine uT 13 87 hS ?_ (hv:=(by intro W hW;have o34:=(HCM.o W hW).2.1;(go_simp) <;> rfl));refine WJ 11 85 AL rfl rfl rfl rfl (enters_of func39 AL rfl) (au SY VA vn vc vs Fs.drew (HV.o.mono BU hS.old) AG) AL ?_;rintro e NW ⟨cv,ccs,rfl,hcc,hco,MZ⟩;have hS7:=hS.below MZ;refine ⟨_,rfl,hS7,?_⟩;obtain ⟨CA,cc',rfl⟩:=Bz hco;have hl4:links.length=4:=by have:=jx.o;omega
  refine WJ 14 88 AL rfl rfl rfl rfl (enters_of func48 AL rfl) (AEg Vw LA 4 lc links NW (HL.o.mono BL hS7.old) AG) AL ?_;rintro e CU ⟨dv,dcs,rfl,hdc,hdo,Vq⟩;have Xt:=hS7.below Vq;refine ⟨_,rfl,Xt,?_⟩;obtain ⟨DA,dc',rfl⟩:=Bz hdo;obtain ⟨PP,WQ⟩:=Ab (Hf ⟨r.Au,r.no,k,place,holder,AA CA vs.length cc',AA DA links.length dc',AA none 0 0⟩);have hbc:prog.built 48 [(0,AB AE r.Au),(1,AB AE r.no),(2,AB AE k),(3,AB AE place),(4,AO (yA holder)),(5,AA CA vs.length cc'),(6,AA DA links.length dc')]=some PP:=by rw [WQ];exact yK _ _ _ _ Zw.o _ _ _ _ _ _
  refine uT 15 89 Xt ?_ (v:=.agg PP) (hv:=fun W _=>Y6 (Fg (congrArg (prog.built 48) AL) hbc));have hb16:AJ Fs CU:=(AHo.trans MZ).trans (Vq.mono MZ.size);have k6f:=KB6.o.below hb16 KB6.o.lt;have hPs:PP.size=39:=by rw [WQ];exact N2 Zw.o
  have hZs:ZZ.size=PP.size:=by rw [dt.o,hPs];rfl
  refine AFZ 16 48 14 89 (w.heap.size+1+1+1+1+1+1) PP 48 ZZ AL rfl rfl rfl rfl AL AL k6f (by rw [hPs];exact iB) hZs (by rw [WQ];exact U0 rfl rfl rfl) (Xt.row (w.heap.size+1+1+1+1+1+1) PP (.inr (.inl rfl))) ?_;refine Cx AL ?_ _;refine ⟨rfl,?_⟩;simp only [Bp,B9]
  -- THE TAIL
  have hzA:=H8.o;have hzB:w8.heap.size<=Fs.heap.size:=AHK;have hzC:=hb16.size;have hzD:Fs.heap.size<=NW.heap.size:=MZ.size;have pC:=Xt.row (w.heap.size+1+1+1+1+1+1) PP (.inr (.inl rfl));have AEH:AZ (CU.setRow (w.heap.size+1+1+1+1+1+1) PP) (w.heap.size+1+1+1+1+1+1) 48 PP:=setRow_heap CU _ ZZ PP _ _ k6f;have AEA:Ag 1 CF (CU.setRow (w.heap.size+1+1+1+1+1+1) PP) (AA CA vs.length cc') vs:=CP (Nz (EX hco Vq) (fun g h1 _=>Gu _ _ _ _ (by have h:Fs.heap.size<=g:=h1;omega))) ⟨hcc.1,hcc.2⟩ rfl;have AEF:Ag 32 CQ (CU.setRow (w.heap.size+1+1+1+1+1+1) PP) (AA DA links.length dc') links:=CP (Nz hdo (fun g h1 _=>Gu _ _ _ _ AG)) (Ik hdc) rfl;have AEB:Ag 32 CQ (CU.setRow (w.heap.size+1+1+1+1+1+1) PP) (AA PA PL.length pc) PL:=CP (Nz (EX HOP.o hb16) (fun g h1 _=>Gu _ _ _ _ AG)) (Ik HPC.o) rfl;have ADQ:AZ (CU.setRow (w.heap.size+1+1+1+1+1+1) PP) (w.heap.size+1+1) 37 #[AA PA PL.length pc]:=(Gu _ _ _ _ AG).trans (KB2.o.below hb16 KB2.o.lt);have ADP:AZ (CU.setRow (w.heap.size+1+1+1+1+1+1) PP) (w.heap.size+1+1+1+1+1+1+1) 50 #[AB AE 0]:=(Gu _ _ _ _ AG).trans (KB7.o.below hb16 KB7.o.lt);have hNV:NewAt (w8.heap.size) (AA CA vs.length cc'):=fun r hr=>by have h:Fs.heap.size<=r:=TC hco r hr;omega
  have hNL:NewAt (w8.heap.size) (AA DA links.length dc'):=fun r hr=>by have h:=TC hdo r hr;omega
  have hNP:NewAt (w8.heap.size) (AA PA PL.length pc):=TC HOP.o;have oh:w8.heap.size<=(CU.setRow (w.heap.size+1+1+1+1+1+1) PP).heap.size:=by rw [setRow_size];omega
  have hwh:=dy.o (CU.setRow (w.heap.size+1+1+1+1+1+1) PP) CA DA none vs.length cc' links.length dc' 0 0 pC.old AG;rw [Zl.o,<-WQ] at hwh;generalize CU.setRow (w.heap.size+1+1+1+1+1+1) PP=w16 at pC AEH AEA AEF AEB ADQ ADP oh hwh ⊢;have HPP:=AF WQ;have HPS:AI ((prog.info? 48).map (·.size)=some PP.size):=AF (by rw [hPs];exact iB);obtain ⟨AKz,AEs,AIM,AIh,AKm,AIF,AIE,HNV,Sn,qg,HWF,AKY⟩:=RG pC AEH AEA AEF AEB ADQ ADP hNV hNL hNP hwh oh;obtain ⟨eJ,qj⟩:=Aj hlx hl4;obtain ⟨d0,d1,d2,d3,d4,d5,d6⟩:=HTM.o w16 pC;clear pC AEH AEA AEF AEB ADQ ADP hNV hNL hNP hwh oh WQ hPs hZs hbc hco hcc hdo hdc hS hS7 Xt AHo MZ Vq hb16 k6f AHK hzB hzC hzD e7 hlx hl4 oq;refine Iv (Iv (Gk (n:=1) (Dq.2 ?_)));go_wp2_with (first
   | (refine Cm rfl 48 (AY 14) rfl (w.heap.size+1+1+1+1+1+1) AL 48 PP (0,0) _ AEs.o underlying48 rfl HPS.o ?_)
   | (
    go_at_call 44;refine HWF.o.mono ?_;rintro e nI ⟨F,L,rfl,hF,hL,gg,hNF,hNM⟩;obtain ⟨FA,fc,rfl⟩:=hF.form;obtain ⟨MA,mc,rfl⟩:=hL.form;obtain ⟨X,hX⟩:=Ab (I9 ⟨r.Au,r.no,k,place,holder,AA FA (upto x).length fc,AA CA vs.length cc',0,zeros 32,AA none 0 0,AA MA (upto 4).length mc,AA DA links.length dc',(x:Int)+4+1,(x:Int)+4⟩);rw [<-hX];obtain ⟨HX,ALF,AK2,q7,Hm,eI⟩:=FR hX hF hL gg hNF hNM;clear hX hF hL gg hNF hNM)
   | (go_at_call 49;refine (ADI HX.o _).mono ?_;rintro e MP ⟨rfl,rfl⟩)
   | fail)
  obtain ⟨k18,b18,s18⟩:=bx nI X 88;generalize (nI.alloc (AQ X 88))=MP at k18 b18 s18 ⊢;obtain ⟨g,hg⟩:=Ab nI.heap.size;rw [<-hg] at k18 s18 ⊢;have gZ:AJ w16 MP:=AW q7.o b18;have hm18:=AKz.o.below gZ;have oh:=AKY.o;have AJi:=q7.o.size;have hzA:=H8.o;obtain ⟨ms,hms⟩:=Ab (Fo Aq x (PE r place holder links vs));have AMy:(k:Int)<=9223372036854775807:=by have:=HS.o.le;omega
  have hseq:yU Fence.wide 2 prog 72 #[AU (some ⟨g,0,none⟩)] uQ TB (KX MP.heap.size (w.heap.size+1+1+1+1+1+1) g) (GM ms) (fun xs=>xs=ms) MP:=by
   have h:=uO 2 MP.heap.size (w.heap.size+1+1+1+1+1+1) g ⟨r.Au,r.no,k,place,holder,AA FA (upto x).length fc,AA CA vs.length cc',0,zeros 32,AA none 0 0,AA MA (upto 4).length mc,AA DA links.length dc',(x:Int)+4+1,(x:Int)+4⟩ FA CA MA DA _ fc _ cc' _ mc _ dc' (upto x) vs (upto 4) links MP rfl rfl rfl rfl
    (fun W hk=>⟨(ALF.o.mono BU b18).kx Iz Hm.o AG (Ad _) hk,(AIM.o.mono BU gZ).kx Iz HNV.o AG (Ad _) hk,(AK2.o.mono BU b18).kx Iz eI.o AG (Ad _) hk,(AIh.o.mono BL gZ).kx Iz Sn.o AG (Ad _) hk⟩)
    (by rw [<-HX.o];exact k18) Zw.o rfl (Ad _) (by rw [Ht,eJ.o];exact Ad _) (by rw [Ht,qj.o];exact Ad _) (by show EZ (k:Int);unfold EZ;omega)
    (by show 0<=place/\place<=1000;omega) bj bh (VL AG) (VL AG) (Hk.o.below hm18.old)
   rw [hms,Fo,PE,Zl.o];exact h
  have Zq:AI (∀m∈ms,m.2.length=32/\∀z∈m.2,0<=z/\z < 256):=AF (by rw [hms];exact oN);have Zp:AI (ms.length=x+5):=AF (by rw [hms];exact QU eJ.o qj.o);have AIW:AI ((PL.length:Int)=r.places*((x:Int)+4+1)):=AF (by rw [WZ.o,SH];omega);have ju:AI (∀(j:Nat) (m:Int×AP),ms[j]? =some m->0<=m.1/\m.1.toNat < PL.length):=AF (fun j m hj=>by rw [hms] at hj;obtain ⟨h1',h2'⟩:=ic (c:=PE r place holder links vs) eJ.o qj.o hj;have h3':m.1=place*((x:Int)+4+1)+j:=h2';have h5':(place+1)*((x:Int)+4+1)<=r.places*((x:Int)+4+1):=OL AG AG;have h6':0<=place*((x:Int)+4+1):=JH h1 AG;have TJ:=AIW.o;rw [Int.add_mul,Int.one_mul] at h5';omega)
  have AIX:AI (PL.length<=256):=AF (by have:=AIW.o;have:=HP2.o;omega);obtain ⟨sg,hsg⟩:∃sg:Int×AP->Cd,sg=fun m=>QI Aq seed PL m.1.toNat m.2:=⟨_,rfl⟩;obtain ⟨q,hq⟩:=Ab (⟨r.Au,r.no,k,place,holder,AA CA vs.length cc',AA DA links.length dc',AA none 0 0⟩:Tg);have ZX:q.holder.length=32:=by rw [hq];exact Zw.o
  have HI0:AI (YE MP.heap.size g ms sg q w MP [] MP):=AF ⟨rfl,Ar _,KX.refl _ _ _ _,hm18.old,none,0,[],List.range MP.heap.size,fun b hb=>by rw [Ef];omega,by
   have h:=AEs.o.below gZ AEs.o.lt;rw [HPP.o] at h;rw [hq];exact h,⟨ED _ _ _ _,fun r hr=>absurd hr NS,fun b hb=>Ef.1 hb,by rw [Ef];omega,Ao.nil⟩⟩
  obtain ⟨yZ,YM,HSG,HQ,Sl,AKy,YT⟩:=LW hseq hms hsg hq ZX hm18 gZ;have yq:AI (MP.heap.size=g+1/\w.heap.size+8<=g):=AF ⟨s18,by omega⟩;have KG:=AF k18;clear hseq hms hsg hq ZX hm18 gZ hg k18 b18 oh AJi hzA s18 d0 d1 d2 d3 d4 d5 d6;refine VK ?_;refine AAp fun L hL=> ?_;refine Tj rfl (gf:=72) (lb:=#[AU (some ⟨g,0,none⟩)]) (by rw [hL];rfl) (enters_of func72 AL rfl) yZ.o (fun _=>rfl) ms.length
   (YE MP.heap.size g ms sg q w MP) (fun _ _=>False)
   (fun s A C h t=>h.below (Ad _) Lk t) (fun s A C h b=>h.book b (Ad _) Lk Lk Lk) (fun s A h=>h.le) (fun A C h=>h.others) (fun A B C h k=>h.trans k) (fun W l o o' hl _ _=>KX.put W o' hl Lk)
   HI0.o (fun y a' W=>∃Bx,(MP.heap.size<=Bx/\AZ W Bx 34 (yA y.2))/\a'=⟨((((L.set 94 (AB AE y.1)).set 95 (AO (yA y.2))).set 16 (AB AE y.1)).set 17 (AU (some ⟨Bx,0,none⟩))).toArray,[]⟩)
   (fun y a' A C h b=>by obtain ⟨Bx,⟨h1,h2⟩,h3⟩:=h;exact ⟨Bx,⟨h1,F6 h2 b⟩,h3⟩) ?assign ?body ?done ?pan
  case pan=>exact fun _ _ _ _ h _=>h.elim
  case assign=>
   rintro l pre y W hI hG hsz;subst hL;have hyl:=(Zq.o y (Ci hG.2)).1;have hzb:=Ir W 34;obtain ⟨CV,Zk,HI⟩:=Az Du hyl hI;clear hI hG hyl
   dsimp only [uQ]
   gi_wp2_with (refine JV rfl 34 (AY 17) (AY 95) rfl W.heap.size y.2 rfl rfl 34 (yA (zeros 32)) hzb.1 CV.o EO Zk.o ?_;intro w7 k7 hb7 DZ)
   have hbW:=((Af W.heap.size W).alloc (Ad _) _).trans hb7;exact ⟨(KeepsOthers.alloc _ _).trans (TE.others ⟨DZ,_,_,_,hzb.1⟩),(KX.refl _ _ _ _).below hbW AG Lk,HI.o.below (Ad _) Lk hbW,by omega⟩
  case body=>
   rintro l pre y a' W hI hG ⟨Bx,⟨hBx,hbx⟩,rfl⟩ hsz;subst hL;simp only [Bp,B9];have hpl:pre.length < ms.length:=(BA.1 hG.2).1;obtain ⟨hyl,uV⟩:=Zq.o y (Ci hG.2);obtain ⟨hy0,hy1⟩:=ju.o _ _ hG.2;obtain ⟨RA,rc,cs,S,hSO,hE,hR⟩:=hI.row;have k1:AZ W (w.heap.size+1) 34 (yA seed):=by rw [<-Lr.o];exact (hI.kx.same _ Lk AG).trans AKy.o.sd
   have k2:AZ W (w.heap.size+1+1) 37 #[AA PA PL.length pc]:=(hI.kx.same _ Lk AG).trans (AIF.o.below YT.o AIF.o.lt);have hsw:AS prog 50 #[AO (yA seed),AA PA PL.length pc,AB AE y.1,AO (yA y.2)] W (AFl (sg y) W):=by have h:=nT seed y.2 PA PL.length pc y.1.toNat PL W HSL.o hyl uV AIX.o hy1 (Hk.o.below hI.old) ((AKm.o.mono BL YT.o).kx Iz qg.o (by have:=yq.o;have:=H8.o;omega) (Ad _) hI.kx);rw [Yi hy0] at h;rw [HSG.o];exact h
   have c2:=k2.cell 0;simp only [Ai,An] at c2;obtain ⟨CV,Zk⟩:=Aj Du hyl;obtain ⟨j0,z0,hj⟩:=Vg;obtain ⟨HJ,K1,KBX,WX,HI,HG,HE,jk,HR,iU⟩:=bw hj k1 hbx hsw hI hG hE hSO hR hpl;clear hpl hyl uV hy0 hy1 hE hR hSO k1 k2 hsw hbx hI hG hj
   gi_wp2_with (first
    | (refine Ih rfl 34 (AY 8) rfl (w.heap.size+1) seed rfl 34 _ K1.o underlying34 rfl CV.o HSL.o ?_)
    | (refine Ih rfl 34 (AY 17) rfl Bx y.2 rfl 34 _ KBX.o underlying34 rfl CV.o Zk.o ?_)
    | (
     refine ⟨trivial,(CallsIn.inRound l (Ey.2 WX.o)).mono ?_⟩;rintro e w5 ⟨v1,cs1,v2,cs2,rfl,ho1,hc1,ho2,hc2,hb5⟩;obtain ⟨A1,c1,rfl⟩:=Bz ho1;obtain ⟨A2,c2',rfl⟩:=Bz ho2;have kE5:=HE.o.below hb5 HE.o.lt;have c5:=(Nh kE5 Sl.o).claims;have f5:=kE5.frozen 38;have l5:=kE5.lt;have hS5:∀b∈S,b < W.heap.size:=HR.o.lt;have jy:AI (∀o,Dc (veil S ((w5.alloc o).alloc o)) [AB AE (sg y).index,AA A1 (sg y).chains.length c1,AA A2 (sg y).path.length c2'] (sg y)):=AF (fun o=>ADL hS5 ho1 hc1 ho2 hc2 (((Af _ _).alloc (Ad _) o).alloc Ac o));have HR6:AI (∀o,Jj MP.heap.size 62 3 Dc (w.heap.size+1+1+1+1+1+1) (AA RA pre.length rc) (pre.map sg) ((w5.alloc o).alloc o) cs S):=AF (fun o=>(HR.o.below CD hb5).below CD (((Af _ _).alloc (Ad _) o).alloc Ac o));have Qp:AI (∀o,((w5.alloc o).alloc o).ownsRow MP.heap.size 62 3 (AA RA pre.length rc) pre.length cs):=AF (fun o=>by have h:=(HR6.o o).own;rw [CX] at h;exact h)
     obtain ⟨CW,KE5⟩:=Aj hb5 kE5;have AMr:pre.length < 4294967296:=by have:=iU.o;have:=Zp.o;omega
     have HZ5:AI (MP.heap.size+2<=w5.heap.size):=AF (BF hsz hb5.size);have jl:AI (∀o,MP.heap.size<=((w5.alloc o).alloc o).heap.size):=AF (fun o=>by have:=HZ5.o;rw [Eg,Eg];omega)
     have j5:AI (some (w.heap.size+1+1+1+1+1+1)≠(Value.slice RA pre.length rc).ownBlock):=AF (Da (Qp.o (AQ #[] 0)) Lk);have H63:AI (pre.length+1<=maxLen):=AF Gj;have YR:AI ((pre.length+1)*56<=140737488355328):=AF AG;clear ho1 hc1 ho2 hc2 hb5 kE5 hS5)
    | (
     gi_at_builtin
     refine wpListIn_append_own_at _ rfl (AY 109) (AY 111) 42 rfl MP.heap.size 62 j0 z0 3 56 underlying42 HJ.o.1 HJ.o.2.1 HJ.o.2.2.2.1 HJ.o.2.2.2.2 HJ.o.2.2.1 BE _ _ _ rfl (Qp.o _) ⟨w5.heap.size+1,0,none⟩ 1 1 [AB AE (sg y).index,AA A1 (sg y).chains.length c1,AA A2 (sg y).path.length c2'] rfl rfl AJf (ll _ _ _ _ _ _ _) H63.o YR.o (jl.o _) ?_;intro v' w7 GL DZ _ O7;obtain ⟨A',c',rfl⟩:=Bz GL;have kE7:=((KE5.o.alloc _).alloc _).grown DZ j5.o;have c7:=(Nh kE7 Sl.o).claims;have f7:=kE7.frozen 38;have l7:=kE7.lt;obtain ⟨qe,HG7,ALU⟩:=Az GL DZ O7;clear GL DZ O7 kE7)
    | fail)
   have AM1:=HZ5.o;have hgg:=yq.o;have hpush:=HI.o.push HG.o Sl.o (w6:=(w5.alloc _).alloc _) (((KX.refl _ _ _ _).below CW.o AG AG).below ((BP _ _).alloc Ac _) AG AG) ((AW HI.o.old CW.o).trans ((((Af w5.heap.size w5).alloc (Ad _) _).alloc Ac _).mono (BF HI.o.old.size CW.o.size))) jk.o ((KE5.o.alloc _).alloc _) (HR6.o _) BX AG AG qe.o HG7.o ALU.o rfl (jy.o _);exact ⟨(((TB.others CW.o).trans (KeepsOthers.alloc _ _)).trans (KeepsOthers.alloc _ _)).trans ((cx (Qp.o _) HG7.o).trans (KeepsOthers.setCell _ _ _)),hpush.1,hpush.2⟩
  rintro D ys W hD rfl hI hdf;subst hL;obtain ⟨A',c',cs,S,hSO,hE,hR⟩:=hI.row;have k7:AZ W (w.heap.size+1+1+1+1+1+1+1) 50 #[AB AE 0]:=(hI.kx.same _ Lk AG).trans (AIE.o.below YT.o AIE.o.lt);obtain ⟨CL,hCL⟩:∃CL,CL=Hf {q with claims:=AA A' ys.length c'}:=⟨_,rfl⟩;rw [<-hCL] at hE;have Sp:AI ((prog.info? 48).map (·.size)=some CL.size):=AF (by rw [hCL,N2 (by exact Sl.o)];exact iB);have HCO:AI (CL.all (·.oneCell')=true):=AF (by rw [hCL,HQ.o];exact U0 rfl rfl rfl);have e7:=k7.cell 0;have f7:=k7.frozen 0;have l7:=k7.lt;simp only [Ai,An] at e7;obtain ⟨KE,K7,HI,HR,YP,HD,Sr⟩:=LW hE k7 hI hR hdf hD hCL;clear hE k7 hI hR hdf hD hCL;refine Gk (n:=1) (Dq.2 ?_);go_wp2_with (first
   | (refine Cm rfl 48 (AY 14) rfl (w.heap.size+1+1+1+1+1+1) AL 48 CL (0,0) _ KE.o underlying48 rfl Sp.o ?_)
   | (refine wpList_store_rowTo rfl 48 (AY 14) (AY 114) rfl rfl (w.heap.size+1+1+1+1+1+1) CL rfl rfl 48 CL KE.o Sp.o rfl HCO.o ?_;rw [OC _ _ _ _ _ KE.o])
   | fail)
  have hself:W.setCell ⟨w.heap.size+1+1+1+1+1+1+1,0,none⟩ (AB AE 0)=W:=by rw [setCell_eq_setRow W (w.heap.size+1+1+1+1+1+1+1) 0 _ _ _ _ K7.o];exact OC _ _ _ _ _ K7.o
  rw [hself];have hB:Book MP.heap.size W (W.putObj D (.deferred none)):=Book.put _ _ _ HD.o YP.o rfl;have hmk:FV 0 (some x) (val r.schema) r place links xs vs=true:=by have:=NJ.o;have:=qj.o;simp only [FV,BZ,Bw];exact ⟨⟨⟨⟨⟨⟨trivial,NJ.o⟩,h1⟩,h2⟩,qj.o⟩,h4⟩,hac⟩
  refine ⟨by simp,.inl ⟨_,_,rfl,run_takeDeferred YP.o,?_⟩⟩;refine ⟨_,XR (h:=w.heap.size+1+1+1+1+1+1+1) rfl rfl rfl (F6 KE.o hB) underlying48 rfl Sp.o (QZ ((F6 K7.o hB).cell 0)),?_⟩;have hzw:w.heap.size<=w8.heap.size:=Cg.o.size;have hV:=(((AIM.o.mono BU YT.o).kx Iz HNV.o (by have:=H8.o;omega) (Ad _) HI.o.kx).Se Vi hB.size (fun _ _ h=>X5 hB h)).AFX Iz HNV.o hzw;have hLk:=(((AIh.o.mono BL YT.o).kx Iz Sn.o (by have:=H8.o;omega) (Ad _) HI.o.kx).Se PB hB.size (fun _ _ h=>X5 hB h)).AFX Iz Sn.o hzw;have hC0:=(CP (R5 (S:=List.range w.heap.size) HR.o.own (fun b hb=>by rw [Ef] at hb;have:=yq.o;omega)) ⟨HR.o.els.1,fun i x hi=>L8 _ _ _ _ mX (fun _ _=>Z1 (fun b hb=>hSO b (Ef.1 hb))) (HR.o.els.2 i x hi)⟩ rfl);have hC:=hC0.Se L8 (by rw [Dz,Dz];exact hB.size) (fun _ _ h=>ig hB h);have ec:ys.map sg=(Ij Aq seed x r place holder links vs).claims:=by rw [YM.o,HSG.o,WZ.o];rfl
  rw [ec] at hC;rw [I5.o hmk,Sr.o,HQ.o];refine ⟨CA,vs.length,cc',DA,links.length,dc',A',ys.length,c',?_,hV,hLk,hC,Below.book HI.o.old hB Lk⟩;simp only [Ij,PE,Zl.o]
attribute [local go_sem] Oper.semAt_some
theorem nr {P:BB} {fn:Func} {tmps:Array AK} {p q:Tmp} {ty t:Ae} {ds:TypeDesc} {cs:Array AK} {v:AK} {g:Nat} {w:AH} (hr:fn.results=#[.cell p ty,.tmp q]) (hp:tmps.getD p undef=AU (some ⟨g,0,none⟩)) (hq:tmps.getD q undef=v) (hg:AZ w g t cs) (hu:P.underlying ty=some ds) (hds:(match ds with | .struct _ | .array _ _=>true | _=>false)=true) (hi:(P.info? ty).map (·.size)=some cs.size):
 (results fn tmps).run P w=.ok (BS #[.agg cs,v]) w:=by
 have hp':tmps[p]?.getD undef=AU (some ⟨g,0,none⟩):=by simpa using hp
 have hq':tmps[q]?.getD undef=v:=by simpa using hq
 simp [results,hr,hp',hq',asAddr,run_loadVar_row w g t ty cs (0,0) ds hg hu hds hi]
theorem jF {ns:List Nat} {sc:Int} {x:Nat} (h:Bt ns sc=some x):∃k:Nat,sc=k/\ns[k]? =some x:=by
 unfold Bt at h;by_cases h0:0<=sc
 ·rw [Am h0] at h
  exact ⟨sc.toNat,(Yi h0).symm,h⟩
 rw [Ah h0] at h;cases h
theorem IK.outer {w W w' w'':AH} {q:Ge} {e0:Int} {VA LA KA:Option Aa} {vn vc ln lc kn kc g:Nat} (h1:Ag 1 CF (R4 W.heap.size w') (AA VA vn vc) q.values) (h2:Ag 32 CQ (R4 W.heap.size w') (AA LA ln lc) q.links) (h3:Ag 3 Dc (R4 W.heap.size w') (AA KA kn kc) q.claims)
 (hg:w'.grownBy w'' (some g)) (hgB:g < W.heap.size) (hw:w.heap.size<=W.heap.size) (hb:AJ w w''):IK w q e0 (AV (BS #[AO (Hf ⟨q.Au,q.round,q.schema,q.place,q.holder,AA VA vn vc,AA LA ln lc,AA KA kn kc⟩),AB AE e0])) w'':=
 ⟨VA,vn,vc,LA,ln,lc,KA,kn,kc,rfl,h1.cM BU Vi hg hgB hw,h2.cM BL PB hg hgB hw,h3.cM CD L8 hg hgB hw,hb⟩
theorem aJ (v0 v1 v3 v4 v5 v6:AK) (A:Option Aa) (n c:Nat) (ns:List Nat) (ck:Int) (val:Int->Int->Int->Bool) (seed:AP) (r:CS) (place pe it xs xp xi:Int) (holder:AP) (links:List (AP)) (vs:AP) (VA LA:Option Aa) (vn vc ln lc:Nat) (w:AH) (hs:Ag 6 LG w (AA A n c) ns)
 (hK:Qm (AO #[v0,v1,AA A n c,v3,v4,v5]) (AO #[v0,v1,AA A n c,v3,v4,v5,v6]) ck val w) (hv:Ag 1 CF w (AA VA vn vc) vs) (hl:Ag 32 CQ w (AA LA ln lc) links) (hsd:seed.length=32) (hh:holder.length=32) (hro:r.root.length=32) (MJ:Cc w):
 AS prog 7 #[AO #[v0,v1,AA A n c,v3,v4,v5,v6],AO (yA seed),AO (rdA r),AB AE place,AO (Qc pe it holder (AA LA ln lc)),AO #[AB AE xs,AB AE xp,AB AE xi,AA VA vn vc]] w
  (if FV ck (Bt ns r.schema) (val r.schema) r place links xs vs=true then IK w (Ij Aq seed ((Bt ns r.schema).getD 0) r place holder links vs) 0 else IK w Gd (dJ ck)):=by
 obtain ⟨R,hR⟩:∃R,R=(if FV ck (Bt ns r.schema) (val r.schema) r place links xs vs=true then IK w (Ij Aq seed ((Bt ns r.schema).getD 0) r place holder links vs) 0 else IK w Gd (dJ ck)):=⟨_,rfl⟩;obtain ⟨RR,hRR⟩:=Ab (rdA r);obtain ⟨OO,PS⟩:=Ab (Qc pe it holder (AA LA ln lc));obtain ⟨SD,hSD⟩:=Ab (yA seed);obtain ⟨ZZ,dW⟩:=Ab (Hf ⟨0,0,0,0,zeros 32,AA none 0 0,AA none 0 0,AA none 0 0⟩);rw [<-hR,<-hRR,<-PS,<-hSD];have PI:AI ((prog.info? 36).map (·.size)=some RR.size):=AF Ww;have YJ:AI ((prog.info? 39).map (·.size)=some OO.size):=AF fM;have Q8:AI ((prog.info? 34).map (·.size)=some SD.size):=AF (by rw [hSD,Bb,hsd];kernel_rfl);have HZI:AI ((prog.info? 48).bind (·.zero)=some (.agg ZZ)):=AF QP;have Qn:AI ((prog.info? 48).map (·.size)=some ZZ.size):=AF QP;have HZO:AI (ZZ.all (·.oneCell')=true):=AF QP;have Mr:AI (∀W,AJ w W->AS prog 17 #[AO #[v0,v1,AA A n c,v3,v4,v5,v6]] W fun e w'=>e=AV (AB AE ck)/\AJ W w'):=AF hK.chk;have NJ:AI (∀W,AJ w W->AS prog 22 #[AO #[v0,v1,AA A n c,v3,v4,v5,v6],.agg RR] W fun e w'=>e=AV (.bool (GR (Bt ns r.schema) r.places))/\AJ W w'):=AF (fun W hW=>by rw [hRR];exact mF);have PX:AI (∀x k W,AJ w W->r.schema=(k:Nat)->ns[k]? =some x->ck=0->GR (Bt ns r.schema) r.places=true->AS prog 23 #[AO #[v0,v1,AA A n c,v3,v4,v5,v6],.agg SD,AA none 0 0,.agg RR,AB AE place,.agg OO,AO #[AB AE xs,AB AE xp,AB AE xi,AA VA vn vc]] W fun e w'=>∃q e0,IK W q e0 e w'/\q.holder.length=32/\∀w1 e1 w2,IK w1 q e0 e1 w2->w1=w->R e1 w2):=AF (fun x k W hW h1 h2 h3 h4=>by
  have hn:Bt ns r.schema=some x:=by rw [h1,Bt,Am AG,CZ];exact h2
  rw [hn] at h4;rw [hSD,hRR,PS];refine (oQ v0 v1 v3 v4 v5 v6 A n c ns ck val seed r place pe it xs xp xi holder links vs VA LA vn vc ln lc x k W (hs.mono FI hW) (hK.below hW) (hv.mono BU hW) (hl.mono BL hW) hsd hh hro (MJ.below hW) h2 h1 h4).mono ?_;intro e w' h;rw [hR,hn,h3];by_cases hm:FV 0 (some x) (val r.schema) r place links xs vs=true
  ·rw [Am hm] at h
   exact ⟨_,_,h,hh,fun w1 e1 w2 hr hw=>by rw [Am hm];rw [hw] at hr;exact hr⟩
  rw [Ah hm] at h;exact ⟨_,_,h,rfl,fun w1 e1 w2 hr hw=>by rw [Ah hm];rw [hw] at hr;exact hr⟩)
 have Cl:AI (¬(ck=0/\GR (Bt ns r.schema) r.places=true)->∀w2,AJ w w2->R (AV (BS #[.agg ZZ,AB AE (dJ ck)])) w2):=AF (fun h w2 hb=>by rw [hR,Ah (fun hm=>h (by simp only [FV,BZ,Bw] at hm;exact ⟨hm.1.1.1.1.1.1,hm.1.1.1.1.1.2⟩)),dW];exact zP)
 clear hs hK hv hl hsd hh hro MJ hR hRR PS hSD dW;go_enter func7,ntmps7;go_upto_region 1 with (first | (refine Di rfl 48 rfl ZZ HZI.o ?_) | fail);obtain ⟨k1,b1,s1⟩:=bx w #[v0,v1,AA A n c,v3,v4,v5,v6] 32;generalize (w.alloc (AQ #[v0,v1,AA A n c,v3,v4,v5,v6] 32))=w1 at k1 b1 s1 ⊢;obtain ⟨k2,b2,s2⟩:=bx w1 SD 34;generalize (w1.alloc (AQ SD 34))=w2 at k2 b2 s2 ⊢;rw [s1] at k2 b2 s2;obtain ⟨k3,b3,s3⟩:=bx w2 RR 36;generalize (w2.alloc (AQ RR 36))=w3 at k3 b3 s3 ⊢;rw [s2] at k3 b3 s3;obtain ⟨k4,b4,s4⟩:=bx w3 OO 39;generalize (w3.alloc (AQ OO 39))=w4 at k4 b4 s4 ⊢;rw [s3] at k4 b4 s4;obtain ⟨k5,b5,s5⟩:=bx w4 #[AB AE xs,AB AE xp,AB AE xi,AA VA vn vc] 41;generalize (w4.alloc (AQ #[AB AE xs,AB AE xp,AB AE xi,AA VA vn vc] 41))=w5 at k5 b5 s5 ⊢;rw [s4] at k5 b5 s5;obtain ⟨k6,b6,s6⟩:=bx w5 ZZ 48;generalize (w5.alloc (AQ ZZ 48))=w6 at k6 b6 s6 ⊢;rw [s5] at k6 b6 s6;have Cg:AI (AJ w w6):=AF (((((b1.trans (b2.mono AG)).trans (b3.mono AG)).trans (b4.mono AG)).trans (b5.mono AG)).trans (b6.mono AG));have H6:AI (w6.heap.size=w.heap.size+1+1+1+1+1+1):=AF AG;have HE:AI (∀W,AJ w6 W->AZ W w.heap.size 32 #[v0,v1,AA A n c,v3,v4,v5,v6]/\AZ W (w.heap.size+1) 34 SD/\AZ W (w.heap.size+1+1) 36 RR/\AZ W (w.heap.size+1+1+1) 39 OO/\AZ W (w.heap.size+1+1+1+1) 41 #[AB AE xs,AB AE xp,AB AE xi,AA VA vn vc]/\AZ W (w.heap.size+1+1+1+1+1) 48 ZZ):=AF (fun W hW=>
  ⟨(((((k1.below b2 AG).below b3 AG).below b4 AG).below b5 AG).below b6 AG).below hW AG,((((k2.below b3 AG).below b4 AG).below b5 AG).below b6 AG).below hW AG,(((k3.below b4 AG).below b5 AG).below b6 AG).below hW AG,((k4.below b5 AG).below b6 AG).below hW AG,(k5.below b6 AG).below hW AG,k6.below hW AG⟩)
 have HC:AI (∀W,AJ w6 W->(W.cell? ⟨w.heap.size,0,none⟩=some v0/\W.cell? ⟨w.heap.size,1,none⟩=some v1/\W.cell? ⟨w.heap.size,2,none⟩=some (AA A n c)/\W.cell? ⟨w.heap.size,3,none⟩=some v3/\W.cell? ⟨w.heap.size,4,none⟩=some v4/\W.cell? ⟨w.heap.size,5,none⟩=some v5/\W.cell? ⟨w.heap.size,6,none⟩=some v6)/\W.cell? ⟨w.heap.size+1+1+1+1,0,none⟩=some (AB AE xs)/\W.cell? ⟨w.heap.size+1+1+1+1,1,none⟩=some (AB AE xp)/\W.cell? ⟨w.heap.size+1+1+1+1,2,none⟩=some (AB AE xi)/\W.cell? ⟨w.heap.size+1+1+1+1,3,none⟩=some (AA VA vn vc)):=AF (fun W hW=>by obtain ⟨b,_,_,_,i,_⟩:=HE.o W hW;exact ⟨⟨b.cell 0,b.cell 1,b.cell 2,b.cell 3,b.cell 4,b.cell 5,b.cell 6⟩,i.cell 0,i.cell 1,i.cell 2,i.cell 3⟩)
 clear k1 b1 s1 k2 b2 s2 k3 b3 s3 k4 b4 s4 k5 b5 s5 k6 b6 s6;obtain ⟨⟨d0,d1,d2,d3,d4,d5,d6⟩,_⟩:=HC.o w6 (Af _ _);by_cases hck:ck=0
 rotate_left
 ·have hcf:(ck==0)=false:=JK hck
  obtain ⟨HN,vE⟩:=Aj (Cl.o (fun h=>hck h.1)) hck;go_wp2_with (first
   | (go_at_call 17;refine (Mr.o _ Cg.o).mono ?_;rintro e w7 ⟨rfl,hb7⟩;have ET:=AF hb7;have K7:=AF (HE.o w7 hb7).2.2.2.2.2;clear hb7)
   | (refine Cm rfl 48 (AY 12) rfl (w.heap.size+1+1+1+1+1) AL 48 ZZ (0,0) _ K7.o underlying48 rfl Qn.o ?_)
   | (refine wpList_store_rowTo rfl 48 (AY 12) (AY 17) rfl rfl (w.heap.size+1+1+1+1+1) ZZ rfl rfl 48 ZZ K7.o Qn.o rfl HZO.o ?_;rw [OC _ _ _ _ _ K7.o])
   | fail)
  refine E8 (nr rfl rfl rfl K7.o underlying48 rfl Qn.o) rfl ?_;have h:=HN.o w7 (AW Cg.o ET.o);rw [dJ,Ah vE.o] at h;exact h
 subst hck;cases hft:GR (Bt ns r.schema) r.places with
 |
  false=>
  rw [hft] at NJ Cl;have HN:=AF (Cl.o (fun h=>by cases h.2));go_wp2_with (first
   | (go_at_call 17;refine (Mr.o _ Cg.o).mono ?_;rintro e w7 ⟨rfl,hb7⟩;have ET:=AF hb7;have KR:=AF (HE.o w7 hb7).2.2.1;obtain ⟨⟨d0,d1,d2,d3,d4,d5,d6⟩,_⟩:=HC.o w7 hb7;clear hb7)
   | (refine Cm rfl 36 (AY 8) rfl (w.heap.size+1+1) AL 36 RR (0,0) _ KR.o underlying36 rfl PI.o ?_)
   | (go_at_call 22;refine (NJ.o _ (AW Cg.o ET.o)).mono ?_;rintro e w8 ⟨rfl,hb8⟩;have Je:=AF (AW ET.o hb8);have K8:=AF (HE.o w8 Je.o).2.2.2.2.2;clear hb8)
   | (refine Cm rfl 48 (AY 12) rfl (w.heap.size+1+1+1+1+1) AL 48 ZZ (0,0) _ K8.o underlying48 rfl Qn.o ?_)
   | (refine wpList_store_rowTo rfl 48 (AY 12) (AY 22) rfl rfl (w.heap.size+1+1+1+1+1) ZZ rfl rfl 48 ZZ K8.o Qn.o rfl HZO.o ?_;rw [OC _ _ _ _ _ K8.o])
   | fail)
  refine E8 (nr rfl rfl rfl K8.o underlying48 rfl Qn.o) rfl ?_;exact HN.o w8 (AW Cg.o Je.o)
 |
  true=>
  obtain ⟨x,hnf,_⟩:=NB hft;obtain ⟨k,hk,hx⟩:=jF hnf;have HM:=AF (fun W hW=>PX.o x k W hW hk hx rfl hft);rw [hft] at NJ;clear hnf hk hx PX Cl;go_wp2_with (first
   | (go_at_call 17;refine (Mr.o _ Cg.o).mono ?_;rintro e w7 ⟨rfl,hb7⟩;have ET:=AF hb7;have KR:=AF (HE.o w7 hb7).2.2.1;obtain ⟨⟨d0,d1,d2,d3,d4,d5,d6⟩,_⟩:=HC.o w7 hb7;clear hb7)
   | (refine Cm rfl 36 (AY 8) rfl (w.heap.size+1+1) AL 36 RR (0,0) _ KR.o underlying36 rfl PI.o ?_)
   | (
    go_at_call 22;refine (NJ.o _ (AW Cg.o ET.o)).mono ?_;rintro e w8 ⟨rfl,hb8⟩;have Je:=AF (AW ET.o hb8);clear hb8;have KS:=AF (HE.o w8 Je.o).2.1;have KR8:=AF (HE.o w8 Je.o).2.2.1;have KO:=AF (HE.o w8 Je.o).2.2.2.1;obtain ⟨⟨d0,d1,d2,d3,d4,d5,d6⟩,i0,i1,i2,i3⟩:=HC.o w8 Je.o)
   | (refine Cm rfl 34 (AY 7) rfl (w.heap.size+1) AL 34 SD (0,0) _ KS.o underlying34 rfl Q8.o ?_)
   | (refine Cm rfl 36 (AY 8) rfl (w.heap.size+1+1) AL 36 RR (0,0) _ KR8.o underlying36 rfl PI.o ?_)
   | (refine Cm rfl 39 (AY 10) rfl (w.heap.size+1+1+1) AL 39 OO (0,0) _ KO.o underlying39 rfl YJ.o ?_)
   | (
    go_at_call 23;refine (HM.o _ (AW Cg.o Je.o)).mono ?_;rintro e w9 ⟨q,e0,⟨U5,vn',MQ,LA',ln',uR,MK,kn',MH,rfl,s1,s2,s3,O6⟩,ZX,hfin⟩;obtain ⟨QQ,dX⟩:=Ab (Hf ⟨q.Au,q.round,q.schema,q.place,q.holder,AA U5 vn' MQ,AA LA' ln' uR,AA MK kn' MH⟩);rw [<-dX];have LL:=AF (AW Je.o O6);have K9:=AF (HE.o w9 LL.o).2.2.2.2.2;obtain ⟨S1,S2,S3,NR,HQQ⟩:=EG s1 s2 s3 hfin dX;have uY:QQ.size=39:=by rw [HQQ.o];exact N2 ZX
    have VD:AI ((prog.info? 48).map (·.size)=some QQ.size):=AF (by rw [uY];exact iB);have HZQ:AI (ZZ.size=QQ.size):=AF (by rw [uY];exact (FO (iB.symm.trans Qn.o)).symm);have HQO:AI (QQ.all (·.oneCell')=true):=AF (by rw [HQQ.o];exact U0 rfl rfl rfl);clear O6 s1 s2 s3 hfin dX ZX uY)
   | (refine wpList_store_rowTo rfl 48 (AY 12) (AY 30) rfl rfl (w.heap.size+1+1+1+1+1) QQ rfl rfl 48 ZZ K9.o VD.o HZQ.o HQO.o ?_)
   | fail)
  refine E8 (nr rfl rfl rfl (K9.o.row _) underlying48 rfl VD.o) rfl ?_;rw [HQQ.o];have h6:=H6.o;have h8:=Je.o.size;exact NR.o _ _ _ (IK.outer (g:=w.heap.size+1+1+1+1+1) S1.o S2.o S3.o ⟨rfl,rfl,rfl,by simp [World.setRow],fun k hk hne=>Gu _ _ k _ (fun e=>hne M1)⟩ AG (BF Cg.o.size h8) (below_setRow (AW Cg.o LL.o) AG _)) rfl
attribute [local go_sem] Oper.semAt_some
theorem ABM {tmps:Array AK} {w W:AH} {g8 g:Nat} {ZZ:Array AK} {e k:Int} {R:Ending->AH->Prop} (h8:tmps.getD 8 undef=AU (some ⟨g8,0,none⟩)) (hg:tmps.getD 9 undef=AU (some ⟨g,0,none⟩)) (hB:AZ W g8 44 ZZ) (hZS:(prog.info? 44).map (·.size)=some ZZ.size) (h8g:g8 < g) (hk:W.cell? ⟨g,0,none⟩=some (AB AE k)) (hz:W.frozen? ⟨g,0,none⟩=false) (hlt:g < W.heap.size) (hgw:w.heap.size<=g) (hb:AJ w W)
 (hR:∀w'',AJ w w''->R (AV (BS #[.agg ZZ,AB AE e])) w''):Leaves prog f16 tmps R [{target:=.fn (.func 38) #[AU (some ⟨g,0,none⟩)],args:=#[]}] (.panicking (G0 e)) W:=by
 refine OB (f:=38) (args:=#[AU (some ⟨g,0,none⟩)]) Ac MO ?_;refine (de g k e W hk hz hlt).mono ?_;rintro en u' w'' ⟨rfl,rfl,hc,hb'⟩;have hB':AZ w'' g8 44 ZZ:=((hb' g (Ad _)).block g8 h8g).trans hB;exact ⟨_,XR (h:=g) rfl h8 hg hB' underlying44 rfl hZS (QZ hc),hR _ (hb.trans (hb' _ hgw))⟩
theorem AGF {tmps:Array AK} {W:AH} {g8 g:Nat} {ZZ:Array AK} {e:Int} {R:Ending->AH->Prop} (h8:tmps.getD 8 undef=AU (some ⟨g8,0,none⟩)) (hg:tmps.getD 9 undef=AU (some ⟨g,0,none⟩)) (hB:AZ W g8 44 ZZ) (hZS:(prog.info? 44).map (·.size)=some ZZ.size) (hk:W.cell? ⟨g,0,none⟩=some (AB AE e)) (hR:R (AV (BS #[.agg ZZ,AB AE e])) W):
 Leaves prog f16 tmps R [{target:=.fn (.func 38) #[AU (some ⟨g,0,none⟩)],args:=#[]}] .returning W:=by
 refine OB (f:=38) (args:=#[AU (some ⟨g,0,none⟩)]) Ac MO ?_;refine (df ⟨g,0,none⟩ W).mono ?_;rintro en u' w'' ⟨rfl,rfl,rfl⟩;exact ⟨_,XR (h:=g) rfl h8 hg hB underlying44 rfl hZS (QZ hk),hR⟩
theorem open_any (
 v0 v1 v3 v4 v5 v6:AK) (A:Option Aa) (n c:Nat) (ns:List Nat) (ck:Int) (val:Int->Int->Int->Bool) (q:Ge) (VA LA KA FA:Option Aa) (vn vc ln lc kn kc fn fc:Nat) (fs:AP) (link:Int) (S0:List Nat) (w:AH) (hs:Ag 6 LG w (AA A n c) ns)
 (hK:Qm (AO #[v0,v1,AA A n c,v3,v4,v5]) (AO #[v0,v1,AA A n c,v3,v4,v5,v6]) ck val w) (hv:Ag 1 CF w (AA VA vn vc) q.values) (hl:Ag 32 CQ w (AA LA ln lc) q.links) (hk:Ag 3 Dc (veil S0 w) (AA KA kn kc) q.claims) (hf:Ag 1 CF w (AA FA fn fc) fs)
 (hh:q.holder.length=32) (hfl:fs.length<=1000) (hS0:∀b∈S0,b < w.heap.size):
 AS prog 16 #[AO #[v0,v1,AA A n c,v3,v4,v5,v6],AO (Hf ⟨q.Au,q.round,q.schema,q.place,q.holder,AA VA vn vc,AA LA ln lc,AA KA kn kc⟩),AA FA fn fc,AB AE link] w
  (if J9 ck (Bt ns q.schema) q fs link=0 then V1 S0 w (Ok ((Bt ns q.schema).getD 0) q fs link) 0 else V1 S0 w NZ (J9 ck (Bt ns q.schema) q fs link)):=by
 obtain ⟨R,hR⟩:∃R,R=(if J9 ck (Bt ns q.schema) q fs link=0 then V1 S0 w (Ok ((Bt ns q.schema).getD 0) q fs link) 0 else V1 S0 w NZ (J9 ck (Bt ns q.schema) q fs link)):=⟨_,rfl⟩;obtain ⟨p,hp⟩:=Ab (⟨q.Au,q.round,q.schema,q.place,q.holder,AA VA vn vc,AA LA ln lc,AA KA kn kc⟩:Tg);rw [<-hR,<-hp];obtain ⟨Y,hY⟩:=Ab (Hf p);obtain ⟨ZZ,dW⟩:=Ab (Et ⟨0,0,0,0,zeros 32,AA none 0 0,AA none 0 0,0,zeros 32,AA none 0 0,undef,undef,0,0⟩);have WM:p.holder.length=32:=by rw [hp];exact hh
 rw [<-hY];have LV:AI (∀W g,AZ W g 48 Y->CpB W g p):=AF (fun W g h=>by rw [hY] at h;exact Nh h WM);have HYH:AI (∀j v,(q.holder.map (Value.int .u8))[j]? =some v->Y[4+j]? =some v):=AF (fun j v hj=>by have hlt:=(BA.1 hj).1;rw [CX] at hlt;rw [hY,Hf,jb,hp,Ai,EF BX,Cf Ac];simpa using hj)
 have HZI:AI ((prog.info? 44).bind (·.zero)=some (.agg ZZ)):=AF QP;have Qn:AI ((prog.info? 44).map (·.size)=some ZZ.size):=AF QP;have Mr:AI (∀W,AJ w W->AS prog 17 #[AO #[v0,v1,AA A n c,v3,v4,v5,v6]] W fun e w'=>e=AV (AB AE ck)/\AJ W w'):=AF hK.chk;have Cl:AI (∀e w2,J9 ck (Bt ns q.schema) q fs link=e->e≠0->AJ w w2->R (AV (BS #[.agg ZZ,AB AE e])) w2):=AF (fun e w2 he hne hb=>by rw [hR,he,Ah hne,dW];exact zP)
 have I5:AI (J9 ck (Bt ns q.schema) q fs link=0->R=V1 S0 w (Ok ((Bt ns q.schema).getD 0) q fs link) 0):=AF (fun h=>by rw [hR,Am h]);obtain ⟨HS,HV,HL,Nn,HF,HH,eC,HP,LU⟩:=Po hs hv hl hk hf hh hS0 hp hfl;clear hfl hs hK hv hl hk hf hh hS0 hR hY dW WM hp;have hmf:∀(fn:Fn) (first cap:Array AK) (w:AH),(Instr.makeFunc fn first cap).run prog w=.ok (.func fn first cap) w:=fun _ _ _ _=>rfl
 go_enter_defers func16,ntmps16
 go_upto_region 2 with (first | (refine Di rfl 44 rfl ZZ HZI.o ?_) | fail);obtain ⟨k1,b1,s1⟩:=bx w #[v0,v1,AA A n c,v3,v4,v5,v6] 32;generalize (w.alloc (AQ #[v0,v1,AA A n c,v3,v4,v5,v6] 32))=w1 at k1 b1 s1 ⊢;obtain ⟨k2,b2,s2⟩:=bx w1 Y 48;generalize (w1.alloc (AQ Y 48))=w2 at k2 b2 s2 ⊢;rw [s1] at k2 b2 s2;obtain ⟨k3,b3,s3⟩:=bx w2 ZZ 44;generalize (w2.alloc (AQ ZZ 44))=w3 at k3 b3 s3 ⊢;rw [s2] at k3 b3 s3;obtain ⟨k4,b4,s4⟩:=bx w3 #[AB AE 0] 50;generalize (w3.alloc (AQ #[AB AE 0] 50))=w4 at k4 b4 s4 ⊢;rw [s3] at k4 b4 s4;have Cg:AI (AJ w w4):=AF (((b1.trans (b2.mono AG)).trans (b3.mono AG)).trans (b4.mono AG));have H4:AI (w4.heap.size=w.heap.size+1+1+1+1):=AF AG;have HE:AI (∀W,AJ w4 W->AZ W (w.heap.size+1) 48 Y/\AZ W (w.heap.size+1+1) 44 ZZ/\AZ W (w.heap.size+1+1+1) 50 #[AB AE 0]/\AZ W w.heap.size 32 #[v0,v1,AA A n c,v3,v4,v5,v6]):=AF (fun W hW=>⟨((k2.below b3 AG).below b4 AG).below hW AG,(k3.below b4 AG).below hW AG,k4.below hW AG,(((k1.below b2 AG).below b3 AG).below b4 AG).below hW AG⟩);have HD:AI (∀W,AJ w4 W->W.cell? ⟨w.heap.size,0,none⟩=some v0/\W.cell? ⟨w.heap.size,1,none⟩=some v1/\W.cell? ⟨w.heap.size,2,none⟩=some (AA A n c)/\W.cell? ⟨w.heap.size,3,none⟩=some v3/\W.cell? ⟨w.heap.size,4,none⟩=some v4/\W.cell? ⟨w.heap.size,5,none⟩=some v5/\W.cell? ⟨w.heap.size,6,none⟩=some v6):=AF (fun W hW=>by have b:=(HE.o W hW).2.2.2;exact Wo)
 clear k1 b1 s1 k2 b2 s2 k3 b3 s3 k4 b4 s4;have Jc:AI (∀(tmps:Array AK) (W:AH) (e:Int),tmps.getD 8 undef=AU (some ⟨w.heap.size+1+1,0,none⟩)->tmps.getD 9 undef=AU (some ⟨w.heap.size+1+1+1,0,none⟩)->AJ w4 W->J9 ck (Bt ns q.schema) q fs link=e->e≠0->Leaves prog f16 tmps R [{target:=.fn (.func 38) #[AU (some ⟨w.heap.size+1+1+1,0,none⟩)],args:=#[]}] (.panicking (G0 e)) W):=AF (fun tmps W e h8 h9 hW he hne=>by obtain ⟨_,k8,k,_⟩:=HE.o W hW;exact ABM h8 h9 k8 Qn.o (Ie _) (k.cell 0) (k.frozen 0) k.lt AG (AW Cg.o hW) (fun w'' hb=>Cl.o e w'' he hne hb))
 have ES:AI (∀W,AZ W (w.heap.size+1) 48 Y->(W.cell? ⟨w.heap.size+1,0,none⟩=some (AB AE q.Au)/\W.cell? ⟨w.heap.size+1,1,none⟩=some (AB AE q.round)/\W.cell? ⟨w.heap.size+1,2,none⟩=some (AB AE q.schema)/\W.cell? ⟨w.heap.size+1,3,none⟩=some (AB AE q.place))/\W.cell? ⟨w.heap.size+1,36,none⟩=some (AA VA vn vc)/\W.cell? ⟨w.heap.size+1,37,none⟩=some (AA LA ln lc)/\W.cell? ⟨w.heap.size+1,38,none⟩=some (AA KA kn kc)):=AF (fun W hW=>by have b:=LV.o _ _ hW;rw [HP.o] at b;exact ⟨⟨b.Au,b.round,b.schema,b.place⟩,b.values,b.links,b.claims⟩)
 obtain ⟨d0,d1,d2,d3,d4,d5,d6⟩:=HD.o w4 (Af _ _);by_cases hck:ck=0
 rotate_left
 ·have hcf:(ck==0)=false:=JK hck
  have HN:AI (J9 ck (Bt ns q.schema) q fs link=160):=AF (by rw [J9,Am hck]);go_wp2_with (first
   | (go_at_call 17;refine (Mr.o _ Cg.o).mono ?_;rintro e w5 ⟨rfl,hb5⟩;have CW:=AF hb5;clear hb5)
   | (go_at_call 30;refine (EH 160 _).mono ?_;rintro e w8 ⟨rfl,rfl⟩)
   | fail)
  exact Jc.o _ _ _ rfl rfl CW.o HN.o BE
 subst hck;have jr:AI (¬LB (Bt ns q.schema) q fs link=true->J9 0 (Bt ns q.schema) q fs link=190):=AF (fun h=>by rw [J9,Ah Ac,Ah h]);go_upto_region 3 with (first
  | (
   go_at_call 17;refine (Mr.o _ Cg.o).mono ?_;rintro e w5 ⟨rfl,hb5⟩;obtain ⟨c0,c1,c2,c3,c4,c5,c6⟩:=HD.o w5 hb5;obtain ⟨⟨_,_,a2,_⟩,_⟩:=ES.o _ (HE.o w5 hb5).1;have CW:=AF hb5;clear hb5 d0 d1 d2 d3 d4 d5 d6)
  | (go_at_call 30;refine (Eh 160 _).mono ?_;rintro e w6 ⟨⟨v,rfl⟩,rfl⟩))
 obtain ⟨z,hz⟩:=Ab ((decide (0<=q.schema) && decide (q.schema < n)));have IA:AI (∀W,AS prog 24 #[AO #[v0,v1,AA A n c,v3,v4,v5,v6],AB AE q.schema] W fun e w'=>e=AV (.bool z)/\AJ W w'):=AF (fun W=>by rw [hz];exact Ts v0 v1 v3 v4 v5 v6 A n c q.schema W);cases z with
 |
  false=>
  have HN:=AF (jr.o (fun h=>by
   unfold Bt at h;by_cases h0:0<=q.schema
   ·have hge:¬q.schema < n:=fun h1=>by rw [Bg h0,Bg h1] at hz;cases hz
    rw [Am h0,DY (by have:=HS.o.len;omega)] at h;cases h
   · rw [Ah h0] at h;cases h))
  clear hz;go_wp2_with (first
   | (go_at_call 24;refine (IA.o _).mono ?_;rintro e w7 ⟨rfl,hb7⟩;have ET:=AF (AW CW.o hb7);clear hb7)
   | (go_at_call 30;refine (EH 190 _).mono ?_;rintro e w8 ⟨rfl,rfl⟩)
   | fail)
  exact mH
 |
  true=>
  have hz2:=hz.symm;rw [BZ,Bw,Bw] at hz2;obtain ⟨k,hkk⟩:∃k:Nat,q.schema=k:=⟨q.schema.toNat,by omega⟩;have hkn:k < n:=AG
  have hk1:(k:Int) < (n:Int):=AG
  have hk0:=Int.natCast_nonneg k
  obtain ⟨b,off,x,x0,x1,x2,x3,B,cc,x5,hA,hb,hx,hxl,hone,hcell⟩:=Ni HS.o hkn;subst hA;have HE4:AI (∀W,AJ w W->W.cell? ⟨b,off+k*6+4,none⟩=some (AA B x cc)):=AF (fun W hW=>(hW.cell (p:=⟨b,off+k*6+4,none⟩) hb).trans (hcell 4 _ rfl));have Hm:AI (Bt ns q.schema=some x):=AF (by rw [hkk,Bt,Am AG,CZ];exact hx);obtain ⟨HKK,Fx⟩:=Aj hkk hxl;clear hz hz2 hcell hone hx hkk hxl;go_upto_region 4 with (first
   | (
    go_at_call 24;refine (IA.o _).mono ?_;rintro e w7 ⟨rfl,hb7⟩;have ET:=AF (AW CW.o hb7);obtain ⟨t0,t1,t2,t3,t4,t5,t6⟩:=HD.o w7 ET.o;obtain ⟨⟨f0,f1,f2,f3⟩,f36,f37,f38⟩:=ES.o _ (HE.o w7 ET.o).1;rw [HKK.o] at f2;have e4:=HE4.o w7 (AW Cg.o ET.o);clear hb7 c0 c1 c2 c3 c4 c5 c6 a2)
   | (go_at_call 30;refine (Eh 190 _).mono ?_;rintro e w6 ⟨⟨v,rfl⟩,rfl⟩))
  go_upto_region 5 with fail;clear e4 t0 t1 t2 t3 t4 t5 t6;have hin:IntKind.i64.wrap ((x:Int)+4)=(x:Int)+4:=Bv _ Yz;have hin2:IntKind.i64.wrap ((x:Int)+4+1)=(x:Int)+4+1:=Bv _ Yz;have hcase:(¬vn=x\/(vn=x/\¬ln=4)\/(vn=x/\ln=4/\¬kn=x+4+1))\/(vn=x/\ln=4/\kn=x+4+1):=AG
  have hle:=And.intro HV.o.len (And.intro HL.o.len Nn.o.len);rcases hcase with hno | ⟨rfl,rfl,rfl⟩
  ·have HN:=AF (jr.o (fun h=>by
    rw [Hm.o] at h;simp only [LB,BZ,Bw] at h;omega))
   clear hle;rcases hno with h | ⟨rfl,h⟩ | ⟨rfl,rfl,h⟩
   ·have hf1:((vn:Int)==(x:Int))=false:=JK AG
    exact mR
   ·have hf1:((ln:Int)==4)=false:=JK AG
    exact mR
   have hf1:((kn:Int)==(vn:Int)+4+1)=false:=JK AG;exact mR
  have vB:=AF hle;clear hle;go_upto_region 6 with (first | (go_at_call 30;refine (Eh 190 _).mono ?_;rintro e w8 ⟨⟨v,rfl⟩,rfl⟩) | fail);clear f37 f38 f36;obtain ⟨zi,hzi⟩:=Ab (NM vn (-1) fs);have AE8:AI (∀W,AJ w W->AS prog 31 #[AA FA fn fc,AB AE vn] W fun e w'=>e=AV (.bool zi)/\w'=W):=AF (fun W hW=>by rw [hzi];exact Uw FA fn fc fs vn W (HF.o.mono BU hW));have ur:AI (AJ w w8):=AF (AW Cg.o ET.o);cases zi with
  |
   false=>
   have HN:=AF (jr.o (fun h=>by rw [Hm.o] at h;simp only [LB,BZ,<-hzi] at h;exact absurd h.2.1.1 BE))
   clear hzi;go_wp2_with (first
    | (go_at_call 31;refine (AE8.o _ ur.o).mono ?_;rintro e w9 ⟨rfl,rfl⟩)
    | (go_at_call 30;refine (EH 190 _).mono ?_;rintro e w10 ⟨rfl,rfl⟩) | fail)
   exact mH
  |
   true=>
   have hcase:(¬ -1<=link\/(-1<=link/\¬link < 4))\/(-1<=link/\link < 4):=AG
   rcases hcase with hno | ⟨h1,h2⟩
   ·have HN:=AF (jr.o (fun h=>by
     rw [Hm.o] at h;simp only [LB,BZ,Bw] at h;omega))
    clear hzi;rcases hno with h | ⟨h1,h⟩
    all_goals try have hf4:decide (link < 4)=false:=BO AG
    all_goals go_wp2_with (first
     | (go_at_call 31;refine (AE8.o _ ur.o).mono ?_;rintro e w9 ⟨rfl,rfl⟩)
     | (go_at_call 30;refine (EH 190 _).mono ?_;rintro e w10 ⟨rfl,rfl⟩) | fail)
    all_goals exact mH
   have hok:J9 0 (Bt ns q.schema) q fs link=0:=by have hle:=vB.o;rw [J9,Ah Ac,Hm.o,Am];simp only [LB,BZ,Bw];exact ⟨⟨⟨hle.1.symm,hle.2.1.symm⟩,hle.2.2.symm⟩,⟨hzi.symm,h1⟩,h2⟩
   obtain ⟨HRR,AK6⟩:=Aj (I5.o hok) hzi.symm;clear hok hzi I5 Cl jr Jc;go_upto_region 7 with (first
    | (go_at_call 31;refine (AE8.o _ ur.o).mono ?_;rintro e w9 ⟨rfl,rfl⟩)
    | (go_at_call 30;refine (Eh 190 _).mono ?_;rintro e w10 ⟨⟨v,rfl⟩,rfl⟩) | fail)
   have DE:prog.follows .mixedOrders=true:=AL
   have MD:=AF (ET.o.drew);have xM:=(HE.o _ MD.o).1;have pM:=(HE.o _ MD.o).2.1;have AED:=(HE.o _ MD.o).2.2.1;have AKJ:=(HE.o _ MD.o).2.2.2;have xN:=ur.o.drew;have hS:AZ w10.drew (w.heap.size+1) 48 Y/\AJ w w10.drew:=⟨xM,xN⟩;have TK:∀W,AZ W (w.heap.size+1) 48 Y/\AJ w W->W.cell? ⟨w.heap.size+1,0,none⟩=some (AB AE q.Au)/\W.cell? ⟨w.heap.size+1,1,none⟩=some (AB AE q.round)/\W.cell? ⟨w.heap.size+1,2,none⟩=some (AB AE k)/\W.cell? ⟨w.heap.size+1,3,none⟩=some (AB AE q.place):=fun W hW=>by obtain ⟨⟨a0,a1,a2,a3⟩,_⟩:=ES.o _ hW.1;rw [HKK.o] at a2;exact ⟨a0,a1,a2,a3⟩
   clear f0 f1 f2 f3;refine JA (fun W=>AZ W (w.heap.size+1) 48 Y/\AJ w W) 15 _ DE AL rfl ?_;refine qT 0 65 hS ?_;refine qT 1 66 hS ?_;refine qT 2 67 hS ?_;refine qT 3 68 hS ?_;refine qT 4 69 hS ?_;refine qT 5 70 hS ?_;refine qT 6 71 hS ?_;refine qT 7 72 hS ?_;refine qT 8 73 hS ?_;refine qT 9 74 hS (v:=AO (yA q.holder)) ?_ (hv:=fun W hW=>Ch rfl AL (EY _ 4 HH.o (fun j v hj=>by rw [hW.1.cell];exact HYH.o j v hj)));refine qM 10 75 2 hS ?_;refine qM 12 77 3 hS ?_;refine qF 11 76 (au SY FA fn fc fs w10.drew (HF.o.mono BU xN) (by have:=LU.o;omega)) ?_;rintro e MF ⟨cv,ccs,rfl,hcc,hco,L9⟩;have hS2:AZ MF (w.heap.size+1) 48 Y/\AJ w MF:=⟨xM.below L9 xM.lt,AW xN L9⟩;refine ⟨_,rfl,hS2,?_⟩;obtain ⟨CA,cc',rfl⟩:=Bz hco;obtain ⟨sv,hsv⟩:=Ab (⟨q.Au,q.round,k,q.place,q.holder,AA CA fs.length cc',AA none 0 0,link,zeros 32,AA none 0 0,AA none 0 0,AA none 0 0,0,0⟩:Iq);obtain ⟨PP,WQ⟩:=Ab (Et sv);have hsh:sv.holder.length=32:=by rw [hsv];exact HH.o
   have hst:sv.token.length=32:=by rw [hsv];rfl
   have jP:prog.built 44 [(0,AB AE q.Au),(1,AB AE q.round),(2,AB AE k),(3,AB AE q.place),(4,AO (yA q.holder)),(5,AA CA fs.length cc'),(7,AB AE link)]=some PP:=by rw [WQ,hsv];exact yJ _ _ _ _ _ HH.o _ _ _
   have hps:PP.size=72:=by rw [WQ,Iw hsh hst]
   have hzs:ZZ.size=PP.size:=by rw [hps];exact FO (Qn.o.symm.trans fh)
   have h4:=H4.o;have h10:=MD.o.size;refine qT 13 78 hS2 (v:=.agg PP) ?_ (hv:=fun W _=>Y6 (Fg (congrArg (prog.built 44) AL) jP));refine AFZ 14 44 8 78 (w.heap.size+1+1) PP 44 ZZ AL rfl rfl rfl rfl AL AL (pM.below L9 pM.lt) (by rw [hps];exact fh) hzs (by rw [WQ,hsv];exact Uj rfl rfl rfl) ⟨(Gu _ _ _ _ AG).trans hS2.1,below_setRow hS2.2 AG _⟩ ?_;refine Cx AL ?_ _;simp only [Bp,B9];have hfn:=HF.o.len;have h11:=L9.size;have hd10:w10.drew.heap.size=w10.heap.size:=rfl;have AEG:Ag 1 CF (MF.setRow (w.heap.size+1+1) PP) (AA CA fs.length cc') fs:=CP (Nz hco (fun g h1 _=>Gu _ _ _ _ AG)) ⟨hcc.1,hcc.2⟩ rfl;have hNF:NewAt w4.heap.size (AA CA fs.length cc'):=fun r hr=>by have h:=TC hco r hr;omega
   have AEI:AJ w (MF.setRow (w.heap.size+1+1) PP):=below_setRow hS2.2 AG _;have AD9:AZ (MF.setRow (w.heap.size+1+1) PP) (w.heap.size+1) 48 Y:=(Gu _ _ _ _ AG).trans hS2.1;have AEC:AZ (MF.setRow (w.heap.size+1+1) PP) (w.heap.size+1+1+1) 50 #[AB AE 0]:=(Gu _ _ _ _ AG).trans (AED.below L9 AED.lt);have xO:AZ (MF.setRow (w.heap.size+1+1) PP) (w.heap.size+1+1) 44 PP:=setRow_heap _ _ ZZ PP _ _ (pM.below L9 pM.lt);have gV:w.heap.size+1+1+1+1<=(MF.setRow (w.heap.size+1+1) PP).heap.size:=by rw [setRow_size];omega
   generalize MF.setRow (w.heap.size+1+1) PP=w12 at AEG AEI AD9 AEC xO gV ⊢;have hI0:Q6 S0 w12.heap.size sv w w12 [] [] w12:=⟨KX.refl _ _ _ _,AEI,none,0,[],none,0,[],(w.heap.size+1+1)::S0,by
    rw [WQ,hsv] at xO;rw [hsv];exact xO,ED _ _ _ _,Ao.nil,fun r hr=>absurd hr NS,⟨ED _ _ _ _,fun r hr=>absurd hr NS,fun b hb=>by
     rcases CO.1 hb with rfl | hb
     · omega
     have:=eC.o b hb;omega,OI,Ao.nil⟩,fun b hb=>by rw [CO];exact Wn,fun r hr=>absurd hr NS⟩
   obtain ⟨XD,AHC⟩:∃XD:Int->Int,XD=fun f=>q.values.getD f.toNat 0:=⟨_,rfl⟩;obtain ⟨jK,AHe⟩:∃jK:Int->Cd,jK=fun f=>q.claims.getD f.toNat Ld:=⟨_,rfl⟩;obtain ⟨HI0,Lt,HSV,Ff,HST,ALH,AIc,qP,AKx,AEv,AIL,AIk⟩:=RG hI0 hfn hsv hsh hst AEG hNF AD9 AEC gV AHC AHe;clear hI0 hfn hsv hsh hst AEG hNF AD9 AEC xO gV AHC AHe AEI hco hcc L9 hS hS2 xM pM AED AKJ xN TK WQ jP hps hzs h4 h10 h11 hd10;go_upto_region 9 with fail;go_loopg [81] fn (fun q' i wr=>∃j:Nat,j<=fn/\q'=fn - j/\i=AB AE j/\Q6 S0 w12.heap.size sv w w12 ((fs.take j).map XD) ((fs.take j).map jK) wr)
   case atStart=>exact ⟨0,Ar _,rfl,rfl,HI0.o⟩
   obtain ⟨j,hj,hq,rfl,hI⟩:=hrel;obtain ⟨HQ,HI⟩:=Aj hq hI;clear hq hI;by_cases hlt:j < fn
   ·obtain ⟨fb,fo,f,rfl,hfb,hf,ef,_,_⟩:=ints_at (HF.o.mono BU HI.o.old) hlt
    obtain ⟨hf0,hf1⟩:=P4 AK6.o f (Ci hf);obtain ⟨fk,rfl⟩:∃fk:Nat,f=fk:=⟨f.toNat,by omega⟩;have hfv:fk < vn:=AG
    obtain ⟨vb,vo,u,rfl,hvb,hu,eu,hu1,hu2⟩:=ints_at HV.o hfv;obtain ⟨lb,lo,x,B1,m1,e1,B2,m2,e2,rfl,hlb,hx,hx1,hx2,hlc⟩:=P2 Nn.o (show fk < vn+4+1 by omega);rw [Dz] at hlb;have hj1:(j:Int) < (fn:Int):=AG
    have hj0:(0:Int)<=(j:Int):=AG
    have hk5:(fk:Int) < (vn:Int)+4+1:=AG
    have hz:=HI.o.kx.size;have gV:=AEv.o;have pQ:=HI.o.below AG AG (Af _ _).drew;obtain ⟨vl,hvl⟩:=Ab ((fs.take j).map XD);obtain ⟨kl,hkl⟩:=Ab ((fs.take j).map jK);rw [<-hvl,<-hkl] at pQ;have hln:vl.length=j/\kl.length=j:=⟨by rw [hvl];exact take_len Y0,by rw [hkl];exact take_len Y0⟩;have H9:=AF hln;have ALW:j < 1000:=by have:=LU.o;have:=Lt.o;omega
    have hYA:AZ wr.drew (w.heap.size+1) 48 Y:=(pQ.kx.same _ AG AG).trans qP.o;obtain ⟨HIA,VB,AE6,HX,HU,vI,HLC,HYA⟩:=Wy pQ hvl hkl (And.intro hx (And.intro hx1 hx2)) hu hf hlc hYA;have HEU:AI (∀W,AJ w W->W.cell? ⟨vb,vo+fk,none⟩=some (AB AE u)):=AF (fun W hW=>(hW.cell (p:=⟨vb,vo+fk,none⟩) hvb).trans eu);clear hvl hkl hln hx hx1 hx2 hlc hYA hu hf eu hf0;go_upto_region 11 with fail;obtain ⟨U5,MQ,cv,MK,MH,ck',S,h1',h2',h3',h4',h5',h6',TJ⟩:=pQ.row;have hL:w.heap.size+1+1 < w12.heap.size:=AG
    have O9:w12.heap.size<=wr.drew.heap.size:=pQ.kx.size;have TK:∀W,wr.drew.grownBy W (Value.slice U5 vl.length MQ).ownBlock->W.cell? ⟨w.heap.size+1+1,37,none⟩=some (AA U5 vl.length MQ)/\W.cell? ⟨w.heap.size+1,36,none⟩=some (AA (some ⟨vb,vo,none⟩) vn vc)/\W.cell? ⟨vb,vo+fk,none⟩=some (AB AE u):=fun W hW=>
     ⟨hW.cell (IQ h1' Ff.o HST.o).values (Da h2' hL),hW.cell (ES.o _ HYA.o).2.1 (Da h2' bY),hW.cell (HEU.o _ pQ.old) (Da h2' (by show vb < _;omega))⟩
    have hS:=DN wr.drew (Value.slice U5 vl.length MQ).ownBlock;have hu':EZ u:=⟨hu1,hu2⟩;refine lB (fun W=>wr.drew.grownBy W (Value.slice U5 vl.length MQ).ownBlock) [10] 11 _ ?_;refine lT 0 85 hS ?_;refine lT 1 86 hS ?_;refine lT 2 87 hS ?_;refine lT 3 88 hS ?_;refine lM 4 89 12 hS ?_;refine lT 5 90 hS ?_;refine lT 6 91 hS ?_;refine lm 7 8 9 10 92 93 94 86 30 3 91 h2' (news:=#[AB AE u]) rfl (by intro z hz;simp at hz;rw [hz];rfl) (by unfold maxLen;have:=H9.o.1;omega) (by have:=H9.o.1;omega) O9 (uI _ u)
     (fun v' w7 GL DZ=>by obtain ⟨A'',c'',rfl⟩:=Bz GL;have k7:=(h1'.alloc _).grown DZ (Da h2' hL);exact uG w7 _ 37 _ _ _ _ ((IQ k7 Ff.o HST.o).values) (k7.frozen 37)) ?_ AGP.choose_spec.choose_spec
    intro v7 w7 GL DZ O7;simp only [Bp,B9];have hI2:=HIA.o.AJA (x:=u) Ff.o HST.o hL O9 h1' h2' h3' h4' h5' h6' TJ hu' GL DZ O7;generalize (w7.setCell ⟨w.heap.size+1+1,37,none⟩ v7)=wv at hI2 ⊢;have HI2:=AF hI2;clear hI2 GL DZ O7 h1' h2' h3' h4' h5' h6' TJ TK hS hL O9 pQ;go_upto_region 12 with fail;have hz2:=HI2.o.kx.size;have hIB:=HI2.o.below AG AG (Af _ _).drew;have Wf:=AF hIB;obtain ⟨U5,MQ,cv,MK,MH,ck',S,h1',h2',h3',h4',h5',h6',TJ⟩:=hIB.row;have hL:w.heap.size+1+1 < w12.heap.size:=AG
    have O9:w12.heap.size<=wv.drew.heap.size:=hIB.kx.size;have jQ:AZ wv.drew (w.heap.size+1) 48 Y:=(hIB.kx.same _ AG AG).trans qP.o;have hcl:=HLC.o;have Td:∀(j':Nat) (v:AK),[Value.int .i64 x.index,AA B1 m1 e1,AA B2 m2 e2][j']? =some v->wv.drew.cell? ⟨lb,lo+fk*3+j',none⟩=some v:=fun j' v hv=>(hIB.old.cell (p:=⟨lb,lo+fk*3+j',none⟩) hlb).trans (S5 (hcl j' v hv));have TK:∀W,wv.drew.grownBy W (Value.slice MK kl.length MH).ownBlock->W.cell? ⟨w.heap.size+1+1,71,none⟩=some (AA MK kl.length MH)/\W.cell? ⟨w.heap.size+1,38,none⟩=some (AA (some ⟨lb,lo,none⟩) (vn+4+1) kc)/\W.cell? ⟨lb,lo+fk*3,none⟩=some (AB AE x.index)/\W.cell? ⟨lb,lo+fk*3+1,none⟩=some (AA B1 m1 e1)/\W.cell? ⟨lb,lo+fk*3+2,none⟩=some (AA B2 m2 e2):=fun W hW=>by have hf:∀o,some (Addr.mk lb o none).block≠(Value.slice MK kl.length MH).ownBlock:=fun o=>Da h5'.own eW;exact ⟨hW.cell (IQ h1' Ff.o HST.o).claims (Da h5'.own hL),hW.cell (ES.o _ jQ).2.2.2 (Da h5'.own bY),hW.cell (Td 0 _ rfl) (hf _),hW.cell (Td 1 _ rfl) (hf _),hW.cell (Td 2 _ rfl) (hf _)⟩
    have hS:=DN wv.drew (Value.slice MK kl.length MH).ownBlock;have hvb:BK (veil S0 w).heap.size (veil S0 w) (veil S wv.drew):=Z2 hIB.old h6';have hlf:Dc (veil S wv.drew) [AB AE x.index,AA B1 m1 e1,AA B2 m2 e2] x:=⟨B1,m1,e1,B2,m2,e2,rfl,HX.o.2.1.mono BL hvb,HX.o.2.2.mono BL hvb⟩;refine lB (fun W=>wv.drew.grownBy W (Value.slice MK kl.length MH).ownBlock) [10] 11 _ ?_;refine lT 0 95 hS ?_;refine lT 1 96 hS ?_;refine lT 2 97 hS ?_;refine lT 3 98 hS ?_;refine lM 4 99 12 hS ?_;refine lT 5 100 hS ?_;refine lT 6 101 hS ?_;refine lm 7 8 9 10 102 103 104 96 42 62 101 h5'.own (news:=#[AB AE x.index,AA B1 m1 e1,AA B2 m2 e2]) rfl (ll _ _ _ _ _ _ _) (by unfold maxLen;have:=H9.o.2;omega) (by have:=H9.o.2;omega) O9 (gG _ _ _ _ _ _ _ _)
     (fun v' w7 GL DZ=>by obtain ⟨A'',c'',rfl⟩:=Bz GL;have k7:=(h1'.alloc _).grown DZ (Da h5'.own hL);exact gF w7 _ 71 _ _ _ _ ((IQ k7 Ff.o HST.o).claims) (k7.frozen 71)) ?_ Vg.choose_spec.choose_spec
    intro v7 w7 GL DZ O7;simp only [Bp,B9];have Xv:=Wf.o.wH (x:=x) Ff.o HST.o hL O9 h1' h2' h3' h4' h5' h6' TJ rfl hlf GL DZ O7;generalize (w7.setCell ⟨w.heap.size+1+1,71,none⟩ v7)=wk at Xv ⊢;have HI3:=AF Xv;clear Xv GL DZ O7 h1' h2' h3' h4' h5' h6' TJ TK hS hL O9 hIB jQ hcl Td hvb hlf Wf hz2;go_wp2;go_roundg (fn - (j+1))
    case measure=>exact Bc
    refine ⟨j+1,by omega,rfl,by go_num,?_⟩;have hu:=HU.o;have e1:XD fk=u:=by rw [AIL.o];show q.values.getD (fk:Int).toNat 0=u;rw [CZ,C0,hu];rfl
    have e2:jK fk=x:=by rw [AIk.o];show q.claims.getD (fk:Int).toNat Ld=x;rw [CZ,C0,HX.o.1];rfl
    rw [ix vI.o,ix vI.o,e1,e2,<-VB.o,<-AE6.o];exact HI3.o
   obtain rfl:fn=j:=AG
   have htk:fs.take fn=fs:=Cy (by rw [Lt.o];exact Ad _);have hI:=HI.o;rw [htk] at hI;have vF:=AF hI;clear HI hI htk hj
   go_upto_if 107 with fail
   go_cut [108] from 107 to 125 (fun _ wx=>∃tk kl,(tk=if 0<=link then q.links.getD link.toNat QF else QF)/\kl=fs.map jK++(if 0<=link then [q.claims.getD (vn+link.toNat) Ld] else [])/\tk.length=32/\Q6 S0 w12.heap.size {sv with token:=tk} w w12 (fs.map XD) kl wx)
   have hz:=vF.o.kx.size;have gV:=AEv.o;have hfl:fs.length<=1000:=LU.o
   case first=>
    by_cases h0:0<=link
    ·obtain ⟨lk,rfl⟩:∃lk:Nat,link=lk:=⟨link.toNat,by omega⟩
     have hk4:lk < 4:=AG
     have AMz:(lk:Int) < 4:=h2;obtain ⟨tb,DU,d,cs,rfl,htb,hd,hlen,hc,rfl,hdl⟩:=HL.o.at_ hk4;obtain ⟨Eb,HD1,CV⟩:=Az hdl hd Du;have Oa:AI (wr.rangeAt tb (DU+lk*32) (d.map (Value.int .u8))):=AF (fun j' v hv=>(vF.o.old.cell (p:=⟨tb,DU+lk*32+j',none⟩) htb).trans (by have:=hc j' v hv;rwa [<-L0] at this));have hYW:AZ wr (w.heap.size+1) 48 Y:=(vF.o.kx.same _ AG AG).trans qP.o;have HYC:wr.cell? ⟨w.heap.size+1,37,none⟩=some (AA (some ⟨tb,DU,none⟩) 4 lc):=(ES.o _ hYW).2.2.1;have OZ:AI (wr.there (w.heap.size+1+1) 39 (yA d).size):=AF (by
      obtain ⟨_,_,_,_,_,_,_,hb,_⟩:=vF.o.row;refine MV hb ?_;rw [Iw,Bb,hdl]
      · decide
      · exact Ff.o
      · exact HST.o)
     have uq:AI ((prog.info? 34).map (·.size)=some (yA d).size):=AF (by rw [Bb,hdl];exact Du);have HT0:=AF (vF.o.tok Ff.o HST.o hdl AG);obtain ⟨mk,hmk⟩:=Ab (vn+lk:Nat);have hmw:IntKind.i64.wrap ((vn:Int)+(lk:Int))=(mk:Nat):=by rw [Bv _ Yz];omega
     obtain ⟨lb,lo,x,B1,m1,e1,B2,m2,e2,rfl,hlb,hx,hx1,hx2,hlc⟩:=P2 Nn.o (show mk < vn+4+1 by omega);rw [Dz] at hlb;have hk5:(mk:Int) < (vn:Int)+4+1:=AG
     obtain ⟨kl,hkl⟩:=Ab (fs.map jK);obtain ⟨HX,HLC⟩:=Aj (And.intro hx (And.intro hx1 hx2)) hlc;rw [<-hkl] at HT0;have H9:kl.length < 2000:=by rw [hkl,CX];omega
     obtain ⟨AE6,Nm⟩:=Aj hkl hmk;clear hx hx1 hx2 hlc hkl hYW hd hdl hc hfl hmk;go_upto_region 16 with (first
      | (refine Iu rfl 34 (AY 111) rfl tb (DU+lk*32) rfl d _ Oa.o underlying34 rfl CV.o Eb.o ?_)
      | (refine N9 rfl 34 (AY 113) (AY 112) rfl (w.heap.size+1+1) 39 (yA d) rfl rfl OZ.o uq.o (GH d) ?_)
      | fail)
     have hI:=HT0.o;change Q6 _ _ _ _ _ _ _ (wr.setCells (w.heap.size+1+1) 39 (yA d).toList) at hI;generalize wr.setCells (w.heap.size+1+1) 39 (yA d).toList=wt at hI ⊢;have HIT:=AF hI;clear hI;have hz2:=HIT.o.kx.size;have hIB:=HIT.o.below AG AG (Af _ _).drew;have Wf:=AF hIB;obtain ⟨U5,MQ,cv,MK,MH,ck',S,h1',h2',h3',h4',h5',h6',TJ⟩:=hIB.row;have hL:w.heap.size+1+1 < w12.heap.size:=AG
     have O9:w12.heap.size<=wt.drew.heap.size:=hIB.kx.size;have jQ:AZ wt.drew (w.heap.size+1) 48 Y:=(hIB.kx.same _ AG AG).trans qP.o;have hcl:=HLC.o;have Td:∀(j':Nat) (v:AK),[Value.int .i64 x.index,AA B1 m1 e1,AA B2 m2 e2][j']? =some v->wt.drew.cell? ⟨lb,lo+mk*3+j',none⟩=some v:=fun j' v hv=>(hIB.old.cell (p:=⟨lb,lo+mk*3+j',none⟩) hlb).trans (S5 (hcl j' v hv));have TK:∀W,wt.drew.grownBy W (Value.slice MK kl.length MH).ownBlock->W.cell? ⟨w.heap.size+1+1,71,none⟩=some (AA MK kl.length MH)/\W.cell? ⟨w.heap.size+1,38,none⟩=some (AA (some ⟨lb,lo,none⟩) (vn+4+1) kc)/\W.cell? ⟨lb,lo+mk*3,none⟩=some (AB AE x.index)/\W.cell? ⟨lb,lo+mk*3+1,none⟩=some (AA B1 m1 e1)/\W.cell? ⟨lb,lo+mk*3+2,none⟩=some (AA B2 m2 e2):=fun W hW=>by have hf:∀o,some (Addr.mk lb o none).block≠(Value.slice MK kl.length MH).ownBlock:=fun o=>Da h5'.own eW;exact ⟨hW.cell (IQ h1' Ff.o Eb.o).claims (Da h5'.own hL),hW.cell (ES.o _ jQ).2.2.2 (Da h5'.own bY),hW.cell (Td 0 _ rfl) (hf _),hW.cell (Td 1 _ rfl) (hf _),hW.cell (Td 2 _ rfl) (hf _)⟩
     have hS:=DN wt.drew (Value.slice MK kl.length MH).ownBlock;have hvb:BK (veil S0 w).heap.size (veil S0 w) (veil S wt.drew):=Z2 hIB.old h6';have hlf:Dc (veil S wt.drew) [AB AE x.index,AA B1 m1 e1,AA B2 m2 e2] x:=⟨B1,m1,e1,B2,m2,e2,rfl,HX.o.2.1.mono BL hvb,HX.o.2.2.mono BL hvb⟩;refine lB (fun W=>wt.drew.grownBy W (Value.slice MK kl.length MH).ownBlock) [12] 13 _ ?_;refine lT 0 114 hS ?_;refine lT 1 115 hS ?_;refine lT 2 116 hS ?_;refine lT 3 117 hS ?_;refine lM 4 118 10 hS ?_;refine lM 5 119 3 hS ?_;refine lT 6 120 hS (v:=AB AE (mk:Nat)) ?_ (hv:=by intro W hW;rw [<-hmw];(go_simp) <;> rfl);refine lT 7 121 hS ?_;refine lT 8 122 hS ?_;refine lm 9 10 11 12 123 124 125 115 42 62 122 h5'.own (news:=#[AB AE x.index,AA B1 m1 e1,AA B2 m2 e2]) rfl (ll _ _ _ _ _ _ _) (by unfold maxLen;have:=H9;omega) (by have:=H9;omega) O9 (gG _ _ _ _ _ _ _ _)
      (fun v' w7 GL DZ=>by obtain ⟨A'',c'',rfl⟩:=Bz GL;have k7:=(h1'.alloc _).grown DZ (Da h5'.own hL);exact gF w7 _ 71 _ _ _ _ ((IQ k7 Ff.o Eb.o).claims) (k7.frozen 71)) ?_ Vg.choose_spec.choose_spec
     intro v7 w7 GL DZ O7;simp only [Bp,B9];have Xv:=Wf.o.wH (x:=x) Ff.o Eb.o hL O9 h1' h2' h3' h4' h5' h6' TJ rfl hlf GL DZ O7;generalize (w7.setCell ⟨w.heap.size+1+1,71,none⟩ v7)=wk at Xv ⊢;have HI3:=AF Xv;clear Xv GL DZ O7 h1' h2' h3' h4' h5' h6' TJ TK hS hL O9 hIB jQ hcl Td hvb hlf Wf hz2;go_wp2
     go_meet
     refine ⟨d,kl++[x],?_,?_,Eb.o,HI3.o⟩
     · rw [Am h0,CZ,C0,HD1.o];rfl
     · rw [Am h0,CZ,<-Nm.o,C0,HX.o.1,AE6.o];rfl
    go_wp2
    go_meet
    refine ⟨QF,fs.map jK,by rw [Ah (by omega:¬0<=link)],by rw [Ah (by omega:¬0<=link),EU],rfl,?_⟩;have h:=vF.o;rw [HSV.o] at h ⊢;exact h
   obtain ⟨tk,kl,htk,hkl,htl,hI⟩:=hcut;have VG:=AF hI;have hfl:fs.length<=1000:=LU.o;have gV:=AEv.o;have Mp:AI ({sv with token:=tk}.token.length=32):=AF htl;obtain ⟨AKa,AK3⟩:=Aj htk hkl;have H9:kl.length < 2000:=by rw [hkl,CT,CX];split <;> simp <;> omega
   obtain ⟨mk,hmk⟩:=Ab (vn+4:Nat);have hmw:IntKind.i64.wrap ((vn:Int)+4)=(mk:Nat):=by rw [Bv _ Yz];omega
   obtain ⟨lb,lo,x,B1,m1,e1,B2,m2,e2,rfl,hlb,hx,hx1,hx2,hlc⟩:=P2 Nn.o (show mk < vn+4+1 by omega);rw [Dz] at hlb;have hk5:(mk:Int) < (vn:Int)+4+1:=AG
   obtain ⟨HX,HLC,Nm⟩:=Az (And.intro hx (And.intro hx1 hx2)) hlc hmk;clear hx hx1 hx2 hlc hkl htk htl hI hmk hfl;go_upto_region 17 with fail;have hz2:=VG.o.kx.size;have hIB:=VG.o.below AG AG (Af _ _).drew;have Wf:=AF hIB;obtain ⟨U5,MQ,cv,MK,MH,ck',S,h1',h2',h3',h4',h5',h6',TJ⟩:=hIB.row;have hL:w.heap.size+1+1 < w12.heap.size:=AG
   have O9:w12.heap.size<=wc.drew.heap.size:=hIB.kx.size;have jQ:AZ wc.drew (w.heap.size+1) 48 Y:=(hIB.kx.same _ AG AG).trans qP.o;have hcl:=HLC.o;have Td:∀(j':Nat) (v:AK),[Value.int .i64 x.index,AA B1 m1 e1,AA B2 m2 e2][j']? =some v->wc.drew.cell? ⟨lb,lo+mk*3+j',none⟩=some v:=fun j' v hv=>(hIB.old.cell (p:=⟨lb,lo+mk*3+j',none⟩) hlb).trans (S5 (hcl j' v hv));have TK:∀W,wc.drew.grownBy W (Value.slice MK kl.length MH).ownBlock->W.cell? ⟨w.heap.size+1+1,71,none⟩=some (AA MK kl.length MH)/\W.cell? ⟨w.heap.size+1,38,none⟩=some (AA (some ⟨lb,lo,none⟩) (vn+4+1) kc)/\W.cell? ⟨lb,lo+mk*3,none⟩=some (AB AE x.index)/\W.cell? ⟨lb,lo+mk*3+1,none⟩=some (AA B1 m1 e1)/\W.cell? ⟨lb,lo+mk*3+2,none⟩=some (AA B2 m2 e2):=fun W hW=>by have hf:∀o,some (Addr.mk lb o none).block≠(Value.slice MK kl.length MH).ownBlock:=fun o=>Da h5'.own eW;exact ⟨hW.cell (IQ h1' Ff.o Mp.o).claims (Da h5'.own hL),hW.cell (ES.o _ jQ).2.2.2 (Da h5'.own bY),hW.cell (Td 0 _ rfl) (hf _),hW.cell (Td 1 _ rfl) (hf _),hW.cell (Td 2 _ rfl) (hf _)⟩
   have hS:=DN wc.drew (Value.slice MK kl.length MH).ownBlock;have hvb:BK (veil S0 w).heap.size (veil S0 w) (veil S wc.drew):=Z2 hIB.old h6';have hlf:Dc (veil S wc.drew) [AB AE x.index,AA B1 m1 e1,AA B2 m2 e2] x:=⟨B1,m1,e1,B2,m2,e2,rfl,HX.o.2.1.mono BL hvb,HX.o.2.2.mono BL hvb⟩;refine lB (fun W=>wc.drew.grownBy W (Value.slice MK kl.length MH).ownBlock) [11] 12 _ ?_;refine lT 0 126 hS ?_;refine lT 1 127 hS ?_;refine lT 2 128 hS ?_;refine lT 3 129 hS ?_;refine lM 4 130 10 hS ?_;refine lT 5 131 hS (v:=AB AE (mk:Nat)) ?_ (hv:=by intro W hW;rw [<-hmw];(go_simp) <;> rfl);refine lT 6 132 hS ?_;refine lT 7 133 hS ?_;refine lm 8 9 10 11 134 135 136 127 42 62 133 h5'.own (news:=#[AB AE x.index,AA B1 m1 e1,AA B2 m2 e2]) rfl (ll _ _ _ _ _ _ _) (by unfold maxLen;have:=H9;omega) (by have:=H9;omega) O9 (gG _ _ _ _ _ _ _ _)
    (fun v' w7 GL DZ=>by obtain ⟨A'',c'',rfl⟩:=Bz GL;have k7:=(h1'.alloc _).grown DZ (Da h5'.own hL);exact gF w7 _ 71 _ _ _ _ ((IQ k7 Ff.o Mp.o).claims) (k7.frozen 71)) ?_ Vg.choose_spec.choose_spec
   intro v7 w7 GL DZ O7;simp only [Bp,B9];have Xv:=Wf.o.wH (x:=x) Ff.o Mp.o hL O9 h1' h2' h3' h4' h5' h6' TJ rfl hlf GL DZ O7;generalize (w7.setCell ⟨w.heap.size+1+1,71,none⟩ v7)=wk at Xv ⊢;have HI3:=AF Xv;clear Xv GL DZ O7 h1' h2' h3' h4' h5' h6' TJ TK hS hL O9 hIB jQ hcl Td hvb hlf Wf hz2;have hI:=HI3.o;obtain ⟨U5,MQ,cv,MK,MH,ck',S,h1',h2',h3',h4',h5',h6',TJ⟩:=hI.row;obtain ⟨QQ,dX⟩:∃QQ,QQ=Et {{sv with token:=tk} with values:=AA U5 (fs.map XD).length MQ,claims:=AA MK (kl++[x]).length MH}:=⟨_,rfl⟩;rw [<-dX] at h1';have uY:QQ.size=72:=by
    rw [dX,Iw]
    · exact Ff.o
    · exact Mp.o
   have VD:AI ((prog.info? 44).map (·.size)=some QQ.size):=AF (by rw [uY];exact fh);have HQO:AI (QQ.all (·.oneCell')=true):=AF (by rw [dX,HSV.o];exact Uj rfl rfl rfl);have hz3:=hI.kx.size;have kN:AZ wk (w.heap.size+1+1+1) 50 #[AB AE 0]:=(hI.kx.same _ AG AG).trans AKx.o;have e3:=kN.cell 0;have f3:=kN.frozen 0;have l3:=kN.lt;simp only [Ai,An] at e3;have hsf:Ag 1 CF (veil S0 wk) (AA CA fs.length cc') fs:=(ALH.o.kx Iz AIc.o (by have:=H4.o;omega) (Ad _) hI.kx).AFW Iz AIc.o (fun b hb=>by have:=eC.o b hb;have:=Cg.o.size;omega);have AHI:Ag 1 CF (veil S0 wk) (AA U5 (fs.map XD).length MQ) (fs.map XD):=CP (R5 h2' (fun b hb=>by have:=eC.o b hb;omega)) ⟨h3'.1,h3'.2⟩ rfl;have hsk:Ag 3 Dc (veil S0 wk) (AA MK (kl++[x]).length MH) (kl++[x]):=CP (R5 h5'.own (fun b hb=>by have:=eC.o b hb;omega)) ⟨h5'.els.1,fun i y hy=>L8 _ _ _ _ mX (fun _ _=>Z1 (fun b hb=>(h6' b (eC.o b hb)).2 hb)) (h5'.els.2 i y hy)⟩ rfl;obtain ⟨K1,KN,Lp,AKc,Qo,HQQ,HOLD⟩:=LW h1' kN hsf AHI hsk dX hI.old;clear hI h1' h2' h3' h4' h5' h6' TJ dX uY hz3 kN hsf AHI hsk;go_wp2_with (first
    | (refine Cm rfl 44 (AY 8) rfl (w.heap.size+1+1) AL 44 QQ (0,0) _ K1.o underlying44 rfl VD.o ?_)
    | (refine wpList_store_rowTo rfl 44 (AY 8) (AY 137) rfl rfl (w.heap.size+1+1) QQ rfl rfl 44 QQ K1.o VD.o rfl HQO.o ?_;rw [OC _ _ _ _ _ K1.o])
    | fail)
   have hself:wk.setCell ⟨w.heap.size+1+1+1,0,none⟩ (AB AE 0)=wk:=by rw [setCell_eq_setRow wk (w.heap.size+1+1+1) 0 _ _ _ _ KN.o];exact OC _ _ _ _ _ KN.o
   rw [hself];refine AGF (e:=0) (g8:=w.heap.size+1+1) (ZZ:=QQ) rfl rfl K1.o VD.o (KN.o.cell 0) ?_;rw [HRR.o,Hm.o];have ev:fs.map XD=(Ok vn q fs link).values:=by rw [AIL.o];rfl
   have ex:x=q.claims.getD (vn+4) Ld:=by rw [<-Nm.o,C0,HX.o.1];rfl
   have ek:kl++[x]=(Ok vn q fs link).claims:=by rw [AK3.o,AIk.o,ex];rfl
   have hv:=AKc.o;have hk:=Qo.o;refine ⟨CA,fs.length,cc',U5,(fs.map XD).length,MQ,MK,(kl++[x]).length,MH,?_,Lp.o,?_,?_,HOLD.o⟩
   ·rw [HQQ.o,HSV.o,AKa.o]
    show _=Ending.returned (BS #[AO (Et ⟨q.Au,q.round,q.schema,q.place,q.holder,_,_,_,_,_,_,_,_,_⟩),_]);rw [HKK.o];rfl
   ·rw [ev] at hv ⊢
    exact hv
   rw [ek] at hk ⊢;exact hk
end Go.Proofs.YtpmpddfgifhlbaaGreatDoor
