import Derived.Test.YtamhoilkpppdbaaGreatDoorL13
namespace Go.Proofs.YtamhoilkpppdbaaGreatDoor
set_option maxHeartbeats 8000000
set_option maxRecDepth 100000
open Go renaming World→AH, Value→AN, Calls→AS, TypeId→Ae, Program→BE, Addr→Aa
open Go.RowKit renaming Below→BL
open Go.Proofs.Tryz
open Go.Value renaming slice→AA, int→AB, pointer→AU, agg→AP, tuple→BU
open Go.IntKind renaming i64→AE
open Go.Ending renaming returned→AW
open Go.Obj renaming cells→AO
open Go.Operand renaming tmp→AX
open Go.RowKit Go.Shelf
attribute [local go_sem] Oper.semAt_some
def Hp (p i:Int) (h:AQ) (l:AN):Array AN:=#[AB AE p,AB AE i]++yA h++#[l]
def Gu:EG:=⟨0,0,0,0,zeros 32,[],[],[]⟩
def Iu (w:AH) (q:EG) (e0:Int) (e:Ending) (w':AH):Prop:=∃VA vn vc LA ln lc KA kn kc,e=AW (BU #[AP (Fo ⟨q.Ar,q.round,q.schema,q.place,q.holder,AA VA vn vc,AA LA ln lc,AA KA kn kc⟩),AB AE e0])/\
 Ag 1 Bt (Vy w.heap.size w') (AA VA vn vc) q.values/\Ag 32 CP (Vy w.heap.size w') (AA LA ln lc) q.links/\Ag 3 Cy (Vy w.heap.size w') (AA KA kn kc) q.claims/\AK w w'
theorem pI {p i:Int} {h:AQ} {l:AN} (hh:h.length=32):(Hp p i h l).size=35:=by simp [Hp,CJ,hh]
theorem Qt {W:AH} {h:Nat} {e:Int} (hc:W.cell? ⟨h,0,none⟩=some (AB AE e)):(loadVar 47 ⟨h,0,none⟩).run prog W=.ok (AB AE e) W:=by go_simp
theorem AGW (W:AH) (g:Nat) {v:AN} {e:Int} (h:W.cell? ⟨g,0,none⟩=some v) (hf:W.frozen? ⟨g,0,none⟩=false):(Instr.storeAt 47 (AU (some ⟨g,0,none⟩)) (AB AE e)).run prog W=.ok () (W.setCell ⟨g,0,none⟩ (AB AE e)):=by go_simp
theorem Xj {P:BE} {fn:Func} {tmps:Array AN} {p q:Tmp} {ty tz:Ae} {t:Ae} {ds:TypeDesc} {cs:Array AN} {e:Int} {g h:Nat} {w:AH} (hr:fn.results=#[.cell p ty,.cell q tz]) (hp:tmps.getD p undef=AU (some ⟨g,0,none⟩)) (hq:tmps.getD q undef=AU (some ⟨h,0,none⟩)) (hg:AY w g t cs) (hu:P.underlying ty=some ds) (hds:(match ds with | .struct _ | .array _ _=>true | _=>false)=true) (hi:(P.info? ty).map (·.size)=some cs.size)
 (hc:(loadVar tz ⟨h,0,none⟩).run P w=.ok (AB AE e) w):(results fn tmps).run P w=.ok (BU #[.agg cs,AB AE e]) w:=by
 have hp':tmps[p]?.getD undef=AU (some ⟨g,0,none⟩):=by simpa using hp
 have hq':tmps[q]?.getD undef=AU (some ⟨h,0,none⟩):=by simpa using hq
 simp [results,hr,hp',hq',asAddr,run_loadVar_row w g t ty cs (0,0) ds hg hu hds hi,hc]
def AJ6 (Q:Exit->Act->AH->Prop) (e:Exit) (a:Act) (w:AH):Prop:=e=.normal/\Q .normal a w
theorem oA {P:BE} {c:Code} {Q:Exit->Act->AH->Prop} {a:Act} {w:AH} (h:c.wp P (AJ6 Q) a w):c.wp P Q a w:=Code.wp_mono (fun _ _ _ hh=>by obtain ⟨rfl,hq⟩:=hh;exact hq) h
section
variable {P:BE} {md:Region.Mode} {ops:Array Oper} {Q:Exit->Act->AH->Prop} {S:AH->Prop} {fuel:Nat} {listed:Array Bool} {l:List AN} {D:List Deferred} {w:AH}
theorem dY (i:Nat) {o:Oper} (ty:Ae) (a b g:Nat) (cells:Array AN) (t:Ae) (old:Array AN) (hr:Region.ready md ops listed=[i]) (hi:ops[i]? =some o) (hd:o.dst=none) (hg:o.guard=none) (ho:o.op=.store ty (AX a) (AX b))
 (hx:l[a]? =some (AU (some ⟨g,0,none⟩))) (hy:l[b]? =some (.agg cells)) (hb:w.heap[g]? =some (AO old t (0,0))) (hs:(P.info? ty).map (·.size)=some cells.size) (hold:old.size=cells.size) (h1:cells.all (·.oneCell')=true)
 (hS:S (w.setRow g cells)) (hk:wpAnyH P md ops Q S fuel (listed.setIfInBounds i true) ⟨l.toArray,D⟩ (w.setRow g cells)):wpAnyH P md ops Q S (fuel+1) listed ⟨l.toArray,D⟩ w:=
 oh i hr hi hg (wp_store_row ty (AX a) (AX b) ho g cells gD (by simp [Act.eval,hy]) t old hb hs hold h1 (by rw [hd];exact ⟨hS,hk⟩))
end
structure Q6 (w:AH) (TT SD RR OO II:Array AN) (W:AH):Prop where
 old:AK w W
 tt:AY W w.heap.size 32 TT
 sd:AY W (w.heap.size+1) 34 SD
 rr:AY W (w.heap.size+1+1+1) 36 RR
 oo:AY W (w.heap.size+1+1+1+1) 39 OO
 ii:AY W (w.heap.size+1+1+1+1+1) 41 II
section
variable {w W W':AH} {TT SD RR OO II:Array AN}
theorem Q6.same (h:Q6 w TT SD RR OO II W) (hb:AK w W') (hk:∀b,b < W.heap.size->b≠w.heap.size+1+1->b≠w.heap.size+1+1+1+1+1+1->b≠w.heap.size+1+1+1+1+1+1+1->W'.heap[b]? =W.heap[b]?):Q6 w TT SD RR OO II W':=
 ⟨hb,(hk _ h.tt.lt AG AG AG).trans h.tt,(hk _ h.sd.lt AG AG AG).trans h.sd,(hk _ h.rr.lt AG AG AG).trans h.rr,(hk _ h.oo.lt AG AG AG).trans h.oo,(hk _ h.ii.lt AG AG AG).trans h.ii⟩
theorem Q6.below (h:Q6 w TT SD RR OO II W) (hb:AK W W'):Q6 w TT SD RR OO II W':=h.same (AV h.old hb) fun b hlt _ _ _=>hb.block b hlt
theorem Q6.row (h:Q6 w TT SD RR OO II W) (g:Nat) (cs:Array AN) (hg:g=w.heap.size+1+1\/g=w.heap.size+1+1+1+1+1+1\/g=w.heap.size+1+1+1+1+1+1+1):Q6 w TT SD RR OO II (W.setRow g cs):=
 h.same (below_setRow h.old AG _) fun b _ h1 h2 h3=>Gb W g b cs AG
theorem Q6.put (h:Q6 w TT SD RR OO II W) (g o:Nat) (v:AN) (hg:g=w.heap.size+1+1\/g=w.heap.size+1+1+1+1+1+1\/g=w.heap.size+1+1+1+1+1+1+1):Q6 w TT SD RR OO II (W.setCell ⟨g,o,none⟩ v):=
 h.same (h.old.setCell (by show w.heap.size<=g;omega) _) fun b _ h1 h2 h3=>C5 W _ v b (by show b≠g;omega)
end
theorem pQ (v0 v1 v3 v4 v5 v6:AN) (A:Option Aa) (n c:Nat) (ns:List Nat) (ck:Int) (val:Int->Int->Int->Bool) (seed:AQ) (r:Br) (place pe it xs xp xi:Int) (holder:AQ) (links:List (AQ)) (vs:AQ) (VA LA:Option Aa) (vn vc ln lc x k:Nat) (w:AH) (hs:Ag 6 Kx w (AA A n c) ns)
 (hK:PU (AP #[v0,v1,AA A n c,v3,v4,v5]) (AP #[v0,v1,AA A n c,v3,v4,v5,v6]) ck val w) (hv:Ag 1 Bt w (AA VA vn vc) vs) (hl:Ag 32 CP w (AA LA ln lc) links) (hsd:seed.length=32) (hh:holder.length=32) (hro:r.root.length=32) (LC:Cc w)
 (hx:ns[k]? =some x) (hsc:r.schema=k) (hft:Gk (some x) r.places=true):
 AS prog 28 #[AP #[v0,v1,AA A n c,v3,v4,v5,v6],AP (yA seed),AA none 0 0,AP (rdA r),AB AE place,AP (Hp pe it holder (AA LA ln lc)),AP #[AB AE xs,AB AE xp,AB AE xi,AA VA vn vc]] w
  (if Eo 0 (some x) (val r.schema) r place links xs vs=true then Iu w (C9 Aw seed x r place holder links vs) 0 else Iu w Gu 190):=by
 obtain ⟨RR,hRR⟩:=Ad (rdA r);obtain ⟨OO,Oh⟩:=Ad (Hp pe it holder (AA LA ln lc));obtain ⟨SD,hSD⟩:=Ad (yA seed);rw [<-hRR,<-Oh,<-hSD];have MN:AI ((prog.info? 36).map (·.size)=some RR.size):=AF Uh;have aU:AI ((prog.info? 39).map (·.size)=some OO.size):=AF (by rw [Oh,pI hh];kernel_rfl);have Lm:AI (RR[0]? =some (AB AE r.Ar)/\RR[1]? =some (AB AE r.no)/\RR[2]? =some (AB AE r.schema)/\RR[5]? =some (AB AE r.places)):=AF nZ
 have rK:AI (OO[34]? =some (AA LA ln lc)/\∀j v,(holder.map (Value.int .u8))[j]? =some v->OO[2+j]? =some v):=AF (by rw [Oh,Hp];refine ⟨by rw [fq (by simp [CJ,hh])];simp [CJ,hh],fun j v hj=> ?_⟩;have hlt:=(BF.1 hj).1;rw [CY] at hlt;rw [P1 (by simp [CJ];omega),fq AZ,yA,Aj];simpa using hj)
 have fH:AI (∀(W:AH) (YA YB YC:Option Aa) (yn yc zn zc un uc:Nat),AK w W->x<=1000->AS prog 40 #[AP #[v0,v1,AA A n c,v3,v4,v5,v6],AP (Fo ⟨r.Ar,r.no,r.schema,place,holder,AA YA yn yc,AA YB zn zc,AA YC un uc⟩)] W fun e w'=>∃F L,e=AW (AP (JW ⟨r.Ar,r.no,r.schema,place,holder,F,AA YA yn yc,0,zeros 32,AA YC un uc,L,AA YB zn zc,(x:Int)+4+1,(x:Int)+4⟩))/\Ag 1 Bt w' F (upto x)/\Ag 1 Bt w' L (upto 4)/\AK W w'/\NewAt W.heap.size F/\NewAt W.heap.size L):=AF (fun W YA YB YC yn yc zn zc un uc hW h5=>
  dK v0 v1 v3 v4 v5 v6 A n c ns k x ⟨r.Ar,r.no,r.schema,place,holder,AA YA yn yc,AA YB zn zc,AA YC un uc⟩ YA YB YC yn yc zn zc un uc W (hs.mono Di hW) hx h5 hh hsc rfl rfl rfl)
 have RE:AI (∀W,AK w W->AS prog 39 #[AP #[v0,v1,AA A n c,v3,v4,v5,v6],AB AE r.schema,AA VA vn vc] W fun e w'=>e=AW (.bool (Dx x (val r.schema) vs))/\AK W w'):=AF (fun W hW=>by rw [hsc];exact Yb v0 v1 v3 v4 v5 v6 A n c ns k x VA vn vc vs ck val W (hs.mono Di hW) hx (hv.mono BT hW) (hK.below hW))
 obtain ⟨R,hR⟩:∃R,R=(if Eo 0 (some x) (val r.schema) r place links xs vs=true then Iu w (C9 Aw seed x r place holder links vs) 0 else Iu w Gu 190):=⟨_,rfl⟩;rw [<-hR];obtain ⟨ZZ,eP⟩:=Ad (Fo ⟨0,0,0,0,zeros 32,AA none 0 0,AA none 0 0,AA none 0 0⟩);have HZI:AI ((prog.info? 46).bind (·.zero)=some (.agg ZZ)):=AF Qj;have Nc:AI ((prog.info? 46).map (·.size)=some ZZ.size):=AF Qj;have HZO:AI (ZZ.all (·.oneCell')=true):=AF Qj;have fE:=AF eP;have Co:AI (Eo 0 (some x) (val r.schema) r place links xs vs=false->R=Iu w Gu 190):=AF (fun h=>by rw [hR,h];rfl);have Ii:AI (Eo 0 (some x) (val r.schema) r place links xs vs=true->R=Iu w (C9 Aw seed x r place holder links vs) 0):=AF (fun h=>by rw [hR,h];rfl);obtain ⟨x',hx',hp1,AHx,m8⟩:=ME hft;injection hx' with hx';subst hx';obtain ⟨HP2,HS,HV,HL,HSL,ai,I7,HX,rD,Ou,Nd⟩:=wK m8 hs hv hl hsd hh LC hx hsc hft hSD;have hlv:=hv.len;have hll:=hl.len;obtain ⟨HLV,Ys⟩:=Al hlv hll;clear hs hv hl hsd hh LC hx hsc hft hSD hRR Oh hK hro hR hlv hll eP;refine Wz func28 rfl ?_;simp only [ntmps28,R2,F6,Pw,Nat.reduceAdd,Nat.reduceSub,Ur,Us,Uo,Uq,IJ,MU];refine JK (Gy (n:=1) (D6.2 ?_));go_wp2_with (first | (refine Ek rfl 46 rfl ZZ HZI.o ?_) | fail);obtain ⟨k1,b1,s1⟩:=bx w #[v0,v1,AA A n c,v3,v4,v5,v6] 32;generalize (w.alloc (AO #[v0,v1,AA A n c,v3,v4,v5,v6] 32))=w1 at k1 b1 s1 ⊢;obtain ⟨k2,b2,s2⟩:=bx w1 SD 34;generalize (w1.alloc (AO SD 34))=w2 at k2 b2 s2 ⊢;rw [s1] at k2 b2 s2;obtain ⟨k3,b3,s3⟩:=bx w2 #[AA none 0 0] 37;generalize (w2.alloc (AO #[AA none 0 0] 37))=w3 at k3 b3 s3 ⊢;rw [s2] at k3 b3 s3;obtain ⟨k4,b4,s4⟩:=bx w3 RR 36;generalize (w3.alloc (AO RR 36))=w4 at k4 b4 s4 ⊢;rw [s3] at k4 b4 s4;obtain ⟨k5,b5,s5⟩:=bx w4 OO 39;generalize (w4.alloc (AO OO 39))=w5 at k5 b5 s5 ⊢;rw [s4] at k5 b5 s5;obtain ⟨k6,b6,s6⟩:=bx w5 #[AB AE xs,AB AE xp,AB AE xi,AA VA vn vc] 41;generalize (w5.alloc (AO #[AB AE xs,AB AE xp,AB AE xi,AA VA vn vc] 41))=w6 at k6 b6 s6 ⊢;rw [s5] at k6 b6 s6;obtain ⟨k7,b7,s7⟩:=bx w6 ZZ 46;generalize (w6.alloc (AO ZZ 46))=w7 at k7 b7 s7 ⊢;rw [s6] at k7 b7 s7;obtain ⟨k8,b8,s8⟩:=bx w7 #[AB AE 0] 47;generalize (w7.alloc (AO #[AB AE 0] 47))=w8 at k8 b8 s8 ⊢;rw [s7] at k8 b8 s8;have Cf:AI (AK w w8):=AF (((((((b1.trans (b2.mono AG)).trans (b3.mono AG)).trans (b4.mono AG)).trans (b5.mono AG)).trans (b6.mono AG)).trans (b7.mono AG)).trans (b8.mono AG));have H8:AI (w8.heap.size=w.heap.size+1+1+1+1+1+1+1+1):=AF AG;have HE:AI (∀W,AK w8 W->AY W w.heap.size 32 #[v0,v1,AA A n c,v3,v4,v5,v6]/\AY W (w.heap.size+1) 34 SD/\AY W (w.heap.size+1+1) 37 #[AA none 0 0]/\AY W (w.heap.size+1+1+1) 36 RR/\AY W (w.heap.size+1+1+1+1) 39 OO/\AY W (w.heap.size+1+1+1+1+1) 41 #[AB AE xs,AB AE xp,AB AE xi,AA VA vn vc]/\AY W (w.heap.size+1+1+1+1+1+1) 46 ZZ/\AY W (w.heap.size+1+1+1+1+1+1+1) 47 #[AB AE 0]):=AF (fun W hW=>⟨(((((((k1.below b2 AG).below b3 AG).below b4 AG).below b5 AG).below b6 AG).below b7 AG).below b8 AG).below hW AG,((((((k2.below b3 AG).below b4 AG).below b5 AG).below b6 AG).below b7 AG).below b8 AG).below hW AG,(((((k3.below b4 AG).below b5 AG).below b6 AG).below b7 AG).below b8 AG).below hW AG,((((k4.below b5 AG).below b6 AG).below b7 AG).below b8 AG).below hW AG,(((k5.below b6 AG).below b7 AG).below b8 AG).below hW AG,((k6.below b7 AG).below b8 AG).below hW AG,(k7.below b8 AG).below hW AG,k8.below hW AG⟩);clear k1 b1 s1 k2 b2 s2 k3 b3 s3 k4 b4 s4 k5 b5 s5 k6 b6 s6 k7 b7 s7 k8 b8 s8;refine JK (Gy (n:=1) (D6.2 ?_));have HT:AI (∀W,AK w8 W->W.cell? ⟨w.heap.size,0,none⟩=some v0/\W.cell? ⟨w.heap.size,1,none⟩=some v1/\W.cell? ⟨w.heap.size,2,none⟩=some (AA A n c)/\W.cell? ⟨w.heap.size,3,none⟩=some v3/\W.cell? ⟨w.heap.size,4,none⟩=some v4/\W.cell? ⟨w.heap.size,5,none⟩=some v5/\W.cell? ⟨w.heap.size,6,none⟩=some v6):=AF (fun W hW=>by have b:=(HE.o W hW).1;exact ⟨b.cell 0,b.cell 1,b.cell 2,b.cell 3,b.cell 4,b.cell 5,b.cell 6⟩)
 have HC:AI (∀W,AK w8 W->(W.cell? ⟨w.heap.size+1+1+1,0,none⟩=some (AB AE r.Ar)/\W.cell? ⟨w.heap.size+1+1+1,1,none⟩=some (AB AE r.no)/\W.cell? ⟨w.heap.size+1+1+1,2,none⟩=some (AB AE r.schema)/\W.cell? ⟨w.heap.size+1+1+1,5,none⟩=some (AB AE r.places))/\W.cell? ⟨w.heap.size+1+1+1+1,34,none⟩=some (AA LA ln lc)/\(W.cell? ⟨w.heap.size+1+1+1+1+1,0,none⟩=some (AB AE xs)/\W.cell? ⟨w.heap.size+1+1+1+1+1,3,none⟩=some (AA VA vn vc))/\(Instr.loadAt 34 (AU (some ⟨w.heap.size+1+1+1+1,2,none⟩))).run prog W=.ok (AP (yA holder)) W):=AF (fun W hW=>by obtain ⟨_,_,_,b3,b4,b5,_,_⟩:=HE.o W hW;exact ⟨⟨(b3.cell 0).trans Lm.o.1,(b3.cell 1).trans Lm.o.2.1,(b3.cell 2).trans Lm.o.2.2.1,(b3.cell 5).trans Lm.o.2.2.2⟩,(b4.cell 34).trans rK.o.1,⟨b5.cell 0,b5.cell 3⟩,Ei _ 2 ai.o (fun j v hj=>by rw [b4.cell];exact rK.o.2 j v hj)⟩)
 obtain ⟨d0,d1,d2,d3,d4,d5,d6⟩:=HT.o w8 (Af _ _);obtain ⟨_,_,_,_,_,_,k6,k7⟩:=HE.o w8 (Af _ _);have e7:=k7.cell 0;have f7:=k7.frozen 0;have l7:=k7.lt;simp only [Aj,Ao] at e7;obtain ⟨K6,K7⟩:=Al k6 k7;clear k6 k7;obtain ⟨⟨r0,r1,r2,r5⟩,Sp,⟨i0,i3⟩,_⟩:=HC.o w8 (Af _ _);have hcase:(¬0<=place\/(0<=place/\¬place < r.places)\/(0<=place/\place < r.places/\¬ln=4)\/(0<=place/\place < r.places/\ln=4/\¬xs=r.schema))\/(0<=place/\place < r.places/\ln=4/\xs=r.schema):=AG
 rcases hcase with hno | ⟨h1,h2,rfl,h4⟩
 ·have HN:AI (R=Iu w Gu 190):=AF (Co.o (by
   have:=Ys.o;cases hm:Eo 0 (some x) (val r.schema) r place links xs vs with
   | false=>rfl
   |
    true=>
    simp only [Eo,Bb,By] at hm;omega))
  rcases hno with h | ⟨h1,h⟩ | ⟨h1,h2,h⟩ | ⟨h1,h2,h3,h⟩
  all_goals go_upto_region 2 with fail
  all_goals go_upto_region 3 with (first | (refine Ci rfl 46 (AX 14) rfl (w.heap.size+1+1+1+1+1+1) AJ 46 ZZ (0,0) _ K6.o underlying46 rfl Nc.o ?_) | (refine wpList_store_rowTo rfl 46 (AX 14) (AX 50) rfl rfl (w.heap.size+1+1+1+1+1+1) ZZ rfl rfl 46 ZZ K6.o Nc.o rfl HZO.o ?_;rw [OQ _ _ _ _ _ K6.o]) | fail)
  all_goals
   have h6:AY (w8.setCell ⟨w.heap.size+1+1+1+1+1+1+1,0,none⟩ (AB AE 190)) (w.heap.size+1+1+1+1+1+1) 46 ZZ:=K6.o.far (LP (I9 _)) _;refine ⟨_,Xj (h:=w.heap.size+1+1+1+1+1+1+1) rfl rfl rfl h6 underlying46 rfl Nc.o (Qt ((K7.o.put 0 (AB AE 190)).cell 0)),?_⟩;rw [HN.o,fE.o];exact ⟨_,_,_,_,_,_,_,_,_,rfl,Ag.nil _ _ (Ay _),Ag.nil _ _ (Ay _),Ag.nil _ _ (Ay _),Cf.o.setCell uV _⟩
 cases hac:Dx x (val r.schema) vs with
 |
  false=>
  rw [hac] at RE;have HN:AI (R=Iu w Gu 190):=AF (Co.o (by unfold Eo;simp only [Ce,hac,Y5]))
  go_upto_region 2 with (
   go_at_call 39;refine (RE.o _ Cf.o).mono ?_;rintro e w9 ⟨rfl,Oe⟩;obtain ⟨Nf,qu⟩:=Al Oe (K6.o.below Oe K6.o.lt);have k79:=K7.o.below Oe K7.o.lt;have e9:=k79.cell 0;have f9:=k79.frozen 0;have l9:=k79.lt;simp only [Aj,Ao] at e9;have K79:=AF k79;clear Oe k79 e7 f7 l7)
  go_upto_region 3 with (first
   | (refine Ci rfl 46 (AX 14) rfl (w.heap.size+1+1+1+1+1+1) AJ 46 ZZ (0,0) _ qu.o underlying46 rfl Nc.o ?_)
   | (refine wpList_store_rowTo rfl 46 (AX 14) (AX 50) rfl rfl (w.heap.size+1+1+1+1+1+1) ZZ rfl rfl 46 ZZ qu.o Nc.o rfl HZO.o ?_;rw [OQ _ _ _ _ _ qu.o])
   | fail)
  have h6:AY (w9.setCell ⟨w.heap.size+1+1+1+1+1+1+1,0,none⟩ (AB AE 190)) (w.heap.size+1+1+1+1+1+1) 46 ZZ:=qu.o.far (LP (I9 _)) _;refine ⟨_,Xj (h:=w.heap.size+1+1+1+1+1+1+1) rfl rfl rfl h6 underlying46 rfl Nc.o (Qt ((K79.o.put 0 (AB AE 190)).cell 0)),?_⟩;rw [HN.o,fE.o];exact ⟨_,_,_,_,_,_,_,_,_,rfl,Ag.nil _ _ (Ay _),Ag.nil _ _ (Ay _),Ag.nil _ _ (Ay _),(AV Cf.o Nf.o).setCell uV _⟩
 |
  true=>
  rw [hac] at RE;have HN:AI (R=Iu w (C9 Aw seed x r place holder links vs) 0):=AF (Ii.o (by have:=Ys.o;simp only [Eo,Bb,By];exact ⟨⟨⟨⟨⟨⟨trivial,Ou.o⟩,h1⟩,h2⟩,by omega⟩,h4⟩,hac⟩))
  go_wp2_with (
   go_at_call 39;refine (RE.o _ Cf.o).mono ?_;rintro e w9 ⟨rfl,Oe⟩;have Nf:=AF Oe;clear Oe)
  have HM:AI (∀W,AK w8 W->Q6 w #[v0,v1,AA A n c,v3,v4,v5,v6] SD RR OO #[AB AE xs,AB AE xp,AB AE xi,AA VA vn vc] W):=AF (fun W hW=>by obtain ⟨b0,b1,_,b3,b4,b5,_,_⟩:=HE.o W hW;exact ⟨AV Cf.o hW,b0,b1,b3,b4,b5⟩)
  clear d0 d1 d2 d3 d4 d5 d6 r0 r1 r2 r5 Sp i0 i3 e7 f7 l7 m8;have hm9:=HM.o _ Nf.o;obtain ⟨_,_,k2,_,_,_,k6,k7⟩:=HE.o _ Nf.o;have e2:=k2.cell 0;have f2:=k2.frozen 0;have l2:=k2.lt;simp only [Aj,Ao] at e2;obtain ⟨K26,qu,K79,HM9⟩:=CD k2 k6 k7 hm9;clear hm9 k2 k6 k7 K6 K7;refine JK (Gy (n:=1) (D6.2 ?_));go_upto_region 4 with fail
  -- REGION 4
  have Fs:prog.follows .mixedOrders=true:=AJ
  have hkn':k < n:=by rw [HS.o.len];exact (BF.1 HX.o).1
  have hk1:(k:Int) < (n:Int):=AG
  have hk0:=Int.natCast_nonneg k
  obtain ⟨b,off,x',x0,x1,x2,x3,B,cc,x5,hA,hb,hx',hxl,hone,hcell⟩:=Nv HS.o hkn';rw [HX.o] at hx';injection hx' with hx';subst hx';subst hA;have fP:AI (∀W,AK w W->(Instr.loadAt 85 (AU (some ⟨b,off+k*6,none⟩))).run prog W=.ok (AP #[x0,x1,x2,x3,AA B x cc,x5]) W):=AF (fun W hW=>by have hr:W.rangeAt b (off+k*6) [x0,x1,x2,x3,AA B x cc,x5]:=fun j v hj=>(hW.cell (p:=⟨b,off+k*6+j,none⟩) hb).trans (hcell j v hj);simp only [Instr.loadAt,Instr.sureAddr,Cp,DL,Result.andThen_ok,Rz W b (off+k*6) 85 _ _ hr underlying85 rfl AJ])
  have hsz:(prog.info? 85).map (·.size)=some 6:=AJ
  clear hcell hone HC HT;have HTM:AI (∀W,Q6 w #[v0,v1,AA (some ⟨b,off,none⟩) n c,v3,v4,v5,v6] SD RR OO #[AB AE xs,AB AE xp,AB AE xi,AA VA vn vc] W->W.cell? ⟨w.heap.size,0,none⟩=some v0/\W.cell? ⟨w.heap.size,1,none⟩=some v1/\W.cell? ⟨w.heap.size,2,none⟩=some (AA (some ⟨b,off,none⟩) n c)/\W.cell? ⟨w.heap.size,3,none⟩=some v3/\W.cell? ⟨w.heap.size,4,none⟩=some v4/\W.cell? ⟨w.heap.size,5,none⟩=some v5/\W.cell? ⟨w.heap.size,6,none⟩=some v6):=AF (fun W hW=>⟨hW.tt.cell 0,hW.tt.cell 1,hW.tt.cell 2,hW.tt.cell 3,hW.tt.cell 4,hW.tt.cell 5,hW.tt.cell 6⟩);have HCM:AI (∀W,Q6 w #[v0,v1,AA (some ⟨b,off,none⟩) n c,v3,v4,v5,v6] SD RR OO #[AB AE xs,AB AE xp,AB AE xi,AA VA vn vc] W->(W.cell? ⟨w.heap.size+1+1+1,0,none⟩=some (AB AE r.Ar)/\W.cell? ⟨w.heap.size+1+1+1,1,none⟩=some (AB AE r.no)/\W.cell? ⟨w.heap.size+1+1+1,2,none⟩=some (AB AE r.schema)/\W.cell? ⟨w.heap.size+1+1+1,5,none⟩=some (AB AE r.places))/\W.cell? ⟨w.heap.size+1+1+1+1,34,none⟩=some (AA LA 4 lc)/\(W.cell? ⟨w.heap.size+1+1+1+1+1,0,none⟩=some (AB AE xs)/\W.cell? ⟨w.heap.size+1+1+1+1+1,3,none⟩=some (AA VA vn vc))/\(Instr.loadAt 34 (AU (some ⟨w.heap.size+1+1+1+1,2,none⟩))).run prog W=.ok (AP (yA holder)) W/\(Instr.loadAt 34 (AU (some ⟨w.heap.size+1,0,none⟩))).run prog W=.ok (.agg SD) W):=AF (fun W hW=>by exact ⟨⟨(hW.rr.cell 0).trans Lm.o.1,(hW.rr.cell 1).trans Lm.o.2.1,(hW.rr.cell 2).trans Lm.o.2.2.1,(hW.rr.cell 5).trans Lm.o.2.2.2⟩,(hW.oo.cell 34).trans rK.o.1,⟨hW.ii.cell 0,hW.ii.cell 3⟩,Ei _ 2 ai.o (fun j v hj=>by rw [hW.oo.cell];exact rK.o.2 j v hj),by rw [Nd.o];exact Tl _ seed HSL.o W (by rw [<-Nd.o];exact hW.sd)⟩)
  have hx1:x<=251:=by have h1:1*((x:Int)+4+1)<=r.places*((x:Int)+4+1):=P0 hp1 AG;have:=HP2.o;omega
  have hmul:IntKind.i64.wrap (r.places*((x:Int)+4+1))=r.places*((x:Int)+4+1):=Ca _ (by have h1:0<=r.places*((x:Int)+4+1):=LQ AG AG;have:=HP2.o;omega)
  have hm1:1<=r.places*((x:Int)+4+1):=by have h1:1*((x:Int)+4+1)<=r.places*((x:Int)+4+1):=P0 hp1 AG;omega
  refine oA ?_;have hS:=HM9.o.below (Af _ _).drew;have hb0:AK w9 w9.drew:=(Af _ _).drew;refine Pe (fun W=>Q6 w #[v0,v1,AA (some ⟨b,off,none⟩) n c,v3,v4,v5,v6] SD RR OO #[AB AE xs,AB AE xp,AB AE xi,AA VA vn vc] W) 18 _ Fs AJ rfl ?_;refine Bm 0 55 AJ rfl rfl EN hS AJ (v:=.agg SD) (fun W hW=>Cv rfl AJ (HCM.o W hW).2.2.2.2) ?_;refine Bm 1 56 AJ rfl rfl EN hS AJ Hy ?_;refine Bm 2 57 AJ rfl rfl EN hS AJ Hy ?_;refine Bm 3 58 AJ rfl rfl EN hS AJ Hy ?_;refine Bm 4 59 AJ rfl rfl EN hS AJ Hy ?_;refine Bm 5 60 AJ rfl rfl EN hS AJ Hy ?_;refine Bm 6 61 AJ rfl rfl EN hS AJ Hy ?_;refine Bm 7 62 AJ rfl rfl EN hS AJ Hy ?_;refine Bm 8 63 AJ rfl rfl EN hS AJ Hy ?_;refine Bm 9 64 AJ rfl rfl EN hS AJ (v:=AP #[x0,x1,x2,x3,AA B x cc,x5]) (fun W hW=>Cv rfl AJ (fP.o W hW.old)) ?_;refine Wm 10 65 AJ rfl rfl rfl rfl (enters_of func30 AJ rfl) (Tc x0 x1 x2 x3 x5 B x cc _ hxl) AJ ?_;rintro e JC ⟨rfl,MY⟩;have hS2:=hS.below MY;have hb2:=AV hb0 MY;refine ⟨_,rfl,hS2,?_⟩;refine Bm 11 66 AJ rfl rfl EN hS2 AJ (v:=AB AE (r.places*((x:Int)+4+1))) gj ?_;obtain ⟨PL,vX⟩:=Ad (Dp Aw seed (r.places*((x:Int)+4+1)).toNat);have AED:=Xo seed (r.places*((x:Int)+4+1)) JC HSL.o hm1 HP2.o (I7.o.below hS2.old);rw [<-Nd.o,<-vX] at AED;have XE:=AF vX;clear vX;refine Wm 12 67 AJ rfl rfl rfl rfl (enters_of func34 AJ rfl) AED AJ ?_;rintro e w12 ⟨pv,pcs,rfl,hpo,hpc,yL⟩;have hS3:=hS2.below yL;have hb3:=AV hb2 yL;refine ⟨_,rfl,hS3,?_⟩;obtain ⟨PA,pc,rfl⟩:=CG hpo;refine rgM 13 54 67 AJ rfl rfl (fun _ _ _ _ _ h=>by cases h.1) hS3 rfl (.inl rfl) rfl ?_;refine Bm 14 68 AJ rfl rfl EN hS3 rfl (v:=AA PA _ pc) (fun W _=>by (go_simp) <;> rfl) ?_;refine Bm 15 69 AJ rfl rfl EN hS3 rfl (v:=AB AE 0) (fun W _=>by (go_simp) <;> rfl) ?_;have k2:=K26.o.below hb3 K26.o.lt;have k6:=qu.o.below hb3 qu.o.lt;have k7:=K79.o.below hb3 K79.o.lt;refine Xf 16 37 9 68 (AU (some ⟨w.heap.size+1+1,0,none⟩)) (AA PA PL.length pc) AJ rfl rfl rfl rfl AJ AJ (vG w12 (w.heap.size+1+1) 0 (AA none 0 0) PA PL.length pc (k2.cell 0) (k2.frozen 0)) (hS3.put (w.heap.size+1+1) 0 _ (.inl rfl)) ?_;have k22:=k2.put 0 (AA PA PL.length pc);have k62:=k6.far (p:=⟨w.heap.size+1+1,0,none⟩) tw (AA PA PL.length pc);have k72:=k7.far (p:=⟨w.heap.size+1+1,0,none⟩) tw (AA PA PL.length pc);have hz8:=H8.o;have pX:=Nf.o.size;have AHl:=hb2.size;have ho2:=FO hpo (a:=⟨w.heap.size+1+1,0,none⟩) (by show w.heap.size+1+1 < JC.heap.size;omega) (AA PA PL.length pc);have hS4:=hS3.put (w.heap.size+1+1) 0 (AA PA PL.length pc) (.inl rfl);refine Xf 17 47 15 69 (AU (some ⟨w.heap.size+1+1+1+1+1+1+1,0,none⟩)) (AB AE 0) AJ rfl rfl rfl rfl AJ AJ (AGW _ (w.heap.size+1+1+1+1+1+1+1) (k72.cell 0) (k72.frozen 0)) (hS4.put (w.heap.size+1+1+1+1+1+1+1) 0 _ (.inr (.inr rfl))) ?_;refine Ed AJ ?_ _;refine ⟨rfl,?_⟩;simp only [CZ,Ch];have hz8:=H8.o;have pX:=Nf.o.size;have AHl:=hb2.size;have hm:=hS4.put (w.heap.size+1+1+1+1+1+1+1) 0 (AB AE 0) (.inr (.inr rfl));have k2e:=k22.far (p:=⟨w.heap.size+1+1+1+1+1+1+1,0,none⟩) uR (AB AE 0);have k6e:=k62.far (p:=⟨w.heap.size+1+1+1+1+1+1+1,0,none⟩) uR (AB AE 0);have k7e:=k72.put 0 (AB AE 0);have hoe:=OG (FO ho2 (a:=⟨w.heap.size+1+1+1+1+1+1+1,0,none⟩) (by show w.heap.size+1+1+1+1+1+1+1 < JC.heap.size;omega) (AB AE 0)) (BH pX AHl);have bO:w8.heap.size<=((w12.setCell ⟨w.heap.size+1+1,0,none⟩ (AA PA PL.length pc)).setCell ⟨w.heap.size+1+1+1+1+1+1+1,0,none⟩ (AB AE 0)).heap.size:=by rw [R4,R4];have:=yL.size;omega
  generalize ((w12.setCell ⟨w.heap.size+1+1,0,none⟩ (AA PA PL.length pc)).setCell ⟨w.heap.size+1+1+1+1+1+1+1,0,none⟩ (AB AE 0))=EH at hm k2e k6e k7e hoe bO ⊢;have e7:EH.cell? ⟨w.heap.size+1+1+1+1+1+1+1,0,none⟩=some (AB AE 0):=k7e.cell 0;obtain ⟨ALf,KB2,KB6,KB7,HOP,HPC⟩:=Fg hm k2e k6e k7e hoe hpc;have AHt:w8.heap.size<=EH.heap.size:=bO;clear hm k2e k6e k7e hoe hpc ho2 hpo k22 k62 k72 k2 k6 k7 hS hS2 hS3 hS4 hb0 hb2 hb3 MY yL AED;go_wp2_with fail;refine JK (Gy (n:=1) (D6.2 ?_));refine oA ?_;have hS:=ALf.o.below (Af _ _).drew;have AIM:AK EH EH.drew:=(Af _ _).drew;refine Pe (fun W=>Q6 w #[v0,v1,AA (some ⟨b,off,none⟩) n c,v3,v4,v5,v6] SD RR OO #[AB AE xs,AB AE xp,AB AE xi,AA VA vn vc] W) 17 _ Fs AJ rfl ?_;refine Bm 0 74 AJ rfl rfl EN hS AJ Hy ?_;refine Bm 1 75 AJ rfl rfl EN hS AJ Hy ?_;refine Bm 2 76 AJ rfl rfl EN hS AJ Hy ?_;refine Bm 3 77 AJ rfl rfl EN hS AJ Hy ?_;refine Bm 4 78 AJ rfl rfl EN hS AJ Hy ?_;refine Bm 5 79 AJ rfl rfl EN hS AJ Hy ?_;refine Bm 6 80 AJ rfl rfl EN hS AJ Hy ?_;refine Bm 7 81 AJ rfl rfl EN hS AJ Hy ?_;refine Bm 8 82 AJ rfl rfl EN hS AJ (v:=AP (yA holder)) (fun W hW=>Cv rfl AJ (HCM.o W hW).2.2.2.1) ?_;refine Bm 9 83 AJ rfl rfl EN hS AJ Hy ?_;refine Bm 10 84 AJ rfl rfl EN hS AJ Hy ?_;have hlx:vs.length=x:=by have h:=hac;rw [Dx,Bb] at h;exact F4 h.1
  refine Bm 12 86 AJ rfl rfl EN hS AJ GV ?_;refine Bm 13 87 AJ rfl rfl EN hS AJ (by intro W hW;have Sp:=(HCM.o W hW).2.1;(go_simp) <;> rfl) ?_;refine Wm 11 85 AJ rfl rfl rfl rfl (enters_of func44 AJ rfl) (qk Sy VA vn vc vs EH.drew (HV.o.mono BT hS.old) AG) AJ ?_;rintro e If ⟨cv,ccs,rfl,hcc,hco,QK⟩;have hS7:=hS.below QK;refine ⟨_,rfl,hS7,?_⟩;obtain ⟨CA,cc',rfl⟩:=CG hco;have hl4:links.length=4:=by have:=Ys.o;omega
  refine Wm 14 88 AJ rfl rfl rfl rfl (enters_of func56 AJ rfl) (AFF TC LA 4 lc links If (HL.o.mono BO hS7.old) AG) AJ ?_;rintro e Hn ⟨dv,dcs,rfl,hdc,hdo,WN⟩;have YD:=hS7.below WN;refine ⟨_,rfl,YD,?_⟩;obtain ⟨DA,dc',rfl⟩:=CG hdo;obtain ⟨PP,RQ⟩:=Ad (Fo ⟨r.Ar,r.no,k,place,holder,AA CA vs.length cc',AA DA links.length dc',AA none 0 0⟩);have hbc:prog.built 46 [(0,AB AE r.Ar),(1,AB AE r.no),(2,AB AE k),(3,AB AE place),(4,AP (yA holder)),(5,AA CA vs.length cc'),(6,AA DA links.length dc')]=some PP:=by rw [RQ];exact y8 _ _ _ _ ai.o _ _ _ _ _ _
  refine Bm 15 89 AJ rfl rfl EN YD AJ (v:=.agg PP) (fun W _=>Zj (Er (congrArg (prog.built 46) AJ) hbc)) ?_;have hb16:AK EH Hn:=(AIM.trans QK).trans (WN.mono QK.size);have k6f:=KB6.o.below hb16 KB6.o.lt;have hPs:PP.size=39:=by rw [RQ];exact Jw ai.o
  have hZs:ZZ.size=PP.size:=by rw [fE.o,hPs];rfl
  refine dY 16 46 14 89 (w.heap.size+1+1+1+1+1+1) PP 46 ZZ AJ rfl rfl rfl rfl AJ AJ k6f (by rw [hPs];exact ix) hZs (by rw [RQ];exact QN rfl rfl rfl) (YD.row (w.heap.size+1+1+1+1+1+1) PP (.inr (.inl rfl))) ?_;refine Ed AJ ?_ _;refine ⟨rfl,?_⟩;simp only [CZ,Ch]
  -- THE TAIL
  have hzA:=H8.o;have hzB:w8.heap.size<=EH.heap.size:=AHt;have hzC:=hb16.size;have hzD:EH.heap.size<=If.heap.size:=QK.size;have pq:=YD.row (w.heap.size+1+1+1+1+1+1) PP (.inr (.inl rfl));have AEs:AY (Hn.setRow (w.heap.size+1+1+1+1+1+1) PP) (w.heap.size+1+1+1+1+1+1) 46 PP:=setRow_heap Hn _ ZZ PP _ _ k6f;have AEl:Ag 1 Bt (Hn.setRow (w.heap.size+1+1+1+1+1+1) PP) (AA CA vs.length cc') vs:=B9 (JL (Eh hco WN) (fun g h1 _=>Gb _ _ _ _ (by have h:EH.heap.size<=g:=h1;omega))) ⟨hcc.1,hcc.2⟩ rfl;have AEq:Ag 32 CP (Hn.setRow (w.heap.size+1+1+1+1+1+1) PP) (AA DA links.length dc') links:=B9 (JL hdo (fun g h1 _=>Gb _ _ _ _ AG)) (JF hdc) rfl;have AEm:Ag 32 CP (Hn.setRow (w.heap.size+1+1+1+1+1+1) PP) (AA PA PL.length pc) PL:=B9 (JL (Eh HOP.o hb16) (fun g h1 _=>Gb _ _ _ _ AG)) (JF HPC.o) rfl;have ADw:AY (Hn.setRow (w.heap.size+1+1+1+1+1+1) PP) (w.heap.size+1+1) 37 #[AA PA PL.length pc]:=(Gb _ _ _ _ AG).trans (KB2.o.below hb16 KB2.o.lt);have ADv:AY (Hn.setRow (w.heap.size+1+1+1+1+1+1) PP) (w.heap.size+1+1+1+1+1+1+1) 47 #[AB AE 0]:=(Gb _ _ _ _ AG).trans (KB7.o.below hb16 KB7.o.lt);have hNV:NewAt (w8.heap.size) (AA CA vs.length cc'):=fun r hr=>by have h:EH.heap.size<=r:=Tk hco r hr;omega
  have hNL:NewAt (w8.heap.size) (AA DA links.length dc'):=fun r hr=>by have h:=Tk hdo r hr;omega
  have hNP:NewAt (w8.heap.size) (AA PA PL.length pc):=Tk HOP.o;have pY:w8.heap.size<=(Hn.setRow (w.heap.size+1+1+1+1+1+1) PP).heap.size:=by rw [setRow_size];omega
  have hwh:=fH.o (Hn.setRow (w.heap.size+1+1+1+1+1+1) PP) CA DA none vs.length cc' links.length dc' 0 0 pq.old AG;rw [rD.o,<-RQ] at hwh;generalize Hn.setRow (w.heap.size+1+1+1+1+1+1) PP=w16 at pq AEs AEl AEq AEm ADw ADv pY hwh ⊢;have rF:=AF RQ;have HPS:AI ((prog.info? 46).map (·.size)=some PP.size):=AF (by rw [hPs];exact ix);obtain ⟨ALe,AFQ,AIu,cQ,ALR,AIr,AIq,HNV,TR,rO,HWF,ALD⟩:=QX pq AEs AEl AEq AEm ADw ADv hNV hNL hNP hwh pY;obtain ⟨fP,rQ⟩:=Al hlx hl4;obtain ⟨d0,d1,d2,d3,d4,d5,d6⟩:=HTM.o w16 pq;clear pq AEs AEl AEq AEm ADw ADv hNV hNL hNP hwh pY RQ hPs hZs hbc hco hcc hdo hdc hS hS7 YD AIM QK WN hb16 k6f AHt hzB hzC hzD e7 hlx hl4 bO;refine JK (JK (Gy (n:=1) (D6.2 ?_)));go_wp2_with (first
   | (refine Ci rfl 46 (AX 14) rfl (w.heap.size+1+1+1+1+1+1) AJ 46 PP (0,0) _ AFQ.o underlying46 rfl HPS.o ?_)
   | (
    go_at_call 40;refine HWF.o.mono ?_;rintro e Td ⟨F,L,rfl,hF,hL,ik,hNF,hNM⟩;obtain ⟨FA,fc,rfl⟩:=hF.form;obtain ⟨MA,mc,rfl⟩:=hL.form;obtain ⟨X,hX⟩:=Ad (JW ⟨r.Ar,r.no,k,place,holder,AA FA (upto x).length fc,AA CA vs.length cc',0,zeros 32,AA none 0 0,AA MA (upto 4).length mc,AA DA links.length dc',(x:Int)+4+1,(x:Int)+4⟩);rw [<-hX];obtain ⟨HX,ALq,jM,RL,JI,fO⟩:=Fg hX hF hL ik hNF hNM;clear hX hF hL ik hNF hNM)
   | (go_at_call 57;refine (ADj HX.o _).mono ?_;rintro e H9 ⟨rfl,rfl⟩)
   | fail)
  obtain ⟨k18,b18,jk⟩:=bx Td X 96;generalize (Td.alloc (AO X 96))=H9 at k18 b18 jk ⊢;obtain ⟨g,hg⟩:=Ad Td.heap.size;rw [<-hg] at k18 jk ⊢;have UT:AK w16 H9:=AV RL.o b18;have hm18:=ALe.o.below UT;have pY:=ALD.o;have AKM:=RL.o.size;have hzA:=H8.o;obtain ⟨ms,hms⟩:=Ad (Fh Aw x (N9 r place holder links vs));have AMO:(k:Int)<=9223372036854775807:=by have:=HS.o.le;omega
  have hseq:zJ Fence.wide 2 prog 81 #[AU (some ⟨g,0,none⟩)] vN TB (KX H9.heap.size (w.heap.size+1+1+1+1+1+1) g) (GM ms) (fun xs=>xs=ms) H9:=by
   have h:=vM 2 H9.heap.size (w.heap.size+1+1+1+1+1+1) g ⟨r.Ar,r.no,k,place,holder,AA FA (upto x).length fc,AA CA vs.length cc',0,zeros 32,AA none 0 0,AA MA (upto 4).length mc,AA DA links.length dc',(x:Int)+4+1,(x:Int)+4⟩ FA CA MA DA _ fc _ cc' _ mc _ dc' (upto x) vs (upto 4) links H9 rfl rfl rfl rfl
    (fun W hk=>⟨(ALq.o.mono BT b18).kx Iw JI.o AG (Ac _) hk,(AIu.o.mono BT UT).kx Iw HNV.o AG (Ac _) hk,(jM.o.mono BT b18).kx Iw fO.o AG (Ac _) hk,(cQ.o.mono BO UT).kx Iw TR.o AG (Ac _) hk⟩)
    (by rw [<-HX.o];exact k18) ai.o rfl (Ac _) (by rw [IX,fP.o];exact Ac _) (by rw [IX,rQ.o];exact Ac _) (by show FI (k:Int);unfold FI;omega)
    (by show 0<=place/\place<=1000;omega) cz cx (Vz AG) (Vz AG) (I7.o.below hm18.old)
   rw [hms,Fh,N9,rD.o];exact h
  have aW:AI (∀m∈ms,m.2.length=32/\∀z∈m.2,0<=z/\z < 256):=AF (by rw [hms];exact pN);have aV:AI (ms.length=x+5):=AF (by rw [hms];exact Qn fP.o rQ.o);have AI2:AI ((PL.length:Int)=r.places*((x:Int)+4+1)):=AF (by rw [XE.o,Sl];omega);have vw:AI (∀(j:Nat) (m:Int×AQ),ms[j]? =some m->0<=m.1/\m.1.toNat < PL.length):=AF (fun j m hj=>by rw [hms] at hj;obtain ⟨h1',h2'⟩:=jV (c:=N9 r place holder links vs) fP.o rQ.o hj;have h3':m.1=place*((x:Int)+4+1)+j:=h2';have h5':(place+1)*((x:Int)+4+1)<=r.places*((x:Int)+4+1):=P0 AG AG;have h6':0<=place*((x:Int)+4+1):=LQ h1 AG;have Tr:=AI2.o;rw [Int.add_mul,Int.one_mul] at h5';omega)
  have AI3:AI (PL.length<=256):=AF (by have:=AI2.o;have:=HP2.o;omega);obtain ⟨sg,hsg⟩:∃sg:Int×AQ->Cn,sg=fun m=>Lu Aw seed PL m.1.toNat m.2:=⟨_,rfl⟩;obtain ⟨q,hq⟩:=Ad (⟨r.Ar,r.no,k,place,holder,AA CA vs.length cc',AA DA links.length dc',AA none 0 0⟩:UH);have ph:q.holder.length=32:=by rw [hq];exact ai.o
  have HI0:AI (Yc H9.heap.size g ms sg q w H9 [] H9):=AF ⟨rfl,Ay _,KX.refl _ _ _ _,hm18.old,none,0,[],List.range H9.heap.size,fun b hb=>by rw [Eu];omega,by
   have h:=AFQ.o.below UT AFQ.o.lt;rw [rF.o] at h;rw [hq];exact h,⟨Ef _ _ _ _,fun r hr=>absurd hr Nl,fun b hb=>Eu.1 hb,by rw [Eu];omega,Ap.nil⟩⟩
  obtain ⟨zP,HMS,HSG,HQ,TP,ALd,Pc⟩:=LU hseq hms hsg hq ph hm18 UT;have ze:AI (H9.heap.size=g+1/\w.heap.size+8<=g):=AF ⟨jk,by omega⟩;have KG:=AF k18;clear hseq hms hsg hq ph hm18 UT hg k18 b18 pY AKM hzA jk d0 d1 d2 d3 d4 d5 d6;refine Vx ?_;refine ABE fun L hL=> ?_;refine UJ rfl (gf:=81) (lb:=#[AU (some ⟨g,0,none⟩)]) (by rw [hL];rfl) (enters_of func81 AJ rfl) zP.o (fun _=>rfl) ms.length
   (Yc H9.heap.size g ms sg q w H9) (fun _ _=>False)
   (fun s A C h t=>h.below (Ac _) MG t) (fun s A C h b=>h.book b (Ac _) MG MG MG) (fun s A h=>h.le) (fun A C h=>h.others) (fun A B C h k=>h.trans k) (fun W l o o' hl _ _=>KX.put W o' hl MG)
   HI0.o (fun y a' W=>∃Bx,(H9.heap.size<=Bx/\AY W Bx 34 (yA y.2))/\a'=⟨((((L.set 94 (AB AE y.1)).set 95 (AP (yA y.2))).set 16 (AB AE y.1)).set 17 (AU (some ⟨Bx,0,none⟩))).toArray,[]⟩)
   (fun y a' A C h b=>by obtain ⟨Bx,⟨h1,h2⟩,h3⟩:=h;exact ⟨Bx,⟨h1,GU h2 b⟩,h3⟩) ?assign ?body ?done ?pan
  case pan=>exact fun _ _ _ _ h _=>h.elim
  case assign=>
   rintro l pre y W hI hG hsz;subst hL;have hyl:=(aW.o y (Cr hG.2)).1;have hzb:=JJ W 34;obtain ⟨Cd,qx,HI⟩:=BB Fw hyl hI;clear hI hG hyl
   dsimp only [vN]
   gi_wp2_with (refine Jo rfl 34 (AX 17) (AX 95) rfl W.heap.size y.2 rfl rfl 34 (yA (zeros 32)) hzb.1 Cd.o EY qx.o ?_;intro w7 k7 hb7 Ec)
   have hbW:=((Af W.heap.size W).alloc (Ac _) _).trans hb7;exact ⟨(KeepsOthers.alloc _ _).trans (TE.others ⟨Ec,_,_,_,hzb.1⟩),(KX.refl _ _ _ _).below hbW AG MG,HI.o.below (Ac _) MG hbW,by omega⟩
  case body=>
   rintro l pre y a' W hI hG ⟨Bx,⟨hBx,hbx⟩,rfl⟩ hsz;subst hL;simp only [CZ,Ch];have hpl:pre.length < ms.length:=(BF.1 hG.2).1;obtain ⟨hyl,hyr⟩:=aW.o y (Cr hG.2);obtain ⟨hy0,hy1⟩:=vw.o _ _ hG.2;obtain ⟨RA,rc,cs,S,hSO,hE,hR⟩:=hI.row;have k1:AY W (w.heap.size+1) 34 (yA seed):=by rw [<-Nd.o];exact (hI.kx.same _ MG AG).trans ALd.o.sd
   have k2:AY W (w.heap.size+1+1) 37 #[AA PA PL.length pc]:=(hI.kx.same _ MG AG).trans (AIr.o.below Pc.o AIr.o.lt);have hsw:AS prog 58 #[AP (yA seed),AA PA PL.length pc,AB AE y.1,AP (yA y.2)] W (AGD (sg y) W):=by have h:=oO seed y.2 PA PL.length pc y.1.toNat PL W HSL.o hyl hyr AI3.o hy1 (I7.o.below hI.old) ((ALR.o.mono BO Pc.o).kx Iw rO.o (by have:=ze.o;have:=H8.o;omega) (Ac _) hI.kx);rw [Ul hy0] at h;rw [HSG.o];exact h
   have c2:=k2.cell 0;simp only [Aj,Ao] at c2;obtain ⟨Cd,qx⟩:=Al Fw hyl;obtain ⟨j0,z0,hj⟩:=WK;obtain ⟨HJ,K1,KBX,XD,HI,HG,HE,aS,HR,jJ⟩:=dF hj k1 hbx hsw hI hG hE hSO hR hpl;clear hpl hyl hyr hy0 hy1 hE hR hSO k1 k2 hsw hbx hI hG hj
   gi_wp2_with (first
    | (refine JB rfl 34 (AX 8) rfl (w.heap.size+1) seed rfl 34 _ K1.o underlying34 rfl Cd.o HSL.o ?_)
    | (refine JB rfl 34 (AX 17) rfl Bx y.2 rfl 34 _ KBX.o underlying34 rfl Cd.o qx.o ?_)
    | (
     refine ⟨trivial,(CallsIn.inRound l (FK.2 XD.o)).mono ?_⟩;rintro e w5 ⟨v1,cs1,v2,cs2,rfl,ho1,hc1,ho2,hc2,hb5⟩;obtain ⟨A1,c1,rfl⟩:=CG ho1;obtain ⟨A2,c2',rfl⟩:=CG ho2;have kE5:=HE.o.below hb5 HE.o.lt;have c5:=(PS kE5 TP.o).claims;have f5:=kE5.frozen 38;have l5:=kE5.lt;have hS5:∀b∈S,b < W.heap.size:=HR.o.lt;have HLF:AI (∀o,Cy (veil S ((w5.alloc o).alloc o)) [AB AE (sg y).index,AA A1 (sg y).chains.length c1,AA A2 (sg y).path.length c2'] (sg y)):=AF (fun o=>ADn hS5 ho1 hc1 ho2 hc2 (((Af _ _).alloc (Ac _) o).alloc AZ o));have HR6:AI (∀o,J9 H9.heap.size 71 3 Cy (w.heap.size+1+1+1+1+1+1) (AA RA pre.length rc) (pre.map sg) ((w5.alloc o).alloc o) cs S):=AF (fun o=>(HR.o.below Bc hb5).below Bc (((Af _ _).alloc (Ac _) o).alloc AZ o));have Q7:AI (∀o,((w5.alloc o).alloc o).ownsRow H9.heap.size 71 3 (AA RA pre.length rc) pre.length cs):=AF (fun o=>by have h:=(HR6.o o).own;rw [CY] at h;exact h)
     obtain ⟨Cg,KE5⟩:=Al hb5 kE5;have AMG:pre.length < 4294967296:=by have:=jJ.o;have:=aV.o;omega
     have HZ5:AI (H9.heap.size+2<=w5.heap.size):=AF (BH hsz hb5.size);have lQ:AI (∀o,H9.heap.size<=((w5.alloc o).alloc o).heap.size):=AF (fun o=>by have:=HZ5.o;rw [Ev,Ev];omega)
     have lj:AI (some (w.heap.size+1+1+1+1+1+1)≠(Value.slice RA pre.length rc).ownBlock):=AF (Dj (Q7.o (AO #[] 0)) MG);have H63:AI (pre.length+1<=maxLen):=AF Gx;have Yz:AI ((pre.length+1)*56<=140737488355328):=AF AG;clear ho1 hc1 ho2 hc2 hb5 kE5 hS5)
    | (
     gi_at_builtin
     refine wpListIn_append_own_at _ rfl (AX 109) (AX 111) 44 rfl H9.heap.size 71 j0 z0 3 56 underlying44 HJ.o.1 HJ.o.2.1 HJ.o.2.2.2.1 HJ.o.2.2.2.2 HJ.o.2.2.1 Ai _ _ _ rfl (Q7.o _) ⟨w5.heap.size+1,0,none⟩ 1 1 [AB AE (sg y).index,AA A1 (sg y).chains.length c1,AA A2 (sg y).path.length c2'] rfl rfl AKJ (mZ _ _ _ _ _ _ _) H63.o Yz.o (lQ.o _) ?_;intro v' w7 Gh Ec _ PN;obtain ⟨A',c',rfl⟩:=CG Gh;have kE7:=((KE5.o.alloc _).alloc _).grown Ec lj.o;have c7:=(PS kE7 TP.o).claims;have f7:=kE7.frozen 38;have l7:=kE7.lt;obtain ⟨rL,HG7,AL2⟩:=BB Gh Ec PN;clear Gh Ec PN kE7)
    | fail)
   have AMR:=HZ5.o;have hgg:=ze.o;have hpush:=HI.o.push HG.o TP.o (w6:=(w5.alloc _).alloc _) (((KX.refl _ _ _ _).below Cg.o AG AG).below ((BK _ _).alloc AZ _) AG AG) ((AV HI.o.old Cg.o).trans ((((Af w5.heap.size w5).alloc (Ac _) _).alloc AZ _).mono (BH HI.o.old.size Cg.o.size))) aS.o ((KE5.o.alloc _).alloc _) (HR6.o _) Bd AG AG rL.o HG7.o AL2.o rfl (HLF.o _);exact ⟨(((TB.others Cg.o).trans (KeepsOthers.alloc _ _)).trans (KeepsOthers.alloc _ _)).trans ((dp (Q7.o _) HG7.o).trans (KeepsOthers.setCell _ _ _)),hpush.1,hpush.2⟩
  rintro D ys W hD rfl hI hdf;subst hL;obtain ⟨A',c',cs,S,hSO,hE,hR⟩:=hI.row;have k7:AY W (w.heap.size+1+1+1+1+1+1+1) 47 #[AB AE 0]:=(hI.kx.same _ MG AG).trans (AIq.o.below Pc.o AIq.o.lt);obtain ⟨CL,kP⟩:∃CL,CL=Fo {q with claims:=AA A' ys.length c'}:=⟨_,rfl⟩;rw [<-kP] at hE;have PZ:AI ((prog.info? 46).map (·.size)=some CL.size):=AF (by rw [kP,Jw (by exact TP.o)];exact ix);have HCO:AI (CL.all (·.oneCell')=true):=AF (by rw [kP,HQ.o];exact QN rfl rfl rfl);have e7:=k7.cell 0;have f7:=k7.frozen 0;have l7:=k7.lt;simp only [Aj,Ao] at e7;obtain ⟨KE,K7,HI,HR,Yx,HD,Pj⟩:=LU hE k7 hI hR hdf hD kP;clear hE k7 hI hR hdf hD kP;refine Gy (n:=1) (D6.2 ?_);go_wp2_with (first
   | (refine Ci rfl 46 (AX 14) rfl (w.heap.size+1+1+1+1+1+1) AJ 46 CL (0,0) _ KE.o underlying46 rfl PZ.o ?_)
   | (refine wpList_store_rowTo rfl 46 (AX 14) (AX 114) rfl rfl (w.heap.size+1+1+1+1+1+1) CL rfl rfl 46 CL KE.o PZ.o rfl HCO.o ?_;rw [OQ _ _ _ _ _ KE.o])
   | fail)
  have hself:W.setCell ⟨w.heap.size+1+1+1+1+1+1+1,0,none⟩ (AB AE 0)=W:=by rw [setCell_eq_setRow W (w.heap.size+1+1+1+1+1+1+1) 0 _ _ _ _ K7.o];exact OQ _ _ _ _ _ K7.o
  rw [hself];have hB:Book H9.heap.size W (W.putObj D (.deferred none)):=Book.put _ _ _ HD.o Yx.o rfl;have hmk:Eo 0 (some x) (val r.schema) r place links xs vs=true:=by have:=Ou.o;have:=rQ.o;simp only [Eo,Bb,By];exact ⟨⟨⟨⟨⟨⟨trivial,Ou.o⟩,h1⟩,h2⟩,rQ.o⟩,h4⟩,hac⟩
  refine ⟨by simp,.inl ⟨_,_,rfl,run_takeDeferred Yx.o,?_⟩⟩;refine ⟨_,Xj (h:=w.heap.size+1+1+1+1+1+1+1) rfl rfl rfl (GU KE.o hB) underlying46 rfl PZ.o (Qt ((GU K7.o hB).cell 0)),?_⟩;have hzw:w.heap.size<=w8.heap.size:=Cf.o.size;have hV:=(((AIu.o.mono BT Pc.o).kx Iw HNV.o (by have:=H8.o;omega) (Ac _) HI.o.kx).PT eF hB.size (fun _ _ h=>YV hB h)).AF1 Iw HNV.o hzw;have hLk:=(((cQ.o.mono BO Pc.o).kx Iw TR.o (by have:=H8.o;omega) (Ac _) HI.o.kx).PT Rr hB.size (fun _ _ h=>YV hB h)).AF1 Iw TR.o hzw;have hC0:=(B9 (Sc (S:=List.range w.heap.size) HR.o.own (fun b hb=>by rw [Eu] at hb;have:=ze.o;omega)) ⟨HR.o.els.1,fun i x hi=>JY _ _ _ _ gp (fun _ _=>au (fun b hb=>hSO b (Eu.1 hb))) (HR.o.els.2 i x hi)⟩ rfl);have hC:=hC0.PT JY (by rw [EM,EM];exact hB.size) (fun _ _ h=>jX hB h);have ec:ys.map sg=(C9 Aw seed x r place holder links vs).claims:=by rw [HMS.o,HSG.o,XE.o];rfl
  rw [ec] at hC;rw [Ii.o hmk,Pj.o,HQ.o];refine ⟨CA,vs.length,cc',DA,links.length,dc',A',ys.length,c',?_,hV,hLk,hC,Below.book HI.o.old hB MG⟩;simp only [C9,N9,rD.o]
attribute [local go_sem] Oper.semAt_some
theorem oq {P:BE} {fn:Func} {tmps:Array AN} {p q:Tmp} {ty t:Ae} {ds:TypeDesc} {cs:Array AN} {v:AN} {g:Nat} {w:AH} (hr:fn.results=#[.cell p ty,.tmp q]) (hp:tmps.getD p undef=AU (some ⟨g,0,none⟩)) (hq:tmps.getD q undef=v) (hg:AY w g t cs) (hu:P.underlying ty=some ds) (hds:(match ds with | .struct _ | .array _ _=>true | _=>false)=true) (hi:(P.info? ty).map (·.size)=some cs.size):
 (results fn tmps).run P w=.ok (BU #[.agg cs,v]) w:=by
 have hp':tmps[p]?.getD undef=AU (some ⟨g,0,none⟩):=by simpa using hp
 have hq':tmps[q]?.getD undef=v:=by simpa using hq
 simp [results,hr,hp',hq',asAddr,run_loadVar_row w g t ty cs (0,0) ds hg hu hds hi]
theorem ABs {ns:List Nat} {sc:Int} {x:Nat} (h:Ba ns sc=some x):∃k:Nat,sc=k/\ns[k]? =some x:=by
 unfold Ba at h;by_cases h0:0<=sc
 ·rw [Ak h0] at h
  exact ⟨sc.toNat,(Ul h0).symm,h⟩
 rw [Ah h0] at h;cases h
theorem Iu.outer {w W w' w'':AH} {q:EG} {e0:Int} {VA LA KA:Option Aa} {vn vc ln lc kn kc g:Nat} (h1:Ag 1 Bt (Vy W.heap.size w') (AA VA vn vc) q.values) (h2:Ag 32 CP (Vy W.heap.size w') (AA LA ln lc) q.links) (h3:Ag 3 Cy (Vy W.heap.size w') (AA KA kn kc) q.claims)
 (hg:w'.grownBy w'' (some g)) (hgB:g < W.heap.size) (hw:w.heap.size<=W.heap.size) (hb:AK w w''):Iu w q e0 (AW (BU #[AP (Fo ⟨q.Ar,q.round,q.schema,q.place,q.holder,AA VA vn vc,AA LA ln lc,AA KA kn kc⟩),AB AE e0])) w'':=
 ⟨VA,vn,vc,LA,ln,lc,KA,kn,kc,rfl,h1.wP BT eF hg hgB hw,h2.wP BO Rr hg hgB hw,h3.wP Bc JY hg hgB hw,hb⟩
theorem bL (v0 v1 v3 v4 v5 v6:AN) (A:Option Aa) (n c:Nat) (ns:List Nat) (ck:Int) (val:Int->Int->Int->Bool) (seed:AQ) (r:Br) (place pe it xs xp xi:Int) (holder:AQ) (links:List (AQ)) (vs:AQ) (VA LA:Option Aa) (vn vc ln lc:Nat) (w:AH) (hs:Ag 6 Kx w (AA A n c) ns)
 (hK:PU (AP #[v0,v1,AA A n c,v3,v4,v5]) (AP #[v0,v1,AA A n c,v3,v4,v5,v6]) ck val w) (hv:Ag 1 Bt w (AA VA vn vc) vs) (hl:Ag 32 CP w (AA LA ln lc) links) (hsd:seed.length=32) (hh:holder.length=32) (hro:r.root.length=32) (LC:Cc w):
 AS prog 9 #[AP #[v0,v1,AA A n c,v3,v4,v5,v6],AP (yA seed),AP (rdA r),AB AE place,AP (Hp pe it holder (AA LA ln lc)),AP #[AB AE xs,AB AE xp,AB AE xi,AA VA vn vc]] w
  (if Eo ck (Ba ns r.schema) (val r.schema) r place links xs vs=true then Iu w (C9 Aw seed ((Ba ns r.schema).getD 0) r place holder links vs) 0 else Iu w Gu (eD ck)):=by
 obtain ⟨R,hR⟩:∃R,R=(if Eo ck (Ba ns r.schema) (val r.schema) r place links xs vs=true then Iu w (C9 Aw seed ((Ba ns r.schema).getD 0) r place holder links vs) 0 else Iu w Gu (eD ck)):=⟨_,rfl⟩;obtain ⟨RR,hRR⟩:=Ad (rdA r);obtain ⟨OO,Oh⟩:=Ad (Hp pe it holder (AA LA ln lc));obtain ⟨SD,hSD⟩:=Ad (yA seed);obtain ⟨ZZ,eP⟩:=Ad (Fo ⟨0,0,0,0,zeros 32,AA none 0 0,AA none 0 0,AA none 0 0⟩);rw [<-hR,<-hRR,<-Oh,<-hSD];have MN:AI ((prog.info? 36).map (·.size)=some RR.size):=AF Uh;have aU:AI ((prog.info? 39).map (·.size)=some OO.size):=AF (by rw [Oh,pI hh];kernel_rfl);have Yj:AI ((prog.info? 34).map (·.size)=some SD.size):=AF (by rw [hSD,CJ,hsd];kernel_rfl);have HZI:AI ((prog.info? 46).bind (·.zero)=some (.agg ZZ)):=AF Qj;have Nc:AI ((prog.info? 46).map (·.size)=some ZZ.size):=AF Qj;have HZO:AI (ZZ.all (·.oneCell')=true):=AF Qj;have Lh:AI (∀W,AK w W->AS prog 23 #[AP #[v0,v1,AA A n c,v3,v4,v5,v6]] W fun e w'=>e=AW (AB AE ck)/\AK W w'):=AF hK.chk;have Ou:AI (∀W,AK w W->AS prog 27 #[AP #[v0,v1,AA A n c,v3,v4,v5,v6],.agg RR] W fun e w'=>e=AW (.bool (Gk (Ba ns r.schema) r.places))/\AK W w'):=AF (fun W hW=>by rw [hRR];exact YI v0 v1 v3 v4 v5 v6 A n c ns r W (hs.mono Di hW));have M8:AI (∀x k W,AK w W->r.schema=(k:Nat)->ns[k]? =some x->ck=0->Gk (Ba ns r.schema) r.places=true->AS prog 28 #[AP #[v0,v1,AA A n c,v3,v4,v5,v6],.agg SD,AA none 0 0,.agg RR,AB AE place,.agg OO,AP #[AB AE xs,AB AE xp,AB AE xi,AA VA vn vc]] W fun e w'=>∃q e0,Iu W q e0 e w'/\q.holder.length=32/\∀w1 e1 w2,Iu w1 q e0 e1 w2->w1=w->R e1 w2):=AF (fun x k W hW h1 h2 h3 h4=>by
  have hn:Ba ns r.schema=some x:=by rw [h1,Ba,Ak AG,Cq];exact h2
  rw [hn] at h4;rw [hSD,hRR,Oh];refine (pQ v0 v1 v3 v4 v5 v6 A n c ns ck val seed r place pe it xs xp xi holder links vs VA LA vn vc ln lc x k W (hs.mono Di hW) (hK.below hW) (hv.mono BT hW) (hl.mono BO hW) hsd hh hro (LC.below hW) h2 h1 h4).mono ?_;intro e w' h;rw [hR,hn,h3];by_cases hm:Eo 0 (some x) (val r.schema) r place links xs vs=true
  ·rw [Ak hm] at h
   exact ⟨_,_,h,hh,fun w1 e1 w2 hr hw=>by rw [Ak hm];rw [hw] at hr;exact hr⟩
  rw [Ah hm] at h;exact ⟨_,_,h,rfl,fun w1 e1 w2 hr hw=>by rw [Ah hm];rw [hw] at hr;exact hr⟩)
 have Co:AI (¬(ck=0/\Gk (Ba ns r.schema) r.places=true)->∀w2,AK w w2->R (AW (BU #[.agg ZZ,AB AE (eD ck)])) w2):=AF (fun h w2 hb=>by rw [hR,Ah (fun hm=>h (by simp only [Eo,Bb,By] at hm;exact ⟨hm.1.1.1.1.1.1,hm.1.1.1.1.1.2⟩)),eP];exact ⟨_,_,_,_,_,_,_,_,_,rfl,Ag.nil _ _ (Ay _),Ag.nil _ _ (Ay _),Ag.nil _ _ (Ay _),hb⟩)
 clear hs hK hv hl hsd hh hro LC hR hRR Oh hSD eP;go_enter func9,ntmps9;go_upto_region 1 with (first | (refine Ek rfl 46 rfl ZZ HZI.o ?_) | fail);obtain ⟨k1,b1,s1⟩:=bx w #[v0,v1,AA A n c,v3,v4,v5,v6] 32;generalize (w.alloc (AO #[v0,v1,AA A n c,v3,v4,v5,v6] 32))=w1 at k1 b1 s1 ⊢;obtain ⟨k2,b2,s2⟩:=bx w1 SD 34;generalize (w1.alloc (AO SD 34))=w2 at k2 b2 s2 ⊢;rw [s1] at k2 b2 s2;obtain ⟨k3,b3,s3⟩:=bx w2 RR 36;generalize (w2.alloc (AO RR 36))=w3 at k3 b3 s3 ⊢;rw [s2] at k3 b3 s3;obtain ⟨k4,b4,s4⟩:=bx w3 OO 39;generalize (w3.alloc (AO OO 39))=w4 at k4 b4 s4 ⊢;rw [s3] at k4 b4 s4;obtain ⟨k5,b5,s5⟩:=bx w4 #[AB AE xs,AB AE xp,AB AE xi,AA VA vn vc] 41;generalize (w4.alloc (AO #[AB AE xs,AB AE xp,AB AE xi,AA VA vn vc] 41))=w5 at k5 b5 s5 ⊢;rw [s4] at k5 b5 s5;obtain ⟨k6,b6,s6⟩:=bx w5 ZZ 46;generalize (w5.alloc (AO ZZ 46))=w6 at k6 b6 s6 ⊢;rw [s5] at k6 b6 s6;have Cf:AI (AK w w6):=AF (((((b1.trans (b2.mono AG)).trans (b3.mono AG)).trans (b4.mono AG)).trans (b5.mono AG)).trans (b6.mono AG));have H6:AI (w6.heap.size=w.heap.size+1+1+1+1+1+1):=AF AG;have HE:AI (∀W,AK w6 W->AY W w.heap.size 32 #[v0,v1,AA A n c,v3,v4,v5,v6]/\AY W (w.heap.size+1) 34 SD/\AY W (w.heap.size+1+1) 36 RR/\AY W (w.heap.size+1+1+1) 39 OO/\AY W (w.heap.size+1+1+1+1) 41 #[AB AE xs,AB AE xp,AB AE xi,AA VA vn vc]/\AY W (w.heap.size+1+1+1+1+1) 46 ZZ):=AF (fun W hW=>
  ⟨(((((k1.below b2 AG).below b3 AG).below b4 AG).below b5 AG).below b6 AG).below hW AG,((((k2.below b3 AG).below b4 AG).below b5 AG).below b6 AG).below hW AG,(((k3.below b4 AG).below b5 AG).below b6 AG).below hW AG,((k4.below b5 AG).below b6 AG).below hW AG,(k5.below b6 AG).below hW AG,k6.below hW AG⟩)
 have HC:AI (∀W,AK w6 W->(W.cell? ⟨w.heap.size,0,none⟩=some v0/\W.cell? ⟨w.heap.size,1,none⟩=some v1/\W.cell? ⟨w.heap.size,2,none⟩=some (AA A n c)/\W.cell? ⟨w.heap.size,3,none⟩=some v3/\W.cell? ⟨w.heap.size,4,none⟩=some v4/\W.cell? ⟨w.heap.size,5,none⟩=some v5/\W.cell? ⟨w.heap.size,6,none⟩=some v6)/\W.cell? ⟨w.heap.size+1+1+1+1,0,none⟩=some (AB AE xs)/\W.cell? ⟨w.heap.size+1+1+1+1,1,none⟩=some (AB AE xp)/\W.cell? ⟨w.heap.size+1+1+1+1,2,none⟩=some (AB AE xi)/\W.cell? ⟨w.heap.size+1+1+1+1,3,none⟩=some (AA VA vn vc)):=AF (fun W hW=>by obtain ⟨b,_,_,_,i,_⟩:=HE.o W hW;exact ⟨⟨b.cell 0,b.cell 1,b.cell 2,b.cell 3,b.cell 4,b.cell 5,b.cell 6⟩,i.cell 0,i.cell 1,i.cell 2,i.cell 3⟩)
 clear k1 b1 s1 k2 b2 s2 k3 b3 s3 k4 b4 s4 k5 b5 s5 k6 b6 s6;obtain ⟨⟨d0,d1,d2,d3,d4,d5,d6⟩,_⟩:=HC.o w6 (Af _ _);by_cases hck:ck=0
 rotate_left
 ·have hcf:(ck==0)=false:=Hf hck
  obtain ⟨HN,vz⟩:=Al (Co.o (fun h=>hck h.1)) hck;go_wp2_with (first
   | (go_at_call 23;refine (Lh.o _ Cf.o).mono ?_;rintro e w7 ⟨rfl,hb7⟩;have D4:=AF hb7;have K7:=AF (HE.o w7 hb7).2.2.2.2.2;clear hb7)
   | (refine Ci rfl 46 (AX 12) rfl (w.heap.size+1+1+1+1+1) AJ 46 ZZ (0,0) _ K7.o underlying46 rfl Nc.o ?_)
   | (refine wpList_store_rowTo rfl 46 (AX 12) (AX 17) rfl rfl (w.heap.size+1+1+1+1+1) ZZ rfl rfl 46 ZZ K7.o Nc.o rfl HZO.o ?_;rw [OQ _ _ _ _ _ K7.o])
   | fail)
  refine FN (oq rfl rfl rfl K7.o underlying46 rfl Nc.o) rfl ?_;have h:=HN.o w7 (AV Cf.o D4.o);rw [eD,Ah vz.o] at h;exact h
 subst hck;cases hft:Gk (Ba ns r.schema) r.places with
 |
  false=>
  rw [hft] at Ou Co;have HN:=AF (Co.o (fun h=>by cases h.2));go_wp2_with (first
   | (go_at_call 23;refine (Lh.o _ Cf.o).mono ?_;rintro e w7 ⟨rfl,hb7⟩;have D4:=AF hb7;have KR:=AF (HE.o w7 hb7).2.2.1;obtain ⟨⟨d0,d1,d2,d3,d4,d5,d6⟩,_⟩:=HC.o w7 hb7;clear hb7)
   | (refine Ci rfl 36 (AX 8) rfl (w.heap.size+1+1) AJ 36 RR (0,0) _ KR.o underlying36 rfl MN.o ?_)
   | (go_at_call 27;refine (Ou.o _ (AV Cf.o D4.o)).mono ?_;rintro e w8 ⟨rfl,hb8⟩;have IH:=AF (AV D4.o hb8);have K8:=AF (HE.o w8 IH.o).2.2.2.2.2;clear hb8)
   | (refine Ci rfl 46 (AX 12) rfl (w.heap.size+1+1+1+1+1) AJ 46 ZZ (0,0) _ K8.o underlying46 rfl Nc.o ?_)
   | (refine wpList_store_rowTo rfl 46 (AX 12) (AX 22) rfl rfl (w.heap.size+1+1+1+1+1) ZZ rfl rfl 46 ZZ K8.o Nc.o rfl HZO.o ?_;rw [OQ _ _ _ _ _ K8.o])
   | fail)
  refine FN (oq rfl rfl rfl K8.o underlying46 rfl Nc.o) rfl ?_;exact HN.o w8 (AV Cf.o IH.o)
 |
  true=>
  obtain ⟨x,hnf,_⟩:=ME hft;obtain ⟨k,hk,hx⟩:=ABs hnf;have HM:=AF (fun W hW=>M8.o x k W hW hk hx rfl hft);rw [hft] at Ou;clear hnf hk hx M8 Co;go_wp2_with (first
   | (go_at_call 23;refine (Lh.o _ Cf.o).mono ?_;rintro e w7 ⟨rfl,hb7⟩;have D4:=AF hb7;have KR:=AF (HE.o w7 hb7).2.2.1;obtain ⟨⟨d0,d1,d2,d3,d4,d5,d6⟩,_⟩:=HC.o w7 hb7;clear hb7)
   | (refine Ci rfl 36 (AX 8) rfl (w.heap.size+1+1) AJ 36 RR (0,0) _ KR.o underlying36 rfl MN.o ?_)
   | (
    go_at_call 27;refine (Ou.o _ (AV Cf.o D4.o)).mono ?_;rintro e w8 ⟨rfl,hb8⟩;have IH:=AF (AV D4.o hb8);clear hb8;have KS:=AF (HE.o w8 IH.o).2.1;have KR8:=AF (HE.o w8 IH.o).2.2.1;have KO:=AF (HE.o w8 IH.o).2.2.2.1;obtain ⟨⟨d0,d1,d2,d3,d4,d5,d6⟩,i0,i1,i2,i3⟩:=HC.o w8 IH.o)
   | (refine Ci rfl 34 (AX 7) rfl (w.heap.size+1) AJ 34 SD (0,0) _ KS.o underlying34 rfl Yj.o ?_)
   | (refine Ci rfl 36 (AX 8) rfl (w.heap.size+1+1) AJ 36 RR (0,0) _ KR8.o underlying36 rfl MN.o ?_)
   | (refine Ci rfl 39 (AX 10) rfl (w.heap.size+1+1+1) AJ 39 OO (0,0) _ KO.o underlying39 rfl aU.o ?_)
   | (
    go_at_call 28;refine (HM.o _ (AV Cf.o IH.o)).mono ?_;rintro e w9 ⟨q,e0,⟨Vg,vn',Ml,LA',ln',vO,Mg,kn',Me,rfl,s1,s2,s3,Oe⟩,ph,hfin⟩;obtain ⟨QQ,eQ⟩:=Ad (Fo ⟨q.Ar,q.round,q.schema,q.place,q.holder,AA Vg vn' Ml,AA LA' ln' vO,AA Mg kn' Me⟩);rw [<-eQ];have Nf:=AF (AV IH.o Oe);have K9:=AF (HE.o w9 Nf.o).2.2.2.2.2;obtain ⟨S1,S2,S3,Nk,HQQ⟩:=Db s1 s2 s3 hfin eQ;have vU:QQ.size=39:=by rw [HQQ.o];exact Jw ph
    have Vn:AI ((prog.info? 46).map (·.size)=some QQ.size):=AF (by rw [vU];exact ix);have HZQ:AI (ZZ.size=QQ.size):=AF (by rw [vU];exact (DE (ix.symm.trans Nc.o)).symm);have HQO:AI (QQ.all (·.oneCell')=true):=AF (by rw [HQQ.o];exact QN rfl rfl rfl);clear Oe s1 s2 s3 hfin eQ ph vU)
   | (refine wpList_store_rowTo rfl 46 (AX 12) (AX 30) rfl rfl (w.heap.size+1+1+1+1+1) QQ rfl rfl 46 ZZ K9.o Vn.o HZQ.o HQO.o ?_)
   | fail)
  refine FN (oq rfl rfl rfl (K9.o.row _) underlying46 rfl Vn.o) rfl ?_;rw [HQQ.o];have h6:=H6.o;have h8:=IH.o.size;exact Nk.o _ _ _ (Iu.outer (g:=w.heap.size+1+1+1+1+1) S1.o S2.o S3.o ⟨rfl,rfl,rfl,by simp [World.setRow],fun k hk hne=>Gb _ _ k _ (fun e=>hne Kg)⟩ AG (BH Cf.o.size h8) (below_setRow (AV Cf.o Nf.o) AG _)) rfl
attribute [local go_sem] Oper.semAt_some
theorem ABk {tmps:Array AN} {w W:AH} {g8 g:Nat} {ZZ:Array AN} {e k:Int} {R:Ending->AH->Prop} (h8:tmps.getD 8 undef=AU (some ⟨g8,0,none⟩)) (hg:tmps.getD 9 undef=AU (some ⟨g,0,none⟩)) (hB:AY W g8 57 ZZ) (hZS:(prog.info? 57).map (·.size)=some ZZ.size) (h8g:g8 < g) (hk:W.cell? ⟨g,0,none⟩=some (AB AE k)) (hz:W.frozen? ⟨g,0,none⟩=false) (hlt:g < W.heap.size) (hgw:w.heap.size<=g) (hb:AK w W)
 (hR:∀w'',AK w w''->R (AW (BU #[.agg ZZ,AB AE e])) w''):Leaves prog f14 tmps R [{target:=.fn (.func 42) #[AU (some ⟨g,0,none⟩)],args:=#[]}] (.panicking (Hk e)) W:=by
 refine OP (f:=42) (args:=#[AU (some ⟨g,0,none⟩)]) AZ LS ?_;refine (eV g k e W hk hz hlt).mono ?_;rintro en u' w'' ⟨rfl,rfl,hc,hb'⟩;have hB':AY w'' g8 57 ZZ:=((hb' g (Ac _)).block g8 h8g).trans hB;exact ⟨_,Xj (h:=g) rfl h8 hg hB' underlying57 rfl hZS (Qt hc),hR _ (hb.trans (hb' _ hgw))⟩
theorem AGh {tmps:Array AN} {W:AH} {g8 g:Nat} {ZZ:Array AN} {e:Int} {R:Ending->AH->Prop} (h8:tmps.getD 8 undef=AU (some ⟨g8,0,none⟩)) (hg:tmps.getD 9 undef=AU (some ⟨g,0,none⟩)) (hB:AY W g8 57 ZZ) (hZS:(prog.info? 57).map (·.size)=some ZZ.size) (hk:W.cell? ⟨g,0,none⟩=some (AB AE e)) (hR:R (AW (BU #[.agg ZZ,AB AE e])) W):
 Leaves prog f14 tmps R [{target:=.fn (.func 42) #[AU (some ⟨g,0,none⟩)],args:=#[]}] .returning W:=by
 refine OP (f:=42) (args:=#[AU (some ⟨g,0,none⟩)]) AZ LS ?_;refine (eW ⟨g,0,none⟩ W).mono ?_;rintro en u' w'' ⟨rfl,rfl,rfl⟩;exact ⟨_,Xj (h:=g) rfl h8 hg hB underlying57 rfl hZS (Qt hk),hR⟩
theorem open_any (
 v0 v1 v3 v4 v5 v6:AN) (A:Option Aa) (n c:Nat) (ns:List Nat) (ck:Int) (val:Int->Int->Int->Bool) (q:EG) (VA LA KA FA:Option Aa) (vn vc ln lc kn kc fn fc:Nat) (fs:AQ) (link:Int) (S0:List Nat) (w:AH) (hs:Ag 6 Kx w (AA A n c) ns)
 (hK:PU (AP #[v0,v1,AA A n c,v3,v4,v5]) (AP #[v0,v1,AA A n c,v3,v4,v5,v6]) ck val w) (hv:Ag 1 Bt w (AA VA vn vc) q.values) (hl:Ag 32 CP w (AA LA ln lc) q.links) (hk:Ag 3 Cy (veil S0 w) (AA KA kn kc) q.claims) (hf:Ag 1 Bt w (AA FA fn fc) fs)
 (hh:q.holder.length=32) (hfl:fs.length<=1000) (hS0:∀b∈S0,b < w.heap.size):
 AS prog 14 #[AP #[v0,v1,AA A n c,v3,v4,v5,v6],AP (Fo ⟨q.Ar,q.round,q.schema,q.place,q.holder,AA VA vn vc,AA LA ln lc,AA KA kn kc⟩),AA FA fn fc,AB AE link] w
  (if FS ck (Ba ns q.schema) q fs link=0 then NW S0 w (Hx ((Ba ns q.schema).getD 0) q fs link) 0 else NW S0 w ML (FS ck (Ba ns q.schema) q fs link)):=by
 obtain ⟨R,hR⟩:∃R,R=(if FS ck (Ba ns q.schema) q fs link=0 then NW S0 w (Hx ((Ba ns q.schema).getD 0) q fs link) 0 else NW S0 w ML (FS ck (Ba ns q.schema) q fs link)):=⟨_,rfl⟩;obtain ⟨p,hp⟩:=Ad (⟨q.Ar,q.round,q.schema,q.place,q.holder,AA VA vn vc,AA LA ln lc,AA KA kn kc⟩:UH);rw [<-hR,<-hp];obtain ⟨Y,hY⟩:=Ad (Fo p);obtain ⟨ZZ,eP⟩:=Ad (Em ⟨0,0,0,0,zeros 32,AA none 0 0,AA none 0 0,0,zeros 32,AA none 0 0,undef,undef,0,0⟩);have Wo:p.holder.length=32:=by rw [hp];exact hh
 rw [<-hY];have Mj:AI (∀W g,AY W g 46 Y->CpB W g p):=AF (fun W g h=>by rw [hY] at h;exact PS h Wo);have HYH:AI (∀j v,(q.holder.map (Value.int .u8))[j]? =some v->Y[4+j]? =some v):=AF (fun j v hj=>by have hlt:=(BF.1 hj).1;rw [CY] at hlt;rw [hY,Fo,km,hp,Aj,EB Bd,Cj AZ];simpa using hj)
 have HZI:AI ((prog.info? 57).bind (·.zero)=some (.agg ZZ)):=AF Qj;have Nc:AI ((prog.info? 57).map (·.size)=some ZZ.size):=AF Qj;have Lh:AI (∀W,AK w W->AS prog 23 #[AP #[v0,v1,AA A n c,v3,v4,v5,v6]] W fun e w'=>e=AW (AB AE ck)/\AK W w'):=AF hK.chk;have Co:AI (∀e w2,FS ck (Ba ns q.schema) q fs link=e->e≠0->AK w w2->R (AW (BU #[.agg ZZ,AB AE e])) w2):=AF (fun e w2 he hne hb=>by rw [hR,he,Ah hne,eP];exact ⟨_,_,_,_,_,_,_,_,_,rfl,Ag.nil _ _ (Ay _),Ag.nil _ _ (Ay _),Ag.nil _ _ (Ay _),hb⟩)
 have Ii:AI (FS ck (Ba ns q.schema) q fs link=0->R=NW S0 w (Hx ((Ba ns q.schema).getD 0) q fs link) 0):=AF (fun h=>by rw [hR,Ak h]);obtain ⟨HS,HV,HL,J6,HF,HH,RW,HP,Mi⟩:=P4 hs hv hl hk hf hh hS0 hp hfl;clear hfl hs hK hv hl hk hf hh hS0 hR hY eP Wo hp;have hmf:∀(fn:Fn) (first cap:Array AN) (w:AH),(Instr.makeFunc fn first cap).run prog w=.ok (.func fn first cap) w:=fun _ _ _ _=>rfl
 go_enter_defers func14,ntmps14
 go_upto_region 2 with (first | (refine Ek rfl 57 rfl ZZ HZI.o ?_) | fail);obtain ⟨k1,b1,s1⟩:=bx w #[v0,v1,AA A n c,v3,v4,v5,v6] 32;generalize (w.alloc (AO #[v0,v1,AA A n c,v3,v4,v5,v6] 32))=w1 at k1 b1 s1 ⊢;obtain ⟨k2,b2,s2⟩:=bx w1 Y 46;generalize (w1.alloc (AO Y 46))=w2 at k2 b2 s2 ⊢;rw [s1] at k2 b2 s2;obtain ⟨k3,b3,s3⟩:=bx w2 ZZ 57;generalize (w2.alloc (AO ZZ 57))=w3 at k3 b3 s3 ⊢;rw [s2] at k3 b3 s3;obtain ⟨k4,b4,s4⟩:=bx w3 #[AB AE 0] 47;generalize (w3.alloc (AO #[AB AE 0] 47))=w4 at k4 b4 s4 ⊢;rw [s3] at k4 b4 s4;have Cf:AI (AK w w4):=AF (((b1.trans (b2.mono AG)).trans (b3.mono AG)).trans (b4.mono AG));have H4:AI (w4.heap.size=w.heap.size+1+1+1+1):=AF AG;have HE:AI (∀W,AK w4 W->AY W (w.heap.size+1) 46 Y/\AY W (w.heap.size+1+1) 57 ZZ/\AY W (w.heap.size+1+1+1) 47 #[AB AE 0]/\AY W w.heap.size 32 #[v0,v1,AA A n c,v3,v4,v5,v6]):=AF (fun W hW=>⟨((k2.below b3 AG).below b4 AG).below hW AG,(k3.below b4 AG).below hW AG,k4.below hW AG,(((k1.below b2 AG).below b3 AG).below b4 AG).below hW AG⟩);have HD:AI (∀W,AK w4 W->W.cell? ⟨w.heap.size,0,none⟩=some v0/\W.cell? ⟨w.heap.size,1,none⟩=some v1/\W.cell? ⟨w.heap.size,2,none⟩=some (AA A n c)/\W.cell? ⟨w.heap.size,3,none⟩=some v3/\W.cell? ⟨w.heap.size,4,none⟩=some v4/\W.cell? ⟨w.heap.size,5,none⟩=some v5/\W.cell? ⟨w.heap.size,6,none⟩=some v6):=AF (fun W hW=>by have b:=(HE.o W hW).2.2.2;exact ⟨b.cell 0,b.cell 1,b.cell 2,b.cell 3,b.cell 4,b.cell 5,b.cell 6⟩)
 clear k1 b1 s1 k2 b2 s2 k3 b3 s3 k4 b4 s4;have JN:AI (∀(tmps:Array AN) (W:AH) (e:Int),tmps.getD 8 undef=AU (some ⟨w.heap.size+1+1,0,none⟩)->tmps.getD 9 undef=AU (some ⟨w.heap.size+1+1+1,0,none⟩)->AK w4 W->FS ck (Ba ns q.schema) q fs link=e->e≠0->Leaves prog f14 tmps R [{target:=.fn (.func 42) #[AU (some ⟨w.heap.size+1+1+1,0,none⟩)],args:=#[]}] (.panicking (Hk e)) W):=AF (fun tmps W e h8 h9 hW he hne=>by obtain ⟨_,k8,k,_⟩:=HE.o W hW;exact ABk h8 h9 k8 Nc.o (I9 _) (k.cell 0) (k.frozen 0) k.lt AG (AV Cf.o hW) (fun w'' hb=>Co.o e w'' he hne hb))
 have Dz:AI (∀W,AY W (w.heap.size+1) 46 Y->(W.cell? ⟨w.heap.size+1,0,none⟩=some (AB AE q.Ar)/\W.cell? ⟨w.heap.size+1,1,none⟩=some (AB AE q.round)/\W.cell? ⟨w.heap.size+1,2,none⟩=some (AB AE q.schema)/\W.cell? ⟨w.heap.size+1,3,none⟩=some (AB AE q.place))/\W.cell? ⟨w.heap.size+1,36,none⟩=some (AA VA vn vc)/\W.cell? ⟨w.heap.size+1,37,none⟩=some (AA LA ln lc)/\W.cell? ⟨w.heap.size+1,38,none⟩=some (AA KA kn kc)):=AF (fun W hW=>by have b:=Mj.o _ _ hW;rw [HP.o] at b;exact ⟨⟨b.Ar,b.round,b.schema,b.place⟩,b.values,b.links,b.claims⟩)
 obtain ⟨d0,d1,d2,d3,d4,d5,d6⟩:=HD.o w4 (Af _ _);by_cases hck:ck=0
 rotate_left
 ·have hcf:(ck==0)=false:=Hf hck
  have HN:AI (FS ck (Ba ns q.schema) q fs link=160):=AF (by rw [FS,Ak hck]);go_wp2_with (first
   | (go_at_call 23;refine (Lh.o _ Cf.o).mono ?_;rintro e w5 ⟨rfl,hb5⟩;have Cg:=AF hb5;clear hb5)
   | (go_at_call 38;refine (EP 160 _).mono ?_;rintro e w8 ⟨rfl,rfl⟩)
   | fail)
  exact JN.o _ _ _ rfl rfl Cg.o HN.o Ai
 subst hck;have ld:AI (¬GI (Ba ns q.schema) q fs link=true->FS 0 (Ba ns q.schema) q fs link=190):=AF (fun h=>by rw [FS,Ah AZ,Ah h]);go_upto_region 3 with (first
  | (
   go_at_call 23;refine (Lh.o _ Cf.o).mono ?_;rintro e w5 ⟨rfl,hb5⟩;obtain ⟨c0,c1,c2,c3,c4,c5,c6⟩:=HD.o w5 hb5;obtain ⟨⟨_,_,a2,_⟩,_⟩:=Dz.o _ (HE.o w5 hb5).1;have Cg:=AF hb5;clear hb5 d0 d1 d2 d3 d4 d5 d6)
  | (go_at_call 38;refine (Ew 160 _).mono ?_;rintro e w6 ⟨⟨v,rfl⟩,rfl⟩))
 obtain ⟨z,hz⟩:=Ad ((decide (0<=q.schema) && decide (q.schema < n)));have Ij:AI (∀W,AS prog 29 #[AP #[v0,v1,AA A n c,v3,v4,v5,v6],AB AE q.schema] W fun e w'=>e=AW (.bool z)/\AK W w'):=AF (fun W=>by rw [hz];exact US v0 v1 v3 v4 v5 v6 A n c q.schema W);cases z with
 |
  false=>
  have HN:=AF (ld.o (fun h=>by
   unfold Ba at h;by_cases h0:0<=q.schema
   ·have hge:¬q.schema < n:=fun h1=>by rw [Bk h0,Bk h1] at hz;cases hz
    rw [Ak h0,Dh (by have:=HS.o.len;omega)] at h;cases h
   · rw [Ah h0] at h;cases h))
  clear hz;go_wp2_with (first
   | (go_at_call 29;refine (Ij.o _).mono ?_;rintro e w7 ⟨rfl,hb7⟩;have D4:=AF (AV Cg.o hb7);clear hb7)
   | (go_at_call 38;refine (EP 190 _).mono ?_;rintro e w8 ⟨rfl,rfl⟩)
   | fail)
  exact JN.o _ _ _ rfl rfl D4.o HN.o Ai
 |
  true=>
  have hz2:=hz.symm;rw [Bb,By,By] at hz2;obtain ⟨k,hkk⟩:∃k:Nat,q.schema=k:=⟨q.schema.toNat,by omega⟩;have hkn:k < n:=AG
  have hk1:(k:Int) < (n:Int):=AG
  have hk0:=Int.natCast_nonneg k
  obtain ⟨b,off,x,x0,x1,x2,x3,B,cc,x5,hA,hb,hx,hxl,hone,hcell⟩:=Nv HS.o hkn;subst hA;have HE4:AI (∀W,AK w W->W.cell? ⟨b,off+k*6+4,none⟩=some (AA B x cc)):=AF (fun W hW=>(hW.cell (p:=⟨b,off+k*6+4,none⟩) hb).trans (hcell 4 _ rfl));have JI:AI (Ba ns q.schema=some x):=AF (by rw [hkk,Ba,Ak AG,Cq];exact hx);obtain ⟨HKK,Ih⟩:=Al hkk hxl;clear hz hz2 hcell hone hx hkk hxl;go_upto_region 4 with (first
   | (
    go_at_call 29;refine (Ij.o _).mono ?_;rintro e w7 ⟨rfl,hb7⟩;have D4:=AF (AV Cg.o hb7);obtain ⟨t0,t1,t2,t3,t4,t5,t6⟩:=HD.o w7 D4.o;obtain ⟨⟨f0,f1,f2,f3⟩,f36,f37,f38⟩:=Dz.o _ (HE.o w7 D4.o).1;rw [HKK.o] at f2;have e4:=HE4.o w7 (AV Cf.o D4.o);clear hb7 c0 c1 c2 c3 c4 c5 c6 a2)
   | (go_at_call 38;refine (Ew 190 _).mono ?_;rintro e w6 ⟨⟨v,rfl⟩,rfl⟩))
  go_upto_region 5 with fail;clear e4 t0 t1 t2 t3 t4 t5 t6;have hin:IntKind.i64.wrap ((x:Int)+4)=(x:Int)+4:=Ca _ ZY;have hin2:IntKind.i64.wrap ((x:Int)+4+1)=(x:Int)+4+1:=Ca _ ZY;have hcase:(¬vn=x\/(vn=x/\¬ln=4)\/(vn=x/\ln=4/\¬kn=x+4+1))\/(vn=x/\ln=4/\kn=x+4+1):=AG
  have hle:=And.intro HV.o.len (And.intro HL.o.len J6.o.len);rcases hcase with hno | ⟨rfl,rfl,rfl⟩
  ·have HN:=AF (ld.o (fun h=>by
    rw [JI.o] at h;simp only [GI,Bb,By] at h;omega))
   clear hle;rcases hno with h | ⟨rfl,h⟩ | ⟨rfl,rfl,h⟩
   ·have hf1:((vn:Int)==(x:Int))=false:=Hf AG
    exact nO
   ·have hf1:((ln:Int)==4)=false:=Hf AG
    exact nO
   have hf1:((kn:Int)==(vn:Int)+4+1)=false:=Hf AG;exact nO
  have aX:=AF hle;clear hle;go_upto_region 6 with (first | (go_at_call 38;refine (Ew 190 _).mono ?_;rintro e w8 ⟨⟨v,rfl⟩,rfl⟩) | fail);clear f37 f38 f36;obtain ⟨zi,hzi⟩:=Ad (Nh vn (-1) fs);have AFg:AI (∀W,AK w W->AS prog 43 #[AA FA fn fc,AB AE vn] W fun e w'=>e=AW (.bool zi)/\w'=W):=AF (fun W hW=>by rw [hzi];exact VX FA fn fc fs vn W (HF.o.mono BT hW));have HW7:AI (AK w w8):=AF (AV Cf.o D4.o);cases zi with
  |
   false=>
   have HN:=AF (ld.o (fun h=>by rw [JI.o] at h;simp only [GI,Bb,<-hzi] at h;exact absurd h.2.1.1 Ai))
   clear hzi;go_wp2_with (first
    | (go_at_call 43;refine (AFg.o _ HW7.o).mono ?_;rintro e w9 ⟨rfl,rfl⟩)
    | (go_at_call 38;refine (EP 190 _).mono ?_;rintro e w10 ⟨rfl,rfl⟩) | fail)
   exact JN.o _ _ _ rfl rfl D4.o HN.o Ai
  |
   true=>
   have hcase:(¬ -1<=link\/(-1<=link/\¬link < 4))\/(-1<=link/\link < 4):=AG
   rcases hcase with hno | ⟨h1,h2⟩
   ·have HN:=AF (ld.o (fun h=>by
     rw [JI.o] at h;simp only [GI,Bb,By] at h;omega))
    clear hzi;rcases hno with h | ⟨h1,h⟩
    all_goals try have hf4:decide (link < 4)=false:=BS AG
    all_goals go_wp2_with (first
     | (go_at_call 43;refine (AFg.o _ HW7.o).mono ?_;rintro e w9 ⟨rfl,rfl⟩)
     | (go_at_call 38;refine (EP 190 _).mono ?_;rintro e w10 ⟨rfl,rfl⟩) | fail)
    all_goals exact JN.o _ _ _ rfl rfl D4.o HN.o Ai
   have hok:FS 0 (Ba ns q.schema) q fs link=0:=by have hle:=aX.o;rw [FS,Ah AZ,JI.o,Ak];simp only [GI,Bb,By];exact ⟨⟨⟨hle.1.symm,hle.2.1.symm⟩,hle.2.2.symm⟩,⟨hzi.symm,h1⟩,h2⟩
   obtain ⟨HRR,ALl⟩:=Al (Ii.o hok) hzi.symm;clear hok hzi Ii Co ld JN;go_upto_region 7 with (first
    | (go_at_call 43;refine (AFg.o _ HW7.o).mono ?_;rintro e w9 ⟨rfl,rfl⟩)
    | (go_at_call 38;refine (Ew 190 _).mono ?_;rintro e w10 ⟨⟨v,rfl⟩,rfl⟩) | fail)
   have Fs:prog.follows .mixedOrders=true:=AJ
   have ND:=AF (D4.o.drew);have yM:=(HE.o _ ND.o).1;have qH:=(HE.o _ ND.o).2.1;have AEo:=(HE.o _ ND.o).2.2.1;have AKy:=(HE.o _ ND.o).2.2.2;have yN:=HW7.o.drew;have hS:AY w10.drew (w.heap.size+1) 46 Y/\AK w w10.drew:=⟨yM,yN⟩;have TK:∀W,AY W (w.heap.size+1) 46 Y/\AK w W->W.cell? ⟨w.heap.size+1,0,none⟩=some (AB AE q.Ar)/\W.cell? ⟨w.heap.size+1,1,none⟩=some (AB AE q.round)/\W.cell? ⟨w.heap.size+1,2,none⟩=some (AB AE k)/\W.cell? ⟨w.heap.size+1,3,none⟩=some (AB AE q.place):=fun W hW=>by obtain ⟨⟨a0,a1,a2,a3⟩,_⟩:=Dz.o _ hW.1;rw [HKK.o] at a2;exact ⟨a0,a1,a2,a3⟩
   clear f0 f1 f2 f3;refine Pe (fun W=>AY W (w.heap.size+1) 46 Y/\AK w W) 15 _ Fs AJ rfl ?_;refine qT 0 65 hS ?_;refine qT 1 66 hS ?_;refine qT 2 67 hS ?_;refine qT 3 68 hS ?_;refine qT 4 69 hS ?_;refine qT 5 70 hS ?_;refine qT 6 71 hS ?_;refine qT 7 72 hS ?_;refine qT 8 73 hS ?_;refine qT 9 74 hS (v:=AP (yA q.holder)) ?_ (hv:=fun W hW=>Cv rfl AJ (Ei _ 4 HH.o (fun j v hj=>by rw [hW.1.cell];exact HYH.o j v hj)));refine qM 10 75 2 hS ?_;refine qM 12 77 3 hS ?_;refine qF 11 76 (qk Sy FA fn fc fs w10.drew (HF.o.mono BT yN) (by have:=Mi.o;omega)) ?_;rintro e JC ⟨cv,ccs,rfl,hcc,hco,MY⟩;have hS2:AY JC (w.heap.size+1) 46 Y/\AK w JC:=⟨yM.below MY yM.lt,AV yN MY⟩;refine ⟨_,rfl,hS2,?_⟩;obtain ⟨CA,cc',rfl⟩:=CG hco;obtain ⟨sv,hsv⟩:=Ad (⟨q.Ar,q.round,k,q.place,q.holder,AA CA fs.length cc',AA none 0 0,link,zeros 32,AA none 0 0,AA none 0 0,AA none 0 0,0,0⟩:JS);obtain ⟨PP,RQ⟩:=Ad (Em sv);have hsh:sv.holder.length=32:=by rw [hsv];exact HH.o
   have hst:sv.token.length=32:=by rw [hsv];rfl
   have j7:prog.built 57 [(0,AB AE q.Ar),(1,AB AE q.round),(2,AB AE k),(3,AB AE q.place),(4,AP (yA q.holder)),(5,AA CA fs.length cc'),(7,AB AE link)]=some PP:=by rw [RQ,hsv];exact y7 _ _ _ _ _ HH.o _ _ _
   have hps:PP.size=72:=by rw [RQ,G0 hsh hst]
   have hzs:ZZ.size=PP.size:=by rw [hps];exact DE (Nc.o.symm.trans iH)
   have h4:=H4.o;have h10:=ND.o.size;refine qT 13 78 hS2 (v:=.agg PP) ?_ (hv:=fun W _=>Zj (Er (congrArg (prog.built 57) AJ) j7));refine dY 14 57 8 78 (w.heap.size+1+1) PP 57 ZZ AJ rfl rfl rfl rfl AJ AJ (qH.below MY qH.lt) (by rw [hps];exact iH) hzs (by rw [RQ,hsv];exact SF rfl rfl rfl) ⟨(Gb _ _ _ _ AG).trans hS2.1,below_setRow hS2.2 AG _⟩ ?_;refine Ed AJ ?_ _;simp only [CZ,Ch];have hfn:=HF.o.len;have h11:=MY.size;have hd10:w10.drew.heap.size=w10.heap.size:=rfl;have AEr:Ag 1 Bt (JC.setRow (w.heap.size+1+1) PP) (AA CA fs.length cc') fs:=B9 (JL hco (fun g h1 _=>Gb _ _ _ _ AG)) ⟨hcc.1,hcc.2⟩ rfl;have hNF:NewAt w4.heap.size (AA CA fs.length cc'):=fun r hr=>by have h:=Tk hco r hr;omega
   have AEt:AK w (JC.setRow (w.heap.size+1+1) PP):=below_setRow hS2.2 AG _;have AEk:AY (JC.setRow (w.heap.size+1+1) PP) (w.heap.size+1) 46 Y:=(Gb _ _ _ _ AG).trans hS2.1;have AEn:AY (JC.setRow (w.heap.size+1+1) PP) (w.heap.size+1+1+1) 47 #[AB AE 0]:=(Gb _ _ _ _ AG).trans (AEo.below MY AEo.lt);have yO:AY (JC.setRow (w.heap.size+1+1) PP) (w.heap.size+1+1) 57 PP:=setRow_heap _ _ ZZ PP _ _ (qH.below MY qH.lt);have RI:w.heap.size+1+1+1+1<=(JC.setRow (w.heap.size+1+1) PP).heap.size:=by rw [setRow_size];omega
   generalize JC.setRow (w.heap.size+1+1) PP=w12 at AEr AEt AEk AEn yO RI ⊢;have hI0:RS S0 w12.heap.size sv w w12 [] [] w12:=⟨KX.refl _ _ _ _,AEt,none,0,[],none,0,[],(w.heap.size+1+1)::S0,by
    rw [RQ,hsv] at yO;rw [hsv];exact yO,Ef _ _ _ _,Ap.nil,fun r hr=>absurd hr Nl,⟨Ef _ _ _ _,fun r hr=>absurd hr Nl,fun b hb=>by
     rcases B0.1 hb with rfl | hb
     · omega
     have:=RW.o b hb;omega,OX,Ap.nil⟩,fun b hb=>by rw [B0];exact ⟨fun h=>h.resolve_left AG,.inr⟩,fun r hr=>absurd hr Nl⟩
   obtain ⟨XU,AHm⟩:∃XU:Int->Int,XU=fun f=>q.values.getD f.toNat 0:=⟨_,rfl⟩;obtain ⟨jz,AIC⟩:∃jz:Int->Cn,jz=fun f=>q.claims.getD f.toNat GQ:=⟨_,rfl⟩;obtain ⟨HI0,MQ,HSV,Hr,HST,ALs,AJB,qy,ALc,cK,AIt,AJG⟩:=QX hI0 hfn hsv hsh hst AEr hNF AEk AEn RI AHm AIC;clear hI0 hfn hsv hsh hst AEr hNF AEk AEn yO RI AHm AIC AEt hco hcc MY hS hS2 yM qH AEo AKy yN TK RQ j7 hps hzs h4 h10 h11 hd10;go_upto_region 9 with fail;go_loopg [81] fn (fun q' i wr=>∃j:Nat,j<=fn/\q'=fn - j/\i=AB AE j/\RS S0 w12.heap.size sv w w12 ((fs.take j).map XU) ((fs.take j).map jz) wr)
   case atStart=>exact ⟨0,Ay _,rfl,rfl,HI0.o⟩
   obtain ⟨j,hj,hq,rfl,hI⟩:=hrel;obtain ⟨HQ,HI⟩:=Al hq hI;clear hq hI;by_cases hlt:j < fn
   ·obtain ⟨fb,fo,f,rfl,hfb,hf,ef,_,_⟩:=ints_at (HF.o.mono BT HI.o.old) hlt
    obtain ⟨hf0,hf1⟩:=QI ALl.o f (Cr hf);obtain ⟨fk,rfl⟩:∃fk:Nat,f=fk:=⟨f.toNat,by omega⟩;have hfv:fk < vn:=AG
    obtain ⟨vb,vo,u,rfl,hvb,hu,eu,hu1,hu2⟩:=ints_at HV.o hfv;obtain ⟨lb,lo,x,B1,m1,e1,B2,m2,e2,rfl,hlb,hx,hx1,hx2,hlc⟩:=Od J6.o (show fk < vn+4+1 by omega);rw [EM] at hlb;have hj1:(j:Int) < (fn:Int):=AG
    have hj0:(0:Int)<=(j:Int):=AG
    have hk5:(fk:Int) < (vn:Int)+4+1:=AG
    have hz:=HI.o.kx.size;have RI:=cK.o;have qN:=HI.o.below AG AG (Af _ _).drew;obtain ⟨vl,hvl⟩:=Ad ((fs.take j).map XU);obtain ⟨kl,hkl⟩:=Ad ((fs.take j).map jz);rw [<-hvl,<-hkl] at qN;have hln:vl.length=j/\kl.length=j:=⟨by rw [hvl];exact take_len Za,by rw [hkl];exact take_len Za⟩;have Hc:=AF hln;have AL6:j < 1000:=by have:=Mi.o;have:=MQ.o;omega
    have hYA:AY wr.drew (w.heap.size+1) 46 Y:=(qN.kx.same _ AG AG).trans qy.o;obtain ⟨HIA,Vl,AFe,HX,HU,fT,HLC,HYA⟩:=gy qN hvl hkl (And.intro hx (And.intro hx1 hx2)) hu hf hlc hYA;have HEU:AI (∀W,AK w W->W.cell? ⟨vb,vo+fk,none⟩=some (AB AE u)):=AF (fun W hW=>(hW.cell (p:=⟨vb,vo+fk,none⟩) hvb).trans eu);clear hvl hkl hln hx hx1 hx2 hlc hYA hu hf eu hf0;go_upto_region 11 with fail;obtain ⟨Vg,Ml,cv,Mg,Me,ck',S,h1',h2',h3',h4',h5',h6',Tr⟩:=qN.row;have hL:w.heap.size+1+1 < w12.heap.size:=AG
    have PR:w12.heap.size<=wr.drew.heap.size:=qN.kx.size;have TK:∀W,wr.drew.grownBy W (Value.slice Vg vl.length Ml).ownBlock->W.cell? ⟨w.heap.size+1+1,37,none⟩=some (AA Vg vl.length Ml)/\W.cell? ⟨w.heap.size+1,36,none⟩=some (AA (some ⟨vb,vo,none⟩) vn vc)/\W.cell? ⟨vb,vo+fk,none⟩=some (AB AE u):=fun W hW=>
     ⟨hW.cell (JO h1' Hr.o HST.o).values (Dj h2' hL),hW.cell (Dz.o _ HYA.o).2.1 (Dj h2' Ze),hW.cell (HEU.o _ qN.old) (Dj h2' (by show vb < _;omega))⟩
    have hS:=Cu wr.drew (Value.slice Vg vl.length Ml).ownBlock;have hu':FI u:=⟨hu1,hu2⟩;refine lB (fun W=>wr.drew.grownBy W (Value.slice Vg vl.length Ml).ownBlock) [10] 11 _ ?_;refine lT 0 85 hS ?_;refine lT 1 86 hS ?_;refine lT 2 87 hS ?_;refine lT 3 88 hS ?_;refine lM 4 89 12 hS ?_;refine lT 5 90 hS ?_;refine lT 6 91 hS ?_;refine me 7 8 9 10 92 93 94 86 30 3 91 h2' (news:=#[AB AE u]) rfl (by intro z hz;simp at hz;rw [hz];rfl) (by unfold maxLen;have:=Hc.o.1;omega) (by have:=Hc.o.1;omega) PR (vH _ u)
     (fun v' w7 Gh Ec=>by obtain ⟨A'',c'',rfl⟩:=CG Gh;have k7:=(h1'.alloc _).grown Ec (Dj h2' hL);exact vF w7 _ 37 _ _ _ _ ((JO k7 Hr.o HST.o).values) (k7.frozen 37)) ?_ AGr.choose_spec.choose_spec
    intro v7 w7 Gh Ec PN;simp only [CZ,Ch];have hI2:=HIA.o.AJp (x:=u) Hr.o HST.o hL PR h1' h2' h3' h4' h5' h6' Tr hu' Gh Ec PN;generalize (w7.setCell ⟨w.heap.size+1+1,37,none⟩ v7)=wv at hI2 ⊢;have HI2:=AF hI2;clear hI2 Gh Ec PN h1' h2' h3' h4' h5' h6' Tr TK hS hL PR qN;go_upto_region 12 with fail;have hz2:=HI2.o.kx.size;have hIB:=HI2.o.below AG AG (Af _ _).drew;have ah:=AF hIB;obtain ⟨Vg,Ml,cv,Mg,Me,ck',S,h1',h2',h3',h4',h5',h6',Tr⟩:=hIB.row;have hL:w.heap.size+1+1 < w12.heap.size:=AG
    have PR:w12.heap.size<=wv.drew.heap.size:=hIB.kx.size;have j8:AY wv.drew (w.heap.size+1) 46 Y:=(hIB.kx.same _ AG AG).trans qy.o;have hcl:=HLC.o;have UF:∀(j':Nat) (v:AN),[Value.int .i64 x.index,AA B1 m1 e1,AA B2 m2 e2][j']? =some v->wv.drew.cell? ⟨lb,lo+fk*3+j',none⟩=some v:=fun j' v hv=>(hIB.old.cell (p:=⟨lb,lo+fk*3+j',none⟩) hlb).trans (Te (hcl j' v hv));have TK:∀W,wv.drew.grownBy W (Value.slice Mg kl.length Me).ownBlock->W.cell? ⟨w.heap.size+1+1,71,none⟩=some (AA Mg kl.length Me)/\W.cell? ⟨w.heap.size+1,38,none⟩=some (AA (some ⟨lb,lo,none⟩) (vn+4+1) kc)/\W.cell? ⟨lb,lo+fk*3,none⟩=some (AB AE x.index)/\W.cell? ⟨lb,lo+fk*3+1,none⟩=some (AA B1 m1 e1)/\W.cell? ⟨lb,lo+fk*3+2,none⟩=some (AA B2 m2 e2):=fun W hW=>by have hf:∀o,some (Addr.mk lb o none).block≠(Value.slice Mg kl.length Me).ownBlock:=fun o=>Dj h5'.own gC;exact ⟨hW.cell (JO h1' Hr.o HST.o).claims (Dj h5'.own hL),hW.cell (Dz.o _ j8).2.2.2 (Dj h5'.own Ze),hW.cell (UF 0 _ rfl) (hf _),hW.cell (UF 1 _ rfl) (hf _),hW.cell (UF 2 _ rfl) (hf _)⟩
    have hS:=Cu wv.drew (Value.slice Mg kl.length Me).ownBlock;have hvb:BL (veil S0 w).heap.size (veil S0 w) (veil S wv.drew):=av hIB.old h6';have hlf:Cy (veil S wv.drew) [AB AE x.index,AA B1 m1 e1,AA B2 m2 e2] x:=⟨B1,m1,e1,B2,m2,e2,rfl,HX.o.2.1.mono BO hvb,HX.o.2.2.mono BO hvb⟩;refine lB (fun W=>wv.drew.grownBy W (Value.slice Mg kl.length Me).ownBlock) [10] 11 _ ?_;refine lT 0 95 hS ?_;refine lT 1 96 hS ?_;refine lT 2 97 hS ?_;refine lT 3 98 hS ?_;refine lM 4 99 12 hS ?_;refine lT 5 100 hS ?_;refine lT 6 101 hS ?_;refine me 7 8 9 10 102 103 104 96 44 71 101 h5'.own (news:=#[AB AE x.index,AA B1 m1 e1,AA B2 m2 e2]) rfl (mZ _ _ _ _ _ _ _) (by unfold maxLen;have:=Hc.o.2;omega) (by have:=Hc.o.2;omega) PR (iM _ _ _ _ _ _ _ _)
     (fun v' w7 Gh Ec=>by obtain ⟨A'',c'',rfl⟩:=CG Gh;have k7:=(h1'.alloc _).grown Ec (Dj h5'.own hL);exact Zi w7 _ 71 _ _ _ _ ((JO k7 Hr.o HST.o).claims) (k7.frozen 71)) ?_ WK.choose_spec.choose_spec
    intro v7 w7 Gh Ec PN;simp only [CZ,Ch];have YE:=ah.o.xL (x:=x) Hr.o HST.o hL PR h1' h2' h3' h4' h5' h6' Tr rfl hlf Gh Ec PN;generalize (w7.setCell ⟨w.heap.size+1+1,71,none⟩ v7)=wk at YE ⊢;have HI3:=AF YE;clear YE Gh Ec PN h1' h2' h3' h4' h5' h6' Tr TK hS hL PR hIB j8 hcl UF hvb hlf ah hz2;go_wp2;go_roundg (fn - (j+1))
    case measure=>exact Bi
    refine ⟨j+1,by omega,rfl,by go_num,?_⟩;have hu:=HU.o;have e1:XU fk=u:=by rw [AIt.o];show q.values.getD (fk:Int).toNat 0=u;rw [Cq,Ck,hu];rfl
    have e2:jz fk=x:=by rw [AJG.o];show q.claims.getD (fk:Int).toNat GQ=x;rw [Cq,Ck,HX.o.1];rfl
    rw [jf fT.o,jf fT.o,e1,e2,<-Vl.o,<-AFe.o];exact HI3.o
   obtain rfl:fn=j:=AG
   have htk:fs.take fn=fs:=C7 (by rw [MQ.o];exact Ac _);have hI:=HI.o;rw [htk] at hI;have UE:=AF hI;clear HI hI htk hj
   go_upto_if 107 with fail
   go_cut [108] from 107 to 125 (fun _ wx=>∃tk kl,(tk=if 0<=link then q.links.getD link.toNat Gq else Gq)/\kl=fs.map jz++(if 0<=link then [q.claims.getD (vn+link.toNat) GQ] else [])/\tk.length=32/\RS S0 w12.heap.size {sv with token:=tk} w w12 (fs.map XU) kl wx)
   have hz:=UE.o.kx.size;have RI:=cK.o;have hfl:fs.length<=1000:=Mi.o
   case first=>
    by_cases h0:0<=link
    ·obtain ⟨lk,rfl⟩:∃lk:Nat,link=lk:=⟨link.toNat,by omega⟩
     have hk4:lk < 4:=AG
     have AMP:(lk:Int) < 4:=h2;obtain ⟨tb,DS,d,cs,rfl,htb,hd,hlen,hc,rfl,hdl⟩:=HL.o.at_ hk4;obtain ⟨ET,HD1,Cd⟩:=BB hdl hd Fw;have N0:AI (wr.rangeAt tb (DS+lk*32) (d.map (Value.int .u8))):=AF (fun j' v hv=>(UE.o.old.cell (p:=⟨tb,DS+lk*32+j',none⟩) htb).trans (by have:=hc j' v hv;rwa [<-Ji] at this));have hYW:AY wr (w.heap.size+1) 46 Y:=(UE.o.kx.same _ AG AG).trans qy.o;have HYC:wr.cell? ⟨w.heap.size+1,37,none⟩=some (AA (some ⟨tb,DS,none⟩) 4 lc):=(Dz.o _ hYW).2.2.1;have Tz:AI (wr.there (w.heap.size+1+1) 39 (yA d).size):=AF (by
      obtain ⟨_,_,_,_,_,_,_,hb,_⟩:=UE.o.row;refine Qr hb ?_;rw [G0,CJ,hdl]
      · decide
      · exact Hr.o
      · exact HST.o)
     have HYZ:AI ((prog.info? 34).map (·.size)=some (yA d).size):=AF (by rw [CJ,hdl];exact Fw);have HT0:=AF (UE.o.tok Hr.o HST.o hdl AG);obtain ⟨mk,hmk⟩:=Ad (vn+lk:Nat);have hmw:IntKind.i64.wrap ((vn:Int)+(lk:Int))=(mk:Nat):=by rw [Ca _ ZY];omega
     obtain ⟨lb,lo,x,B1,m1,e1,B2,m2,e2,rfl,hlb,hx,hx1,hx2,hlc⟩:=Od J6.o (show mk < vn+4+1 by omega);rw [EM] at hlb;have hk5:(mk:Int) < (vn:Int)+4+1:=AG
     obtain ⟨kl,hkl⟩:=Ad (fs.map jz);obtain ⟨HX,HLC⟩:=Al (And.intro hx (And.intro hx1 hx2)) hlc;rw [<-hkl] at HT0;have Hc:kl.length < 2000:=by rw [hkl,CY];omega
     obtain ⟨AFe,Rc⟩:=Al hkl hmk;clear hx hx1 hx2 hlc hkl hYW hd hdl hc hfl hmk;go_upto_region 16 with (first
      | (refine Kj rfl 34 (AX 111) rfl tb (DS+lk*32) rfl d _ N0.o underlying34 rfl Cd.o ET.o ?_)
      | (refine Un rfl 34 (AX 113) (AX 112) rfl (w.heap.size+1+1) 39 (yA d) rfl rfl Tz.o HYZ.o (Kh d) ?_)
      | fail)
     have hI:=HT0.o;change RS _ _ _ _ _ _ _ (wr.setCells (w.heap.size+1+1) 39 (yA d).toList) at hI;generalize wr.setCells (w.heap.size+1+1) 39 (yA d).toList=wt at hI ⊢;have HIT:=AF hI;clear hI;have hz2:=HIT.o.kx.size;have hIB:=HIT.o.below AG AG (Af _ _).drew;have ah:=AF hIB;obtain ⟨Vg,Ml,cv,Mg,Me,ck',S,h1',h2',h3',h4',h5',h6',Tr⟩:=hIB.row;have hL:w.heap.size+1+1 < w12.heap.size:=AG
     have PR:w12.heap.size<=wt.drew.heap.size:=hIB.kx.size;have j8:AY wt.drew (w.heap.size+1) 46 Y:=(hIB.kx.same _ AG AG).trans qy.o;have hcl:=HLC.o;have UF:∀(j':Nat) (v:AN),[Value.int .i64 x.index,AA B1 m1 e1,AA B2 m2 e2][j']? =some v->wt.drew.cell? ⟨lb,lo+mk*3+j',none⟩=some v:=fun j' v hv=>(hIB.old.cell (p:=⟨lb,lo+mk*3+j',none⟩) hlb).trans (Te (hcl j' v hv));have TK:∀W,wt.drew.grownBy W (Value.slice Mg kl.length Me).ownBlock->W.cell? ⟨w.heap.size+1+1,71,none⟩=some (AA Mg kl.length Me)/\W.cell? ⟨w.heap.size+1,38,none⟩=some (AA (some ⟨lb,lo,none⟩) (vn+4+1) kc)/\W.cell? ⟨lb,lo+mk*3,none⟩=some (AB AE x.index)/\W.cell? ⟨lb,lo+mk*3+1,none⟩=some (AA B1 m1 e1)/\W.cell? ⟨lb,lo+mk*3+2,none⟩=some (AA B2 m2 e2):=fun W hW=>by have hf:∀o,some (Addr.mk lb o none).block≠(Value.slice Mg kl.length Me).ownBlock:=fun o=>Dj h5'.own gC;exact ⟨hW.cell (JO h1' Hr.o ET.o).claims (Dj h5'.own hL),hW.cell (Dz.o _ j8).2.2.2 (Dj h5'.own Ze),hW.cell (UF 0 _ rfl) (hf _),hW.cell (UF 1 _ rfl) (hf _),hW.cell (UF 2 _ rfl) (hf _)⟩
     have hS:=Cu wt.drew (Value.slice Mg kl.length Me).ownBlock;have hvb:BL (veil S0 w).heap.size (veil S0 w) (veil S wt.drew):=av hIB.old h6';have hlf:Cy (veil S wt.drew) [AB AE x.index,AA B1 m1 e1,AA B2 m2 e2] x:=⟨B1,m1,e1,B2,m2,e2,rfl,HX.o.2.1.mono BO hvb,HX.o.2.2.mono BO hvb⟩;refine lB (fun W=>wt.drew.grownBy W (Value.slice Mg kl.length Me).ownBlock) [12] 13 _ ?_;refine lT 0 114 hS ?_;refine lT 1 115 hS ?_;refine lT 2 116 hS ?_;refine lT 3 117 hS ?_;refine lM 4 118 10 hS ?_;refine lM 5 119 3 hS ?_;refine lT 6 120 hS (v:=AB AE (mk:Nat)) ?_ (hv:=by intro W hW;rw [<-hmw];(go_simp) <;> rfl);refine lT 7 121 hS ?_;refine lT 8 122 hS ?_;refine me 9 10 11 12 123 124 125 115 44 71 122 h5'.own (news:=#[AB AE x.index,AA B1 m1 e1,AA B2 m2 e2]) rfl (mZ _ _ _ _ _ _ _) (by unfold maxLen;have:=Hc;omega) (by have:=Hc;omega) PR (iM _ _ _ _ _ _ _ _)
      (fun v' w7 Gh Ec=>by obtain ⟨A'',c'',rfl⟩:=CG Gh;have k7:=(h1'.alloc _).grown Ec (Dj h5'.own hL);exact Zi w7 _ 71 _ _ _ _ ((JO k7 Hr.o ET.o).claims) (k7.frozen 71)) ?_ WK.choose_spec.choose_spec
     intro v7 w7 Gh Ec PN;simp only [CZ,Ch];have YE:=ah.o.xL (x:=x) Hr.o ET.o hL PR h1' h2' h3' h4' h5' h6' Tr rfl hlf Gh Ec PN;generalize (w7.setCell ⟨w.heap.size+1+1,71,none⟩ v7)=wk at YE ⊢;have HI3:=AF YE;clear YE Gh Ec PN h1' h2' h3' h4' h5' h6' Tr TK hS hL PR hIB j8 hcl UF hvb hlf ah hz2;go_wp2
     go_meet
     refine ⟨d,kl++[x],?_,?_,ET.o,HI3.o⟩
     · rw [Ak h0,Cq,Ck,HD1.o];rfl
     · rw [Ak h0,Cq,<-Rc.o,Ck,HX.o.1,AFe.o];rfl
    go_wp2
    go_meet
    refine ⟨Gq,fs.map jz,by rw [Ah (by omega:¬0<=link)],by rw [Ah (by omega:¬0<=link),FM],rfl,?_⟩;have h:=UE.o;rw [HSV.o] at h ⊢;exact h
   obtain ⟨tk,kl,htk,hkl,htl,hI⟩:=hcut;have Vs:=AF hI;have hfl:fs.length<=1000:=Mi.o;have RI:=cK.o;have TM:AI ({sv with token:=tk}.token.length=32):=AF htl;obtain ⟨ALJ,ALi⟩:=Al htk hkl;have Hc:kl.length < 2000:=by rw [hkl,CX,CY];split <;> simp <;> omega
   obtain ⟨mk,hmk⟩:=Ad (vn+4:Nat);have hmw:IntKind.i64.wrap ((vn:Int)+4)=(mk:Nat):=by rw [Ca _ ZY];omega
   obtain ⟨lb,lo,x,B1,m1,e1,B2,m2,e2,rfl,hlb,hx,hx1,hx2,hlc⟩:=Od J6.o (show mk < vn+4+1 by omega);rw [EM] at hlb;have hk5:(mk:Int) < (vn:Int)+4+1:=AG
   obtain ⟨HX,HLC,Rc⟩:=BB (And.intro hx (And.intro hx1 hx2)) hlc hmk;clear hx hx1 hx2 hlc hkl htk htl hI hmk hfl;go_upto_region 17 with fail;have hz2:=Vs.o.kx.size;have hIB:=Vs.o.below AG AG (Af _ _).drew;have ah:=AF hIB;obtain ⟨Vg,Ml,cv,Mg,Me,ck',S,h1',h2',h3',h4',h5',h6',Tr⟩:=hIB.row;have hL:w.heap.size+1+1 < w12.heap.size:=AG
   have PR:w12.heap.size<=wc.drew.heap.size:=hIB.kx.size;have j8:AY wc.drew (w.heap.size+1) 46 Y:=(hIB.kx.same _ AG AG).trans qy.o;have hcl:=HLC.o;have UF:∀(j':Nat) (v:AN),[Value.int .i64 x.index,AA B1 m1 e1,AA B2 m2 e2][j']? =some v->wc.drew.cell? ⟨lb,lo+mk*3+j',none⟩=some v:=fun j' v hv=>(hIB.old.cell (p:=⟨lb,lo+mk*3+j',none⟩) hlb).trans (Te (hcl j' v hv));have TK:∀W,wc.drew.grownBy W (Value.slice Mg kl.length Me).ownBlock->W.cell? ⟨w.heap.size+1+1,71,none⟩=some (AA Mg kl.length Me)/\W.cell? ⟨w.heap.size+1,38,none⟩=some (AA (some ⟨lb,lo,none⟩) (vn+4+1) kc)/\W.cell? ⟨lb,lo+mk*3,none⟩=some (AB AE x.index)/\W.cell? ⟨lb,lo+mk*3+1,none⟩=some (AA B1 m1 e1)/\W.cell? ⟨lb,lo+mk*3+2,none⟩=some (AA B2 m2 e2):=fun W hW=>by have hf:∀o,some (Addr.mk lb o none).block≠(Value.slice Mg kl.length Me).ownBlock:=fun o=>Dj h5'.own gC;exact ⟨hW.cell (JO h1' Hr.o TM.o).claims (Dj h5'.own hL),hW.cell (Dz.o _ j8).2.2.2 (Dj h5'.own Ze),hW.cell (UF 0 _ rfl) (hf _),hW.cell (UF 1 _ rfl) (hf _),hW.cell (UF 2 _ rfl) (hf _)⟩
   have hS:=Cu wc.drew (Value.slice Mg kl.length Me).ownBlock;have hvb:BL (veil S0 w).heap.size (veil S0 w) (veil S wc.drew):=av hIB.old h6';have hlf:Cy (veil S wc.drew) [AB AE x.index,AA B1 m1 e1,AA B2 m2 e2] x:=⟨B1,m1,e1,B2,m2,e2,rfl,HX.o.2.1.mono BO hvb,HX.o.2.2.mono BO hvb⟩;refine lB (fun W=>wc.drew.grownBy W (Value.slice Mg kl.length Me).ownBlock) [11] 12 _ ?_;refine lT 0 126 hS ?_;refine lT 1 127 hS ?_;refine lT 2 128 hS ?_;refine lT 3 129 hS ?_;refine lM 4 130 10 hS ?_;refine lT 5 131 hS (v:=AB AE (mk:Nat)) ?_ (hv:=by intro W hW;rw [<-hmw];(go_simp) <;> rfl);refine lT 6 132 hS ?_;refine lT 7 133 hS ?_;refine me 8 9 10 11 134 135 136 127 44 71 133 h5'.own (news:=#[AB AE x.index,AA B1 m1 e1,AA B2 m2 e2]) rfl (mZ _ _ _ _ _ _ _) (by unfold maxLen;have:=Hc;omega) (by have:=Hc;omega) PR (iM _ _ _ _ _ _ _ _)
    (fun v' w7 Gh Ec=>by obtain ⟨A'',c'',rfl⟩:=CG Gh;have k7:=(h1'.alloc _).grown Ec (Dj h5'.own hL);exact Zi w7 _ 71 _ _ _ _ ((JO k7 Hr.o TM.o).claims) (k7.frozen 71)) ?_ WK.choose_spec.choose_spec
   intro v7 w7 Gh Ec PN;simp only [CZ,Ch];have YE:=ah.o.xL (x:=x) Hr.o TM.o hL PR h1' h2' h3' h4' h5' h6' Tr rfl hlf Gh Ec PN;generalize (w7.setCell ⟨w.heap.size+1+1,71,none⟩ v7)=wk at YE ⊢;have HI3:=AF YE;clear YE Gh Ec PN h1' h2' h3' h4' h5' h6' Tr TK hS hL PR hIB j8 hcl UF hvb hlf ah hz2;have hI:=HI3.o;obtain ⟨Vg,Ml,cv,Mg,Me,ck',S,h1',h2',h3',h4',h5',h6',Tr⟩:=hI.row;obtain ⟨QQ,eQ⟩:∃QQ,QQ=Em {{sv with token:=tk} with values:=AA Vg (fs.map XU).length Ml,claims:=AA Mg (kl++[x]).length Me}:=⟨_,rfl⟩;rw [<-eQ] at h1';have vU:QQ.size=72:=by
    rw [eQ,G0]
    · exact Hr.o
    · exact TM.o
   have Vn:AI ((prog.info? 57).map (·.size)=some QQ.size):=AF (by rw [vU];exact iH);have HQO:AI (QQ.all (·.oneCell')=true):=AF (by rw [eQ,HSV.o];exact SF rfl rfl rfl);have hz3:=hI.kx.size;have kN:AY wk (w.heap.size+1+1+1) 47 #[AB AE 0]:=(hI.kx.same _ AG AG).trans ALc.o;have e3:=kN.cell 0;have f3:=kN.frozen 0;have l3:=kN.lt;simp only [Aj,Ao] at e3;have hsf:Ag 1 Bt (veil S0 wk) (AA CA fs.length cc') fs:=(ALs.o.kx Iw AJB.o (by have:=H4.o;omega) (Ac _) hI.kx).AF0 Iw AJB.o (fun b hb=>by have:=RW.o b hb;have:=Cf.o.size;omega);have AHs:Ag 1 Bt (veil S0 wk) (AA Vg (fs.map XU).length Ml) (fs.map XU):=B9 (Sc h2' (fun b hb=>by have:=RW.o b hb;omega)) ⟨h3'.1,h3'.2⟩ rfl;have hsk:Ag 3 Cy (veil S0 wk) (AA Mg (kl++[x]).length Me) (kl++[x]):=B9 (Sc h5'.own (fun b hb=>by have:=RW.o b hb;omega)) ⟨h5'.els.1,fun i y hy=>JY _ _ _ _ gp (fun _ _=>au (fun b hb=>(h6' b (RW.o b hb)).2 hb)) (h5'.els.2 i y hy)⟩ rfl;obtain ⟨K1,KN,Lf,ALM,Yk,HQQ,HOLD⟩:=LU h1' kN hsf AHs hsk eQ hI.old;clear hI h1' h2' h3' h4' h5' h6' Tr eQ vU hz3 kN hsf AHs hsk;go_wp2_with (first
    | (refine Ci rfl 57 (AX 8) rfl (w.heap.size+1+1) AJ 57 QQ (0,0) _ K1.o underlying57 rfl Vn.o ?_)
    | (refine wpList_store_rowTo rfl 57 (AX 8) (AX 137) rfl rfl (w.heap.size+1+1) QQ rfl rfl 57 QQ K1.o Vn.o rfl HQO.o ?_;rw [OQ _ _ _ _ _ K1.o])
    | fail)
   have hself:wk.setCell ⟨w.heap.size+1+1+1,0,none⟩ (AB AE 0)=wk:=by rw [setCell_eq_setRow wk (w.heap.size+1+1+1) 0 _ _ _ _ KN.o];exact OQ _ _ _ _ _ KN.o
   rw [hself];refine AGh (e:=0) (g8:=w.heap.size+1+1) (ZZ:=QQ) rfl rfl K1.o Vn.o (KN.o.cell 0) ?_;rw [HRR.o,JI.o];have ev:fs.map XU=(Hx vn q fs link).values:=by rw [AIt.o];rfl
   have ex:x=q.claims.getD (vn+4) GQ:=by rw [<-Rc.o,Ck,HX.o.1];rfl
   have ek:kl++[x]=(Hx vn q fs link).claims:=by rw [ALi.o,AJG.o,ex];rfl
   have hv:=ALM.o;have hk:=Yk.o;refine ⟨CA,fs.length,cc',Vg,(fs.map XU).length,Ml,Mg,(kl++[x]).length,Me,?_,Lf.o,?_,?_,HOLD.o⟩
   ·rw [HQQ.o,HSV.o,ALJ.o]
    show _=Ending.returned (BU #[AP (Em ⟨q.Ar,q.round,q.schema,q.place,q.holder,_,_,_,_,_,_,_,_,_⟩),_]);rw [HKK.o];rfl
   ·rw [ev] at hv ⊢
    exact hv
   rw [ek] at hk ⊢;exact hk
end Go.Proofs.YtamhoilkpppdbaaGreatDoor
