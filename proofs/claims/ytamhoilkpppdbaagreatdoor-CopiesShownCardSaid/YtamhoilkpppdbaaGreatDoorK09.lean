import Derived.Test.YtamhoilkpppdbaaGreatDoorK08
import Derived.OpenShut
namespace Go.Proofs.YtamhoilkpppdbaaGreatDoor
set_option maxHeartbeats 8000000
set_option maxRecDepth 100000
open Go renaming World→AH, Value→AN, Calls→AS, TypeId→Af, Program→BA, Addr→Aa
open Go.RowKit renaming Below→BI
open Go.Proofs.Tryz
open Go.Value renaming slice→AB, int→AE, string→AL, pointer→AW, bool→Ab, agg→AP, tuple→BQ
open Go.IntKind renaming i64→AF, u8→Am
open Go.Ending renaming returned→AU
open Go.Obj renaming cells→AO
open Go.Operand renaming tmp→AY
open Go.RowKit Go.Shelf
theorem Si (g:Nat) (d:AQ) (hd:d.length=32):∀W:AH,AZ W g 34 (yA d)->(Instr.loadAt 34 (AW (some ⟨g,0,none⟩))).run prog W=.ok (AP (yA d)) W:=by intro W hg;simp only [Instr.loadAt,Instr.sureAddr,Ck,DC,Result.andThen_ok,My W g 34 34 (yA d) (0,0) _ hg underlying34 rfl (by rw [B9,hd];exact Gm)]
theorem zo:(prog.info? 71).map (·.size)=some 3:=by kernel_rfl
theorem Kw {a:AH} {g:Nat}:∀(vs:List AN) (o:Nat) (w:AH),a.grownBy w (some g)->a.grownBy (w.setCells g o vs) (some g)
 | [],_,_,h=>h
 |
  v::vs,o,w,h=>by
  rw [World.setCells];exact Kw vs (o+1) _ (OM h o v)
theorem dI (w:AH) (g:Option Nat):w.grownBy w g:=⟨rfl,rfl,rfl,Ac _,fun _ _ _=>rfl⟩
theorem AGz {P:BA} {fn:Func} {a:Act} {p q:Tmp} {ty:Af} {t:Af} {ds:TypeDesc} {cs:Array AN} {v:AN} {g:Nat} {w:AH} {x:Exit} {R:Ending->AH->Prop} (hx:x=.ret\/x=.normal) (h:fn.results=#[.cell p ty,.tmp q]) (hp:a.tmps.getD p undef=AW (some ⟨g,0,none⟩)) (hq:a.tmps.getD q undef=v) (hdf:a.defers=[]) (hg:AZ w g t cs) (hu:P.underlying ty=some ds) (hds:(match ds with | .struct _ | .array _ _=>true | _=>false)=true) (hi:(P.info? ty).map (·.size)=some cs.size) (hR:R (AU (BQ #[.agg cs,v])) w):
 bodyPost P fn R x a w:=by
 have hr:(results fn a.tmps).run P w=.ok (BQ #[.agg cs,v]) w:=by
  have hp':a.tmps[p]?.getD undef=AW (some ⟨g,0,none⟩):=by simpa using hp
  have hq':a.tmps[q]?.getD undef=v:=by simpa using hq
  simp [results,h,hp',hq',asAddr,run_loadVar_row w g t ty cs (0,0) ds hg hu hds hi]
 rcases hx with rfl | rfl
 · exact Eu hr hdf hR
 · exact bodyPost_end hr hdf hR
theorem Sc {w:AH} {g o n:Nat} {t:Af} {cs:Array AN} (h:AZ w g t cs) (hl:o+n<=cs.size):w.there g o n:=fun j hj=>by rw [h.cell,Yd AG];exact ⟨rfl,h.frozen _⟩
def ADm (q:Cj) (w:AH) (e:Ending) (w':AH):Prop:=∃v1 cs1 v2 cs2,e=AU (BQ #[AP #[AE AF q.index,v1,v2],AE AF 0])/\w'.ownsRow w.heap.size 34 32 v1 q.chains.length cs1/\Aq 32 CV w' cs1 q.chains/\w'.ownsRow w.heap.size 34 32 v2 q.path.length cs2/\Aq 32 CV w' cs2 q.path/\AK w w'
theorem l8 (seed m:AQ) (A:Option Aa) (n c k:Nat) (l:List (AQ)) (w:AH) (hs:seed.length=32) (hm:m.length=32) (hr:∀x∈m,0<=x/\x < 256) (h256:n<=256) (hk:k < n) (hT:Ca w) (hl:Ag 32 CV w (AB A n c) l):
 AS prog 58 #[AP (yA seed),AB A n c,AE AF k,AP (yA m)] w (ADm (QA Aw seed l k m) w):=by
 have HS:=AA hs;have HM:=AA hm;have CY:=AA Gm;have HP:AI (∀W,AK w W->AS prog 82 #[AB A n c,AE AF k] W (ke (Fo Aw l k) 0 W)):=AA (fun W hW=>ABP A n c k l W h256 hk (hT.below hW) (hl.mono BK hW));obtain ⟨D,hD⟩:=Ad (LN Aw seed k);have EM:D.length=32:=by rw [hD,LN];exact C7 _ _
 have HC:AI (∀W,AK w W->AS prog 73 #[AP (yA seed),AE AF k] W (Dl D W)):=AA (fun W hW=>by rw [hD];exact mB seed k W hs AG (hT.below hW));have HG:AI (∀W,AK w W->AS prog 72 #[AP (yA D),AP (yA m)] W (R4 (Kx Aw D m) W)):=AA (fun W hW=>AA6 D m W EM hm hr (hT.below hW));obtain ⟨p,hp⟩:=Ad (Fo Aw l k);obtain ⟨s,hss⟩:=Ad (Kx Aw D m);have hz:QA Aw seed l k m=⟨k,s,p⟩:=by rw [hss,hp,hD];rfl
 rw [hz];rw [<-hp] at HP;rw [<-hss] at HG;clear hs hm hr hT hl hp hss hD EM hz;go_enter func58,ntmps58;go_upto_region 1 with fail;obtain ⟨k1,b1,s1⟩:=bx w (yA seed) 34;generalize (w.alloc (AO (yA seed) 34))=w1 at k1 b1 s1 ⊢;obtain ⟨k2,b2,s2⟩:=bx w1 (yA m) 34;generalize (w1.alloc (AO (yA m) 34))=w2 at k2 b2 s2 ⊢;obtain ⟨k3,b3,s3⟩:=bx w2 #[AE AF 0,AB none 0 0,AB none 0 0] 71;generalize (w2.alloc (AO #[AE AF 0,AB none 0 0,AB none 0 0] 71))=w3 at k3 b3 s3 ⊢;rw [s1] at k2 b2 s2;rw [s2] at k3 b3 s3;have KS:=AA ((k1.below b2 AG).below b3 AG);have KM:=AA (k2.below b3 AG);have KL:=AA k3;have HB:=AA ((b1.trans (b2.mono AG)).trans (b3.mono AG));have H3:AI (w3.heap.size=w.heap.size+1+1+1):=AA AG;clear k1 k2 k3 b1 b2 b3 s1 s2 s3;go_wp2_with (first
  | (
   go_at_call 82;refine (HP.o _ HB.o).mono ?_;rintro e w4 ⟨v,cs,rfl,ho,hc,hb⟩;obtain ⟨rA,rc,rfl⟩:=CG ho;have HO:=AA ho;have EN:=AA hc;have AIZ:=AA hb.size;have KS4:=AA (KS.o.below hb KS.o.lt);have KM4:=AA (KM.o.below hb KM.o.lt);have KL4:=AA (KL.o.below hb KL.o.lt);have HB4:=AA (AV HB.o hb);clear ho hc hb))
 have hl1:=Si w.heap.size seed HS.o;have hl2:=Si (w.heap.size+1) m HM.o;have Xy:AI (∀W,AK w4 W->AZ W w.heap.size 34 (yA seed)/\AZ W (w.heap.size+1) 34 (yA m)):=AA (fun W hW=>⟨KS4.o.below hW KS4.o.lt,KM4.o.below hW KM4.o.lt⟩);have K4:AK w4 w4.drew:=(Ae _ _).drew;refine Sd (fun W=>AZ W w.heap.size 34 (yA seed)/\AZ W (w.heap.size+1) 34 (yA m)) 10 _ AJ AJ rfl ?_;refine rgM 0 20 2 AJ rfl rfl Aj (Xy.o _ K4) rfl (.inl rfl) rfl ?_;refine C9 1 21 AJ rfl rfl Aj (Xy.o _ K4) rfl (fun W hW=>run_load (hl1 W hW.1)) ?_;refine rgM 2 22 2 AJ rfl rfl Aj (Xy.o _ K4) rfl (.inl rfl) rfl ?_;refine C9 4 24 AJ rfl rfl Aj (Xy.o _ K4) rfl (fun W hW=>run_load (hl2 W hW.2)) ?_;refine rgM 6 26 10 AJ rfl rfl Aj (Xy.o _ K4) rfl (.inl rfl) rfl ?_;refine WB 3 23 AJ rfl rfl rfl rfl (enters_of func73 AJ rfl) (HC.o _ (AV HB4.o K4)) AJ ?_;rintro e w5 ⟨rfl,hb5⟩;have K5:AK w4 w5:=K4.trans hb5;refine ⟨_,rfl,Xy.o _ K5,?_⟩;refine WB 5 25 AJ rfl rfl rfl rfl (enters_of func72 AJ rfl) (HG.o _ (AV HB4.o K5)) AJ ?_;rintro e w6 ⟨v6,cs6,rfl,Qi,hc6,hb6⟩;have K6:AK w4 w6:=AV K5 hb6;refine ⟨_,rfl,Xy.o _ K6,?_⟩;obtain ⟨sA,sc,rfl⟩:=CG Qi;refine C9 7 27 AJ rfl rfl Aj (Xy.o _ K6) rfl (fun W _=>Yx (cells:=#[AE AF k,AB sA s.length sc,AB rA p.length rc]) AJ) ?_;have KL6:=KL4.o.below K6 KL4.o.lt;have hall:(#[AE AF k,AB sA s.length sc,AB rA p.length rc]:Array AN).all (·.oneCell')=true:=N9
 have hth:=Sc KL6 (o:=0) (n:=3) (Ac 3);have hS7:AK w (w6.setCells (w.heap.size+1+1) 0 [AE AF k,AB sA s.length sc,AB rA p.length rc]):=below_setCells _ _ _ _ (AV HB4.o K6) AG;have HG7:AI (w6.grownBy (w6.setCells (w.heap.size+1+1) 0 [AE AF k,AB sA s.length sc,AB rA p.length rc]) (some (w.heap.size+1+1))):=AA (Kw _ _ _ (dI _ _));have XY:=Xy.o _ K6;have hb8:BI (w.heap.size+1+1) w6 (w6.setCells (w.heap.size+1+1) 0 [AE AF k,AB sA s.length sc,AB rA p.length rc]):=below_setCells _ _ _ _ (Ae _ _) (Ac _);replace XY:=And.intro (XY.1.below hb8 AG) (XY.2.below hb8 AG);have K7:AZ (w6.setCells (w.heap.size+1+1) 0 [AE AF k,AB sA s.length sc,AB rA p.length rc]) (w.heap.size+1+1) 71 #[AE AF k,AB sA s.length sc,AB rA p.length rc]:=((KL6.put 0 _).put 1 _).put 2 _;refine rgS 8 71 (AY 8) (AY 27) (w.heap.size+1+1) 0 #[AE AF k,AB sA s.length sc,AB rA p.length rc] AJ rfl rfl rfl rfl AJ AJ rfl hth zo hall XY ?_;refine C9 9 9 AJ rfl rfl Aj XY rfl (v:=AE AF 0) (fun _ _=>rfl) ?_;refine F6 AJ ?_ _;simp only [Ct,DF];generalize w6.setCells (w.heap.size+1+1) 0 [AE AF k,AB sA s.length sc,AB rA p.length rc]=w7 at *;go_wp2_with fail;have hsz:=K6.size;have h5:=K5.size;have h3:=H3.o;have h4:=AIZ.o;exact AGz (.inl rfl) rfl rfl rfl rfl K7 underlying71 rfl zo ⟨_,cs6,_,cs,rfl,Nq (Qi.kept HG7.o (.inr (by intro e;have:=(Qi.lt _ e).1;omega))) AG,Ij hc6,Nq ((EW HO.o K6).kept HG7.o (.inr (by intro e;have:=(HO.o.lt _ e).1;omega))) AG,Ij EN.o,hS7⟩
def Oe:Nat->Nat->AQ
 | 0,_=>[]
 | g+1,u=>if u < 128 then [(u:Int)] else bits .or .u8 ((u % 128:Nat):Int) 128::Oe g (u / 128)
def TL (n:Int):Int:=bits .xor .u64 (IntKind.u64.wrap (IntKind.u64.wrap n*2)) (IntKind.u64.wrap (n / 9223372036854775808))
def XR (n:Int):AQ:=1::Oe 10 (TL n).toNat
def MY (l:AQ):AQ:=3::(Oe 10 l.length++(l.map XR).flatten)
structure CM where
 Ar:Int
 no:Int
 schema:Int
 day:Int
 known:Int
 places:Int
 root:Dg
structure Fb where
 Ar:Int
 round:Int
 schema:Int
 place:Int
 holder:Dg
 values:AQ
 links:List Dg
 claims:List Cj
structure IX where
 Ar:Int
 round:Int
 schema:Int
 place:Int
 holder:Dg
 fields:AQ
 values:AQ
 link:Int
 token:Dg
 claims:List Cj
section
variable (H:AQ->AQ->Dg)
def AAX:AQ:=[99,108,97,105,109]
def ADe:AQ:=[108,105,110,107]
def msgP (schema claim value:Int) (holder:Dg):Dg:=H AAX (holder++MY [schema,claim,value])
def NB (schema link:Int) (token holder:Dg):Dg:=H ADe (holder++token++MY [schema,link])
def Fm (first schema:Int) (holder:Dg) (fs vs:AQ):List (Int×Dg):=(fs.zip vs).map fun p=>(first+p.1,msgP H schema p.1 p.2 holder)
def MP (first present schema:Int) (holder:Dg) (ls:AQ) (ts:List Dg):List (Int×Dg):=(ls.zip ts).map fun p=>(first+present - 4+p.1,NB H schema p.1 p.2 holder)
def Ga (first present schema:Int) (holder:Dg) (fs vs ls:AQ) (ts:List Dg):List (Int×Dg):=
 Fm H first schema holder fs vs++MP H first present schema holder ls ts++[(first+present,msgP H schema (-1) 0 holder)]
def cn (ms:List (Int×Dg)) (cs:List Cj):Bool:=(ms.zip cs).all fun p=>decide (p.2.index=p.1.1)
def wM (root:Dg) (many:Int) (ms:List (Int×Dg)) (cs:List Cj):Bool:=(ms.zip cs).all fun p=>FO H root many p.1.2 p.2
def Ik (root:Dg) (many:Int) (ms:List (Int×Dg)) (cs:List Cj):Int:=if cn ms cs=true then if wM H root many ms cs=true then 0 else 60 else 190
def GN (nf:Option Nat) (places:Int):Bool:=match nf with
 | none=>false
 | some n=>decide (1<=places) && decide (places<=16) && decide (places*((n:Int)+4+1)<=256)
def upto (n:Nat):AQ:=(List.range n).map fun (i:Nat)=>(i:Int)
def EL (n:Nat) (val:Int->Int->Bool) (vs:AQ):Bool:=decide (vs.length=n) && ((upto n).zip vs).all fun p=>val p.1 p.2
def Fk (n:Nat) (c:Fb):List (Int×Dg):=Ga H (c.place*((n:Int)+4+1)) ((n:Int)+4) c.schema c.holder (upto n) c.values (upto 4) c.links
def Up (n:Nat) (s:IX):List (Int×Dg):=Ga H (s.place*((n:Int)+4+1)) ((n:Int)+4) s.schema s.holder s.fields s.values (if 0<=s.link then [s.link] else []) (if 0<=s.link then [s.token] else [])
def U1 (seed:Dg) (l:List Dg) (ms:List (Int×Dg)):List Cj:=ms.map fun m=>QA H seed l m.1.toNat m.2
def FS (ck:Int) (nf:Option Nat) (val:Int->Int->Bool) (r:CM) (place:Int) (links:List Dg) (xs:Int) (vs:AQ):Bool:=
 decide (ck=0) && GN nf r.places && decide (0<=place) && decide (place < r.places) && decide (links.length=4) && decide (xs=r.schema) && EL (nf.getD 0) val vs
def O6 (r:CM) (place:Int) (holder:Dg) (links:List Dg) (vs:AQ):Fb:=⟨r.Ar,r.no,r.schema,place,holder,vs,links,[]⟩
def IJ (seed:Dg) (n:Nat) (r:CM) (place:Int) (holder:Dg) (links:List Dg) (vs:AQ):Fb:=
 {O6 r place holder links vs with claims:=U1 H seed (Dq H seed (r.places*((n:Int)+4+1)).toNat) (Fk H n (O6 r place holder links vs))}
def Ve (ck:Int):Int:=if ck=0 then 190 else 160
def O5 (nf:Option Nat) (val:Int->Int->Bool) (r:CM) (c:Fb):Bool:=
 GN nf r.places && (decide (c.Ar=r.Ar) && decide (c.round=r.no) && decide (c.schema=r.schema)) && (decide (0<=c.place) && decide (c.place < r.places) && EL (nf.getD 0) val c.values) && (decide (c.links.length=4) && decide (c.claims.length=nf.getD 0+5))
def EX (ck:Int) (nf:Option Nat) (val:Int->Int->Bool) (r:CM) (c:Fb):Int:=
 if ck≠0 then 160 else if O5 nf val r c=true then Ik H r.root (r.places*(((nf.getD 0:Nat):Int)+4+1)) (Fk H (nf.getD 0) c) c.claims else 190
def NM (n:Nat):Int->AQ->Bool
 | _,[]=>true
 | last,f::l=>decide (last < f) && decide (f < n) && NM n f l
def JV (nf:Option Nat) (c:Fb) (fs:AQ) (link:Int):Bool:=match nf with
 | none=>false
 | some n=>(decide (c.values.length=n) && decide (c.links.length=4) && decide (c.claims.length=n+5)) && (NM n (-1) fs && decide (-1<=link) && decide (link < 4))
def Ni:Dg:=List.replicate 32 0
def LX:Cj:=⟨0,[],[]⟩
def LR (n:Nat) (c:Fb) (fs:AQ) (link:Int):IX:=
 ⟨c.Ar,c.round,c.schema,c.place,c.holder,fs,fs.map fun f=>c.values.getD f.toNat 0,link,if 0<=link then c.links.getD link.toNat Ni else Ni,
  fs.map (fun f=>c.claims.getD f.toNat LX)++(if 0<=link then [c.claims.getD (n+link.toNat) LX] else [])++[c.claims.getD (n+4) LX]⟩
def Gi (ck:Int) (nf:Option Nat) (c:Fb) (fs:AQ) (link:Int):Int:=if ck≠0 then 160 else if JV nf c fs link=true then 0 else 190
def Js (nf:Option Nat) (val:Int->Int->Bool) (r:CM) (s:IX):Bool:=
 GN nf r.places && (decide (s.Ar=r.Ar) && decide (s.round=r.no) && decide (s.schema=r.schema)) && (decide (0<=s.place) && decide (s.place < r.places)) && (NM (nf.getD 0) (-1) s.fields && decide (s.values.length=s.fields.length)) &&
 ((s.fields.zip s.values).all fun p=>val p.1 p.2) && (decide (-1<=s.link) && decide (s.link < 4) && (decide (s.link≠ -1) || decide (s.token=Ni))) && decide (s.claims.length=s.fields.length+(if s.link= -1 then 1 else 2))
def DK (ck:Int) (nf:Option Nat) (val:Int->Int->Bool) (r:CM) (s:IX):Int:=
 if ck≠0 then 160 else if Js nf val r s=true then Ik H r.root (r.places*(((nf.getD 0:Nat):Int)+4+1)) (Up H (nf.getD 0) s) s.claims else 190
end
theorem li (n:Int) (w:AH) (h1: -9223372036854775808<=n) (h2:n<=9223372036854775807):AS prog 144 #[AE AF n] w fun e w'=>e=AU (AE .u64 (TL n))/\w'=w:=by
 go_enter func144,ntmps144;by_cases h0:0<=n
 ·have e1:IntKind.u64.wrap n=n:=Tk _ AG
  have e2:IntKind.u64.wrap (n*2)=n*2:=Tk _ AG;have e3:IntKind.u64.wrap (n / 9223372036854775808)=n / 9223372036854775808:=Tk _ AG;go_wp2_with fail;go_ret;exact ⟨Cz (by rw [TL,e1,e2,e3]),rfl⟩
 go_wp2_with fail;exact OZ
theorem sV (n:Int):0<=TL n/\TL n < 18446744073709551616:=by have:=Go.wf_bits .xor .u64 (IntKind.u64.wrap (IntKind.u64.wrap n*2)) (IntKind.u64.wrap (n / 9223372036854775808));simp [Lit.wf,IntKind.min,IntKind.max,IntKind.signed,IntKind.bits] at this;unfold TL;omega
def Nm (B:Nat) (v:AN) (n:Nat) (xs:List AN) (ys:AQ) (w:AH) (v':AN) (w':AH):Prop:=w'.ownsRow B 5 1 v' (n+ys.length) (xs++ys.map (Value.int .u8))/\w.grownBy w' v.ownBlock/\(v'.ownBlock=v.ownBlock\/∃b,v'.ownBlock=some b/\w.heap.size<=b)
theorem vZ {a w w':AH} {r r':Option Nat} (h:a.grownBy w r) (k:w.grownBy w' r') (hr:r'=r\/∃b,r'=some b/\a.heap.size<=b):a.grownBy w' r:=
 ⟨k.os.trans h.os,k.tape.trans h.tape,k.output.trans h.output,BH h.size k.size,fun b hb hne=>by
  refine (k.block b (Au hb h.size) ?_).trans (h.block b hb hne);rcases hr with rfl | ⟨c,rfl,hc⟩
  · exact hne
  · intro e;injection e with e;omega⟩
theorem Nm.refl {B n:Nat} {v:AN} {xs:List AN} {w:AH} (h:w.ownsRow B 5 1 v n xs):Nm B v n xs [] w v w:=⟨by simpa using h,dI _ _,.inl rfl⟩
theorem Nm.step {B n:Nat} {v v' v2:AN} {xs:List AN} {ys:AQ} {y:AQ} {w w' w2:AH} (h:Nm B v n xs ys w v' w') (ho:w2.ownsRow B 5 1 v2 (n+ys.length+y.length) ((xs++ys.map (Value.int .u8))++y.map (Value.int .u8))) (hg:w'.grownBy w2 v'.ownBlock) (hb:v2.ownBlock=v'.ownBlock\/∃b,v2.ownBlock=some b/\w'.heap.size<=b):Nm B v n xs (ys++y) w v2 w2:=by
 refine ⟨by rw [CQ,<-Km,DE,<-Jk];exact ho,vZ h.2.1 hg h.2.2,?_⟩;rcases hb with e | ⟨b,e,hb⟩
 · rw [e];exact h.2.2
 · exact .inr ⟨b,e,BH h.2.1.size hb⟩
theorem mU {w:AH} {B n:Nat} {e:Af} {v:AN} {xs:List AN} {w' a:AH} (ha:BI B a w) (hB:B<=w.heap.size) (h:w.ownsRow B e 1 v n xs) (hg:w.grownBy w' v.ownBlock):BI B a w':=ha.grown hg hB (fun r hr=>(h.lt r hr).1)
theorem ZN (B:Nat) (v:AN) (n:Nat) (xs:List AN) (u:Nat) (w:AH) (ho:w.ownsRow B 5 1 v n xs) (hB:B<=w.heap.size) (hn:n<=100000) (hu:u < 18446744073709551616):
 AS prog 143 #[v,AE .u64 u] w fun e w'=>∃v',e=AU v'/\Nm B v n xs (Oe 10 u) w v' w':=by
 obtain ⟨i0,hi⟩:=R3;have HI:=AA hi;have HO:=AA ho;obtain ⟨Z,hZ⟩:=Ad (Oe 10 u);have HZ:=AA hZ;rw [<-hZ];clear hi ho hZ;obtain ⟨A0,c0,rfl⟩:=CG HO.o;go_enter func143,ntmps143;go_wp2_with fail;go_loopg [0,1] 10 (fun g v' x' wr=>∃(k x:Nat) (ys:AQ),g=k/\0 < k/\k<=10/\x < 128 ^ k/\x < 18446744073709551616/\x'=AE .u64 x/\ys++Oe k x=Z/\ys.length<=10 - k/\Nm B (AB A0 n c0) n xs ys w v' wr)
 case atStart=>exact ⟨10,u,[],rfl,by decide,Ac _,Nat.lt_trans hu Ah,hu,rfl,HZ.o.symm,Av _,Nm.refl HO.o⟩
 obtain ⟨k,x,ys,hg,hk0,hk,hx,hx2,rfl,hz,hy,hgr⟩:=hrel;obtain ⟨A1,c1,rfl⟩:=CG hgr.1;have HG:=AA hg;have HX:=AA hx;have HZ2:=AA hz;have GU:=AA hgr;have HOW:=AA hgr.1;have OU:AI (B<=wr.heap.size):=AA (BH hB hgr.2.1.size);have HY:=AA hy;clear hg hx hz hgr hy;obtain ⟨k,rfl⟩:∃j,k=j+1:=⟨k - 1,by omega⟩;have HSG:AI (∀(y:Int) v5 w5,w5.ownsRow B 5 1 v5 (n+ys.length+1) ((xs++ys.map (Value.int .u8))++[AE Am y])->(wr.alloc (AO #[AE Am y] 5)).grownBy w5 (Value.slice A1 (n+ys.length) c1).ownBlock->(v5.ownBlock=(Value.slice A1 (n+ys.length) c1).ownBlock\/v5.ownBlock=some (wr.alloc (AO #[AE Am y] 5)).heap.size)->Nm B (AB A0 n c0) n xs (ys++[y]) w v5 w5):=AA (fun y v5 w5 h1 h2 h3=>GU.o.step h1 (ND (EQ _ _ _) h2) (h3.imp id (fun h=>⟨_,h,by simp⟩)));by_cases hlt:x < 128
 ·have hx128:¬(128:Int)<=(x:Int):=by omega
  have hw8:IntKind.u8.wrap (x:Int)=(x:Int):=IntWalk.u8_in _ AG;have hzz:ys++[(x:Int)]=Z:=by rw [<-HZ2.o,Oe,Ao hlt]
  have dV:=AA hzz;clear hzz;go_wp2_with (at_builtin;refine CU _ rfl (AY 16) (AY 19) 104 5 rfl i0 (AE Am 0) 1 underlying104 HI.o.1 HI.o.2.1 HI.o.2.2.1 HI.o.2.2.2 rfl Ah (R:=Il) NF B _ _ _ rfl (HOW.o.alloc _) (some ⟨wr.heap.size,0,none⟩) 1 1 [(x:Int)] rfl (GR (d:=[(x:Int)]) (AZ.new wr 5 (yA [(x:Int)])) AX) (by have:=HY.o;unfold maxLen;omega) (by have:=HY.o;omega) (by have:=OU.o;simp;omega) ?_;intro v5 w5 NZ hc5 GK hg5 OL);go_ret;obtain rfl:=IK hc5;rw [<-dV.o];exact ⟨v5,rfl,HSG.o _ _ _ GK hg5 OL⟩
 have hx128:(128:Int)<=(x:Int):=AG
 have ha:bits .and .u64 (x:Int) 127=((x % 128:Nat):Int):=by have:=bits_and_u64_nat x 127 hx2 Ah;rw [show (127:Nat)=2 ^ 7 - 1 from rfl,Nat.and_two_pow_sub_one_eq_mod] at this;exact this
 have hw8:IntKind.u8.wrap ((x % 128:Nat):Int)=((x % 128:Nat):Int):=IntWalk.u8_in _ AG;obtain ⟨r,hr⟩:=Ad (((x % 128:Nat):Int):Int);obtain ⟨y,hy⟩:=Ad (bits .or .u8 r 128);rw [<-hr] at ha hw8;have HZ3:AI (∀m,k=m->(ys++[y])++Oe m (x / 128)=Z):=AA (fun m hm=>by rw [<-HZ2.o,Oe,Ai hlt,hy,hr,hm,Jk];rfl);have HX3:AI (x / 128 < 128 ^ k):=AA (by have:=HX.o;rw [Nat.pow_succ,Nat.mul_comm] at this;exact Nat.div_lt_of_lt_mul this);have hk0':0 < k:=by
  rcases PR k with h | h
  · subst h;have:=HX.o;omega
  · exact h
 have hor:=hy.symm;have Ml:=AA hlt;clear hr hlt hy;go_wp2_with (at_builtin;refine CU _ rfl (AY 7) (AY 12) 104 5 rfl i0 (AE Am 0) 1 underlying104 HI.o.1 HI.o.2.1 HI.o.2.2.1 HI.o.2.2.2 rfl Ah (R:=Il) NF B _ _ _ rfl (HOW.o.alloc _) (some ⟨wr.heap.size,0,none⟩) 1 1 [y] rfl (GR (d:=[y]) (AZ.new wr 5 (yA [y])) AX) (by have:=HY.o;unfold maxLen;omega) (by have:=HY.o;omega) (by have:=OU.o;simp;omega) ?_;intro v5 w5 NZ hc5 GK hg5 OL);obtain rfl:=IK hc5;go_roundg k
 case measure=>exact EF
 case rel=>exact ⟨k,x / 128,ys++[y],rfl,hk0',by omega,HX3.o,Nat.lt_of_le_of_lt (Nat.div_le_self _ _) hx2,by congr 1,HZ3.o k rfl,by have:=HY.o;rw [CQ];simp;omega,HSG.o _ _ _ GK hg5 OL⟩
def ABk (n:Int):List AN:=[AE AF 1,AE AF n,AL ⟨#[]⟩,AB none 0 0]
def Oa (_:AH) (cs:List AN) (n:Int):Prop:=cs=ABk n/\ -9223372036854775808<=n/\n<=9223372036854775807
theorem MI:Eb Oa:=fun _ _ _ _ _ h=>h
theorem ld {w:AH} {A:Option Aa} {n c k:Nat} {l:AQ} (h:Ag 4 Oa w (AB A n c) l) (hk:k < n):
 ∃b off x,A=some ⟨b,off,none⟩/\b < w.heap.size/\l[k]? =some x/\ -9223372036854775808<=x/\x<=9223372036854775807/\w.cell? ⟨b,off+k*4,none⟩=some (AE AF 1)/\w.cell? ⟨b,off+k*4+1,none⟩=some (AE AF x)/\w.cell? ⟨b,off+k*4+2,none⟩=some (AL ⟨#[]⟩)/\w.cell? ⟨b,off+k*4+3,none⟩=some (AB none 0 0):=by
 obtain ⟨b,off,x,cs,rfl,hb,hx,_,hc,rfl,h1,h2⟩:=h.at_ hk;exact ⟨b,off,x,rfl,hb,hx,h1,h2,hc 0 _ rfl,hc 1 _ rfl,hc 2 _ rfl,hc 3 _ rfl⟩
theorem vi (n:Int) (w:AH):AS prog 140 #[AP #[AE AF 1,AE AF n,AL ⟨#[]⟩,AB none 0 0]] w fun e w'=>e=AU (Ab true)/\AK w w':=by go_enter func140,ntmps140;go_wp2_with fail;go_ret;exact ⟨rfl,(Ae _ _).alloc (Ac _) _⟩
theorem AAU (n:Int) (w:AH):AS prog 141 #[AP #[AE AF 1,AE AF n,AL ⟨#[]⟩,AB none 0 0]] w fun e w'=>e=AU (AE AF 0)/\AK w w':=by go_enter func141,ntmps141;go_wp2_with fail;go_ret;exact ⟨rfl,(Ae _ _).alloc (Ac _) _⟩
theorem qg (A:Option Aa) (n c:Nat) (l:AQ) (w:AH) (h:Ag 4 Oa w (AB A n c) l):AS prog 140 #[AP #[AE AF 3,AE AF 0,AL ⟨#[]⟩,AB A n c]] w fun e w'=>e=AU (Ab true)/\AK w w':=by
 have hn:n<=9223372036854775807:=by have:=h.le;omega
 have HS:=AA h;clear h;go_enter func140,ntmps140;go_wp2_with fail;go_loopg [42] n (fun q i wr=>∃k:Nat,k<=n/\q=n - k/\i=AE AF k/\AK w wr)
 case atStart=>exact ⟨0,Av _,rfl,rfl,(Ae _ _).alloc (Ac _) _⟩
 obtain ⟨k,hk,hq,rfl,hb⟩:=hrel;have HQ:=AA hq;have HB:=AA hb;clear hq hb;by_cases hlt:k < n
 ·obtain ⟨b,off,x,rfl,hbl,hx,_,_,e0,e1,e2,e3⟩:=ld (HS.o.mono MI HB.o) hlt
  have hkn:(k:Int) < (n:Int):=AG
  have hk0:=Int.natCast_nonneg k
  clear hx;go_wp2_with (go_at_call 140;refine (vi _ _).mono ?_;rintro e w2 ⟨rfl,hb2⟩);go_roundg (n - (k+1))
  case measure=>exact BS
  exact ⟨k+1,by omega,rfl,by go_num,(HB.o.alloc HB.o.size _).trans (hb2.mono (BH HB.o.size AX))⟩
 exact P8
theorem vu (A:Option Aa) (n c:Nat) (l:AQ) (w:AH) (h:Ag 4 Oa w (AB A n c) l):AS prog 141 #[AP #[AE AF 3,AE AF 0,AL ⟨#[]⟩,AB A n c]] w fun e w'=>e=AU (AE AF 1)/\AK w w':=by
 have hn:n<=9223372036854775807:=by have:=h.le;omega
 have HS:=AA h;clear h;go_enter func141,ntmps141;go_wp2_with fail;go_loopg [3,12] n (fun q s i wr=>∃k:Nat,k<=n/\q=n - k/\s=AE AF 0/\i=AE AF k/\AK w wr)
 case atStart=>exact ⟨0,Av _,rfl,rfl,rfl,(Ae _ _).alloc (Ac _) _⟩
 obtain ⟨k,hk,hq,rfl,rfl,hb⟩:=hrel;have HQ:=AA hq;have HB:=AA hb;clear hq hb;by_cases hlt:k < n
 ·obtain ⟨b,off,x,rfl,hbl,hx,_,_,e0,e1,e2,e3⟩:=ld (HS.o.mono MI HB.o) hlt
  have hkn:(k:Int) < (n:Int):=AG
  have hk0:=Int.natCast_nonneg k
  clear hx;go_wp2_with (go_at_call 141;refine (AAU _ _).mono ?_;rintro e w2 ⟨rfl,hb2⟩);go_roundg (n - (k+1))
  case measure=>exact BS
  exact ⟨k+1,by omega,rfl,rfl,by go_num,(HB.o.alloc HB.o.size _).trans (hb2.mono (BH HB.o.size AX))⟩
 exact P8
theorem gO (A:Option Aa) (n c:Nat) (l:AQ) (w:AH) (h:Ag 4 Oa w (AB A n c) l):AS prog 96 #[AP #[AE AF 3,AE AF 0,AL ⟨#[]⟩,AB A n c]] w fun e w'=>e=AU (AE AF 0)/\AK w w':=by
 have H1:AI (∀W,AK w W->AS prog 140 #[AP #[AE AF 3,AE AF 0,AL ⟨#[]⟩,AB A n c]] W fun e w'=>e=AU (Ab true)/\AK W w'):=AA (fun W hW=>qg A n c l W (h.mono MI hW));have H2:AI (∀W,AK w W->AS prog 141 #[AP #[AE AF 3,AE AF 0,AL ⟨#[]⟩,AB A n c]] W fun e w'=>e=AU (AE AF 1)/\AK W w'):=AA (fun W hW=>vu A n c l W (h.mono MI hW));clear h;go_enter func96,ntmps96;go_upto_region 1 with fail;obtain ⟨k1,b1,s1⟩:=bx w #[AE AF 3,AE AF 0,AL ⟨#[]⟩,AB A n c] 144;generalize (w.alloc (AO #[AE AF 3,AE AF 0,AL ⟨#[]⟩,AB A n c] 144))=w1 at k1 b1 s1 ⊢;have l1:=k1.lt;have e0:=k1.cell 0;have e1:=k1.cell 1;have e2:=k1.cell 2;have e3:=k1.cell 3;simp only [Ak,Al,Az] at e0 e1 e2 e3;have K1:=AA k1;have HB:=AA b1;clear k1 b1 s1;go_wp2_with (first
  | (
   go_at_call 140;refine (H1.o _ HB.o).mono ?_;rintro e w2 ⟨rfl,hb⟩;have k2:=K1.o.below hb K1.o.lt;have l2:=k2.lt;have f0:=k2.cell 0;have f1:=k2.cell 1;have f2:=k2.cell 2;have f3:=k2.cell 3;simp only [Ak,Al,Az] at f0 f1 f2 f3;have HB2:=AA (AV HB.o hb);clear hb k2)
  | (
   go_at_call 141;refine (H2.o _ HB2.o).mono ?_;rintro e w3 ⟨rfl,hb⟩;have HB3:=AA (AV HB2.o hb);clear hb))
 go_ret;exact ⟨rfl,HB3.o⟩
theorem AG0 {P:BA} {fn:Func} {a:Act} {p:Tmp} {ty:Af} {t:Af} {ds:TypeDesc} {cs:Array AN} {g:Nat} {w:AH} {x:Exit} {R:Ending->AH->Prop} (hx:x=.ret\/x=.normal) (h:fn.results=#[.cell p ty]) (hp:a.tmps.getD p undef=AW (some ⟨g,0,none⟩)) (hdf:a.defers=[]) (hg:AZ w g t cs) (hu:P.underlying ty=some ds) (hds:(match ds with | .struct _ | .array _ _=>true | _=>false)=true) (hi:(P.info? ty).map (·.size)=some cs.size) (hR:R (AU (.agg cs)) w):
 bodyPost P fn R x a w:=by
 have hr:(results fn a.tmps).run P w=.ok (.agg cs) w:=by
  have hp':a.tmps[p]?.getD undef=AW (some ⟨g,0,none⟩):=by simpa using hp
  simp [results,h,hp',asAddr,run_loadVar_row w g t ty cs (0,0) ds hg hu hds hi]
 rcases hx with rfl | rfl
 · exact Eu hr hdf hR
 · exact bodyPost_end hr hdf hR
def su (g:Nat):Array AN:=#[.nilFunc,.func (.func 142) #[] #[],.func (.func 145) #[] #[],.func (.func 146) #[] #[AW (some ⟨g,0,none⟩)]]
theorem AHG:(prog.info? 187).map (·.size)=some 4:=by kernel_rfl
theorem pg (w:AH):AS prog 97 #[] w fun e w'=>e=AU (AP (su w.heap.size))/\AZ w' w.heap.size 187 (su w.heap.size)/\AK w w':=by have hmf:∀(fn:Fn) (first cap:Array AN) (w:AH),(Instr.makeFunc fn first cap).run prog w=.ok (.func fn first cap) w:=fun _ _ _ _=>rfl;go_enter func97,ntmps97;go_wp2_with fail;exact AG0 (.inl rfl) rfl rfl rfl (AZ.new w _ _) underlying187 rfl AHG ⟨rfl,AZ.new _ _ _,(Ae _ _).alloc (Ac _) _⟩
theorem lW (B:Nat) (v:AN) (n:Nat) (xs:List AN) (x:Int) (w:AH) (ho:w.ownsRow B 5 1 v n xs) (hB:B<=w.heap.size) (hn:n<=90000) (h1: -9223372036854775808<=x) (h2:x<=9223372036854775807):
 AS prog 142 #[v,AP #[AE AF 1,AE AF x,AL ⟨#[]⟩,AB none 0 0]] w fun e w'=>∃v',e=AU v'/\Nm B v n xs (XR x) w v' w':=by
 obtain ⟨i0,hi⟩:=R3;have HI:=AA hi;have HO:=AA ho;have HU:AI (∀W,AS prog 144 #[AE AF x] W fun e w'=>e=AU (AE .u64 (TL x))/\W=w'):=AA (fun W=>(li x W h1 h2).mono fun e w' h=>⟨h.1,h.2.symm⟩);obtain ⟨u,hu⟩:∃u:Nat,TL x=u:=⟨(TL x).toNat,by have:=sV x;omega⟩;have hu2:u < 18446744073709551616:=by have:=sV x;omega
 have hip:XR x=[1]++Oe 10 u:=by rw [XR,hu,Cm];rfl
 rw [hip];rw [hu] at HU;obtain ⟨A0,c0,rfl⟩:=CG ho;clear hi ho hu hip;go_enter func142,ntmps142;go_upto_region 1 with fail;obtain ⟨k1,b1,s1⟩:=bx w #[AE AF 1,AE AF x,AL ⟨#[]⟩,AB none 0 0] 144;have IY:=AA (HO.o.alloc (AO #[AE AF 1,AE AF x,AL ⟨#[]⟩,AB none 0 0] 144));generalize (w.alloc (AO #[AE AF 1,AE AF x,AL ⟨#[]⟩,AB none 0 0] 144))=w1 at k1 b1 s1 IY ⊢;have l1:=k1.lt;have K1:=AA k1;have ADX:=AA b1;have HZ:=AA s1;clear k1 b1 s1;have SG:AI (some w.heap.size≠(Value.slice A0 n c0).ownBlock):=AA rW;have HC0:=AA (K1.o.cell 1);have K2:=AA ((K1.o.alloc (AO #[AE Am 1] 5)).drew);have Kd:=AA (K2.o.cell 1);have HB1:AI (B<=w1.heap.size):=AA UI;have HYY:AI (∀v5 w5,w5.ownsRow B 5 1 v5 (n+1) (xs++[1].map (Value.int .u8))->((w1.alloc (AO #[AE Am 1] 5)).drew).grownBy w5 (Value.slice A0 n c0).ownBlock->(v5.ownBlock=(Value.slice A0 n c0).ownBlock\/v5.ownBlock=some ((w1.alloc (AO #[AE Am 1] 5)).drew).heap.size)->Nm B (AB A0 n c0) n xs [1] w v5 w5):=AA (fun v5 w5 h1 h2 h3=>⟨h1,ND (grown_drew (Ta (MV ADX.o _) _)) h2,h3.imp id (fun h=>⟨_,h,by show w.heap.size<=(w1.alloc _).heap.size;have:=HZ.o;simp;omega⟩)⟩);have HNN:AI (∀v5:AN,(v5.ownBlock=(Value.slice A0 n c0).ownBlock\/v5.ownBlock=some ((w1.alloc (AO #[AE Am 1] 5)).drew).heap.size)->some w.heap.size≠v5.ownBlock):=AA (fun v5 h e=>by
  rcases h with h | h
  · exact SG.o (e.trans h)
  · rw [h] at e;injection e with e;have e:w.heap.size=(w1.alloc (AO #[AE Am 1] 5)).heap.size:=e;have:=HZ.o;simp at e;omega)
 go_region_held3 (fun W=>W.cell? ⟨w.heap.size,1,none⟩=some (AE AF x)) (first | exact HC0.o | exact Kd.o | exact uE.o | exact jf.o | fail) (first
  | (go_at_call 144;(with_reducible refine (HU.o _).mono ?_);rintro e w2 ⟨rfl,rfl⟩)
  | (
   refine Pn _ Cq (AY 5) (AY 6) 104 5 Cq i0 (AE Am 0) 1 underlying104 HI.o.1 HI.o.2.1 HI.o.2.2.1 HI.o.2.2.2 rfl Ah (R:=Il) NF B _ n xs Cq (IY.o.alloc (AO #[AE Am 1] 5)).drew (some ⟨w1.heap.size,0,none⟩) 1 1 [1] Cq (GR (d:=[1]) (AZ.new w1 5 (yA [1])).drew Ah) ?_ ?_ ?_ ?_
   · exact RU
   · omega
   · exact BH HB1.o AX
   intro v5 w5 NZ hc5 GK hg5 OL;obtain rfl:=IK hc5;have uE:=AA ((K2.o.grown hg5 (SG.o)).cell 1);have X4:=AA GK;have X6:=AA hg5;have KY:=AA (HYY.o v5 w5 GK hg5 OL);have K5:=AA (K2.o.grown hg5 SG.o);have WU:=AA (HNN.o v5 OL);clear hc5 GK hg5 OL)
  | (
   go_at_call 143
   (with_reducible refine (ZN B v5 (n+1) _ u _ X4.o ?_ ?_ hu2).mono ?_)
   · exact BH (BH HB1.o AX) X6.o.size
   · omega
   rintro e w6 ⟨v6,rfl,NI⟩;have jf:=AA ((K5.o.grown NI.2.1 WU.o).cell 1);have jc:=AA (KY.o.step NI.1 NI.2.1 NI.2.2);clear NI)
  | fail)
 go_wp2_with fail
 all_goals (go_ret;exact ⟨v6,rfl,jc.o⟩)
def Ly (l:AQ) (k:Nat):AQ:=3::(Oe 10 l.length++((l.take k).map XR).flatten)
theorem oI (l:AQ):Ly l l.length=MY l:=by rw [Ly,PO];rfl
theorem jF {l:AQ} {k:Nat} {x:Int} (h:l[k]? =some x):Ly l (k+1)=Ly l k++XR x:=by rw [Ly,take_snoc h,DE,PV,Ly];simp
theorem aB:∀(g u:Nat),(Oe g u).length<=g
 | 0,_=>Ac _
 |
  g+1,u=>by
  rw [Oe];split
  · simp
  have:=aB g (u / 128);exact bE
theorem ABl (x:Int):(XR x).length<=11:=by have:=aB 10 (TL x).toNat;simp only [XR,Gw];omega
theorem aX (l:AQ):∀k,(Ly l k).length<=11+k*11
 | 0=>by have:=aB 10 l.length;simp [Ly];omega
 |
  k+1=>by
  have h:=aX l k;rcases Ec k l.length with hk | hk
  ·rw [jF (BJ hk),CQ]
   have:=ABl l[k];omega
  have e:Ly l (k+1)=Ly l k:=by rw [Ly,Ly,Cu AG,Cu hk]
  rw [e];omega
theorem lV (A:Option Aa) (m c g:Nat) (l:AQ) (w:AH) (hl:Ag 4 Oa w (AB A m c) l) (hm:m<=1000) (ht:AZ w g 187 (su g)):
 AS prog 146 #[AB none 0 0,AP #[AE AF 3,AE AF 0,AL ⟨#[]⟩,AB A m c],AW (some ⟨g,0,none⟩)] w (au (MY l) w):=by
 obtain ⟨i0,hi⟩:=R3;have HI:=AA hi;have HL:=AA hl;have IB:=AA hl.len;have HT:=AA ht;have lg:=ht.lt;clear hi hl ht;go_enter func146,ntmps146;go_upto_region 1 with fail;obtain ⟨k1,b1,s1⟩:=bx w #[AE AF 3,AE AF 0,AL ⟨#[]⟩,AB A m c] 144;generalize (w.alloc (AO #[AE AF 3,AE AF 0,AL ⟨#[]⟩,AB A m c] 144))=w1 at k1 b1 s1 ⊢;have l1:=k1.lt;have K1:=AA k1;have ADX:=AA b1;have HZ:=AA s1;clear k1 b1 s1;have HN0:=AA (Ev ((w1.alloc (AO #[AE Am 3] 5)).drew) w.heap.size 5 1);have HC0:=AA (K1.o.cell 3);have K2:=AA ((K1.o.alloc (AO #[AE Am 3] 5)).drew);have Kd:=AA (K2.o.cell 3);have HYY:AI (∀v5 w5,w5.ownsRow w.heap.size 5 1 v5 (0+1) ([]++[3].map (Value.int .u8))->((w1.alloc (AO #[AE Am 3] 5)).drew).grownBy w5 (Value.slice none 0 0).ownBlock->(v5.ownBlock=(Value.slice none 0 0).ownBlock\/v5.ownBlock=some ((w1.alloc (AO #[AE Am 3] 5)).drew).heap.size)->Nm w.heap.size (AB none 0 0) 0 [] [3] w v5 w5):=AA (fun v5 w5 h1 h2 h3=>⟨h1,ND (grown_drew (Ta (MV ADX.o _) _)) h2,h3.imp id (fun h=>⟨_,h,by show w.heap.size<=(w1.alloc _).heap.size;have:=HZ.o;simp;omega⟩)⟩);have HNN:AI (∀v5:AN,(v5.ownBlock=(Value.slice none 0 0).ownBlock\/v5.ownBlock=some ((w1.alloc (AO #[AE Am 3] 5)).drew).heap.size)->some w.heap.size≠v5.ownBlock):=AA (fun v5 h e=>by
  rcases h with h | h
  · rw [h] at e;simp [Value.ownBlock] at e
  · rw [h] at e;injection e with e;have e:w.heap.size=(w1.alloc (AO #[AE Am 3] 5)).heap.size:=e;have:=HZ.o;simp at e;omega)
 have hm0:(0:Int)<=(m:Int):=AG
 have hmw:IntKind.u64.wrap (m:Int)=(m:Int):=Tk _ AG
 go_region_held3 (fun W=>W.cell? ⟨w.heap.size,3,none⟩=some (AB A m c)) (first | exact HC0.o | exact Kd.o | exact uE.o | exact jf.o | fail) (first
  | (
   refine Pn _ Cq (AY 8) (AY 9) 104 5 Cq i0 (AE Am 0) 1 underlying104 HI.o.1 HI.o.2.1 HI.o.2.2.1 HI.o.2.2.2 rfl Ah (R:=Il) NF w.heap.size (AB none 0 0) 0 [] Cq HN0.o (some ⟨w1.heap.size,0,none⟩) 1 1 [3] Cq (GR (d:=[3]) (AZ.new w1 5 (yA [3])).drew Ah) ?_ ?_ ?_ ?_
   · exact RU
   · omega
   · have:=HZ.o;show w.heap.size<=(w1.alloc _).heap.size;simp;omega
   intro v5 w5 NZ hc5 GK hg5 OL;obtain rfl:=IK hc5;have uE:=AA ((K2.o.grown hg5 M1).cell 3);have X4:=AA GK;have X6:=AA hg5;have KY:=AA (HYY.o v5 w5 GK hg5 OL);have K5:=AA (K2.o.grown hg5 M1);have WU:=AA (HNN.o v5 OL);clear hc5 GK hg5 OL)
  | (
   go_at_call 143
   (with_reducible refine (ZN w.heap.size v5 (0+1) _ m _ X4.o ?_ ?_ ?_).mono ?_)
   · have h1:=KY.o.2.1.size;exact h1
   · omega
   · omega
   rintro e w6 ⟨v6,rfl,NI⟩;have K6:=AA (K5.o.grown NI.2.1 WU.o);have jf:=AA (K6.o.cell 3);have jc:=AA (KY.o.step NI.1 NI.2.1 NI.2.2);clear NI)
  | fail)
 have he:[3]++Oe 10 m=Ly l 0:=by rw [Ly,<-IB.o];simp
 have ho:=jc.o.1;rw [he,Fc,Jh] at ho;have Fu:AI (AK w w6):=AA ((Ae _ _).grown jc.o.2.1 (Ac _) (fun r hr=>by simp [Value.ownBlock] at hr));obtain ⟨A6,c6,rfl⟩:=CG ho;have c3:=jf.o;have l6:=K6.o.lt;have QZ:=AA ho;clear HYY HNN jc jf HN0 HC0 Kd K2 ho he;have hmm:m<=9223372036854775807:=AG
 have HE:AI (∀k,(Ly l k).length<=11+k*11):=AA (aX l);go_wp2_with fail;clear c3;go_loopg [0,19] m (fun q v i wr=>∃k:Nat,k<=m/\q=m - k/\i=AE AF k/\wr.ownsRow w.heap.size 5 1 v (Ly l k).length ((Ly l k).map (Value.int .u8))/\AK w wr)
 case atStart=>exact ⟨0,Av _,rfl,rfl,QZ.o,Fu.o⟩
 clear QZ Fu;obtain ⟨k,hk,hq,rfl,ho,hb⟩:=hrel;obtain ⟨A7,c7,rfl⟩:=CG ho;have HQ:=AA hq;have HB:=AA hb;have HO:=AA ho;clear hq hb ho;by_cases hlt:k < m
 ·obtain ⟨b,off,x,rfl,hbl,hx,hx1,hx2,e0,e1,e2,e3⟩:=ld (HL.o.mono MI HB.o) hlt
  have hkn:(k:Int) < (m:Int):=AG
  have hk0:=Int.natCast_nonneg k
  have HX:=AA hx;clear hx;go_upto_region 5 with fail;obtain ⟨k8,b8,s8⟩:=bx wr #[AE AF 1,AE AF x,AL ⟨#[]⟩,AB none 0 0] 144;have HO8:=AA (HO.o.alloc (AO #[AE AF 1,AE AF x,AL ⟨#[]⟩,AB none 0 0] 144));have HT8:=AA ((HT.o.below HB.o lg).alloc (AO #[AE AF 1,AE AF x,AL ⟨#[]⟩,AB none 0 0] 144));have Ke:=AA (HB.o.alloc HB.o.size (AO #[AE AF 1,AE AF x,AL ⟨#[]⟩,AB none 0 0] 144));generalize (wr.alloc (AO #[AE AF 1,AE AF x,AL ⟨#[]⟩,AB none 0 0] 144))=w8 at k8 b8 s8 HO8 HT8 Ke ⊢;have Kb:AI (∀W,AZ W wr.heap.size 144 #[AE AF 1,AE AF x,AL ⟨#[]⟩,AB none 0 0]->AZ W g 187 (su g)->W.cell? ⟨wr.heap.size,0,none⟩=some (AE AF 1)/\W.cell? ⟨wr.heap.size,1,none⟩=some (AE AF x)/\W.cell? ⟨wr.heap.size,2,none⟩=some (AL ⟨#[]⟩)/\W.cell? ⟨wr.heap.size,3,none⟩=some (AB none 0 0)/\W.cell? ⟨g,1,none⟩=some (.func (.func 142) #[] #[])):=AA (fun W h1 h2=>⟨h1.cell 0,h1.cell 1,h1.cell 2,h1.cell 3,h2.cell 1⟩);have K8:=AA k8.drew;have HS8:=AA (Kb.o _ K8.o HT8.o.drew);have HL8:AI (w8.heap.size=wr.heap.size+1):=AA s8;have lb:=k8.lt;have lg8:=HT8.o.lt;clear k8 b8 s8 e0 e1 e2 e3 HT
  go_region_held3 (fun W=>W.cell? ⟨wr.heap.size,0,none⟩=some (AE AF 1)/\W.cell? ⟨wr.heap.size,1,none⟩=some (AE AF x)/\W.cell? ⟨wr.heap.size,2,none⟩=some (AL ⟨#[]⟩)/\W.cell? ⟨wr.heap.size,3,none⟩=some (AB none 0 0)/\W.cell? ⟨g,1,none⟩=some (.func (.func 142) #[] #[])) (first | exact HS8.o | exact HS9.o | fail) (first
   | (
    go_at_call 142
    (with_reducible refine (lW w.heap.size _ (Ly l k).length _ x _ HO8.o.drew ?_ ?_ hx1 hx2).mono ?_)
    · exact Ke.o.size
    · have:=HE.o k;omega
    rintro e w9 ⟨v9,rfl,hg9⟩;have LM:=AA (Ke.o.drew.grown hg9.2.1 Ke.o.size (fun r hr=>(HO8.o.lt r hr).1));have HS9:=AA (Kb.o _ (K8.o.grown hg9.2.1 rW) (HT8.o.drew.grown hg9.2.1 (DX HO8.o lg)));have HO9:=AA hg9.1;clear hg9)
   | fail)
  go_wp2_with fail;go_roundg (m - (k+1))
  case measure=>exact BS
  refine ⟨k+1,by omega,rfl,by go_num,?_,LM.o⟩;rw [jF HX.o,CQ,DE];exact HO9.o
 have hkm:k=l.length:=by have:=IB.o;omega
 go_wp2_with fail;go_ret;rw [<-oI,<-hkm];exact ⟨_,rfl,HO.o,HB.o⟩
def ADl (l:AQ) (w:AH) (e:Ending) (w':AH):Prop:=∃v,e=AU (BQ #[v,AE AF 0])/\w'.ownsRow w.heap.size 5 1 v l.length (l.map (Value.int .u8))/\AK w w'
theorem vq (A:Option Aa) (m c:Nat) (l:AQ) (w:AH) (hl:Ag 4 Oa w (AB A m c) l) (hm:m<=1000):
 AS prog 68 #[AP #[AE AF 3,AE AF 0,AL ⟨#[]⟩,AB A m c]] w (ADl (MY l) w):=by
 have HC:AI (∀W,AK w W->AS prog 96 #[AP #[AE AF 3,AE AF 0,AL ⟨#[]⟩,AB A m c]] W fun e w'=>e=AU (AE AF 0)/\AK W w'):=AA (fun W hW=>gO A m c l W (hl.mono MI hW));have H3:AI (∀g W,AK w W->AZ W g 187 (su g)->AS prog 146 #[AB none 0 0,AP #[AE AF 3,AE AF 0,AL ⟨#[]⟩,AB A m c],AW (some ⟨g,0,none⟩)] W (au (MY l) W)):=AA (fun g W hW ht=>lV A m c g l W (hl.mono MI hW) hm ht);obtain ⟨Z,hZ⟩:=Ad (MY l);rw [<-hZ] at H3 ⊢;clear hl hZ;go_enter func68,ntmps68;go_upto_region 1 with fail;obtain ⟨k1,b1,s1⟩:=bx w #[AE AF 3,AE AF 0,AL ⟨#[]⟩,AB A m c] 144;generalize (w.alloc (AO #[AE AF 3,AE AF 0,AL ⟨#[]⟩,AB A m c] 144))=w1 at k1 b1 s1 ⊢;have l1:=k1.lt;have e0:=k1.cell 0;have e1:=k1.cell 1;have e2:=k1.cell 2;have e3:=k1.cell 3;simp only [Ak,Al,Az] at e0 e1 e2 e3;have K1:=AA k1;have HB1:=AA b1;clear k1 b1 s1;go_upto_region 5 with (first
  | (
   go_at_call 96;refine (HC.o _ HB1.o).mono ?_;rintro e w2 ⟨rfl,hb⟩;have K2:=AA (K1.o.below hb K1.o.lt);have HB2:=AA (AV HB1.o hb);clear hb)
  | (
   go_at_call 97;refine (pg _).mono ?_;rintro e w3 ⟨rfl,ht,hb⟩;have K3:=AA (K2.o.below hb K2.o.lt);have HT3:=AA ht;have HB3:=AA (AV HB2.o hb);clear hb ht;unfold su))
 have kt:=AZ.new w3 187 #[.nilFunc,.func (.func 142) #[] #[],.func (.func 145) #[] #[],.func (.func 146) #[] #[AW (some ⟨w2.heap.size,0,none⟩)]];have Kb:AI (∀W,BI (w3.heap.size+1) (w3.alloc (AO #[.nilFunc,.func (.func 142) #[] #[],.func (.func 145) #[] #[],.func (.func 146) #[] #[AW (some ⟨w2.heap.size,0,none⟩)]] 187)) W->W.cell? ⟨w.heap.size,0,none⟩=some (AE AF 3)/\W.cell? ⟨w.heap.size,1,none⟩=some (AE AF 0)/\W.cell? ⟨w.heap.size,2,none⟩=some (AL ⟨#[]⟩)/\W.cell? ⟨w.heap.size,3,none⟩=some (AB A m c)/\W.cell? ⟨w3.heap.size,3,none⟩=some (.func (.func 146) #[] #[AW (some ⟨w2.heap.size,0,none⟩)])):=AA (fun W hW=>by have a:=(K3.o.alloc (AO #[.nilFunc,.func (.func 142) #[] #[],.func (.func 145) #[] #[],.func (.func 146) #[] #[AW (some ⟨w2.heap.size,0,none⟩)]] 187)).below hW (Nat.lt_succ_of_lt K3.o.lt);have b:=kt.below hW (Ib _);exact ⟨a.cell 0,a.cell 1,a.cell 2,a.cell 3,b.cell 3⟩)
 have HT4:=AA ((HT3.o.alloc (AO #[.nilFunc,.func (.func 142) #[] #[],.func (.func 145) #[] #[],.func (.func 146) #[] #[AW (some ⟨w2.heap.size,0,none⟩)]] 187)).drew);have HB4:=AA ((HB3.o.alloc HB3.o.size (AO #[.nilFunc,.func (.func 142) #[] #[],.func (.func 145) #[] #[],.func (.func 146) #[] #[AW (some ⟨w2.heap.size,0,none⟩)]] 187)).drew);have hk1:=K3.o.lt;have hk2:=kt.lt;have jS:=AA (Kb.o _ (Ae _ _).drew);have HZ4:AI ((w3.alloc (AO #[.nilFunc,.func (.func 142) #[] #[],.func (.func 145) #[] #[],.func (.func 146) #[] #[AW (some ⟨w2.heap.size,0,none⟩)]] 187)).heap.size=w3.heap.size+1):=AA AX;clear kt;generalize (w3.alloc (AO #[.nilFunc,.func (.func 142) #[] #[],.func (.func 145) #[] #[],.func (.func 146) #[] #[AW (some ⟨w2.heap.size,0,none⟩)]] 187))=w4 at *
 go_region_held3 (fun W=>W.cell? ⟨w.heap.size,0,none⟩=some (AE AF 3)/\W.cell? ⟨w.heap.size,1,none⟩=some (AE AF 0)/\W.cell? ⟨w.heap.size,2,none⟩=some (AL ⟨#[]⟩)/\W.cell? ⟨w.heap.size,3,none⟩=some (AB A m c)/\W.cell? ⟨w3.heap.size,3,none⟩=some (.func (.func 146) #[] #[AW (some ⟨w2.heap.size,0,none⟩)])) (first | exact jS.o | exact VF.o | fail) (first
  | (
   go_at_call 146
   (with_reducible refine (H3.o w2.heap.size _ HB4.o HT4.o).mono ?_)
   rintro e w5 ⟨v5,rfl,GK,hb5⟩;have VF:=AA (Kb.o _ ((Ae _ _).drew.trans (hb5.mono (by show _<=w4.heap.size;rw [HZ4.o];exact Ac _))));have CP:=AA (AV HB4.o hb5);have X4:=AA (Nq GK HB4.o.size);clear GK hb5)
  | fail)
 go_wp2_with fail;go_ret2;exact ⟨v5,rfl,X4.o,CP.o⟩
theorem jE (xs ys:AQ) (w:AH):∀is:List Nat,(∀i∈is,i < xs.length/\i < ys.length)->(Op.eqItems 9999 5 1 (yA xs) (yA ys) is).run prog w=.ok (is.all fun i=>xs[i]? ==ys[i]?) w
 | [],_=>by simp [Op.eqItems]
 |
  i::is,h=>by
  obtain ⟨h1,h2⟩:=h i AX;have e1:(yA xs)[i*1]? =some (AE Am xs[i]):=by rw [Gs,yA,Ak,Bb,BJ h1];rfl
  have e2:(yA ys)[i*1]? =some (AE Am ys[i]):=by rw [Gs,yA,Ak,Bb,BJ h2];rfl
  have hp:prog.plainKey 5=true:=AJ
  simp only [Op.eqItems,Ck,BZ w hp e1,BZ w hp e2,Result.andThen_ok,Lm w 9998 5 .u8 .u8 _ _ underlying5];rw [N3,BJ h1,BJ h2];have hih:=jE xs ys w is (fun j hj=>h j (by simp [hj]));cases hc:(xs[i]==ys[i])
  · simp [hc]
  · simp [hc,hih]
theorem dJ {xs ys:AQ} (hx:xs.length=32) (hy:ys.length=32) (w:AH):(Op.equalIn 10000 34 (AP (yA xs)) (AP (yA ys))).run prog w=.ok (decide (xs=ys)) w:=by
 obtain ⟨i,hi⟩:=du.1 (show (prog.info? 5).isSome=true by kernel_rfl);have hc:prog.cellsOf 5=1:=AJ
 have h:=run_equalIn_array w 9999 (yA xs) (yA ys) underlying34 hi;rw [hc,jE xs ys w _ (fun j hj=>by have:=Ed.1 hj;omega)] at h;refine Es h ?_;have e:((List.range 32).all fun i=>xs[i]? ==ys[i]?)=decide (xs=ys):=by
  rw [Bool.eq_iff_iff,De,B8];constructor
  ·intro h
   apply N6;intro j;rcases Ec j 32 with hj | hj
   · simpa using h j (Ed.2 hj)
   · rw [DT AG,DT AG]
  rintro rfl j _;simp
 rw [e]
theorem V3 {P:BA} {w:AH} {ops:Array Oper} {rest:List Oper} {o:Oper} {a:Act} {Q:Exit->Act->AH->Prop} (hw:Region.wanted o (yielded ops a.tmps)=true) (ty:Af) (x:Operand) (ho:o.op=.load ty x)
 (g:Nat) (d:AQ) (hx:a.eval x=AW (some ⟨g,0,none⟩)) (t:Af) (ds:TypeDesc) (hg:AZ w g t (yA d)) (hu:P.underlying ty=some ds) (hds:(match ds with | .struct _ | .array _ _=>true | _=>false)=true) (hi:(P.info? ty).map (·.size)=some 32) (hd:d.length=32)
 (h:wpList P ops Q rest (a.put o.dst (AP (yA d))) w):wpList P ops Q (o::rest) a w:=
 Tx hw fun K hK=>by unfold Oper.wp execOp;exact yF
theorem R2:prog.eqGuardType prog.depth 34=false:=by kernel_rfl
theorem vE:(prog.info? 34).bind (·.zero)=some (AP (yA (zeros 32))):=by kernel_rfl
theorem cT {C:Nat->Bool} {k:Nat} (h:∀j,j < k->C j=true) (hc:C k=true):∀j,j < k+1->C j=true:=fun j hj=>by
 rcases Ec j k with h1 | h1
 · exact h j h1
 obtain rfl:j=k:=AG
 exact hc
def vC (root:AQ) (many:Int) (m:AQ) (q:Cj):Nat->Bool
 | 0=>decide (1<=many) && decide (many<=256)
 | 1=>decide (0<=q.index) && decide (q.index < many)
 | 2=>decide (q.chains.length=19)
 | _=>decide (IW Aw (Hg Aw m q.chains) q.index.toNat many.toNat q.path=some root)
theorem uJ (root:AQ) (many:Int) (m:AQ) (q:Cj):FO Aw root many m q=(vC root many m q 0 && vC root many m q 1 && vC root many m q 2 && vC root many m q 3):=by simp only [FO,vC,Bool.and_assoc]
theorem ADx (bm:Nat) (many:Int) (root m:AQ) (q:Cj) (w:AH) (hm:AZ w bm 3 #[AE AF many]):AS prog 87 #[AW (some ⟨bm,0,none⟩)] w fun e w'=>e=AU (Ab (vC root many m q 0))/\w'=w:=by
 have c0:=hm.cell 0;have l0:=hm.lt;simp only [Ak,Al] at c0;clear hm;go_enter func87,ntmps87;by_cases h1:1<=many
 ·go_wp2_with fail
  go_ret;exact ⟨by simp [vC,h1],rfl⟩
 exact sQ
theorem ADw (bl bm:Nat) (many:Int) (root m:AQ) (q:Cj) (v1 v2:AN) (w:AH) (hl:AZ w bl 71 #[AE AF q.index,v1,v2]) (hm:AZ w bm 3 #[AE AF many]):AS prog 88 #[AW (some ⟨bl,0,none⟩),AW (some ⟨bm,0,none⟩)] w fun e w'=>e=AU (Ab (vC root many m q 1))/\w'=w:=by
 have c0:=hm.cell 0;have l0:=hm.lt;have d0:=hl.cell 0;have l1:=hl.lt;simp only [Ak,Al] at c0 d0;clear hm hl;go_enter func88,ntmps88;by_cases h1:0<=q.index
 ·go_wp2_with fail
  go_ret;exact ⟨by simp [vC,h1],rfl⟩
 exact sQ
theorem ADv (bg bl bp:Nat) (many:Int) (root m:AQ) (q:Cj) (v1 v2:AN) (w:AH) (hg:AZ w bg 34 (yA m)) (hl:AZ w bl 71 #[AE AF q.index,v1,v2]) (hp:AZ w bp 34 (yA (zeros 32))) (hm:m.length=32) (hr:∀x∈m,0<=x/\x < 256) (hT:Ca w) (hs:Ag 32 CV w v1 q.chains):
 AS prog 89 #[AW (some ⟨bg,0,none⟩),AW (some ⟨bl,0,none⟩),AW (some ⟨bp,0,none⟩)] w fun e w'=>e=AU (Ab (vC root many m q 2))/\AZ w' bp 34 (yA (if q.chains.length=19 then Hg Aw m q.chains else zeros 32))/\w.grownBy w' (some bp):=by
 obtain ⟨A,c,rfl⟩:=hs.form;have HM:=AA hm;have CY:=AA Gm;have HZ:=AA vE;have d0:=hl.cell 1;have l1:=hl.lt;simp only [Ak,Al,Az] at d0;have HC:=AA (qD m A q.chains.length c q.chains w hm hr hT hs);obtain ⟨R,hR⟩:∃R,R=if q.chains.length=19 then Hg Aw m q.chains else zeros 32:=⟨_,rfl⟩
 obtain ⟨E,hE⟩:∃E:Int,E=if q.chains.length=19 then 0 else 50:=⟨_,rfl⟩
 have hv:vC root many m q 2=decide (E=0):=by rw [vC,hE];by_cases h:q.chains.length=19 <;> simp [h]
 have hRL:R.length=32:=by
  rw [hR];split
  · rw [Hg,JB];exact C7 _ _
  · simp [zeros]
 rw [<-hR,<-hE] at HC;rw [<-hR,hv];have S5:=AA hRL;have KG:=AA hg;have KP:=AA hp;clear hm hr hT hs hg hl hp hR hE hv hRL;go_enter func89,ntmps89;go_wp2_with (first
  | (refine CT rfl 34 (AY 0) rfl bg m rfl 34 _ KG.o underlying34 rfl CY.o HM.o ?_)
  | (
   go_at_call 90;refine HC.o.mono ?_;rintro e w2 ⟨rfl,hb⟩;have HB:=AA hb;have KP2:=AA ((KP.o.below hb KP.o.lt).alloc (AO (yA (zeros 32)) 34));have KN:=AA (AZ.new w2 34 (yA (zeros 32)));clear hb)
  | (refine EY rfl 34 rfl _ HZ.o ?_)
  | (
   refine Df rfl 34 (AY 4) (AY 11) rfl w2.heap.size R rfl rfl 34 (yA (zeros 32)) KN.o CY.o DU S5.o ?_;intro w3 k3 hb3 hg3;have K3:=AA k3;have HB3:AI (AK w w3):=AA ((HB.o.alloc HB.o.size _).trans (hb3.mono HB.o.size));have KP3:=AA (KP2.o.grown hg3 (by intro e;injection e with e;have:=KP.o.lt;have:=HB.o.size;omega));clear k3 hb3 hg3)
  | (refine CT rfl 34 (AY 4) rfl w2.heap.size R rfl 34 _ K3.o underlying34 rfl CY.o S5.o ?_)
  | (
   refine Df rfl 34 (AY 2) (AY 13) rfl bp R rfl rfl 34 (yA (zeros 32)) KP3.o CY.o DU S5.o ?_;intro w4 k4 hb4 hg4))
 go_ret;exact ⟨rfl,k4,ND (MV HB3.o _) hg4⟩
theorem ADu (bp bl bm br:Nat) (many:Int) (root m K:AQ) (q:Cj) (v1 v2:AN) (w:AH) (hp:AZ w bp 34 (yA K)) (hl:AZ w bl 71 #[AE AF q.index,v1,v2]) (hm:AZ w bm 3 #[AE AF many]) (hr:AZ w br 34 (yA root)) (hK:K.length=32) (hrl:root.length=32) (hT:Ca w) (hs:Ag 32 CV w v2 q.path)
 (hk:K=Hg Aw m q.chains) (h0:0<=q.index) (h1:q.index < many) (h2:many<=256):
 AS prog 91 #[AW (some ⟨bp,0,none⟩),AW (some ⟨bl,0,none⟩),AW (some ⟨bm,0,none⟩),AW (some ⟨br,0,none⟩)] w fun e w'=>e=AU (Ab (vC root many m q 3))/\AK w w':=by
 obtain ⟨A,c,rfl⟩:=hs.form;have Ng:=AA hK;have HRT:=AA hrl;have CY:=AA Gm;have HZ:=AA vE;have d0:=hl.cell 0;have d2:=hl.cell 2;have l1:=hl.lt;have c0:=hm.cell 0;have l2:=hm.lt;simp only [Ak,Al,Az] at d0 d2 c0;obtain ⟨i,hi⟩:∃i:Nat,q.index=i:=⟨q.index.toNat,by omega⟩;obtain ⟨n,rfl⟩:∃n:Nat,many=n:=⟨many.toNat,by omega⟩;rw [hi] at d0 h1;have HC:=AA (AAW K i n A q.path.length c q.path w hK AG AG hT hs);obtain ⟨C,hC⟩:=Ad (IW Aw K i n q.path);obtain ⟨R,hR⟩:=Ad (C.getD (zeros 32));obtain ⟨E,hE⟩:=Ad (if C.isSome then 0 else 1:Int)
 have hRL:R.length=32:=by
  rw [hR,hC,IW];split
  · exact ye (C7 _ _) _
  · simp [zeros]
 have hv:vC root n m q 3=(decide (E=0) && decide (R=root)):=by show decide (IW Aw (Hg Aw m q.chains) q.index.toNat ((n:Int)).toNat q.path=some root)=_;rw [<-hk,hi,Cm,Cm,<-hC,hE,hR];cases C <;> simp
 rw [<-hC,<-hR,<-hE] at HC;rw [hv];have S5:=AA hRL;have KP:=AA hp;have KR:=AA hr;have hde:=fun W=>dJ hRL hrl W;have hgd:=R2;clear hK hrl hT hs hl hm hp hr hR hE hv hRL hC hk;go_enter func91,ntmps91;by_cases hE0:E=0
 all_goals
  go_wp2_with (first
   | (refine CT rfl 34 (AY 0) rfl bp K rfl 34 _ KP.o underlying34 rfl CY.o Ng.o ?_)
   | (
    go_at_call 92;refine HC.o.mono ?_;rintro e w2 ⟨rfl,hb⟩;have HB:=AA hb;have NJ:=AA ((KR.o.below hb KR.o.lt).alloc (AO (yA (zeros 32)) 34));have KN:=AA (AZ.new w2 34 (yA (zeros 32)));clear hb)
   | (refine EY rfl 34 rfl _ HZ.o ?_)
   | (
    refine Df rfl 34 (AY 5) (AY 15) rfl w2.heap.size R rfl rfl 34 (yA (zeros 32)) KN.o CY.o DU S5.o ?_;intro w3 k3 hb3 hg3;have K3:=AA k3;have HB3:AI (AK w w3):=AA ((HB.o.alloc HB.o.size _).trans (hb3.mono HB.o.size));have Qm:=AA (NJ.o.grown hg3 (by intro e;injection e with e;have:=KR.o.lt;have:=HB.o.size;omega));clear k3 hb3 hg3)
   | (refine V3 rfl 34 (AY 5) rfl w2.heap.size R rfl 34 _ K3.o underlying34 rfl CY.o S5.o ?_)
   | (refine V3 rfl 34 (AY 3) rfl br root rfl 34 _ Qm.o underlying34 rfl CY.o HRT.o ?_))
  go_ret;exact ⟨by simp [hE0],HB3.o⟩
theorem fh (root m:AQ) (many:Int) (q:Cj) (v1 v2:AN) (w:AH) (hrl:root.length=32) (hm:m.length=32) (hr:∀x∈m,0<=x/\x < 256) (hT:Ca w) (hs1:Ag 32 CV w v1 q.chains) (hs2:Ag 32 CV w v2 q.path):
 AS prog 64 #[AP (yA root),AE AF many,AP (yA m),AP #[AE AF q.index,v1,v2]] w fun e w'=>e=AU (AE AF (if FO Aw root many m q=true then 0 else 60))/\AK w w':=by
 obtain ⟨A1,c1,rfl⟩:=hs1.form;obtain ⟨A2,c2,rfl⟩:=hs2.form;have HZ:=AA vE;have hmf:∀(fn:Fn) (first cap:Array AN) (w:AH),(Instr.makeFunc fn first cap).run prog w=.ok (.func fn first cap) w:=fun _ _ _ _=>rfl;obtain ⟨C,hC⟩:∃C:Nat->Bool,C=vC root many m q:=⟨_,rfl⟩;have hv:FO Aw root many m q=(C 0 && C 1 && C 2 && C 3):=by rw [hC];exact uJ root many m q
 obtain ⟨K,hK⟩:∃K,K=if q.chains.length=19 then Hg Aw m q.chains else zeros 32:=⟨_,rfl⟩
 have H1:AI (∀W bm,AZ W bm 3 #[AE AF many]->AS prog 87 #[AW (some ⟨bm,0,none⟩)] W fun e w'=>e=AU (Ab (C 0))/\w'=W):=AA (fun W bm h=>by rw [hC];exact ADx bm many root m q W h);have H2:AI (∀W bl bm,AZ W bl 71 #[AE AF q.index,AB A1 q.chains.length c1,AB A2 q.path.length c2]->AZ W bm 3 #[AE AF many]->AS prog 88 #[AW (some ⟨bl,0,none⟩),AW (some ⟨bm,0,none⟩)] W fun e w'=>e=AU (Ab (C 1))/\w'=W):=AA (fun W bl bm h k=>by rw [hC];exact ADw bl bm many root m q _ _ W h k);have H3:AI (∀W bg bl bp,AK w W->AZ W bg 34 (yA m)->AZ W bl 71 #[AE AF q.index,AB A1 q.chains.length c1,AB A2 q.path.length c2]->AZ W bp 34 (yA (zeros 32))->AS prog 89 #[AW (some ⟨bg,0,none⟩),AW (some ⟨bl,0,none⟩),AW (some ⟨bp,0,none⟩)] W fun e w'=>e=AU (Ab (C 2))/\AZ w' bp 34 (yA K)/\W.grownBy w' (some bp)):=AA (fun W bg bl bp hW h1 h2 h3=>by rw [hC,hK];exact ADv bg bl bp many root m q _ _ W h1 h2 h3 hm hr (hT.below hW) (hs1.mono BK hW));have H4:AI (∀W bp bl bm br,AK w W->C 0=true->C 1=true->C 2=true->AZ W bp 34 (yA K)->AZ W bl 71 #[AE AF q.index,AB A1 q.chains.length c1,AB A2 q.path.length c2]->AZ W bm 3 #[AE AF many]->AZ W br 34 (yA root)->AS prog 91 #[AW (some ⟨bp,0,none⟩),AW (some ⟨bl,0,none⟩),AW (some ⟨bm,0,none⟩),AW (some ⟨br,0,none⟩)] W fun e w'=>e=AU (Ab (C 3))/\AK W w'):=AA (fun W bp bl bm br hW e0 e1 e2 h1 h2 h3 h4=>by
  rw [hC] at e0 e1 e2 ⊢;simp only [vC,Bj,B8] at e0 e1 e2;have hK':K=Hg Aw m q.chains:=by rw [hK,Ao e2]
  exact ADu bp bl bm br many root m K q _ _ W h1 h2 h3 h4 (by rw [hK',Hg,JB];exact C7 _ _) hrl (hT.below hW) (hs2.mono BK hW) hK' e1.1 e1.2 e0.2)
 rw [hv];obtain ⟨E,hE⟩:∃E:Int,E=if (C 0 && C 1 && C 2 && C 3)=true then 0 else 60:=⟨_,rfl⟩
 rw [<-hE];have HE:=AA hE;clear hC hK hv hrl hm hr hT hs1 hs2 hE;go_enter func64,ntmps64;go_upto_region 1 with fail;obtain ⟨k1,b1,s1⟩:=bx w (yA root) 34;generalize (w.alloc (AO (yA root) 34))=w1 at k1 b1 s1 ⊢;obtain ⟨k2,b2,s2⟩:=bx w1 #[AE AF many] 3;generalize (w1.alloc (AO #[AE AF many] 3))=w2 at k2 b2 s2 ⊢;obtain ⟨k3,b3,s3⟩:=bx w2 (yA m) 34;generalize (w2.alloc (AO (yA m) 34))=w3 at k3 b3 s3 ⊢;obtain ⟨k4,b4,s4⟩:=bx w3 #[AE AF q.index,AB A1 q.chains.length c1,AB A2 q.path.length c2] 71;generalize (w3.alloc (AO #[AE AF q.index,AB A1 q.chains.length c1,AB A2 q.path.length c2] 71))=w4 at k4 b4 s4 ⊢;obtain ⟨k5,b5,s5⟩:=bx w4 (yA (zeros 32)) 34;rw [s1] at k2 b2 s2;rw [s2] at k3 b3 s3;rw [s3] at k4 b4 s4;rw [s4] at k5 b5 s5;have b25:=(b3.trans (b4.mono (Ff _))).trans (b5.mono AG);have K1:=AA ((k1.below b2 AG).below b25 AG);have K2:=AA (k2.below b25 AG);have K3:=AA ((k3.below b4 AG).below b5 AG);have K4:=AA (k4.below b5 AG);have K5:=AA k5;have HB:=AA ((b1.trans (b2.mono AG)).trans (b25.mono AG));have VF:=AA s5;clear k1 k2 k3 k4 k5 b1 b2 b3 b4 b5 b25 s1 s2 s3 s5;go_upto_region 2 with (refine EY rfl 34 rfl _ HZ.o ?_);generalize (w4.alloc (AO (yA (zeros 32)) 34))=w5 at *;go_wp2_with fail;clear s4;have KF:=AA (AZ.new w5 42 #[.func (.func 87) #[] #[AW (some ⟨w.heap.size+1,0,none⟩)],.func (.func 88) #[] #[AW (some ⟨w.heap.size+1+1+1,0,none⟩),AW (some ⟨w.heap.size+1,0,none⟩)],.func (.func 89) #[] #[AW (some ⟨w.heap.size+1+1,0,none⟩),AW (some ⟨w.heap.size+1+1+1,0,none⟩),AW (some ⟨w.heap.size+1+1+1+1,0,none⟩)],.func (.func 91) #[] #[AW (some ⟨w.heap.size+1+1+1+1,0,none⟩),AW (some ⟨w.heap.size+1+1+1,0,none⟩),AW (some ⟨w.heap.size+1,0,none⟩),AW (some ⟨w.heap.size,0,none⟩)]]);have jR:AI (w5.heap.size=w.heap.size+1+1+1+1+1):=AA (by have:=VF.o;omega);go_loopg [20] 4 (fun g i wr=>∃k:Nat,k<=4/\g=4 - k/\i=AE AF k/\(∀j,j < k->C j=true)/\AZ wr w.heap.size 34 (yA root)/\AZ wr (w.heap.size+1) 3 #[AE AF many]/\AZ wr (w.heap.size+1+1) 34 (yA m)/\AZ wr (w.heap.size+1+1+1) 71 #[AE AF q.index,AB A1 q.chains.length c1,AB A2 q.path.length c2]/\AZ wr (w.heap.size+1+1+1+1) 34 (yA (if k<=2 then zeros 32 else K))/\AZ wr w5.heap.size 42 #[.func (.func 87) #[] #[AW (some ⟨w.heap.size+1,0,none⟩)],.func (.func 88) #[] #[AW (some ⟨w.heap.size+1+1+1,0,none⟩),AW (some ⟨w.heap.size+1,0,none⟩)],.func (.func 89) #[] #[AW (some ⟨w.heap.size+1+1,0,none⟩),AW (some ⟨w.heap.size+1+1+1,0,none⟩),AW (some ⟨w.heap.size+1+1+1+1,0,none⟩)],.func (.func 91) #[] #[AW (some ⟨w.heap.size+1+1+1+1,0,none⟩),AW (some ⟨w.heap.size+1+1+1,0,none⟩),AW (some ⟨w.heap.size+1,0,none⟩),AW (some ⟨w.heap.size,0,none⟩)]]/\AK w wr)
 case atStart=>exact ⟨0,Av _,rfl,rfl,fun j hj=>absurd hj (YJ _),K1.o.alloc _,K2.o.alloc _,K3.o.alloc _,K4.o.alloc _,K5.o.alloc _,KF.o,HB.o.alloc HB.o.size _⟩
 clear K1 K2 K3 K4 K5 KF HB;obtain ⟨k,hk,hg,rfl,hC,h1,h2,h3,h4,h5,h6,h7⟩:=hrel;have HG:=AA hg;have EN:=AA hC;have K1:=AA h1;have K2:=AA h2;have K3:=AA h3;have K4:=AA h4;have K5:=AA h5;have KF:=AA h6;have HB:=AA h7;have lf:=h6.lt;have cf:=h6.cell k;clear hg hC h1 h2 h3 h4 h5 h6 h7 hmf;have hk5:k=0\/k=1\/k=2\/k=3\/k=4:=AG
 rcases hk5 with rfl | rfl | rfl | rfl | rfl
 ·simp only [Ak,Al] at cf
  cases hc:C 0
  ·go_wp2_with (go_at_call 87;refine (H1.o _ _ K2.o).mono ?_;rintro e w6 ⟨rfl,rfl⟩)
   exact sS
  go_wp2_with (go_at_call 87;refine (H1.o _ _ K2.o).mono ?_;rintro e w6 ⟨rfl,rfl⟩);go_roundg (4 - (0+1))
  case measure=>exact EF
  case rel=>exact ⟨1,by omega,rfl,rfl,cT EN.o hc,K1.o,K2.o,K3.o,K4.o,K5.o,KF.o,HB.o⟩
 ·simp only [Ak,Al,Az] at cf
  cases hc:C 1
  ·go_wp2_with (go_at_call 88;refine (H2.o _ _ _ K4.o K2.o).mono ?_;rintro e w6 ⟨rfl,rfl⟩)
   exact sS
  go_wp2_with (go_at_call 88;refine (H2.o _ _ _ K4.o K2.o).mono ?_;rintro e w6 ⟨rfl,rfl⟩);go_roundg (4 - (1+1))
  case measure=>exact EF
  case rel=>exact ⟨2,by omega,rfl,rfl,cT EN.o hc,K1.o,K2.o,K3.o,K4.o,K5.o,KF.o,HB.o⟩
 ·simp only [Ak,Al,Az] at cf
  cases hc:C 2
  ·go_wp2_with (go_at_call 89;refine (H3.o _ _ _ _ HB.o K3.o K4.o K5.o).mono ?_;rintro e w6 ⟨rfl,kp6,NI⟩)
   go_ret;exact ⟨Cz (by rw [HE.o];simp [hc]),(HB.o.grown NI HB.o.size (fun r hr=>by injection hr with hr;omega))⟩
  go_wp2_with (go_at_call 89;refine (H3.o _ _ _ _ HB.o K3.o K4.o K5.o).mono ?_;rintro e w6 ⟨rfl,kp6,NI⟩);go_roundg (4 - (2+1))
  case measure=>exact EF
  case rel=>exact ⟨3,by omega,rfl,rfl,cT EN.o hc,K1.o.grown NI D7,K2.o.grown NI D7,K3.o.grown NI D7,K4.o.grown NI D7,kp6,KF.o.grown NI (by intro e;injection e with e;have:=jR.o;omega),HB.o.grown NI HB.o.size (fun r hr=>by injection hr with hr;omega)⟩
 ·simp only [Ak,Al,Az] at cf
  cases hc:C 3
  ·go_wp2_with (go_at_call 91;refine (H4.o _ _ _ _ _ HB.o (EN.o 0 Ah) (EN.o 1 Ah) (EN.o 2 Ah) K5.o K4.o K2.o K1.o).mono ?_;rintro e w6 ⟨rfl,hb6⟩)
   go_ret;exact ⟨Cz (by rw [HE.o];simp [hc]),(AV HB.o hb6)⟩
  go_wp2_with (go_at_call 91;refine (H4.o _ _ _ _ _ HB.o (EN.o 0 Ah) (EN.o 1 Ah) (EN.o 2 Ah) K5.o K4.o K2.o K1.o).mono ?_;rintro e w6 ⟨rfl,hb6⟩);go_roundg (4 - (3+1))
  case measure=>exact EF
  case rel=>exact ⟨4,by omega,rfl,rfl,cT EN.o hc,K1.o.below hb6 K1.o.lt,K2.o.below hb6 K2.o.lt,K3.o.below hb6 K3.o.lt,K4.o.below hb6 K4.o.lt,K5.o.below hb6 K5.o.lt,KF.o.below hb6 KF.o.lt,(AV HB.o hb6)⟩
 go_wp2_with fail;go_ret;exact ⟨Cz (by rw [HE.o];simp [EN.o 0 Ah,EN.o 1 Ah,EN.o 2 Ah,EN.o 3 Ah]),HB.o⟩
theorem ADy:∃(j:TypeInfo) (z:AN),prog.info? 144=some j/\j.zero=some z/\z.cells.size=4/\j.size=4/\j.bytes=56:=by obtain ⟨j,hj,hz⟩:=Ds.1 (show (prog.info? 144).map (fun i=>(i.zero.map (·.cells.size),i.size,i.bytes))=some (some 4,4,56) by kernel_rfl);simp only [F7] at hz;obtain ⟨z,hz0,hz1⟩:=Ds.1 hz.1;exact ⟨j,z,hj,hz0,hz1,hz.2⟩
theorem AAq:One Oa:=by rintro w cs x ⟨rfl,_⟩ u hu;simp only [ABk,CJ,D5,D4] at hu;rcases hu with rfl | rfl | rfl | rfl <;> rfl
theorem sj {w w':AH} {cs:List AN} {l:AQ} (h:Aq 4 Oa w cs l):Aq 4 Oa w' cs l:=⟨h.1,fun i x hi=>h.2 i x hi⟩
theorem AEL (W:AH) (x:Int) (h1: -9223372036854775808<=x) (h2:x<=9223372036854775807):Ag 4 Oa (W.alloc (AO #[AE AF 1,AE AF x,AL ⟨#[]⟩,AB none 0 0] 144)) (AB (some ⟨W.heap.size,0,none⟩) 1 1) [x]:=by
 refine ⟨_,1,rfl,Ac _,by decide,fun i y hi=> ?_⟩;have hi0:i=0:=by have:=(BD.1 hi).1;simp at this;exact this
 subst hi0;simp only [Al,Bu] at hi;subst hi;refine ⟨W.heap.size,0,ABk x,rfl,by simp,rfl,fun j u hu=> ?_,rfl,h1,h2⟩;rw [show 0+(0*4+j)=j by omega,(AZ.new W 144 _).cell j,Ak];exact hu
theorem jI (A:Option Aa) (n c:Nat) (ds:List (AQ)) (N:Option Aa) (m d:Nat) (ns:AQ) (w:AH) (hd:Ag 32 CV w (AB A n c) ds) (hn:Ag 1 CK w (AB N m d) ns) (hn1:n<=100) (hm1:m<=100):
 AS prog 49 #[AB A n c,AB N m d] w (au (ds.flatten++MY ns) w):=by
 obtain ⟨i0,hi⟩:=R3;have HI:=AA hi;obtain ⟨j0,z0,hj⟩:=ADy;have HJ:=AA hj;have HS:=AA hd;have HN:=AA hn;have t8:=AA hd.len;have IB:=AA hn.len;have CY:=AA Gm;have HZ:=AA vE;obtain ⟨F,hF⟩:∃F:Nat->AQ,F=fun k=>(ds.take k).flatten:=⟨_,rfl⟩;have Qb:AI (∀k x,ds[k]? =some x->F (k+1)=F k++x):=AA (fun k x hx=>by rw [hF];simp only [take_snoc hx,PV];simp);have HF0:AI (F 0=[]):=AA (by rw [hF];simp);have Li:AI (F n=ds.flatten):=AA (by rw [hF];simp only [hd.len,PO]);rw [<-Li.o];clear hi hj hd hn hF;go_enter func49,ntmps49;go_wp2_with fail;go_loopg [5,15] n (fun q v i wr=>∃k:Nat,k<=n/\q=n - k/\i=AE AF k/\wr.ownsRow w.heap.size 5 1 v (k*32) ((F k).map (Value.int .u8))/\AK w wr)
 case atStart=>exact ⟨0,Av _,rfl,rfl,by rw [HF0.o];exact Ev _ _ _ _,Ae _ _⟩
 obtain ⟨k,hk,hq,rfl,ho,hb⟩:=hrel;have HQ:=AA hq;have HB:=AA hb;have HO:=AA ho;obtain ⟨rA,rc,rfl⟩:=CG ho;clear hq hb ho;by_cases hlt:k < n
 ·obtain ⟨b,off,x,rfl,hbl,hx,hxl,_,hrg⟩:=J5 (HS.o.mono BK HB.o) hlt
  have hkn:(k:Int) < (n:Int):=AG
  have hk0:=Int.natCast_nonneg k
  have HX:=AA hx;have H9:=AA hxl;have SC:=AA hrg;clear hx hxl hrg hbl;go_wp2_with (first
   | (refine Ld rfl 34 (AY 17) rfl b (off+k*32) rfl x _ SC.o underlying34 rfl CY.o H9.o ?_)
   | (refine EY rfl 34 rfl _ HZ.o ?_)
   | (
    refine Df rfl 34 (AY 7) (AY 18) rfl wr.heap.size x rfl rfl 34 (yA (zeros 32)) (AZ.new _ _ _) CY.o DU H9.o ?_;intro w3 k3 hb3 hg3;have HB3:=AA ((HB.o.alloc HB.o.size (AO (yA (zeros 32)) 34)).trans (hb3.mono HB.o.size));have I4:=AA ((HO.o.alloc (AO (yA (zeros 32)) 34)).kept hg3 (.inr rL));have HY3:=AA (H9.o ▸ GR k3 (by rw [H9.o];decide));clear k3 hb3 hg3)
   | (at_builtin;refine CU _ rfl (AY 19) (AY 20) 104 5 rfl i0 (AE Am 0) 1 underlying104 HI.o.1 HI.o.2.1 HI.o.2.2.1 HI.o.2.2.2 rfl Ah (R:=Il) NF w.heap.size _ _ _ rfl I4.o (some ⟨wr.heap.size,0,none⟩) 32 32 x rfl HY3.o FN AG HB3.o.size ?_;intro v5 w5 NZ hc5 GK hg5 OL))
  go_roundg (n - (k+1))
  case measure=>exact BS
  obtain rfl:=IK hc5;refine ⟨k+1,by omega,rfl,by go_num,?_,mU HB3.o HB3.o.size I4.o hg5⟩;rw [Qb.o k x HX.o,DE,show (k+1)*32=k*32+32 by omega];exact GK
 have hkn:k=n:=AG
 subst hkn;have hbl:(k:Int)<=(k:Int):=Int.le_refl _;have HMM:AI (m<=100):=AA hm1;have hm9:m<=9223372036854775807:=AG
 have HC:AI (∀(B:Option Aa) (e:Nat) W,Ag 4 Oa W (AB B ns.length e) ns->AS prog 68 #[AP #[AE AF 3,AE AF 0,AL ⟨#[]⟩,AB B ns.length e]] W (ADl (MY ns) W)):=AA (fun B e W h=>vq B ns.length e ns W h Yj);have HEL:AI (1<=(MY ns).length/\(MY ns).length<=11+ns.length*11):=AA ⟨by simp [MY],by rw [<-oI];exact aX _ _⟩;obtain ⟨w0,rfl⟩:=Ad (wr:AH);have hfk:(F k).length=k*32:=by have:=HO.o.1;simpa using this
 clear hbl HQ hk hlt;go_upto_region 9 with fail;obtain ⟨k1,b1,s1⟩:=bx w0 #[AE AF 3,AE AF 0,AL ⟨#[]⟩,AB none 0 0] 144;have IY:=AA (HO.o.alloc (AO #[AE AF 3,AE AF 0,AL ⟨#[]⟩,AB none 0 0] 144));have HB1:=AA (HB.o.alloc HB.o.size (AO #[AE AF 3,AE AF 0,AL ⟨#[]⟩,AB none 0 0] 144));generalize (w0.alloc (AO #[AE AF 3,AE AF 0,AL ⟨#[]⟩,AB none 0 0] 144))=w1 at k1 b1 s1 IY HB1 ⊢;have K1:=AA k1;have HZ1:=AA s1;have HFK:=AA hfk;have jO:=AA HB.o.size;clear k1 b1 s1 hfk;go_loopg [26] m (fun q i wr=>∃(j:Nat) (v:AN) (cs:List AN),j<=m/\q=m - j/\i=AE AF j/\AZ wr w0.heap.size 144 #[AE AF 3,AE AF 0,AL ⟨#[]⟩,v]/\wr.ownsRow (w0.heap.size+1) 144 4 v j cs/\Aq 4 Oa wr cs (ns.take j)/\wr.ownsRow w.heap.size 5 1 (AB rA (k*32) rc) (k*32) ((F k).map (Value.int .u8))/\AK w wr/\w0.heap.size+1<=wr.heap.size)
 case atStart=>exact ⟨0,_,[],Av _,rfl,rfl,K1.o,Ev _ _ _ _,Aq.nil,IY.o,HB1.o,by have:=HZ1.o;omega⟩
 clear K1 IY HB1 HZ1;obtain ⟨j,v,cs,hj,hq,rfl,h1,h2,h3,h4,h5,h6⟩:=hrel;obtain ⟨vA,vc,rfl⟩:=CG h2;have c0:=h1.cell 0;have c1:=h1.cell 1;have c2:=h1.cell 2;have c3:=h1.cell 3;have f3:=h1.frozen 3;have l1:=h1.lt;simp only [Ak,Al,Az] at c0 c1 c2 c3;have HQ:=AA hq;have K1:=AA h1;have HV:=AA h2;have OX:=AA h3;have Jc:=AA h4;have HB2:=AA h5;have HS2:=AA h6;clear hq h1 h2 h3 h4 h5 h6;by_cases hlt:j < m
 ·obtain ⟨b,off,x,rfl,hbl,hx,e0,hx1,hx2⟩:=ints_at (HN.o.mono BX HB2.o) hlt
  have hkn:(j:Int) < (m:Int):=AG
  have hk0:(0:Int)<=(j:Int):=AG
  have HX:=AA hx;clear hx c0 c1 c2;go_wp2_with (at_builtin;refine CU _ rfl (AY 31) (AY 34) 142 144 rfl j0 z0 56 underlying142 HJ.o.1 HJ.o.2.1 HJ.o.2.2.2.1 HJ.o.2.2.2.2 HJ.o.2.2.1 Ah (R:=Oa) AAq (w0.heap.size+1) _ _ _ rfl (HV.o.alloc _) (some ⟨wr.heap.size,0,none⟩) 1 1 [x] rfl (AEL wr x hx1 hx2) FN AG (by have:=HS2.o;simp;omega) ?_;intro v5 w5 NZ hc5 GK hg5 OL;obtain ⟨A5,c5,rfl⟩:=CG GK;have k5:=(K1.o.alloc (AO #[AE AF 1,AE AF x,AL ⟨#[]⟩,AB none 0 0] 144)).grown hg5 (DX HV.o (Ib _));have f5:=k5.frozen 3;have l5:=k5.lt;have d5:=k5.cell 3;simp only [Ak,Al,Az] at d5);have hb5:=(HB2.o.alloc HB2.o.size (AO #[AE AF 1,AE AF x,AL ⟨#[]⟩,AB none 0 0] 144)).grown hg5 (BH HB2.o.size AX) (fun r hr=>by have:=(HV.o.lt r hr).1;have:=jO.o;omega);have hne:(Value.slice rA (k*32) rc).ownBlock=none\/(Value.slice rA (k*32) rc).ownBlock≠(Value.slice vA j vc).ownBlock:=by
   rcases h:(Value.slice rA (k*32) rc).ownBlock with _ | r
   · exact .inl rfl
   refine .inr fun e=> ?_;have h1:=(HO.o.lt r h).2;have h2:=(HV.o.lt r e.symm).1;omega
  have ho9:=(Jc.o.alloc (AO #[AE AF 1,AE AF x,AL ⟨#[]⟩,AB none 0 0] 144)).kept hg5 hne;have hs9:=hg5.size;have hs8:=HS2.o;rw [Ee] at hs9;go_roundg (m - (j+1))
  case measure=>exact BS
  refine ⟨j+1,_,cs++NZ,by omega,rfl,by go_num,k5.put 3 _,Ew GK (Ib _) _,?_,?_,hb5.setCell jO.o _,?_⟩
  ·rw [take_snoc HX.o]
   exact Aq.append (sj OX.o) (sj hc5)
  · exact PX ho9 (fun e=>Nat.lt_irrefl _ (HO.o.lt _ e).2) _
  show w0.heap.size+1<=(w5.setCell _ _).heap.size;rw [RI];omega
 have hjm:j=ns.length:=by have:=IB.o;omega
 subst hjm;clear f3;have HVV:=AA (CW HV.o (by rw [<-PO (l:=ns)];exact OX.o) rfl);go_wp2_with (first
  | (
   go_at_call 68;refine (HC.o _ _ _ HVV.o).mono ?_;rintro e w6 ⟨v6,rfl,Qi,hb6⟩;obtain ⟨g6,c6,rfl,hs6⟩:=Uh Qi HEL.o.1 rfl;have Fu:=AA (AV HB2.o hb6);have QZ:=AA (EW Jc.o hb6);have jR:=AA hs6;clear Qi hb6 hs6)
  | (at_builtin;refine CU _ rfl (AY 43) (AY 44) 104 5 rfl i0 (AE Am 0) 1 underlying104 HI.o.1 HI.o.2.1 HI.o.2.2.1 HI.o.2.2.2 rfl Ah (R:=Il) NF w.heap.size _ _ _ rfl QZ.o (some ⟨g6,0,none⟩) _ c6 (MY ns) rfl jR.o (by have:=HEL.o;have:=HMM.o;unfold maxLen;omega) (by have:=HEL.o;have:=HMM.o;omega) Fu.o.size ?_;intro v7 w7 cs7 ZT GJ EJ tV))
 go_ret;obtain rfl:=IK ZT;refine ⟨v7,rfl,?_,mU Fu.o Fu.o.size QZ.o EJ⟩;rw [CQ,DE,HFK.o];exact GJ
theorem oE (xs cs:Array AN) (off:Nat):(xs.zipIdx.foldl (fun cs (x:AN×Nat)=>cs.setIfInBounds (off+x.2) x.1) cs).size=cs.size/\∀i,(xs.zipIdx.foldl (fun cs (x:AN×Nat)=>cs.setIfInBounds (off+x.2) x.1) cs)[i]? =if off<=i/\i < cs.size/\i < off+xs.size then xs[i - off]? else cs[i]? :=by
 have h:=Great.foldl_set off xs.toList 0 cs;have e:xs.zipIdx.foldl (fun cs (x:AN×Nat)=>cs.setIfInBounds (off+x.2) x.1) cs=(xs.toList.zipIdx 0).foldl (fun cs x=>cs.setIfInBounds (off+x.2) x.1) cs:=by
  obtain ⟨l⟩:=xs;have hz:(⟨l⟩:Array AN).zipIdx=(l.zipIdx 0).toArray:=AX
  rw [hz];exact List.foldl_toArray' _ _ _ AX
 rw [e];refine ⟨h.1,fun i=> ?_⟩;rw [h.2 i];simp only [EO,Array.length_toList,Array.getElem?_toList];by_cases h1:off<=i/\i < cs.size/\i < off+xs.size
 · rw [Ao ⟨h1.1,h1.2.2,h1.2.1⟩,Ao h1]
 · rw [Ai (fun h2=>h1 ⟨h2.1,h2.2.2,h2.2.1⟩),Ai h1]
theorem ACf {x y:AQ} (hx:x.length=32) (hy:y.length=32) (c:Array AN) (hc:c.size=64):Instr.fill (fun i=>some (i*32,32)) c [(0,AP (yA x)),(1,AP (yA y))]=some (yA (x++y)):=by
 have sx:(yA x).size=32:=by rw [B9,hx]
 have sy:(yA y).size=32:=by rw [B9,hy]
 have h1:=oE (yA x) c 0;have h2:=oE (yA y) ((yA x).zipIdx.foldl (fun cs (x:AN×Nat)=>cs.setIfInBounds (0+x.2) x.1) c) 32;have e:((yA y).zipIdx.foldl (fun cs (x:AN×Nat)=>cs.setIfInBounds (32+x.2) x.1) ((yA x).zipIdx.foldl (fun cs (x:AN×Nat)=>cs.setIfInBounds (0+x.2) x.1) c))=yA (x++y):=by
  apply RH;intro i;rw [h2.2 i,h1.1,h1.2 i,hc,sx,sy];have ea:(yA (x++y))[i]? =((x++y)[i]?).map (Value.int .u8):=by rw [yA,Ak,Bb]
  have eb:∀(l:AQ) k,(yA l)[k]? =(l[k]?).map (Value.int .u8):=fun l k=>by rw [yA,Ak,Bb]
  rw [ea,eb,eb];by_cases c1:i < 32
  · rw [Ai AG,Ao AG,ES AG,Nat.sub_zero]
  by_cases c2:i < 64
  · rw [Ao AG,Cp AG,hx]
  rw [Ai AG,Ai AG,Mz AG,DT (by rw [CQ];omega)];rfl
 simp only [Instr.fill,Value.cells,sx,sy,Qy,Nat.one_mul,h1.1,hc];rw [Ai AX,Ai AX];exact congrArg some e
theorem ph {P:BA} {w:AH} {ops:Array Oper} {rest:List Oper} {o:Oper} {a:Act} {Q:Exit->Act->AH->Prop} (hg:o.guard=none) (t e:Af) (p q:Operand) (ho:o.op=.buildSlice t 2 #[(0,p),(1,q)])
 (ie:TypeInfo) (z:AN) (hu:P.underlying t=some (.slice e)) (hie:P.info? e=some ie) (hz:ie.zero=some z) (hsz:ie.size=32) (x y:AQ) (hx:a.eval p=AP (yA x)) (hy:a.eval q=AP (yA y)) (hxl:x.length=32) (hyl:y.length=32)
 (h:wpList P ops Q rest (a.put o.dst (AB (some ⟨w.heap.size,0,none⟩) 2 2)) (w.alloc (AO (yA (x++y)) e))):wpList P ops Q (o::rest) a w:=
 wpList_buildSlice hg t e 2 #[(0,p),(1,q)] ho (yA (x++y)) ie z hu hie hz (by rw [hsz];decide) (by rw [hsz];decide) (by
  have e1:((#[(0,p),(1,q)]:Array (Nat×Operand)).map fun (i,x)=>(i,a.eval x)).toList=[(0,AP (yA x)),(1,AP (yA y))]:=by simp [hx,hy]
  rw [e1,hsz];exact ACf hxl hyl _ AX) h
theorem AEe (W:AH) {x y:AQ} (hx:x.length=32) (hy:y.length=32):Ag 32 CV (W.alloc (AO (yA (x++y)) 34)) (AB (some ⟨W.heap.size,0,none⟩) 2 2) [x,y]:=by
 refine ⟨_,2,rfl,Ac _,by decide,fun i d hi=> ?_⟩;have hb:=AZ.new W 34 (yA (x++y));have hil:i < 2:=by have:=(BD.1 hi).1;simpa using this
 have hdl:d.length=32:=by
  rcases i with _ | _ | i
  · simp at hi;rw [<-hi];exact hx
  · simp at hi;rw [<-hi];exact hy
  · omega
 refine ⟨W.heap.size,0,d.map (Value.int .u8),rfl,hb.lt,by rw [Cb,hdl],fun j u hu=> ?_,rfl,hdl⟩;have hjl:j < 32:=by have:=(BD.1 hu).1;simpa [hdl] using this
 rw [Fc,hb.cell,yA,Ak,Bb];rw [Bb] at hu;rcases i with _ | _ | i
 ·simp at hi
  rw [<-hi] at hu;rw [Qy,Fc,ES AG];exact hu
 ·simp at hi
  rw [<-hi] at hu;rw [Cp AG,show (0+1)*32+j - x.length=j by omega];exact hu
 · omega
def Gk (x:Int):Prop:= -9223372036854775808<=x/\x<=9223372036854775807
theorem MQ {w:AH} {g:Nat} {t:Af} {l:AQ} (h:AZ w g t (iA l)) (hr:∀x∈l, -9223372036854775808<=x/\x<=9223372036854775807) (hl:l.length<=1000):Ag 1 CK w (AB (some ⟨g,0,none⟩) l.length l.length) l:=by
 refine ⟨_,l.length,rfl,Ac _,by unfold maxLen;omega,fun i x hi=>⟨g,0,[AE AF x],rfl,h.lt,rfl,fun j u hu=> ?_,rfl,hr x (CS hi)⟩⟩;have hj:j=0:=by have:=(BD.1 hu).1;simpa using this
 subst hj;simp only [Al,Bu] at hu;rw [h.cell,iA,Ak,Bb,Fc,Gs,EO,hi,<-hu];rfl
theorem ZP (schema claim value:Int) (holder:AQ) (w:AH) (h1:Gk schema) (h2:Gk claim) (h3:Gk value) (hh:holder.length=32) (hT:Ca w):
 AS prog 18 #[AE AF schema,AE AF claim,AE AF value,AP (yA holder)] w (Dl (msgP Aw schema claim value holder) w):=by
 have HH:=AA hh;have CY:=AA Gm;obtain ⟨Y,hY⟩:=Ad (holder++MY [schema,claim,value]);have HC:AI (∀W,AK w W->AS prog 49 #[AB (some ⟨W.heap.size,0,none⟩) 1 1,AB (some ⟨W.heap.size+1,0,none⟩) 3 3] ((W.alloc (AO (yA holder) 34)).alloc (AO #[AE AF schema,AE AF claim,AE AF value] 3)) (au Y ((W.alloc (AO (yA holder) 34)).alloc (AO #[AE AF schema,AE AF claim,AE AF value] 3)))):=AA (fun W hW=>by have k:=AZ.new (W.alloc (AO (yA holder) 34)) 3 (iA [schema,claim,value]);rw [Ee] at k;have:=jI _ 1 1 [holder] _ 3 3 [schema,claim,value] ((W.alloc (AO (yA holder) 34)).alloc (AO (iA [schema,claim,value]) 3)) ((Y0 W holder hh).mono BK (BE _ _)) (MQ k (by intro x hx;simp only [CJ,D5,D4] at hx;rcases hx with rfl | rfl | rfl <;> assumption) AX) AG AG;rw [show [holder].flatten=holder by simp,<-hY] at this;exact this)
 obtain ⟨D,hD⟩:=Ad (msgP Aw schema claim value holder);have EM:AI (D.length=32):=AA (by rw [hD,msgP];exact C7 _ _);have HG:AI (∀(A:Option Aa) (n c:Nat) W,AK w W->Ag 1 Il W (AB A n c) Y->AS prog 48 #[.string {data:=#[99,108,97,105,109]},AB A n c] W (Dl D W)):=AA (fun A n c W hW hs=>by rw [hD,msgP,<-hY];exact IF {data:=#[99,108,97,105,109]} A n c Y W Ah (hT.below hW) hs)
 have ox:AI (0 < Y.length):=AA (by rw [hY,CQ,hh];omega);have hys:(yA holder).size=32:=by rw [B9,hh]
 have hfl:=Ut holder hh;rw [<-hD];clear h1 h2 h3 hh hT hY hD;go_enter func18,ntmps18;go_upto_region 1 with fail;obtain ⟨k1,b1,s1⟩:=bx w (yA holder) 34;have hq:=Iq (w.alloc (AO (yA holder) 34)) 34;generalize (w.alloc (AO (yA holder) 34))=w0 at hq k1 b1 s1 ⊢;rw [s1] at hq;generalize (w0.alloc _)=wa at hq ⊢;obtain ⟨kr,hba,hza⟩:=hq;have KM:=AA (k1.below hba AG);have KR:=AA kr;have HB:=AA (b1.trans (hba.mono AG));clear s1 b1 hba k1 kr hza;go_wp2_with (first
  | (refine CT rfl 34 (AY 7) rfl w.heap.size holder rfl 34 _ KM.o underlying34 rfl CY.o HH.o ?_)
  | (
   go_at_call 49;refine (HC.o _ HB.o).mono ?_;rintro e w5 ⟨v5,rfl,GK,hb5⟩;obtain ⟨g5,c5,rfl,hs5⟩:=Uh GK ox.o rfl;have hb6:AK wa w5:=((BE _ _).alloc AX _).trans (hb5.mono BN);have Nc:=AA (KR.o.below hb6 KR.o.lt);have CP:=AA (AV HB.o hb6);have VF:=AA hs5;clear GK hb5 hb6 hs5)
  | (
   go_at_call 48;refine (HG.o _ _ _ _ CP.o VF.o).mono ?_;rintro e w6 ⟨rfl,hb⟩;have U8:=AA (Nc.o.below hb Nc.o.lt);have Fu:=AA (AV CP.o hb);clear hb)
  | (refine DM rfl 34 (AY 8) (AY 16) rfl (w.heap.size+1) D rfl rfl 34 _ U8.o CY.o DU EM.o ?_;intro w7 k7 hb7))
 exact xr
theorem link_any (schema link:Int) (token holder:AQ) (w:AH) (h1:Gk schema) (h2:Gk link) (ht:token.length=32) (hh:holder.length=32) (hT:Ca w):
 AS prog 19 #[AE AF schema,AE AF link,AP (yA token),AP (yA holder)] w (Dl (NB Aw schema link token holder) w):=by
 have HH:=AA hh;have CY:=AA Gm;obtain ⟨Y,hY⟩:=Ad (holder++token++MY [schema,link]);have HC:AI (∀W,AK w W->AS prog 49 #[AB (some ⟨W.heap.size,0,none⟩) 2 2,AB (some ⟨W.heap.size+1,0,none⟩) 2 2] ((W.alloc (AO (yA (holder++token)) 34)).alloc (AO #[AE AF schema,AE AF link] 3)) (au Y ((W.alloc (AO (yA (holder++token)) 34)).alloc (AO #[AE AF schema,AE AF link] 3)))):=AA (fun W hW=>by have k:=AZ.new (W.alloc (AO (yA (holder++token)) 34)) 3 (iA [schema,link]);rw [Ee] at k;have:=jI _ 2 2 [holder,token] _ 2 2 [schema,link] ((W.alloc (AO (yA (holder++token)) 34)).alloc (AO (iA [schema,link]) 3)) ((AEe W hh ht).mono BK (BE _ _)) (MQ k (by intro x hx;simp only [CJ,D5,D4] at hx;rcases hx with rfl | rfl <;> assumption) AX) AG AG;rw [show [holder,token].flatten=holder++token by simp,<-hY] at this;exact this)
 obtain ⟨D,hD⟩:=Ad (NB Aw schema link token holder);have EM:AI (D.length=32):=AA (by rw [hD,NB];exact C7 _ _);have HG:AI (∀(A:Option Aa) (n c:Nat) W,AK w W->Ag 1 Il W (AB A n c) Y->AS prog 48 #[.string {data:=#[108,105,110,107]},AB A n c] W (Dl D W)):=AA (fun A n c W hW hs=>by rw [hD,NB,<-hY];exact IF {data:=#[108,105,110,107]} A n c Y W Ah (hT.below hW) hs)
 have ox:AI (0 < Y.length):=AA (by rw [hY,CQ,CQ,hh];omega);have R8:=AA ht;obtain ⟨j0,z0,hj⟩:=gJ;have HJ:=AA hj;rw [<-hD];clear h1 h2 hh ht hT hY hD hj;go_enter func19,ntmps19;go_upto_region 1 with fail;obtain ⟨k1,b1,s1⟩:=bx w (yA token) 34;generalize (w.alloc (AO (yA token) 34))=w1 at k1 b1 s1 ⊢;obtain ⟨k2,b2,s2⟩:=bx w1 (yA holder) 34;have hq:=Iq (w1.alloc (AO (yA holder) 34)) 34;generalize (w1.alloc (AO (yA holder) 34))=w0 at hq k2 b2 s2 ⊢;rw [s1] at k2 b2 s2;rw [s2] at hq;generalize (w0.alloc _)=wa at hq ⊢;obtain ⟨kr,hba,hza⟩:=hq;have KT:=AA ((k1.below b2 AG).below hba AG);have KM:=AA (k2.below hba AG);have KR:=AA kr;have HB:=AA ((b1.trans (b2.mono AG)).trans (hba.mono AG));clear s1 b1 s2 b2 hba k1 k2 kr hza;go_wp2_with (first
  | (refine ph rfl 37 34 (AY 9) (AY 10) rfl j0 z0 underlying37 HJ.o.1 HJ.o.2.1 HJ.o.2.2.2.1 holder token rfl rfl HH.o R8.o ?_)
  | (refine CT rfl 34 (AY 6) rfl w.heap.size token rfl 34 _ KT.o underlying34 rfl CY.o R8.o ?_)
  | (refine CT rfl 34 (AY 7) rfl (w.heap.size+1) holder rfl 34 _ KM.o underlying34 rfl CY.o HH.o ?_)
  | (
   go_at_call 49;refine (HC.o _ HB.o).mono ?_;rintro e w5 ⟨v5,rfl,GK,hb5⟩;obtain ⟨g5,c5,rfl,hs5⟩:=Uh GK ox.o rfl;have hb6:AK wa w5:=((BE _ _).alloc AX _).trans (hb5.mono BN);have Nc:=AA (KR.o.below hb6 KR.o.lt);have CP:=AA (AV HB.o hb6);have VF:=AA hs5;clear GK hb5 hb6 hs5)
  | (
   go_at_call 48;refine (HG.o _ _ _ _ CP.o VF.o).mono ?_;rintro e w6 ⟨rfl,hb⟩;have U8:=AA (Nc.o.below hb Nc.o.lt);have Fu:=AA (AV CP.o hb);clear hb)
  | (refine DM rfl 34 (AY 8) (AY 16) rfl (w.heap.size+1+1) D rfl rfl 34 _ U8.o CY.o DU EM.o ?_;intro w7 k7 hb7))
 exact Se (.inl rfl) rfl rfl rfl k7 underlying34 rfl CY.o EM.o (Fu.o.trans (hb7.mono AG))
section
variable {F:Fence} {n:Nat} {P:BA} {md:Region.Mode} {ops:Array Oper} {Q:Exit->Act->AH->Prop} {S:AH->Prop}
def Pv (o:Oper):Bool:=match o.op with | .defer _=>false | _=>true
theorem mZ {o:Oper} (h:Pv o=true):∀c,o.op≠.defer c:=fun c e=>by simp [Pv,e] at h
structure Clear (F:Fence) (ops:Array Oper):Prop where
 fn:∀f,F.fn f
 nd:ops.all Pv=true
theorem Clear.op (h:Clear F ops) {j:Nat} {o:Oper} (hj:ops[j]? =some o):∀c,o.op≠.defer c:=by obtain ⟨hlt,e⟩:=C6.1 hj;subst e;exact mZ (Array.all_eq_true.1 h.nd j hlt)
def Gy (F:Fence) (n:Nat) (P:BA) (md:Region.Mode) (ops:Array Oper) (Q:Exit->Act->AH->Prop) (S:AH->Prop):Nat->Array Bool->Act->AH->Prop
 | 0,listed,a,w=>Region.ready md ops listed=[]/\Q .normal a w
 |
  fuel+1,listed,a,w=>
  (Region.ready md ops listed=[]->Q .normal a w)/\
  ∀i∈Region.ready md ops listed,wpOpIn F n P ops Q i (fun a' w'=>S w'/\Gy F n P md ops Q S fuel (listed.setIfInBounds i true) a' w') a w
theorem ZF:∀(fuel:Nat) (listed:Array Bool) (a:Act) (w:AH),Gy F n P md ops Q S fuel listed a w->wpAnyIn F n P md ops Q fuel listed a w
 | 0,_,_,_,h=>h
 | fuel+1,_,_,_,h=>⟨h.1,fun i hi=>wpOpIn_mono (fun a' w' h'=>ZF fuel _ a' w' h'.2) (h.2 i hi)⟩
theorem AFh (hC:Clear F ops) {i:Nat} {o:Oper} {v:AN} {a:Act} (hi:ops[i]? =some o) (hy:YieldsIf P ops S o v a) {K:Act->AH->Prop} {w:AH} (hS:S w) (h:K (a.put o.dst v) w):wpOpIn F n P ops Q i K a w:=by
 unfold wpOpIn;simp only [hi];have hab:∀f,o.about P w a.eval=some f->F.fn f:=fun f _=>hC.fn f;rcases hy with ⟨hw,hv⟩ | ⟨hw,rfl⟩
 · simp only [hw,C5,Oper.wpIn,Oper.semAt_eq F.round _ o (hC.op hi),hv w hS,Oper.uponIn];exact ⟨hab,h⟩
 · simp only [hw,Gu,F5];exact ⟨hab,h⟩
theorem AHC (hC:Clear F ops) {j:Nat} {oi oj:Oper} {v:AN} (hj:ops[j]? =some oj) (hap:oi.apart ops oj=true)
 (hsi:∀cs b,oi.op≠.select cs b) (hsj:∀cs b,oj.op≠.select cs b)
 (hQ:∀c a w,Q (.panic c) (a.put oi.dst v) w->Q (.panic c) a w) {K:Act->AH->Prop} {a:Act} {w:AH}
 (hy:YieldsIf P ops S oi v a) (h:wpOpIn F n P ops Q j K (a.put oi.dst v) w):
 wpOpIn F n P ops Q j (fun a' w'=>YieldsIf P ops S oi v a'/\K (a'.put oi.dst v) w') a w:=by
 obtain ⟨h1,h2,h3⟩:=Oper.apart_spec hap;have keep:∀(a:Act),YieldsIf P ops S oi v a->∀u,YieldsIf P ops S oi v (a.put oj.dst u):=fun a hy u=>
  hy.of_same (execOp_put oi hsi a oj.dst u h3) (wanted_put oi a oj.dst u h3)
 have keepD:∀d,YieldsIf P ops S oi v {a with defers:=d::a.defers}:=fun d=>hy.of_same rfl rfl;have hnd:=hC.op hj;unfold wpOpIn at *;simp only [hj] at *;rw [wanted_put oj a oi.dst v h1] at h;split
 ·rename_i hw
  simp only [hw,C5] at h;unfold Oper.wpIn at *;refine ⟨fun f _=>hC.fn f,?_⟩;have h:=h.2;rw [Oper.semAt_eq F.round _ oj hnd,execOp_put oj hsj a oi.dst v h1] at h;rw [Oper.semAt_eq F.round _ oj hnd];generalize (execOp a.eval oj).run P w=r at *;cases r with
  |
   ok x w'=>
   cases x <;> simp only [Oper.uponIn] at h ⊢
   case value u=>exact ⟨keep a hy u,by rw [<-PJ a v u h2];exact h⟩
   case skip=>exact ⟨keep a hy _,by rw [<-PJ a v undef h2];exact h⟩
   case defer d=>refine ⟨keep _ (keepD d) _,?_⟩;rw [<-PJ _ v undef h2,<-Act.put_defers];exact h
   case enter f args=>
    refine ⟨h.1,CallsIn.mono h.2 fun e w'' he=> ?_⟩;cases e with
    | returned u=>exact ⟨keep a hy u,by rw [<-PJ a v u h2];exact he⟩
    | panicked c=>exact hQ _ _ _ he
    | outgrown=>exact he
   case row row args=>exact ⟨h.1,RowsIn.mono h.2 fun u w'' he=>⟨keep a hy u,by rw [<-PJ a v u h2];exact he⟩⟩
   case round l f tmps assign body=>
    refine ⟨h.1,RoundIn.mono h.2 fun e w'' he=> ?_⟩;cases e with
    | returned u=>exact ⟨keep a hy u,by rw [<-PJ a v u h2];exact he⟩
    | panicked c=>exact hQ _ _ _ he
    | outgrown=>exact he
  |
   halt x w'=>
   cases x <;> simp only [Oper.uponIn] at h ⊢
   case panic u=>exact hQ _ _ _ h
 rename_i hw
 simp only [hw] at h;exact ⟨fun f _=>hC.fn f,keep a hy _,by rw [<-PJ a v undef h2];exact h.2⟩
theorem AEa (hC:Clear F ops) {i:Nat} {oi:Oper} {v:AN} (hi:ops[i]? =some oi) (hsel:∀(j:Nat) (o:Oper) cs b,ops[j]? =some o->o.op≠.select cs b)
 (hQ:∀c a w,Q (.panic c) (a.put oi.dst v) w->Q (.panic c) a w):
 ∀(fuel:Nat) (listed:Array Bool) (a:Act) (w:AH),
  (∀j oj,ops[j]? =some oj->j≠i->listed.getD j true=false->(∀e∈oj.after,Region.binds md e=true->e.on≠i)->oi.apart ops oj=true)->
  i∈Region.ready md ops listed->YieldsIf P ops S oi v a->S w->
  Gy F n P md ops Q S fuel (listed.setIfInBounds i true) (a.put oi.dst v) w->Gy F n P md ops Q S (fuel+1) listed a w:=by
 intro fuel
 induction fuel with
 |
  zero=>
  intro listed a w _ hr hy hS H;refine ⟨fun h=>OC,fun j hj=> ?_⟩;by_cases hji:j=i
  · subst hji;exact AFh hC hi hy hS ⟨hS,H⟩
  ·have:=Jg hj hji
   rw [H.1] at this;cases this
 |
  succ fuel ih=>
  intro listed a w hfree hr hy hS H;refine ⟨fun h=>OC,fun j hj=> ?_⟩;by_cases hji:j=i
  · subst hji;exact AFh hC hi hy hS ⟨hS,H⟩
  have h1:=H.2 j (Jg hj hji);obtain ⟨hjun,oj,hoj,hall⟩:=IZ.1 hj;have hnot:∀e∈oj.after,Region.binds md e=true->e.on≠i:=fun e he hb heq=>by
   have h1:=hall e he hb;have h0:=(IZ.1 hr).1;rw [heq] at h1;rcases Ec i listed.size with h' | h'
   · simp [h'] at h0 h1;rw [h0] at h1;cases h1
   · simp [Array.getElem?_eq_none h'] at h1
  have h2:=AHC hC hoj (hfree j oj hoj hji hjun hnot) (fun cs b=>hsel i oi cs b hi) (fun cs b=>hsel j oj cs b hoj) hQ hy h1;have hfree':∀k ok,ops[k]? =some ok->k≠i->(listed.setIfInBounds j true).getD k true=false->
   (∀e∈ok.after,Region.binds md e=true->e.on≠i)->oi.apart ops ok=true:=fun k ok hk hki hun hno=>by
   refine hfree k ok hk hki ?_ hno;by_cases hjk:j=k
   · subst hjk;exact hjun
   · exact ko
  refine wpOpIn_mono (fun a' w' h3=>⟨h3.2.1,ih (listed.setIfInBounds j true) a' w' hfree' (Jg hr (Ne.symm hji)) h3.1 h3.2.1 ?_⟩) h2;rw [YZ _ _ hji];exact h3.2.2
variable {fuel:Nat} {listed:Array Bool} {l:List AN} {D:List Deferred} {w:AH}
theorem rhB {id:Nat} {a:Act} (S:AH->Prop) (k:Nat) (L:Array Bool) (hm:P.follows .mixedOrders=true) (hn:ops.size=k) (hL:Array.replicate k false=L) (h:Gy F n P .any ops Q S k L a w.drew):(Code.region id ops true).wpIn F n P Q a w:=by subst hn hL;exact wpIn_region_any hm (ZF _ _ _ _ h)
theorem EG (hC:Clear F ops) (i d:Nat) {oi:Oper} {v:AN} (hB:Wt md ops listed i=true) (hi:ops[i]? =some oi) (hd:oi.dst=some d) (hQ:∀c (a:Act) d v w,Q (.panic c) (a.put (some d) v) w->Q (.panic c) a w) (hS:S w)
 (hw:Region.wanted oi (yielded ops l.toArray)=true) (hv:∀w,S w->(execOp (Act.eval ⟨l.toArray,D⟩) oi).run P w=.ok (.value v) w)
 (h:Gy F n P md ops Q S fuel (listed.setIfInBounds i true) ⟨(l.set d v).toArray,D⟩ w):Gy F n P md ops Q S (fuel+1) listed ⟨l.toArray,D⟩ w:=by
 simp only [Bj] at hB;rw [<-M8,<-hd] at h;exact AEa hC hi (YT hB.1) (fun c a w hq=>by rw [hd] at hq;exact hQ c a _ _ w hq) fuel listed _ w (YL hi hB.2.1) (by simpa using hB.2.2) (.inl ⟨hw,hv⟩) hS h
theorem Ui (hC:Clear F ops) (i d t:Nat) {oi:Oper} {v:AN} (hB:Wt md ops listed i=true) (hi:ops[i]? =some oi) (hd:oi.dst=some d) (hQ:∀c (a:Act) d v w,Q (.panic c) (a.put (some d) v) w->Q (.panic c) a w) (hS:S w)
 (hw:Region.wanted oi (yielded ops l.toArray)=true) (ho:oi.op=.move (AY t)\/oi.op=.assign (AY t)) (hv:l[t]? =some v)
 (h:Gy F n P md ops Q S fuel (listed.setIfInBounds i true) ⟨(l.set d v).toArray,D⟩ w):Gy F n P md ops Q S (fuel+1) listed ⟨l.toArray,D⟩ w:=by
 refine EG hC i d hB hi hd hQ hS hw (fun W _=> ?_) h;have e:Act.eval ⟨l.toArray,D⟩ (AY t)=v:=by simp [Act.eval,hv]
 unfold execOp;rcases ho with ho | ho
 · rw [ho];simp [e]
 · rw [ho];simp [e]
theorem rhO (hC:Clear F ops) (i:Nat) {o:Oper} {a:Act} (hr:Region.ready md ops listed=[i]) (hi:ops[i]? =some o) (hg:o.guard=none)
 (h:o.uponIn F n P a (fun a' w'=>S w'/\Gy F n P md ops Q S fuel (listed.setIfInBounds i true) a' w') Q ((execOp a.eval o).run P w)):Gy F n P md ops Q S (fuel+1) listed a w:=by
 refine ⟨fun h0=>(by rw [hr] at h0;cases h0),fun j hj=> ?_⟩;rw [hr] at hj;obtain rfl:j=i:=by simpa using hj
 unfold wpOpIn;rw [hi];have hw:Region.wanted o (yielded ops a.tmps)=true:=by simp [Region.wanted,hg]
 simp only [hw,C5,Oper.wpIn,Oper.semAt_eq F.round _ o (hC.op hi)];exact ⟨fun f _=>hC.fn f,h⟩
theorem rhF (hC:Clear F ops) (i d:Nat) {o:Oper} {f:FuncId} {xs:Array Operand} {ts:Array Af} {args:Array AN} {R:Ending->AH->Prop} (hr:Region.ready md ops listed=[i]) (hi:ops[i]? =some o) (hd:o.dst=some d) (hg:o.guard=none)
 (ho:o.op=.call {callee:=.value (.func f),args:=xs,argTypes:=ts}) (he:Enters P f) (hx:F.depth.isSome=true->1<=n) (hc:CallsIn F (n - 1) P f args w R) (ha:xs.toList.map (Act.eval ⟨l.toArray,D⟩)=args.toList)
 (h:∀e w',R e w'->∃v,e=AU v/\S w'/\Gy F n P md ops Q S fuel (listed.setIfInBounds i true) ⟨(l.set d v).toArray,D⟩ w'):Gy F n P md ops Q S (fuel+1) listed ⟨l.toArray,D⟩ w:=by
 refine rhO hC i hr hi hg ?_;have e:xs.map (Act.eval ⟨l.toArray,D⟩)=args:=by apply Tl.1;rw [Q9];exact ha
 have hex:(execOp (Act.eval ⟨l.toArray,D⟩) o).run P w=.ok (.enter f args) w:=by unfold execOp;rw [ho];simp [resolve,Act.eval,Deferred.ofValue,invoke,<-e];exact he _ w
 rw [hex];exact ⟨hx,hc.mono fun e w' hR=>by obtain ⟨v,rfl,hS,hk⟩:=h e w' hR;rw [<-M8,<-hd] at hk;exact ⟨hS,hk⟩⟩
theorem rhY (hC:Clear F ops) (i d t q:Nat) {o:Oper} {xs:Array Operand} {ts:Array Af} {args:Array AN} {R:Ending->AH->Prop} (hr:Region.ready md ops listed=[i]) (hi:ops[i]? =some o) (hd:o.dst=some d) (hg:o.guard=none)
 (ho:o.op=.call {callee:=.value (AY t),args:=xs,argTypes:=ts}) (ht:l[t]? =some (.func (.yield q) #[] #[])) (hx:F.depth.isSome=true->1<=n) (hc:YieldAt F (n - 1) P q args w R) (ha:xs.toList.map (Act.eval ⟨l.toArray,D⟩)=args.toList)
 (h:∀e w',R e w'->(∃v,e=AU v/\S w'/\Gy F n P md ops Q S fuel (listed.setIfInBounds i true) ⟨(l.set d v).toArray,D⟩ w')\/∃c,e=.panicked c/\Q (.panic c) ⟨l.toArray,D⟩ w'):Gy F n P md ops Q S (fuel+1) listed ⟨l.toArray,D⟩ w:=by
 refine rhO hC i hr hi hg ?_;have e:xs.map (Act.eval ⟨l.toArray,D⟩)=args:=by apply Tl.1;rw [Q9];exact ha
 obtain ⟨fn,tmps,assign,body,hy,hR⟩:=hc;have hex:(execOp (Act.eval ⟨l.toArray,D⟩) o).run P w=.ok (.round q fn tmps assign body) w:=by
  unfold execOp;rw [ho];have e2:Act.eval ⟨l.toArray,D⟩ (AY t)=.func (.yield q) #[] #[]:=by simp [Act.eval,ht]
  simp [resolve,e2,Deferred.ofValue,invoke,e];exact hy
 rw [hex];refine ⟨hx,hR.mono fun e w' hR=> ?_⟩;rcases h e w' hR with ⟨v,rfl,hS,hk⟩ | ⟨c,rfl,hq⟩
 · rw [<-M8,<-hd] at hk;exact ⟨hS,hk⟩
 · exact hq
theorem rhD {a:Act} (hr:Region.ready md ops listed=[]) (h:Q .normal a w):∀fuel,Gy F n P md ops Q S fuel listed a w
 | 0=>⟨hr,h⟩
 | _+1=>⟨fun _=>h,by rw [hr];simp⟩
end
end Go.Proofs.YtamhoilkpppdbaaGreatDoor
