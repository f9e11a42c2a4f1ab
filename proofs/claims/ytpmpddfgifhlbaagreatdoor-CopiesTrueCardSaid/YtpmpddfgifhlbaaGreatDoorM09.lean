import Derived.Test.YtpmpddfgifhlbaaGreatDoorM08
namespace Go.Proofs.YtpmpddfgifhlbaaGreatDoor
set_option maxHeartbeats 8000000
set_option maxRecDepth 100000
open Go renaming World→AH, Value→AK, Calls→AS, TypeId→Ae, Program→BB, Addr→Aa
open Go.RowKit renaming Below→BK
open Go.Proofs.Tryz
open Go.Value renaming slice→AA, int→AB, string→AN, pointer→AU, bool→AX, agg→AO, tuple→BS
open Go.IntKind renaming i64→AE, u8→Ak
open Go.Ending renaming returned→AV
open Go.Obj renaming cells→AQ
open Go.Operand renaming tmp→AY
open Go.RowKit Go.Shelf
theorem Qe (g:Nat) (d:AP) (hd:d.length=32):∀W:AH,AZ W g 34 (yA d)->(Instr.loadAt 34 (AU (some ⟨g,0,none⟩))).run prog W=.ok (AO (yA d)) W:=by intro W hg;simp only [Instr.loadAt,Instr.sureAddr,Cs,DL,Result.andThen_ok,Pn W g 34 34 (yA d) (0,0) _ hg underlying34 rfl (by rw [Bb,hd];exact Du)]
theorem ABg:(prog.info? 62).map (·.size)=some 3:=by kernel_rfl
theorem JT {a:AH} {g:Nat}:∀(vs:List AK) (o:Nat) (w:AH),a.grownBy w (some g)->a.grownBy (w.setCells g o vs) (some g)
 | [],_,_,h=>h
 |
  v::vs,o,w,h=>by
  rw [World.setCells];exact JT vs (o+1) _ (OT h o v)
theorem dY (w:AH) (g:Option Nat):w.grownBy w g:=⟨rfl,rfl,rfl,Ad _,fun _ _ _=>rfl⟩
theorem AI8 {P:BB} {fn:Func} {a:Act} {p q:Tmp} {ty:Ae} {t:Ae} {ds:TypeDesc} {cs:Array AK} {v:AK} {g:Nat} {w:AH} {x:Exit} {R:Ending->AH->Prop} (hx:x=.ret\/x=.normal) (h:fn.results=#[.cell p ty,.tmp q]) (hp:a.tmps.getD p undef=AU (some ⟨g,0,none⟩)) (hq:a.tmps.getD q undef=v) (hdf:a.defers=[]) (hg:AZ w g t cs) (hu:P.underlying ty=some ds) (hds:(match ds with | .struct _ | .array _ _=>true | _=>false)=true) (hi:(P.info? ty).map (·.size)=some cs.size) (hR:R (AV (BS #[.agg cs,v])) w):
 bodyPost P fn R x a w:=by
 have hr:(results fn a.tmps).run P w=.ok (BS #[.agg cs,v]) w:=by
  have hp':a.tmps[p]?.getD undef=AU (some ⟨g,0,none⟩):=by simpa using hp
  have hq':a.tmps[q]?.getD undef=v:=by simpa using hq
  simp [results,h,hp',hq',asAddr,run_loadVar_row w g t ty cs (0,0) ds hg hu hds hi]
 exact zl
theorem MV {w:AH} {g o n:Nat} {t:Ae} {cs:Array AK} (h:AZ w g t cs) (hl:o+n<=cs.size):w.there g o n:=fun j hj=>by rw [h.cell,Yv AG];exact ⟨rfl,h.frozen _⟩
def AFl (q:Cd) (w:AH) (e:Ending) (w':AH):Prop:=∃v1 cs1 v2 cs2,e=AV (BS #[AO #[AB AE q.index,v1,v2],AB AE 0])/\w'.ownsRow w.heap.size 34 32 v1 q.chains.length cs1/\Ao 32 CQ w' cs1 q.chains/\w'.ownsRow w.heap.size 34 32 v2 q.path.length cs2/\Ao 32 CQ w' cs2 q.path/\AJ w w'
theorem nT (seed m:AP) (A:Option Aa) (n c k:Nat) (l:List (AP)) (w:AH) (hs:seed.length=32) (hm:m.length=32) (hr:∀x∈m,0<=x/\x < 256) (h256:n<=256) (hk:k < n) (hT:Cc w) (hl:Ag 32 CQ w (AA A n c) l):
 AS prog 50 #[AO (yA seed),AA A n c,AB AE k,AO (yA m)] w (AFl (QI Aq seed l k m) w):=by
 obtain ⟨HS,HM,CV⟩:=Az hs hm Du;have HP:AI (∀W,AJ w W->AS prog 73 #[AA A n c,AB AE k] W (l8 (Ft Aq l k) 0 W)):=AF (fun W hW=>AC3 A n c k l W h256 hk (hT.below hW) (hl.mono BL hW));obtain ⟨D,hD⟩:=Ab (J7 Aq seed k);have Eb:D.length=32:=by rw [hD,J7];exact C3 _ _
 have HC:AI (∀W,AJ w W->AS prog 64 #[AO (yA seed),AB AE k] W (DW D W)):=AF (fun W hW=>by rw [hD];exact Z6 seed k W hs AG (hT.below hW));have HG:AI (∀W,AJ w W->AS prog 63 #[AO (yA D),AO (yA m)] W (Qw (J0 Aq D m) W)):=AF (fun W hW=>nS D m W Eb hm hr (hT.below hW));obtain ⟨p,hp⟩:=Ab (Ft Aq l k);obtain ⟨s,hss⟩:=Ab (J0 Aq D m);have hz:QI Aq seed l k m=⟨k,s,p⟩:=by rw [hss,hp,hD];rfl
 rw [hz];rw [<-hp] at HP;rw [<-hss] at HG;clear hs hm hr hT hl hp hss hD Eb hz;go_enter func50,ntmps50;go_upto_region 1 with fail;obtain ⟨k1,b1,s1⟩:=bx w (yA seed) 34;generalize (w.alloc (AQ (yA seed) 34))=w1 at k1 b1 s1 ⊢;obtain ⟨k2,b2,s2⟩:=bx w1 (yA m) 34;generalize (w1.alloc (AQ (yA m) 34))=w2 at k2 b2 s2 ⊢;obtain ⟨k3,b3,s3⟩:=bx w2 #[AB AE 0,AA none 0 0,AA none 0 0] 62;generalize (w2.alloc (AQ #[AB AE 0,AA none 0 0,AA none 0 0] 62))=w3 at k3 b3 s3 ⊢;rw [s1] at k2 b2 s2;rw [s2] at k3 b3 s3;obtain ⟨KS,KM,KL,HB⟩:=CJ ((k1.below b2 AG).below b3 AG) (k2.below b3 AG) k3 ((b1.trans (b2.mono AG)).trans (b3.mono AG));have H3:AI (w3.heap.size=w.heap.size+1+1+1):=AF AG;clear k1 k2 k3 b1 b2 b3 s1 s2 s3;go_wp2_with (first
  | (
   go_at_call 73;refine (HP.o _ HB.o).mono ?_;rintro e w4 ⟨v,cs,rfl,ho,hc,hb⟩;obtain ⟨rA,rc,rfl⟩:=Bz ho;obtain ⟨HO,ES,AKv,KS4,KM4,KL4,HB4⟩:=LW ho hc hb.size (KS.o.below hb KS.o.lt) (KM.o.below hb KM.o.lt) (KL.o.below hb KL.o.lt) (AW HB.o hb);clear ho hc hb))
 have hl1:=Qe w.heap.size seed HS.o;have hl2:=Qe (w.heap.size+1) m HM.o;have Qo:AI (∀W,AJ w4 W->AZ W w.heap.size 34 (yA seed)/\AZ W (w.heap.size+1) 34 (yA m)):=AF (fun W hW=>⟨KS4.o.below hW KS4.o.lt,KM4.o.below hW KM4.o.lt⟩);have K4:AJ w4 w4.drew:=(Af _ _).drew;refine JA (fun W=>AZ W w.heap.size 34 (yA seed)/\AZ W (w.heap.size+1) 34 (yA m)) 10 _ AL AL rfl ?_;refine rgM 0 20 2 AL rfl rfl Al (Qo.o _ K4) rfl (.inl rfl) rfl ?_;refine C9 1 21 AL rfl rfl Al (Qo.o _ K4) rfl (fun W hW=>run_load (hl1 W hW.1)) ?_;refine rgM 2 22 2 AL rfl rfl Al (Qo.o _ K4) rfl (.inl rfl) rfl ?_;refine C9 4 24 AL rfl rfl Al (Qo.o _ K4) rfl (fun W hW=>run_load (hl2 W hW.2)) ?_;refine rgM 6 26 10 AL rfl rfl Al (Qo.o _ K4) rfl (.inl rfl) rfl ?_;refine WJ 3 23 AL rfl rfl rfl rfl (enters_of func64 AL rfl) (HC.o _ (AW HB4.o K4)) AL ?_;rintro e w5 ⟨rfl,hb5⟩;have K5:AJ w4 w5:=K4.trans hb5;refine ⟨_,rfl,Qo.o _ K5,?_⟩;refine WJ 5 25 AL rfl rfl rfl rfl (enters_of func63 AL rfl) (HG.o _ (AW HB4.o K5)) AL ?_;rintro e w6 ⟨v6,cs6,rfl,Q5,hc6,hb6⟩;have K6:AJ w4 w6:=AW K5 hb6;refine ⟨_,rfl,Qo.o _ K6,?_⟩;obtain ⟨sA,sc,rfl⟩:=Bz Q5;refine C9 7 27 AL rfl rfl Al (Qo.o _ K6) rfl (fun W _=>Y6 (cells:=#[AB AE k,AA sA s.length sc,AA rA p.length rc]) AL) ?_;have KL6:=KL4.o.below K6 KL4.o.lt;have hall:(#[AB AE k,AA sA s.length sc,AA rA p.length rc]:Array AK).all (·.oneCell')=true:=Og
 have hth:=MV KL6 (o:=0) (n:=3) (Ad 3);have hS7:AJ w (w6.setCells (w.heap.size+1+1) 0 [AB AE k,AA sA s.length sc,AA rA p.length rc]):=below_setCells _ _ _ _ (AW HB4.o K6) AG;have HG7:AI (w6.grownBy (w6.setCells (w.heap.size+1+1) 0 [AB AE k,AA sA s.length sc,AA rA p.length rc]) (some (w.heap.size+1+1))):=AF (JT _ _ _ (dY _ _));have Xt:=Qo.o _ K6;have hb8:BK (w.heap.size+1+1) w6 (w6.setCells (w.heap.size+1+1) 0 [AB AE k,AA sA s.length sc,AA rA p.length rc]):=below_setCells _ _ _ _ (Af _ _) (Ad _);replace Xt:=And.intro (Xt.1.below hb8 AG) (Xt.2.below hb8 AG);have K7:AZ (w6.setCells (w.heap.size+1+1) 0 [AB AE k,AA sA s.length sc,AA rA p.length rc]) (w.heap.size+1+1) 62 #[AB AE k,AA sA s.length sc,AA rA p.length rc]:=((KL6.put 0 _).put 1 _).put 2 _;refine rgS 8 62 (AY 8) (AY 27) (w.heap.size+1+1) 0 #[AB AE k,AA sA s.length sc,AA rA p.length rc] AL rfl rfl rfl rfl AL AL rfl hth ABg hall Xt ?_;refine C9 9 9 AL rfl rfl Al Xt rfl (v:=AB AE 0) (fun _ _=>rfl) ?_;refine Cx AL ?_ _;simp only [Bp,B9];generalize w6.setCells (w.heap.size+1+1) 0 [AB AE k,AA sA s.length sc,AA rA p.length rc]=w7 at *;go_wp2_with fail;have hsz:=K6.size;have h5:=K5.size;have h3:=H3.o;have h4:=AKv.o;exact AI8 (.inl rfl) rfl rfl rfl rfl K7 underlying62 rfl ABg ⟨_,cs6,_,cs,rfl,Ny (Q5.kept HG7.o (.inr (by intro e;have:=(Q5.lt _ e).1;omega))) AG,Ik hc6,Ny ((EX HO.o K6).kept HG7.o (.inr (by intro e;have:=(HO.o.lt _ e).1;omega))) AG,Ik ES.o,hS7⟩
def Ol:Nat->Nat->AP
 | 0,_=>[]
 | g+1,u=>if u < 128 then [(u:Int)] else bits .or .u8 ((u % 128:Nat):Int) 128::Ol g (u / 128)
def Ti (n:Int):Int:=bits .xor .u64 (IntKind.u64.wrap (IntKind.u64.wrap n*2)) (IntKind.u64.wrap (n / 9223372036854775808))
def Xl (n:Int):AP:=1::Ol 10 (Ti n).toNat
def Mf (l:AP):AP:=3::(Ol 10 l.length++(l.map Xl).flatten)
structure CS where
 Au:Int
 no:Int
 schema:Int
 day:Int
 known:Int
 places:Int
 root:Dg
structure Ge where
 Au:Int
 round:Int
 schema:Int
 place:Int
 holder:Dg
 values:AP
 links:List Dg
 claims:List Cd
structure Fw where
 Au:Int
 round:Int
 schema:Int
 place:Int
 holder:Dg
 fields:AP
 values:AP
 link:Int
 token:Dg
 claims:List Cd
section
variable (H:AP->AP->Dg)
def AB9:AP:=[99,108,97,105,109]
def AFb:AP:=[108,105,110,107]
def msgP (schema claim value:Int) (holder:Dg):Dg:=H AB9 (holder++Mf [schema,claim,value])
def Ko (schema link:Int) (token holder:Dg):Dg:=H AFb (holder++token++Mf [schema,link])
def FC (first schema:Int) (holder:Dg) (fs vs:AP):List (Int×Dg):=(fs.zip vs).map fun p=>(first+p.1,msgP H schema p.1 p.2 holder)
def LC (first present schema:Int) (holder:Dg) (ls:AP) (ts:List Dg):List (Int×Dg):=(ls.zip ts).map fun p=>(first+present - 4+p.1,Ko H schema p.1 p.2 holder)
def Fb (first present schema:Int) (holder:Dg) (fs vs ls:AP) (ts:List Dg):List (Int×Dg):=
 FC H first schema holder fs vs++LC H first present schema holder ls ts++[(first+present,msgP H schema (-1) 0 holder)]
def dN (ms:List (Int×Dg)) (cs:List Cd):Bool:=(ms.zip cs).all fun p=>decide (p.2.index=p.1.1)
def yQ (root:Dg) (many:Int) (ms:List (Int×Dg)) (cs:List Cd):Bool:=(ms.zip cs).all fun p=>C7 H root many p.1.2 p.2
def Il (root:Dg) (many:Int) (ms:List (Int×Dg)) (cs:List Cd):Int:=if dN ms cs=true then if yQ H root many ms cs=true then 0 else 60 else 190
def GR (nf:Option Nat) (places:Int):Bool:=match nf with
 | none=>false
 | some n=>decide (1<=places) && decide (places<=16) && decide (places*((n:Int)+4+1)<=256)
def upto (n:Nat):AP:=(List.range n).map fun (i:Nat)=>(i:Int)
def D4 (n:Nat) (val:Int->Int->Bool) (vs:AP):Bool:=decide (vs.length=n) && ((upto n).zip vs).all fun p=>val p.1 p.2
def Fo (n:Nat) (c:Ge):List (Int×Dg):=Fb H (c.place*((n:Int)+4+1)) ((n:Int)+4) c.schema c.holder (upto n) c.values (upto 4) c.links
def Nb (n:Nat) (s:Fw):List (Int×Dg):=Fb H (s.place*((n:Int)+4+1)) ((n:Int)+4) s.schema s.holder s.fields s.values (if 0<=s.link then [s.link] else []) (if 0<=s.link then [s.token] else [])
def U1 (seed:Dg) (l:List Dg) (ms:List (Int×Dg)):List Cd:=ms.map fun m=>QI H seed l m.1.toNat m.2
def FV (ck:Int) (nf:Option Nat) (val:Int->Int->Bool) (r:CS) (place:Int) (links:List Dg) (xs:Int) (vs:AP):Bool:=
 decide (ck=0) && GR nf r.places && decide (0<=place) && decide (place < r.places) && decide (links.length=4) && decide (xs=r.schema) && D4 (nf.getD 0) val vs
def PE (r:CS) (place:Int) (holder:Dg) (links:List Dg) (vs:AP):Ge:=⟨r.Au,r.no,r.schema,place,holder,vs,links,[]⟩
def Ij (seed:Dg) (n:Nat) (r:CS) (place:Int) (holder:Dg) (links:List Dg) (vs:AP):Ge:=
 {PE r place holder links vs with claims:=U1 H seed (Dp H seed (r.places*((n:Int)+4+1)).toNat) (Fo H n (PE r place holder links vs))}
def dJ (ck:Int):Int:=if ck=0 then 190 else 160
def PD (nf:Option Nat) (val:Int->Int->Bool) (r:CS) (c:Ge):Bool:=
 GR nf r.places && (decide (c.Au=r.Au) && decide (c.round=r.no) && decide (c.schema=r.schema)) && (decide (0<=c.place) && decide (c.place < r.places) && D4 (nf.getD 0) val c.values) && (decide (c.links.length=4) && decide (c.claims.length=nf.getD 0+5))
def F0 (ck:Int) (nf:Option Nat) (val:Int->Int->Bool) (r:CS) (c:Ge):Int:=
 if ck≠0 then 160 else if PD nf val r c=true then Il H r.root (r.places*(((nf.getD 0:Nat):Int)+4+1)) (Fo H (nf.getD 0) c) c.claims else 190
def NM (n:Nat):Int->AP->Bool
 | _,[]=>true
 | last,f::l=>decide (last < f) && decide (f < n) && NM n f l
def LB (nf:Option Nat) (c:Ge) (fs:AP) (link:Int):Bool:=match nf with
 | none=>false
 | some n=>(decide (c.values.length=n) && decide (c.links.length=4) && decide (c.claims.length=n+5)) && (NM n (-1) fs && decide (-1<=link) && decide (link < 4))
def QF:Dg:=List.replicate 32 0
def Ld:Cd:=⟨0,[],[]⟩
def Ok (n:Nat) (c:Ge) (fs:AP) (link:Int):Fw:=
 ⟨c.Au,c.round,c.schema,c.place,c.holder,fs,fs.map fun f=>c.values.getD f.toNat 0,link,if 0<=link then c.links.getD link.toNat QF else QF,
  fs.map (fun f=>c.claims.getD f.toNat Ld)++(if 0<=link then [c.claims.getD (n+link.toNat) Ld] else [])++[c.claims.getD (n+4) Ld]⟩
def J9 (ck:Int) (nf:Option Nat) (c:Ge) (fs:AP) (link:Int):Int:=if ck≠0 then 160 else if LB nf c fs link=true then 0 else 190
def Jw (nf:Option Nat) (val:Int->Int->Bool) (r:CS) (s:Fw):Bool:=
 GR nf r.places && (decide (s.Au=r.Au) && decide (s.round=r.no) && decide (s.schema=r.schema)) && (decide (0<=s.place) && decide (s.place < r.places)) && (NM (nf.getD 0) (-1) s.fields && decide (s.values.length=s.fields.length)) &&
 ((s.fields.zip s.values).all fun p=>val p.1 p.2) && (decide (-1<=s.link) && decide (s.link < 4) && (decide (s.link≠ -1) || decide (s.token=QF))) && decide (s.claims.length=s.fields.length+(if s.link= -1 then 1 else 2))
def DC (ck:Int) (nf:Option Nat) (val:Int->Int->Bool) (r:CS) (s:Fw):Int:=
 if ck≠0 then 160 else if Jw nf val r s=true then Il H r.root (r.places*(((nf.getD 0:Nat):Int)+4+1)) (Nb H (nf.getD 0) s) s.claims else 190
end
theorem nK (n:Int) (w:AH) (h1: -9223372036854775808<=n) (h2:n<=9223372036854775807):AS prog 135 #[AB AE n] w fun e w'=>e=AV (AB .u64 (Ti n))/\w'=w:=by
 go_enter func135,ntmps135;by_cases h0:0<=n
 ·have e1:IntKind.u64.wrap n=n:=UI _ AG
  have e2:IntKind.u64.wrap (n*2)=n*2:=UI _ AG;have e3:IntKind.u64.wrap (n / 9223372036854775808)=n / 9223372036854775808:=UI _ AG;go_wp2;go_ret;exact ⟨C8 (by rw [Ti,e1,e2,e3]),rfl⟩
 go_wp2;go_ret;exact Rx
theorem tw (n:Int):0<=Ti n/\Ti n < 18446744073709551616:=by have:=Go.wf_bits .xor .u64 (IntKind.u64.wrap (IntKind.u64.wrap n*2)) (IntKind.u64.wrap (n / 9223372036854775808));simp [Lit.wf,IntKind.min,IntKind.max,IntKind.signed,IntKind.bits] at this;unfold Ti;omega
def Nv (B:Nat) (v:AK) (n:Nat) (xs:List AK) (ys:AP) (w:AH) (v':AK) (w':AH):Prop:=w'.ownsRow B 5 1 v' (n+ys.length) (xs++ys.map (Value.int .u8))/\w.grownBy w' v.ownBlock/\(v'.ownBlock=v.ownBlock\/∃b,v'.ownBlock=some b/\w.heap.size<=b)
theorem xW {a w w':AH} {r r':Option Nat} (h:a.grownBy w r) (k:w.grownBy w' r') (hr:r'=r\/∃b,r'=some b/\a.heap.size<=b):a.grownBy w' r:=
 ⟨k.os.trans h.os,k.tape.trans h.tape,k.output.trans h.output,BF h.size k.size,fun b hb hne=>by
  refine (k.block b (Ay hb h.size) ?_).trans (h.block b hb hne);rcases hr with rfl | ⟨c,rfl,hc⟩
  · exact hne
  · intro e;injection e with e;omega⟩
theorem Nv.refl {B n:Nat} {v:AK} {xs:List AK} {w:AH} (h:w.ownsRow B 5 1 v n xs):Nv B v n xs [] w v w:=⟨by simpa using h,dY _ _,.inl rfl⟩
theorem Nv.step {B n:Nat} {v v' v2:AK} {xs:List AK} {ys:AP} {y:AP} {w w' w2:AH} (h:Nv B v n xs ys w v' w') (ho:w2.ownsRow B 5 1 v2 (n+ys.length+y.length) ((xs++ys.map (Value.int .u8))++y.map (Value.int .u8))) (hg:w'.grownBy w2 v'.ownBlock) (hb:v2.ownBlock=v'.ownBlock\/∃b,v2.ownBlock=some b/\w'.heap.size<=b):Nv B v n xs (ys++y) w v2 w2:=by
 refine ⟨by rw [CT,<-L0,DM,<-Fh];exact ho,xW h.2.1 hg h.2.2,?_⟩;rcases hb with e | ⟨b,e,hb⟩
 · rw [e];exact h.2.2
 · exact .inr ⟨b,e,BF h.2.1.size hb⟩
theorem oG {w:AH} {B n:Nat} {e:Ae} {v:AK} {xs:List AK} {w' a:AH} (ha:BK B a w) (hB:B<=w.heap.size) (h:w.ownsRow B e 1 v n xs) (hg:w.grownBy w' v.ownBlock):BK B a w':=ha.grown hg hB (fun r hr=>(h.lt r hr).1)
theorem ZU (B:Nat) (v:AK) (n:Nat) (xs:List AK) (u:Nat) (w:AH) (ho:w.ownsRow B 5 1 v n xs) (hB:B<=w.heap.size) (hn:n<=100000) (hu:u < 18446744073709551616):
 AS prog 134 #[v,AB .u64 u] w fun e w'=>∃v',e=AV v'/\Nv B v n xs (Ol 10 u) w v' w':=by
 obtain ⟨i0,hi⟩:=Sf;obtain ⟨HI,HO⟩:=Aj hi ho;obtain ⟨Z,hZ⟩:=Ab (Ol 10 u);have HZ:=AF hZ;rw [<-hZ];clear hi ho hZ;obtain ⟨A0,c0,rfl⟩:=Bz HO.o;go_enter func134,ntmps134;go_wp2_with fail;go_loopg [0,1] 10 (fun g v' x' wr=>∃(k x:Nat) (ys:AP),g=k/\0 < k/\k<=10/\x < 128 ^ k/\x < 18446744073709551616/\x'=AB .u64 x/\ys++Ol k x=Z/\ys.length<=10 - k/\Nv B (AA A0 n c0) n xs ys w v' wr)
 case atStart=>exact ⟨10,u,[],rfl,by decide,Ad _,Nat.lt_trans hu BE,hu,rfl,HZ.o.symm,Ar _,Nv.refl HO.o⟩
 obtain ⟨k,x,ys,hg,hk0,hk,hx,hx2,rfl,hz,hy,hgr⟩:=hrel;obtain ⟨A1,c1,rfl⟩:=Bz hgr.1;obtain ⟨HG,HX,HZ2,Ga,HOW⟩:=EG hg hx hz hgr hgr.1;have NH:AI (B<=wr.heap.size):=AF (BF hB hgr.2.1.size);have HY:=AF hy;clear hg hx hz hgr hy;obtain ⟨k,rfl⟩:∃j,k=j+1:=⟨k - 1,by omega⟩;have HSG:AI (∀(y:Int) v5 w5,w5.ownsRow B 5 1 v5 (n+ys.length+1) ((xs++ys.map (Value.int .u8))++[AB Ak y])->(wr.alloc (AQ #[AB Ak y] 5)).grownBy w5 (Value.slice A1 (n+ys.length) c1).ownBlock->(v5.ownBlock=(Value.slice A1 (n+ys.length) c1).ownBlock\/v5.ownBlock=some (wr.alloc (AQ #[AB Ak y] 5)).heap.size)->Nv B (AA A0 n c0) n xs (ys++[y]) w v5 w5):=AF (fun y v5 w5 h1 h2 h3=>Ga.o.step h1 (M9 (Fm _ _ _) h2) (h3.imp id (fun h=>⟨_,h,by simp⟩)));by_cases hlt:x < 128
 ·have hx128:¬(128:Int)<=(x:Int):=by omega
  have hw8:IntKind.u8.wrap (x:Int)=(x:Int):=IntWalk.u8_in _ AG;have hzz:ys++[(x:Int)]=Z:=by rw [<-HZ2.o,Ol,Am hlt]
  have dt:=AF hzz;clear hzz;go_wp2_with (at_builtin;refine Cb _ rfl (AY 16) (AY 19) 92 5 rfl i0 (AB Ak 0) 1 underlying92 HI.o.1 HI.o.2.1 HI.o.2.2.1 HI.o.2.2.2 rfl BE (R:=Io) NC B _ _ _ rfl (HOW.o.alloc _) (some ⟨wr.heap.size,0,none⟩) 1 1 [(x:Int)] rfl (GV (d:=[(x:Int)]) (AZ.new wr 5 (yA [(x:Int)])) Ac) (by have:=HY.o;unfold maxLen;omega) (by have:=HY.o;omega) (by have:=NH.o;simp;omega) ?_;intro v5 w5 Ng hc5 GN hg5 OS);go_ret;obtain rfl:=IJ hc5;rw [<-dt.o];exact ⟨v5,rfl,HSG.o _ _ _ GN hg5 OS⟩
 have hx128:(128:Int)<=(x:Int):=AG
 have ha:bits .and .u64 (x:Int) 127=((x % 128:Nat):Int):=by have:=bits_and_u64_nat x 127 hx2 BE;rw [show (127:Nat)=2 ^ 7 - 1 from rfl,Nat.and_two_pow_sub_one_eq_mod] at this;exact this
 have hw8:IntKind.u8.wrap ((x % 128:Nat):Int)=((x % 128:Nat):Int):=IntWalk.u8_in _ AG;obtain ⟨r,hr⟩:=Ab (((x % 128:Nat):Int):Int);obtain ⟨y,hy⟩:=Ab (bits .or .u8 r 128);rw [<-hr] at ha hw8;have HZ3:AI (∀m,k=m->(ys++[y])++Ol m (x / 128)=Z):=AF (fun m hm=>by rw [<-HZ2.o,Ol,Ah hlt,hy,hr,hm,Fh];rfl);have HX3:AI (x / 128 < 128 ^ k):=AF (by have:=HX.o;rw [Nat.pow_succ,Nat.mul_comm] at this;exact Nat.div_lt_of_lt_mul this);have hk0':0 < k:=by
  rcases Pe k with h | h
  · subst h;have:=HX.o;omega
  · exact h
 have hor:=hy.symm;have LQ:=AF hlt;clear hr hlt hy;go_wp2_with (at_builtin;refine Cb _ rfl (AY 7) (AY 12) 92 5 rfl i0 (AB Ak 0) 1 underlying92 HI.o.1 HI.o.2.1 HI.o.2.2.1 HI.o.2.2.2 rfl BE (R:=Io) NC B _ _ _ rfl (HOW.o.alloc _) (some ⟨wr.heap.size,0,none⟩) 1 1 [y] rfl (GV (d:=[y]) (AZ.new wr 5 (yA [y])) Ac) (by have:=HY.o;unfold maxLen;omega) (by have:=HY.o;omega) (by have:=NH.o;simp;omega) ?_;intro v5 w5 Ng hc5 GN hg5 OS);obtain rfl:=IJ hc5;go_roundg k
 case measure=>exact Ec
 case rel=>exact ⟨k,x / 128,ys++[y],rfl,hk0',by omega,HX3.o,Nat.lt_of_le_of_lt (Nat.div_le_self _ _) hx2,by congr 1,HZ3.o k rfl,by have:=HY.o;rw [CT];simp;omega,HSG.o _ _ _ GN hg5 OS⟩
def ADR (n:Int):List AK:=[AB AE 1,AB AE n,AN ⟨#[]⟩,AA none 0 0]
def Oi (_:AH) (cs:List AK) (n:Int):Prop:=cs=ADR n/\ -9223372036854775808<=n/\n<=9223372036854775807
theorem MT:Ea Oi:=fun _ _ _ _ _ h=>h
theorem nJ {w:AH} {A:Option Aa} {n c k:Nat} {l:AP} (h:Ag 4 Oi w (AA A n c) l) (hk:k < n):
 ∃b off x,A=some ⟨b,off,none⟩/\b < w.heap.size/\l[k]? =some x/\ -9223372036854775808<=x/\x<=9223372036854775807/\w.cell? ⟨b,off+k*4,none⟩=some (AB AE 1)/\w.cell? ⟨b,off+k*4+1,none⟩=some (AB AE x)/\w.cell? ⟨b,off+k*4+2,none⟩=some (AN ⟨#[]⟩)/\w.cell? ⟨b,off+k*4+3,none⟩=some (AA none 0 0):=by
 obtain ⟨b,off,x,cs,rfl,hb,hx,_,hc,rfl,h1,h2⟩:=h.at_ hk;exact ⟨b,off,x,rfl,hb,hx,h1,h2,hc 0 _ rfl,hc 1 _ rfl,hc 2 _ rfl,hc 3 _ rfl⟩
theorem xe (n:Int) (w:AH):AS prog 131 #[AO #[AB AE 1,AB AE n,AN ⟨#[]⟩,AA none 0 0]] w fun e w'=>e=AV (AX true)/\AJ w w':=by go_enter func131,ntmps131;go_wp2;go_ret;exact mA
theorem AB6 (n:Int) (w:AH):AS prog 132 #[AO #[AB AE 1,AB AE n,AN ⟨#[]⟩,AA none 0 0]] w fun e w'=>e=AV (AB AE 0)/\AJ w w':=by go_enter func132,ntmps132;go_wp2;go_ret;exact mA
theorem ry (A:Option Aa) (n c:Nat) (l:AP) (w:AH) (h:Ag 4 Oi w (AA A n c) l):AS prog 131 #[AO #[AB AE 3,AB AE 0,AN ⟨#[]⟩,AA A n c]] w fun e w'=>e=AV (AX true)/\AJ w w':=by
 have hn:n<=9223372036854775807:=by have:=h.le;omega
 have HS:=AF h;clear h;go_enter func131,ntmps131;go_wp2_with fail;go_loopg [42] n (fun q i wr=>∃k:Nat,k<=n/\q=n - k/\i=AB AE k/\AJ w wr)
 case atStart=>exact ⟨0,Ar _,rfl,rfl,(Af _ _).alloc (Ad _) _⟩
 obtain ⟨k,hk,hq,rfl,hb⟩:=hrel;obtain ⟨HQ,HB⟩:=Aj hq hb;clear hq hb;by_cases hlt:k < n
 ·obtain ⟨b,off,x,rfl,hbl,hx,_,_,e0,e1,e2,e3⟩:=nJ (HS.o.mono MT HB.o) hlt
  have hkn:(k:Int) < (n:Int):=AG
  have hk0:=Int.natCast_nonneg k
  clear hx;go_wp2_with (go_at_call 131;refine (xe _ _).mono ?_;rintro e w2 ⟨rfl,hb2⟩);go_roundg (n - (k+1))
  case measure=>exact Bc
  exact ⟨k+1,by omega,rfl,by go_num,(HB.o.alloc HB.o.size _).trans (hb2.mono (BF HB.o.size Ac))⟩
 exact mJ
theorem xv (A:Option Aa) (n c:Nat) (l:AP) (w:AH) (h:Ag 4 Oi w (AA A n c) l):AS prog 132 #[AO #[AB AE 3,AB AE 0,AN ⟨#[]⟩,AA A n c]] w fun e w'=>e=AV (AB AE 1)/\AJ w w':=by
 have hn:n<=9223372036854775807:=by have:=h.le;omega
 have HS:=AF h;clear h;go_enter func132,ntmps132;go_wp2_with fail;go_loopg [3,12] n (fun q s i wr=>∃k:Nat,k<=n/\q=n - k/\s=AB AE 0/\i=AB AE k/\AJ w wr)
 case atStart=>exact ⟨0,Ar _,rfl,rfl,rfl,(Af _ _).alloc (Ad _) _⟩
 obtain ⟨k,hk,hq,rfl,rfl,hb⟩:=hrel;obtain ⟨HQ,HB⟩:=Aj hq hb;clear hq hb;by_cases hlt:k < n
 ·obtain ⟨b,off,x,rfl,hbl,hx,_,_,e0,e1,e2,e3⟩:=nJ (HS.o.mono MT HB.o) hlt
  have hkn:(k:Int) < (n:Int):=AG
  have hk0:=Int.natCast_nonneg k
  clear hx;go_wp2_with (go_at_call 132;refine (AB6 _ _).mono ?_;rintro e w2 ⟨rfl,hb2⟩);go_roundg (n - (k+1))
  case measure=>exact Bc
  exact ⟨k+1,by omega,rfl,rfl,by go_num,(HB.o.alloc HB.o.size _).trans (hb2.mono (BF HB.o.size Ac))⟩
 exact mJ
theorem iF (A:Option Aa) (n c:Nat) (l:AP) (w:AH) (h:Ag 4 Oi w (AA A n c) l):AS prog 87 #[AO #[AB AE 3,AB AE 0,AN ⟨#[]⟩,AA A n c]] w fun e w'=>e=AV (AB AE 0)/\AJ w w':=by
 have H1:AI (∀W,AJ w W->AS prog 131 #[AO #[AB AE 3,AB AE 0,AN ⟨#[]⟩,AA A n c]] W fun e w'=>e=AV (AX true)/\AJ W w'):=AF (fun W hW=>ry A n c l W (h.mono MT hW));have H2:AI (∀W,AJ w W->AS prog 132 #[AO #[AB AE 3,AB AE 0,AN ⟨#[]⟩,AA A n c]] W fun e w'=>e=AV (AB AE 1)/\AJ W w'):=AF (fun W hW=>xv A n c l W (h.mono MT hW));clear h;go_enter func87,ntmps87;go_upto_region 1 with fail;obtain ⟨k1,b1,s1⟩:=bx w #[AB AE 3,AB AE 0,AN ⟨#[]⟩,AA A n c] 134;generalize (w.alloc (AQ #[AB AE 3,AB AE 0,AN ⟨#[]⟩,AA A n c] 134))=w1 at k1 b1 s1 ⊢;have l1:=k1.lt;have e0:=k1.cell 0;have e1:=k1.cell 1;have e2:=k1.cell 2;have e3:=k1.cell 3;simp only [Ai,An,Aw] at e0 e1 e2 e3;obtain ⟨K1,HB⟩:=Aj k1 b1;clear k1 b1 s1;go_wp2_with (first
  | (
   go_at_call 131;refine (H1.o _ HB.o).mono ?_;rintro e w2 ⟨rfl,hb⟩;have k2:=K1.o.below hb K1.o.lt;have l2:=k2.lt;have f0:=k2.cell 0;have f1:=k2.cell 1;have f2:=k2.cell 2;have f3:=k2.cell 3;simp only [Ai,An,Aw] at f0 f1 f2 f3;have HB2:=AF (AW HB.o hb);clear hb k2)
  | (
   go_at_call 132;refine (H2.o _ HB2.o).mono ?_;rintro e w3 ⟨rfl,hb⟩;have HB3:=AF (AW HB2.o hb);clear hb))
 go_ret;exact ⟨rfl,HB3.o⟩
theorem AI9 {P:BB} {fn:Func} {a:Act} {p:Tmp} {ty:Ae} {t:Ae} {ds:TypeDesc} {cs:Array AK} {g:Nat} {w:AH} {x:Exit} {R:Ending->AH->Prop} (hx:x=.ret\/x=.normal) (h:fn.results=#[.cell p ty]) (hp:a.tmps.getD p undef=AU (some ⟨g,0,none⟩)) (hdf:a.defers=[]) (hg:AZ w g t cs) (hu:P.underlying ty=some ds) (hds:(match ds with | .struct _ | .array _ _=>true | _=>false)=true) (hi:(P.info? ty).map (·.size)=some cs.size) (hR:R (AV (.agg cs)) w):
 bodyPost P fn R x a w:=by
 have hr:(results fn a.tmps).run P w=.ok (.agg cs) w:=by
  have hp':a.tmps[p]?.getD undef=AU (some ⟨g,0,none⟩):=by simpa using hp
  simp [results,h,hp',asAddr,run_loadVar_row w g t ty cs (0,0) ds hg hu hds hi]
 exact zl
def uC (g:Nat):Array AK:=#[.nilFunc,.func (.func 133) #[] #[],.func (.func 136) #[] #[],.func (.func 137) #[] #[AU (some ⟨g,0,none⟩)]]
theorem AJU:(prog.info? 179).map (·.size)=some 4:=by kernel_rfl
theorem rC (w:AH):AS prog 88 #[] w fun e w'=>e=AV (AO (uC w.heap.size))/\AZ w' w.heap.size 179 (uC w.heap.size)/\AJ w w':=by have hmf:∀(fn:Fn) (first cap:Array AK) (w:AH),(Instr.makeFunc fn first cap).run prog w=.ok (.func fn first cap) w:=fun _ _ _ _=>rfl;go_enter func88,ntmps88;go_wp2_with fail;exact AI9 (.inl rfl) rfl rfl rfl (AZ.new w _ _) underlying179 rfl AJU ⟨rfl,AZ.new _ _ _,(Af _ _).alloc (Ad _) _⟩
theorem nC (B:Nat) (v:AK) (n:Nat) (xs:List AK) (x:Int) (w:AH) (ho:w.ownsRow B 5 1 v n xs) (hB:B<=w.heap.size) (hn:n<=90000) (h1: -9223372036854775808<=x) (h2:x<=9223372036854775807):
 AS prog 133 #[v,AO #[AB AE 1,AB AE x,AN ⟨#[]⟩,AA none 0 0]] w fun e w'=>∃v',e=AV v'/\Nv B v n xs (Xl x) w v' w':=by
 obtain ⟨i0,hi⟩:=Sf;obtain ⟨HI,HO⟩:=Aj hi ho;have HU:AI (∀W,AS prog 135 #[AB AE x] W fun e w'=>e=AV (AB .u64 (Ti x))/\W=w'):=AF (fun W=>(nK x W h1 h2).mono fun e w' h=>⟨h.1,h.2.symm⟩);obtain ⟨u,hu⟩:∃u:Nat,Ti x=u:=⟨(Ti x).toNat,by have:=tw x;omega⟩;have hu2:u < 18446744073709551616:=by have:=tw x;omega
 have hip:Xl x=[1]++Ol 10 u:=by rw [Xl,hu,CZ];rfl
 rw [hip];rw [hu] at HU;obtain ⟨A0,c0,rfl⟩:=Bz ho;clear hi ho hu hip;go_enter func133,ntmps133;go_upto_region 1 with fail;obtain ⟨k1,b1,s1⟩:=bx w #[AB AE 1,AB AE x,AN ⟨#[]⟩,AA none 0 0] 134;have Hl:=AF (HO.o.alloc (AQ #[AB AE 1,AB AE x,AN ⟨#[]⟩,AA none 0 0] 134));generalize (w.alloc (AQ #[AB AE 1,AB AE x,AN ⟨#[]⟩,AA none 0 0] 134))=w1 at k1 b1 s1 Hl ⊢;have l1:=k1.lt;obtain ⟨K1,AFP,HZ⟩:=Az k1 b1 s1;clear k1 b1 s1;have Sm:AI (some w.heap.size≠(Value.slice A0 n c0).ownBlock):=AF tL;obtain ⟨HC0,K2⟩:=Aj (K1.o.cell 1) ((K1.o.alloc (AQ #[AB Ak 1] 5)).drew);have Kl:=AF (K2.o.cell 1);have HB1:AI (B<=w1.heap.size):=AF Ua;have HYY:AI (∀v5 w5,w5.ownsRow B 5 1 v5 (n+1) (xs++[1].map (Value.int .u8))->((w1.alloc (AQ #[AB Ak 1] 5)).drew).grownBy w5 (Value.slice A0 n c0).ownBlock->(v5.ownBlock=(Value.slice A0 n c0).ownBlock\/v5.ownBlock=some ((w1.alloc (AQ #[AB Ak 1] 5)).drew).heap.size)->Nv B (AA A0 n c0) n xs [1] w v5 w5):=AF (fun v5 w5 h1 h2 h3=>⟨h1,M9 (grown_drew (Tw (Mb AFP.o _) _)) h2,h3.imp id (fun h=>⟨_,h,by show w.heap.size<=(w1.alloc _).heap.size;have:=HZ.o;simp;omega⟩)⟩);have Zn:AI (∀v5:AK,(v5.ownBlock=(Value.slice A0 n c0).ownBlock\/v5.ownBlock=some ((w1.alloc (AQ #[AB Ak 1] 5)).drew).heap.size)->some w.heap.size≠v5.ownBlock):=AF (fun v5 h e=>by
  rcases h with h | h
  · exact Sm.o (e.trans h)
  · rw [h] at e;injection e with e;have e:w.heap.size=(w1.alloc (AQ #[AB Ak 1] 5)).heap.size:=e;have:=HZ.o;simp at e;omega)
 go_region_held3 (fun W=>W.cell? ⟨w.heap.size,1,none⟩=some (AB AE x)) (first | exact HC0.o | exact Kl.o | exact vK.o | exact j7.o | fail) (first
  | (go_at_call 135;(with_reducible refine (HU.o _).mono ?_);rintro e w2 ⟨rfl,rfl⟩)
  | (
   refine Ps _ DG (AY 5) (AY 6) 92 5 DG i0 (AB Ak 0) 1 underlying92 HI.o.1 HI.o.2.1 HI.o.2.2.1 HI.o.2.2.2 rfl BE (R:=Io) NC B _ n xs DG (Hl.o.alloc (AQ #[AB Ak 1] 5)).drew (some ⟨w1.heap.size,0,none⟩) 1 1 [1] DG (GV (d:=[1]) (AZ.new w1 5 (yA [1])).drew BE) ?_ ?_ ?_ ?_
   · exact Ry
   · omega
   · exact BF HB1.o Ac
   intro v5 w5 Ng hc5 GN hg5 OS;obtain rfl:=IJ hc5;obtain ⟨vK,YL,YO,KY,K5,Wb⟩:=FR ((K2.o.grown hg5 (Sm.o)).cell 1) GN hg5 (HYY.o v5 w5 GN hg5 OS) (K2.o.grown hg5 Sm.o) (Zn.o v5 OS);clear hc5 GN hg5 OS)
  | (
   go_at_call 134
   (with_reducible refine (ZU B v5 (n+1) _ u _ YL.o ?_ ?_ hu2).mono ?_)
   · exact BF (BF HB1.o Ac) YO.o.size
   · omega
   rintro e w6 ⟨v6,rfl,NF⟩;obtain ⟨j7,qq⟩:=Aj ((K5.o.grown NF.2.1 Wb.o).cell 1) (KY.o.step NF.1 NF.2.1 NF.2.2);clear NF)
  | fail)
 go_wp2_with fail
 all_goals (go_ret;exact ⟨v6,rfl,qq.o⟩)
def MB (l:AP) (k:Nat):AP:=3::(Ol 10 l.length++((l.take k).map Xl).flatten)
theorem pk (l:AP):MB l l.length=Mf l:=by rw [MB,Pc];rfl
theorem jY {l:AP} {k:Nat} {x:Int} (h:l[k]? =some x):MB l (k+1)=MB l k++Xl x:=by rw [MB,take_snoc h,DM,Pj,MB];simp
theorem aG:∀(g u:Nat),(Ol g u).length<=g
 | 0,_=>Ad _
 |
  g+1,u=>by
  rw [Ol];split
  · simp
  have:=aG g (u / 128);exact bu
theorem ADS (x:Int):(Xl x).length<=11:=by have:=aG 10 (Ti x).toNat;simp only [Xl,Fl];omega
theorem aY (l:AP):∀k,(MB l k).length<=11+k*11
 | 0=>by have:=aG 10 l.length;simp [MB];omega
 |
  k+1=>by
  have h:=aY l k;rcases Ez k l.length with hk | hk
  ·rw [jY (BJ hk),CT]
   have:=ADS l[k];omega
  have e:MB l (k+1)=MB l k:=by rw [MB,MB,Cy AG,Cy hk]
  rw [e];omega
theorem nB (A:Option Aa) (m c g:Nat) (l:AP) (w:AH) (hl:Ag 4 Oi w (AA A m c) l) (hm:m<=1000) (ht:AZ w g 179 (uC g)):
 AS prog 137 #[AA none 0 0,AO #[AB AE 3,AB AE 0,AN ⟨#[]⟩,AA A m c],AU (some ⟨g,0,none⟩)] w (ay (Mf l) w):=by
 obtain ⟨i0,hi⟩:=Sf;obtain ⟨HI,HL,H9,HT⟩:=CJ hi hl hl.len ht;have lg:=ht.lt;clear hi hl ht;go_enter func137,ntmps137;go_upto_region 1 with fail;obtain ⟨k1,b1,s1⟩:=bx w #[AB AE 3,AB AE 0,AN ⟨#[]⟩,AA A m c] 134;generalize (w.alloc (AQ #[AB AE 3,AB AE 0,AN ⟨#[]⟩,AA A m c] 134))=w1 at k1 b1 s1 ⊢;have l1:=k1.lt;obtain ⟨K1,AFP,HZ⟩:=Az k1 b1 s1;clear k1 b1 s1;obtain ⟨qh,HC0,K2⟩:=Az (ED ((w1.alloc (AQ #[AB Ak 3] 5)).drew) w.heap.size 5 1) (K1.o.cell 3) ((K1.o.alloc (AQ #[AB Ak 3] 5)).drew);have Kl:=AF (K2.o.cell 3);have HYY:AI (∀v5 w5,w5.ownsRow w.heap.size 5 1 v5 (0+1) ([]++[3].map (Value.int .u8))->((w1.alloc (AQ #[AB Ak 3] 5)).drew).grownBy w5 (Value.slice none 0 0).ownBlock->(v5.ownBlock=(Value.slice none 0 0).ownBlock\/v5.ownBlock=some ((w1.alloc (AQ #[AB Ak 3] 5)).drew).heap.size)->Nv w.heap.size (AA none 0 0) 0 [] [3] w v5 w5):=AF (fun v5 w5 h1 h2 h3=>⟨h1,M9 (grown_drew (Tw (Mb AFP.o _) _)) h2,h3.imp id (fun h=>⟨_,h,by show w.heap.size<=(w1.alloc _).heap.size;have:=HZ.o;simp;omega⟩)⟩);have Zn:AI (∀v5:AK,(v5.ownBlock=(Value.slice none 0 0).ownBlock\/v5.ownBlock=some ((w1.alloc (AQ #[AB Ak 3] 5)).drew).heap.size)->some w.heap.size≠v5.ownBlock):=AF (fun v5 h e=>by
  rcases h with h | h
  · rw [h] at e;simp [Value.ownBlock] at e
  · rw [h] at e;injection e with e;have e:w.heap.size=(w1.alloc (AQ #[AB Ak 3] 5)).heap.size:=e;have:=HZ.o;simp at e;omega)
 have hm0:(0:Int)<=(m:Int):=AG
 have hmw:IntKind.u64.wrap (m:Int)=(m:Int):=UI _ AG
 go_region_held3 (fun W=>W.cell? ⟨w.heap.size,3,none⟩=some (AA A m c)) (first | exact HC0.o | exact Kl.o | exact vK.o | exact j7.o | fail) (first
  | (
   refine Ps _ DG (AY 8) (AY 9) 92 5 DG i0 (AB Ak 0) 1 underlying92 HI.o.1 HI.o.2.1 HI.o.2.2.1 HI.o.2.2.2 rfl BE (R:=Io) NC w.heap.size (AA none 0 0) 0 [] DG qh.o (some ⟨w1.heap.size,0,none⟩) 1 1 [3] DG (GV (d:=[3]) (AZ.new w1 5 (yA [3])).drew BE) ?_ ?_ ?_ ?_
   · exact Ry
   · omega
   · have:=HZ.o;show w.heap.size<=(w1.alloc _).heap.size;simp;omega
   intro v5 w5 Ng hc5 GN hg5 OS;obtain rfl:=IJ hc5;obtain ⟨vK,YL,YO,KY,K5,Wb⟩:=FR ((K2.o.grown hg5 NS).cell 3) GN hg5 (HYY.o v5 w5 GN hg5 OS) (K2.o.grown hg5 NS) (Zn.o v5 OS);clear hc5 GN hg5 OS)
  | (
   go_at_call 134
   (with_reducible refine (ZU w.heap.size v5 (0+1) _ m _ YL.o ?_ ?_ ?_).mono ?_)
   · have h1:=KY.o.2.1.size;exact h1
   · omega
   · omega
   rintro e w6 ⟨v6,rfl,NF⟩;have K6:=AF (K5.o.grown NF.2.1 Wb.o);obtain ⟨j7,qq⟩:=Aj (K6.o.cell 3) (KY.o.step NF.1 NF.2.1 NF.2.2);clear NF)
  | fail)
 have he:[3]++Ol 10 m=MB l 0:=by rw [MB,<-H9.o];simp
 have ho:=qq.o.1;rw [he,Ex,Ic] at ho;have FK:AI (AJ w w6):=AF ((Af _ _).grown qq.o.2.1 (Ad _) (fun r hr=>by simp [Value.ownBlock] at hr));obtain ⟨A6,c6,rfl⟩:=Bz ho;have c3:=j7.o;have l6:=K6.o.lt;have Qp:=AF ho;clear HYY Zn qq j7 qh HC0 Kl K2 ho he;have hmm:m<=9223372036854775807:=AG
 have HE:AI (∀k,(MB l k).length<=11+k*11):=AF (aY l);go_wp2_with fail;clear c3;go_loopg [0,19] m (fun q v i wr=>∃k:Nat,k<=m/\q=m - k/\i=AB AE k/\wr.ownsRow w.heap.size 5 1 v (MB l k).length ((MB l k).map (Value.int .u8))/\AJ w wr)
 case atStart=>exact ⟨0,Ar _,rfl,rfl,Qp.o,FK.o⟩
 clear Qp FK;obtain ⟨k,hk,hq,rfl,ho,hb⟩:=hrel;obtain ⟨A7,c7,rfl⟩:=Bz ho;obtain ⟨HQ,HB,HO⟩:=Az hq hb ho;clear hq hb ho;by_cases hlt:k < m
 ·obtain ⟨b,off,x,rfl,hbl,hx,hx1,hx2,e0,e1,e2,e3⟩:=nJ (HL.o.mono MT HB.o) hlt
  have hkn:(k:Int) < (m:Int):=AG
  have hk0:=Int.natCast_nonneg k
  have HX:=AF hx;clear hx;go_upto_region 5 with fail;obtain ⟨k8,b8,s8⟩:=bx wr #[AB AE 1,AB AE x,AN ⟨#[]⟩,AA none 0 0] 134;obtain ⟨HO8,HT8,Je⟩:=Az (HO.o.alloc (AQ #[AB AE 1,AB AE x,AN ⟨#[]⟩,AA none 0 0] 134)) ((HT.o.below HB.o lg).alloc (AQ #[AB AE 1,AB AE x,AN ⟨#[]⟩,AA none 0 0] 134)) (HB.o.alloc HB.o.size (AQ #[AB AE 1,AB AE x,AN ⟨#[]⟩,AA none 0 0] 134));generalize (wr.alloc (AQ #[AB AE 1,AB AE x,AN ⟨#[]⟩,AA none 0 0] 134))=w8 at k8 b8 s8 HO8 HT8 Je ⊢;have Lp:AI (∀W,AZ W wr.heap.size 134 #[AB AE 1,AB AE x,AN ⟨#[]⟩,AA none 0 0]->AZ W g 179 (uC g)->W.cell? ⟨wr.heap.size,0,none⟩=some (AB AE 1)/\W.cell? ⟨wr.heap.size,1,none⟩=some (AB AE x)/\W.cell? ⟨wr.heap.size,2,none⟩=some (AN ⟨#[]⟩)/\W.cell? ⟨wr.heap.size,3,none⟩=some (AA none 0 0)/\W.cell? ⟨g,1,none⟩=some (.func (.func 133) #[] #[])):=AF (fun W h1 h2=>⟨h1.cell 0,h1.cell 1,h1.cell 2,h1.cell 3,h2.cell 1⟩);have K8:=AF k8.drew;have HS8:=AF (Lp.o _ K8.o HT8.o.drew);have VF:AI (w8.heap.size=wr.heap.size+1):=AF s8;have lb:=k8.lt;have lg8:=HT8.o.lt;clear k8 b8 s8 e0 e1 e2 e3 HT
  go_region_held3 (fun W=>W.cell? ⟨wr.heap.size,0,none⟩=some (AB AE 1)/\W.cell? ⟨wr.heap.size,1,none⟩=some (AB AE x)/\W.cell? ⟨wr.heap.size,2,none⟩=some (AN ⟨#[]⟩)/\W.cell? ⟨wr.heap.size,3,none⟩=some (AA none 0 0)/\W.cell? ⟨g,1,none⟩=some (.func (.func 133) #[] #[])) (first | exact HS8.o | exact HS9.o | fail) (first
   | (
    go_at_call 133
    (with_reducible refine (nC w.heap.size _ (MB l k).length _ x _ HO8.o.drew ?_ ?_ hx1 hx2).mono ?_)
    · exact Je.o.size
    · have:=HE.o k;omega
    rintro e w9 ⟨v9,rfl,hg9⟩;obtain ⟨LL,HS9,HO9⟩:=Az (Je.o.drew.grown hg9.2.1 Je.o.size (fun r hr=>(HO8.o.lt r hr).1)) (Lp.o _ (K8.o.grown hg9.2.1 tL) (HT8.o.drew.grown hg9.2.1 (Da HO8.o lg))) hg9.1;clear hg9)
   | fail)
  go_wp2;go_roundg (m - (k+1))
  case measure=>exact Bc
  refine ⟨k+1,by omega,rfl,by go_num,?_,LL.o⟩;rw [jY HX.o,CT,DM];exact HO9.o
 have hkm:k=l.length:=by have:=H9.o;omega
 go_wp2;go_ret;rw [<-pk,<-hkm];exact ⟨_,rfl,HO.o,HB.o⟩
def AFk (l:AP) (w:AH) (e:Ending) (w':AH):Prop:=∃v,e=AV (BS #[v,AB AE 0])/\w'.ownsRow w.heap.size 5 1 v l.length (l.map (Value.int .u8))/\AJ w w'
theorem xr (A:Option Aa) (m c:Nat) (l:AP) (w:AH) (hl:Ag 4 Oi w (AA A m c) l) (hm:m<=1000):
 AS prog 59 #[AO #[AB AE 3,AB AE 0,AN ⟨#[]⟩,AA A m c]] w (AFk (Mf l) w):=by
 have HC:AI (∀W,AJ w W->AS prog 87 #[AO #[AB AE 3,AB AE 0,AN ⟨#[]⟩,AA A m c]] W fun e w'=>e=AV (AB AE 0)/\AJ W w'):=AF (fun W hW=>iF A m c l W (hl.mono MT hW));have H3:AI (∀g W,AJ w W->AZ W g 179 (uC g)->AS prog 137 #[AA none 0 0,AO #[AB AE 3,AB AE 0,AN ⟨#[]⟩,AA A m c],AU (some ⟨g,0,none⟩)] W (ay (Mf l) W)):=AF (fun g W hW ht=>nB A m c g l W (hl.mono MT hW) hm ht);obtain ⟨Z,hZ⟩:=Ab (Mf l);rw [<-hZ] at H3 ⊢;clear hl hZ;go_enter func59,ntmps59;go_upto_region 1 with fail;obtain ⟨k1,b1,s1⟩:=bx w #[AB AE 3,AB AE 0,AN ⟨#[]⟩,AA A m c] 134;generalize (w.alloc (AQ #[AB AE 3,AB AE 0,AN ⟨#[]⟩,AA A m c] 134))=w1 at k1 b1 s1 ⊢;have l1:=k1.lt;have e0:=k1.cell 0;have e1:=k1.cell 1;have e2:=k1.cell 2;have e3:=k1.cell 3;simp only [Ai,An,Aw] at e0 e1 e2 e3;obtain ⟨K1,HB1⟩:=Aj k1 b1;clear k1 b1 s1;go_upto_region 5 with (first
  | (
   go_at_call 87;refine (HC.o _ HB1.o).mono ?_;rintro e w2 ⟨rfl,hb⟩;obtain ⟨K2,HB2⟩:=Aj (K1.o.below hb K1.o.lt) (AW HB1.o hb);clear hb)
  | (
   go_at_call 88;refine (rC _).mono ?_;rintro e w3 ⟨rfl,ht,hb⟩;obtain ⟨K3,HT3,HB3⟩:=Az (K2.o.below hb K2.o.lt) ht (AW HB2.o hb);clear hb ht;unfold uC))
 have kt:=AZ.new w3 179 #[.nilFunc,.func (.func 133) #[] #[],.func (.func 136) #[] #[],.func (.func 137) #[] #[AU (some ⟨w2.heap.size,0,none⟩)]];have Lp:AI (∀W,BK (w3.heap.size+1) (w3.alloc (AQ #[.nilFunc,.func (.func 133) #[] #[],.func (.func 136) #[] #[],.func (.func 137) #[] #[AU (some ⟨w2.heap.size,0,none⟩)]] 179)) W->W.cell? ⟨w.heap.size,0,none⟩=some (AB AE 3)/\W.cell? ⟨w.heap.size,1,none⟩=some (AB AE 0)/\W.cell? ⟨w.heap.size,2,none⟩=some (AN ⟨#[]⟩)/\W.cell? ⟨w.heap.size,3,none⟩=some (AA A m c)/\W.cell? ⟨w3.heap.size,3,none⟩=some (.func (.func 137) #[] #[AU (some ⟨w2.heap.size,0,none⟩)])):=AF (fun W hW=>by have a:=(K3.o.alloc (AQ #[.nilFunc,.func (.func 133) #[] #[],.func (.func 136) #[] #[],.func (.func 137) #[] #[AU (some ⟨w2.heap.size,0,none⟩)]] 179)).below hW (Nat.lt_succ_of_lt K3.o.lt);have b:=kt.below hW (Ie _);exact ⟨a.cell 0,a.cell 1,a.cell 2,a.cell 3,b.cell 3⟩)
 obtain ⟨HT4,HB4⟩:=Aj ((HT3.o.alloc (AQ #[.nilFunc,.func (.func 133) #[] #[],.func (.func 136) #[] #[],.func (.func 137) #[] #[AU (some ⟨w2.heap.size,0,none⟩)]] 179)).drew) ((HB3.o.alloc HB3.o.size (AQ #[.nilFunc,.func (.func 133) #[] #[],.func (.func 136) #[] #[],.func (.func 137) #[] #[AU (some ⟨w2.heap.size,0,none⟩)]] 179)).drew);have hk1:=K3.o.lt;have hk2:=kt.lt;have jm:=AF (Lp.o _ (Af _ _).drew);have HZ4:AI ((w3.alloc (AQ #[.nilFunc,.func (.func 133) #[] #[],.func (.func 136) #[] #[],.func (.func 137) #[] #[AU (some ⟨w2.heap.size,0,none⟩)]] 179)).heap.size=w3.heap.size+1):=AF Ac;clear kt;generalize (w3.alloc (AQ #[.nilFunc,.func (.func 133) #[] #[],.func (.func 136) #[] #[],.func (.func 137) #[] #[AU (some ⟨w2.heap.size,0,none⟩)]] 179))=w4 at *
 go_region_held3 (fun W=>W.cell? ⟨w.heap.size,0,none⟩=some (AB AE 3)/\W.cell? ⟨w.heap.size,1,none⟩=some (AB AE 0)/\W.cell? ⟨w.heap.size,2,none⟩=some (AN ⟨#[]⟩)/\W.cell? ⟨w.heap.size,3,none⟩=some (AA A m c)/\W.cell? ⟨w3.heap.size,3,none⟩=some (.func (.func 137) #[] #[AU (some ⟨w2.heap.size,0,none⟩)])) (first | exact jm.o | exact VC.o | fail) (first
  | (
   go_at_call 137
   (with_reducible refine (H3.o w2.heap.size _ HB4.o HT4.o).mono ?_)
   rintro e w5 ⟨v5,rfl,GN,hb5⟩;obtain ⟨VC,CW,YL⟩:=Az (Lp.o _ ((Af _ _).drew.trans (hb5.mono (by show _<=w4.heap.size;rw [HZ4.o];exact Ad _)))) (AW HB4.o hb5) (Ny GN HB4.o.size);clear GN hb5)
  | fail)
 go_wp2;go_ret2;exact ⟨v5,rfl,YL.o,CW.o⟩
theorem jX (xs ys:AP) (w:AH):∀is:List Nat,(∀i∈is,i < xs.length/\i < ys.length)->(Op.eqItems 9999 5 1 (yA xs) (yA ys) is).run prog w=.ok (is.all fun i=>xs[i]? ==ys[i]?) w
 | [],_=>by simp [Op.eqItems]
 |
  i::is,h=>by
  obtain ⟨h1,h2⟩:=h i Ac;have e1:(yA xs)[i*1]? =some (AB Ak xs[i]):=by rw [F9,yA,Ai,Be,BJ h1];rfl
  have e2:(yA ys)[i*1]? =some (AB Ak ys[i]):=by rw [F9,yA,Ai,Be,BJ h2];rfl
  have hp:prog.plainKey 5=true:=AL
  simp only [Op.eqItems,Cs,Cn w hp e1,Cn w hp e2,Result.andThen_ok,Lw w 9998 5 .u8 .u8 _ _ underlying5];rw [Pa,BJ h1,BJ h2];have hih:=jX xs ys w is (fun j hj=>h j (by simp [hj]));cases hc:(xs[i]==ys[i])
  · simp [hc]
  · simp [hc,hih]
theorem QN {xs ys:AP} (hx:xs.length=32) (hy:ys.length=32) (w:AH):(Op.equalIn 10000 34 (AO (yA xs)) (AO (yA ys))).run prog w=.ok (decide (xs=ys)) w:=by
 obtain ⟨i,hi⟩:=eR.1 (show (prog.info? 5).isSome=true by kernel_rfl);have hc:prog.cellsOf 5=1:=AL
 have h:=run_equalIn_array w 9999 (yA xs) (yA ys) underlying34 hi;rw [hc,jX xs ys w _ (fun j hj=>by have:=Ef.1 hj;omega)] at h;refine Fg h ?_;have e:((List.range 32).all fun i=>xs[i]? ==ys[i]?)=decide (xs=ys):=by
  rw [Bool.eq_iff_iff,Dr,Bw];constructor
  ·intro h
   apply Ms;intro j;rcases Ez j 32 with hj | hj
   · simpa using h j (Ef.2 hj)
   · rw [DY AG,DY AG]
  rintro rfl j _;simp
 rw [e]
theorem V9 {P:BB} {w:AH} {ops:Array Oper} {rest:List Oper} {o:Oper} {a:Act} {Q:Exit->Act->AH->Prop} (hw:Region.wanted o (yielded ops a.tmps)=true) (ty:Ae) (x:Operand) (ho:o.op=.load ty x)
 (g:Nat) (d:AP) (hx:a.eval x=AU (some ⟨g,0,none⟩)) (t:Ae) (ds:TypeDesc) (hg:AZ w g t (yA d)) (hu:P.underlying ty=some ds) (hds:(match ds with | .struct _ | .array _ _=>true | _=>false)=true) (hi:(P.info? ty).map (·.size)=some 32) (hd:d.length=32)
 (h:wpList P ops Q rest (a.put o.dst (AO (yA d))) w):wpList P ops Q (o::rest) a w:=
 US hw fun K hK=>by unfold Oper.wp execOp;exact AAo
theorem Mg:prog.eqGuardType prog.depth 34=false:=by kernel_rfl
theorem oe:(prog.info? 34).bind (·.zero)=some (AO (yA (zeros 32))):=by kernel_rfl
theorem dF {C:Nat->Bool} {k:Nat} (h:∀j,j < k->C j=true) (hc:C k=true):∀j,j < k+1->C j=true:=fun j hj=>by
 rcases Ez j k with h1 | h1
 · exact h j h1
 obtain rfl:j=k:=AG
 exact hc
def vC (root:AP) (many:Int) (m:AP) (q:Cd):Nat->Bool
 | 0=>decide (1<=many) && decide (many<=256)
 | 1=>decide (0<=q.index) && decide (q.index < many)
 | 2=>decide (q.chains.length=19)
 | _=>decide (Ia Aq (Hg Aq m q.chains) q.index.toNat many.toNat q.path=some root)
theorem vY (root:AP) (many:Int) (m:AP) (q:Cd):C7 Aq root many m q=(vC root many m q 0 && vC root many m q 1 && vC root many m q 2 && vC root many m q 3):=by simp only [C7,vC,Bool.and_assoc]
theorem AFs (bm:Nat) (many:Int) (root m:AP) (q:Cd) (w:AH) (hm:AZ w bm 3 #[AB AE many]):AS prog 79 #[AU (some ⟨bm,0,none⟩)] w fun e w'=>e=AV (AX (vC root many m q 0))/\w'=w:=by
 have c0:=hm.cell 0;have l0:=hm.lt;simp only [Ai,An] at c0;clear hm;go_enter func79,ntmps79;by_cases h1:1<=many
 ·go_wp2
  go_ret;exact ⟨by simp [vC,h1],rfl⟩
 go_wp2;go_ret;exact ⟨by simp [vC];omega,rfl⟩
theorem AFr (bl bm:Nat) (many:Int) (root m:AP) (q:Cd) (v1 v2:AK) (w:AH) (hl:AZ w bl 62 #[AB AE q.index,v1,v2]) (hm:AZ w bm 3 #[AB AE many]):AS prog 80 #[AU (some ⟨bl,0,none⟩),AU (some ⟨bm,0,none⟩)] w fun e w'=>e=AV (AX (vC root many m q 1))/\w'=w:=by
 have c0:=hm.cell 0;have l0:=hm.lt;have d0:=hl.cell 0;have l1:=hl.lt;simp only [Ai,An] at c0 d0;clear hm hl;go_enter func80,ntmps80;by_cases h1:0<=q.index
 ·go_wp2
  go_ret;exact ⟨by simp [vC,h1],rfl⟩
 go_wp2;go_ret;exact ⟨by simp [vC];omega,rfl⟩
theorem AFq (bg bl bp:Nat) (many:Int) (root m:AP) (q:Cd) (v1 v2:AK) (w:AH) (hg:AZ w bg 34 (yA m)) (hl:AZ w bl 62 #[AB AE q.index,v1,v2]) (hp:AZ w bp 34 (yA (zeros 32))) (hm:m.length=32) (hr:∀x∈m,0<=x/\x < 256) (hT:Cc w) (hs:Ag 32 CQ w v1 q.chains):
 AS prog 81 #[AU (some ⟨bg,0,none⟩),AU (some ⟨bl,0,none⟩),AU (some ⟨bp,0,none⟩)] w fun e w'=>e=AV (AX (vC root many m q 2))/\AZ w' bp 34 (yA (if q.chains.length=19 then Hg Aq m q.chains else zeros 32))/\w.grownBy w' (some bp):=by
 obtain ⟨A,c,rfl⟩:=hs.form;obtain ⟨HM,CV,HZ⟩:=Az hm Du oe;have d0:=hl.cell 1;have l1:=hl.lt;simp only [Ai,An,Aw] at d0;have HC:=AF (rQ m A q.chains.length c q.chains w hm hr hT hs);obtain ⟨R,hR⟩:∃R,R=if q.chains.length=19 then Hg Aq m q.chains else zeros 32:=⟨_,rfl⟩
 obtain ⟨E,hE⟩:∃E:Int,E=if q.chains.length=19 then 0 else 50:=⟨_,rfl⟩
 have hv:vC root many m q 2=decide (E=0):=by rw [vC,hE];by_cases h:q.chains.length=19 <;> simp [h]
 have hRL:R.length=32:=by
  rw [hR];split
  · rw [Hg,JB];exact C3 _ _
  · simp [zeros]
 rw [<-hR,<-hE] at HC;rw [<-hR,hv];obtain ⟨TW,KG,KP⟩:=Az hRL hg hp;clear hm hr hT hs hg hl hp hR hE hv hRL;go_enter func81,ntmps81;go_wp2_with (first
  | (refine Ca rfl 34 (AY 0) rfl bg m rfl 34 _ KG.o underlying34 rfl CV.o HM.o ?_)
  | (
   go_at_call 82;refine HC.o.mono ?_;rintro e w2 ⟨rfl,hb⟩;obtain ⟨HB,KP2,KN⟩:=Az hb ((KP.o.below hb KP.o.lt).alloc (AQ (yA (zeros 32)) 34)) (AZ.new w2 34 (yA (zeros 32)));clear hb)
  | (refine Di rfl 34 rfl _ HZ.o ?_)
  | (
   refine Dh rfl 34 (AY 4) (AY 11) rfl w2.heap.size R rfl rfl 34 (yA (zeros 32)) KN.o CV.o EO TW.o ?_;intro w3 k3 hb3 hg3;have K3:=AF k3;have HB3:AI (AJ w w3):=AF ((HB.o.alloc HB.o.size _).trans (hb3.mono HB.o.size));have KP3:=AF (KP2.o.grown hg3 (by intro e;injection e with e;have:=KP.o.lt;have:=HB.o.size;omega));clear k3 hb3 hg3)
  | (refine Ca rfl 34 (AY 4) rfl w2.heap.size R rfl 34 _ K3.o underlying34 rfl CV.o TW.o ?_)
  | (
   refine Dh rfl 34 (AY 2) (AY 13) rfl bp R rfl rfl 34 (yA (zeros 32)) KP3.o CV.o EO TW.o ?_;intro w4 k4 hb4 hg4))
 go_ret;exact ⟨rfl,k4,M9 (Mb HB3.o _) hg4⟩
theorem AFp (bp bl bm br:Nat) (many:Int) (root m K:AP) (q:Cd) (v1 v2:AK) (w:AH) (hp:AZ w bp 34 (yA K)) (hl:AZ w bl 62 #[AB AE q.index,v1,v2]) (hm:AZ w bm 3 #[AB AE many]) (hr:AZ w br 34 (yA root)) (hK:K.length=32) (hrl:root.length=32) (hT:Cc w) (hs:Ag 32 CQ w v2 q.path)
 (hk:K=Hg Aq m q.chains) (h0:0<=q.index) (h1:q.index < many) (h2:many<=256):
 AS prog 83 #[AU (some ⟨bp,0,none⟩),AU (some ⟨bl,0,none⟩),AU (some ⟨bm,0,none⟩),AU (some ⟨br,0,none⟩)] w fun e w'=>e=AV (AX (vC root many m q 3))/\AJ w w':=by
 obtain ⟨A,c,rfl⟩:=hs.form;obtain ⟨Nn,eE,CV,HZ⟩:=CJ hK hrl Du oe;have d0:=hl.cell 0;have d2:=hl.cell 2;have l1:=hl.lt;have c0:=hm.cell 0;have l2:=hm.lt;simp only [Ai,An,Aw] at d0 d2 c0;obtain ⟨i,hi⟩:∃i:Nat,q.index=i:=⟨q.index.toNat,by omega⟩;obtain ⟨n,rfl⟩:∃n:Nat,many=n:=⟨many.toNat,by omega⟩;rw [hi] at d0 h1;have HC:=AF (AB8 K i n A q.path.length c q.path w hK AG AG hT hs);obtain ⟨C,hC⟩:=Ab (Ia Aq K i n q.path);obtain ⟨R,hR⟩:=Ab (C.getD (zeros 32));obtain ⟨E,hE⟩:=Ab (if C.isSome then 0 else 1:Int)
 have hRL:R.length=32:=by
  rw [hR,hC,Ia];split
  · exact AAw (C3 _ _) _
  · simp [zeros]
 have hv:vC root n m q 3=(decide (E=0) && decide (R=root)):=by show decide (Ia Aq (Hg Aq m q.chains) q.index.toNat ((n:Int)).toNat q.path=some root)=_;rw [<-hk,hi,CZ,CZ,<-hC,hE,hR];cases C <;> simp
 rw [<-hC,<-hR,<-hE] at HC;rw [hv];obtain ⟨TW,KP,KR⟩:=Az hRL hp hr;have hde:=fun W=>QN hRL hrl W;have hgd:=Mg;clear hK hrl hT hs hl hm hp hr hR hE hv hRL hC hk;go_enter func83,ntmps83;by_cases hE0:E=0
 all_goals
  go_wp2_with (first
   | (refine Ca rfl 34 (AY 0) rfl bp K rfl 34 _ KP.o underlying34 rfl CV.o Nn.o ?_)
   | (
    go_at_call 84;refine HC.o.mono ?_;rintro e w2 ⟨rfl,hb⟩;obtain ⟨HB,NG,KN⟩:=Az hb ((KR.o.below hb KR.o.lt).alloc (AQ (yA (zeros 32)) 34)) (AZ.new w2 34 (yA (zeros 32)));clear hb)
   | (refine Di rfl 34 rfl _ HZ.o ?_)
   | (
    refine Dh rfl 34 (AY 5) (AY 15) rfl w2.heap.size R rfl rfl 34 (yA (zeros 32)) KN.o CV.o EO TW.o ?_;intro w3 k3 hb3 hg3;have K3:=AF k3;have HB3:AI (AJ w w3):=AF ((HB.o.alloc HB.o.size _).trans (hb3.mono HB.o.size));have Q7:=AF (NG.o.grown hg3 (by intro e;injection e with e;have:=KR.o.lt;have:=HB.o.size;omega));clear k3 hb3 hg3)
   | (refine V9 rfl 34 (AY 5) rfl w2.heap.size R rfl 34 _ K3.o underlying34 rfl CV.o TW.o ?_)
   | (refine V9 rfl 34 (AY 3) rfl br root rfl 34 _ Q7.o underlying34 rfl CV.o eE.o ?_))
  go_ret;exact ⟨by simp [hE0],HB3.o⟩
theorem Uv (root m:AP) (many:Int) (q:Cd) (v1 v2:AK) (w:AH) (hrl:root.length=32) (hm:m.length=32) (hr:∀x∈m,0<=x/\x < 256) (hT:Cc w) (hs1:Ag 32 CQ w v1 q.chains) (hs2:Ag 32 CQ w v2 q.path):
 AS prog 57 #[AO (yA root),AB AE many,AO (yA m),AO #[AB AE q.index,v1,v2]] w fun e w'=>e=AV (AB AE (if C7 Aq root many m q=true then 0 else 60))/\AJ w w':=by
 obtain ⟨A1,c1,rfl⟩:=hs1.form;obtain ⟨A2,c2,rfl⟩:=hs2.form;have HZ:=AF oe;have hmf:∀(fn:Fn) (first cap:Array AK) (w:AH),(Instr.makeFunc fn first cap).run prog w=.ok (.func fn first cap) w:=fun _ _ _ _=>rfl;obtain ⟨C,hC⟩:∃C:Nat->Bool,C=vC root many m q:=⟨_,rfl⟩;have hv:C7 Aq root many m q=(C 0 && C 1 && C 2 && C 3):=by rw [hC];exact vY root many m q
 obtain ⟨K,hK⟩:∃K,K=if q.chains.length=19 then Hg Aq m q.chains else zeros 32:=⟨_,rfl⟩
 have H1:AI (∀W bm,AZ W bm 3 #[AB AE many]->AS prog 79 #[AU (some ⟨bm,0,none⟩)] W fun e w'=>e=AV (AX (C 0))/\w'=W):=AF (fun W bm h=>by rw [hC];exact AFs bm many root m q W h);have H2:AI (∀W bl bm,AZ W bl 62 #[AB AE q.index,AA A1 q.chains.length c1,AA A2 q.path.length c2]->AZ W bm 3 #[AB AE many]->AS prog 80 #[AU (some ⟨bl,0,none⟩),AU (some ⟨bm,0,none⟩)] W fun e w'=>e=AV (AX (C 1))/\w'=W):=AF (fun W bl bm h k=>by rw [hC];exact AFr bl bm many root m q _ _ W h k);have H3:AI (∀W bg bl bp,AJ w W->AZ W bg 34 (yA m)->AZ W bl 62 #[AB AE q.index,AA A1 q.chains.length c1,AA A2 q.path.length c2]->AZ W bp 34 (yA (zeros 32))->AS prog 81 #[AU (some ⟨bg,0,none⟩),AU (some ⟨bl,0,none⟩),AU (some ⟨bp,0,none⟩)] W fun e w'=>e=AV (AX (C 2))/\AZ w' bp 34 (yA K)/\W.grownBy w' (some bp)):=AF (fun W bg bl bp hW h1 h2 h3=>by rw [hC,hK];exact AFq bg bl bp many root m q _ _ W h1 h2 h3 hm hr (hT.below hW) (hs1.mono BL hW));have H4:AI (∀W bp bl bm br,AJ w W->C 0=true->C 1=true->C 2=true->AZ W bp 34 (yA K)->AZ W bl 62 #[AB AE q.index,AA A1 q.chains.length c1,AA A2 q.path.length c2]->AZ W bm 3 #[AB AE many]->AZ W br 34 (yA root)->AS prog 83 #[AU (some ⟨bp,0,none⟩),AU (some ⟨bl,0,none⟩),AU (some ⟨bm,0,none⟩),AU (some ⟨br,0,none⟩)] W fun e w'=>e=AV (AX (C 3))/\AJ W w'):=AF (fun W bp bl bm br hW e0 e1 e2 h1 h2 h3 h4=>by
  rw [hC] at e0 e1 e2 ⊢;simp only [vC,BZ,Bw] at e0 e1 e2;have hK':K=Hg Aq m q.chains:=by rw [hK,Am e2]
  exact AFp bp bl bm br many root m K q _ _ W h1 h2 h3 h4 (by rw [hK',Hg,JB];exact C3 _ _) hrl (hT.below hW) (hs2.mono BL hW) hK' e1.1 e1.2 e0.2)
 rw [hv];obtain ⟨E,hE⟩:∃E:Int,E=if (C 0 && C 1 && C 2 && C 3)=true then 0 else 60:=⟨_,rfl⟩
 rw [<-hE];have HE:=AF hE;clear hC hK hv hrl hm hr hT hs1 hs2 hE;go_enter func57,ntmps57;go_upto_region 1 with fail;obtain ⟨k1,b1,s1⟩:=bx w (yA root) 34;generalize (w.alloc (AQ (yA root) 34))=w1 at k1 b1 s1 ⊢;obtain ⟨k2,b2,s2⟩:=bx w1 #[AB AE many] 3;generalize (w1.alloc (AQ #[AB AE many] 3))=w2 at k2 b2 s2 ⊢;obtain ⟨k3,b3,s3⟩:=bx w2 (yA m) 34;generalize (w2.alloc (AQ (yA m) 34))=w3 at k3 b3 s3 ⊢;obtain ⟨k4,b4,s4⟩:=bx w3 #[AB AE q.index,AA A1 q.chains.length c1,AA A2 q.path.length c2] 62;generalize (w3.alloc (AQ #[AB AE q.index,AA A1 q.chains.length c1,AA A2 q.path.length c2] 62))=w4 at k4 b4 s4 ⊢;obtain ⟨k5,b5,s5⟩:=bx w4 (yA (zeros 32)) 34;rw [s1] at k2 b2 s2;rw [s2] at k3 b3 s3;rw [s3] at k4 b4 s4;rw [s4] at k5 b5 s5;have b25:=(b3.trans (b4.mono (Ed _))).trans (b5.mono AG);obtain ⟨K1,K2,K3,K4,K5,HB,VC⟩:=LW ((k1.below b2 AG).below b25 AG) (k2.below b25 AG) ((k3.below b4 AG).below b5 AG) (k4.below b5 AG) k5 ((b1.trans (b2.mono AG)).trans (b25.mono AG)) s5;clear k1 k2 k3 k4 k5 b1 b2 b3 b4 b5 b25 s1 s2 s3 s5;go_upto_region 2 with (refine Di rfl 34 rfl _ HZ.o ?_);generalize (w4.alloc (AQ (yA (zeros 32)) 34))=w5 at *;go_wp2_with fail;clear s4;have KF:=AF (AZ.new w5 45 #[.func (.func 79) #[] #[AU (some ⟨w.heap.size+1,0,none⟩)],.func (.func 80) #[] #[AU (some ⟨w.heap.size+1+1+1,0,none⟩),AU (some ⟨w.heap.size+1,0,none⟩)],.func (.func 81) #[] #[AU (some ⟨w.heap.size+1+1,0,none⟩),AU (some ⟨w.heap.size+1+1+1,0,none⟩),AU (some ⟨w.heap.size+1+1+1+1,0,none⟩)],.func (.func 83) #[] #[AU (some ⟨w.heap.size+1+1+1+1,0,none⟩),AU (some ⟨w.heap.size+1+1+1,0,none⟩),AU (some ⟨w.heap.size+1,0,none⟩),AU (some ⟨w.heap.size,0,none⟩)]]);have jl:AI (w5.heap.size=w.heap.size+1+1+1+1+1):=AF (by have:=VC.o;omega);go_loopg [20] 4 (fun g i wr=>∃k:Nat,k<=4/\g=4 - k/\i=AB AE k/\(∀j,j < k->C j=true)/\AZ wr w.heap.size 34 (yA root)/\AZ wr (w.heap.size+1) 3 #[AB AE many]/\AZ wr (w.heap.size+1+1) 34 (yA m)/\AZ wr (w.heap.size+1+1+1) 62 #[AB AE q.index,AA A1 q.chains.length c1,AA A2 q.path.length c2]/\AZ wr (w.heap.size+1+1+1+1) 34 (yA (if k<=2 then zeros 32 else K))/\AZ wr w5.heap.size 45 #[.func (.func 79) #[] #[AU (some ⟨w.heap.size+1,0,none⟩)],.func (.func 80) #[] #[AU (some ⟨w.heap.size+1+1+1,0,none⟩),AU (some ⟨w.heap.size+1,0,none⟩)],.func (.func 81) #[] #[AU (some ⟨w.heap.size+1+1,0,none⟩),AU (some ⟨w.heap.size+1+1+1,0,none⟩),AU (some ⟨w.heap.size+1+1+1+1,0,none⟩)],.func (.func 83) #[] #[AU (some ⟨w.heap.size+1+1+1+1,0,none⟩),AU (some ⟨w.heap.size+1+1+1,0,none⟩),AU (some ⟨w.heap.size+1,0,none⟩),AU (some ⟨w.heap.size,0,none⟩)]]/\AJ w wr)
 case atStart=>exact ⟨0,Ar _,rfl,rfl,fun j hj=>absurd hj (Yb _),K1.o.alloc _,K2.o.alloc _,K3.o.alloc _,K4.o.alloc _,K5.o.alloc _,KF.o,HB.o.alloc HB.o.size _⟩
 clear K1 K2 K3 K4 K5 KF HB;obtain ⟨k,hk,hg,rfl,hC,h1,h2,h3,h4,h5,h6,h7⟩:=hrel;obtain ⟨HG,ES,K1,K2,K3,K4,K5,KF,HB⟩:=Po hg hC h1 h2 h3 h4 h5 h6 h7;have lf:=h6.lt;have cf:=h6.cell k;clear hg hC h1 h2 h3 h4 h5 h6 h7 hmf;have hk5:k=0\/k=1\/k=2\/k=3\/k=4:=AG
 rcases hk5 with rfl | rfl | rfl | rfl | rfl
 ·simp only [Ai,An] at cf
  cases hc:C 0
  ·go_wp2_with (go_at_call 79;refine (H1.o _ _ K2.o).mono ?_;rintro e w6 ⟨rfl,rfl⟩)
   exact AAh
  go_wp2_with (go_at_call 79;refine (H1.o _ _ K2.o).mono ?_;rintro e w6 ⟨rfl,rfl⟩);go_roundg (4 - (0+1))
  case measure=>exact Ec
  case rel=>exact ⟨1,by omega,rfl,rfl,dF ES.o hc,K1.o,K2.o,K3.o,K4.o,K5.o,KF.o,HB.o⟩
 ·simp only [Ai,An,Aw] at cf
  cases hc:C 1
  ·go_wp2_with (go_at_call 80;refine (H2.o _ _ _ K4.o K2.o).mono ?_;rintro e w6 ⟨rfl,rfl⟩)
   exact AAh
  go_wp2_with (go_at_call 80;refine (H2.o _ _ _ K4.o K2.o).mono ?_;rintro e w6 ⟨rfl,rfl⟩);go_roundg (4 - (1+1))
  case measure=>exact Ec
  case rel=>exact ⟨2,by omega,rfl,rfl,dF ES.o hc,K1.o,K2.o,K3.o,K4.o,K5.o,KF.o,HB.o⟩
 ·simp only [Ai,An,Aw] at cf
  cases hc:C 2
  ·go_wp2_with (go_at_call 81;refine (H3.o _ _ _ _ HB.o K3.o K4.o K5.o).mono ?_;rintro e w6 ⟨rfl,kp6,NF⟩)
   go_ret;exact ⟨C8 (by rw [HE.o];simp [hc]),(HB.o.grown NF HB.o.size (fun r hr=>by injection hr with hr;omega))⟩
  go_wp2_with (go_at_call 81;refine (H3.o _ _ _ _ HB.o K3.o K4.o K5.o).mono ?_;rintro e w6 ⟨rfl,kp6,NF⟩);go_roundg (4 - (2+1))
  case measure=>exact Ec
  case rel=>exact ⟨3,by omega,rfl,rfl,dF ES.o hc,K1.o.grown NF FD,K2.o.grown NF FD,K3.o.grown NF FD,K4.o.grown NF FD,kp6,KF.o.grown NF (by intro e;injection e with e;have:=jl.o;omega),HB.o.grown NF HB.o.size (fun r hr=>by injection hr with hr;omega)⟩
 ·simp only [Ai,An,Aw] at cf
  cases hc:C 3
  ·go_wp2_with (go_at_call 83;refine (H4.o _ _ _ _ _ HB.o (ES.o 0 BE) (ES.o 1 BE) (ES.o 2 BE) K5.o K4.o K2.o K1.o).mono ?_;rintro e w6 ⟨rfl,hb6⟩)
   go_ret;exact ⟨C8 (by rw [HE.o];simp [hc]),(AW HB.o hb6)⟩
  go_wp2_with (go_at_call 83;refine (H4.o _ _ _ _ _ HB.o (ES.o 0 BE) (ES.o 1 BE) (ES.o 2 BE) K5.o K4.o K2.o K1.o).mono ?_;rintro e w6 ⟨rfl,hb6⟩);go_roundg (4 - (3+1))
  case measure=>exact Ec
  case rel=>exact ⟨4,by omega,rfl,rfl,dF ES.o hc,K1.o.below hb6 K1.o.lt,K2.o.below hb6 K2.o.lt,K3.o.below hb6 K3.o.lt,K4.o.below hb6 K4.o.lt,K5.o.below hb6 K5.o.lt,KF.o.below hb6 KF.o.lt,(AW HB.o hb6)⟩
 go_wp2;go_ret;exact ⟨C8 (by rw [HE.o];simp [ES.o 0 BE,ES.o 1 BE,ES.o 2 BE,ES.o 3 BE]),HB.o⟩
theorem AFt:∃(j:TypeInfo) (z:AK),prog.info? 134=some j/\j.zero=some z/\z.cells.size=4/\j.size=4/\j.bytes=56:=by obtain ⟨j,hj,hz⟩:=Ds.1 (show (prog.info? 134).map (fun i=>(i.zero.map (·.cells.size),i.size,i.bytes))=some (some 4,4,56) by kernel_rfl);simp only [GD] at hz;obtain ⟨z,hz0,hz1⟩:=Ds.1 hz.1;exact ⟨j,z,hj,hz0,hz1,hz.2⟩
theorem ACU:One Oi:=by rintro w cs x ⟨rfl,_⟩ u hu;simp only [ADR,CO,D7,D5] at hu;rcases hu with rfl | rfl | rfl | rfl <;> rfl
theorem t9 {w w':AH} {cs:List AK} {l:AP} (h:Ao 4 Oi w cs l):Ao 4 Oi w' cs l:=⟨h.1,fun i x hi=>h.2 i x hi⟩
theorem AGI (W:AH) (x:Int) (h1: -9223372036854775808<=x) (h2:x<=9223372036854775807):Ag 4 Oi (W.alloc (AQ #[AB AE 1,AB AE x,AN ⟨#[]⟩,AA none 0 0] 134)) (AA (some ⟨W.heap.size,0,none⟩) 1 1) [x]:=by
 refine ⟨_,1,rfl,Ad _,by decide,fun i y hi=> ?_⟩;have hi0:i=0:=by have:=(BA.1 hi).1;simp at this;exact this
 subst hi0;simp only [An,Bq] at hi;subst hi;refine ⟨W.heap.size,0,ADR x,rfl,by simp,rfl,fun j u hu=> ?_,rfl,h1,h2⟩;rw [show 0+(0*4+j)=j by omega,(AZ.new W 134 _).cell j,Ai];exact hu
theorem jc (A:Option Aa) (n c:Nat) (ds:List (AP)) (N:Option Aa) (m d:Nat) (ns:AP) (w:AH) (hd:Ag 32 CQ w (AA A n c) ds) (hn:Ag 1 CF w (AA N m d) ns) (hn1:n<=100) (hm1:m<=100):
 AS prog 36 #[AA A n c,AA N m d] w (ay (ds.flatten++Mf ns) w):=by
 obtain ⟨i0,hi⟩:=Sf;have HI:=AF hi;obtain ⟨j0,z0,hj⟩:=AFt;obtain ⟨HJ,HS,HN,PK,H9,CV,HZ⟩:=LW hj hd hn hd.len hn.len Du oe;obtain ⟨F,hF⟩:∃F:Nat->AP,F=fun k=>(ds.take k).flatten:=⟨_,rfl⟩;have PO:AI (∀k x,ds[k]? =some x->F (k+1)=F k++x):=AF (fun k x hx=>by rw [hF];simp only [take_snoc hx,Pj];simp);have HF0:AI (F 0=[]):=AF (by rw [hF];simp);have Lt:AI (F n=ds.flatten):=AF (by rw [hF];simp only [hd.len,Pc]);rw [<-Lt.o];clear hi hj hd hn hF;go_enter func36,ntmps36;go_wp2_with fail;go_loopg [5,15] n (fun q v i wr=>∃k:Nat,k<=n/\q=n - k/\i=AB AE k/\wr.ownsRow w.heap.size 5 1 v (k*32) ((F k).map (Value.int .u8))/\AJ w wr)
 case atStart=>exact ⟨0,Ar _,rfl,rfl,by rw [HF0.o];exact ED _ _ _ _,Af _ _⟩
 obtain ⟨k,hk,hq,rfl,ho,hb⟩:=hrel;obtain ⟨HQ,HB,HO⟩:=Az hq hb ho;obtain ⟨rA,rc,rfl⟩:=Bz ho;clear hq hb ho;by_cases hlt:k < n
 ·obtain ⟨b,off,x,rfl,hbl,hx,hxl,_,hrg⟩:=GU (HS.o.mono BL HB.o) hlt
  have hkn:(k:Int) < (n:Int):=AG
  have hk0:=Int.natCast_nonneg k
  obtain ⟨HX,Fx,Oa⟩:=Az hx hxl hrg;clear hx hxl hrg hbl;go_wp2_with (first
   | (refine Iu rfl 34 (AY 17) rfl b (off+k*32) rfl x _ Oa.o underlying34 rfl CV.o Fx.o ?_)
   | (refine Di rfl 34 rfl _ HZ.o ?_)
   | (
    refine Dh rfl 34 (AY 7) (AY 18) rfl wr.heap.size x rfl rfl 34 (yA (zeros 32)) (AZ.new _ _ _) CV.o EO Fx.o ?_;intro w3 k3 hb3 hg3;obtain ⟨HB3,JD,HY3⟩:=Az ((HB.o.alloc HB.o.size (AQ (yA (zeros 32)) 34)).trans (hb3.mono HB.o.size)) ((HO.o.alloc (AQ (yA (zeros 32)) 34)).kept hg3 (.inr s9)) (Fx.o ▸ GV k3 (by rw [Fx.o];decide));clear k3 hb3 hg3)
   | (at_builtin;refine Cb _ rfl (AY 19) (AY 20) 92 5 rfl i0 (AB Ak 0) 1 underlying92 HI.o.1 HI.o.2.1 HI.o.2.2.1 HI.o.2.2.2 rfl BE (R:=Io) NC w.heap.size _ _ _ rfl JD.o (some ⟨wr.heap.size,0,none⟩) 32 32 x rfl HY3.o Gj AG HB3.o.size ?_;intro v5 w5 Ng hc5 GN hg5 OS))
  go_roundg (n - (k+1))
  case measure=>exact Bc
  obtain rfl:=IJ hc5;refine ⟨k+1,by omega,rfl,by go_num,?_,oG HB3.o HB3.o.size JD.o hg5⟩;rw [PO.o k x HX.o,DM,show (k+1)*32=k*32+32 by omega];exact GN
 have hkn:k=n:=AG
 subst hkn;have hbl:(k:Int)<=(k:Int):=Int.le_refl _;have jt:AI (m<=100):=AF hm1;have hm9:m<=9223372036854775807:=AG
 have HC:AI (∀(B:Option Aa) (e:Nat) W,Ag 4 Oi W (AA B ns.length e) ns->AS prog 59 #[AO #[AB AE 3,AB AE 0,AN ⟨#[]⟩,AA B ns.length e]] W (AFk (Mf ns) W)):=AF (fun B e W h=>xr B ns.length e ns W h Y1);have HEL:AI (1<=(Mf ns).length/\(Mf ns).length<=11+ns.length*11):=AF ⟨by simp [Mf],by rw [<-pk];exact aY _ _⟩;obtain ⟨w0,rfl⟩:=Ab (wr:AH);have hfk:(F k).length=k*32:=by have:=HO.o.1;simpa using this
 clear hbl HQ hk hlt;go_upto_region 9 with fail;obtain ⟨k1,b1,s1⟩:=bx w0 #[AB AE 3,AB AE 0,AN ⟨#[]⟩,AA none 0 0] 134;obtain ⟨Hl,HB1⟩:=Aj (HO.o.alloc (AQ #[AB AE 3,AB AE 0,AN ⟨#[]⟩,AA none 0 0] 134)) (HB.o.alloc HB.o.size (AQ #[AB AE 3,AB AE 0,AN ⟨#[]⟩,AA none 0 0] 134));generalize (w0.alloc (AQ #[AB AE 3,AB AE 0,AN ⟨#[]⟩,AA none 0 0] 134))=w1 at k1 b1 s1 Hl HB1 ⊢;obtain ⟨K1,HZ1,HFK,jj⟩:=CJ k1 s1 hfk HB.o.size;clear k1 b1 s1 hfk;go_loopg [26] m (fun q i wr=>∃(j:Nat) (v:AK) (cs:List AK),j<=m/\q=m - j/\i=AB AE j/\AZ wr w0.heap.size 134 #[AB AE 3,AB AE 0,AN ⟨#[]⟩,v]/\wr.ownsRow (w0.heap.size+1) 134 4 v j cs/\Ao 4 Oi wr cs (ns.take j)/\wr.ownsRow w.heap.size 5 1 (AA rA (k*32) rc) (k*32) ((F k).map (Value.int .u8))/\AJ w wr/\w0.heap.size+1<=wr.heap.size)
 case atStart=>exact ⟨0,_,[],Ar _,rfl,rfl,K1.o,ED _ _ _ _,Ao.nil,Hl.o,HB1.o,by have:=HZ1.o;omega⟩
 clear K1 Hl HB1 HZ1;obtain ⟨j,v,cs,hj,hq,rfl,h1,h2,h3,h4,h5,h6⟩:=hrel;obtain ⟨vA,vc,rfl⟩:=Bz h2;have c0:=h1.cell 0;have c1:=h1.cell 1;have c2:=h1.cell 2;have c3:=h1.cell 3;have f3:=h1.frozen 3;have l1:=h1.lt;simp only [Ai,An,Aw] at c0 c1 c2 c3;obtain ⟨HQ,K1,HV,Sp,KU,HB2,HS2⟩:=LW hq h1 h2 h3 h4 h5 h6;clear hq h1 h2 h3 h4 h5 h6;by_cases hlt:j < m
 ·obtain ⟨b,off,x,rfl,hbl,hx,e0,hx1,hx2⟩:=ints_at (HN.o.mono BU HB2.o) hlt
  have hkn:(j:Int) < (m:Int):=AG
  have hk0:(0:Int)<=(j:Int):=AG
  have HX:=AF hx;clear hx c0 c1 c2;go_wp2_with (at_builtin;refine Cb _ rfl (AY 31) (AY 34) 132 134 rfl j0 z0 56 underlying132 HJ.o.1 HJ.o.2.1 HJ.o.2.2.2.1 HJ.o.2.2.2.2 HJ.o.2.2.1 BE (R:=Oi) ACU (w0.heap.size+1) _ _ _ rfl (HV.o.alloc _) (some ⟨wr.heap.size,0,none⟩) 1 1 [x] rfl (AGI wr x hx1 hx2) Gj AG (by have:=HS2.o;simp;omega) ?_;intro v5 w5 Ng hc5 GN hg5 OS;obtain ⟨A5,c5,rfl⟩:=Bz GN;have k5:=(K1.o.alloc (AQ #[AB AE 1,AB AE x,AN ⟨#[]⟩,AA none 0 0] 134)).grown hg5 (Da HV.o (Ie _));have f5:=k5.frozen 3;have l5:=k5.lt;have d5:=k5.cell 3;simp only [Ai,An,Aw] at d5);have hb5:=(HB2.o.alloc HB2.o.size (AQ #[AB AE 1,AB AE x,AN ⟨#[]⟩,AA none 0 0] 134)).grown hg5 (BF HB2.o.size Ac) (fun r hr=>by have:=(HV.o.lt r hr).1;have:=jj.o;omega);have hne:(Value.slice rA (k*32) rc).ownBlock=none\/(Value.slice rA (k*32) rc).ownBlock≠(Value.slice vA j vc).ownBlock:=by
   rcases h:(Value.slice rA (k*32) rc).ownBlock with _ | r
   · exact .inl rfl
   refine .inr fun e=> ?_;have h1:=(HO.o.lt r h).2;have h2:=(HV.o.lt r e.symm).1;omega
  have ho9:=(KU.o.alloc (AQ #[AB AE 1,AB AE x,AN ⟨#[]⟩,AA none 0 0] 134)).kept hg5 hne;have hs9:=hg5.size;have hs8:=HS2.o;rw [Eg] at hs9;go_roundg (m - (j+1))
  case measure=>exact Bc
  refine ⟨j+1,_,cs++Ng,by omega,rfl,by go_num,k5.put 3 _,E9 GN (Ie _) _,?_,?_,hb5.setCell jj.o _,?_⟩
  ·rw [take_snoc HX.o]
   exact Ao.append (t9 Sp.o) (t9 hc5)
  · exact Pm ho9 (fun e=>Nat.lt_irrefl _ (HO.o.lt _ e).2) _
  show w0.heap.size+1<=(w5.setCell _ _).heap.size;rw [Ra];omega
 have hjm:j=ns.length:=by have:=H9.o;omega
 subst hjm;clear f3;have HVV:=AF (CP HV.o (by rw [<-Pc (l:=ns)];exact Sp.o) rfl);go_wp2_with (first
  | (
   go_at_call 59;refine (HC.o _ _ _ HVV.o).mono ?_;rintro e w6 ⟨v6,rfl,Q5,hb6⟩;obtain ⟨g6,c6,rfl,hs6⟩:=Up Q5 HEL.o.1 rfl;obtain ⟨FK,Qp,jl⟩:=Az (AW HB2.o hb6) (EX KU.o hb6) hs6;clear Q5 hb6 hs6)
  | (at_builtin;refine Cb _ rfl (AY 43) (AY 44) 92 5 rfl i0 (AB Ak 0) 1 underlying92 HI.o.1 HI.o.2.1 HI.o.2.2.1 HI.o.2.2.2 rfl BE (R:=Io) NC w.heap.size _ _ _ rfl Qp.o (some ⟨g6,0,none⟩) _ c6 (Mf ns) rfl jl.o (by have:=HEL.o;have:=jt.o;unfold maxLen;omega) (by have:=HEL.o;have:=jt.o;omega) FK.o.size ?_;intro v7 w7 cs7 Zb GL DZ ua))
 go_ret;obtain rfl:=IJ Zb;refine ⟨v7,rfl,?_,oG FK.o FK.o.size Qp.o DZ⟩;rw [CT,DM,HFK.o];exact GL
theorem pU (xs cs:Array AK) (off:Nat):(xs.zipIdx.foldl (fun cs (x:AK×Nat)=>cs.setIfInBounds (off+x.2) x.1) cs).size=cs.size/\∀i,(xs.zipIdx.foldl (fun cs (x:AK×Nat)=>cs.setIfInBounds (off+x.2) x.1) cs)[i]? =if off<=i/\i < cs.size/\i < off+xs.size then xs[i - off]? else cs[i]? :=by
 have h:=Great.foldl_set off xs.toList 0 cs;have e:xs.zipIdx.foldl (fun cs (x:AK×Nat)=>cs.setIfInBounds (off+x.2) x.1) cs=(xs.toList.zipIdx 0).foldl (fun cs x=>cs.setIfInBounds (off+x.2) x.1) cs:=by
  obtain ⟨l⟩:=xs;have hz:(⟨l⟩:Array AK).zipIdx=(l.zipIdx 0).toArray:=Ac
  rw [hz];exact List.foldl_toArray' _ _ _ Ac
 rw [e];refine ⟨h.1,fun i=> ?_⟩;rw [h.2 i];simp only [D6,Array.length_toList,Array.getElem?_toList];by_cases h1:off<=i/\i < cs.size/\i < off+xs.size
 · rw [Am ⟨h1.1,h1.2.2,h1.2.1⟩,Am h1]
 · rw [Ah (fun h2=>h1 ⟨h2.1,h2.2.2,h2.2.1⟩),Ah h1]
theorem AEP {x y:AP} (hx:x.length=32) (hy:y.length=32) (c:Array AK) (hc:c.size=64):Instr.fill (fun i=>some (i*32,32)) c [(0,AO (yA x)),(1,AO (yA y))]=some (yA (x++y)):=by
 have sx:(yA x).size=32:=by rw [Bb,hx]
 have sy:(yA y).size=32:=by rw [Bb,hy]
 have h1:=pU (yA x) c 0;have h2:=pU (yA y) ((yA x).zipIdx.foldl (fun cs (x:AK×Nat)=>cs.setIfInBounds (0+x.2) x.1) c) 32;have e:((yA y).zipIdx.foldl (fun cs (x:AK×Nat)=>cs.setIfInBounds (32+x.2) x.1) ((yA x).zipIdx.foldl (fun cs (x:AK×Nat)=>cs.setIfInBounds (0+x.2) x.1) c))=yA (x++y):=by
  apply RY;intro i;rw [h2.2 i,h1.1,h1.2 i,hc,sx,sy];have ea:(yA (x++y))[i]? =((x++y)[i]?).map (Value.int .u8):=by rw [yA,Ai,Be]
  have eb:∀(l:AP) k,(yA l)[k]? =(l[k]?).map (Value.int .u8):=fun l k=>by rw [yA,Ai,Be]
  rw [ea,eb,eb];by_cases c1:i < 32
  · rw [Ah AG,Am AG,EF AG,Nat.sub_zero]
  by_cases c2:i < 64
  · rw [Am AG,Cf AG,hx]
  rw [Ah AG,Ah AG,M0 AG,DY (by rw [CT];omega)];rfl
 simp only [Instr.fill,Value.cells,sx,sy,RN,Nat.one_mul,h1.1,hc];rw [Ah Ac,Ah Ac];exact congrArg some e
theorem rE {P:BB} {w:AH} {ops:Array Oper} {rest:List Oper} {o:Oper} {a:Act} {Q:Exit->Act->AH->Prop} (hg:o.guard=none) (t e:Ae) (p q:Operand) (ho:o.op=.buildSlice t 2 #[(0,p),(1,q)])
 (ie:TypeInfo) (z:AK) (hu:P.underlying t=some (.slice e)) (hie:P.info? e=some ie) (hz:ie.zero=some z) (hsz:ie.size=32) (x y:AP) (hx:a.eval p=AO (yA x)) (hy:a.eval q=AO (yA y)) (hxl:x.length=32) (hyl:y.length=32)
 (h:wpList P ops Q rest (a.put o.dst (AA (some ⟨w.heap.size,0,none⟩) 2 2)) (w.alloc (AQ (yA (x++y)) e))):wpList P ops Q (o::rest) a w:=
 wpList_buildSlice hg t e 2 #[(0,p),(1,q)] ho (yA (x++y)) ie z hu hie hz (by rw [hsz];decide) (by rw [hsz];decide) (by
  have e1:((#[(0,p),(1,q)]:Array (Nat×Operand)).map fun (i,x)=>(i,a.eval x)).toList=[(0,AO (yA x)),(1,AO (yA y))]:=by simp [hx,hy]
  rw [e1,hsz];exact AEP hxl hyl _ Ac) h
theorem AGc (W:AH) {x y:AP} (hx:x.length=32) (hy:y.length=32):Ag 32 CQ (W.alloc (AQ (yA (x++y)) 34)) (AA (some ⟨W.heap.size,0,none⟩) 2 2) [x,y]:=by
 refine ⟨_,2,rfl,Ad _,by decide,fun i d hi=> ?_⟩;have hb:=AZ.new W 34 (yA (x++y));have hil:i < 2:=by have:=(BA.1 hi).1;simpa using this
 have hdl:d.length=32:=by
  rcases i with _ | _ | i
  · simp at hi;rw [<-hi];exact hx
  · simp at hi;rw [<-hi];exact hy
  · omega
 refine ⟨W.heap.size,0,d.map (Value.int .u8),rfl,hb.lt,by rw [CX,hdl],fun j u hu=> ?_,rfl,hdl⟩;have hjl:j < 32:=by have:=(BA.1 hu).1;simpa [hdl] using this
 rw [Ex,hb.cell,yA,Ai,Be];rw [Be] at hu;rcases i with _ | _ | i
 ·simp at hi
  rw [<-hi] at hu;rw [RN,Ex,EF AG];exact hu
 ·simp at hi
  rw [<-hi] at hu;rw [Cf AG,show (0+1)*32+j - x.length=j by omega];exact hu
 · omega
def EZ (x:Int):Prop:= -9223372036854775808<=x/\x<=9223372036854775807
theorem MY {w:AH} {g:Nat} {t:Ae} {l:AP} (h:AZ w g t (iA l)) (hr:∀x∈l, -9223372036854775808<=x/\x<=9223372036854775807) (hl:l.length<=1000):Ag 1 CF w (AA (some ⟨g,0,none⟩) l.length l.length) l:=by
 refine ⟨_,l.length,rfl,Ad _,by unfold maxLen;omega,fun i x hi=>⟨g,0,[AB AE x],rfl,h.lt,rfl,fun j u hu=> ?_,rfl,hr x (Ci hi)⟩⟩;have hj:j=0:=by have:=(BA.1 hu).1;simpa using this
 subst hj;simp only [An,Bq] at hu;rw [h.cell,iA,Ai,Be,Ex,F9,D6,hi,<-hu];rfl
theorem Tq (schema claim value:Int) (holder:AP) (w:AH) (h1:EZ schema) (h2:EZ claim) (h3:EZ value) (hh:holder.length=32) (hT:Cc w):
 AS prog 11 #[AB AE schema,AB AE claim,AB AE value,AO (yA holder)] w (DW (msgP Aq schema claim value holder) w):=by
 obtain ⟨HH,CV⟩:=Aj hh Du;obtain ⟨Y,hY⟩:=Ab (holder++Mf [schema,claim,value]);have HC:AI (∀W,AJ w W->AS prog 36 #[AA (some ⟨W.heap.size,0,none⟩) 1 1,AA (some ⟨W.heap.size+1,0,none⟩) 3 3] ((W.alloc (AQ (yA holder) 34)).alloc (AQ #[AB AE schema,AB AE claim,AB AE value] 3)) (ay Y ((W.alloc (AQ (yA holder) 34)).alloc (AQ #[AB AE schema,AB AE claim,AB AE value] 3)))):=AF (fun W hW=>by have k:=AZ.new (W.alloc (AQ (yA holder) 34)) 3 (iA [schema,claim,value]);rw [Eg] at k;have:=jc _ 1 1 [holder] _ 3 3 [schema,claim,value] ((W.alloc (AQ (yA holder) 34)).alloc (AQ (iA [schema,claim,value]) 3)) ((ZA W holder hh).mono BL (BP _ _)) (MY k (by intro x hx;simp only [CO,D7,D5] at hx;rcases hx with rfl | rfl | rfl <;> assumption) Ac) AG AG;rw [show [holder].flatten=holder by simp,<-hY] at this;exact this)
 obtain ⟨D,hD⟩:=Ab (msgP Aq schema claim value holder);have Eb:AI (D.length=32):=AF (by rw [hD,msgP];exact C3 _ _);have HG:AI (∀(A:Option Aa) (n c:Nat) W,AJ w W->Ag 1 Io W (AA A n c) Y->AS prog 35 #[.string {data:=#[99,108,97,105,109]},AA A n c] W (DW D W)):=AF (fun A n c W hW hs=>by rw [hD,msgP,<-hY];exact IC {data:=#[99,108,97,105,109]} A n c Y W BE (hT.below hW) hs)
 have Zk:AI (0 < Y.length):=AF (by rw [hY,CT,hh];omega);have hys:(yA holder).size=32:=by rw [Bb,hh]
 have hfl:=Uu holder hh;rw [<-hD];clear h1 h2 h3 hh hT hY hD;go_enter func11,ntmps11;go_upto_region 1 with fail;obtain ⟨k1,b1,s1⟩:=bx w (yA holder) 34;have hq:=Ir (w.alloc (AQ (yA holder) 34)) 34;generalize (w.alloc (AQ (yA holder) 34))=w0 at hq k1 b1 s1 ⊢;rw [s1] at hq;generalize (w0.alloc _)=wa at hq ⊢;obtain ⟨kr,hba,hza⟩:=hq;obtain ⟨KM,KR,HB⟩:=Az (k1.below hba AG) kr (b1.trans (hba.mono AG));clear s1 b1 hba k1 kr hza;go_wp2_with (first
  | (refine Ca rfl 34 (AY 7) rfl w.heap.size holder rfl 34 _ KM.o underlying34 rfl CV.o HH.o ?_)
  | (
   go_at_call 36;refine (HC.o _ HB.o).mono ?_;rintro e w5 ⟨v5,rfl,GN,hb5⟩;obtain ⟨g5,c5,rfl,hs5⟩:=Up GN Zk.o rfl;have hb6:AJ wa w5:=((BP _ _).alloc Ac _).trans (hb5.mono BX);obtain ⟨Nl,CW,VC⟩:=Az (KR.o.below hb6 KR.o.lt) (AW HB.o hb6) hs5;clear GN hb5 hb6 hs5)
  | (
   go_at_call 35;refine (HG.o _ _ _ _ CW.o VC.o).mono ?_;rintro e w6 ⟨rfl,hb⟩;obtain ⟨dq,FK⟩:=Aj (Nl.o.below hb Nl.o.lt) (AW CW.o hb);clear hb)
  | (refine DS rfl 34 (AY 8) (AY 16) rfl (w.heap.size+1) D rfl rfl 34 _ dq.o CV.o EO Eb.o ?_;intro w7 k7 hb7))
 exact AAE
theorem link_any (schema link:Int) (token holder:AP) (w:AH) (h1:EZ schema) (h2:EZ link) (ht:token.length=32) (hh:holder.length=32) (hT:Cc w):
 AS prog 12 #[AB AE schema,AB AE link,AO (yA token),AO (yA holder)] w (DW (Ko Aq schema link token holder) w):=by
 obtain ⟨HH,CV⟩:=Aj hh Du;obtain ⟨Y,hY⟩:=Ab (holder++token++Mf [schema,link]);have HC:AI (∀W,AJ w W->AS prog 36 #[AA (some ⟨W.heap.size,0,none⟩) 2 2,AA (some ⟨W.heap.size+1,0,none⟩) 2 2] ((W.alloc (AQ (yA (holder++token)) 34)).alloc (AQ #[AB AE schema,AB AE link] 3)) (ay Y ((W.alloc (AQ (yA (holder++token)) 34)).alloc (AQ #[AB AE schema,AB AE link] 3)))):=AF (fun W hW=>by have k:=AZ.new (W.alloc (AQ (yA (holder++token)) 34)) 3 (iA [schema,link]);rw [Eg] at k;have:=jc _ 2 2 [holder,token] _ 2 2 [schema,link] ((W.alloc (AQ (yA (holder++token)) 34)).alloc (AQ (iA [schema,link]) 3)) ((AGc W hh ht).mono BL (BP _ _)) (MY k (by intro x hx;simp only [CO,D7,D5] at hx;rcases hx with rfl | rfl <;> assumption) Ac) AG AG;rw [show [holder,token].flatten=holder++token by simp,<-hY] at this;exact this)
 obtain ⟨D,hD⟩:=Ab (Ko Aq schema link token holder);have Eb:AI (D.length=32):=AF (by rw [hD,Ko];exact C3 _ _);have HG:AI (∀(A:Option Aa) (n c:Nat) W,AJ w W->Ag 1 Io W (AA A n c) Y->AS prog 35 #[.string {data:=#[108,105,110,107]},AA A n c] W (DW D W)):=AF (fun A n c W hW hs=>by rw [hD,Ko,<-hY];exact IC {data:=#[108,105,110,107]} A n c Y W BE (hT.below hW) hs)
 have Zk:AI (0 < Y.length):=AF (by rw [hY,CT,CT,hh];omega);have OY:=AF ht;obtain ⟨j0,z0,hj⟩:=gx;have HJ:=AF hj;rw [<-hD];clear h1 h2 hh ht hT hY hD hj;go_enter func12,ntmps12;go_upto_region 1 with fail;obtain ⟨k1,b1,s1⟩:=bx w (yA token) 34;generalize (w.alloc (AQ (yA token) 34))=w1 at k1 b1 s1 ⊢;obtain ⟨k2,b2,s2⟩:=bx w1 (yA holder) 34;have hq:=Ir (w1.alloc (AQ (yA holder) 34)) 34;generalize (w1.alloc (AQ (yA holder) 34))=w0 at hq k2 b2 s2 ⊢;rw [s1] at k2 b2 s2;rw [s2] at hq;generalize (w0.alloc _)=wa at hq ⊢;obtain ⟨kr,hba,hza⟩:=hq;obtain ⟨KT,KM,KR,HB⟩:=CJ ((k1.below b2 AG).below hba AG) (k2.below hba AG) kr ((b1.trans (b2.mono AG)).trans (hba.mono AG));clear s1 b1 s2 b2 hba k1 k2 kr hza;go_wp2_with (first
  | (refine rE rfl 37 34 (AY 9) (AY 10) rfl j0 z0 underlying37 HJ.o.1 HJ.o.2.1 HJ.o.2.2.2.1 holder token rfl rfl HH.o OY.o ?_)
  | (refine Ca rfl 34 (AY 6) rfl w.heap.size token rfl 34 _ KT.o underlying34 rfl CV.o OY.o ?_)
  | (refine Ca rfl 34 (AY 7) rfl (w.heap.size+1) holder rfl 34 _ KM.o underlying34 rfl CV.o HH.o ?_)
  | (
   go_at_call 36;refine (HC.o _ HB.o).mono ?_;rintro e w5 ⟨v5,rfl,GN,hb5⟩;obtain ⟨g5,c5,rfl,hs5⟩:=Up GN Zk.o rfl;have hb6:AJ wa w5:=((BP _ _).alloc Ac _).trans (hb5.mono BX);obtain ⟨Nl,CW,VC⟩:=Az (KR.o.below hb6 KR.o.lt) (AW HB.o hb6) hs5;clear GN hb5 hb6 hs5)
  | (
   go_at_call 35;refine (HG.o _ _ _ _ CW.o VC.o).mono ?_;rintro e w6 ⟨rfl,hb⟩;obtain ⟨dq,FK⟩:=Aj (Nl.o.below hb Nl.o.lt) (AW CW.o hb);clear hb)
  | (refine DS rfl 34 (AY 8) (AY 16) rfl (w.heap.size+1+1) D rfl rfl 34 _ dq.o CV.o EO Eb.o ?_;intro w7 k7 hb7))
 exact VW (.inl rfl) rfl rfl rfl k7 underlying34 rfl CV.o Eb.o (FK.o.trans (hb7.mono AG))
section
variable {F:Fence} {n:Nat} {P:BB} {md:Region.Mode} {ops:Array Oper} {Q:Exit->Act->AH->Prop} {S:AH->Prop}
def P0 (o:Oper):Bool:=match o.op with | .defer _=>false | _=>true
theorem oL {o:Oper} (h:P0 o=true):∀c,o.op≠.defer c:=fun c e=>by simp [P0,e] at h
structure Clear (F:Fence) (ops:Array Oper):Prop where
 fn:∀f,F.fn f
 nd:ops.all P0=true
theorem Clear.op (h:Clear F ops) {j:Nat} {o:Oper} (hj:ops[j]? =some o):∀c,o.op≠.defer c:=by obtain ⟨hlt,e⟩:=Cz.1 hj;subst e;exact oL (Array.all_eq_true.1 h.nd j hlt)
def Gw (F:Fence) (n:Nat) (P:BB) (md:Region.Mode) (ops:Array Oper) (Q:Exit->Act->AH->Prop) (S:AH->Prop):Nat->Array Bool->Act->AH->Prop
 | 0,listed,a,w=>Region.ready md ops listed=[]/\Q .normal a w
 |
  fuel+1,listed,a,w=>
  (Region.ready md ops listed=[]->Q .normal a w)/\
  ∀i∈Region.ready md ops listed,wpOpIn F n P ops Q i (fun a' w'=>S w'/\Gw F n P md ops Q S fuel (listed.setIfInBounds i true) a' w') a w
theorem ZM:∀(fuel:Nat) (listed:Array Bool) (a:Act) (w:AH),Gw F n P md ops Q S fuel listed a w->wpAnyIn F n P md ops Q fuel listed a w
 | 0,_,_,_,h=>h
 | fuel+1,_,_,_,h=>⟨h.1,fun i hi=>wpOpIn_mono (fun a' w' h'=>ZM fuel _ a' w' h'.2) (h.2 i hi)⟩
theorem AHf (hC:Clear F ops) {i:Nat} {o:Oper} {v:AK} {a:Act} (hi:ops[i]? =some o) (hy:YieldsIf P ops S o v a) {K:Act->AH->Prop} {w:AH} (hS:S w) (h:K (a.put o.dst v) w):wpOpIn F n P ops Q i K a w:=by
 unfold wpOpIn;simp only [hi];have hab:∀f,o.about P w a.eval=some f->F.fn f:=fun f _=>hC.fn f;rcases hy with ⟨hw,hv⟩ | ⟨hw,rfl⟩
 · simp only [hw,Ct,Oper.wpIn,Oper.semAt_eq F.round _ o (hC.op hi),hv w hS,Oper.uponIn];exact ⟨hab,h⟩
 · simp only [hw,If,Hn];exact ⟨hab,h⟩
theorem AJO (hC:Clear F ops) {j:Nat} {oi oj:Oper} {v:AK} (hj:ops[j]? =some oj) (hap:oi.apart ops oj=true)
 (hsi:∀cs b,oi.op≠.select cs b) (hsj:∀cs b,oj.op≠.select cs b)
 (hQ:∀c a w,Q (.panic c) (a.put oi.dst v) w->Q (.panic c) a w) {K:Act->AH->Prop} {a:Act} {w:AH}
 (hy:YieldsIf P ops S oi v a) (h:wpOpIn F n P ops Q j K (a.put oi.dst v) w):
 wpOpIn F n P ops Q j (fun a' w'=>YieldsIf P ops S oi v a'/\K (a'.put oi.dst v) w') a w:=by
 obtain ⟨h1,h2,h3⟩:=Oper.apart_spec hap;have keep:∀(a:Act),YieldsIf P ops S oi v a->∀u,YieldsIf P ops S oi v (a.put oj.dst u):=fun a hy u=>
  hy.of_same (execOp_put oi hsi a oj.dst u h3) (wanted_put oi a oj.dst u h3)
 have keepD:∀d,YieldsIf P ops S oi v {a with defers:=d::a.defers}:=fun d=>hy.of_same rfl rfl;have hnd:=hC.op hj;unfold wpOpIn at *;simp only [hj] at *;rw [wanted_put oj a oi.dst v h1] at h;split
 ·rename_i hw
  simp only [hw,Ct] at h;unfold Oper.wpIn at *;refine ⟨fun f _=>hC.fn f,?_⟩;have h:=h.2;rw [Oper.semAt_eq F.round _ oj hnd,execOp_put oj hsj a oi.dst v h1] at h;rw [Oper.semAt_eq F.round _ oj hnd];generalize (execOp a.eval oj).run P w=r at *;cases r with
  |
   ok x w'=>
   cases x <;> simp only [Oper.uponIn] at h ⊢
   case value u=>exact ⟨keep a hy u,by rw [<-RP a v u h2];exact h⟩
   case skip=>exact ⟨keep a hy _,by rw [<-RP a v undef h2];exact h⟩
   case defer d=>refine ⟨keep _ (keepD d) _,?_⟩;rw [<-RP _ v undef h2,<-Act.put_defers];exact h
   case enter f args=>
    refine ⟨h.1,CallsIn.mono h.2 fun e w'' he=> ?_⟩;cases e with
    | returned u=>exact zL
    | panicked c=>exact hQ _ _ _ he
    | outgrown=>exact he
   case row row args=>exact ⟨h.1,RowsIn.mono h.2 fun u w'' he=>⟨keep a hy u,by rw [<-RP a v u h2];exact he⟩⟩
   case round l f tmps assign body=>
    refine ⟨h.1,RoundIn.mono h.2 fun e w'' he=> ?_⟩;cases e with
    | returned u=>exact zL
    | panicked c=>exact hQ _ _ _ he
    | outgrown=>exact he
  |
   halt x w'=>
   cases x <;> simp only [Oper.uponIn] at h ⊢
   case panic u=>exact hQ _ _ _ h
 rename_i hw
 simp only [hw] at h;exact ⟨fun f _=>hC.fn f,keep a hy _,by rw [<-RP a v undef h2];exact h.2⟩
theorem AGX (hC:Clear F ops) {i:Nat} {oi:Oper} {v:AK} (hi:ops[i]? =some oi) (hsel:∀(j:Nat) (o:Oper) cs b,ops[j]? =some o->o.op≠.select cs b)
 (hQ:∀c a w,Q (.panic c) (a.put oi.dst v) w->Q (.panic c) a w):
 ∀(fuel:Nat) (listed:Array Bool) (a:Act) (w:AH),
  (∀j oj,ops[j]? =some oj->j≠i->listed.getD j true=false->(∀e∈oj.after,Region.binds md e=true->e.on≠i)->oi.apart ops oj=true)->
  i∈Region.ready md ops listed->YieldsIf P ops S oi v a->S w->
  Gw F n P md ops Q S fuel (listed.setIfInBounds i true) (a.put oi.dst v) w->Gw F n P md ops Q S (fuel+1) listed a w:=by
 intro fuel
 induction fuel with
 |
  zero=>
  intro listed a w _ hr hy hS H;refine ⟨fun h=>QR,fun j hj=> ?_⟩;by_cases hji:j=i
  · subst hji;exact AHf hC hi hy hS ⟨hS,H⟩
  ·have:=Jo hj hji
   rw [H.1] at this;cases this
 |
  succ fuel ih=>
  intro listed a w hfree hr hy hS H;refine ⟨fun h=>QR,fun j hj=> ?_⟩;by_cases hji:j=i
  · subst hji;exact AHf hC hi hy hS ⟨hS,H⟩
  have h1:=H.2 j (Jo hj hji);obtain ⟨hjun,oj,hoj,hall⟩:=JG.1 hj;have hnot:∀e∈oj.after,Region.binds md e=true->e.on≠i:=fun e he hb heq=>by
   exact AAP
  have h2:=AJO hC hoj (hfree j oj hoj hji hjun hnot) (fun cs b=>hsel i oi cs b hi) (fun cs b=>hsel j oj cs b hoj) hQ hy h1;have hfree':∀k ok,ops[k]? =some ok->k≠i->(listed.setIfInBounds j true).getD k true=false->
   (∀e∈ok.after,Region.binds md e=true->e.on≠i)->oi.apart ops ok=true:=fun k ok hk hki hun hno=>by
   exact mP
  refine wpOpIn_mono (fun a' w' h3=>⟨h3.2.1,ih (listed.setIfInBounds j true) a' w' hfree' (Jo hr (Ne.symm hji)) h3.1 h3.2.1 ?_⟩) h2;rw [Yq _ _ hji];exact h3.2.2
variable {fuel:Nat} {listed:Array Bool} {l:List AK} {D:List Deferred} {w:AH}
theorem rhB {id:Nat} {a:Act} (S:AH->Prop) (k:Nat) (L:Array Bool) (hm:P.follows .mixedOrders=true) (hn:ops.size=k) (hL:Array.replicate k false=L) (h:Gw F n P .any ops Q S k L a w.drew):(Code.region id ops true).wpIn F n P Q a w:=by subst hn hL;exact wpIn_region_any hm (ZM _ _ _ _ h)
theorem EP (hC:Clear F ops) (i d:Nat) {oi:Oper} {v:AK} (hB:Qy md ops listed i=true) (hi:ops[i]? =some oi) (hd:oi.dst=some d) (hQ:∀c (a:Act) d v w,Q (.panic c) (a.put (some d) v) w->Q (.panic c) a w) (hS:S w)
 (hw:Region.wanted oi (yielded ops l.toArray)=true) (hv:∀w,S w->(execOp (Act.eval ⟨l.toArray,D⟩) oi).run P w=.ok (.value v) w)
 (h:Gw F n P md ops Q S fuel (listed.setIfInBounds i true) ⟨(l.set d v).toArray,D⟩ w):Gw F n P md ops Q S (fuel+1) listed ⟨l.toArray,D⟩ w:=by
 simp only [BZ] at hB;rw [<-MG,<-hd] at h;exact AGX hC hi (Ym hB.1) (fun c a w hq=>by rw [hd] at hq;exact hQ c a _ _ w hq) fuel listed _ w (Yd hi hB.2.1) (by simpa using hB.2.2) (.inl ⟨hw,hv⟩) hS h
theorem Uq (hC:Clear F ops) (i d t:Nat) {oi:Oper} {v:AK} (hB:Qy md ops listed i=true) (hi:ops[i]? =some oi) (hd:oi.dst=some d) (hQ:∀c (a:Act) d v w,Q (.panic c) (a.put (some d) v) w->Q (.panic c) a w) (hS:S w)
 (hw:Region.wanted oi (yielded ops l.toArray)=true) (ho:oi.op=.move (AY t)\/oi.op=.assign (AY t)) (hv:l[t]? =some v)
 (h:Gw F n P md ops Q S fuel (listed.setIfInBounds i true) ⟨(l.set d v).toArray,D⟩ w):Gw F n P md ops Q S (fuel+1) listed ⟨l.toArray,D⟩ w:=by
 refine EP hC i d hB hi hd hQ hS hw (fun W _=> ?_) h;exact mQ
theorem rhO (hC:Clear F ops) (i:Nat) {o:Oper} {a:Act} (hr:Region.ready md ops listed=[i]) (hi:ops[i]? =some o) (hg:o.guard=none)
 (h:o.uponIn F n P a (fun a' w'=>S w'/\Gw F n P md ops Q S fuel (listed.setIfInBounds i true) a' w') Q ((execOp a.eval o).run P w)):Gw F n P md ops Q S (fuel+1) listed a w:=by
 refine ⟨fun h0=>(by rw [hr] at h0;cases h0),fun j hj=> ?_⟩;rw [hr] at hj;obtain rfl:j=i:=by simpa using hj
 unfold wpOpIn;rw [hi];have hw:Region.wanted o (yielded ops a.tmps)=true:=by simp [Region.wanted,hg]
 simp only [hw,Ct,Oper.wpIn,Oper.semAt_eq F.round _ o (hC.op hi)];exact ⟨fun f _=>hC.fn f,h⟩
theorem rhF (hC:Clear F ops) (i d:Nat) {o:Oper} {f:FuncId} {xs:Array Operand} {ts:Array Ae} {args:Array AK} {R:Ending->AH->Prop} (hr:Region.ready md ops listed=[i]) (hi:ops[i]? =some o) (hd:o.dst=some d) (hg:o.guard=none)
 (ho:o.op=.call {callee:=.value (.func f),args:=xs,argTypes:=ts}) (he:Enters P f) (hx:F.depth.isSome=true->1<=n) (hc:CallsIn F (n - 1) P f args w R) (ha:xs.toList.map (Act.eval ⟨l.toArray,D⟩)=args.toList)
 (h:∀e w',R e w'->∃v,e=AV v/\S w'/\Gw F n P md ops Q S fuel (listed.setIfInBounds i true) ⟨(l.set d v).toArray,D⟩ w'):Gw F n P md ops Q S (fuel+1) listed ⟨l.toArray,D⟩ w:=by
 refine rhO hC i hr hi hg ?_;have e:xs.map (Act.eval ⟨l.toArray,D⟩)=args:=by apply Yl.1;rw [UM];exact ha
 have hex:(execOp (Act.eval ⟨l.toArray,D⟩) o).run P w=.ok (.enter f args) w:=by unfold execOp;rw [ho];simp [resolve,Act.eval,Deferred.ofValue,invoke,<-e];exact he _ w
 rw [hex];exact ⟨hx,hc.mono fun e w' hR=>by obtain ⟨v,rfl,hS,hk⟩:=h e w' hR;rw [<-MG,<-hd] at hk;exact ⟨hS,hk⟩⟩
theorem rhY (hC:Clear F ops) (i d t q:Nat) {o:Oper} {xs:Array Operand} {ts:Array Ae} {args:Array AK} {R:Ending->AH->Prop} (hr:Region.ready md ops listed=[i]) (hi:ops[i]? =some o) (hd:o.dst=some d) (hg:o.guard=none)
 (ho:o.op=.call {callee:=.value (AY t),args:=xs,argTypes:=ts}) (ht:l[t]? =some (.func (.yield q) #[] #[])) (hx:F.depth.isSome=true->1<=n) (hc:YieldAt F (n - 1) P q args w R) (ha:xs.toList.map (Act.eval ⟨l.toArray,D⟩)=args.toList)
 (h:∀e w',R e w'->(∃v,e=AV v/\S w'/\Gw F n P md ops Q S fuel (listed.setIfInBounds i true) ⟨(l.set d v).toArray,D⟩ w')\/∃c,e=.panicked c/\Q (.panic c) ⟨l.toArray,D⟩ w'):Gw F n P md ops Q S (fuel+1) listed ⟨l.toArray,D⟩ w:=by
 refine rhO hC i hr hi hg ?_;have e:xs.map (Act.eval ⟨l.toArray,D⟩)=args:=by apply Yl.1;rw [UM];exact ha
 obtain ⟨fn,tmps,assign,body,hy,hR⟩:=hc;have hex:(execOp (Act.eval ⟨l.toArray,D⟩) o).run P w=.ok (.round q fn tmps assign body) w:=by
  unfold execOp;rw [ho];have e2:Act.eval ⟨l.toArray,D⟩ (AY t)=.func (.yield q) #[] #[]:=by simp [Act.eval,ht]
  simp [resolve,e2,Deferred.ofValue,invoke,e];exact hy
 rw [hex];refine ⟨hx,hR.mono fun e w' hR=> ?_⟩;rcases h e w' hR with ⟨v,rfl,hS,hk⟩ | ⟨c,rfl,hq⟩
 · rw [<-MG,<-hd] at hk;exact ⟨hS,hk⟩
 · exact hq
theorem rhD {a:Act} (hr:Region.ready md ops listed=[]) (h:Q .normal a w):∀fuel,Gw F n P md ops Q S fuel listed a w
 | 0=>⟨hr,h⟩
 | _+1=>⟨fun _=>h,by rw [hr];simp⟩
end
end Go.Proofs.YtpmpddfgifhlbaaGreatDoor
