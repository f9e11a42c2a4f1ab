import Derived.Test.YtamhoilkpppdbaaGreatDoorL08
namespace Go.Proofs.YtamhoilkpppdbaaGreatDoor
set_option maxHeartbeats 8000000
set_option maxRecDepth 100000
open Go renaming World→AH, Value→AN, Calls→AS, TypeId→Ae, Program→BE, Addr→Aa
open Go.RowKit renaming Below→BL
open Go.Proofs.Tryz
open Go.Value renaming slice→AA, int→AB, string→AL, pointer→AU, bool→Ab, agg→AP, tuple→BU
open Go.IntKind renaming i64→AE, u8→Am
open Go.Ending renaming returned→AW
open Go.Obj renaming cells→AO
open Go.Operand renaming tmp→AX
open Go.RowKit Go.Shelf
theorem Tl (g:Nat) (d:AQ) (hd:d.length=32):∀W:AH,AY W g 34 (yA d)->(Instr.loadAt 34 (AU (some ⟨g,0,none⟩))).run prog W=.ok (AP (yA d)) W:=by intro W hg;simp only [Instr.loadAt,Instr.sureAddr,Cp,DL,Result.andThen_ok,NL W g 34 34 (yA d) (0,0) _ hg underlying34 rfl (by rw [CJ,hd];exact Fw)]
theorem AB6:(prog.info? 71).map (·.size)=some 3:=by kernel_rfl
theorem Dt {a:AH} {g:Nat}:∀(vs:List AN) (o:Nat) (w:AH),a.grownBy w (some g)->a.grownBy (w.setCells g o vs) (some g)
 | [],_,_,h=>h
 |
  v::vs,o,w,h=>by
  rw [World.setCells];exact Dt vs (o+1) _ (Oi h o v)
theorem eS (w:AH) (g:Option Nat):w.grownBy w g:=⟨rfl,rfl,rfl,Ac _,fun _ _ _=>rfl⟩
theorem AJn {P:BE} {fn:Func} {a:Act} {p q:Tmp} {ty:Ae} {t:Ae} {ds:TypeDesc} {cs:Array AN} {v:AN} {g:Nat} {w:AH} {x:Exit} {R:Ending->AH->Prop} (hx:x=.ret\/x=.normal) (h:fn.results=#[.cell p ty,.tmp q]) (hp:a.tmps.getD p undef=AU (some ⟨g,0,none⟩)) (hq:a.tmps.getD q undef=v) (hdf:a.defers=[]) (hg:AY w g t cs) (hu:P.underlying ty=some ds) (hds:(match ds with | .struct _ | .array _ _=>true | _=>false)=true) (hi:(P.info? ty).map (·.size)=some cs.size) (hR:R (AW (BU #[.agg cs,v])) w):
 bodyPost P fn R x a w:=by
 have hr:(results fn a.tmps).run P w=.ok (BU #[.agg cs,v]) w:=by
  have hp':a.tmps[p]?.getD undef=AU (some ⟨g,0,none⟩):=by simpa using hp
  have hq':a.tmps[q]?.getD undef=v:=by simpa using hq
  simp [results,h,hp',hq',asAddr,run_loadVar_row w g t ty cs (0,0) ds hg hu hds hi]
 exact zy
theorem Qr {w:AH} {g o n:Nat} {t:Ae} {cs:Array AN} (h:AY w g t cs) (hl:o+n<=cs.size):w.there g o n:=fun j hj=>by rw [h.cell,ZU AG];exact ⟨rfl,h.frozen _⟩
def AGD (q:Cn) (w:AH) (e:Ending) (w':AH):Prop:=∃v1 cs1 v2 cs2,e=AW (BU #[AP #[AB AE q.index,v1,v2],AB AE 0])/\w'.ownsRow w.heap.size 34 32 v1 q.chains.length cs1/\Ap 32 CP w' cs1 q.chains/\w'.ownsRow w.heap.size 34 32 v2 q.path.length cs2/\Ap 32 CP w' cs2 q.path/\AK w w'
theorem oO (seed m:AQ) (A:Option Aa) (n c k:Nat) (l:List (AQ)) (w:AH) (hs:seed.length=32) (hm:m.length=32) (hr:∀x∈m,0<=x/\x < 256) (h256:n<=256) (hk:k < n) (hT:Cc w) (hl:Ag 32 CP w (AA A n c) l):
 AS prog 58 #[AP (yA seed),AA A n c,AB AE k,AP (yA m)] w (AGD (Lu Aw seed l k m) w):=by
 obtain ⟨HS,HM,Cd⟩:=BB hs hm Fw;have HP:AI (∀W,AK w W->AS prog 82 #[AA A n c,AB AE k] W (nC (GD Aw l k) 0 W)):=AF (fun W hW=>ADV A n c k l W h256 hk (hT.below hW) (hl.mono BO hW));obtain ⟨D,hD⟩:=Ad (Lv Aw seed k);have ET:D.length=32:=by rw [hD,Lv];exact DN _ _
 have HC:AI (∀W,AK w W->AS prog 73 #[AP (yA seed),AB AE k] W (Dy D W)):=AF (fun W hW=>by rw [hD];exact oQ seed k W hs AG (hT.below hW));have HG:AI (∀W,AK w W->AS prog 72 #[AP (yA D),AP (yA m)] W (TG (Ld Aw D m) W)):=AF (fun W hW=>AC6 D m W ET hm hr (hT.below hW));obtain ⟨p,hp⟩:=Ad (GD Aw l k);obtain ⟨s,hss⟩:=Ad (Ld Aw D m);have hz:Lu Aw seed l k m=⟨k,s,p⟩:=by rw [hss,hp,hD];rfl
 rw [hz];rw [<-hp] at HP;rw [<-hss] at HG;clear hs hm hr hT hl hp hss hD ET hz;go_enter func58,ntmps58;go_upto_region 1 with fail;obtain ⟨k1,b1,s1⟩:=bx w (yA seed) 34;generalize (w.alloc (AO (yA seed) 34))=w1 at k1 b1 s1 ⊢;obtain ⟨k2,b2,s2⟩:=bx w1 (yA m) 34;generalize (w1.alloc (AO (yA m) 34))=w2 at k2 b2 s2 ⊢;obtain ⟨k3,b3,s3⟩:=bx w2 #[AB AE 0,AA none 0 0,AA none 0 0] 71;generalize (w2.alloc (AO #[AB AE 0,AA none 0 0,AA none 0 0] 71))=w3 at k3 b3 s3 ⊢;rw [s1] at k2 b2 s2;rw [s2] at k3 b3 s3;obtain ⟨KS,KM,KL,HB⟩:=CD ((k1.below b2 AG).below b3 AG) (k2.below b3 AG) k3 ((b1.trans (b2.mono AG)).trans (b3.mono AG));have H3:AI (w3.heap.size=w.heap.size+1+1+1):=AF AG;clear k1 k2 k3 b1 b2 b3 s1 s2 s3;go_wp2_with (first
  | (
   go_at_call 82;refine (HP.o _ HB.o).mono ?_;rintro e w4 ⟨v,cs,rfl,ho,hc,hb⟩;obtain ⟨rA,rc,rfl⟩:=CG ho;obtain ⟨HO,Dz,ALa,KS4,KM4,KL4,HB4⟩:=LU ho hc hb.size (KS.o.below hb KS.o.lt) (KM.o.below hb KM.o.lt) (KL.o.below hb KL.o.lt) (AV HB.o hb);clear ho hc hb))
 have hl1:=Tl w.heap.size seed HS.o;have hl2:=Tl (w.heap.size+1) m HM.o;have Yk:AI (∀W,AK w4 W->AY W w.heap.size 34 (yA seed)/\AY W (w.heap.size+1) 34 (yA m)):=AF (fun W hW=>⟨KS4.o.below hW KS4.o.lt,KM4.o.below hW KM4.o.lt⟩);have K4:AK w4 w4.drew:=(Af _ _).drew;refine Pe (fun W=>AY W w.heap.size 34 (yA seed)/\AY W (w.heap.size+1) 34 (yA m)) 10 _ AJ AJ rfl ?_;refine rgM 0 20 2 AJ rfl rfl An (Yk.o _ K4) rfl (.inl rfl) rfl ?_;refine DP 1 21 AJ rfl rfl An (Yk.o _ K4) rfl (fun W hW=>run_load (hl1 W hW.1)) ?_;refine rgM 2 22 2 AJ rfl rfl An (Yk.o _ K4) rfl (.inl rfl) rfl ?_;refine DP 4 24 AJ rfl rfl An (Yk.o _ K4) rfl (fun W hW=>run_load (hl2 W hW.2)) ?_;refine rgM 6 26 10 AJ rfl rfl An (Yk.o _ K4) rfl (.inl rfl) rfl ?_;refine Wm 3 23 AJ rfl rfl rfl rfl (enters_of func73 AJ rfl) (HC.o _ (AV HB4.o K4)) AJ ?_;rintro e w5 ⟨rfl,hb5⟩;have K5:AK w4 w5:=K4.trans hb5;refine ⟨_,rfl,Yk.o _ K5,?_⟩;refine Wm 5 25 AJ rfl rfl rfl rfl (enters_of func72 AJ rfl) (HG.o _ (AV HB4.o K5)) AJ ?_;rintro e w6 ⟨v6,cs6,rfl,RP,hc6,hb6⟩;have K6:AK w4 w6:=AV K5 hb6;refine ⟨_,rfl,Yk.o _ K6,?_⟩;obtain ⟨sA,sc,rfl⟩:=CG RP;refine DP 7 27 AJ rfl rfl An (Yk.o _ K6) rfl (fun W _=>Zj (cells:=#[AB AE k,AA sA s.length sc,AA rA p.length rc]) AJ) ?_;have KL6:=KL4.o.below K6 KL4.o.lt;have hall:(#[AB AE k,AA sA s.length sc,AA rA p.length rc]:Array AN).all (·.oneCell')=true:=Qi
 have hth:=Qr KL6 (o:=0) (n:=3) (Ac 3);have hS7:AK w (w6.setCells (w.heap.size+1+1) 0 [AB AE k,AA sA s.length sc,AA rA p.length rc]):=below_setCells _ _ _ _ (AV HB4.o K6) AG;have HG7:AI (w6.grownBy (w6.setCells (w.heap.size+1+1) 0 [AB AE k,AA sA s.length sc,AA rA p.length rc]) (some (w.heap.size+1+1))):=AF (Dt _ _ _ (eS _ _));have YD:=Yk.o _ K6;have hb8:BL (w.heap.size+1+1) w6 (w6.setCells (w.heap.size+1+1) 0 [AB AE k,AA sA s.length sc,AA rA p.length rc]):=below_setCells _ _ _ _ (Af _ _) (Ac _);replace YD:=And.intro (YD.1.below hb8 AG) (YD.2.below hb8 AG);have K7:AY (w6.setCells (w.heap.size+1+1) 0 [AB AE k,AA sA s.length sc,AA rA p.length rc]) (w.heap.size+1+1) 71 #[AB AE k,AA sA s.length sc,AA rA p.length rc]:=((KL6.put 0 _).put 1 _).put 2 _;refine rgS 8 71 (AX 8) (AX 27) (w.heap.size+1+1) 0 #[AB AE k,AA sA s.length sc,AA rA p.length rc] AJ rfl rfl rfl rfl AJ AJ rfl hth AB6 hall YD ?_;refine DP 9 9 AJ rfl rfl An YD rfl (v:=AB AE 0) (fun _ _=>rfl) ?_;refine Ed AJ ?_ _;simp only [CZ,Ch];generalize w6.setCells (w.heap.size+1+1) 0 [AB AE k,AA sA s.length sc,AA rA p.length rc]=w7 at *;go_wp2_with fail;have hsz:=K6.size;have h5:=K5.size;have h3:=H3.o;have h4:=ALa.o;exact AJn (.inl rfl) rfl rfl rfl rfl K7 underlying71 rfl AB6 ⟨_,cs6,_,cs,rfl,OG (RP.kept HG7.o (.inr (by intro e;have:=(RP.lt _ e).1;omega))) AG,JF hc6,OG ((Eh HO.o K6).kept HG7.o (.inr (by intro e;have:=(HO.o.lt _ e).1;omega))) AG,JF Dz.o,hS7⟩
def O5:Nat->Nat->AQ
 | 0,_=>[]
 | g+1,u=>if u < 128 then [(u:Int)] else bits .or .u8 ((u % 128:Nat):Int) 128::O5 g (u / 128)
def UI (n:Int):Int:=bits .xor .u64 (IntKind.u64.wrap (IntKind.u64.wrap n*2)) (IntKind.u64.wrap (n / 9223372036854775808))
def X5 (n:Int):AQ:=1::O5 10 (UI n).toNat
def M0 (l:AQ):AQ:=3::(O5 10 l.length++(l.map X5).flatten)
structure Br where
 Ar:Int
 no:Int
 schema:Int
 day:Int
 known:Int
 places:Int
 root:Dg
structure EG where
 Ar:Int
 round:Int
 schema:Int
 place:Int
 holder:Dg
 values:AQ
 links:List Dg
 claims:List Cn
structure Ha where
 Ar:Int
 round:Int
 schema:Int
 place:Int
 holder:Dg
 fields:AQ
 values:AQ
 link:Int
 token:Dg
 claims:List Cn
section
variable (H:AQ->AQ->Dg)
def ACb:AQ:=[99,108,97,105,109]
def AF3:AQ:=[108,105,110,107]
def msgP (schema claim value:Int) (holder:Dg):Dg:=H ACb (holder++M0 [schema,claim,value])
def L8 (schema link:Int) (token holder:Dg):Dg:=H AF3 (holder++token++M0 [schema,link])
def F8 (first schema:Int) (holder:Dg) (fs vs:AQ):List (Int×Dg):=(fs.zip vs).map fun p=>(first+p.1,msgP H schema p.1 p.2 holder)
def Mt (first present schema:Int) (holder:Dg) (ls:AQ) (ts:List Dg):List (Int×Dg):=(ls.zip ts).map fun p=>(first+present - 4+p.1,L8 H schema p.1 p.2 holder)
def Gt (first present schema:Int) (holder:Dg) (fs vs ls:AQ) (ts:List Dg):List (Int×Dg):=
 F8 H first schema holder fs vs++Mt H first present schema holder ls ts++[(first+present,msgP H schema (-1) 0 holder)]
def eH (ms:List (Int×Dg)) (cs:List Cn):Bool:=(ms.zip cs).all fun p=>decide (p.2.index=p.1.1)
def zF (root:Dg) (many:Int) (ms:List (Int×Dg)) (cs:List Cn):Bool:=(ms.zip cs).all fun p=>Fi H root many p.1.2 p.2
def JG (root:Dg) (many:Int) (ms:List (Int×Dg)) (cs:List Cn):Int:=if eH ms cs=true then if zF H root many ms cs=true then 0 else 60 else 190
def Gk (nf:Option Nat) (places:Int):Bool:=match nf with
 | none=>false
 | some n=>decide (1<=places) && decide (places<=16) && decide (places*((n:Int)+4+1)<=256)
def upto (n:Nat):AQ:=(List.range n).map fun (i:Nat)=>(i:Int)
def Dx (n:Nat) (val:Int->Int->Bool) (vs:AQ):Bool:=decide (vs.length=n) && ((upto n).zip vs).all fun p=>val p.1 p.2
def Fh (n:Nat) (c:EG):List (Int×Dg):=Gt H (c.place*((n:Int)+4+1)) ((n:Int)+4) c.schema c.holder (upto n) c.values (upto 4) c.links
def VR (n:Nat) (s:Ha):List (Int×Dg):=Gt H (s.place*((n:Int)+4+1)) ((n:Int)+4) s.schema s.holder s.fields s.values (if 0<=s.link then [s.link] else []) (if 0<=s.link then [s.token] else [])
def QS (seed:Dg) (l:List Dg) (ms:List (Int×Dg)):List Cn:=ms.map fun m=>Lu H seed l m.1.toNat m.2
def Eo (ck:Int) (nf:Option Nat) (val:Int->Int->Bool) (r:Br) (place:Int) (links:List Dg) (xs:Int) (vs:AQ):Bool:=
 decide (ck=0) && Gk nf r.places && decide (0<=place) && decide (place < r.places) && decide (links.length=4) && decide (xs=r.schema) && Dx (nf.getD 0) val vs
def N9 (r:Br) (place:Int) (holder:Dg) (links:List Dg) (vs:AQ):EG:=⟨r.Ar,r.no,r.schema,place,holder,vs,links,[]⟩
def C9 (seed:Dg) (n:Nat) (r:Br) (place:Int) (holder:Dg) (links:List Dg) (vs:AQ):EG:=
 {N9 r place holder links vs with claims:=QS H seed (Dp H seed (r.places*((n:Int)+4+1)).toNat) (Fh H n (N9 r place holder links vs))}
def eD (ck:Int):Int:=if ck=0 then 190 else 160
def Kq (nf:Option Nat) (val:Int->Int->Bool) (r:Br) (c:EG):Bool:=
 Gk nf r.places && (decide (c.Ar=r.Ar) && decide (c.round=r.no) && decide (c.schema=r.schema)) && (decide (0<=c.place) && decide (c.place < r.places) && Dx (nf.getD 0) val c.values) && (decide (c.links.length=4) && decide (c.claims.length=nf.getD 0+5))
def DZ (ck:Int) (nf:Option Nat) (val:Int->Int->Bool) (r:Br) (c:EG):Int:=
 if ck≠0 then 160 else if Kq nf val r c=true then JG H r.root (r.places*(((nf.getD 0:Nat):Int)+4+1)) (Fh H (nf.getD 0) c) c.claims else 190
def Nh (n:Nat):Int->AQ->Bool
 | _,[]=>true
 | last,f::l=>decide (last < f) && decide (f < n) && Nh n f l
def GI (nf:Option Nat) (c:EG) (fs:AQ) (link:Int):Bool:=match nf with
 | none=>false
 | some n=>(decide (c.values.length=n) && decide (c.links.length=4) && decide (c.claims.length=n+5)) && (Nh n (-1) fs && decide (-1<=link) && decide (link < 4))
def Gq:Dg:=List.replicate 32 0
def GQ:Cn:=⟨0,[],[]⟩
def Hx (n:Nat) (c:EG) (fs:AQ) (link:Int):Ha:=
 ⟨c.Ar,c.round,c.schema,c.place,c.holder,fs,fs.map fun f=>c.values.getD f.toNat 0,link,if 0<=link then c.links.getD link.toNat Gq else Gq,
  fs.map (fun f=>c.claims.getD f.toNat GQ)++(if 0<=link then [c.claims.getD (n+link.toNat) GQ] else [])++[c.claims.getD (n+4) GQ]⟩
def FS (ck:Int) (nf:Option Nat) (c:EG) (fs:AQ) (link:Int):Int:=if ck≠0 then 160 else if GI nf c fs link=true then 0 else 190
def Jj (nf:Option Nat) (val:Int->Int->Bool) (r:Br) (s:Ha):Bool:=
 Gk nf r.places && (decide (s.Ar=r.Ar) && decide (s.round=r.no) && decide (s.schema=r.schema)) && (decide (0<=s.place) && decide (s.place < r.places)) && (Nh (nf.getD 0) (-1) s.fields && decide (s.values.length=s.fields.length)) &&
 ((s.fields.zip s.values).all fun p=>val p.1 p.2) && (decide (-1<=s.link) && decide (s.link < 4) && (decide (s.link≠ -1) || decide (s.token=Gq))) && decide (s.claims.length=s.fields.length+(if s.link= -1 then 1 else 2))
def DJ (ck:Int) (nf:Option Nat) (val:Int->Int->Bool) (r:Br) (s:Ha):Int:=
 if ck≠0 then 160 else if Jj nf val r s=true then JG H r.root (r.places*(((nf.getD 0:Nat):Int)+4+1)) (VR H (nf.getD 0) s) s.claims else 190
end
theorem oH (n:Int) (w:AH) (h1: -9223372036854775808<=n) (h2:n<=9223372036854775807):AS prog 144 #[AB AE n] w fun e w'=>e=AW (AB .u64 (UI n))/\w'=w:=by
 go_enter func144,ntmps144;by_cases h0:0<=n
 ·have e1:IntKind.u64.wrap n=n:=Uk _ AG
  have e2:IntKind.u64.wrap (n*2)=n*2:=Uk _ AG;have e3:IntKind.u64.wrap (n / 9223372036854775808)=n / 9223372036854775808:=Uk _ AG;go_wp2;go_ret;exact ⟨DG (by rw [UI,e1,e2,e3]),rfl⟩
 go_wp2;go_ret;exact ⟨rfl,rfl⟩
theorem ur (n:Int):0<=UI n/\UI n < 18446744073709551616:=by have:=Go.wf_bits .xor .u64 (IntKind.u64.wrap (IntKind.u64.wrap n*2)) (IntKind.u64.wrap (n / 9223372036854775808));simp [Lit.wf,IntKind.min,IntKind.max,IntKind.signed,IntKind.bits] at this;unfold UI;omega
def OC (B:Nat) (v:AN) (n:Nat) (xs:List AN) (ys:AQ) (w:AH) (v':AN) (w':AH):Prop:=w'.ownsRow B 5 1 v' (n+ys.length) (xs++ys.map (Value.int .u8))/\w.grownBy w' v.ownBlock/\(v'.ownBlock=v.ownBlock\/∃b,v'.ownBlock=some b/\w.heap.size<=b)
theorem yU {a w w':AH} {r r':Option Nat} (h:a.grownBy w r) (k:w.grownBy w' r') (hr:r'=r\/∃b,r'=some b/\a.heap.size<=b):a.grownBy w' r:=
 ⟨k.os.trans h.os,k.tape.trans h.tape,k.output.trans h.output,BH h.size k.size,fun b hb hne=>by
  refine (k.block b (Av hb h.size) ?_).trans (h.block b hb hne);rcases hr with rfl | ⟨c,rfl,hc⟩
  · exact hne
  · intro e;injection e with e;omega⟩
theorem OC.refl {B n:Nat} {v:AN} {xs:List AN} {w:AH} (h:w.ownsRow B 5 1 v n xs):OC B v n xs [] w v w:=⟨by simpa using h,eS _ _,.inl rfl⟩
theorem OC.step {B n:Nat} {v v' v2:AN} {xs:List AN} {ys:AQ} {y:AQ} {w w' w2:AH} (h:OC B v n xs ys w v' w') (ho:w2.ownsRow B 5 1 v2 (n+ys.length+y.length) ((xs++ys.map (Value.int .u8))++y.map (Value.int .u8))) (hg:w'.grownBy w2 v'.ownBlock) (hb:v2.ownBlock=v'.ownBlock\/∃b,v2.ownBlock=some b/\w'.heap.size<=b):OC B v n xs (ys++y) w v2 w2:=by
 refine ⟨by rw [CX,<-Ji,DY,<-Gc];exact ho,yU h.2.1 hg h.2.2,?_⟩;rcases hb with e | ⟨b,e,hb⟩
 · rw [e];exact h.2.2
 · exact .inr ⟨b,e,BH h.2.1.size hb⟩
theorem pF {w:AH} {B n:Nat} {e:Ae} {v:AN} {xs:List AN} {w' a:AH} (ha:BL B a w) (hB:B<=w.heap.size) (h:w.ownsRow B e 1 v n xs) (hg:w.grownBy w' v.ownBlock):BL B a w':=ha.grown hg hB (fun r hr=>(h.lt r hr).1)
theorem aB (B:Nat) (v:AN) (n:Nat) (xs:List AN) (u:Nat) (w:AH) (ho:w.ownsRow B 5 1 v n xs) (hB:B<=w.heap.size) (hn:n<=100000) (hu:u < 18446744073709551616):
 AS prog 143 #[v,AB .u64 u] w fun e w'=>∃v',e=AW v'/\OC B v n xs (O5 10 u) w v' w':=by
 obtain ⟨i0,hi⟩:=TF;obtain ⟨HI,HO⟩:=Al hi ho;obtain ⟨Z,hZ⟩:=Ad (O5 10 u);have HZ:=AF hZ;rw [<-hZ];clear hi ho hZ;obtain ⟨A0,c0,rfl⟩:=CG HO.o;go_enter func143,ntmps143;go_wp2_with fail;go_loopg [0,1] 10 (fun g v' x' wr=>∃(k x:Nat) (ys:AQ),g=k/\0 < k/\k<=10/\x < 128 ^ k/\x < 18446744073709551616/\x'=AB .u64 x/\ys++O5 k x=Z/\ys.length<=10 - k/\OC B (AA A0 n c0) n xs ys w v' wr)
 case atStart=>exact ⟨10,u,[],rfl,by decide,Ac _,Nat.lt_trans hu Ai,hu,rfl,HZ.o.symm,Ay _,OC.refl HO.o⟩
 obtain ⟨k,x,ys,hg,hk0,hk,hx,hx2,rfl,hz,hy,hgr⟩:=hrel;obtain ⟨A1,c1,rfl⟩:=CG hgr.1;obtain ⟨HG,HX,HZ2,Gp,HOW⟩:=Db hg hx hz hgr hgr.1;have Ot:AI (B<=wr.heap.size):=AF (BH hB hgr.2.1.size);have HY:=AF hy;clear hg hx hz hgr hy;obtain ⟨k,rfl⟩:∃j,k=j+1:=⟨k - 1,by omega⟩;have HSG:AI (∀(y:Int) v5 w5,w5.ownsRow B 5 1 v5 (n+ys.length+1) ((xs++ys.map (Value.int .u8))++[AB Am y])->(wr.alloc (AO #[AB Am y] 5)).grownBy w5 (Value.slice A1 (n+ys.length) c1).ownBlock->(v5.ownBlock=(Value.slice A1 (n+ys.length) c1).ownBlock\/v5.ownBlock=some (wr.alloc (AO #[AB Am y] 5)).heap.size)->OC B (AA A0 n c0) n xs (ys++[y]) w v5 w5):=AF (fun y v5 w5 h1 h2 h3=>Gp.o.step h1 (Kl (D8 _ _ _) h2) (h3.imp id (fun h=>⟨_,h,by simp⟩)));by_cases hlt:x < 128
 ·have hx128:¬(128:Int)<=(x:Int):=by omega
  have hw8:IntKind.u8.wrap (x:Int)=(x:Int):=IntWalk.u8_in _ AG;have hzz:ys++[(x:Int)]=Z:=by rw [<-HZ2.o,O5,Ak hlt]
  have fE:=AF hzz;clear hzz;go_wp2_with (at_builtin;refine CQ _ rfl (AX 16) (AX 19) 104 5 rfl i0 (AB Am 0) 1 underlying104 HI.o.1 HI.o.2.1 HI.o.2.2.1 HI.o.2.2.2 rfl Ai (R:=JH) NU B _ _ _ rfl (HOW.o.alloc _) (some ⟨wr.heap.size,0,none⟩) 1 1 [(x:Int)] rfl (Gm (d:=[(x:Int)]) (AY.new wr 5 (yA [(x:Int)])) AZ) (by have:=HY.o;unfold maxLen;omega) (by have:=HY.o;omega) (by have:=Ot.o;simp;omega) ?_;intro v5 w5 Nu hc5 Gi hg5 Og);go_ret;obtain rfl:=Ir hc5;rw [<-fE.o];exact ⟨v5,rfl,HSG.o _ _ _ Gi hg5 Og⟩
 have hx128:(128:Int)<=(x:Int):=AG
 have ha:bits .and .u64 (x:Int) 127=((x % 128:Nat):Int):=by have:=bits_and_u64_nat x 127 hx2 Ai;rw [show (127:Nat)=2 ^ 7 - 1 from rfl,Nat.and_two_pow_sub_one_eq_mod] at this;exact this
 have hw8:IntKind.u8.wrap ((x % 128:Nat):Int)=((x % 128:Nat):Int):=IntWalk.u8_in _ AG;obtain ⟨r,hr⟩:=Ad (((x % 128:Nat):Int):Int);obtain ⟨y,hy⟩:=Ad (bits .or .u8 r 128);rw [<-hr] at ha hw8;have HZ3:AI (∀m,k=m->(ys++[y])++O5 m (x / 128)=Z):=AF (fun m hm=>by rw [<-HZ2.o,O5,Ah hlt,hy,hr,hm,Gc];rfl);have HX3:AI (x / 128 < 128 ^ k):=AF (by have:=HX.o;rw [Nat.pow_succ,Nat.mul_comm] at this;exact Nat.div_lt_of_lt_mul this);have hk0':0 < k:=by
  rcases Pt k with h | h
  · subst h;have:=HX.o;omega
  · exact h
 have hor:=hy.symm;have LJ:=AF hlt;clear hr hlt hy;go_wp2_with (at_builtin;refine CQ _ rfl (AX 7) (AX 12) 104 5 rfl i0 (AB Am 0) 1 underlying104 HI.o.1 HI.o.2.1 HI.o.2.2.1 HI.o.2.2.2 rfl Ai (R:=JH) NU B _ _ _ rfl (HOW.o.alloc _) (some ⟨wr.heap.size,0,none⟩) 1 1 [y] rfl (Gm (d:=[y]) (AY.new wr 5 (yA [y])) AZ) (by have:=HY.o;unfold maxLen;omega) (by have:=HY.o;omega) (by have:=Ot.o;simp;omega) ?_;intro v5 w5 Nu hc5 Gi hg5 Og);obtain rfl:=Ir hc5;go_roundg k
 case measure=>exact Ej
 case rel=>exact ⟨k,x / 128,ys++[y],rfl,hk0',by omega,HX3.o,Nat.lt_of_le_of_lt (Nat.div_le_self _ _) hx2,by congr 1,HZ3.o k rfl,by have:=HY.o;rw [CX];simp;omega,HSG.o _ _ _ Gi hg5 Og⟩
def ADx (n:Int):List AN:=[AB AE 1,AB AE n,AL ⟨#[]⟩,AA none 0 0]
def Oy (_:AH) (cs:List AN) (n:Int):Prop:=cs=ADx n/\ -9223372036854775808<=n/\n<=9223372036854775807
theorem Mp:Ep Oy:=fun _ _ _ _ _ h=>h
theorem oG {w:AH} {A:Option Aa} {n c k:Nat} {l:AQ} (h:Ag 4 Oy w (AA A n c) l) (hk:k < n):
 ∃b off x,A=some ⟨b,off,none⟩/\b < w.heap.size/\l[k]? =some x/\ -9223372036854775808<=x/\x<=9223372036854775807/\w.cell? ⟨b,off+k*4,none⟩=some (AB AE 1)/\w.cell? ⟨b,off+k*4+1,none⟩=some (AB AE x)/\w.cell? ⟨b,off+k*4+2,none⟩=some (AL ⟨#[]⟩)/\w.cell? ⟨b,off+k*4+3,none⟩=some (AA none 0 0):=by
 obtain ⟨b,off,x,cs,rfl,hb,hx,_,hc,rfl,h1,h2⟩:=h.at_ hk;exact ⟨b,off,x,rfl,hb,hx,h1,h2,hc 0 _ rfl,hc 1 _ rfl,hc 2 _ rfl,hc 3 _ rfl⟩
theorem yY (n:Int) (w:AH):AS prog 140 #[AP #[AB AE 1,AB AE n,AL ⟨#[]⟩,AA none 0 0]] w fun e w'=>e=AW (Ab true)/\AK w w':=by go_enter func140,ntmps140;go_wp2;go_ret;exact ⟨rfl,(Af _ _).alloc (Ac _) _⟩
theorem ACW (n:Int) (w:AH):AS prog 141 #[AP #[AB AE 1,AB AE n,AL ⟨#[]⟩,AA none 0 0]] w fun e w'=>e=AW (AB AE 0)/\AK w w':=by go_enter func141,ntmps141;go_wp2;go_ret;exact ⟨rfl,(Af _ _).alloc (Ac _) _⟩
theorem tF (A:Option Aa) (n c:Nat) (l:AQ) (w:AH) (h:Ag 4 Oy w (AA A n c) l):AS prog 140 #[AP #[AB AE 3,AB AE 0,AL ⟨#[]⟩,AA A n c]] w fun e w'=>e=AW (Ab true)/\AK w w':=by
 have hn:n<=9223372036854775807:=by have:=h.le;omega
 have HS:=AF h;clear h;go_enter func140,ntmps140;go_wp2_with fail;go_loopg [42] n (fun q i wr=>∃k:Nat,k<=n/\q=n - k/\i=AB AE k/\AK w wr)
 case atStart=>exact ⟨0,Ay _,rfl,rfl,(Af _ _).alloc (Ac _) _⟩
 obtain ⟨k,hk,hq,rfl,hb⟩:=hrel;obtain ⟨HQ,HB⟩:=Al hq hb;clear hq hb;by_cases hlt:k < n
 ·obtain ⟨b,off,x,rfl,hbl,hx,_,_,e0,e1,e2,e3⟩:=oG (HS.o.mono Mp HB.o) hlt
  have hkn:(k:Int) < (n:Int):=AG
  have hk0:=Int.natCast_nonneg k
  clear hx;go_wp2_with (go_at_call 140;refine (yY _ _).mono ?_;rintro e w2 ⟨rfl,hb2⟩);go_roundg (n - (k+1))
  case measure=>exact Bi
  exact ⟨k+1,by omega,rfl,by go_num,(HB.o.alloc HB.o.size _).trans (hb2.mono (BH HB.o.size AZ))⟩
 exact nE
theorem yg (A:Option Aa) (n c:Nat) (l:AQ) (w:AH) (h:Ag 4 Oy w (AA A n c) l):AS prog 141 #[AP #[AB AE 3,AB AE 0,AL ⟨#[]⟩,AA A n c]] w fun e w'=>e=AW (AB AE 1)/\AK w w':=by
 have hn:n<=9223372036854775807:=by have:=h.le;omega
 have HS:=AF h;clear h;go_enter func141,ntmps141;go_wp2_with fail;go_loopg [3,12] n (fun q s i wr=>∃k:Nat,k<=n/\q=n - k/\s=AB AE 0/\i=AB AE k/\AK w wr)
 case atStart=>exact ⟨0,Ay _,rfl,rfl,rfl,(Af _ _).alloc (Ac _) _⟩
 obtain ⟨k,hk,hq,rfl,rfl,hb⟩:=hrel;obtain ⟨HQ,HB⟩:=Al hq hb;clear hq hb;by_cases hlt:k < n
 ·obtain ⟨b,off,x,rfl,hbl,hx,_,_,e0,e1,e2,e3⟩:=oG (HS.o.mono Mp HB.o) hlt
  have hkn:(k:Int) < (n:Int):=AG
  have hk0:=Int.natCast_nonneg k
  clear hx;go_wp2_with (go_at_call 141;refine (ACW _ _).mono ?_;rintro e w2 ⟨rfl,hb2⟩);go_roundg (n - (k+1))
  case measure=>exact Bi
  exact ⟨k+1,by omega,rfl,rfl,by go_num,(HB.o.alloc HB.o.size _).trans (hb2.mono (BH HB.o.size AZ))⟩
 exact nE
theorem i5 (A:Option Aa) (n c:Nat) (l:AQ) (w:AH) (h:Ag 4 Oy w (AA A n c) l):AS prog 96 #[AP #[AB AE 3,AB AE 0,AL ⟨#[]⟩,AA A n c]] w fun e w'=>e=AW (AB AE 0)/\AK w w':=by
 have H1:AI (∀W,AK w W->AS prog 140 #[AP #[AB AE 3,AB AE 0,AL ⟨#[]⟩,AA A n c]] W fun e w'=>e=AW (Ab true)/\AK W w'):=AF (fun W hW=>tF A n c l W (h.mono Mp hW));have H2:AI (∀W,AK w W->AS prog 141 #[AP #[AB AE 3,AB AE 0,AL ⟨#[]⟩,AA A n c]] W fun e w'=>e=AW (AB AE 1)/\AK W w'):=AF (fun W hW=>yg A n c l W (h.mono Mp hW));clear h;go_enter func96,ntmps96;go_upto_region 1 with fail;obtain ⟨k1,b1,s1⟩:=bx w #[AB AE 3,AB AE 0,AL ⟨#[]⟩,AA A n c] 144;generalize (w.alloc (AO #[AB AE 3,AB AE 0,AL ⟨#[]⟩,AA A n c] 144))=w1 at k1 b1 s1 ⊢;have l1:=k1.lt;have e0:=k1.cell 0;have e1:=k1.cell 1;have e2:=k1.cell 2;have e3:=k1.cell 3;simp only [Aj,Ao,BA] at e0 e1 e2 e3;obtain ⟨K1,HB⟩:=Al k1 b1;clear k1 b1 s1;go_wp2_with (first
  | (
   go_at_call 140;refine (H1.o _ HB.o).mono ?_;rintro e w2 ⟨rfl,hb⟩;have k2:=K1.o.below hb K1.o.lt;have l2:=k2.lt;have f0:=k2.cell 0;have f1:=k2.cell 1;have f2:=k2.cell 2;have f3:=k2.cell 3;simp only [Aj,Ao,BA] at f0 f1 f2 f3;have HB2:=AF (AV HB.o hb);clear hb k2)
  | (
   go_at_call 141;refine (H2.o _ HB2.o).mono ?_;rintro e w3 ⟨rfl,hb⟩;have HB3:=AF (AV HB2.o hb);clear hb))
 go_ret;exact ⟨rfl,HB3.o⟩
theorem AJo {P:BE} {fn:Func} {a:Act} {p:Tmp} {ty:Ae} {t:Ae} {ds:TypeDesc} {cs:Array AN} {g:Nat} {w:AH} {x:Exit} {R:Ending->AH->Prop} (hx:x=.ret\/x=.normal) (h:fn.results=#[.cell p ty]) (hp:a.tmps.getD p undef=AU (some ⟨g,0,none⟩)) (hdf:a.defers=[]) (hg:AY w g t cs) (hu:P.underlying ty=some ds) (hds:(match ds with | .struct _ | .array _ _=>true | _=>false)=true) (hi:(P.info? ty).map (·.size)=some cs.size) (hR:R (AW (.agg cs)) w):
 bodyPost P fn R x a w:=by
 have hr:(results fn a.tmps).run P w=.ok (.agg cs) w:=by
  have hp':a.tmps[p]?.getD undef=AU (some ⟨g,0,none⟩):=by simpa using hp
  simp [results,h,hp',asAddr,run_loadVar_row w g t ty cs (0,0) ds hg hu hds hi]
 exact zy
def u9 (g:Nat):Array AN:=#[.nilFunc,.func (.func 142) #[] #[],.func (.func 145) #[] #[],.func (.func 146) #[] #[AU (some ⟨g,0,none⟩)]]
theorem AJ9:(prog.info? 187).map (·.size)=some 4:=by kernel_rfl
theorem ro (w:AH):AS prog 97 #[] w fun e w'=>e=AW (AP (u9 w.heap.size))/\AY w' w.heap.size 187 (u9 w.heap.size)/\AK w w':=by have hmf:∀(fn:Fn) (first cap:Array AN) (w:AH),(Instr.makeFunc fn first cap).run prog w=.ok (.func fn first cap) w:=fun _ _ _ _=>rfl;go_enter func97,ntmps97;go_wp2_with fail;exact AJo (.inl rfl) rfl rfl rfl (AY.new w _ _) underlying187 rfl AJ9 ⟨rfl,AY.new _ _ _,(Af _ _).alloc (Ac _) _⟩
theorem n9 (B:Nat) (v:AN) (n:Nat) (xs:List AN) (x:Int) (w:AH) (ho:w.ownsRow B 5 1 v n xs) (hB:B<=w.heap.size) (hn:n<=90000) (h1: -9223372036854775808<=x) (h2:x<=9223372036854775807):
 AS prog 142 #[v,AP #[AB AE 1,AB AE x,AL ⟨#[]⟩,AA none 0 0]] w fun e w'=>∃v',e=AW v'/\OC B v n xs (X5 x) w v' w':=by
 obtain ⟨i0,hi⟩:=TF;obtain ⟨HI,HO⟩:=Al hi ho;have HU:AI (∀W,AS prog 144 #[AB AE x] W fun e w'=>e=AW (AB .u64 (UI x))/\W=w'):=AF (fun W=>(oH x W h1 h2).mono fun e w' h=>⟨h.1,h.2.symm⟩);obtain ⟨u,hu⟩:∃u:Nat,UI x=u:=⟨(UI x).toNat,by have:=ur x;omega⟩;have hu2:u < 18446744073709551616:=by have:=ur x;omega
 have hip:X5 x=[1]++O5 10 u:=by rw [X5,hu,Cq];rfl
 rw [hip];rw [hu] at HU;obtain ⟨A0,c0,rfl⟩:=CG ho;clear hi ho hu hip;go_enter func142,ntmps142;go_upto_region 1 with fail;obtain ⟨k1,b1,s1⟩:=bx w #[AB AE 1,AB AE x,AL ⟨#[]⟩,AA none 0 0] 144;have IG:=AF (HO.o.alloc (AO #[AB AE 1,AB AE x,AL ⟨#[]⟩,AA none 0 0] 144));generalize (w.alloc (AO #[AB AE 1,AB AE x,AL ⟨#[]⟩,AA none 0 0] 144))=w1 at k1 b1 s1 IG ⊢;have l1:=k1.lt;obtain ⟨K1,AFu,HZ⟩:=BB k1 b1 s1;clear k1 b1 s1;have TQ:AI (some w.heap.size≠(Value.slice A0 n c0).ownBlock):=AF uL;obtain ⟨HC0,K2⟩:=Al (K1.o.cell 1) ((K1.o.alloc (AO #[AB Am 1] 5)).drew);have J7:=AF (K2.o.cell 1);have HB1:AI (B<=w1.heap.size):=AF U3;have HYY:AI (∀v5 w5,w5.ownsRow B 5 1 v5 (n+1) (xs++[1].map (Value.int .u8))->((w1.alloc (AO #[AB Am 1] 5)).drew).grownBy w5 (Value.slice A0 n c0).ownBlock->(v5.ownBlock=(Value.slice A0 n c0).ownBlock\/v5.ownBlock=some ((w1.alloc (AO #[AB Am 1] 5)).drew).heap.size)->OC B (AA A0 n c0) n xs [1] w v5 w5):=AF (fun v5 w5 h1 h2 h3=>⟨h1,Kl (grown_drew (UV (Lc AFu.o _) _)) h2,h3.imp id (fun h=>⟨_,h,by show w.heap.size<=(w1.alloc _).heap.size;have:=HZ.o;simp;omega⟩)⟩);have HNN:AI (∀v5:AN,(v5.ownBlock=(Value.slice A0 n c0).ownBlock\/v5.ownBlock=some ((w1.alloc (AO #[AB Am 1] 5)).drew).heap.size)->some w.heap.size≠v5.ownBlock):=AF (fun v5 h e=>by
  rcases h with h | h
  · exact TQ.o (e.trans h)
  · rw [h] at e;injection e with e;have e:w.heap.size=(w1.alloc (AO #[AB Am 1] 5)).heap.size:=e;have:=HZ.o;simp at e;omega)
 go_region_held3 (fun W=>W.cell? ⟨w.heap.size,1,none⟩=some (AB AE x)) (first | exact HC0.o | exact J7.o | exact wE.o | exact lm.o | fail) (first
  | (go_at_call 144;(with_reducible refine (HU.o _).mono ?_);rintro e w2 ⟨rfl,rfl⟩)
  | (
   refine P7 _ DR (AX 5) (AX 6) 104 5 DR i0 (AB Am 0) 1 underlying104 HI.o.1 HI.o.2.1 HI.o.2.2.1 HI.o.2.2.2 rfl Ai (R:=JH) NU B _ n xs DR (IG.o.alloc (AO #[AB Am 1] 5)).drew (some ⟨w1.heap.size,0,none⟩) 1 1 [1] DR (Gm (d:=[1]) (AY.new w1 5 (yA [1])).drew Ai) ?_ ?_ ?_ ?_
   · exact SX
   · omega
   · exact BH HB1.o AZ
   intro v5 w5 Nu hc5 Gi hg5 Og;obtain rfl:=Ir hc5;obtain ⟨wE,Yp,Yw,KY,K5,XG⟩:=Fg ((K2.o.grown hg5 (TQ.o)).cell 1) Gi hg5 (HYY.o v5 w5 Gi hg5 Og) (K2.o.grown hg5 TQ.o) (HNN.o v5 Og);clear hc5 Gi hg5 Og)
  | (
   go_at_call 143
   (with_reducible refine (aB B v5 (n+1) _ u _ Yp.o ?_ ?_ hu2).mono ?_)
   · exact BH (BH HB1.o AZ) Yw.o.size
   · omega
   rintro e w6 ⟨v6,rfl,Na⟩;obtain ⟨lm,rY⟩:=Al ((K5.o.grown Na.2.1 XG.o).cell 1) (KY.o.step Na.1 Na.2.1 Na.2.2);clear Na)
  | fail)
 go_wp2_with fail
 all_goals (go_ret;exact ⟨v6,rfl,rY.o⟩)
def MZ (l:AQ) (k:Nat):AQ:=3::(O5 10 l.length++((l.take k).map X5).flatten)
theorem qW (l:AQ):MZ l l.length=M0 l:=by rw [MZ,Ps];rfl
theorem kY {l:AQ} {k:Nat} {x:Int} (h:l[k]? =some x):MZ l (k+1)=MZ l k++X5 x:=by rw [MZ,take_snoc h,DY,Px,MZ];simp
theorem bI:∀(g u:Nat),(O5 g u).length<=g
 | 0,_=>Ac _
 |
  g+1,u=>by
  rw [O5];split
  · simp
  have:=bI g (u / 128);exact dE
theorem ADy (x:Int):(X5 x).length<=11:=by have:=bI 10 (UI x).toNat;simp only [X5,F6];omega
theorem bk (l:AQ):∀k,(MZ l k).length<=11+k*11
 | 0=>by have:=bI 10 l.length;simp [MZ];omega
 |
  k+1=>by
  have h:=bk l k;rcases FL k l.length with hk | hk
  ·rw [kY (BN hk),CX]
   have:=ADy l[k];omega
  have e:MZ l (k+1)=MZ l k:=by rw [MZ,MZ,C7 AG,C7 hk]
  rw [e];omega
theorem n8 (A:Option Aa) (m c g:Nat) (l:AQ) (w:AH) (hl:Ag 4 Oy w (AA A m c) l) (hm:m<=1000) (ht:AY w g 187 (u9 g)):
 AS prog 146 #[AA none 0 0,AP #[AB AE 3,AB AE 0,AL ⟨#[]⟩,AA A m c],AU (some ⟨g,0,none⟩)] w (cJ (M0 l) w):=by
 obtain ⟨i0,hi⟩:=TF;obtain ⟨HI,HL,Hc,HT⟩:=CD hi hl hl.len ht;have lg:=ht.lt;clear hi hl ht;go_enter func146,ntmps146;go_upto_region 1 with fail;obtain ⟨k1,b1,s1⟩:=bx w #[AB AE 3,AB AE 0,AL ⟨#[]⟩,AA A m c] 144;generalize (w.alloc (AO #[AB AE 3,AB AE 0,AL ⟨#[]⟩,AA A m c] 144))=w1 at k1 b1 s1 ⊢;have l1:=k1.lt;obtain ⟨K1,AFu,HZ⟩:=BB k1 b1 s1;clear k1 b1 s1;obtain ⟨HN0,HC0,K2⟩:=BB (Ef ((w1.alloc (AO #[AB Am 3] 5)).drew) w.heap.size 5 1) (K1.o.cell 3) ((K1.o.alloc (AO #[AB Am 3] 5)).drew);have J7:=AF (K2.o.cell 3);have HYY:AI (∀v5 w5,w5.ownsRow w.heap.size 5 1 v5 (0+1) ([]++[3].map (Value.int .u8))->((w1.alloc (AO #[AB Am 3] 5)).drew).grownBy w5 (Value.slice none 0 0).ownBlock->(v5.ownBlock=(Value.slice none 0 0).ownBlock\/v5.ownBlock=some ((w1.alloc (AO #[AB Am 3] 5)).drew).heap.size)->OC w.heap.size (AA none 0 0) 0 [] [3] w v5 w5):=AF (fun v5 w5 h1 h2 h3=>⟨h1,Kl (grown_drew (UV (Lc AFu.o _) _)) h2,h3.imp id (fun h=>⟨_,h,by show w.heap.size<=(w1.alloc _).heap.size;have:=HZ.o;simp;omega⟩)⟩);have HNN:AI (∀v5:AN,(v5.ownBlock=(Value.slice none 0 0).ownBlock\/v5.ownBlock=some ((w1.alloc (AO #[AB Am 3] 5)).drew).heap.size)->some w.heap.size≠v5.ownBlock):=AF (fun v5 h e=>by
  rcases h with h | h
  · rw [h] at e;simp [Value.ownBlock] at e
  · rw [h] at e;injection e with e;have e:w.heap.size=(w1.alloc (AO #[AB Am 3] 5)).heap.size:=e;have:=HZ.o;simp at e;omega)
 have hm0:(0:Int)<=(m:Int):=AG
 have hmw:IntKind.u64.wrap (m:Int)=(m:Int):=Uk _ AG
 go_region_held3 (fun W=>W.cell? ⟨w.heap.size,3,none⟩=some (AA A m c)) (first | exact HC0.o | exact J7.o | exact wE.o | exact lm.o | fail) (first
  | (
   refine P7 _ DR (AX 8) (AX 9) 104 5 DR i0 (AB Am 0) 1 underlying104 HI.o.1 HI.o.2.1 HI.o.2.2.1 HI.o.2.2.2 rfl Ai (R:=JH) NU w.heap.size (AA none 0 0) 0 [] DR HN0.o (some ⟨w1.heap.size,0,none⟩) 1 1 [3] DR (Gm (d:=[3]) (AY.new w1 5 (yA [3])).drew Ai) ?_ ?_ ?_ ?_
   · exact SX
   · omega
   · have:=HZ.o;show w.heap.size<=(w1.alloc _).heap.size;simp;omega
   intro v5 w5 Nu hc5 Gi hg5 Og;obtain rfl:=Ir hc5;obtain ⟨wE,Yp,Yw,KY,K5,XG⟩:=Fg ((K2.o.grown hg5 Nl).cell 3) Gi hg5 (HYY.o v5 w5 Gi hg5 Og) (K2.o.grown hg5 Nl) (HNN.o v5 Og);clear hc5 Gi hg5 Og)
  | (
   go_at_call 143
   (with_reducible refine (aB w.heap.size v5 (0+1) _ m _ Yp.o ?_ ?_ ?_).mono ?_)
   · have h1:=KY.o.2.1.size;exact h1
   · omega
   · omega
   rintro e w6 ⟨v6,rfl,Na⟩;have K6:=AF (K5.o.grown Na.2.1 XG.o);obtain ⟨lm,rY⟩:=Al (K6.o.cell 3) (KY.o.step Na.1 Na.2.1 Na.2.2);clear Na)
  | fail)
 have he:[3]++O5 10 m=MZ l 0:=by rw [MZ,<-Hc.o];simp
 have ho:=rY.o.1;rw [he,Es,IJ] at ho;have Fb:AI (AK w w6):=AF ((Af _ _).grown rY.o.2.1 (Ac _) (fun r hr=>by simp [Value.ownBlock] at hr));obtain ⟨A6,c6,rfl⟩:=CG ho;have c3:=lm.o;have l6:=K6.o.lt;have Q7:=AF ho;clear HYY HNN rY lm HN0 HC0 J7 K2 ho he;have hmm:m<=9223372036854775807:=AG
 have HE:AI (∀k,(MZ l k).length<=11+k*11):=AF (bk l);go_wp2_with fail;clear c3;go_loopg [0,19] m (fun q v i wr=>∃k:Nat,k<=m/\q=m - k/\i=AB AE k/\wr.ownsRow w.heap.size 5 1 v (MZ l k).length ((MZ l k).map (Value.int .u8))/\AK w wr)
 case atStart=>exact ⟨0,Ay _,rfl,rfl,Q7.o,Fb.o⟩
 clear Q7 Fb;obtain ⟨k,hk,hq,rfl,ho,hb⟩:=hrel;obtain ⟨A7,c7,rfl⟩:=CG ho;obtain ⟨HQ,HB,HO⟩:=BB hq hb ho;clear hq hb ho;by_cases hlt:k < m
 ·obtain ⟨b,off,x,rfl,hbl,hx,hx1,hx2,e0,e1,e2,e3⟩:=oG (HL.o.mono Mp HB.o) hlt
  have hkn:(k:Int) < (m:Int):=AG
  have hk0:=Int.natCast_nonneg k
  have HX:=AF hx;clear hx;go_upto_region 5 with fail;obtain ⟨k8,b8,s8⟩:=bx wr #[AB AE 1,AB AE x,AL ⟨#[]⟩,AA none 0 0] 144;obtain ⟨HO8,HT8,IH⟩:=BB (HO.o.alloc (AO #[AB AE 1,AB AE x,AL ⟨#[]⟩,AA none 0 0] 144)) ((HT.o.below HB.o lg).alloc (AO #[AB AE 1,AB AE x,AL ⟨#[]⟩,AA none 0 0] 144)) (HB.o.alloc HB.o.size (AO #[AB AE 1,AB AE x,AL ⟨#[]⟩,AA none 0 0] 144));generalize (wr.alloc (AO #[AB AE 1,AB AE x,AL ⟨#[]⟩,AA none 0 0] 144))=w8 at k8 b8 s8 HO8 HT8 IH ⊢;have Lf:AI (∀W,AY W wr.heap.size 144 #[AB AE 1,AB AE x,AL ⟨#[]⟩,AA none 0 0]->AY W g 187 (u9 g)->W.cell? ⟨wr.heap.size,0,none⟩=some (AB AE 1)/\W.cell? ⟨wr.heap.size,1,none⟩=some (AB AE x)/\W.cell? ⟨wr.heap.size,2,none⟩=some (AL ⟨#[]⟩)/\W.cell? ⟨wr.heap.size,3,none⟩=some (AA none 0 0)/\W.cell? ⟨g,1,none⟩=some (.func (.func 142) #[] #[])):=AF (fun W h1 h2=>⟨h1.cell 0,h1.cell 1,h1.cell 2,h1.cell 3,h2.cell 1⟩);have K8:=AF k8.drew;have HS8:=AF (Lf.o _ K8.o HT8.o.drew);have HL8:AI (w8.heap.size=wr.heap.size+1):=AF s8;have lb:=k8.lt;have lg8:=HT8.o.lt;clear k8 b8 s8 e0 e1 e2 e3 HT
  go_region_held3 (fun W=>W.cell? ⟨wr.heap.size,0,none⟩=some (AB AE 1)/\W.cell? ⟨wr.heap.size,1,none⟩=some (AB AE x)/\W.cell? ⟨wr.heap.size,2,none⟩=some (AL ⟨#[]⟩)/\W.cell? ⟨wr.heap.size,3,none⟩=some (AA none 0 0)/\W.cell? ⟨g,1,none⟩=some (.func (.func 142) #[] #[])) (first | exact HS8.o | exact HS9.o | fail) (first
   | (
    go_at_call 142
    (with_reducible refine (n9 w.heap.size _ (MZ l k).length _ x _ HO8.o.drew ?_ ?_ hx1 hx2).mono ?_)
    · exact IH.o.size
    · have:=HE.o k;omega
    rintro e w9 ⟨v9,rfl,hg9⟩;obtain ⟨Nf,HS9,HO9⟩:=BB (IH.o.drew.grown hg9.2.1 IH.o.size (fun r hr=>(HO8.o.lt r hr).1)) (Lf.o _ (K8.o.grown hg9.2.1 uL) (HT8.o.drew.grown hg9.2.1 (Dj HO8.o lg))) hg9.1;clear hg9)
   | fail)
  go_wp2;go_roundg (m - (k+1))
  case measure=>exact Bi
  refine ⟨k+1,by omega,rfl,by go_num,?_,Nf.o⟩;rw [kY HX.o,CX,DY];exact HO9.o
 have hkm:k=l.length:=by have:=Hc.o;omega
 go_wp2;go_ret;rw [<-qW,<-hkm];exact ⟨_,rfl,HO.o,HB.o⟩
def AGC (l:AQ) (w:AH) (e:Ending) (w':AH):Prop:=∃v,e=AW (BU #[v,AB AE 0])/\w'.ownsRow w.heap.size 5 1 v l.length (l.map (Value.int .u8))/\AK w w'
theorem ye (A:Option Aa) (m c:Nat) (l:AQ) (w:AH) (hl:Ag 4 Oy w (AA A m c) l) (hm:m<=1000):
 AS prog 68 #[AP #[AB AE 3,AB AE 0,AL ⟨#[]⟩,AA A m c]] w (AGC (M0 l) w):=by
 have HC:AI (∀W,AK w W->AS prog 96 #[AP #[AB AE 3,AB AE 0,AL ⟨#[]⟩,AA A m c]] W fun e w'=>e=AW (AB AE 0)/\AK W w'):=AF (fun W hW=>i5 A m c l W (hl.mono Mp hW));have H3:AI (∀g W,AK w W->AY W g 187 (u9 g)->AS prog 146 #[AA none 0 0,AP #[AB AE 3,AB AE 0,AL ⟨#[]⟩,AA A m c],AU (some ⟨g,0,none⟩)] W (cJ (M0 l) W)):=AF (fun g W hW ht=>n8 A m c g l W (hl.mono Mp hW) hm ht);obtain ⟨Z,hZ⟩:=Ad (M0 l);rw [<-hZ] at H3 ⊢;clear hl hZ;go_enter func68,ntmps68;go_upto_region 1 with fail;obtain ⟨k1,b1,s1⟩:=bx w #[AB AE 3,AB AE 0,AL ⟨#[]⟩,AA A m c] 144;generalize (w.alloc (AO #[AB AE 3,AB AE 0,AL ⟨#[]⟩,AA A m c] 144))=w1 at k1 b1 s1 ⊢;have l1:=k1.lt;have e0:=k1.cell 0;have e1:=k1.cell 1;have e2:=k1.cell 2;have e3:=k1.cell 3;simp only [Aj,Ao,BA] at e0 e1 e2 e3;obtain ⟨K1,HB1⟩:=Al k1 b1;clear k1 b1 s1;go_upto_region 5 with (first
  | (
   go_at_call 96;refine (HC.o _ HB1.o).mono ?_;rintro e w2 ⟨rfl,hb⟩;obtain ⟨K2,HB2⟩:=Al (K1.o.below hb K1.o.lt) (AV HB1.o hb);clear hb)
  | (
   go_at_call 97;refine (ro _).mono ?_;rintro e w3 ⟨rfl,ht,hb⟩;obtain ⟨K3,HT3,HB3⟩:=BB (K2.o.below hb K2.o.lt) ht (AV HB2.o hb);clear hb ht;unfold u9))
 have kt:=AY.new w3 187 #[.nilFunc,.func (.func 142) #[] #[],.func (.func 145) #[] #[],.func (.func 146) #[] #[AU (some ⟨w2.heap.size,0,none⟩)]];have Lf:AI (∀W,BL (w3.heap.size+1) (w3.alloc (AO #[.nilFunc,.func (.func 142) #[] #[],.func (.func 145) #[] #[],.func (.func 146) #[] #[AU (some ⟨w2.heap.size,0,none⟩)]] 187)) W->W.cell? ⟨w.heap.size,0,none⟩=some (AB AE 3)/\W.cell? ⟨w.heap.size,1,none⟩=some (AB AE 0)/\W.cell? ⟨w.heap.size,2,none⟩=some (AL ⟨#[]⟩)/\W.cell? ⟨w.heap.size,3,none⟩=some (AA A m c)/\W.cell? ⟨w3.heap.size,3,none⟩=some (.func (.func 146) #[] #[AU (some ⟨w2.heap.size,0,none⟩)])):=AF (fun W hW=>by have a:=(K3.o.alloc (AO #[.nilFunc,.func (.func 142) #[] #[],.func (.func 145) #[] #[],.func (.func 146) #[] #[AU (some ⟨w2.heap.size,0,none⟩)]] 187)).below hW (Nat.lt_succ_of_lt K3.o.lt);have b:=kt.below hW (I9 _);exact ⟨a.cell 0,a.cell 1,a.cell 2,a.cell 3,b.cell 3⟩)
 obtain ⟨HT4,HB4⟩:=Al ((HT3.o.alloc (AO #[.nilFunc,.func (.func 142) #[] #[],.func (.func 145) #[] #[],.func (.func 146) #[] #[AU (some ⟨w2.heap.size,0,none⟩)]] 187)).drew) ((HB3.o.alloc HB3.o.size (AO #[.nilFunc,.func (.func 142) #[] #[],.func (.func 145) #[] #[],.func (.func 146) #[] #[AU (some ⟨w2.heap.size,0,none⟩)]] 187)).drew);have hk1:=K3.o.lt;have hk2:=kt.lt;have lV:=AF (Lf.o _ (Af _ _).drew);have HZ4:AI ((w3.alloc (AO #[.nilFunc,.func (.func 142) #[] #[],.func (.func 145) #[] #[],.func (.func 146) #[] #[AU (some ⟨w2.heap.size,0,none⟩)]] 187)).heap.size=w3.heap.size+1):=AF AZ;clear kt;generalize (w3.alloc (AO #[.nilFunc,.func (.func 142) #[] #[],.func (.func 145) #[] #[],.func (.func 146) #[] #[AU (some ⟨w2.heap.size,0,none⟩)]] 187))=w4 at *
 go_region_held3 (fun W=>W.cell? ⟨w.heap.size,0,none⟩=some (AB AE 3)/\W.cell? ⟨w.heap.size,1,none⟩=some (AB AE 0)/\W.cell? ⟨w.heap.size,2,none⟩=some (AL ⟨#[]⟩)/\W.cell? ⟨w.heap.size,3,none⟩=some (AA A m c)/\W.cell? ⟨w3.heap.size,3,none⟩=some (.func (.func 146) #[] #[AU (some ⟨w2.heap.size,0,none⟩)])) (first | exact lV.o | exact Vm.o | fail) (first
  | (
   go_at_call 146
   (with_reducible refine (H3.o w2.heap.size _ HB4.o HT4.o).mono ?_)
   rintro e w5 ⟨v5,rfl,Gi,hb5⟩;obtain ⟨Vm,Cg,Yp⟩:=BB (Lf.o _ ((Af _ _).drew.trans (hb5.mono (by show _<=w4.heap.size;rw [HZ4.o];exact Ac _)))) (AV HB4.o hb5) (OG Gi HB4.o.size);clear Gi hb5)
  | fail)
 go_wp2;go_ret2;exact ⟨v5,rfl,Yp.o,Cg.o⟩
theorem kX (xs ys:AQ) (w:AH):∀is:List Nat,(∀i∈is,i < xs.length/\i < ys.length)->(Op.eqItems 9999 5 1 (yA xs) (yA ys) is).run prog w=.ok (is.all fun i=>xs[i]? ==ys[i]?) w
 | [],_=>by simp [Op.eqItems]
 |
  i::is,h=>by
  obtain ⟨h1,h2⟩:=h i AZ;have e1:(yA xs)[i*1]? =some (AB Am xs[i]):=by rw [Ga,yA,Aj,Bg,BN h1];rfl
  have e2:(yA ys)[i*1]? =some (AB Am ys[i]):=by rw [Ga,yA,Aj,Bg,BN h2];rfl
  have hp:prog.plainKey 5=true:=AJ
  simp only [Op.eqItems,Cp,Be w hp e1,Be w hp e2,Result.andThen_ok,MT w 9998 5 .u8 .u8 _ _ underlying5];rw [Pp,BN h1,BN h2];have hih:=kX xs ys w is (fun j hj=>h j (by simp [hj]));cases hc:(xs[i]==ys[i])
  · simp [hc]
  · simp [hc,hih]
theorem Zq {xs ys:AQ} (hx:xs.length=32) (hy:ys.length=32) (w:AH):(Op.equalIn 10000 34 (AP (yA xs)) (AP (yA ys))).run prog w=.ok (decide (xs=ys)) w:=by
 obtain ⟨i,hi⟩:=fY.1 (show (prog.info? 5).isSome=true by kernel_rfl);have hc:prog.cellsOf 5=1:=AJ
 have h:=run_equalIn_array w 9999 (yA xs) (yA ys) underlying34 hi;rw [hc,kX xs ys w _ (fun j hj=>by have:=Eu.1 hj;omega)] at h;refine Er h ?_;have e:((List.range 32).all fun i=>xs[i]? ==ys[i]?)=decide (xs=ys):=by
  rw [Bool.eq_iff_iff,DM,By];constructor
  ·intro h
   apply OW;intro j;rcases FL j 32 with hj | hj
   · simpa using h j (Eu.2 hj)
   · rw [Dh AG,Dh AG]
  rintro rfl j _;simp
 rw [e]
theorem Wd {P:BE} {w:AH} {ops:Array Oper} {rest:List Oper} {o:Oper} {a:Act} {Q:Exit->Act->AH->Prop} (hw:Region.wanted o (yielded ops a.tmps)=true) (ty:Ae) (x:Operand) (ho:o.op=.load ty x)
 (g:Nat) (d:AQ) (hx:a.eval x=AU (some ⟨g,0,none⟩)) (t:Ae) (ds:TypeDesc) (hg:AY w g t (yA d)) (hu:P.underlying ty=some ds) (hds:(match ds with | .struct _ | .array _ _=>true | _=>false)=true) (hi:(P.info? ty).map (·.size)=some 32) (hd:d.length=32)
 (h:wpList P ops Q rest (a.put o.dst (AP (yA d))) w):wpList P ops Q (o::rest) a w:=
 Uu hw fun K hK=>by unfold Oper.wp execOp;exact ABB
theorem TD:prog.eqGuardType prog.depth 34=false:=by kernel_rfl
theorem xr:(prog.info? 34).bind (·.zero)=some (AP (yA (zeros 32))):=by kernel_rfl
theorem dy {C:Nat->Bool} {k:Nat} (h:∀j,j < k->C j=true) (hc:C k=true):∀j,j < k+1->C j=true:=fun j hj=>by
 rcases FL j k with h1 | h1
 · exact h j h1
 obtain rfl:j=k:=AG
 exact hc
def vC (root:AQ) (many:Int) (m:AQ) (q:Cn):Nat->Bool
 | 0=>decide (1<=many) && decide (many<=256)
 | 1=>decide (0<=q.index) && decide (q.index < many)
 | 2=>decide (q.chains.length=19)
 | _=>decide (I6 Aw (IC Aw m q.chains) q.index.toNat many.toNat q.path=some root)
theorem wO (root:AQ) (many:Int) (m:AQ) (q:Cn):Fi Aw root many m q=(vC root many m q 0 && vC root many m q 1 && vC root many m q 2 && vC root many m q 3):=by simp only [Fi,vC,Bool.and_assoc]
theorem AGL (bm:Nat) (many:Int) (root m:AQ) (q:Cn) (w:AH) (hm:AY w bm 3 #[AB AE many]):AS prog 87 #[AU (some ⟨bm,0,none⟩)] w fun e w'=>e=AW (Ab (vC root many m q 0))/\w'=w:=by
 have c0:=hm.cell 0;have l0:=hm.lt;simp only [Aj,Ao] at c0;clear hm;go_enter func87,ntmps87;by_cases h1:1<=many
 ·go_wp2
  go_ret;exact ⟨by simp [vC,h1],rfl⟩
 go_wp2;go_ret;exact ⟨by simp [vC];omega,rfl⟩
theorem AGK (bl bm:Nat) (many:Int) (root m:AQ) (q:Cn) (v1 v2:AN) (w:AH) (hl:AY w bl 71 #[AB AE q.index,v1,v2]) (hm:AY w bm 3 #[AB AE many]):AS prog 88 #[AU (some ⟨bl,0,none⟩),AU (some ⟨bm,0,none⟩)] w fun e w'=>e=AW (Ab (vC root many m q 1))/\w'=w:=by
 have c0:=hm.cell 0;have l0:=hm.lt;have d0:=hl.cell 0;have l1:=hl.lt;simp only [Aj,Ao] at c0 d0;clear hm hl;go_enter func88,ntmps88;by_cases h1:0<=q.index
 ·go_wp2
  go_ret;exact ⟨by simp [vC,h1],rfl⟩
 go_wp2;go_ret;exact ⟨by simp [vC];omega,rfl⟩
theorem AGJ (bg bl bp:Nat) (many:Int) (root m:AQ) (q:Cn) (v1 v2:AN) (w:AH) (hg:AY w bg 34 (yA m)) (hl:AY w bl 71 #[AB AE q.index,v1,v2]) (hp:AY w bp 34 (yA (zeros 32))) (hm:m.length=32) (hr:∀x∈m,0<=x/\x < 256) (hT:Cc w) (hs:Ag 32 CP w v1 q.chains):
 AS prog 89 #[AU (some ⟨bg,0,none⟩),AU (some ⟨bl,0,none⟩),AU (some ⟨bp,0,none⟩)] w fun e w'=>e=AW (Ab (vC root many m q 2))/\AY w' bp 34 (yA (if q.chains.length=19 then IC Aw m q.chains else zeros 32))/\w.grownBy w' (some bp):=by
 obtain ⟨A,c,rfl⟩:=hs.form;obtain ⟨HM,Cd,HZ⟩:=BB hm Fw xr;have d0:=hl.cell 1;have l1:=hl.lt;simp only [Aj,Ao,BA] at d0;have HC:=AF (sL m A q.chains.length c q.chains w hm hr hT hs);obtain ⟨R,hR⟩:∃R,R=if q.chains.length=19 then IC Aw m q.chains else zeros 32:=⟨_,rfl⟩
 obtain ⟨E,hE⟩:∃E:Int,E=if q.chains.length=19 then 0 else 50:=⟨_,rfl⟩
 have hv:vC root many m q 2=decide (E=0):=by rw [vC,hE];by_cases h:q.chains.length=19 <;> simp [h]
 have hRL:R.length=32:=by
  rw [hR];split
  · rw [IC,JX];exact DN _ _
  · simp [zeros]
 rw [<-hR,<-hE] at HC;rw [<-hR,hv];obtain ⟨T8,KG,KP⟩:=BB hRL hg hp;clear hm hr hT hs hg hl hp hR hE hv hRL;go_enter func89,ntmps89;go_wp2_with (first
  | (refine Cb rfl 34 (AX 0) rfl bg m rfl 34 _ KG.o underlying34 rfl Cd.o HM.o ?_)
  | (
   go_at_call 90;refine HC.o.mono ?_;rintro e w2 ⟨rfl,hb⟩;obtain ⟨HB,KP2,KN⟩:=BB hb ((KP.o.below hb KP.o.lt).alloc (AO (yA (zeros 32)) 34)) (AY.new w2 34 (yA (zeros 32)));clear hb)
  | (refine Ek rfl 34 rfl _ HZ.o ?_)
  | (
   refine Ds rfl 34 (AX 4) (AX 11) rfl w2.heap.size R rfl rfl 34 (yA (zeros 32)) KN.o Cd.o EY T8.o ?_;intro w3 k3 hb3 hg3;have K3:=AF k3;have HB3:AI (AK w w3):=AF ((HB.o.alloc HB.o.size _).trans (hb3.mono HB.o.size));have KP3:=AF (KP2.o.grown hg3 (by intro e;injection e with e;have:=KP.o.lt;have:=HB.o.size;omega));clear k3 hb3 hg3)
  | (refine Cb rfl 34 (AX 4) rfl w2.heap.size R rfl 34 _ K3.o underlying34 rfl Cd.o T8.o ?_)
  | (
   refine Ds rfl 34 (AX 2) (AX 13) rfl bp R rfl rfl 34 (yA (zeros 32)) KP3.o Cd.o EY T8.o ?_;intro w4 k4 hb4 hg4))
 go_ret;exact ⟨rfl,k4,Kl (Lc HB3.o _) hg4⟩
theorem AGI (bp bl bm br:Nat) (many:Int) (root m K:AQ) (q:Cn) (v1 v2:AN) (w:AH) (hp:AY w bp 34 (yA K)) (hl:AY w bl 71 #[AB AE q.index,v1,v2]) (hm:AY w bm 3 #[AB AE many]) (hr:AY w br 34 (yA root)) (hK:K.length=32) (hrl:root.length=32) (hT:Cc w) (hs:Ag 32 CP w v2 q.path)
 (hk:K=IC Aw m q.chains) (h0:0<=q.index) (h1:q.index < many) (h2:many<=256):
 AS prog 91 #[AU (some ⟨bp,0,none⟩),AU (some ⟨bl,0,none⟩),AU (some ⟨bm,0,none⟩),AU (some ⟨br,0,none⟩)] w fun e w'=>e=AW (Ab (vC root many m q 3))/\AK w w':=by
 obtain ⟨A,c,rfl⟩:=hs.form;obtain ⟨J6,HRT,Cd,HZ⟩:=CD hK hrl Fw xr;have d0:=hl.cell 0;have d2:=hl.cell 2;have l1:=hl.lt;have c0:=hm.cell 0;have l2:=hm.lt;simp only [Aj,Ao,BA] at d0 d2 c0;obtain ⟨i,hi⟩:∃i:Nat,q.index=i:=⟨q.index.toNat,by omega⟩;obtain ⟨n,rfl⟩:∃n:Nat,many=n:=⟨many.toNat,by omega⟩;rw [hi] at d0 h1;have HC:=AF (ACa K i n A q.path.length c q.path w hK AG AG hT hs);obtain ⟨C,hC⟩:=Ad (I6 Aw K i n q.path);obtain ⟨R,hR⟩:=Ad (C.getD (zeros 32));obtain ⟨E,hE⟩:=Ad (if C.isSome then 0 else 1:Int)
 have hRL:R.length=32:=by
  rw [hR,hC,I6];split
  · exact ABM (DN _ _) _
  · simp [zeros]
 have hv:vC root n m q 3=(decide (E=0) && decide (R=root)):=by show decide (I6 Aw (IC Aw m q.chains) q.index.toNat ((n:Int)).toNat q.path=some root)=_;rw [<-hk,hi,Cq,Cq,<-hC,hE,hR];cases C <;> simp
 rw [<-hC,<-hR,<-hE] at HC;rw [hv];obtain ⟨T8,KP,KR⟩:=BB hRL hp hr;have hde:=fun W=>Zq hRL hrl W;have hgd:=TD;clear hK hrl hT hs hl hm hp hr hR hE hv hRL hC hk;go_enter func91,ntmps91;by_cases hE0:E=0
 all_goals
  go_wp2_with (first
   | (refine Cb rfl 34 (AX 0) rfl bp K rfl 34 _ KP.o underlying34 rfl Cd.o J6.o ?_)
   | (
    go_at_call 92;refine HC.o.mono ?_;rintro e w2 ⟨rfl,hb⟩;obtain ⟨HB,Nb,KN⟩:=BB hb ((KR.o.below hb KR.o.lt).alloc (AO (yA (zeros 32)) 34)) (AY.new w2 34 (yA (zeros 32)));clear hb)
   | (refine Ek rfl 34 rfl _ HZ.o ?_)
   | (
    refine Ds rfl 34 (AX 5) (AX 15) rfl w2.heap.size R rfl rfl 34 (yA (zeros 32)) KN.o Cd.o EY T8.o ?_;intro w3 k3 hb3 hg3;have K3:=AF k3;have HB3:AI (AK w w3):=AF ((HB.o.alloc HB.o.size _).trans (hb3.mono HB.o.size));have RT:=AF (Nb.o.grown hg3 (by intro e;injection e with e;have:=KR.o.lt;have:=HB.o.size;omega));clear k3 hb3 hg3)
   | (refine Wd rfl 34 (AX 5) rfl w2.heap.size R rfl 34 _ K3.o underlying34 rfl Cd.o T8.o ?_)
   | (refine Wd rfl 34 (AX 3) rfl br root rfl 34 _ RT.o underlying34 rfl Cd.o HRT.o ?_))
  go_ret;exact ⟨by simp [hE0],HB3.o⟩
theorem iZ (root m:AQ) (many:Int) (q:Cn) (v1 v2:AN) (w:AH) (hrl:root.length=32) (hm:m.length=32) (hr:∀x∈m,0<=x/\x < 256) (hT:Cc w) (hs1:Ag 32 CP w v1 q.chains) (hs2:Ag 32 CP w v2 q.path):
 AS prog 64 #[AP (yA root),AB AE many,AP (yA m),AP #[AB AE q.index,v1,v2]] w fun e w'=>e=AW (AB AE (if Fi Aw root many m q=true then 0 else 60))/\AK w w':=by
 obtain ⟨A1,c1,rfl⟩:=hs1.form;obtain ⟨A2,c2,rfl⟩:=hs2.form;have HZ:=AF xr;have hmf:∀(fn:Fn) (first cap:Array AN) (w:AH),(Instr.makeFunc fn first cap).run prog w=.ok (.func fn first cap) w:=fun _ _ _ _=>rfl;obtain ⟨C,hC⟩:∃C:Nat->Bool,C=vC root many m q:=⟨_,rfl⟩;have hv:Fi Aw root many m q=(C 0 && C 1 && C 2 && C 3):=by rw [hC];exact wO root many m q
 obtain ⟨K,hK⟩:∃K,K=if q.chains.length=19 then IC Aw m q.chains else zeros 32:=⟨_,rfl⟩
 have H1:AI (∀W bm,AY W bm 3 #[AB AE many]->AS prog 87 #[AU (some ⟨bm,0,none⟩)] W fun e w'=>e=AW (Ab (C 0))/\w'=W):=AF (fun W bm h=>by rw [hC];exact AGL bm many root m q W h);have H2:AI (∀W bl bm,AY W bl 71 #[AB AE q.index,AA A1 q.chains.length c1,AA A2 q.path.length c2]->AY W bm 3 #[AB AE many]->AS prog 88 #[AU (some ⟨bl,0,none⟩),AU (some ⟨bm,0,none⟩)] W fun e w'=>e=AW (Ab (C 1))/\w'=W):=AF (fun W bl bm h k=>by rw [hC];exact AGK bl bm many root m q _ _ W h k);have H3:AI (∀W bg bl bp,AK w W->AY W bg 34 (yA m)->AY W bl 71 #[AB AE q.index,AA A1 q.chains.length c1,AA A2 q.path.length c2]->AY W bp 34 (yA (zeros 32))->AS prog 89 #[AU (some ⟨bg,0,none⟩),AU (some ⟨bl,0,none⟩),AU (some ⟨bp,0,none⟩)] W fun e w'=>e=AW (Ab (C 2))/\AY w' bp 34 (yA K)/\W.grownBy w' (some bp)):=AF (fun W bg bl bp hW h1 h2 h3=>by rw [hC,hK];exact AGJ bg bl bp many root m q _ _ W h1 h2 h3 hm hr (hT.below hW) (hs1.mono BO hW));have H4:AI (∀W bp bl bm br,AK w W->C 0=true->C 1=true->C 2=true->AY W bp 34 (yA K)->AY W bl 71 #[AB AE q.index,AA A1 q.chains.length c1,AA A2 q.path.length c2]->AY W bm 3 #[AB AE many]->AY W br 34 (yA root)->AS prog 91 #[AU (some ⟨bp,0,none⟩),AU (some ⟨bl,0,none⟩),AU (some ⟨bm,0,none⟩),AU (some ⟨br,0,none⟩)] W fun e w'=>e=AW (Ab (C 3))/\AK W w'):=AF (fun W bp bl bm br hW e0 e1 e2 h1 h2 h3 h4=>by
  rw [hC] at e0 e1 e2 ⊢;simp only [vC,Bb,By] at e0 e1 e2;have hK':K=IC Aw m q.chains:=by rw [hK,Ak e2]
  exact AGI bp bl bm br many root m K q _ _ W h1 h2 h3 h4 (by rw [hK',IC,JX];exact DN _ _) hrl (hT.below hW) (hs2.mono BO hW) hK' e1.1 e1.2 e0.2)
 rw [hv];obtain ⟨E,hE⟩:∃E:Int,E=if (C 0 && C 1 && C 2 && C 3)=true then 0 else 60:=⟨_,rfl⟩
 rw [<-hE];have HE:=AF hE;clear hC hK hv hrl hm hr hT hs1 hs2 hE;go_enter func64,ntmps64;go_upto_region 1 with fail;obtain ⟨k1,b1,s1⟩:=bx w (yA root) 34;generalize (w.alloc (AO (yA root) 34))=w1 at k1 b1 s1 ⊢;obtain ⟨k2,b2,s2⟩:=bx w1 #[AB AE many] 3;generalize (w1.alloc (AO #[AB AE many] 3))=w2 at k2 b2 s2 ⊢;obtain ⟨k3,b3,s3⟩:=bx w2 (yA m) 34;generalize (w2.alloc (AO (yA m) 34))=w3 at k3 b3 s3 ⊢;obtain ⟨k4,b4,s4⟩:=bx w3 #[AB AE q.index,AA A1 q.chains.length c1,AA A2 q.path.length c2] 71;generalize (w3.alloc (AO #[AB AE q.index,AA A1 q.chains.length c1,AA A2 q.path.length c2] 71))=w4 at k4 b4 s4 ⊢;obtain ⟨k5,b5,s5⟩:=bx w4 (yA (zeros 32)) 34;rw [s1] at k2 b2 s2;rw [s2] at k3 b3 s3;rw [s3] at k4 b4 s4;rw [s4] at k5 b5 s5;have b25:=(b3.trans (b4.mono (Et _))).trans (b5.mono AG);obtain ⟨K1,K2,K3,K4,K5,HB,Vm⟩:=LU ((k1.below b2 AG).below b25 AG) (k2.below b25 AG) ((k3.below b4 AG).below b5 AG) (k4.below b5 AG) k5 ((b1.trans (b2.mono AG)).trans (b25.mono AG)) s5;clear k1 k2 k3 k4 k5 b1 b2 b3 b4 b5 b25 s1 s2 s3 s5;go_upto_region 2 with (refine Ek rfl 34 rfl _ HZ.o ?_);generalize (w4.alloc (AO (yA (zeros 32)) 34))=w5 at *;go_wp2_with fail;clear s4;have KF:=AF (AY.new w5 42 #[.func (.func 87) #[] #[AU (some ⟨w.heap.size+1,0,none⟩)],.func (.func 88) #[] #[AU (some ⟨w.heap.size+1+1+1,0,none⟩),AU (some ⟨w.heap.size+1,0,none⟩)],.func (.func 89) #[] #[AU (some ⟨w.heap.size+1+1,0,none⟩),AU (some ⟨w.heap.size+1+1+1,0,none⟩),AU (some ⟨w.heap.size+1+1+1+1,0,none⟩)],.func (.func 91) #[] #[AU (some ⟨w.heap.size+1+1+1+1,0,none⟩),AU (some ⟨w.heap.size+1+1+1,0,none⟩),AU (some ⟨w.heap.size+1,0,none⟩),AU (some ⟨w.heap.size,0,none⟩)]]);have lQ:AI (w5.heap.size=w.heap.size+1+1+1+1+1):=AF (by have:=Vm.o;omega);go_loopg [20] 4 (fun g i wr=>∃k:Nat,k<=4/\g=4 - k/\i=AB AE k/\(∀j,j < k->C j=true)/\AY wr w.heap.size 34 (yA root)/\AY wr (w.heap.size+1) 3 #[AB AE many]/\AY wr (w.heap.size+1+1) 34 (yA m)/\AY wr (w.heap.size+1+1+1) 71 #[AB AE q.index,AA A1 q.chains.length c1,AA A2 q.path.length c2]/\AY wr (w.heap.size+1+1+1+1) 34 (yA (if k<=2 then zeros 32 else K))/\AY wr w5.heap.size 42 #[.func (.func 87) #[] #[AU (some ⟨w.heap.size+1,0,none⟩)],.func (.func 88) #[] #[AU (some ⟨w.heap.size+1+1+1,0,none⟩),AU (some ⟨w.heap.size+1,0,none⟩)],.func (.func 89) #[] #[AU (some ⟨w.heap.size+1+1,0,none⟩),AU (some ⟨w.heap.size+1+1+1,0,none⟩),AU (some ⟨w.heap.size+1+1+1+1,0,none⟩)],.func (.func 91) #[] #[AU (some ⟨w.heap.size+1+1+1+1,0,none⟩),AU (some ⟨w.heap.size+1+1+1,0,none⟩),AU (some ⟨w.heap.size+1,0,none⟩),AU (some ⟨w.heap.size,0,none⟩)]]/\AK w wr)
 case atStart=>exact ⟨0,Ay _,rfl,rfl,fun j hj=>absurd hj (Y8 _),K1.o.alloc _,K2.o.alloc _,K3.o.alloc _,K4.o.alloc _,K5.o.alloc _,KF.o,HB.o.alloc HB.o.size _⟩
 clear K1 K2 K3 K4 K5 KF HB;obtain ⟨k,hk,hg,rfl,hC,h1,h2,h3,h4,h5,h6,h7⟩:=hrel;obtain ⟨HG,Dz,K1,K2,K3,K4,K5,KF,HB⟩:=P4 hg hC h1 h2 h3 h4 h5 h6 h7;have lf:=h6.lt;have cf:=h6.cell k;clear hg hC h1 h2 h3 h4 h5 h6 h7 hmf;have hk5:k=0\/k=1\/k=2\/k=3\/k=4:=AG
 rcases hk5 with rfl | rfl | rfl | rfl | rfl
 ·simp only [Aj,Ao] at cf
  cases hc:C 0
  ·go_wp2_with (go_at_call 87;refine (H1.o _ _ K2.o).mono ?_;rintro e w6 ⟨rfl,rfl⟩)
   exact AA1
  go_wp2_with (go_at_call 87;refine (H1.o _ _ K2.o).mono ?_;rintro e w6 ⟨rfl,rfl⟩);go_roundg (4 - (0+1))
  case measure=>exact Ej
  case rel=>exact ⟨1,by omega,rfl,rfl,dy Dz.o hc,K1.o,K2.o,K3.o,K4.o,K5.o,KF.o,HB.o⟩
 ·simp only [Aj,Ao,BA] at cf
  cases hc:C 1
  ·go_wp2_with (go_at_call 88;refine (H2.o _ _ _ K4.o K2.o).mono ?_;rintro e w6 ⟨rfl,rfl⟩)
   exact AA1
  go_wp2_with (go_at_call 88;refine (H2.o _ _ _ K4.o K2.o).mono ?_;rintro e w6 ⟨rfl,rfl⟩);go_roundg (4 - (1+1))
  case measure=>exact Ej
  case rel=>exact ⟨2,by omega,rfl,rfl,dy Dz.o hc,K1.o,K2.o,K3.o,K4.o,K5.o,KF.o,HB.o⟩
 ·simp only [Aj,Ao,BA] at cf
  cases hc:C 2
  ·go_wp2_with (go_at_call 89;refine (H3.o _ _ _ _ HB.o K3.o K4.o K5.o).mono ?_;rintro e w6 ⟨rfl,kp6,Na⟩)
   go_ret;exact ⟨DG (by rw [HE.o];simp [hc]),(HB.o.grown Na HB.o.size (fun r hr=>by injection hr with hr;omega))⟩
  go_wp2_with (go_at_call 89;refine (H3.o _ _ _ _ HB.o K3.o K4.o K5.o).mono ?_;rintro e w6 ⟨rfl,kp6,Na⟩);go_roundg (4 - (2+1))
  case measure=>exact Ej
  case rel=>exact ⟨3,by omega,rfl,rfl,dy Dz.o hc,K1.o.grown Na FT,K2.o.grown Na FT,K3.o.grown Na FT,K4.o.grown Na FT,kp6,KF.o.grown Na (by intro e;injection e with e;have:=lQ.o;omega),HB.o.grown Na HB.o.size (fun r hr=>by injection hr with hr;omega)⟩
 ·simp only [Aj,Ao,BA] at cf
  cases hc:C 3
  ·go_wp2_with (go_at_call 91;refine (H4.o _ _ _ _ _ HB.o (Dz.o 0 Ai) (Dz.o 1 Ai) (Dz.o 2 Ai) K5.o K4.o K2.o K1.o).mono ?_;rintro e w6 ⟨rfl,hb6⟩)
   go_ret;exact ⟨DG (by rw [HE.o];simp [hc]),(AV HB.o hb6)⟩
  go_wp2_with (go_at_call 91;refine (H4.o _ _ _ _ _ HB.o (Dz.o 0 Ai) (Dz.o 1 Ai) (Dz.o 2 Ai) K5.o K4.o K2.o K1.o).mono ?_;rintro e w6 ⟨rfl,hb6⟩);go_roundg (4 - (3+1))
  case measure=>exact Ej
  case rel=>exact ⟨4,by omega,rfl,rfl,dy Dz.o hc,K1.o.below hb6 K1.o.lt,K2.o.below hb6 K2.o.lt,K3.o.below hb6 K3.o.lt,K4.o.below hb6 K4.o.lt,K5.o.below hb6 K5.o.lt,KF.o.below hb6 KF.o.lt,(AV HB.o hb6)⟩
 go_wp2;go_ret;exact ⟨DG (by rw [HE.o];simp [Dz.o 0 Ai,Dz.o 1 Ai,Dz.o 2 Ai,Dz.o 3 Ai]),HB.o⟩
theorem AGM:∃(j:TypeInfo) (z:AN),prog.info? 144=some j/\j.zero=some z/\z.cells.size=4/\j.size=4/\j.bytes=56:=by obtain ⟨j,hj,hz⟩:=EC.1 (show (prog.info? 144).map (fun i=>(i.zero.map (·.cells.size),i.size,i.bytes))=some (some 4,4,56) by kernel_rfl);simp only [Gd] at hz;obtain ⟨z,hz0,hz1⟩:=EC.1 hz.1;exact ⟨j,z,hj,hz0,hz1,hz.2⟩
theorem ACq:One Oy:=by rintro w cs x ⟨rfl,_⟩ u hu;simp only [ADx,B0,DX,DW] at hu;rcases hu with rfl | rfl | rfl | rfl <;> rfl
theorem uy {w w':AH} {cs:List AN} {l:AQ} (h:Ap 4 Oy w cs l):Ap 4 Oy w' cs l:=⟨h.1,fun i x hi=>h.2 i x hi⟩
theorem AGk (W:AH) (x:Int) (h1: -9223372036854775808<=x) (h2:x<=9223372036854775807):Ag 4 Oy (W.alloc (AO #[AB AE 1,AB AE x,AL ⟨#[]⟩,AA none 0 0] 144)) (AA (some ⟨W.heap.size,0,none⟩) 1 1) [x]:=by
 refine ⟨_,1,rfl,Ac _,by decide,fun i y hi=> ?_⟩;have hi0:i=0:=by have:=(BF.1 hi).1;simp at this;exact this
 subst hi0;simp only [Ao,Bz] at hi;subst hi;refine ⟨W.heap.size,0,ADx x,rfl,by simp,rfl,fun j u hu=> ?_,rfl,h1,h2⟩;rw [show 0+(0*4+j)=j by omega,(AY.new W 144 _).cell j,Aj];exact hu
theorem kq (A:Option Aa) (n c:Nat) (ds:List (AQ)) (N:Option Aa) (m d:Nat) (ns:AQ) (w:AH) (hd:Ag 32 CP w (AA A n c) ds) (hn:Ag 1 Bt w (AA N m d) ns) (hn1:n<=100) (hm1:m<=100):
 AS prog 49 #[AA A n c,AA N m d] w (cJ (ds.flatten++M0 ns) w):=by
 obtain ⟨i0,hi⟩:=TF;have HI:=AF hi;obtain ⟨j0,z0,hj⟩:=AGM;obtain ⟨HJ,HS,HN,Pg,Hc,Cd,HZ⟩:=LU hj hd hn hd.len hn.len Fw xr;obtain ⟨F,hF⟩:∃F:Nat->AQ,F=fun k=>(ds.take k).flatten:=⟨_,rfl⟩;have Ph:AI (∀k x,ds[k]? =some x->F (k+1)=F k++x):=AF (fun k x hx=>by rw [hF];simp only [take_snoc hx,Px];simp);have HF0:AI (F 0=[]):=AF (by rw [hF];simp);have MQ:AI (F n=ds.flatten):=AF (by rw [hF];simp only [hd.len,Ps]);rw [<-MQ.o];clear hi hj hd hn hF;go_enter func49,ntmps49;go_wp2_with fail;go_loopg [5,15] n (fun q v i wr=>∃k:Nat,k<=n/\q=n - k/\i=AB AE k/\wr.ownsRow w.heap.size 5 1 v (k*32) ((F k).map (Value.int .u8))/\AK w wr)
 case atStart=>exact ⟨0,Ay _,rfl,rfl,by rw [HF0.o];exact Ef _ _ _ _,Af _ _⟩
 obtain ⟨k,hk,hq,rfl,ho,hb⟩:=hrel;obtain ⟨HQ,HB,HO⟩:=BB hq hb ho;obtain ⟨rA,rc,rfl⟩:=CG ho;clear hq hb ho;by_cases hlt:k < n
 ·obtain ⟨b,off,x,rfl,hbl,hx,hxl,_,hrg⟩:=Kr (HS.o.mono BO HB.o) hlt
  have hkn:(k:Int) < (n:Int):=AG
  have hk0:=Int.natCast_nonneg k
  obtain ⟨HX,Ih,N0⟩:=BB hx hxl hrg;clear hx hxl hrg hbl;go_wp2_with (first
   | (refine Kj rfl 34 (AX 17) rfl b (off+k*32) rfl x _ N0.o underlying34 rfl Cd.o Ih.o ?_)
   | (refine Ek rfl 34 rfl _ HZ.o ?_)
   | (
    refine Ds rfl 34 (AX 7) (AX 18) rfl wr.heap.size x rfl rfl 34 (yA (zeros 32)) (AY.new _ _ _) Cd.o EY Ih.o ?_;intro w3 k3 hb3 hg3;obtain ⟨HB3,Ja,HY3⟩:=BB ((HB.o.alloc HB.o.size (AO (yA (zeros 32)) 34)).trans (hb3.mono HB.o.size)) ((HO.o.alloc (AO (yA (zeros 32)) 34)).kept hg3 (.inr t8)) (Ih.o ▸ Gm k3 (by rw [Ih.o];decide));clear k3 hb3 hg3)
   | (at_builtin;refine CQ _ rfl (AX 19) (AX 20) 104 5 rfl i0 (AB Am 0) 1 underlying104 HI.o.1 HI.o.2.1 HI.o.2.2.1 HI.o.2.2.2 rfl Ai (R:=JH) NU w.heap.size _ _ _ rfl Ja.o (some ⟨wr.heap.size,0,none⟩) 32 32 x rfl HY3.o Gx AG HB3.o.size ?_;intro v5 w5 Nu hc5 Gi hg5 Og))
  go_roundg (n - (k+1))
  case measure=>exact Bi
  obtain rfl:=Ir hc5;refine ⟨k+1,by omega,rfl,by go_num,?_,pF HB3.o HB3.o.size Ja.o hg5⟩;rw [Ph.o k x HX.o,DY,show (k+1)*32=k*32+32 by omega];exact Gi
 have hkn:k=n:=AG
 subst hkn;have hbl:(k:Int)<=(k:Int):=Int.le_refl _;have HMM:AI (m<=100):=AF hm1;have hm9:m<=9223372036854775807:=AG
 have HC:AI (∀(B:Option Aa) (e:Nat) W,Ag 4 Oy W (AA B ns.length e) ns->AS prog 68 #[AP #[AB AE 3,AB AE 0,AL ⟨#[]⟩,AA B ns.length e]] W (AGC (M0 ns) W)):=AF (fun B e W h=>ye B ns.length e ns W h Zb);have HEL:AI (1<=(M0 ns).length/\(M0 ns).length<=11+ns.length*11):=AF ⟨by simp [M0],by rw [<-qW];exact bk _ _⟩;obtain ⟨w0,rfl⟩:=Ad (wr:AH);have hfk:(F k).length=k*32:=by have:=HO.o.1;simpa using this
 clear hbl HQ hk hlt;go_upto_region 9 with fail;obtain ⟨k1,b1,s1⟩:=bx w0 #[AB AE 3,AB AE 0,AL ⟨#[]⟩,AA none 0 0] 144;obtain ⟨IG,HB1⟩:=Al (HO.o.alloc (AO #[AB AE 3,AB AE 0,AL ⟨#[]⟩,AA none 0 0] 144)) (HB.o.alloc HB.o.size (AO #[AB AE 3,AB AE 0,AL ⟨#[]⟩,AA none 0 0] 144));generalize (w0.alloc (AO #[AB AE 3,AB AE 0,AL ⟨#[]⟩,AA none 0 0] 144))=w1 at k1 b1 s1 IG HB1 ⊢;obtain ⟨K1,HZ1,HFK,Yg⟩:=CD k1 s1 hfk HB.o.size;clear k1 b1 s1 hfk;go_loopg [26] m (fun q i wr=>∃(j:Nat) (v:AN) (cs:List AN),j<=m/\q=m - j/\i=AB AE j/\AY wr w0.heap.size 144 #[AB AE 3,AB AE 0,AL ⟨#[]⟩,v]/\wr.ownsRow (w0.heap.size+1) 144 4 v j cs/\Ap 4 Oy wr cs (ns.take j)/\wr.ownsRow w.heap.size 5 1 (AA rA (k*32) rc) (k*32) ((F k).map (Value.int .u8))/\AK w wr/\w0.heap.size+1<=wr.heap.size)
 case atStart=>exact ⟨0,_,[],Ay _,rfl,rfl,K1.o,Ef _ _ _ _,Ap.nil,IG.o,HB1.o,by have:=HZ1.o;omega⟩
 clear K1 IG HB1 HZ1;obtain ⟨j,v,cs,hj,hq,rfl,h1,h2,h3,h4,h5,h6⟩:=hrel;obtain ⟨vA,vc,rfl⟩:=CG h2;have c0:=h1.cell 0;have c1:=h1.cell 1;have c2:=h1.cell 2;have c3:=h1.cell 3;have f3:=h1.frozen 3;have l1:=h1.lt;simp only [Aj,Ao,BA] at c0 c1 c2 c3;obtain ⟨HQ,K1,HV,PZ,Jz,HB2,HS2⟩:=LU hq h1 h2 h3 h4 h5 h6;clear hq h1 h2 h3 h4 h5 h6;by_cases hlt:j < m
 ·obtain ⟨b,off,x,rfl,hbl,hx,e0,hx1,hx2⟩:=ints_at (HN.o.mono BT HB2.o) hlt
  have hkn:(j:Int) < (m:Int):=AG
  have hk0:(0:Int)<=(j:Int):=AG
  have HX:=AF hx;clear hx c0 c1 c2;go_wp2_with (at_builtin;refine CQ _ rfl (AX 31) (AX 34) 142 144 rfl j0 z0 56 underlying142 HJ.o.1 HJ.o.2.1 HJ.o.2.2.2.1 HJ.o.2.2.2.2 HJ.o.2.2.1 Ai (R:=Oy) ACq (w0.heap.size+1) _ _ _ rfl (HV.o.alloc _) (some ⟨wr.heap.size,0,none⟩) 1 1 [x] rfl (AGk wr x hx1 hx2) Gx AG (by have:=HS2.o;simp;omega) ?_;intro v5 w5 Nu hc5 Gi hg5 Og;obtain ⟨A5,c5,rfl⟩:=CG Gi;have k5:=(K1.o.alloc (AO #[AB AE 1,AB AE x,AL ⟨#[]⟩,AA none 0 0] 144)).grown hg5 (Dj HV.o (I9 _));have f5:=k5.frozen 3;have l5:=k5.lt;have d5:=k5.cell 3;simp only [Aj,Ao,BA] at d5);have hb5:=(HB2.o.alloc HB2.o.size (AO #[AB AE 1,AB AE x,AL ⟨#[]⟩,AA none 0 0] 144)).grown hg5 (BH HB2.o.size AZ) (fun r hr=>by have:=(HV.o.lt r hr).1;have:=Yg.o;omega);have hne:(Value.slice rA (k*32) rc).ownBlock=none\/(Value.slice rA (k*32) rc).ownBlock≠(Value.slice vA j vc).ownBlock:=by
   rcases h:(Value.slice rA (k*32) rc).ownBlock with _ | r
   · exact .inl rfl
   refine .inr fun e=> ?_;have h1:=(HO.o.lt r h).2;have h2:=(HV.o.lt r e.symm).1;omega
  have ho9:=(Jz.o.alloc (AO #[AB AE 1,AB AE x,AL ⟨#[]⟩,AA none 0 0] 144)).kept hg5 hne;have hs9:=hg5.size;have hs8:=HS2.o;rw [Ev] at hs9;go_roundg (m - (j+1))
  case measure=>exact Bi
  refine ⟨j+1,_,cs++Nu,by omega,rfl,by go_num,k5.put 3 _,FO Gi (I9 _) _,?_,?_,hb5.setCell Yg.o _,?_⟩
  ·rw [take_snoc HX.o]
   exact Ap.append (uy PZ.o) (uy hc5)
  · exact Pz ho9 (fun e=>Nat.lt_irrefl _ (HO.o.lt _ e).2) _
  show w0.heap.size+1<=(w5.setCell _ _).heap.size;rw [R4];omega
 have hjm:j=ns.length:=by have:=Hc.o;omega
 subst hjm;clear f3;have HVV:=AF (B9 HV.o (by rw [<-Ps (l:=ns)];exact PZ.o) rfl);go_wp2_with (first
  | (
   go_at_call 68;refine (HC.o _ _ _ HVV.o).mono ?_;rintro e w6 ⟨v6,rfl,RP,hb6⟩;obtain ⟨g6,c6,rfl,hs6⟩:=VJ RP HEL.o.1 rfl;obtain ⟨Fb,Q7,lQ⟩:=BB (AV HB2.o hb6) (Eh Jz.o hb6) hs6;clear RP hb6 hs6)
  | (at_builtin;refine CQ _ rfl (AX 43) (AX 44) 104 5 rfl i0 (AB Am 0) 1 underlying104 HI.o.1 HI.o.2.1 HI.o.2.2.1 HI.o.2.2.2 rfl Ai (R:=JH) NU w.heap.size _ _ _ rfl Q7.o (some ⟨g6,0,none⟩) _ c6 (M0 ns) rfl lQ.o (by have:=HEL.o;have:=HMM.o;unfold maxLen;omega) (by have:=HEL.o;have:=HMM.o;omega) Fb.o.size ?_;intro v7 w7 cs7 aH Gh Ec vW))
 go_ret;obtain rfl:=Ir aH;refine ⟨v7,rfl,?_,pF Fb.o Fb.o.size Q7.o Ec⟩;rw [CX,DY,HFK.o];exact Gh
theorem qQ (xs cs:Array AN) (off:Nat):(xs.zipIdx.foldl (fun cs (x:AN×Nat)=>cs.setIfInBounds (off+x.2) x.1) cs).size=cs.size/\∀i,(xs.zipIdx.foldl (fun cs (x:AN×Nat)=>cs.setIfInBounds (off+x.2) x.1) cs)[i]? =if off<=i/\i < cs.size/\i < off+xs.size then xs[i - off]? else cs[i]? :=by
 have h:=Great.foldl_set off xs.toList 0 cs;have e:xs.zipIdx.foldl (fun cs (x:AN×Nat)=>cs.setIfInBounds (off+x.2) x.1) cs=(xs.toList.zipIdx 0).foldl (fun cs x=>cs.setIfInBounds (off+x.2) x.1) cs:=by
  obtain ⟨l⟩:=xs;have hz:(⟨l⟩:Array AN).zipIdx=(l.zipIdx 0).toArray:=AZ
  rw [hz];exact List.foldl_toArray' _ _ _ AZ
 rw [e];refine ⟨h.1,fun i=> ?_⟩;rw [h.2 i];simp only [Ee,Array.length_toList,Array.getElem?_toList];by_cases h1:off<=i/\i < cs.size/\i < off+xs.size
 · rw [Ak ⟨h1.1,h1.2.2,h1.2.1⟩,Ak h1]
 · rw [Ah (fun h2=>h1 ⟨h2.1,h2.2.2,h2.2.1⟩),Ah h1]
theorem AE0 {x y:AQ} (hx:x.length=32) (hy:y.length=32) (c:Array AN) (hc:c.size=64):Instr.fill (fun i=>some (i*32,32)) c [(0,AP (yA x)),(1,AP (yA y))]=some (yA (x++y)):=by
 have sx:(yA x).size=32:=by rw [CJ,hx]
 have sy:(yA y).size=32:=by rw [CJ,hy]
 have h1:=qQ (yA x) c 0;have h2:=qQ (yA y) ((yA x).zipIdx.foldl (fun cs (x:AN×Nat)=>cs.setIfInBounds (0+x.2) x.1) c) 32;have e:((yA y).zipIdx.foldl (fun cs (x:AN×Nat)=>cs.setIfInBounds (32+x.2) x.1) ((yA x).zipIdx.foldl (fun cs (x:AN×Nat)=>cs.setIfInBounds (0+x.2) x.1) c))=yA (x++y):=by
  apply R3;intro i;rw [h2.2 i,h1.1,h1.2 i,hc,sx,sy];have ea:(yA (x++y))[i]? =((x++y)[i]?).map (Value.int .u8):=by rw [yA,Aj,Bg]
  have eb:∀(l:AQ) k,(yA l)[k]? =(l[k]?).map (Value.int .u8):=fun l k=>by rw [yA,Aj,Bg]
  rw [ea,eb,eb];by_cases c1:i < 32
  · rw [Ah AG,Ak AG,EB AG,Nat.sub_zero]
  by_cases c2:i < 64
  · rw [Ak AG,Cj AG,hx]
  rw [Ah AG,Ah AG,NM AG,Dh (by rw [CX];omega)];rfl
 simp only [Instr.fill,Value.cells,sx,sy,Ru,Nat.one_mul,h1.1,hc];rw [Ah AZ,Ah AZ];exact congrArg some e
theorem rq {P:BE} {w:AH} {ops:Array Oper} {rest:List Oper} {o:Oper} {a:Act} {Q:Exit->Act->AH->Prop} (hg:o.guard=none) (t e:Ae) (p q:Operand) (ho:o.op=.buildSlice t 2 #[(0,p),(1,q)])
 (ie:TypeInfo) (z:AN) (hu:P.underlying t=some (.slice e)) (hie:P.info? e=some ie) (hz:ie.zero=some z) (hsz:ie.size=32) (x y:AQ) (hx:a.eval p=AP (yA x)) (hy:a.eval q=AP (yA y)) (hxl:x.length=32) (hyl:y.length=32)
 (h:wpList P ops Q rest (a.put o.dst (AA (some ⟨w.heap.size,0,none⟩) 2 2)) (w.alloc (AO (yA (x++y)) e))):wpList P ops Q (o::rest) a w:=
 wpList_buildSlice hg t e 2 #[(0,p),(1,q)] ho (yA (x++y)) ie z hu hie hz (by rw [hsz];decide) (by rw [hsz];decide) (by
  have e1:((#[(0,p),(1,q)]:Array (Nat×Operand)).map fun (i,x)=>(i,a.eval x)).toList=[(0,AP (yA x)),(1,AP (yA y))]:=by simp [hx,hy]
  rw [e1,hsz];exact AE0 hxl hyl _ AZ) h
theorem AG4 (W:AH) {x y:AQ} (hx:x.length=32) (hy:y.length=32):Ag 32 CP (W.alloc (AO (yA (x++y)) 34)) (AA (some ⟨W.heap.size,0,none⟩) 2 2) [x,y]:=by
 refine ⟨_,2,rfl,Ac _,by decide,fun i d hi=> ?_⟩;have hb:=AY.new W 34 (yA (x++y));have hil:i < 2:=by have:=(BF.1 hi).1;simpa using this
 have hdl:d.length=32:=by
  rcases i with _ | _ | i
  · simp at hi;rw [<-hi];exact hx
  · simp at hi;rw [<-hi];exact hy
  · omega
 refine ⟨W.heap.size,0,d.map (Value.int .u8),rfl,hb.lt,by rw [CY,hdl],fun j u hu=> ?_,rfl,hdl⟩;have hjl:j < 32:=by have:=(BF.1 hu).1;simpa [hdl] using this
 rw [Es,hb.cell,yA,Aj,Bg];rw [Bg] at hu;rcases i with _ | _ | i
 ·simp at hi
  rw [<-hi] at hu;rw [Ru,Es,EB AG];exact hu
 ·simp at hi
  rw [<-hi] at hu;rw [Cj AG,show (0+1)*32+j - x.length=j by omega];exact hu
 · omega
def FI (x:Int):Prop:= -9223372036854775808<=x/\x<=9223372036854775807
theorem Mv {w:AH} {g:Nat} {t:Ae} {l:AQ} (h:AY w g t (iA l)) (hr:∀x∈l, -9223372036854775808<=x/\x<=9223372036854775807) (hl:l.length<=1000):Ag 1 Bt w (AA (some ⟨g,0,none⟩) l.length l.length) l:=by
 refine ⟨_,l.length,rfl,Ac _,by unfold maxLen;omega,fun i x hi=>⟨g,0,[AB AE x],rfl,h.lt,rfl,fun j u hu=> ?_,rfl,hr x (Cr hi)⟩⟩;have hj:j=0:=by have:=(BF.1 hu).1;simpa using this
 subst hj;simp only [Ao,Bz] at hu;rw [h.cell,iA,Aj,Bg,Es,Ga,Ee,hi,<-hu];rfl
theorem aD (schema claim value:Int) (holder:AQ) (w:AH) (h1:FI schema) (h2:FI claim) (h3:FI value) (hh:holder.length=32) (hT:Cc w):
 AS prog 18 #[AB AE schema,AB AE claim,AB AE value,AP (yA holder)] w (Dy (msgP Aw schema claim value holder) w):=by
 obtain ⟨HH,Cd⟩:=Al hh Fw;obtain ⟨Y,hY⟩:=Ad (holder++M0 [schema,claim,value]);have HC:AI (∀W,AK w W->AS prog 49 #[AA (some ⟨W.heap.size,0,none⟩) 1 1,AA (some ⟨W.heap.size+1,0,none⟩) 3 3] ((W.alloc (AO (yA holder) 34)).alloc (AO #[AB AE schema,AB AE claim,AB AE value] 3)) (cJ Y ((W.alloc (AO (yA holder) 34)).alloc (AO #[AB AE schema,AB AE claim,AB AE value] 3)))):=AF (fun W hW=>by have k:=AY.new (W.alloc (AO (yA holder) 34)) 3 (iA [schema,claim,value]);rw [Ev] at k;have:=kq _ 1 1 [holder] _ 3 3 [schema,claim,value] ((W.alloc (AO (yA holder) 34)).alloc (AO (iA [schema,claim,value]) 3)) ((Zn W holder hh).mono BO (BK _ _)) (Mv k (by intro x hx;simp only [B0,DX,DW] at hx;rcases hx with rfl | rfl | rfl <;> assumption) AZ) AG AG;rw [show [holder].flatten=holder by simp,<-hY] at this;exact this)
 obtain ⟨D,hD⟩:=Ad (msgP Aw schema claim value holder);have ET:AI (D.length=32):=AF (by rw [hD,msgP];exact DN _ _);have HG:AI (∀(A:Option Aa) (n c:Nat) W,AK w W->Ag 1 JH W (AA A n c) Y->AS prog 48 #[.string {data:=#[99,108,97,105,109]},AA A n c] W (Dy D W)):=AF (fun A n c W hW hs=>by rw [hD,msgP,<-hY];exact Il {data:=#[99,108,97,105,109]} A n c Y W Ai (hT.below hW) hs)
 have qx:AI (0 < Y.length):=AF (by rw [hY,CX,hh];omega);have hys:(yA holder).size=32:=by rw [CJ,hh]
 have hfl:=VW holder hh;rw [<-hD];clear h1 h2 h3 hh hT hY hD;go_enter func18,ntmps18;go_upto_region 1 with fail;obtain ⟨k1,b1,s1⟩:=bx w (yA holder) 34;have hq:=JJ (w.alloc (AO (yA holder) 34)) 34;generalize (w.alloc (AO (yA holder) 34))=w0 at hq k1 b1 s1 ⊢;rw [s1] at hq;generalize (w0.alloc _)=wa at hq ⊢;obtain ⟨kr,hba,hza⟩:=hq;obtain ⟨KM,KR,HB⟩:=BB (k1.below hba AG) kr (b1.trans (hba.mono AG));clear s1 b1 hba k1 kr hza;go_wp2_with (first
  | (refine Cb rfl 34 (AX 7) rfl w.heap.size holder rfl 34 _ KM.o underlying34 rfl Cd.o HH.o ?_)
  | (
   go_at_call 49;refine (HC.o _ HB.o).mono ?_;rintro e w5 ⟨v5,rfl,Gi,hb5⟩;obtain ⟨g5,c5,rfl,hs5⟩:=VJ Gi qx.o rfl;have hb6:AK wa w5:=((BK _ _).alloc AZ _).trans (hb5.mono Bd);obtain ⟨Nz,Cg,Vm⟩:=BB (KR.o.below hb6 KR.o.lt) (AV HB.o hb6) hs5;clear Gi hb5 hb6 hs5)
  | (
   go_at_call 48;refine (HG.o _ _ _ _ Cg.o Vm.o).mono ?_;rintro e w6 ⟨rfl,hb⟩;obtain ⟨fC,Fb⟩:=Al (Nz.o.below hb Nz.o.lt) (AV Cg.o hb);clear hb)
  | (refine Da rfl 34 (AX 8) (AX 16) rfl (w.heap.size+1) D rfl rfl 34 _ fC.o Cd.o EY ET.o ?_;intro w7 k7 hb7))
 exact AAP
theorem link_any (schema link:Int) (token holder:AQ) (w:AH) (h1:FI schema) (h2:FI link) (ht:token.length=32) (hh:holder.length=32) (hT:Cc w):
 AS prog 19 #[AB AE schema,AB AE link,AP (yA token),AP (yA holder)] w (Dy (L8 Aw schema link token holder) w):=by
 obtain ⟨HH,Cd⟩:=Al hh Fw;obtain ⟨Y,hY⟩:=Ad (holder++token++M0 [schema,link]);have HC:AI (∀W,AK w W->AS prog 49 #[AA (some ⟨W.heap.size,0,none⟩) 2 2,AA (some ⟨W.heap.size+1,0,none⟩) 2 2] ((W.alloc (AO (yA (holder++token)) 34)).alloc (AO #[AB AE schema,AB AE link] 3)) (cJ Y ((W.alloc (AO (yA (holder++token)) 34)).alloc (AO #[AB AE schema,AB AE link] 3)))):=AF (fun W hW=>by have k:=AY.new (W.alloc (AO (yA (holder++token)) 34)) 3 (iA [schema,link]);rw [Ev] at k;have:=kq _ 2 2 [holder,token] _ 2 2 [schema,link] ((W.alloc (AO (yA (holder++token)) 34)).alloc (AO (iA [schema,link]) 3)) ((AG4 W hh ht).mono BO (BK _ _)) (Mv k (by intro x hx;simp only [B0,DX,DW] at hx;rcases hx with rfl | rfl <;> assumption) AZ) AG AG;rw [show [holder,token].flatten=holder++token by simp,<-hY] at this;exact this)
 obtain ⟨D,hD⟩:=Ad (L8 Aw schema link token holder);have ET:AI (D.length=32):=AF (by rw [hD,L8];exact DN _ _);have HG:AI (∀(A:Option Aa) (n c:Nat) W,AK w W->Ag 1 JH W (AA A n c) Y->AS prog 48 #[.string {data:=#[108,105,110,107]},AA A n c] W (Dy D W)):=AF (fun A n c W hW hs=>by rw [hD,L8,<-hY];exact Il {data:=#[108,105,110,107]} A n c Y W Ai (hT.below hW) hs)
 have qx:AI (0 < Y.length):=AF (by rw [hY,CX,CX,hh];omega);have TL:=AF ht;obtain ⟨j0,z0,hj⟩:=iq;have HJ:=AF hj;rw [<-hD];clear h1 h2 hh ht hT hY hD hj;go_enter func19,ntmps19;go_upto_region 1 with fail;obtain ⟨k1,b1,s1⟩:=bx w (yA token) 34;generalize (w.alloc (AO (yA token) 34))=w1 at k1 b1 s1 ⊢;obtain ⟨k2,b2,s2⟩:=bx w1 (yA holder) 34;have hq:=JJ (w1.alloc (AO (yA holder) 34)) 34;generalize (w1.alloc (AO (yA holder) 34))=w0 at hq k2 b2 s2 ⊢;rw [s1] at k2 b2 s2;rw [s2] at hq;generalize (w0.alloc _)=wa at hq ⊢;obtain ⟨kr,hba,hza⟩:=hq;obtain ⟨KT,KM,KR,HB⟩:=CD ((k1.below b2 AG).below hba AG) (k2.below hba AG) kr ((b1.trans (b2.mono AG)).trans (hba.mono AG));clear s1 b1 s2 b2 hba k1 k2 kr hza;go_wp2_with (first
  | (refine rq rfl 37 34 (AX 9) (AX 10) rfl j0 z0 underlying37 HJ.o.1 HJ.o.2.1 HJ.o.2.2.2.1 holder token rfl rfl HH.o TL.o ?_)
  | (refine Cb rfl 34 (AX 6) rfl w.heap.size token rfl 34 _ KT.o underlying34 rfl Cd.o TL.o ?_)
  | (refine Cb rfl 34 (AX 7) rfl (w.heap.size+1) holder rfl 34 _ KM.o underlying34 rfl Cd.o HH.o ?_)
  | (
   go_at_call 49;refine (HC.o _ HB.o).mono ?_;rintro e w5 ⟨v5,rfl,Gi,hb5⟩;obtain ⟨g5,c5,rfl,hs5⟩:=VJ Gi qx.o rfl;have hb6:AK wa w5:=((BK _ _).alloc AZ _).trans (hb5.mono Bd);obtain ⟨Nz,Cg,Vm⟩:=BB (KR.o.below hb6 KR.o.lt) (AV HB.o hb6) hs5;clear Gi hb5 hb6 hs5)
  | (
   go_at_call 48;refine (HG.o _ _ _ _ Cg.o Vm.o).mono ?_;rintro e w6 ⟨rfl,hb⟩;obtain ⟨fC,Fb⟩:=Al (Nz.o.below hb Nz.o.lt) (AV Cg.o hb);clear hb)
  | (refine Da rfl 34 (AX 8) (AX 16) rfl (w.heap.size+1+1) D rfl rfl 34 _ fC.o Cd.o EY ET.o ?_;intro w7 k7 hb7))
 exact V9 (.inl rfl) rfl rfl rfl k7 underlying34 rfl Cd.o ET.o (Fb.o.trans (hb7.mono AG))
section
variable {F:Fence} {n:Nat} {P:BE} {md:Region.Mode} {ops:Array Oper} {Q:Exit->Act->AH->Prop} {S:AH->Prop}
def QF (o:Oper):Bool:=match o.op with | .defer _=>false | _=>true
theorem pL {o:Oper} (h:QF o=true):∀c,o.op≠.defer c:=fun c e=>by simp [QF,e] at h
structure Clear (F:Fence) (ops:Array Oper):Prop where
 fn:∀f,F.fn f
 nd:ops.all QF=true
theorem Clear.op (h:Clear F ops) {j:Nat} {o:Oper} (hj:ops[j]? =some o):∀c,o.op≠.defer c:=by obtain ⟨hlt,e⟩:=DF.1 hj;subst e;exact pL (Array.all_eq_true.1 h.nd j hlt)
def Hh (F:Fence) (n:Nat) (P:BE) (md:Region.Mode) (ops:Array Oper) (Q:Exit->Act->AH->Prop) (S:AH->Prop):Nat->Array Bool->Act->AH->Prop
 | 0,listed,a,w=>Region.ready md ops listed=[]/\Q .normal a w
 |
  fuel+1,listed,a,w=>
  (Region.ready md ops listed=[]->Q .normal a w)/\
  ∀i∈Region.ready md ops listed,wpOpIn F n P ops Q i (fun a' w'=>S w'/\Hh F n P md ops Q S fuel (listed.setIfInBounds i true) a' w') a w
theorem Z2:∀(fuel:Nat) (listed:Array Bool) (a:Act) (w:AH),Hh F n P md ops Q S fuel listed a w->wpAnyIn F n P md ops Q fuel listed a w
 | 0,_,_,_,h=>h
 | fuel+1,_,_,_,h=>⟨h.1,fun i hi=>wpOpIn_mono (fun a' w' h'=>Z2 fuel _ a' w' h'.2) (h.2 i hi)⟩
theorem AID (hC:Clear F ops) {i:Nat} {o:Oper} {v:AN} {a:Act} (hi:ops[i]? =some o) (hy:YieldsIf P ops S o v a) {K:Act->AH->Prop} {w:AH} (hS:S w) (h:K (a.put o.dst v) w):wpOpIn F n P ops Q i K a w:=by
 unfold wpOpIn;simp only [hi];have hab:∀f,o.about P w a.eval=some f->F.fn f:=fun f _=>hC.fn f;rcases hy with ⟨hw,hv⟩ | ⟨hw,rfl⟩
 · simp only [hw,C4,Oper.wpIn,Oper.semAt_eq F.round _ o (hC.op hi),hv w hS,Oper.uponIn];exact ⟨hab,h⟩
 · simp only [hw,IU,He];exact ⟨hab,h⟩
theorem AJ1 (hC:Clear F ops) {j:Nat} {oi oj:Oper} {v:AN} (hj:ops[j]? =some oj) (hap:oi.apart ops oj=true)
 (hsi:∀cs b,oi.op≠.select cs b) (hsj:∀cs b,oj.op≠.select cs b)
 (hQ:∀c a w,Q (.panic c) (a.put oi.dst v) w->Q (.panic c) a w) {K:Act->AH->Prop} {a:Act} {w:AH}
 (hy:YieldsIf P ops S oi v a) (h:wpOpIn F n P ops Q j K (a.put oi.dst v) w):
 wpOpIn F n P ops Q j (fun a' w'=>YieldsIf P ops S oi v a'/\K (a'.put oi.dst v) w') a w:=by
 obtain ⟨h1,h2,h3⟩:=Oper.apart_spec hap;have keep:∀(a:Act),YieldsIf P ops S oi v a->∀u,YieldsIf P ops S oi v (a.put oj.dst u):=fun a hy u=>
  hy.of_same (execOp_put oi hsi a oj.dst u h3) (wanted_put oi a oj.dst u h3)
 have keepD:∀d,YieldsIf P ops S oi v {a with defers:=d::a.defers}:=fun d=>hy.of_same rfl rfl;have hnd:=hC.op hj;unfold wpOpIn at *;simp only [hj] at *;rw [wanted_put oj a oi.dst v h1] at h;split
 ·rename_i hw
  simp only [hw,C4] at h;unfold Oper.wpIn at *;refine ⟨fun f _=>hC.fn f,?_⟩;have h:=h.2;rw [Oper.semAt_eq F.round _ oj hnd,execOp_put oj hsj a oi.dst v h1] at h;rw [Oper.semAt_eq F.round _ oj hnd];generalize (execOp a.eval oj).run P w=r at *;cases r with
  |
   ok x w'=>
   cases x <;> simp only [Oper.uponIn] at h ⊢
   case value u=>exact ⟨keep a hy u,by rw [<-Pk a v u h2];exact h⟩
   case skip=>exact ⟨keep a hy _,by rw [<-Pk a v undef h2];exact h⟩
   case defer d=>refine ⟨keep _ (keepD d) _,?_⟩;rw [<-Pk _ v undef h2,<-Act.put_defers];exact h
   case enter f args=>
    refine ⟨h.1,CallsIn.mono h.2 fun e w'' he=> ?_⟩;cases e with
    | returned u=>exact ⟨keep a hy u,by rw [<-Pk a v u h2];exact he⟩
    | panicked c=>exact hQ _ _ _ he
    | outgrown=>exact he
   case row row args=>exact ⟨h.1,RowsIn.mono h.2 fun u w'' he=>⟨keep a hy u,by rw [<-Pk a v u h2];exact he⟩⟩
   case round l f tmps assign body=>
    refine ⟨h.1,RoundIn.mono h.2 fun e w'' he=> ?_⟩;cases e with
    | returned u=>exact ⟨keep a hy u,by rw [<-Pk a v u h2];exact he⟩
    | panicked c=>exact hQ _ _ _ he
    | outgrown=>exact he
  |
   halt x w'=>
   cases x <;> simp only [Oper.uponIn] at h ⊢
   case panic u=>exact hQ _ _ _ h
 rename_i hw
 simp only [hw] at h;exact ⟨fun f _=>hC.fn f,keep a hy _,by rw [<-Pk a v undef h2];exact h.2⟩
theorem AGz (hC:Clear F ops) {i:Nat} {oi:Oper} {v:AN} (hi:ops[i]? =some oi) (hsel:∀(j:Nat) (o:Oper) cs b,ops[j]? =some o->o.op≠.select cs b)
 (hQ:∀c a w,Q (.panic c) (a.put oi.dst v) w->Q (.panic c) a w):
 ∀(fuel:Nat) (listed:Array Bool) (a:Act) (w:AH),
  (∀j oj,ops[j]? =some oj->j≠i->listed.getD j true=false->(∀e∈oj.after,Region.binds md e=true->e.on≠i)->oi.apart ops oj=true)->
  i∈Region.ready md ops listed->YieldsIf P ops S oi v a->S w->
  Hh F n P md ops Q S fuel (listed.setIfInBounds i true) (a.put oi.dst v) w->Hh F n P md ops Q S (fuel+1) listed a w:=by
 intro fuel
 induction fuel with
 |
  zero=>
  intro listed a w _ hr hy hS H;refine ⟨fun h=>Qk,fun j hj=> ?_⟩;by_cases hji:j=i
  · subst hji;exact AID hC hi hy hS ⟨hS,H⟩
  ·have:=KU hj hji
   rw [H.1] at this;cases this
 |
  succ fuel ih=>
  intro listed a w hfree hr hy hS H;refine ⟨fun h=>Qk,fun j hj=> ?_⟩;by_cases hji:j=i
  · subst hji;exact AID hC hi hy hS ⟨hS,H⟩
  have h1:=H.2 j (KU hj hji);obtain ⟨hjun,oj,hoj,hall⟩:=Jb.1 hj;have hnot:∀e∈oj.after,Region.binds md e=true->e.on≠i:=fun e he hb heq=>by
   exact AAc
  have h2:=AJ1 hC hoj (hfree j oj hoj hji hjun hnot) (fun cs b=>hsel i oi cs b hi) (fun cs b=>hsel j oj cs b hoj) hQ hy h1;have hfree':∀k ok,ops[k]? =some ok->k≠i->(listed.setIfInBounds j true).getD k true=false->
   (∀e∈ok.after,Region.binds md e=true->e.on≠i)->oi.apart ops ok=true:=fun k ok hk hki hun hno=>by
   exact nM
  refine wpOpIn_mono (fun a' w' h3=>⟨h3.2.1,ih (listed.setIfInBounds j true) a' w' hfree' (KU hr (Ne.symm hji)) h3.1 h3.2.1 ?_⟩) h2;rw [ZQ _ _ hji];exact h3.2.2
variable {fuel:Nat} {listed:Array Bool} {l:List AN} {D:List Deferred} {w:AH}
theorem rhB {id:Nat} {a:Act} (S:AH->Prop) (k:Nat) (L:Array Bool) (hm:P.follows .mixedOrders=true) (hn:ops.size=k) (hL:Array.replicate k false=L) (h:Hh F n P .any ops Q S k L a w.drew):(Code.region id ops true).wpIn F n P Q a w:=by subst hn hL;exact wpIn_region_any hm (Z2 _ _ _ _ h)
theorem EZ (hC:Clear F ops) (i d:Nat) {oi:Oper} {v:AN} (hB:Xg md ops listed i=true) (hi:ops[i]? =some oi) (hd:oi.dst=some d) (hQ:∀c (a:Act) d v w,Q (.panic c) (a.put (some d) v) w->Q (.panic c) a w) (hS:S w)
 (hw:Region.wanted oi (yielded ops l.toArray)=true) (hv:∀w,S w->(execOp (Act.eval ⟨l.toArray,D⟩) oi).run P w=.ok (.value v) w)
 (h:Hh F n P md ops Q S fuel (listed.setIfInBounds i true) ⟨(l.set d v).toArray,D⟩ w):Hh F n P md ops Q S (fuel+1) listed ⟨l.toArray,D⟩ w:=by
 simp only [Bb] at hB;rw [<-Lx,<-hd] at h;exact AGz hC hi (ZM hB.1) (fun c a w hq=>by rw [hd] at hq;exact hQ c a _ _ w hq) fuel listed _ w (ZD hi hB.2.1) (by simpa using hB.2.2) (.inl ⟨hw,hv⟩) hS h
theorem VK (hC:Clear F ops) (i d t:Nat) {oi:Oper} {v:AN} (hB:Xg md ops listed i=true) (hi:ops[i]? =some oi) (hd:oi.dst=some d) (hQ:∀c (a:Act) d v w,Q (.panic c) (a.put (some d) v) w->Q (.panic c) a w) (hS:S w)
 (hw:Region.wanted oi (yielded ops l.toArray)=true) (ho:oi.op=.move (AX t)\/oi.op=.assign (AX t)) (hv:l[t]? =some v)
 (h:Hh F n P md ops Q S fuel (listed.setIfInBounds i true) ⟨(l.set d v).toArray,D⟩ w):Hh F n P md ops Q S (fuel+1) listed ⟨l.toArray,D⟩ w:=by
 refine EZ hC i d hB hi hd hQ hS hw (fun W _=> ?_) h;exact nN
theorem rhO (hC:Clear F ops) (i:Nat) {o:Oper} {a:Act} (hr:Region.ready md ops listed=[i]) (hi:ops[i]? =some o) (hg:o.guard=none)
 (h:o.uponIn F n P a (fun a' w'=>S w'/\Hh F n P md ops Q S fuel (listed.setIfInBounds i true) a' w') Q ((execOp a.eval o).run P w)):Hh F n P md ops Q S (fuel+1) listed a w:=by
 refine ⟨fun h0=>(by rw [hr] at h0;cases h0),fun j hj=> ?_⟩;rw [hr] at hj;obtain rfl:j=i:=by simpa using hj
 unfold wpOpIn;rw [hi];have hw:Region.wanted o (yielded ops a.tmps)=true:=by simp [Region.wanted,hg]
 simp only [hw,C4,Oper.wpIn,Oper.semAt_eq F.round _ o (hC.op hi)];exact ⟨fun f _=>hC.fn f,h⟩
theorem rhF (hC:Clear F ops) (i d:Nat) {o:Oper} {f:FuncId} {xs:Array Operand} {ts:Array Ae} {args:Array AN} {R:Ending->AH->Prop} (hr:Region.ready md ops listed=[i]) (hi:ops[i]? =some o) (hd:o.dst=some d) (hg:o.guard=none)
 (ho:o.op=.call {callee:=.value (.func f),args:=xs,argTypes:=ts}) (he:Enters P f) (hx:F.depth.isSome=true->1<=n) (hc:CallsIn F (n - 1) P f args w R) (ha:xs.toList.map (Act.eval ⟨l.toArray,D⟩)=args.toList)
 (h:∀e w',R e w'->∃v,e=AW v/\S w'/\Hh F n P md ops Q S fuel (listed.setIfInBounds i true) ⟨(l.set d v).toArray,D⟩ w'):Hh F n P md ops Q S (fuel+1) listed ⟨l.toArray,D⟩ w:=by
 refine rhO hC i hr hi hg ?_;have e:xs.map (Act.eval ⟨l.toArray,D⟩)=args:=by apply ZL.1;rw [Up];exact ha
 have hex:(execOp (Act.eval ⟨l.toArray,D⟩) o).run P w=.ok (.enter f args) w:=by unfold execOp;rw [ho];simp [resolve,Act.eval,Deferred.ofValue,invoke,<-e];exact he _ w
 rw [hex];exact ⟨hx,hc.mono fun e w' hR=>by obtain ⟨v,rfl,hS,hk⟩:=h e w' hR;rw [<-Lx,<-hd] at hk;exact ⟨hS,hk⟩⟩
theorem rhY (hC:Clear F ops) (i d t q:Nat) {o:Oper} {xs:Array Operand} {ts:Array Ae} {args:Array AN} {R:Ending->AH->Prop} (hr:Region.ready md ops listed=[i]) (hi:ops[i]? =some o) (hd:o.dst=some d) (hg:o.guard=none)
 (ho:o.op=.call {callee:=.value (AX t),args:=xs,argTypes:=ts}) (ht:l[t]? =some (.func (.yield q) #[] #[])) (hx:F.depth.isSome=true->1<=n) (hc:YieldAt F (n - 1) P q args w R) (ha:xs.toList.map (Act.eval ⟨l.toArray,D⟩)=args.toList)
 (h:∀e w',R e w'->(∃v,e=AW v/\S w'/\Hh F n P md ops Q S fuel (listed.setIfInBounds i true) ⟨(l.set d v).toArray,D⟩ w')\/∃c,e=.panicked c/\Q (.panic c) ⟨l.toArray,D⟩ w'):Hh F n P md ops Q S (fuel+1) listed ⟨l.toArray,D⟩ w:=by
 refine rhO hC i hr hi hg ?_;have e:xs.map (Act.eval ⟨l.toArray,D⟩)=args:=by apply ZL.1;rw [Up];exact ha
 obtain ⟨fn,tmps,assign,body,hy,hR⟩:=hc;have hex:(execOp (Act.eval ⟨l.toArray,D⟩) o).run P w=.ok (.round q fn tmps assign body) w:=by
  unfold execOp;rw [ho];have e2:Act.eval ⟨l.toArray,D⟩ (AX t)=.func (.yield q) #[] #[]:=by simp [Act.eval,ht]
  simp [resolve,e2,Deferred.ofValue,invoke,e];exact hy
 rw [hex];refine ⟨hx,hR.mono fun e w' hR=> ?_⟩;rcases h e w' hR with ⟨v,rfl,hS,hk⟩ | ⟨c,rfl,hq⟩
 · rw [<-Lx,<-hd] at hk;exact ⟨hS,hk⟩
 · exact hq
theorem rhD {a:Act} (hr:Region.ready md ops listed=[]) (h:Q .normal a w):∀fuel,Hh F n P md ops Q S fuel listed a w
 | 0=>⟨hr,h⟩
 | _+1=>⟨fun _=>h,by rw [hr];simp⟩
end
end Go.Proofs.YtamhoilkpppdbaaGreatDoor
