import Derived.Test.YtamhoilkpppdbaaGreatDoorK00
import Derived.ProofKit
import Derived.StillTailTactics
import Derived.Laws.CopyOwn
import Derived.Lib.SliceRun
import Derived.Deep.OwnRows
import Derived.Great.BuildSlice
namespace Go.Proofs.YtamhoilkpppdbaaGreatDoor
set_option maxHeartbeats 8000000
set_option maxRecDepth 100000
open Go renaming World→AH, Value→AN, Calls→AS, TypeId→Af, Program→BA, Addr→Aa
open Go.RowKit renaming Below→BI
open Go.Proofs.Tryz
open Go.Value renaming slice→AB, int→AE, pointer→AW, bool→Ab, agg→AP, tuple→BQ
open Go.IntKind renaming i64→AF, u8→Am
open Go.Ending renaming returned→AU
open Go.Obj renaming cells→AO
open Go.Operand renaming tmp→AY
abbrev Dg:=AQ
def Bn (n:Nat):Nat:=2 ^ Nat.log2 (n - 1)
theorem Hv {n:Nat} (h:2<=n):Bn n < n:=by have:=Nat.log2_self_le (n:=n - 1) AG;unfold Bn;omega
theorem GL (n:Nat):1<=Bn n:=Nat.one_le_two_pow
structure Hs where
 tag:AQ->AQ->Dg
section
variable (H:AQ->AQ->Dg)
def cY:AQ:=[108,101,97,102]
def AG4:AQ:=[110,111,100,101]
def AFz:AQ:=[101,109,112,116,121]
def stepT:AQ:=[115,116,101,112]
def AEj:AQ:=[99,104,97,105,110]
def fV:AQ:=[112,117,98,108,105,99]
def Og (a b:Dg):Dg:=H AG4 (a++b)
def Eo (l:List Dg):Dg:=
 match l with
 | []=>H AFz []
 | [x]=>H cY x
 | x::y::r=>Og H (Eo ((x::y::r).take (Bn (r.length+2)))) (Eo ((x::y::r).drop (Bn (r.length+2))))
termination_by l.length
decreasing_by
 · have:=Hv (n:=r.length+2) AG;simp only [ER,Gw];omega
 · have:=GL (r.length+2);simp only [JN,Gw];omega
def Fo (l:List Dg) (k:Nat):List Dg:=
 if _h:l.length<=1 then []
 else if k < Bn l.length then Fo (l.take (Bn l.length)) k++[Eo H (l.drop (Bn l.length))]
 else Fo (l.drop (Bn l.length)) (k - Bn l.length)++[Eo H (l.take (Bn l.length))]
termination_by l.length
decreasing_by
 · have:=Hv (n:=l.length) AG;simp only [ER];omega
 · have:=GL l.length;simp only [JN];omega
def Gz (k n:Nat):List Bool:=
 if _h:n<=1 then [] else if Bn n<=k then true::Gz (k - Bn n) (n - Bn n) else false::Gz k (Bn n)
termination_by n
decreasing_by
 · have:=GL n;omega
 · exact Hv AG
def UY:List (Dg×Bool)->Dg->Dg
 | [],r=>r
 | (p,true)::l,r=>UY l (Og H p r)
 | (p,false)::l,r=>UY l (Og H r p)
theorem VQ (a b:List (Dg×Bool)) (r:Dg):UY H (a++b) r=UY H b (UY H a r):=by
 induction a generalizing r with
 | nil=>rfl
 |
  cons x a ih=>
  obtain ⟨p,v⟩:=x;cases v <;> exact ih _
def IW (d:Dg) (k n:Nat) (path:List Dg):Option Dg:=
 if path.length=(Gz k n).length then some (UY H (path.zip (Gz k n).reverse) (H cY d)) else none
theorem iM {l:List Dg} (h:2<=l.length):Eo H l=Og H (Eo H (l.take (Bn l.length))) (Eo H (l.drop (Bn l.length))):=by
 match l,h with
 | x::y::r,_=>rw [Eo];rfl
theorem iO:∀(m:Nat) (l:List Dg) (k:Nat),l.length<=m->(Fo H l k).length=(Gz k l.length).length:=by
 intro m
 induction m with
 | zero=>intro l k h;rw [Fo,Gz,Gr AG,Gr AG];rfl
 |
  succ m ih=>
  intro l k h;rw [Fo,Gz];by_cases h1:l.length<=1
  · rw [Gr h1,Gr h1];rfl
  have hlt:=Hv (n:=l.length) AG;have hp:=GL l.length;rw [Lj h1,Lj h1];by_cases hk:k < Bn l.length
  · rw [Ao hk,Ai AG,CQ,ih _ _ Pg,ER,Tq AG];rfl
  · rw [Ai hk,Ao AG,CQ,ih _ _ UK,JN];rfl
theorem qn:∀(m:Nat) (l:List Dg) (k:Nat) (d:Dg),l.length<=m->l[k]? =some d->UY H ((Fo H l k).zip (Gz k l.length).reverse) (H cY d)=Eo H l:=by
 intro m
 induction m with
 | zero=>intro l k d h hk;have:=(BD.1 hk).1;omega
 |
  succ m ih=>
  intro l k d h hk;rw [Fo,Gz];by_cases h1:l.length<=1
  ·rw [Gr h1,Gr h1]
   have hl:=(BD.1 hk).1
   match l,h1,hk with
   |
    [x],_,hk=>
    have:k=0:=by simp at hl;exact hl
    subst this;simp only [Al,Bu] at hk;rw [hk,Eo];rfl
   | [],_,_=>simp at hl
  have hlt:=Hv (n:=l.length) AG;have hp:=GL l.length;rw [Lj h1,Lj h1];by_cases hkk:k < Bn l.length
  ·have e:(l.take (Bn l.length)).length=Bn l.length:=by rw [ER];omega
   rw [Ao hkk,Ai AG,List.reverse_cons,List.zip_append ry,VQ];have:=ih (l.take (Bn l.length)) k d AG (by rw [Jl hkk];exact hk);exact sR
  have e:(l.drop (Bn l.length)).length=l.length - Bn l.length:=JN;rw [Ai hkk,Ao AG,List.reverse_cons,List.zip_append ry,VQ];have:=ih (l.drop (Bn l.length)) (k - Bn l.length) d AG (by rw [EP,show Bn l.length+(k - Bn l.length)=k by omega];exact hk);exact sR
theorem gR {l:List Dg} {k:Nat} {d:Dg} (hk:l[k]? =some d):IW H d k l.length (Fo H l k)=some (Eo H l):=by rw [IW,Ao (iO H _ _ _ (Ac _)),qn H _ _ _ _ (Ac _) hk]
def C3 (x:Dg):Nat->Dg
 | 0=>x
 | n+1=>C3 (H stepT x) n
theorem dR (x:Dg) (a b:Nat):C3 H (C3 H x a) b=C3 H x (a+b):=by
 induction a generalizing x with
 | zero=>simp [C3]
 | succ a ih=>rw [Nat.succ_add,C3,ih,C3]
def Hh (seed:Dg) (i:Nat):Dg:=H AEj (seed++[(i:Int)])
def JB (l:List Dg):Dg:=H fV l.flatten
def Ii (seed:Dg):Dg:=JB H ((List.range 19).map fun i=>C3 H (Hh H seed i) 3)
def NW (m:Dg) (i:Nat):Int:=(m.getD (i / 4) 0) / (4:Int) ^ (3 - i % 4) % 4
def sumP (m:Dg):Nat->Int
 | 0=>0
 | n+1=>sumP m n+(3 - NW m n)
def Ea (m:Dg):AQ:=(List.range 16).map (NW m)++[sumP m 16 / 16 % 4,sumP m 16 / 4 % 4,sumP m 16 % 4]
theorem Vq (m:Dg) (i:Nat):0<=NW m i/\NW m i<=3:=by unfold NW;omega
theorem bh {m:Dg}:∀x∈Ea m,0<=x/\x<=3:=by
 intro x hx;rcases Ll.1 hx with h | h
 ·obtain ⟨i,_,rfl⟩:=Dd.1 h
  exact Vq m i
 simp only [CJ,D5,D4] at h;rcases h with rfl | rfl | rfl <;> omega
theorem Oc (m:Dg):(Ea m).length=19:=by simp [Ea]
def Kx (seed m:Dg):List Dg:=(List.range 19).map fun i=>C3 H (Hh H seed i) ((Ea m).getD i 0).toNat
def Hg (m:Dg) (s:List Dg):Dg:=JB H ((List.range 19).map fun i=>C3 H (s.getD i []) (3 - (Ea m).getD i 0).toNat)
theorem qo (seed m:Dg):(Kx H seed m).length=19:=by simp [Kx]
theorem wE (seed m:Dg):Hg H m (Kx H seed m)=Ii H seed:=by
 unfold Hg Ii;congr 1;apply List.map_congr_left;intro i hi;have hi':i < 19:=Ed.1 hi;have h1:(Kx H seed m).getD i []=C3 H (Hh H seed i) ((Ea m).getD i 0).toNat:=by rw [Cv,Kx,Bb,Lp hi'];rfl
 have h2:0<=(Ea m).getD i 0/\(Ea m).getD i 0<=3:=by rw [Cv,BJ (by rw [Oc];exact hi')];exact bh _ (Tm _)
 rw [h1,dR];congr 1;omega
structure Cj where
 index:Int
 chains:List Dg
 path:List Dg
deriving DecidableEq
def bytes4 (n:Nat):AQ:=[((n / 16777216 % 256:Nat):Int),((n / 65536 % 256:Nat):Int),((n / 256 % 256:Nat):Int),((n % 256:Nat):Int)]
def LN (seed:Dg) (k:Nat):Dg:=H cY (seed++bytes4 k)
def Dq (seed:Dg) (many:Nat):List Dg:=(List.range many).map fun k=>Ii H (LN H seed k)
def M7 (seed:Dg) (many:Nat):Dg:=Eo H (Dq H seed many)
def QA (seed:Dg) (l:List Dg) (k:Nat) (m:Dg):Cj:=⟨(k:Int),Kx H (LN H seed k) m,Fo H l k⟩
def FO (root:Dg) (many:Int) (m:Dg) (s:Cj):Bool:=
 decide (1<=many) && decide (many<=256) && decide (0<=s.index) && decide (s.index < many) && decide (s.chains.length=19) && decide (IW H (Hg H m s.chains) s.index.toNat many.toNat s.path=some root)
theorem Rk (seed:Dg) (many:Nat):(Dq H seed many).length=many:=by simp [Dq]
theorem pk (seed:Dg) (many k:Nat) (m:Dg) (h:many<=256) (hk:k < many):FO H (M7 H seed many) many m (QA H seed (Dq H seed many) k m)=true:=by
 have hp:(Dq H seed many)[k]? =some (Ii H (LN H seed k)):=by rw [Dq,Bb,Lp hk];rfl
 have hc:=gR H hp;rw [Rk] at hc;have h1:decide ((QA H seed (Dq H seed many) k m).chains.length=19)=true:=BR (qo H _ _);have h2:decide (IW H (Hg H m (QA H seed (Dq H seed many) k m).chains) (QA H seed (Dq H seed many) k m).index.toNat (many:Int).toNat (QA H seed (Dq H seed many) k m).path=some (M7 H seed many))=true:=BR (by show IW H (Hg H m (Kx H (LN H seed k) m)) ((k:Int)).toNat (many:Int).toNat (Fo H (Dq H seed many) k)=some (M7 H seed many);rw [wE,Cm,Cm];exact hc)
 rw [FO,h1,h2];have e:(QA H seed (Dq H seed many) k m).index=k:=rfl;rw [e];simp only [Bj,B8,and_true];omega
end
open Go.RowKit
def AEx (x:Int) (s:Nat):Int:=bits .or .u32 (x*2 ^ s % 4294967296) (x / 2 ^ (32 - s))
theorem AEB (k:Int) (s:Nat) (hs:bits BinOp.and IntKind.u64 (IntKind.u64.wrap k) 31=(s:Int)) (h0:s < 32) (x:Int) (w:AH):AS prog 139 #[AE .u32 x,AE AF k] w fun e w'=>e=AU (AE .u32 (AEx x s))/\w=w':=by
 have h1:IntKind.u64.wrap (32 - (s:Int))=((32 - s:Nat):Int):=by rw [show (32 - (s:Int))=((32 - s:Nat):Int) by omega];simp [IntKind.wrap,IntKind.bits,IntKind.signed];omega
 have h2:(0:Int)<=s:=AG
 go_enter func139,ntmps139;go_wp2_with fail;exact OZ
def rt (x k:Int):Int:=AEx x (bits BinOp.and IntKind.u64 (IntKind.u64.wrap k) 31).toNat
def AEw (k:Int):Bool:=decide (bits BinOp.and IntKind.u64 (IntKind.u64.wrap k) 31=((bits BinOp.and IntKind.u64 (IntKind.u64.wrap k) 31).toNat:Int)) && decide ((bits BinOp.and IntKind.u64 (IntKind.u64.wrap k) 31).toNat < 32)
theorem mF (k:Int) (h:AEw k=true) (x:Int) (w:AH):AS prog 139 #[AE .u32 x,AE AF k] w fun e w'=>e=AU (AE .u32 (rt x k))/\w=w':=by simp only [AEw,Bj,B8] at h;exact AEB k _ h.1 h.2 x w
instance AI2 {p:Prop} {q:p->Prop} [Decidable p] [∀h,Decidable (q h)]:Decidable (∀h,q h):=if h:p then (if hq:q h then isTrue fun _=>hq else isFalse fun f=>hq (f h)) else isTrue fun g=>absurd g h
def aF (x:Nat):Int:=if x=0 then 0 else (Nat.log2 x+1:Nat)
theorem qY (x:Nat) (hx:x < 256) (w:AH):AS prog 133 #[AE .u64 x] w fun e w'=>e=AU (AE AF (aF x))/\w=w':=by
 have h1:decide ((4294967296:Int)<=(x:Int))=false:=Bc AG;have h2:decide ((65536:Int)<=(x:Int))=false:=Bc AG;have h3:decide ((256:Int)<=(x:Int))=false:=Bc AG;go_enter func133,ntmps133;go_wp2_with fail;go_ret;refine ⟨Cz ?_,rfl⟩
 rename_i h
 clear h1 h2 h3;revert h;revert hx;revert x;decide +kernel
theorem qr (x:Nat) (hx:x < 256) (w:AH):AS prog 86 #[AE .u64 x] w fun e w'=>e=AU (AE AF (aF x))/\w=w':=by obtain ⟨y,hy⟩:=Ad (aF x);have HL:AI (∀W,AS prog 133 #[AE .u64 x] W fun e w'=>e=AU (AE AF y)/\W=w'):=AA (fun W=>by rw [hy];exact qY x hx W);rw [<-hy];clear hy;go_enter func86,ntmps86;go_wp2_with (go_at_call 133;refine (HL.o _).mono ?_;rintro e w' ⟨rfl,rfl⟩);go_ret;exact ⟨rfl,rfl⟩
theorem Vo (n:Nat) (h2:2<=n) (hn:n<=256) (w:AH):AS prog 62 #[AE AF n] w fun e w'=>e=AU (AE AF (Bn n:Nat))/\w=w':=by
 obtain ⟨x,rfl⟩:∃x,n=x+1:=⟨n - 1,by omega⟩;have e1:((x+1:Nat):Int) - 1=(x:Int):=AG
 have e2:aF x - 1=(Nat.log2 x:Nat):=by unfold aF;rw [Ai AG];omega
 have hl:Nat.log2 x < 8:=(Nat.log2_lt AG).2 AG;obtain ⟨y,hy⟩:=Ad (aF x);obtain ⟨g,hg⟩:=Ad (Nat.log2 x);have HL:AI (∀W,AS prog 86 #[AE .u64 x] W fun e w'=>e=AU (AE AF ((g:Int)+1))/\W=w'):=AA (fun W=>by
  have:=qr x AG W
  rwa [show aF x=(g:Int)+1 by omega] at this)
 have HE:AI (Bn (x+1)=2 ^ g):=AA (by unfold Bn;rw [hg];rfl);rw [<-hg] at hl;have hx0:(0:Int)<=(x:Int):=AG
 have hx1:(x:Int)<=255:=AG
 have hg0:(0:Int)<=(g:Int):=AG
 have hg1:(g:Int)<=7:=AG
 clear e2 hy hg hl h2 hn;go_enter func62,ntmps62;go_wp2_with (go_at_call 86;refine (HL.o _).mono ?_;rintro e w' ⟨rfl,rfl⟩);go_ret;refine ⟨Cz ?_,rfl⟩;rw [HE.o];have hg:g=0\/g=1\/g=2\/g=3\/g=4\/g=5\/g=6\/g=7:=AG
 rcases hg with rfl | rfl | rfl | rfl | rfl | rfl | rfl | rfl <;> decide +kernel
def uA (l:AQ):Array AN:=(l.map (Value.int .u32)).toArray
theorem Lv {w:AH} {g:Nat} {t:Af} {l:AQ} (h:AZ w g t (uA l)) {i:Nat} (hi:i < l.length):w.cell? ⟨g,i,none⟩=some (AE .u32 (l.getD i 0)):=by rw [h.cell,uA,Ak,Bb,Cv,BJ hi];rfl
theorem bZ {w:AH} {g:Nat} {t:Af} {l:AQ} (h:AZ w g t (uA l)) (i:Nat) (x:Int):AZ (w.setCell ⟨g,i,none⟩ (AE .u32 x)) g t (uA (l.set i x)):=by
 have:=h.put i (AE .u32 x)
 rwa [uA,Lr,<-Q8] at this
def fq:AQ:=[1116352408,1899447441,3049323471,3921009573,961987163,1508970993,2453635748,2870763221,3624381080,310598401,607225278,1426881987,1925078388,2162078206,2614888103,3248222580,3835390401,4022224774,264347078,604807628,770255983,1249150122,1555081692,1996064986,2554220882,2821834349,2952996808,3210313671,3336571891,3584528711,113926993,338241895,666307205,773529912,1294757372,1396182291,1695183700,1986661051,2177026350,2456956037,2730485921,2820302411,3259730800,3345764771,3516065817,3600352804,4094571909,275423344,430227734,506948616,659060556,883997877,958139571,1322822218,1537002063,1747873779,1955562222,2024104815,2227730452,2361852424,2428436474,2756734187,3204031479,3329325298]
def Ca (w:AH):Prop:=0 < w.heap.size/\∀t,t < 64->w.cell? ⟨0,t,none⟩=some (AE .u32 (fq[t]?.getD 0))
theorem Ca.below {w w':AH} (h:Ca w) (hb:AK w w'):Ca w':=⟨Au h.1 hb.size,fun t ht=>(hb.cell (p:=⟨0,t,none⟩) h.1).trans (h.2 t ht)⟩
def zeros (n:Nat):AQ:=List.replicate n 0
def ADY (blk w:AQ) (t i:Nat):AQ:=w.set t (bits .or .u32 (w[t]?.getD 0*256 % 4294967296) (blk[4*t+i]?.getD 0 % 4294967296))
def rowP (blk w:AQ) (t:Nat):Nat->AQ
 | 0=>w
 | i+1=>ADY blk (rowP blk w t i) t i
def UX (blk:AQ):Nat->AQ
 | 0=>zeros 64
 | t+1=>rowP blk (UX blk t) t 4
def sg0 (x:Int):Int:=bits .xor .u32 (bits .xor .u32 (rt x (-7)) (rt x (-18))) (x / 8)
def sg1 (y:Int):Int:=bits .xor .u32 (bits .xor .u32 (rt y (-17)) (rt y (-19))) (y / 1024)
def yX (w:AQ) (j:Nat):AQ:=w.set (16+j) ((w[j]?.getD 0+sg0 (w[16+j - 15]?.getD 0)+w[16+j - 7]?.getD 0+sg1 (w[16+j - 2]?.getD 0)) % 4294967296)
def bW (blk:AQ):Nat->AQ
 | 0=>UX blk 16
 | j+1=>yX (bW blk j) j
def sgA (a:Int):Int:=bits .xor .u32 (bits .xor .u32 (rt a (-2)) (rt a (-13))) (rt a (-22))
def sgE (e:Int):Int:=bits .xor .u32 (bits .xor .u32 (rt e (-6)) (rt e (-11))) (rt e (-25))
def chU (e f g:Int):Int:=bits .xor .u32 (bits .and .u32 e f) (bits .and .u32 (bits .xor .u32 IntKind.u32.max e) g)
def mjU (a b c:Int):Int:=bits .xor .u32 (bits .xor .u32 (bits .and .u32 a b) (bits .and .u32 a c)) (bits .and .u32 b c)
def AE0 (kt wt:Int):AQ->AQ
 | [a,b,c,d,e,f,g,h]=>[(h+sgE e+chU e f g+kt+wt+(sgA a+mjU a b c)) % 4294967296,a,b,c,(d+(h+sgE e+chU e f g+kt+wt)) % 4294967296,e,f,g]
 | l=>l
def zC (w v:AQ):Nat->AQ
 | 0=>v
 | t+1=>AE0 (fq[t]?.getD 0) (w[t]?.getD 0) (zC w v t)
def Xq (hs v:AQ):Nat->AQ
 | 0=>hs
 | k+1=>(Xq hs v k).set k (((Xq hs v k)[k]?.getD 0+v[k]?.getD 0) % 4294967296)
def absP (hs blk:AQ):AQ:=Xq hs (zC (bW blk 48) hs 64) 8
theorem Nw (hs v:AQ) (k:Nat):(Xq hs v k).length=hs.length:=by
 induction k with
 | zero=>rfl
 | succ k ih=>rw [Xq,FM,ih]
theorem MV {w w':AH} (h:AK w w') (row:Option Nat):w.grownBy w' row:=⟨h.os,h.tape,h.output,h.size,fun i hi _=>h.block i hi⟩
theorem mG (blk w:AQ) (t i:Nat):(rowP blk w t i).length=w.length:=by
 induction i with
 | zero=>rfl
 | succ i ih=>rw [rowP,ADY,FM,ih]
theorem si (blk:AQ) (t:Nat):(UX blk t).length=64:=by
 induction t with
 | zero=>simp [UX,zeros]
 | succ t ih=>rw [UX,mG,ih]
theorem sZ (blk:AQ) (t:Nat):(bW blk t).length=64:=by
 induction t with
 | zero=>exact si _ _
 | succ t ih=>rw [bW,yX,FM,ih]
theorem dS (hb b off n c:Nat) (hs blk:AQ) (w:AH) (hT:Ca w) (hl:hs.length=8) (hh:AZ w hb 182 (uA hs)) (hn:64<=n) (hnn:n<=maxLen) (hbl:b < w.heap.size) (hcells:∀i,i < 64->w.cell? ⟨b,off+i,none⟩=some (AE Am (blk.getD i 0))):
 AS prog 95 #[AW (some ⟨hb,0,none⟩),AB (some ⟨b,off,none⟩) n c] w fun e w'=>e=AU (BQ #[])/\w.grownBy w' (some hb)/\AZ w' hb 182 (uA (absP hs blk)):=by
 have h0:AZ (w.alloc (AO (uA (zeros 64)) 241)) w.heap.size 241 (uA (zeros 64)):=AZ.new _ _ _;have h1:AK w (w.alloc (AO (uA (zeros 64)) 241)):=(Ae _ _).alloc (Ac _) _;have hz:uA (zeros 64)=(List.replicate 64 (Value.int .u32 0)).toArray:=by simp [uA,zeros]
 rw [hz] at h0 h1;simp only [List.replicate] at h0 h1;have H0:=AA h0;have H1:=AA h1;have HZ:=AA hz;have HT:AI (∀W,AK w W->∀t,t < 64->W.cell? ⟨0,t,none⟩=some (AE .u32 (fq[t]?.getD 0))):=AA (fun W hW=>(hT.below hW).2);have HH:=AA hh;have HC:=AA hcells;have ACH:hb < w.heap.size:=hh.lt;unfold maxLen at hnn;clear hh hcells h0 h1 hz hT;go_enter func95,ntmps95;go_wp2_with fail;go_loopg [23] 16 (fun q i wr=>∃k:Nat,k<=16/\q=16 - k/\i=AE AF k/\AZ wr w.heap.size 241 (uA (UX blk k))/\AK w wr)
 case atStart=>exact ⟨0,Av _,rfl,rfl,by rw [UX,HZ.o];exact H0.o,H1.o⟩
 clear H0 H1 HZ;obtain ⟨k,hk,hq,rfl,hbk,hb0⟩:=hrel;have df:=AA hq;have PE:=AA hbk;have HB0:=AA hb0;clear hq hbk hb0;by_cases hlt:k < 16
 ·have hk0:=Int.natCast_nonneg k
  have hk1:(k:Int) < 16:=AG
  go_wp2_with fail;go_loopg [26] 4 (fun q i wr=>∃j:Nat,j<=4/\q=4 - j/\i=AE AF j/\AZ wr w.heap.size 241 (uA (rowP blk (UX blk k) k j))/\AK w wr)
  case atStart=>exact ⟨0,Av _,rfl,rfl,PE.o,HB0.o⟩
  clear PE HB0;obtain ⟨j,hj,hq,rfl,hbk,hb0⟩:=hrel;have HQ:=AA hq;by_cases AFf:j < 4
  ·have hj0:(0:Int)<=(j:Int):=by omega
   have hj1:(j:Int) < 4:=AG
   have hlw:(rowP blk (UX blk k) k j).length=64:=by rw [mG,si]
   have c1:=Lv hbk (i:=k) AG;have c2:wr.cell? ⟨b,off+(4*k+j),none⟩=some (AE Am (blk.getD (4*k+j) 0)):=(hb0.cell (p:=⟨b,_,none⟩) hbl).trans (HC.o (4*k+j) AG);have lw:=hbk.lt;have PE:=AA hbk;have HB0:=AA hb0;have hs1:((4*(k:Int)+(j:Int))).toNat=4*k+j:=AG
   have hs2:4*(k:Int)+(j:Int) < (n:Int):=AG
   have fz:=PE.o.frozen k;clear hq hbk hb0;go_wp2_with fail;go_region;have AIu:AI (AZ (wr.setCell ⟨w.heap.size,k,none⟩ (AE .u32 (bits .or .u32 ((rowP blk (UX blk k) k j)[k]?.getD 0*256 % 4294967296) (blk[4*k+j]?.getD 0 % 4294967296)))).drew w.heap.size 241 (uA (rowP blk (UX blk k) k (j+1)))):=AA (bZ PE.o k _).drew;have HB2:=AA (HB0.o.setCell (p:=⟨w.heap.size,k,none⟩) (Ac _) (AE .u32 (bits .or .u32 ((rowP blk (UX blk k) k j)[k]?.getD 0*256 % 4294967296) (blk[4*k+j]?.getD 0 % 4294967296)))).drew;clear c1 c2 fz;go_wp2_with fail;go_roundg (4 - (j+1))
   case measure=>exact BS
   case rel=>exact ⟨j+1,by omega,rfl,by go_num,AIu.o,HB2.o⟩
  have PE:AI (AZ wr w.heap.size 241 (uA (UX blk (k+1)))):=AA (by have:=hbk;rwa [show j=4 by omega] at this);have HB0:=AA hb0;clear hq hbk hb0;go_wp2_with fail;go_roundg (16 - (k+1))
  case measure=>have:=df.o;omega
  case rel=>exact ⟨k+1,by omega,rfl,by go_num,PE.o,HB0.o⟩
 have AGs:AI (AZ wr w.heap.size 241 (uA (bW blk 0))):=AA (by have:=PE.o;rwa [show k=16 by omega] at this);have HB1:=HB0;clear PE HB0 df;obtain ⟨wy,rfl⟩:=Ad wr;go_wp2_with fail;go_loopg [7] 48 (fun q i wr=>∃j:Nat,j<=48/\q=48 - j/\i=AE AF ((16+j:Nat):Int)/\AZ wr w.heap.size 241 (uA (bW blk j))/\AK w wr)
 case atStart=>exact ⟨0,Av _,rfl,rfl,AGs.o,HB1.o⟩
 clear AGs HB1;obtain ⟨j,hj,hq,rfl,hbk,hb0⟩:=hrel;have HQ:=AA hq;have PE:=AA hbk;have HB0:=AA hb0;by_cases AFf:j < 48
 ·have hlw:=sZ blk j
  have c16:=Lv hbk (i:=j) AG;have c0:=Lv hbk (i:=16+j) AG;have c15:=Lv hbk (i:=16+j - 15) AG;have c7:=Lv hbk (i:=16+j - 7) AG;have c2:=Lv hbk (i:=16+j - 2) AG;have lw:=hbk.lt;have fz:=hbk.frozen (16+j);have hj0:(0:Int)<=((16+j:Nat):Int):=AG
  have hj1:((16+j:Nat):Int) < 64:=AG
  clear hq hbk hb0;go_wp2_with fail;go_region;go_wp2_with (go_at_call 139;refine (mF _ UD _ _).mono ?_;rintro e w' ⟨rfl,rfl⟩);go_region;clear c0 c16 c15 c7 c2 fz;go_wp2_with fail;go_roundg (48 - (j+1))
  case measure=>exact BS
  case rel=>exact ⟨j+1,by omega,rfl,by go_num,by
   exact (bZ PE.o (16+j) _).drew.drew,(HB0.o.setCell (Ac _) _).drew.drew⟩
 have AIt:AI (AZ wr w.heap.size 241 (uA (bW blk 48))):=AA (by have:=PE.o;rwa [show j=48 by omega] at this);have HB3:=HB0;have hl8:∃h0 h1 h2 h3 h4 h5 h6 h7,hs=[h0,h1,h2,h3,h4,h5,h6,h7]:=by
  match hs,hl with
  | [h0,h1,h2,h3,h4,h5,h6,h7],_=>exact ⟨h0,h1,h2,h3,h4,h5,h6,h7,rfl⟩
 obtain ⟨h0,h1,h2,h3,h4,h5,h6,h7,rfl⟩:=hl8;have kH:=HH.o.below hb0 ACH;have d0:=kH.cell 0;have d1:=kH.cell 1;have d2:=kH.cell 2;have d3:=kH.cell 3;have d4:=kH.cell 4;have d5:=kH.cell 5;have d6:=kH.cell 6;have d7:=kH.cell 7;simp only [uA,Fe,N2,Ak,Al,Az] at d0 d1 d2 d3 d4 d5 d6 d7;have TD:=AA kH;have hbw:hb < wr.heap.size:=kH.lt;have lw:=hbk.lt;clear PE HB0 HQ hq hbk hb0 kH;obtain ⟨wy,rfl⟩:=Ad wr;have k0:AZ (wy.alloc (AO #[AE .u32 h0,AE .u32 h1,AE .u32 h2,AE .u32 h3,AE .u32 h4,AE .u32 h5,AE .u32 h6,AE .u32 h7] 182)) wy.heap.size 182 (uA [h0,h1,h2,h3,h4,h5,h6,h7]):=AZ.new _ _ _;have K0:=AA k0;have E0:AI (AK wy (wy.alloc (AO #[AE .u32 h0,AE .u32 h1,AE .u32 h2,AE .u32 h3,AE .u32 h4,AE .u32 h5,AE .u32 h6,AE .u32 h7] 182))):=AA (BE _ _);clear k0;go_wp2_with fail;clear d0 d1 d2 d3 d4 d5 d6 d7;go_loopg [92] 64 (fun q i wr=>∃(t:Nat) (v0 v1 v2 v3 v4 v5 v6 v7:Int),t<=64/\q=64 - t/\i=AE AF t/\[v0,v1,v2,v3,v4,v5,v6,v7]=zC (bW blk 48) [h0,h1,h2,h3,h4,h5,h6,h7] t/\AZ wr wy.heap.size 182 (uA [v0,v1,v2,v3,v4,v5,v6,v7])/\AK wy wr)
 case atStart=>exact ⟨0,_,_,_,_,_,_,_,_,Av _,rfl,rfl,rfl,K0.o,E0.o⟩
 clear K0 E0;obtain ⟨t,v0,v1,v2,v3,v4,v5,v6,v7,ht,hq,rfl,hv,hbk,hb0⟩:=hrel;have HQ:=AA hq;have HV:=AA hv;have PE:=AA hbk;have HB0:=AA hb0;by_cases AFe:t < 64
 ·have e0:=hbk.cell 0
  have e1:=hbk.cell 1;have e2:=hbk.cell 2;have e3:=hbk.cell 3;have e4:=hbk.cell 4;have e5:=hbk.cell 5;have e6:=hbk.cell 6;have e7:=hbk.cell 7;have f0:=hbk.frozen 0;have f1:=hbk.frozen 1;have f2:=hbk.frozen 2;have f3:=hbk.frozen 3;have f4:=hbk.frozen 4;have f5:=hbk.frozen 5;have f6:=hbk.frozen 6;have f7:=hbk.frozen 7;simp only [uA,Fe,N2,Ak,Al,Az] at e0 e1 e2 e3 e4 e5 e6 e7;have tR:=Lv (AIt.o.below hb0 lw) (i:=t) (by rw [sZ];exact AFe);have hkt:=HT.o wr (AV HB3.o hb0) t AFe;have lv:=hbk.lt;have ht0:(0:Int)<=(t:Int):=AG
  have ht1:(t:Int) < 64:=AG
  have hsg:IntKind.u32.signed=false:=rfl;clear hq hv hbk hb0;go_wp2_with fail;go_region;go_wp2_with (go_at_call 139;refine (mF _ UD _ _).mono ?_;rintro e w' ⟨rfl,rfl⟩);go_region;go_wp2_with (go_at_call 139;refine (mF _ UD _ _).mono ?_;rintro e w' ⟨rfl,rfl⟩);clear e0 e1 e2 e3 e4 e5 e6 e7 f0 f1 f2 f3 f4 f5 f6 f7 tR hkt hsg;go_wp2_with fail;go_roundg (64 - (t+1))
  case measure=>exact BS
  refine ⟨t+1,_,v0,v1,v2,_,v4,v5,v6,by omega,rfl,by go_num,?hv,((((((((bZ PE.o 0 _)).put 1 _).put 2 _).put 3 _).put 4 _).put 5 _).put 6 _).put 7 _ |>.drew.drew,((((((((HB0.o.setCell (Ac _) _).setCell (Ac _) _).setCell (Ac _) _).setCell (Ac _) _).setCell (Ac _) _).setCell (Ac _) _).setCell (Ac _) _).setCell (Ac _) _).drew.drew⟩
  case hv=>rw [zC,<-HV.o];rfl
 have Dw:AI ([v0,v1,v2,v3,v4,v5,v6,v7]=zC (bW blk 48) [h0,h1,h2,h3,h4,h5,h6,h7] 64):=AA (by rw [hv,show t=64 by omega]);obtain ⟨wz,hwz⟩:=Ad wr;have VK:AI (AZ wz wy.heap.size 182 (uA [v0,v1,v2,v3,v4,v5,v6,v7])):=AA (by rw [hwz];exact hbk);have CO:AI (AK w wz):=AA (by rw [hwz];exact AV HB3.o hb0);obtain ⟨V,hV⟩:=Ad ([v0,v1,v2,v3,v4,v5,v6,v7]);have VC:AI (V.length=8):=AA (by rw [hV];rfl);rw [<-hV] at Dw VK;have hkz:AZ wz hb 182 (uA (Xq [h0,h1,h2,h3,h4,h5,h6,h7] V 0)):=by rw [hwz];exact TD.o.below hb0 hbw
 have HKZ:=AA hkz;have hvb:hb < wy.heap.size:=hbw;have hvz:wy.heap.size < wz.heap.size:=VK.o.lt;subst hwz;clear HQ HV PE HB0 hq hv hbk hb0 hkz hV;go_wp2_with fail;go_loopg [172] 8 (fun q i wr=>∃k:Nat,k<=8/\q=8 - k/\i=AE AF k/\AZ wr hb 182 (uA (Xq [h0,h1,h2,h3,h4,h5,h6,h7] V k))/\wz.grownBy wr (some hb))
 case atStart=>exact ⟨0,Av _,rfl,rfl,HKZ.o,DS _ _⟩
 clear HKZ;obtain ⟨g,hg,hq,rfl,hbk,hb0⟩:=hrel;have HQ:=AA hq;have PE:=AA hbk;have HB0:=AA hb0;by_cases AHd:g < 8
 ·have hlen:=Nw [h0,h1,h2,h3,h4,h5,h6,h7] V g
  have e0:=Lv hbk (i:=g) (by rw [hlen];exact AHd);have e1:=Lv (VK.o.grown hb0 D7) (i:=g) (by have:=VC.o;omega);have fz:=hbk.frozen g;have lz:=hbk.lt;have hg0:(0:Int)<=(g:Int):=AG
  have hg1:(g:Int) < 8:=AG
  clear hq hbk hb0 hlen;go_wp2_with fail;go_region;clear e0 e1 fz;go_wp2_with fail;go_roundg (8 - (g+1))
  case measure=>exact BS
  case rel=>exact ⟨g+1,by omega,rfl,by go_num,(bZ PE.o g _).drew,grown_drew (OM HB0.o g _)⟩
 have HE:AI (absP [h0,h1,h2,h3,h4,h5,h6,h7] blk=Xq [h0,h1,h2,h3,h4,h5,h6,h7] V g):=AA (by rw [absP,<-Dw.o,show g=8 by omega]);clear hq hbk hb0;go_wp2_with fail
 go_end0
 refine ⟨rfl,?_,by rw [HE.o];exact PE.o⟩;exact ⟨HB0.o.os.trans CO.o.os,HB0.o.tape.trans CO.o.tape,HB0.o.output.trans CO.o.output,BH CO.o.size HB0.o.size,fun x hx hne=>(HB0.o.block x (Au hx CO.o.size) hne).trans (CO.o.block x hx)⟩
structure Fd where
 h:AQ
 b:AQ
 k:Nat
def Y5 (s:Fd) (x:Int):Fd:=if s.k+1=64 then ⟨absP s.h (s.b.set s.k x),s.b.set s.k x,0⟩ else ⟨s.h,s.b.set s.k x,s.k+1⟩
def JZ (s:Fd) (l:AQ):Fd:=l.foldl Y5 s
theorem oH (s:Fd) (l r:AQ):JZ s (l++r)=JZ (JZ s l) r:=RL
theorem TR {l:AQ} {k:Nat} {x:Int} {c:AQ} (h:k+1+c.length<=l.length):splice (l.set k x) (k+1) c=splice l k (x::c):=by
 have hk:k < l.length:=AG
 unfold splice;have e1:(l.set k x).take (k+1)=l.take k++[x]:=by rw [List.take_set,dx hk];rw [YV _ _ BN];simp [List.length_take,Nat.min_eq_left (Nat.le_of_lt hk)]
 have e2:(l.set k x).drop (k+1+c.length)=l.drop (k+(x::c).length):=by rw [List.drop_set_of_lt AG];simp only [Gw];congr 1;omega
 rw [e1,e2];simp
theorem ZW:∀(c:AQ) (s:Fd),s.b.length=64->s.k+c.length<=64->s.k < 64->0 < c.length->
 JZ s c=if s.k+c.length=64 then ⟨absP s.h (splice s.b s.k c),splice s.b s.k c,0⟩ else ⟨s.h,splice s.b s.k c,s.k+c.length⟩
 | [],_,_,_,_,h=>by simp at h
 |
  [x],⟨h,b,k⟩,hb,hc,hk,_=>by
  have hb:b.length=64:=hb;have hk:k < 64:=hk;have e:splice b k [x]=b.set k x:=by unfold splice;rw [List.set_eq_take_append_cons_drop,Ao AG];rfl
  rw [e];rfl
 |
  x::y::r,⟨h,b,k⟩,hb,hc,hk,_=>by
  have hb:b.length=64:=hb;have hc:k+(r.length+1+1)<=64:=hc;have hk:k < 64:=hk;have ih:=ZW (y::r) ⟨h,b.set k x,k+1⟩ (by rw [FM];exact hb) rH (by omega:k+1 < 64) AX;have e:JZ ⟨h,b,k⟩ (x::y::r)=JZ ⟨h,b.set k x,k+1⟩ (y::r):=by show JZ (Y5 ⟨h,b,k⟩ x) (y::r)=_;rw [Y5,Ai (show ¬(k+1=64) by omega)]
  rw [e,ih];have e2:splice (b.set k x) (k+1) (y::r)=splice b k (x::y::r):=TR rH;show (if k+1+(y::r).length=64 then _ else _)=(if k+(x::y::r).length=64 then _ else _);have el:k+1+(y::r).length=k+(x::y::r).length:=by simp only [Gw];omega
  simp only [e2,el]
theorem jC:∀(c:AQ) (s:Fd),s.h.length=8/\s.b.length=64/\s.k < 64->(JZ s c).h.length=8/\(JZ s c).b.length=64/\(JZ s c).k < 64
 | [],_,h=>h
 |
  x::c,s,h=>by
  show (JZ (Y5 s x) c).h.length=8/\_;refine jC c (Y5 s x) ?_;unfold Y5;split
  · exact ⟨by show (absP _ _).length=8;rw [absP,Nw];exact h.1,by show (s.b.set _ _).length=64;rw [FM];exact h.2.1,by show 0 < 64;omega⟩
  · exact ⟨h.1,by show (s.b.set _ _).length=64;rw [FM];exact h.2.1,by show s.k+1 < 64;omega⟩
def OS (s:Fd) (ps:List (AQ)):Fd:=ps.foldl JZ s
def Rg (t:Int) (ps:List (AQ)):Int:=ps.foldl (fun t p=>IntKind.u64.wrap (t+(p.length:Int))) t
def F0 (b:AQ) (k:Nat):AQ:=b.take k++128::zeros (63 - k)
def Om (b:AQ) (t:Int):Nat->AQ
 | 0=>b
 | i+1=>(Om b t i).set (63 - i) (IntKind.u64.wrap (t*8) / 2 ^ (8*i) % 256)
theorem zj (b:AQ) (t:Int) (i:Nat):(Om b t i).length=b.length:=by
 induction i with
 | zero=>rfl
 | succ i ih=>rw [Om,FM,ih]
def endP (s:Fd) (t:Int):AQ:=
 if 56 < s.k+1 then absP (absP s.h (F0 s.b s.k)) (Om (zeros 64) t 8) else absP s.h (Om (F0 s.b s.k) t 8)
def QE:AQ:=[1779033703,3144134277,1013904242,2773480762,1359893119,2600822924,528734635,1541459225]
def NQ (h:AQ):Nat->AQ
 | 0=>zeros 32
 | i+1=>(NQ h i).set i (h[i / 4]?.getD 0 / 2 ^ (24 - 8*(i % 4)) % 256)
theorem aY (h:AQ) (i:Nat):(NQ h i).length=32:=by
 induction i with
 | zero=>simp [NQ,zeros]
 | succ i ih=>rw [NQ,FM,ih]
def Ox (ps:List (AQ)):AQ:=NQ (endP (OS ⟨QE,zeros 64,0⟩ ps) (Rg 0 ps)) 32
def Aw (tag b:AQ):AQ:=Ox [Ox [tag],b]
theorem Sn (ps:List (AQ)):(Ox ps).length=32:=aY _ _
theorem C7 (t b:AQ):(Aw t b).length=32:=Sn _
def Il (_:AH) (cs:List AN) (x:Int):Prop:=cs=[AE Am x]
theorem P5:Eb Il:=fun _ _ _ _ _ h=>h
def VT (w:AH) (cs:List AN) (l:AQ):Prop:=∃A n c,cs=[AB A n c]/\Ag 1 Il w (AB A n c) l
theorem yw:Eb VT:=fun _ _ hb _ _ ⟨A,n,c,h,hs⟩=>⟨A,n,c,h,hs.mono P5 hb⟩
def yA (l:AQ):Array AN:=(l.map (Value.int .u8)).toArray
theorem Jr {w:AH} {g:Nat} {t:Af} {l:AQ} (h:AZ w g t (yA l)) {i:Nat} (hi:i < l.length):w.cell? ⟨g,i,none⟩=some (AE Am (l.getD i 0)):=by rw [h.cell,yA,Ak,Bb,Cv,BJ hi];rfl
theorem Wf {w:AH} {g:Nat} {t:Af} {l:AQ} (h:AZ w g t (yA l)) (i:Nat) (x:Int):AZ (w.setCell ⟨g,i,none⟩ (AE Am x)) g t (yA (l.set i x)):=by
 have:=h.put i (AE Am x)
 rwa [yA,Lr,<-Q8] at this
theorem cW {α β:Type} (f:α->β) (l:List α) (k:Nat) (c:List α):(splice l k c).map f=splice (l.map f) k (c.map f):=by simp [splice]
theorem Y3 {a w w':AH} {row:Option Nat} {B:Nat} (h:a.grownBy w row) (hb:BI B w w') (hB:a.heap.size<=B):a.grownBy w' row:=
 ⟨hb.os.trans h.os,hb.tape.trans h.tape,hb.output.trans h.output,BH h.size hb.size,fun i hi hne=>(hb.block i AG).trans (h.block i hi hne)⟩
theorem ND {a w w':AH} {row:Option Nat} (h:a.grownBy w row) (k:w.grownBy w' row):a.grownBy w' row:=
 ⟨k.os.trans h.os,k.tape.trans h.tape,k.output.trans h.output,BH h.size k.size,fun i hi hne=>(k.block i (Au hi h.size) hne).trans (h.block i hi hne)⟩
theorem below_of_grown {a w:AH} {g B:Nat} (h:a.grownBy w (some g)) (hB:B<=g) (hs:B<=a.heap.size):BI B a w:=
 ⟨h.os,h.tape,h.output,h.size,fun i hi=>h.block i AG (fun e=>by injection e;omega)⟩
theorem Ag.vr {α:Type} {sz:Nat} {R:AH->List AN->α->Prop} {w:AH} {l:List α} {b off n c k:Nat} (h:Ag sz R w (AB (some ⟨b,off,none⟩) n c) l) (hk:k<=n):
 Ag sz R w (AB (some ⟨b,off+k*sz,none⟩) (n - k) (c - k)) (l.drop k):=by
 obtain ⟨A,cap,e,h1,h2,h3⟩:=h;injection e with e1 e2 e3;subst e1 e2 e3;refine ⟨_,_,by rw [JN],by rw [JN];omega,by omega,fun i x hi=> ?_⟩;rw [EP] at hi;obtain ⟨b',off',cs,e,hb,hl,hc,hr⟩:=h3 _ _ hi;injection e with e;injection e with e1 e2 _;subst e1 e2;refine ⟨b,off+k*sz,cs,rfl,hb,hl,fun j u hu=> ?_,hr⟩;rw [<-hc j u hu,Nat.add_mul];congr 2;omega
structure BlW (E w:AH) (hb g:Nat) (s:Fd) (wr:AH):Prop where
 h:AZ wr hb 182 (uA s.h)
 b:AZ wr g 239 (yA s.b)
 gr:w.grownBy wr (some hb)
 inv:s.h.length=8/\s.b.length=64/\s.k < 64
theorem Pj {g:Nat} {t:Af}:∀(xs:AQ) (o:Nat) (w:AH) (l:AQ),AZ w g t (yA l)->o+xs.length<=l.length->AZ (w.setCells g o (xs.map (.int .u8))) g t (yA (splice l o xs))
 |
  [],o,w,l,h,_=>by
  have e:splice l o []=l:=by simp [splice]
  rw [e];exact h
 |
  x::xs,o,w,l,h,hl=>by
  rw [<-TR (by simp only [Gw] at hl;omega)];exact Pj xs (o+1) _ _ (Wf h o x) (by rw [FM];simp only [Gw] at hl;omega)
theorem below_setCells {g B:Nat}:∀(vs:List AN) (o:Nat) (a w:AH),BI B a w->B<=g->BI B a (w.setCells g o vs)
 | [],_,_,_,h,_=>h
 | v::vs,o,a,w,h,hB=>below_setCells vs (o+1) a (w.setCell ⟨g,o,none⟩ v) (h.setCell (p:=⟨g,o,none⟩) hB v) hB
theorem TY {a w:AH} {g:Nat} {row:Option Nat} (h:a.grownBy w row) (hg:a.heap.size<=g) (o:Nat) (vs:List AN):a.grownBy (w.setCells g o vs) row:=
 Y3 h (below_setCells vs o w w (Ae _ _) (Ac g)) hg
theorem tH {b:AQ} {k:Nat} (hb:b.length=64) (hk:k < 64):splice (b.set k 128) (k+1) (zeros (63 - k))=F0 b k:=by rw [TR (by simp [zeros];omega)];unfold splice F0;rw [Ex (by simp [zeros];omega)];simp
theorem wH (hb np pc:Nat) (P:Option Aa) (hs:AQ) (ps:List (AQ)) (E w:AH) (hT:Ca E) (hE:AK E w) (hbE:E.heap.size<=hb) (hl:hs.length=8) (hh:AZ w hb 182 (uA hs)) (hp:Ag 1 VT E (AB P np pc) ps):
 AS prog 94 #[.func (.func 95) #[AW (some ⟨hb,0,none⟩)] #[],AB P np pc] w fun e w'=>e=AU (BQ #[])/\w.grownBy w' (some hb)/\AZ w' hb 182 (uA (endP (OS ⟨hs,zeros 64,0⟩ ps) (Rg 0 ps))):=by
 have hz:yA (zeros 64)=(List.replicate 64 (Value.int .u8 0)).toArray:=by simp [yA,zeros]
 have h0:BlW E w hb w.heap.size ⟨hs,zeros 64,0⟩ (w.alloc (AO (yA (zeros 64)) 239)):=⟨hh.alloc _,AZ.new _ _ _,Ta (DS _ _) _,hl,by simp [zeros],(by omega:(0:Nat) < 64)⟩;rw [hz] at h0;simp only [List.replicate] at h0;have H0:=AA h0;have HT:=AA hT;have HP:=AA hp;have HE:=AA hE;have hhb:=hh.lt;have hnp:np<=9223372036854775807:=by have:=hp.le;omega
 have IB:=AA hp.len;clear h0 hT hp hE hh hz;obtain ⟨Tf,hTf⟩:=Ad (OS ⟨hs,zeros 64,0⟩ ps);obtain ⟨Tt,hTt⟩:=Ad (Rg 0 ps);rw [<-hTf,<-hTt];have tr:=AA hTf;have O8:=AA hTt;clear hTf hTt;go_enter func94,ntmps94;go_wp2_with fail;go_loopg [5,6,13] np (fun q at' tot i wr=>∃(k:Nat) (s:Fd) (t:Int),k<=np/\q=np - k/\i=AE AF k/\at'=AE AF s.k/\tot=AE .u64 t/\OS s (ps.drop k)=Tf/\Rg t (ps.drop k)=Tt/\BlW E w hb w.heap.size s wr)
 case atStart=>exact ⟨0,⟨hs,zeros 64,0⟩,0,Av _,rfl,rfl,rfl,rfl,tr.o.symm,O8.o.symm,H0.o⟩
 clear H0 tr O8;obtain ⟨k,s,t,hk,hq,rfl,rfl,rfl,hf,ht,hB⟩:=hrel;have HQ:=AA hq;have HF:=AA hf;have DZ:=AA ht;have HB:=AA hB;by_cases hlt:k < np
 ·have hEr:AK E wr:=HE.o.trans (below_of_grown hB.gr hbE HE.o.size)
  obtain ⟨b,off,x,cs,rfl,hbl,hx,hcl,hc,A,n,c,rfl,hs1⟩:=HP.o.at_ hlt;have c0:wr.cell? ⟨b,off+k,none⟩=some (AB A n c):=by have:=hc 0 _ rfl;rw [Gs,EO] at this;exact (hEr.cell (p:=⟨b,_,none⟩) hbl).trans this
  have hbw:b < wr.heap.size:=Au hbl hEr.size;have hk0:=Int.natCast_nonneg k
  have hk1:(k:Int) < (np:Int):=AG
  have hnl:=hs1.len;have hn2:n<=9223372036854775807:=by have:=hs1.le;omega
  have HDR:AI (OS (JZ s x) (ps.drop (k+1))=Tf/\Rg (IntKind.u64.wrap (t+(n:Int))) (ps.drop (k+1))=Tt):=AA (by rw [hnl,<-hf,<-ht,drop_cons hx];exact ⟨rfl,rfl⟩)
  obtain ⟨F1,hF1⟩:=Ad (JZ s x);rw [<-hF1] at HDR;have dm:=AA hF1;have JY:=AA hs1;clear hq hf ht hB hcl hc hnl hF1 HF DZ hs1 hEr;go_wp2_with fail;clear c0 hbw;go_loopg [5,8] n (fun q at' b' wr=>∃(s:Fd) (l:AQ) (A:Option Aa) (m c:Nat),m<=9223372036854775807/\q=m/\at'=AE AF s.k/\b'=AB A m c/\JZ s l=F1/\Ag 1 Il E (AB A m c) l/\BlW E w hb w.heap.size s wr)
  case atStart=>exact ⟨s,x,A,n,c,hn2,rfl,rfl,rfl,dm.o.symm,JY.o,HB.o⟩
  clear dm JY HB;obtain ⟨s2,l,A2,m,c2,hm,hq,rfl,rfl,hf,hs2,hB⟩:=hrel;have Io:=AA hq;have HF:=AA hf;have HS2:=AA hs2;have HB:=AA hB;by_cases hm0:0 < m
  ·obtain ⟨b2,off2,x0,cs0,rfl,ACH,hx0,_,_,_⟩:=hs2.at_ hm0
   have hml:=hs2.len;have hcap:=hs2.le;have hEr:AK E wr:=HE.o.trans (below_of_grown hB.gr hbE HE.o.size);obtain ⟨sh,sb,sk⟩:=s2;obtain ⟨i1,i2,i3⟩:=hB.inv;have i1:sh.length=8:=i1;have i2:sb.length=64:=i2;have i3:sk < 64:=i3;obtain ⟨n1,hn1⟩:=Ad (Nat.min m (64 - sk));have AHZ:0 < n1:=by rw [hn1];exact Nat.lt_min.2 ⟨hm0,by omega⟩
   have AHY:n1<=m:=by rw [hn1];exact Nat.min_le_left _ _
   have AFc:sk+n1<=64:=by have:n1<=64 - sk:=by {rw [hn1];exact Nat.min_le_right _ _};omega
   obtain ⟨X,hX⟩:=Ad ((l.take n1).map (Value.int .u8));have hXl:X.length=n1:=by rw [hX,Cb,ER,Tq AG]
   have HXl:=AA hXl;have HX:=AA hX;have X5:=AA hn1;have Zh:=AA hml;have HI2:=AA i2;have HI1:=AA i1;have hk0:(0:Int)<=(sk:Int):=AG
   have hk1:(sk:Int) < 64:=AG
   have hk2:(sk:Int)<=64:=AG
   have hm1:(0:Int) < (m:Int):=AG
   have gb:=hB.b.lt;have gp:AI (∀j v,X[j]? =some v->wr.cell? ((⟨b2,off2,none⟩:Aa).add j)=some v):=AA (by
    intro j v hv;rw [hX,Bb] at hv;obtain ⟨y,hy,rfl⟩:=Ds.1 hv;have hjl:=(BD.1 hy).1;rw [ER] at hjl;obtain ⟨b3,AI6,x3,Za,e3,hb3,hx3,hl3,hc3,rfl⟩:=hs2.at_ (k:=j) AG;injection e3 with e3;injection e3 with e3 e4 _;subst e3 e4;rw [Jl AG,hx3] at hy;injection hy with hy;subst hy;have:=hc3 0 _ rfl;rw [Gs,EO] at this;have ha:(⟨b2,off2,none⟩:Aa).add j=⟨b2,off2+j,none⟩:=by unfold Addr.add;split <;> simp_all
    rw [ha];exact (hEr.cell (p:=⟨b2,_,none⟩) hb3).trans this)
   clear hq hf hs2 hB hXl hX hn1 hml i1 i2 hx0;go_upto_region 8 with (refine wpList_copy_splice rfl (AY 26) (AY 27) 104 104 rfl 5 underlying104 AJ _ _ _ _ _ _ rfl rfl w.heap.size sk (sb.map (Value.int .u8)) 239 HB.o.b X (HXl.o.trans X5.o) (fun _=>⟨rfl,_,rfl,gp.o⟩) (by have:=HXl.o;have:=HI2.o;rw [Cb];omega) (by intro v hv;rw [HX.o] at hv;obtain ⟨_,_,rfl⟩:=Dd.1 hv;rfl) w.heap.size wr (Ae _ _) (Ac _) ?_;intro w2 HG2 hB2;rw [HXl.o]);obtain ⟨B1,hB1⟩:=Ad (splice sb sk (l.take n1));have kb:AZ w2 w.heap.size 239 (yA B1):=by have this:_=_:=HG2;rw [HX.o,<-cW] at this;rw [hB1];exact this
   have kh:AZ w2 hb 182 (uA sh):=HB.o.h.below hB2 hhb;have kg:w.grownBy w2 (some hb):=Y3 HB.o.gr hB2 (Ac _);have hBl:B1.length=64:=by
    have h1:(l.take n1).length=n1:=by rw [ER,Tq eD]
    rw [hB1,length_splice _ _ _ (by rw [h1,HI2.o];exact AFc),HI2.o]
   have hch:JZ ⟨sh,sb,sk⟩ (l.take n1)=if sk+n1=64 then ⟨absP sh B1,B1,0⟩ else ⟨sh,B1,sk+n1⟩:=by
    have h1:(l.take n1).length=n1:=by rw [ER,Tq eD]
    have:=ZW (l.take n1) ⟨sh,sb,sk⟩ HI2.o (by rw [h1];exact AFc) (by show sk < 64;omega) (by rw [h1];exact AHZ);rw [h1] at this;rw [hB1];exact this
   have Li:AI (JZ (if sk+n1=64 then ⟨absP sh B1,B1,0⟩ else ⟨sh,B1,sk+n1⟩) (l.drop n1)=F1):=AA (by rw [<-hch,<-oH,Tw];exact HF.o)
   have KB:=AA kb;have KH:=AA kh;have KG:=AA kg;have Nh:=AA hBl;have SA:AI (Ag 1 Il E (AB (some ⟨b2,off2+n1,none⟩) (m - n1) (c2 - n1)) (l.drop n1)):=AA (by have:=HS2.o.vr AHY;rwa [Gs] at this);have HSM:AI (c2=n1->Ag 1 Il E (AB (some ⟨b2,off2,none⟩) (m - n1) 0) (l.drop n1)):=AA (fun h=>by
    have h1:m - n1=0:=AG
    rw [h1,Ex eD];exact Ag.nil _ _ (Av _))
   have hn0:(0:Int)<=(n1:Int):=AG
   have AJD:(n1:Int)<=(m:Int):=AG
   have hw2:w.heap.size < w2.heap.size:=kb.lt;clear hB1 kb kh kg hBl hch HG2 hB2 HX gp HF HB HS2 hcap hEr;have HAB:AI (∀W,AK w2 W->AS prog 95 #[AW (some ⟨hb,0,none⟩),AB (some ⟨w.heap.size,0,none⟩) 64 64] W fun e w'=>e=AU (BQ #[])/\W.grownBy w' (some hb)/\AZ w' hb 182 (uA (absP sh B1))):=AA (fun W hW=>by have kb':AZ W w.heap.size 239 (yA B1):=KB.o.below hW hw2;exact dS hb w.heap.size 0 64 64 sh B1 W (HT.o.below (HE.o.trans (below_of_grown (KG.o) hbE HE.o.size) |>.trans (hW.mono (by have:=HE.o.size;omega)))) HI1.o (KH.o.below hW AG) (Ac _) FN kb'.lt (fun i hi=>by rw [Fc];exact Jr kb' (by rw [Nh.o];exact hi)))
   by_cases hcn:c2=n1 <;> by_cases h64:sk+n1=64
   ·obtain rfl:=hcn.symm
    have hd1:((sk:Int)+(n1:Int)==64)=true:=by simp;omega
    have HI:AI (sk+n1=64):=AA h64;rw [Ao h64] at Li;clear h64;go_wp2_with fail;go_region;go_wp2_with (go_at_call 95;refine (HAB.o _ (Ae _ _).drew).mono ?_;clear HAB);rintro e w3 ⟨rfl,hg3,hk3⟩;have KB3:AI (AZ w3 w.heap.size 239 (yA B1)):=AA (KB.o.drew.grown hg3 D7);have KG3:AI (w.grownBy w3 (some hb)):=AA (ND (grown_drew KG.o) hg3);have KH3:=AA hk3;clear hg3 hk3 hd1;go_wp2_with fail;go_roundg (m - n1)
    case measure=>exact Jw
    case rel=>exact ⟨⟨absP sh B1,B1,0⟩,l.drop n1,_,m - n1,_,by omega,rfl,rfl,rfl,Li.o,HSM.o trivial,⟨KH3.o,KB3.o,KG3.o,by show (absP sh B1).length=8;rw [absP,Nw];exact HI1.o,Nh.o,(by omega:(0:Nat) < 64)⟩⟩
   ·obtain rfl:=hcn.symm
    have hd1:((sk:Int)+(n1:Int)==64)=false:=by simp;omega
    rw [Ai h64] at Li;clear HAB;go_wp2_with fail;go_region;go_wp2_with fail;go_roundg (m - n1)
    case measure=>exact Jw
    case rel=>exact ⟨⟨sh,B1,sk+n1⟩,l.drop n1,_,m - n1,_,by omega,rfl,by go_num,rfl,Li.o,HSM.o trivial,⟨KH.o.drew,KB.o.drew,grown_drew KG.o,HI1.o,Nh.o,(by omega:sk+n1 < 64)⟩⟩
   ·have hx:=trivial
    clear hx;have hd1:((sk:Int)+(n1:Int)==64)=true:=by simp;omega
    have HI:AI (sk+n1=64):=AA h64;rw [Ao h64] at Li;clear h64;go_wp2_with fail;go_region;go_wp2_with (go_at_call 95;refine (HAB.o _ (Ae _ _).drew).mono ?_;clear HAB);rintro e w3 ⟨rfl,hg3,hk3⟩;have KB3:AI (AZ w3 w.heap.size 239 (yA B1)):=AA (KB.o.drew.grown hg3 D7);have KG3:AI (w.grownBy w3 (some hb)):=AA (ND (grown_drew KG.o) hg3);have KH3:=AA hk3;clear hg3 hk3 hd1;go_wp2_with fail;go_roundg (m - n1)
    case measure=>exact Jw
    case rel=>exact ⟨⟨absP sh B1,B1,0⟩,l.drop n1,_,m - n1,_,by omega,rfl,rfl,rfl,Li.o,SA.o,⟨KH3.o,KB3.o,KG3.o,by show (absP sh B1).length=8;rw [absP,Nw];exact HI1.o,Nh.o,(by omega:(0:Nat) < 64)⟩⟩
   have hx:=trivial;clear hx;have hd1:((sk:Int)+(n1:Int)==64)=false:=by simp;omega
   rw [Ai h64] at Li;clear HAB;go_wp2_with fail;go_region;go_wp2_with fail;go_roundg (m - n1)
   case measure=>exact Jw
   case rel=>exact ⟨⟨sh,B1,sk+n1⟩,l.drop n1,_,m - n1,_,by omega,rfl,by go_num,rfl,Li.o,SA.o,⟨KH.o.drew,KB.o.drew,grown_drew KG.o,HI1.o,Nh.o,(by omega:sk+n1 < 64)⟩⟩
  have hm1:m=0:=AG
  have hl0:l=[]:=Ie (by have:=hs2.len;omega);have HF2:AI (s2=F1):=AA (by rw [<-hf,hl0];rfl);clear hq hf hs2 hB hl0 HF HS2;subst hm1;go_wp2_with fail;go_roundg (np - (k+1))
  case measure=>exact BS
  case rel=>exact ⟨k+1,s2,_,by omega,rfl,by go_num,rfl,rfl,by rw [HF2.o];exact HDR.o.1,HDR.o.2,HB.o⟩
 have hk:k=np:=AG
 have hd:ps.drop k=[]:=Ex Yj;have Kb:AI (s=Tf):=AA (by rw [<-hf,hd];rfl);have gj:AI (t=Tt):=AA (by rw [<-ht,hd];rfl);obtain ⟨sh,sb,sk⟩:=s;obtain ⟨i1,i2,i3⟩:=hB.inv;have i3:sk < 64:=i3;have HI1:AI (sh.length=8):=AA i1;have HI2:AI (sb.length=64):=AA i2;have gb:=hB.b.lt;have c1:=Jr hB.b (i:=sk) (by show sk < sb.length;rw [HI2.o];exact i3);have fz:=hB.b.frozen sk;have hk0:(0:Int)<=(sk:Int):=AG
 have hk1:(sk:Int) < 64:=AG
 have hk2:(sk:Int)+1<=64:=AG
 have hk3:(0:Int)<=(sk:Int)+1:=AG
 have k1:AZ (wr.setCell ⟨w.heap.size,sk,none⟩ (AE Am 128)) w.heap.size 239 (yA (sb.set sk 128)):=Wf hB.b sk 128;have hgw:w.heap.size < (wr.setCell ⟨w.heap.size,sk,none⟩ (AE Am 128)).heap.size:=k1.lt;have KH:AI (AZ (wr.setCell ⟨w.heap.size,sk,none⟩ (AE Am 128)) hb 182 (uA sh)):=AA (hB.h.far (by show hb≠w.heap.size;omega) _);have KG:AI (w.grownBy (wr.setCell ⟨w.heap.size,sk,none⟩ (AE Am 128)) (some hb)):=AA (Y3 hB.gr ((Ae w.heap.size wr).setCell (Ac _) _) (Ac _));have K1:=AA k1;have HAB:AI (∀(sh b:AQ) W,sh.length=8->b.length=64->w.grownBy W (some hb)->AZ W w.heap.size 239 (yA b)->AZ W hb 182 (uA sh)->AS prog 95 #[AW (some ⟨hb,0,none⟩),AB (some ⟨w.heap.size,0,none⟩) 64 64] W fun e w'=>e=AU (BQ #[])/\W.grownBy w' (some hb)/\AZ w' hb 182 (uA (absP sh b))):=AA (fun sh b W h1 h2 h3 h4 h5=>
  dS hb w.heap.size 0 64 64 sh b W (HT.o.below (HE.o.trans (below_of_grown h3 hbE HE.o.size))) h1 h5 (Ac _) FN h4.lt (fun i hi=>by rw [Fc];exact Jr h4 (by rw [h2];exact hi)))
 have SN:AI (∀(b:AQ) (o m:Nat) W,b.length=64->0 < m->o+m=64->AZ W w.heap.size 239 (yA b)->∀ty,(Builtin.clear_ #[104] ty #[AB (some ⟨w.heap.size,o,none⟩) m m]).run prog W=.ok (BQ #[]) (W.setCells w.heap.size o ((zeros m).map (.int .u8)))):=AA (fun b o m W h1 h2 h3 h4 ty=>by have:=Lib.run_clear_slice (P:=prog) W 104 5 ty (AE Am 0) underlying104 (fun w=>by kernel_rfl) rfl rfl w.heap.size o m m h2 (fun j hj=>by rw [Jr h4 (by rw [h1];omega)];rfl) (fun j _=>h4.frozen _);rw [this,zeros,List.map_replicate])
 have HCZ:AI (∀W ty,(Builtin.clear_ #[104] ty #[AB (some ⟨w.heap.size,0,none⟩) 0 0]).run prog W=.ok (BQ #[]) W):=AA (fun W ty=>by simp [Builtin.clear_,run_underlying underlying104]);clear hq hf ht hB i1 i2 hd HF DZ HQ hk k1;by_cases h63:sk=63
 case' pos=>
  subst h63;have hcl:=HCZ.o (wr.setCell ⟨w.heap.size,63,none⟩ (AE Am 128));have JG:AI (AZ (wr.setCell ⟨w.heap.size,63,none⟩ (AE Am 128)) w.heap.size 239 (yA (F0 sb 63))):=AA (by
   have h1:=K1.o;have h2:=tH HI2.o i3;have h3:splice (sb.set 63 128) (63+1) (zeros (63 - 63))=sb.set 63 128:=by unfold splice;rw [Cu rG,Ex rG];simp [zeros]
   rw [<-h2,h3];exact h1)
  go_upto_region 15 with fail;obtain ⟨w3,hw3⟩:=Ad (wr.setCell ⟨w.heap.size,63,none⟩ (AE Am 128));rw [<-hw3];rw [<-hw3] at JG KH KG;have hg3:=JG.o.lt;clear hcl c1 fz K1 hw3 HCZ;have hpl:(F0 sb 63).length=64:=by simp [F0,zeros,HI2.o] <;> omega
  have Qc:=AA (HAB.o sh (F0 sb 63) w3 HI1.o hpl KG.o JG.o KH.o);clear hpl;go_upto_region 17 with (go_at_call 95;refine Qc.o.mono ?_;rintro e w4 ⟨rfl,hg4,hk4⟩);have k4:AZ w4 w.heap.size 239 (yA (F0 sb 63)):=JG.o.grown hg4 D7;have hcl:=SN.o (F0 sb 63) 0 64 w4 RS AG AG k4;have HKB:AI (AZ (w4.setCells w.heap.size 0 ((zeros 64).map (.int .u8))) w.heap.size 239 (yA (zeros 64))):=AA (by
   have h1:=Pj (zeros 64) 0 _ _ k4 RS;have h2:splice (F0 sb 63) 0 (zeros 64)=zeros 64:=by unfold splice;rw [Ex RS];simp
   rw [h2] at h1;exact h1)
  have TD:AI (AZ (w4.setCells w.heap.size 0 ((zeros 64).map (.int .u8))) hb 182 (uA (absP sh (F0 sb 63)))):=AA (hk4.below (below_setCells _ _ _ _ (Ae w.heap.size _) (Ac _)) hhb);have Zm:AI (w.grownBy (w4.setCells w.heap.size 0 ((zeros 64).map (.int .u8))) (some hb)):=AA (TY (ND KG.o hg4) (Ac _) _ _);have NR:AI (absP (absP sh (F0 sb 63)) (Om (zeros 64) t 8)=endP Tf Tt/\(absP sh (F0 sb 63)).length=8/\(zeros 64).length=64):=AA ⟨by
   rw [<-Kb.o,<-gj.o,endP,Ao (by show 56 < 63+1;omega)],by rw [absP,Nw];exact HI1.o,by simp [zeros]⟩
  clear hg4 hk4 k4 Qc;go_wp2_with (simp only [hcl]);clear hcl;obtain ⟨wz,hwz⟩:=Ad (w4.setCells w.heap.size 0 ((zeros 64).map (.int .u8)));rw [<-hwz];rw [<-hwz] at HKB TD Zm;obtain ⟨Hs,i9⟩:=Ad (absP sh (F0 sb 63));obtain ⟨Bs,hBs⟩:=Ad (zeros 64);rw [<-i9] at TD NR;rw [<-hBs] at HKB NR;clear hwz i9 hBs KG KH JG Kb gj
 case' neg=>
  have hcl:=SN.o (sb.set sk 128) (sk+1) (63 - sk) (wr.setCell ⟨w.heap.size,sk,none⟩ (AE Am 128)) (by rw [FM];exact HI2.o) AG AG K1.o;have JG:AI (AZ ((wr.setCell ⟨w.heap.size,sk,none⟩ (AE Am 128)).setCells w.heap.size (sk+1) ((zeros (63 - sk)).map (.int .u8))) w.heap.size 239 (yA (F0 sb sk))):=AA (by rw [<-tH HI2.o i3];exact Pj _ _ _ _ K1.o (by rw [FM,HI2.o];simp [zeros];omega))
  have KG2:AI (w.grownBy ((wr.setCell ⟨w.heap.size,sk,none⟩ (AE Am 128)).setCells w.heap.size (sk+1) ((zeros (63 - sk)).map (.int .u8))) (some hb)):=AA (TY KG.o (Ac _) _ _);have KH2:AI (AZ ((wr.setCell ⟨w.heap.size,sk,none⟩ (AE Am 128)).setCells w.heap.size (sk+1) ((zeros (63 - sk)).map (.int .u8))) hb 182 (uA sh)):=AA (KH.o.below (below_setCells _ _ _ _ (Ae w.heap.size _) (Ac _)) hhb);clear KG KH;have KG:=KG2;have KH:=KH2;clear KG2 KH2;go_upto_region 15 with fail;obtain ⟨w3,hw3⟩:=Ad ((wr.setCell ⟨w.heap.size,sk,none⟩ (AE Am 128)).setCells w.heap.size (sk+1) ((zeros (63 - sk)).map (.int .u8)));rw [<-hw3];rw [<-hw3] at JG KH KG;clear hcl
 case' neg=>
  have hg3:=JG.o.lt;clear c1 fz K1 hw3 HCZ;by_cases h56:56 < sk+1
  case' pos=>
   have hd2:decide ((56:Int) < (sk:Int)+1)=true:=BR AG;have hpl:(F0 sb sk).length=64:=by simp [F0,zeros,HI2.o] <;> omega
   have Qc:=AA (HAB.o sh (F0 sb sk) w3 HI1.o hpl KG.o JG.o KH.o);clear hpl;go_upto_region 17 with (go_at_call 95;refine Qc.o.mono ?_;rintro e w4 ⟨rfl,hg4,hk4⟩);have k4:AZ w4 w.heap.size 239 (yA (F0 sb sk)):=JG.o.grown hg4 D7;have hcl:=SN.o (F0 sb sk) 0 64 w4 RS AG AG k4;have HKB:AI (AZ (w4.setCells w.heap.size 0 ((zeros 64).map (.int .u8))) w.heap.size 239 (yA (zeros 64))):=AA (by
    have h1:=Pj (zeros 64) 0 _ _ k4 RS;have h2:splice (F0 sb sk) 0 (zeros 64)=zeros 64:=by unfold splice;rw [Ex RS];simp
    rw [h2] at h1;exact h1)
   have TD:AI (AZ (w4.setCells w.heap.size 0 ((zeros 64).map (.int .u8))) hb 182 (uA (absP sh (F0 sb sk)))):=AA (hk4.below (below_setCells _ _ _ _ (Ae w.heap.size _) (Ac _)) hhb);have Zm:AI (w.grownBy (w4.setCells w.heap.size 0 ((zeros 64).map (.int .u8))) (some hb)):=AA (TY (ND KG.o hg4) (Ac _) _ _);have NR:AI (absP (absP sh (F0 sb sk)) (Om (zeros 64) t 8)=endP Tf Tt/\(absP sh (F0 sb sk)).length=8/\(zeros 64).length=64):=AA ⟨by
    rw [<-Kb.o,<-gj.o,endP,Ao (by show 56 < sk+1;omega)],by rw [absP,Nw];exact HI1.o,by simp [zeros]⟩
   clear hg4 hk4 k4 Qc;go_wp2_with (simp only [hcl]);clear hcl;obtain ⟨wz,hwz⟩:=Ad (w4.setCells w.heap.size 0 ((zeros 64).map (.int .u8)));rw [<-hwz];rw [<-hwz] at HKB TD Zm;obtain ⟨Hs,i9⟩:=Ad (absP sh (F0 sb sk));obtain ⟨Bs,hBs⟩:=Ad (zeros 64);rw [<-i9] at TD NR;rw [<-hBs] at HKB NR;clear hwz i9 hBs KG KH JG Kb gj
  case' neg=>
   have NR:AI (absP sh (Om (F0 sb sk) t 8)=endP Tf Tt/\sh.length=8/\(F0 sb sk).length=64):=AA ⟨by
    rw [<-Kb.o,<-gj.o,endP,Ai (by show ¬56 < sk+1;omega)],HI1.o,by simp [F0,zeros,HI2.o] <;> omega⟩
   have HKB:=JG;have TD:=KH;have Zm:=KG;have hd2:decide ((56:Int) < (sk:Int)+1)=false:=Bc AG;go_wp2_with fail;obtain ⟨wz,hwz⟩:=Ad w3;rw [<-hwz];rw [<-hwz] at HKB TD Zm;obtain ⟨Hs,i9⟩:=Ad sh;obtain ⟨Bs,hBs⟩:=Ad (F0 sb sk);rw [<-i9] at TD NR;rw [<-hBs] at HKB NR;clear hwz i9 hBs KG KH JG Kb gj hd2
 all_goals
  clear HB SN i3 hk0 hk1 hk2 hk3 hgw;have hgz:=HKB.o.lt;go_loopg [53] 8 (fun q i wr=>∃j:Nat,j<=8/\q=8 - j/\i=AE AF j/\AZ wr w.heap.size 239 (yA (Om Bs t j))/\AZ wr hb 182 (uA Hs)/\w.grownBy wr (some hb))
  case atStart=>exact ⟨0,Av _,rfl,rfl,HKB.o,TD.o,Zm.o⟩
  clear HKB TD Zm;obtain ⟨j,hj,hq,rfl,hb1,hb2,hb3⟩:=hrel;have HQ:=AA hq;have HKB:=AA hb1;have TD:=AA hb2;have Zm:=AA hb3;have hll:(Om Bs t j).length=64:=by rw [zj];exact NR.o.2.2
  have ja:=AA hll;have hgr:=hb1.lt;by_cases AFf:j < 8
  ·have c1:=Jr hb1 (i:=63 - j) AG
   have fz:=hb1.frozen (63 - j);have hj0:(0:Int)<=(j:Int):=AG
   have hj1:(j:Int) < 8:=AG
   have hj2:(63:Int) - (j:Int)=((63 - j:Nat):Int):=AG
   have hj3:(0:Int)<=((63 - j:Nat):Int):=AG
   have hj4:((63 - j:Nat):Int) < 64:=AG
   clear hq hb1 hb2 hb3 hll;go_wp2_with fail;go_roundg (8 - (j+1))
   case measure=>exact BS
   case rel=>exact ⟨j+1,by omega,rfl,by go_num,Wf HKB.o (63 - j) _,TD.o.far (by show hb≠w.heap.size;omega) _,Y3 Zm.o ((Ae w.heap.size wr).setCell (Ac _) _) (Ac _)⟩
  have h8:j=8:=AG
  subst h8;have Qc:=AA (HAB.o Hs (Om Bs t 8) wr NR.o.2.1 hll hb3 hb1 hb2);clear hq hb1 hb2 hb3 hll HAB;go_wp2_with (go_at_call 95;refine Qc.o.mono ?_;rintro e w5 ⟨rfl,hg5,hk5⟩)
  go_end0
  exact ⟨rfl,ND Zm.o hg5,by rw [<-NR.o.1];exact hk5⟩
theorem B9 (l:AQ):(yA l).size=l.length:=by simp [yA]
theorem Kq (l:AQ):(yA l).all (·.oneCell')=true:=by
 rw [yA];refine dw.2 (fun v hv=> ?_);have hv:v∈l.map (Value.int .u8):=by simpa using hv
 obtain ⟨_,_,rfl⟩:=Dd.1 hv;rfl
theorem AZ.row {w:AH} {g:Nat} {t:Af} {cs:Array AN} (h:AZ w g t cs) (cs':Array AN):AZ (w.setRow g cs') g t cs':=setRow_heap w g cs cs' t (0,0) h
def Dl (d:AQ) (w:AH) (e:Ending) (w':AH):Prop:=e=AU (AP (yA d))/\AK w w'
theorem ABm:QE.length=8:=rfl
theorem ACo {s:Fd} (t:Int) (h:s.h.length=8):(endP s t).length=8:=by unfold endP;split <;> simp only [absP,Nw,h]
theorem ZX:∀(ps:List (AQ)) (s:Fd),s.h.length=8/\s.b.length=64/\s.k < 64->(OS s ps).h.length=8
 | [],_,h=>h.1
 | p::ps,s,h=>ZX ps (JZ s p) (jC p s h)
theorem ACN (P:Option Aa) (np pc:Nat) (ps:List (AQ)) (w:AH) (hT:Ca w) (hp:Ag 1 VT w (AB P np pc) ps):
 AS prog 67 #[AB P np pc] w (Dl (Ox ps) w):=by
 have hz:yA (zeros 32)=(List.replicate 32 (Value.int .u8 0)).toArray:=by simp [yA,zeros]
 have ho:AZ (w.alloc (AO (yA (zeros 32)) 34)) w.heap.size 34 (yA (zeros 32)):=AZ.new _ _ _;have hb1:AK w (w.alloc (AO (yA (zeros 32)) 34)):=(Ae _ _).alloc (Ac _) _;rw [hz] at ho hb1;simp only [List.replicate] at ho hb1;have HO:=AA ho;have HB1:=AA hb1;have HZ:=AA hz;have Nh:AI (∀W,AK w W->w.heap.size<=W.heap.size->AZ (W.alloc (AO (uA QE) 182)) W.heap.size 182 (uA QE)->AS prog 94 #[.func (.func 95) #[AW (some ⟨W.heap.size,0,none⟩)] #[],AB P np pc] (W.alloc (AO (uA QE) 182)) fun e w'=>e=AU (BQ #[])/\(W.alloc (AO (uA QE) 182)).grownBy w' (some W.heap.size)/\AZ w' W.heap.size 182 (uA (endP (OS ⟨QE,zeros 64,0⟩ ps) (Rg 0 ps)))):=AA (fun W h1 h2 h3=>
  wH W.heap.size np pc P QE ps w _ hT (h1.alloc h2 _) h2 ABm h3 hp)
 obtain ⟨H,hH⟩:=Ad (endP (OS ⟨QE,zeros 64,0⟩ ps) (Rg 0 ps));have HL:AI (H.length=8):=AA (by rw [hH];exact ACo _ (ZX ps _ ⟨rfl,by simp [zeros],by show 0 < 64;omega⟩));have HR:AI (Ox ps=NQ H 32):=AA (by rw [Ox,hH]);rw [HR.o];rw [<-hH] at Nh;clear hH HR ho hb1 hz hT hp;have hu:uA QE=#[AE .u32 1779033703,AE .u32 3144134277,AE .u32 1013904242,AE .u32 2773480762,AE .u32 1359893119,AE .u32 2600822924,AE .u32 528734635,AE .u32 1541459225]:=rfl;rw [hu] at Nh;have HC:=AA (Nh.o _ HB1.o AX (AZ.new _ _ _));rw [Ee] at HC;clear hu Nh;go_enter func67,ntmps67;have hmf:∀(fn:Fn) (first cap:Array AN) (w:AH),(Instr.makeFunc fn first cap).run prog w=.ok (.func fn first cap) w:=fun _ _ _ _=>rfl;go_wp2_with (go_at_call 94;refine HC.o.mono ?_;rintro e w2 ⟨rfl,hg2,hk2⟩);have kd:AZ w2 w.heap.size 34 (yA (NQ H 0)):=by have h1:=(HO.o.alloc _).grown hg2 D7;rw [NQ,HZ.o];exact h1
 have kb:AK w w2:=HB1.o.alloc AX _ |>.trans (below_of_grown hg2 AG BN);have KD:=AA kd;have KB:=AA kb;have KH:=AA hk2;clear kd kb hg2 hk2 HO HB1 HZ HC hmf;go_loopg [9] 32 (fun q i wr=>∃k:Nat,k<=32/\q=32 - k/\i=AE AF k/\AZ wr w.heap.size 34 (yA (NQ H k))/\AZ wr (w.heap.size+1) 182 (uA H)/\AK w wr)
 case atStart=>exact ⟨0,Av _,rfl,rfl,KD.o,KH.o,KB.o⟩
 clear KD KH KB;obtain ⟨k,hk,hq,rfl,h1,h2,h3⟩:=hrel;have HQ:=AA hq;have KD:=AA h1;have KH:=AA h2;have KB:=AA h3;have hl1:=h1.lt;have hl2:=h2.lt;by_cases hlt:k < 32
 ·have hk0:=Int.natCast_nonneg k
  have hk1:(k:Int) < 32:=AG
  have c1:=Jr h1 (i:=k) (by rw [aY];exact hlt);have fz:=h1.frozen k;have c2:=Lv h2 (i:=k / 4) (by have:=HL.o;omega);have hq0:(0:Int)<=(k:Int) / 4:=AG
  have hq1:(k:Int) / 4 < 8:=AG
  have hr0:(0:Int)<=24 - 8*((k:Int) % 4):=AG
  have hr1:(24 - 8*((k:Int) % 4)).toNat=24 - 8*(k % 4):=AG
  clear hq h1 h2 h3;go_wp2_with fail;go_roundg (32 - (k+1))
  case measure=>exact BS
  case rel=>exact ⟨k+1,by omega,rfl,by go_num,Wf KD.o k _,KH.o.far (by show w.heap.size+1≠w.heap.size;omega) _,KB.o.setCell (Ac _) _⟩
 have h32:k=32:=AG
 subst h32;clear hq h1 h2 h3;have Er:(prog.info? 34).map (·.size)=some (yA (NQ H 32)).size:=by rw [B9,aY];kernel_rfl
 go_wp2_with (first | (refine Bv rfl 34 (AY 2) rfl w.heap.size rfl 34 (yA (NQ H 32)) (0,0) _ KD.o underlying34 rfl Er ?_) | (refine YM rfl 34 (AY 2) (AY 25) rfl w.heap.size (yA (NQ H 32)) rfl rfl 34 (yA (NQ H 32)) KD.o Er rfl (Kq _) ?_));exact Eu (N5 rfl _ _ w.heap.size 34 (yA (NQ H 32)) (0,0) _ rfl (KD.o.row _) underlying34 rfl Er) rfl ⟨rfl,below_setRow KB.o (Ac _) _⟩
def Z1 (s:ByteArray):AQ:=s.data.toList.map fun c=>(c.toNat:Int)
theorem Zz (s:ByteArray):(Z1 s).length=s.size:=by unfold Z1;rw [Cb];rfl
theorem Zt {P:BA} (w:AH) {ops:Array Oper} {rest:List Oper} {o:Oper} {a:Act} {Q:Exit->Act->AH->Prop} (hgd:o.guard=none) (src dst e:Af) (x:Operand) (ho:o.op=.convert src dst x) (s:ByteArray) (hx:a.eval x=.string s)
 (hs:P.underlying src=some .string) (hd:P.underlying dst=some (.slice e)) (he:P.underlying e=some (.int .u8)) (hsz:s.size<=1000)
 (h:∀cap w',Ag 1 Il w' (AB (some ⟨w.heap.size,0,none⟩) s.size cap) (Z1 s)->AK w w'->w.heap.size < w'.heap.size->wpList P ops Q rest (a.put o.dst (AB (some ⟨w.heap.size,0,none⟩) s.size cap)) w'):wpList P ops Q (o::rest) a w:=by
 refine wpList_plain hgd fun _ hK=> ?_;unfold Oper.wp execOp;simp only [ho,hx,Ck,run_bytes_of_string w src dst e s hs hd he,Result.andThen_ok,DC];obtain ⟨cap,hcap⟩:=Ad (grownCap w s.size 0 e);have h1:s.size<=cap:=by rw [hcap];exact grownCap_ge _ _ _ _
 have h2:cap<=maxLen:=by rw [hcap];exact grownCap_le_maxLen _ _ _ _ FN
 rw [<-hcap];refine hK _ _ (h _ _ ⟨_,_,by rw [Zz],by rw [Zz];exact h1,h2,fun i y hi=> ?_⟩ ((Ae w.heap.size w).drew.alloc (Ac _) _) AX);have hil:=(BD.1 hi).1;rw [Zz] at hil;refine ⟨w.heap.size,0,[AE Am y],rfl,by simp,rfl,fun j u hu=> ?_,rfl⟩;rcases j with _ | j
 ·simp only [Al,Bu] at hu
  subst hu;have hh:(w.drew.alloc (AO (bytesRow s cap) e ((bytesRow s cap).size,(bytesRow s cap).size+1))).heap[w.heap.size]? =some (AO (bytesRow s cap) e ((bytesRow s cap).size,(bytesRow s cap).size+1)):=heap_alloc_new w.drew _;simp only [World.cell?,hh];have hds:s.data.size=s.size:=rfl;rw [Fc,Gs,EO,bytesRow,T7 (by rw [Array.size_map];omega),Array.getElem?_map];rw [Z1,Bb] at hi;obtain ⟨c,hc,rfl⟩:=Ds.1 hi;have hc':s.data[i]? =some c:=by simpa using hc
  rw [hc'];rfl
 · simp at hu
theorem DM {P:BA} {w:AH} {ops:Array Oper} {rest:List Oper} {o:Oper} {a:Act} {Q:Exit->Act->AH->Prop} (hgd:o.guard=none) (ty:Af) (x y:Operand) (ho:o.op=.store ty x y)
 (g:Nat) (d:AQ) (hx:a.eval x=AW (some ⟨g,0,none⟩)) (hy:a.eval y=AP (yA d)) (t:Af) (old:Array AN) (hg:AZ w g t old) (hi:(P.info? ty).map (·.size)=some 32) (hold:old.size=32) (hd:d.length=32)
 (h:∀w',AZ w' g t (yA d)->BI g w w'->wpList P ops Q rest (a.put o.dst undef) w'):wpList P ops Q (o::rest) a w:=by
 have hs:(yA d).size=32:=by rw [B9,hd]
 exact YM hgd ty x y ho g (yA d) hx hy t old hg dy eC (Kq d) (h _ (hg.row _) (below_setRow (Ae _ _) (Ac _) _))
theorem CT {P:BA} {w:AH} {ops:Array Oper} {rest:List Oper} {o:Oper} {a:Act} {Q:Exit->Act->AH->Prop} (hgd:o.guard=none) (ty:Af) (x:Operand) (ho:o.op=.load ty x)
 (g:Nat) (d:AQ) (hx:a.eval x=AW (some ⟨g,0,none⟩)) (t:Af) (ds:TypeDesc) (hg:AZ w g t (yA d)) (hu:P.underlying ty=some ds) (hds:(match ds with | .struct _ | .array _ _=>true | _=>false)=true) (hi:(P.info? ty).map (·.size)=some 32) (hd:d.length=32)
 (h:wpList P ops Q rest (a.put o.dst (AP (yA d))) w):wpList P ops Q (o::rest) a w:=
 Bv hgd ty x ho g hx t (yA d) (0,0) ds hg hu hds eO h
theorem Se {P:BA} {fn:Func} {a:Act} {p:Tmp} {ty:Af} {t:Af} {ds:TypeDesc} {d:AQ} {g:Nat} {w0 w:AH} {x:Exit} (hx:x=.ret\/x=.normal) (h:fn.results=#[.cell p ty]) (hp:a.tmps.getD p undef=AW (some ⟨g,0,none⟩)) (hdf:a.defers=[]) (hg:AZ w g t (yA d)) (hu:P.underlying ty=some ds) (hds:(match ds with | .struct _ | .array _ _=>true | _=>false)=true) (hi:(P.info? ty).map (·.size)=some 32) (hd:d.length=32) (hb:AK w0 w):
 bodyPost P fn (Dl d w0) x a w:=by
 have hr:=N5 (P:=P) h a.tmps w g t (yA d) (0,0) ds hp hg hu hds eO;rcases hx with rfl | rfl
 · exact km
 · exact kj
theorem Iq (w:AH) (t:Af):AZ (w.alloc (AO #[AE Am 0,AE Am 0,AE Am 0,AE Am 0,AE Am 0,AE Am 0,AE Am 0,AE Am 0,AE Am 0,AE Am 0,AE Am 0,AE Am 0,AE Am 0,AE Am 0,AE Am 0,AE Am 0,AE Am 0,AE Am 0,AE Am 0,AE Am 0,AE Am 0,AE Am 0,AE Am 0,AE Am 0,AE Am 0,AE Am 0,AE Am 0,AE Am 0,AE Am 0,AE Am 0,AE Am 0,AE Am 0] t)) w.heap.size t (yA (zeros 32))/\AK w (w.alloc (AO #[AE Am 0,AE Am 0,AE Am 0,AE Am 0,AE Am 0,AE Am 0,AE Am 0,AE Am 0,AE Am 0,AE Am 0,AE Am 0,AE Am 0,AE Am 0,AE Am 0,AE Am 0,AE Am 0,AE Am 0,AE Am 0,AE Am 0,AE Am 0,AE Am 0,AE Am 0,AE Am 0,AE Am 0,AE Am 0,AE Am 0,AE Am 0,AE Am 0,AE Am 0,AE Am 0,AE Am 0,AE Am 0] t))/\(w.alloc (AO #[AE Am 0,AE Am 0,AE Am 0,AE Am 0,AE Am 0,AE Am 0,AE Am 0,AE Am 0,AE Am 0,AE Am 0,AE Am 0,AE Am 0,AE Am 0,AE Am 0,AE Am 0,AE Am 0,AE Am 0,AE Am 0,AE Am 0,AE Am 0,AE Am 0,AE Am 0,AE Am 0,AE Am 0,AE Am 0,AE Am 0,AE Am 0,AE Am 0,AE Am 0,AE Am 0,AE Am 0,AE Am 0] t)).heap.size=w.heap.size+1:=
 ⟨AZ.new _ _ _,(Ae _ _).alloc (Ac _) _,by simp⟩
theorem AD4 {W:AH} {A:Option Aa} {n c:Nat} {l:AQ} {T:Af} (h:Ag 1 Il W (AB A n c) l):Ag 1 VT (W.alloc (AO #[AB A n c] T)) (AB (some ⟨W.heap.size,0,none⟩) 1 1) [l]:=
 ⟨_,1,rfl,Ac _,by unfold maxLen;omega,fun i x hi=>by
  rcases i with _ | i
  ·simp only [Al,Bu] at hi
   subst hi;refine ⟨W.heap.size,0,[AB A n c],rfl,by simp,rfl,fun j u hu=> ?_,A,n,c,rfl,h.mono P5 (BE _ _)⟩;rcases j with _ | j
   ·have:=(AZ.new W T #[AB A n c]).cell 0
    rw [<-hu];exact this
   · simp at hu
  · simp at hi⟩
theorem tA {W:AH} {A B:Option Aa} {n c m d:Nat} {l r:AQ} {T:Af} (h:Ag 1 Il W (AB A n c) l) (k:Ag 1 Il W (AB B m d) r):Ag 1 VT (W.alloc (AO #[AB A n c,AB B m d] T)) (AB (some ⟨W.heap.size,0,none⟩) 2 2) [l,r]:=
 ⟨_,2,rfl,Ac _,by unfold maxLen;omega,fun i x hi=>by
  have kb:=AZ.new W T #[AB A n c,AB B m d];have hb:AK W (W.alloc (AO #[AB A n c,AB B m d] T)):=(Ae _ _).alloc (Ac _) _;rcases i with _ | _ | i
  ·simp only [Al,Bu] at hi
   subst hi;refine ⟨W.heap.size,0,[AB A n c],rfl,by simp,rfl,fun j u hu=> ?_,A,n,c,rfl,h.mono P5 hb⟩;rcases j with _ | j
   · rw [<-hu];exact kb.cell 0
   · simp at hu
  ·simp only [Az,Al,Bu] at hi
   subst hi;refine ⟨W.heap.size,0,[AB B m d],rfl,by simp,rfl,fun j u hu=> ?_,B,m,d,rfl,k.mono P5 hb⟩;rcases j with _ | j
   · rw [<-hu];exact kb.cell 1
   · simp at hu
  · simp at hi⟩
theorem GR {w:AH} {g:Nat} {t:Af} {d:AQ} (h:AZ w g t (yA d)) (hd:d.length<=1000):Ag 1 Il w (AB (some ⟨g,0,none⟩) d.length d.length) d:=
 ⟨_,_,rfl,Ac _,by unfold maxLen;omega,fun i x hi=>by
  have hil:=(BD.1 hi).1;refine ⟨g,0,[AE Am x],rfl,h.lt,rfl,fun j u hu=> ?_,rfl⟩;rcases j with _ | j
  ·simp only [Al,Bu] at hu
   subst hu;have:=Jr h hil;rw [Cv,hi] at this;rw [Fc,Gs,EO];exact this
  · simp at hu⟩
theorem IF (tag:ByteArray) (A:Option Aa) (n c:Nat) (bs:AQ) (w:AH) (hsz:tag.size<=1000) (hT:Ca w) (hb:Ag 1 Il w (AB A n c) bs):
 AS prog 48 #[.string tag,AB A n c] w (Dl (Aw (Z1 tag) bs) w):=by
 have HT:=AA hT;have HB:=AA hb;have HH:AI (∀(P:Option Aa) (np pc:Nat) (ps:List (AQ)) (W:AH),AK w W->Ag 1 VT W (AB P np pc) ps->AS prog 67 #[AB P np pc] W (Dl (Ox ps) W)):=AA (fun P np pc ps W hW hp=>ACN P np pc ps W (HT.o.below hW) hp);have hq:=Iq w 34;clear hT hb;go_enter func48,ntmps48;go_upto_region 1 with fail;generalize (w.alloc _)=wa at hq ⊢;obtain ⟨ka,hba,hza⟩:=hq;have KA:=AA ka;have Qq:=AA hba;clear ka hba;go_wp2_with (refine Zt _ rfl 9 104 5 (AY 6) rfl tag rfl underlying9 underlying104 underlying5 hsz ?_;intro cap w1 hs1 hb1 hz1);rw [hza] at hs1;have JY:=AA hs1;have HB1:AI (AK w w1):=AA (AV Qq.o hb1);have HZ1:AI (w.heap.size+1 < w1.heap.size):=AA AG;have KA1:AI (AZ w1 w.heap.size 34 (yA (zeros 32))):=AA (KA.o.below hb1 AG);have HC:=AA (HH.o _ _ _ _ _ (HB1.o.alloc HB1.o.size _) (AD4 JY.o (T:=104)));clear hs1 hb1 hz1 hza KA Qq;refine HC.o.mono ?_;rintro e w2 ⟨rfl,hb2⟩;obtain ⟨d1,hd1⟩:=Ad (Ox [Z1 tag]);have SJ:AI (d1.length=32):=AA (by rw [hd1];exact Sn _);have pQ:AI (Aw (Z1 tag) bs=Ox [d1,bs]):=AA (by rw [hd1];rfl);rw [<-hd1];have HB2:AI (AK w w2):=AA ((HB1.o.alloc HB1.o.size _).trans (hb2.mono (HB1.o.alloc HB1.o.size _).size));have dU:AI (AZ w2 w.heap.size 34 (yA (zeros 32))):=AA ((KA1.o.alloc _).below hb2 (by simp;have:=HZ1.o;omega));have hz2:w.heap.size < w2.heap.size:=dU.o.lt;clear hb2 hd1 HC JY;have Er:(prog.info? 34).map (·.size)=some 32:=AJ
 have HI:=AA Er;clear Er;have hq:=Iq w2 34;go_wp2_with (generalize (w2.alloc _)=w3 at hq ⊢;obtain ⟨k3,hb3,hz3⟩:=hq;refine DM rfl 34 (AY 5) (AY 9) rfl w2.heap.size d1 rfl rfl 34 _ k3 HI.o DU SJ.o ?_;intro w4 k4 hb4);have ACI:AK w2 w4:=hb3.trans (hb4.mono (Ac _));have HB4:AI (AK w w4):=AA (AV HB2.o ACI);have hy:=GR k4 (by rw [SJ.o];omega);rw [SJ.o] at hy;have HC:=AA (HH.o _ _ _ _ _ (HB4.o.alloc HB4.o.size _) (tA hy (HB.o.mono P5 HB4.o) (T:=104)));have KA4:AI (AZ w4 w.heap.size 34 (yA (zeros 32))):=AA (dU.o.below ACI hz2);have hz4:w.heap.size < w4.heap.size:=KA4.o.lt;clear k3 hb3 hz3 k4 hb4 ACI hy;refine HC.o.mono ?_;rintro e w5 ⟨rfl,hb5⟩;have CP:AI (AK w w5):=AA ((HB4.o.alloc HB4.o.size _).trans (hb5.mono (HB4.o.alloc HB4.o.size _).size));have KA5:AI (AZ w5 w.heap.size 34 (yA (zeros 32))):=AA ((KA4.o.alloc _).below hb5 BN);clear hb5 HC;go_wp2_with (refine DM rfl 34 (AY 4) (AY 13) rfl w.heap.size _ rfl rfl 34 _ KA5.o HI.o DU (Sn _) ?_;intro w6 k6 hb6);rw [pQ.o];exact Se (.inl rfl) rfl rfl rfl k6 underlying34 rfl HI.o (Sn _) (CP.o.trans hb6)
theorem NF:One Il:=by rintro w cs x rfl u hu;simp only [Fg] at hu;subst hu;rfl
theorem Pn {P:BA} {α:Type} {sz:Nat} {R:AH->List AN->α->Prop} (w:AH) {ops:Array Oper} {o:Oper} {a:Act} {K:Act->AH->Prop} {Q:Exit->Act->AH->Prop} {E:Prop} (hgd:o.guard=none) (s x:Operand) (t e:Af)
 (hop:o.op=.call {callee:=.builtin .append,args:=#[s,x],argTypes:=#[t,t]}) (i:TypeInfo) (z:AN) (bytes:Nat) (ht:P.underlying t=some (.slice e)) (hi:P.info? e=some i) (hz:i.zero=some z) (hsize:i.size=sz) (hby:i.bytes=bytes) (hzs:z.cells.size=sz) (hsz:0 < sz) (ho:One R)
 (base:Nat) (v:AN) (n:Nat) (xs:List AN) (hs:a.eval s=v) (hown:w.ownsRow base e sz v n xs) (A:Option Aa) (m c:Nat) (l:List α) (hx:a.eval x=AB A m c) (hr:Ag sz R w (AB A m c) l)
 (hn:n+m<=maxLen) (hb:(n+m)*bytes<=140737488355328) (hbase:base<=w.heap.size)
 (h:∀v' w' cs,Aq sz R w cs l->w'.ownsRow base e sz v' (n+m) (xs++cs)->w.grownBy w' v.ownBlock->(v'.ownBlock=v.ownBlock\/v'.ownBlock=some w.heap.size)->K (a.put o.dst v') w'):
 if Region.wanted o (yielded ops a.tmps)=true then Oper.wp P o a w K Q else E:=by
 have hw:Region.wanted o (yielded ops a.tmps)=true:=by simp [Region.wanted,hgd]
 rw [Ao hw];exact V2 w s x t e hop i z bytes ht hi hz hsize hby hzs hsz ho base v n xs hs hown A m c l hx hr hn hb hbase h
theorem AG2 (w:AH) (base:Nat) (e:Af) (cs:Array AN) (hcs:cs.size=64) (hb:base<=w.heap.size):(w.alloc (AO cs e)).ownsRow base e 1 (AB (some ⟨w.heap.size,0,none⟩) 0 64) 0 []:=
 ⟨by simp,.inr ⟨w.heap.size,64,cs,rfl,hb,AZ.new w e _,by omega,by decide,by omega,by simp⟩⟩
theorem IK {w:AH} {xs:List AN} {l:AQ} (h:Aq 1 Il w xs l):xs=l.map (Value.int .u8):=by
 obtain ⟨h1,h2⟩:=h;apply N6;intro i;rcases Ec i l.length with hi | hi
 ·have h3:=h2 i l[i] (BJ hi)
  unfold Il at h3;rw [Bb,BJ hi];have h4:((xs.drop (i*1)).take 1)[0]? =some (Value.int .u8 l[i]):=by rw [h3];rfl
  rw [Jl AG,EP] at h4;simpa using h4
 · rw [DT AG,DT (by simpa using hi)]
theorem AE8 (W:AH):(Instr.makeSlice 104 (AE AF 0) (AE AF 64)).run prog W=.ok (AB (some ⟨W.heap.size,0,none⟩) 0 64) (W.alloc (AO (madeCells #[AE Am 0] 64) 5)):=by
 have hinfo:(prog.info? 5).map (fun i=>(i.zero,i.size,i.bytes))=some (some (AE Am 0),1,1):=AJ
 obtain ⟨i,hi,hzz⟩:=Ds.1 hinfo;simp only [F7] at hzz;obtain ⟨hz,hs,hb⟩:=hzz;have hr:=run_make (P:=prog) W 104 5 i (AE Am 0) underlying104 hi hz .i64 .i64 0 64 AG AG (by rw [hb];omega) AG;rw [hs] at hr;exact hr
theorem made_size (z:AN) (n:Nat):(madeCells #[z] n).size=n:=size_madeCells _ _
theorem ACw (w:AH) (l:AQ):Aq 1 Il w (l.map (Value.int .u8)) l:=by
 refine ⟨by simp,fun i x hi=> ?_⟩;have hil:=(BD.1 hi).1;unfold Il;apply N6;intro j;rcases j with _ | j
 · rw [Jl AG,EP,Gs,EO,Bb,hi];rfl
 · rw [DT Pg];rfl
theorem Uh {w:AH} {base n:Nat} {e:Af} {v:AN} {l:AQ} (h:w.ownsRow base e 1 v n (l.map (Value.int .u8))) (h0:0 < n) (hn:n=l.length):∃g c,v=AB (some ⟨g,0,none⟩) n c/\Ag 1 Il w v l:=by
 rcases h.2 with ⟨_,h1⟩ | ⟨g,cap,_,hv,_⟩
 · omega
 · exact ⟨g,cap,hv,CW h (ACw w _) hn⟩
theorem jK {a w w':AH} {base n sz B:Nat} {e:Af} {v:AN} {xs:List AN} (h:BI B a w) (hg:w.grownBy w' v.ownBlock) (ho:w.ownsRow base e sz v n xs) (hB:B<=base) (hs:B<=w.heap.size):BI B a w':=
 h.grown hg hs (fun r e=>BH hB (ho.lt r e).1)
theorem iY {w:AH} {g:Nat} {t:Af} {l d:AQ} (h:AZ w g t (yA l)) (hl:l.length=d.length):AZ (w.setCells g 0 (d.map (Value.int .u8))) g t (yA d):=by
 have h1:=Pj d 0 w l h AG;have h2:splice l 0 d=d:=by unfold splice;rw [Ex AG];simp
 rwa [h2] at h1
theorem lm {w:AH} {g:Nat} {t:Af} {l d:AQ} (h:AZ w g t (yA l)) (hl:l.length=d.length):w.there g 0 (d.map (Value.int .u8)).length:=fun j hj=>by rw [Cb] at hj;rw [Fc];exact ⟨by rw [Jr h AG];rfl,h.frozen j⟩
theorem Yz (d:AQ):∀v∈d.map (Value.int .u8),v.oneCell'=true:=fun v hv=>by obtain ⟨_,_,rfl⟩:=Dd.1 hv;rfl
theorem aC (a b:AQ) (ha:a.length=32) (hb:b.length=32) (w:AH) (hT:Ca w):
 AS prog 63 #[AP (yA a),AP (yA b)] w (Dl (Og Aw a b) w):=by
 have HT:=AA hT;have HA:=AA ha;have HB:=AA hb;clear hT ha hb;obtain ⟨D,hD⟩:=Ad (Og Aw a b);have EM:AI (D.length=32):=AA UJ;have HC:AI (∀(A:Option Aa) (c:Nat) (W:AH),AK w W->Ag 1 Il W (AB A 64 c) (a++b)->AS prog 48 #[.string {data:=#[110,111,100,101]},AB A 64 c] W (Dl D W)):=AA (fun A c W hW hl=>by rw [hD];exact IF {data:=#[110,111,100,101]} A 64 c (a++b) W Ah (HT.o.below hW) hl)
 rw [<-hD];clear hD;go_enter func63,ntmps63;go_upto_region 1 with fail;have hq:=Iq ((w.alloc (AO (yA a) 34)).alloc (AO (yA b) 34)) 34;have ka:AZ ((w.alloc (AO (yA a) 34)).alloc (AO (yA b) 34)) w.heap.size 34 (yA a):=(AZ.new _ _ _).alloc _;have kb:AZ ((w.alloc (AO (yA a) 34)).alloc (AO (yA b) 34)) (w.heap.size+1) 34 (yA b):=by
  have:=AZ.new (w.alloc (AO (yA a) 34)) 34 (yA b)
  rwa [Ee] at this
 have h0:AK w ((w.alloc (AO (yA a) 34)).alloc (AO (yA b) 34)):=(BE _ _).alloc AX _;have hs0:((w.alloc (AO (yA a) 34)).alloc (AO (yA b) 34)).heap.size=w.heap.size+1+1:=AX
 generalize ((w.alloc _).alloc _)=w0 at hq ka kb h0 hs0 ⊢;generalize (w0.alloc _)=wa at hq ⊢;rw [hs0] at hq;obtain ⟨kr,hba,hza⟩:=hq;have ka:=ka.below hba AG;have kb:=kb.below hba AG;have H0:AI (AK w wa):=AA (h0.trans (hba.mono AG));have KA:=AA ka;have KB:=AA kb;have KR:=AA kr;have Xw:=AA hza;clear h0 hs0 hba ka kb kr hza;obtain ⟨j0,hj,hjz⟩:=Ds.1 (show (prog.info? 5).map (fun i=>(i.zero,i.size,i.bytes))=some (some (AE Am 0),1,1) by kernel_rfl);simp only [F7] at hjz;have HJ:=AA (And.intro hj hjz);have Er:(prog.info? 34).map (·.size)=some 32:=AJ
 have HI:=AA Er;clear hj hjz Er;have hmk:=AE8 wa.drew;have k0:(wa.alloc (AO (madeCells #[AE Am 0] 64) 5)).drew.ownsRow wa.heap.size 5 1 (AB (some ⟨wa.heap.size,0,none⟩) 0 64) 0 []:=AG2 wa wa.heap.size 5 (madeCells #[AE Am 0] 64) (made_size _ _) (Ac _);have hb1:AK wa (wa.alloc (AO (madeCells #[AE Am 0] 64) 5)).drew:=(BE _ _).drew;have hya:=GR (KA.o.below hb1 Pc) (by rw [HA.o];omega);rw [HA.o] at hya;have K0:=AA k0;have HB1:=AA hb1;have HYA:=AA hya;clear k0 hb1 hya
 go_region_held3 (fun _=>True) (trivial) (first
  | (
   refine Pn _ Cq (AY 5) (AY 6) 104 5 Cq j0 _ 1 underlying104 HJ.o.1 HJ.o.2.1 HJ.o.2.2.1 HJ.o.2.2.2 rfl Ah (R:=Il) NF wa.heap.size _ 0 [] Cq K0.o _ 32 32 a Cq HYA.o ?_ ?_ ?_ ?_
   · exact RU
   · omega
   · simp
   intro v7 w7 cs7 ZT GJ EJ tV;have hb7:AK wa w7:=HB1.o.grown EJ AX M1;have hyb:=GR (KB.o.below hb7 Pc) (by rw [HB.o];omega);rw [HB.o] at hyb;obtain rfl:=IK ZT;rw [Fc,Jh] at GJ;have pB:=AA GJ;have HYB:=AA hyb;have Da:=AA hb7;clear ZT GJ EJ tV hyb hb7)
  | (
   refine Pn _ Cq (AY 7) (AY 8) 104 5 Cq j0 _ 1 underlying104 HJ.o.1 HJ.o.2.1 HJ.o.2.2.1 HJ.o.2.2.2 rfl Ah (R:=Il) NF wa.heap.size v7 32 (a.map (Value.int .u8)) Cq pB.o (some ⟨w.heap.size+1,0,none⟩) 32 32 b Cq HYB.o ?_ ?_ ?_ ?_
   · exact RU
   · omega
   · exact Da.o.size
   intro v8 w8 cs8 hc8 ho8 hg8 ha8;obtain rfl:=IK hc8;have hb8:AK wa w8:=jK Da.o hg8 pB.o (Ac _) Da.o.size;rw [<-DE] at ho8;have ho8:w8.ownsRow wa.heap.size 5 1 v8 64 ((a++b).map (Value.int .u8)):=ho8;obtain ⟨g8,c8,rfl,hs8⟩:=Uh ho8 AG (by rw [CQ,HA.o,HB.o]);have HS8:=AA hs8;have Ke:=AA hb8;clear hc8 ho8 hg8 ha8 hb8 hs8)
  | (
   go_at_call 48;refine (HC.o (some ⟨g8,0,none⟩) c8 w8 (AV H0.o Ke.o) HS8.o).mono ?_;rintro e w9 ⟨rfl,Lf⟩;have LM:=AA (AV Ke.o Lf);have KR9:=AA (KR.o.below LM.o Pc);have hth:=lm KR9.o (d:=D) Yl;have hit:(prog.info? 34).map (·.size)=some (D.map (Value.int .u8)).length:=by rw [Cb,EM.o];exact HI.o
   have hon:=Yz D;clear Lf))
 have KD:AI (AZ (w9.setCells (w.heap.size+1+1) 0 (D.map (Value.int .u8))) (w.heap.size+1+1) 34 (yA D)):=AA (iY KR9.o Yl);have jh:AI (AK w (w9.setCells (w.heap.size+1+1) 0 (D.map (Value.int .u8)))):=AA (below_setCells _ _ _ _ (AV H0.o LM.o) AG);exact xt
def CV (_:AH) (cs:List AN) (d:AQ):Prop:=cs=d.map (Value.int .u8)/\d.length=32
theorem BK:Eb CV:=fun _ _ _ _ _ h=>h
theorem J5 {w:AH} {A:Option Aa} {n c k:Nat} {l:List (AQ)} (h:Ag 32 CV w (AB A n c) l) (hk:k < n):
 ∃b off d,A=some ⟨b,off,none⟩/\b < w.heap.size/\l[k]? =some d/\d.length=32/\Ag 1 Il w (AB (some ⟨b,off+k*32,none⟩) 32 32) d/\w.rangeAt b (off+k*32) (d.map (Value.int .u8)):=by
 obtain ⟨b,off,d,cs,rfl,hb,hl,hcl,hc,rfl,hd⟩:=h.at_ hk;refine ⟨b,off,d,rfl,hb,hl,hd,⟨_,32,by rw [hd],by omega,by unfold maxLen;omega,fun i x hi=> ?_⟩,fun j u hu=> ?_⟩
 ·refine ⟨b,off+k*32,[AE Am x],rfl,hb,rfl,fun j u hu=> ?_,rfl⟩
  rcases j with _ | j
  ·simp only [Al,Bu] at hu
   subst hu;have:=hc i (AE Am x) (by rw [Bb,hi];rfl);rw [<-this];congr 2;omega
  · simp at hu
 rw [<-hc j u hu];congr 2;omega
theorem Ag.ADb {α:Type} {sz:Nat} {R:AH->List AN->α->Prop} {w:AH} {l:List α} {A:Option Aa} {n c k:Nat} (h:Ag sz R w (AB A n c) l) (hk:k<=n):
 Ag sz R w (AB A k c) (l.take k):=by
 obtain ⟨A',cap,e,h1,h2,h3⟩:=h;injection e with e1 e2 e3;subst e1 e2 e3;refine ⟨_,_,by rw [ER,Tq hk],by rw [ER];omega,h2,fun i x hi=> ?_⟩;have hil:=(BD.1 hi).1;rw [ER] at hil;rw [Jl AG] at hi;exact h3 i x hi
theorem MK (l:List Dg):(Eo Aw l).length=32:=by
 match l with
 | []=>rw [Eo];exact C7 _ _
 | [x]=>rw [Eo];exact C7 _ _
 | x::y::r=>rw [Eo];exact C7 _ _
theorem iN (A:Option Aa) (c:Nat) (w:AH) (hT:Ca w):AS prog 35 #[AB A 0 c] w (Dl (Eo Aw []) w):=by
 obtain ⟨D,hD⟩:=Ad (Eo Aw []);have EM:AI (D.length=32):=AA (by rw [hD,Eo];exact C7 _ _);have HC:AI (∀W,AK w W->AS prog 48 #[.string {data:=#[101,109,112,116,121]},AB none 0 0] W (Dl D W)):=AA (fun W hW=>by rw [hD,Eo];exact IF {data:=#[101,109,112,116,121]} none 0 0 [] W Ah (hT.below hW) (Ag.nil _ _ (Av _)))
 rw [<-hD];have Er:(prog.info? 34).map (·.size)=some 32:=AJ
 have HI:=AA Er;clear hD hT Er;go_enter func35,ntmps35;go_upto_region 1 with fail;have hq:=Iq w 34;generalize (w.alloc _)=wa at hq ⊢;obtain ⟨ka,hba,hza⟩:=hq;have KA:=AA ka;have Qq:=AA hba;clear ka hba hza;go_wp2_with (first | (go_at_call 48;refine (HC.o _ Qq.o).mono ?_;rintro e w2 ⟨rfl,hb2⟩;have dU:=AA (KA.o.below hb2 KA.o.lt);have HB2:=AA (AV Qq.o hb2);clear hb2) | (refine DM rfl 34 (AY 2) (AY 8) rfl w.heap.size D rfl rfl 34 (yA (zeros 32)) dU.o HI.o DU EM.o ?_;intro w3 k3 hb3));exact Se (.inl rfl) rfl rfl rfl k3 underlying34 rfl HI.o EM.o (HB2.o.trans hb3)
theorem yp (b off c:Nat) (d:AQ) (w:AH) (hT:Ca w) (hy:Ag 1 Il w (AB (some ⟨b,off,none⟩) 32 32) d):AS prog 35 #[AB (some ⟨b,off,none⟩) 1 c] w (Dl (Eo Aw [d]) w):=by
 obtain ⟨D,hD⟩:=Ad (Eo Aw [d]);have EM:AI (D.length=32):=AA (by rw [hD,Eo];exact C7 _ _);have HC:AI (∀W,AK w W->AS prog 48 #[.string {data:=#[108,101,97,102]},AB (some ⟨b,off,none⟩) 32 32] W (Dl D W)):=AA (fun W hW=>by rw [hD,Eo];exact IF {data:=#[108,101,97,102]} (some ⟨b,off,none⟩) 32 32 d W Ah (hT.below hW) (hy.mono P5 hW))
 rw [<-hD];have Er:(prog.info? 34).map (·.size)=some 32:=AJ
 have HI:=AA Er;clear hD hT Er hy;go_enter func35,ntmps35;go_upto_region 1 with fail;have hq:=Iq w 34;generalize (w.alloc _)=wa at hq ⊢;obtain ⟨ka,hba,hza⟩:=hq;have KA:=AA ka;have Qq:=AA hba;clear ka hba hza;go_wp2_with (first | (go_at_call 48;refine (HC.o _ Qq.o).mono ?_;rintro e w2 ⟨rfl,hb2⟩;have dU:=AA (KA.o.below hb2 KA.o.lt);have HB2:=AA (AV Qq.o hb2);clear hb2) | (refine DM rfl 34 (AY 2) (AY 14) rfl w.heap.size D rfl rfl 34 (yA (zeros 32)) dU.o HI.o DU EM.o ?_;intro w3 k3 hb3));exact Se (.inl rfl) rfl rfl rfl k3 underlying34 rfl HI.o EM.o (HB2.o.trans hb3)
theorem yj (b off n c:Nat) (D D1 D2:AQ) (w:AH) (h2:2<=n) (h256:n<=256) (hc:n<=c) (hT:Ca w) (hD1:D1.length=32) (hD2:D2.length=32) (hD:D=Og Aw D1 D2)
 (h1:∀W,AK w W->AS prog 35 #[AB (some ⟨b,off,none⟩) (Bn n) c] W (Dl D1 W))
 (h3:∀W,AK w W->AS prog 35 #[AB (some ⟨b,off+Bn n*32,none⟩) (n - Bn n) (c - Bn n)] W (Dl D2 W)):AS prog 35 #[AB (some ⟨b,off,none⟩) n c] w (Dl D w):=by
 have hh:=Hv h2;have hp:=GL n;have HH:AI (∀W,AS prog 62 #[AE AF n] W fun e w'=>e=AU (AE AF (Bn n:Nat))/\W=w'):=AA (fun W=>Vo n h2 h256 W);have EM:AI (D.length=32):=AA UJ;have HN:AI (∀W,AK w W->AS prog 63 #[AP (yA D1),AP (yA D2)] W (Dl D W)):=AA (fun W hW=>by rw [hD];exact aC D1 D2 hD1 hD2 W (hT.below hW));obtain ⟨k,hk⟩:=Ad (Bn n);rw [<-hk] at hh hp HH h1 h3;have H1:=AA h1;have H3:=AA h3;have Er:(prog.info? 34).map (·.size)=some 32:=AJ
 have HI:=AA Er;have hk0:=Int.natCast_nonneg k
 have hk1:(k:Int)<=(n:Int):=AG
 have hk2:(k:Int)<=(c:Int):=AG
 have hkc:¬c=k:=AG
 have hn0:((n:Int)==0)=false:=by simp;omega
 have hn1:((n:Int)==1)=false:=by simp;omega
 clear hD hT hD1 hD2 h1 h3 hk Er;go_enter func35,ntmps35;go_upto_region 1 with fail;have hq:=Iq w 34;generalize (w.alloc _)=wa at hq ⊢;obtain ⟨ka,hba,hza⟩:=hq;have KA:=AA ka;have Qq:=AA hba;clear ka hba hza;go_wp2_with (go_at_call 62;refine (HH.o _).mono ?_;rintro e w2 ⟨rfl,rfl⟩)
 go_region_held3 (fun _=>True) (trivial) (first
  | (
   go_at_call 35
   (with_reducible refine (H1.o _ Qq.o.drew).mono ?_)
   rintro e w1 ⟨rfl,hb1⟩;have HB1:=AA (Qq.o.drew.trans (hb1.mono Qq.o.size));have KA1:=AA (KA.o.drew.below hb1 KA.o.lt);clear hb1)
  | (
   go_at_call 35
   (with_reducible refine (H3.o w1 HB1.o).mono ?_)
   rintro e w3 ⟨rfl,hb3⟩;have HB3:=AA (AV HB1.o hb3);have Zd:=AA (KA1.o.below hb3 KA1.o.lt);clear hb3)
  | (
   go_at_call 63
   (with_reducible refine (HN.o w3 HB3.o).mono ?_)
   rintro e w4 ⟨rfl,hb4⟩;have HB4:=AA (AV HB3.o hb4);have KA4:=AA (Zd.o.below hb4 Zd.o.lt);have hth:=lm KA4.o (d:=D) Yl;have hit:(prog.info? 34).map (·.size)=some (D.map (Value.int .u8)).length:=by rw [Cb,EM.o];exact HI.o
   have hon:=Yz D;clear hb4))
 have KD:AI (AZ (w4.setCells w.heap.size 0 (D.map (Value.int .u8))) w.heap.size 34 (yA D)):=AA (iY KA4.o Yl);have jh:AI (AK w (w4.setCells w.heap.size 0 (D.map (Value.int .u8)))):=AA (below_setCells _ _ _ _ HB4.o (Ac _));exact xt
theorem Zy:∀(m:Nat) (A:Option Aa) (n c:Nat) (l:List (AQ)) (w:AH),n<=m->n<=256->Ca w->Ag 32 CV w (AB A n c) l->
 AS prog 35 #[AB A n c] w (Dl (Eo Aw l) w):=by
 intro m
 induction m with
 |
  zero=>
  intro A n c l w hm h256 hT hs;have hl:l=[]:=Ie (by have:=hs.len;omega);subst hl;obtain rfl:n=0:=AG
  exact iN A c w hT
 |
  succ m ih=>
  intro A n c l w hm h256 hT hs;have hln:=hs.len;rcases Ec n 2 with h2 | h2
  ·rcases PR n with h0 | h0
   ·subst h0
    have hl:l=[]:=Ie AG;subst hl;exact iN A c w hT
   obtain rfl:n=1:=AG
   obtain ⟨b,off,d,rfl,hb,hd,_,hy,_⟩:=J5 hs (k:=0) AG;obtain ⟨x,rfl⟩:∃x,l=[x]:=by
    match l,hln with
    | [x],_=>exact ⟨x,rfl⟩
   simp only [Al,Bu] at hd;subst hd;rw [Qy,EO] at hy;exact yp b off c x w hT hy
  obtain ⟨b,off,_,rfl,_,_,_,_,_⟩:=J5 hs (k:=0) AG;have hh:=Hv h2;have hp:=GL n;have ht:=hs.ADb (k:=Bn n) AG;have hd:=hs.vr (k:=Bn n) AG;rw [iM Aw AG];rw [<-hln];refine yj b off n c _ (Eo Aw (l.take (Bn n))) (Eo Aw (l.drop (Bn n))) w h2 h256 hs.le.1 hT (MK _) (MK _) rfl (fun W hW=>ih _ _ _ _ W AG AG (hT.below hW) (ht.mono BK hW)) (fun W hW=>ih _ _ _ _ W AG AG (hT.below hW) (hd.mono BK hW))
theorem Vr:One CV:=by rintro w cs x ⟨rfl,_⟩ u hu;obtain ⟨_,_,rfl⟩:=Dd.1 hu;rfl
def R4 (l:List (AQ)) (w:AH) (e:Ending) (w':AH):Prop:=∃v cs,e=AU v/\w'.ownsRow w.heap.size 34 32 v l.length cs/\Aq 32 CV w' cs l/\AK w w'
def ke (l:List (AQ)) (k:Int) (w:AH) (e:Ending) (w':AH):Prop:=∃v cs,e=AU (BQ #[v,AE AF k])/\w'.ownsRow w.heap.size 34 32 v l.length cs/\Aq 32 CV w' cs l/\AK w w'
theorem Sb:∀(m:Nat) (l:List Dg) (k:Nat),l.length<=m->(Fo Aw l k).length<=l.length
 | 0,l,k,h=>by rw [Fo,Gr AG];simp
 |
  m+1,l,k,h=>by
  rw [Fo];by_cases h1:l.length<=1
  · rw [Gr h1];simp
  rw [Lj h1];have hh:=Hv (n:=l.length) AG;have hp:=GL l.length;split
  ·have:=Sb m (l.take (Bn l.length)) k Pg
   rw [ER] at this;exact xO
  have:=Sb m (l.drop (Bn l.length)) (k - Bn l.length) UK;rw [JN] at this;exact xO
theorem EW {w w':AH} {base:Nat} {e:Af} {size:Nat} {v:AN} {n:Nat} {xs:List AN} (h:w.ownsRow base e size v n xs) (hb:AK w w'):w'.ownsRow base e size v n xs:=
 h.kept (row:=none) ⟨hb.os,hb.tape,hb.output,hb.size,fun k hk _=>hb.block k hk⟩ eP
theorem ACd (xs cs:Array AN) (n:Nat) (h1:xs.size=n) (h2:cs.size=n):Array.foldl (fun cs (x:AN×Nat)=>cs.setIfInBounds x.snd x.fst) cs xs.zipIdx 0 n=xs:=by
 have h:=Great.foldl_set 0 xs.toList 0 cs;simp only [Fc] at h;have e:Array.foldl (fun cs (x:AN×Nat)=>cs.setIfInBounds x.snd x.fst) cs xs.zipIdx 0 n=(xs.toList.zipIdx 0).foldl (fun cs x=>cs.setIfInBounds x.2 x.1) cs:=by
  obtain ⟨l⟩:=xs;have hz:(⟨l⟩:Array AN).zipIdx=(l.zipIdx 0).toArray:=AX
  rw [hz];exact List.foldl_toArray' _ _ _ (by simpa using h1.symm)
 rw [e];apply Array.ext (by rw [h.1,h1,h2]);intro i hi hj;have h3:=h.2 i;rw [Ao ⟨Av _,by simpa using hj,by omega⟩,Nat.sub_zero] at h3;rw [Yd hi] at h3;simpa [hj] using h3
theorem Y0 (W:AH) (D:AQ) (hD:D.length=32):Ag 32 CV (W.alloc (AO (yA D) 34)) (AB (some ⟨W.heap.size,0,none⟩) 1 1) [D]:=by
 have hk:=AZ.new W 34 (yA D);refine ⟨_,1,rfl,Ac _,by decide,fun i x hi=> ?_⟩;rcases i with _ | i
 ·simp only [Al,Bu] at hi
  subst hi;refine ⟨W.heap.size,0,D.map (Value.int .u8),rfl,hk.lt,by simp [hD],fun j u hu=> ?_,rfl,hD⟩;rw [hk.cell,<-hu];unfold yA;simp
 · simp at hi
theorem Ut (D:AQ) (h:D.length=32):Array.foldl (fun cs (x:AN×Nat)=>cs.setIfInBounds x.snd x.fst) #[Value.int .u8 0,Value.int .u8 0,Value.int .u8 0,Value.int .u8 0,Value.int .u8 0,Value.int .u8 0,Value.int .u8 0,Value.int .u8 0,Value.int .u8 0,Value.int .u8 0,Value.int .u8 0,Value.int .u8 0,Value.int .u8 0,Value.int .u8 0,Value.int .u8 0,Value.int .u8 0,Value.int .u8 0,Value.int .u8 0,Value.int .u8 0,Value.int .u8 0,Value.int .u8 0,Value.int .u8 0,Value.int .u8 0,Value.int .u8 0,Value.int .u8 0,Value.int .u8 0,Value.int .u8 0,Value.int .u8 0,Value.int .u8 0,Value.int .u8 0,Value.int .u8 0,Value.int .u8 0] (yA D).zipIdx 0 32=yA D:=ACd (yA D) _ 32 (by rw [B9,h]) rfl
theorem Ij {w w':AH} {cs:List AN} {l:List (AQ)} (h:Aq 32 CV w cs l):Aq 32 CV w' cs l:=h
theorem AEf {w:AH} {base n:Nat} {e:Af} {v:AN} {cs:List AN} {l:List (AQ)} (h:w.ownsRow base e 32 v n cs) (hc:Aq 32 CV w cs l) (hn:n=l.length):Ag 32 CV w v l:=CW h hc hn
theorem uP (b off n c k:Nat) (D:AQ) (p:List (AQ)) (w:AH) (h2:2<=n) (h256:n<=256) (hc:n<=c) (hpl:p.length<=n) (hDl:D.length=32) (hlt:k < Bn n)
 (h1:∀W,AK w W->AS prog 130 #[AB (some ⟨b,off,none⟩) (Bn n) c,AE AF k] W (R4 p W))
 (h3:∀W,AK w W->AS prog 35 #[AB (some ⟨b,off+Bn n*32,none⟩) (n - Bn n) (c - Bn n)] W (Dl D W)):AS prog 130 #[AB (some ⟨b,off,none⟩) n c,AE AF k] w (R4 (p++[D]) w):=by
 have hh:=Hv h2;have hp:=GL n;have HH:AI (∀W,AS prog 62 #[AE AF n] W fun e w'=>e=AU (AE AF (Bn n:Nat))/\W=w'):=AA (fun W=>Vo n h2 h256 W);obtain ⟨g,hg⟩:=Ad (Bn n);rw [<-hg] at hh hp HH h1 h3 hlt;have H1:=AA h1;have H3:=AA h3;have EM:=AA hDl;have hg0:(0:Int)<=(g:Int):=AG
 have hg1:(g:Int)<=(n:Int):=AG
 have hg2:(g:Int)<=(c:Int):=AG
 have hkc:¬c=g:=AG
 have hn1:((n:Int)==1)=false:=by simp;omega
 have hk0:=Int.natCast_nonneg k
 have hk1:(k:Int) < (g:Int):=AG
 obtain ⟨j0,hj,hjz⟩:=Ds.1 (show (prog.info? 34).map (fun i=>(i.zero.map (·.cells.size),i.size,i.bytes))=some (some 32,32,32) by kernel_rfl);simp only [F7] at hjz;obtain ⟨hjz,hj2,hj3⟩:=hjz;obtain ⟨z0,hz0,hz1⟩:=Ds.1 hjz;have HJ:=AA (show _/\_/\_/\_/\_ from ⟨hj,hz0,hz1,hj2,hj3⟩);have hys:(yA D).size=32:=by rw [B9,hDl]
 have hfl:=Ut D hDl;clear hDl h1 h3 hg hj hjz hj2 hj3 hz0 hz1;go_enter func130,ntmps130;go_wp2_with (go_at_call 62;refine (HH.o _).mono ?_;rintro e w2 ⟨rfl,rfl⟩)
 go_region_held3 (fun _=>True) (trivial) (first
  | (
   go_at_call 130
   (with_reducible refine (H1.o w.drew (Ae _ _).drew).mono ?_)
   rintro e w1 ⟨v1,cs1,rfl,ho1,hc1,hb1⟩;have IY:=AA ho1;have Kd:=AA hc1;have HB1:=AA (((Ae w.heap.size w).drew).trans hb1);clear ho1 hc1 hb1)
  | (
   go_at_call 35
   (with_reducible refine (H3.o w1 HB1.o).mono ?_)
   rintro e w3 ⟨rfl,hb3⟩;have I4:=AA (EW IY.o hb3);have WY:=AA (Kd.o.mono BK hb3);have HB3:=AA (AV HB1.o hb3);clear hb3)
  | (
   refine Pn _ Cq (AY 19) (AY 24) 37 34 Cq j0 z0 32 underlying37 HJ.o.1 HJ.o.2.1 HJ.o.2.2.2.1 HJ.o.2.2.2.2 HJ.o.2.2.1 Ah (R:=CV) Vr w.heap.size v1 p.length cs1 Cq (I4.o.alloc _) (some ⟨w3.heap.size,0,none⟩) 1 1 [D] Cq (Y0 w3 D EM.o) ?_ ?_ ?_ ?_
   · exact RU
   · omega
   · exact BH HB3.o.size AX
   intro v7 w7 cs7 ZT GJ EJ tV;have hb7:AK w w7:=(HB3.o.alloc HB3.o.size _).grown EJ (BH HB3.o.size AX) (fun r hr=>(IY.o.lt r hr).1);have Da:=AA hb7;have pB:=AA GJ;have HC7:=AA (ZT);clear ZT GJ EJ tV hb7)
  | fail)
 exact x8
theorem uQ (b off n c k:Nat) (D:AQ) (p:List (AQ)) (w:AH) (h2:2<=n) (h256:n<=256) (hc:n<=c) (hpl:p.length<=n) (hDl:D.length=32) (hge:Bn n<=k) (hkn:k < n)
 (h1:∀W,AK w W->AS prog 130 #[AB (some ⟨b,off+Bn n*32,none⟩) (n - Bn n) (c - Bn n),AE AF ((k - Bn n:Nat):Int)] W (R4 p W))
 (h3:∀W,AK w W->AS prog 35 #[AB (some ⟨b,off,none⟩) (Bn n) c] W (Dl D W)):AS prog 130 #[AB (some ⟨b,off,none⟩) n c,AE AF k] w (R4 (p++[D]) w):=by
 have hh:=Hv h2;have hp:=GL n;have HH:AI (∀W,AS prog 62 #[AE AF n] W fun e w'=>e=AU (AE AF (Bn n:Nat))/\W=w'):=AA (fun W=>Vo n h2 h256 W);obtain ⟨g,hg⟩:=Ad (Bn n);rw [<-hg] at hh hp HH h1 h3 hge;have H1:=AA h1;have H3:=AA h3;have EM:=AA hDl;have hg0:(0:Int)<=(g:Int):=AG
 have hg1:(g:Int)<=(n:Int):=AG
 have hg2:(g:Int)<=(c:Int):=AG
 have hkc:¬c=g:=AG
 have hn1:((n:Int)==1)=false:=by simp;omega
 have hk0:=Int.natCast_nonneg k
 have hk1:¬(k:Int) < (g:Int):=AG
 have hkg:IntKind.i64.wrap ((k:Int) - (g:Int))=((k - g:Nat):Int):=by rw [CN _ AG];omega
 obtain ⟨j0,hj,hjz⟩:=Ds.1 (show (prog.info? 34).map (fun i=>(i.zero.map (·.cells.size),i.size,i.bytes))=some (some 32,32,32) by kernel_rfl);simp only [F7] at hjz;obtain ⟨hjz,hj2,hj3⟩:=hjz;obtain ⟨z0,hz0,hz1⟩:=Ds.1 hjz;have HJ:=AA (show _/\_/\_/\_/\_ from ⟨hj,hz0,hz1,hj2,hj3⟩);have hys:(yA D).size=32:=by rw [B9,hDl]
 have hfl:=Ut D hDl;clear hDl h1 h3 hg hj hjz hj2 hj3 hz0 hz1;go_enter func130,ntmps130;go_wp2_with (go_at_call 62;refine (HH.o _).mono ?_;rintro e w2 ⟨rfl,rfl⟩)
 go_region_held3 (fun _=>True) (trivial) (first
  | (
   go_at_call 130
   (with_reducible refine (H1.o w.drew (Ae _ _).drew).mono ?_)
   rintro e w1 ⟨v1,cs1,rfl,ho1,hc1,hb1⟩;have IY:=AA ho1;have Kd:=AA hc1;have HB1:=AA (((Ae w.heap.size w).drew).trans hb1);clear ho1 hc1 hb1)
  | (
   go_at_call 35
   (with_reducible refine (H3.o w1 HB1.o).mono ?_)
   rintro e w3 ⟨rfl,hb3⟩;have I4:=AA (EW IY.o hb3);have WY:=AA (Kd.o.mono BK hb3);have HB3:=AA (AV HB1.o hb3);clear hb3)
  | (
   refine Pn _ Cq (AY 32) (AY 37) 37 34 Cq j0 z0 32 underlying37 HJ.o.1 HJ.o.2.1 HJ.o.2.2.2.1 HJ.o.2.2.2.2 HJ.o.2.2.1 Ah (R:=CV) Vr w.heap.size v1 p.length cs1 Cq (I4.o.alloc _) (some ⟨w3.heap.size,0,none⟩) 1 1 [D] Cq (Y0 w3 D EM.o) ?_ ?_ ?_ ?_
   · exact RU
   · omega
   · exact BH HB3.o.size AX
   intro v7 w7 cs7 ZT GJ EJ tV;have hb7:AK w w7:=(HB3.o.alloc HB3.o.size _).grown EJ (BH HB3.o.size AX) (fun r hr=>(IY.o.lt r hr).1);have Da:=AA hb7;have pB:=AA GJ;have HC7:=AA (ZT);clear ZT GJ EJ tV hb7)
  | fail)
 exact x8
theorem uR (A:Option Aa) (c:Nat) (k:Int) (w:AH):AS prog 130 #[AB A 1 c,AE AF k] w (R4 [] w):=by go_enter func130,ntmps130;go_wp2_with fail;go_ret;exact ⟨_,[],rfl,Ev _ _ _ _,Aq.nil,Ae _ _⟩
theorem yq:∀(m:Nat) (A:Option Aa) (n c k:Nat) (l:List (AQ)) (w:AH),n<=m->1<=n->n<=256->k < n->Ca w->Ag 32 CV w (AB A n c) l->
 AS prog 130 #[AB A n c,AE AF k] w (R4 (Fo Aw l k) w):=by
 intro m
 induction m with
 | zero=>intro A n c k l w hm h1;omega
 |
  succ m ih=>
  intro A n c k l w hm h1 h256 hk hT hs;have hln:=hs.len;rcases Ec n 2 with h2 | h2
  ·obtain rfl:n=1:=by omega
   rw [Fo,Gr AG];exact uR A c k w
  obtain ⟨b,off,_,rfl,_,_,_,_,_⟩:=J5 hs (k:=0) AG;have hh:=Hv h2;have hp:=GL n;have ht:=hs.ADb (k:=Bn n) AG;have hd:=hs.vr (k:=Bn n) AG;rw [Fo,Lj AG];rw [<-hln];by_cases hlt:k < Bn n
  ·rw [Ao hlt]
   have hpl:=Sb l.length (l.take (Bn n)) k Pg;rw [ER] at hpl;exact uP b off n c k (Eo Aw (l.drop (Bn n))) (Fo Aw (l.take (Bn n)) k) w h2 h256 hs.le.1 AG (MK _) hlt (fun W hW=>ih _ _ _ _ _ W AG AG AG hlt (hT.below hW) (ht.mono BK hW)) (fun W hW=>Zy _ _ _ _ _ W (Ac _) AG (hT.below hW) (hd.mono BK hW))
  rw [Ai hlt];have hpl:=Sb l.length (l.drop (Bn n)) (k - Bn n) UK;rw [JN] at hpl;exact uQ b off n c k (Eo Aw (l.take (Bn n))) (Fo Aw (l.drop (Bn n)) (k - Bn n)) w h2 h256 hs.le.1 AG (MK _) AG hk (fun W hW=>ih _ _ _ _ _ W AG AG AG AG (hT.below hW) (hd.mono BK hW)) (fun W hW=>Zy _ _ _ _ _ W (Ac _) AG (hT.below hW) (ht.mono BK hW))
theorem ABP (A:Option Aa) (n c k:Nat) (l:List (AQ)) (w:AH) (h256:n<=256) (hk:k < n) (hT:Ca w) (hs:Ag 32 CV w (AB A n c) l):
 AS prog 82 #[AB A n c,AE AF k] w (ke (Fo Aw l k) 0 w):=by
 have HC:=AA (fun (W:AH) (hW:AK w W)=>yq n A n c k l W (Ac _) AG h256 hk (hT.below hW) (hs.mono BK hW));have hk0:¬(k:Int) < 0:=AG
 have hk1:¬(n:Int)<=(k:Int):=AG
 clear hT hs;go_enter func82,ntmps82;go_wp2_with (go_at_call 130;refine (HC.o _ (Ae _ _)).mono ?_;rintro e w2 ⟨v,cs,rfl,ho,hc,hb⟩;have HO:=AA ho;have HC2:=AA hc;have HB:=AA hb;clear ho hc hb);go_ret2;exact ⟨v,cs,rfl,HO.o,HC2.o,HB.o⟩
def Y6 (d:AQ) (k:Int) (w:AH) (e:Ending) (w':AH):Prop:=e=AU (BQ #[AP (yA d),AE AF k])/\AK w w'
theorem Wv {P:BA} {fn:Func} {a:Act} {p q:Tmp} {ty:Af} {t:Af} {ds:TypeDesc} {d:AQ} {k:Int} {g:Nat} {w0 w:AH} {x:Exit} (hx:x=.ret\/x=.normal) (h:fn.results=#[.cell p ty,.tmp q]) (hp:a.tmps.getD p undef=AW (some ⟨g,0,none⟩)) (hq:a.tmps.getD q undef=AE AF k) (hdf:a.defers=[]) (hg:AZ w g t (yA d)) (hu:P.underlying ty=some ds) (hds:(match ds with | .struct _ | .array _ _=>true | _=>false)=true) (hi:(P.info? ty).map (·.size)=some 32) (hd:d.length=32) (hb:AK w0 w):
 bodyPost P fn (Y6 d k w0) x a w:=by
 have hr:(results fn a.tmps).run P w=.ok (BQ #[AP (yA d),AE AF k]) w:=by
  have hp':a.tmps[p]?.getD undef=AW (some ⟨g,0,none⟩):=by simpa using hp
  have hq':a.tmps[q]?.getD undef=AE AF k:=by simpa using hq
  simp [results,h,hp',hq',asAddr,run_loadVar_row w g t ty (yA d) (0,0) ds hg hu hds eO]
 rcases hx with rfl | rfl
 · exact km
 · exact kj
theorem Ws:∀(m k n:Nat),n<=m->(Gz k n).length<=n
 | 0,k,n,h=>by rw [Gz,Gr AG];simp
 |
  m+1,k,n,h=>by
  rw [Gz];by_cases h1:n<=1
  · rw [Gr h1];simp
  rw [Lj h1];have hh:=Hv (n:=n) AG;have hp:=GL n;split
  ·have:=Ws m (k - Bn n) (n - Bn n) AG
   exact bE
  have:=Ws m k (Bn n) AG;exact bE
theorem ADz (H:AQ->AQ->AQ) {p:List (AQ)} {R:List Bool} {j:Nat} {x r:AQ} {b:Bool} (hl:p.length=R.length) (hx:p[j]? =some x) (hb:R[R.length - 1 - j]? =some b):
 UY H ((p.zip R.reverse).take (j+1)) r=if b then Og H x (UY H ((p.zip R.reverse).take j) r) else Og H (UY H ((p.zip R.reverse).take j) r) x:=by
 have hj:=(BD.1 hx).1;have hr:R.reverse[j]? =some b:=by rw [List.getElem?_reverse AG];exact hb
 have hz:(p.zip R.reverse)[j]? =some (x,b):=by rw [Ic];exact ⟨hx,hr⟩
 rw [Tp,hz,VQ];cases b <;> rfl
theorem ye {r:AQ} (hr:r.length=32):∀(l:List (AQ×Bool)),(UY Aw l r).length=32:=by
 intro l
 induction l generalizing r with
 | nil=>exact hr
 |
  cons x l ih=>
  obtain ⟨y,b⟩:=x;cases b
  · exact ih (C7 _ _)
  · exact ih (C7 _ _)
theorem CG {W:AH} {base:Nat} {e:Af} {size:Nat} {v:AN} {n:Nat} {xs:List AN} (h:W.ownsRow base e size v n xs):∃A c,v=AB A n c:=by
 rcases h.2 with ⟨rfl,rfl⟩ | ⟨g,cap,_,rfl,_⟩
 · exact ⟨none,0,rfl⟩
 · exact ⟨_,cap,rfl⟩
theorem Df {P:BA} {w:AH} {ops:Array Oper} {rest:List Oper} {o:Oper} {a:Act} {Q:Exit->Act->AH->Prop} (hgd:o.guard=none) (ty:Af) (x y:Operand) (ho:o.op=.store ty x y)
 (g:Nat) (d:AQ) (hx:a.eval x=AW (some ⟨g,0,none⟩)) (hy:a.eval y=AP (yA d)) (t:Af) (old:Array AN) (hg:AZ w g t old) (hi:(P.info? ty).map (·.size)=some 32) (hold:old.size=32) (hd:d.length=32)
 (h:∀w',AZ w' g t (yA d)->BI g w w'->w.grownBy w' (some g)->wpList P ops Q rest (a.put o.dst undef) w'):wpList P ops Q (o::rest) a w:=by
 have hs:(yA d).size=32:=by rw [B9,hd]
 exact YM hgd ty x y ho g (yA d) hx hy t old hg dy eC (Kq d) (h _ (hg.row _) (below_setRow (Ae _ _) (Ac _) _) ⟨rfl,rfl,rfl,by simp [World.setRow],fun k hk hne=>Gt w g k _ (fun e=>hne M0)⟩)
theorem Ld {P:BA} {ops:Array Oper} {rest:List Oper} {op:Oper} {a:Act} {w:AH} {Q:Exit->Act->AH->Prop} (hgd:op.guard=none) (ty:Af) (x:Operand) (ho:op.op=.load ty x)
 (b o:Nat) (hx:a.eval x=AW (some ⟨b,o,none⟩)) (l:AQ) (d:TypeDesc) (hc:w.rangeAt b o (l.map (Value.int .u8))) (hu:P.underlying ty=some d) (hd:d.isRow=true) (hi:(P.info? ty).map (·.size)=some 32) (hl:l.length=32)
 (h:wpList P ops Q rest (a.put op.dst (AP (yA l))) w):wpList P ops Q (op::rest) a w:=
 wpList_load_mid hgd ty x ho b o hx _ d hc hu hd (by rw [Cb,hl];exact hi) h
theorem AAW (
 d:AQ) (k n:Nat) (A:Option Aa) (m c:Nat) (p:List (AQ)) (w:AH) (hd:d.length=32) (h256:n<=256) (hk:k < n) (hT:Ca w) (hs:Ag 32 CV w (AB A m c) p):
 AS prog 92 #[AP (yA d),AE AF k,AE AF n,AB A m c] w (Y6 ((IW Aw d k n p).getD (zeros 32)) (if (IW Aw d k n p).isSome then 0 else 1) w):=by
 have HD:=AA hd;have HT:=AA hT;have HS:=AA hs;obtain ⟨R,hR⟩:=Ad (Gz k n);have HR:=AA hR;have hmR:R.length<=256:=by rw [hR];have:=Ws n k n (Ac _);omega
 have HMR:=AA hmR;have HH:AI (∀(n':Nat),2<=n'->n'<=256->∀(W:AH),AS prog 62 #[AE AF n'] W fun e w'=>e=AU (AE AF (Bn n':Nat))/\W=w'):=AA (fun n' h2 h3 W=>Vo n' h2 h3 W);obtain ⟨Z,hZ⟩:=Ad ((IW Aw d k n p).getD (zeros 32));obtain ⟨E,hE⟩:=Ad (if (IW Aw d k n p).isSome then 0 else 1:Int)
 rw [<-hZ,<-hE];have HZ:=AA hZ;have HE:=AA hE;have h1:¬(n:Int) < 1:=AG
 have h2:¬(1099511627776:Int) < (n:Int):=AG
 have h3:¬(k:Int) < 0:=AG
 have h4:¬(n:Int)<=(k:Int):=AG
 clear hd hT hs hR hmR hZ hE;go_enter func92,ntmps92;go_upto_region 1 with fail;have hq:=Iq (w.alloc (AO (yA d) 34)) 34;have kd:AZ (w.alloc (AO (yA d) 34)) w.heap.size 34 (yA d):=AZ.new _ _ _;have hb0:AK w (w.alloc (AO (yA d) 34)):=(Ae _ _).alloc (Ac _) _;have hs0:(w.alloc (AO (yA d) 34)).heap.size=w.heap.size+1:=AX
 generalize (w.alloc (AO (yA d) 34))=w0 at hq kd hb0 hs0 ⊢;rw [hs0] at hq;generalize (w0.alloc _)=wa at hq ⊢;obtain ⟨kr,hba,hza⟩:=hq;have KD:=AA (kd.below hba AG);have KR:=AA kr;have H0:AI (AK w wa):=AA (hb0.trans (hba.mono AG));have Xw:=AA hza;clear hs0 hb0 hba kd kr hza;obtain ⟨i0,hi,hz0,hz1,hz2,hz3⟩:∃i:TypeInfo,prog.info? 4=some i/\i.zero=some (Ab false)/\i.size=1/\i.bytes=1/\True:=by obtain ⟨j,hj,hjz⟩:=Ds.1 (show (prog.info? 4).map (fun i=>(i.zero,i.size,i.bytes))=some (some (Ab false),1,1) by kernel_rfl);simp only [F7] at hjz;exact ⟨j,hj,hjz.1,hjz.2.1,hjz.2.2,trivial⟩
 have HI:=AA (show _/\_/\_/\_ from ⟨hi,hz0,hz1,hz2⟩);clear hi hz0 hz1 hz2 hz3;go_wp2_with fail;go_loopg [1,2,10] n (fun g ki ni v wr=>∃(k' n':Nat) (pre:List Bool),n'<=256/\k' < n'/\g=n'/\ki=AE AF k'/\ni=AE AF n'/\pre++Gz k' n'=R/\wr.ownsRow wa.heap.size 4 1 v pre.length (pre.map Value.bool)/\AK wa wr)
 case atStart=>exact ⟨k,n,[],h256,hk,rfl,rfl,rfl,HR.o.symm,Ev _ _ _ _,Ae _ _⟩
 obtain ⟨k',n',pre,hn',hk',hg,rfl,rfl,hpre,hown,hb⟩:=hrel;have HG:=AA hg;have HB:=AA hb;have HOWN:=AA hown;have gq:=AA hpre;clear hg hb hown hpre h1 h2 h3 h4;have hpl:pre.length<=256:=by have:=HMR.o;rw [<-gq.o,CQ] at this;omega
 have hsz:=HB.o.size;by_cases hlt:2<=n'
 ·have hh:=Hv hlt
  have hp:=GL n';have HH2:=AA (HH.o n' hlt hn');have hrr:=Gz.eq_1 k' n';rw [Lj AG] at hrr;obtain ⟨q,hq⟩:=Ad (Bn n');rw [<-hq] at hh hp HH2 hrr;have hgt:(1:Int) < (n':Int):=AG
  clear hq;by_cases hge:q<=k'
  ·rw [Ao hge] at hrr
   have HRR:=AA hrr;have hge':(q:Int)<=(k':Int):=AG
   have hkg:IntKind.i64.wrap ((k':Int) - (q:Int))=((k' - q:Nat):Int):=by rw [CN _ AG];omega
   have hng:IntKind.i64.wrap ((n':Int) - (q:Int))=((n' - q:Nat):Int):=by rw [CN _ AG];omega
   clear hrr;go_wp2_with (first
    | (go_at_call 62;refine (HH2.o _).mono ?_;rintro e w2 ⟨rfl,rfl⟩)
    | (at_builtin;refine wpList_append_own _ rfl (AY 34) (AY 38) 237 rfl wa.heap.size 4 i0 (Ab false) 1 1 underlying237 HI.o.1 HI.o.2.1 HI.o.2.2.1 HI.o.2.2.2 rfl Ah _ _ _ rfl (HOWN.o.alloc _) ⟨wr.heap.size,0,none⟩ 1 1 [Ab true] rfl rfl (cell_one_new _ _ _) N9 FN AG BN ?_;intro v' w5 hown' hgrow hnil))
   go_roundg (n' - q)
   case measure=>exact EF
   refine ⟨k' - q,n' - q,pre++[true],by omega,by omega,rfl,rfl,rfl,by rw [Jk,<-gq.o,HRR.o];rfl,?_,(HB.o.alloc AG _).grown hgrow BN (fun k hk=>(HOWN.o.lt k hk).1)⟩;rw [DE,CQ];exact hown'
  rw [Ai hge] at hrr;have HRR:=AA hrr;have hge':¬(q:Int)<=(k':Int):=AG
  clear hrr;go_wp2_with (first
   | (go_at_call 62;refine (HH2.o _).mono ?_;rintro e w2 ⟨rfl,rfl⟩)
   | (at_builtin;refine wpList_append_own _ rfl (AY 34) (AY 38) 237 rfl wa.heap.size 4 i0 (Ab false) 1 1 underlying237 HI.o.1 HI.o.2.1 HI.o.2.2.1 HI.o.2.2.2 rfl Ah _ _ _ rfl (HOWN.o.alloc _) ⟨wr.heap.size,0,none⟩ 1 1 [Ab false] rfl rfl (cell_one_new _ _ _) N9 FN AG BN ?_;intro v' w5 hown' hgrow hnil))
  go_roundg (q)
  case measure=>exact EF
  refine ⟨k',q,pre++[false],by omega,by omega,rfl,rfl,rfl,by rw [Jk,<-gq.o,HRR.o];rfl,?_,(HB.o.alloc AG _).grown hgrow BN (fun k hk=>(HOWN.o.lt k hk).1)⟩;rw [DE,CQ];exact hown'
 have hn1:n'=1:=AG
 have hk0:k'=0:=AG
 subst hn1 hk0;have hpR:pre=R:=by have:=gq.o;rw [Gz,Gr AG,FK] at this;exact this
 subst hpR;have hml:=HS.o.len;obtain ⟨wx,rfl⟩:=Ad (wr:AH);obtain ⟨rA,rc,rfl⟩:=CG HOWN.o;have KD2:=AA (KD.o.below HB.o Pc);have NJ:=AA (KR.o.below HB.o Pc);have H2:=AA (AV H0.o HB.o);have Er:(prog.info? 34).map (·.size)=some 32:=AJ
 have Mm:=AA Er;have Zh:=AA hml;clear Er hml hk hlt;by_cases hmn:m=pre.length
 ·obtain ⟨D0,hD0⟩:=Ad (Aw cY d)
  have HD0:=AA hD0;have EM:AI (D0.length=32):=AA (by rw [hD0];exact C7 _ _);have HC:AI (∀W,AK w W->AZ W w.heap.size 34 (yA d)->AS prog 48 #[.string {data:=#[108,101,97,102]},AB (some ⟨w.heap.size,0,none⟩) 32 32] W (Dl D0 W)):=AA (fun W hW hk=>by have hy:=GR hk (by rw [HD.o];omega);rw [HD.o] at hy;rw [hD0];exact IF {data:=#[108,101,97,102]} _ 32 32 d W Ah (HT.o.below hW) hy)
  have Lh:=AA hmn;have AHa:(m:Int)=(pre.length:Int):=AG
  clear hD0 hmn;go_wp2_with (first
   | (go_at_call 48;refine (HC.o _ H2.o KD2.o).mono ?_;rintro e w2 ⟨rfl,hb2⟩;have Qm:=AA (NJ.o.below hb2 NJ.o.lt);have I4:=AA (EW HOWN.o hb2);have H3:=AA (AV H2.o hb2);clear hb2)
   | (refine Df rfl 34 (AY 8) (AY 57) rfl (w.heap.size+1) D0 rfl rfl 34 (yA (zeros 32)) Qm.o Mm.o DU EM.o ?_;intro w3 k3 hb3 hg3))
  obtain ⟨wy,rfl⟩:=Ad (w3:AH);have K3:=AA k3;have Qa:=AA (I4.o.kept hg3 (.inr (by intro e;have:=(I4.o.lt _ e).1;have:=Xw.o;omega)));have H4:=AA (H3.o.trans (hb3.mono (Ff _)));clear k3 hb3 hg3;go_loopg [60] m (fun g i wr=>∃j:Nat,j<=m/\g=m - j/\i=AE AF j/\AZ wr (w.heap.size+1) 34 (yA (UY Aw ((p.zip pre.reverse).take j) D0))/\wr.ownsRow wa.heap.size 4 1 (AB rA pre.length rc) pre.length (pre.map Value.bool)/\AK w wr)
  case atStart=>exact ⟨0,Av _,rfl,rfl,K3.o,Qa.o,H4.o⟩
  obtain ⟨j,hj,hg,rfl,hk,hown,hb⟩:=hrel;have HG2:=AA hg;have HB2:=AA hb;have HOW:=AA hown;obtain ⟨C,hC⟩:=Ad (UY Aw ((p.zip pre.reverse).take j) D0);rw [<-hC] at hk;have SN:AI (C.length=32):=AA (by rw [hC];exact ye EM.o _);have EN:=AA hC;have HK:=AA hk;clear hg hb hown hC hk;by_cases hlt:j < m
  ·obtain ⟨b,off,x,rfl,hbl,hx,hxl,_,hrg⟩:=J5 (HS.o.mono BK HB2.o) hlt
   have HX:=AA hx;have H9:=AA hxl;have SC:=AA hrg;clear hx hxl hrg hbl;obtain ⟨q,hq⟩:=Ad (pre.length - 1 - j);obtain ⟨bb,hbb⟩:∃bb,pre[q]? =some bb:=⟨_,BJ (by have:=Lh.o;omega)⟩;have Mp:AI (pre[pre.length - 1 - j]? =some bb):=AA (by rw [<-hq];exact hbb);have hjm:(j:Int) < (m:Int):=AG
   obtain ⟨rg,AEz,hrv⟩:∃g c,rA=some ⟨g,0,none⟩/\rc=c:=by
    rcases HOW.o.2 with ⟨_,h0⟩ | ⟨g,cap,_,hv,_⟩
    · have:=Lh.o;omega
    injection hv with e1 e2 e3;exact ⟨g,cap,e1,e3⟩
   obtain ⟨rfl,rfl⟩:=hrv;have hqm:(q:Int) < (pre.length:Int):=by have:=Lh.o;omega
   have e1:IntKind.i64.wrap ((pre.length:Int) - 1)=((pre.length - 1:Nat):Int):=by rw [CN _ AG];have:=Lh.o;omega
   have e2:IntKind.i64.wrap (((pre.length - 1:Nat):Int) - (j:Int))=(q:Int):=by rw [CN _ AG];have:=Lh.o;omega
   have hq0:¬(q:Int) < 0:=AG
   have HQ:=AA hq;have BG:=AA hbb;have Ml:=AA hlt;clear hq hbb hlt;cases bb
   ·obtain ⟨N,hN⟩:=Ad (Og Aw C x)
    have SH:AI (N.length=32):=AA (by rw [hN];exact C7 _ _);have HN:AI (∀W,AK w W->AS prog 63 #[AP (yA C),AP (yA x)] W (Dl N W)):=AA (fun W hW=>by rw [hN];exact aC C x SN.o H9.o W (HT.o.below hW));have HNE:=AA hN;clear hN;go_wp2_with (first
     | (refine Ld rfl 34 (AY 63) rfl b (off+j*32) rfl x _ SC.o underlying34 rfl Mm.o H9.o ?_)
     | (
      refine Df rfl 34 (AY 13) (AY 64) rfl wr.heap.size x rfl rfl 34 (yA (zeros 32)) (Iq wr _).1 Mm.o DU H9.o ?_;intro w4 k4 hb4 hg4;have hb5:AK wr w4:=(Iq wr 34).2.1.trans hb4;have hcell:w4.cell? ⟨rg,q,none⟩=some (Ab false):=((EW HOW.o hb5).cellAt q AG).trans rF;have KX:=AA k4;have KC:=AA (HK.o.below hb5 HK.o.lt);have o7:=AA (EW HOW.o hb5);have H5:=AA (AV HB2.o hb5);clear k4 hb4 hg4 hb5)
     | (refine CT rfl 34 (AY 13) rfl wr.heap.size x rfl 34 _ KX.o underlying34 rfl Mm.o H9.o ?_)
     | (refine CT rfl 34 (AY 8) rfl (w.heap.size+1) C rfl 34 _ KC.o underlying34 rfl Mm.o SN.o ?_)
     | (
      go_at_call 63;refine (HN.o _ H5.o).mono ?_;rintro e w5 ⟨rfl,hb6⟩;have KC6:=AA (KC.o.below hb6 KC.o.lt);have QZ:=AA (EW o7.o hb6);have H6:=AA (AV H5.o hb6);clear hb6)
     | (refine Df rfl 34 (AY 8) (AY 78) rfl (w.heap.size+1) N rfl rfl 34 (yA C) KC6.o Mm.o eK SH.o ?_;intro w7 k7 hb7 EJ))
    go_roundg (m - (j+1))
    case measure=>have:=HG2.o;exact QH
    exact yN
   obtain ⟨N,hN⟩:=Ad (Og Aw x C);have SH:AI (N.length=32):=AA (by rw [hN];exact C7 _ _);have HN:AI (∀W,AK w W->AS prog 63 #[AP (yA x),AP (yA C)] W (Dl N W)):=AA (fun W hW=>by rw [hN];exact aC x C H9.o SN.o W (HT.o.below hW));have HNE:=AA hN;clear hN;go_wp2_with (first
    | (refine Ld rfl 34 (AY 63) rfl b (off+j*32) rfl x _ SC.o underlying34 rfl Mm.o H9.o ?_)
    | (
     refine Df rfl 34 (AY 13) (AY 64) rfl wr.heap.size x rfl rfl 34 (yA (zeros 32)) (Iq wr _).1 Mm.o DU H9.o ?_;intro w4 k4 hb4 hg4;have hb5:AK wr w4:=(Iq wr 34).2.1.trans hb4;have hcell:w4.cell? ⟨rg,q,none⟩=some (Ab true):=((EW HOW.o hb5).cellAt q AG).trans rF;have KX:=AA k4;have KC:=AA (HK.o.below hb5 HK.o.lt);have o7:=AA (EW HOW.o hb5);have H5:=AA (AV HB2.o hb5);clear k4 hb4 hg4 hb5)
    | (refine CT rfl 34 (AY 13) rfl wr.heap.size x rfl 34 _ KX.o underlying34 rfl Mm.o H9.o ?_)
    | (refine CT rfl 34 (AY 8) rfl (w.heap.size+1) C rfl 34 _ KC.o underlying34 rfl Mm.o SN.o ?_)
    | (
     go_at_call 63;refine (HN.o _ H5.o).mono ?_;rintro e w5 ⟨rfl,hb6⟩;have KC6:=AA (KC.o.below hb6 KC.o.lt);have QZ:=AA (EW o7.o hb6);have H6:=AA (AV H5.o hb6);clear hb6)
    | (refine Df rfl 34 (AY 8) (AY 75) rfl (w.heap.size+1) N rfl rfl 34 (yA C) KC6.o Mm.o eK SH.o ?_;intro w7 k7 hb7 EJ))
   go_roundg (m - (j+1))
   case measure=>have:=HG2.o;exact QH
   exact yN
  have hjm:j=m:=AG
  subst hjm;have hcl:IW Aw d k n p=some C:=by rw [IW,Ao rQ,<-HR.o,EN.o,HD0.o,Cu (by rw [List.length_zip,List.length_reverse,<-Zh.o,Lh.o];omega)]
  obtain rfl:Z=C:=by rw [HZ.o,hcl];rfl
  obtain rfl:E=0:=by rw [HE.o,hcl];rfl
  clear hlt hcl hj;go_wp2_with (first
   | (refine CT rfl 34 (AY 8) rfl (w.heap.size+1) Z rfl 34 _ HK.o underlying34 rfl Mm.o SN.o ?_)
   | (refine Df rfl 34 (AY 8) (AY 80) rfl (w.heap.size+1) Z rfl rfl 34 (yA Z) HK.o Mm.o eK SN.o ?_;intro w7 k7 hb7 EJ))
  exact Wv (.inl rfl) rfl rfl rfl rfl k7 underlying34 rfl Mm.o SN.o (HB2.o.trans (hb7.mono (Ff _)))
 have AHa:¬(m:Int)=(pre.length:Int):=AG
 have Lh:=AA hmn;clear hmn;go_wp2_with (first
  | (refine CT rfl 34 (AY 8) rfl (w.heap.size+1) (zeros 32) rfl 34 _ NJ.o underlying34 rfl Mm.o rfl ?_)
  | (refine Df rfl 34 (AY 8) (AY 55) rfl (w.heap.size+1) (zeros 32) rfl rfl 34 (yA (zeros 32)) NJ.o Mm.o DU rfl ?_;intro w3 k3 hb3 hg3))
 have hcl:IW Aw d k n p=none:=by rw [IW,Ai rQ]
 obtain rfl:Z=zeros 32:=by rw [HZ.o,hcl];rfl
 obtain rfl:E=1:=by rw [HE.o,hcl];rfl
 exact Wv (.inl rfl) rfl rfl rfl rfl k3 underlying34 rfl Mm.o rfl (H2.o.trans (hb3.mono (Ff _)))
def au (l:AQ) (w:AH) (e:Ending) (w':AH):Prop:=∃v,e=AU v/\w'.ownsRow w.heap.size 5 1 v l.length (l.map (Value.int .u8))/\AK w w'
theorem R3:∃i:TypeInfo,prog.info? 5=some i/\i.zero=some (AE Am 0)/\i.size=1/\i.bytes=1:=by obtain ⟨j,hj,hjz⟩:=Ds.1 (show (prog.info? 5).map (fun i=>(i.zero,i.size,i.bytes))=some (some (AE Am 0),1,1) by kernel_rfl);simp only [F7] at hjz;exact ⟨j,hj,hjz.1,hjz.2.1,hjz.2.2⟩
theorem nE (P:Option Aa) (np pc:Nat) (ps:List (AQ)) (w:AH) (hp:Ag 1 VT w (AB P np pc) ps) (hl:ps.flatten.length<=100000):
 AS prog 150 #[AB P np pc] w (au ps.flatten w):=by
 have HP:=AA hp;have HL:=AA hl;have hnp:=hp.le;have IB:=AA hp.len;obtain ⟨i0,hi⟩:=R3;have HI:=AA hi;clear hp hl hi;go_enter func150,ntmps150;go_wp2_with fail;go_loopg [2,7] np (fun g v i wr=>∃k:Nat,k<=np/\g=np - k/\i=AE AF k/\wr.ownsRow w.heap.size 5 1 v (ps.take k).flatten.length ((ps.take k).flatten.map (Value.int .u8))/\AK w wr)
 case atStart=>exact ⟨0,Av _,rfl,rfl,Ev _ _ _ _,Ae _ _⟩
 obtain ⟨k,hk,hg,rfl,hown,hb⟩:=hrel;have HG:=AA hg;have HB:=AA hb;have HO:=AA hown;clear hg hb hown;by_cases hlt:k < np
 ·obtain ⟨b,off,x,cs,rfl,hbl,hx,hcl,hc,A,n,c,rfl,hs1⟩:=(HP.o.mono yw HB.o).at_ hlt
  have c0:wr.cell? ⟨b,off+k,none⟩=some (AB A n c):=by have:=hc 0 _ rfl;rw [Gs,EO] at this;exact this
  have htk:(ps.take (k+1)).flatten=(ps.take k).flatten++x:=by rw [Tp,hx,PV];simp
  have htl:(ps.take k).flatten.length+n<=100000:=by
   have h1:(ps.take (k+1)).flatten.length<=ps.flatten.length:=by rw [<-Tw (k+1) ps,PV,CQ];simp
   rw [htk,CQ,<-hs1.len] at h1;have:=HL.o;omega
  have JY:=AA hs1;have R9:=AA htk;have R8:=AA htl;have hk1:(k:Int) < (np:Int):=AG
  clear hx hcl hc hs1 htk htl hbl;go_wp2_with (at_builtin;refine CU _ rfl (AY 11) (AY 12) 104 5 rfl i0 _ 1 underlying104 HI.o.1 HI.o.2.1 HI.o.2.2.1 HI.o.2.2.2 rfl Ah (R:=Il) NF w.heap.size _ _ _ rfl HO.o A n c x rfl JY.o (by have:=R8.o;unfold maxLen;omega) (by have:=R8.o;omega) HB.o.size ?_;intro v' w5 NZ hc5 hown' hgrow OL);go_roundg (np - (k+1))
  case measure=>exact EF
  obtain rfl:=IK hc5;refine ⟨k+1,by omega,rfl,by go_num,?_,jK HB.o hgrow HO.o (Ac _) HB.o.size⟩;rw [R9.o,DE,CQ,<-JY.o.len];exact hown'
 have hkn:k=ps.length:=by have:=IB.o;omega
 go_wp2_with fail;go_ret;refine ⟨_,rfl,?_,HB.o⟩;have:=HO.o;rw [hkn,PO] at this;exact this
theorem jL (seed:AQ) (i:Nat) (w:AH) (hd:seed.length=32) (hi:i < 256) (hT:Ca w):AS prog 101 #[AP (yA seed),AE AF i] w (Dl (Hh Aw seed i) w):=by
 have HD:=AA hd;have HT:=AA hT;have hw:IntKind.u8.wrap (i:Int)=(i:Int):=by rw [IntKind.wrap_u8];omega
 obtain ⟨D,hD⟩:=Ad (Hh Aw seed i);have EM:AI (D.length=32):=AA UJ;have HC:AI (∀(A:Option Aa) (c:Nat) W,AK w W->Ag 1 Il W (AB A 33 c) (seed++[(i:Int)])->AS prog 48 #[.string {data:=#[99,104,97,105,110]},AB A 33 c] W (Dl D W)):=AA (fun A c W hW hl=>by rw [hD];exact IF {data:=#[99,104,97,105,110]} A 33 c _ W Ah (HT.o.below hW) hl)
 have Er:(prog.info? 34).map (·.size)=some 32:=AJ
 have HI:=AA Er;rw [<-hD];clear hD hd hT Er;go_enter func101,ntmps101;go_upto_region 1 with fail;have hq:=Iq (w.alloc (AO (yA seed) 34)) 34;have kd:AZ (w.alloc (AO (yA seed) 34)) w.heap.size 34 (yA seed):=AZ.new _ _ _;have hb0:AK w (w.alloc (AO (yA seed) 34)):=(Ae _ _).alloc (Ac _) _;have hs0:(w.alloc (AO (yA seed) 34)).heap.size=w.heap.size+1:=AX
 generalize (w.alloc (AO (yA seed) 34))=w0 at hq kd hb0 hs0 ⊢;rw [hs0] at hq;generalize (w0.alloc _)=wa at hq ⊢;obtain ⟨kr,hba,hza⟩:=hq;have hy:=GR ((kd.below hba AG).alloc (AO #[AE Am (i:Int)] 5)) (by rw [HD.o];omega);rw [HD.o] at hy;have h0:AK w wa:=hb0.trans (hba.mono AG);have k1:AZ (wa.alloc (AO #[AE Am (i:Int)] 5)) wa.heap.size 5 (yA [(i:Int)]):=AZ.new _ _ _;have hy1:Ag 1 Il (wa.alloc (AO #[AE Am (i:Int)] 5)) (AB (some ⟨wa.heap.size,0,none⟩) 1 1) [(i:Int)]:=GR k1 AX;have hs2:=tA hy hy1 (T:=104);rw [Ee] at hs2;have hbb:AK w ((wa.alloc (AO #[AE Am (i:Int)] 5)).alloc (AO #[AB (some ⟨w.heap.size,0,none⟩) 32 32,AB (some ⟨wa.heap.size,0,none⟩) 1 1] 104)):=(h0.alloc AG _).alloc BN _;have hj:=nE _ _ _ _ _ hs2 (by simp [HD.o]);have hfl:[seed,[(i:Int)]].flatten=seed++[(i:Int)]:=AX
 rw [hfl] at hj;have HJ:=AA hj;have AGa:AI ((seed++[(i:Int)]).length=33):=AA (by simp [HD.o]);clear hj hfl;have KR:=AA ((kr.alloc (AO #[AE Am (i:Int)] 5)).alloc (AO #[AB (some ⟨w.heap.size,0,none⟩) 32 32,AB (some ⟨wa.heap.size,0,none⟩) 1 1] 104));have BG:=AA hbb;clear hs0 hb0 hba kd kr hza hy hy1 h0 k1 hs2 hbb;go_wp2_with (first
  | (
   go_at_call 150;refine HJ.o.mono ?_;rintro e w2 ⟨v,rfl,ho,hb⟩;rw [AGa.o] at ho;obtain ⟨g,c,rfl,hs3⟩:=Uh ho (Nat.succ_pos _) AGa.o.symm;have J6:=AA hs3;have NJ:=AA (KR.o.below hb KR.o.lt);have HB2:=AA (AV BG.o hb);clear hs3 ho hb)
  | (
   go_at_call 48;refine (HC.o _ c _ HB2.o J6.o).mono ?_;rintro e w3 ⟨rfl,hb⟩;have Qm:=AA (NJ.o.below hb NJ.o.lt);have HB3:=AA (AV HB2.o hb);clear hb)
  | (refine DM rfl 34 (AY 4) (AY 11) rfl (w.heap.size+1) D rfl rfl 34 _ Qm.o HI.o DU EM.o ?_;intro w4 k4 hb4))
 exact xq
def pA (g k:Nat):Array AN:=((List.range 19).map fun i=>if i < k then Value.slice (some ⟨g,i*32,none⟩) 32 32 else Value.slice none 0 0).toArray
theorem AE2 {w:AH} {P g k:Nat} {T:Af} (h:AZ w P T (pA g k)) (hk:k < 19):AZ (w.setCell ⟨P,k,none⟩ (AB (some ⟨g,k*32,none⟩) 32 32)) P T (pA g (k+1)):=by
 have h1:=h.put k (AB (some ⟨g,k*32,none⟩) 32 32);have e:(pA g k).setIfInBounds k (AB (some ⟨g,k*32,none⟩) 32 32)=pA g (k+1):=by
  unfold pA;rw [Lr];congr 1;apply N6;intro j;rw [RE,Bb,Bb,Cb,YN];by_cases hj:j < 19
  ·rw [Lp hj]
   by_cases hjk:k=j
   ·subst hjk
    simp [hk]
   rw [Ai hjk];simp only [Cl];congr 1;by_cases h2:j < k
   · rw [Ao h2,Ao AG]
   · rw [Ai h2,Ai AG]
  rw [DT (by simpa using hj)];rw [Ai AG];rfl
 rwa [e] at h1
theorem tI {w:AH} {P g k i:Nat} {T:Af} (h:AZ w P T (pA g k)) (hi:i < 19):w.cell? ⟨P,i,none⟩=some (if i < k then Value.slice (some ⟨g,i*32,none⟩) 32 32 else Value.slice none 0 0):=by rw [h.cell,pA,Ak,Bb,Lp hi];rfl
def chunks (F:AQ) (n:Nat):List (AQ):=(List.range n).map fun i=>(F.drop (i*32)).take 32
theorem Zb (F:AQ):∀n,(chunks F n).flatten=F.take (n*32)
 | 0=>by simp [chunks]
 |
  n+1=>by
  have h:=Zb F n;unfold chunks at h ⊢;rw [PW,DE,PV,h,Mr,List.take_add];simp
theorem wB {w:AH} {P g:Nat} {T T':Af} {F:AQ} (h:AZ w P T (pA g 19)) (k:AZ w g T' (yA F)) (hF:F.length=608):Ag 1 VT w (AB (some ⟨P,0,none⟩) 19 19) (chunks F 19):=by
 refine ⟨some ⟨P,0,none⟩,19,by simp [chunks],by simp [chunks],by decide,fun i x hi=> ?_⟩;have hil:i < 19:=by have:=(BD.1 hi).1;simpa [chunks] using this
 rw [chunks,Bb,Lp hil] at hi;simp only [Cl,Bu] at hi;have hxl:x.length=32:=by rw [<-hi,ER,JN];omega
 refine ⟨P,0,[AB (some ⟨g,i*32,none⟩) 32 32],rfl,h.lt,rfl,fun j u hu=> ?_,_,32,32,rfl,⟨some ⟨g,i*32,none⟩,32,by rw [hxl],by rw [hxl];omega,by decide,fun j y hj=> ?_⟩⟩
 ·rcases j with _ | j
  ·simp only [Al,Bu] at hu
   subst hu;have:=tI h hil;rw [Ao hil] at this;rw [Fc,Gs,EO];exact this
  · simp at hu
 have hjl:=(BD.1 hj).1;refine ⟨g,i*32,[AE Am y],rfl,k.lt,rfl,fun q u hu=> ?_,rfl⟩;rcases q with _ | q
 ·simp only [Al,Bu] at hu
  subst hu;rw [<-hi,Jl AG,EP] at hj;have:=Jr k (i:=i*32+j) AG;rw [Cv,hj] at this;rw [Gs,EO];exact this
 · simp at hu
theorem zb (W:AH):(Instr.makeSlice 179 (AE AF 19) (AE AF 19)).run prog W=.ok (AB (some ⟨W.heap.size,0,none⟩) 19 19) (W.alloc (AO (madeCells #[AB none 0 0] 19) 104)):=by
 have hinfo:(prog.info? 104).map (fun i=>(i.zero,i.size,decide (i.bytes<=100)))=some (some (AB none 0 0),1,true):=AJ
 obtain ⟨i,hi,hzz⟩:=Ds.1 hinfo;simp only [F7,B8] at hzz;obtain ⟨hz,hs,hb⟩:=hzz;have hr:=run_make (P:=prog) W 179 104 i (AB none 0 0) underlying179 hi hz .i64 .i64 19 19 AG AG AG AG;rw [hs] at hr;exact hr
theorem u9 (g:Nat):madeCells #[Value.slice none 0 0] 19=pA g 0:=by unfold pA;simp only [YJ,F5];kernel_rfl
theorem XE (F:AQ) (w:AH) (hF:F.length=608) (hT:Ca w):AS prog 131 #[AP (yA F)] w (Dl (Aw fV F) w):=by
 have HF:=AA hF;have HT:=AA hT;obtain ⟨D,hD⟩:=Ad (Aw fV F);have EM:AI (D.length=32):=AA UJ;have HC:AI (∀(A:Option Aa) (c:Nat) W,AK w W->Ag 1 Il W (AB A 608 c) F->AS prog 48 #[.string {data:=#[112,117,98,108,105,99]},AB A 608 c] W (Dl D W)):=AA (fun A c W hW hl=>by rw [hD];exact IF {data:=#[112,117,98,108,105,99]} A 608 c _ W Ah (HT.o.below hW) hl)
 have HJ:AI (∀(P:Nat) (W:AH),Ag 1 VT W (AB (some ⟨P,0,none⟩) 19 19) (chunks F 19)->AS prog 150 #[AB (some ⟨P,0,none⟩) 19 19] W (au F W)):=AA (fun P W h=>by
  have e:(chunks F 19).flatten=F:=by rw [Zb,Cu AG]
  have:=nE _ _ _ _ _ h (by rw [e];omega)
  rwa [e] at this)
 have Er:(prog.info? 34).map (·.size)=some 32:=AJ
 have HI:=AA Er;rw [<-hD];clear hD hF hT Er;go_enter func131,ntmps131;go_upto_region 1 with fail;have hq:=Iq (w.alloc (AO (yA F) 232)) 34;have kd:AZ (w.alloc (AO (yA F) 232)) w.heap.size 232 (yA F):=AZ.new _ _ _;have hb0:AK w (w.alloc (AO (yA F) 232)):=(Ae _ _).alloc (Ac _) _;have hs0:(w.alloc (AO (yA F) 232)).heap.size=w.heap.size+1:=AX
 generalize (w.alloc (AO (yA F) 232))=w0 at hq kd hb0 hs0 ⊢;rw [hs0] at hq;generalize (w0.alloc _)=wa at hq ⊢;obtain ⟨kr,hba,hza⟩:=hq;have hmk:=zb wa;have kp:AZ (wa.alloc (AO (madeCells #[AB none 0 0] 19) 104)) wa.heap.size 104 (pA w.heap.size 0):=by rw [<-u9 w.heap.size];exact AZ.new wa 104 (madeCells #[AB none 0 0] 19)
 have H0:=AA (hb0.trans (hba.mono AG));have KD:=AA ((kd.below hba AG).alloc (AO (madeCells #[AB none 0 0] 19) 104));have KR:=AA (kr.alloc (AO (madeCells #[AB none 0 0] 19) 104));have KP:=AA kp;have HZ:=AA hza;have HB:=AA (H0.o.alloc AG (AO (madeCells #[AB none 0 0] 19) 104));clear hs0 hb0 hba kd kr hza kp;go_wp2_with fail;clear hmk;go_loopg [6] 19 (fun q i wr=>∃k:Nat,k<=19/\q=19 - k/\i=AE AF k/\AZ wr w.heap.size 232 (yA F)/\AZ wr (w.heap.size+1) 34 (yA (zeros 32))/\AZ wr wa.heap.size 104 (pA w.heap.size k)/\AK w wr)
 case atStart=>exact ⟨0,Av _,rfl,rfl,KD.o,KR.o,KP.o,HB.o⟩
 clear KD KR KP HB;obtain ⟨k,hk,hq,rfl,h1,h2,h3,h4⟩:=hrel;have HQ:=AA hq;have KD:=AA h1;have KR:=AA h2;have KP:=AA h3;have HB:=AA h4;by_cases hlt:k < 19
 ·have hk0:=Int.natCast_nonneg k
  have hk1:(k:Int) < 19:=AG
  have c1:=tI h3 hlt;rw [Ai AG] at c1;have fz:=h3.frozen k;have hl1:=h1.lt;clear hq h1 h2 h3 h4;go_wp2_with fail;go_roundg (19 - (k+1))
  case measure=>exact BS
  case rel=>exact ⟨k+1,by omega,rfl,by go_num,KD.o.far (by show w.heap.size≠wa.heap.size;have:=HZ.o;omega) _,KR.o.far (by show w.heap.size+1≠wa.heap.size;have:=HZ.o;omega) _,AE2 KP.o hlt,HB.o.setCell (by show w.heap.size<=wa.heap.size;have:=HZ.o;omega) _⟩
 have h19:k=19:=AG
 subst h19;have HS:=AA (wB h3 h1 HF.o);clear hq h1 h2 h3 h4;go_wp2_with (first
  | (
   go_at_call 150;refine (HJ.o _ _ HS.o).mono ?_;rintro e w2 ⟨v,rfl,ho,hb⟩;rw [HF.o] at ho;obtain ⟨g,c,rfl,hs3⟩:=Uh ho (Nat.succ_pos _) HF.o.symm;have J6:=AA hs3;have NJ:=AA (KR.o.below hb KR.o.lt);have HB2:=AA (AV HB.o hb);clear hs3 ho hb)
  | (
   go_at_call 48;refine (HC.o _ c _ HB2.o J6.o).mono ?_;rintro e w3 ⟨rfl,hb⟩;have Qm:=AA (NJ.o.below hb NJ.o.lt);have HB3:=AA (AV HB2.o hb);clear hb)
  | (refine DM rfl 34 (AY 2) (AY 18) rfl (w.heap.size+1) D rfl rfl 34 _ Qm.o HI.o DU EM.o ?_;intro w4 k4 hb4))
 exact xq
def iA (l:AQ):Array AN:=(l.map (Value.int .i64)).toArray
theorem tQ {w:AH} {g:Nat} {t:Af} {l:AQ} (h:AZ w g t (iA l)) {i:Nat} (hi:i < l.length):w.cell? ⟨g,i,none⟩=some (AE AF (l.getD i 0)):=by rw [h.cell,iA,Ak,Bb,Cv,BJ hi];rfl
theorem AAG {w:AH} {g:Nat} {t:Af} {l:AQ} (h:AZ w g t (iA l)) (i:Nat) (x:Int):AZ (w.setCell ⟨g,i,none⟩ (AE AF x)) g t (iA (l.set i x)):=by
 have:=h.put i (AE AF x)
 rwa [iA,Lr,<-Q8] at this
theorem tP (l:AQ):(iA l).size=l.length:=by simp [iA]
theorem AEZ (l:AQ):(iA l).all (·.oneCell')=true:=by
 refine dw.2 (fun v hv=> ?_);have hv:v∈l.map (Value.int .i64):=by simpa [iA] using hv
 obtain ⟨_,_,rfl⟩:=Dd.1 hv;rfl
def Xi (m:AQ):Nat->AQ
 | 0=>zeros 19
 | k+1=>(Xi m k).set k (NW m k)
def aV (m:AQ):Nat->AQ
 | 0=>Xi m 16
 | c+1=>(aV m c).set (18 - c) (sumP m 16 / 4 ^ c % 4)
theorem oM (m:AQ) (k:Nat):(Xi m k).length=19:=by
 induction k with
 | zero=>simp [Xi,zeros]
 | succ k ih=>rw [Xi,FM,ih]
theorem ACe (m:AQ) (k:Nat):(aV m k).length=19:=by
 induction k with
 | zero=>exact oM m 16
 | succ k ih=>rw [aV,FM,ih]
theorem vm (m:AQ):aV m 3=Ea m:=by simp [aV,Xi,zeros,Ea,List.range_succ,List.replicate]
theorem ly (m:AQ):∀n,0<=sumP m n/\sumP m n<=3*n
 | 0=>by simp [sumP]
 |
  n+1=>by
  have:=ly m n;have:=Vq m n;rw [sumP];omega
theorem AH2 (v:Nat) (h:v < 256):bits BinOp.and IntKind.i64 (v:Int) 3=((v % 4:Nat):Int):=by
 have hall:(List.range 256).all (fun v=>decide (bits BinOp.and IntKind.i64 (v:Int) 3=((v % 4:Nat):Int)))=true:=AJ
 exact F8 (De.1 hall v (Ed.2 h))
theorem AD5 (x:Nat) (k:Nat):x / 2 ^ (6 - 2*(k % 4)) % 4=x / 4 ^ (3 - k % 4) % 4:=by
 have h:(4:Nat) ^ (3 - k % 4)=2 ^ (6 - 2*(k % 4)):=by rw [show (4:Nat)=2 ^ 2 from rfl,<-Nat.pow_mul];congr 1;omega
 rw [h]
def wR (l:AQ) (w:AH) (e:Ending) (w':AH):Prop:=e=AU (AP (iA l))/\AK w w'
theorem AGy {P:BA} {fn:Func} {a:Act} {p:Tmp} {ty:Af} {t:Af} {ds:TypeDesc} {l:AQ} {g:Nat} {w0 w:AH} {x:Exit} (hx:x=.ret\/x=.normal) (h:fn.results=#[.cell p ty]) (hp:a.tmps.getD p undef=AW (some ⟨g,0,none⟩)) (hdf:a.defers=[]) (hg:AZ w g t (iA l)) (hu:P.underlying ty=some ds) (hds:(match ds with | .struct _ | .array _ _=>true | _=>false)=true) (hi:(P.info? ty).map (·.size)=some l.length) (hb:AK w0 w):
 bodyPost P fn (wR l w0) x a w:=by
 have hr:=N5 (P:=P) h a.tmps w g t (iA l) (0,0) ds hp hg hu hds (by rw [tP];exact hi);rcases hx with rfl | rfl
 · exact km
 · exact kj
theorem AHP (w:AH) (t:Af):AZ (w.alloc (AO #[AE AF 0,AE AF 0,AE AF 0,AE AF 0,AE AF 0,AE AF 0,AE AF 0,AE AF 0,AE AF 0,AE AF 0,AE AF 0,AE AF 0,AE AF 0,AE AF 0,AE AF 0,AE AF 0,AE AF 0,AE AF 0,AE AF 0] t)) w.heap.size t (iA (zeros 19))/\AK w (w.alloc (AO #[AE AF 0,AE AF 0,AE AF 0,AE AF 0,AE AF 0,AE AF 0,AE AF 0,AE AF 0,AE AF 0,AE AF 0,AE AF 0,AE AF 0,AE AF 0,AE AF 0,AE AF 0,AE AF 0,AE AF 0,AE AF 0,AE AF 0] t))/\(w.alloc (AO #[AE AF 0,AE AF 0,AE AF 0,AE AF 0,AE AF 0,AE AF 0,AE AF 0,AE AF 0,AE AF 0,AE AF 0,AE AF 0,AE AF 0,AE AF 0,AE AF 0,AE AF 0,AE AF 0,AE AF 0,AE AF 0,AE AF 0] t)).heap.size=w.heap.size+1:=
 ⟨AZ.new _ _ _,(Ae _ _).alloc (Ac _) _,by simp⟩
theorem bV {x:Int} (h1: -9223372036854775808<=x) (h2:x<=9223372036854775807):wrap64 x=x:=RD x ⟨h1,h2⟩
theorem AEd {m:AQ} {k x:Nat} (h:m.getD (k / 4) 0=(x:Int)) (hx:x < 256):bits BinOp.and IntKind.i64 (wrap64 ((x:Int) / 2 ^ (6 - 2*(k % 4)))) 3=NW m k:=by
 have e:((x:Int) / 2 ^ (6 - 2*(k % 4)))=((x / 2 ^ (6 - 2*(k % 4)):Nat):Int):=by norm_cast
 have hle:x / 2 ^ (6 - 2*(k % 4))<=x:=Nat.div_le_self _ _;rw [NW,h];have e2:=AD5 x k;obtain ⟨y,hy⟩:=Ad (x / 2 ^ (6 - 2*(k % 4)));rw [<-hy] at hle e2;rw [e,<-hy,bV AG AG,AH2 _ AG,e2]
 norm_cast
theorem iV (m:AQ) (w:AH) (hm:m.length=32) (hr:∀x∈m,0<=x/\x < 256):AS prog 98 #[AP (yA m)] w (wR (Ea m) w):=by
 have HM:=AA hm;have HR:=AA hr;obtain ⟨S,hS⟩:=Ad (Ea m);have HS:=AA hS;rw [<-hS];clear hm hr hS;go_enter func98,ntmps98;go_upto_region 1 with fail;have hq:=AHP (w.alloc (AO (yA m) 34)) 189;have kd:AZ (w.alloc (AO (yA m) 34)) w.heap.size 34 (yA m):=AZ.new _ _ _;have hb0:AK w (w.alloc (AO (yA m) 34)):=(Ae _ _).alloc (Ac _) _;have hs0:(w.alloc (AO (yA m) 34)).heap.size=w.heap.size+1:=AX
 generalize (w.alloc (AO (yA m) 34))=w0 at hq kd hb0 hs0 ⊢;rw [hs0] at hq;generalize (w0.alloc _)=wa at hq ⊢;obtain ⟨kr,hba,hza⟩:=hq;have KD:=AA (kd.below hba AG);have KR:=AA kr;have H0:=AA (hb0.trans (hba.mono AG));clear hs0 hb0 hba kd kr hza;go_wp2_with fail;go_loopg [3,6] 16 (fun q s i wr=>∃k:Nat,k<=16/\q=16 - k/\i=AE AF k/\s=AE AF (sumP m k)/\AZ wr w.heap.size 34 (yA m)/\AZ wr (w.heap.size+1) 189 (iA (Xi m k))/\AK w wr)
 case atStart=>exact ⟨0,Av _,rfl,rfl,rfl,KD.o,KR.o,H0.o⟩
 clear KD KR H0;obtain ⟨k,hk,hq,rfl,hs,h1,h2,h3⟩:=hrel;have hsr:=ly m k;obtain ⟨t,ht⟩:=Ad (sumP m k);rw [<-ht] at hs hsr;subst hs;have O8:=AA ht;have HQ:=AA hq;have KD:=AA h1;have KR:=AA h2;have HB:=AA h3;clear hq h1 h2 h3 ht;by_cases hlt:k < 16
 ·have hk0:=Int.natCast_nonneg k
  have hk1:(k:Int) < 16:=AG
  have hk2:(k:Int) < 19:=AG
  obtain ⟨x,hx⟩:∃x:Nat,m.getD (k / 4) 0=(x:Int)/\x < 256:=by
   have hmm:m.getD (k / 4) 0∈m:=by rw [Cv,BJ (by have:=HM.o;omega)];exact Tm _
   have:=HR.o _ hmm;exact ⟨(m.getD (k / 4) 0).toNat,by omega,by omega⟩
  have c1:=Jr KD.o (i:=k / 4) (by have:=HM.o;omega);rw [hx.1] at c1;have c2:=tQ KR.o (i:=k) (by rw [oM];omega);have fz:=KR.o.frozen k;have hq0:(0:Int)<=(k:Int) / 4:=AG
  have hq1:(k:Int) / 4 < 32:=AG
  have hr0:(0:Int)<=6 - 2*((k:Int) % 4):=AG
  have hr1:(6 - 2*((k:Int) % 4)).toNat=6 - 2*(k % 4):=AG
  have HX:=AA hx;have Ml:=AA hlt;clear hx hlt;go_wp2_with fail;go_roundg (16 - (k+1))
  case measure=>have:=HQ.o;exact QH
  have hlt:=Ml.o;have hv:bits BinOp.and IntKind.i64 (wrap64 ((x:Int) / 2 ^ (6 - 2*(k % 4)))) 3=NW m k:=AEd HX.o.1 HX.o.2;rw [hv];have hd:=Vq m k;refine ⟨k+1,by omega,rfl,by go_num,?_,KD.o.far rO _,?_,HB.o.setCell eV _⟩
  ·rw [sumP,<-O8.o]
   congr 1;rw [bV (x:=3 - NW m k) AG AG,bV AG AG]
  rw [Xi];exact AAG KR.o k _
 have h16:k=16:=AG
 subst h16;go_wp2_with fail;go_loopg [3,5] 3 (fun q s i wr=>∃c u:Nat,c<=3/\q=3 - c/\i=AE AF ((18 - c:Nat):Int)/\s=AE AF u/\(u:Int)=t / 4 ^ c/\u<=48/\AZ wr (w.heap.size+1) 189 (iA (aV m c))/\AK w wr)
 case atStart=>exact ⟨0,t.toNat,by omega,rfl,rfl,by rw [YQ hsr.1],by rw [YQ hsr.1];simp,by omega,KR.o,HB.o⟩
 clear KR HB KD;obtain ⟨c,u,hc,hq,rfl,rfl,hu,hu2,h2,h3⟩:=hrel;have Io:=AA hq;have KR:=AA h2;have HB:=AA h3;have HU:=AA hu;obtain ⟨j,hj⟩:=Ad (18 - c);rw [<-hj];have HJ:=AA hj;clear hq h2 h3 hu;by_cases hlt:c < 3
 ·have hj1:(16:Int)<=(j:Int):=by omega
  have hj2:(j:Int) < 19:=AG
  have hj0:(0:Int)<=(j:Int):=AG
  have c2:=tQ KR.o (i:=j) (by rw [ACe];omega);have fz:=KR.o.frozen j;have Ml:=AA hlt;clear hj hlt;go_wp2_with fail;go_roundg (3 - (c+1))
  case measure=>have:=Io.o;exact QH
  have hlt:=Ml.o;have hj:=HJ.o;refine ⟨c+1,u / 4,by omega,rfl,by congr 1;omega,by norm_cast,?_,by omega,?_,HB.o.setCell eV _⟩
  ·rw [Int.pow_succ,<-Int.ediv_ediv_of_nonneg (Int.pow_nonneg AG),<-HU.o]
   norm_cast
  rw [aV,<-O8.o,<-hj,<-HU.o];exact AAG KR.o j _
 have h3:c=3:=AG
 subst h3;have AHi:j=15:=AG
 subst AHi;have KF:=KR.o;rw [vm,<-HS.o] at KF;have HKF:=AA KF;have HSL:AI (S.length=19):=AA (by rw [HS.o];exact Oc m);have ADh:(prog.info? 189).map (·.size)=some 19:=AJ
 have HI:=AA ADh;clear hj hlt ADh KF;go_wp2_with (first
  | (refine Bv rfl 189 (AY 2) rfl (w.heap.size+1) rfl 189 (iA S) (0,0) _ HKF.o underlying189 rfl rB ?_)
  | (refine YM rfl 189 (AY 2) (AY 39) rfl (w.heap.size+1) (iA S) rfl rfl 189 (iA S) HKF.o rB rfl (AEZ _) ?_))
 exact AGy (.inl rfl) rfl rfl rfl (HKF.o.row _) underlying189 rfl (by rw [HSL.o];exact HI.o) (below_setRow HB.o (Ff _) _)
end Go.Proofs.YtamhoilkpppdbaaGreatDoor
