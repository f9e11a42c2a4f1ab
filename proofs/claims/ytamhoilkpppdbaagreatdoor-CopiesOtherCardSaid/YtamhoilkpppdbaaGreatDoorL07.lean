import Derived.Test.YtamhoilkpppdbaaGreatDoorL00
namespace Go.Proofs.YtamhoilkpppdbaaGreatDoor
set_option maxHeartbeats 8000000
set_option maxRecDepth 100000
open Go renaming World→AH, Value→AN, Calls→AS, TypeId→Ae, Program→BE, Addr→Aa
open Go.RowKit renaming Below→BL
open Go.Proofs.Tryz
open Go.Value renaming slice→AA, int→AB, pointer→AU, bool→Ab, agg→AP, tuple→BU
open Go.IntKind renaming i64→AE, u8→Am
open Go.Ending renaming returned→AW
open Go.Obj renaming cells→AO
open Go.Operand renaming tmp→AX
abbrev Dg:=AQ
def Bn (n:Nat):Nat:=2 ^ Nat.log2 (n - 1)
theorem Ib {n:Nat} (h:2<=n):Bn n < n:=by have:=Nat.log2_self_le (n:=n - 1) AG;unfold Bn;omega
theorem Gj (n:Nat):1<=Bn n:=Nat.one_le_two_pow
structure Hs where
 tag:AQ->AQ->Dg
section
variable (H:AQ->AQ->Dg)
def eE:AQ:=[108,101,97,102]
def AJt:AQ:=[110,111,100,101]
def AId:AQ:=[101,109,112,116,121]
def stepT:AQ:=[115,116,101,112]
def AG9:AQ:=[99,104,97,105,110]
def iT:AQ:=[112,117,98,108,105,99]
def O6 (a b:Dg):Dg:=H AJt (a++b)
def FF (l:List Dg):Dg:=
 match l with
 | []=>H AId []
 | [x]=>H eE x
 | x::y::r=>O6 H (FF ((x::y::r).take (Bn (r.length+2)))) (FF ((x::y::r).drop (Bn (r.length+2))))
termination_by l.length
decreasing_by
 · have:=Ib (n:=r.length+2) AG;simp only [Df,F6];omega
 · have:=Gj (r.length+2);simp only [IQ,F6];omega
def GD (l:List Dg) (k:Nat):List Dg:=
 if _h:l.length<=1 then []
 else if k < Bn l.length then GD (l.take (Bn l.length)) k++[FF H (l.drop (Bn l.length))]
 else GD (l.drop (Bn l.length)) (k - Bn l.length)++[FF H (l.take (Bn l.length))]
termination_by l.length
decreasing_by
 · have:=Ib (n:=l.length) AG;simp only [Df];omega
 · have:=Gj l.length;simp only [IQ];omega
def Hi (k n:Nat):List Bool:=
 if _h:n<=1 then [] else if Bn n<=k then true::Hi (k - Bn n) (n - Bn n) else false::Hi k (Bn n)
termination_by n
decreasing_by
 · have:=Gj n;omega
 · exact Ib AG
def VC:List (Dg×Bool)->Dg->Dg
 | [],r=>r
 | (p,true)::l,r=>VC l (O6 H p r)
 | (p,false)::l,r=>VC l (O6 H r p)
theorem V1 (a b:List (Dg×Bool)) (r:Dg):VC H (a++b) r=VC H b (VC H a r):=by
 induction a generalizing r with
 | nil=>rfl
 |
  cons x a ih=>
  obtain ⟨p,v⟩:=x;cases v <;> exact ih _
def I6 (d:Dg) (k n:Nat) (path:List Dg):Option Dg:=
 if path.length=(Hi k n).length then some (VC H (path.zip (Hi k n).reverse) (H eE d)) else none
theorem jb {l:List Dg} (h:2<=l.length):FF H l=O6 H (FF H (l.take (Bn l.length))) (FF H (l.drop (Bn l.length))):=by
 match l,h with
 | x::y::r,_=>rw [FF];rfl
theorem jd:∀(m:Nat) (l:List Dg) (k:Nat),l.length<=m->(GD H l k).length=(Hi k l.length).length:=by
 intro m
 induction m with
 | zero=>intro l k h;rw [GD,Hi,Hd AG,Hd AG];rfl
 |
  succ m ih=>
  intro l k h;rw [GD,Hi];by_cases h1:l.length<=1
  · rw [Hd h1,Hd h1];rfl
  have hlt:=Ib (n:=l.length) AG;have hp:=Gj l.length;rw [MR h1,MR h1];by_cases hk:k < Bn l.length
  · rw [Ak hk,Ah AG,CX,ih _ _ Ql,Df,NE AG];rfl
  · rw [Ah hk,Ak AG,CX,ih _ _ U5,IQ];rfl
theorem tM:∀(m:Nat) (l:List Dg) (k:Nat) (d:Dg),l.length<=m->l[k]? =some d->VC H ((GD H l k).zip (Hi k l.length).reverse) (H eE d)=FF H l:=by
 intro m
 induction m with
 | zero=>intro l k d h hk;have:=(BF.1 hk).1;omega
 |
  succ m ih=>
  intro l k d h hk;rw [GD,Hi];by_cases h1:l.length<=1
  ·rw [Hd h1,Hd h1]
   have hl:=(BF.1 hk).1
   match l,h1,hk with
   |
    [x],_,hk=>
    have:k=0:=by simp at hl;exact hl
    subst this;simp only [Ao,Bz] at hk;rw [hk,FF];rfl
   | [],_,_=>simp at hl
  have hlt:=Ib (n:=l.length) AG;have hp:=Gj l.length;rw [MR h1,MR h1];by_cases hkk:k < Bn l.length
  ·have e:(l.take (Bn l.length)).length=Bn l.length:=by rw [Df];omega
   rw [Ak hkk,Ah AG,List.reverse_cons,List.zip_append ua,V1];have:=ih (l.take (Bn l.length)) k d AG (by rw [Jg hkk];exact hk);exact AA0
  have e:(l.drop (Bn l.length)).length=l.length - Bn l.length:=IQ;rw [Ah hkk,Ak AG,List.reverse_cons,List.zip_append ua,V1];have:=ih (l.drop (Bn l.length)) (k - Bn l.length) d AG (by rw [EO,show Bn l.length+(k - Bn l.length)=k by omega];exact hk);exact AA0
theorem jA {l:List Dg} {k:Nat} {d:Dg} (hk:l[k]? =some d):I6 H d k l.length (GD H l k)=some (FF H l):=by rw [I6,Ak (jd H _ _ _ (Ac _)),tM H _ _ _ _ (Ac _) hk]
def DI (x:Dg):Nat->Dg
 | 0=>x
 | n+1=>DI (H stepT x) n
theorem em (x:Dg) (a b:Nat):DI H (DI H x a) b=DI H x (a+b):=by
 induction a generalizing x with
 | zero=>simp [DI]
 | succ a ih=>rw [Nat.succ_add,DI,ih,DI]
def IE (seed:Dg) (i:Nat):Dg:=H AG9 (seed++[(i:Int)])
def JX (l:List Dg):Dg:=H iT l.flatten
def JE (seed:Dg):Dg:=JX H ((List.range 19).map fun i=>DI H (IE H seed i) 3)
def Ns (m:Dg) (i:Nat):Int:=(m.getD (i / 4) 0) / (4:Int) ^ (3 - i % 4) % 4
def sumP (m:Dg):Nat->Int
 | 0=>0
 | n+1=>sumP m n+(3 - Ns m n)
def En (m:Dg):AQ:=(List.range 16).map (Ns m)++[sumP m 16 / 16 % 4,sumP m 16 / 4 % 4,sumP m 16 % 4]
theorem WS (m:Dg) (i:Nat):0<=Ns m i/\Ns m i<=3:=by unfold Ns;omega
theorem dU {m:Dg}:∀x∈En m,0<=x/\x<=3:=by
 intro x hx;rcases Ka.1 hx with h | h
 ·obtain ⟨i,_,rfl⟩:=Dr.1 h
  exact WS m i
 simp only [B0,DX,DW] at h;rcases h with rfl | rfl | rfl <;> omega
theorem Oz (m:Dg):(En m).length=19:=by simp [En]
def Ld (seed m:Dg):List Dg:=(List.range 19).map fun i=>DI H (IE H seed i) ((En m).getD i 0).toNat
def IC (m:Dg) (s:List Dg):Dg:=JX H ((List.range 19).map fun i=>DI H (s.getD i []) (3 - (En m).getD i 0).toNat)
theorem tN (seed m:Dg):(Ld H seed m).length=19:=by simp [Ld]
theorem y6 (seed m:Dg):IC H m (Ld H seed m)=JE H seed:=by
 unfold IC JE;congr 1;apply List.map_congr_left;intro i hi;have hi':i < 19:=Eu.1 hi;have h1:(Ld H seed m).getD i []=DI H (IE H seed i) ((En m).getD i 0).toNat:=by rw [Ck,Ld,Bg,MV hi'];rfl
 have h2:0<=(En m).getD i 0/\(En m).getD i 0<=3:=by rw [Ck,BN (by rw [Oz];exact hi')];exact dU _ (Um _)
 rw [h1,em];congr 1;omega
structure Cn where
 index:Int
 chains:List Dg
 path:List Dg
deriving DecidableEq
def bytes4 (n:Nat):AQ:=[((n / 16777216 % 256:Nat):Int),((n / 65536 % 256:Nat):Int),((n / 256 % 256:Nat):Int),((n % 256:Nat):Int)]
def Lv (seed:Dg) (k:Nat):Dg:=H eE (seed++bytes4 k)
def Dp (seed:Dg) (many:Nat):List Dg:=(List.range many).map fun k=>JE H (Lv H seed k)
def O2 (seed:Dg) (many:Nat):Dg:=FF H (Dp H seed many)
def Lu (seed:Dg) (l:List Dg) (k:Nat) (m:Dg):Cn:=⟨(k:Int),Ld H (Lv H seed k) m,GD H l k⟩
def Fi (root:Dg) (many:Int) (m:Dg) (s:Cn):Bool:=
 decide (1<=many) && decide (many<=256) && decide (0<=s.index) && decide (s.index < many) && decide (s.chains.length=19) && decide (I6 H (IC H m s.chains) s.index.toNat many.toNat s.path=some root)
theorem Sl (seed:Dg) (many:Nat):(Dp H seed many).length=many:=by simp [Dp]
theorem rv (seed:Dg) (many k:Nat) (m:Dg) (h:many<=256) (hk:k < many):Fi H (O2 H seed many) many m (Lu H seed (Dp H seed many) k m)=true:=by
 have hp:(Dp H seed many)[k]? =some (JE H (Lv H seed k)):=by rw [Dp,Bg,MV hk];rfl
 have hc:=jA H hp;rw [Sl] at hc;have h1:decide ((Lu H seed (Dp H seed many) k m).chains.length=19)=true:=Bk (tN H _ _);have h2:decide (I6 H (IC H m (Lu H seed (Dp H seed many) k m).chains) (Lu H seed (Dp H seed many) k m).index.toNat (many:Int).toNat (Lu H seed (Dp H seed many) k m).path=some (O2 H seed many))=true:=Bk (by show I6 H (IC H m (Ld H (Lv H seed k) m)) ((k:Int)).toNat (many:Int).toNat (GD H (Dp H seed many) k)=some (O2 H seed many);rw [y6,Cq,Cq];exact hc)
 rw [Fi,h1,h2];have e:(Lu H seed (Dp H seed many) k m).index=k:=rfl;rw [e];simp only [Bb,By,and_true];omega
end
open Go.RowKit
def AHT (x:Int) (s:Nat):Int:=bits .or .u32 (x*2 ^ s % 4294967296) (x / 2 ^ (32 - s))
theorem AGZ (k:Int) (s:Nat) (hs:bits BinOp.and IntKind.u64 (IntKind.u64.wrap k) 31=(s:Int)) (h0:s < 32) (x:Int) (w:AH):AS prog 139 #[AB .u32 x,AB AE k] w fun e w'=>e=AW (AB .u32 (AHT x s))/\w=w':=by
 have h1:IntKind.u64.wrap (32 - (s:Int))=((32 - s:Nat):Int):=by rw [show (32 - (s:Int))=((32 - s:Nat):Int) by omega];simp [IntKind.wrap,IntKind.bits,IntKind.signed];omega
 have h2:(0:Int)<=s:=AG
 go_enter func139,ntmps139;go_wp2;go_ret;exact ⟨rfl,rfl⟩
def rt (x k:Int):Int:=AHT x (bits BinOp.and IntKind.u64 (IntKind.u64.wrap k) 31).toNat
def AHS (k:Int):Bool:=decide (bits BinOp.and IntKind.u64 (IntKind.u64.wrap k) 31=((bits BinOp.and IntKind.u64 (IntKind.u64.wrap k) 31).toNat:Int)) && decide ((bits BinOp.and IntKind.u64 (IntKind.u64.wrap k) 31).toNat < 32)
theorem oY (k:Int) (h:AHS k=true) (x:Int) (w:AH):AS prog 139 #[AB .u32 x,AB AE k] w fun e w'=>e=AW (AB .u32 (rt x k))/\w=w':=by simp only [AHS,Bb,By] at h;exact AGZ k _ h.1 h.2 x w
instance AL7 {p:Prop} {q:p->Prop} [Decidable p] [∀h,Decidable (q h)]:Decidable (∀h,q h):=if h:p then (if hq:q h then isTrue fun _=>hq else isFalse fun f=>hq (f h)) else isTrue fun g=>absurd g h
def bM (x:Nat):Int:=if x=0 then 0 else (Nat.log2 x+1:Nat)
theorem tB (x:Nat) (hx:x < 256) (w:AH):AS prog 133 #[AB .u64 x] w fun e w'=>e=AW (AB AE (bM x))/\w=w':=by
 have h1:decide ((4294967296:Int)<=(x:Int))=false:=BS AG;have h2:decide ((65536:Int)<=(x:Int))=false:=BS AG;have h3:decide ((256:Int)<=(x:Int))=false:=BS AG;go_enter func133,ntmps133;go_wp2;go_ret;refine ⟨DG ?_,rfl⟩
 rename_i h
 clear h1 h2 h3;revert h;revert hx;revert x;decide +kernel
theorem tQ (x:Nat) (hx:x < 256) (w:AH):AS prog 86 #[AB .u64 x] w fun e w'=>e=AW (AB AE (bM x))/\w=w':=by obtain ⟨y,hy⟩:=Ad (bM x);have HL:AI (∀W,AS prog 133 #[AB .u64 x] W fun e w'=>e=AW (AB AE y)/\W=w'):=AF (fun W=>by rw [hy];exact tB x hx W);rw [<-hy];clear hy;go_enter func86,ntmps86;go_wp2_with (go_at_call 133;refine (HL.o _).mono ?_;rintro e w' ⟨rfl,rfl⟩);go_ret;exact ⟨rfl,rfl⟩
theorem WO (n:Nat) (h2:2<=n) (hn:n<=256) (w:AH):AS prog 62 #[AB AE n] w fun e w'=>e=AW (AB AE (Bn n:Nat))/\w=w':=by
 obtain ⟨x,rfl⟩:∃x,n=x+1:=⟨n - 1,by omega⟩;have e1:((x+1:Nat):Int) - 1=(x:Int):=AG
 have e2:bM x - 1=(Nat.log2 x:Nat):=by unfold bM;rw [Ah AG];omega
 have hl:Nat.log2 x < 8:=(Nat.log2_lt AG).2 AG;obtain ⟨y,hy⟩:=Ad (bM x);obtain ⟨g,hg⟩:=Ad (Nat.log2 x);have HL:AI (∀W,AS prog 86 #[AB .u64 x] W fun e w'=>e=AW (AB AE ((g:Int)+1))/\W=w'):=AF (fun W=>by
  have:=tQ x AG W
  rwa [show bM x=(g:Int)+1 by omega] at this)
 have HE:AI (Bn (x+1)=2 ^ g):=AF (by unfold Bn;rw [hg];rfl);rw [<-hg] at hl;have hx0:(0:Int)<=(x:Int):=AG
 have hx1:(x:Int)<=255:=AG
 have hg0:(0:Int)<=(g:Int):=AG
 have hg1:(g:Int)<=7:=AG
 clear e2 hy hg hl h2 hn;go_enter func62,ntmps62;go_wp2_with (go_at_call 86;refine (HL.o _).mono ?_;rintro e w' ⟨rfl,rfl⟩);go_ret;refine ⟨DG ?_,rfl⟩;rw [HE.o];have hg:g=0\/g=1\/g=2\/g=3\/g=4\/g=5\/g=6\/g=7:=AG
 rcases hg with rfl | rfl | rfl | rfl | rfl | rfl | rfl | rfl <;> decide +kernel
def uA (l:AQ):Array AN:=(l.map (Value.int .u32)).toArray
theorem MW {w:AH} {g:Nat} {t:Ae} {l:AQ} (h:AY w g t (uA l)) {i:Nat} (hi:i < l.length):w.cell? ⟨g,i,none⟩=some (AB .u32 (l.getD i 0)):=by rw [h.cell,uA,Aj,Bg,Ck,BN hi];rfl
theorem dQ {w:AH} {g:Nat} {t:Ae} {l:AQ} (h:AY w g t (uA l)) (i:Nat) (x:Int):AY (w.setCell ⟨g,i,none⟩ (AB .u32 x)) g t (uA (l.set i x)):=by
 have:=h.put i (AB .u32 x)
 rwa [uA,Kf,<-R0] at this
def ia:AQ:=[1116352408,1899447441,3049323471,3921009573,961987163,1508970993,2453635748,2870763221,3624381080,310598401,607225278,1426881987,1925078388,2162078206,2614888103,3248222580,3835390401,4022224774,264347078,604807628,770255983,1249150122,1555081692,1996064986,2554220882,2821834349,2952996808,3210313671,3336571891,3584528711,113926993,338241895,666307205,773529912,1294757372,1396182291,1695183700,1986661051,2177026350,2456956037,2730485921,2820302411,3259730800,3345764771,3516065817,3600352804,4094571909,275423344,430227734,506948616,659060556,883997877,958139571,1322822218,1537002063,1747873779,1955562222,2024104815,2227730452,2361852424,2428436474,2756734187,3204031479,3329325298]
def Cc (w:AH):Prop:=0 < w.heap.size/\∀t,t < 64->w.cell? ⟨0,t,none⟩=some (AB .u32 (ia[t]?.getD 0))
theorem Cc.below {w w':AH} (h:Cc w) (hb:AK w w'):Cc w':=⟨Av h.1 hb.size,fun t ht=>(hb.cell (p:=⟨0,t,none⟩) h.1).trans (h.2 t ht)⟩
def zeros (n:Nat):AQ:=List.replicate n 0
def AFz (blk w:AQ) (t i:Nat):AQ:=w.set t (bits .or .u32 (w[t]?.getD 0*256 % 4294967296) (blk[4*t+i]?.getD 0 % 4294967296))
def rowP (blk w:AQ) (t:Nat):Nat->AQ
 | 0=>w
 | i+1=>AFz blk (rowP blk w t i) t i
def VB (blk:AQ):Nat->AQ
 | 0=>zeros 64
 | t+1=>rowP blk (VB blk t) t 4
def sg0 (x:Int):Int:=bits .xor .u32 (bits .xor .u32 (rt x (-7)) (rt x (-18))) (x / 8)
def sg1 (y:Int):Int:=bits .xor .u32 (bits .xor .u32 (rt y (-17)) (rt y (-19))) (y / 1024)
def ABG (w:AQ) (j:Nat):AQ:=w.set (16+j) ((w[j]?.getD 0+sg0 (w[16+j - 15]?.getD 0)+w[16+j - 7]?.getD 0+sg1 (w[16+j - 2]?.getD 0)) % 4294967296)
def dM (blk:AQ):Nat->AQ
 | 0=>VB blk 16
 | j+1=>ABG (dM blk j) j
def sgA (a:Int):Int:=bits .xor .u32 (bits .xor .u32 (rt a (-2)) (rt a (-13))) (rt a (-22))
def sgE (e:Int):Int:=bits .xor .u32 (bits .xor .u32 (rt e (-6)) (rt e (-11))) (rt e (-25))
def chU (e f g:Int):Int:=bits .xor .u32 (bits .and .u32 e f) (bits .and .u32 (bits .xor .u32 IntKind.u32.max e) g)
def mjU (a b c:Int):Int:=bits .xor .u32 (bits .xor .u32 (bits .and .u32 a b) (bits .and .u32 a c)) (bits .and .u32 b c)
def AHU (kt wt:Int):AQ->AQ
 | [a,b,c,d,e,f,g,h]=>[(h+sgE e+chU e f g+kt+wt+(sgA a+mjU a b c)) % 4294967296,a,b,c,(d+(h+sgE e+chU e f g+kt+wt)) % 4294967296,e,f,g]
 | l=>l
def r3P (w v:AQ):Nat->AQ
 | 0=>v
 | t+1=>AHU (ia[t]?.getD 0) (w[t]?.getD 0) (r3P w v t)
def Ya (hs v:AQ):Nat->AQ
 | 0=>hs
 | k+1=>(Ya hs v k).set k (((Ya hs v k)[k]?.getD 0+v[k]?.getD 0) % 4294967296)
def absP (hs blk:AQ):AQ:=Ya hs (r3P (dM blk 48) hs 64) 8
theorem OJ (hs v:AQ) (k:Nat):(Ya hs v k).length=hs.length:=by
 induction k with
 | zero=>rfl
 | succ k ih=>rw [Ya,D7,ih]
theorem Lc {w w':AH} (h:AK w w') (row:Option Nat):w.grownBy w' row:=⟨h.os,h.tape,h.output,h.size,fun i hi _=>h.block i hi⟩
theorem oZ (blk w:AQ) (t i:Nat):(rowP blk w t i).length=w.length:=by
 induction i with
 | zero=>rfl
 | succ i ih=>rw [rowP,AFz,D7,ih]
theorem ux (blk:AQ) (t:Nat):(VB blk t).length=64:=by
 induction t with
 | zero=>simp [VB,zeros]
 | succ t ih=>rw [VB,oZ,ih]
theorem uw (blk:AQ) (t:Nat):(dM blk t).length=64:=by
 induction t with
 | zero=>exact ux _ _
 | succ t ih=>rw [dM,ABG,D7,ih]
theorem ep (hb b off n c:Nat) (hs blk:AQ) (w:AH) (hT:Cc w) (hl:hs.length=8) (hh:AY w hb 182 (uA hs)) (hn:64<=n) (hnn:n<=maxLen) (hbl:b < w.heap.size) (hcells:∀i,i < 64->w.cell? ⟨b,off+i,none⟩=some (AB Am (blk.getD i 0))):
 AS prog 95 #[AU (some ⟨hb,0,none⟩),AA (some ⟨b,off,none⟩) n c] w fun e w'=>e=AW (BU #[])/\w.grownBy w' (some hb)/\AY w' hb 182 (uA (absP hs blk)):=by
 have h0:AY (w.alloc (AO (uA (zeros 64)) 241)) w.heap.size 241 (uA (zeros 64)):=AY.new _ _ _;have h1:AK w (w.alloc (AO (uA (zeros 64)) 241)):=(Af _ _).alloc (Ac _) _;have hz:uA (zeros 64)=(List.replicate 64 (Value.int .u32 0)).toArray:=by simp [uA,zeros]
 rw [hz] at h0 h1;simp only [List.replicate] at h0 h1;obtain ⟨H0,H1,HZ⟩:=BB h0 h1 hz;have HT:AI (∀W,AK w W->∀t,t < 64->W.cell? ⟨0,t,none⟩=some (AB .u32 (ia[t]?.getD 0))):=AF (fun W hW=>(hT.below hW).2);obtain ⟨HH,HC⟩:=Al hh hcells;have AEd:hb < w.heap.size:=hh.lt;unfold maxLen at hnn;clear hh hcells h0 h1 hz hT;go_enter func95,ntmps95;go_wp2_with fail;go_loopg [23] 16 (fun q i wr=>∃k:Nat,k<=16/\q=16 - k/\i=AB AE k/\AY wr w.heap.size 241 (uA (VB blk k))/\AK w wr)
 case atStart=>exact ⟨0,Ay _,rfl,rfl,by rw [VB,HZ.o];exact H0.o,H1.o⟩
 clear H0 H1 HZ;obtain ⟨k,hk,hq,rfl,hbk,hb0⟩:=hrel;obtain ⟨fL,Pb,HB0⟩:=BB hq hbk hb0;clear hq hbk hb0;by_cases hlt:k < 16
 ·have hk0:=Int.natCast_nonneg k
  have hk1:(k:Int) < 16:=AG
  go_wp2_with fail;go_loopg [26] 4 (fun q i wr=>∃j:Nat,j<=4/\q=4 - j/\i=AB AE j/\AY wr w.heap.size 241 (uA (rowP blk (VB blk k) k j))/\AK w wr)
  case atStart=>exact ⟨0,Ay _,rfl,rfl,Pb.o,HB0.o⟩
  clear Pb HB0;obtain ⟨j,hj,hq,rfl,hbk,hb0⟩:=hrel;have HQ:=AF hq;by_cases AIB:j < 4
  ·have hj0:(0:Int)<=(j:Int):=by omega
   have hj1:(j:Int) < 4:=AG
   have hlw:(rowP blk (VB blk k) k j).length=64:=by rw [oZ,ux]
   have c1:=MW hbk (i:=k) AG;have c2:wr.cell? ⟨b,off+(4*k+j),none⟩=some (AB Am (blk.getD (4*k+j) 0)):=(hb0.cell (p:=⟨b,_,none⟩) hbl).trans (HC.o (4*k+j) AG);have lw:=hbk.lt;obtain ⟨Pb,HB0⟩:=Al hbk hb0;have hs1:((4*(k:Int)+(j:Int))).toNat=4*k+j:=AG
   have hs2:4*(k:Int)+(j:Int) < (n:Int):=AG
   have fz:=Pb.o.frozen k;clear hq hbk hb0;go_wp2_with fail;go_region;have ALy:AI (AY (wr.setCell ⟨w.heap.size,k,none⟩ (AB .u32 (bits .or .u32 ((rowP blk (VB blk k) k j)[k]?.getD 0*256 % 4294967296) (blk[4*k+j]?.getD 0 % 4294967296)))).drew w.heap.size 241 (uA (rowP blk (VB blk k) k (j+1)))):=AF (dQ Pb.o k _).drew;have HB2:=AF (HB0.o.setCell (p:=⟨w.heap.size,k,none⟩) (Ac _) (AB .u32 (bits .or .u32 ((rowP blk (VB blk k) k j)[k]?.getD 0*256 % 4294967296) (blk[4*k+j]?.getD 0 % 4294967296)))).drew;clear c1 c2 fz;go_wp2;go_roundg (4 - (j+1))
   case measure=>exact Bi
   case rel=>exact ⟨j+1,by omega,rfl,by go_num,ALy.o,HB2.o⟩
  have Pb:AI (AY wr w.heap.size 241 (uA (VB blk (k+1)))):=AF (by have:=hbk;rwa [show j=4 by omega] at this);have HB0:=AF hb0;clear hq hbk hb0;go_wp2;go_roundg (16 - (k+1))
  case measure=>have:=fL.o;omega
  case rel=>exact ⟨k+1,by omega,rfl,by go_num,Pb.o,HB0.o⟩
 have AJd:AI (AY wr w.heap.size 241 (uA (dM blk 0))):=AF (by have:=Pb.o;rwa [show k=16 by omega] at this);have HB1:=HB0;clear Pb HB0 fL;obtain ⟨wy,rfl⟩:=Ad wr;go_wp2_with fail;go_loopg [7] 48 (fun q i wr=>∃j:Nat,j<=48/\q=48 - j/\i=AB AE ((16+j:Nat):Int)/\AY wr w.heap.size 241 (uA (dM blk j))/\AK w wr)
 case atStart=>exact ⟨0,Ay _,rfl,rfl,AJd.o,HB1.o⟩
 clear AJd HB1;obtain ⟨j,hj,hq,rfl,hbk,hb0⟩:=hrel;obtain ⟨HQ,Pb,HB0⟩:=BB hq hbk hb0;by_cases AIB:j < 48
 ·have hlw:=uw blk j
  have c16:=MW hbk (i:=j) AG;have c0:=MW hbk (i:=16+j) AG;have c15:=MW hbk (i:=16+j - 15) AG;have c7:=MW hbk (i:=16+j - 7) AG;have c2:=MW hbk (i:=16+j - 2) AG;have lw:=hbk.lt;have fz:=hbk.frozen (16+j);have hj0:(0:Int)<=((16+j:Nat):Int):=AG
  have hj1:((16+j:Nat):Int) < 64:=AG
  clear hq hbk hb0;go_wp2_with fail;go_region;go_wp2_with (go_at_call 139;refine (oY _ gq _ _).mono ?_;rintro e w' ⟨rfl,rfl⟩);go_region;clear c0 c16 c15 c7 c2 fz;go_wp2;go_roundg (48 - (j+1))
  case measure=>exact Bi
  case rel=>exact ⟨j+1,by omega,rfl,by go_num,by
   exact (dQ Pb.o (16+j) _).drew.drew,(HB0.o.setCell (Ac _) _).drew.drew⟩
 have ALx:AI (AY wr w.heap.size 241 (uA (dM blk 48))):=AF (by have:=Pb.o;rwa [show j=48 by omega] at this);have HB3:=HB0;have hl8:∃h0 h1 h2 h3 h4 h5 h6 h7,hs=[h0,h1,h2,h3,h4,h5,h6,h7]:=by
  match hs,hl with
  | [h0,h1,h2,h3,h4,h5,h6,h7],_=>exact ⟨h0,h1,h2,h3,h4,h5,h6,h7,rfl⟩
 obtain ⟨h0,h1,h2,h3,h4,h5,h6,h7,rfl⟩:=hl8;have kH:=HH.o.below hb0 AEd;have d0:=kH.cell 0;have d1:=kH.cell 1;have d2:=kH.cell 2;have d3:=kH.cell 3;have d4:=kH.cell 4;have d5:=kH.cell 5;have d6:=kH.cell 6;have d7:=kH.cell 7;simp only [uA,Fz,NF,Aj,Ao,BA] at d0 d1 d2 d3 d4 d5 d6 d7;have UD:=AF kH;have hbw:hb < wr.heap.size:=kH.lt;have lw:=hbk.lt;clear Pb HB0 HQ hq hbk hb0 kH;obtain ⟨wy,rfl⟩:=Ad wr;have k0:AY (wy.alloc (AO #[AB .u32 h0,AB .u32 h1,AB .u32 h2,AB .u32 h3,AB .u32 h4,AB .u32 h5,AB .u32 h6,AB .u32 h7] 182)) wy.heap.size 182 (uA [h0,h1,h2,h3,h4,h5,h6,h7]):=AY.new _ _ _;have K0:=AF k0;have E0:AI (AK wy (wy.alloc (AO #[AB .u32 h0,AB .u32 h1,AB .u32 h2,AB .u32 h3,AB .u32 h4,AB .u32 h5,AB .u32 h6,AB .u32 h7] 182))):=AF (BK _ _);clear k0;go_wp2_with fail;clear d0 d1 d2 d3 d4 d5 d6 d7;go_loopg [92] 64 (fun q i wr=>∃(t:Nat) (v0 v1 v2 v3 v4 v5 v6 v7:Int),t<=64/\q=64 - t/\i=AB AE t/\[v0,v1,v2,v3,v4,v5,v6,v7]=r3P (dM blk 48) [h0,h1,h2,h3,h4,h5,h6,h7] t/\AY wr wy.heap.size 182 (uA [v0,v1,v2,v3,v4,v5,v6,v7])/\AK wy wr)
 case atStart=>exact ⟨0,_,_,_,_,_,_,_,_,Ay _,rfl,rfl,rfl,K0.o,E0.o⟩
 clear K0 E0;obtain ⟨t,v0,v1,v2,v3,v4,v5,v6,v7,ht,hq,rfl,hv,hbk,hb0⟩:=hrel;obtain ⟨HQ,HV,Pb,HB0⟩:=CD hq hv hbk hb0;by_cases AIA:t < 64
 ·have e0:=hbk.cell 0
  have e1:=hbk.cell 1;have e2:=hbk.cell 2;have e3:=hbk.cell 3;have e4:=hbk.cell 4;have e5:=hbk.cell 5;have e6:=hbk.cell 6;have e7:=hbk.cell 7;have f0:=hbk.frozen 0;have f1:=hbk.frozen 1;have f2:=hbk.frozen 2;have f3:=hbk.frozen 3;have f4:=hbk.frozen 4;have f5:=hbk.frozen 5;have f6:=hbk.frozen 6;have f7:=hbk.frozen 7;simp only [uA,Fz,NF,Aj,Ao,BA] at e0 e1 e2 e3 e4 e5 e6 e7;have vS:=MW (ALx.o.below hb0 lw) (i:=t) (by rw [uw];exact AIA);have hkt:=HT.o wr (AV HB3.o hb0) t AIA;have lv:=hbk.lt;have ht0:(0:Int)<=(t:Int):=AG
  have ht1:(t:Int) < 64:=AG
  have hsg:IntKind.u32.signed=false:=rfl;clear hq hv hbk hb0;go_wp2_with fail;go_region;go_wp2_with (go_at_call 139;refine (oY _ gq _ _).mono ?_;rintro e w' ⟨rfl,rfl⟩);go_region;go_wp2_with (go_at_call 139;refine (oY _ gq _ _).mono ?_;rintro e w' ⟨rfl,rfl⟩);clear e0 e1 e2 e3 e4 e5 e6 e7 f0 f1 f2 f3 f4 f5 f6 f7 vS hkt hsg;go_wp2;go_roundg (64 - (t+1))
  case measure=>exact Bi
  refine ⟨t+1,_,v0,v1,v2,_,v4,v5,v6,by omega,rfl,by go_num,?hv,((((((((dQ Pb.o 0 _)).put 1 _).put 2 _).put 3 _).put 4 _).put 5 _).put 6 _).put 7 _ |>.drew.drew,((((((((HB0.o.setCell (Ac _) _).setCell (Ac _) _).setCell (Ac _) _).setCell (Ac _) _).setCell (Ac _) _).setCell (Ac _) _).setCell (Ac _) _).setCell (Ac _) _).drew.drew⟩
  case hv=>rw [r3P,<-HV.o];rfl
 have EJ:AI ([v0,v1,v2,v3,v4,v5,v6,v7]=r3P (dM blk 48) [h0,h1,h2,h3,h4,h5,h6,h7] 64):=AF (by rw [hv,show t=64 by omega]);obtain ⟨wz,hwz⟩:=Ad wr;have Vu:AI (AY wz wy.heap.size 182 (uA [v0,v1,v2,v3,v4,v5,v6,v7])):=AF (by rw [hwz];exact hbk);have CW:AI (AK w wz):=AF (by rw [hwz];exact AV HB3.o hb0);obtain ⟨V,hV⟩:=Ad ([v0,v1,v2,v3,v4,v5,v6,v7]);have Vl:AI (V.length=8):=AF (by rw [hV];rfl);rw [<-hV] at EJ Vu;have hkz:AY wz hb 182 (uA (Ya [h0,h1,h2,h3,h4,h5,h6,h7] V 0)):=by rw [hwz];exact UD.o.below hb0 hbw
 have HKZ:=AF hkz;have hvb:hb < wy.heap.size:=hbw;have hvz:wy.heap.size < wz.heap.size:=Vu.o.lt;subst hwz;clear HQ HV Pb HB0 hq hv hbk hb0 hkz hV;go_wp2_with fail;go_loopg [172] 8 (fun q i wr=>∃k:Nat,k<=8/\q=8 - k/\i=AB AE k/\AY wr hb 182 (uA (Ya [h0,h1,h2,h3,h4,h5,h6,h7] V k))/\wz.grownBy wr (some hb))
 case atStart=>exact ⟨0,Ay _,rfl,rfl,HKZ.o,Cu _ _⟩
 clear HKZ;obtain ⟨g,hg,hq,rfl,hbk,hb0⟩:=hrel;obtain ⟨HQ,Pb,HB0⟩:=BB hq hbk hb0;by_cases AKa:g < 8
 ·have hlen:=OJ [h0,h1,h2,h3,h4,h5,h6,h7] V g
  have e0:=MW hbk (i:=g) (by rw [hlen];exact AKa);have e1:=MW (Vu.o.grown hb0 FT) (i:=g) (by have:=Vl.o;omega);have fz:=hbk.frozen g;have lz:=hbk.lt;have hg0:(0:Int)<=(g:Int):=AG
  have hg1:(g:Int) < 8:=AG
  clear hq hbk hb0 hlen;go_wp2_with fail;go_region;clear e0 e1 fz;go_wp2;go_roundg (8 - (g+1))
  case measure=>exact Bi
  case rel=>exact ⟨g+1,by omega,rfl,by go_num,(dQ Pb.o g _).drew,grown_drew (Oi HB0.o g _)⟩
 have HE:AI (absP [h0,h1,h2,h3,h4,h5,h6,h7] blk=Ya [h0,h1,h2,h3,h4,h5,h6,h7] V g):=AF (by rw [absP,<-EJ.o,show g=8 by omega]);clear hq hbk hb0;go_wp2_with fail
 go_end0
 refine ⟨rfl,?_,by rw [HE.o];exact Pb.o⟩;exact ⟨HB0.o.os.trans CW.o.os,HB0.o.tape.trans CW.o.tape,HB0.o.output.trans CW.o.output,BH CW.o.size HB0.o.size,fun x hx hne=>(HB0.o.block x (Av hx CW.o.size) hne).trans (CW.o.block x hx)⟩
structure Fd where
 h:AQ
 b:AQ
 k:Nat
def Zs (s:Fd) (x:Int):Fd:=if s.k+1=64 then ⟨absP s.h (s.b.set s.k x),s.b.set s.k x,0⟩ else ⟨s.h,s.b.set s.k x,s.k+1⟩
def J0 (s:Fd) (l:AQ):Fd:=l.foldl Zs s
theorem qV (s:Fd) (l r:AQ):J0 s (l++r)=J0 (J0 s l) r:=R7
theorem UN {l:AQ} {k:Nat} {x:Int} {c:AQ} (h:k+1+c.length<=l.length):splice (l.set k x) (k+1) c=splice l k (x::c):=by
 have hk:k < l.length:=AG
 unfold splice;have e1:(l.set k x).take (k+1)=l.take k++[x]:=by rw [List.take_set,fh hk];rw [ZO _ _ Bd];simp [List.length_take,Nat.min_eq_left (Nat.le_of_lt hk)]
 have e2:(l.set k x).drop (k+1+c.length)=l.drop (k+(x::c).length):=by rw [List.drop_set_of_lt AG];simp only [F6];congr 1;omega
 rw [e1,e2];simp
theorem aK:∀(c:AQ) (s:Fd),s.b.length=64->s.k+c.length<=64->s.k < 64->0 < c.length->
 J0 s c=if s.k+c.length=64 then ⟨absP s.h (splice s.b s.k c),splice s.b s.k c,0⟩ else ⟨s.h,splice s.b s.k c,s.k+c.length⟩
 | [],_,_,_,_,h=>by simp at h
 |
  [x],⟨h,b,k⟩,hb,hc,hk,_=>by
  have hb:b.length=64:=hb;have hk:k < 64:=hk;have e:splice b k [x]=b.set k x:=by unfold splice;rw [List.set_eq_take_append_cons_drop,Ak AG];rfl
  rw [e];rfl
 |
  x::y::r,⟨h,b,k⟩,hb,hc,hk,_=>by
  have hb:b.length=64:=hb;have hc:k+(r.length+1+1)<=64:=hc;have hk:k < 64:=hk;have ih:=aK (y::r) ⟨h,b.set k x,k+1⟩ (by rw [D7];exact hb) tr (by omega:k+1 < 64) AZ;have e:J0 ⟨h,b,k⟩ (x::y::r)=J0 ⟨h,b.set k x,k+1⟩ (y::r):=by show J0 (Zs ⟨h,b,k⟩ x) (y::r)=_;rw [Zs,Ah (show ¬(k+1=64) by omega)]
  rw [e,ih];have e2:splice (b.set k x) (k+1) (y::r)=splice b k (x::y::r):=UN tr;show (if k+1+(y::r).length=64 then _ else _)=(if k+(x::y::r).length=64 then _ else _);have el:k+1+(y::r).length=k+(x::y::r).length:=by simp only [F6];omega
  simp only [e2,el]
theorem kV:∀(c:AQ) (s:Fd),s.h.length=8/\s.b.length=64/\s.k < 64->(J0 s c).h.length=8/\(J0 s c).b.length=64/\(J0 s c).k < 64
 | [],_,h=>h
 |
  x::c,s,h=>by
  show (J0 (Zs s x) c).h.length=8/\_;refine kV c (Zs s x) ?_;unfold Zs;split
  · exact ⟨by show (absP _ _).length=8;rw [absP,OJ];exact h.1,by show (s.b.set _ _).length=64;rw [D7];exact h.2.1,by show 0 < 64;omega⟩
  · exact ⟨h.1,by show (s.b.set _ _).length=64;rw [D7];exact h.2.1,by show s.k+1 < 64;omega⟩
def Ol (s:Fd) (ps:List (AQ)):Fd:=ps.foldl J0 s
def Sf (t:Int) (ps:List (AQ)):Int:=ps.foldl (fun t p=>IntKind.u64.wrap (t+(p.length:Int))) t
def GT (b:AQ) (k:Nat):AQ:=b.take k++128::zeros (63 - k)
def PF (b:AQ) (t:Int):Nat->AQ
 | 0=>b
 | i+1=>(PF b t i).set (63 - i) (IntKind.u64.wrap (t*8) / 2 ^ (8*i) % 256)
theorem AB2 (b:AQ) (t:Int) (i:Nat):(PF b t i).length=b.length:=by
 induction i with
 | zero=>rfl
 | succ i ih=>rw [PF,D7,ih]
def endP (s:Fd) (t:Int):AQ:=
 if 56 < s.k+1 then absP (absP s.h (GT s.b s.k)) (PF (zeros 64) t 8) else absP s.h (PF (GT s.b s.k) t 8)
def Qe:AQ:=[1779033703,3144134277,1013904242,2773480762,1359893119,2600822924,528734635,1541459225]
def Nj (h:AQ):Nat->AQ
 | 0=>zeros 32
 | i+1=>(Nj h i).set i (h[i / 4]?.getD 0 / 2 ^ (24 - 8*(i % 4)) % 256)
theorem bq (h:AQ) (i:Nat):(Nj h i).length=32:=by
 induction i with
 | zero=>simp [Nj,zeros]
 | succ i ih=>rw [Nj,D7,ih]
def PO (ps:List (AQ)):AQ:=Nj (endP (Ol ⟨Qe,zeros 64,0⟩ ps) (Sf 0 ps)) 32
def Aw (tag b:AQ):AQ:=PO [PO [tag],b]
theorem Tq (ps:List (AQ)):(PO ps).length=32:=bq _ _
theorem DN (t b:AQ):(Aw t b).length=32:=Tq _
def JH (_:AH) (cs:List AN) (x:Int):Prop:=cs=[AB Am x]
theorem QU:Ep JH:=fun _ _ _ _ _ h=>h
def V4 (w:AH) (cs:List AN) (l:AQ):Prop:=∃A n c,cs=[AA A n c]/\Ag 1 JH w (AA A n c) l
theorem ABV:Ep V4:=fun _ _ hb _ _ ⟨A,n,c,h,hs⟩=>⟨A,n,c,h,hs.mono QU hb⟩
def yA (l:AQ):Array AN:=(l.map (Value.int .u8)).toArray
theorem Ki {w:AH} {g:Nat} {t:Ae} {l:AQ} (h:AY w g t (yA l)) {i:Nat} (hi:i < l.length):w.cell? ⟨g,i,none⟩=some (AB Am (l.getD i 0)):=by rw [h.cell,yA,Aj,Bg,Ck,BN hi];rfl
theorem XS {w:AH} {g:Nat} {t:Ae} {l:AQ} (h:AY w g t (yA l)) (i:Nat) (x:Int):AY (w.setCell ⟨g,i,none⟩ (AB Am x)) g t (yA (l.set i x)):=by
 have:=h.put i (AB Am x)
 rwa [yA,Kf,<-R0] at this
theorem eB {α β:Type} (f:α->β) (l:List α) (k:Nat) (c:List α):(splice l k c).map f=splice (l.map f) k (c.map f):=by simp [splice]
theorem Zp {a w w':AH} {row:Option Nat} {B:Nat} (h:a.grownBy w row) (hb:BL B w w') (hB:a.heap.size<=B):a.grownBy w' row:=
 ⟨hb.os.trans h.os,hb.tape.trans h.tape,hb.output.trans h.output,BH h.size hb.size,fun i hi hne=>(hb.block i AG).trans (h.block i hi hne)⟩
theorem Kl {a w w':AH} {row:Option Nat} (h:a.grownBy w row) (k:w.grownBy w' row):a.grownBy w' row:=
 ⟨k.os.trans h.os,k.tape.trans h.tape,k.output.trans h.output,BH h.size k.size,fun i hi hne=>(k.block i (Av hi h.size) hne).trans (h.block i hi hne)⟩
theorem below_of_grown {a w:AH} {g B:Nat} (h:a.grownBy w (some g)) (hB:B<=g) (hs:B<=a.heap.size):BL B a w:=
 ⟨h.os,h.tape,h.output,h.size,fun i hi=>h.block i AG (fun e=>by injection e;omega)⟩
theorem Ag.nB {α:Type} {sz:Nat} {R:AH->List AN->α->Prop} {w:AH} {l:List α} {b off n c k:Nat} (h:Ag sz R w (AA (some ⟨b,off,none⟩) n c) l) (hk:k<=n):
 Ag sz R w (AA (some ⟨b,off+k*sz,none⟩) (n - k) (c - k)) (l.drop k):=by
 obtain ⟨A,cap,e,h1,h2,h3⟩:=h;injection e with e1 e2 e3;subst e1 e2 e3;refine ⟨_,_,by rw [IQ],by rw [IQ];omega,by omega,fun i x hi=> ?_⟩;rw [EO] at hi;obtain ⟨b',off',cs,e,hb,hl,hc,hr⟩:=h3 _ _ hi;injection e with e;injection e with e1 e2 _;subst e1 e2;refine ⟨b,off+k*sz,cs,rfl,hb,hl,fun j u hu=> ?_,hr⟩;rw [<-hc j u hu,Nat.add_mul];congr 2;omega
structure BlW (E w:AH) (hb g:Nat) (s:Fd) (wr:AH):Prop where
 h:AY wr hb 182 (uA s.h)
 b:AY wr g 239 (yA s.b)
 gr:w.grownBy wr (some hb)
 inv:s.h.length=8/\s.b.length=64/\s.k < 64
theorem P5 {g:Nat} {t:Ae}:∀(xs:AQ) (o:Nat) (w:AH) (l:AQ),AY w g t (yA l)->o+xs.length<=l.length->AY (w.setCells g o (xs.map (.int .u8))) g t (yA (splice l o xs))
 |
  [],o,w,l,h,_=>by
  have e:splice l o []=l:=by simp [splice]
  rw [e];exact h
 |
  x::xs,o,w,l,h,hl=>by
  rw [<-UN (by simp only [F6] at hl;omega)];exact P5 xs (o+1) _ _ (XS h o x) (by rw [D7];simp only [F6] at hl;omega)
theorem below_setCells {g B:Nat}:∀(vs:List AN) (o:Nat) (a w:AH),BL B a w->B<=g->BL B a (w.setCells g o vs)
 | [],_,_,_,h,_=>h
 | v::vs,o,a,w,h,hB=>below_setCells vs (o+1) a (w.setCell ⟨g,o,none⟩ v) (h.setCell (p:=⟨g,o,none⟩) hB v) hB
theorem UU {a w:AH} {g:Nat} {row:Option Nat} (h:a.grownBy w row) (hg:a.heap.size<=g) (o:Nat) (vs:List AN):a.grownBy (w.setCells g o vs) row:=
 Zp h (below_setCells vs o w w (Af _ _) (Ac g)) hg
theorem vJ {b:AQ} {k:Nat} (hb:b.length=64) (hk:k < 64):splice (b.set k 128) (k+1) (zeros (63 - k))=GT b k:=by rw [UN (by simp [zeros];omega)];unfold splice GT;rw [FQ (by simp [zeros];omega)];simp
theorem y9 (hb np pc:Nat) (P:Option Aa) (hs:AQ) (ps:List (AQ)) (E w:AH) (hT:Cc E) (hE:AK E w) (hbE:E.heap.size<=hb) (hl:hs.length=8) (hh:AY w hb 182 (uA hs)) (hp:Ag 1 V4 E (AA P np pc) ps):
 AS prog 94 #[.func (.func 95) #[AU (some ⟨hb,0,none⟩)] #[],AA P np pc] w fun e w'=>e=AW (BU #[])/\w.grownBy w' (some hb)/\AY w' hb 182 (uA (endP (Ol ⟨hs,zeros 64,0⟩ ps) (Sf 0 ps))):=by
 have hz:yA (zeros 64)=(List.replicate 64 (Value.int .u8 0)).toArray:=by simp [yA,zeros]
 have h0:BlW E w hb w.heap.size ⟨hs,zeros 64,0⟩ (w.alloc (AO (yA (zeros 64)) 239)):=⟨hh.alloc _,AY.new _ _ _,UV (Cu _ _) _,hl,by simp [zeros],(by omega:(0:Nat) < 64)⟩;rw [hz] at h0;simp only [List.replicate] at h0;obtain ⟨H0,HT,HP,HE⟩:=CD h0 hT hp hE;have hhb:=hh.lt;have hnp:np<=9223372036854775807:=by have:=hp.le;omega
 have Hc:=AF hp.len;clear h0 hT hp hE hh hz;obtain ⟨Tf,hTf⟩:=Ad (Ol ⟨hs,zeros 64,0⟩ ps);obtain ⟨Tt,hTt⟩:=Ad (Sf 0 ps);rw [<-hTf,<-hTt];obtain ⟨vq,PV⟩:=Al hTf hTt;clear hTf hTt;go_enter func94,ntmps94;go_wp2_with fail;go_loopg [5,6,13] np (fun q at' tot i wr=>∃(k:Nat) (s:Fd) (t:Int),k<=np/\q=np - k/\i=AB AE k/\at'=AB AE s.k/\tot=AB .u64 t/\Ol s (ps.drop k)=Tf/\Sf t (ps.drop k)=Tt/\BlW E w hb w.heap.size s wr)
 case atStart=>exact ⟨0,⟨hs,zeros 64,0⟩,0,Ay _,rfl,rfl,rfl,rfl,vq.o.symm,PV.o.symm,H0.o⟩
 clear H0 vq PV;obtain ⟨k,s,t,hk,hq,rfl,rfl,rfl,hf,ht,hB⟩:=hrel;obtain ⟨HQ,HF,Dl,HB⟩:=CD hq hf ht hB;by_cases hlt:k < np
 ·have hEr:AK E wr:=HE.o.trans (below_of_grown hB.gr hbE HE.o.size)
  obtain ⟨b,off,x,cs,rfl,hbl,hx,hcl,hc,A,n,c,rfl,hs1⟩:=HP.o.at_ hlt;have c0:wr.cell? ⟨b,off+k,none⟩=some (AA A n c):=by have:=hc 0 _ rfl;rw [Ga,Ee] at this;exact (hEr.cell (p:=⟨b,_,none⟩) hbl).trans this
  have hbw:b < wr.heap.size:=Av hbl hEr.size;have hk0:=Int.natCast_nonneg k
  have hk1:(k:Int) < (np:Int):=AG
  have hnl:=hs1.len;have hn2:n<=9223372036854775807:=by have:=hs1.le;omega
  have HDR:AI (Ol (J0 s x) (ps.drop (k+1))=Tf/\Sf (IntKind.u64.wrap (t+(n:Int))) (ps.drop (k+1))=Tt):=AF (by rw [hnl,<-hf,<-ht,drop_cons hx];exact ⟨rfl,rfl⟩)
  obtain ⟨F1,hF1⟩:=Ad (J0 s x);rw [<-hF1] at HDR;obtain ⟨Vt,LG⟩:=Al hF1 hs1;clear hq hf ht hB hcl hc hnl hF1 HF Dl hs1 hEr;go_wp2_with fail;clear c0 hbw;go_loopg [5,8] n (fun q at' b' wr=>∃(s:Fd) (l:AQ) (A:Option Aa) (m c:Nat),m<=9223372036854775807/\q=m/\at'=AB AE s.k/\b'=AA A m c/\J0 s l=F1/\Ag 1 JH E (AA A m c) l/\BlW E w hb w.heap.size s wr)
  case atStart=>exact ⟨s,x,A,n,c,hn2,rfl,rfl,rfl,Vt.o.symm,LG.o,HB.o⟩
  clear Vt LG HB;obtain ⟨s2,l,A2,m,c2,hm,hq,rfl,rfl,hf,hs2,hB⟩:=hrel;obtain ⟨Ks,HF,HS2,HB⟩:=CD hq hf hs2 hB;by_cases hm0:0 < m
  ·obtain ⟨b2,off2,x0,cs0,rfl,AEd,hx0,_,_,_⟩:=hs2.at_ hm0
   have hml:=hs2.len;have hcap:=hs2.le;have hEr:AK E wr:=HE.o.trans (below_of_grown hB.gr hbE HE.o.size);obtain ⟨sh,sb,sk⟩:=s2;obtain ⟨i1,i2,i3⟩:=hB.inv;have i1:sh.length=8:=i1;have i2:sb.length=64:=i2;have i3:sk < 64:=i3;obtain ⟨n1,hn1⟩:=Ad (Nat.min m (64 - sk));have AKW:0 < n1:=by rw [hn1];exact Nat.lt_min.2 ⟨hm0,by omega⟩
   have AKV:n1<=m:=by rw [hn1];exact Nat.min_le_left _ _
   have AH8:sk+n1<=64:=by have:n1<=64 - sk:=by {rw [hn1];exact Nat.min_le_right _ _};omega
   obtain ⟨X,hX⟩:=Ad ((l.take n1).map (Value.int .u8));have hXl:X.length=n1:=by rw [hX,CY,Df,NE AG]
   obtain ⟨HXl,HX,Yq,aV,HI2,HI1⟩:=Fg hXl hX hn1 hml i2 i1;have hk0:(0:Int)<=(sk:Int):=AG
   have hk1:(sk:Int) < 64:=AG
   have hk2:(sk:Int)<=64:=AG
   have hm1:(0:Int) < (m:Int):=AG
   have gb:=hB.b.lt;have jI:AI (∀j v,X[j]? =some v->wr.cell? ((⟨b2,off2,none⟩:Aa).add j)=some v):=AF (by
    intro j v hv;rw [hX,Bg] at hv;obtain ⟨y,hy,rfl⟩:=EC.1 hv;have hjl:=(BF.1 hy).1;rw [Df] at hjl;obtain ⟨b3,AMB,x3,aN,e3,hb3,hx3,hl3,hc3,rfl⟩:=hs2.at_ (k:=j) AG;injection e3 with e3;injection e3 with e3 e4 _;subst e3 e4;rw [Jg AG,hx3] at hy;injection hy with hy;subst hy;have:=hc3 0 _ rfl;rw [Ga,Ee] at this;have ha:(⟨b2,off2,none⟩:Aa).add j=⟨b2,off2+j,none⟩:=by unfold Addr.add;split <;> simp_all
    rw [ha];exact (hEr.cell (p:=⟨b2,_,none⟩) hb3).trans this)
   clear hq hf hs2 hB hXl hX hn1 hml i1 i2 hx0;go_upto_region 8 with (refine wpList_copy_splice rfl (AX 26) (AX 27) 104 104 rfl 5 underlying104 AJ _ _ _ _ _ _ rfl rfl w.heap.size sk (sb.map (Value.int .u8)) 239 HB.o.b X (HXl.o.trans Yq.o) (fun _=>⟨rfl,_,rfl,jI.o⟩) (by have:=HXl.o;have:=HI2.o;rw [CY];omega) (by intro v hv;rw [HX.o] at hv;obtain ⟨_,_,rfl⟩:=Dr.1 hv;rfl) w.heap.size wr (Af _ _) (Ac _) ?_;intro w2 HG2 hB2;rw [HXl.o]);obtain ⟨B1,hB1⟩:=Ad (splice sb sk (l.take n1));have kb:AY w2 w.heap.size 239 (yA B1):=by have this:_=_:=HG2;rw [HX.o,<-eB] at this;rw [hB1];exact this
   have kh:AY w2 hb 182 (uA sh):=HB.o.h.below hB2 hhb;have kg:w.grownBy w2 (some hb):=Zp HB.o.gr hB2 (Ac _);have hBl:B1.length=64:=by
    have h1:(l.take n1).length=n1:=by rw [Df,NE gF]
    rw [hB1,length_splice _ _ _ (by rw [h1,HI2.o];exact AH8),HI2.o]
   have hch:J0 ⟨sh,sb,sk⟩ (l.take n1)=if sk+n1=64 then ⟨absP sh B1,B1,0⟩ else ⟨sh,B1,sk+n1⟩:=by
    have h1:(l.take n1).length=n1:=by rw [Df,NE gF]
    have:=aK (l.take n1) ⟨sh,sb,sk⟩ HI2.o (by rw [h1];exact AH8) (by show sk < 64;omega) (by rw [h1];exact AKW);rw [h1] at this;rw [hB1];exact this
   have MQ:AI (J0 (if sk+n1=64 then ⟨absP sh B1,B1,0⟩ else ⟨sh,B1,sk+n1⟩) (l.drop n1)=F1):=AF (by rw [<-hch,<-qV,OU];exact HF.o)
   obtain ⟨KB,KH,KG,N2⟩:=CD kb kh kg hBl;have RV:AI (Ag 1 JH E (AA (some ⟨b2,off2+n1,none⟩) (m - n1) (c2 - n1)) (l.drop n1)):=AF (by have:=HS2.o.nB AKV;rwa [Ga] at this);have vr:AI (c2=n1->Ag 1 JH E (AA (some ⟨b2,off2,none⟩) (m - n1) 0) (l.drop n1)):=AF (fun h=>by
    have h1:m - n1=0:=AG
    rw [h1,FQ gF];exact Ag.nil _ _ (Ay _))
   have hn0:(0:Int)<=(n1:Int):=AG
   have AMI:(n1:Int)<=(m:Int):=AG
   have hw2:w.heap.size < w2.heap.size:=kb.lt;clear hB1 kb kh kg hBl hch HG2 hB2 HX jI HF HB HS2 hcap hEr;have HAB:AI (∀W,AK w2 W->AS prog 95 #[AU (some ⟨hb,0,none⟩),AA (some ⟨w.heap.size,0,none⟩) 64 64] W fun e w'=>e=AW (BU #[])/\W.grownBy w' (some hb)/\AY w' hb 182 (uA (absP sh B1))):=AF (fun W hW=>by have kb':AY W w.heap.size 239 (yA B1):=KB.o.below hW hw2;exact ep hb w.heap.size 0 64 64 sh B1 W (HT.o.below (HE.o.trans (below_of_grown (KG.o) hbE HE.o.size) |>.trans (hW.mono (by have:=HE.o.size;omega)))) HI1.o (KH.o.below hW AG) (Ac _) Gx kb'.lt (fun i hi=>by rw [Es];exact Ki kb' (by rw [N2.o];exact hi)))
   by_cases hcn:c2=n1 <;> by_cases h64:sk+n1=64
   ·obtain rfl:=hcn.symm
    have hd1:((sk:Int)+(n1:Int)==64)=true:=by simp;omega
    have HI:AI (sk+n1=64):=AF h64;rw [Ak h64] at MQ;clear h64;go_wp2_with fail;go_region;go_wp2_with (go_at_call 95;refine (HAB.o _ (Af _ _).drew).mono ?_;clear HAB);rintro e w3 ⟨rfl,hg3,hk3⟩;have KB3:AI (AY w3 w.heap.size 239 (yA B1)):=AF (KB.o.drew.grown hg3 FT);have KG3:AI (w.grownBy w3 (some hb)):=AF (Kl (grown_drew KG.o) hg3);have KH3:=AF hk3;clear hg3 hk3 hd1;go_wp2;go_roundg (m - n1)
    case measure=>exact MJ
    case rel=>exact ⟨⟨absP sh B1,B1,0⟩,l.drop n1,_,m - n1,_,by omega,rfl,rfl,rfl,MQ.o,vr.o trivial,⟨KH3.o,KB3.o,KG3.o,by show (absP sh B1).length=8;rw [absP,OJ];exact HI1.o,N2.o,(by omega:(0:Nat) < 64)⟩⟩
   ·obtain rfl:=hcn.symm
    have hd1:((sk:Int)+(n1:Int)==64)=false:=by simp;omega
    rw [Ah h64] at MQ;clear HAB;go_wp2_with fail;go_region;go_wp2;go_roundg (m - n1)
    case measure=>exact MJ
    case rel=>exact ⟨⟨sh,B1,sk+n1⟩,l.drop n1,_,m - n1,_,by omega,rfl,by go_num,rfl,MQ.o,vr.o trivial,⟨KH.o.drew,KB.o.drew,grown_drew KG.o,HI1.o,N2.o,(by omega:sk+n1 < 64)⟩⟩
   ·have hx:=trivial
    clear hx;have hd1:((sk:Int)+(n1:Int)==64)=true:=by simp;omega
    have HI:AI (sk+n1=64):=AF h64;rw [Ak h64] at MQ;clear h64;go_wp2_with fail;go_region;go_wp2_with (go_at_call 95;refine (HAB.o _ (Af _ _).drew).mono ?_;clear HAB);rintro e w3 ⟨rfl,hg3,hk3⟩;have KB3:AI (AY w3 w.heap.size 239 (yA B1)):=AF (KB.o.drew.grown hg3 FT);have KG3:AI (w.grownBy w3 (some hb)):=AF (Kl (grown_drew KG.o) hg3);have KH3:=AF hk3;clear hg3 hk3 hd1;go_wp2;go_roundg (m - n1)
    case measure=>exact MJ
    case rel=>exact ⟨⟨absP sh B1,B1,0⟩,l.drop n1,_,m - n1,_,by omega,rfl,rfl,rfl,MQ.o,RV.o,⟨KH3.o,KB3.o,KG3.o,by show (absP sh B1).length=8;rw [absP,OJ];exact HI1.o,N2.o,(by omega:(0:Nat) < 64)⟩⟩
   have hx:=trivial;clear hx;have hd1:((sk:Int)+(n1:Int)==64)=false:=by simp;omega
   rw [Ah h64] at MQ;clear HAB;go_wp2_with fail;go_region;go_wp2;go_roundg (m - n1)
   case measure=>exact MJ
   case rel=>exact ⟨⟨sh,B1,sk+n1⟩,l.drop n1,_,m - n1,_,by omega,rfl,by go_num,rfl,MQ.o,RV.o,⟨KH.o.drew,KB.o.drew,grown_drew KG.o,HI1.o,N2.o,(by omega:sk+n1 < 64)⟩⟩
  have hm1:m=0:=AG
  have hl0:l=[]:=Jh (by have:=hs2.len;omega);have HF2:AI (s2=F1):=AF (by rw [<-hf,hl0];rfl);clear hq hf hs2 hB hl0 HF HS2;subst hm1;go_wp2;go_roundg (np - (k+1))
  case measure=>exact Bi
  case rel=>exact ⟨k+1,s2,_,by omega,rfl,by go_num,rfl,rfl,by rw [HF2.o];exact HDR.o.1,HDR.o.2,HB.o⟩
 have hk:k=np:=AG
 have hd:ps.drop k=[]:=FQ Zb;have Lf:AI (s=Tf):=AF (by rw [<-hf,hd];rfl);have jH:AI (t=Tt):=AF (by rw [<-ht,hd];rfl);obtain ⟨sh,sb,sk⟩:=s;obtain ⟨i1,i2,i3⟩:=hB.inv;have i3:sk < 64:=i3;have HI1:AI (sh.length=8):=AF i1;have HI2:AI (sb.length=64):=AF i2;have gb:=hB.b.lt;have c1:=Ki hB.b (i:=sk) (by show sk < sb.length;rw [HI2.o];exact i3);have fz:=hB.b.frozen sk;have hk0:(0:Int)<=(sk:Int):=AG
 have hk1:(sk:Int) < 64:=AG
 have hk2:(sk:Int)+1<=64:=AG
 have hk3:(0:Int)<=(sk:Int)+1:=AG
 have k1:AY (wr.setCell ⟨w.heap.size,sk,none⟩ (AB Am 128)) w.heap.size 239 (yA (sb.set sk 128)):=XS hB.b sk 128;have hgw:w.heap.size < (wr.setCell ⟨w.heap.size,sk,none⟩ (AB Am 128)).heap.size:=k1.lt;have KH:AI (AY (wr.setCell ⟨w.heap.size,sk,none⟩ (AB Am 128)) hb 182 (uA sh)):=AF (hB.h.far (by show hb≠w.heap.size;omega) _);have KG:AI (w.grownBy (wr.setCell ⟨w.heap.size,sk,none⟩ (AB Am 128)) (some hb)):=AF (Zp hB.gr ((Af w.heap.size wr).setCell (Ac _) _) (Ac _));have K1:=AF k1;have HAB:AI (∀(sh b:AQ) W,sh.length=8->b.length=64->w.grownBy W (some hb)->AY W w.heap.size 239 (yA b)->AY W hb 182 (uA sh)->AS prog 95 #[AU (some ⟨hb,0,none⟩),AA (some ⟨w.heap.size,0,none⟩) 64 64] W fun e w'=>e=AW (BU #[])/\W.grownBy w' (some hb)/\AY w' hb 182 (uA (absP sh b))):=AF (fun sh b W h1 h2 h3 h4 h5=>
  ep hb w.heap.size 0 64 64 sh b W (HT.o.below (HE.o.trans (below_of_grown h3 hbE HE.o.size))) h1 h5 (Ac _) Gx h4.lt (fun i hi=>by rw [Es];exact Ki h4 (by rw [h2];exact hi)))
 have Pj:AI (∀(b:AQ) (o m:Nat) W,b.length=64->0 < m->o+m=64->AY W w.heap.size 239 (yA b)->∀ty,(Builtin.clear_ #[104] ty #[AA (some ⟨w.heap.size,o,none⟩) m m]).run prog W=.ok (BU #[]) (W.setCells w.heap.size o ((zeros m).map (.int .u8)))):=AF (fun b o m W h1 h2 h3 h4 ty=>by have:=Lib.run_clear_slice (P:=prog) W 104 5 ty (AB Am 0) underlying104 (fun w=>by kernel_rfl) rfl rfl w.heap.size o m m h2 (fun j hj=>by rw [Ki h4 (by rw [h1];omega)];rfl) (fun j _=>h4.frozen _);rw [this,zeros,List.map_replicate])
 have wD:AI (∀W ty,(Builtin.clear_ #[104] ty #[AA (some ⟨w.heap.size,0,none⟩) 0 0]).run prog W=.ok (BU #[]) W):=AF (fun W ty=>by simp [Builtin.clear_,run_underlying underlying104]);clear hq hf ht hB i1 i2 hd HF Dl HQ hk k1;by_cases h63:sk=63
 case' pos=>
  subst h63;have hcl:=wD.o (wr.setCell ⟨w.heap.size,63,none⟩ (AB Am 128));have FC:AI (AY (wr.setCell ⟨w.heap.size,63,none⟩ (AB Am 128)) w.heap.size 239 (yA (GT sb 63))):=AF (by
   have h1:=K1.o;have h2:=vJ HI2.o i3;have h3:splice (sb.set 63 128) (63+1) (zeros (63 - 63))=sb.set 63 128:=by unfold splice;rw [C7 tq,FQ tq];simp [zeros]
   rw [<-h2,h3];exact h1)
  go_upto_region 15 with fail;obtain ⟨w3,hw3⟩:=Ad (wr.setCell ⟨w.heap.size,63,none⟩ (AB Am 128));rw [<-hw3];rw [<-hw3] at FC KH KG;have hg3:=FC.o.lt;clear hcl c1 fz K1 hw3 wD;have hpl:(GT sb 63).length=64:=by simp [GT,zeros,HI2.o] <;> omega
  have RE:=AF (HAB.o sh (GT sb 63) w3 HI1.o hpl KG.o FC.o KH.o);clear hpl;go_upto_region 17 with (go_at_call 95;refine RE.o.mono ?_;rintro e w4 ⟨rfl,hg4,hk4⟩);have k4:AY w4 w.heap.size 239 (yA (GT sb 63)):=FC.o.grown hg4 FT;have hcl:=Pj.o (GT sb 63) 0 64 w4 Ug AG AG k4;have HKB:AI (AY (w4.setCells w.heap.size 0 ((zeros 64).map (.int .u8))) w.heap.size 239 (yA (zeros 64))):=AF (by
   have h1:=P5 (zeros 64) 0 _ _ k4 Ug;have h2:splice (GT sb 63) 0 (zeros 64)=zeros 64:=by unfold splice;rw [FQ Ug];simp
   rw [h2] at h1;exact h1)
  have UD:AI (AY (w4.setCells w.heap.size 0 ((zeros 64).map (.int .u8))) hb 182 (uA (absP sh (GT sb 63)))):=AF (hk4.below (below_setCells _ _ _ _ (Af w.heap.size _) (Ac _)) hhb);have aZ:AI (w.grownBy (w4.setCells w.heap.size 0 ((zeros 64).map (.int .u8))) (some hb)):=AF (UU (Kl KG.o hg4) (Ac _) _ _);have Nk:AI (absP (absP sh (GT sb 63)) (PF (zeros 64) t 8)=endP Tf Tt/\(absP sh (GT sb 63)).length=8/\(zeros 64).length=64):=AF ⟨by
   rw [<-Lf.o,<-jH.o,endP,Ak (by show 56 < 63+1;omega)],by rw [absP,OJ];exact HI1.o,by simp [zeros]⟩
  clear hg4 hk4 k4 RE;go_wp2_with (simp only [hcl]);clear hcl;obtain ⟨wz,hwz⟩:=Ad (w4.setCells w.heap.size 0 ((zeros 64).map (.int .u8)));rw [<-hwz];rw [<-hwz] at HKB UD aZ;obtain ⟨Hs,kJ⟩:=Ad (absP sh (GT sb 63));obtain ⟨Bs,hBs⟩:=Ad (zeros 64);rw [<-kJ] at UD Nk;rw [<-hBs] at HKB Nk;clear hwz kJ hBs KG KH FC Lf jH
 case' neg=>
  have hcl:=Pj.o (sb.set sk 128) (sk+1) (63 - sk) (wr.setCell ⟨w.heap.size,sk,none⟩ (AB Am 128)) (by rw [D7];exact HI2.o) AG AG K1.o;have FC:AI (AY ((wr.setCell ⟨w.heap.size,sk,none⟩ (AB Am 128)).setCells w.heap.size (sk+1) ((zeros (63 - sk)).map (.int .u8))) w.heap.size 239 (yA (GT sb sk))):=AF (by rw [<-vJ HI2.o i3];exact P5 _ _ _ _ K1.o (by rw [D7,HI2.o];simp [zeros];omega))
  have KG2:AI (w.grownBy ((wr.setCell ⟨w.heap.size,sk,none⟩ (AB Am 128)).setCells w.heap.size (sk+1) ((zeros (63 - sk)).map (.int .u8))) (some hb)):=AF (UU KG.o (Ac _) _ _);have KH2:AI (AY ((wr.setCell ⟨w.heap.size,sk,none⟩ (AB Am 128)).setCells w.heap.size (sk+1) ((zeros (63 - sk)).map (.int .u8))) hb 182 (uA sh)):=AF (KH.o.below (below_setCells _ _ _ _ (Af w.heap.size _) (Ac _)) hhb);clear KG KH;have KG:=KG2;have KH:=KH2;clear KG2 KH2;go_upto_region 15 with fail;obtain ⟨w3,hw3⟩:=Ad ((wr.setCell ⟨w.heap.size,sk,none⟩ (AB Am 128)).setCells w.heap.size (sk+1) ((zeros (63 - sk)).map (.int .u8)));rw [<-hw3];rw [<-hw3] at FC KH KG;clear hcl
 case' neg=>
  have hg3:=FC.o.lt;clear c1 fz K1 hw3 wD;by_cases h56:56 < sk+1
  case' pos=>
   have hd2:decide ((56:Int) < (sk:Int)+1)=true:=Bk AG;have hpl:(GT sb sk).length=64:=by simp [GT,zeros,HI2.o] <;> omega
   have RE:=AF (HAB.o sh (GT sb sk) w3 HI1.o hpl KG.o FC.o KH.o);clear hpl;go_upto_region 17 with (go_at_call 95;refine RE.o.mono ?_;rintro e w4 ⟨rfl,hg4,hk4⟩);have k4:AY w4 w.heap.size 239 (yA (GT sb sk)):=FC.o.grown hg4 FT;have hcl:=Pj.o (GT sb sk) 0 64 w4 Ug AG AG k4;have HKB:AI (AY (w4.setCells w.heap.size 0 ((zeros 64).map (.int .u8))) w.heap.size 239 (yA (zeros 64))):=AF (by
    have h1:=P5 (zeros 64) 0 _ _ k4 Ug;have h2:splice (GT sb sk) 0 (zeros 64)=zeros 64:=by unfold splice;rw [FQ Ug];simp
    rw [h2] at h1;exact h1)
   have UD:AI (AY (w4.setCells w.heap.size 0 ((zeros 64).map (.int .u8))) hb 182 (uA (absP sh (GT sb sk)))):=AF (hk4.below (below_setCells _ _ _ _ (Af w.heap.size _) (Ac _)) hhb);have aZ:AI (w.grownBy (w4.setCells w.heap.size 0 ((zeros 64).map (.int .u8))) (some hb)):=AF (UU (Kl KG.o hg4) (Ac _) _ _);have Nk:AI (absP (absP sh (GT sb sk)) (PF (zeros 64) t 8)=endP Tf Tt/\(absP sh (GT sb sk)).length=8/\(zeros 64).length=64):=AF ⟨by
    rw [<-Lf.o,<-jH.o,endP,Ak (by show 56 < sk+1;omega)],by rw [absP,OJ];exact HI1.o,by simp [zeros]⟩
   clear hg4 hk4 k4 RE;go_wp2_with (simp only [hcl]);clear hcl;obtain ⟨wz,hwz⟩:=Ad (w4.setCells w.heap.size 0 ((zeros 64).map (.int .u8)));rw [<-hwz];rw [<-hwz] at HKB UD aZ;obtain ⟨Hs,kJ⟩:=Ad (absP sh (GT sb sk));obtain ⟨Bs,hBs⟩:=Ad (zeros 64);rw [<-kJ] at UD Nk;rw [<-hBs] at HKB Nk;clear hwz kJ hBs KG KH FC Lf jH
  case' neg=>
   have Nk:AI (absP sh (PF (GT sb sk) t 8)=endP Tf Tt/\sh.length=8/\(GT sb sk).length=64):=AF ⟨by
    rw [<-Lf.o,<-jH.o,endP,Ah (by show ¬56 < sk+1;omega)],HI1.o,by simp [GT,zeros,HI2.o] <;> omega⟩
   have HKB:=FC;have UD:=KH;have aZ:=KG;have hd2:decide ((56:Int) < (sk:Int)+1)=false:=BS AG;go_wp2_with fail;obtain ⟨wz,hwz⟩:=Ad w3;rw [<-hwz];rw [<-hwz] at HKB UD aZ;obtain ⟨Hs,kJ⟩:=Ad sh;obtain ⟨Bs,hBs⟩:=Ad (GT sb sk);rw [<-kJ] at UD Nk;rw [<-hBs] at HKB Nk;clear hwz kJ hBs KG KH FC Lf jH hd2
 all_goals
  clear HB Pj i3 hk0 hk1 hk2 hk3 hgw;have hgz:=HKB.o.lt;go_loopg [53] 8 (fun q i wr=>∃j:Nat,j<=8/\q=8 - j/\i=AB AE j/\AY wr w.heap.size 239 (yA (PF Bs t j))/\AY wr hb 182 (uA Hs)/\w.grownBy wr (some hb))
  case atStart=>exact ⟨0,Ay _,rfl,rfl,HKB.o,UD.o,aZ.o⟩
  clear HKB UD aZ;obtain ⟨j,hj,hq,rfl,hb1,hb2,hb3⟩:=hrel;obtain ⟨HQ,HKB,UD,aZ⟩:=CD hq hb1 hb2 hb3;have hll:(PF Bs t j).length=64:=by rw [AB2];exact Nk.o.2.2
  have Ys:=AF hll;have hgr:=hb1.lt;by_cases AIB:j < 8
  ·have c1:=Ki hb1 (i:=63 - j) AG
   have fz:=hb1.frozen (63 - j);have hj0:(0:Int)<=(j:Int):=AG
   have hj1:(j:Int) < 8:=AG
   have hj2:(63:Int) - (j:Int)=((63 - j:Nat):Int):=AG
   have hj3:(0:Int)<=((63 - j:Nat):Int):=AG
   have hj4:((63 - j:Nat):Int) < 64:=AG
   clear hq hb1 hb2 hb3 hll;go_wp2;go_roundg (8 - (j+1))
   case measure=>exact Bi
   case rel=>exact ⟨j+1,by omega,rfl,by go_num,XS HKB.o (63 - j) _,UD.o.far (by show hb≠w.heap.size;omega) _,Zp aZ.o ((Af w.heap.size wr).setCell (Ac _) _) (Ac _)⟩
  have h8:j=8:=AG
  subst h8;have RE:=AF (HAB.o Hs (PF Bs t 8) wr Nk.o.2.1 hll hb3 hb1 hb2);clear hq hb1 hb2 hb3 hll HAB;go_wp2_with (go_at_call 95;refine RE.o.mono ?_;rintro e w5 ⟨rfl,hg5,hk5⟩)
  go_end0
  exact ⟨rfl,Kl aZ.o hg5,by rw [<-Nk.o.1];exact hk5⟩
theorem CJ (l:AQ):(yA l).size=l.length:=by simp [yA]
theorem Kh (l:AQ):(yA l).all (·.oneCell')=true:=by
 rw [yA];refine fd.2 (fun v hv=> ?_);have hv:v∈l.map (Value.int .u8):=by simpa using hv
 obtain ⟨_,_,rfl⟩:=Dr.1 hv;rfl
theorem AY.row {w:AH} {g:Nat} {t:Ae} {cs:Array AN} (h:AY w g t cs) (cs':Array AN):AY (w.setRow g cs') g t cs':=setRow_heap w g cs cs' t (0,0) h
def Dy (d:AQ) (w:AH) (e:Ending) (w':AH):Prop:=e=AW (AP (yA d))/\AK w w'
theorem ADz:Qe.length=8:=rfl
theorem AE9 {s:Fd} (t:Int) (h:s.h.length=8):(endP s t).length=8:=by unfold endP;split <;> simp only [absP,OJ,h]
theorem aL:∀(ps:List (AQ)) (s:Fd),s.h.length=8/\s.b.length=64/\s.k < 64->(Ol s ps).h.length=8
 | [],_,h=>h.1
 | p::ps,s,h=>aL ps (J0 s p) (kV p s h)
theorem AEi (P:Option Aa) (np pc:Nat) (ps:List (AQ)) (w:AH) (hT:Cc w) (hp:Ag 1 V4 w (AA P np pc) ps):
 AS prog 67 #[AA P np pc] w (Dy (PO ps) w):=by
 have hz:yA (zeros 32)=(List.replicate 32 (Value.int .u8 0)).toArray:=by simp [yA,zeros]
 have ho:AY (w.alloc (AO (yA (zeros 32)) 34)) w.heap.size 34 (yA (zeros 32)):=AY.new _ _ _;have hb1:AK w (w.alloc (AO (yA (zeros 32)) 34)):=(Af _ _).alloc (Ac _) _;rw [hz] at ho hb1;simp only [List.replicate] at ho hb1;obtain ⟨HO,HB1,HZ⟩:=BB ho hb1 hz;have N2:AI (∀W,AK w W->w.heap.size<=W.heap.size->AY (W.alloc (AO (uA Qe) 182)) W.heap.size 182 (uA Qe)->AS prog 94 #[.func (.func 95) #[AU (some ⟨W.heap.size,0,none⟩)] #[],AA P np pc] (W.alloc (AO (uA Qe) 182)) fun e w'=>e=AW (BU #[])/\(W.alloc (AO (uA Qe) 182)).grownBy w' (some W.heap.size)/\AY w' W.heap.size 182 (uA (endP (Ol ⟨Qe,zeros 64,0⟩ ps) (Sf 0 ps)))):=AF (fun W h1 h2 h3=>
  y9 W.heap.size np pc P Qe ps w _ hT (h1.alloc h2 _) h2 ADz h3 hp)
 obtain ⟨H,hH⟩:=Ad (endP (Ol ⟨Qe,zeros 64,0⟩ ps) (Sf 0 ps));have HL:AI (H.length=8):=AF (by rw [hH];exact AE9 _ (aL ps _ ⟨rfl,by simp [zeros],by show 0 < 64;omega⟩));have HR:AI (PO ps=Nj H 32):=AF (by rw [PO,hH]);rw [HR.o];rw [<-hH] at N2;clear hH HR ho hb1 hz hT hp;have hu:uA Qe=#[AB .u32 1779033703,AB .u32 3144134277,AB .u32 1013904242,AB .u32 2773480762,AB .u32 1359893119,AB .u32 2600822924,AB .u32 528734635,AB .u32 1541459225]:=rfl;rw [hu] at N2;have HC:=AF (N2.o _ HB1.o AZ (AY.new _ _ _));rw [Ev] at HC;clear hu N2;go_enter func67,ntmps67;have hmf:∀(fn:Fn) (first cap:Array AN) (w:AH),(Instr.makeFunc fn first cap).run prog w=.ok (.func fn first cap) w:=fun _ _ _ _=>rfl;go_wp2_with (go_at_call 94;refine HC.o.mono ?_;rintro e w2 ⟨rfl,hg2,hk2⟩);have kd:AY w2 w.heap.size 34 (yA (Nj H 0)):=by have h1:=(HO.o.alloc _).grown hg2 FT;rw [Nj,HZ.o];exact h1
 have kb:AK w w2:=HB1.o.alloc AZ _ |>.trans (below_of_grown hg2 AG Bd);obtain ⟨KD,KB,KH⟩:=BB kd kb hk2;clear kd kb hg2 hk2 HO HB1 HZ HC hmf;go_loopg [9] 32 (fun q i wr=>∃k:Nat,k<=32/\q=32 - k/\i=AB AE k/\AY wr w.heap.size 34 (yA (Nj H k))/\AY wr (w.heap.size+1) 182 (uA H)/\AK w wr)
 case atStart=>exact ⟨0,Ay _,rfl,rfl,KD.o,KH.o,KB.o⟩
 clear KD KH KB;obtain ⟨k,hk,hq,rfl,h1,h2,h3⟩:=hrel;obtain ⟨HQ,KD,KH,KB⟩:=CD hq h1 h2 h3;have hl1:=h1.lt;have hl2:=h2.lt;by_cases hlt:k < 32
 ·have hk0:=Int.natCast_nonneg k
  have hk1:(k:Int) < 32:=AG
  have c1:=Ki h1 (i:=k) (by rw [bq];exact hlt);have fz:=h1.frozen k;have c2:=MW h2 (i:=k / 4) (by have:=HL.o;omega);have hq0:(0:Int)<=(k:Int) / 4:=AG
  have hq1:(k:Int) / 4 < 8:=AG
  have hr0:(0:Int)<=24 - 8*((k:Int) % 4):=AG
  have hr1:(24 - 8*((k:Int) % 4)).toNat=24 - 8*(k % 4):=AG
  clear hq h1 h2 h3;go_wp2;go_roundg (32 - (k+1))
  case measure=>exact Bi
  case rel=>exact ⟨k+1,by omega,rfl,by go_num,XS KD.o k _,KH.o.far (by show w.heap.size+1≠w.heap.size;omega) _,KB.o.setCell (Ac _) _⟩
 have h32:k=32:=AG
 subst h32;clear hq h1 h2 h3;have FJ:(prog.info? 34).map (·.size)=some (yA (Nj H 32)).size:=by rw [CJ,bq];kernel_rfl
 go_wp2_with (first | (refine Ci rfl 34 (AX 2) rfl w.heap.size rfl 34 (yA (Nj H 32)) (0,0) _ KD.o underlying34 rfl FJ ?_) | (refine ZE rfl 34 (AX 2) (AX 25) rfl w.heap.size (yA (Nj H 32)) rfl rfl 34 (yA (Nj H 32)) KD.o FJ rfl (Kh _) ?_));exact FN (OV rfl _ _ w.heap.size 34 (yA (Nj H 32)) (0,0) _ rfl (KD.o.row _) underlying34 rfl FJ) rfl ⟨rfl,below_setRow KB.o (Ac _) _⟩
def az (s:ByteArray):AQ:=s.data.toList.map fun c=>(c.toNat:Int)
theorem ay (s:ByteArray):(az s).length=s.size:=by unfold az;rw [CY];rfl
theorem ak {P:BE} (w:AH) {ops:Array Oper} {rest:List Oper} {o:Oper} {a:Act} {Q:Exit->Act->AH->Prop} (hgd:o.guard=none) (src dst e:Ae) (x:Operand) (ho:o.op=.convert src dst x) (s:ByteArray) (hx:a.eval x=.string s)
 (hs:P.underlying src=some .string) (hd:P.underlying dst=some (.slice e)) (he:P.underlying e=some (.int .u8)) (hsz:s.size<=1000)
 (h:∀cap w',Ag 1 JH w' (AA (some ⟨w.heap.size,0,none⟩) s.size cap) (az s)->AK w w'->w.heap.size < w'.heap.size->wpList P ops Q rest (a.put o.dst (AA (some ⟨w.heap.size,0,none⟩) s.size cap)) w'):wpList P ops Q (o::rest) a w:=by
 refine wpList_plain hgd fun _ hK=> ?_;unfold Oper.wp execOp;simp only [ho,hx,Cp,run_bytes_of_string w src dst e s hs hd he,Result.andThen_ok,DL];obtain ⟨cap,hcap⟩:=Ad (grownCap w s.size 0 e);have h1:s.size<=cap:=by rw [hcap];exact grownCap_ge _ _ _ _
 have h2:cap<=maxLen:=by rw [hcap];exact grownCap_le_maxLen _ _ _ _ Gx
 rw [<-hcap];refine hK _ _ (h _ _ ⟨_,_,by rw [ay],by rw [ay];exact h1,h2,fun i y hi=> ?_⟩ ((Af w.heap.size w).drew.alloc (Ac _) _) AZ);have hil:=(BF.1 hi).1;rw [ay] at hil;refine ⟨w.heap.size,0,[AB Am y],rfl,by simp,rfl,fun j u hu=> ?_,rfl⟩;rcases j with _ | j
 ·simp only [Ao,Bz] at hu
  subst hu;have hh:(w.drew.alloc (AO (bytesRow s cap) e ((bytesRow s cap).size,(bytesRow s cap).size+1))).heap[w.heap.size]? =some (AO (bytesRow s cap) e ((bytesRow s cap).size,(bytesRow s cap).size+1)):=heap_alloc_new w.drew _;simp only [World.cell?,hh];have hds:s.data.size=s.size:=rfl;rw [Es,Ga,Ee,bytesRow,P1 (by rw [Array.size_map];omega),Array.getElem?_map];rw [az,Bg] at hi;obtain ⟨c,hc,rfl⟩:=EC.1 hi;have hc':s.data[i]? =some c:=by simpa using hc
  rw [hc'];rfl
 · simp at hu
theorem Da {P:BE} {w:AH} {ops:Array Oper} {rest:List Oper} {o:Oper} {a:Act} {Q:Exit->Act->AH->Prop} (hgd:o.guard=none) (ty:Ae) (x y:Operand) (ho:o.op=.store ty x y)
 (g:Nat) (d:AQ) (hx:a.eval x=AU (some ⟨g,0,none⟩)) (hy:a.eval y=AP (yA d)) (t:Ae) (old:Array AN) (hg:AY w g t old) (hi:(P.info? ty).map (·.size)=some 32) (hold:old.size=32) (hd:d.length=32)
 (h:∀w',AY w' g t (yA d)->BL g w w'->wpList P ops Q rest (a.put o.dst undef) w'):wpList P ops Q (o::rest) a w:=by
 have hs:(yA d).size=32:=by rw [CJ,hd]
 exact ZE hgd ty x y ho g (yA d) hx hy t old hg ft gE (Kh d) (h _ (hg.row _) (below_setRow (Af _ _) (Ac _) _))
theorem Cb {P:BE} {w:AH} {ops:Array Oper} {rest:List Oper} {o:Oper} {a:Act} {Q:Exit->Act->AH->Prop} (hgd:o.guard=none) (ty:Ae) (x:Operand) (ho:o.op=.load ty x)
 (g:Nat) (d:AQ) (hx:a.eval x=AU (some ⟨g,0,none⟩)) (t:Ae) (ds:TypeDesc) (hg:AY w g t (yA d)) (hu:P.underlying ty=some ds) (hds:(match ds with | .struct _ | .array _ _=>true | _=>false)=true) (hi:(P.info? ty).map (·.size)=some 32) (hd:d.length=32)
 (h:wpList P ops Q rest (a.put o.dst (AP (yA d))) w):wpList P ops Q (o::rest) a w:=
 Ci hgd ty x ho g hx t (yA d) (0,0) ds hg hu hds gQ h
theorem V9 {P:BE} {fn:Func} {a:Act} {p:Tmp} {ty:Ae} {t:Ae} {ds:TypeDesc} {d:AQ} {g:Nat} {w0 w:AH} {x:Exit} (hx:x=.ret\/x=.normal) (h:fn.results=#[.cell p ty]) (hp:a.tmps.getD p undef=AU (some ⟨g,0,none⟩)) (hdf:a.defers=[]) (hg:AY w g t (yA d)) (hu:P.underlying ty=some ds) (hds:(match ds with | .struct _ | .array _ _=>true | _=>false)=true) (hi:(P.info? ty).map (·.size)=some 32) (hd:d.length=32) (hb:AK w0 w):
 bodyPost P fn (Dy d w0) x a w:=by
 have hr:=OV (P:=P) h a.tmps w g t (yA d) (0,0) ds hp hg hu hds gQ;exact nL
theorem JJ (w:AH) (t:Ae):AY (w.alloc (AO #[AB Am 0,AB Am 0,AB Am 0,AB Am 0,AB Am 0,AB Am 0,AB Am 0,AB Am 0,AB Am 0,AB Am 0,AB Am 0,AB Am 0,AB Am 0,AB Am 0,AB Am 0,AB Am 0,AB Am 0,AB Am 0,AB Am 0,AB Am 0,AB Am 0,AB Am 0,AB Am 0,AB Am 0,AB Am 0,AB Am 0,AB Am 0,AB Am 0,AB Am 0,AB Am 0,AB Am 0,AB Am 0] t)) w.heap.size t (yA (zeros 32))/\AK w (w.alloc (AO #[AB Am 0,AB Am 0,AB Am 0,AB Am 0,AB Am 0,AB Am 0,AB Am 0,AB Am 0,AB Am 0,AB Am 0,AB Am 0,AB Am 0,AB Am 0,AB Am 0,AB Am 0,AB Am 0,AB Am 0,AB Am 0,AB Am 0,AB Am 0,AB Am 0,AB Am 0,AB Am 0,AB Am 0,AB Am 0,AB Am 0,AB Am 0,AB Am 0,AB Am 0,AB Am 0,AB Am 0,AB Am 0] t))/\(w.alloc (AO #[AB Am 0,AB Am 0,AB Am 0,AB Am 0,AB Am 0,AB Am 0,AB Am 0,AB Am 0,AB Am 0,AB Am 0,AB Am 0,AB Am 0,AB Am 0,AB Am 0,AB Am 0,AB Am 0,AB Am 0,AB Am 0,AB Am 0,AB Am 0,AB Am 0,AB Am 0,AB Am 0,AB Am 0,AB Am 0,AB Am 0,AB Am 0,AB Am 0,AB Am 0,AB Am 0,AB Am 0,AB Am 0] t)).heap.size=w.heap.size+1:=
 ⟨AY.new _ _ _,(Af _ _).alloc (Ac _) _,by simp⟩
theorem AGS {W:AH} {A:Option Aa} {n c:Nat} {l:AQ} {T:Ae} (h:Ag 1 JH W (AA A n c) l):Ag 1 V4 (W.alloc (AO #[AA A n c] T)) (AA (some ⟨W.heap.size,0,none⟩) 1 1) [l]:=
 ⟨_,1,rfl,Ac _,by unfold maxLen;omega,fun i x hi=>by
  rcases i with _ | i
  ·simp only [Ao,Bz] at hi
   subst hi;refine ⟨W.heap.size,0,[AA A n c],rfl,by simp,rfl,fun j u hu=> ?_,A,n,c,rfl,h.mono QU (BK _ _)⟩;rcases j with _ | j
   ·have:=(AY.new W T #[AA A n c]).cell 0
    rw [<-hu];exact this
   · simp at hu
  · simp at hi⟩
theorem vD {W:AH} {A B:Option Aa} {n c m d:Nat} {l r:AQ} {T:Ae} (h:Ag 1 JH W (AA A n c) l) (k:Ag 1 JH W (AA B m d) r):Ag 1 V4 (W.alloc (AO #[AA A n c,AA B m d] T)) (AA (some ⟨W.heap.size,0,none⟩) 2 2) [l,r]:=
 ⟨_,2,rfl,Ac _,by unfold maxLen;omega,fun i x hi=>by
  have kb:=AY.new W T #[AA A n c,AA B m d];have hb:AK W (W.alloc (AO #[AA A n c,AA B m d] T)):=(Af _ _).alloc (Ac _) _;rcases i with _ | _ | i
  ·simp only [Ao,Bz] at hi
   subst hi;refine ⟨W.heap.size,0,[AA A n c],rfl,by simp,rfl,fun j u hu=> ?_,A,n,c,rfl,h.mono QU hb⟩;rcases j with _ | j
   · rw [<-hu];exact kb.cell 0
   · simp at hu
  ·simp only [BA,Ao,Bz] at hi
   subst hi;refine ⟨W.heap.size,0,[AA B m d],rfl,by simp,rfl,fun j u hu=> ?_,B,m,d,rfl,k.mono QU hb⟩;rcases j with _ | j
   · rw [<-hu];exact kb.cell 1
   · simp at hu
  · simp at hi⟩
theorem Gm {w:AH} {g:Nat} {t:Ae} {d:AQ} (h:AY w g t (yA d)) (hd:d.length<=1000):Ag 1 JH w (AA (some ⟨g,0,none⟩) d.length d.length) d:=
 ⟨_,_,rfl,Ac _,by unfold maxLen;omega,fun i x hi=>by
  have hil:=(BF.1 hi).1;refine ⟨g,0,[AB Am x],rfl,h.lt,rfl,fun j u hu=> ?_,rfl⟩;rcases j with _ | j
  ·simp only [Ao,Bz] at hu
   subst hu;have:=Ki h hil;rw [Ck,hi] at this;rw [Es,Ga,Ee];exact this
  · simp at hu⟩
theorem Il (tag:ByteArray) (A:Option Aa) (n c:Nat) (bs:AQ) (w:AH) (hsz:tag.size<=1000) (hT:Cc w) (hb:Ag 1 JH w (AA A n c) bs):
 AS prog 48 #[.string tag,AA A n c] w (Dy (Aw (az tag) bs) w):=by
 obtain ⟨HT,HB⟩:=Al hT hb;have HH:AI (∀(P:Option Aa) (np pc:Nat) (ps:List (AQ)) (W:AH),AK w W->Ag 1 V4 W (AA P np pc) ps->AS prog 67 #[AA P np pc] W (Dy (PO ps) W)):=AF (fun P np pc ps W hW hp=>AEi P np pc ps W (HT.o.below hW) hp);have hq:=JJ w 34;clear hT hb;go_enter func48,ntmps48;go_upto_region 1 with fail;generalize (w.alloc _)=wa at hq ⊢;obtain ⟨ka,hba,hza⟩:=hq;obtain ⟨KA,Rj⟩:=Al ka hba;clear ka hba;go_wp2_with (refine ak _ rfl 9 104 5 (AX 6) rfl tag rfl underlying9 underlying104 underlying5 hsz ?_;intro cap w1 hs1 hb1 hz1);rw [hza] at hs1;have LG:=AF hs1;have HB1:AI (AK w w1):=AF (AV Rj.o hb1);have HZ1:AI (w.heap.size+1 < w1.heap.size):=AF AG;have KA1:AI (AY w1 w.heap.size 34 (yA (zeros 32))):=AF (KA.o.below hb1 AG);have HC:=AF (HH.o _ _ _ _ _ (HB1.o.alloc HB1.o.size _) (AGS LG.o (T:=104)));clear hs1 hb1 hz1 hza KA Rj;refine HC.o.mono ?_;rintro e w2 ⟨rfl,hb2⟩;obtain ⟨d1,hd1⟩:=Ad (PO [az tag]);have UC:AI (d1.length=32):=AF (by rw [hd1];exact Tq _);have fU:AI (Aw (az tag) bs=PO [d1,bs]):=AF (by rw [hd1];rfl);rw [<-hd1];have HB2:AI (AK w w2):=AF ((HB1.o.alloc HB1.o.size _).trans (hb2.mono (HB1.o.alloc HB1.o.size _).size));have fD:AI (AY w2 w.heap.size 34 (yA (zeros 32))):=AF ((KA1.o.alloc _).below hb2 (by simp;have:=HZ1.o;omega));have hz2:w.heap.size < w2.heap.size:=fD.o.lt;clear hb2 hd1 HC LG;have FJ:(prog.info? 34).map (·.size)=some 32:=AJ
 have HI:=AF FJ;clear FJ;have hq:=JJ w2 34;go_wp2_with (generalize (w2.alloc _)=w3 at hq ⊢;obtain ⟨k3,hb3,hz3⟩:=hq;refine Da rfl 34 (AX 5) (AX 9) rfl w2.heap.size d1 rfl rfl 34 _ k3 HI.o EY UC.o ?_;intro w4 k4 hb4);have AEe:AK w2 w4:=hb3.trans (hb4.mono (Ac _));have HB4:AI (AK w w4):=AF (AV HB2.o AEe);have hy:=Gm k4 (by rw [UC.o];omega);rw [UC.o] at hy;have HC:=AF (HH.o _ _ _ _ _ (HB4.o.alloc HB4.o.size _) (vD hy (HB.o.mono QU HB4.o) (T:=104)));have KA4:AI (AY w4 w.heap.size 34 (yA (zeros 32))):=AF (fD.o.below AEe hz2);have hz4:w.heap.size < w4.heap.size:=KA4.o.lt;clear k3 hb3 hz3 k4 hb4 AEe hy;refine HC.o.mono ?_;rintro e w5 ⟨rfl,hb5⟩;have Cg:AI (AK w w5):=AF ((HB4.o.alloc HB4.o.size _).trans (hb5.mono (HB4.o.alloc HB4.o.size _).size));have KA5:AI (AY w5 w.heap.size 34 (yA (zeros 32))):=AF ((KA4.o.alloc _).below hb5 Bd);clear hb5 HC;go_wp2_with (refine Da rfl 34 (AX 4) (AX 13) rfl w.heap.size _ rfl rfl 34 _ KA5.o HI.o EY (Tq _) ?_;intro w6 k6 hb6);rw [fU.o];exact V9 (.inl rfl) rfl rfl rfl k6 underlying34 rfl HI.o (Tq _) (Cg.o.trans hb6)
theorem NU:One JH:=by rintro w cs x rfl u hu;simp only [F5] at hu;subst hu;rfl
theorem P7 {P:BE} {α:Type} {sz:Nat} {R:AH->List AN->α->Prop} (w:AH) {ops:Array Oper} {o:Oper} {a:Act} {K:Act->AH->Prop} {Q:Exit->Act->AH->Prop} {E:Prop} (hgd:o.guard=none) (s x:Operand) (t e:Ae)
 (hop:o.op=.call {callee:=.builtin .append,args:=#[s,x],argTypes:=#[t,t]}) (i:TypeInfo) (z:AN) (bytes:Nat) (ht:P.underlying t=some (.slice e)) (hi:P.info? e=some i) (hz:i.zero=some z) (hsize:i.size=sz) (hby:i.bytes=bytes) (hzs:z.cells.size=sz) (hsz:0 < sz) (ho:One R)
 (base:Nat) (v:AN) (n:Nat) (xs:List AN) (hs:a.eval s=v) (hown:w.ownsRow base e sz v n xs) (A:Option Aa) (m c:Nat) (l:List α) (hx:a.eval x=AA A m c) (hr:Ag sz R w (AA A m c) l)
 (hn:n+m<=maxLen) (hb:(n+m)*bytes<=140737488355328) (hbase:base<=w.heap.size)
 (h:∀v' w' cs,Ap sz R w cs l->w'.ownsRow base e sz v' (n+m) (xs++cs)->w.grownBy w' v.ownBlock->(v'.ownBlock=v.ownBlock\/v'.ownBlock=some w.heap.size)->K (a.put o.dst v') w'):
 if Region.wanted o (yielded ops a.tmps)=true then Oper.wp P o a w K Q else E:=by
 have hw:Region.wanted o (yielded ops a.tmps)=true:=by simp [Region.wanted,hgd]
 rw [Ak hw];exact RF w s x t e hop i z bytes ht hi hz hsize hby hzs hsz ho base v n xs hs hown A m c l hx hr hn hb hbase h
theorem AJq (w:AH) (base:Nat) (e:Ae) (cs:Array AN) (hcs:cs.size=64) (hb:base<=w.heap.size):(w.alloc (AO cs e)).ownsRow base e 1 (AA (some ⟨w.heap.size,0,none⟩) 0 64) 0 []:=
 ⟨by simp,.inr ⟨w.heap.size,64,cs,rfl,hb,AY.new w e _,by omega,by decide,by omega,by simp⟩⟩
theorem Ir {w:AH} {xs:List AN} {l:AQ} (h:Ap 1 JH w xs l):xs=l.map (Value.int .u8):=by
 obtain ⟨h1,h2⟩:=h;apply OW;intro i;rcases FL i l.length with hi | hi
 ·have h3:=h2 i l[i] (BN hi)
  unfold JH at h3;rw [Bg,BN hi];have h4:((xs.drop (i*1)).take 1)[0]? =some (Value.int .u8 l[i]):=by rw [h3];rfl
  rw [Jg AG,EO] at h4;simpa using h4
 · rw [Dh AG,Dh (by simpa using hi)]
theorem AHd (W:AH):(Instr.makeSlice 104 (AB AE 0) (AB AE 64)).run prog W=.ok (AA (some ⟨W.heap.size,0,none⟩) 0 64) (W.alloc (AO (madeCells #[AB Am 0] 64) 5)):=by
 have hinfo:(prog.info? 5).map (fun i=>(i.zero,i.size,i.bytes))=some (some (AB Am 0),1,1):=AJ
 obtain ⟨i,hi,hzz⟩:=EC.1 hinfo;simp only [Gd] at hzz;obtain ⟨hz,hs,hb⟩:=hzz;have hr:=run_make (P:=prog) W 104 5 i (AB Am 0) underlying104 hi hz .i64 .i64 0 64 AG AG (by rw [hb];omega) AG;rw [hs] at hr;exact hr
theorem made_size (z:AN) (n:Nat):(madeCells #[z] n).size=n:=size_madeCells _ _
theorem AFG (w:AH) (l:AQ):Ap 1 JH w (l.map (Value.int .u8)) l:=by
 refine ⟨by simp,fun i x hi=> ?_⟩;have hil:=(BF.1 hi).1;unfold JH;apply OW;intro j;rcases j with _ | j
 · rw [Jg AG,EO,Ga,Ee,Bg,hi];rfl
 · rw [Dh Ql];rfl
theorem VJ {w:AH} {base n:Nat} {e:Ae} {v:AN} {l:AQ} (h:w.ownsRow base e 1 v n (l.map (Value.int .u8))) (h0:0 < n) (hn:n=l.length):∃g c,v=AA (some ⟨g,0,none⟩) n c/\Ag 1 JH w v l:=by
 rcases h.2 with ⟨_,h1⟩ | ⟨g,cap,_,hv,_⟩
 · omega
 · exact ⟨g,cap,hv,B9 h (AFG w _) hn⟩
theorem lD {a w w':AH} {base n sz B:Nat} {e:Ae} {v:AN} {xs:List AN} (h:BL B a w) (hg:w.grownBy w' v.ownBlock) (ho:w.ownsRow base e sz v n xs) (hB:B<=base) (hs:B<=w.heap.size):BL B a w':=
 h.grown hg hs (fun r e=>BH hB (ho.lt r e).1)
theorem jm {w:AH} {g:Nat} {t:Ae} {l d:AQ} (h:AY w g t (yA l)) (hl:l.length=d.length):AY (w.setCells g 0 (d.map (Value.int .u8))) g t (yA d):=by
 have h1:=P5 d 0 w l h AG;have h2:splice l 0 d=d:=by unfold splice;rw [FQ AG];simp
 rwa [h2] at h1
theorem oK {w:AH} {g:Nat} {t:Ae} {l d:AQ} (h:AY w g t (yA l)) (hl:l.length=d.length):w.there g 0 (d.map (Value.int .u8)).length:=fun j hj=>by rw [CY] at hj;rw [Es];exact ⟨by rw [Ki h AG];rfl,h.frozen j⟩
theorem Zm (d:AQ):∀v∈d.map (Value.int .u8),v.oneCell'=true:=fun v hv=>by obtain ⟨_,_,rfl⟩:=Dr.1 hv;rfl
theorem bJ (a b:AQ) (ha:a.length=32) (hb:b.length=32) (w:AH) (hT:Cc w):
 AS prog 63 #[AP (yA a),AP (yA b)] w (Dy (O6 Aw a b) w):=by
 obtain ⟨HT,HA,HB⟩:=BB hT ha hb;clear hT ha hb;obtain ⟨D,hD⟩:=Ad (O6 Aw a b);have ET:AI (D.length=32):=AF U4;have HC:AI (∀(A:Option Aa) (c:Nat) (W:AH),AK w W->Ag 1 JH W (AA A 64 c) (a++b)->AS prog 48 #[.string {data:=#[110,111,100,101]},AA A 64 c] W (Dy D W)):=AF (fun A c W hW hl=>by rw [hD];exact Il {data:=#[110,111,100,101]} A 64 c (a++b) W Ai (HT.o.below hW) hl)
 rw [<-hD];clear hD;go_enter func63,ntmps63;go_upto_region 1 with fail;have hq:=JJ ((w.alloc (AO (yA a) 34)).alloc (AO (yA b) 34)) 34;have ka:AY ((w.alloc (AO (yA a) 34)).alloc (AO (yA b) 34)) w.heap.size 34 (yA a):=(AY.new _ _ _).alloc _;have kb:AY ((w.alloc (AO (yA a) 34)).alloc (AO (yA b) 34)) (w.heap.size+1) 34 (yA b):=by
  have:=AY.new (w.alloc (AO (yA a) 34)) 34 (yA b)
  rwa [Ev] at this
 have h0:AK w ((w.alloc (AO (yA a) 34)).alloc (AO (yA b) 34)):=(BK _ _).alloc AZ _;have hs0:((w.alloc (AO (yA a) 34)).alloc (AO (yA b) 34)).heap.size=w.heap.size+1+1:=AZ
 generalize ((w.alloc _).alloc _)=w0 at hq ka kb h0 hs0 ⊢;generalize (w0.alloc _)=wa at hq ⊢;rw [hs0] at hq;obtain ⟨kr,hba,hza⟩:=hq;have ka:=ka.below hba AG;have kb:=kb.below hba AG;have H0:AI (AK w wa):=AF (h0.trans (hba.mono AG));obtain ⟨KA,KB,KR,Ye⟩:=CD ka kb kr hza;clear h0 hs0 hba ka kb kr hza;obtain ⟨j0,hj,hjz⟩:=EC.1 (show (prog.info? 5).map (fun i=>(i.zero,i.size,i.bytes))=some (some (AB Am 0),1,1) by kernel_rfl);simp only [Gd] at hjz;have HJ:=AF (And.intro hj hjz);have FJ:(prog.info? 34).map (·.size)=some 32:=AJ
 have HI:=AF FJ;clear hj hjz FJ;have hmk:=AHd wa.drew;have k0:(wa.alloc (AO (madeCells #[AB Am 0] 64) 5)).drew.ownsRow wa.heap.size 5 1 (AA (some ⟨wa.heap.size,0,none⟩) 0 64) 0 []:=AJq wa wa.heap.size 5 (madeCells #[AB Am 0] 64) (made_size _ _) (Ac _);have hb1:AK wa (wa.alloc (AO (madeCells #[AB Am 0] 64) 5)).drew:=(BK _ _).drew;have hya:=Gm (KA.o.below hb1 SN) (by rw [HA.o];omega);rw [HA.o] at hya;obtain ⟨K0,HB1,HYA⟩:=BB k0 hb1 hya;clear k0 hb1 hya
 go_region_held3 (fun _=>True) (trivial) (first
  | (
   refine P7 _ DR (AX 5) (AX 6) 104 5 DR j0 _ 1 underlying104 HJ.o.1 HJ.o.2.1 HJ.o.2.2.1 HJ.o.2.2.2 rfl Ai (R:=JH) NU wa.heap.size _ 0 [] DR K0.o _ 32 32 a DR HYA.o ?_ ?_ ?_ ?_
   · exact SX
   · omega
   · simp
   intro v7 w7 cs7 aH Gh Ec vW;have hb7:AK wa w7:=HB1.o.grown Ec AZ Nl;have hyb:=Gm (KB.o.below hb7 SN) (by rw [HB.o];omega);rw [HB.o] at hyb;obtain rfl:=Ir aH;rw [Es,IJ] at Gh;obtain ⟨rL,HYB,D4⟩:=BB Gh hyb hb7;clear aH Gh Ec vW hyb hb7)
  | (
   refine P7 _ DR (AX 7) (AX 8) 104 5 DR j0 _ 1 underlying104 HJ.o.1 HJ.o.2.1 HJ.o.2.2.1 HJ.o.2.2.2 rfl Ai (R:=JH) NU wa.heap.size v7 32 (a.map (Value.int .u8)) DR rL.o (some ⟨w.heap.size+1,0,none⟩) 32 32 b DR HYB.o ?_ ?_ ?_ ?_
   · exact SX
   · omega
   · exact D4.o.size
   intro v8 w8 cs8 hc8 ho8 hg8 ha8;obtain rfl:=Ir hc8;have hb8:AK wa w8:=lD D4.o hg8 rL.o (Ac _) D4.o.size;rw [<-DY] at ho8;have ho8:w8.ownsRow wa.heap.size 5 1 v8 64 ((a++b).map (Value.int .u8)):=ho8;obtain ⟨g8,c8,rfl,hs8⟩:=VJ ho8 AG (by rw [CX,HA.o,HB.o]);obtain ⟨HS8,IH⟩:=Al hs8 hb8;clear hc8 ho8 hg8 ha8 hb8 hs8)
  | (
   go_at_call 48;refine (HC.o (some ⟨g8,0,none⟩) c8 w8 (AV H0.o IH.o) HS8.o).mono ?_;rintro e w9 ⟨rfl,Oe⟩;have Nf:=AF (AV IH.o Oe);have KR9:=AF (KR.o.below Nf.o SN);have hth:=oK KR9.o (d:=D) Zd;have hit:(prog.info? 34).map (·.size)=some (D.map (Value.int .u8)).length:=by rw [CY,ET.o];exact HI.o
   have hon:=Zm D;clear Oe))
 have KD:AI (AY (w9.setCells (w.heap.size+1+1) 0 (D.map (Value.int .u8))) (w.heap.size+1+1) 34 (yA D)):=AF (jm KR9.o Zd);have XJ:AI (AK w (w9.setCells (w.heap.size+1+1) 0 (D.map (Value.int .u8)))):=AF (below_setCells _ _ _ _ (AV H0.o Nf.o) AG);exact AAR
def CP (_:AH) (cs:List AN) (d:AQ):Prop:=cs=d.map (Value.int .u8)/\d.length=32
theorem BO:Ep CP:=fun _ _ _ _ _ h=>h
theorem Kr {w:AH} {A:Option Aa} {n c k:Nat} {l:List (AQ)} (h:Ag 32 CP w (AA A n c) l) (hk:k < n):
 ∃b off d,A=some ⟨b,off,none⟩/\b < w.heap.size/\l[k]? =some d/\d.length=32/\Ag 1 JH w (AA (some ⟨b,off+k*32,none⟩) 32 32) d/\w.rangeAt b (off+k*32) (d.map (Value.int .u8)):=by
 obtain ⟨b,off,d,cs,rfl,hb,hl,hcl,hc,rfl,hd⟩:=h.at_ hk;refine ⟨b,off,d,rfl,hb,hl,hd,⟨_,32,by rw [hd],by omega,by unfold maxLen;omega,fun i x hi=> ?_⟩,fun j u hu=> ?_⟩
 ·refine ⟨b,off+k*32,[AB Am x],rfl,hb,rfl,fun j u hu=> ?_,rfl⟩
  rcases j with _ | j
  ·simp only [Ao,Bz] at hu
   subst hu;have:=hc i (AB Am x) (by rw [Bg,hi];rfl);rw [<-this];congr 2;omega
  · simp at hu
 rw [<-hc j u hu];congr 2;omega
theorem Ag.wY {α:Type} {sz:Nat} {R:AH->List AN->α->Prop} {w:AH} {l:List α} {A:Option Aa} {n c k:Nat} (h:Ag sz R w (AA A n c) l) (hk:k<=n):
 Ag sz R w (AA A k c) (l.take k):=by
 obtain ⟨A',cap,e,h1,h2,h3⟩:=h;injection e with e1 e2 e3;subst e1 e2 e3;refine ⟨_,_,by rw [Df,NE hk],by rw [Df];omega,h2,fun i x hi=> ?_⟩;have hil:=(BF.1 hi).1;rw [Df] at hil;rw [Jg AG] at hi;exact h3 i x hi
theorem Oa (l:List Dg):(FF Aw l).length=32:=by
 match l with
 | []=>rw [FF];exact DN _ _
 | [x]=>rw [FF];exact DN _ _
 | x::y::r=>rw [FF];exact DN _ _
theorem jc (A:Option Aa) (c:Nat) (w:AH) (hT:Cc w):AS prog 35 #[AA A 0 c] w (Dy (FF Aw []) w):=by
 obtain ⟨D,hD⟩:=Ad (FF Aw []);have ET:AI (D.length=32):=AF (by rw [hD,FF];exact DN _ _);have HC:AI (∀W,AK w W->AS prog 48 #[.string {data:=#[101,109,112,116,121]},AA none 0 0] W (Dy D W)):=AF (fun W hW=>by rw [hD,FF];exact Il {data:=#[101,109,112,116,121]} none 0 0 [] W Ai (hT.below hW) (Ag.nil _ _ (Ay _)))
 rw [<-hD];have FJ:(prog.info? 34).map (·.size)=some 32:=AJ
 have HI:=AF FJ;clear hD hT FJ;go_enter func35,ntmps35;go_upto_region 1 with fail;have hq:=JJ w 34;generalize (w.alloc _)=wa at hq ⊢;obtain ⟨ka,hba,hza⟩:=hq;obtain ⟨KA,Rj⟩:=Al ka hba;clear ka hba hza;go_wp2_with (first | (go_at_call 48;refine (HC.o _ Rj.o).mono ?_;rintro e w2 ⟨rfl,hb2⟩;have fD:=AF (KA.o.below hb2 KA.o.lt);have HB2:=AF (AV Rj.o hb2);clear hb2) | (refine Da rfl 34 (AX 2) (AX 8) rfl w.heap.size D rfl rfl 34 (yA (zeros 32)) fD.o HI.o EY ET.o ?_;intro w3 k3 hb3));exact AAE
theorem ABQ (b off c:Nat) (d:AQ) (w:AH) (hT:Cc w) (hy:Ag 1 JH w (AA (some ⟨b,off,none⟩) 32 32) d):AS prog 35 #[AA (some ⟨b,off,none⟩) 1 c] w (Dy (FF Aw [d]) w):=by
 obtain ⟨D,hD⟩:=Ad (FF Aw [d]);have ET:AI (D.length=32):=AF (by rw [hD,FF];exact DN _ _);have HC:AI (∀W,AK w W->AS prog 48 #[.string {data:=#[108,101,97,102]},AA (some ⟨b,off,none⟩) 32 32] W (Dy D W)):=AF (fun W hW=>by rw [hD,FF];exact Il {data:=#[108,101,97,102]} (some ⟨b,off,none⟩) 32 32 d W Ai (hT.below hW) (hy.mono QU hW))
 rw [<-hD];have FJ:(prog.info? 34).map (·.size)=some 32:=AJ
 have HI:=AF FJ;clear hD hT FJ hy;go_enter func35,ntmps35;go_upto_region 1 with fail;have hq:=JJ w 34;generalize (w.alloc _)=wa at hq ⊢;obtain ⟨ka,hba,hza⟩:=hq;obtain ⟨KA,Rj⟩:=Al ka hba;clear ka hba hza;go_wp2_with (first | (go_at_call 48;refine (HC.o _ Rj.o).mono ?_;rintro e w2 ⟨rfl,hb2⟩;have fD:=AF (KA.o.below hb2 KA.o.lt);have HB2:=AF (AV Rj.o hb2);clear hb2) | (refine Da rfl 34 (AX 2) (AX 14) rfl w.heap.size D rfl rfl 34 (yA (zeros 32)) fD.o HI.o EY ET.o ?_;intro w3 k3 hb3));exact AAE
theorem ABP (b off n c:Nat) (D D1 D2:AQ) (w:AH) (h2:2<=n) (h256:n<=256) (hc:n<=c) (hT:Cc w) (hD1:D1.length=32) (hD2:D2.length=32) (hD:D=O6 Aw D1 D2)
 (h1:∀W,AK w W->AS prog 35 #[AA (some ⟨b,off,none⟩) (Bn n) c] W (Dy D1 W))
 (h3:∀W,AK w W->AS prog 35 #[AA (some ⟨b,off+Bn n*32,none⟩) (n - Bn n) (c - Bn n)] W (Dy D2 W)):AS prog 35 #[AA (some ⟨b,off,none⟩) n c] w (Dy D w):=by
 have hh:=Ib h2;have hp:=Gj n;have HH:AI (∀W,AS prog 62 #[AB AE n] W fun e w'=>e=AW (AB AE (Bn n:Nat))/\W=w'):=AF (fun W=>WO n h2 h256 W);have ET:AI (D.length=32):=AF U4;have HN:AI (∀W,AK w W->AS prog 63 #[AP (yA D1),AP (yA D2)] W (Dy D W)):=AF (fun W hW=>by rw [hD];exact bJ D1 D2 hD1 hD2 W (hT.below hW));obtain ⟨k,hk⟩:=Ad (Bn n);rw [<-hk] at hh hp HH h1 h3;obtain ⟨H1,H3⟩:=Al h1 h3;have FJ:(prog.info? 34).map (·.size)=some 32:=AJ
 have HI:=AF FJ;have hk0:=Int.natCast_nonneg k
 have hk1:(k:Int)<=(n:Int):=AG
 have hk2:(k:Int)<=(c:Int):=AG
 have hkc:¬c=k:=AG
 have hn0:((n:Int)==0)=false:=by simp;omega
 have hn1:((n:Int)==1)=false:=by simp;omega
 clear hD hT hD1 hD2 h1 h3 hk FJ;go_enter func35,ntmps35;go_upto_region 1 with fail;have hq:=JJ w 34;generalize (w.alloc _)=wa at hq ⊢;obtain ⟨ka,hba,hza⟩:=hq;obtain ⟨KA,Rj⟩:=Al ka hba;clear ka hba hza;go_wp2_with (go_at_call 62;refine (HH.o _).mono ?_;rintro e w2 ⟨rfl,rfl⟩)
 go_region_held3 (fun _=>True) (trivial) (first
  | (
   go_at_call 35
   (with_reducible refine (H1.o _ Rj.o.drew).mono ?_)
   rintro e w1 ⟨rfl,hb1⟩;obtain ⟨HB1,KA1⟩:=Al (Rj.o.drew.trans (hb1.mono Rj.o.size)) (KA.o.drew.below hb1 KA.o.lt);clear hb1)
  | (
   go_at_call 35
   (with_reducible refine (H3.o w1 HB1.o).mono ?_)
   rintro e w3 ⟨rfl,hb3⟩;obtain ⟨HB3,aQ⟩:=Al (AV HB1.o hb3) (KA1.o.below hb3 KA1.o.lt);clear hb3)
  | (
   go_at_call 63
   (with_reducible refine (HN.o w3 HB3.o).mono ?_)
   rintro e w4 ⟨rfl,hb4⟩;obtain ⟨HB4,KA4⟩:=Al (AV HB3.o hb4) (aQ.o.below hb4 aQ.o.lt);have hth:=oK KA4.o (d:=D) Zd;have hit:(prog.info? 34).map (·.size)=some (D.map (Value.int .u8)).length:=by rw [CY,ET.o];exact HI.o
   have hon:=Zm D;clear hb4))
 have KD:AI (AY (w4.setCells w.heap.size 0 (D.map (Value.int .u8))) w.heap.size 34 (yA D)):=AF (jm KA4.o Zd);have XJ:AI (AK w (w4.setCells w.heap.size 0 (D.map (Value.int .u8)))):=AF (below_setCells _ _ _ _ HB4.o (Ac _));exact AAR
theorem aw:∀(m:Nat) (A:Option Aa) (n c:Nat) (l:List (AQ)) (w:AH),n<=m->n<=256->Cc w->Ag 32 CP w (AA A n c) l->
 AS prog 35 #[AA A n c] w (Dy (FF Aw l) w):=by
 intro m
 induction m with
 |
  zero=>
  intro A n c l w hm h256 hT hs;have hl:l=[]:=Jh (by have:=hs.len;omega);subst hl;obtain rfl:n=0:=AG
  exact jc A c w hT
 |
  succ m ih=>
  intro A n c l w hm h256 hT hs;have hln:=hs.len;rcases FL n 2 with h2 | h2
  ·rcases Pt n with h0 | h0
   ·subst h0
    have hl:l=[]:=Jh AG;subst hl;exact jc A c w hT
   obtain rfl:n=1:=AG
   obtain ⟨b,off,d,rfl,hb,hd,_,hy,_⟩:=Kr hs (k:=0) AG;obtain ⟨x,rfl⟩:∃x,l=[x]:=by
    match l,hln with
    | [x],_=>exact ⟨x,rfl⟩
   simp only [Ao,Bz] at hd;subst hd;rw [Ru,Ee] at hy;exact ABQ b off c x w hT hy
  obtain ⟨b,off,_,rfl,_,_,_,_,_⟩:=Kr hs (k:=0) AG;have hh:=Ib h2;have hp:=Gj n;have ht:=hs.wY (k:=Bn n) AG;have hd:=hs.nB (k:=Bn n) AG;rw [jb Aw AG];rw [<-hln];refine ABP b off n c _ (FF Aw (l.take (Bn n))) (FF Aw (l.drop (Bn n))) w h2 h256 hs.le.1 hT (Oa _) (Oa _) rfl (fun W hW=>ih _ _ _ _ W AG AG (hT.below hW) (ht.mono BO hW)) (fun W hW=>ih _ _ _ _ W AG AG (hT.below hW) (hd.mono BO hW))
theorem TC:One CP:=by rintro w cs x ⟨rfl,_⟩ u hu;obtain ⟨_,_,rfl⟩:=Dr.1 hu;rfl
def TG (l:List (AQ)) (w:AH) (e:Ending) (w':AH):Prop:=∃v cs,e=AW v/\w'.ownsRow w.heap.size 34 32 v l.length cs/\Ap 32 CP w' cs l/\AK w w'
def nC (l:List (AQ)) (k:Int) (w:AH) (e:Ending) (w':AH):Prop:=∃v cs,e=AW (BU #[v,AB AE k])/\w'.ownsRow w.heap.size 34 32 v l.length cs/\Ap 32 CP w' cs l/\AK w w'
theorem Ti:∀(m:Nat) (l:List Dg) (k:Nat),l.length<=m->(GD Aw l k).length<=l.length
 | 0,l,k,h=>by rw [GD,Hd AG];simp
 |
  m+1,l,k,h=>by
  rw [GD];by_cases h1:l.length<=1
  · rw [Hd h1];simp
  rw [MR h1];have hh:=Ib (n:=l.length) AG;have hp:=Gj l.length;split
  ·have:=Ti m (l.take (Bn l.length)) k Ql
   rw [Df] at this;exact AA4
  have:=Ti m (l.drop (Bn l.length)) (k - Bn l.length) U5;rw [IQ] at this;exact AA4
theorem Eh {w w':AH} {base:Nat} {e:Ae} {size:Nat} {v:AN} {n:Nat} {xs:List AN} (h:w.ownsRow base e size v n xs) (hb:AK w w'):w'.ownsRow base e size v n xs:=
 h.kept (row:=none) ⟨hb.os,hb.tape,hb.output,hb.size,fun k hk _=>hb.block k hk⟩ gR
theorem AEy (xs cs:Array AN) (n:Nat) (h1:xs.size=n) (h2:cs.size=n):Array.foldl (fun cs (x:AN×Nat)=>cs.setIfInBounds x.snd x.fst) cs xs.zipIdx 0 n=xs:=by
 have h:=Great.foldl_set 0 xs.toList 0 cs;simp only [Es] at h;have e:Array.foldl (fun cs (x:AN×Nat)=>cs.setIfInBounds x.snd x.fst) cs xs.zipIdx 0 n=(xs.toList.zipIdx 0).foldl (fun cs x=>cs.setIfInBounds x.2 x.1) cs:=by
  obtain ⟨l⟩:=xs;have hz:(⟨l⟩:Array AN).zipIdx=(l.zipIdx 0).toArray:=AZ
  rw [hz];exact List.foldl_toArray' _ _ _ (by simpa using h1.symm)
 rw [e];apply Array.ext (by rw [h.1,h1,h2]);intro i hi hj;have h3:=h.2 i;rw [Ak ⟨Ay _,by simpa using hj,by omega⟩,Nat.sub_zero] at h3;rw [ZU hi] at h3;simpa [hj] using h3
theorem Zn (W:AH) (D:AQ) (hD:D.length=32):Ag 32 CP (W.alloc (AO (yA D) 34)) (AA (some ⟨W.heap.size,0,none⟩) 1 1) [D]:=by
 have hk:=AY.new W 34 (yA D);refine ⟨_,1,rfl,Ac _,by decide,fun i x hi=> ?_⟩;rcases i with _ | i
 ·simp only [Ao,Bz] at hi
  subst hi;refine ⟨W.heap.size,0,D.map (Value.int .u8),rfl,hk.lt,by simp [hD],fun j u hu=> ?_,rfl,hD⟩;rw [hk.cell,<-hu];unfold yA;simp
 · simp at hi
theorem VW (D:AQ) (h:D.length=32):Array.foldl (fun cs (x:AN×Nat)=>cs.setIfInBounds x.snd x.fst) #[Value.int .u8 0,Value.int .u8 0,Value.int .u8 0,Value.int .u8 0,Value.int .u8 0,Value.int .u8 0,Value.int .u8 0,Value.int .u8 0,Value.int .u8 0,Value.int .u8 0,Value.int .u8 0,Value.int .u8 0,Value.int .u8 0,Value.int .u8 0,Value.int .u8 0,Value.int .u8 0,Value.int .u8 0,Value.int .u8 0,Value.int .u8 0,Value.int .u8 0,Value.int .u8 0,Value.int .u8 0,Value.int .u8 0,Value.int .u8 0,Value.int .u8 0,Value.int .u8 0,Value.int .u8 0,Value.int .u8 0,Value.int .u8 0,Value.int .u8 0,Value.int .u8 0,Value.int .u8 0] (yA D).zipIdx 0 32=yA D:=AEy (yA D) _ 32 (by rw [CJ,h]) rfl
theorem JF {w w':AH} {cs:List AN} {l:List (AQ)} (h:Ap 32 CP w cs l):Ap 32 CP w' cs l:=h
theorem AG5 {w:AH} {base n:Nat} {e:Ae} {v:AN} {cs:List AN} {l:List (AQ)} (h:w.ownsRow base e 32 v n cs) (hc:Ap 32 CP w cs l) (hn:n=l.length):Ag 32 CP w v l:=B9 h hc hn
theorem wV (b off n c k:Nat) (D:AQ) (p:List (AQ)) (w:AH) (h2:2<=n) (h256:n<=256) (hc:n<=c) (hpl:p.length<=n) (hDl:D.length=32) (hlt:k < Bn n)
 (h1:∀W,AK w W->AS prog 130 #[AA (some ⟨b,off,none⟩) (Bn n) c,AB AE k] W (TG p W))
 (h3:∀W,AK w W->AS prog 35 #[AA (some ⟨b,off+Bn n*32,none⟩) (n - Bn n) (c - Bn n)] W (Dy D W)):AS prog 130 #[AA (some ⟨b,off,none⟩) n c,AB AE k] w (TG (p++[D]) w):=by
 have hh:=Ib h2;have hp:=Gj n;have HH:AI (∀W,AS prog 62 #[AB AE n] W fun e w'=>e=AW (AB AE (Bn n:Nat))/\W=w'):=AF (fun W=>WO n h2 h256 W);obtain ⟨g,hg⟩:=Ad (Bn n);rw [<-hg] at hh hp HH h1 h3 hlt;obtain ⟨H1,H3,ET⟩:=BB h1 h3 hDl;have hg0:(0:Int)<=(g:Int):=AG
 have hg1:(g:Int)<=(n:Int):=AG
 have hg2:(g:Int)<=(c:Int):=AG
 have hkc:¬c=g:=AG
 have hn1:((n:Int)==1)=false:=by simp;omega
 have hk0:=Int.natCast_nonneg k
 have hk1:(k:Int) < (g:Int):=AG
 obtain ⟨j0,hj,hjz⟩:=EC.1 (show (prog.info? 34).map (fun i=>(i.zero.map (·.cells.size),i.size,i.bytes))=some (some 32,32,32) by kernel_rfl);simp only [Gd] at hjz;obtain ⟨hjz,hj2,hj3⟩:=hjz;obtain ⟨z0,hz0,hz1⟩:=EC.1 hjz;have HJ:=AF (show _/\_/\_/\_/\_ from ⟨hj,hz0,hz1,hj2,hj3⟩);have hys:(yA D).size=32:=by rw [CJ,hDl]
 have hfl:=VW D hDl;clear hDl h1 h3 hg hj hjz hj2 hj3 hz0 hz1;go_enter func130,ntmps130;go_wp2_with (go_at_call 62;refine (HH.o _).mono ?_;rintro e w2 ⟨rfl,rfl⟩)
 go_region_held3 (fun _=>True) (trivial) (first
  | (
   go_at_call 130
   (with_reducible refine (H1.o w.drew (Af _ _).drew).mono ?_)
   rintro e w1 ⟨v1,cs1,rfl,ho1,hc1,hb1⟩;obtain ⟨IG,J7,HB1⟩:=BB ho1 hc1 (((Af w.heap.size w).drew).trans hb1);clear ho1 hc1 hb1)
  | (
   go_at_call 35
   (with_reducible refine (H3.o w1 HB1.o).mono ?_)
   rintro e w3 ⟨rfl,hb3⟩;obtain ⟨Ja,TV,HB3⟩:=BB (Eh IG.o hb3) (J7.o.mono BO hb3) (AV HB1.o hb3);clear hb3)
  | (
   refine P7 _ DR (AX 19) (AX 24) 37 34 DR j0 z0 32 underlying37 HJ.o.1 HJ.o.2.1 HJ.o.2.2.2.1 HJ.o.2.2.2.2 HJ.o.2.2.1 Ai (R:=CP) TC w.heap.size v1 p.length cs1 DR (Ja.o.alloc _) (some ⟨w3.heap.size,0,none⟩) 1 1 [D] DR (Zn w3 D ET.o) ?_ ?_ ?_ ?_
   · exact SX
   · omega
   · exact BH HB3.o.size AZ
   intro v7 w7 cs7 aH Gh Ec vW;have hb7:AK w w7:=(HB3.o.alloc HB3.o.size _).grown Ec (BH HB3.o.size AZ) (fun r hr=>(IG.o.lt r hr).1);obtain ⟨D4,rL,HC7⟩:=BB hb7 Gh (aH);clear aH Gh Ec vW hb7)
  | fail)
 exact AAX
theorem wW (b off n c k:Nat) (D:AQ) (p:List (AQ)) (w:AH) (h2:2<=n) (h256:n<=256) (hc:n<=c) (hpl:p.length<=n) (hDl:D.length=32) (hge:Bn n<=k) (hkn:k < n)
 (h1:∀W,AK w W->AS prog 130 #[AA (some ⟨b,off+Bn n*32,none⟩) (n - Bn n) (c - Bn n),AB AE ((k - Bn n:Nat):Int)] W (TG p W))
 (h3:∀W,AK w W->AS prog 35 #[AA (some ⟨b,off,none⟩) (Bn n) c] W (Dy D W)):AS prog 130 #[AA (some ⟨b,off,none⟩) n c,AB AE k] w (TG (p++[D]) w):=by
 have hh:=Ib h2;have hp:=Gj n;have HH:AI (∀W,AS prog 62 #[AB AE n] W fun e w'=>e=AW (AB AE (Bn n:Nat))/\W=w'):=AF (fun W=>WO n h2 h256 W);obtain ⟨g,hg⟩:=Ad (Bn n);rw [<-hg] at hh hp HH h1 h3 hge;obtain ⟨H1,H3,ET⟩:=BB h1 h3 hDl;have hg0:(0:Int)<=(g:Int):=AG
 have hg1:(g:Int)<=(n:Int):=AG
 have hg2:(g:Int)<=(c:Int):=AG
 have hkc:¬c=g:=AG
 have hn1:((n:Int)==1)=false:=by simp;omega
 have hk0:=Int.natCast_nonneg k
 have hk1:¬(k:Int) < (g:Int):=AG
 have hkg:IntKind.i64.wrap ((k:Int) - (g:Int))=((k - g:Nat):Int):=by rw [Ca _ AG];omega
 obtain ⟨j0,hj,hjz⟩:=EC.1 (show (prog.info? 34).map (fun i=>(i.zero.map (·.cells.size),i.size,i.bytes))=some (some 32,32,32) by kernel_rfl);simp only [Gd] at hjz;obtain ⟨hjz,hj2,hj3⟩:=hjz;obtain ⟨z0,hz0,hz1⟩:=EC.1 hjz;have HJ:=AF (show _/\_/\_/\_/\_ from ⟨hj,hz0,hz1,hj2,hj3⟩);have hys:(yA D).size=32:=by rw [CJ,hDl]
 have hfl:=VW D hDl;clear hDl h1 h3 hg hj hjz hj2 hj3 hz0 hz1;go_enter func130,ntmps130;go_wp2_with (go_at_call 62;refine (HH.o _).mono ?_;rintro e w2 ⟨rfl,rfl⟩)
 go_region_held3 (fun _=>True) (trivial) (first
  | (
   go_at_call 130
   (with_reducible refine (H1.o w.drew (Af _ _).drew).mono ?_)
   rintro e w1 ⟨v1,cs1,rfl,ho1,hc1,hb1⟩;obtain ⟨IG,J7,HB1⟩:=BB ho1 hc1 (((Af w.heap.size w).drew).trans hb1);clear ho1 hc1 hb1)
  | (
   go_at_call 35
   (with_reducible refine (H3.o w1 HB1.o).mono ?_)
   rintro e w3 ⟨rfl,hb3⟩;obtain ⟨Ja,TV,HB3⟩:=BB (Eh IG.o hb3) (J7.o.mono BO hb3) (AV HB1.o hb3);clear hb3)
  | (
   refine P7 _ DR (AX 32) (AX 37) 37 34 DR j0 z0 32 underlying37 HJ.o.1 HJ.o.2.1 HJ.o.2.2.2.1 HJ.o.2.2.2.2 HJ.o.2.2.1 Ai (R:=CP) TC w.heap.size v1 p.length cs1 DR (Ja.o.alloc _) (some ⟨w3.heap.size,0,none⟩) 1 1 [D] DR (Zn w3 D ET.o) ?_ ?_ ?_ ?_
   · exact SX
   · omega
   · exact BH HB3.o.size AZ
   intro v7 w7 cs7 aH Gh Ec vW;have hb7:AK w w7:=(HB3.o.alloc HB3.o.size _).grown Ec (BH HB3.o.size AZ) (fun r hr=>(IG.o.lt r hr).1);obtain ⟨D4,rL,HC7⟩:=BB hb7 Gh (aH);clear aH Gh Ec vW hb7)
  | fail)
 exact AAX
theorem wX (A:Option Aa) (c:Nat) (k:Int) (w:AH):AS prog 130 #[AA A 1 c,AB AE k] w (TG [] w):=by go_enter func130,ntmps130;go_wp2;go_ret;exact ⟨_,[],rfl,Ef _ _ _ _,Ap.nil,Af _ _⟩
theorem ABR:∀(m:Nat) (A:Option Aa) (n c k:Nat) (l:List (AQ)) (w:AH),n<=m->1<=n->n<=256->k < n->Cc w->Ag 32 CP w (AA A n c) l->
 AS prog 130 #[AA A n c,AB AE k] w (TG (GD Aw l k) w):=by
 intro m
 induction m with
 | zero=>intro A n c k l w hm h1;omega
 |
  succ m ih=>
  intro A n c k l w hm h1 h256 hk hT hs;have hln:=hs.len;rcases FL n 2 with h2 | h2
  ·obtain rfl:n=1:=by omega
   rw [GD,Hd AG];exact wX A c k w
  obtain ⟨b,off,_,rfl,_,_,_,_,_⟩:=Kr hs (k:=0) AG;have hh:=Ib h2;have hp:=Gj n;have ht:=hs.wY (k:=Bn n) AG;have hd:=hs.nB (k:=Bn n) AG;rw [GD,MR AG];rw [<-hln];by_cases hlt:k < Bn n
  ·rw [Ak hlt]
   have hpl:=Ti l.length (l.take (Bn n)) k Ql;rw [Df] at hpl;exact wV b off n c k (FF Aw (l.drop (Bn n))) (GD Aw (l.take (Bn n)) k) w h2 h256 hs.le.1 AG (Oa _) hlt (fun W hW=>ih _ _ _ _ _ W AG AG AG hlt (hT.below hW) (ht.mono BO hW)) (fun W hW=>aw _ _ _ _ _ W (Ac _) AG (hT.below hW) (hd.mono BO hW))
  rw [Ah hlt];have hpl:=Ti l.length (l.drop (Bn n)) (k - Bn n) U5;rw [IQ] at hpl;exact wW b off n c k (FF Aw (l.take (Bn n))) (GD Aw (l.drop (Bn n)) (k - Bn n)) w h2 h256 hs.le.1 AG (Oa _) AG hk (fun W hW=>ih _ _ _ _ _ W AG AG AG AG (hT.below hW) (hd.mono BO hW)) (fun W hW=>aw _ _ _ _ _ W (Ac _) AG (hT.below hW) (ht.mono BO hW))
theorem ADV (A:Option Aa) (n c k:Nat) (l:List (AQ)) (w:AH) (h256:n<=256) (hk:k < n) (hT:Cc w) (hs:Ag 32 CP w (AA A n c) l):
 AS prog 82 #[AA A n c,AB AE k] w (nC (GD Aw l k) 0 w):=by
 have HC:=AF (fun (W:AH) (hW:AK w W)=>ABR n A n c k l W (Ac _) AG h256 hk (hT.below hW) (hs.mono BO hW));have hk0:¬(k:Int) < 0:=AG
 have hk1:¬(n:Int)<=(k:Int):=AG
 clear hT hs;go_enter func82,ntmps82;go_wp2_with (go_at_call 130;refine (HC.o _ (Af _ _)).mono ?_;rintro e w2 ⟨v,cs,rfl,ho,hc,hb⟩;have HO:=AF ho;have HC2:=AF hc;have HB:=AF hb;clear ho hc hb);go_ret2;exact ⟨v,cs,rfl,HO.o,HC2.o,HB.o⟩
def fB (d:AQ) (k:Int) (w:AH) (e:Ending) (w':AH):Prop:=e=AW (BU #[AP (yA d),AB AE k])/\AK w w'
theorem Xi {P:BE} {fn:Func} {a:Act} {p q:Tmp} {ty:Ae} {t:Ae} {ds:TypeDesc} {d:AQ} {k:Int} {g:Nat} {w0 w:AH} {x:Exit} (hx:x=.ret\/x=.normal) (h:fn.results=#[.cell p ty,.tmp q]) (hp:a.tmps.getD p undef=AU (some ⟨g,0,none⟩)) (hq:a.tmps.getD q undef=AB AE k) (hdf:a.defers=[]) (hg:AY w g t (yA d)) (hu:P.underlying ty=some ds) (hds:(match ds with | .struct _ | .array _ _=>true | _=>false)=true) (hi:(P.info? ty).map (·.size)=some 32) (hd:d.length=32) (hb:AK w0 w):
 bodyPost P fn (fB d k w0) x a w:=by
 have hr:(results fn a.tmps).run P w=.ok (BU #[AP (yA d),AB AE k]) w:=by
  have hp':a.tmps[p]?.getD undef=AU (some ⟨g,0,none⟩):=by simpa using hp
  have hq':a.tmps[q]?.getD undef=AB AE k:=by simpa using hq
  simp [results,h,hp',hq',asAddr,run_loadVar_row w g t ty (yA d) (0,0) ds hg hu hds gQ]
 exact nL
theorem Xe:∀(m k n:Nat),n<=m->(Hi k n).length<=n
 | 0,k,n,h=>by rw [Hi,Hd AG];simp
 |
  m+1,k,n,h=>by
  rw [Hi];by_cases h1:n<=1
  · rw [Hd h1];simp
  rw [MR h1];have hh:=Ib (n:=n) AG;have hp:=Gj n;split
  ·have:=Xe m (k - Bn n) (n - Bn n) AG
   exact dE
  have:=Xe m k (Bn n) AG;exact dE
theorem AGN (H:AQ->AQ->AQ) {p:List (AQ)} {R:List Bool} {j:Nat} {x r:AQ} {b:Bool} (hl:p.length=R.length) (hx:p[j]? =some x) (hb:R[R.length - 1 - j]? =some b):
 VC H ((p.zip R.reverse).take (j+1)) r=if b then O6 H x (VC H ((p.zip R.reverse).take j) r) else O6 H (VC H ((p.zip R.reverse).take j) r) x:=by
 have hj:=(BF.1 hx).1;have hr:R.reverse[j]? =some b:=by rw [List.getElem?_reverse AG];exact hb
 have hz:(p.zip R.reverse)[j]? =some (x,b):=by rw [JA];exact ⟨hx,hr⟩
 rw [Pn,hz,V1];cases b <;> rfl
theorem ABM {r:AQ} (hr:r.length=32):∀(l:List (AQ×Bool)),(VC Aw l r).length=32:=by
 intro l
 induction l generalizing r with
 | nil=>exact hr
 |
  cons x l ih=>
  obtain ⟨y,b⟩:=x;cases b
  · exact ih (DN _ _)
  · exact ih (DN _ _)
theorem CG {W:AH} {base:Nat} {e:Ae} {size:Nat} {v:AN} {n:Nat} {xs:List AN} (h:W.ownsRow base e size v n xs):∃A c,v=AA A n c:=by
 rcases h.2 with ⟨rfl,rfl⟩ | ⟨g,cap,_,rfl,_⟩
 · exact ⟨none,0,rfl⟩
 · exact ⟨_,cap,rfl⟩
theorem Ds {P:BE} {w:AH} {ops:Array Oper} {rest:List Oper} {o:Oper} {a:Act} {Q:Exit->Act->AH->Prop} (hgd:o.guard=none) (ty:Ae) (x y:Operand) (ho:o.op=.store ty x y)
 (g:Nat) (d:AQ) (hx:a.eval x=AU (some ⟨g,0,none⟩)) (hy:a.eval y=AP (yA d)) (t:Ae) (old:Array AN) (hg:AY w g t old) (hi:(P.info? ty).map (·.size)=some 32) (hold:old.size=32) (hd:d.length=32)
 (h:∀w',AY w' g t (yA d)->BL g w w'->w.grownBy w' (some g)->wpList P ops Q rest (a.put o.dst undef) w'):wpList P ops Q (o::rest) a w:=by
 have hs:(yA d).size=32:=by rw [CJ,hd]
 exact ZE hgd ty x y ho g (yA d) hx hy t old hg ft gE (Kh d) (h _ (hg.row _) (below_setRow (Af _ _) (Ac _) _) ⟨rfl,rfl,rfl,by simp [World.setRow],fun k hk hne=>Gb w g k _ (fun e=>hne Kg)⟩)
theorem Kj {P:BE} {ops:Array Oper} {rest:List Oper} {op:Oper} {a:Act} {w:AH} {Q:Exit->Act->AH->Prop} (hgd:op.guard=none) (ty:Ae) (x:Operand) (ho:op.op=.load ty x)
 (b o:Nat) (hx:a.eval x=AU (some ⟨b,o,none⟩)) (l:AQ) (d:TypeDesc) (hc:w.rangeAt b o (l.map (Value.int .u8))) (hu:P.underlying ty=some d) (hd:d.isRow=true) (hi:(P.info? ty).map (·.size)=some 32) (hl:l.length=32)
 (h:wpList P ops Q rest (a.put op.dst (AP (yA l))) w):wpList P ops Q (op::rest) a w:=
 wpList_load_mid hgd ty x ho b o hx _ d hc hu hd (by rw [CY,hl];exact hi) h
theorem ACa (
 d:AQ) (k n:Nat) (A:Option Aa) (m c:Nat) (p:List (AQ)) (w:AH) (hd:d.length=32) (h256:n<=256) (hk:k < n) (hT:Cc w) (hs:Ag 32 CP w (AA A m c) p):
 AS prog 92 #[AP (yA d),AB AE k,AB AE n,AA A m c] w (fB ((I6 Aw d k n p).getD (zeros 32)) (if (I6 Aw d k n p).isSome then 0 else 1) w):=by
 obtain ⟨HD,HT,HS⟩:=BB hd hT hs;obtain ⟨R,hR⟩:=Ad (Hi k n);have HR:=AF hR;have hmR:R.length<=256:=by rw [hR];have:=Xe n k n (Ac _);omega
 have HMR:=AF hmR;have HH:AI (∀(n':Nat),2<=n'->n'<=256->∀(W:AH),AS prog 62 #[AB AE n'] W fun e w'=>e=AW (AB AE (Bn n':Nat))/\W=w'):=AF (fun n' h2 h3 W=>WO n' h2 h3 W);obtain ⟨Z,hZ⟩:=Ad ((I6 Aw d k n p).getD (zeros 32));obtain ⟨E,hE⟩:=Ad (if (I6 Aw d k n p).isSome then 0 else 1:Int)
 rw [<-hZ,<-hE];obtain ⟨HZ,HE⟩:=Al hZ hE;have h1:¬(n:Int) < 1:=AG
 have h2:¬(1099511627776:Int) < (n:Int):=AG
 have h3:¬(k:Int) < 0:=AG
 have h4:¬(n:Int)<=(k:Int):=AG
 clear hd hT hs hR hmR hZ hE;go_enter func92,ntmps92;go_upto_region 1 with fail;have hq:=JJ (w.alloc (AO (yA d) 34)) 34;have kd:AY (w.alloc (AO (yA d) 34)) w.heap.size 34 (yA d):=AY.new _ _ _;have hb0:AK w (w.alloc (AO (yA d) 34)):=(Af _ _).alloc (Ac _) _;have hs0:(w.alloc (AO (yA d) 34)).heap.size=w.heap.size+1:=AZ
 generalize (w.alloc (AO (yA d) 34))=w0 at hq kd hb0 hs0 ⊢;rw [hs0] at hq;generalize (w0.alloc _)=wa at hq ⊢;obtain ⟨kr,hba,hza⟩:=hq;obtain ⟨KD,KR⟩:=Al (kd.below hba AG) kr;have H0:AI (AK w wa):=AF (hb0.trans (hba.mono AG));have Ye:=AF hza;clear hs0 hb0 hba kd kr hza;obtain ⟨i0,hi,hz0,hz1,hz2,hz3⟩:∃i:TypeInfo,prog.info? 4=some i/\i.zero=some (Ab false)/\i.size=1/\i.bytes=1/\True:=by obtain ⟨j,hj,hjz⟩:=EC.1 (show (prog.info? 4).map (fun i=>(i.zero,i.size,i.bytes))=some (some (Ab false),1,1) by kernel_rfl);simp only [Gd] at hjz;exact ⟨j,hj,hjz.1,hjz.2.1,hjz.2.2,trivial⟩
 have HI:=AF (show _/\_/\_/\_ from ⟨hi,hz0,hz1,hz2⟩);clear hi hz0 hz1 hz2 hz3;go_wp2_with fail;go_loopg [1,2,10] n (fun g ki ni v wr=>∃(k' n':Nat) (pre:List Bool),n'<=256/\k' < n'/\g=n'/\ki=AB AE k'/\ni=AB AE n'/\pre++Hi k' n'=R/\wr.ownsRow wa.heap.size 4 1 v pre.length (pre.map Value.bool)/\AK wa wr)
 case atStart=>exact ⟨k,n,[],h256,hk,rfl,rfl,rfl,HR.o.symm,Ef _ _ _ _,Af _ _⟩
 obtain ⟨k',n',pre,hn',hk',hg,rfl,rfl,hpre,hown,hb⟩:=hrel;obtain ⟨HG,HB,HOWN,jJ⟩:=CD hg hb hown hpre;clear hg hb hown hpre h1 h2 h3 h4;have hpl:pre.length<=256:=by have:=HMR.o;rw [<-jJ.o,CX] at this;omega
 have hsz:=HB.o.size;by_cases hlt:2<=n'
 ·have hh:=Ib hlt
  have hp:=Gj n';have rU:=AF (HH.o n' hlt hn');have hrr:=Hi.eq_1 k' n';rw [MR AG] at hrr;obtain ⟨q,hq⟩:=Ad (Bn n');rw [<-hq] at hh hp rU hrr;have hgt:(1:Int) < (n':Int):=AG
  clear hq;by_cases hge:q<=k'
  ·rw [Ak hge] at hrr
   have HRR:=AF hrr;have hge':(q:Int)<=(k':Int):=AG
   have hkg:IntKind.i64.wrap ((k':Int) - (q:Int))=((k' - q:Nat):Int):=by rw [Ca _ AG];omega
   have hng:IntKind.i64.wrap ((n':Int) - (q:Int))=((n' - q:Nat):Int):=by rw [Ca _ AG];omega
   clear hrr;go_wp2_with (first
    | (go_at_call 62;refine (rU.o _).mono ?_;rintro e w2 ⟨rfl,rfl⟩)
    | (at_builtin;refine wpList_append_own _ rfl (AX 34) (AX 38) 237 rfl wa.heap.size 4 i0 (Ab false) 1 1 underlying237 HI.o.1 HI.o.2.1 HI.o.2.2.1 HI.o.2.2.2 rfl Ai _ _ _ rfl (HOWN.o.alloc _) ⟨wr.heap.size,0,none⟩ 1 1 [Ab true] rfl rfl (cell_one_new _ _ _) Qi Gx AG Bd ?_;intro v' w5 hown' hgrow hnil))
   go_roundg (n' - q)
   case measure=>exact Ej
   refine ⟨k' - q,n' - q,pre++[true],by omega,by omega,rfl,rfl,rfl,by rw [Gc,<-jJ.o,HRR.o];rfl,?_,(HB.o.alloc AG _).grown hgrow Bd (fun k hk=>(HOWN.o.lt k hk).1)⟩;rw [DY,CX];exact hown'
  rw [Ah hge] at hrr;have HRR:=AF hrr;have hge':¬(q:Int)<=(k':Int):=AG
  clear hrr;go_wp2_with (first
   | (go_at_call 62;refine (rU.o _).mono ?_;rintro e w2 ⟨rfl,rfl⟩)
   | (at_builtin;refine wpList_append_own _ rfl (AX 34) (AX 38) 237 rfl wa.heap.size 4 i0 (Ab false) 1 1 underlying237 HI.o.1 HI.o.2.1 HI.o.2.2.1 HI.o.2.2.2 rfl Ai _ _ _ rfl (HOWN.o.alloc _) ⟨wr.heap.size,0,none⟩ 1 1 [Ab false] rfl rfl (cell_one_new _ _ _) Qi Gx AG Bd ?_;intro v' w5 hown' hgrow hnil))
  go_roundg (q)
  case measure=>exact Ej
  refine ⟨k',q,pre++[false],by omega,by omega,rfl,rfl,rfl,by rw [Gc,<-jJ.o,HRR.o];rfl,?_,(HB.o.alloc AG _).grown hgrow Bd (fun k hk=>(HOWN.o.lt k hk).1)⟩;rw [DY,CX];exact hown'
 have hn1:n'=1:=AG
 have hk0:k'=0:=AG
 subst hn1 hk0;have hpR:pre=R:=by have:=jJ.o;rw [Hi,Hd AG,FM] at this;exact this
 subst hpR;have hml:=HS.o.len;obtain ⟨wx,rfl⟩:=Ad (wr:AH);obtain ⟨rA,rc,rfl⟩:=CG HOWN.o;obtain ⟨KD2,Nb,H2⟩:=BB (KD.o.below HB.o SN) (KR.o.below HB.o SN) (AV H0.o HB.o);have FJ:(prog.info? 34).map (·.size)=some 32:=AJ
 obtain ⟨NB,aV⟩:=Al FJ hml;clear FJ hml hk hlt;by_cases hmn:m=pre.length
 ·obtain ⟨D0,hD0⟩:=Ad (Aw eE d)
  have HD0:=AF hD0;have ET:AI (D0.length=32):=AF (by rw [hD0];exact DN _ _);have HC:AI (∀W,AK w W->AY W w.heap.size 34 (yA d)->AS prog 48 #[.string {data:=#[108,101,97,102]},AA (some ⟨w.heap.size,0,none⟩) 32 32] W (Dy D0 W)):=AF (fun W hW hk=>by have hy:=Gm hk (by rw [HD.o];omega);rw [HD.o] at hy;rw [hD0];exact Il {data:=#[108,101,97,102]} _ 32 32 d W Ai (HT.o.below hW) hy)
  have MO:=AF hmn;have AKX:(m:Int)=(pre.length:Int):=AG
  clear hD0 hmn;go_wp2_with (first
   | (go_at_call 48;refine (HC.o _ H2.o KD2.o).mono ?_;rintro e w2 ⟨rfl,hb2⟩;have RT:=AF (Nb.o.below hb2 Nb.o.lt);have Ja:=AF (Eh HOWN.o hb2);have H3:=AF (AV H2.o hb2);clear hb2)
   | (refine Ds rfl 34 (AX 8) (AX 57) rfl (w.heap.size+1) D0 rfl rfl 34 (yA (zeros 32)) RT.o NB.o EY ET.o ?_;intro w3 k3 hb3 hg3))
  obtain ⟨wy,rfl⟩:=Ad (w3:AH);obtain ⟨K3,Q8,H4⟩:=BB k3 (Ja.o.kept hg3 (.inr (by intro e;have:=(Ja.o.lt _ e).1;have:=Ye.o;omega))) (H3.o.trans (hb3.mono (Et _)));clear k3 hb3 hg3;go_loopg [60] m (fun g i wr=>∃j:Nat,j<=m/\g=m - j/\i=AB AE j/\AY wr (w.heap.size+1) 34 (yA (VC Aw ((p.zip pre.reverse).take j) D0))/\wr.ownsRow wa.heap.size 4 1 (AA rA pre.length rc) pre.length (pre.map Value.bool)/\AK w wr)
  case atStart=>exact ⟨0,Ay _,rfl,rfl,K3.o,Q8.o,H4.o⟩
  obtain ⟨j,hj,hg,rfl,hk,hown,hb⟩:=hrel;obtain ⟨HG2,HB2,HOW⟩:=BB hg hb hown;obtain ⟨C,hC⟩:=Ad (VC Aw ((p.zip pre.reverse).take j) D0);rw [<-hC] at hk;have Pj:AI (C.length=32):=AF (by rw [hC];exact ABM ET.o _);obtain ⟨Dz,HK⟩:=Al hC hk;clear hg hb hown hC hk;by_cases hlt:j < m
  ·obtain ⟨b,off,x,rfl,hbl,hx,hxl,_,hrg⟩:=Kr (HS.o.mono BO HB2.o) hlt
   obtain ⟨HX,Ih,N0⟩:=BB hx hxl hrg;clear hx hxl hrg hbl;obtain ⟨q,hq⟩:=Ad (pre.length - 1 - j);obtain ⟨bb,hbb⟩:∃bb,pre[q]? =some bb:=⟨_,BN (by have:=MO.o;omega)⟩;have NC:AI (pre[pre.length - 1 - j]? =some bb):=AF (by rw [<-hq];exact hbb);have hjm:(j:Int) < (m:Int):=AG
   obtain ⟨rg,AKC,hrv⟩:∃g c,rA=some ⟨g,0,none⟩/\rc=c:=by
    rcases HOW.o.2 with ⟨_,h0⟩ | ⟨g,cap,_,hv,_⟩
    · have:=MO.o;omega
    injection hv with e1 e2 e3;exact ⟨g,cap,e1,e3⟩
   obtain ⟨rfl,rfl⟩:=hrv;have hqm:(q:Int) < (pre.length:Int):=by have:=MO.o;omega
   have e1:IntKind.i64.wrap ((pre.length:Int) - 1)=((pre.length - 1:Nat):Int):=by rw [Ca _ AG];have:=MO.o;omega
   have e2:IntKind.i64.wrap (((pre.length - 1:Nat):Int) - (j:Int))=(q:Int):=by rw [Ca _ AG];have:=MO.o;omega
   have hq0:¬(q:Int) < 0:=AG
   obtain ⟨HQ,BJ,LJ⟩:=BB hq hbb hlt;clear hq hbb hlt;cases bb
   ·obtain ⟨N,hN⟩:=Ad (O6 Aw C x)
    have TR:AI (N.length=32):=AF (by rw [hN];exact DN _ _);have HN:AI (∀W,AK w W->AS prog 63 #[AP (yA C),AP (yA x)] W (Dy N W)):=AF (fun W hW=>by rw [hN];exact bJ C x Pj.o Ih.o W (HT.o.below hW));have XF:=AF hN;clear hN;go_wp2_with (first
     | (refine Kj rfl 34 (AX 63) rfl b (off+j*32) rfl x _ N0.o underlying34 rfl NB.o Ih.o ?_)
     | (
      refine Ds rfl 34 (AX 13) (AX 64) rfl wr.heap.size x rfl rfl 34 (yA (zeros 32)) (JJ wr _).1 NB.o EY Ih.o ?_;intro w4 k4 hb4 hg4;have hb5:AK wr w4:=(JJ wr 34).2.1.trans hb4;have hcell:w4.cell? ⟨rg,q,none⟩=some (Ab false):=((Eh HOW.o hb5).cellAt q AG).trans tp;obtain ⟨KX,KC,rH,H5⟩:=CD k4 (HK.o.below hb5 HK.o.lt) (Eh HOW.o hb5) (AV HB2.o hb5);clear k4 hb4 hg4 hb5)
     | (refine Cb rfl 34 (AX 13) rfl wr.heap.size x rfl 34 _ KX.o underlying34 rfl NB.o Ih.o ?_)
     | (refine Cb rfl 34 (AX 8) rfl (w.heap.size+1) C rfl 34 _ KC.o underlying34 rfl NB.o Pj.o ?_)
     | (
      go_at_call 63;refine (HN.o _ H5.o).mono ?_;rintro e w5 ⟨rfl,hb6⟩;obtain ⟨KC6,Q7,H6⟩:=BB (KC.o.below hb6 KC.o.lt) (Eh rH.o hb6) (AV H5.o hb6);clear hb6)
     | (refine Ds rfl 34 (AX 8) (AX 78) rfl (w.heap.size+1) N rfl rfl 34 (yA C) KC6.o NB.o gM TR.o ?_;intro w7 k7 hb7 Ec))
    exact AAn
   obtain ⟨N,hN⟩:=Ad (O6 Aw x C);have TR:AI (N.length=32):=AF (by rw [hN];exact DN _ _);have HN:AI (∀W,AK w W->AS prog 63 #[AP (yA x),AP (yA C)] W (Dy N W)):=AF (fun W hW=>by rw [hN];exact bJ x C Ih.o Pj.o W (HT.o.below hW));have XF:=AF hN;clear hN;go_wp2_with (first
    | (refine Kj rfl 34 (AX 63) rfl b (off+j*32) rfl x _ N0.o underlying34 rfl NB.o Ih.o ?_)
    | (
     refine Ds rfl 34 (AX 13) (AX 64) rfl wr.heap.size x rfl rfl 34 (yA (zeros 32)) (JJ wr _).1 NB.o EY Ih.o ?_;intro w4 k4 hb4 hg4;have hb5:AK wr w4:=(JJ wr 34).2.1.trans hb4;have hcell:w4.cell? ⟨rg,q,none⟩=some (Ab true):=((Eh HOW.o hb5).cellAt q AG).trans tp;obtain ⟨KX,KC,rH,H5⟩:=CD k4 (HK.o.below hb5 HK.o.lt) (Eh HOW.o hb5) (AV HB2.o hb5);clear k4 hb4 hg4 hb5)
    | (refine Cb rfl 34 (AX 13) rfl wr.heap.size x rfl 34 _ KX.o underlying34 rfl NB.o Ih.o ?_)
    | (refine Cb rfl 34 (AX 8) rfl (w.heap.size+1) C rfl 34 _ KC.o underlying34 rfl NB.o Pj.o ?_)
    | (
     go_at_call 63;refine (HN.o _ H5.o).mono ?_;rintro e w5 ⟨rfl,hb6⟩;obtain ⟨KC6,Q7,H6⟩:=BB (KC.o.below hb6 KC.o.lt) (Eh rH.o hb6) (AV H5.o hb6);clear hb6)
    | (refine Ds rfl 34 (AX 8) (AX 75) rfl (w.heap.size+1) N rfl rfl 34 (yA C) KC6.o NB.o gM TR.o ?_;intro w7 k7 hb7 Ec))
   exact AAn
  have hjm:j=m:=AG
  subst hjm;have hcl:I6 Aw d k n p=some C:=by rw [I6,Ak uE,<-HR.o,Dz.o,HD0.o,C7 (by rw [List.length_zip,List.length_reverse,<-aV.o,MO.o];omega)]
  obtain rfl:Z=C:=by rw [HZ.o,hcl];rfl
  obtain rfl:E=0:=by rw [HE.o,hcl];rfl
  clear hlt hcl hj;go_wp2_with (first
   | (refine Cb rfl 34 (AX 8) rfl (w.heap.size+1) Z rfl 34 _ HK.o underlying34 rfl NB.o Pj.o ?_)
   | (refine Ds rfl 34 (AX 8) (AX 80) rfl (w.heap.size+1) Z rfl rfl 34 (yA Z) HK.o NB.o gM Pj.o ?_;intro w7 k7 hb7 Ec))
  exact Xi (.inl rfl) rfl rfl rfl rfl k7 underlying34 rfl NB.o Pj.o (HB2.o.trans (hb7.mono (Et _)))
 have AKX:¬(m:Int)=(pre.length:Int):=AG
 have MO:=AF hmn;clear hmn;go_wp2_with (first
  | (refine Cb rfl 34 (AX 8) rfl (w.heap.size+1) (zeros 32) rfl 34 _ Nb.o underlying34 rfl NB.o rfl ?_)
  | (refine Ds rfl 34 (AX 8) (AX 55) rfl (w.heap.size+1) (zeros 32) rfl rfl 34 (yA (zeros 32)) Nb.o NB.o EY rfl ?_;intro w3 k3 hb3 hg3))
 have hcl:I6 Aw d k n p=none:=by rw [I6,Ah uE]
 obtain rfl:Z=zeros 32:=by rw [HZ.o,hcl];rfl
 obtain rfl:E=1:=by rw [HE.o,hcl];rfl
 exact Xi (.inl rfl) rfl rfl rfl rfl k3 underlying34 rfl NB.o rfl (H2.o.trans (hb3.mono (Et _)))
def cJ (l:AQ) (w:AH) (e:Ending) (w':AH):Prop:=∃v,e=AW v/\w'.ownsRow w.heap.size 5 1 v l.length (l.map (Value.int .u8))/\AK w w'
theorem TF:∃i:TypeInfo,prog.info? 5=some i/\i.zero=some (AB Am 0)/\i.size=1/\i.bytes=1:=by obtain ⟨j,hj,hjz⟩:=EC.1 (show (prog.info? 5).map (fun i=>(i.zero,i.size,i.bytes))=some (some (AB Am 0),1,1) by kernel_rfl);simp only [Gd] at hjz;exact ⟨j,hj,hjz.1,hjz.2.1,hjz.2.2⟩
theorem pT (P:Option Aa) (np pc:Nat) (ps:List (AQ)) (w:AH) (hp:Ag 1 V4 w (AA P np pc) ps) (hl:ps.flatten.length<=100000):
 AS prog 150 #[AA P np pc] w (cJ ps.flatten w):=by
 obtain ⟨HP,HL⟩:=Al hp hl;have hnp:=hp.le;have Hc:=AF hp.len;obtain ⟨i0,hi⟩:=TF;have HI:=AF hi;clear hp hl hi;go_enter func150,ntmps150;go_wp2_with fail;go_loopg [2,7] np (fun g v i wr=>∃k:Nat,k<=np/\g=np - k/\i=AB AE k/\wr.ownsRow w.heap.size 5 1 v (ps.take k).flatten.length ((ps.take k).flatten.map (Value.int .u8))/\AK w wr)
 case atStart=>exact ⟨0,Ay _,rfl,rfl,Ef _ _ _ _,Af _ _⟩
 obtain ⟨k,hk,hg,rfl,hown,hb⟩:=hrel;obtain ⟨HG,HB,HO⟩:=BB hg hb hown;clear hg hb hown;by_cases hlt:k < np
 ·obtain ⟨b,off,x,cs,rfl,hbl,hx,hcl,hc,A,n,c,rfl,hs1⟩:=(HP.o.mono ABV HB.o).at_ hlt
  have c0:wr.cell? ⟨b,off+k,none⟩=some (AA A n c):=by have:=hc 0 _ rfl;rw [Ga,Ee] at this;exact this
  have htk:(ps.take (k+1)).flatten=(ps.take k).flatten++x:=by rw [Pn,hx,Px];simp
  have htl:(ps.take k).flatten.length+n<=100000:=by
   have h1:(ps.take (k+1)).flatten.length<=ps.flatten.length:=by rw [<-OU (k+1) ps,Px,CX];simp
   rw [htk,CX,<-hs1.len] at h1;have:=HL.o;omega
  obtain ⟨LG,TM,TL⟩:=BB hs1 htk htl;have hk1:(k:Int) < (np:Int):=AG
  clear hx hcl hc hs1 htk htl hbl;go_wp2_with (at_builtin;refine CQ _ rfl (AX 11) (AX 12) 104 5 rfl i0 _ 1 underlying104 HI.o.1 HI.o.2.1 HI.o.2.2.1 HI.o.2.2.2 rfl Ai (R:=JH) NU w.heap.size _ _ _ rfl HO.o A n c x rfl LG.o (by have:=TL.o;unfold maxLen;omega) (by have:=TL.o;omega) HB.o.size ?_;intro v' w5 Nu hc5 hown' hgrow Og);go_roundg (np - (k+1))
  case measure=>exact Ej
  obtain rfl:=Ir hc5;refine ⟨k+1,by omega,rfl,by go_num,?_,lD HB.o hgrow HO.o (Ac _) HB.o.size⟩;rw [TM.o,DY,CX,<-LG.o.len];exact hown'
 have hkn:k=ps.length:=by have:=Hc.o;omega
 go_wp2;go_ret;refine ⟨_,rfl,?_,HB.o⟩;have:=HO.o;rw [hkn,Ps] at this;exact this
theorem lE (seed:AQ) (i:Nat) (w:AH) (hd:seed.length=32) (hi:i < 256) (hT:Cc w):AS prog 101 #[AP (yA seed),AB AE i] w (Dy (IE Aw seed i) w):=by
 obtain ⟨HD,HT⟩:=Al hd hT;have hw:IntKind.u8.wrap (i:Int)=(i:Int):=by rw [IntKind.wrap_u8];omega
 obtain ⟨D,hD⟩:=Ad (IE Aw seed i);have ET:AI (D.length=32):=AF U4;have HC:AI (∀(A:Option Aa) (c:Nat) W,AK w W->Ag 1 JH W (AA A 33 c) (seed++[(i:Int)])->AS prog 48 #[.string {data:=#[99,104,97,105,110]},AA A 33 c] W (Dy D W)):=AF (fun A c W hW hl=>by rw [hD];exact Il {data:=#[99,104,97,105,110]} A 33 c _ W Ai (HT.o.below hW) hl)
 have FJ:(prog.info? 34).map (·.size)=some 32:=AJ
 have HI:=AF FJ;rw [<-hD];clear hD hd hT FJ;go_enter func101,ntmps101;go_upto_region 1 with fail;have hq:=JJ (w.alloc (AO (yA seed) 34)) 34;have kd:AY (w.alloc (AO (yA seed) 34)) w.heap.size 34 (yA seed):=AY.new _ _ _;have hb0:AK w (w.alloc (AO (yA seed) 34)):=(Af _ _).alloc (Ac _) _;have hs0:(w.alloc (AO (yA seed) 34)).heap.size=w.heap.size+1:=AZ
 generalize (w.alloc (AO (yA seed) 34))=w0 at hq kd hb0 hs0 ⊢;rw [hs0] at hq;generalize (w0.alloc _)=wa at hq ⊢;obtain ⟨kr,hba,hza⟩:=hq;have hy:=Gm ((kd.below hba AG).alloc (AO #[AB Am (i:Int)] 5)) (by rw [HD.o];omega);rw [HD.o] at hy;have h0:AK w wa:=hb0.trans (hba.mono AG);have k1:AY (wa.alloc (AO #[AB Am (i:Int)] 5)) wa.heap.size 5 (yA [(i:Int)]):=AY.new _ _ _;have hy1:Ag 1 JH (wa.alloc (AO #[AB Am (i:Int)] 5)) (AA (some ⟨wa.heap.size,0,none⟩) 1 1) [(i:Int)]:=Gm k1 AZ;have hs2:=vD hy hy1 (T:=104);rw [Ev] at hs2;have hbb:AK w ((wa.alloc (AO #[AB Am (i:Int)] 5)).alloc (AO #[AA (some ⟨w.heap.size,0,none⟩) 32 32,AA (some ⟨wa.heap.size,0,none⟩) 1 1] 104)):=(h0.alloc AG _).alloc Bd _;have hj:=pT _ _ _ _ _ hs2 (by simp [HD.o]);have hfl:[seed,[(i:Int)]].flatten=seed++[(i:Int)]:=AZ
 rw [hfl] at hj;have HJ:=AF hj;have AJE:AI ((seed++[(i:Int)]).length=33):=AF (by simp [HD.o]);clear hj hfl;obtain ⟨KR,BJ⟩:=Al ((kr.alloc (AO #[AB Am (i:Int)] 5)).alloc (AO #[AA (some ⟨w.heap.size,0,none⟩) 32 32,AA (some ⟨wa.heap.size,0,none⟩) 1 1] 104)) hbb;clear hs0 hb0 hba kd kr hza hy hy1 h0 k1 hs2 hbb;go_wp2_with (first
  | (
   go_at_call 150;refine HJ.o.mono ?_;rintro e w2 ⟨v,rfl,ho,hb⟩;rw [AJE.o] at ho;obtain ⟨g,c,rfl,hs3⟩:=VJ ho (Nat.succ_pos _) AJE.o.symm;obtain ⟨LD,Nb,HB2⟩:=BB hs3 (KR.o.below hb KR.o.lt) (AV BJ.o hb);clear hs3 ho hb)
  | (
   go_at_call 48;refine (HC.o _ c _ HB2.o LD.o).mono ?_;rintro e w3 ⟨rfl,hb⟩;obtain ⟨RT,HB3⟩:=Al (Nb.o.below hb Nb.o.lt) (AV HB2.o hb);clear hb)
  | (refine Da rfl 34 (AX 4) (AX 11) rfl (w.heap.size+1) D rfl rfl 34 _ RT.o HI.o EY ET.o ?_;intro w4 k4 hb4))
 exact AAO
def pA (g k:Nat):Array AN:=((List.range 19).map fun i=>if i < k then Value.slice (some ⟨g,i*32,none⟩) 32 32 else Value.slice none 0 0).toArray
theorem AHW {w:AH} {P g k:Nat} {T:Ae} (h:AY w P T (pA g k)) (hk:k < 19):AY (w.setCell ⟨P,k,none⟩ (AA (some ⟨g,k*32,none⟩) 32 32)) P T (pA g (k+1)):=by
 have h1:=h.put k (AA (some ⟨g,k*32,none⟩) 32 32);have e:(pA g k).setIfInBounds k (AA (some ⟨g,k*32,none⟩) 32 32)=pA g (k+1):=by
  unfold pA;rw [Kf];congr 1;apply OW;intro j;rw [OT,Bg,Bg,CY,ZF];by_cases hj:j < 19
  ·rw [MV hj]
   by_cases hjk:k=j
   ·subst hjk
    simp [hk]
   rw [Ah hjk];simp only [C6];congr 1;by_cases h2:j < k
   · rw [Ak h2,Ak AG]
   · rw [Ah h2,Ah AG]
  rw [Dh (by simpa using hj)];rw [Ah AG];rfl
 rwa [e] at h1
theorem vK {w:AH} {P g k i:Nat} {T:Ae} (h:AY w P T (pA g k)) (hi:i < 19):w.cell? ⟨P,i,none⟩=some (if i < k then Value.slice (some ⟨g,i*32,none⟩) 32 32 else Value.slice none 0 0):=by rw [h.cell,pA,Aj,Bg,MV hi];rfl
def chunks (F:AQ) (n:Nat):List (AQ):=(List.range n).map fun i=>(F.drop (i*32)).take 32
theorem aO (F:AQ):∀n,(chunks F n).flatten=F.take (n*32)
 | 0=>by simp [chunks]
 |
  n+1=>by
  have h:=aO F n;unfold chunks at h ⊢;rw [Py,DY,Px,h,KQ,List.take_add];simp
theorem yw {w:AH} {P g:Nat} {T T':Ae} {F:AQ} (h:AY w P T (pA g 19)) (k:AY w g T' (yA F)) (hF:F.length=608):Ag 1 V4 w (AA (some ⟨P,0,none⟩) 19 19) (chunks F 19):=by
 refine ⟨some ⟨P,0,none⟩,19,by simp [chunks],by simp [chunks],by decide,fun i x hi=> ?_⟩;have hil:i < 19:=by have:=(BF.1 hi).1;simpa [chunks] using this
 rw [chunks,Bg,MV hil] at hi;simp only [C6,Bz] at hi;have hxl:x.length=32:=by rw [<-hi,Df,IQ];omega
 refine ⟨P,0,[AA (some ⟨g,i*32,none⟩) 32 32],rfl,h.lt,rfl,fun j u hu=> ?_,_,32,32,rfl,⟨some ⟨g,i*32,none⟩,32,by rw [hxl],by rw [hxl];omega,by decide,fun j y hj=> ?_⟩⟩
 ·rcases j with _ | j
  ·simp only [Ao,Bz] at hu
   subst hu;have:=vK h hil;rw [Ak hil] at this;rw [Es,Ga,Ee];exact this
  · simp at hu
 have hjl:=(BF.1 hj).1;refine ⟨g,i*32,[AB Am y],rfl,k.lt,rfl,fun q u hu=> ?_,rfl⟩;rcases q with _ | q
 ·simp only [Ao,Bz] at hu
  subst hu;rw [<-hi,Jg AG,EO] at hj;have:=Ki k (i:=i*32+j) AG;rw [Ck,hj] at this;rw [Ga,Ee];exact this
 · simp at hu
theorem ABv (W:AH):(Instr.makeSlice 179 (AB AE 19) (AB AE 19)).run prog W=.ok (AA (some ⟨W.heap.size,0,none⟩) 19 19) (W.alloc (AO (madeCells #[AA none 0 0] 19) 104)):=by
 have hinfo:(prog.info? 104).map (fun i=>(i.zero,i.size,decide (i.bytes<=100)))=some (some (AA none 0 0),1,true):=AJ
 obtain ⟨i,hi,hzz⟩:=EC.1 hinfo;simp only [Gd,By] at hzz;obtain ⟨hz,hs,hb⟩:=hzz;have hr:=run_make (P:=prog) W 179 104 i (AA none 0 0) underlying179 hi hz .i64 .i64 19 19 AG AG AG AG;rw [hs] at hr;exact hr
theorem xg (g:Nat):madeCells #[Value.slice none 0 0] 19=pA g 0:=by unfold pA;simp only [Y8,He];kernel_rfl
theorem Xp (F:AQ) (w:AH) (hF:F.length=608) (hT:Cc w):AS prog 131 #[AP (yA F)] w (Dy (Aw iT F) w):=by
 obtain ⟨HF,HT⟩:=Al hF hT;obtain ⟨D,hD⟩:=Ad (Aw iT F);have ET:AI (D.length=32):=AF U4;have HC:AI (∀(A:Option Aa) (c:Nat) W,AK w W->Ag 1 JH W (AA A 608 c) F->AS prog 48 #[.string {data:=#[112,117,98,108,105,99]},AA A 608 c] W (Dy D W)):=AF (fun A c W hW hl=>by rw [hD];exact Il {data:=#[112,117,98,108,105,99]} A 608 c _ W Ai (HT.o.below hW) hl)
 have HJ:AI (∀(P:Nat) (W:AH),Ag 1 V4 W (AA (some ⟨P,0,none⟩) 19 19) (chunks F 19)->AS prog 150 #[AA (some ⟨P,0,none⟩) 19 19] W (cJ F W)):=AF (fun P W h=>by
  have e:(chunks F 19).flatten=F:=by rw [aO,C7 AG]
  have:=pT _ _ _ _ _ h (by rw [e];omega)
  rwa [e] at this)
 have FJ:(prog.info? 34).map (·.size)=some 32:=AJ
 have HI:=AF FJ;rw [<-hD];clear hD hF hT FJ;go_enter func131,ntmps131;go_upto_region 1 with fail;have hq:=JJ (w.alloc (AO (yA F) 232)) 34;have kd:AY (w.alloc (AO (yA F) 232)) w.heap.size 232 (yA F):=AY.new _ _ _;have hb0:AK w (w.alloc (AO (yA F) 232)):=(Af _ _).alloc (Ac _) _;have hs0:(w.alloc (AO (yA F) 232)).heap.size=w.heap.size+1:=AZ
 generalize (w.alloc (AO (yA F) 232))=w0 at hq kd hb0 hs0 ⊢;rw [hs0] at hq;generalize (w0.alloc _)=wa at hq ⊢;obtain ⟨kr,hba,hza⟩:=hq;have hmk:=ABv wa;have kp:AY (wa.alloc (AO (madeCells #[AA none 0 0] 19) 104)) wa.heap.size 104 (pA w.heap.size 0):=by rw [<-xg w.heap.size];exact AY.new wa 104 (madeCells #[AA none 0 0] 19)
 obtain ⟨H0,KD,KR,KP,HZ⟩:=Db (hb0.trans (hba.mono AG)) ((kd.below hba AG).alloc (AO (madeCells #[AA none 0 0] 19) 104)) (kr.alloc (AO (madeCells #[AA none 0 0] 19) 104)) kp hza;have HB:=AF (H0.o.alloc AG (AO (madeCells #[AA none 0 0] 19) 104));clear hs0 hb0 hba kd kr hza kp;go_wp2_with fail;clear hmk;go_loopg [6] 19 (fun q i wr=>∃k:Nat,k<=19/\q=19 - k/\i=AB AE k/\AY wr w.heap.size 232 (yA F)/\AY wr (w.heap.size+1) 34 (yA (zeros 32))/\AY wr wa.heap.size 104 (pA w.heap.size k)/\AK w wr)
 case atStart=>exact ⟨0,Ay _,rfl,rfl,KD.o,KR.o,KP.o,HB.o⟩
 clear KD KR KP HB;obtain ⟨k,hk,hq,rfl,h1,h2,h3,h4⟩:=hrel;obtain ⟨HQ,KD,KR,KP,HB⟩:=Db hq h1 h2 h3 h4;by_cases hlt:k < 19
 ·have hk0:=Int.natCast_nonneg k
  have hk1:(k:Int) < 19:=AG
  have c1:=vK h3 hlt;rw [Ah AG] at c1;have fz:=h3.frozen k;have hl1:=h1.lt;clear hq h1 h2 h3 h4;go_wp2;go_roundg (19 - (k+1))
  case measure=>exact Bi
  case rel=>exact ⟨k+1,by omega,rfl,by go_num,KD.o.far (by show w.heap.size≠wa.heap.size;have:=HZ.o;omega) _,KR.o.far (by show w.heap.size+1≠wa.heap.size;have:=HZ.o;omega) _,AHW KP.o hlt,HB.o.setCell (by show w.heap.size<=wa.heap.size;have:=HZ.o;omega) _⟩
 have h19:k=19:=AG
 subst h19;have HS:=AF (yw h3 h1 HF.o);clear hq h1 h2 h3 h4;go_wp2_with (first
  | (
   go_at_call 150;refine (HJ.o _ _ HS.o).mono ?_;rintro e w2 ⟨v,rfl,ho,hb⟩;rw [HF.o] at ho;obtain ⟨g,c,rfl,hs3⟩:=VJ ho (Nat.succ_pos _) HF.o.symm;obtain ⟨LD,Nb,HB2⟩:=BB hs3 (KR.o.below hb KR.o.lt) (AV HB.o hb);clear hs3 ho hb)
  | (
   go_at_call 48;refine (HC.o _ c _ HB2.o LD.o).mono ?_;rintro e w3 ⟨rfl,hb⟩;obtain ⟨RT,HB3⟩:=Al (Nb.o.below hb Nb.o.lt) (AV HB2.o hb);clear hb)
  | (refine Da rfl 34 (AX 2) (AX 18) rfl (w.heap.size+1) D rfl rfl 34 _ RT.o HI.o EY ET.o ?_;intro w4 k4 hb4))
 exact AAO
def iA (l:AQ):Array AN:=(l.map (Value.int .i64)).toArray
theorem vR {w:AH} {g:Nat} {t:Ae} {l:AQ} (h:AY w g t (iA l)) {i:Nat} (hi:i < l.length):w.cell? ⟨g,i,none⟩=some (AB AE (l.getD i 0)):=by rw [h.cell,iA,Aj,Bg,Ck,BN hi];rfl
theorem ACH {w:AH} {g:Nat} {t:Ae} {l:AQ} (h:AY w g t (iA l)) (i:Nat) (x:Int):AY (w.setCell ⟨g,i,none⟩ (AB AE x)) g t (iA (l.set i x)):=by
 have:=h.put i (AB AE x)
 rwa [iA,Kf,<-R0] at this
theorem vQ (l:AQ):(iA l).size=l.length:=by simp [iA]
theorem AGy (l:AQ):(iA l).all (·.oneCell')=true:=by
 refine fd.2 (fun v hv=> ?_);have hv:v∈l.map (Value.int .i64):=by simpa [iA] using hv
 obtain ⟨_,_,rfl⟩:=Dr.1 hv;rfl
def YO (m:AQ):Nat->AQ
 | 0=>zeros 19
 | k+1=>(YO m k).set k (Ns m k)
def bh (m:AQ):Nat->AQ
 | 0=>YO m 16
 | c+1=>(bh m c).set (18 - c) (sumP m 16 / 4 ^ c % 4)
theorem qe (m:AQ) (k:Nat):(YO m k).length=19:=by
 induction k with
 | zero=>simp [YO,zeros]
 | succ k ih=>rw [YO,D7,ih]
theorem AEz (m:AQ) (k:Nat):(bh m k).length=19:=by
 induction k with
 | zero=>exact qe m 16
 | succ k ih=>rw [bh,D7,ih]
theorem ya (m:AQ):bh m 3=En m:=by simp [bh,YO,zeros,En,List.range_succ,List.replicate]
theorem oN (m:AQ):∀n,0<=sumP m n/\sumP m n<=3*n
 | 0=>by simp [sumP]
 |
  n+1=>by
  have:=oN m n;have:=WS m n;rw [sumP];omega
theorem AK3 (v:Nat) (h:v < 256):bits BinOp.and IntKind.i64 (v:Int) 3=((v % 4:Nat):Int):=by
 have hall:(List.range 256).all (fun v=>decide (bits BinOp.and IntKind.i64 (v:Int) 3=((v % 4:Nat):Int)))=true:=AJ
 exact F4 (DM.1 hall v (Eu.2 h))
theorem AGT (x:Nat) (k:Nat):x / 2 ^ (6 - 2*(k % 4)) % 4=x / 4 ^ (3 - k % 4) % 4:=by
 have h:(4:Nat) ^ (3 - k % 4)=2 ^ (6 - 2*(k % 4)):=by rw [show (4:Nat)=2 ^ 2 from rfl,<-Nat.pow_mul];congr 1;omega
 rw [h]
def zK (l:AQ) (w:AH) (e:Ending) (w':AH):Prop:=e=AW (AP (iA l))/\AK w w'
theorem AJm {P:BE} {fn:Func} {a:Act} {p:Tmp} {ty:Ae} {t:Ae} {ds:TypeDesc} {l:AQ} {g:Nat} {w0 w:AH} {x:Exit} (hx:x=.ret\/x=.normal) (h:fn.results=#[.cell p ty]) (hp:a.tmps.getD p undef=AU (some ⟨g,0,none⟩)) (hdf:a.defers=[]) (hg:AY w g t (iA l)) (hu:P.underlying ty=some ds) (hds:(match ds with | .struct _ | .array _ _=>true | _=>false)=true) (hi:(P.info? ty).map (·.size)=some l.length) (hb:AK w0 w):
 bodyPost P fn (zK l w0) x a w:=by
 have hr:=OV (P:=P) h a.tmps w g t (iA l) (0,0) ds hp hg hu hds (by rw [vQ];exact hi);exact nL
theorem AKK (w:AH) (t:Ae):AY (w.alloc (AO #[AB AE 0,AB AE 0,AB AE 0,AB AE 0,AB AE 0,AB AE 0,AB AE 0,AB AE 0,AB AE 0,AB AE 0,AB AE 0,AB AE 0,AB AE 0,AB AE 0,AB AE 0,AB AE 0,AB AE 0,AB AE 0,AB AE 0] t)) w.heap.size t (iA (zeros 19))/\AK w (w.alloc (AO #[AB AE 0,AB AE 0,AB AE 0,AB AE 0,AB AE 0,AB AE 0,AB AE 0,AB AE 0,AB AE 0,AB AE 0,AB AE 0,AB AE 0,AB AE 0,AB AE 0,AB AE 0,AB AE 0,AB AE 0,AB AE 0,AB AE 0] t))/\(w.alloc (AO #[AB AE 0,AB AE 0,AB AE 0,AB AE 0,AB AE 0,AB AE 0,AB AE 0,AB AE 0,AB AE 0,AB AE 0,AB AE 0,AB AE 0,AB AE 0,AB AE 0,AB AE 0,AB AE 0,AB AE 0,AB AE 0,AB AE 0] t)).heap.size=w.heap.size+1:=
 ⟨AY.new _ _ _,(Af _ _).alloc (Ac _) _,by simp⟩
theorem dL {x:Int} (h1: -9223372036854775808<=x) (h2:x<=9223372036854775807):wrap64 x=x:=Pr x ⟨h1,h2⟩
theorem AG3 {m:AQ} {k x:Nat} (h:m.getD (k / 4) 0=(x:Int)) (hx:x < 256):bits BinOp.and IntKind.i64 (wrap64 ((x:Int) / 2 ^ (6 - 2*(k % 4)))) 3=Ns m k:=by
 have e:((x:Int) / 2 ^ (6 - 2*(k % 4)))=((x / 2 ^ (6 - 2*(k % 4)):Nat):Int):=by norm_cast
 have hle:x / 2 ^ (6 - 2*(k % 4))<=x:=Nat.div_le_self _ _;rw [Ns,h];have e2:=AGT x k;obtain ⟨y,hy⟩:=Ad (x / 2 ^ (6 - 2*(k % 4)));rw [<-hy] at hle e2;rw [e,<-hy,dL AG AG,AK3 _ AG,e2]
 norm_cast
theorem ji (m:AQ) (w:AH) (hm:m.length=32) (hr:∀x∈m,0<=x/\x < 256):AS prog 98 #[AP (yA m)] w (zK (En m) w):=by
 obtain ⟨HM,HR⟩:=Al hm hr;obtain ⟨S,hS⟩:=Ad (En m);have HS:=AF hS;rw [<-hS];clear hm hr hS;go_enter func98,ntmps98;go_upto_region 1 with fail;have hq:=AKK (w.alloc (AO (yA m) 34)) 189;have kd:AY (w.alloc (AO (yA m) 34)) w.heap.size 34 (yA m):=AY.new _ _ _;have hb0:AK w (w.alloc (AO (yA m) 34)):=(Af _ _).alloc (Ac _) _;have hs0:(w.alloc (AO (yA m) 34)).heap.size=w.heap.size+1:=AZ
 generalize (w.alloc (AO (yA m) 34))=w0 at hq kd hb0 hs0 ⊢;rw [hs0] at hq;generalize (w0.alloc _)=wa at hq ⊢;obtain ⟨kr,hba,hza⟩:=hq;obtain ⟨KD,KR,H0⟩:=BB (kd.below hba AG) kr (hb0.trans (hba.mono AG));clear hs0 hb0 hba kd kr hza;go_wp2_with fail;go_loopg [3,6] 16 (fun q s i wr=>∃k:Nat,k<=16/\q=16 - k/\i=AB AE k/\s=AB AE (sumP m k)/\AY wr w.heap.size 34 (yA m)/\AY wr (w.heap.size+1) 189 (iA (YO m k))/\AK w wr)
 case atStart=>exact ⟨0,Ay _,rfl,rfl,rfl,KD.o,KR.o,H0.o⟩
 clear KD KR H0;obtain ⟨k,hk,hq,rfl,hs,h1,h2,h3⟩:=hrel;have hsr:=oN m k;obtain ⟨t,ht⟩:=Ad (sumP m k);rw [<-ht] at hs hsr;subst hs;obtain ⟨PV,HQ,KD,KR,HB⟩:=Db ht hq h1 h2 h3;clear hq h1 h2 h3 ht;by_cases hlt:k < 16
 ·have hk0:=Int.natCast_nonneg k
  have hk1:(k:Int) < 16:=AG
  have hk2:(k:Int) < 19:=AG
  obtain ⟨x,hx⟩:∃x:Nat,m.getD (k / 4) 0=(x:Int)/\x < 256:=by
   have hmm:m.getD (k / 4) 0∈m:=by rw [Ck,BN (by have:=HM.o;omega)];exact Um _
   have:=HR.o _ hmm;exact ⟨(m.getD (k / 4) 0).toNat,by omega,by omega⟩
  have c1:=Ki KD.o (i:=k / 4) (by have:=HM.o;omega);rw [hx.1] at c1;have c2:=vR KR.o (i:=k) (by rw [qe];omega);have fz:=KR.o.frozen k;have hq0:(0:Int)<=(k:Int) / 4:=AG
  have hq1:(k:Int) / 4 < 32:=AG
  have hr0:(0:Int)<=6 - 2*((k:Int) % 4):=AG
  have hr1:(6 - 2*((k:Int) % 4)).toNat=6 - 2*(k % 4):=AG
  obtain ⟨HX,LJ⟩:=Al hx hlt;clear hx hlt;go_wp2;go_roundg (16 - (k+1))
  case measure=>exact dD
  have hlt:=LJ.o;have hv:bits BinOp.and IntKind.i64 (wrap64 ((x:Int) / 2 ^ (6 - 2*(k % 4)))) 3=Ns m k:=AG3 HX.o.1 HX.o.2;rw [hv];have hd:=WS m k;refine ⟨k+1,by omega,rfl,by go_num,?_,KD.o.far uC _,?_,HB.o.setCell gX _⟩
  ·rw [sumP,<-PV.o]
   congr 1;rw [dL (x:=3 - Ns m k) AG AG,dL AG AG]
  rw [YO];exact ACH KR.o k _
 have h16:k=16:=AG
 subst h16;go_wp2_with fail;go_loopg [3,5] 3 (fun q s i wr=>∃c u:Nat,c<=3/\q=3 - c/\i=AB AE ((18 - c:Nat):Int)/\s=AB AE u/\(u:Int)=t / 4 ^ c/\u<=48/\AY wr (w.heap.size+1) 189 (iA (bh m c))/\AK w wr)
 case atStart=>exact ⟨0,t.toNat,by omega,rfl,rfl,by rw [Ul hsr.1],by rw [Ul hsr.1];simp,by omega,KR.o,HB.o⟩
 clear KR HB KD;obtain ⟨c,u,hc,hq,rfl,rfl,hu,hu2,h2,h3⟩:=hrel;obtain ⟨Ks,KR,HB,HU⟩:=CD hq h2 h3 hu;obtain ⟨j,hj⟩:=Ad (18 - c);rw [<-hj];have HJ:=AF hj;clear hq h2 h3 hu;by_cases hlt:c < 3
 ·have hj1:(16:Int)<=(j:Int):=by omega
  have hj2:(j:Int) < 19:=AG
  have hj0:(0:Int)<=(j:Int):=AG
  have c2:=vR KR.o (i:=j) (by rw [AEz];omega);have fz:=KR.o.frozen j;have LJ:=AF hlt;clear hj hlt;go_wp2;go_roundg (3 - (c+1))
  case measure=>have:=Ks.o;have:=LJ.o;omega
  have hlt:=LJ.o;have hj:=HJ.o;refine ⟨c+1,u / 4,by omega,rfl,by congr 1;omega,by norm_cast,?_,by omega,?_,HB.o.setCell gX _⟩
  ·rw [Int.pow_succ,<-Int.ediv_ediv_of_nonneg (Int.pow_nonneg AG),<-HU.o]
   norm_cast
  rw [bh,<-PV.o,<-hj,<-HU.o];exact ACH KR.o j _
 have h3:c=3:=AG
 subst h3;have AKg:j=15:=AG
 subst AKg;have KF:=KR.o;rw [ya,<-HS.o] at KF;have HKF:=AF KF;have HSL:AI (S.length=19):=AF (by rw [HS.o];exact Oz m);have AF7:(prog.info? 189).map (·.size)=some 19:=AJ
 have HI:=AF AF7;clear hj hlt AF7 KF;go_wp2_with (first
  | (refine Ci rfl 189 (AX 2) rfl (w.heap.size+1) AJ 189 (iA S) (0,0) _ HKF.o underlying189 rfl tZ ?_)
  | (refine ZE rfl 189 (AX 2) (AX 39) rfl (w.heap.size+1) (iA S) rfl rfl 189 (iA S) HKF.o tZ rfl (AGy _) ?_))
 exact AJm (.inl rfl) rfl rfl rfl (HKF.o.row _) underlying189 rfl (by rw [HSL.o];exact HI.o) (below_setRow HB.o (Et _) _)
end Go.Proofs.YtamhoilkpppdbaaGreatDoor
