import Derived.Test.YtpmpddfgifhlbaaGreatDoorM00
namespace Go.Proofs.YtpmpddfgifhlbaaGreatDoor
set_option maxHeartbeats 8000000
set_option maxRecDepth 100000
open Go renaming World→AH, Value→AK, Calls→AS, TypeId→Ae, Program→BB, Addr→Aa
open Go.RowKit renaming Below→BK
open Go.Proofs.Tryz
open Go.Value renaming slice→AA, int→AB, pointer→AU, bool→AX, agg→AO, tuple→BS
open Go.IntKind renaming i64→AE, u8→Ak
open Go.Ending renaming returned→AV
open Go.Obj renaming cells→AQ
open Go.Operand renaming tmp→AY
abbrev Dg:=AP
def Bi (n:Nat):Nat:=2 ^ Nat.log2 (n - 1)
theorem Hw {n:Nat} (h:2<=n):Bi n < n:=by have:=Nat.log2_self_le (n:=n - 1) AG;unfold Bi;omega
theorem GQ (n:Nat):1<=Bi n:=Nat.one_le_two_pow
structure Hs where
 tag:AP->AP->Dg
section
variable (H:AP->AP->Dg)
def dK:AP:=[108,101,97,102]
def AJD:AP:=[110,111,100,101]
def AH4:AP:=[101,109,112,116,121]
def stepT:AP:=[115,116,101,112]
def AGh:AP:=[99,104,97,105,110]
def gL:AP:=[112,117,98,108,105,99]
def Om (a b:Dg):Dg:=H AJD (a++b)
def Es (l:List Dg):Dg:=
 match l with
 | []=>H AH4 []
 | [x]=>H dK x
 | x::y::r=>Om H (Es ((x::y::r).take (Bi (r.length+2)))) (Es ((x::y::r).drop (Bi (r.length+2))))
termination_by l.length
decreasing_by
 · have:=Hw (n:=r.length+2) AG;simp only [DR,Fl];omega
 · have:=GQ (r.length+2);simp only [Hq,Fl];omega
def Ft (l:List Dg) (k:Nat):List Dg:=
 if _h:l.length<=1 then []
 else if k < Bi l.length then Ft (l.take (Bi l.length)) k++[Es H (l.drop (Bi l.length))]
 else Ft (l.drop (Bi l.length)) (k - Bi l.length)++[Es H (l.take (Bi l.length))]
termination_by l.length
decreasing_by
 · have:=Hw (n:=l.length) AG;simp only [DR];omega
 · have:=GQ l.length;simp only [Hq];omega
def Gy (k n:Nat):List Bool:=
 if _h:n<=1 then [] else if Bi n<=k then true::Gy (k - Bi n) (n - Bi n) else false::Gy k (Bi n)
termination_by n
decreasing_by
 · have:=GQ n;omega
 · exact Hw AG
def Ui:List (Dg×Bool)->Dg->Dg
 | [],r=>r
 | (p,true)::l,r=>Ui l (Om H p r)
 | (p,false)::l,r=>Ui l (Om H r p)
theorem VN (a b:List (Dg×Bool)) (r:Dg):Ui H (a++b) r=Ui H b (Ui H a r):=by
 induction a generalizing r with
 | nil=>rfl
 |
  cons x a ih=>
  obtain ⟨p,v⟩:=x;cases v <;> exact ih _
def Ia (d:Dg) (k n:Nat) (path:List Dg):Option Dg:=
 if path.length=(Gy k n).length then some (Ui H (path.zip (Gy k n).reverse) (H dK d)) else none
theorem ip {l:List Dg} (h:2<=l.length):Es H l=Om H (Es H (l.take (Bi l.length))) (Es H (l.drop (Bi l.length))):=by
 match l,h with
 | x::y::r,_=>rw [Es];rfl
theorem iu:∀(m:Nat) (l:List Dg) (k:Nat),l.length<=m->(Ft H l k).length=(Gy k l.length).length:=by
 intro m
 induction m with
 | zero=>intro l k h;rw [Ft,Gy,Gt AG,Gt AG];rfl
 |
  succ m ih=>
  intro l k h;rw [Ft,Gy];by_cases h1:l.length<=1
  · rw [Gt h1,Gt h1];rfl
  have hlt:=Hw (n:=l.length) AG;have hp:=GQ l.length;rw [Lu h1,Lu h1];by_cases hk:k < Bi l.length
  · rw [Am hk,Ah AG,CT,ih _ _ QS,DR,Kr AG];rfl
  · rw [Ah hk,Am AG,CT,ih _ _ Ws,Hq];rfl
theorem sF:∀(m:Nat) (l:List Dg) (k:Nat) (d:Dg),l.length<=m->l[k]? =some d->Ui H ((Ft H l k).zip (Gy k l.length).reverse) (H dK d)=Es H l:=by
 intro m
 induction m with
 | zero=>intro l k d h hk;have:=(BA.1 hk).1;omega
 |
  succ m ih=>
  intro l k d h hk;rw [Ft,Gy];by_cases h1:l.length<=1
  ·rw [Gt h1,Gt h1]
   have hl:=(BA.1 hk).1
   match l,h1,hk with
   |
    [x],_,hk=>
    have:k=0:=by simp at hl;exact hl
    subst this;simp only [An,Bq] at hk;rw [hk,Es];rfl
   | [],_,_=>simp at hl
  have hlt:=Hw (n:=l.length) AG;have hp:=GQ l.length;rw [Lu h1,Lu h1];by_cases hkk:k < Bi l.length
  ·have e:(l.take (Bi l.length)).length=Bi l.length:=by rw [DR];omega
   rw [Am hkk,Ah AG,List.reverse_cons,List.zip_append td,VN];have:=ih (l.take (Bi l.length)) k d AG (by rw [JN hkk];exact hk);exact AAg
  have e:(l.drop (Bi l.length)).length=l.length - Bi l.length:=Hq;rw [Ah hkk,Am AG,List.reverse_cons,List.zip_append td,VN];have:=ih (l.drop (Bi l.length)) (k - Bi l.length) d AG (by rw [EC,show Bi l.length+(k - Bi l.length)=k by omega];exact hk);exact AAg
theorem iI {l:List Dg} {k:Nat} {d:Dg} (hk:l[k]? =some d):Ia H d k l.length (Ft H l k)=some (Es H l):=by rw [Ia,Am (iu H _ _ _ (Ad _)),sF H _ _ _ _ (Ad _) hk]
def C6 (x:Dg):Nat->Dg
 | 0=>x
 | n+1=>C6 (H stepT x) n
theorem dk (x:Dg) (a b:Nat):C6 H (C6 H x a) b=C6 H x (a+b):=by
 induction a generalizing x with
 | zero=>simp [C6]
 | succ a ih=>rw [Nat.succ_add,C6,ih,C6]
def Hi (seed:Dg) (i:Nat):Dg:=H AGh (seed++[(i:Int)])
def JB (l:List Dg):Dg:=H gL l.flatten
def Ii (seed:Dg):Dg:=JB H ((List.range 19).map fun i=>C6 H (Hi H seed i) 3)
def Nd (m:Dg) (i:Nat):Int:=(m.getD (i / 4) 0) / (4:Int) ^ (3 - i % 4) % 4
def sumP (m:Dg):Nat->Int
 | 0=>0
 | n+1=>sumP m n+(3 - Nd m n)
def Dk (m:Dg):AP:=(List.range 16).map (Nd m)++[sumP m 16 / 16 % 4,sumP m 16 / 4 % 4,sumP m 16 % 4]
theorem Vu (m:Dg) (i:Nat):0<=Nd m i/\Nd m i<=3:=by unfold Nd;omega
theorem VQ {m:Dg}:∀x∈Dk m,0<=x/\x<=3:=by
 intro x hx;rcases Jq.1 hx with h | h
 ·obtain ⟨i,_,rfl⟩:=Df.1 h
  exact Vu m i
 simp only [CO,D7,D5] at h;rcases h with rfl | rfl | rfl <;> omega
theorem LX (m:Dg):(Dk m).length=19:=by simp [Dk]
def J0 (seed m:Dg):List Dg:=(List.range 19).map fun i=>C6 H (Hi H seed i) ((Dk m).getD i 0).toNat
def Hg (m:Dg) (s:List Dg):Dg:=JB H ((List.range 19).map fun i=>C6 H (s.getD i []) (3 - (Dk m).getD i 0).toNat)
theorem Zh (seed m:Dg):(J0 H seed m).length=19:=by simp [J0]
theorem yI (seed m:Dg):Hg H m (J0 H seed m)=Ii H seed:=by
 unfold Hg Ii;congr 1;apply List.map_congr_left;intro i hi;have hi':i < 19:=Ef.1 hi;have h1:(J0 H seed m).getD i []=C6 H (Hi H seed i) ((Dk m).getD i 0).toNat:=by rw [C0,J0,Be,Ly hi'];rfl
 have h2:0<=(Dk m).getD i 0/\(Dk m).getD i 0<=3:=by rw [C0,BJ (by rw [LX];exact hi')];exact VQ _ (UJ _)
 rw [h1,dk];congr 1;omega
structure Cd where
 index:Int
 chains:List Dg
 path:List Dg
deriving DecidableEq
def bytes4 (n:Nat):AP:=[((n / 16777216 % 256:Nat):Int),((n / 65536 % 256:Nat):Int),((n / 256 % 256:Nat):Int),((n % 256:Nat):Int)]
def J7 (seed:Dg) (k:Nat):Dg:=H dK (seed++bytes4 k)
def Dp (seed:Dg) (many:Nat):List Dg:=(List.range many).map fun k=>Ii H (J7 H seed k)
def LY (seed:Dg) (many:Nat):Dg:=Es H (Dp H seed many)
def QI (seed:Dg) (l:List Dg) (k:Nat) (m:Dg):Cd:=⟨(k:Int),J0 H (J7 H seed k) m,Ft H l k⟩
def C7 (root:Dg) (many:Int) (m:Dg) (s:Cd):Bool:=
 decide (1<=many) && decide (many<=256) && decide (0<=s.index) && decide (s.index < many) && decide (s.chains.length=19) && decide (Ia H (Hg H m s.chains) s.index.toNat many.toNat s.path=some root)
theorem SH (seed:Dg) (many:Nat):(Dp H seed many).length=many:=by simp [Dp]
theorem rG (seed:Dg) (many k:Nat) (m:Dg) (h:many<=256) (hk:k < many):C7 H (LY H seed many) many m (QI H seed (Dp H seed many) k m)=true:=by
 have hp:(Dp H seed many)[k]? =some (Ii H (J7 H seed k)):=by rw [Dp,Be,Ly hk];rfl
 have hc:=iI H hp;rw [SH] at hc;have h1:decide ((QI H seed (Dp H seed many) k m).chains.length=19)=true:=Bg (Zh H _ _);have h2:decide (Ia H (Hg H m (QI H seed (Dp H seed many) k m).chains) (QI H seed (Dp H seed many) k m).index.toNat (many:Int).toNat (QI H seed (Dp H seed many) k m).path=some (LY H seed many))=true:=Bg (by show Ia H (Hg H m (J0 H (J7 H seed k) m)) ((k:Int)).toNat (many:Int).toNat (Ft H (Dp H seed many) k)=some (LY H seed many);rw [yI,CZ,CZ];exact hc)
 rw [C7,h1,h2];have e:(QI H seed (Dp H seed many) k m).index=k:=rfl;rw [e];simp only [BZ,Bw,and_true];omega
end
open Go.RowKit
def AGr (x:Int) (s:Nat):Int:=bits .or .u32 (x*2 ^ s % 4294967296) (x / 2 ^ (32 - s))
theorem AF6 (k:Int) (s:Nat) (hs:bits BinOp.and IntKind.u64 (IntKind.u64.wrap k) 31=(s:Int)) (h0:s < 32) (x:Int) (w:AH):AS prog 130 #[AB .u32 x,AB AE k] w fun e w'=>e=AV (AB .u32 (AGr x s))/\w=w':=by
 have h1:IntKind.u64.wrap (32 - (s:Int))=((32 - s:Nat):Int):=by rw [show (32 - (s:Int))=((32 - s:Nat):Int) by omega];simp [IntKind.wrap,IntKind.bits,IntKind.signed];omega
 have h2:(0:Int)<=s:=AG
 go_enter func130,ntmps130;go_wp2;go_ret;exact Rx
def rt (x k:Int):Int:=AGr x (bits BinOp.and IntKind.u64 (IntKind.u64.wrap k) 31).toNat
def AGq (k:Int):Bool:=decide (bits BinOp.and IntKind.u64 (IntKind.u64.wrap k) 31=((bits BinOp.and IntKind.u64 (IntKind.u64.wrap k) 31).toNat:Int)) && decide ((bits BinOp.and IntKind.u64 (IntKind.u64.wrap k) 31).toNat < 32)
theorem ng (k:Int) (h:AGq k=true) (x:Int) (w:AH):AS prog 130 #[AB .u32 x,AB AE k] w fun e w'=>e=AV (AB .u32 (rt x k))/\w=w':=by simp only [AGq,BZ,Bw] at h;exact AF6 k _ h.1 h.2 x w
instance ALX {p:Prop} {q:p->Prop} [Decidable p] [∀h,Decidable (q h)]:Decidable (∀h,q h):=if h:p then (if hq:q h then isTrue fun _=>hq else isFalse fun f=>hq (f h)) else isTrue fun g=>absurd g h
def aK (x:Nat):Int:=if x=0 then 0 else (Nat.log2 x+1:Nat)
theorem rq (x:Nat) (hx:x < 256) (w:AH):AS prog 124 #[AB .u64 x] w fun e w'=>e=AV (AB AE (aK x))/\w=w':=by
 have h1:decide ((4294967296:Int)<=(x:Int))=false:=BO AG;have h2:decide ((65536:Int)<=(x:Int))=false:=BO AG;have h3:decide ((256:Int)<=(x:Int))=false:=BO AG;go_enter func124,ntmps124;go_wp2;go_ret;refine ⟨C8 ?_,rfl⟩
 rename_i h
 clear h1 h2 h3;revert h;revert hx;revert x;decide +kernel
theorem sJ (x:Nat) (hx:x < 256) (w:AH):AS prog 77 #[AB .u64 x] w fun e w'=>e=AV (AB AE (aK x))/\w=w':=by obtain ⟨y,hy⟩:=Ab (aK x);have HL:AI (∀W,AS prog 124 #[AB .u64 x] W fun e w'=>e=AV (AB AE y)/\W=w'):=AF (fun W=>by rw [hy];exact rq x hx W);rw [<-hy];clear hy;go_enter func77,ntmps77;go_wp2_with (go_at_call 124;refine (HL.o _).mono ?_;rintro e w' ⟨rfl,rfl⟩);go_ret;exact ⟨rfl,rfl⟩
theorem Vr (n:Nat) (h2:2<=n) (hn:n<=256) (w:AH):AS prog 53 #[AB AE n] w fun e w'=>e=AV (AB AE (Bi n:Nat))/\w=w':=by
 obtain ⟨x,rfl⟩:∃x,n=x+1:=⟨n - 1,by omega⟩;have e1:((x+1:Nat):Int) - 1=(x:Int):=AG
 have e2:aK x - 1=(Nat.log2 x:Nat):=by unfold aK;rw [Ah AG];omega
 have hl:Nat.log2 x < 8:=(Nat.log2_lt AG).2 AG;obtain ⟨y,hy⟩:=Ab (aK x);obtain ⟨g,hg⟩:=Ab (Nat.log2 x);have HL:AI (∀W,AS prog 77 #[AB .u64 x] W fun e w'=>e=AV (AB AE ((g:Int)+1))/\W=w'):=AF (fun W=>by
  have:=sJ x AG W
  rwa [show aK x=(g:Int)+1 by omega] at this)
 have HE:AI (Bi (x+1)=2 ^ g):=AF (by unfold Bi;rw [hg];rfl);rw [<-hg] at hl;have hx0:(0:Int)<=(x:Int):=AG
 have hx1:(x:Int)<=255:=AG
 have hg0:(0:Int)<=(g:Int):=AG
 have hg1:(g:Int)<=7:=AG
 clear e2 hy hg hl h2 hn;go_enter func53,ntmps53;go_wp2_with (go_at_call 77;refine (HL.o _).mono ?_;rintro e w' ⟨rfl,rfl⟩);go_ret;refine ⟨C8 ?_,rfl⟩;rw [HE.o];have hg:g=0\/g=1\/g=2\/g=3\/g=4\/g=5\/g=6\/g=7:=AG
 rcases hg with rfl | rfl | rfl | rfl | rfl | rfl | rfl | rfl <;> decide +kernel
def uA (l:AP):Array AK:=(l.map (Value.int .u32)).toArray
theorem L1 {w:AH} {g:Nat} {t:Ae} {l:AP} (h:AZ w g t (uA l)) {i:Nat} (hi:i < l.length):w.cell? ⟨g,i,none⟩=some (AB .u32 (l.getD i 0)):=by rw [h.cell,uA,Ai,Be,C0,BJ hi];rfl
theorem cO {w:AH} {g:Nat} {t:Ae} {l:AP} (h:AZ w g t (uA l)) (i:Nat) (x:Int):AZ (w.setCell ⟨g,i,none⟩ (AB .u32 x)) g t (uA (l.set i x)):=by
 have:=h.put i (AB .u32 x)
 rwa [uA,Ju,<-RW] at this
def gT:AP:=[1116352408,1899447441,3049323471,3921009573,961987163,1508970993,2453635748,2870763221,3624381080,310598401,607225278,1426881987,1925078388,2162078206,2614888103,3248222580,3835390401,4022224774,264347078,604807628,770255983,1249150122,1555081692,1996064986,2554220882,2821834349,2952996808,3210313671,3336571891,3584528711,113926993,338241895,666307205,773529912,1294757372,1396182291,1695183700,1986661051,2177026350,2456956037,2730485921,2820302411,3259730800,3345764771,3516065817,3600352804,4094571909,275423344,430227734,506948616,659060556,883997877,958139571,1322822218,1537002063,1747873779,1955562222,2024104815,2227730452,2361852424,2428436474,2756734187,3204031479,3329325298]
def Cc (w:AH):Prop:=0 < w.heap.size/\∀t,t < 64->w.cell? ⟨0,t,none⟩=some (AB .u32 (gT[t]?.getD 0))
theorem Cc.below {w w':AH} (h:Cc w) (hb:AJ w w'):Cc w':=⟨Ay h.1 hb.size,fun t ht=>(hb.cell (p:=⟨0,t,none⟩) h.1).trans (h.2 t ht)⟩
def zeros (n:Nat):AP:=List.replicate n 0
def AFV (blk w:AP) (t i:Nat):AP:=w.set t (bits .or .u32 (w[t]?.getD 0*256 % 4294967296) (blk[4*t+i]?.getD 0 % 4294967296))
def rowP (blk w:AP) (t:Nat):Nat->AP
 | 0=>w
 | i+1=>AFV blk (rowP blk w t i) t i
def Uh (blk:AP):Nat->AP
 | 0=>zeros 64
 | t+1=>rowP blk (Uh blk t) t 4
def sg0 (x:Int):Int:=bits .xor .u32 (bits .xor .u32 (rt x (-7)) (rt x (-18))) (x / 8)
def sg1 (y:Int):Int:=bits .xor .u32 (bits .xor .u32 (rt y (-17)) (rt y (-19))) (y / 1024)
def AAr (w:AP) (j:Nat):AP:=w.set (16+j) ((w[j]?.getD 0+sg0 (w[16+j - 15]?.getD 0)+w[16+j - 7]?.getD 0+sg1 (w[16+j - 2]?.getD 0)) % 4294967296)
def cK (blk:AP):Nat->AP
 | 0=>Uh blk 16
 | j+1=>AAr (cK blk j) j
def sgA (a:Int):Int:=bits .xor .u32 (bits .xor .u32 (rt a (-2)) (rt a (-13))) (rt a (-22))
def sgE (e:Int):Int:=bits .xor .u32 (bits .xor .u32 (rt e (-6)) (rt e (-11))) (rt e (-25))
def chU (e f g:Int):Int:=bits .xor .u32 (bits .and .u32 e f) (bits .and .u32 (bits .xor .u32 IntKind.u32.max e) g)
def mjU (a b c:Int):Int:=bits .xor .u32 (bits .xor .u32 (bits .and .u32 a b) (bits .and .u32 a c)) (bits .and .u32 b c)
def AGt (kt wt:Int):AP->AP
 | [a,b,c,d,e,f,g,h]=>[(h+sgE e+chU e f g+kt+wt+(sgA a+mjU a b c)) % 4294967296,a,b,c,(d+(h+sgE e+chU e f g+kt+wt)) % 4294967296,e,f,g]
 | l=>l
def r3P (w v:AP):Nat->AP
 | 0=>v
 | t+1=>AGt (gT[t]?.getD 0) (w[t]?.getD 0) (r3P w v t)
def X8 (hs v:AP):Nat->AP
 | 0=>hs
 | k+1=>(X8 hs v k).set k (((X8 hs v k)[k]?.getD 0+v[k]?.getD 0) % 4294967296)
def absP (hs blk:AP):AP:=X8 hs (r3P (cK blk 48) hs 64) 8
theorem N3 (hs v:AP) (k:Nat):(X8 hs v k).length=hs.length:=by
 induction k with
 | zero=>rfl
 | succ k ih=>rw [X8,D8,ih]
theorem Mb {w w':AH} (h:AJ w w') (row:Option Nat):w.grownBy w' row:=⟨h.os,h.tape,h.output,h.size,fun i hi _=>h.block i hi⟩
theorem nh (blk w:AP) (t i:Nat):(rowP blk w t i).length=w.length:=by
 induction i with
 | zero=>rfl
 | succ i ih=>rw [rowP,AFV,D8,ih]
theorem t8 (blk:AP) (t:Nat):(Uh blk t).length=64:=by
 induction t with
 | zero=>simp [Uh,zeros]
 | succ t ih=>rw [Uh,nh,ih]
theorem t7 (blk:AP) (t:Nat):(cK blk t).length=64:=by
 induction t with
 | zero=>exact t8 _ _
 | succ t ih=>rw [cK,AAr,D8,ih]
theorem dm (hb b off n c:Nat) (hs blk:AP) (w:AH) (hT:Cc w) (hl:hs.length=8) (hh:AZ w hb 174 (uA hs)) (hn:64<=n) (hnn:n<=maxLen) (hbl:b < w.heap.size) (hcells:∀i,i < 64->w.cell? ⟨b,off+i,none⟩=some (AB Ak (blk.getD i 0))):
 AS prog 86 #[AU (some ⟨hb,0,none⟩),AA (some ⟨b,off,none⟩) n c] w fun e w'=>e=AV (BS #[])/\w.grownBy w' (some hb)/\AZ w' hb 174 (uA (absP hs blk)):=by
 have h0:AZ (w.alloc (AQ (uA (zeros 64)) 233)) w.heap.size 233 (uA (zeros 64)):=AZ.new _ _ _;have h1:AJ w (w.alloc (AQ (uA (zeros 64)) 233)):=(Af _ _).alloc (Ad _) _;have hz:uA (zeros 64)=(List.replicate 64 (Value.int .u32 0)).toArray:=by simp [uA,zeros]
 rw [hz] at h0 h1;simp only [List.replicate] at h0 h1;obtain ⟨H0,H1,HZ⟩:=Az h0 h1 hz;have HT:AI (∀W,AJ w W->∀t,t < 64->W.cell? ⟨0,t,none⟩=some (AB .u32 (gT[t]?.getD 0))):=AF (fun W hW=>(hT.below hW).2);obtain ⟨HH,HC⟩:=Aj hh hcells;have AD2:hb < w.heap.size:=hh.lt;unfold maxLen at hnn;clear hh hcells h0 h1 hz hT;go_enter func86,ntmps86;go_wp2_with fail;go_loopg [23] 16 (fun q i wr=>∃k:Nat,k<=16/\q=16 - k/\i=AB AE k/\AZ wr w.heap.size 233 (uA (Uh blk k))/\AJ w wr)
 case atStart=>exact ⟨0,Ar _,rfl,rfl,by rw [Uh,HZ.o];exact H0.o,H1.o⟩
 clear H0 H1 HZ;obtain ⟨k,hk,hq,rfl,hbk,hb0⟩:=hrel;obtain ⟨eG,MN,HB0⟩:=Az hq hbk hb0;clear hq hbk hb0;by_cases hlt:k < 16
 ·have hk0:=Int.natCast_nonneg k
  have hk1:(k:Int) < 16:=AG
  go_wp2_with fail;go_loopg [26] 4 (fun q i wr=>∃j:Nat,j<=4/\q=4 - j/\i=AB AE j/\AZ wr w.heap.size 233 (uA (rowP blk (Uh blk k) k j))/\AJ w wr)
  case atStart=>exact ⟨0,Ar _,rfl,rfl,MN.o,HB0.o⟩
  clear MN HB0;obtain ⟨j,hj,hq,rfl,hbk,hb0⟩:=hrel;have HQ:=AF hq;by_cases AHc:j < 4
  ·have hj0:(0:Int)<=(j:Int):=by omega
   have hj1:(j:Int) < 4:=AG
   have hlw:(rowP blk (Uh blk k) k j).length=64:=by rw [nh,t8]
   have c1:=L1 hbk (i:=k) AG;have c2:wr.cell? ⟨b,off+(4*k+j),none⟩=some (AB Ak (blk.getD (4*k+j) 0)):=(hb0.cell (p:=⟨b,_,none⟩) hbl).trans (HC.o (4*k+j) AG);have lw:=hbk.lt;obtain ⟨MN,HB0⟩:=Aj hbk hb0;have hs1:((4*(k:Int)+(j:Int))).toNat=4*k+j:=AG
   have hs2:4*(k:Int)+(j:Int) < (n:Int):=AG
   have fz:=MN.o.frozen k;clear hq hbk hb0;go_wp2_with fail;go_region;have ALO:AI (AZ (wr.setCell ⟨w.heap.size,k,none⟩ (AB .u32 (bits .or .u32 ((rowP blk (Uh blk k) k j)[k]?.getD 0*256 % 4294967296) (blk[4*k+j]?.getD 0 % 4294967296)))).drew w.heap.size 233 (uA (rowP blk (Uh blk k) k (j+1)))):=AF (cO MN.o k _).drew;have HB2:=AF (HB0.o.setCell (p:=⟨w.heap.size,k,none⟩) (Ad _) (AB .u32 (bits .or .u32 ((rowP blk (Uh blk k) k j)[k]?.getD 0*256 % 4294967296) (blk[4*k+j]?.getD 0 % 4294967296)))).drew;clear c1 c2 fz;go_wp2;go_roundg (4 - (j+1))
   case measure=>exact Bc
   case rel=>exact ⟨j+1,by omega,rfl,by go_num,ALO.o,HB2.o⟩
  have MN:AI (AZ wr w.heap.size 233 (uA (Uh blk (k+1)))):=AF (by have:=hbk;rwa [show j=4 by omega] at this);have HB0:=AF hb0;clear hq hbk hb0;go_wp2;go_roundg (16 - (k+1))
  case measure=>have:=eG.o;omega
  case rel=>exact ⟨k+1,by omega,rfl,by go_num,MN.o,HB0.o⟩
 have AIx:AI (AZ wr w.heap.size 233 (uA (cK blk 0))):=AF (by have:=MN.o;rwa [show k=16 by omega] at this);have HB1:=HB0;clear MN HB0 eG;obtain ⟨wy,rfl⟩:=Ab wr;go_wp2_with fail;go_loopg [7] 48 (fun q i wr=>∃j:Nat,j<=48/\q=48 - j/\i=AB AE ((16+j:Nat):Int)/\AZ wr w.heap.size 233 (uA (cK blk j))/\AJ w wr)
 case atStart=>exact ⟨0,Ar _,rfl,rfl,AIx.o,HB1.o⟩
 clear AIx HB1;obtain ⟨j,hj,hq,rfl,hbk,hb0⟩:=hrel;obtain ⟨HQ,MN,HB0⟩:=Az hq hbk hb0;by_cases AHc:j < 48
 ·have hlw:=t7 blk j
  have c16:=L1 hbk (i:=j) AG;have c0:=L1 hbk (i:=16+j) AG;have c15:=L1 hbk (i:=16+j - 15) AG;have c7:=L1 hbk (i:=16+j - 7) AG;have c2:=L1 hbk (i:=16+j - 2) AG;have lw:=hbk.lt;have fz:=hbk.frozen (16+j);have hj0:(0:Int)<=((16+j:Nat):Int):=AG
  have hj1:((16+j:Nat):Int) < 64:=AG
  clear hq hbk hb0;go_wp2_with fail;go_region;go_wp2_with (go_at_call 130;refine (ng _ UW _ _).mono ?_;rintro e w' ⟨rfl,rfl⟩);go_region;clear c0 c16 c15 c7 c2 fz;go_wp2;go_roundg (48 - (j+1))
  case measure=>exact Bc
  case rel=>exact ⟨j+1,by omega,rfl,by go_num,by
   exact (cO MN.o (16+j) _).drew.drew,(HB0.o.setCell (Ad _) _).drew.drew⟩
 have ALN:AI (AZ wr w.heap.size 233 (uA (cK blk 48))):=AF (by have:=MN.o;rwa [show j=48 by omega] at this);have HB3:=HB0;have hl8:∃h0 h1 h2 h3 h4 h5 h6 h7,hs=[h0,h1,h2,h3,h4,h5,h6,h7]:=by
  match hs,hl with
  | [h0,h1,h2,h3,h4,h5,h6,h7],_=>exact ⟨h0,h1,h2,h3,h4,h5,h6,h7,rfl⟩
 obtain ⟨h0,h1,h2,h3,h4,h5,h6,h7,rfl⟩:=hl8;have kH:=HH.o.below hb0 AD2;have d0:=kH.cell 0;have d1:=kH.cell 1;have d2:=kH.cell 2;have d3:=kH.cell 3;have d4:=kH.cell 4;have d5:=kH.cell 5;have d6:=kH.cell 6;have d7:=kH.cell 7;simp only [uA,Fi,OD,Ai,An,Aw] at d0 d1 d2 d3 d4 d5 d6 d7;have Ta:=AF kH;have hbw:hb < wr.heap.size:=kH.lt;have lw:=hbk.lt;clear MN HB0 HQ hq hbk hb0 kH;obtain ⟨wy,rfl⟩:=Ab wr;have k0:AZ (wy.alloc (AQ #[AB .u32 h0,AB .u32 h1,AB .u32 h2,AB .u32 h3,AB .u32 h4,AB .u32 h5,AB .u32 h6,AB .u32 h7] 174)) wy.heap.size 174 (uA [h0,h1,h2,h3,h4,h5,h6,h7]):=AZ.new _ _ _;have K0:=AF k0;have E0:AI (AJ wy (wy.alloc (AQ #[AB .u32 h0,AB .u32 h1,AB .u32 h2,AB .u32 h3,AB .u32 h4,AB .u32 h5,AB .u32 h6,AB .u32 h7] 174))):=AF (BP _ _);clear k0;go_wp2_with fail;clear d0 d1 d2 d3 d4 d5 d6 d7;go_loopg [92] 64 (fun q i wr=>∃(t:Nat) (v0 v1 v2 v3 v4 v5 v6 v7:Int),t<=64/\q=64 - t/\i=AB AE t/\[v0,v1,v2,v3,v4,v5,v6,v7]=r3P (cK blk 48) [h0,h1,h2,h3,h4,h5,h6,h7] t/\AZ wr wy.heap.size 174 (uA [v0,v1,v2,v3,v4,v5,v6,v7])/\AJ wy wr)
 case atStart=>exact ⟨0,_,_,_,_,_,_,_,_,Ar _,rfl,rfl,rfl,K0.o,E0.o⟩
 clear K0 E0;obtain ⟨t,v0,v1,v2,v3,v4,v5,v6,v7,ht,hq,rfl,hv,hbk,hb0⟩:=hrel;obtain ⟨HQ,HV,MN,HB0⟩:=CJ hq hv hbk hb0;by_cases AHb:t < 64
 ·have e0:=hbk.cell 0
  have e1:=hbk.cell 1;have e2:=hbk.cell 2;have e3:=hbk.cell 3;have e4:=hbk.cell 4;have e5:=hbk.cell 5;have e6:=hbk.cell 6;have e7:=hbk.cell 7;have f0:=hbk.frozen 0;have f1:=hbk.frozen 1;have f2:=hbk.frozen 2;have f3:=hbk.frozen 3;have f4:=hbk.frozen 4;have f5:=hbk.frozen 5;have f6:=hbk.frozen 6;have f7:=hbk.frozen 7;simp only [uA,Fi,OD,Ai,An,Aw] at e0 e1 e2 e3 e4 e5 e6 e7;have uW:=L1 (ALN.o.below hb0 lw) (i:=t) (by rw [t7];exact AHb);have hkt:=HT.o wr (AW HB3.o hb0) t AHb;have lv:=hbk.lt;have ht0:(0:Int)<=(t:Int):=AG
  have ht1:(t:Int) < 64:=AG
  have hsg:IntKind.u32.signed=false:=rfl;clear hq hv hbk hb0;go_wp2_with fail;go_region;go_wp2_with (go_at_call 130;refine (ng _ UW _ _).mono ?_;rintro e w' ⟨rfl,rfl⟩);go_region;go_wp2_with (go_at_call 130;refine (ng _ UW _ _).mono ?_;rintro e w' ⟨rfl,rfl⟩);clear e0 e1 e2 e3 e4 e5 e6 e7 f0 f1 f2 f3 f4 f5 f6 f7 uW hkt hsg;go_wp2;go_roundg (64 - (t+1))
  case measure=>exact Bc
  refine ⟨t+1,_,v0,v1,v2,_,v4,v5,v6,by omega,rfl,by go_num,?hv,((((((((cO MN.o 0 _)).put 1 _).put 2 _).put 3 _).put 4 _).put 5 _).put 6 _).put 7 _ |>.drew.drew,((((((((HB0.o.setCell (Ad _) _).setCell (Ad _) _).setCell (Ad _) _).setCell (Ad _) _).setCell (Ad _) _).setCell (Ad _) _).setCell (Ad _) _).setCell (Ad _) _).drew.drew⟩
  case hv=>rw [r3P,<-HV.o];rfl
 have Dw:AI ([v0,v1,v2,v3,v4,v5,v6,v7]=r3P (cK blk 48) [h0,h1,h2,h3,h4,h5,h6,h7] 64):=AF (by rw [hv,show t=64 by omega]);obtain ⟨wz,hwz⟩:=Ab wr;have VH:AI (AZ wz wy.heap.size 174 (uA [v0,v1,v2,v3,v4,v5,v6,v7])):=AF (by rw [hwz];exact hbk);have CY:AI (AJ w wz):=AF (by rw [hwz];exact AW HB3.o hb0);obtain ⟨V,hV⟩:=Ab ([v0,v1,v2,v3,v4,v5,v6,v7]);have VB:AI (V.length=8):=AF (by rw [hV];rfl);rw [<-hV] at Dw VH;have hkz:AZ wz hb 174 (uA (X8 [h0,h1,h2,h3,h4,h5,h6,h7] V 0)):=by rw [hwz];exact Ta.o.below hb0 hbw
 have vD:=AF hkz;have hvb:hb < wy.heap.size:=hbw;have hvz:wy.heap.size < wz.heap.size:=VH.o.lt;subst hwz;clear HQ HV MN HB0 hq hv hbk hb0 hkz hV;go_wp2_with fail;go_loopg [172] 8 (fun q i wr=>∃k:Nat,k<=8/\q=8 - k/\i=AB AE k/\AZ wr hb 174 (uA (X8 [h0,h1,h2,h3,h4,h5,h6,h7] V k))/\wz.grownBy wr (some hb))
 case atStart=>exact ⟨0,Ar _,rfl,rfl,vD.o,DN _ _⟩
 clear vD;obtain ⟨g,hg,hq,rfl,hbk,hb0⟩:=hrel;obtain ⟨HQ,MN,HB0⟩:=Az hq hbk hb0;by_cases AJy:g < 8
 ·have hlen:=N3 [h0,h1,h2,h3,h4,h5,h6,h7] V g
  have e0:=L1 hbk (i:=g) (by rw [hlen];exact AJy);have e1:=L1 (VH.o.grown hb0 FD) (i:=g) (by have:=VB.o;omega);have fz:=hbk.frozen g;have lz:=hbk.lt;have hg0:(0:Int)<=(g:Int):=AG
  have hg1:(g:Int) < 8:=AG
  clear hq hbk hb0 hlen;go_wp2_with fail;go_region;clear e0 e1 fz;go_wp2;go_roundg (8 - (g+1))
  case measure=>exact Bc
  case rel=>exact ⟨g+1,by omega,rfl,by go_num,(cO MN.o g _).drew,grown_drew (OT HB0.o g _)⟩
 have HE:AI (absP [h0,h1,h2,h3,h4,h5,h6,h7] blk=X8 [h0,h1,h2,h3,h4,h5,h6,h7] V g):=AF (by rw [absP,<-Dw.o,show g=8 by omega]);clear hq hbk hb0;go_wp2_with fail
 go_end0
 refine ⟨rfl,?_,by rw [HE.o];exact MN.o⟩;exact ⟨HB0.o.os.trans CY.o.os,HB0.o.tape.trans CY.o.tape,HB0.o.output.trans CY.o.output,BF CY.o.size HB0.o.size,fun x hx hne=>(HB0.o.block x (Ay hx CY.o.size) hne).trans (CY.o.block x hx)⟩
structure Fd where
 h:AP
 b:AP
 k:Nat
def ZF (s:Fd) (x:Int):Fd:=if s.k+1=64 then ⟨absP s.h (s.b.set s.k x),s.b.set s.k x,0⟩ else ⟨s.h,s.b.set s.k x,s.k+1⟩
def Jf (s:Fd) (l:AP):Fd:=l.foldl ZF s
theorem pZ (s:Fd) (l r:AP):Jf s (l++r)=Jf (Jf s l) r:=Rg
theorem Tn {l:AP} {k:Nat} {x:Int} {c:AP} (h:k+1+c.length<=l.length):splice (l.set k x) (k+1) c=splice l k (x::c):=by
 have hk:k < l.length:=AG
 unfold splice;have e1:(l.set k x).take (k+1)=l.take k++[x]:=by rw [List.take_set,eU hk];rw [Yo _ _ BX];simp [List.length_take,Nat.min_eq_left (Nat.le_of_lt hk)]
 have e2:(l.set k x).drop (k+1+c.length)=l.drop (k+(x::c).length):=by rw [List.drop_set_of_lt AG];simp only [Fl];congr 1;omega
 rw [e1,e2];simp
theorem Ze:∀(c:AP) (s:Fd),s.b.length=64->s.k+c.length<=64->s.k < 64->0 < c.length->
 Jf s c=if s.k+c.length=64 then ⟨absP s.h (splice s.b s.k c),splice s.b s.k c,0⟩ else ⟨s.h,splice s.b s.k c,s.k+c.length⟩
 | [],_,_,_,_,h=>by simp at h
 |
  [x],⟨h,b,k⟩,hb,hc,hk,_=>by
  have hb:b.length=64:=hb;have hk:k < 64:=hk;have e:splice b k [x]=b.set k x:=by unfold splice;rw [List.set_eq_take_append_cons_drop,Am AG];rfl
  rw [e];rfl
 |
  x::y::r,⟨h,b,k⟩,hb,hc,hk,_=>by
  have hb:b.length=64:=hb;have hc:k+(r.length+1+1)<=64:=hc;have hk:k < 64:=hk;have ih:=Ze (y::r) ⟨h,b.set k x,k+1⟩ (by rw [D8];exact hb) sj (by omega:k+1 < 64) Ac;have e:Jf ⟨h,b,k⟩ (x::y::r)=Jf ⟨h,b.set k x,k+1⟩ (y::r):=by show Jf (ZF ⟨h,b,k⟩ x) (y::r)=_;rw [ZF,Ah (show ¬(k+1=64) by omega)]
  rw [e,ih];have e2:splice (b.set k x) (k+1) (y::r)=splice b k (x::y::r):=Tn sj;show (if k+1+(y::r).length=64 then _ else _)=(if k+(x::y::r).length=64 then _ else _);have el:k+1+(y::r).length=k+(x::y::r).length:=by simp only [Fl];omega
  simp only [e2,el]
theorem jV:∀(c:AP) (s:Fd),s.h.length=8/\s.b.length=64/\s.k < 64->(Jf s c).h.length=8/\(Jf s c).b.length=64/\(Jf s c).k < 64
 | [],_,h=>h
 |
  x::c,s,h=>by
  show (Jf (ZF s x) c).h.length=8/\_;refine jV c (ZF s x) ?_;unfold ZF;split
  · exact ⟨by show (absP _ _).length=8;rw [absP,N3];exact h.1,by show (s.b.set _ _).length=64;rw [D8];exact h.2.1,by show 0 < 64;omega⟩
  · exact ⟨h.1,by show (s.b.set _ _).length=64;rw [D8];exact h.2.1,by show s.k+1 < 64;omega⟩
def OW (s:Fd) (ps:List (AP)):Fd:=ps.foldl Jf s
def R8 (t:Int) (ps:List (AP)):Int:=ps.foldl (fun t p=>IntKind.u64.wrap (t+(p.length:Int))) t
def F5 (b:AP) (k:Nat):AP:=b.take k++128::zeros (63 - k)
def Ow (b:AP) (t:Int):Nat->AP
 | 0=>b
 | i+1=>(Ow b t i).set (63 - i) (IntKind.u64.wrap (t*8) / 2 ^ (8*i) % 256)
theorem ABd (b:AP) (t:Int) (i:Nat):(Ow b t i).length=b.length:=by
 induction i with
 | zero=>rfl
 | succ i ih=>rw [Ow,D8,ih]
def endP (s:Fd) (t:Int):AP:=
 if 56 < s.k+1 then absP (absP s.h (F5 s.b s.k)) (Ow (zeros 64) t 8) else absP s.h (Ow (F5 s.b s.k) t 8)
def QM:AP:=[1779033703,3144134277,1013904242,2773480762,1359893119,2600822924,528734635,1541459225]
def NQ (h:AP):Nat->AP
 | 0=>zeros 32
 | i+1=>(NQ h i).set i (h[i / 4]?.getD 0 / 2 ^ (24 - 8*(i % 4)) % 256)
theorem aZ (h:AP) (i:Nat):(NQ h i).length=32:=by
 induction i with
 | zero=>simp [NQ,zeros]
 | succ i ih=>rw [NQ,D8,ih]
def O8 (ps:List (AP)):AP:=NQ (endP (OW ⟨QM,zeros 64,0⟩ ps) (R8 0 ps)) 32
def Aq (tag b:AP):AP:=O8 [O8 [tag],b]
theorem TI (ps:List (AP)):(O8 ps).length=32:=aZ _ _
theorem C3 (t b:AP):(Aq t b).length=32:=TI _
def Io (_:AH) (cs:List AK) (x:Int):Prop:=cs=[AB Ak x]
theorem QC:Ea Io:=fun _ _ _ _ _ h=>h
def VR (w:AH) (cs:List AK) (l:AP):Prop:=∃A n c,cs=[AA A n c]/\Ag 1 Io w (AA A n c) l
theorem AA4:Ea VR:=fun _ _ hb _ _ ⟨A,n,c,h,hs⟩=>⟨A,n,c,h,hs.mono QC hb⟩
def yA (l:AP):Array AK:=(l.map (Value.int .u8)).toArray
theorem Jv {w:AH} {g:Nat} {t:Ae} {l:AP} (h:AZ w g t (yA l)) {i:Nat} (hi:i < l.length):w.cell? ⟨g,i,none⟩=some (AB Ak (l.getD i 0)):=by rw [h.cell,yA,Ai,Be,C0,BJ hi];rfl
theorem Wz {w:AH} {g:Nat} {t:Ae} {l:AP} (h:AZ w g t (yA l)) (i:Nat) (x:Int):AZ (w.setCell ⟨g,i,none⟩ (AB Ak x)) g t (yA (l.set i x)):=by
 have:=h.put i (AB Ak x)
 rwa [yA,Ju,<-RW] at this
theorem dH {α β:Type} (f:α->β) (l:List α) (k:Nat) (c:List α):(splice l k c).map f=splice (l.map f) k (c.map f):=by simp [splice]
theorem ZD {a w w':AH} {row:Option Nat} {B:Nat} (h:a.grownBy w row) (hb:BK B w w') (hB:a.heap.size<=B):a.grownBy w' row:=
 ⟨hb.os.trans h.os,hb.tape.trans h.tape,hb.output.trans h.output,BF h.size hb.size,fun i hi hne=>(hb.block i AG).trans (h.block i hi hne)⟩
theorem M9 {a w w':AH} {row:Option Nat} (h:a.grownBy w row) (k:w.grownBy w' row):a.grownBy w' row:=
 ⟨k.os.trans h.os,k.tape.trans h.tape,k.output.trans h.output,BF h.size k.size,fun i hi hne=>(k.block i (Ay hi h.size) hne).trans (h.block i hi hne)⟩
theorem below_of_grown {a w:AH} {g B:Nat} (h:a.grownBy w (some g)) (hB:B<=g) (hs:B<=a.heap.size):BK B a w:=
 ⟨h.os,h.tape,h.output,h.size,fun i hi=>h.block i AG (fun e=>by injection e;omega)⟩
theorem Ag.xt {α:Type} {sz:Nat} {R:AH->List AK->α->Prop} {w:AH} {l:List α} {b off n c k:Nat} (h:Ag sz R w (AA (some ⟨b,off,none⟩) n c) l) (hk:k<=n):
 Ag sz R w (AA (some ⟨b,off+k*sz,none⟩) (n - k) (c - k)) (l.drop k):=by
 obtain ⟨A,cap,e,h1,h2,h3⟩:=h;injection e with e1 e2 e3;subst e1 e2 e3;refine ⟨_,_,by rw [Hq],by rw [Hq];omega,by omega,fun i x hi=> ?_⟩;rw [EC] at hi;obtain ⟨b',off',cs,e,hb,hl,hc,hr⟩:=h3 _ _ hi;injection e with e;injection e with e1 e2 _;subst e1 e2;refine ⟨b,off+k*sz,cs,rfl,hb,hl,fun j u hu=> ?_,hr⟩;rw [<-hc j u hu,Nat.add_mul];congr 2;omega
structure BlW (E w:AH) (hb g:Nat) (s:Fd) (wr:AH):Prop where
 h:AZ wr hb 174 (uA s.h)
 b:AZ wr g 231 (yA s.b)
 gr:w.grownBy wr (some hb)
 inv:s.h.length=8/\s.b.length=64/\s.k < 64
theorem Pp {g:Nat} {t:Ae}:∀(xs:AP) (o:Nat) (w:AH) (l:AP),AZ w g t (yA l)->o+xs.length<=l.length->AZ (w.setCells g o (xs.map (.int .u8))) g t (yA (splice l o xs))
 |
  [],o,w,l,h,_=>by
  have e:splice l o []=l:=by simp [splice]
  rw [e];exact h
 |
  x::xs,o,w,l,h,hl=>by
  rw [<-Tn (by simp only [Fl] at hl;omega)];exact Pp xs (o+1) _ _ (Wz h o x) (by rw [D8];simp only [Fl] at hl;omega)
theorem below_setCells {g B:Nat}:∀(vs:List AK) (o:Nat) (a w:AH),BK B a w->B<=g->BK B a (w.setCells g o vs)
 | [],_,_,_,h,_=>h
 | v::vs,o,a,w,h,hB=>below_setCells vs (o+1) a (w.setCell ⟨g,o,none⟩ v) (h.setCell (p:=⟨g,o,none⟩) hB v) hB
theorem Tv {a w:AH} {g:Nat} {row:Option Nat} (h:a.grownBy w row) (hg:a.heap.size<=g) (o:Nat) (vs:List AK):a.grownBy (w.setCells g o vs) row:=
 ZD h (below_setCells vs o w w (Af _ _) (Ad g)) hg
theorem uK {b:AP} {k:Nat} (hb:b.length=64) (hk:k < 64):splice (b.set k 128) (k+1) (zeros (63 - k))=F5 b k:=by rw [Tn (by simp [zeros];omega)];unfold splice F5;rw [EV (by simp [zeros];omega)];simp
theorem yL (hb np pc:Nat) (P:Option Aa) (hs:AP) (ps:List (AP)) (E w:AH) (hT:Cc E) (hE:AJ E w) (hbE:E.heap.size<=hb) (hl:hs.length=8) (hh:AZ w hb 174 (uA hs)) (hp:Ag 1 VR E (AA P np pc) ps):
 AS prog 85 #[.func (.func 86) #[AU (some ⟨hb,0,none⟩)] #[],AA P np pc] w fun e w'=>e=AV (BS #[])/\w.grownBy w' (some hb)/\AZ w' hb 174 (uA (endP (OW ⟨hs,zeros 64,0⟩ ps) (R8 0 ps))):=by
 have hz:yA (zeros 64)=(List.replicate 64 (Value.int .u8 0)).toArray:=by simp [yA,zeros]
 have h0:BlW E w hb w.heap.size ⟨hs,zeros 64,0⟩ (w.alloc (AQ (yA (zeros 64)) 231)):=⟨hh.alloc _,AZ.new _ _ _,Tw (DN _ _) _,hl,by simp [zeros],(by omega:(0:Nat) < 64)⟩;rw [hz] at h0;simp only [List.replicate] at h0;obtain ⟨H0,HT,HP,HE⟩:=CJ h0 hT hp hE;have hhb:=hh.lt;have hnp:np<=9223372036854775807:=by have:=hp.le;omega
 have H9:=AF hp.len;clear h0 hT hp hE hh hz;obtain ⟨Tf,hTf⟩:=Ab (OW ⟨hs,zeros 64,0⟩ ps);obtain ⟨Tt,hTt⟩:=Ab (R8 0 ps);rw [<-hTf,<-hTt];obtain ⟨uw,PH⟩:=Aj hTf hTt;clear hTf hTt;go_enter func85,ntmps85;go_wp2_with fail;go_loopg [5,6,13] np (fun q at' tot i wr=>∃(k:Nat) (s:Fd) (t:Int),k<=np/\q=np - k/\i=AB AE k/\at'=AB AE s.k/\tot=AB .u64 t/\OW s (ps.drop k)=Tf/\R8 t (ps.drop k)=Tt/\BlW E w hb w.heap.size s wr)
 case atStart=>exact ⟨0,⟨hs,zeros 64,0⟩,0,Ar _,rfl,rfl,rfl,rfl,uw.o.symm,PH.o.symm,H0.o⟩
 clear H0 uw PH;obtain ⟨k,s,t,hk,hq,rfl,rfl,rfl,hf,ht,hB⟩:=hrel;obtain ⟨HQ,HF,Db,HB⟩:=CJ hq hf ht hB;by_cases hlt:k < np
 ·have hEr:AJ E wr:=HE.o.trans (below_of_grown hB.gr hbE HE.o.size)
  obtain ⟨b,off,x,cs,rfl,hbl,hx,hcl,hc,A,n,c,rfl,hs1⟩:=HP.o.at_ hlt;have c0:wr.cell? ⟨b,off+k,none⟩=some (AA A n c):=by have:=hc 0 _ rfl;rw [F9,D6] at this;exact (hEr.cell (p:=⟨b,_,none⟩) hbl).trans this
  have hbw:b < wr.heap.size:=Ay hbl hEr.size;have hk0:=Int.natCast_nonneg k
  have hk1:(k:Int) < (np:Int):=AG
  have hnl:=hs1.len;have hn2:n<=9223372036854775807:=by have:=hs1.le;omega
  have HDR:AI (OW (Jf s x) (ps.drop (k+1))=Tf/\R8 (IntKind.u64.wrap (t+(n:Int))) (ps.drop (k+1))=Tt):=AF (by rw [hnl,<-hf,<-ht,drop_cons hx];exact ⟨rfl,rfl⟩)
  obtain ⟨F1,hF1⟩:=Ab (Jf s x);rw [<-hF1] at HDR;obtain ⟨Wi,Ki⟩:=Aj hF1 hs1;clear hq hf ht hB hcl hc hnl hF1 HF Db hs1 hEr;go_wp2_with fail;clear c0 hbw;go_loopg [5,8] n (fun q at' b' wr=>∃(s:Fd) (l:AP) (A:Option Aa) (m c:Nat),m<=9223372036854775807/\q=m/\at'=AB AE s.k/\b'=AA A m c/\Jf s l=F1/\Ag 1 Io E (AA A m c) l/\BlW E w hb w.heap.size s wr)
  case atStart=>exact ⟨s,x,A,n,c,hn2,rfl,rfl,rfl,Wi.o.symm,Ki.o,HB.o⟩
  clear Wi Ki HB;obtain ⟨s2,l,A2,m,c2,hm,hq,rfl,rfl,hf,hs2,hB⟩:=hrel;obtain ⟨Kj,HF,HS2,HB⟩:=CJ hq hf hs2 hB;by_cases hm0:0 < m
  ·obtain ⟨b2,off2,x0,cs0,rfl,AD2,hx0,_,_,_⟩:=hs2.at_ hm0
   have hml:=hs2.len;have hcap:=hs2.le;have hEr:AJ E wr:=HE.o.trans (below_of_grown hB.gr hbE HE.o.size);obtain ⟨sh,sb,sk⟩:=s2;obtain ⟨i1,i2,i3⟩:=hB.inv;have i1:sh.length=8:=i1;have i2:sb.length=64:=i2;have i3:sk < 64:=i3;obtain ⟨n1,hn1⟩:=Ab (Nat.min m (64 - sk));have AJu:0 < n1:=by rw [hn1];exact Nat.lt_min.2 ⟨hm0,by omega⟩
   have AJt:n1<=m:=by rw [hn1];exact Nat.min_le_left _ _
   have AHZ:sk+n1<=64:=by have:n1<=64 - sk:=by {rw [hn1];exact Nat.min_le_right _ _};omega
   obtain ⟨X,hX⟩:=Ab ((l.take n1).map (Value.int .u8));have hXl:X.length=n1:=by rw [hX,CX,DR,Kr AG]
   obtain ⟨HXl,HX,VE,Zp,HI2,HI1⟩:=FR hXl hX hn1 hml i2 i1;have hk0:(0:Int)<=(sk:Int):=AG
   have hk1:(sk:Int) < 64:=AG
   have hk2:(sk:Int)<=64:=AG
   have hm1:(0:Int) < (m:Int):=AG
   have gb:=hB.b.lt;have iQ:AI (∀j v,X[j]? =some v->wr.cell? ((⟨b2,off2,none⟩:Aa).add j)=some v):=AF (by
    intro j v hv;rw [hX,Be] at hv;obtain ⟨y,hy,rfl⟩:=Ds.1 hv;have hjl:=(BA.1 hy).1;rw [DR] at hjl;obtain ⟨b3,AMm,x3,X0,e3,hb3,hx3,hl3,hc3,rfl⟩:=hs2.at_ (k:=j) AG;injection e3 with e3;injection e3 with e3 e4 _;subst e3 e4;rw [JN AG,hx3] at hy;injection hy with hy;subst hy;have:=hc3 0 _ rfl;rw [F9,D6] at this;have ha:(⟨b2,off2,none⟩:Aa).add j=⟨b2,off2+j,none⟩:=by unfold Addr.add;split <;> simp_all
    rw [ha];exact (hEr.cell (p:=⟨b2,_,none⟩) hb3).trans this)
   clear hq hf hs2 hB hXl hX hn1 hml i1 i2 hx0;go_upto_region 8 with (refine wpList_copy_splice rfl (AY 26) (AY 27) 92 92 rfl 5 underlying92 AL _ _ _ _ _ _ rfl rfl w.heap.size sk (sb.map (Value.int .u8)) 231 HB.o.b X (HXl.o.trans VE.o) (fun _=>⟨rfl,_,rfl,iQ.o⟩) (by have:=HXl.o;have:=HI2.o;rw [CX];omega) (by intro v hv;rw [HX.o] at hv;obtain ⟨_,_,rfl⟩:=Df.1 hv;rfl) w.heap.size wr (Af _ _) (Ad _) ?_;intro w2 HG2 hB2;rw [HXl.o]);obtain ⟨B1,hB1⟩:=Ab (splice sb sk (l.take n1));have kb:AZ w2 w.heap.size 231 (yA B1):=by have this:_=_:=HG2;rw [HX.o,<-dH] at this;rw [hB1];exact this
   have kh:AZ w2 hb 174 (uA sh):=HB.o.h.below hB2 hhb;have kg:w.grownBy w2 (some hb):=ZD HB.o.gr hB2 (Ad _);have hBl:B1.length=64:=by
    have h1:(l.take n1).length=n1:=by rw [DR,Kr em]
    rw [hB1,length_splice _ _ _ (by rw [h1,HI2.o];exact AHZ),HI2.o]
   have hch:Jf ⟨sh,sb,sk⟩ (l.take n1)=if sk+n1=64 then ⟨absP sh B1,B1,0⟩ else ⟨sh,B1,sk+n1⟩:=by
    have h1:(l.take n1).length=n1:=by rw [DR,Kr em]
    have:=Ze (l.take n1) ⟨sh,sb,sk⟩ HI2.o (by rw [h1];exact AHZ) (by show sk < 64;omega) (by rw [h1];exact AJu);rw [h1] at this;rw [hB1];exact this
   have Lt:AI (Jf (if sk+n1=64 then ⟨absP sh B1,B1,0⟩ else ⟨sh,B1,sk+n1⟩) (l.drop n1)=F1):=AF (by rw [<-hch,<-pZ,OG];exact HF.o)
   obtain ⟨KB,KH,KG,Np⟩:=CJ kb kh kg hBl;have Sj:AI (Ag 1 Io E (AA (some ⟨b2,off2+n1,none⟩) (m - n1) (c2 - n1)) (l.drop n1)):=AF (by have:=HS2.o.xt AJt;rwa [F9] at this);have ux:AI (c2=n1->Ag 1 Io E (AA (some ⟨b2,off2,none⟩) (m - n1) 0) (l.drop n1)):=AF (fun h=>by
    have h1:m - n1=0:=AG
    rw [h1,EV em];exact Ag.nil _ _ (Ar _))
   have hn0:(0:Int)<=(n1:Int):=AG
   have AMt:(n1:Int)<=(m:Int):=AG
   have hw2:w.heap.size < w2.heap.size:=kb.lt;clear hB1 kb kh kg hBl hch HG2 hB2 HX iQ HF HB HS2 hcap hEr;have HAB:AI (∀W,AJ w2 W->AS prog 86 #[AU (some ⟨hb,0,none⟩),AA (some ⟨w.heap.size,0,none⟩) 64 64] W fun e w'=>e=AV (BS #[])/\W.grownBy w' (some hb)/\AZ w' hb 174 (uA (absP sh B1))):=AF (fun W hW=>by have kb':AZ W w.heap.size 231 (yA B1):=KB.o.below hW hw2;exact dm hb w.heap.size 0 64 64 sh B1 W (HT.o.below (HE.o.trans (below_of_grown (KG.o) hbE HE.o.size) |>.trans (hW.mono (by have:=HE.o.size;omega)))) HI1.o (KH.o.below hW AG) (Ad _) Gj kb'.lt (fun i hi=>by rw [Ex];exact Jv kb' (by rw [Np.o];exact hi)))
   by_cases hcn:c2=n1 <;> by_cases h64:sk+n1=64
   ·obtain rfl:=hcn.symm
    have hd1:((sk:Int)+(n1:Int)==64)=true:=by simp;omega
    have HI:AI (sk+n1=64):=AF h64;rw [Am h64] at Lt;clear h64;go_wp2_with fail;go_region;go_wp2_with (go_at_call 86;refine (HAB.o _ (Af _ _).drew).mono ?_;clear HAB);rintro e w3 ⟨rfl,hg3,hk3⟩;have KB3:AI (AZ w3 w.heap.size 231 (yA B1)):=AF (KB.o.drew.grown hg3 FD);have KG3:AI (w.grownBy w3 (some hb)):=AF (M9 (grown_drew KG.o) hg3);have KH3:=AF hk3;clear hg3 hk3 hd1;go_wp2;go_roundg (m - n1)
    case measure=>exact Ln
    case rel=>exact ⟨⟨absP sh B1,B1,0⟩,l.drop n1,_,m - n1,_,by omega,rfl,rfl,rfl,Lt.o,ux.o trivial,⟨KH3.o,KB3.o,KG3.o,by show (absP sh B1).length=8;rw [absP,N3];exact HI1.o,Np.o,(by omega:(0:Nat) < 64)⟩⟩
   ·obtain rfl:=hcn.symm
    have hd1:((sk:Int)+(n1:Int)==64)=false:=by simp;omega
    rw [Ah h64] at Lt;clear HAB;go_wp2_with fail;go_region;go_wp2;go_roundg (m - n1)
    case measure=>exact Ln
    case rel=>exact ⟨⟨sh,B1,sk+n1⟩,l.drop n1,_,m - n1,_,by omega,rfl,by go_num,rfl,Lt.o,ux.o trivial,⟨KH.o.drew,KB.o.drew,grown_drew KG.o,HI1.o,Np.o,(by omega:sk+n1 < 64)⟩⟩
   ·have hx:=trivial
    clear hx;have hd1:((sk:Int)+(n1:Int)==64)=true:=by simp;omega
    have HI:AI (sk+n1=64):=AF h64;rw [Am h64] at Lt;clear h64;go_wp2_with fail;go_region;go_wp2_with (go_at_call 86;refine (HAB.o _ (Af _ _).drew).mono ?_;clear HAB);rintro e w3 ⟨rfl,hg3,hk3⟩;have KB3:AI (AZ w3 w.heap.size 231 (yA B1)):=AF (KB.o.drew.grown hg3 FD);have KG3:AI (w.grownBy w3 (some hb)):=AF (M9 (grown_drew KG.o) hg3);have KH3:=AF hk3;clear hg3 hk3 hd1;go_wp2;go_roundg (m - n1)
    case measure=>exact Ln
    case rel=>exact ⟨⟨absP sh B1,B1,0⟩,l.drop n1,_,m - n1,_,by omega,rfl,rfl,rfl,Lt.o,Sj.o,⟨KH3.o,KB3.o,KG3.o,by show (absP sh B1).length=8;rw [absP,N3];exact HI1.o,Np.o,(by omega:(0:Nat) < 64)⟩⟩
   have hx:=trivial;clear hx;have hd1:((sk:Int)+(n1:Int)==64)=false:=by simp;omega
   rw [Ah h64] at Lt;clear HAB;go_wp2_with fail;go_region;go_wp2;go_roundg (m - n1)
   case measure=>exact Ln
   case rel=>exact ⟨⟨sh,B1,sk+n1⟩,l.drop n1,_,m - n1,_,by omega,rfl,by go_num,rfl,Lt.o,Sj.o,⟨KH.o.drew,KB.o.drew,grown_drew KG.o,HI1.o,Np.o,(by omega:sk+n1 < 64)⟩⟩
  have hm1:m=0:=AG
  have hl0:l=[]:=JO (by have:=hs2.len;omega);have HF2:AI (s2=F1):=AF (by rw [<-hf,hl0];rfl);clear hq hf hs2 hB hl0 HF HS2;subst hm1;go_wp2;go_roundg (np - (k+1))
  case measure=>exact Bc
  case rel=>exact ⟨k+1,s2,_,by omega,rfl,by go_num,rfl,rfl,by rw [HF2.o];exact HDR.o.1,HDR.o.2,HB.o⟩
 have hk:k=np:=AG
 have hd:ps.drop k=[]:=EV Y1;have Lp:AI (s=Tf):=AF (by rw [<-hf,hd];rfl);have iP:AI (t=Tt):=AF (by rw [<-ht,hd];rfl);obtain ⟨sh,sb,sk⟩:=s;obtain ⟨i1,i2,i3⟩:=hB.inv;have i3:sk < 64:=i3;have HI1:AI (sh.length=8):=AF i1;have HI2:AI (sb.length=64):=AF i2;have gb:=hB.b.lt;have c1:=Jv hB.b (i:=sk) (by show sk < sb.length;rw [HI2.o];exact i3);have fz:=hB.b.frozen sk;have hk0:(0:Int)<=(sk:Int):=AG
 have hk1:(sk:Int) < 64:=AG
 have hk2:(sk:Int)+1<=64:=AG
 have hk3:(0:Int)<=(sk:Int)+1:=AG
 have k1:AZ (wr.setCell ⟨w.heap.size,sk,none⟩ (AB Ak 128)) w.heap.size 231 (yA (sb.set sk 128)):=Wz hB.b sk 128;have hgw:w.heap.size < (wr.setCell ⟨w.heap.size,sk,none⟩ (AB Ak 128)).heap.size:=k1.lt;have KH:AI (AZ (wr.setCell ⟨w.heap.size,sk,none⟩ (AB Ak 128)) hb 174 (uA sh)):=AF (hB.h.far (by show hb≠w.heap.size;omega) _);have KG:AI (w.grownBy (wr.setCell ⟨w.heap.size,sk,none⟩ (AB Ak 128)) (some hb)):=AF (ZD hB.gr ((Af w.heap.size wr).setCell (Ad _) _) (Ad _));have K1:=AF k1;have HAB:AI (∀(sh b:AP) W,sh.length=8->b.length=64->w.grownBy W (some hb)->AZ W w.heap.size 231 (yA b)->AZ W hb 174 (uA sh)->AS prog 86 #[AU (some ⟨hb,0,none⟩),AA (some ⟨w.heap.size,0,none⟩) 64 64] W fun e w'=>e=AV (BS #[])/\W.grownBy w' (some hb)/\AZ w' hb 174 (uA (absP sh b))):=AF (fun sh b W h1 h2 h3 h4 h5=>
  dm hb w.heap.size 0 64 64 sh b W (HT.o.below (HE.o.trans (below_of_grown h3 hbE HE.o.size))) h1 h5 (Ad _) Gj h4.lt (fun i hi=>by rw [Ex];exact Jv h4 (by rw [h2];exact hi)))
 have Sr:AI (∀(b:AP) (o m:Nat) W,b.length=64->0 < m->o+m=64->AZ W w.heap.size 231 (yA b)->∀ty,(Builtin.clear_ #[92] ty #[AA (some ⟨w.heap.size,o,none⟩) m m]).run prog W=.ok (BS #[]) (W.setCells w.heap.size o ((zeros m).map (.int .u8)))):=AF (fun b o m W h1 h2 h3 h4 ty=>by have:=Lib.run_clear_slice (P:=prog) W 92 5 ty (AB Ak 0) underlying92 (fun w=>by kernel_rfl) rfl rfl w.heap.size o m m h2 (fun j hj=>by rw [Jv h4 (by rw [h1];omega)];rfl) (fun j _=>h4.frozen _);rw [this,zeros,List.map_replicate])
 have HCZ:AI (∀W ty,(Builtin.clear_ #[92] ty #[AA (some ⟨w.heap.size,0,none⟩) 0 0]).run prog W=.ok (BS #[]) W):=AF (fun W ty=>by simp [Builtin.clear_,run_underlying underlying92]);clear hq hf ht hB i1 i2 hd HF Db HQ hk k1;by_cases h63:sk=63
 case' pos=>
  subst h63;have hcl:=HCZ.o (wr.setCell ⟨w.heap.size,63,none⟩ (AB Ak 128));have Jd:AI (AZ (wr.setCell ⟨w.heap.size,63,none⟩ (AB Ak 128)) w.heap.size 231 (yA (F5 sb 63))):=AF (by
   have h1:=K1.o;have h2:=uK HI2.o i3;have h3:splice (sb.set 63 128) (63+1) (zeros (63 - 63))=sb.set 63 128:=by unfold splice;rw [Cy si,EV si];simp [zeros]
   rw [<-h2,h3];exact h1)
  go_upto_region 15 with fail;obtain ⟨w3,hw3⟩:=Ab (wr.setCell ⟨w.heap.size,63,none⟩ (AB Ak 128));rw [<-hw3];rw [<-hw3] at Jd KH KG;have hg3:=Jd.o.lt;clear hcl c1 fz K1 hw3 HCZ;have hpl:(F5 sb 63).length=64:=by simp [F5,zeros,HI2.o] <;> omega
  have Qt:=AF (HAB.o sh (F5 sb 63) w3 HI1.o hpl KG.o Jd.o KH.o);clear hpl;go_upto_region 17 with (go_at_call 86;refine Qt.o.mono ?_;rintro e w4 ⟨rfl,hg4,hk4⟩);have k4:AZ w4 w.heap.size 231 (yA (F5 sb 63)):=Jd.o.grown hg4 FD;have hcl:=Sr.o (F5 sb 63) 0 64 w4 UG AG AG k4;have HKB:AI (AZ (w4.setCells w.heap.size 0 ((zeros 64).map (.int .u8))) w.heap.size 231 (yA (zeros 64))):=AF (by
   have h1:=Pp (zeros 64) 0 _ _ k4 UG;have h2:splice (F5 sb 63) 0 (zeros 64)=zeros 64:=by unfold splice;rw [EV UG];simp
   rw [h2] at h1;exact h1)
  have Ta:AI (AZ (w4.setCells w.heap.size 0 ((zeros 64).map (.int .u8))) hb 174 (uA (absP sh (F5 sb 63)))):=AF (hk4.below (below_setCells _ _ _ _ (Af w.heap.size _) (Ad _)) hhb);have Zs:AI (w.grownBy (w4.setCells w.heap.size 0 ((zeros 64).map (.int .u8))) (some hb)):=AF (Tv (M9 KG.o hg4) (Ad _) _ _);have NR:AI (absP (absP sh (F5 sb 63)) (Ow (zeros 64) t 8)=endP Tf Tt/\(absP sh (F5 sb 63)).length=8/\(zeros 64).length=64):=AF ⟨by
   rw [<-Lp.o,<-iP.o,endP,Am (by show 56 < 63+1;omega)],by rw [absP,N3];exact HI1.o,by simp [zeros]⟩
  clear hg4 hk4 k4 Qt;go_wp2_with (simp only [hcl]);clear hcl;obtain ⟨wz,hwz⟩:=Ab (w4.setCells w.heap.size 0 ((zeros 64).map (.int .u8)));rw [<-hwz];rw [<-hwz] at HKB Ta Zs;obtain ⟨Hs,jS⟩:=Ab (absP sh (F5 sb 63));obtain ⟨Bs,hBs⟩:=Ab (zeros 64);rw [<-jS] at Ta NR;rw [<-hBs] at HKB NR;clear hwz jS hBs KG KH Jd Lp iP
 case' neg=>
  have hcl:=Sr.o (sb.set sk 128) (sk+1) (63 - sk) (wr.setCell ⟨w.heap.size,sk,none⟩ (AB Ak 128)) (by rw [D8];exact HI2.o) AG AG K1.o;have Jd:AI (AZ ((wr.setCell ⟨w.heap.size,sk,none⟩ (AB Ak 128)).setCells w.heap.size (sk+1) ((zeros (63 - sk)).map (.int .u8))) w.heap.size 231 (yA (F5 sb sk))):=AF (by rw [<-uK HI2.o i3];exact Pp _ _ _ _ K1.o (by rw [D8,HI2.o];simp [zeros];omega))
  have KG2:AI (w.grownBy ((wr.setCell ⟨w.heap.size,sk,none⟩ (AB Ak 128)).setCells w.heap.size (sk+1) ((zeros (63 - sk)).map (.int .u8))) (some hb)):=AF (Tv KG.o (Ad _) _ _);have KH2:AI (AZ ((wr.setCell ⟨w.heap.size,sk,none⟩ (AB Ak 128)).setCells w.heap.size (sk+1) ((zeros (63 - sk)).map (.int .u8))) hb 174 (uA sh)):=AF (KH.o.below (below_setCells _ _ _ _ (Af w.heap.size _) (Ad _)) hhb);clear KG KH;have KG:=KG2;have KH:=KH2;clear KG2 KH2;go_upto_region 15 with fail;obtain ⟨w3,hw3⟩:=Ab ((wr.setCell ⟨w.heap.size,sk,none⟩ (AB Ak 128)).setCells w.heap.size (sk+1) ((zeros (63 - sk)).map (.int .u8)));rw [<-hw3];rw [<-hw3] at Jd KH KG;clear hcl
 case' neg=>
  have hg3:=Jd.o.lt;clear c1 fz K1 hw3 HCZ;by_cases h56:56 < sk+1
  case' pos=>
   have hd2:decide ((56:Int) < (sk:Int)+1)=true:=Bg AG;have hpl:(F5 sb sk).length=64:=by simp [F5,zeros,HI2.o] <;> omega
   have Qt:=AF (HAB.o sh (F5 sb sk) w3 HI1.o hpl KG.o Jd.o KH.o);clear hpl;go_upto_region 17 with (go_at_call 86;refine Qt.o.mono ?_;rintro e w4 ⟨rfl,hg4,hk4⟩);have k4:AZ w4 w.heap.size 231 (yA (F5 sb sk)):=Jd.o.grown hg4 FD;have hcl:=Sr.o (F5 sb sk) 0 64 w4 UG AG AG k4;have HKB:AI (AZ (w4.setCells w.heap.size 0 ((zeros 64).map (.int .u8))) w.heap.size 231 (yA (zeros 64))):=AF (by
    have h1:=Pp (zeros 64) 0 _ _ k4 UG;have h2:splice (F5 sb sk) 0 (zeros 64)=zeros 64:=by unfold splice;rw [EV UG];simp
    rw [h2] at h1;exact h1)
   have Ta:AI (AZ (w4.setCells w.heap.size 0 ((zeros 64).map (.int .u8))) hb 174 (uA (absP sh (F5 sb sk)))):=AF (hk4.below (below_setCells _ _ _ _ (Af w.heap.size _) (Ad _)) hhb);have Zs:AI (w.grownBy (w4.setCells w.heap.size 0 ((zeros 64).map (.int .u8))) (some hb)):=AF (Tv (M9 KG.o hg4) (Ad _) _ _);have NR:AI (absP (absP sh (F5 sb sk)) (Ow (zeros 64) t 8)=endP Tf Tt/\(absP sh (F5 sb sk)).length=8/\(zeros 64).length=64):=AF ⟨by
    rw [<-Lp.o,<-iP.o,endP,Am (by show 56 < sk+1;omega)],by rw [absP,N3];exact HI1.o,by simp [zeros]⟩
   clear hg4 hk4 k4 Qt;go_wp2_with (simp only [hcl]);clear hcl;obtain ⟨wz,hwz⟩:=Ab (w4.setCells w.heap.size 0 ((zeros 64).map (.int .u8)));rw [<-hwz];rw [<-hwz] at HKB Ta Zs;obtain ⟨Hs,jS⟩:=Ab (absP sh (F5 sb sk));obtain ⟨Bs,hBs⟩:=Ab (zeros 64);rw [<-jS] at Ta NR;rw [<-hBs] at HKB NR;clear hwz jS hBs KG KH Jd Lp iP
  case' neg=>
   have NR:AI (absP sh (Ow (F5 sb sk) t 8)=endP Tf Tt/\sh.length=8/\(F5 sb sk).length=64):=AF ⟨by
    rw [<-Lp.o,<-iP.o,endP,Ah (by show ¬56 < sk+1;omega)],HI1.o,by simp [F5,zeros,HI2.o] <;> omega⟩
   have HKB:=Jd;have Ta:=KH;have Zs:=KG;have hd2:decide ((56:Int) < (sk:Int)+1)=false:=BO AG;go_wp2_with fail;obtain ⟨wz,hwz⟩:=Ab w3;rw [<-hwz];rw [<-hwz] at HKB Ta Zs;obtain ⟨Hs,jS⟩:=Ab sh;obtain ⟨Bs,hBs⟩:=Ab (F5 sb sk);rw [<-jS] at Ta NR;rw [<-hBs] at HKB NR;clear hwz jS hBs KG KH Jd Lp iP hd2
 all_goals
  clear HB Sr i3 hk0 hk1 hk2 hk3 hgw;have hgz:=HKB.o.lt;go_loopg [53] 8 (fun q i wr=>∃j:Nat,j<=8/\q=8 - j/\i=AB AE j/\AZ wr w.heap.size 231 (yA (Ow Bs t j))/\AZ wr hb 174 (uA Hs)/\w.grownBy wr (some hb))
  case atStart=>exact ⟨0,Ar _,rfl,rfl,HKB.o,Ta.o,Zs.o⟩
  clear HKB Ta Zs;obtain ⟨j,hj,hq,rfl,hb1,hb2,hb3⟩:=hrel;obtain ⟨HQ,HKB,Ta,Zs⟩:=CJ hq hb1 hb2 hb3;have hll:(Ow Bs t j).length=64:=by rw [ABd];exact NR.o.2.2
  have jx:=AF hll;have hgr:=hb1.lt;by_cases AHc:j < 8
  ·have c1:=Jv hb1 (i:=63 - j) AG
   have fz:=hb1.frozen (63 - j);have hj0:(0:Int)<=(j:Int):=AG
   have hj1:(j:Int) < 8:=AG
   have hj2:(63:Int) - (j:Int)=((63 - j:Nat):Int):=AG
   have hj3:(0:Int)<=((63 - j:Nat):Int):=AG
   have hj4:((63 - j:Nat):Int) < 64:=AG
   clear hq hb1 hb2 hb3 hll;go_wp2;go_roundg (8 - (j+1))
   case measure=>exact Bc
   case rel=>exact ⟨j+1,by omega,rfl,by go_num,Wz HKB.o (63 - j) _,Ta.o.far (by show hb≠w.heap.size;omega) _,ZD Zs.o ((Af w.heap.size wr).setCell (Ad _) _) (Ad _)⟩
  have h8:j=8:=AG
  subst h8;have Qt:=AF (HAB.o Hs (Ow Bs t 8) wr NR.o.2.1 hll hb3 hb1 hb2);clear hq hb1 hb2 hb3 hll HAB;go_wp2_with (go_at_call 86;refine Qt.o.mono ?_;rintro e w5 ⟨rfl,hg5,hk5⟩)
  go_end0
  exact ⟨rfl,M9 Zs.o hg5,by rw [<-NR.o.1];exact hk5⟩
theorem Bb (l:AP):(yA l).size=l.length:=by simp [yA]
theorem GH (l:AP):(yA l).all (·.oneCell')=true:=by
 rw [yA];refine eT.2 (fun v hv=> ?_);have hv:v∈l.map (Value.int .u8):=by simpa using hv
 obtain ⟨_,_,rfl⟩:=Df.1 hv;rfl
theorem AZ.row {w:AH} {g:Nat} {t:Ae} {cs:Array AK} (h:AZ w g t cs) (cs':Array AK):AZ (w.setRow g cs') g t cs':=setRow_heap w g cs cs' t (0,0) h
def DW (d:AP) (w:AH) (e:Ending) (w':AH):Prop:=e=AV (AO (yA d))/\AJ w w'
theorem ADT:QM.length=8:=rfl
theorem AEX {s:Fd} (t:Int) (h:s.h.length=8):(endP s t).length=8:=by unfold endP;split <;> simp only [absP,N3,h]
theorem Zf:∀(ps:List (AP)) (s:Fd),s.h.length=8/\s.b.length=64/\s.k < 64->(OW s ps).h.length=8
 | [],_,h=>h.1
 | p::ps,s,h=>Zf ps (Jf s p) (jV p s h)
theorem AD7 (P:Option Aa) (np pc:Nat) (ps:List (AP)) (w:AH) (hT:Cc w) (hp:Ag 1 VR w (AA P np pc) ps):
 AS prog 58 #[AA P np pc] w (DW (O8 ps) w):=by
 have hz:yA (zeros 32)=(List.replicate 32 (Value.int .u8 0)).toArray:=by simp [yA,zeros]
 have ho:AZ (w.alloc (AQ (yA (zeros 32)) 34)) w.heap.size 34 (yA (zeros 32)):=AZ.new _ _ _;have hb1:AJ w (w.alloc (AQ (yA (zeros 32)) 34)):=(Af _ _).alloc (Ad _) _;rw [hz] at ho hb1;simp only [List.replicate] at ho hb1;obtain ⟨HO,HB1,HZ⟩:=Az ho hb1 hz;have Np:AI (∀W,AJ w W->w.heap.size<=W.heap.size->AZ (W.alloc (AQ (uA QM) 174)) W.heap.size 174 (uA QM)->AS prog 85 #[.func (.func 86) #[AU (some ⟨W.heap.size,0,none⟩)] #[],AA P np pc] (W.alloc (AQ (uA QM) 174)) fun e w'=>e=AV (BS #[])/\(W.alloc (AQ (uA QM) 174)).grownBy w' (some W.heap.size)/\AZ w' W.heap.size 174 (uA (endP (OW ⟨QM,zeros 64,0⟩ ps) (R8 0 ps)))):=AF (fun W h1 h2 h3=>
  yL W.heap.size np pc P QM ps w _ hT (h1.alloc h2 _) h2 ADT h3 hp)
 obtain ⟨H,hH⟩:=Ab (endP (OW ⟨QM,zeros 64,0⟩ ps) (R8 0 ps));have HL:AI (H.length=8):=AF (by rw [hH];exact AEX _ (Zf ps _ ⟨rfl,by simp [zeros],by show 0 < 64;omega⟩));have HR:AI (O8 ps=NQ H 32):=AF (by rw [O8,hH]);rw [HR.o];rw [<-hH] at Np;clear hH HR ho hb1 hz hT hp;have hu:uA QM=#[AB .u32 1779033703,AB .u32 3144134277,AB .u32 1013904242,AB .u32 2773480762,AB .u32 1359893119,AB .u32 2600822924,AB .u32 528734635,AB .u32 1541459225]:=rfl;rw [hu] at Np;have HC:=AF (Np.o _ HB1.o Ac (AZ.new _ _ _));rw [Eg] at HC;clear hu Np;go_enter func58,ntmps58;have hmf:∀(fn:Fn) (first cap:Array AK) (w:AH),(Instr.makeFunc fn first cap).run prog w=.ok (.func fn first cap) w:=fun _ _ _ _=>rfl;go_wp2_with (go_at_call 85;refine HC.o.mono ?_;rintro e w2 ⟨rfl,hg2,hk2⟩);have kd:AZ w2 w.heap.size 34 (yA (NQ H 0)):=by have h1:=(HO.o.alloc _).grown hg2 FD;rw [NQ,HZ.o];exact h1
 have kb:AJ w w2:=HB1.o.alloc Ac _ |>.trans (below_of_grown hg2 AG BX);obtain ⟨KD,KB,KH⟩:=Az kd kb hk2;clear kd kb hg2 hk2 HO HB1 HZ HC hmf;go_loopg [9] 32 (fun q i wr=>∃k:Nat,k<=32/\q=32 - k/\i=AB AE k/\AZ wr w.heap.size 34 (yA (NQ H k))/\AZ wr (w.heap.size+1) 174 (uA H)/\AJ w wr)
 case atStart=>exact ⟨0,Ar _,rfl,rfl,KD.o,KH.o,KB.o⟩
 clear KD KH KB;obtain ⟨k,hk,hq,rfl,h1,h2,h3⟩:=hrel;obtain ⟨HQ,KD,KH,KB⟩:=CJ hq h1 h2 h3;have hl1:=h1.lt;have hl2:=h2.lt;by_cases hlt:k < 32
 ·have hk0:=Int.natCast_nonneg k
  have hk1:(k:Int) < 32:=AG
  have c1:=Jv h1 (i:=k) (by rw [aZ];exact hlt);have fz:=h1.frozen k;have c2:=L1 h2 (i:=k / 4) (by have:=HL.o;omega);have hq0:(0:Int)<=(k:Int) / 4:=AG
  have hq1:(k:Int) / 4 < 8:=AG
  have hr0:(0:Int)<=24 - 8*((k:Int) % 4):=AG
  have hr1:(24 - 8*((k:Int) % 4)).toNat=24 - 8*(k % 4):=AG
  clear hq h1 h2 h3;go_wp2;go_roundg (32 - (k+1))
  case measure=>exact Bc
  case rel=>exact ⟨k+1,by omega,rfl,by go_num,Wz KD.o k _,KH.o.far (by show w.heap.size+1≠w.heap.size;omega) _,KB.o.setCell (Ad _) _⟩
 have h32:k=32:=AG
 subst h32;clear hq h1 h2 h3;have Ew:(prog.info? 34).map (·.size)=some (yA (NQ H 32)).size:=by rw [Bb,aZ];kernel_rfl
 go_wp2_with (first | (refine Cm rfl 34 (AY 2) rfl w.heap.size rfl 34 (yA (NQ H 32)) (0,0) _ KD.o underlying34 rfl Ew ?_) | (refine Ye rfl 34 (AY 2) (AY 25) rfl w.heap.size (yA (NQ H 32)) rfl rfl 34 (yA (NQ H 32)) KD.o Ew rfl (GH _) ?_));exact E8 (OH rfl _ _ w.heap.size 34 (yA (NQ H 32)) (0,0) _ rfl (KD.o.row _) underlying34 rfl Ew) rfl ⟨rfl,below_setRow KB.o (Ad _) _⟩
def Z5 (s:ByteArray):AP:=s.data.toList.map fun c=>(c.toNat:Int)
theorem Z4 (s:ByteArray):(Z5 s).length=s.size:=by unfold Z5;rw [CX];rfl
theorem Zx {P:BB} (w:AH) {ops:Array Oper} {rest:List Oper} {o:Oper} {a:Act} {Q:Exit->Act->AH->Prop} (hgd:o.guard=none) (src dst e:Ae) (x:Operand) (ho:o.op=.convert src dst x) (s:ByteArray) (hx:a.eval x=.string s)
 (hs:P.underlying src=some .string) (hd:P.underlying dst=some (.slice e)) (he:P.underlying e=some (.int .u8)) (hsz:s.size<=1000)
 (h:∀cap w',Ag 1 Io w' (AA (some ⟨w.heap.size,0,none⟩) s.size cap) (Z5 s)->AJ w w'->w.heap.size < w'.heap.size->wpList P ops Q rest (a.put o.dst (AA (some ⟨w.heap.size,0,none⟩) s.size cap)) w'):wpList P ops Q (o::rest) a w:=by
 refine wpList_plain hgd fun _ hK=> ?_;unfold Oper.wp execOp;simp only [ho,hx,Cs,run_bytes_of_string w src dst e s hs hd he,Result.andThen_ok,DL];obtain ⟨cap,hcap⟩:=Ab (grownCap w s.size 0 e);have h1:s.size<=cap:=by rw [hcap];exact grownCap_ge _ _ _ _
 have h2:cap<=maxLen:=by rw [hcap];exact grownCap_le_maxLen _ _ _ _ Gj
 rw [<-hcap];refine hK _ _ (h _ _ ⟨_,_,by rw [Z4],by rw [Z4];exact h1,h2,fun i y hi=> ?_⟩ ((Af w.heap.size w).drew.alloc (Ad _) _) Ac);have hil:=(BA.1 hi).1;rw [Z4] at hil;refine ⟨w.heap.size,0,[AB Ak y],rfl,by simp,rfl,fun j u hu=> ?_,rfl⟩;rcases j with _ | j
 ·simp only [An,Bq] at hu
  subst hu;have hh:(w.drew.alloc (AQ (bytesRow s cap) e ((bytesRow s cap).size,(bytesRow s cap).size+1))).heap[w.heap.size]? =some (AQ (bytesRow s cap) e ((bytesRow s cap).size,(bytesRow s cap).size+1)):=heap_alloc_new w.drew _;simp only [World.cell?,hh];have hds:s.data.size=s.size:=rfl;rw [Ex,F9,D6,bytesRow,Ri (by rw [Array.size_map];omega),Array.getElem?_map];rw [Z5,Be] at hi;obtain ⟨c,hc,rfl⟩:=Ds.1 hi;have hc':s.data[i]? =some c:=by simpa using hc
  rw [hc'];rfl
 · simp at hu
theorem DS {P:BB} {w:AH} {ops:Array Oper} {rest:List Oper} {o:Oper} {a:Act} {Q:Exit->Act->AH->Prop} (hgd:o.guard=none) (ty:Ae) (x y:Operand) (ho:o.op=.store ty x y)
 (g:Nat) (d:AP) (hx:a.eval x=AU (some ⟨g,0,none⟩)) (hy:a.eval y=AO (yA d)) (t:Ae) (old:Array AK) (hg:AZ w g t old) (hi:(P.info? ty).map (·.size)=some 32) (hold:old.size=32) (hd:d.length=32)
 (h:∀w',AZ w' g t (yA d)->BK g w w'->wpList P ops Q rest (a.put o.dst undef) w'):wpList P ops Q (o::rest) a w:=by
 have hs:(yA d).size=32:=by rw [Bb,hd]
 exact Ye hgd ty x y ho g (yA d) hx hy t old hg eV eY (GH d) (h _ (hg.row _) (below_setRow (Af _ _) (Ad _) _))
theorem Ca {P:BB} {w:AH} {ops:Array Oper} {rest:List Oper} {o:Oper} {a:Act} {Q:Exit->Act->AH->Prop} (hgd:o.guard=none) (ty:Ae) (x:Operand) (ho:o.op=.load ty x)
 (g:Nat) (d:AP) (hx:a.eval x=AU (some ⟨g,0,none⟩)) (t:Ae) (ds:TypeDesc) (hg:AZ w g t (yA d)) (hu:P.underlying ty=some ds) (hds:(match ds with | .struct _ | .array _ _=>true | _=>false)=true) (hi:(P.info? ty).map (·.size)=some 32) (hd:d.length=32)
 (h:wpList P ops Q rest (a.put o.dst (AO (yA d))) w):wpList P ops Q (o::rest) a w:=
 Cm hgd ty x ho g hx t (yA d) (0,0) ds hg hu hds fJ h
theorem VW {P:BB} {fn:Func} {a:Act} {p:Tmp} {ty:Ae} {t:Ae} {ds:TypeDesc} {d:AP} {g:Nat} {w0 w:AH} {x:Exit} (hx:x=.ret\/x=.normal) (h:fn.results=#[.cell p ty]) (hp:a.tmps.getD p undef=AU (some ⟨g,0,none⟩)) (hdf:a.defers=[]) (hg:AZ w g t (yA d)) (hu:P.underlying ty=some ds) (hds:(match ds with | .struct _ | .array _ _=>true | _=>false)=true) (hi:(P.info? ty).map (·.size)=some 32) (hd:d.length=32) (hb:AJ w0 w):
 bodyPost P fn (DW d w0) x a w:=by
 have hr:=OH (P:=P) h a.tmps w g t (yA d) (0,0) ds hp hg hu hds fJ;exact mO
theorem Ir (w:AH) (t:Ae):AZ (w.alloc (AQ #[AB Ak 0,AB Ak 0,AB Ak 0,AB Ak 0,AB Ak 0,AB Ak 0,AB Ak 0,AB Ak 0,AB Ak 0,AB Ak 0,AB Ak 0,AB Ak 0,AB Ak 0,AB Ak 0,AB Ak 0,AB Ak 0,AB Ak 0,AB Ak 0,AB Ak 0,AB Ak 0,AB Ak 0,AB Ak 0,AB Ak 0,AB Ak 0,AB Ak 0,AB Ak 0,AB Ak 0,AB Ak 0,AB Ak 0,AB Ak 0,AB Ak 0,AB Ak 0] t)) w.heap.size t (yA (zeros 32))/\AJ w (w.alloc (AQ #[AB Ak 0,AB Ak 0,AB Ak 0,AB Ak 0,AB Ak 0,AB Ak 0,AB Ak 0,AB Ak 0,AB Ak 0,AB Ak 0,AB Ak 0,AB Ak 0,AB Ak 0,AB Ak 0,AB Ak 0,AB Ak 0,AB Ak 0,AB Ak 0,AB Ak 0,AB Ak 0,AB Ak 0,AB Ak 0,AB Ak 0,AB Ak 0,AB Ak 0,AB Ak 0,AB Ak 0,AB Ak 0,AB Ak 0,AB Ak 0,AB Ak 0,AB Ak 0] t))/\(w.alloc (AQ #[AB Ak 0,AB Ak 0,AB Ak 0,AB Ak 0,AB Ak 0,AB Ak 0,AB Ak 0,AB Ak 0,AB Ak 0,AB Ak 0,AB Ak 0,AB Ak 0,AB Ak 0,AB Ak 0,AB Ak 0,AB Ak 0,AB Ak 0,AB Ak 0,AB Ak 0,AB Ak 0,AB Ak 0,AB Ak 0,AB Ak 0,AB Ak 0,AB Ak 0,AB Ak 0,AB Ak 0,AB Ak 0,AB Ak 0,AB Ak 0,AB Ak 0,AB Ak 0] t)).heap.size=w.heap.size+1:=
 ⟨AZ.new _ _ _,(Af _ _).alloc (Ad _) _,by simp⟩
theorem AFz {W:AH} {A:Option Aa} {n c:Nat} {l:AP} {T:Ae} (h:Ag 1 Io W (AA A n c) l):Ag 1 VR (W.alloc (AQ #[AA A n c] T)) (AA (some ⟨W.heap.size,0,none⟩) 1 1) [l]:=
 ⟨_,1,rfl,Ad _,by unfold maxLen;omega,fun i x hi=>by
  rcases i with _ | i
  ·simp only [An,Bq] at hi
   subst hi;refine ⟨W.heap.size,0,[AA A n c],rfl,by simp,rfl,fun j u hu=> ?_,A,n,c,rfl,h.mono QC (BP _ _)⟩;rcases j with _ | j
   ·have:=(AZ.new W T #[AA A n c]).cell 0
    rw [<-hu];exact this
   · simp at hu
  · simp at hi⟩
theorem uE {W:AH} {A B:Option Aa} {n c m d:Nat} {l r:AP} {T:Ae} (h:Ag 1 Io W (AA A n c) l) (k:Ag 1 Io W (AA B m d) r):Ag 1 VR (W.alloc (AQ #[AA A n c,AA B m d] T)) (AA (some ⟨W.heap.size,0,none⟩) 2 2) [l,r]:=
 ⟨_,2,rfl,Ad _,by unfold maxLen;omega,fun i x hi=>by
  have kb:=AZ.new W T #[AA A n c,AA B m d];have hb:AJ W (W.alloc (AQ #[AA A n c,AA B m d] T)):=(Af _ _).alloc (Ad _) _;rcases i with _ | _ | i
  ·simp only [An,Bq] at hi
   subst hi;refine ⟨W.heap.size,0,[AA A n c],rfl,by simp,rfl,fun j u hu=> ?_,A,n,c,rfl,h.mono QC hb⟩;rcases j with _ | j
   · rw [<-hu];exact kb.cell 0
   · simp at hu
  ·simp only [Aw,An,Bq] at hi
   subst hi;refine ⟨W.heap.size,0,[AA B m d],rfl,by simp,rfl,fun j u hu=> ?_,B,m,d,rfl,k.mono QC hb⟩;rcases j with _ | j
   · rw [<-hu];exact kb.cell 1
   · simp at hu
  · simp at hi⟩
theorem GV {w:AH} {g:Nat} {t:Ae} {d:AP} (h:AZ w g t (yA d)) (hd:d.length<=1000):Ag 1 Io w (AA (some ⟨g,0,none⟩) d.length d.length) d:=
 ⟨_,_,rfl,Ad _,by unfold maxLen;omega,fun i x hi=>by
  have hil:=(BA.1 hi).1;refine ⟨g,0,[AB Ak x],rfl,h.lt,rfl,fun j u hu=> ?_,rfl⟩;rcases j with _ | j
  ·simp only [An,Bq] at hu
   subst hu;have:=Jv h hil;rw [C0,hi] at this;rw [Ex,F9,D6];exact this
  · simp at hu⟩
theorem IC (tag:ByteArray) (A:Option Aa) (n c:Nat) (bs:AP) (w:AH) (hsz:tag.size<=1000) (hT:Cc w) (hb:Ag 1 Io w (AA A n c) bs):
 AS prog 35 #[.string tag,AA A n c] w (DW (Aq (Z5 tag) bs) w):=by
 obtain ⟨HT,HB⟩:=Aj hT hb;have HH:AI (∀(P:Option Aa) (np pc:Nat) (ps:List (AP)) (W:AH),AJ w W->Ag 1 VR W (AA P np pc) ps->AS prog 58 #[AA P np pc] W (DW (O8 ps) W)):=AF (fun P np pc ps W hW hp=>AD7 P np pc ps W (HT.o.below hW) hp);have hq:=Ir w 34;clear hT hb;go_enter func35,ntmps35;go_upto_region 1 with fail;generalize (w.alloc _)=wa at hq ⊢;obtain ⟨ka,hba,hza⟩:=hq;obtain ⟨KA,RF⟩:=Aj ka hba;clear ka hba;go_wp2_with (refine Zx _ rfl 9 92 5 (AY 6) rfl tag rfl underlying9 underlying92 underlying5 hsz ?_;intro cap w1 hs1 hb1 hz1);rw [hza] at hs1;have Ki:=AF hs1;have HB1:AI (AJ w w1):=AF (AW RF.o hb1);have HZ1:AI (w.heap.size+1 < w1.heap.size):=AF AG;have KA1:AI (AZ w1 w.heap.size 34 (yA (zeros 32))):=AF (KA.o.below hb1 AG);have HC:=AF (HH.o _ _ _ _ _ (HB1.o.alloc HB1.o.size _) (AFz Ki.o (T:=92)));clear hs1 hb1 hz1 hza KA RF;refine HC.o.mono ?_;rintro e w2 ⟨rfl,hb2⟩;obtain ⟨d1,hd1⟩:=Ab (O8 [Z5 tag]);have Q9:AI (d1.length=32):=AF (by rw [hd1];exact TI _);have qs:AI (Aq (Z5 tag) bs=O8 [d1,bs]):=AF (by rw [hd1];rfl);rw [<-hd1];have HB2:AI (AJ w w2):=AF ((HB1.o.alloc HB1.o.size _).trans (hb2.mono (HB1.o.alloc HB1.o.size _).size));have dr:AI (AZ w2 w.heap.size 34 (yA (zeros 32))):=AF ((KA1.o.alloc _).below hb2 (by simp;have:=HZ1.o;omega));have hz2:w.heap.size < w2.heap.size:=dr.o.lt;clear hb2 hd1 HC Ki;have Ew:(prog.info? 34).map (·.size)=some 32:=AL
 have HI:=AF Ew;clear Ew;have hq:=Ir w2 34;go_wp2_with (generalize (w2.alloc _)=w3 at hq ⊢;obtain ⟨k3,hb3,hz3⟩:=hq;refine DS rfl 34 (AY 5) (AY 9) rfl w2.heap.size d1 rfl rfl 34 _ k3 HI.o EO Q9.o ?_;intro w4 k4 hb4);have AD4:AJ w2 w4:=hb3.trans (hb4.mono (Ad _));have HB4:AI (AJ w w4):=AF (AW HB2.o AD4);have hy:=GV k4 (by rw [Q9.o];omega);rw [Q9.o] at hy;have HC:=AF (HH.o _ _ _ _ _ (HB4.o.alloc HB4.o.size _) (uE hy (HB.o.mono QC HB4.o) (T:=92)));have KA4:AI (AZ w4 w.heap.size 34 (yA (zeros 32))):=AF (dr.o.below AD4 hz2);have hz4:w.heap.size < w4.heap.size:=KA4.o.lt;clear k3 hb3 hz3 k4 hb4 AD4 hy;refine HC.o.mono ?_;rintro e w5 ⟨rfl,hb5⟩;have CW:AI (AJ w w5):=AF ((HB4.o.alloc HB4.o.size _).trans (hb5.mono (HB4.o.alloc HB4.o.size _).size));have KA5:AI (AZ w5 w.heap.size 34 (yA (zeros 32))):=AF ((KA4.o.alloc _).below hb5 BX);clear hb5 HC;go_wp2_with (refine DS rfl 34 (AY 4) (AY 13) rfl w.heap.size _ rfl rfl 34 _ KA5.o HI.o EO (TI _) ?_;intro w6 k6 hb6);rw [qs.o];exact VW (.inl rfl) rfl rfl rfl k6 underlying34 rfl HI.o (TI _) (CW.o.trans hb6)
theorem NC:One Io:=by rintro w cs x rfl u hu;simp only [Fk] at hu;subst hu;rfl
theorem Ps {P:BB} {α:Type} {sz:Nat} {R:AH->List AK->α->Prop} (w:AH) {ops:Array Oper} {o:Oper} {a:Act} {K:Act->AH->Prop} {Q:Exit->Act->AH->Prop} {E:Prop} (hgd:o.guard=none) (s x:Operand) (t e:Ae)
 (hop:o.op=.call {callee:=.builtin .append,args:=#[s,x],argTypes:=#[t,t]}) (i:TypeInfo) (z:AK) (bytes:Nat) (ht:P.underlying t=some (.slice e)) (hi:P.info? e=some i) (hz:i.zero=some z) (hsize:i.size=sz) (hby:i.bytes=bytes) (hzs:z.cells.size=sz) (hsz:0 < sz) (ho:One R)
 (base:Nat) (v:AK) (n:Nat) (xs:List AK) (hs:a.eval s=v) (hown:w.ownsRow base e sz v n xs) (A:Option Aa) (m c:Nat) (l:List α) (hx:a.eval x=AA A m c) (hr:Ag sz R w (AA A m c) l)
 (hn:n+m<=maxLen) (hb:(n+m)*bytes<=140737488355328) (hbase:base<=w.heap.size)
 (h:∀v' w' cs,Ao sz R w cs l->w'.ownsRow base e sz v' (n+m) (xs++cs)->w.grownBy w' v.ownBlock->(v'.ownBlock=v.ownBlock\/v'.ownBlock=some w.heap.size)->K (a.put o.dst v') w'):
 if Region.wanted o (yielded ops a.tmps)=true then Oper.wp P o a w K Q else E:=by
 have hw:Region.wanted o (yielded ops a.tmps)=true:=by simp [Region.wanted,hgd]
 rw [Am hw];exact V8 w s x t e hop i z bytes ht hi hz hsize hby hzs hsz ho base v n xs hs hown A m c l hx hr hn hb hbase h
theorem AJB (w:AH) (base:Nat) (e:Ae) (cs:Array AK) (hcs:cs.size=64) (hb:base<=w.heap.size):(w.alloc (AQ cs e)).ownsRow base e 1 (AA (some ⟨w.heap.size,0,none⟩) 0 64) 0 []:=
 ⟨by simp,.inr ⟨w.heap.size,64,cs,rfl,hb,AZ.new w e _,by omega,by decide,by omega,by simp⟩⟩
theorem IJ {w:AH} {xs:List AK} {l:AP} (h:Ao 1 Io w xs l):xs=l.map (Value.int .u8):=by
 obtain ⟨h1,h2⟩:=h;apply Ms;intro i;rcases Ez i l.length with hi | hi
 ·have h3:=h2 i l[i] (BJ hi)
  unfold Io at h3;rw [Be,BJ hi];have h4:((xs.drop (i*1)).take 1)[0]? =some (Value.int .u8 l[i]):=by rw [h3];rfl
  rw [JN AG,EC] at h4;simpa using h4
 · rw [DY AG,DY (by simpa using hi)]
theorem AG1 (W:AH):(Instr.makeSlice 92 (AB AE 0) (AB AE 64)).run prog W=.ok (AA (some ⟨W.heap.size,0,none⟩) 0 64) (W.alloc (AQ (madeCells #[AB Ak 0] 64) 5)):=by
 have hinfo:(prog.info? 5).map (fun i=>(i.zero,i.size,i.bytes))=some (some (AB Ak 0),1,1):=AL
 obtain ⟨i,hi,hzz⟩:=Ds.1 hinfo;simp only [GD] at hzz;obtain ⟨hz,hs,hb⟩:=hzz;have hr:=run_make (P:=prog) W 92 5 i (AB Ak 0) underlying92 hi hz .i64 .i64 0 64 AG AG (by rw [hb];omega) AG;rw [hs] at hr;exact hr
theorem made_size (z:AK) (n:Nat):(madeCells #[z] n).size=n:=size_madeCells _ _
theorem AEh (w:AH) (l:AP):Ao 1 Io w (l.map (Value.int .u8)) l:=by
 refine ⟨by simp,fun i x hi=> ?_⟩;have hil:=(BA.1 hi).1;unfold Io;apply Ms;intro j;rcases j with _ | j
 · rw [JN AG,EC,F9,D6,Be,hi];rfl
 · rw [DY QS];rfl
theorem Up {w:AH} {base n:Nat} {e:Ae} {v:AK} {l:AP} (h:w.ownsRow base e 1 v n (l.map (Value.int .u8))) (h0:0 < n) (hn:n=l.length):∃g c,v=AA (some ⟨g,0,none⟩) n c/\Ag 1 Io w v l:=by
 rcases h.2 with ⟨_,h1⟩ | ⟨g,cap,_,hv,_⟩
 · omega
 · exact ⟨g,cap,hv,CP h (AEh w _) hn⟩
theorem jd {a w w':AH} {base n sz B:Nat} {e:Ae} {v:AK} {xs:List AK} (h:BK B a w) (hg:w.grownBy w' v.ownBlock) (ho:w.ownsRow base e sz v n xs) (hB:B<=base) (hs:B<=w.heap.size):BK B a w':=
 h.grown hg hs (fun r e=>BF hB (ho.lt r e).1)
theorem i9 {w:AH} {g:Nat} {t:Ae} {l d:AP} (h:AZ w g t (yA l)) (hl:l.length=d.length):AZ (w.setCells g 0 (d.map (Value.int .u8))) g t (yA d):=by
 have h1:=Pp d 0 w l h AG;have h2:splice l 0 d=d:=by unfold splice;rw [EV AG];simp
 rwa [h2] at h1
theorem nO {w:AH} {g:Nat} {t:Ae} {l d:AP} (h:AZ w g t (yA l)) (hl:l.length=d.length):w.there g 0 (d.map (Value.int .u8)).length:=fun j hj=>by rw [CX] at hj;rw [Ex];exact ⟨by rw [Jv h AG];rfl,h.frozen j⟩
theorem Y9 (d:AP):∀v∈d.map (Value.int .u8),v.oneCell'=true:=fun v hv=>by obtain ⟨_,_,rfl⟩:=Df.1 hv;rfl
theorem aH (a b:AP) (ha:a.length=32) (hb:b.length=32) (w:AH) (hT:Cc w):
 AS prog 54 #[AO (yA a),AO (yA b)] w (DW (Om Aq a b) w):=by
 obtain ⟨HT,HA,HB⟩:=Az hT ha hb;clear hT ha hb;obtain ⟨D,hD⟩:=Ab (Om Aq a b);have Eb:AI (D.length=32):=AF Wr;have HC:AI (∀(A:Option Aa) (c:Nat) (W:AH),AJ w W->Ag 1 Io W (AA A 64 c) (a++b)->AS prog 35 #[.string {data:=#[110,111,100,101]},AA A 64 c] W (DW D W)):=AF (fun A c W hW hl=>by rw [hD];exact IC {data:=#[110,111,100,101]} A 64 c (a++b) W BE (HT.o.below hW) hl)
 rw [<-hD];clear hD;go_enter func54,ntmps54;go_upto_region 1 with fail;have hq:=Ir ((w.alloc (AQ (yA a) 34)).alloc (AQ (yA b) 34)) 34;have ka:AZ ((w.alloc (AQ (yA a) 34)).alloc (AQ (yA b) 34)) w.heap.size 34 (yA a):=(AZ.new _ _ _).alloc _;have kb:AZ ((w.alloc (AQ (yA a) 34)).alloc (AQ (yA b) 34)) (w.heap.size+1) 34 (yA b):=by
  have:=AZ.new (w.alloc (AQ (yA a) 34)) 34 (yA b)
  rwa [Eg] at this
 have h0:AJ w ((w.alloc (AQ (yA a) 34)).alloc (AQ (yA b) 34)):=(BP _ _).alloc Ac _;have hs0:((w.alloc (AQ (yA a) 34)).alloc (AQ (yA b) 34)).heap.size=w.heap.size+1+1:=Ac
 generalize ((w.alloc _).alloc _)=w0 at hq ka kb h0 hs0 ⊢;generalize (w0.alloc _)=wa at hq ⊢;rw [hs0] at hq;obtain ⟨kr,hba,hza⟩:=hq;have ka:=ka.below hba AG;have kb:=kb.below hba AG;have H0:AI (AJ w wa):=AF (h0.trans (hba.mono AG));obtain ⟨KA,KB,KR,YF⟩:=CJ ka kb kr hza;clear h0 hs0 hba ka kb kr hza;obtain ⟨j0,hj,hjz⟩:=Ds.1 (show (prog.info? 5).map (fun i=>(i.zero,i.size,i.bytes))=some (some (AB Ak 0),1,1) by kernel_rfl);simp only [GD] at hjz;have HJ:=AF (And.intro hj hjz);have Ew:(prog.info? 34).map (·.size)=some 32:=AL
 have HI:=AF Ew;clear hj hjz Ew;have hmk:=AG1 wa.drew;have k0:(wa.alloc (AQ (madeCells #[AB Ak 0] 64) 5)).drew.ownsRow wa.heap.size 5 1 (AA (some ⟨wa.heap.size,0,none⟩) 0 64) 0 []:=AJB wa wa.heap.size 5 (madeCells #[AB Ak 0] 64) (made_size _ _) (Ad _);have hb1:AJ wa (wa.alloc (AQ (madeCells #[AB Ak 0] 64) 5)).drew:=(BP _ _).drew;have hya:=GV (KA.o.below hb1 Rt) (by rw [HA.o];omega);rw [HA.o] at hya;obtain ⟨K0,HB1,HYA⟩:=Az k0 hb1 hya;clear k0 hb1 hya
 go_region_held3 (fun _=>True) (trivial) (first
  | (
   refine Ps _ DG (AY 5) (AY 6) 92 5 DG j0 _ 1 underlying92 HJ.o.1 HJ.o.2.1 HJ.o.2.2.1 HJ.o.2.2.2 rfl BE (R:=Io) NC wa.heap.size _ 0 [] DG K0.o _ 32 32 a DG HYA.o ?_ ?_ ?_ ?_
   · exact Ry
   · omega
   · simp
   intro v7 w7 cs7 Zb GL DZ ua;have hb7:AJ wa w7:=HB1.o.grown DZ Ac NS;have hyb:=GV (KB.o.below hb7 Rt) (by rw [HB.o];omega);rw [HB.o] at hyb;obtain rfl:=IJ Zb;rw [Ex,Ic] at GL;obtain ⟨qe,HYB,ET⟩:=Az GL hyb hb7;clear Zb GL DZ ua hyb hb7)
  | (
   refine Ps _ DG (AY 7) (AY 8) 92 5 DG j0 _ 1 underlying92 HJ.o.1 HJ.o.2.1 HJ.o.2.2.1 HJ.o.2.2.2 rfl BE (R:=Io) NC wa.heap.size v7 32 (a.map (Value.int .u8)) DG qe.o (some ⟨w.heap.size+1,0,none⟩) 32 32 b DG HYB.o ?_ ?_ ?_ ?_
   · exact Ry
   · omega
   · exact ET.o.size
   intro v8 w8 cs8 hc8 ho8 hg8 ha8;obtain rfl:=IJ hc8;have hb8:AJ wa w8:=jd ET.o hg8 qe.o (Ad _) ET.o.size;rw [<-DM] at ho8;have ho8:w8.ownsRow wa.heap.size 5 1 v8 64 ((a++b).map (Value.int .u8)):=ho8;obtain ⟨g8,c8,rfl,hs8⟩:=Up ho8 AG (by rw [CT,HA.o,HB.o]);obtain ⟨HS8,Je⟩:=Aj hs8 hb8;clear hc8 ho8 hg8 ha8 hb8 hs8)
  | (
   go_at_call 35;refine (HC.o (some ⟨g8,0,none⟩) c8 w8 (AW H0.o Je.o) HS8.o).mono ?_;rintro e w9 ⟨rfl,O6⟩;have LL:=AF (AW Je.o O6);have KR9:=AF (KR.o.below LL.o Rt);have hth:=nO KR9.o (d:=D) Y3;have hit:(prog.info? 34).map (·.size)=some (D.map (Value.int .u8)).length:=by rw [CX,Eb.o];exact HI.o
   have hon:=Y9 D;clear O6))
 have KD:AI (AZ (w9.setCells (w.heap.size+1+1) 0 (D.map (Value.int .u8))) (w.heap.size+1+1) 34 (yA D)):=AF (i9 KR9.o Y3);have YS:AI (AJ w (w9.setCells (w.heap.size+1+1) 0 (D.map (Value.int .u8)))):=AF (below_setCells _ _ _ _ (AW H0.o LL.o) AG);exact AAF
def CQ (_:AH) (cs:List AK) (d:AP):Prop:=cs=d.map (Value.int .u8)/\d.length=32
theorem BL:Ea CQ:=fun _ _ _ _ _ h=>h
theorem GU {w:AH} {A:Option Aa} {n c k:Nat} {l:List (AP)} (h:Ag 32 CQ w (AA A n c) l) (hk:k < n):
 ∃b off d,A=some ⟨b,off,none⟩/\b < w.heap.size/\l[k]? =some d/\d.length=32/\Ag 1 Io w (AA (some ⟨b,off+k*32,none⟩) 32 32) d/\w.rangeAt b (off+k*32) (d.map (Value.int .u8)):=by
 obtain ⟨b,off,d,cs,rfl,hb,hl,hcl,hc,rfl,hd⟩:=h.at_ hk;refine ⟨b,off,d,rfl,hb,hl,hd,⟨_,32,by rw [hd],by omega,by unfold maxLen;omega,fun i x hi=> ?_⟩,fun j u hu=> ?_⟩
 ·refine ⟨b,off+k*32,[AB Ak x],rfl,hb,rfl,fun j u hu=> ?_,rfl⟩
  rcases j with _ | j
  ·simp only [An,Bq] at hu
   subst hu;have:=hc i (AB Ak x) (by rw [Be,hi];rfl);rw [<-this];congr 2;omega
  · simp at hu
 rw [<-hc j u hu];congr 2;omega
theorem Ag.AFY {α:Type} {sz:Nat} {R:AH->List AK->α->Prop} {w:AH} {l:List α} {A:Option Aa} {n c k:Nat} (h:Ag sz R w (AA A n c) l) (hk:k<=n):
 Ag sz R w (AA A k c) (l.take k):=by
 obtain ⟨A',cap,e,h1,h2,h3⟩:=h;injection e with e1 e2 e3;subst e1 e2 e3;refine ⟨_,_,by rw [DR,Kr hk],by rw [DR];omega,h2,fun i x hi=> ?_⟩;have hil:=(BA.1 hi).1;rw [DR] at hil;rw [JN AG] at hi;exact h3 i x hi
theorem OM (l:List Dg):(Es Aq l).length=32:=by
 match l with
 | []=>rw [Es];exact C3 _ _
 | [x]=>rw [Es];exact C3 _ _
 | x::y::r=>rw [Es];exact C3 _ _
theorem iq (A:Option Aa) (c:Nat) (w:AH) (hT:Cc w):AS prog 27 #[AA A 0 c] w (DW (Es Aq []) w):=by
 obtain ⟨D,hD⟩:=Ab (Es Aq []);have Eb:AI (D.length=32):=AF (by rw [hD,Es];exact C3 _ _);have HC:AI (∀W,AJ w W->AS prog 35 #[.string {data:=#[101,109,112,116,121]},AA none 0 0] W (DW D W)):=AF (fun W hW=>by rw [hD,Es];exact IC {data:=#[101,109,112,116,121]} none 0 0 [] W BE (hT.below hW) (Ag.nil _ _ (Ar _)))
 rw [<-hD];have Ew:(prog.info? 34).map (·.size)=some 32:=AL
 have HI:=AF Ew;clear hD hT Ew;go_enter func27,ntmps27;go_upto_region 1 with fail;have hq:=Ir w 34;generalize (w.alloc _)=wa at hq ⊢;obtain ⟨ka,hba,hza⟩:=hq;obtain ⟨KA,RF⟩:=Aj ka hba;clear ka hba hza;go_wp2_with (first | (go_at_call 35;refine (HC.o _ RF.o).mono ?_;rintro e w2 ⟨rfl,hb2⟩;have dr:=AF (KA.o.below hb2 KA.o.lt);have HB2:=AF (AW RF.o hb2);clear hb2) | (refine DS rfl 34 (AY 2) (AY 8) rfl w.heap.size D rfl rfl 34 (yA (zeros 32)) dr.o HI.o EO Eb.o ?_;intro w3 k3 hb3));exact zr
theorem AA0 (b off c:Nat) (d:AP) (w:AH) (hT:Cc w) (hy:Ag 1 Io w (AA (some ⟨b,off,none⟩) 32 32) d):AS prog 27 #[AA (some ⟨b,off,none⟩) 1 c] w (DW (Es Aq [d]) w):=by
 obtain ⟨D,hD⟩:=Ab (Es Aq [d]);have Eb:AI (D.length=32):=AF (by rw [hD,Es];exact C3 _ _);have HC:AI (∀W,AJ w W->AS prog 35 #[.string {data:=#[108,101,97,102]},AA (some ⟨b,off,none⟩) 32 32] W (DW D W)):=AF (fun W hW=>by rw [hD,Es];exact IC {data:=#[108,101,97,102]} (some ⟨b,off,none⟩) 32 32 d W BE (hT.below hW) (hy.mono QC hW))
 rw [<-hD];have Ew:(prog.info? 34).map (·.size)=some 32:=AL
 have HI:=AF Ew;clear hD hT Ew hy;go_enter func27,ntmps27;go_upto_region 1 with fail;have hq:=Ir w 34;generalize (w.alloc _)=wa at hq ⊢;obtain ⟨ka,hba,hza⟩:=hq;obtain ⟨KA,RF⟩:=Aj ka hba;clear ka hba hza;go_wp2_with (first | (go_at_call 35;refine (HC.o _ RF.o).mono ?_;rintro e w2 ⟨rfl,hb2⟩;have dr:=AF (KA.o.below hb2 KA.o.lt);have HB2:=AF (AW RF.o hb2);clear hb2) | (refine DS rfl 34 (AY 2) (AY 14) rfl w.heap.size D rfl rfl 34 (yA (zeros 32)) dr.o HI.o EO Eb.o ?_;intro w3 k3 hb3));exact zr
theorem AAz (b off n c:Nat) (D D1 D2:AP) (w:AH) (h2:2<=n) (h256:n<=256) (hc:n<=c) (hT:Cc w) (hD1:D1.length=32) (hD2:D2.length=32) (hD:D=Om Aq D1 D2)
 (h1:∀W,AJ w W->AS prog 27 #[AA (some ⟨b,off,none⟩) (Bi n) c] W (DW D1 W))
 (h3:∀W,AJ w W->AS prog 27 #[AA (some ⟨b,off+Bi n*32,none⟩) (n - Bi n) (c - Bi n)] W (DW D2 W)):AS prog 27 #[AA (some ⟨b,off,none⟩) n c] w (DW D w):=by
 have hh:=Hw h2;have hp:=GQ n;have HH:AI (∀W,AS prog 53 #[AB AE n] W fun e w'=>e=AV (AB AE (Bi n:Nat))/\W=w'):=AF (fun W=>Vr n h2 h256 W);have Eb:AI (D.length=32):=AF Wr;have HN:AI (∀W,AJ w W->AS prog 54 #[AO (yA D1),AO (yA D2)] W (DW D W)):=AF (fun W hW=>by rw [hD];exact aH D1 D2 hD1 hD2 W (hT.below hW));obtain ⟨k,hk⟩:=Ab (Bi n);rw [<-hk] at hh hp HH h1 h3;obtain ⟨H1,H3⟩:=Aj h1 h3;have Ew:(prog.info? 34).map (·.size)=some 32:=AL
 have HI:=AF Ew;have hk0:=Int.natCast_nonneg k
 have hk1:(k:Int)<=(n:Int):=AG
 have hk2:(k:Int)<=(c:Int):=AG
 have hkc:¬c=k:=AG
 have hn0:((n:Int)==0)=false:=by simp;omega
 have hn1:((n:Int)==1)=false:=by simp;omega
 clear hD hT hD1 hD2 h1 h3 hk Ew;go_enter func27,ntmps27;go_upto_region 1 with fail;have hq:=Ir w 34;generalize (w.alloc _)=wa at hq ⊢;obtain ⟨ka,hba,hza⟩:=hq;obtain ⟨KA,RF⟩:=Aj ka hba;clear ka hba hza;go_wp2_with (go_at_call 53;refine (HH.o _).mono ?_;rintro e w2 ⟨rfl,rfl⟩)
 go_region_held3 (fun _=>True) (trivial) (first
  | (
   go_at_call 27
   (with_reducible refine (H1.o _ RF.o.drew).mono ?_)
   rintro e w1 ⟨rfl,hb1⟩;obtain ⟨HB1,KA1⟩:=Aj (RF.o.drew.trans (hb1.mono RF.o.size)) (KA.o.drew.below hb1 KA.o.lt);clear hb1)
  | (
   go_at_call 27
   (with_reducible refine (H3.o w1 HB1.o).mono ?_)
   rintro e w3 ⟨rfl,hb3⟩;obtain ⟨HB3,Zj⟩:=Aj (AW HB1.o hb3) (KA1.o.below hb3 KA1.o.lt);clear hb3)
  | (
   go_at_call 54
   (with_reducible refine (HN.o w3 HB3.o).mono ?_)
   rintro e w4 ⟨rfl,hb4⟩;obtain ⟨HB4,KA4⟩:=Aj (AW HB3.o hb4) (Zj.o.below hb4 Zj.o.lt);have hth:=nO KA4.o (d:=D) Y3;have hit:(prog.info? 34).map (·.size)=some (D.map (Value.int .u8)).length:=by rw [CX,Eb.o];exact HI.o
   have hon:=Y9 D;clear hb4))
 have KD:AI (AZ (w4.setCells w.heap.size 0 (D.map (Value.int .u8))) w.heap.size 34 (yA D)):=AF (i9 KA4.o Y3);have YS:AI (AJ w (w4.setCells w.heap.size 0 (D.map (Value.int .u8)))):=AF (below_setCells _ _ _ _ HB4.o (Ad _));exact AAF
theorem Z3:∀(m:Nat) (A:Option Aa) (n c:Nat) (l:List (AP)) (w:AH),n<=m->n<=256->Cc w->Ag 32 CQ w (AA A n c) l->
 AS prog 27 #[AA A n c] w (DW (Es Aq l) w):=by
 intro m
 induction m with
 |
  zero=>
  intro A n c l w hm h256 hT hs;have hl:l=[]:=JO (by have:=hs.len;omega);subst hl;obtain rfl:n=0:=AG
  exact iq A c w hT
 |
  succ m ih=>
  intro A n c l w hm h256 hT hs;have hln:=hs.len;rcases Ez n 2 with h2 | h2
  ·rcases Pe n with h0 | h0
   ·subst h0
    have hl:l=[]:=JO AG;subst hl;exact iq A c w hT
   obtain rfl:n=1:=AG
   obtain ⟨b,off,d,rfl,hb,hd,_,hy,_⟩:=GU hs (k:=0) AG;obtain ⟨x,rfl⟩:∃x,l=[x]:=by
    match l,hln with
    | [x],_=>exact ⟨x,rfl⟩
   simp only [An,Bq] at hd;subst hd;rw [RN,D6] at hy;exact AA0 b off c x w hT hy
  obtain ⟨b,off,_,rfl,_,_,_,_,_⟩:=GU hs (k:=0) AG;have hh:=Hw h2;have hp:=GQ n;have ht:=hs.AFY (k:=Bi n) AG;have hd:=hs.xt (k:=Bi n) AG;rw [ip Aq AG];rw [<-hln];refine AAz b off n c _ (Es Aq (l.take (Bi n))) (Es Aq (l.drop (Bi n))) w h2 h256 hs.le.1 hT (OM _) (OM _) rfl (fun W hW=>ih _ _ _ _ W AG AG (hT.below hW) (ht.mono BL hW)) (fun W hW=>ih _ _ _ _ W AG AG (hT.below hW) (hd.mono BL hW))
theorem Vw:One CQ:=by rintro w cs x ⟨rfl,_⟩ u hu;obtain ⟨_,_,rfl⟩:=Df.1 hu;rfl
def Qw (l:List (AP)) (w:AH) (e:Ending) (w':AH):Prop:=∃v cs,e=AV v/\w'.ownsRow w.heap.size 34 32 v l.length cs/\Ao 32 CQ w' cs l/\AJ w w'
def l8 (l:List (AP)) (k:Int) (w:AH) (e:Ending) (w':AH):Prop:=∃v cs,e=AV (BS #[v,AB AE k])/\w'.ownsRow w.heap.size 34 32 v l.length cs/\Ao 32 CQ w' cs l/\AJ w w'
theorem S8:∀(m:Nat) (l:List Dg) (k:Nat),l.length<=m->(Ft Aq l k).length<=l.length
 | 0,l,k,h=>by rw [Ft,Gt AG];simp
 |
  m+1,l,k,h=>by
  rw [Ft];by_cases h1:l.length<=1
  · rw [Gt h1];simp
  rw [Lu h1];have hh:=Hw (n:=l.length) AG;have hp:=GQ l.length;split
  ·have:=S8 m (l.take (Bi l.length)) k QS
   rw [DR] at this;exact AAj
  have:=S8 m (l.drop (Bi l.length)) (k - Bi l.length) Ws;rw [Hq] at this;exact AAj
theorem EX {w w':AH} {base:Nat} {e:Ae} {size:Nat} {v:AK} {n:Nat} {xs:List AK} (h:w.ownsRow base e size v n xs) (hb:AJ w w'):w'.ownsRow base e size v n xs:=
 h.kept (row:=none) ⟨hb.os,hb.tape,hb.output,hb.size,fun k hk _=>hb.block k hk⟩ fK
theorem AEN (xs cs:Array AK) (n:Nat) (h1:xs.size=n) (h2:cs.size=n):Array.foldl (fun cs (x:AK×Nat)=>cs.setIfInBounds x.snd x.fst) cs xs.zipIdx 0 n=xs:=by
 have h:=Great.foldl_set 0 xs.toList 0 cs;simp only [Ex] at h;have e:Array.foldl (fun cs (x:AK×Nat)=>cs.setIfInBounds x.snd x.fst) cs xs.zipIdx 0 n=(xs.toList.zipIdx 0).foldl (fun cs x=>cs.setIfInBounds x.2 x.1) cs:=by
  obtain ⟨l⟩:=xs;have hz:(⟨l⟩:Array AK).zipIdx=(l.zipIdx 0).toArray:=Ac
  rw [hz];exact List.foldl_toArray' _ _ _ (by simpa using h1.symm)
 rw [e];apply Array.ext (by rw [h.1,h1,h2]);intro i hi hj;have h3:=h.2 i;rw [Am ⟨Ar _,by simpa using hj,by omega⟩,Nat.sub_zero] at h3;rw [Yv hi] at h3;simpa [hj] using h3
theorem ZA (W:AH) (D:AP) (hD:D.length=32):Ag 32 CQ (W.alloc (AQ (yA D) 34)) (AA (some ⟨W.heap.size,0,none⟩) 1 1) [D]:=by
 have hk:=AZ.new W 34 (yA D);refine ⟨_,1,rfl,Ad _,by decide,fun i x hi=> ?_⟩;rcases i with _ | i
 ·simp only [An,Bq] at hi
  subst hi;refine ⟨W.heap.size,0,D.map (Value.int .u8),rfl,hk.lt,by simp [hD],fun j u hu=> ?_,rfl,hD⟩;rw [hk.cell,<-hu];unfold yA;simp
 · simp at hi
theorem Uu (D:AP) (h:D.length=32):Array.foldl (fun cs (x:AK×Nat)=>cs.setIfInBounds x.snd x.fst) #[Value.int .u8 0,Value.int .u8 0,Value.int .u8 0,Value.int .u8 0,Value.int .u8 0,Value.int .u8 0,Value.int .u8 0,Value.int .u8 0,Value.int .u8 0,Value.int .u8 0,Value.int .u8 0,Value.int .u8 0,Value.int .u8 0,Value.int .u8 0,Value.int .u8 0,Value.int .u8 0,Value.int .u8 0,Value.int .u8 0,Value.int .u8 0,Value.int .u8 0,Value.int .u8 0,Value.int .u8 0,Value.int .u8 0,Value.int .u8 0,Value.int .u8 0,Value.int .u8 0,Value.int .u8 0,Value.int .u8 0,Value.int .u8 0,Value.int .u8 0,Value.int .u8 0,Value.int .u8 0] (yA D).zipIdx 0 32=yA D:=AEN (yA D) _ 32 (by rw [Bb,h]) rfl
theorem Ik {w w':AH} {cs:List AK} {l:List (AP)} (h:Ao 32 CQ w cs l):Ao 32 CQ w' cs l:=h
theorem AGd {w:AH} {base n:Nat} {e:Ae} {v:AK} {cs:List AK} {l:List (AP)} (h:w.ownsRow base e 32 v n cs) (hc:Ao 32 CQ w cs l) (hn:n=l.length):Ag 32 CQ w v l:=CP h hc hn
theorem vj (b off n c k:Nat) (D:AP) (p:List (AP)) (w:AH) (h2:2<=n) (h256:n<=256) (hc:n<=c) (hpl:p.length<=n) (hDl:D.length=32) (hlt:k < Bi n)
 (h1:∀W,AJ w W->AS prog 121 #[AA (some ⟨b,off,none⟩) (Bi n) c,AB AE k] W (Qw p W))
 (h3:∀W,AJ w W->AS prog 27 #[AA (some ⟨b,off+Bi n*32,none⟩) (n - Bi n) (c - Bi n)] W (DW D W)):AS prog 121 #[AA (some ⟨b,off,none⟩) n c,AB AE k] w (Qw (p++[D]) w):=by
 have hh:=Hw h2;have hp:=GQ n;have HH:AI (∀W,AS prog 53 #[AB AE n] W fun e w'=>e=AV (AB AE (Bi n:Nat))/\W=w'):=AF (fun W=>Vr n h2 h256 W);obtain ⟨g,hg⟩:=Ab (Bi n);rw [<-hg] at hh hp HH h1 h3 hlt;obtain ⟨H1,H3,Eb⟩:=Az h1 h3 hDl;have hg0:(0:Int)<=(g:Int):=AG
 have hg1:(g:Int)<=(n:Int):=AG
 have hg2:(g:Int)<=(c:Int):=AG
 have hkc:¬c=g:=AG
 have hn1:((n:Int)==1)=false:=by simp;omega
 have hk0:=Int.natCast_nonneg k
 have hk1:(k:Int) < (g:Int):=AG
 obtain ⟨j0,hj,hjz⟩:=Ds.1 (show (prog.info? 34).map (fun i=>(i.zero.map (·.cells.size),i.size,i.bytes))=some (some 32,32,32) by kernel_rfl);simp only [GD] at hjz;obtain ⟨hjz,hj2,hj3⟩:=hjz;obtain ⟨z0,hz0,hz1⟩:=Ds.1 hjz;have HJ:=AF (show _/\_/\_/\_/\_ from ⟨hj,hz0,hz1,hj2,hj3⟩);have hys:(yA D).size=32:=by rw [Bb,hDl]
 have hfl:=Uu D hDl;clear hDl h1 h3 hg hj hjz hj2 hj3 hz0 hz1;go_enter func121,ntmps121;go_wp2_with (go_at_call 53;refine (HH.o _).mono ?_;rintro e w2 ⟨rfl,rfl⟩)
 go_region_held3 (fun _=>True) (trivial) (first
  | (
   go_at_call 121
   (with_reducible refine (H1.o w.drew (Af _ _).drew).mono ?_)
   rintro e w1 ⟨v1,cs1,rfl,ho1,hc1,hb1⟩;obtain ⟨Hl,Kl,HB1⟩:=Az ho1 hc1 (((Af w.heap.size w).drew).trans hb1);clear ho1 hc1 hb1)
  | (
   go_at_call 27
   (with_reducible refine (H3.o w1 HB1.o).mono ?_)
   rintro e w3 ⟨rfl,hb3⟩;obtain ⟨JD,Wj,HB3⟩:=Az (EX Hl.o hb3) (Kl.o.mono BL hb3) (AW HB1.o hb3);clear hb3)
  | (
   refine Ps _ DG (AY 19) (AY 24) 37 34 DG j0 z0 32 underlying37 HJ.o.1 HJ.o.2.1 HJ.o.2.2.2.1 HJ.o.2.2.2.2 HJ.o.2.2.1 BE (R:=CQ) Vw w.heap.size v1 p.length cs1 DG (JD.o.alloc _) (some ⟨w3.heap.size,0,none⟩) 1 1 [D] DG (ZA w3 D Eb.o) ?_ ?_ ?_ ?_
   · exact Ry
   · omega
   · exact BF HB3.o.size Ac
   intro v7 w7 cs7 Zb GL DZ ua;have hb7:AJ w w7:=(HB3.o.alloc HB3.o.size _).grown DZ (BF HB3.o.size Ac) (fun r hr=>(Hl.o.lt r hr).1);obtain ⟨ET,qe,HC7⟩:=Az hb7 GL (Zb);clear Zb GL DZ ua hb7)
  | fail)
 exact AAK
theorem vm (b off n c k:Nat) (D:AP) (p:List (AP)) (w:AH) (h2:2<=n) (h256:n<=256) (hc:n<=c) (hpl:p.length<=n) (hDl:D.length=32) (hge:Bi n<=k) (hkn:k < n)
 (h1:∀W,AJ w W->AS prog 121 #[AA (some ⟨b,off+Bi n*32,none⟩) (n - Bi n) (c - Bi n),AB AE ((k - Bi n:Nat):Int)] W (Qw p W))
 (h3:∀W,AJ w W->AS prog 27 #[AA (some ⟨b,off,none⟩) (Bi n) c] W (DW D W)):AS prog 121 #[AA (some ⟨b,off,none⟩) n c,AB AE k] w (Qw (p++[D]) w):=by
 have hh:=Hw h2;have hp:=GQ n;have HH:AI (∀W,AS prog 53 #[AB AE n] W fun e w'=>e=AV (AB AE (Bi n:Nat))/\W=w'):=AF (fun W=>Vr n h2 h256 W);obtain ⟨g,hg⟩:=Ab (Bi n);rw [<-hg] at hh hp HH h1 h3 hge;obtain ⟨H1,H3,Eb⟩:=Az h1 h3 hDl;have hg0:(0:Int)<=(g:Int):=AG
 have hg1:(g:Int)<=(n:Int):=AG
 have hg2:(g:Int)<=(c:Int):=AG
 have hkc:¬c=g:=AG
 have hn1:((n:Int)==1)=false:=by simp;omega
 have hk0:=Int.natCast_nonneg k
 have hk1:¬(k:Int) < (g:Int):=AG
 have hkg:IntKind.i64.wrap ((k:Int) - (g:Int))=((k - g:Nat):Int):=by rw [Bv _ AG];omega
 obtain ⟨j0,hj,hjz⟩:=Ds.1 (show (prog.info? 34).map (fun i=>(i.zero.map (·.cells.size),i.size,i.bytes))=some (some 32,32,32) by kernel_rfl);simp only [GD] at hjz;obtain ⟨hjz,hj2,hj3⟩:=hjz;obtain ⟨z0,hz0,hz1⟩:=Ds.1 hjz;have HJ:=AF (show _/\_/\_/\_/\_ from ⟨hj,hz0,hz1,hj2,hj3⟩);have hys:(yA D).size=32:=by rw [Bb,hDl]
 have hfl:=Uu D hDl;clear hDl h1 h3 hg hj hjz hj2 hj3 hz0 hz1;go_enter func121,ntmps121;go_wp2_with (go_at_call 53;refine (HH.o _).mono ?_;rintro e w2 ⟨rfl,rfl⟩)
 go_region_held3 (fun _=>True) (trivial) (first
  | (
   go_at_call 121
   (with_reducible refine (H1.o w.drew (Af _ _).drew).mono ?_)
   rintro e w1 ⟨v1,cs1,rfl,ho1,hc1,hb1⟩;obtain ⟨Hl,Kl,HB1⟩:=Az ho1 hc1 (((Af w.heap.size w).drew).trans hb1);clear ho1 hc1 hb1)
  | (
   go_at_call 27
   (with_reducible refine (H3.o w1 HB1.o).mono ?_)
   rintro e w3 ⟨rfl,hb3⟩;obtain ⟨JD,Wj,HB3⟩:=Az (EX Hl.o hb3) (Kl.o.mono BL hb3) (AW HB1.o hb3);clear hb3)
  | (
   refine Ps _ DG (AY 32) (AY 37) 37 34 DG j0 z0 32 underlying37 HJ.o.1 HJ.o.2.1 HJ.o.2.2.2.1 HJ.o.2.2.2.2 HJ.o.2.2.1 BE (R:=CQ) Vw w.heap.size v1 p.length cs1 DG (JD.o.alloc _) (some ⟨w3.heap.size,0,none⟩) 1 1 [D] DG (ZA w3 D Eb.o) ?_ ?_ ?_ ?_
   · exact Ry
   · omega
   · exact BF HB3.o.size Ac
   intro v7 w7 cs7 Zb GL DZ ua;have hb7:AJ w w7:=(HB3.o.alloc HB3.o.size _).grown DZ (BF HB3.o.size Ac) (fun r hr=>(Hl.o.lt r hr).1);obtain ⟨ET,qe,HC7⟩:=Az hb7 GL (Zb);clear Zb GL DZ ua hb7)
  | fail)
 exact AAK
theorem vp (A:Option Aa) (c:Nat) (k:Int) (w:AH):AS prog 121 #[AA A 1 c,AB AE k] w (Qw [] w):=by go_enter func121,ntmps121;go_wp2;go_ret;exact ⟨_,[],rfl,ED _ _ _ _,Ao.nil,Af _ _⟩
theorem AA1:∀(m:Nat) (A:Option Aa) (n c k:Nat) (l:List (AP)) (w:AH),n<=m->1<=n->n<=256->k < n->Cc w->Ag 32 CQ w (AA A n c) l->
 AS prog 121 #[AA A n c,AB AE k] w (Qw (Ft Aq l k) w):=by
 intro m
 induction m with
 | zero=>intro A n c k l w hm h1;omega
 |
  succ m ih=>
  intro A n c k l w hm h1 h256 hk hT hs;have hln:=hs.len;rcases Ez n 2 with h2 | h2
  ·obtain rfl:n=1:=by omega
   rw [Ft,Gt AG];exact vp A c k w
  obtain ⟨b,off,_,rfl,_,_,_,_,_⟩:=GU hs (k:=0) AG;have hh:=Hw h2;have hp:=GQ n;have ht:=hs.AFY (k:=Bi n) AG;have hd:=hs.xt (k:=Bi n) AG;rw [Ft,Lu AG];rw [<-hln];by_cases hlt:k < Bi n
  ·rw [Am hlt]
   have hpl:=S8 l.length (l.take (Bi n)) k QS;rw [DR] at hpl;exact vj b off n c k (Es Aq (l.drop (Bi n))) (Ft Aq (l.take (Bi n)) k) w h2 h256 hs.le.1 AG (OM _) hlt (fun W hW=>ih _ _ _ _ _ W AG AG AG hlt (hT.below hW) (ht.mono BL hW)) (fun W hW=>Z3 _ _ _ _ _ W (Ad _) AG (hT.below hW) (hd.mono BL hW))
  rw [Ah hlt];have hpl:=S8 l.length (l.drop (Bi n)) (k - Bi n) Ws;rw [Hq] at hpl;exact vm b off n c k (Es Aq (l.take (Bi n))) (Ft Aq (l.drop (Bi n)) (k - Bi n)) w h2 h256 hs.le.1 AG (OM _) AG hk (fun W hW=>ih _ _ _ _ _ W AG AG AG AG (hT.below hW) (hd.mono BL hW)) (fun W hW=>Z3 _ _ _ _ _ W (Ad _) AG (hT.below hW) (ht.mono BL hW))
theorem AC3 (A:Option Aa) (n c k:Nat) (l:List (AP)) (w:AH) (h256:n<=256) (hk:k < n) (hT:Cc w) (hs:Ag 32 CQ w (AA A n c) l):
 AS prog 73 #[AA A n c,AB AE k] w (l8 (Ft Aq l k) 0 w):=by
 have HC:=AF (fun (W:AH) (hW:AJ w W)=>AA1 n A n c k l W (Ad _) AG h256 hk (hT.below hW) (hs.mono BL hW));have hk0:¬(k:Int) < 0:=AG
 have hk1:¬(n:Int)<=(k:Int):=AG
 clear hT hs;go_enter func73,ntmps73;go_wp2_with (go_at_call 121;refine (HC.o _ (Af _ _)).mono ?_;rintro e w2 ⟨v,cs,rfl,ho,hc,hb⟩;have HO:=AF ho;have HC2:=AF hc;have HB:=AF hb;clear ho hc hb);go_ret2;exact ⟨v,cs,rfl,HO.o,HC2.o,HB.o⟩
def V3 (d:AP) (k:Int) (w:AH) (e:Ending) (w':AH):Prop:=e=AV (BS #[AO (yA d),AB AE k])/\AJ w w'
theorem XQ {P:BB} {fn:Func} {a:Act} {p q:Tmp} {ty:Ae} {t:Ae} {ds:TypeDesc} {d:AP} {k:Int} {g:Nat} {w0 w:AH} {x:Exit} (hx:x=.ret\/x=.normal) (h:fn.results=#[.cell p ty,.tmp q]) (hp:a.tmps.getD p undef=AU (some ⟨g,0,none⟩)) (hq:a.tmps.getD q undef=AB AE k) (hdf:a.defers=[]) (hg:AZ w g t (yA d)) (hu:P.underlying ty=some ds) (hds:(match ds with | .struct _ | .array _ _=>true | _=>false)=true) (hi:(P.info? ty).map (·.size)=some 32) (hd:d.length=32) (hb:AJ w0 w):
 bodyPost P fn (V3 d k w0) x a w:=by
 have hr:(results fn a.tmps).run P w=.ok (BS #[AO (yA d),AB AE k]) w:=by
  have hp':a.tmps[p]?.getD undef=AU (some ⟨g,0,none⟩):=by simpa using hp
  have hq':a.tmps[q]?.getD undef=AB AE k:=by simpa using hq
  simp [results,h,hp',hq',asAddr,run_loadVar_row w g t ty (yA d) (0,0) ds hg hu hds fJ]
 exact mO
theorem XO:∀(m k n:Nat),n<=m->(Gy k n).length<=n
 | 0,k,n,h=>by rw [Gy,Gt AG];simp
 |
  m+1,k,n,h=>by
  rw [Gy];by_cases h1:n<=1
  · rw [Gt h1];simp
  rw [Lu h1];have hh:=Hw (n:=n) AG;have hp:=GQ n;split
  ·have:=XO m (k - Bi n) (n - Bi n) AG
   exact bu
  have:=XO m k (Bi n) AG;exact bu
theorem AFu (H:AP->AP->AP) {p:List (AP)} {R:List Bool} {j:Nat} {x r:AP} {b:Bool} (hl:p.length=R.length) (hx:p[j]? =some x) (hb:R[R.length - 1 - j]? =some b):
 Ui H ((p.zip R.reverse).take (j+1)) r=if b then Om H x (Ui H ((p.zip R.reverse).take j) r) else Om H (Ui H ((p.zip R.reverse).take j) r) x:=by
 have hj:=(BA.1 hx).1;have hr:R.reverse[j]? =some b:=by rw [List.getElem?_reverse AG];exact hb
 have hz:(p.zip R.reverse)[j]? =some (x,b):=by rw [Ig];exact ⟨hx,hr⟩
 rw [UL,hz,VN];cases b <;> rfl
theorem AAw {r:AP} (hr:r.length=32):∀(l:List (AP×Bool)),(Ui Aq l r).length=32:=by
 intro l
 induction l generalizing r with
 | nil=>exact hr
 |
  cons x l ih=>
  obtain ⟨y,b⟩:=x;cases b
  · exact ih (C3 _ _)
  · exact ih (C3 _ _)
theorem Bz {W:AH} {base:Nat} {e:Ae} {size:Nat} {v:AK} {n:Nat} {xs:List AK} (h:W.ownsRow base e size v n xs):∃A c,v=AA A n c:=by
 rcases h.2 with ⟨rfl,rfl⟩ | ⟨g,cap,_,rfl,_⟩
 · exact ⟨none,0,rfl⟩
 · exact ⟨_,cap,rfl⟩
theorem Dh {P:BB} {w:AH} {ops:Array Oper} {rest:List Oper} {o:Oper} {a:Act} {Q:Exit->Act->AH->Prop} (hgd:o.guard=none) (ty:Ae) (x y:Operand) (ho:o.op=.store ty x y)
 (g:Nat) (d:AP) (hx:a.eval x=AU (some ⟨g,0,none⟩)) (hy:a.eval y=AO (yA d)) (t:Ae) (old:Array AK) (hg:AZ w g t old) (hi:(P.info? ty).map (·.size)=some 32) (hold:old.size=32) (hd:d.length=32)
 (h:∀w',AZ w' g t (yA d)->BK g w w'->w.grownBy w' (some g)->wpList P ops Q rest (a.put o.dst undef) w'):wpList P ops Q (o::rest) a w:=by
 have hs:(yA d).size=32:=by rw [Bb,hd]
 exact Ye hgd ty x y ho g (yA d) hx hy t old hg eV eY (GH d) (h _ (hg.row _) (below_setRow (Af _ _) (Ad _) _) ⟨rfl,rfl,rfl,by simp [World.setRow],fun k hk hne=>Gu w g k _ (fun e=>hne M1)⟩)
theorem Iu {P:BB} {ops:Array Oper} {rest:List Oper} {op:Oper} {a:Act} {w:AH} {Q:Exit->Act->AH->Prop} (hgd:op.guard=none) (ty:Ae) (x:Operand) (ho:op.op=.load ty x)
 (b o:Nat) (hx:a.eval x=AU (some ⟨b,o,none⟩)) (l:AP) (d:TypeDesc) (hc:w.rangeAt b o (l.map (Value.int .u8))) (hu:P.underlying ty=some d) (hd:d.isRow=true) (hi:(P.info? ty).map (·.size)=some 32) (hl:l.length=32)
 (h:wpList P ops Q rest (a.put op.dst (AO (yA l))) w):wpList P ops Q (op::rest) a w:=
 wpList_load_mid hgd ty x ho b o hx _ d hc hu hd (by rw [CX,hl];exact hi) h
theorem AB8 (
 d:AP) (k n:Nat) (A:Option Aa) (m c:Nat) (p:List (AP)) (w:AH) (hd:d.length=32) (h256:n<=256) (hk:k < n) (hT:Cc w) (hs:Ag 32 CQ w (AA A m c) p):
 AS prog 84 #[AO (yA d),AB AE k,AB AE n,AA A m c] w (V3 ((Ia Aq d k n p).getD (zeros 32)) (if (Ia Aq d k n p).isSome then 0 else 1) w):=by
 obtain ⟨HD,HT,HS⟩:=Az hd hT hs;obtain ⟨R,hR⟩:=Ab (Gy k n);have HR:=AF hR;have hmR:R.length<=256:=by rw [hR];have:=XO n k n (Ad _);omega
 have HMR:=AF hmR;have HH:AI (∀(n':Nat),2<=n'->n'<=256->∀(W:AH),AS prog 53 #[AB AE n'] W fun e w'=>e=AV (AB AE (Bi n':Nat))/\W=w'):=AF (fun n' h2 h3 W=>Vr n' h2 h3 W);obtain ⟨Z,hZ⟩:=Ab ((Ia Aq d k n p).getD (zeros 32));obtain ⟨E,hE⟩:=Ab (if (Ia Aq d k n p).isSome then 0 else 1:Int)
 rw [<-hZ,<-hE];obtain ⟨HZ,HE⟩:=Aj hZ hE;have h1:¬(n:Int) < 1:=AG
 have h2:¬(1099511627776:Int) < (n:Int):=AG
 have h3:¬(k:Int) < 0:=AG
 have h4:¬(n:Int)<=(k:Int):=AG
 clear hd hT hs hR hmR hZ hE;go_enter func84,ntmps84;go_upto_region 1 with fail;have hq:=Ir (w.alloc (AQ (yA d) 34)) 34;have kd:AZ (w.alloc (AQ (yA d) 34)) w.heap.size 34 (yA d):=AZ.new _ _ _;have hb0:AJ w (w.alloc (AQ (yA d) 34)):=(Af _ _).alloc (Ad _) _;have hs0:(w.alloc (AQ (yA d) 34)).heap.size=w.heap.size+1:=Ac
 generalize (w.alloc (AQ (yA d) 34))=w0 at hq kd hb0 hs0 ⊢;rw [hs0] at hq;generalize (w0.alloc _)=wa at hq ⊢;obtain ⟨kr,hba,hza⟩:=hq;obtain ⟨KD,KR⟩:=Aj (kd.below hba AG) kr;have H0:AI (AJ w wa):=AF (hb0.trans (hba.mono AG));have YF:=AF hza;clear hs0 hb0 hba kd kr hza;obtain ⟨i0,hi,hz0,hz1,hz2,hz3⟩:∃i:TypeInfo,prog.info? 4=some i/\i.zero=some (AX false)/\i.size=1/\i.bytes=1/\True:=by obtain ⟨j,hj,hjz⟩:=Ds.1 (show (prog.info? 4).map (fun i=>(i.zero,i.size,i.bytes))=some (some (AX false),1,1) by kernel_rfl);simp only [GD] at hjz;exact ⟨j,hj,hjz.1,hjz.2.1,hjz.2.2,trivial⟩
 have HI:=AF (show _/\_/\_/\_ from ⟨hi,hz0,hz1,hz2⟩);clear hi hz0 hz1 hz2 hz3;go_wp2_with fail;go_loopg [1,2,10] n (fun g ki ni v wr=>∃(k' n':Nat) (pre:List Bool),n'<=256/\k' < n'/\g=n'/\ki=AB AE k'/\ni=AB AE n'/\pre++Gy k' n'=R/\wr.ownsRow wa.heap.size 4 1 v pre.length (pre.map Value.bool)/\AJ wa wr)
 case atStart=>exact ⟨k,n,[],h256,hk,rfl,rfl,rfl,HR.o.symm,ED _ _ _ _,Af _ _⟩
 obtain ⟨k',n',pre,hn',hk',hg,rfl,rfl,hpre,hown,hb⟩:=hrel;obtain ⟨HG,HB,HOWN,iU⟩:=CJ hg hb hown hpre;clear hg hb hown hpre h1 h2 h3 h4;have hpl:pre.length<=256:=by have:=HMR.o;rw [<-iU.o,CT] at this;omega
 have hsz:=HB.o.size;by_cases hlt:2<=n'
 ·have hh:=Hw hlt
  have hp:=GQ n';have HH2:=AF (HH.o n' hlt hn');have hrr:=Gy.eq_1 k' n';rw [Lu AG] at hrr;obtain ⟨q,hq⟩:=Ab (Bi n');rw [<-hq] at hh hp HH2 hrr;have hgt:(1:Int) < (n':Int):=AG
  clear hq;by_cases hge:q<=k'
  ·rw [Am hge] at hrr
   have HRR:=AF hrr;have hge':(q:Int)<=(k':Int):=AG
   have hkg:IntKind.i64.wrap ((k':Int) - (q:Int))=((k' - q:Nat):Int):=by rw [Bv _ AG];omega
   have hng:IntKind.i64.wrap ((n':Int) - (q:Int))=((n' - q:Nat):Int):=by rw [Bv _ AG];omega
   clear hrr;go_wp2_with (first
    | (go_at_call 53;refine (HH2.o _).mono ?_;rintro e w2 ⟨rfl,rfl⟩)
    | (at_builtin;refine wpList_append_own _ rfl (AY 34) (AY 38) 230 rfl wa.heap.size 4 i0 (AX false) 1 1 underlying230 HI.o.1 HI.o.2.1 HI.o.2.2.1 HI.o.2.2.2 rfl BE _ _ _ rfl (HOWN.o.alloc _) ⟨wr.heap.size,0,none⟩ 1 1 [AX true] rfl rfl (cell_one_new _ _ _) Og Gj AG BX ?_;intro v' w5 hown' hgrow hnil))
   go_roundg (n' - q)
   case measure=>exact Ec
   refine ⟨k' - q,n' - q,pre++[true],by omega,by omega,rfl,rfl,rfl,by rw [Fh,<-iU.o,HRR.o];rfl,?_,(HB.o.alloc AG _).grown hgrow BX (fun k hk=>(HOWN.o.lt k hk).1)⟩;rw [DM,CT];exact hown'
  rw [Ah hge] at hrr;have HRR:=AF hrr;have hge':¬(q:Int)<=(k':Int):=AG
  clear hrr;go_wp2_with (first
   | (go_at_call 53;refine (HH2.o _).mono ?_;rintro e w2 ⟨rfl,rfl⟩)
   | (at_builtin;refine wpList_append_own _ rfl (AY 34) (AY 38) 230 rfl wa.heap.size 4 i0 (AX false) 1 1 underlying230 HI.o.1 HI.o.2.1 HI.o.2.2.1 HI.o.2.2.2 rfl BE _ _ _ rfl (HOWN.o.alloc _) ⟨wr.heap.size,0,none⟩ 1 1 [AX false] rfl rfl (cell_one_new _ _ _) Og Gj AG BX ?_;intro v' w5 hown' hgrow hnil))
  go_roundg (q)
  case measure=>exact Ec
  refine ⟨k',q,pre++[false],by omega,by omega,rfl,rfl,rfl,by rw [Fh,<-iU.o,HRR.o];rfl,?_,(HB.o.alloc AG _).grown hgrow BX (fun k hk=>(HOWN.o.lt k hk).1)⟩;rw [DM,CT];exact hown'
 have hn1:n'=1:=AG
 have hk0:k'=0:=AG
 subst hn1 hk0;have hpR:pre=R:=by have:=iU.o;rw [Gy,Gt AG,EU] at this;exact this
 subst hpR;have hml:=HS.o.len;obtain ⟨wx,rfl⟩:=Ab (wr:AH);obtain ⟨rA,rc,rfl⟩:=Bz HOWN.o;obtain ⟨KD2,NG,H2⟩:=Az (KD.o.below HB.o Rt) (KR.o.below HB.o Rt) (AW H0.o HB.o);have Ew:(prog.info? 34).map (·.size)=some 32:=AL
 obtain ⟨Mq,Zp⟩:=Aj Ew hml;clear Ew hml hk hlt;by_cases hmn:m=pre.length
 ·obtain ⟨D0,hD0⟩:=Ab (Aq dK d)
  have HD0:=AF hD0;have Eb:AI (D0.length=32):=AF (by rw [hD0];exact C3 _ _);have HC:AI (∀W,AJ w W->AZ W w.heap.size 34 (yA d)->AS prog 35 #[.string {data:=#[108,101,97,102]},AA (some ⟨w.heap.size,0,none⟩) 32 32] W (DW D0 W)):=AF (fun W hW hk=>by have hy:=GV hk (by rw [HD.o];omega);rw [HD.o] at hy;rw [hD0];exact IC {data:=#[108,101,97,102]} _ 32 32 d W BE (HT.o.below hW) hy)
  have NI:=AF hmn;have AJv:(m:Int)=(pre.length:Int):=AG
  clear hD0 hmn;go_wp2_with (first
   | (go_at_call 35;refine (HC.o _ H2.o KD2.o).mono ?_;rintro e w2 ⟨rfl,hb2⟩;have Q7:=AF (NG.o.below hb2 NG.o.lt);have JD:=AF (EX HOWN.o hb2);have H3:=AF (AW H2.o hb2);clear hb2)
   | (refine Dh rfl 34 (AY 8) (AY 57) rfl (w.heap.size+1) D0 rfl rfl 34 (yA (zeros 32)) Q7.o Mq.o EO Eb.o ?_;intro w3 k3 hb3 hg3))
  obtain ⟨wy,rfl⟩:=Ab (w3:AH);obtain ⟨K3,Qq,H4⟩:=Az k3 (JD.o.kept hg3 (.inr (by intro e;have:=(JD.o.lt _ e).1;have:=YF.o;omega))) (H3.o.trans (hb3.mono (Ed _)));clear k3 hb3 hg3;go_loopg [60] m (fun g i wr=>∃j:Nat,j<=m/\g=m - j/\i=AB AE j/\AZ wr (w.heap.size+1) 34 (yA (Ui Aq ((p.zip pre.reverse).take j) D0))/\wr.ownsRow wa.heap.size 4 1 (AA rA pre.length rc) pre.length (pre.map Value.bool)/\AJ w wr)
  case atStart=>exact ⟨0,Ar _,rfl,rfl,K3.o,Qq.o,H4.o⟩
  obtain ⟨j,hj,hg,rfl,hk,hown,hb⟩:=hrel;obtain ⟨HG2,HB2,HOW⟩:=Az hg hb hown;obtain ⟨C,hC⟩:=Ab (Ui Aq ((p.zip pre.reverse).take j) D0);rw [<-hC] at hk;have Sr:AI (C.length=32):=AF (by rw [hC];exact AAw Eb.o _);obtain ⟨ES,HK⟩:=Aj hC hk;clear hg hb hown hC hk;by_cases hlt:j < m
  ·obtain ⟨b,off,x,rfl,hbl,hx,hxl,_,hrg⟩:=GU (HS.o.mono BL HB2.o) hlt
   obtain ⟨HX,Fx,Oa⟩:=Az hx hxl hrg;clear hx hxl hrg hbl;obtain ⟨q,hq⟩:=Ab (pre.length - 1 - j);obtain ⟨bb,hbb⟩:∃bb,pre[q]? =some bb:=⟨_,BJ (by have:=NI.o;omega)⟩;have NK:AI (pre[pre.length - 1 - j]? =some bb):=AF (by rw [<-hq];exact hbb);have hjm:(j:Int) < (m:Int):=AG
   obtain ⟨rg,AJX,hrv⟩:∃g c,rA=some ⟨g,0,none⟩/\rc=c:=by
    rcases HOW.o.2 with ⟨_,h0⟩ | ⟨g,cap,_,hv,_⟩
    · have:=NI.o;omega
    injection hv with e1 e2 e3;exact ⟨g,cap,e1,e3⟩
   obtain ⟨rfl,rfl⟩:=hrv;have hqm:(q:Int) < (pre.length:Int):=by have:=NI.o;omega
   have e1:IntKind.i64.wrap ((pre.length:Int) - 1)=((pre.length - 1:Nat):Int):=by rw [Bv _ AG];have:=NI.o;omega
   have e2:IntKind.i64.wrap (((pre.length - 1:Nat):Int) - (j:Int))=(q:Int):=by rw [Bv _ AG];have:=NI.o;omega
   have hq0:¬(q:Int) < 0:=AG
   obtain ⟨HQ,BV,LQ⟩:=Az hq hbb hlt;clear hq hbb hlt;cases bb
   ·obtain ⟨N,hN⟩:=Ab (Om Aq C x)
    have Sn:AI (N.length=32):=AF (by rw [hN];exact C3 _ _);have HN:AI (∀W,AJ w W->AS prog 54 #[AO (yA C),AO (yA x)] W (DW N W)):=AF (fun W hW=>by rw [hN];exact aH C x Sr.o Fx.o W (HT.o.below hW));have HNE:=AF hN;clear hN;go_wp2_with (first
     | (refine Iu rfl 34 (AY 63) rfl b (off+j*32) rfl x _ Oa.o underlying34 rfl Mq.o Fx.o ?_)
     | (
      refine Dh rfl 34 (AY 13) (AY 64) rfl wr.heap.size x rfl rfl 34 (yA (zeros 32)) (Ir wr _).1 Mq.o EO Fx.o ?_;intro w4 k4 hb4 hg4;have hb5:AJ wr w4:=(Ir wr 34).2.1.trans hb4;have hcell:w4.cell? ⟨rg,q,none⟩=some (AX false):=((EX HOW.o hb5).cellAt q AG).trans sZ;obtain ⟨KX,KC,qW,H5⟩:=CJ k4 (HK.o.below hb5 HK.o.lt) (EX HOW.o hb5) (AW HB2.o hb5);clear k4 hb4 hg4 hb5)
     | (refine Ca rfl 34 (AY 13) rfl wr.heap.size x rfl 34 _ KX.o underlying34 rfl Mq.o Fx.o ?_)
     | (refine Ca rfl 34 (AY 8) rfl (w.heap.size+1) C rfl 34 _ KC.o underlying34 rfl Mq.o Sr.o ?_)
     | (
      go_at_call 54;refine (HN.o _ H5.o).mono ?_;rintro e w5 ⟨rfl,hb6⟩;obtain ⟨KC6,Qp,H6⟩:=Az (KC.o.below hb6 KC.o.lt) (EX qW.o hb6) (AW H5.o hb6);clear hb6)
     | (refine Dh rfl 34 (AY 8) (AY 78) rfl (w.heap.size+1) N rfl rfl 34 (yA C) KC6.o Mq.o fE Sn.o ?_;intro w7 k7 hb7 DZ))
    exact AAX
   obtain ⟨N,hN⟩:=Ab (Om Aq x C);have Sn:AI (N.length=32):=AF (by rw [hN];exact C3 _ _);have HN:AI (∀W,AJ w W->AS prog 54 #[AO (yA x),AO (yA C)] W (DW N W)):=AF (fun W hW=>by rw [hN];exact aH x C Fx.o Sr.o W (HT.o.below hW));have HNE:=AF hN;clear hN;go_wp2_with (first
    | (refine Iu rfl 34 (AY 63) rfl b (off+j*32) rfl x _ Oa.o underlying34 rfl Mq.o Fx.o ?_)
    | (
     refine Dh rfl 34 (AY 13) (AY 64) rfl wr.heap.size x rfl rfl 34 (yA (zeros 32)) (Ir wr _).1 Mq.o EO Fx.o ?_;intro w4 k4 hb4 hg4;have hb5:AJ wr w4:=(Ir wr 34).2.1.trans hb4;have hcell:w4.cell? ⟨rg,q,none⟩=some (AX true):=((EX HOW.o hb5).cellAt q AG).trans sZ;obtain ⟨KX,KC,qW,H5⟩:=CJ k4 (HK.o.below hb5 HK.o.lt) (EX HOW.o hb5) (AW HB2.o hb5);clear k4 hb4 hg4 hb5)
    | (refine Ca rfl 34 (AY 13) rfl wr.heap.size x rfl 34 _ KX.o underlying34 rfl Mq.o Fx.o ?_)
    | (refine Ca rfl 34 (AY 8) rfl (w.heap.size+1) C rfl 34 _ KC.o underlying34 rfl Mq.o Sr.o ?_)
    | (
     go_at_call 54;refine (HN.o _ H5.o).mono ?_;rintro e w5 ⟨rfl,hb6⟩;obtain ⟨KC6,Qp,H6⟩:=Az (KC.o.below hb6 KC.o.lt) (EX qW.o hb6) (AW H5.o hb6);clear hb6)
    | (refine Dh rfl 34 (AY 8) (AY 75) rfl (w.heap.size+1) N rfl rfl 34 (yA C) KC6.o Mq.o fE Sn.o ?_;intro w7 k7 hb7 DZ))
   exact AAX
  have hjm:j=m:=AG
  subst hjm;have hcl:Ia Aq d k n p=some C:=by rw [Ia,Am tE,<-HR.o,ES.o,HD0.o,Cy (by rw [List.length_zip,List.length_reverse,<-Zp.o,NI.o];omega)]
  obtain rfl:Z=C:=by rw [HZ.o,hcl];rfl
  obtain rfl:E=0:=by rw [HE.o,hcl];rfl
  clear hlt hcl hj;go_wp2_with (first
   | (refine Ca rfl 34 (AY 8) rfl (w.heap.size+1) Z rfl 34 _ HK.o underlying34 rfl Mq.o Sr.o ?_)
   | (refine Dh rfl 34 (AY 8) (AY 80) rfl (w.heap.size+1) Z rfl rfl 34 (yA Z) HK.o Mq.o fE Sr.o ?_;intro w7 k7 hb7 DZ))
  exact XQ (.inl rfl) rfl rfl rfl rfl k7 underlying34 rfl Mq.o Sr.o (HB2.o.trans (hb7.mono (Ed _)))
 have AJv:¬(m:Int)=(pre.length:Int):=AG
 have NI:=AF hmn;clear hmn;go_wp2_with (first
  | (refine Ca rfl 34 (AY 8) rfl (w.heap.size+1) (zeros 32) rfl 34 _ NG.o underlying34 rfl Mq.o rfl ?_)
  | (refine Dh rfl 34 (AY 8) (AY 55) rfl (w.heap.size+1) (zeros 32) rfl rfl 34 (yA (zeros 32)) NG.o Mq.o EO rfl ?_;intro w3 k3 hb3 hg3))
 have hcl:Ia Aq d k n p=none:=by rw [Ia,Ah tE]
 obtain rfl:Z=zeros 32:=by rw [HZ.o,hcl];rfl
 obtain rfl:E=1:=by rw [HE.o,hcl];rfl
 exact XQ (.inl rfl) rfl rfl rfl rfl k3 underlying34 rfl Mq.o rfl (H2.o.trans (hb3.mono (Ed _)))
def ay (l:AP) (w:AH) (e:Ending) (w':AH):Prop:=∃v,e=AV v/\w'.ownsRow w.heap.size 5 1 v l.length (l.map (Value.int .u8))/\AJ w w'
theorem Sf:∃i:TypeInfo,prog.info? 5=some i/\i.zero=some (AB Ak 0)/\i.size=1/\i.bytes=1:=by obtain ⟨j,hj,hjz⟩:=Ds.1 (show (prog.info? 5).map (fun i=>(i.zero,i.size,i.bytes))=some (some (AB Ak 0),1,1) by kernel_rfl);simp only [GD] at hjz;exact ⟨j,hj,hjz.1,hjz.2.1,hjz.2.2⟩
theorem oW (P:Option Aa) (np pc:Nat) (ps:List (AP)) (w:AH) (hp:Ag 1 VR w (AA P np pc) ps) (hl:ps.flatten.length<=100000):
 AS prog 141 #[AA P np pc] w (ay ps.flatten w):=by
 obtain ⟨HP,HL⟩:=Aj hp hl;have hnp:=hp.le;have H9:=AF hp.len;obtain ⟨i0,hi⟩:=Sf;have HI:=AF hi;clear hp hl hi;go_enter func141,ntmps141;go_wp2_with fail;go_loopg [2,7] np (fun g v i wr=>∃k:Nat,k<=np/\g=np - k/\i=AB AE k/\wr.ownsRow w.heap.size 5 1 v (ps.take k).flatten.length ((ps.take k).flatten.map (Value.int .u8))/\AJ w wr)
 case atStart=>exact ⟨0,Ar _,rfl,rfl,ED _ _ _ _,Af _ _⟩
 obtain ⟨k,hk,hg,rfl,hown,hb⟩:=hrel;obtain ⟨HG,HB,HO⟩:=Az hg hb hown;clear hg hb hown;by_cases hlt:k < np
 ·obtain ⟨b,off,x,cs,rfl,hbl,hx,hcl,hc,A,n,c,rfl,hs1⟩:=(HP.o.mono AA4 HB.o).at_ hlt
  have c0:wr.cell? ⟨b,off+k,none⟩=some (AA A n c):=by have:=hc 0 _ rfl;rw [F9,D6] at this;exact this
  have htk:(ps.take (k+1)).flatten=(ps.take k).flatten++x:=by rw [UL,hx,Pj];simp
  have htl:(ps.take k).flatten.length+n<=100000:=by
   have h1:(ps.take (k+1)).flatten.length<=ps.flatten.length:=by rw [<-OG (k+1) ps,Pj,CT];simp
   rw [htk,CT,<-hs1.len] at h1;have:=HL.o;omega
  obtain ⟨Ki,Mp,OY⟩:=Az hs1 htk htl;have hk1:(k:Int) < (np:Int):=AG
  clear hx hcl hc hs1 htk htl hbl;go_wp2_with (at_builtin;refine Cb _ rfl (AY 11) (AY 12) 92 5 rfl i0 _ 1 underlying92 HI.o.1 HI.o.2.1 HI.o.2.2.1 HI.o.2.2.2 rfl BE (R:=Io) NC w.heap.size _ _ _ rfl HO.o A n c x rfl Ki.o (by have:=OY.o;unfold maxLen;omega) (by have:=OY.o;omega) HB.o.size ?_;intro v' w5 Ng hc5 hown' hgrow OS);go_roundg (np - (k+1))
  case measure=>exact Ec
  obtain rfl:=IJ hc5;refine ⟨k+1,by omega,rfl,by go_num,?_,jd HB.o hgrow HO.o (Ad _) HB.o.size⟩;rw [Mp.o,DM,CT,<-Ki.o.len];exact hown'
 have hkn:k=ps.length:=by have:=H9.o;omega
 go_wp2;go_ret;refine ⟨_,rfl,?_,HB.o⟩;have:=HO.o;rw [hkn,Pc] at this;exact this
theorem je (seed:AP) (i:Nat) (w:AH) (hd:seed.length=32) (hi:i < 256) (hT:Cc w):AS prog 92 #[AO (yA seed),AB AE i] w (DW (Hi Aq seed i) w):=by
 obtain ⟨HD,HT⟩:=Aj hd hT;have hw:IntKind.u8.wrap (i:Int)=(i:Int):=by rw [IntKind.wrap_u8];omega
 obtain ⟨D,hD⟩:=Ab (Hi Aq seed i);have Eb:AI (D.length=32):=AF Wr;have HC:AI (∀(A:Option Aa) (c:Nat) W,AJ w W->Ag 1 Io W (AA A 33 c) (seed++[(i:Int)])->AS prog 35 #[.string {data:=#[99,104,97,105,110]},AA A 33 c] W (DW D W)):=AF (fun A c W hW hl=>by rw [hD];exact IC {data:=#[99,104,97,105,110]} A 33 c _ W BE (HT.o.below hW) hl)
 have Ew:(prog.info? 34).map (·.size)=some 32:=AL
 have HI:=AF Ew;rw [<-hD];clear hD hd hT Ew;go_enter func92,ntmps92;go_upto_region 1 with fail;have hq:=Ir (w.alloc (AQ (yA seed) 34)) 34;have kd:AZ (w.alloc (AQ (yA seed) 34)) w.heap.size 34 (yA seed):=AZ.new _ _ _;have hb0:AJ w (w.alloc (AQ (yA seed) 34)):=(Af _ _).alloc (Ad _) _;have hs0:(w.alloc (AQ (yA seed) 34)).heap.size=w.heap.size+1:=Ac
 generalize (w.alloc (AQ (yA seed) 34))=w0 at hq kd hb0 hs0 ⊢;rw [hs0] at hq;generalize (w0.alloc _)=wa at hq ⊢;obtain ⟨kr,hba,hza⟩:=hq;have hy:=GV ((kd.below hba AG).alloc (AQ #[AB Ak (i:Int)] 5)) (by rw [HD.o];omega);rw [HD.o] at hy;have h0:AJ w wa:=hb0.trans (hba.mono AG);have k1:AZ (wa.alloc (AQ #[AB Ak (i:Int)] 5)) wa.heap.size 5 (yA [(i:Int)]):=AZ.new _ _ _;have hy1:Ag 1 Io (wa.alloc (AQ #[AB Ak (i:Int)] 5)) (AA (some ⟨wa.heap.size,0,none⟩) 1 1) [(i:Int)]:=GV k1 Ac;have hs2:=uE hy hy1 (T:=92);rw [Eg] at hs2;have hbb:AJ w ((wa.alloc (AQ #[AB Ak (i:Int)] 5)).alloc (AQ #[AA (some ⟨w.heap.size,0,none⟩) 32 32,AA (some ⟨wa.heap.size,0,none⟩) 1 1] 92)):=(h0.alloc AG _).alloc BX _;have hj:=oW _ _ _ _ _ hs2 (by simp [HD.o]);have hfl:[seed,[(i:Int)]].flatten=seed++[(i:Int)]:=Ac
 rw [hfl] at hj;have HJ:=AF hj;have AIg:AI ((seed++[(i:Int)]).length=33):=AF (by simp [HD.o]);clear hj hfl;obtain ⟨KR,BV⟩:=Aj ((kr.alloc (AQ #[AB Ak (i:Int)] 5)).alloc (AQ #[AA (some ⟨w.heap.size,0,none⟩) 32 32,AA (some ⟨wa.heap.size,0,none⟩) 1 1] 92)) hbb;clear hs0 hb0 hba kd kr hza hy hy1 h0 k1 hs2 hbb;go_wp2_with (first
  | (
   go_at_call 141;refine HJ.o.mono ?_;rintro e w2 ⟨v,rfl,ho,hb⟩;rw [AIg.o] at ho;obtain ⟨g,c,rfl,hs3⟩:=Up ho (Nat.succ_pos _) AIg.o.symm;obtain ⟨Gr,NG,HB2⟩:=Az hs3 (KR.o.below hb KR.o.lt) (AW BV.o hb);clear hs3 ho hb)
  | (
   go_at_call 35;refine (HC.o _ c _ HB2.o Gr.o).mono ?_;rintro e w3 ⟨rfl,hb⟩;obtain ⟨Q7,HB3⟩:=Aj (NG.o.below hb NG.o.lt) (AW HB2.o hb);clear hb)
  | (refine DS rfl 34 (AY 4) (AY 11) rfl (w.heap.size+1) D rfl rfl 34 _ Q7.o HI.o EO Eb.o ?_;intro w4 k4 hb4))
 exact AAD
def pA (g k:Nat):Array AK:=((List.range 19).map fun i=>if i < k then Value.slice (some ⟨g,i*32,none⟩) 32 32 else Value.slice none 0 0).toArray
theorem AGv {w:AH} {P g k:Nat} {T:Ae} (h:AZ w P T (pA g k)) (hk:k < 19):AZ (w.setCell ⟨P,k,none⟩ (AA (some ⟨g,k*32,none⟩) 32 32)) P T (pA g (k+1)):=by
 have h1:=h.put k (AA (some ⟨g,k*32,none⟩) 32 32);have e:(pA g k).setIfInBounds k (AA (some ⟨g,k*32,none⟩) 32 32)=pA g (k+1):=by
  unfold pA;rw [Ju];congr 1;apply Ms;intro j;rw [RX,Be,Be,CX,Yf];by_cases hj:j < 19
  ·rw [Ly hj]
   by_cases hjk:k=j
   ·subst hjk
    simp [hk]
   rw [Ah hjk];simp only [Cu];congr 1;by_cases h2:j < k
   · rw [Am h2,Am AG]
   · rw [Ah h2,Ah AG]
  rw [DY (by simpa using hj)];rw [Ah AG];rfl
 rwa [e] at h1
theorem uL {w:AH} {P g k i:Nat} {T:Ae} (h:AZ w P T (pA g k)) (hi:i < 19):w.cell? ⟨P,i,none⟩=some (if i < k then Value.slice (some ⟨g,i*32,none⟩) 32 32 else Value.slice none 0 0):=by rw [h.cell,pA,Ai,Be,Ly hi];rfl
def chunks (F:AP) (n:Nat):List (AP):=(List.range n).map fun i=>(F.drop (i*32)).take 32
theorem Zg (F:AP):∀n,(chunks F n).flatten=F.take (n*32)
 | 0=>by simp [chunks]
 |
  n+1=>by
  have h:=Zg F n;unfold chunks at h ⊢;rw [Pk,DM,Pj,h,Jm,List.take_add];simp
theorem yF {w:AH} {P g:Nat} {T T':Ae} {F:AP} (h:AZ w P T (pA g 19)) (k:AZ w g T' (yA F)) (hF:F.length=608):Ag 1 VR w (AA (some ⟨P,0,none⟩) 19 19) (chunks F 19):=by
 refine ⟨some ⟨P,0,none⟩,19,by simp [chunks],by simp [chunks],by decide,fun i x hi=> ?_⟩;have hil:i < 19:=by have:=(BA.1 hi).1;simpa [chunks] using this
 rw [chunks,Be,Ly hil] at hi;simp only [Cu,Bq] at hi;have hxl:x.length=32:=by rw [<-hi,DR,Hq];omega
 refine ⟨P,0,[AA (some ⟨g,i*32,none⟩) 32 32],rfl,h.lt,rfl,fun j u hu=> ?_,_,32,32,rfl,⟨some ⟨g,i*32,none⟩,32,by rw [hxl],by rw [hxl];omega,by decide,fun j y hj=> ?_⟩⟩
 ·rcases j with _ | j
  ·simp only [An,Bq] at hu
   subst hu;have:=uL h hil;rw [Am hil] at this;rw [Ex,F9,D6];exact this
  · simp at hu
 have hjl:=(BA.1 hj).1;refine ⟨g,i*32,[AB Ak y],rfl,k.lt,rfl,fun q u hu=> ?_,rfl⟩;rcases q with _ | q
 ·simp only [An,Bq] at hu
  subst hu;rw [<-hi,JN AG,EC] at hj;have:=Jv k (i:=i*32+j) AG;rw [C0,hj] at this;rw [F9,D6];exact this
 · simp at hu
theorem ABX (W:AH):(Instr.makeSlice 171 (AB AE 19) (AB AE 19)).run prog W=.ok (AA (some ⟨W.heap.size,0,none⟩) 19 19) (W.alloc (AQ (madeCells #[AA none 0 0] 19) 92)):=by
 have hinfo:(prog.info? 92).map (fun i=>(i.zero,i.size,decide (i.bytes<=100)))=some (some (AA none 0 0),1,true):=AL
 obtain ⟨i,hi,hzz⟩:=Ds.1 hinfo;simp only [GD,Bw] at hzz;obtain ⟨hz,hs,hb⟩:=hzz;have hr:=run_make (P:=prog) W 171 92 i (AA none 0 0) underlying171 hi hz .i64 .i64 19 19 AG AG AG AG;rw [hs] at hr;exact hr
theorem wU (g:Nat):madeCells #[Value.slice none 0 0] 19=pA g 0:=by unfold pA;simp only [Yb,Hn];kernel_rfl
theorem XY (F:AP) (w:AH) (hF:F.length=608) (hT:Cc w):AS prog 122 #[AO (yA F)] w (DW (Aq gL F) w):=by
 obtain ⟨HF,HT⟩:=Aj hF hT;obtain ⟨D,hD⟩:=Ab (Aq gL F);have Eb:AI (D.length=32):=AF Wr;have HC:AI (∀(A:Option Aa) (c:Nat) W,AJ w W->Ag 1 Io W (AA A 608 c) F->AS prog 35 #[.string {data:=#[112,117,98,108,105,99]},AA A 608 c] W (DW D W)):=AF (fun A c W hW hl=>by rw [hD];exact IC {data:=#[112,117,98,108,105,99]} A 608 c _ W BE (HT.o.below hW) hl)
 have HJ:AI (∀(P:Nat) (W:AH),Ag 1 VR W (AA (some ⟨P,0,none⟩) 19 19) (chunks F 19)->AS prog 141 #[AA (some ⟨P,0,none⟩) 19 19] W (ay F W)):=AF (fun P W h=>by
  have e:(chunks F 19).flatten=F:=by rw [Zg,Cy AG]
  have:=oW _ _ _ _ _ h (by rw [e];omega)
  rwa [e] at this)
 have Ew:(prog.info? 34).map (·.size)=some 32:=AL
 have HI:=AF Ew;rw [<-hD];clear hD hF hT Ew;go_enter func122,ntmps122;go_upto_region 1 with fail;have hq:=Ir (w.alloc (AQ (yA F) 224)) 34;have kd:AZ (w.alloc (AQ (yA F) 224)) w.heap.size 224 (yA F):=AZ.new _ _ _;have hb0:AJ w (w.alloc (AQ (yA F) 224)):=(Af _ _).alloc (Ad _) _;have hs0:(w.alloc (AQ (yA F) 224)).heap.size=w.heap.size+1:=Ac
 generalize (w.alloc (AQ (yA F) 224))=w0 at hq kd hb0 hs0 ⊢;rw [hs0] at hq;generalize (w0.alloc _)=wa at hq ⊢;obtain ⟨kr,hba,hza⟩:=hq;have hmk:=ABX wa;have kp:AZ (wa.alloc (AQ (madeCells #[AA none 0 0] 19) 92)) wa.heap.size 92 (pA w.heap.size 0):=by rw [<-wU w.heap.size];exact AZ.new wa 92 (madeCells #[AA none 0 0] 19)
 obtain ⟨H0,KD,KR,KP,HZ⟩:=EG (hb0.trans (hba.mono AG)) ((kd.below hba AG).alloc (AQ (madeCells #[AA none 0 0] 19) 92)) (kr.alloc (AQ (madeCells #[AA none 0 0] 19) 92)) kp hza;have HB:=AF (H0.o.alloc AG (AQ (madeCells #[AA none 0 0] 19) 92));clear hs0 hb0 hba kd kr hza kp;go_wp2_with fail;clear hmk;go_loopg [6] 19 (fun q i wr=>∃k:Nat,k<=19/\q=19 - k/\i=AB AE k/\AZ wr w.heap.size 224 (yA F)/\AZ wr (w.heap.size+1) 34 (yA (zeros 32))/\AZ wr wa.heap.size 92 (pA w.heap.size k)/\AJ w wr)
 case atStart=>exact ⟨0,Ar _,rfl,rfl,KD.o,KR.o,KP.o,HB.o⟩
 clear KD KR KP HB;obtain ⟨k,hk,hq,rfl,h1,h2,h3,h4⟩:=hrel;obtain ⟨HQ,KD,KR,KP,HB⟩:=EG hq h1 h2 h3 h4;by_cases hlt:k < 19
 ·have hk0:=Int.natCast_nonneg k
  have hk1:(k:Int) < 19:=AG
  have c1:=uL h3 hlt;rw [Ah AG] at c1;have fz:=h3.frozen k;have hl1:=h1.lt;clear hq h1 h2 h3 h4;go_wp2;go_roundg (19 - (k+1))
  case measure=>exact Bc
  case rel=>exact ⟨k+1,by omega,rfl,by go_num,KD.o.far (by show w.heap.size≠wa.heap.size;have:=HZ.o;omega) _,KR.o.far (by show w.heap.size+1≠wa.heap.size;have:=HZ.o;omega) _,AGv KP.o hlt,HB.o.setCell (by show w.heap.size<=wa.heap.size;have:=HZ.o;omega) _⟩
 have h19:k=19:=AG
 subst h19;have HS:=AF (yF h3 h1 HF.o);clear hq h1 h2 h3 h4;go_wp2_with (first
  | (
   go_at_call 141;refine (HJ.o _ _ HS.o).mono ?_;rintro e w2 ⟨v,rfl,ho,hb⟩;rw [HF.o] at ho;obtain ⟨g,c,rfl,hs3⟩:=Up ho (Nat.succ_pos _) HF.o.symm;obtain ⟨Gr,NG,HB2⟩:=Az hs3 (KR.o.below hb KR.o.lt) (AW HB.o hb);clear hs3 ho hb)
  | (
   go_at_call 35;refine (HC.o _ c _ HB2.o Gr.o).mono ?_;rintro e w3 ⟨rfl,hb⟩;obtain ⟨Q7,HB3⟩:=Aj (NG.o.below hb NG.o.lt) (AW HB2.o hb);clear hb)
  | (refine DS rfl 34 (AY 2) (AY 18) rfl (w.heap.size+1) D rfl rfl 34 _ Q7.o HI.o EO Eb.o ?_;intro w4 k4 hb4))
 exact AAD
def iA (l:AP):Array AK:=(l.map (Value.int .i64)).toArray
theorem ZB {w:AH} {g:Nat} {t:Ae} {l:AP} (h:AZ w g t (iA l)) {i:Nat} (hi:i < l.length):w.cell? ⟨g,i,none⟩=some (AB AE (l.getD i 0)):=by rw [h.cell,iA,Ai,Be,C0,BJ hi];rfl
theorem ABq {w:AH} {g:Nat} {t:Ae} {l:AP} (h:AZ w g t (iA l)) (i:Nat) (x:Int):AZ (w.setCell ⟨g,i,none⟩ (AB AE x)) g t (iA (l.set i x)):=by
 have:=h.put i (AB AE x)
 rwa [iA,Ju,<-RW] at this
theorem uU (l:AP):(iA l).size=l.length:=by simp [iA]
theorem gU (l:AP):(iA l).all (·.oneCell')=true:=by
 refine eT.2 (fun v hv=> ?_);have hv:v∈l.map (Value.int .i64):=by simpa [iA] using hv
 obtain ⟨_,_,rfl⟩:=Df.1 hv;rfl
def Xz (m:AP):Nat->AP
 | 0=>zeros 19
 | k+1=>(Xz m k).set k (Nd m k)
def aW (m:AP):Nat->AP
 | 0=>Xz m 16
 | c+1=>(aW m c).set (18 - c) (sumP m 16 / 4 ^ c % 4)
theorem pu (m:AP) (k:Nat):(Xz m k).length=19:=by
 induction k with
 | zero=>simp [Xz,zeros]
 | succ k ih=>rw [Xz,D8,ih]
theorem AEO (m:AP) (k:Nat):(aW m k).length=19:=by
 induction k with
 | zero=>exact pu m 16
 | succ k ih=>rw [aW,D8,ih]
theorem xj (m:AP):aW m 3=Dk m:=by simp [aW,Xz,zeros,Dk,List.range_succ,List.replicate]
theorem nQ (m:AP):∀n,0<=sumP m n/\sumP m n<=3*n
 | 0=>by simp [sumP]
 |
  n+1=>by
  have:=nQ m n;have:=Vu m n;rw [sumP];omega
theorem AKP (v:Nat) (h:v < 256):bits BinOp.and IntKind.i64 (v:Int) 3=((v % 4:Nat):Int):=by
 have hall:(List.range 256).all (fun v=>decide (bits BinOp.and IntKind.i64 (v:Int) 3=((v % 4:Nat):Int)))=true:=AL
 exact Fj (Dr.1 hall v (Ef.2 h))
theorem AF0 (x:Nat) (k:Nat):x / 2 ^ (6 - 2*(k % 4)) % 4=x / 4 ^ (3 - k % 4) % 4:=by
 have h:(4:Nat) ^ (3 - k % 4)=2 ^ (6 - 2*(k % 4)):=by rw [show (4:Nat)=2 ^ 2 from rfl,<-Nat.pow_mul];congr 1;omega
 rw [h]
def qE (l:AP) (w:AH) (e:Ending) (w':AH):Prop:=e=AV (AO (iA l))/\AJ w w'
theorem AI7 {P:BB} {fn:Func} {a:Act} {p:Tmp} {ty:Ae} {t:Ae} {ds:TypeDesc} {l:AP} {g:Nat} {w0 w:AH} {x:Exit} (hx:x=.ret\/x=.normal) (h:fn.results=#[.cell p ty]) (hp:a.tmps.getD p undef=AU (some ⟨g,0,none⟩)) (hdf:a.defers=[]) (hg:AZ w g t (iA l)) (hu:P.underlying ty=some ds) (hds:(match ds with | .struct _ | .array _ _=>true | _=>false)=true) (hi:(P.info? ty).map (·.size)=some l.length) (hb:AJ w0 w):
 bodyPost P fn (qE l w0) x a w:=by
 have hr:=OH (P:=P) h a.tmps w g t (iA l) (0,0) ds hp hg hu hds (by rw [uU];exact hi);exact mO
theorem AJg (w:AH) (t:Ae):AZ (w.alloc (AQ #[AB AE 0,AB AE 0,AB AE 0,AB AE 0,AB AE 0,AB AE 0,AB AE 0,AB AE 0,AB AE 0,AB AE 0,AB AE 0,AB AE 0,AB AE 0,AB AE 0,AB AE 0,AB AE 0,AB AE 0,AB AE 0,AB AE 0] t)) w.heap.size t (iA (zeros 19))/\AJ w (w.alloc (AQ #[AB AE 0,AB AE 0,AB AE 0,AB AE 0,AB AE 0,AB AE 0,AB AE 0,AB AE 0,AB AE 0,AB AE 0,AB AE 0,AB AE 0,AB AE 0,AB AE 0,AB AE 0,AB AE 0,AB AE 0,AB AE 0,AB AE 0] t))/\(w.alloc (AQ #[AB AE 0,AB AE 0,AB AE 0,AB AE 0,AB AE 0,AB AE 0,AB AE 0,AB AE 0,AB AE 0,AB AE 0,AB AE 0,AB AE 0,AB AE 0,AB AE 0,AB AE 0,AB AE 0,AB AE 0,AB AE 0,AB AE 0] t)).heap.size=w.heap.size+1:=
 ⟨AZ.new _ _ _,(Af _ _).alloc (Ad _) _,by simp⟩
theorem cJ {x:Int} (h1: -9223372036854775808<=x) (h2:x<=9223372036854775807):wrap64 x=x:=Yr x ⟨h1,h2⟩
theorem AGb {m:AP} {k x:Nat} (h:m.getD (k / 4) 0=(x:Int)) (hx:x < 256):bits BinOp.and IntKind.i64 (wrap64 ((x:Int) / 2 ^ (6 - 2*(k % 4)))) 3=Nd m k:=by
 have e:((x:Int) / 2 ^ (6 - 2*(k % 4)))=((x / 2 ^ (6 - 2*(k % 4)):Nat):Int):=by norm_cast
 have hle:x / 2 ^ (6 - 2*(k % 4))<=x:=Nat.div_le_self _ _;rw [Nd,h];have e2:=AF0 x k;obtain ⟨y,hy⟩:=Ab (x / 2 ^ (6 - 2*(k % 4)));rw [<-hy] at hle e2;rw [e,<-hy,cJ AG AG,AKP _ AG,e2]
 norm_cast
theorem XK (m:AP) (w:AH) (hm:m.length=32) (hr:∀x∈m,0<=x/\x < 256):AS prog 89 #[AO (yA m)] w (qE (Dk m) w):=by
 obtain ⟨HM,HR⟩:=Aj hm hr;obtain ⟨S,hS⟩:=Ab (Dk m);have HS:=AF hS;rw [<-hS];clear hm hr hS;go_enter func89,ntmps89;go_upto_region 1 with fail;have hq:=AJg (w.alloc (AQ (yA m) 34)) 181;have kd:AZ (w.alloc (AQ (yA m) 34)) w.heap.size 34 (yA m):=AZ.new _ _ _;have hb0:AJ w (w.alloc (AQ (yA m) 34)):=(Af _ _).alloc (Ad _) _;have hs0:(w.alloc (AQ (yA m) 34)).heap.size=w.heap.size+1:=Ac
 generalize (w.alloc (AQ (yA m) 34))=w0 at hq kd hb0 hs0 ⊢;rw [hs0] at hq;generalize (w0.alloc _)=wa at hq ⊢;obtain ⟨kr,hba,hza⟩:=hq;obtain ⟨KD,KR,H0⟩:=Az (kd.below hba AG) kr (hb0.trans (hba.mono AG));clear hs0 hb0 hba kd kr hza;go_wp2_with fail;go_loopg [3,6] 16 (fun q s i wr=>∃k:Nat,k<=16/\q=16 - k/\i=AB AE k/\s=AB AE (sumP m k)/\AZ wr w.heap.size 34 (yA m)/\AZ wr (w.heap.size+1) 181 (iA (Xz m k))/\AJ w wr)
 case atStart=>exact ⟨0,Ar _,rfl,rfl,rfl,KD.o,KR.o,H0.o⟩
 clear KD KR H0;obtain ⟨k,hk,hq,rfl,hs,h1,h2,h3⟩:=hrel;have hsr:=nQ m k;obtain ⟨t,ht⟩:=Ab (sumP m k);rw [<-ht] at hs hsr;subst hs;obtain ⟨PH,HQ,KD,KR,HB⟩:=EG ht hq h1 h2 h3;clear hq h1 h2 h3 ht;by_cases hlt:k < 16
 ·have hk0:=Int.natCast_nonneg k
  have hk1:(k:Int) < 16:=AG
  have hk2:(k:Int) < 19:=AG
  obtain ⟨x,hx⟩:∃x:Nat,m.getD (k / 4) 0=(x:Int)/\x < 256:=by
   have hmm:m.getD (k / 4) 0∈m:=by rw [C0,BJ Uc];exact UJ _
   have:=HR.o _ hmm;exact ⟨(m.getD (k / 4) 0).toNat,by omega,by omega⟩
  have c1:=Jv KD.o (i:=k / 4) Uc;rw [hx.1] at c1;have c2:=ZB KR.o (i:=k) (by rw [pu];omega);have fz:=KR.o.frozen k;have hq0:(0:Int)<=(k:Int) / 4:=AG
  have hq1:(k:Int) / 4 < 32:=AG
  have hr0:(0:Int)<=6 - 2*((k:Int) % 4):=AG
  have hr1:(6 - 2*((k:Int) % 4)).toNat=6 - 2*(k % 4):=AG
  obtain ⟨HX,LQ⟩:=Aj hx hlt;clear hx hlt;go_wp2;go_roundg (16 - (k+1))
  case measure=>exact bt
  have hlt:=LQ.o;have hv:bits BinOp.and IntKind.i64 (wrap64 ((x:Int) / 2 ^ (6 - 2*(k % 4)))) 3=Nd m k:=AGb HX.o.1 HX.o.2;rw [hv];have hd:=Vu m k;refine ⟨k+1,by omega,rfl,by go_num,?_,KD.o.far tC _,?_,HB.o.setCell fR _⟩
  ·rw [sumP,<-PH.o]
   congr 1;rw [cJ (x:=3 - Nd m k) AG AG,cJ AG AG]
  rw [Xz];exact ABq KR.o k _
 have h16:k=16:=AG
 subst h16;go_wp2_with fail;go_loopg [3,5] 3 (fun q s i wr=>∃c u:Nat,c<=3/\q=3 - c/\i=AB AE ((18 - c:Nat):Int)/\s=AB AE u/\(u:Int)=t / 4 ^ c/\u<=48/\AZ wr (w.heap.size+1) 181 (iA (aW m c))/\AJ w wr)
 case atStart=>exact ⟨0,t.toNat,by omega,rfl,rfl,by rw [Yi hsr.1],by rw [Yi hsr.1];simp,by omega,KR.o,HB.o⟩
 clear KR HB KD;obtain ⟨c,u,hc,hq,rfl,rfl,hu,hu2,h2,h3⟩:=hrel;obtain ⟨Kj,KR,HB,HU⟩:=CJ hq h2 h3 hu;obtain ⟨j,hj⟩:=Ab (18 - c);rw [<-hj];have HJ:=AF hj;clear hq h2 h3 hu;by_cases hlt:c < 3
 ·have hj1:(16:Int)<=(j:Int):=by omega
  have hj2:(j:Int) < 19:=AG
  have hj0:(0:Int)<=(j:Int):=AG
  have c2:=ZB KR.o (i:=j) (by rw [AEO];omega);have fz:=KR.o.frozen j;have LQ:=AF hlt;clear hj hlt;go_wp2;go_roundg (3 - (c+1))
  case measure=>have:=Kj.o;have:=LQ.o;omega
  have hlt:=LQ.o;have hj:=HJ.o;refine ⟨c+1,u / 4,by omega,rfl,by congr 1;omega,by norm_cast,?_,by omega,?_,HB.o.setCell fR _⟩
  ·rw [Int.pow_succ,<-Int.ediv_ediv_of_nonneg (Int.pow_nonneg AG),<-HU.o]
   norm_cast
  rw [aW,<-PH.o,<-hj,<-HU.o];exact ABq KR.o j _
 have h3:c=3:=AG
 subst h3;have AJ3:j=15:=AG
 subst AJ3;have KF:=KR.o;rw [xj,<-HS.o] at KF;have HKF:=AF KF;have HSL:AI (S.length=19):=AF (by rw [HS.o];exact LX m);have AFf:(prog.info? 181).map (·.size)=some 19:=AL
 have HI:=AF AFf;clear hj hlt AFf KF;go_wp2_with (first
  | (refine Cm rfl 181 (AY 2) rfl (w.heap.size+1) AL 181 (iA S) (0,0) _ HKF.o underlying181 rfl sW ?_)
  | (refine Ye rfl 181 (AY 2) (AY 39) rfl (w.heap.size+1) (iA S) rfl rfl 181 (iA S) HKF.o sW rfl (gU _) ?_))
 exact AI7 (.inl rfl) rfl rfl rfl (HKF.o.row _) underlying181 rfl (by rw [HSL.o];exact HI.o) (below_setRow HB.o (Ed _) _)
end Go.Proofs.YtpmpddfgifhlbaaGreatDoor
