import Derived.Test.YtpmpddfgifhlbaaGreatDoorM00
namespace Go.Proofs.YtpmpddfgifhlbaaGreatDoor
set_option maxHeartbeats 8000000
set_option maxRecDepth 100000
open Go renaming World→AH, Value→AK, Calls→AS, TypeId→Ae, Addr→Aa
open Go.Proofs.Tryz
variable (A1 A2 A3 A4 A5 A6:Option Aa) (n1 c1 n2 c2 n3 c3 n4 c4 n5 c5 n6 c6:Nat)
open Go.Value renaming slice→AA, int→AB, string→AN, pointer→AU, bool→AX, agg→AO
open Go.IntKind renaming i64→AE
open Go.Ending renaming returned→AV
open Go.Obj renaming cells→AQ
open Go.RowKit
theorem rO (lo hi un:Int) (Av:ByteArray) (B:Option Aa) (m d:Nat) (ns:List ByteArray) (w:AH) (_hn2:n2<=9223372036854775807) (hs:Ag 1 DV w (AA B m d) ns):
 AS prog 56 #[(AO #[AA A1 n1 c1,AA A2 n2 c2,AA A3 n3 c3,AA A4 n4 c4,AA A5 n5 c5,AA A6 n6 c6]),AO #[AB AE 1,AB AE lo,AB AE hi,AN Av,AB AE un,AA B m d]] w fun e w'=>
  e=AV (AX (JW n2 ⟨1,lo,hi,Av,un,ns⟩))/\AJ w w':=by
 have NI:=AF hs.len;clear hs;have hix:∀w:AH,(Instr.index 166 SU (AB AE 1)).run prog w=.ok (.func (.func 125) #[] #[]) w:=fun _=>by kernel_rfl
 go_enter func56,ntmps56;go_wp2_with fail;obtain ⟨wb,hwb⟩:=Ab ((w.alloc (AQ #[AA A1 n1 c1,AA A2 n2 c2,AA A3 n3 c3,AA A4 n4 c4,AA A5 n5 c5,AA A6 n6 c6] 126)).alloc (AQ #[AB AE 1,AB AE lo,AB AE hi,AN Av,AB AE un,AA B m d] 97));rw [<-hwb];have hbb:AJ w wb:=by rw [hwb];exact Od
 have kA:AZ wb w.heap.size 126 #[AA A1 n1 c1,AA A2 n2 c2,AA A3 n3 c3,AA A4 n4 c4,AA A5 n5 c5,AA A6 n6 c6]:=by rw [hwb];exact (AZ.new _ _ _).alloc _
 have kB:AZ wb (w.heap.size+1) 97 #[AB AE 1,AB AE lo,AB AE hi,AN Av,AB AE un,AA B m d]:=by rw [hwb];exact EJ Ac
 obtain ⟨ga,hga⟩:=Ab w.heap.size;obtain ⟨gb,hgb⟩:=Ab (w.heap.size+1);rw [<-hgb] at kB ⊢;rw [<-hga] at kA ⊢;obtain ⟨HA,HB,BV⟩:=Az kA kB hbb;have a1:=kA.cell 1;have b0:=kB.cell 0;have b1:=kB.cell 1;have b2:=kB.cell 2;have b3:=kB.cell 3;have b4:=kB.cell 4;have b5:=kB.cell 5;have la:=kA.lt;have lb:=kB.lt;simp only [Ai,An,Aw] at a1 b0 b1 b2 b3 b4 b5;clear kA kB hbb hwb hga hgb
 go_region_held3 (fun w'=>w'.cell? ⟨ga,1,none⟩=some (AA A2 n2 c2)/\w'.cell? ⟨gb,0,none⟩=some (AB AE 1)/\w'.cell? ⟨gb,1,none⟩=some (AB AE lo)/\w'.cell? ⟨gb,2,none⟩=some (AB AE hi)/\w'.cell? ⟨gb,3,none⟩=some (AN Av)/\w'.cell? ⟨gb,4,none⟩=some (AB AE un)/\w'.cell? ⟨gb,5,none⟩=some (AA B m d)/\AJ wb w')
  (first
   | exact bK
   | exact bL
   | exact bM)
  (first
   | (go_at_call 78;refine (TD _).mono ?_;rintro e w' ⟨rfl,hb⟩)
   | (go_at_call 125;refine (ABk 1 lo hi un Av B m d n2 _).mono ?_;rintro e w' ⟨rfl,hc⟩))
 exact bW
theorem rN (lo hi un:Int) (Av:ByteArray) (B:Option Aa) (m d:Nat) (ns:List ByteArray) (w:AH) (_hn2:n2<=9223372036854775807) (hs:Ag 1 DV w (AA B m d) ns):
 AS prog 56 #[(AO #[AA A1 n1 c1,AA A2 n2 c2,AA A3 n3 c3,AA A4 n4 c4,AA A5 n5 c5,AA A6 n6 c6]),AO #[AB AE 2,AB AE lo,AB AE hi,AN Av,AB AE un,AA B m d]] w fun e w'=>
  e=AV (AX (JW n2 ⟨2,lo,hi,Av,un,ns⟩))/\AJ w w':=by
 have NI:=AF hs.len;clear hs;have hix:∀w:AH,(Instr.index 166 SU (AB AE 2)).run prog w=.ok (.func (.func 126) #[] #[]) w:=fun _=>by kernel_rfl
 go_enter func56,ntmps56;go_wp2_with fail;obtain ⟨wb,hwb⟩:=Ab ((w.alloc (AQ #[AA A1 n1 c1,AA A2 n2 c2,AA A3 n3 c3,AA A4 n4 c4,AA A5 n5 c5,AA A6 n6 c6] 126)).alloc (AQ #[AB AE 2,AB AE lo,AB AE hi,AN Av,AB AE un,AA B m d] 97));rw [<-hwb];have hbb:AJ w wb:=by rw [hwb];exact Od
 have kA:AZ wb w.heap.size 126 #[AA A1 n1 c1,AA A2 n2 c2,AA A3 n3 c3,AA A4 n4 c4,AA A5 n5 c5,AA A6 n6 c6]:=by rw [hwb];exact (AZ.new _ _ _).alloc _
 have kB:AZ wb (w.heap.size+1) 97 #[AB AE 2,AB AE lo,AB AE hi,AN Av,AB AE un,AA B m d]:=by rw [hwb];exact EJ Ac
 obtain ⟨ga,hga⟩:=Ab w.heap.size;obtain ⟨gb,hgb⟩:=Ab (w.heap.size+1);rw [<-hgb] at kB ⊢;rw [<-hga] at kA ⊢;obtain ⟨HA,HB,BV⟩:=Az kA kB hbb;have a1:=kA.cell 1;have b0:=kB.cell 0;have b1:=kB.cell 1;have b2:=kB.cell 2;have b3:=kB.cell 3;have b4:=kB.cell 4;have b5:=kB.cell 5;have la:=kA.lt;have lb:=kB.lt;simp only [Ai,An,Aw] at a1 b0 b1 b2 b3 b4 b5;clear kA kB hbb hwb hga hgb
 go_region_held3 (fun w'=>w'.cell? ⟨ga,1,none⟩=some (AA A2 n2 c2)/\w'.cell? ⟨gb,0,none⟩=some (AB AE 2)/\w'.cell? ⟨gb,1,none⟩=some (AB AE lo)/\w'.cell? ⟨gb,2,none⟩=some (AB AE hi)/\w'.cell? ⟨gb,3,none⟩=some (AN Av)/\w'.cell? ⟨gb,4,none⟩=some (AB AE un)/\w'.cell? ⟨gb,5,none⟩=some (AA B m d)/\AJ wb w')
  (first
   | exact bK
   | exact bL
   | exact bM)
  (first
   | (go_at_call 78;refine (TD _).mono ?_;rintro e w' ⟨rfl,hb⟩)
   | (go_at_call 126;refine (ABj 2 lo hi un Av B m d n2 _).mono ?_;rintro e w' ⟨rfl,hc⟩))
 exact bW
theorem rM (lo hi un:Int) (Av:ByteArray) (B:Option Aa) (m d:Nat) (ns:List ByteArray) (w:AH) (_hn2:n2<=9223372036854775807) (hs:Ag 1 DV w (AA B m d) ns):
 AS prog 56 #[(AO #[AA A1 n1 c1,AA A2 n2 c2,AA A3 n3 c3,AA A4 n4 c4,AA A5 n5 c5,AA A6 n6 c6]),AO #[AB AE 3,AB AE lo,AB AE hi,AN Av,AB AE un,AA B m d]] w fun e w'=>
  e=AV (AX (JW n2 ⟨3,lo,hi,Av,un,ns⟩))/\AJ w w':=by
 have NI:=AF hs.len;clear hs;have hix:∀w:AH,(Instr.index 166 SU (AB AE 3)).run prog w=.ok (.func (.func 127) #[] #[]) w:=fun _=>by kernel_rfl
 go_enter func56,ntmps56;go_wp2_with fail;obtain ⟨wb,hwb⟩:=Ab ((w.alloc (AQ #[AA A1 n1 c1,AA A2 n2 c2,AA A3 n3 c3,AA A4 n4 c4,AA A5 n5 c5,AA A6 n6 c6] 126)).alloc (AQ #[AB AE 3,AB AE lo,AB AE hi,AN Av,AB AE un,AA B m d] 97));rw [<-hwb];have hbb:AJ w wb:=by rw [hwb];exact Od
 have kA:AZ wb w.heap.size 126 #[AA A1 n1 c1,AA A2 n2 c2,AA A3 n3 c3,AA A4 n4 c4,AA A5 n5 c5,AA A6 n6 c6]:=by rw [hwb];exact (AZ.new _ _ _).alloc _
 have kB:AZ wb (w.heap.size+1) 97 #[AB AE 3,AB AE lo,AB AE hi,AN Av,AB AE un,AA B m d]:=by rw [hwb];exact EJ Ac
 obtain ⟨ga,hga⟩:=Ab w.heap.size;obtain ⟨gb,hgb⟩:=Ab (w.heap.size+1);rw [<-hgb] at kB ⊢;rw [<-hga] at kA ⊢;obtain ⟨HA,HB,BV⟩:=Az kA kB hbb;have a1:=kA.cell 1;have b0:=kB.cell 0;have b1:=kB.cell 1;have b2:=kB.cell 2;have b3:=kB.cell 3;have b4:=kB.cell 4;have b5:=kB.cell 5;have la:=kA.lt;have lb:=kB.lt;simp only [Ai,An,Aw] at a1 b0 b1 b2 b3 b4 b5;clear kA kB hbb hwb hga hgb
 go_region_held3 (fun w'=>w'.cell? ⟨ga,1,none⟩=some (AA A2 n2 c2)/\w'.cell? ⟨gb,0,none⟩=some (AB AE 3)/\w'.cell? ⟨gb,1,none⟩=some (AB AE lo)/\w'.cell? ⟨gb,2,none⟩=some (AB AE hi)/\w'.cell? ⟨gb,3,none⟩=some (AN Av)/\w'.cell? ⟨gb,4,none⟩=some (AB AE un)/\w'.cell? ⟨gb,5,none⟩=some (AA B m d)/\AJ wb w')
  (first
   | exact bK
   | exact bL
   | exact bM)
  (first
   | (go_at_call 78;refine (TD _).mono ?_;rintro e w' ⟨rfl,hb⟩)
   | (go_at_call 127;refine (ABi 3 lo hi un Av B m d n2 _).mono ?_;rintro e w' ⟨rfl,hc⟩))
 exact bW
theorem rL (lo hi un:Int) (Av:ByteArray) (B:Option Aa) (m d:Nat) (ns:List ByteArray) (w:AH) (_hn2:n2<=9223372036854775807) (hs:Ag 1 DV w (AA B m d) ns):
 AS prog 56 #[(AO #[AA A1 n1 c1,AA A2 n2 c2,AA A3 n3 c3,AA A4 n4 c4,AA A5 n5 c5,AA A6 n6 c6]),AO #[AB AE 4,AB AE lo,AB AE hi,AN Av,AB AE un,AA B m d]] w fun e w'=>
  e=AV (AX (JW n2 ⟨4,lo,hi,Av,un,ns⟩))/\AJ w w':=by
 obtain ⟨NI,HS⟩:=Aj hs.len hs;clear hs;have hix:∀w:AH,(Instr.index 166 SU (AB AE 4)).run prog w=.ok (.func (.func 128) #[] #[]) w:=fun _=>by kernel_rfl
 go_enter func56,ntmps56;go_wp2_with fail;obtain ⟨wb,hwb⟩:=Ab ((w.alloc (AQ #[AA A1 n1 c1,AA A2 n2 c2,AA A3 n3 c3,AA A4 n4 c4,AA A5 n5 c5,AA A6 n6 c6] 126)).alloc (AQ #[AB AE 4,AB AE lo,AB AE hi,AN Av,AB AE un,AA B m d] 97));rw [<-hwb];have hbb:AJ w wb:=by rw [hwb];exact Od
 have kA:AZ wb w.heap.size 126 #[AA A1 n1 c1,AA A2 n2 c2,AA A3 n3 c3,AA A4 n4 c4,AA A5 n5 c5,AA A6 n6 c6]:=by rw [hwb];exact (AZ.new _ _ _).alloc _
 have kB:AZ wb (w.heap.size+1) 97 #[AB AE 4,AB AE lo,AB AE hi,AN Av,AB AE un,AA B m d]:=by rw [hwb];exact EJ Ac
 obtain ⟨ga,hga⟩:=Ab w.heap.size;obtain ⟨gb,hgb⟩:=Ab (w.heap.size+1);rw [<-hgb] at kB ⊢;rw [<-hga] at kA ⊢;obtain ⟨HA,HB,BV⟩:=Az kA kB hbb;have a1:=kA.cell 1;have b0:=kB.cell 0;have b1:=kB.cell 1;have b2:=kB.cell 2;have b3:=kB.cell 3;have b4:=kB.cell 4;have b5:=kB.cell 5;have la:=kA.lt;have lb:=kB.lt;simp only [Ai,An,Aw] at a1 b0 b1 b2 b3 b4 b5;clear kA kB hbb hwb hga hgb
 go_region_held3 (fun w'=>w'.cell? ⟨ga,1,none⟩=some (AA A2 n2 c2)/\w'.cell? ⟨gb,0,none⟩=some (AB AE 4)/\w'.cell? ⟨gb,1,none⟩=some (AB AE lo)/\w'.cell? ⟨gb,2,none⟩=some (AB AE hi)/\w'.cell? ⟨gb,3,none⟩=some (AN Av)/\w'.cell? ⟨gb,4,none⟩=some (AB AE un)/\w'.cell? ⟨gb,5,none⟩=some (AA B m d)/\AJ wb w')
  (first
   | exact bK
   | exact bL
   | exact bM)
  (first
   | (go_at_call 78;refine (TD _).mono ?_;rintro e w' ⟨rfl,hb⟩)
   | (go_at_call 128;refine (ABh 4 lo hi un Av B m d n2 ns _ (HS.o.mono Ba (AW BV.o ((Af wb.heap.size wb).drew.trans hb)))).mono ?_;rintro e w' ⟨rfl,hc⟩))
 exact bW
theorem cP (t:Fe) (B:Option Aa) (m d:Nat) (w:AH) (hn2:n2<=9223372036854775807) (hs:Ag 1 DV w (AA B m d) t.names):
 AS prog 56 #[(AO #[AA A1 n1 c1,AA A2 n2 c2,AA A3 n3 c3,AA A4 n4 c4,AA A5 n5 c5,AA A6 n6 c6]),AO #[AB AE t.kind,AB AE t.lo,AB AE t.hi,AN t.Av,AB AE t.unit,AA B m d]] w fun e w'=>
  e=AV (AX (JW n2 t))/\AJ w w':=by
 obtain ⟨kd,lo,hi,Av,un,ns⟩:=t;simp only at hs ⊢;by_cases h1:kd=1
 · subst h1;exact rO A1 A2 A3 A4 A5 A6 n1 c1 n2 c2 n3 c3 n4 c4 n5 c5 n6 c6 lo hi un Av B m d ns w hn2 hs
 by_cases h2:kd=2
 · subst h2;exact rN A1 A2 A3 A4 A5 A6 n1 c1 n2 c2 n3 c3 n4 c4 n5 c5 n6 c6 lo hi un Av B m d ns w hn2 hs
 by_cases h3:kd=3
 · subst h3;exact rM A1 A2 A3 A4 A5 A6 n1 c1 n2 c2 n3 c3 n4 c4 n5 c5 n6 c6 lo hi un Av B m d ns w hn2 hs
 by_cases h4:kd=4
 · subst h4;exact rL A1 A2 A3 A4 A5 A6 n1 c1 n2 c2 n3 c3 n4 c4 n5 c5 n6 c6 lo hi un Av B m d ns w hn2 hs
 have hf:JW n2 ⟨kd,lo,hi,Av,un,ns⟩=false:=by simp [JW,h1,h2,h3,h4]
 rw [hf];have hk:¬(1<=kd/\kd<=4):=AG
 clear hf h1 h2 h3 h4 hs;go_enter func56,ntmps56;by_cases hlo:kd < 1
 ·go_wp2_with fail
  exact zj
 have hhi:4 < kd:=AG
 go_wp2_with fail;exact zj
def Says {α:Type} (g:Nat) (first cap:Array AK) (R:AH->List AK->α->Prop) (p:α->Bool) (l:List α) (w:AH):Prop:=
 ∀(W:AH) (cs:List AK) (x:α),AJ w W->x∈l->R W cs x->AS prog g (first++#[.agg cs.toArray]++cap) W fun e W'=>e=AV (AX (p x))/\AJ W W'
theorem Says.later {α:Type} {g:Nat} {first cap:Array AK} {R:AH->List AK->α->Prop} {p:α->Bool} {l:List α} {w w':AH} (h:Says g first cap R p l w) (hb:AJ w w'):Says g first cap R p l w':=
 fun W cs x hW=>h W cs x (AW hb hW)
theorem Says.nil {α:Type} {g:Nat} {first cap:Array AK} {R:AH->List AK->α->Prop} {p:α->Bool} {w:AH}:Says g first cap R p [] w:=fun _ _ _ _ h=>by simp at h
theorem Jb {α:Type} {p:α->Bool} {l:List α} {k:Nat} {x:α} (h:l[k]? =some x) (hp:p x=false):l.all p=false:=by rw [List.all_eq_false];exact ⟨x,Ci h,by simp [hp]⟩
theorem Er {α:Type} {p:α->Bool} {l:List α} {k:Nat} {x:α} (h:l[k]? =some x) (hp:p x=true) (ht:(l.take k).all p=true):(l.take (k+1)).all p=true:=by rw [take_snoc h,List.all_append,ht];simp [hp]
theorem ri (cs:List AK) (x:Bk) (p:Bk->Bool) (rc:AK) (B:Nat) (w:AH) (hR:CK w cs x) (hB:B < w.heap.size) (hc:w.cell? ⟨B,0,none⟩=some (.func (.func 98) #[rc] #[]))
 (hf:∀W,AJ w W->AS prog 98 (#[rc]++#[.agg cs.toArray]++#[]) W fun e W'=>e=AV (AX (p x))/\AJ W W'):
 AS prog 162 #[.agg cs.toArray,AU (some ⟨B,0,none⟩)] w fun e w'=>e=AV (AX (!p x))/\AJ w w':=by
 obtain rfl:cs=_:=hR;have HF:=AF hf;clear hf;go_enter func162,ntmps162;go_wp2_with (go_at_call 98;refine (HF.o _ (BP _ _)).mono ?_;clear HF);exact bV
theorem kq (A:Option Aa) (n c:Nat) (l:List Bk) (p:Bk->Bool) (w:AH) (B:Nat) (hl:Ag 5 CK w (AA A n c) l) (hf:Says 162 #[] #[AU (some ⟨B,0,none⟩)] CK (fun x=> !p x) l w):
 AS prog 213 #[AA A n c,.func (.func 162) #[] #[AU (some ⟨B,0,none⟩)]] w fun e w'=>(∃i:Int,e=AV (AB AE i)/\decide (0<=i)= !l.all p)/\AJ w w':=by
 have hn2:n<=9223372036854775807:=by have:=hl.le;omega
 obtain ⟨HN,HL,HF⟩:=Az hl.len hl hf;clear hl hf;go_enter func213,ntmps213;go_wp2_with fail;go_loopg [8] n (fun q i wr=>∃k:Nat,k<=n/\q=n - k/\i=AB AE k/\(l.take k).all p=true/\AJ w wr)
 case atStart=>exact Li
 obtain ⟨k,hk,hq,rfl,hv,hb⟩:=hrel;obtain ⟨HQ,HB,HV⟩:=Az hq hb hv;clear hq hb hv;by_cases hlt:k < n
 ·obtain ⟨b,off,x,rfl,hbl,hx,e0,e1,e2,e3,e4⟩:=Nx (HL.o.mono Bn HB.o) hlt
  have HX:=AF hx;have hkn:(k:Int) < (n:Int):=AG
  have hk0:=Int.natCast_nonneg k
  have HC:=AF (HF.o wr [AN x.name,AN x.Av,AB AE x.factor,AB AE x.base,AB AE x.scale] x HB.o (Ci hx) rfl);clear hx;go_wp2_with (go_at_call 162;refine HC.o.mono ?_;clear HC);rintro e w1 rfl hb1;have HB1:=AF (AW HB.o hb1);obtain ⟨v,hv⟩:=BH (p x);have HP:=AF hv;rw [hv];clear hv hb1;cases v with
  |
   true=>
   go_wp2;go_roundg (n - (k+1))
   case measure=>exact Bc
   case rel=>exact Wm
  |
   false=>
   exact Wx
 exact Wq
theorem ak (A:Option Aa) (n c:Nat) (l:List Bk) (p:Bk->Bool) (w:AH) (B:Nat) (hl:Ag 5 CK w (AA A n c) l) (hf:Says 162 #[] #[AU (some ⟨B,0,none⟩)] CK (fun x=> !p x) l w):
 AS prog 161 #[AA A n c,.func (.func 162) #[] #[AU (some ⟨B,0,none⟩)]] w fun e w'=>e=AV (AX (!l.all p))/\AJ w w':=by
 go_enter func161,ntmps161;go_wp2_with fail;refine (kq A n c l p w B hl hf).mono ?_;exact Wp
theorem sK (A:Option Aa) (n c:Nat) (l:List Bk) (p:Bk->Bool) (w:AH) (rc:AK) (hl:Ag 5 CK w (AA A n c) l) (hf:Says 98 #[rc] #[] CK p l w):
 AS prog 97 #[AA A n c,.func (.func 98) #[rc] #[]] w fun e w'=>e=AV (AX (l.all p))/\AJ w w':=by
 obtain ⟨HL,HF⟩:=Aj hl hf;clear hl hf;have hmf:∀(fn:Fn) (first cap:Array AK) (w:AH),(Instr.makeFunc fn first cap).run prog w=.ok (.func fn first cap) w:=fun _ _ _ _=>rfl;go_enter func97,ntmps97;go_wp2_with fail;have hal:AJ w (w.alloc (AQ #[.func (.func 98) #[rc] #[]] 194)):=(Af _ _).alloc (Ad _) _;have hk:AZ (w.alloc (AQ #[.func (.func 98) #[rc] #[]] 194)) w.heap.size 194 #[.func (.func 98) #[rc] #[]]:=AZ.new _ _ _;have hs:w.heap.size < (w.alloc (AQ #[.func (.func 98) #[rc] #[]] 194)).heap.size:=Ac
 have hc:=hk.cell 0;simp only [Ai,An] at hc;refine (ak A n c l p _ w.heap.size (HL.o.mono Bn hal) (fun W cs x hW hx hR=> ?_)).mono ?_
 · exact ri cs x p _ w.heap.size W hR (Ay hs hW.size) ((hW.cell (p:=⟨w.heap.size,0,none⟩) hs).trans hc) (fun W' hW'=>HF.o W' cs x ((AW hal hW).trans (hW'.mono (BF hal.size hW.size))) hx (Bn _ _ hW' _ _ hR))
 exact bS
theorem km (cs:List AK) (x:BI) (p:BI->Bool) (rc:AK) (B:Nat) (w:AH) (hR:BR w cs x) (hB:B < w.heap.size) (hc:w.cell? ⟨B,0,none⟩=some (.func (.func 100) #[rc] #[]))
 (hf:∀W,AJ w W->AS prog 100 (#[rc]++#[.agg cs.toArray]++#[]) W fun e W'=>e=AV (AX (p x))/\AJ W W'):
 AS prog 164 #[.agg cs.toArray,AU (some ⟨B,0,none⟩)] w fun e w'=>e=AV (AX (!p x))/\AJ w w':=by
 obtain ⟨A1,n1,c1,A2,n2,c2,rfl,g1,g2⟩:=hR;have HF:=AF hf;clear hf g1 g2;go_enter func164,ntmps164;go_wp2_with (go_at_call 100;refine (HF.o _ (BP _ _)).mono ?_;clear HF);exact bV
theorem dM (A:Option Aa) (n c:Nat) (l:List BI) (p:BI->Bool) (w:AH) (B:Nat) (hl:Ag 6 BR w (AA A n c) l) (hf:Says 164 #[] #[AU (some ⟨B,0,none⟩)] BR (fun x=> !p x) l w):
 AS prog 214 #[AA A n c,.func (.func 164) #[] #[AU (some ⟨B,0,none⟩)]] w fun e w'=>(∃i:Int,e=AV (AB AE i)/\decide (0<=i)= !l.all p)/\AJ w w':=by
 have hn2:n<=9223372036854775807:=by have:=hl.le;omega
 obtain ⟨HN,HL,HF⟩:=Az hl.len hl hf;clear hl hf;go_enter func214,ntmps214;go_wp2_with fail;go_loopg [8] n (fun q i wr=>∃k:Nat,k<=n/\q=n - k/\i=AB AE k/\(l.take k).all p=true/\AJ w wr)
 case atStart=>exact Li
 obtain ⟨k,hk,hq,rfl,hv,hb⟩:=hrel;obtain ⟨HQ,HB,HV⟩:=Az hq hb hv;clear hq hb hv;by_cases hlt:k < n
 ·obtain ⟨b,off,x,A1,n1,c1,A2,n2,c2,rfl,hbl,hx,e0,e1,e2,e3,e4,e5,g1,g2⟩:=Fz (HL.o.mono BM HB.o) hlt
  have HX:=AF hx;have hkn:(k:Int) < (n:Int):=AG
  have hk0:=Int.natCast_nonneg k
  have HC:=AF (HF.o wr [AN x.name,AN x.Hh,AB AE x.Au,AB AE x.version,AA A1 n1 c1,AA A2 n2 c2] x HB.o (Ci hx) ⟨A1,n1,c1,A2,n2,c2,rfl,g1,g2⟩);clear hx g1 g2;go_wp2_with (go_at_call 164;refine HC.o.mono ?_;clear HC);rintro e w1 rfl hb1;have HB1:=AF (AW HB.o hb1);obtain ⟨v,hv⟩:=BH (p x);have HP:=AF hv;rw [hv];clear hv hb1;cases v with
  |
   true=>
   go_wp2;go_roundg (n - (k+1))
   case measure=>exact Bc
   case rel=>exact Wm
  |
   false=>
   exact Wx
 exact Wq
theorem X2 (A:Option Aa) (n c:Nat) (l:List BI) (p:BI->Bool) (w:AH) (B:Nat) (hl:Ag 6 BR w (AA A n c) l) (hf:Says 164 #[] #[AU (some ⟨B,0,none⟩)] BR (fun x=> !p x) l w):
 AS prog 163 #[AA A n c,.func (.func 164) #[] #[AU (some ⟨B,0,none⟩)]] w fun e w'=>e=AV (AX (!l.all p))/\AJ w w':=by
 go_enter func163,ntmps163;go_wp2_with fail;refine (dM A n c l p w B hl hf).mono ?_;exact Wp
theorem lh (A:Option Aa) (n c:Nat) (l:List BI) (p:BI->Bool) (w:AH) (rc:AK) (hl:Ag 6 BR w (AA A n c) l) (hf:Says 100 #[rc] #[] BR p l w):
 AS prog 99 #[AA A n c,.func (.func 100) #[rc] #[]] w fun e w'=>e=AV (AX (l.all p))/\AJ w w':=by
 obtain ⟨HL,HF⟩:=Aj hl hf;clear hl hf;have hmf:∀(fn:Fn) (first cap:Array AK) (w:AH),(Instr.makeFunc fn first cap).run prog w=.ok (.func fn first cap) w:=fun _ _ _ _=>rfl;go_enter func99,ntmps99;go_wp2_with fail;have hal:AJ w (w.alloc (AQ #[.func (.func 100) #[rc] #[]] 196)):=(Af _ _).alloc (Ad _) _;have hk:AZ (w.alloc (AQ #[.func (.func 100) #[rc] #[]] 196)) w.heap.size 196 #[.func (.func 100) #[rc] #[]]:=AZ.new _ _ _;have hs:w.heap.size < (w.alloc (AQ #[.func (.func 100) #[rc] #[]] 196)).heap.size:=Ac
 have hc:=hk.cell 0;simp only [Ai,An] at hc;refine (X2 A n c l p _ w.heap.size (HL.o.mono BM hal) (fun W cs x hW hx hR=> ?_)).mono ?_
 · exact km cs x p _ w.heap.size W hR (Ay hs hW.size) ((hW.cell (p:=⟨w.heap.size,0,none⟩) hs).trans hc) (fun W' hW'=>HF.o W' cs x ((AW hal hW).trans (hW'.mono (BF hal.size hW.size))) hx (BM _ _ hW' _ _ hR))
 exact bS
theorem rj (cs:List AK) (x:Ck) (p:Ck->Bool) (pc:Aa) (B:Nat) (w:AH) (hR:CM w cs x) (hB:B < w.heap.size) (hc:w.cell? ⟨B,0,none⟩=some (.func (.func 95) #[] #[AU (some pc)]))
 (hf:∀W,AJ w W->AS prog 95 (#[]++#[.agg cs.toArray]++#[AU (some pc)]) W fun e W'=>e=AV (AX (p x))/\AJ W W'):
 AS prog 166 #[.agg cs.toArray,AU (some ⟨B,0,none⟩)] w fun e w'=>e=AV (AX (!p x))/\AJ w w':=by
 obtain ⟨A1,n1,c1,A2,n2,c2,A3,n3,c3,rfl,g1,g2,g3⟩:=hR;have HF:=AF hf;clear hf g1 g2 g3;go_enter func166,ntmps166;go_wp2_with (go_at_call 95;refine (HF.o _ (BP _ _)).mono ?_;clear HF);exact bV
theorem ky (A:Option Aa) (n c:Nat) (l:List Ck) (p:Ck->Bool) (w:AH) (B:Nat) (hl:Ag 5 CM w (AA A n c) l) (hf:Says 166 #[] #[AU (some ⟨B,0,none⟩)] CM (fun x=> !p x) l w):
 AS prog 215 #[AA A n c,.func (.func 166) #[] #[AU (some ⟨B,0,none⟩)]] w fun e w'=>(∃i:Int,e=AV (AB AE i)/\decide (0<=i)= !l.all p)/\AJ w w':=by
 have hn2:n<=9223372036854775807:=by have:=hl.le;omega
 obtain ⟨HN,HL,HF⟩:=Az hl.len hl hf;clear hl hf;go_enter func215,ntmps215;go_wp2_with fail;go_loopg [8] n (fun q i wr=>∃k:Nat,k<=n/\q=n - k/\i=AB AE k/\(l.take k).all p=true/\AJ w wr)
 case atStart=>exact Li
 obtain ⟨k,hk,hq,rfl,hv,hb⟩:=hrel;obtain ⟨HQ,HB,HV⟩:=Az hq hb hv;clear hq hb hv;by_cases hlt:k < n
 ·obtain ⟨b,off,x,A1,n1,c1,A2,n2,c2,A3,n3,c3,rfl,hbl,hx,e0,e1,e2,e3,e4,g1,g2,g3⟩:=Pw (HL.o.mono Bh HB.o) hlt
  have HX:=AF hx;have hkn:(k:Int) < (n:Int):=AG
  have hk0:=Int.natCast_nonneg k
  have HC:=AF (HF.o wr [AN x.head,AB AE x.schema,AA A1 n1 c1,AA A2 n2 c2,AA A3 n3 c3] x HB.o (Ci hx) ⟨A1,n1,c1,A2,n2,c2,A3,n3,c3,rfl,g1,g2,g3⟩);clear hx g1 g2 g3;go_wp2_with (go_at_call 166;refine HC.o.mono ?_;clear HC);rintro e w1 rfl hb1;have HB1:=AF (AW HB.o hb1);obtain ⟨v,hv⟩:=BH (p x);have HP:=AF hv;rw [hv];clear hv hb1;cases v with
  |
   true=>
   go_wp2;go_roundg (n - (k+1))
   case measure=>exact Bc
   case rel=>exact Wm
  |
   false=>
   exact Wx
 exact Wq
theorem ap (A:Option Aa) (n c:Nat) (l:List Ck) (p:Ck->Bool) (w:AH) (B:Nat) (hl:Ag 5 CM w (AA A n c) l) (hf:Says 166 #[] #[AU (some ⟨B,0,none⟩)] CM (fun x=> !p x) l w):
 AS prog 165 #[AA A n c,.func (.func 166) #[] #[AU (some ⟨B,0,none⟩)]] w fun e w'=>e=AV (AX (!l.all p))/\AJ w w':=by
 go_enter func165,ntmps165;go_wp2_with fail;refine (ky A n c l p w B hl hf).mono ?_;exact Wp
theorem sL (A:Option Aa) (n c:Nat) (l:List Ck) (p:Ck->Bool) (w:AH) (pc:Aa) (hl:Ag 5 CM w (AA A n c) l) (hf:Says 95 #[] #[AU (some pc)] CM p l w):
 AS prog 101 #[AA A n c,.func (.func 95) #[] #[AU (some pc)]] w fun e w'=>e=AV (AX (l.all p))/\AJ w w':=by
 obtain ⟨HL,HF⟩:=Aj hl hf;clear hl hf;have hmf:∀(fn:Fn) (first cap:Array AK) (w:AH),(Instr.makeFunc fn first cap).run prog w=.ok (.func fn first cap) w:=fun _ _ _ _=>rfl;go_enter func101,ntmps101;go_wp2_with fail;have hal:AJ w (w.alloc (AQ #[.func (.func 95) #[] #[AU (some pc)]] 190)):=(Af _ _).alloc (Ad _) _;have hk:AZ (w.alloc (AQ #[.func (.func 95) #[] #[AU (some pc)]] 190)) w.heap.size 190 #[.func (.func 95) #[] #[AU (some pc)]]:=AZ.new _ _ _;have hs:w.heap.size < (w.alloc (AQ #[.func (.func 95) #[] #[AU (some pc)]] 190)).heap.size:=Ac
 have hc:=hk.cell 0;simp only [Ai,An] at hc;refine (ap A n c l p _ w.heap.size (HL.o.mono Bh hal) (fun W cs x hW hx hR=> ?_)).mono ?_
 · exact rj cs x p _ w.heap.size W hR (Ay hs hW.size) ((hW.cell (p:=⟨w.heap.size,0,none⟩) hs).trans hc) (fun W' hW'=>HF.o W' cs x ((AW hal hW).trans (hW'.mono (BF hal.size hW.size))) hx (Bh _ _ hW' _ _ hR))
 exact bS
theorem gP (cs:List AK) (x:Cj) (p:Cj->Bool) (rc:AK) (B:Nat) (w:AH) (hR:BT w cs x) (hB:B < w.heap.size) (hc:w.cell? ⟨B,0,none⟩=some (.func (.func 103) #[rc] #[]))
 (hf:∀W,AJ w W->AS prog 103 (#[rc]++#[.agg cs.toArray]++#[]) W fun e W'=>e=AV (AX (p x))/\AJ W W'):
 AS prog 167 #[.agg cs.toArray,AU (some ⟨B,0,none⟩)] w fun e w'=>e=AV (AX (!p x))/\AJ w w':=by
 obtain ⟨A1,n1,c1,rfl,g1⟩:=hR;have HF:=AF hf;clear hf g1;go_enter func167,ntmps167;go_wp2_with (go_at_call 103;refine (HF.o _ (BP _ _)).mono ?_;clear HF);exact bV
theorem aL (A:Option Aa) (n c:Nat) (l:List Cj) (p:Cj->Bool) (w:AH) (B:Nat) (hl:Ag 3 BT w (AA A n c) l) (hf:Says 167 #[] #[AU (some ⟨B,0,none⟩)] BT (fun x=> !p x) l w):
 AS prog 209 #[AA A n c,.func (.func 167) #[] #[AU (some ⟨B,0,none⟩)]] w fun e w'=>(∃i:Int,e=AV (AB AE i)/\decide (0<=i)= !l.all p)/\AJ w w':=by
 have hn2:n<=9223372036854775807:=by have:=hl.le;omega
 obtain ⟨HN,HL,HF⟩:=Az hl.len hl hf;clear hl hf;go_enter func209,ntmps209;go_wp2_with fail;go_loopg [8] n (fun q i wr=>∃k:Nat,k<=n/\q=n - k/\i=AB AE k/\(l.take k).all p=true/\AJ w wr)
 case atStart=>exact Li
 obtain ⟨k,hk,hq,rfl,hv,hb⟩:=hrel;obtain ⟨HQ,HB,HV⟩:=Az hq hb hv;clear hq hb hv;by_cases hlt:k < n
 ·obtain ⟨b,off,x,A1,n1,c1,rfl,hbl,hx,e0,e1,e2,g1⟩:=L7 (HL.o.mono BN HB.o) hlt
  have HX:=AF hx;have hkn:(k:Int) < (n:Int):=AG
  have hk0:=Int.natCast_nonneg k
  have HC:=AF (HF.o wr [AN x.name,AA A1 n1 c1,AB AE x.most] x HB.o (Ci hx) ⟨A1,n1,c1,rfl,g1⟩);clear hx g1;go_wp2_with (go_at_call 167;refine HC.o.mono ?_;clear HC);rintro e w1 rfl hb1;have HB1:=AF (AW HB.o hb1);obtain ⟨v,hv⟩:=BH (p x);have HP:=AF hv;rw [hv];clear hv hb1;cases v with
  |
   true=>
   go_wp2;go_roundg (n - (k+1))
   case measure=>exact Bc
   case rel=>exact Wm
  |
   false=>
   exact Wx
 exact Wq
theorem Wk (A:Option Aa) (n c:Nat) (l:List Cj) (p:Cj->Bool) (w:AH) (B:Nat) (hl:Ag 3 BT w (AA A n c) l) (hf:Says 167 #[] #[AU (some ⟨B,0,none⟩)] BT (fun x=> !p x) l w):
 AS prog 155 #[AA A n c,.func (.func 167) #[] #[AU (some ⟨B,0,none⟩)]] w fun e w'=>e=AV (AX (!l.all p))/\AJ w w':=by
 go_enter func155,ntmps155;go_wp2_with fail;refine (aL A n c l p w B hl hf).mono ?_;exact Wp
theorem iJ (A:Option Aa) (n c:Nat) (l:List Cj) (p:Cj->Bool) (w:AH) (rc:AK) (hl:Ag 3 BT w (AA A n c) l) (hf:Says 103 #[rc] #[] BT p l w):
 AS prog 102 #[AA A n c,.func (.func 103) #[rc] #[]] w fun e w'=>e=AV (AX (l.all p))/\AJ w w':=by
 obtain ⟨HL,HF⟩:=Aj hl hf;clear hl hf;have hmf:∀(fn:Fn) (first cap:Array AK) (w:AH),(Instr.makeFunc fn first cap).run prog w=.ok (.func fn first cap) w:=fun _ _ _ _=>rfl;go_enter func102,ntmps102;go_wp2_with fail;have hal:AJ w (w.alloc (AQ #[.func (.func 103) #[rc] #[]] 199)):=(Af _ _).alloc (Ad _) _;have hk:AZ (w.alloc (AQ #[.func (.func 103) #[rc] #[]] 199)) w.heap.size 199 #[.func (.func 103) #[rc] #[]]:=AZ.new _ _ _;have hs:w.heap.size < (w.alloc (AQ #[.func (.func 103) #[rc] #[]] 199)).heap.size:=Ac
 have hc:=hk.cell 0;simp only [Ai,An] at hc;refine (Wk A n c l p _ w.heap.size (HL.o.mono BN hal) (fun W cs x hW hx hR=> ?_)).mono ?_
 · exact gP cs x p _ w.heap.size W hR (Ay hs hW.size) ((hW.cell (p:=⟨w.heap.size,0,none⟩) hs).trans hc) (fun W' hW'=>HF.o W' cs x ((AW hal hW).trans (hW'.mono (BF hal.size hW.size))) hx (BN _ _ hW' _ _ hR))
 exact bS
theorem AKQ {a b c d:Int}:([a,b,c,d]:AP).all Dd=(Dd a && (Dd b && (Dd c && Dd d))):=by simp
theorem nW (
 A1 A2 A3 A4 A5 A6:Option Aa) (n1 c1 n2 c2 n3 c3 n4 c4 n5 c5 n6 c6:Nat) (s:BI) (fA dA:Option Aa) (nf cf nd cd:Nat) (w:AH) (_hn1:n1<=9223372036854775807) (hn2:n2<=9223372036854775807) (hf:Ag 11 EW w (AA fA nf cf) s.fields):
 AS prog 100 #[(AO #[AA A1 n1 c1,AA A2 n2 c2,AA A3 n3 c3,AA A4 n4 c4,AA A5 n5 c5,AA A6 n6 c6]),AO #[AN s.name,AN s.Hh,AB AE s.Au,AB AE s.version,AA fA nf cf,AA dA nd cd]] w fun e w'=>
  e=AV (AX (Dn n1 n2 s))/\AJ w w':=by
 have hnf:nf<=9223372036854775807:=by have:=hf.le;omega
 have hlen:=hf.len;have HF:=AF hf;clear hf;by_cases hG:0<=s.Au/\s.Au < n1/\1<=s.version/\s.version<=255/\1<=nf/\nf<=12
 case neg=>
  have hfl:Dn n1 n2 s=false:=by
   cases h:Dn n1 n2 s with
   | false=>rfl
   |
    true=>
    simp only [Dn,BZ,Bw] at h;omega
  rw [hfl];have HLEN:=AF hlen;clear hfl hlen;by_cases hnz:1<=nf
  ·obtain ⟨b,off,x,B1,m1,d1,rfl,hbl,hx,e0,e1,e2,e3,e4,e5,e6,e7,e8,e9,e10,g1⟩:=IV HF.o (k:=0) AG
   clear hx g1;exact mV
  obtain rfl:nf=0:=AG
  exact mV
 obtain ⟨i0,i1,v0,v1,l0,l1⟩:=hG;obtain ⟨b0,o0,x0,C1,p1,q1,rfl,AM8,hx0,z0,z1,z2,z3,z4,z5,z6,z7,z8,z9,z10,y1⟩:=IV HF.o (k:=0) AG;by_cases hk3:x0.type.kind=3
 case neg=>
  have hfl:Dn n1 n2 s=false:=by simp [Dn,hx0,hk3]
  rw [hfl];have hkb:(x0.type.kind !=3)=true:=by simp [hk3]
  clear hfl hx0 y1 hlen;exact mV
 have hfl:Dn n1 n2 s=s.fields.all (Jz n2):=by simp [Dn,hx0,hk3,i0,i1,v0,v1,<-hlen,l0,l1]
 rw [hfl];clear hfl hx0 y1;have HLEN:=AF hlen;clear hlen;go_enter func100,ntmps100;go_wp2_with fail;clear z0 z1 z2 z3 z4 z5 z6 z7 z8 z9 z10;obtain ⟨wb,hwb⟩:=Ab ((w.alloc (AQ #[AA A1 n1 c1,AA A2 n2 c2,AA A3 n3 c3,AA A4 n4 c4,AA A5 n5 c5,AA A6 n6 c6] 126)).alloc (AQ #[AN s.name,AN s.Hh,AB AE s.Au,AB AE s.version,AA (some ⟨b0,o0,none⟩) nf cf,AA dA nd cd] 79));rw [<-hwb];have hbb:AJ w wb:=by rw [hwb];exact Od
 have kA:AZ wb w.heap.size 126 #[AA A1 n1 c1,AA A2 n2 c2,AA A3 n3 c3,AA A4 n4 c4,AA A5 n5 c5,AA A6 n6 c6]:=by rw [hwb];exact (AZ.new _ _ _).alloc _
 obtain ⟨ga,hga⟩:=Ab w.heap.size;rw [<-hga] at kA ⊢;have la:=kA.lt;obtain ⟨HA,BV⟩:=Aj kA hbb;clear kA hbb hwb hga;go_loopg [55] nf (fun q i wr=>∃k:Nat,k<=nf/\q=nf - k/\i=AB AE k/\(s.fields.take k).all (Jz n2)=true/\AJ wb wr)
 case atStart=>exact Li
 obtain ⟨k,hk,hq,rfl,hv,hb⟩:=hrel;obtain ⟨HQ,DF,HV⟩:=Az hq hb hv;have kA:=HA.o.below hb la;have lar:=kA.lt;have a0:=kA.cell 0;have a1:=kA.cell 1;have a2:=kA.cell 2;have a3:=kA.cell 3;have a4:=kA.cell 4;have a5:=kA.cell 5;simp only [Ai,An,Aw] at a0 a1 a2 a3 a4 a5;clear kA hq hb hv;by_cases hlt:k < nf
 ·obtain ⟨b,off,x,B1,m1,d1,jP,hbl,hx,e0,e1,e2,e3,e4,e5,e6,e7,e8,e9,e10,g1⟩:=IV (HF.o.mono DJ (AW BV.o DF.o)) hlt
  obtain ⟨rfl,rfl⟩:b0=b/\o0=off:=by simpa using jP
  obtain ⟨HX,G1⟩:=Aj hx g1;have hkn:(k:Int) < (nf:Int):=AG
  have hk0:=Int.natCast_nonneg k
  clear hx g1 jP;go_wp2_with (go_at_call 56;refine (cP A1 A2 A3 A4 A5 A6 n1 c1 n2 c2 n3 c3 n4 c4 n5 c5 n6 c6 x.type B1 m1 d1 _ hn2 (G1.o.1.mono Ba (BP _ _))).mono ?_);rintro e w1 ⟨rfl,hb1⟩;have HB1:=AF (AW DF.o ((BP _ _).trans (hb1.mono Ac)));obtain ⟨tv,htv⟩:=BH (JW n2 x.type);have HTV:=AF htv;rw [htv];have f0:=(hb1.cell (p:=⟨wr.heap.size,7,none⟩) Ac);have f1:=(hb1.cell (p:=⟨wr.heap.size,8,none⟩) Ac);have f2:=(hb1.cell (p:=⟨wr.heap.size,9,none⟩) Ac);have f3:=(hb1.cell (p:=⟨wr.heap.size,10,none⟩) Ac);simp only [World.cell?_alloc_at,Ai,An,Aw] at f0 f1 f2 f3;have hz:wr.heap.size < w1.heap.size:=by have:=hb1.size;simp at this;omega
  clear htv hb1 e0 e1 e2 e3 e4 e5 e6 e7 e8 e9 e10 a0 a1 a2 a3 a4 a5;cases tv with
  |
   false=>
   go_wp2;go_ret;exact ⟨A8 (Jb HX.o (by simp [Jz,HTV.o])).symm,AW BV.o HB1.o⟩
  |
   true=>
   have hi0:∀w:AH,(Instr.index 98 (AO #[AB AE x.w0,AB AE x.w1,AB AE x.w2,AB AE x.w3]) (AB AE 0)).run prog w=.ok (AB AE x.w0) w:=fun _=>by kernel_rfl
   have hi1:∀w:AH,(Instr.index 98 (AO #[AB AE x.w0,AB AE x.w1,AB AE x.w2,AB AE x.w3]) (AB AE 1)).run prog w=.ok (AB AE x.w1) w:=fun _=>by kernel_rfl
   have hi2:∀w:AH,(Instr.index 98 (AO #[AB AE x.w0,AB AE x.w1,AB AE x.w2,AB AE x.w3]) (AB AE 2)).run prog w=.ok (AB AE x.w2) w:=fun _=>by kernel_rfl
   have hi3:∀w:AH,(Instr.index 98 (AO #[AB AE x.w0,AB AE x.w1,AB AE x.w2,AB AE x.w3]) (AB AE 3)).run prog w=.ok (AB AE x.w3) w:=fun _=>by kernel_rfl
   go_wp2_with fail;go_loopg [66] 4 (fun q i wq=>∃j:Nat,j<=4/\q=4 - j/\i=AB AE j/\(([x.w0,x.w1,x.w2,x.w3]:AP).take j).all Dd=true/\wq=w1)
   case atStart=>exact ⟨0,Ar _,rfl,rfl,rfl,rfl⟩
   obtain ⟨j,hj,hq,rfl,hv,rfl⟩:=hrel;obtain ⟨Kj,Dw⟩:=Aj hq hv;clear hq hv;by_cases hj4:j < 4
   ·obtain h0 | h0 | h0 | h0:j=0\/j=1\/j=2\/j=3:=by omega
    ·subst h0
     by_cases hwk:0<=x.w0/\x.w0<=9
     ·obtain ⟨hwa,hwb⟩:=hwk
      go_wp2;go_roundg (4 - (0+1))
      case measure=>exact Ln
      case rel=>exact ⟨0+1,by omega,rfl,by go_num,by have:=Dw.o;simp [Dd] at this ⊢;simp [*],rfl⟩
     go_wp2_with fail
     all_goals
      go_ret;exact ⟨A8 (Jb HX.o (by
       have hw0:Dd x.w0=false:=by simp only [Dd,My,Mz];omega
       simp [Jz,hw0])).symm,AW BV.o HB1.o⟩
    ·subst h0
     by_cases hwk:0<=x.w1/\x.w1<=9
     ·obtain ⟨hwa,hwb⟩:=hwk
      go_wp2;go_roundg (4 - (1+1))
      case measure=>exact Ln
      case rel=>exact ⟨1+1,by omega,rfl,by go_num,by have:=Dw.o;simp [Dd] at this ⊢;simp [*],rfl⟩
     go_wp2_with fail
     all_goals
      go_ret;exact ⟨A8 (Jb HX.o (by
       have hw0:Dd x.w1=false:=by simp only [Dd,My,Mz];omega
       simp [Jz,hw0])).symm,AW BV.o HB1.o⟩
    ·subst h0
     by_cases hwk:0<=x.w2/\x.w2<=9
     ·obtain ⟨hwa,hwb⟩:=hwk
      go_wp2;go_roundg (4 - (2+1))
      case measure=>exact Ln
      case rel=>exact ⟨2+1,by omega,rfl,by go_num,by have:=Dw.o;simp [Dd] at this ⊢;simp [*],rfl⟩
     go_wp2_with fail
     all_goals
      go_ret;exact ⟨A8 (Jb HX.o (by
       have hw0:Dd x.w2=false:=by simp only [Dd,My,Mz];omega
       simp [Jz,hw0])).symm,AW BV.o HB1.o⟩
    subst h0;by_cases hwk:0<=x.w3/\x.w3<=9
    ·obtain ⟨hwa,hwb⟩:=hwk
     go_wp2;go_roundg (4 - (3+1))
     case measure=>exact Ln
     case rel=>exact ⟨3+1,by omega,rfl,by go_num,by have:=Dw.o;simp [Dd] at this ⊢;simp [*],rfl⟩
    go_wp2_with fail
    all_goals
     go_ret;exact ⟨A8 (Jb HX.o (by
      have hw0:Dd x.w3=false:=by simp only [Dd,My,Mz];omega
      simp [Jz,hw0])).symm,AW BV.o HB1.o⟩
   obtain rfl:j=4:=AG
   have j6:AI (Jz n2 x=true):=AF (by have:=Dw.o;rw [Cy Ac,AKQ] at this;simp [Jz,HTV.o,this])
   go_wp2;go_roundg (nf - (k+1))
   case measure=>exact Bc
   case rel=>exact ⟨k+1,by omega,rfl,by go_num,Er HX.o j6.o HV.o,HB1.o⟩
 have HT:AI (s.fields.all (Jz n2)=true):=by have:=HV.o;rw [Cy Rv] at this;exact this
 go_wp2;go_ret;exact ⟨A8 HT.o.symm,AW BV.o DF.o⟩
def typeAt (ss:List BI) (s f:Int):Option Fe:=
 if s < 0\/f < 0 then none else (ss[s.toNat]?).bind fun x=>(x.fields[f.toNat]?).map fun y=>y.type
def Fa (ss:List BI) (p:Cj):Bool:=p.may.all (fun r=>(typeAt ss r.schema r.field).isSome) && decide (0<=p.most) && decide (p.most<=64)
def isNum (t:DP):Bool:=decide (t.var= -1) && decide (0<=t.n) && decide (t.n<=1048576)
def Fu (ss:List BI) (froms:List Br) (t:DP) (vars:Nat):Option Fe:=
 if t.var < 0\/(vars:Int)<=t.var then none else (froms[t.var.toNat]?).bind fun f=>typeAt ss f.schema t.field
def Qk (us:List Bk) (u:Int):Int:=((us[u.toNat]?).map fun x=>x.base).getD 0
def LH (us:List Bk) (a b:Fe):Bool:=
 if a.kind≠b.kind then false
 else if a.kind=4 then decide (a.names=b.names)
 else if a.kind≠1\/a.unit= -1\/b.unit= -1 then decide (a.unit=b.unit)
 else decide (Qk us a.unit=Qk us b.unit)
def Md (ss:List BI) (froms:List Br) (i:Nat) (f:Br):Bool:=
 decide (0<=f.schema) && decide (f.schema < ss.length) && (decide (f.Av.var= -1) || (Fu ss froms f.Av i).any fun t=>decide (t.kind=3))
def Hx (ss:List BI) (froms:List Br):Bool:=
 decide (1<=froms.length) && decide (froms.length<=3) && (List.range froms.length).all fun i=>(froms[i]?).any fun f=>Md ss froms i f
def Py (t:Fe):Bool:=decide (t.kind=1) || decide (t.kind=2)
def Ml (us:List Bk) (ss:List BI) (froms:List Br) (a:Gf):Bool:=
 let x:=Fu ss froms a.a froms.length
 let y:=Fu ss froms a.b froms.length
 decide (1<=a.op) && decide (a.op<=4) && (x.isSome || isNum a.a) && (y.isSome || isNum a.b) && (x.isSome || y.isSome) &&
  (match x,y with | some s,some t=>LH us s t | _,_=>true) &&
  (!(decide (a.op=2) || decide (a.op=3)) || ((x.all Py) && y.all Py))
def VT (ss:List BI) (froms:List Br) (f:Fe) (t:DP):Bool:=
 if isNum t then decide (f.lo<=t.n) && decide (t.n<=f.hi)
 else (Fu ss froms t froms.length).any fun y=>decide (y.kind=f.kind) && decide (y.unit=f.unit) && decide (y.names=f.names) && decide (f.lo<=y.lo) && decide (y.lo<=f.hi) && decide (f.lo<=y.hi) && decide (y.hi<=f.hi)
def Kv (ss:List BI) (froms:List Br) (head:Int) (s:Kf):Bool:=
 (typeAt ss head s.field).any fun f=>decide (s.field≠0) && VT ss froms f s.term
def I0 (us:List Bk) (ss:List BI) (r:Ck):Bool:=
 Hx ss r.froms && decide (r.DQ.length<=8) && r.DQ.all (Ml us ss r.froms) && decide (0<=r.schema) && ((ss[r.schema.toNat]?).any fun h=>decide (r.sets.length+1=h.fields.length)) &&
  r.sets.all (Kv ss r.froms r.schema) && Dm [] (r.sets.map fun s=>s.field)
def FE (s:BD):Int:=
 if !FH s then 2
 else if s.units.all (MU s.units) && s.Ap.all (Dn s.Bl.length s.units.length) && s.rules.all (I0 s.units s.Ap) && s.purposes.all (Fa s.Ap) then 0
 else 120
theorem oY (A:Option Aa) (n c:Nat) (l:List Cj) (p:Cj->Bool) (w:AH) (hl:Ag 3 BT w (AA A n c) l) (hf:Says 156 #[] #[] BT (fun x=> !p x) l w):
 AS prog 209 #[AA A n c,.func (.func 156) #[] #[]] w fun e w'=>(∃i:Int,e=AV (AB AE i)/\decide (0<=i)= !l.all p)/\AJ w w':=by
 have hn2:n<=9223372036854775807:=by have:=hl.le;omega
 obtain ⟨HN,HL,HF⟩:=Az hl.len hl hf;clear hl hf;go_enter func209,ntmps209;go_wp2_with fail;go_loopg [8] n (fun q i wr=>∃k:Nat,k<=n/\q=n - k/\i=AB AE k/\(l.take k).all p=true/\AJ w wr)
 case atStart=>exact Li
 obtain ⟨k,hk,hq,rfl,hv,hb⟩:=hrel;obtain ⟨HQ,HB,HV⟩:=Az hq hb hv;clear hq hb hv;by_cases hlt:k < n
 ·obtain ⟨b,off,x,A1,n1,c1,rfl,hbl,hx,e0,e1,e2,g1⟩:=L7 (HL.o.mono BN HB.o) hlt
  have HX:=AF hx;have hkn:(k:Int) < (n:Int):=AG
  have hk0:=Int.natCast_nonneg k
  have HC:=AF (HF.o wr [AN x.name,AA A1 n1 c1,AB AE x.most] x HB.o (Ci hx) ⟨A1,n1,c1,rfl,g1⟩);clear hx g1;go_wp2_with (go_at_call 156;refine HC.o.mono ?_;clear HC);rintro e w1 rfl hb1;have HB1:=AF (AW HB.o hb1);obtain ⟨v,hv⟩:=BH (p x);have HP:=AF hv;rw [hv];clear hv hb1;cases v with
  |
   true=>
   go_wp2;go_roundg (n - (k+1))
   case measure=>exact Bc
   case rel=>exact Wm
  |
   false=>
   exact Wx
 exact Wq
theorem TP (A:Option Aa) (n c:Nat) (l:List Cj) (p:Cj->Bool) (w:AH) (hl:Ag 3 BT w (AA A n c) l) (hf:Says 156 #[] #[] BT (fun x=> !p x) l w):
 AS prog 155 #[AA A n c,.func (.func 156) #[] #[]] w fun e w'=>e=AV (AX (!l.all p))/\AJ w w':=by
 go_enter func155,ntmps155;go_wp2_with fail;refine (oY A n c l p w hl hf).mono ?_;exact Wp
theorem oS (cs:List AK) (x:Cj) (w:AH) (hR:BT w cs x):
 AS prog 156 #[.agg cs.toArray] w fun e w'=>e=AV (AX (!decide (x.may.length<=64)))/\AJ w w':=by
 obtain ⟨A1,n1,c1,rfl,g1⟩:=hR;have hl:=AF g1.1.len;clear g1;go_enter func156,ntmps156;go_wp2;go_ret;refine ⟨A8 ?_,(BP _ _)⟩;have:=hl.o;by_cases h:x.may.length<=64
 · rw [Bg h];simp;omega
 · rw [BO h];simp;omega
theorem ro (s:BD) (w:AH) (h1:n1=s.Bl.length) (h2:n2=s.units.length) (h3:n3=s.Ap.length) (h4:n4=s.rules.length) (h5:n5=s.converts.length) (h6:Ag 3 BT w (AA A6 n6 c6) s.purposes):
 AS prog 94 #[(AO #[AA A1 n1 c1,AA A2 n2 c2,AA A3 n3 c3,AA A4 n4 c4,AA A5 n5 c5,AA A6 n6 c6])] w fun e w'=>e=AV (AX (FH s))/\AJ w w':=by
 have H6:=AF h6;have hn6:=h6.len;clear h6;by_cases hG:n1<=8/\n2<=64/\n3<=16/\n4<=16/\n5<=16/\n6<=8
 ·have hf:FH s=s.purposes.all fun p=>decide (p.may.length<=64):=by
   obtain ⟨q1,q2,q3,q4,q5,q6⟩:=hG;simp [FH,<-h1,<-h2,<-h3,<-h4,<-h5,<-hn6,q1,q2,q3,q4,q5,q6]
  rw [hf];obtain ⟨q1,q2,q3,q4,q5,q6⟩:=hG;clear hf h1 h2 h3 h4 h5 hn6;go_enter func94,ntmps94;go_wp2_with (go_at_call 155;refine (TP A6 n6 c6 s.purposes (fun p=>decide (p.may.length<=64)) _ (H6.o.mono BN (BP _ _)) (fun W cs x hW hx hR=>oS cs x W hR)).mono ?_);rintro e w1 ⟨rfl,hb1⟩;have HB1:=AF ((BP _ _).trans (hb1.mono Ac));clear hb1;go_wp2;go_ret;exact ⟨A8 Ac,HB1.o⟩
 have hf:FH s=false:=by
  cases h:FH s with
  | false=>rfl
  |
   true=>
   simp only [FH,BZ,Bw] at h;omega
 rw [hf];clear hf h1 h2 h3 h4 h5 hn6;go_enter func94,ntmps94;go_wp2_with (go_at_call 155;refine (TP A6 n6 c6 s.purposes (fun p=>decide (p.may.length<=64)) _ (H6.o.mono BN (BP _ _)) (fun W cs x hW hx hR=>oS cs x W hR)).mono ?_)
 all_goals first
  | (exfalso;omega)
  | (go_ret;exact ⟨rfl,(BP _ _)⟩)
theorem vg {s:BD} (h:FH s=false):FE s=2:=by simp [FE,h]
theorem ACX {s:BD} (h:FH s=true) (e:s.units.all (MU s.units)=false):FE s=120:=by simp only [FE,h,e];rfl
theorem ACY {s:BD} (h:FH s=true) (e1:s.units.all (MU s.units)=true) (e:s.Ap.all (Dn s.Bl.length s.units.length)=false):FE s=120:=by simp only [FE,h,e1,e];rfl
theorem ACZ {s:BD} (h:FH s=true) (e1:s.units.all (MU s.units)=true) (e2:s.Ap.all (Dn s.Bl.length s.units.length)=true) (e:s.rules.all (I0 s.units s.Ap)=false):FE s=120:=by simp only [FE,h,e1,e2,e];rfl
theorem ACa {s:BD} (h:FH s=true) (e1:s.units.all (MU s.units)=true) (e2:s.Ap.all (Dn s.Bl.length s.units.length)=true) (e3:s.rules.all (I0 s.units s.Ap)=true) (e:s.purposes.all (Fa s.Ap)=false):FE s=120:=by simp only [FE,h,e1,e2,e3,e];rfl
theorem AAx {s:BD} (h:FH s=true) (e1:s.units.all (MU s.units)=true) (e2:s.Ap.all (Dn s.Bl.length s.units.length)=true) (e3:s.rules.all (I0 s.units s.Ap)=true) (e4:s.purposes.all (Fa s.Ap)=true):FE s=0:=by simp only [FE,h,e1,e2,e3,e4];rfl
theorem WD (s:BD) (w:AH) (h1:Ag 1 DV w (AA A1 n1 c1) s.Bl) (h2:Ag 5 CK w (AA A2 n2 c2) s.units) (h3:Ag 6 BR w (AA A3 n3 c3) s.Ap) (h4:Ag 5 CM w (AA A4 n4 c4) s.rules) (h5:n5=s.converts.length) (h6:Ag 3 BT w (AA A6 n6 c6) s.purposes)
 (hr:s.Ap.all (Dn s.Bl.length s.units.length)=true->∀(W:AH) (g:Nat),AJ w W->AZ W g 126 #[AA A1 n1 c1,AA A2 n2 c2,AA A3 n3 c3,AA A4 n4 c4,AA A5 n5 c5,AA A6 n6 c6]->Says 95 #[] #[AU (some ⟨g,0,none⟩)] CM (I0 s.units s.Ap) s.rules W)
 (hp:∀(W:AH),AJ w W->Says 103 #[(AO #[AA A1 n1 c1,AA A2 n2 c2,AA A3 n3 c3,AA A4 n4 c4,AA A5 n5 c5,AA A6 n6 c6])] #[] BT (Fa s.Ap) s.purposes W):
 AS prog 66 #[(AO #[AA A1 n1 c1,AA A2 n2 c2,AA A3 n3 c3,AA A4 n4 c4,AA A5 n5 c5,AA A6 n6 c6])] w fun e w'=>e=AV (AB AE (FE s))/\AJ w w':=by
 have HMF:AI (∀(fn:Fn) (first cap:Array AK) (w:AH),(Instr.makeFunc fn first cap).run prog w=.ok (.func fn first cap) w):=AF (fun _ _ _ _=>rfl);have o1:n1<=9223372036854775807:=by have:=h1.le;omega
 have o2:n2<=9223372036854775807:=by have:=h2.le;omega
 obtain ⟨VE,Zo,LJ,HN4,Wb,H2,H3,H4,H6,HR,HP⟩:=vV h1.len h2.len h3.len h4.len h5 h2 h3 h4 h6 hr hp;clear h1 h2 h3 h4 h5 h6 hr hp;obtain ⟨vl,hvl⟩:=BH (FH s);have VB:=AF hvl;clear hvl;go_enter func66,ntmps66;go_upto_region 2 with fail;obtain ⟨wb,hwb⟩:=Ab ((w.alloc (AQ #[AA A1 n1 c1,AA A2 n2 c2,AA A3 n3 c3,AA A4 n4 c4,AA A5 n5 c5,AA A6 n6 c6] 29)).alloc (AQ #[AA A1 n1 c1,AA A2 n2 c2,AA A3 n3 c3,AA A4 n4 c4,AA A5 n5 c5,AA A6 n6 c6] 126));rw [<-hwb];have hbb:AJ w wb:=by rw [hwb];exact Od
 have kA:AZ wb w.heap.size 29 #[AA A1 n1 c1,AA A2 n2 c2,AA A3 n3 c3,AA A4 n4 c4,AA A5 n5 c5,AA A6 n6 c6]:=by rw [hwb];exact (AZ.new _ _ _).alloc _
 have kB:AZ wb (w.heap.size+1) 126 #[AA A1 n1 c1,AA A2 n2 c2,AA A3 n3 c3,AA A4 n4 c4,AA A5 n5 c5,AA A6 n6 c6]:=by rw [hwb];exact EJ Ac
 obtain ⟨ga,hga⟩:=Ab w.heap.size;obtain ⟨gb,hgb⟩:=Ab (w.heap.size+1);rw [<-hgb] at kB ⊢;rw [<-hga] at kA ⊢;have la:=kA.lt;have lb:=kB.lt;obtain ⟨HA,HB,BV⟩:=Az kA kB hbb;have HB0:AI (AJ wb wb):=AF (Af _ _);clear kA kB hbb hwb hga hgb;have a0:=(HA.o.below HB0.o la).cell 0;have b0:=(HB.o.below HB0.o lb).cell 0;have a1:=(HA.o.below HB0.o la).cell 1;have b1:=(HB.o.below HB0.o lb).cell 1;have a2:=(HA.o.below HB0.o la).cell 2;have b2:=(HB.o.below HB0.o lb).cell 2;have a3:=(HA.o.below HB0.o la).cell 3;have b3:=(HB.o.below HB0.o lb).cell 3;have a4:=(HA.o.below HB0.o la).cell 4;have b4:=(HB.o.below HB0.o lb).cell 4;have a5:=(HA.o.below HB0.o la).cell 5;have b5:=(HB.o.below HB0.o lb).cell 5;simp only [Ai,An,Aw] at a0 b0 a1 b1 a2 b2 a3 b3 a4 b4 a5 b5;have HC:AI (AS prog 94 #[(AO #[AA A1 n1 c1,AA A2 n2 c2,AA A3 n3 c3,AA A4 n4 c4,AA A5 n5 c5,AA A6 n6 c6])] wb fun e w'=>e=AV (AX vl)/\AJ wb w'):=AF (by have:=ro A1 A2 A3 A4 A5 A6 n1 c1 n2 c2 n3 c3 n4 c4 n5 c5 n6 c6 s wb VE.o Zo.o LJ.o HN4.o Wb.o (H6.o.mono BN BV.o);rw [VB.o] at this;exact this)
 go_wp2_with (go_at_call 94;refine HC.o.mono ?_;clear HC);rintro e w1 ⟨rfl,hb1⟩;have HB1:=AF hb1;clear hb1 a0 b0 a1 b1 a2 b2 a3 b3 a4 b4 a5 b5;cases vl with
 |
  false=>
  go_wp2;go_ret;exact ⟨C8 (vg VB.o).symm,(AW BV.o HB1.o)⟩
 |
  true=>
  have a0:=(HA.o.below HB1.o la).cell 0;have b0:=(HB.o.below HB1.o lb).cell 0;have a1:=(HA.o.below HB1.o la).cell 1;have b1:=(HB.o.below HB1.o lb).cell 1;have a2:=(HA.o.below HB1.o la).cell 2;have b2:=(HB.o.below HB1.o lb).cell 2;have a3:=(HA.o.below HB1.o la).cell 3;have b3:=(HB.o.below HB1.o lb).cell 3;have a4:=(HA.o.below HB1.o la).cell 4;have b4:=(HB.o.below HB1.o lb).cell 4;have a5:=(HA.o.below HB1.o la).cell 5;have b5:=(HB.o.below HB1.o lb).cell 5;simp only [Ai,An,Aw] at a0 b0 a1 b1 a2 b2 a3 b3 a4 b4 a5 b5;have hmf:=HMF.o;obtain ⟨v1,hv1⟩:=BH (s.units.all (MU s.units));have HE0:=AF hv1;have HC:AI (AS prog 97 #[AA A2 n2 c2,.func (.func 98) #[(AO #[AA A1 n1 c1,AA A2 n2 c2,AA A3 n3 c3,AA A4 n4 c4,AA A5 n5 c5,AA A6 n6 c6])] #[]] w1 fun e w'=>e=AV (AX v1)/\AJ w1 w'):=AF (by
   have:=sK A2 n2 c2 s.units (MU s.units) w1 (AO #[AA A1 n1 c1,AA A2 n2 c2,AA A3 n3 c3,AA A4 n4 c4,AA A5 n5 c5,AA A6 n6 c6]) (H2.o.mono Bn (AW BV.o HB1.o)) (fun W cs x hW hx hR=>by obtain rfl:=hR;exact vd A1 A2 A3 A4 A5 A6 n1 c1 n2 c2 n3 c3 n4 c4 n5 c5 n6 c6 x s.units W (H2.o.mono Bn ((AW BV.o HB1.o).trans (hW.mono (AW BV.o HB1.o).size))))
   rw [hv1] at this;exact this)
  clear hv1;go_wp2_with (go_at_call 97;refine HC.o.mono ?_;clear HC);rintro e w2 ⟨rfl,hb2⟩;have HB2:=AF (AW HB1.o hb2);clear hb2 a0 b0 a1 b1 a2 b2 a3 b3 a4 b4 a5 b5;cases v1 with
  |
   false=>
   go_wp2;go_ret;exact ⟨C8 (ACX VB.o HE0.o).symm,(AW BV.o HB2.o)⟩
  |
   true=>
   have a0:=(HA.o.below HB2.o la).cell 0;have b0:=(HB.o.below HB2.o lb).cell 0;have a1:=(HA.o.below HB2.o la).cell 1;have b1:=(HB.o.below HB2.o lb).cell 1;have a2:=(HA.o.below HB2.o la).cell 2;have b2:=(HB.o.below HB2.o lb).cell 2;have a3:=(HA.o.below HB2.o la).cell 3;have b3:=(HB.o.below HB2.o lb).cell 3;have a4:=(HA.o.below HB2.o la).cell 4;have b4:=(HB.o.below HB2.o lb).cell 4;have a5:=(HA.o.below HB2.o la).cell 5;have b5:=(HB.o.below HB2.o lb).cell 5;simp only [Ai,An,Aw] at a0 b0 a1 b1 a2 b2 a3 b3 a4 b4 a5 b5;obtain ⟨v2,hv2⟩:=BH (s.Ap.all (Dn s.Bl.length s.units.length));have qs:=AF hv2;have HC:AI (AS prog 99 #[AA A3 n3 c3,.func (.func 100) #[(AO #[AA A1 n1 c1,AA A2 n2 c2,AA A3 n3 c3,AA A4 n4 c4,AA A5 n5 c5,AA A6 n6 c6])] #[]] w2 fun e w'=>e=AV (AX v2)/\AJ w2 w'):=AF (by
    have:=lh A3 n3 c3 s.Ap (Dn s.Bl.length s.units.length) w2 (AO #[AA A1 n1 c1,AA A2 n2 c2,AA A3 n3 c3,AA A4 n4 c4,AA A5 n5 c5,AA A6 n6 c6]) (H3.o.mono BM (AW BV.o HB2.o)) (fun W cs x hW hx hR=>by obtain ⟨fA,nf,cf,dA,nd,cd,rfl,g1,g2⟩:=hR;rw [<-VE.o,<-Zo.o];exact nW A1 A2 A3 A4 A5 A6 n1 c1 n2 c2 n3 c3 n4 c4 n5 c5 n6 c6 x fA dA nf cf nd cd W o1 o2 g1.1)
    rw [hv2] at this;exact this)
   clear hv2;go_wp2_with (go_at_call 99;refine HC.o.mono ?_;clear HC);rintro e w3 ⟨rfl,hb3⟩;have HB3:=AF (AW HB2.o hb3);clear hb3 a0 b0 a1 b1 a2 b2 a3 b3 a4 b4 a5 b5;cases v2 with
   |
    false=>
    go_wp2;go_ret;exact ⟨C8 (ACY VB.o HE0.o qs.o).symm,(AW BV.o HB3.o)⟩
   |
    true=>
    have a0:=(HA.o.below HB3.o la).cell 0;have b0:=(HB.o.below HB3.o lb).cell 0;have a1:=(HA.o.below HB3.o la).cell 1;have b1:=(HB.o.below HB3.o lb).cell 1;have a2:=(HA.o.below HB3.o la).cell 2;have b2:=(HB.o.below HB3.o lb).cell 2;have a3:=(HA.o.below HB3.o la).cell 3;have b3:=(HB.o.below HB3.o lb).cell 3;have a4:=(HA.o.below HB3.o la).cell 4;have b4:=(HB.o.below HB3.o lb).cell 4;have a5:=(HA.o.below HB3.o la).cell 5;have b5:=(HB.o.below HB3.o lb).cell 5;simp only [Ai,An,Aw] at a0 b0 a1 b1 a2 b2 a3 b3 a4 b4 a5 b5;obtain ⟨v3,hv3⟩:=BH (s.rules.all (I0 s.units s.Ap));have HE2:=AF hv3;have HC:AI (AS prog 101 #[AA A4 n4 c4,.func (.func 95) #[] #[AU (some ⟨gb,0,none⟩)]] w3 fun e w'=>e=AV (AX v3)/\AJ w3 w'):=AF (by have:=sL A4 n4 c4 s.rules (I0 s.units s.Ap) w3 ⟨gb,0,none⟩ (H4.o.mono Bh (AW BV.o HB3.o)) (HR.o qs.o w3 gb (AW BV.o HB3.o) (HB.o.below HB3.o lb));rw [hv3] at this;exact this)
    clear hv3;go_wp2_with (go_at_call 101;refine HC.o.mono ?_;clear HC);rintro e w4 ⟨rfl,hb4⟩;have HB4:=AF (AW HB3.o hb4);clear hb4 a0 b0 a1 b1 a2 b2 a3 b3 a4 b4 a5 b5;cases v3 with
    |
     false=>
     go_wp2;go_ret;exact ⟨C8 (ACZ VB.o HE0.o qs.o HE2.o).symm,(AW BV.o HB4.o)⟩
    |
     true=>
     have a0:=(HA.o.below HB4.o la).cell 0;have b0:=(HB.o.below HB4.o lb).cell 0;have a1:=(HA.o.below HB4.o la).cell 1;have b1:=(HB.o.below HB4.o lb).cell 1;have a2:=(HA.o.below HB4.o la).cell 2;have b2:=(HB.o.below HB4.o lb).cell 2;have a3:=(HA.o.below HB4.o la).cell 3;have b3:=(HB.o.below HB4.o lb).cell 3;have a4:=(HA.o.below HB4.o la).cell 4;have b4:=(HB.o.below HB4.o lb).cell 4;have a5:=(HA.o.below HB4.o la).cell 5;have b5:=(HB.o.below HB4.o lb).cell 5;simp only [Ai,An,Aw] at a0 b0 a1 b1 a2 b2 a3 b3 a4 b4 a5 b5;obtain ⟨v4,hv4⟩:=BH (s.purposes.all (Fa s.Ap));have HE3:=AF hv4;have HC:AI (AS prog 102 #[AA A6 n6 c6,.func (.func 103) #[(AO #[AA A1 n1 c1,AA A2 n2 c2,AA A3 n3 c3,AA A4 n4 c4,AA A5 n5 c5,AA A6 n6 c6])] #[]] w4 fun e w'=>e=AV (AX v4)/\AJ w4 w'):=AF (by have:=iJ A6 n6 c6 s.purposes (Fa s.Ap) w4 (AO #[AA A1 n1 c1,AA A2 n2 c2,AA A3 n3 c3,AA A4 n4 c4,AA A5 n5 c5,AA A6 n6 c6]) (H6.o.mono BN (AW BV.o HB4.o)) (HP.o w4 (AW BV.o HB4.o));rw [hv4] at this;exact this)
     clear hv4;go_wp2_with (go_at_call 102;refine HC.o.mono ?_;clear HC);rintro e w5 ⟨rfl,hb5⟩;have CW:=AF (AW HB4.o hb5);clear hb5 a0 b0 a1 b1 a2 b2 a3 b3 a4 b4 a5 b5;cases v4 with
     |
      false=>
      go_wp2;go_ret;exact ⟨C8 (ACa VB.o HE0.o qs.o HE2.o HE3.o).symm,(AW BV.o CW.o)⟩
     |
      true=>
      go_wp2;go_ret;exact ⟨C8 (AAx VB.o HE0.o qs.o HE2.o HE3.o).symm,(AW BV.o CW.o)⟩
def Gq (l:AP) (x:Int):AP:=if x∈l then l else l++[x]
def wS (l:AP) (r:Ck):AP:=(r.froms.map fun f=>f.schema).foldl Gq l
def Bj (rs:List Ck) (x:Int):AP:=rs.foldl (fun l r=>if r.schema=x then wS l r else l) []
def Bf (rs:List Ck) (k:Nat) (x:Int):AP:=((List.range k).map Int.ofNat).filter fun h=>decide (x∈Bj rs h)
def I6 (l:AP) (i j:Nat):AP:=(l.set i (l.getD j 0)).set j (l.getD i 0)
theorem FF (l:AP) (i j:Nat):(I6 l i j).length=l.length:=by simp [I6]
def QW (l:AP) (j:Nat):AP:=
 if h:0 < j/\l.getD j 0 < l.getD ((j - 1) / 2) 0 then QW (I6 l ((j - 1) / 2) j) ((j - 1) / 2) else l
termination_by j
decreasing_by omega
theorem vZ:∀(j:Nat) (l:AP),(QW l j).length=l.length:=by
 intro j
 induction j using Nat.strongRecOn with
 |
  _ j ih=>
  intro l;unfold QW;split
  · next h=>rw [ih _ AG,FF]
  · rfl
def Nt (l:AP) (x:Int):AP:=QW (l++[x]) l.length
theorem XU (l:AP) (x:Int):(Nt l x).length=l.length+1:=by simp [Nt,vZ]
def LD (l:AP) (i n:Nat):Nat:=if 2*i+2 < n/\l.getD (2*i+2) 0 < l.getD (2*i+1) 0 then 2*i+2 else 2*i+1
theorem Xj {l:AP} {i n:Nat} (h:2*i+1 < n):LD l i n < n:=by unfold LD;split <;> omega
theorem Xk (l:AP) (i n:Nat):i < LD l i n:=by unfold LD;split <;> omega
def FS (l:AP) (i n:Nat):AP:=
 if _h:2*i+1 < n/\l.getD (LD l i n) 0 < l.getD i 0 then FS (I6 l i (LD l i n)) (LD l i n) n else l
termination_by n - i
decreasing_by
 have:=Xj (l:=l) _h.1;have:=Xk l i n;omega
theorem po (n:Nat):∀(k i:Nat) (l:AP),n - i<=k->(FS l i n).length=l.length:=by
 intro k
 induction k with
 |
  zero=>
  intro i l h;unfold FS;split
  · next h'=>omega
  · rfl
 |
  succ k ih=>
  intro i l h;unfold FS;split
  ·next h'=>have:=Xj (l:=l) h'.1;have:=Xk l i n;rw [ih _ _ AG,FF]
  · rfl
def MX (l:AP):AP:=FS (I6 l 0 (l.length - 1)) 0 (l.length - 1)
theorem QL (l:AP):(MX l).length=l.length:=by rw [MX,po _ _ _ _ (Ad _),FF]
def Nw (st:AP×AP) (u:Int):AP×AP:=
 let o:=st.1.set u.toNat (st.1.getD u.toNat 0 - 1)
 (o,if o.getD u.toNat 0=0 then Nt st.2 u else st.2)
def Kz (us:Nat->AP):Nat->AP->AP->AP
 | 0,_,_=>[]
 |
  fuel+1,o,h=>
  if h.length=0 then []
  else
   let p:=MX h
   let x:=p.getD (h.length - 1) 0
   let st:=(us x.toNat).foldl Nw (o,p.take (h.length - 1))
   x::Kz us fuel st.1 st.2
def Eu (rs:List Ck) (k:Nat):AP:=(List.range k).foldl (fun h (x:Nat)=>if (Bj rs x).length=0 then Nt h x else h) []
def Cr (rs:List Ck) (n:Nat):AP:=
 Kz (fun (x:Nat)=>Bf rs n x) (n+1) ((List.range n).map fun (x:Nat)=>((Bj rs x).length:Int)) (Eu rs n)
open Go.MapKept (heap_set heap_alloc)
theorem rU (l:AP) (x:Int):Ha (Ev l) x true=Ev (Gq l x):=by
 unfold Gq;split
 ·next h=>
  induction l with
  | nil=>simp at h
  |
   cons y l ih=>
   simp only [Ev,Fi];rw [Ha];by_cases e:x=y
   · subst e;rw [Am rfl]
   have h2:x∈l:=by simpa [e] using h
   rw [Ah e];have:=ih h2;simp only [Ev] at this;rw [this]
 · next h=>exact XT l x h
theorem Vs {κ ν:Type} [DecidableEq κ] {m:List (κ×ν)} {k:κ} {v:ν} (h:getM m k=some v):(k,v)∈m:=by
 induction m with
 | nil=>simp [P7] at h
 |
  cons p m ih=>
  rw [OV] at h;by_cases e:k=p.1
  ·rw [Am e] at h
   injection h with h;subst h;subst e;exact OI
  rw [Ah e] at h;exact Mx _ (ih h)
theorem getM_none {κ ν:Type} [DecidableEq κ] {m:List (κ×ν)} {k:κ}:getM m k=none↔k∉m.map (·.1):=by
 induction m with
 | nil=>simp [P7]
 |
  cons p m ih=>
  rw [OV];by_cases e:k=p.1
  · simp [e]
  rw [Ah e,ih];simp [e]
theorem AC0 {κ ν:Type} [DecidableEq κ] {m:List (κ×ν)} {k:κ} {v:ν} (h:k∉m.map (·.1)):Ha m k v=m++[(k,v)]:=by
 induction m with
 | nil=>rfl
 |
  cons p m ih=>
  have h1:¬k=p.1:=fun e=>h (by simp [e]);have h2:k∉m.map (·.1):=fun e=>h (by simp at e;simp [e]);rw [Ha,Ah h1,ih h2];rfl
theorem Tp {f:MapEntry->MapEntry} (hf:∀e,(f e).born=e.born):∀(l:List MapEntry) (j:Nat),(l.modify j f).map (·.born)=l.map (·.born)
 | [],j=>by simp
 | e::l,0=>by simp [hf]
 | e::l,j+1=>by simp [Tp hf l j]
section
variable {κ ν:Type} [DecidableEq κ] {P:Program} {kt et t:Ae} {ek:κ->AK} {ev:ν->AK} {w w':AH} {b:Nat} {m:List (κ×ν)}
def Kg (ek:κ->AK) (ev:ν->AK) (w:AH) (b:Nat) (m:List (κ×ν)):Prop:=
 ∃es clock,w.heap[b]? =some (.map es clock)/\es.toList.map (fun e=>(e.key,e.val))=m.map (fun p=>(ek p.1,ev p.2))/\(es.toList.map (·.born)).Nodup/\∀x∈es.toList,x.born < clock
omit [DecidableEq κ] in
theorem Kg.at_ (h:Kg ek ev w b m):MapAt ek ev w b m:=by obtain ⟨es,clock,h1,h2,_⟩:=h;exact ⟨es,clock,h1,h2⟩
omit [DecidableEq κ] in
theorem Kg.lt (h:Kg ek ev w b m):b < w.heap.size:=h.at_.lt
omit [DecidableEq κ] in
theorem Kg.same (h:Kg ek ev w b m) (hb:w'.heap[b]? =w.heap[b]?):Kg ek ev w' b m:=by obtain ⟨es,clock,h1,h2⟩:=h;exact ⟨es,clock,hb.trans h1,h2⟩
omit [DecidableEq κ] in
theorem Kg.grown {row:Option Nat} (h:Kg ek ev w b m) (hg:w.grownBy w' row) (hne:some b≠row):Kg ek ev w' b m:=h.same (hg.block b h.lt hne)
omit [DecidableEq κ] in
theorem Kg.new (ek:κ->AK) (ev:ν->AK) (w:AH):Kg ek ev (w.alloc (.map #[] 0)) w.heap.size []:=⟨#[],0,(heap_alloc w _).1,rfl,by simp,by simp⟩
theorem nZ (K:TS P kt ek) (ht:P.underlying t=some (.map kt et)) (h:Kg ek ev w b m) (k:κ) (v:ν):
 ∃w',(Instr.mapUpdate t (.map (some b)) (ek k) (ev v)).run P w=.ok () w'/\Kg ek ev w' b (Ha m k v)/\w.grownBy w' (some b):=by
 have hlt:=h.lt;obtain ⟨es,clock,hb,hes,hnd,hold⟩:=h;have hgrow:∀o:Obj,w.grownBy {w with heap:=w.heap.setIfInBounds b o} (some b):=fun o=>
  ⟨rfl,rfl,rfl,by simp,fun i _ hne=>(heap_set hb).2 i (fun e=>hne M1)⟩
 unfold Instr.mapUpdate;simp only [Cs,UV ht,Result.andThen_ok,eP hb,K.ck,Xy (ev:=ev) K k w _ m hes];cases hl:I7 m k 0 with
 |
  none=>
  refine ⟨_,Yp _ hb,⟨_,_,(heap_set hb).1,?_,?_,?_⟩,hgrow _⟩
  ·rw [jD k v m 0 hl]
   simp [hes]
  ·simp only [Array.toList_push,DM,Fi,OD]
   refine Yg.2 ⟨hnd,by simp,fun a ha c hc e=> ?_⟩;simp only [Fk] at hc;subst hc;subst e;obtain ⟨x,hx,he⟩:=Df.1 ha;have:=hold x hx;omega
  ·intro x hx
   simp only [Array.toList_push,Jq,Fk] at hx;rcases hx with hx | rfl
   ·have:=hold x hx
    omega
   · simp
 |
  some q=>
  obtain ⟨j,x⟩:=q;obtain ⟨_,⟨e,he,hek⟩,h3⟩:=Xi ek ev k v es.toList m 0 j x hes hl;simp only [Nat.sub_zero] at he h3;have he':es[j]? =some e:=by simpa using he
  simp only [Cu,he',Ce,hek];unfold Instr.keyThatStays;rw [K.sb,Am rfl];simp only [Cs,DL,Result.andThen_ok];refine ⟨_,Yp _ hb,⟨_,_,(heap_set hb).1,?_,?_,?_⟩,hgrow _⟩
  · simpa using h3
  ·rw [Array.toList_modify]
   rw [Tp (f:=fun e=>{key:=ek k,val:=ev v,born:=e.born}) (fun _=>rfl)];exact hnd
  intro y hy;rw [Array.toList_modify] at hy;have hm:y.born∈(es.toList.modify j fun e=>{key:=ek k,val:=ev v,born:=e.born}).map (·.born):=Yk hy;rw [Tp (f:=fun e=>{key:=ek k,val:=ev v,born:=e.born}) (fun _=>rfl)] at hm;obtain ⟨z,hz,hzb⟩:=Df.1 hm;rw [<-hzb];exact hold z hz
end
theorem Qd {α β:Type} {f:α->β}:∀{l:List α},(l.map f).Nodup->∀{a b:α},a∈l->b∈l->f a=f b->a=b
 | [],_,_,_,h,_,_=>by simp at h
 |
  c::l,h,a,b,ha,hb,e=>by
  simp only [Fi,RU,Df,not_exists,not_and] at h;rcases CO.1 ha with rfl | ha'
  ·rcases CO.1 hb with rfl | hb'
   · rfl
   · exact absurd e.symm (h.1 b hb')
  rcases CO.1 hb with rfl | hb'
  · exact absurd e (h.1 a ha')
  · exact Qd h.2 ha' hb' e
structure FX (w:AH) (base M:Nat) (hs:List (Int×Nat)) (f:Int->AP):Prop where
 o:MapAt (Value.int .i64) (fun b:Nat=>Value.map (some b)) w M hs
 ge:base<=M
 keys:(hs.map (·.1)).Nodup
 vals:(hs.map (·.2)).Nodup
 ins:∀p∈hs,base<=p.2/\p.2≠M/\Kg (Value.int .i64) Value.bool w p.2 (Ev (f p.1))
 rest:∀x,x∉hs.map (·.1)->f x=[]
theorem Rm {κ ν:Type} {w:AH} {g:Nat} {t:Ae} {cs:Array AK} {ev:ν->AK} {ek:κ->AK} {m:List (κ×ν)} (h:AZ w g t cs) (k:MapAt ek ev w g m):False:=by obtain ⟨es,clock,h2,_⟩:=k;rw [show w.heap[g]? =some (AQ cs t (0,0)) from h] at h2;injection h2 with h2;cases h2
theorem FX.below {w w':AH} {base M:Nat} {hs:List (Int×Nat)} {f:Int->AP} (h:FX w base M hs f) (hb:AJ w w'):FX w' base M hs f:=
 ⟨h.o.same (hb.block _ h.o.lt),h.ge,h.keys,h.vals,fun p hp=>⟨(h.ins p hp).1,(h.ins p hp).2.1,(h.ins p hp).2.2.same (hb.block _ (h.ins p hp).2.2.lt)⟩,h.rest⟩
theorem FX.kept {w w':AH} {base M:Nat} {hs:List (Int×Nat)} {f:Int->AP} (h:FX w base M hs f) (hb:∀b,(b=M\/b∈hs.map (·.2))->w'.heap[b]? =w.heap[b]?):FX w' base M hs f:=
 ⟨h.o.same (hb _ (.inl rfl)),h.ge,h.keys,h.vals,fun p hp=>⟨(h.ins p hp).1,(h.ins p hp).2.1,(h.ins p hp).2.2.same (hb _ (.inr (Yk hp)))⟩,h.rest⟩
theorem FX.add {w w':AH} {base M g:Nat} {hs:List (Int×Nat)} {f:Int->AP} {x:Int} (h:FX w base M hs f) (hx:x∉hs.map (·.1)) (hg:Kg (Value.int .i64) Value.bool w g ([]:List (Int×Bool))) (hgb:base<=g) (hgM:g≠M) (hgs:g∉hs.map (·.2))
 (hm:MapAt (Value.int .i64) (fun b:Nat=>Value.map (some b)) w' M (Ha hs x g)) (hgr:w.grownBy w' (some M)):FX w' base M (hs++[(x,g)]) f:=by
 rw [AC0 hx] at hm;refine ⟨hm,h.ge,?_,?_,?_,?_⟩
 ·rw [DM]
  exact Yg.2 ⟨h.keys,by simp,fun a ha b hb e=>by simp at hb;subst hb;subst e;exact hx ha⟩
 ·rw [DM]
  exact Yg.2 ⟨h.vals,by simp,fun a ha b hb e=>by simp at hb;subst hb;subst e;exact hgs ha⟩
 ·intro p hp
  rcases Jq.1 hp with hp | hp
  ·obtain ⟨h1,h2,h3⟩:=h.ins p hp
   exact ⟨h1,h2,h3.grown hgr (fun e=>h2 (by injection e))⟩
  simp only [Fk] at hp;subst hp;refine ⟨hgb,hgM,?_⟩;show Kg _ _ w' g (Ev (f x));rw [h.rest x hx];exact hg.grown hgr (fun e=>hgM (by injection e))
 intro y hy;exact h.rest y (fun e=>hy (by rw [DM];exact Rc _ e))
theorem FX.insert {w w':AH} {base M b:Nat} {hs:List (Int×Nat)} {f:Int->AP} {x y:Int} (h:FX w base M hs f) (hx:(x,b)∈hs)
 (hm:Kg (Value.int .i64) Value.bool w' b (Ha (Ev (f x)) y true)) (hgr:w.grownBy w' (some b)):FX w' base M hs (fun z=>if z=x then Gq (f x) y else f z):=by
 obtain ⟨h1,h2,h3⟩:=h.ins _ hx;rw [rU] at hm;refine ⟨h.o.grown hgr (fun e=>h2 (by injection e with e;exact e.symm)),h.ge,h.keys,h.vals,?_,?_⟩
 ·intro p hp
  obtain ⟨k1,k2,k3⟩:=h.ins p hp;refine ⟨k1,k2,?_⟩;by_cases e:p.1=x
  ·have:p=(x,b):=Qd h.keys hp hx e
   subst this;simp only [Ct];exact hm
  have hne:p.2≠b:=by intro e2;have:p=(x,b):=Qd h.vals hp hx e2;exact e (by rw [this])
  rw [Ah e];exact k3.grown hgr (fun e2=>hne (by injection e2))
 intro z hz;have hzx:z≠x:=fun e=>hz (by subst e;exact Yk (f:=(·.1)) hx);simp only [Ah hzx];exact h.rest z hz
theorem jW (m:Option Nat) (w:AH):(binOp .eql 201 (.map m) (.map none)).run prog w=.ok (AX m.isNone) w:=by simp only [binOp];simp [run_equal_map_nil w 201 _ _ m underlying201]
theorem Xa (n x:Int) (m:AK) (w:AH):AS prog 171 #[AO #[AB AE n,m],AB AE x] w fun e w'=>e=AV (AX (decide (0<=x) && decide (x < n)))/\AJ w w':=by
 go_enter func171,ntmps171;go_wp2_with fail
 all_goals
  go_ret;refine ⟨A8 ?_,(BP _ _)⟩
  first
   | (simp_all;done)
   | (simp_all;omega)
theorem ACy (rs:List Ck) (w:AH) (h4:Ag 5 CM w (AA A4 n4 c4) rs) (hnum:∀r∈rs,(0<=r.schema/\r.schema < n3)/\∀f∈r.froms,0<=f.schema/\f.schema < n3):
 AS prog 108 #[(AO #[AA A1 n1 c1,AA A2 n2 c2,AA A3 n3 c3,AA A4 n4 c4,AA A5 n5 c5,AA A6 n6 c6])] w fun e w'=>∃M hs,e=AV (.tuple #[AO #[AB AE n3,.map (some M)],AB AE 0])/\FX w' w.heap.size M hs (Bj rs)/\AJ w w':=by
 have hn4:n4<=9223372036854775807:=by have:=h4.le;omega
 obtain ⟨HL,H4,QE⟩:=Az h4.len h4 hnum;clear h4 hnum;have hmm:∀(w:AH),(Instr.makeMap 204 none).run prog w=.ok (.map (some w.heap.size)) (w.alloc (.map #[] 0)):=by intro w;simp [Instr.makeMap]
 have jO:∀(w:AH),(Instr.makeMap 201 none).run prog w=.ok (.map (some w.heap.size)) (w.alloc (.map #[] 0)):=by intro w;simp [Instr.makeMap]
 have ju:=AF jO;clear jO;go_enter func108,ntmps108;go_upto_region 2 with fail;obtain ⟨wb,hwb⟩:=Ab (((w.alloc (AQ #[AA A1 n1 c1,AA A2 n2 c2,AA A3 n3 c3,AA A4 n4 c4,AA A5 n5 c5,AA A6 n6 c6] 29)).alloc (AQ #[AB AE n3,.map (some (w.heap.size+1+1))] 206)).alloc (.map #[] 0));rw [<-hwb];have hbb:AJ w wb:=by rw [hwb];exact vQ
 have kA:AZ wb w.heap.size 29 #[AA A1 n1 c1,AA A2 n2 c2,AA A3 n3 c3,AA A4 n4 c4,AA A5 n5 c5,AA A6 n6 c6]:=by rw [hwb];exact bI
 have kB:AZ wb (w.heap.size+1) 206 #[AB AE n3,.map (some (w.heap.size+1+1))]:=by rw [hwb];exact li
 have kM:MapAt (Value.int .i64) (fun b:Nat=>Value.map (some b)) wb (w.heap.size+1+1) []:=by rw [hwb];have:=MapAt.new (Value.int .i64) (fun b:Nat=>Value.map (some b)) ((w.alloc (AQ #[AA A1 n1 c1,AA A2 n2 c2,AA A3 n3 c3,AA A4 n4 c4,AA A5 n5 c5,AA A6 n6 c6] 29)).alloc (AQ #[AB AE n3,.map (some (w.heap.size+1+1))] 206));simpa using this
 obtain ⟨M,hM⟩:=Ab (w.heap.size+1+1);have AEE:w.heap.size<=M:=AG
 rw [<-hM] at kB kM ⊢;obtain ⟨gb,hgb⟩:=Ab (w.heap.size+1);rw [<-hgb] at kB ⊢;obtain ⟨ga,hga⟩:=Ab w.heap.size;have hG0:FX wb w.heap.size M [] (Bj []):=⟨kM,AEE,by simp,by simp,fun p hp=>by simp at hp,fun x _=>rfl⟩;rw [<-hga] at kA;have a3:=kA.cell 3;simp only [Ai,An,Aw] at a3;have la:=kA.lt;obtain ⟨BV,HKB,HG0,Zq⟩:=CJ hbb kB hG0 AEE;have Tc:AI (w.heap.size<=gb):=AF AG;rw [hga] at a3 la;clear hwb hbb kA kB kM hM hgb hga hG0 hmm AEE;go_wp2_with fail;clear a3;go_loopg [16] n4 (fun q i wr=>∃k:Nat,∃hs:List (Int×Nat),k<=n4/\q=n4 - k/\i=AB AE k/\FX wr w.heap.size M hs (Bj (rs.take k))/\AZ wr gb 206 #[AB AE n3,.map (some M)]/\AJ w wr)
 case atStart=>exact ⟨0,[],Ar _,rfl,rfl,HG0.o,HKB.o,BV.o⟩
 clear HG0 HKB BV;obtain ⟨k,hs,hk,hq,rfl,hg,hkb,hb⟩:=hrel;obtain ⟨HQ,HB,HG,HK⟩:=CJ hq hb hg hkb;clear hq hb hg hkb;by_cases hlt:k < n4
 case neg=>
  have HF:AI (Bj (rs.take k)=Bj rs):=AF (by rw [Cy (by have:=HL.o;omega)]);have b0:=HK.o.cell 0;have b1:=HK.o.cell 1;have f0:=HK.o.frozen 0;have f1:=HK.o.frozen 1;have lb:=HK.o.lt;simp only [Ai,An,Aw] at b0 b1;go_wp2_with fail;have kE:AZ ((wr.setCell ⟨gb,0,none⟩ (AB AE n3)).setCell ⟨gb,1,none⟩ (.map (some M))) gb 206 #[AB AE n3,.map (some M)]:=(HK.o.put 0 (AB AE n3)).put 1 (.map (some M));have x0:=kE.cell 0;have x1:=kE.cell 1;simp only [Ai,An,Aw] at x0 x1;refine E8 (v:=.tuple #[AO #[AB AE n3,.map (some M)],AB AE 0]) (by simp [results,results108,go_sem,x0,x1]) rfl ?_;have hG9:FX ((wr.setCell ⟨gb,0,none⟩ (AB AE n3)).setCell ⟨gb,1,none⟩ (.map (some M))) w.heap.size M hs (Bj rs):=by
   rw [<-HF.o];refine HG.o.kept (fun c hc=> ?_);have hne:c≠gb:=by
    rintro rfl;rcases hc with rfl | hc
    · exact Rm HK.o HG.o.o
    obtain ⟨p,hp,rfl⟩:=Df.1 hc;exact Rm HK.o (HG.o.ins p hp).2.2.at_
   exact (EB _ _ _ c hne).trans (EB _ _ _ c hne)
  refine ⟨M,hs,rfl,hG9,?_⟩;have hgw:wr.grownBy ((wr.setCell ⟨gb,0,none⟩ (AB AE n3)).setCell ⟨gb,1,none⟩ (.map (some M))) (some gb):=OT (OT ⟨rfl,rfl,rfl,Ad _,fun _ _ _=>rfl⟩ _ _) _ _;exact HB.o.grown hgw HB.o.size (fun r e=>by cases e;exact Tc.o)
 obtain ⟨b,off,x,B1,m1,d1,B2,m2,d2,B3,m3,d3,rfl,hbl,hx,e0,e1,e2,e3,e4,g1,g2,g3⟩:=Pw H4.o hlt;rw [<-HB.o.cell (p:=⟨b,_,none⟩) hbl] at e0 e1 e2 e3 e4;have hbl:b < wr.heap.size:=Ay hbl HB.o.size;have hxm:=QE.o x (Ci hx);obtain ⟨HX,HXM,G1⟩:=Az hx hxm g1.1;have hm1:m1<=9223372036854775807:=by have:=g1.1.le;omega
 have hkn:(k:Int) < (n4:Int):=AG
 have hk0:=Int.natCast_nonneg k
 have b0:=HK.o.cell 0;have b1:=HK.o.cell 1;have lb:=HK.o.lt;simp only [Ai,An,Aw] at b0 b1;clear hx hxm g1 g2 g3;have HC:AI (∀W,AS prog 171 #[AO #[AB AE n3,.map (some M)],AB AE x.schema] W fun e w'=>e=AV (AX true)/\AJ W w'):=AF (fun W=>by have:=Xa n3 x.schema (.map (some M)) W;rw [Bg HXM.o.1.1,Bg HXM.o.1.2] at this;exact this)
 go_upto_region 5 with fail;clear e0 e1 e2 e3 e4;obtain ⟨w1,hw1⟩:=Ab (wr.alloc (AQ #[AN x.head,AB AE x.schema,AA B1 m1 d1,AA B2 m2 d2,AA B3 m3 d3] 151));obtain ⟨gr,hgr⟩:=Ab wr.heap.size;have kR:AZ w1 gr 151 #[AN x.head,AB AE x.schema,AA B1 m1 d1,AA B2 m2 d2,AA B3 m3 d3]:=by rw [hw1,hgr];exact AZ.new _ _ _
 have hb1:AJ wr w1:=by rw [hw1];exact bF
 rw [<-hw1,<-hgr];clear hw1 hgr;have c1r:=kR.cell 1;have c2r:=kR.cell 2;have lr:=kR.lt;simp only [Ai,An,Aw] at c1r c2r;have b0:=(HK.o.below hb1 lb).cell 0;have b1:=(HK.o.below hb1 lb).cell 1;simp only [Ai,An,Aw] at b0 b1;obtain ⟨HR,HB1⟩:=Aj kR hb1;clear kR hb1;go_wp2_with (go_at_call 171;refine (HC.o w1).mono ?_)
 first | rintro e w2 rfl hb2 | rintro e w2 ⟨rfl,hb2⟩
 have HB2:AI (AJ wr w2):=AF (AW HB1.o hb2);have kR2:=HR.o.below hb2 lr;have lr2:=kR2.lt;have c1r:=kR2.cell 1;have c2r:=kR2.cell 2;have kB2:=HK.o.below HB2.o lb;have lb2:=kB2.lt;have b0:=kB2.cell 0;have b1:=kB2.cell 1;simp only [Ai,An,Aw] at c1r c2r b0 b1;obtain ⟨HR2,Jd,HG2⟩:=Az kR2 kB2 (HG.o.below HB2.o);have Ss:AI (AJ w w2):=AF (AW HB.o HB2.o);clear kR2 kB2 hb2 HR HC HB1;have hlook:=DH (IW underlying3) underlying204 (z:=.map none) AL HG2.o.o x.schema false;by_cases hin:x.schema∈hs.map (·.1)
 ·obtain ⟨hb,hhb⟩:∃hb,getM hs x.schema=some hb:=by
   cases h:getM hs x.schema with
   | none=>exact absurd hin (getM_none.1 h)
   | some v=>exact ⟨v,rfl⟩
  rw [hhb] at hlook;simp only [Cu,Ce,If,Hn] at hlook;have HHB:=AF hhb;clear hin hhb;have heq:=jW (some hb);go_upto_region 9 with fail;clear hlook;have AIn:AI (∃hb,getM hs x.schema=some hb):=AF ⟨hb,HHB.o⟩;have lrr:=HR2.o.lt;have cc2:=HR2.o.cell 2;simp only [Ai,An,Aw] at cc2;go_wp2_with fail;clear cc2;obtain ⟨wy,rfl⟩:=Ab wr;go_loopg [40] m1 (fun q i wr=>∃j:Nat,j<=m1/\q=m1 - j/\i=AB AE j/\FX wr w.heap.size M hs (fun z=>if z=x.schema then ((x.froms.take j).map fun f=>f.schema).foldl Gq (Bj (rs.take k) x.schema) else Bj (rs.take k) z)/\AZ wr gb 206 #[AB AE n3,.map (some M)]/\AZ wr gr 151 #[AN x.head,AB AE x.schema,AA B1 m1 d1,AA B2 m2 d2,AA B3 m3 d3]/\AJ w wr)
  case atStart=>
   refine ⟨0,Ar _,rfl,rfl,?_,Jd.o,HR2.o,Ss.o⟩;have he:(fun z=>if z=x.schema then ((x.froms.take 0).map fun f=>f.schema).foldl Gq (Bj (rs.take k) x.schema) else Bj (rs.take k) z)=Bj (rs.take k):=by
    funext z;by_cases e:z=x.schema
    · rw [Am e,e];rfl
    · rw [Ah e]
   rw [he];exact HG2.o
  obtain ⟨j,hj,hq,rfl,hg,hkb,hkr,hb⟩:=hrel;obtain ⟨eF,HB3,eM,YN,HR3⟩:=EG hq hb hg hkb hkr;clear hq hb hg hkb hkr;by_cases hlt2:j < m1
  case neg=>
   have HE:AI ((fun z=>if z=x.schema then ((x.froms.take j).map fun f=>f.schema).foldl Gq (Bj (rs.take k) x.schema) else Bj (rs.take k) z)=Bj (rs.take (k+1))):=AF (by
    rw [show x.froms.take j=x.froms from Cy (by have:=G1.o.len;omega),take_snoc HX.o];funext z;unfold Bj;rw [Rg];simp only [Ya,List.foldl_nil];by_cases e:z=x.schema
    · subst e;simp only [Ct];rfl
    · rw [Ah e,Ah (fun h=>e h.symm)])
   go_wp2;go_roundg (n4 - (k+1))
   case measure=>exact Bc
   case rel=>exact ⟨k+1,hs,by omega,rfl,by go_num,by rw [<-HE.o];exact eM.o,YN.o,HB3.o⟩
  exact AFS
 rw [getM_none.2 hin] at hlook;simp only [JJ,Jt,If,Hn] at hlook;have jO:=ju.o;have heq:=jW none;have hba:AJ w2 (w2.alloc (.map #[] 0)):=(Af _ _).alloc (Ad _) _;have Qh:=HG2.o.below hba;obtain ⟨w3,hrun3,EI,pH⟩:=FG (IW underlying3) underlying204 Qh.o x.schema w2.heap.size;have hlt2:∀q,q∈hs.map (·.2)->q < w2.heap.size:=fun q hq=>by obtain ⟨p,hp,rfl⟩:=Df.1 hq;exact (HG2.o.ins p hp).2.2.lt
 have hG3:=Qh.add hin (Kg.new _ _ w2) (BF Zq.o (Nat.le_of_lt HG2.o.o.lt)) (Nat.ne_of_gt HG2.o.o.lt) (fun h=>Nat.lt_irrefl _ (hlt2 _ h)) EI pH;obtain ⟨ALB,AK4,AE3⟩:=Az hG3 ((Jd.o.below hba lb2).grown pH (fun e=>by injection e with e;subst e;exact Rm (Jd.o.below hba lb2) Qh.o)) ((HR2.o.below hba lr2).grown pH (fun e=>by injection e with e;subst e;exact Rm (HR2.o.below hba lr2) Qh.o));have iZ:AI (AJ w w3):=AF ((AW Ss.o hba).grown pH (BF Ss.o.size hba.size) (fun r e=>by cases e;exact Zq.o));have AIn:AI (∃hb,getM (hs++[(x.schema,w2.heap.size)]) x.schema=some hb):=AF (by
  cases h:getM (hs++[(x.schema,w2.heap.size)]) x.schema with
  | none=>exact absurd Ac (getM_none.1 h)
  | some v=>exact ⟨v,rfl⟩)
 clear hba Qh EI pH hlt2 hG3 hin;go_upto_region 9 with fail;clear hlook hrun3 jO;have lrr:=AE3.o.lt;have cc2:=AE3.o.cell 2;simp only [Ai,An,Aw] at cc2;go_wp2_with fail;clear cc2;obtain ⟨wy,rfl⟩:=Ab wr;go_loopg [40] m1 (fun q i wr=>∃j:Nat,j<=m1/\q=m1 - j/\i=AB AE j/\FX wr w.heap.size M (hs++[(x.schema,w2.heap.size)]) (fun z=>if z=x.schema then ((x.froms.take j).map fun f=>f.schema).foldl Gq (Bj (rs.take k) x.schema) else Bj (rs.take k) z)/\AZ wr gb 206 #[AB AE n3,.map (some M)]/\AZ wr gr 151 #[AN x.head,AB AE x.schema,AA B1 m1 d1,AA B2 m2 d2,AA B3 m3 d3]/\AJ w wr)
 case atStart=>
  refine ⟨0,Ar _,rfl,rfl,?_,AK4.o,AE3.o,iZ.o⟩;have he:(fun z=>if z=x.schema then ((x.froms.take 0).map fun f=>f.schema).foldl Gq (Bj (rs.take k) x.schema) else Bj (rs.take k) z)=Bj (rs.take k):=by
   funext z;by_cases e:z=x.schema
   · rw [Am e,e];rfl
   · rw [Ah e]
  rw [he];exact ALB.o
 obtain ⟨j,hj,hq,rfl,hg,hkb,hkr,hb⟩:=hrel;obtain ⟨eF,HB3,eM,YN,HR3⟩:=EG hq hb hg hkb hkr;clear hq hb hg hkb hkr;by_cases hlt2:j < m1
 case neg=>
  have HE:AI ((fun z=>if z=x.schema then ((x.froms.take j).map fun f=>f.schema).foldl Gq (Bj (rs.take k) x.schema) else Bj (rs.take k) z)=Bj (rs.take (k+1))):=AF (by
   rw [show x.froms.take j=x.froms from Cy (by have:=G1.o.len;omega),take_snoc HX.o];funext z;unfold Bj;rw [Rg];simp only [Ya,List.foldl_nil];by_cases e:z=x.schema
   · subst e;simp only [Ct];rfl
   · rw [Ah e,Ah (fun h=>e h.symm)])
  go_wp2;go_roundg (n4 - (k+1))
  case measure=>exact Bc
  case rel=>exact ⟨k+1,(hs++[(x.schema,w2.heap.size)]),by omega,rfl,by go_num,by rw [<-HE.o];exact eM.o,YN.o,HB3.o⟩
 exact AFS
def BW {α:Type} [DecidableEq α] (a b:List α):Bool:=decide (a=b)
theorem FZ {α:Type} [DecidableEq α] {a b:List α} (h:¬a.length=b.length):BW a b=false:=by unfold BW;exact BO (fun e=>h M1)
theorem Z8 {α:Type} [DecidableEq α] {a b:List α} {k:Nat} {x y:α} {r:Bool} (ha:a[k]? =some x) (hb:b[k]? =some y) (h:BW (a.drop k) (b.drop k)=r) (e:x=y):BW (a.drop (k+1)) (b.drop (k+1))=r:=by rw [drop_cons ha,drop_cons hb] at h;subst e;simpa [BW] using h
theorem RJ {α:Type} [DecidableEq α] {a b:List α} {k:Nat} {x y:α} {r:Bool} (ha:a[k]? =some x) (hb:b[k]? =some y) (h:BW (a.drop k) (b.drop k)=r) (e:¬x=y):r=false:=by rw [drop_cons ha,drop_cons hb] at h;rw [<-h];simp [BW,e]
theorem AA7 {α:Type} [DecidableEq α] {a b:List α} {k:Nat} {r:Bool} (h:BW (a.drop k) (b.drop k)=r) (hl:a.length=b.length) (hk:a.length<=k):r=true:=by rw [EV hk,EV AG] at h;rw [<-h];rfl
theorem Me (A B:Option Aa) (n c m d:Nat) (l r:List ByteArray) (w:AH) (hl:Ag 1 DV w (AA A n c) l) (hr:Ag 1 DV w (AA B m d) r):
 AS prog 111 #[AA A n c,AA B m d] w fun e w'=>e=AV (AX (BW l r))/\AJ w w':=by
 have hn2:n<=9223372036854775807:=by have:=hl.le;omega
 have hln:=hl.len;have hrn:=hr.len;obtain ⟨HL,HR⟩:=Aj hl hr;clear hl hr;by_cases e:n=m
 ·subst e
  have el:l.length=r.length:=AG
  skip
  obtain ⟨HN,HE⟩:=Aj hln el;clear hln hrn el;obtain ⟨v,hv⟩:=BH (BW l r);rw [hv];have HV:AI (BW (l.drop 0) (r.drop 0)=v):=AF hv;clear hv;go_enter func111,ntmps111;go_wp2_with fail;go_loopg [13] n (fun q i wr=>∃k:Nat,k<=n/\q=n - k/\i=AB AE k/\BW (l.drop k) (r.drop k)=v/\AJ w wr)
  case atStart=>exact J4
  obtain ⟨k,hk,hq,rfl,hv,hb⟩:=hrel;obtain ⟨HQ,HB,Dw⟩:=Az hq hb hv;clear hq hb hv HV;by_cases hlt:k < n
  ·obtain ⟨a,ao,x,rfl,hal,hx,hxc⟩:=XI (HL.o.mono Ba HB.o) hlt
   obtain ⟨b,bo,y,rfl,hbl,hy,Qg⟩:=XI (HR.o.mono Ba HB.o) hlt;obtain ⟨HX,HY⟩:=Aj hx hy;have hkn:(k:Int) < (n:Int):=AG
   have hk0:=Int.natCast_nonneg k
   clear hx hy;by_cases exy:x=y
   ·subst exy
    exact AAR
   obtain rfl:=RJ HX.o HY.o Dw.o exy;have exl:(x.toList==y.toList)=false:=by rw [Dt];exact BO exy
   exact za
  exact ME
 have el:¬l.length=r.length:=AG
 rw [FZ el];go_enter func111,ntmps111;exact J5
theorem Sd (A B:Option Aa) (n c m d:Nat) (l r:AP) (w:AH) (hl:Ag 1 iR w (AA A n c) l) (hr:Ag 1 iR w (AA B m d) r):
 AS prog 62 #[AA A n c,AA B m d] w fun e w'=>e=AV (AX (BW l r))/\AJ w w':=by
 have hn2:n<=9223372036854775807:=by have:=hl.le;omega
 have hln:=hl.len;have hrn:=hr.len;obtain ⟨HL,HR⟩:=Aj hl hr;clear hl hr;by_cases e:n=m
 ·subst e
  have el:l.length=r.length:=AG
  skip
  obtain ⟨HN,HE⟩:=Aj hln el;clear hln hrn el;obtain ⟨v,hv⟩:=BH (BW l r);rw [hv];have HV:AI (BW (l.drop 0) (r.drop 0)=v):=AF hv;clear hv;go_enter func62,ntmps62;go_wp2_with fail;go_loopg [13] n (fun q i wr=>∃k:Nat,k<=n/\q=n - k/\i=AB AE k/\BW (l.drop k) (r.drop k)=v/\AJ w wr)
  case atStart=>exact J4
  obtain ⟨k,hk,hq,rfl,hv,hb⟩:=hrel;obtain ⟨HQ,HB,Dw⟩:=Az hq hb hv;clear hq hb hv HV;by_cases hlt:k < n
  ·obtain ⟨a,ao,x,rfl,hal,hx,hxc⟩:=wW (HL.o.mono JS HB.o) hlt
   obtain ⟨b,bo,y,rfl,hbl,hy,Qg⟩:=wW (HR.o.mono JS HB.o) hlt;obtain ⟨HX,HY⟩:=Aj hx hy;have hkn:(k:Int) < (n:Int):=AG
   have hk0:=Int.natCast_nonneg k
   clear hx hy;by_cases exy:x=y
   ·subst exy
    exact AAR
   obtain rfl:=RJ HX.o HY.o Dw.o exy;exact za
  exact ME
 have el:¬l.length=r.length:=AG
 rw [FZ el];go_enter func62,ntmps62;exact J5
theorem AJH:(prog.info? 294).map (fun i=>i.methods.find? (·.name== "Len"))=some (some ⟨ "Len",299,#[⟨297,0,true⟩],some (176,false)⟩):=by kernel_rfl
theorem jG (G:Nat) (v:AK) (w:AH) (h:w.cell? ⟨G,0,none⟩=some v):∀N:Nat,0 < N->
 (method N 294 (AU (some ⟨G,0,none⟩)) "Len").run prog w=.ok (176,v) w:=by
 intro N hN;obtain ⟨k,rfl⟩:∃k,N=k+1:=⟨N - 1,by omega⟩;obtain ⟨i,hi,hm⟩:∃i,prog.info? 294=some i/\i.methods.find? (·.name== "Len")=some ⟨ "Len",299,#[⟨297,0,true⟩],some (176,false)⟩:=by have:=AJH;simpa [Option.map_eq_some_iff] using this
 exact mS
theorem AG0:(prog.info? 294).map (fun i=>i.methods.find? (·.name== "Less"))=some (some ⟨ "Less",358,#[⟨297,0,true⟩],some (235,false)⟩):=by kernel_rfl
theorem RL (G:Nat) (v:AK) (w:AH) (h:w.cell? ⟨G,0,none⟩=some v):∀N:Nat,0 < N->
 (method N 294 (AU (some ⟨G,0,none⟩)) "Less").run prog w=.ok (235,v) w:=by
 intro N hN;obtain ⟨k,rfl⟩:∃k,N=k+1:=⟨N - 1,by omega⟩;obtain ⟨i,hi,hm⟩:∃i,prog.info? 294=some i/\i.methods.find? (·.name== "Less")=some ⟨ "Less",358,#[⟨297,0,true⟩],some (235,false)⟩:=by have:=AG0;simpa [Option.map_eq_some_iff] using this
 exact mS
theorem AGy:(prog.info? 294).map (fun i=>i.methods.find? (·.name== "Swap"))=some (some ⟨ "Swap",355,#[⟨297,0,true⟩],some (239,false)⟩):=by kernel_rfl
theorem Oq (G:Nat) (v:AK) (w:AH) (h:w.cell? ⟨G,0,none⟩=some v):∀N:Nat,0 < N->
 (method N 294 (AU (some ⟨G,0,none⟩)) "Swap").run prog w=.ok (239,v) w:=by
 intro N hN;obtain ⟨k,rfl⟩:∃k,N=k+1:=⟨N - 1,by omega⟩;obtain ⟨i,hi,hm⟩:∃i,prog.info? 294=some i/\i.methods.find? (·.name== "Swap")=some ⟨ "Swap",355,#[⟨297,0,true⟩],some (239,false)⟩:=by have:=AGy;simpa [Option.map_eq_some_iff] using this
 exact mS
theorem AGz:(prog.info? 294).map (fun i=>i.methods.find? (·.name== "Push"))=some (some ⟨ "Push",353,#[],some (237,true)⟩):=by kernel_rfl
theorem wT (a:Aa) (w:AH):∀N:Nat,0 < N->
 (method N 294 (AU (some a)) "Push").run prog w=.ok (237,AU (some a)) w:=by
 intro N hN;obtain ⟨k,rfl⟩:∃k,N=k+1:=⟨N - 1,by omega⟩;obtain ⟨i,hi,hm⟩:∃i,prog.info? 294=some i/\i.methods.find? (·.name== "Push")=some ⟨ "Push",353,#[],some (237,true)⟩:=by have:=AGz;simpa [Option.map_eq_some_iff] using this
 exact AAB
theorem AJG:(prog.info? 294).map (fun i=>i.methods.find? (·.name== "Pop"))=some (some ⟨ "Pop",357,#[],some (236,true)⟩):=by kernel_rfl
theorem ABU (a:Aa) (w:AH):∀N:Nat,0 < N->
 (method N 294 (AU (some a)) "Pop").run prog w=.ok (236,AU (some a)) w:=by
 intro N hN;obtain ⟨k,rfl⟩:∃k,N=k+1:=⟨N - 1,by omega⟩;obtain ⟨i,hi,hm⟩:∃i,prog.info? 294=some i/\i.methods.find? (·.name== "Pop")=some ⟨ "Pop",357,#[],some (236,true)⟩:=by have:=AJG;simpa [Option.map_eq_some_iff] using this
 exact AAB
def Dx (G:Nat) (W:AH):Option Nat:=(W.cell? ⟨G,0,none⟩).bind fun v=>v.ownBlock
theorem F4 {G:Nat} {w:AH} {t:Ae} {v:AK} (h:AZ w G t #[v]):Dx G w=v.ownBlock:=by unfold Dx;rw [h.cell 0];rfl
structure Kept (G:Nat) (w w':AH):Prop where
 os:w'.os=w.os
 tape:w'.tape=w.tape
 output:w'.output=w.output
 size:w.heap.size<=w'.heap.size
 block:∀b,b < w.heap.size->b≠G->some b≠Dx G w->w'.heap[b]? =w.heap[b]?
 pt:Dx G w'=Dx G w\/∃b,Dx G w'=some b/\w.heap.size<=b
theorem Kept.refl (G:Nat) (w:AH):Kept G w w:=⟨rfl,rfl,rfl,Ad _,fun _ _ _ _=>rfl,.inl rfl⟩
theorem Kept.trans {G:Nat} {a b c:AH} (h:Kept G a b) (k:Kept G b c):Kept G a c:=
 ⟨k.os.trans h.os,k.tape.trans h.tape,k.output.trans h.output,BF h.size k.size,fun x hx hg hp=>(k.block x (Ay hx h.size) hg (fun e=>by
  rcases h.pt with h1 | ⟨y,h1,h2⟩
  · rw [h1] at e;exact hp e
  · rw [h1] at e;injection e with e;omega)).trans (h.block x hx hg hp),by
  rcases k.pt with k1 | ⟨y,k1,k2⟩
  ·rcases h.pt with h1 | ⟨y,h1,h2⟩
   · exact .inl (k1.trans h1)
   · exact .inr ⟨y,k1.trans h1,h2⟩
  · exact .inr ⟨y,k1,BF h.size k2⟩⟩
theorem Kept.drewN {G:Nat} {a b:AH} (h:Kept G a b) (n:Nat):Kept G a (b.drewN n):=⟨h.os,h.tape,h.output,h.size,h.block,h.pt⟩
theorem Kept.LZ {G g:Nat} {a b:AH} {t:Ae} {v:AK} (hk:AZ a G t #[v]) (hv:v.ownBlock=some g) (hne:G≠g) (h:a.grownBy b (some g)):Kept G a b:=
 ⟨h.os,h.tape,h.output,h.size,fun x hx _ hp=>h.block x hx (fun e=>hp (by rw [F4 hk,hv,e])),.inl (by have hk2:AZ b G t #[v]:=hk.grown h (fun e=>hne (by injection e));rw [F4 hk,F4 hk2])⟩
theorem Kept.put {G:Nat} {a b:AH} {t:Ae} {v u:AK} (h:Kept G a b) (hk:AZ b G t #[v]) (hu:u.ownBlock=Dx G a\/∃y,u.ownBlock=some y/\a.heap.size<=y):Kept G a (b.setCell ⟨G,0,none⟩ u):=
 ⟨h.os,h.tape,h.output,by simpa [World.setCell] using h.size,fun x hx hne hp=>(EB b _ u x hne).trans (h.block x hx hne hp),by
  have hk2:AZ (b.setCell ⟨G,0,none⟩ u) G t #[u]:=hk.put 0 u;rw [F4 hk2];exact hu⟩
def FW (w:AH) (base G:Nat) (l:AP):Prop:=
 ∃v,AZ w G 297 #[v]/\w.ownsRow base 3 1 v l.length (l.map (Value.int .i64))/\G < base/\base<=w.heap.size
theorem FW.form {w:AH} {base G:Nat} {l:AP} (h:FW w base G l) (hl:0 < l.length):
 ∃g cap,base<=g/\G < base/\base<=w.heap.size/\AZ w G 297 #[AA (some ⟨g,0,none⟩) l.length cap]/\w.ownsRow base 3 1 (AA (some ⟨g,0,none⟩) l.length cap) l.length (l.map (Value.int .i64)):=by
 obtain ⟨v,h1,h2,h3,h4⟩:=h;obtain ⟨g,cap,rfl⟩:=Joins.ownsRow_form h2 hl;exact ⟨g,cap,(h2.lt g rfl).1,h3,h4,h1,h2⟩
theorem len_any (A:Option Aa) (n c:Nat) (w:AH):AS prog 176 #[AA A n c] w fun e w'=>e=AV (AB AE n)/\w=w':=by go_enter func176,ntmps176;go_wp2;go_ret;exact ⟨rfl,rfl⟩
theorem Qa {w:AH} {base g cap n:Nat} {l:AP} (h:w.ownsRow base 3 1 (AA (some ⟨g,0,none⟩) n cap) n (l.map (Value.int .i64))) {i:Nat} (hi:i < n):
 w.cell? ⟨g,i,none⟩=some (AB AE (l.getD i 0)):=by
 have hl:l.length=n:=by have:=h.1;simpa using this
 rw [h.cellAt i AG];rw [Be,C0];have:l[i]? =some l[i]:=BJ AG;simp [this]
theorem SR (base g cap n:Nat) (l:AP) (i j:Nat) (w:AH) (h:w.ownsRow base 3 1 (AA (some ⟨g,0,none⟩) n cap) n (l.map (Value.int .i64))) (hi:i < n) (hj:j < n):
 AS prog 235 #[AA (some ⟨g,0,none⟩) n cap,AB AE i,AB AE j] w fun e w'=>e=AV (AX (decide (l.getD i 0 < l.getD j 0)))/\∃k,w'=w.drewN k:=by
 have ci:=Qa h hi;have cj:=Qa h hj;obtain ⟨a,ha⟩:=BH (l.getD i 0);obtain ⟨b,hb⟩:=BH (l.getD j 0);rw [ha] at ci ⊢;rw [hb] at cj ⊢;clear ha hb h;have i0:(0:Int)<=(i:Int):=AG
 have i1:(i:Int) < (n:Int):=AG
 have j0:(0:Int)<=(j:Int):=AG
 have j1:(j:Int) < (n:Int):=AG
 go_enter func235,ntmps235;go_wp2_with fail;go_quiet (fail);go_wp2;go_ret;exact ⟨rfl,_,rfl⟩
theorem xV (w:AH) (row:Option Nat):w.grownBy w row:=⟨rfl,rfl,rfl,Ad _,fun _ _ _=>rfl⟩
theorem ACd (l:AP) (i j:Nat):((l.map (Value.int .i64)).set i (AB AE (l.getD j 0))).set j (AB AE (l.getD i 0))=(I6 l i j).map (Value.int .i64):=by simp [I6,List.map_set]
theorem swap_any (base g cap n:Nat) (l:AP) (i j:Nat) (w:AH) (h:w.ownsRow base 3 1 (AA (some ⟨g,0,none⟩) n cap) n (l.map (Value.int .i64))) (hi:i < n) (hj:j < n):
 AS prog 239 #[AA (some ⟨g,0,none⟩) n cap,AB AE i,AB AE j] w fun e w'=>(∃u,e=AV u)/\w'.ownsRow base 3 1 (AA (some ⟨g,0,none⟩) n cap) n ((I6 l i j).map (Value.int .i64))/\w.grownBy w' (some g):=by
 have ci:=Qa h hi;have cj:=Qa h hj;have fi:=h.frozenAt i;have fj:=h.frozenAt j;obtain ⟨HS,HO⟩:=Aj (ACd l i j) h;obtain ⟨a,ha⟩:=BH (l.getD i 0);obtain ⟨b,hb⟩:=BH (l.getD j 0);rw [ha] at ci;rw [hb] at cj;rw [ha,hb] at HS;clear ha hb h;have i0:(0:Int)<=(i:Int):=AG
 have i1:(i:Int) < (n:Int):=AG
 have j0:(0:Int)<=(j:Int):=AG
 have j1:(j:Int) < (n:Int):=AG
 by_cases hij:i=j
 ·subst hij
  obtain rfl:a=b:=by rw [ci] at cj;simpa using cj
  exact AAT
 exact AAT
structure kJ where
 src:AP
 dst:Int
def Ns (nf:Nat):AP->Nat->Option Nat
 | [],x=>some x
 | f::r,x=>if f < 0\/(nf:Int)<=f\/x.testBit f.toNat then none else Ns nf r (x ||| 2 ^ f.toNat)
def MS (nf:Nat) (d:kJ):Bool:=match Ns nf d.src 0 with
 | none=>false
 | some x=>x !=0 && decide (0<=d.dst) && decide (d.dst < nf) && !x.testBit d.dst.toNat
def Mj (nf:Nat) (ds:List kJ):Bool:=decide (1<=nf) && decide (nf<=12) && decide (ds.length<=12) && ds.all (MS nf)
def eno (b:Bool):Int:=if b then 0 else 130
theorem AIB (x:Nat) (n:Nat) (hx:x < 4096):(bits BinOp.and IntKind.u64 (↑x / 2 ^ n) 1==1)=x.testBit n:=by
 have h1:((x:Int) / 2 ^ n)=((x / 2 ^ n:Nat):Int):=Ac
 have hlt:x / 2 ^ n < 18446744073709551616:=Nat.lt_of_le_of_lt (Nat.div_le_self _ _) AG;rw [h1];have h2:=u64_and_nat (x / 2 ^ n) 1 hlt AG;simp only [Int.natCast_one] at h2;rw [h2,Nat.and_one_is_mod,Nat.testBit_eq_decide_div_mod_eq];rcases Nat.mod_two_eq_zero_or_one (x / 2 ^ n) with h | h <;> simp [h]
theorem AAv {nf:Nat} {f:Int} {r:AP} {x:Nat} (h:f < 0\/(nf:Int)<=f\/x.testBit f.toNat=true):Ns nf (f::r) x=none:=by unfold Ns;rw [Am h]
theorem ACV {nf:Nat} {f:Int} {r:AP} {x:Nat} (h0:0<=f) (h1:f < (nf:Int)) (h2:x.testBit f.toNat=false):Ns nf (f::r) x=Ns nf r (x ||| 2 ^ f.toNat):=by rw [Ns,Ah];simp [h2];omega
theorem AJC {x n:Nat} (hx:x < 4096) (hn:n < 12):x ||| 2 ^ n < 4096:=by have:2 ^ n < 2 ^ 12:=Nat.pow_lt_pow_right AG hn;exact Nat.or_lt_two_pow (n:=12) hx this
theorem AIA (x:Nat):((x:Int) !=0)=(x !=0):=by
 rcases Pe x with h | h
 · subst h;rfl
 have h1:((x:Int) !=0)=true:=by rw [bne_iff_ne];omega
 have h2:(x !=0)=true:=by rw [bne_iff_ne];omega
 rw [h1,h2]
theorem rJ {nf:Nat} {l:AP} {DU:Int} (h:Ns nf l 0=none):MS nf ⟨l,DU⟩=false:=by simp [MS,h]
theorem rI {nf:Nat} {l:AP} {DU:Int} {x:Nat} (h:Ns nf l 0=some x):MS nf ⟨l,DU⟩=(x !=0 && decide (0<=DU) && decide (DU < nf) && !x.testBit DU.toNat):=by simp [MS,h]
theorem AAu {nf:Nat} {l:AP} {x k:Nat} {r:Option Nat} (h:Ns nf (l.drop k) x=r) (hk:l.length<=k):r=some x:=by rw [EV hk] at h;exact h.symm
theorem AGp {x:Nat} {f:Int} (hx:x < 4096) (h1:f < 12):bits BinOp.or IntKind.u64 (↑x) (IntKind.u64.wrap (2 ^ f.toNat))=((x ||| 2 ^ f.toNat:Nat):Int):=by
 have h2:2 ^ f.toNat < 2 ^ 12:=Nat.pow_lt_pow_right AG AG;have h2':0<=(2:Int) ^ f.toNat:=Int.pow_nonneg AG;have h3:((2:Int) ^ f.toNat)=((2 ^ f.toNat:Nat):Int):=Ac
 have h4:IntKind.u64.wrap (((2 ^ f.toNat:Nat)):Int)=((2 ^ f.toNat:Nat):Int):=UI _ AG;rw [h3,h4];exact u64_or_nat _ _ AG AG
theorem yG {nf k:Nat} {ds:List kJ} {d:kJ} (h:ds[k]? =some d) (hv:MS nf d=false):Mj nf ds=false:=by
 have:ds.all (MS nf)=false:=by rw [List.all_eq_false];exact ⟨d,Ci h,by simp [hv]⟩
 simp [Mj,this]
def xw (w:AH) (cs:List AK) (d:kJ):Prop:=
 ∃nA nn nc s A n c,cs=[AA nA nn nc,AN s,AA A n c,AB AE d.dst]/\Ag 1 CF w (AA A n c) d.src/\ -9223372036854775808<=d.dst/\d.dst<=9223372036854775807
theorem jZ:Ea xw:=by rintro w w' hb cs x ⟨nA,nn,nc,s,A,n,c,h1,h2,h3⟩;exact ⟨nA,nn,nc,s,A,n,c,h1,h2.mono BU hb,h3⟩
theorem AH5 {w:AH} {A:Option Aa} {n cap:Nat} {l:List kJ} (h:Ag 4 xw w (AA A n cap) l) {k:Nat} (hk:k < n):
 ∃b off d nA nn nc s fA fn fc,A=some ⟨b,off,none⟩/\b < w.heap.size/\l[k]? =some d/\
  w.cell? ⟨b,off+k*4,none⟩=some (AA nA nn nc)/\w.cell? ⟨b,off+k*4+1,none⟩=some (AN s)/\w.cell? ⟨b,off+k*4+2,none⟩=some (AA fA fn fc)/\w.cell? ⟨b,off+k*4+3,none⟩=some (AB AE d.dst)/\
  Ag 1 CF w (AA fA fn fc) d.src/\ -9223372036854775808<=d.dst/\d.dst<=9223372036854775807:=by
 obtain ⟨b,off,d,cs,e,hb,hl,hlen,hc,nA,nn,nc,s,fA,fn,fc,rfl,h2,h3⟩:=h.at_ hk;exact ⟨b,off,d,nA,nn,nc,s,fA,fn,fc,e,hb,hl,by simpa using hc 0 _ rfl,by simpa [Nat.add_assoc] using hc 1 _ rfl,by simpa [Nat.add_assoc] using hc 2 _ rfl,by simpa [Nat.add_assoc] using hc 3 _ rfl,h2,h3⟩
theorem uZ (x:Nat) (f:Int) (w:AH) (hx:x < 4096) (h0:0<=f) (h1:f < 64):
 AS prog 216 #[AB .u64 x,AB AE f] w fun e w'=>e=AV (AX (x.testBit f.toNat))/\w=w':=by
 go_enter func216,ntmps216
 go_wp2
 go_ret;refine ⟨?_,rfl⟩;rw [<-AIB x _ hx];rfl
theorem AAt (nA A:Option Aa) (nn nc n c:Nat) (s:ByteArray) (DU:Int) (nf:Nat) (l:AP) (w:AH) (hnf:nf<=12) (hs:Ag 1 CF w (AA A n c) l):
 AS prog 168 #[AO #[AA nA nn nc,AN s,AA A n c,AB AE DU],AB AE nf] w (Ret (AX (MS nf ⟨l,DU⟩)) w):=by
 have hn2:n<=9223372036854775807:=by have:=hs.le;omega
 obtain ⟨HN,HS⟩:=Aj hs.len hs;clear hs;go_enter func168,ntmps168
 go_wp2
 go_loop [5,11] (fun fr i=>∃k x:Nat,k<=n/\i=AB AE k/\fr=AB .u64 x/\x < 4096/\Ns nf (l.drop k) x=Ns nf l 0) (fun _ i=>n - (intOf i).toNat)
 case atStart=>exact ⟨0,0,Ar _,rfl,rfl,by omega,rfl⟩
 obtain ⟨k,x,hk,rfl,rfl,hx,hv⟩:=hrel;have HV:=AF hv;clear hv;by_cases hlt:k < n
 ·obtain ⟨b,off,f,rfl,hb,hf,hc,hlo,hhi⟩:=ints_at HS.o hlt
  have HF:=AF hf;clear hf;go_wp2_with (go_at_call 216;refine (uZ _ _ _ hx AG AG).mono ?_;rintro e w' ⟨rfl,rfl⟩)
  rotate_left 1
  ·have hb2:x.testBit f.toNat=false:=by simp_all
   go_round
   case rel=>exact ⟨k+1,x ||| 2 ^ f.toNat,by omega,by go_num,by rw [AGp hx AG],AJC hx AG,by rw [<-HV.o,drop_cons HF.o,ACV AG AG hb2]⟩
   case measure=>simp [intOf];omega
  all_goals
   go_ret;refine ⟨A8 ?_,(Af _ _).alloc (Ad _) _⟩;rw [rJ];rw [<-HV.o,drop_cons HF.o,AAv]
   first | (left;assumption) | (right;left;assumption) | (right;right;rcases ‹_\/_› with (h | h) | h <;> first | exact h | (exfalso;omega))
 have hv:=AAu HV.o Lj;have HW:=AF (rI (DU:=DU) hv);clear hv;go_wp2_with (go_at_call 216;refine (uZ _ _ _ hx AG AG).mono ?_;rintro e w' ⟨rfl,rfl⟩)
 all_goals
  go_ret;refine ⟨A8 ?_,(Af _ _).alloc (Ad _) _⟩;rw [HW.o]
  go_light
  simp [*,AIA]
  try (intros;omega)
theorem check_any (s1 s2:ByteArray) (i1 i2:Int) (fA dA:Option Aa) (nf fc nd dc:Nat) (ds:List kJ) (w:AH) (hnf:nf<=9223372036854775807) (hs:Ag 4 xw w (AA dA nd dc) ds):
 AS prog 104 #[AO #[AN s1,AN s2,AB AE i1,AB AE i2,AA fA nf fc,AA dA nd dc]] w (Ret (AB AE (eno (Mj nf ds))) w):=by
 have hn2:nd<=9223372036854775807:=by have:=hs.le;omega
 obtain ⟨HN,HS⟩:=Aj hs.len hs;clear hs;by_cases h1:nf < 1\/12 < nf\/12 < nd
 ·have HC:AI (Mj nf ds=false):=by
   have:=HN.o;show _=_;unfold Mj;rcases h1 with h | h | h
   · simp [show ¬1<=nf by omega]
   · simp [show ¬nf<=12 by omega]
   · simp [show ¬ds.length<=12 by omega]
  go_enter func104,ntmps104
  go_wp2
  all_goals first
   | (go_ret;exact ⟨by rw [HC.o];rfl,(Af _ _).alloc (Ad _) _⟩)
   | (exfalso;omega)
 have a1:1<=nf:=AG
 have a2:nf<=12:=AG
 have a3:nd<=12:=AG
 clear h1;have d1:decide ((nf:Int) < 1)=false:=by simp;omega
 have d2:decide ((12:Int) < nf)=false:=by simp;omega
 have d3:decide ((12:Int) < nd)=false:=by simp;omega
 go_enter func104,ntmps104
 go_wp2
 go_loopw [24] (fun i wr=>∃k:Nat,k<=nd/\i=AB AE k/\Below (w.heap.size+1) (w.alloc (AQ #[AN s1,AN s2,AB AE i1,AB AE i2,AA fA nf fc,AA dA nd dc] 79)) wr/\(ds.take k).all (MS nf)=true) (fun i _=>nd - (intOf i).toNat)
 case atStart=>exact ⟨0,Ar _,rfl,Af _ _,rfl⟩
 obtain ⟨k,hk,rfl,hb,hv⟩:=hrel;have HV:=AF hv;clear hv;have hb0:AJ w wr:=(BP _ _).trans (hb.mono AG);have AM6:wr.cell? ⟨w.heap.size,4,none⟩=some (AA fA nf fc):=(hb.cell (p:=⟨w.heap.size,4,none⟩) Ac).trans Ac;have hsz:w.heap.size < wr.heap.size:=by have:=hb.size;simp at this;omega
 by_cases hlt:k < nd
 ·obtain ⟨b,off,d,nA,nn,nc,s,gA,gn,gc,rfl,hbl,hd,c0,c1,c2,c3,hsrc,hlo,hhi⟩:=AH5 (HS.o.mono jZ hb0) hlt
  obtain ⟨HD,iQ,HB,HB0⟩:=CJ hd hsrc hb hb0;clear hd hsrc hb hb0;obtain ⟨vb,hvb⟩:=BH (MS nf d);have HVB:=AF hvb;clear hvb;rcases vb with _ | _
  all_goals
   go_wp2_with (go_at_call 168;refine (AAt _ _ _ _ _ _ _ _ _ d.src _ a2 (iQ.o.mono BU (BP _ _))).mono ?_;rintro e w1 ⟨rfl,hb1⟩;rw [show MS nf ⟨d.src,d.dst⟩=_ from HVB.o];have HB1:=AF hb1;clear hb1)
  ·go_ret
   refine ⟨C8 ?_,(HB0.o.alloc AG _).trans (HB1.o.mono BX)⟩;rw [yG HD.o HVB.o];rfl
  go_roundw
  case rel=>exact ⟨k+1,by omega,by go_num,(HB.o.alloc AG _).trans (HB1.o.mono BX),by rw [take_snoc HD.o,List.all_append,HV.o];simp [HVB.o]⟩
  case measure=>simp [intOf];omega
 have HC:AI (Mj nf ds=true):=by have h1:=HV.o;have h2:=HN.o;rw [Cy AG] at h1;show _=_;unfold Mj;simp [h1,a1,a2];omega
 go_wp2
 go_ret;exact ⟨by rw [HC.o];rfl,hb0⟩
theorem Vj:(prog.info? 3).map (fun i=>(i.zero,i.size,i.bytes))=some (some (AB AE 0),1,8):=by kernel_rfl
theorem X6 (x:Int) (w:AH):(Instr.typeAssert (.iface 3 (AB AE x)) 20 3 true).run prog w=.ok (.tuple #[AB AE x,AX true]) w:=by kernel_rfl
theorem ABA (base G:Nat) (l:AP) (x:Int) (w:AH) (hq:FW w base G l) (hb:base<=w.heap.size) (hl:l.length<=1000000):
 AS prog 237 #[AU (some ⟨G,0,none⟩),.iface 3 (AB AE x)] w fun e w'=>(∃u,e=AV u)/\FW w' base G (l++[x])/\Kept G w w':=by
 obtain ⟨v,h1,h2,h3,h4⟩:=hq;obtain ⟨i0,hi,hz0,hz1,hz2⟩:=JF Vj;have c0:=h1.cell 0;have f0:=h1.frozen 0;have lG:=h1.lt;simp only [Ai,An] at c0;obtain ⟨H1,H2,HI,HZ⟩:=CJ h1 h2 hi (And.intro hz0 (And.intro hz1 hz2));have hv:∃A n c,v=AA A n c:=by
  rcases h2.2 with ⟨rfl,_⟩ | ⟨g,cap,cur,rfl,_⟩
  · exact Rz
  · exact Rz
 clear h1 h2 hi hz0 hz1 hz2;obtain ⟨A,n,c,rfl⟩:=hv;have hta:=X6 x;go_enter func237,ntmps237;go_wp2_with (at_builtin;refine wpList_append_own_at _ rfl (.tmp 16) (.tmp 18) 295 rfl base 3 i0 (AB AE 0) 1 8 underlying295 HI.o HZ.o.1 HZ.o.2.1 HZ.o.2.2 rfl BE (AA A n c) l.length _ rfl (H2.o.alloc _) ⟨w.heap.size,0,none⟩ 1 1 [AB AE x] rfl rfl (cell_one_new _ _ _) Og Gj AG BX ?_;intro v' w5 hown' hgrow _ hat;have HAT:=AF hat;clear hat;obtain ⟨g',cap',rfl⟩:=Joins.ownsRow_form hown' AG;have k5:AZ w5 G 297 #[AA A n c]:=(H1.o.alloc _).grown hgrow (fun e=>by have:=(H2.o.lt G e.symm).1;omega);have Tb:=AF k5;have f5:=k5.frozen 0;have c5:=k5.cell 0;simp only [Ai,An] at c5;have HOW:=AF hown';have Ga:=AF hgrow;clear hown' hgrow k5)
 go_end0
 have hlen:(l++[x]).length=l.length+1:=Ac
 have hsz:base<=w5.heap.size:=BF hb (BF Ac Ga.o.size);refine ⟨⟨_,rfl⟩,⟨_,Tb.o.put 0 _,?_,h3,by simpa [World.setCell] using hsz⟩,?_⟩
 ·rw [hlen,DM]
  exact E9 HOW.o h3 _
 refine Kept.put (show Kept G w w5 from ⟨Ga.o.os,Ga.o.tape,Ga.o.output,BF Ac Ga.o.size,fun b hb2 _ hp=> ?_,.inl ?_⟩) Tb.o ?_
 ·refine (Ga.o.block b BX (fun e=>hp (by rw [F4 H1.o,e]))).trans ?_
  exact Mw w _ b hb2
 · rw [F4 Tb.o,F4 H1.o]
 rw [F4 H1.o];rcases HAT.o with e | e
 · exact .inl e
 · exact .inr ⟨_,e,by simp⟩
theorem AF5 {w:AH} {base g cap:Nat} {l:AP} (hl:0 < l.length) (h:w.ownsRow base 3 1 (AA (some ⟨g,0,none⟩) l.length cap) l.length (l.map (Value.int .i64))):
 w.ownsRow base 3 1 (AA (some ⟨g,0,none⟩) (l.length - 1) cap) (l.length - 1) ((l.take (l.length - 1)).map (Value.int .i64)):=by
 obtain ⟨n,hn⟩:∃n,l.length=n+1:=⟨l.length - 1,by omega⟩;rw [hn] at h ⊢;refine ownsRow_pop (last:=(l.drop n).map (Value.int .i64)) BX ?_;rw [<-DM];simp only [Nat.add_sub_cancel,OG];exact h
theorem ACz (base G:Nat) (l:AP) (w:AH) (hq:FW w base G l) (hpos:0 < l.length) (hl:l.length<=1000000):
 AS prog 236 #[AU (some ⟨G,0,none⟩)] w fun e w'=>e=AV (.iface 3 (AB AE (l.getD (l.length - 1) 0)))/\FW w' base G (l.take (l.length - 1))/\Kept G w w':=by
 obtain ⟨g,cap,hbg,hGb,hbs,hk,hown⟩:=hq.form hpos;clear hq;have hc:=Qa hown (i:=l.length - 1) AG;have HP:=AF (AF5 hpos hown);have hcap:l.length<=cap:=by
  rcases hown.2 with ⟨h,_⟩ | ⟨g',cap',cur,h,_,_,h2,_⟩
  · cases h
  · injection h with _ _ h;omega
 have AH2:(l.take (l.length - 1)).length=l.length - 1:=Ac
 have HLEN:=AF AH2;clear AH2;obtain ⟨x,hx⟩:=BH (l.getD (l.length - 1) 0);rw [hx] at hc ⊢;obtain ⟨n,hn⟩:=BH l.length;obtain ⟨l',hl'⟩:=BH (l.take (l.length - 1));rw [hl'] at HP HLEN ⊢;rw [hn] at hc hk HP hcap hpos hl HLEN;clear hx hn hl' hown;have c0:=hk.cell 0;have f0:=hk.frozen 0;have lG:=hk.lt;simp only [Ai,An] at c0;have HK:=AF hk;clear hk;have e1:IntKind.i64.wrap ((n:Int) - 1)=(n:Int) - 1:=Bv _ AG;have e2:(0:Int)<=(n:Int) - 1:=AG
 have e3:((n:Int) - 1).toNat=n - 1:=AG
 have e4:(n:Int) - 1 < (n:Int):=AG
 have e5:(n:Int) - 1<=(cap:Int):=AG
 go_enter func236,ntmps236;go_wp2_with fail;go_quiet (fail);go_wp2_with fail;go_region;go_wp2;go_ret;refine ⟨rfl,⟨_,(HK.o.drewN _).put 0 _,?_,hGb,by simpa [World.setCell] using hbs⟩,((Kept.refl G w).drewN _).put (HK.o.drewN _) (.inl (by rw [F4 HK.o];rfl))⟩;rw [HLEN.o];exact E9 (w:=w.drewN (nq+1)) HP.o hGb _
end Go.Proofs.YtpmpddfgifhlbaaGreatDoor
