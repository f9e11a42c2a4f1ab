import Derived.Test.YtpmpddfgifhlbaaGreatDoorM02
namespace Go.Proofs.YtpmpddfgifhlbaaGreatDoor
set_option maxHeartbeats 8000000
set_option maxRecDepth 100000
open Go renaming World→AH, Value→AK, Calls→AS, TypeId→Ae, Addr→Aa
open Go.RowKit renaming Below→BK
open Go.Proofs.Tryz
variable (A1 A2 A3 A4 A5 A6:Option Aa) (n1 c1 n2 c2 n3 c3 n4 c4 n5 c5 n6 c6:Nat)
open Go.Value renaming slice→AA, int→AB, string→AN, pointer→AU, bool→AX, agg→AO, tuple→BS
open Go.IntKind renaming i64→AE
open Go.Ending renaming returned→AV, panicked→B8
open Go.Obj renaming cells→AQ
open Go.Operand renaming tmp→AY
open Go.RowKit Go.Shelf
attribute [local go_sem] Oper.semAt_some
theorem lZ (bg M n base0:Nat) (hs:List (Int×Nat)) (rs:List Ck) (w:AH) (hbg:AZ w bg 206 #[AB AE n,.map (some M)]) (hG:FX w base0 M hs (Bj rs)) (hin:∀h y,y∈Bj rs h->0<=y/\y < n) (hn:n<=1000):
 AS prog 172 #[AA none 0 0,.func (.func 173) #[] #[AU (some ⟨bg,0,none⟩)]] w fun e w'=>∃v,e=AV v/\w'.ownsRow w.heap.size 3 1 v (Cr rs n).length ((Cr rs n).map (Value.int .i64))/\AJ w w':=by
 refine (Ey (n:=8)).1 ?_;obtain ⟨i0,hi,hz0,hz1,hz2⟩:=JF Vj;obtain ⟨HI,HZ,eN,HG,RD⟩:=EG hi (And.intro hz0 (And.intro hz1 hz2)) hbg hG hin;clear hi hz0 hz1 hz2 hbg hG hin;refine callsIn_of_wp_marks func172 rfl trivial ?_ rfl;simp only [ntmps172,Pb,Fl,Ph,Nat.reduceAdd,Nat.reduceSub,UO,UQ,UK,UN,Ic,Lx];refine Dq.2 ?_;go_wp2_with fail;refine (Dq (n:=8)).1 ?_;have hlt:bg < w.heap.size:=eN.o.lt;have hsz:(w.alloc (AQ #[AA none 0 0] 30)).heap.size=w.heap.size+1:=Ac
 have hb0:AJ w (w.alloc (AQ #[AA none 0 0] 30)):=(Af _ _).alloc (Ad _) _;refine Zy (F:=Fence.wide) (n₀:=w.heap.size) (B2:=w.heap.size) (N:=n) rfl AG (gf:=173) (lb:=#[AU (some ⟨bg,0,none⟩)]) rfl trivial (enters_of func173 AL rfl)
  (sQ 7 w.heap.size w.heap.size bg M n base0 hs rs _ (eN.o.alloc _) (HG.o.below hb0) RD.o hn Ac Ac) (fun _=>rfl) Ac Ac
  (fun pre W=>(∃v,Boxed W w.heap.size 30 v/\W.ownsRow w.heap.size 3 1 v pre.length (pre.map (Value.int .i64)))/\AJ w W)
  ?abides ?points ?start
  (fun x=>{tmps:=#[AA none 0 0,.func (.func 173) #[] #[AU (some ⟨bg,0,none⟩)],AU (some ⟨w.heap.size,0,none⟩),undef,AA none 0 0,AB AE x,.func (.func 173) #[] #[AU (some ⟨bg,0,none⟩)],AB AE x,undef,undef,undef,undef,undef],defers:=[]})
  ?assign ?body ?done
 case abides=>
  rintro s A C ⟨⟨v,hv,hr⟩,hB⟩ ho;rw [hsz] at ho;have hpt:Dx w.heap.size A=v.ownBlock:=F4 (t:=30) hv;have hBC:AJ w C:=⟨ho.os.trans hB.os,ho.tape.trans hB.tape,ho.output.trans hB.output,BF hB.size ho.size,fun b hb=>(ho.block b (Ay hb hB.size) (.inl AG)).trans (hB.block b hb)⟩;refine ⟨⟨v,(ho.block w.heap.size hv.lt (.inl AG)).trans hv,hr.1,?_⟩,hBC⟩;rcases hr.2 with h | ⟨g,cap,cur,hv2,hg,hh,rest⟩
  · exact .inl h
  · exact .inr ⟨g,cap,cur,hv2,hg,(ho.block g (Cz.1 hh).1 (.inr (by rw [hpt,hv2];rfl))).trans hh,rest⟩
 case points=>rintro pre W ⟨⟨v,hv,hr⟩,hB⟩ b hb;rw [F4 (t:=30) hv] at hb;obtain ⟨cur,hc⟩:=oF hr hb;exact ⟨(hr.lt b hb).1,cur,_,_,hc⟩
 case start=>exact ⟨⟨AA none 0 0,Boxed.new _ _ _,ED _ _ _ _⟩,hb0⟩
 case assign=>
  intro l x W K hK
  gi_wp2
  exact hK
 case body=>
  rintro l pre x W ⟨⟨v,hv,hr⟩,hB⟩ hlen;have hc:=hv.cell;obtain ⟨HV,HR,HB⟩:=Az hv hr hB;have hBs:=hB.size;clear hv hr hB
  gi_wp2_with (gi_at_builtin;refine wpListIn_append_own_at _ rfl (AY 8) (AY 10) 30 rfl w.heap.size 3 i0 (AB AE 0) 1 8 underlying30 HI.o HZ.o.1 HZ.o.2.1 HZ.o.2.2 rfl BE v pre.length _ rfl (HR.o.alloc _) ⟨W.heap.size,0,none⟩ 1 1 [AB AE x] rfl rfl (cell_one_new _ _ _) Og Gj AG BX ?_;intro v' w1 hown' hgrow _ hat;obtain ⟨g',cap',rfl⟩:=ownsRow_succ hown';have HA:=AF (HV.o.appended BE HR.o hBs (Ad _) hown' hgrow);have hc1:=HA.o.1.cell;have hf1:=HA.o.1.frozen;have Ga:=AF hgrow;have HAT:=AF hat;clear hown' hgrow hat)
  obtain ⟨ha1,ha2,ha3,ha4,OS⟩:=HA.o;have AHM:Dx w.heap.size W=v.ownBlock:=F4 (t:=30) HV.o;have AHN:Dx w.heap.size (w1.setCell ⟨w.heap.size,0,none⟩ (AA (some ⟨g',0,none⟩) (pre.length+1) cap'))=some g':=F4 (t:=30) ha2;refine ⟨ha4,⟨OS.size,fun b hb hbl hbp=> ?_,?_,fun b hb=> ?_⟩,⟨_,ha2,ha3⟩,HB.o.trans OS⟩
  ·have hne:b≠w.heap.size:=by omega
   refine (EB _ _ _ b hne).trans ((Ga.o.block b BX (fun e=>hbp (by rw [AHM,e]))).trans (Mw W _ b hbl))
  ·rw [AHN,AHM]
   rcases HAT.o with e | e
   · exact .inl e
   · exact .inr ⟨g',rfl,by
    injection e with e;simp at e;omega⟩
  rw [AHN] at hb;injection hb with hb;subst hb;exact (ha3.lt g' rfl).2
 rintro D xs W hD rfl ⟨⟨v,hv,hr⟩,hB⟩ hK;have hc:=hv.cell;go_wp2_with fail;refine ⟨by simp,.inl ⟨_,_,rfl,run_takeDeferred hK,?_⟩⟩;exact ⟨_,results_tmp rfl _ _ _,v,rfl,ownsRow_putObj hr _ hK rfl,hB.trans (belowK_b (w:=w) (Ad _) W D _ _ (by simp at hD;omega) hK rfl rfl)⟩
theorem r8 (bg M n base0:Nat) (hs:List (Int×Nat)) (rs:List Ck) (w:AH) (hbg:AZ w bg 206 #[AB AE n,.map (some M)]) (hG:FX w base0 M hs (Bj rs)) (hin:∀h y,y∈Bj rs h->0<=y/\y < n) (hn:n<=1000):
 AS prog 109 #[.func (.func 173) #[] #[AU (some ⟨bg,0,none⟩)]] w fun e w'=>∃v,e=AV v/\w'.ownsRow w.heap.size 3 1 v (Cr rs n).length ((Cr rs n).map (Value.int .i64))/\AJ w w':=by
 go_enter func109,ntmps109;go_wp2_with (go_at_call 172;refine (lZ bg M n base0 hs rs w hbg hG hin hn).mono ?_)
 first | rintro e w1 v rfl hv hb | rintro e w1 ⟨v,rfl,hv,hb⟩
 go_wp2;go_ret;exact ⟨v,rfl,hv,hb⟩
theorem sP (n:Nat) (m:AK) (w:AH):
 AS prog 110 #[AO #[AB AE n,m]] w fun e w'=>e=AV (.func (.func 173) #[] #[AU (some ⟨w.heap.size,0,none⟩)])/\w'=w.alloc (AQ #[AB AE n,m] 206):=by
 have hmf:∀(fn:Fn) (first cap:Array AK) (w:AH),(Instr.makeFunc fn first cap).run prog w=.ok (.func fn first cap) w:=fun _ _ _ _=>rfl;go_enter func110,ntmps110;go_wp2;go_ret;exact ⟨rfl,rfl⟩
theorem Zd {y:Int}:∀(xs l:AP),y∈xs.foldl Gq l->y∈l\/y∈xs
 | [],_,h=>.inl h
 |
  x::xs,l,h=>by
  rcases Zd xs _ h with h | h
  ·unfold Gq at h
   split at h
   · exact .inl h
   rcases Jq.1 h with h | h
   · exact .inl h
   simp only [Fk] at h;exact .inr (by rw [h];exact OI)
  · exact .inr (Mx _ h)
theorem oM {n:Nat} {x y:Int}:∀{rs:List Ck},(∀r∈rs,∀f∈r.froms,0<=f.schema/\f.schema < n)->y∈Bj rs x->0<=y/\y < n:=by
 intro rs hr;have gen:∀(ps:List Ck) (l:AP),(∀r∈ps,∀f∈r.froms,0<=f.schema/\f.schema < n)->(∀z∈l,0<=z/\z < n)->∀z∈ps.foldl (fun l r=>if r.schema=x then wS l r else l) l,0<=z/\z < n:=by
  intro ps
  induction ps with
  | nil=>intro l _ hl z hz;exact hl z hz
  |
   cons r ps ih=>
   intro l hp hl;simp only [Ya];refine ih _ (fun r' hr'=>hp r' (Mx _ hr')) ?_;split
   ·intro z hz
    rcases Zd _ _ hz with hz | hz
    · exact hl z hz
    obtain ⟨f,hf,rfl⟩:=Df.1 hz;exact hp r OI f hf
   · exact hl
 exact gen rs [] hr (fun z hz=>by simp at hz) y
theorem XZ (rs:List Ck) (w:AH) (h4:Ag 5 CM w (AA A4 n4 c4) rs) (hn3:n3<=1000) (hnum:∀r∈rs,(0<=r.schema/\r.schema < n3)/\∀f∈r.froms,0<=f.schema/\f.schema < n3):
 AS prog 70 #[(AO #[AA A1 n1 c1,AA A2 n2 c2,AA A3 n3 c3,AA A4 n4 c4,AA A5 n5 c5,AA A6 n6 c6])] w fun e w'=>∃v ok,e=AV (BS #[v,AX ok,AB AE 0])/\ok=decide (n3<=(Cr rs n3).length)/\w'.ownsRow w.heap.size 3 1 v (if ok then Cr rs n3 else []).length ((if ok then Cr rs n3 else []).map (Value.int .i64))/\AJ w w':=by
 obtain ⟨H4,QE⟩:=Aj h4 hnum;clear h4 hnum;have hb0:AJ w (w.alloc (AQ #[AA A1 n1 c1,AA A2 n2 c2,AA A3 n3 c3,AA A4 n4 c4,AA A5 n5 c5,AA A6 n6 c6] 29)):=(BP _ _);have HB0:=AF hb0;clear hb0;go_enter func70,ntmps70;go_wp2_with (go_at_call 108;refine (ACy A1 A2 A3 A4 A5 A6 n1 c1 n2 c2 n3 c3 n4 c4 n5 c5 n6 c6 rs _ (H4.o.mono Bh HB0.o) QE.o).mono ?_)
 first | rintro e w1 M hs rfl hG hb1 | rintro e w1 ⟨M,hs,rfl,hG,hb1⟩
 have HG:=AF hG;have HB1:AI (AJ w w1):=AF (AW HB0.o hb1);clear hG hb1;have hba:AJ w1 (w1.alloc (AQ #[AB AE n3,.map (some M)] 206)):=(Af _ _).alloc (Ad _) _;have RF:=AF hba;clear hba;go_wp2_with (first
  | (go_at_call 110;refine (sP n3 (.map (some M)) _).mono ?_;rintro e w2 ⟨rfl,rfl⟩)
  | (go_at_call 109;refine (r8 (w1.heap.size+1) M n3 _ hs rs _ (by have:=AZ.new (w1.alloc (AQ #[AB AE n3,.map (some M)] 206)) 206 #[AB AE n3,.map (some M)];simpa using this) ((HG.o.below RF.o).below (BP _ _)) (fun h y hy=>oM (fun r hr=>(QE.o r hr).2) hy) hn3).mono ?_))
 first | rintro e w2 v rfl hv hb2 | rintro e w2 ⟨v,rfl,hv,hb2⟩
 have hbx:AJ w1 w2:=(RF.o.alloc RF.o.size (AQ #[AB AE n3,.map (some M)] 206)).trans (hb2.mono BX);have kb:=(((AZ.new w1 206 #[AB AE n3,.map (some M)]).alloc (AQ #[AB AE n3,.map (some M)] 206)).below hb2 BX);have c0:=kb.cell 0;have l0:=kb.lt;simp only [Ai,An] at c0;have HV:=AF hv;obtain ⟨A,c,rfl⟩:=(M6 hv).form;have qy:AI (AJ w w2):=AF (AW HB1.o hbx);clear hv kb hb2 hbx;by_cases hlt:(Cr rs n3).length < n3
 ·have hlt2:((Cr rs n3).length:Int) < (n3:Int):=by omega
  go_wp2;go_ret3;exact ⟨_,false,rfl,by rw [BO AG],ED _ _ _ _,qy.o⟩
 have hlt2:(n3:Int)<=((Cr rs n3).length:Int):=AG
 go_wp2;go_ret3;exact ⟨_,true,rfl,by rw [Bg AG],Joins.ownsRow_le HV.o fO,qy.o⟩
theorem vx {us:List Bk} {ss:List BI} {r:Ck} (h:I0 us ss r=true):(0<=r.schema/\r.schema < ss.length)/\∀f∈r.froms,0<=f.schema/\f.schema < ss.length:=by
 simp only [I0,BZ,Bw,Option.any_eq_true] at h;obtain ⟨⟨⟨⟨⟨⟨h1,h2⟩,h3⟩,h4⟩,hd,h5,h6⟩,h7⟩,h8⟩:=h;refine ⟨⟨h4,?_⟩,?_⟩
 ·have:=(BA.1 h5).1
  omega
 intro f hf;simp only [Hx,BZ,Bw,Dr] at h1;obtain ⟨i,hi,rfl⟩:=List.mem_iff_getElem.1 hf;have:=h1.2 i (Ef.2 hi);rw [BJ hi] at this;simp only [Option.any_some,Md,BZ,Bw] at this;exact this.1
theorem Tm {s:BD} (h:FE s=0):FH s=true/\s.units.all (MU s.units)=true/\s.Ap.all (Dn s.Bl.length s.units.length)=true/\s.rules.all (I0 s.units s.Ap)=true/\s.purposes.all (Fa s.Ap)=true:=by
 unfold FE at h;split at h
 · cases h
 next h1=>
 split at h
 ·next h2=>simp only [BZ] at h2;exact ⟨by simpa using h1,h2.1.1.1,h2.1.1.2,h2.1.2,h2.2⟩
 · cases h
theorem Ov {s:BD} (h:FH s=true):s.Ap.length<=16:=by simp only [FH,BZ,Bw] at h;omega
def uM (s:BD):Bool:=decide (s.Ap.length<=(Cr s.rules s.Ap.length).length)
def Kb (s:BD):Int:=if FE s=0 then (if uM s then 0 else 141) else FE s
theorem kQ (s:BD) (w:AH) (h1:Ag 1 DV w (AA A1 n1 c1) s.Bl) (h2:Ag 5 CK w (AA A2 n2 c2) s.units) (h3:Ag 6 BR w (AA A3 n3 c3) s.Ap) (h4:Ag 5 CM w (AA A4 n4 c4) s.rules) (h5:n5=s.converts.length) (h6:Ag 3 BT w (AA A6 n6 c6) s.purposes)
 (hr:s.Ap.all (Dn s.Bl.length s.units.length)=true->∀(W:AH) (g:Nat),AJ w W->AZ W g 126 #[AA A1 n1 c1,AA A2 n2 c2,AA A3 n3 c3,AA A4 n4 c4,AA A5 n5 c5,AA A6 n6 c6]->Says 95 #[] #[AU (some ⟨g,0,none⟩)] CM (I0 s.units s.Ap) s.rules W)
 (hp:∀(W:AH),AJ w W->Says 103 #[(AO #[AA A1 n1 c1,AA A2 n2 c2,AA A3 n3 c3,AA A4 n4 c4,AA A5 n5 c5,AA A6 n6 c6])] #[] BT (Fa s.Ap) s.purposes W):
 AS prog 105 #[(AO #[AA A1 n1 c1,AA A2 n2 c2,AA A3 n3 c3,AA A4 n4 c4,AA A5 n5 c5,AA A6 n6 c6])] w fun e w'=>e=AV (AB AE (Kb s))/\AJ w w':=by
 have hb0:AJ w (w.alloc (AQ #[AA A1 n1 c1,AA A2 n2 c2,AA A3 n3 c3,AA A4 n4 c4,AA A5 n5 c5,AA A6 n6 c6] 29)):=(BP _ _);obtain ⟨t,ht⟩:=BH (FE s);have HC:AI (AS prog 66 #[(AO #[AA A1 n1 c1,AA A2 n2 c2,AA A3 n3 c3,AA A4 n4 c4,AA A5 n5 c5,AA A6 n6 c6])] (w.alloc (AQ #[AA A1 n1 c1,AA A2 n2 c2,AA A3 n3 c3,AA A4 n4 c4,AA A5 n5 c5,AA A6 n6 c6] 29)) fun e w'=>e=AV (AB AE t)/\BK (w.alloc (AQ #[AA A1 n1 c1,AA A2 n2 c2,AA A3 n3 c3,AA A4 n4 c4,AA A5 n5 c5,AA A6 n6 c6] 29)).heap.size (w.alloc (AQ #[AA A1 n1 c1,AA A2 n2 c2,AA A3 n3 c3,AA A4 n4 c4,AA A5 n5 c5,AA A6 n6 c6] 29)) w'):=AF (by rw [<-ht];exact WD A1 A2 A3 A4 A5 A6 n1 c1 n2 c2 n3 c3 n4 c4 n5 c5 n6 c6 s _ (h1.mono Ba hb0) (h2.mono Bn hb0) (h3.mono BM hb0) (h4.mono Bh hb0) h5 (h6.mono BN hb0) (fun h W g hW=>hr h W g (AW hb0 hW)) (fun W hW=>hp W (AW hb0 hW)))
 obtain ⟨HT,HB0,LJ,H4⟩:=CJ ht hb0 h3.len h4;clear ht hb0 h1 h2 h3 h4 h5 h6 hr hp;go_enter func105,ntmps105;go_wp2_with (go_at_call 66;refine HC.o.mono ?_)
 first | rintro e w1 rfl hb1 | rintro e w1 ⟨rfl,hb1⟩
 have HB1:AI (AJ w w1):=AF (AW HB0.o hb1);have kb:=(AZ.new w 29 #[AA A1 n1 c1,AA A2 n2 c2,AA A3 n3 c3,AA A4 n4 c4,AA A5 n5 c5,AA A6 n6 c6]).below hb1 Ac;have q0:=kb.cell 0;have q1:=kb.cell 1;have q2:=kb.cell 2;have q3:=kb.cell 3;have q4:=kb.cell 4;have q5:=kb.cell 5;have lq:=kb.lt;simp only [Ai,An,Aw] at q0 q1 q2 q3 q4 q5;clear hb1 kb HC;by_cases ht0:t=0
 ·subst ht0
  have QE:AI (n3<=1000/\∀r∈s.rules,(0<=r.schema/\r.schema < n3)/\∀f∈r.froms,0<=f.schema/\f.schema < n3):=AF (by obtain ⟨h1,h2,h3,h4,h5⟩:=Tm HT.o;refine ⟨by have:=Ov h1;have:=LJ.o;omega,fun r hr=> ?_⟩;rw [LJ.o];exact mE)
  go_wp2_with (go_at_call 70;refine (XZ A1 A2 A3 A4 A5 A6 n1 c1 n2 c2 n3 c3 n4 c4 n5 c5 n6 c6 s.rules w1 (H4.o.mono Bh HB1.o) QE.o.1 QE.o.2).mono ?_)
  first | rintro e w2 v ok rfl hok hv hb2 | rintro e w2 ⟨v,ok,rfl,hok,hv,hb2⟩
  have I5:=AF hok;have HB2:AI (AJ w w2):=AF (AW HB1.o hb2);clear hok hv hb2;cases ok with
  |
   true=>
   go_wp2;go_ret;exact zC
  |
   false=>
   go_wp2;go_ret;exact zC
 have htn:(t !=0)=true:=by simpa using ht0
 go_wp2;go_ret;exact ⟨C8 (by rw [Kb,HT.o,Ah ht0]),HB1.o⟩
theorem lF (A B:Option Aa) (n c m d:Nat) (l r:List Bk) (w:AH) (hl:Ag 5 CK w (AA A n c) l) (hr:Ag 5 CK w (AA B m d) r):
 AS prog 112 #[AA A n c,AA B m d] w fun e w'=>e=AV (AX (BW l r))/\AJ w w':=by
 have hn2:n<=9223372036854775807:=by have:=hl.le;omega
 have hln:=hl.len;have hrn:=hr.len;obtain ⟨HL,HR⟩:=Aj hl hr;clear hl hr;by_cases e:n=m
 ·subst e
  have el:l.length=r.length:=AG
  obtain ⟨HN,HE⟩:=Aj hln el;clear hln hrn el;obtain ⟨v,hv⟩:=BH (BW l r);rw [hv];have HV:AI (BW (l.drop 0) (r.drop 0)=v):=AF hv;clear hv;go_enter func112,ntmps112;go_wp2_with fail;go_loopg [13] n (fun q i wr=>∃k:Nat,k<=n/\q=n - k/\i=AB AE k/\BW (l.drop k) (r.drop k)=v/\AJ w wr)
  case atStart=>exact J4
  obtain ⟨k,hk,hq,rfl,hv,hb⟩:=hrel;obtain ⟨HQ,HB,Dw⟩:=Az hq hb hv;clear hq hb hv HV;by_cases hlt:k < n
  ·obtain ⟨a,ao,x,rfl,hal,hx,e0,e1,e2,e3,e4⟩:=Nx (HL.o.mono Bn HB.o) hlt
   obtain ⟨b,bo,y,rfl,hbl,hy,d0,d1,d2,d3,d4⟩:=Nx (HR.o.mono Bn HB.o) hlt;obtain ⟨HX,HY⟩:=Aj hx hy;have hkn:(k:Int) < (n:Int):=AG
   have hk0:=Int.natCast_nonneg k
   clear hx hy;have hne:=AGJ x y;exact YV
  exact ME
 have el:¬l.length=r.length:=AG
 rw [FZ el];go_enter func112,ntmps112;exact J5
theorem lI (A B:Option Aa) (n c m d:Nat) (l r:List Br) (w:AH) (hl:Ag 8 DI w (AA A n c) l) (hr:Ag 8 DI w (AA B m d) r):
 AS prog 182 #[AA A n c,AA B m d] w fun e w'=>e=AV (AX (BW l r))/\AJ w w':=by
 have hn2:n<=9223372036854775807:=by have:=hl.le;omega
 have hln:=hl.len;have hrn:=hr.len;obtain ⟨HL,HR⟩:=Aj hl hr;clear hl hr;by_cases e:n=m
 ·subst e
  have el:l.length=r.length:=AG
  obtain ⟨HN,HE⟩:=Aj hln el;clear hln hrn el;obtain ⟨v,hv⟩:=BH (BW l r);rw [hv];have HV:AI (BW (l.drop 0) (r.drop 0)=v):=AF hv;clear hv;go_enter func182,ntmps182;go_wp2_with fail;go_loopg [13] n (fun q i wr=>∃k:Nat,k<=n/\q=n - k/\i=AB AE k/\BW (l.drop k) (r.drop k)=v/\AJ w wr)
  case atStart=>exact J4
  obtain ⟨k,hk,hq,rfl,hv,hb⟩:=hrel;obtain ⟨HQ,HB,Dw⟩:=Az hq hb hv;clear hq hb hv HV;by_cases hlt:k < n
  ·obtain ⟨a,ao,x,rfl,hal,hx,e0,e1,e2,e3,e4,e5,e6,e7⟩:=Px (HL.o.mono FL HB.o) hlt
   obtain ⟨b,bo,y,rfl,hbl,hy,d0,d1,d2,d3,d4,d5,d6,d7⟩:=Px (HR.o.mono FL HB.o) hlt;obtain ⟨HX,HY⟩:=Aj hx hy;have hkn:(k:Int) < (n:Int):=AG
   have hk0:=Int.natCast_nonneg k
   clear hx hy;have hne:=AGL x y;exact YV
  exact ME
 have el:¬l.length=r.length:=AG
 rw [FZ el];go_enter func182,ntmps182;exact J5
theorem lJ (A B:Option Aa) (n c m d:Nat) (l r:List Gf) (w:AH) (hl:Ag 11 EQ w (AA A n c) l) (hr:Ag 11 EQ w (AA B m d) r):
 AS prog 183 #[AA A n c,AA B m d] w fun e w'=>e=AV (AX (BW l r))/\AJ w w':=by
 have hn2:n<=9223372036854775807:=by have:=hl.le;omega
 have hln:=hl.len;have hrn:=hr.len;obtain ⟨HL,HR⟩:=Aj hl hr;clear hl hr;by_cases e:n=m
 ·subst e
  have el:l.length=r.length:=AG
  obtain ⟨HN,HE⟩:=Aj hln el;clear hln hrn el;obtain ⟨v,hv⟩:=BH (BW l r);rw [hv];have HV:AI (BW (l.drop 0) (r.drop 0)=v):=AF hv;clear hv;go_enter func183,ntmps183;go_wp2_with fail;go_loopg [13] n (fun q i wr=>∃k:Nat,k<=n/\q=n - k/\i=AB AE k/\BW (l.drop k) (r.drop k)=v/\AJ w wr)
  case atStart=>exact J4
  obtain ⟨k,hk,hq,rfl,hv,hb⟩:=hrel;obtain ⟨HQ,HB,Dw⟩:=Az hq hb hv;clear hq hb hv HV;by_cases hlt:k < n
  ·obtain ⟨a,ao,x,rfl,hal,hx,e0,e1,e2,e3,e4,e5,e6,e7,e8,e9,e10⟩:=aD (HL.o.mono Gi HB.o) hlt
   obtain ⟨b,bo,y,rfl,hbl,hy,d0,d1,d2,d3,d4,d5,d6,d7,d8,d9,d10⟩:=aD (HR.o.mono Gi HB.o) hlt;obtain ⟨HX,HY⟩:=Aj hx hy;have hkn:(k:Int) < (n:Int):=AG
   have hk0:=Int.natCast_nonneg k
   clear hx hy;have hne:=AGM x y;exact YV
  exact ME
 have el:¬l.length=r.length:=AG
 rw [FZ el];go_enter func183,ntmps183;exact J5
theorem pg (A B:Option Aa) (n c m d:Nat) (l r:List Kf) (w:AH) (hl:Ag 7 Gc w (AA A n c) l) (hr:Ag 7 Gc w (AA B m d) r):
 AS prog 184 #[AA A n c,AA B m d] w fun e w'=>e=AV (AX (BW l r))/\AJ w w':=by
 have hn2:n<=9223372036854775807:=by have:=hl.le;omega
 have hln:=hl.len;have hrn:=hr.len;obtain ⟨HL,HR⟩:=Aj hl hr;clear hl hr;by_cases e:n=m
 ·subst e
  have el:l.length=r.length:=AG
  obtain ⟨HN,HE⟩:=Aj hln el;clear hln hrn el;obtain ⟨v,hv⟩:=BH (BW l r);rw [hv];have HV:AI (BW (l.drop 0) (r.drop 0)=v):=AF hv;clear hv;go_enter func184,ntmps184;go_wp2_with fail;go_loopg [13] n (fun q i wr=>∃k:Nat,k<=n/\q=n - k/\i=AB AE k/\BW (l.drop k) (r.drop k)=v/\AJ w wr)
  case atStart=>exact J4
  obtain ⟨k,hk,hq,rfl,hv,hb⟩:=hrel;obtain ⟨HQ,HB,Dw⟩:=Az hq hb hv;clear hq hb hv HV;by_cases hlt:k < n
  ·obtain ⟨a,ao,x,rfl,hal,hx,e0,e1,e2,e3,e4,e5,e6⟩:=gJ (HL.o.mono IE HB.o) hlt
   obtain ⟨b,bo,y,rfl,hbl,hy,d0,d1,d2,d3,d4,d5,d6⟩:=gJ (HR.o.mono IE HB.o) hlt;obtain ⟨HX,HY⟩:=Aj hx hy;have hkn:(k:Int) < (n:Int):=AG
   have hk0:=Int.natCast_nonneg k
   clear hx hy;have hne:=AGw x y;exact YV
  exact ME
 have el:¬l.length=r.length:=AG
 rw [FZ el];go_enter func184,ntmps184;exact J5
theorem lH (A B:Option Aa) (n c m d:Nat) (l r:List IL) (w:AH) (hl:Ag 5 GJ w (AA A n c) l) (hr:Ag 5 GJ w (AA B m d) r):
 AS prog 185 #[AA A n c,AA B m d] w fun e w'=>e=AV (AX (BW l r))/\AJ w w':=by
 have hn2:n<=9223372036854775807:=by have:=hl.le;omega
 have hln:=hl.len;have hrn:=hr.len;obtain ⟨HL,HR⟩:=Aj hl hr;clear hl hr;by_cases e:n=m
 ·subst e
  have el:l.length=r.length:=AG
  obtain ⟨HN,HE⟩:=Aj hln el;clear hln hrn el;obtain ⟨v,hv⟩:=BH (BW l r);rw [hv];have HV:AI (BW (l.drop 0) (r.drop 0)=v):=AF hv;clear hv;go_enter func185,ntmps185;go_wp2_with fail;go_loopg [13] n (fun q i wr=>∃k:Nat,k<=n/\q=n - k/\i=AB AE k/\BW (l.drop k) (r.drop k)=v/\AJ w wr)
  case atStart=>exact J4
  obtain ⟨k,hk,hq,rfl,hv,hb⟩:=hrel;obtain ⟨HQ,HB,Dw⟩:=Az hq hb hv;clear hq hb hv HV;by_cases hlt:k < n
  ·obtain ⟨a,ao,x,rfl,hal,hx,e0,e1,e2,e3,e4⟩:=aC (HL.o.mono IG HB.o) hlt
   obtain ⟨b,bo,y,rfl,hbl,hy,d0,d1,d2,d3,d4⟩:=aC (HR.o.mono IG HB.o) hlt;obtain ⟨HX,HY⟩:=Aj hx hy;have hkn:(k:Int) < (n:Int):=AG
   have hk0:=Int.natCast_nonneg k
   clear hx hy;have hne:=AGK x y;exact YV
  exact ME
 have el:¬l.length=r.length:=AG
 rw [FZ el];go_enter func185,ntmps185;exact J5
theorem ph (A B:Option Aa) (n c m d:Nat) (l r:List Jl) (w:AH) (hl:Ag 4 IF w (AA A n c) l) (hr:Ag 4 IF w (AA B m d) r):
 AS prog 186 #[AA A n c,AA B m d] w fun e w'=>e=AV (AX (BW l r))/\AJ w w':=by
 have hn2:n<=9223372036854775807:=by have:=hl.le;omega
 have hln:=hl.len;have hrn:=hr.len;obtain ⟨HL,HR⟩:=Aj hl hr;clear hl hr;by_cases e:n=m
 ·subst e
  have el:l.length=r.length:=AG
  obtain ⟨HN,HE⟩:=Aj hln el;clear hln hrn el;obtain ⟨v,hv⟩:=BH (BW l r);rw [hv];have HV:AI (BW (l.drop 0) (r.drop 0)=v):=AF hv;clear hv;go_enter func186,ntmps186;go_wp2_with fail;go_loopg [13] n (fun q i wr=>∃k:Nat,k<=n/\q=n - k/\i=AB AE k/\BW (l.drop k) (r.drop k)=v/\AJ w wr)
  case atStart=>exact J4
  obtain ⟨k,hk,hq,rfl,hv,hb⟩:=hrel;obtain ⟨HQ,HB,Dw⟩:=Az hq hb hv;clear hq hb hv HV;by_cases hlt:k < n
  ·obtain ⟨a,ao,x,rfl,hal,hx,e0,e1,e2,e3⟩:=gK (HL.o.mono J8 HB.o) hlt
   obtain ⟨b,bo,y,rfl,hbl,hy,d0,d1,d2,d3⟩:=gK (HR.o.mono J8 HB.o) hlt;obtain ⟨HX,HY⟩:=Aj hx hy;have hkn:(k:Int) < (n:Int):=AG
   have hk0:=Int.natCast_nonneg k
   clear hx hy;have hne:=AGx x y;exact YV
  exact ME
 have el:¬l.length=r.length:=AG
 rw [FZ el];go_enter func186,ntmps186;exact J5
theorem Gx {α:Type} [DecidableEq α] {l r:List α} (h:BW l r=true):l=r:=Fj h
theorem JP {α:Type} [DecidableEq α] {l r:List α} (h:BW l r=false):¬l=r:=Mu h
theorem af (A:Option Aa) (n c:Nat) (l:AP) (w:AH) (hs:Ag 1 iR w (AA A n c) l):
 AS prog 160 #[AA A n c] w fun e w'=>e=AV (AX (Dm [] l))/\AJ w w':=by
 have hn2:n<=9223372036854775807:=by have:=hs.le;omega
 obtain ⟨HN,HS⟩:=Aj hs.len hs;clear hs;have hmm:∀(n:Int) (w:AH),(Instr.makeMap 201 (some (AB AE n))).run prog w=.ok (.map (some w.heap.size)) (w.alloc (.map #[] 0)):=by intro n w;simp [Instr.makeMap,run_underlying underlying201,asInt,asIntOf]
 obtain ⟨v,hv⟩:=BH (Dm [] l);rw [hv];have HV:AI (Dm (l.take 0) (l.drop 0)=v):=AF hv;clear hv;go_enter func160,ntmps160;go_wp2_with fail;clear hmm;have hm0:MapAt (Value.int .i64) Value.bool (w.alloc (.map #[] 0)) w.heap.size (Ev (l.take 0)):=MapAt.new _ _ w;have hb0:AJ w (w.alloc (.map #[] 0)):=(Af _ _).alloc (Ad _) _;obtain ⟨ML,HB0⟩:=Aj hm0 hb0;clear hm0 hb0;go_loopg [11] n (fun g i wr=>∃k:Nat,k<=n/\g=n - k/\i=AB AE k/\Dm (l.take k) (l.drop k)=v/\MapAt (Value.int .i64) Value.bool wr w.heap.size (Ev (l.take k))/\AJ w wr)
 case atStart=>exact AAf
 clear ML HB0 HV;obtain ⟨k,hk,hg,rfl,hv,hm,hb⟩:=hrel;obtain ⟨HG,HB⟩:=Aj hg hb;by_cases hlt:k < n
 ·obtain ⟨b,off,x,rfl,hbl,hx,hc⟩:=wW (HS.o.mono JS HB.o) hlt
  rw [drop_cons hx,Dm] at hv;have hlook:=DH (IW underlying3) underlying201 (z:=AX false) AL hm x false;rw [Xw] at hlook;by_cases hmem:x∈l.take k
  ·rw [Am hmem] at hv hlook
   exact AAL
  rw [Ah hmem] at hv hlook;simp only [JJ,Jt,If,Hn] at hlook;obtain ⟨w3,hrun3,EI,hg3⟩:=FG (IW underlying3) underlying201 hm x true;exact AAY
 exact AAC
def zT:Fe:=⟨0,0,0,⟨#[]⟩,0,[]⟩
def OX (o:Option Fe) (w0 w:AH) (e:Ending) (w':AH):Prop:=
 (∃B m d,e=AV (BS #[AO #[AB AE (o.getD zT).kind,AB AE (o.getD zT).lo,AB AE (o.getD zT).hi,AN (o.getD zT).Av,AB AE (o.getD zT).unit,AA B m d],AX o.isSome])/\BQ 1 16 DV w0 (AA B m d) (o.getD zT).names)/\AJ w w'
theorem RH (s f:Int) (ss:List BI) (w0 w:AH) (hb0:AJ w0 w) (h3:Ag 6 BR w0 (AA A3 n3 c3) ss):
 AS prog 55 #[(AO #[AA A1 n1 c1,AA A2 n2 c2,AA A3 n3 c3,AA A4 n4 c4,AA A5 n5 c5,AA A6 n6 c6]),AB AE s,AB AE f] w (OX (typeAt ss s f) w0 w):=by
 have hn3:n3<=9223372036854775807:=by have:=h3.le;omega
 obtain ⟨H9,H3,HB0⟩:=Az h3.len h3 hb0;clear h3 hb0;by_cases hin:0<=s/\s < n3
 case neg=>
  have HT:AI (typeAt ss s f=none):=AF (by
   unfold typeAt;split
   · rfl
   have:ss[s.toNat]? =none:=DY Y1;rw [this];rfl)
  exact AAb
 obtain ⟨k,rfl⟩:∃k:Nat,s=k:=⟨s.toNat,by omega⟩;obtain ⟨b,off,x,B1,m1,d1,B2,m2,d2,hA3,hbl,hx,e0,e1,e2,e3,e4,e5,G1,G2⟩:=Fz H3.o (k:=k) AG;subst hA3;have hk0:=Int.natCast_nonneg k
 have hk1:(k:Int) < (n3:Int):=AG
 have hm1:m1<=9223372036854775807:=by have:=G1.1.le;omega
 have LK:=AF G1.1.len;rw [<-HB0.o.cell (p:=⟨b,_,none⟩) hbl] at e4;have AHt:b < w.heap.size:=Ay hbl HB0.o.size;have HX:AI (typeAt ss k f=if f < 0 then none else (x.fields[f.toNat]?).map fun y=>y.type):=AF (by
  unfold typeAt;by_cases hf:f < 0
  · rw [Am (.inr hf),Am hf]
  · rw [Ah AG,Ah hf,CZ,hx];rfl)
 have HG1:=AF G1;clear hx G1 G2 e0 e1 e2 e3 e5 hin;by_cases hfi:0<=f/\f < m1
 case neg=>
  have HT:AI (typeAt ss k f=none):=AF (by
   rw [HX.o];split
   · rfl
   have:x.fields[f.toNat]? =none:=DY (by have:=LK.o;omega);rw [this];rfl)
  exact AAb
 obtain ⟨j,rfl⟩:∃j:Nat,f=j:=⟨f.toNat,by omega⟩;obtain ⟨b',off',y,C,mc,dc,hB1,gY,hy,f0,f1,f2,f3,f4,f5,f6,f7,f8,f9,f10,G3⟩:=IV HG1.o.1 (k:=j) AG;subst hB1;have hj0:(0:Int)<=(j:Int):=AG
 have hj1:(j:Int) < (m1:Int):=AG
 have HT:AI (typeAt ss k j=some y.type):=AF (by rw [HX.o,Ah AG,CZ,hy];rfl)
 rw [HT.o];have eM:=AF G3;rw [<-HB0.o.cell (p:=⟨b',_,none⟩) gY] at f1 f2 f3 f4 f5 f6;have ALY:b' < w.heap.size:=Ay gY HB0.o.size;clear hy G3 f0 f7 f8 f9 f10 hfi;have HB:AI (∀o1 o2,AJ w ((w.alloc o1).alloc o2)):=AF fun o1 o2=>((BP _ _).alloc Ac _);go_enter func55,ntmps55;go_wp2_with fail;exact E8 (v:=BS #[AO #[AB AE y.type.kind,AB AE y.type.lo,AB AE y.type.hi,AN y.type.Av,AB AE y.type.unit,AA C mc dc],AX true]) ti rfl ⟨⟨_,_,_,rfl,eM.o⟩,(BP _ _).alloc Ac _⟩
theorem SX (t:DP) (w:AH):
 AS prog 211 #[AO #[AN t.name,AN t.path,AB AE t.var,AB AE t.field,AB AE t.n]] w fun e w'=>e=AV (AX (isNum t))/\AJ w w':=by
 go_enter func211,ntmps211;go_wp2_with fail
 all_goals
  go_ret;refine ⟨A8 ?_,(Af _ _).alloc (Ad _) _⟩
  go_light
  first
   | (simp_all [isNum];done)
   | (simp_all [isNum];intros;exfalso;omega)
   | (simp_all [isNum];intros;omega)
theorem AZ.six' {w:AH} {g:Nat} {t:Ae} {a b c d e f:AK} (h:AZ w g t #[a,b,c,d,e,f]):
 w.cell? ⟨g,0,none⟩=some a/\w.cell? ⟨g,1,none⟩=some b/\w.cell? ⟨g,2,none⟩=some c/\w.cell? ⟨g,3,none⟩=some d/\w.cell? ⟨g,4,none⟩=some e/\w.cell? ⟨g,5,none⟩=some f:=
 ⟨h.cell 0,h.cell 1,h.cell 2,h.cell 3,h.cell 4,h.cell 5⟩
def cW (ss:List BI) (r:Jl):Bool:=(typeAt ss r.schema r.field).isSome
theorem XV (ss:List BI) (p:Cj):Fa ss p=(p.may.all (cW ss) && decide (0<=p.most) && decide (p.most<=64)):=rfl
theorem wJ {ss:List BI} {p:Cj} {k:Nat} {x:Jl} (hx:p.may[k]? =some x) (h:typeAt ss x.schema x.field=none):Fa ss p=false:=by rw [XV,Jb hx (by rw [cW,h];rfl)];rfl
theorem kj (nm:ByteArray) (may:List Jl) (most:Int) (B:Option Aa) (m d:Nat) (ss:List BI) (w0 w:AH) (hb0:AJ w0 w) (h3:Ag 6 BR w0 (AA A3 n3 c3) ss) (hm:Ag 4 IF w (AA B m d) may):
 AS prog 103 #[(AO #[AA A1 n1 c1,AA A2 n2 c2,AA A3 n3 c3,AA A4 n4 c4,AA A5 n5 c5,AA A6 n6 c6]),AO #[AN nm,AA B m d,AB AE most]] w fun e w'=>e=AV (AX (Fa ss ⟨nm,may,most⟩))/\AJ w w':=by
 have hm1:m<=9223372036854775807:=by have:=hm.le;omega
 obtain ⟨HLM,HM,H3,HB0⟩:=CJ hm.len hm h3 hb0;clear hm h3 hb0;obtain ⟨wb,hwb⟩:=Ab ((w.alloc (AQ #[AA A1 n1 c1,AA A2 n2 c2,AA A3 n3 c3,AA A4 n4 c4,AA A5 n5 c5,AA A6 n6 c6] 126)).alloc (AQ #[AN nm,AA B m d,AB AE most] 157));have hbb:AJ w wb:=by rw [hwb];exact Od
 have kA:AZ wb w.heap.size 126 #[AA A1 n1 c1,AA A2 n2 c2,AA A3 n3 c3,AA A4 n4 c4,AA A5 n5 c5,AA A6 n6 c6]:=by rw [hwb];exact (AZ.new _ _ _).alloc _
 have kB:AZ wb (w.heap.size+1) 157 #[AN nm,AA B m d,AB AE most]:=by rw [hwb];exact EJ Ac
 obtain ⟨ga,hga⟩:=Ab w.heap.size;obtain ⟨gb,hgb⟩:=Ab (w.heap.size+1);rw [<-hgb] at kB;rw [<-hga] at kA;obtain ⟨HA,HB,BV,Cg⟩:=CJ kA kB hbb hwb;have b1:=kB.cell 1;simp only [Ai,An,Aw] at b1;have lA:=kA.lt;have lB:=kB.lt;clear kA kB hbb hwb;go_enter func103,ntmps103;go_upto_region 1 with fail;rw [<-Cg.o,<-hgb,<-hga];clear Cg hga hgb;go_wp2_with fail;clear b1;go_loopg [12] m (fun q i wr=>∃k:Nat,k<=m/\q=m - k/\i=AB AE k/\(may.take k).all (cW ss)=true/\AJ wb wr)
 case atStart=>exact Li
 obtain ⟨k,hk,hq,rfl,hall,hb⟩:=hrel;obtain ⟨HQ,EL,DF⟩:=Az hq hall hb;have CY:AI (AJ w wr):=AF (AW BV.o hb);obtain ⟨a0,a1,a2,a3,a4,a5⟩:=(HA.o.below hb lA).six';have uS:ga < wr.heap.size:=Ay lA hb.size;have lBr:gb < wr.heap.size:=Ay lB hb.size;have q1:=(HB.o.below hb lB).cell 1;have q2:=(HB.o.below hb lB).cell 2;simp only [Ai,An,Aw] at q1 q2;clear hq hall hb;by_cases hlt:k < m
 case neg=>
  have HT:AI (may.all (cW ss)=true):=by have:=EL.o;rw [Cy (by have:=HLM.o;omega)] at this;exact this
  have HE:AI (Fa ss ⟨nm,may,most⟩=(decide (0<=most) && decide (most<=64))):=AF (by rw [XV,HT.o];rfl);go_wp2_with fail
  all_goals
   go_ret;refine ⟨A8 (Fg ?_ HE.o.symm),CY.o⟩
   go_light
   first
    | rfl
    | (simp_all;done)
    | (simp_all;omega)
 obtain ⟨b,off,x,hB1,hbl,hx,e0,e1,e2,e3⟩:=gK (HM.o.mono J8 CY.o) hlt;subst hB1;have hk0:=Int.natCast_nonneg k
 have hk1:(k:Int) < (m:Int):=AG
 have HX:=AF hx;clear hx;have HT:=AF (fun o=>RH A1 A2 A3 A4 A5 A6 n1 c1 n2 c2 n3 c3 n4 c4 n5 c5 n6 c6 x.schema x.field ss w0 (wr.alloc o) (AW HB0.o (CY.o.alloc CY.o.size o)) H3.o);obtain ⟨o,ho⟩:=BH (typeAt ss x.schema x.field);rw [ho] at HT;have HO:=AF ho;clear ho;cases o with
 |
  none=>
  have HN:AI (Fa ss ⟨nm,may,most⟩=false):=AF (wJ HX.o HO.o);go_wp2_with (go_at_call 55;refine (HT.o _).mono ?_;clear HT;rintro e w2 ⟨⟨B',m',d',rfl,hs⟩,hb2⟩;have HB2:=AF ((CY.o.alloc CY.o.size _).trans (hb2.mono (by have:=CY.o.size;simp;omega)));clear hs hb2;simp only [Hr]);go_ret;exact ⟨A8 HN.o.symm,HB2.o.alloc HB2.o.size _⟩
 |
  some y=>
  obtain ⟨yk,yl,yh,yf,yu,yn⟩:=y;go_wp2_with (go_at_call 55;refine (HT.o _).mono ?_;clear HT;rintro e w2 ⟨⟨B',m',d',rfl,hs⟩,hb2⟩;have HB2:=AF ((DF.o.alloc DF.o.size _).trans (hb2.mono QT));clear hs hb2;simp only [Ce,GF]);go_roundg (m - (k+1))
  case measure=>exact Bc
  case rel=>exact ⟨k+1,by omega,rfl,by go_num,Er HX.o (by rw [cW,HO.o];rfl) EL.o,HB2.o.alloc HB2.o.size _⟩
theorem AZ.six {w:AH} {g:Nat} {t:Ae} {a b c d e f:AK} (h:AZ w g t #[a,b,c,d,e,f]):
 w.cell? ⟨g,0,none⟩=some a/\w.cell? ⟨g,1,none⟩=some b/\w.cell? ⟨g,2,none⟩=some c/\w.cell? ⟨g,3,none⟩=some d/\w.cell? ⟨g,4,none⟩=some e/\w.cell? ⟨g,5,none⟩=some f:=
 ⟨h.cell 0,h.cell 1,h.cell 2,h.cell 3,h.cell 4,h.cell 5⟩
theorem R9 (F1 F2 F3:Option Aa) (m1 d1 m2 d2 m3 d3:Nat) (hd:ByteArray) (Dv:Int) (t:DP) (vars:Int) (ss:List BI) (fs:List Br) (w0 w:AH) (hb0:AJ w0 w) (h3:Ag 6 BR w0 (AA A3 n3 c3) ss) (hf:Ag 8 DI w0 (AA F1 m1 d1) fs) (hv0:0<=vars) (hv:vars<=m1):
 AS prog 210 #[(AO #[AA A1 n1 c1,AA A2 n2 c2,AA A3 n3 c3,AA A4 n4 c4,AA A5 n5 c5,AA A6 n6 c6,AN hd,AB AE Dv,AA F1 m1 d1,AA F2 m2 d2,AA F3 m3 d3]),AO #[AN t.name,AN t.path,AB AE t.var,AB AE t.field,AB AE t.n],AB AE vars] w (OX (Fu ss fs t vars.toNat) w0 w):=by
 have hm1:m1<=9223372036854775807:=by have:=hf.le;omega
 obtain ⟨H3,HF,HB0⟩:=Az h3 hf hb0;clear h3 hf hb0;obtain ⟨nm,pa,va,fi,nn⟩:=t;by_cases hin:0<=va/\va < vars
 case neg=>
  have HT:AI (Fu ss fs ⟨nm,pa,va,fi,nn⟩ vars.toNat=none):=AF (by unfold Fu;rw [Am (by simp only;omega)])
  rw [HT.o];simp only;go_enter func210,ntmps210;go_wp2_with fail
  all_goals first
   | (exfalso;omega)
   | exact E8 (v:=BS #[AO #[AB AE 0,AB AE 0,AB AE 0,AN ⟨#[]⟩,AB AE 0,AA none 0 0],AX false]) (by simp [results,results210,go_sem]) rfl ⟨⟨_,_,_,rfl,Ag.nil _ _ (Ar _),by simp [zT]⟩,(((BP _ _).alloc Ac _).alloc BX _)⟩
 obtain ⟨k,rfl⟩:∃k:Nat,va=k:=⟨va.toNat,by omega⟩;obtain ⟨b,off,x,hF1,hbl,hx,e0,e1,e2,e3,e4,e5,e6,e7⟩:=Px HF.o (k:=k) AG;subst hF1;rw [<-HB0.o.cell (p:=⟨b,_,none⟩) hbl] at e2;have hbl:=Ay hbl HB0.o.size;have hk0:=Int.natCast_nonneg k
 have hk1:(k:Int) < (m1:Int):=AG
 have hk2:(k:Int) < vars:=AG
 have HT:AI (Fu ss fs ⟨nm,pa,k,fi,nn⟩ vars.toNat=typeAt ss x.schema fi):=AF (by unfold Fu;rw [Ah (by simp only;omega)];simp only [CZ,hx,Option.bind_some])
 rw [HT.o];simp only;clear hx e0 e1 e3 e4 e5 e6 e7 hin hv HF;have eB:AI (∀W,AJ w0 W->AS prog 55 #[(AO #[AA A1 n1 c1,AA A2 n2 c2,AA A3 n3 c3,AA A4 n4 c4,AA A5 n5 c5,AA A6 n6 c6]),AB AE x.schema,AB AE fi] W (OX (typeAt ss x.schema fi) w0 W)):=AF
  (fun W hW=>RH A1 A2 A3 A4 A5 A6 n1 c1 n2 c2 n3 c3 n4 c4 n5 c5 n6 c6 x.schema fi ss w0 W hW H3.o)
 obtain ⟨o,ho⟩:=BH (typeAt ss x.schema fi);rw [ho] at eB ⊢;clear ho;unfold OX at eB ⊢;obtain ⟨T,hT⟩:=BH (o.getD zT);obtain ⟨bo,jP⟩:=BH o.isSome;rw [hT,jP] at eB ⊢;clear hT jP;obtain ⟨tk,tl,th,tf,tu,tn⟩:=T;simp only at eB ⊢;go_enter func210,ntmps210;go_wp2_with fail;obtain ⟨wb,hwb⟩:=Ab ((w.alloc (AQ #[AA A1 n1 c1,AA A2 n2 c2,AA A3 n3 c3,AA A4 n4 c4,AA A5 n5 c5,AA A6 n6 c6,AN hd,AB AE Dv,AA (some ⟨b,off,none⟩) m1 d1,AA F2 m2 d2,AA F3 m3 d3] 189)).alloc (AQ #[AN nm,AN pa,AB AE k,AB AE fi,AB AE nn] 271));rw [<-hwb];have hbb:AJ w wb:=by rw [hwb];exact Od
 have kA:AZ wb w.heap.size 189 #[AA A1 n1 c1,AA A2 n2 c2,AA A3 n3 c3,AA A4 n4 c4,AA A5 n5 c5,AA A6 n6 c6,AN hd,AB AE Dv,AA (some ⟨b,off,none⟩) m1 d1,AA F2 m2 d2,AA F3 m3 d3]:=by rw [hwb];exact (AZ.new _ _ _).alloc _
 have kB:AZ wb (w.heap.size+1) 271 #[AN nm,AN pa,AB AE k,AB AE fi,AB AE nn]:=by rw [hwb];exact EJ Ac
 have hsz:wb.heap.size=w.heap.size+2:=by rw [hwb];simp
 have CV:=AF hsz;clear hsz;obtain ⟨ga,hga⟩:=Ab w.heap.size;obtain ⟨gb,hgb⟩:=Ab (w.heap.size+1);obtain ⟨gz,hgz⟩:=Ab (w.heap.size+1+1);rw [<-hgz];rw [<-hgb] at kB ⊢;rw [<-hga] at kA ⊢;have HGZ:AI (gz=wb.heap.size):=AF fD;have a0:=kA.cell 0;have a1:=kA.cell 1;have a2:=kA.cell 2;have a3:=kA.cell 3;have a4:=kA.cell 4;have a5:=kA.cell 5;have a8:=kA.cell 8;have b2:=kB.cell 2;have b3:=kB.cell 3;have la:=kA.lt;have lb:=kB.lt;simp only [Ai,An,Aw] at a0 a1 a2 a3 a4 a5 a8 b2 b3;rw [<-hbb.cell (p:=⟨b,_,none⟩) hbl] at e2;have lbl:b < wb.heap.size:=Ay hbl hbb.size;have BV:=AF hbb;clear kA kB hbb hwb hga hgb hgz;obtain ⟨wz,hwz⟩:=Ab (wb.alloc (AQ #[AB AE 0,AB AE 0,AB AE 0,AN ⟨#[]⟩,AB AE 0,AA none 0 0] 97));rw [<-hwz];have hbz:AJ wb wz:=by rw [hwz];exact bF
 have kZ:AZ wz gz 97 #[AB AE 0,AB AE 0,AB AE 0,AN ⟨#[]⟩,AB AE 0,AA none 0 0]:=by rw [hwz,HGZ.o];exact AZ.new _ _ _
 have HS:AI (∀W,AJ wb W->W.cell? ⟨ga,0,none⟩=some (AA A1 n1 c1)/\W.cell? ⟨ga,1,none⟩=some (AA A2 n2 c2)/\W.cell? ⟨ga,2,none⟩=some (AA A3 n3 c3)/\W.cell? ⟨ga,3,none⟩=some (AA A4 n4 c4)/\W.cell? ⟨ga,4,none⟩=some (AA A5 n5 c5)/\W.cell? ⟨ga,5,none⟩=some (AA A6 n6 c6)/\W.cell? ⟨ga,8,none⟩=some (AA (some ⟨b,off,none⟩) m1 d1)/\W.cell? ⟨gb,2,none⟩=some (AB AE k)/\W.cell? ⟨gb,3,none⟩=some (AB AE fi)/\W.cell? ⟨b,off+k*8+2,none⟩=some (AB AE x.schema)):=AF (fun W hW=>
  ⟨(hW.cell (p:=⟨ga,0,none⟩) la).trans a0,(hW.cell (p:=⟨ga,1,none⟩) la).trans a1,(hW.cell (p:=⟨ga,2,none⟩) la).trans a2,(hW.cell (p:=⟨ga,3,none⟩) la).trans a3,(hW.cell (p:=⟨ga,4,none⟩) la).trans a4,(hW.cell (p:=⟨ga,5,none⟩) la).trans a5,(hW.cell (p:=⟨ga,8,none⟩) la).trans a8,(hW.cell (p:=⟨gb,2,none⟩) lb).trans b2,(hW.cell (p:=⟨gb,3,none⟩) lb).trans b3,(hW.cell (p:=⟨b,_,none⟩) lbl).trans e2⟩)
 clear a0 a1 a2 a3 a4 a5 a8 b2 b3 e2 la lb lbl;have Wg:AI (wb.heap.size<=gz):=AF (by have:=HGZ.o;omega);obtain ⟨HZ,Ji,WW⟩:=Az kZ hbz ((eB.o wz.drew (HB0.o.trans ((AW BV.o hbz).drew.mono HB0.o.size))).mono fun _ _ h=>And.intro h.1 ((Af wz.heap.size wz).drew.trans h.2));clear hwz hbz kZ
 go_region_held3 (fun w'=>w'.cell? ⟨ga,0,none⟩=some (AA A1 n1 c1)/\w'.cell? ⟨ga,1,none⟩=some (AA A2 n2 c2)/\w'.cell? ⟨ga,2,none⟩=some (AA A3 n3 c3)/\w'.cell? ⟨ga,3,none⟩=some (AA A4 n4 c4)/\w'.cell? ⟨ga,4,none⟩=some (AA A5 n5 c5)/\w'.cell? ⟨ga,5,none⟩=some (AA A6 n6 c6)/\w'.cell? ⟨ga,8,none⟩=some (AA (some ⟨b,off,none⟩) m1 d1)/\w'.cell? ⟨gb,2,none⟩=some (AB AE k)/\w'.cell? ⟨gb,3,none⟩=some (AB AE fi)/\w'.cell? ⟨b,off+k*8+2,none⟩=some (AB AE x.schema))
  (first | with_reducible exact HS.o _ Ji.o | with_reducible exact HS.o _ Ji.o.drew | with_reducible exact HS.o _ hbw3 | exact HS.o _ ((((((hbw3.setCell Wg.o _).setCell Wg.o _).setCell Wg.o _).setCell Wg.o _).setCell Wg.o _).setCell Wg.o _))
  (first
   | (go_at_call 55;refine WW.o.mono ?_;rintro e w3 ⟨⟨B,m,d,rfl,hs⟩,hb3⟩;have kz:=HZ.o.below hb3 HZ.o.lt;obtain ⟨z0,z1,z2,z3,z4,z5⟩:=kz.six;have y0:=kz.frozen 0;have y1:=kz.frozen 1;have y2:=kz.frozen 2;have y3:=kz.frozen 3;have y4:=kz.frozen 4;have y5:=kz.frozen 5;have hbw3:=AW Ji.o hb3;have YN:=AF kz;have Gr:=AF hs;clear hs kz))
 go_wp2_with fail;have kF:=(((((YN.o.put 0 (AB AE tk)).put 1 (AB AE tl)).put 2 (AB AE th)).put 3 (AN tf)).put 4 (AB AE tu)).put 5 (AA B m d);simp only [Ju,Bp,B9] at kF;obtain ⟨f0,f1,f2,f3,f4,f5⟩:=kF.six;clear z0 z1 z2 z3 z4 z5 y0 y1 y2 y3 y4 y5;refine E8 (v:=BS #[AO #[AB AE tk,AB AE tl,AB AE th,AN tf,AB AE tu,AA B m d],AX bo]) (by simp [results,results210,go_sem,f0,f1,f2,f3,f4,f5]) rfl ⟨⟨_,_,_,rfl,Gr.o⟩,?_⟩;exact AW BV.o ((((((hbw3.setCell Wg.o _).setCell Wg.o _).setCell Wg.o _).setCell Wg.o _).setCell Wg.o _).setCell Wg.o _)
def QX (n:Nat) (t:Fe):Prop:=t.kind=1-> -1<=t.unit/\t.unit < n
theorem yS {us:List Bk} {a b:Fe} (h:a.kind≠b.kind):LH us a b=false:=by rw [LH,Am h]
theorem sM {us:List Bk} {a b:Fe} (h:a.kind=4) (h':b.kind=4):LH us a b=decide (a.names=b.names):=by rw [LH,Ah AG,Am h]
theorem yR {us:List Bk} {a b:Fe} (h:a.kind=b.kind) (h4:a.kind≠4) (h1:a.kind≠1\/a.unit= -1\/b.unit= -1):LH us a b=decide (a.unit=b.unit):=by rw [LH,Ah AG,Ah h4,Am h1]
theorem yT {us:List Bk} {a b:Fe} (h:a.kind=1) (h':b.kind=1) (h1:a.unit≠ -1) (h2:b.unit≠ -1):LH us a b=decide (Qk us a.unit=Qk us b.unit):=by rw [LH,Ah AG,Ah AG,Ah AG]
theorem iC (a b:Fe) (B C:Option Aa) (m d k e:Nat) (us:List Bk) (w:AH) (h2:Ag 5 CK w (AA A2 n2 c2) us) (ha:Ag 1 DV w (AA B m d) a.names) (hb:Ag 1 DV w (AA C k e) b.names) (hua:QX n2 a) (hub:QX n2 b):
 AS prog 212 #[(AO #[AA A1 n1 c1,AA A2 n2 c2,AA A3 n3 c3,AA A4 n4 c4,AA A5 n5 c5,AA A6 n6 c6]),AO #[AB AE a.kind,AB AE a.lo,AB AE a.hi,AN a.Av,AB AE a.unit,AA B m d],AO #[AB AE b.kind,AB AE b.lo,AB AE b.hi,AN b.Av,AB AE b.unit,AA C k e]] w fun e w'=>
  e=AV (AX (LH us a b))/\AJ w w':=by
 have hn2:n2<=9223372036854775807:=by have:=h2.le;omega
 obtain ⟨H2,HA,HB⟩:=Az h2 ha hb;clear h2 ha hb;have HW:AI (∀o1 o2 o3,AJ w (((w.alloc o1).alloc o2).alloc o3)):=AF fun o1 o2 o3=>(((BP _ _).alloc Ac _).alloc BX _);by_cases hk:a.kind=b.kind
 case neg=>
  have hkn:(a.kind !=b.kind)=true:=by simpa using hk
  rw [yS hk];clear hk;go_enter func212,ntmps212;exact bQ
 have hkn:(a.kind !=b.kind)=false:=by simpa using hk
 by_cases h4:a.kind=4
 ·have h44:(a.kind==4)=true:=by simpa using h4
  rw [sM h4 AG];obtain ⟨v,hv⟩:=BH (BW a.names b.names);have HE:AI (decide (a.names=b.names)=v):=AF hv;rw [HE.o];have HQ:AI (∀o1 o2 o3,AS prog 111 #[AA B m d,AA C k e] (((w.alloc o1).alloc o2).alloc o3) fun e w'=>e=AV (AX v)/\AJ w w'):=AF (fun o1 o2 o3=>by have:=Me B C m d k e a.names b.names _ (HA.o.mono Ba (HW.o o1 o2 o3)) (HB.o.mono Ba (HW.o o1 o2 o3));rw [hv] at this;exact this.mono fun _ _ h=>⟨h.1,(HW.o o1 o2 o3).trans (h.2.mono (HW.o o1 o2 o3).size)⟩)
  clear hv hk h4;go_enter func212,ntmps212;go_wp2_with (go_at_call 111;refine (HQ.o _ _ _).mono ?_;rintro e w' ⟨rfl,hbq⟩);go_ret;exact ⟨rfl,hbq⟩
 have h44:(a.kind==4)=false:=by simpa using h4
 by_cases hu:a.kind≠1\/a.unit= -1\/b.unit= -1
 ·rw [yR hk h4 hu]
  have huu:(a.unit==b.unit)=decide (a.unit=b.unit):=by by_cases h:a.unit=b.unit <;> simp [h]
  rw [<-huu];clear huu hk h4;go_enter func212,ntmps212;by_cases u1:a.kind=1
  ·have u11:(a.kind !=1)=false:=by simpa using u1
   by_cases u2:a.unit= -1
   ·have u22:(a.unit== -1)=true:=by simpa using u2
    clear u1 u2 hu hua hub;exact bQ
   have u22:(a.unit== -1)=false:=by simpa using u2
   have u33:(b.unit== -1)=true:=by simpa using (hu.resolve_left (by simpa using u1)).resolve_left u2
   clear u1 u2 hu hua hub;exact bQ
  have u11:(a.kind !=1)=true:=by simpa using u1
  clear u1 hu hua hub;exact bQ
 have u1:a.kind=1:=Classical.byContradiction fun h=>hu (.inl h);have u2:a.unit≠ -1:=fun h=>hu (.inr (.inl h));have u3:b.unit≠ -1:=fun h=>hu (.inr (.inr h));rw [yT u1 AG u2 u3];obtain ⟨x1,x2⟩:=hua u1;obtain ⟨y1,y2⟩:=hub AG;have u11:(a.kind !=1)=false:=by simpa using u1
 have u22:(a.unit== -1)=false:=by simpa using u2
 have u33:(b.unit== -1)=false:=by simpa using u3
 obtain ⟨i,hi⟩:∃i:Nat,a.unit=i:=⟨a.unit.toNat,by omega⟩;obtain ⟨j,hj⟩:∃j:Nat,b.unit=j:=⟨b.unit.toNat,by omega⟩;obtain ⟨g1,o1,p,hp,l1,hx,_,_,_,e1,_⟩:=Nx H2.o (k:=i) AG;obtain ⟨g2,o2,q,hq,l2,hy,_,_,_,e2,_⟩:=Nx H2.o (k:=j) AG;subst hp;injection hq with hq;injection hq with hq1 hq2;subst hq1 hq2;have hba:Qk us a.unit=p.base:=by rw [Qk,hi,CZ,hx];rfl
 have hbb:Qk us b.unit=q.base:=by rw [Qk,hj,CZ,hy];rfl
 rw [hba,hbb];have huu:(p.base==q.base)=decide (p.base=q.base):=by by_cases h:p.base=q.base <;> simp [h]
 rw [<-huu];have hi0:(0:Int)<=(i:Int):=AG
 have hin:(i:Int) < (n2:Int):=AG
 have hj0:(0:Int)<=(j:Int):=AG
 have hjn:(j:Int) < (n2:Int):=AG
 rw [hi] at u22 ⊢;rw [hj] at u33 ⊢;clear huu hba hbb hx hy x1 x2 y1 y2 hi hj u1 u2 u3 hu hk h4 hua hub;go_enter func212,ntmps212;go_wp2_with fail;obtain ⟨wb,hwb⟩:=Ab (((w.alloc (AQ #[AA A1 n1 c1,AA (some ⟨g1,o1,none⟩) n2 c2,AA A3 n3 c3,AA A4 n4 c4,AA A5 n5 c5,AA A6 n6 c6] 126)).alloc (AQ #[AB AE a.kind,AB AE a.lo,AB AE a.hi,AN a.Av,AB AE i,AA B m d] 97)).alloc (AQ #[AB AE b.kind,AB AE b.lo,AB AE b.hi,AN b.Av,AB AE j,AA C k e] 97));rw [<-hwb];have hbb:AJ w wb:=by rw [hwb];exact HW.o _ _ _
 have kA:AZ wb w.heap.size 126 #[AA A1 n1 c1,AA (some ⟨g1,o1,none⟩) n2 c2,AA A3 n3 c3,AA A4 n4 c4,AA A5 n5 c5,AA A6 n6 c6]:=by rw [hwb];exact bI
 have kB:AZ wb (w.heap.size+1) 97 #[AB AE a.kind,AB AE a.lo,AB AE a.hi,AN a.Av,AB AE i,AA B m d]:=by rw [hwb];exact li
 have kC:AZ wb (w.heap.size+1+1) 97 #[AB AE b.kind,AB AE b.lo,AB AE b.hi,AN b.Av,AB AE j,AA C k e]:=by rw [hwb];exact EJ Ac
 have q1:=kA.cell 1;have q4:=kB.cell 4;have r4:=kC.cell 4;simp only [Ai,An,Aw] at q1 q4 r4;rw [<-hbb.cell (p:=⟨g1,_,none⟩) l1] at e1 e2;have BV:=AF hbb;clear hwb hbb kA kB kC HW;go_quiet (fail);go_wp2;go_ret;exact ⟨rfl,below_drewN BV.o _⟩
theorem AZ.five {w:AH} {g:Nat} {t:Ae} {a b c d e:AK} (h:AZ w g t #[a,b,c,d,e]):
 w.cell? ⟨g,0,none⟩=some a/\w.cell? ⟨g,1,none⟩=some b/\w.cell? ⟨g,2,none⟩=some c/\w.cell? ⟨g,3,none⟩=some d/\w.cell? ⟨g,4,none⟩=some e:=
 ⟨h.cell 0,h.cell 1,h.cell 2,h.cell 3,h.cell 4⟩
theorem AZ.eleven {w:AH} {g:Nat} {t:Ae} {a b c d e f a' b' c' d' e':AK} (h:AZ w g t #[a,b,c,d,e,f,a',b',c',d',e']):
 w.cell? ⟨g,0,none⟩=some a/\w.cell? ⟨g,1,none⟩=some b/\w.cell? ⟨g,2,none⟩=some c/\w.cell? ⟨g,3,none⟩=some d/\w.cell? ⟨g,4,none⟩=some e/\w.cell? ⟨g,5,none⟩=some f/\w.cell? ⟨g,6,none⟩=some a'/\w.cell? ⟨g,7,none⟩=some b'/\w.cell? ⟨g,8,none⟩=some c'/\w.cell? ⟨g,9,none⟩=some d'/\w.cell? ⟨g,10,none⟩=some e':=
 ⟨h.cell 0,h.cell 1,h.cell 2,h.cell 3,h.cell 4,h.cell 5,h.cell 6,h.cell 7,h.cell 8,h.cell 9,h.cell 10⟩
theorem yP (w:AH) (o1 o2:Obj) {t:Ae} {cs:Array AK}:AZ (((w.alloc o1).alloc o2).alloc (AQ cs t)) (w.heap.size+1+1) t cs:=EJ Ac
theorem AA6 (F1 F2 F3:Option Aa) (m1 d1 m2 d2 m3 d3:Nat) (hd:ByteArray) (Dv:Int) (f:Fe) (t:DP) (B:Option Aa) (m d:Nat) (ss:List BI) (fs:List Br) (w0 w:AH) (hb0:AJ w0 w) (h3:Ag 6 BR w0 (AA A3 n3 c3) ss) (hf:Ag 8 DI w0 (AA F1 m1 d1) fs) (hn:BQ 1 16 DV w0 (AA B m d) f.names):
 AS prog 159 #[(AO #[AA A1 n1 c1,AA A2 n2 c2,AA A3 n3 c3,AA A4 n4 c4,AA A5 n5 c5,AA A6 n6 c6,AN hd,AB AE Dv,AA F1 m1 d1,AA F2 m2 d2,AA F3 m3 d3]),AO #[AB AE f.kind,AB AE f.lo,AB AE f.hi,AN f.Av,AB AE f.unit,AA B m d],AO #[AN t.name,AN t.path,AB AE t.var,AB AE t.field,AB AE t.n]] w fun e w'=>
  e=AV (AX (VT ss fs f t))/\AJ w w':=by
 have hm1:m1<=9223372036854775807:=by have:=hf.le;omega
 obtain ⟨wb,hwb⟩:=Ab (((w.alloc (AQ #[AA A1 n1 c1,AA A2 n2 c2,AA A3 n3 c3,AA A4 n4 c4,AA A5 n5 c5,AA A6 n6 c6,AN hd,AB AE Dv,AA F1 m1 d1,AA F2 m2 d2,AA F3 m3 d3] 189)).alloc (AQ #[AB AE f.kind,AB AE f.lo,AB AE f.hi,AN f.Av,AB AE f.unit,AA B m d] 97)).alloc (AQ #[AN t.name,AN t.path,AB AE t.var,AB AE t.field,AB AE t.n] 271));have hbb:AJ w wb:=by rw [hwb];exact (((BP _ _).alloc Ac _).alloc BX _)
 have kA:AZ wb w.heap.size 189 #[AA A1 n1 c1,AA A2 n2 c2,AA A3 n3 c3,AA A4 n4 c4,AA A5 n5 c5,AA A6 n6 c6,AN hd,AB AE Dv,AA F1 m1 d1,AA F2 m2 d2,AA F3 m3 d3]:=by rw [hwb];exact bI
 have kB:AZ wb (w.heap.size+1) 97 #[AB AE f.kind,AB AE f.lo,AB AE f.hi,AN f.Av,AB AE f.unit,AA B m d]:=by rw [hwb];exact li
 have kC:AZ wb (w.heap.size+1+1) 271 #[AN t.name,AN t.path,AB AE t.var,AB AE t.field,AB AE t.n]:=by rw [hwb];exact yP _ _ _
 have PH:AI (∀W,AJ w0 W->AS prog 210 #[(AO #[AA A1 n1 c1,AA A2 n2 c2,AA A3 n3 c3,AA A4 n4 c4,AA A5 n5 c5,AA A6 n6 c6,AN hd,AB AE Dv,AA F1 m1 d1,AA F2 m2 d2,AA F3 m3 d3]),AO #[AN t.name,AN t.path,AB AE t.var,AB AE t.field,AB AE t.n],AB AE m1] W (OX (Fu ss fs t fs.length) w0 W)):=AF (fun W hW=>by have:=R9 A1 A2 A3 A4 A5 A6 n1 c1 n2 c2 n3 c3 n4 c4 n5 c5 n6 c6 F1 F2 F3 m1 d1 m2 d2 m3 d3 hd Dv t m1 ss fs w0 W hW h3 hf AG AG;rw [CZ] at this;rw [<-hf.len];exact this)
 have HN:=AF hn;have HNU:AI (AS prog 211 #[AO #[AN t.name,AN t.path,AB AE t.var,AB AE t.field,AB AE t.n]] wb fun e w'=>e=AV (AX (isNum t))/\AJ wb w'):=AF (SX t wb);obtain ⟨HB0,HA,HB,HC,BV,Cg⟩:=FR hb0 kA kB kC hbb hwb;clear hf h3 hn hb0 kA kB kC hbb hwb;obtain ⟨o,ho⟩:=BH (Fu ss fs t fs.length);obtain ⟨v,hv⟩:=BH (isNum t);have HS:AI (VT ss fs f t=if v then decide (f.lo<=t.n) && decide (t.n<=f.hi) else o.any fun y=>decide (y.kind=f.kind) && decide (y.unit=f.unit) && decide (y.names=f.names) && decide (f.lo<=y.lo) && decide (y.lo<=f.hi) && decide (f.lo<=y.hi) && decide (y.hi<=f.hi)):=AF (by rw [VT,ho,hv]);rw [ho] at PH;rw [hv] at HNU;rw [HS.o];clear ho hv HS;have c0:=(HC.o.five).1;have c1:=(HC.o.five).2.1;have c2:=(HC.o.five).2.2.1;have c3:=(HC.o.five).2.2.2.1;have c4:=(HC.o.five).2.2.2.2;have lA:=HA.o.lt;have lB:=HB.o.lt;have lC:=HC.o.lt;obtain ⟨ga,hga⟩:=Ab w.heap.size;obtain ⟨gb,hgb⟩:=Ab (w.heap.size+1);obtain ⟨gc,hgc⟩:=Ab (w.heap.size+1+1);go_enter func159,ntmps159;go_upto_region 1 with fail;rw [<-Cg.o,<-hgc,<-hgb,<-hga];rw [<-hgc] at HC c0 c1 c2 c3 c4 lC;rw [<-hgb] at HB lB;rw [<-hga] at HA lA;clear hga hgb hgc Cg;go_wp2_with (go_at_call 211;refine HNU.o.mono ?_;clear HNU);rintro e w1 ⟨rfl,hb1⟩;have HB1:=AF (AW BV.o hb1);obtain ⟨b0,b1,b2,b3,b4,b5⟩:=(HB.o.below hb1 lB).six;obtain ⟨a0,a1,a2,a3,a4,a5,a6,a7,a8,a9,a10⟩:=(HA.o.below hb1 lA).eleven;obtain ⟨c0,c1,c2,c3,c4⟩:=(HC.o.below hb1 lC).five;have lA1:=Ay lA hb1.size;have lB1:=Ay lB hb1.size;have lC1:=Ay lC hb1.size;have kB1:=AF (HB.o.below hb1 lB);clear hb1 lA lB lC HA HB HC;cases v with
 |
  true=>
  clear PH HN kB1 a0 a1 a2 a3 a4 a5 a6 a7 a8 a9 a10;go_wp2_with fail
  all_goals
   go_ret;refine ⟨A8 ?_,HB1.o⟩
   go_light
   first
    | rfl
    | (simp_all;done)
    | (simp_all;omega)
 |
  false=>
  have HT:=AF (PH.o w1 (AW HB0.o HB1.o));clear PH;cases o with
  |
   none=>
   go_wp2_with (go_at_call 210;refine HT.o.mono ?_;clear HT;rintro e w2 ⟨⟨B',m',d',rfl,hs⟩,hb2⟩;have HB2:=AF (AW HB1.o hb2);clear hs hb2 b0 b1 b2 b3 b4 b5 a0 a1 a2 a3 a4 a5 a6 a7 a8 a9 a10 c0 c1 c2 c3 c4;simp only [Hr]);go_ret;exact ⟨rfl,HB2.o.alloc HB2.o.size _⟩
  |
   some y=>
   obtain ⟨yk,yl,yh,yf,yu,yn⟩:=y;go_wp2_with (go_at_call 210;refine HT.o.mono ?_;clear HT);rintro e w2 ⟨⟨B',m',d',rfl,hs⟩,hb2⟩;obtain ⟨HS,HB2,HKB⟩:=Az hs (AW HB1.o hb2) (kB1.o.below hb2 lB1);obtain ⟨b0,b1,b2,b3,b4,b5⟩:=HKB.o.six;have lB2:=Ay lB1 hb2.size;clear hs hb2 kB1 a0 a1 a2 a3 a4 a5 a6 a7 a8 a9 a10 c0 c1 c2 c3 c4 lA1 lC1 lB1;simp only [Ce,GF];simp only [Ce] at HS;obtain ⟨v,hv⟩:=BH (BW yn f.names);have HV:AI (decide (yn=f.names)=v):=AF hv;have HEQ:AI (∀o,AS prog 111 #[AA B' m' d',AA B m d] (w2.alloc o) fun e w'=>e=AV (AX v)/\BK (w2.alloc o).heap.size (w2.alloc o) w'):=AF (fun o=>by have hba:=AW HB0.o (HB2.o.alloc HB2.o.size o);have:=Me B' B m' d' m d yn f.names (w2.alloc o) (HS.o.1.mono Ba hba) (HN.o.1.mono Ba hba);rw [hv] at this;exact this)
   clear hv;have HZK:AI (∀W,BK (w2.alloc (AQ #[AB AE yk,AB AE yl,AB AE yh,AN yf,AB AE yu,AA B' m' d'] 97)).heap.size (w2.alloc (AQ #[AB AE yk,AB AE yl,AB AE yh,AN yf,AB AE yu,AA B' m' d'] 97)) W->AZ W w2.heap.size 97 #[AB AE yk,AB AE yl,AB AE yh,AN yf,AB AE yu,AA B' m' d']):=AF (fun W h=>(AZ.new w2 _ _).below h Ac);cases e1:(yk==f.kind) with
   |
    false=>
    go_wp2;go_ret;refine ⟨A8 ?_,HB2.o.alloc HB2.o.size _⟩
    go_light
    simp_all
   |
    true=>
    cases e2:(yu==f.unit) with
    |
     false=>
     go_wp2;go_ret;refine ⟨A8 ?_,HB2.o.alloc HB2.o.size _⟩
     go_light
     simp_all
    |
     true=>
     go_wp2_with (go_at_call 111;refine (HEQ.o _).mono ?_;clear HEQ;rintro e w3 ⟨rfl,hb3⟩;have HB3:=AF ((HB2.o.alloc HB2.o.size _).trans (hb3.mono UF));obtain ⟨b0,b1,b2,b3,b4,b5⟩:=((HKB.o.alloc _).below hb3 BX).six;have kz:AZ w3 w2.heap.size 97 _:=HZK.o w3 hb3;obtain ⟨z0,z1,z2,z3,z4,z5⟩:=kz.six;have lz:w2.heap.size < w3.heap.size:=Ay Ac hb3.size;have lB3:gb < w3.heap.size:=Ay BX hb3.size;clear kz hb3)
     all_goals
      go_ret;refine ⟨A8 ?_,HB3.o⟩;have hV:=HV.o
      go_light
      first
       | (simp_all;done)
       | (simp_all;omega)
def Mc (ss:List BI) (fs:List Br) (k:Nat):Bool:=(List.range k).all fun i=>(fs[i]?).any fun f=>Md ss fs i f
theorem WS {ss:List BI} {fs:List Br} {k:Nat} {x:Br} (h:fs[k]? =some x):Mc ss fs (k+1)=(Mc ss fs k && Md ss fs k x):=by simp [Mc,List.range_succ,h]
theorem Tx {ss:List BI} {fs:List Br} {k:Nat} {x:Br} (h:fs[k]? =some x) (hx:Md ss fs k x=false):Hx ss fs=false:=by
 have hk:=(BA.1 h).1;have:Mc ss fs fs.length=false:=by rw [Mc,List.all_eq_false];exact ⟨k,by simpa using hk,by rw [h];simp [hx]⟩
 rw [Hx];unfold Mc at this;rw [this];simp
theorem AEM {ss:List BI} {fs:List Br} {k:Nat} {x:Br} (h:¬(0<=x.schema/\x.schema < ss.length)):Md ss fs k x=false:=by
 rw [Md];have:(decide (0<=x.schema) && decide (x.schema < ss.length))=false:=by simp only [My,Mz];omega
 rw [this];rfl
theorem AEK {ss:List BI} {fs:List Br} {k:Nat} {x:Br} (h:0<=x.schema/\x.schema < ss.length) (hv:x.Av.var= -1):Md ss fs k x=true:=by rw [Md,Bg h.1,Bg h.2,Bg hv];rfl
theorem AEL {ss:List BI} {fs:List Br} {k:Nat} {x:Br} (h:0<=x.schema/\x.schema < ss.length) (hv:x.Av.var≠ -1):Md ss fs k x=(Fu ss fs x.Av k).any fun t=>decide (t.kind=3):=by rw [Md,Bg h.1,Bg h.2,BO hv];rfl
theorem rx (F1 F2 F3:Option Aa) (m1 d1 m2 d2 m3 d3:Nat) (hd:ByteArray) (Dv:Int) (ss:List BI) (fs:List Br) (w0 w:AH) (hb0:AJ w0 w) (h3:Ag 6 BR w0 (AA A3 n3 c3) ss) (hf:Ag 8 DI w0 (AA F1 m1 d1) fs):
 AS prog 157 #[(AO #[AA A1 n1 c1,AA A2 n2 c2,AA A3 n3 c3,AA A4 n4 c4,AA A5 n5 c5,AA A6 n6 c6,AN hd,AB AE Dv,AA F1 m1 d1,AA F2 m2 d2,AA F3 m3 d3])] w fun e w'=>e=AV (AX (Hx ss fs))/\AJ w w':=by
 have hm1:m1<=9223372036854775807:=by have:=hf.le;omega
 have hn3:n3<=9223372036854775807:=by have:=h3.le;omega
 obtain ⟨H9,jy⟩:=Aj h3.len hf.len;have PH:AI (∀(t:DP) (k:Nat) W,k<=m1->AJ w0 W->AS prog 210 #[(AO #[AA A1 n1 c1,AA A2 n2 c2,AA A3 n3 c3,AA A4 n4 c4,AA A5 n5 c5,AA A6 n6 c6,AN hd,AB AE Dv,AA F1 m1 d1,AA F2 m2 d2,AA F3 m3 d3]),AO #[AN t.name,AN t.path,AB AE t.var,AB AE t.field,AB AE t.n],AB AE k] W (OX (Fu ss fs t k) w0 W)):=AF (fun t k W hk hW=>by
  have:=R9 A1 A2 A3 A4 A5 A6 n1 c1 n2 c2 n3 c3 n4 c4 n5 c5 n6 c6 F1 F2 F3 m1 d1 m2 d2 m3 d3 hd Dv t k ss fs w0 W hW h3 hf AG AG
  rwa [CZ] at this)
 obtain ⟨HF,HB0⟩:=Aj hf hb0;clear hf h3 hb0;by_cases hin:1<=m1/\m1<=3
 case neg=>
  have HE:AI (Hx ss fs=false):=AF (by
   rw [Hx,<-jy.o];have:(decide (1<=m1) && decide (m1<=3))=false:=by simp only [My,Mz];omega
   rw [this];rfl)
  rw [HE.o];go_enter func157,ntmps157;go_wp2_with fail
  all_goals first
   | (exfalso;omega)
   | (go_ret;exact mA)
 obtain ⟨hlo,hhi⟩:=hin;have HE:AI (Hx ss fs=Mc ss fs m1):=AF (by rw [Hx,<-jy.o,Bg hlo,Bg hhi];rfl)
 have AJz:decide (m1 < 1)=false:=BO AG;have AJ5:decide (3 < m1)=false:=BO AG;have hlz:¬((m1:Int) < 1):=AG
 have hhz:¬((3:Int) < (m1:Int)):=AG
 obtain ⟨w1,hw1⟩:=Ab (w.alloc (AQ #[AA A1 n1 c1,AA A2 n2 c2,AA A3 n3 c3,AA A4 n4 c4,AA A5 n5 c5,AA A6 n6 c6,AN hd,AB AE Dv,AA F1 m1 d1,AA F2 m2 d2,AA F3 m3 d3] 189));have hb1:AJ w w1:=by rw [hw1];exact bF
 have kA:AZ w1 w.heap.size 189 #[AA A1 n1 c1,AA A2 n2 c2,AA A3 n3 c3,AA A4 n4 c4,AA A5 n5 c5,AA A6 n6 c6,AN hd,AB AE Dv,AA F1 m1 d1,AA F2 m2 d2,AA F3 m3 d3]:=by rw [hw1];exact AZ.new _ _ _
 obtain ⟨ga,hga⟩:=Ab w.heap.size;rw [<-hga] at kA;have a8:=kA.eleven.2.2.2.2.2.2.2.2.1;obtain ⟨HA,HB1,HW1⟩:=Az kA hb1 hw1;have lA:=kA.lt;go_enter func157,ntmps157;go_upto_region 1 with fail;rw [<-HW1.o,<-hga];clear hw1 HW1 hga kA hb1;go_wp2_with fail;clear a8 AJz AJ5 hlz hhz;go_loopg [23] m1 (fun q i wr=>∃k:Nat,k<=m1/\q=m1 - k/\i=AB AE k/\Mc ss fs k=true/\AJ w1 wr)
 case atStart=>exact Li
 obtain ⟨k,hk,hq,rfl,hall,hb⟩:=hrel;obtain ⟨HQ,EL,HB⟩:=Az hq hall hb;clear hq hall hb;by_cases hlt:k < m1
 case neg=>
  obtain rfl:k=m1:=AG
  go_wp2;go_ret;rw [HE.o,EL.o];exact ⟨rfl,AW HB1.o HB.o⟩
 obtain ⟨b,off,x,hF1,hbl,hx,e0,e1,e2,e3,e4,e5,e6,e7⟩:=Px HF.o hlt;subst hF1;have hbw:AJ w0 wr:=AW HB0.o (AW HB1.o HB.o);rw [<-hbw.cell (p:=⟨b,_,none⟩) hbl] at e0 e1 e2 e3 e4 e5 e6 e7;have AHt:b < wr.heap.size:=Ay hbl hbw.size;obtain ⟨a0,a1,a2,a3,a4,a5,a6,a7,a8,a9,a10⟩:=(HA.o.below HB.o lA).eleven;have uS:ga < wr.heap.size:=Ay lA HB.o.size;have hk0:=Int.natCast_nonneg k
 have hk1:(k:Int) < (m1:Int):=AG
 obtain ⟨HX,CY⟩:=Aj hx hbw;clear hx hbw;by_cases hs:0<=x.schema/\x.schema < n3
 case neg=>
  have HN:AI (Hx ss fs=false):=AF (Tx HX.o (AEM (by rw [<-H9.o];exact hs)));go_wp2_with fail
  all_goals first
   | (exfalso;omega)
   | (go_ret;exact ⟨A8 HN.o.symm,AW HB1.o (HB.o.alloc HB.o.size _)⟩)
 obtain ⟨hs0,hs1⟩:=hs;have Q8:AI (0<=x.schema/\x.schema < ss.length):=AF ⟨hs0,by rw [<-H9.o];exact hs1⟩;by_cases hv:x.Av.var= -1
 ·have hvb:(x.Av.var== -1)=true:=by simpa using hv
  have I5:=AF (AEK (fs:=fs) (k:=k) Q8.o hv);clear hv;go_wp2;go_roundg (m1 - (k+1))
  case measure=>exact Bc
  case rel=>exact ⟨k+1,by omega,rfl,by go_num,by rw [WS HX.o,EL.o,I5.o];rfl,HB.o.alloc HB.o.size _⟩
 have hvb:(x.Av.var== -1)=false:=by simpa using hv
 have I5:=AF (AEL (fs:=fs) (k:=k) Q8.o hv);clear hv;have HT:=AF (fun o=>PH.o x.Av k (wr.alloc o) hk (CY.o.alloc CY.o.size o));obtain ⟨o,ho⟩:=BH (Fu ss fs x.Av k);rw [ho] at HT I5;clear ho;cases o with
 |
  none=>
  have HN:AI (Hx ss fs=false):=AF (Tx HX.o I5.o);go_wp2_with (go_at_call 210;refine (HT.o _).mono ?_;clear HT;rintro e w2 ⟨⟨B,m,d,rfl,hs⟩,hb2⟩;have HB2:=AF ((HB.o.alloc HB.o.size _).trans (hb2.mono Wt));clear hs hb2);go_ret;exact zD
 |
  some y=>
  obtain ⟨yk,yl,yh,yf,yu,yn⟩:=y;by_cases h3:yk=3
  ·subst h3
   go_wp2_with (go_at_call 210;refine (HT.o _).mono ?_;clear HT;rintro e w2 ⟨⟨B,m,d,rfl,hs⟩,hb2⟩;have HB2:=AF ((HB.o.alloc HB.o.size _).trans (hb2.mono Wt));clear hs hb2;simp only [Ce,GF]);go_roundg (m1 - (k+1))
   case measure=>exact Bc
   case rel=>exact ⟨k+1,by omega,rfl,by go_num,by rw [WS HX.o,EL.o,I5.o];rfl,HB2.o.alloc HB2.o.size _⟩
  have h3b:(yk !=3)=true:=by simpa using h3
  have HN:AI (Hx ss fs=false):=AF (Tx HX.o (by rw [I5.o];simpa using h3));clear h3;go_wp2_with (go_at_call 210;refine (HT.o _).mono ?_;clear HT;rintro e w2 ⟨⟨B,m,d,rfl,hs⟩,hb2⟩;have HB2:=AF ((HB.o.alloc HB.o.size _).trans (hb2.mono Wt));clear hs hb2;simp only [Ce,GF]);go_ret;exact zD
def chunk (cs:List AK) (sz i:Nat):List AK:=(cs.drop (i*sz)).take sz
theorem QB {cs:List AK} {sz i j:Nat} (hj:j < sz):(chunk cs sz i)[j]? =cs[i*sz+j]? :=by unfold chunk;rw [JN hj,EC]
theorem El {cs:List AK} {sz i j:Nat} (u:AK) (hj:j < sz):chunk (cs.set (i*sz+j) u) sz i=(chunk cs sz i).set j u:=by
 apply Ms;intro k;rcases Ez k sz with hk | hk
 ·rw [QB hk,RX,RX,QB hk]
  by_cases e:j=k
  ·subst e
   rw [Am rfl,Am rfl];unfold chunk;rw [DR,Hq];by_cases h:i*sz+j < cs.length
   · rw [Am h,Am AG]
   · rw [Ah h,Ah AG]
  · rw [Ah AG,Ah e]
 · rw [DY fU,DY (by rw [D8];unfold chunk;rw [DR];omega)]
theorem FM {cs:List AK} {sz i i' j:Nat} (u:AK) (hj:j < sz) (hi:i'≠i):chunk (cs.set (i*sz+j) u) sz i'=chunk cs sz i':=by
 apply Ms;intro k;rcases Ez k sz with hk | hk
 ·rw [QB hk,QB hk,RX]
  rw [Ah];intro e;apply hi;rcases Nat.lt_trichotomy i i' with h | h | h
  ·exfalso
   have:i*sz+sz<=i'*sz:=by rw [<-Jm];exact Jr _ h
   omega
  · exact h.symm
  exfalso;have:i'*sz+sz<=i*sz:=by rw [<-Jm];exact Jr _ h
  omega
 · rw [DY fU,DY fU]
theorem Ao.chunk {α:Type} {sz:Nat} {R:AH->List AK->α->Prop} {w:AH} {cs:List AK} {l:List α} (h:Ao sz R w cs l) {i:Nat} {x:α} (hi:l[i]? =some x):R w (Proofs.YtpmpddfgifhlbaaGreatDoor.chunk cs sz i) x:=h.2 i x hi
theorem Ao.put {α:Type} {sz:Nat} {R:AH->List AK->α->Prop} {w:AH} {cs:List AK} {l:List α} (h:Ao sz R w cs l) {i j:Nat} {x':α} {u:AK} (hj:j < sz) (hi:i < l.length) (hR:R w ((Proofs.YtpmpddfgifhlbaaGreatDoor.chunk cs sz i).set j u) x'):Ao sz R w (cs.set (i*sz+j) u) (l.set i x'):=by
 refine ⟨by rw [D8,D8];exact h.1,fun k y hk=> ?_⟩;rw [RX] at hk;by_cases e:i=k
 ·subst e
  rw [Am rfl,Am hi,Bq] at hk;subst hk;show R w (Proofs.YtpmpddfgifhlbaaGreatDoor.chunk _ sz i) x';rw [El u hj];exact hR
 rw [Ah e] at hk;show R w (Proofs.YtpmpddfgifhlbaaGreatDoor.chunk _ sz k) y;rw [FM u hj (fun e'=>e e'.symm)];exact h.2 k y hk
theorem BG {w:AH} {base:Nat} {e:Ae} {sz g n cap:Nat} {cs:List AK} (h:w.ownsRow base e sz (AA (some ⟨g,0,none⟩) n cap) n cs) {i j:Nat} {c:List AK} {u:AK} (hi:i < n) (hj:j < sz) (hc:chunk cs sz i=c) (hu:c[j]? =some u):w.cell? ⟨g,i*sz+j,none⟩=some u:=by
 have hlt:i*sz+j < n*sz:=by
  have:i*sz+sz<=n*sz:=by rw [<-Jm];exact Jr _ hi
  omega
 rw [h.cellAt _ hlt,<-QB hj,hc,hu]
theorem set_drop {α:Type} {out l:List α} {x:α} {k:Nat} (hk:out.length=k) {y:α} (hx:l[k]? =some y):(out++l.drop k).set k x=(out++[x])++l.drop (k+1):=by subst hk;rw [drop_cons hx,Yo _ _ (Ad _),PY,Bp,Fh];rfl
def ZE (s:List (ByteArray×Int)×Bool) (i:Nat) (x:ByteArray):List (ByteArray×Int)×Bool:=
 if (getM s.1 x).isSome then (s.1,true) else (Ha s.1 x (i:Int),s.2)
def B0 (l:List ByteArray):Nat->List (ByteArray×Int)×Bool
 | 0=>([],false)
 |
  k+1=>match l[k]? with
  | some x=>ZE (B0 l k) k x
  | none=>B0 l k
def col (l:List ByteArray):List (ByteArray×Int)×Bool:=B0 l l.length
theorem GT {l:List ByteArray} {k:Nat} {x:ByteArray} (h:l[k]? =some x):B0 l (k+1)=ZE (B0 l k) k x:=by rw [B0,h]
theorem Mh {s:List (ByteArray×Int)×Bool} {i:Nat} {x:ByteArray} {n:Int} (h:getM s.1 x=some n):ZE s i x=(s.1,true):=by simp [ZE,h]
theorem N1 {s:List (ByteArray×Int)×Bool} {i:Nat} {x:ByteArray} (h:getM s.1 x=none):ZE s i x=(Ha s.1 x (i:Int),s.2):=by simp [ZE,h]
def idx (l:List ByteArray) (x:ByteArray):Option Nat:=l.findIdx? (fun y=>decide (y=x))
theorem ADb (l:List ByteArray) (y x:ByteArray):idx (l++[y]) x=(idx l x).or (if y=x then some l.length else none):=by
 unfold idx;rw [List.findIdx?_append];congr 1;by_cases h:y=x
 · simp [h]
 · simp [h]
theorem px (l:List ByteArray):∀k,k<=l.length->∀x,getM (B0 l k).1 x=(idx (l.take k) x).map (fun n:Nat=>(n:Int))
 | 0,_,x=>rfl
 |
  k+1,hk,x=>by
  have hl:l[k]? =some l[k]:=BJ hk;have ih:=px l k AG;rw [GT hl,take_snoc hl,ADb];cases hg:getM (B0 l k).1 l[k] with
  |
   some n=>
   rw [Mh hg,ih x];by_cases h:l[k]=x
   ·have:=ih l[k]
    rw [hg,h] at this;cases hi:idx (l.take k) x with
    | none=>rw [hi] at this;cases this
    | some m=>rfl
   ·rw [Ah h]
    cases idx (l.take k) x <;> rfl
  |
   none=>
   rw [N1 hg,pS];have h0:=ih l[k];rw [hg] at h0;by_cases h:x=l[k]
   ·rw [Am h,Am h.symm,h]
    cases hi:idx (l.take k) l[k] with
    | none=>simp;omega
    | some m=>rw [hi] at h0;cases h0
   rw [Ah h,Ah (fun e=>h e.symm),ih x];cases idx (l.take k) x <;> rfl
theorem Hy (l:List ByteArray) (x:ByteArray):getM (col l).1 x=(idx l x).map (fun n:Nat=>(n:Int)):=by
 have:=px l l.length (Ad _) x
 rwa [Pc] at this
def DT (l:List ByteArray):Bool:=(col l).2
def U7 (l:List ByteArray) (w:AH) (e:Ending) (w':AH):Prop:=
 ∃b,e=AV (BS #[.map (some b),AX (DT l)])/\MapAt (fun x:ByteArray=>Value.string x) (fun x:Int=>Value.int .i64 x) w' b (col l).1/\w.heap.size<=b/\AJ w w'
abbrev Hu (x:ByteArray):AK:=Value.string x
abbrev Gg (x:Int):AK:=Value.int .i64 x
abbrev SMap:Type:=List (ByteArray×Int)
def CN (w w':AH):Prop:=∀(b:Nat) (es:Array MapEntry) (clock:Nat),w.heap[b]? =some (Obj.map es clock)->w'.heap[b]? =some (Obj.map es clock)
theorem CN.refl (w:AH):CN w w:=fun _ _ _ h=>h
theorem CN.trans {a b c:AH} (h:CN a b) (h':CN b c):CN a c:=fun k es cl e=>h' k es cl (h k es cl e)
theorem CN.below {w w':AH} (h:AJ w w'):CN w w':=fun b _ _ e=>(h.block b (Cz.1 e).1).trans e
theorem CN.put (w:AH) (p:Aa) (v:AK):CN w (w.setCell p v):=by
 intro b es cl e;by_cases h:b=p.block
 ·subst h
  simp [World.setCell,Array.getElem?_modify,e]
 · exact (EB w p v b h).trans e
theorem CN.grown {w w':AH} {row:Option Nat} (h:w.grownBy w' row) (hr:∀g,row=some g->∃cs t f,w.heap[g]? =some (Obj.cells cs t f)):CN w w':=by intro b es cl e;refine (h.block b (Cz.1 e).1 ?_).trans e;intro e';obtain ⟨cs,t,f,hc⟩:=hr b e'.symm;rw [e] at hc;cases hc
theorem CN.own {w w':AH} {base:Nat} {t:Ae} {sz:Nat} {v:AK} {n:Nat} {xs:List AK} (ho:w.ownsRow base t sz v n xs) (h:w.grownBy w' v.ownBlock):CN w w':=by
 refine CN.grown h (fun g e=> ?_);rcases ho.2 with ⟨rfl,_⟩ | ⟨g',cap,cur,rfl,_,hh,_⟩
 · cases e
 simp only [Value.ownBlock,Bq] at e;subst e;exact ⟨_,_,_,hh⟩
theorem MapAt.keeps {κ ν:Type} {ek:κ->AK} {ev:ν->AK} {w w':AH} {b:Nat} {m:List (κ×ν)} (h:MapAt ek ev w b m) (hk:CN w w'):MapAt ek ev w' b m:=by obtain ⟨es,clock,h1,h2⟩:=h;exact ⟨es,clock,hk b es clock h1,h2⟩
theorem MapAt.below {κ ν:Type} {ek:κ->AK} {ev:ν->AK} {w w':AH} {b:Nat} {m:List (κ×ν)} (h:MapAt ek ev w b m) (hb:AJ w w'):MapAt ek ev w' b m:=h.keeps (.below hb)
def P1 (w:AH) (cs:List AK) (m:SMap):Prop:=∃b,cs=[.map (some b)]/\MapAt Hu Gg w b m
theorem dI {w w':AH} (hk:CN w w') {cs:List AK} {m:SMap} (h:P1 w cs m):P1 w' cs m:=by obtain ⟨b,e,hm⟩:=h;exact ⟨b,e,hm.keeps hk⟩
theorem Xh:Ea P1:=fun _ _ hb _ _ h=>dI (.below hb) h
theorem Ao.keeps {w w':AH} (hk:CN w w') {cs:List AK} {l:List SMap} (h:Ao 1 P1 w cs l):Ao 1 P1 w' cs l:=⟨h.1,fun i x hi=>dI hk (h.2 i x hi)⟩
theorem Ut {w:AH} {A:Option Aa} {n cap:Nat} {l:List SMap} (h:Ag 1 P1 w (AA A n cap) l) {k:Nat} (hk:k < n):
 ∃b off x g,A=some ⟨b,off,none⟩/\b < w.heap.size/\l[k]? =some x/\w.cell? ⟨b,off+k,none⟩=some (.map (some g))/\MapAt Hu Gg w g x:=by
 obtain ⟨b,off,x,cs,e,hb,hl,hlen,hc,g,rfl,hm⟩:=h.at_ hk;exact ⟨b,off,x,g,e,hb,hl,by simpa using hc 0 _ rfl,hm⟩
def G6 (s:BD):List ByteArray:=s.units.map (·.name)
def CH (s:BD):List ByteArray:=s.Ap.map (·.name)
def Oj (s:BD):List ByteArray:=s.purposes.map (·.name)
def fieldNames (x:BI):List ByteArray:=x.fields.map (·.name)
def TL (x:Ck):List ByteArray:=x.froms.map (·.name)
def fieldMap (x:BI):SMap:=(col (fieldNames x)).1
def NY (s:BD):Bool:=DT s.Bl || DT (G6 s) || DT (CH s) || DT (Oj s) || s.Ap.any (fun x=>DT (fieldNames x)) || s.rules.any (fun x=>DT (TL x))
def Jk (w:AH) (R:Nat) (s:BD):Prop:=
 ∃b1 b2 b3 A n c,AZ w R 263 #[.map (some b1),.map (some b2),.map (some b3),AA A n c]/\MapAt Hu Gg w b1 (col s.Bl).1/\MapAt Hu Gg w b2 (col (G6 s)).1/\MapAt Hu Gg w b3 (col (CH s)).1/\Ag 1 P1 w (AA A n c) (s.Ap.map fieldMap)
theorem Jk.below {w w':AH} {R:Nat} {s:BD} (h:Jk w R s) (hb:AJ w w'):Jk w' R s:=by obtain ⟨b1,b2,b3,A,n,c,h0,h1,h2,h3,h4⟩:=h;exact ⟨b1,b2,b3,A,n,c,h0.below hb h0.lt,h1.below hb,h2.below hb,h3.below hb,h4.mono Xh hb⟩
def ACQ (s:BD) (w:AH) (e:Ending) (w':AH):Prop:=
 ∃R,e=AV (BS #[AU (some ⟨R,0,none⟩),AX (NY s)])/\Jk w' R s/\w.heap.size<=R/\AJ w w'
def mask (lo M:Nat) (w:AH):AH:={w with heap:=w.heap.mapIdx (fun b o=>if lo<=b/\b < M then .cells #[] 0 else o)}
section
variable {lo M:Nat} {w w':AH}
theorem ER:(mask lo M w).heap.size=w.heap.size:=by simp [mask]
theorem G7 {b:Nat} (h:b < lo\/M<=b):(mask lo M w).heap[b]? =w.heap[b]? :=by
 simp only [mask,Rf];cases w.heap[b]? with
 | none=>rfl
 | some o=>rw [Cu,Ah AG]
theorem Lc {b:Nat} (h:lo<=b/\b < M) (hb:b < w.heap.size):(mask lo M w).heap[b]? =some (AQ #[] 0):=by simp only [mask,Rf];rw [Yv hb,Cu,Am h]
theorem Xg {b o:Nat} {v:AK} (h:(mask lo M w).cell? ⟨b,o,none⟩=some v):w.cell? ⟨b,o,none⟩=some v:=by
 by_cases hb:b < lo\/M<=b
 ·rw [<-h]
  exact (Lz (G7 hb)).symm
 exfalso;by_cases hs:b < w.heap.size
 · simp [World.cell?,Lc (w:=w) (lo:=lo) (M:=M) (b:=b) AG hs] at h
 have:(mask lo M w).heap[b]? =none:=by rw [M0];rw [ER];omega
 simp [World.cell?,this] at h
theorem Cv {G:Nat} (hg:w.grownBy w' (some G)) (h1:lo<=G) (h2:G < M):BK (mask lo M w).heap.size (mask lo M w) (mask lo M w'):=by
 refine ⟨hg.os,hg.tape,hg.output,by rw [ER,ER];exact hg.size,fun k hk=> ?_⟩;rw [ER] at hk;by_cases hb:k < lo\/M<=k
 ·rw [G7 hb,G7 hb]
  exact hg.block k hk (fun e=>by injection e;omega)
 · rw [Lc AG hk,Lc AG (Ay hk hg.size)]
theorem ZW (hg:AJ w w'):BK (mask lo M w).heap.size (mask lo M w) (mask lo M w'):=by
 refine ⟨hg.os,hg.tape,hg.output,by rw [ER,ER];exact hg.size,fun k hk=> ?_⟩;rw [ER] at hk;by_cases hb:k < lo\/M<=k
 ·rw [G7 hb,G7 hb]
  exact hg.block k hk
 · rw [Lc AG hk,Lc AG (Ay hk hg.size)]
theorem Lb {base:Nat} {e:Ae} {sz:Nat} {v:AK} {n:Nat} {cs:List AK} (h:w.ownsRow base e sz v n cs) (hb:M<=base):(mask lo M w).ownsRow base e sz v n cs:=by
 refine ⟨h.1,?_⟩;rcases h.2 with h | ⟨g,cap,cur,h1,h2,h3,h4⟩
 · exact .inl h
 · exact .inr ⟨g,cap,cur,h1,h2,(G7 (.inr AG)).trans h3,h4⟩
theorem SQ {κ ν:Type} {ek:κ->AK} {ev:ν->AK} {b:Nat} {m:List (κ×ν)} (h:MapAt ek ev (mask lo M w) b m):MapAt ek ev w b m:=by
 obtain ⟨es,clock,h1,h2⟩:=h;refine ⟨es,clock,?_,h2⟩;by_cases hb:b < lo\/M<=b
 · rw [<-h1];exact (G7 hb).symm
 exfalso;have hs:b < w.heap.size:=by have:=(Cz.1 h1).1;rwa [ER] at this
 rw [Lc AG hs] at h1;cases h1
theorem oP {g:Nat} {t:Ae} {cs:Array AK} (h:AZ (mask lo M w) g t cs) (hc:cs≠#[]):AZ w g t cs:=by
 by_cases hb:g < lo\/M<=g
 · exact (G7 hb).symm.trans h
 exfalso;have hs:g < w.heap.size:=by have:=h.lt;rwa [ER] at this
 have h1:(mask lo M w).heap[g]? =some (AQ cs t (0,0)):=h;rw [Lc AG hs] at h1;injection h1 with h1;injection h1 with h1;exact hc h1.symm
def Nk {α:Type} (R:AH->List AK->α->Prop):Prop:=∀(lo M:Nat) (w:AH) (cs:List AK) (x:α),R (mask lo M w) cs x->R w cs x
theorem Ag.Hz {α:Type} {sz:Nat} {R:AH->List AK->α->Prop} (hR:Nk R) {v:AK} {l:List α} (h:Ag sz R (mask lo M w) v l):Ag sz R w v l:=by obtain ⟨A,cap,e,h1,h2,h3⟩:=h;refine ⟨A,cap,e,h1,h2,fun i x hi=> ?_⟩;obtain ⟨b,off,cs,rfl,hlt,hl,hc,hr⟩:=h3 i x hi;exact ⟨b,off,cs,rfl,by rwa [ER] at hlt,hl,fun j u hu=>Xg (hc j u hu),hR _ _ _ _ _ hr⟩
theorem BQ.Hz {α:Type} {sz bytes:Nat} {R:AH->List AK->α->Prop} (hR:Nk R) {v:AK} {l:List α} (h:BQ sz bytes R (mask lo M w) v l):BQ sz bytes R w v l:=⟨h.1.Hz hR,h.2⟩
theorem Ve (w0:AH) (h:AJ w0 w) (hlo:w0.heap.size<=lo):AJ w0 (mask lo M w):=
 ⟨h.os,h.tape,h.output,by rw [ER];exact h.size,fun k hk=>(G7 (.inl AG)).trans (h.block k hk)⟩
theorem dG {H:Option Nat} (hg:w.grownBy w' H):(mask lo M w).grownBy (mask lo M w') H:=by
 refine ⟨hg.os,hg.tape,hg.output,by rw [ER,ER];exact hg.size,fun k hk hne=> ?_⟩;rw [ER] at hk;by_cases hb:k < lo\/M<=k
 ·rw [G7 hb,G7 hb]
  exact hg.block k hk hne
 · rw [Lc AG hk,Lc AG (Ay hk hg.size)]
theorem Ag.uB {α:Type} {sz:Nat} {R:AH->List AK->α->Prop} {v:AK} {l:List α} (h:Ag sz R (mask lo M w) v l):Ag sz (fun _=>R (mask lo M w)) w v l:=by obtain ⟨A,cap,e,h1,h2,h3⟩:=h;refine ⟨A,cap,e,h1,h2,fun i x hi=> ?_⟩;obtain ⟨b,off,cs,rfl,hlt,hl,hc,hr⟩:=h3 i x hi;exact ⟨b,off,cs,rfl,by rwa [ER] at hlt,hl,fun j u hu=>Xg (hc j u hu),hr⟩
theorem Ao.Hz {α:Type} {sz:Nat} {R:AH->List AK->α->Prop} (hR:Nk R) {cs:List AK} {l:List α} (h:Ao sz R (mask lo M w) cs l):Ao sz R w cs l:=⟨h.1,fun i x hi=>hR _ _ _ _ _ (h.2 i x hi)⟩
theorem ADK:Nk P1:=by rintro lo M w cs x ⟨b,e,h⟩;exact ⟨b,e,SQ h⟩
theorem Jk.Hz {R:Nat} {s:BD} (h:Jk (mask lo M w) R s):Jk w R s:=by obtain ⟨b1,b2,b3,A,n,c,h0,h1,h2,h3,h4⟩:=h;exact ⟨b1,b2,b3,A,n,c,oP h0 Ac,SQ h1,SQ h2,SQ h3,h4.Hz ADK⟩
end
theorem SC:Nk DV:=fun _ _ _ _ _ h=>h
theorem AG9:Nk iR:=fun _ _ _ _ _ h=>h
theorem vz:Nk CK:=fun _ _ _ _ _ h=>h
theorem cn:Nk EQ:=fun _ _ _ _ _ h=>h
theorem cm:Nk DI:=fun _ _ _ _ _ h=>h
theorem jA:Nk Gc:=fun _ _ _ _ _ h=>h
theorem cZ:Nk GJ:=fun _ _ _ _ _ h=>h
theorem jB:Nk IF:=fun _ _ _ _ _ h=>h
theorem rS:Nk EW:=by rintro lo M w cs x ⟨A1,n1,c1,h0,h1⟩;exact ⟨A1,n1,c1,h0,h1.Hz SC⟩
theorem jC:Nk Hb:=by rintro lo M w cs x ⟨A1,n1,c1,A2,n2,c2,h0,h1,h2⟩;exact ⟨A1,n1,c1,A2,n2,c2,h0,h1.Hz SC,h2.Hz AG9⟩
theorem oC:Nk BR:=by rintro lo M w cs x ⟨A1,n1,c1,A2,n2,c2,h0,h1,h2⟩;exact ⟨A1,n1,c1,A2,n2,c2,h0,h1.Hz rS,h2.Hz jC⟩
theorem wC:Nk CM:=by rintro lo M w cs x ⟨A1,n1,c1,A2,n2,c2,A3,n3,c3,h0,h1,h2,h3⟩;exact ⟨A1,n1,c1,A2,n2,c2,A3,n3,c3,h0,h1.Hz cm,h2.Hz cn,h3.Hz jA⟩
theorem ke:Nk By:=by rintro lo M w cs x ⟨A1,n1,c1,h0,h1⟩;exact ⟨A1,n1,c1,h0,h1.Hz cZ⟩
theorem kW:Nk BT:=by rintro lo M w cs x ⟨A1,n1,c1,h0,h1⟩;exact ⟨A1,n1,c1,h0,h1.Hz jB⟩
abbrev IU (x:ByteArray):AK:=Value.string x
abbrev IX (x:Int):AK:=Value.int .i64 x
def Bm:List PanicEntry:=[{v:=.iface 249 (AO #[]),recovered:=false}]
theorem FY (b:Nat) (m:List (ByteArray×Int)) (x:ByteArray) (n:Int) (w:AH) (hm:MapAt IU IX w b m) (hg:getM m x=some n):
 AS prog 200 #[.map (some b),AN x] w fun e w'=>e=AV (AB AE n)/\w=w':=by
 have hlook:=DH (DB underlying9) underlying260 (z:=AB AE 0) AL hm x true;rw [hg] at hlook;simp only [Ct,Cu,Ce,GF] at hlook;clear hg hm;go_enter func200,ntmps200
 exact Rp
theorem G5 (b:Nat) (m:List (ByteArray×Int)) (x:ByteArray) (w:AH) (hm:MapAt IU IX w b m) (hg:getM m x=none):
 AS prog 200 #[.map (some b),AN x] w fun e w'=>e=B8 Bm/\w=w':=by
 have hlook:=DH (DB underlying9) underlying260 (z:=AB AE 0) AL hm x true;rw [hg] at hlook;simp only [Ct,JJ,Jt,Hr] at hlook;clear hg hm;go_enter func200,ntmps200
 go_wp2
 exact ⟨rfl,rfl,rfl⟩
theorem nN (x:Bk) (w:AH):
 AS prog 191 #[AO #[AN x.name,AN x.Av,AB AE x.factor,AB AE x.base,AB AE x.scale]] w fun e w'=>e=AV (AN x.name)/\w.alloc (AQ #[AN x.name,AN x.Av,AB AE x.factor,AB AE x.base,AB AE x.scale] 193)=w':=by
 go_enter func191,ntmps191
 exact Rp
theorem ft (A1 A2:Option Aa) (n1 c1 n2 c2:Nat) (x:BI) (w:AH):
 AS prog 193 #[AO #[AN x.name,AN x.Hh,AB AE x.Au,AB AE x.version,AA A1 n1 c1,AA A2 n2 c2]] w fun e w'=>e=AV (AN x.name)/\w.alloc (AQ #[AN x.name,AN x.Hh,AB AE x.Au,AB AE x.version,AA A1 n1 c1,AA A2 n2 c2] 79)=w':=by
 go_enter func193,ntmps193
 exact Rp
theorem k9 (A1:Option Aa) (n1 c1:Nat) (x:GZ) (w:AH):
 AS prog 197 #[AO #[AN x.name,AB AE x.type.kind,AB AE x.type.lo,AB AE x.type.hi,AN x.type.Av,AB AE x.type.unit,AA A1 n1 c1,AB AE x.w0,AB AE x.w1,AB AE x.w2,AB AE x.w3]] w fun e w'=>e=AV (AN x.name)/\w.alloc (AQ #[AN x.name,AB AE x.type.kind,AB AE x.type.lo,AB AE x.type.hi,AN x.type.Av,AB AE x.type.unit,AA A1 n1 c1,AB AE x.w0,AB AE x.w1,AB AE x.w2,AB AE x.w3] 100)=w':=by
 go_enter func197,ntmps197
 exact Rp
theorem pT (x:Br) (w:AH):
 AS prog 199 #[AO #[AN x.name,AN x.kind,AB AE x.schema,AN x.Av.name,AN x.Av.path,AB AE x.Av.var,AB AE x.Av.field,AB AE x.Av.n]] w fun e w'=>e=AV (AN x.name)/\w.alloc (AQ #[AN x.name,AN x.kind,AB AE x.schema,AN x.Av.name,AN x.Av.path,AB AE x.Av.var,AB AE x.Av.field,AB AE x.Av.n] 290)=w':=by
 go_enter func199,ntmps199
 exact Rp
theorem cp (A1:Option Aa) (n1 c1:Nat) (x:Cj) (w:AH):
 AS prog 195 #[AO #[AN x.name,AA A1 n1 c1,AB AE x.most]] w fun e w'=>e=AV (AN x.name)/\w.alloc (AQ #[AN x.name,AA A1 n1 c1,AB AE x.most] 157)=w':=by
 go_enter func195,ntmps195
 exact Rp
theorem dO (x:ByteArray) (w:AH):AS prog 189 #[AN x] w fun e w'=>e=AV (AN x)/\w=w':=by
 go_enter func189,ntmps189
 exact Rp
def Oo:ByteArray:=⟨#[]⟩
def Kw (u b:Bk):Int:=if 2<=u.factor/\u.factor<=1000/\u.factor*b.scale<=1099511627776 then u.factor*b.scale else 0
def Ka (names:List ByteArray) (out:List Bk) (u:Bk):Option (List Bk):=
 if u.Av=Oo then some (out++[{u with base:=(out.length:Int),scale:=1}])
 else match idx names u.Av with
  | none=>none
  |
   some n=>match out[n]? with
   | none=>none
   | some b=>some (out++[{u with base:=b.base,scale:=Kw u b}])
def FB (names:List ByteArray) (us:List Bk):Nat->Option (List Bk)
 | 0=>some []
 |
  k+1=>match FB names us k,us[k]? with
  | some out,some u=>Ka names out u
  | some out,none=>some out
  | none,_=>none
def R7 (names:List ByteArray) (us:List Bk):Option (List Bk):=FB names us us.length
theorem Ku {names:List ByteArray} {us:List Bk} {k:Nat} {out:List Bk} {u:Bk} (h:FB names us k=some out) (hu:us[k]? =some u):FB names us (k+1)=Ka names out u:=by rw [FB,h,hu]
theorem XF {names:List ByteArray} {us:List Bk} {k:Nat} (h:FB names us k=none):∀m,FB names us (k+m)=none
 | 0=>h
 | m+1=>by rw [<-L0,FB,XF h m]
theorem ZQ {names:List ByteArray} {us:List Bk} {k:Nat} (hk:k<=us.length) (h:FB names us k=none):R7 names us=none:=by
 have:=XF h (us.length - k)
 rwa [show k+(us.length - k)=us.length by omega] at this
theorem nM {names:List ByteArray} {out out':List Bk} {u:Bk} (h:Ka names out u=some out'):∃x,out'=out++[x]:=by
 unfold Ka at h;split at h
 · exact ⟨_,(FO h).symm⟩
 split at h
 · cases h
 split at h
 · cases h
 · exact ⟨_,(FO h).symm⟩
theorem Tl {names:List ByteArray} {us:List Bk}:∀{k:Nat} {out:List Bk},k<=us.length->FB names us k=some out->out.length=k
 | 0,out,_,h=>by rw [FB,Bq] at h;subst h;rfl
 |
  k+1,out,hk,h=>by
  have hu:us[k]? =some us[k]:=BJ hk;cases ho:FB names us k with
  | none=>rw [FB,ho] at h;cases h
  |
   some o=>
   rw [Ku ho hu] at h;obtain ⟨x,rfl⟩:=nM h;simp [Tl AG ho]
def ScB (out:List Bk):Prop:=∀x∈out,0<=x.scale/\x.scale<=1099511627776
theorem rK {names:List ByteArray} {out out':List Bk} {u:Bk} (hs:ScB out) (h:Ka names out u=some out'):ScB out':=by
 unfold Ka at h;split at h
 ·rw [Bq] at h
  subst h;intro x hx;rcases Jq.1 hx with hx | hx
  · exact hs x hx
  · rw [Fk.1 hx];simp
 split at h
 · cases h
 split at h
 · cases h
 rename_i b hb
 rw [Bq] at h;subst h;intro x hx;rcases Jq.1 hx with hx | hx
 · exact hs x hx
 rw [Fk.1 hx];have hbs:=hs b (Ci hb);simp only [Kw];split
 ·rename_i hc
  refine ⟨JH AG hbs.1,hc.2.2⟩
 · simp
theorem VO {names:List ByteArray} {us:List Bk}:∀{k:Nat} {out:List Bk},FB names us k=some out->ScB out
 | 0,out,h=>by rw [FB,Bq] at h;subst h;intro x hx;cases hx
 |
  k+1,out,h=>by
  cases ho:FB names us k with
  | none=>rw [FB,ho] at h;cases h
  |
   some o=>
   cases hu:us[k]? with
   |
    none=>
    rw [FB,ho,hu] at h;rw [<-FO h];exact VO ho
   |
    some u=>
    rw [Ku ho hu] at h;exact rK (VO ho) h
def V0 (names:List ByteArray) (us:List Bk) (base:Nat) (v:AK) (n:Nat) (w:AH) (e:Ending) (w':AH):Prop:=
 w.grownBy w' v.ownBlock/\match R7 names us with
  | none=>e=B8 Bm
  | some out=>e=AV (BS #[])/\∃cs,w'.ownsRow base 193 5 v n cs/\Ao 5 CK w cs out
theorem ZR {names:List ByteArray} {us:List Bk} {base:Nat} {v:AK} {n:Nat} {w w':AH} (h:R7 names us=none) (hg:w.grownBy w' v.ownBlock):V0 names us base v n w (B8 Bm) w':=by refine ⟨hg,?_⟩;rw [h]
theorem XS {names:List ByteArray} {us out:List Bk} {base:Nat} {v:AK} {n:Nat} {w w':AH} {cs:List AK} (h:R7 names us=some out) (hg:w.grownBy w' v.ownBlock) (ho:w'.ownsRow base 193 5 v n cs) (hc:Ao 5 CK w cs out):V0 names us base v n w (AV (BS #[])) w':=by refine ⟨hg,?_⟩;rw [h];exact ⟨rfl,cs,ho,hc⟩
theorem LM {w:AH} {base:Nat} {e:Ae} {sz g n cap:Nat} {cs:List AK} (h:w.ownsRow base e sz (AA (some ⟨g,0,none⟩) n cap) n cs):∃cs t f,w.heap[g]? =some (Obj.cells cs t f):=by
 rcases h.2 with ⟨h,_⟩ | ⟨g',cap',cur,h,_,hh,_⟩
 · cases h
 injection h with h1;injection h1 with h1;injection h1 with h1;subst h1;exact ⟨_,_,_,hh⟩
theorem Ei {a b c:AH} {row:Option Nat} (h:a.grownBy b row) (h':b.grownBy c row):a.grownBy c row:=
 ⟨h'.os.trans h.os,h'.tape.trans h.tape,h'.output.trans h.output,BF h.size h'.size,fun k hk hne=>(h'.block k (Ay hk h.size) hne).trans (h.block k hk hne)⟩
theorem La:Oo.toList=[]:=by rw [ByteArray.toList_eq];rfl
theorem aI {s:ByteArray} (h:s≠Oo):s.toList.isEmpty=false:=by
 cases hs:s.toList with
 | nil=>exact absurd ((str_eq s Oo).1 (by rw [hs,La];rfl)) h
 | cons a r=>rfl
theorem nL {w:AH} {cs:List AK} {l:List Bk} {k:Nat} {u:Bk} (h:Ao 5 CK w cs l) (hk:l[k]? =some u) (b s:Int):Ao 5 CK w ((cs.set (k*5+3) (AB AE b)).set (k*5+4) (AB AE s)) (l.set k {u with base:=b,scale:=s}):=by
 have hkl:=(BA.1 hk).1;have h1:Ao 5 CK w (cs.set (k*5+3) (AB AE b)) (l.set k {u with base:=b}):=h.put AG hkl tQ
 have h2:=h1.put (i:=k) (j:=4) (x':={u with base:=b,scale:=s}) (u:=AB AE s) AG UE tq
 rwa [Hp] at h2
theorem dB (R b2 base g n cap:Nat) (us:List Bk) (cs:List AK) (names:List ByteArray) (w:AH) (hR:w.cell? ⟨R,1,none⟩=some (.map (some b2))) (hRl:R < w.heap.size) (hm:MapAt Hu Gg w b2 (col names).1) (hgR:g≠R)
 (ho:w.ownsRow base 193 5 (AA (some ⟨g,0,none⟩) n cap) n cs) (hc:Ao 5 CK w cs us) (hn:n=us.length):
 AS prog 150 #[AU (some ⟨R,0,none⟩),AA (some ⟨g,0,none⟩) n cap] w (V0 names us base (AA (some ⟨g,0,none⟩) n cap) n w):=by
 have hn2:n<=9223372036854775807:=by
  rcases ho.2 with ⟨h,_⟩ | ⟨g',cap',cur,h,_,_,h1,h2,_⟩
  · cases h
  · unfold maxLen at h2;omega
 obtain ⟨HR,HM,HO,HC,HN,Qr⟩:=FR hR hm ho hc hn (LM ho);clear hR hm ho hc hn;go_enter func150,ntmps150;go_wp2_with fail;go_loopg [9] n (fun q i wr=>∃(k:Nat) (out:List Bk) (cs':List AK),k<=n/\q=n - k/\i=AB AE k/\FB names us k=some out/\w.grownBy wr (some g)/\wr.ownsRow base 193 5 (AA (some ⟨g,0,none⟩) n cap) n cs'/\Ao 5 CK w cs' (out++us.drop k))
 case atStart=>exact ⟨0,[],cs,Ar _,rfl,rfl,rfl,DN _ _,HO.o,HC.o⟩
 clear HO HC;obtain ⟨k,out,cs',hk,hq,rfl,hto,hgr,ho,hc⟩:=hrel;obtain ⟨HQ,Db,Ga,HO,HC⟩:=EG hq hto hgr ho hc;clear hq hto hgr ho hc;by_cases hlt:k < n
 ·obtain ⟨u,hu⟩:∃u,us[k]? =some u:=⟨us[k]' Lj,BJ _⟩
  have hlen:=Tl Lj Db.o;have hat:(out++us.drop k)[k]? =some u:=by rw [Cf AG,EC,hlen];simpa using hu
  have hch:chunk cs' 5 k=[AN u.name,AN u.Av,AB AE u.factor,AB AE u.base,AB AE u.scale]:=HC.o.chunk hat;have c1:=BG HO.o hlt AG hch (j:=1) rfl;have c2:=BG HO.o hlt AG hch (j:=2) rfl;have c3:=BG HO.o hlt AG hch (j:=3) rfl;have c4:=BG HO.o hlt AG hch (j:=4) rfl;have f3:=HO.o.frozenAt (k*5+3);have f4:=HO.o.frozenAt (k*5+4);obtain ⟨HU,Qs,HLEN,HAT⟩:=CJ hu hch hlen hat;clear hu hch hlen hat;by_cases hof:u.Av=Oo
  ·have t1:u.Av.toList.isEmpty=true:=by rw [hof,La];rfl
   have t2:u.Av.toList=[]:=by rw [hof,La]
   have PJ:=AF hof;clear hof;go_wp2;go_roundg (n - (k+1))
   case measure=>exact Bc
   have ho1:=HO.o.stored (k*5+3) (AB AE k);have ho2:=ho1.1.stored (k*5+4) (AB AE 1);refine ⟨k+1,out++[{u with base:=(k:Int),scale:=1}],_,by omega,rfl,by go_num,?_,Ei Ga.o (Ei ho1.2 ho2.2),ho2.1,?_⟩
   · rw [Ku Db.o HU.o,Ka,Am PJ.o,HLEN.o]
   rw [<-set_drop HLEN.o HU.o];exact nL HC.o HAT.o _ _
  have t1:u.Av.toList.isEmpty=false:=aI hof;have t2:¬u.Av.toList=[]:=by intro e;rw [e] at t1;cases t1
  have PJ:=AF hof;clear hof;have hRg:some R≠some g:=by simp;exact fun e=>hgR e.symm
  have hR2:wr.cell? ⟨R,1,none⟩=some (.map (some b2)):=Ga.o.cell HR.o (by simpa using hRg);have ANC:R < wr.heap.size:=Ay hRl Ga.o.size;have hmw:MapAt Hu Gg wr.drew b2 (col names).1:=(HM.o.keeps (CN.grown Ga.o (fun x e=>by cases e;exact Qr.o))).same rfl;have PX:=AF hmw;have hget:=Hy names u.Av;clear hmw;go_wp2_with fail
  go_still_tail 8,AL
  change wpList _ _ _ _ _ wr.drew;go_wp2_with fail;cases hix:idx names u.Av with
  |
   none=>
   rw [hix] at hget;refine (G5 b2 _ _ wr.drew PX.o hget).mono ?_;rintro e w' ⟨rfl,rfl⟩;have IA:=AF hix;clear hix hget
   go_wp2
   refine ⟨rfl,ZR (ZQ (k:=k+1) Lj ?_) (grown_drew Ga.o)⟩;rw [Ku Db.o HU.o,Ka,Ah PJ.o,IA.o]
  |
   some m=>
   rw [hix] at hget;refine (FY b2 _ _ (m:Int) wr.drew PX.o hget).mono ?_;rintro e w' ⟨rfl,rfl⟩;have IA:=AF hix;clear hix hget;by_cases hmk:m < k
   ·obtain ⟨b,hb⟩:∃b,out[m]? =some b:=⟨out[m]' Rv,BJ _⟩
    have pL:(out++us.drop k)[m]? =some b:=by rw [EF Rv];exact hb
    have AD0:chunk cs' 5 m=[AN b.name,AN b.Av,AB AE b.factor,AB AE b.base,AB AE b.scale]:=HC.o.chunk pL;have d3:=BG HO.o (show m < n by omega) AG AD0 (j:=3) rfl;have hsc:=VO Db.o b (Ci hb);obtain ⟨HB,ANE⟩:=Aj hb AD0;clear hb pL AD0;have hmn:(m:Int) < (n:Int):=AG
    have hm0:(0:Int)<=(m:Int):=AG
    have tk:decide (k<=m)=false:=by simp;omega
    go_upto_region 10 with fail;clear tk;have ho1:=HO.o.stored (k*5+3) (AB AE b.base);have ho2:=ho1.1.stored (k*5+4) (AB AE 0);have hoq:=ho2.1.drew;have hgq:w.grownBy ((wr.setCell ⟨g,k*5+3,none⟩ (AB AE b.base)).setCell ⟨g,k*5+4,none⟩ (AB AE 0)).drew (some g):=grown_drew (Ei Ga.o (Ei ho1.2 ho2.2));have hcq:Ao 5 CK w _ ((out++us.drop k).set k {u with base:=b.base,scale:=0}):=nL HC.o HAT.o b.base 0;generalize ((wr.setCell ⟨g,k*5+3,none⟩ (AB AE b.base)).setCell ⟨g,k*5+4,none⟩ (AB AE 0)).drew=wq at hoq hgq ⊢;generalize (cs'.set (k*5+3) (AB AE b.base)).set (k*5+4) (AB AE 0)=cq at hoq hcq
    have hkl:k < (out++us.drop k).length:=(BA.1 HAT.o).1;have Lh:((out++us.drop k).set k {u with base:=b.base,scale:=0})[k]? =some {u with base:=b.base,scale:=0}:=Gv hkl;have pL:((out++us.drop k).set k {u with base:=b.base,scale:=0})[m]? =some b:=by rw [JM AG,EF Rv];exact HB.o
    have hck:chunk cq 5 k=[AN u.name,AN u.Av,AB AE u.factor,AB AE b.base,AB AE 0]:=hcq.chunk Lh;have hcm:chunk cq 5 m=[AN b.name,AN b.Av,AB AE b.factor,AB AE b.base,AB AE b.scale]:=hcq.chunk pL;have e2:=BG hoq hlt AG hck (j:=2) rfl;have e4:=BG hoq hlt AG hck (j:=4) rfl;have g4:=BG hoq (show m < n by omega) AG hcm (j:=4) rfl;have fe4:=hoq.frozenAt (k*5+4);obtain ⟨Kk,PN,YQ,Sv⟩:=CJ hoq hgq hcq Lh;clear c1 c2 c3 c4 f3 f4 d3 ho1 ho2 hoq hgq hcq hck hcm Lh pL hR2 hkl;have hstep:∀z,Kw u b=z->FB names us (k+1)=some (out++[{u with base:=b.base,scale:=z}]):=by intro z hz;rw [Ku Db.o HU.o,Ka,Ah PJ.o,IA.o];simp only [HB.o];rw [hz]
    have HST:=AF hstep;clear hstep;by_cases h2:¬2<=u.factor
    ·have t2:decide ((2:Int)<=u.factor)=false:=by simpa using h2
     have HZ:AI (Kw u b=0):=by show _=_;unfold Kw;rw [Ah (fun h=>h2 h.1)]
     clear h2;exact mW
    have h2':2<=u.factor:=Decidable.not_not.1 h2;clear h2;by_cases h3:¬u.factor<=1000
    ·have t2:decide (u.factor<=(1000:Int))=false:=by simpa using h3
     have HZ:AI (Kw u b=0):=by show _=_;unfold Kw;rw [Ah (fun h=>h3 h.2.1)]
     clear h3;exact mW
    have h3':u.factor<=1000:=Decidable.not_not.1 h3;clear h3;obtain ⟨P,hP⟩:=BH (u.factor*b.scale);have hP0:0<=P:=by rw [<-hP];exact JH AG hsc.1
    have hP1:P<=1099511627776000:=by rw [<-hP];have:=PZ h3' hsc.2 hsc.1 AG;omega
    have hw:IntKind.i64.wrap (u.factor*b.scale)=P:=by rw [hP];exact bN
    have HP:=AF hP;clear hP;by_cases h4:P<=1099511627776
    ·have t2:decide (P<=(1099511627776:Int))=true:=by simpa using h4
     have HZ:AI (Kw u b=P):=by show _=_;unfold Kw;rw [Am ⟨h2',h3',by rw [HP.o];exact h4⟩];exact HP.o
     go_quiet (fail);go_wp2_with fail;have hox:(wq.drewN nq).ownsRow base 193 5 (AA (some ⟨g,0,none⟩) n cap) n cq:=Kk.o.kept (row:=none) (grown_drewN (DN _ _) _) NS;have hgx:=grown_drewN PN.o nq;have e2':(wq.drewN nq).cell? ⟨g,k*5+2,none⟩=_:=e2;have e4':(wq.drewN nq).cell? ⟨g,k*5+4,none⟩=_:=e4;have g4':(wq.drewN nq).cell? ⟨g,m*5+4,none⟩=_:=g4;have AKM:(wq.drewN nq).frozen? ⟨g,k*5+4,none⟩=false:=fe4;generalize wq.drewN nq=wx at hox hgx e2' e4' g4' AKM ⊢;obtain ⟨qW,HGX⟩:=Aj hox hgx;clear e2 e4 g4 fe4 hox hgx
     go_still_tail 13,AL
     change wpList _ _ _ _ _ wx.drew;go_wp2;go_roundg (n - (k+1))
     case measure=>exact Bc
     have ho3:=qW.o.drew.stored (k*5+4) (AB AE P);refine ⟨k+1,_,_,by omega,rfl,by go_num,HST.o P HZ.o,Ei (grown_drew HGX.o) ho3.2,ho3.1,?_⟩;rw [<-set_drop HLEN.o HU.o];have hkl:=(BA.1 Sv.o).1;have:=YQ.o.put (i:=k) (j:=4) (x':={u with base:=b.base,scale:=P}) (u:=AB AE P) AG hkl (by have:chunk cq 5 k=_:=YQ.o.chunk Sv.o;rw [this];rfl)
     rwa [Hp] at this
    have t2:decide (P<=(1099511627776:Int))=false:=by simpa using h4
    have HZ:AI (Kw u b=0):=by show _=_;unfold Kw;rw [Ah (fun h=>h4 (by rw [<-HP.o];exact h.2.2))]
    clear h4;exact mW
   go_wp2_with fail;refine ⟨rfl,ZR (ZQ (k:=k+1) Lj ?_) (grown_drew Ga.o)⟩;rw [Ku Db.o HU.o,Ka,Ah PJ.o,IA.o];simp only;rw [DY Rv]
 have hke:k=us.length:=by have:=HN.o;omega
 go_wp2_with fail
 go_end0
 refine XS (out:=out) ?_ Ga.o HO.o ?_
 · unfold R7;rw [<-hke];exact Db.o
 have:=HC.o;rw [hke,Js,EU] at this;exact this
theorem dC (R b2 base n:Nat) (v:AK) (us:List Bk) (cs:List AK) (names:List ByteArray) (w:AH) (hR:w.cell? ⟨R,1,none⟩=some (.map (some b2))) (hRl:R < w.heap.size) (hm:MapAt Hu Gg w b2 (col names).1) (hbR:R < base)
 (ho:w.ownsRow base 193 5 v n cs) (hc:Ao 5 CK w cs us) (hn:n=us.length):
 AS prog 150 #[AU (some ⟨R,0,none⟩),v] w (V0 names us base v n w):=by
 rcases ho.2 with ⟨rfl,h0⟩ | ⟨g,cap,cur,rfl,hbg,_⟩
 ·subst h0
  have hu:us=[]:=JO hn.symm;subst hu;obtain ⟨HO,HC⟩:=Aj ho hc;clear ho hc hR hm hn;go_enter func150,ntmps150;go_wp2_with fail;refine wp_loop_rounds 1 ?_;rw [rounds_succ];go_wp2_with fail
  go_end0
  exact XS (out:=[]) rfl (DN _ _) HO.o HC.o
 · exact dB R b2 base g n cap us cs names w hR hRl hm AG ho hc hn
def Hj {α:Type} (t:Ae) (sz:Nat) (R:AH->List AK->α->Prop) (l:List α) (w:AH) (e:Ending) (w':AH):Prop:=
 ∃v cs,e=AV v/\Ao sz R w cs l/\w'.ownsRow w.heap.size t sz v l.length cs/\AJ w w'
theorem AEf {p:Prop} (h:p:=by
 have hlen:=hs.1.len;have hbd:=hs.2;have HS:=AF hs.1;clear hs;rcases A with _ | ad
 ·have hl:l=[]:=by
   obtain ⟨cs,hcs,_⟩:=HS.o.cells;cases l with
   | nil=>rfl
   | cons x r=>obtain ⟨b,off,x,cs,e,_⟩:=HS.o.at_ (k:=0) (by rw [hlen];simp);cases e
  subst hl;obtain rfl:n=0:=by simpa using hlen
  clear hlen hbd;have hnil:=fun w:AH=>Lib.run_eql_slice_nil (P:=prog) w _ _ none 0 c 0 0 cU;simp only [Option.isNone_none] at hnil;go_enter cF,cN
  go_wp2
  go_ret;exact ⟨_,[],rfl,Ao.nil,ED _ _ _ _,Af _ _⟩
 ·obtain ⟨i0,hi,hz0,hz1,hz2⟩:=JF cI
  have HLEN:=AF hlen;have hnb:=hbd;rw [<-hlen] at hnb;clear hlen;have hnil:=fun w:AH=>Lib.run_eql_slice_nil (P:=prog) w _ _ (some ad) n c 0 0 cU;simp only [Option.isNone_some] at hnil;go_enter cF,cN;go_wp2_with (at_builtin;refine Cb _ rfl (AY 5) (AY 6) _ _ rfl i0 _ _ cU hi hz0 hz1 hz2 rfl BE (R:=fun _=>R w) (fun _=>hone w) w.heap.size (AA (some ⟨w.heap.size,0,none⟩) 0 0) 0 [] rfl (World.ownsRow_lit w #[] 0 (Ad _) (Ar _) rfl) (some ad) n c l rfl (HS.o.fix (BP _ _)) Gj AG Ac ?_;intro v' w1 cs hcs hown hgr hat);exact vR
 ):p:=h
theorem AGQ:(prog.info? 9).map (fun i=>(i.zero,i.size,i.bytes))=some (some (AN ⟨#[]⟩),1,16):=by kernel_rfl
open Go.Proofs.Tryz renaming func144 → cF, ntmps144 → cN, underlying22 → cU in
theorem xy {α:Type} {R:AH->List AK->α->Prop} (hone:One R) (A:Option Aa) (n c:Nat) (l:List α) (w:AH) (hs:BQ 1 16 R w (AA A n c) l):
 AS prog 144 #[AA A n c] w (Hj 9 1 R l w):=by have cI:=AGQ;exact Kt
theorem ADU:(prog.info? 193).map (fun i=>(i.zero,i.size,i.bytes))=some (some (AO #[AN ⟨#[]⟩,AN ⟨#[]⟩,AB AE 0,AB AE 0,AB AE 0]),5,56):=by kernel_rfl
open Go.Proofs.Tryz renaming func145 → cF, ntmps145 → cN, underlying23 → cU in
theorem r9 {α:Type} {R:AH->List AK->α->Prop} (hone:One R) (A:Option Aa) (n c:Nat) (l:List α) (w:AH) (hs:BQ 5 56 R w (AA A n c) l):
 AS prog 145 #[AA A n c] w (Hj 193 5 R l w):=by have cI:=ADU;exact Kt
theorem wV:(prog.info? 79).map (fun i=>(i.zero,i.size,i.bytes))=some (some (AO #[AN ⟨#[]⟩,AN ⟨#[]⟩,AB AE 0,AB AE 0,AA none 0 0,AA none 0 0]),6,96):=by kernel_rfl
open Go.Proofs.Tryz renaming func146 → cF, ntmps146 → cN, underlying24 → cU in
theorem lQ {α:Type} {R:AH->List AK->α->Prop} (hone:One R) (A:Option Aa) (n c:Nat) (l:List α) (w:AH) (hs:BQ 6 96 R w (AA A n c) l):
 AS prog 146 #[AA A n c] w (Hj 79 6 R l w):=by have cI:=wV;exact Kt
theorem ADV:(prog.info? 151).map (fun i=>(i.zero,i.size,i.bytes))=some (some (AO #[AN ⟨#[]⟩,AB AE 0,AA none 0 0,AA none 0 0,AA none 0 0]),5,96):=by kernel_rfl
open Go.Proofs.Tryz renaming func147 → cF, ntmps147 → cN, underlying25 → cU in
theorem sB {α:Type} {R:AH->List AK->α->Prop} (hone:One R) (A:Option Aa) (n c:Nat) (l:List α) (w:AH) (hs:BQ 5 96 R w (AA A n c) l):
 AS prog 147 #[AA A n c] w (Hj 151 5 R l w):=by have cI:=ADV;exact Kt
theorem rv:(prog.info? 154).map (fun i=>(i.zero,i.size,i.bytes))=some (some (AO #[AN ⟨#[]⟩,AN ⟨#[]⟩,AB AE 0,AB AE 0,AA none 0 0]),5,72):=by kernel_rfl
open Go.Proofs.Tryz renaming func148 → cF, ntmps148 → cN, underlying26 → cU in
theorem iH {α:Type} {R:AH->List AK->α->Prop} (hone:One R) (A:Option Aa) (n c:Nat) (l:List α) (w:AH) (hs:BQ 5 72 R w (AA A n c) l):
 AS prog 148 #[AA A n c] w (Hj 154 5 R l w):=by have cI:=rv;exact Kt
theorem ru:(prog.info? 157).map (fun i=>(i.zero,i.size,i.bytes))=some (some (AO #[AN ⟨#[]⟩,AA none 0 0,AB AE 0]),3,48):=by kernel_rfl
open Go.Proofs.Tryz renaming func149 → cF, ntmps149 → cN, underlying27 → cU in
theorem iG {α:Type} {R:AH->List AK->α->Prop} (hone:One R) (A:Option Aa) (n c:Nat) (l:List α) (w:AH) (hs:BQ 3 48 R w (AA A n c) l):
 AS prog 149 #[AA A n c] w (Hj 157 3 R l w):=by have cI:=ru;exact Kt
theorem ABo:(prog.info? 100).map (fun i=>(i.zero,i.size,i.bytes))=some (some (AO #[AN ⟨#[]⟩,AB AE 0,AB AE 0,AB AE 0,AN ⟨#[]⟩,AB AE 0,AA none 0 0,AB AE 0,AB AE 0,AB AE 0,AB AE 0]),11,120):=by kernel_rfl
open Go.Proofs.Tryz renaming func201 → cF, ntmps201 → cN, underlying76 → cU in
theorem qA {α:Type} {R:AH->List AK->α->Prop} (hone:One R) (A:Option Aa) (n c:Nat) (l:List α) (w:AH) (hs:BQ 11 120 R w (AA A n c) l):
 AS prog 201 #[AA A n c] w (Hj 100 11 R l w):=by have cI:=ABo;exact Kt
theorem AGV:(prog.info? 282).map (fun i=>(i.zero,i.size,i.bytes))=some (some (AO #[AA none 0 0,AN ⟨#[]⟩,AA none 0 0,AB AE 0]),4,72):=by kernel_rfl
open Go.Proofs.Tryz renaming func202 → cF, ntmps202 → cN, underlying77 → cU in
theorem yE {α:Type} {R:AH->List AK->α->Prop} (hone:One R) (A:Option Aa) (n c:Nat) (l:List α) (w:AH) (hs:BQ 4 72 R w (AA A n c) l):
 AS prog 202 #[AA A n c] w (Hj 282 4 R l w):=by have cI:=AGV;exact Kt
theorem ADZ:(prog.info? 290).map (fun i=>(i.zero,i.size,i.bytes))=some (some (AO #[AN ⟨#[]⟩,AN ⟨#[]⟩,AB AE 0,AN ⟨#[]⟩,AN ⟨#[]⟩,AB AE 0,AB AE 0,AB AE 0]),8,96):=by kernel_rfl
open Go.Proofs.Tryz renaming func203 → cF, ntmps203 → cN, underlying147 → cU in
theorem sD {α:Type} {R:AH->List AK->α->Prop} (hone:One R) (A:Option Aa) (n c:Nat) (l:List α) (w:AH) (hs:BQ 8 96 R w (AA A n c) l):
 AS prog 203 #[AA A n c] w (Hj 290 8 R l w):=by have cI:=ADZ;exact Kt
theorem lW (A:Option Aa) (n c:Nat) (l:List Br) (w:AH) (hs:BQ 8 96 DI w (AA A n c) l):
 AS prog 203 #[AA A n c] w (Hj 290 8 DI l w):=sD wF A n c l w hs
theorem ADa:(prog.info? 273).map (fun i=>(i.zero,i.size,i.bytes))=some (some (AO #[AB AE 0,AN ⟨#[]⟩,AN ⟨#[]⟩,AB AE 0,AB AE 0,AB AE 0,AN ⟨#[]⟩,AN ⟨#[]⟩,AB AE 0,AB AE 0,AB AE 0]),11,120):=by kernel_rfl
open Go.Proofs.Tryz renaming func205 → cF, ntmps205 → cN, underlying148 → cU in
theorem sE {α:Type} {R:AH->List AK->α->Prop} (hone:One R) (A:Option Aa) (n c:Nat) (l:List α) (w:AH) (hs:BQ 11 120 R w (AA A n c) l):
 AS prog 205 #[AA A n c] w (Hj 273 11 R l w):=by have cI:=ADa;exact Kt
theorem lX (A:Option Aa) (n c:Nat) (l:List Gf) (w:AH) (hs:BQ 11 120 EQ w (AA A n c) l):
 AS prog 205 #[AA A n c] w (Hj 273 11 EQ l w):=sE wG A n c l w hs
theorem AGR:(prog.info? 276).map (fun i=>(i.zero,i.size,i.bytes))=some (some (AO #[AN ⟨#[]⟩,AB AE 0,AN ⟨#[]⟩,AN ⟨#[]⟩,AB AE 0,AB AE 0,AB AE 0]),7,80):=by kernel_rfl
open Go.Proofs.Tryz renaming func206 → cF, ntmps206 → cN, underlying149 → cU in
theorem yC {α:Type} {R:AH->List AK->α->Prop} (hone:One R) (A:Option Aa) (n c:Nat) (l:List α) (w:AH) (hs:BQ 7 80 R w (AA A n c) l):
 AS prog 206 #[AA A n c] w (Hj 276 7 R l w):=by have cI:=AGR;exact Kt
theorem py (A:Option Aa) (n c:Nat) (l:List Kf) (w:AH) (hs:BQ 7 80 Gc w (AA A n c) l):
 AS prog 206 #[AA A n c] w (Hj 276 7 Gc l w):=yC ABB A n c l w hs
theorem ADW:(prog.info? 286).map (fun i=>(i.zero,i.size,i.bytes))=some (some (AO #[AN ⟨#[]⟩,AN ⟨#[]⟩,AB AE 0,AB AE 0,AB AE 0]),5,56):=by kernel_rfl
open Go.Proofs.Tryz renaming func207 → cF, ntmps207 → cN, underlying152 → cU in
theorem sC {α:Type} {R:AH->List AK->α->Prop} (hone:One R) (A:Option Aa) (n c:Nat) (l:List α) (w:AH) (hs:BQ 5 56 R w (AA A n c) l):
 AS prog 207 #[AA A n c] w (Hj 286 5 R l w):=by have cI:=ADW;exact Kt
theorem lV (A:Option Aa) (n c:Nat) (l:List IL) (w:AH) (hs:BQ 5 56 GJ w (AA A n c) l):
 AS prog 207 #[AA A n c] w (Hj 286 5 GJ l w):=sC wE A n c l w hs
theorem AGS:(prog.info? 280).map (fun i=>(i.zero,i.size,i.bytes))=some (some (AO #[AN ⟨#[]⟩,AN ⟨#[]⟩,AB AE 0,AB AE 0]),4,48):=by kernel_rfl
open Go.Proofs.Tryz renaming func208 → cF, ntmps208 → cN, underlying155 → cU in
theorem yD {α:Type} {R:AH->List AK->α->Prop} (hone:One R) (A:Option Aa) (n c:Nat) (l:List α) (w:AH) (hs:BQ 4 48 R w (AA A n c) l):
 AS prog 208 #[AA A n c] w (Hj 280 4 R l w):=by have cI:=AGS;exact Kt
theorem pz (A:Option Aa) (n c:Nat) (l:List Jl) (w:AH) (hs:BQ 4 48 IF w (AA A n c) l):
 AS prog 208 #[AA A n c] w (Hj 280 4 IF l w):=yD ABD A n c l w hs
def EN {α β:Type} (f:List β->α->Option β) (l:List α):Nat->Option (List β)
 | 0=>some []
 |
  k+1=>match EN f l k,l[k]? with
  | some out,some x=>(f out x).map (fun y=>out++[y])
  | some out,none=>some out
  | none,_=>none
def Fv {α β:Type} (f:List β->α->Option β) (l:List α):Option (List β):=EN f l l.length
section
variable {α β:Type} {f:List β->α->Option β} {l:List α}
theorem Fc {k:Nat} {out:List β} {x:α} {y:β} (h:EN f l k=some out) (hx:l[k]? =some x) (hy:f out x=some y):EN f l (k+1)=some (out++[y]):=by rw [EN,h,hx];simp only [hy,Cu]
theorem FJ {k:Nat} {out:List β} {x:α} (h:EN f l k=some out) (hx:l[k]? =some x) (hy:f out x=none):EN f l (k+1)=none:=by rw [EN,h,hx];simp only [hy,JJ]
theorem dj {k:Nat} (h:EN f l k=none):∀m,EN f l (k+m)=none
 | 0=>h
 | m+1=>by rw [<-L0,EN,dj h m]
theorem En {k:Nat} (hk:k<=l.length) (h:EN f l k=none):Fv f l=none:=by
 have:=dj h (l.length - k)
 rwa [show k+(l.length - k)=l.length by omega] at this
theorem Cq:∀{k:Nat} {out:List β},k<=l.length->EN f l k=some out->out.length=k
 | 0,out,_,h=>by rw [EN,Bq] at h;subst h;rfl
 |
  k+1,out,hk,h=>by
  have hu:l[k]? =some l[k]:=BJ hk;cases ho:EN f l k with
  | none=>rw [EN,ho] at h;cases h
  |
   some o=>
   cases hy:f o l[k] with
   | none=>rw [FJ ho hu hy] at h;cases h
   |
    some y=>
    rw [Fc ho hu hy,Bq] at h;subst h;simp [Cq AG ho]
end
def EK {α:Type} (T:Ae) (sz:Nat) (R:AH->List AK->α->Prop) (base G n cap i:Nat) (cs:List AK) (lo M:Nat) (res:Option α) (w:AH) (e:Ending) (w':AH):Prop:=
 w.grownBy w' (some G)/\match res with
  | none=>e=B8 Bm
  | some x=>e=AV (BS #[])/\∃cs',w'.ownsRow base T sz (AA (some ⟨G,0,none⟩) n cap) n cs'/\(∀j,j≠i->chunk cs' sz j=chunk cs sz j)/\R (mask lo M w') (chunk cs' sz i) x
section
variable {α:Type} {T:Ae} {sz:Nat} {R:AH->List AK->α->Prop} {base G n cap i:Nat} {cs:List AK} {lo M:Nat} {w w':AH}
theorem Dl {res:Option α} (h:res=none) (hg:w.grownBy w' (some G)):EK T sz R base G n cap i cs lo M res w (B8 Bm) w':=by subst h;exact ⟨hg,rfl⟩
theorem QJ {res:Option α} {x:α} (h:res=some x) (hg:w.grownBy w' (some G)) {cs':List AK} (ho:w'.ownsRow base T sz (AA (some ⟨G,0,none⟩) n cap) n cs') (hc:∀j,j≠i->chunk cs' sz j=chunk cs sz j) (hx:R (mask lo M w') (chunk cs' sz i) x):
 EK T sz R base G n cap i cs lo M res w (AV (BS #[])) w':=by
 subst h;exact ⟨hg,rfl,cs',ho,hc,hx⟩
end
theorem Ma {a w:AH} {row:Option Nat} (h:a.grownBy w row) {p:Aa} (hp:a.heap.size<=p.block) (v:AK):a.grownBy (w.setCell p v) row:=
 ⟨h.os,h.tape,h.output,by simpa [World.setCell] using h.size,fun k hk hne=>(EB w p v k AG).trans (h.block k hk hne)⟩
theorem Cw {a w:AH} {G:Nat} (h:a.grownBy w (some G)) (o:Nat) (v:AK):a.grownBy (w.setCell ⟨G,o,none⟩ v) (some G):=
 ⟨h.os,h.tape,h.output,by simpa [World.setCell] using h.size,fun k hk hne=>(EB w _ v k (fun e=>hne M1)).trans (h.block k hk hne)⟩
theorem Ej {w w':AH} (h:AJ w w') (row:Option Nat):w.grownBy w' row:=⟨h.os,h.tape,h.output,h.size,fun k hk _=>h.block k hk⟩
theorem Gz {w:AH} {base:Nat} {e:Ae} {sz:Nat} {v:AK} {n:Nat} {cs:List AK} (h:w.ownsRow base e sz v n cs) {p:Aa} (hp:p.block < base) (u:AK):(w.setCell p u).ownsRow base e sz v n cs:=
 Pm h (a:=p) (fun e=>by have:=h.lt _ e;omega) u
theorem own_ne {w:AH} {base:Nat} {e:Ae} {sz g n cap:Nat} {cs:List AK} (h:w.ownsRow base e sz (AA (some ⟨g,0,none⟩) n cap) n cs) {p:Aa} (hp:p.block≠g) (u:AK):(w.setCell p u).ownsRow base e sz (AA (some ⟨g,0,none⟩) n cap) n cs:=
 Pm h (a:=p) (fun e=>by simp [Value.ownBlock] at e;exact hp e.symm) u
theorem Co {w w':AH} {base:Nat} {e:Ae} {size:Nat} {v:AK} {n:Nat} {xs:List AK} (h:w.ownsRow base e size v n xs) (hb:AJ w w'):w'.ownsRow base e size v n xs:=
 h.kept (row:=none) ⟨hb.os,hb.tape,hb.output,hb.size,fun k hk _=>hb.block k hk⟩ fK
theorem JR {w:AH} {base:Nat} {e:Ae} {sz:Nat} {v:AK} {n:Nat} {cs:List AK} (h:w.ownsRow base e sz v n cs):(v=AA none 0 0/\n=0)\/∃g cap,v=AA (some ⟨g,0,none⟩) n cap/\base<=g/\g < w.heap.size/\n<=9223372036854775807:=by
 rcases h.2 with ⟨rfl,h0⟩ | ⟨g,cap,cur,rfl,h2,h3,h4,h5,_⟩
 · exact .inl ⟨rfl,h0⟩
 unfold maxLen at h5;exact .inr ⟨g,cap,rfl,h2,(Cz.1 h3).1,by omega⟩
def Y7 (s:BD) (m:Jl):Option Jl:=
 match idx (CH s) m.name with
 | none=>none
 |
  some a=>match s.Ap[a]? with
  | none=>none
  |
   some x=>match idx (fieldNames x) m.path with
   | none=>none
   | some f=>some {m with schema:=(a:Int),field:=(f:Int)}
def Gn (s:BD) (p:Cj):Option Cj:=(Fv (fun _=>Y7 s) p.may).map (fun l=>{p with may:=l})
theorem Xm {l:List ByteArray} {x:ByteArray} {n:Nat} (h:idx l x=some n):n < l.length:=by unfold idx at h;rw [List.findIdx?_eq_some_iff_findIdx_eq] at h;exact h.1
theorem AF8 {w:AH} {cs:List AK} {l:List Jl} {k:Nat} {u:Jl} (h:Ao 4 IF w cs l) (hk:l[k]? =some u) (a:Int):Ao 4 IF w (cs.set (k*4+2) (AB AE a)) (l.set k {u with schema:=a}):=
 h.put AG (BA.1 hk).1 tP
theorem ACx {w:AH} {cs:List AK} {l:List Jl} {k:Nat} {u:Jl} (h:Ao 4 IF w cs l) (hk:l[k]? =some u) (a:Int):Ao 4 IF w (cs.set (k*4+3) (AB AE a)) (l.set k {u with field:=a}):=
 h.put AG (BA.1 hk).1 tP
theorem ZG (R lo M base G n cap i:Nat) (cs:List AK) (s:BD) (p:Cj) (w:AH) (hres:Jk (mask lo M w) R s) (hlo:lo<=G) (Gp:G < M) (ug:M<=w.heap.size)
 (ho:w.ownsRow base 157 3 (AA (some ⟨G,0,none⟩) n cap) n cs) (hi:i < n) (hp:BT (mask lo M w) (chunk cs 3 i) p):
 AS prog 154 #[AU (some ⟨R,0,none⟩),AU (some ⟨G,i*3,none⟩)] w (EK 157 3 BT base G n cap i cs lo M (Gn s p) w):=by
 obtain ⟨A1,n1,c1,hch,hmay⟩:=hp;have p0:=BG ho hi AG hch (j:=0) rfl;have p1:=BG ho hi AG hch (j:=1) rfl;have Uy:G < w.heap.size:=AG
 obtain ⟨Gs,HO,Qs,yi,HBD⟩:=EG hres ho hch (hmay.Hz jB) hmay.2;clear hres ho hch hmay;go_enter func154,ntmps154;go_wp2_with fail;refine (pz A1 n1 c1 p.may _ yi.o).mono ?_;rintro e w1 ⟨v,cs1,rfl,hcs1,ho1,hb1⟩;obtain ⟨vA,vn,vc,rfl⟩:∃A m c,v=AA A m c:=by
  exact zq
 have q1:w1.cell? ⟨G,i*3+1,none⟩=some (AA A1 n1 c1):=((Jg hb1).1 _ _ Uy).trans p1;have hf1:w1.frozen? ⟨G,i*3+1,none⟩=false:=((Jg hb1).2 _ _ Uy).trans (HO.o.frozenAt _);have hG1:G < w1.heap.size:=Ay Uy hb1.size;obtain ⟨Hl,Kl,HB1⟩:=Az ho1 hcs1 hb1;clear ho1 hcs1 hb1 p0 p1;go_wp2_with fail;have ho2:(w1.setCell ⟨G,i*3+1,none⟩ (AA vA vn vc)).ownsRow base 157 3 (AA (some ⟨G,0,none⟩) n cap) n (cs.set (i*3+1) (AA vA vn vc)):=((Co HO.o HB1.o).stored (i*3+1) (AA vA vn vc)).1;have hi2:(w1.setCell ⟨G,i*3+1,none⟩ (AA vA vn vc)).ownsRow w.heap.size 280 4 (AA vA vn vc) p.may.length cs1:=Gz Hl.o (by simpa using Uy) _;have hg2:w.grownBy (w1.setCell ⟨G,i*3+1,none⟩ (AA vA vn vc)) (some G):=Cw (Ej HB1.o _) _ _;generalize w1.setCell ⟨G,i*3+1,none⟩ (AA vA vn vc)=w2 at ho2 hi2 hg2 ⊢;have hvn:vn=p.may.length:=by
  exact zp
 obtain ⟨KU,HI2,HG2,LN⟩:=CJ ho2 hi2 hg2 hvn;clear ho2 hi2 hg2 hvn q1 hf1 hG1 Hl HB1;go_loopg [19] vn (fun q j wr=>∃(k:Nat) (out:List Jl) (cr:List AK),k<=vn/\q=vn - k/\j=AB AE k/\EN (fun _=>Y7 s) p.may k=some out/\w.grownBy wr (some G)/\wr.ownsRow base 157 3 (AA (some ⟨G,0,none⟩) n cap) n (cs.set (i*3+1) (AA vA vn vc))/\
  wr.ownsRow w.heap.size 280 4 (AA vA vn vc) p.may.length cr/\Ao 4 IF w cr (out++p.may.drop k))
 case atStart=>exact mC
 clear KU HI2 HG2 Kl;obtain ⟨k,out,cr,hk,hq,rfl,hto,hgr,hog,Gh,hcr⟩:=hrel;obtain ⟨HQ,Db⟩:=Aj hq hto;clear hq hto;by_cases hlt:k < vn
 ·rcases JR Gh with ⟨h,h0⟩ | ⟨H,hcap,h,hH,hHw,hn2⟩
  · exact R2
  injection h with h1 h2 h3;subst h1 h3;clear h2;have wX:vn<=9223372036854775807:=by have:=LN.o;omega
  obtain ⟨m,hm⟩:∃m,p.may[k]? =some m:=⟨p.may[k]' JU,BJ _⟩;have hlen:=Cq JU Db.o;have hat:(out++p.may.drop k)[k]? =some m:=by rw [Cf AG,EC,hlen];simpa using hm
  have hch:chunk cr 4 k=[AN m.name,AN m.path,AB AE m.schema,AB AE m.field]:=hcr.chunk hat;have Dy:wr.ownsRow w.heap.size 280 4 (AA (some ⟨H,0,none⟩) vn vc) vn cr:=by have:=LN.o;rw [this] at Gh ⊢;exact Gh
  have e0:=BG Dy hlt AG hch (j:=0) rfl;simp only [D6] at e0;have e1:=BG Dy hlt AG hch (j:=1) rfl;have e2:=BG Dy hlt AG hch (j:=2) rfl;have e3:=BG Dy hlt AG hch (j:=3) rfl;have f2:=Dy.frozenAt (k*4+2);have aS:chunk (cs.set (i*3+1) (AA (some ⟨H,0,none⟩) vn vc)) 3 i=[AN p.name,AA (some ⟨H,0,none⟩) vn vc,AB AE p.most]:=by rw [El _ AG,Qs.o];rfl
  have g1:=BG hog hi AG aS (j:=1) rfl;obtain ⟨b1,b2,b3,fA,fn,fc,hbR,hm1,hm2,EI,hfs⟩:=(Gs.o.below (Cv hgr hlo Gp)).Hz;have r2:=hbR.cell 2;have r3:=hbR.cell 3;have lR:=hbR.lt;simp only [Ai,An,Aw] at r2 r3;have hget:=Hy (CH s) m.name;obtain ⟨Ga,LP,LO,Te,HM,HLEN,HAT,G8,PO⟩:=Po hgr hog Dy hcr hm hlen hat (EI.same (w':=wr.drew) rfl) hfs;clear hgr hog Gh Dy hcr hm hlen hat hch aS hbR hm1 hm2 EI hfs;have hkn:(k:Int) < (vn:Int):=AG
  have hk0:=Int.natCast_nonneg k
  cases hix:idx (CH s) m.name with
  |
   none=>
   rw [hix] at hget;obtain ⟨IA,V6⟩:=Aj hix hget;clear hix hget;go_wp2_with fail;have Cl:AI (EK 157 3 BT base G n cap i cs lo M (Gn s p) w (B8 Bm) wr.drew):=by refine Dl ?_ (grown_drew Ga.o);unfold Gn;rw [En (k:=k+1) JU (FJ Db.o HM.o (by unfold Y7;rw [IA.o]))];rfl
   go_region_dies
   all_goals
    refine (G5 b3 _ _ _ G8.o V6.o).mono ?_;rintro e w' ⟨rfl,rfl⟩;exact ⟨rfl,Cl.o⟩
  |
   some a=>
   rw [hix] at hget;obtain ⟨IA,HF⟩:=Aj hix ((FY b3 _ _ (a:Int) wr.drew G8.o hget).mono (R':=fun e w'=>e=AV (AB AE a)/\w'=wr.drew) FT);have hal:=Xm hix;clear hix hget;go_wp2_with fail;refine wp_region_still_tail 12 AL AL ?_;simp only [FQ,Ee,JL,Ho]
   repeat still_step
   still_call HF.o
   repeat still_step
   refine FN ?_;change wpList _ _ _ _ _ wr.drew;go_upto_region 6 with fail;have hoq:=(LO.o.stored (k*4+2) (AB AE a)).1.drew;have hgq:w.grownBy (wr.setCell ⟨H,k*4+2,none⟩ (AB AE a)).drew (some G):=grown_drew (Ma Ga.o (by simpa using hH) _);have N0:=(own_ne LP.o (p:=⟨H,k*4+2,none⟩) BX (AB AE a)).drew;have hcq:=AF8 Te.o HAT.o (a:Int);generalize (wr.setCell ⟨H,k*4+2,none⟩ (AB AE a)).drew=wq at hoq hgq N0 ⊢;generalize cr.set (k*4+2) (AB AE a)=cq at hoq hcq;have hkl:k < (out++p.may.drop k).length:=(BA.1 HAT.o).1;have Lh:((out++p.may.drop k).set k {m with schema:=(a:Int)})[k]? =some {m with schema:=(a:Int)}:=Gv hkl;have hck:chunk cq 4 k=[AN m.name,AN m.path,AB AE a,AB AE m.field]:=hcq.chunk Lh;have d1:=BG hoq hlt AG hck (j:=1) rfl;have d2:=BG hoq hlt AG hck (j:=2) rfl;have d3:=BG hoq hlt AG hck (j:=3) rfl;have fd3:=hoq.frozenAt (k*4+3);obtain ⟨b1',b2',b3',TN,fn',TM,Hv,_,_,_,Kd⟩:=(Gs.o.below (Cv hgq hlo Gp)).Hz;have s3:=Hv.cell 3;have lR':=Hv.lt;simp only [Ai,An,Aw] at s3;have hfn:fn'=s.Ap.length:=by have:=Kd.len;simpa using this
   have hal':a < fn':=by rw [hfn];simpa [CH] using hal
   obtain ⟨fb,pV,fm,fg,rfl,hfb,hfm,hfc,MI⟩:=Ut Kd hal';obtain ⟨x,hx⟩:∃x,s.Ap[a]? =some x:=⟨s.Ap[a]' AG,BJ _⟩;have hfx:fm=fieldMap x:=by rw [Be,hx,Cu,Bq] at hfm;exact hfm.symm
   subst hfx;have hget:=Hy (fieldNames x) m.path;obtain ⟨Kk,PN,T7,YQ,Sv,Wh,HX⟩:=LW hoq hgq N0 hcq Lh (MI.same (w':=wq.drew) rfl) hx;clear hoq hgq N0 hcq hkl Lh hck Hv Kd hfm MI hx e0 e1 e2 e3 f2 g1 r2 r3 lR hfn hal HF;have ha0:(0:Int)<=(a:Int):=AG
   have han:(a:Int) < (fn':Int):=AG
   cases hix:idx (fieldNames x) m.path with
   |
    none=>
    rw [hix] at hget;obtain ⟨iY,V6⟩:=Aj hix hget;clear hix hget;have Cl:AI (EK 157 3 BT base G n cap i cs lo M (Gn s p) w (B8 Bm) wq.drew):=by refine Dl ?_ (grown_drew PN.o);unfold Gn;rw [En (k:=k+1) JU (FJ Db.o HM.o tg)];rfl
    go_region_dies
    all_goals
     refine (G5 fg _ _ _ Wh.o V6.o).mono ?_;rintro e w' ⟨rfl,rfl⟩;exact ⟨rfl,Cl.o⟩
   |
    some f=>
    rw [hix] at hget;obtain ⟨iY,HF⟩:=Aj hix ((FY fg _ _ (f:Int) wq.drew Wh.o hget).mono (R':=fun e w'=>e=AV (AB AE f)/\w'=wq.drew) FT);clear hix hget;refine wp_region_still_tail 18 AL AL ?_;simp only [FQ,Ee,JL,Ho]
    repeat still_step
    still_call HF.o
    repeat still_step
    refine FN ?_;change wpList _ _ _ _ _ wq.drew;go_wp2;go_roundg (vn - (k+1))
    case measure=>exact Bc
    have ho3:=(Kk.o.drew.stored (k*4+3) (AB AE f)).1;have hc3:=ACx YQ.o Sv.o (f:Int);rw [Hp] at hc3;refine ⟨k+1,out++[{m with schema:=(a:Int),field:=(f:Int)}],cq.set (k*4+3) (AB AE f),by omega,rfl,by go_num,?_,Ma (grown_drew PN.o) (by simpa using hH) _,own_ne T7.o.drew BX _,?_,?_⟩
    · exact Fc Db.o HM.o tg
    · have:=LN.o;rw [this] at ho3 ⊢;exact ho3
    · rw [<-set_drop HLEN.o HM.o];exact hc3
 have hke:k=p.may.length:=by have:=LN.o;omega
 go_wp2_with fail
 go_end0
 have hP:Gn s p=some {p with may:=out}:=by unfold Gn Fv;rw [<-hke,Db.o];rfl
 have hsl:Ag 4 IF (mask lo M wr) (AA vA vn vc) out:=by rw [hke,Js,EU] at hcr;exact CP (Lb Gh ug) ⟨hcr.1,hcr.2⟩ tB
 refine QJ hP hgr hog (fun j hj=>FM _ AG hj) ?_;refine ⟨vA,vn,vc,?_,hsl,?_⟩
 · rw [El _ AG,Qs.o];rfl
 exact AAi
def Kh (ss:List BI) (fs:List Br) (t:DP):Option Fe:=Fu ss fs t fs.length
def Qz (ss:List BI) (fs:List Br) (t:DP):Bool:=(Kh ss fs t).isSome || isNum t
def Nj (us:List Bk):List Fe->Bool
 | [s,t]=>LH us s t
 | _=>true
def Vb (op:Int) (y:Fe):Bool:= !(decide (op=2) || decide (op=3)) || Py y
theorem ACK (us:List Bk) (ss:List BI) (fs:List Br) (a:Gf):Ml us ss fs a=(decide (1<=a.op) && decide (a.op<=4) && (Qz ss fs a.a && Qz ss fs a.b) && !([a.a,a.b].filterMap (Kh ss fs)).isEmpty && Nj us ([a.a,a.b].filterMap (Kh ss fs)) && ([a.a,a.b].filterMap (Kh ss fs)).all (Vb a.op)):=by
 have ea:Kh ss fs a.a=Fu ss fs a.a fs.length:=rfl;have eb:Kh ss fs a.b=Fu ss fs a.b fs.length:=rfl;unfold Ml Qz;simp only [Mv,Mt,ea,eb];cases Fu ss fs a.a fs.length <;> cases Fu ss fs a.b fs.length
 · simp
 ·rename_i y
  exact AAZ
 ·rename_i y
  exact AAZ
 rename_i x y
 simp only [Option.all_some,Pa,List.all_nil,Nj,GF,Vb,List.isEmpty_cons];generalize decide (1<=a.op)=p1;generalize decide (a.op<=4)=p2;generalize decide (a.op=2)=p3;generalize decide (a.op=3)=p4;generalize isNum a.a=p5;generalize isNum a.b=p6;generalize Py y=p7;generalize Py x=p8;generalize LH us x y=p9;revert p1 p2 p3 p4 p5 p6 p7 p8 p9;decide
theorem AA2 {ss:List BI} {fs:List Br} {t:DP} {n:Nat} {y:Fe} (h:Fu ss fs t n=some y):∃x∈ss,∃f∈x.fields,f.type=y:=by
 unfold Fu at h;split at h
 · cases h
 obtain ⟨f,hf,h2⟩:=eQ.1 h;unfold typeAt at h2;split at h2
 · cases h2
 obtain ⟨x,hx,h3⟩:=eQ.1 h2;obtain ⟨g,hg,h4⟩:=Ds.1 h3;exact ⟨x,Ci hx,g,Ci hg,h4⟩
theorem ABm:(prog.info? 97).map (fun i=>(i.zero,i.size,i.bytes))=some (some (AO #[AB AE 0,AB AE 0,AB AE 0,AN ⟨#[]⟩,AB AE 0,AA none 0 0]),6,72):=by kernel_rfl
theorem uF {α:Type} {sz:Nat} {R:AH->List AK->α->Prop} {W:AH} {g:Nat} {t:Ae} {cs:List AK} {x:α} (h:AZ W g t cs.toArray) (hl:cs.length=sz) (hR:R W cs x):Ag sz R W (AA (some ⟨g,0,none⟩) 1 1) [x]:=by
 refine ⟨some ⟨g,0,none⟩,1,rfl,Ad _,by decide,fun i y hi=> ?_⟩;rcases i with _ | i
 ·simp only [An,Bq] at hi
  subst hi;refine ⟨g,0,cs,rfl,h.lt,hl,fun j u hu=> ?_,hR⟩;rw [h.cell];simpa using hu
 · simp at hi
theorem yM (
 A1 A2 A3 A4 A5 A6:Option Aa) (n1 c1 n2 c2 n3 c3 n4 c4 n5 c5 n6 c6:Nat) (F1 F2 F3:Option Aa) (m1 d1 m2 d2 m3 d3:Nat) (hd:ByteArray) (Dv:Int) (a:Gf) (us:List Bk) (ss:List BI) (fs:List Br) (w0 w:AH) (hb0:AJ w0 w) (h2:Ag 5 CK w0 (AA A2 n2 c2) us) (h3:Ag 6 BR w0 (AA A3 n3 c3) ss) (hf:Ag 8 DI w0 (AA F1 m1 d1) fs) (hU:∀x∈ss,∀f∈x.fields,QX n2 f.type):
 AS prog 158 #[(AO #[AA A1 n1 c1,AA A2 n2 c2,AA A3 n3 c3,AA A4 n4 c4,AA A5 n5 c5,AA A6 n6 c6,AN hd,AB AE Dv,AA F1 m1 d1,AA F2 m2 d2,AA F3 m3 d3]),AO #[AB AE a.op,AN a.a.name,AN a.a.path,AB AE a.a.var,AB AE a.a.field,AB AE a.a.n,AN a.b.name,AN a.b.path,AB AE a.b.var,AB AE a.b.field,AB AE a.b.n]] w fun e w'=>
  e=AV (AX (Ml us ss fs a))/\AJ w w':=by
 have hm1:m1<=9223372036854775807:=by have:=hf.le;omega
 obtain ⟨j0,hj,Vp,Vo,Vn⟩:=JF ABm;have HJ:=AF (And.intro hj (And.intro Vp (And.intro Vo Vn)));clear hj Vp Vo Vn;obtain ⟨wb,hwb⟩:=Ab ((w.alloc (AQ #[AA A1 n1 c1,AA A2 n2 c2,AA A3 n3 c3,AA A4 n4 c4,AA A5 n5 c5,AA A6 n6 c6,AN hd,AB AE Dv,AA F1 m1 d1,AA F2 m2 d2,AA F3 m3 d3] 189)).alloc (AQ #[AB AE a.op,AN a.a.name,AN a.a.path,AB AE a.a.var,AB AE a.a.field,AB AE a.a.n,AN a.b.name,AN a.b.path,AB AE a.b.var,AB AE a.b.field,AB AE a.b.n] 273));have hbb:AJ w wb:=by rw [hwb];exact Od
 have kA:AZ wb w.heap.size 189 #[AA A1 n1 c1,AA A2 n2 c2,AA A3 n3 c3,AA A4 n4 c4,AA A5 n5 c5,AA A6 n6 c6,AN hd,AB AE Dv,AA F1 m1 d1,AA F2 m2 d2,AA F3 m3 d3]:=by rw [hwb];exact (AZ.new _ _ _).alloc _
 have kB:AZ wb (w.heap.size+1) 273 #[AB AE a.op,AN a.a.name,AN a.a.path,AB AE a.a.var,AB AE a.a.field,AB AE a.a.n,AN a.b.name,AN a.b.path,AB AE a.b.var,AB AE a.b.field,AB AE a.b.n]:=by rw [hwb];exact EJ Ac
 have PH:AI (∀(t:DP) (W:AH),AJ w0 W->AS prog 210 #[(AO #[AA A1 n1 c1,AA A2 n2 c2,AA A3 n3 c3,AA A4 n4 c4,AA A5 n5 c5,AA A6 n6 c6,AN hd,AB AE Dv,AA F1 m1 d1,AA F2 m2 d2,AA F3 m3 d3]),AO #[AN t.name,AN t.path,AB AE t.var,AB AE t.field,AB AE t.n],AB AE m1] W (OX (Kh ss fs t) w0 W)):=AF (fun t W hW=>by have:=R9 A1 A2 A3 A4 A5 A6 n1 c1 n2 c2 n3 c3 n4 c4 n5 c5 n6 c6 F1 F2 F3 m1 d1 m2 d2 m3 d3 hd Dv t m1 ss fs w0 W hW h3 hf AG AG;rw [CZ] at this;rw [Kh,<-hf.len];exact this)
 have HUN:AI (∀(t:DP) (y:Fe),Kh ss fs t=some y->QX n2 y):=AF (fun t y h=>by obtain ⟨x,hx,f,hf',rfl⟩:=AA2 h;exact hU x hx f hf')
 obtain ⟨H2,HB0,BV,Cg,HA,HB⟩:=FR h2 hb0 hbb hwb kA kB;have lA:=kA.lt;have lB:=kB.lt;obtain ⟨b0,b1,b2,b3,b4,b5,b6,b7,b8,b9,b10⟩:=kB.eleven;obtain ⟨ga,hga⟩:=Ab w.heap.size;obtain ⟨gb,hgb⟩:=Ab (w.heap.size+1);clear hf h2 h3 hb0 hbb hwb kA kB hU;obtain ⟨R,hR⟩:=BH (Ml us ss fs a);have HR:AI (R=(decide (1<=a.op) && decide (a.op<=4) && (Qz ss fs a.a && Qz ss fs a.b) && !([a.a,a.b].filterMap (Kh ss fs)).isEmpty && Nj us ([a.a,a.b].filterMap (Kh ss fs)) && ([a.a,a.b].filterMap (Kh ss fs)).all (Vb a.op))):=AF (by rw [<-hR,ACK]);rw [hR];clear hR;obtain ⟨op,ta,tb⟩:=a;simp only at HR HB Cg b0 b1 b2 b3 b4 b5 b6 b7 b8 b9 b10 ⊢;go_enter func158,ntmps158;go_upto_region 1 with fail;rw [<-Cg.o,<-hgb,<-hga];rw [<-hgb] at HB lB b0 b1 b2 b3 b4 b5 b6 b7 b8 b9 b10;rw [<-hga] at HA lA;clear Cg hga hgb;by_cases hop:1<=op/\op<=4
 case neg=>
  have HE:AI (R=false):=AF (by
   rw [HR.o];have:(decide (1<=op) && decide (op<=4))=false:=by simp only [My,Mz];omega
   rw [this];rfl)
  go_wp2_with fail
  all_goals first
   | (exfalso;omega)
   | (go_ret;exact ⟨A8 HE.o.symm,BV.o⟩)
 obtain ⟨hop1,hop2⟩:=hop;have hz1:decide (op < 1)=false:=BO AG;have hz2:decide (4 < op)=false:=BO AG;have HR2:AI (R=((Qz ss fs ta && Qz ss fs tb) && !([ta,tb].filterMap (Kh ss fs)).isEmpty && Nj us ([ta,tb].filterMap (Kh ss fs)) && ([ta,tb].filterMap (Kh ss fs)).all (Vb op))):=AF (by rw [HR.o,Bg hop1,Bg hop2];simp only [JI])
 clear HR;obtain ⟨wl,hwl⟩:=Ab (wb.alloc (AQ #[AN ta.name,AN ta.path,AB AE ta.var,AB AE ta.field,AB AE ta.n,AN tb.name,AN tb.path,AB AE tb.var,AB AE tb.field,AB AE tb.n] 271));have Np:AI (AJ wb wl):=AF (by rw [hwl];exact bF);have Nn:AI (AZ wl wb.heap.size 271 #[AN ta.name,AN ta.path,AB AE ta.var,AB AE ta.field,AB AE ta.n,AN tb.name,AN tb.path,AB AE tb.var,AB AE tb.field,AB AE tb.n]):=AF (by rw [hwl];exact AZ.new _ _ _);have HWL:=AF hwl;clear hwl;go_wp2_with fail;rw [<-HWL.o];clear HWL b0 b1 b2 b3 b4 b5 b6 b7 b8 b9 b10;have Zu:AI (∀W,AJ wl W->AZ W ga 189 #[AA A1 n1 c1,AA A2 n2 c2,AA A3 n3 c3,AA A4 n4 c4,AA A5 n5 c5,AA A6 n6 c6,AN hd,AB AE Dv,AA F1 m1 d1,AA F2 m2 d2,AA F3 m3 d3]/\AZ W gb 273 #[AB AE op,AN ta.name,AN ta.path,AB AE ta.var,AB AE ta.field,AB AE ta.n,AN tb.name,AN tb.path,AB AE tb.var,AB AE tb.field,AB AE tb.n]/\AZ W wb.heap.size 271 #[AN ta.name,AN ta.path,AB AE ta.var,AB AE ta.field,AB AE ta.n,AN tb.name,AN tb.path,AB AE tb.var,AB AE tb.field,AB AE tb.n]):=AF (fun W hW=>
  have hw:AJ wb W:=AW Np.o hW
  ⟨HA.o.below hw lA,HB.o.below hw lB,Nn.o.below hW Nn.o.lt⟩)
 have qw:AI (AJ w wl):=AF (AW BV.o Np.o);clear HA HB Nn Np BV lA lB;go_loopg [5,27] 2 (fun q v i wr=>∃(k:Nat) (cs:List AK) (tv:AK),k<=2/\q=2 - k/\i=AB AE k/\tv=v/\([ta,tb].take k).all (Qz ss fs)=true/\wr.ownsRow wl.heap.size 97 6 tv (([ta,tb].take k).filterMap (Kh ss fs)).length cs/\Ao 6 (fun _=>Na w0) wr cs (([ta,tb].take k).filterMap (Kh ss fs))/\AJ wl wr)
 case atStart=>exact ⟨0,[],AA none 0 0,Ar _,rfl,rfl,rfl,rfl,ED _ _ _ _,Ao.nil,Af _ _⟩
 obtain ⟨k,cs,tv,hk,hq,rfl,rfl,hall,ho,hc,hb⟩:=hrel;obtain ⟨HQ,EL,HO,HC,DF⟩:=EG hq hall ho hc hb;have CY:AI (AJ w wr):=AF (AW qw.o hb);have Ji:AI (AJ w0 wr):=AF (AW HB0.o CY.o);clear hq hall ho hc hb;obtain h0 | h0 | h0:k=0\/k=1\/k=2:=AG
 ·subst h0
  obtain ⟨kA,kB,kL⟩:=Zu.o wr DF.o;obtain ⟨a0,a1,a2,a3,a4,a5,a6,a7,a8,a9,a10⟩:=kA.eleven;have t0:=kL.cell 0;have t1:=kL.cell 1;have t2:=kL.cell 2;have t3:=kL.cell 3;have t4:=kL.cell 4;simp only [Ai,An,Aw] at t0 t1 t2 t3 t4;have lA:=kA.lt;have lL:=kL.lt;clear kA kB kL;have HX:AI ([ta,tb][0]? =some ta):=AF rfl;have HT:=AF (fun o=>PH.o ta (wr.alloc o) (Ji.o.alloc Ji.o.size o));obtain ⟨x,hx⟩:=BH (Kh ss fs ta);have U9:=AF hx;rw [hx] at HT;have ql:AI (∀W,BK (wr.alloc (AQ #[AN ta.name,AN ta.path,AB AE ta.var,AB AE ta.field,AB AE ta.n] 271)).heap.size (wr.alloc (AQ #[AN ta.name,AN ta.path,AB AE ta.var,AB AE ta.field,AB AE ta.n] 271)) W->AZ W wr.heap.size 271 #[AN ta.name,AN ta.path,AB AE ta.var,AB AE ta.field,AB AE ta.n]):=AF (fun W h=>(AZ.new wr _ _).below h Ac);clear hx;cases x with
  |
   none=>
   go_wp2_with (go_at_call 210;refine (HT.o _).mono ?_;clear HT);rintro e w2 ⟨⟨B,m',d',rfl,hs⟩,hb2⟩;obtain ⟨t0,t1,t2,t3,t4⟩:=(ql.o w2 hb2).five;have lT:wr.heap.size < w2.heap.size:=Ay Ac hb2.size;have HB2:AI (AJ wl w2):=AF ((DF.o.alloc DF.o.size _).trans (hb2.mono QT));have KU:=AF (Co (HO.o.alloc _) hb2);have HC2:AI (Ao 6 (fun _=>Na w0) w2 cs (([ta,tb].take 0).filterMap (Kh ss fs))):=AF HC.o;clear hs hb2 ql a0 a1 a2 a3 a4 a5 a6 a7 a8 a9 a10 lA lL;simp only [Hr];obtain ⟨v,hv⟩:=BH (isNum ta);have HV:=AF hv;have HN:AI (∀o,AS prog 211 #[AO #[AN ta.name,AN ta.path,AB AE ta.var,AB AE ta.field,AB AE ta.n]] (w2.alloc o) fun e w'=>e=AV (AX v)/\BK (w2.alloc o).heap.size (w2.alloc o) w'):=AF (fun o=>by have:=SX ta (w2.alloc o);rw [hv] at this;exact this)
   clear hv;go_wp2_with (go_at_call 211;refine (HN.o _).mono ?_;clear HN);rintro e w3 ⟨rfl,hb3⟩;have HB3:AI (AJ wl w3):=AF ((HB2.o.alloc HB2.o.size _).trans (hb3.mono UF));have JD:=AF (Co (KU.o.alloc _) hb3);clear hb3 t0 t1 t2 t3 t4 lT;have eH:AI (Qz ss fs ta=v):=AF (by rw [Qz,U9.o,HV.o];rfl);cases v with
   |
    false=>
    have HE:AI (R=false):=AF (by rw [HR2.o,eH.o];simp);go_wp2;go_ret;exact zE
   |
    true=>
    go_wp2;go_roundg (2 - (0+1))
    case measure=>exact Bc
    case rel=>exact ⟨0+1,cs,tv,by omega,rfl,by go_num,rfl,Er HX.o eH.o EL.o,by rw [take_snoc HX.o,OJ];simp only [Mv,U9.o,Mt,EU];exact JD.o,by rw [take_snoc HX.o,OJ];simp only [Mv,U9.o,Mt,EU];exact HC2.o,HB3.o⟩
  |
   some y=>
   obtain ⟨yk,yl,yh,yf,yu,yn⟩:=y;go_wp2_with (go_at_call 210;refine (HT.o _).mono ?_;clear HT);rintro e w2 ⟨⟨B,m',d',rfl,hs⟩,hb2⟩;have HS:=AF hs;have HB2:AI (AJ wl w2):=AF ((DF.o.alloc DF.o.size _).trans (hb2.mono QT));have KU:=AF (Co (HO.o.alloc _) hb2);clear hs hb2 ql a0 a1 a2 a3 a4 a5 a6 a7 a8 a9 a10 lA lL t0 t1 t2 t3 t4;simp only [GF,Ce];simp only [Ce] at HS;have eH:AI (Qz ss fs ta=true):=AF (by rw [Qz,U9.o];rfl);obtain ⟨wt,hwt⟩:=Ab ((w2.alloc (AQ #[AB AE yk,AB AE yl,AB AE yh,AN yf,AB AE yu,AA B m' d'] 97)).alloc (AQ #[AB AE yk,AB AE yl,AB AE yh,AN yf,AB AE yu,AA B m' d'] 97));have jo:AI (wt.ownsRow wl.heap.size 97 6 _ _ cs):=AF tH;have LQ:AI (Ag 6 (fun _=>Na w0) wt (AA (some ⟨w2.heap.size+1,0,none⟩) 1 1) [⟨yk,yl,yh,yf,yu,yn⟩]):=AF (by rw [hwt];exact zU);have VI:AI (AJ wl wt):=AF (by rw [hwt];exact AFQ);have HWT:=AF hwt;clear hwt;go_wp2_with (at_builtin;rw [<-HWT.o];refine Cb wt rfl (AY 49) (AY 51) 343 97 rfl j0 _ 72 underlying343 HJ.o.1 HJ.o.2.1 HJ.o.2.2.1 HJ.o.2.2.2 rfl BE (R:=fun _=>Na w0) (fun _=>cY w0) wl.heap.size _ (([ta,tb].take 0).filterMap (Kh ss fs)).length cs rfl jo.o (some ⟨w2.heap.size+1,0,none⟩) 1 1 [⟨yk,yl,yh,yf,yu,yn⟩] rfl LQ.o ?hn ?hb VI.o.size ?_)
   case hn=>have:=UT (Kh ss fs) ([ta,tb].take 0);simp at this;unfold maxLen;simp <;> omega
   case hb=>have:=UT (Kh ss fs) ([ta,tb].take 0);simp at this;simp <;> omega
   intro v3 w3 X0 hc3 ho3 hg3 AD5;have HB3:AI (AJ wl w3):=AF (VI.o.grown hg3 VI.o.size (fun k hk=>(jo.o.lt k hk).1));obtain ⟨JD,Wj⟩:=Aj ho3 hc3;clear hc3 ho3 hg3 AD5;go_wp2;go_roundg (2 - (0+1))
   case measure=>exact Bc
   case rel=>exact ⟨0+1,cs++X0,v3,by omega,rfl,by go_num,rfl,Er HX.o eH.o EL.o,by rw [take_snoc HX.o,OJ,CT];simp only [Mv,U9.o,Mt,Yn];exact JD.o,by rw [take_snoc HX.o,OJ];simp only [Mv,U9.o,Mt];exact Ao.append HC.o Wj.o,HB3.o⟩
 ·subst h0
  obtain ⟨kA,kB,kL⟩:=Zu.o wr DF.o;obtain ⟨a0,a1,a2,a3,a4,a5,a6,a7,a8,a9,a10⟩:=kA.eleven;have t0:=kL.cell 5;have t1:=kL.cell 6;have t2:=kL.cell 7;have t3:=kL.cell 8;have t4:=kL.cell 9;simp only [Ai,An,Aw] at t0 t1 t2 t3 t4;have lA:=kA.lt;have lL:=kL.lt;clear kA kB kL;have HX:AI ([ta,tb][1]? =some tb):=AF rfl;have HT:=AF (fun o=>PH.o tb (wr.alloc o) (Ji.o.alloc Ji.o.size o));obtain ⟨x,hx⟩:=BH (Kh ss fs tb);have U9:=AF hx;rw [hx] at HT;have ql:AI (∀W,BK (wr.alloc (AQ #[AN tb.name,AN tb.path,AB AE tb.var,AB AE tb.field,AB AE tb.n] 271)).heap.size (wr.alloc (AQ #[AN tb.name,AN tb.path,AB AE tb.var,AB AE tb.field,AB AE tb.n] 271)) W->AZ W wr.heap.size 271 #[AN tb.name,AN tb.path,AB AE tb.var,AB AE tb.field,AB AE tb.n]):=AF (fun W h=>(AZ.new wr _ _).below h Ac);clear hx;cases x with
  |
   none=>
   go_wp2_with (go_at_call 210;refine (HT.o _).mono ?_;clear HT);rintro e w2 ⟨⟨B,m',d',rfl,hs⟩,hb2⟩;obtain ⟨t0,t1,t2,t3,t4⟩:=(ql.o w2 hb2).five;have lT:wr.heap.size < w2.heap.size:=Ay Ac hb2.size;have HB2:AI (AJ wl w2):=AF ((DF.o.alloc DF.o.size _).trans (hb2.mono QT));have KU:=AF (Co (HO.o.alloc _) hb2);have HC2:AI (Ao 6 (fun _=>Na w0) w2 cs (([ta,tb].take 1).filterMap (Kh ss fs))):=AF HC.o;clear hs hb2 ql a0 a1 a2 a3 a4 a5 a6 a7 a8 a9 a10 lA lL;simp only [Hr];obtain ⟨v,hv⟩:=BH (isNum tb);have HV:=AF hv;have HN:AI (∀o,AS prog 211 #[AO #[AN tb.name,AN tb.path,AB AE tb.var,AB AE tb.field,AB AE tb.n]] (w2.alloc o) fun e w'=>e=AV (AX v)/\BK (w2.alloc o).heap.size (w2.alloc o) w'):=AF (fun o=>by have:=SX tb (w2.alloc o);rw [hv] at this;exact this)
   clear hv;go_wp2_with (go_at_call 211;refine (HN.o _).mono ?_;clear HN);rintro e w3 ⟨rfl,hb3⟩;have HB3:AI (AJ wl w3):=AF ((HB2.o.alloc HB2.o.size _).trans (hb3.mono UF));have JD:=AF (Co (KU.o.alloc _) hb3);clear hb3 t0 t1 t2 t3 t4 lT;have eH:AI (Qz ss fs tb=v):=AF (by rw [Qz,U9.o,HV.o];rfl);cases v with
   |
    false=>
    have HE:AI (R=false):=AF (by rw [HR2.o,eH.o];simp);go_wp2;go_ret;exact zE
   |
    true=>
    go_wp2;go_roundg (2 - (1+1))
    case measure=>exact Bc
    case rel=>exact ⟨1+1,cs,tv,by omega,rfl,by go_num,rfl,Er HX.o eH.o EL.o,by rw [take_snoc HX.o,OJ];simp only [Mv,U9.o,Mt,EU];exact JD.o,by rw [take_snoc HX.o,OJ];simp only [Mv,U9.o,Mt,EU];exact HC2.o,HB3.o⟩
  |
   some y=>
   obtain ⟨yk,yl,yh,yf,yu,yn⟩:=y;go_wp2_with (go_at_call 210;refine (HT.o _).mono ?_;clear HT);rintro e w2 ⟨⟨B,m',d',rfl,hs⟩,hb2⟩;have HS:=AF hs;have HB2:AI (AJ wl w2):=AF ((DF.o.alloc DF.o.size _).trans (hb2.mono QT));have KU:=AF (Co (HO.o.alloc _) hb2);clear hs hb2 ql a0 a1 a2 a3 a4 a5 a6 a7 a8 a9 a10 lA lL t0 t1 t2 t3 t4;simp only [GF,Ce];simp only [Ce] at HS;have eH:AI (Qz ss fs tb=true):=AF (by rw [Qz,U9.o];rfl);obtain ⟨wt,hwt⟩:=Ab ((w2.alloc (AQ #[AB AE yk,AB AE yl,AB AE yh,AN yf,AB AE yu,AA B m' d'] 97)).alloc (AQ #[AB AE yk,AB AE yl,AB AE yh,AN yf,AB AE yu,AA B m' d'] 97));have jo:AI (wt.ownsRow wl.heap.size 97 6 _ _ cs):=AF tH;have LQ:AI (Ag 6 (fun _=>Na w0) wt (AA (some ⟨w2.heap.size+1,0,none⟩) 1 1) [⟨yk,yl,yh,yf,yu,yn⟩]):=AF (by rw [hwt];exact zU);have VI:AI (AJ wl wt):=AF (by rw [hwt];exact AFQ);have HWT:=AF hwt;clear hwt;go_wp2_with (at_builtin;rw [<-HWT.o];refine Cb wt rfl (AY 49) (AY 51) 343 97 rfl j0 _ 72 underlying343 HJ.o.1 HJ.o.2.1 HJ.o.2.2.1 HJ.o.2.2.2 rfl BE (R:=fun _=>Na w0) (fun _=>cY w0) wl.heap.size _ (([ta,tb].take 1).filterMap (Kh ss fs)).length cs rfl jo.o (some ⟨w2.heap.size+1,0,none⟩) 1 1 [⟨yk,yl,yh,yf,yu,yn⟩] rfl LQ.o ?hn ?hb VI.o.size ?_)
   case hn=>have:=UT (Kh ss fs) ([ta,tb].take 1);simp at this;unfold maxLen;simp <;> omega
   case hb=>have:=UT (Kh ss fs) ([ta,tb].take 1);simp at this;simp <;> omega
   intro v3 w3 X0 hc3 ho3 hg3 AD5;have HB3:AI (AJ wl w3):=AF (VI.o.grown hg3 VI.o.size (fun k hk=>(jo.o.lt k hk).1));obtain ⟨JD,Wj⟩:=Aj ho3 hc3;clear hc3 ho3 hg3 AD5;go_wp2;go_roundg (2 - (1+1))
   case measure=>exact Bc
   case rel=>exact ⟨1+1,cs++X0,v3,by omega,rfl,by go_num,rfl,Er HX.o eH.o EL.o,by rw [take_snoc HX.o,OJ,CT];simp only [Mv,U9.o,Mt,Yn];exact JD.o,by rw [take_snoc HX.o,OJ];simp only [Mv,U9.o,Mt];exact Ao.append HC.o Wj.o,HB3.o⟩
 subst h0;obtain ⟨T,hT⟩:∃T,[ta,tb].filterMap (Kh ss fs)=T:=⟨_,rfl⟩;have OY:AI (T.length<=2):=AF (by rw [<-hT];exact UT _ _);have HTU:AI (∀y∈T,QX n2 y):=AF (fun y hy=>by rw [<-hT] at hy;obtain ⟨t,_,ht⟩:=List.mem_filterMap.1 hy;exact HUN.o t y ht)
 have hsl:Ag 6 (fun _=>Na w0) wr tv T:=CP (by have:=HO.o;rwa [show [ta,tb].take 2=[ta,tb] from rfl,hT] at this) (by have:=HC.o;rwa [show [ta,tb].take 2=[ta,tb] from rfl,hT] at this) rfl;have HSL:=AF hsl;obtain ⟨TA,tc,rfl,hl1,hl2,hl3⟩:=hsl;have HR3:AI (R=(!T.isEmpty && Nj us T && T.all (Vb op))):=AF (by have:=EL.o;simp only [List.take,Pa,List.all_nil,Bool.and_true] at this;rw [HR2.o,hT,this,JI])
 obtain ⟨kA,kB,kL⟩:=Zu.o wr DF.o;obtain ⟨a0,a1,a2,a3,a4,a5,a6,a7,a8,a9,a10⟩:=kA.eleven;have lA:=kA.lt;clear HR2 hT HO HC EL PH HQ HUN hl1 hl2 hl3 kA kB kL;obtain ⟨wy,rfl⟩:=Ab wr;obtain ⟨bv,hbv⟩:=BH ((T.isEmpty || !Nj us T));have VH:=AF hbv;clear hbv;go_upto_region 13 with fail;go_cut [73] from 54 (fun v73 wx=>v73=AX bv/\AJ wy wx)
 case first=>
  have y8:AI (AJ wy wy):=AF (Af _ _)
  match T,OY,HTU,HSL,VH with
  |
   [],_,_,_,VH=>
   simp only [Ph];clear a0 a1 a2 a3 a4 a5 a6 a7 a8 a9 a10;go_quiet (fail);go_wp2
   go_meet
   exact ⟨by rw [<-VH.o];rfl,below_drewN y8.o _⟩
  |
   [y],_,_,_,VH=>
   simp only [Yn];clear a0 a1 a2 a3 a4 a5 a6 a7 a8 a9 a10;go_quiet (fail);go_wp2
   go_meet
   exact ⟨by rw [<-VH.o];rfl,below_drewN y8.o _⟩
  |
   [y,z],_,HTU,HSL,VH=>
   obtain ⟨g1,o1,y',ys,e,hgl,hy,hyl,Qg,hyR⟩:=HSL.o.at_ (k:=0) Ac;obtain ⟨g2,o2,z',zs,e',_,hz,hzl,hzc,hzR⟩:=HSL.o.at_ (k:=1) Ac;simp only [An,Aw,Bq] at hy hz;subst hy hz e;injection e' with e';injection e' with e1 e2;subst e1 e2;obtain ⟨yB,ym,yd,rfl,hyn⟩:=hyR;obtain ⟨zB,zm,zd,rfl,hzn⟩:=hzR;have y0:=Qg 0 _ rfl;have y1:=Qg 1 _ rfl;have y2:=Qg 2 _ rfl;have y3:=Qg 3 _ rfl;have y4:=Qg 4 _ rfl;have y5:=Qg 5 _ rfl;have z0:=hzc 0 _ rfl;have z1:=hzc 1 _ rfl;have z2:=hzc 2 _ rfl;have z3:=hzc 3 _ rfl;have z4:=hzc 4 _ rfl;have z5:=hzc 5 _ rfl;simp only [RN,Nat.one_mul,D6,Ex,Nat.reduceAdd] at y0 y1 y2 y3 y4 y5 z0 z1 z2 z3 z4 z5;clear Qg hzc hyl hzl;have HS:AI (∀W,AJ wy W->W.cell? ⟨ga,0,none⟩=some (AA A1 n1 c1)/\W.cell? ⟨ga,1,none⟩=some (AA A2 n2 c2)/\W.cell? ⟨ga,2,none⟩=some (AA A3 n3 c3)/\W.cell? ⟨ga,3,none⟩=some (AA A4 n4 c4)/\W.cell? ⟨ga,4,none⟩=some (AA A5 n5 c5)/\W.cell? ⟨ga,5,none⟩=some (AA A6 n6 c6)/\
    W.cell? ⟨g1,o1,none⟩=some (AB AE y.kind)/\W.cell? ⟨g1,o1+1,none⟩=some (AB AE y.lo)/\W.cell? ⟨g1,o1+2,none⟩=some (AB AE y.hi)/\W.cell? ⟨g1,o1+3,none⟩=some (AN y.Av)/\W.cell? ⟨g1,o1+4,none⟩=some (AB AE y.unit)/\W.cell? ⟨g1,o1+5,none⟩=some (AA yB ym yd)/\
    W.cell? ⟨g1,o1+6,none⟩=some (AB AE z.kind)/\W.cell? ⟨g1,o1+7,none⟩=some (AB AE z.lo)/\W.cell? ⟨g1,o1+8,none⟩=some (AB AE z.hi)/\W.cell? ⟨g1,o1+9,none⟩=some (AN z.Av)/\W.cell? ⟨g1,o1+10,none⟩=some (AB AE z.unit)/\W.cell? ⟨g1,o1+11,none⟩=some (AA zB zm zd)):=AF (fun W hW=>
    ⟨(
     hW.cell (p:=⟨_,_,none⟩) lA).trans a0,(hW.cell (p:=⟨_,_,none⟩) lA).trans a1,(hW.cell (p:=⟨_,_,none⟩) lA).trans a2,(hW.cell (p:=⟨_,_,none⟩) lA).trans a3,(hW.cell (p:=⟨_,_,none⟩) lA).trans a4,(hW.cell (p:=⟨_,_,none⟩) lA).trans a5,
     (hW.cell (p:=⟨_,_,none⟩) hgl).trans y0,(hW.cell (p:=⟨_,_,none⟩) hgl).trans y1,(hW.cell (p:=⟨_,_,none⟩) hgl).trans y2,(hW.cell (p:=⟨_,_,none⟩) hgl).trans y3,(hW.cell (p:=⟨_,_,none⟩) hgl).trans y4,(hW.cell (p:=⟨_,_,none⟩) hgl).trans y5,
     (hW.cell (p:=⟨_,_,none⟩) hgl).trans z0,(hW.cell (p:=⟨_,_,none⟩) hgl).trans z1,(hW.cell (p:=⟨_,_,none⟩) hgl).trans z2,(hW.cell (p:=⟨_,_,none⟩) hgl).trans z3,(hW.cell (p:=⟨_,_,none⟩) hgl).trans z4,(hW.cell (p:=⟨_,_,none⟩) hgl).trans z5⟩)
   obtain ⟨vc,uX⟩:=BH (LH us y z);have HVC:AI (Nj us [y,z]=vc):=AF uX;have HCM:AI (AS prog 212 #[(AO #[AA A1 n1 c1,AA A2 n2 c2,AA A3 n3 c3,AA A4 n4 c4,AA A5 n5 c5,AA A6 n6 c6]),AO #[AB AE y.kind,AB AE y.lo,AB AE y.hi,AN y.Av,AB AE y.unit,AA yB ym yd],AO #[AB AE z.kind,AB AE z.lo,AB AE z.hi,AN z.Av,AB AE z.unit,AA zB zm zd]] wy.drew fun e w'=>e=AV (AX vc)/\AJ wy w'):=AF (by have:=iC A1 A2 A3 A4 A5 A6 n1 c1 n2 c2 n3 c3 n4 c4 n5 c5 n6 c6 y z yB zB ym yd zm zd us wy.drew (H2.o.mono Bn Ji.o.drew) (hyn.1.mono Ba Ji.o.drew) (hzn.1.mono Ba Ji.o.drew) (HTU.o y Ac) (HTU.o z Ac);rw [uX] at this;exact this.mono fun _ _ h=>⟨h.1,(Af wy.heap.size wy).drew.trans h.2⟩)
   clear uX hyn hzn y0 y1 y2 y3 y4 y5 z0 z1 z2 z3 z4 z5 a0 a1 a2 a3 a4 a5 a6 a7 a8 a9 a10;simp only [Fl,Ph,Ex,Nat.reduceAdd]
   go_region_held3 (fun W=>W.cell? ⟨ga,0,none⟩=some (AA A1 n1 c1)/\W.cell? ⟨ga,1,none⟩=some (AA A2 n2 c2)/\W.cell? ⟨ga,2,none⟩=some (AA A3 n3 c3)/\W.cell? ⟨ga,3,none⟩=some (AA A4 n4 c4)/\W.cell? ⟨ga,4,none⟩=some (AA A5 n5 c5)/\W.cell? ⟨ga,5,none⟩=some (AA A6 n6 c6)/\
    W.cell? ⟨g1,o1,none⟩=some (AB AE y.kind)/\W.cell? ⟨g1,o1+1,none⟩=some (AB AE y.lo)/\W.cell? ⟨g1,o1+2,none⟩=some (AB AE y.hi)/\W.cell? ⟨g1,o1+3,none⟩=some (AN y.Av)/\W.cell? ⟨g1,o1+4,none⟩=some (AB AE y.unit)/\W.cell? ⟨g1,o1+5,none⟩=some (AA yB ym yd)/\
    W.cell? ⟨g1,o1+6,none⟩=some (AB AE z.kind)/\W.cell? ⟨g1,o1+7,none⟩=some (AB AE z.lo)/\W.cell? ⟨g1,o1+8,none⟩=some (AB AE z.hi)/\W.cell? ⟨g1,o1+9,none⟩=some (AN z.Av)/\W.cell? ⟨g1,o1+10,none⟩=some (AB AE z.unit)/\W.cell? ⟨g1,o1+11,none⟩=some (AA zB zm zd))
    (first | with_reducible exact HS.o _ y8.o | with_reducible exact HS.o _ y8.o.drew | with_reducible exact HS.o _ hb3)
    (first
     | (go_at_call 212;refine HCM.o.mono ?_;rintro e w3 ⟨rfl,hb3⟩))
   have HB3:=AF hb3;clear hb3;go_wp2
   go_meet
   exact ⟨by rw [<-VH.o,HVC.o];cases vc <;> rfl,HB3.o⟩
  | _::_::_::_,OY,_,_,_=>exact absurd OY.o Ac
 obtain ⟨rfl,hbx⟩:=hcut;have Ob:=AF hbx;clear hbx a0 a1 a2 a3 a4 a5 a6 a7 a8 a9 a10 lA;have Ss:AI (AJ wl wc):=AF (AW DF.o Ob.o);cases bv with
 |
  true=>
  have HE:AI (R=false):=AF (by rw [HR3.o];have:=VH.o;cases h1:T.isEmpty <;> cases h2:Nj us T <;> simp [h1,h2] at this ⊢)
  go_wp2;go_ret;exact ⟨A8 HE.o.symm,AW qw.o Ss.o⟩
 |
  false=>
  have HE:AI (R=T.all (Vb op)):=AF (by rw [HR3.o];have:=VH.o;cases h1:T.isEmpty <;> cases h2:Nj us T <;> simp [h1,h2] at this ⊢)
  have hTn:T.length<=9223372036854775807:=by have:=OY.o;omega
  go_wp2_with fail;go_loopg [76] T.length (fun q i wr=>∃k:Nat,k<=T.length/\q=T.length - k/\i=AB AE k/\(T.take k).all (Vb op)=true/\AJ wc wr)
  case atStart=>exact Li
  obtain ⟨k,hk,hq,rfl,hall,hb⟩:=hrel;obtain ⟨HQ,EL,HB2⟩:=Az hq hall hb;have iZ:AI (AJ wl wr):=AF (AW Ss.o hb);clear hq hall hb;by_cases hlt:k < T.length
  case neg=>
   have HT:AI (R=true):=by have:=EL.o;rw [Cy AG] at this;exact AF (by rw [HE.o,this])
   go_wp2;go_ret;exact ⟨A8 HT.o.symm,AW qw.o iZ.o⟩
  obtain ⟨g1,o1,y,ys,e,hgl,hy,hyl,Qg,hyR⟩:=(HSL.o.mono Al (AW Ob.o HB2.o)).at_ hlt;subst e;obtain ⟨yB,ym,yd,rfl,hyn⟩:=hyR;have y0:=Qg 0 _ rfl;have y1:=Qg 1 _ rfl;have y2:=Qg 2 _ rfl;have y3:=Qg 3 _ rfl;have y4:=Qg 4 _ rfl;have y5:=Qg 5 _ rfl;simp only [D6,<-L0] at y0 y1 y2 y3 y4 y5;have hk0:=Int.natCast_nonneg k
  have hk1:(k:Int) < (T.length:Int):=AG
  have HY:=AF hy;have uz:AI (Vb op y=(!((op==2) || (op==3)) || ((y.kind==1) || (y.kind==2)))):=AF rfl;clear hy Qg hyl hyn;cases u1:(y.kind==1) <;> cases u2:(y.kind==2) <;> cases u3:(op==2) <;> cases u4:(op==3) <;>
   (
    have hoy:=uz.o;rw [u1,u2,u3,u4] at hoy;have AIY:=AF hoy;clear hoy;obtain ⟨kA,kB,kL⟩:=Zu.o wr iZ.o;have p0:=kB.cell 0;have lB:=kB.lt;simp only [Ai,An] at p0;clear kA kB kL;go_wp2_with fail
    first
     | (go_ret;exact ⟨A8 (by rw [HE.o,Jb HY.o AIY.o]),AW qw.o (iZ.o.alloc iZ.o.size _)⟩)
     | (
      go_roundg (T.length - (k+1))
      case measure=>exact Bc
      case rel=>exact ⟨k+1,by omega,rfl,by go_num,Er HY.o AIY.o EL.o,HB2.o.alloc HB2.o.size _⟩))
theorem ADY:(prog.info? 3).map (fun i=>(i.zero,i.size,i.bytes))=some (some (AB AE 0),1,8):=by kernel_rfl
theorem vy (F1 F2 F3:Option Aa) (m1 d1 m2 d2 m3 d3:Nat) (hd:ByteArray) (Dv:Int) (JC:List Br) (Ug:List Gf) (JX:List Kf) (us:List Bk) (ss:List BI) (w0 w:AH) (hb0:AJ w0 w) (h2:Ag 5 CK w0 (AA A2 n2 c2) us) (h3:Ag 6 BR w0 (AA A3 n3 c3) ss)
 (hf:Ag 8 DI w0 (AA F1 m1 d1) JC) (hwh:Ag 11 EQ w0 (AA F2 m2 d2) Ug) (hse:BQ 7 80 Gc w0 (AA F3 m3 d3) JX) (hU:∀x∈ss,∀f∈x.fields,QX n2 f.type):
 AS prog 96 #[(AO #[AA A1 n1 c1,AA A2 n2 c2,AA A3 n3 c3,AA A4 n4 c4,AA A5 n5 c5,AA A6 n6 c6,AN hd,AB AE Dv,AA F1 m1 d1,AA F2 m2 d2,AA F3 m3 d3])] w fun e w'=>e=AV (AX (I0 us ss ⟨hd,Dv,JC,Ug,JX⟩))/\AJ w w':=by
 have hm2:m2<=9223372036854775807:=by have:=hwh.le;omega
 have EI:m3<=2000000000000:=by have:=hse.2;have:=hse.1.len;omega
 have hn3:n3<=9223372036854775807:=by have:=h3.le;omega
 obtain ⟨j0,hj,Vp,Vo,Vn⟩:=JF ADY;have HJ:=AF (And.intro hj (And.intro Vp (And.intro Vo Vn)));clear hj Vp Vo Vn;obtain ⟨Zr,jw,H9⟩:=Az hwh.len hse.1.len h3.len;have BV:AI (AJ w (w.alloc (AQ #[AA A1 n1 c1,AA A2 n2 c2,AA A3 n3 c3,AA A4 n4 c4,AA A5 n5 c5,AA A6 n6 c6,AN hd,AB AE Dv,AA F1 m1 d1,AA F2 m2 d2,AA F3 m3 d3] 189))):=AF (BP _ _);have HA:AI (AZ (w.alloc (AQ #[AA A1 n1 c1,AA A2 n2 c2,AA A3 n3 c3,AA A4 n4 c4,AA A5 n5 c5,AA A6 n6 c6,AN hd,AB AE Dv,AA F1 m1 d1,AA F2 m2 d2,AA F3 m3 d3] 189)) w.heap.size 189 #[AA A1 n1 c1,AA A2 n2 c2,AA A3 n3 c3,AA A4 n4 c4,AA A5 n5 c5,AA A6 n6 c6,AN hd,AB AE Dv,AA F1 m1 d1,AA F2 m2 d2,AA F3 m3 d3]):=AF (AZ.new _ _ _);have j6:AI (∀W,AJ w0 W->AS prog 157 #[(AO #[AA A1 n1 c1,AA A2 n2 c2,AA A3 n3 c3,AA A4 n4 c4,AA A5 n5 c5,AA A6 n6 c6,AN hd,AB AE Dv,AA F1 m1 d1,AA F2 m2 d2,AA F3 m3 d3])] W fun e w'=>e=AV (AX (Hx ss JC))/\AJ W w'):=AF (fun W hW=>rx A1 A2 A3 A4 A5 A6 n1 c1 n2 c2 n3 c3 n4 c4 n5 c5 n6 c6 F1 F2 F3 m1 d1 m2 d2 m3 d3 hd Dv ss JC w0 W hW h3 hf);have HAT:AI (∀(a:Gf) W,AJ w0 W->AS prog 158 #[(AO #[AA A1 n1 c1,AA A2 n2 c2,AA A3 n3 c3,AA A4 n4 c4,AA A5 n5 c5,AA A6 n6 c6,AN hd,AB AE Dv,AA F1 m1 d1,AA F2 m2 d2,AA F3 m3 d3]),AO #[AB AE a.op,AN a.a.name,AN a.a.path,AB AE a.a.var,AB AE a.a.field,AB AE a.a.n,AN a.b.name,AN a.b.path,AB AE a.b.var,AB AE a.b.field,AB AE a.b.n]] W fun e w'=>e=AV (AX (Ml us ss JC a))/\AJ W w'):=AF (fun a W hW=>yM A1 A2 A3 A4 A5 A6 n1 c1 n2 c2 n3 c3 n4 c4 n5 c5 n6 c6 F1 F2 F3 m1 d1 m2 d2 m3 d3 hd Dv a us ss JC w0 W hW h2 h3 hf hU);have WW:AI (∀(s f:Int) W,AJ w0 W->AS prog 55 #[(AO #[AA A1 n1 c1,AA A2 n2 c2,AA A3 n3 c3,AA A4 n4 c4,AA A5 n5 c5,AA A6 n6 c6]),AB AE s,AB AE f] W (OX (typeAt ss s f) w0 W)):=AF (fun s f W hW=>RH A1 A2 A3 A4 A5 A6 n1 c1 n2 c2 n3 c3 n4 c4 n5 c5 n6 c6 s f ss w0 W hW h3);have jk:AI (∀(f:Fe) (t:DP) (B:Option Aa) (m d:Nat) W,AJ w0 W->BQ 1 16 DV w0 (AA B m d) f.names->AS prog 159 #[(AO #[AA A1 n1 c1,AA A2 n2 c2,AA A3 n3 c3,AA A4 n4 c4,AA A5 n5 c5,AA A6 n6 c6,AN hd,AB AE Dv,AA F1 m1 d1,AA F2 m2 d2,AA F3 m3 d3]),AO #[AB AE f.kind,AB AE f.lo,AB AE f.hi,AN f.Av,AB AE f.unit,AA B m d],AO #[AN t.name,AN t.path,AB AE t.var,AB AE t.field,AB AE t.n]] W fun e w'=>e=AV (AX (VT ss JC f t))/\AJ W w'):=AF (fun f t B m d W hW hn=>AA6 A1 A2 A3 A4 A5 A6 n1 c1 n2 c2 n3 c3 n4 c4 n5 c5 n6 c6 F1 F2 F3 m1 d1 m2 d2 m3 d3 hd Dv f t B m d ss JC w0 W hW h3 hf hn);obtain ⟨H3,dy,TV,HB0⟩:=CJ h3 hwh hse.1 hb0;clear h2 h3 hf hwh hse hb0 hU;obtain ⟨R,hR⟩:∃R,I0 us ss ⟨hd,Dv,JC,Ug,JX⟩=R:=⟨_,rfl⟩;have HR:AI (R=(Hx ss JC && decide (Ug.length<=8) && Ug.all (Ml us ss JC) && decide (0<=Dv) && ((ss[Dv.toNat]?).any fun h=>decide (JX.length+1=h.fields.length)) && JX.all (Kv ss JC Dv) && Dm [] (JX.map fun s=>s.field))):=AF (by rw [<-hR];rfl);rw [hR];clear hR;go_enter func96,ntmps96;go_upto_region 1 with fail;generalize w.alloc (AQ #[AA A1 n1 c1,AA A2 n2 c2,AA A3 n3 c3,AA A4 n4 c4,AA A5 n5 c5,AA A6 n6 c6,AN hd,AB AE Dv,AA F1 m1 d1,AA F2 m2 d2,AA F3 m3 d3] 189)=wb at *;obtain ⟨ga,hga⟩:=Ab w.heap.size;rw [<-hga] at HA ⊢;clear hga;have lA:=HA.o.lt;obtain ⟨a0,a1,a2,a3,a4,a5,a6,a7,a8,a9,a10⟩:=HA.o.eleven;obtain ⟨vf,hvf⟩:=BH (Hx ss JC);have HC:=AF (j6.o wb (AW HB0.o BV.o));rw [hvf] at HC;have Sh:=AF hvf;clear hvf j6;go_wp2_with (go_at_call 157;refine HC.o.mono ?_;clear HC);rintro e w1 ⟨rfl,hb1⟩;have HB1:=AF hb1;clear hb1 a0 a1 a2 a3 a4 a5 a6 a7 a8 a9 a10;cases vf with
 |
  false=>
  have HE:AI (R=false):=AF (by rw [HR.o,Sh.o];rfl);go_wp2;go_ret;exact zH
 | true=>
 obtain ⟨a0,a1,a2,a3,a4,a5,a6,a7,a8,a9,a10⟩:=(HA.o.below HB1.o lA).eleven;have lA1:=Ay lA HB1.o.size;by_cases h8:(8:Int) < (m2:Int)
 ·have HE:AI (R=false):=AF (by
   rw [HR.o,<-Zr.o];have:decide (m2<=8)=false:=BO AG;rw [this,YX];rfl)
  go_wp2;go_ret;exact zH
 have HR2:AI (R=(Ug.all (Ml us ss JC) && decide (0<=Dv) && ((ss[Dv.toNat]?).any fun h=>decide (JX.length+1=h.fields.length)) && JX.all (Kv ss JC Dv) && Dm [] (JX.map fun s=>s.field))):=AF (by rw [HR.o,Sh.o,Bg (by have:=Zr.o;omega)];simp only [JI])
 clear HR Sh;go_wp2_with fail;clear a0 a1 a2 a3 a4 a5 a6 a7 a8 a9 a10;go_loopg [25] m2 (fun q i wr=>∃k:Nat,k<=m2/\q=m2 - k/\i=AB AE k/\(Ug.take k).all (Ml us ss JC)=true/\AJ wb wr)
 case atStart=>exact ⟨0,Ar _,rfl,rfl,rfl,HB1.o⟩
 clear HB1 lA1;obtain ⟨k,hk,hq,rfl,hall,hb⟩:=hrel;obtain ⟨HQ,EL,DF⟩:=Az hq hall hb;have CY:AI (AJ w wr):=AF (AW BV.o hb);have Ji:AI (AJ w0 wr):=AF (AW HB0.o CY.o);obtain ⟨a0,a1,a2,a3,a4,a5,a6,a7,a8,a9,a10⟩:=(HA.o.below hb lA).eleven;have uS:=Ay lA hb.size;clear hq hall hb;by_cases hlt:k < m2
 ·obtain ⟨b,off,x,hF,hbl,hx,e0,e1,e2,e3,e4,e5,e6,e7,e8,e9,e10⟩:=aD (dy.o.mono Gi Ji.o) hlt
  subst hF;have hk0:=Int.natCast_nonneg k
  have hk1:(k:Int) < (m2:Int):=AG
  have HX:=AF hx;obtain ⟨v,hv⟩:=BH (Ml us ss JC x);obtain ⟨HV,HC⟩:=Aj hv (fun o=>HAT.o x (wr.alloc o) (Ji.o.alloc Ji.o.size o));rw [hv] at HC;clear hv hx;go_wp2_with (go_at_call 158;refine (HC.o _).mono ?_;clear HC);rintro e w2 ⟨rfl,hb2⟩;have HB2:AI (AJ wb w2):=AF ((DF.o.alloc DF.o.size _).trans (hb2.mono QT));clear hb2 a0 a1 a2 a3 a4 a5 a6 a7 a8 a9 a10 e0 e1 e2 e3 e4 e5 e6 e7 e8 e9 e10;cases v with
  |
   false=>
   have HE:AI (R=false):=AF (by rw [HR2.o,Jb HX.o HV.o];rfl);go_wp2;go_ret;exact zG
  |
   true=>
   go_wp2;go_roundg (m2 - (k+1))
   case measure=>exact Bc
   case rel=>exact ⟨k+1,by omega,rfl,by go_num,Er HX.o HV.o EL.o,HB2.o⟩
 have HT:AI (Ug.all (Ml us ss JC)=true):=by have:=EL.o;rw [Cy (by have:=Zr.o;omega)] at this;exact AF this
 have HR3:AI (R=(decide (0<=Dv) && ((ss[Dv.toNat]?).any fun h=>decide (JX.length+1=h.fields.length)) && JX.all (Kv ss JC Dv) && Dm [] (JX.map fun s=>s.field))):=AF (by rw [HR2.o,HT.o,JI]);obtain ⟨wy,rfl⟩:=Ab wr;clear HR2 EL HT HQ HAT dy;by_cases hs0:Dv < 0
 ·have HE:AI (R=false):=AF (by rw [HR3.o,BO AG];rfl)
  have hd0:decide (Dv < 0)=true:=Bg hs0;exact AAA
 by_cases hs1:(n3:Int)<=Dv
 ·have HE:AI (R=false):=AF (by
   rw [HR3.o,DY Y1];simp)
  have hd0:decide (Dv < 0)=false:=BO hs0;have hd1:decide ((n3:Int)<=Dv)=true:=Bg hs1;exact AAA
 obtain ⟨i,rfl⟩:∃i:Nat,Dv=i:=⟨Dv.toNat,by omega⟩;obtain ⟨g1,o1,x,FA,fn,fc,DA,dn,dc,hA3,hbl,hx,e0,e1,e2,e3,e4,e5,hF,hD⟩:=Fz (H3.o.mono BM Ji.o) (k:=i) AG;subst hA3;have hfn:fn<=9000000000000:=by have:=hF.2;have:=hF.1.len;omega
 have Lt:=AF hF.1.len;have HR4:AI (R=(decide (JX.length+1=x.fields.length) && JX.all (Kv ss JC i) && Dm [] (JX.map fun s=>s.field))):=AF (by rw [HR3.o,Bg AG,CZ,hx];rfl)
 have hd0:decide ((i:Int) < 0)=false:=BO hs0;have hd1:decide (n3<=i)=false:=BO AG;have hi0:(0:Int)<=(i:Int):=AG
 have hi1:(i:Int) < (n3:Int):=AG
 clear HR3 e0 e1 e2 e3 e5 hF hD hx hs0 hs1;cases q1:((m3:Int) !=(fn:Int) - 1) with
 |
  true=>
  have HE:AI (R=false):=AF (by simp at q1;rw [HR4.o,BO sX];rfl)
  go_upto_region 10 with fail;go_quiet (fail);go_wp2;go_ret;exact ⟨A8 HE.o.symm,below_drewN CY.o _⟩
 | false=>
 have YH:AI (R=(JX.all (Kv ss JC i) && Dm [] (JX.map fun s=>s.field))):=AF (by simp at q1;rw [HR4.o,Bg sX,JI])
 clear HR4;go_upto_region 10 with fail;go_quiet (fail);have NK:AI (AJ wb (wy.drewN nq)):=AF (below_drewN DF.o _);generalize wy.drewN nq=wq at *;have Ob:AI (AJ w wq):=AF (AW BV.o NK.o);clear a0 a1 a2 a3 a4 a5 a6 a7 a8 a9 a10 e4 hbl uS q1 DF CY Ji;obtain ⟨a0,a1,a2,a3,a4,a5,a6,a7,a8,a9,a10⟩:=(HA.o.below NK.o lA).eleven;have lAq:=Ay lA NK.o.size;go_wp2_with fail;clear a0 a1 a2 a3 a4 a5 a6 a7 a8 a9 a10 lAq;go_loopg [6,69] m3 (fun q v6 i6 wr=>∃(k:Nat) (tv:AK),k<=m3/\q=m3 - k/\i6=AB AE k/\tv=v6/\(JX.take k).all (Kv ss JC i)=true/\wr.ownsRow wq.heap.size 3 1 tv k (((JX.take k).map fun s=>s.field).map (Value.int .i64))/\AJ wq wr)
 case atStart=>exact ⟨0,AA none 0 0,Ar _,rfl,rfl,rfl,rfl,ED _ _ _ _,Af _ _⟩
 obtain ⟨k,tv,hk,hq,rfl,rfl,hall,ho,hb⟩:=hrel;obtain ⟨HQ,EL,HO,DF⟩:=CJ hq hall ho hb;have RE:AI (AJ wb wr):=AF (AW NK.o hb);have CY:AI (AJ w wr):=AF (AW Ob.o hb);have Ji:AI (AJ w0 wr):=AF (AW HB0.o CY.o);clear hq hall ho hb;by_cases hlt:k < m3
 case neg=>
  have JE:AI (k=m3):=AF AG;have hfull:JX.take k=JX:=Cy (by have:=jw.o;omega);have HE:AI (R=Dm [] (JX.map fun s=>s.field)):=AF (by have:=EL.o;rw [hfull] at this;rw [YH.o,this,JI])
  have hsl:Ag 1 iR wr tv (JX.map fun s=>s.field):=by have:=HO.o;rw [hfull] at this;exact M6 this
  obtain ⟨TA,tc,hform⟩:∃TA tc,tv=AA TA k tc:=by obtain ⟨TA,tc,e,_⟩:=hsl;exact ⟨TA,tc,by rw [e,CX,<-jw.o,JE.o]⟩
  subst hform;obtain ⟨v,hv⟩:∃v,Dm [] (JX.map fun s=>s.field)=v:=⟨_,rfl⟩;have HD:AI (AS prog 160 #[AA TA k tc] wr fun e w'=>e=AV (AX v)/\AJ wr w'):=AF (by have:=af TA k tc (JX.map fun s=>s.field) wr hsl;rw [hv] at this;exact this)
  have HE2:AI (R=v):=AF (HE.o.trans hv);clear hsl hv hfull;go_wp2_with (go_at_call 160;refine HD.o.mono ?_;clear HD);rintro e w2 ⟨rfl,hb2⟩;have HB2:=AF (AW CY.o hb2);clear hb2;go_wp2;go_ret;exact ⟨A8 HE2.o.symm,HB2.o⟩
 obtain ⟨b,off,s,hS,hbl,hx,e0,e1,e2,e3,e4,e5,e6⟩:=gJ (TV.o.mono IE Ji.o) hlt;subst hS;have hk0:=Int.natCast_nonneg k
 have hk1:(k:Int) < (m3:Int):=AG
 have HX:=AF hx;clear hx;obtain ⟨sp,sf,st⟩:=s;simp only at e0 e1 e2 e3 e4 e5 e6;obtain ⟨a0,a1,a2,a3,a4,a5,a6,a7,a8,a9,a10⟩:=(HA.o.below RE.o lA).eleven;have uS:=Ay lA RE.o.size;have HT:=AF (fun o=>WW.o i sf (wr.alloc o) (Ji.o.alloc Ji.o.size o));obtain ⟨y,hy⟩:=BH (typeAt ss i sf);have HSA:AI (Kv ss JC i ⟨sp,sf,st⟩=y.any fun f=>decide (sf≠0) && VT ss JC f st):=AF (by rw [Kv,hy]);rw [hy] at HT;have LR:AI (∀W,BK (wr.alloc (AQ #[AN sp,AB AE sf,AN st.name,AN st.path,AB AE st.var,AB AE st.field,AB AE st.n] 276)).heap.size (wr.alloc (AQ #[AN sp,AB AE sf,AN st.name,AN st.path,AB AE st.var,AB AE st.field,AB AE st.n] 276)) W->AZ W wr.heap.size 276 #[AN sp,AB AE sf,AN st.name,AN st.path,AB AE st.var,AB AE st.field,AB AE st.n]):=AF (fun W h=>(AZ.new wr _ _).below h Ac);clear hy;cases y with
 |
  none=>
  have HE:AI (R=false):=AF (by rw [YH.o,Jb HX.o HSA.o];rfl);go_wp2_with (go_at_call 55;refine (HT.o _).mono ?_;clear HT;rintro e w2 ⟨⟨B,m',d',rfl,hs⟩,hb2⟩;have HB2:AI (AJ w w2):=AF ((CY.o.alloc CY.o.size _).trans (hb2.mono (by have:=CY.o.size;simp;omega)));clear hs hb2;simp only [Hr]);go_ret;exact ⟨A8 HE.o.symm,HB2.o.alloc HB2.o.size _⟩
 |
  some y=>
  obtain ⟨yk,yl,yh,yf,yu,yn⟩:=y;go_wp2_with (go_at_call 55;refine (HT.o _).mono ?_;clear HT);rintro e w2 ⟨⟨B,m',d',rfl,hs⟩,hb2⟩;have HS:=AF hs;have HB2:AI (AJ wq w2):=AF ((DF.o.alloc DF.o.size _).trans (hb2.mono QT));have qx:AI (AJ wb w2):=AF (AW NK.o HB2.o);have bD:AI (AJ w0 w2):=AF (AW HB0.o (AW Ob.o HB2.o));obtain ⟨KU,T8⟩:=Aj (Co (HO.o.alloc _) hb2) (LR.o w2 hb2);clear hs hb2 LR a0 a1 a2 a3 a4 a5 a6 a7 a8 a9 a10 uS e0 e1 e2 e3 e4 e5 e6 hbl DF RE CY Ji;simp only [GF,Ce];simp only [Ce] at HS;obtain ⟨a0,a1,a2,a3,a4,a5,a6,a7,a8,a9,a10⟩:=(HA.o.below qx.o lA).eleven;have lA2:=Ay lA qx.o.size;have s0:=T8.o.cell 0;have s1:=T8.o.cell 1;have s2:=T8.o.cell 2;have s3:=T8.o.cell 3;have s4:=T8.o.cell 4;have s5:=T8.o.cell 5;have s6:=T8.o.cell 6;simp only [Ai,An,Aw] at s0 s1 s2 s3 s4 s5 s6;have lS:=T8.o.lt;cases q2:(sf==0) with
  |
   true=>
   have HE:AI (R=false):=AF (by
    have:Kv ss JC i ⟨sp,sf,st⟩=false:=by rw [HSA.o];simp at q2;simp [q2]
    rw [YH.o,Jb HX.o this];rfl)
   go_wp2;go_ret;exact ⟨A8 HE.o.symm,AW Ob.o (HB2.o.alloc HB2.o.size _)⟩
  | false=>
  obtain ⟨v,hv⟩:∃v,VT ss JC ⟨yk,yl,yh,yf,yu,yn⟩ st=v:=⟨_,rfl⟩;have HV:AI (Kv ss JC i ⟨sp,sf,st⟩=v):=AF (by rw [HSA.o];simp at q2;simp [q2,hv]);have HC:=AF (fun o=>jk.o ⟨yk,yl,yh,yf,yu,yn⟩ st B m' d' (w2.alloc o) (bD.o.alloc bD.o.size o) HS.o);rw [hv] at HC;clear hv;have AIj:AI (∀o W,BK (w2.alloc o).heap.size (w2.alloc o) W->W.cell? ⟨wr.heap.size,1,none⟩=some (AB AE sf)/\wr.heap.size < W.heap.size):=AF (fun o W h=>by have hk:=(T8.o.alloc o).below h (by have:=T8.o.lt;simp;omega);exact ⟨hk.cell 1,hk.lt⟩)
  go_wp2_with (go_at_call 159;refine (HC.o _).mono ?_;clear HC);rintro e w3 ⟨rfl,hb3⟩;obtain ⟨s1,lS⟩:=AIj.o _ _ hb3;have HB3:AI (AJ wq w3):=AF ((HB2.o.alloc HB2.o.size _).trans (hb3.mono UF));have JD:=AF (Co (KU.o.alloc _) hb3);clear hb3 AIj a0 a1 a2 a3 a4 a5 a6 a7 a8 a9 a10 lA2;cases v with
  |
   false=>
   have HE:AI (R=false):=AF (by rw [YH.o,Jb HX.o HV.o];rfl);go_wp2;go_ret;exact ⟨A8 HE.o.symm,AW Ob.o HB3.o⟩
  |
   true=>
   obtain ⟨wt,hwt⟩:=Ab (w3.alloc (AQ #[AB AE sf] 3));have jo:AI (wt.ownsRow wq.heap.size 3 1 tv k (((JX.take k).map fun s=>s.field).map (Value.int .i64))):=AF (by rw [hwt];exact JD.o.alloc _);have LQ:AI (Ag 1 iR wt (AA (some ⟨w3.heap.size,0,none⟩) 1 1) [sf]):=AF (by rw [hwt];exact uF (cs:=[AB AE sf]) (t:=3) (AZ.new _ _ _) rfl rfl);have VI:AI (AJ wq wt):=AF (by rw [hwt];exact HB3.o.alloc HB3.o.size _);have HWT:=AF hwt;clear hwt s0 s2 s3 s4 s5 s6;go_wp2_with (at_builtin;rw [<-HWT.o];refine Cb wt rfl (AY 97) (AY 100) 30 3 rfl j0 _ 8 underlying30 HJ.o.1 HJ.o.2.1 HJ.o.2.2.1 HJ.o.2.2.2 rfl BE (R:=iR) AHA wq.heap.size tv k _ rfl jo.o (some ⟨w3.heap.size,0,none⟩) 1 1 [sf] rfl LQ.o ?hn ?hb VI.o.size ?_)
   case hn=>exact Ry
   case hb=>omega
   intro v4 w4 da hc4 SZ hg4 AKH;have HB4:AI (AJ wq w4):=AF (VI.o.grown hg4 VI.o.size (fun k hk=>(jo.o.lt k hk).1));have Qq:=AF SZ;have PR:AI (da=[AB AE sf]):=AF (by have h1:=hc4.1;have h2:=hc4.2 0 sf rfl;simp only [Yn,F9,Ho] at h1 h2;rw [Cy AG] at h2;exact h2)
   clear hc4 SZ hg4 AKH;go_wp2;go_roundg (m3 - (k+1))
   case measure=>exact Bc
   case rel=>exact ⟨k+1,v4,by omega,rfl,by go_num,rfl,Er HX.o HV.o EL.o,by rw [take_snoc HX.o,DM,DM];have:=Qq.o;rw [PR.o] at this;simpa [List.map_take] using this,HB4.o⟩
theorem yH (g:Nat) (F1 F2 F3:Option Aa) (m1 d1 m2 d2 m3 d3:Nat) (hd:ByteArray) (Dv:Int) (JC:List Br) (Ug:List Gf) (JX:List Kf) (us:List Bk) (ss:List BI) (w:AH) (hk:AZ w g 126 #[AA A1 n1 c1,AA A2 n2 c2,AA A3 n3 c3,AA A4 n4 c4,AA A5 n5 c5,AA A6 n6 c6]) (h2:Ag 5 CK w (AA A2 n2 c2) us) (h3:Ag 6 BR w (AA A3 n3 c3) ss)
 (hf:Ag 8 DI w (AA F1 m1 d1) JC) (hwh:Ag 11 EQ w (AA F2 m2 d2) Ug) (hse:BQ 7 80 Gc w (AA F3 m3 d3) JX) (hU:∀x∈ss,∀f∈x.fields,QX n2 f.type):
 AS prog 95 #[AO #[AN hd,AB AE Dv,AA F1 m1 d1,AA F2 m2 d2,AA F3 m3 d3],AU (some ⟨g,0,none⟩)] w fun e w'=>e=AV (AX (I0 us ss ⟨hd,Dv,JC,Ug,JX⟩))/\AJ w w':=by
 have HB:AI (∀o,AJ w (w.alloc o)):=AF (fun o=>(Af _ _).alloc (Ad _) _);have HC:=AF (fun o=>vy A1 A2 A3 A4 A5 A6 n1 c1 n2 c2 n3 c3 n4 c4 n5 c5 n6 c6 F1 F2 F3 m1 d1 m2 d2 m3 d3 hd Dv JC Ug JX us ss w (w.alloc o) (HB.o o) h2 h3 hf hwh hse hU);obtain ⟨v,hv⟩:∃v,I0 us ss ⟨hd,Dv,JC,Ug,JX⟩=v:=⟨_,rfl⟩;rw [hv] at HC ⊢;obtain ⟨a0,a1,a2,a3,a4,a5⟩:=hk.six;have lk:=hk.lt;clear hk h2 h3 hf hwh hse hU hv;go_enter func95,ntmps95;go_wp2_with (go_at_call 96;refine (HC.o _).mono ?_;clear HC);rintro e w2 ⟨rfl,hb2⟩;have HB2:=AF ((HB.o _).trans (hb2.mono Ac));clear hb2;exact mL
def MR (n2:Nat) (ss:List BI) (s f v:Int):Bool:=(typeAt ss s f).any fun t=>JW n2 t && decide (t.lo<=v) && decide (v<=t.hi)
theorem ik (sc f v:Int) (ss:List BI) (w0 w:AH) (hb0:AJ w0 w) (hn2:n2<=9223372036854775807) (h3:Ag 6 BR w0 (AA A3 n3 c3) ss):
 AS prog 32 #[(AO #[AA A1 n1 c1,AA A2 n2 c2,AA A3 n3 c3,AA A4 n4 c4,AA A5 n5 c5,AA A6 n6 c6]),AB AE sc,AB AE f,AB AE v] w fun e w'=>e=AV (AX (MR n2 ss sc f v))/\AJ w w':=by
 have hbb:∀o1 o2,AJ w ((w.alloc o1).alloc o2):=fun o1 o2=>((BP _ _).alloc Ac _);obtain ⟨BV,HT,HB0⟩:=Az hbb (fun o1 o2=>RH A1 A2 A3 A4 A5 A6 n1 c1 n2 c2 n3 c3 n4 c4 n5 c5 n6 c6 sc f ss w0 ((w.alloc o1).alloc o2) (AW hb0 (hbb o1 o2)) h3) hb0;clear hb0 h3 hbb;obtain ⟨o,ho⟩:=BH (typeAt ss sc f);have HO:AI (MR n2 ss sc f v=o.any fun t=>JW n2 t && decide (t.lo<=v) && decide (v<=t.hi)):=AF (by rw [MR,ho]);rw [ho] at HT;rw [HO.o];clear ho HO;have HK:AI (∀o1 W,BK ((w.alloc o1).alloc (AQ #[AA A1 n1 c1,AA A2 n2 c2,AA A3 n3 c3,AA A4 n4 c4,AA A5 n5 c5,AA A6 n6 c6] 126)).heap.size ((w.alloc o1).alloc (AQ #[AA A1 n1 c1,AA A2 n2 c2,AA A3 n3 c3,AA A4 n4 c4,AA A5 n5 c5,AA A6 n6 c6] 126)) W->AZ W (w.heap.size+1) 126 #[AA A1 n1 c1,AA A2 n2 c2,AA A3 n3 c3,AA A4 n4 c4,AA A5 n5 c5,AA A6 n6 c6]):=AF (fun o1 W h=>AZ.below (EJ Ac) h Ac);cases o with
 |
  none=>
  simp only [Option.any_none];go_enter func32,ntmps32;go_wp2_with (go_at_call 55;refine (HT.o _ _).mono ?_;clear HT;rintro e w2 ⟨⟨B,m,d,rfl,hs⟩,hb2⟩;have HB2:=AF ((BV.o _ _).trans (hb2.mono (BV.o _ _).size));clear hs hb2;simp only [Hr]);go_ret;exact ⟨rfl,HB2.o.alloc HB2.o.size _⟩
 |
  some y=>
  simp only [Option.any_some];obtain ⟨yk,yl,yh,yf,yu,yn⟩:=y;go_enter func32,ntmps32;go_wp2_with (go_at_call 55;refine (HT.o _ _).mono ?_;clear HT);rintro e w2 ⟨⟨B,m,d,rfl,hs⟩,hb2⟩;obtain ⟨q0,q1,q2,q3,q4,q5⟩:=(HK.o _ _ hb2).six;have lq:=(HK.o _ _ hb2).lt;have HB2:=AF ((BV.o _ _).trans (hb2.mono (BV.o _ _).size));simp only [Ce] at hs;obtain ⟨vt,hvt⟩:∃b,JW n2 ⟨yk,yl,yh,yf,yu,yn⟩=b:=⟨_,rfl⟩;have WW:AI (∀o,AS prog 56 #[(AO #[AA A1 n1 c1,AA A2 n2 c2,AA A3 n3 c3,AA A4 n4 c4,AA A5 n5 c5,AA A6 n6 c6]),AO #[AB AE yk,AB AE yl,AB AE yh,AN yf,AB AE yu,AA B m d]] (w2.alloc o) fun e w'=>e=AV (AX vt)/\BK (w2.alloc o).heap.size (w2.alloc o) w'):=AF (fun o=>by have:=cP A1 A2 A3 A4 A5 A6 n1 c1 n2 c2 n3 c3 n4 c4 n5 c5 n6 c6 ⟨yk,yl,yh,yf,yu,yn⟩ B m d (w2.alloc o) hn2 (hs.1.mono Ba (AW HB0.o (HB2.o.alloc HB2.o.size o)));rw [hvt] at this;exact this)
  have HVT:=AF hvt;clear hs hb2 hvt HK BV;simp only [Ce,GF];go_wp2_with (go_at_call 56;refine (WW.o _).mono ?_;clear WW);rintro e w3 ⟨rfl,hb3⟩;have kz:=(AZ.new w2 97 #[AB AE yk,AB AE yl,AB AE yh,AN yf,AB AE yu,AA B m d]).below hb3 Ac;obtain ⟨z0,z1,z2,z3,z4,z5⟩:=kz.six;have lz:=kz.lt;have HB3:AI (AJ w w3):=AF ((HB2.o.alloc HB2.o.size _).trans (hb3.mono UF));clear kz hb3 q0 q1 q2 q3 q4 q5;cases vt <;>
  go_wp2_with fail
  all_goals
   go_ret;refine ⟨A8 ?_,HB3.o⟩;have hE:=HVT.o;rw [hE]
   go_light
   first
    | rfl
    | (simp_all;done)
    | (simp_all;omega)
def Qj (n2:Nat) (f:GZ):Bool:=JW n2 f.type && decide (f.type.lo<=f.type.lo) && decide (f.type.lo<=f.type.hi)
def JQ (n2:Nat) (ss:List BI) (s:Int):Bool:=decide (0<=s) && decide (s < ss.length) && (ss[s.toNat]?).any fun x=>x.fields.all (Qj n2) && (x.fields[0]?).any fun f=>decide (f.type.kind=3)
theorem ACT {n2:Nat} {ss:List BI} {k i:Nat} {x:BI} {y:GZ} (hx:ss[k]? =some x) (hy:x.fields[i]? =some y):MR n2 ss k i y.type.lo=Qj n2 y:=by rw [MR,typeAt,Ah AG,CZ,CZ,hx,Option.bind_some,hy];rfl
theorem ABG {n2:Nat} {ss:List BI} {k:Nat} {x:BI} (hx:ss[k]? =some x):JQ n2 ss k=(x.fields.all (Qj n2) && (x.fields[0]?).any fun f=>decide (f.type.kind=3)):=by have:=(BA.1 hx).1;rw [JQ,Bg AG,Bg AG,CZ,hx];rfl
theorem wM (sc:Int) (ss:List BI) (w0 w:AH) (hb0:AJ w0 w) (hn2:n2<=9223372036854775807) (h3:Ag 6 BR w0 (AA A3 n3 c3) ss):
 AS prog 169 #[(AO #[AA A1 n1 c1,AA A2 n2 c2,AA A3 n3 c3,AA A4 n4 c4,AA A5 n5 c5,AA A6 n6 c6]),AB AE sc] w fun e w'=>e=AV (AX (JQ n2 ss sc))/\AJ w w':=by
 have hn3:n3<=9223372036854775807:=by have:=h3.le;omega
 obtain ⟨H9,HB0,H3,Zo⟩:=CJ h3.len hb0 h3 hn2;clear hb0 h3 hn2;by_cases hin:0<=sc/\sc < n3
 case neg=>
  have HE:AI (JQ n2 ss sc=false):=AF (by
   have:(decide (0<=sc) && decide (sc < ss.length))=false:=by simp only [My,Mz];have:=H9.o;omega
   rw [JQ,this];rfl)
  rw [HE.o];go_enter func169,ntmps169;go_wp2_with fail
  all_goals first
   | (exfalso;omega)
   | (go_ret;exact ⟨rfl,(BP _ _)⟩)
 obtain ⟨k,rfl⟩:∃k:Nat,sc=k:=⟨sc.toNat,by omega⟩;have hk0:=Int.natCast_nonneg k
 have hk1:(k:Int) < (n3:Int):=AG
 have hz:decide (n3<=k)=false:=BO AG;obtain ⟨b,off,x,FA,fn,fc,DA,dn,dc,hA3,hbl,hx,e0,e1,e2,e3,e4,e5,hF,hD⟩:=Fz H3.o (k:=k) AG;subst hA3;have mf:fn<=9223372036854775807:=by have:=hF.1.le;omega
 have Lt:=AF hF.1.len;rw [<-HB0.o.cell (p:=⟨b,_,none⟩) hbl] at e4;have AHt:b < w.heap.size:=Ay hbl HB0.o.size;have HX:=AF hx;have HP:AI (JQ n2 ss k=(x.fields.all (Qj n2) && (x.fields[0]?).any fun f=>decide (f.type.kind=3))):=AF (ABG hx);have HF:=AF hF.1;rw [HP.o];clear hin e0 e1 e2 e3 e5 hD hF hx HP;have kA:AZ (w.alloc (AQ #[AA A1 n1 c1,AA A2 n2 c2,AA (some ⟨b,off,none⟩) n3 c3,AA A4 n4 c4,AA A5 n5 c5,AA A6 n6 c6] 29)) w.heap.size 29 #[AA A1 n1 c1,AA A2 n2 c2,AA (some ⟨b,off,none⟩) n3 c3,AA A4 n4 c4,AA A5 n5 c5,AA A6 n6 c6]:=AZ.new _ _ _;have HA:=AF kA;have BV:AI (AJ w (w.alloc (AQ #[AA A1 n1 c1,AA A2 n2 c2,AA (some ⟨b,off,none⟩) n3 c3,AA A4 n4 c4,AA A5 n5 c5,AA A6 n6 c6] 29))):=AF (BP _ _);clear kA;go_enter func169,ntmps169;go_wp2_with fail;generalize w.alloc (AQ #[AA A1 n1 c1,AA A2 n2 c2,AA (some ⟨b,off,none⟩) n3 c3,AA A4 n4 c4,AA A5 n5 c5,AA A6 n6 c6] 29)=wb at *;obtain ⟨ga,hga⟩:=Ab w.heap.size;rw [<-hga] at HA ⊢;have lA:=HA.o.lt;clear hga;go_loopg [25] fn (fun q i wr=>∃j:Nat,j<=fn/\q=fn - j/\i=AB AE j/\(x.fields.take j).all (Qj n2)=true/\AJ wb wr)
 case atStart=>exact Li
 obtain ⟨j,hj,hq,rfl,hall,hb⟩:=hrel;obtain ⟨HQ,EL,DF⟩:=Az hq hall hb;have CY:AI (AJ w wr):=AF (AW BV.o hb);have Ji:AI (AJ w0 wr):=AF (AW HB0.o CY.o);obtain ⟨a0,a1,a2,a3,a4,a5⟩:=(HA.o.below hb lA).six;have uS:ga < wr.heap.size:=Ay lA hb.size;clear hq hall hb;by_cases hlt:j < fn
 case neg=>
  have HT:AI (x.fields.all (Qj n2)=true):=by have:=EL.o;rw [Cy Y0] at this;exact this
  clear a0 a1 a2 a3 a4 a5;by_cases h0:fn=0
  ·have HE:AI (x.fields[0]? =none):=AF (DY Y0)
   subst h0;go_wp2;go_ret;exact ⟨A8 (by rw [HT.o,HE.o];rfl),CY.o⟩
  obtain ⟨b',off',y,C,mc,dc',hB1,gY,hy,f0,f1,f2,f3,f4,f5,f6,f7,f8,f9,f10,G3⟩:=IV (HF.o.mono DJ Ji.o) (k:=0) AG;subst hB1;have HY:=AF hy;simp only [RN,D6] at f1;have hfz:(0:Int) < (fn:Int):=AG
  have hk:(y.type.kind==3)=decide (y.type.kind=3):=by by_cases h:y.type.kind=3 <;> simp [h]
  have HK:=AF hk;clear hk hy f0 f2 f3 f4 f5 f6 f7 f8 f9 f10 G3 h0;go_wp2;go_ret;exact ⟨A8 (by rw [HT.o,HY.o,Option.any_some,JI];exact HK.o),CY.o⟩
 obtain ⟨b',off',y,C,mc,dc',hB1,gY,hy,f0,f1,f2,f3,f4,f5,f6,f7,f8,f9,f10,G3⟩:=IV (HF.o.mono DJ Ji.o) hlt;subst hB1;have hj0:(0:Int)<=(j:Int):=AG
 have hj1:(j:Int) < (fn:Int):=AG
 have HY:=AF hy;obtain ⟨vv,hvv⟩:=BH (Qj n2 y);obtain ⟨HVV,HV⟩:=Aj hvv (fun o=>ik A1 A2 (some ⟨b,off,none⟩) A4 A5 A6 n1 c1 n2 c2 n3 c3 n4 c4 n5 c5 n6 c6 k j y.type.lo ss w0 (wr.alloc o) (Ji.o.alloc Ji.o.size o) Zo.o H3.o);rw [ACT HX.o hy,hvv] at HV;clear hy G3 hvv;go_wp2_with (go_at_call 32;refine (HV.o _).mono ?_;clear HV);rintro e w2 ⟨rfl,hb2⟩;have HB2:=AF ((DF.o.alloc DF.o.size _).trans (hb2.mono QT));clear hb2 a0 a1 a2 a3 a4 a5 f0 f1 f2 f3 f4 f5 f6 f7 f8 f9 f10;cases vv with
 |
  false=>
  have HE:AI (x.fields.all (Qj n2)=false):=AF (Jb HY.o HVV.o);go_wp2;go_ret;exact ⟨A8 (by rw [HE.o];rfl),AW BV.o HB2.o⟩
 |
  true=>
  go_wp2;go_roundg (fn - (j+1))
  case measure=>exact Bc
  case rel=>exact ⟨j+1,by omega,rfl,by go_num,Er HY.o HVV.o EL.o,HB2.o⟩
def fitsV (a b:Fe) (sh:Int) (an bn:Nat):Bool:=
 if a.kind≠b.kind then false
 else if a.kind=1\/a.kind=2 then (b.lo==wrap64 (a.lo+sh)) && (b.hi==wrap64 (a.hi+sh)) && (a.unit==b.unit)
 else (sh==0) && (a.lo==b.lo) && (a.hi==b.hi) && ((an:Int)==(bn:Int))
theorem ABz (a b:Fe) (sh:Int) (B C:Option Aa) (m d k e:Nat) (w:AH):
 AS prog 170 #[AO #[AB AE a.kind,AB AE a.lo,AB AE a.hi,AN a.Av,AB AE a.unit,AA B m d],AO #[AB AE b.kind,AB AE b.lo,AB AE b.hi,AN b.Av,AB AE b.unit,AA C k e],AB AE sh] w fun e w'=>e=AV (AX (fitsV a b sh m k))/\AJ w w':=by
 have HW:AI (∀o1 o2,AJ w ((w.alloc o1).alloc o2)):=AF fun o1 o2=>((BP _ _).alloc Ac _);by_cases hkd:a.kind=b.kind
 case neg=>
  have hkn:(a.kind !=b.kind)=true:=by simpa using hkd
  have HE:AI (fitsV a b sh m k=false):=AF (by rw [fitsV,Am hkd]);rw [HE.o];clear hkd;go_enter func170,ntmps170;go_wp2;go_ret;exact ⟨rfl,HW.o _ _⟩
 have hkn:(a.kind !=b.kind)=false:=by simpa using hkd
 by_cases h12:a.kind=1\/a.kind=2
 ·have HE:AI (fitsV a b sh m k=((b.lo==wrap64 (a.lo+sh)) && (b.hi==wrap64 (a.hi+sh)) && (a.unit==b.unit))):=AF (by rw [fitsV,Ah (by simpa using hkd),Am h12])
  rw [HE.o];have h1:(a.kind==1)=true\/((a.kind==1)=false/\(a.kind==2)=true):=by
   rcases h12 with h | h
   · exact .inl (by simpa using h)
   · exact .inr ⟨by simp [h],by simpa using h⟩
  clear hkd h12;go_enter func170,ntmps170;rcases h1 with h1 | ⟨h1,h2⟩ <;>
  exact zx
 have HE:AI (fitsV a b sh m k=((sh==0) && (a.lo==b.lo) && (a.hi==b.hi) && ((m:Int)==(k:Int)))):=AF (by rw [fitsV,Ah (by simpa using hkd),Ah h12]);rw [HE.o];have h1:(a.kind==1)=false:=by simpa using fun h=>h12 (.inl h)
 have h2:(a.kind==2)=false:=by simpa using fun h=>h12 (.inr h)
 clear hkd h12;go_enter func170,ntmps170;exact zx
def dE (fa fb:List GZ) (m:IL):Bool:=
 match fa[m.a.toNat]?,fb[m.b.toNat]? with
 | some x,some y=>fitsV x.type y.type m.shift x.type.names.length y.type.names.length
 | _,_=>false
def To (fa fb:List GZ):List Bool->List Bool->List IL->Bool
 | _,_,[]=>true
 |
  us,ts,m::l=>
  if ¬(1<=m.a/\m.a < fa.length/\1<=m.b/\m.b < fb.length) then false
  else if us[m.a.toNat]? =some true then false
  else if ts[m.b.toNat]? =some true then false
  else if dE fa fb m then To fa fb (us.set m.a.toNat true) (ts.set m.b.toNat true) l else false
def M5 (n2:Nat) (ss:List BI) (c:C4):Bool:=
 if c.a=c.b then false
 else if JQ n2 ss c.a=false then false
 else if JQ n2 ss c.b=false then false
 else match ss[c.a.toNat]?,ss[c.b.toNat]? with
  | some x,some y=>if c.moves.length+1=x.fields.length then (if c.moves.length+1=y.fields.length then To x.fields y.fields (List.replicate x.fields.length false) (List.replicate y.fields.length false) c.moves else false) else false
  | _,_=>false
theorem RK {n2:Nat} {ss:List BI} {s:Int} (h:JQ n2 ss s=true):0<=s/\s < ss.length:=by simp only [JQ,BZ,Bw] at h;exact h.1
theorem ABp:(prog.info? 4).map (fun i=>(i.zero,i.size,i.bytes))=some (some (AX false),1,1):=by kernel_rfl
theorem Ke {w:AH} {g:Nat} {t:Ae} {cs:Array AK} (h:AZ w g t cs):AZ w.drew g t cs:=h
theorem QO {w:AH} {g i:Nat} {t:Ae} {us:List Bool} {v:Bool} (h:AZ w g t (us.map Value.bool).toArray):AZ (w.setCell ⟨g,i,none⟩ (AX v)) g t ((us.set i v).map Value.bool).toArray:=by have:=h.put i (AX v);simpa [List.map_set] using this
theorem AA8 (n:Nat):Array.replicate n (Value.bool false)=((List.replicate n false).map Value.bool).toArray:=by simp
theorem rk (nf:Nat):madeCells (Value.bool false).cells (nf*1)=Array.replicate nf (Value.bool false):=by
 apply Array.ext
 · simp [madeCells]
 intro i h1 h2;have:i % 1=0:=AG
 simp [madeCells,Value.cells,this]
theorem WI (nf:Nat) (h:nf<=140737488355328) (W:AH):(Instr.makeSlice 230 (AB AE nf) (AB AE nf)).run prog W=.ok (AA (some ⟨W.heap.size,0,none⟩) nf nf) (W.alloc (AQ (Array.replicate nf (Value.bool false)) 4)):=by obtain ⟨j0,hj,Vp,Vo,Vn⟩:=JF ABp;have:=run_make (P:=prog) W 230 4 j0 (AX false) underlying230 hj Vp .i64 .i64 nf nf AG AG (by rw [Vn];omega) AG;rw [Vo] at this;simp only [CZ] at this;rw [rk] at this;exact this
theorem vh (cf ct:ByteArray) (ca cb:Int) (Xd:List IL) (MA:Option Aa) (mn mc:Nat) (ss:List BI) (w0 w:AH) (hb0:AJ w0 w) (hn2:n2<=9223372036854775807) (h3:Ag 6 BR w0 (AA A3 n3 c3) ss) (hm:Ag 5 GJ w0 (AA MA mn mc) Xd):
 AS prog 107 #[(AO #[AA A1 n1 c1,AA A2 n2 c2,AA A3 n3 c3,AA A4 n4 c4,AA A5 n5 c5,AA A6 n6 c6]),AO #[AN cf,AN ct,AB AE ca,AB AE cb,AA MA mn mc]] w fun e w'=>e=AV (AX (M5 n2 ss ⟨cf,ct,ca,cb,Xd⟩))/\AJ w w':=by
 have hmn:mn<=9223372036854775807:=by have:=hm.le;omega
 have hn3:n3<=9223372036854775807:=by have:=h3.le;omega
 obtain ⟨wb,hwb⟩:=Ab ((w.alloc (AQ #[AA A1 n1 c1,AA A2 n2 c2,AA A3 n3 c3,AA A4 n4 c4,AA A5 n5 c5,AA A6 n6 c6] 29)).alloc (AQ #[AN cf,AN ct,AB AE ca,AB AE cb,AA MA mn mc] 154));have hbb:AJ w wb:=by rw [hwb];exact Od
 have kA:AZ wb w.heap.size 29 #[AA A1 n1 c1,AA A2 n2 c2,AA A3 n3 c3,AA A4 n4 c4,AA A5 n5 c5,AA A6 n6 c6]:=by rw [hwb];exact (AZ.new _ _ _).alloc _
 have kB:AZ wb (w.heap.size+1) 154 #[AN cf,AN ct,AB AE ca,AB AE cb,AA MA mn mc]:=by rw [hwb];exact EJ Ac
 have HP:AI (∀(sc:Int) (W:AH),AJ wb W->AS prog 169 #[(AO #[AA A1 n1 c1,AA A2 n2 c2,AA A3 n3 c3,AA A4 n4 c4,AA A5 n5 c5,AA A6 n6 c6]),AB AE sc] W fun e w'=>e=AV (AX (JQ n2 ss sc))/\AJ W w'):=AF (fun sc W hW=>wM A1 A2 A3 A4 A5 A6 n1 c1 n2 c2 n3 c3 n4 c4 n5 c5 n6 c6 sc ss w0 W (AW hb0 (AW hbb hW)) hn2 h3);obtain ⟨BV,Cg,HA,HB,H3,HM,HB0,H9⟩:=Wy hbb hwb kA kB h3 hm hb0 h3.len;obtain ⟨b0',b1',b2',b3',b4'⟩:=kB.five;obtain ⟨a0',a1',a2',a3',a4',a5'⟩:=kA.six;obtain ⟨ga,hga⟩:=Ab w.heap.size;obtain ⟨gb,hgb⟩:=Ab (w.heap.size+1);have lA:=kA.lt;have lB:=kB.lt;clear hm h3 hb0 hbb hwb kA kB hn2;obtain ⟨R,hR⟩:∃R,M5 n2 ss ⟨cf,ct,ca,cb,Xd⟩=R:=⟨_,rfl⟩;have HR:=AF hR;rw [hR];clear hR;go_enter func107,ntmps107;go_upto_region 1 with fail;rw [<-Cg.o,<-hgb,<-hga];rw [<-hgb] at HB lB b0' b1' b2' b3' b4';rw [<-hga] at HA lA a0' a1' a2' a3' a4' a5';clear Cg hga hgb;cases hab:(ca==cb) with
 |
  true=>
  have HE:AI (R=false):=AF (by rw [<-HR.o,M5,Am (by simpa using hab)]);go_wp2;go_ret;exact ⟨A8 HE.o.symm,BV.o⟩
 | false=>
 have HAB:AI (ca≠cb):=AF (by simpa using hab);obtain ⟨uy,HPB⟩:=Aj (HP.o ca wb (Af _ _)) (HP.o cb);clear HP;cases hp1:JQ n2 ss ca with
 |
  false=>
  rw [hp1] at uy;have HE:AI (R=false):=AF (by rw [<-HR.o,M5,Ah HAB.o,Am hp1]);clear hp1;go_wp2_with (go_at_call 169;refine uy.o.mono ?_;clear uy);rintro e w1 ⟨rfl,hb1⟩;have HB1:=AF (AW BV.o hb1);clear hb1;go_wp2;go_ret;exact ⟨A8 HE.o.symm,HB1.o⟩
 | true=>
 rw [hp1] at uy;have HP1:=AF hp1;clear hp1;go_wp2_with (go_at_call 169;refine uy.o.mono ?_;clear uy);rintro e w1 ⟨rfl,hb1⟩;have HB1:=AF hb1;obtain ⟨b0,b1,b2,b3,b4⟩:=(HB.o.below hb1 lB).five;obtain ⟨a0,a1,a2,a3,a4,a5⟩:=(HA.o.below hb1 lA).six;clear hb1 a0' a1' a2' a3' a4' a5' b0' b1' b2' b3' b4';have iV:=AF (HPB.o w1 HB1.o);clear HPB;cases hp2:JQ n2 ss cb with
 |
  false=>
  rw [hp2] at iV;have HE:AI (R=false):=AF (by rw [<-HR.o,M5,Ah HAB.o,Ah (by rw [HP1.o];decide),Am hp2]);clear hp2;go_wp2_with (go_at_call 169;refine iV.o.mono ?_;clear iV);rintro e w2 ⟨rfl,hb2⟩;have HB2:=AF (AW HB1.o hb2);clear hb2 a0 a1 a2 a3 a4 a5 b0 b1 b2 b3 b4;go_wp2;go_ret;exact zG
 | true=>
 rw [hp2] at iV;have HP2:=AF hp2;clear hp2;go_wp2_with (go_at_call 169;refine iV.o.mono ?_;clear iV);rintro e w2 ⟨rfl,hb2⟩;have HB2:=AF (AW HB1.o hb2);clear hb2 a0 a1 a2 a3 a4 a5 b0 b1 b2 b3 b4;obtain ⟨b0,b1,b2,b3,b4⟩:=(HB.o.below HB2.o lB).five;obtain ⟨a0,a1,a2,a3,a4,a5⟩:=(HA.o.below HB2.o lA).six;have lA2:=Ay lA HB2.o.size;have lB2:=Ay lB HB2.o.size;obtain ⟨i,hi⟩:∃i:Nat,ca=i:=⟨ca.toNat,by have:=(RK HP1.o).1;omega⟩;obtain ⟨j,hj⟩:∃j:Nat,cb=j:=⟨cb.toNat,by have:=(RK HP2.o).1;omega⟩;subst hi hj;have hi0:(0:Int)<=(i:Int):=AG
 have hj0:(0:Int)<=(j:Int):=AG
 have hi1:(i:Int) < (n3:Int):=by have:=(RK HP1.o).2;have:=H9.o;omega
 have hj1:(j:Int) < (n3:Int):=by have:=(RK HP2.o).2;have:=H9.o;omega
 obtain ⟨g1,o1,x,FA,fn,fc,DA,dn,dc,hA3,hbl,hx,e0,e1,e2,e3,e4,e5,hF,hD⟩:=Fz H3.o (k:=i) AG;obtain ⟨g2,o2,y,GA,gn,gc,EA,en,ec,AKL,r1,hy,r2,r3,r4,r5,f4,r6,hG,r7⟩:=Fz H3.o (k:=j) AG;subst hA3;injection AKL with hq;injection hq with hq1 hq2;subst hq1 hq2;have hbw2:AJ w0 w2:=AW HB0.o (AW BV.o HB2.o);rw [<-hbw2.cell (p:=⟨g1,_,none⟩) hbl] at e4 f4;have hlw:=Ay hbl hbw2.size;have hfn:fn<=9000000000000:=by have:=hF.2;have:=hF.1.len;omega
 have hgn:gn<=9000000000000:=by have:=hG.2;have:=hG.1.len;omega
 obtain ⟨Lt,HGN,NI,HF,HG⟩:=EG hF.1.len hG.1.len HM.o.len hF.1 hG.1;have HRR:AI (R=if Xd.length+1=x.fields.length then (if Xd.length+1=y.fields.length then To x.fields y.fields (List.replicate x.fields.length false) (List.replicate y.fields.length false) Xd else false) else false):=AF (by rw [<-HR.o,M5,Ah HAB.o,Ah (by rw [HP1.o];decide),Ah (by rw [HP2.o];decide),CZ,CZ,hx,hy])
 have Ss:=AF hbw2;clear e0 e1 e2 e3 e5 hF hG hD hx hy hbw2 HR HP1 HP2 HAB r1 r2 r3 r4 r5 r6 r7;go_upto_region 3 with fail;go_quiet (fail);clear a0 a1 a2 a3 a4 a5;have NK:AI (AJ wb (w2.drewN nq)):=AF (below_drewN HB2.o _);generalize w2.drewN nq=wq at *;clear b0 b1 b2 b3 b4 e4 f4 hlw lA2 lB2 hbl;obtain ⟨b0,b1,b2,b3,b4⟩:=(HB.o.below NK.o lB).five;have lBq:=Ay lB NK.o.size;cases q1:((mn:Int) !=(fn:Int) - 1) with
 |
  true=>
  have HE:AI (R=false):=AF (by rw [HRR.o,Ah (by simp at q1;have:=NI.o;have:=Lt.o;omega)]);go_wp2;go_ret;exact zF
 | false=>
 cases q2:((mn:Int) !=(gn:Int) - 1) with
 |
  true=>
  have HE:AI (R=false):=AF (by rw [HRR.o];split;rw [Ah (by simp at q2;have:=NI.o;have:=HGN.o;omega)];rfl);go_wp2;go_ret;exact zF
 | false=>
 have HE:AI (R=To x.fields y.fields (List.replicate fn false) (List.replicate gn false) Xd):=AF (by simp at q1 q2;rw [HRR.o,Am (by have:=NI.o;have:=Lt.o;omega),Am (by have:=NI.o;have:=HGN.o;omega),<-Lt.o,<-HGN.o])
 clear HRR;have AJx:=fun W=>WI fn AG W;have AJw:=fun W=>WI gn AG W;go_upto_region 6 with fail;clear q1 q2;go_cut [7,8] from 60 (fun v7 v8 wx=>∃gu gs,v7=AA (some ⟨gu,0,none⟩) fn fn/\v8=AA (some ⟨gs,0,none⟩) gn gn/\gu≠gs/\wb.heap.size<=gu/\wb.heap.size<=gs/\AZ wx gu 4 (Array.replicate fn (Value.bool false))/\AZ wx gs 4 (Array.replicate gn (Value.bool false))/\AJ wb wx)
 case first=>
  go_region
  all_goals
   go_wp2
   go_meet
   first
    | exact ⟨wq.heap.size,wq.heap.size+1,rfl,rfl,by omega,NK.o.size,by have:=NK.o.size;omega,Ke ((AZ.new _ _ _).alloc _),Ke (EJ Ac),((NK.o.alloc NK.o.size _).alloc (by have:=NK.o.size;simp;omega) _).drew⟩
    | exact ⟨wq.heap.size+1,wq.heap.size,rfl,rfl,by omega,by have:=NK.o.size;omega,NK.o.size,Ke (EJ Ac),Ke ((AZ.new _ _ _).alloc _),((NK.o.alloc NK.o.size _).alloc (by have:=NK.o.size;simp;omega) _).drew⟩
 obtain ⟨gu,gs,rfl,rfl,hne,hgu,hgs,hbu,hbs,hbx⟩:=hcut;rw [AA8] at hbu hbs;obtain ⟨j8,RE,Ob,HNE,HGU,HGS⟩:=FR hbu hbs hbx hne hgu hgs;have bx4:=(HB.o.below hbx lB).five.2.2.2.2;have lBx:=Ay lB hbx.size;clear AJx AJw b0 b1 b2 b3 b4 hbu hbs hbx hne hgu hgs;clear HB1 HB2 NK lBq hi0 hj0 hi1 hj1 hab H3 Ss HA lA;go_wp2_with fail;clear bx4 lBx HB lB;go_loopg [69] mn (fun q i wr=>∃(k:Nat) (us ts:List Bool),k<=mn/\q=mn - k/\i=AB AE k/\us.length=fn/\ts.length=gn/\To x.fields y.fields us ts (Xd.drop k)=R/\AZ wr gu 4 (us.map Value.bool).toArray/\AZ wr gs 4 (ts.map Value.bool).toArray/\AJ wb wr)
 case atStart=>exact ⟨0,List.replicate fn false,List.replicate gn false,Ar _,rfl,rfl,by simp,by simp,by rw [HE.o];rfl,j8.o,RE.o,Ob.o⟩
 clear j8 RE Ob HE;obtain ⟨k,us,ts,hk,hq,rfl,hus,hts,hgo,hbu,hbs,hb⟩:=hrel;obtain ⟨HQ,ut,HTS,qo,j8,RE,DF⟩:=LW hq hus hts hgo hbu hbs hb;have CY:AI (AJ w wr):=AF (AW BV.o hb);clear hq hus hts hgo hbu hbs hb;by_cases hlt:k < mn
 case neg=>
  have HT:AI (R=true):=AF (by rw [<-qo.o,EV (by have:=NI.o;omega)];rfl)
  go_wp2;go_ret;exact ⟨A8 HT.o.symm,CY.o⟩
 have hbz:AJ w0 wr:=AW HB0.o CY.o;obtain ⟨gm,om,m,hMA,hml,hmx,e0,e1,e2,e3,e4⟩:=aC (HM.o.mono IG hbz) hlt;subst hMA;have hk0:=Int.natCast_nonneg k
 have hk1:(k:Int) < (mn:Int):=AG
 have HG1:AI (To x.fields y.fields us ts (m::Xd.drop (k+1))=R):=AF (by rw [<-drop_cons hmx];exact qo.o);have Ji:=AF hbz;obtain ⟨mt,mf,mb,ma,Xe⟩:=m;clear hmx hbz qo;by_cases hin:1<=ma/\ma < fn/\1<=mb/\mb < gn
 case neg=>
  have HE:AI (R=false):=AF (by rw [<-HG1.o,To,Am (by rw [<-Lt.o,<-HGN.o];exact hin)])
  go_wp2_with fail
  all_goals first
   | (exfalso;omega)
   | (go_ret;exact mB)
 obtain ⟨h1,h2,h3,h4⟩:=hin;obtain ⟨pa,rfl⟩:∃n:Nat,ma=n:=⟨ma.toNat,by omega⟩;obtain ⟨pb,rfl⟩:∃n:Nat,mb=n:=⟨mb.toNat,by omega⟩;obtain ⟨ub,hub⟩:∃v,us[pa]? =some v:=⟨us[pa]'(by have:=ut.o;omega),BJ _⟩;obtain ⟨tb,htb⟩:∃v,ts[pb]? =some v:=⟨ts[pb]'(by have:=HTS.o;omega),BJ _⟩;have cu:wr.cell? ⟨gu,pa,none⟩=some (AX ub):=by rw [j8.o.cell];simp [hub]
 have ct':wr.cell? ⟨gs,pb,none⟩=some (AX tb):=by rw [RE.o.cell];simp [htb]
 have fu:=j8.o.frozen pa;have fs:=RE.o.frozen pb;have lu:=j8.o.lt;have ls:=RE.o.lt;have z1:decide (pa < 1)=false:=BO AG;have z2:decide (fn<=pa)=false:=BO AG;have z3:decide (pb < 1)=false:=BO AG;have z4:decide (gn<=pb)=false:=BO AG;have HG2:AI (R=if us[pa]? =some true then false else if ts[pb]? =some true then false else if dE x.fields y.fields ⟨mt,mf,pb,pa,Xe⟩ then To x.fields y.fields (us.set pa true) (ts.set pb true) (Xd.drop (k+1)) else false):=AF (by rw [<-HG1.o,To,Ah (by rw [<-Lt.o,<-HGN.o];exact fun h=>h ⟨h1,h2,h3,h4⟩)];simp only [CZ])
 clear HG1;cases ub with
 |
  true=>
  have HE:AI (R=false):=AF (by rw [HG2.o,Am hub]);go_wp2;go_ret;exact mB
 | false=>
 cases tb with
 |
  true=>
  have HE:AI (R=false):=AF (by rw [HG2.o,Ah (by rw [hub];simp),Am htb]);go_wp2;go_ret;exact mB
 | false=>
 have eM:AI (R=if dE x.fields y.fields ⟨mt,mf,pb,pa,Xe⟩ then To x.fields y.fields (us.set pa true) (ts.set pb true) (Xd.drop (k+1)) else false):=AF (by rw [HG2.o,Ah (by rw [hub];simp),Ah (by rw [htb];simp)])
 clear HG2;go_upto_region 12 with fail;clear z1 z2 z3 z4 cu ct' fu fs lu ls;obtain ⟨wm,hwm⟩:=Ab (wr.alloc (AQ #[AN mt,AN mf,AB AE pb,AB AE pa,AB AE Xe] 286));rw [<-hwm];have HBM:AI (AJ wb wm):=AF (by rw [hwm];exact DF.o.alloc DF.o.size _);have JE:AI (AZ wm wr.heap.size 286 #[AN mt,AN mf,AB AE pb,AB AE pa,AB AE Xe]):=AF (by rw [hwm];exact AZ.new _ _ _);have eK:AI (AZ wm gu 4 (us.map Value.bool).toArray):=AF (by rw [hwm];exact j8.o.alloc _);have LR:AI (AZ wm gs 4 (ts.map Value.bool).toArray):=AF (by rw [hwm];exact RE.o.alloc _);have cu:wm.cell? ⟨gu,pa,none⟩=some (AX false):=by rw [eK.o.cell];simp [hub]
 have ct':wm.cell? ⟨gs,pb,none⟩=some (AX false):=by rw [LR.o.cell];simp [htb]
 have fu:=eK.o.frozen pa;have fs:=LR.o.frozen pb;have lu:=eK.o.lt;have ls:=LR.o.lt;have HLU:AI (gu < wr.heap.size):=AF j8.o.lt;have jw:AI (gs < wr.heap.size):=AF RE.o.lt;have lM:=JE.o.lt;obtain ⟨m0,m1,m2,m3,m4⟩:=JE.o.five;have hne1:gu≠wr.heap.size:=by have:=HLU.o;omega
 have hne2:gs≠wr.heap.size:=by have:=jw.o;omega
 have o8:=HNE.o;clear hwm e0 e1 e2 e3 e4 hub htb;go_cut [69] from 69 to 133 (fun v69 wx=>v69=AB AE k/\AZ wx gu 4 ((us.set pa true).map Value.bool).toArray/\AZ wx gs 4 ((ts.set pb true).map Value.bool).toArray/\AZ wx wr.heap.size 286 #[AN mt,AN mf,AB AE pb,AB AE pa,AB AE Xe]/\AJ wb wx)
 case first=>
  go_region
  all_goals
   go_wp2
   go_meet
   first
    | exact ⟨rfl,Ke ((QO eK.o).far o8 _),Ke (QO (LR.o.far o8.symm _)),Ke ((JE.o.far hne1.symm _).far hne2.symm _),((HBM.o.setCell HGU.o _).setCell HGS.o _).drew⟩
    | exact ⟨rfl,Ke (QO (eK.o.far o8 _)),Ke ((QO LR.o).far o8.symm _),Ke ((JE.o.far hne2.symm _).far hne1.symm _),((HBM.o.setCell HGS.o _).setCell HGU.o _).drew⟩
 obtain ⟨rfl,hbu,hbs,hbm,hbx⟩:=hcut;obtain ⟨m0,m1,m2,m3,m4⟩:=hbm.five;have lM:=hbm.lt;obtain ⟨AIv,qx,Ob,ANG⟩:=CJ hbu hbs hbx hbm;have Ss:AI (AJ w wc):=AF (AW BV.o hbx);have bD:AI (AJ w0 wc):=AF (AW HB0.o Ss.o);clear hbu hbs hbm hbx cu ct' fu fs lu ls eK LR HBM JE HLU jw hne1 hne2 o8;obtain ⟨x1,xo,X,XB,xm,xd,hX,hxl,hX1,f0,f1,f2,f3,f4,f5,f6,f7,f8,f9,f10,GX⟩:=IV (HF.o.mono DJ bD.o) (k:=pa) AG;subst hX;obtain ⟨y1,yo,Y,YB,ym,yd,hY,hyl,hY1,p0,p1,p2,p3,p4,p5,p6,p7,p8,p9,p10,GY⟩:=IV (HG.o.mono DJ bD.o) (k:=pb) AG;subst hY;have hpa:(pa:Int) < (fn:Int):=AG
 have hpb:(pb:Int) < (gn:Int):=AG
 have AMq:(0:Int)<=(pa:Int):=AG
 have AMp:(0:Int)<=(pb:Int):=AG
 obtain ⟨fv,hfv⟩:=BH (fitsV X.type Y.type Xe xm ym);have HFV:AI (dE x.fields y.fields ⟨mt,mf,pb,pa,Xe⟩=fv):=AF (by rw [<-hfv,dE];simp only [CZ,hX1,hY1];rw [<-GX.1.len,<-GY.1.len])
 have HFI:AI (AS prog 170 #[AO #[AB AE X.type.kind,AB AE X.type.lo,AB AE X.type.hi,AN X.type.Av,AB AE X.type.unit,AA XB xm xd],AO #[AB AE Y.type.kind,AB AE Y.type.lo,AB AE Y.type.hi,AN Y.type.Av,AB AE Y.type.unit,AA YB ym yd],AB AE Xe] wc.drew fun e w'=>e=AV (AX fv)/\AJ wc w'):=AF (by have:=ABz X.type Y.type Xe XB YB xm xd ym yd wc.drew;rw [hfv] at this;exact this.mono fun _ _ h=>⟨h.1,(Af wc.heap.size wc).drew.trans h.2⟩)
 have HS:AI (∀W,AJ wc W->W.cell? ⟨wr.heap.size,2,none⟩=some (AB AE pb)/\W.cell? ⟨wr.heap.size,3,none⟩=some (AB AE pa)/\W.cell? ⟨wr.heap.size,4,none⟩=some (AB AE Xe)/\
  W.cell? ⟨x1,xo+pa*11+1,none⟩=some (AB AE X.type.kind)/\W.cell? ⟨x1,xo+pa*11+2,none⟩=some (AB AE X.type.lo)/\W.cell? ⟨x1,xo+pa*11+3,none⟩=some (AB AE X.type.hi)/\W.cell? ⟨x1,xo+pa*11+4,none⟩=some (AN X.type.Av)/\W.cell? ⟨x1,xo+pa*11+5,none⟩=some (AB AE X.type.unit)/\W.cell? ⟨x1,xo+pa*11+6,none⟩=some (AA XB xm xd)/\
  W.cell? ⟨y1,yo+pb*11+1,none⟩=some (AB AE Y.type.kind)/\W.cell? ⟨y1,yo+pb*11+2,none⟩=some (AB AE Y.type.lo)/\W.cell? ⟨y1,yo+pb*11+3,none⟩=some (AB AE Y.type.hi)/\W.cell? ⟨y1,yo+pb*11+4,none⟩=some (AN Y.type.Av)/\W.cell? ⟨y1,yo+pb*11+5,none⟩=some (AB AE Y.type.unit)/\W.cell? ⟨y1,yo+pb*11+6,none⟩=some (AA YB ym yd)):=AF (fun W hW=>
  ⟨(
   hW.cell (p:=⟨_,_,none⟩) lM).trans m2,(hW.cell (p:=⟨_,_,none⟩) lM).trans m3,(hW.cell (p:=⟨_,_,none⟩) lM).trans m4,
   (hW.cell (p:=⟨_,_,none⟩) hxl).trans f1,(hW.cell (p:=⟨_,_,none⟩) hxl).trans f2,(hW.cell (p:=⟨_,_,none⟩) hxl).trans f3,(hW.cell (p:=⟨_,_,none⟩) hxl).trans f4,(hW.cell (p:=⟨_,_,none⟩) hxl).trans f5,(hW.cell (p:=⟨_,_,none⟩) hxl).trans f6,
   (hW.cell (p:=⟨_,_,none⟩) hyl).trans p1,(hW.cell (p:=⟨_,_,none⟩) hyl).trans p2,(hW.cell (p:=⟨_,_,none⟩) hyl).trans p3,(hW.cell (p:=⟨_,_,none⟩) hyl).trans p4,(hW.cell (p:=⟨_,_,none⟩) hyl).trans p5,(hW.cell (p:=⟨_,_,none⟩) hyl).trans p6⟩)
 clear hfv hX1 hY1 f0 f1 f2 f3 f4 f5 f6 f7 f8 f9 f10 GX p0 p1 p2 p3 p4 p5 p6 p7 p8 p9 p10 GY m0 m1 m2 m3 m4;go_upto_region 13 with fail
 go_region_held3 (fun W=>W.cell? ⟨wr.heap.size,2,none⟩=some (AB AE pb)/\W.cell? ⟨wr.heap.size,3,none⟩=some (AB AE pa)/\W.cell? ⟨wr.heap.size,4,none⟩=some (AB AE Xe)/\
  W.cell? ⟨x1,xo+pa*11+1,none⟩=some (AB AE X.type.kind)/\W.cell? ⟨x1,xo+pa*11+2,none⟩=some (AB AE X.type.lo)/\W.cell? ⟨x1,xo+pa*11+3,none⟩=some (AB AE X.type.hi)/\W.cell? ⟨x1,xo+pa*11+4,none⟩=some (AN X.type.Av)/\W.cell? ⟨x1,xo+pa*11+5,none⟩=some (AB AE X.type.unit)/\W.cell? ⟨x1,xo+pa*11+6,none⟩=some (AA XB xm xd)/\
  W.cell? ⟨y1,yo+pb*11+1,none⟩=some (AB AE Y.type.kind)/\W.cell? ⟨y1,yo+pb*11+2,none⟩=some (AB AE Y.type.lo)/\W.cell? ⟨y1,yo+pb*11+3,none⟩=some (AB AE Y.type.hi)/\W.cell? ⟨y1,yo+pb*11+4,none⟩=some (AN Y.type.Av)/\W.cell? ⟨y1,yo+pb*11+5,none⟩=some (AB AE Y.type.unit)/\W.cell? ⟨y1,yo+pb*11+6,none⟩=some (AA YB ym yd))
  (first | with_reducible exact HS.o _ (Af _ _) | with_reducible exact HS.o _ (Af _ _).drew | with_reducible exact HS.o _ hb3)
  (first
   | (go_at_call 170;refine HFI.o.mono ?_;rintro e w3 ⟨rfl,hb3⟩))
 have HB3:=AF hb3;clear hb3 lM hxl hyl;cases fv with
 |
  false=>
  have HE:AI (R=false):=AF (by rw [eM.o,HFV.o];rfl);go_wp2;go_ret;exact ⟨A8 HE.o.symm,AW Ss.o HB3.o⟩
 |
  true=>
  go_wp2;go_roundg (mn - (k+1))
  case measure=>exact Bc
  case rel=>exact ⟨k+1,us.set pa true,ts.set pb true,by omega,rfl,by go_num,by simpa using ut.o,by simpa using HTS.o,by rw [eM.o,HFV.o];rfl,AIv.o.below HB3.o AIv.o.lt,qx.o.below HB3.o qx.o.lt,AW Ob.o HB3.o⟩
end Go.Proofs.YtpmpddfgifhlbaaGreatDoor
