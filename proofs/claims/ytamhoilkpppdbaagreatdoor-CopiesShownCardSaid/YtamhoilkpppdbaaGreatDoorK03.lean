import Derived.Test.YtamhoilkpppdbaaGreatDoorK02
import Derived.Maps.OwnIn
import Derived.WalkLawsBesides
namespace Go.Proofs.YtamhoilkpppdbaaGreatDoor
set_option maxHeartbeats 8000000
set_option maxRecDepth 100000
open Go renaming World→AH, Value→AN, Calls→AS, TypeId→Af, Addr→Aa
open Go.RowKit renaming Below→BI
open Go.Proofs.Tryz
variable (A1 A2 A3 A4 A5 A6:Option Aa) (n1 c1 n2 c2 n3 c3 n4 c4 n5 c5 n6 c6:Nat)
open Go.Value renaming slice→AB, int→AE, string→AL, pointer→AW, bool→Ab, agg→AP, tuple→BQ
open Go.IntKind renaming i64→AF
open Go.Ending renaming returned→AU
open Go.Obj renaming cells→AO
open Go.RowKit Go.Shelf
attribute [local go_sem] Oper.semAt_some
theorem kP (bg M n base0:Nat) (hs:List (Int×Nat)) (rs:List Ce) (w:AH) (hbg:AZ w bg 214 #[AE AF n,.map (some M)]) (hG:FU w base0 M hs (Ba rs)) (hin:∀h y,y∈Ba rs h->0<=y/\y < n) (hn:n<=1000):
 AS prog 181 #[AB none 0 0,.func (.func 182) #[] #[AW (some ⟨bg,0,none⟩)]] w fun e w'=>∃v,e=AU v/\w'.ownsRow w.heap.size 3 1 v (Cg rs n).length ((Cg rs n).map (Value.int .i64))/\AK w w':=by
 refine (Et (n:=8)).1 ?_;obtain ⟨i0,hi,hz0,hz1,hz2⟩:=Kh Vj;have HI:=AA hi;have HZ:=AA (And.intro hz0 (And.intro hz1 hz2));have dp:=AA hbg;have HG:=AA hG;have Qo:=AA hin;clear hi hz0 hz1 hz2 hbg hG hin;refine callsIn_of_wp_marks func181 rfl trivial ?_ rfl;simp only [ntmps181,RF,Gw,PU,Nat.reduceAdd,Nat.reduceSub,Ts,Tv,To,Tr,Jh,Ln];refine Dr.2 ?_;go_wp2_with fail;refine (Dr (n:=8)).1 ?_;have hlt:bg < w.heap.size:=dp.o.lt;have hsz:(w.alloc (AO #[AB none 0 0] 30)).heap.size=w.heap.size+1:=AX
 have hb0:AK w (w.alloc (AO #[AB none 0 0] 30)):=(Ae _ _).alloc (Ac _) _;refine Zu (F:=Fence.wide) (n₀:=w.heap.size) (B2:=w.heap.size) (N:=n) rfl AG (gf:=182) (lb:=#[AW (some ⟨bg,0,none⟩)]) rfl trivial (enters_of func182 AJ rfl)
  (qx 7 w.heap.size w.heap.size bg M n base0 hs rs _ (dp.o.alloc _) (HG.o.below hb0) Qo.o hn AX AX) (fun _=>rfl) AX AX
  (fun pre W=>(∃v,Boxed W w.heap.size 30 v/\W.ownsRow w.heap.size 3 1 v pre.length (pre.map (Value.int .i64)))/\AK w W)
  ?abides ?points ?start
  (fun x=>{tmps:=#[AB none 0 0,.func (.func 182) #[] #[AW (some ⟨bg,0,none⟩)],AW (some ⟨w.heap.size,0,none⟩),undef,AB none 0 0,AE AF x,.func (.func 182) #[] #[AW (some ⟨bg,0,none⟩)],AE AF x,undef,undef,undef,undef,undef],defers:=[]})
  ?assign ?body ?done
 case abides=>
  rintro s A C ⟨⟨v,hv,hr⟩,hB⟩ ho;rw [hsz] at ho;have hpt:Dx w.heap.size A=v.ownBlock:=Fz (t:=30) hv;have hBC:AK w C:=⟨ho.os.trans hB.os,ho.tape.trans hB.tape,ho.output.trans hB.output,BH hB.size ho.size,fun b hb=>(ho.block b (Au hb hB.size) (.inl AG)).trans (hB.block b hb)⟩;refine ⟨⟨v,(ho.block w.heap.size hv.lt (.inl AG)).trans hv,hr.1,?_⟩,hBC⟩;rcases hr.2 with h | ⟨g,cap,cur,hv2,hg,hh,rest⟩
  · exact .inl h
  · exact .inr ⟨g,cap,cur,hv2,hg,(ho.block g (C6.1 hh).1 (.inr (by rw [hpt,hv2];rfl))).trans hh,rest⟩
 case points=>rintro pre W ⟨⟨v,hv,hr⟩,hB⟩ b hb;rw [Fz (t:=30) hv] at hb;obtain ⟨cur,hc⟩:=mT hr hb;exact ⟨(hr.lt b hb).1,cur,_,_,hc⟩
 case start=>exact ⟨⟨AB none 0 0,Boxed.new _ _ _,Ev _ _ _ _⟩,hb0⟩
 case assign=>
  intro l x W K hK
  gi_wp2
  exact hK
 case body=>
  rintro l pre x W ⟨⟨v,hv,hr⟩,hB⟩ hlen;have hc:=hv.cell;have HV:=AA hv;have HR:=AA hr;have HB:=AA hB;have hBs:=hB.size;clear hv hr hB
  gi_wp2_with (gi_at_builtin;refine wpListIn_append_own_at _ rfl (.tmp 8) (.tmp 10) 30 rfl w.heap.size 3 i0 (AE AF 0) 1 8 underlying30 HI.o HZ.o.1 HZ.o.2.1 HZ.o.2.2 rfl Ah v pre.length _ rfl (HR.o.alloc _) ⟨W.heap.size,0,none⟩ 1 1 [AE AF x] rfl rfl (cell_one_new _ _ _) N9 FN AG BN ?_;intro v' w1 hown' hgrow _ hat;obtain ⟨g',cap',rfl⟩:=ownsRow_succ hown';have HA:=AA (HV.o.appended Ah HR.o hBs (Ac _) hown' hgrow);have hc1:=HA.o.1.cell;have hf1:=HA.o.1.frozen;have GU:=AA hgrow;have HAT:=AA hat;clear hown' hgrow hat)
  obtain ⟨ha1,ha2,ha3,ha4,OL⟩:=HA.o;have AFQ:Dx w.heap.size W=v.ownBlock:=Fz (t:=30) HV.o;have AFR:Dx w.heap.size (w1.setCell ⟨w.heap.size,0,none⟩ (AB (some ⟨g',0,none⟩) (pre.length+1) cap'))=some g':=Fz (t:=30) ha2;refine ⟨ha4,⟨OL.size,fun b hb hbl hbp=> ?_,?_,fun b hb=> ?_⟩,⟨_,ha2,ha3⟩,HB.o.trans OL⟩
  ·have hne:b≠w.heap.size:=by omega
   refine (D6 _ _ _ b hne).trans ((GU.o.block b BN (fun e=>hbp (by rw [AFQ,e]))).trans (Kk W _ b hbl))
  ·rw [AFR,AFQ]
   rcases HAT.o with e | e
   · exact .inl e
   · exact .inr ⟨g',rfl,by
    injection e with e;simp at e;omega⟩
  rw [AFR] at hb;injection hb with hb;subst hb;exact (ha3.lt g' rfl).2
 rintro D xs W hD rfl ⟨⟨v,hv,hr⟩,hB⟩ hK;have hc:=hv.cell;go_wp2_with fail;refine ⟨by simp,.inl ⟨_,_,rfl,run_takeDeferred hK,?_⟩⟩;exact ⟨_,results_tmp rfl _ _ _,v,rfl,ownsRow_putObj hr _ hK rfl,hB.trans (belowK_b (w:=w) (Ac _) W D _ _ (by simp at hD;omega) hK rfl rfl)⟩
theorem qh (bg M n base0:Nat) (hs:List (Int×Nat)) (rs:List Ce) (w:AH) (hbg:AZ w bg 214 #[AE AF n,.map (some M)]) (hG:FU w base0 M hs (Ba rs)) (hin:∀h y,y∈Ba rs h->0<=y/\y < n) (hn:n<=1000):
 AS prog 118 #[.func (.func 182) #[] #[AW (some ⟨bg,0,none⟩)]] w fun e w'=>∃v,e=AU v/\w'.ownsRow w.heap.size 3 1 v (Cg rs n).length ((Cg rs n).map (Value.int .i64))/\AK w w':=by
 go_enter func118,ntmps118;go_wp2_with (go_at_call 181;refine (kP bg M n base0 hs rs w hbg hG hin hn).mono ?_)
 first | rintro e w1 v rfl hv hb | rintro e w1 ⟨v,rfl,hv,hb⟩
 go_wp2_with fail;go_ret;exact ⟨v,rfl,hv,hb⟩
theorem qw (n:Nat) (m:AN) (w:AH):
 AS prog 119 #[AP #[AE AF n,m]] w fun e w'=>e=AU (.func (.func 182) #[] #[AW (some ⟨w.heap.size,0,none⟩)])/\w'=w.alloc (AO #[AE AF n,m] 214):=by
 have hmf:∀(fn:Fn) (first cap:Array AN) (w:AH),(Instr.makeFunc fn first cap).run prog w=.ok (.func fn first cap) w:=fun _ _ _ _=>rfl;go_enter func119,ntmps119;go_wp2_with fail;go_ret;exact ⟨rfl,rfl⟩
theorem ZV {y:Int}:∀(xs l:AQ),y∈xs.foldl FF l->y∈l\/y∈xs
 | [],_,h=>.inl h
 |
  x::xs,l,h=>by
  rcases ZV xs _ h with h | h
  ·unfold FF at h
   split at h
   · exact .inl h
   rcases Ll.1 h with h | h
   · exact .inl h
   simp only [Fg] at h;exact .inr (by rw [h];exact N7)
  · exact .inr (Mu _ h)
theorem me {n:Nat} {x y:Int}:∀{rs:List Ce},(∀r∈rs,∀f∈r.froms,0<=f.schema/\f.schema < n)->y∈Ba rs x->0<=y/\y < n:=by
 intro rs hr;have gen:∀(ps:List Ce) (l:AQ),(∀r∈ps,∀f∈r.froms,0<=f.schema/\f.schema < n)->(∀z∈l,0<=z/\z < n)->∀z∈ps.foldl (fun l r=>if r.schema=x then uy l r else l) l,0<=z/\z < n:=by
  intro ps
  induction ps with
  | nil=>intro l _ hl z hz;exact hl z hz
  |
   cons r ps ih=>
   intro l hp hl;simp only [YI];refine ih _ (fun r' hr'=>hp r' (Mu _ hr')) ?_;split
   ·intro z hz
    rcases ZV _ _ hz with hz | hz
    · exact hl z hz
    obtain ⟨f,hf,rfl⟩:=Dd.1 hz;exact hp r N7 f hf
   · exact hl
 exact gen rs [] hr (fun z hz=>by simp at hz) y
theorem XF (rs:List Ce) (w:AH) (h4:Ag 5 CF w (AB A4 n4 c4) rs) (hn3:n3<=1000) (hnum:∀r∈rs,(0<=r.schema/\r.schema < n3)/\∀f∈r.froms,0<=f.schema/\f.schema < n3):
 AS prog 79 #[(AP #[AB A1 n1 c1,AB A2 n2 c2,AB A3 n3 c3,AB A4 n4 c4,AB A5 n5 c5,AB A6 n6 c6])] w fun e w'=>∃v ok,e=AU (BQ #[v,Ab ok,AE AF 0])/\ok=decide (n3<=(Cg rs n3).length)/\w'.ownsRow w.heap.size 3 1 v (if ok then Cg rs n3 else []).length ((if ok then Cg rs n3 else []).map (Value.int .i64))/\AK w w':=by
 have H4:=AA h4;have P7:=AA hnum;clear h4 hnum;have hb0:AK w (w.alloc (AO #[AB A1 n1 c1,AB A2 n2 c2,AB A3 n3 c3,AB A4 n4 c4,AB A5 n5 c5,AB A6 n6 c6] 29)):=(BE _ _);have HB0:=AA hb0;clear hb0;go_enter func79,ntmps79;go_wp2_with (go_at_call 117;refine (ABK A1 A2 A3 A4 A5 A6 n1 c1 n2 c2 n3 c3 n4 c4 n5 c5 n6 c6 rs _ (H4.o.mono Be HB0.o) P7.o).mono ?_)
 first | rintro e w1 M hs rfl hG hb1 | rintro e w1 ⟨M,hs,rfl,hG,hb1⟩
 have HG:=AA hG;have HB1:AI (AK w w1):=AA (AV HB0.o hb1);clear hG hb1;have hba:AK w1 (w1.alloc (AO #[AE AF n3,.map (some M)] 214)):=(Ae _ _).alloc (Ac _) _;have Qq:=AA hba;clear hba;go_wp2_with (first
  | (go_at_call 119;refine (qw n3 (.map (some M)) _).mono ?_;rintro e w2 ⟨rfl,rfl⟩)
  | (go_at_call 118;refine (qh (w1.heap.size+1) M n3 _ hs rs _ (by have:=AZ.new (w1.alloc (AO #[AE AF n3,.map (some M)] 214)) 214 #[AE AF n3,.map (some M)];simpa using this) ((HG.o.below Qq.o).below (BE _ _)) (fun h y hy=>me (fun r hr=>(P7.o r hr).2) hy) hn3).mono ?_))
 first | rintro e w2 v rfl hv hb2 | rintro e w2 ⟨v,rfl,hv,hb2⟩
 have hbx:AK w1 w2:=(Qq.o.alloc Qq.o.size (AO #[AE AF n3,.map (some M)] 214)).trans (hb2.mono BN);have kb:=(((AZ.new w1 214 #[AE AF n3,.map (some M)]).alloc (AO #[AE AF n3,.map (some M)] 214)).below hb2 BN);have c0:=kb.cell 0;have l0:=kb.lt;simp only [Ak,Al] at c0;have HV:=AA hv;obtain ⟨A,c,rfl⟩:=(M6 hv).form;have pX:AI (AK w w2):=AA (AV HB1.o hbx);clear hv kb hb2 hbx;by_cases hlt:(Cg rs n3).length < n3
 ·have hlt2:((Cg rs n3).length:Int) < (n3:Int):=by omega
  go_wp2_with fail;go_ret3;exact ⟨_,false,rfl,by rw [Bc AG],Ev _ _ _ _,pX.o⟩
 have hlt2:(n3:Int)<=((Cg rs n3).length:Int):=AG
 go_wp2_with fail;go_ret3;exact ⟨_,true,rfl,by rw [BR AG],Joins.ownsRow_le HV.o eS,pX.o⟩
theorem VY {us:List Bt} {ss:List BL} {r:Ce} (h:Iw us ss r=true):(0<=r.schema/\r.schema < ss.length)/\∀f∈r.froms,0<=f.schema/\f.schema < ss.length:=by
 simp only [Iw,Bj,B8,Option.any_eq_true] at h;obtain ⟨⟨⟨⟨⟨⟨h1,h2⟩,h3⟩,h4⟩,hd,h5,h6⟩,h7⟩,h8⟩:=h;refine ⟨⟨h4,?_⟩,?_⟩
 ·have:=(BD.1 h5).1
  omega
 intro f hf;simp only [Hw,Bj,B8,De] at h1;obtain ⟨i,hi,rfl⟩:=List.mem_iff_getElem.1 hf;have:=h1.2 i (Ed.2 hi);rw [BJ hi] at this;simp only [Option.any_some,MX,Bj,B8] at this;exact this.1
theorem TQ {s:BB} (h:E9 s=0):FC s=true/\s.units.all (MJ s.units)=true/\s.Ap.all (Dn s.Bg.length s.units.length)=true/\s.rules.all (Iw s.units s.Ap)=true/\s.purposes.all (FY s.Ap)=true:=by
 unfold E9 at h;split at h
 · cases h
 next h1=>
 split at h
 ·next h2=>simp only [Bj] at h2;exact ⟨by simpa using h1,h2.1.1.1,h2.1.1.2,h2.1.2,h2.2⟩
 · cases h
theorem Ol {s:BB} (h:FC s=true):s.Ap.length<=16:=by simp only [FC,Bj,B8] at h;omega
def tJ (s:BB):Bool:=decide (s.Ap.length<=(Cg s.rules s.Ap.length).length)
def J8 (s:BB):Int:=if E9 s=0 then (if tJ s then 0 else 141) else E9 s
theorem jo (s:BB) (w:AH) (h1:Ag 1 DQ w (AB A1 n1 c1) s.Bg) (h2:Ag 5 CD w (AB A2 n2 c2) s.units) (h3:Ag 6 BU w (AB A3 n3 c3) s.Ap) (h4:Ag 5 CF w (AB A4 n4 c4) s.rules) (h5:n5=s.converts.length) (h6:Ag 3 BW w (AB A6 n6 c6) s.purposes)
 (hr:s.Ap.all (Dn s.Bg.length s.units.length)=true->∀(W:AH) (g:Nat),AK w W->AZ W g 137 #[AB A1 n1 c1,AB A2 n2 c2,AB A3 n3 c3,AB A4 n4 c4,AB A5 n5 c5,AB A6 n6 c6]->Says 104 #[] #[AW (some ⟨g,0,none⟩)] CF (Iw s.units s.Ap) s.rules W)
 (hp:∀(W:AH),AK w W->Says 112 #[(AP #[AB A1 n1 c1,AB A2 n2 c2,AB A3 n3 c3,AB A4 n4 c4,AB A5 n5 c5,AB A6 n6 c6])] #[] BW (FY s.Ap) s.purposes W):
 AS prog 114 #[(AP #[AB A1 n1 c1,AB A2 n2 c2,AB A3 n3 c3,AB A4 n4 c4,AB A5 n5 c5,AB A6 n6 c6])] w fun e w'=>e=AU (AE AF (J8 s))/\AK w w':=by
 have hb0:AK w (w.alloc (AO #[AB A1 n1 c1,AB A2 n2 c2,AB A3 n3 c3,AB A4 n4 c4,AB A5 n5 c5,AB A6 n6 c6] 29)):=(BE _ _);obtain ⟨t,ht⟩:=BP (E9 s);have HC:AI (AS prog 75 #[(AP #[AB A1 n1 c1,AB A2 n2 c2,AB A3 n3 c3,AB A4 n4 c4,AB A5 n5 c5,AB A6 n6 c6])] (w.alloc (AO #[AB A1 n1 c1,AB A2 n2 c2,AB A3 n3 c3,AB A4 n4 c4,AB A5 n5 c5,AB A6 n6 c6] 29)) fun e w'=>e=AU (AE AF t)/\BI (w.alloc (AO #[AB A1 n1 c1,AB A2 n2 c2,AB A3 n3 c3,AB A4 n4 c4,AB A5 n5 c5,AB A6 n6 c6] 29)).heap.size (w.alloc (AO #[AB A1 n1 c1,AB A2 n2 c2,AB A3 n3 c3,AB A4 n4 c4,AB A5 n5 c5,AB A6 n6 c6] 29)) w'):=AA (by rw [<-ht];exact V6 A1 A2 A3 A4 A5 A6 n1 c1 n2 c2 n3 c3 n4 c4 n5 c5 n6 c6 s _ (h1.mono BV hb0) (h2.mono Bp hb0) (h3.mono BM hb0) (h4.mono Be hb0) h5 (h6.mono BO hb0) (fun h W g hW=>hr h W g (AV hb0 hW)) (fun W hW=>hp W (AV hb0 hW)))
 have HT:=AA ht;have HB0:=AA hb0;have Kz:=AA h3.len;have H4:=AA h4;clear ht hb0 h1 h2 h3 h4 h5 h6 hr hp;go_enter func114,ntmps114;go_wp2_with (go_at_call 75;refine HC.o.mono ?_)
 first | rintro e w1 rfl hb1 | rintro e w1 ⟨rfl,hb1⟩
 have HB1:AI (AK w w1):=AA (AV HB0.o hb1);have kb:=(AZ.new w 29 #[AB A1 n1 c1,AB A2 n2 c2,AB A3 n3 c3,AB A4 n4 c4,AB A5 n5 c5,AB A6 n6 c6]).below hb1 AX;have q0:=kb.cell 0;have q1:=kb.cell 1;have q2:=kb.cell 2;have q3:=kb.cell 3;have q4:=kb.cell 4;have q5:=kb.cell 5;have lq:=kb.lt;simp only [Ak,Al,Az] at q0 q1 q2 q3 q4 q5;clear hb1 kb HC;by_cases ht0:t=0
 ·subst ht0
  have P7:AI (n3<=1000/\∀r∈s.rules,(0<=r.schema/\r.schema < n3)/\∀f∈r.froms,0<=f.schema/\f.schema < n3):=AA (by obtain ⟨h1,h2,h3,h4,h5⟩:=TQ HT.o;refine ⟨by have:=Ol h1;have:=Kz.o;omega,fun r hr=> ?_⟩;rw [Kz.o];exact VY (De.1 h4 r hr))
  go_wp2_with (go_at_call 79;refine (XF A1 A2 A3 A4 A5 A6 n1 c1 n2 c2 n3 c3 n4 c4 n5 c5 n6 c6 s.rules w1 (H4.o.mono Be HB1.o) P7.o.1 P7.o.2).mono ?_)
  first | rintro e w2 v ok rfl hok hv hb2 | rintro e w2 ⟨v,ok,rfl,hok,hv,hb2⟩
  have I3:=AA hok;have HB2:AI (AK w w2):=AA (AV HB1.o hb2);clear hok hv hb2;cases ok with
  |
   true=>
   go_wp2_with fail;go_ret;exact ⟨Cz r9,HB2.o⟩
  |
   false=>
   go_wp2_with fail;go_ret;exact ⟨Cz r9,HB2.o⟩
 have htn:(t !=0)=true:=by simpa using ht0
 go_wp2_with fail;go_ret;exact ⟨Cz (by rw [J8,HT.o,Ai ht0]),HB1.o⟩
theorem WK (A B:Option Aa) (n c m d:Nat) (l r:List Bt) (w:AH) (hl:Ag 5 CD w (AB A n c) l) (hr:Ag 5 CD w (AB B m d) r):
 AS prog 121 #[AB A n c,AB B m d] w fun e w'=>e=AU (Ab (A8 l r))/\AK w w':=by
 have hn2:n<=9223372036854775807:=by have:=hl.le;omega
 have hln:=hl.len;have hrn:=hr.len;have HL:=AA hl;have HR:=AA hr;clear hl hr;by_cases e:n=m
 ·subst e
  have el:l.length=r.length:=AG
  have HN:=AA hln;have HE:=AA el;clear hln hrn el;obtain ⟨v,hv⟩:=BP (A8 l r);rw [hv];have HV:AI (A8 (l.drop 0) (r.drop 0)=v):=AA hv;clear hv;go_enter func121,ntmps121;go_wp2_with fail;go_loopg [13] n (fun q i wr=>∃k:Nat,k<=n/\q=n - k/\i=AE AF k/\A8 (l.drop k) (r.drop k)=v/\AK w wr)
  case atStart=>exact Jz
  obtain ⟨k,hk,hq,rfl,hv,hb⟩:=hrel;have HQ:=AA hq;have HB:=AA hb;have Dw:=AA hv;clear hq hb hv HV;by_cases hlt:k < n
  ·obtain ⟨a,ao,x,rfl,hal,hx,e0,e1,e2,e3,e4⟩:=Nn (HL.o.mono Bp HB.o) hlt
   obtain ⟨b,bo,y,rfl,hbl,hy,d0,d1,d2,d3,d4⟩:=Nn (HR.o.mono Bp HB.o) hlt;have HX:=AA hx;have HY:=AA hy;have hkn:(k:Int) < (n:Int):=AG
   have hk0:=Int.natCast_nonneg k
   clear hx hy;have hne:=AEM x y;by_cases exy:x=y
   ·have hd:decide (x=y)=true:=BR exy
    simp only [hd,Qz] at hne;clear hd;have VB:=AA exy;clear exy;go_wp2_with fail;go_quiet (fail);go_wp2_with fail;go_roundg (n - (k+1))
    case measure=>exact BS
    case rel=>exact UC
   exact YF
  exact L7
 have el:¬l.length=r.length:=AG
 rw [FX el];go_enter func121,ntmps121;exact Jy
theorem WM (A B:Option Aa) (n c m d:Nat) (l r:List B0) (w:AH) (hl:Ag 8 DH w (AB A n c) l) (hr:Ag 8 DH w (AB B m d) r):
 AS prog 191 #[AB A n c,AB B m d] w fun e w'=>e=AU (Ab (A8 l r))/\AK w w':=by
 have hn2:n<=9223372036854775807:=by have:=hl.le;omega
 have hln:=hl.len;have hrn:=hr.len;have HL:=AA hl;have HR:=AA hr;clear hl hr;by_cases e:n=m
 ·subst e
  have el:l.length=r.length:=AG
  have HN:=AA hln;have HE:=AA el;clear hln hrn el;obtain ⟨v,hv⟩:=BP (A8 l r);rw [hv];have HV:AI (A8 (l.drop 0) (r.drop 0)=v):=AA hv;clear hv;go_enter func191,ntmps191;go_wp2_with fail;go_loopg [13] n (fun q i wr=>∃k:Nat,k<=n/\q=n - k/\i=AE AF k/\A8 (l.drop k) (r.drop k)=v/\AK w wr)
  case atStart=>exact Jz
  obtain ⟨k,hk,hq,rfl,hv,hb⟩:=hrel;have HQ:=AA hq;have HB:=AA hb;have Dw:=AA hv;clear hq hb hv HV;by_cases hlt:k < n
  ·obtain ⟨a,ao,x,rfl,hal,hx,e0,e1,e2,e3,e4,e5,e6,e7⟩:=Np (HL.o.mono Dp HB.o) hlt
   obtain ⟨b,bo,y,rfl,hbl,hy,d0,d1,d2,d3,d4,d5,d6,d7⟩:=Np (HR.o.mono Dp HB.o) hlt;have HX:=AA hx;have HY:=AA hy;have hkn:(k:Int) < (n:Int):=AG
   have hk0:=Int.natCast_nonneg k
   clear hx hy;have hne:=AEO x y;by_cases exy:x=y
   ·have hd:decide (x=y)=true:=BR exy
    simp only [hd,Qz] at hne;clear hd;have VB:=AA exy;clear exy;go_wp2_with fail;go_quiet (fail);go_wp2_with fail;go_roundg (n - (k+1))
    case measure=>exact BS
    case rel=>exact UC
   exact YF
  exact L7
 have el:¬l.length=r.length:=AG
 rw [FX el];go_enter func191,ntmps191;exact Jy
theorem WN (A B:Option Aa) (n c m d:Nat) (l r:List IL) (w:AH) (hl:Ag 11 EH w (AB A n c) l) (hr:Ag 11 EH w (AB B m d) r):
 AS prog 192 #[AB A n c,AB B m d] w fun e w'=>e=AU (Ab (A8 l r))/\AK w w':=by
 have hn2:n<=9223372036854775807:=by have:=hl.le;omega
 have hln:=hl.len;have hrn:=hr.len;have HL:=AA hl;have HR:=AA hr;clear hl hr;by_cases e:n=m
 ·subst e
  have el:l.length=r.length:=AG
  have HN:=AA hln;have HE:=AA el;clear hln hrn el;obtain ⟨v,hv⟩:=BP (A8 l r);rw [hv];have HV:AI (A8 (l.drop 0) (r.drop 0)=v):=AA hv;clear hv;go_enter func192,ntmps192;go_wp2_with fail;go_loopg [13] n (fun q i wr=>∃k:Nat,k<=n/\q=n - k/\i=AE AF k/\A8 (l.drop k) (r.drop k)=v/\AK w wr)
  case atStart=>exact Jz
  obtain ⟨k,hk,hq,rfl,hv,hb⟩:=hrel;have HQ:=AA hq;have HB:=AA hb;have Dw:=AA hv;clear hq hb hv HV;by_cases hlt:k < n
  ·obtain ⟨a,ao,x,rfl,hal,hx,e0,e1,e2,e3,e4,e5,e6,e7,e8,e9,e10⟩:=Z8 (HL.o.mono FG HB.o) hlt
   obtain ⟨b,bo,y,rfl,hbl,hy,d0,d1,d2,d3,d4,d5,d6,d7,d8,d9,d10⟩:=Z8 (HR.o.mono FG HB.o) hlt;have HX:=AA hx;have HY:=AA hy;have hkn:(k:Int) < (n:Int):=AG
   have hk0:=Int.natCast_nonneg k
   clear hx hy;have hne:=AEP x y;by_cases exy:x=y
   ·have hd:decide (x=y)=true:=BR exy
    simp only [hd,Qz] at hne;clear hd;have VB:=AA exy;clear exy;go_wp2_with fail;go_quiet (fail);go_wp2_with fail;go_roundg (n - (k+1))
    case measure=>exact BS
    case rel=>exact UC
   exact YF
  exact L7
 have el:¬l.length=r.length:=AG
 rw [FX el];go_enter func192,ntmps192;exact Jy
theorem Xf (A B:Option Aa) (n c m d:Nat) (l r:List L0) (w:AH) (hl:Ag 7 GZ w (AB A n c) l) (hr:Ag 7 GZ w (AB B m d) r):
 AS prog 193 #[AB A n c,AB B m d] w fun e w'=>e=AU (Ab (A8 l r))/\AK w w':=by
 have hn2:n<=9223372036854775807:=by have:=hl.le;omega
 have hln:=hl.len;have hrn:=hr.len;have HL:=AA hl;have HR:=AA hr;clear hl hr;by_cases e:n=m
 ·subst e
  have el:l.length=r.length:=AG
  have HN:=AA hln;have HE:=AA el;clear hln hrn el;obtain ⟨v,hv⟩:=BP (A8 l r);rw [hv];have HV:AI (A8 (l.drop 0) (r.drop 0)=v):=AA hv;clear hv;go_enter func193,ntmps193;go_wp2_with fail;go_loopg [13] n (fun q i wr=>∃k:Nat,k<=n/\q=n - k/\i=AE AF k/\A8 (l.drop k) (r.drop k)=v/\AK w wr)
  case atStart=>exact Jz
  obtain ⟨k,hk,hq,rfl,hv,hb⟩:=hrel;have HQ:=AA hq;have HB:=AA hb;have Dw:=AA hv;clear hq hb hv HV;by_cases hlt:k < n
  ·obtain ⟨a,ao,x,rfl,hal,hx,e0,e1,e2,e3,e4,e5,e6⟩:=fT (HL.o.mono Fw HB.o) hlt
   obtain ⟨b,bo,y,rfl,hbl,hy,d0,d1,d2,d3,d4,d5,d6⟩:=fT (HR.o.mono Fw HB.o) hlt;have HX:=AA hx;have HY:=AA hy;have hkn:(k:Int) < (n:Int):=AG
   have hk0:=Int.natCast_nonneg k
   clear hx hy;have hne:=AE3 x y;by_cases exy:x=y
   ·have hd:decide (x=y)=true:=BR exy
    simp only [hd,Qz] at hne;clear hd;have VB:=AA exy;clear exy;go_wp2_with fail;go_quiet (fail);go_wp2_with fail;go_roundg (n - (k+1))
    case measure=>exact BS
    case rel=>exact UC
   exact YF
  exact L7
 have el:¬l.length=r.length:=AG
 rw [FX el];go_enter func193,ntmps193;exact Jy
theorem WL (A B:Option Aa) (n c m d:Nat) (l r:List Kf) (w:AH) (hl:Ag 5 GF w (AB A n c) l) (hr:Ag 5 GF w (AB B m d) r):
 AS prog 194 #[AB A n c,AB B m d] w fun e w'=>e=AU (Ab (A8 l r))/\AK w w':=by
 have hn2:n<=9223372036854775807:=by have:=hl.le;omega
 have hln:=hl.len;have hrn:=hr.len;have HL:=AA hl;have HR:=AA hr;clear hl hr;by_cases e:n=m
 ·subst e
  have el:l.length=r.length:=AG
  have HN:=AA hln;have HE:=AA el;clear hln hrn el;obtain ⟨v,hv⟩:=BP (A8 l r);rw [hv];have HV:AI (A8 (l.drop 0) (r.drop 0)=v):=AA hv;clear hv;go_enter func194,ntmps194;go_wp2_with fail;go_loopg [13] n (fun q i wr=>∃k:Nat,k<=n/\q=n - k/\i=AE AF k/\A8 (l.drop k) (r.drop k)=v/\AK w wr)
  case atStart=>exact Jz
  obtain ⟨k,hk,hq,rfl,hv,hb⟩:=hrel;have HQ:=AA hq;have HB:=AA hb;have Dw:=AA hv;clear hq hb hv HV;by_cases hlt:k < n
  ·obtain ⟨a,ao,x,rfl,hal,hx,e0,e1,e2,e3,e4⟩:=Z7 (HL.o.mono Fq HB.o) hlt
   obtain ⟨b,bo,y,rfl,hbl,hy,d0,d1,d2,d3,d4⟩:=Z7 (HR.o.mono Fq HB.o) hlt;have HX:=AA hx;have HY:=AA hy;have hkn:(k:Int) < (n:Int):=AG
   have hk0:=Int.natCast_nonneg k
   clear hx hy;have hne:=AEN x y;by_cases exy:x=y
   ·have hd:decide (x=y)=true:=BR exy
    simp only [hd,Qz] at hne;clear hd;have VB:=AA exy;clear exy;go_wp2_with fail;go_quiet (fail);go_wp2_with fail;go_roundg (n - (k+1))
    case measure=>exact BS
    case rel=>exact UC
   exact YF
  exact L7
 have el:¬l.length=r.length:=AG
 rw [FX el];go_enter func194,ntmps194;exact Jy
theorem Xg (A B:Option Aa) (n c m d:Nat) (l r:List L1) (w:AH) (hl:Ag 4 IH w (AB A n c) l) (hr:Ag 4 IH w (AB B m d) r):
 AS prog 195 #[AB A n c,AB B m d] w fun e w'=>e=AU (Ab (A8 l r))/\AK w w':=by
 have hn2:n<=9223372036854775807:=by have:=hl.le;omega
 have hln:=hl.len;have hrn:=hr.len;have HL:=AA hl;have HR:=AA hr;clear hl hr;by_cases e:n=m
 ·subst e
  have el:l.length=r.length:=AG
  have HN:=AA hln;have HE:=AA el;clear hln hrn el;obtain ⟨v,hv⟩:=BP (A8 l r);rw [hv];have HV:AI (A8 (l.drop 0) (r.drop 0)=v):=AA hv;clear hv;go_enter func195,ntmps195;go_wp2_with fail;go_loopg [13] n (fun q i wr=>∃k:Nat,k<=n/\q=n - k/\i=AE AF k/\A8 (l.drop k) (r.drop k)=v/\AK w wr)
  case atStart=>exact Jz
  obtain ⟨k,hk,hq,rfl,hv,hb⟩:=hrel;have HQ:=AA hq;have HB:=AA hb;have Dw:=AA hv;clear hq hb hv HV;by_cases hlt:k < n
  ·obtain ⟨a,ao,x,rfl,hal,hx,e0,e1,e2,e3⟩:=fU (HL.o.mono IG HB.o) hlt
   obtain ⟨b,bo,y,rfl,hbl,hy,d0,d1,d2,d3⟩:=fU (HR.o.mono IG HB.o) hlt;have HX:=AA hx;have HY:=AA hy;have hkn:(k:Int) < (n:Int):=AG
   have hk0:=Int.natCast_nonneg k
   clear hx hy;have hne:=AE4 x y;by_cases exy:x=y
   ·have hd:decide (x=y)=true:=BR exy
    simp only [hd,Qz] at hne;clear hd;have VB:=AA exy;clear exy;go_wp2_with fail;go_quiet (fail);go_wp2_with fail;go_roundg (n - (k+1))
    case measure=>exact BS
    case rel=>exact UC
   exact YF
  exact L7
 have el:¬l.length=r.length:=AG
 rw [FX el];go_enter func195,ntmps195;exact Jy
theorem ae (A:Option Aa) (n c:Nat) (l:AQ) (w:AH) (hs:Ag 1 iR w (AB A n c) l):
 AS prog 169 #[AB A n c] w fun e w'=>e=AU (Ab (Dk [] l))/\AK w w':=by
 have hn2:n<=9223372036854775807:=by have:=hs.le;omega
 have HN:=AA hs.len;have HS:=AA hs;clear hs;have hmm:∀(n:Int) (w:AH),(Instr.makeMap 209 (some (AE AF n))).run prog w=.ok (.map (some w.heap.size)) (w.alloc (.map #[] 0)):=by intro n w;simp [Instr.makeMap,run_underlying underlying209,asInt,asIntOf]
 obtain ⟨v,hv⟩:=BP (Dk [] l);rw [hv];have HV:AI (Dk (l.take 0) (l.drop 0)=v):=AA hv;clear hv;go_enter func169,ntmps169;go_wp2_with fail;clear hmm;have hm0:MapAt (Value.int .i64) Value.bool (w.alloc (.map #[] 0)) w.heap.size (Ep (l.take 0)):=MapAt.new _ _ w;have hb0:AK w (w.alloc (.map #[] 0)):=(Ae _ _).alloc (Ac _) _;have MC:=AA hm0;have HB0:=AA hb0;clear hm0 hb0;go_loopg [11] n (fun g i wr=>∃k:Nat,k<=n/\g=n - k/\i=AE AF k/\Dk (l.take k) (l.drop k)=v/\MapAt (Value.int .i64) Value.bool wr w.heap.size (Ep (l.take k))/\AK w wr)
 case atStart=>exact sP
 clear MC HB0 HV;obtain ⟨k,hk,hg,rfl,hv,hm,hb⟩:=hrel;have HG:=AA hg;have HB:=AA hb;by_cases hlt:k < n
 ·obtain ⟨b,off,x,rfl,hbl,hx,hc⟩:=vD (HS.o.mono Ht HB.o) hlt
  rw [drop_cons hx,Dk] at hv;have hlook:=C8 (GI underlying3) underlying209 (z:=Ab false) AJ hm x false;rw [Xa] at hlook;by_cases hmem:x∈l.take k
  ·rw [Ao hmem] at hv hlook
   subst hv;simp only [Cl,Cc,Gu,F5] at hlook;clear hx hg hb hm hmem;exact P8
  rw [Ai hmem] at hv hlook;simp only [JJ,Jj,Gu,F5] at hlook;obtain ⟨w3,hrun3,Dm,hg3⟩:=FB (GI underlying3) underlying209 hm x true;rw [Sf _ _ hmem,<-take_snoc hx] at Dm;rw [<-take_snoc hx] at hv;have HB3:=AA (HB.o.grown hg3 HB.o.size (fun r e=>by cases e;exact Ac _));have G9:=AA Dm;have HV3:=AA hv;clear Dm hg3 hv hx hg hb hm hmem;go_wp2_with fail;go_roundg (n - (k+1))
  case measure=>exact EF
  case rel=>exact lE
 rw [Ex Gx] at hv;subst hv;clear hm hb;exact P8
def zT:Fa:=⟨0,0,0,⟨#[]⟩,0,[]⟩
def OT (o:Option Fa) (w0 w:AH) (e:Ending) (w':AH):Prop:=
 (∃B m d,e=AU (BQ #[AP #[AE AF (o.getD zT).kind,AE AF (o.getD zT).lo,AE AF (o.getD zT).hi,AL (o.getD zT).An,AE AF (o.getD zT).unit,AB B m d],Ab o.isSome])/\BT 1 16 DQ w0 (AB B m d) (o.getD zT).names)/\AK w w'
theorem Qr (s f:Int) (ss:List BL) (w0 w:AH) (hb0:AK w0 w) (h3:Ag 6 BU w0 (AB A3 n3 c3) ss):
 AS prog 65 #[(AP #[AB A1 n1 c1,AB A2 n2 c2,AB A3 n3 c3,AB A4 n4 c4,AB A5 n5 c5,AB A6 n6 c6]),AE AF s,AE AF f] w (OT (typeAt ss s f) w0 w):=by
 have hn3:n3<=9223372036854775807:=by have:=h3.le;omega
 have IB:=AA h3.len;have H3:=AA h3;have HB0:=AA hb0;clear h3 hb0;by_cases hin:0<=s/\s < n3
 case neg=>
  have HT:AI (typeAt ss s f=none):=AA (by
   unfold typeAt;split
   · rfl
   have:ss[s.toNat]? =none:=DT Yj;rw [this];rfl)
  rw [HT.o];go_enter func65,ntmps65;go_wp2_with fail
  all_goals first
   | (exfalso;omega)
   | exact Eu (v:=BQ #[AP #[AE AF 0,AE AF 0,AE AF 0,AL ⟨#[]⟩,AE AF 0,AB none 0 0],Ab false]) eo rfl ⟨⟨_,_,_,rfl,Ag.nil _ _ (Av _),by simp [zT]⟩,(BE _ _).alloc AX _⟩
 obtain ⟨k,rfl⟩:∃k:Nat,s=k:=⟨s.toNat,by omega⟩;obtain ⟨b,off,x,B1,m1,d1,B2,m2,d2,hA3,hbl,hx,e0,e1,e2,e3,e4,e5,G1,G2⟩:=Fx H3.o (k:=k) AG;subst hA3;have hk0:=Int.natCast_nonneg k
 have hk1:(k:Int) < (n3:Int):=AG
 have hm1:m1<=9223372036854775807:=by have:=G1.1.le;omega
 have Mj:=AA G1.1.len;rw [<-HB0.o.cell (p:=⟨b,_,none⟩) hbl] at e4;have AFs:b < w.heap.size:=Au hbl HB0.o.size;have HX:AI (typeAt ss k f=if f < 0 then none else (x.fields[f.toNat]?).map fun y=>y.type):=AA (by
  unfold typeAt;by_cases hf:f < 0
  · rw [Ao (.inr hf),Ao hf]
  · rw [Ai AG,Ai hf,Cm,hx];rfl)
 have HG1:=AA G1;clear hx G1 G2 e0 e1 e2 e3 e5 hin;by_cases hfi:0<=f/\f < m1
 case neg=>
  have HT:AI (typeAt ss k f=none):=AA (by
   rw [HX.o];split
   · rfl
   have:x.fields[f.toNat]? =none:=DT (by have:=Mj.o;omega);rw [this];rfl)
  rw [HT.o];go_enter func65,ntmps65;go_wp2_with fail
  all_goals first
   | (exfalso;omega)
   | exact Eu (v:=BQ #[AP #[AE AF 0,AE AF 0,AE AF 0,AL ⟨#[]⟩,AE AF 0,AB none 0 0],Ab false]) eo rfl ⟨⟨_,_,_,rfl,Ag.nil _ _ (Av _),by simp [zT]⟩,(BE _ _).alloc AX _⟩
 obtain ⟨j,rfl⟩:∃j:Nat,f=j:=⟨f.toNat,by omega⟩;obtain ⟨b',off',y,C,mc,dc,hB1,gF,hy,f0,f1,f2,f3,f4,f5,f6,f7,f8,f9,f10,G3⟩:=IQ HG1.o.1 (k:=j) AG;subst hB1;have hj0:(0:Int)<=(j:Int):=AG
 have hj1:(j:Int) < (m1:Int):=AG
 have HT:AI (typeAt ss k j=some y.type):=AA (by rw [HX.o,Ai AG,Cm,hy];rfl)
 rw [HT.o];have Zs:=AA G3;rw [<-HB0.o.cell (p:=⟨b',_,none⟩) gF] at f1 f2 f3 f4 f5 f6;have AI3:b' < w.heap.size:=Au gF HB0.o.size;clear hy G3 f0 f7 f8 f9 f10 hfi;have HB:AI (∀o1 o2,AK w ((w.alloc o1).alloc o2)):=AA fun o1 o2=>((BE _ _).alloc AX _);go_enter func65,ntmps65;go_wp2_with fail;exact Eu (v:=BQ #[AP #[AE AF y.type.kind,AE AF y.type.lo,AE AF y.type.hi,AL y.type.An,AE AF y.type.unit,AB C mc dc],Ab true]) eo rfl ⟨⟨_,_,_,rfl,Zs.o⟩,(BE _ _).alloc AX _⟩
theorem Rt (t:Du) (w:AH):
 AS prog 220 #[AP #[AL t.name,AL t.path,AE AF t.var,AE AF t.field,AE AF t.n]] w fun e w'=>e=AU (Ab (isNum t))/\AK w w':=by
 go_enter func220,ntmps220;go_wp2_with fail
 all_goals
  go_ret;refine ⟨Ay ?_,(Ae _ _).alloc (Ac _) _⟩
  go_light
  first
   | (simp_all [isNum];done)
   | (simp_all [isNum];intros;exfalso;omega)
   | (simp_all [isNum];intros;omega)
theorem AZ.six' {w:AH} {g:Nat} {t:Af} {a b c d e f:AN} (h:AZ w g t #[a,b,c,d,e,f]):
 w.cell? ⟨g,0,none⟩=some a/\w.cell? ⟨g,1,none⟩=some b/\w.cell? ⟨g,2,none⟩=some c/\w.cell? ⟨g,3,none⟩=some d/\w.cell? ⟨g,4,none⟩=some e/\w.cell? ⟨g,5,none⟩=some f:=
 ⟨h.cell 0,h.cell 1,h.cell 2,h.cell 3,h.cell 4,h.cell 5⟩
def bu (ss:List BL) (r:L1):Bool:=(typeAt ss r.schema r.field).isSome
theorem XC (ss:List BL) (p:Cd):FY ss p=(p.may.all (bu ss) && decide (0<=p.most) && decide (p.most<=64)):=rfl
theorem uj {ss:List BL} {p:Cd} {k:Nat} {x:L1} (hx:p.may[k]? =some x) (h:typeAt ss x.schema x.field=none):FY ss p=false:=by rw [XC,JX hx (by rw [bu,h];rfl)];rfl
theorem jx (nm:ByteArray) (may:List L1) (most:Int) (B:Option Aa) (m d:Nat) (ss:List BL) (w0 w:AH) (hb0:AK w0 w) (h3:Ag 6 BU w0 (AB A3 n3 c3) ss) (hm:Ag 4 IH w (AB B m d) may):
 AS prog 112 #[(AP #[AB A1 n1 c1,AB A2 n2 c2,AB A3 n3 c3,AB A4 n4 c4,AB A5 n5 c5,AB A6 n6 c6]),AP #[AL nm,AB B m d,AE AF most]] w fun e w'=>e=AU (Ab (FY ss ⟨nm,may,most⟩))/\AK w w':=by
 have hm1:m<=9223372036854775807:=by have:=hm.le;omega
 have HLM:=AA hm.len;have HM:=AA hm;have H3:=AA h3;have HB0:=AA hb0;clear hm h3 hb0;obtain ⟨wb,hwb⟩:=Ad ((w.alloc (AO #[AB A1 n1 c1,AB A2 n2 c2,AB A3 n3 c3,AB A4 n4 c4,AB A5 n5 c5,AB A6 n6 c6] 137)).alloc (AO #[AL nm,AB B m d,AE AF most] 166));have hbb:AK w wb:=by rw [hwb];exact ((BE _ _).alloc AX _)
 have kA:AZ wb w.heap.size 137 #[AB A1 n1 c1,AB A2 n2 c2,AB A3 n3 c3,AB A4 n4 c4,AB A5 n5 c5,AB A6 n6 c6]:=by rw [hwb];exact (AZ.new _ _ _).alloc _
 have kB:AZ wb (w.heap.size+1) 166 #[AL nm,AB B m d,AE AF most]:=by rw [hwb];exact DY AX
 obtain ⟨ga,hga⟩:=Ad w.heap.size;obtain ⟨gb,hgb⟩:=Ad (w.heap.size+1);rw [<-hgb] at kB;rw [<-hga] at kA;have HA:=AA kA;have HB:=AA kB;have BG:=AA hbb;have CX:=AA hwb;have b1:=kB.cell 1;simp only [Ak,Al,Az] at b1;have lA:=kA.lt;have lB:=kB.lt;clear kA kB hbb hwb;go_enter func112,ntmps112;go_upto_region 1 with fail;rw [<-CX.o,<-hgb,<-hga];clear CX hga hgb;go_wp2_with fail;clear b1;go_loopg [12] m (fun q i wr=>∃k:Nat,k<=m/\q=m - k/\i=AE AF k/\(may.take k).all (bu ss)=true/\AK wb wr)
 case atStart=>exact Lc
 obtain ⟨k,hk,hq,rfl,hall,hb⟩:=hrel;have HQ:=AA hq;have EC:=AA hall;have C4:=AA hb;have CO:AI (AK w wr):=AA (AV BG.o hb);obtain ⟨a0,a1,a2,a3,a4,a5⟩:=(HA.o.below hb lA).six';have tO:ga < wr.heap.size:=Au lA hb.size;have lBr:gb < wr.heap.size:=Au lB hb.size;have q1:=(HB.o.below hb lB).cell 1;have q2:=(HB.o.below hb lB).cell 2;simp only [Ak,Al,Az] at q1 q2;clear hq hall hb;by_cases hlt:k < m
 case neg=>
  have HT:AI (may.all (bu ss)=true):=by have:=EC.o;rw [Cu (by have:=HLM.o;omega)] at this;exact this
  have HE:AI (FY ss ⟨nm,may,most⟩=(decide (0<=most) && decide (most<=64))):=AA (by rw [XC,HT.o];rfl);go_wp2_with fail
  all_goals
   go_ret;refine ⟨Ay (Es ?_ HE.o.symm),CO.o⟩
   go_light
   first
    | rfl
    | (simp_all;done)
    | (simp_all;omega)
 obtain ⟨b,off,x,hB1,hbl,hx,e0,e1,e2,e3⟩:=fU (HM.o.mono IG CO.o) hlt;subst hB1;have hk0:=Int.natCast_nonneg k
 have hk1:(k:Int) < (m:Int):=AG
 have HX:=AA hx;clear hx;have HT:=AA (fun o=>Qr A1 A2 A3 A4 A5 A6 n1 c1 n2 c2 n3 c3 n4 c4 n5 c5 n6 c6 x.schema x.field ss w0 (wr.alloc o) (AV HB0.o (CO.o.alloc CO.o.size o)) H3.o);obtain ⟨o,ho⟩:=BP (typeAt ss x.schema x.field);rw [ho] at HT;have HO:=AA ho;clear ho;cases o with
 |
  none=>
  have HN:AI (FY ss ⟨nm,may,most⟩=false):=AA (uj HX.o HO.o);go_wp2_with (go_at_call 65;refine (HT.o _).mono ?_;clear HT;rintro e w2 ⟨⟨B',m',d',rfl,hs⟩,hb2⟩;have HB2:=AA ((CO.o.alloc CO.o.size _).trans (hb2.mono (by have:=CO.o.size;simp;omega)));clear hs hb2;simp only [Gv]);go_ret;exact ⟨Ay HN.o.symm,HB2.o.alloc HB2.o.size _⟩
 |
  some y=>
  obtain ⟨yk,yl,yh,yf,yu,yn⟩:=y;go_wp2_with (go_at_call 65;refine (HT.o _).mono ?_;clear HT;rintro e w2 ⟨⟨B',m',d',rfl,hs⟩,hb2⟩;have HB2:=AA ((C4.o.alloc C4.o.size _).trans (hb2.mono OD));clear hs hb2;simp only [Cc,Fh]);go_roundg (m - (k+1))
  case measure=>exact BS
  case rel=>exact ⟨k+1,by omega,rfl,by go_num,Dc HX.o (by rw [bu,HO.o];rfl) EC.o,HB2.o.alloc HB2.o.size _⟩
theorem AZ.six {w:AH} {g:Nat} {t:Af} {a b c d e f:AN} (h:AZ w g t #[a,b,c,d,e,f]):
 w.cell? ⟨g,0,none⟩=some a/\w.cell? ⟨g,1,none⟩=some b/\w.cell? ⟨g,2,none⟩=some c/\w.cell? ⟨g,3,none⟩=some d/\w.cell? ⟨g,4,none⟩=some e/\w.cell? ⟨g,5,none⟩=some f:=
 ⟨h.cell 0,h.cell 1,h.cell 2,h.cell 3,h.cell 4,h.cell 5⟩
theorem Rh (F1 F2 F3:Option Aa) (m1 d1 m2 d2 m3 d3:Nat) (hd:ByteArray) (Dv:Int) (t:Du) (vars:Int) (ss:List BL) (fs:List B0) (w0 w:AH) (hb0:AK w0 w) (h3:Ag 6 BU w0 (AB A3 n3 c3) ss) (hf:Ag 8 DH w0 (AB F1 m1 d1) fs) (hv0:0<=vars) (hv:vars<=m1):
 AS prog 219 #[(AP #[AB A1 n1 c1,AB A2 n2 c2,AB A3 n3 c3,AB A4 n4 c4,AB A5 n5 c5,AB A6 n6 c6,AL hd,AE AF Dv,AB F1 m1 d1,AB F2 m2 d2,AB F3 m3 d3]),AP #[AL t.name,AL t.path,AE AF t.var,AE AF t.field,AE AF t.n],AE AF vars] w (OT (Fp ss fs t vars.toNat) w0 w):=by
 have hm1:m1<=9223372036854775807:=by have:=hf.le;omega
 have H3:=AA h3;have HF:=AA hf;have HB0:=AA hb0;clear h3 hf hb0;obtain ⟨nm,pa,va,fi,nn⟩:=t;by_cases hin:0<=va/\va < vars
 case neg=>
  have HT:AI (Fp ss fs ⟨nm,pa,va,fi,nn⟩ vars.toNat=none):=AA (by unfold Fp;rw [Ao (by simp only;omega)])
  rw [HT.o];simp only;go_enter func219,ntmps219;go_wp2_with fail
  all_goals first
   | (exfalso;omega)
   | exact Eu (v:=BQ #[AP #[AE AF 0,AE AF 0,AE AF 0,AL ⟨#[]⟩,AE AF 0,AB none 0 0],Ab false]) (by simp [results,results219,go_sem]) rfl ⟨⟨_,_,_,rfl,Ag.nil _ _ (Av _),by simp [zT]⟩,(((BE _ _).alloc AX _).alloc BN _)⟩
 obtain ⟨k,rfl⟩:∃k:Nat,va=k:=⟨va.toNat,by omega⟩;obtain ⟨b,off,x,hF1,hbl,hx,e0,e1,e2,e3,e4,e5,e6,e7⟩:=Np HF.o (k:=k) AG;subst hF1;rw [<-HB0.o.cell (p:=⟨b,_,none⟩) hbl] at e2;have hbl:=Au hbl HB0.o.size;have hk0:=Int.natCast_nonneg k
 have hk1:(k:Int) < (m1:Int):=AG
 have hk2:(k:Int) < vars:=AG
 have HT:AI (Fp ss fs ⟨nm,pa,k,fi,nn⟩ vars.toNat=typeAt ss x.schema fi):=AA (by unfold Fp;rw [Ai (by simp only;omega)];simp only [Cm,hx,Option.bind_some])
 rw [HT.o];simp only;clear hx e0 e1 e3 e4 e5 e6 e7 hin hv HF;have da:AI (∀W,AK w0 W->AS prog 65 #[(AP #[AB A1 n1 c1,AB A2 n2 c2,AB A3 n3 c3,AB A4 n4 c4,AB A5 n5 c5,AB A6 n6 c6]),AE AF x.schema,AE AF fi] W (OT (typeAt ss x.schema fi) w0 W)):=AA
  (fun W hW=>Qr A1 A2 A3 A4 A5 A6 n1 c1 n2 c2 n3 c3 n4 c4 n5 c5 n6 c6 x.schema fi ss w0 W hW H3.o)
 obtain ⟨o,ho⟩:=BP (typeAt ss x.schema fi);rw [ho] at da ⊢;clear ho;unfold OT at da ⊢;obtain ⟨T,hT⟩:=BP (o.getD zT);obtain ⟨bo,iz⟩:=BP o.isSome;rw [hT,iz] at da ⊢;clear hT iz;obtain ⟨tk,tl,th,tf,tu,tn⟩:=T;simp only at da ⊢;go_enter func219,ntmps219;go_wp2_with fail;obtain ⟨wb,hwb⟩:=Ad ((w.alloc (AO #[AB A1 n1 c1,AB A2 n2 c2,AB A3 n3 c3,AB A4 n4 c4,AB A5 n5 c5,AB A6 n6 c6,AL hd,AE AF Dv,AB (some ⟨b,off,none⟩) m1 d1,AB F2 m2 d2,AB F3 m3 d3] 197)).alloc (AO #[AL nm,AL pa,AE AF k,AE AF fi,AE AF nn] 279));rw [<-hwb];have hbb:AK w wb:=by rw [hwb];exact ((BE _ _).alloc AX _)
 have kA:AZ wb w.heap.size 197 #[AB A1 n1 c1,AB A2 n2 c2,AB A3 n3 c3,AB A4 n4 c4,AB A5 n5 c5,AB A6 n6 c6,AL hd,AE AF Dv,AB (some ⟨b,off,none⟩) m1 d1,AB F2 m2 d2,AB F3 m3 d3]:=by rw [hwb];exact (AZ.new _ _ _).alloc _
 have kB:AZ wb (w.heap.size+1) 279 #[AL nm,AL pa,AE AF k,AE AF fi,AE AF nn]:=by rw [hwb];exact DY AX
 have hsz:wb.heap.size=w.heap.size+2:=by rw [hwb];simp
 have CY:=AA hsz;clear hsz;obtain ⟨ga,hga⟩:=Ad w.heap.size;obtain ⟨gb,hgb⟩:=Ad (w.heap.size+1);obtain ⟨gz,hgz⟩:=Ad (w.heap.size+1+1);rw [<-hgz];rw [<-hgb] at kB ⊢;rw [<-hga] at kA ⊢;have HGZ:AI (gz=wb.heap.size):=AA eJ;have a0:=kA.cell 0;have a1:=kA.cell 1;have a2:=kA.cell 2;have a3:=kA.cell 3;have a4:=kA.cell 4;have a5:=kA.cell 5;have a8:=kA.cell 8;have b2:=kB.cell 2;have b3:=kB.cell 3;have la:=kA.lt;have lb:=kB.lt;simp only [Ak,Al,Az] at a0 a1 a2 a3 a4 a5 a8 b2 b3;rw [<-hbb.cell (p:=⟨b,_,none⟩) hbl] at e2;have lbl:b < wb.heap.size:=Au hbl hbb.size;have BG:=AA hbb;clear kA kB hbb hwb hga hgb hgz;obtain ⟨wz,hwz⟩:=Ad (wb.alloc (AO #[AE AF 0,AE AF 0,AE AF 0,AL ⟨#[]⟩,AE AF 0,AB none 0 0] 109));rw [<-hwz];have hbz:AK wb wz:=by rw [hwz];exact (Ae _ _).alloc (Ac _) _
 have kZ:AZ wz gz 109 #[AE AF 0,AE AF 0,AE AF 0,AL ⟨#[]⟩,AE AF 0,AB none 0 0]:=by rw [hwz,HGZ.o];exact AZ.new _ _ _
 have HS:AI (∀W,AK wb W->W.cell? ⟨ga,0,none⟩=some (AB A1 n1 c1)/\W.cell? ⟨ga,1,none⟩=some (AB A2 n2 c2)/\W.cell? ⟨ga,2,none⟩=some (AB A3 n3 c3)/\W.cell? ⟨ga,3,none⟩=some (AB A4 n4 c4)/\W.cell? ⟨ga,4,none⟩=some (AB A5 n5 c5)/\W.cell? ⟨ga,5,none⟩=some (AB A6 n6 c6)/\W.cell? ⟨ga,8,none⟩=some (AB (some ⟨b,off,none⟩) m1 d1)/\W.cell? ⟨gb,2,none⟩=some (AE AF k)/\W.cell? ⟨gb,3,none⟩=some (AE AF fi)/\W.cell? ⟨b,off+k*8+2,none⟩=some (AE AF x.schema)):=AA (fun W hW=>
  ⟨(hW.cell (p:=⟨ga,0,none⟩) la).trans a0,(hW.cell (p:=⟨ga,1,none⟩) la).trans a1,(hW.cell (p:=⟨ga,2,none⟩) la).trans a2,(hW.cell (p:=⟨ga,3,none⟩) la).trans a3,(hW.cell (p:=⟨ga,4,none⟩) la).trans a4,(hW.cell (p:=⟨ga,5,none⟩) la).trans a5,(hW.cell (p:=⟨ga,8,none⟩) la).trans a8,(hW.cell (p:=⟨gb,2,none⟩) lb).trans b2,(hW.cell (p:=⟨gb,3,none⟩) lb).trans b3,(hW.cell (p:=⟨b,_,none⟩) lbl).trans e2⟩)
 clear a0 a1 a2 a3 a4 a5 a8 b2 b3 e2 la lb lbl;have WW:AI (wb.heap.size<=gz):=AA (by have:=HGZ.o;omega);have HZ:=AA kZ;have JH:=AA hbz;have jP:=AA ((da.o wz.drew (HB0.o.trans ((AV BG.o hbz).drew.mono HB0.o.size))).mono fun _ _ h=>And.intro h.1 ((Ae wz.heap.size wz).drew.trans h.2));clear hwz hbz kZ
 go_region_held3 (fun w'=>w'.cell? ⟨ga,0,none⟩=some (AB A1 n1 c1)/\w'.cell? ⟨ga,1,none⟩=some (AB A2 n2 c2)/\w'.cell? ⟨ga,2,none⟩=some (AB A3 n3 c3)/\w'.cell? ⟨ga,3,none⟩=some (AB A4 n4 c4)/\w'.cell? ⟨ga,4,none⟩=some (AB A5 n5 c5)/\w'.cell? ⟨ga,5,none⟩=some (AB A6 n6 c6)/\w'.cell? ⟨ga,8,none⟩=some (AB (some ⟨b,off,none⟩) m1 d1)/\w'.cell? ⟨gb,2,none⟩=some (AE AF k)/\w'.cell? ⟨gb,3,none⟩=some (AE AF fi)/\w'.cell? ⟨b,off+k*8+2,none⟩=some (AE AF x.schema))
  (first | with_reducible exact HS.o _ JH.o | with_reducible exact HS.o _ JH.o.drew | with_reducible exact HS.o _ hbw3 | exact HS.o _ ((((((hbw3.setCell WW.o _).setCell WW.o _).setCell WW.o _).setCell WW.o _).setCell WW.o _).setCell WW.o _))
  (first
   | (go_at_call 65;refine jP.o.mono ?_;rintro e w3 ⟨⟨B,m,d,rfl,hs⟩,hb3⟩;have kz:=HZ.o.below hb3 HZ.o.lt;obtain ⟨z0,z1,z2,z3,z4,z5⟩:=kz.six;have y0:=kz.frozen 0;have y1:=kz.frozen 1;have y2:=kz.frozen 2;have y3:=kz.frozen 3;have y4:=kz.frozen 4;have y5:=kz.frozen 5;have hbw3:=AV JH.o hb3;have SK:=AA kz;have J6:=AA hs;clear hs kz))
 go_wp2_with fail;have kF:=(((((SK.o.put 0 (AE AF tk)).put 1 (AE AF tl)).put 2 (AE AF th)).put 3 (AL tf)).put 4 (AE AF tu)).put 5 (AB B m d);simp only [Lr,Ct,DF] at kF;obtain ⟨f0,f1,f2,f3,f4,f5⟩:=kF.six;clear z0 z1 z2 z3 z4 z5 y0 y1 y2 y3 y4 y5;refine Eu (v:=BQ #[AP #[AE AF tk,AE AF tl,AE AF th,AL tf,AE AF tu,AB B m d],Ab bo]) (by simp [results,results219,go_sem,f0,f1,f2,f3,f4,f5]) rfl ⟨⟨_,_,_,rfl,J6.o⟩,?_⟩;exact AV BG.o ((((((hbw3.setCell WW.o _).setCell WW.o _).setCell WW.o _).setCell WW.o _).setCell WW.o _).setCell WW.o _)
def QM (n:Nat) (t:Fa):Prop:=t.kind=1-> -1<=t.unit/\t.unit < n
theorem wO {us:List Bt} {a b:Fa} (h:a.kind≠b.kind):Ky us a b=false:=by rw [Ky,Ao h]
theorem qu {us:List Bt} {a b:Fa} (h:a.kind=4) (h':b.kind=4):Ky us a b=decide (a.names=b.names):=by rw [Ky,Ai AG,Ao h]
theorem wN {us:List Bt} {a b:Fa} (h:a.kind=b.kind) (h4:a.kind≠4) (h1:a.kind≠1\/a.unit= -1\/b.unit= -1):Ky us a b=decide (a.unit=b.unit):=by rw [Ky,Ai AG,Ai h4,Ao h1]
theorem wP {us:List Bt} {a b:Fa} (h:a.kind=1) (h':b.kind=1) (h1:a.unit≠ -1) (h2:b.unit≠ -1):Ky us a b=decide (QX us a.unit=QX us b.unit):=by rw [Ky,Ai AG,Ai AG,Ai AG]
theorem gM (a b:Fa) (B C:Option Aa) (m d k e:Nat) (us:List Bt) (w:AH) (h2:Ag 5 CD w (AB A2 n2 c2) us) (ha:Ag 1 DQ w (AB B m d) a.names) (hb:Ag 1 DQ w (AB C k e) b.names) (hua:QM n2 a) (hub:QM n2 b):
 AS prog 221 #[(AP #[AB A1 n1 c1,AB A2 n2 c2,AB A3 n3 c3,AB A4 n4 c4,AB A5 n5 c5,AB A6 n6 c6]),AP #[AE AF a.kind,AE AF a.lo,AE AF a.hi,AL a.An,AE AF a.unit,AB B m d],AP #[AE AF b.kind,AE AF b.lo,AE AF b.hi,AL b.An,AE AF b.unit,AB C k e]] w fun e w'=>
  e=AU (Ab (Ky us a b))/\AK w w':=by
 have hn2:n2<=9223372036854775807:=by have:=h2.le;omega
 have H2:=AA h2;have HA:=AA ha;have HB:=AA hb;clear h2 ha hb;have HW:AI (∀o1 o2 o3,AK w (((w.alloc o1).alloc o2).alloc o3)):=AA fun o1 o2 o3=>(((BE _ _).alloc AX _).alloc BN _);by_cases hk:a.kind=b.kind
 case neg=>
  have hkn:(a.kind !=b.kind)=true:=by simpa using hk
  rw [wO hk];clear hk;go_enter func221,ntmps221;exact bG
 have hkn:(a.kind !=b.kind)=false:=by simpa using hk
 by_cases h4:a.kind=4
 ·have h44:(a.kind==4)=true:=by simpa using h4
  rw [qu h4 AG];obtain ⟨v,hv⟩:=BP (A8 a.names b.names);have HE:AI (decide (a.names=b.names)=v):=AA hv;rw [HE.o];have HQ:AI (∀o1 o2 o3,AS prog 120 #[AB B m d,AB C k e] (((w.alloc o1).alloc o2).alloc o3) fun e w'=>e=AU (Ab v)/\AK w w'):=AA (fun o1 o2 o3=>by have:=IU B C m d k e a.names b.names _ (HA.o.mono BV (HW.o o1 o2 o3)) (HB.o.mono BV (HW.o o1 o2 o3));rw [hv] at this;exact this.mono fun _ _ h=>⟨h.1,(HW.o o1 o2 o3).trans (h.2.mono (HW.o o1 o2 o3).size)⟩)
  clear hv hk h4;go_enter func221,ntmps221;go_wp2_with (go_at_call 120;refine (HQ.o _ _ _).mono ?_;rintro e w' ⟨rfl,hbq⟩);go_ret;exact ⟨rfl,hbq⟩
 have h44:(a.kind==4)=false:=by simpa using h4
 by_cases hu:a.kind≠1\/a.unit= -1\/b.unit= -1
 ·rw [wN hk h4 hu]
  have huu:(a.unit==b.unit)=decide (a.unit=b.unit):=by by_cases h:a.unit=b.unit <;> simp [h]
  rw [<-huu];clear huu hk h4;go_enter func221,ntmps221;by_cases u1:a.kind=1
  ·have u11:(a.kind !=1)=false:=by simpa using u1
   by_cases u2:a.unit= -1
   ·have u22:(a.unit== -1)=true:=by simpa using u2
    clear u1 u2 hu hua hub;exact bG
   have u22:(a.unit== -1)=false:=by simpa using u2
   have u33:(b.unit== -1)=true:=by simpa using (hu.resolve_left (by simpa using u1)).resolve_left u2
   clear u1 u2 hu hua hub;exact bG
  have u11:(a.kind !=1)=true:=by simpa using u1
  clear u1 hu hua hub;exact bG
 have u1:a.kind=1:=Classical.byContradiction fun h=>hu (.inl h);have u2:a.unit≠ -1:=fun h=>hu (.inr (.inl h));have u3:b.unit≠ -1:=fun h=>hu (.inr (.inr h));rw [wP u1 AG u2 u3];obtain ⟨x1,x2⟩:=hua u1;obtain ⟨y1,y2⟩:=hub AG;have u11:(a.kind !=1)=false:=by simpa using u1
 have u22:(a.unit== -1)=false:=by simpa using u2
 have u33:(b.unit== -1)=false:=by simpa using u3
 obtain ⟨i,hi⟩:∃i:Nat,a.unit=i:=⟨a.unit.toNat,by omega⟩;obtain ⟨j,hj⟩:∃j:Nat,b.unit=j:=⟨b.unit.toNat,by omega⟩;obtain ⟨g1,o1,p,hp,l1,hx,_,_,_,e1,_⟩:=Nn H2.o (k:=i) AG;obtain ⟨g2,o2,q,hq,l2,hy,_,_,_,e2,_⟩:=Nn H2.o (k:=j) AG;subst hp;injection hq with hq;injection hq with hq1 hq2;subst hq1 hq2;have hba:QX us a.unit=p.base:=by rw [QX,hi,Cm,hx];rfl
 have hbb:QX us b.unit=q.base:=by rw [QX,hj,Cm,hy];rfl
 rw [hba,hbb];have huu:(p.base==q.base)=decide (p.base=q.base):=by by_cases h:p.base=q.base <;> simp [h]
 rw [<-huu];have hi0:(0:Int)<=(i:Int):=AG
 have hin:(i:Int) < (n2:Int):=AG
 have hj0:(0:Int)<=(j:Int):=AG
 have hjn:(j:Int) < (n2:Int):=AG
 rw [hi] at u22 ⊢;rw [hj] at u33 ⊢;clear huu hba hbb hx hy x1 x2 y1 y2 hi hj u1 u2 u3 hu hk h4 hua hub;go_enter func221,ntmps221;go_wp2_with fail;obtain ⟨wb,hwb⟩:=Ad (((w.alloc (AO #[AB A1 n1 c1,AB (some ⟨g1,o1,none⟩) n2 c2,AB A3 n3 c3,AB A4 n4 c4,AB A5 n5 c5,AB A6 n6 c6] 137)).alloc (AO #[AE AF a.kind,AE AF a.lo,AE AF a.hi,AL a.An,AE AF i,AB B m d] 109)).alloc (AO #[AE AF b.kind,AE AF b.lo,AE AF b.hi,AL b.An,AE AF j,AB C k e] 109));rw [<-hwb];have hbb:AK w wb:=by rw [hwb];exact HW.o _ _ _
 have kA:AZ wb w.heap.size 137 #[AB A1 n1 c1,AB (some ⟨g1,o1,none⟩) n2 c2,AB A3 n3 c3,AB A4 n4 c4,AB A5 n5 c5,AB A6 n6 c6]:=by rw [hwb];exact ((AZ.new _ _ _).alloc _).alloc _
 have kB:AZ wb (w.heap.size+1) 109 #[AE AF a.kind,AE AF a.lo,AE AF a.hi,AL a.An,AE AF i,AB B m d]:=by rw [hwb];exact (DY AX).alloc _
 have kC:AZ wb (w.heap.size+1+1) 109 #[AE AF b.kind,AE AF b.lo,AE AF b.hi,AL b.An,AE AF j,AB C k e]:=by rw [hwb];exact DY AX
 have q1:=kA.cell 1;have q4:=kB.cell 4;have r4:=kC.cell 4;simp only [Ak,Al,Az] at q1 q4 r4;rw [<-hbb.cell (p:=⟨g1,_,none⟩) l1] at e1 e2;have BG:=AA hbb;clear hwb hbb kA kB kC HW;go_quiet (fail);go_wp2_with fail;go_ret;exact ⟨rfl,below_drewN BG.o _⟩
theorem AZ.five {w:AH} {g:Nat} {t:Af} {a b c d e:AN} (h:AZ w g t #[a,b,c,d,e]):
 w.cell? ⟨g,0,none⟩=some a/\w.cell? ⟨g,1,none⟩=some b/\w.cell? ⟨g,2,none⟩=some c/\w.cell? ⟨g,3,none⟩=some d/\w.cell? ⟨g,4,none⟩=some e:=
 ⟨h.cell 0,h.cell 1,h.cell 2,h.cell 3,h.cell 4⟩
theorem AZ.eleven {w:AH} {g:Nat} {t:Af} {a b c d e f a' b' c' d' e':AN} (h:AZ w g t #[a,b,c,d,e,f,a',b',c',d',e']):
 w.cell? ⟨g,0,none⟩=some a/\w.cell? ⟨g,1,none⟩=some b/\w.cell? ⟨g,2,none⟩=some c/\w.cell? ⟨g,3,none⟩=some d/\w.cell? ⟨g,4,none⟩=some e/\w.cell? ⟨g,5,none⟩=some f/\w.cell? ⟨g,6,none⟩=some a'/\w.cell? ⟨g,7,none⟩=some b'/\w.cell? ⟨g,8,none⟩=some c'/\w.cell? ⟨g,9,none⟩=some d'/\w.cell? ⟨g,10,none⟩=some e':=
 ⟨h.cell 0,h.cell 1,h.cell 2,h.cell 3,h.cell 4,h.cell 5,h.cell 6,h.cell 7,h.cell 8,h.cell 9,h.cell 10⟩
theorem wL (w:AH) (o1 o2:Obj) {t:Af} {cs:Array AN}:AZ (((w.alloc o1).alloc o2).alloc (AO cs t)) (w.heap.size+1+1) t cs:=DY AX
theorem yx (F1 F2 F3:Option Aa) (m1 d1 m2 d2 m3 d3:Nat) (hd:ByteArray) (Dv:Int) (f:Fa) (t:Du) (B:Option Aa) (m d:Nat) (ss:List BL) (fs:List B0) (w0 w:AH) (hb0:AK w0 w) (h3:Ag 6 BU w0 (AB A3 n3 c3) ss) (hf:Ag 8 DH w0 (AB F1 m1 d1) fs) (hn:BT 1 16 DQ w0 (AB B m d) f.names):
 AS prog 168 #[(AP #[AB A1 n1 c1,AB A2 n2 c2,AB A3 n3 c3,AB A4 n4 c4,AB A5 n5 c5,AB A6 n6 c6,AL hd,AE AF Dv,AB F1 m1 d1,AB F2 m2 d2,AB F3 m3 d3]),AP #[AE AF f.kind,AE AF f.lo,AE AF f.hi,AL f.An,AE AF f.unit,AB B m d],AP #[AL t.name,AL t.path,AE AF t.var,AE AF t.field,AE AF t.n]] w fun e w'=>
  e=AU (Ab (VW ss fs f t))/\AK w w':=by
 have hm1:m1<=9223372036854775807:=by have:=hf.le;omega
 obtain ⟨wb,hwb⟩:=Ad (((w.alloc (AO #[AB A1 n1 c1,AB A2 n2 c2,AB A3 n3 c3,AB A4 n4 c4,AB A5 n5 c5,AB A6 n6 c6,AL hd,AE AF Dv,AB F1 m1 d1,AB F2 m2 d2,AB F3 m3 d3] 197)).alloc (AO #[AE AF f.kind,AE AF f.lo,AE AF f.hi,AL f.An,AE AF f.unit,AB B m d] 109)).alloc (AO #[AL t.name,AL t.path,AE AF t.var,AE AF t.field,AE AF t.n] 279));have hbb:AK w wb:=by rw [hwb];exact (((BE _ _).alloc AX _).alloc BN _)
 have kA:AZ wb w.heap.size 197 #[AB A1 n1 c1,AB A2 n2 c2,AB A3 n3 c3,AB A4 n4 c4,AB A5 n5 c5,AB A6 n6 c6,AL hd,AE AF Dv,AB F1 m1 d1,AB F2 m2 d2,AB F3 m3 d3]:=by rw [hwb];exact ((AZ.new _ _ _).alloc _).alloc _
 have kB:AZ wb (w.heap.size+1) 109 #[AE AF f.kind,AE AF f.lo,AE AF f.hi,AL f.An,AE AF f.unit,AB B m d]:=by rw [hwb];exact (DY AX).alloc _
 have kC:AZ wb (w.heap.size+1+1) 279 #[AL t.name,AL t.path,AE AF t.var,AE AF t.field,AE AF t.n]:=by rw [hwb];exact wL _ _ _
 have O8:AI (∀W,AK w0 W->AS prog 219 #[(AP #[AB A1 n1 c1,AB A2 n2 c2,AB A3 n3 c3,AB A4 n4 c4,AB A5 n5 c5,AB A6 n6 c6,AL hd,AE AF Dv,AB F1 m1 d1,AB F2 m2 d2,AB F3 m3 d3]),AP #[AL t.name,AL t.path,AE AF t.var,AE AF t.field,AE AF t.n],AE AF m1] W (OT (Fp ss fs t fs.length) w0 W)):=AA (fun W hW=>by have:=Rh A1 A2 A3 A4 A5 A6 n1 c1 n2 c2 n3 c3 n4 c4 n5 c5 n6 c6 F1 F2 F3 m1 d1 m2 d2 m3 d3 hd Dv t m1 ss fs w0 W hW h3 hf AG AG;rw [Cm] at this;rw [<-hf.len];exact this)
 have HN:=AA hn;have HNU:AI (AS prog 220 #[AP #[AL t.name,AL t.path,AE AF t.var,AE AF t.field,AE AF t.n]] wb fun e w'=>e=AU (Ab (isNum t))/\AK wb w'):=AA (Rt t wb);have HB0:=AA hb0;have HA:=AA kA;have HB:=AA kB;have HC:=AA kC;have BG:=AA hbb;have CX:=AA hwb;clear hf h3 hn hb0 kA kB kC hbb hwb;obtain ⟨o,ho⟩:=BP (Fp ss fs t fs.length);obtain ⟨v,hv⟩:=BP (isNum t);have HS:AI (VW ss fs f t=if v then decide (f.lo<=t.n) && decide (t.n<=f.hi) else o.any fun y=>decide (y.kind=f.kind) && decide (y.unit=f.unit) && decide (y.names=f.names) && decide (f.lo<=y.lo) && decide (y.lo<=f.hi) && decide (f.lo<=y.hi) && decide (y.hi<=f.hi)):=AA (by rw [VW,ho,hv]);rw [ho] at O8;rw [hv] at HNU;rw [HS.o];clear ho hv HS;have c0:=(HC.o.five).1;have c1:=(HC.o.five).2.1;have c2:=(HC.o.five).2.2.1;have c3:=(HC.o.five).2.2.2.1;have c4:=(HC.o.five).2.2.2.2;have lA:=HA.o.lt;have lB:=HB.o.lt;have lC:=HC.o.lt;obtain ⟨ga,hga⟩:=Ad w.heap.size;obtain ⟨gb,hgb⟩:=Ad (w.heap.size+1);obtain ⟨gc,hgc⟩:=Ad (w.heap.size+1+1);go_enter func168,ntmps168;go_upto_region 1 with fail;rw [<-CX.o,<-hgc,<-hgb,<-hga];rw [<-hgc] at HC c0 c1 c2 c3 c4 lC;rw [<-hgb] at HB lB;rw [<-hga] at HA lA;clear hga hgb hgc CX;go_wp2_with (go_at_call 220;refine HNU.o.mono ?_;clear HNU);rintro e w1 ⟨rfl,hb1⟩;have HB1:=AA (AV BG.o hb1);obtain ⟨b0,b1,b2,b3,b4,b5⟩:=(HB.o.below hb1 lB).six;obtain ⟨a0,a1,a2,a3,a4,a5,a6,a7,a8,a9,a10⟩:=(HA.o.below hb1 lA).eleven;obtain ⟨c0,c1,c2,c3,c4⟩:=(HC.o.below hb1 lC).five;have lA1:=Au lA hb1.size;have lB1:=Au lB hb1.size;have lC1:=Au lC hb1.size;have kB1:=AA (HB.o.below hb1 lB);clear hb1 lA lB lC HA HB HC;cases v with
 |
  true=>
  clear O8 HN kB1 a0 a1 a2 a3 a4 a5 a6 a7 a8 a9 a10;go_wp2_with fail
  all_goals
   go_ret;refine ⟨Ay ?_,HB1.o⟩
   go_light
   first
    | rfl
    | (simp_all;done)
    | (simp_all;omega)
 |
  false=>
  have HT:=AA (O8.o w1 (AV HB0.o HB1.o));clear O8;cases o with
  |
   none=>
   go_wp2_with (go_at_call 219;refine HT.o.mono ?_;clear HT;rintro e w2 ⟨⟨B',m',d',rfl,hs⟩,hb2⟩;have HB2:=AA (AV HB1.o hb2);clear hs hb2 b0 b1 b2 b3 b4 b5 a0 a1 a2 a3 a4 a5 a6 a7 a8 a9 a10 c0 c1 c2 c3 c4;simp only [Gv]);go_ret;exact ⟨rfl,HB2.o.alloc HB2.o.size _⟩
  |
   some y=>
   obtain ⟨yk,yl,yh,yf,yu,yn⟩:=y;go_wp2_with (go_at_call 219;refine HT.o.mono ?_;clear HT);rintro e w2 ⟨⟨B',m',d',rfl,hs⟩,hb2⟩;have HS:=AA hs;have HB2:=AA (AV HB1.o hb2);have HKB:=AA (kB1.o.below hb2 lB1);obtain ⟨b0,b1,b2,b3,b4,b5⟩:=HKB.o.six;have lB2:=Au lB1 hb2.size;clear hs hb2 kB1 a0 a1 a2 a3 a4 a5 a6 a7 a8 a9 a10 c0 c1 c2 c3 c4 lA1 lC1 lB1;simp only [Cc,Fh];simp only [Cc] at HS;obtain ⟨v,hv⟩:=BP (A8 yn f.names);have HV:AI (decide (yn=f.names)=v):=AA hv;have HEQ:AI (∀o,AS prog 120 #[AB B' m' d',AB B m d] (w2.alloc o) fun e w'=>e=AU (Ab v)/\BI (w2.alloc o).heap.size (w2.alloc o) w'):=AA (fun o=>by have hba:=AV HB0.o (HB2.o.alloc HB2.o.size o);have:=IU B' B m' d' m d yn f.names (w2.alloc o) (HS.o.1.mono BV hba) (HN.o.1.mono BV hba);rw [hv] at this;exact this)
   clear hv;have HZK:AI (∀W,BI (w2.alloc (AO #[AE AF yk,AE AF yl,AE AF yh,AL yf,AE AF yu,AB B' m' d'] 109)).heap.size (w2.alloc (AO #[AE AF yk,AE AF yl,AE AF yh,AL yf,AE AF yu,AB B' m' d'] 109)) W->AZ W w2.heap.size 109 #[AE AF yk,AE AF yl,AE AF yh,AL yf,AE AF yu,AB B' m' d']):=AA (fun W h=>(AZ.new w2 _ _).below h AX);cases e1:(yk==f.kind) with
   |
    false=>
    go_wp2_with fail;go_ret;refine ⟨Ay ?_,HB2.o.alloc HB2.o.size _⟩
    go_light
    simp_all
   |
    true=>
    cases e2:(yu==f.unit) with
    |
     false=>
     go_wp2_with fail;go_ret;refine ⟨Ay ?_,HB2.o.alloc HB2.o.size _⟩
     go_light
     simp_all
    |
     true=>
     go_wp2_with (go_at_call 120;refine (HEQ.o _).mono ?_;clear HEQ;rintro e w3 ⟨rfl,hb3⟩;have HB3:=AA ((HB2.o.alloc HB2.o.size _).trans (hb3.mono UN));obtain ⟨b0,b1,b2,b3,b4,b5⟩:=((HKB.o.alloc _).below hb3 BN).six;have kz:AZ w3 w2.heap.size 109 _:=HZK.o w3 hb3;obtain ⟨z0,z1,z2,z3,z4,z5⟩:=kz.six;have lz:w2.heap.size < w3.heap.size:=Au AX hb3.size;have lB3:gb < w3.heap.size:=Au BN hb3.size;clear kz hb3)
     all_goals
      go_ret;refine ⟨Ay ?_,HB3.o⟩;have hV:=HV.o
      go_light
      first
       | (simp_all;done)
       | (simp_all;omega)
def MW (ss:List BL) (fs:List B0) (k:Nat):Bool:=(List.range k).all fun i=>(fs[i]?).any fun f=>MX ss fs i f
theorem WH {ss:List BL} {fs:List B0} {k:Nat} {x:B0} (h:fs[k]? =some x):MW ss fs (k+1)=(MW ss fs k && MX ss fs k x):=by simp [MW,List.range_succ,h]
theorem Tb {ss:List BL} {fs:List B0} {k:Nat} {x:B0} (h:fs[k]? =some x) (hx:MX ss fs k x=false):Hw ss fs=false:=by
 have hk:=(BD.1 h).1;have:MW ss fs fs.length=false:=by rw [MW,List.all_eq_false];exact ⟨k,by simpa using hk,by rw [h];simp [hx]⟩
 rw [Hw];unfold MW at this;rw [this];simp
theorem ACc {ss:List BL} {fs:List B0} {k:Nat} {x:B0} (h:¬(0<=x.schema/\x.schema < ss.length)):MX ss fs k x=false:=by
 rw [MX];have:(decide (0<=x.schema) && decide (x.schema < ss.length))=false:=by simp only [Mw,Mx];omega
 rw [this];rfl
theorem ACa {ss:List BL} {fs:List B0} {k:Nat} {x:B0} (h:0<=x.schema/\x.schema < ss.length) (hv:x.An.var= -1):MX ss fs k x=true:=by rw [MX,BR h.1,BR h.2,BR hv];rfl
theorem ACb {ss:List BL} {fs:List B0} {k:Nat} {x:B0} (h:0<=x.schema/\x.schema < ss.length) (hv:x.An.var≠ -1):MX ss fs k x=(Fp ss fs x.An k).any fun t=>decide (t.kind=3):=by rw [MX,BR h.1,BR h.2,Bc hv];rfl
theorem qf (F1 F2 F3:Option Aa) (m1 d1 m2 d2 m3 d3:Nat) (hd:ByteArray) (Dv:Int) (ss:List BL) (fs:List B0) (w0 w:AH) (hb0:AK w0 w) (h3:Ag 6 BU w0 (AB A3 n3 c3) ss) (hf:Ag 8 DH w0 (AB F1 m1 d1) fs):
 AS prog 166 #[(AP #[AB A1 n1 c1,AB A2 n2 c2,AB A3 n3 c3,AB A4 n4 c4,AB A5 n5 c5,AB A6 n6 c6,AL hd,AE AF Dv,AB F1 m1 d1,AB F2 m2 d2,AB F3 m3 d3])] w fun e w'=>e=AU (Ab (Hw ss fs))/\AK w w':=by
 have hm1:m1<=9223372036854775807:=by have:=hf.le;omega
 have hn3:n3<=9223372036854775807:=by have:=h3.le;omega
 have IB:=AA h3.len;have HLF:=AA hf.len;have O8:AI (∀(t:Du) (k:Nat) W,k<=m1->AK w0 W->AS prog 219 #[(AP #[AB A1 n1 c1,AB A2 n2 c2,AB A3 n3 c3,AB A4 n4 c4,AB A5 n5 c5,AB A6 n6 c6,AL hd,AE AF Dv,AB F1 m1 d1,AB F2 m2 d2,AB F3 m3 d3]),AP #[AL t.name,AL t.path,AE AF t.var,AE AF t.field,AE AF t.n],AE AF k] W (OT (Fp ss fs t k) w0 W)):=AA (fun t k W hk hW=>by
  have:=Rh A1 A2 A3 A4 A5 A6 n1 c1 n2 c2 n3 c3 n4 c4 n5 c5 n6 c6 F1 F2 F3 m1 d1 m2 d2 m3 d3 hd Dv t k ss fs w0 W hW h3 hf AG AG
  rwa [Cm] at this)
 have HF:=AA hf;have HB0:=AA hb0;clear hf h3 hb0;by_cases hin:1<=m1/\m1<=3
 case neg=>
  have HE:AI (Hw ss fs=false):=AA (by
   rw [Hw,<-HLF.o];have:(decide (1<=m1) && decide (m1<=3))=false:=by simp only [Mw,Mx];omega
   rw [this];rfl)
  rw [HE.o];go_enter func166,ntmps166;go_wp2_with fail
  all_goals first
   | (exfalso;omega)
   | (go_ret;exact ⟨rfl,(Ae _ _).alloc (Ac _) _⟩)
 obtain ⟨hlo,hhi⟩:=hin;have HE:AI (Hw ss fs=MW ss fs m1):=AA (by rw [Hw,<-HLF.o,BR hlo,BR hhi];rfl)
 have AHe:decide (m1 < 1)=false:=Bc AG;have AHk:decide (3 < m1)=false:=Bc AG;have hlz:¬((m1:Int) < 1):=AG
 have hhz:¬((3:Int) < (m1:Int)):=AG
 obtain ⟨w1,hw1⟩:=Ad (w.alloc (AO #[AB A1 n1 c1,AB A2 n2 c2,AB A3 n3 c3,AB A4 n4 c4,AB A5 n5 c5,AB A6 n6 c6,AL hd,AE AF Dv,AB F1 m1 d1,AB F2 m2 d2,AB F3 m3 d3] 197));have hb1:AK w w1:=by rw [hw1];exact (Ae _ _).alloc (Ac _) _
 have kA:AZ w1 w.heap.size 197 #[AB A1 n1 c1,AB A2 n2 c2,AB A3 n3 c3,AB A4 n4 c4,AB A5 n5 c5,AB A6 n6 c6,AL hd,AE AF Dv,AB F1 m1 d1,AB F2 m2 d2,AB F3 m3 d3]:=by rw [hw1];exact AZ.new _ _ _
 obtain ⟨ga,hga⟩:=Ad w.heap.size;rw [<-hga] at kA;have a8:=kA.eleven.2.2.2.2.2.2.2.2.1;have HA:=AA kA;have HB1:=AA hb1;have HW1:=AA hw1;have lA:=kA.lt;go_enter func166,ntmps166;go_upto_region 1 with fail;rw [<-HW1.o,<-hga];clear hw1 HW1 hga kA hb1;go_wp2_with fail;clear a8 AHe AHk hlz hhz;go_loopg [23] m1 (fun q i wr=>∃k:Nat,k<=m1/\q=m1 - k/\i=AE AF k/\MW ss fs k=true/\AK w1 wr)
 case atStart=>exact Lc
 obtain ⟨k,hk,hq,rfl,hall,hb⟩:=hrel;have HQ:=AA hq;have EC:=AA hall;have HB:=AA hb;clear hq hall hb;by_cases hlt:k < m1
 case neg=>
  obtain rfl:k=m1:=AG
  go_wp2_with fail;go_ret;rw [HE.o,EC.o];exact ⟨rfl,AV HB1.o HB.o⟩
 obtain ⟨b,off,x,hF1,hbl,hx,e0,e1,e2,e3,e4,e5,e6,e7⟩:=Np HF.o hlt;subst hF1;have hbw:AK w0 wr:=AV HB0.o (AV HB1.o HB.o);rw [<-hbw.cell (p:=⟨b,_,none⟩) hbl] at e0 e1 e2 e3 e4 e5 e6 e7;have AFs:b < wr.heap.size:=Au hbl hbw.size;obtain ⟨a0,a1,a2,a3,a4,a5,a6,a7,a8,a9,a10⟩:=(HA.o.below HB.o lA).eleven;have tO:ga < wr.heap.size:=Au lA HB.o.size;have hk0:=Int.natCast_nonneg k
 have hk1:(k:Int) < (m1:Int):=AG
 have HX:=AA hx;have CO:=AA hbw;clear hx hbw;by_cases hs:0<=x.schema/\x.schema < n3
 case neg=>
  have HN:AI (Hw ss fs=false):=AA (Tb HX.o (ACc (by rw [<-IB.o];exact hs)));go_wp2_with fail
  all_goals first
   | (exfalso;omega)
   | (go_ret;exact ⟨Ay HN.o.symm,AV HB1.o (HB.o.alloc HB.o.size _)⟩)
 obtain ⟨hs0,hs1⟩:=hs;have VE:AI (0<=x.schema/\x.schema < ss.length):=AA ⟨hs0,by rw [<-IB.o];exact hs1⟩;by_cases hv:x.An.var= -1
 ·have hvb:(x.An.var== -1)=true:=by simpa using hv
  have I3:=AA (ACa (fs:=fs) (k:=k) VE.o hv);clear hv;go_wp2_with fail;go_roundg (m1 - (k+1))
  case measure=>exact BS
  case rel=>exact ⟨k+1,by omega,rfl,by go_num,by rw [WH HX.o,EC.o,I3.o];rfl,HB.o.alloc HB.o.size _⟩
 have hvb:(x.An.var== -1)=false:=by simpa using hv
 have I3:=AA (ACb (fs:=fs) (k:=k) VE.o hv);clear hv;have HT:=AA (fun o=>O8.o x.An k (wr.alloc o) hk (CO.o.alloc CO.o.size o));obtain ⟨o,ho⟩:=BP (Fp ss fs x.An k);rw [ho] at HT I3;clear ho;cases o with
 |
  none=>
  have HN:AI (Hw ss fs=false):=AA (Tb HX.o I3.o);go_wp2_with (go_at_call 219;refine (HT.o _).mono ?_;clear HT;rintro e w2 ⟨⟨B,m,d,rfl,hs⟩,hb2⟩;have HB2:=AA ((HB.o.alloc HB.o.size _).trans (hb2.mono UL));clear hs hb2);go_ret;exact ⟨Ay HN.o.symm,AV HB1.o (HB2.o.alloc HB2.o.size _)⟩
 |
  some y=>
  obtain ⟨yk,yl,yh,yf,yu,yn⟩:=y;by_cases h3:yk=3
  ·subst h3
   go_wp2_with (go_at_call 219;refine (HT.o _).mono ?_;clear HT;rintro e w2 ⟨⟨B,m,d,rfl,hs⟩,hb2⟩;have HB2:=AA ((HB.o.alloc HB.o.size _).trans (hb2.mono UL));clear hs hb2;simp only [Cc,Fh]);go_roundg (m1 - (k+1))
   case measure=>exact BS
   case rel=>exact ⟨k+1,by omega,rfl,by go_num,by rw [WH HX.o,EC.o,I3.o];rfl,HB2.o.alloc HB2.o.size _⟩
  have h3b:(yk !=3)=true:=by simpa using h3
  have HN:AI (Hw ss fs=false):=AA (Tb HX.o (by rw [I3.o];simpa using h3));clear h3;go_wp2_with (go_at_call 219;refine (HT.o _).mono ?_;clear HT;rintro e w2 ⟨⟨B,m,d,rfl,hs⟩,hb2⟩;have HB2:=AA ((HB.o.alloc HB.o.size _).trans (hb2.mono UL));clear hs hb2;simp only [Cc,Fh]);go_ret;exact ⟨Ay HN.o.symm,AV HB1.o (HB2.o.alloc HB2.o.size _)⟩
def chunk (cs:List AN) (sz i:Nat):List AN:=(cs.drop (i*sz)).take sz
theorem P4 {cs:List AN} {sz i j:Nat} (hj:j < sz):(chunk cs sz i)[j]? =cs[i*sz+j]? :=by unfold chunk;rw [Jl hj,EP]
theorem Ek {cs:List AN} {sz i j:Nat} (u:AN) (hj:j < sz):chunk (cs.set (i*sz+j) u) sz i=(chunk cs sz i).set j u:=by
 apply N6;intro k;rcases Ec k sz with hk | hk
 ·rw [P4 hk,RE,RE,P4 hk]
  by_cases e:j=k
  ·subst e
   rw [Ao rfl,Ao rfl];unfold chunk;rw [ER,JN];by_cases h:i*sz+j < cs.length
   · rw [Ao h,Ao AG]
   · rw [Ai h,Ai AG]
  · rw [Ai AG,Ai e]
 · rw [DT eY,DT (by rw [FM];unfold chunk;rw [ER];omega)]
theorem FH {cs:List AN} {sz i i' j:Nat} (u:AN) (hj:j < sz) (hi:i'≠i):chunk (cs.set (i*sz+j) u) sz i'=chunk cs sz i':=by
 apply N6;intro k;rcases Ec k sz with hk | hk
 ·rw [P4 hk,P4 hk,RE]
  rw [Ai];intro e;apply hi;rcases Nat.lt_trichotomy i i' with h | h | h
  ·exfalso
   have:i*sz+sz<=i'*sz:=by rw [<-Mr];exact Mv _ h
   omega
  · exact h.symm
  exfalso;have:i'*sz+sz<=i*sz:=by rw [<-Mr];exact Mv _ h
  omega
 · rw [DT eY,DT eY]
theorem Aq.chunk {α:Type} {sz:Nat} {R:AH->List AN->α->Prop} {w:AH} {cs:List AN} {l:List α} (h:Aq sz R w cs l) {i:Nat} {x:α} (hi:l[i]? =some x):R w (Proofs.YtamhoilkpppdbaaGreatDoor.chunk cs sz i) x:=h.2 i x hi
theorem Aq.put {α:Type} {sz:Nat} {R:AH->List AN->α->Prop} {w:AH} {cs:List AN} {l:List α} (h:Aq sz R w cs l) {i j:Nat} {x':α} {u:AN} (hj:j < sz) (hi:i < l.length) (hR:R w ((Proofs.YtamhoilkpppdbaaGreatDoor.chunk cs sz i).set j u) x'):Aq sz R w (cs.set (i*sz+j) u) (l.set i x'):=by
 refine ⟨by rw [FM,FM];exact h.1,fun k y hk=> ?_⟩;rw [RE] at hk;by_cases e:i=k
 ·subst e
  rw [Ao rfl,Ao hi,Bu] at hk;subst hk;show R w (Proofs.YtamhoilkpppdbaaGreatDoor.chunk _ sz i) x';rw [Ek u hj];exact hR
 rw [Ai e] at hk;show R w (Proofs.YtamhoilkpppdbaaGreatDoor.chunk _ sz k) y;rw [FH u hj (fun e'=>e e'.symm)];exact h.2 k y hk
theorem BF {w:AH} {base:Nat} {e:Af} {sz g n cap:Nat} {cs:List AN} (h:w.ownsRow base e sz (AB (some ⟨g,0,none⟩) n cap) n cs) {i j:Nat} {c:List AN} {u:AN} (hi:i < n) (hj:j < sz) (hc:chunk cs sz i=c) (hu:c[j]? =some u):w.cell? ⟨g,i*sz+j,none⟩=some u:=by
 have hlt:i*sz+j < n*sz:=by
  have:i*sz+sz<=n*sz:=by rw [<-Mr];exact Mv _ hi
  omega
 rw [h.cellAt _ hlt,<-P4 hj,hc,hu]
theorem set_drop {α:Type} {out l:List α} {x:α} {k:Nat} (hk:out.length=k) {y:α} (hx:l[k]? =some y):(out++l.drop k).set k x=(out++[x])++l.drop (k+1):=by subst hk;rw [drop_cons hx,YV _ _ (Ac _),PK,Ct,Jk];rfl
def Y4 (s:List (ByteArray×Int)×Bool) (i:Nat) (x:ByteArray):List (ByteArray×Int)×Bool:=
 if (getM s.1 x).isSome then (s.1,true) else (Hb s.1 x (i:Int),s.2)
def Br (l:List ByteArray):Nat->List (ByteArray×Int)×Bool
 | 0=>([],false)
 |
  k+1=>match l[k]? with
  | some x=>Y4 (Br l k) k x
  | none=>Br l k
def col (l:List ByteArray):List (ByteArray×Int)×Bool:=Br l l.length
theorem GQ {l:List ByteArray} {k:Nat} {x:ByteArray} (h:l[k]? =some x):Br l (k+1)=Y4 (Br l k) k x:=by rw [Br,h]
theorem MZ {s:List (ByteArray×Int)×Bool} {i:Nat} {x:ByteArray} {n:Int} (h:getM s.1 x=some n):Y4 s i x=(s.1,true):=by simp [Y4,h]
theorem Nv {s:List (ByteArray×Int)×Bool} {i:Nat} {x:ByteArray} (h:getM s.1 x=none):Y4 s i x=(Hb s.1 x (i:Int),s.2):=by simp [Y4,h]
def idx (l:List ByteArray) (x:ByteArray):Option Nat:=l.findIdx? (fun y=>decide (y=x))
theorem ABu (l:List ByteArray) (y x:ByteArray):idx (l++[y]) x=(idx l x).or (if y=x then some l.length else none):=by
 unfold idx;rw [List.findIdx?_append];congr 1;by_cases h:y=x
 · simp [h]
 · simp [h]
theorem oP (l:List ByteArray):∀k,k<=l.length->∀x,getM (Br l k).1 x=(idx (l.take k) x).map (fun n:Nat=>(n:Int))
 | 0,_,x=>rfl
 |
  k+1,hk,x=>by
  have hl:l[k]? =some l[k]:=BJ hk;have ih:=oP l k AG;rw [GQ hl,take_snoc hl,ABu];cases hg:getM (Br l k).1 l[k] with
  |
   some n=>
   rw [MZ hg,ih x];by_cases h:l[k]=x
   ·have:=ih l[k]
    rw [hg,h] at this;cases hi:idx (l.take k) x with
    | none=>rw [hi] at this;cases this
    | some m=>rfl
   ·rw [Ai h]
    cases idx (l.take k) x <;> rfl
  |
   none=>
   rw [Nv hg,oD];have h0:=ih l[k];rw [hg] at h0;by_cases h:x=l[k]
   ·rw [Ao h,Ao h.symm,h]
    cases hi:idx (l.take k) l[k] with
    | none=>simp;omega
    | some m=>rw [hi] at h0;cases h0
   rw [Ai h,Ai (fun e=>h e.symm),ih x];cases idx (l.take k) x <;> rfl
theorem Hx (l:List ByteArray) (x:ByteArray):getM (col l).1 x=(idx l x).map (fun n:Nat=>(n:Int)):=by
 have:=oP l l.length (Ac _) x
 rwa [PO] at this
def DP (l:List ByteArray):Bool:=(col l).2
def U7 (l:List ByteArray) (w:AH) (e:Ending) (w':AH):Prop:=
 ∃b,e=AU (BQ #[.map (some b),Ab (DP l)])/\MapAt (fun x:ByteArray=>Value.string x) (fun x:Int=>Value.int .i64 x) w' b (col l).1/\w.heap.size<=b/\AK w w'
abbrev Hq (x:ByteArray):AN:=Value.string x
abbrev Gb (x:Int):AN:=Value.int .i64 x
abbrev SMap:Type:=List (ByteArray×Int)
def CH (w w':AH):Prop:=∀(b:Nat) (es:Array MapEntry) (clock:Nat),w.heap[b]? =some (Obj.map es clock)->w'.heap[b]? =some (Obj.map es clock)
theorem CH.refl (w:AH):CH w w:=fun _ _ _ h=>h
theorem CH.trans {a b c:AH} (h:CH a b) (h':CH b c):CH a c:=fun k es cl e=>h' k es cl (h k es cl e)
theorem CH.below {w w':AH} (h:AK w w'):CH w w':=fun b _ _ e=>(h.block b (C6.1 e).1).trans e
theorem CH.put (w:AH) (p:Aa) (v:AN):CH w (w.setCell p v):=by
 intro b es cl e;by_cases h:b=p.block
 ·subst h
  simp [World.setCell,Array.getElem?_modify,e]
 · exact (D6 w p v b h).trans e
theorem CH.grown {w w':AH} {row:Option Nat} (h:w.grownBy w' row) (hr:∀g,row=some g->∃cs t f,w.heap[g]? =some (Obj.cells cs t f)):CH w w':=by intro b es cl e;refine (h.block b (C6.1 e).1 ?_).trans e;intro e';obtain ⟨cs,t,f,hc⟩:=hr b e'.symm;rw [e] at hc;cases hc
theorem CH.own {w w':AH} {base:Nat} {t:Af} {sz:Nat} {v:AN} {n:Nat} {xs:List AN} (ho:w.ownsRow base t sz v n xs) (h:w.grownBy w' v.ownBlock):CH w w':=by
 refine CH.grown h (fun g e=> ?_);rcases ho.2 with ⟨rfl,_⟩ | ⟨g',cap,cur,rfl,_,hh,_⟩
 · cases e
 simp only [Value.ownBlock,Bu] at e;subst e;exact ⟨_,_,_,hh⟩
theorem MapAt.keeps {κ ν:Type} {ek:κ->AN} {ev:ν->AN} {w w':AH} {b:Nat} {m:List (κ×ν)} (h:MapAt ek ev w b m) (hk:CH w w'):MapAt ek ev w' b m:=by obtain ⟨es,clock,h1,h2⟩:=h;exact ⟨es,clock,hk b es clock h1,h2⟩
theorem MapAt.below {κ ν:Type} {ek:κ->AN} {ev:ν->AN} {w w':AH} {b:Nat} {m:List (κ×ν)} (h:MapAt ek ev w b m) (hb:AK w w'):MapAt ek ev w' b m:=h.keeps (.below hb)
def Pw (w:AH) (cs:List AN) (m:SMap):Prop:=∃b,cs=[.map (some b)]/\MapAt Hq Gb w b m
theorem cX {w w':AH} (hk:CH w w') {cs:List AN} {m:SMap} (h:Pw w cs m):Pw w' cs m:=by obtain ⟨b,e,hm⟩:=h;exact ⟨b,e,hm.keeps hk⟩
theorem XM:Eb Pw:=fun _ _ hb _ _ h=>cX (.below hb) h
theorem Aq.keeps {w w':AH} (hk:CH w w') {cs:List AN} {l:List SMap} (h:Aq 1 Pw w cs l):Aq 1 Pw w' cs l:=⟨h.1,fun i x hi=>cX hk (h.2 i x hi)⟩
theorem Us {w:AH} {A:Option Aa} {n cap:Nat} {l:List SMap} (h:Ag 1 Pw w (AB A n cap) l) {k:Nat} (hk:k < n):
 ∃b off x g,A=some ⟨b,off,none⟩/\b < w.heap.size/\l[k]? =some x/\w.cell? ⟨b,off+k,none⟩=some (.map (some g))/\MapAt Hq Gb w g x:=by
 obtain ⟨b,off,x,cs,e,hb,hl,hlen,hc,g,rfl,hm⟩:=h.at_ hk;exact ⟨b,off,x,g,e,hb,hl,by simpa using hc 0 _ rfl,hm⟩
def G7 (s:BB):List ByteArray:=s.units.map (·.name)
def By (s:BB):List ByteArray:=s.Ap.map (·.name)
def Od (s:BB):List ByteArray:=s.purposes.map (·.name)
def fieldNames (x:BL):List ByteArray:=x.fields.map (·.name)
def Sp (x:Ce):List ByteArray:=x.froms.map (·.name)
def fieldMap (x:BL):SMap:=(col (fieldNames x)).1
def NU (s:BB):Bool:=DP s.Bg || DP (G7 s) || DP (By s) || DP (Od s) || s.Ap.any (fun x=>DP (fieldNames x)) || s.rules.any (fun x=>DP (Sp x))
def Jf (w:AH) (R:Nat) (s:BB):Prop:=
 ∃b1 b2 b3 A n c,AZ w R 271 #[.map (some b1),.map (some b2),.map (some b3),AB A n c]/\MapAt Hq Gb w b1 (col s.Bg).1/\MapAt Hq Gb w b2 (col (G7 s)).1/\MapAt Hq Gb w b3 (col (By s)).1/\Ag 1 Pw w (AB A n c) (s.Ap.map fieldMap)
theorem Jf.below {w w':AH} {R:Nat} {s:BB} (h:Jf w R s) (hb:AK w w'):Jf w' R s:=by obtain ⟨b1,b2,b3,A,n,c,h0,h1,h2,h3,h4⟩:=h;exact ⟨b1,b2,b3,A,n,c,h0.below hb h0.lt,h1.below hb,h2.below hb,h3.below hb,h4.mono XM hb⟩
def AAm (s:BB) (w:AH) (e:Ending) (w':AH):Prop:=
 ∃R,e=AU (BQ #[AW (some ⟨R,0,none⟩),Ab (NU s)])/\Jf w' R s/\w.heap.size<=R/\AK w w'
def mask (lo M:Nat) (w:AH):AH:={w with heap:=w.heap.mapIdx (fun b o=>if lo<=b/\b < M then .cells #[] 0 else o)}
section
variable {lo M:Nat} {w w':AH}
theorem EI:(mask lo M w).heap.size=w.heap.size:=by simp [mask]
theorem G8 {b:Nat} (h:b < lo\/M<=b):(mask lo M w).heap[b]? =w.heap[b]? :=by
 simp only [mask,RK];cases w.heap[b]? with
 | none=>rfl
 | some o=>rw [Cl,Ai AG]
theorem LW {b:Nat} (h:lo<=b/\b < M) (hb:b < w.heap.size):(mask lo M w).heap[b]? =some (AO #[] 0):=by simp only [mask,RK];rw [Yd hb,Cl,Ao h]
theorem XL {b o:Nat} {v:AN} (h:(mask lo M w).cell? ⟨b,o,none⟩=some v):w.cell? ⟨b,o,none⟩=some v:=by
 by_cases hb:b < lo\/M<=b
 ·rw [<-h]
  exact (Kl (G8 hb)).symm
 exfalso;by_cases hs:b < w.heap.size
 · simp [World.cell?,LW (w:=w) (lo:=lo) (M:=M) (b:=b) AG hs] at h
 have:(mask lo M w).heap[b]? =none:=by rw [Mz];rw [EI];omega
 simp [World.cell?,this] at h
theorem Cw {G:Nat} (hg:w.grownBy w' (some G)) (h1:lo<=G) (h2:G < M):BI (mask lo M w).heap.size (mask lo M w) (mask lo M w'):=by
 refine ⟨hg.os,hg.tape,hg.output,by rw [EI,EI];exact hg.size,fun k hk=> ?_⟩;rw [EI] at hk;by_cases hb:k < lo\/M<=k
 ·rw [G8 hb,G8 hb]
  exact hg.block k hk (fun e=>by injection e;omega)
 · rw [LW AG hk,LW AG (Au hk hg.size)]
theorem ZQ (hg:AK w w'):BI (mask lo M w).heap.size (mask lo M w) (mask lo M w'):=by
 refine ⟨hg.os,hg.tape,hg.output,by rw [EI,EI];exact hg.size,fun k hk=> ?_⟩;rw [EI] at hk;by_cases hb:k < lo\/M<=k
 ·rw [G8 hb,G8 hb]
  exact hg.block k hk
 · rw [LW AG hk,LW AG (Au hk hg.size)]
theorem LV {base:Nat} {e:Af} {sz:Nat} {v:AN} {n:Nat} {cs:List AN} (h:w.ownsRow base e sz v n cs) (hb:M<=base):(mask lo M w).ownsRow base e sz v n cs:=by
 refine ⟨h.1,?_⟩;rcases h.2 with h | ⟨g,cap,cur,h1,h2,h3,h4⟩
 · exact .inl h
 · exact .inr ⟨g,cap,cur,h1,h2,(G8 (.inr AG)).trans h3,h4⟩
theorem Rq {κ ν:Type} {ek:κ->AN} {ev:ν->AN} {b:Nat} {m:List (κ×ν)} (h:MapAt ek ev (mask lo M w) b m):MapAt ek ev w b m:=by
 obtain ⟨es,clock,h1,h2⟩:=h;refine ⟨es,clock,?_,h2⟩;by_cases hb:b < lo\/M<=b
 · rw [<-h1];exact (G8 hb).symm
 exfalso;have hs:b < w.heap.size:=by have:=(C6.1 h1).1;rwa [EI] at this
 rw [LW AG hs] at h1;cases h1
theorem m8 {g:Nat} {t:Af} {cs:Array AN} (h:AZ (mask lo M w) g t cs) (hc:cs≠#[]):AZ w g t cs:=by
 by_cases hb:g < lo\/M<=g
 · exact (G8 hb).symm.trans h
 exfalso;have hs:g < w.heap.size:=by have:=h.lt;rwa [EI] at this
 have h1:(mask lo M w).heap[g]? =some (AO cs t (0,0)):=h;rw [LW AG hs] at h1;injection h1 with h1;injection h1 with h1;exact hc h1.symm
def Nb {α:Type} (R:AH->List AN->α->Prop):Prop:=∀(lo M:Nat) (w:AH) (cs:List AN) (x:α),R (mask lo M w) cs x->R w cs x
theorem Ag.Hz {α:Type} {sz:Nat} {R:AH->List AN->α->Prop} (hR:Nb R) {v:AN} {l:List α} (h:Ag sz R (mask lo M w) v l):Ag sz R w v l:=by obtain ⟨A,cap,e,h1,h2,h3⟩:=h;refine ⟨A,cap,e,h1,h2,fun i x hi=> ?_⟩;obtain ⟨b,off,cs,rfl,hlt,hl,hc,hr⟩:=h3 i x hi;exact ⟨b,off,cs,rfl,by rwa [EI] at hlt,hl,fun j u hu=>XL (hc j u hu),hR _ _ _ _ _ hr⟩
theorem BT.Hz {α:Type} {sz bytes:Nat} {R:AH->List AN->α->Prop} (hR:Nb R) {v:AN} {l:List α} (h:BT sz bytes R (mask lo M w) v l):BT sz bytes R w v l:=⟨h.1.Hz hR,h.2⟩
theorem Vd (w0:AH) (h:AK w0 w) (hlo:w0.heap.size<=lo):AK w0 (mask lo M w):=
 ⟨h.os,h.tape,h.output,by rw [EI];exact h.size,fun k hk=>(G8 (.inl AG)).trans (h.block k hk)⟩
theorem cV {H:Option Nat} (hg:w.grownBy w' H):(mask lo M w).grownBy (mask lo M w') H:=by
 refine ⟨hg.os,hg.tape,hg.output,by rw [EI,EI];exact hg.size,fun k hk hne=> ?_⟩;rw [EI] at hk;by_cases hb:k < lo\/M<=k
 ·rw [G8 hb,G8 hb]
  exact hg.block k hk hne
 · rw [LW AG hk,LW AG (Au hk hg.size)]
theorem Ag.sm {α:Type} {sz:Nat} {R:AH->List AN->α->Prop} {v:AN} {l:List α} (h:Ag sz R (mask lo M w) v l):Ag sz (fun _=>R (mask lo M w)) w v l:=by obtain ⟨A,cap,e,h1,h2,h3⟩:=h;refine ⟨A,cap,e,h1,h2,fun i x hi=> ?_⟩;obtain ⟨b,off,cs,rfl,hlt,hl,hc,hr⟩:=h3 i x hi;exact ⟨b,off,cs,rfl,by rwa [EI] at hlt,hl,fun j u hu=>XL (hc j u hu),hr⟩
theorem Aq.Hz {α:Type} {sz:Nat} {R:AH->List AN->α->Prop} (hR:Nb R) {cs:List AN} {l:List α} (h:Aq sz R (mask lo M w) cs l):Aq sz R w cs l:=⟨h.1,fun i x hi=>hR _ _ _ _ _ (h.2 i x hi)⟩
theorem ABc:Nb Pw:=by rintro lo M w cs x ⟨b,e,h⟩;exact ⟨b,e,Rq h⟩
theorem Jf.Hz {R:Nat} {s:BB} (h:Jf (mask lo M w) R s):Jf w R s:=by obtain ⟨b1,b2,b3,A,n,c,h0,h1,h2,h3,h4⟩:=h;exact ⟨b1,b2,b3,A,n,c,m8 h0 AX,Rq h1,Rq h2,Rq h3,h4.Hz ABc⟩
end
theorem Ri:Nb DQ:=fun _ _ _ _ _ h=>h
theorem AFE:Nb iR:=fun _ _ _ _ _ h=>h
theorem uW:Nb CD:=fun _ _ _ _ _ h=>h
theorem cJ:Nb EH:=fun _ _ _ _ _ h=>h
theorem cH:Nb DH:=fun _ _ _ _ _ h=>h
theorem iZ:Nb GZ:=fun _ _ _ _ _ h=>h
theorem cG:Nb GF:=fun _ _ _ _ _ h=>h
theorem ia:Nb IH:=fun _ _ _ _ _ h=>h
theorem qG:Nb EU:=by rintro lo M w cs x ⟨A1,n1,c1,h0,h1⟩;exact ⟨A1,n1,c1,h0,h1.Hz Ri⟩
theorem ib:Nb Hc:=by rintro lo M w cs x ⟨A1,n1,c1,A2,n2,c2,h0,h1,h2⟩;exact ⟨A1,n1,c1,A2,n2,c2,h0,h1.Hz Ri,h2.Hz AFE⟩
theorem mQ:Nb BU:=by rintro lo M w cs x ⟨A1,n1,c1,A2,n2,c2,h0,h1,h2⟩;exact ⟨A1,n1,c1,A2,n2,c2,h0,h1.Hz qG,h2.Hz ib⟩
theorem uZ:Nb CF:=by rintro lo M w cs x ⟨A1,n1,c1,A2,n2,c2,A3,n3,c3,h0,h1,h2,h3⟩;exact ⟨A1,n1,c1,A2,n2,c2,A3,n3,c3,h0,h1.Hz cH,h2.Hz cJ,h3.Hz iZ⟩
theorem jv:Nb Bw:=by rintro lo M w cs x ⟨A1,n1,c1,h0,h1⟩;exact ⟨A1,n1,c1,h0,h1.Hz cG⟩
theorem jr:Nb BW:=by rintro lo M w cs x ⟨A1,n1,c1,h0,h1⟩;exact ⟨A1,n1,c1,h0,h1.Hz ia⟩
abbrev Gf (x:ByteArray):AN:=Value.string x
abbrev Gj (x:Int):AN:=Value.int .i64 x
def Bq:List PanicEntry:=[{v:=.iface 257 (AP #[]),recovered:=false}]
theorem FW (b:Nat) (m:List (ByteArray×Int)) (x:ByteArray) (n:Int) (w:AH) (hm:MapAt Gf Gj w b m) (hg:getM m x=some n):
 AS prog 209 #[.map (some b),AL x] w fun e w'=>e=AU (AE AF n)/\w=w':=by
 have hlook:=C8 (DB underlying9) underlying268 (z:=AE AF 0) AJ hm x true;rw [hg] at hlook;simp only [C5,Cl,Cc,Fh] at hlook;clear hg hm;go_enter func209,ntmps209
 go_wp2
 exact OZ
theorem G6 (b:Nat) (m:List (ByteArray×Int)) (x:ByteArray) (w:AH) (hm:MapAt Gf Gj w b m) (hg:getM m x=none):
 AS prog 209 #[.map (some b),AL x] w fun e w'=>e=.panicked Bq/\w=w':=by
 have hlook:=C8 (DB underlying9) underlying268 (z:=AE AF 0) AJ hm x true;rw [hg] at hlook;simp only [C5,JJ,Jj,Gv] at hlook;clear hg hm;go_enter func209,ntmps209
 go_wp2
 exact ⟨rfl,rfl,rfl⟩
theorem Wk (x:Bt) (w:AH):
 AS prog 200 #[AP #[AL x.name,AL x.An,AE AF x.factor,AE AF x.base,AE AF x.scale]] w fun e w'=>e=AU (AL x.name)/\w.alloc (AO #[AL x.name,AL x.An,AE AF x.factor,AE AF x.base,AE AF x.scale] 201)=w':=by
 go_enter func200,ntmps200
 go_wp2
 exact OZ
theorem Uf (A1 A2:Option Aa) (n1 c1 n2 c2:Nat) (x:BL) (w:AH):
 AS prog 202 #[AP #[AL x.name,AL x.FD,AE AF x.Ar,AE AF x.version,AB A1 n1 c1,AB A2 n2 c2]] w fun e w'=>e=AU (AL x.name)/\w.alloc (AO #[AL x.name,AL x.FD,AE AF x.Ar,AE AF x.version,AB A1 n1 c1,AB A2 n2 c2] 85)=w':=by
 go_enter func202,ntmps202
 go_wp2
 exact OZ
theorem WJ (A1:Option Aa) (n1 c1:Nat) (x:GT) (w:AH):
 AS prog 206 #[AP #[AL x.name,AE AF x.type.kind,AE AF x.type.lo,AE AF x.type.hi,AL x.type.An,AE AF x.type.unit,AB A1 n1 c1,AE AF x.w0,AE AF x.w1,AE AF x.w2,AE AF x.w3]] w fun e w'=>e=AU (AL x.name)/\w.alloc (AO #[AL x.name,AE AF x.type.kind,AE AF x.type.lo,AE AF x.type.hi,AL x.type.An,AE AF x.type.unit,AB A1 n1 c1,AE AF x.w0,AE AF x.w1,AE AF x.w2,AE AF x.w3] 112)=w':=by
 go_enter func206,ntmps206
 go_wp2
 exact OZ
theorem Xb (x:B0) (w:AH):
 AS prog 208 #[AP #[AL x.name,AL x.kind,AE AF x.schema,AL x.An.name,AL x.An.path,AE AF x.An.var,AE AF x.An.field,AE AF x.An.n]] w fun e w'=>e=AU (AL x.name)/\w.alloc (AO #[AL x.name,AL x.kind,AE AF x.schema,AL x.An.name,AL x.An.path,AE AF x.An.var,AE AF x.An.field,AE AF x.An.n] 298)=w':=by
 go_enter func208,ntmps208
 go_wp2
 exact OZ
theorem Sg (A1:Option Aa) (n1 c1:Nat) (x:Cd) (w:AH):
 AS prog 204 #[AP #[AL x.name,AB A1 n1 c1,AE AF x.most]] w fun e w'=>e=AU (AL x.name)/\w.alloc (AO #[AL x.name,AB A1 n1 c1,AE AF x.most] 166)=w':=by
 go_enter func204,ntmps204
 go_wp2
 exact OZ
theorem co (x:ByteArray) (w:AH):AS prog 198 #[AL x] w fun e w'=>e=AU (AL x)/\w=w':=by
 go_enter func198,ntmps198
 go_wp2
 exact OZ
end Go.Proofs.YtamhoilkpppdbaaGreatDoor
