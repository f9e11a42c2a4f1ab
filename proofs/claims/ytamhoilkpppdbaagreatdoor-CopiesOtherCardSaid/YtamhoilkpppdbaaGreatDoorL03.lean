import Derived.Test.YtamhoilkpppdbaaGreatDoorL02
namespace Go.Proofs.YtamhoilkpppdbaaGreatDoor
set_option maxHeartbeats 8000000
set_option maxRecDepth 100000
open Go renaming World→AH, Value→AN, Calls→AS, TypeId→Ae, Addr→Aa
open Go.RowKit renaming Below→BL
open Go.Proofs.Tryz
variable (A1 A2 A3 A4 A5 A6:Option Aa) (n1 c1 n2 c2 n3 c3 n4 c4 n5 c5 n6 c6:Nat)
open Go.Value renaming slice→AA, int→AB, string→AL, pointer→AU, bool→Ab, agg→AP, tuple→BU
open Go.IntKind renaming i64→AE
open Go.Ending renaming returned→AW
open Go.Obj renaming cells→AO
open Go.RowKit Go.Shelf
attribute [local go_sem] Oper.semAt_some
theorem mX (bg M n base0:Nat) (hs:List (Int×Nat)) (rs:List Cm) (w:AH) (hbg:AY w bg 214 #[AB AE n,.map (some M)]) (hG:Fq w base0 M hs (Bp rs)) (hin:∀h y,y∈Bp rs h->0<=y/\y < n) (hn:n<=1000):
 AS prog 181 #[AA none 0 0,.func (.func 182) #[] #[AU (some ⟨bg,0,none⟩)]] w fun e w'=>∃v,e=AW v/\w'.ownsRow w.heap.size 3 1 v (Cx rs n).length ((Cx rs n).map (Value.int .i64))/\AK w w':=by
 refine (FK (n:=8)).1 ?_;obtain ⟨i0,hi,hz0,hz1,hz2⟩:=I8 WL;obtain ⟨HI,HZ,fW,HG,Rg⟩:=Db hi (And.intro hz0 (And.intro hz1 hz2)) hbg hG hin;clear hi hz0 hz1 hz2 hbg hG hin;refine callsIn_of_wp_marks func181 rfl trivial ?_ rfl;simp only [ntmps181,R2,F6,Pw,Nat.reduceAdd,Nat.reduceSub,Ur,Us,Uo,Uq,IJ,MU];refine D6.2 ?_;go_wp2_with fail;refine (D6 (n:=8)).1 ?_;have hlt:bg < w.heap.size:=fW.o.lt;have hsz:(w.alloc (AO #[AA none 0 0] 30)).heap.size=w.heap.size+1:=AZ
 have hb0:AK w (w.alloc (AO #[AA none 0 0] 30)):=(Af _ _).alloc (Ac _) _;refine ap (F:=Fence.wide) (n₀:=w.heap.size) (B2:=w.heap.size) (N:=n) rfl AG (gf:=182) (lb:=#[AU (some ⟨bg,0,none⟩)]) rfl trivial (enters_of func182 AJ rfl)
  (tW 7 w.heap.size w.heap.size bg M n base0 hs rs _ (fW.o.alloc _) (HG.o.below hb0) Rg.o hn AZ AZ) (fun _=>rfl) AZ AZ
  (fun pre W=>(∃v,Boxed W w.heap.size 30 v/\W.ownsRow w.heap.size 3 1 v pre.length (pre.map (Value.int .i64)))/\AK w W)
  ?abides ?points ?start
  (fun x=>{tmps:=#[AA none 0 0,.func (.func 182) #[] #[AU (some ⟨bg,0,none⟩)],AU (some ⟨w.heap.size,0,none⟩),undef,AA none 0 0,AB AE x,.func (.func 182) #[] #[AU (some ⟨bg,0,none⟩)],AB AE x,undef,undef,undef,undef,undef],defers:=[]})
  ?assign ?body ?done
 case abides=>
  rintro s A C ⟨⟨v,hv,hr⟩,hB⟩ ho;rw [hsz] at ho;have hpt:EK w.heap.size A=v.ownBlock:=GR (t:=30) hv;have hBC:AK w C:=⟨ho.os.trans hB.os,ho.tape.trans hB.tape,ho.output.trans hB.output,BH hB.size ho.size,fun b hb=>(ho.block b (Av hb hB.size) (.inl AG)).trans (hB.block b hb)⟩;refine ⟨⟨v,(ho.block w.heap.size hv.lt (.inl AG)).trans hv,hr.1,?_⟩,hBC⟩;rcases hr.2 with h | ⟨g,cap,cur,hv2,hg,hh,rest⟩
  · exact .inl h
  · exact .inr ⟨g,cap,cur,hv2,hg,(ho.block g (DF.1 hh).1 (.inr (by rw [hpt,hv2];rfl))).trans hh,rest⟩
 case points=>rintro pre W ⟨⟨v,hv,hr⟩,hB⟩ b hb;rw [GR (t:=30) hv] at hb;obtain ⟨cur,hc⟩:=pE hr hb;exact ⟨(hr.lt b hb).1,cur,_,_,hc⟩
 case start=>exact ⟨⟨AA none 0 0,Boxed.new _ _ _,Ef _ _ _ _⟩,hb0⟩
 case assign=>
  intro l x W K hK
  gi_wp2
  exact hK
 case body=>
  rintro l pre x W ⟨⟨v,hv,hr⟩,hB⟩ hlen;have hc:=hv.cell;obtain ⟨HV,HR,HB⟩:=BB hv hr hB;have hBs:=hB.size;clear hv hr hB
  gi_wp2_with (gi_at_builtin;refine wpListIn_append_own_at _ rfl (.tmp 8) (.tmp 10) 30 rfl w.heap.size 3 i0 (AB AE 0) 1 8 underlying30 HI.o HZ.o.1 HZ.o.2.1 HZ.o.2.2 rfl Ai v pre.length _ rfl (HR.o.alloc _) ⟨W.heap.size,0,none⟩ 1 1 [AB AE x] rfl rfl (cell_one_new _ _ _) Qi Gx AG Bd ?_;intro v' w1 hown' hgrow _ hat;obtain ⟨g',cap',rfl⟩:=ownsRow_succ hown';have HA:=AF (HV.o.appended Ai HR.o hBs (Ac _) hown' hgrow);have hc1:=HA.o.1.cell;have hf1:=HA.o.1.frozen;have Gp:=AF hgrow;have HAT:=AF hat;clear hown' hgrow hat)
  obtain ⟨ha1,ha2,ha3,ha4,Og⟩:=HA.o;have AHv:EK w.heap.size W=v.ownBlock:=GR (t:=30) HV.o;have AHw:EK w.heap.size (w1.setCell ⟨w.heap.size,0,none⟩ (AA (some ⟨g',0,none⟩) (pre.length+1) cap'))=some g':=GR (t:=30) ha2;refine ⟨ha4,⟨Og.size,fun b hb hbl hbp=> ?_,?_,fun b hb=> ?_⟩,⟨_,ha2,ha3⟩,HB.o.trans Og⟩
  ·have hne:b≠w.heap.size:=by omega
   refine (C5 _ _ _ b hne).trans ((Gp.o.block b Bd (fun e=>hbp (by rw [AHv,e]))).trans (LR W _ b hbl))
  ·rw [AHw,AHv]
   rcases HAT.o with e | e
   · exact .inl e
   · exact .inr ⟨g',rfl,by
    injection e with e;simp at e;omega⟩
  rw [AHw] at hb;injection hb with hb;subst hb;exact (ha3.lt g' rfl).2
 rintro D xs W hD rfl ⟨⟨v,hv,hr⟩,hB⟩ hK;have hc:=hv.cell;go_wp2_with fail;refine ⟨by simp,.inl ⟨_,_,rfl,run_takeDeferred hK,?_⟩⟩;exact ⟨_,results_tmp rfl _ _ _,v,rfl,ownsRow_putObj hr _ hK rfl,hB.trans (belowK_b (w:=w) (Ac _) W D _ _ (by simp at hD;omega) hK rfl rfl)⟩
theorem tG (bg M n base0:Nat) (hs:List (Int×Nat)) (rs:List Cm) (w:AH) (hbg:AY w bg 214 #[AB AE n,.map (some M)]) (hG:Fq w base0 M hs (Bp rs)) (hin:∀h y,y∈Bp rs h->0<=y/\y < n) (hn:n<=1000):
 AS prog 118 #[.func (.func 182) #[] #[AU (some ⟨bg,0,none⟩)]] w fun e w'=>∃v,e=AW v/\w'.ownsRow w.heap.size 3 1 v (Cx rs n).length ((Cx rs n).map (Value.int .i64))/\AK w w':=by
 go_enter func118,ntmps118;go_wp2_with (go_at_call 181;refine (mX bg M n base0 hs rs w hbg hG hin hn).mono ?_)
 first | rintro e w1 v rfl hv hb | rintro e w1 ⟨v,rfl,hv,hb⟩
 go_wp2;go_ret;exact ⟨v,rfl,hv,hb⟩
theorem tV (n:Nat) (m:AN) (w:AH):
 AS prog 119 #[AP #[AB AE n,m]] w fun e w'=>e=AW (.func (.func 182) #[] #[AU (some ⟨w.heap.size,0,none⟩)])/\w'=w.alloc (AO #[AB AE n,m] 214):=by
 have hmf:∀(fn:Fn) (first cap:Array AN) (w:AH),(Instr.makeFunc fn first cap).run prog w=.ok (.func fn first cap) w:=fun _ _ _ _=>rfl;go_enter func119,ntmps119;go_wp2;go_ret;exact ⟨rfl,rfl⟩
theorem aJ {y:Int}:∀(xs l:AQ),y∈xs.foldl G9 l->y∈l\/y∈xs
 | [],_,h=>.inl h
 |
  x::xs,l,h=>by
  rcases aJ xs _ h with h | h
  ·unfold G9 at h
   split at h
   · exact .inl h
   rcases Ka.1 h with h | h
   · exact .inl h
   simp only [F5] at h;exact .inr (by rw [h];exact OX)
  · exact .inr (NI _ h)
theorem pM {n:Nat} {x y:Int}:∀{rs:List Cm},(∀r∈rs,∀f∈r.froms,0<=f.schema/\f.schema < n)->y∈Bp rs x->0<=y/\y < n:=by
 intro rs hr;have gen:∀(ps:List Cm) (l:AQ),(∀r∈ps,∀f∈r.froms,0<=f.schema/\f.schema < n)->(∀z∈l,0<=z/\z < n)->∀z∈ps.foldl (fun l r=>if r.schema=x then xZ l r else l) l,0<=z/\z < n:=by
  intro ps
  induction ps with
  | nil=>intro l _ hl z hz;exact hl z hz
  |
   cons r ps ih=>
   intro l hp hl;simp only [Y7];refine ih _ (fun r' hr'=>hp r' (NI _ hr')) ?_;split
   ·intro z hz
    rcases aJ _ _ hz with hz | hz
    · exact hl z hz
    obtain ⟨f,hf,rfl⟩:=Dr.1 hz;exact hp r OX f hf
   · exact hl
 exact gen rs [] hr (fun z hz=>by simp at hz) y
theorem Xq (rs:List Cm) (w:AH) (h4:Ag 5 CT w (AA A4 n4 c4) rs) (hn3:n3<=1000) (hnum:∀r∈rs,(0<=r.schema/\r.schema < n3)/\∀f∈r.froms,0<=f.schema/\f.schema < n3):
 AS prog 79 #[(AP #[AA A1 n1 c1,AA A2 n2 c2,AA A3 n3 c3,AA A4 n4 c4,AA A5 n5 c5,AA A6 n6 c6])] w fun e w'=>∃v ok,e=AW (BU #[v,Ab ok,AB AE 0])/\ok=decide (n3<=(Cx rs n3).length)/\w'.ownsRow w.heap.size 3 1 v (if ok then Cx rs n3 else []).length ((if ok then Cx rs n3 else []).map (Value.int .i64))/\AK w w':=by
 obtain ⟨H4,QW⟩:=Al h4 hnum;clear h4 hnum;have hb0:AK w (w.alloc (AO #[AA A1 n1 c1,AA A2 n2 c2,AA A3 n3 c3,AA A4 n4 c4,AA A5 n5 c5,AA A6 n6 c6] 29)):=(BK _ _);have HB0:=AF hb0;clear hb0;go_enter func79,ntmps79;go_wp2_with (go_at_call 117;refine (ADM A1 A2 A3 A4 A5 A6 n1 c1 n2 c2 n3 c3 n4 c4 n5 c5 n6 c6 rs _ (H4.o.mono Bf HB0.o) QW.o).mono ?_)
 first | rintro e w1 M hs rfl hG hb1 | rintro e w1 ⟨M,hs,rfl,hG,hb1⟩
 have HG:=AF hG;have HB1:AI (AK w w1):=AF (AV HB0.o hb1);clear hG hb1;have hba:AK w1 (w1.alloc (AO #[AB AE n3,.map (some M)] 214)):=(Af _ _).alloc (Ac _) _;have Rj:=AF hba;clear hba;go_wp2_with (first
  | (go_at_call 119;refine (tV n3 (.map (some M)) _).mono ?_;rintro e w2 ⟨rfl,rfl⟩)
  | (go_at_call 118;refine (tG (w1.heap.size+1) M n3 _ hs rs _ (by have:=AY.new (w1.alloc (AO #[AB AE n3,.map (some M)] 214)) 214 #[AB AE n3,.map (some M)];simpa using this) ((HG.o.below Rj.o).below (BK _ _)) (fun h y hy=>pM (fun r hr=>(QW.o r hr).2) hy) hn3).mono ?_))
 first | rintro e w2 v rfl hv hb2 | rintro e w2 ⟨v,rfl,hv,hb2⟩
 have hbx:AK w1 w2:=(Rj.o.alloc Rj.o.size (AO #[AB AE n3,.map (some M)] 214)).trans (hb2.mono Bd);have kb:=(((AY.new w1 214 #[AB AE n3,.map (some M)]).alloc (AO #[AB AE n3,.map (some M)] 214)).below hb2 Bd);have c0:=kb.cell 0;have l0:=kb.lt;simp only [Aj,Ao] at c0;have HV:=AF hv;obtain ⟨A,c,rfl⟩:=(NR hv).form;have rj:AI (AK w w2):=AF (AV HB1.o hbx);clear hv kb hb2 hbx;by_cases hlt:(Cx rs n3).length < n3
 ·have hlt2:((Cx rs n3).length:Int) < (n3:Int):=by omega
  go_wp2;go_ret3;exact ⟨_,false,rfl,by rw [BS AG],Ef _ _ _ _,rj.o⟩
 have hlt2:(n3:Int)<=((Cx rs n3).length:Int):=AG
 go_wp2;go_ret3;exact ⟨_,true,rfl,by rw [Bk AG],Joins.ownsRow_le HV.o gT,rj.o⟩
theorem V8 {us:List Bv} {ss:List BM} {r:Cm} (h:JP us ss r=true):(0<=r.schema/\r.schema < ss.length)/\∀f∈r.froms,0<=f.schema/\f.schema < ss.length:=by
 simp only [JP,Bb,By,Option.any_eq_true] at h;obtain ⟨⟨⟨⟨⟨⟨h1,h2⟩,h3⟩,h4⟩,hd,h5,h6⟩,h7⟩,h8⟩:=h;refine ⟨⟨h4,?_⟩,?_⟩
 ·have:=(BF.1 h5).1
  omega
 intro f hf;simp only [Ic,Bb,By,DM] at h1;obtain ⟨i,hi,rfl⟩:=List.mem_iff_getElem.1 hf;have:=h1.2 i (Eu.2 hi);rw [BN hi] at this;simp only [Option.any_some,Mz,Bb,By] at this;exact this.1
theorem UM {s:BG} (h:FU s=0):FW s=true/\s.units.all (Mq s.units)=true/\s.Aq.all (D5 s.Bh.length s.units.length)=true/\s.rules.all (JP s.units s.Aq)=true/\s.purposes.all (Fv s.Aq)=true:=by
 unfold FU at h;split at h
 · cases h
 next h1=>
 split at h
 ·next h2=>simp only [Bb] at h2;exact ⟨by simpa using h1,h2.1.1.1,h2.1.1.2,h2.1.2,h2.2⟩
 · cases h
theorem PE {s:BG} (h:FW s=true):s.Aq.length<=16:=by simp only [FW,Bb,By] at h;omega
def vL (s:BG):Bool:=decide (s.Aq.length<=(Cx s.rules s.Aq.length).length)
def Ku (s:BG):Int:=if FU s=0 then (if vL s then 0 else 141) else FU s
theorem mG (s:BG) (w:AH) (h1:Ag 1 Dd w (AA A1 n1 c1) s.Bh) (h2:Ag 5 CS w (AA A2 n2 c2) s.units) (h3:Ag 6 BW w (AA A3 n3 c3) s.Aq) (h4:Ag 5 CT w (AA A4 n4 c4) s.rules) (h5:n5=s.converts.length) (h6:Ag 3 BZ w (AA A6 n6 c6) s.purposes)
 (hr:s.Aq.all (D5 s.Bh.length s.units.length)=true->∀(W:AH) (g:Nat),AK w W->AY W g 137 #[AA A1 n1 c1,AA A2 n2 c2,AA A3 n3 c3,AA A4 n4 c4,AA A5 n5 c5,AA A6 n6 c6]->Says 104 #[] #[AU (some ⟨g,0,none⟩)] CT (JP s.units s.Aq) s.rules W)
 (hp:∀(W:AH),AK w W->Says 112 #[(AP #[AA A1 n1 c1,AA A2 n2 c2,AA A3 n3 c3,AA A4 n4 c4,AA A5 n5 c5,AA A6 n6 c6])] #[] BZ (Fv s.Aq) s.purposes W):
 AS prog 114 #[(AP #[AA A1 n1 c1,AA A2 n2 c2,AA A3 n3 c3,AA A4 n4 c4,AA A5 n5 c5,AA A6 n6 c6])] w fun e w'=>e=AW (AB AE (Ku s))/\AK w w':=by
 have hb0:AK w (w.alloc (AO #[AA A1 n1 c1,AA A2 n2 c2,AA A3 n3 c3,AA A4 n4 c4,AA A5 n5 c5,AA A6 n6 c6] 29)):=(BK _ _);obtain ⟨t,ht⟩:=BR (FU s);have HC:AI (AS prog 75 #[(AP #[AA A1 n1 c1,AA A2 n2 c2,AA A3 n3 c3,AA A4 n4 c4,AA A5 n5 c5,AA A6 n6 c6])] (w.alloc (AO #[AA A1 n1 c1,AA A2 n2 c2,AA A3 n3 c3,AA A4 n4 c4,AA A5 n5 c5,AA A6 n6 c6] 29)) fun e w'=>e=AW (AB AE t)/\BL (w.alloc (AO #[AA A1 n1 c1,AA A2 n2 c2,AA A3 n3 c3,AA A4 n4 c4,AA A5 n5 c5,AA A6 n6 c6] 29)).heap.size (w.alloc (AO #[AA A1 n1 c1,AA A2 n2 c2,AA A3 n3 c3,AA A4 n4 c4,AA A5 n5 c5,AA A6 n6 c6] 29)) w'):=AF (by rw [<-ht];exact Wh A1 A2 A3 A4 A5 A6 n1 c1 n2 c2 n3 c3 n4 c4 n5 c5 n6 c6 s _ (h1.mono BX hb0) (h2.mono Bq hb0) (h3.mono BP hb0) (h4.mono Bf hb0) h5 (h6.mono BQ hb0) (fun h W g hW=>hr h W g (AV hb0 hW)) (fun W hW=>hp W (AV hb0 hW)))
 obtain ⟨HT,HB0,Lg,H4⟩:=CD ht hb0 h3.len h4;clear ht hb0 h1 h2 h3 h4 h5 h6 hr hp;go_enter func114,ntmps114;go_wp2_with (go_at_call 75;refine HC.o.mono ?_)
 first | rintro e w1 rfl hb1 | rintro e w1 ⟨rfl,hb1⟩
 have HB1:AI (AK w w1):=AF (AV HB0.o hb1);have kb:=(AY.new w 29 #[AA A1 n1 c1,AA A2 n2 c2,AA A3 n3 c3,AA A4 n4 c4,AA A5 n5 c5,AA A6 n6 c6]).below hb1 AZ;have q0:=kb.cell 0;have q1:=kb.cell 1;have q2:=kb.cell 2;have q3:=kb.cell 3;have q4:=kb.cell 4;have q5:=kb.cell 5;have lq:=kb.lt;simp only [Aj,Ao,BA] at q0 q1 q2 q3 q4 q5;clear hb1 kb HC;by_cases ht0:t=0
 ·subst ht0
  have QW:AI (n3<=1000/\∀r∈s.rules,(0<=r.schema/\r.schema < n3)/\∀f∈r.froms,0<=f.schema/\f.schema < n3):=AF (by obtain ⟨h1,h2,h3,h4,h5⟩:=UM HT.o;refine ⟨by have:=PE h1;have:=Lg.o;omega,fun r hr=> ?_⟩;rw [Lg.o];exact V8 (DM.1 h4 r hr))
  go_wp2_with (go_at_call 79;refine (Xq A1 A2 A3 A4 A5 A6 n1 c1 n2 c2 n3 c3 n4 c4 n5 c5 n6 c6 s.rules w1 (H4.o.mono Bf HB1.o) QW.o.1 QW.o.2).mono ?_)
  first | rintro e w2 v ok rfl hok hv hb2 | rintro e w2 ⟨v,ok,rfl,hok,hv,hb2⟩
  have Ii:=AF hok;have HB2:AI (AK w w2):=AF (AV HB1.o hb2);clear hok hv hb2;cases ok with
  |
   true=>
   go_wp2;go_ret;exact ⟨DG ug,HB2.o⟩
  |
   false=>
   go_wp2;go_ret;exact ⟨DG ug,HB2.o⟩
 have htn:(t !=0)=true:=by simpa using ht0
 go_wp2;go_ret;exact ⟨DG (by rw [Ku,HT.o,Ah ht0]),HB1.o⟩
theorem Wt (A B:Option Aa) (n c m d:Nat) (l r:List Bv) (w:AH) (hl:Ag 5 CS w (AA A n c) l) (hr:Ag 5 CS w (AA B m d) r):
 AS prog 121 #[AA A n c,AA B m d] w fun e w'=>e=AW (Ab (BD l r))/\AK w w':=by
 have hn2:n<=9223372036854775807:=by have:=hl.le;omega
 have hln:=hl.len;have hrn:=hr.len;obtain ⟨HL,HR⟩:=Al hl hr;clear hl hr;by_cases e:n=m
 ·subst e
  have el:l.length=r.length:=AG
  obtain ⟨HN,HE⟩:=Al hln el;clear hln hrn el;obtain ⟨v,hv⟩:=BR (BD l r);rw [hv];have HV:AI (BD (l.drop 0) (r.drop 0)=v):=AF hv;clear hv;go_enter func121,ntmps121;go_wp2_with fail;go_loopg [13] n (fun q i wr=>∃k:Nat,k<=n/\q=n - k/\i=AB AE k/\BD (l.drop k) (r.drop k)=v/\AK w wr)
  case atStart=>exact Md
  obtain ⟨k,hk,hq,rfl,hv,hb⟩:=hrel;obtain ⟨HQ,HB,EJ⟩:=BB hq hb hv;clear hq hb hv HV;by_cases hlt:k < n
  ·obtain ⟨a,ao,x,rfl,hal,hx,e0,e1,e2,e3,e4⟩:=OE (HL.o.mono Bq HB.o) hlt
   obtain ⟨b,bo,y,rfl,hbl,hy,d0,d1,d2,d3,d4⟩:=OE (HR.o.mono Bq HB.o) hlt;obtain ⟨HX,HY⟩:=Al hx hy;have hkn:(k:Int) < (n:Int):=AG
   have hk0:=Int.natCast_nonneg k
   clear hx hy;have hne:=AGl x y;exact Y2
  exact Mc
 have el:¬l.length=r.length:=AG
 rw [Fu el];go_enter func121,ntmps121;exact Ko
theorem Wv (A B:Option Aa) (n c m d:Nat) (l r:List CO) (w:AH) (hl:Ag 8 DU w (AA A n c) l) (hr:Ag 8 DU w (AA B m d) r):
 AS prog 191 #[AA A n c,AA B m d] w fun e w'=>e=AW (Ab (BD l r))/\AK w w':=by
 have hn2:n<=9223372036854775807:=by have:=hl.le;omega
 have hln:=hl.len;have hrn:=hr.len;obtain ⟨HL,HR⟩:=Al hl hr;clear hl hr;by_cases e:n=m
 ·subst e
  have el:l.length=r.length:=AG
  obtain ⟨HN,HE⟩:=Al hln el;clear hln hrn el;obtain ⟨v,hv⟩:=BR (BD l r);rw [hv];have HV:AI (BD (l.drop 0) (r.drop 0)=v):=AF hv;clear hv;go_enter func191,ntmps191;go_wp2_with fail;go_loopg [13] n (fun q i wr=>∃k:Nat,k<=n/\q=n - k/\i=AB AE k/\BD (l.drop k) (r.drop k)=v/\AK w wr)
  case atStart=>exact Md
  obtain ⟨k,hk,hq,rfl,hv,hb⟩:=hrel;obtain ⟨HQ,HB,EJ⟩:=BB hq hb hv;clear hq hb hv HV;by_cases hlt:k < n
  ·obtain ⟨a,ao,x,rfl,hal,hx,e0,e1,e2,e3,e4,e5,e6,e7⟩:=QC (HL.o.mono EW HB.o) hlt
   obtain ⟨b,bo,y,rfl,hbl,hy,d0,d1,d2,d3,d4,d5,d6,d7⟩:=QC (HR.o.mono EW HB.o) hlt;obtain ⟨HX,HY⟩:=Al hx hy;have hkn:(k:Int) < (n:Int):=AG
   have hk0:=Int.natCast_nonneg k
   clear hx hy;have hne:=AGn x y;exact Y2
  exact Mc
 have el:¬l.length=r.length:=AG
 rw [Fu el];go_enter func191,ntmps191;exact Ko
theorem Ww (A B:Option Aa) (n c m d:Nat) (l r:List Iv) (w:AH) (hl:Ag 11 Ea w (AA A n c) l) (hr:Ag 11 Ea w (AA B m d) r):
 AS prog 192 #[AA A n c,AA B m d] w fun e w'=>e=AW (Ab (BD l r))/\AK w w':=by
 have hn2:n<=9223372036854775807:=by have:=hl.le;omega
 have hln:=hl.len;have hrn:=hr.len;obtain ⟨HL,HR⟩:=Al hl hr;clear hl hr;by_cases e:n=m
 ·subst e
  have el:l.length=r.length:=AG
  obtain ⟨HN,HE⟩:=Al hln el;clear hln hrn el;obtain ⟨v,hv⟩:=BR (BD l r);rw [hv];have HV:AI (BD (l.drop 0) (r.drop 0)=v):=AF hv;clear hv;go_enter func192,ntmps192;go_wp2_with fail;go_loopg [13] n (fun q i wr=>∃k:Nat,k<=n/\q=n - k/\i=AB AE k/\BD (l.drop k) (r.drop k)=v/\AK w wr)
  case atStart=>exact Md
  obtain ⟨k,hk,hq,rfl,hv,hb⟩:=hrel;obtain ⟨HQ,HB,EJ⟩:=BB hq hb hv;clear hq hb hv HV;by_cases hlt:k < n
  ·obtain ⟨a,ao,x,rfl,hal,hx,e0,e1,e2,e3,e4,e5,e6,e7,e8,e9,e10⟩:=bE (HL.o.mono FZ HB.o) hlt
   obtain ⟨b,bo,y,rfl,hbl,hy,d0,d1,d2,d3,d4,d5,d6,d7,d8,d9,d10⟩:=bE (HR.o.mono FZ HB.o) hlt;obtain ⟨HX,HY⟩:=Al hx hy;have hkn:(k:Int) < (n:Int):=AG
   have hk0:=Int.natCast_nonneg k
   clear hx hy;have hne:=AGo x y;exact Y2
  exact Mc
 have el:¬l.length=r.length:=AG
 rw [Fu el];go_enter func192,ntmps192;exact Ko
theorem YL (A B:Option Aa) (n c m d:Nat) (l r:List Ma) (w:AH) (hl:Ag 7 Gs w (AA A n c) l) (hr:Ag 7 Gs w (AA B m d) r):
 AS prog 193 #[AA A n c,AA B m d] w fun e w'=>e=AW (Ab (BD l r))/\AK w w':=by
 have hn2:n<=9223372036854775807:=by have:=hl.le;omega
 have hln:=hl.len;have hrn:=hr.len;obtain ⟨HL,HR⟩:=Al hl hr;clear hl hr;by_cases e:n=m
 ·subst e
  have el:l.length=r.length:=AG
  obtain ⟨HN,HE⟩:=Al hln el;clear hln hrn el;obtain ⟨v,hv⟩:=BR (BD l r);rw [hv];have HV:AI (BD (l.drop 0) (r.drop 0)=v):=AF hv;clear hv;go_enter func193,ntmps193;go_wp2_with fail;go_loopg [13] n (fun q i wr=>∃k:Nat,k<=n/\q=n - k/\i=AB AE k/\BD (l.drop k) (r.drop k)=v/\AK w wr)
  case atStart=>exact Md
  obtain ⟨k,hk,hq,rfl,hv,hb⟩:=hrel;obtain ⟨HQ,HB,EJ⟩:=BB hq hb hv;clear hq hb hv HV;by_cases hlt:k < n
  ·obtain ⟨a,ao,x,rfl,hal,hx,e0,e1,e2,e3,e4,e5,e6⟩:=iP (HL.o.mono GK HB.o) hlt
   obtain ⟨b,bo,y,rfl,hbl,hy,d0,d1,d2,d3,d4,d5,d6⟩:=iP (HR.o.mono GK HB.o) hlt;obtain ⟨HX,HY⟩:=Al hx hy;have hkn:(k:Int) < (n:Int):=AG
   have hk0:=Int.natCast_nonneg k
   clear hx hy;have hne:=AHY x y;exact Y2
  exact Mc
 have el:¬l.length=r.length:=AG
 rw [Fu el];go_enter func193,ntmps193;exact Ko
theorem Wu (A B:Option Aa) (n c m d:Nat) (l r:List LL) (w:AH) (hl:Ag 5 Gf w (AA A n c) l) (hr:Ag 5 Gf w (AA B m d) r):
 AS prog 194 #[AA A n c,AA B m d] w fun e w'=>e=AW (Ab (BD l r))/\AK w w':=by
 have hn2:n<=9223372036854775807:=by have:=hl.le;omega
 have hln:=hl.len;have hrn:=hr.len;obtain ⟨HL,HR⟩:=Al hl hr;clear hl hr;by_cases e:n=m
 ·subst e
  have el:l.length=r.length:=AG
  obtain ⟨HN,HE⟩:=Al hln el;clear hln hrn el;obtain ⟨v,hv⟩:=BR (BD l r);rw [hv];have HV:AI (BD (l.drop 0) (r.drop 0)=v):=AF hv;clear hv;go_enter func194,ntmps194;go_wp2_with fail;go_loopg [13] n (fun q i wr=>∃k:Nat,k<=n/\q=n - k/\i=AB AE k/\BD (l.drop k) (r.drop k)=v/\AK w wr)
  case atStart=>exact Md
  obtain ⟨k,hk,hq,rfl,hv,hb⟩:=hrel;obtain ⟨HQ,HB,EJ⟩:=BB hq hb hv;clear hq hb hv HV;by_cases hlt:k < n
  ·obtain ⟨a,ao,x,rfl,hal,hx,e0,e1,e2,e3,e4⟩:=bD (HL.o.mono GH HB.o) hlt
   obtain ⟨b,bo,y,rfl,hbl,hy,d0,d1,d2,d3,d4⟩:=bD (HR.o.mono GH HB.o) hlt;obtain ⟨HX,HY⟩:=Al hx hy;have hkn:(k:Int) < (n:Int):=AG
   have hk0:=Int.natCast_nonneg k
   clear hx hy;have hne:=AGm x y;exact Y2
  exact Mc
 have el:¬l.length=r.length:=AG
 rw [Fu el];go_enter func194,ntmps194;exact Ko
theorem YM (A B:Option Aa) (n c m d:Nat) (l r:List Mb) (w:AH) (hl:Ag 4 Iq w (AA A n c) l) (hr:Ag 4 Iq w (AA B m d) r):
 AS prog 195 #[AA A n c,AA B m d] w fun e w'=>e=AW (Ab (BD l r))/\AK w w':=by
 have hn2:n<=9223372036854775807:=by have:=hl.le;omega
 have hln:=hl.len;have hrn:=hr.len;obtain ⟨HL,HR⟩:=Al hl hr;clear hl hr;by_cases e:n=m
 ·subst e
  have el:l.length=r.length:=AG
  obtain ⟨HN,HE⟩:=Al hln el;clear hln hrn el;obtain ⟨v,hv⟩:=BR (BD l r);rw [hv];have HV:AI (BD (l.drop 0) (r.drop 0)=v):=AF hv;clear hv;go_enter func195,ntmps195;go_wp2_with fail;go_loopg [13] n (fun q i wr=>∃k:Nat,k<=n/\q=n - k/\i=AB AE k/\BD (l.drop k) (r.drop k)=v/\AK w wr)
  case atStart=>exact Md
  obtain ⟨k,hk,hq,rfl,hv,hb⟩:=hrel;obtain ⟨HQ,HB,EJ⟩:=BB hq hb hv;clear hq hb hv HV;by_cases hlt:k < n
  ·obtain ⟨a,ao,x,rfl,hal,hx,e0,e1,e2,e3⟩:=iQ (HL.o.mono Io HB.o) hlt
   obtain ⟨b,bo,y,rfl,hbl,hy,d0,d1,d2,d3⟩:=iQ (HR.o.mono Io HB.o) hlt;obtain ⟨HX,HY⟩:=Al hx hy;have hkn:(k:Int) < (n:Int):=AG
   have hk0:=Int.natCast_nonneg k
   clear hx hy;have hne:=AHZ x y;exact Y2
  exact Mc
 have el:¬l.length=r.length:=AG
 rw [Fu el];go_enter func195,ntmps195;exact Ko
theorem bu (A:Option Aa) (n c:Nat) (l:AQ) (w:AH) (hs:Ag 1 iR w (AA A n c) l):
 AS prog 169 #[AA A n c] w fun e w'=>e=AW (Ab (Dw [] l))/\AK w w':=by
 have hn2:n<=9223372036854775807:=by have:=hs.le;omega
 obtain ⟨HN,HS⟩:=Al hs.len hs;clear hs;have hmm:∀(n:Int) (w:AH),(Instr.makeMap 209 (some (AB AE n))).run prog w=.ok (.map (some w.heap.size)) (w.alloc (.map #[] 0)):=by intro n w;simp [Instr.makeMap,run_underlying underlying209,asInt,asIntOf]
 obtain ⟨v,hv⟩:=BR (Dw [] l);rw [hv];have HV:AI (Dw (l.take 0) (l.drop 0)=v):=AF hv;clear hv;go_enter func169,ntmps169;go_wp2_with fail;clear hmm;have hm0:MapAt (Value.int .i64) Value.bool (w.alloc (.map #[] 0)) w.heap.size (FH (l.take 0)):=MapAt.new _ _ w;have hb0:AK w (w.alloc (.map #[] 0)):=(Af _ _).alloc (Ac _) _;obtain ⟨Mh,HB0⟩:=Al hm0 hb0;clear hm0 hb0;go_loopg [11] n (fun g i wr=>∃k:Nat,k<=n/\g=n - k/\i=AB AE k/\Dw (l.take k) (l.drop k)=v/\MapAt (Value.int .i64) Value.bool wr w.heap.size (FH (l.take k))/\AK w wr)
 case atStart=>exact AAz
 clear Mh HB0 HV;obtain ⟨k,hk,hg,rfl,hv,hm,hb⟩:=hrel;obtain ⟨HG,HB⟩:=Al hg hb;by_cases hlt:k < n
 ·obtain ⟨b,off,x,rfl,hbl,hx,hc⟩:=xq (HS.o.mono IZ HB.o) hlt
  rw [drop_cons hx,Dw] at hv;have hlook:=DT (I0 underlying3) underlying209 (z:=Ab false) AJ hm x false;rw [YF] at hlook;by_cases hmem:x∈l.take k
  ·rw [Ak hmem] at hv hlook
   exact AAY
  rw [Ah hmem] at hv hlook;simp only [Jd,Kd,IU,He] at hlook;obtain ⟨w3,hrun3,ER,hg3⟩:=FV (I0 underlying3) underlying209 hm x true;exact AAp
 exact AAN
def zT:Fy:=⟨0,0,0,⟨#[]⟩,0,[]⟩
def Oq (o:Option Fy) (w0 w:AH) (e:Ending) (w':AH):Prop:=
 (∃B m d,e=AW (BU #[AP #[AB AE (o.getD zT).kind,AB AE (o.getD zT).lo,AB AE (o.getD zT).hi,AL (o.getD zT).Au,AB AE (o.getD zT).unit,AA B m d],Ab o.isSome])/\BV 1 16 Dd w0 (AA B m d) (o.getD zT).names)/\AK w w'
theorem Rm (s f:Int) (ss:List BM) (w0 w:AH) (hb0:AK w0 w) (h3:Ag 6 BW w0 (AA A3 n3 c3) ss):
 AS prog 65 #[(AP #[AA A1 n1 c1,AA A2 n2 c2,AA A3 n3 c3,AA A4 n4 c4,AA A5 n5 c5,AA A6 n6 c6]),AB AE s,AB AE f] w (Oq (typeAt ss s f) w0 w):=by
 have hn3:n3<=9223372036854775807:=by have:=h3.le;omega
 obtain ⟨Hc,H3,HB0⟩:=BB h3.len h3 hb0;clear h3 hb0;by_cases hin:0<=s/\s < n3
 case neg=>
  have HT:AI (typeAt ss s f=none):=AF (by
   unfold typeAt;split
   · rfl
   have:ss[s.toNat]? =none:=Dh Zb;rw [this];rfl)
  exact AAs
 obtain ⟨k,rfl⟩:∃k:Nat,s=k:=⟨s.toNat,by omega⟩;obtain ⟨b,off,x,B1,m1,d1,B2,m2,d2,hA3,hbl,hx,e0,e1,e2,e3,e4,e5,G1,G2⟩:=GL H3.o (k:=k) AG;subst hA3;have hk0:=Int.natCast_nonneg k
 have hk1:(k:Int) < (n3:Int):=AG
 have hm1:m1<=9223372036854775807:=by have:=G1.1.le;omega
 have LI:=AF G1.1.len;rw [<-HB0.o.cell (p:=⟨b,_,none⟩) hbl] at e4;have AIS:b < w.heap.size:=Av hbl HB0.o.size;have HX:AI (typeAt ss k f=if f < 0 then none else (x.fields[f.toNat]?).map fun y=>y.type):=AF (by
  unfold typeAt;by_cases hf:f < 0
  · rw [Ak (.inr hf),Ak hf]
  · rw [Ah AG,Ah hf,Cq,hx];rfl)
 have HG1:=AF G1;clear hx G1 G2 e0 e1 e2 e3 e5 hin;by_cases hfi:0<=f/\f < m1
 case neg=>
  have HT:AI (typeAt ss k f=none):=AF (by
   rw [HX.o];split
   · rfl
   have:x.fields[f.toNat]? =none:=Dh (by have:=LI.o;omega);rw [this];rfl)
  exact AAs
 obtain ⟨j,rfl⟩:∃j:Nat,f=j:=⟨f.toNat,by omega⟩;obtain ⟨b',off',y,C,mc,dc,hB1,ij,hy,f0,f1,f2,f3,f4,f5,f6,f7,f8,f9,f10,G3⟩:=Iz HG1.o.1 (k:=j) AG;subst hB1;have hj0:(0:Int)<=(j:Int):=AG
 have hj1:(j:Int) < (m1:Int):=AG
 have HT:AI (typeAt ss k j=some y.type):=AF (by rw [HX.o,Ah AG,Cq,hy];rfl)
 rw [HT.o];have fS:=AF G3;rw [<-HB0.o.cell (p:=⟨b',_,none⟩) ij] at f1 f2 f3 f4 f5 f6;have AL8:b' < w.heap.size:=Av ij HB0.o.size;clear hy G3 f0 f7 f8 f9 f10 hfi;have HB:AI (∀o1 o2,AK w ((w.alloc o1).alloc o2)):=AF fun o1 o2=>((BK _ _).alloc AZ _);go_enter func65,ntmps65;go_wp2_with fail;exact FN (v:=BU #[AP #[AB AE y.type.kind,AB AE y.type.lo,AB AE y.type.hi,AL y.type.Au,AB AE y.type.unit,AA C mc dc],Ab true]) uh rfl ⟨⟨_,_,_,rfl,fS.o⟩,(BK _ _).alloc AZ _⟩
theorem Sx (t:EF) (w:AH):
 AS prog 220 #[AP #[AL t.name,AL t.path,AB AE t.var,AB AE t.field,AB AE t.n]] w fun e w'=>e=AW (Ab (isNum t))/\AK w w':=by
 go_enter func220,ntmps220;go_wp2_with fail
 all_goals
  go_ret;refine ⟨A8 ?_,(Af _ _).alloc (Ac _) _⟩
  go_light
  first
   | (simp_all [isNum];done)
   | (simp_all [isNum];intros;exfalso;omega)
   | (simp_all [isNum];intros;omega)
theorem AY.six' {w:AH} {g:Nat} {t:Ae} {a b c d e f:AN} (h:AY w g t #[a,b,c,d,e,f]):
 w.cell? ⟨g,0,none⟩=some a/\w.cell? ⟨g,1,none⟩=some b/\w.cell? ⟨g,2,none⟩=some c/\w.cell? ⟨g,3,none⟩=some d/\w.cell? ⟨g,4,none⟩=some e/\w.cell? ⟨g,5,none⟩=some f:=
 ⟨h.cell 0,h.cell 1,h.cell 2,h.cell 3,h.cell 4,h.cell 5⟩
def da (ss:List BM) (r:Mb):Bool:=(typeAt ss r.schema r.field).isSome
theorem Xn (ss:List BM) (p:Cl):Fv ss p=(p.may.all (da ss) && decide (0<=p.most) && decide (p.most<=64)):=rfl
theorem xN {ss:List BM} {p:Cl} {k:Nat} {x:Mb} (hx:p.may[k]? =some x) (h:typeAt ss x.schema x.field=none):Fv ss p=false:=by rw [Xn,Jy hx (by rw [da,h];rfl)];rfl
theorem mN (nm:ByteArray) (may:List Mb) (most:Int) (B:Option Aa) (m d:Nat) (ss:List BM) (w0 w:AH) (hb0:AK w0 w) (h3:Ag 6 BW w0 (AA A3 n3 c3) ss) (hm:Ag 4 Iq w (AA B m d) may):
 AS prog 112 #[(AP #[AA A1 n1 c1,AA A2 n2 c2,AA A3 n3 c3,AA A4 n4 c4,AA A5 n5 c5,AA A6 n6 c6]),AP #[AL nm,AA B m d,AB AE most]] w fun e w'=>e=AW (Ab (Fv ss ⟨nm,may,most⟩))/\AK w w':=by
 have hm1:m<=9223372036854775807:=by have:=hm.le;omega
 obtain ⟨HLM,HM,H3,HB0⟩:=CD hm.len hm h3 hb0;clear hm h3 hb0;obtain ⟨wb,hwb⟩:=Ad ((w.alloc (AO #[AA A1 n1 c1,AA A2 n2 c2,AA A3 n3 c3,AA A4 n4 c4,AA A5 n5 c5,AA A6 n6 c6] 137)).alloc (AO #[AL nm,AA B m d,AB AE most] 166));have hbb:AK w wb:=by rw [hwb];exact ((BK _ _).alloc AZ _)
 have kA:AY wb w.heap.size 137 #[AA A1 n1 c1,AA A2 n2 c2,AA A3 n3 c3,AA A4 n4 c4,AA A5 n5 c5,AA A6 n6 c6]:=by rw [hwb];exact (AY.new _ _ _).alloc _
 have kB:AY wb (w.heap.size+1) 166 #[AL nm,AA B m d,AB AE most]:=by rw [hwb];exact Dk AZ
 obtain ⟨ga,hga⟩:=Ad w.heap.size;obtain ⟨gb,hgb⟩:=Ad (w.heap.size+1);rw [<-hgb] at kB;rw [<-hga] at kA;obtain ⟨HA,HB,BJ,Cf⟩:=CD kA kB hbb hwb;have b1:=kB.cell 1;simp only [Aj,Ao,BA] at b1;have lA:=kA.lt;have lB:=kB.lt;clear kA kB hbb hwb;go_enter func112,ntmps112;go_upto_region 1 with fail;rw [<-Cf.o,<-hgb,<-hga];clear Cf hga hgb;go_wp2_with fail;clear b1;go_loopg [12] m (fun q i wr=>∃k:Nat,k<=m/\q=m - k/\i=AB AE k/\(may.take k).all (da ss)=true/\AK wb wr)
 case atStart=>exact N3
 obtain ⟨k,hk,hq,rfl,hall,hb⟩:=hrel;obtain ⟨HQ,EU,DK⟩:=BB hq hall hb;have CW:AI (AK w wr):=AF (AV BJ.o hb);obtain ⟨a0,a1,a2,a3,a4,a5⟩:=(HA.o.below hb lA).six';have vP:ga < wr.heap.size:=Av lA hb.size;have lBr:gb < wr.heap.size:=Av lB hb.size;have q1:=(HB.o.below hb lB).cell 1;have q2:=(HB.o.below hb lB).cell 2;simp only [Aj,Ao,BA] at q1 q2;clear hq hall hb;by_cases hlt:k < m
 case neg=>
  have HT:AI (may.all (da ss)=true):=by have:=EU.o;rw [C7 (by have:=HLM.o;omega)] at this;exact this
  have HE:AI (Fv ss ⟨nm,may,most⟩=(decide (0<=most) && decide (most<=64))):=AF (by rw [Xn,HT.o];rfl);go_wp2_with fail
  all_goals
   go_ret;refine ⟨A8 (Er ?_ HE.o.symm),CW.o⟩
   go_light
   first
    | rfl
    | (simp_all;done)
    | (simp_all;omega)
 obtain ⟨b,off,x,hB1,hbl,hx,e0,e1,e2,e3⟩:=iQ (HM.o.mono Io CW.o) hlt;subst hB1;have hk0:=Int.natCast_nonneg k
 have hk1:(k:Int) < (m:Int):=AG
 have HX:=AF hx;clear hx;have HT:=AF (fun o=>Rm A1 A2 A3 A4 A5 A6 n1 c1 n2 c2 n3 c3 n4 c4 n5 c5 n6 c6 x.schema x.field ss w0 (wr.alloc o) (AV HB0.o (CW.o.alloc CW.o.size o)) H3.o);obtain ⟨o,ho⟩:=BR (typeAt ss x.schema x.field);rw [ho] at HT;have HO:=AF ho;clear ho;cases o with
 |
  none=>
  have HN:AI (Fv ss ⟨nm,may,most⟩=false):=AF (xN HX.o HO.o);go_wp2_with (go_at_call 65;refine (HT.o _).mono ?_;clear HT;rintro e w2 ⟨⟨B',m',d',rfl,hs⟩,hb2⟩;have HB2:=AF ((CW.o.alloc CW.o.size _).trans (hb2.mono (by have:=CW.o.size;simp;omega)));clear hs hb2;simp only [IV]);go_ret;exact ⟨A8 HN.o.symm,HB2.o.alloc HB2.o.size _⟩
 |
  some y=>
  obtain ⟨yk,yl,yh,yf,yu,yn⟩:=y;go_wp2_with (go_at_call 65;refine (HT.o _).mono ?_;clear HT;rintro e w2 ⟨⟨B',m',d',rfl,hs⟩,hb2⟩;have HB2:=AF ((DK.o.alloc DK.o.size _).trans (hb2.mono Qm));clear hs hb2;simp only [Ce,Ge]);go_roundg (m - (k+1))
  case measure=>exact Bi
  case rel=>exact ⟨k+1,by omega,rfl,by go_num,Dq HX.o (by rw [da,HO.o];rfl) EU.o,HB2.o.alloc HB2.o.size _⟩
theorem AY.six {w:AH} {g:Nat} {t:Ae} {a b c d e f:AN} (h:AY w g t #[a,b,c,d,e,f]):
 w.cell? ⟨g,0,none⟩=some a/\w.cell? ⟨g,1,none⟩=some b/\w.cell? ⟨g,2,none⟩=some c/\w.cell? ⟨g,3,none⟩=some d/\w.cell? ⟨g,4,none⟩=some e/\w.cell? ⟨g,5,none⟩=some f:=
 ⟨h.cell 0,h.cell 1,h.cell 2,h.cell 3,h.cell 4,h.cell 5⟩
theorem Sg (F1 F2 F3:Option Aa) (m1 d1 m2 d2 m3 d3:Nat) (hd:ByteArray) (EI:Int) (t:EF) (vars:Int) (ss:List BM) (fs:List CO) (w0 w:AH) (hb0:AK w0 w) (h3:Ag 6 BW w0 (AA A3 n3 c3) ss) (hf:Ag 8 DU w0 (AA F1 m1 d1) fs) (hv0:0<=vars) (hv:vars<=m1):
 AS prog 219 #[(AP #[AA A1 n1 c1,AA A2 n2 c2,AA A3 n3 c3,AA A4 n4 c4,AA A5 n5 c5,AA A6 n6 c6,AL hd,AB AE EI,AA F1 m1 d1,AA F2 m2 d2,AA F3 m3 d3]),AP #[AL t.name,AL t.path,AB AE t.var,AB AE t.field,AB AE t.n],AB AE vars] w (Oq (GF ss fs t vars.toNat) w0 w):=by
 have hm1:m1<=9223372036854775807:=by have:=hf.le;omega
 obtain ⟨H3,HF,HB0⟩:=BB h3 hf hb0;clear h3 hf hb0;obtain ⟨nm,pa,va,fi,nn⟩:=t;by_cases hin:0<=va/\va < vars
 case neg=>
  have HT:AI (GF ss fs ⟨nm,pa,va,fi,nn⟩ vars.toNat=none):=AF (by unfold GF;rw [Ak (by simp only;omega)])
  rw [HT.o];simp only;go_enter func219,ntmps219;go_wp2_with fail
  all_goals first
   | (exfalso;omega)
   | exact FN (v:=BU #[AP #[AB AE 0,AB AE 0,AB AE 0,AL ⟨#[]⟩,AB AE 0,AA none 0 0],Ab false]) (by simp [results,results219,go_sem]) rfl ⟨⟨_,_,_,rfl,Ag.nil _ _ (Ay _),by simp [zT]⟩,(((BK _ _).alloc AZ _).alloc Bd _)⟩
 obtain ⟨k,rfl⟩:∃k:Nat,va=k:=⟨va.toNat,by omega⟩;obtain ⟨b,off,x,hF1,hbl,hx,e0,e1,e2,e3,e4,e5,e6,e7⟩:=QC HF.o (k:=k) AG;subst hF1;rw [<-HB0.o.cell (p:=⟨b,_,none⟩) hbl] at e2;have hbl:=Av hbl HB0.o.size;have hk0:=Int.natCast_nonneg k
 have hk1:(k:Int) < (m1:Int):=AG
 have hk2:(k:Int) < vars:=AG
 have HT:AI (GF ss fs ⟨nm,pa,k,fi,nn⟩ vars.toNat=typeAt ss x.schema fi):=AF (by unfold GF;rw [Ah (by simp only;omega)];simp only [Cq,hx,Option.bind_some])
 rw [HT.o];simp only;clear hx e0 e1 e3 e4 e5 e6 e7 hin hv HF;have fI:AI (∀W,AK w0 W->AS prog 65 #[(AP #[AA A1 n1 c1,AA A2 n2 c2,AA A3 n3 c3,AA A4 n4 c4,AA A5 n5 c5,AA A6 n6 c6]),AB AE x.schema,AB AE fi] W (Oq (typeAt ss x.schema fi) w0 W)):=AF
  (fun W hW=>Rm A1 A2 A3 A4 A5 A6 n1 c1 n2 c2 n3 c3 n4 c4 n5 c5 n6 c6 x.schema fi ss w0 W hW H3.o)
 obtain ⟨o,ho⟩:=BR (typeAt ss x.schema fi);rw [ho] at fI ⊢;clear ho;unfold Oq at fI ⊢;obtain ⟨T,hT⟩:=BR (o.getD zT);obtain ⟨bo,j7⟩:=BR o.isSome;rw [hT,j7] at fI ⊢;clear hT j7;obtain ⟨tk,tl,th,tf,tu,tn⟩:=T;simp only at fI ⊢;go_enter func219,ntmps219;go_wp2_with fail;obtain ⟨wb,hwb⟩:=Ad ((w.alloc (AO #[AA A1 n1 c1,AA A2 n2 c2,AA A3 n3 c3,AA A4 n4 c4,AA A5 n5 c5,AA A6 n6 c6,AL hd,AB AE EI,AA (some ⟨b,off,none⟩) m1 d1,AA F2 m2 d2,AA F3 m3 d3] 197)).alloc (AO #[AL nm,AL pa,AB AE k,AB AE fi,AB AE nn] 279));rw [<-hwb];have hbb:AK w wb:=by rw [hwb];exact ((BK _ _).alloc AZ _)
 have kA:AY wb w.heap.size 197 #[AA A1 n1 c1,AA A2 n2 c2,AA A3 n3 c3,AA A4 n4 c4,AA A5 n5 c5,AA A6 n6 c6,AL hd,AB AE EI,AA (some ⟨b,off,none⟩) m1 d1,AA F2 m2 d2,AA F3 m3 d3]:=by rw [hwb];exact (AY.new _ _ _).alloc _
 have kB:AY wb (w.heap.size+1) 279 #[AL nm,AL pa,AB AE k,AB AE fi,AB AE nn]:=by rw [hwb];exact Dk AZ
 have hsz:wb.heap.size=w.heap.size+2:=by rw [hwb];simp
 have Cd:=AF hsz;clear hsz;obtain ⟨ga,hga⟩:=Ad w.heap.size;obtain ⟨gb,hgb⟩:=Ad (w.heap.size+1);obtain ⟨gz,hgz⟩:=Ad (w.heap.size+1+1);rw [<-hgz];rw [<-hgb] at kB ⊢;rw [<-hga] at kA ⊢;have HGZ:AI (gz=wb.heap.size):=AF gL;have a0:=kA.cell 0;have a1:=kA.cell 1;have a2:=kA.cell 2;have a3:=kA.cell 3;have a4:=kA.cell 4;have a5:=kA.cell 5;have a8:=kA.cell 8;have b2:=kB.cell 2;have b3:=kB.cell 3;have la:=kA.lt;have lb:=kB.lt;simp only [Aj,Ao,BA] at a0 a1 a2 a3 a4 a5 a8 b2 b3;rw [<-hbb.cell (p:=⟨b,_,none⟩) hbl] at e2;have lbl:b < wb.heap.size:=Av hbl hbb.size;have BJ:=AF hbb;clear kA kB hbb hwb hga hgb hgz;obtain ⟨wz,hwz⟩:=Ad (wb.alloc (AO #[AB AE 0,AB AE 0,AB AE 0,AL ⟨#[]⟩,AB AE 0,AA none 0 0] 109));rw [<-hwz];have hbz:AK wb wz:=by rw [hwz];exact (Af _ _).alloc (Ac _) _
 have kZ:AY wz gz 109 #[AB AE 0,AB AE 0,AB AE 0,AL ⟨#[]⟩,AB AE 0,AA none 0 0]:=by rw [hwz,HGZ.o];exact AY.new _ _ _
 have HS:AI (∀W,AK wb W->W.cell? ⟨ga,0,none⟩=some (AA A1 n1 c1)/\W.cell? ⟨ga,1,none⟩=some (AA A2 n2 c2)/\W.cell? ⟨ga,2,none⟩=some (AA A3 n3 c3)/\W.cell? ⟨ga,3,none⟩=some (AA A4 n4 c4)/\W.cell? ⟨ga,4,none⟩=some (AA A5 n5 c5)/\W.cell? ⟨ga,5,none⟩=some (AA A6 n6 c6)/\W.cell? ⟨ga,8,none⟩=some (AA (some ⟨b,off,none⟩) m1 d1)/\W.cell? ⟨gb,2,none⟩=some (AB AE k)/\W.cell? ⟨gb,3,none⟩=some (AB AE fi)/\W.cell? ⟨b,off+k*8+2,none⟩=some (AB AE x.schema)):=AF (fun W hW=>
  ⟨(hW.cell (p:=⟨ga,0,none⟩) la).trans a0,(hW.cell (p:=⟨ga,1,none⟩) la).trans a1,(hW.cell (p:=⟨ga,2,none⟩) la).trans a2,(hW.cell (p:=⟨ga,3,none⟩) la).trans a3,(hW.cell (p:=⟨ga,4,none⟩) la).trans a4,(hW.cell (p:=⟨ga,5,none⟩) la).trans a5,(hW.cell (p:=⟨ga,8,none⟩) la).trans a8,(hW.cell (p:=⟨gb,2,none⟩) lb).trans b2,(hW.cell (p:=⟨gb,3,none⟩) lb).trans b3,(hW.cell (p:=⟨b,_,none⟩) lbl).trans e2⟩)
 clear a0 a1 a2 a3 a4 a5 a8 b2 b3 e2 la lb lbl;have TS:AI (wb.heap.size<=gz):=AF (by have:=HGZ.o;omega);obtain ⟨HZ,J8,lP⟩:=BB kZ hbz ((fI.o wz.drew (HB0.o.trans ((AV BJ.o hbz).drew.mono HB0.o.size))).mono fun _ _ h=>And.intro h.1 ((Af wz.heap.size wz).drew.trans h.2));clear hwz hbz kZ
 go_region_held3 (fun w'=>w'.cell? ⟨ga,0,none⟩=some (AA A1 n1 c1)/\w'.cell? ⟨ga,1,none⟩=some (AA A2 n2 c2)/\w'.cell? ⟨ga,2,none⟩=some (AA A3 n3 c3)/\w'.cell? ⟨ga,3,none⟩=some (AA A4 n4 c4)/\w'.cell? ⟨ga,4,none⟩=some (AA A5 n5 c5)/\w'.cell? ⟨ga,5,none⟩=some (AA A6 n6 c6)/\w'.cell? ⟨ga,8,none⟩=some (AA (some ⟨b,off,none⟩) m1 d1)/\w'.cell? ⟨gb,2,none⟩=some (AB AE k)/\w'.cell? ⟨gb,3,none⟩=some (AB AE fi)/\w'.cell? ⟨b,off+k*8+2,none⟩=some (AB AE x.schema))
  (first | with_reducible exact HS.o _ J8.o | with_reducible exact HS.o _ J8.o.drew | with_reducible exact HS.o _ hbw3 | exact HS.o _ ((((((hbw3.setCell TS.o _).setCell TS.o _).setCell TS.o _).setCell TS.o _).setCell TS.o _).setCell TS.o _))
  (first
   | (go_at_call 65;refine lP.o.mono ?_;rintro e w3 ⟨⟨B,m,d,rfl,hs⟩,hb3⟩;have kz:=HZ.o.below hb3 HZ.o.lt;obtain ⟨z0,z1,z2,z3,z4,z5⟩:=kz.six;have y0:=kz.frozen 0;have y1:=kz.frozen 1;have y2:=kz.frozen 2;have y3:=kz.frozen 3;have y4:=kz.frozen 4;have y5:=kz.frozen 5;have hbw3:=AV J8.o hb3;have Ls:=AF kz;have LD:=AF hs;clear hs kz))
 go_wp2_with fail;have kF:=(((((Ls.o.put 0 (AB AE tk)).put 1 (AB AE tl)).put 2 (AB AE th)).put 3 (AL tf)).put 4 (AB AE tu)).put 5 (AA B m d);simp only [Kf,CZ,Ch] at kF;obtain ⟨f0,f1,f2,f3,f4,f5⟩:=kF.six;clear z0 z1 z2 z3 z4 z5 y0 y1 y2 y3 y4 y5;refine FN (v:=BU #[AP #[AB AE tk,AB AE tl,AB AE th,AL tf,AB AE tu,AA B m d],Ab bo]) (by simp [results,results219,go_sem,f0,f1,f2,f3,f4,f5]) rfl ⟨⟨_,_,_,rfl,LD.o⟩,?_⟩;exact AV BJ.o ((((((hbw3.setCell TS.o _).setCell TS.o _).setCell TS.o _).setCell TS.o _).setCell TS.o _).setCell TS.o _)
def Qq (n:Nat) (t:Fy):Prop:=t.kind=1-> -1<=t.unit/\t.unit < n
theorem zH {us:List Bv} {a b:Fy} (h:a.kind≠b.kind):Le us a b=false:=by rw [Le,Ak h]
theorem tT {us:List Bv} {a b:Fy} (h:a.kind=4) (h':b.kind=4):Le us a b=decide (a.names=b.names):=by rw [Le,Ah AG,Ak h]
theorem zG {us:List Bv} {a b:Fy} (h:a.kind=b.kind) (h4:a.kind≠4) (h1:a.kind≠1\/a.unit= -1\/b.unit= -1):Le us a b=decide (a.unit=b.unit):=by rw [Le,Ah AG,Ah h4,Ak h1]
theorem zI {us:List Bv} {a b:Fy} (h:a.kind=1) (h':b.kind=1) (h1:a.unit≠ -1) (h2:b.unit≠ -1):Le us a b=decide (Q5 us a.unit=Q5 us b.unit):=by rw [Le,Ah AG,Ah AG,Ah AG]
theorem iy (a b:Fy) (B C:Option Aa) (m d k e:Nat) (us:List Bv) (w:AH) (h2:Ag 5 CS w (AA A2 n2 c2) us) (ha:Ag 1 Dd w (AA B m d) a.names) (hb:Ag 1 Dd w (AA C k e) b.names) (hua:Qq n2 a) (hub:Qq n2 b):
 AS prog 221 #[(AP #[AA A1 n1 c1,AA A2 n2 c2,AA A3 n3 c3,AA A4 n4 c4,AA A5 n5 c5,AA A6 n6 c6]),AP #[AB AE a.kind,AB AE a.lo,AB AE a.hi,AL a.Au,AB AE a.unit,AA B m d],AP #[AB AE b.kind,AB AE b.lo,AB AE b.hi,AL b.Au,AB AE b.unit,AA C k e]] w fun e w'=>
  e=AW (Ab (Le us a b))/\AK w w':=by
 have hn2:n2<=9223372036854775807:=by have:=h2.le;omega
 obtain ⟨H2,HA,HB⟩:=BB h2 ha hb;clear h2 ha hb;have HW:AI (∀o1 o2 o3,AK w (((w.alloc o1).alloc o2).alloc o3)):=AF fun o1 o2 o3=>(((BK _ _).alloc AZ _).alloc Bd _);by_cases hk:a.kind=b.kind
 case neg=>
  have hkn:(a.kind !=b.kind)=true:=by simpa using hk
  rw [zH hk];clear hk;go_enter func221,ntmps221;exact cY
 have hkn:(a.kind !=b.kind)=false:=by simpa using hk
 by_cases h4:a.kind=4
 ·have h44:(a.kind==4)=true:=by simpa using h4
  rw [tT h4 AG];obtain ⟨v,hv⟩:=BR (BD a.names b.names);have HE:AI (decide (a.names=b.names)=v):=AF hv;rw [HE.o];have HQ:AI (∀o1 o2 o3,AS prog 120 #[AA B m d,AA C k e] (((w.alloc o1).alloc o2).alloc o3) fun e w'=>e=AW (Ab v)/\AK w w'):=AF (fun o1 o2 o3=>by have:=I3 B C m d k e a.names b.names _ (HA.o.mono BX (HW.o o1 o2 o3)) (HB.o.mono BX (HW.o o1 o2 o3));rw [hv] at this;exact this.mono fun _ _ h=>⟨h.1,(HW.o o1 o2 o3).trans (h.2.mono (HW.o o1 o2 o3).size)⟩)
  clear hv hk h4;go_enter func221,ntmps221;go_wp2_with (go_at_call 120;refine (HQ.o _ _ _).mono ?_;rintro e w' ⟨rfl,hbq⟩);go_ret;exact ⟨rfl,hbq⟩
 have h44:(a.kind==4)=false:=by simpa using h4
 by_cases hu:a.kind≠1\/a.unit= -1\/b.unit= -1
 ·rw [zG hk h4 hu]
  have huu:(a.unit==b.unit)=decide (a.unit=b.unit):=by by_cases h:a.unit=b.unit <;> simp [h]
  rw [<-huu];clear huu hk h4;go_enter func221,ntmps221;by_cases u1:a.kind=1
  ·have u11:(a.kind !=1)=false:=by simpa using u1
   by_cases u2:a.unit= -1
   ·have u22:(a.unit== -1)=true:=by simpa using u2
    clear u1 u2 hu hua hub;exact cY
   have u22:(a.unit== -1)=false:=by simpa using u2
   have u33:(b.unit== -1)=true:=by simpa using (hu.resolve_left (by simpa using u1)).resolve_left u2
   clear u1 u2 hu hua hub;exact cY
  have u11:(a.kind !=1)=true:=by simpa using u1
  clear u1 hu hua hub;exact cY
 have u1:a.kind=1:=Classical.byContradiction fun h=>hu (.inl h);have u2:a.unit≠ -1:=fun h=>hu (.inr (.inl h));have u3:b.unit≠ -1:=fun h=>hu (.inr (.inr h));rw [zI u1 AG u2 u3];obtain ⟨x1,x2⟩:=hua u1;obtain ⟨y1,y2⟩:=hub AG;have u11:(a.kind !=1)=false:=by simpa using u1
 have u22:(a.unit== -1)=false:=by simpa using u2
 have u33:(b.unit== -1)=false:=by simpa using u3
 obtain ⟨i,hi⟩:∃i:Nat,a.unit=i:=⟨a.unit.toNat,by omega⟩;obtain ⟨j,hj⟩:∃j:Nat,b.unit=j:=⟨b.unit.toNat,by omega⟩;obtain ⟨g1,o1,p,hp,l1,hx,_,_,_,e1,_⟩:=OE H2.o (k:=i) AG;obtain ⟨g2,o2,q,hq,l2,hy,_,_,_,e2,_⟩:=OE H2.o (k:=j) AG;subst hp;injection hq with hq;injection hq with hq1 hq2;subst hq1 hq2;have hba:Q5 us a.unit=p.base:=by rw [Q5,hi,Cq,hx];rfl
 have hbb:Q5 us b.unit=q.base:=by rw [Q5,hj,Cq,hy];rfl
 rw [hba,hbb];have huu:(p.base==q.base)=decide (p.base=q.base):=by by_cases h:p.base=q.base <;> simp [h]
 rw [<-huu];have hi0:(0:Int)<=(i:Int):=AG
 have hin:(i:Int) < (n2:Int):=AG
 have hj0:(0:Int)<=(j:Int):=AG
 have hjn:(j:Int) < (n2:Int):=AG
 rw [hi] at u22 ⊢;rw [hj] at u33 ⊢;clear huu hba hbb hx hy x1 x2 y1 y2 hi hj u1 u2 u3 hu hk h4 hua hub;go_enter func221,ntmps221;go_wp2_with fail;obtain ⟨wb,hwb⟩:=Ad (((w.alloc (AO #[AA A1 n1 c1,AA (some ⟨g1,o1,none⟩) n2 c2,AA A3 n3 c3,AA A4 n4 c4,AA A5 n5 c5,AA A6 n6 c6] 137)).alloc (AO #[AB AE a.kind,AB AE a.lo,AB AE a.hi,AL a.Au,AB AE i,AA B m d] 109)).alloc (AO #[AB AE b.kind,AB AE b.lo,AB AE b.hi,AL b.Au,AB AE j,AA C k e] 109));rw [<-hwb];have hbb:AK w wb:=by rw [hwb];exact HW.o _ _ _
 have kA:AY wb w.heap.size 137 #[AA A1 n1 c1,AA (some ⟨g1,o1,none⟩) n2 c2,AA A3 n3 c3,AA A4 n4 c4,AA A5 n5 c5,AA A6 n6 c6]:=by rw [hwb];exact ((AY.new _ _ _).alloc _).alloc _
 have kB:AY wb (w.heap.size+1) 109 #[AB AE a.kind,AB AE a.lo,AB AE a.hi,AL a.Au,AB AE i,AA B m d]:=by rw [hwb];exact (Dk AZ).alloc _
 have kC:AY wb (w.heap.size+1+1) 109 #[AB AE b.kind,AB AE b.lo,AB AE b.hi,AL b.Au,AB AE j,AA C k e]:=by rw [hwb];exact Dk AZ
 have q1:=kA.cell 1;have q4:=kB.cell 4;have r4:=kC.cell 4;simp only [Aj,Ao,BA] at q1 q4 r4;rw [<-hbb.cell (p:=⟨g1,_,none⟩) l1] at e1 e2;have BJ:=AF hbb;clear hwb hbb kA kB kC HW;go_quiet (fail);go_wp2;go_ret;exact ⟨rfl,below_drewN BJ.o _⟩
theorem AY.five {w:AH} {g:Nat} {t:Ae} {a b c d e:AN} (h:AY w g t #[a,b,c,d,e]):
 w.cell? ⟨g,0,none⟩=some a/\w.cell? ⟨g,1,none⟩=some b/\w.cell? ⟨g,2,none⟩=some c/\w.cell? ⟨g,3,none⟩=some d/\w.cell? ⟨g,4,none⟩=some e:=
 ⟨h.cell 0,h.cell 1,h.cell 2,h.cell 3,h.cell 4⟩
theorem AY.eleven {w:AH} {g:Nat} {t:Ae} {a b c d e f a' b' c' d' e':AN} (h:AY w g t #[a,b,c,d,e,f,a',b',c',d',e']):
 w.cell? ⟨g,0,none⟩=some a/\w.cell? ⟨g,1,none⟩=some b/\w.cell? ⟨g,2,none⟩=some c/\w.cell? ⟨g,3,none⟩=some d/\w.cell? ⟨g,4,none⟩=some e/\w.cell? ⟨g,5,none⟩=some f/\w.cell? ⟨g,6,none⟩=some a'/\w.cell? ⟨g,7,none⟩=some b'/\w.cell? ⟨g,8,none⟩=some c'/\w.cell? ⟨g,9,none⟩=some d'/\w.cell? ⟨g,10,none⟩=some e':=
 ⟨h.cell 0,h.cell 1,h.cell 2,h.cell 3,h.cell 4,h.cell 5,h.cell 6,h.cell 7,h.cell 8,h.cell 9,h.cell 10⟩
theorem zE (w:AH) (o1 o2:Obj) {t:Ae} {cs:Array AN}:AY (((w.alloc o1).alloc o2).alloc (AO cs t)) (w.heap.size+1+1) t cs:=Dk AZ
theorem ABW (F1 F2 F3:Option Aa) (m1 d1 m2 d2 m3 d3:Nat) (hd:ByteArray) (EI:Int) (f:Fy) (t:EF) (B:Option Aa) (m d:Nat) (ss:List BM) (fs:List CO) (w0 w:AH) (hb0:AK w0 w) (h3:Ag 6 BW w0 (AA A3 n3 c3) ss) (hf:Ag 8 DU w0 (AA F1 m1 d1) fs) (hn:BV 1 16 Dd w0 (AA B m d) f.names):
 AS prog 168 #[(AP #[AA A1 n1 c1,AA A2 n2 c2,AA A3 n3 c3,AA A4 n4 c4,AA A5 n5 c5,AA A6 n6 c6,AL hd,AB AE EI,AA F1 m1 d1,AA F2 m2 d2,AA F3 m3 d3]),AP #[AB AE f.kind,AB AE f.lo,AB AE f.hi,AL f.Au,AB AE f.unit,AA B m d],AP #[AL t.name,AL t.path,AB AE t.var,AB AE t.field,AB AE t.n]] w fun e w'=>
  e=AW (Ab (V6 ss fs f t))/\AK w w':=by
 have hm1:m1<=9223372036854775807:=by have:=hf.le;omega
 obtain ⟨wb,hwb⟩:=Ad (((w.alloc (AO #[AA A1 n1 c1,AA A2 n2 c2,AA A3 n3 c3,AA A4 n4 c4,AA A5 n5 c5,AA A6 n6 c6,AL hd,AB AE EI,AA F1 m1 d1,AA F2 m2 d2,AA F3 m3 d3] 197)).alloc (AO #[AB AE f.kind,AB AE f.lo,AB AE f.hi,AL f.Au,AB AE f.unit,AA B m d] 109)).alloc (AO #[AL t.name,AL t.path,AB AE t.var,AB AE t.field,AB AE t.n] 279));have hbb:AK w wb:=by rw [hwb];exact (((BK _ _).alloc AZ _).alloc Bd _)
 have kA:AY wb w.heap.size 197 #[AA A1 n1 c1,AA A2 n2 c2,AA A3 n3 c3,AA A4 n4 c4,AA A5 n5 c5,AA A6 n6 c6,AL hd,AB AE EI,AA F1 m1 d1,AA F2 m2 d2,AA F3 m3 d3]:=by rw [hwb];exact ((AY.new _ _ _).alloc _).alloc _
 have kB:AY wb (w.heap.size+1) 109 #[AB AE f.kind,AB AE f.lo,AB AE f.hi,AL f.Au,AB AE f.unit,AA B m d]:=by rw [hwb];exact (Dk AZ).alloc _
 have kC:AY wb (w.heap.size+1+1) 279 #[AL t.name,AL t.path,AB AE t.var,AB AE t.field,AB AE t.n]:=by rw [hwb];exact zE _ _ _
 have PV:AI (∀W,AK w0 W->AS prog 219 #[(AP #[AA A1 n1 c1,AA A2 n2 c2,AA A3 n3 c3,AA A4 n4 c4,AA A5 n5 c5,AA A6 n6 c6,AL hd,AB AE EI,AA F1 m1 d1,AA F2 m2 d2,AA F3 m3 d3]),AP #[AL t.name,AL t.path,AB AE t.var,AB AE t.field,AB AE t.n],AB AE m1] W (Oq (GF ss fs t fs.length) w0 W)):=AF (fun W hW=>by have:=Sg A1 A2 A3 A4 A5 A6 n1 c1 n2 c2 n3 c3 n4 c4 n5 c5 n6 c6 F1 F2 F3 m1 d1 m2 d2 m3 d3 hd EI t m1 ss fs w0 W hW h3 hf AG AG;rw [Cq] at this;rw [<-hf.len];exact this)
 have HN:=AF hn;have HNU:AI (AS prog 220 #[AP #[AL t.name,AL t.path,AB AE t.var,AB AE t.field,AB AE t.n]] wb fun e w'=>e=AW (Ab (isNum t))/\AK wb w'):=AF (Sx t wb);obtain ⟨HB0,HA,HB,HC,BJ,Cf⟩:=Fg hb0 kA kB kC hbb hwb;clear hf h3 hn hb0 kA kB kC hbb hwb;obtain ⟨o,ho⟩:=BR (GF ss fs t fs.length);obtain ⟨v,hv⟩:=BR (isNum t);have HS:AI (V6 ss fs f t=if v then decide (f.lo<=t.n) && decide (t.n<=f.hi) else o.any fun y=>decide (y.kind=f.kind) && decide (y.unit=f.unit) && decide (y.names=f.names) && decide (f.lo<=y.lo) && decide (y.lo<=f.hi) && decide (f.lo<=y.hi) && decide (y.hi<=f.hi)):=AF (by rw [V6,ho,hv]);rw [ho] at PV;rw [hv] at HNU;rw [HS.o];clear ho hv HS;have c0:=(HC.o.five).1;have c1:=(HC.o.five).2.1;have c2:=(HC.o.five).2.2.1;have c3:=(HC.o.five).2.2.2.1;have c4:=(HC.o.five).2.2.2.2;have lA:=HA.o.lt;have lB:=HB.o.lt;have lC:=HC.o.lt;obtain ⟨ga,hga⟩:=Ad w.heap.size;obtain ⟨gb,hgb⟩:=Ad (w.heap.size+1);obtain ⟨gc,hgc⟩:=Ad (w.heap.size+1+1);go_enter func168,ntmps168;go_upto_region 1 with fail;rw [<-Cf.o,<-hgc,<-hgb,<-hga];rw [<-hgc] at HC c0 c1 c2 c3 c4 lC;rw [<-hgb] at HB lB;rw [<-hga] at HA lA;clear hga hgb hgc Cf;go_wp2_with (go_at_call 220;refine HNU.o.mono ?_;clear HNU);rintro e w1 ⟨rfl,hb1⟩;have HB1:=AF (AV BJ.o hb1);obtain ⟨b0,b1,b2,b3,b4,b5⟩:=(HB.o.below hb1 lB).six;obtain ⟨a0,a1,a2,a3,a4,a5,a6,a7,a8,a9,a10⟩:=(HA.o.below hb1 lA).eleven;obtain ⟨c0,c1,c2,c3,c4⟩:=(HC.o.below hb1 lC).five;have lA1:=Av lA hb1.size;have lB1:=Av lB hb1.size;have lC1:=Av lC hb1.size;have kB1:=AF (HB.o.below hb1 lB);clear hb1 lA lB lC HA HB HC;cases v with
 |
  true=>
  clear PV HN kB1 a0 a1 a2 a3 a4 a5 a6 a7 a8 a9 a10;go_wp2_with fail
  all_goals
   go_ret;refine ⟨A8 ?_,HB1.o⟩
   go_light
   first
    | rfl
    | (simp_all;done)
    | (simp_all;omega)
 |
  false=>
  have HT:=AF (PV.o w1 (AV HB0.o HB1.o));clear PV;cases o with
  |
   none=>
   go_wp2_with (go_at_call 219;refine HT.o.mono ?_;clear HT;rintro e w2 ⟨⟨B',m',d',rfl,hs⟩,hb2⟩;have HB2:=AF (AV HB1.o hb2);clear hs hb2 b0 b1 b2 b3 b4 b5 a0 a1 a2 a3 a4 a5 a6 a7 a8 a9 a10 c0 c1 c2 c3 c4;simp only [IV]);go_ret;exact ⟨rfl,HB2.o.alloc HB2.o.size _⟩
  |
   some y=>
   obtain ⟨yk,yl,yh,yf,yu,yn⟩:=y;go_wp2_with (go_at_call 219;refine HT.o.mono ?_;clear HT);rintro e w2 ⟨⟨B',m',d',rfl,hs⟩,hb2⟩;obtain ⟨HS,HB2,HKB⟩:=BB hs (AV HB1.o hb2) (kB1.o.below hb2 lB1);obtain ⟨b0,b1,b2,b3,b4,b5⟩:=HKB.o.six;have lB2:=Av lB1 hb2.size;clear hs hb2 kB1 a0 a1 a2 a3 a4 a5 a6 a7 a8 a9 a10 c0 c1 c2 c3 c4 lA1 lC1 lB1;simp only [Ce,Ge];simp only [Ce] at HS;obtain ⟨v,hv⟩:=BR (BD yn f.names);have HV:AI (decide (yn=f.names)=v):=AF hv;have HEQ:AI (∀o,AS prog 120 #[AA B' m' d',AA B m d] (w2.alloc o) fun e w'=>e=AW (Ab v)/\BL (w2.alloc o).heap.size (w2.alloc o) w'):=AF (fun o=>by have hba:=AV HB0.o (HB2.o.alloc HB2.o.size o);have:=I3 B' B m' d' m d yn f.names (w2.alloc o) (HS.o.1.mono BX hba) (HN.o.1.mono BX hba);rw [hv] at this;exact this)
   clear hv;have HZK:AI (∀W,BL (w2.alloc (AO #[AB AE yk,AB AE yl,AB AE yh,AL yf,AB AE yu,AA B' m' d'] 109)).heap.size (w2.alloc (AO #[AB AE yk,AB AE yl,AB AE yh,AL yf,AB AE yu,AA B' m' d'] 109)) W->AY W w2.heap.size 109 #[AB AE yk,AB AE yl,AB AE yh,AL yf,AB AE yu,AA B' m' d']):=AF (fun W h=>(AY.new w2 _ _).below h AZ);cases e1:(yk==f.kind) with
   |
    false=>
    go_wp2;go_ret;refine ⟨A8 ?_,HB2.o.alloc HB2.o.size _⟩
    go_light
    simp_all
   |
    true=>
    cases e2:(yu==f.unit) with
    |
     false=>
     go_wp2;go_ret;refine ⟨A8 ?_,HB2.o.alloc HB2.o.size _⟩
     go_light
     simp_all
    |
     true=>
     go_wp2_with (go_at_call 120;refine (HEQ.o _).mono ?_;clear HEQ;rintro e w3 ⟨rfl,hb3⟩;have HB3:=AF ((HB2.o.alloc HB2.o.size _).trans (hb3.mono XQ));obtain ⟨b0,b1,b2,b3,b4,b5⟩:=((HKB.o.alloc _).below hb3 Bd).six;have kz:AY w3 w2.heap.size 109 _:=HZK.o w3 hb3;obtain ⟨z0,z1,z2,z3,z4,z5⟩:=kz.six;have lz:w2.heap.size < w3.heap.size:=Av AZ hb3.size;have lB3:gb < w3.heap.size:=Av Bd hb3.size;clear kz hb3)
     all_goals
      go_ret;refine ⟨A8 ?_,HB3.o⟩;have hV:=HV.o
      go_light
      first
       | (simp_all;done)
       | (simp_all;omega)
def My (ss:List BM) (fs:List CO) (k:Nat):Bool:=(List.range k).all fun i=>(fs[i]?).any fun f=>Mz ss fs i f
theorem Wq {ss:List BM} {fs:List CO} {k:Nat} {x:CO} (h:fs[k]? =some x):My ss fs (k+1)=(My ss fs k && Mz ss fs k x):=by simp [My,List.range_succ,h]
theorem UW {ss:List BM} {fs:List CO} {k:Nat} {x:CO} (h:fs[k]? =some x) (hx:Mz ss fs k x=false):Ic ss fs=false:=by
 have hk:=(BF.1 h).1;have:My ss fs fs.length=false:=by rw [My,List.all_eq_false];exact ⟨k,by simpa using hk,by rw [h];simp [hx]⟩
 rw [Ic];unfold My at this;rw [this];simp
theorem AEx {ss:List BM} {fs:List CO} {k:Nat} {x:CO} (h:¬(0<=x.schema/\x.schema < ss.length)):Mz ss fs k x=false:=by
 rw [Mz];have:(decide (0<=x.schema) && decide (x.schema < ss.length))=false:=by simp only [NJ,NK];omega
 rw [this];rfl
theorem AEv {ss:List BM} {fs:List CO} {k:Nat} {x:CO} (h:0<=x.schema/\x.schema < ss.length) (hv:x.Au.var= -1):Mz ss fs k x=true:=by rw [Mz,Bk h.1,Bk h.2,Bk hv];rfl
theorem AEw {ss:List BM} {fs:List CO} {k:Nat} {x:CO} (h:0<=x.schema/\x.schema < ss.length) (hv:x.Au.var≠ -1):Mz ss fs k x=(GF ss fs x.Au k).any fun t=>decide (t.kind=3):=by rw [Mz,Bk h.1,Bk h.2,BS hv];rfl
theorem tE (F1 F2 F3:Option Aa) (m1 d1 m2 d2 m3 d3:Nat) (hd:ByteArray) (EI:Int) (ss:List BM) (fs:List CO) (w0 w:AH) (hb0:AK w0 w) (h3:Ag 6 BW w0 (AA A3 n3 c3) ss) (hf:Ag 8 DU w0 (AA F1 m1 d1) fs):
 AS prog 166 #[(AP #[AA A1 n1 c1,AA A2 n2 c2,AA A3 n3 c3,AA A4 n4 c4,AA A5 n5 c5,AA A6 n6 c6,AL hd,AB AE EI,AA F1 m1 d1,AA F2 m2 d2,AA F3 m3 d3])] w fun e w'=>e=AW (Ab (Ic ss fs))/\AK w w':=by
 have hm1:m1<=9223372036854775807:=by have:=hf.le;omega
 have hn3:n3<=9223372036854775807:=by have:=h3.le;omega
 obtain ⟨Hc,HLF⟩:=Al h3.len hf.len;have PV:AI (∀(t:EF) (k:Nat) W,k<=m1->AK w0 W->AS prog 219 #[(AP #[AA A1 n1 c1,AA A2 n2 c2,AA A3 n3 c3,AA A4 n4 c4,AA A5 n5 c5,AA A6 n6 c6,AL hd,AB AE EI,AA F1 m1 d1,AA F2 m2 d2,AA F3 m3 d3]),AP #[AL t.name,AL t.path,AB AE t.var,AB AE t.field,AB AE t.n],AB AE k] W (Oq (GF ss fs t k) w0 W)):=AF (fun t k W hk hW=>by
  have:=Sg A1 A2 A3 A4 A5 A6 n1 c1 n2 c2 n3 c3 n4 c4 n5 c5 n6 c6 F1 F2 F3 m1 d1 m2 d2 m3 d3 hd EI t k ss fs w0 W hW h3 hf AG AG
  rwa [Cq] at this)
 obtain ⟨HF,HB0⟩:=Al hf hb0;clear hf h3 hb0;by_cases hin:1<=m1/\m1<=3
 case neg=>
  have HE:AI (Ic ss fs=false):=AF (by
   rw [Ic,<-HLF.o];have:(decide (1<=m1) && decide (m1<=3))=false:=by simp only [NJ,NK];omega
   rw [this];rfl)
  rw [HE.o];go_enter func166,ntmps166;go_wp2_with fail
  all_goals first
   | (exfalso;omega)
   | (go_ret;exact ⟨rfl,(Af _ _).alloc (Ac _) _⟩)
 obtain ⟨hlo,hhi⟩:=hin;have HE:AI (Ic ss fs=My ss fs m1):=AF (by rw [Ic,<-HLF.o,Bk hlo,Bk hhi];rfl)
 have AKb:decide (m1 < 1)=false:=BS AG;have AKi:decide (3 < m1)=false:=BS AG;have hlz:¬((m1:Int) < 1):=AG
 have hhz:¬((3:Int) < (m1:Int)):=AG
 obtain ⟨w1,hw1⟩:=Ad (w.alloc (AO #[AA A1 n1 c1,AA A2 n2 c2,AA A3 n3 c3,AA A4 n4 c4,AA A5 n5 c5,AA A6 n6 c6,AL hd,AB AE EI,AA F1 m1 d1,AA F2 m2 d2,AA F3 m3 d3] 197));have hb1:AK w w1:=by rw [hw1];exact (Af _ _).alloc (Ac _) _
 have kA:AY w1 w.heap.size 197 #[AA A1 n1 c1,AA A2 n2 c2,AA A3 n3 c3,AA A4 n4 c4,AA A5 n5 c5,AA A6 n6 c6,AL hd,AB AE EI,AA F1 m1 d1,AA F2 m2 d2,AA F3 m3 d3]:=by rw [hw1];exact AY.new _ _ _
 obtain ⟨ga,hga⟩:=Ad w.heap.size;rw [<-hga] at kA;have a8:=kA.eleven.2.2.2.2.2.2.2.2.1;obtain ⟨HA,HB1,HW1⟩:=BB kA hb1 hw1;have lA:=kA.lt;go_enter func166,ntmps166;go_upto_region 1 with fail;rw [<-HW1.o,<-hga];clear hw1 HW1 hga kA hb1;go_wp2_with fail;clear a8 AKb AKi hlz hhz;go_loopg [23] m1 (fun q i wr=>∃k:Nat,k<=m1/\q=m1 - k/\i=AB AE k/\My ss fs k=true/\AK w1 wr)
 case atStart=>exact N3
 obtain ⟨k,hk,hq,rfl,hall,hb⟩:=hrel;obtain ⟨HQ,EU,HB⟩:=BB hq hall hb;clear hq hall hb;by_cases hlt:k < m1
 case neg=>
  obtain rfl:k=m1:=AG
  go_wp2;go_ret;rw [HE.o,EU.o];exact ⟨rfl,AV HB1.o HB.o⟩
 obtain ⟨b,off,x,hF1,hbl,hx,e0,e1,e2,e3,e4,e5,e6,e7⟩:=QC HF.o hlt;subst hF1;have hbw:AK w0 wr:=AV HB0.o (AV HB1.o HB.o);rw [<-hbw.cell (p:=⟨b,_,none⟩) hbl] at e0 e1 e2 e3 e4 e5 e6 e7;have AIS:b < wr.heap.size:=Av hbl hbw.size;obtain ⟨a0,a1,a2,a3,a4,a5,a6,a7,a8,a9,a10⟩:=(HA.o.below HB.o lA).eleven;have vP:ga < wr.heap.size:=Av lA HB.o.size;have hk0:=Int.natCast_nonneg k
 have hk1:(k:Int) < (m1:Int):=AG
 obtain ⟨HX,CW⟩:=Al hx hbw;clear hx hbw;by_cases hs:0<=x.schema/\x.schema < n3
 case neg=>
  have HN:AI (Ic ss fs=false):=AF (UW HX.o (AEx (by rw [<-Hc.o];exact hs)));go_wp2_with fail
  all_goals first
   | (exfalso;omega)
   | (go_ret;exact ⟨A8 HN.o.symm,AV HB1.o (HB.o.alloc HB.o.size _)⟩)
 obtain ⟨hs0,hs1⟩:=hs;have Yj:AI (0<=x.schema/\x.schema < ss.length):=AF ⟨hs0,by rw [<-Hc.o];exact hs1⟩;by_cases hv:x.Au.var= -1
 ·have hvb:(x.Au.var== -1)=true:=by simpa using hv
  have Ii:=AF (AEv (fs:=fs) (k:=k) Yj.o hv);clear hv;go_wp2;go_roundg (m1 - (k+1))
  case measure=>exact Bi
  case rel=>exact ⟨k+1,by omega,rfl,by go_num,by rw [Wq HX.o,EU.o,Ii.o];rfl,HB.o.alloc HB.o.size _⟩
 have hvb:(x.Au.var== -1)=false:=by simpa using hv
 have Ii:=AF (AEw (fs:=fs) (k:=k) Yj.o hv);clear hv;have HT:=AF (fun o=>PV.o x.Au k (wr.alloc o) hk (CW.o.alloc CW.o.size o));obtain ⟨o,ho⟩:=BR (GF ss fs x.Au k);rw [ho] at HT Ii;clear ho;cases o with
 |
  none=>
  have HN:AI (Ic ss fs=false):=AF (UW HX.o Ii.o);go_wp2_with (go_at_call 219;refine (HT.o _).mono ?_;clear HT;rintro e w2 ⟨⟨B,m,d,rfl,hs⟩,hb2⟩;have HB2:=AF ((HB.o.alloc HB.o.size _).trans (hb2.mono U6));clear hs hb2);go_ret;exact ⟨A8 HN.o.symm,AV HB1.o (HB2.o.alloc HB2.o.size _)⟩
 |
  some y=>
  obtain ⟨yk,yl,yh,yf,yu,yn⟩:=y;by_cases h3:yk=3
  ·subst h3
   go_wp2_with (go_at_call 219;refine (HT.o _).mono ?_;clear HT;rintro e w2 ⟨⟨B,m,d,rfl,hs⟩,hb2⟩;have HB2:=AF ((HB.o.alloc HB.o.size _).trans (hb2.mono U6));clear hs hb2;simp only [Ce,Ge]);go_roundg (m1 - (k+1))
   case measure=>exact Bi
   case rel=>exact ⟨k+1,by omega,rfl,by go_num,by rw [Wq HX.o,EU.o,Ii.o];rfl,HB2.o.alloc HB2.o.size _⟩
  have h3b:(yk !=3)=true:=by simpa using h3
  have HN:AI (Ic ss fs=false):=AF (UW HX.o (by rw [Ii.o];simpa using h3));clear h3;go_wp2_with (go_at_call 219;refine (HT.o _).mono ?_;clear HT;rintro e w2 ⟨⟨B,m,d,rfl,hs⟩,hb2⟩;have HB2:=AF ((HB.o.alloc HB.o.size _).trans (hb2.mono U6));clear hs hb2;simp only [Ce,Ge]);go_ret;exact ⟨A8 HN.o.symm,AV HB1.o (HB2.o.alloc HB2.o.size _)⟩
def chunk (cs:List AN) (sz i:Nat):List AN:=(cs.drop (i*sz)).take sz
theorem QT {cs:List AN} {sz i j:Nat} (hj:j < sz):(chunk cs sz i)[j]? =cs[i*sz+j]? :=by unfold chunk;rw [Jg hj,EO]
theorem E8 {cs:List AN} {sz i j:Nat} (u:AN) (hj:j < sz):chunk (cs.set (i*sz+j) u) sz i=(chunk cs sz i).set j u:=by
 apply OW;intro k;rcases FL k sz with hk | hk
 ·rw [QT hk,OT,OT,QT hk]
  by_cases e:j=k
  ·subst e
   rw [Ak rfl,Ak rfl];unfold chunk;rw [Df,IQ];by_cases h:i*sz+j < cs.length
   · rw [Ak h,Ak AG]
   · rw [Ah h,Ah AG]
  · rw [Ah AG,Ah e]
 · rw [Dh gg,Dh (by rw [D7];unfold chunk;rw [Df];omega)]
theorem Fa {cs:List AN} {sz i i' j:Nat} (u:AN) (hj:j < sz) (hi:i'≠i):chunk (cs.set (i*sz+j) u) sz i'=chunk cs sz i':=by
 apply OW;intro k;rcases FL k sz with hk | hk
 ·rw [QT hk,QT hk,OT]
  rw [Ah];intro e;apply hi;rcases Nat.lt_trichotomy i i' with h | h | h
  ·exfalso
   have:i*sz+sz<=i'*sz:=by rw [<-KQ];exact Kb _ h
   omega
  · exact h.symm
  exfalso;have:i'*sz+sz<=i*sz:=by rw [<-KQ];exact Kb _ h
  omega
 · rw [Dh gg,Dh gg]
theorem Ap.chunk {α:Type} {sz:Nat} {R:AH->List AN->α->Prop} {w:AH} {cs:List AN} {l:List α} (h:Ap sz R w cs l) {i:Nat} {x:α} (hi:l[i]? =some x):R w (Proofs.YtamhoilkpppdbaaGreatDoor.chunk cs sz i) x:=h.2 i x hi
theorem Ap.put {α:Type} {sz:Nat} {R:AH->List AN->α->Prop} {w:AH} {cs:List AN} {l:List α} (h:Ap sz R w cs l) {i j:Nat} {x':α} {u:AN} (hj:j < sz) (hi:i < l.length) (hR:R w ((Proofs.YtamhoilkpppdbaaGreatDoor.chunk cs sz i).set j u) x'):Ap sz R w (cs.set (i*sz+j) u) (l.set i x'):=by
 refine ⟨by rw [D7,D7];exact h.1,fun k y hk=> ?_⟩;rw [OT] at hk;by_cases e:i=k
 ·subst e
  rw [Ak rfl,Ak hi,Bz] at hk;subst hk;show R w (Proofs.YtamhoilkpppdbaaGreatDoor.chunk _ sz i) x';rw [E8 u hj];exact hR
 rw [Ah e] at hk;show R w (Proofs.YtamhoilkpppdbaaGreatDoor.chunk _ sz k) y;rw [Fa u hj (fun e'=>e e'.symm)];exact h.2 k y hk
theorem BI {w:AH} {base:Nat} {e:Ae} {sz g n cap:Nat} {cs:List AN} (h:w.ownsRow base e sz (AA (some ⟨g,0,none⟩) n cap) n cs) {i j:Nat} {c:List AN} {u:AN} (hi:i < n) (hj:j < sz) (hc:chunk cs sz i=c) (hu:c[j]? =some u):w.cell? ⟨g,i*sz+j,none⟩=some u:=by
 have hlt:i*sz+j < n*sz:=by
  have:i*sz+sz<=n*sz:=by rw [<-KQ];exact Kb _ hi
  omega
 rw [h.cellAt _ hlt,<-QT hj,hc,hu]
theorem set_drop {α:Type} {out l:List α} {x:α} {k:Nat} (hk:out.length=k) {y:α} (hx:l[k]? =some y):(out++l.drop k).set k x=(out++[x])++l.drop (k+1):=by subst hk;rw [drop_cons hx,ZO _ _ (Ac _),Pm,CZ,Gc];rfl
def Zr (s:List (ByteArray×Int)×Bool) (i:Nat) (x:ByteArray):List (ByteArray×Int)×Bool:=
 if (getM s.1 x).isSome then (s.1,true) else (Hv s.1 x (i:Int),s.2)
def Bw (l:List ByteArray):Nat->List (ByteArray×Int)×Bool
 | 0=>([],false)
 |
  k+1=>match l[k]? with
  | some x=>Zr (Bw l k) k x
  | none=>Bw l k
def col (l:List ByteArray):List (ByteArray×Int)×Bool:=Bw l l.length
theorem Gl {l:List ByteArray} {k:Nat} {x:ByteArray} (h:l[k]? =some x):Bw l (k+1)=Zr (Bw l k) k x:=by rw [Bw,h]
theorem M1 {s:List (ByteArray×Int)×Bool} {i:Nat} {x:ByteArray} {n:Int} (h:getM s.1 x=some n):Zr s i x=(s.1,true):=by simp [Zr,h]
theorem OI {s:List (ByteArray×Int)×Bool} {i:Nat} {x:ByteArray} (h:getM s.1 x=none):Zr s i x=(Hv s.1 x (i:Int),s.2):=by simp [Zr,h]
def idx (l:List ByteArray) (x:ByteArray):Option Nat:=l.findIdx? (fun y=>decide (y=x))
theorem AD7 (l:List ByteArray) (y x:ByteArray):idx (l++[y]) x=(idx l x).or (if y=x then some l.length else none):=by
 unfold idx;rw [List.findIdx?_append];congr 1;by_cases h:y=x
 · simp [h]
 · simp [h]
theorem qh (l:List ByteArray):∀k,k<=l.length->∀x,getM (Bw l k).1 x=(idx (l.take k) x).map (fun n:Nat=>(n:Int))
 | 0,_,x=>rfl
 |
  k+1,hk,x=>by
  have hl:l[k]? =some l[k]:=BN hk;have ih:=qh l k AG;rw [Gl hl,take_snoc hl,AD7];cases hg:getM (Bw l k).1 l[k] with
  |
   some n=>
   rw [M1 hg,ih x];by_cases h:l[k]=x
   ·have:=ih l[k]
    rw [hg,h] at this;cases hi:idx (l.take k) x with
    | none=>rw [hi] at this;cases this
    | some m=>rfl
   ·rw [Ah h]
    cases idx (l.take k) x <;> rfl
  |
   none=>
   rw [OI hg,qP];have h0:=ih l[k];rw [hg] at h0;by_cases h:x=l[k]
   ·rw [Ak h,Ak h.symm,h]
    cases hi:idx (l.take k) l[k] with
    | none=>simp;omega
    | some m=>rw [hi] at h0;cases h0
   rw [Ah h,Ah (fun e=>h e.symm),ih x];cases idx (l.take k) x <;> rfl
theorem Ie (l:List ByteArray) (x:ByteArray):getM (col l).1 x=(idx l x).map (fun n:Nat=>(n:Int)):=by
 have:=qh l l.length (Ac _) x
 rwa [Ps] at this
def Dc (l:List ByteArray):Bool:=(col l).2
def Vi (l:List ByteArray) (w:AH) (e:Ending) (w':AH):Prop:=
 ∃b,e=AW (BU #[.map (some b),Ab (Dc l)])/\MapAt (fun x:ByteArray=>Value.string x) (fun x:Int=>Value.int .i64 x) w' b (col l).1/\w.heap.size<=b/\AK w w'
abbrev IY (x:ByteArray):AN:=Value.string x
abbrev Gv (x:Int):AN:=Value.int .i64 x
abbrev SMap:Type:=List (ByteArray×Int)
def CU (w w':AH):Prop:=∀(b:Nat) (es:Array MapEntry) (clock:Nat),w.heap[b]? =some (Obj.map es clock)->w'.heap[b]? =some (Obj.map es clock)
theorem CU.refl (w:AH):CU w w:=fun _ _ _ h=>h
theorem CU.trans {a b c:AH} (h:CU a b) (h':CU b c):CU a c:=fun k es cl e=>h' k es cl (h k es cl e)
theorem CU.below {w w':AH} (h:AK w w'):CU w w':=fun b _ _ e=>(h.block b (DF.1 e).1).trans e
theorem CU.put (w:AH) (p:Aa) (v:AN):CU w (w.setCell p v):=by
 intro b es cl e;by_cases h:b=p.block
 ·subst h
  simp [World.setCell,Array.getElem?_modify,e]
 · exact (C5 w p v b h).trans e
theorem CU.grown {w w':AH} {row:Option Nat} (h:w.grownBy w' row) (hr:∀g,row=some g->∃cs t f,w.heap[g]? =some (Obj.cells cs t f)):CU w w':=by intro b es cl e;refine (h.block b (DF.1 e).1 ?_).trans e;intro e';obtain ⟨cs,t,f,hc⟩:=hr b e'.symm;rw [e] at hc;cases hc
theorem CU.own {w w':AH} {base:Nat} {t:Ae} {sz:Nat} {v:AN} {n:Nat} {xs:List AN} (ho:w.ownsRow base t sz v n xs) (h:w.grownBy w' v.ownBlock):CU w w':=by
 refine CU.grown h (fun g e=> ?_);rcases ho.2 with ⟨rfl,_⟩ | ⟨g',cap,cur,rfl,_,hh,_⟩
 · cases e
 simp only [Value.ownBlock,Bz] at e;subst e;exact ⟨_,_,_,hh⟩
theorem MapAt.keeps {κ ν:Type} {ek:κ->AN} {ev:ν->AN} {w w':AH} {b:Nat} {m:List (κ×ν)} (h:MapAt ek ev w b m) (hk:CU w w'):MapAt ek ev w' b m:=by obtain ⟨es,clock,h1,h2⟩:=h;exact ⟨es,clock,hk b es clock h1,h2⟩
theorem MapAt.below {κ ν:Type} {ek:κ->AN} {ev:ν->AN} {w w':AH} {b:Nat} {m:List (κ×ν)} (h:MapAt ek ev w b m) (hb:AK w w'):MapAt ek ev w' b m:=h.keeps (.below hb)
def QG (w:AH) (cs:List AN) (m:SMap):Prop:=∃b,cs=[.map (some b)]/\MapAt IY Gv w b m
theorem eC {w w':AH} (hk:CU w w') {cs:List AN} {m:SMap} (h:QG w cs m):QG w' cs m:=by obtain ⟨b,e,hm⟩:=h;exact ⟨b,e,hm.keeps hk⟩
theorem Xz:Ep QG:=fun _ _ hb _ _ h=>eC (.below hb) h
theorem Ap.keeps {w w':AH} (hk:CU w w') {cs:List AN} {l:List SMap} (h:Ap 1 QG w cs l):Ap 1 QG w' cs l:=⟨h.1,fun i x hi=>eC hk (h.2 i x hi)⟩
theorem VU {w:AH} {A:Option Aa} {n cap:Nat} {l:List SMap} (h:Ag 1 QG w (AA A n cap) l) {k:Nat} (hk:k < n):
 ∃b off x g,A=some ⟨b,off,none⟩/\b < w.heap.size/\l[k]? =some x/\w.cell? ⟨b,off+k,none⟩=some (.map (some g))/\MapAt IY Gv w g x:=by
 obtain ⟨b,off,x,cs,e,hb,hl,hlen,hc,g,rfl,hm⟩:=h.at_ hk;exact ⟨b,off,x,g,e,hb,hl,by simpa using hc 0 _ rfl,hm⟩
def Ho (s:BG):List ByteArray:=s.units.map (·.name)
def CM (s:BG):List ByteArray:=s.Aq.map (·.name)
def O4 (s:BG):List ByteArray:=s.purposes.map (·.name)
def fieldNames (x:BM):List ByteArray:=x.fields.map (·.name)
def Ts (x:Cm):List ByteArray:=x.froms.map (·.name)
def fieldMap (x:BM):SMap:=(col (fieldNames x)).1
def Nq (s:BG):Bool:=Dc s.Bh || Dc (Ho s) || Dc (CM s) || Dc (O4 s) || s.Aq.any (fun x=>Dc (fieldNames x)) || s.rules.any (fun x=>Dc (Ts x))
def KJ (w:AH) (R:Nat) (s:BG):Prop:=
 ∃b1 b2 b3 A n c,AY w R 271 #[.map (some b1),.map (some b2),.map (some b3),AA A n c]/\MapAt IY Gv w b1 (col s.Bh).1/\MapAt IY Gv w b2 (col (Ho s)).1/\MapAt IY Gv w b3 (col (CM s)).1/\Ag 1 QG w (AA A n c) (s.Aq.map fieldMap)
theorem KJ.below {w w':AH} {R:Nat} {s:BG} (h:KJ w R s) (hb:AK w w'):KJ w' R s:=by obtain ⟨b1,b2,b3,A,n,c,h0,h1,h2,h3,h4⟩:=h;exact ⟨b1,b2,b3,A,n,c,h0.below hb h0.lt,h1.below hb,h2.below hb,h3.below hb,h4.mono Xz hb⟩
def ACm (s:BG) (w:AH) (e:Ending) (w':AH):Prop:=
 ∃R,e=AW (BU #[AU (some ⟨R,0,none⟩),Ab (Nq s)])/\KJ w' R s/\w.heap.size<=R/\AK w w'
def mask (lo M:Nat) (w:AH):AH:={w with heap:=w.heap.mapIdx (fun b o=>if lo<=b/\b < M then .cells #[] 0 else o)}
section
variable {lo M:Nat} {w w':AH}
theorem Eb:(mask lo M w).heap.size=w.heap.size:=by simp [mask]
theorem Hq {b:Nat} (h:b < lo\/M<=b):(mask lo M w).heap[b]? =w.heap[b]? :=by
 simp only [mask,R6];cases w.heap[b]? with
 | none=>rfl
 | some o=>rw [C6,Ah AG]
theorem L7 {b:Nat} (h:lo<=b/\b < M) (hb:b < w.heap.size):(mask lo M w).heap[b]? =some (AO #[] 0):=by simp only [mask,R6];rw [ZU hb,C6,Ak h]
theorem Xy {b o:Nat} {v:AN} (h:(mask lo M w).cell? ⟨b,o,none⟩=some v):w.cell? ⟨b,o,none⟩=some v:=by
 by_cases hb:b < lo\/M<=b
 ·rw [<-h]
  exact (Ke (Hq hb)).symm
 exfalso;by_cases hs:b < w.heap.size
 · simp [World.cell?,L7 (w:=w) (lo:=lo) (M:=M) (b:=b) AG hs] at h
 have:(mask lo M w).heap[b]? =none:=by rw [NM];rw [Eb];omega
 simp [World.cell?,this] at h
theorem C8 {G:Nat} (hg:w.grownBy w' (some G)) (h1:lo<=G) (h2:G < M):BL (mask lo M w).heap.size (mask lo M w) (mask lo M w'):=by
 refine ⟨hg.os,hg.tape,hg.output,by rw [Eb,Eb];exact hg.size,fun k hk=> ?_⟩;rw [Eb] at hk;by_cases hb:k < lo\/M<=k
 ·rw [Hq hb,Hq hb]
  exact hg.block k hk (fun e=>by injection e;omega)
 · rw [L7 AG hk,L7 AG (Av hk hg.size)]
theorem aE (hg:AK w w'):BL (mask lo M w).heap.size (mask lo M w) (mask lo M w'):=by
 refine ⟨hg.os,hg.tape,hg.output,by rw [Eb,Eb];exact hg.size,fun k hk=> ?_⟩;rw [Eb] at hk;by_cases hb:k < lo\/M<=k
 ·rw [Hq hb,Hq hb]
  exact hg.block k hk
 · rw [L7 AG hk,L7 AG (Av hk hg.size)]
theorem L1 {base:Nat} {e:Ae} {sz:Nat} {v:AN} {n:Nat} {cs:List AN} (h:w.ownsRow base e sz v n cs) (hb:M<=base):(mask lo M w).ownsRow base e sz v n cs:=by
 refine ⟨h.1,?_⟩;rcases h.2 with h | ⟨g,cap,cur,h1,h2,h3,h4⟩
 · exact .inl h
 · exact .inr ⟨g,cap,cur,h1,h2,(Hq (.inr AG)).trans h3,h4⟩
theorem Ss {κ ν:Type} {ek:κ->AN} {ev:ν->AN} {b:Nat} {m:List (κ×ν)} (h:MapAt ek ev (mask lo M w) b m):MapAt ek ev w b m:=by
 obtain ⟨es,clock,h1,h2⟩:=h;refine ⟨es,clock,?_,h2⟩;by_cases hb:b < lo\/M<=b
 · rw [<-h1];exact (Hq hb).symm
 exfalso;have hs:b < w.heap.size:=by have:=(DF.1 h1).1;rwa [Eb] at this
 rw [L7 AG hs] at h1;cases h1
theorem pP {g:Nat} {t:Ae} {cs:Array AN} (h:AY (mask lo M w) g t cs) (hc:cs≠#[]):AY w g t cs:=by
 by_cases hb:g < lo\/M<=g
 · exact (Hq hb).symm.trans h
 exfalso;have hs:g < w.heap.size:=by have:=h.lt;rwa [Eb] at this
 have h1:(mask lo M w).heap[g]? =some (AO cs t (0,0)):=h;rw [L7 AG hs] at h1;injection h1 with h1;injection h1 with h1;exact hc h1.symm
def Nx {α:Type} (R:AH->List AN->α->Prop):Prop:=∀(lo M:Nat) (w:AH) (cs:List AN) (x:α),R (mask lo M w) cs x->R w cs x
theorem Ag.Ig {α:Type} {sz:Nat} {R:AH->List AN->α->Prop} (hR:Nx R) {v:AN} {l:List α} (h:Ag sz R (mask lo M w) v l):Ag sz R w v l:=by obtain ⟨A,cap,e,h1,h2,h3⟩:=h;refine ⟨A,cap,e,h1,h2,fun i x hi=> ?_⟩;obtain ⟨b,off,cs,rfl,hlt,hl,hc,hr⟩:=h3 i x hi;exact ⟨b,off,cs,rfl,by rwa [Eb] at hlt,hl,fun j u hu=>Xy (hc j u hu),hR _ _ _ _ _ hr⟩
theorem BV.Ig {α:Type} {sz bytes:Nat} {R:AH->List AN->α->Prop} (hR:Nx R) {v:AN} {l:List α} (h:BV sz bytes R (mask lo M w) v l):BV sz bytes R w v l:=⟨h.1.Ig hR,h.2⟩
theorem WI (w0:AH) (h:AK w0 w) (hlo:w0.heap.size<=lo):AK w0 (mask lo M w):=
 ⟨h.os,h.tape,h.output,by rw [Eb];exact h.size,fun k hk=>(Hq (.inl AG)).trans (h.block k hk)⟩
theorem eA {H:Option Nat} (hg:w.grownBy w' H):(mask lo M w).grownBy (mask lo M w') H:=by
 refine ⟨hg.os,hg.tape,hg.output,by rw [Eb,Eb];exact hg.size,fun k hk hne=> ?_⟩;rw [Eb] at hk;by_cases hb:k < lo\/M<=k
 ·rw [Hq hb,Hq hb]
  exact hg.block k hk hne
 · rw [L7 AG hk,L7 AG (Av hk hg.size)]
theorem Ag.uz {α:Type} {sz:Nat} {R:AH->List AN->α->Prop} {v:AN} {l:List α} (h:Ag sz R (mask lo M w) v l):Ag sz (fun _=>R (mask lo M w)) w v l:=by obtain ⟨A,cap,e,h1,h2,h3⟩:=h;refine ⟨A,cap,e,h1,h2,fun i x hi=> ?_⟩;obtain ⟨b,off,cs,rfl,hlt,hl,hc,hr⟩:=h3 i x hi;exact ⟨b,off,cs,rfl,by rwa [Eb] at hlt,hl,fun j u hu=>Xy (hc j u hu),hr⟩
theorem Ap.Ig {α:Type} {sz:Nat} {R:AH->List AN->α->Prop} (hR:Nx R) {cs:List AN} {l:List α} (h:Ap sz R (mask lo M w) cs l):Ap sz R w cs l:=⟨h.1,fun i x hi=>hR _ _ _ _ _ (h.2 i x hi)⟩
theorem ADl:Nx QG:=by rintro lo M w cs x ⟨b,e,h⟩;exact ⟨b,e,Ss h⟩
theorem KJ.Ig {R:Nat} {s:BG} (h:KJ (mask lo M w) R s):KJ w R s:=by obtain ⟨b1,b2,b3,A,n,c,h0,h1,h2,h3,h4⟩:=h;exact ⟨b1,b2,b3,A,n,c,pP h0 AZ,Ss h1,Ss h2,Ss h3,h4.Ig ADl⟩
end
theorem Si:Nx Dd:=fun _ _ _ _ _ h=>h
theorem AHj:Nx iR:=fun _ _ _ _ _ h=>h
theorem xC:Nx CS:=fun _ _ _ _ _ h=>h
theorem dj:Nx Ea:=fun _ _ _ _ _ h=>h
theorem di:Nx DU:=fun _ _ _ _ _ h=>h
theorem jn:Nx Gs:=fun _ _ _ _ _ h=>h
theorem dh:Nx Gf:=fun _ _ _ _ _ h=>h
theorem jo:Nx Iq:=fun _ _ _ _ _ h=>h
theorem sN:Nx Eg:=by rintro lo M w cs x ⟨A1,n1,c1,h0,h1⟩;exact ⟨A1,n1,c1,h0,h1.Ig Si⟩
theorem jq:Nx Hw:=by rintro lo M w cs x ⟨A1,n1,c1,A2,n2,c2,h0,h1,h2⟩;exact ⟨A1,n1,c1,A2,n2,c2,h0,h1.Ig Si,h2.Ig AHj⟩
theorem o9:Nx BW:=by rintro lo M w cs x ⟨A1,n1,c1,A2,n2,c2,h0,h1,h2⟩;exact ⟨A1,n1,c1,A2,n2,c2,h0,h1.Ig sN,h2.Ig jq⟩
theorem xF:Nx CT:=by rintro lo M w cs x ⟨A1,n1,c1,A2,n2,c2,A3,n3,c3,h0,h1,h2,h3⟩;exact ⟨A1,n1,c1,A2,n2,c2,A3,n3,c3,h0,h1.Ig di,h2.Ig dj,h3.Ig jn⟩
theorem mL:Nx CF:=by rintro lo M w cs x ⟨A1,n1,c1,h0,h1⟩;exact ⟨A1,n1,c1,h0,h1.Ig dh⟩
theorem mI:Nx BZ:=by rintro lo M w cs x ⟨A1,n1,c1,h0,h1⟩;exact ⟨A1,n1,c1,h0,h1.Ig jo⟩
abbrev G4 (x:ByteArray):AN:=Value.string x
abbrev G7 (x:Int):AN:=Value.int .i64 x
def Bu:List PanicEntry:=[{v:=.iface 257 (AP #[]),recovered:=false}]
theorem Ft (b:Nat) (m:List (ByteArray×Int)) (x:ByteArray) (n:Int) (w:AH) (hm:MapAt G4 G7 w b m) (hg:getM m x=some n):
 AS prog 209 #[.map (some b),AL x] w fun e w'=>e=AW (AB AE n)/\w=w':=by
 have hlook:=DT (DQ underlying9) underlying268 (z:=AB AE 0) AJ hm x true;rw [hg] at hlook;simp only [C4,C6,Ce,Ge] at hlook;clear hg hm;go_enter func209,ntmps209
 exact SK
theorem Hm (b:Nat) (m:List (ByteArray×Int)) (x:ByteArray) (w:AH) (hm:MapAt G4 G7 w b m) (hg:getM m x=none):
 AS prog 209 #[.map (some b),AL x] w fun e w'=>e=.panicked Bu/\w=w':=by
 have hlook:=DT (DQ underlying9) underlying268 (z:=AB AE 0) AJ hm x true;rw [hg] at hlook;simp only [C4,Jd,Kd,IV] at hlook;clear hg hm;go_enter func209,ntmps209
 go_wp2
 exact ⟨rfl,rfl,rfl⟩
theorem XY (x:Bv) (w:AH):
 AS prog 200 #[AP #[AL x.name,AL x.Au,AB AE x.factor,AB AE x.base,AB AE x.scale]] w fun e w'=>e=AW (AL x.name)/\w.alloc (AO #[AL x.name,AL x.Au,AB AE x.factor,AB AE x.base,AB AE x.scale] 201)=w':=by
 go_enter func200,ntmps200
 exact SK
theorem VH (A1 A2:Option Aa) (n1 c1 n2 c2:Nat) (x:BM) (w:AH):
 AS prog 202 #[AP #[AL x.name,AL x.FX,AB AE x.Ar,AB AE x.version,AA A1 n1 c1,AA A2 n2 c2]] w fun e w'=>e=AW (AL x.name)/\w.alloc (AO #[AL x.name,AL x.FX,AB AE x.Ar,AB AE x.version,AA A1 n1 c1,AA A2 n2 c2] 85)=w':=by
 go_enter func202,ntmps202
 exact SK
theorem Ws (A1:Option Aa) (n1 c1:Nat) (x:Gn) (w:AH):
 AS prog 206 #[AP #[AL x.name,AB AE x.type.kind,AB AE x.type.lo,AB AE x.type.hi,AL x.type.Au,AB AE x.type.unit,AA A1 n1 c1,AB AE x.w0,AB AE x.w1,AB AE x.w2,AB AE x.w3]] w fun e w'=>e=AW (AL x.name)/\w.alloc (AO #[AL x.name,AB AE x.type.kind,AB AE x.type.lo,AB AE x.type.hi,AL x.type.Au,AB AE x.type.unit,AA A1 n1 c1,AB AE x.w0,AB AE x.w1,AB AE x.w2,AB AE x.w3] 112)=w':=by
 go_enter func206,ntmps206
 exact SK
theorem YG (x:CO) (w:AH):
 AS prog 208 #[AP #[AL x.name,AL x.kind,AB AE x.schema,AL x.Au.name,AL x.Au.path,AB AE x.Au.var,AB AE x.Au.field,AB AE x.Au.n]] w fun e w'=>e=AW (AL x.name)/\w.alloc (AO #[AL x.name,AL x.kind,AB AE x.schema,AL x.Au.name,AL x.Au.path,AB AE x.Au.var,AB AE x.Au.field,AB AE x.Au.n] 298)=w':=by
 go_enter func208,ntmps208
 exact SK
theorem Tj (A1:Option Aa) (n1 c1:Nat) (x:Cl) (w:AH):
 AS prog 204 #[AP #[AL x.name,AA A1 n1 c1,AB AE x.most]] w fun e w'=>e=AW (AL x.name)/\w.alloc (AO #[AL x.name,AA A1 n1 c1,AB AE x.most] 166)=w':=by
 go_enter func204,ntmps204
 exact SK
theorem eI (x:ByteArray) (w:AH):AS prog 198 #[AL x] w fun e w'=>e=AW (AL x)/\w=w':=by
 go_enter func198,ntmps198
 exact SK
end Go.Proofs.YtamhoilkpppdbaaGreatDoor
