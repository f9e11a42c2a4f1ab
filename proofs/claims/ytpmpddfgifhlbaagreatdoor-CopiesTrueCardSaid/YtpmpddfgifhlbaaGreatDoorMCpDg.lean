import Derived.Test.YtpmpddfgifhlbaaGreatDoorM15
namespace Go.Proofs.YtpmpddfgifhlbaaGreatDoor
set_option maxHeartbeats 8000000
set_option maxRecDepth 100000
open Go renaming World→AH, Value→AK, Calls→AS, TypeId→Ae
open Go.Proofs.Tryz
open Go.Value renaming slice→AA, int→AB
open Go.IntKind renaming i64→AE
open Go.Ending renaming returned→AV
open Go.Obj renaming cells→AQ
open Go.RowKit Go.Shelf
attribute [local go_sem] Oper.semAt_some
theorem AGD {w:AH} {b b':Nat} {e:Ae} {sz:Nat} {v:AK} {n:Nat} {cs:List AK} (h:w.ownsRow b e sz v n cs) (hb:b'<=b):w.ownsRow b' e sz v n cs:=
 ⟨h.1,h.2.imp id fun ⟨g,c,u,a,k,r⟩=>⟨g,c,u,a,BF hb k,r⟩⟩
theorem AFd {w:AH} {g:Nat} {t:Ae} {l:AP} (h:AZ w g t (iA l)) (hn:l.length<=1000) (hr:∀x∈l,EZ x):Ag 1 CF w (AA (some ⟨g,0,none⟩) l.length l.length) l:=
 ⟨_,_,rfl,Ad _,by unfold maxLen;omega,fun i x hi=>⟨g,0,[AB AE x],rfl,h.lt,rfl,fun j v hj=>by
  have hl:=(BA.1 hi).1
  match j,hj with
  |
   0,hj=>
   have:=ZB h hl;rw [C0,hi] at this;rw [Ex,F9,D6,this];exact hj,rfl,hr x (Ci hi)⟩⟩
theorem xu (m:AP) (w:AH) (hm:m.length=32) (hr:∀x∈m,0<=x/\x < 256):AS prog 60 #[.agg (yA m)] w fun e w'=>∃v cs,e=AV v/\Ao 1 CF w' cs (Dk m)/\w'.ownsRow w.heap.size 3 1 v 19 cs/\AJ w w':=by
 obtain ⟨Y,hY⟩:=Ab (yA m);obtain ⟨S,hS⟩:=Ab (Dk m);have WY:AI (∀W,AS prog 89 #[.agg Y] W (qE S W)):=AF (fun W=>by rw [hY,hS];exact XK m W hm hr);have U8:AI ((prog.info? 34).map (·.size)=some Y.size):=AF (by rw [hY,Bb,hm];exact Du);have HSL:AI (S.length=19):=AF (by rw [hS];exact LX m);have HSR:AI (∀x∈S,EZ x):=AF (fun x hx=>by rw [hS] at hx;have:=VQ x hx;unfold EZ;omega);rw [<-hY,<-hS];clear hY hS hm hr;obtain ⟨k1,b1,s1⟩:=bx w Y 34;obtain ⟨eL,HB1⟩:=Aj k1 b1;have VE:AI ((iA S).size=19):=AF (by rw [iA];simp [HSL.o]);have Hl:=AF (gU S);clear k1 b1 s1;go_enter func60,ntmps60;go_upto_region 2 with (first
  | (refine Cm rfl 34 (.tmp 1) rfl w.heap.size AL 34 Y (0,0) _ eL.o underlying34 rfl U8.o ?_)
  | (go_at_call 89;refine (WY.o _).mono ?_;rintro e w2 ⟨rfl,hb⟩;have HB2:=AF (AW HB1.o hb);clear hb)
  | (refine Fy 181 3 5 19 (iA S) VE.o Hl.o rfl ?_)
  | fail)
 obtain ⟨k3,b3,s3⟩:=bx w2 (iA S) 181;generalize (w2.alloc (AQ (iA S) 181))=w3 at k3 b3 s3 ⊢;have hs3:=AFd k3 ej HSR.o;rw [HSL.o] at hs3;obtain ⟨Gr,HB3⟩:=Aj hs3 (AW HB2.o b3);have k30:=ZB k3 (i:=0) ej;have hlt:=k3.lt;clear k3 b3 s3 hs3;go_wp2_with (first
  | (go_at_call 39;refine (au SY _ 19 19 S _ Gr.o ej).mono ?_;rintro e w4 ⟨v,cs,rfl,hc,ho,hb⟩;rw [HSL.o] at ho;have HB4:=AF (AW HB3.o hb);have HC:=AF hc;have HO:=AF (AGD ho HB3.o.size);clear hc ho hb)
  | fail)
 go_ret;exact ⟨_,_,rfl,⟨HC.o.1,HC.o.2⟩,HO.o,HB4.o⟩
theorem ABT (w:AH):AS prog 90 #[AB .u64 1,AB .u64 19] w fun e w'=>e=AV (.tuple #[AB .u64 0,AB .u64 19])/\w'=w:=by
 go_enter func90,ntmps90
 go_wp2
 go_ret2;exact ⟨by kernel_rfl,rfl⟩
theorem vw (W:AH):(Instr.makeSlice 30 (AB AE 19) (AB AE 19)).run prog W=.ok (AA (some ⟨W.heap.size,0,none⟩) 19 19) (W.alloc (AQ (iA (List.replicate 19 0)) 3)):=by
 obtain ⟨j0,hj,Vp,Vo,Vn⟩:=JF oX;have:=run_make (P:=prog) W 30 3 j0 (AB AE 0) underlying30 hj Vp .i64 .i64 19 19 AG AG (by rw [Vn];omega) AG;rw [Vo] at this;have e:madeCells (Value.int .i64 0).cells (Int.toNat 19*1)=iA (List.replicate 19 0):=AL
 rw [e] at this;exact this
theorem kK {w:AH} {ops:Array Oper} {rest:List Oper} {o:Oper} {a:Act} {Q:Exit->Act->AH->Prop} (hgd:o.guard=none) (x:Operand) (ho:o.op=.makeSlice 30 x x) (hx:a.eval x=AB AE 19)
 (h:wpList prog ops Q rest (a.put o.dst (AA (some ⟨w.heap.size,0,none⟩) 19 19)) (w.alloc (AQ (iA (List.replicate 19 0)) 3))):wpList prog ops Q (o::rest) a w:=
 wpList_plain hgd fun K hK=>by unfold Oper.wp execOp;simp only [ho,hx,Cs,DL,Result.andThen_ok,vw];exact hK _ _ h
theorem rD {P:Program} {w:AH} {o:Oper} {a:Act} {K:Act->AH->Prop} {Q:Exit->Act->AH->Prop} (d s:Operand) (dT sT:Ae)
 (ho:o.op=.call {callee:=.builtin .copy,args:=#[d,s],argTypes:=#[dT,sT]}) (elem:Ae) (hu:P.underlying dT=some (.slice elem)) (hsz:(P.info? elem).map (·.size)=some 1)
 (g off:Nat) (dLen dCap:Nat) (ad:Addr) (sLen sCap:Nat) (hd:a.eval d=AA (some ⟨g,off,none⟩) dLen dCap) (hs:a.eval s=AA (some ad) sLen sCap)
 (cur:Array AK) (t:Ae) (hg:w.heap[g]? =some (AQ cur t (0,0))) (cs:List AK) (hn:cs.length=Nat.min sLen dLen)
 (hsrc:∀j v,cs[j]? =some v->w.cell? (ad.add j)=some v) (hfit:off+cs.length<=cur.size) (h1:∀v∈cs,v.oneCell'=true)
 (h:K (a.put o.dst (goInt cs.length)) (w.setRow g (cur.toList.take off++(cs++cur.toList.drop (off+cs.length))).toArray)):o.wp P a w K Q:=by
 have hrun:=run_copy_row (P:=P) w dT sT o.type elem g off dLen dCap ad sLen sCap cur t cs hu hsz hg hn hsrc hfit h1;unfold Oper.wp;simp [execOp,ho,resolve,invoke,builtin,hd,hs,hrun,Result.andThen];exact h
theorem AEd {w:AH} {g:Nat} {l:AP} {n:Nat} (h:AZ w g 3 (iA l)):∀j v,((iA l).toList.take n)[j]? =some v->w.drew.cell? ((Addr.mk g 0 none).add j)=some v:=fun j v hj=>by
 have e:(Addr.mk g 0 none).add j=⟨g,0+j,none⟩:=by unfold Addr.add;split <;> simp_all
 have hj2:(iA l).toList[j]? =some v:=by
  rw [List.getElem?_take] at hj;split at hj
  · exact hj
  · cases hj
 rw [e,Ex];exact (h.cell j).trans (by rw [<-Array.getElem?_toList];exact hj2)
theorem AGW {l:AP} {k:Nat} (hk:1<=k) (hl:l.length=19) (hk2:k < 19):∃l2:AP,((iA l).toList.take k++(((iA l).toList.take (Nat.min k (19 - k)))++(iA l).toList.drop (k+Nat.min k (19 - k)))).toArray=iA l2/\l2.length=19/\∀x∈l2,x∈l:=by
 refine ⟨l.take k++(l.take (Nat.min k (19 - k))++l.drop (k+Nat.min k (19 - k))),?_,?_,fun x hx=> ?_⟩
 · simp [iA,List.map_take,List.map_drop]
 ·have:Nat.min k (19 - k)<=19 - k:=Nat.min_le_right _ _
  simp only [CT,DR,Hq,hl];omega
 rcases Jq.1 hx with h | h
 · exact List.mem_of_mem_take h
 rcases Jq.1 h with h | h
 · exact List.mem_of_mem_take h
 · exact List.mem_of_mem_drop h
theorem nx (b o c:Nat) (w:AH) (hx:w.cell? ⟨b,o,none⟩=some (AB AE 3)) (hb:b < w.heap.size):AS prog 61 #[AA (some ⟨b,o,none⟩) 1 c,AB AE 19] w fun e w'=>∃A l,e=AV (AA A 19 19)/\Ag 1 CF w' (AA A 19 19) l/\AJ w w':=by
 obtain ⟨HX,HB⟩:=Aj hx hb;have HCP:AI (∀W:AH,b < W.heap.size->W.cell? ⟨b,o,none⟩=some (AB AE 3)->∀j v,[Value.int .i64 3][j]? =some v->(W.alloc (AQ (iA (List.replicate 19 0)) 3)).cell? ((Addr.mk b o none).add j)=some v):=AF (fun W hb hx j v hj=>by
  match j,hj with
  |
   0,hj=>
   obtain rfl:=FO hj;exact (((Af W.heap.size W).alloc (Ad _) _).cell (p:=⟨b,o,none⟩) hb).trans hx)
 clear hx hb;go_enter func61,ntmps61;have hz1:(prog.info? 3).map (·.size)=some 1:=AL
 have HZ:=AF hz1;clear hz1;go_upto_region 8 with (first
  | (go_at_call 90;refine (ABT _).mono ?_;rintro e w2 ⟨rfl,rfl⟩)
  | (refine kK rfl (.tmp 29) rfl rfl ?_)
  | (
   refine wpList_copy_splice rfl (.tmp 31) (.tmp 32) 30 30 rfl 3 underlying30 HZ.o _ _ _ _ _ _ rfl rfl w2.heap.size 0 ((List.replicate 19 (0:Int)).map (Value.int .i64)) 3 (AZ.new _ _ _) [AB AE 3] rfl (fun _=>⟨rfl,_,rfl,HCP.o w2 HB.o HX.o⟩) BE Og w2.heap.size w2 (BP _ _) (Ad _) ?_;intro w3 hk3 hb3;have HB0:=AF hb3;clear hb3)
  | fail)
 obtain ⟨g,hg⟩:=Ab w2.heap.size;rw [<-hg];have hk0:AZ w3 g 3 (iA (3::List.replicate 18 0)):=by rw [hg];exact hk3
 have Qr:=AF hk0;have HG:AI (w2.heap.size<=g):=AF (Nat.le_of_eq hg.symm);clear hk0 hk3 hg;go_loopg [8] 18 (fun q i wr=>∃(k:Nat) (l:AP),1<=k/\k<=19/\q=19 - k/\i=AB AE k/\AZ wr g 3 (iA l)/\l.length=19/\(∀x∈l,EZ x)/\AJ w2 wr)
 case atStart=>exact ⟨1,_,by omega,by omega,by omega,rfl,Qr.o,rfl,fun x hx=>by unfold EZ;simp at hx;omega,HB0.o⟩
 obtain ⟨k,l,hk1,hk2,hq,rfl,hb,hl,hr,hbel⟩:=hrel;obtain ⟨HQ,MN,HL,HR,YS⟩:=EG hq hb hl hr hbel;clear hq hb hl hr hbel;by_cases hlt:k < 19
 ·have h1:(k:Int) < 19:=by omega
  have h0:(0:Int)<=(k:Int):=AG
  have h2:(k:Int)<=19:=AG
  have h3:¬19 < k:=AG
  have h4:¬19=k:=AG
  go_upto_region 9 with fail;have DE:prog.follows .mixedOrders=true:=AL
  have hS:True:=trivial;have TK:∀W:AH,True->True:=fun _ h=>h;refine JA (fun _=>True) 10 _ DE AL rfl ?_;refine qM 0 38 8 hS ?_;refine qM 1 39 7 hS ?_;refine qM 2 40 8 hS ?_;refine qT 3 41 hS ?_ (v:=AA (some ⟨g,k,none⟩) (19 - k) (19 - k));refine qM 4 42 7 hS ?_;refine qM 5 43 8 hS ?_;refine qT 6 44 hS ?_ (v:=AA (some ⟨g,0,none⟩) k 19);obtain ⟨l2,e2,hl2,hm2⟩:=AGW hk1 HL.o hlt;have hcs:((iA l).toList.take (Nat.min k (19 - k))).length=Nat.min k (19 - k):=by have:Nat.min k (19 - k)<=k:=Nat.min_le_left _ _;simp only [DR,iA,List.toList_toArray,CX,HL.o];omega
  refine nk 7 AL rfl rfl (rD (.tmp 41) (.tmp 44) 30 30 rfl 3 underlying30 HZ.o g k (19 - k) (19 - k) ⟨g,0,none⟩ k 19 AL AL (iA l) 3 (show AZ wr.drew g 3 (iA l) from MN.o) ((iA l).toList.take (Nat.min k (19 - k))) hcs (AEd MN.o) (by rw [hcs];have:=HL.o;have h6:Nat.min k (19 - k)<=19 - k:=Nat.min_le_right _ _;simp only [iA,Pb,CX];omega) (fun v hv=>by have:=Array.all_eq_true'.1 (gU l) v (by have:=List.mem_of_mem_take hv;simpa using this);exact this) ?_);rw [hcs];obtain ⟨m,hm⟩:=Ab (Nat.min k (19 - k));have hm1:1<=m/\k+m<=19:=by
   rw [hm];have h6:Nat.min k (19 - k)=k\/Nat.min k (19 - k)=19 - k:=by
    rcases Nat.le_total k (19 - k) with h | h
    · exact .inl (Kr h)
    · exact .inr (Nat.min_eq_right h)
   rcases h6 with h | h
   · rw [h];rw [h] at hm;have h8:Nat.min k (19 - k)<=19 - k:=Nat.min_le_right _ _;rw [h] at h8;omega
   · rw [h];omega
  rw [<-hm] at e2 ⊢;rw [e2];have hw:IntKind.i64.wrap ((k:Int)+(m:Int))=((k+m:Nat):Int):=by rw [Bv _ AG];omega
  have hk4:AZ (wr.drew.setRow g (iA l2)) g 3 (iA l2):=setRow_heap _ _ (iA l) _ _ _ (show AZ wr.drew g 3 (iA l) from MN.o);have hb4:AJ w2 (wr.drew.setRow g (iA l2)):=below_setRow YS.o.drew HG.o _;generalize wr.drew.setRow g (iA l2)=w5 at hk4 hb4 ⊢;obtain ⟨HK4,HB4,LK,HL2,Ls⟩:=EG hk4 hb4 hm1 hl2 hm2;clear hk4 hb4 hm1 hl2 hm2 e2 hcs hm;refine ⟨trivial,?_⟩;show wpAnyH _ _ _ _ _ _ _ ((⟨_,_⟩:Act).put (some 45) (goInt m)) _;rw [MG];refine qT 8 46 hS ?_ (v:=AB AE ((k+m:Nat):Int)) (hv:=by intro W _;(go_simp) <;> first | rfl | exact hw);refine qM 9 8 46 hS ?_;refine Cx AL ?_ _;simp only [Bp,B9];clear hw;go_wp2;go_roundg (19 - (k+m))
  case measure=>have:=HQ.o;have:=LK.o;omega
  case rel=>exact ⟨k+m,l2,by have:=LK.o;omega,LK.o.2,rfl,rfl,HK4.o,HL2.o,fun x hx=>HR.o x (Ls.o x hx),HB4.o⟩
 obtain rfl:k=19:=AG
 go_wp2;go_ret;have h:=AFd MN.o (by rw [HL.o];decide) HR.o;rw [HL.o] at h;exact ⟨_,l,rfl,h,YS.o⟩
end Go.Proofs.YtpmpddfgifhlbaaGreatDoor
