import Derived.Test.YtamhoilkpppdbaaGreatDoorK03
import Derived.StillTailTactics
import Derived.Deep.DeepCutAuto
import Derived.WalkSpells
import Derived.RegionDies
namespace Go.Proofs.YtamhoilkpppdbaaGreatDoor
set_option maxHeartbeats 8000000
set_option maxRecDepth 100000
open Go renaming World→AH, Value→AN, Calls→AS, TypeId→Af, Addr→Aa
open Go.RowKit renaming Below→BI
open Go.Proofs.Tryz
variable (A1 A2 A3 A4 A5 A6:Option Aa) (n1 c1 n2 c2 n3 c3 n4 c4 n5 c5 n6 c6:Nat)
open Go.Value renaming slice→AB, int→AE, string→AL, pointer→AW, bool→Ab, agg→AP, tuple→BQ
open Go.IntKind renaming i64→AF
open Go.Ending renaming returned→AU, panicked→Bz
open Go.Obj renaming cells→AO
open Go.Operand renaming tmp→AY
open Go.RowKit
def Oh:ByteArray:=⟨#[]⟩
def Kt (u b:Bt):Int:=if 2<=u.factor/\u.factor<=1000/\u.factor*b.scale<=1099511627776 then u.factor*b.scale else 0
def J7 (names:List ByteArray) (out:List Bt) (u:Bt):Option (List Bt):=
 if u.An=Oh then some (out++[{u with base:=(out.length:Int),scale:=1}])
 else match idx names u.An with
  | none=>none
  |
   some n=>match out[n]? with
   | none=>none
   | some b=>some (out++[{u with base:=b.base,scale:=Kt u b}])
def E8 (names:List ByteArray) (us:List Bt):Nat->Option (List Bt)
 | 0=>some []
 |
  k+1=>match E8 names us k,us[k]? with
  | some out,some u=>J7 names out u
  | some out,none=>some out
  | none,_=>none
def Rf (names:List ByteArray) (us:List Bt):Option (List Bt):=E8 names us us.length
theorem Kr {names:List ByteArray} {us:List Bt} {k:Nat} {out:List Bt} {u:Bt} (h:E8 names us k=some out) (hu:us[k]? =some u):E8 names us (k+1)=J7 names out u:=by rw [E8,h,hu]
theorem Wj {names:List ByteArray} {us:List Bt} {k:Nat} (h:E8 names us k=none):∀m,E8 names us (k+m)=none
 | 0=>h
 | m+1=>by rw [<-Km,E8,Wj h m]
theorem ZJ {names:List ByteArray} {us:List Bt} {k:Nat} (hk:k<=us.length) (h:E8 names us k=none):Rf names us=none:=by
 have:=Wj h (us.length - k)
 rwa [show k+(us.length - k)=us.length by omega] at this
theorem ll {names:List ByteArray} {out out':List Bt} {u:Bt} (h:J7 names out u=some out'):∃x,out'=out++[x]:=by
 unfold J7 at h;split at h
 · exact ⟨_,(Hm h).symm⟩
 split at h
 · cases h
 split at h
 · cases h
 · exact ⟨_,(Hm h).symm⟩
theorem TP {names:List ByteArray} {us:List Bt}:∀{k:Nat} {out:List Bt},k<=us.length->E8 names us k=some out->out.length=k
 | 0,out,_,h=>by rw [E8,Bu] at h;subst h;rfl
 |
  k+1,out,hk,h=>by
  have hu:us[k]? =some us[k]:=BJ hk;cases ho:E8 names us k with
  | none=>rw [E8,ho] at h;cases h
  |
   some o=>
   rw [Kr ho hu] at h;obtain ⟨x,rfl⟩:=ll h;simp [TP AG ho]
def ScB (out:List Bt):Prop:=∀x∈out,0<=x.scale/\x.scale<=1099511627776
theorem pu {names:List ByteArray} {out out':List Bt} {u:Bt} (hs:ScB out) (h:J7 names out u=some out'):ScB out':=by
 unfold J7 at h;split at h
 ·rw [Bu] at h
  subst h;intro x hx;rcases Ll.1 hx with hx | hx
  · exact hs x hx
  · rw [Fg.1 hx];simp
 split at h
 · cases h
 split at h
 · cases h
 rename_i b hb
 rw [Bu] at h;subst h;intro x hx;rcases Ll.1 hx with hx | hx
 · exact hs x hx
 rw [Fg.1 hx];have hbs:=hs b (CS hb);simp only [Kt];split
 ·rename_i hc
  refine ⟨Kj AG hbs.1,hc.2.2⟩
 · simp
theorem VR {names:List ByteArray} {us:List Bt}:∀{k:Nat} {out:List Bt},E8 names us k=some out->ScB out
 | 0,out,h=>by rw [E8,Bu] at h;subst h;intro x hx;cases hx
 |
  k+1,out,h=>by
  cases ho:E8 names us k with
  | none=>rw [E8,ho] at h;cases h
  |
   some o=>
   cases hu:us[k]? with
   |
    none=>
    rw [E8,ho,hu] at h;rw [<-Hm h];exact VR ho
   |
    some u=>
    rw [Kr ho hu] at h;exact pu (VR ho) h
def Vw (names:List ByteArray) (us:List Bt) (base:Nat) (v:AN) (n:Nat) (w:AH) (e:Ending) (w':AH):Prop:=
 w.grownBy w' v.ownBlock/\match Rf names us with
  | none=>e=Bz Bq
  | some out=>e=AU (BQ #[])/\∃cs,w'.ownsRow base 201 5 v n cs/\Aq 5 CD w cs out
theorem ZK {names:List ByteArray} {us:List Bt} {base:Nat} {v:AN} {n:Nat} {w w':AH} (h:Rf names us=none) (hg:w.grownBy w' v.ownBlock):Vw names us base v n w (Bz Bq) w':=by refine ⟨hg,?_⟩;rw [h]
theorem Wx {names:List ByteArray} {us out:List Bt} {base:Nat} {v:AN} {n:Nat} {w w':AH} {cs:List AN} (h:Rf names us=some out) (hg:w.grownBy w' v.ownBlock) (ho:w'.ownsRow base 201 5 v n cs) (hc:Aq 5 CD w cs out):Vw names us base v n w (AU (BQ #[])) w':=by refine ⟨hg,?_⟩;rw [h];exact ⟨rfl,cs,ho,hc⟩
theorem LD {w:AH} {base:Nat} {e:Af} {sz g n cap:Nat} {cs:List AN} (h:w.ownsRow base e sz (AB (some ⟨g,0,none⟩) n cap) n cs):∃cs t f,w.heap[g]? =some (Obj.cells cs t f):=by
 rcases h.2 with ⟨h,_⟩ | ⟨g',cap',cur,h,_,hh,_⟩
 · cases h
 injection h with h1;injection h1 with h1;injection h1 with h1;subst h1;exact ⟨_,_,_,hh⟩
theorem Eh {a b c:AH} {row:Option Nat} (h:a.grownBy b row) (h':b.grownBy c row):a.grownBy c row:=
 ⟨h'.os.trans h.os,h'.tape.trans h.tape,h'.output.trans h.output,BH h.size h'.size,fun k hk hne=>(h'.block k (Au hk h.size) hne).trans (h.block k hk hne)⟩
theorem LU:Oh.toList=[]:=by rw [ByteArray.toList_eq];rfl
theorem aD {s:ByteArray} (h:s≠Oh):s.toList.isEmpty=false:=by
 cases hs:s.toList with
 | nil=>exact absurd ((str_eq s Oh).1 (by rw [hs,LU];rfl)) h
 | cons a r=>rfl
theorem lj {w:AH} {cs:List AN} {l:List Bt} {k:Nat} {u:Bt} (h:Aq 5 CD w cs l) (hk:l[k]? =some u) (b s:Int):Aq 5 CD w ((cs.set (k*5+3) (AE AF b)).set (k*5+4) (AE AF s)) (l.set k {u with base:=b,scale:=s}):=by
 have hkl:=(BD.1 hk).1;have h1:Aq 5 CD w (cs.set (k*5+3) (AE AF b)) (l.set k {u with base:=b}):=h.put AG hkl rh
 have h2:=h1.put (i:=k) (j:=4) (x':={u with base:=b,scale:=s}) (u:=AE AF s) AG RQ sE
 rwa [Ia] at h2
theorem cP (R b2 base g n cap:Nat) (us:List Bt) (cs:List AN) (names:List ByteArray) (w:AH) (hR:w.cell? ⟨R,1,none⟩=some (.map (some b2))) (hRl:R < w.heap.size) (hm:MapAt Hq Gb w b2 (col names).1) (hgR:g≠R)
 (ho:w.ownsRow base 201 5 (AB (some ⟨g,0,none⟩) n cap) n cs) (hc:Aq 5 CD w cs us) (hn:n=us.length):
 AS prog 159 #[AW (some ⟨R,0,none⟩),AB (some ⟨g,0,none⟩) n cap] w (Vw names us base (AB (some ⟨g,0,none⟩) n cap) n w):=by
 have hn2:n<=9223372036854775807:=by
  rcases ho.2 with ⟨h,_⟩ | ⟨g',cap',cur,h,_,_,h1,h2,_⟩
  · cases h
  · unfold maxLen at h2;omega
 have HR:=AA hR;have HM:=AA hm;have HO:=AA ho;have HC:=AA hc;have HN:=AA hn;have VI:=AA (LD ho);clear hR hm ho hc hn;go_enter func159,ntmps159;go_wp2_with fail;go_loopg [9] n (fun q i wr=>∃(k:Nat) (out:List Bt) (cs':List AN),k<=n/\q=n - k/\i=AE AF k/\E8 names us k=some out/\w.grownBy wr (some g)/\wr.ownsRow base 201 5 (AB (some ⟨g,0,none⟩) n cap) n cs'/\Aq 5 CD w cs' (out++us.drop k))
 case atStart=>exact ⟨0,[],cs,Av _,rfl,rfl,rfl,DS _ _,HO.o,HC.o⟩
 clear HO HC;obtain ⟨k,out,cs',hk,hq,rfl,hto,hgr,ho,hc⟩:=hrel;have HQ:=AA hq;have DZ:=AA hto;have GU:=AA hgr;have HO:=AA ho;have HC:=AA hc;clear hq hto hgr ho hc;by_cases hlt:k < n
 ·obtain ⟨u,hu⟩:∃u,us[k]? =some u:=⟨us[k]' Gx,BJ _⟩
  have hlen:=TP Gx DZ.o;have hat:(out++us.drop k)[k]? =some u:=by rw [Cp AG,EP,hlen];simpa using hu
  have hch:chunk cs' 5 k=[AL u.name,AL u.An,AE AF u.factor,AE AF u.base,AE AF u.scale]:=HC.o.chunk hat;have c1:=BF HO.o hlt AG hch (j:=1) rfl;have c2:=BF HO.o hlt AG hch (j:=2) rfl;have c3:=BF HO.o hlt AG hch (j:=3) rfl;have c4:=BF HO.o hlt AG hch (j:=4) rfl;have f3:=HO.o.frozenAt (k*5+3);have f4:=HO.o.frozenAt (k*5+4);have HU:=AA hu;have OY:=AA hch;have HLEN:=AA hlen;have HAT:=AA hat;clear hu hch hlen hat;by_cases hof:u.An=Oh
  ·have t1:u.An.toList.isEmpty=true:=by rw [hof,LU];rfl
   have t2:u.An.toList=[]:=by rw [hof,LU]
   have O9:=AA hof;clear hof;go_wp2_with fail;go_roundg (n - (k+1))
   case measure=>exact BS
   have ho1:=HO.o.stored (k*5+3) (AE AF k);have ho2:=ho1.1.stored (k*5+4) (AE AF 1);refine ⟨k+1,out++[{u with base:=(k:Int),scale:=1}],_,by omega,rfl,by go_num,?_,Eh GU.o (Eh ho1.2 ho2.2),ho2.1,?_⟩
   · rw [Kr DZ.o HU.o,J7,Ao O9.o,HLEN.o]
   rw [<-set_drop HLEN.o HU.o];exact lj HC.o HAT.o _ _
  have t1:u.An.toList.isEmpty=false:=aD hof;have t2:¬u.An.toList=[]:=by intro e;rw [e] at t1;cases t1
  have O9:=AA hof;clear hof;have hRg:some R≠some g:=by simp;exact fun e=>hgR e.symm
  have hR2:wr.cell? ⟨R,1,none⟩=some (.map (some b2)):=GU.o.cell HR.o (by simpa using hRg);have AJW:R < wr.heap.size:=Au hRl GU.o.size;have hmw:MapAt Hq Gb wr.drew b2 (col names).1:=(HM.o.keeps (CH.grown GU.o (fun x e=>by cases e;exact VI.o))).same rfl;have Mh:=AA hmw;have hget:=Hx names u.An;clear hmw;go_wp2_with fail
  go_still_tail 8,AJ
  change wpList _ _ _ _ _ wr.drew;go_wp2_with fail;cases hix:idx names u.An with
  |
   none=>
   rw [hix] at hget;refine (G6 b2 _ _ wr.drew Mh.o hget).mono ?_;rintro e w' ⟨rfl,rfl⟩;have IC:=AA hix;clear hix hget
   go_wp2
   refine ⟨rfl,ZK (ZJ (k:=k+1) Gx ?_) (grown_drew GU.o)⟩;rw [Kr DZ.o HU.o,J7,Ai O9.o,IC.o]
  |
   some m=>
   rw [hix] at hget;refine (FW b2 _ _ (m:Int) wr.drew Mh.o hget).mono ?_;rintro e w' ⟨rfl,rfl⟩;have IC:=AA hix;clear hix hget;by_cases hmk:m < k
   ·obtain ⟨b,hb⟩:∃b,out[m]? =some b:=⟨out[m]' Pf,BJ _⟩
    have nk:(out++us.drop k)[m]? =some b:=by rw [ES Pf];exact hb
    have ACF:chunk cs' 5 m=[AL b.name,AL b.An,AE AF b.factor,AE AF b.base,AE AF b.scale]:=HC.o.chunk nk;have d3:=BF HO.o (show m < n by omega) AG ACF (j:=3) rfl;have hsc:=VR DZ.o b (CS hb);have HB:=AA hb;have AJY:=AA ACF;clear hb nk ACF;have hmn:(m:Int) < (n:Int):=AG
    have hm0:(0:Int)<=(m:Int):=AG
    have tk:decide (k<=m)=false:=by simp;omega
    go_upto_region 10 with fail;clear tk;have ho1:=HO.o.stored (k*5+3) (AE AF b.base);have ho2:=ho1.1.stored (k*5+4) (AE AF 0);have hoq:=ho2.1.drew;have hgq:w.grownBy ((wr.setCell ⟨g,k*5+3,none⟩ (AE AF b.base)).setCell ⟨g,k*5+4,none⟩ (AE AF 0)).drew (some g):=grown_drew (Eh GU.o (Eh ho1.2 ho2.2));have hcq:Aq 5 CD w _ ((out++us.drop k).set k {u with base:=b.base,scale:=0}):=lj HC.o HAT.o b.base 0;generalize ((wr.setCell ⟨g,k*5+3,none⟩ (AE AF b.base)).setCell ⟨g,k*5+4,none⟩ (AE AF 0)).drew=wq at hoq hgq ⊢;generalize (cs'.set (k*5+3) (AE AF b.base)).set (k*5+4) (AE AF 0)=cq at hoq hcq
    have hkl:k < (out++us.drop k).length:=(BD.1 HAT.o).1;have Lb:((out++us.drop k).set k {u with base:=b.base,scale:=0})[k]? =some {u with base:=b.base,scale:=0}:=F9 hkl;have nk:((out++us.drop k).set k {u with base:=b.base,scale:=0})[m]? =some b:=by rw [JM AG,ES Pf];exact HB.o
    have hck:chunk cq 5 k=[AL u.name,AL u.An,AE AF u.factor,AE AF b.base,AE AF 0]:=hcq.chunk Lb;have hcm:chunk cq 5 m=[AL b.name,AL b.An,AE AF b.factor,AE AF b.base,AE AF b.scale]:=hcq.chunk nk;have e2:=BF hoq hlt AG hck (j:=2) rfl;have e4:=BF hoq hlt AG hck (j:=4) rfl;have g4:=BF hoq (show m < n by omega) AG hcm (j:=4) rfl;have fe4:=hoq.frozenAt (k*5+4);have Kc:=AA hoq;have PB:=AA hgq;have X8:=AA hcq;have SQ:=AA Lb;clear c1 c2 c3 c4 f3 f4 d3 ho1 ho2 hoq hgq hcq hck hcm Lb nk hR2 hkl;have hstep:∀z,Kt u b=z->E8 names us (k+1)=some (out++[{u with base:=b.base,scale:=z}]):=by intro z hz;rw [Kr DZ.o HU.o,J7,Ai O9.o,IC.o];simp only [HB.o];rw [hz]
    have HST:=AA hstep;clear hstep;by_cases h2:¬2<=u.factor
    ·have t2:decide ((2:Int)<=u.factor)=false:=by simpa using h2
     have HZ:AI (Kt u b=0):=by show _=_;unfold Kt;rw [Ai (fun h=>h2 h.1)]
     clear h2;go_quiet (fail);go_wp2_with fail;go_roundg (n - (k+1))
     case measure=>exact BS
     case rel=>exact lP
    have h2':2<=u.factor:=Decidable.not_not.1 h2;clear h2;by_cases h3:¬u.factor<=1000
    ·have t2:decide (u.factor<=(1000:Int))=false:=by simpa using h3
     have HZ:AI (Kt u b=0):=by show _=_;unfold Kt;rw [Ai (fun h=>h3 h.2.1)]
     clear h3;go_quiet (fail);go_wp2_with fail;go_roundg (n - (k+1))
     case measure=>exact BS
     case rel=>exact lP
    have h3':u.factor<=1000:=Decidable.not_not.1 h3;clear h3;obtain ⟨P,hP⟩:=BP (u.factor*b.scale);have hP0:0<=P:=by rw [<-hP];exact Kj AG hsc.1
    have hP1:P<=1099511627776000:=by rw [<-hP];have:=PN h3' hsc.2 hsc.1 AG;omega
    have hw:IntKind.i64.wrap (u.factor*b.scale)=P:=by rw [hP];exact CN _ AG
    have HP:=AA hP;clear hP;by_cases h4:P<=1099511627776
    ·have t2:decide (P<=(1099511627776:Int))=true:=by simpa using h4
     have HZ:AI (Kt u b=P):=by show _=_;unfold Kt;rw [Ao ⟨h2',h3',by rw [HP.o];exact h4⟩];exact HP.o
     go_quiet (fail);go_wp2_with fail;have hox:(wq.drewN nq).ownsRow base 201 5 (AB (some ⟨g,0,none⟩) n cap) n cq:=Kc.o.kept (row:=none) (grown_drewN (DS _ _) _) M1;have hgx:=grown_drewN PB.o nq;have e2':(wq.drewN nq).cell? ⟨g,k*5+2,none⟩=_:=e2;have e4':(wq.drewN nq).cell? ⟨g,k*5+4,none⟩=_:=e4;have g4':(wq.drewN nq).cell? ⟨g,m*5+4,none⟩=_:=g4;have AH0:(wq.drewN nq).frozen? ⟨g,k*5+4,none⟩=false:=fe4;generalize wq.drewN nq=wx at hox hgx e2' e4' g4' AH0 ⊢;have o7:=AA hox;have HGX:=AA hgx;clear e2 e4 g4 fe4 hox hgx
     go_still_tail 13,AJ
     change wpList _ _ _ _ _ wx.drew;go_wp2_with fail;go_roundg (n - (k+1))
     case measure=>exact BS
     have ho3:=o7.o.drew.stored (k*5+4) (AE AF P);refine ⟨k+1,_,_,by omega,rfl,by go_num,HST.o P HZ.o,Eh (grown_drew HGX.o) ho3.2,ho3.1,?_⟩;rw [<-set_drop HLEN.o HU.o];have hkl:=(BD.1 SQ.o).1;have:=X8.o.put (i:=k) (j:=4) (x':={u with base:=b.base,scale:=P}) (u:=AE AF P) AG hkl (by have:chunk cq 5 k=_:=X8.o.chunk SQ.o;rw [this];rfl)
     rwa [Ia] at this
    have t2:decide (P<=(1099511627776:Int))=false:=by simpa using h4
    have HZ:AI (Kt u b=0):=by show _=_;unfold Kt;rw [Ai (fun h=>h4 (by rw [<-HP.o];exact h.2.2))]
    clear h4;go_quiet (fail);go_wp2_with fail;go_roundg (n - (k+1))
    case measure=>exact BS
    case rel=>exact lP
   go_wp2_with fail;refine ⟨rfl,ZK (ZJ (k:=k+1) Gx ?_) (grown_drew GU.o)⟩;rw [Kr DZ.o HU.o,J7,Ai O9.o,IC.o];simp only;rw [DT Pf]
 have hke:k=us.length:=by have:=HN.o;omega
 go_wp2_with fail
 go_end0
 refine Wx (out:=out) ?_ GU.o HO.o ?_
 · unfold Rf;rw [<-hke];exact DZ.o
 have:=HC.o;rw [hke,Ji,FK] at this;exact this
theorem cQ (R b2 base n:Nat) (v:AN) (us:List Bt) (cs:List AN) (names:List ByteArray) (w:AH) (hR:w.cell? ⟨R,1,none⟩=some (.map (some b2))) (hRl:R < w.heap.size) (hm:MapAt Hq Gb w b2 (col names).1) (hbR:R < base)
 (ho:w.ownsRow base 201 5 v n cs) (hc:Aq 5 CD w cs us) (hn:n=us.length):
 AS prog 159 #[AW (some ⟨R,0,none⟩),v] w (Vw names us base v n w):=by
 rcases ho.2 with ⟨rfl,h0⟩ | ⟨g,cap,cur,rfl,hbg,_⟩
 ·subst h0
  have hu:us=[]:=Ie hn.symm;subst hu;have HO:=AA ho;have HC:=AA hc;clear ho hc hR hm hn;go_enter func159,ntmps159;go_wp2_with fail;refine wp_loop_rounds 1 ?_;rw [rounds_succ];go_wp2_with fail
  go_end0
  exact Wx (out:=[]) rfl (DS _ _) HO.o HC.o
 · exact cP R b2 base g n cap us cs names w hR hRl hm AG ho hc hn
def Hi {α:Type} (t:Af) (sz:Nat) (R:AH->List AN->α->Prop) (l:List α) (w:AH) (e:Ending) (w':AH):Prop:=
 ∃v cs,e=AU v/\Aq sz R w cs l/\w'.ownsRow w.heap.size t sz v l.length cs/\AK w w'
theorem ACu {p:Prop} (h:p:=by
 have hlen:=hs.1.len;have hbd:=hs.2;have HS:=AA hs.1;clear hs;rcases A with _ | ad
 ·have hl:l=[]:=by
   obtain ⟨cs,hcs,_⟩:=HS.o.cells;cases l with
   | nil=>rfl
   | cons x r=>obtain ⟨b,off,x,cs,e,_⟩:=HS.o.at_ (k:=0) (by rw [hlen];simp);cases e
  subst hl;obtain rfl:n=0:=by simpa using hlen
  clear hlen hbd;have hnil:=fun w:AH=>Lib.run_eql_slice_nil (P:=prog) w _ _ none 0 c 0 0 cU;simp only [Option.isNone_none] at hnil;go_enter cF,cN
  go_wp2
  exact lK
 ·obtain ⟨i0,hi,hz0,hz1,hz2⟩:=Kh cI
  have HLEN:=AA hlen;have hnb:=hbd;rw [<-hlen] at hnb;clear hlen;have hnil:=fun w:AH=>Lib.run_eql_slice_nil (P:=prog) w _ _ (some ad) n c 0 0 cU;simp only [Option.isNone_some] at hnil;go_enter cF,cN;go_wp2_with (at_builtin;refine CU _ rfl (AY 5) (AY 6) _ _ rfl i0 _ _ cU hi hz0 hz1 hz2 rfl Ah (R:=fun _=>R w) (fun _=>hone w) w.heap.size (AB (some ⟨w.heap.size,0,none⟩) 0 0) 0 [] rfl (World.ownsRow_lit w #[] 0 (Ac _) (Av _) rfl) (some ad) n c l rfl (HS.o.fix (BE _ _)) FN AG AX ?_;intro v' w1 cs hcs hown hgr hat);exact lN
 ):p:=h
theorem AET:(prog.info? 9).map (fun i=>(i.zero,i.size,i.bytes))=some (some (AL ⟨#[]⟩),1,16):=by kernel_rfl
open Go.Proofs.Tryz renaming func153 → cF, ntmps153 → cN, underlying22 → cU in
theorem vx {α:Type} {R:AH->List AN->α->Prop} (hone:One R) (A:Option Aa) (n c:Nat) (l:List α) (w:AH) (hs:BT 1 16 R w (AB A n c) l):
 AS prog 153 #[AB A n c] w (Hi 9 1 R l w):=by have cI:=AET;exact Kg
theorem ABn:(prog.info? 201).map (fun i=>(i.zero,i.size,i.bytes))=some (some (AP #[AL ⟨#[]⟩,AL ⟨#[]⟩,AE AF 0,AE AF 0,AE AF 0]),5,56):=by kernel_rfl
open Go.Proofs.Tryz renaming func154 → cF, ntmps154 → cN, underlying23 → cU in
theorem qi {α:Type} {R:AH->List AN->α->Prop} (hone:One R) (A:Option Aa) (n c:Nat) (l:List α) (w:AH) (hs:BT 5 56 R w (AB A n c) l):
 AS prog 154 #[AB A n c] w (Hi 201 5 R l w):=by have cI:=ABn;exact Kg
theorem vB:(prog.info? 85).map (fun i=>(i.zero,i.size,i.bytes))=some (some (AP #[AL ⟨#[]⟩,AL ⟨#[]⟩,AE AF 0,AE AF 0,AB none 0 0,AB none 0 0]),6,96):=by kernel_rfl
open Go.Proofs.Tryz renaming func155 → cF, ntmps155 → cN, underlying24 → cU in
theorem j8 {α:Type} {R:AH->List AN->α->Prop} (hone:One R) (A:Option Aa) (n c:Nat) (l:List α) (w:AH) (hs:BT 6 96 R w (AB A n c) l):
 AS prog 155 #[AB A n c] w (Hi 85 6 R l w):=by have cI:=vB;exact Kg
theorem ABo:(prog.info? 160).map (fun i=>(i.zero,i.size,i.bytes))=some (some (AP #[AL ⟨#[]⟩,AE AF 0,AB none 0 0,AB none 0 0,AB none 0 0]),5,96):=by kernel_rfl
open Go.Proofs.Tryz renaming func156 → cF, ntmps156 → cN, underlying25 → cU in
theorem qj {α:Type} {R:AH->List AN->α->Prop} (hone:One R) (A:Option Aa) (n c:Nat) (l:List α) (w:AH) (hs:BT 5 96 R w (AB A n c) l):
 AS prog 156 #[AB A n c] w (Hi 160 5 R l w):=by have cI:=ABo;exact Kg
theorem qe:(prog.info? 163).map (fun i=>(i.zero,i.size,i.bytes))=some (some (AP #[AL ⟨#[]⟩,AL ⟨#[]⟩,AE AF 0,AE AF 0,AB none 0 0]),5,72):=by kernel_rfl
open Go.Proofs.Tryz renaming func157 → cF, ntmps157 → cN, underlying26 → cU in
theorem gQ {α:Type} {R:AH->List AN->α->Prop} (hone:One R) (A:Option Aa) (n c:Nat) (l:List α) (w:AH) (hs:BT 5 72 R w (AB A n c) l):
 AS prog 157 #[AB A n c] w (Hi 163 5 R l w):=by have cI:=qe;exact Kg
theorem qZ:(prog.info? 166).map (fun i=>(i.zero,i.size,i.bytes))=some (some (AP #[AL ⟨#[]⟩,AB none 0 0,AE AF 0]),3,48):=by kernel_rfl
open Go.Proofs.Tryz renaming func158 → cF, ntmps158 → cN, underlying27 → cU in
theorem gP {α:Type} {R:AH->List AN->α->Prop} (hone:One R) (A:Option Aa) (n c:Nat) (l:List α) (w:AH) (hs:BT 3 48 R w (AB A n c) l):
 AS prog 158 #[AB A n c] w (Hi 166 3 R l w):=by have cI:=qZ;exact Kg
theorem AAE:(prog.info? 112).map (fun i=>(i.zero,i.size,i.bytes))=some (some (AP #[AL ⟨#[]⟩,AE AF 0,AE AF 0,AE AF 0,AL ⟨#[]⟩,AE AF 0,AB none 0 0,AE AF 0,AE AF 0,AE AF 0,AE AF 0]),11,120):=by kernel_rfl
open Go.Proofs.Tryz renaming func210 → cF, ntmps210 → cN, underlying82 → cU in
theorem oT {α:Type} {R:AH->List AN->α->Prop} (hone:One R) (A:Option Aa) (n c:Nat) (l:List α) (w:AH) (hs:BT 11 120 R w (AB A n c) l):
 AS prog 210 #[AB A n c] w (Hi 112 11 R l w):=by have cI:=AAE;exact Kg
theorem AEY:(prog.info? 290).map (fun i=>(i.zero,i.size,i.bytes))=some (some (AP #[AB none 0 0,AL ⟨#[]⟩,AB none 0 0,AE AF 0]),4,72):=by kernel_rfl
open Go.Proofs.Tryz renaming func211 → cF, ntmps211 → cN, underlying83 → cU in
theorem wA {α:Type} {R:AH->List AN->α->Prop} (hone:One R) (A:Option Aa) (n c:Nat) (l:List α) (w:AH) (hs:BT 4 72 R w (AB A n c) l):
 AS prog 211 #[AB A n c] w (Hi 290 4 R l w):=by have cI:=AEY;exact Kg
theorem ABs:(prog.info? 298).map (fun i=>(i.zero,i.size,i.bytes))=some (some (AP #[AL ⟨#[]⟩,AL ⟨#[]⟩,AE AF 0,AL ⟨#[]⟩,AL ⟨#[]⟩,AE AF 0,AE AF 0,AE AF 0]),8,96):=by kernel_rfl
open Go.Proofs.Tryz renaming func212 → cF, ntmps212 → cN, underlying156 → cU in
theorem ql {α:Type} {R:AH->List AN->α->Prop} (hone:One R) (A:Option Aa) (n c:Nat) (l:List α) (w:AH) (hs:BT 8 96 R w (AB A n c) l):
 AS prog 212 #[AB A n c] w (Hi 298 8 R l w):=by have cI:=ABs;exact Kg
theorem kG (A:Option Aa) (n c:Nat) (l:List B0) (w:AH) (hs:BT 8 96 DH w (AB A n c) l):
 AS prog 212 #[AB A n c] w (Hi 298 8 DH l w):=ql uf A n c l w hs
theorem ABt:(prog.info? 281).map (fun i=>(i.zero,i.size,i.bytes))=some (some (AP #[AE AF 0,AL ⟨#[]⟩,AL ⟨#[]⟩,AE AF 0,AE AF 0,AE AF 0,AL ⟨#[]⟩,AL ⟨#[]⟩,AE AF 0,AE AF 0,AE AF 0]),11,120):=by kernel_rfl
open Go.Proofs.Tryz renaming func214 → cF, ntmps214 → cN, underlying157 → cU in
theorem qm {α:Type} {R:AH->List AN->α->Prop} (hone:One R) (A:Option Aa) (n c:Nat) (l:List α) (w:AH) (hs:BT 11 120 R w (AB A n c) l):
 AS prog 214 #[AB A n c] w (Hi 281 11 R l w):=by have cI:=ABt;exact Kg
theorem kJ (A:Option Aa) (n c:Nat) (l:List IL) (w:AH) (hs:BT 11 120 EH w (AB A n c) l):
 AS prog 214 #[AB A n c] w (Hi 281 11 EH l w):=qm ug A n c l w hs
theorem AEU:(prog.info? 284).map (fun i=>(i.zero,i.size,i.bytes))=some (some (AP #[AL ⟨#[]⟩,AE AF 0,AL ⟨#[]⟩,AL ⟨#[]⟩,AE AF 0,AE AF 0,AE AF 0]),7,80):=by kernel_rfl
open Go.Proofs.Tryz renaming func215 → cF, ntmps215 → cN, underlying158 → cU in
theorem vy {α:Type} {R:AH->List AN->α->Prop} (hone:One R) (A:Option Aa) (n c:Nat) (l:List α) (w:AH) (hs:BT 7 80 R w (AB A n c) l):
 AS prog 215 #[AB A n c] w (Hi 284 7 R l w):=by have cI:=AEU;exact Kg
theorem oQ (A:Option Aa) (n c:Nat) (l:List L0) (w:AH) (hs:BT 7 80 GZ w (AB A n c) l):
 AS prog 215 #[AB A n c] w (Hi 284 7 GZ l w):=vy zG A n c l w hs
theorem ABp:(prog.info? 294).map (fun i=>(i.zero,i.size,i.bytes))=some (some (AP #[AL ⟨#[]⟩,AL ⟨#[]⟩,AE AF 0,AE AF 0,AE AF 0]),5,56):=by kernel_rfl
open Go.Proofs.Tryz renaming func216 → cF, ntmps216 → cN, underlying161 → cU in
theorem qk {α:Type} {R:AH->List AN->α->Prop} (hone:One R) (A:Option Aa) (n c:Nat) (l:List α) (w:AH) (hs:BT 5 56 R w (AB A n c) l):
 AS prog 216 #[AB A n c] w (Hi 294 5 R l w):=by have cI:=ABp;exact Kg
theorem j9 (A:Option Aa) (n c:Nat) (l:List Kf) (w:AH) (hs:BT 5 56 GF w (AB A n c) l):
 AS prog 216 #[AB A n c] w (Hi 294 5 GF l w):=qk ud A n c l w hs
theorem AEV:(prog.info? 288).map (fun i=>(i.zero,i.size,i.bytes))=some (some (AP #[AL ⟨#[]⟩,AL ⟨#[]⟩,AE AF 0,AE AF 0]),4,48):=by kernel_rfl
open Go.Proofs.Tryz renaming func217 → cF, ntmps217 → cN, underlying164 → cU in
theorem vz {α:Type} {R:AH->List AN->α->Prop} (hone:One R) (A:Option Aa) (n c:Nat) (l:List α) (w:AH) (hs:BT 4 48 R w (AB A n c) l):
 AS prog 217 #[AB A n c] w (Hi 288 4 R l w):=by have cI:=AEV;exact Kg
theorem oR (A:Option Aa) (n c:Nat) (l:List L1) (w:AH) (hs:BT 4 48 IH w (AB A n c) l):
 AS prog 217 #[AB A n c] w (Hi 288 4 IH l w):=vz zH A n c l w hs
def ED {α β:Type} (f:List β->α->Option β) (l:List α):Nat->Option (List β)
 | 0=>some []
 |
  k+1=>match ED f l k,l[k]? with
  | some out,some x=>(f out x).map (fun y=>out++[y])
  | some out,none=>some out
  | none,_=>none
def Ft {α β:Type} (f:List β->α->Option β) (l:List α):Option (List β):=ED f l l.length
section
variable {α β:Type} {f:List β->α->Option β} {l:List α}
theorem FZ {k:Nat} {out:List β} {x:α} {y:β} (h:ED f l k=some out) (hx:l[k]? =some x) (hy:f out x=some y):ED f l (k+1)=some (out++[y]):=by rw [ED,h,hx];simp only [hy,Cl]
theorem FE {k:Nat} {out:List β} {x:α} (h:ED f l k=some out) (hx:l[k]? =some x) (hy:f out x=none):ED f l (k+1)=none:=by rw [ED,h,hx];simp only [hy,JJ]
theorem dQ {k:Nat} (h:ED f l k=none):∀m,ED f l (k+m)=none
 | 0=>h
 | m+1=>by rw [<-Km,ED,dQ h m]
theorem Em {k:Nat} (hk:k<=l.length) (h:ED f l k=none):Ft f l=none:=by
 have:=dQ h (l.length - k)
 rwa [show k+(l.length - k)=l.length by omega] at this
theorem Cn:∀{k:Nat} {out:List β},k<=l.length->ED f l k=some out->out.length=k
 | 0,out,_,h=>by rw [ED,Bu] at h;subst h;rfl
 |
  k+1,out,hk,h=>by
  have hu:l[k]? =some l[k]:=BJ hk;cases ho:ED f l k with
  | none=>rw [ED,ho] at h;cases h
  |
   some o=>
   cases hy:f o l[k] with
   | none=>rw [FE ho hu hy] at h;cases h
   |
    some y=>
    rw [FZ ho hu hy,Bu] at h;subst h;simp [Cn AG ho]
end
def EB {α:Type} (T:Af) (sz:Nat) (R:AH->List AN->α->Prop) (base G n cap i:Nat) (cs:List AN) (lo M:Nat) (res:Option α) (w:AH) (e:Ending) (w':AH):Prop:=
 w.grownBy w' (some G)/\match res with
  | none=>e=Bz Bq
  | some x=>e=AU (BQ #[])/\∃cs',w'.ownsRow base T sz (AB (some ⟨G,0,none⟩) n cap) n cs'/\(∀j,j≠i->chunk cs' sz j=chunk cs sz j)/\R (mask lo M w') (chunk cs' sz i) x
section
variable {α:Type} {T:Af} {sz:Nat} {R:AH->List AN->α->Prop} {base G n cap i:Nat} {cs:List AN} {lo M:Nat} {w w':AH}
theorem Dj {res:Option α} (h:res=none) (hg:w.grownBy w' (some G)):EB T sz R base G n cap i cs lo M res w (Bz Bq) w':=by subst h;exact ⟨hg,rfl⟩
theorem QB {res:Option α} {x:α} (h:res=some x) (hg:w.grownBy w' (some G)) {cs':List AN} (ho:w'.ownsRow base T sz (AB (some ⟨G,0,none⟩) n cap) n cs') (hc:∀j,j≠i->chunk cs' sz j=chunk cs sz j) (hx:R (mask lo M w') (chunk cs' sz i) x):
 EB T sz R base G n cap i cs lo M res w (AU (BQ #[])) w':=by
 subst h;exact ⟨hg,rfl,cs',ho,hc,hx⟩
end
theorem MU {a w:AH} {row:Option Nat} (h:a.grownBy w row) {p:Aa} (hp:a.heap.size<=p.block) (v:AN):a.grownBy (w.setCell p v) row:=
 ⟨h.os,h.tape,h.output,by simpa [World.setCell] using h.size,fun k hk hne=>(D6 w p v k AG).trans (h.block k hk hne)⟩
theorem Cx {a w:AH} {G:Nat} (h:a.grownBy w (some G)) (o:Nat) (v:AN):a.grownBy (w.setCell ⟨G,o,none⟩ v) (some G):=
 ⟨h.os,h.tape,h.output,by simpa [World.setCell] using h.size,fun k hk hne=>(D6 w _ v k (fun e=>hne M0)).trans (h.block k hk hne)⟩
theorem Ei {w w':AH} (h:AK w w') (row:Option Nat):w.grownBy w' row:=⟨h.os,h.tape,h.output,h.size,fun k hk _=>h.block k hk⟩
theorem G0 {w:AH} {base:Nat} {e:Af} {sz:Nat} {v:AN} {n:Nat} {cs:List AN} (h:w.ownsRow base e sz v n cs) {p:Aa} (hp:p.block < base) (u:AN):(w.setCell p u).ownsRow base e sz v n cs:=
 PX h (a:=p) (fun e=>by have:=h.lt _ e;omega) u
theorem own_ne {w:AH} {base:Nat} {e:Af} {sz g n cap:Nat} {cs:List AN} (h:w.ownsRow base e sz (AB (some ⟨g,0,none⟩) n cap) n cs) {p:Aa} (hp:p.block≠g) (u:AN):(w.setCell p u).ownsRow base e sz (AB (some ⟨g,0,none⟩) n cap) n cs:=
 PX h (a:=p) (fun e=>by simp [Value.ownBlock] at e;exact hp e.symm) u
theorem Ch {w w':AH} {base:Nat} {e:Af} {size:Nat} {v:AN} {n:Nat} {xs:List AN} (h:w.ownsRow base e size v n xs) (hb:AK w w'):w'.ownsRow base e size v n xs:=
 h.kept (row:=none) ⟨hb.os,hb.tape,hb.output,hb.size,fun k hk _=>hb.block k hk⟩ eP
theorem Hr {w:AH} {base:Nat} {e:Af} {sz:Nat} {v:AN} {n:Nat} {cs:List AN} (h:w.ownsRow base e sz v n cs):(v=AB none 0 0/\n=0)\/∃g cap,v=AB (some ⟨g,0,none⟩) n cap/\base<=g/\g < w.heap.size/\n<=9223372036854775807:=by
 rcases h.2 with ⟨rfl,h0⟩ | ⟨g,cap,cur,rfl,h2,h3,h4,h5,_⟩
 · exact .inl ⟨rfl,h0⟩
 unfold maxLen at h5;exact .inr ⟨g,cap,rfl,h2,(C6.1 h3).1,by omega⟩
def Yy (s:BB) (m:L1):Option L1:=
 match idx (By s) m.name with
 | none=>none
 |
  some a=>match s.Ap[a]? with
  | none=>none
  |
   some x=>match idx (fieldNames x) m.path with
   | none=>none
   | some f=>some {m with schema:=(a:Int),field:=(f:Int)}
def Gh (s:BB) (p:Cd):Option Cd:=(Ft (fun _=>Yy s) p.may).map (fun l=>{p with may:=l})
theorem XS {l:List ByteArray} {x:ByteArray} {n:Nat} (h:idx l x=some n):n < l.length:=by unfold idx at h;rw [List.findIdx?_eq_some_iff_findIdx_eq] at h;exact h.1
theorem AEC {w:AH} {cs:List AN} {l:List L1} {k:Nat} {u:L1} (h:Aq 4 IH w cs l) (hk:l[k]? =some u) (a:Int):Aq 4 IH w (cs.set (k*4+2) (AE AF a)) (l.set k {u with schema:=a}):=
 h.put AG (BD.1 hk).1 rf
theorem ABJ {w:AH} {cs:List AN} {l:List L1} {k:Nat} {u:L1} (h:Aq 4 IH w cs l) (hk:l[k]? =some u) (a:Int):Aq 4 IH w (cs.set (k*4+3) (AE AF a)) (l.set k {u with field:=a}):=
 h.put AG (BD.1 hk).1 rf
theorem Y7 (R lo M base G n cap i:Nat) (cs:List AN) (s:BB) (p:Cd) (w:AH) (hres:Jf (mask lo M w) R s) (hlo:lo<=G) (Gl:G < M) (tX:M<=w.heap.size)
 (ho:w.ownsRow base 166 3 (AB (some ⟨G,0,none⟩) n cap) n cs) (hi:i < n) (hp:BW (mask lo M w) (chunk cs 3 i) p):
 AS prog 163 #[AW (some ⟨R,0,none⟩),AW (some ⟨G,i*3,none⟩)] w (EB 166 3 BW base G n cap i cs lo M (Gh s p) w):=by
 obtain ⟨A1,n1,c1,hch,hmay⟩:=hp;have p0:=BF ho hi AG hch (j:=0) rfl;have p1:=BF ho hi AG hch (j:=1) rfl;have Uw:G < w.heap.size:=AG
 have Gp:=AA hres;have HO:=AA ho;have OY:=AA hch;have wj:=AA (hmay.Hz ia);have HBD:=AA hmay.2;clear hres ho hch hmay;go_enter func163,ntmps163;go_wp2_with fail;refine (oR A1 n1 c1 p.may _ wj.o).mono ?_;rintro e w1 ⟨v,cs1,rfl,hcs1,ho1,hb1⟩;obtain ⟨vA,vn,vc,rfl⟩:∃A m c,v=AB A m c:=by
  rcases Hr ho1 with ⟨rfl,_⟩ | ⟨g,cap,rfl,_⟩
  · exact NS
  · exact NS
 have q1:w1.cell? ⟨G,i*3+1,none⟩=some (AB A1 n1 c1):=((Ja hb1).1 _ _ Uw).trans p1;have hf1:w1.frozen? ⟨G,i*3+1,none⟩=false:=((Ja hb1).2 _ _ Uw).trans (HO.o.frozenAt _);have hG1:G < w1.heap.size:=Au Uw hb1.size;have IY:=AA ho1;have Kd:=AA hcs1;have HB1:=AA hb1;clear ho1 hcs1 hb1 p0 p1;go_wp2_with fail;have ho2:(w1.setCell ⟨G,i*3+1,none⟩ (AB vA vn vc)).ownsRow base 166 3 (AB (some ⟨G,0,none⟩) n cap) n (cs.set (i*3+1) (AB vA vn vc)):=((Ch HO.o HB1.o).stored (i*3+1) (AB vA vn vc)).1;have hi2:(w1.setCell ⟨G,i*3+1,none⟩ (AB vA vn vc)).ownsRow w.heap.size 288 4 (AB vA vn vc) p.may.length cs1:=G0 IY.o (by simpa using Uw) _;have hg2:w.grownBy (w1.setCell ⟨G,i*3+1,none⟩ (AB vA vn vc)) (some G):=Cx (Ei HB1.o _) _ _;generalize w1.setCell ⟨G,i*3+1,none⟩ (AB vA vn vc)=w2 at ho2 hi2 hg2 ⊢;have hvn:vn=p.may.length:=by
  rcases Hr hi2 with ⟨h,h0⟩ | ⟨g,cap,h,_⟩
  · injection h with _ h;omega
  · injection h
 have Jc:=AA ho2;have HI2:=AA hi2;have HG2:=AA hg2;have LG:=AA hvn;clear ho2 hi2 hg2 hvn q1 hf1 hG1 IY HB1;go_loopg [19] vn (fun q j wr=>∃(k:Nat) (out:List L1) (cr:List AN),k<=vn/\q=vn - k/\j=AE AF k/\ED (fun _=>Yy s) p.may k=some out/\w.grownBy wr (some G)/\wr.ownsRow base 166 3 (AB (some ⟨G,0,none⟩) n cap) n (cs.set (i*3+1) (AB vA vn vc))/\
  wr.ownsRow w.heap.size 288 4 (AB vA vn vc) p.may.length cr/\Aq 4 IH w cr (out++p.may.drop k))
 case atStart=>exact lJ
 clear Jc HI2 HG2 Kd;obtain ⟨k,out,cr,hk,hq,rfl,hto,hgr,hog,Gc,hcr⟩:=hrel;have HQ:=AA hq;have DZ:=AA hto;clear hq hto;by_cases hlt:k < vn
 ·rcases Hr Gc with ⟨h,h0⟩ | ⟨H,hcap,h,hH,hHw,hn2⟩
  · exact RV
  injection h with h1 h2 h3;subst h1 h3;clear h2;have vF:vn<=9223372036854775807:=by have:=LG.o;omega
  obtain ⟨m,hm⟩:∃m,p.may[k]? =some m:=⟨p.may[k]' Hn,BJ _⟩;have hlen:=Cn Hn DZ.o;have hat:(out++p.may.drop k)[k]? =some m:=by rw [Cp AG,EP,hlen];simpa using hm
  have hch:chunk cr 4 k=[AL m.name,AL m.path,AE AF m.schema,AE AF m.field]:=hcr.chunk hat;have Dy:wr.ownsRow w.heap.size 288 4 (AB (some ⟨H,0,none⟩) vn vc) vn cr:=by have:=LG.o;rw [this] at Gc ⊢;exact Gc
  have e0:=BF Dy hlt AG hch (j:=0) rfl;simp only [EO] at e0;have e1:=BF Dy hlt AG hch (j:=1) rfl;have e2:=BF Dy hlt AG hch (j:=2) rfl;have e3:=BF Dy hlt AG hch (j:=3) rfl;have f2:=Dy.frozenAt (k*4+2);have aS:chunk (cs.set (i*3+1) (AB (some ⟨H,0,none⟩) vn vc)) 3 i=[AL p.name,AB (some ⟨H,0,none⟩) vn vc,AE AF p.most]:=by rw [Ek _ AG,OY.o];rfl
  have g1:=BF hog hi AG aS (j:=1) rfl;obtain ⟨b1,b2,b3,fA,fn,fc,hbR,hm1,hm2,Dm,hfs⟩:=(Gp.o.below (Cw hgr hlo Gl)).Hz;have r2:=hbR.cell 2;have r3:=hbR.cell 3;have lR:=hbR.lt;simp only [Ak,Al,Az] at r2 r3;have hget:=Hx (By s) m.name;have GU:=AA hgr;have LI:=AA hog;have LH:=AA Dy;have TI:=AA hcr;have HM:=AA hm;have HLEN:=AA hlen;have HAT:=AA hat;have G9:=AA (Dm.same (w':=wr.drew) rfl);have Qb:=AA hfs;clear hgr hog Gc Dy hcr hm hlen hat hch aS hbR hm1 hm2 Dm hfs;have hkn:(k:Int) < (vn:Int):=AG
  have hk0:=Int.natCast_nonneg k
  cases hix:idx (By s) m.name with
  |
   none=>
   rw [hix] at hget;have IC:=AA hix;have V0:=AA hget;clear hix hget;go_wp2_with fail;have Cf:AI (EB 166 3 BW base G n cap i cs lo M (Gh s p) w (Bz Bq) wr.drew):=by refine Dj ?_ (grown_drew GU.o);unfold Gh;rw [Em (k:=k+1) Hn (FE DZ.o HM.o (by unfold Yy;rw [IC.o]))];rfl
   go_region_dies
   all_goals
    refine (G6 b3 _ _ _ G9.o V0.o).mono ?_;rintro e w' ⟨rfl,rfl⟩;exact ⟨rfl,Cf.o⟩
  |
   some a=>
   rw [hix] at hget;have IC:=AA hix;have HF:=AA ((FW b3 _ _ (a:Int) wr.drew G9.o hget).mono (R':=fun e w'=>e=AU (AE AF a)/\w'=wr.drew) ET);have hal:=XS hix;clear hix hget;go_wp2_with fail;refine wp_region_still_tail 12 AJ AJ ?_;simp only [FL,FJ,JL,Hl]
   repeat still_step
   still_call HF.o
   repeat still_step
   refine FI ?_;change wpList _ _ _ _ _ wr.drew;go_upto_region 6 with fail;have hoq:=(LH.o.stored (k*4+2) (AE AF a)).1.drew;have hgq:w.grownBy (wr.setCell ⟨H,k*4+2,none⟩ (AE AF a)).drew (some G):=grown_drew (MU GU.o (by simpa using hH) _);have Nt:=(own_ne LI.o (p:=⟨H,k*4+2,none⟩) BN (AE AF a)).drew;have hcq:=AEC TI.o HAT.o (a:Int);generalize (wr.setCell ⟨H,k*4+2,none⟩ (AE AF a)).drew=wq at hoq hgq Nt ⊢;generalize cr.set (k*4+2) (AE AF a)=cq at hoq hcq;have hkl:k < (out++p.may.drop k).length:=(BD.1 HAT.o).1;have Lb:((out++p.may.drop k).set k {m with schema:=(a:Int)})[k]? =some {m with schema:=(a:Int)}:=F9 hkl;have hck:chunk cq 4 k=[AL m.name,AL m.path,AE AF a,AE AF m.field]:=hcq.chunk Lb;have d1:=BF hoq hlt AG hck (j:=1) rfl;have d2:=BF hoq hlt AG hck (j:=2) rfl;have d3:=BF hoq hlt AG hck (j:=3) rfl;have fd3:=hoq.frozenAt (k*4+3);obtain ⟨b1',b2',b3',Sr,fn',PG,Hu,_,_,_,KJ⟩:=(Gp.o.below (Cw hgq hlo Gl)).Hz;have s3:=Hu.cell 3;have lR':=Hu.lt;simp only [Ak,Al,Az] at s3;have hfn:fn'=s.Ap.length:=by have:=KJ.len;simpa using this
   have hal':a < fn':=by rw [hfn];simpa [By] using hal
   obtain ⟨fb,oF,fm,fg,rfl,hfb,hfm,hfc,L9⟩:=Us KJ hal';obtain ⟨x,hx⟩:∃x,s.Ap[a]? =some x:=⟨s.Ap[a]' AG,BJ _⟩;have hfx:fm=fieldMap x:=by rw [Bb,hx,Cl,Bu] at hfm;exact hfm.symm
   subst hfx;have hget:=Hx (fieldNames x) m.path;have Kc:=AA hoq;have PB:=AA hgq;have Tg:=AA Nt;have X8:=AA hcq;have SQ:=AA Lb;have WX:=AA (L9.same (w':=wq.drew) rfl);have HX:=AA hx;clear hoq hgq Nt hcq hkl Lb hck Hu KJ hfm L9 hx e0 e1 e2 e3 f2 g1 r2 r3 lR hfn hal HF;have ha0:(0:Int)<=(a:Int):=AG
   have han:(a:Int) < (fn':Int):=AG
   cases hix:idx (fieldNames x) m.path with
   |
    none=>
    rw [hix] at hget;have g7:=AA hix;have V0:=AA hget;clear hix hget;have Cf:AI (EB 166 3 BW base G n cap i cs lo M (Gh s p) w (Bz Bq) wq.drew):=by refine Dj ?_ (grown_drew PB.o);unfold Gh;rw [Em (k:=k+1) Hn (FE DZ.o HM.o r8)];rfl
    go_region_dies
    all_goals
     refine (G6 fg _ _ _ WX.o V0.o).mono ?_;rintro e w' ⟨rfl,rfl⟩;exact ⟨rfl,Cf.o⟩
   |
    some f=>
    rw [hix] at hget;have g7:=AA hix;have HF:=AA ((FW fg _ _ (f:Int) wq.drew WX.o hget).mono (R':=fun e w'=>e=AU (AE AF f)/\w'=wq.drew) ET);clear hix hget;refine wp_region_still_tail 18 AJ AJ ?_;simp only [FL,FJ,JL,Hl]
    repeat still_step
    still_call HF.o
    repeat still_step
    refine FI ?_;change wpList _ _ _ _ _ wq.drew;go_wp2_with fail;go_roundg (vn - (k+1))
    case measure=>exact BS
    have ho3:=(Kc.o.drew.stored (k*4+3) (AE AF f)).1;have hc3:=ABJ X8.o SQ.o (f:Int);rw [Ia] at hc3;refine ⟨k+1,out++[{m with schema:=(a:Int),field:=(f:Int)}],cq.set (k*4+3) (AE AF f),by omega,rfl,by go_num,?_,MU (grown_drew PB.o) (by simpa using hH) _,own_ne Tg.o.drew BN _,?_,?_⟩
    · exact FZ DZ.o HM.o r8
    · have:=LG.o;rw [this] at ho3 ⊢;exact ho3
    · rw [<-set_drop HLEN.o HM.o];exact hc3
 have hke:k=p.may.length:=by have:=LG.o;omega
 go_wp2_with fail
 go_end0
 have hP:Gh s p=some {p with may:=out}:=by unfold Gh Ft;rw [<-hke,DZ.o];rfl
 have hsl:Ag 4 IH (mask lo M wr) (AB vA vn vc) out:=by rw [hke,Ji,FK] at hcr;exact CW (LV Gc tX) ⟨hcr.1,hcr.2⟩ rN
 refine QB hP hgr hog (fun j hj=>FH _ AG hj) ?_;refine ⟨vA,vn,vc,?_,hsl,?_⟩
 · rw [Ek _ AG,OY.o];rfl
 exact sT
def Ka (ss:List BL) (fs:List B0) (t:Du):Option Fa:=Fp ss fs t fs.length
def Qf (ss:List BL) (fs:List B0) (t:Du):Bool:=(Ka ss fs t).isSome || isNum t
def Me (us:List Bt):List Fa->Bool
 | [s,t]=>Ky us s t
 | _=>true
def TS (op:Int) (y:Fa):Bool:= !(decide (op=2) || decide (op=3)) || Nr y
theorem AAj (us:List Bt) (ss:List BL) (fs:List B0) (a:IL):Md us ss fs a=(decide (1<=a.op) && decide (a.op<=4) && (Qf ss fs a.a && Qf ss fs a.b) && !([a.a,a.b].filterMap (Ka ss fs)).isEmpty && Me us ([a.a,a.b].filterMap (Ka ss fs)) && ([a.a,a.b].filterMap (Ka ss fs)).all (TS a.op)):=by
 have ea:Ka ss fs a.a=Fp ss fs a.a fs.length:=rfl;have eb:Ka ss fs a.b=Fp ss fs a.b fs.length:=rfl;unfold Md Qf;simp only [Mt,Ms,ea,eb];cases Fp ss fs a.a fs.length <;> cases Fp ss fs a.b fs.length
 · simp
 ·rename_i y
  simp only [Option.all_none,Option.all_some,N3,List.all_nil,Me,Gv,Fh,TS,List.isEmpty_cons];generalize decide (1<=a.op)=p1;generalize decide (a.op<=4)=p2;generalize decide (a.op=2)=p3;generalize decide (a.op=3)=p4;generalize isNum a.a=p5;generalize isNum a.b=p6;generalize Nr y=p7;revert p1 p2 p3 p4 p5 p6 p7;decide
 ·rename_i y
  simp only [Option.all_none,Option.all_some,N3,List.all_nil,Me,Gv,Fh,TS,List.isEmpty_cons];generalize decide (1<=a.op)=p1;generalize decide (a.op<=4)=p2;generalize decide (a.op=2)=p3;generalize decide (a.op=3)=p4;generalize isNum a.a=p5;generalize isNum a.b=p6;generalize Nr y=p7;revert p1 p2 p3 p4 p5 p6 p7;decide
 rename_i x y
 simp only [Option.all_some,N3,List.all_nil,Me,Fh,TS,List.isEmpty_cons];generalize decide (1<=a.op)=p1;generalize decide (a.op<=4)=p2;generalize decide (a.op=2)=p3;generalize decide (a.op=3)=p4;generalize isNum a.a=p5;generalize isNum a.b=p6;generalize Nr y=p7;generalize Nr x=p8;generalize Ky us x y=p9;revert p1 p2 p3 p4 p5 p6 p7 p8 p9;decide
theorem yr {ss:List BL} {fs:List B0} {t:Du} {n:Nat} {y:Fa} (h:Fp ss fs t n=some y):∃x∈ss,∃f∈x.fields,f.type=y:=by
 unfold Fp at h;split at h
 · cases h
 obtain ⟨f,hf,h2⟩:=dt.1 h;unfold typeAt at h2;split at h2
 · cases h2
 obtain ⟨x,hx,h3⟩:=dt.1 h2;obtain ⟨g,hg,h4⟩:=Ds.1 h3;exact ⟨x,CS hx,g,CS hg,h4⟩
theorem AAC:(prog.info? 109).map (fun i=>(i.zero,i.size,i.bytes))=some (some (AP #[AE AF 0,AE AF 0,AE AF 0,AL ⟨#[]⟩,AE AF 0,AB none 0 0]),6,72):=by kernel_rfl
theorem tB {α:Type} {sz:Nat} {R:AH->List AN->α->Prop} {W:AH} {g:Nat} {t:Af} {cs:List AN} {x:α} (h:AZ W g t cs.toArray) (hl:cs.length=sz) (hR:R W cs x):Ag sz R W (AB (some ⟨g,0,none⟩) 1 1) [x]:=by
 refine ⟨some ⟨g,0,none⟩,1,rfl,Ac _,by decide,fun i y hi=> ?_⟩;rcases i with _ | i
 ·simp only [Al,Bu] at hi
  subst hi;refine ⟨g,0,cs,rfl,h.lt,hl,fun j u hu=> ?_,hR⟩;rw [h.cell];simpa using hu
 · simp at hi
theorem wI (
 A1 A2 A3 A4 A5 A6:Option Aa) (n1 c1 n2 c2 n3 c3 n4 c4 n5 c5 n6 c6:Nat) (F1 F2 F3:Option Aa) (m1 d1 m2 d2 m3 d3:Nat) (hd:ByteArray) (Dv:Int) (a:IL) (us:List Bt) (ss:List BL) (fs:List B0) (w0 w:AH) (hb0:AK w0 w) (h2:Ag 5 CD w0 (AB A2 n2 c2) us) (h3:Ag 6 BU w0 (AB A3 n3 c3) ss) (hf:Ag 8 DH w0 (AB F1 m1 d1) fs) (hU:∀x∈ss,∀f∈x.fields,QM n2 f.type):
 AS prog 167 #[(AP #[AB A1 n1 c1,AB A2 n2 c2,AB A3 n3 c3,AB A4 n4 c4,AB A5 n5 c5,AB A6 n6 c6,AL hd,AE AF Dv,AB F1 m1 d1,AB F2 m2 d2,AB F3 m3 d3]),AP #[AE AF a.op,AL a.a.name,AL a.a.path,AE AF a.a.var,AE AF a.a.field,AE AF a.a.n,AL a.b.name,AL a.b.path,AE AF a.b.var,AE AF a.b.field,AE AF a.b.n]] w fun e w'=>
  e=AU (Ab (Md us ss fs a))/\AK w w':=by
 have hm1:m1<=9223372036854775807:=by have:=hf.le;omega
 obtain ⟨j0,hj,aR,aQ,aP⟩:=Kh AAC;have HJ:=AA (And.intro hj (And.intro aR (And.intro aQ aP)));clear hj aR aQ aP;obtain ⟨wb,hwb⟩:=Ad ((w.alloc (AO #[AB A1 n1 c1,AB A2 n2 c2,AB A3 n3 c3,AB A4 n4 c4,AB A5 n5 c5,AB A6 n6 c6,AL hd,AE AF Dv,AB F1 m1 d1,AB F2 m2 d2,AB F3 m3 d3] 197)).alloc (AO #[AE AF a.op,AL a.a.name,AL a.a.path,AE AF a.a.var,AE AF a.a.field,AE AF a.a.n,AL a.b.name,AL a.b.path,AE AF a.b.var,AE AF a.b.field,AE AF a.b.n] 281));have hbb:AK w wb:=by rw [hwb];exact ((BE _ _).alloc AX _)
 have kA:AZ wb w.heap.size 197 #[AB A1 n1 c1,AB A2 n2 c2,AB A3 n3 c3,AB A4 n4 c4,AB A5 n5 c5,AB A6 n6 c6,AL hd,AE AF Dv,AB F1 m1 d1,AB F2 m2 d2,AB F3 m3 d3]:=by rw [hwb];exact (AZ.new _ _ _).alloc _
 have kB:AZ wb (w.heap.size+1) 281 #[AE AF a.op,AL a.a.name,AL a.a.path,AE AF a.a.var,AE AF a.a.field,AE AF a.a.n,AL a.b.name,AL a.b.path,AE AF a.b.var,AE AF a.b.field,AE AF a.b.n]:=by rw [hwb];exact DY AX
 have O8:AI (∀(t:Du) (W:AH),AK w0 W->AS prog 219 #[(AP #[AB A1 n1 c1,AB A2 n2 c2,AB A3 n3 c3,AB A4 n4 c4,AB A5 n5 c5,AB A6 n6 c6,AL hd,AE AF Dv,AB F1 m1 d1,AB F2 m2 d2,AB F3 m3 d3]),AP #[AL t.name,AL t.path,AE AF t.var,AE AF t.field,AE AF t.n],AE AF m1] W (OT (Ka ss fs t) w0 W)):=AA (fun t W hW=>by have:=Rh A1 A2 A3 A4 A5 A6 n1 c1 n2 c2 n3 c3 n4 c4 n5 c5 n6 c6 F1 F2 F3 m1 d1 m2 d2 m3 d3 hd Dv t m1 ss fs w0 W hW h3 hf AG AG;rw [Cm] at this;rw [Ka,<-hf.len];exact this)
 have HUN:AI (∀(t:Du) (y:Fa),Ka ss fs t=some y->QM n2 y):=AA (fun t y h=>by obtain ⟨x,hx,f,hf',rfl⟩:=yr h;exact hU x hx f hf')
 have H2:=AA h2;have HB0:=AA hb0;have BG:=AA hbb;have CX:=AA hwb;have HA:=AA kA;have HB:=AA kB;have lA:=kA.lt;have lB:=kB.lt;obtain ⟨b0,b1,b2,b3,b4,b5,b6,b7,b8,b9,b10⟩:=kB.eleven;obtain ⟨ga,hga⟩:=Ad w.heap.size;obtain ⟨gb,hgb⟩:=Ad (w.heap.size+1);clear hf h2 h3 hb0 hbb hwb kA kB hU;obtain ⟨R,hR⟩:=BP (Md us ss fs a);have HR:AI (R=(decide (1<=a.op) && decide (a.op<=4) && (Qf ss fs a.a && Qf ss fs a.b) && !([a.a,a.b].filterMap (Ka ss fs)).isEmpty && Me us ([a.a,a.b].filterMap (Ka ss fs)) && ([a.a,a.b].filterMap (Ka ss fs)).all (TS a.op))):=AA (by rw [<-hR,AAj]);rw [hR];clear hR;obtain ⟨op,ta,tb⟩:=a;simp only at HR HB CX b0 b1 b2 b3 b4 b5 b6 b7 b8 b9 b10 ⊢;go_enter func167,ntmps167;go_upto_region 1 with fail;rw [<-CX.o,<-hgb,<-hga];rw [<-hgb] at HB lB b0 b1 b2 b3 b4 b5 b6 b7 b8 b9 b10;rw [<-hga] at HA lA;clear CX hga hgb;by_cases hop:1<=op/\op<=4
 case neg=>
  have HE:AI (R=false):=AA (by
   rw [HR.o];have:(decide (1<=op) && decide (op<=4))=false:=by simp only [Mw,Mx];omega
   rw [this];rfl)
  go_wp2_with fail
  all_goals first
   | (exfalso;omega)
   | (go_ret;exact ⟨Ay HE.o.symm,BG.o⟩)
 obtain ⟨hop1,hop2⟩:=hop;have hz1:decide (op < 1)=false:=Bc AG;have hz2:decide (4 < op)=false:=Bc AG;have HR2:AI (R=((Qf ss fs ta && Qf ss fs tb) && !([ta,tb].filterMap (Ka ss fs)).isEmpty && Me us ([ta,tb].filterMap (Ka ss fs)) && ([ta,tb].filterMap (Ka ss fs)).all (TS op))):=AA (by rw [HR.o,BR hop1,BR hop2];simp only [JI])
 clear HR;obtain ⟨wl,hwl⟩:=Ad (wb.alloc (AO #[AL ta.name,AL ta.path,AE AF ta.var,AE AF ta.field,AE AF ta.n,AL tb.name,AL tb.path,AE AF tb.var,AE AF tb.field,AE AF tb.n] 279));have Nh:AI (AK wb wl):=AA (by rw [hwl];exact (Ae _ _).alloc (Ac _) _);have Ng:AI (AZ wl wb.heap.size 279 #[AL ta.name,AL ta.path,AE AF ta.var,AE AF ta.field,AE AF ta.n,AL tb.name,AL tb.path,AE AF tb.var,AE AF tb.field,AE AF tb.n]):=AA (by rw [hwl];exact AZ.new _ _ _);have HWL:=AA hwl;clear hwl;go_wp2_with fail;rw [<-HWL.o];clear HWL b0 b1 b2 b3 b4 b5 b6 b7 b8 b9 b10;have Zo:AI (∀W,AK wl W->AZ W ga 197 #[AB A1 n1 c1,AB A2 n2 c2,AB A3 n3 c3,AB A4 n4 c4,AB A5 n5 c5,AB A6 n6 c6,AL hd,AE AF Dv,AB F1 m1 d1,AB F2 m2 d2,AB F3 m3 d3]/\AZ W gb 281 #[AE AF op,AL ta.name,AL ta.path,AE AF ta.var,AE AF ta.field,AE AF ta.n,AL tb.name,AL tb.path,AE AF tb.var,AE AF tb.field,AE AF tb.n]/\AZ W wb.heap.size 279 #[AL ta.name,AL ta.path,AE AF ta.var,AE AF ta.field,AE AF ta.n,AL tb.name,AL tb.path,AE AF tb.var,AE AF tb.field,AE AF tb.n]):=AA (fun W hW=>
  have hw:AK wb W:=AV Nh.o hW
  ⟨HA.o.below hw lA,HB.o.below hw lB,Ng.o.below hW Ng.o.lt⟩)
 have iC:AI (AK w wl):=AA (AV BG.o Nh.o);clear HA HB Ng Nh BG lA lB;go_loopg [5,27] 2 (fun q v i wr=>∃(k:Nat) (cs:List AN) (tv:AN),k<=2/\q=2 - k/\i=AE AF k/\tv=v/\([ta,tb].take k).all (Qf ss fs)=true/\wr.ownsRow wl.heap.size 109 6 tv (([ta,tb].take k).filterMap (Ka ss fs)).length cs/\Aq 6 (fun _=>NV w0) wr cs (([ta,tb].take k).filterMap (Ka ss fs))/\AK wl wr)
 case atStart=>exact ⟨0,[],AB none 0 0,Av _,rfl,rfl,rfl,rfl,Ev _ _ _ _,Aq.nil,Ae _ _⟩
 obtain ⟨k,cs,tv,hk,hq,rfl,rfl,hall,ho,hc,hb⟩:=hrel;have HQ:=AA hq;have EC:=AA hall;have HO:=AA ho;have HC:=AA hc;have C4:=AA hb;have CO:AI (AK w wr):=AA (AV iC.o hb);have JH:AI (AK w0 wr):=AA (AV HB0.o CO.o);clear hq hall ho hc hb;obtain h0 | h0 | h0:k=0\/k=1\/k=2:=AG
 ·subst h0
  obtain ⟨kA,kB,kL⟩:=Zo.o wr C4.o;obtain ⟨a0,a1,a2,a3,a4,a5,a6,a7,a8,a9,a10⟩:=kA.eleven;have t0:=kL.cell 0;have t1:=kL.cell 1;have t2:=kL.cell 2;have t3:=kL.cell 3;have t4:=kL.cell 4;simp only [Ak,Al,Az] at t0 t1 t2 t3 t4;have lA:=kA.lt;have lL:=kL.lt;clear kA kB kL;have HX:AI ([ta,tb][0]? =some ta):=AA rfl;have HT:=AA (fun o=>O8.o ta (wr.alloc o) (JH.o.alloc JH.o.size o));obtain ⟨x,hx⟩:=BP (Ka ss fs ta);have U9:=AA hx;rw [hx] at HT;have pI:AI (∀W,BI (wr.alloc (AO #[AL ta.name,AL ta.path,AE AF ta.var,AE AF ta.field,AE AF ta.n] 279)).heap.size (wr.alloc (AO #[AL ta.name,AL ta.path,AE AF ta.var,AE AF ta.field,AE AF ta.n] 279)) W->AZ W wr.heap.size 279 #[AL ta.name,AL ta.path,AE AF ta.var,AE AF ta.field,AE AF ta.n]):=AA (fun W h=>(AZ.new wr _ _).below h AX);clear hx;cases x with
  |
   none=>
   go_wp2_with (go_at_call 219;refine (HT.o _).mono ?_;clear HT);rintro e w2 ⟨⟨B,m',d',rfl,hs⟩,hb2⟩;obtain ⟨t0,t1,t2,t3,t4⟩:=(pI.o w2 hb2).five;have lT:wr.heap.size < w2.heap.size:=Au AX hb2.size;have HB2:AI (AK wl w2):=AA ((C4.o.alloc C4.o.size _).trans (hb2.mono OD));have Jc:=AA (Ch (HO.o.alloc _) hb2);have HC2:AI (Aq 6 (fun _=>NV w0) w2 cs (([ta,tb].take 0).filterMap (Ka ss fs))):=AA HC.o;clear hs hb2 pI a0 a1 a2 a3 a4 a5 a6 a7 a8 a9 a10 lA lL;simp only [Gv];obtain ⟨v,hv⟩:=BP (isNum ta);have HV:=AA hv;have HN:AI (∀o,AS prog 220 #[AP #[AL ta.name,AL ta.path,AE AF ta.var,AE AF ta.field,AE AF ta.n]] (w2.alloc o) fun e w'=>e=AU (Ab v)/\BI (w2.alloc o).heap.size (w2.alloc o) w'):=AA (fun o=>by have:=Rt ta (w2.alloc o);rw [hv] at this;exact this)
   clear hv;go_wp2_with (go_at_call 220;refine (HN.o _).mono ?_;clear HN);rintro e w3 ⟨rfl,hb3⟩;have HB3:AI (AK wl w3):=AA ((HB2.o.alloc HB2.o.size _).trans (hb3.mono UN));have I4:=AA (Ch (Jc.o.alloc _) hb3);clear hb3 t0 t1 t2 t3 t4 lT;have dg:AI (Qf ss fs ta=v):=AA (by rw [Qf,U9.o,HV.o];rfl);cases v with
   |
    false=>
    have HE:AI (R=false):=AA (by rw [HR2.o,dg.o];simp);go_wp2_with fail;go_ret;exact ⟨Ay HE.o.symm,AV iC.o HB3.o⟩
   |
    true=>
    go_wp2_with fail;go_roundg (2 - (0+1))
    case measure=>exact BS
    case rel=>exact ⟨0+1,cs,tv,by omega,rfl,by go_num,rfl,Dc HX.o dg.o EC.o,by rw [take_snoc HX.o,N8];simp only [Mt,U9.o,Ms,FK];exact I4.o,by rw [take_snoc HX.o,N8];simp only [Mt,U9.o,Ms,FK];exact HC2.o,HB3.o⟩
  |
   some y=>
   obtain ⟨yk,yl,yh,yf,yu,yn⟩:=y;go_wp2_with (go_at_call 219;refine (HT.o _).mono ?_;clear HT);rintro e w2 ⟨⟨B,m',d',rfl,hs⟩,hb2⟩;have HS:=AA hs;have HB2:AI (AK wl w2):=AA ((C4.o.alloc C4.o.size _).trans (hb2.mono OD));have Jc:=AA (Ch (HO.o.alloc _) hb2);clear hs hb2 pI a0 a1 a2 a3 a4 a5 a6 a7 a8 a9 a10 lA lL t0 t1 t2 t3 t4;simp only [Fh,Cc];simp only [Cc] at HS;have dg:AI (Qf ss fs ta=true):=AA (by rw [Qf,U9.o];rfl);obtain ⟨wt,hwt⟩:=Ad ((w2.alloc (AO #[AE AF yk,AE AF yl,AE AF yh,AL yf,AE AF yu,AB B m' d'] 109)).alloc (AO #[AE AF yk,AE AF yl,AE AF yh,AL yf,AE AF yu,AB B m' d'] 109));have jV:AI (wt.ownsRow wl.heap.size 109 6 _ _ cs):=AA rT;have Ml:AI (Ag 6 (fun _=>NV w0) wt (AB (some ⟨w2.heap.size+1,0,none⟩) 1 1) [⟨yk,yl,yh,yf,yu,yn⟩]):=AA sJ;have VL:AI (AK wl wt):=AA sH;have HWT:=AA hwt;clear hwt;go_wp2_with (at_builtin;rw [<-HWT.o];refine CU wt rfl (AY 49) (AY 51) 351 109 rfl j0 _ 72 underlying351 HJ.o.1 HJ.o.2.1 HJ.o.2.2.1 HJ.o.2.2.2 rfl Ah (R:=fun _=>NV w0) (fun _=>cE w0) wl.heap.size _ (([ta,tb].take 0).filterMap (Ka ss fs)).length cs rfl jV.o (some ⟨w2.heap.size+1,0,none⟩) 1 1 [⟨yk,yl,yh,yf,yu,yn⟩] rfl Ml.o ?hn ?hb VL.o.size ?_)
   case hn=>have:=Ty (Ka ss fs) ([ta,tb].take 0);simp at this;unfold maxLen;simp <;> omega
   case hb=>have:=Ty (Ka ss fs) ([ta,tb].take 0);simp at this;simp <;> omega
   intro v3 w3 Za hc3 ho3 hg3 ACJ;have HB3:AI (AK wl w3):=AA (VL.o.grown hg3 VL.o.size (fun k hk=>(jV.o.lt k hk).1));have I4:=AA ho3;have WY:=AA hc3;clear hc3 ho3 hg3 ACJ;go_wp2_with fail;go_roundg (2 - (0+1))
   case measure=>exact BS
   case rel=>exact ⟨0+1,cs++Za,v3,by omega,rfl,by go_num,rfl,Dc HX.o dg.o EC.o,by rw [take_snoc HX.o,N8,CQ];simp only [Mt,U9.o,Ms,YU];exact I4.o,by rw [take_snoc HX.o,N8];simp only [Mt,U9.o,Ms];exact Aq.append HC.o WY.o,HB3.o⟩
 ·subst h0
  obtain ⟨kA,kB,kL⟩:=Zo.o wr C4.o;obtain ⟨a0,a1,a2,a3,a4,a5,a6,a7,a8,a9,a10⟩:=kA.eleven;have t0:=kL.cell 5;have t1:=kL.cell 6;have t2:=kL.cell 7;have t3:=kL.cell 8;have t4:=kL.cell 9;simp only [Ak,Al,Az] at t0 t1 t2 t3 t4;have lA:=kA.lt;have lL:=kL.lt;clear kA kB kL;have HX:AI ([ta,tb][1]? =some tb):=AA rfl;have HT:=AA (fun o=>O8.o tb (wr.alloc o) (JH.o.alloc JH.o.size o));obtain ⟨x,hx⟩:=BP (Ka ss fs tb);have U9:=AA hx;rw [hx] at HT;have pI:AI (∀W,BI (wr.alloc (AO #[AL tb.name,AL tb.path,AE AF tb.var,AE AF tb.field,AE AF tb.n] 279)).heap.size (wr.alloc (AO #[AL tb.name,AL tb.path,AE AF tb.var,AE AF tb.field,AE AF tb.n] 279)) W->AZ W wr.heap.size 279 #[AL tb.name,AL tb.path,AE AF tb.var,AE AF tb.field,AE AF tb.n]):=AA (fun W h=>(AZ.new wr _ _).below h AX);clear hx;cases x with
  |
   none=>
   go_wp2_with (go_at_call 219;refine (HT.o _).mono ?_;clear HT);rintro e w2 ⟨⟨B,m',d',rfl,hs⟩,hb2⟩;obtain ⟨t0,t1,t2,t3,t4⟩:=(pI.o w2 hb2).five;have lT:wr.heap.size < w2.heap.size:=Au AX hb2.size;have HB2:AI (AK wl w2):=AA ((C4.o.alloc C4.o.size _).trans (hb2.mono OD));have Jc:=AA (Ch (HO.o.alloc _) hb2);have HC2:AI (Aq 6 (fun _=>NV w0) w2 cs (([ta,tb].take 1).filterMap (Ka ss fs))):=AA HC.o;clear hs hb2 pI a0 a1 a2 a3 a4 a5 a6 a7 a8 a9 a10 lA lL;simp only [Gv];obtain ⟨v,hv⟩:=BP (isNum tb);have HV:=AA hv;have HN:AI (∀o,AS prog 220 #[AP #[AL tb.name,AL tb.path,AE AF tb.var,AE AF tb.field,AE AF tb.n]] (w2.alloc o) fun e w'=>e=AU (Ab v)/\BI (w2.alloc o).heap.size (w2.alloc o) w'):=AA (fun o=>by have:=Rt tb (w2.alloc o);rw [hv] at this;exact this)
   clear hv;go_wp2_with (go_at_call 220;refine (HN.o _).mono ?_;clear HN);rintro e w3 ⟨rfl,hb3⟩;have HB3:AI (AK wl w3):=AA ((HB2.o.alloc HB2.o.size _).trans (hb3.mono UN));have I4:=AA (Ch (Jc.o.alloc _) hb3);clear hb3 t0 t1 t2 t3 t4 lT;have dg:AI (Qf ss fs tb=v):=AA (by rw [Qf,U9.o,HV.o];rfl);cases v with
   |
    false=>
    have HE:AI (R=false):=AA (by rw [HR2.o,dg.o];simp);go_wp2_with fail;go_ret;exact ⟨Ay HE.o.symm,AV iC.o HB3.o⟩
   |
    true=>
    go_wp2_with fail;go_roundg (2 - (1+1))
    case measure=>exact BS
    case rel=>exact ⟨1+1,cs,tv,by omega,rfl,by go_num,rfl,Dc HX.o dg.o EC.o,by rw [take_snoc HX.o,N8];simp only [Mt,U9.o,Ms,FK];exact I4.o,by rw [take_snoc HX.o,N8];simp only [Mt,U9.o,Ms,FK];exact HC2.o,HB3.o⟩
  |
   some y=>
   obtain ⟨yk,yl,yh,yf,yu,yn⟩:=y;go_wp2_with (go_at_call 219;refine (HT.o _).mono ?_;clear HT);rintro e w2 ⟨⟨B,m',d',rfl,hs⟩,hb2⟩;have HS:=AA hs;have HB2:AI (AK wl w2):=AA ((C4.o.alloc C4.o.size _).trans (hb2.mono OD));have Jc:=AA (Ch (HO.o.alloc _) hb2);clear hs hb2 pI a0 a1 a2 a3 a4 a5 a6 a7 a8 a9 a10 lA lL t0 t1 t2 t3 t4;simp only [Fh,Cc];simp only [Cc] at HS;have dg:AI (Qf ss fs tb=true):=AA (by rw [Qf,U9.o];rfl);obtain ⟨wt,hwt⟩:=Ad ((w2.alloc (AO #[AE AF yk,AE AF yl,AE AF yh,AL yf,AE AF yu,AB B m' d'] 109)).alloc (AO #[AE AF yk,AE AF yl,AE AF yh,AL yf,AE AF yu,AB B m' d'] 109));have jV:AI (wt.ownsRow wl.heap.size 109 6 _ _ cs):=AA rT;have Ml:AI (Ag 6 (fun _=>NV w0) wt (AB (some ⟨w2.heap.size+1,0,none⟩) 1 1) [⟨yk,yl,yh,yf,yu,yn⟩]):=AA sJ;have VL:AI (AK wl wt):=AA sH;have HWT:=AA hwt;clear hwt;go_wp2_with (at_builtin;rw [<-HWT.o];refine CU wt rfl (AY 49) (AY 51) 351 109 rfl j0 _ 72 underlying351 HJ.o.1 HJ.o.2.1 HJ.o.2.2.1 HJ.o.2.2.2 rfl Ah (R:=fun _=>NV w0) (fun _=>cE w0) wl.heap.size _ (([ta,tb].take 1).filterMap (Ka ss fs)).length cs rfl jV.o (some ⟨w2.heap.size+1,0,none⟩) 1 1 [⟨yk,yl,yh,yf,yu,yn⟩] rfl Ml.o ?hn ?hb VL.o.size ?_)
   case hn=>have:=Ty (Ka ss fs) ([ta,tb].take 1);simp at this;unfold maxLen;simp <;> omega
   case hb=>have:=Ty (Ka ss fs) ([ta,tb].take 1);simp at this;simp <;> omega
   intro v3 w3 Za hc3 ho3 hg3 ACJ;have HB3:AI (AK wl w3):=AA (VL.o.grown hg3 VL.o.size (fun k hk=>(jV.o.lt k hk).1));have I4:=AA ho3;have WY:=AA hc3;clear hc3 ho3 hg3 ACJ;go_wp2_with fail;go_roundg (2 - (1+1))
   case measure=>exact BS
   case rel=>exact ⟨1+1,cs++Za,v3,by omega,rfl,by go_num,rfl,Dc HX.o dg.o EC.o,by rw [take_snoc HX.o,N8,CQ];simp only [Mt,U9.o,Ms,YU];exact I4.o,by rw [take_snoc HX.o,N8];simp only [Mt,U9.o,Ms];exact Aq.append HC.o WY.o,HB3.o⟩
 subst h0;obtain ⟨T,hT⟩:∃T,[ta,tb].filterMap (Ka ss fs)=T:=⟨_,rfl⟩;have R8:AI (T.length<=2):=AA (by rw [<-hT];exact Ty _ _);have HTU:AI (∀y∈T,QM n2 y):=AA (fun y hy=>by rw [<-hT] at hy;obtain ⟨t,_,ht⟩:=List.mem_filterMap.1 hy;exact HUN.o t y ht)
 have hsl:Ag 6 (fun _=>NV w0) wr tv T:=CW (by have:=HO.o;rwa [show [ta,tb].take 2=[ta,tb] from rfl,hT] at this) (by have:=HC.o;rwa [show [ta,tb].take 2=[ta,tb] from rfl,hT] at this) rfl;have HSL:=AA hsl;obtain ⟨TA,tc,rfl,hl1,hl2,hl3⟩:=hsl;have HR3:AI (R=(!T.isEmpty && Me us T && T.all (TS op))):=AA (by have:=EC.o;simp only [List.take,N3,List.all_nil,Bool.and_true] at this;rw [HR2.o,hT,this,JI])
 obtain ⟨kA,kB,kL⟩:=Zo.o wr C4.o;obtain ⟨a0,a1,a2,a3,a4,a5,a6,a7,a8,a9,a10⟩:=kA.eleven;have lA:=kA.lt;clear HR2 hT HO HC EC O8 HQ HUN hl1 hl2 hl3 kA kB kL;obtain ⟨wy,rfl⟩:=Ad wr;obtain ⟨bv,hbv⟩:=BP ((T.isEmpty || !Me us T));have VK:=AA hbv;clear hbv;go_upto_region 13 with fail;go_cut [73] from 54 (fun v73 wx=>v73=Ab bv/\AK wy wx)
 case first=>
  have xN:AI (AK wy wy):=AA (Ae _ _)
  match T,R8,HTU,HSL,VK with
  |
   [],_,_,_,VK=>
   simp only [PU];clear a0 a1 a2 a3 a4 a5 a6 a7 a8 a9 a10;go_quiet (fail);go_wp2_with fail
   go_meet
   exact ⟨by rw [<-VK.o];rfl,below_drewN xN.o _⟩
  |
   [y],_,_,_,VK=>
   simp only [YU];clear a0 a1 a2 a3 a4 a5 a6 a7 a8 a9 a10;go_quiet (fail);go_wp2_with fail
   go_meet
   exact ⟨by rw [<-VK.o];rfl,below_drewN xN.o _⟩
  |
   [y,z],_,HTU,HSL,VK=>
   obtain ⟨g1,o1,y',ys,e,hgl,hy,hyl,MR,hyR⟩:=HSL.o.at_ (k:=0) AX;obtain ⟨g2,o2,z',zs,e',_,hz,hzl,hzc,hzR⟩:=HSL.o.at_ (k:=1) AX;simp only [Al,Az,Bu] at hy hz;subst hy hz e;injection e' with e';injection e' with e1 e2;subst e1 e2;obtain ⟨yB,ym,yd,rfl,hyn⟩:=hyR;obtain ⟨zB,zm,zd,rfl,hzn⟩:=hzR;have y0:=MR 0 _ rfl;have y1:=MR 1 _ rfl;have y2:=MR 2 _ rfl;have y3:=MR 3 _ rfl;have y4:=MR 4 _ rfl;have y5:=MR 5 _ rfl;have z0:=hzc 0 _ rfl;have z1:=hzc 1 _ rfl;have z2:=hzc 2 _ rfl;have z3:=hzc 3 _ rfl;have z4:=hzc 4 _ rfl;have z5:=hzc 5 _ rfl;simp only [Qy,Nat.one_mul,EO,Fc,Nat.reduceAdd] at y0 y1 y2 y3 y4 y5 z0 z1 z2 z3 z4 z5;clear MR hzc hyl hzl;have HS:AI (∀W,AK wy W->W.cell? ⟨ga,0,none⟩=some (AB A1 n1 c1)/\W.cell? ⟨ga,1,none⟩=some (AB A2 n2 c2)/\W.cell? ⟨ga,2,none⟩=some (AB A3 n3 c3)/\W.cell? ⟨ga,3,none⟩=some (AB A4 n4 c4)/\W.cell? ⟨ga,4,none⟩=some (AB A5 n5 c5)/\W.cell? ⟨ga,5,none⟩=some (AB A6 n6 c6)/\
    W.cell? ⟨g1,o1,none⟩=some (AE AF y.kind)/\W.cell? ⟨g1,o1+1,none⟩=some (AE AF y.lo)/\W.cell? ⟨g1,o1+2,none⟩=some (AE AF y.hi)/\W.cell? ⟨g1,o1+3,none⟩=some (AL y.An)/\W.cell? ⟨g1,o1+4,none⟩=some (AE AF y.unit)/\W.cell? ⟨g1,o1+5,none⟩=some (AB yB ym yd)/\
    W.cell? ⟨g1,o1+6,none⟩=some (AE AF z.kind)/\W.cell? ⟨g1,o1+7,none⟩=some (AE AF z.lo)/\W.cell? ⟨g1,o1+8,none⟩=some (AE AF z.hi)/\W.cell? ⟨g1,o1+9,none⟩=some (AL z.An)/\W.cell? ⟨g1,o1+10,none⟩=some (AE AF z.unit)/\W.cell? ⟨g1,o1+11,none⟩=some (AB zB zm zd)):=AA (fun W hW=>
    ⟨(
     hW.cell (p:=⟨_,_,none⟩) lA).trans a0,(hW.cell (p:=⟨_,_,none⟩) lA).trans a1,(hW.cell (p:=⟨_,_,none⟩) lA).trans a2,(hW.cell (p:=⟨_,_,none⟩) lA).trans a3,(hW.cell (p:=⟨_,_,none⟩) lA).trans a4,(hW.cell (p:=⟨_,_,none⟩) lA).trans a5,
     (hW.cell (p:=⟨_,_,none⟩) hgl).trans y0,(hW.cell (p:=⟨_,_,none⟩) hgl).trans y1,(hW.cell (p:=⟨_,_,none⟩) hgl).trans y2,(hW.cell (p:=⟨_,_,none⟩) hgl).trans y3,(hW.cell (p:=⟨_,_,none⟩) hgl).trans y4,(hW.cell (p:=⟨_,_,none⟩) hgl).trans y5,
     (hW.cell (p:=⟨_,_,none⟩) hgl).trans z0,(hW.cell (p:=⟨_,_,none⟩) hgl).trans z1,(hW.cell (p:=⟨_,_,none⟩) hgl).trans z2,(hW.cell (p:=⟨_,_,none⟩) hgl).trans z3,(hW.cell (p:=⟨_,_,none⟩) hgl).trans z4,(hW.cell (p:=⟨_,_,none⟩) hgl).trans z5⟩)
   obtain ⟨vc,tS⟩:=BP (Ky us y z);have HVC:AI (Me us [y,z]=vc):=AA tS;have HCM:AI (AS prog 221 #[(AP #[AB A1 n1 c1,AB A2 n2 c2,AB A3 n3 c3,AB A4 n4 c4,AB A5 n5 c5,AB A6 n6 c6]),AP #[AE AF y.kind,AE AF y.lo,AE AF y.hi,AL y.An,AE AF y.unit,AB yB ym yd],AP #[AE AF z.kind,AE AF z.lo,AE AF z.hi,AL z.An,AE AF z.unit,AB zB zm zd]] wy.drew fun e w'=>e=AU (Ab vc)/\AK wy w'):=AA (by have:=gM A1 A2 A3 A4 A5 A6 n1 c1 n2 c2 n3 c3 n4 c4 n5 c5 n6 c6 y z yB zB ym yd zm zd us wy.drew (H2.o.mono Bp JH.o.drew) (hyn.1.mono BV JH.o.drew) (hzn.1.mono BV JH.o.drew) (HTU.o y AX) (HTU.o z AX);rw [tS] at this;exact this.mono fun _ _ h=>⟨h.1,(Ae wy.heap.size wy).drew.trans h.2⟩)
   clear tS hyn hzn y0 y1 y2 y3 y4 y5 z0 z1 z2 z3 z4 z5 a0 a1 a2 a3 a4 a5 a6 a7 a8 a9 a10;simp only [Gw,PU,Fc,Nat.reduceAdd]
   go_region_held3 (fun W=>W.cell? ⟨ga,0,none⟩=some (AB A1 n1 c1)/\W.cell? ⟨ga,1,none⟩=some (AB A2 n2 c2)/\W.cell? ⟨ga,2,none⟩=some (AB A3 n3 c3)/\W.cell? ⟨ga,3,none⟩=some (AB A4 n4 c4)/\W.cell? ⟨ga,4,none⟩=some (AB A5 n5 c5)/\W.cell? ⟨ga,5,none⟩=some (AB A6 n6 c6)/\
    W.cell? ⟨g1,o1,none⟩=some (AE AF y.kind)/\W.cell? ⟨g1,o1+1,none⟩=some (AE AF y.lo)/\W.cell? ⟨g1,o1+2,none⟩=some (AE AF y.hi)/\W.cell? ⟨g1,o1+3,none⟩=some (AL y.An)/\W.cell? ⟨g1,o1+4,none⟩=some (AE AF y.unit)/\W.cell? ⟨g1,o1+5,none⟩=some (AB yB ym yd)/\
    W.cell? ⟨g1,o1+6,none⟩=some (AE AF z.kind)/\W.cell? ⟨g1,o1+7,none⟩=some (AE AF z.lo)/\W.cell? ⟨g1,o1+8,none⟩=some (AE AF z.hi)/\W.cell? ⟨g1,o1+9,none⟩=some (AL z.An)/\W.cell? ⟨g1,o1+10,none⟩=some (AE AF z.unit)/\W.cell? ⟨g1,o1+11,none⟩=some (AB zB zm zd))
    (first | with_reducible exact HS.o _ xN.o | with_reducible exact HS.o _ xN.o.drew | with_reducible exact HS.o _ hb3)
    (first
     | (go_at_call 221;refine HCM.o.mono ?_;rintro e w3 ⟨rfl,hb3⟩))
   have HB3:=AA hb3;clear hb3;go_wp2_with fail
   go_meet
   exact ⟨by rw [<-VK.o,HVC.o];cases vc <;> rfl,HB3.o⟩
  | _::_::_::_,R8,_,_,_=>exact absurd R8.o AX
 obtain ⟨rfl,hbx⟩:=hcut;have PI:=AA hbx;clear hbx a0 a1 a2 a3 a4 a5 a6 a7 a8 a9 a10 lA;have SP:AI (AK wl wc):=AA (AV C4.o PI.o);cases bv with
 |
  true=>
  have HE:AI (R=false):=AA (by rw [HR3.o];have:=VK.o;cases h1:T.isEmpty <;> cases h2:Me us T <;> simp [h1,h2] at this ⊢)
  go_wp2_with fail;go_ret;exact ⟨Ay HE.o.symm,AV iC.o SP.o⟩
 |
  false=>
  have HE:AI (R=T.all (TS op)):=AA (by rw [HR3.o];have:=VK.o;cases h1:T.isEmpty <;> cases h2:Me us T <;> simp [h1,h2] at this ⊢)
  have hTn:T.length<=9223372036854775807:=by have:=R8.o;omega
  go_wp2_with fail;go_loopg [76] T.length (fun q i wr=>∃k:Nat,k<=T.length/\q=T.length - k/\i=AE AF k/\(T.take k).all (TS op)=true/\AK wc wr)
  case atStart=>exact Lc
  obtain ⟨k,hk,hq,rfl,hall,hb⟩:=hrel;have HQ:=AA hq;have EC:=AA hall;have HB2:=AA hb;have iD:AI (AK wl wr):=AA (AV SP.o hb);clear hq hall hb;by_cases hlt:k < T.length
  case neg=>
   have HT:AI (R=true):=by have:=EC.o;rw [Cu AG] at this;exact AA (by rw [HE.o,this])
   go_wp2_with fail;go_ret;exact ⟨Ay HT.o.symm,AV iC.o iD.o⟩
  obtain ⟨g1,o1,y,ys,e,hgl,hy,hyl,MR,hyR⟩:=(HSL.o.mono Aj (AV PI.o HB2.o)).at_ hlt;subst e;obtain ⟨yB,ym,yd,rfl,hyn⟩:=hyR;have y0:=MR 0 _ rfl;have y1:=MR 1 _ rfl;have y2:=MR 2 _ rfl;have y3:=MR 3 _ rfl;have y4:=MR 4 _ rfl;have y5:=MR 5 _ rfl;simp only [EO,<-Km] at y0 y1 y2 y3 y4 y5;have hk0:=Int.natCast_nonneg k
  have hk1:(k:Int) < (T.length:Int):=AG
  have HY:=AA hy;have tx:AI (TS op y=(!((op==2) || (op==3)) || ((y.kind==1) || (y.kind==2)))):=AA rfl;clear hy MR hyl hyn;cases u1:(y.kind==1) <;> cases u2:(y.kind==2) <;> cases u3:(op==2) <;> cases u4:(op==3) <;>
   (
    have hoy:=tx.o;rw [u1,u2,u3,u4] at hoy;have AGT:=AA hoy;clear hoy;obtain ⟨kA,kB,kL⟩:=Zo.o wr iD.o;have p0:=kB.cell 0;have lB:=kB.lt;simp only [Ak,Al] at p0;clear kA kB kL;go_wp2_with fail
    first
     | (go_ret;exact ⟨Ay (by rw [HE.o,JX HY.o AGT.o]),AV iC.o (iD.o.alloc iD.o.size _)⟩)
     | (
      go_roundg (T.length - (k+1))
      case measure=>exact BS
      case rel=>exact ⟨k+1,by omega,rfl,by go_num,Dc HY.o AGT.o EC.o,HB2.o.alloc HB2.o.size _⟩))
theorem ABr:(prog.info? 3).map (fun i=>(i.zero,i.size,i.bytes))=some (some (AE AF 0),1,8):=by kernel_rfl
theorem uV (F1 F2 F3:Option Aa) (m1 d1 m2 d2 m3 d3:Nat) (hd:ByteArray) (Dv:Int) (JE:List B0) (UW:List IL) (JS:List L0) (us:List Bt) (ss:List BL) (w0 w:AH) (hb0:AK w0 w) (h2:Ag 5 CD w0 (AB A2 n2 c2) us) (h3:Ag 6 BU w0 (AB A3 n3 c3) ss)
 (hf:Ag 8 DH w0 (AB F1 m1 d1) JE) (hwh:Ag 11 EH w0 (AB F2 m2 d2) UW) (hse:BT 7 80 GZ w0 (AB F3 m3 d3) JS) (hU:∀x∈ss,∀f∈x.fields,QM n2 f.type):
 AS prog 105 #[(AP #[AB A1 n1 c1,AB A2 n2 c2,AB A3 n3 c3,AB A4 n4 c4,AB A5 n5 c5,AB A6 n6 c6,AL hd,AE AF Dv,AB F1 m1 d1,AB F2 m2 d2,AB F3 m3 d3])] w fun e w'=>e=AU (Ab (Iw us ss ⟨hd,Dv,JE,UW,JS⟩))/\AK w w':=by
 have hm2:m2<=9223372036854775807:=by have:=hwh.le;omega
 have Dm:m3<=2000000000000:=by have:=hse.2;have:=hse.1.len;omega
 have hn3:n3<=9223372036854775807:=by have:=h3.le;omega
 obtain ⟨j0,hj,aR,aQ,aP⟩:=Kh ABr;have HJ:=AA (And.intro hj (And.intro aR (And.intro aQ aP)));clear hj aR aQ aP;have Zj:=AA hwh.len;have jZ:=AA hse.1.len;have IB:=AA h3.len;have BG:AI (AK w (w.alloc (AO #[AB A1 n1 c1,AB A2 n2 c2,AB A3 n3 c3,AB A4 n4 c4,AB A5 n5 c5,AB A6 n6 c6,AL hd,AE AF Dv,AB F1 m1 d1,AB F2 m2 d2,AB F3 m3 d3] 197))):=AA (BE _ _);have HA:AI (AZ (w.alloc (AO #[AB A1 n1 c1,AB A2 n2 c2,AB A3 n3 c3,AB A4 n4 c4,AB A5 n5 c5,AB A6 n6 c6,AL hd,AE AF Dv,AB F1 m1 d1,AB F2 m2 d2,AB F3 m3 d3] 197)) w.heap.size 197 #[AB A1 n1 c1,AB A2 n2 c2,AB A3 n3 c3,AB A4 n4 c4,AB A5 n5 c5,AB A6 n6 c6,AL hd,AE AF Dv,AB F1 m1 d1,AB F2 m2 d2,AB F3 m3 d3]):=AA (AZ.new _ _ _);have je:AI (∀W,AK w0 W->AS prog 166 #[(AP #[AB A1 n1 c1,AB A2 n2 c2,AB A3 n3 c3,AB A4 n4 c4,AB A5 n5 c5,AB A6 n6 c6,AL hd,AE AF Dv,AB F1 m1 d1,AB F2 m2 d2,AB F3 m3 d3])] W fun e w'=>e=AU (Ab (Hw ss JE))/\AK W w'):=AA (fun W hW=>qf A1 A2 A3 A4 A5 A6 n1 c1 n2 c2 n3 c3 n4 c4 n5 c5 n6 c6 F1 F2 F3 m1 d1 m2 d2 m3 d3 hd Dv ss JE w0 W hW h3 hf);have HAT:AI (∀(a:IL) W,AK w0 W->AS prog 167 #[(AP #[AB A1 n1 c1,AB A2 n2 c2,AB A3 n3 c3,AB A4 n4 c4,AB A5 n5 c5,AB A6 n6 c6,AL hd,AE AF Dv,AB F1 m1 d1,AB F2 m2 d2,AB F3 m3 d3]),AP #[AE AF a.op,AL a.a.name,AL a.a.path,AE AF a.a.var,AE AF a.a.field,AE AF a.a.n,AL a.b.name,AL a.b.path,AE AF a.b.var,AE AF a.b.field,AE AF a.b.n]] W fun e w'=>e=AU (Ab (Md us ss JE a))/\AK W w'):=AA (fun a W hW=>wI A1 A2 A3 A4 A5 A6 n1 c1 n2 c2 n3 c3 n4 c4 n5 c5 n6 c6 F1 F2 F3 m1 d1 m2 d2 m3 d3 hd Dv a us ss JE w0 W hW h2 h3 hf hU);have jP:AI (∀(s f:Int) W,AK w0 W->AS prog 65 #[(AP #[AB A1 n1 c1,AB A2 n2 c2,AB A3 n3 c3,AB A4 n4 c4,AB A5 n5 c5,AB A6 n6 c6]),AE AF s,AE AF f] W (OT (typeAt ss s f) w0 W)):=AA (fun s f W hW=>Qr A1 A2 A3 A4 A5 A6 n1 c1 n2 c2 n3 c3 n4 c4 n5 c5 n6 c6 s f ss w0 W hW h3);have jQ:AI (∀(f:Fa) (t:Du) (B:Option Aa) (m d:Nat) W,AK w0 W->BT 1 16 DQ w0 (AB B m d) f.names->AS prog 168 #[(AP #[AB A1 n1 c1,AB A2 n2 c2,AB A3 n3 c3,AB A4 n4 c4,AB A5 n5 c5,AB A6 n6 c6,AL hd,AE AF Dv,AB F1 m1 d1,AB F2 m2 d2,AB F3 m3 d3]),AP #[AE AF f.kind,AE AF f.lo,AE AF f.hi,AL f.An,AE AF f.unit,AB B m d],AP #[AL t.name,AL t.path,AE AF t.var,AE AF t.field,AE AF t.n]] W fun e w'=>e=AU (Ab (VW ss JE f t))/\AK W w'):=AA (fun f t B m d W hW hn=>yx A1 A2 A3 A4 A5 A6 n1 c1 n2 c2 n3 c3 n4 c4 n5 c5 n6 c6 F1 F2 F3 m1 d1 m2 d2 m3 d3 hd Dv f t B m d ss JE w0 W hW h3 hf hn);have H3:=AA h3;have dY:=AA hwh;have S4:=AA hse.1;have HB0:=AA hb0;clear h2 h3 hf hwh hse hb0 hU;obtain ⟨R,hR⟩:∃R,Iw us ss ⟨hd,Dv,JE,UW,JS⟩=R:=⟨_,rfl⟩;have HR:AI (R=(Hw ss JE && decide (UW.length<=8) && UW.all (Md us ss JE) && decide (0<=Dv) && ((ss[Dv.toNat]?).any fun h=>decide (JS.length+1=h.fields.length)) && JS.all (Ks ss JE Dv) && Dk [] (JS.map fun s=>s.field))):=AA (by rw [<-hR];rfl);rw [hR];clear hR;go_enter func105,ntmps105;go_upto_region 1 with fail;generalize w.alloc (AO #[AB A1 n1 c1,AB A2 n2 c2,AB A3 n3 c3,AB A4 n4 c4,AB A5 n5 c5,AB A6 n6 c6,AL hd,AE AF Dv,AB F1 m1 d1,AB F2 m2 d2,AB F3 m3 d3] 197)=wb at *;obtain ⟨ga,hga⟩:=Ad w.heap.size;rw [<-hga] at HA ⊢;clear hga;have lA:=HA.o.lt;obtain ⟨a0,a1,a2,a3,a4,a5,a6,a7,a8,a9,a10⟩:=HA.o.eleven;obtain ⟨vf,hvf⟩:=BP (Hw ss JE);have HC:=AA (je.o wb (AV HB0.o BG.o));rw [hvf] at HC;have dZ:=AA hvf;clear hvf je;go_wp2_with (go_at_call 166;refine HC.o.mono ?_;clear HC);rintro e w1 ⟨rfl,hb1⟩;have HB1:=AA hb1;clear hb1 a0 a1 a2 a3 a4 a5 a6 a7 a8 a9 a10;cases vf with
 |
  false=>
  have HE:AI (R=false):=AA (by rw [HR.o,dZ.o];rfl);go_wp2_with fail;go_ret;exact ⟨Ay HE.o.symm,AV BG.o HB1.o⟩
 | true=>
 obtain ⟨a0,a1,a2,a3,a4,a5,a6,a7,a8,a9,a10⟩:=(HA.o.below HB1.o lA).eleven;have lA1:=Au lA HB1.o.size;by_cases h8:(8:Int) < (m2:Int)
 ·have HE:AI (R=false):=AA (by
   rw [HR.o,<-Zj.o];have:decide (m2<=8)=false:=Bc AG;rw [this,YG];rfl)
  go_wp2_with fail;go_ret;exact ⟨Ay HE.o.symm,AV BG.o HB1.o⟩
 have HR2:AI (R=(UW.all (Md us ss JE) && decide (0<=Dv) && ((ss[Dv.toNat]?).any fun h=>decide (JS.length+1=h.fields.length)) && JS.all (Ks ss JE Dv) && Dk [] (JS.map fun s=>s.field))):=AA (by rw [HR.o,dZ.o,BR (by have:=Zj.o;omega)];simp only [JI])
 clear HR dZ;go_wp2_with fail;clear a0 a1 a2 a3 a4 a5 a6 a7 a8 a9 a10;go_loopg [25] m2 (fun q i wr=>∃k:Nat,k<=m2/\q=m2 - k/\i=AE AF k/\(UW.take k).all (Md us ss JE)=true/\AK wb wr)
 case atStart=>exact ⟨0,Av _,rfl,rfl,rfl,HB1.o⟩
 clear HB1 lA1;obtain ⟨k,hk,hq,rfl,hall,hb⟩:=hrel;have HQ:=AA hq;have EC:=AA hall;have C4:=AA hb;have CO:AI (AK w wr):=AA (AV BG.o hb);have JH:AI (AK w0 wr):=AA (AV HB0.o CO.o);obtain ⟨a0,a1,a2,a3,a4,a5,a6,a7,a8,a9,a10⟩:=(HA.o.below hb lA).eleven;have tO:=Au lA hb.size;clear hq hall hb;by_cases hlt:k < m2
 ·obtain ⟨b,off,x,hF,hbl,hx,e0,e1,e2,e3,e4,e5,e6,e7,e8,e9,e10⟩:=Z8 (dY.o.mono FG JH.o) hlt
  subst hF;have hk0:=Int.natCast_nonneg k
  have hk1:(k:Int) < (m2:Int):=AG
  have HX:=AA hx;obtain ⟨v,hv⟩:=BP (Md us ss JE x);have HV:=AA hv;have HC:=AA (fun o=>HAT.o x (wr.alloc o) (JH.o.alloc JH.o.size o));rw [hv] at HC;clear hv hx;go_wp2_with (go_at_call 167;refine (HC.o _).mono ?_;clear HC);rintro e w2 ⟨rfl,hb2⟩;have HB2:AI (AK wb w2):=AA ((C4.o.alloc C4.o.size _).trans (hb2.mono OD));clear hb2 a0 a1 a2 a3 a4 a5 a6 a7 a8 a9 a10 e0 e1 e2 e3 e4 e5 e6 e7 e8 e9 e10;cases v with
  |
   false=>
   have HE:AI (R=false):=AA (by rw [HR2.o,JX HX.o HV.o];rfl);go_wp2_with fail;go_ret;exact ⟨Ay HE.o.symm,AV BG.o HB2.o⟩
  |
   true=>
   go_wp2_with fail;go_roundg (m2 - (k+1))
   case measure=>exact BS
   case rel=>exact ⟨k+1,by omega,rfl,by go_num,Dc HX.o HV.o EC.o,HB2.o⟩
 have HT:AI (UW.all (Md us ss JE)=true):=by have:=EC.o;rw [Cu (by have:=Zj.o;omega)] at this;exact AA this
 have HR3:AI (R=(decide (0<=Dv) && ((ss[Dv.toNat]?).any fun h=>decide (JS.length+1=h.fields.length)) && JS.all (Ks ss JE Dv) && Dk [] (JS.map fun s=>s.field))):=AA (by rw [HR2.o,HT.o,JI]);obtain ⟨wy,rfl⟩:=Ad wr;clear HR2 EC HT HQ HAT dY;by_cases hs0:Dv < 0
 ·have HE:AI (R=false):=AA (by rw [HR3.o,Bc AG];rfl)
  have hd0:decide (Dv < 0)=true:=BR hs0;exact xj
 by_cases hs1:(n3:Int)<=Dv
 ·have HE:AI (R=false):=AA (by
   rw [HR3.o,DT Yj];simp)
  have hd0:decide (Dv < 0)=false:=Bc hs0;have hd1:decide ((n3:Int)<=Dv)=true:=BR hs1;exact xj
 obtain ⟨i,rfl⟩:∃i:Nat,Dv=i:=⟨Dv.toNat,by omega⟩;obtain ⟨g1,o1,x,FA,fn,fc,DA,dn,dc,hA3,hbl,hx,e0,e1,e2,e3,e4,e5,hF,hD⟩:=Fx (H3.o.mono BM JH.o) (k:=i) AG;subst hA3;have hfn:fn<=9000000000000:=by have:=hF.2;have:=hF.1.len;omega
 have Li:=AA hF.1.len;have HR4:AI (R=(decide (JS.length+1=x.fields.length) && JS.all (Ks ss JE i) && Dk [] (JS.map fun s=>s.field))):=AA (by rw [HR3.o,BR AG,Cm,hx];rfl)
 have hd0:decide ((i:Int) < 0)=false:=Bc hs0;have hd1:decide (n3<=i)=false:=Bc AG;have hi0:(0:Int)<=(i:Int):=AG
 have hi1:(i:Int) < (n3:Int):=AG
 clear HR3 e0 e1 e2 e3 e5 hF hD hx hs0 hs1;cases q1:((m3:Int) !=(fn:Int) - 1) with
 |
  true=>
  have HE:AI (R=false):=AA (by simp at q1;rw [HR4.o,Bc rC];rfl)
  go_upto_region 10 with fail;go_quiet (fail);go_wp2_with fail;go_ret;exact ⟨Ay HE.o.symm,below_drewN CO.o _⟩
 | false=>
 have S6:AI (R=(JS.all (Ks ss JE i) && Dk [] (JS.map fun s=>s.field))):=AA (by simp at q1;rw [HR4.o,BR rC,JI])
 clear HR4;go_upto_region 10 with fail;go_quiet (fail);have Mp:AI (AK wb (wy.drewN nq)):=AA (below_drewN C4.o _);generalize wy.drewN nq=wq at *;have PI:AI (AK w wq):=AA (AV BG.o Mp.o);clear a0 a1 a2 a3 a4 a5 a6 a7 a8 a9 a10 e4 hbl tO q1 C4 CO JH;obtain ⟨a0,a1,a2,a3,a4,a5,a6,a7,a8,a9,a10⟩:=(HA.o.below Mp.o lA).eleven;have lAq:=Au lA Mp.o.size;go_wp2_with fail;clear a0 a1 a2 a3 a4 a5 a6 a7 a8 a9 a10 lAq;go_loopg [6,69] m3 (fun q v6 i6 wr=>∃(k:Nat) (tv:AN),k<=m3/\q=m3 - k/\i6=AE AF k/\tv=v6/\(JS.take k).all (Ks ss JE i)=true/\wr.ownsRow wq.heap.size 3 1 tv k (((JS.take k).map fun s=>s.field).map (Value.int .i64))/\AK wq wr)
 case atStart=>exact ⟨0,AB none 0 0,Av _,rfl,rfl,rfl,rfl,Ev _ _ _ _,Ae _ _⟩
 obtain ⟨k,tv,hk,hq,rfl,rfl,hall,ho,hb⟩:=hrel;have HQ:=AA hq;have EC:=AA hall;have HO:=AA ho;have C4:=AA hb;have Qp:AI (AK wb wr):=AA (AV Mp.o hb);have CO:AI (AK w wr):=AA (AV PI.o hb);have JH:AI (AK w0 wr):=AA (AV HB0.o CO.o);clear hq hall ho hb;by_cases hlt:k < m3
 case neg=>
  have VH:AI (k=m3):=AA AG;have hfull:JS.take k=JS:=Cu (by have:=jZ.o;omega);have HE:AI (R=Dk [] (JS.map fun s=>s.field)):=AA (by have:=EC.o;rw [hfull] at this;rw [S6.o,this,JI])
  have hsl:Ag 1 iR wr tv (JS.map fun s=>s.field):=by have:=HO.o;rw [hfull] at this;exact M6 this
  obtain ⟨TA,tc,hform⟩:∃TA tc,tv=AB TA k tc:=by obtain ⟨TA,tc,e,_⟩:=hsl;exact ⟨TA,tc,by rw [e,Cb,<-jZ.o,VH.o]⟩
  subst hform;obtain ⟨v,hv⟩:∃v,Dk [] (JS.map fun s=>s.field)=v:=⟨_,rfl⟩;have HD:AI (AS prog 169 #[AB TA k tc] wr fun e w'=>e=AU (Ab v)/\AK wr w'):=AA (by have:=ae TA k tc (JS.map fun s=>s.field) wr hsl;rw [hv] at this;exact this)
  have HE2:AI (R=v):=AA (HE.o.trans hv);clear hsl hv hfull;go_wp2_with (go_at_call 169;refine HD.o.mono ?_;clear HD);rintro e w2 ⟨rfl,hb2⟩;have HB2:=AA (AV CO.o hb2);clear hb2;go_wp2_with fail;go_ret;exact ⟨Ay HE2.o.symm,HB2.o⟩
 obtain ⟨b,off,s,hS,hbl,hx,e0,e1,e2,e3,e4,e5,e6⟩:=fT (S4.o.mono Fw JH.o) hlt;subst hS;have hk0:=Int.natCast_nonneg k
 have hk1:(k:Int) < (m3:Int):=AG
 have HX:=AA hx;clear hx;obtain ⟨sp,sf,st⟩:=s;simp only at e0 e1 e2 e3 e4 e5 e6;obtain ⟨a0,a1,a2,a3,a4,a5,a6,a7,a8,a9,a10⟩:=(HA.o.below Qp.o lA).eleven;have tO:=Au lA Qp.o.size;have HT:=AA (fun o=>jP.o i sf (wr.alloc o) (JH.o.alloc JH.o.size o));obtain ⟨y,hy⟩:=BP (typeAt ss i sf);have HSA:AI (Ks ss JE i ⟨sp,sf,st⟩=y.any fun f=>decide (sf≠0) && VW ss JE f st):=AA (by rw [Ks,hy]);rw [hy] at HT;have LJ:AI (∀W,BI (wr.alloc (AO #[AL sp,AE AF sf,AL st.name,AL st.path,AE AF st.var,AE AF st.field,AE AF st.n] 284)).heap.size (wr.alloc (AO #[AL sp,AE AF sf,AL st.name,AL st.path,AE AF st.var,AE AF st.field,AE AF st.n] 284)) W->AZ W wr.heap.size 284 #[AL sp,AE AF sf,AL st.name,AL st.path,AE AF st.var,AE AF st.field,AE AF st.n]):=AA (fun W h=>(AZ.new wr _ _).below h AX);clear hy;cases y with
 |
  none=>
  have HE:AI (R=false):=AA (by rw [S6.o,JX HX.o HSA.o];rfl);go_wp2_with (go_at_call 65;refine (HT.o _).mono ?_;clear HT;rintro e w2 ⟨⟨B,m',d',rfl,hs⟩,hb2⟩;have HB2:AI (AK w w2):=AA ((CO.o.alloc CO.o.size _).trans (hb2.mono (by have:=CO.o.size;simp;omega)));clear hs hb2;simp only [Gv]);go_ret;exact ⟨Ay HE.o.symm,HB2.o.alloc HB2.o.size _⟩
 |
  some y=>
  obtain ⟨yk,yl,yh,yf,yu,yn⟩:=y;go_wp2_with (go_at_call 65;refine (HT.o _).mono ?_;clear HT);rintro e w2 ⟨⟨B,m',d',rfl,hs⟩,hb2⟩;have HS:=AA hs;have HB2:AI (AK wq w2):=AA ((C4.o.alloc C4.o.size _).trans (hb2.mono OD));have pW:AI (AK wb w2):=AA (AV Mp.o HB2.o);have bB:AI (AK w0 w2):=AA (AV HB0.o (AV PI.o HB2.o));have Jc:=AA (Ch (HO.o.alloc _) hb2);have Ti:=AA (LJ.o w2 hb2);clear hs hb2 LJ a0 a1 a2 a3 a4 a5 a6 a7 a8 a9 a10 tO e0 e1 e2 e3 e4 e5 e6 hbl C4 Qp CO JH;simp only [Fh,Cc];simp only [Cc] at HS;obtain ⟨a0,a1,a2,a3,a4,a5,a6,a7,a8,a9,a10⟩:=(HA.o.below pW.o lA).eleven;have lA2:=Au lA pW.o.size;have s0:=Ti.o.cell 0;have s1:=Ti.o.cell 1;have s2:=Ti.o.cell 2;have s3:=Ti.o.cell 3;have s4:=Ti.o.cell 4;have s5:=Ti.o.cell 5;have s6:=Ti.o.cell 6;simp only [Ak,Al,Az] at s0 s1 s2 s3 s4 s5 s6;have lS:=Ti.o.lt;cases q2:(sf==0) with
  |
   true=>
   have HE:AI (R=false):=AA (by
    have:Ks ss JE i ⟨sp,sf,st⟩=false:=by rw [HSA.o];simp at q2;simp [q2]
    rw [S6.o,JX HX.o this];rfl)
   go_wp2_with fail;go_ret;exact ⟨Ay HE.o.symm,AV PI.o (HB2.o.alloc HB2.o.size _)⟩
  | false=>
  obtain ⟨v,hv⟩:∃v,VW ss JE ⟨yk,yl,yh,yf,yu,yn⟩ st=v:=⟨_,rfl⟩;have HV:AI (Ks ss JE i ⟨sp,sf,st⟩=v):=AA (by rw [HSA.o];simp at q2;simp [q2,hv]);have HC:=AA (fun o=>jQ.o ⟨yk,yl,yh,yf,yu,yn⟩ st B m' d' (w2.alloc o) (bB.o.alloc bB.o.size o) HS.o);rw [hv] at HC;clear hv;have AGc:AI (∀o W,BI (w2.alloc o).heap.size (w2.alloc o) W->W.cell? ⟨wr.heap.size,1,none⟩=some (AE AF sf)/\wr.heap.size < W.heap.size):=AA (fun o W h=>by have hk:=(Ti.o.alloc o).below h (by have:=Ti.o.lt;simp;omega);exact ⟨hk.cell 1,hk.lt⟩)
  go_wp2_with (go_at_call 168;refine (HC.o _).mono ?_;clear HC);rintro e w3 ⟨rfl,hb3⟩;obtain ⟨s1,lS⟩:=AGc.o _ _ hb3;have HB3:AI (AK wq w3):=AA ((HB2.o.alloc HB2.o.size _).trans (hb3.mono UN));have I4:=AA (Ch (Jc.o.alloc _) hb3);clear hb3 AGc a0 a1 a2 a3 a4 a5 a6 a7 a8 a9 a10 lA2;cases v with
  |
   false=>
   have HE:AI (R=false):=AA (by rw [S6.o,JX HX.o HV.o];rfl);go_wp2_with fail;go_ret;exact ⟨Ay HE.o.symm,AV PI.o HB3.o⟩
  |
   true=>
   obtain ⟨wt,hwt⟩:=Ad (w3.alloc (AO #[AE AF sf] 3));have jV:AI (wt.ownsRow wq.heap.size 3 1 tv k (((JS.take k).map fun s=>s.field).map (Value.int .i64))):=AA (by rw [hwt];exact I4.o.alloc _);have Ml:AI (Ag 1 iR wt (AB (some ⟨w3.heap.size,0,none⟩) 1 1) [sf]):=AA (by rw [hwt];exact tB (cs:=[AE AF sf]) (t:=3) (AZ.new _ _ _) rfl rfl);have VL:AI (AK wq wt):=AA (by rw [hwt];exact HB3.o.alloc HB3.o.size _);have HWT:=AA hwt;clear hwt s0 s2 s3 s4 s5 s6;go_wp2_with (at_builtin;rw [<-HWT.o];refine CU wt rfl (AY 97) (AY 100) 30 3 rfl j0 _ 8 underlying30 HJ.o.1 HJ.o.2.1 HJ.o.2.2.1 HJ.o.2.2.2 rfl Ah (R:=iR) AFF wq.heap.size tv k _ rfl jV.o (some ⟨w3.heap.size,0,none⟩) 1 1 [sf] rfl Ml.o ?hn ?hb VL.o.size ?_)
   case hn=>exact RU
   case hb=>omega
   intro v4 w4 dL hc4 Rv hg4 AHv;have HB4:AI (AK wq w4):=AA (VL.o.grown hg4 VL.o.size (fun k hk=>(jV.o.lt k hk).1));have Qa:=AA Rv;have PD:AI (dL=[AE AF sf]):=AA (by have h1:=hc4.1;have h2:=hc4.2 0 sf rfl;simp only [YU,Gs,Hl] at h1 h2;rw [Cu AG] at h2;exact h2)
   clear hc4 Rv hg4 AHv;go_wp2_with fail;go_roundg (m3 - (k+1))
   case measure=>exact BS
   case rel=>exact ⟨k+1,v4,by omega,rfl,by go_num,rfl,Dc HX.o HV.o EC.o,by rw [take_snoc HX.o,DE,DE];have:=Qa.o;rw [PD.o] at this;simpa [List.map_take] using this,HB4.o⟩
theorem wD (g:Nat) (F1 F2 F3:Option Aa) (m1 d1 m2 d2 m3 d3:Nat) (hd:ByteArray) (Dv:Int) (JE:List B0) (UW:List IL) (JS:List L0) (us:List Bt) (ss:List BL) (w:AH) (hk:AZ w g 137 #[AB A1 n1 c1,AB A2 n2 c2,AB A3 n3 c3,AB A4 n4 c4,AB A5 n5 c5,AB A6 n6 c6]) (h2:Ag 5 CD w (AB A2 n2 c2) us) (h3:Ag 6 BU w (AB A3 n3 c3) ss)
 (hf:Ag 8 DH w (AB F1 m1 d1) JE) (hwh:Ag 11 EH w (AB F2 m2 d2) UW) (hse:BT 7 80 GZ w (AB F3 m3 d3) JS) (hU:∀x∈ss,∀f∈x.fields,QM n2 f.type):
 AS prog 104 #[AP #[AL hd,AE AF Dv,AB F1 m1 d1,AB F2 m2 d2,AB F3 m3 d3],AW (some ⟨g,0,none⟩)] w fun e w'=>e=AU (Ab (Iw us ss ⟨hd,Dv,JE,UW,JS⟩))/\AK w w':=by
 have HB:AI (∀o,AK w (w.alloc o)):=AA (fun o=>(Ae _ _).alloc (Ac _) _);have HC:=AA (fun o=>uV A1 A2 A3 A4 A5 A6 n1 c1 n2 c2 n3 c3 n4 c4 n5 c5 n6 c6 F1 F2 F3 m1 d1 m2 d2 m3 d3 hd Dv JE UW JS us ss w (w.alloc o) (HB.o o) h2 h3 hf hwh hse hU);obtain ⟨v,hv⟩:∃v,Iw us ss ⟨hd,Dv,JE,UW,JS⟩=v:=⟨_,rfl⟩;rw [hv] at HC ⊢;obtain ⟨a0,a1,a2,a3,a4,a5⟩:=hk.six;have lk:=hk.lt;clear hk h2 h3 hf hwh hse hU hv;go_enter func104,ntmps104;go_wp2_with (go_at_call 105;refine (HC.o _).mono ?_;clear HC);rintro e w2 ⟨rfl,hb2⟩;have HB2:=AA ((HB.o _).trans (hb2.mono AX));clear hb2;go_wp2_with fail;go_ret;exact ⟨rfl,HB2.o⟩
def MG (n2:Nat) (ss:List BL) (s f v:Int):Bool:=(typeAt ss s f).any fun t=>He n2 t && decide (t.lo<=v) && decide (v<=t.hi)
theorem iK (sc f v:Int) (ss:List BL) (w0 w:AH) (hb0:AK w0 w) (hn2:n2<=9223372036854775807) (h3:Ag 6 BU w0 (AB A3 n3 c3) ss):
 AS prog 46 #[(AP #[AB A1 n1 c1,AB A2 n2 c2,AB A3 n3 c3,AB A4 n4 c4,AB A5 n5 c5,AB A6 n6 c6]),AE AF sc,AE AF f,AE AF v] w fun e w'=>e=AU (Ab (MG n2 ss sc f v))/\AK w w':=by
 have hbb:∀o1 o2,AK w ((w.alloc o1).alloc o2):=fun o1 o2=>((BE _ _).alloc AX _);have BG:=AA hbb;have HT:=AA (fun o1 o2=>Qr A1 A2 A3 A4 A5 A6 n1 c1 n2 c2 n3 c3 n4 c4 n5 c5 n6 c6 sc f ss w0 ((w.alloc o1).alloc o2) (AV hb0 (hbb o1 o2)) h3);have HB0:=AA hb0;clear hb0 h3 hbb;obtain ⟨o,ho⟩:=BP (typeAt ss sc f);have HO:AI (MG n2 ss sc f v=o.any fun t=>He n2 t && decide (t.lo<=v) && decide (v<=t.hi)):=AA (by rw [MG,ho]);rw [ho] at HT;rw [HO.o];clear ho HO;have HK:AI (∀o1 W,BI ((w.alloc o1).alloc (AO #[AB A1 n1 c1,AB A2 n2 c2,AB A3 n3 c3,AB A4 n4 c4,AB A5 n5 c5,AB A6 n6 c6] 137)).heap.size ((w.alloc o1).alloc (AO #[AB A1 n1 c1,AB A2 n2 c2,AB A3 n3 c3,AB A4 n4 c4,AB A5 n5 c5,AB A6 n6 c6] 137)) W->AZ W (w.heap.size+1) 137 #[AB A1 n1 c1,AB A2 n2 c2,AB A3 n3 c3,AB A4 n4 c4,AB A5 n5 c5,AB A6 n6 c6]):=AA (fun o1 W h=>AZ.below (DY AX) h AX);cases o with
 |
  none=>
  simp only [Option.any_none];go_enter func46,ntmps46;go_wp2_with (go_at_call 65;refine (HT.o _ _).mono ?_;clear HT;rintro e w2 ⟨⟨B,m,d,rfl,hs⟩,hb2⟩;have HB2:=AA ((BG.o _ _).trans (hb2.mono (BG.o _ _).size));clear hs hb2;simp only [Gv]);go_ret;exact ⟨rfl,HB2.o.alloc HB2.o.size _⟩
 |
  some y=>
  simp only [Option.any_some];obtain ⟨yk,yl,yh,yf,yu,yn⟩:=y;go_enter func46,ntmps46;go_wp2_with (go_at_call 65;refine (HT.o _ _).mono ?_;clear HT);rintro e w2 ⟨⟨B,m,d,rfl,hs⟩,hb2⟩;obtain ⟨q0,q1,q2,q3,q4,q5⟩:=(HK.o _ _ hb2).six;have lq:=(HK.o _ _ hb2).lt;have HB2:=AA ((BG.o _ _).trans (hb2.mono (BG.o _ _).size));simp only [Cc] at hs;obtain ⟨vt,hvt⟩:∃b,He n2 ⟨yk,yl,yh,yf,yu,yn⟩=b:=⟨_,rfl⟩;have jP:AI (∀o,AS prog 66 #[(AP #[AB A1 n1 c1,AB A2 n2 c2,AB A3 n3 c3,AB A4 n4 c4,AB A5 n5 c5,AB A6 n6 c6]),AP #[AE AF yk,AE AF yl,AE AF yh,AL yf,AE AF yu,AB B m d]] (w2.alloc o) fun e w'=>e=AU (Ab vt)/\BI (w2.alloc o).heap.size (w2.alloc o) w'):=AA (fun o=>by have:=bd A1 A2 A3 A4 A5 A6 n1 c1 n2 c2 n3 c3 n4 c4 n5 c5 n6 c6 ⟨yk,yl,yh,yf,yu,yn⟩ B m d (w2.alloc o) hn2 (hs.1.mono BV (AV HB0.o (HB2.o.alloc HB2.o.size o)));rw [hvt] at this;exact this)
  have HVT:=AA hvt;clear hs hb2 hvt HK BG;simp only [Cc,Fh];go_wp2_with (go_at_call 66;refine (jP.o _).mono ?_;clear jP);rintro e w3 ⟨rfl,hb3⟩;have kz:=(AZ.new w2 109 #[AE AF yk,AE AF yl,AE AF yh,AL yf,AE AF yu,AB B m d]).below hb3 AX;obtain ⟨z0,z1,z2,z3,z4,z5⟩:=kz.six;have lz:=kz.lt;have HB3:AI (AK w w3):=AA ((HB2.o.alloc HB2.o.size _).trans (hb3.mono UN));clear kz hb3 q0 q1 q2 q3 q4 q5;cases vt <;>
  go_wp2_with fail
  all_goals
   go_ret;refine ⟨Ay ?_,HB3.o⟩;have hE:=HVT.o;rw [hE]
   go_light
   first
    | rfl
    | (simp_all;done)
    | (simp_all;omega)
def QV (n2:Nat) (f:GT):Bool:=He n2 f.type && decide (f.type.lo<=f.type.lo) && decide (f.type.lo<=f.type.hi)
def JP (n2:Nat) (ss:List BL) (s:Int):Bool:=decide (0<=s) && decide (s < ss.length) && (ss[s.toNat]?).any fun x=>x.fields.all (QV n2) && (x.fields[0]?).any fun f=>decide (f.type.kind=3)
theorem AAp {n2:Nat} {ss:List BL} {k i:Nat} {x:BL} {y:GT} (hx:ss[k]? =some x) (hy:x.fields[i]? =some y):MG n2 ss k i y.type.lo=QV n2 y:=by rw [MG,typeAt,Ai AG,Cm,Cm,hx,Option.bind_some,hy];rfl
theorem zK {n2:Nat} {ss:List BL} {k:Nat} {x:BL} (hx:ss[k]? =some x):JP n2 ss k=(x.fields.all (QV n2) && (x.fields[0]?).any fun f=>decide (f.type.kind=3)):=by have:=(BD.1 hx).1;rw [JP,BR AG,BR AG,Cm,hx];rfl
theorem um (sc:Int) (ss:List BL) (w0 w:AH) (hb0:AK w0 w) (hn2:n2<=9223372036854775807) (h3:Ag 6 BU w0 (AB A3 n3 c3) ss):
 AS prog 178 #[(AP #[AB A1 n1 c1,AB A2 n2 c2,AB A3 n3 c3,AB A4 n4 c4,AB A5 n5 c5,AB A6 n6 c6]),AE AF sc] w fun e w'=>e=AU (Ab (JP n2 ss sc))/\AK w w':=by
 have hn3:n3<=9223372036854775807:=by have:=h3.le;omega
 have IB:=AA h3.len;have HB0:=AA hb0;have H3:=AA h3;have Zg:=AA hn2;clear hb0 h3 hn2;by_cases hin:0<=sc/\sc < n3
 case neg=>
  have HE:AI (JP n2 ss sc=false):=AA (by
   have:(decide (0<=sc) && decide (sc < ss.length))=false:=by simp only [Mw,Mx];have:=IB.o;omega
   rw [JP,this];rfl)
  rw [HE.o];go_enter func178,ntmps178;go_wp2_with fail
  all_goals first
   | (exfalso;omega)
   | (go_ret;exact ⟨rfl,(BE _ _)⟩)
 obtain ⟨k,rfl⟩:∃k:Nat,sc=k:=⟨sc.toNat,by omega⟩;have hk0:=Int.natCast_nonneg k
 have hk1:(k:Int) < (n3:Int):=AG
 have hz:decide (n3<=k)=false:=Bc AG;obtain ⟨b,off,x,FA,fn,fc,DA,dn,dc,hA3,hbl,hx,e0,e1,e2,e3,e4,e5,hF,hD⟩:=Fx H3.o (k:=k) AG;subst hA3;have mf:fn<=9223372036854775807:=by have:=hF.1.le;omega
 have Li:=AA hF.1.len;rw [<-HB0.o.cell (p:=⟨b,_,none⟩) hbl] at e4;have AFs:b < w.heap.size:=Au hbl HB0.o.size;have HX:=AA hx;have HP:AI (JP n2 ss k=(x.fields.all (QV n2) && (x.fields[0]?).any fun f=>decide (f.type.kind=3))):=AA (zK hx);have HF:=AA hF.1;rw [HP.o];clear hin e0 e1 e2 e3 e5 hD hF hx HP;have kA:AZ (w.alloc (AO #[AB A1 n1 c1,AB A2 n2 c2,AB (some ⟨b,off,none⟩) n3 c3,AB A4 n4 c4,AB A5 n5 c5,AB A6 n6 c6] 29)) w.heap.size 29 #[AB A1 n1 c1,AB A2 n2 c2,AB (some ⟨b,off,none⟩) n3 c3,AB A4 n4 c4,AB A5 n5 c5,AB A6 n6 c6]:=AZ.new _ _ _;have HA:=AA kA;have BG:AI (AK w (w.alloc (AO #[AB A1 n1 c1,AB A2 n2 c2,AB (some ⟨b,off,none⟩) n3 c3,AB A4 n4 c4,AB A5 n5 c5,AB A6 n6 c6] 29))):=AA (BE _ _);clear kA;go_enter func178,ntmps178;go_wp2_with fail;generalize w.alloc (AO #[AB A1 n1 c1,AB A2 n2 c2,AB (some ⟨b,off,none⟩) n3 c3,AB A4 n4 c4,AB A5 n5 c5,AB A6 n6 c6] 29)=wb at *;obtain ⟨ga,hga⟩:=Ad w.heap.size;rw [<-hga] at HA ⊢;have lA:=HA.o.lt;clear hga;go_loopg [25] fn (fun q i wr=>∃j:Nat,j<=fn/\q=fn - j/\i=AE AF j/\(x.fields.take j).all (QV n2)=true/\AK wb wr)
 case atStart=>exact Lc
 obtain ⟨j,hj,hq,rfl,hall,hb⟩:=hrel;have HQ:=AA hq;have EC:=AA hall;have C4:=AA hb;have CO:AI (AK w wr):=AA (AV BG.o hb);have JH:AI (AK w0 wr):=AA (AV HB0.o CO.o);obtain ⟨a0,a1,a2,a3,a4,a5⟩:=(HA.o.below hb lA).six;have tO:ga < wr.heap.size:=Au lA hb.size;clear hq hall hb;by_cases hlt:j < fn
 case neg=>
  have HT:AI (x.fields.all (QV n2)=true):=by have:=EC.o;rw [Cu Yi] at this;exact this
  clear a0 a1 a2 a3 a4 a5;by_cases h0:fn=0
  ·have HE:AI (x.fields[0]? =none):=AA (DT Yi)
   subst h0;go_wp2_with fail;go_ret;exact ⟨Ay (by rw [HT.o,HE.o];rfl),CO.o⟩
  obtain ⟨b',off',y,C,mc,dc',hB1,gF,hy,f0,f1,f2,f3,f4,f5,f6,f7,f8,f9,f10,G3⟩:=IQ (HF.o.mono Cy JH.o) (k:=0) AG;subst hB1;have HY:=AA hy;simp only [Qy,EO] at f1;have hfz:(0:Int) < (fn:Int):=AG
  have hk:(y.type.kind==3)=decide (y.type.kind=3):=by by_cases h:y.type.kind=3 <;> simp [h]
  have HK:=AA hk;clear hk hy f0 f2 f3 f4 f5 f6 f7 f8 f9 f10 G3 h0;go_wp2_with fail;go_ret;exact ⟨Ay (by rw [HT.o,HY.o,Option.any_some,JI];exact HK.o),CO.o⟩
 obtain ⟨b',off',y,C,mc,dc',hB1,gF,hy,f0,f1,f2,f3,f4,f5,f6,f7,f8,f9,f10,G3⟩:=IQ (HF.o.mono Cy JH.o) hlt;subst hB1;have hj0:(0:Int)<=(j:Int):=AG
 have hj1:(j:Int) < (fn:Int):=AG
 have HY:=AA hy;obtain ⟨vv,hvv⟩:=BP (QV n2 y);have HVV:=AA hvv;have HV:=AA (fun o=>iK A1 A2 (some ⟨b,off,none⟩) A4 A5 A6 n1 c1 n2 c2 n3 c3 n4 c4 n5 c5 n6 c6 k j y.type.lo ss w0 (wr.alloc o) (JH.o.alloc JH.o.size o) Zg.o H3.o);rw [AAp HX.o hy,hvv] at HV;clear hy G3 hvv;go_wp2_with (go_at_call 46;refine (HV.o _).mono ?_;clear HV);rintro e w2 ⟨rfl,hb2⟩;have HB2:=AA ((C4.o.alloc C4.o.size _).trans (hb2.mono OD));clear hb2 a0 a1 a2 a3 a4 a5 f0 f1 f2 f3 f4 f5 f6 f7 f8 f9 f10;cases vv with
 |
  false=>
  have HE:AI (x.fields.all (QV n2)=false):=AA (JX HY.o HVV.o);go_wp2_with fail;go_ret;exact ⟨Ay (by rw [HE.o];rfl),AV BG.o HB2.o⟩
 |
  true=>
  go_wp2_with fail;go_roundg (fn - (j+1))
  case measure=>exact BS
  case rel=>exact ⟨j+1,by omega,rfl,by go_num,Dc HY.o HVV.o EC.o,HB2.o⟩
def fitsV (a b:Fa) (sh:Int) (an bn:Nat):Bool:=
 if a.kind≠b.kind then false
 else if a.kind=1\/a.kind=2 then (b.lo==wrap64 (a.lo+sh)) && (b.hi==wrap64 (a.hi+sh)) && (a.unit==b.unit)
 else (sh==0) && (a.lo==b.lo) && (a.hi==b.hi) && ((an:Int)==(bn:Int))
theorem AAP (a b:Fa) (sh:Int) (B C:Option Aa) (m d k e:Nat) (w:AH):
 AS prog 179 #[AP #[AE AF a.kind,AE AF a.lo,AE AF a.hi,AL a.An,AE AF a.unit,AB B m d],AP #[AE AF b.kind,AE AF b.lo,AE AF b.hi,AL b.An,AE AF b.unit,AB C k e],AE AF sh] w fun e w'=>e=AU (Ab (fitsV a b sh m k))/\AK w w':=by
 have HW:AI (∀o1 o2,AK w ((w.alloc o1).alloc o2)):=AA fun o1 o2=>((BE _ _).alloc AX _);by_cases hkd:a.kind=b.kind
 case neg=>
  have hkn:(a.kind !=b.kind)=true:=by simpa using hkd
  have HE:AI (fitsV a b sh m k=false):=AA (by rw [fitsV,Ao hkd]);rw [HE.o];clear hkd;go_enter func179,ntmps179;go_wp2_with fail;go_ret;exact ⟨rfl,HW.o _ _⟩
 have hkn:(a.kind !=b.kind)=false:=by simpa using hkd
 by_cases h12:a.kind=1\/a.kind=2
 ·have HE:AI (fitsV a b sh m k=((b.lo==wrap64 (a.lo+sh)) && (b.hi==wrap64 (a.hi+sh)) && (a.unit==b.unit))):=AA (by rw [fitsV,Ai (by simpa using hkd),Ao h12])
  rw [HE.o];have h1:(a.kind==1)=true\/((a.kind==1)=false/\(a.kind==2)=true):=by
   rcases h12 with h | h
   · exact .inl (by simpa using h)
   · exact .inr ⟨by simp [h],by simpa using h⟩
  clear hkd h12;go_enter func179,ntmps179;rcases h1 with h1 | ⟨h1,h2⟩ <;>
  go_wp2_with fail
  all_goals
   go_ret;refine ⟨Ay ?_,HW.o _ _⟩
   go_light
   first
    | rfl
    | (simp_all;done)
 have HE:AI (fitsV a b sh m k=((sh==0) && (a.lo==b.lo) && (a.hi==b.hi) && ((m:Int)==(k:Int)))):=AA (by rw [fitsV,Ai (by simpa using hkd),Ai h12]);rw [HE.o];have h1:(a.kind==1)=false:=by simpa using fun h=>h12 (.inl h)
 have h2:(a.kind==2)=false:=by simpa using fun h=>h12 (.inr h)
 clear hkd h12;go_enter func179,ntmps179;go_wp2_with fail
 all_goals
  go_ret;refine ⟨Ay ?_,HW.o _ _⟩
  go_light
  first
   | rfl
   | (simp_all;done)
def cS (fa fb:List GT) (m:Kf):Bool:=
 match fa[m.a.toNat]?,fb[m.b.toNat]? with
 | some x,some y=>fitsV x.type y.type m.shift x.type.names.length y.type.names.length
 | _,_=>false
def TU (fa fb:List GT):List Bool->List Bool->List Kf->Bool
 | _,_,[]=>true
 |
  us,ts,m::l=>
  if ¬(1<=m.a/\m.a < fa.length/\1<=m.b/\m.b < fb.length) then false
  else if us[m.a.toNat]? =some true then false
  else if ts[m.b.toNat]? =some true then false
  else if cS fa fb m then TU fa fb (us.set m.a.toNat true) (ts.set m.b.toNat true) l else false
def M5 (n2:Nat) (ss:List BL) (c:C0):Bool:=
 if c.a=c.b then false
 else if JP n2 ss c.a=false then false
 else if JP n2 ss c.b=false then false
 else match ss[c.a.toNat]?,ss[c.b.toNat]? with
  | some x,some y=>if c.moves.length+1=x.fields.length then (if c.moves.length+1=y.fields.length then TU x.fields y.fields (List.replicate x.fields.length false) (List.replicate y.fields.length false) c.moves else false) else false
  | _,_=>false
theorem Qu {n2:Nat} {ss:List BL} {s:Int} (h:JP n2 ss s=true):0<=s/\s < ss.length:=by simp only [JP,Bj,B8] at h;exact h.1
theorem AAF:(prog.info? 4).map (fun i=>(i.zero,i.size,i.bytes))=some (some (Ab false),1,1):=by kernel_rfl
theorem KQ {w:AH} {g:Nat} {t:Af} {cs:Array AN} (h:AZ w g t cs):AZ w.drew g t cs:=h
theorem QF {w:AH} {g i:Nat} {t:Af} {us:List Bool} {v:Bool} (h:AZ w g t (us.map Value.bool).toArray):AZ (w.setCell ⟨g,i,none⟩ (Ab v)) g t ((us.set i v).map Value.bool).toArray:=by have:=h.put i (Ab v);simpa [List.map_set] using this
theorem y8 (n:Nat):Array.replicate n (Value.bool false)=((List.replicate n false).map Value.bool).toArray:=by simp
theorem qU (nf:Nat):madeCells (Value.bool false).cells (nf*1)=Array.replicate nf (Value.bool false):=by
 apply Array.ext
 · simp [madeCells]
 intro i h1 h2;have:i % 1=0:=AG
 simp [madeCells,Value.cells,this]
theorem WA (nf:Nat) (h:nf<=140737488355328) (W:AH):(Instr.makeSlice 237 (AE AF nf) (AE AF nf)).run prog W=.ok (AB (some ⟨W.heap.size,0,none⟩) nf nf) (W.alloc (AO (Array.replicate nf (Value.bool false)) 4)):=by obtain ⟨j0,hj,aR,aQ,aP⟩:=Kh AAF;have:=run_make (P:=prog) W 237 4 j0 (Ab false) underlying237 hj aR .i64 .i64 nf nf AG AG (by rw [aP];omega) AG;rw [aQ] at this;simp only [Cm] at this;rw [qU] at this;exact this
theorem uN (cf ct:ByteArray) (ca cb:Int) (XI:List Kf) (MA:Option Aa) (mn mc:Nat) (ss:List BL) (w0 w:AH) (hb0:AK w0 w) (hn2:n2<=9223372036854775807) (h3:Ag 6 BU w0 (AB A3 n3 c3) ss) (hm:Ag 5 GF w0 (AB MA mn mc) XI):
 AS prog 116 #[(AP #[AB A1 n1 c1,AB A2 n2 c2,AB A3 n3 c3,AB A4 n4 c4,AB A5 n5 c5,AB A6 n6 c6]),AP #[AL cf,AL ct,AE AF ca,AE AF cb,AB MA mn mc]] w fun e w'=>e=AU (Ab (M5 n2 ss ⟨cf,ct,ca,cb,XI⟩))/\AK w w':=by
 have hmn:mn<=9223372036854775807:=by have:=hm.le;omega
 have hn3:n3<=9223372036854775807:=by have:=h3.le;omega
 obtain ⟨wb,hwb⟩:=Ad ((w.alloc (AO #[AB A1 n1 c1,AB A2 n2 c2,AB A3 n3 c3,AB A4 n4 c4,AB A5 n5 c5,AB A6 n6 c6] 29)).alloc (AO #[AL cf,AL ct,AE AF ca,AE AF cb,AB MA mn mc] 163));have hbb:AK w wb:=by rw [hwb];exact ((BE _ _).alloc AX _)
 have kA:AZ wb w.heap.size 29 #[AB A1 n1 c1,AB A2 n2 c2,AB A3 n3 c3,AB A4 n4 c4,AB A5 n5 c5,AB A6 n6 c6]:=by rw [hwb];exact (AZ.new _ _ _).alloc _
 have kB:AZ wb (w.heap.size+1) 163 #[AL cf,AL ct,AE AF ca,AE AF cb,AB MA mn mc]:=by rw [hwb];exact DY AX
 have HP:AI (∀(sc:Int) (W:AH),AK wb W->AS prog 178 #[(AP #[AB A1 n1 c1,AB A2 n2 c2,AB A3 n3 c3,AB A4 n4 c4,AB A5 n5 c5,AB A6 n6 c6]),AE AF sc] W fun e w'=>e=AU (Ab (JP n2 ss sc))/\AK W w'):=AA (fun sc W hW=>um A1 A2 A3 A4 A5 A6 n1 c1 n2 c2 n3 c3 n4 c4 n5 c5 n6 c6 sc ss w0 W (AV hb0 (AV hbb hW)) hn2 h3);have BG:=AA hbb;have CX:=AA hwb;have HA:=AA kA;have HB:=AA kB;have H3:=AA h3;have HM:=AA hm;have HB0:=AA hb0;have IB:=AA h3.len;obtain ⟨b0',b1',b2',b3',b4'⟩:=kB.five;obtain ⟨a0',a1',a2',a3',a4',a5'⟩:=kA.six;obtain ⟨ga,hga⟩:=Ad w.heap.size;obtain ⟨gb,hgb⟩:=Ad (w.heap.size+1);have lA:=kA.lt;have lB:=kB.lt;clear hm h3 hb0 hbb hwb kA kB hn2;obtain ⟨R,hR⟩:∃R,M5 n2 ss ⟨cf,ct,ca,cb,XI⟩=R:=⟨_,rfl⟩;have HR:=AA hR;rw [hR];clear hR;go_enter func116,ntmps116;go_upto_region 1 with fail;rw [<-CX.o,<-hgb,<-hga];rw [<-hgb] at HB lB b0' b1' b2' b3' b4';rw [<-hga] at HA lA a0' a1' a2' a3' a4' a5';clear CX hga hgb;cases hab:(ca==cb) with
 |
  true=>
  have HE:AI (R=false):=AA (by rw [<-HR.o,M5,Ao (by simpa using hab)]);go_wp2_with fail;go_ret;exact ⟨Ay HE.o.symm,BG.o⟩
 | false=>
 have HAB:AI (ca≠cb):=AA (by simpa using hab);have tw:=AA (HP.o ca wb (Ae _ _));have HPB:=AA (HP.o cb);clear HP;cases hp1:JP n2 ss ca with
 |
  false=>
  rw [hp1] at tw;have HE:AI (R=false):=AA (by rw [<-HR.o,M5,Ai HAB.o,Ao hp1]);clear hp1;go_wp2_with (go_at_call 178;refine tw.o.mono ?_;clear tw);rintro e w1 ⟨rfl,hb1⟩;have HB1:=AA (AV BG.o hb1);clear hb1;go_wp2_with fail;go_ret;exact ⟨Ay HE.o.symm,HB1.o⟩
 | true=>
 rw [hp1] at tw;have HP1:=AA hp1;clear hp1;go_wp2_with (go_at_call 178;refine tw.o.mono ?_;clear tw);rintro e w1 ⟨rfl,hb1⟩;have HB1:=AA hb1;obtain ⟨b0,b1,b2,b3,b4⟩:=(HB.o.below hb1 lB).five;obtain ⟨a0,a1,a2,a3,a4,a5⟩:=(HA.o.below hb1 lA).six;clear hb1 a0' a1' a2' a3' a4' a5' b0' b1' b2' b3' b4';have gx:=AA (HPB.o w1 HB1.o);clear HPB;cases hp2:JP n2 ss cb with
 |
  false=>
  rw [hp2] at gx;have HE:AI (R=false):=AA (by rw [<-HR.o,M5,Ai HAB.o,Ai (by rw [HP1.o];decide),Ao hp2]);clear hp2;go_wp2_with (go_at_call 178;refine gx.o.mono ?_;clear gx);rintro e w2 ⟨rfl,hb2⟩;have HB2:=AA (AV HB1.o hb2);clear hb2 a0 a1 a2 a3 a4 a5 b0 b1 b2 b3 b4;go_wp2_with fail;go_ret;exact ⟨Ay HE.o.symm,AV BG.o HB2.o⟩
 | true=>
 rw [hp2] at gx;have HP2:=AA hp2;clear hp2;go_wp2_with (go_at_call 178;refine gx.o.mono ?_;clear gx);rintro e w2 ⟨rfl,hb2⟩;have HB2:=AA (AV HB1.o hb2);clear hb2 a0 a1 a2 a3 a4 a5 b0 b1 b2 b3 b4;obtain ⟨b0,b1,b2,b3,b4⟩:=(HB.o.below HB2.o lB).five;obtain ⟨a0,a1,a2,a3,a4,a5⟩:=(HA.o.below HB2.o lA).six;have lA2:=Au lA HB2.o.size;have lB2:=Au lB HB2.o.size;obtain ⟨i,hi⟩:∃i:Nat,ca=i:=⟨ca.toNat,by have:=(Qu HP1.o).1;omega⟩;obtain ⟨j,hj⟩:∃j:Nat,cb=j:=⟨cb.toNat,by have:=(Qu HP2.o).1;omega⟩;subst hi hj;have hi0:(0:Int)<=(i:Int):=AG
 have hj0:(0:Int)<=(j:Int):=AG
 have hi1:(i:Int) < (n3:Int):=by have:=(Qu HP1.o).2;have:=IB.o;omega
 have hj1:(j:Int) < (n3:Int):=by have:=(Qu HP2.o).2;have:=IB.o;omega
 obtain ⟨g1,o1,x,FA,fn,fc,DA,dn,dc,hA3,hbl,hx,e0,e1,e2,e3,e4,e5,hF,hD⟩:=Fx H3.o (k:=i) AG;obtain ⟨g2,o2,y,GA,gn,gc,EA,en,ec,AHz,r1,hy,r2,r3,r4,r5,f4,r6,hG,r7⟩:=Fx H3.o (k:=j) AG;subst hA3;injection AHz with hq;injection hq with hq1 hq2;subst hq1 hq2;have hbw2:AK w0 w2:=AV HB0.o (AV BG.o HB2.o);rw [<-hbw2.cell (p:=⟨g1,_,none⟩) hbl] at e4 f4;have hlw:=Au hbl hbw2.size;have hfn:fn<=9000000000000:=by have:=hF.2;have:=hF.1.len;omega
 have hgn:gn<=9000000000000:=by have:=hG.2;have:=hG.1.len;omega
 have Li:=AA hF.1.len;have HGN:=AA hG.1.len;have Lh:=AA HM.o.len;have HF:=AA hF.1;have HG:=AA hG.1;have HRR:AI (R=if XI.length+1=x.fields.length then (if XI.length+1=y.fields.length then TU x.fields y.fields (List.replicate x.fields.length false) (List.replicate y.fields.length false) XI else false) else false):=AA (by rw [<-HR.o,M5,Ai HAB.o,Ai (by rw [HP1.o];decide),Ai (by rw [HP2.o];decide),Cm,Cm,hx,hy])
 have SP:=AA hbw2;clear e0 e1 e2 e3 e5 hF hG hD hx hy hbw2 HR HP1 HP2 HAB r1 r2 r3 r4 r5 r6 r7;go_upto_region 3 with fail;go_quiet (fail);clear a0 a1 a2 a3 a4 a5;have Mp:AI (AK wb (w2.drewN nq)):=AA (below_drewN HB2.o _);generalize w2.drewN nq=wq at *;clear b0 b1 b2 b3 b4 e4 f4 hlw lA2 lB2 hbl;obtain ⟨b0,b1,b2,b3,b4⟩:=(HB.o.below Mp.o lB).five;have lBq:=Au lB Mp.o.size;cases q1:((mn:Int) !=(fn:Int) - 1) with
 |
  true=>
  have HE:AI (R=false):=AA (by rw [HRR.o,Ai (by simp at q1;have:=Lh.o;have:=Li.o;omega)]);go_wp2_with fail;go_ret;exact ⟨Ay HE.o.symm,AV BG.o Mp.o⟩
 | false=>
 cases q2:((mn:Int) !=(gn:Int) - 1) with
 |
  true=>
  have HE:AI (R=false):=AA (by rw [HRR.o];split;rw [Ai (by simp at q2;have:=Lh.o;have:=HGN.o;omega)];rfl);go_wp2_with fail;go_ret;exact ⟨Ay HE.o.symm,AV BG.o Mp.o⟩
 | false=>
 have HE:AI (R=TU x.fields y.fields (List.replicate fn false) (List.replicate gn false) XI):=AA (by simp at q1 q2;rw [HRR.o,Ao (by have:=Lh.o;have:=Li.o;omega),Ao (by have:=Lh.o;have:=HGN.o;omega),<-Li.o,<-HGN.o])
 clear HRR;have AHc:=fun W=>WA fn AG W;have AHb:=fun W=>WA gn AG W;go_upto_region 6 with fail;clear q1 q2;go_cut [7,8] from 60 (fun v7 v8 wx=>∃gu gs,v7=AB (some ⟨gu,0,none⟩) fn fn/\v8=AB (some ⟨gs,0,none⟩) gn gn/\gu≠gs/\wb.heap.size<=gu/\wb.heap.size<=gs/\AZ wx gu 4 (Array.replicate fn (Value.bool false))/\AZ wx gs 4 (Array.replicate gn (Value.bool false))/\AK wb wx)
 case first=>
  go_region
  all_goals
   go_wp2_with fail
   go_meet
   first
    | exact ⟨wq.heap.size,wq.heap.size+1,rfl,rfl,by omega,Mp.o.size,by have:=Mp.o.size;omega,KQ ((AZ.new _ _ _).alloc _),KQ (DY AX),((Mp.o.alloc Mp.o.size _).alloc (by have:=Mp.o.size;simp;omega) _).drew⟩
    | exact ⟨wq.heap.size+1,wq.heap.size,rfl,rfl,by omega,by have:=Mp.o.size;omega,Mp.o.size,KQ (DY AX),KQ ((AZ.new _ _ _).alloc _),((Mp.o.alloc Mp.o.size _).alloc (by have:=Mp.o.size;simp;omega) _).drew⟩
 obtain ⟨gu,gs,rfl,rfl,hne,hgu,hgs,hbu,hbs,hbx⟩:=hcut;rw [y8] at hbu hbs;have jg:=AA hbu;have Qp:=AA hbs;have PI:=AA hbx;have HNE:=AA hne;have HGU:=AA hgu;have HGS:=AA hgs;have bx4:=(HB.o.below hbx lB).five.2.2.2.2;have lBx:=Au lB hbx.size;clear AHc AHb b0 b1 b2 b3 b4 hbu hbs hbx hne hgu hgs;clear HB1 HB2 Mp lBq hi0 hj0 hi1 hj1 hab H3 SP HA lA;go_wp2_with fail;clear bx4 lBx HB lB;go_loopg [69] mn (fun q i wr=>∃(k:Nat) (us ts:List Bool),k<=mn/\q=mn - k/\i=AE AF k/\us.length=fn/\ts.length=gn/\TU x.fields y.fields us ts (XI.drop k)=R/\AZ wr gu 4 (us.map Value.bool).toArray/\AZ wr gs 4 (ts.map Value.bool).toArray/\AK wb wr)
 case atStart=>exact ⟨0,List.replicate fn false,List.replicate gn false,Av _,rfl,rfl,by simp,by simp,by rw [HE.o];rfl,jg.o,Qp.o,PI.o⟩
 clear jg Qp PI HE;obtain ⟨k,us,ts,hk,hq,rfl,hus,hts,hgo,hbu,hbs,hb⟩:=hrel;have HQ:=AA hq;have HUS:=AA hus;have HTS:=AA hts;have pM:=AA hgo;have jg:=AA hbu;have Qp:=AA hbs;have C4:=AA hb;have CO:AI (AK w wr):=AA (AV BG.o hb);clear hq hus hts hgo hbu hbs hb;by_cases hlt:k < mn
 case neg=>
  have HT:AI (R=true):=AA (by rw [<-pM.o,Ex (by have:=Lh.o;omega)];rfl)
  go_wp2_with fail;go_ret;exact ⟨Ay HT.o.symm,CO.o⟩
 have hbz:AK w0 wr:=AV HB0.o CO.o;obtain ⟨gm,om,m,hMA,hml,hmx,e0,e1,e2,e3,e4⟩:=Z7 (HM.o.mono Fq hbz) hlt;subst hMA;have hk0:=Int.natCast_nonneg k
 have hk1:(k:Int) < (mn:Int):=AG
 have HG1:AI (TU x.fields y.fields us ts (m::XI.drop (k+1))=R):=AA (by rw [<-drop_cons hmx];exact pM.o);have JH:=AA hbz;obtain ⟨mt,mf,mb,ma,XJ⟩:=m;clear hmx hbz pM;by_cases hin:1<=ma/\ma < fn/\1<=mb/\mb < gn
 case neg=>
  have HE:AI (R=false):=AA (by rw [<-HG1.o,TU,Ao (by rw [<-Li.o,<-HGN.o];exact hin)])
  go_wp2_with fail
  all_goals first
   | (exfalso;omega)
   | (go_ret;exact ⟨Ay HE.o.symm,CO.o.alloc CO.o.size _⟩)
 obtain ⟨h1,h2,h3,h4⟩:=hin;obtain ⟨pa,rfl⟩:∃n:Nat,ma=n:=⟨ma.toNat,by omega⟩;obtain ⟨pb,rfl⟩:∃n:Nat,mb=n:=⟨mb.toNat,by omega⟩;obtain ⟨ub,hub⟩:∃v,us[pa]? =some v:=⟨us[pa]'(by have:=HUS.o;omega),BJ _⟩;obtain ⟨tb,htb⟩:∃v,ts[pb]? =some v:=⟨ts[pb]'(by have:=HTS.o;omega),BJ _⟩;have cu:wr.cell? ⟨gu,pa,none⟩=some (Ab ub):=by rw [jg.o.cell];simp [hub]
 have ct':wr.cell? ⟨gs,pb,none⟩=some (Ab tb):=by rw [Qp.o.cell];simp [htb]
 have fu:=jg.o.frozen pa;have fs:=Qp.o.frozen pb;have lu:=jg.o.lt;have ls:=Qp.o.lt;have z1:decide (pa < 1)=false:=Bc AG;have z2:decide (fn<=pa)=false:=Bc AG;have z3:decide (pb < 1)=false:=Bc AG;have z4:decide (gn<=pb)=false:=Bc AG;have HG2:AI (R=if us[pa]? =some true then false else if ts[pb]? =some true then false else if cS x.fields y.fields ⟨mt,mf,pb,pa,XJ⟩ then TU x.fields y.fields (us.set pa true) (ts.set pb true) (XI.drop (k+1)) else false):=AA (by rw [<-HG1.o,TU,Ai (by rw [<-Li.o,<-HGN.o];exact fun h=>h ⟨h1,h2,h3,h4⟩)];simp only [Cm])
 clear HG1;cases ub with
 |
  true=>
  have HE:AI (R=false):=AA (by rw [HG2.o,Ao hub]);go_wp2_with fail;go_ret;exact ⟨Ay HE.o.symm,CO.o.alloc CO.o.size _⟩
 | false=>
 cases tb with
 |
  true=>
  have HE:AI (R=false):=AA (by rw [HG2.o,Ai (by rw [hub];simp),Ao htb]);go_wp2_with fail;go_ret;exact ⟨Ay HE.o.symm,CO.o.alloc CO.o.size _⟩
 | false=>
 have Zs:AI (R=if cS x.fields y.fields ⟨mt,mf,pb,pa,XJ⟩ then TU x.fields y.fields (us.set pa true) (ts.set pb true) (XI.drop (k+1)) else false):=AA (by rw [HG2.o,Ai (by rw [hub];simp),Ai (by rw [htb];simp)])
 clear HG2;go_upto_region 12 with fail;clear z1 z2 z3 z4 cu ct' fu fs lu ls;obtain ⟨wm,hwm⟩:=Ad (wr.alloc (AO #[AL mt,AL mf,AE AF pb,AE AF pa,AE AF XJ] 294));rw [<-hwm];have HBM:AI (AK wb wm):=AA (by rw [hwm];exact C4.o.alloc C4.o.size _);have VH:AI (AZ wm wr.heap.size 294 #[AL mt,AL mf,AE AF pb,AE AF pa,AE AF XJ]):=AA (by rw [hwm];exact AZ.new _ _ _);have dk:AI (AZ wm gu 4 (us.map Value.bool).toArray):=AA (by rw [hwm];exact jg.o.alloc _);have LJ:AI (AZ wm gs 4 (ts.map Value.bool).toArray):=AA (by rw [hwm];exact Qp.o.alloc _);have cu:wm.cell? ⟨gu,pa,none⟩=some (Ab false):=by rw [dk.o.cell];simp [hub]
 have ct':wm.cell? ⟨gs,pb,none⟩=some (Ab false):=by rw [LJ.o.cell];simp [htb]
 have fu:=dk.o.frozen pa;have fs:=LJ.o.frozen pb;have lu:=dk.o.lt;have ls:=LJ.o.lt;have HLU:AI (gu < wr.heap.size):=AA jg.o.lt;have jZ:AI (gs < wr.heap.size):=AA Qp.o.lt;have lM:=VH.o.lt;obtain ⟨m0,m1,m2,m3,m4⟩:=VH.o.five;have hne1:gu≠wr.heap.size:=by have:=HLU.o;omega
 have hne2:gs≠wr.heap.size:=by have:=jZ.o;omega
 have nQ:=HNE.o;clear hwm e0 e1 e2 e3 e4 hub htb;go_cut [69] from 69 to 133 (fun v69 wx=>v69=AE AF k/\AZ wx gu 4 ((us.set pa true).map Value.bool).toArray/\AZ wx gs 4 ((ts.set pb true).map Value.bool).toArray/\AZ wx wr.heap.size 294 #[AL mt,AL mf,AE AF pb,AE AF pa,AE AF XJ]/\AK wb wx)
 case first=>
  go_region
  all_goals
   go_wp2_with fail
   go_meet
   first
    | exact ⟨rfl,KQ ((QF dk.o).far nQ _),KQ (QF (LJ.o.far nQ.symm _)),KQ ((VH.o.far hne1.symm _).far hne2.symm _),((HBM.o.setCell HGU.o _).setCell HGS.o _).drew⟩
    | exact ⟨rfl,KQ (QF (dk.o.far nQ _)),KQ ((QF LJ.o).far nQ.symm _),KQ ((VH.o.far hne2.symm _).far hne1.symm _),((HBM.o.setCell HGS.o _).setCell HGU.o _).drew⟩
 obtain ⟨rfl,hbu,hbs,hbm,hbx⟩:=hcut;obtain ⟨m0,m1,m2,m3,m4⟩:=hbm.five;have lM:=hbm.lt;have AGr:=AA hbu;have pW:=AA hbs;have PI:=AA hbx;have AJZ:=AA hbm;have SP:AI (AK w wc):=AA (AV BG.o hbx);have bB:AI (AK w0 wc):=AA (AV HB0.o SP.o);clear hbu hbs hbm hbx cu ct' fu fs lu ls dk LJ HBM VH HLU jZ hne1 hne2 nQ;obtain ⟨x1,xo,X,XB,xm,xd,hX,hxl,hX1,f0,f1,f2,f3,f4,f5,f6,f7,f8,f9,f10,GX⟩:=IQ (HF.o.mono Cy bB.o) (k:=pa) AG;subst hX;obtain ⟨y1,yo,Y,YB,ym,yd,hY,hyl,hY1,p0,p1,p2,p3,p4,p5,p6,p7,p8,p9,p10,GY⟩:=IQ (HG.o.mono Cy bB.o) (k:=pb) AG;subst hY;have hpa:(pa:Int) < (fn:Int):=AG
 have hpb:(pb:Int) < (gn:Int):=AG
 have AJA:(0:Int)<=(pa:Int):=AG
 have AI9:(0:Int)<=(pb:Int):=AG
 obtain ⟨fv,hfv⟩:=BP (fitsV X.type Y.type XJ xm ym);have HFV:AI (cS x.fields y.fields ⟨mt,mf,pb,pa,XJ⟩=fv):=AA (by rw [<-hfv,cS];simp only [Cm,hX1,hY1];rw [<-GX.1.len,<-GY.1.len])
 have HFI:AI (AS prog 179 #[AP #[AE AF X.type.kind,AE AF X.type.lo,AE AF X.type.hi,AL X.type.An,AE AF X.type.unit,AB XB xm xd],AP #[AE AF Y.type.kind,AE AF Y.type.lo,AE AF Y.type.hi,AL Y.type.An,AE AF Y.type.unit,AB YB ym yd],AE AF XJ] wc.drew fun e w'=>e=AU (Ab fv)/\AK wc w'):=AA (by have:=AAP X.type Y.type XJ XB YB xm xd ym yd wc.drew;rw [hfv] at this;exact this.mono fun _ _ h=>⟨h.1,(Ae wc.heap.size wc).drew.trans h.2⟩)
 have HS:AI (∀W,AK wc W->W.cell? ⟨wr.heap.size,2,none⟩=some (AE AF pb)/\W.cell? ⟨wr.heap.size,3,none⟩=some (AE AF pa)/\W.cell? ⟨wr.heap.size,4,none⟩=some (AE AF XJ)/\
  W.cell? ⟨x1,xo+pa*11+1,none⟩=some (AE AF X.type.kind)/\W.cell? ⟨x1,xo+pa*11+2,none⟩=some (AE AF X.type.lo)/\W.cell? ⟨x1,xo+pa*11+3,none⟩=some (AE AF X.type.hi)/\W.cell? ⟨x1,xo+pa*11+4,none⟩=some (AL X.type.An)/\W.cell? ⟨x1,xo+pa*11+5,none⟩=some (AE AF X.type.unit)/\W.cell? ⟨x1,xo+pa*11+6,none⟩=some (AB XB xm xd)/\
  W.cell? ⟨y1,yo+pb*11+1,none⟩=some (AE AF Y.type.kind)/\W.cell? ⟨y1,yo+pb*11+2,none⟩=some (AE AF Y.type.lo)/\W.cell? ⟨y1,yo+pb*11+3,none⟩=some (AE AF Y.type.hi)/\W.cell? ⟨y1,yo+pb*11+4,none⟩=some (AL Y.type.An)/\W.cell? ⟨y1,yo+pb*11+5,none⟩=some (AE AF Y.type.unit)/\W.cell? ⟨y1,yo+pb*11+6,none⟩=some (AB YB ym yd)):=AA (fun W hW=>
  ⟨(
   hW.cell (p:=⟨_,_,none⟩) lM).trans m2,(hW.cell (p:=⟨_,_,none⟩) lM).trans m3,(hW.cell (p:=⟨_,_,none⟩) lM).trans m4,
   (hW.cell (p:=⟨_,_,none⟩) hxl).trans f1,(hW.cell (p:=⟨_,_,none⟩) hxl).trans f2,(hW.cell (p:=⟨_,_,none⟩) hxl).trans f3,(hW.cell (p:=⟨_,_,none⟩) hxl).trans f4,(hW.cell (p:=⟨_,_,none⟩) hxl).trans f5,(hW.cell (p:=⟨_,_,none⟩) hxl).trans f6,
   (hW.cell (p:=⟨_,_,none⟩) hyl).trans p1,(hW.cell (p:=⟨_,_,none⟩) hyl).trans p2,(hW.cell (p:=⟨_,_,none⟩) hyl).trans p3,(hW.cell (p:=⟨_,_,none⟩) hyl).trans p4,(hW.cell (p:=⟨_,_,none⟩) hyl).trans p5,(hW.cell (p:=⟨_,_,none⟩) hyl).trans p6⟩)
 clear hfv hX1 hY1 f0 f1 f2 f3 f4 f5 f6 f7 f8 f9 f10 GX p0 p1 p2 p3 p4 p5 p6 p7 p8 p9 p10 GY m0 m1 m2 m3 m4;go_upto_region 13 with fail
 go_region_held3 (fun W=>W.cell? ⟨wr.heap.size,2,none⟩=some (AE AF pb)/\W.cell? ⟨wr.heap.size,3,none⟩=some (AE AF pa)/\W.cell? ⟨wr.heap.size,4,none⟩=some (AE AF XJ)/\
  W.cell? ⟨x1,xo+pa*11+1,none⟩=some (AE AF X.type.kind)/\W.cell? ⟨x1,xo+pa*11+2,none⟩=some (AE AF X.type.lo)/\W.cell? ⟨x1,xo+pa*11+3,none⟩=some (AE AF X.type.hi)/\W.cell? ⟨x1,xo+pa*11+4,none⟩=some (AL X.type.An)/\W.cell? ⟨x1,xo+pa*11+5,none⟩=some (AE AF X.type.unit)/\W.cell? ⟨x1,xo+pa*11+6,none⟩=some (AB XB xm xd)/\
  W.cell? ⟨y1,yo+pb*11+1,none⟩=some (AE AF Y.type.kind)/\W.cell? ⟨y1,yo+pb*11+2,none⟩=some (AE AF Y.type.lo)/\W.cell? ⟨y1,yo+pb*11+3,none⟩=some (AE AF Y.type.hi)/\W.cell? ⟨y1,yo+pb*11+4,none⟩=some (AL Y.type.An)/\W.cell? ⟨y1,yo+pb*11+5,none⟩=some (AE AF Y.type.unit)/\W.cell? ⟨y1,yo+pb*11+6,none⟩=some (AB YB ym yd))
  (first | with_reducible exact HS.o _ (Ae _ _) | with_reducible exact HS.o _ (Ae _ _).drew | with_reducible exact HS.o _ hb3)
  (first
   | (go_at_call 179;refine HFI.o.mono ?_;rintro e w3 ⟨rfl,hb3⟩))
 have HB3:=AA hb3;clear hb3 lM hxl hyl;cases fv with
 |
  false=>
  have HE:AI (R=false):=AA (by rw [Zs.o,HFV.o];rfl);go_wp2_with fail;go_ret;exact ⟨Ay HE.o.symm,AV SP.o HB3.o⟩
 |
  true=>
  go_wp2_with fail;go_roundg (mn - (k+1))
  case measure=>exact BS
  case rel=>exact ⟨k+1,us.set pa true,ts.set pb true,by omega,rfl,by go_num,by simpa using HUS.o,by simpa using HTS.o,by rw [Zs.o,HFV.o];rfl,AGr.o.below HB3.o AGr.o.lt,pW.o.below HB3.o pW.o.lt,AV PI.o HB3.o⟩
theorem qE {x y:GT} (e0:x.name=y.name) (e1:(decide (x.w0=y.w0) && decide (x.w1=y.w1) && decide (x.w2=y.w2) && decide (x.w3=y.w3))=true) (e2:x.type.kind=y.type.kind) (e3:x.type.lo=y.type.lo) (e4:x.type.hi=y.type.hi) (e5:x.type.An=y.type.An) (e6:x.type.unit=y.type.unit) (e7:x.type.names=y.type.names):true=decide (x=y):=by obtain ⟨n,⟨t0,t1,t2,t3,t4,t5⟩,v0,v1,v2,v3⟩:=x;obtain ⟨n',⟨t0',t1',t2',t3',t4',t5'⟩,v0',v1',v2',v3'⟩:=y;simp only [Bj,B8] at e1;simp_all
theorem jn (A1 B1:Option Aa) (n1 c1 m1 d1:Nat) (x y:GT) (w:AH) (h1:Ag 1 DQ w (AB A1 n1 c1) x.type.names) (k1:Ag 1 DQ w (AB B1 m1 d1) y.type.names):
 AS prog 188 #[AP #[AL x.name,AE AF x.type.kind,AE AF x.type.lo,AE AF x.type.hi,AL x.type.An,AE AF x.type.unit,AB A1 n1 c1,AE AF x.w0,AE AF x.w1,AE AF x.w2,AE AF x.w3],AP #[AL y.name,AE AF y.type.kind,AE AF y.type.lo,AE AF y.type.hi,AL y.type.An,AE AF y.type.unit,AB B1 m1 d1,AE AF y.w0,AE AF y.w1,AE AF y.w2,AE AF y.w3]] w fun e w'=>e=AU (Ab (decide (x=y)))/\AK w w':=by
 have H1:=AA h1;have K1:=AA k1;clear h1 k1;go_enter func188,ntmps188;go_upto_region 1 with fail;obtain ⟨wb,hwb⟩:=Ad ((w.alloc (AO #[AL x.name,AE AF x.type.kind,AE AF x.type.lo,AE AF x.type.hi,AL x.type.An,AE AF x.type.unit,AB A1 n1 c1,AE AF x.w0,AE AF x.w1,AE AF x.w2,AE AF x.w3] 112)).alloc (AO #[AL y.name,AE AF y.type.kind,AE AF y.type.lo,AE AF y.type.hi,AL y.type.An,AE AF y.type.unit,AB B1 m1 d1,AE AF y.w0,AE AF y.w1,AE AF y.w2,AE AF y.w3] 112));rw [<-hwb];have hbb:AK w wb:=by rw [hwb];exact (BE _ _).alloc AX _
 have kA:AZ wb w.heap.size 112 #[AL x.name,AE AF x.type.kind,AE AF x.type.lo,AE AF x.type.hi,AL x.type.An,AE AF x.type.unit,AB A1 n1 c1,AE AF x.w0,AE AF x.w1,AE AF x.w2,AE AF x.w3]:=by rw [hwb];exact (AZ.new _ _ _).alloc _
 have kB:AZ wb (w.heap.size+1) 112 #[AL y.name,AE AF y.type.kind,AE AF y.type.lo,AE AF y.type.hi,AL y.type.An,AE AF y.type.unit,AB B1 m1 d1,AE AF y.w0,AE AF y.w1,AE AF y.w2,AE AF y.w3]:=by rw [hwb];exact DY AX
 obtain ⟨ga,hga⟩:=Ad w.heap.size;obtain ⟨gb,hgb⟩:=Ad (w.heap.size+1);rw [<-hgb] at kB ⊢;rw [<-hga] at kA ⊢;have Ha:ga=w.heap.size:=hga;clear hwb hga hgb;have la:=kA.lt;have lb:=kB.lt;have a0:=kA.cell 0;have b0:=kB.cell 0;have a1:=kA.cell 1;have b1:=kB.cell 1;have a2:=kA.cell 2;have b2:=kB.cell 2;have a3:=kA.cell 3;have b3:=kB.cell 3;have a4:=kA.cell 4;have b4:=kB.cell 4;have a5:=kA.cell 5;have b5:=kB.cell 5;have a6:=kA.cell 6;have b6:=kB.cell 6;have a7:=kA.cell 7;have b7:=kB.cell 7;have a8:=kA.cell 8;have b8:=kB.cell 8;have a9:=kA.cell 9;have b9:=kB.cell 9;have a10:=kA.cell 10;have b10:=kB.cell 10;simp only [Ak,Al,Az] at a0 b0 a1 b1 a2 b2 a3 b3 a4 b4 a5 b5 a6 b6 a7 b7 a8 b8 a9 b9 a10 b10;have HA:=AA kA;have HB:=AA kB;have BG:=AA hbb;have Bh:AI (AK wb wb):=AA (Ae _ _);clear kA kB hbb Ha;clear Bh;go_region
 ·obtain ⟨wc,hwc⟩:=Ad (((wb.alloc (AO #[AE AF x.type.kind,AE AF x.type.lo,AE AF x.type.hi,AL x.type.An,AE AF x.type.unit,AB A1 n1 c1] 109)).alloc (AO #[AE AF y.type.kind,AE AF y.type.lo,AE AF y.type.hi,AL y.type.An,AE AF y.type.unit,AB B1 m1 d1] 109)).drew)
  rw [<-hwc];have kS:AZ wc wb.heap.size 109 #[AE AF x.type.kind,AE AF x.type.lo,AE AF x.type.hi,AL x.type.An,AE AF x.type.unit,AB A1 n1 c1]:=by rw [hwc];exact ((AZ.new _ _ _).alloc _).drew
  have kT:AZ wc (wb.heap.size+1) 109 #[AE AF y.type.kind,AE AF y.type.lo,AE AF y.type.hi,AL y.type.An,AE AF y.type.unit,AB B1 m1 d1]:=by rw [hwc];exact (DY AX).drew
  have Bh:AI (AK wb wc):=AA rz;clear hwc;obtain ⟨gs,hgs⟩:=Ad wb.heap.size;obtain ⟨gt,hgt⟩:=Ad (wb.heap.size+1);rw [<-hgt] at kT ⊢;rw [<-hgs] at kS ⊢;clear hgs hgt;clear a0 b0 a1 b1 a2 b2 a3 b3 a4 b4 a5 b5 a6 b6 a7 b7 a8 b8 a9 b9 a10 b10;have a0:=(HA.o.below Bh.o la).cell 0;have b0:=(HB.o.below Bh.o lb).cell 0;have a1:=(HA.o.below Bh.o la).cell 1;have b1:=(HB.o.below Bh.o lb).cell 1;have a2:=(HA.o.below Bh.o la).cell 2;have b2:=(HB.o.below Bh.o lb).cell 2;have a3:=(HA.o.below Bh.o la).cell 3;have b3:=(HB.o.below Bh.o lb).cell 3;have a4:=(HA.o.below Bh.o la).cell 4;have b4:=(HB.o.below Bh.o lb).cell 4;have a5:=(HA.o.below Bh.o la).cell 5;have b5:=(HB.o.below Bh.o lb).cell 5;have a6:=(HA.o.below Bh.o la).cell 6;have b6:=(HB.o.below Bh.o lb).cell 6;have a7:=(HA.o.below Bh.o la).cell 7;have b7:=(HB.o.below Bh.o lb).cell 7;have a8:=(HA.o.below Bh.o la).cell 8;have b8:=(HB.o.below Bh.o lb).cell 8;have a9:=(HA.o.below Bh.o la).cell 9;have b9:=(HB.o.below Bh.o lb).cell 9;have a10:=(HA.o.below Bh.o la).cell 10;have b10:=(HB.o.below Bh.o lb).cell 10;simp only [Ak,Al,Az] at a0 b0 a1 b1 a2 b2 a3 b3 a4 b4 a5 b5 a6 b6 a7 b7 a8 b8 a9 b9 a10 b10;have s0c:=kS.cell 0;have t0c:=kT.cell 0;have s1c:=kS.cell 1;have t1c:=kT.cell 1;have s2c:=kS.cell 2;have t2c:=kT.cell 2;have s3c:=kS.cell 3;have t3c:=kT.cell 3;have s4c:=kS.cell 4;have t4c:=kT.cell 4;have s5c:=kS.cell 5;have t5c:=kT.cell 5;simp only [Ak,Al,Az] at s0c t0c s1c t1c s2c t2c s3c t3c s4c t4c s5c t5c;have ls:=kS.lt;have lt:=kT.lt;clear kS kT;by_cases e0:x.name=y.name
  case neg=>
   have s0:(x.name.toList==y.name.toList)=false:=by rw [DG];exact Bc e0
   exact UR
  have s0:(x.name.toList==y.name.toList)=true:=by rw [DG];exact BR e0
  have E0:=AA e0;clear e0;have hfo:=td x.w0 x.w1 x.w2 x.w3 y.w0 y.w1 y.w2 y.w3;by_cases e1:(decide (x.w0=y.w0) && decide (x.w1=y.w1) && decide (x.w2=y.w2) && decide (x.w3=y.w3))=true
  case neg=>
   have s1:(decide (x.w0=y.w0) && decide (x.w1=y.w1) && decide (x.w2=y.w2) && decide (x.w3=y.w3))=false:=by simpa using e1
   exact yD
  rw [e1] at hfo;have E1:=AA e1;clear e1;by_cases e2:x.type.kind=y.type.kind
  case neg=>exact bK
  have E2:=AA e2;by_cases e3:x.type.lo=y.type.lo
  case neg=>exact bL
  have E3:=AA e3;by_cases e4:x.type.hi=y.type.hi
  case neg=>exact xy
  have E4:=AA e4;by_cases e5:x.type.An=y.type.An
  case neg=>
   have s5:(x.type.An.toList==y.type.An.toList)=false:=by rw [DG];exact Bc e5
   exact yC
  have s5:(x.type.An.toList==y.type.An.toList)=true:=by rw [DG];exact BR e5
  have E5:=AA e5;clear e5;by_cases e6:x.type.unit=y.type.unit
  case neg=>exact x7
  have E6:=AA e6;by_cases e7:x.type.names=y.type.names
  case neg=>
   have HC:AI (AS prog 120 #[AB A1 n1 c1,AB B1 m1 d1] wc fun e w'=>e=AU (Ab false)/\AK wc w'):=AA sM
   exact yQ
  have HC:AI (AS prog 120 #[AB A1 n1 c1,AB B1 m1 d1] wc fun e w'=>e=AU (Ab true)/\AK wc w'):=AA sL
  exact yS
 obtain ⟨wc,hwc⟩:=Ad (((wb.alloc (AO #[AE AF y.type.kind,AE AF y.type.lo,AE AF y.type.hi,AL y.type.An,AE AF y.type.unit,AB B1 m1 d1] 109)).alloc (AO #[AE AF x.type.kind,AE AF x.type.lo,AE AF x.type.hi,AL x.type.An,AE AF x.type.unit,AB A1 n1 c1] 109)).drew);rw [<-hwc];have kS:AZ wc (wb.heap.size+1) 109 #[AE AF x.type.kind,AE AF x.type.lo,AE AF x.type.hi,AL x.type.An,AE AF x.type.unit,AB A1 n1 c1]:=by rw [hwc];exact (DY AX).drew
 have kT:AZ wc wb.heap.size 109 #[AE AF y.type.kind,AE AF y.type.lo,AE AF y.type.hi,AL y.type.An,AE AF y.type.unit,AB B1 m1 d1]:=by rw [hwc];exact ((AZ.new _ _ _).alloc _).drew
 have Bh:AI (AK wb wc):=AA rz;clear hwc;obtain ⟨gs,hgs⟩:=Ad (wb.heap.size+1);obtain ⟨gt,hgt⟩:=Ad wb.heap.size;rw [<-hgs] at kS ⊢;rw [<-hgt] at kT ⊢;clear hgs hgt;clear a0 b0 a1 b1 a2 b2 a3 b3 a4 b4 a5 b5 a6 b6 a7 b7 a8 b8 a9 b9 a10 b10;have a0:=(HA.o.below Bh.o la).cell 0;have b0:=(HB.o.below Bh.o lb).cell 0;have a1:=(HA.o.below Bh.o la).cell 1;have b1:=(HB.o.below Bh.o lb).cell 1;have a2:=(HA.o.below Bh.o la).cell 2;have b2:=(HB.o.below Bh.o lb).cell 2;have a3:=(HA.o.below Bh.o la).cell 3;have b3:=(HB.o.below Bh.o lb).cell 3;have a4:=(HA.o.below Bh.o la).cell 4;have b4:=(HB.o.below Bh.o lb).cell 4;have a5:=(HA.o.below Bh.o la).cell 5;have b5:=(HB.o.below Bh.o lb).cell 5;have a6:=(HA.o.below Bh.o la).cell 6;have b6:=(HB.o.below Bh.o lb).cell 6;have a7:=(HA.o.below Bh.o la).cell 7;have b7:=(HB.o.below Bh.o lb).cell 7;have a8:=(HA.o.below Bh.o la).cell 8;have b8:=(HB.o.below Bh.o lb).cell 8;have a9:=(HA.o.below Bh.o la).cell 9;have b9:=(HB.o.below Bh.o lb).cell 9;have a10:=(HA.o.below Bh.o la).cell 10;have b10:=(HB.o.below Bh.o lb).cell 10;simp only [Ak,Al,Az] at a0 b0 a1 b1 a2 b2 a3 b3 a4 b4 a5 b5 a6 b6 a7 b7 a8 b8 a9 b9 a10 b10;have s0c:=kS.cell 0;have t0c:=kT.cell 0;have s1c:=kS.cell 1;have t1c:=kT.cell 1;have s2c:=kS.cell 2;have t2c:=kT.cell 2;have s3c:=kS.cell 3;have t3c:=kT.cell 3;have s4c:=kS.cell 4;have t4c:=kT.cell 4;have s5c:=kS.cell 5;have t5c:=kT.cell 5;simp only [Ak,Al,Az] at s0c t0c s1c t1c s2c t2c s3c t3c s4c t4c s5c t5c;have ls:=kS.lt;have lt:=kT.lt;clear kS kT;by_cases e0:x.name=y.name
 case neg=>
  have s0:(x.name.toList==y.name.toList)=false:=by rw [DG];exact Bc e0
  exact UR
 have s0:(x.name.toList==y.name.toList)=true:=by rw [DG];exact BR e0
 have E0:=AA e0;clear e0;have hfo:=td x.w0 x.w1 x.w2 x.w3 y.w0 y.w1 y.w2 y.w3;by_cases e1:(decide (x.w0=y.w0) && decide (x.w1=y.w1) && decide (x.w2=y.w2) && decide (x.w3=y.w3))=true
 case neg=>
  have s1:(decide (x.w0=y.w0) && decide (x.w1=y.w1) && decide (x.w2=y.w2) && decide (x.w3=y.w3))=false:=by simpa using e1
  exact yD
 rw [e1] at hfo;have E1:=AA e1;clear e1;by_cases e2:x.type.kind=y.type.kind
 case neg=>exact bK
 have E2:=AA e2;by_cases e3:x.type.lo=y.type.lo
 case neg=>exact bL
 have E3:=AA e3;by_cases e4:x.type.hi=y.type.hi
 case neg=>exact xy
 have E4:=AA e4;by_cases e5:x.type.An=y.type.An
 case neg=>
  have s5:(x.type.An.toList==y.type.An.toList)=false:=by rw [DG];exact Bc e5
  exact yC
 have s5:(x.type.An.toList==y.type.An.toList)=true:=by rw [DG];exact BR e5
 have E5:=AA e5;clear e5;by_cases e6:x.type.unit=y.type.unit
 case neg=>exact x7
 have E6:=AA e6;by_cases e7:x.type.names=y.type.names
 case neg=>
  have HC:AI (AS prog 120 #[AB A1 n1 c1,AB B1 m1 d1] wc fun e w'=>e=AU (Ab false)/\AK wc w'):=AA sM
  exact yQ
 have HC:AI (AS prog 120 #[AB A1 n1 c1,AB B1 m1 d1] wc fun e w'=>e=AU (Ab true)/\AK wc w'):=AA sL
 exact yS
theorem Xh (A B:Option Aa) (n c m d:Nat) (l r:List GT) (w:AH) (hl:Ag 11 EU w (AB A n c) l) (hr:Ag 11 EU w (AB B m d) r):
 AS prog 187 #[AB A n c,AB B m d,.func (.func 188) #[] #[]] w fun e w'=>e=AU (Ab (A8 l r))/\AK w w':=by
 have hn2:n<=9223372036854775807:=by have:=hl.le;omega
 have hln:=hl.len;have hrn:=hr.len;have HL:=AA hl;have HR:=AA hr;clear hl hr;by_cases e:n=m
 ·subst e
  have el:l.length=r.length:=AG
  have HN:=AA hln;have HE:=AA el;clear hln hrn el;obtain ⟨v,hv⟩:=BP (A8 l r);rw [hv];have HV:AI (A8 (l.drop 0) (r.drop 0)=v):=AA hv;clear hv;go_enter func187,ntmps187;go_wp2_with fail;go_loopg [17] n (fun q i wr=>∃k:Nat,k<=n/\q=n - k/\i=AE AF k/\A8 (l.drop k) (r.drop k)=v/\AK w wr)
  case atStart=>exact Jz
  obtain ⟨k,hk,hq,rfl,hv,hb⟩:=hrel;have HQ:=AA hq;have HB:=AA hb;have Dw:=AA hv;clear hq hb hv HV;by_cases hlt:k < n
  ·obtain ⟨a,ao,x,A1,n1,c1,rfl,hal,hx,e0,e1,e2,e3,e4,e5,e6,e7,e8,e9,e10,g1⟩:=IQ (HL.o.mono Cy HB.o) hlt
   obtain ⟨b,bo,y,B1,m1,d1,rfl,hbl,hy,f0,f1,f2,f3,f4,f5,f6,f7,f8,f9,f10,j1⟩:=IQ (HR.o.mono Cy HB.o) hlt;have HX:=AA hx;have HY:=AA hy;have G1:=AA g1;have J1:=AA j1;have hkn:(k:Int) < (n:Int):=AG
   have hk0:=Int.natCast_nonneg k
   clear hx hy g1 j1;go_wp2_with (go_at_call 188;refine (jn A1 B1 n1 c1 m1 d1 x y _ (G1.o.1.mono BV ((BE _ _).alloc AX _)) (J1.o.1.mono BV ((BE _ _).alloc AX _))).mono ?_);rintro e w1 ⟨rfl,hb1⟩;have HB1:=AA (HB.o.trans (((BE _ _).alloc AX _).trans (hb1.mono BN) |>.mono HB.o.size));by_cases exy:x=y
   ·have hd:decide (x=y)=true:=BR exy
    rw [hd];have VB:=AA exy;clear exy hd hb1;go_wp2_with fail;go_roundg (n - (k+1))
    case measure=>exact BS
    case rel=>exact T9
   exact US
  exact L7
 have el:¬l.length=r.length:=AG
 rw [FX el];go_enter func187,ntmps187;exact Jy
end Go.Proofs.YtamhoilkpppdbaaGreatDoor
