import Derived.Test.YtamhoilkpppdbaaGreatDoorL03
namespace Go.Proofs.YtamhoilkpppdbaaGreatDoor
set_option maxHeartbeats 8000000
set_option maxRecDepth 100000
open Go renaming World→AH, Value→AN, Calls→AS, TypeId→Ae, Addr→Aa
open Go.RowKit renaming Below→BL
open Go.Proofs.Tryz
variable (A1 A2 A3 A4 A5 A6:Option Aa) (n1 c1 n2 c2 n3 c3 n4 c4 n5 c5 n6 c6:Nat)
open Go.Value renaming slice→AA, int→AB, string→AL, pointer→AU, bool→Ab, agg→AP, tuple→BU
open Go.IntKind renaming i64→AE
open Go.Ending renaming returned→AW, panicked→CN
open Go.Obj renaming cells→AO
open Go.Operand renaming tmp→AX
open Go.RowKit
def O7:ByteArray:=⟨#[]⟩
def LX (u b:Bv):Int:=if 2<=u.factor/\u.factor<=1000/\u.factor*b.scale<=1099511627776 then u.factor*b.scale else 0
def Kt (names:List ByteArray) (out:List Bv) (u:Bv):Option (List Bv):=
 if u.Au=O7 then some (out++[{u with base:=(out.length:Int),scale:=1}])
 else match idx names u.Au with
  | none=>none
  |
   some n=>match out[n]? with
   | none=>none
   | some b=>some (out++[{u with base:=b.base,scale:=LX u b}])
def FR (names:List ByteArray) (us:List Bv):Nat->Option (List Bv)
 | 0=>some []
 |
  k+1=>match FR names us k,us[k]? with
  | some out,some u=>Kt names out u
  | some out,none=>some out
  | none,_=>none
def Se (names:List ByteArray) (us:List Bv):Option (List Bv):=FR names us us.length
theorem LV {names:List ByteArray} {us:List Bv} {k:Nat} {out:List Bv} {u:Bv} (h:FR names us k=some out) (hu:us[k]? =some u):FR names us (k+1)=Kt names out u:=by rw [FR,h,hu]
theorem XW {names:List ByteArray} {us:List Bv} {k:Nat} (h:FR names us k=none):∀m,FR names us (k+m)=none
 | 0=>h
 | m+1=>by rw [<-Ji,FR,XW h m]
theorem Z6 {names:List ByteArray} {us:List Bv} {k:Nat} (hk:k<=us.length) (h:FR names us k=none):Se names us=none:=by
 have:=XW h (us.length - k)
 rwa [show k+(us.length - k)=us.length by omega] at this
theorem oJ {names:List ByteArray} {out out':List Bv} {u:Bv} (h:Kt names out u=some out'):∃x,out'=out++[x]:=by
 unfold Kt at h;split at h
 · exact ⟨_,(DE h).symm⟩
 split at h
 · cases h
 split at h
 · cases h
 · exact ⟨_,(DE h).symm⟩
theorem UL {names:List ByteArray} {us:List Bv}:∀{k:Nat} {out:List Bv},k<=us.length->FR names us k=some out->out.length=k
 | 0,out,_,h=>by rw [FR,Bz] at h;subst h;rfl
 |
  k+1,out,hk,h=>by
  have hu:us[k]? =some us[k]:=BN hk;cases ho:FR names us k with
  | none=>rw [FR,ho] at h;cases h
  |
   some o=>
   rw [LV ho hu] at h;obtain ⟨x,rfl⟩:=oJ h;simp [UL AG ho]
def ScB (out:List Bv):Prop:=∀x∈out,0<=x.scale/\x.scale<=1099511627776
theorem sB {names:List ByteArray} {out out':List Bv} {u:Bv} (hs:ScB out) (h:Kt names out u=some out'):ScB out':=by
 unfold Kt at h;split at h
 ·rw [Bz] at h
  subst h;intro x hx;rcases Ka.1 hx with hx | hx
  · exact hs x hx
  · rw [F5.1 hx];simp
 split at h
 · cases h
 split at h
 · cases h
 rename_i b hb
 rw [Bz] at h;subst h;intro x hx;rcases Ka.1 hx with hx | hx
 · exact hs x hx
 rw [F5.1 hx];have hbs:=hs b (Cr hb);simp only [LX];split
 ·rename_i hc
  refine ⟨LQ AG hbs.1,hc.2.2⟩
 · simp
theorem V2 {names:List ByteArray} {us:List Bv}:∀{k:Nat} {out:List Bv},FR names us k=some out->ScB out
 | 0,out,h=>by rw [FR,Bz] at h;subst h;intro x hx;cases hx
 |
  k+1,out,h=>by
  cases ho:FR names us k with
  | none=>rw [FR,ho] at h;cases h
  |
   some o=>
   cases hu:us[k]? with
   |
    none=>
    rw [FR,ho,hu] at h;rw [<-DE h];exact V2 ho
   |
    some u=>
    rw [LV ho hu] at h;exact sB (V2 ho) h
def WW (names:List ByteArray) (us:List Bv) (base:Nat) (v:AN) (n:Nat) (w:AH) (e:Ending) (w':AH):Prop:=
 w.grownBy w' v.ownBlock/\match Se names us with
  | none=>e=CN Bu
  | some out=>e=AW (BU #[])/\∃cs,w'.ownsRow base 201 5 v n cs/\Ap 5 CS w cs out
theorem Z8 {names:List ByteArray} {us:List Bv} {base:Nat} {v:AN} {n:Nat} {w w':AH} (h:Se names us=none) (hg:w.grownBy w' v.ownBlock):WW names us base v n w (CN Bu) w':=by refine ⟨hg,?_⟩;rw [h]
theorem Xk {names:List ByteArray} {us out:List Bv} {base:Nat} {v:AN} {n:Nat} {w w':AH} {cs:List AN} (h:Se names us=some out) (hg:w.grownBy w' v.ownBlock) (ho:w'.ownsRow base 201 5 v n cs) (hc:Ap 5 CS w cs out):WW names us base v n w (AW (BU #[])) w':=by refine ⟨hg,?_⟩;rw [h];exact ⟨rfl,cs,ho,hc⟩
theorem Lk {w:AH} {base:Nat} {e:Ae} {sz g n cap:Nat} {cs:List AN} (h:w.ownsRow base e sz (AA (some ⟨g,0,none⟩) n cap) n cs):∃cs t f,w.heap[g]? =some (Obj.cells cs t f):=by
 rcases h.2 with ⟨h,_⟩ | ⟨g',cap',cur,h,_,hh,_⟩
 · cases h
 injection h with h1;injection h1 with h1;injection h1 with h1;subst h1;exact ⟨_,_,_,hh⟩
theorem Ex {a b c:AH} {row:Option Nat} (h:a.grownBy b row) (h':b.grownBy c row):a.grownBy c row:=
 ⟨h'.os.trans h.os,h'.tape.trans h.tape,h'.output.trans h.output,BH h.size h'.size,fun k hk hne=>(h'.block k (Av hk h.size) hne).trans (h.block k hk hne)⟩
theorem L0:O7.toList=[]:=by rw [ByteArray.toList_eq];rfl
theorem bK {s:ByteArray} (h:s≠O7):s.toList.isEmpty=false:=by
 cases hs:s.toList with
 | nil=>exact absurd ((str_eq s O7).1 (by rw [hs,L0];rfl)) h
 | cons a r=>rfl
theorem oI {w:AH} {cs:List AN} {l:List Bv} {k:Nat} {u:Bv} (h:Ap 5 CS w cs l) (hk:l[k]? =some u) (b s:Int):Ap 5 CS w ((cs.set (k*5+3) (AB AE b)).set (k*5+4) (AB AE s)) (l.set k {u with base:=b,scale:=s}):=by
 have hkl:=(BF.1 hk).1;have h1:Ap 5 CS w (cs.set (k*5+3) (AB AE b)) (l.set k {u with base:=b}):=h.put AG hkl uQ
 have h2:=h1.put (i:=k) (j:=4) (x':={u with base:=b,scale:=s}) (u:=AB AE s) AG SE uj
 rwa [IL] at h2
theorem dt (R b2 base g n cap:Nat) (us:List Bv) (cs:List AN) (names:List ByteArray) (w:AH) (hR:w.cell? ⟨R,1,none⟩=some (.map (some b2))) (hRl:R < w.heap.size) (hm:MapAt IY Gv w b2 (col names).1) (hgR:g≠R)
 (ho:w.ownsRow base 201 5 (AA (some ⟨g,0,none⟩) n cap) n cs) (hc:Ap 5 CS w cs us) (hn:n=us.length):
 AS prog 159 #[AU (some ⟨R,0,none⟩),AA (some ⟨g,0,none⟩) n cap] w (WW names us base (AA (some ⟨g,0,none⟩) n cap) n w):=by
 have hn2:n<=9223372036854775807:=by
  rcases ho.2 with ⟨h,_⟩ | ⟨g',cap',cur,h,_,_,h1,h2,_⟩
  · cases h
  · unfold maxLen at h2;omega
 obtain ⟨HR,HM,HO,HC,HN,Vr⟩:=Fg hR hm ho hc hn (Lk ho);clear hR hm ho hc hn;go_enter func159,ntmps159;go_wp2_with fail;go_loopg [9] n (fun q i wr=>∃(k:Nat) (out:List Bv) (cs':List AN),k<=n/\q=n - k/\i=AB AE k/\FR names us k=some out/\w.grownBy wr (some g)/\wr.ownsRow base 201 5 (AA (some ⟨g,0,none⟩) n cap) n cs'/\Ap 5 CS w cs' (out++us.drop k))
 case atStart=>exact ⟨0,[],cs,Ay _,rfl,rfl,rfl,Cu _ _,HO.o,HC.o⟩
 clear HO HC;obtain ⟨k,out,cs',hk,hq,rfl,hto,hgr,ho,hc⟩:=hrel;obtain ⟨HQ,Dl,Gp,HO,HC⟩:=Db hq hto hgr ho hc;clear hq hto hgr ho hc;by_cases hlt:k < n
 ·obtain ⟨u,hu⟩:∃u,us[k]? =some u:=⟨us[k]' MF,BN _⟩
  have hlen:=UL MF Dl.o;have hat:(out++us.drop k)[k]? =some u:=by rw [Cj AG,EO,hlen];simpa using hu
  have hch:chunk cs' 5 k=[AL u.name,AL u.Au,AB AE u.factor,AB AE u.base,AB AE u.scale]:=HC.o.chunk hat;have c1:=BI HO.o hlt AG hch (j:=1) rfl;have c2:=BI HO.o hlt AG hch (j:=2) rfl;have c3:=BI HO.o hlt AG hch (j:=3) rfl;have c4:=BI HO.o hlt AG hch (j:=4) rfl;have f3:=HO.o.frozenAt (k*5+3);have f4:=HO.o.frozenAt (k*5+4);obtain ⟨HU,RD,HLEN,HAT⟩:=CD hu hch hlen hat;clear hu hch hlen hat;by_cases hof:u.Au=O7
  ·have t1:u.Au.toList.isEmpty=true:=by rw [hof,L0];rfl
   have t2:u.Au.toList=[]:=by rw [hof,L0]
   have PW:=AF hof;clear hof;go_wp2;go_roundg (n - (k+1))
   case measure=>exact Bi
   have ho1:=HO.o.stored (k*5+3) (AB AE k);have ho2:=ho1.1.stored (k*5+4) (AB AE 1);refine ⟨k+1,out++[{u with base:=(k:Int),scale:=1}],_,by omega,rfl,by go_num,?_,Ex Gp.o (Ex ho1.2 ho2.2),ho2.1,?_⟩
   · rw [LV Dl.o HU.o,Kt,Ak PW.o,HLEN.o]
   rw [<-set_drop HLEN.o HU.o];exact oI HC.o HAT.o _ _
  have t1:u.Au.toList.isEmpty=false:=bK hof;have t2:¬u.Au.toList=[]:=by intro e;rw [e] at t1;cases t1
  have PW:=AF hof;clear hof;have hRg:some R≠some g:=by simp;exact fun e=>hgR e.symm
  have hR2:wr.cell? ⟨R,1,none⟩=some (.map (some b2)):=Gp.o.cell HR.o (by simpa using hRg);have AMc:R < wr.heap.size:=Av hRl Gp.o.size;have hmw:MapAt IY Gv wr.drew b2 (col names).1:=(HM.o.keeps (CU.grown Gp.o (fun x e=>by cases e;exact Vr.o))).same rfl;have M8:=AF hmw;have hget:=Ie names u.Au;clear hmw;go_wp2_with fail
  go_still_tail 8,AJ
  change wpList _ _ _ _ _ wr.drew;go_wp2_with fail;cases hix:idx names u.Au with
  |
   none=>
   rw [hix] at hget;refine (Hm b2 _ _ wr.drew M8.o hget).mono ?_;rintro e w' ⟨rfl,rfl⟩;have Ij:=AF hix;clear hix hget
   go_wp2
   refine ⟨rfl,Z8 (Z6 (k:=k+1) MF ?_) (grown_drew Gp.o)⟩;rw [LV Dl.o HU.o,Kt,Ah PW.o,Ij.o]
  |
   some m=>
   rw [hix] at hget;refine (Ft b2 _ _ (m:Int) wr.drew M8.o hget).mono ?_;rintro e w' ⟨rfl,rfl⟩;have Ij:=AF hix;clear hix hget;by_cases hmk:m < k
   ·obtain ⟨b,hb⟩:∃b,out[m]? =some b:=⟨out[m]' SQ,BN _⟩
    have qG:(out++us.drop k)[m]? =some b:=by rw [EB SQ];exact hb
    have AEa:chunk cs' 5 m=[AL b.name,AL b.Au,AB AE b.factor,AB AE b.base,AB AE b.scale]:=HC.o.chunk qG;have d3:=BI HO.o (show m < n by omega) AG AEa (j:=3) rfl;have hsc:=V2 Dl.o b (Cr hb);obtain ⟨HB,AMd⟩:=Al hb AEa;clear hb qG AEa;have hmn:(m:Int) < (n:Int):=AG
    have hm0:(0:Int)<=(m:Int):=AG
    have tk:decide (k<=m)=false:=by simp;omega
    go_upto_region 10 with fail;clear tk;have ho1:=HO.o.stored (k*5+3) (AB AE b.base);have ho2:=ho1.1.stored (k*5+4) (AB AE 0);have hoq:=ho2.1.drew;have hgq:w.grownBy ((wr.setCell ⟨g,k*5+3,none⟩ (AB AE b.base)).setCell ⟨g,k*5+4,none⟩ (AB AE 0)).drew (some g):=grown_drew (Ex Gp.o (Ex ho1.2 ho2.2));have hcq:Ap 5 CS w _ ((out++us.drop k).set k {u with base:=b.base,scale:=0}):=oI HC.o HAT.o b.base 0;generalize ((wr.setCell ⟨g,k*5+3,none⟩ (AB AE b.base)).setCell ⟨g,k*5+4,none⟩ (AB AE 0)).drew=wq at hoq hgq ⊢;generalize (cs'.set (k*5+3) (AB AE b.base)).set (k*5+4) (AB AE 0)=cq at hoq hcq
    have hkl:k < (out++us.drop k).length:=(BF.1 HAT.o).1;have MD:((out++us.drop k).set k {u with base:=b.base,scale:=0})[k]? =some {u with base:=b.base,scale:=0}:=Hg hkl;have qG:((out++us.drop k).set k {u with base:=b.base,scale:=0})[m]? =some b:=by rw [Jf AG,EB SQ];exact HB.o
    have hck:chunk cq 5 k=[AL u.name,AL u.Au,AB AE u.factor,AB AE b.base,AB AE 0]:=hcq.chunk MD;have hcm:chunk cq 5 m=[AL b.name,AL b.Au,AB AE b.factor,AB AE b.base,AB AE b.scale]:=hcq.chunk qG;have e2:=BI hoq hlt AG hck (j:=2) rfl;have e4:=BI hoq hlt AG hck (j:=4) rfl;have g4:=BI hoq (show m < n by omega) AG hcm (j:=4) rfl;have fe4:=hoq.frozenAt (k*5+4);obtain ⟨LH,PY,Yy,TX⟩:=CD hoq hgq hcq MD;clear c1 c2 c3 c4 f3 f4 d3 ho1 ho2 hoq hgq hcq hck hcm MD qG hR2 hkl;have hstep:∀z,LX u b=z->FR names us (k+1)=some (out++[{u with base:=b.base,scale:=z}]):=by intro z hz;rw [LV Dl.o HU.o,Kt,Ah PW.o,Ij.o];simp only [HB.o];rw [hz]
    have HST:=AF hstep;clear hstep;by_cases h2:¬2<=u.factor
    ·have t2:decide ((2:Int)<=u.factor)=false:=by simpa using h2
     have HZ:AI (LX u b=0):=by show _=_;unfold LX;rw [Ah (fun h=>h2 h.1)]
     clear h2;exact nW
    have h2':2<=u.factor:=Decidable.not_not.1 h2;clear h2;by_cases h3:¬u.factor<=1000
    ·have t2:decide (u.factor<=(1000:Int))=false:=by simpa using h3
     have HZ:AI (LX u b=0):=by show _=_;unfold LX;rw [Ah (fun h=>h3 h.2.1)]
     clear h3;exact nW
    have h3':u.factor<=1000:=Decidable.not_not.1 h3;clear h3;obtain ⟨P,hP⟩:=BR (u.factor*b.scale);have hP0:0<=P:=by rw [<-hP];exact LQ AG hsc.1
    have hP1:P<=1099511627776000:=by rw [<-hP];have:=Po h3' hsc.2 hsc.1 AG;omega
    have hw:IntKind.i64.wrap (u.factor*b.scale)=P:=by rw [hP];exact Ca _ AG
    have HP:=AF hP;clear hP;by_cases h4:P<=1099511627776
    ·have t2:decide (P<=(1099511627776:Int))=true:=by simpa using h4
     have HZ:AI (LX u b=P):=by show _=_;unfold LX;rw [Ak ⟨h2',h3',by rw [HP.o];exact h4⟩];exact HP.o
     go_quiet (fail);go_wp2_with fail;have hox:(wq.drewN nq).ownsRow base 201 5 (AA (some ⟨g,0,none⟩) n cap) n cq:=LH.o.kept (row:=none) (grown_drewN (Cu _ _) _) Nl;have hgx:=grown_drewN PY.o nq;have e2':(wq.drewN nq).cell? ⟨g,k*5+2,none⟩=_:=e2;have e4':(wq.drewN nq).cell? ⟨g,k*5+4,none⟩=_:=e4;have g4':(wq.drewN nq).cell? ⟨g,m*5+4,none⟩=_:=g4;have AK1:(wq.drewN nq).frozen? ⟨g,k*5+4,none⟩=false:=fe4;generalize wq.drewN nq=wx at hox hgx e2' e4' g4' AK1 ⊢;obtain ⟨rH,HGX⟩:=Al hox hgx;clear e2 e4 g4 fe4 hox hgx
     go_still_tail 13,AJ
     change wpList _ _ _ _ _ wx.drew;go_wp2;go_roundg (n - (k+1))
     case measure=>exact Bi
     have ho3:=rH.o.drew.stored (k*5+4) (AB AE P);refine ⟨k+1,_,_,by omega,rfl,by go_num,HST.o P HZ.o,Ex (grown_drew HGX.o) ho3.2,ho3.1,?_⟩;rw [<-set_drop HLEN.o HU.o];have hkl:=(BF.1 TX.o).1;have:=Yy.o.put (i:=k) (j:=4) (x':={u with base:=b.base,scale:=P}) (u:=AB AE P) AG hkl (by have:chunk cq 5 k=_:=Yy.o.chunk TX.o;rw [this];rfl)
     rwa [IL] at this
    have t2:decide (P<=(1099511627776:Int))=false:=by simpa using h4
    have HZ:AI (LX u b=0):=by show _=_;unfold LX;rw [Ah (fun h=>h4 (by rw [<-HP.o];exact h.2.2))]
    clear h4;exact nW
   go_wp2_with fail;refine ⟨rfl,Z8 (Z6 (k:=k+1) MF ?_) (grown_drew Gp.o)⟩;rw [LV Dl.o HU.o,Kt,Ah PW.o,Ij.o];simp only;rw [Dh SQ]
 have hke:k=us.length:=by have:=HN.o;omega
 go_wp2_with fail
 go_end0
 refine Xk (out:=out) ?_ Gp.o HO.o ?_
 · unfold Se;rw [<-hke];exact Dl.o
 have:=HC.o;rw [hke,Kc,FM] at this;exact this
theorem du (R b2 base n:Nat) (v:AN) (us:List Bv) (cs:List AN) (names:List ByteArray) (w:AH) (hR:w.cell? ⟨R,1,none⟩=some (.map (some b2))) (hRl:R < w.heap.size) (hm:MapAt IY Gv w b2 (col names).1) (hbR:R < base)
 (ho:w.ownsRow base 201 5 v n cs) (hc:Ap 5 CS w cs us) (hn:n=us.length):
 AS prog 159 #[AU (some ⟨R,0,none⟩),v] w (WW names us base v n w):=by
 rcases ho.2 with ⟨rfl,h0⟩ | ⟨g,cap,cur,rfl,hbg,_⟩
 ·subst h0
  have hu:us=[]:=Jh hn.symm;subst hu;obtain ⟨HO,HC⟩:=Al ho hc;clear ho hc hR hm hn;go_enter func159,ntmps159;go_wp2_with fail;refine wp_loop_rounds 1 ?_;rw [rounds_succ];go_wp2_with fail
  go_end0
  exact Xk (out:=[]) rfl (Cu _ _) HO.o HC.o
 · exact dt R b2 base g n cap us cs names w hR hRl hm AG ho hc hn
def IF {α:Type} (t:Ae) (sz:Nat) (R:AH->List AN->α->Prop) (l:List α) (w:AH) (e:Ending) (w':AH):Prop:=
 ∃v cs,e=AW v/\Ap sz R w cs l/\w'.ownsRow w.heap.size t sz v l.length cs/\AK w w'
theorem AFE {p:Prop} (h:p:=by
 have hlen:=hs.1.len;have hbd:=hs.2;have HS:=AF hs.1;clear hs;rcases A with _ | ad
 ·have hl:l=[]:=by
   obtain ⟨cs,hcs,_⟩:=HS.o.cells;cases l with
   | nil=>rfl
   | cons x r=>obtain ⟨b,off,x,cs,e,_⟩:=HS.o.at_ (k:=0) (by rw [hlen];simp);cases e
  subst hl;obtain rfl:n=0:=by simpa using hlen
  clear hlen hbd;have hnil:=fun w:AH=>Lib.run_eql_slice_nil (P:=prog) w _ _ none 0 c 0 0 cU;simp only [Option.isNone_none] at hnil;go_enter cF,cN
  go_wp2
  go_ret;exact ⟨_,[],rfl,Ap.nil,Ef _ _ _ _,Af _ _⟩
 ·obtain ⟨i0,hi,hz0,hz1,hz2⟩:=I8 cI
  have HLEN:=AF hlen;have hnb:=hbd;rw [<-hlen] at hnb;clear hlen;have hnil:=fun w:AH=>Lib.run_eql_slice_nil (P:=prog) w _ _ (some ad) n c 0 0 cU;simp only [Option.isNone_some] at hnil;go_enter cF,cN;go_wp2_with (at_builtin;refine CQ _ rfl (AX 5) (AX 6) _ _ rfl i0 _ _ cU hi hz0 hz1 hz2 rfl Ai (R:=fun _=>R w) (fun _=>hone w) w.heap.size (AA (some ⟨w.heap.size,0,none⟩) 0 0) 0 [] rfl (Ui w #[] 0 (Ac _) (Ay _) rfl) (some ad) n c l rfl (HS.o.fix (BK _ _)) Gx AG AZ ?_;intro v' w1 cs hcs hown hgr hat);exact nx
 ):p:=h
theorem AGs:(prog.info? 9).map (fun i=>(i.zero,i.size,i.bytes))=some (some (AL ⟨#[]⟩),1,16):=by kernel_rfl
open Go.Proofs.Tryz renaming func153 → cF, ntmps153 → cN, underlying22 → cU in
theorem yq {α:Type} {R:AH->List AN->α->Prop} (hone:One R) (A:Option Aa) (n c:Nat) (l:List α) (w:AH) (hs:BV 1 16 R w (AA A n c) l):
 AS prog 153 #[AA A n c] w (IF 9 1 R l w):=by have cI:=AGs;exact LO
theorem AD0:(prog.info? 201).map (fun i=>(i.zero,i.size,i.bytes))=some (some (AP #[AL ⟨#[]⟩,AL ⟨#[]⟩,AB AE 0,AB AE 0,AB AE 0]),5,56):=by kernel_rfl
open Go.Proofs.Tryz renaming func154 → cF, ntmps154 → cN, underlying23 → cU in
theorem tH {α:Type} {R:AH->List AN->α->Prop} (hone:One R) (A:Option Aa) (n c:Nat) (l:List α) (w:AH) (hs:BV 5 56 R w (AA A n c) l):
 AS prog 154 #[AA A n c] w (IF 201 5 R l w):=by have cI:=AD0;exact LO
theorem xj:(prog.info? 85).map (fun i=>(i.zero,i.size,i.bytes))=some (some (AP #[AL ⟨#[]⟩,AL ⟨#[]⟩,AB AE 0,AB AE 0,AA none 0 0,AA none 0 0]),6,96):=by kernel_rfl
open Go.Proofs.Tryz renaming func155 → cF, ntmps155 → cN, underlying24 → cU in
theorem mS {α:Type} {R:AH->List AN->α->Prop} (hone:One R) (A:Option Aa) (n c:Nat) (l:List α) (w:AH) (hs:BV 6 96 R w (AA A n c) l):
 AS prog 155 #[AA A n c] w (IF 85 6 R l w):=by have cI:=xj;exact LO
theorem AD1:(prog.info? 160).map (fun i=>(i.zero,i.size,i.bytes))=some (some (AP #[AL ⟨#[]⟩,AB AE 0,AA none 0 0,AA none 0 0,AA none 0 0]),5,96):=by kernel_rfl
open Go.Proofs.Tryz renaming func156 → cF, ntmps156 → cN, underlying25 → cU in
theorem tI {α:Type} {R:AH->List AN->α->Prop} (hone:One R) (A:Option Aa) (n c:Nat) (l:List α) (w:AH) (hs:BV 5 96 R w (AA A n c) l):
 AS prog 156 #[AA A n c] w (IF 160 5 R l w):=by have cI:=AD1;exact LO
theorem tD:(prog.info? 163).map (fun i=>(i.zero,i.size,i.bytes))=some (some (AP #[AL ⟨#[]⟩,AL ⟨#[]⟩,AB AE 0,AB AE 0,AA none 0 0]),5,72):=by kernel_rfl
open Go.Proofs.Tryz renaming func157 → cF, ntmps157 → cN, underlying26 → cU in
theorem i9 {α:Type} {R:AH->List AN->α->Prop} (hone:One R) (A:Option Aa) (n c:Nat) (l:List α) (w:AH) (hs:BV 5 72 R w (AA A n c) l):
 AS prog 157 #[AA A n c] w (IF 163 5 R l w):=by have cI:=tD;exact LO
theorem tC:(prog.info? 166).map (fun i=>(i.zero,i.size,i.bytes))=some (some (AP #[AL ⟨#[]⟩,AA none 0 0,AB AE 0]),3,48):=by kernel_rfl
open Go.Proofs.Tryz renaming func158 → cF, ntmps158 → cN, underlying27 → cU in
theorem i7 {α:Type} {R:AH->List AN->α->Prop} (hone:One R) (A:Option Aa) (n c:Nat) (l:List α) (w:AH) (hs:BV 3 48 R w (AA A n c) l):
 AS prog 158 #[AA A n c] w (IF 166 3 R l w):=by have cI:=tC;exact LO
theorem ACF:(prog.info? 112).map (fun i=>(i.zero,i.size,i.bytes))=some (some (AP #[AL ⟨#[]⟩,AB AE 0,AB AE 0,AB AE 0,AL ⟨#[]⟩,AB AE 0,AA none 0 0,AB AE 0,AB AE 0,AB AE 0,AB AE 0]),11,120):=by kernel_rfl
open Go.Proofs.Tryz renaming func210 → cF, ntmps210 → cN, underlying82 → cU in
theorem ql {α:Type} {R:AH->List AN->α->Prop} (hone:One R) (A:Option Aa) (n c:Nat) (l:List α) (w:AH) (hs:BV 11 120 R w (AA A n c) l):
 AS prog 210 #[AA A n c] w (IF 112 11 R l w):=by have cI:=ACF;exact LO
theorem AGx:(prog.info? 290).map (fun i=>(i.zero,i.size,i.bytes))=some (some (AP #[AA none 0 0,AL ⟨#[]⟩,AA none 0 0,AB AE 0]),4,72):=by kernel_rfl
open Go.Proofs.Tryz renaming func211 → cF, ntmps211 → cN, underlying83 → cU in
theorem yv {α:Type} {R:AH->List AN->α->Prop} (hone:One R) (A:Option Aa) (n c:Nat) (l:List α) (w:AH) (hs:BV 4 72 R w (AA A n c) l):
 AS prog 211 #[AA A n c] w (IF 290 4 R l w):=by have cI:=AGx;exact LO
theorem AD5:(prog.info? 298).map (fun i=>(i.zero,i.size,i.bytes))=some (some (AP #[AL ⟨#[]⟩,AL ⟨#[]⟩,AB AE 0,AL ⟨#[]⟩,AL ⟨#[]⟩,AB AE 0,AB AE 0,AB AE 0]),8,96):=by kernel_rfl
open Go.Proofs.Tryz renaming func212 → cF, ntmps212 → cN, underlying156 → cU in
theorem tK {α:Type} {R:AH->List AN->α->Prop} (hone:One R) (A:Option Aa) (n c:Nat) (l:List α) (w:AH) (hs:BV 8 96 R w (AA A n c) l):
 AS prog 212 #[AA A n c] w (IF 298 8 R l w):=by have cI:=AD5;exact LO
theorem mU (A:Option Aa) (n c:Nat) (l:List CO) (w:AH) (hs:BV 8 96 DU w (AA A n c) l):
 AS prog 212 #[AA A n c] w (IF 298 8 DU l w):=tK xJ A n c l w hs
theorem AD6:(prog.info? 281).map (fun i=>(i.zero,i.size,i.bytes))=some (some (AP #[AB AE 0,AL ⟨#[]⟩,AL ⟨#[]⟩,AB AE 0,AB AE 0,AB AE 0,AL ⟨#[]⟩,AL ⟨#[]⟩,AB AE 0,AB AE 0,AB AE 0]),11,120):=by kernel_rfl
open Go.Proofs.Tryz renaming func214 → cF, ntmps214 → cN, underlying157 → cU in
theorem tL {α:Type} {R:AH->List AN->α->Prop} (hone:One R) (A:Option Aa) (n c:Nat) (l:List α) (w:AH) (hs:BV 11 120 R w (AA A n c) l):
 AS prog 214 #[AA A n c] w (IF 281 11 R l w):=by have cI:=AD6;exact LO
theorem mV (A:Option Aa) (n c:Nat) (l:List Iv) (w:AH) (hs:BV 11 120 Ea w (AA A n c) l):
 AS prog 214 #[AA A n c] w (IF 281 11 Ea l w):=tL xK A n c l w hs
theorem AGt:(prog.info? 284).map (fun i=>(i.zero,i.size,i.bytes))=some (some (AP #[AL ⟨#[]⟩,AB AE 0,AL ⟨#[]⟩,AL ⟨#[]⟩,AB AE 0,AB AE 0,AB AE 0]),7,80):=by kernel_rfl
open Go.Proofs.Tryz renaming func215 → cF, ntmps215 → cN, underlying158 → cU in
theorem yr {α:Type} {R:AH->List AN->α->Prop} (hone:One R) (A:Option Aa) (n c:Nat) (l:List α) (w:AH) (hs:BV 7 80 R w (AA A n c) l):
 AS prog 215 #[AA A n c] w (IF 284 7 R l w):=by have cI:=AGt;exact LO
theorem qi (A:Option Aa) (n c:Nat) (l:List Ma) (w:AH) (hs:BV 7 80 Gs w (AA A n c) l):
 AS prog 215 #[AA A n c] w (IF 284 7 Gs l w):=yr ABd A n c l w hs
theorem AD2:(prog.info? 294).map (fun i=>(i.zero,i.size,i.bytes))=some (some (AP #[AL ⟨#[]⟩,AL ⟨#[]⟩,AB AE 0,AB AE 0,AB AE 0]),5,56):=by kernel_rfl
open Go.Proofs.Tryz renaming func216 → cF, ntmps216 → cN, underlying161 → cU in
theorem tJ {α:Type} {R:AH->List AN->α->Prop} (hone:One R) (A:Option Aa) (n c:Nat) (l:List α) (w:AH) (hs:BV 5 56 R w (AA A n c) l):
 AS prog 216 #[AA A n c] w (IF 294 5 R l w):=by have cI:=AD2;exact LO
theorem mT (A:Option Aa) (n c:Nat) (l:List LL) (w:AH) (hs:BV 5 56 Gf w (AA A n c) l):
 AS prog 216 #[AA A n c] w (IF 294 5 Gf l w):=tJ xI A n c l w hs
theorem AGu:(prog.info? 288).map (fun i=>(i.zero,i.size,i.bytes))=some (some (AP #[AL ⟨#[]⟩,AL ⟨#[]⟩,AB AE 0,AB AE 0]),4,48):=by kernel_rfl
open Go.Proofs.Tryz renaming func217 → cF, ntmps217 → cN, underlying164 → cU in
theorem yt {α:Type} {R:AH->List AN->α->Prop} (hone:One R) (A:Option Aa) (n c:Nat) (l:List α) (w:AH) (hs:BV 4 48 R w (AA A n c) l):
 AS prog 217 #[AA A n c] w (IF 288 4 R l w):=by have cI:=AGu;exact LO
theorem qj (A:Option Aa) (n c:Nat) (l:List Mb) (w:AH) (hs:BV 4 48 Iq w (AA A n c) l):
 AS prog 217 #[AA A n c] w (IF 288 4 Iq l w):=yt ABe A n c l w hs
def EX {α β:Type} (f:List β->α->Option β) (l:List α):Nat->Option (List β)
 | 0=>some []
 |
  k+1=>match EX f l k,l[k]? with
  | some out,some x=>(f out x).map (fun y=>out++[y])
  | some out,none=>some out
  | none,_=>none
def GJ {α β:Type} (f:List β->α->Option β) (l:List α):Option (List β):=EX f l l.length
section
variable {α β:Type} {f:List β->α->Option β} {l:List α}
theorem Fx {k:Nat} {out:List β} {x:α} {y:β} (h:EX f l k=some out) (hx:l[k]? =some x) (hy:f out x=some y):EX f l (k+1)=some (out++[y]):=by rw [EX,h,hx];simp only [hy,C6]
theorem FY {k:Nat} {out:List β} {x:α} (h:EX f l k=some out) (hx:l[k]? =some x) (hy:f out x=none):EX f l (k+1)=none:=by rw [EX,h,hx];simp only [hy,Jd]
theorem ej {k:Nat} (h:EX f l k=none):∀m,EX f l (k+m)=none
 | 0=>h
 | m+1=>by rw [<-Ji,EX,ej h m]
theorem FB {k:Nat} (hk:k<=l.length) (h:EX f l k=none):GJ f l=none:=by
 have:=ej h (l.length - k)
 rwa [show k+(l.length - k)=l.length by omega] at this
theorem Cw:∀{k:Nat} {out:List β},k<=l.length->EX f l k=some out->out.length=k
 | 0,out,_,h=>by rw [EX,Bz] at h;subst h;rfl
 |
  k+1,out,hk,h=>by
  have hu:l[k]? =some l[k]:=BN hk;cases ho:EX f l k with
  | none=>rw [EX,ho] at h;cases h
  |
   some o=>
   cases hy:f o l[k] with
   | none=>rw [FY ho hu hy] at h;cases h
   |
    some y=>
    rw [Fx ho hu hy,Bz] at h;subst h;simp [Cw AG ho]
end
def ES {α:Type} (T:Ae) (sz:Nat) (R:AH->List AN->α->Prop) (base G n cap i:Nat) (cs:List AN) (lo M:Nat) (res:Option α) (w:AH) (e:Ending) (w':AH):Prop:=
 w.grownBy w' (some G)/\match res with
  | none=>e=CN Bu
  | some x=>e=AW (BU #[])/\∃cs',w'.ownsRow base T sz (AA (some ⟨G,0,none⟩) n cap) n cs'/\(∀j,j≠i->chunk cs' sz j=chunk cs sz j)/\R (mask lo M w') (chunk cs' sz i) x
section
variable {α:Type} {T:Ae} {sz:Nat} {R:AH->List AN->α->Prop} {base G n cap i:Nat} {cs:List AN} {lo M:Nat} {w w':AH}
theorem Dv {res:Option α} (h:res=none) (hg:w.grownBy w' (some G)):ES T sz R base G n cap i cs lo M res w (CN Bu) w':=by subst h;exact ⟨hg,rfl⟩
theorem Qb {res:Option α} {x:α} (h:res=some x) (hg:w.grownBy w' (some G)) {cs':List AN} (ho:w'.ownsRow base T sz (AA (some ⟨G,0,none⟩) n cap) n cs') (hc:∀j,j≠i->chunk cs' sz j=chunk cs sz j) (hx:R (mask lo M w') (chunk cs' sz i) x):
 ES T sz R base G n cap i cs lo M res w (AW (BU #[])) w':=by
 subst h;exact ⟨hg,rfl,cs',ho,hc,hx⟩
end
theorem Mx {a w:AH} {row:Option Nat} (h:a.grownBy w row) {p:Aa} (hp:a.heap.size<=p.block) (v:AN):a.grownBy (w.setCell p v) row:=
 ⟨h.os,h.tape,h.output,by simpa [World.setCell] using h.size,fun k hk hne=>(C5 w p v k AG).trans (h.block k hk hne)⟩
theorem DB {a w:AH} {G:Nat} (h:a.grownBy w (some G)) (o:Nat) (v:AN):a.grownBy (w.setCell ⟨G,o,none⟩ v) (some G):=
 ⟨h.os,h.tape,h.output,by simpa [World.setCell] using h.size,fun k hk hne=>(C5 w _ v k (fun e=>hne Kg)).trans (h.block k hk hne)⟩
theorem Ey {w w':AH} (h:AK w w') (row:Option Nat):w.grownBy w' row:=⟨h.os,h.tape,h.output,h.size,fun k hk _=>h.block k hk⟩
theorem Hj {w:AH} {base:Nat} {e:Ae} {sz:Nat} {v:AN} {n:Nat} {cs:List AN} (h:w.ownsRow base e sz v n cs) {p:Aa} (hp:p.block < base) (u:AN):(w.setCell p u).ownsRow base e sz v n cs:=
 Pz h (a:=p) (fun e=>by have:=h.lt _ e;omega) u
theorem own_ne {w:AH} {base:Nat} {e:Ae} {sz g n cap:Nat} {cs:List AN} (h:w.ownsRow base e sz (AA (some ⟨g,0,none⟩) n cap) n cs) {p:Aa} (hp:p.block≠g) (u:AN):(w.setCell p u).ownsRow base e sz (AA (some ⟨g,0,none⟩) n cap) n cs:=
 Pz h (a:=p) (fun e=>by simp [Value.ownBlock] at e;exact hp e.symm) u
theorem Cs {w w':AH} {base:Nat} {e:Ae} {size:Nat} {v:AN} {n:Nat} {xs:List AN} (h:w.ownsRow base e size v n xs) (hb:AK w w'):w'.ownsRow base e size v n xs:=
 h.kept (row:=none) ⟨hb.os,hb.tape,hb.output,hb.size,fun k hk _=>hb.block k hk⟩ gR
theorem Jl {w:AH} {base:Nat} {e:Ae} {sz:Nat} {v:AN} {n:Nat} {cs:List AN} (h:w.ownsRow base e sz v n cs):(v=AA none 0 0/\n=0)\/∃g cap,v=AA (some ⟨g,0,none⟩) n cap/\base<=g/\g < w.heap.size/\n<=9223372036854775807:=by
 rcases h.2 with ⟨rfl,h0⟩ | ⟨g,cap,cur,rfl,h2,h3,h4,h5,_⟩
 · exact .inl ⟨rfl,h0⟩
 unfold maxLen at h5;exact .inr ⟨g,cap,rfl,h2,(DF.1 h3).1,by omega⟩
def Zk (s:BG) (m:Mb):Option Mb:=
 match idx (CM s) m.name with
 | none=>none
 |
  some a=>match s.Aq[a]? with
  | none=>none
  |
   some x=>match idx (fieldNames x) m.path with
   | none=>none
   | some f=>some {m with schema:=(a:Int),field:=(f:Int)}
def G6 (s:BG) (p:Cl):Option Cl:=(GJ (fun _=>Zk s) p.may).map (fun l=>{p with may:=l})
theorem X6 {l:List ByteArray} {x:ByteArray} {n:Nat} (h:idx l x=some n):n < l.length:=by unfold idx at h;rw [List.findIdx?_eq_some_iff_findIdx_eq] at h;exact h.1
theorem AGa {w:AH} {cs:List AN} {l:List Mb} {k:Nat} {u:Mb} (h:Ap 4 Iq w cs l) (hk:l[k]? =some u) (a:Int):Ap 4 Iq w (cs.set (k*4+2) (AB AE a)) (l.set k {u with schema:=a}):=
 h.put AG (BF.1 hk).1 uP
theorem ADL {w:AH} {cs:List AN} {l:List Mb} {k:Nat} {u:Mb} (h:Ap 4 Iq w cs l) (hk:l[k]? =some u) (a:Int):Ap 4 Iq w (cs.set (k*4+3) (AB AE a)) (l.set k {u with field:=a}):=
 h.put AG (BF.1 hk).1 uP
theorem Zt (R lo M base G n cap i:Nat) (cs:List AN) (s:BG) (p:Cl) (w:AH) (hres:KJ (mask lo M w) R s) (hlo:lo<=G) (G8:G < M) (vZ:M<=w.heap.size)
 (ho:w.ownsRow base 166 3 (AA (some ⟨G,0,none⟩) n cap) n cs) (hi:i < n) (hp:BZ (mask lo M w) (chunk cs 3 i) p):
 AS prog 163 #[AU (some ⟨R,0,none⟩),AU (some ⟨G,i*3,none⟩)] w (ES 166 3 BZ base G n cap i cs lo M (G6 s p) w):=by
 obtain ⟨A1,n1,c1,hch,hmay⟩:=hp;have p0:=BI ho hi AG hch (j:=0) rfl;have p1:=BI ho hi AG hch (j:=1) rfl;have VZ:G < w.heap.size:=AG
 obtain ⟨Hb,HO,RD,zV,HBD⟩:=Db hres ho hch (hmay.Ig jo) hmay.2;clear hres ho hch hmay;go_enter func163,ntmps163;go_wp2_with fail;refine (qj A1 n1 c1 p.may _ zV.o).mono ?_;rintro e w1 ⟨v,cs1,rfl,hcs1,ho1,hb1⟩;obtain ⟨vA,vn,vc,rfl⟩:∃A m c,v=AA A m c:=by
  exact AAD
 have q1:w1.cell? ⟨G,i*3+1,none⟩=some (AA A1 n1 c1):=((J4 hb1).1 _ _ VZ).trans p1;have hf1:w1.frozen? ⟨G,i*3+1,none⟩=false:=((J4 hb1).2 _ _ VZ).trans (HO.o.frozenAt _);have hG1:G < w1.heap.size:=Av VZ hb1.size;obtain ⟨IG,J7,HB1⟩:=BB ho1 hcs1 hb1;clear ho1 hcs1 hb1 p0 p1;go_wp2_with fail;have ho2:(w1.setCell ⟨G,i*3+1,none⟩ (AA vA vn vc)).ownsRow base 166 3 (AA (some ⟨G,0,none⟩) n cap) n (cs.set (i*3+1) (AA vA vn vc)):=((Cs HO.o HB1.o).stored (i*3+1) (AA vA vn vc)).1;have hi2:(w1.setCell ⟨G,i*3+1,none⟩ (AA vA vn vc)).ownsRow w.heap.size 288 4 (AA vA vn vc) p.may.length cs1:=Hj IG.o (by simpa using VZ) _;have hg2:w.grownBy (w1.setCell ⟨G,i*3+1,none⟩ (AA vA vn vc)) (some G):=DB (Ey HB1.o _) _ _;generalize w1.setCell ⟨G,i*3+1,none⟩ (AA vA vn vc)=w2 at ho2 hi2 hg2 ⊢;have hvn:vn=p.may.length:=by
  exact AAB
 obtain ⟨Jz,HI2,HG2,Ll⟩:=CD ho2 hi2 hg2 hvn;clear ho2 hi2 hg2 hvn q1 hf1 hG1 IG HB1;go_loopg [19] vn (fun q j wr=>∃(k:Nat) (out:List Mb) (cr:List AN),k<=vn/\q=vn - k/\j=AB AE k/\EX (fun _=>Zk s) p.may k=some out/\w.grownBy wr (some G)/\wr.ownsRow base 166 3 (AA (some ⟨G,0,none⟩) n cap) n (cs.set (i*3+1) (AA vA vn vc))/\
  wr.ownsRow w.heap.size 288 4 (AA vA vn vc) p.may.length cr/\Ap 4 Iq w cr (out++p.may.drop k))
 case atStart=>exact nw
 clear Jz HI2 HG2 J7;obtain ⟨k,out,cr,hk,hq,rfl,hto,hgr,hog,Gw,hcr⟩:=hrel;obtain ⟨HQ,Dl⟩:=Al hq hto;clear hq hto;by_cases hlt:k < vn
 ·rcases Jl Gw with ⟨h,h0⟩ | ⟨H,hcap,h,hH,hHw,hn2⟩
  · exact SZ
  injection h with h1 h2 h3;subst h1 h3;clear h2;have xu:vn<=9223372036854775807:=by have:=Ll.o;omega
  obtain ⟨m,hm⟩:∃m,p.may[k]? =some m:=⟨p.may[k]' Jm,BN _⟩;have hlen:=Cw Jm Dl.o;have hat:(out++p.may.drop k)[k]? =some m:=by rw [Cj AG,EO,hlen];simpa using hm
  have hch:chunk cr 4 k=[AL m.name,AL m.path,AB AE m.schema,AB AE m.field]:=hcr.chunk hat;have EL:wr.ownsRow w.heap.size 288 4 (AA (some ⟨H,0,none⟩) vn vc) vn cr:=by have:=Ll.o;rw [this] at Gw ⊢;exact Gw
  have e0:=BI EL hlt AG hch (j:=0) rfl;simp only [Ee] at e0;have e1:=BI EL hlt AG hch (j:=1) rfl;have e2:=BI EL hlt AG hch (j:=2) rfl;have e3:=BI EL hlt AG hch (j:=3) rfl;have f2:=EL.frozenAt (k*4+2);have bZ:chunk (cs.set (i*3+1) (AA (some ⟨H,0,none⟩) vn vc)) 3 i=[AL p.name,AA (some ⟨H,0,none⟩) vn vc,AB AE p.most]:=by rw [E8 _ AG,RD.o];rfl
  have g1:=BI hog hi AG bZ (j:=1) rfl;obtain ⟨b1,b2,b3,fA,fn,fc,hbR,hm1,hm2,ER,hfs⟩:=(Hb.o.below (C8 hgr hlo G8)).Ig;have r2:=hbR.cell 2;have r3:=hbR.cell 3;have lR:=hbR.lt;simp only [Aj,Ao,BA] at r2 r3;have hget:=Ie (CM s) m.name;obtain ⟨Gp,Lp,Ln,UG,HM,HLEN,HAT,Ht,Ph⟩:=P4 hgr hog EL hcr hm hlen hat (ER.same (w':=wr.drew) rfl) hfs;clear hgr hog Gw EL hcr hm hlen hat hch bZ hbR hm1 hm2 ER hfs;have hkn:(k:Int) < (vn:Int):=AG
  have hk0:=Int.natCast_nonneg k
  cases hix:idx (CM s) m.name with
  |
   none=>
   rw [hix] at hget;obtain ⟨Ij,Wb⟩:=Al hix hget;clear hix hget;go_wp2_with fail;have Co:AI (ES 166 3 BZ base G n cap i cs lo M (G6 s p) w (CN Bu) wr.drew):=by refine Dv ?_ (grown_drew Gp.o);unfold G6;rw [FB (k:=k+1) Jm (FY Dl.o HM.o (by unfold Zk;rw [Ij.o]))];rfl
   go_region_dies
   all_goals
    refine (Hm b3 _ _ _ Ht.o Wb.o).mono ?_;rintro e w' ⟨rfl,rfl⟩;exact ⟨rfl,Co.o⟩
  |
   some a=>
   rw [hix] at hget;obtain ⟨Ij,HF⟩:=Al hix ((Ft b3 _ _ (a:Int) wr.drew Ht.o hget).mono (R':=fun e w'=>e=AW (AB AE a)/\w'=wr.drew) Fl);have hal:=X6 hix;clear hix hget;go_wp2_with fail;refine wp_region_still_tail 12 AJ AJ ?_;simp only [Ff,Fe,Je,IK]
   repeat still_step
   still_call HF.o
   repeat still_step
   refine Fc ?_;change wpList _ _ _ _ _ wr.drew;go_upto_region 6 with fail;have hoq:=(Ln.o.stored (k*4+2) (AB AE a)).1.drew;have hgq:w.grownBy (wr.setCell ⟨H,k*4+2,none⟩ (AB AE a)).drew (some G):=grown_drew (Mx Gp.o (by simpa using hH) _);have OH:=(own_ne Lp.o (p:=⟨H,k*4+2,none⟩) Bd (AB AE a)).drew;have hcq:=AGa UG.o HAT.o (a:Int);generalize (wr.setCell ⟨H,k*4+2,none⟩ (AB AE a)).drew=wq at hoq hgq OH ⊢;generalize cr.set (k*4+2) (AB AE a)=cq at hoq hcq;have hkl:k < (out++p.may.drop k).length:=(BF.1 HAT.o).1;have MD:((out++p.may.drop k).set k {m with schema:=(a:Int)})[k]? =some {m with schema:=(a:Int)}:=Hg hkl;have hck:chunk cq 4 k=[AL m.name,AL m.path,AB AE a,AB AE m.field]:=hcq.chunk MD;have d1:=BI hoq hlt AG hck (j:=1) rfl;have d2:=BI hoq hlt AG hck (j:=2) rfl;have d3:=BI hoq hlt AG hck (j:=3) rfl;have fd3:=hoq.frozenAt (k*4+3);obtain ⟨b1',b2',b3',Tv,fn',Q0,Ia,_,_,_,Kw⟩:=(Hb.o.below (C8 hgq hlo G8)).Ig;have s3:=Ia.cell 3;have lR':=Ia.lt;simp only [Aj,Ao,BA] at s3;have hfn:fn'=s.Aq.length:=by have:=Kw.len;simpa using this
   have hal':a < fn':=by rw [hfn];simpa [CM] using hal
   obtain ⟨fb,qR,fm,fg,rfl,hfb,hfm,hfc,Mf⟩:=VU Kw hal';obtain ⟨x,hx⟩:∃x,s.Aq[a]? =some x:=⟨s.Aq[a]' AG,BN _⟩;have hfx:fm=fieldMap x:=by rw [Bg,hx,C6,Bz] at hfm;exact hfm.symm
   subst hfx;have hget:=Ie (fieldNames x) m.path;obtain ⟨LH,PY,Ua,Yy,TX,XI,HX⟩:=LU hoq hgq OH hcq MD (Mf.same (w':=wq.drew) rfl) hx;clear hoq hgq OH hcq hkl MD hck Ia Kw hfm Mf hx e0 e1 e2 e3 f2 g1 r2 r3 lR hfn hal HF;have ha0:(0:Int)<=(a:Int):=AG
   have han:(a:Int) < (fn':Int):=AG
   cases hix:idx (fieldNames x) m.path with
   |
    none=>
    rw [hix] at hget;obtain ⟨jP,Wb⟩:=Al hix hget;clear hix hget;have Co:AI (ES 166 3 BZ base G n cap i cs lo M (G6 s p) w (CN Bu) wq.drew):=by refine Dv ?_ (grown_drew PY.o);unfold G6;rw [FB (k:=k+1) Jm (FY Dl.o HM.o uf)];rfl
    go_region_dies
    all_goals
     refine (Hm fg _ _ _ XI.o Wb.o).mono ?_;rintro e w' ⟨rfl,rfl⟩;exact ⟨rfl,Co.o⟩
   |
    some f=>
    rw [hix] at hget;obtain ⟨jP,HF⟩:=Al hix ((Ft fg _ _ (f:Int) wq.drew XI.o hget).mono (R':=fun e w'=>e=AW (AB AE f)/\w'=wq.drew) Fl);clear hix hget;refine wp_region_still_tail 18 AJ AJ ?_;simp only [Ff,Fe,Je,IK]
    repeat still_step
    still_call HF.o
    repeat still_step
    refine Fc ?_;change wpList _ _ _ _ _ wq.drew;go_wp2;go_roundg (vn - (k+1))
    case measure=>exact Bi
    have ho3:=(LH.o.drew.stored (k*4+3) (AB AE f)).1;have hc3:=ADL Yy.o TX.o (f:Int);rw [IL] at hc3;refine ⟨k+1,out++[{m with schema:=(a:Int),field:=(f:Int)}],cq.set (k*4+3) (AB AE f),by omega,rfl,by go_num,?_,Mx (grown_drew PY.o) (by simpa using hH) _,own_ne Ua.o.drew Bd _,?_,?_⟩
    · exact Fx Dl.o HM.o uf
    · have:=Ll.o;rw [this] at ho3 ⊢;exact ho3
    · rw [<-set_drop HLEN.o HM.o];exact hc3
 have hke:k=p.may.length:=by have:=Ll.o;omega
 go_wp2_with fail
 go_end0
 have hP:G6 s p=some {p with may:=out}:=by unfold G6 GJ;rw [<-hke,Dl.o];rfl
 have hsl:Ag 4 Iq (mask lo M wr) (AA vA vn vc) out:=by rw [hke,Kc,FM] at hcr;exact B9 (L1 Gw vZ) ⟨hcr.1,hcr.2⟩ uB
 refine Qb hP hgr hog (fun j hj=>Fa _ AG hj) ?_;refine ⟨vA,vn,vc,?_,hsl,?_⟩
 · rw [E8 _ AG,RD.o];rfl
 exact AA2
def LB (ss:List BM) (fs:List CO) (t:EF):Option Fy:=GF ss fs t fs.length
def RM (ss:List BM) (fs:List CO) (t:EF):Bool:=(LB ss fs t).isSome || isNum t
def Nw (us:List Bv):List Fy->Bool
 | [s,t]=>Le us s t
 | _=>true
def WE (op:Int) (y:Fy):Bool:= !(decide (op=2) || decide (op=3)) || QD y
theorem ACl (us:List Bv) (ss:List BM) (fs:List CO) (a:Iv):M4 us ss fs a=(decide (1<=a.op) && decide (a.op<=4) && (RM ss fs a.a && RM ss fs a.b) && !([a.a,a.b].filterMap (LB ss fs)).isEmpty && Nw us ([a.a,a.b].filterMap (LB ss fs)) && ([a.a,a.b].filterMap (LB ss fs)).all (WE a.op)):=by
 have ea:LB ss fs a.a=GF ss fs a.a fs.length:=rfl;have eb:LB ss fs a.b=GF ss fs a.b fs.length:=rfl;unfold M4 RM;simp only [NH,NG,ea,eb];cases GF ss fs a.a fs.length <;> cases GF ss fs a.b fs.length
 · simp
 ·rename_i y
  exact AAq
 ·rename_i y
  exact AAq
 rename_i x y
 simp only [Option.all_some,Pp,List.all_nil,Nw,Ge,WE,List.isEmpty_cons];generalize decide (1<=a.op)=p1;generalize decide (a.op<=4)=p2;generalize decide (a.op=2)=p3;generalize decide (a.op=3)=p4;generalize isNum a.a=p5;generalize isNum a.b=p6;generalize QD y=p7;generalize QD x=p8;generalize Le us x y=p9;revert p1 p2 p3 p4 p5 p6 p7 p8 p9;decide
theorem ABS {ss:List BM} {fs:List CO} {t:EF} {n:Nat} {y:Fy} (h:GF ss fs t n=some y):∃x∈ss,∃f∈x.fields,f.type=y:=by
 unfold GF at h;split at h
 · cases h
 obtain ⟨f,hf,h2⟩:=ZH.1 h;unfold typeAt at h2;split at h2
 · cases h2
 obtain ⟨x,hx,h3⟩:=ZH.1 h2;obtain ⟨g,hg,h4⟩:=EC.1 h3;exact ⟨x,Cr hx,g,Cr hg,h4⟩
theorem ACD:(prog.info? 109).map (fun i=>(i.zero,i.size,i.bytes))=some (some (AP #[AB AE 0,AB AE 0,AB AE 0,AL ⟨#[]⟩,AB AE 0,AA none 0 0]),6,72):=by kernel_rfl
theorem vE {α:Type} {sz:Nat} {R:AH->List AN->α->Prop} {W:AH} {g:Nat} {t:Ae} {cs:List AN} {x:α} (h:AY W g t cs.toArray) (hl:cs.length=sz) (hR:R W cs x):Ag sz R W (AA (some ⟨g,0,none⟩) 1 1) [x]:=by
 refine ⟨some ⟨g,0,none⟩,1,rfl,Ac _,by decide,fun i y hi=> ?_⟩;rcases i with _ | i
 ·simp only [Ao,Bz] at hi
  subst hi;refine ⟨g,0,cs,rfl,h.lt,hl,fun j u hu=> ?_,hR⟩;rw [h.cell];simpa using hu
 · simp at hi
theorem zC (
 A1 A2 A3 A4 A5 A6:Option Aa) (n1 c1 n2 c2 n3 c3 n4 c4 n5 c5 n6 c6:Nat) (F1 F2 F3:Option Aa) (m1 d1 m2 d2 m3 d3:Nat) (hd:ByteArray) (EI:Int) (a:Iv) (us:List Bv) (ss:List BM) (fs:List CO) (w0 w:AH) (hb0:AK w0 w) (h2:Ag 5 CS w0 (AA A2 n2 c2) us) (h3:Ag 6 BW w0 (AA A3 n3 c3) ss) (hf:Ag 8 DU w0 (AA F1 m1 d1) fs) (hU:∀x∈ss,∀f∈x.fields,Qq n2 f.type):
 AS prog 167 #[(AP #[AA A1 n1 c1,AA A2 n2 c2,AA A3 n3 c3,AA A4 n4 c4,AA A5 n5 c5,AA A6 n6 c6,AL hd,AB AE EI,AA F1 m1 d1,AA F2 m2 d2,AA F3 m3 d3]),AP #[AB AE a.op,AL a.a.name,AL a.a.path,AB AE a.a.var,AB AE a.a.field,AB AE a.a.n,AL a.b.name,AL a.b.path,AB AE a.b.var,AB AE a.b.field,AB AE a.b.n]] w fun e w'=>
  e=AW (Ab (M4 us ss fs a))/\AK w w':=by
 have hm1:m1<=9223372036854775807:=by have:=hf.le;omega
 obtain ⟨j0,hj,bY,bX,bW⟩:=I8 ACD;have HJ:=AF (And.intro hj (And.intro bY (And.intro bX bW)));clear hj bY bX bW;obtain ⟨wb,hwb⟩:=Ad ((w.alloc (AO #[AA A1 n1 c1,AA A2 n2 c2,AA A3 n3 c3,AA A4 n4 c4,AA A5 n5 c5,AA A6 n6 c6,AL hd,AB AE EI,AA F1 m1 d1,AA F2 m2 d2,AA F3 m3 d3] 197)).alloc (AO #[AB AE a.op,AL a.a.name,AL a.a.path,AB AE a.a.var,AB AE a.a.field,AB AE a.a.n,AL a.b.name,AL a.b.path,AB AE a.b.var,AB AE a.b.field,AB AE a.b.n] 281));have hbb:AK w wb:=by rw [hwb];exact ((BK _ _).alloc AZ _)
 have kA:AY wb w.heap.size 197 #[AA A1 n1 c1,AA A2 n2 c2,AA A3 n3 c3,AA A4 n4 c4,AA A5 n5 c5,AA A6 n6 c6,AL hd,AB AE EI,AA F1 m1 d1,AA F2 m2 d2,AA F3 m3 d3]:=by rw [hwb];exact (AY.new _ _ _).alloc _
 have kB:AY wb (w.heap.size+1) 281 #[AB AE a.op,AL a.a.name,AL a.a.path,AB AE a.a.var,AB AE a.a.field,AB AE a.a.n,AL a.b.name,AL a.b.path,AB AE a.b.var,AB AE a.b.field,AB AE a.b.n]:=by rw [hwb];exact Dk AZ
 have PV:AI (∀(t:EF) (W:AH),AK w0 W->AS prog 219 #[(AP #[AA A1 n1 c1,AA A2 n2 c2,AA A3 n3 c3,AA A4 n4 c4,AA A5 n5 c5,AA A6 n6 c6,AL hd,AB AE EI,AA F1 m1 d1,AA F2 m2 d2,AA F3 m3 d3]),AP #[AL t.name,AL t.path,AB AE t.var,AB AE t.field,AB AE t.n],AB AE m1] W (Oq (LB ss fs t) w0 W)):=AF (fun t W hW=>by have:=Sg A1 A2 A3 A4 A5 A6 n1 c1 n2 c2 n3 c3 n4 c4 n5 c5 n6 c6 F1 F2 F3 m1 d1 m2 d2 m3 d3 hd EI t m1 ss fs w0 W hW h3 hf AG AG;rw [Cq] at this;rw [LB,<-hf.len];exact this)
 have HUN:AI (∀(t:EF) (y:Fy),LB ss fs t=some y->Qq n2 y):=AF (fun t y h=>by obtain ⟨x,hx,f,hf',rfl⟩:=ABS h;exact hU x hx f hf')
 obtain ⟨H2,HB0,BJ,Cf,HA,HB⟩:=Fg h2 hb0 hbb hwb kA kB;have lA:=kA.lt;have lB:=kB.lt;obtain ⟨b0,b1,b2,b3,b4,b5,b6,b7,b8,b9,b10⟩:=kB.eleven;obtain ⟨ga,hga⟩:=Ad w.heap.size;obtain ⟨gb,hgb⟩:=Ad (w.heap.size+1);clear hf h2 h3 hb0 hbb hwb kA kB hU;obtain ⟨R,hR⟩:=BR (M4 us ss fs a);have HR:AI (R=(decide (1<=a.op) && decide (a.op<=4) && (RM ss fs a.a && RM ss fs a.b) && !([a.a,a.b].filterMap (LB ss fs)).isEmpty && Nw us ([a.a,a.b].filterMap (LB ss fs)) && ([a.a,a.b].filterMap (LB ss fs)).all (WE a.op))):=AF (by rw [<-hR,ACl]);rw [hR];clear hR;obtain ⟨op,ta,tb⟩:=a;simp only at HR HB Cf b0 b1 b2 b3 b4 b5 b6 b7 b8 b9 b10 ⊢;go_enter func167,ntmps167;go_upto_region 1 with fail;rw [<-Cf.o,<-hgb,<-hga];rw [<-hgb] at HB lB b0 b1 b2 b3 b4 b5 b6 b7 b8 b9 b10;rw [<-hga] at HA lA;clear Cf hga hgb;by_cases hop:1<=op/\op<=4
 case neg=>
  have HE:AI (R=false):=AF (by
   rw [HR.o];have:(decide (1<=op) && decide (op<=4))=false:=by simp only [NJ,NK];omega
   rw [this];rfl)
  go_wp2_with fail
  all_goals first
   | (exfalso;omega)
   | (go_ret;exact ⟨A8 HE.o.symm,BJ.o⟩)
 obtain ⟨hop1,hop2⟩:=hop;have hz1:decide (op < 1)=false:=BS AG;have hz2:decide (4 < op)=false:=BS AG;have HR2:AI (R=((RM ss fs ta && RM ss fs tb) && !([ta,tb].filterMap (LB ss fs)).isEmpty && Nw us ([ta,tb].filterMap (LB ss fs)) && ([ta,tb].filterMap (LB ss fs)).all (WE op))):=AF (by rw [HR.o,Bk hop1,Bk hop2];simp only [Jc])
 clear HR;obtain ⟨wl,hwl⟩:=Ad (wb.alloc (AO #[AL ta.name,AL ta.path,AB AE ta.var,AB AE ta.field,AB AE ta.n,AL tb.name,AL tb.path,AB AE tb.var,AB AE tb.field,AB AE tb.n] 279));have N2:AI (AK wb wl):=AF (by rw [hwl];exact (Af _ _).alloc (Ac _) _);have J6:AI (AY wl wb.heap.size 279 #[AL ta.name,AL ta.path,AB AE ta.var,AB AE ta.field,AB AE ta.n,AL tb.name,AL tb.path,AB AE tb.var,AB AE tb.field,AB AE tb.n]):=AF (by rw [hwl];exact AY.new _ _ _);have HWL:=AF hwl;clear hwl;go_wp2_with fail;rw [<-HWL.o];clear HWL b0 b1 b2 b3 b4 b5 b6 b7 b8 b9 b10;have af:AI (∀W,AK wl W->AY W ga 197 #[AA A1 n1 c1,AA A2 n2 c2,AA A3 n3 c3,AA A4 n4 c4,AA A5 n5 c5,AA A6 n6 c6,AL hd,AB AE EI,AA F1 m1 d1,AA F2 m2 d2,AA F3 m3 d3]/\AY W gb 281 #[AB AE op,AL ta.name,AL ta.path,AB AE ta.var,AB AE ta.field,AB AE ta.n,AL tb.name,AL tb.path,AB AE tb.var,AB AE tb.field,AB AE tb.n]/\AY W wb.heap.size 279 #[AL ta.name,AL ta.path,AB AE ta.var,AB AE ta.field,AB AE ta.n,AL tb.name,AL tb.path,AB AE tb.var,AB AE tb.field,AB AE tb.n]):=AF (fun W hW=>
  have hw:AK wb W:=AV N2.o hW
  ⟨HA.o.below hw lA,HB.o.below hw lB,J6.o.below hW J6.o.lt⟩)
 have jR:AI (AK w wl):=AF (AV BJ.o N2.o);clear HA HB J6 N2 BJ lA lB;go_loopg [5,27] 2 (fun q v i wr=>∃(k:Nat) (cs:List AN) (tv:AN),k<=2/\q=2 - k/\i=AB AE k/\tv=v/\([ta,tb].take k).all (RM ss fs)=true/\wr.ownsRow wl.heap.size 109 6 tv (([ta,tb].take k).filterMap (LB ss fs)).length cs/\Ap 6 (fun _=>Nr w0) wr cs (([ta,tb].take k).filterMap (LB ss fs))/\AK wl wr)
 case atStart=>exact ⟨0,[],AA none 0 0,Ay _,rfl,rfl,rfl,rfl,Ef _ _ _ _,Ap.nil,Af _ _⟩
 obtain ⟨k,cs,tv,hk,hq,rfl,rfl,hall,ho,hc,hb⟩:=hrel;obtain ⟨HQ,EU,HO,HC,DK⟩:=Db hq hall ho hc hb;have CW:AI (AK w wr):=AF (AV jR.o hb);have J8:AI (AK w0 wr):=AF (AV HB0.o CW.o);clear hq hall ho hc hb;obtain h0 | h0 | h0:k=0\/k=1\/k=2:=AG
 ·subst h0
  obtain ⟨kA,kB,kL⟩:=af.o wr DK.o;obtain ⟨a0,a1,a2,a3,a4,a5,a6,a7,a8,a9,a10⟩:=kA.eleven;have t0:=kL.cell 0;have t1:=kL.cell 1;have t2:=kL.cell 2;have t3:=kL.cell 3;have t4:=kL.cell 4;simp only [Aj,Ao,BA] at t0 t1 t2 t3 t4;have lA:=kA.lt;have lL:=kL.lt;clear kA kB kL;have HX:AI ([ta,tb][0]? =some ta):=AF rfl;have HT:=AF (fun o=>PV.o ta (wr.alloc o) (J8.o.alloc J8.o.size o));obtain ⟨x,hx⟩:=BR (LB ss fs ta);have Vk:=AF hx;rw [hx] at HT;have rR:AI (∀W,BL (wr.alloc (AO #[AL ta.name,AL ta.path,AB AE ta.var,AB AE ta.field,AB AE ta.n] 279)).heap.size (wr.alloc (AO #[AL ta.name,AL ta.path,AB AE ta.var,AB AE ta.field,AB AE ta.n] 279)) W->AY W wr.heap.size 279 #[AL ta.name,AL ta.path,AB AE ta.var,AB AE ta.field,AB AE ta.n]):=AF (fun W h=>(AY.new wr _ _).below h AZ);clear hx;cases x with
  |
   none=>
   go_wp2_with (go_at_call 219;refine (HT.o _).mono ?_;clear HT);rintro e w2 ⟨⟨B,m',d',rfl,hs⟩,hb2⟩;obtain ⟨t0,t1,t2,t3,t4⟩:=(rR.o w2 hb2).five;have lT:wr.heap.size < w2.heap.size:=Av AZ hb2.size;have HB2:AI (AK wl w2):=AF ((DK.o.alloc DK.o.size _).trans (hb2.mono Qm));have Jz:=AF (Cs (HO.o.alloc _) hb2);have HC2:AI (Ap 6 (fun _=>Nr w0) w2 cs (([ta,tb].take 0).filterMap (LB ss fs))):=AF HC.o;clear hs hb2 rR a0 a1 a2 a3 a4 a5 a6 a7 a8 a9 a10 lA lL;simp only [IV];obtain ⟨v,hv⟩:=BR (isNum ta);have HV:=AF hv;have HN:AI (∀o,AS prog 220 #[AP #[AL ta.name,AL ta.path,AB AE ta.var,AB AE ta.field,AB AE ta.n]] (w2.alloc o) fun e w'=>e=AW (Ab v)/\BL (w2.alloc o).heap.size (w2.alloc o) w'):=AF (fun o=>by have:=Sx ta (w2.alloc o);rw [hv] at this;exact this)
   clear hv;go_wp2_with (go_at_call 220;refine (HN.o _).mono ?_;clear HN);rintro e w3 ⟨rfl,hb3⟩;have HB3:AI (AK wl w3):=AF ((HB2.o.alloc HB2.o.size _).trans (hb3.mono XQ));have Ja:=AF (Cs (Jz.o.alloc _) hb3);clear hb3 t0 t1 t2 t3 t4 lT;have fM:AI (RM ss fs ta=v):=AF (by rw [RM,Vk.o,HV.o];rfl);cases v with
   |
    false=>
    have HE:AI (R=false):=AF (by rw [HR2.o,fM.o];simp);go_wp2;go_ret;exact ⟨A8 HE.o.symm,AV jR.o HB3.o⟩
   |
    true=>
    go_wp2;go_roundg (2 - (0+1))
    case measure=>exact Bi
    case rel=>exact ⟨0+1,cs,tv,by omega,rfl,by go_num,rfl,Dq HX.o fM.o EU.o,by rw [take_snoc HX.o,OZ];simp only [NH,Vk.o,NG,FM];exact Ja.o,by rw [take_snoc HX.o,OZ];simp only [NH,Vk.o,NG,FM];exact HC2.o,HB3.o⟩
  |
   some y=>
   obtain ⟨yk,yl,yh,yf,yu,yn⟩:=y;go_wp2_with (go_at_call 219;refine (HT.o _).mono ?_;clear HT);rintro e w2 ⟨⟨B,m',d',rfl,hs⟩,hb2⟩;have HS:=AF hs;have HB2:AI (AK wl w2):=AF ((DK.o.alloc DK.o.size _).trans (hb2.mono Qm));have Jz:=AF (Cs (HO.o.alloc _) hb2);clear hs hb2 rR a0 a1 a2 a3 a4 a5 a6 a7 a8 a9 a10 lA lL t0 t1 t2 t3 t4;simp only [Ge,Ce];simp only [Ce] at HS;have fM:AI (RM ss fs ta=true):=AF (by rw [RM,Vk.o];rfl);obtain ⟨wt,hwt⟩:=Ad ((w2.alloc (AO #[AB AE yk,AB AE yl,AB AE yh,AL yf,AB AE yu,AA B m' d'] 109)).alloc (AO #[AB AE yk,AB AE yl,AB AE yh,AL yf,AB AE yu,AA B m' d'] 109));have lY:AI (wt.ownsRow wl.heap.size 109 6 _ _ cs):=AF uH;have LJ:AI (Ag 6 (fun _=>Nr w0) wt (AA (some ⟨w2.heap.size+1,0,none⟩) 1 1) [⟨yk,yl,yh,yf,yu,yn⟩]):=AF AAx;have Vv:AI (AK wl wt):=AF um;have HWT:=AF hwt;clear hwt;go_wp2_with (at_builtin;rw [<-HWT.o];refine CQ wt rfl (AX 49) (AX 51) 351 109 rfl j0 _ 72 underlying351 HJ.o.1 HJ.o.2.1 HJ.o.2.2.1 HJ.o.2.2.2 rfl Ai (R:=fun _=>Nr w0) (fun _=>dg w0) wl.heap.size _ (([ta,tb].take 0).filterMap (LB ss fs)).length cs rfl lY.o (some ⟨w2.heap.size+1,0,none⟩) 1 1 [⟨yk,yl,yh,yf,yu,yn⟩] rfl LJ.o ?hn ?hb Vv.o.size ?_)
   case hn=>have:=Uv (LB ss fs) ([ta,tb].take 0);simp at this;unfold maxLen;simp <;> omega
   case hb=>have:=Uv (LB ss fs) ([ta,tb].take 0);simp at this;simp <;> omega
   intro v3 w3 aN hc3 ho3 hg3 AEg;have HB3:AI (AK wl w3):=AF (Vv.o.grown hg3 Vv.o.size (fun k hk=>(lY.o.lt k hk).1));obtain ⟨Ja,TV⟩:=Al ho3 hc3;clear hc3 ho3 hg3 AEg;go_wp2;go_roundg (2 - (0+1))
   case measure=>exact Bi
   case rel=>exact ⟨0+1,cs++aN,v3,by omega,rfl,by go_num,rfl,Dq HX.o fM.o EU.o,by rw [take_snoc HX.o,OZ,CX];simp only [NH,Vk.o,NG,ZN];exact Ja.o,by rw [take_snoc HX.o,OZ];simp only [NH,Vk.o,NG];exact Ap.append HC.o TV.o,HB3.o⟩
 ·subst h0
  obtain ⟨kA,kB,kL⟩:=af.o wr DK.o;obtain ⟨a0,a1,a2,a3,a4,a5,a6,a7,a8,a9,a10⟩:=kA.eleven;have t0:=kL.cell 5;have t1:=kL.cell 6;have t2:=kL.cell 7;have t3:=kL.cell 8;have t4:=kL.cell 9;simp only [Aj,Ao,BA] at t0 t1 t2 t3 t4;have lA:=kA.lt;have lL:=kL.lt;clear kA kB kL;have HX:AI ([ta,tb][1]? =some tb):=AF rfl;have HT:=AF (fun o=>PV.o tb (wr.alloc o) (J8.o.alloc J8.o.size o));obtain ⟨x,hx⟩:=BR (LB ss fs tb);have Vk:=AF hx;rw [hx] at HT;have rR:AI (∀W,BL (wr.alloc (AO #[AL tb.name,AL tb.path,AB AE tb.var,AB AE tb.field,AB AE tb.n] 279)).heap.size (wr.alloc (AO #[AL tb.name,AL tb.path,AB AE tb.var,AB AE tb.field,AB AE tb.n] 279)) W->AY W wr.heap.size 279 #[AL tb.name,AL tb.path,AB AE tb.var,AB AE tb.field,AB AE tb.n]):=AF (fun W h=>(AY.new wr _ _).below h AZ);clear hx;cases x with
  |
   none=>
   go_wp2_with (go_at_call 219;refine (HT.o _).mono ?_;clear HT);rintro e w2 ⟨⟨B,m',d',rfl,hs⟩,hb2⟩;obtain ⟨t0,t1,t2,t3,t4⟩:=(rR.o w2 hb2).five;have lT:wr.heap.size < w2.heap.size:=Av AZ hb2.size;have HB2:AI (AK wl w2):=AF ((DK.o.alloc DK.o.size _).trans (hb2.mono Qm));have Jz:=AF (Cs (HO.o.alloc _) hb2);have HC2:AI (Ap 6 (fun _=>Nr w0) w2 cs (([ta,tb].take 1).filterMap (LB ss fs))):=AF HC.o;clear hs hb2 rR a0 a1 a2 a3 a4 a5 a6 a7 a8 a9 a10 lA lL;simp only [IV];obtain ⟨v,hv⟩:=BR (isNum tb);have HV:=AF hv;have HN:AI (∀o,AS prog 220 #[AP #[AL tb.name,AL tb.path,AB AE tb.var,AB AE tb.field,AB AE tb.n]] (w2.alloc o) fun e w'=>e=AW (Ab v)/\BL (w2.alloc o).heap.size (w2.alloc o) w'):=AF (fun o=>by have:=Sx tb (w2.alloc o);rw [hv] at this;exact this)
   clear hv;go_wp2_with (go_at_call 220;refine (HN.o _).mono ?_;clear HN);rintro e w3 ⟨rfl,hb3⟩;have HB3:AI (AK wl w3):=AF ((HB2.o.alloc HB2.o.size _).trans (hb3.mono XQ));have Ja:=AF (Cs (Jz.o.alloc _) hb3);clear hb3 t0 t1 t2 t3 t4 lT;have fM:AI (RM ss fs tb=v):=AF (by rw [RM,Vk.o,HV.o];rfl);cases v with
   |
    false=>
    have HE:AI (R=false):=AF (by rw [HR2.o,fM.o];simp);go_wp2;go_ret;exact ⟨A8 HE.o.symm,AV jR.o HB3.o⟩
   |
    true=>
    go_wp2;go_roundg (2 - (1+1))
    case measure=>exact Bi
    case rel=>exact ⟨1+1,cs,tv,by omega,rfl,by go_num,rfl,Dq HX.o fM.o EU.o,by rw [take_snoc HX.o,OZ];simp only [NH,Vk.o,NG,FM];exact Ja.o,by rw [take_snoc HX.o,OZ];simp only [NH,Vk.o,NG,FM];exact HC2.o,HB3.o⟩
  |
   some y=>
   obtain ⟨yk,yl,yh,yf,yu,yn⟩:=y;go_wp2_with (go_at_call 219;refine (HT.o _).mono ?_;clear HT);rintro e w2 ⟨⟨B,m',d',rfl,hs⟩,hb2⟩;have HS:=AF hs;have HB2:AI (AK wl w2):=AF ((DK.o.alloc DK.o.size _).trans (hb2.mono Qm));have Jz:=AF (Cs (HO.o.alloc _) hb2);clear hs hb2 rR a0 a1 a2 a3 a4 a5 a6 a7 a8 a9 a10 lA lL t0 t1 t2 t3 t4;simp only [Ge,Ce];simp only [Ce] at HS;have fM:AI (RM ss fs tb=true):=AF (by rw [RM,Vk.o];rfl);obtain ⟨wt,hwt⟩:=Ad ((w2.alloc (AO #[AB AE yk,AB AE yl,AB AE yh,AL yf,AB AE yu,AA B m' d'] 109)).alloc (AO #[AB AE yk,AB AE yl,AB AE yh,AL yf,AB AE yu,AA B m' d'] 109));have lY:AI (wt.ownsRow wl.heap.size 109 6 _ _ cs):=AF uH;have LJ:AI (Ag 6 (fun _=>Nr w0) wt (AA (some ⟨w2.heap.size+1,0,none⟩) 1 1) [⟨yk,yl,yh,yf,yu,yn⟩]):=AF AAx;have Vv:AI (AK wl wt):=AF um;have HWT:=AF hwt;clear hwt;go_wp2_with (at_builtin;rw [<-HWT.o];refine CQ wt rfl (AX 49) (AX 51) 351 109 rfl j0 _ 72 underlying351 HJ.o.1 HJ.o.2.1 HJ.o.2.2.1 HJ.o.2.2.2 rfl Ai (R:=fun _=>Nr w0) (fun _=>dg w0) wl.heap.size _ (([ta,tb].take 1).filterMap (LB ss fs)).length cs rfl lY.o (some ⟨w2.heap.size+1,0,none⟩) 1 1 [⟨yk,yl,yh,yf,yu,yn⟩] rfl LJ.o ?hn ?hb Vv.o.size ?_)
   case hn=>have:=Uv (LB ss fs) ([ta,tb].take 1);simp at this;unfold maxLen;simp <;> omega
   case hb=>have:=Uv (LB ss fs) ([ta,tb].take 1);simp at this;simp <;> omega
   intro v3 w3 aN hc3 ho3 hg3 AEg;have HB3:AI (AK wl w3):=AF (Vv.o.grown hg3 Vv.o.size (fun k hk=>(lY.o.lt k hk).1));obtain ⟨Ja,TV⟩:=Al ho3 hc3;clear hc3 ho3 hg3 AEg;go_wp2;go_roundg (2 - (1+1))
   case measure=>exact Bi
   case rel=>exact ⟨1+1,cs++aN,v3,by omega,rfl,by go_num,rfl,Dq HX.o fM.o EU.o,by rw [take_snoc HX.o,OZ,CX];simp only [NH,Vk.o,NG,ZN];exact Ja.o,by rw [take_snoc HX.o,OZ];simp only [NH,Vk.o,NG];exact Ap.append HC.o TV.o,HB3.o⟩
 subst h0;obtain ⟨T,hT⟩:∃T,[ta,tb].filterMap (LB ss fs)=T:=⟨_,rfl⟩;have TL:AI (T.length<=2):=AF (by rw [<-hT];exact Uv _ _);have HTU:AI (∀y∈T,Qq n2 y):=AF (fun y hy=>by rw [<-hT] at hy;obtain ⟨t,_,ht⟩:=List.mem_filterMap.1 hy;exact HUN.o t y ht)
 have hsl:Ag 6 (fun _=>Nr w0) wr tv T:=B9 (by have:=HO.o;rwa [show [ta,tb].take 2=[ta,tb] from rfl,hT] at this) (by have:=HC.o;rwa [show [ta,tb].take 2=[ta,tb] from rfl,hT] at this) rfl;have HSL:=AF hsl;obtain ⟨TA,tc,rfl,hl1,hl2,hl3⟩:=hsl;have HR3:AI (R=(!T.isEmpty && Nw us T && T.all (WE op))):=AF (by have:=EU.o;simp only [List.take,Pp,List.all_nil,Bool.and_true] at this;rw [HR2.o,hT,this,Jc])
 obtain ⟨kA,kB,kL⟩:=af.o wr DK.o;obtain ⟨a0,a1,a2,a3,a4,a5,a6,a7,a8,a9,a10⟩:=kA.eleven;have lA:=kA.lt;clear HR2 hT HO HC EU PV HQ HUN hl1 hl2 hl3 kA kB kL;obtain ⟨wy,rfl⟩:=Ad wr;obtain ⟨bv,hbv⟩:=BR ((T.isEmpty || !Nw us T));have Vu:=AF hbv;clear hbv;go_upto_region 13 with fail;go_cut [73] from 54 (fun v73 wx=>v73=Ab bv/\AK wy wx)
 case first=>
  have zo:AI (AK wy wy):=AF (Af _ _)
  match T,TL,HTU,HSL,Vu with
  |
   [],_,_,_,Vu=>
   simp only [Pw];clear a0 a1 a2 a3 a4 a5 a6 a7 a8 a9 a10;go_quiet (fail);go_wp2
   go_meet
   exact ⟨by rw [<-Vu.o];rfl,below_drewN zo.o _⟩
  |
   [y],_,_,_,Vu=>
   simp only [ZN];clear a0 a1 a2 a3 a4 a5 a6 a7 a8 a9 a10;go_quiet (fail);go_wp2
   go_meet
   exact ⟨by rw [<-Vu.o];rfl,below_drewN zo.o _⟩
  |
   [y,z],_,HTU,HSL,Vu=>
   obtain ⟨g1,o1,y',ys,e,hgl,hy,hyl,Mw,hyR⟩:=HSL.o.at_ (k:=0) AZ;obtain ⟨g2,o2,z',zs,e',_,hz,hzl,hzc,hzR⟩:=HSL.o.at_ (k:=1) AZ;simp only [Ao,BA,Bz] at hy hz;subst hy hz e;injection e' with e';injection e' with e1 e2;subst e1 e2;obtain ⟨yB,ym,yd,rfl,hyn⟩:=hyR;obtain ⟨zB,zm,zd,rfl,hzn⟩:=hzR;have y0:=Mw 0 _ rfl;have y1:=Mw 1 _ rfl;have y2:=Mw 2 _ rfl;have y3:=Mw 3 _ rfl;have y4:=Mw 4 _ rfl;have y5:=Mw 5 _ rfl;have z0:=hzc 0 _ rfl;have z1:=hzc 1 _ rfl;have z2:=hzc 2 _ rfl;have z3:=hzc 3 _ rfl;have z4:=hzc 4 _ rfl;have z5:=hzc 5 _ rfl;simp only [Ru,Nat.one_mul,Ee,Es,Nat.reduceAdd] at y0 y1 y2 y3 y4 y5 z0 z1 z2 z3 z4 z5;clear Mw hzc hyl hzl;have HS:AI (∀W,AK wy W->W.cell? ⟨ga,0,none⟩=some (AA A1 n1 c1)/\W.cell? ⟨ga,1,none⟩=some (AA A2 n2 c2)/\W.cell? ⟨ga,2,none⟩=some (AA A3 n3 c3)/\W.cell? ⟨ga,3,none⟩=some (AA A4 n4 c4)/\W.cell? ⟨ga,4,none⟩=some (AA A5 n5 c5)/\W.cell? ⟨ga,5,none⟩=some (AA A6 n6 c6)/\
    W.cell? ⟨g1,o1,none⟩=some (AB AE y.kind)/\W.cell? ⟨g1,o1+1,none⟩=some (AB AE y.lo)/\W.cell? ⟨g1,o1+2,none⟩=some (AB AE y.hi)/\W.cell? ⟨g1,o1+3,none⟩=some (AL y.Au)/\W.cell? ⟨g1,o1+4,none⟩=some (AB AE y.unit)/\W.cell? ⟨g1,o1+5,none⟩=some (AA yB ym yd)/\
    W.cell? ⟨g1,o1+6,none⟩=some (AB AE z.kind)/\W.cell? ⟨g1,o1+7,none⟩=some (AB AE z.lo)/\W.cell? ⟨g1,o1+8,none⟩=some (AB AE z.hi)/\W.cell? ⟨g1,o1+9,none⟩=some (AL z.Au)/\W.cell? ⟨g1,o1+10,none⟩=some (AB AE z.unit)/\W.cell? ⟨g1,o1+11,none⟩=some (AA zB zm zd)):=AF (fun W hW=>
    ⟨(
     hW.cell (p:=⟨_,_,none⟩) lA).trans a0,(hW.cell (p:=⟨_,_,none⟩) lA).trans a1,(hW.cell (p:=⟨_,_,none⟩) lA).trans a2,(hW.cell (p:=⟨_,_,none⟩) lA).trans a3,(hW.cell (p:=⟨_,_,none⟩) lA).trans a4,(hW.cell (p:=⟨_,_,none⟩) lA).trans a5,
     (hW.cell (p:=⟨_,_,none⟩) hgl).trans y0,(hW.cell (p:=⟨_,_,none⟩) hgl).trans y1,(hW.cell (p:=⟨_,_,none⟩) hgl).trans y2,(hW.cell (p:=⟨_,_,none⟩) hgl).trans y3,(hW.cell (p:=⟨_,_,none⟩) hgl).trans y4,(hW.cell (p:=⟨_,_,none⟩) hgl).trans y5,
     (hW.cell (p:=⟨_,_,none⟩) hgl).trans z0,(hW.cell (p:=⟨_,_,none⟩) hgl).trans z1,(hW.cell (p:=⟨_,_,none⟩) hgl).trans z2,(hW.cell (p:=⟨_,_,none⟩) hgl).trans z3,(hW.cell (p:=⟨_,_,none⟩) hgl).trans z4,(hW.cell (p:=⟨_,_,none⟩) hgl).trans z5⟩)
   obtain ⟨vc,vT⟩:=BR (Le us y z);have HVC:AI (Nw us [y,z]=vc):=AF vT;have HCM:AI (AS prog 221 #[(AP #[AA A1 n1 c1,AA A2 n2 c2,AA A3 n3 c3,AA A4 n4 c4,AA A5 n5 c5,AA A6 n6 c6]),AP #[AB AE y.kind,AB AE y.lo,AB AE y.hi,AL y.Au,AB AE y.unit,AA yB ym yd],AP #[AB AE z.kind,AB AE z.lo,AB AE z.hi,AL z.Au,AB AE z.unit,AA zB zm zd]] wy.drew fun e w'=>e=AW (Ab vc)/\AK wy w'):=AF (by have:=iy A1 A2 A3 A4 A5 A6 n1 c1 n2 c2 n3 c3 n4 c4 n5 c5 n6 c6 y z yB zB ym yd zm zd us wy.drew (H2.o.mono Bq J8.o.drew) (hyn.1.mono BX J8.o.drew) (hzn.1.mono BX J8.o.drew) (HTU.o y AZ) (HTU.o z AZ);rw [vT] at this;exact this.mono fun _ _ h=>⟨h.1,(Af wy.heap.size wy).drew.trans h.2⟩)
   clear vT hyn hzn y0 y1 y2 y3 y4 y5 z0 z1 z2 z3 z4 z5 a0 a1 a2 a3 a4 a5 a6 a7 a8 a9 a10;simp only [F6,Pw,Es,Nat.reduceAdd]
   go_region_held3 (fun W=>W.cell? ⟨ga,0,none⟩=some (AA A1 n1 c1)/\W.cell? ⟨ga,1,none⟩=some (AA A2 n2 c2)/\W.cell? ⟨ga,2,none⟩=some (AA A3 n3 c3)/\W.cell? ⟨ga,3,none⟩=some (AA A4 n4 c4)/\W.cell? ⟨ga,4,none⟩=some (AA A5 n5 c5)/\W.cell? ⟨ga,5,none⟩=some (AA A6 n6 c6)/\
    W.cell? ⟨g1,o1,none⟩=some (AB AE y.kind)/\W.cell? ⟨g1,o1+1,none⟩=some (AB AE y.lo)/\W.cell? ⟨g1,o1+2,none⟩=some (AB AE y.hi)/\W.cell? ⟨g1,o1+3,none⟩=some (AL y.Au)/\W.cell? ⟨g1,o1+4,none⟩=some (AB AE y.unit)/\W.cell? ⟨g1,o1+5,none⟩=some (AA yB ym yd)/\
    W.cell? ⟨g1,o1+6,none⟩=some (AB AE z.kind)/\W.cell? ⟨g1,o1+7,none⟩=some (AB AE z.lo)/\W.cell? ⟨g1,o1+8,none⟩=some (AB AE z.hi)/\W.cell? ⟨g1,o1+9,none⟩=some (AL z.Au)/\W.cell? ⟨g1,o1+10,none⟩=some (AB AE z.unit)/\W.cell? ⟨g1,o1+11,none⟩=some (AA zB zm zd))
    (first | with_reducible exact HS.o _ zo.o | with_reducible exact HS.o _ zo.o.drew | with_reducible exact HS.o _ hb3)
    (first
     | (go_at_call 221;refine HCM.o.mono ?_;rintro e w3 ⟨rfl,hb3⟩))
   have HB3:=AF hb3;clear hb3;go_wp2
   go_meet
   exact ⟨by rw [<-Vu.o,HVC.o];cases vc <;> rfl,HB3.o⟩
  | _::_::_::_,TL,_,_,_=>exact absurd TL.o AZ
 obtain ⟨rfl,hbx⟩:=hcut;have Rh:=AF hbx;clear hbx a0 a1 a2 a3 a4 a5 a6 a7 a8 a9 a10 lA;have TW:AI (AK wl wc):=AF (AV DK.o Rh.o);cases bv with
 |
  true=>
  have HE:AI (R=false):=AF (by rw [HR3.o];have:=Vu.o;cases h1:T.isEmpty <;> cases h2:Nw us T <;> simp [h1,h2] at this ⊢)
  go_wp2;go_ret;exact ⟨A8 HE.o.symm,AV jR.o TW.o⟩
 |
  false=>
  have HE:AI (R=T.all (WE op)):=AF (by rw [HR3.o];have:=Vu.o;cases h1:T.isEmpty <;> cases h2:Nw us T <;> simp [h1,h2] at this ⊢)
  have hTn:T.length<=9223372036854775807:=by have:=TL.o;omega
  go_wp2_with fail;go_loopg [76] T.length (fun q i wr=>∃k:Nat,k<=T.length/\q=T.length - k/\i=AB AE k/\(T.take k).all (WE op)=true/\AK wc wr)
  case atStart=>exact N3
  obtain ⟨k,hk,hq,rfl,hall,hb⟩:=hrel;obtain ⟨HQ,EU,HB2⟩:=BB hq hall hb;have jS:AI (AK wl wr):=AF (AV TW.o hb);clear hq hall hb;by_cases hlt:k < T.length
  case neg=>
   have HT:AI (R=true):=by have:=EU.o;rw [C7 AG] at this;exact AF (by rw [HE.o,this])
   go_wp2;go_ret;exact ⟨A8 HT.o.symm,AV jR.o jS.o⟩
  obtain ⟨g1,o1,y,ys,e,hgl,hy,hyl,Mw,hyR⟩:=(HSL.o.mono An (AV Rh.o HB2.o)).at_ hlt;subst e;obtain ⟨yB,ym,yd,rfl,hyn⟩:=hyR;have y0:=Mw 0 _ rfl;have y1:=Mw 1 _ rfl;have y2:=Mw 2 _ rfl;have y3:=Mw 3 _ rfl;have y4:=Mw 4 _ rfl;have y5:=Mw 5 _ rfl;simp only [Ee,<-Ji] at y0 y1 y2 y3 y4 y5;have hk0:=Int.natCast_nonneg k
  have hk1:(k:Int) < (T.length:Int):=AG
  have HY:=AF hy;have fN:AI (WE op y=(!((op==2) || (op==3)) || ((y.kind==1) || (y.kind==2)))):=AF rfl;clear hy Mw hyl hyn;cases u1:(y.kind==1) <;> cases u2:(y.kind==2) <;> cases u3:(op==2) <;> cases u4:(op==3) <;>
   (
    have hoy:=fN.o;rw [u1,u2,u3,u4] at hoy;have AI5:=AF hoy;clear hoy;obtain ⟨kA,kB,kL⟩:=af.o wr jS.o;have p0:=kB.cell 0;have lB:=kB.lt;simp only [Aj,Ao] at p0;clear kA kB kL;go_wp2_with fail
    first
     | (go_ret;exact ⟨A8 (by rw [HE.o,Jy HY.o AI5.o]),AV jR.o (jS.o.alloc jS.o.size _)⟩)
     | (
      go_roundg (T.length - (k+1))
      case measure=>exact Bi
      case rel=>exact ⟨k+1,by omega,rfl,by go_num,Dq HY.o AI5.o EU.o,HB2.o.alloc HB2.o.size _⟩))
theorem AD4:(prog.info? 3).map (fun i=>(i.zero,i.size,i.bytes))=some (some (AB AE 0),1,8):=by kernel_rfl
theorem xB (F1 F2 F3:Option Aa) (m1 d1 m2 d2 m3 d3:Nat) (hd:ByteArray) (EI:Int) (JZ:List CO) (U9:List Iv) (Jr:List Ma) (us:List Bv) (ss:List BM) (w0 w:AH) (hb0:AK w0 w) (h2:Ag 5 CS w0 (AA A2 n2 c2) us) (h3:Ag 6 BW w0 (AA A3 n3 c3) ss)
 (hf:Ag 8 DU w0 (AA F1 m1 d1) JZ) (hwh:Ag 11 Ea w0 (AA F2 m2 d2) U9) (hse:BV 7 80 Gs w0 (AA F3 m3 d3) Jr) (hU:∀x∈ss,∀f∈x.fields,Qq n2 f.type):
 AS prog 105 #[(AP #[AA A1 n1 c1,AA A2 n2 c2,AA A3 n3 c3,AA A4 n4 c4,AA A5 n5 c5,AA A6 n6 c6,AL hd,AB AE EI,AA F1 m1 d1,AA F2 m2 d2,AA F3 m3 d3])] w fun e w'=>e=AW (Ab (JP us ss ⟨hd,EI,JZ,U9,Jr⟩))/\AK w w':=by
 have hm2:m2<=9223372036854775807:=by have:=hwh.le;omega
 have ER:m3<=2000000000000:=by have:=hse.2;have:=hse.1.len;omega
 have hn3:n3<=9223372036854775807:=by have:=h3.le;omega
 obtain ⟨j0,hj,bY,bX,bW⟩:=I8 AD4;have HJ:=AF (And.intro hj (And.intro bY (And.intro bX bW)));clear hj bY bX bW;obtain ⟨Rf,lh,Hc⟩:=BB hwh.len hse.1.len h3.len;have BJ:AI (AK w (w.alloc (AO #[AA A1 n1 c1,AA A2 n2 c2,AA A3 n3 c3,AA A4 n4 c4,AA A5 n5 c5,AA A6 n6 c6,AL hd,AB AE EI,AA F1 m1 d1,AA F2 m2 d2,AA F3 m3 d3] 197))):=AF (BK _ _);have HA:AI (AY (w.alloc (AO #[AA A1 n1 c1,AA A2 n2 c2,AA A3 n3 c3,AA A4 n4 c4,AA A5 n5 c5,AA A6 n6 c6,AL hd,AB AE EI,AA F1 m1 d1,AA F2 m2 d2,AA F3 m3 d3] 197)) w.heap.size 197 #[AA A1 n1 c1,AA A2 n2 c2,AA A3 n3 c3,AA A4 n4 c4,AA A5 n5 c5,AA A6 n6 c6,AL hd,AB AE EI,AA F1 m1 d1,AA F2 m2 d2,AA F3 m3 d3]):=AF (AY.new _ _ _);have ll:AI (∀W,AK w0 W->AS prog 166 #[(AP #[AA A1 n1 c1,AA A2 n2 c2,AA A3 n3 c3,AA A4 n4 c4,AA A5 n5 c5,AA A6 n6 c6,AL hd,AB AE EI,AA F1 m1 d1,AA F2 m2 d2,AA F3 m3 d3])] W fun e w'=>e=AW (Ab (Ic ss JZ))/\AK W w'):=AF (fun W hW=>tE A1 A2 A3 A4 A5 A6 n1 c1 n2 c2 n3 c3 n4 c4 n5 c5 n6 c6 F1 F2 F3 m1 d1 m2 d2 m3 d3 hd EI ss JZ w0 W hW h3 hf);have HAT:AI (∀(a:Iv) W,AK w0 W->AS prog 167 #[(AP #[AA A1 n1 c1,AA A2 n2 c2,AA A3 n3 c3,AA A4 n4 c4,AA A5 n5 c5,AA A6 n6 c6,AL hd,AB AE EI,AA F1 m1 d1,AA F2 m2 d2,AA F3 m3 d3]),AP #[AB AE a.op,AL a.a.name,AL a.a.path,AB AE a.a.var,AB AE a.a.field,AB AE a.a.n,AL a.b.name,AL a.b.path,AB AE a.b.var,AB AE a.b.field,AB AE a.b.n]] W fun e w'=>e=AW (Ab (M4 us ss JZ a))/\AK W w'):=AF (fun a W hW=>zC A1 A2 A3 A4 A5 A6 n1 c1 n2 c2 n3 c3 n4 c4 n5 c5 n6 c6 F1 F2 F3 m1 d1 m2 d2 m3 d3 hd EI a us ss JZ w0 W hW h2 h3 hf hU);have lP:AI (∀(s f:Int) W,AK w0 W->AS prog 65 #[(AP #[AA A1 n1 c1,AA A2 n2 c2,AA A3 n3 c3,AA A4 n4 c4,AA A5 n5 c5,AA A6 n6 c6]),AB AE s,AB AE f] W (Oq (typeAt ss s f) w0 W)):=AF (fun s f W hW=>Rm A1 A2 A3 A4 A5 A6 n1 c1 n2 c2 n3 c3 n4 c4 n5 c5 n6 c6 s f ss w0 W hW h3);have aS:AI (∀(f:Fy) (t:EF) (B:Option Aa) (m d:Nat) W,AK w0 W->BV 1 16 Dd w0 (AA B m d) f.names->AS prog 168 #[(AP #[AA A1 n1 c1,AA A2 n2 c2,AA A3 n3 c3,AA A4 n4 c4,AA A5 n5 c5,AA A6 n6 c6,AL hd,AB AE EI,AA F1 m1 d1,AA F2 m2 d2,AA F3 m3 d3]),AP #[AB AE f.kind,AB AE f.lo,AB AE f.hi,AL f.Au,AB AE f.unit,AA B m d],AP #[AL t.name,AL t.path,AB AE t.var,AB AE t.field,AB AE t.n]] W fun e w'=>e=AW (Ab (V6 ss JZ f t))/\AK W w'):=AF (fun f t B m d W hW hn=>ABW A1 A2 A3 A4 A5 A6 n1 c1 n2 c2 n3 c3 n4 c4 n5 c5 n6 c6 F1 F2 F3 m1 d1 m2 d2 m3 d3 hd EI f t B m d ss JZ w0 W hW h3 hf hn);obtain ⟨H3,fH,T0,HB0⟩:=CD h3 hwh hse.1 hb0;clear h2 h3 hf hwh hse hb0 hU;obtain ⟨R,hR⟩:∃R,JP us ss ⟨hd,EI,JZ,U9,Jr⟩=R:=⟨_,rfl⟩;have HR:AI (R=(Ic ss JZ && decide (U9.length<=8) && U9.all (M4 us ss JZ) && decide (0<=EI) && ((ss[EI.toNat]?).any fun h=>decide (Jr.length+1=h.fields.length)) && Jr.all (LW ss JZ EI) && Dw [] (Jr.map fun s=>s.field))):=AF (by rw [<-hR];rfl);rw [hR];clear hR;go_enter func105,ntmps105;go_upto_region 1 with fail;generalize w.alloc (AO #[AA A1 n1 c1,AA A2 n2 c2,AA A3 n3 c3,AA A4 n4 c4,AA A5 n5 c5,AA A6 n6 c6,AL hd,AB AE EI,AA F1 m1 d1,AA F2 m2 d2,AA F3 m3 d3] 197)=wb at *;obtain ⟨ga,hga⟩:=Ad w.heap.size;rw [<-hga] at HA ⊢;clear hga;have lA:=HA.o.lt;obtain ⟨a0,a1,a2,a3,a4,a5,a6,a7,a8,a9,a10⟩:=HA.o.eleven;obtain ⟨vf,hvf⟩:=BR (Ic ss JZ);have HC:=AF (ll.o wb (AV HB0.o BJ.o));rw [hvf] at HC;have Yh:=AF hvf;clear hvf ll;go_wp2_with (go_at_call 166;refine HC.o.mono ?_;clear HC);rintro e w1 ⟨rfl,hb1⟩;have HB1:=AF hb1;clear hb1 a0 a1 a2 a3 a4 a5 a6 a7 a8 a9 a10;cases vf with
 |
  false=>
  have HE:AI (R=false):=AF (by rw [HR.o,Yh.o];rfl);go_wp2;go_ret;exact ⟨A8 HE.o.symm,AV BJ.o HB1.o⟩
 | true=>
 obtain ⟨a0,a1,a2,a3,a4,a5,a6,a7,a8,a9,a10⟩:=(HA.o.below HB1.o lA).eleven;have lA1:=Av lA HB1.o.size;by_cases h8:(8:Int) < (m2:Int)
 ·have HE:AI (R=false):=AF (by
   rw [HR.o,<-Rf.o];have:decide (m2<=8)=false:=BS AG;rw [this,Y5];rfl)
  go_wp2;go_ret;exact ⟨A8 HE.o.symm,AV BJ.o HB1.o⟩
 have HR2:AI (R=(U9.all (M4 us ss JZ) && decide (0<=EI) && ((ss[EI.toNat]?).any fun h=>decide (Jr.length+1=h.fields.length)) && Jr.all (LW ss JZ EI) && Dw [] (Jr.map fun s=>s.field))):=AF (by rw [HR.o,Yh.o,Bk (by have:=Rf.o;omega)];simp only [Jc])
 clear HR Yh;go_wp2_with fail;clear a0 a1 a2 a3 a4 a5 a6 a7 a8 a9 a10;go_loopg [25] m2 (fun q i wr=>∃k:Nat,k<=m2/\q=m2 - k/\i=AB AE k/\(U9.take k).all (M4 us ss JZ)=true/\AK wb wr)
 case atStart=>exact ⟨0,Ay _,rfl,rfl,rfl,HB1.o⟩
 clear HB1 lA1;obtain ⟨k,hk,hq,rfl,hall,hb⟩:=hrel;obtain ⟨HQ,EU,DK⟩:=BB hq hall hb;have CW:AI (AK w wr):=AF (AV BJ.o hb);have J8:AI (AK w0 wr):=AF (AV HB0.o CW.o);obtain ⟨a0,a1,a2,a3,a4,a5,a6,a7,a8,a9,a10⟩:=(HA.o.below hb lA).eleven;have vP:=Av lA hb.size;clear hq hall hb;by_cases hlt:k < m2
 ·obtain ⟨b,off,x,hF,hbl,hx,e0,e1,e2,e3,e4,e5,e6,e7,e8,e9,e10⟩:=bE (fH.o.mono FZ J8.o) hlt
  subst hF;have hk0:=Int.natCast_nonneg k
  have hk1:(k:Int) < (m2:Int):=AG
  have HX:=AF hx;obtain ⟨v,hv⟩:=BR (M4 us ss JZ x);obtain ⟨HV,HC⟩:=Al hv (fun o=>HAT.o x (wr.alloc o) (J8.o.alloc J8.o.size o));rw [hv] at HC;clear hv hx;go_wp2_with (go_at_call 167;refine (HC.o _).mono ?_;clear HC);rintro e w2 ⟨rfl,hb2⟩;have HB2:AI (AK wb w2):=AF ((DK.o.alloc DK.o.size _).trans (hb2.mono Qm));clear hb2 a0 a1 a2 a3 a4 a5 a6 a7 a8 a9 a10 e0 e1 e2 e3 e4 e5 e6 e7 e8 e9 e10;cases v with
  |
   false=>
   have HE:AI (R=false):=AF (by rw [HR2.o,Jy HX.o HV.o];rfl);go_wp2;go_ret;exact ⟨A8 HE.o.symm,AV BJ.o HB2.o⟩
  |
   true=>
   go_wp2;go_roundg (m2 - (k+1))
   case measure=>exact Bi
   case rel=>exact ⟨k+1,by omega,rfl,by go_num,Dq HX.o HV.o EU.o,HB2.o⟩
 have HT:AI (U9.all (M4 us ss JZ)=true):=by have:=EU.o;rw [C7 (by have:=Rf.o;omega)] at this;exact AF this
 have HR3:AI (R=(decide (0<=EI) && ((ss[EI.toNat]?).any fun h=>decide (Jr.length+1=h.fields.length)) && Jr.all (LW ss JZ EI) && Dw [] (Jr.map fun s=>s.field))):=AF (by rw [HR2.o,HT.o,Jc]);obtain ⟨wy,rfl⟩:=Ad wr;clear HR2 EU HT HQ HAT fH;by_cases hs0:EI < 0
 ·have HE:AI (R=false):=AF (by rw [HR3.o,BS AG];rfl)
  have hd0:decide (EI < 0)=true:=Bk hs0;exact AAK
 by_cases hs1:(n3:Int)<=EI
 ·have HE:AI (R=false):=AF (by
   rw [HR3.o,Dh Zb];simp)
  have hd0:decide (EI < 0)=false:=BS hs0;have hd1:decide ((n3:Int)<=EI)=true:=Bk hs1;exact AAK
 obtain ⟨i,rfl⟩:∃i:Nat,EI=i:=⟨EI.toNat,by omega⟩;obtain ⟨g1,o1,x,FA,fn,fc,DA,dn,dc,hA3,hbl,hx,e0,e1,e2,e3,e4,e5,hF,hD⟩:=GL (H3.o.mono BP J8.o) (k:=i) AG;subst hA3;have hfn:fn<=9000000000000:=by have:=hF.2;have:=hF.1.len;omega
 have MQ:=AF hF.1.len;have HR4:AI (R=(decide (Jr.length+1=x.fields.length) && Jr.all (LW ss JZ i) && Dw [] (Jr.map fun s=>s.field))):=AF (by rw [HR3.o,Bk AG,Cq,hx];rfl)
 have hd0:decide ((i:Int) < 0)=false:=BS hs0;have hd1:decide (n3<=i)=false:=BS AG;have hi0:(0:Int)<=(i:Int):=AG
 have hi1:(i:Int) < (n3:Int):=AG
 clear HR3 e0 e1 e2 e3 e5 hF hD hx hs0 hs1;cases q1:((m3:Int) !=(fn:Int) - 1) with
 |
  true=>
  have HE:AI (R=false):=AF (by simp at q1;rw [HR4.o,BS td];rfl)
  go_upto_region 10 with fail;go_quiet (fail);go_wp2;go_ret;exact ⟨A8 HE.o.symm,below_drewN CW.o _⟩
 | false=>
 have Ym:AI (R=(Jr.all (LW ss JZ i) && Dw [] (Jr.map fun s=>s.field))):=AF (by simp at q1;rw [HR4.o,Bk td,Jc])
 clear HR4;go_upto_region 10 with fail;go_quiet (fail);have NC:AI (AK wb (wy.drewN nq)):=AF (below_drewN DK.o _);generalize wy.drewN nq=wq at *;have Rh:AI (AK w wq):=AF (AV BJ.o NC.o);clear a0 a1 a2 a3 a4 a5 a6 a7 a8 a9 a10 e4 hbl vP q1 DK CW J8;obtain ⟨a0,a1,a2,a3,a4,a5,a6,a7,a8,a9,a10⟩:=(HA.o.below NC.o lA).eleven;have lAq:=Av lA NC.o.size;go_wp2_with fail;clear a0 a1 a2 a3 a4 a5 a6 a7 a8 a9 a10 lAq;go_loopg [6,69] m3 (fun q v6 i6 wr=>∃(k:Nat) (tv:AN),k<=m3/\q=m3 - k/\i6=AB AE k/\tv=v6/\(Jr.take k).all (LW ss JZ i)=true/\wr.ownsRow wq.heap.size 3 1 tv k (((Jr.take k).map fun s=>s.field).map (Value.int .i64))/\AK wq wr)
 case atStart=>exact ⟨0,AA none 0 0,Ay _,rfl,rfl,rfl,rfl,Ef _ _ _ _,Af _ _⟩
 obtain ⟨k,tv,hk,hq,rfl,rfl,hall,ho,hb⟩:=hrel;obtain ⟨HQ,EU,HO,DK⟩:=CD hq hall ho hb;have Ri:AI (AK wb wr):=AF (AV NC.o hb);have CW:AI (AK w wr):=AF (AV Rh.o hb);have J8:AI (AK w0 wr):=AF (AV HB0.o CW.o);clear hq hall ho hb;by_cases hlt:k < m3
 case neg=>
  have Vq:AI (k=m3):=AF AG;have hfull:Jr.take k=Jr:=C7 (by have:=lh.o;omega);have HE:AI (R=Dw [] (Jr.map fun s=>s.field)):=AF (by have:=EU.o;rw [hfull] at this;rw [Ym.o,this,Jc])
  have hsl:Ag 1 iR wr tv (Jr.map fun s=>s.field):=by have:=HO.o;rw [hfull] at this;exact NR this
  obtain ⟨TA,tc,hform⟩:∃TA tc,tv=AA TA k tc:=by obtain ⟨TA,tc,e,_⟩:=hsl;exact ⟨TA,tc,by rw [e,CY,<-lh.o,Vq.o]⟩
  subst hform;obtain ⟨v,hv⟩:∃v,Dw [] (Jr.map fun s=>s.field)=v:=⟨_,rfl⟩;have HD:AI (AS prog 169 #[AA TA k tc] wr fun e w'=>e=AW (Ab v)/\AK wr w'):=AF (by have:=bu TA k tc (Jr.map fun s=>s.field) wr hsl;rw [hv] at this;exact this)
  have HE2:AI (R=v):=AF (HE.o.trans hv);clear hsl hv hfull;go_wp2_with (go_at_call 169;refine HD.o.mono ?_;clear HD);rintro e w2 ⟨rfl,hb2⟩;have HB2:=AF (AV CW.o hb2);clear hb2;go_wp2;go_ret;exact ⟨A8 HE2.o.symm,HB2.o⟩
 obtain ⟨b,off,s,hS,hbl,hx,e0,e1,e2,e3,e4,e5,e6⟩:=iP (T0.o.mono GK J8.o) hlt;subst hS;have hk0:=Int.natCast_nonneg k
 have hk1:(k:Int) < (m3:Int):=AG
 have HX:=AF hx;clear hx;obtain ⟨sp,sf,st⟩:=s;simp only at e0 e1 e2 e3 e4 e5 e6;obtain ⟨a0,a1,a2,a3,a4,a5,a6,a7,a8,a9,a10⟩:=(HA.o.below Ri.o lA).eleven;have vP:=Av lA Ri.o.size;have HT:=AF (fun o=>lP.o i sf (wr.alloc o) (J8.o.alloc J8.o.size o));obtain ⟨y,hy⟩:=BR (typeAt ss i sf);have HSA:AI (LW ss JZ i ⟨sp,sf,st⟩=y.any fun f=>decide (sf≠0) && V6 ss JZ f st):=AF (by rw [LW,hy]);rw [hy] at HT;have Lr:AI (∀W,BL (wr.alloc (AO #[AL sp,AB AE sf,AL st.name,AL st.path,AB AE st.var,AB AE st.field,AB AE st.n] 284)).heap.size (wr.alloc (AO #[AL sp,AB AE sf,AL st.name,AL st.path,AB AE st.var,AB AE st.field,AB AE st.n] 284)) W->AY W wr.heap.size 284 #[AL sp,AB AE sf,AL st.name,AL st.path,AB AE st.var,AB AE st.field,AB AE st.n]):=AF (fun W h=>(AY.new wr _ _).below h AZ);clear hy;cases y with
 |
  none=>
  have HE:AI (R=false):=AF (by rw [Ym.o,Jy HX.o HSA.o];rfl);go_wp2_with (go_at_call 65;refine (HT.o _).mono ?_;clear HT;rintro e w2 ⟨⟨B,m',d',rfl,hs⟩,hb2⟩;have HB2:AI (AK w w2):=AF ((CW.o.alloc CW.o.size _).trans (hb2.mono (by have:=CW.o.size;simp;omega)));clear hs hb2;simp only [IV]);go_ret;exact ⟨A8 HE.o.symm,HB2.o.alloc HB2.o.size _⟩
 |
  some y=>
  obtain ⟨yk,yl,yh,yf,yu,yn⟩:=y;go_wp2_with (go_at_call 65;refine (HT.o _).mono ?_;clear HT);rintro e w2 ⟨⟨B,m',d',rfl,hs⟩,hb2⟩;have HS:=AF hs;have HB2:AI (AK wq w2):=AF ((DK.o.alloc DK.o.size _).trans (hb2.mono Qm));have ri:AI (AK wb w2):=AF (AV NC.o HB2.o);have cS:AI (AK w0 w2):=AF (AV HB0.o (AV Rh.o HB2.o));obtain ⟨Jz,Uc⟩:=Al (Cs (HO.o.alloc _) hb2) (Lr.o w2 hb2);clear hs hb2 Lr a0 a1 a2 a3 a4 a5 a6 a7 a8 a9 a10 vP e0 e1 e2 e3 e4 e5 e6 hbl DK Ri CW J8;simp only [Ge,Ce];simp only [Ce] at HS;obtain ⟨a0,a1,a2,a3,a4,a5,a6,a7,a8,a9,a10⟩:=(HA.o.below ri.o lA).eleven;have lA2:=Av lA ri.o.size;have s0:=Uc.o.cell 0;have s1:=Uc.o.cell 1;have s2:=Uc.o.cell 2;have s3:=Uc.o.cell 3;have s4:=Uc.o.cell 4;have s5:=Uc.o.cell 5;have s6:=Uc.o.cell 6;simp only [Aj,Ao,BA] at s0 s1 s2 s3 s4 s5 s6;have lS:=Uc.o.lt;cases q2:(sf==0) with
  |
   true=>
   have HE:AI (R=false):=AF (by
    have:LW ss JZ i ⟨sp,sf,st⟩=false:=by rw [HSA.o];simp at q2;simp [q2]
    rw [Ym.o,Jy HX.o this];rfl)
   go_wp2;go_ret;exact ⟨A8 HE.o.symm,AV Rh.o (HB2.o.alloc HB2.o.size _)⟩
  | false=>
  obtain ⟨v,hv⟩:∃v,V6 ss JZ ⟨yk,yl,yh,yf,yu,yn⟩ st=v:=⟨_,rfl⟩;have HV:AI (LW ss JZ i ⟨sp,sf,st⟩=v):=AF (by rw [HSA.o];simp at q2;simp [q2,hv]);have HC:=AF (fun o=>aS.o ⟨yk,yl,yh,yf,yu,yn⟩ st B m' d' (w2.alloc o) (cS.o.alloc cS.o.size o) HS.o);rw [hv] at HC;clear hv;have AJF:AI (∀o W,BL (w2.alloc o).heap.size (w2.alloc o) W->W.cell? ⟨wr.heap.size,1,none⟩=some (AB AE sf)/\wr.heap.size < W.heap.size):=AF (fun o W h=>by have hk:=(Uc.o.alloc o).below h (by have:=Uc.o.lt;simp;omega);exact ⟨hk.cell 1,hk.lt⟩)
  go_wp2_with (go_at_call 168;refine (HC.o _).mono ?_;clear HC);rintro e w3 ⟨rfl,hb3⟩;obtain ⟨s1,lS⟩:=AJF.o _ _ hb3;have HB3:AI (AK wq w3):=AF ((HB2.o.alloc HB2.o.size _).trans (hb3.mono XQ));have Ja:=AF (Cs (Jz.o.alloc _) hb3);clear hb3 AJF a0 a1 a2 a3 a4 a5 a6 a7 a8 a9 a10 lA2;cases v with
  |
   false=>
   have HE:AI (R=false):=AF (by rw [Ym.o,Jy HX.o HV.o];rfl);go_wp2;go_ret;exact ⟨A8 HE.o.symm,AV Rh.o HB3.o⟩
  |
   true=>
   obtain ⟨wt,hwt⟩:=Ad (w3.alloc (AO #[AB AE sf] 3));have lY:AI (wt.ownsRow wq.heap.size 3 1 tv k (((Jr.take k).map fun s=>s.field).map (Value.int .i64))):=AF (by rw [hwt];exact Ja.o.alloc _);have LJ:AI (Ag 1 iR wt (AA (some ⟨w3.heap.size,0,none⟩) 1 1) [sf]):=AF (by rw [hwt];exact vE (cs:=[AB AE sf]) (t:=3) (AY.new _ _ _) rfl rfl);have Vv:AI (AK wq wt):=AF (by rw [hwt];exact HB3.o.alloc HB3.o.size _);have HWT:=AF hwt;clear hwt s0 s2 s3 s4 s5 s6;go_wp2_with (at_builtin;rw [<-HWT.o];refine CQ wt rfl (AX 97) (AX 100) 30 3 rfl j0 _ 8 underlying30 HJ.o.1 HJ.o.2.1 HJ.o.2.2.1 HJ.o.2.2.2 rfl Ai (R:=iR) AHk wq.heap.size tv k _ rfl lY.o (some ⟨w3.heap.size,0,none⟩) 1 1 [sf] rfl LJ.o ?hn ?hb Vv.o.size ?_)
   case hn=>exact SX
   case hb=>omega
   intro v4 w4 eU hc4 Sz hg4 AKw;have HB4:AI (AK wq w4):=AF (Vv.o.grown hg4 Vv.o.size (fun k hk=>(lY.o.lt k hk).1));have Q8:=AF Sz;have Pa:AI (eU=[AB AE sf]):=AF (by have h1:=hc4.1;have h2:=hc4.2 0 sf rfl;simp only [ZN,Ga,IK] at h1 h2;rw [C7 AG] at h2;exact h2)
   clear hc4 Sz hg4 AKw;go_wp2;go_roundg (m3 - (k+1))
   case measure=>exact Bi
   case rel=>exact ⟨k+1,v4,by omega,rfl,by go_num,rfl,Dq HX.o HV.o EU.o,by rw [take_snoc HX.o,DY,DY];have:=Q8.o;rw [Pa.o] at this;simpa [List.map_take] using this,HB4.o⟩
theorem yz (g:Nat) (F1 F2 F3:Option Aa) (m1 d1 m2 d2 m3 d3:Nat) (hd:ByteArray) (EI:Int) (JZ:List CO) (U9:List Iv) (Jr:List Ma) (us:List Bv) (ss:List BM) (w:AH) (hk:AY w g 137 #[AA A1 n1 c1,AA A2 n2 c2,AA A3 n3 c3,AA A4 n4 c4,AA A5 n5 c5,AA A6 n6 c6]) (h2:Ag 5 CS w (AA A2 n2 c2) us) (h3:Ag 6 BW w (AA A3 n3 c3) ss)
 (hf:Ag 8 DU w (AA F1 m1 d1) JZ) (hwh:Ag 11 Ea w (AA F2 m2 d2) U9) (hse:BV 7 80 Gs w (AA F3 m3 d3) Jr) (hU:∀x∈ss,∀f∈x.fields,Qq n2 f.type):
 AS prog 104 #[AP #[AL hd,AB AE EI,AA F1 m1 d1,AA F2 m2 d2,AA F3 m3 d3],AU (some ⟨g,0,none⟩)] w fun e w'=>e=AW (Ab (JP us ss ⟨hd,EI,JZ,U9,Jr⟩))/\AK w w':=by
 have HB:AI (∀o,AK w (w.alloc o)):=AF (fun o=>(Af _ _).alloc (Ac _) _);have HC:=AF (fun o=>xB A1 A2 A3 A4 A5 A6 n1 c1 n2 c2 n3 c3 n4 c4 n5 c5 n6 c6 F1 F2 F3 m1 d1 m2 d2 m3 d3 hd EI JZ U9 Jr us ss w (w.alloc o) (HB.o o) h2 h3 hf hwh hse hU);obtain ⟨v,hv⟩:∃v,JP us ss ⟨hd,EI,JZ,U9,Jr⟩=v:=⟨_,rfl⟩;rw [hv] at HC ⊢;obtain ⟨a0,a1,a2,a3,a4,a5⟩:=hk.six;have lk:=hk.lt;clear hk h2 h3 hf hwh hse hU hv;go_enter func104,ntmps104;go_wp2_with (go_at_call 105;refine (HC.o _).mono ?_;clear HC);rintro e w2 ⟨rfl,hb2⟩;have HB2:=AF ((HB.o _).trans (hb2.mono AZ));clear hb2;go_wp2;go_ret;exact ⟨rfl,HB2.o⟩
def Mm (n2:Nat) (ss:List BM) (s f v:Int):Bool:=(typeAt ss s f).any fun t=>Jq n2 t && decide (t.lo<=v) && decide (v<=t.hi)
theorem jZ (sc f v:Int) (ss:List BM) (w0 w:AH) (hb0:AK w0 w) (hn2:n2<=9223372036854775807) (h3:Ag 6 BW w0 (AA A3 n3 c3) ss):
 AS prog 46 #[(AP #[AA A1 n1 c1,AA A2 n2 c2,AA A3 n3 c3,AA A4 n4 c4,AA A5 n5 c5,AA A6 n6 c6]),AB AE sc,AB AE f,AB AE v] w fun e w'=>e=AW (Ab (Mm n2 ss sc f v))/\AK w w':=by
 have hbb:∀o1 o2,AK w ((w.alloc o1).alloc o2):=fun o1 o2=>((BK _ _).alloc AZ _);obtain ⟨BJ,HT,HB0⟩:=BB hbb (fun o1 o2=>Rm A1 A2 A3 A4 A5 A6 n1 c1 n2 c2 n3 c3 n4 c4 n5 c5 n6 c6 sc f ss w0 ((w.alloc o1).alloc o2) (AV hb0 (hbb o1 o2)) h3) hb0;clear hb0 h3 hbb;obtain ⟨o,ho⟩:=BR (typeAt ss sc f);have HO:AI (Mm n2 ss sc f v=o.any fun t=>Jq n2 t && decide (t.lo<=v) && decide (v<=t.hi)):=AF (by rw [Mm,ho]);rw [ho] at HT;rw [HO.o];clear ho HO;have HK:AI (∀o1 W,BL ((w.alloc o1).alloc (AO #[AA A1 n1 c1,AA A2 n2 c2,AA A3 n3 c3,AA A4 n4 c4,AA A5 n5 c5,AA A6 n6 c6] 137)).heap.size ((w.alloc o1).alloc (AO #[AA A1 n1 c1,AA A2 n2 c2,AA A3 n3 c3,AA A4 n4 c4,AA A5 n5 c5,AA A6 n6 c6] 137)) W->AY W (w.heap.size+1) 137 #[AA A1 n1 c1,AA A2 n2 c2,AA A3 n3 c3,AA A4 n4 c4,AA A5 n5 c5,AA A6 n6 c6]):=AF (fun o1 W h=>AY.below (Dk AZ) h AZ);cases o with
 |
  none=>
  simp only [Option.any_none];go_enter func46,ntmps46;go_wp2_with (go_at_call 65;refine (HT.o _ _).mono ?_;clear HT;rintro e w2 ⟨⟨B,m,d,rfl,hs⟩,hb2⟩;have HB2:=AF ((BJ.o _ _).trans (hb2.mono (BJ.o _ _).size));clear hs hb2;simp only [IV]);go_ret;exact ⟨rfl,HB2.o.alloc HB2.o.size _⟩
 |
  some y=>
  simp only [Option.any_some];obtain ⟨yk,yl,yh,yf,yu,yn⟩:=y;go_enter func46,ntmps46;go_wp2_with (go_at_call 65;refine (HT.o _ _).mono ?_;clear HT);rintro e w2 ⟨⟨B,m,d,rfl,hs⟩,hb2⟩;obtain ⟨q0,q1,q2,q3,q4,q5⟩:=(HK.o _ _ hb2).six;have lq:=(HK.o _ _ hb2).lt;have HB2:=AF ((BJ.o _ _).trans (hb2.mono (BJ.o _ _).size));simp only [Ce] at hs;obtain ⟨vt,hvt⟩:∃b,Jq n2 ⟨yk,yl,yh,yf,yu,yn⟩=b:=⟨_,rfl⟩;have lP:AI (∀o,AS prog 66 #[(AP #[AA A1 n1 c1,AA A2 n2 c2,AA A3 n3 c3,AA A4 n4 c4,AA A5 n5 c5,AA A6 n6 c6]),AP #[AB AE yk,AB AE yl,AB AE yh,AL yf,AB AE yu,AA B m d]] (w2.alloc o) fun e w'=>e=AW (Ab vt)/\BL (w2.alloc o).heap.size (w2.alloc o) w'):=AF (fun o=>by have:=dR A1 A2 A3 A4 A5 A6 n1 c1 n2 c2 n3 c3 n4 c4 n5 c5 n6 c6 ⟨yk,yl,yh,yf,yu,yn⟩ B m d (w2.alloc o) hn2 (hs.1.mono BX (AV HB0.o (HB2.o.alloc HB2.o.size o)));rw [hvt] at this;exact this)
  have HVT:=AF hvt;clear hs hb2 hvt HK BJ;simp only [Ce,Ge];go_wp2_with (go_at_call 66;refine (lP.o _).mono ?_;clear lP);rintro e w3 ⟨rfl,hb3⟩;have kz:=(AY.new w2 109 #[AB AE yk,AB AE yl,AB AE yh,AL yf,AB AE yu,AA B m d]).below hb3 AZ;obtain ⟨z0,z1,z2,z3,z4,z5⟩:=kz.six;have lz:=kz.lt;have HB3:AI (AK w w3):=AF ((HB2.o.alloc HB2.o.size _).trans (hb3.mono XQ));clear kz hb3 q0 q1 q2 q3 q4 q5;cases vt <;>
  go_wp2_with fail
  all_goals
   go_ret;refine ⟨A8 ?_,HB3.o⟩;have hE:=HVT.o;rw [hE]
   go_light
   first
    | rfl
    | (simp_all;done)
    | (simp_all;omega)
def Qz (n2:Nat) (f:Gn):Bool:=Jq n2 f.type && decide (f.type.lo<=f.type.lo) && decide (f.type.lo<=f.type.hi)
def Jk (n2:Nat) (ss:List BM) (s:Int):Bool:=decide (0<=s) && decide (s < ss.length) && (ss[s.toNat]?).any fun x=>x.fields.all (Qz n2) && (x.fields[0]?).any fun f=>decide (f.type.kind=3)
theorem ACp {n2:Nat} {ss:List BM} {k i:Nat} {x:BM} {y:Gn} (hx:ss[k]? =some x) (hy:x.fields[i]? =some y):Mm n2 ss k i y.type.lo=Qz n2 y:=by rw [Mm,typeAt,Ah AG,Cq,Cq,hx,Option.bind_some,hy];rfl
theorem ABh {n2:Nat} {ss:List BM} {k:Nat} {x:BM} (hx:ss[k]? =some x):Jk n2 ss k=(x.fields.all (Qz n2) && (x.fields[0]?).any fun f=>decide (f.type.kind=3)):=by have:=(BF.1 hx).1;rw [Jk,Bk AG,Bk AG,Cq,hx];rfl
theorem xQ (sc:Int) (ss:List BM) (w0 w:AH) (hb0:AK w0 w) (hn2:n2<=9223372036854775807) (h3:Ag 6 BW w0 (AA A3 n3 c3) ss):
 AS prog 178 #[(AP #[AA A1 n1 c1,AA A2 n2 c2,AA A3 n3 c3,AA A4 n4 c4,AA A5 n5 c5,AA A6 n6 c6]),AB AE sc] w fun e w'=>e=AW (Ab (Jk n2 ss sc))/\AK w w':=by
 have hn3:n3<=9223372036854775807:=by have:=h3.le;omega
 obtain ⟨Hc,HB0,H3,Q9⟩:=CD h3.len hb0 h3 hn2;clear hb0 h3 hn2;by_cases hin:0<=sc/\sc < n3
 case neg=>
  have HE:AI (Jk n2 ss sc=false):=AF (by
   have:(decide (0<=sc) && decide (sc < ss.length))=false:=by simp only [NJ,NK];have:=Hc.o;omega
   rw [Jk,this];rfl)
  rw [HE.o];go_enter func178,ntmps178;go_wp2_with fail
  all_goals first
   | (exfalso;omega)
   | (go_ret;exact ⟨rfl,(BK _ _)⟩)
 obtain ⟨k,rfl⟩:∃k:Nat,sc=k:=⟨sc.toNat,by omega⟩;have hk0:=Int.natCast_nonneg k
 have hk1:(k:Int) < (n3:Int):=AG
 have hz:decide (n3<=k)=false:=BS AG;obtain ⟨b,off,x,FA,fn,fc,DA,dn,dc,hA3,hbl,hx,e0,e1,e2,e3,e4,e5,hF,hD⟩:=GL H3.o (k:=k) AG;subst hA3;have mf:fn<=9223372036854775807:=by have:=hF.1.le;omega
 have MQ:=AF hF.1.len;rw [<-HB0.o.cell (p:=⟨b,_,none⟩) hbl] at e4;have AIS:b < w.heap.size:=Av hbl HB0.o.size;have HX:=AF hx;have HP:AI (Jk n2 ss k=(x.fields.all (Qz n2) && (x.fields[0]?).any fun f=>decide (f.type.kind=3))):=AF (ABh hx);have HF:=AF hF.1;rw [HP.o];clear hin e0 e1 e2 e3 e5 hD hF hx HP;have kA:AY (w.alloc (AO #[AA A1 n1 c1,AA A2 n2 c2,AA (some ⟨b,off,none⟩) n3 c3,AA A4 n4 c4,AA A5 n5 c5,AA A6 n6 c6] 29)) w.heap.size 29 #[AA A1 n1 c1,AA A2 n2 c2,AA (some ⟨b,off,none⟩) n3 c3,AA A4 n4 c4,AA A5 n5 c5,AA A6 n6 c6]:=AY.new _ _ _;have HA:=AF kA;have BJ:AI (AK w (w.alloc (AO #[AA A1 n1 c1,AA A2 n2 c2,AA (some ⟨b,off,none⟩) n3 c3,AA A4 n4 c4,AA A5 n5 c5,AA A6 n6 c6] 29))):=AF (BK _ _);clear kA;go_enter func178,ntmps178;go_wp2_with fail;generalize w.alloc (AO #[AA A1 n1 c1,AA A2 n2 c2,AA (some ⟨b,off,none⟩) n3 c3,AA A4 n4 c4,AA A5 n5 c5,AA A6 n6 c6] 29)=wb at *;obtain ⟨ga,hga⟩:=Ad w.heap.size;rw [<-hga] at HA ⊢;have lA:=HA.o.lt;clear hga;go_loopg [25] fn (fun q i wr=>∃j:Nat,j<=fn/\q=fn - j/\i=AB AE j/\(x.fields.take j).all (Qz n2)=true/\AK wb wr)
 case atStart=>exact N3
 obtain ⟨j,hj,hq,rfl,hall,hb⟩:=hrel;obtain ⟨HQ,EU,DK⟩:=BB hq hall hb;have CW:AI (AK w wr):=AF (AV BJ.o hb);have J8:AI (AK w0 wr):=AF (AV HB0.o CW.o);obtain ⟨a0,a1,a2,a3,a4,a5⟩:=(HA.o.below hb lA).six;have vP:ga < wr.heap.size:=Av lA hb.size;clear hq hall hb;by_cases hlt:j < fn
 case neg=>
  have HT:AI (x.fields.all (Qz n2)=true):=by have:=EU.o;rw [C7 Za] at this;exact this
  clear a0 a1 a2 a3 a4 a5;by_cases h0:fn=0
  ·have HE:AI (x.fields[0]? =none):=AF (Dh Za)
   subst h0;go_wp2;go_ret;exact ⟨A8 (by rw [HT.o,HE.o];rfl),CW.o⟩
  obtain ⟨b',off',y,C,mc,dc',hB1,ij,hy,f0,f1,f2,f3,f4,f5,f6,f7,f8,f9,f10,G3⟩:=Iz (HF.o.mono DC J8.o) (k:=0) AG;subst hB1;have HY:=AF hy;simp only [Ru,Ee] at f1;have hfz:(0:Int) < (fn:Int):=AG
  have hk:(y.type.kind==3)=decide (y.type.kind=3):=by by_cases h:y.type.kind=3 <;> simp [h]
  have HK:=AF hk;clear hk hy f0 f2 f3 f4 f5 f6 f7 f8 f9 f10 G3 h0;go_wp2;go_ret;exact ⟨A8 (by rw [HT.o,HY.o,Option.any_some,Jc];exact HK.o),CW.o⟩
 obtain ⟨b',off',y,C,mc,dc',hB1,ij,hy,f0,f1,f2,f3,f4,f5,f6,f7,f8,f9,f10,G3⟩:=Iz (HF.o.mono DC J8.o) hlt;subst hB1;have hj0:(0:Int)<=(j:Int):=AG
 have hj1:(j:Int) < (fn:Int):=AG
 have HY:=AF hy;obtain ⟨vv,hvv⟩:=BR (Qz n2 y);obtain ⟨HVV,HV⟩:=Al hvv (fun o=>jZ A1 A2 (some ⟨b,off,none⟩) A4 A5 A6 n1 c1 n2 c2 n3 c3 n4 c4 n5 c5 n6 c6 k j y.type.lo ss w0 (wr.alloc o) (J8.o.alloc J8.o.size o) Q9.o H3.o);rw [ACp HX.o hy,hvv] at HV;clear hy G3 hvv;go_wp2_with (go_at_call 46;refine (HV.o _).mono ?_;clear HV);rintro e w2 ⟨rfl,hb2⟩;have HB2:=AF ((DK.o.alloc DK.o.size _).trans (hb2.mono Qm));clear hb2 a0 a1 a2 a3 a4 a5 f0 f1 f2 f3 f4 f5 f6 f7 f8 f9 f10;cases vv with
 |
  false=>
  have HE:AI (x.fields.all (Qz n2)=false):=AF (Jy HY.o HVV.o);go_wp2;go_ret;exact ⟨A8 (by rw [HE.o];rfl),AV BJ.o HB2.o⟩
 |
  true=>
  go_wp2;go_roundg (fn - (j+1))
  case measure=>exact Bi
  case rel=>exact ⟨j+1,by omega,rfl,by go_num,Dq HY.o HVV.o EU.o,HB2.o⟩
def fitsV (a b:Fy) (sh:Int) (an bn:Nat):Bool:=
 if a.kind≠b.kind then false
 else if a.kind=1\/a.kind=2 then (b.lo==wrap64 (a.lo+sh)) && (b.hi==wrap64 (a.hi+sh)) && (a.unit==b.unit)
 else (sh==0) && (a.lo==b.lo) && (a.hi==b.hi) && ((an:Int)==(bn:Int))
theorem ACS (a b:Fy) (sh:Int) (B C:Option Aa) (m d k e:Nat) (w:AH):
 AS prog 179 #[AP #[AB AE a.kind,AB AE a.lo,AB AE a.hi,AL a.Au,AB AE a.unit,AA B m d],AP #[AB AE b.kind,AB AE b.lo,AB AE b.hi,AL b.Au,AB AE b.unit,AA C k e],AB AE sh] w fun e w'=>e=AW (Ab (fitsV a b sh m k))/\AK w w':=by
 have HW:AI (∀o1 o2,AK w ((w.alloc o1).alloc o2)):=AF fun o1 o2=>((BK _ _).alloc AZ _);by_cases hkd:a.kind=b.kind
 case neg=>
  have hkn:(a.kind !=b.kind)=true:=by simpa using hkd
  have HE:AI (fitsV a b sh m k=false):=AF (by rw [fitsV,Ak hkd]);rw [HE.o];clear hkd;go_enter func179,ntmps179;go_wp2;go_ret;exact ⟨rfl,HW.o _ _⟩
 have hkn:(a.kind !=b.kind)=false:=by simpa using hkd
 by_cases h12:a.kind=1\/a.kind=2
 ·have HE:AI (fitsV a b sh m k=((b.lo==wrap64 (a.lo+sh)) && (b.hi==wrap64 (a.hi+sh)) && (a.unit==b.unit))):=AF (by rw [fitsV,Ah (by simpa using hkd),Ak h12])
  rw [HE.o];have h1:(a.kind==1)=true\/((a.kind==1)=false/\(a.kind==2)=true):=by
   rcases h12 with h | h
   · exact .inl (by simpa using h)
   · exact .inr ⟨by simp [h],by simpa using h⟩
  clear hkd h12;go_enter func179,ntmps179;rcases h1 with h1 | ⟨h1,h2⟩ <;>
  exact AAI
 have HE:AI (fitsV a b sh m k=((sh==0) && (a.lo==b.lo) && (a.hi==b.hi) && ((m:Int)==(k:Int)))):=AF (by rw [fitsV,Ah (by simpa using hkd),Ah h12]);rw [HE.o];have h1:(a.kind==1)=false:=by simpa using fun h=>h12 (.inl h)
 have h2:(a.kind==2)=false:=by simpa using fun h=>h12 (.inr h)
 clear hkd h12;go_enter func179,ntmps179;exact AAI
def dx (fa fb:List Gn) (m:LL):Bool:=
 match fa[m.a.toNat]?,fb[m.b.toNat]? with
 | some x,some y=>fitsV x.type y.type m.shift x.type.names.length y.type.names.length
 | _,_=>false
def UO (fa fb:List Gn):List Bool->List Bool->List LL->Bool
 | _,_,[]=>true
 |
  us,ts,m::l=>
  if ¬(1<=m.a/\m.a < fa.length/\1<=m.b/\m.b < fb.length) then false
  else if us[m.a.toNat]? =some true then false
  else if ts[m.b.toNat]? =some true then false
  else if dx fa fb m then UO fa fb (us.set m.a.toNat true) (ts.set m.b.toNat true) l else false
def NQ (n2:Nat) (ss:List BM) (c:DH):Bool:=
 if c.a=c.b then false
 else if Jk n2 ss c.a=false then false
 else if Jk n2 ss c.b=false then false
 else match ss[c.a.toNat]?,ss[c.b.toNat]? with
  | some x,some y=>if c.moves.length+1=x.fields.length then (if c.moves.length+1=y.fields.length then UO x.fields y.fields (List.replicate x.fields.length false) (List.replicate y.fields.length false) c.moves else false) else false
  | _,_=>false
theorem Rp {n2:Nat} {ss:List BM} {s:Int} (h:Jk n2 ss s=true):0<=s/\s < ss.length:=by simp only [Jk,Bb,By] at h;exact h.1
theorem ACG:(prog.info? 4).map (fun i=>(i.zero,i.size,i.bytes))=some (some (Ab false),1,1):=by kernel_rfl
theorem Ky {w:AH} {g:Nat} {t:Ae} {cs:Array AN} (h:AY w g t cs):AY w.drew g t cs:=h
theorem Qf {w:AH} {g i:Nat} {t:Ae} {us:List Bool} {v:Bool} (h:AY w g t (us.map Value.bool).toArray):AY (w.setCell ⟨g,i,none⟩ (Ab v)) g t ((us.set i v).map Value.bool).toArray:=by have:=h.put i (Ab v);simpa [List.map_set] using this
theorem ABa (n:Nat):Array.replicate n (Value.bool false)=((List.replicate n false).map Value.bool).toArray:=by simp
theorem su (nf:Nat):madeCells (Value.bool false).cells (nf*1)=Array.replicate nf (Value.bool false):=by
 apply Array.ext
 · simp [madeCells]
 intro i h1 h2;have:i % 1=0:=AG
 simp [madeCells,Value.cells,this]
theorem Wk (nf:Nat) (h:nf<=140737488355328) (W:AH):(Instr.makeSlice 237 (AB AE nf) (AB AE nf)).run prog W=.ok (AA (some ⟨W.heap.size,0,none⟩) nf nf) (W.alloc (AO (Array.replicate nf (Value.bool false)) 4)):=by obtain ⟨j0,hj,bY,bX,bW⟩:=I8 ACG;have:=run_make (P:=prog) W 237 4 j0 (Ab false) underlying237 hj bY .i64 .i64 nf nf AG AG (by rw [bW];omega) AG;rw [bX] at this;simp only [Cq] at this;rw [su] at this;exact this
theorem wT (cf ct:ByteArray) (ca cb:Int) (Xv:List LL) (MA:Option Aa) (mn mc:Nat) (ss:List BM) (w0 w:AH) (hb0:AK w0 w) (hn2:n2<=9223372036854775807) (h3:Ag 6 BW w0 (AA A3 n3 c3) ss) (hm:Ag 5 Gf w0 (AA MA mn mc) Xv):
 AS prog 116 #[(AP #[AA A1 n1 c1,AA A2 n2 c2,AA A3 n3 c3,AA A4 n4 c4,AA A5 n5 c5,AA A6 n6 c6]),AP #[AL cf,AL ct,AB AE ca,AB AE cb,AA MA mn mc]] w fun e w'=>e=AW (Ab (NQ n2 ss ⟨cf,ct,ca,cb,Xv⟩))/\AK w w':=by
 have hmn:mn<=9223372036854775807:=by have:=hm.le;omega
 have hn3:n3<=9223372036854775807:=by have:=h3.le;omega
 obtain ⟨wb,hwb⟩:=Ad ((w.alloc (AO #[AA A1 n1 c1,AA A2 n2 c2,AA A3 n3 c3,AA A4 n4 c4,AA A5 n5 c5,AA A6 n6 c6] 29)).alloc (AO #[AL cf,AL ct,AB AE ca,AB AE cb,AA MA mn mc] 163));have hbb:AK w wb:=by rw [hwb];exact ((BK _ _).alloc AZ _)
 have kA:AY wb w.heap.size 29 #[AA A1 n1 c1,AA A2 n2 c2,AA A3 n3 c3,AA A4 n4 c4,AA A5 n5 c5,AA A6 n6 c6]:=by rw [hwb];exact (AY.new _ _ _).alloc _
 have kB:AY wb (w.heap.size+1) 163 #[AL cf,AL ct,AB AE ca,AB AE cb,AA MA mn mc]:=by rw [hwb];exact Dk AZ
 have HP:AI (∀(sc:Int) (W:AH),AK wb W->AS prog 178 #[(AP #[AA A1 n1 c1,AA A2 n2 c2,AA A3 n3 c3,AA A4 n4 c4,AA A5 n5 c5,AA A6 n6 c6]),AB AE sc] W fun e w'=>e=AW (Ab (Jk n2 ss sc))/\AK W w'):=AF (fun sc W hW=>xQ A1 A2 A3 A4 A5 A6 n1 c1 n2 c2 n3 c3 n4 c4 n5 c5 n6 c6 sc ss w0 W (AV hb0 (AV hbb hW)) hn2 h3);obtain ⟨BJ,Cf,HA,HB,H3,HM,HB0,Hc⟩:=gy hbb hwb kA kB h3 hm hb0 h3.len;obtain ⟨b0',b1',b2',b3',b4'⟩:=kB.five;obtain ⟨a0',a1',a2',a3',a4',a5'⟩:=kA.six;obtain ⟨ga,hga⟩:=Ad w.heap.size;obtain ⟨gb,hgb⟩:=Ad (w.heap.size+1);have lA:=kA.lt;have lB:=kB.lt;clear hm h3 hb0 hbb hwb kA kB hn2;obtain ⟨R,hR⟩:∃R,NQ n2 ss ⟨cf,ct,ca,cb,Xv⟩=R:=⟨_,rfl⟩;have HR:=AF hR;rw [hR];clear hR;go_enter func116,ntmps116;go_upto_region 1 with fail;rw [<-Cf.o,<-hgb,<-hga];rw [<-hgb] at HB lB b0' b1' b2' b3' b4';rw [<-hga] at HA lA a0' a1' a2' a3' a4' a5';clear Cf hga hgb;cases hab:(ca==cb) with
 |
  true=>
  have HE:AI (R=false):=AF (by rw [<-HR.o,NQ,Ak (by simpa using hab)]);go_wp2;go_ret;exact ⟨A8 HE.o.symm,BJ.o⟩
 | false=>
 have HAB:AI (ca≠cb):=AF (by simpa using hab);obtain ⟨vu,HPB⟩:=Al (HP.o ca wb (Af _ _)) (HP.o cb);clear HP;cases hp1:Jk n2 ss ca with
 |
  false=>
  rw [hp1] at vu;have HE:AI (R=false):=AF (by rw [<-HR.o,NQ,Ah HAB.o,Ak hp1]);clear hp1;go_wp2_with (go_at_call 178;refine vu.o.mono ?_;clear vu);rintro e w1 ⟨rfl,hb1⟩;have HB1:=AF (AV BJ.o hb1);clear hb1;go_wp2;go_ret;exact ⟨A8 HE.o.symm,HB1.o⟩
 | true=>
 rw [hp1] at vu;have rG:=AF hp1;clear hp1;go_wp2_with (go_at_call 178;refine vu.o.mono ?_;clear vu);rintro e w1 ⟨rfl,hb1⟩;have HB1:=AF hb1;obtain ⟨b0,b1,b2,b3,b4⟩:=(HB.o.below hb1 lB).five;obtain ⟨a0,a1,a2,a3,a4,a5⟩:=(HA.o.below hb1 lA).six;clear hb1 a0' a1' a2' a3' a4' a5' b0' b1' b2' b3' b4';have jK:=AF (HPB.o w1 HB1.o);clear HPB;cases hp2:Jk n2 ss cb with
 |
  false=>
  rw [hp2] at jK;have HE:AI (R=false):=AF (by rw [<-HR.o,NQ,Ah HAB.o,Ah (by rw [rG.o];decide),Ak hp2]);clear hp2;go_wp2_with (go_at_call 178;refine jK.o.mono ?_;clear jK);rintro e w2 ⟨rfl,hb2⟩;have HB2:=AF (AV HB1.o hb2);clear hb2 a0 a1 a2 a3 a4 a5 b0 b1 b2 b3 b4;go_wp2;go_ret;exact ⟨A8 HE.o.symm,AV BJ.o HB2.o⟩
 | true=>
 rw [hp2] at jK;have HP2:=AF hp2;clear hp2;go_wp2_with (go_at_call 178;refine jK.o.mono ?_;clear jK);rintro e w2 ⟨rfl,hb2⟩;have HB2:=AF (AV HB1.o hb2);clear hb2 a0 a1 a2 a3 a4 a5 b0 b1 b2 b3 b4;obtain ⟨b0,b1,b2,b3,b4⟩:=(HB.o.below HB2.o lB).five;obtain ⟨a0,a1,a2,a3,a4,a5⟩:=(HA.o.below HB2.o lA).six;have lA2:=Av lA HB2.o.size;have lB2:=Av lB HB2.o.size;obtain ⟨i,hi⟩:∃i:Nat,ca=i:=⟨ca.toNat,by have:=(Rp rG.o).1;omega⟩;obtain ⟨j,hj⟩:∃j:Nat,cb=j:=⟨cb.toNat,by have:=(Rp HP2.o).1;omega⟩;subst hi hj;have hi0:(0:Int)<=(i:Int):=AG
 have hj0:(0:Int)<=(j:Int):=AG
 have hi1:(i:Int) < (n3:Int):=by have:=(Rp rG.o).2;have:=Hc.o;omega
 have hj1:(j:Int) < (n3:Int):=by have:=(Rp HP2.o).2;have:=Hc.o;omega
 obtain ⟨g1,o1,x,FA,fn,fc,DA,dn,dc,hA3,hbl,hx,e0,e1,e2,e3,e4,e5,hF,hD⟩:=GL H3.o (k:=i) AG;obtain ⟨g2,o2,y,GA,gn,gc,EA,en,ec,AK0,r1,hy,r2,r3,r4,r5,f4,r6,hG,r7⟩:=GL H3.o (k:=j) AG;subst hA3;injection AK0 with hq;injection hq with hq1 hq2;subst hq1 hq2;have hbw2:AK w0 w2:=AV HB0.o (AV BJ.o HB2.o);rw [<-hbw2.cell (p:=⟨g1,_,none⟩) hbl] at e4 f4;have hlw:=Av hbl hbw2.size;have hfn:fn<=9000000000000:=by have:=hF.2;have:=hF.1.len;omega
 have hgn:gn<=9000000000000:=by have:=hG.2;have:=hG.1.len;omega
 obtain ⟨MQ,HGN,MO,HF,HG⟩:=Db hF.1.len hG.1.len HM.o.len hF.1 hG.1;have HRR:AI (R=if Xv.length+1=x.fields.length then (if Xv.length+1=y.fields.length then UO x.fields y.fields (List.replicate x.fields.length false) (List.replicate y.fields.length false) Xv else false) else false):=AF (by rw [<-HR.o,NQ,Ah HAB.o,Ah (by rw [rG.o];decide),Ah (by rw [HP2.o];decide),Cq,Cq,hx,hy])
 have TW:=AF hbw2;clear e0 e1 e2 e3 e5 hF hG hD hx hy hbw2 HR rG HP2 HAB r1 r2 r3 r4 r5 r6 r7;go_upto_region 3 with fail;go_quiet (fail);clear a0 a1 a2 a3 a4 a5;have NC:AI (AK wb (w2.drewN nq)):=AF (below_drewN HB2.o _);generalize w2.drewN nq=wq at *;clear b0 b1 b2 b3 b4 e4 f4 hlw lA2 lB2 hbl;obtain ⟨b0,b1,b2,b3,b4⟩:=(HB.o.below NC.o lB).five;have lBq:=Av lB NC.o.size;cases q1:((mn:Int) !=(fn:Int) - 1) with
 |
  true=>
  have HE:AI (R=false):=AF (by rw [HRR.o,Ah (by simp at q1;have:=MO.o;have:=MQ.o;omega)]);go_wp2;go_ret;exact ⟨A8 HE.o.symm,AV BJ.o NC.o⟩
 | false=>
 cases q2:((mn:Int) !=(gn:Int) - 1) with
 |
  true=>
  have HE:AI (R=false):=AF (by rw [HRR.o];split;rw [Ah (by simp at q2;have:=MO.o;have:=HGN.o;omega)];rfl);go_wp2;go_ret;exact ⟨A8 HE.o.symm,AV BJ.o NC.o⟩
 | false=>
 have HE:AI (R=UO x.fields y.fields (List.replicate fn false) (List.replicate gn false) Xv):=AF (by simp at q1 q2;rw [HRR.o,Ak (by have:=MO.o;have:=MQ.o;omega),Ak (by have:=MO.o;have:=HGN.o;omega),<-MQ.o,<-HGN.o])
 clear HRR;have AKZ:=fun W=>Wk fn AG W;have AKY:=fun W=>Wk gn AG W;go_upto_region 6 with fail;clear q1 q2;go_cut [7,8] from 60 (fun v7 v8 wx=>∃gu gs,v7=AA (some ⟨gu,0,none⟩) fn fn/\v8=AA (some ⟨gs,0,none⟩) gn gn/\gu≠gs/\wb.heap.size<=gu/\wb.heap.size<=gs/\AY wx gu 4 (Array.replicate fn (Value.bool false))/\AY wx gs 4 (Array.replicate gn (Value.bool false))/\AK wb wx)
 case first=>
  go_region
  all_goals
   go_wp2
   go_meet
   first
    | exact ⟨wq.heap.size,wq.heap.size+1,rfl,rfl,by omega,NC.o.size,by have:=NC.o.size;omega,Ky ((AY.new _ _ _).alloc _),Ky (Dk AZ),((NC.o.alloc NC.o.size _).alloc (by have:=NC.o.size;simp;omega) _).drew⟩
    | exact ⟨wq.heap.size+1,wq.heap.size,rfl,rfl,by omega,by have:=NC.o.size;omega,NC.o.size,Ky (Dk AZ),Ky ((AY.new _ _ _).alloc _),((NC.o.alloc NC.o.size _).alloc (by have:=NC.o.size;simp;omega) _).drew⟩
 obtain ⟨gu,gs,rfl,rfl,hne,hgu,hgs,hbu,hbs,hbx⟩:=hcut;rw [ABa] at hbu hbs;obtain ⟨l8,Ri,Rh,XF,HGU,rV⟩:=Fg hbu hbs hbx hne hgu hgs;have bx4:=(HB.o.below hbx lB).five.2.2.2.2;have lBx:=Av lB hbx.size;clear AKZ AKY b0 b1 b2 b3 b4 hbu hbs hbx hne hgu hgs;clear HB1 HB2 NC lBq hi0 hj0 hi1 hj1 hab H3 TW HA lA;go_wp2_with fail;clear bx4 lBx HB lB;go_loopg [69] mn (fun q i wr=>∃(k:Nat) (us ts:List Bool),k<=mn/\q=mn - k/\i=AB AE k/\us.length=fn/\ts.length=gn/\UO x.fields y.fields us ts (Xv.drop k)=R/\AY wr gu 4 (us.map Value.bool).toArray/\AY wr gs 4 (ts.map Value.bool).toArray/\AK wb wr)
 case atStart=>exact ⟨0,List.replicate fn false,List.replicate gn false,Ay _,rfl,rfl,by simp,by simp,by rw [HE.o];rfl,l8.o,Ri.o,Rh.o⟩
 clear l8 Ri Rh HE;obtain ⟨k,us,ts,hk,hq,rfl,hus,hts,hgo,hbu,hbs,hb⟩:=hrel;obtain ⟨HQ,HUS,HTS,rW,l8,Ri,DK⟩:=LU hq hus hts hgo hbu hbs hb;have CW:AI (AK w wr):=AF (AV BJ.o hb);clear hq hus hts hgo hbu hbs hb;by_cases hlt:k < mn
 case neg=>
  have HT:AI (R=true):=AF (by rw [<-rW.o,FQ (by have:=MO.o;omega)];rfl)
  go_wp2;go_ret;exact ⟨A8 HT.o.symm,CW.o⟩
 have hbz:AK w0 wr:=AV HB0.o CW.o;obtain ⟨gm,om,m,hMA,hml,hmx,e0,e1,e2,e3,e4⟩:=bD (HM.o.mono GH hbz) hlt;subst hMA;have hk0:=Int.natCast_nonneg k
 have hk1:(k:Int) < (mn:Int):=AG
 have HG1:AI (UO x.fields y.fields us ts (m::Xv.drop (k+1))=R):=AF (by rw [<-drop_cons hmx];exact rW.o);have J8:=AF hbz;obtain ⟨mt,mf,mb,ma,Xw⟩:=m;clear hmx hbz rW;by_cases hin:1<=ma/\ma < fn/\1<=mb/\mb < gn
 case neg=>
  have HE:AI (R=false):=AF (by rw [<-HG1.o,UO,Ak (by rw [<-MQ.o,<-HGN.o];exact hin)])
  go_wp2_with fail
  all_goals first
   | (exfalso;omega)
   | (go_ret;exact ⟨A8 HE.o.symm,CW.o.alloc CW.o.size _⟩)
 obtain ⟨h1,h2,h3,h4⟩:=hin;obtain ⟨pa,rfl⟩:∃n:Nat,ma=n:=⟨ma.toNat,by omega⟩;obtain ⟨pb,rfl⟩:∃n:Nat,mb=n:=⟨mb.toNat,by omega⟩;obtain ⟨ub,hub⟩:∃v,us[pa]? =some v:=⟨us[pa]'(by have:=HUS.o;omega),BN _⟩;obtain ⟨tb,htb⟩:∃v,ts[pb]? =some v:=⟨ts[pb]'(by have:=HTS.o;omega),BN _⟩;have cu:wr.cell? ⟨gu,pa,none⟩=some (Ab ub):=by rw [l8.o.cell];simp [hub]
 have ct':wr.cell? ⟨gs,pb,none⟩=some (Ab tb):=by rw [Ri.o.cell];simp [htb]
 have fu:=l8.o.frozen pa;have fs:=Ri.o.frozen pb;have lu:=l8.o.lt;have ls:=Ri.o.lt;have z1:decide (pa < 1)=false:=BS AG;have z2:decide (fn<=pa)=false:=BS AG;have z3:decide (pb < 1)=false:=BS AG;have z4:decide (gn<=pb)=false:=BS AG;have HG2:AI (R=if us[pa]? =some true then false else if ts[pb]? =some true then false else if dx x.fields y.fields ⟨mt,mf,pb,pa,Xw⟩ then UO x.fields y.fields (us.set pa true) (ts.set pb true) (Xv.drop (k+1)) else false):=AF (by rw [<-HG1.o,UO,Ah (by rw [<-MQ.o,<-HGN.o];exact fun h=>h ⟨h1,h2,h3,h4⟩)];simp only [Cq])
 clear HG1;cases ub with
 |
  true=>
  have HE:AI (R=false):=AF (by rw [HG2.o,Ak hub]);go_wp2;go_ret;exact ⟨A8 HE.o.symm,CW.o.alloc CW.o.size _⟩
 | false=>
 cases tb with
 |
  true=>
  have HE:AI (R=false):=AF (by rw [HG2.o,Ah (by rw [hub];simp),Ak htb]);go_wp2;go_ret;exact ⟨A8 HE.o.symm,CW.o.alloc CW.o.size _⟩
 | false=>
 have fS:AI (R=if dx x.fields y.fields ⟨mt,mf,pb,pa,Xw⟩ then UO x.fields y.fields (us.set pa true) (ts.set pb true) (Xv.drop (k+1)) else false):=AF (by rw [HG2.o,Ah (by rw [hub];simp),Ah (by rw [htb];simp)])
 clear HG2;go_upto_region 12 with fail;clear z1 z2 z3 z4 cu ct' fu fs lu ls;obtain ⟨wm,hwm⟩:=Ad (wr.alloc (AO #[AL mt,AL mf,AB AE pb,AB AE pa,AB AE Xw] 294));rw [<-hwm];have HBM:AI (AK wb wm):=AF (by rw [hwm];exact DK.o.alloc DK.o.size _);have Vq:AI (AY wm wr.heap.size 294 #[AL mt,AL mf,AB AE pb,AB AE pa,AB AE Xw]):=AF (by rw [hwm];exact AY.new _ _ _);have fR:AI (AY wm gu 4 (us.map Value.bool).toArray):=AF (by rw [hwm];exact l8.o.alloc _);have Lr:AI (AY wm gs 4 (ts.map Value.bool).toArray):=AF (by rw [hwm];exact Ri.o.alloc _);have cu:wm.cell? ⟨gu,pa,none⟩=some (Ab false):=by rw [fR.o.cell];simp [hub]
 have ct':wm.cell? ⟨gs,pb,none⟩=some (Ab false):=by rw [Lr.o.cell];simp [htb]
 have fu:=fR.o.frozen pa;have fs:=Lr.o.frozen pb;have lu:=fR.o.lt;have ls:=Lr.o.lt;have HLU:AI (gu < wr.heap.size):=AF l8.o.lt;have lh:AI (gs < wr.heap.size):=AF Ri.o.lt;have lM:=Vq.o.lt;obtain ⟨m0,m1,m2,m3,m4⟩:=Vq.o.five;have hne1:gu≠wr.heap.size:=by have:=HLU.o;omega
 have hne2:gs≠wr.heap.size:=by have:=lh.o;omega
 have pn:=XF.o;clear hwm e0 e1 e2 e3 e4 hub htb;go_cut [69] from 69 to 133 (fun v69 wx=>v69=AB AE k/\AY wx gu 4 ((us.set pa true).map Value.bool).toArray/\AY wx gs 4 ((ts.set pb true).map Value.bool).toArray/\AY wx wr.heap.size 294 #[AL mt,AL mf,AB AE pb,AB AE pa,AB AE Xw]/\AK wb wx)
 case first=>
  go_region
  all_goals
   go_wp2
   go_meet
   first
    | exact ⟨rfl,Ky ((Qf fR.o).far pn _),Ky (Qf (Lr.o.far pn.symm _)),Ky ((Vq.o.far hne1.symm _).far hne2.symm _),((HBM.o.setCell HGU.o _).setCell rV.o _).drew⟩
    | exact ⟨rfl,Ky (Qf (fR.o.far pn _)),Ky ((Qf Lr.o).far pn.symm _),Ky ((Vq.o.far hne2.symm _).far hne1.symm _),((HBM.o.setCell rV.o _).setCell HGU.o _).drew⟩
 obtain ⟨rfl,hbu,hbs,hbm,hbx⟩:=hcut;obtain ⟨m0,m1,m2,m3,m4⟩:=hbm.five;have lM:=hbm.lt;obtain ⟨AJc,ri,Rh,AMe⟩:=CD hbu hbs hbx hbm;have TW:AI (AK w wc):=AF (AV BJ.o hbx);have cS:AI (AK w0 wc):=AF (AV HB0.o TW.o);clear hbu hbs hbm hbx cu ct' fu fs lu ls fR Lr HBM Vq HLU lh hne1 hne2 pn;obtain ⟨x1,xo,X,XB,xm,xd,hX,hxl,hX1,f0,f1,f2,f3,f4,f5,f6,f7,f8,f9,f10,GX⟩:=Iz (HF.o.mono DC cS.o) (k:=pa) AG;subst hX;obtain ⟨y1,yo,Y,YB,ym,yd,hY,hyl,hY1,p0,p1,p2,p3,p4,p5,p6,p7,p8,p9,p10,GY⟩:=Iz (HG.o.mono DC cS.o) (k:=pb) AG;subst hY;have hpa:(pa:Int) < (fn:Int):=AG
 have hpb:(pb:Int) < (gn:Int):=AG
 have AMF:(0:Int)<=(pa:Int):=AG
 have AME:(0:Int)<=(pb:Int):=AG
 obtain ⟨fv,hfv⟩:=BR (fitsV X.type Y.type Xw xm ym);have HFV:AI (dx x.fields y.fields ⟨mt,mf,pb,pa,Xw⟩=fv):=AF (by rw [<-hfv,dx];simp only [Cq,hX1,hY1];rw [<-GX.1.len,<-GY.1.len])
 have HFI:AI (AS prog 179 #[AP #[AB AE X.type.kind,AB AE X.type.lo,AB AE X.type.hi,AL X.type.Au,AB AE X.type.unit,AA XB xm xd],AP #[AB AE Y.type.kind,AB AE Y.type.lo,AB AE Y.type.hi,AL Y.type.Au,AB AE Y.type.unit,AA YB ym yd],AB AE Xw] wc.drew fun e w'=>e=AW (Ab fv)/\AK wc w'):=AF (by have:=ACS X.type Y.type Xw XB YB xm xd ym yd wc.drew;rw [hfv] at this;exact this.mono fun _ _ h=>⟨h.1,(Af wc.heap.size wc).drew.trans h.2⟩)
 have HS:AI (∀W,AK wc W->W.cell? ⟨wr.heap.size,2,none⟩=some (AB AE pb)/\W.cell? ⟨wr.heap.size,3,none⟩=some (AB AE pa)/\W.cell? ⟨wr.heap.size,4,none⟩=some (AB AE Xw)/\
  W.cell? ⟨x1,xo+pa*11+1,none⟩=some (AB AE X.type.kind)/\W.cell? ⟨x1,xo+pa*11+2,none⟩=some (AB AE X.type.lo)/\W.cell? ⟨x1,xo+pa*11+3,none⟩=some (AB AE X.type.hi)/\W.cell? ⟨x1,xo+pa*11+4,none⟩=some (AL X.type.Au)/\W.cell? ⟨x1,xo+pa*11+5,none⟩=some (AB AE X.type.unit)/\W.cell? ⟨x1,xo+pa*11+6,none⟩=some (AA XB xm xd)/\
  W.cell? ⟨y1,yo+pb*11+1,none⟩=some (AB AE Y.type.kind)/\W.cell? ⟨y1,yo+pb*11+2,none⟩=some (AB AE Y.type.lo)/\W.cell? ⟨y1,yo+pb*11+3,none⟩=some (AB AE Y.type.hi)/\W.cell? ⟨y1,yo+pb*11+4,none⟩=some (AL Y.type.Au)/\W.cell? ⟨y1,yo+pb*11+5,none⟩=some (AB AE Y.type.unit)/\W.cell? ⟨y1,yo+pb*11+6,none⟩=some (AA YB ym yd)):=AF (fun W hW=>
  ⟨(
   hW.cell (p:=⟨_,_,none⟩) lM).trans m2,(hW.cell (p:=⟨_,_,none⟩) lM).trans m3,(hW.cell (p:=⟨_,_,none⟩) lM).trans m4,
   (hW.cell (p:=⟨_,_,none⟩) hxl).trans f1,(hW.cell (p:=⟨_,_,none⟩) hxl).trans f2,(hW.cell (p:=⟨_,_,none⟩) hxl).trans f3,(hW.cell (p:=⟨_,_,none⟩) hxl).trans f4,(hW.cell (p:=⟨_,_,none⟩) hxl).trans f5,(hW.cell (p:=⟨_,_,none⟩) hxl).trans f6,
   (hW.cell (p:=⟨_,_,none⟩) hyl).trans p1,(hW.cell (p:=⟨_,_,none⟩) hyl).trans p2,(hW.cell (p:=⟨_,_,none⟩) hyl).trans p3,(hW.cell (p:=⟨_,_,none⟩) hyl).trans p4,(hW.cell (p:=⟨_,_,none⟩) hyl).trans p5,(hW.cell (p:=⟨_,_,none⟩) hyl).trans p6⟩)
 clear hfv hX1 hY1 f0 f1 f2 f3 f4 f5 f6 f7 f8 f9 f10 GX p0 p1 p2 p3 p4 p5 p6 p7 p8 p9 p10 GY m0 m1 m2 m3 m4;go_upto_region 13 with fail
 go_region_held3 (fun W=>W.cell? ⟨wr.heap.size,2,none⟩=some (AB AE pb)/\W.cell? ⟨wr.heap.size,3,none⟩=some (AB AE pa)/\W.cell? ⟨wr.heap.size,4,none⟩=some (AB AE Xw)/\
  W.cell? ⟨x1,xo+pa*11+1,none⟩=some (AB AE X.type.kind)/\W.cell? ⟨x1,xo+pa*11+2,none⟩=some (AB AE X.type.lo)/\W.cell? ⟨x1,xo+pa*11+3,none⟩=some (AB AE X.type.hi)/\W.cell? ⟨x1,xo+pa*11+4,none⟩=some (AL X.type.Au)/\W.cell? ⟨x1,xo+pa*11+5,none⟩=some (AB AE X.type.unit)/\W.cell? ⟨x1,xo+pa*11+6,none⟩=some (AA XB xm xd)/\
  W.cell? ⟨y1,yo+pb*11+1,none⟩=some (AB AE Y.type.kind)/\W.cell? ⟨y1,yo+pb*11+2,none⟩=some (AB AE Y.type.lo)/\W.cell? ⟨y1,yo+pb*11+3,none⟩=some (AB AE Y.type.hi)/\W.cell? ⟨y1,yo+pb*11+4,none⟩=some (AL Y.type.Au)/\W.cell? ⟨y1,yo+pb*11+5,none⟩=some (AB AE Y.type.unit)/\W.cell? ⟨y1,yo+pb*11+6,none⟩=some (AA YB ym yd))
  (first | with_reducible exact HS.o _ (Af _ _) | with_reducible exact HS.o _ (Af _ _).drew | with_reducible exact HS.o _ hb3)
  (first
   | (go_at_call 179;refine HFI.o.mono ?_;rintro e w3 ⟨rfl,hb3⟩))
 have HB3:=AF hb3;clear hb3 lM hxl hyl;cases fv with
 |
  false=>
  have HE:AI (R=false):=AF (by rw [fS.o,HFV.o];rfl);go_wp2;go_ret;exact ⟨A8 HE.o.symm,AV TW.o HB3.o⟩
 |
  true=>
  go_wp2;go_roundg (mn - (k+1))
  case measure=>exact Bi
  case rel=>exact ⟨k+1,us.set pa true,ts.set pb true,by omega,rfl,by go_num,by simpa using HUS.o,by simpa using HTS.o,by rw [fS.o,HFV.o];rfl,AJc.o.below HB3.o AJc.o.lt,ri.o.below HB3.o ri.o.lt,AV Rh.o HB3.o⟩
theorem sM {x y:Gn} (e0:x.name=y.name) (e1:(decide (x.w0=y.w0) && decide (x.w1=y.w1) && decide (x.w2=y.w2) && decide (x.w3=y.w3))=true) (e2:x.type.kind=y.type.kind) (e3:x.type.lo=y.type.lo) (e4:x.type.hi=y.type.hi) (e5:x.type.Au=y.type.Au) (e6:x.type.unit=y.type.unit) (e7:x.type.names=y.type.names):true=decide (x=y):=by obtain ⟨n,⟨t0,t1,t2,t3,t4,t5⟩,v0,v1,v2,v3⟩:=x;obtain ⟨n',⟨t0',t1',t2',t3',t4',t5'⟩,v0',v1',v2',v3'⟩:=y;simp only [Bb,By] at e1;simp_all
theorem mF (A1 B1:Option Aa) (n1 c1 m1 d1:Nat) (x y:Gn) (w:AH) (h1:Ag 1 Dd w (AA A1 n1 c1) x.type.names) (k1:Ag 1 Dd w (AA B1 m1 d1) y.type.names):
 AS prog 188 #[AP #[AL x.name,AB AE x.type.kind,AB AE x.type.lo,AB AE x.type.hi,AL x.type.Au,AB AE x.type.unit,AA A1 n1 c1,AB AE x.w0,AB AE x.w1,AB AE x.w2,AB AE x.w3],AP #[AL y.name,AB AE y.type.kind,AB AE y.type.lo,AB AE y.type.hi,AL y.type.Au,AB AE y.type.unit,AA B1 m1 d1,AB AE y.w0,AB AE y.w1,AB AE y.w2,AB AE y.w3]] w fun e w'=>e=AW (Ab (decide (x=y)))/\AK w w':=by
 obtain ⟨H1,K1⟩:=Al h1 k1;clear h1 k1;go_enter func188,ntmps188;go_upto_region 1 with fail;obtain ⟨wb,hwb⟩:=Ad ((w.alloc (AO #[AL x.name,AB AE x.type.kind,AB AE x.type.lo,AB AE x.type.hi,AL x.type.Au,AB AE x.type.unit,AA A1 n1 c1,AB AE x.w0,AB AE x.w1,AB AE x.w2,AB AE x.w3] 112)).alloc (AO #[AL y.name,AB AE y.type.kind,AB AE y.type.lo,AB AE y.type.hi,AL y.type.Au,AB AE y.type.unit,AA B1 m1 d1,AB AE y.w0,AB AE y.w1,AB AE y.w2,AB AE y.w3] 112));rw [<-hwb];have hbb:AK w wb:=by rw [hwb];exact (BK _ _).alloc AZ _
 have kA:AY wb w.heap.size 112 #[AL x.name,AB AE x.type.kind,AB AE x.type.lo,AB AE x.type.hi,AL x.type.Au,AB AE x.type.unit,AA A1 n1 c1,AB AE x.w0,AB AE x.w1,AB AE x.w2,AB AE x.w3]:=by rw [hwb];exact (AY.new _ _ _).alloc _
 have kB:AY wb (w.heap.size+1) 112 #[AL y.name,AB AE y.type.kind,AB AE y.type.lo,AB AE y.type.hi,AL y.type.Au,AB AE y.type.unit,AA B1 m1 d1,AB AE y.w0,AB AE y.w1,AB AE y.w2,AB AE y.w3]:=by rw [hwb];exact Dk AZ
 obtain ⟨ga,hga⟩:=Ad w.heap.size;obtain ⟨gb,hgb⟩:=Ad (w.heap.size+1);rw [<-hgb] at kB ⊢;rw [<-hga] at kA ⊢;have Hu:ga=w.heap.size:=hga;clear hwb hga hgb;have la:=kA.lt;have lb:=kB.lt;have a0:=kA.cell 0;have b0:=kB.cell 0;have a1:=kA.cell 1;have b1:=kB.cell 1;have a2:=kA.cell 2;have b2:=kB.cell 2;have a3:=kA.cell 3;have b3:=kB.cell 3;have a4:=kA.cell 4;have b4:=kB.cell 4;have a5:=kA.cell 5;have b5:=kB.cell 5;have a6:=kA.cell 6;have b6:=kB.cell 6;have a7:=kA.cell 7;have b7:=kB.cell 7;have a8:=kA.cell 8;have b8:=kB.cell 8;have a9:=kA.cell 9;have b9:=kB.cell 9;have a10:=kA.cell 10;have b10:=kB.cell 10;simp only [Aj,Ao,BA] at a0 b0 a1 b1 a2 b2 a3 b3 a4 b4 a5 b5 a6 b6 a7 b7 a8 b8 a9 b9 a10 b10;obtain ⟨HA,HB,BJ⟩:=BB kA kB hbb;have CH:AI (AK wb wb):=AF (Af _ _);clear kA kB hbb Hu;clear CH;go_region
 ·obtain ⟨wc,hwc⟩:=Ad (((wb.alloc (AO #[AB AE x.type.kind,AB AE x.type.lo,AB AE x.type.hi,AL x.type.Au,AB AE x.type.unit,AA A1 n1 c1] 109)).alloc (AO #[AB AE y.type.kind,AB AE y.type.lo,AB AE y.type.hi,AL y.type.Au,AB AE y.type.unit,AA B1 m1 d1] 109)).drew)
  rw [<-hwc];have kS:AY wc wb.heap.size 109 #[AB AE x.type.kind,AB AE x.type.lo,AB AE x.type.hi,AL x.type.Au,AB AE x.type.unit,AA A1 n1 c1]:=by rw [hwc];exact ((AY.new _ _ _).alloc _).drew
  have kT:AY wc (wb.heap.size+1) 109 #[AB AE y.type.kind,AB AE y.type.lo,AB AE y.type.hi,AL y.type.Au,AB AE y.type.unit,AA B1 m1 d1]:=by rw [hwc];exact (Dk AZ).drew
  have CH:AI (AK wb wc):=AF ud;clear hwc;obtain ⟨gs,hgs⟩:=Ad wb.heap.size;obtain ⟨gt,hgt⟩:=Ad (wb.heap.size+1);rw [<-hgt] at kT ⊢;rw [<-hgs] at kS ⊢;exact AFy
 obtain ⟨wc,hwc⟩:=Ad (((wb.alloc (AO #[AB AE y.type.kind,AB AE y.type.lo,AB AE y.type.hi,AL y.type.Au,AB AE y.type.unit,AA B1 m1 d1] 109)).alloc (AO #[AB AE x.type.kind,AB AE x.type.lo,AB AE x.type.hi,AL x.type.Au,AB AE x.type.unit,AA A1 n1 c1] 109)).drew);rw [<-hwc];have kS:AY wc (wb.heap.size+1) 109 #[AB AE x.type.kind,AB AE x.type.lo,AB AE x.type.hi,AL x.type.Au,AB AE x.type.unit,AA A1 n1 c1]:=by rw [hwc];exact (Dk AZ).drew
 have kT:AY wc wb.heap.size 109 #[AB AE y.type.kind,AB AE y.type.lo,AB AE y.type.hi,AL y.type.Au,AB AE y.type.unit,AA B1 m1 d1]:=by rw [hwc];exact ((AY.new _ _ _).alloc _).drew
 have CH:AI (AK wb wc):=AF ud;clear hwc;obtain ⟨gs,hgs⟩:=Ad (wb.heap.size+1);obtain ⟨gt,hgt⟩:=Ad wb.heap.size;rw [<-hgs] at kS ⊢;rw [<-hgt] at kT ⊢;exact AFy
theorem YN (A B:Option Aa) (n c m d:Nat) (l r:List Gn) (w:AH) (hl:Ag 11 Eg w (AA A n c) l) (hr:Ag 11 Eg w (AA B m d) r):
 AS prog 187 #[AA A n c,AA B m d,.func (.func 188) #[] #[]] w fun e w'=>e=AW (Ab (BD l r))/\AK w w':=by
 have hn2:n<=9223372036854775807:=by have:=hl.le;omega
 have hln:=hl.len;have hrn:=hr.len;obtain ⟨HL,HR⟩:=Al hl hr;clear hl hr;by_cases e:n=m
 ·subst e
  have el:l.length=r.length:=AG
  obtain ⟨HN,HE⟩:=Al hln el;clear hln hrn el;obtain ⟨v,hv⟩:=BR (BD l r);rw [hv];have HV:AI (BD (l.drop 0) (r.drop 0)=v):=AF hv;clear hv;go_enter func187,ntmps187;go_wp2_with fail;go_loopg [17] n (fun q i wr=>∃k:Nat,k<=n/\q=n - k/\i=AB AE k/\BD (l.drop k) (r.drop k)=v/\AK w wr)
  case atStart=>exact Md
  obtain ⟨k,hk,hq,rfl,hv,hb⟩:=hrel;obtain ⟨HQ,HB,EJ⟩:=BB hq hb hv;clear hq hb hv HV;by_cases hlt:k < n
  ·obtain ⟨a,ao,x,A1,n1,c1,rfl,hal,hx,e0,e1,e2,e3,e4,e5,e6,e7,e8,e9,e10,g1⟩:=Iz (HL.o.mono DC HB.o) hlt
   obtain ⟨b,bo,y,B1,m1,d1,rfl,hbl,hy,f0,f1,f2,f3,f4,f5,f6,f7,f8,f9,f10,j1⟩:=Iz (HR.o.mono DC HB.o) hlt;obtain ⟨HX,HY,G1,J1⟩:=CD hx hy g1 j1;have hkn:(k:Int) < (n:Int):=AG
   have hk0:=Int.natCast_nonneg k
   clear hx hy g1 j1;go_wp2_with (go_at_call 188;refine (mF A1 B1 n1 c1 m1 d1 x y _ (G1.o.1.mono BX ((BK _ _).alloc AZ _)) (J1.o.1.mono BX ((BK _ _).alloc AZ _))).mono ?_);exact Y3
  exact Mc
 have el:¬l.length=r.length:=AG
 rw [Fu el];go_enter func187,ntmps187;exact Ko
end Go.Proofs.YtamhoilkpppdbaaGreatDoor
