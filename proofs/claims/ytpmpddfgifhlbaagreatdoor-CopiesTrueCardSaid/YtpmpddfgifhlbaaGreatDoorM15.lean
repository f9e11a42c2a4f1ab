import Derived.Test.YtpmpddfgifhlbaaGreatDoorM14
namespace Go.Proofs.YtpmpddfgifhlbaaGreatDoor
set_option maxHeartbeats 8000000
set_option maxRecDepth 100000
open Go renaming World→AH, Value→AK, Calls→AS, TypeId→Ae, Program→BB, Addr→Aa
open Go.Proofs.Tryz
open Go.Value renaming slice→AA, int→AB, string→AN, pointer→AU, agg→AO
open Go.IntKind renaming i64→AE
open Go.Ending renaming returned→AV
open Go.Obj renaming cells→AQ
open Go.RowKit Go.Shelf
attribute [local go_sem] Oper.semAt_some
def Kp (w:AH) (e:Ending) (w':AH):Prop:=(∃b,e=AV (.bool b))/\AJ w w'
theorem AB3 (i:Int) (A B:Option Aa) (n c m d:Nat) (w:AH):AS prog 46 #[AB AE 1,AO #[AB AE i,AA A n c,AA B m d]] w (Kp w):=by
 go_enter func46,ntmps46;by_cases h1:(n:Int)<=30
 ·by_cases h2:(m:Int)<=12
  ·go_wp2_with fail
   exact mM
  go_wp2_with fail;exact mM
 go_wp2_with fail;exact mM
theorem pY (A:Option Aa) (n c:Nat) (l:List Cd) (w:AH) (h:Ag 3 Dc w (AA A n c) l):AS prog 20 #[AA A n c] w (Kp w):=by
 have hle:n<=9223372036854775807:=by have:=h.le;omega
 have H:=AF h;have HF:AI (∀i B1 m1 d1 B2 m2 d2 W,AS prog 46 #[AB AE 1,AO #[AB AE i,AA B1 m1 d1,AA B2 m2 d2]] W (Kp W)):=AF (fun i B1 m1 d1 B2 m2 d2 W=>AB3 i B1 B2 m1 d1 m2 d2 W);clear h;go_enter func20,ntmps20;go_wp2_with fail;have HB3:AI (AJ w w):=AF (Af _ _);go_loopg [3] n (fun q i wr=>∃k:Nat,k<=n/\q=n - k/\i=AB AE k/\AJ w wr)
 case atStart=>exact ⟨0,Ar _,rfl,rfl,HB3.o⟩
 clear HB3;obtain ⟨k,hk,hq,rfl,hb⟩:=hrel;obtain ⟨HQ,DF⟩:=Aj hq hb;by_cases hlt:k < n
 ·obtain ⟨lb,lo,x,B1,m1,e1,B2,m2,e2,rfl,hlb,hx,hx1,hx2,hlc⟩:=P2 (H.o.mono CD hb) hlt
  have hkn:(k:Int) < (n:Int):=AG
  have hk0:=Int.natCast_nonneg k
  have c0:wr.cell? ⟨lb,lo+k*3,none⟩=some (AB AE x.index):=hlc 0 _ rfl;have c1:wr.cell? ⟨lb,lo+k*3+1,none⟩=some (AA B1 m1 e1):=hlc 1 _ rfl;have c2:wr.cell? ⟨lb,lo+k*3+2,none⟩=some (AA B2 m2 e2):=hlc 2 _ rfl;clear hx hx1 hx2 hlc hq hb;go_wp2_with (go_at_call 46;refine (HF.o _ _ _ _ _ _ _ _).mono ?_;rintro e w2 ⟨⟨b,rfl⟩,hb2⟩;have HB2:=AF (AW DF.o hb2);clear hb2;cases b)
  all_goals first
   | (go_ret;exact ⟨⟨_,rfl⟩,HB2.o⟩)
   | (
    go_roundg (n - (k+1))
    case measure=>exact Bc
    case rel=>exact ⟨k+1,by omega,rfl,by go_num,HB2.o⟩)
 obtain rfl:k=n:=AG
 go_wp2;go_ret;exact ⟨⟨_,rfl⟩,DF.o⟩
def AIH (w:AH) (e:Ending) (w':AH):Prop:=(∃z,e=AV (AB AE z))/\AJ w w'
section
variable (v0 v1 v3 v4 v5 v6:AK) (A:Option Aa) (n c:Nat) (ns:List Nat)
theorem xq (sc:Int) (w:AH) (hs:Ag 6 LG w (AA A n c) ns):AS prog 47 #[AO #[v0,v1,AA A n c,v3,v4,v5,v6],AB AE sc] w (AIH w):=by
 have HS:=AF hs;clear hs;go_enter func47,ntmps47;go_upto_region 1 with fail;obtain ⟨k1,b1,s1⟩:=bx w #[v0,v1,AA A n c,v3,v4,v5,v6] 32;generalize (w.alloc (AQ #[v0,v1,AA A n c,v3,v4,v5,v6] 32))=w1 at k1 b1 s1 ⊢;have c2:w1.cell? ⟨w.heap.size,2,none⟩=some (AA A n c):=k1.cell 2;have HB:=AF b1;clear k1 b1 s1;by_cases h1:sc < 0
 ·go_wp2
  exact m8
 by_cases h2:(n:Int)<=sc
 ·go_wp2
  exact m8
 obtain ⟨k,rfl⟩:∃k:Nat,sc=k:=⟨sc.toNat,by omega⟩;have hkn:k < n:=AG
 have hk1:(k:Int) < (n:Int):=AG
 have hk0:=Int.natCast_nonneg k
 obtain ⟨b,off,x,x0,x1,x2,x3,B,cc,x5,hA,hb,hx,hxl,hone,hcell⟩:=Ni HS.o hkn;subst hA;have e4:w1.cell? ⟨b,off+k*6+4,none⟩=some (AA B x cc):=(HB.o.cell (p:=⟨b,off+k*6+4,none⟩) hb).trans (hcell 4 _ rfl);clear hcell hone hx;go_wp2;exact m8
theorem i5 (sc:Int) (w:AH) (hs:Ag 6 LG w (AA A n c) ns):AS prog 21 #[AO #[v0,v1,AA A n c,v3,v4,v5,v6],AB AE sc] w (Kp w):=by have HF:AI (∀W,AJ w W->AS prog 47 #[AO #[v0,v1,AA A n c,v3,v4,v5,v6],AB AE sc] W (AIH W)):=AF (fun W hW=>xq v0 v1 v3 v4 v5 v6 A n c ns sc W (hs.mono FI hW));clear hs;go_enter func21,ntmps21;go_upto_region 1 with fail;obtain ⟨k1,b1,s1⟩:=bx w #[v0,v1,AA A n c,v3,v4,v5,v6] 32;generalize (w.alloc (AQ #[v0,v1,AA A n c,v3,v4,v5,v6] 32))=w1 at k1 b1 s1 ⊢;have c0:w1.cell? ⟨w.heap.size,0,none⟩=some v0:=k1.cell 0;have c1:w1.cell? ⟨w.heap.size,1,none⟩=some v1:=k1.cell 1;have c2:w1.cell? ⟨w.heap.size,2,none⟩=some (AA A n c):=k1.cell 2;have c3:w1.cell? ⟨w.heap.size,3,none⟩=some v3:=k1.cell 3;have c4:w1.cell? ⟨w.heap.size,4,none⟩=some v4:=k1.cell 4;have c5:w1.cell? ⟨w.heap.size,5,none⟩=some v5:=k1.cell 5;have c6:w1.cell? ⟨w.heap.size,6,none⟩=some v6:=k1.cell 6;have HB:=AF b1;clear k1 b1 s1;go_wp2_with (go_at_call 47;refine (HF.o _ HB.o).mono ?_;rintro e w2 ⟨⟨z,rfl⟩,hb2⟩;have HB2:=AF (AW HB.o hb2);clear hb2);go_ret;exact ⟨⟨_,rfl⟩,HB2.o⟩
theorem AB2 (r:CS) (p:Tg) (VA LA KA:Option Aa) (vn vc ln lc kn kc:Nat) (cl:List Cd) (w:AH) (hs:Ag 6 LG w (AA A n c) ns) (hF:∀W,AJ w W->AS prog 19 #[AO #[v0,v1,AA A n c,v3,v4,v5,v6]] W (Kp W))
 (hh:p.holder.length=32) (hv:p.values=AA VA vn vc) (hl:p.links=AA LA ln lc) (hk:p.claims=AA KA kn kc) (hc:Ag 3 Dc w (AA KA kn kc) cl):AS prog 5 #[AO #[v0,v1,AA A n c,v3,v4,v5,v6],AO (rdA r),AO (Hf p)] w (Kp w):=by
 obtain ⟨RR,hRR⟩:=Ab (rdA r);obtain ⟨Y,hY⟩:=Ab (Hf p);have LV:AI (∀W g,AZ W g 48 Y->CpB W g p):=AF (fun W g h=>by rw [hY] at h;exact Nh h hh);have LI:AI (RR[2]? =some (AB AE r.schema)/\RR[5]? =some (AB AE r.places)):=AF mg
 rw [<-hRR,<-hY];have ux:AI (∀sc W,AJ w W->AS prog 21 #[AO #[v0,v1,AA A n c,v3,v4,v5,v6],AB AE sc] W (Kp W)):=AF (fun sc W hW=>i5 v0 v1 v3 v4 v5 v6 A n c ns sc W (hs.mono FI hW));have LU:AI (∀W,AJ w W->AS prog 20 #[AA KA kn kc] W (Kp W)):=AF (fun W hW=>pY KA kn kc cl W (hc.mono CD hW));obtain ⟨NJ,qQ⟩:=Aj hF (And.intro hv (And.intro hl hk));clear hs hF hh hv hl hk hc hRR hY;go_enter func5,ntmps5;go_upto_region 1 with fail;obtain ⟨k1,b1,s1⟩:=bx w #[v0,v1,AA A n c,v3,v4,v5,v6] 32;generalize (w.alloc (AQ #[v0,v1,AA A n c,v3,v4,v5,v6] 32))=w1 at k1 b1 s1 ⊢;obtain ⟨k2,b2,s2⟩:=bx w1 RR 36;generalize (w1.alloc (AQ RR 36))=w2 at k2 b2 s2 ⊢;rw [s1] at k2 b2 s2;obtain ⟨k3,b3,s3⟩:=bx w2 Y 48;generalize (w2.alloc (AQ Y 48))=w3 at k3 b3 s3 ⊢;rw [s2] at k3 b3 s3;have HB3:AI (AJ w w3):=AF ((b1.trans (b2.mono AG)).trans (b3.mono AG));have HE:AI (∀W,AJ w3 W->(W.cell? ⟨w.heap.size,0,none⟩=some v0/\W.cell? ⟨w.heap.size,1,none⟩=some v1/\W.cell? ⟨w.heap.size,2,none⟩=some (AA A n c)/\W.cell? ⟨w.heap.size,3,none⟩=some v3/\W.cell? ⟨w.heap.size,4,none⟩=some v4/\W.cell? ⟨w.heap.size,5,none⟩=some v5/\W.cell? ⟨w.heap.size,6,none⟩=some v6)/\(W.cell? ⟨w.heap.size+1,2,none⟩=some (AB AE r.schema)/\W.cell? ⟨w.heap.size+1,5,none⟩=some (AB AE r.places))/\W.cell? ⟨w.heap.size+1+1,36,none⟩=some (AA VA vn vc)/\W.cell? ⟨w.heap.size+1+1,37,none⟩=some (AA LA ln lc)/\W.cell? ⟨w.heap.size+1+1,38,none⟩=some (AA KA kn kc)):=AF (fun W hW=>by have a:=((k1.below b2 AG).below b3 AG).below hW AG;have b:=(k2.below b3 AG).below hW AG;have d:=LV.o W _ (k3.below hW AG);exact ⟨⟨a.cell 0,a.cell 1,a.cell 2,a.cell 3,a.cell 4,a.cell 5,a.cell 6⟩,⟨(b.cell 2).trans LI.o.1,(b.cell 5).trans LI.o.2⟩,d.values.trans (congrArg some qQ.o.1),d.links.trans (congrArg some qQ.o.2.1),d.claims.trans (congrArg some qQ.o.2.2)⟩)
 clear k1 b1 s1 k2 b2 s2 k3 b3 s3;obtain ⟨⟨d0,d1,d2,d3,d4,d5,d6⟩,_⟩:=HE.o w3 (Af _ _);have hcase:¬r.places<=3\/(r.places<=3/\¬(vn:Int)<=16)\/(r.places<=3/\(vn:Int)<=16/\¬(ln:Int)<=8)\/(r.places<=3/\(vn:Int)<=16/\(ln:Int)<=8):=AG
 rcases hcase with h1 | ⟨h1,h2⟩ | ⟨h1,h2,h3⟩ | ⟨h1,h2,h3⟩
 all_goals go_wp2_with (first
  | (go_at_call 19;refine (NJ.o _ HB3.o).mono ?_;rintro e w4 ⟨⟨b,rfl⟩,hb4⟩;have HB4:=AF (AW HB3.o hb4);have vH:=AF hb4;obtain ⟨_,⟨e2,e5⟩,e36,e37,e38⟩:=HE.o w4 hb4;clear hb4;cases b)
  | (go_at_call 20;refine (LU.o _ HB4.o).mono ?_;rintro e w5 ⟨⟨b,rfl⟩,hb5⟩;have CW:=AF (AW HB4.o hb5);obtain ⟨⟨d0,d1,d2,d3,d4,d5,d6⟩,⟨g2,g5⟩,_⟩:=HE.o w5 (AW vH.o hb5);clear hb5;cases b)
  | (go_at_call 21;refine (ux.o _ _ CW.o).mono ?_;rintro e w6 ⟨⟨b,rfl⟩,hb6⟩;have FK:=AF (AW CW.o hb6);clear hb6)
  | fail)
 all_goals (go_ret;first | exact ⟨⟨_,rfl⟩,FK.o⟩ | exact ⟨⟨_,rfl⟩,CW.o⟩ | exact ⟨⟨_,rfl⟩,HB4.o⟩)
theorem pX (r:CS) (p:Iq) (FA VA KA:Option Aa) (fn fc vn vc kn kc:Nat) (cl:List Cd) (w:AH) (hs:Ag 6 LG w (AA A n c) ns) (hF:∀W,AJ w W->AS prog 19 #[AO #[v0,v1,AA A n c,v3,v4,v5,v6]] W (Kp W))
 (hh:p.holder.length=32) (ht:p.token.length=32) (hl:p.fields=AA FA fn fc) (hv:p.values=AA VA vn vc) (hk:p.claims=AA KA kn kc) (hc:Ag 3 Dc w (AA KA kn kc) cl):AS prog 6 #[AO #[v0,v1,AA A n c,v3,v4,v5,v6],AO (rdA r),AO (Et p)] w (Kp w):=by
 obtain ⟨RR,hRR⟩:=Ab (rdA r);obtain ⟨Y,hY⟩:=Ab (Et p);have LV:AI (∀W g,AZ W g 44 Y->SwB W g p):=AF (fun W g h=>by rw [hY] at h;exact IQ h hh ht);have LI:AI (RR[2]? =some (AB AE r.schema)/\RR[5]? =some (AB AE r.places)):=AF mg
 rw [<-hRR,<-hY];have ux:AI (∀sc W,AJ w W->AS prog 21 #[AO #[v0,v1,AA A n c,v3,v4,v5,v6],AB AE sc] W (Kp W)):=AF (fun sc W hW=>i5 v0 v1 v3 v4 v5 v6 A n c ns sc W (hs.mono FI hW));have LU:AI (∀W,AJ w W->AS prog 20 #[AA KA kn kc] W (Kp W)):=AF (fun W hW=>pY KA kn kc cl W (hc.mono CD hW));obtain ⟨NJ,qQ⟩:=Aj hF (And.intro hl (And.intro hv hk));clear hs hF hh ht hv hl hk hc hRR hY;go_enter func6,ntmps6;go_upto_region 1 with fail;obtain ⟨k1,b1,s1⟩:=bx w #[v0,v1,AA A n c,v3,v4,v5,v6] 32;generalize (w.alloc (AQ #[v0,v1,AA A n c,v3,v4,v5,v6] 32))=w1 at k1 b1 s1 ⊢;obtain ⟨k2,b2,s2⟩:=bx w1 RR 36;generalize (w1.alloc (AQ RR 36))=w2 at k2 b2 s2 ⊢;rw [s1] at k2 b2 s2;obtain ⟨k3,b3,s3⟩:=bx w2 Y 44;generalize (w2.alloc (AQ Y 44))=w3 at k3 b3 s3 ⊢;rw [s2] at k3 b3 s3;have HB3:AI (AJ w w3):=AF ((b1.trans (b2.mono AG)).trans (b3.mono AG));have HE:AI (∀W,AJ w3 W->(W.cell? ⟨w.heap.size,0,none⟩=some v0/\W.cell? ⟨w.heap.size,1,none⟩=some v1/\W.cell? ⟨w.heap.size,2,none⟩=some (AA A n c)/\W.cell? ⟨w.heap.size,3,none⟩=some v3/\W.cell? ⟨w.heap.size,4,none⟩=some v4/\W.cell? ⟨w.heap.size,5,none⟩=some v5/\W.cell? ⟨w.heap.size,6,none⟩=some v6)/\(W.cell? ⟨w.heap.size+1,2,none⟩=some (AB AE r.schema)/\W.cell? ⟨w.heap.size+1,5,none⟩=some (AB AE r.places))/\W.cell? ⟨w.heap.size+1+1,36,none⟩=some (AA FA fn fc)/\W.cell? ⟨w.heap.size+1+1,37,none⟩=some (AA VA vn vc)/\W.cell? ⟨w.heap.size+1+1,71,none⟩=some (AA KA kn kc)):=AF (fun W hW=>by have a:=((k1.below b2 AG).below b3 AG).below hW AG;have b:=(k2.below b3 AG).below hW AG;have d:=LV.o W _ (k3.below hW AG);exact ⟨⟨a.cell 0,a.cell 1,a.cell 2,a.cell 3,a.cell 4,a.cell 5,a.cell 6⟩,⟨(b.cell 2).trans LI.o.1,(b.cell 5).trans LI.o.2⟩,d.fields.trans (congrArg some qQ.o.1),d.values.trans (congrArg some qQ.o.2.1),d.claims.trans (congrArg some qQ.o.2.2)⟩)
 clear k1 b1 s1 k2 b2 s2 k3 b3 s3;obtain ⟨⟨d0,d1,d2,d3,d4,d5,d6⟩,_⟩:=HE.o w3 (Af _ _);have hcase:¬r.places<=3\/(r.places<=3/\¬(fn:Int)<=16)\/(r.places<=3/\(fn:Int)<=16/\¬(vn:Int)<=16)\/(r.places<=3/\(fn:Int)<=16/\(vn:Int)<=16):=AG
 rcases hcase with h1 | ⟨h1,h2⟩ | ⟨h1,h2,h3⟩ | ⟨h1,h2,h3⟩
 all_goals go_wp2_with (first
  | (go_at_call 19;refine (NJ.o _ HB3.o).mono ?_;rintro e w4 ⟨⟨b,rfl⟩,hb4⟩;have HB4:=AF (AW HB3.o hb4);have vH:=AF hb4;obtain ⟨⟨d0,d1,d2,d3,d4,d5,d6⟩,⟨e2,e5⟩,_⟩:=HE.o w4 hb4;clear hb4;cases b)
  | (go_at_call 21;refine (ux.o _ _ HB4.o).mono ?_;rintro e w5 ⟨⟨b,rfl⟩,hb5⟩;have CW:=AF (AW HB4.o hb5);obtain ⟨_,_,e36,e37,e71⟩:=HE.o w5 (AW vH.o hb5);clear hb5;cases b)
  | (go_at_call 20;refine (LU.o _ CW.o).mono ?_;rintro e w6 ⟨⟨b,rfl⟩,hb6⟩;have FK:=AF (AW CW.o hb6);clear hb6)
  | fail)
 all_goals (go_ret;first | exact ⟨⟨_,rfl⟩,FK.o⟩ | exact ⟨⟨_,rfl⟩,CW.o⟩ | exact ⟨⟨_,rfl⟩,HB4.o⟩)
end
attribute [local go_sem] Oper.semAt_some
theorem Bd {P:BB} {w:AH} {ops:Array Oper} {rest:List Oper} {o:Oper} {a:Act} {Q:Exit->Act->AH->Prop} {r:AK} (hw:Region.wanted o (yielded ops a.tmps)=true) (ty:Ae) (x:Operand) (ho:o.op=.load ty x) (p:AK) (hx:a.eval x=p) (hr:(Instr.loadAt ty p).run P w=.ok r w)
 (h:wpList P ops Q rest (a.put o.dst r) w):wpList P ops Q (o::rest) a w:=
 US hw fun K hK=>by unfold Oper.wp execOp;simp only [ho,hx,Cs,DL,Result.andThen_ok,hr];exact hK _ _ h
attribute [local go_sem] Oper.semAt_some
theorem Pt {α:Type} {sz:Nat} {R:AH->List AK->α->Prop} {w:AH} {l:List α} {g:Nat} {t:Ae} {cs:List AK} (h:AZ w g t cs.toArray) (hc:Ao sz R w cs l) (hm:l.length<=maxLen):Ag sz R w (AA (some ⟨g,0,none⟩) l.length l.length) l:=by
 refine ⟨some ⟨g,0,none⟩,l.length,rfl,Ad _,hm,fun i x hi=>⟨g,0,(cs.drop (i*sz)).take sz,rfl,h.lt,?_,?_,hc.2 i x hi⟩⟩
 ·have hil:=(BA.1 hi).1
  exact AAG
 intro j u hu;rcases Ez j sz with hj | hj
 ·rw [JN hj,EC] at hu
  rw [Ex,h.cell];simpa using hu
 rw [DY QS] at hu;cases hu
theorem U4 {w:AH} {t:Ae} {cs:Array AK} {g:Nat} (h:w.heap.size=g):AZ (w.alloc (AQ cs t)) g t cs:=by subst h;exact AZ.new _ _ _
def AFi:Array AK:=#[AN ⟨#[115,101,108,102]⟩,AB AE 3,AB AE 0,AB AE 4095,AN ⟨#[]⟩,AB AE (-1),AA none 0 0,AB AE 0,AB AE 0,AB AE 0,AB AE 0,AN ⟨#[97]⟩,AB AE 1,AB AE 0,AB AE 9,AN ⟨#[]⟩,AB AE (-1),AA none 0 0,AB AE 0,AB AE 0,AB AE 0,AB AE 0]
def vq (g1 g3 g4:Nat):Array AK:=#[AA (some ⟨g1,0,none⟩) 1 1,AA none 0 0,AA (some ⟨g3,0,none⟩) 1 1,AA none 0 0,AA none 0 0,AA none 0 0,AA (some ⟨g4,0,none⟩) 1 1]
def Vz (g1 g3 g4:Nat) (w:AH):Prop:=∃g2,AZ w g1 9 #[AN ⟨#[120]⟩]/\AZ w g2 100 AFi/\AZ w g3 79 #[AN ⟨#[115]⟩,AN ⟨#[120]⟩,AB AE 0,AB AE 1,AA (some ⟨g2,0,none⟩) 2 2,AA none 0 0]/\AZ w g4 3 #[AB AE 0]
theorem Vz.below {g1 g3 g4:Nat} {w w':AH} (h:Vz g1 g3 g4 w) (hb:AJ w w'):Vz g1 g3 g4 w':=by obtain ⟨g2,a,b,c,d⟩:=h;exact ⟨g2,a.below hb a.lt,b.below hb b.lt,c.below hb c.lt,d.below hb d.lt⟩
theorem nP (w:AH):AS prog 14 #[] w fun e w'=>∃g1 g3 g4,e=AV (AO (vq g1 g3 g4))/\Vz g1 g3 g4 w'/\AJ w w':=by
 go_enter func14,ntmps14;go_wp2_with fail;refine E8 (OH rfl _ _ w.heap.size 32 (vq (w.heap.size+1) (w.heap.size+1+1+1) (w.heap.size+1+1+1+1)) (0,0) _ rfl (((((AZ.new _ _ _).alloc _).alloc _).alloc _).alloc _) underlying32 rfl AL) rfl ?_;refine ⟨w.heap.size+1,w.heap.size+1+1+1,w.heap.size+1+1+1+1,rfl,⟨w.heap.size+1+1,?_,?_,?_,?_⟩,(((BP _ _).alloc Ac _).alloc BX _ |>.alloc BX _).alloc BX _⟩
 · exact (((U4 Ac).alloc _).alloc _).alloc _
 · exact ((U4 Ac).alloc _).alloc _
 · exact (U4 Ac).alloc _
 · exact U4 Ac
def I4 (k:Int):AP:=k::zeros 31
def G4:List (AP):=[I4 1,I4 2,I4 3,I4 4]
theorem ABc {w:AH} {g:Nat} (h:AZ w g 34 (G4.map fun d=>d.map (Value.int .u8)).flatten.toArray):Ag 32 CQ w (AA (some ⟨g,0,none⟩) 4 4) G4:=
 Pt (l:=G4) h ⟨rfl,fun i x hi=>by
  rcases i with _ | _ | _ | _ | i
  all_goals first
   | (simp only [G4,An,Aw,Bq] at hi;subst hi;exact ⟨rfl,rfl⟩)
   | (simp [G4] at hi)⟩ BE
theorem rn (w:AH):AS prog 15 #[] w fun e w'=>∃g,e=AV (AA (some ⟨g,0,none⟩) 4 4)/\Ag 32 CQ w' (AA (some ⟨g,0,none⟩) 4 4) G4/\AJ w w':=by go_enter func15,ntmps15;go_wp2;go_ret;exact ⟨_,rfl,ABc (AZ.new _ _ _),(Af _ _).alloc (Ad _) _⟩
theorem n8 {w:AH} {g:Nat} {t:Ae} {r:CS} {d:AP} (h:AZ w g t (rdA r)) (hr:r.root.length=32) (hd:d.length=32):AZ (w.setCells g 6 (d.map (Value.int .u8))) g t (rdA {r with root:=d}):=by
 have e:∀q:CS,rdA q=([Value.int .i64 q.Au,AB AE q.no,AB AE q.schema,AB AE q.day,AB AE q.known,AB AE q.places]++q.root.map (Value.int .u8)).toArray:=fun q=>by simp [rdA,yA]
 rw [e] at h ⊢;have hb:=PF (d.map (Value.int .u8)) 6 w _ h (by simp [hr,hd]);have e2:∀l:List AK,l.length=32->([Value.int .i64 r.Au,AB AE r.no,AB AE r.schema,AB AE r.day,AB AE r.known,AB AE r.places]++l).take 6++d.map (Value.int .u8)++([Value.int .i64 r.Au,AB AE r.no,AB AE r.schema,AB AE r.day,AB AE r.known,AB AE r.places]++l).drop (6+(d.map (Value.int .u8)).length)=[Value.int .i64 r.Au,AB AE r.no,AB AE r.schema,AB AE r.day,AB AE r.known,AB AE r.places]++d.map (Value.int .u8):=fun l hl=>by rw [EV (by simp [hl,hd]),EU,List.take_left' DG]
 rw [e2 _ (by simp [hr])] at hb;exact hb
theorem M2 {P:BB} {w:AH} {ops:Array Oper} {rest:List Oper} {o:Oper} {a:Act} {Q:Exit->Act->AH->Prop} (hw:Region.wanted o (yielded ops a.tmps)=true) (t:Ae) (parts:Array (Nat×Operand)) (ho:o.op=.build t parts) (cells:Array AK) (hb:P.built t (parts.toList.map fun p=>(p.1,a.eval p.2))=some cells)
 (h:wpList P ops Q rest (a.put o.dst (.agg cells)) w):wpList P ops Q (o::rest) a w:=
 US hw fun K hK=>by unfold Oper.wp;rw [Y6 hb ho];exact hK _ _ h
theorem loadRow {P:BB} {W:AH} {g:Nat} {ty t:Ae} {cs:Array AK} {ds:TypeDesc} (hg:AZ W g t cs) (hu:P.underlying ty=some ds) (hds:(match ds with | .struct _ | .array _ _=>true | _=>false)=true) (hi:(P.info? ty).map (·.size)=some cs.size):(Instr.loadAt ty (AU (some ⟨g,0,none⟩))).run P W=.ok (.agg cs) W:=by simp only [Instr.loadAt,Instr.sureAddr,Cs,DL,Result.andThen_ok,Pn W g t ty cs (0,0) ds hg hu hds hi]
theorem ACg (s:Iq) (hh:s.holder.length=32) (ht:s.token.length=32) (v:AK):(Et s).setIfInBounds 36 v=Et {s with fields:=v}:=by
 obtain ⟨i,r,s,p,h,f,u,l,t,k,_,_,_,_⟩:=s
 dsimp only at hh ht
 exact Rq
def vsz:AK->Nat
 | .agg z=>z.size+1
 | _=>0
theorem Fy {P:BB} {ops:Array Oper} {rest:List Oper} {o1 o2:Oper} {a:Act} {w:AH} {Q:Exit->Act->AH->Prop} (T:Ae) (d y n:Nat) (cells:Array AK) (hcs:cells.size=n) (h1:cells.all (·.oneCell')=true) (hy:(a.put (some d) (AU (some ⟨w.heap.size,0,none⟩))).eval (.tmp y)=.agg cells)
 (h:wpList P ops Q rest (a.put (some d) (AU (some ⟨w.heap.size,0,none⟩))) (w.alloc (AQ cells T))) (hdl:decide (d < a.tmps.size)=true:=by kernel_rfl)
 (hz:((P.info? T).bind (·.zero)).map vsz=some (n+1):=by kernel_rfl) (hs:(P.info? T).map (·.size)=some n:=by kernel_rfl) (hg1:o1.guard=none:=by rfl) (hg2:o2.guard=none:=by rfl) (ho1:o1.op=.alloc T:=by rfl) (hd1:o1.dst=some d:=by rfl) (ho2:o2.op=.store T (.tmp d) (.tmp y):=by rfl) (hd2:o2.dst=none:=by rfl):
 wpList P ops Q (o1::o2::rest) a w:=by
 obtain ⟨z,hz1,hz2⟩:=Ds.1 hz;cases z with
 |
  agg z=>
  have hzn:z.size=n:=Nat.succ.inj hz2;refine Di hg1 T ho1 z hz1 ?_;rw [hd1];refine wpList_store_rowTo hg2 T (.tmp d) (.tmp y) ho2 hd2 w.heap.size cells ?_ hy T z (World.alloc_heap_new w _) (by rw [hs,hcs]) (by rw [hzn,hcs]) h1 ?_
  ·have hd:=Fj hdl
   simp [Act.eval,Act.put,hd]
  ·rw [World.setRow_alloc_new]
   exact h
 | _=>cases hz2
end Go.Proofs.YtpmpddfgifhlbaaGreatDoor
