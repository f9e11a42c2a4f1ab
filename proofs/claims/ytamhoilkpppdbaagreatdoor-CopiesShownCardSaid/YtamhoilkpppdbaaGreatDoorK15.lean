import Derived.Test.YtamhoilkpppdbaaGreatDoorK14
namespace Go.Proofs.YtamhoilkpppdbaaGreatDoor
set_option maxHeartbeats 8000000
set_option maxRecDepth 100000
open Go renaming World→AH, Value→AN, Calls→AS, TypeId→Af, Program→BA, Addr→Aa
open Go.Proofs.Tryz
open Go.Value renaming slice→AB, int→AE, string→AL, pointer→AW, bool→Ab, agg→AP
open Go.IntKind renaming i64→AF
open Go.Ending renaming returned→AU
open Go.Obj renaming cells→AO
open Go.Operand renaming tmp→AY
open Go.RowKit Go.Shelf
attribute [local go_sem] Oper.semAt_some
def PF (w:AH) (e:Ending) (w':AH):Prop:=(∃b,e=AU (Ab b))/\AK w w'
theorem AAS (i:Int) (A B:Option Aa) (n c m d:Nat) (w:AH):AS prog 54 #[AE AF 1,AP #[AE AF i,AB A n c,AB B m d]] w (PF w):=by
 go_enter func54,ntmps54;by_cases h1:(n:Int)<=30
 ·by_cases h2:(m:Int)<=12
  ·go_wp2_with fail
   exact lF
  go_wp2_with fail;exact lF
 go_wp2_with fail;exact lF
theorem ACg (A:Option Aa) (n c:Nat) (l:List Cj) (w:AH) (h:Ag 3 Dt w (AB A n c) l):AS prog 25 #[AB A n c] w (PF w):=by
 have hle:n<=9223372036854775807:=by have:=h.le;omega
 have H:=AA h;have HF:AI (∀i B1 m1 d1 B2 m2 d2 W,AS prog 54 #[AE AF 1,AP #[AE AF i,AB B1 m1 d1,AB B2 m2 d2]] W (PF W)):=AA (fun i B1 m1 d1 B2 m2 d2 W=>AAS i B1 B2 m1 d1 m2 d2 W);clear h;go_enter func25,ntmps25;go_wp2_with fail;have HB3:AI (AK w w):=AA (Ae _ _);go_loopg [3] n (fun q i wr=>∃k:Nat,k<=n/\q=n - k/\i=AE AF k/\AK w wr)
 case atStart=>exact ⟨0,Av _,rfl,rfl,HB3.o⟩
 clear HB3;obtain ⟨k,hk,hq,rfl,hb⟩:=hrel;have HQ:=AA hq;have C4:=AA hb;by_cases hlt:k < n
 ·obtain ⟨lb,lo,x,B1,m1,e1,B2,m2,e2,rfl,hlb,hx,hx1,hx2,hlc⟩:=OJ (H.o.mono Bd hb) hlt
  have hkn:(k:Int) < (n:Int):=AG
  have hk0:=Int.natCast_nonneg k
  have c0:wr.cell? ⟨lb,lo+k*3,none⟩=some (AE AF x.index):=hlc 0 _ rfl;have c1:wr.cell? ⟨lb,lo+k*3+1,none⟩=some (AB B1 m1 e1):=hlc 1 _ rfl;have c2:wr.cell? ⟨lb,lo+k*3+2,none⟩=some (AB B2 m2 e2):=hlc 2 _ rfl;clear hx hx1 hx2 hlc hq hb;go_wp2_with (go_at_call 54;refine (HF.o _ _ _ _ _ _ _ _).mono ?_;rintro e w2 ⟨⟨b,rfl⟩,hb2⟩;have HB2:=AA (AV C4.o hb2);clear hb2;cases b)
  all_goals first
   | (go_ret;exact ⟨⟨_,rfl⟩,HB2.o⟩)
   | (
    go_roundg (n - (k+1))
    case measure=>exact BS
    case rel=>exact ⟨k+1,by omega,rfl,by go_num,HB2.o⟩)
 obtain rfl:k=n:=AG
 go_wp2_with fail;go_ret;exact ⟨⟨_,rfl⟩,C4.o⟩
def AGH (w:AH) (e:Ending) (w':AH):Prop:=(∃z,e=AU (AE AF z))/\AK w w'
section
variable (v0 v1 v3 v4 v5 v6:AN) (A:Option Aa) (n c:Nat) (ns:List Nat)
theorem vp (sc:Int) (w:AH) (hs:Ag 6 Lz w (AB A n c) ns):AS prog 55 #[AP #[v0,v1,AB A n c,v3,v4,v5,v6],AE AF sc] w (AGH w):=by
 have HS:=AA hs;clear hs;go_enter func55,ntmps55;go_upto_region 1 with fail;obtain ⟨k1,b1,s1⟩:=bx w #[v0,v1,AB A n c,v3,v4,v5,v6] 32;generalize (w.alloc (AO #[v0,v1,AB A n c,v3,v4,v5,v6] 32))=w1 at k1 b1 s1 ⊢;have c2:w1.cell? ⟨w.heap.size,2,none⟩=some (AB A n c):=k1.cell 2;have HB:=AA b1;clear k1 b1 s1;by_cases h1:sc < 0
 ·go_wp2_with fail
  exact kf
 by_cases h2:(n:Int)<=sc
 ·go_wp2_with fail
  exact kf
 obtain ⟨k,rfl⟩:∃k:Nat,sc=k:=⟨sc.toNat,by omega⟩;have hkn:k < n:=AG
 have hk1:(k:Int) < (n:Int):=AG
 have hk0:=Int.natCast_nonneg k
 obtain ⟨b,off,x,x0,x1,x2,x3,B,cc,x5,hA,hb,hx,hxl,hone,hcell⟩:=Na HS.o hkn;subst hA;have e4:w1.cell? ⟨b,off+k*6+4,none⟩=some (AB B x cc):=(HB.o.cell (p:=⟨b,off+k*6+4,none⟩) hb).trans (hcell 4 _ rfl);clear hcell hone hx;go_wp2_with fail;exact kf
theorem yv (sc:Int) (w:AH) (hs:Ag 6 Lz w (AB A n c) ns):AS prog 26 #[AP #[v0,v1,AB A n c,v3,v4,v5,v6],AE AF sc] w (PF w):=by have HF:AI (∀W,AK w W->AS prog 55 #[AP #[v0,v1,AB A n c,v3,v4,v5,v6],AE AF sc] W (AGH W)):=AA (fun W hW=>vp v0 v1 v3 v4 v5 v6 A n c ns sc W (hs.mono EK hW));clear hs;go_enter func26,ntmps26;go_upto_region 1 with fail;obtain ⟨k1,b1,s1⟩:=bx w #[v0,v1,AB A n c,v3,v4,v5,v6] 32;generalize (w.alloc (AO #[v0,v1,AB A n c,v3,v4,v5,v6] 32))=w1 at k1 b1 s1 ⊢;have c0:w1.cell? ⟨w.heap.size,0,none⟩=some v0:=k1.cell 0;have c1:w1.cell? ⟨w.heap.size,1,none⟩=some v1:=k1.cell 1;have c2:w1.cell? ⟨w.heap.size,2,none⟩=some (AB A n c):=k1.cell 2;have c3:w1.cell? ⟨w.heap.size,3,none⟩=some v3:=k1.cell 3;have c4:w1.cell? ⟨w.heap.size,4,none⟩=some v4:=k1.cell 4;have c5:w1.cell? ⟨w.heap.size,5,none⟩=some v5:=k1.cell 5;have c6:w1.cell? ⟨w.heap.size,6,none⟩=some v6:=k1.cell 6;have HB:=AA b1;clear k1 b1 s1;go_wp2_with (go_at_call 55;refine (HF.o _ HB.o).mono ?_;rintro e w2 ⟨⟨z,rfl⟩,hb2⟩;have HB2:=AA (AV HB.o hb2);clear hb2);go_ret;exact ⟨⟨_,rfl⟩,HB2.o⟩
theorem AAR (r:CM) (p:TJ) (VA LA KA:Option Aa) (vn vc ln lc kn kc:Nat) (cl:List Cj) (w:AH) (hs:Ag 6 Lz w (AB A n c) ns) (hF:∀W,AK w W->AS prog 24 #[AP #[v0,v1,AB A n c,v3,v4,v5,v6]] W (PF W))
 (hh:p.holder.length=32) (hv:p.values=AB VA vn vc) (hl:p.links=AB LA ln lc) (hk:p.claims=AB KA kn kc) (hc:Ag 3 Dt w (AB KA kn kc) cl):AS prog 8 #[AP #[v0,v1,AB A n c,v3,v4,v5,v6],AP (rdA r),AP (Fs p)] w (PF w):=by
 obtain ⟨RR,hRR⟩:=Ad (rdA r);obtain ⟨Y,hY⟩:=Ad (Fs p);have MD:AI (∀W g,AZ W g 46 Y->pZ W g p):=AA (fun W g h=>by rw [hY] at h;exact O4 h hh);have Lg:AI (RR[2]? =some (AE AF r.schema)/\RR[5]? =some (AE AF r.places)):=AA sD
 rw [<-hRR,<-hY];have HSM:AI (∀sc W,AK w W->AS prog 26 #[AP #[v0,v1,AB A n c,v3,v4,v5,v6],AE AF sc] W (PF W)):=AA (fun sc W hW=>yv v0 v1 v3 v4 v5 v6 A n c ns sc W (hs.mono EK hW));have LL:AI (∀W,AK w W->AS prog 25 #[AB KA kn kc] W (PF W)):=AA (fun W hW=>ACg KA kn kc cl W (hc.mono Bd hW));have OW:=AA hF;have HVS:=AA (And.intro hv (And.intro hl hk));clear hs hF hh hv hl hk hc hRR hY;go_enter func8,ntmps8;go_upto_region 1 with fail;obtain ⟨k1,b1,s1⟩:=bx w #[v0,v1,AB A n c,v3,v4,v5,v6] 32;generalize (w.alloc (AO #[v0,v1,AB A n c,v3,v4,v5,v6] 32))=w1 at k1 b1 s1 ⊢;obtain ⟨k2,b2,s2⟩:=bx w1 RR 36;generalize (w1.alloc (AO RR 36))=w2 at k2 b2 s2 ⊢;rw [s1] at k2 b2 s2;obtain ⟨k3,b3,s3⟩:=bx w2 Y 46;generalize (w2.alloc (AO Y 46))=w3 at k3 b3 s3 ⊢;rw [s2] at k3 b3 s3;have HB3:AI (AK w w3):=AA ((b1.trans (b2.mono AG)).trans (b3.mono AG));have HE:AI (∀W,AK w3 W->(W.cell? ⟨w.heap.size,0,none⟩=some v0/\W.cell? ⟨w.heap.size,1,none⟩=some v1/\W.cell? ⟨w.heap.size,2,none⟩=some (AB A n c)/\W.cell? ⟨w.heap.size,3,none⟩=some v3/\W.cell? ⟨w.heap.size,4,none⟩=some v4/\W.cell? ⟨w.heap.size,5,none⟩=some v5/\W.cell? ⟨w.heap.size,6,none⟩=some v6)/\(W.cell? ⟨w.heap.size+1,2,none⟩=some (AE AF r.schema)/\W.cell? ⟨w.heap.size+1,5,none⟩=some (AE AF r.places))/\W.cell? ⟨w.heap.size+1+1,36,none⟩=some (AB VA vn vc)/\W.cell? ⟨w.heap.size+1+1,37,none⟩=some (AB LA ln lc)/\W.cell? ⟨w.heap.size+1+1,38,none⟩=some (AB KA kn kc)):=AA (fun W hW=>by have a:=((k1.below b2 AG).below b3 AG).below hW AG;have b:=(k2.below b3 AG).below hW AG;have d:=MD.o W _ (k3.below hW AG);exact ⟨⟨a.cell 0,a.cell 1,a.cell 2,a.cell 3,a.cell 4,a.cell 5,a.cell 6⟩,⟨(b.cell 2).trans Lg.o.1,(b.cell 5).trans Lg.o.2⟩,d.values.trans (congrArg some HVS.o.1),d.links.trans (congrArg some HVS.o.2.1),d.claims.trans (congrArg some HVS.o.2.2)⟩)
 clear k1 b1 s1 k2 b2 s2 k3 b3 s3;obtain ⟨⟨d0,d1,d2,d3,d4,d5,d6⟩,_⟩:=HE.o w3 (Ae _ _);have hcase:¬r.places<=3\/(r.places<=3/\¬(vn:Int)<=16)\/(r.places<=3/\(vn:Int)<=16/\¬(ln:Int)<=8)\/(r.places<=3/\(vn:Int)<=16/\(ln:Int)<=8):=AG
 rcases hcase with h1 | ⟨h1,h2⟩ | ⟨h1,h2,h3⟩ | ⟨h1,h2,h3⟩
 all_goals go_wp2_with (first
  | (go_at_call 24;refine (OW.o _ HB3.o).mono ?_;rintro e w4 ⟨⟨b,rfl⟩,hb4⟩;have HB4:=AA (AV HB3.o hb4);have HG4:=AA hb4;obtain ⟨_,⟨e2,e5⟩,e36,e37,e38⟩:=HE.o w4 hb4;clear hb4;cases b)
  | (go_at_call 25;refine (LL.o _ HB4.o).mono ?_;rintro e w5 ⟨⟨b,rfl⟩,hb5⟩;have CP:=AA (AV HB4.o hb5);obtain ⟨⟨d0,d1,d2,d3,d4,d5,d6⟩,⟨g2,g5⟩,_⟩:=HE.o w5 (AV HG4.o hb5);clear hb5;cases b)
  | (go_at_call 26;refine (HSM.o _ _ CP.o).mono ?_;rintro e w6 ⟨⟨b,rfl⟩,hb6⟩;have Fu:=AA (AV CP.o hb6);clear hb6)
  | fail)
 all_goals (go_ret;first | exact ⟨⟨_,rfl⟩,Fu.o⟩ | exact ⟨⟨_,rfl⟩,CP.o⟩ | exact ⟨⟨_,rfl⟩,HB4.o⟩)
end
attribute [local go_sem] Oper.semAt_some
theorem qB (A B:Option Aa) (n c m d:Nat) (l:AQ) (w:AH) (hl:Ag 1 CK w (AB A n c) l) (hr:Ag 1 CK w (AB B m d) l):
 AS prog 31 #[AB A n c,AB B m d] w fun e w'=>e=AU (Ab true)/\AK w w':=by
 have hn2:n<=9223372036854775807:=by have:=hl.le;omega
 obtain rfl:n=m:=by rw [hl.len,hr.len]
 have HL:=AA hl;have HR:=AA hr;clear hl hr;go_enter func31,ntmps31;go_wp2_with fail;go_loopg [5] n (fun q i wr=>∃k:Nat,k<=n/\q=n - k/\i=AE AF k/\AK w wr)
 case atStart=>exact ky
 obtain ⟨k,hk,hq,rfl,hb⟩:=hrel;have HQ:=AA hq;have HB:=AA hb;clear hq hb;by_cases hlt:k < n
 ·obtain ⟨a,ao,x,rfl,hal,hx,ex,_,_⟩:=ints_at (HL.o.mono BX HB.o) hlt
  obtain ⟨b,bo,y,rfl,hbl,hy,ey,_,_⟩:=ints_at (HR.o.mono BX HB.o) hlt;rw [hx] at hy;injection hy with hy;subst hy;have hkn:(k:Int) < (n:Int):=AG
  have hk0:=Int.natCast_nonneg k
  clear hx;go_wp2_with fail;go_quiet (fail);go_wp2_with fail;go_roundg (n - (k+1))
  case measure=>exact BS
  case rel=>exact ⟨k+1,by omega,rfl,by go_num,below_drewN HB.o _⟩
 obtain rfl:k=n:=AG
 exact P8
theorem Z4 (A B:Option Aa) (n c m d:Nat) (l:List (AQ)) (w:AH) (hl:Ag 32 CV w (AB A n c) l) (hr:Ag 32 CV w (AB B m d) l):
 AS prog 32 #[AB A n c,AB B m d] w fun e w'=>e=AU (Ab true)/\AK w w':=by
 have hn2:n<=9223372036854775807:=by have:=hl.le;omega
 obtain rfl:n=m:=by rw [hl.len,hr.len]
 have HL:=AA hl;have HR:=AA hr;clear hl hr;go_enter func32,ntmps32;go_wp2_with fail;go_loopg [5] n (fun q i wr=>∃k:Nat,k<=n/\q=n - k/\i=AE AF k/\AK w wr)
 case atStart=>exact ky
 obtain ⟨k,hk,hq,rfl,hb⟩:=hrel;have HQ:=AA hq;have HB:=AA hb;clear hq hb;by_cases hlt:k < n
 ·obtain ⟨a,ao,x,xs,rfl,hal,hx,_,hxc,rfl,hxl⟩:=(HL.o.mono BK HB.o).at_ hlt
  obtain ⟨b,bo,y,ys,rfl,hbl,hy,_,MR,rfl,_⟩:=(HR.o.mono BK HB.o).at_ hlt;rw [hx] at hy;injection hy with hy;subst hy;have hkn:(k:Int) < (n:Int):=AG
  have hk0:=Int.natCast_nonneg k
  have hde:∀W,(Op.equalIn 10000 34 (AP (yA x)) (AP (yA x))).run prog W=.ok true W:=fun W=>by rw [dJ hxl hxl W];simp
  have hdg:=R2;have ha:∀W,AK wr W->(Instr.loadAt 34 (AW (some ⟨a,ao+k*32,none⟩))).run prog W=.ok (AP (yA x)) W:=fun W hW=>FV a _ hxl (fun j v hv=>(hW.cell (p:=⟨a,ao+k*32+j,none⟩) hal).trans (by rw [Km];exact hxc j v hv));have hb:∀W,AK wr W->(Instr.loadAt 34 (AW (some ⟨b,bo+k*32,none⟩))).run prog W=.ok (AP (yA x)) W:=fun W hW=>FV b _ hxl (fun j v hv=>(hW.cell (p:=⟨b,bo+k*32+j,none⟩) hbl).trans (by rw [Km];exact MR j v hv));have HA:=AA ha;have HC:=AA hb;clear hx hxl hxc MR ha hb;go_upto_region 6 with fail;have hS:AK wr wr.drew:=(Ae _ _).drew;have TK:∀W,AK wr W->True:=fun _ _=>trivial;refine Sd (fun W=>AK wr W) 9 _ AJ AJ rfl ?_;refine qM 0 17 0 hS ?_;refine qM 1 18 5 hS ?_;refine qT 2 19 hS ?_;refine qT 3 20 hS (v:=AP (yA x)) ?_ (hv:=fun W hW=>Cs rfl AJ (HA.o W hW));refine qM 4 21 1 hS ?_;refine qM 5 22 5 hS ?_;refine qT 6 23 hS ?_;refine qT 7 24 hS (v:=AP (yA x)) ?_ (hv:=fun W hW=>Cs rfl AJ (HC.o W hW));refine qT 8 25 hS (v:=Ab false) ?_ (hv:=by intro W hW;(go_simp) <;> rfl);refine F6 AJ ?_ _;simp only [Ct,DF];go_wp2_with fail;go_roundg (n - (k+1))
  case measure=>exact BS
  case rel=>exact ⟨k+1,by omega,rfl,by go_num,HB.o.drew⟩
 obtain rfl:k=n:=AG
 exact P8
theorem y7 (q:Cj) (A1 A2 B1 B2:Option Aa) (n1 c1 n2 c2 m1 d1 m2 d2:Nat) (w:AH) (h1:Ag 32 CV w (AB A1 n1 c1) q.chains) (h2:Ag 32 CV w (AB A2 n2 c2) q.path) (h3:Ag 32 CV w (AB B1 m1 d1) q.chains) (h4:Ag 32 CV w (AB B2 m2 d2) q.path):
 AS prog 59 #[AP #[AE AF q.index,AB A1 n1 c1,AB A2 n2 c2],AP #[AE AF q.index,AB B1 m1 d1,AB B2 m2 d2]] w fun e w'=>e=AU (Ab true)/\AK w w':=by
 have H1:AI (∀W,AK w W->AS prog 32 #[AB A1 n1 c1,AB B1 m1 d1] W fun e w'=>e=AU (Ab true)/\AK W w'):=AA (fun W hW=>Z4 A1 B1 n1 c1 m1 d1 q.chains W (h1.mono BK hW) (h3.mono BK hW));have H2:AI (∀W,AK w W->AS prog 32 #[AB A2 n2 c2,AB B2 m2 d2] W fun e w'=>e=AU (Ab true)/\AK W w'):=AA (fun W hW=>Z4 A2 B2 n2 c2 m2 d2 q.path W (h2.mono BK hW) (h4.mono BK hW));clear h1 h2 h3 h4;go_enter func59,ntmps59;go_upto_region 1 with fail;obtain ⟨k1,b1,s1⟩:=bx w #[AE AF q.index,AB A1 n1 c1,AB A2 n2 c2] 71;generalize (w.alloc (AO #[AE AF q.index,AB A1 n1 c1,AB A2 n2 c2] 71))=w1 at k1 b1 s1 ⊢;obtain ⟨k2,b2,s2⟩:=bx w1 #[AE AF q.index,AB B1 m1 d1,AB B2 m2 d2] 71;generalize (w1.alloc (AO #[AE AF q.index,AB B1 m1 d1,AB B2 m2 d2] 71))=w2 at k2 b2 s2 ⊢;rw [s1] at k2 b2 s2;have HB:AI (AK w w2):=AA (b1.trans (b2.mono AG));have HE:AI (∀W,AK w2 W->(W.cell? ⟨w.heap.size,0,none⟩=some (AE AF q.index)/\W.cell? ⟨w.heap.size,1,none⟩=some (AB A1 n1 c1)/\W.cell? ⟨w.heap.size,2,none⟩=some (AB A2 n2 c2))/\W.cell? ⟨w.heap.size+1,0,none⟩=some (AE AF q.index)/\W.cell? ⟨w.heap.size+1,1,none⟩=some (AB B1 m1 d1)/\W.cell? ⟨w.heap.size+1,2,none⟩=some (AB B2 m2 d2)):=AA (fun W hW=>by have a:=(k1.below b2 AG).below hW AG;have b:=k2.below hW AG;exact ⟨⟨a.cell 0,a.cell 1,a.cell 2⟩,b.cell 0,b.cell 1,b.cell 2⟩)
 clear k1 b1 s1 k2 b2 s2;obtain ⟨⟨a0,a1,_⟩,b0,b1,_⟩:=HE.o w2 (Ae _ _);go_wp2_with (first
  | (go_at_call 32;refine (H1.o _ HB.o).mono ?_;rintro e w3 ⟨rfl,hb3⟩;have HB3:=AA (AV HB.o hb3);obtain ⟨⟨_,_,a2⟩,_,_,b2⟩:=HE.o w3 hb3;clear hb3 H1)
  | (go_at_call 32;refine (H2.o _ HB3.o).mono ?_;rintro e w4 ⟨rfl,hb4⟩;have HB4:=AA (AV HB3.o hb4);clear hb4)
  | fail)
 go_ret;exact ⟨rfl,HB4.o⟩
theorem iX {W:AH} {b o:Nat} {i:Int} {A1 A2:Option Aa} {n1 c1 n2 c2:Nat} (h:∀(j:Nat) (v:AN),[Value.int .i64 i,AB A1 n1 c1,AB A2 n2 c2][j]? =some v->W.cell? ⟨b,o+j,none⟩=some v):(Instr.loadAt 71 (AW (some ⟨b,o,none⟩))).run prog W=.ok (AP #[AE AF i,AB A1 n1 c1,AB A2 n2 c2]) W:=by have hr:W.rangeAt b o [AE AF i,AB A1 n1 c1,AB A2 n2 c2]:=h;simp only [Instr.loadAt,Instr.sureAddr,Ck,DC,Result.andThen_ok,Q7 W b o 71 _ _ hr underlying71 rfl AJ]
theorem jm (A B:Option Aa) (n c m d:Nat) (l:List Cj) (w:AH) (hl:Ag 3 Dt w (AB A n c) l) (hr:Ag 3 Dt w (AB B m d) l):
 AS prog 33 #[AB A n c,AB B m d] w fun e w'=>e=AU (Ab true)/\AK w w':=by
 have hn2:n<=9223372036854775807:=by have:=hl.le;omega
 obtain rfl:n=m:=by rw [hl.len,hr.len]
 have HL:=AA hl;have HR:=AA hr;clear hl hr;go_enter func33,ntmps33;go_wp2_with fail;go_loopg [5] n (fun q i wr=>∃k:Nat,k<=n/\q=n - k/\i=AE AF k/\AK w wr)
 case atStart=>exact ky
 obtain ⟨k,hk,hq,rfl,hb⟩:=hrel;have HQ:=AA hq;have HB:=AA hb;clear hq hb;by_cases hlt:k < n
 ·obtain ⟨a,ao,x,A1,n1,c1,A2,n2,c2,rfl,hal,hx,hx1,hx2,hxc⟩:=OJ (HL.o.mono Bd HB.o) hlt
  obtain ⟨b,bo,y,B1,m1,d1,B2,m2,d2,rfl,hbl,hy,hy1,hy2,MR⟩:=OJ (HR.o.mono Bd HB.o) hlt;rw [hx] at hy;injection hy with hy;subst hy;have hkn:(k:Int) < (n:Int):=AG
  have hk0:=Int.natCast_nonneg k
  have HS:AI (∀W,AK wr W->AS prog 59 #[AP #[AE AF x.index,AB A1 n1 c1,AB A2 n2 c2],AP #[AE AF x.index,AB B1 m1 d1,AB B2 m2 d2]] W fun e w'=>e=AU (Ab true)/\AK W w'):=AA (fun W hW=>y7 x A1 A2 B1 B2 n1 c1 n2 c2 m1 d1 m2 d2 W (hx1.mono BK hW) (hx2.mono BK hW) (hy1.mono BK hW) (hy2.mono BK hW));have HA:AI (∀W,AK wr W->(Instr.loadAt 71 (AW (some ⟨a,ao+k*3,none⟩))).run prog W=.ok (AP #[AE AF x.index,AB A1 n1 c1,AB A2 n2 c2]) W):=AA (fun W hW=>iX (fun j v hj=>(hW.cell (p:=⟨a,ao+k*3+j,none⟩) hal).trans (hxc j v hj)));have HC:AI (∀W,AK wr W->(Instr.loadAt 71 (AW (some ⟨b,bo+k*3,none⟩))).run prog W=.ok (AP #[AE AF x.index,AB B1 m1 d1,AB B2 m2 d2]) W):=AA (fun W hW=>iX (fun j v hj=>(hW.cell (p:=⟨b,bo+k*3+j,none⟩) hbl).trans (MR j v hj)));clear hx hxc MR hx1 hx2 hy1 hy2;go_upto_region 6 with fail;have hS:AK wr wr.drew:=(Ae _ _).drew;have TK:∀W,AK wr W->True:=fun _ _=>trivial;refine Sd (fun W=>AK wr W) 10 _ AJ AJ rfl ?_;refine qM 0 17 0 hS ?_;refine qM 1 18 5 hS ?_;refine qT 2 19 hS ?_;refine qT 3 20 hS (v:=AP #[AE AF x.index,AB A1 n1 c1,AB A2 n2 c2]) ?_ (hv:=fun W hW=>Cs rfl AJ (HA.o W hW));refine qM 4 21 1 hS ?_;refine qM 5 22 5 hS ?_;refine qT 6 23 hS ?_;refine qT 7 24 hS (v:=AP #[AE AF x.index,AB B1 m1 d1,AB B2 m2 d2]) ?_ (hv:=fun W hW=>Cs rfl AJ (HC.o W hW));refine qF 8 25 (HS.o _ hS) ?_;rintro e w2 ⟨rfl,hb2⟩;have hS2:AK wr w2:=AV hS hb2;refine ⟨_,rfl,hS2,?_⟩;refine qT 9 26 hS2 (v:=Ab false) ?_ (hv:=by intro W hW;(go_simp) <;> rfl);refine F6 AJ ?_ _;simp only [Ct,DF];have HB2:=AA (AV HB.o hS2);clear hS hS2 hb2 TK;go_wp2_with fail;go_roundg (n - (k+1))
  case measure=>exact BS
  case rel=>exact ⟨k+1,by omega,rfl,by go_num,HB2.o⟩
 obtain rfl:k=n:=AG
 exact P8
theorem Dh {P:BA} {w:AH} {ops:Array Oper} {rest:List Oper} {o:Oper} {a:Act} {Q:Exit->Act->AH->Prop} {r:AN} (hw:Region.wanted o (yielded ops a.tmps)=true) (ty:Af) (x:Operand) (ho:o.op=.load ty x) (p:AN) (hx:a.eval x=p) (hr:(Instr.loadAt ty p).run P w=.ok r w)
 (h:wpList P ops Q rest (a.put o.dst r) w):wpList P ops Q (o::rest) a w:=
 Tx hw fun K hK=>by unfold Oper.wp execOp;simp only [ho,hx,Ck,DC,Result.andThen_ok,hr];exact hK _ _ h
theorem yi (w:AH) (Y Y':Array AN) (T:Af):AZ ((w.alloc (AO Y T)).alloc (AO Y' T)) w.heap.size T Y/\AZ ((w.alloc (AO Y T)).alloc (AO Y' T)) (w.heap.size+1) T Y'/\AK w ((w.alloc (AO Y T)).alloc (AO Y' T)):=by obtain ⟨k1,b1,s1⟩:=bx w Y T;obtain ⟨k2,b2,s2⟩:=bx (w.alloc (AO Y T)) Y' T;rw [s1] at k2 b2;exact ⟨k1.below b2 AG,k2,b1.trans (b2.mono AG)⟩
theorem y6 (q:Fb) (A1:Option Aa) (n1 c1:Nat) (A2:Option Aa) (n2 c2:Nat) (A3:Option Aa) (n3 c3:Nat) (A5:Option Aa) (n5 c5:Nat) (A6:Option Aa) (n6 c6:Nat) (A7:Option Aa) (n7 c7:Nat) (w:AH) (hh:q.holder.length=32) (h1:Ag 1 CK w (AB A1 n1 c1) q.values) (h2:Ag 32 CV w (AB A2 n2 c2) q.links) (h3:Ag 3 Dt w (AB A3 n3 c3) q.claims) (h5:Ag 1 CK w (AB A5 n5 c5) q.values) (h6:Ag 32 CV w (AB A6 n6 c6) q.links) (h7:Ag 3 Dt w (AB A7 n7 c7) q.claims):
 AS prog 11 #[AP (Fs ⟨q.Ar,q.round,q.schema,q.place,q.holder,AB A1 n1 c1,AB A2 n2 c2,AB A3 n3 c3⟩),AP (Fs ⟨q.Ar,q.round,q.schema,q.place,q.holder,AB A5 n5 c5,AB A6 n6 c6,AB A7 n7 c7⟩)] w fun e w'=>e=AU (Ab true)/\AK w w':=by
 obtain ⟨Y,hY⟩:=Ad (Fs ⟨q.Ar,q.round,q.schema,q.place,q.holder,AB A1 n1 c1,AB A2 n2 c2,AB A3 n3 c3⟩);obtain ⟨Y',hY'⟩:=Ad (Fs ⟨q.Ar,q.round,q.schema,q.place,q.holder,AB A5 n5 c5,AB A6 n6 c6,AB A7 n7 c7⟩);rw [<-hY,<-hY'];obtain ⟨k1,k2,hb⟩:=yi w Y Y' 46;have HW:AI (∀W,Below ((w.alloc (AO Y 46)).alloc (AO Y' 46)).heap.size ((w.alloc (AO Y 46)).alloc (AO Y' 46)) W->AZ W w.heap.size 46 Y/\AZ W (w.heap.size+1) 46 Y'):=AA (fun W hW=>⟨k1.below hW k1.lt,k2.below hW k2.lt⟩);have HA:AI (∀W g,AZ W g 46 Y->pZ W g ⟨q.Ar,q.round,q.schema,q.place,q.holder,AB A1 n1 c1,AB A2 n2 c2,AB A3 n3 c3⟩):=AA (fun W g h=>by rw [hY] at h;exact O4 h hh);have HB:AI (∀W g,AZ W g 46 Y'->pZ W g ⟨q.Ar,q.round,q.schema,q.place,q.holder,AB A5 n5 c5,AB A6 n6 c6,AB A7 n7 c7⟩):=AA (fun W g h=>by rw [hY'] at h;exact O4 h hh);have ADN:AI (∀W,AZ W w.heap.size 46 Y->(Instr.loadAt 34 (AW (some ⟨w.heap.size,4,none⟩))).run prog W=.ok (AP (yA q.holder)) W):=AA (fun W h=>FV _ 4 hh (by have _:=hY;have e:=(HA.o W _ h).holder;exact e));have ADM:AI (∀W,AZ W (w.heap.size+1) 46 Y'->(Instr.loadAt 34 (AW (some ⟨w.heap.size+1,4,none⟩))).run prog W=.ok (AP (yA q.holder)) W):=AA (fun W h=>FV _ 4 hh (by have _:=hY';have e:=(HB.o W _ h).holder;exact e));have AHn:∀W,(Op.equalIn 10000 34 (AP (yA q.holder)) (AP (yA q.holder))).run prog W=.ok true W:=fun W=>by rw [dJ hh hh W];simp
 have H1:AI (∀W,AK w W->AS prog 31 #[AB A1 n1 c1,AB A5 n5 c5] W fun e w'=>e=AU (Ab true)/\AK W w'):=AA (fun W hW=>qB A1 A5 n1 c1 n5 c5 q.values W (h1.mono BX hW) (h5.mono BX hW));have H2:AI (∀W,AK w W->AS prog 32 #[AB A2 n2 c2,AB A6 n6 c6] W fun e w'=>e=AU (Ab true)/\AK W w'):=AA (fun W hW=>Z4 A2 A6 n2 c2 n6 c6 q.links W (h2.mono BK hW) (h6.mono BK hW));have H3:AI (∀W,AK w W->AS prog 33 #[AB A3 n3 c3,AB A7 n7 c7] W fun e w'=>e=AU (Ab true)/\AK W w'):=AA (fun W hW=>jm A3 A7 n3 c3 n7 c7 q.claims W (h3.mono Bd hW) (h7.mono Bd hW));have hdg:=R2;have a:=HA.o _ _ k1;have b:=HB.o _ _ k2;have AEr:=a.Ar;have AEm:=b.Ar;have around:=a.round;have AF6:=b.round;have AEp:=a.schema;have AEl:=b.schema;have AGA:=a.place;have AF7:=b.place;have AEo:=a.values;have AEk:=b.values;have HLA:=AA (ADN.o _ k1);have HLB:=AA (ADM.o _ k2);have CO:=AA hb;clear a b k1 k2 hb hh h1 h2 h3 h5 h6 h7 hY hY'
 dsimp only at AEr AEm around AF6 AEp AEl AGA AF7 AEo AEk
 go_enter func11,ntmps11;go_wp2_with (first
  | (refine Dh AJ 34 (AY 32) rfl _ rfl HLA.o ?_)
  | (refine Dh AJ 34 (AY 34) rfl _ rfl HLB.o ?_)
  | (go_at_call 31;refine (H1.o _ CO.o).mono ?_;rintro e x1 ⟨rfl,hx⟩;have HX1:=AA hx;have JY:=AA (AV CO.o hx);obtain ⟨k1,k2⟩:=HW.o _ hx;have AGB:=(HA.o _ _ k1).links;have AF8:=(HB.o _ _ k2).links;dsimp only at AGB AF8;clear hx k1 k2 H1)
  | (go_at_call 32;refine (H2.o _ JY.o).mono ?_;rintro e x2 ⟨rfl,hx⟩;have HX2:=AA (AV HX1.o hx);have HS2:=AA (AV JY.o hx);obtain ⟨k1,k2⟩:=HW.o _ HX2.o;have AEs:=(HA.o _ _ k1).claims;have AEn:=(HB.o _ _ k2).claims;dsimp only at AEs AEn;clear hx k1 k2 H2)
  | (go_at_call 33;refine (H3.o _ HS2.o).mono ?_;rintro e x3 ⟨rfl,hx⟩;have HX3:=AA (AV HX2.o hx);have J6:=AA (AV HS2.o hx);obtain ⟨k1,k2⟩:=HW.o _ HX3.o;clear hx k1 k2 H3)
  | fail)
 go_ret;exact ⟨rfl,J6.o⟩
attribute [local go_sem] Oper.semAt_some
theorem Po {α:Type} {sz:Nat} {R:AH->List AN->α->Prop} {w:AH} {l:List α} {g:Nat} {t:Af} {cs:List AN} (h:AZ w g t cs.toArray) (hc:Aq sz R w cs l) (hm:l.length<=maxLen):Ag sz R w (AB (some ⟨g,0,none⟩) l.length l.length) l:=by
 refine ⟨some ⟨g,0,none⟩,l.length,rfl,Ac _,hm,fun i x hi=>⟨g,0,(cs.drop (i*sz)).take sz,rfl,h.lt,?_,?_,hc.2 i x hi⟩⟩
 ·have hil:=(BD.1 hi).1
  have hle:i*sz+sz<=cs.length:=by rw [hc.1,<-Mr];exact Mv _ hil
  rw [ER,JN];omega
 intro j u hu;rcases Ec j sz with hj | hj
 ·rw [Jl hj,EP] at hu
  rw [Fc,h.cell];simpa using hu
 rw [DT Pg] at hu;cases hu
theorem U4 {w:AH} {t:Af} {cs:Array AN} {g:Nat} (h:w.heap.size=g):AZ (w.alloc (AO cs t)) g t cs:=by subst h;exact AZ.new _ _ _
def ADk:Array AN:=#[AL ⟨#[115,101,108,102]⟩,AE AF 3,AE AF 0,AE AF 4095,AL ⟨#[]⟩,AE AF (-1),AB none 0 0,AE AF 0,AE AF 0,AE AF 0,AE AF 0,AL ⟨#[97]⟩,AE AF 1,AE AF 0,AE AF 9,AL ⟨#[]⟩,AE AF (-1),AB none 0 0,AE AF 0,AE AF 0,AE AF 0,AE AF 0]
def uS (g1 g3 g4:Nat):Array AN:=#[AB (some ⟨g1,0,none⟩) 1 1,AB none 0 0,AB (some ⟨g3,0,none⟩) 1 1,AB none 0 0,AB none 0 0,AB none 0 0,AB (some ⟨g4,0,none⟩) 1 1]
def Vv (g1 g3 g4:Nat) (w:AH):Prop:=∃g2,AZ w g1 9 #[AL ⟨#[120]⟩]/\AZ w g2 112 ADk/\AZ w g3 85 #[AL ⟨#[115]⟩,AL ⟨#[120]⟩,AE AF 0,AE AF 1,AB (some ⟨g2,0,none⟩) 2 2,AB none 0 0]/\AZ w g4 3 #[AE AF 0]
theorem Vv.below {g1 g3 g4:Nat} {w w':AH} (h:Vv g1 g3 g4 w) (hb:AK w w'):Vv g1 g3 g4 w':=by obtain ⟨g2,a,b,c,d⟩:=h;exact ⟨g2,a.below hb a.lt,b.below hb b.lt,c.below hb c.lt,d.below hb d.lt⟩
theorem lx (w:AH):AS prog 21 #[] w fun e w'=>∃g1 g3 g4,e=AU (AP (uS g1 g3 g4))/\Vv g1 g3 g4 w'/\AK w w':=by
 go_enter func21,ntmps21;go_wp2_with fail;refine Eu (N5 rfl _ _ w.heap.size 32 (uS (w.heap.size+1) (w.heap.size+1+1+1) (w.heap.size+1+1+1+1)) (0,0) _ rfl (((((AZ.new _ _ _).alloc _).alloc _).alloc _).alloc _) underlying32 rfl AJ) rfl ?_;refine ⟨w.heap.size+1,w.heap.size+1+1+1,w.heap.size+1+1+1+1,rfl,⟨w.heap.size+1+1,?_,?_,?_,?_⟩,(((BE _ _).alloc AX _).alloc BN _ |>.alloc BN _).alloc BN _⟩
 · exact (((U4 AX).alloc _).alloc _).alloc _
 · exact ((U4 AX).alloc _).alloc _
 · exact (U4 AX).alloc _
 · exact U4 AX
def Iz (k:Int):AQ:=k::zeros 31
def G5:List (AQ):=[Iz 1,Iz 2,Iz 3,Iz 4]
theorem zh {w:AH} {g:Nat} (h:AZ w g 34 (G5.map fun d=>d.map (Value.int .u8)).flatten.toArray):Ag 32 CV w (AB (some ⟨g,0,none⟩) 4 4) G5:=
 Po (l:=G5) h ⟨rfl,fun i x hi=>by
  rcases i with _ | _ | _ | _ | i
  all_goals first
   | (simp only [G5,Al,Az,Bu] at hi;subst hi;exact ⟨rfl,rfl⟩)
   | (simp [G5] at hi)⟩ Ah
theorem qW (w:AH):AS prog 22 #[] w fun e w'=>∃g,e=AU (AB (some ⟨g,0,none⟩) 4 4)/\Ag 32 CV w' (AB (some ⟨g,0,none⟩) 4 4) G5/\AK w w':=by go_enter func22,ntmps22;go_wp2_with fail;go_ret;exact ⟨_,rfl,zh (AZ.new _ _ _),(Ae _ _).alloc (Ac _) _⟩
theorem mN {w:AH} {g:Nat} {t:Af} {r:CM} {d:AQ} (h:AZ w g t (rdA r)) (hr:r.root.length=32) (hd:d.length=32):AZ (w.setCells g 6 (d.map (Value.int .u8))) g t (rdA {r with root:=d}):=by
 have e:∀q:CM,rdA q=([Value.int .i64 q.Ar,AE AF q.no,AE AF q.schema,AE AF q.day,AE AF q.known,AE AF q.places]++q.root.map (Value.int .u8)).toArray:=fun q=>by simp [rdA,yA]
 rw [e] at h ⊢;have hb:=Vu (d.map (Value.int .u8)) 6 w _ h (by simp [hr,hd]);have e2:∀l:List AN,l.length=32->([Value.int .i64 r.Ar,AE AF r.no,AE AF r.schema,AE AF r.day,AE AF r.known,AE AF r.places]++l).take 6++d.map (Value.int .u8)++([Value.int .i64 r.Ar,AE AF r.no,AE AF r.schema,AE AF r.day,AE AF r.known,AE AF r.places]++l).drop (6+(d.map (Value.int .u8)).length)=[Value.int .i64 r.Ar,AE AF r.no,AE AF r.schema,AE AF r.day,AE AF r.known,AE AF r.places]++d.map (Value.int .u8):=fun l hl=>by rw [Ex (by simp [hl,hd]),FK,List.take_left' Cq]
 rw [e2 _ (by simp [hr])] at hb;exact hb
theorem Pk {P:BA} {w:AH} {ops:Array Oper} {rest:List Oper} {o:Oper} {a:Act} {Q:Exit->Act->AH->Prop} (hw:Region.wanted o (yielded ops a.tmps)=true) (t:Af) (parts:Array (Nat×Operand)) (ho:o.op=.build t parts) (cells:Array AN) (hb:P.built t (parts.toList.map fun p=>(p.1,a.eval p.2))=some cells)
 (h:wpList P ops Q rest (a.put o.dst (.agg cells)) w):wpList P ops Q (o::rest) a w:=
 Tx hw fun K hK=>by unfold Oper.wp;rw [Yx hb ho];exact hK _ _ h
theorem loadRow {P:BA} {W:AH} {g:Nat} {ty t:Af} {cs:Array AN} {ds:TypeDesc} (hg:AZ W g t cs) (hu:P.underlying ty=some ds) (hds:(match ds with | .struct _ | .array _ _=>true | _=>false)=true) (hi:(P.info? ty).map (·.size)=some cs.size):(Instr.loadAt ty (AW (some ⟨g,0,none⟩))).run P W=.ok (.agg cs) W:=by simp only [Instr.loadAt,Instr.sureAddr,Ck,DC,Result.andThen_ok,My W g t ty cs (0,0) ds hg hu hds hi]
theorem AA1 (s:JF) (hh:s.holder.length=32) (ht:s.token.length=32) (v:AN):(GD s).setIfInBounds 36 v=GD {s with fields:=v}:=by
 obtain ⟨i,r,s,p,h,f,u,l,t,k,_,_,_,_⟩:=s
 dsimp only at hh ht
 exact RW
def vsz:AN->Nat
 | .agg z=>z.size+1
 | _=>0
theorem Fv {P:BA} {ops:Array Oper} {rest:List Oper} {o1 o2:Oper} {a:Act} {w:AH} {Q:Exit->Act->AH->Prop} (T:Af) (d y n:Nat) (cells:Array AN) (hcs:cells.size=n) (h1:cells.all (·.oneCell')=true) (hy:(a.put (some d) (AW (some ⟨w.heap.size,0,none⟩))).eval (AY y)=.agg cells)
 (h:wpList P ops Q rest (a.put (some d) (AW (some ⟨w.heap.size,0,none⟩))) (w.alloc (AO cells T))) (hdl:decide (d < a.tmps.size)=true:=by kernel_rfl)
 (hz:((P.info? T).bind (·.zero)).map vsz=some (n+1):=by kernel_rfl) (hs:(P.info? T).map (·.size)=some n:=by kernel_rfl) (hg1:o1.guard=none:=by rfl) (hg2:o2.guard=none:=by rfl) (ho1:o1.op=.alloc T:=by rfl) (hd1:o1.dst=some d:=by rfl) (ho2:o2.op=.store T (AY d) (AY y):=by rfl) (hd2:o2.dst=none:=by rfl):
 wpList P ops Q (o1::o2::rest) a w:=by
 obtain ⟨z,hz1,hz2⟩:=Ds.1 hz;cases z with
 |
  agg z=>
  have hzn:z.size=n:=Nat.succ.inj hz2;refine EY hg1 T ho1 z hz1 ?_;rw [hd1];refine wpList_store_rowTo hg2 T (AY d) (AY y) ho2 hd2 w.heap.size cells ?_ hy T z (World.alloc_heap_new w _) (by rw [hs,hcs]) (by rw [hzn,hcs]) h1 ?_
  ·have hd:=F8 hdl
   simp [Act.eval,Act.put,hd]
  ·rw [World.setRow_alloc_new]
   exact h
 | _=>cases hz2
end Go.Proofs.YtamhoilkpppdbaaGreatDoor
