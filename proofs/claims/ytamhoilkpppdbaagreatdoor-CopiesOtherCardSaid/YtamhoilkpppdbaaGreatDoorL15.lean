import Derived.Test.YtamhoilkpppdbaaGreatDoorL14
namespace Go.Proofs.YtamhoilkpppdbaaGreatDoor
set_option maxHeartbeats 8000000
set_option maxRecDepth 100000
open Go renaming World→AH, Value→AN, Calls→AS, TypeId→Ae, Program→BE, Addr→Aa
open Go.Proofs.Tryz
open Go.Value renaming slice→AA, int→AB, string→AL, pointer→AU, bool→Ab, agg→AP
open Go.IntKind renaming i64→AE
open Go.Ending renaming returned→AW
open Go.Obj renaming cells→AO
open Go.Operand renaming tmp→AX
open Go.RowKit Go.Shelf
attribute [local go_sem] Oper.semAt_some
def LM (w:AH) (e:Ending) (w':AH):Prop:=(∃b,e=AW (Ab b))/\AK w w'
theorem ACU (i:Int) (A B:Option Aa) (n c m d:Nat) (w:AH):AS prog 54 #[AB AE 1,AP #[AB AE i,AA A n c,AA B m d]] w (LM w):=by
 go_enter func54,ntmps54;by_cases h1:(n:Int)<=30
 ·by_cases h2:(m:Int)<=12
  ·go_wp2_with fail
   exact nI
  go_wp2_with fail;exact nI
 go_wp2_with fail;exact nI
theorem AE1 (A:Option Aa) (n c:Nat) (l:List Cn) (w:AH) (h:Ag 3 Cy w (AA A n c) l):AS prog 25 #[AA A n c] w (LM w):=by
 have hle:n<=9223372036854775807:=by have:=h.le;omega
 have H:=AF h;have HF:AI (∀i B1 m1 d1 B2 m2 d2 W,AS prog 54 #[AB AE 1,AP #[AB AE i,AA B1 m1 d1,AA B2 m2 d2]] W (LM W)):=AF (fun i B1 m1 d1 B2 m2 d2 W=>ACU i B1 B2 m1 d1 m2 d2 W);clear h;go_enter func25,ntmps25;go_wp2_with fail;have HB3:AI (AK w w):=AF (Af _ _);go_loopg [3] n (fun q i wr=>∃k:Nat,k<=n/\q=n - k/\i=AB AE k/\AK w wr)
 case atStart=>exact ⟨0,Ay _,rfl,rfl,HB3.o⟩
 clear HB3;obtain ⟨k,hk,hq,rfl,hb⟩:=hrel;obtain ⟨HQ,DK⟩:=Al hq hb;by_cases hlt:k < n
 ·obtain ⟨lb,lo,x,B1,m1,e1,B2,m2,e2,rfl,hlb,hx,hx1,hx2,hlc⟩:=Od (H.o.mono Bc hb) hlt
  have hkn:(k:Int) < (n:Int):=AG
  have hk0:=Int.natCast_nonneg k
  have c0:wr.cell? ⟨lb,lo+k*3,none⟩=some (AB AE x.index):=hlc 0 _ rfl;have c1:wr.cell? ⟨lb,lo+k*3+1,none⟩=some (AA B1 m1 e1):=hlc 1 _ rfl;have c2:wr.cell? ⟨lb,lo+k*3+2,none⟩=some (AA B2 m2 e2):=hlc 2 _ rfl;clear hx hx1 hx2 hlc hq hb;go_wp2_with (go_at_call 54;refine (HF.o _ _ _ _ _ _ _ _).mono ?_;rintro e w2 ⟨⟨b,rfl⟩,hb2⟩;have HB2:=AF (AV DK.o hb2);clear hb2;cases b)
  all_goals first
   | (go_ret;exact ⟨⟨_,rfl⟩,HB2.o⟩)
   | (
    go_roundg (n - (k+1))
    case measure=>exact Bi
    case rel=>exact ⟨k+1,by omega,rfl,by go_num,HB2.o⟩)
 obtain rfl:k=n:=AG
 go_wp2;go_ret;exact ⟨⟨_,rfl⟩,DK.o⟩
def AIs (w:AH) (e:Ending) (w':AH):Prop:=(∃z,e=AW (AB AE z))/\AK w w'
section
variable (v0 v1 v3 v4 v5 v6:AN) (A:Option Aa) (n c:Nat) (ns:List Nat)
theorem yb (sc:Int) (w:AH) (hs:Ag 6 Kx w (AA A n c) ns):AS prog 55 #[AP #[v0,v1,AA A n c,v3,v4,v5,v6],AB AE sc] w (AIs w):=by
 have HS:=AF hs;clear hs;go_enter func55,ntmps55;go_upto_region 1 with fail;obtain ⟨k1,b1,s1⟩:=bx w #[v0,v1,AA A n c,v3,v4,v5,v6] 32;generalize (w.alloc (AO #[v0,v1,AA A n c,v3,v4,v5,v6] 32))=w1 at k1 b1 s1 ⊢;have c2:w1.cell? ⟨w.heap.size,2,none⟩=some (AA A n c):=k1.cell 2;have HB:=AF b1;clear k1 b1 s1;by_cases h1:sc < 0
 ·go_wp2
  exact nh
 by_cases h2:(n:Int)<=sc
 ·go_wp2
  exact nh
 obtain ⟨k,rfl⟩:∃k:Nat,sc=k:=⟨sc.toNat,by omega⟩;have hkn:k < n:=AG
 have hk1:(k:Int) < (n:Int):=AG
 have hk0:=Int.natCast_nonneg k
 obtain ⟨b,off,x,x0,x1,x2,x3,B,cc,x5,hA,hb,hx,hxl,hone,hcell⟩:=Nv HS.o hkn;subst hA;have e4:w1.cell? ⟨b,off+k*6+4,none⟩=some (AA B x cc):=(HB.o.cell (p:=⟨b,off+k*6+4,none⟩) hb).trans (hcell 4 _ rfl);clear hcell hone hx;go_wp2;exact nh
theorem ABU (sc:Int) (w:AH) (hs:Ag 6 Kx w (AA A n c) ns):AS prog 26 #[AP #[v0,v1,AA A n c,v3,v4,v5,v6],AB AE sc] w (LM w):=by have HF:AI (∀W,AK w W->AS prog 55 #[AP #[v0,v1,AA A n c,v3,v4,v5,v6],AB AE sc] W (AIs W)):=AF (fun W hW=>yb v0 v1 v3 v4 v5 v6 A n c ns sc W (hs.mono Di hW));clear hs;go_enter func26,ntmps26;go_upto_region 1 with fail;obtain ⟨k1,b1,s1⟩:=bx w #[v0,v1,AA A n c,v3,v4,v5,v6] 32;generalize (w.alloc (AO #[v0,v1,AA A n c,v3,v4,v5,v6] 32))=w1 at k1 b1 s1 ⊢;have c0:w1.cell? ⟨w.heap.size,0,none⟩=some v0:=k1.cell 0;have c1:w1.cell? ⟨w.heap.size,1,none⟩=some v1:=k1.cell 1;have c2:w1.cell? ⟨w.heap.size,2,none⟩=some (AA A n c):=k1.cell 2;have c3:w1.cell? ⟨w.heap.size,3,none⟩=some v3:=k1.cell 3;have c4:w1.cell? ⟨w.heap.size,4,none⟩=some v4:=k1.cell 4;have c5:w1.cell? ⟨w.heap.size,5,none⟩=some v5:=k1.cell 5;have c6:w1.cell? ⟨w.heap.size,6,none⟩=some v6:=k1.cell 6;have HB:=AF b1;clear k1 b1 s1;go_wp2_with (go_at_call 55;refine (HF.o _ HB.o).mono ?_;rintro e w2 ⟨⟨z,rfl⟩,hb2⟩;have HB2:=AF (AV HB.o hb2);clear hb2);go_ret;exact ⟨⟨_,rfl⟩,HB2.o⟩
theorem YK (r:Br) (p:UH) (VA LA KA:Option Aa) (vn vc ln lc kn kc:Nat) (cl:List Cn) (w:AH) (hs:Ag 6 Kx w (AA A n c) ns) (hF:∀W,AK w W->AS prog 24 #[AP #[v0,v1,AA A n c,v3,v4,v5,v6]] W (LM W))
 (hh:p.holder.length=32) (hv:p.values=AA VA vn vc) (hl:p.links=AA LA ln lc) (hk:p.claims=AA KA kn kc) (hc:Ag 3 Cy w (AA KA kn kc) cl):AS prog 8 #[AP #[v0,v1,AA A n c,v3,v4,v5,v6],AP (rdA r),AP (Fo p)] w (LM w):=by
 obtain ⟨RR,hRR⟩:=Ad (rdA r);obtain ⟨Y,hY⟩:=Ad (Fo p);have Mj:AI (∀W g,AY W g 46 Y->CpB W g p):=AF (fun W g h=>by rw [hY] at h;exact PS h hh);have Lm:AI (RR[2]? =some (AB AE r.schema)/\RR[5]? =some (AB AE r.places)):=AF (by rw [hRR,rdA];refine ⟨?_,?_⟩ <;> (rw [P1 AZ];rfl))
 rw [<-hRR,<-hY];have vr:AI (∀sc W,AK w W->AS prog 26 #[AP #[v0,v1,AA A n c,v3,v4,v5,v6],AB AE sc] W (LM W)):=AF (fun sc W hW=>ABU v0 v1 v3 v4 v5 v6 A n c ns sc W (hs.mono Di hW));have Mi:AI (∀W,AK w W->AS prog 25 #[AA KA kn kc] W (LM W)):=AF (fun W hW=>AE1 KA kn kc cl W (hc.mono Bc hW));obtain ⟨Ou,HVS⟩:=Al hF (And.intro hv (And.intro hl hk));clear hs hF hh hv hl hk hc hRR hY;go_enter func8,ntmps8;go_upto_region 1 with fail;obtain ⟨k1,b1,s1⟩:=bx w #[v0,v1,AA A n c,v3,v4,v5,v6] 32;generalize (w.alloc (AO #[v0,v1,AA A n c,v3,v4,v5,v6] 32))=w1 at k1 b1 s1 ⊢;obtain ⟨k2,b2,s2⟩:=bx w1 RR 36;generalize (w1.alloc (AO RR 36))=w2 at k2 b2 s2 ⊢;rw [s1] at k2 b2 s2;obtain ⟨k3,b3,s3⟩:=bx w2 Y 46;generalize (w2.alloc (AO Y 46))=w3 at k3 b3 s3 ⊢;rw [s2] at k3 b3 s3;have HB3:AI (AK w w3):=AF ((b1.trans (b2.mono AG)).trans (b3.mono AG));have HE:AI (∀W,AK w3 W->(W.cell? ⟨w.heap.size,0,none⟩=some v0/\W.cell? ⟨w.heap.size,1,none⟩=some v1/\W.cell? ⟨w.heap.size,2,none⟩=some (AA A n c)/\W.cell? ⟨w.heap.size,3,none⟩=some v3/\W.cell? ⟨w.heap.size,4,none⟩=some v4/\W.cell? ⟨w.heap.size,5,none⟩=some v5/\W.cell? ⟨w.heap.size,6,none⟩=some v6)/\(W.cell? ⟨w.heap.size+1,2,none⟩=some (AB AE r.schema)/\W.cell? ⟨w.heap.size+1,5,none⟩=some (AB AE r.places))/\W.cell? ⟨w.heap.size+1+1,36,none⟩=some (AA VA vn vc)/\W.cell? ⟨w.heap.size+1+1,37,none⟩=some (AA LA ln lc)/\W.cell? ⟨w.heap.size+1+1,38,none⟩=some (AA KA kn kc)):=AF (fun W hW=>by have a:=((k1.below b2 AG).below b3 AG).below hW AG;have b:=(k2.below b3 AG).below hW AG;have d:=Mj.o W _ (k3.below hW AG);exact ⟨⟨a.cell 0,a.cell 1,a.cell 2,a.cell 3,a.cell 4,a.cell 5,a.cell 6⟩,⟨(b.cell 2).trans Lm.o.1,(b.cell 5).trans Lm.o.2⟩,d.values.trans (congrArg some HVS.o.1),d.links.trans (congrArg some HVS.o.2.1),d.claims.trans (congrArg some HVS.o.2.2)⟩)
 clear k1 b1 s1 k2 b2 s2 k3 b3 s3;obtain ⟨⟨d0,d1,d2,d3,d4,d5,d6⟩,_⟩:=HE.o w3 (Af _ _);have hcase:¬r.places<=3\/(r.places<=3/\¬(vn:Int)<=16)\/(r.places<=3/\(vn:Int)<=16/\¬(ln:Int)<=8)\/(r.places<=3/\(vn:Int)<=16/\(ln:Int)<=8):=AG
 rcases hcase with h1 | ⟨h1,h2⟩ | ⟨h1,h2,h3⟩ | ⟨h1,h2,h3⟩
 all_goals go_wp2_with (first
  | (go_at_call 24;refine (Ou.o _ HB3.o).mono ?_;rintro e w4 ⟨⟨b,rfl⟩,hb4⟩;have HB4:=AF (AV HB3.o hb4);have HG4:=AF hb4;obtain ⟨_,⟨e2,e5⟩,e36,e37,e38⟩:=HE.o w4 hb4;clear hb4;cases b)
  | (go_at_call 25;refine (Mi.o _ HB4.o).mono ?_;rintro e w5 ⟨⟨b,rfl⟩,hb5⟩;have Cg:=AF (AV HB4.o hb5);obtain ⟨⟨d0,d1,d2,d3,d4,d5,d6⟩,⟨g2,g5⟩,_⟩:=HE.o w5 (AV HG4.o hb5);clear hb5;cases b)
  | (go_at_call 26;refine (vr.o _ _ Cg.o).mono ?_;rintro e w6 ⟨⟨b,rfl⟩,hb6⟩;have Fb:=AF (AV Cg.o hb6);clear hb6)
  | fail)
 all_goals (go_ret;first | exact ⟨⟨_,rfl⟩,Fb.o⟩ | exact ⟨⟨_,rfl⟩,Cg.o⟩ | exact ⟨⟨_,rfl⟩,HB4.o⟩)
end
attribute [local go_sem] Oper.semAt_some
theorem Z7 (A B:Option Aa) (n c m d:Nat) (l:AQ) (w:AH) (hl:Ag 1 Bt w (AA A n c) l) (hr:Ag 1 Bt w (AA B m d) l):
 AS prog 31 #[AA A n c,AA B m d] w fun e w'=>e=AW (Ab true)/\AK w w':=by
 have hn2:n<=9223372036854775807:=by have:=hl.le;omega
 obtain rfl:n=m:=by rw [hl.len,hr.len]
 obtain ⟨HL,HR⟩:=Al hl hr;clear hl hr;go_enter func31,ntmps31;go_wp2_with fail;go_loopg [5] n (fun q i wr=>∃k:Nat,k<=n/\q=n - k/\i=AB AE k/\AK w wr)
 case atStart=>exact nk
 obtain ⟨k,hk,hq,rfl,hb⟩:=hrel;obtain ⟨HQ,HB⟩:=Al hq hb;clear hq hb;by_cases hlt:k < n
 ·obtain ⟨a,ao,x,rfl,hal,hx,ex,_,_⟩:=ints_at (HL.o.mono BT HB.o) hlt
  obtain ⟨b,bo,y,rfl,hbl,hy,ey,_,_⟩:=ints_at (HR.o.mono BT HB.o) hlt;rw [hx] at hy;injection hy with hy;subst hy;have hkn:(k:Int) < (n:Int):=AG
  have hk0:=Int.natCast_nonneg k
  clear hx;go_wp2_with fail;go_quiet (fail);go_wp2;go_roundg (n - (k+1))
  case measure=>exact Bi
  case rel=>exact ⟨k+1,by omega,rfl,by go_num,below_drewN HB.o _⟩
 exact nJ
theorem oW (A B:Option Aa) (n c m d:Nat) (l:List (AQ)) (w:AH) (hl:Ag 32 CP w (AA A n c) l) (hr:Ag 32 CP w (AA B m d) l):
 AS prog 32 #[AA A n c,AA B m d] w fun e w'=>e=AW (Ab true)/\AK w w':=by
 have hn2:n<=9223372036854775807:=by have:=hl.le;omega
 obtain rfl:n=m:=by rw [hl.len,hr.len]
 obtain ⟨HL,HR⟩:=Al hl hr;clear hl hr;go_enter func32,ntmps32;go_wp2_with fail;go_loopg [5] n (fun q i wr=>∃k:Nat,k<=n/\q=n - k/\i=AB AE k/\AK w wr)
 case atStart=>exact nk
 obtain ⟨k,hk,hq,rfl,hb⟩:=hrel;obtain ⟨HQ,HB⟩:=Al hq hb;clear hq hb;by_cases hlt:k < n
 ·obtain ⟨a,ao,x,xs,rfl,hal,hx,_,hxc,rfl,hxl⟩:=(HL.o.mono BO HB.o).at_ hlt
  obtain ⟨b,bo,y,ys,rfl,hbl,hy,_,Mw,rfl,_⟩:=(HR.o.mono BO HB.o).at_ hlt;rw [hx] at hy;injection hy with hy;subst hy;have hkn:(k:Int) < (n:Int):=AG
  have hk0:=Int.natCast_nonneg k
  have hde:∀W,(Op.equalIn 10000 34 (AP (yA x)) (AP (yA x))).run prog W=.ok true W:=fun W=>by rw [Zq hxl hxl W];simp
  have hdg:=TD;have ha:∀W,AK wr W->(Instr.loadAt 34 (AU (some ⟨a,ao+k*32,none⟩))).run prog W=.ok (AP (yA x)) W:=fun W hW=>Ei a _ hxl (fun j v hv=>(hW.cell (p:=⟨a,ao+k*32+j,none⟩) hal).trans (by rw [Ji];exact hxc j v hv));have hb:∀W,AK wr W->(Instr.loadAt 34 (AU (some ⟨b,bo+k*32,none⟩))).run prog W=.ok (AP (yA x)) W:=fun W hW=>Ei b _ hxl (fun j v hv=>(hW.cell (p:=⟨b,bo+k*32+j,none⟩) hbl).trans (by rw [Ji];exact Mw j v hv));obtain ⟨HA,HC⟩:=Al ha hb;clear hx hxl hxc Mw ha hb;go_upto_region 6 with fail;have hS:AK wr wr.drew:=(Af _ _).drew;have TK:∀W,AK wr W->True:=fun _ _=>trivial;refine Pe (fun W=>AK wr W) 9 _ AJ AJ rfl ?_;refine qM 0 17 0 hS ?_;refine qM 1 18 5 hS ?_;refine qT 2 19 hS ?_;refine qT 3 20 hS (v:=AP (yA x)) ?_ (hv:=fun W hW=>Cv rfl AJ (HA.o W hW));refine qM 4 21 1 hS ?_;refine qM 5 22 5 hS ?_;refine qT 6 23 hS ?_;refine qT 7 24 hS (v:=AP (yA x)) ?_ (hv:=fun W hW=>Cv rfl AJ (HC.o W hW));refine qT 8 25 hS (v:=Ab false) ?_ (hv:=by intro W hW;(go_simp) <;> rfl);refine Ed AJ ?_ _;simp only [CZ,Ch];go_wp2;go_roundg (n - (k+1))
  case measure=>exact Bi
  case rel=>exact ⟨k+1,by omega,rfl,by go_num,HB.o.drew⟩
 exact nJ
theorem ABY (q:Cn) (A1 A2 B1 B2:Option Aa) (n1 c1 n2 c2 m1 d1 m2 d2:Nat) (w:AH) (h1:Ag 32 CP w (AA A1 n1 c1) q.chains) (h2:Ag 32 CP w (AA A2 n2 c2) q.path) (h3:Ag 32 CP w (AA B1 m1 d1) q.chains) (h4:Ag 32 CP w (AA B2 m2 d2) q.path):
 AS prog 59 #[AP #[AB AE q.index,AA A1 n1 c1,AA A2 n2 c2],AP #[AB AE q.index,AA B1 m1 d1,AA B2 m2 d2]] w fun e w'=>e=AW (Ab true)/\AK w w':=by
 have H1:AI (∀W,AK w W->AS prog 32 #[AA A1 n1 c1,AA B1 m1 d1] W fun e w'=>e=AW (Ab true)/\AK W w'):=AF (fun W hW=>oW A1 B1 n1 c1 m1 d1 q.chains W (h1.mono BO hW) (h3.mono BO hW));have H2:AI (∀W,AK w W->AS prog 32 #[AA A2 n2 c2,AA B2 m2 d2] W fun e w'=>e=AW (Ab true)/\AK W w'):=AF (fun W hW=>oW A2 B2 n2 c2 m2 d2 q.path W (h2.mono BO hW) (h4.mono BO hW));clear h1 h2 h3 h4;go_enter func59,ntmps59;go_upto_region 1 with fail;obtain ⟨k1,b1,s1⟩:=bx w #[AB AE q.index,AA A1 n1 c1,AA A2 n2 c2] 71;generalize (w.alloc (AO #[AB AE q.index,AA A1 n1 c1,AA A2 n2 c2] 71))=w1 at k1 b1 s1 ⊢;obtain ⟨k2,b2,s2⟩:=bx w1 #[AB AE q.index,AA B1 m1 d1,AA B2 m2 d2] 71;generalize (w1.alloc (AO #[AB AE q.index,AA B1 m1 d1,AA B2 m2 d2] 71))=w2 at k2 b2 s2 ⊢;rw [s1] at k2 b2 s2;have HB:AI (AK w w2):=AF (b1.trans (b2.mono AG));have HE:AI (∀W,AK w2 W->(W.cell? ⟨w.heap.size,0,none⟩=some (AB AE q.index)/\W.cell? ⟨w.heap.size,1,none⟩=some (AA A1 n1 c1)/\W.cell? ⟨w.heap.size,2,none⟩=some (AA A2 n2 c2))/\W.cell? ⟨w.heap.size+1,0,none⟩=some (AB AE q.index)/\W.cell? ⟨w.heap.size+1,1,none⟩=some (AA B1 m1 d1)/\W.cell? ⟨w.heap.size+1,2,none⟩=some (AA B2 m2 d2)):=AF (fun W hW=>by have a:=(k1.below b2 AG).below hW AG;have b:=k2.below hW AG;exact ⟨⟨a.cell 0,a.cell 1,a.cell 2⟩,b.cell 0,b.cell 1,b.cell 2⟩)
 clear k1 b1 s1 k2 b2 s2;obtain ⟨⟨a0,a1,_⟩,b0,b1,_⟩:=HE.o w2 (Af _ _);go_wp2_with (first
  | (go_at_call 32;refine (H1.o _ HB.o).mono ?_;rintro e w3 ⟨rfl,hb3⟩;have HB3:=AF (AV HB.o hb3);obtain ⟨⟨_,_,a2⟩,_,_,b2⟩:=HE.o w3 hb3;clear hb3 H1)
  | (go_at_call 32;refine (H2.o _ HB3.o).mono ?_;rintro e w4 ⟨rfl,hb4⟩;have HB4:=AF (AV HB3.o hb4);clear hb4)
  | fail)
 go_ret;exact ⟨rfl,HB4.o⟩
theorem jl {W:AH} {b o:Nat} {i:Int} {A1 A2:Option Aa} {n1 c1 n2 c2:Nat} (h:∀(j:Nat) (v:AN),[Value.int .i64 i,AA A1 n1 c1,AA A2 n2 c2][j]? =some v->W.cell? ⟨b,o+j,none⟩=some v):(Instr.loadAt 71 (AU (some ⟨b,o,none⟩))).run prog W=.ok (AP #[AB AE i,AA A1 n1 c1,AA A2 n2 c2]) W:=by have hr:W.rangeAt b o [AB AE i,AA A1 n1 c1,AA A2 n2 c2]:=h;simp only [Instr.loadAt,Instr.sureAddr,Cp,DL,Result.andThen_ok,Rz W b o 71 _ _ hr underlying71 rfl AJ]
theorem mE (A B:Option Aa) (n c m d:Nat) (l:List Cn) (w:AH) (hl:Ag 3 Cy w (AA A n c) l) (hr:Ag 3 Cy w (AA B m d) l):
 AS prog 33 #[AA A n c,AA B m d] w fun e w'=>e=AW (Ab true)/\AK w w':=by
 have hn2:n<=9223372036854775807:=by have:=hl.le;omega
 obtain rfl:n=m:=by rw [hl.len,hr.len]
 obtain ⟨HL,HR⟩:=Al hl hr;clear hl hr;go_enter func33,ntmps33;go_wp2_with fail;go_loopg [5] n (fun q i wr=>∃k:Nat,k<=n/\q=n - k/\i=AB AE k/\AK w wr)
 case atStart=>exact nk
 obtain ⟨k,hk,hq,rfl,hb⟩:=hrel;obtain ⟨HQ,HB⟩:=Al hq hb;clear hq hb;by_cases hlt:k < n
 ·obtain ⟨a,ao,x,A1,n1,c1,A2,n2,c2,rfl,hal,hx,hx1,hx2,hxc⟩:=Od (HL.o.mono Bc HB.o) hlt
  obtain ⟨b,bo,y,B1,m1,d1,B2,m2,d2,rfl,hbl,hy,hy1,hy2,Mw⟩:=Od (HR.o.mono Bc HB.o) hlt;rw [hx] at hy;injection hy with hy;subst hy;have hkn:(k:Int) < (n:Int):=AG
  have hk0:=Int.natCast_nonneg k
  have HS:AI (∀W,AK wr W->AS prog 59 #[AP #[AB AE x.index,AA A1 n1 c1,AA A2 n2 c2],AP #[AB AE x.index,AA B1 m1 d1,AA B2 m2 d2]] W fun e w'=>e=AW (Ab true)/\AK W w'):=AF (fun W hW=>ABY x A1 A2 B1 B2 n1 c1 n2 c2 m1 d1 m2 d2 W (hx1.mono BO hW) (hx2.mono BO hW) (hy1.mono BO hW) (hy2.mono BO hW));have HA:AI (∀W,AK wr W->(Instr.loadAt 71 (AU (some ⟨a,ao+k*3,none⟩))).run prog W=.ok (AP #[AB AE x.index,AA A1 n1 c1,AA A2 n2 c2]) W):=AF (fun W hW=>jl (fun j v hj=>(hW.cell (p:=⟨a,ao+k*3+j,none⟩) hal).trans (hxc j v hj)));have HC:AI (∀W,AK wr W->(Instr.loadAt 71 (AU (some ⟨b,bo+k*3,none⟩))).run prog W=.ok (AP #[AB AE x.index,AA B1 m1 d1,AA B2 m2 d2]) W):=AF (fun W hW=>jl (fun j v hj=>(hW.cell (p:=⟨b,bo+k*3+j,none⟩) hbl).trans (Mw j v hj)));clear hx hxc Mw hx1 hx2 hy1 hy2;go_upto_region 6 with fail;have hS:AK wr wr.drew:=(Af _ _).drew;have TK:∀W,AK wr W->True:=fun _ _=>trivial;refine Pe (fun W=>AK wr W) 10 _ AJ AJ rfl ?_;refine qM 0 17 0 hS ?_;refine qM 1 18 5 hS ?_;refine qT 2 19 hS ?_;refine qT 3 20 hS (v:=AP #[AB AE x.index,AA A1 n1 c1,AA A2 n2 c2]) ?_ (hv:=fun W hW=>Cv rfl AJ (HA.o W hW));refine qM 4 21 1 hS ?_;refine qM 5 22 5 hS ?_;refine qT 6 23 hS ?_;refine qT 7 24 hS (v:=AP #[AB AE x.index,AA B1 m1 d1,AA B2 m2 d2]) ?_ (hv:=fun W hW=>Cv rfl AJ (HC.o W hW));refine qF 8 25 (HS.o _ hS) ?_;rintro e w2 ⟨rfl,hb2⟩;have hS2:AK wr w2:=AV hS hb2;refine ⟨_,rfl,hS2,?_⟩;refine qT 9 26 hS2 (v:=Ab false) ?_ (hv:=by intro W hW;(go_simp) <;> rfl);refine Ed AJ ?_ _;simp only [CZ,Ch];have HB2:=AF (AV HB.o hS2);clear hS hS2 hb2 TK;go_wp2;go_roundg (n - (k+1))
  case measure=>exact Bi
  case rel=>exact ⟨k+1,by omega,rfl,by go_num,HB2.o⟩
 exact nJ
theorem Az {P:BE} {w:AH} {ops:Array Oper} {rest:List Oper} {o:Oper} {a:Act} {Q:Exit->Act->AH->Prop} {r:AN} (hw:Region.wanted o (yielded ops a.tmps)=true) (ty:Ae) (x:Operand) (ho:o.op=.load ty x) (p:AN) (hx:a.eval x=p) (hr:(Instr.loadAt ty p).run P w=.ok r w)
 (h:wpList P ops Q rest (a.put o.dst r) w):wpList P ops Q (o::rest) a w:=
 Uu hw fun K hK=>by unfold Oper.wp execOp;simp only [ho,hx,Cp,DL,Result.andThen_ok,hr];exact hK _ _ h
theorem dS {W:AH} {g:Nat} {t:Ae} {s:JS} (h:AY W g t (Em s)):W.rangeAt g 4 (s.holder.map (Value.int .u8)):=fun j v hj=>by have hl:=(BF.1 hj).1;rw [CY] at hl;rw [h.cell,Em,Aj,Sh,Gc,Gc,EB Bd,Cj AZ];simpa using hj
theorem ABO (w:AH) (Y Y':Array AN) (T:Ae):AY ((w.alloc (AO Y T)).alloc (AO Y' T)) w.heap.size T Y/\AY ((w.alloc (AO Y T)).alloc (AO Y' T)) (w.heap.size+1) T Y'/\AK w ((w.alloc (AO Y T)).alloc (AO Y' T)):=by obtain ⟨k1,b1,s1⟩:=bx w Y T;obtain ⟨k2,b2,s2⟩:=bx (w.alloc (AO Y T)) Y' T;rw [s1] at k2 b2;exact ⟨k1.below b2 AG,k2,b1.trans (b2.mono AG)⟩
theorem oU (q:Ha) (A1:Option Aa) (n1 c1:Nat) (A2:Option Aa) (n2 c2:Nat) (A3:Option Aa) (n3 c3:Nat) (A5:Option Aa) (n5 c5:Nat) (A6:Option Aa) (n6 c6:Nat) (A7:Option Aa) (n7 c7:Nat) (w:AH) (hh:q.holder.length=32) (ht:q.token.length=32) (h1:Ag 1 Bt w (AA A1 n1 c1) q.fields) (h2:Ag 1 Bt w (AA A2 n2 c2) q.values) (h3:Ag 3 Cy w (AA A3 n3 c3) q.claims) (h5:Ag 1 Bt w (AA A5 n5 c5) q.fields) (h6:Ag 1 Bt w (AA A6 n6 c6) q.values) (h7:Ag 3 Cy w (AA A7 n7 c7) q.claims):
 AS prog 16 #[AP (Em ⟨q.Ar,q.round,q.schema,q.place,q.holder,AA A1 n1 c1,AA A2 n2 c2,q.link,q.token,AA A3 n3 c3,undef,undef,0,0⟩),AP (Em ⟨q.Ar,q.round,q.schema,q.place,q.holder,AA A5 n5 c5,AA A6 n6 c6,q.link,q.token,AA A7 n7 c7,undef,undef,0,0⟩)] w fun e w'=>e=AW (Ab true)/\AK w w':=by
 obtain ⟨Y,hY⟩:=Ad (Em ⟨q.Ar,q.round,q.schema,q.place,q.holder,AA A1 n1 c1,AA A2 n2 c2,q.link,q.token,AA A3 n3 c3,undef,undef,0,0⟩);obtain ⟨Y',hY'⟩:=Ad (Em ⟨q.Ar,q.round,q.schema,q.place,q.holder,AA A5 n5 c5,AA A6 n6 c6,q.link,q.token,AA A7 n7 c7,undef,undef,0,0⟩);rw [<-hY,<-hY'];obtain ⟨k1,k2,hb⟩:=ABO w Y Y' 57;have HW:AI (∀W,Below ((w.alloc (AO Y 57)).alloc (AO Y' 57)).heap.size ((w.alloc (AO Y 57)).alloc (AO Y' 57)) W->AY W w.heap.size 57 Y/\AY W (w.heap.size+1) 57 Y'):=AF (fun W hW=>⟨k1.below hW k1.lt,k2.below hW k2.lt⟩);have HA:AI (∀W g,AY W g 57 Y->SwB W g ⟨q.Ar,q.round,q.schema,q.place,q.holder,AA A1 n1 c1,AA A2 n2 c2,q.link,q.token,AA A3 n3 c3,undef,undef,0,0⟩):=AF (fun W g h=>by rw [hY] at h;exact JO h hh ht);have HB:AI (∀W g,AY W g 57 Y'->SwB W g ⟨q.Ar,q.round,q.schema,q.place,q.holder,AA A5 n5 c5,AA A6 n6 c6,q.link,q.token,AA A7 n7 c7,undef,undef,0,0⟩):=AF (fun W g h=>by rw [hY'] at h;exact JO h hh ht);have AFk:AI (∀W,AY W w.heap.size 57 Y->(Instr.loadAt 34 (AU (some ⟨w.heap.size,4,none⟩))).run prog W=.ok (AP (yA q.holder)) W):=AF (fun W h=>Ei _ 4 hh (by rw [hY] at h;have e:=dS h;exact e));have AFj:AI (∀W,AY W (w.heap.size+1) 57 Y'->(Instr.loadAt 34 (AU (some ⟨w.heap.size+1,4,none⟩))).run prog W=.ok (AP (yA q.holder)) W):=AF (fun W h=>Ei _ 4 hh (by rw [hY'] at h;have e:=dS h;exact e));have AKn:∀W,(Op.equalIn 10000 34 (AP (yA q.holder)) (AP (yA q.holder))).run prog W=.ok true W:=fun W=>by rw [Zq hh hh W];simp
 have AHN:AI (∀W,AY W w.heap.size 57 Y->(Instr.loadAt 34 (AU (some ⟨w.heap.size,39,none⟩))).run prog W=.ok (AP (yA q.token)) W):=AF (fun W h=>Ei _ 39 ht (by have _:=hY;have e:=(HA.o W _ h).token;exact e));have AHM:AI (∀W,AY W (w.heap.size+1) 57 Y'->(Instr.loadAt 34 (AU (some ⟨w.heap.size+1,39,none⟩))).run prog W=.ok (AP (yA q.token)) W):=AF (fun W h=>Ei _ 39 ht (by have _:=hY';have e:=(HB.o W _ h).token;exact e));have AL5:∀W,(Op.equalIn 10000 34 (AP (yA q.token)) (AP (yA q.token))).run prog W=.ok true W:=fun W=>by rw [Zq ht ht W];simp
 have H1:AI (∀W,AK w W->AS prog 31 #[AA A1 n1 c1,AA A5 n5 c5] W fun e w'=>e=AW (Ab true)/\AK W w'):=AF (fun W hW=>Z7 A1 A5 n1 c1 n5 c5 q.fields W (h1.mono BT hW) (h5.mono BT hW));have H2:AI (∀W,AK w W->AS prog 31 #[AA A2 n2 c2,AA A6 n6 c6] W fun e w'=>e=AW (Ab true)/\AK W w'):=AF (fun W hW=>Z7 A2 A6 n2 c2 n6 c6 q.values W (h2.mono BT hW) (h6.mono BT hW));have H3:AI (∀W,AK w W->AS prog 33 #[AA A3 n3 c3,AA A7 n7 c7] W fun e w'=>e=AW (Ab true)/\AK W w'):=AF (fun W hW=>mE A3 A7 n3 c3 n7 c7 q.claims W (h3.mono Bc hW) (h7.mono Bc hW));have hdg:=TD;have a:=HA.o _ _ k1;have b:=HB.o _ _ k2;have AHJ:=a.Ar;have AHD:=b.Ar;have around:=a.round;have AIj:=b.round;have AHH:=a.schema;have AHC:=b.schema;have AIn:=a.place;have AIk:=b.place;have AHK:=a.fields;have AHE:=b.fields;obtain ⟨fQ,HLB,CW⟩:=BB (AFk.o _ k1) (AFj.o _ k2) hb;clear a b k1 k2 hb hh ht h1 h2 h3 h5 h6 h7 hY hY'
 dsimp only at AHJ AHD around AIj AHH AHC AIn AIk AHK AHE
 go_enter func16,ntmps16;go_upto_region 1 with fail
 dsimp only [List.append]
 go_wp2_with (first
  | (refine Az AJ 34 (AX 32) rfl _ AJ fQ.o ?_)
  | (refine Az AJ 34 (AX 34) rfl _ AJ HLB.o ?_)
  | (go_at_call 31;refine (H1.o _ CW.o).mono ?_;rintro e x1 ⟨rfl,hx⟩;have HX1:=AF hx;have LG:=AF (AV CW.o hx);obtain ⟨k1,k2⟩:=HW.o _ hx;have AHG:=(HA.o _ _ k1).values;have AHB:=(HB.o _ _ k2).values;dsimp only at AHG AHB;clear hx k1 k2 H1)
  | (go_at_call 31;refine (H2.o _ LG.o).mono ?_;rintro e x2 ⟨rfl,hx⟩;have HX2:=AF (AV HX1.o hx);have HS2:=AF (AV LG.o hx);obtain ⟨k1,k2⟩:=HW.o _ HX2.o;have AJ5:=(HA.o _ _ k1).link;have AJ4:=(HB.o _ _ k2).link;dsimp only at AJ5 AJ4;have AHL:=(HA.o _ _ k1).claims;have AHF:=(HB.o _ _ k2).claims;dsimp only at AHL AHF;have LJ:=AF (AHN.o _ k1);have HLU:=AF (AHM.o _ k2);clear hx k1 k2 H2)
  | (go_at_call 33;refine (H3.o _ HS2.o).mono ?_;rintro e x3 ⟨rfl,hx⟩;have HX3:=AF (AV HX2.o hx);have LD:=AF (AV HS2.o hx);obtain ⟨k1,k2⟩:=HW.o _ HX3.o;clear hx k1 k2 H3)
  | (refine Az AJ 34 (AX 60) rfl _ AJ LJ.o ?_)
  | (refine Az AJ 34 (AX 62) rfl _ AJ HLU.o ?_)
  | fail)
 go_ret;exact ⟨rfl,LD.o⟩
attribute [local go_sem] Oper.semAt_some
theorem P8 {α:Type} {sz:Nat} {R:AH->List AN->α->Prop} {w:AH} {l:List α} {g:Nat} {t:Ae} {cs:List AN} (h:AY w g t cs.toArray) (hc:Ap sz R w cs l) (hm:l.length<=maxLen):Ag sz R w (AA (some ⟨g,0,none⟩) l.length l.length) l:=by
 refine ⟨some ⟨g,0,none⟩,l.length,rfl,Ac _,hm,fun i x hi=>⟨g,0,(cs.drop (i*sz)).take sz,rfl,h.lt,?_,?_,hc.2 i x hi⟩⟩
 ·have hil:=(BF.1 hi).1
  exact AAS
 intro j u hu;rcases FL j sz with hj | hj
 ·rw [Jg hj,EO] at hu
  rw [Es,h.cell];simpa using hu
 rw [Dh Ql] at hu;cases hu
theorem Vf {w:AH} {t:Ae} {cs:Array AN} {g:Nat} (h:w.heap.size=g):AY (w.alloc (AO cs t)) g t cs:=by subst h;exact AY.new _ _ _
def AGB:Array AN:=#[AL ⟨#[115,101,108,102]⟩,AB AE 3,AB AE 0,AB AE 4095,AL ⟨#[]⟩,AB AE (-1),AA none 0 0,AB AE 0,AB AE 0,AB AE 0,AB AE 0,AL ⟨#[97]⟩,AB AE 1,AB AE 0,AB AE 9,AL ⟨#[]⟩,AB AE (-1),AA none 0 0,AB AE 0,AB AE 0,AB AE 0,AB AE 0]
def wZ (g1 g3 g4:Nat):Array AN:=#[AA (some ⟨g1,0,none⟩) 1 1,AA none 0 0,AA (some ⟨g3,0,none⟩) 1 1,AA none 0 0,AA none 0 0,AA none 0 0,AA (some ⟨g4,0,none⟩) 1 1]
def WV (g1 g3 g4:Nat) (w:AH):Prop:=∃g2,AY w g1 9 #[AL ⟨#[120]⟩]/\AY w g2 112 AGB/\AY w g3 85 #[AL ⟨#[115]⟩,AL ⟨#[120]⟩,AB AE 0,AB AE 1,AA (some ⟨g2,0,none⟩) 2 2,AA none 0 0]/\AY w g4 3 #[AB AE 0]
theorem WV.below {g1 g3 g4:Nat} {w w':AH} (h:WV g1 g3 g4 w) (hb:AK w w'):WV g1 g3 g4 w':=by obtain ⟨g2,a,b,c,d⟩:=h;exact ⟨g2,a.below hb a.lt,b.below hb b.lt,c.below hb c.lt,d.below hb d.lt⟩
theorem oL (w:AH):AS prog 21 #[] w fun e w'=>∃g1 g3 g4,e=AW (AP (wZ g1 g3 g4))/\WV g1 g3 g4 w'/\AK w w':=by
 go_enter func21,ntmps21;go_wp2_with fail;refine FN (OV rfl _ _ w.heap.size 32 (wZ (w.heap.size+1) (w.heap.size+1+1+1) (w.heap.size+1+1+1+1)) (0,0) _ rfl (((((AY.new _ _ _).alloc _).alloc _).alloc _).alloc _) underlying32 rfl AJ) rfl ?_;refine ⟨w.heap.size+1,w.heap.size+1+1+1,w.heap.size+1+1+1+1,rfl,⟨w.heap.size+1+1,?_,?_,?_,?_⟩,(((BK _ _).alloc AZ _).alloc Bd _ |>.alloc Bd _).alloc Bd _⟩
 · exact (((Vf AZ).alloc _).alloc _).alloc _
 · exact ((Vf AZ).alloc _).alloc _
 · exact (Vf AZ).alloc _
 · exact Vf AZ
def JR (k:Int):AQ:=k::zeros 31
def Hl:List (AQ):=[JR 1,JR 2,JR 3,JR 4]
theorem AB0 {w:AH} {g:Nat} (h:AY w g 34 (Hl.map fun d=>d.map (Value.int .u8)).flatten.toArray):Ag 32 CP w (AA (some ⟨g,0,none⟩) 4 4) Hl:=
 P8 (l:=Hl) h ⟨rfl,fun i x hi=>by
  rcases i with _ | _ | _ | _ | i
  all_goals first
   | (simp only [Hl,Ao,BA,Bz] at hi;subst hi;exact ⟨rfl,rfl⟩)
   | (simp [Hl] at hi)⟩ Ai
theorem s9 (w:AH):AS prog 22 #[] w fun e w'=>∃g,e=AW (AA (some ⟨g,0,none⟩) 4 4)/\Ag 32 CP w' (AA (some ⟨g,0,none⟩) 4 4) Hl/\AK w w':=by go_enter func22,ntmps22;go_wp2;go_ret;exact ⟨_,rfl,AB0 (AY.new _ _ _),(Af _ _).alloc (Ac _) _⟩
theorem ADN {w:AH} {g:Nat} {t:Ae} {r:Br} {d:AQ} (h:AY w g t (rdA r)) (hr:r.root.length=32) (hd:d.length=32):AY (w.setCells g 6 (d.map (Value.int .u8))) g t (rdA {r with root:=d}):=by
 have e:∀q:Br,rdA q=([Value.int .i64 q.Ar,AB AE q.no,AB AE q.schema,AB AE q.day,AB AE q.known,AB AE q.places]++q.root.map (Value.int .u8)).toArray:=fun q=>by simp [rdA,yA]
 rw [e] at h ⊢;have hb:=Rs (d.map (Value.int .u8)) 6 w _ h (by simp [hr,hd]);have e2:∀l:List AN,l.length=32->([Value.int .i64 r.Ar,AB AE r.no,AB AE r.schema,AB AE r.day,AB AE r.known,AB AE r.places]++l).take 6++d.map (Value.int .u8)++([Value.int .i64 r.Ar,AB AE r.no,AB AE r.schema,AB AE r.day,AB AE r.known,AB AE r.places]++l).drop (6+(d.map (Value.int .u8)).length)=[Value.int .i64 r.Ar,AB AE r.no,AB AE r.schema,AB AE r.day,AB AE r.known,AB AE r.places]++d.map (Value.int .u8):=fun l hl=>by rw [FQ (by simp [hl,hd]),FM,List.take_left' DR]
 rw [e2 _ (by simp [hr])] at hb;exact hb
theorem IW {P:BE} {w:AH} {ops:Array Oper} {rest:List Oper} {o:Oper} {a:Act} {Q:Exit->Act->AH->Prop} (hw:Region.wanted o (yielded ops a.tmps)=true) (t:Ae) (parts:Array (Nat×Operand)) (ho:o.op=.build t parts) (cells:Array AN) (hb:P.built t (parts.toList.map fun p=>(p.1,a.eval p.2))=some cells)
 (h:wpList P ops Q rest (a.put o.dst (.agg cells)) w):wpList P ops Q (o::rest) a w:=
 Uu hw fun K hK=>by unfold Oper.wp;rw [Zj hb ho];exact hK _ _ h
theorem loadRow {P:BE} {W:AH} {g:Nat} {ty t:Ae} {cs:Array AN} {ds:TypeDesc} (hg:AY W g t cs) (hu:P.underlying ty=some ds) (hds:(match ds with | .struct _ | .array _ _=>true | _=>false)=true) (hi:(P.info? ty).map (·.size)=some cs.size):(Instr.loadAt ty (AU (some ⟨g,0,none⟩))).run P W=.ok (.agg cs) W:=by simp only [Instr.loadAt,Instr.sureAddr,Cp,DL,Result.andThen_ok,NL W g t ty cs (0,0) ds hg hu hds hi]
theorem AC1 (s:JS) (hh:s.holder.length=32) (ht:s.token.length=32) (v:AN):(Em s).setIfInBounds 36 v=Em {s with fields:=v}:=by
 obtain ⟨i,r,s,p,h,f,u,l,t,k,_,_,_,_⟩:=s
 dsimp only at hh ht
 exact SL
def vsz:AN->Nat
 | .agg z=>z.size+1
 | _=>0
theorem FE {P:BE} {ops:Array Oper} {rest:List Oper} {o1 o2:Oper} {a:Act} {w:AH} {Q:Exit->Act->AH->Prop} (T:Ae) (d y n:Nat) (cells:Array AN) (hcs:cells.size=n) (h1:cells.all (·.oneCell')=true) (hy:(a.put (some d) (AU (some ⟨w.heap.size,0,none⟩))).eval (AX y)=.agg cells)
 (h:wpList P ops Q rest (a.put (some d) (AU (some ⟨w.heap.size,0,none⟩))) (w.alloc (AO cells T))) (hdl:decide (d < a.tmps.size)=true:=by kernel_rfl)
 (hz:((P.info? T).bind (·.zero)).map vsz=some (n+1):=by kernel_rfl) (hs:(P.info? T).map (·.size)=some n:=by kernel_rfl) (hg1:o1.guard=none:=by rfl) (hg2:o2.guard=none:=by rfl) (ho1:o1.op=.alloc T:=by rfl) (hd1:o1.dst=some d:=by rfl) (ho2:o2.op=.store T (AX d) (AX y):=by rfl) (hd2:o2.dst=none:=by rfl):
 wpList P ops Q (o1::o2::rest) a w:=by
 obtain ⟨z,hz1,hz2⟩:=EC.1 hz;cases z with
 |
  agg z=>
  have hzn:z.size=n:=Nat.succ.inj hz2;refine Ek hg1 T ho1 z hz1 ?_;rw [hd1];refine wpList_store_rowTo hg2 T (AX d) (AX y) ho2 hd2 w.heap.size cells ?_ hy T z (World.alloc_heap_new w _) (by rw [hs,hcs]) (by rw [hzn,hcs]) h1 ?_
  ·have hd:=F4 hdl
   simp [Act.eval,Act.put,hd]
  ·rw [World.setRow_alloc_new]
   exact h
 | _=>cases hz2
end Go.Proofs.YtamhoilkpppdbaaGreatDoor
