import Derived.Test.YtpmpddfgifhlbaaGreatDoorM04
namespace Go.Proofs.YtpmpddfgifhlbaaGreatDoor
set_option maxHeartbeats 8000000
set_option maxRecDepth 100000
open Go renaming World→AH, Value→AK, Calls→AS, TypeId→Ae, Addr→Aa
open Go.RowKit renaming Below→BK
open Go.Proofs.Tryz
variable (A1 A2 A3 A4 A5 A6:Option Aa) (n1 c1 n2 c2 n3 c3 n4 c4 n5 c5 n6 c6:Nat)
open Go.Value renaming slice→AA, int→AB, string→AN, pointer→AU, bool→AX, agg→AO, tuple→BS
open Go.IntKind renaming i64→AE
open Go.Ending renaming returned→AV
open Go.Obj renaming cells→AQ
open Go.RowKit
structure NL (w:AH) (sc:Array AK) (v1 v2 v3 v4:AK) (W:AH):Prop where
 old:AJ w W
 bs:AZ W w.heap.size 29 sc
 br:AZ W (w.heap.size+1) 263 #[v1,v2,v3,v4]
section
variable {w:AH} {sc:Array AK} {v1 v2 v3 v4:AK} {W W':AH}
theorem NL.below (h:NL w sc v1 v2 v3 v4 W) (hb:AJ W W'):NL w sc v1 v2 v3 v4 W':=
 ⟨AW h.old hb,h.bs.below hb h.bs.lt,h.br.below hb h.br.lt⟩
theorem NL.AJc (h:NL w sc v1 v2 v3 v4 W) (x:AK):NL w sc x v2 v3 v4 (W.setCell ⟨w.heap.size+1,0,none⟩ x):=⟨h.old.setCell Ac _,h.bs.far Ac _,h.br.put 0 x⟩
theorem NL.AJb (h:NL w sc v1 v2 v3 v4 W) (x:AK):NL w sc v1 x v3 v4 (W.setCell ⟨w.heap.size+1,1,none⟩ x):=⟨h.old.setCell Ac _,h.bs.far Ac _,h.br.put 1 x⟩
theorem NL.AJa (h:NL w sc v1 v2 v3 v4 W) (x:AK):NL w sc v1 v2 x v4 (W.setCell ⟨w.heap.size+1,2,none⟩ x):=⟨h.old.setCell Ac _,h.bs.far Ac _,h.br.put 2 x⟩
theorem NL.AJZ (h:NL w sc v1 v2 v3 v4 W) (x:AK):NL w sc v1 v2 v3 x (W.setCell ⟨w.heap.size+1,3,none⟩ x):=⟨h.old.setCell Ac _,h.bs.far Ac _,h.br.put 3 x⟩
theorem NL.grown {row:Option Nat} (h:NL w sc v1 v2 v3 v4 W) (hg:W.grownBy W' row) (hr:∀r,row=some r->w.heap.size+2<=r):NL w sc v1 v2 v3 v4 W':=
 ⟨h.old.grown hg h.old.size (fun k e=>by have:=hr k e;omega),h.bs.grown hg (fun e=>by have:=hr _ e.symm;omega),h.br.grown hg (fun e=>by have:=hr _ e.symm;omega)⟩
theorem NL.cells {s0 s1 s2 s3 s4 s5:AK} (h:NL w #[s0,s1,s2,s3,s4,s5] v1 v2 v3 v4 W):
 W.cell? ⟨w.heap.size,0,none⟩=some s0/\W.cell? ⟨w.heap.size,1,none⟩=some s1/\W.cell? ⟨w.heap.size,2,none⟩=some s2/\W.cell? ⟨w.heap.size,3,none⟩=some s3/\W.cell? ⟨w.heap.size,4,none⟩=some s4/\W.cell? ⟨w.heap.size,5,none⟩=some s5/\
 W.cell? ⟨w.heap.size+1,0,none⟩=some v1/\W.cell? ⟨w.heap.size+1,1,none⟩=some v2/\W.cell? ⟨w.heap.size+1,2,none⟩=some v3/\W.cell? ⟨w.heap.size+1,3,none⟩=some v4/\
 W.frozen? ⟨w.heap.size+1,0,none⟩=false/\W.frozen? ⟨w.heap.size+1,1,none⟩=false/\W.frozen? ⟨w.heap.size+1,2,none⟩=false/\W.frozen? ⟨w.heap.size+1,3,none⟩=false/\w.heap.size+1 < W.heap.size:=
 ⟨h.bs.cell 0,h.bs.cell 1,h.bs.cell 2,h.bs.cell 3,h.bs.cell 4,h.bs.cell 5,h.br.cell 0,h.br.cell 1,h.br.cell 2,h.br.cell 3,h.br.frozen 0,h.br.frozen 1,h.br.frozen 2,h.br.frozen 3,h.br.lt⟩
theorem AEJ (w:AH) (sc:Array AK):NL w sc (.map none) (.map none) (.map none) (AA none 0 0) ((w.alloc (AQ sc 29)).alloc (AQ #[.map none,.map none,.map none,AA none 0 0] 263)) where
 old:=(BP _ _).alloc Ac _
 bs:=(AZ.new _ _ _).alloc _
 br:=by simpa using AZ.new (w.alloc (AQ sc 29)) 263 _
end
theorem AGT:(prog.info? 260).map (fun i=>(i.zero,i.size,i.bytes))=some (some (.map none),1,8):=by kernel_rfl
theorem aE {W:AH} {base:Nat} {e:Ae} {size:Nat} {v:AK} {n:Nat} {xs:List AK} (h:W.ownsRow base e size v n xs):∃A m c,v=AA A m c:=by
 rcases h.2 with ⟨rfl,_⟩ | ⟨g,cap,cur,rfl,_⟩
 · exact Rz
 · exact Rz
theorem own_below {w w':AH} {base:Nat} {e:Ae} {size:Nat} {v:AK} {n:Nat} {xs:List AK} (h:w.ownsRow base e size v n xs) (hb:AJ w w'):w'.ownsRow base e size v n xs:=
 h.kept (row:=none) ⟨hb.os,hb.tape,hb.output,hb.size,fun k hk _=>hb.block k hk⟩ fK
structure j9 (w:AH) (sc:Array AK) (b1 b2 b3:Nat) (s:BD) (k:Nat) (v:AK) (W:AH):Prop where
 ga:NL w sc (.map (some b1)) (.map (some b2)) (.map (some b3)) v W
 m1:MapAt Hu Gg W b1 (col s.Bl).1
 m2:MapAt Hu Gg W b2 (col (G6 s)).1
 m3:MapAt Hu Gg W b3 (col (CH s)).1
 row:∃cs,W.ownsRow (w.heap.size+2) 260 1 v k cs/\Ao 1 P1 W cs ((s.Ap.take k).map fieldMap)
theorem j9.below {w:AH} {sc:Array AK} {b1 b2 b3:Nat} {s:BD} {k:Nat} {v:AK} {W W':AH} (h:j9 w sc b1 b2 b3 s k v W) (hb:AJ W W'):j9 w sc b1 b2 b3 s k v W':=by obtain ⟨cs,h1,h2⟩:=h.row;exact ⟨h.ga.below hb,h.m1.below hb,h.m2.below hb,h.m3.below hb,cs,own_below h1 hb,h2.mono Xh hb⟩
theorem j9.next {w:AH} {sc:Array AK} {b1 b2 b3:Nat} {s:BD} {k:Nat} {v v':AK} {W W2:AH} (h:j9 w sc b1 b2 b3 s k v W) {x:BI} (hx:s.Ap[k]? =some x) {g:Nat} (hm:MapAt Hu Gg W g (fieldMap x))
 {cs:List AK} (ho:W.ownsRow (w.heap.size+2) 260 1 v k cs) (hc:Ao 1 P1 W cs ((s.Ap.take k).map fieldMap))
 (ho':W2.ownsRow (w.heap.size+2) 260 1 v' (k+1) (cs++[.map (some g)])) (hg:W.grownBy W2 v.ownBlock):j9 w sc b1 b2 b3 s (k+1) v' (W2.setCell ⟨w.heap.size+1,3,none⟩ v'):=by
 have hk1:=CN.own ho hg;have hk:=hk1.trans (CN.put W2 ⟨w.heap.size+1,3,none⟩ v');have hga:=h.ga.grown hg (fun r e=>(ho.lt r e).1);refine ⟨hga.AJZ v',h.m1.keeps hk,h.m2.keeps hk,h.m3.keeps hk,cs++[.map (some g)],Pm ho' (a:=⟨w.heap.size+1,3,none⟩) (fun e=>by have:=ho'.lt _ e;simp at this) _,?_⟩;rw [take_snoc hx,DM];exact (hc.keeps hk).append (Ao.one rfl ⟨g,rfl,hm.keeps hk⟩)
theorem xY (s:BD) (w:AH)
 (h1:BQ 1 16 DV w (AA A1 n1 c1) s.Bl) (h2:BQ 5 56 CK w (AA A2 n2 c2) s.units) (h3:BQ 6 96 BR w (AA A3 n3 c3) s.Ap) (h4:BQ 5 96 CM w (AA A4 n4 c4) s.rules) (h6:BQ 3 48 BT w (AA A6 n6 c6) s.purposes):
 AS prog 142 #[AO #[AA A1 n1 c1,AA A2 n2 c2,AA A3 n3 c3,AA A4 n4 c4,AA A5 n5 c5,AA A6 n6 c6]] w (ACQ s w):=by
 obtain ⟨H1,H2,H3,H4,H6⟩:=EG h1.1 h2.1 h3 h4.1 h6.1;have hn3:n3<=9223372036854775807:=by have:=h3.1.le;omega
 have hn4:n4<=9223372036854775807:=by have:=h4.1.le;omega
 clear h1 h2 h3 h4 h6;go_enter func142,ntmps142;go_wp2_with fail;have hga:=AEJ w #[AA A1 n1 c1,AA A2 n2 c2,AA A3 n3 c3,AA A4 n4 c4,AA A5 n5 c5,AA A6 n6 c6];generalize ((w.alloc (AQ #[AA A1 n1 c1,AA A2 n2 c2,AA A3 n3 c3,AA A4 n4 c4,AA A5 n5 c5,AA A6 n6 c6] 29)).alloc (AQ #[.map none,.map none,.map none,AA none 0 0] 263))=W0 at hga ⊢;have G9:=AF hga;clear hga;refine (iD A1 n1 c1 s.Bl _ (H1.o.mono Ba G9.o.old)).mono ?_;rintro e W1 ⟨b1,rfl,hm1,_,hb1⟩;have hga:=G9.o.below hb1;obtain ⟨k0,k1,k2,k3,k4,k5,r0,r1,r2,r3,f0,f1,f2,f3,lr⟩:=hga.cells;obtain ⟨Tc,LK⟩:=Aj hga hm1;clear hga hm1 hb1 G9;go_wp2_with fail;have hga:=Tc.o.AJc (.map (some b1));have hm1:=LK.o.keeps (CN.put W1 ⟨w.heap.size+1,0,none⟩ (.map (some b1)));generalize W1.setCell ⟨w.heap.size+1,0,none⟩ (.map (some b1))=W2 at hga hm1 ⊢;clear k0 k1 k2 k3 k4 k5 r0 r1 r2 r3 f0 f1 f2 f3 lr Tc LK;refine (dg A2 n2 c2 s.units _ (H2.o.mono Bn hga.old)).mono ?_;rintro e W3 ⟨b2,rfl,hm2,_,hb2⟩;have ADu:=hga.below hb2;obtain ⟨LK,Ls⟩:=Aj (hm1.below hb2) hm2;obtain ⟨k0,k1,k2,k3,k4,k5,r0,r1,r2,r3,f0,f1,f2,f3,lr⟩:=ADu.cells;have Tc:=AF ADu;clear hga ADu hm1 hm2 hb2;obtain ⟨t1,ht1⟩:=BH (DT s.Bl);obtain ⟨t2,ht2⟩:=BH (DT (s.units.map (·.name)));rw [ht1,ht2];obtain ⟨HT1,HT2⟩:=Aj ht1 ht2;clear ht1 ht2;go_upto_region 5 with fail;have hga:=Tc.o.AJb (.map (some b2));have hkp:=CN.put W3 ⟨w.heap.size+1,1,none⟩ (.map (some b2));generalize W3.setCell ⟨w.heap.size+1,1,none⟩ (.map (some b2))=W4 at hga hkp ⊢;replace LK:=AF (LK.o.keeps hkp);replace Ls:=AF (Ls.o.keeps hkp);clear k0 k1 k2 k3 k4 k5 r0 r1 r2 r3 f0 f1 f2 f3 lr Tc hkp;have G9:=AF hga;clear hga;go_cut [3] (fun x3 wx=>x3=AX (t1 || t2)/\W4=wx)
 case first=>
  cases t1
  all_goals
   go_wp2
   go_meet
   exact Rx
 case rest=>
 obtain ⟨rfl,rfl⟩:=hcut;obtain ⟨k0,k1,k2,k3,k4,k5,r0,r1,r2,r3,f0,f1,f2,f3,lr⟩:=G9.o.cells;go_wp2_with fail;refine (ZL A3 n3 c3 s.Ap _ (H3.o.1.mono BM G9.o.old)).mono ?_;rintro e W5 ⟨b3,rfl,EI,_,hb3⟩;have hga:=G9.o.below hb3;replace LK:=AF (LK.o.below hb3);replace Ls:=AF (Ls.o.below hb3);have G8:=AF EI;clear k0 k1 k2 k3 k4 k5 r0 r1 r2 r3 f0 f1 f2 f3 lr EI hb3 G9;obtain ⟨k0,k1,k2,k3,k4,k5,r0,r1,r2,r3,f0,f1,f2,f3,lr⟩:=hga.cells;have Tc:=AF hga;clear hga;obtain ⟨t3,ht3⟩:=BH (DT (s.Ap.map (·.name)));rw [ht3];have HT3:=AF ht3;clear ht3;go_upto_region 7 with fail;have hga:=Tc.o.AJa (.map (some b3));have hkp:=CN.put W5 ⟨w.heap.size+1,2,none⟩ (.map (some b3));generalize W5.setCell ⟨w.heap.size+1,2,none⟩ (.map (some b3))=W6 at hga hkp ⊢;replace LK:=AF (LK.o.keeps hkp);replace Ls:=AF (Ls.o.keeps hkp);replace G8:=AF (G8.o.keeps hkp);clear k0 k1 k2 k3 k4 k5 r0 r1 r2 r3 f0 f1 f2 f3 lr Tc hkp;have G9:=AF hga;clear hga;obtain ⟨t12,ADc⟩:=BH ((t1 || t2));rw [ADc];have AIQ:=AF ADc;clear ADc;go_cut [3] (fun x3 wx=>x3=AX (t12 || t3)/\W6=wx)
 case first=>
  cases t12
  all_goals
   go_wp2
   go_meet
   exact Rx
 case rest=>
 obtain ⟨rfl,rfl⟩:=hcut;obtain ⟨k0,k1,k2,k3,k4,k5,r0,r1,r2,r3,f0,f1,f2,f3,lr⟩:=G9.o.cells;go_wp2_with fail;refine (X3 A6 n6 c6 s.purposes _ (H6.o.mono BN G9.o.old)).mono ?_;rintro e W7 ⟨b4,rfl,_,_,hb4⟩;have hga:=G9.o.below hb4;replace LK:=AF (LK.o.below hb4);replace Ls:=AF (Ls.o.below hb4);replace G8:=AF (G8.o.below hb4);clear k0 k1 k2 k3 k4 k5 r0 r1 r2 r3 f0 f1 f2 f3 lr hb4 G9;obtain ⟨k0,k1,k2,k3,k4,k5,r0,r1,r2,r3,f0,f1,f2,f3,lr⟩:=hga.cells;have G9:=AF hga;clear hga;obtain ⟨t4,ht4⟩:=BH (DT (s.purposes.map (·.name)));obtain ⟨ACc,wZ⟩:=BH ((t12 || t3));rw [ht4,wZ];obtain ⟨HT4,AFm⟩:=Aj ht4 wZ;clear ht4 wZ;go_upto_region 9 with fail;go_cut [3] (fun x3 wx=>x3=AX (ACc || t4)/\W7=wx)
 case first=>
  cases ACc
  all_goals
   go_wp2
   go_meet
   exact Rx
 case rest=>
 obtain ⟨rfl,rfl⟩:=hcut;obtain ⟨t0,ht0⟩:=BH ((ACc || t4));rw [ht0];have HT0:AI ((DT s.Bl || DT (G6 s) || DT (CH s) || DT (Oj s))=t0):=by show _=_;rw [HT1.o,show DT (G6 s)=t2 from HT2.o,show DT (CH s)=t3 from HT3.o,show DT (Oj s)=t4 from HT4.o,AIQ.o,AFm.o,ht0]
 clear ht0 HT1 HT2 HT3 HT4 AIQ AFm;go_wp2_with fail;clear k0 k1 k2 k3 k4 k5 r0 r1 r2 r3 f0 f1 f2 f3 lr;have HL0:AI (j9 w #[AA A1 n1 c1,AA A2 n2 c2,AA A3 n3 c3,AA A4 n4 c4,AA A5 n5 c5,AA A6 n6 c6] b1 b2 b3 s 0 (AA none 0 0) W7):=⟨G9.o,LK.o,Ls.o,G8.o,[],ED _ _ _ _,Ao.nil⟩;clear G9 LK Ls G8;have hlen3:=H3.o.1.len;have AM9:n3*96<=140737488355328:=by rw [hlen3];exact H3.o.2
 have jz:=AF hlen3;clear hlen3;obtain ⟨i0,hi,hz0,hz1,hz2⟩:=JF AGT;go_loopg [3,63] n3 (fun g t i wr=>∃(k:Nat) (v:AK),k<=n3/\g=n3 - k/\i=AB AE k/\t=AX (t0 || (s.Ap.take k).any (fun x=>DT (fieldNames x)))/\j9 w #[AA A1 n1 c1,AA A2 n2 c2,AA A3 n3 c3,AA A4 n4 c4,AA A5 n5 c5,AA A6 n6 c6] b1 b2 b3 s k v wr)
 case atStart=>exact ⟨0,_,Ar _,rfl,rfl,by simp,HL0.o⟩
 clear HL0;obtain ⟨k,v,hk,hg,rfl,rfl,hL⟩:=hrel;obtain ⟨HG,HL⟩:=Aj hg hL;clear hg hL;obtain ⟨tk,htk⟩:∃t,(t0 || (s.Ap.take k).any (fun x=>DT (fieldNames x)))=t:=⟨_,rfl⟩;rw [htk];have Mp:=AF htk;clear htk;by_cases hlt:k < n3
 ·obtain ⟨xb,off,x,y1,m1,d1,y2,m2,d2,rfl,hxb,hx,e0,e1,e2,e3,e4,e5,hf,_⟩:=Fz (H3.o.1.mono BM HL.o.ga.old) hlt
  obtain ⟨HX,HF⟩:=Aj hx hf.1;clear hx hf;go_wp2_with fail;have hba:AJ wr (wr.alloc (AQ #[AN x.name,AN x.Hh,AB AE x.Au,AB AE x.version,AA y1 m1 d1,AA y2 m2 d2] 79)):=(Af _ _).alloc (Ad _) _;generalize (wr.alloc (AQ #[AN x.name,AN x.Hh,AB AE x.Au,AB AE x.version,AA y1 m1 d1,AA y2 m2 d2] 79))=wz at hba ⊢;clear e0 e1 e2 e3 e4 e5 hxb;refine (aq y1 m1 d1 x.fields _ (HF.o.mono DJ hba)).mono ?_;rintro e W8 ⟨g,rfl,hmg,_,hb8⟩;have hL8:=(HL.o.below hba).below hb8;clear hba hb8 HL;obtain ⟨tf,htf⟩:=BH (DT (x.fields.map (·.name)));rw [htf];have uw:AI (DT (fieldNames x)=tf):=htf;clear htf;have Zq:=AF hmg;clear hmg;obtain ⟨cs,ho,hc⟩:=hL8.row;obtain ⟨vA,vn,vc,rfl⟩:=aE ho;obtain ⟨k0,k1,k2,k3,k4,k5,r0,r1,r2,r3,f0,f1,f2,f3,lr⟩:=hL8.ga.cells;obtain ⟨HO,HC,VF⟩:=Az ho hc hL8;clear ho hc hL8;cases tk
  all_goals
   go_wp2_with (at_builtin;refine wpList_append_own_at _ rfl (.tmp 77) (.tmp 79) 261 rfl (w.heap.size+2) 260 i0 (.map none) 1 8 underlying261 hi hz0 hz1 hz2 rfl BE (AA vA vn vc) k cs rfl (HO.o.alloc _) ⟨W8.heap.size,0,none⟩ 1 1 [.map (some g)] rfl rfl (cell_one_new _ _ _) Og Gj AG (by have:=VF.o.ga.br.lt;simp;omega) ?_;intro v' W9 hown' hgrow hnil hat;obtain ⟨vA',vn',MQ,rfl⟩:=aE hown';have ce:=((VF.o.ga.below (BP _ _)).grown hgrow (fun r e=>(HO.o.lt r e).1)).br.cell 3;have fe:=((VF.o.ga.below (BP _ _)).grown hgrow (fun r e=>(HO.o.lt r e).1)).br.frozen 3;simp only [Ai,An,Aw] at ce;have HO9:=AF hown';have HG9:=AF hgrow;clear hown' hgrow hnil hat);go_roundg (n3 - (k+1))
   case measure=>exact Ec
   refine ⟨k+1,_,by omega,rfl,by go_num,?_,(VF.o.below (BP _ _)).next HX.o (Zq.o.below (BP _ _)) (HO.o.alloc _) (HC.o.mono Xh (BP _ _)) HO9.o HG9.o⟩;rw [take_snoc HX.o,List.any_append,<-Bool.or_assoc,Mp.o];simp [uw.o]
 have hke:k=s.Ap.length:=by have:=jz.o;omega
 have eB:AI ((DT s.Bl || DT (G6 s) || DT (CH s) || DT (Oj s) || s.Ap.any (fun x=>DT (fieldNames x)))=tk):=by have:=Mp.o;rw [hke,Pc] at this;show _=_;rw [HT0.o];exact this
 obtain ⟨k0,k1,k2,k3,k4,k5,r0,r1,r2,r3,f0,f1,f2,f3,lr⟩:=HL.o.ga.cells;have Zt:=AF hke;clear hke HT0 Mp HG;obtain ⟨w8,rfl⟩:=Ab (wr:AH);go_wp2_with fail;clear k0 k1 k2 k3 k4 k5 r0 r1 r2 r3 f0 f1 f2 f3 lr hlt hk hi hz0 hz1 hz2;have qj:=AF H4.o.len;go_loopg [3,91] n4 (fun g t i wr=>∃k:Nat,k<=n4/\g=n4 - k/\i=AB AE k/\t=AX (tk || (s.rules.take k).any (fun x=>DT (TL x)))/\AJ w8 wr)
 case atStart=>exact ⟨0,Ar _,rfl,rfl,by simp,Af _ _⟩
 obtain ⟨j,hj,hg,rfl,rfl,hb⟩:=hrel;obtain ⟨HG,HB⟩:=Aj hg hb;clear hg hb;obtain ⟨tj,htj⟩:∃t,(tk || (s.rules.take j).any (fun x=>DT (TL x)))=t:=⟨_,rfl⟩;rw [htj];have HTJ:=AF htj;clear htj;by_cases hlt:j < n4
 ·obtain ⟨xb,off,x,y1,m1,d1,y2,m2,d2,y3,m3,d3,rfl,hxb,hx,e0,e1,e2,e3,e4,hf,_,_⟩:=Pw (H4.o.mono Bh (HL.o.ga.below HB.o).old) hlt
  obtain ⟨HX,HF⟩:=Aj hx hf.1;clear hx hf;go_wp2_with fail;have hba:AJ wr (wr.alloc (AQ #[AN x.head,AB AE x.schema,AA y1 m1 d1,AA y2 m2 d2,AA y3 m3 d3] 151)):=(Af _ _).alloc (Ad _) _;generalize (wr.alloc (AQ #[AN x.head,AB AE x.schema,AA y1 m1 d1,AA y2 m2 d2,AA y3 m3 d3] 151))=wz at hba ⊢;clear e0 e1 e2 e3 e4 hxb;refine (dh y1 m1 d1 x.froms _ (HF.o.mono FL hba)).mono ?_;rintro e W8 ⟨g,rfl, -, -,hb8⟩;have Je:=AF ((AW HB.o hba).trans (hb8.mono (BF HB.o.size hba.size)));clear hba hb8;obtain ⟨tf,htf⟩:=BH (DT (x.froms.map (·.name)));rw [htf];have uw:AI (DT (TL x)=tf):=htf;clear htf;cases tj
  all_goals
   go_wp2;go_roundg (n4 - (j+1))
   case measure=>exact Ec
   refine ⟨j+1,by omega,rfl,by go_num,?_,Je.o⟩;rw [take_snoc HX.o,List.any_append,<-Bool.or_assoc,HTJ.o];simp [uw.o]
 have HTE:AI (NY s=tj):=by have h1:=HTJ.o;rw [Cy (by have:=qj.o;omega)] at h1;show _=_;unfold NY;rw [eB.o];exact h1
 go_wp2;go_ret2;have hL:=HL.o.below HB.o;obtain ⟨cs,ho,hc⟩:=hL.row;obtain ⟨vA,vn,vc,rfl⟩:=aE ho;refine ⟨w.heap.size+1,by rw [HTE.o];rfl,⟨b1,b2,b3,vA,vn,vc,hL.ga.br,hL.m1,hL.m2,hL.m3,?_⟩,by omega,hL.ga.old⟩;rw [Zt.o,Pc] at hc;exact CP ho hc (by rw [Zt.o];simp)
def Iy:BD:=⟨[],[],[],[],[],[]⟩
def Pz (
 s:BD):Option BD:=
 match R7 (G6 s) s.units with
 | none=>none
 |
  some us=>match Fv (fun _=>Fp s) s.Ap with
  | none=>none
  |
   some ss=>match Fv (fun _=>Gb s) s.rules with
   | none=>none
   |
    some rs=>match Fv (fun _=>Ep s) s.converts with
    | none=>none
    |
     some cs=>match Fv (fun _=>Gn s) s.purposes with
     | none=>none
     | some ps=>some {s with units:=us,Ap:=ss,rules:=rs,converts:=cs,purposes:=ps}
def Gm (s:BD):Int×BD:=
 if NY s=true then (111,Iy)
 else match Pz s with
  | none=>(110,Iy)
  | some x=>(0,x)
def V2 (s:BD) (w:AH) (e:Ending) (w':AH):Prop:=
 ∃cs:List AK,e=AV (BS #[.agg cs.toArray,AB AE (Gm s).1])/\aB w' cs (Gm s).2/\AJ w w'
def Row {α:Type} (lo M L U:Nat) (T:Ae) (sz:Nat) (R:AH->List AK->α->Prop) (v:AK) (l:List α) (wr:AH):Prop:=
 ∃cs,wr.ownsRow L T sz v l.length cs/\(∀r,v.ownBlock=some r->r < U)/\Ao sz R (mask lo M wr) cs l
section
variable {α:Type} {lo M L U:Nat} {T:Ae} {sz:Nat} {R:AH->List AK->α->Prop} {v:AK} {l:List α} {wr w':AH}
theorem Row.kept (h:Row lo M L U T sz R v l wr) (hR:Ea R) {G:Nat} (hg:wr.grownBy w' (some G)) (hlo:lo<=G) (Gp:G < M) (hne:G < L\/U<=G):Row lo M L U T sz R v l w':=by obtain ⟨cs,h1,h2,h3⟩:=h;refine ⟨cs,h1.kept hg (.inr (fun e=> ?_)),h2,h3.mono hR (Cv hg hlo Gp)⟩;have:=h1.lt _ e;have:=h2 _ e;omega
theorem Row.below (h:Row lo M L U T sz R v l wr) (hR:Ea R) (hb:AJ wr w'):Row lo M L U T sz R v l w':=by obtain ⟨cs,h1,h2,h3⟩:=h;exact ⟨cs,Co h1 hb,h2,h3.mono hR (ZW hb)⟩
theorem Row.sl (h:Row lo M L U T sz R v l wr) (hR:Nk R):Ag sz R wr v l:=by obtain ⟨cs,h1,h2,h3⟩:=h;exact CP h1 (h3.Hz hR) rfl
theorem Row.form (h:Row lo M L U T sz R v l wr):∃A c,v=AA A l.length c:=by obtain ⟨cs,h1,h2,h3⟩:=h;obtain ⟨A,m,c,rfl,rfl⟩:=GK h1;exact ⟨A,c,rfl⟩
theorem Row.at (h:Row lo M L U T sz R v l wr) {i:Nat} {x:α} (hi:l[i]? =some x):∃G cap cs,v=AA (some ⟨G,0,none⟩) l.length cap/\L<=G/\G < U/\wr.ownsRow L T sz (AA (some ⟨G,0,none⟩) l.length cap) l.length cs/\R (mask lo M wr) (chunk cs sz i) x/\i < l.length/\l.length<=9223372036854775807/\
 ∀(y:α) (w':AH),wr.grownBy w' (some G)->lo<=G->G < M->Ea R->(∃cs',w'.ownsRow L T sz (AA (some ⟨G,0,none⟩) l.length cap) l.length cs'/\(∀j,j≠i->chunk cs' sz j=chunk cs sz j)/\R (mask lo M w') (chunk cs' sz i) y)->Row lo M L U T sz R v (l.set i y) w':=by
 obtain ⟨cs,h1,h2,h3⟩:=h;have hil:=(BA.1 hi).1;rcases JR h1 with ⟨rfl,h0⟩ | ⟨G,cap,rfl,hG,Uy,hn⟩
 · omega
 refine ⟨G,cap,cs,rfl,hG,h2 G rfl,h1,h3.chunk hi,hil,hn,fun y w' hg hlo Gp hR ⟨cs',h4,h5,h6⟩=>⟨cs',by rw [D8];exact h4,h2,?_⟩⟩;have h7:=h3.mono hR (Cv hg hlo Gp);refine ⟨by rw [D8];exact h4.1,fun j z hz=> ?_⟩;rw [RX] at hz;by_cases e:i=j
 ·subst e
  rw [Am rfl,Am hil,Bq] at hz;subst hz;exact h6
 rw [Ah e] at hz;show R _ (chunk cs' sz j) z;rw [h5 j (fun e'=>e e'.symm)];exact h7.2 j z hz
end
structure St (w0:AH) (lo M R B D L2 L3 L4 L5 L6:Nat) (s:BD) (v1 v2 v3 v4 v5 v6:AK) (e0:Int) (us:List Bk) (ss:List BI) (rs:List Ck) (cs:List C4) (ps:List Cj) (wr:AH):Prop where
 old:AJ w0 wr
 size:M<=wr.heap.size
 res:Jk (mask lo M wr) R s
 b0:wr.cell? ⟨B,0,none⟩=some v1
 b1:wr.cell? ⟨B,1,none⟩=some v2
 b2:wr.cell? ⟨B,2,none⟩=some v3
 b3:wr.cell? ⟨B,3,none⟩=some v4
 b4:wr.cell? ⟨B,4,none⟩=some v5
 b5:wr.cell? ⟨B,5,none⟩=some v6
 bz:∀j,wr.frozen? ⟨B,j,none⟩=false
 d0:wr.cell? ⟨D,0,none⟩=some (AB AE e0)
 dz:wr.frozen? ⟨D,0,none⟩=false
 r1:Row lo M lo L2 9 1 DV v1 s.Bl wr
 r2:Row lo M L2 L3 193 5 CK v2 us wr
 r3:Row lo M L3 L4 79 6 BR v3 ss wr
 r4:Row lo M L4 L5 151 5 CM v4 rs wr
 r5:Row lo M L5 L6 154 5 By v5 cs wr
 r6:Row lo M L6 M 157 3 BT v6 ps wr
structure Fall (w0:AH) (B D:Nat) (v1 v2 v3 v4 v5 v6:AK) (e0:Int) (wr:AH):Prop where
 old:AJ w0 wr
 hB:B < wr.heap.size
 hD:D < wr.heap.size
 b0:wr.cell? ⟨B,0,none⟩=some v1
 b1:wr.cell? ⟨B,1,none⟩=some v2
 b2:wr.cell? ⟨B,2,none⟩=some v3
 b3:wr.cell? ⟨B,3,none⟩=some v4
 b4:wr.cell? ⟨B,4,none⟩=some v5
 b5:wr.cell? ⟨B,5,none⟩=some v6
 bz:∀j,wr.frozen? ⟨B,j,none⟩=false
 d0:wr.cell? ⟨D,0,none⟩=some (AB AE e0)
 dz:wr.frozen? ⟨D,0,none⟩=false
section
variable {w0:AH} {lo M R B D L2 L3 L4 L5 L6:Nat} {s:BD} {v1 v2 v3 v4 v5 v6:AK} {e0:Int} {us:List Bk} {ss:List BI} {rs:List Ck} {cs:List C4} {ps:List Cj} {wr w':AH}
theorem St.turn (h:St w0 lo M R B D L2 L3 L4 L5 L6 s v1 v2 v3 v4 v5 v6 e0 us ss rs cs ps wr) {G:Nat} (hg:wr.grownBy w' (some G)) (hlo:lo<=G) (Gp:G < M) (hw0:w0.heap.size<=lo) (hB:B < lo) (hD:D < lo)
 {us':List Bk} {ss':List BI} {rs':List Ck} {cs':List C4} {ps':List Cj}
 (k2:(us'=us/\(G < L2\/L3<=G))\/Row lo M L2 L3 193 5 CK v2 us' w') (k3:(ss'=ss/\(G < L3\/L4<=G))\/Row lo M L3 L4 79 6 BR v3 ss' w') (k4:(rs'=rs/\(G < L4\/L5<=G))\/Row lo M L4 L5 151 5 CM v4 rs' w')
 (k5:(cs'=cs/\(G < L5\/L6<=G))\/Row lo M L5 L6 154 5 By v5 cs' w') (k6:(ps'=ps/\(G < L6\/M<=G))\/Row lo M L6 M 157 3 BT v6 ps' w') (k1:L2<=G):St w0 lo M R B D L2 L3 L4 L5 L6 s v1 v2 v3 v4 v5 v6 e0 us' ss' rs' cs' ps' w':=by
 have hb:BK lo wr w':=⟨hg.os,hg.tape,hg.output,hg.size,fun k hk=>hg.block k (by have:=h.size;omega) (fun e=>by injection e;omega)⟩;refine ⟨h.old.trans (hb.mono hw0),BF h.size hg.size,h.res.below (Cv hg hlo Gp),(hb.cell hB).trans h.b0,(hb.cell hB).trans h.b1,(hb.cell hB).trans h.b2,(hb.cell hB).trans h.b3,(hb.cell hB).trans h.b4,(hb.cell hB).trans h.b5,fun j=>(hb.frozen (p:=⟨B,j,none⟩) hB).trans (h.bz j),(hb.cell hD).trans h.d0,(hb.frozen hD).trans h.dz,h.r1.kept Ba hg hlo Gp (.inr k1),?_,?_,?_,?_,?_⟩
 ·rcases k2 with ⟨rfl,k⟩ | k
  · exact h.r2.kept Bn hg hlo Gp k
  · exact k
 ·rcases k3 with ⟨rfl,k⟩ | k
  · exact h.r3.kept BM hg hlo Gp k
  · exact k
 ·rcases k4 with ⟨rfl,k⟩ | k
  · exact h.r4.kept Bh hg hlo Gp k
  · exact k
 ·rcases k5 with ⟨rfl,k⟩ | k
  · exact h.r5.kept Bo hg hlo Gp k
  · exact k
 rcases k6 with ⟨rfl,k⟩ | k
 · exact h.r6.kept BN hg hlo Gp k
 · exact k
theorem St.below (h:St w0 lo M R B D L2 L3 L4 L5 L6 s v1 v2 v3 v4 v5 v6 e0 us ss rs cs ps wr) (hb:AJ wr w') (hw0:w0.heap.size<=lo) (dR:lo<=M) (hB:B < lo) (hD:D < lo):St w0 lo M R B D L2 L3 L4 L5 L6 s v1 v2 v3 v4 v5 v6 e0 us ss rs cs ps w':=by
 have hM:=h.size;have hB':B < wr.heap.size:=AG
 have hD':D < wr.heap.size:=AG
 exact ⟨h.old.trans (hb.mono AG),BF h.size hb.size,h.res.below (ZW hb),(hb.cell (p:=⟨B,0,none⟩) hB').trans h.b0,(hb.cell (p:=⟨B,1,none⟩) hB').trans h.b1,(hb.cell (p:=⟨B,2,none⟩) hB').trans h.b2,(hb.cell (p:=⟨B,3,none⟩) hB').trans h.b3,(hb.cell (p:=⟨B,4,none⟩) hB').trans h.b4,(hb.cell (p:=⟨B,5,none⟩) hB').trans h.b5,fun j=>(hb.frozen (p:=⟨B,j,none⟩) hB').trans (h.bz j),(hb.cell (p:=⟨D,0,none⟩) hD').trans h.d0,(hb.frozen (p:=⟨D,0,none⟩) hD').trans h.dz,h.r1.below Ba hb,h.r2.below Bn hb,h.r3.below BM hb,h.r4.below Bh hb,h.r5.below Bo hb,h.r6.below BN hb⟩
theorem St.fall (h:St w0 lo M R B D L2 L3 L4 L5 L6 s v1 v2 v3 v4 v5 v6 e0 us ss rs cs ps wr) {row:Option Nat} (hg:wr.grownBy w' row) (hr:∀r,row=some r->lo<=r) (hw0:w0.heap.size<=lo) (dR:lo<=M) (hB:B < lo) (hD:D < lo):Fall w0 B D v1 v2 v3 v4 v5 v6 e0 w':=by have hM:=h.size;have hb:BK lo wr w':=⟨hg.os,hg.tape,hg.output,hg.size,fun k hk=>hg.block k AG (fun e=>by have:=hr k e.symm;omega)⟩;have hs:=hg.size;exact ⟨h.old.trans (hb.mono hw0),by omega,by omega,(hb.cell hB).trans h.b0,(hb.cell hB).trans h.b1,(hb.cell hB).trans h.b2,(hb.cell hB).trans h.b3,(hb.cell hB).trans h.b4,(hb.cell hB).trans h.b5,fun j=>(hb.frozen (p:=⟨B,j,none⟩) hB).trans (h.bz j),(hb.cell hD).trans h.d0,(hb.frozen hD).trans h.dz⟩
end
theorem catch_idle (p q:Aa) (w:AH):
 CallsD prog 143 #[AU (some p),AU (some q)] .returning w fun e u' w'=>e=AV (BS #[])/\u'=.returning/\w'=w:=by
 refine OE func143 rfl fun c₀ cs hu=> ?_;apply wpS_seq;apply N8;simp [wpOpsS,go_sem,recoverD,hu,ntmps143,Exit.thenS];refine N7 ?_;change Code.wp _ _ _ {tmps:=#[AU (some p),AU (some q),.nilIface,undef,undef,.nilIface,undef,undef,undef,undef,undef,undef,undef,undef,undef,undef,undef],defers:=[]} w;go_wp2_with fail;cases c₀;simp_all [bodyPostS,results,results143]
theorem lY (B D:Nat) (v0 v1 v2 v3 v4 v5:AK) (e0:Int) (w:AH) (h0:w.cell? ⟨B,0,none⟩=some v0) (h1:w.cell? ⟨B,1,none⟩=some v1) (h2:w.cell? ⟨B,2,none⟩=some v2) (h3:w.cell? ⟨B,3,none⟩=some v3) (h4:w.cell? ⟨B,4,none⟩=some v4) (h5:w.cell? ⟨B,5,none⟩=some v5)
 (hz:∀j,w.frozen? ⟨B,j,none⟩=false) (hd:w.cell? ⟨D,0,none⟩=some (AB AE e0)) (hdz:w.frozen? ⟨D,0,none⟩=false) (hB:B < w.heap.size) (hD:D < w.heap.size) (hBD:B≠D):
 CallsD prog 143 #[AU (some ⟨B,0,none⟩),AU (some ⟨D,0,none⟩)] (.panicking Bm) w fun e u' w'=>
  e=AV (BS #[])/\u'=.panicking [{v:=.iface 249 (AO #[]),recovered:=true}]/\(w'.cell? ⟨B,0,none⟩=some (AA none 0 0)/\w'.cell? ⟨B,1,none⟩=some (AA none 0 0)/\w'.cell? ⟨B,2,none⟩=some (AA none 0 0)/\w'.cell? ⟨B,3,none⟩=some (AA none 0 0)/\w'.cell? ⟨B,4,none⟩=some (AA none 0 0)/\w'.cell? ⟨B,5,none⟩=some (AA none 0 0)/\w'.cell? ⟨D,0,none⟩=some (AB AE 110))/\
  ∀base,base<=B->base<=D->BK base w w':=by
 unfold Bm;have hDB:D≠B:=Ne.symm hBD;have hta:∀w:AH,(Instr.typeAssert (.iface 249 (AO #[])) 20 249 true).run prog w=.ok (BS #[AO #[],AX true]) w:=fun w=>by simp [Instr.typeAssert,run_underlying underlying249,go_sem,Result.andThen]
 have z0:=hz 0;have z1:=hz 1;have z2:=hz 2;have z3:=hz 3;have z4:=hz 4;have z5:=hz 5;clear hz;refine OE func143 rfl fun c₀ cs hu=> ?_;apply wpS_seq;apply N8;simp [wpOpsS,go_sem,recoverD,hu,ntmps143,Exit.thenS];refine N7 ?_;change Code.wp _ _ _ {tmps:=#[AU (some ⟨B,0,none⟩),AU (some ⟨D,0,none⟩),.iface 249 (AO #[]),undef,undef,.iface 249 (AO #[]),undef,undef,undef,undef,undef,undef,undef,undef,undef,undef,undef],defers:=[]} w;go_wp2_with fail;refine ⟨rfl,.panicking [{v:=.iface 249 (AO #[]),recovered:=true}],rfl,BS #[],by simp [results,results143],rfl,rfl,?_,fun base hb1 hb2=> ?_⟩
 · simp [go_sem, *]
 · exact (((((((((Af _ _).setCell Rj _).setCell Rj _).setCell Rj _).setCell Rj _).setCell Rj _).setCell Rj _).setCell (by exact hb2) _)).alloc (by simp [World.setCell];omega) _
theorem qB {w:AH} {t:Ae} {cs:Array AK} {g:Nat} (h:w.heap.size=g):AZ (w.alloc (AQ cs t)) g t cs:=by subst h;exact AZ.new _ _ _
theorem JY {w:AH} {b o:Nat} {v:AK} (h:w.cell? ⟨b,o,none⟩=some v):w.setCell ⟨b,o,none⟩ v=w:=by
 have e:(
  w.setCell ⟨b,o,none⟩ v).heap=w.heap:=by
  unfold World.setCell;simp only;apply RY;intro k;rw [sR];by_cases hk:b=k
  ·subst hk
   rw [Am rfl];cases hb:w.heap[b]? with
   | none=>rfl
   |
    some x=>
    cases x with
    |
     cells c elem frozen=>
     simp only [Cu,Hr,If,Hn,Bq];have hc:c[o]? =some v:=by simpa [World.cell?,hb] using h
     congr 1;apply RY;intro q;rw [Rh];by_cases hq:o=q
     ·subst hq
      rw [Am rfl,hc,Am (Cz.1 hc).1]
     · rw [Ah hq]
    | _=>rfl
  · rw [Ah hk]
 show ({w with heap:=(w.setCell ⟨b,o,none⟩ v).heap}:AH)=w;rw [e]
theorem ZV (w:AH):aB w [AA none 0 0,AA none 0 0,AA none 0 0,AA none 0 0,AA none 0 0,AA none 0 0] Iy:=
 ⟨none,0,0,none,0,0,none,0,0,none,0,0,none,0,0,none,0,0,rfl,⟨Ag.nil _ _ (Ar _),by simp [Iy]⟩,⟨Ag.nil _ _ (Ar _),by simp [Iy]⟩,⟨Ag.nil _ _ (Ar _),by simp [Iy]⟩,⟨Ag.nil _ _ (Ar _),by simp [Iy]⟩,⟨Ag.nil _ _ (Ar _),by simp [Iy]⟩,⟨Ag.nil _ _ (Ar _),by simp [Iy]⟩⟩
theorem oO {lo M B j:Nat} {w:AH} {v:AK} (hB:B < lo):(mask lo M w).setCell ⟨B,j,none⟩ v=mask lo M (w.setCell ⟨B,j,none⟩ v):=by
 unfold mask World.setCell;simp only;congr 1;apply RY;intro k;simp only [sR,Rf];by_cases e:B=k
 ·subst e
  rw [Am rfl,Am rfl,Option.map_map,Option.map_map];congr 1;funext o;simp only [Function.comp];rw [Ah AG,Ah AG]
 · rw [Ah e,Ah e]
theorem Jk.put {w:AH} {R B j:Nat} {s:BD} {t:Ae} {cs:Array AK} (h:Jk w R s) (k:AZ w B t cs) (hs:∀(i:Nat) b,cs[i]? ≠some (Value.map b)) (hne:R≠B) (v:AK):Jk (w.setCell ⟨B,j,none⟩ v) R s:=by
 obtain ⟨b1,b2,b3,A,n,c,h0,h1,h2,h3,h4⟩:=h;refine ⟨b1,b2,b3,A,n,c,h0.far hne _,h1.keeps (.put _ _ _),h2.keeps (.put _ _ _),h3.keeps (.put _ _ _),?_⟩;obtain ⟨A',cap,e,g1,g2,g3⟩:=h4;refine ⟨A',cap,e,g1,g2,fun i x hi=> ?_⟩;obtain ⟨b,off,cl,rfl,hlt,hl,hc,g,rfl,hm⟩:=g3 i x hi;have hbB:b≠B:=fun e=>by subst e;have:=hc 0 _ rfl;rw [k.cell] at this;exact hs _ _ this
 refine ⟨b,off,_,rfl,by simpa [World.setCell] using hlt,hl,fun q u hu=> ?_,g,rfl,hm.keeps (.put _ _ _)⟩;rw [Ys _ _ _ _ (fun e=>by injection e with e1;exact hbB e1.symm)];exact hc q u hu
theorem Ur (a1 a2 a3 a4 a5 a6:Option Aa) (n1 n2 n3 n4 n5 n6 c1 c2 c3 c4 c5 c6:Nat):∀(i:Nat) b,(#[AA a1 n1 c1,AA a2 n2 c2,AA a3 n3 c3,AA a4 n4 c4,AA a5 n5 c5,AA a6 n6 c6]:Array AK)[i]? ≠some (Value.map b):=by intro i b;rcases i with _ | _ | _ | _ | _ | _ | i <;> simp
theorem Pv {lo M:Nat} {w:AH} {R B j:Nat} {s:BD} {t:Ae} {cs:Array AK} (h:Jk (mask lo M w) R s) (k:AZ w B t cs) (hs:∀(i:Nat) b,cs[i]? ≠some (Value.map b)) (hB:B < lo) (hne:R≠B) (v:AK):Jk (mask lo M (w.setCell ⟨B,j,none⟩ v)) R s:=by rw [<-oO hB];exact h.put (show AZ (mask lo M w) B t cs from (G7 (.inl hB)).trans k) hs hne v
theorem XL {wg w':AH} {g:Nat} {t:Ae} {v1 v2 v3 v4 v5 v6:AK} (k:AZ wg g t #[v1,v2,v3,v4,v5,v6]) (hb:BK (g+1) wg w'):w'.cell? ⟨g,0,none⟩=some v1/\w'.cell? ⟨g,1,none⟩=some v2/\w'.cell? ⟨g,2,none⟩=some v3/\w'.cell? ⟨g,3,none⟩=some v4/\w'.cell? ⟨g,4,none⟩=some v5/\w'.cell? ⟨g,5,none⟩=some v6/\BK (g+1) wg w':=by have k':=k.below hb AG;exact ⟨k'.cell 0,k'.cell 1,k'.cell 2,k'.cell 3,k'.cell 4,k'.cell 5,hb⟩
theorem fq {wg wc wx:AH} {g:Nat} (h:BK (g+1) wg wc) (hs:g+1<=wg.heap.size) (hb:AJ wc wx):BK (g+1) wg wx:=h.trans (hb.mono (BF hs h.size))
theorem Uk {α:Type} {sz bytes:Nat} {R:AH->List AK->α->Prop} {w wg wc:AH} {v:AK} {l:List α} (h:BQ sz bytes R w v l) (ho:AJ w wg) (hb:BK (w.heap.size+1) wg wc):BQ sz bytes (fun _=>R w) wc v l:=⟨h.1.fix (ho.trans (hb.mono (Ed _))),h.2⟩
theorem mkRow {α:Type} {lo M L U:Nat} {T:Ae} {sz:Nat} {R:AH->List AK->α->Prop} {v:AK} {l:List α} {w wx wk w7:AH} {cs:List AK} (hR:Ea R) (hc:Ao sz (fun _=>R w) wx cs l) (ho:wk.ownsRow L T sz v l.length cs) (hU:wk.heap.size<=U) (h7:w7.ownsRow L T sz v l.length cs) (hold:AJ w w7) (hlo:w.heap.size<=lo):Row lo M L U T sz R v l w7:=
 ⟨cs,h7,fun r e=>Ay (ho.lt r e).2 hU,Ao.mono hR (Ve w hold hlo) ⟨hc.1,hc.2⟩⟩
theorem gM {wk w6:AH} {L:Nat} {T:Ae} {sz n:Nat} {v:AK} {cs:List AK} {B:Nat} (ho:wk.ownsRow L T sz v n cs) (hb:AJ wk w6) (hB:B < L) (u0 u1 u2 u3 u4 u5:AK):
 ((((((w6.setCell ⟨B,0,none⟩ u0).setCell ⟨B,1,none⟩ u1).setCell ⟨B,2,none⟩ u2).setCell ⟨B,3,none⟩ u3).setCell ⟨B,4,none⟩ u4).setCell ⟨B,5,none⟩ u5).ownsRow L T sz v n cs:=
 Gz (Gz (Gz (Gz (Gz (Gz (Co ho hb) hB _) hB _) hB _) hB _) hB _) hB _
theorem Qb {tmps:Array AK} {w wr:AH} {B D:Nat} {s:BD} {v1 v2 v3 v4 v5 v6:AK} {e0:Int} (h:Fall w B D v1 v2 v3 v4 v5 v6 e0 wr) (hBw:w.heap.size<=B) (hDw:w.heap.size<=D) (hBD:B≠D)
 (hP:Gm s=(110,Iy))
 (hr:∀w'':AH,w''.cell? ⟨B,0,none⟩=some (AA none 0 0)->w''.cell? ⟨B,1,none⟩=some (AA none 0 0)->w''.cell? ⟨B,2,none⟩=some (AA none 0 0)->w''.cell? ⟨B,3,none⟩=some (AA none 0 0)->w''.cell? ⟨B,4,none⟩=some (AA none 0 0)->w''.cell? ⟨B,5,none⟩=some (AA none 0 0)->w''.cell? ⟨D,0,none⟩=some (AB AE 110)->
  (results f93 tmps).run prog w''=.ok (BS #[AO #[AA none 0 0,AA none 0 0,AA none 0 0,AA none 0 0,AA none 0 0,AA none 0 0],AB AE 110]) w''):
 Leaves prog f93 tmps (V2 s w) [{target:=.fn (.func 143) #[AU (some ⟨B,0,none⟩),AU (some ⟨D,0,none⟩)],args:=#[]}] (.panicking Bm) wr:=by
 refine OB (f:=143) (args:=#[AU (some ⟨B,0,none⟩),AU (some ⟨D,0,none⟩)]) Ac MO ?_;refine (lY B D v1 v2 v3 v4 v5 v6 e0 wr h.b0 h.b1 h.b2 h.b3 h.b4 h.b5 h.bz h.d0 h.dz h.hB h.hD hBD).mono ?_;rintro e u' w'' ⟨rfl,rfl,⟨k0,k1,k2,k3,k4,k5,k6⟩,hb⟩;exact ⟨_,hr w'' k0 k1 k2 k3 k4 k5 k6,[AA none 0 0,AA none 0 0,AA none 0 0,AA none 0 0,AA none 0 0,AA none 0 0],by rw [hP],by rw [hP];exact ZV _,h.old.trans (hb _ hBw hDw)⟩
theorem rP (s:BD) (w:AH)
 (h1:BQ 1 16 DV w (AA A1 n1 c1) s.Bl) (h2:BQ 5 56 CK w (AA A2 n2 c2) s.units) (h3:BQ 6 96 BR w (AA A3 n3 c3) s.Ap) (h4:BQ 5 96 CM w (AA A4 n4 c4) s.rules) (h5:BQ 5 72 By w (AA A5 n5 c5) s.converts) (h6:BQ 3 48 BT w (AA A6 n6 c6) s.purposes):
 AS prog 93 #[AO #[AA A1 n1 c1,AA A2 n2 c2,AA A3 n3 c3,AA A4 n4 c4,AA A5 n5 c5,AA A6 n6 c6]] w (V2 s w):=by
 obtain ⟨H1,H2,H3,H4,H5,H6⟩:=FR h1 h2 h3 h4 h5 h6;clear h1 h2 h3 h4 h5 h6;have hmf:∀(fn:Fn) (first cap:Array AK) (w:AH),(Instr.makeFunc fn first cap).run prog w=.ok (.func fn first cap) w:=fun _ _ _ _=>rfl
 go_enter_defers func93,ntmps93
 go_wp2_with fail;obtain ⟨wb,hwb⟩:=Ab (((w.alloc (AQ #[AA A1 n1 c1,AA A2 n2 c2,AA A3 n3 c3,AA A4 n4 c4,AA A5 n5 c5,AA A6 n6 c6] 29)).alloc (AQ #[AA none 0 0,AA none 0 0,AA none 0 0,AA none 0 0,AA none 0 0,AA none 0 0] 29)).alloc (AQ #[AB AE 0] 50));rw [<-hwb];have aM:wb.heap.size=w.heap.size+3:=by rw [hwb];simp
 have hbb:AJ w wb:=by rw [hwb];exact vQ
 have kS:AZ wb w.heap.size 29 #[AA A1 n1 c1,AA A2 n2 c2,AA A3 n3 c3,AA A4 n4 c4,AA A5 n5 c5,AA A6 n6 c6]:=by rw [hwb];exact bI
 have kB:AZ wb (w.heap.size+1) 29 #[AA none 0 0,AA none 0 0,AA none 0 0,AA none 0 0,AA none 0 0,AA none 0 0]:=by rw [hwb];exact (qB Ac).alloc _
 have kD:AZ wb (w.heap.size+1+1) 50 #[AB AE 0]:=by rw [hwb];exact qB Ac
 clear hwb;refine (xY A1 A2 A3 A4 A5 A6 n1 c1 n2 c2 n3 c3 n4 c4 n5 c5 n6 c6 s wb (H1.o.mono Ba hbb) (H2.o.mono Bn hbb) (H3.o.mono BM hbb) (H4.o.mono Bh hbb) (H6.o.mono BN hbb)).mono ?_;rintro e wg ⟨R,rfl,hres,hR,hbg⟩;have kS':=kS.below hbg AG;have TG:=kB.below hbg AG;have kD':=kD.below hbg AG;have AMo:w.heap.size+3<=wg.heap.size:=by rw [<-aM];exact hbg.size
 have hRg:w.heap.size+3<=R:=by rw [<-aM];exact hR
 have hold:AJ w wg:=hbb.trans (hbg.mono AG);obtain ⟨Gs,HOLD,LR,HKB,HKD⟩:=EG hres hold kS' TG kD';clear hres hR hbg kS kB kD aM hbb hold;have c0:=TG.cell 0;have c1':=TG.cell 1;have c2':=TG.cell 2;have c3':=TG.cell 3;have c4':=TG.cell 4;have c5':=TG.cell 5;have d0:=kD'.cell 0;simp only [Ai,An,Aw] at c0 c1' c2' c3' c4' c5' d0;have z0:=TG.frozen 0;have z1:=TG.frozen 1;have z2:=TG.frozen 2;have z3:=TG.frozen 3;have z4:=TG.frozen 4;have z5:=TG.frozen 5;have zd:=kD'.frozen 0;clear kS' TG kD';cases htw:NY s with
 |
  true=>
  have HP:AI (Gm s=(111,Iy)):=AF (by unfold Gm;rw [Am htw]);clear htw;go_wp2_with fail;refine ⟨BS #[AO #[AA none 0 0,AA none 0 0,AA none 0 0,AA none 0 0,AA none 0 0,AA none 0 0],AB AE 111],?_,[AA none 0 0,AA none 0 0,AA none 0 0,AA none 0 0,AA none 0 0,AA none 0 0],by rw [HP.o],by rw [HP.o];exact ZV _,?_⟩
  · simp [results,results93,go_sem, *]
  · exact (((((((HOLD.o.setCell Ac _).setCell Ac _).setCell Ac _).setCell Ac _).setCell Ac _).setCell Ac _).setCell BX _)
 |
  false=>
  have Si:=AF htw;clear htw;have hgs:w.heap.size+1<=wg.heap.size:=AG
  clear c0 c1' c2' c3' c4' c5' d0 z0 z1 z2 z3 z4 z5 zd;go_upto_region 5 with fail
  go_region_held3 (fun w'=>w'.cell? ⟨w.heap.size,0,none⟩=some (AA A1 n1 c1)/\w'.cell? ⟨w.heap.size,1,none⟩=some (AA A2 n2 c2)/\w'.cell? ⟨w.heap.size,2,none⟩=some (AA A3 n3 c3)/\w'.cell? ⟨w.heap.size,3,none⟩=some (AA A4 n4 c4)/\w'.cell? ⟨w.heap.size,4,none⟩=some (AA A5 n5 c5)/\w'.cell? ⟨w.heap.size,5,none⟩=some (AA A6 n6 c6)/\BK (w.heap.size+1) wg w')
   (first
    | with_reducible assumption
    | exact XL LR.o ((((((hS6.2.2.2.2.2.2.setCell (Ad _) _).setCell (Ad _) _).setCell (Ad _) _).setCell (Ad _) _).setCell (Ad _) _).setCell (Ad _) _)
    | exact XL LR.o (Af _ _).drew)
   (first
    | (go_at_call 144;refine (xy (R:=fun _=>DV w) (fun _=>ACj w) A1 n1 c1 _ _ (Uk H1.o HOLD.o Ll)).mono ?_;rintro e w1 ⟨v1,cs1,rfl,hcs1,ho1,hb1⟩;obtain ⟨B1,m1,d1,rfl,hm1⟩:=GK ho1;have Hl:=AF ho1;have Kl:=AF hcs1;have VE:=AF hm1;have hS1:=XL LR.o (fq Ll hgs hb1);clear ho1 hcs1 hm1)
    | (go_at_call 145;refine (r9 (R:=fun _=>CK w) (fun _=>wA w) A2 n2 c2 _ _ (Uk H2.o HOLD.o Ll)).mono ?_;rintro e w2 ⟨v2,cs2,rfl,hcs2,ho2,hb2⟩;obtain ⟨B2,m2,d2,rfl,hm2⟩:=GK ho2;have KU:=AF ho2;have HC2:=AF hcs2;have Zo:=AF hm2;have hS2:=XL LR.o (fq Ll hgs hb2);clear ho2 hcs2 hm2 hS1)
    | (go_at_call 146;refine (lQ (R:=fun _=>BR w) (fun _=>oD w) A3 n3 c3 _ _ (Uk H3.o HOLD.o Ll)).mono ?_;rintro e w3 ⟨v3,X0,rfl,hcs3,ho3,hb3⟩;obtain ⟨B3,m3,d3,rfl,EI⟩:=GK ho3;have JD:=AF ho3;have Wj:=AF hcs3;have LJ:=AF EI;have hS3:=XL LR.o (fq Ll hgs hb3);clear ho3 hcs3 EI hS2)
    | (go_at_call 147;refine (sB (R:=fun _=>CM w) (fun _=>wD w) A4 n4 c4 _ _ (Uk H4.o HOLD.o Ll)).mono ?_;rintro e w4 ⟨v4,da,rfl,AHr,SZ,hb4⟩;obtain ⟨B4,m4,d4,rfl,hm4⟩:=GK SZ;have Qq:=AF SZ;have PR:=AF AHr;have HN4:=AF hm4;have hS4:=XL LR.o (fq Ll hgs hb4);clear SZ AHr hm4 hS3)
    | (go_at_call 148;refine (iH (R:=fun _=>By w) (fun _=>kf w) A5 n5 c5 _ _ (Uk H5.o HOLD.o Ll)).mono ?_;rintro e w5 ⟨v5,Ng,rfl,AHq,GN,hb5⟩;obtain ⟨B5,m5,d5,rfl,hm5⟩:=GK GN;have YL:=AF GN;have vK:=AF AHq;have Wb:=AF hm5;have hS5:=XL LR.o (fq Ll hgs hb5);clear GN AHq hm5 hS4)
    | (
     go_at_call 149;refine (iG (R:=fun _=>BT w) (fun _=>kX w) A6 n6 c6 _ _ (Uk H6.o HOLD.o Ll)).mono ?_;rintro e w6 ⟨v6,cs6,rfl,AHp,Q5,hb6⟩;obtain ⟨B6,m6,d6,rfl,hm6⟩:=GK Q5;obtain ⟨Qp,j7,HN6⟩:=Az Q5 AHp hm6;have hS6:=XL LR.o (fq Ll hgs hb6);clear Q5 AHp hm6 hS5;have hall:AJ wg w6:=((((((Af _ _).drew).trans hb1).trans (hb2.mono hb1.size)).trans (hb3.mono (BF hb1.size hb2.size))).trans (hb4.mono (BF (BF hb1.size hb2.size) hb3.size))).trans (hb5.mono (BF (BF (BF hb1.size hb2.size) hb3.size) hb4.size)) |>.trans (hb6.mono (BF (BF (BF (BF hb1.size hb2.size) hb3.size) hb4.size) hb5.size));have TF:=HKB.o.below hall AG;have x0:=TF.cell 0;have x1:=TF.cell 1;have x2:=TF.cell 2;have x3:=TF.cell 3;have x4:=TF.cell 4;have x5:=TF.cell 5;simp only [Ai,An,Aw] at x0 x1 x2 x3 x4 x5;have y0:=TF.frozen 0;have y1:=TF.frozen 1;have y2:=TF.frozen 2;have y3:=TF.frozen 3;have y4:=TF.frozen 4;have y5:=TF.frozen 5;obtain ⟨EL,AIl⟩:=Aj hall TF;clear TF hall))
  have AHH:((((((w6.setCell ⟨w.heap.size+1,0,none⟩ (AA B1 m1 d1)).setCell ⟨w.heap.size+1,1,none⟩ (AA B2 m2 d2)).setCell ⟨w.heap.size+1,2,none⟩ (AA B3 m3 d3)).setCell ⟨w.heap.size+1,3,none⟩ (AA B4 m4 d4)).setCell ⟨w.heap.size+1,4,none⟩ (AA B5 m5 d5)).setCell ⟨w.heap.size+1,5,none⟩ (AA B6 m6 d6)).heap.size=w6.heap.size:=by simp [World.setCell]
  have TH:AJ w ((((((w6.setCell ⟨w.heap.size+1,0,none⟩ (AA B1 m1 d1)).setCell ⟨w.heap.size+1,1,none⟩ (AA B2 m2 d2)).setCell ⟨w.heap.size+1,2,none⟩ (AA B3 m3 d3)).setCell ⟨w.heap.size+1,3,none⟩ (AA B4 m4 d4)).setCell ⟨w.heap.size+1,4,none⟩ (AA B5 m5 d5)).setCell ⟨w.heap.size+1,5,none⟩ (AA B6 m6 d6)):=
   ((((((HOLD.o.trans (hS6.2.2.2.2.2.2.mono (Ed _))).setCell (Ed _) _).setCell (Ed _) _).setCell (Ed _) _).setCell (Ed _) _).setCell (Ed _) _).setCell (Ed _) _
  have hk0:=AIl.o;have hk1:=hk0.put 0 (AA B1 m1 d1);have hk2:=hk1.put 1 (AA B2 m2 d2);have hk3:=hk2.put 2 (AA B3 m3 d3);have hk4:=hk3.put 3 (AA B4 m4 d4);have hk5:=hk4.put 4 (AA B5 m5 d5);have hk6:=hk5.put 5 (AA B6 m6 d6);simp only [Ju,Bp,B9] at hk1 hk2 hk3 hk4 hk5 hk6;have hd7:=(((((((HKD.o.below EL.o AG).far (p:=⟨w.heap.size+1,0,none⟩) Ac (AA B1 m1 d1)).far (p:=⟨w.heap.size+1,1,none⟩) Ac (AA B2 m2 d2)).far (p:=⟨w.heap.size+1,2,none⟩) Ac (AA B3 m3 d3)).far (p:=⟨w.heap.size+1,3,none⟩) Ac (AA B4 m4 d4)).far (p:=⟨w.heap.size+1,4,none⟩) Ac (AA B5 m5 d5)).far (p:=⟨w.heap.size+1,5,none⟩) Ac (AA B6 m6 d6));have hr0:Jk (mask wg.heap.size w6.heap.size w6) R s:=Gs.o.below (Ve wg EL.o (Ad _));have hBl:w.heap.size+1 < wg.heap.size:=AG
  have pO:R≠w.heap.size+1:=AG
  have ANB:R < wg.heap.size:=by obtain ⟨_,_,_,_,_,_,hk,_⟩:=Gs.o;exact hk.lt
  have hr1:=Pv (j:=0) hr0 hk0 (Ur _ _ _ _ _ _ _ _ _ _ _ _ _ _ _ _ _ _) hBl pO (AA B1 m1 d1);have hr2:=Pv (j:=1) hr1 hk1 (Ur _ _ _ _ _ _ _ _ _ _ _ _ _ _ _ _ _ _) hBl pO (AA B2 m2 d2);have hr3:=Pv (j:=2) hr2 hk2 (Ur _ _ _ _ _ _ _ _ _ _ _ _ _ _ _ _ _ _) hBl pO (AA B3 m3 d3);have hr4:=Pv (j:=3) hr3 hk3 (Ur _ _ _ _ _ _ _ _ _ _ _ _ _ _ _ _ _ _) hBl pO (AA B4 m4 d4);have hr5:=Pv (j:=4) hr4 hk4 (Ur _ _ _ _ _ _ _ _ _ _ _ _ _ _ _ _ _ _) hBl pO (AA B5 m5 d5);have hr6:=Pv (j:=5) hr5 hk5 (Ur _ _ _ _ _ _ _ _ _ _ _ _ _ _ _ _ _ _) hBl pO (AA B6 m6 d6);have l1:wg.heap.size<=w1.heap.size:=hb1.size;have l2:=hb2.size;have l3:=hb3.size;have l4:=hb4.size;have l5:=hb5.size;have l6:=hb6.size;have b56:AJ w5 w6:=hb6;have b46:AJ w4 w6:=hb5.trans (b56.mono l5);have b36:AJ w3 w6:=hb4.trans (b46.mono l4);have b26:AJ w2 w6:=hb3.trans (b36.mono l3);have b16:AJ w1 w6:=hb2.trans (b26.mono l2);have hwl:w.heap.size<=wg.heap.size:=AG
  have hst:St w wg.heap.size w6.heap.size R (w.heap.size+1) (w.heap.size+1+1) w1.heap.size w2.heap.size w3.heap.size w4.heap.size w5.heap.size s (AA B1 m1 d1) (AA B2 m2 d2) (AA B3 m3 d3) (AA B4 m4 d4) (AA B5 m5 d5) (AA B6 m6 d6) 0 s.units s.Ap s.rules s.converts s.purposes _:=
   ⟨TH,Nat.le_of_eq AHH.symm,hr6,hk6.cell 0,hk6.cell 1,hk6.cell 2,hk6.cell 3,hk6.cell 4,hk6.cell 5,hk6.frozen,hd7.cell 0,hd7.frozen 0,
    mkRow Ba Kl.o Hl.o (Ad _) (gM Hl.o b16 BX _ _ _ _ _ _) TH hwl,
    mkRow Bn HC2.o KU.o (Ad _) (gM KU.o b26 AG _ _ _ _ _ _) TH hwl,
    mkRow BM Wj.o JD.o (Ad _) (gM JD.o b36 AG _ _ _ _ _ _) TH hwl,
    mkRow Bh PR.o Qq.o (Ad _) (gM Qq.o b46 AG _ _ _ _ _ _) TH hwl,
    mkRow Bo vK.o YL.o (Ad _) (gM YL.o b56 AG _ _ _ _ _ _) TH hwl,
    mkRow BN j7.o Qp.o (Ad _) (gM Qp.o (Af _ _) AG _ _ _ _ _ _) TH hwl⟩
  generalize (((((w6.setCell ⟨w.heap.size+1,0,none⟩ (AA B1 m1 d1)).setCell ⟨w.heap.size+1,1,none⟩ (AA B2 m2 d2)).setCell ⟨w.heap.size+1,2,none⟩ (AA B3 m3 d3)).setCell ⟨w.heap.size+1,3,none⟩ (AA B4 m4 d4)).setCell ⟨w.heap.size+1,4,none⟩ (AA B5 m5 d5)).setCell ⟨w.heap.size+1,5,none⟩ (AA B6 m6 d6)=w7 at hst ⊢;have HST:=AF hst;clear hst AHH TH hk0 hk1 hk2 hk3 hk4 hk5 hk6 hd7 hr0 hr1 hr2 hr3 hr4 hr5 hr6 pO b56 b46 b36 b26 b16 hb1 hb2 hb3 hb4 hb5 hb6 hS6 x0 x1 x2 x3 x4 x5 y0 y1 y2 y3 y4 y5 Hl KU JD Qq YL Qp Kl HC2 Wj PR vK j7 EL AIl LR HKB HKD Gs HOLD;have hNP:Pz s=none->Gm s=(110,Iy):=fun e=>by unfold Gm;rw [Ah (by rw [Si.o];simp),e]
  have qg:=AF hNP;clear hNP;have k1:=HST.o.b1;go_wp2_with fail;obtain ⟨b1',b2',b3',TN,fl,TM,Hv,AHa,gX,pB,Kd⟩:=HST.o.res.Hz;have hc1:=Hv.cell 1;have hlR:=Hv.lt;simp only [Ai,An,Aw] at hc1;obtain ⟨cu,hou,hbu,hcu⟩:=HST.o.r2;refine (dC R b2' w1.heap.size s.units.length (AA B2 m2 d2) s.units cu (G6 s) w7 hc1 hlR gX AG hou ⟨hcu.1,hcu.2⟩ rfl).mono ?_;rintro e wu ⟨hgu,Q0⟩;have hDl:w.heap.size+1+1 < wg.heap.size:=AG
  have dR:wg.heap.size<=w6.heap.size:=AG
  cases hup:R7 (G6 s) s.units with
  |
   none=>
   rw [hup] at Q0;subst Q0;obtain ⟨HF,Cl⟩:=Aj (HST.o.fall hgu (fun r e=>by have:=hou.lt r e;omega) hwl dR hBl hDl) (qg.o (by unfold Pz;rw [hup]));clear hup hgu hou hbu hcu Hv AHa gX pB Kd hc1 k1
   go_wp2
   refine Qb HF.o AG AG AG Cl.o (fun w'' _ _ _ _ _ _ _=> ?_);simp [results,results93,go_sem, *]
  |
   some us=>
   rw [hup] at Q0;obtain ⟨rfl,cu',AHR,ADz⟩:=Q0;have dP:us.length=s.units.length:=Tl (Ad _) hup;have hst:St w wg.heap.size w6.heap.size R (w.heap.size+1) (w.heap.size+1+1) w1.heap.size w2.heap.size w3.heap.size w4.heap.size w5.heap.size s (AA B1 m1 d1) (AA B2 m2 d2) (AA B3 m3 d3) (AA B4 m4 d4) (AA B5 m5 d5) (AA B6 m6 d6) 0 us s.Ap s.rules s.converts s.purposes wu:=by
    rcases JR hou with ⟨hv,h0⟩ | ⟨G,gc,hv,hG,_⟩
    ·have hu0:us=s.units:=by rw [JO (dP.trans h0),JO h0]
     rw [hu0];rw [hv] at hgu;exact HST.o.below ⟨hgu.os,hgu.tape,hgu.output,hgu.size,fun k hk=>hgu.block k hk NS⟩ hwl dR hBl hDl
    have hGU:=hbu G (by rw [hv];rfl);rw [hv] at hgu;refine HST.o.turn (G:=G) hgu AG AG hwl hBl hDl (.inr ⟨cu',?_,hbu,⟨ADz.1,ADz.2⟩⟩) (.inl ⟨rfl,by omega⟩) (.inl ⟨rfl,by omega⟩) (.inl ⟨rfl,by omega⟩) (.inl ⟨rfl,by omega⟩) hG;rw [dP];exact AHR
   obtain ⟨Ki,WV⟩:=Aj hst hup;have k2:=hst.b2;have eA:=AF dP;clear hst hup hgu hou hbu hcu AHR ADz dP Hv AHa gX pB Kd hc1 k1 hlR HST;go_wp2_with fail;clear k2;go_loopg [44] m3 (fun q j wr=>∃(k0:Nat) (SN:List BI),k0<=m3/\q=m3 - k0/\j=AB AE k0/\EN (fun _=>Fp s) s.Ap k0=some SN/\St w wg.heap.size w6.heap.size R (w.heap.size+1) (w.heap.size+1+1) w1.heap.size w2.heap.size w3.heap.size w4.heap.size w5.heap.size s (AA B1 m1 d1) (AA B2 m2 d2) (AA B3 m3 d3) (AA B4 m4 d4) (AA B5 m5 d5) (AA B6 m6 d6) 0 us (SN++s.Ap.drop k0) s.rules s.converts s.purposes wr)
   case atStart=>exact ⟨0,[],Ar _,rfl,rfl,rfl,Ki.o⟩
   clear Ki;obtain ⟨k0,SN,hk0,hq0,rfl,AHF,hst⟩:=hrel;obtain ⟨PW,iO⟩:=Aj hq0 AHF;clear hq0 AHF;by_cases hlt0:k0 < m3
   ·obtain ⟨m,hm⟩:∃m,s.Ap[k0]? =some m:=⟨s.Ap[k0]' fB,BJ _⟩
    have hlen:=Cq fB iO.o;have hat:(SN++s.Ap.drop k0)[k0]? =some m:=by rw [Cf AG,EC,hlen];simpa using hm
    have I8:=hst.below ((Af _ _).drew) hwl dR hBl hDl;obtain ⟨G,gc,cg,hv,hLG,hGU,hog,hrg,hil,hnn,hmk⟩:=I8.r3.at hat;injection hv with hv1 hv2 hv3;subst hv1 hv3;have hn2:m3<=9223372036854775807:=AG
    have kb:=hst.b2;have hkn:(k0:Int) < (m3:Int):=AG
    have hk0:(0:Int)<=(k0:Int):=AG
    have KJ:Fp s m=none->Pz s=none:=fun hh=>by unfold Pz;rw [WV.o];simp only;rw [En (k:=k0+1) fB (FJ iO.o hm hh)]
    have Sc:∀x,Fp s m=some x->EN (fun _=>Fp s) s.Ap (k0+1)=some (SN++[x]):=fun x hx=>Fc iO.o hm hx;have hset:∀x,(SN++s.Ap.drop k0).set k0 x=(SN++[x])++s.Ap.drop (k0+1):=fun x=>set_drop hlen hm
    obtain ⟨b1',b2',b3',TN,fl,TM,Hv,_,_,_,Kd⟩:=I8.res;have AD8:k0 < fl:=by have:=Kd.len;rw [this,CX];exact (BA.1 hm).1
    have AHk:fl<=9223372036854775807:=by have:=Kd.le;omega
    obtain ⟨fb,pV,fm,fg,rfl,hfb,hfm,hfc,MI⟩:=Ut Kd AD8;have hfx:fm=fieldMap m:=by rw [Be,hm,Cu,Bq] at hfm;exact hfm.symm
    subst hfx;have AFh:=oP Hv Ac;have s3:wr.cell? ⟨R,3,none⟩=_:=AFh.cell 3;simp only [Ai,An,Aw] at s3;have s4:wr.cell? ⟨fb,pV+k0,none⟩=some (.map (some fg)):=Xg hfc;have AM3:(k0:Int) < (fl:Int):=AG
    obtain ⟨HN,Lr,Nm,NE,az,bA⟩:=FR (aF R wg.heap.size w6.heap.size w2.heap.size G _ _ k0 fg cg s m wr.drew I8.res AG AG I8.size MI hog hil hrg) I8 hmk KJ Sc hset;clear hst I8 hmk KJ Sc hset hog hrg hat hm hlen hv2 hnn hil Hv AFh Kd hfm hfc MI;go_wp2_with fail
    go_still_tail 12,AL
    change wpList _ _ _ _ _ wr.drew;go_wp2_with fail;refine HN.o.mono ?_;rintro e w' ⟨hg',hr⟩;clear HN;cases htp:Fp s m with
    |
     none=>
     rw [htp] at hr;subst hr;obtain ⟨HF,Cl⟩:=Aj (Lr.o.fall hg' (fun r e=>by injection e;omega) hwl dR hBl hDl) (qg.o (NE.o htp));clear htp hg' kb s3 s4
     go_wp2
     refine Qb HF.o AG AG AG Cl.o (fun w'' _ _ _ _ _ _ _=> ?_);simp [results,results93,go_sem, *]
    |
     some x=>
     rw [htp] at hr;obtain ⟨rfl,hro⟩:=hr;have hrow:=Nm.o x w' hg' AG AG BM hro;rw [bA.o] at hrow;obtain ⟨Sk,HY⟩:=Aj (Lr.o.turn hg' AG AG hwl hBl hDl (.inl ⟨rfl,by omega⟩) (.inr hrow) (.inl ⟨rfl,by omega⟩) (.inl ⟨rfl,by omega⟩) (.inl ⟨rfl,by omega⟩) AG) (az.o x htp);clear htp hg' kb hro hrow s3 s4;go_wp2;go_roundg (m3 - (k0+1))
     case measure=>have:=PW.o;omega
     case rel=>exact ⟨k0+1,SN++[x],by omega,rfl,by go_num,HY.o,Sk.o⟩
   have xE:k0=s.Ap.length:=by have:=LJ.o;omega
   have HD0:AI (Fv (fun _=>Fp s) s.Ap=some SN):=AF (by unfold Fv;rw [<-xE];exact iO.o);have HL0:=AF (show SN.length=s.Ap.length by rw [Cq AG iO.o,xE]);rw [xE,Js,EU] at hst;obtain ⟨ss,AHQ⟩:=Ab SN;rw [<-AHQ] at hst HD0 HL0;clear AHQ iO PW xE;have kb:=hst.b3;have HS2:=AF hst;clear hst;go_wp2_with fail;clear kb;go_loopg [64] m4 (fun q j wr=>∃(k1:Nat) (out1:List Ck),k1<=m4/\q=m4 - k1/\j=AB AE k1/\EN (fun _=>Gb s) s.rules k1=some out1/\St w wg.heap.size w6.heap.size R (w.heap.size+1) (w.heap.size+1+1) w1.heap.size w2.heap.size w3.heap.size w4.heap.size w5.heap.size s (AA B1 m1 d1) (AA B2 m2 d2) (AA B3 m3 d3) (AA B4 m4 d4) (AA B5 m5 d5) (AA B6 m6 d6) 0 us ss (out1++s.rules.drop k1) s.converts s.purposes wr)
   case atStart=>exact ⟨0,[],Ar _,rfl,rfl,rfl,HS2.o⟩
   clear HS2;obtain ⟨k1,out1,hk1,hq1,rfl,AHE,hst⟩:=hrel;obtain ⟨eG,iN⟩:=Aj hq1 AHE;clear hq1 AHE;by_cases hlt1:k1 < m4
   ·obtain ⟨m,hm⟩:∃m,s.rules[k1]? =some m:=⟨s.rules[k1]' ew,BJ _⟩
    have hlen:=Cq ew iN.o;have hat:(out1++s.rules.drop k1)[k1]? =some m:=by rw [Cf AG,EC,hlen];simpa using hm
    have I8:=hst;obtain ⟨G,gc,cg,hv,hLG,hGU,hog,hrg,hil,hnn,hmk⟩:=I8.r4.at hat;injection hv with hv1 hv2 hv3;subst hv1 hv3;have hn2:m4<=9223372036854775807:=AG
    have kb:=hst.b3;have hkn:(k1:Int) < (m4:Int):=AG
    have hk0:(0:Int)<=(k1:Int):=AG
    have KJ:Gb s m=none->Pz s=none:=fun hh=>by unfold Pz;rw [WV.o];simp only;rw [HD0.o];simp only;rw [En (k:=k1+1) ew (FJ iN.o hm hh)]
    have Sc:∀x,Gb s m=some x->EN (fun _=>Gb s) s.rules (k1+1)=some (out1++[x]):=fun x hx=>Fc iN.o hm hx;have hset:∀x,(out1++s.rules.drop k1).set k1 x=(out1++[x])++s.rules.drop (k1+1):=fun x=>set_drop hlen hm
    obtain ⟨HN,Lr,Nm,NE,az,bA⟩:=FR (gO R wg.heap.size w6.heap.size w3.heap.size G _ _ k1 cg s m wr I8.res AG AG I8.size hog hil hrg) I8 hmk KJ Sc hset;clear hst I8 hmk KJ Sc hset hog hrg hat hm hlen hv2 hnn hil;go_wp2_with fail;refine HN.o.mono ?_;rintro e w' ⟨hg',hr⟩;clear HN;cases htp:Gb s m with
    |
     none=>
     rw [htp] at hr;subst hr;obtain ⟨HF,Cl⟩:=Aj (Lr.o.fall hg' (fun r e=>by injection e;omega) hwl dR hBl hDl) (qg.o (NE.o htp));clear htp hg' kb
     go_wp2
     refine Qb HF.o AG AG AG Cl.o (fun w'' _ _ _ _ _ _ _=> ?_);simp [results,results93,go_sem, *]
    |
     some x=>
     rw [htp] at hr;obtain ⟨rfl,hro⟩:=hr;have hrow:=Nm.o x w' hg' AG AG Bh hro;rw [bA.o] at hrow;obtain ⟨Sk,HY⟩:=Aj (Lr.o.turn hg' AG AG hwl hBl hDl (.inl ⟨rfl,by omega⟩) (.inl ⟨rfl,by omega⟩) (.inr hrow) (.inl ⟨rfl,by omega⟩) (.inl ⟨rfl,by omega⟩) AG) (az.o x htp);clear htp hg' kb hro hrow;go_wp2;go_roundg (m4 - (k1+1))
     case measure=>have:=eG.o;omega
     case rel=>exact ⟨k1+1,out1++[x],by omega,rfl,by go_num,HY.o,Sk.o⟩
   have xD:k1=s.rules.length:=by have:=HN4.o;omega
   have HD1:AI (Fv (fun _=>Gb s) s.rules=some out1):=AF (by unfold Fv;rw [<-xD];exact iN.o);have Q9:=AF (show out1.length=s.rules.length by rw [Cq AG iN.o,xD]);rw [xD,Js,EU] at hst;obtain ⟨rs,wh⟩:=Ab out1;rw [<-wh] at hst HD1 Q9;clear wh iN eG xD;have kb:=hst.b4;have Gr:=AF hst;clear hst;go_wp2_with fail;clear kb;go_loopg [77] m5 (fun q j wr=>∃(k2:Nat) (SL:List C4),k2<=m5/\q=m5 - k2/\j=AB AE k2/\EN (fun _=>Ep s) s.converts k2=some SL/\St w wg.heap.size w6.heap.size R (w.heap.size+1) (w.heap.size+1+1) w1.heap.size w2.heap.size w3.heap.size w4.heap.size w5.heap.size s (AA B1 m1 d1) (AA B2 m2 d2) (AA B3 m3 d3) (AA B4 m4 d4) (AA B5 m5 d5) (AA B6 m6 d6) 0 us ss rs (SL++s.converts.drop k2) s.purposes wr)
   case atStart=>exact ⟨0,[],Ar _,rfl,rfl,rfl,Gr.o⟩
   clear Gr;obtain ⟨k2,SL,hk2,hq2,rfl,Xo,hst⟩:=hrel;obtain ⟨Kj,Tz⟩:=Aj hq2 Xo;clear hq2 Xo;by_cases hlt2:k2 < m5
   ·obtain ⟨m,hm⟩:∃m,s.converts[k2]? =some m:=⟨s.converts[k2]' ep,BJ _⟩
    have hlen:=Cq ep Tz.o;have hat:(SL++s.converts.drop k2)[k2]? =some m:=by rw [Cf AG,EC,hlen];simpa using hm
    have I8:=hst;obtain ⟨G,gc,cg,hv,hLG,hGU,hog,hrg,hil,hnn,hmk⟩:=I8.r5.at hat;injection hv with hv1 hv2 hv3;subst hv1 hv3;have hn2:m5<=9223372036854775807:=AG
    have kb:=hst.b4;have hkn:(k2:Int) < (m5:Int):=AG
    have hk0:(0:Int)<=(k2:Int):=AG
    have KJ:Ep s m=none->Pz s=none:=fun hh=>by unfold Pz;rw [WV.o];simp only;rw [HD0.o];simp only;rw [HD1.o];simp only;rw [En (k:=k2+1) ep (FJ Tz.o hm hh)]
    have Sc:∀x,Ep s m=some x->EN (fun _=>Ep s) s.converts (k2+1)=some (SL++[x]):=fun x hx=>Fc Tz.o hm hx;have hset:∀x,(SL++s.converts.drop k2).set k2 x=(SL++[x])++s.converts.drop (k2+1):=fun x=>set_drop hlen hm
    obtain ⟨HN,Lr,Nm,NE,az,bA⟩:=FR (ZH R wg.heap.size w6.heap.size w4.heap.size G _ _ k2 cg s m wr I8.res AG AG I8.size hog hil hrg) I8 hmk KJ Sc hset;clear hst I8 hmk KJ Sc hset hog hrg hat hm hlen hv2 hnn hil;go_wp2_with fail;refine HN.o.mono ?_;rintro e w' ⟨hg',hr⟩;clear HN;cases htp:Ep s m with
    |
     none=>
     rw [htp] at hr;subst hr;obtain ⟨HF,Cl⟩:=Aj (Lr.o.fall hg' (fun r e=>by injection e;omega) hwl dR hBl hDl) (qg.o (NE.o htp));clear htp hg' kb
     go_wp2
     refine Qb HF.o AG AG AG Cl.o (fun w'' _ _ _ _ _ _ _=> ?_);simp [results,results93,go_sem, *]
    |
     some x=>
     rw [htp] at hr;obtain ⟨rfl,hro⟩:=hr;have hrow:=Nm.o x w' hg' AG AG Bo hro;rw [bA.o] at hrow;obtain ⟨Sk,HY⟩:=Aj (Lr.o.turn hg' AG AG hwl hBl hDl (.inl ⟨rfl,by omega⟩) (.inl ⟨rfl,by omega⟩) (.inl ⟨rfl,by omega⟩) (.inr hrow) (.inl ⟨rfl,by omega⟩) AG) (az.o x htp);clear htp hg' kb hro hrow;go_wp2;go_roundg (m5 - (k2+1))
     case measure=>exact Ln
     case rel=>exact ⟨k2+1,SL++[x],by omega,rfl,by go_num,HY.o,Sk.o⟩
   have hke2:k2=s.converts.length:=by have:=Wb.o;omega
   have HD2:AI (Fv (fun _=>Ep s) s.converts=some SL):=AF tF;have HL2:=AF (show SL.length=s.converts.length by rw [Cq AG Tz.o,hke2]);rw [hke2,Js,EU] at hst;obtain ⟨cv,AHP⟩:=Ab SL;rw [<-AHP] at hst HD2 HL2;clear AHP Tz Kj hke2;have kb:=hst.b5;have jm:=AF hst;clear hst;go_wp2_with fail;clear kb;go_loopg [90] m6 (fun q j wr=>∃(k3:Nat) (SJ:List Cj),k3<=m6/\q=m6 - k3/\j=AB AE k3/\EN (fun _=>Gn s) s.purposes k3=some SJ/\St w wg.heap.size w6.heap.size R (w.heap.size+1) (w.heap.size+1+1) w1.heap.size w2.heap.size w3.heap.size w4.heap.size w5.heap.size s (AA B1 m1 d1) (AA B2 m2 d2) (AA B3 m3 d3) (AA B4 m4 d4) (AA B5 m5 d5) (AA B6 m6 d6) 0 us ss rs cv (SJ++s.purposes.drop k3) wr)
   case atStart=>exact ⟨0,[],Ar _,rfl,rfl,rfl,jm.o⟩
   clear jm;obtain ⟨k3,SJ,hk3,hq3,rfl,AHD,hst⟩:=hrel;obtain ⟨eF,iM⟩:=Aj hq3 AHD;clear hq3 AHD;by_cases hlt3:k3 < m6
   ·obtain ⟨m,hm⟩:∃m,s.purposes[k3]? =some m:=⟨s.purposes[k3]' eo,BJ _⟩
    have hlen:=Cq eo iM.o;have hat:(SJ++s.purposes.drop k3)[k3]? =some m:=by rw [Cf AG,EC,hlen];simpa using hm
    have I8:=hst;obtain ⟨G,gc,cg,hv,hLG,hGU,hog,hrg,hil,hnn,hmk⟩:=I8.r6.at hat;injection hv with hv1 hv2 hv3;subst hv1 hv3;have hn2:m6<=9223372036854775807:=AG
    have kb:=hst.b5;have hkn:(k3:Int) < (m6:Int):=AG
    have hk0:(0:Int)<=(k3:Int):=AG
    have KJ:Gn s m=none->Pz s=none:=fun hh=>by unfold Pz;rw [WV.o];simp only;rw [HD0.o];simp only;rw [HD1.o];simp only;rw [HD2.o];simp only;rw [En (k:=k3+1) eo (FJ iM.o hm hh)]
    have Sc:∀x,Gn s m=some x->EN (fun _=>Gn s) s.purposes (k3+1)=some (SJ++[x]):=fun x hx=>Fc iM.o hm hx;have hset:∀x,(SJ++s.purposes.drop k3).set k3 x=(SJ++[x])++s.purposes.drop (k3+1):=fun x=>set_drop hlen hm
    obtain ⟨HN,Lr,Nm,NE,az,bA⟩:=FR (ZG R wg.heap.size w6.heap.size w5.heap.size G _ _ k3 cg s m wr I8.res AG AG I8.size hog hil hrg) I8 hmk KJ Sc hset;clear hst I8 hmk KJ Sc hset hog hrg hat hm hlen hv2 hnn hil;go_wp2_with fail;refine HN.o.mono ?_;rintro e w' ⟨hg',hr⟩;clear HN;cases htp:Gn s m with
    |
     none=>
     rw [htp] at hr;subst hr;obtain ⟨HF,Cl⟩:=Aj (Lr.o.fall hg' (fun r e=>by injection e;omega) hwl dR hBl hDl) (qg.o (NE.o htp));clear htp hg' kb
     go_wp2
     refine Qb HF.o AG AG AG Cl.o (fun w'' _ _ _ _ _ _ _=> ?_);simp [results,results93,go_sem, *]
    |
     some x=>
     rw [htp] at hr;obtain ⟨rfl,hro⟩:=hr;have hrow:=Nm.o x w' hg' AG AG BN hro;rw [bA.o] at hrow;obtain ⟨Sk,HY⟩:=Aj (Lr.o.turn hg' AG AG hwl hBl hDl (.inl ⟨rfl,by omega⟩) (.inl ⟨rfl,by omega⟩) (.inl ⟨rfl,by omega⟩) (.inl ⟨rfl,by omega⟩) (.inr hrow) AG) (az.o x htp);clear htp hg' kb hro hrow;go_wp2;go_roundg (m6 - (k3+1))
     case measure=>have:=eF.o;omega
     case rel=>exact ⟨k3+1,SJ++[x],by omega,rfl,by go_num,HY.o,Sk.o⟩
   have xC:k3=s.purposes.length:=by have:=HN6.o;omega
   have HD3:AI (Fv (fun _=>Gn s) s.purposes=some SJ):=AF (by unfold Fv;rw [<-xC];exact iM.o);have jz:=AF (show SJ.length=s.purposes.length by rw [Cq AG iM.o,xC]);rw [xC,Js,EU] at hst;obtain ⟨pp,AHO⟩:=Ab SJ;rw [<-AHO] at hst HD3 jz;clear AHO iM eF xC;have kb0:=hst.b0;have kb1:=hst.b1;have kb2:=hst.b2;have kb3:=hst.b3;have kb4:=hst.b4;have kb5:=hst.b5;have kd0:=hst.d0;have kdz:=hst.dz;have kz0:=hst.bz 0;have kz1:=hst.bz 1;have kz2:=hst.bz 2;have kz3:=hst.bz 3;have kz4:=hst.bz 4;have kz5:=hst.bz 5;have Lp:=AF hst;clear hst;go_wp2_with fail;have e0:=JY kb0;have e1:=JY kb1;have e2:=JY kb2;have e3:=JY kb3;have e4:=JY kb4;have e5:=JY kb5;have e6:=JY kd0;rw [e0,e1,e2,e3,e4,e5,e6];clear e0 e1 e2 e3 e4 e5 e6;refine OB (f:=143) (args:=#[AU (some ⟨w.heap.size+1,0,none⟩),AU (some ⟨w.heap.size+1+1,0,none⟩)]) Ac MO ?_;refine (catch_idle ⟨w.heap.size+1,0,none⟩ ⟨w.heap.size+1+1,0,none⟩ _).mono ?_;rintro e u' w'' ⟨rfl,rfl,rfl⟩;have hN:Pz s=some {s with units:=us,Ap:=ss,rules:=rs,converts:=cv,purposes:=pp}:=by unfold Pz;rw [WV.o];simp only;rw [HD0.o];simp only;rw [HD1.o];simp only;rw [HD2.o];simp only;rw [HD3.o]
   have hP:Gm s=(0,{s with units:=us,Ap:=ss,rules:=rs,converts:=cv,purposes:=pp}):=by unfold Gm;rw [Ah (by rw [Si.o];simp),hN]
   refine ⟨BS #[AO #[AA B1 m1 d1,AA B2 m2 d2,AA B3 m3 d3,AA B4 m4 d4,AA B5 m5 d5,AA B6 m6 d6],AB AE 0],?_,[AA B1 m1 d1,AA B2 m2 d2,AA B3 m3 d3,AA B4 m4 d4,AA B5 m5 d5,AA B6 m6 d6],by rw [hP],?_,Lp.o.old⟩
   · simp [results,results93,go_sem, *]
   rw [hP];exact ⟨B1,m1,d1,B2,m2,d2,B3,m3,d3,B4,m4,d4,B5,m5,d5,B6,m6,d6,rfl,⟨Lp.o.r1.sl SC,H1.o.2⟩,⟨Lp.o.r2.sl vz,by have:=H2.o.2;rw [eA.o];exact this⟩,⟨Lp.o.r3.sl oC,by have:=H3.o.2;rw [HL0.o];exact this⟩,⟨Lp.o.r4.sl wC,by have:=H4.o.2;rw [Q9.o];exact this⟩,⟨Lp.o.r5.sl ke,by have:=H5.o.2;rw [HL2.o];exact this⟩,⟨Lp.o.r6.sl kW,by have:=H6.o.2;rw [jz.o];exact this⟩⟩
theorem Ag.P1 {α β:Type} {sz:Nat} {R:AH->List AK->α->Prop} {R':AH->List AK->β->Prop} {w:AH} {v:AK} {l:List α} (f:α->β) (h:Ag sz R w v l)
 (hR:∀cs x,x∈l->R w cs x->R' w cs (f x)):Ag sz R' w v (l.map f):=by
 obtain ⟨A,cap,e,h1,h2,h3⟩:=h;refine ⟨A,cap,by simpa using e,by simpa using h1,h2,fun i y hi=> ?_⟩;rw [Be] at hi;cases hx:l[i]? with
 | none=>rw [hx] at hi;cases hi
 |
  some x=>
  rw [hx] at hi;cases hi;obtain ⟨b,off,cs,e1,e2,e3,e4,e5⟩:=h3 i x hx;exact ⟨b,off,cs,e1,e2,e3,e4,hR cs x (Ci hx) e5⟩
def Ox (x:Int):Prop:= -9223372036854775808<=x/\x<=9223372036854775807
instance (x:Int):Decidable (Ox x):=by unfold Ox;infer_instance
theorem jL {w:AH} {v:AK} {l:AP} (h:Ag 1 iR w v l) (hl:∀x∈l,Ox x):Ag 1 CF w v l:=by have:=h.P1 (R':=CF) (fun x=>x) (fun cs x hx hr=>⟨hr,(hl x hx).1,(hl x hx).2⟩);simpa using this
def Vx (d:Mn):kJ:=⟨d.src,d.dst⟩
def IY (d:Mn):Prop:=(∀x∈d.src,Ox x)/\Ox d.dst
instance (d:Mn):Decidable (IY d):=by unfold IY;infer_instance
theorem AB7 {w:AH} {v:AK} {l:List Mn} (h:Ag 4 Hb w v l) (hl:∀d∈l,IY d):Ag 4 xw w v (l.map Vx):=by refine h.P1 Vx (fun cs x hx hr=> ?_);obtain ⟨A1,n1,c1,A2,n2,c2,rfl,_,h2⟩:=hr;exact ⟨A1,n1,c1,x.name,A2,n2,c2,rfl,jL h2.1 (hl x hx).1,(hl x hx).2.1,(hl x hx).2.2⟩
structure aw (A1 A2 A3 A4 A5 A6:Option Aa) (n1 c1 n2 c2 n3 c3 n4 c4 n5 c5 n6 c6:Nat) (s:BD) (pv:C4->Bool) (w:AH):Prop where
 rules:s.Ap.all (Dn s.Bl.length s.units.length)=true->∀(W:AH) (g:Nat),AJ w W->AZ W g 126 #[AA A1 n1 c1,AA A2 n2 c2,AA A3 n3 c3,AA A4 n4 c4,AA A5 n5 c5,AA A6 n6 c6]->Says 95 #[] #[AU (some ⟨g,0,none⟩)] CM (I0 s.units s.Ap) s.rules W
 wI:∀(W:AH),AJ w W->Says 103 #[(AO #[AA A1 n1 c1,AA A2 n2 c2,AA A3 n3 c3,AA A4 n4 c4,AA A5 n5 c5,AA A6 n6 c6])] #[] BT (Fa s.Ap) s.purposes W
 vers:∀(W:AH),AJ w W->Says 107 #[(AO #[AA A1 n1 c1,AA A2 n2 c2,AA A3 n3 c3,AA A4 n4 c4,AA A5 n5 c5,AA A6 n6 c6])] #[] By pv s.converts W
theorem aw.below {A1 A2 A3 A4 A5 A6:Option Aa} {n1 c1 n2 c2 n3 c3 n4 c4 n5 c5 n6 c6:Nat} {s:BD} {pv:C4->Bool} {w w':AH} (h:aw A1 A2 A3 A4 A5 A6 n1 c1 n2 c2 n3 c3 n4 c4 n5 c5 n6 c6 s pv w) (hb:AJ w w'):aw A1 A2 A3 A4 A5 A6 n1 c1 n2 c2 n3 c3 n4 c4 n5 c5 n6 c6 s pv w':=
 ⟨fun k W g hW=>h.rules k W g (AW hb hW),fun W hW=>h.wI W (AW hb hW),fun W hW=>h.vers W (AW hb hW)⟩
def OP (s:BD):Int:=if (Gm s).1=0 then (if (Gm s).2=s then 0 else 160) else (Gm s).1
def Nf (s:BD):Int:=if s.Ap.all (fun x=>Mj x.fields.length (x.deps.map Vx)) then 0 else 130
def Kc (s:BD):Int:=
 if Kb s=0 then (if decide (s.Ap.length<=(Cr s.rules s.Ap.length).length) && (Dm [] (Cr s.rules s.Ap.length) && decide ((Cr s.rules s.Ap.length).length=s.Ap.length)) then 0 else 141) else Kb s
def QV (pv:C4->Bool) (s:BD):Int:=if s.converts.all pv then 0 else 150
theorem nu (s:BD) (w:AH) (h1:BQ 1 16 DV w (AA A1 n1 c1) s.Bl) (h2:BQ 5 56 CK w (AA A2 n2 c2) s.units) (h3:BQ 6 96 BR w (AA A3 n3 c3) s.Ap) (h4:BQ 5 96 CM w (AA A4 n4 c4) s.rules) (h5:BQ 5 72 By w (AA A5 n5 c5) s.converts) (h6:BQ 3 48 BT w (AA A6 n6 c6) s.purposes):
 AS prog 65 #[(AO #[AA A1 n1 c1,AA A2 n2 c2,AA A3 n3 c3,AA A4 n4 c4,AA A5 n5 c5,AA A6 n6 c6])] w fun e w'=>e=AV (AB AE (OP s))/\AJ w w':=by
 have hb0:AJ w (w.alloc (AQ #[AA A1 n1 c1,AA A2 n2 c2,AA A3 n3 c3,AA A4 n4 c4,AA A5 n5 c5,AA A6 n6 c6] 29)):=(BP _ _);have HC:AI (AS prog 93 #[(AO #[AA A1 n1 c1,AA A2 n2 c2,AA A3 n3 c3,AA A4 n4 c4,AA A5 n5 c5,AA A6 n6 c6])] (w.alloc (AQ #[AA A1 n1 c1,AA A2 n2 c2,AA A3 n3 c3,AA A4 n4 c4,AA A5 n5 c5,AA A6 n6 c6] 29)) (V2 s (w.alloc (AQ #[AA A1 n1 c1,AA A2 n2 c2,AA A3 n3 c3,AA A4 n4 c4,AA A5 n5 c5,AA A6 n6 c6] 29)))):=AF (rP A1 A2 A3 A4 A5 A6 n1 c1 n2 c2 n3 c3 n4 c4 n5 c5 n6 c6 s _ (h1.mono Ba hb0) (h2.mono Bn hb0) (h3.mono BM hb0) (h4.mono Bh hb0) (h5.mono Bo hb0) (h6.mono BN hb0));have HB0:=AF hb0;clear hb0;obtain ⟨H1,H2,H3,H4,H5,H6⟩:=FR h1 h2 h3 h4 h5 h6;clear h1 h2 h3 h4 h5 h6;obtain ⟨t,ht⟩:=BH ((Gm s).1);obtain ⟨x,hx⟩:=BH ((Gm s).2);obtain ⟨HT,HX⟩:=Aj ht hx;clear ht hx;go_enter func65,ntmps65;go_wp2_with (go_at_call 93;refine HC.o.mono ?_);rintro e w1 ⟨cs,rfl,hsrc,hb1⟩;rw [HX.o] at hsrc;rw [HT.o];obtain ⟨B1,m1,d1,B2,m2,d2,B3,m3,d3,B4,m4,d4,B5,m5,d5,B6,m6,d6,rfl,k1,k2,k3,k4,k5,k6⟩:=hsrc;have HB1:AI (AJ w w1):=AF (AW HB0.o hb1);have kb:=(AZ.new w 29 #[AA A1 n1 c1,AA A2 n2 c2,AA A3 n3 c3,AA A4 n4 c4,AA A5 n5 c5,AA A6 n6 c6]).below hb1 Ac;have q0:=kb.cell 0;have q1:=kb.cell 1;have q2:=kb.cell 2;have q3:=kb.cell 3;have q4:=kb.cell 4;have q5:=kb.cell 5;have lq:=kb.lt;simp only [Ai,An,Aw] at q0 q1 q2 q3 q4 q5;obtain ⟨K1,K2,K3,K4,K5,K6⟩:=FR k1 k2 k3 k4 k5 k6;clear hb1 kb HC k1 k2 k3 k4 k5 k6;by_cases ht0:t=0
 ·subst ht0
  have hba:∀o,AJ w1 (w1.alloc o):=fun o=>(Af _ _).alloc (Ad _) o;obtain ⟨v,hv⟩:∃v,decide (x=s)=v:=⟨_,rfl⟩;have HV:=AF hv;have HS:AI (∀o,AS prog 71 #[AO #[AA B1 m1 d1,AA B2 m2 d2,AA B3 m3 d3,AA B4 m4 d4,AA B5 m5 d5,AA B6 m6 d6],(AO #[AA A1 n1 c1,AA A2 n2 c2,AA A3 n3 c3,AA A4 n4 c4,AA A5 n5 c5,AA A6 n6 c6])] (w1.alloc o) fun e w'=>e=AV (AX v)/\BK (w1.alloc o).heap.size (w1.alloc o) w'):=AF (fun o=>by
   have:=Uo B1 A1 B2 A2 B3 A3 B4 A4 B5 A5 B6 A6 m1 d1 n1 c1 m2 d2 n2 c2 m3 d3 n3 c3 m4 d4 n4 c4 m5 d5 n5 c5 m6 d6 n6 c6 x s (w1.alloc o)
    (K1.o.1.mono Ba (hba o)) (H1.o.1.mono Ba (AW HB1.o (hba o)))
    (K2.o.1.mono Bn (hba o)) (H2.o.1.mono Bn (AW HB1.o (hba o)))
    (K3.o.1.mono BM (hba o)) (H3.o.1.mono BM (AW HB1.o (hba o)))
    (K4.o.1.mono Bh (hba o)) (H4.o.1.mono Bh (AW HB1.o (hba o)))
    (K5.o.1.mono Bo (hba o)) (H5.o.1.mono Bo (AW HB1.o (hba o)))
    (K6.o.1.mono BN (hba o)) (H6.o.1.mono BN (AW HB1.o (hba o)))
   rw [hv] at this;exact this)
  clear hv hba;go_wp2_with (go_at_call 71;refine (HS.o _).mono ?_;clear HS)
  first | rintro e w2 rfl hb2 | rintro e w2 ⟨rfl,hb2⟩
  have HB2:AI (AJ w w2):=AF ((HB1.o.alloc HB1.o.size _).trans (hb2.mono fO));clear hb2;cases v with
  |
   true=>
   go_wp2;go_ret;exact ⟨C8 (by rw [OP,Am HT.o,HX.o,Am (Fj HV.o)]),HB2.o⟩
  |
   false=>
   go_wp2;go_ret;exact ⟨C8 (by rw [OP,Am HT.o,HX.o,Ah (Mu HV.o)]),HB2.o⟩
 have htn:(t !=0)=true:=by simpa using ht0
 go_wp2;go_ret;exact ⟨C8 (by rw [OP,Ah (by rw [HT.o];exact ht0),HT.o]),HB1.o.alloc HB1.o.size _⟩
theorem g7 (s:BD) (w:AH) (h3:BQ 6 96 BR w (AA A3 n3 c3) s.Ap) (hI:∀x∈s.Ap,∀d∈x.deps,IY d):
 AS prog 67 #[(AO #[AA A1 n1 c1,AA A2 n2 c2,AA A3 n3 c3,AA A4 n4 c4,AA A5 n5 c5,AA A6 n6 c6])] w fun e w'=>e=AV (AB AE (Nf s))/\AJ w w':=by
 have hn3:n3<=9223372036854775807:=by have:=h3.1.le;omega
 obtain ⟨HN,H3,HI⟩:=Az h3.1.len h3.1 hI;clear h3 hI;have HB0:AI (AJ w (w.alloc (AQ #[AA A1 n1 c1,AA A2 n2 c2,AA A3 n3 c3,AA A4 n4 c4,AA A5 n5 c5,AA A6 n6 c6] 29))):=AF (BP _ _);go_enter func67,ntmps67;go_wp2_with fail;go_loopg [9] n3 (fun q i wr=>∃k:Nat,k<=n3/\q=n3 - k/\i=AB AE k/\(s.Ap.take k).all (fun x=>Mj x.fields.length (x.deps.map Vx))=true/\AJ w wr)
 case atStart=>exact ⟨0,Ar _,rfl,rfl,rfl,HB0.o⟩
 clear HB0;obtain ⟨k,hk,hq,rfl,hv,hb⟩:=hrel;obtain ⟨HQ,HB,HV⟩:=Az hq hb hv;clear hq hb hv;by_cases hlt:k < n3
 ·obtain ⟨b,off,x,B1,m1,d1,B2,m2,d2,rfl,hbl,hx,e0,e1,e2,e3,e4,e5,g1,g2⟩:=Fz (H3.o.mono BM HB.o) hlt
  have HX:=AF hx;have hkn:(k:Int) < (n3:Int):=AG
  have hk0:=Int.natCast_nonneg k
  have hfl:m1=x.fields.length:=g1.1.len;have hm1:m1<=9223372036854775807:=by have:=g1.1.le;omega
  obtain ⟨v,hv⟩:=BH (Mj x.fields.length (x.deps.map Vx));have Dw:=AF hv;have HC:AI (∀o,AS prog 104 #[AO #[AN x.name,AN x.Hh,AB AE x.Au,AB AE x.version,AA B1 m1 d1,AA B2 m2 d2]] (wr.alloc o) fun e w'=>e=AV (AB AE (eno v))/\BK (wr.alloc o).heap.size (wr.alloc o) w'):=AF (fun o=>by have:=check_any x.name x.Hh x.Au x.version B1 B2 m1 d1 m2 d2 (x.deps.map Vx) (wr.alloc o) hm1 ((AB7 g2.1 (HI.o x (Ci hx))).mono jZ (BP _ _));rw [hfl,hv] at this;rw [hfl];exact this)
  clear hx g1 g2 hv hfl;go_wp2_with (go_at_call 104;refine (HC.o _).mono ?_;clear HC)
  first | rintro e w1 rfl hb1 | rintro e w1 ⟨rfl,hb1⟩
  have HB1:AI (AJ w w1):=AF ((HB.o.alloc HB.o.size _).trans (hb1.mono Wt));clear hb1;cases v with
  |
   true=>
   rw [show eno true=0 from rfl];go_wp2;go_roundg (n3 - (k+1))
   case measure=>exact Bc
   case rel=>exact ⟨k+1,by omega,rfl,by go_num,Er HX.o Dw.o HV.o,HB1.o⟩
  |
   false=>
   rw [show eno false=130 from rfl];go_wp2;go_ret;exact ⟨C8 (by rw [Nf,Jb HX.o Dw.o];rfl),HB1.o⟩
 have HT:AI (s.Ap.all (fun x=>Mj x.fields.length (x.deps.map Vx))=true):=by have:=HV.o;rw [Cy Lj] at this;exact this
 go_wp2;go_ret;exact ⟨C8 (by rw [Nf,HT.o];rfl),HB.o⟩
theorem AAq (A:Option Aa) (n c:Nat) (l:AP) (many:Nat) (w:AH) (hs:Ag 1 iR w (AA A n c) l):
 AS prog 106 #[.map (some w.heap.size),AA A n c,AB AE many] (w.alloc (.map #[] 0)) fun e w'=>e=AV (AX (Dm [] l && decide (l.length=many)))/\AJ w w':=by
 have hn2:n<=9223372036854775807:=by have:=hs.le;omega
 obtain ⟨HN,HS⟩:=Aj hs.len hs;have HM:AI (MapAt (Value.int .i64) Value.bool (w.alloc (.map #[] 0)) w.heap.size (Ev ([]:AP))):=AF (MapAt.new _ _ w);have HB0:AI (AJ w (w.alloc (.map #[] 0))):=AF (BP _ _);clear hs;obtain ⟨v,hv⟩:=BH (Dm [] l);rw [hv];have HV:AI (Dm (l.take 0) (l.drop 0)=v):=AF hv;clear hv;go_enter func106,ntmps106;go_wp2_with fail;go_loopg [11] n (fun g i wr=>∃k:Nat,k<=n/\g=n - k/\i=AB AE k/\Dm (l.take k) (l.drop k)=v/\MapAt (Value.int .i64) Value.bool wr w.heap.size (Ev (l.take k))/\AJ w wr)
 case atStart=>exact ⟨0,Ar _,rfl,rfl,HV.o,HM.o,HB0.o⟩
 clear HM HV HB0;obtain ⟨k,hk,hg,rfl,hv,hm,hb⟩:=hrel;obtain ⟨HG,HB⟩:=Aj hg hb;by_cases hlt:k < n
 ·obtain ⟨bb,off,x,rfl,AHu,hx,hc⟩:=wW HS.o hlt
  have hc2:=(HB.o.cell (p:=⟨bb,off+k,none⟩) AHu).trans hc;have AD2:bb < wr.heap.size:=Ay AHu hb.size;rw [drop_cons hx,Dm] at hv;have hlook:=DH (IW underlying3) underlying202 (z:=AX false) AL hm x false;rw [Xw] at hlook;by_cases hmem:x∈l.take k
  ·rw [Am hmem] at hv hlook
   subst hv;simp only [Cu,Ce,If,Hn] at hlook;clear hx hg hb hm hmem hc;exact mJ
  rw [Ah hmem] at hv hlook;simp only [JJ,Jt,If,Hn] at hlook;obtain ⟨w3,hrun3,EI,hg3⟩:=FG (IW underlying3) underlying202 hm x true;rw [XT _ _ hmem,<-take_snoc hx] at EI;rw [<-take_snoc hx] at hv;have HB3:AI (AJ w w3):=AF (HB.o.grown hg3 HB.o.size (fun r e=>by cases e;exact Ad _));obtain ⟨G8,HV3⟩:=Aj EI hv;clear EI hg3 hv hx hg hb hm hmem hc;go_wp2;go_roundg (n - (k+1))
  case measure=>exact Ec
  case rel=>exact ⟨k+1,by omega,rfl,by go_num,HV3.o,G8.o,HB3.o⟩
 rw [EV Lj] at hv;subst hv;clear hm hb;by_cases hnm:n=many
 ·subst hnm
  go_wp2;go_ret;exact ⟨A8 (by simp [Dm,HN.o]),HB.o⟩
 have AMs:¬(n:Int)=(many:Int):=AG
 go_wp2;go_ret;exact ⟨A8 (by rw [BO Lj];simp;omega),HB.o⟩
theorem Zz (s:BD) (pv:C4->Bool) (w:AH) (h5:BQ 5 72 By w (AA A5 n5 c5) s.converts) (hv:∀(W:AH),AJ w W->Says 107 #[(AO #[AA A1 n1 c1,AA A2 n2 c2,AA A3 n3 c3,AA A4 n4 c4,AA A5 n5 c5,AA A6 n6 c6])] #[] By pv s.converts W):
 AS prog 69 #[(AO #[AA A1 n1 c1,AA A2 n2 c2,AA A3 n3 c3,AA A4 n4 c4,AA A5 n5 c5,AA A6 n6 c6])] w fun e w'=>e=AV (AB AE (QV pv s))/\AJ w w':=by
 have hn5:n5<=9223372036854775807:=by have:=h5.1.le;omega
 obtain ⟨HN,H5,HV0⟩:=Az h5.1.len h5.1 hv;clear h5 hv;have HB0:AI (AJ w (w.alloc (AQ #[AA A1 n1 c1,AA A2 n2 c2,AA A3 n3 c3,AA A4 n4 c4,AA A5 n5 c5,AA A6 n6 c6] 29))):=AF (BP _ _);have Qr:AI (AZ (w.alloc (AQ #[AA A1 n1 c1,AA A2 n2 c2,AA A3 n3 c3,AA A4 n4 c4,AA A5 n5 c5,AA A6 n6 c6] 29)) w.heap.size 29 #[AA A1 n1 c1,AA A2 n2 c2,AA A3 n3 c3,AA A4 n4 c4,AA A5 n5 c5,AA A6 n6 c6]):=AF (AZ.new _ _ _);go_enter func69,ntmps69;go_wp2_with fail;go_loopg [8] n5 (fun q i wr=>∃k:Nat,k<=n5/\q=n5 - k/\i=AB AE k/\(s.converts.take k).all pv=true/\AZ wr w.heap.size 29 #[AA A1 n1 c1,AA A2 n2 c2,AA A3 n3 c3,AA A4 n4 c4,AA A5 n5 c5,AA A6 n6 c6]/\AJ w wr)
 case atStart=>exact ⟨0,Ar _,rfl,rfl,rfl,Qr.o,HB0.o⟩
 clear HB0 Qr;obtain ⟨k,hk,hq,rfl,hv,hkb,hb⟩:=hrel;obtain ⟨HQ,HB,HV,HK⟩:=CJ hq hb hv hkb;have q0:=hkb.cell 0;have q1:=hkb.cell 1;have q2:=hkb.cell 2;have q3:=hkb.cell 3;have q4:=hkb.cell 4;have q5:=hkb.cell 5;have lq:=hkb.lt;simp only [Ai,An,Aw] at q0 q1 q2 q3 q4 q5;clear hq hb hv hkb;by_cases hlt:k < n5
 ·obtain ⟨b,off,x,B1,m1,d1,rfl,hbl,hx,e0,e1,e2,e3,e4,g1⟩:=QK (H5.o.mono Bo HB.o) hlt
  have HX:=AF hx;have hkn:(k:Int) < (n5:Int):=AG
  have hk0:=Int.natCast_nonneg k
  obtain ⟨v,hv⟩:=BH (pv x);have Dw:=AF hv;have HC:AI (∀o,AS prog 107 #[(AO #[AA A1 n1 c1,AA A2 n2 c2,AA A3 n3 c3,AA A4 n4 c4,AA (some ⟨b,off,none⟩) n5 c5,AA A6 n6 c6]),AO #[AN x.from_,AN x.DU,AB AE x.a,AB AE x.b,AA B1 m1 d1]] (wr.alloc o) fun e w'=>e=AV (AX v)/\BK (wr.alloc o).heap.size (wr.alloc o) w'):=AF (fun o=>by have hba:AJ wr (wr.alloc o):=(Af _ _).alloc (Ad _) o;have:=HV0.o wr HB.o (wr.alloc o) [AN x.from_,AN x.DU,AB AE x.a,AB AE x.b,AA B1 m1 d1] x hba (Ci hx) (Bo _ _ hba _ _ ⟨B1,m1,d1,rfl,g1⟩);rw [hv] at this;exact this)
  clear hx g1 hv;go_wp2_with (go_at_call 107;refine (HC.o _).mono ?_;clear HC)
  first | rintro e w1 rfl hb1 | rintro e w1 ⟨rfl,hb1⟩
  have HB1:AI (AJ w w1):=AF ((HB.o.alloc HB.o.size _).trans (hb1.mono Wt));have eL:AI (AZ w1 w.heap.size 29 #[AA A1 n1 c1,AA A2 n2 c2,AA A3 n3 c3,AA A4 n4 c4,AA (some ⟨b,off,none⟩) n5 c5,AA A6 n6 c6]):=AF ((HK.o.alloc _).below hb1 BX);clear hb1;cases v with
  |
   true=>
   go_wp2;go_roundg (n5 - (k+1))
   case measure=>exact Bc
   case rel=>exact ⟨k+1,by omega,rfl,by go_num,Er HX.o Dw.o HV.o,eL.o,HB1.o⟩
  |
   false=>
   go_wp2;go_ret;exact ⟨C8 (by rw [QV,Jb HX.o Dw.o];rfl),HB1.o⟩
 have HT:AI (s.converts.all pv=true):=by have:=HV.o;rw [Cy Lj] at this;exact this
 go_wp2;go_ret;exact ⟨C8 (by rw [QV,HT.o];rfl),HB.o⟩
theorem rW (s:BD) (pv:C4->Bool) (w:AH) (h1:BQ 1 16 DV w (AA A1 n1 c1) s.Bl) (h2:BQ 5 56 CK w (AA A2 n2 c2) s.units) (h3:BQ 6 96 BR w (AA A3 n3 c3) s.Ap) (h4:BQ 5 96 CM w (AA A4 n4 c4) s.rules) (h5:BQ 5 72 By w (AA A5 n5 c5) s.converts) (h6:BQ 3 48 BT w (AA A6 n6 c6) s.purposes) (hsub:aw A1 A2 A3 A4 A5 A6 n1 c1 n2 c2 n3 c3 n4 c4 n5 c5 n6 c6 s pv w):
 AS prog 68 #[(AO #[AA A1 n1 c1,AA A2 n2 c2,AA A3 n3 c3,AA A4 n4 c4,AA A5 n5 c5,AA A6 n6 c6])] w fun e w'=>e=AV (AB AE (Kc s))/\AJ w w':=by
 have hb0:AJ w (w.alloc (AQ #[AA A1 n1 c1,AA A2 n2 c2,AA A3 n3 c3,AA A4 n4 c4,AA A5 n5 c5,AA A6 n6 c6] 29)):=(BP _ _);obtain ⟨t,ht⟩:=BH (Kb s);have HC:AI (AS prog 105 #[(AO #[AA A1 n1 c1,AA A2 n2 c2,AA A3 n3 c3,AA A4 n4 c4,AA A5 n5 c5,AA A6 n6 c6])] (w.alloc (AQ #[AA A1 n1 c1,AA A2 n2 c2,AA A3 n3 c3,AA A4 n4 c4,AA A5 n5 c5,AA A6 n6 c6] 29)) fun e w'=>e=AV (AB AE t)/\BK (w.alloc (AQ #[AA A1 n1 c1,AA A2 n2 c2,AA A3 n3 c3,AA A4 n4 c4,AA A5 n5 c5,AA A6 n6 c6] 29)).heap.size (w.alloc (AQ #[AA A1 n1 c1,AA A2 n2 c2,AA A3 n3 c3,AA A4 n4 c4,AA A5 n5 c5,AA A6 n6 c6] 29)) w'):=AF (by rw [<-ht];have hs2:=hsub.below hb0;exact kQ A1 A2 A3 A4 A5 A6 n1 c1 n2 c2 n3 c3 n4 c4 n5 c5 n6 c6 s _ (h1.1.mono Ba hb0) (h2.1.mono Bn hb0) (h3.1.mono BM hb0) (h4.1.mono Bh hb0) h5.1.len (h6.1.mono BN hb0) hs2.rules hs2.wI)
 obtain ⟨HT,HB0,LJ,H4⟩:=CJ ht hb0 h3.1.len h4.1;clear ht hb0 h1 h2 h3 h4 h5 h6 hsub;have hmm:∀(w:AH),(Instr.makeMap 202 none).run prog w=.ok (.map (some w.heap.size)) (w.alloc (.map #[] 0)):=by intro w;simp [Instr.makeMap]
 go_enter func68,ntmps68;go_wp2_with (go_at_call 105;refine HC.o.mono ?_)
 first | rintro e w1 rfl hb1 | rintro e w1 ⟨rfl,hb1⟩
 have HB1:AI (AJ w w1):=AF (AW HB0.o hb1);have kb:=(AZ.new w 29 #[AA A1 n1 c1,AA A2 n2 c2,AA A3 n3 c3,AA A4 n4 c4,AA A5 n5 c5,AA A6 n6 c6]).below hb1 Ac;have q0:=kb.cell 0;have q1:=kb.cell 1;have q2:=kb.cell 2;have q3:=kb.cell 3;have q4:=kb.cell 4;have q5:=kb.cell 5;have lq:=kb.lt;simp only [Ai,An,Aw] at q0 q1 q2 q3 q4 q5;have HKB:=AF kb;clear hb1 kb HC;by_cases ht0:t=0
 ·subst ht0
  have WW:AI (FE s=0):=AF (by
   have:=HT.o;unfold Kb at this;split at this
   · assumption
   · next h=>exact absurd this h)
  have QE:AI (n3<=1000/\∀r∈s.rules,(0<=r.schema/\r.schema < n3)/\∀f∈r.froms,0<=f.schema/\f.schema < n3):=AF (by obtain ⟨h1,h2,h3,h4,h5⟩:=Tm WW.o;refine ⟨by have:=Ov h1;have:=LJ.o;omega,fun r hr=> ?_⟩;rw [LJ.o];exact mE)
  go_wp2_with (go_at_call 70;refine (XZ A1 A2 A3 A4 A5 A6 n1 c1 n2 c2 n3 c3 n4 c4 n5 c5 n6 c6 s.rules w1 (H4.o.mono Bh HB1.o) QE.o.1 QE.o.2).mono ?_)
  first | rintro e w2 v ok rfl hok hv hb2 | rintro e w2 ⟨v,ok,rfl,hok,hv,hb2⟩
  have I5:=AF hok;have HB2:AI (AJ w w2):=AF (AW HB1.o hb2);have kb:=HKB.o.below hb2 lq;have q2:=kb.cell 2;have lq2:=kb.lt;simp only [Ai,An,Aw] at q2;have hv:=M6 hv;obtain ⟨A,c,rfl⟩:=hv.form;have HV:=AF hv;clear hok hv hb2 kb q0 q1 q3 q4 q5;cases ok with
  |
   true=>
   have HVO:AI (Ag 1 iR w2 (AA A (Cr s.rules n3).length c) (Cr s.rules n3)):=AF HV.o;clear HV;simp only [Ct];obtain ⟨v2,hv2⟩:∃v2,(Dm [] (Cr s.rules n3) && decide ((Cr s.rules n3).length=n3))=v2:=⟨_,rfl⟩;have Dw:=AF hv2;have HWC:AI (AS prog 106 #[.map (some w2.heap.size),AA A (Cr s.rules n3).length c,AB AE n3] (w2.alloc (.map #[] 0)) fun e w'=>e=AV (AX v2)/\AJ w2 w'):=AF (by have:=AAq A (Cr s.rules n3).length c (Cr s.rules n3) n3 w2 HVO.o;rw [hv2] at this;exact this)
   clear hv2;go_wp2_with (go_at_call 106;refine HWC.o.mono ?_;clear HWC)
   first | rintro e w3 rfl hb3 | rintro e w3 ⟨rfl,hb3⟩
   have HB3:AI (AJ w w3):=AF (AW HB2.o hb3);clear hb3;have HP:AI (Kc s=if v2 then 0 else 141):=AF (by rw [Kc,Am HT.o,<-LJ.o,Dw.o,<-I5.o,JI])
   cases v2 with
   |
    true=>
    go_wp2;go_ret;exact ⟨C8 (by rw [HP.o];rfl),HB3.o⟩
   |
    false=>
    go_wp2;go_ret;exact ⟨C8 (by rw [HP.o];rfl),HB3.o⟩
  |
   false=>
   go_wp2;go_ret;exact ⟨C8 (by rw [Kc,Am HT.o,<-LJ.o,<-I5.o,Bool.false_and];rfl),HB2.o⟩
 have htn:(t !=0)=true:=by simpa using ht0
 go_wp2;go_ret;exact ⟨C8 (by rw [Kc,HT.o,Ah ht0]),HB1.o⟩
def He (pv:C4->Bool) (s:BD):AP:=[OP s,FE s,Nf s,Kc s,QV pv s]
def Ot (pv:C4->Bool) (s:BD):Int:=((He pv s).find? fun x=>decide (x≠0)).getD 0
theorem ABa {pv:C4->Bool} {s:BD} {j:Nat} {t:Int} (h:((He pv s).take j).all (fun x=>decide (x=0))=true) (hj:(He pv s)[j]? =some t) (ht:t≠0):Ot pv s=t:=by
 unfold Ot;have hs:He pv s=(He pv s).take j++t::(He pv s).drop (j+1):=by rw [<-drop_cons hj,OG]
 rw [hs,List.find?_append];have hn:((He pv s).take j).find? (fun x=>decide (x≠0))=none:=by rw [List.find?_eq_none];intro x hx;have:=Dr.1 h x hx;simpa using this
 rw [hn];simp [ht]
theorem rm {pv:C4->Bool} {s:BD} (h:(He pv s).all (fun x=>decide (x=0))=true):Ot pv s=0:=by
 unfold Ot;have hn:(He pv s).find? (fun x=>decide (x≠0))=none:=by rw [List.find?_eq_none];intro x hx;have:=Dr.1 h x hx;simpa using this
 rw [hn];rfl
def qD (A1 A2 A3 A4 A5 A6:Option Aa) (n1 c1 n2 c2 n3 c3 n4 c4 n5 c5 n6 c6:Nat) (pv:C4->Bool) (s:BD) (w:AH) (e:Ending) (w':AH):Prop:=
 ((
  Ot pv s≠0/\e=AV (BS #[AO #[AA none 0 0,AA none 0 0,AA none 0 0,AA none 0 0,AA none 0 0,AA none 0 0,AA none 0 0],AB AE (Ot pv s)]))\/
  (Ot pv s=0/\∃C d,e=AV (BS #[AO #[AA A1 n1 c1,AA A2 n2 c2,AA A3 n3 c3,AA A4 n4 c4,AA A5 n5 c5,AA A6 n6 c6,AA C (Cr s.rules s.Ap.length).length d],AB AE 0])/\Ag 1 iR w' (AA C (Cr s.rules s.Ap.length).length d) (Cr s.rules s.Ap.length)))/\AJ w w'
theorem ABZ (s:BD) (pv:C4->Bool) (w:AH) (h1:BQ 1 16 DV w (AA A1 n1 c1) s.Bl) (h2:BQ 5 56 CK w (AA A2 n2 c2) s.units) (h3:BQ 6 96 BR w (AA A3 n3 c3) s.Ap) (h4:BQ 5 96 CM w (AA A4 n4 c4) s.rules) (h5:BQ 5 72 By w (AA A5 n5 c5) s.converts) (h6:BQ 3 48 BT w (AA A6 n6 c6) s.purposes) (hsub:aw A1 A2 A3 A4 A5 A6 n1 c1 n2 c2 n3 c3 n4 c4 n5 c5 n6 c6 s pv w) (hI:∀x∈s.Ap,∀d∈x.deps,IY d):
 AS prog 40 #[(AO #[AA A1 n1 c1,AA A2 n2 c2,AA A3 n3 c3,AA A4 n4 c4,AA A5 n5 c5,AA A6 n6 c6])] w (qD A1 A2 A3 A4 A5 A6 n1 c1 n2 c2 n3 c3 n4 c4 n5 c5 n6 c6 pv s w):=by
 obtain ⟨H1,H2,H3,H4,H5,H6⟩:=FR h1 h2 h3 h4 h5 h6;clear h1 h2 h3 h4 h5 h6;obtain ⟨yY,HI⟩:=Aj hsub hI;clear hsub hI;have hi0:∀w:AH,(Instr.index 143 (AO #[.func (.func 65) #[] #[],.func (.func 66) #[] #[],.func (.func 67) #[] #[],.func (.func 68) #[] #[],.func (.func 69) #[] #[]]) (AB AE 0)).run prog w=.ok (.func (.func 65) #[] #[]) w:=fun _=>by kernel_rfl
 have hi1:∀w:AH,(Instr.index 143 (AO #[.func (.func 65) #[] #[],.func (.func 66) #[] #[],.func (.func 67) #[] #[],.func (.func 68) #[] #[],.func (.func 69) #[] #[]]) (AB AE 1)).run prog w=.ok (.func (.func 66) #[] #[]) w:=fun _=>by kernel_rfl
 have hi2:∀w:AH,(Instr.index 143 (AO #[.func (.func 65) #[] #[],.func (.func 66) #[] #[],.func (.func 67) #[] #[],.func (.func 68) #[] #[],.func (.func 69) #[] #[]]) (AB AE 2)).run prog w=.ok (.func (.func 67) #[] #[]) w:=fun _=>by kernel_rfl
 have hi3:∀w:AH,(Instr.index 143 (AO #[.func (.func 65) #[] #[],.func (.func 66) #[] #[],.func (.func 67) #[] #[],.func (.func 68) #[] #[],.func (.func 69) #[] #[]]) (AB AE 3)).run prog w=.ok (.func (.func 68) #[] #[]) w:=fun _=>by kernel_rfl
 have hi4:∀w:AH,(Instr.index 143 (AO #[.func (.func 65) #[] #[],.func (.func 66) #[] #[],.func (.func 67) #[] #[],.func (.func 68) #[] #[],.func (.func 69) #[] #[]]) (AB AE 4)).run prog w=.ok (.func (.func 69) #[] #[]) w:=fun _=>by kernel_rfl
 have IA:=AF (And.intro hi0 (And.intro hi1 (And.intro hi2 (And.intro hi3 hi4))));clear hi0 hi1 hi2 hi3 hi4;go_enter func40,ntmps40;go_wp2_with fail;obtain ⟨wb,hwb⟩:=Ab (((w.alloc (AQ #[AA A1 n1 c1,AA A2 n2 c2,AA A3 n3 c3,AA A4 n4 c4,AA A5 n5 c5,AA A6 n6 c6] 29)).alloc (AQ #[AA none 0 0,AA none 0 0,AA none 0 0,AA none 0 0,AA none 0 0,AA none 0 0,AA none 0 0] 32)).alloc (AQ #[.func (.func 65) #[] #[],.func (.func 66) #[] #[],.func (.func 67) #[] #[],.func (.func 68) #[] #[],.func (.func 69) #[] #[]] 143));rw [<-hwb];have hbb:AJ w wb:=by rw [hwb];exact vQ
 have kA:AZ wb w.heap.size 29 #[AA A1 n1 c1,AA A2 n2 c2,AA A3 n3 c3,AA A4 n4 c4,AA A5 n5 c5,AA A6 n6 c6]:=by rw [hwb];exact bI
 have kB:AZ wb (w.heap.size+1) 32 #[AA none 0 0,AA none 0 0,AA none 0 0,AA none 0 0,AA none 0 0,AA none 0 0,AA none 0 0]:=by rw [hwb];exact li
 obtain ⟨ga,hga⟩:=Ab w.heap.size;obtain ⟨gb,hgb⟩:=Ab (w.heap.size+1);rw [<-hgb] at kB ⊢;rw [<-hga] at kA ⊢;have O4:w.heap.size<=gb:=AG
 have AM2:ga≠gb:=AG
 obtain ⟨BV,Zu,HKB⟩:=Az hbb kA kB;have la:=kA.lt;have lb:=kB.lt;clear hwb hga hgb hbb kA kB;go_loopg [12] 5 (fun q i wr=>∃j:Nat,j<=5/\q=5 - j/\i=AB AE j/\((He pv s).take j).all (fun x=>decide (x=0))=true/\AJ wb wr)
 case atStart=>exact Li
 obtain ⟨j,hj,hq,rfl,hv,hb⟩:=hrel;obtain ⟨HQ,HV,DF⟩:=Az hq hv hb;have HB:AI (AJ w wr):=AF (AW BV.o hb);have kA:=Zu.o.below hb la;have kB:=HKB.o.below hb lb;have a0:=kA.cell 0;have a1:=kA.cell 1;have a2:=kA.cell 2;have a3:=kA.cell 3;have a4:=kA.cell 4;have a5:=kA.cell 5;have b0:=kB.cell 0;have b1:=kB.cell 1;have b2:=kB.cell 2;have b3:=kB.cell 3;have b4:=kB.cell 4;have b5:=kB.cell 5;have b6:=kB.cell 6;have lar:=kA.lt;have jJ:=kB.lt;simp only [Ai,An,Aw] at a0 a1 a2 a3 a4 a5 b0 b1 b2 b3 b4 b5 b6;clear kA kB hq hv hb;by_cases hlt:j < 5
 ·obtain h0 | h0 | h0 | h0 | h0:j=0\/j=1\/j=2\/j=3\/j=4:=by omega
  ·subst h0
   have hix:=IA.o.1;obtain ⟨t,ht⟩:=BH (OP s);have HT:AI ((He pv s)[0]? =some t):=AF UX;have HC:AI (AS prog 65 #[(AO #[AA A1 n1 c1,AA A2 n2 c2,AA A3 n3 c3,AA A4 n4 c4,AA A5 n5 c5,AA A6 n6 c6])] wr fun e w'=>e=AV (AB AE t)/\AJ wr w'):=AF (by have:=nu A1 A2 A3 A4 A5 A6 n1 c1 n2 c2 n3 c3 n4 c4 n5 c5 n6 c6 s wr (H1.o.mono Ba HB.o) (H2.o.mono Bn HB.o) (H3.o.mono BM HB.o) (H4.o.mono Bh HB.o) (H5.o.mono Bo HB.o) (H6.o.mono BN HB.o);rw [ht] at this;exact this)
   clear ht;go_wp2_with (go_at_call 65;refine HC.o.mono ?_;clear HC)
   first | rintro e w1 rfl hb1 | rintro e w1 ⟨rfl,hb1⟩
   have CG:=AF (AW DF.o hb1);have HB1:AI (AJ w w1):=AF (AW HB.o hb1);have kB:=HKB.o.below CG.o lb;clear hb1 a0 a1 a2 a3 a4 a5 b0 b1 b2 b3 b4 b5 b6 jJ;by_cases ht0:t=0
   ·subst ht0
    clear kB;go_wp2;go_roundg (5 - (0+1))
    case measure=>exact Bc
    case rel=>exact ⟨0+1,by omega,rfl,by go_num,Er (p:=fun x=>decide (x=0)) HT.o rfl HV.o,CG.o⟩
   exact bT
  ·subst h0
   have hix:=IA.o.2.1;obtain ⟨t,ht⟩:=BH (FE s);have HT:AI ((He pv s)[1]? =some t):=AF UX;have HC:AI (AS prog 66 #[(AO #[AA A1 n1 c1,AA A2 n2 c2,AA A3 n3 c3,AA A4 n4 c4,AA A5 n5 c5,AA A6 n6 c6])] wr fun e w'=>e=AV (AB AE t)/\AJ wr w'):=AF (by have:=WD A1 A2 A3 A4 A5 A6 n1 c1 n2 c2 n3 c3 n4 c4 n5 c5 n6 c6 s wr (H1.o.mono Ba HB.o).1 (H2.o.mono Bn HB.o).1 (H3.o.mono BM HB.o).1 (H4.o.mono Bh HB.o).1 H5.o.1.len (H6.o.mono BN HB.o).1 (yY.o.below HB.o).rules (yY.o.below HB.o).wI;rw [ht] at this;exact this)
   clear ht;go_wp2_with (go_at_call 66;refine HC.o.mono ?_;clear HC)
   first | rintro e w1 rfl hb1 | rintro e w1 ⟨rfl,hb1⟩
   have CG:=AF (AW DF.o hb1);have HB1:AI (AJ w w1):=AF (AW HB.o hb1);have kB:=HKB.o.below CG.o lb;clear hb1 a0 a1 a2 a3 a4 a5 b0 b1 b2 b3 b4 b5 b6 jJ;by_cases ht0:t=0
   ·subst ht0
    clear kB;go_wp2;go_roundg (5 - (1+1))
    case measure=>exact Bc
    case rel=>exact ⟨1+1,by omega,rfl,by go_num,Er (p:=fun x=>decide (x=0)) HT.o rfl HV.o,CG.o⟩
   exact bT
  ·subst h0
   have hix:=IA.o.2.2.1;obtain ⟨t,ht⟩:=BH (Nf s);have HT:AI ((He pv s)[2]? =some t):=AF UX;have HC:AI (AS prog 67 #[(AO #[AA A1 n1 c1,AA A2 n2 c2,AA A3 n3 c3,AA A4 n4 c4,AA A5 n5 c5,AA A6 n6 c6])] wr fun e w'=>e=AV (AB AE t)/\AJ wr w'):=AF (by have:=g7 A1 A2 A3 A4 A5 A6 n1 c1 n2 c2 n3 c3 n4 c4 n5 c5 n6 c6 s wr (H3.o.mono BM HB.o) HI.o;rw [ht] at this;exact this)
   clear ht;go_wp2_with (go_at_call 67;refine HC.o.mono ?_;clear HC)
   first | rintro e w1 rfl hb1 | rintro e w1 ⟨rfl,hb1⟩
   have CG:=AF (AW DF.o hb1);have HB1:AI (AJ w w1):=AF (AW HB.o hb1);have kB:=HKB.o.below CG.o lb;clear hb1 a0 a1 a2 a3 a4 a5 b0 b1 b2 b3 b4 b5 b6 jJ;by_cases ht0:t=0
   ·subst ht0
    clear kB;go_wp2;go_roundg (5 - (2+1))
    case measure=>exact Bc
    case rel=>exact ⟨2+1,by omega,rfl,by go_num,Er (p:=fun x=>decide (x=0)) HT.o rfl HV.o,CG.o⟩
   exact bT
  ·subst h0
   have hix:=IA.o.2.2.2.1;obtain ⟨t,ht⟩:=BH (Kc s);have HT:AI ((He pv s)[3]? =some t):=AF UX;have HC:AI (AS prog 68 #[(AO #[AA A1 n1 c1,AA A2 n2 c2,AA A3 n3 c3,AA A4 n4 c4,AA A5 n5 c5,AA A6 n6 c6])] wr fun e w'=>e=AV (AB AE t)/\AJ wr w'):=AF (by have:=rW A1 A2 A3 A4 A5 A6 n1 c1 n2 c2 n3 c3 n4 c4 n5 c5 n6 c6 s pv wr (H1.o.mono Ba HB.o) (H2.o.mono Bn HB.o) (H3.o.mono BM HB.o) (H4.o.mono Bh HB.o) (H5.o.mono Bo HB.o) (H6.o.mono BN HB.o) (yY.o.below HB.o);rw [ht] at this;exact this)
   clear ht;go_wp2_with (go_at_call 68;refine HC.o.mono ?_;clear HC)
   first | rintro e w1 rfl hb1 | rintro e w1 ⟨rfl,hb1⟩
   have CG:=AF (AW DF.o hb1);have HB1:AI (AJ w w1):=AF (AW HB.o hb1);have kB:=HKB.o.below CG.o lb;clear hb1 a0 a1 a2 a3 a4 a5 b0 b1 b2 b3 b4 b5 b6 jJ;by_cases ht0:t=0
   ·subst ht0
    clear kB;go_wp2;go_roundg (5 - (3+1))
    case measure=>exact Bc
    case rel=>exact ⟨3+1,by omega,rfl,by go_num,Er (p:=fun x=>decide (x=0)) HT.o rfl HV.o,CG.o⟩
   exact bT
  subst h0;have hix:=IA.o.2.2.2.2;obtain ⟨t,ht⟩:=BH (QV pv s);have HT:AI ((He pv s)[4]? =some t):=AF UX;have HC:AI (AS prog 69 #[(AO #[AA A1 n1 c1,AA A2 n2 c2,AA A3 n3 c3,AA A4 n4 c4,AA A5 n5 c5,AA A6 n6 c6])] wr fun e w'=>e=AV (AB AE t)/\AJ wr w'):=AF (by have:=Zz A1 A2 A3 A4 A5 A6 n1 c1 n2 c2 n3 c3 n4 c4 n5 c5 n6 c6 s pv wr (H5.o.mono Bo HB.o) (yY.o.below HB.o).vers;rw [ht] at this;exact this)
  clear ht;go_wp2_with (go_at_call 69;refine HC.o.mono ?_;clear HC)
  first | rintro e w1 rfl hb1 | rintro e w1 ⟨rfl,hb1⟩
  have CG:=AF (AW DF.o hb1);have HB1:AI (AJ w w1):=AF (AW HB.o hb1);have kB:=HKB.o.below CG.o lb;clear hb1 a0 a1 a2 a3 a4 a5 b0 b1 b2 b3 b4 b5 b6 jJ;by_cases ht0:t=0
  ·subst ht0
   clear kB;go_wp2;go_roundg (5 - (4+1))
   case measure=>exact Bc
   case rel=>exact ⟨4+1,by omega,rfl,by go_num,Er (p:=fun x=>decide (x=0)) HT.o rfl HV.o,CG.o⟩
  exact bT
 obtain rfl:j=5:=AG
 have EL:AI ((He pv s).all (fun x=>decide (x=0))=true):=AF HV.o;have HZ:AI (FE s=0/\Kc s=0):=AF (by have:=Dr.1 EL.o;exact ⟨by simpa using this (FE s) (by simp [He]),by simpa using this (Kc s) (by simp [He])⟩)
 have LJ:=AF H3.o.1.len;have QE:AI (n3<=1000/\∀r∈s.rules,(0<=r.schema/\r.schema < n3)/\∀f∈r.froms,0<=f.schema/\f.schema < n3):=AF (by obtain ⟨h1,h2,h3,h4,h5⟩:=Tm HZ.o.1;refine ⟨by have:=Ov h1;have:=LJ.o;omega,fun r hr=> ?_⟩;rw [LJ.o];exact mE)
 have I5:AI (decide (n3<=(Cr s.rules n3).length)=true):=AF (by
  have:=HZ.o.2;unfold Kc at this;rw [<-LJ.o] at this;split at this
  ·split at this
   · next h=>simp only [BZ] at h;exact h.1
   · cases this
  · next h=>exact absurd this h)
 go_wp2_with (go_at_call 70;refine (XZ A1 A2 A3 A4 A5 A6 n1 c1 n2 c2 n3 c3 n4 c4 n5 c5 n6 c6 s.rules wr (H4.o.1.mono Bh HB.o) QE.o.1 QE.o.2).mono ?_)
 first | rintro e w2 v ok rfl hok hv hb2 | rintro e w2 ⟨v,ok,rfl,hok,hv,hb2⟩
 rw [I5.o] at hok;subst hok;simp only [Ct] at hv;obtain ⟨C,d,rfl⟩:=(M6 hv).form;have Dw:=AF hv;have oT:gb < wr.heap.size:=(HKB.o.below DF.o lb).lt;have HB2:AI (AJ w w2):=AF (AW HB.o hb2);have DX:=AF (AW DF.o hb2);have kA:=Zu.o.below DX.o la;have kB:=HKB.o.below DX.o lb;clear hv hb2 a0 a1 a2 a3 a4 a5 b0 b1 b2 b3 b4 b5 b6 lar jJ;have a0:=kA.cell 0;have a1:=kA.cell 1;have a2:=kA.cell 2;have a3:=kA.cell 3;have a4:=kA.cell 4;have a5:=kA.cell 5;have b0:=kB.cell 0;have b1:=kB.cell 1;have b2:=kB.cell 2;have b3:=kB.cell 3;have b4:=kB.cell 4;have b5:=kB.cell 5;have b6:=kB.cell 6;have f0:=kB.frozen 0;have f1:=kB.frozen 1;have f2:=kB.frozen 2;have f3:=kB.frozen 3;have f4:=kB.frozen 4;have f5:=kB.frozen 5;have f6:=kB.frozen 6;have jJ:=kB.lt;have lar:=kA.lt;simp only [Ai,An,Aw] at a0 a1 a2 a3 a4 a5 b0 b1 b2 b3 b4 b5 b6;have kE:=(((((((kB.put 0 (AA A1 n1 c1)).put 1 (AA A2 n2 c2)).put 2 (AA A3 n3 c3)).put 3 (AA A4 n4 c4)).put 4 (AA A5 n5 c5)).put 5 (AA A6 n6 c6)).put 6 (AA C (Cr s.rules n3).length d));have Zt:=AF kE;clear kA kB kE;go_wp2_with fail;have x0:=Zt.o.cell 0;have x1:=Zt.o.cell 1;have x2:=Zt.o.cell 2;have x3:=Zt.o.cell 3;have x4:=Zt.o.cell 4;have x5:=Zt.o.cell 5;have x6:=Zt.o.cell 6;simp only [Ju,Bp,B9,Ai,An,Aw] at x0 x1 x2 x3 x4 x5 x6;have hso:Ag 1 iR (((((((w2.setCell ⟨gb,0,none⟩ (AA A1 n1 c1)).setCell ⟨gb,1,none⟩ (AA A2 n2 c2)).setCell ⟨gb,2,none⟩ (AA A3 n3 c3)).setCell ⟨gb,3,none⟩ (AA A4 n4 c4)).setCell ⟨gb,4,none⟩ (AA A5 n5 c5)).setCell ⟨gb,5,none⟩ (AA A6 n6 c6)).setCell ⟨gb,6,none⟩ (AA C (Cr s.rules n3).length d)) (AA C (Cr s.rules n3).length d) (Cr s.rules n3):=M6 ((E9 (E9 (E9 (E9 (E9 (E9 (E9 Dw.o oT _) oT _) oT _) oT _) oT _) oT _) oT _));refine E8 (v:=BS #[AO #[AA A1 n1 c1,AA A2 n2 c2,AA A3 n3 c3,AA A4 n4 c4,AA A5 n5 c5,AA A6 n6 c6,AA C (Cr s.rules n3).length d],AB AE 0]) tp rfl ⟨.inr ⟨rm EL.o,C,d,by rw [<-LJ.o],by rw [<-LJ.o];exact hso⟩,(((((((HB2.o.setCell (p:=⟨gb,0,none⟩) O4 (AA A1 n1 c1)).setCell (p:=⟨gb,1,none⟩) O4 (AA A2 n2 c2)).setCell (p:=⟨gb,2,none⟩) O4 (AA A3 n3 c3)).setCell (p:=⟨gb,3,none⟩) O4 (AA A4 n4 c4)).setCell (p:=⟨gb,4,none⟩) O4 (AA A5 n5 c5)).setCell (p:=⟨gb,5,none⟩) O4 (AA A6 n6 c6)).setCell (p:=⟨gb,6,none⟩) O4 (AA C (Cr s.rules n3).length d))⟩
theorem gC (A7 B7:Option Aa) (n7 c7 m7 d7:Nat) (s:BD) (l r:AP) (w:AH) (h1:BQ 1 16 DV w (AA A1 n1 c1) s.Bl) (h2:BQ 5 56 CK w (AA A2 n2 c2) s.units) (h3:BQ 6 96 BR w (AA A3 n3 c3) s.Ap) (h4:BQ 5 96 CM w (AA A4 n4 c4) s.rules) (h5:BQ 5 72 By w (AA A5 n5 c5) s.converts) (h6:BQ 3 48 BT w (AA A6 n6 c6) s.purposes) (h7:Ag 1 iR w (AA A7 n7 c7) l) (k7:Ag 1 iR w (AA B7 m7 d7) r):
 AS prog 41 #[AO #[AA A1 n1 c1,AA A2 n2 c2,AA A3 n3 c3,AA A4 n4 c4,AA A5 n5 c5,AA A6 n6 c6,AA A7 n7 c7],AO #[AA A1 n1 c1,AA A2 n2 c2,AA A3 n3 c3,AA A4 n4 c4,AA A5 n5 c5,AA A6 n6 c6,AA B7 m7 d7]] w fun e w'=>e=AV (AX (BW l r))/\AJ w w':=by
 obtain ⟨H1,H2,H3,H4,H5,H6⟩:=FR h1 h2 h3 h4 h5 h6;clear h1 h2 h3 h4 h5 h6;obtain ⟨H7,K7⟩:=Aj h7 k7;clear h7 k7;go_enter func41,ntmps41;go_upto_region 1 with fail;obtain ⟨wb,hwb⟩:=Ab ((w.alloc (AQ #[AA A1 n1 c1,AA A2 n2 c2,AA A3 n3 c3,AA A4 n4 c4,AA A5 n5 c5,AA A6 n6 c6,AA A7 n7 c7] 32)).alloc (AQ #[AA A1 n1 c1,AA A2 n2 c2,AA A3 n3 c3,AA A4 n4 c4,AA A5 n5 c5,AA A6 n6 c6,AA B7 m7 d7] 32));rw [<-hwb];have hbb:AJ w wb:=by rw [hwb];exact Od
 have kA:AZ wb w.heap.size 32 #[AA A1 n1 c1,AA A2 n2 c2,AA A3 n3 c3,AA A4 n4 c4,AA A5 n5 c5,AA A6 n6 c6,AA A7 n7 c7]:=by rw [hwb];exact (AZ.new _ _ _).alloc _
 have kB:AZ wb (w.heap.size+1) 32 #[AA A1 n1 c1,AA A2 n2 c2,AA A3 n3 c3,AA A4 n4 c4,AA A5 n5 c5,AA A6 n6 c6,AA B7 m7 d7]:=by rw [hwb];exact EJ Ac
 obtain ⟨ga,hga⟩:=Ab w.heap.size;obtain ⟨gb,hgb⟩:=Ab (w.heap.size+1);rw [<-hgb] at kB ⊢;rw [<-hga] at kA ⊢;have G9:AI (ga=w.heap.size):=AF hga;clear hwb hga hgb;have a0:=kA.cell 0;have b0:=kB.cell 0;have a1:=kA.cell 1;have b1:=kB.cell 1;have a2:=kA.cell 2;have b2:=kB.cell 2;have a3:=kA.cell 3;have b3:=kB.cell 3;have a4:=kA.cell 4;have b4:=kB.cell 4;have a5:=kA.cell 5;have b5:=kB.cell 5;have la:=kA.lt;have lb:=kB.lt;simp only [Ai,An,Aw] at a0 a1 a2 a3 a4 a5 b0 b1 b2 b3 b4 b5;obtain ⟨HA,HB,BV⟩:=Az kA kB hbb;clear kA kB hbb;have HC:AI (AS prog 71 #[(AO #[AA A1 n1 c1,AA A2 n2 c2,AA A3 n3 c3,AA A4 n4 c4,AA A5 n5 c5,AA A6 n6 c6]),(AO #[AA A1 n1 c1,AA A2 n2 c2,AA A3 n3 c3,AA A4 n4 c4,AA A5 n5 c5,AA A6 n6 c6])] wb fun e w'=>e=AV (AX true)/\AJ wb w'):=AF (by
  have:=Uo A1 A1 A2 A2 A3 A3 A4 A4 A5 A5 A6 A6 n1 c1 n1 c1 n2 c2 n2 c2 n3 c3 n3 c3 n4 c4 n4 c4 n5 c5 n5 c5 n6 c6 n6 c6 s s wb
   (H1.o.1.mono Ba BV.o) (H1.o.1.mono Ba BV.o) (H2.o.1.mono Bn BV.o) (H2.o.1.mono Bn BV.o) (H3.o.1.mono BM BV.o) (H3.o.1.mono BM BV.o)
   (H4.o.1.mono Bh BV.o) (H4.o.1.mono Bh BV.o) (H5.o.1.mono Bo BV.o) (H5.o.1.mono Bo BV.o) (H6.o.1.mono BN BV.o) (H6.o.1.mono BN BV.o)
  rw [Bg rfl] at this;exact this)
 go_wp2_with (go_at_call 71;refine HC.o.mono ?_;clear HC)
 first | rintro e w1 rfl hb1 | rintro e w1 ⟨rfl,hb1⟩
 have HB1:AI (AJ w w1):=AF (AW BV.o hb1);have a6:=(HA.o.below hb1 la).cell 6;have b6:=(HB.o.below hb1 lb).cell 6;simp only [Ai,An,Aw] at a6 b6;clear hb1 a0 a1 a2 a3 a4 a5 b0 b1 b2 b3 b4 b5;go_wp2_with (go_at_call 62;refine (Sd A7 B7 n7 c7 m7 d7 l r w1 (H7.o.mono JS HB1.o) (K7.o.mono JS HB1.o)).mono ?_)
 first | rintro e w2 rfl hb2 | rintro e w2 ⟨rfl,hb2⟩
 have HB2:AI (AJ w w2):=AF (AW HB1.o hb2);clear hb2;exact mL
def U2 (pv:C4->Bool) (s:BD) (l:AP):Int:=if Ot pv s=0/\Cr s.rules s.Ap.length=l then 0 else 160
theorem Z7 (A7:Option Aa) (n7 c7:Nat) (s:BD) (l:AP) (pv:C4->Bool) (w:AH) (h1:BQ 1 16 DV w (AA A1 n1 c1) s.Bl) (h2:BQ 5 56 CK w (AA A2 n2 c2) s.units) (h3:BQ 6 96 BR w (AA A3 n3 c3) s.Ap) (h4:BQ 5 96 CM w (AA A4 n4 c4) s.rules) (h5:BQ 5 72 By w (AA A5 n5 c5) s.converts) (h6:BQ 3 48 BT w (AA A6 n6 c6) s.purposes) (h7:Ag 1 iR w (AA A7 n7 c7) l) (hsub:aw A1 A2 A3 A4 A5 A6 n1 c1 n2 c2 n3 c3 n4 c4 n5 c5 n6 c6 s pv w) (hI:∀x∈s.Ap,∀d∈x.deps,IY d):
 AS prog 17 #[AO #[AA A1 n1 c1,AA A2 n2 c2,AA A3 n3 c3,AA A4 n4 c4,AA A5 n5 c5,AA A6 n6 c6,AA A7 n7 c7]] w fun e w'=>e=AV (AB AE (U2 pv s l))/\AJ w w':=by
 have hb0:AJ w (w.alloc (AQ #[AA A1 n1 c1,AA A2 n2 c2,AA A3 n3 c3,AA A4 n4 c4,AA A5 n5 c5,AA A6 n6 c6,AA A7 n7 c7] 32)):=(BP _ _);have HC:AI (AS prog 40 #[(AO #[AA A1 n1 c1,AA A2 n2 c2,AA A3 n3 c3,AA A4 n4 c4,AA A5 n5 c5,AA A6 n6 c6])] (w.alloc (AQ #[AA A1 n1 c1,AA A2 n2 c2,AA A3 n3 c3,AA A4 n4 c4,AA A5 n5 c5,AA A6 n6 c6,AA A7 n7 c7] 32)) (qD A1 A2 A3 A4 A5 A6 n1 c1 n2 c2 n3 c3 n4 c4 n5 c5 n6 c6 pv s (w.alloc (AQ #[AA A1 n1 c1,AA A2 n2 c2,AA A3 n3 c3,AA A4 n4 c4,AA A5 n5 c5,AA A6 n6 c6,AA A7 n7 c7] 32)))):=AF (ABZ A1 A2 A3 A4 A5 A6 n1 c1 n2 c2 n3 c3 n4 c4 n5 c5 n6 c6 s pv _ (h1.mono Ba hb0) (h2.mono Bn hb0) (h3.mono BM hb0) (h4.mono Bh hb0) (h5.mono Bo hb0) (h6.mono BN hb0) (hsub.below hb0) hI);obtain ⟨HB0,H1,H2,H3,H4,H5,H6⟩:=LW hb0 h1 h2 h3 h4 h5 h6;clear h1 h2 h3 h4 h5 h6;have H7:=AF h7;clear hb0 h7 hsub hI;go_enter func17,ntmps17;go_wp2_with (go_at_call 40;refine HC.o.mono ?_);rintro e w1 ⟨hor,hb1⟩;have HB1:AI (AJ w w1):=AF (AW HB0.o hb1);have kb:=(AZ.new w 32 #[AA A1 n1 c1,AA A2 n2 c2,AA A3 n3 c3,AA A4 n4 c4,AA A5 n5 c5,AA A6 n6 c6,AA A7 n7 c7]).below hb1 Ac;have q0:=kb.cell 0;have q1:=kb.cell 1;have q2:=kb.cell 2;have q3:=kb.cell 3;have q4:=kb.cell 4;have q5:=kb.cell 5;have q6:=kb.cell 6;have lq:=kb.lt;simp only [Ai,An,Aw] at q0 q1 q2 q3 q4 q5 q6;clear hb1 kb HC;rcases hor with ⟨hne,rfl⟩ | ⟨hz,C,d,rfl,ho⟩
 ·obtain ⟨t,ht⟩:=BH (Ot pv s)
  have HP:AI (U2 pv s l=160):=AF (by rw [U2,Ah (fun h=>hne h.1)]);rw [ht] at hne ⊢;have htn:(t !=0)=true:=by simpa using hne
  clear ht;go_wp2;go_ret;exact ⟨C8 HP.o.symm,HB1.o.alloc HB1.o.size _⟩
 obtain ⟨L,hL⟩:=BH (Cr s.rules s.Ap.length);rw [hL] at ho ⊢;obtain ⟨v,hv⟩:=BH (BW L l);obtain ⟨HV,HZ,jx⟩:=Az hv hz hL;have Zl:AI (∀o,AS prog 41 #[AO #[AA A1 n1 c1,AA A2 n2 c2,AA A3 n3 c3,AA A4 n4 c4,AA A5 n5 c5,AA A6 n6 c6,AA C L.length d],AO #[AA A1 n1 c1,AA A2 n2 c2,AA A3 n3 c3,AA A4 n4 c4,AA A5 n5 c5,AA A6 n6 c6,AA A7 n7 c7]] (w1.alloc o) fun e w'=>e=AV (AX v)/\BK (w1.alloc o).heap.size (w1.alloc o) w'):=AF (fun o=>by have hba:AJ w1 (w1.alloc o):=(Af _ _).alloc (Ad _) o;have hbw:=AW HB1.o hba;have:=gC A1 A2 A3 A4 A5 A6 n1 c1 n2 c2 n3 c3 n4 c4 n5 c5 n6 c6 C A7 L.length d n7 c7 s L l (w1.alloc o) (H1.o.mono Ba hbw) (H2.o.mono Bn hbw) (H3.o.mono BM hbw) (H4.o.mono Bh hbw) (H5.o.mono Bo hbw) (H6.o.mono BN hbw) (ho.mono JS hba) (H7.o.mono JS hbw);rw [hv] at this;exact this)
 clear hv hz hL ho;go_wp2_with (go_at_call 41;refine (Zl.o _).mono ?_;clear Zl)
 first | rintro e w2 rfl hb2 | rintro e w2 ⟨rfl,hb2⟩
 have HB2:AI (AJ w w2):=AF ((HB1.o.alloc HB1.o.size _).trans (hb2.mono fO));clear hb2;cases v with
 |
  true=>
  go_wp2;go_ret;exact ⟨C8 (by rw [U2,Am ⟨HZ.o,by rw [jx.o];exact Fj HV.o⟩]),HB2.o⟩
 |
  false=>
  go_wp2;go_ret;exact ⟨C8 (by rw [U2,Ah (fun h=>by have h2:=h.2;rw [jx.o] at h2;exact absurd h2 (Mu HV.o))]),HB2.o⟩
theorem AFw {n2:Nat} {iss:Nat} {ss:List BI} (h:ss.all (Dn iss n2)=true):∀x∈ss,∀f∈x.fields,QX n2 f.type:=by intro x hx f hf;have h1:=Dr.1 h x hx;simp only [Dn,BZ] at h1;have h2:=Dr.1 h1.2 f hf;simp only [Jz,BZ] at h2;intro hk;have h3:=h2.1;rw [JW,Am hk] at h3;simp only [BZ,Bw] at h3;exact ⟨h3.1.1.2,h3.1.2⟩
theorem ACi (s:BD) (w:AH) (h2:BQ 5 56 CK w (AA A2 n2 c2) s.units) (h3:BQ 6 96 BR w (AA A3 n3 c3) s.Ap):aw A1 A2 A3 A4 A5 A6 n1 c1 n2 c2 n3 c3 n4 c4 n5 c5 n6 c6 s (M5 n2 s.Ap) w:=by
 have hn2:n2<=9223372036854775807:=by have:=h2.1.le;omega
 have hl2:=h2.1.len;refine ⟨fun hs W g hW hk=> ?_,fun W hW=> ?_,fun W hW=> ?_⟩
 ·intro W' cs x hW' hx hR
  obtain ⟨F1,m1,d1,F2,m2,d2,F3,m3,d3,rfl,f1,f2,f3⟩:=hR;have hw:=AW hW hW';have:=yH A1 A2 A3 A4 A5 A6 n1 c1 n2 c2 n3 c3 n4 c4 n5 c5 n6 c6 g F1 F2 F3 m1 d1 m2 d2 m3 d3 x.head x.schema x.froms x.DQ x.sets s.units s.Ap W' (hk.below hW' hk.lt) (h2.1.mono Bn hw) (h3.1.mono BM hw) f1.1 f2.1 f3 (by rw [hl2];exact AFw hs);exact this
 ·intro W' cs x hW' hx hR
  obtain ⟨F1,m1,d1,rfl,f1⟩:=hR;have hw:=AW hW hW';have:=kj A1 A2 A3 A4 A5 A6 n1 c1 n2 c2 n3 c3 n4 c4 n5 c5 n6 c6 x.name x.may x.most F1 m1 d1 s.Ap w W' hw h3.1 f1.1;exact this
 intro W' cs x hW' hx hR;obtain ⟨F1,m1,d1,rfl,f1⟩:=hR;have hw:=AW hW hW';have:=vh A1 A2 A3 A4 A5 A6 n1 c1 n2 c2 n3 c3 n4 c4 n5 c5 n6 c6 x.from_ x.DU x.a x.b x.moves F1 m1 d1 s.Ap W' W' (Af _ _) hn2 (h3.1.mono BM hw) f1.1;exact this
end Go.Proofs.YtpmpddfgifhlbaaGreatDoor
