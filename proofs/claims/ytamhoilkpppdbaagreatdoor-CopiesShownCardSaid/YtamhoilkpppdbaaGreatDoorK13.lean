import Derived.Test.YtamhoilkpppdbaaGreatDoorK11
import Derived.Test.YtamhoilkpppdbaaGreatDoorK12
namespace Go.Proofs.YtamhoilkpppdbaaGreatDoor
set_option maxHeartbeats 8000000
set_option maxRecDepth 100000
open Go renaming World→AH, Value→AN, Calls→AS, TypeId→Af, Program→BA, Addr→Aa
open Go.RowKit renaming Below→BI
open Go.Proofs.Tryz
open Go.Value renaming slice→AB, int→AE, pointer→AW, bool→Ab, agg→AP, tuple→BQ
open Go.IntKind renaming i64→AF
open Go.Ending renaming returned→AU
open Go.Obj renaming cells→AO
open Go.Operand renaming tmp→AY
open Go.RowKit Go.Shelf
attribute [local go_sem] Oper.semAt_some
theorem Vp (e:Int) (w:AH):AS prog 37 #[.iface 133 (AP #[AE AF e])] w fun en w'=>en=AU (AE AF e)/\AK w w':=by
 have hta:∀w:AH,(Instr.typeAssert (.iface 133 (AP #[AE AF e])) 20 133 true).run prog w=.ok (BQ #[AP #[AE AF e],Ab true]) w:=fun w=>by simp [Instr.typeAssert,run_underlying underlying133,go_sem,Result.andThen]
 go_enter func37,ntmps37;exact xX
def Ju (e:Int):AN:=.iface 133 (AP #[AE AF e])
theorem ah (p:Aa) (w:AH):
 CallsD prog 36 #[AW (some p)] .returning w fun e u' w'=>e=AU (BQ #[])/\u'=.returning/\w'=w:=by
 refine N4 func36 rfl fun c₀ cs hu=> ?_;apply wpS_seq;apply Nz;simp [wpOpsS,go_sem,recoverD,hu,ntmps36,Exit.thenS];refine Ny ?_;change Code.wp _ _ _ {tmps:=#[AW (some p),.nilIface,.nilIface,undef,undef,undef,undef],defers:=[]} w;go_wp2_with fail;cases c₀;simp_all [bodyPostS,results,results36]
theorem ag (D:Nat) (e0 e:Int) (w:AH) (hd:w.cell? ⟨D,0,none⟩=some (AE AF e0)) (hz:w.frozen? ⟨D,0,none⟩=false) (hD:D < w.heap.size):
 CallsD prog 36 #[AW (some ⟨D,0,none⟩)] (.panicking (G4 e)) w fun en u' w'=>
  en=AU (BQ #[])/\u'=.panicking [{v:=Ju e,recovered:=true}]/\w'.cell? ⟨D,0,none⟩=some (AE AF e)/\∀base,base<=D->BI base w w':=by
 unfold G4;refine N4 func36 rfl fun c₀ cs hu=> ?_;apply wpS_seq;apply Nz;simp [wpOpsS,go_sem,recoverD,hu,ntmps36,Exit.thenS];refine Ny ?_;change Code.wp _ _ _ {tmps:=#[AW (some ⟨D,0,none⟩),Ju e,Ju e,undef,undef,undef,undef],defers:=[]} w;unfold Ju;go_wp2_with (
  go_at_call 37;refine (Vp e _).mono ?_;rintro e w5 ⟨rfl,hb5⟩;have d5:=(hb5.cell (p:=⟨D,0,none⟩) hD).trans hd;have z5:=(hb5.frozen (p:=⟨D,0,none⟩) hD).trans hz;have HB:=AA hb5;clear hb5)
 refine ⟨rfl,.panicking [{v:=.iface 133 (AP #[AE AF e]),recovered:=true}],rfl,BQ #[],by simp [results,results36],rfl,rfl,?_,fun base hb=> ?_⟩
 · simp [go_sem, *]
 · exact lD
theorem dN (p:Aa) (w:AH):
 CallsD prog 42 #[AW (some p)] .returning w fun e u' w'=>e=AU (BQ #[])/\u'=.returning/\w'=w:=by
 refine N4 func42 rfl fun c₀ cs hu=> ?_;apply wpS_seq;apply Nz;simp [wpOpsS,go_sem,recoverD,hu,ntmps42,Exit.thenS];refine Ny ?_;change Code.wp _ _ _ {tmps:=#[AW (some p),.nilIface,.nilIface,undef,undef,undef,undef],defers:=[]} w;go_wp2_with fail;cases c₀;simp_all [bodyPostS,results,results42]
theorem dM (D:Nat) (e0 e:Int) (w:AH) (hd:w.cell? ⟨D,0,none⟩=some (AE AF e0)) (hz:w.frozen? ⟨D,0,none⟩=false) (hD:D < w.heap.size):
 CallsD prog 42 #[AW (some ⟨D,0,none⟩)] (.panicking (G4 e)) w fun en u' w'=>
  en=AU (BQ #[])/\u'=.panicking [{v:=Ju e,recovered:=true}]/\w'.cell? ⟨D,0,none⟩=some (AE AF e)/\∀base,base<=D->BI base w w':=by
 unfold G4;refine N4 func42 rfl fun c₀ cs hu=> ?_;apply wpS_seq;apply Nz;simp [wpOpsS,go_sem,recoverD,hu,ntmps42,Exit.thenS];refine Ny ?_;change Code.wp _ _ _ {tmps:=#[AW (some ⟨D,0,none⟩),Ju e,Ju e,undef,undef,undef,undef],defers:=[]} w;unfold Ju;go_wp2_with (
  go_at_call 37;refine (Vp e _).mono ?_;rintro e w5 ⟨rfl,hb5⟩;have d5:=(hb5.cell (p:=⟨D,0,none⟩) hD).trans hd;have z5:=(hb5.frozen (p:=⟨D,0,none⟩) hD).trans hz;have HB:=AA hb5;clear hb5)
 refine ⟨rfl,.panicking [{v:=.iface 133 (AP #[AE AF e]),recovered:=true}],rfl,BQ #[],by simp [results,results42],rfl,rfl,?_,fun base hb=> ?_⟩
 · simp [go_sem, *]
 · exact lD
theorem ZA (p:Aa) (w:AH):
 CallsD prog 45 #[AW (some p)] .returning w fun e u' w'=>e=AU (BQ #[])/\u'=.returning/\w'=w:=by
 refine N4 func45 rfl fun c₀ cs hu=> ?_;apply wpS_seq;apply Nz;simp [wpOpsS,go_sem,recoverD,hu,ntmps45,Exit.thenS];refine Ny ?_;change Code.wp _ _ _ {tmps:=#[AW (some p),.nilIface,.nilIface,undef,undef,undef,undef],defers:=[]} w;go_wp2_with fail;cases c₀;simp_all [bodyPostS,results,results45]
theorem Y9 (D:Nat) (e0 e:Int) (w:AH) (hd:w.cell? ⟨D,0,none⟩=some (AE AF e0)) (hz:w.frozen? ⟨D,0,none⟩=false) (hD:D < w.heap.size):
 CallsD prog 45 #[AW (some ⟨D,0,none⟩)] (.panicking (G4 e)) w fun en u' w'=>
  en=AU (BQ #[])/\u'=.panicking [{v:=Ju e,recovered:=true}]/\w'.cell? ⟨D,0,none⟩=some (AE AF e)/\∀base,base<=D->BI base w w':=by
 unfold G4;refine N4 func45 rfl fun c₀ cs hu=> ?_;apply wpS_seq;apply Nz;simp [wpOpsS,go_sem,recoverD,hu,ntmps45,Exit.thenS];refine Ny ?_;change Code.wp _ _ _ {tmps:=#[AW (some ⟨D,0,none⟩),Ju e,Ju e,undef,undef,undef,undef],defers:=[]} w;unfold Ju;go_wp2_with (
  go_at_call 37;refine (Vp e _).mono ?_;rintro e w5 ⟨rfl,hb5⟩;have d5:=(hb5.cell (p:=⟨D,0,none⟩) hD).trans hd;have z5:=(hb5.frozen (p:=⟨D,0,none⟩) hD).trans hz;have HB:=AA hb5;clear hb5)
 refine ⟨rfl,.panicking [{v:=.iface 133 (AP #[AE AF e]),recovered:=true}],rfl,BQ #[],by simp [results,results45],rfl,rfl,?_,fun base hb=> ?_⟩
 · simp [go_sem, *]
 · exact lD
section
variable {H:AQ->AQ->Dg}
theorem j7 {nf:Option Nat} {val:Int->Int->Bool} {r:CM} {c:Fb} (h:¬O5 nf val r c=true):EX H 0 nf val r c=190:=by unfold EX;rw [Ai AX,Ai h]
theorem V8 {nf:Option Nat} {val:Int->Int->Bool} {r:CM} {s:IX} (h:¬Js nf val r s=true):DK H 0 nf val r s=190:=by unfold DK;rw [Ai AX,Ai h]
theorem fK {ck:Int} {nf:Option Nat} {val:Int->Int->Bool} {r:CM} {s:IX} (h:DK H ck nf val r s=0):ck=0/\Js nf val r s=true/\∀(j:Nat) (m:Int×Dg) (c:Cj),(Up H (nf.getD 0) s)[j]? =some m->s.claims[j]? =some c->c.index=m.1/\FO H r.root (r.places*(((nf.getD 0:Nat):Int)+4+1)) m.2 c=true:=by
 unfold DK at h;by_cases h0:ck=0
 ·rw [Ai (by simp [h0])] at h
  by_cases h1:Js nf val r s=true
  ·rw [Ao h1,Mb] at h
   exact ⟨h0,h1,h⟩
  · rw [Ai h1] at h;cases h
 · rw [Ao h0] at h;cases h
theorem cL {n:Nat} {s:IX} (hv:s.values.length=s.fields.length) {j:Nat} {f:Int} (hf:s.fields[j]? =some f):(Up H n s)[j]? =some (s.place*((n:Int)+4+1)+f,msgP H s.schema f (s.values.getD j 0) s.holder):=by
 have hj:=(BD.1 hf).1;have ez:(s.fields.zip s.values)[j]? =some (f,s.values.getD j 0):=by rw [Ic];exact ⟨hf,by rw [Cv,BJ AG];rfl⟩
 unfold Up Ga Fm;rw [Jk,ES (by simp [hv];omega),Bb,ez];rfl
end
attribute [local go_sem] Oper.semAt_some
section
variable {P:BA} {md:Region.Mode} {ops:Array Oper} {Q:Exit->Act->AH->Prop} {S:AH->Prop} {fuel:Nat} {listed:Array Bool} {l:List AN} {D:List Deferred} {w:AH}
theorem Bl (i d:Nat) {oi:Oper} {v:AN} (hB:Wt md ops listed i=true) (hi:ops[i]? =some oi) (hd:oi.dst=some d) (hQ:∀c (a:Act) v w,Q (.panic c) (a.put (some d) v) w->Q (.panic c) a w) (hS:S w)
 (hw:Region.wanted oi (yielded ops l.toArray)=true) (hv:∀w,S w->(execOp (Act.eval ⟨l.toArray,D⟩) oi).run P w=.ok (.value v) w)
 (h:wpAnyH P md ops Q S fuel (listed.setIfInBounds i true) ⟨(l.set d v).toArray,D⟩ w):wpAnyH P md ops Q S (fuel+1) listed ⟨l.toArray,D⟩ w:=by
 exact yE
theorem LO (i d:Nat) {oi:Oper} (hB:Wt md ops listed i=true) (hi:ops[i]? =some oi) (hd:oi.dst=some d) (hQ:∀c (a:Act) v w,Q (.panic c) (a.put (some d) v) w->Q (.panic c) a w) (hS:S w)
 (hw:Region.wanted oi (yielded ops l.toArray)=false)
 (h:wpAnyH P md ops Q S fuel (listed.setIfInBounds i true) ⟨(l.set d undef).toArray,D⟩ w):wpAnyH P md ops Q S (fuel+1) listed ⟨l.toArray,D⟩ w:=by
 simp only [Bj] at hB;rw [<-M8,<-hd] at h;exact wpAnyH_take hi hB.1 hB.2.1 hB.2.2 (fun c a w hq=>by rw [hd] at hq;exact hQ c a _ w hq) (.inr ⟨hw,rfl⟩) hS h
theorem Wu (i d:Nat) {o:Oper} {f:FuncId} {xs:Array Operand} {ts:Array Af} {args:Array AN} {R:Ending->AH->Prop} (hr:Region.ready md ops listed=[i]) (hi:ops[i]? =some o) (hd:o.dst=some d) (hg:o.guard=none)
 (ho:o.op=.call {callee:=.value (.func f),args:=xs,argTypes:=ts}) (he:Enters P f) (hc:AS P f args w R) (ha:xs.toList.map (Act.eval ⟨l.toArray,D⟩)=args.toList)
 (h:∀e w',R e w'->(∃v,e=AU v/\S w'/\wpAnyH P md ops Q S fuel (listed.setIfInBounds i true) ⟨(l.set d v).toArray,D⟩ w')\/∃ch,e=.panicked ch/\Q (.panic ch) ⟨l.toArray,D⟩ w'):wpAnyH P md ops Q S (fuel+1) listed ⟨l.toArray,D⟩ w:=by
 refine tF i hr hi hg ?_;have e:xs.map (Act.eval ⟨l.toArray,D⟩)=args:=by apply Tl.1;rw [Q9];exact ha
 have hex:(execOp (Act.eval ⟨l.toArray,D⟩) o).run P w=.ok (.enter f args) w:=by unfold execOp;rw [ho];simp [resolve,Act.eval,Deferred.ofValue,invoke,<-e];exact he _ w
 unfold Oper.wp;rw [hex];exact hc.mono fun e w' hR=>by
  rcases h e w' hR with ⟨v,rfl,hS,hk⟩ | ⟨ch,rfl,hq⟩
  ·rw [<-M8,<-hd] at hk
   exact ⟨hS,hk⟩
  · exact hq
end
theorem VO {n:Nat} (h:n<=1000):∀f∈upto n,0<=f/\f<=1000:=fun f hf=>by simp only [upto,Dd,Ed] at hf;obtain ⟨i,hi,rfl⟩:=hf;omega
theorem TW {P:BA} {fn:Func} {t t':Array AN} {R:Ending->AH->Prop} (h:results fn t=results fn t'):∀(ds:List Deferred) (u:FrameMode) (w:AH),Leaves P fn t R ds u w->Leaves P fn t' R ds u w
 | [],.returning,_,⟨v,hv,hr⟩=>⟨v,h ▸ hv,hr⟩
 | [],.panicking _,_,hr=>hr
 | [],.run,_,hr=>hr.elim
 |
  _::ds,_,_,⟨hu,fv,cap,f,args,h1,h2,hc⟩=>⟨hu,fv,cap,f,args,h1,h2,hc.mono fun e u' w' hh=>by
  cases e with
  | returned v=>exact TW h ds _ _ hh
  | panicked c=>exact TW h ds _ _ hh
  | outgrown=>exact hh⟩
theorem D8 {P:BA} {fn:Func} {R:Ending->AH->Prop} {K:Act->AH->Prop} {d p:Nat} {ty:Af} (hr:fn.results=#[.cell p ty]) (hd:d≠p):∀c (a:Act) v w,Exit.then K (bodyPostD P fn R) (.panic c) (a.put (some d) v) w->Exit.then K (bodyPostD P fn R) (.panic c) a w:=fun c a v w h=>by
 refine TW (t:=(a.put (some d) v).tmps) ?_ _ _ _ h;have e:(a.tmps.setIfInBounds d v)[p]?.getD undef=a.tmps[p]?.getD undef:=by rw [PY,Ai hd]
 simp [results,hr,Act.put,e]
theorem AAY {tmps:Array AN} {w W:AH} {g:Nat} {e k:Int} {R:Ending->AH->Prop} (hg:tmps.getD 6 undef=AW (some ⟨g,0,none⟩)) (hk:W.cell? ⟨g,0,none⟩=some (AE AF k)) (hz:W.frozen? ⟨g,0,none⟩=false) (hlt:g < W.heap.size) (hgw:w.heap.size<=g) (hb:AK w W)
 (hR:∀w'',AK w w''->R (AU (AE AF e)) w''):Leaves prog f13 tmps R [{target:=.fn (.func 36) #[AW (some ⟨g,0,none⟩)],args:=#[]}] (.panicking (G4 e)) W:=by
 refine N0 (f:=36) (args:=#[AW (some ⟨g,0,none⟩)]) AX Kp ?_;refine (ag g k e W hk hz hlt).mono ?_;rintro en u' w'' ⟨rfl,rfl,hc,hb'⟩;have hg':tmps[6]?.getD undef=AW (some ⟨g,0,none⟩):=by simpa using hg
 exact ⟨_,by simp [results,results13,hg',asAddr,go_sem,hc],hR _ (hb.trans (hb' _ hgw))⟩
theorem AEi {tmps:Array AN} {W:AH} {g:Nat} {e:Int} {R:Ending->AH->Prop} (hg:tmps.getD 6 undef=AW (some ⟨g,0,none⟩)) (hk:W.cell? ⟨g,0,none⟩=some (AE AF e)) (hR:R (AU (AE AF e)) W):
 Leaves prog f13 tmps R [{target:=.fn (.func 36) #[AW (some ⟨g,0,none⟩)],args:=#[]}] .returning W:=by
 refine N0 (f:=36) (args:=#[AW (some ⟨g,0,none⟩)]) AX Kp ?_;refine (ah ⟨g,0,none⟩ W).mono ?_;rintro en u' w'' ⟨rfl,rfl,rfl⟩;have hg':tmps[6]?.getD undef=AW (some ⟨g,0,none⟩):=by simpa using hg
 exact ⟨_,by simp [results,results13,hg',asAddr,go_sem,hk],hR⟩
theorem jl (v0 v1 v3 v4 v5 v6:AN) (A:Option Aa) (n c:Nat) (ns:List Nat) (ck:Int) (val:Int->Int->Int->Bool) (r:CM) (q:Fb) (VA LA KA:Option Aa) (vn vc ln lc kn kc:Nat) (w:AH) (hs:Ag 6 Lz w (AB A n c) ns)
 (hK:Ql (AP #[v0,v1,AB A n c,v3,v4,v5]) (AP #[v0,v1,AB A n c,v3,v4,v5,v6]) ck val w) (hv:Ag 1 CK w (AB VA vn vc) q.values) (hl:Ag 32 CV w (AB LA ln lc) q.links) (hk:Ag 3 Dt w (AB KA kn kc) q.claims)
 (hh:q.holder.length=32) (hro:r.root.length=32) (MT:Ca w):
 AS prog 13 #[AP #[v0,v1,AB A n c,v3,v4,v5,v6],AP (rdA r),AP (Fs ⟨q.Ar,q.round,q.schema,q.place,q.holder,AB VA vn vc,AB LA ln lc,AB KA kn kc⟩)] w fun e w'=>
  e=AU (AE AF (EX Aw ck (Bm ns r.schema) (val r.schema) r q))/\AK w w':=by
 obtain ⟨p,hp⟩:=Ad (⟨q.Ar,q.round,q.schema,q.place,q.holder,AB VA vn vc,AB LA ln lc,AB KA kn kc⟩:TJ);rw [<-hp];obtain ⟨RR,hRR⟩:=Ad (rdA r);obtain ⟨Y,hY⟩:=Ad (Fs p);obtain ⟨res,hres⟩:=Ad (EX Aw ck (Bm ns r.schema) (val r.schema) r q);have WD:p.holder.length=32:=by rw [hp];exact hh
 rw [<-hY,<-hRR,<-hres];have WS:AI ((prog.info? 46).map (·.size)=some Y.size):=AA (by rw [hY,Ma WD];exact gL);have NK:AI ((prog.info? 36).map (·.size)=some RR.size):=AA UO;have MD:AI (∀W g,AZ W g 46 Y->pZ W g p):=AA (fun W g h=>by rw [hY] at h;exact O4 h WD);have Lg:AI (RR[0]? =some (AE AF r.Ar)/\RR[1]? =some (AE AF r.no)/\RR[2]? =some (AE AF r.schema)/\RR[5]? =some (AE AF r.places)):=AA ew
 have OW:AI (∀W,AK w W->AS prog 27 #[AP #[v0,v1,AB A n c,v3,v4,v5,v6],.agg RR] W fun e w'=>e=AU (Ab (GN (Bm ns r.schema) r.places))/\AK W w'):=AA (fun W hW=>by rw [hRR];exact Xd v0 v1 v3 v4 v5 v6 A n c ns r W (hs.mono EK hW));have dY:AI (∀(k x:Nat) (W:AH),AK w W->ns[k]? =some x->x<=1000->q.schema=k->AS prog 40 #[AP #[v0,v1,AB A n c,v3,v4,v5,v6],.agg Y] W fun e w'=>∃F L,e=AU (AP (JA ⟨q.Ar,q.round,q.schema,q.place,q.holder,F,AB VA vn vc,0,zeros 32,AB KA kn kc,L,AB LA ln lc,(x:Int)+4+1,(x:Int)+4⟩))/\Ag 1 CK w' F (upto x)/\Ag 1 CK w' L (upto 4)/\AK W w'):=AA (fun k x W hW hx h5 hsc=>by rw [hY,hp];exact (bT v0 v1 v3 v4 v5 v6 A n c ns k x ⟨q.Ar,q.round,q.schema,q.place,q.holder,AB VA vn vc,AB LA ln lc,AB KA kn kc⟩ VA LA KA vn vc ln lc kn kc W (hs.mono EK hW) hx h5 hh hsc rfl rfl rfl).mono fun e w' h=>by obtain ⟨F,L,h1,h2,h3,h4,_⟩:=h;exact ⟨F,L,h1,h2,h3,h4⟩)
 have OV:=AA hh;have Mn:=AA hK.chk;have HK:=AA hK;have HS:=AA hs;have HV:=AA hv;have HL:=AA hl;have Ng:=AA hk;have I0:=AA MT;have Vz:=AA hro;have HPH:=AA WD;have HP:=AA hp;have Gp:=AA hres;have HRR:=AA hRR;have HY:=AA hY;clear hs hK hv hl hk hh hro MT WD hp hres hRR hY;have hmf:∀(fn:Fn) (first cap:Array AN) (w:AH),(Instr.makeFunc fn first cap).run prog w=.ok (.func fn first cap) w:=fun _ _ _ _=>rfl
 go_enter_defers func13,ntmps13
 go_upto_region 2 with fail;obtain ⟨k1,b1,s1⟩:=bx w #[v0,v1,AB A n c,v3,v4,v5,v6] 32;generalize (w.alloc (AO #[v0,v1,AB A n c,v3,v4,v5,v6] 32))=w1 at k1 b1 s1 ⊢;obtain ⟨k2,b2,s2⟩:=bx w1 RR 36;generalize (w1.alloc (AO RR 36))=w2 at k2 b2 s2 ⊢;obtain ⟨k3,b3,s3⟩:=bx w2 Y 46;generalize (w2.alloc (AO Y 46))=w3 at k3 b3 s3 ⊢;obtain ⟨k4,b4,s4⟩:=bx w3 #[AE AF 0] 47;generalize (w3.alloc (AO #[AE AF 0] 47))=w4 at k4 b4 s4 ⊢;rw [s1] at k2 b2 s2;rw [s2] at k3 b3 s3;rw [s3] at k4 b4 s4;have CX:AI (AK w w4):=AA (((b1.trans (b2.mono AG)).trans (b3.mono AG)).trans (b4.mono AG));have H4:AI (w4.heap.size=w.heap.size+1+1+1+1):=AA AG;have HE:AI (∀W,AK w4 W->AZ W (w.heap.size+1) 36 RR/\AZ W (w.heap.size+1+1) 46 Y/\AZ W (w.heap.size+1+1+1) 47 #[AE AF 0]):=AA (fun W hW=>⟨((k2.below b3 AG).below b4 AG).below hW AG,(k3.below b4 AG).below hW AG,k4.below hW AG⟩);have HD:AI (∀W,AK w4 W->W.cell? ⟨w.heap.size,0,none⟩=some v0/\W.cell? ⟨w.heap.size,1,none⟩=some v1/\W.cell? ⟨w.heap.size,2,none⟩=some (AB A n c)/\W.cell? ⟨w.heap.size,3,none⟩=some v3/\W.cell? ⟨w.heap.size,4,none⟩=some v4/\W.cell? ⟨w.heap.size,5,none⟩=some v5/\W.cell? ⟨w.heap.size,6,none⟩=some v6):=AA (fun W hW=>by have b:=(((k1.below b2 AG).below b3 AG).below b4 AG).below hW AG;exact ⟨b.cell 0,b.cell 1,b.cell 2,b.cell 3,b.cell 4,b.cell 5,b.cell 6⟩)
 clear k1 b1 s1 k2 b2 s2 k3 b3 s3 k4 b4 s4;have Gq:AI (∀(tmps:Array AN) (W:AH) (e:Int),tmps.getD 6 undef=AW (some ⟨w.heap.size+1+1+1,0,none⟩)->AK w4 W->res=e->Leaves prog f13 tmps (fun e w'=>e=AU (AE AF res)/\AK w w') [{target:=.fn (.func 36) #[AW (some ⟨w.heap.size+1+1+1,0,none⟩)],args:=#[]}] (.panicking (G4 e)) W):=AA (fun tmps W e ht hW he=>by have k:=(HE.o W hW).2.2;refine AAY ht (k.cell 0) (k.frozen 0) k.lt AG (AV CX.o hW) (fun w'' hb=>⟨by rw [he],hb⟩))
 have EN:AI (∀W,AK w4 W->(W.cell? ⟨w.heap.size+1+1,0,none⟩=some (AE AF q.Ar)/\W.cell? ⟨w.heap.size+1+1,1,none⟩=some (AE AF q.round)/\W.cell? ⟨w.heap.size+1+1,2,none⟩=some (AE AF q.schema)/\W.cell? ⟨w.heap.size+1+1,3,none⟩=some (AE AF q.place))/\(W.cell? ⟨w.heap.size+1+1,36,none⟩=some (AB VA vn vc)/\W.cell? ⟨w.heap.size+1+1,37,none⟩=some (AB LA ln lc)/\W.cell? ⟨w.heap.size+1+1,38,none⟩=some (AB KA kn kc))/\
  (W.cell? ⟨w.heap.size+1,0,none⟩=some (AE AF r.Ar)/\W.cell? ⟨w.heap.size+1,1,none⟩=some (AE AF r.no)/\W.cell? ⟨w.heap.size+1,2,none⟩=some (AE AF r.schema)/\W.cell? ⟨w.heap.size+1,5,none⟩=some (AE AF r.places))):=AA (fun W hW=>by
  obtain ⟨b1,b2,_⟩:=HE.o W hW;have b:=MD.o _ _ b2;rw [HP.o] at b;exact ⟨⟨b.Ar,b.round,b.schema,b.place⟩,⟨b.values,b.links,b.claims⟩,(b1.cell 0).trans Lg.o.1,(b1.cell 1).trans Lg.o.2.1,(b1.cell 2).trans Lg.o.2.2.1,(b1.cell 5).trans Lg.o.2.2.2⟩)
 obtain ⟨d0,d1,d2,d3,d4,d5,d6⟩:=HD.o w4 (Ae _ _);by_cases hck:ck=0
 ·subst hck
  have Cf:AI (¬O5 (Bm ns r.schema) (val r.schema) r q=true->res=190):=AA (fun h=>Gp.o.trans (j7 h));go_upto_region 3 with (first
   | (
    go_at_call 23;refine (Mn.o _ CX.o).mono ?_;rintro e w5 ⟨rfl,hb5⟩;obtain ⟨c0,c1,c2,c3,c4,c5,c6⟩:=HD.o w5 hb5;have CP:=AA hb5;have Nc:=AA (HE.o w5 hb5).1;clear hb5 d0 d1 d2 d3 d4 d5 d6)
   | (go_at_call 38;refine (Eg 160 _).mono ?_;rintro e w6 ⟨⟨v,rfl⟩,rfl⟩))
  cases hft:GN (Bm ns r.schema) r.places with
  |
   false=>
   rw [hft] at OW;have HN:=AA (Cf.o (fun h=>by have:=((J4.1 h).1.1).1;rw [hft] at this;cases this));clear hft;go_wp2_with (first
    | (refine Bv rfl 36 (AY 4) rfl (w.heap.size+1) rfl 36 RR (0,0) _ Nc.o underlying36 rfl NK.o ?_)
    | (
     go_at_call 27;refine (OW.o _ (AV CX.o CP.o)).mono ?_;rintro e w7 ⟨rfl,hb7⟩;have Da:=AA (AV CP.o hb7);clear hb7)
    | (go_at_call 38;refine (DN 190 _).mono ?_;rintro e w8 ⟨rfl,rfl⟩)
    | fail)
   (refine Gq.o _ _ _ ?_ Da.o HN.o;rfl)
  |
   true=>
   rw [hft] at OW;obtain ⟨x,hnf,hp1,nN,Y1⟩:=NE hft;have AHW:0<=r.schema:=by
    unfold Bm at hnf;split at hnf
    · assumption
    · cases hnf
   obtain ⟨k,hk⟩:∃k:Nat,r.schema=(k:Int):=⟨r.schema.toNat,by omega⟩;have hx:ns[k]? =some x:=by rw [hk,Bm,Ao AG] at hnf;exact hnf
   have hx1:x<=251:=by have h1:1*((x:Int)+4+1)<=r.places*((x:Int)+4+1):=PZ hp1 AG;omega
   have Hk:=AA hnf;have xJ:=AA hft;go_upto_region 4 with (first
    | (refine Bv rfl 36 (AY 4) rfl (w.heap.size+1) rfl 36 RR (0,0) _ Nc.o underlying36 rfl NK.o ?_)
    | (
     go_at_call 27;refine (OW.o _ (AV CX.o CP.o)).mono ?_;rintro e w7 ⟨rfl,hb7⟩;have Da:=AA (AV CP.o hb7);clear hb7)
    | (go_at_call 38;refine (Eg 190 _).mono ?_;rintro e w8 ⟨⟨v,rfl⟩,rfl⟩)
    | fail)
   have LJ:=AA hk;clear c0 c1 c2 c3 c4 c5 c6 hft hnf hk;obtain ⟨⟨f0,f1,f2,f3⟩,_,e0,e1,e2,e5⟩:=EN.o _ Da.o;have hcase:(¬q.Ar=r.Ar\/(q.Ar=r.Ar/\¬q.round=r.no)\/(q.Ar=r.Ar/\q.round=r.no/\¬q.schema=r.schema))\/(q.Ar=r.Ar/\q.round=r.no/\q.schema=r.schema):=AG
   rcases hcase with hno | ⟨h1,h2,h3⟩
   ·have HN:=AA (Cf.o (fun h=>by have:=(J4.1 h).1.1.2;omega))
    rcases hno with h | ⟨h1,h⟩ | ⟨h1,h2,h⟩
    all_goals have hf:=JK h
    all_goals go_wp2_with (go_at_call 38;refine (DN 190 _).mono ?_;rintro e w9 ⟨rfl,rfl⟩)
    all_goals (refine Gq.o _ _ _ ?_ Da.o HN.o;rfl)
   go_upto_region 5 with (go_at_call 38;refine (Eg 190 _).mono ?_;rintro e w9 ⟨⟨v,rfl⟩,rfl⟩);have Qc:AI (∀W,AK w W->AS prog 39 #[AP #[v0,v1,AB A n c,v3,v4,v5,v6],AE AF q.schema,AB VA vn vc] W fun e w'=>e=AU (Ab (EL x (val r.schema) q.values))/\AK W w'):=AA (fun W hW=>by rw [h3,LJ.o];exact Xr v0 v1 v3 v4 v5 v6 A n c ns k x VA vn vc q.values 0 val W (HS.o.mono EK hW) hx (HV.o.mono BX hW) (HK.o.below hW))
   have VG:=AA h3;have HX:=AA hx;have H12:=AA (And.intro h1 h2);clear h1 h2 h3 hx f0 f1 e0 e1 e2;have hcase:(¬0<=q.place\/(0<=q.place/\¬q.place < r.places))\/(0<=q.place/\q.place < r.places):=AG
   rcases hcase with hno | ⟨h1,h2⟩
   ·have HN:=AA (Cf.o (fun h=>by have:=(J4.1 h).1.2.1;omega))
    rcases hno with h | ⟨h1,h⟩
    all_goals go_wp2_with (go_at_call 38;refine (DN 190 _).mono ?_;rintro e w9 ⟨rfl,rfl⟩)
    all_goals (refine Gq.o _ _ _ ?_ Da.o HN.o;rfl)
   obtain ⟨c0,c1,c2,c3,c4,c5,c6⟩:=HD.o _ Da.o;have f36:=(EN.o _ Da.o).2.1.1;cases hac:EL x (val r.schema) q.values with
   |
    false=>
    rw [hac] at Qc;have HN:=AA (Cf.o (fun h=>by have:=(J4.1 h).1.2.2;rw [Hk.o] at this;exact Bool.noConfusion (hac.symm.trans this)));go_wp2_with (first
     | (
      go_at_call 39;refine (Qc.o _ (AV CX.o Da.o)).mono ?_;rintro e w9 ⟨rfl,Lf⟩;have LM:=AA (AV Da.o Lf);clear Lf)
     | (go_at_call 38;refine (DN 190 _).mono ?_;rintro e w10 ⟨rfl,rfl⟩))
    (refine Gq.o _ _ _ ?_ LM.o HN.o;rfl)
   |
    true=>
    rw [hac] at Qc;go_upto_region 6 with (first
     | (
      go_at_call 39;refine (Qc.o _ (AV CX.o Da.o)).mono ?_;rintro e w9 ⟨rfl,Lf⟩;have LM:=AA (AV Da.o Lf);clear Lf)
     | (go_at_call 38;refine (Eg 190 _).mono ?_;rintro e w10 ⟨⟨v,rfl⟩,rfl⟩))
    -- REGION 6
    clear c0 c1 c2 c3 c4 c5 c6 f36 f2 f3 e5;have I7:prog.follows .mixedOrders=true:=AJ
    have jT:AI (q.schema=(k:Int)):=AA (VG.o.trans LJ.o);have hkn':k < n:=by rw [HS.o.len];exact (BD.1 HX.o).1
    have hk1:(k:Int) < (n:Int):=AG
    have hk0:=Int.natCast_nonneg k
    obtain ⟨b,off,x',x0,x1,x2,x3,B,cc,x5,hA,hb,hx',hxl,hone,hcell⟩:=Na HS.o hkn';rw [HX.o] at hx';injection hx' with hx';subst hx';subst hA;have hS:=LM.o.drew;have dj:AI (∀W,AK w4 W->(Instr.loadAt 85 (AW (some ⟨b,off+k*6,none⟩))).run prog W=.ok (AP #[x0,x1,x2,x3,AB B x cc,x5]) W):=AA (fun W hW=>by have hr:W.rangeAt b (off+k*6) [x0,x1,x2,x3,AB B x cc,x5]:=fun j v hj=>((AV CX.o hW).cell (p:=⟨b,off+k*6+j,none⟩) hb).trans (hcell j v hj);simp only [Instr.loadAt,Instr.sureAddr,Ck,DC,Result.andThen_ok,Q7 W b (off+k*6) 85 _ _ hr underlying85 rfl AJ])
    have hsz:(prog.info? 85).map (·.size)=some 6:=AJ
    clear hcell hone;refine Sd (fun W=>AK w4 W) 19 _ I7 AJ rfl ?_;by_cases hl4:ln=4
    rotate_left
    ·have hlf:((ln:Int)==4)=false:=JK AG
     have HN:=AA (Cf.o (fun h=>by have:=(J4.1 h).2.1;have:=HL.o.len;omega));refine Bl 0 55 AJ rfl rfl (D8 rfl Ah) hS AJ Fj ?_;refine Bl 1 56 AJ rfl rfl (D8 rfl Ah) hS AJ Fj ?_;refine Bl 2 57 AJ rfl rfl (D8 rfl Ah) hS AJ Fj ?_;refine Bl 3 58 AJ rfl rfl (D8 rfl Ah) hS AJ (v:=Ab false) Ey ?_;refine Bl 4 59 AJ rfl rfl (D8 rfl Ah) hS AJ Fj ?_;refine LO 5 60 AJ rfl rfl (D8 rfl Ah) hS AJ ?_;refine LO 6 61 AJ rfl rfl (D8 rfl Ah) hS AJ ?_;refine LO 7 62 AJ rfl rfl (D8 rfl Ah) hS AJ ?_;refine LO 8 63 AJ rfl rfl (D8 rfl Ah) hS AJ ?_;refine LO 9 64 AJ rfl rfl (D8 rfl Ah) hS AJ ?_;refine LO 10 65 AJ rfl rfl (D8 rfl Ah) hS AJ ?_;refine LO 11 66 AJ rfl rfl (D8 rfl Ah) hS AJ ?_;refine LO 12 67 AJ rfl rfl (D8 rfl Ah) hS AJ ?_;refine LO 13 68 AJ rfl rfl (D8 rfl Ah) hS AJ ?_;refine LO 14 69 AJ rfl rfl (D8 rfl Ah) hS AJ ?_;refine LO 15 70 AJ rfl rfl (D8 rfl Ah) hS AJ ?_;refine LO 16 71 AJ rfl rfl (D8 rfl Ah) hS AJ ?_;refine Bl 17 72 AJ rfl rfl (D8 rfl Ah) hS AJ Fj ?_;refine Wu 18 73 AJ rfl rfl rfl rfl (enters_of func38 AJ rfl) (DN 190 _) AJ ?_;rintro e Le ⟨rfl,rfl⟩;refine .inr ⟨_,rfl,?_⟩;refine Gq.o _ _ _ ?_ hS HN.o;kernel_rfl
    subst hl4;refine Bl 0 55 AJ rfl rfl (D8 rfl Ah) hS AJ Fj ?_;refine Bl 1 56 AJ rfl rfl (D8 rfl Ah) hS AJ Fj ?_;refine Bl 2 57 AJ rfl rfl (D8 rfl Ah) hS AJ Fj ?_;refine Bl 3 58 AJ rfl rfl (D8 rfl Ah) hS AJ (v:=Ab true) Ey ?_;refine Bl 4 59 AJ rfl rfl (D8 rfl Ah) hS AJ Fj ?_;refine Bl 5 60 AJ rfl rfl (D8 rfl Ah) hS AJ Fj ?_;refine Bl 6 61 AJ rfl rfl (D8 rfl Ah) hS AJ Fj ?_;refine Bl 7 62 AJ rfl rfl (D8 rfl Ah) hS AJ Fj ?_;refine Bl 8 63 AJ rfl rfl (D8 rfl Ah) hS AJ Fj ?_;refine Bl 9 64 AJ rfl rfl (D8 rfl Ah) hS AJ Fj ?_;refine Bl 10 65 AJ rfl rfl (D8 rfl Ah) hS AJ Fj ?_;refine Bl 11 66 AJ rfl rfl (D8 rfl Ah) hS AJ Fj ?_;refine Bl 12 67 AJ rfl rfl (D8 rfl Ah) hS AJ Fj ?_;refine Bl 13 68 AJ rfl rfl (D8 rfl Ah) hS AJ Fj ?_;refine Bl 14 69 AJ rfl rfl (D8 rfl Ah) hS AJ (v:=AP #[x0,x1,x2,x3,AB B x cc,x5]) (fun W hW=>Cs rfl AJ (dj.o W hW)) ?_;refine ABH 15 70 AJ rfl rfl AJ rfl (enters_of func30 AJ rfl) (SX x0 x1 x2 x3 x5 B x cc _ hxl) AJ ?_;rintro e Le ⟨rfl,Lx⟩;have hS2:AK w4 Le:=AV hS Lx;refine ⟨_,rfl,hS2,?_⟩;by_cases hkl:kn=x+4+1
    rotate_left
    ·have hkf:((kn:Int)==(x:Int)+4+1)=false:=JK AG
     have HN:=AA (Cf.o (fun h=>by have:=(J4.1 h).2.2;rw [Hk.o] at this;change _=x+5 at this;have:=Ng.o.len;omega));refine Bl 16 71 AJ rfl rfl (D8 rfl Ah) hS2 AJ (v:=Ab false) Ey ?_;refine Bl 17 72 AJ rfl rfl (D8 rfl Ah) hS2 AJ Ey ?_;refine Wu 18 73 AJ rfl rfl rfl rfl (enters_of func38 AJ rfl) (DN 190 _) AJ ?_;rintro e w12 ⟨rfl,rfl⟩;refine .inr ⟨_,rfl,?_⟩;refine Gq.o _ _ _ ?_ hS2 HN.o;kernel_rfl
    have hkt:((kn:Int)==(x:Int)+4+1)=true:=by rw [hkl];simp
    refine Bl 16 71 AJ rfl rfl (D8 rfl Ah) hS2 AJ (v:=Ab true) Ey ?_;refine Bl 17 72 AJ rfl rfl (D8 rfl Ah) hS2 AJ Ey ?_;refine Wu 18 73 AJ rfl rfl rfl rfl (enters_of func38 AJ rfl) (Eg 190 _) AJ ?_;rintro e w12 ⟨⟨v,rfl⟩,rfl⟩;refine .inl ⟨_,rfl,hS2,?_⟩;refine F6 AJ ?_ _;simp only [Ct,DF];have HS2:=AA hS2;clear hS hS2 Lx;go_upto_region 7 with fail;have hS3:=HS2.o.drew;have hrl:res=Ik Aw r.root (r.places*((x:Int)+4+1)) (Ga Aw (q.place*((x:Int)+4+1)) ((x:Int)+4) q.schema q.holder (upto x) q.values (upto 4) q.links) q.claims:=by have hok:O5 (Bm ns r.schema) (val r.schema) r q=true:=J4.2 ⟨⟨⟨xJ.o,H12.o,VG.o⟩,⟨h1,h2⟩,by rw [Hk.o];exact hac⟩,HL.o.len.symm,by rw [Hk.o];show _=x+5;have:=Ng.o.len;omega⟩;rw [Gp.o,EX,Ai AX,Ao hok,Hk.o];rfl
    have S5:=AA hrl;have hvl:q.values.length=x:=by have h:=hac;rw [EL,Bj] at h;exact F8 h.1
    have jY:AI (∀W,AK w4 W->(Instr.loadAt 46 (AW (some ⟨w.heap.size+1+1,0,none⟩))).run prog W=.ok (.agg Y) W/\(Instr.loadAt 36 (AW (some ⟨w.heap.size+1,0,none⟩))).run prog W=.ok (.agg RR) W):=AA (fun W hW=>by obtain ⟨b1,b2,_⟩:=HE.o W hW;exact ⟨by simp only [Instr.loadAt,Instr.sureAddr,Ck,DC,Result.andThen_ok,My W _ 46 46 Y (0,0) _ b2 underlying46 rfl WS.o],by simp only [Instr.loadAt,Instr.sureAddr,Ck,DC,Result.andThen_ok,My W _ 36 36 RR (0,0) _ b1 underlying36 rfl NK.o]⟩)
    refine Sd (fun W=>AK w4 W) 5 _ I7 AJ rfl ?_;refine Bl 0 74 AJ rfl rfl (D8 rfl Ah) hS3 AJ ep ?_;refine Bl 1 75 AJ rfl rfl (D8 rfl Ah) hS3 AJ (v:=.agg Y) (fun W hW=>Cs rfl AJ (jY.o W hW).1) ?_;refine Bl 3 77 AJ rfl rfl (D8 rfl Ah) hS3 AJ (v:=.agg RR) (fun W hW=>Cs rfl AJ (jY.o W hW).2) ?_;refine WB 2 76 AJ rfl rfl rfl rfl (enters_of func40 AJ rfl) (dY.o k x _ (AV CX.o hS3) HX.o AG jT.o) AJ ?_;rintro e Hd ⟨F,L,rfl,hF,hL,Nu⟩;have hS4:AK w4 Hd:=AV hS3 Nu;have NP:AK w Hd:=AV CX.o hS4;refine ⟨_,rfl,hS4,?_⟩;obtain ⟨FA,fc,rfl⟩:=hF.form;obtain ⟨MA,mc,rfl⟩:=hL.form;have MS:=Vt ⟨q.Ar,q.round,q.schema,q.place,q.holder,AB FA (upto x).length fc,AB VA vn vc,0,zeros 32,AB KA kn kc,AB MA (upto 4).length mc,AB LA 4 lc,(x:Int)+4+1,(x:Int)+4⟩ FA VA MA LA KA _ fc vn vc _ mc 4 lc kn kc (upto x) q.values (upto 4) q.links q.claims r Hd rfl rfl rfl rfl rfl hF (HV.o.mono BX NP) hL (HL.o.mono BK NP) (Ng.o.mono Bd NP)
     OV.o rfl Vz.o (by rw [Hp,HV.o.len,hvl];exact Ac _) q9 (by rw [Hp,Hp];omega) em
     eW Yq Yp (VO AG) (VO AG) AG (I0.o.below NP)
    rw [<-HRR.o] at MS;refine Wu 4 78 AJ rfl rfl rfl rfl (enters_of func41 AJ rfl) MS AJ ?_;rintro e QJ ⟨hR,Pz⟩;have hS5:AK w4 QJ:=AV hS4 Pz;rcases hR with ⟨h0,v,rfl⟩ | ⟨hne,rfl⟩
    ·refine .inl ⟨_,rfl,hS5,?_⟩
     refine F6 AJ ?_ _;simp only [Ct,DF];have k:=(HE.o _ hS5).2.2;have e0:=k.cell 0;have f0:=k.frozen 0;have l0:=k.lt;have K:=AA k;have VF:=AA hS5;have HR0:=AA (hrl.trans h0);simp only [Ak,Al] at e0;clear hS3 hS4 hS5 Nu Pz hF hL MS NP k h0 hrl;go_wp2_with fail;refine AEi (e:=0) ?_ ((K.o.put 0 (AE AF 0)).cell 0) ⟨by rw [HR0.o],(AV CX.o VF.o).setCell (by show w.heap.size<=w.heap.size+1+1+1;omega) _⟩;rfl
    exact lI
 have hcf:(ck==0)=false:=by simpa using hck
 have HN:AI (res=160):=AA (Gp.o.trans (by rw [EX,Ao hck]));go_wp2_with (first
  | (
   go_at_call 23;refine (Mn.o _ CX.o).mono ?_;rintro e w5 ⟨rfl,hb5⟩;have CP:=AA hb5;clear hb5)
  | (go_at_call 38;refine (DN 160 _).mono ?_;rintro e w6 ⟨rfl,rfl⟩))
 (refine Gq.o _ _ _ ?_ CP.o HN.o;rfl)
attribute [local go_sem] Oper.semAt_some
theorem ACn {P:BA} {f:FuncId} (h:(P.funcs[f]?.any fun fn=> !(fn.name== "runtime.NumGoroutine") && fn.body.isSome)=true):Enters P f:=by rw [Option.any_eq_true] at h;obtain ⟨fn,hf,h⟩:=h;rw [Bj] at h;obtain ⟨c,hc⟩:=du.1 h.2;exact enters_of hf (by simpa using h.1) hc
theorem Vf {P:BA} {fn:Func} {t t':Array AN} {R:Ending->AH->Prop} (h:results fn t=results fn t'):∀(ds:List Deferred) (u:FrameMode) (w:AH),Leaves P fn t R ds u w->Leaves P fn t' R ds u w
 | [],.returning,_,⟨v,hv,hr⟩=>⟨v,h ▸ hv,hr⟩
 | [],.panicking _,_,hr=>hr
 | [],.run,_,hr=>hr.elim
 |
  _::ds,_,_,⟨hu,fv,cap,f,args,h1,h2,hc⟩=>⟨hu,fv,cap,f,args,h1,h2,hc.mono fun e u' w' hh=>by
  cases e with
  | returned v=>exact Vf h ds _ _ hh
  | panicked c=>exact Vf h ds _ _ hh
  | outgrown=>exact hh⟩
theorem kX {P:BA} {fn:Func} {R:Ending->AH->Prop} {d p p':Nat} {ty ty':Af} (hr:fn.results=#[.cell p ty,.cell p' ty']) (hd:d≠p) (hd':d≠p'):∀c (a:Act) v w,bodyPostD P fn R (.panic c) (a.put (some d) v) w->bodyPostD P fn R (.panic c) a w:=fun c a v w h=>by
 refine Vf (t:=(a.put (some d) v).tmps) ?_ _ _ _ h;have e:(a.tmps.setIfInBounds d v)[p]?.getD undef=a.tmps[p]?.getD undef:=by rw [PY,Ai hd]
 have e':(a.tmps.setIfInBounds d v)[p']?.getD undef=a.tmps[p']?.getD undef:=by rw [PY,Ai hd']
 simp [results,hr,Act.put,e,e']
theorem kY {P:BA} {fn:Func} {R:Ending->AH->Prop} {d p:Nat} {ty:Af} (hr:fn.results=#[.cell p ty]) (hd:d≠p):∀c (a:Act) v w,bodyPostD P fn R (.panic c) (a.put (some d) v) w->bodyPostD P fn R (.panic c) a w:=fun c a v w h=>by
 refine Vf (t:=(a.put (some d) v).tmps) ?_ _ _ _ h;have e:(a.tmps.setIfInBounds d v)[p]?.getD undef=a.tmps[p]?.getD undef:=by rw [PY,Ai hd]
 simp [results,hr,Act.put,e]
section
variable {P:BA} {md:Region.Mode} {ops:Array Oper} {Q:Exit->Act->AH->Prop} {S:AH->Prop} {fuel:Nat} {listed:Array Bool} {l:List AN} {D:List Deferred} {w:AH}
theorem qT (i d:Nat) (hS:S w) {oi:Oper} {v:AN} (h:wpAnyH P md ops Q S fuel (listed.setIfInBounds i true) ⟨(l.set d v).toArray,D⟩ w)
 (hB:Wt md ops listed i=true:=by kernel_rfl) (hi:ops[i]? =some oi:=by rfl) (hd:oi.dst=some d:=by rfl) (hQ:∀c (a:Act) v w,Q (.panic c) (a.put (some d) v) w->Q (.panic c) a w:=by first | exact kX rfl Ah Ah | exact kY rfl Ah | exact fun _ _ _ _ h=>h | exact fun _ _ _ _ h=>by cases h.1)
 (hw:Region.wanted oi (yielded ops l.toArray)=true:=by kernel_rfl) (hv:∀w,S w->(execOp (Act.eval ⟨l.toArray,D⟩) oi).run P w=.ok (.value v) w:=by intro W hW;have f:=TK W hW;(go_simp) <;> rfl):
 wpAnyH P md ops Q S (fuel+1) listed ⟨l.toArray,D⟩ w:=by
 exact yE
theorem qM (i d t:Nat) (hS:S w) {oi:Oper} {v:AN} (h:wpAnyH P md ops Q S fuel (listed.setIfInBounds i true) ⟨(l.set d v).toArray,D⟩ w)
 (hv:l[t]? =some v:=by rfl) (hB:Wt md ops listed i=true:=by kernel_rfl) (hi:ops[i]? =some oi:=by rfl) (hd:oi.dst=some d:=by rfl) (hQ:∀c (a:Act) v w,Q (.panic c) (a.put (some d) v) w->Q (.panic c) a w:=by first | exact kX rfl Ah Ah | exact kY rfl Ah | exact fun _ _ _ _ h=>h | exact fun _ _ _ _ h=>by cases h.1)
 (hw:Region.wanted oi (yielded ops l.toArray)=true:=by kernel_rfl) (ho:oi.op=.move (AY t)\/oi.op=.assign (AY t):=by first | exact .inl rfl | exact .inr rfl):
 wpAnyH P md ops Q S (fuel+1) listed ⟨l.toArray,D⟩ w:=by
 refine qT i d hS h hB hi hd hQ hw (fun W _=> ?_);have e:Act.eval ⟨l.toArray,D⟩ (AY t)=v:=by simp [Act.eval,hv]
 unfold execOp;rcases ho with ho | ho
 · rw [ho];simp [e]
 · rw [ho];simp [e]
theorem qF (i d:Nat) {o:Oper} {f:FuncId} {xs:Array Operand} {ts:Array Af} {args:Array AN} {R:Ending->AH->Prop} (hc:AS P f args w R)
 (h:∀e w',R e w'->∃v,e=AU v/\S w'/\wpAnyH P md ops Q S fuel (listed.setIfInBounds i true) ⟨(l.set d v).toArray,D⟩ w')
 (hr:Region.ready md ops listed=[i]:=by kernel_rfl) (hi:ops[i]? =some o:=by rfl) (hd:o.dst=some d:=by rfl) (hw:Region.wanted o (yielded ops l.toArray)=true:=by kernel_rfl)
 (ho:o.op=.call {callee:=.value (.func f),args:=xs,argTypes:=ts}:=by rfl) (he:Enters P f:=by exact ACn AJ) (ha:xs.toList.map (Act.eval ⟨l.toArray,D⟩)=args.toList:=by kernel_rfl):
 wpAnyH P md ops Q S (fuel+1) listed ⟨l.toArray,D⟩ w:=ABH i d hr hi hd hw ho he hc ha h
end
section
variable {w w' w0 A C W:AH} {S:List Nat}
theorem Pt {base:Nat} {e:Af} {sz:Nat} {v:AN} {n:Nat} {cs:List AN} (h:w.ownsRow base e sz v n cs) (hb:∀g,base<=g->g < w.heap.size->W.heap[g]? =w.heap[g]?):W.ownsRow base e sz v n cs:=by
 refine ⟨h.1,?_⟩;rcases h.2 with h | ⟨g,cap,cur,h1,h2,h3,h4⟩
 · exact .inl h
 · exact .inr ⟨g,cap,cur,h1,h2,(hb g h2 (C6.1 h3).1).trans h3,h4⟩
def Qw {α:Type} (R:AH->List AN->α->Prop):Prop:=∀w W cs x,w.heap.size<=W.heap.size->(∀a v,w.cell? a=some v->W.cell? a=some v)->R w cs x->R W cs x
theorem Ag.QW {α:Type} {sz:Nat} {R:AH->List AN->α->Prop} (hR:Qw R) {v:AN} {l:List α} (h:Ag sz R w v l) (hs:w.heap.size<=W.heap.size) (hc:∀a v,w.cell? a=some v->W.cell? a=some v):Ag sz R W v l:=by obtain ⟨A,cap,e,h1,h2,h3⟩:=h;refine ⟨A,cap,e,h1,h2,fun i x hi=> ?_⟩;obtain ⟨b,off,cs,rfl,hlt,hl,hcc,hr⟩:=h3 i x hi;exact ⟨b,off,cs,rfl,Au hlt hs,hl,fun j u hu=>hc _ _ (hcc j u hu),hR _ _ _ _ hs hc hr⟩
theorem O2:Qw CV:=fun _ _ _ _ _ _ h=>h
theorem JD:Qw Dt:=fun w W cs q hs hc h=>by obtain ⟨A,n,c,B,m,d,e,h1,h2⟩:=h;exact ⟨A,n,c,B,m,d,e,h1.QW O2 hs hc,h2.QW O2 hs hc⟩
theorem Xn {k:Nat} (b:Book k A C) {a:Aa} {v:AN} (h:A.cell? a=some v):C.cell? a=some v:=by
 by_cases hc:∃cs t fz,A.heap[a.block]? =some (Obj.cells cs t fz)
 ·obtain ⟨cs,t,fz,hc⟩:=hc
  rw [<-h];unfold World.cell?;rw [b.cells _ _ _ _ hc]
 exfalso;cases ho:A.heap[a.block]? with
 | none=>simp [World.cell?,ho] at h
 |
  some o=>
  cases o with
  | cells cs t fz=>exact hc ⟨cs,t,fz,ho⟩
  | _=>simp [World.cell?,ho] at h
theorem iI {k:Nat} (b:Book k A C) {a:Aa} {v:AN} (h:(veil S A).cell? a=some v):(veil S C).cell? a=some v:=by
 by_cases hb:a.block∈S
 ·exfalso
  by_cases hs:a.block < A.heap.size
  · simp [World.cell?,Rc (w:=A) hb hs] at h
  have:(veil S A).heap[a.block]? =none:=by rw [Mz];rw [Dz];omega
  simp [World.cell?,this] at h
 rw [Kl (I9 hb)] at h ⊢;exact Xn b h
theorem qp {α:Type} {sz k:Nat} {R:AH->List AN->α->Prop} {cs:List AN} {l:List α} (hR:Qw R) (h:Aq sz R (veil S A) cs l) (b:Book k A C):Aq sz R (veil S C) cs l:=
 ⟨h.1,fun i x hi=>hR _ _ _ _ (by rw [Dz,Dz];exact b.size) (fun _ _ hv=>iI b hv) (h.2 i x hi)⟩
theorem KX.grown {n e g:Nat} {row:Option Nat} (hg:A.grownBy C row) (hn:n<=A.heap.size) (hr:∀b,b < n->some b≠row) (hgn:g < n) (h0:0 < n):KX n e g A C:=
 ⟨hg.size,fun b h1 _=>hg.block b AG (hr b h1),hg.block g AG (hr g hgn),fun t=>ML (hg.block 0 AG (hr 0 h0)) hg.size t⟩
theorem Ag.kx {α:Type} {sz n e g B:Nat} {R:AH->List AN->α->Prop} (hR:∀w w' cs x,R w cs x->R w' cs x) {v:AN} {l:List α} (h:Ag sz R A v l) (hN:NewAt B v) (he:e < B) (hn:A.heap.size<=n) (k:KX n e g A C):Ag sz R C v l:=by obtain ⟨D,cap,rfl,h1,h2,h3⟩:=h;refine ⟨D,cap,rfl,h1,h2,fun i x hi=> ?_⟩;obtain ⟨b,off,cs,rfl,hlt,hl,hc,hr⟩:=h3 i x hi;have hb:=hN b rfl;exact ⟨b,off,cs,rfl,Au hlt k.size,hl,fun j u hu=>(Kl (k.same b AG AG)).trans (hc j u hu),hR _ _ _ _ hr⟩
theorem Zw {S2:List Nat} (hs:∀b∈S2,b∈S) {a:Aa} {v:AN} (h:(veil S w).cell? a=some v):(veil S2 w).cell? a=some v:=by
 by_cases hb:a.block∈S
 ·exfalso
  by_cases hs:a.block < w.heap.size
  · simp [World.cell?,Rc (w:=w) hb hs] at h
  have:(veil S w).heap[a.block]? =none:=by rw [Mz];rw [Dz];omega
  simp [World.cell?,this] at h
 rw [Kl (I9 hb)] at h;rw [Kl (I9 (fun hm=>hb (hs _ hm)))];exact h
abbrev RY (b:Nat) (w:AH):AH:=veil (List.range b) w
theorem Ag.ADZ {α:Type} {sz B:Nat} {R:AH->List AN->α->Prop} (hR:∀w w' cs x,R w cs x->R w' cs x) {v:AN} {l:List α} (h:Ag sz R w v l) (hN:NewAt B v) (hb:∀b∈S,b < B):Ag sz R (veil S w) v l:=by obtain ⟨D,cap,rfl,h1,h2,h3⟩:=h;refine ⟨D,cap,rfl,h1,h2,fun i x hi=> ?_⟩;obtain ⟨g,off,cs,rfl,hlt,hl,hc,hr⟩:=h3 i x hi;have hg:=hN g rfl;exact ⟨g,off,cs,rfl,by rw [Dz];exact hlt,hl,fun j u hu=>(Kl (I9 (fun hm=>by have hm:g < B:=hb g hm;omega))).trans (hc j u hu),hR _ _ _ _ hr⟩
theorem Ag.ADa {α:Type} {sz B b:Nat} {R:AH->List AN->α->Prop} (hR:∀w w' cs x,R w cs x->R w' cs x) {v:AN} {l:List α} (h:Ag sz R w v l) (hN:NewAt B v) (hb:b<=B):Ag sz R (RY b w) v l:=
 h.ADZ hR hN (fun _ hx=>Au (Ed.1 hx) hb)
theorem Ag.Yt {α:Type} {sz B b g:Nat} {R:AH->List AN->α->Prop} (hR:Eb R) (hC:Qw R) {v:AN} {l:List α} (h:Ag sz R (RY B w) v l) (hg:w.grownBy w' (some g)) (hgB:g < B) (hb:b<=B):Ag sz R (RY b w') v l:=
 (h.mono hR (IE (S':=List.range B) hg (fun r er _=>by injection er with er;rw [<-er,Ed];exact hgB) (fun _ _=>Iff.rfl))).QW hC ej (fun _ _=>Zw (fun x hx=>by rw [Ed] at hx ⊢;omega))
theorem Ag.Yu {α:Type} {sz B:Nat} {R:AH->List AN->α->Prop} (hR:Eb R) {v:AN} {l:List α} (h:Ag sz R (RY B w) v l) (hb:AK w w'):Ag sz R (RY B w') v l:=h.mono hR (M3 hb)
theorem Vi:Qw CK:=fun _ _ _ _ _ _ h=>h
theorem Sh {base:Nat} {e:Af} {sz:Nat} {v:AN} {n:Nat} {cs:List AN} (h:w.ownsRow base e sz v n cs):NewAt base v:=fun r hr=>(h.lt r hr).1
theorem ABa {s:JF} {X:Array AN} (h:X=JA s) (W:AH):AS prog 57 #[.agg X] W fun e w'=>e=AU (.func (.func 81) #[] #[AW (some ⟨W.heap.size,0,none⟩)])/\w'=W.alloc (AO X 96):=by rw [h];exact XK s W
theorem yV {P:BA} {f:FuncId} {c:Code} {Q:Exit->Act->AH->Prop} {l:List AN} {D:List Deferred} {W:AH} (h:∀L,L=l->RX f P c Q ⟨L.toArray,D⟩ W):RX f P c Q ⟨l.toArray,D⟩ W:=h l rfl
theorem AHO {w5:AH} {o:Obj} {x y z:AN} {t:Af}:∀(j:Nat) (u:AN),[x,y,z][j]? =some u->((w5.alloc o).alloc (AO #[x,y,z] t)).cell? ((Addr.mk (w5.heap.size+1) 0 none).add j)=some u:=fun j u hu=>by
 have h:=AZ.new (w5.alloc o) t #[x,y,z];rw [Ee] at h;have e:(Addr.mk (w5.heap.size+1) 0 none).add j=⟨w5.heap.size+1,j,none⟩:=by
  unfold Addr.add;split
  · subst_vars;rfl
  · simp
 rw [e,h.cell];simpa using hu
theorem kV (i:Int) (A1 A2:Option Aa) (n1 c1 n2 c2:Nat):∀u∈[Value.int .i64 i,AB A1 n1 c1,AB A2 n2 c2],u.oneCell'=true:=fun u hu=>by simp only [CJ,D5,D4] at hu;rcases hu with rfl | rfl | rfl <;> rfl
theorem Vg:∃(j:TypeInfo) (z:AN),prog.info? 71=some j/\j.zero=some z/\z.cells.size=3/\j.size=3/\j.bytes=56:=by obtain ⟨j,hj,hz⟩:=Ds.1 (show (prog.info? 71).map (fun i=>(i.zero.map (·.cells.size),i.size,i.bytes))=some (some 3,3,56) by kernel_rfl);simp only [F7] at hz;obtain ⟨z,hz0,hz1⟩:=Ds.1 hz.1;exact ⟨j,z,hj,hz0,hz1,hz.2⟩
structure Je {α:Type} (L:Nat) (T:Af) (sz:Nat) (R:AH->List AN->α->Prop) (e:Nat) (v:AN) (l:List α) (w:AH) (cs:List AN) (S:List Nat):Prop where
 own:w.ownsRow L T sz v l.length cs
 hid:∀r,v.ownBlock=some r->r∈S
 lt:∀b∈S,b < w.heap.size
 box:e∈S
 els:Aq sz R (veil S w) cs l
variable {α:Type} {L:Nat} {T:Af} {sz e:Nat} {R:AH->List AN->α->Prop} {v:AN} {l:List α} {cs:List AN}
theorem Je.below (h:Je L T sz R e v l w cs S) (hR:Eb R) (hb:AK w w'):Je L T sz R e v l w' cs S:=
 ⟨EW h.own hb,h.hid,fun b hm=>Au (h.lt b hm) hb.size,h.box,h.els.mono hR (M3 hb)⟩
theorem Je.book {k:Nat} (h:Je L T sz R e v l A cs S) (hR:Qw R) (b:Book k A C):Je L T sz R e v l C cs S:=
 ⟨mV h.own b,h.hid,fun x hm=>Au (h.lt x hm) b.size,h.box,qp hR h.els b⟩
theorem Je.VX (h:Je L T sz R e v l w cs S) (hR:Eb R) (he:e < L) (o:Nat) (u:AN):Je L T sz R e v l (w.setCell ⟨e,o,none⟩ u) cs S:=by
 refine ⟨Ew h.own (a:=⟨e,o,none⟩) he u,h.hid,fun b hm=> ?_,h.box,?_⟩
 ·rw [RI]
  exact h.lt b hm
 have hg:w.grownBy (w.setCell ⟨e,o,none⟩ u) (some e):=⟨rfl,rfl,rfl,by simp [World.setCell],fun k hk hne=>D6 w _ u k (fun x=>hne (by rw [x]))⟩;refine h.els.mono hR (IE hg (fun r er _=> ?_) (fun _ _=>Iff.rfl));injection er with er;rw [<-er];exact h.box
theorem Je.push (h:Je L T sz R e v l w cs S) (hR:Eb R) {v':AN} {news:List AN} {x:α} {n:Nat}
 (hown:w'.ownsRow L T sz v' n (cs++news)) (hn:n=(l++[x]).length) (hg:w.grownBy w' v.ownBlock) (hat:v'.ownBlock=v.ownBlock\/v'.ownBlock=some w.heap.size) (hnl:news.length=sz) (hx:R (veil S w) news x):∃S',(∀b,b < w.heap.size->(b∈S'↔b∈S))/\Je L T sz R e v' (l++[x]) w' (cs++news) S':=by
 have hlt:∀r,v'.ownBlock=some r->r < w'.heap.size:=fun r e=>(hown.lt r e).2;subst hn;rcases hat with hat | hat
 ·refine ⟨S,fun _ _=>Iff.rfl,hown,fun r e=>h.hid r (by rw [<-hat];exact e),fun b hm=>Au (h.lt b hm) hg.size,h.box,?_⟩
  have hb:=IE (S:=S) (S':=S) hg (fun r e _=>h.hid r e) (fun _ _=>Iff.rfl);exact sU
 refine ⟨w.heap.size::S,fun b hlt=>by rw [CJ];exact ⟨fun h=>h.resolve_left AG,.inr⟩,hown,fun r e=>by rw [hat] at e;injection e with e;simp [e],fun b hm=> ?_,Mu _ h.box,?_⟩
 ·rcases CJ.1 hm with rfl | hm
  · exact hlt _ hat
  · exact Au (h.lt b hm) hg.size
 have hb:=IE (S:=S) (S':=w.heap.size::S) hg (fun r e _=>h.hid r e) (fun b hlt=>by rw [CJ];exact ⟨fun h=>h.resolve_left AG,.inr⟩)
 exact sU
theorem Je.other {row:Option Nat} {S':List Nat} (h:Je L T sz R e v l w cs S) (hR:Eb R) (hg:w.grownBy w' row) (hr:∀r,row=some r->r∈S) (hS:∀b,b < w.heap.size->(b∈S'↔b∈S)) (hlt:∀b∈S',b < w'.heap.size) (hne:∀r,v.ownBlock=some r->row≠some r):Je L T sz R e v l w' cs S':=
 ⟨h.own.kept hg (by cases hv:v.ownBlock with | none=>exact .inl rfl | some r=>exact .inr (fun e=>hne r hv e.symm)),fun r e=>(hS r (h.own.lt r e).2).2 (h.hid r e),hlt,(hS e (h.lt e h.box)).2 h.box,h.els.mono hR (IE hg (fun r e _=>hr r e) hS)⟩
theorem ACt (s:TJ) (hh:s.holder.length=32) (v:AN):(Fs s).setIfInBounds 38 v=Fs {s with claims:=v}:=by
 obtain ⟨i,r,s,p,h,u,k,_⟩:=s
 dsimp only at hh
 rw [Ok hh];kernel_rfl
structure Xu (n0 g:Nat) (ms:List (Int×AQ)) (sg:Int×AQ->Cj) (q:TJ) (w W0:AH) (pre:List (Int×AQ)) (W:AH):Prop where
 mS:pre=ms.take pre.length
 le:pre.length<=ms.length
 kx:KX n0 (w.heap.size+1+1+1+1+1+1) g W0 W
 old:AK w W
 row:∃A c cs S,(∀b,b < w.heap.size->b∈S)/\AZ W (w.heap.size+1+1+1+1+1+1) 46 (Fs {q with claims:=AB A pre.length c})/\Je n0 71 3 Dt (w.heap.size+1+1+1+1+1+1) (AB A pre.length c) (pre.map sg) W cs S
section
variable {n0 g:Nat} {ms:List (Int×AQ)} {sg:Int×AQ->Cj} {q:TJ} {W0:AH} {pre:List (Int×AQ)}
theorem Xu.below (h:Xu n0 g ms sg q w W0 pre A) (hn:n0<=W0.heap.size) (hg:g < n0) (t:AK A C):Xu n0 g ms sg q w W0 pre C:=by obtain ⟨B,c,cs,S,h0',h1,h2⟩:=h.row;have hs:=h.kx.size;exact ⟨h.mS,h.le,h.kx.below t AG AG,AV h.old t,B,c,cs,S,h0',h1.below t h1.lt,h2.below Bd t⟩
theorem Xu.book {k:Nat} (h:Xu n0 g ms sg q w W0 pre A) (b:Book k A C) (hn:n0<=k) (hg:g < n0) (h0:0 < n0) (hk:w.heap.size<=k):Xu n0 g ms sg q w W0 pre C:=by obtain ⟨B,c,cs,S,h0',h1,h2⟩:=h.row;exact ⟨h.mS,h.le,h.kx.book b hn AG AG,Below.book h.old b hk,B,c,cs,S,h0',F4 h1 b,h2.book JD b⟩
theorem AG5 {w6 w7:AH} {e:Nat} {v v':AN} {n:Nat} {cs:List AN} (h0:w6.ownsRow n0 71 3 v n cs) (EJ:w6.grownBy w7 v.ownBlock) (hn:n0<=w6.heap.size) (hg:g < n0) (hz:0 < n0) (he:e≠g) (he0:e≠0) (o:Nat):KX n0 e g w6 (w7.setCell ⟨e,o,none⟩ v'):=
 (KX.grown EJ hn (fun _ hb=>DX h0 hb) hg hz).VX o v' he he0
theorem Xu.push {w6 w7:AH} {y:Int×AQ} {RA:Option Aa} {rc:Nat} {cs news:List AN} {S:List Nat} {v':AN} (h:Xu n0 g ms sg q w W0 pre W) (hG:GM ms pre y) (nM:q.holder.length=32) (hk:KX n0 (w.heap.size+1+1+1+1+1+1) g W w6) (hb:AK w w6)
 (hS:∀b,b < w.heap.size->b∈S) (hE:AZ w6 (w.heap.size+1+1+1+1+1+1) 46 (Fs {q with claims:=AB RA pre.length rc})) (hR:Je n0 71 3 Dt (w.heap.size+1+1+1+1+1+1) (AB RA pre.length rc) (pre.map sg) w6 cs S) (hn:n0<=w6.heap.size) (hg:g < n0) (he:w.heap.size+1+1+1+1+1+1 < g)
 (GJ:w7.ownsRow n0 71 3 v' (pre.length+1) (cs++news)) (EJ:w6.grownBy w7 (Value.slice RA pre.length rc).ownBlock) (hat:v'.ownBlock=(Value.slice RA pre.length rc).ownBlock\/v'.ownBlock=some w6.heap.size) (hnl:news.length=3) (hx:Dt (veil S w6) news (sg y)):
 KX n0 (w.heap.size+1+1+1+1+1+1) g W (w7.setCell ⟨w.heap.size+1+1+1+1+1+1,38,none⟩ v')/\Xu n0 g ms sg q w W0 (pre++[y]) (w7.setCell ⟨w.heap.size+1+1+1+1+1+1,38,none⟩ v'):=by
 have hl:(pre++[y]).length=pre.length+1:=AX
 have hlt:=(BD.1 hG.2).1;have hk2:=hk.trans (AG5 (v':=v') (e:=w.heap.size+1+1+1+1+1+1) hR.own EJ hn hg AG AG AG 38);have hm:(pre++[y]).map sg=pre.map sg++[sg y]:=AX
 obtain ⟨S',hsub,hR7⟩:=hR.push Bd GJ AX EJ hat hnl hx;obtain ⟨A',c',rfl⟩:=CG GJ;have hE7:=hE.grown EJ (DX hR.own AG);refine ⟨hk2,?_,by omega,h.kx.trans hk2,?_,A',c',cs++news,S',fun b hb'=>(hsub b (Au hb' hb.size)).2 (hS b hb'),?_,?_⟩
 · rw [hl,<-(Ux hG.2).2,<-hG.1]
 · exact (hb.grown EJ hb.size (fun r hr=>by have:=(hR.own.lt r hr).1;omega)).setCell (by show w.heap.size<=w.heap.size+1+1+1+1+1+1;omega) _
 ·have hp:=hE7.put 38 (AB A' (pre.length+1) c')
  rw [ACt {q with claims:=AB RA pre.length rc} nM] at hp;rw [hl];exact hp
 rw [hl,hm];exact hR7.VX Bd AG 38 _
theorem ABe {w5 w6:AH} {S:List Nat} {k:Cj} {A1 A2:Option Aa} {c1 c2:Nat} {cs1 cs2:List AN} (hS:∀b∈S,b < W.heap.size) (h1:w5.ownsRow W.heap.size 34 32 (AB A1 k.chains.length c1) k.chains.length cs1) (h2:Aq 32 CV w5 cs1 k.chains) (h3:w5.ownsRow W.heap.size 34 32 (AB A2 k.path.length c2) k.path.length cs2) (h4:Aq 32 CV w5 cs2 k.path) (hb:AK w5 w6):
 Dt (veil S w6) [AE AF k.index,AB A1 k.chains.length c1,AB A2 k.path.length c2] k:=
 ⟨A1,_,c1,A2,_,c2,rfl,(CW (Ra h1 hS) (Ij h2) rfl).mono BK (M3 hb),(CW (Ra h3 hS) (Ij h4) rfl).mono BK (M3 hb)⟩
end
end
section
variable {P:BA} {ops:Array Oper} {Q:Exit->Act->AH->Prop} {md:Region.Mode} {S:AH->Prop} {D:List Nat}
def Ej (P:BA) (md:Region.Mode) (ops:Array Oper) (Q:Exit->Act->AH->Prop) (S:AH->Prop) (D:List Nat):Nat->Array Bool->Act->AH->Prop
 | 0,listed,a,w=>Region.ready md ops listed=[]/\Q .normal a w
 |
  fuel+1,listed,a,w=>
  (Region.ready md ops listed=[]->Q .normal a w)/\
  ∀i∈Region.ready md ops listed,wpOp P ops Q i (fun a' w'=>(i∈D\/(S w->S w'))/\Ej P md ops Q S D fuel (listed.setIfInBounds i true) a' w') a w
theorem V5:∀(fuel:Nat) (listed:Array Bool) (a:Act) (w:AH),Ej P md ops Q S D fuel listed a w->wpAny P md ops Q fuel listed a w
 | 0,_,_,_,h=>h
 | fuel+1,_,_,_,h=>⟨h.1,fun i hi=>wpOp_mono (fun a' w' h'=>V5 fuel _ a' w' h'.2) (h.2 i hi)⟩
theorem bO {i:Nat} {oi:Oper} {v:AN} (hi:ops[i]? =some oi) (hsel:∀(j:Nat) (o:Oper) cs b,ops[j]? =some o->o.op≠.select cs b)
 (hQ:∀c a w,Q (.panic c) (a.put oi.dst v) w->Q (.panic c) a w) (hD:∀d∈D,∃od,ops[d]? =some od/\∃e∈od.after,Region.binds md e=true/\e.on=i):
 ∀(fuel:Nat) (listed:Array Bool) (a:Act) (w:AH),
  (∀j oj,ops[j]? =some oj->j≠i->listed.getD j true=false->(∀e∈oj.after,Region.binds md e=true->e.on≠i)->oi.apart ops oj=true)->
  i∈Region.ready md ops listed->YieldsIf P ops S oi v a->S w->
  Ej P md ops Q S D fuel (listed.setIfInBounds i true) (a.put oi.dst v) w->Ej P md ops Q S D (fuel+1) listed a w:=by
 intro fuel
 induction fuel with
 |
  zero=>
  intro listed a w _ hr hy hS H;refine ⟨fun h=>OC,fun j hj=> ?_⟩;by_cases hji:j=i
  · subst hji;exact hy.wpOp hi hS ⟨.inr id,H⟩
  ·have:=Jg hj hji
   rw [H.1] at this;cases this
 |
  succ fuel ih=>
  intro listed a w hfree hr hy hS H;refine ⟨fun h=>OC,fun j hj=> ?_⟩;by_cases hji:j=i
  · subst hji;exact hy.wpOp hi hS ⟨.inr id,H⟩
  have h1:=H.2 j (Jg hj hji);obtain ⟨hjun,oj,hoj,hall⟩:=IZ.1 hj;have hnot:∀e∈oj.after,Region.binds md e=true->e.on≠i:=fun e he hb heq=>by
   have h1:=hall e he hb;have h0:=(IZ.1 hr).1;rw [heq] at h1;rcases Ec i listed.size with h' | h'
   · simp [h'] at h0 h1;rw [h0] at h1;cases h1
   · simp [Array.getElem?_eq_none h'] at h1
  have hjD:j∉D:=fun hd=>by obtain ⟨od,hod,e,he,hb,heq⟩:=hD j hd;rw [hoj,Bu] at hod;subst hod;exact hnot e he hb heq
  have h2:=wpOp_putIf hoj (hfree j oj hoj hji hjun hnot) (fun cs b=>hsel i oi cs b hi) (fun cs b=>hsel j oj cs b hoj) hQ hy h1;have hfree':∀k ok,ops[k]? =some ok->k≠i->(listed.setIfInBounds j true).getD k true=false->
   (∀e∈ok.after,Region.binds md e=true->e.on≠i)->oi.apart ops ok=true:=fun k ok hk hki hun hno=>by
   refine hfree k ok hk hki ?_ hno;by_cases hjk:j=k
   · subst hjk;exact hjun
   · exact ko
  refine wpOp_mono (fun a' w' h3=>⟨h3.2.1,ih (listed.setIfInBounds j true) a' w' hfree' (Jg hr (Ne.symm hji)) h3.1 (h3.2.1.resolve_left hjD hS) ?_⟩) h2;rw [YZ _ _ hji];exact h3.2.2
theorem fG {i:Nat} {oi:Oper} {v:AN} {fuel:Nat} {listed:Array Bool} {a:Act} {w:AH} (hi:ops[i]? =some oi)
 (hs:Region.noSelect ops=true) (hf:Region.free md ops listed i=true) (hr:(Region.ready md ops listed).contains i=true) (hD:D.all (fun d=>Region.waitsFor md ops d i)=true)
 (hQ:∀c a w,Q (.panic c) (a.put oi.dst v) w->Q (.panic c) a w) (hy:YieldsIf P ops S oi v a) (hS:S w)
 (h:Ej P md ops Q S D fuel (listed.setIfInBounds i true) (a.put oi.dst v) w):Ej P md ops Q S D (fuel+1) listed a w:=
 bO hi (YT hs) hQ (fun d hd=>Region.waitsFor_spec (De.1 hD d hd)) fuel listed a w (YL hi hf) (by simpa using hr) hy hS h
theorem Nj {i:Nat} {o:Oper} {fuel:Nat} {listed:Array Bool} {a:Act} {w:AH} (hr:Region.ready md ops listed=[i]) (ho:ops[i]? =some o)
 (h:∀K:Act->AH->Prop,Shut (∀a' w',(D.contains i=true\/(S w->S w'))->Ej P md ops Q S D fuel (listed.setIfInBounds i true) a' w'->K a' w')->if Region.wanted o (yielded ops a.tmps)=true then Oper.wp P o a w K Q else K (a.put o.dst undef) w):
 Ej P md ops Q S D (fuel+1) listed a w:=by
 refine ⟨fun h0=>absurd (hr ▸ h0) AX,fun j hj=> ?_⟩;rw [hr,Fg] at hj;subst hj;exact wpOp_step ho (fun K hK=>h K (fun a w hS hW=>hK a w ⟨Or.imp (fun h=>by simpa using h) id hS,hW⟩))
theorem fH {listed:Array Bool} {a:Act} {w:AH} (hr:Region.ready md ops listed=[]) (h:Q .normal a w):
 ∀fuel,Ej P md ops Q S D fuel listed a w
 | 0=>⟨hr,h⟩
 | _+1=>⟨fun _=>h,by rw [hr];simp⟩
theorem fD {id:Nat} {a:Act} {w:AH} (S:AH->Prop) (D:List Nat) (hm:P.follows .mixedOrders=true)
 (h:Ej P .any ops Q S D ops.size (Array.replicate ops.size false) a w.drew):(Code.region id ops true).wp P Q a w:=
 wp_region_any hm (V5 _ _ _ _ h)
end
section
variable {P:BA} {md:Region.Mode} {ops:Array Oper} {Q:Exit->Act->AH->Prop} {S:AH->Prop} {D:List Nat} {fuel:Nat} {listed:Array Bool} {l:List AN} {E:List Deferred} {w:AH}
theorem lB {id:Nat} {a:Act} (S:AH->Prop) (D:List Nat) (n:Nat) (L:Array Bool) (h:Ej P .any ops Q S D n L a w.drew) (hm:P.follows .mixedOrders=true:=by kernel_rfl) (hn:ops.size=n:=by kernel_rfl) (hL:Array.replicate n false=L:=by rfl):(Code.region id ops true).wp P Q a w:=by subst hn hL;exact fD S D hm h
theorem lT (i d:Nat) (hS:S w) {oi:Oper} {v:AN} (h:Ej P md ops Q S D fuel (listed.setIfInBounds i true) ⟨(l.set d v).toArray,E⟩ w)
 (hB:Wt md ops listed i=true:=by decide +kernel) (hi:ops[i]? =some oi:=by rfl) (hd:oi.dst=some d:=by rfl) (hQ:∀c (a:Act) v w,Q (.panic c) (a.put (some d) v) w->Q (.panic c) a w:=by first | exact kX rfl Ah Ah | exact kY rfl Ah | exact fun _ _ _ _ h=>h | exact fun _ _ _ _ h=>by cases h.1)
 (hw:Region.wanted oi (yielded ops l.toArray)=true:=by kernel_rfl) (hD:D.all (fun d=>Region.waitsFor md ops d i)=true:=by decide +kernel) (hv:∀w,S w->(execOp (Act.eval ⟨l.toArray,E⟩) oi).run P w=.ok (.value v) w:=by intro W hW;have f:=TK W hW;(go_simp) <;> rfl):
 Ej P md ops Q S D (fuel+1) listed ⟨l.toArray,E⟩ w:=by
 simp only [Bj] at hB;rw [<-M8,<-hd] at h;exact fG hi hB.1 hB.2.1 hB.2.2 hD (fun c a w hq=>by rw [hd] at hq;exact hQ c a _ w hq) (.inl ⟨hw,hv⟩) hS h
theorem lM (i d t:Nat) (hS:S w) {oi:Oper} {v:AN} (h:Ej P md ops Q S D fuel (listed.setIfInBounds i true) ⟨(l.set d v).toArray,E⟩ w)
 (hv:l[t]? =some v:=by rfl) (hB:Wt md ops listed i=true:=by decide +kernel) (hi:ops[i]? =some oi:=by rfl) (hd:oi.dst=some d:=by rfl) (hQ:∀c (a:Act) v w,Q (.panic c) (a.put (some d) v) w->Q (.panic c) a w:=by first | exact kX rfl Ah Ah | exact kY rfl Ah | exact fun _ _ _ _ h=>h | exact fun _ _ _ _ h=>by cases h.1)
 (hw:Region.wanted oi (yielded ops l.toArray)=true:=by kernel_rfl) (hD:D.all (fun d=>Region.waitsFor md ops d i)=true:=by decide +kernel) (ho:oi.op=.move (AY t)\/oi.op=.assign (AY t):=by first | exact .inl rfl | exact .inr rfl):
 Ej P md ops Q S D (fuel+1) listed ⟨l.toArray,E⟩ w:=by
 refine lT i d hS h hB hi hd hQ hw hD (fun W _=> ?_);have e:Act.eval ⟨l.toArray,E⟩ (AY t)=v:=by simp [Act.eval,hv]
 unfold execOp;rcases ho with ho | ho
 · rw [ho];simp [e]
 · rw [ho];simp [e]
theorem kW {w0:AH} (i j m k d1 d2 d3 ts:Nat) {o1 o2 o4 o3:Oper} (T e:Af) {z:TypeInfo} {zv:AN} {base size bytes n g off:Nat} {v x:AN} {xs:List AN} {news:Array AN} (t0:Nat)
 (hown:w.ownsRow base e size v n xs) (hnl:news.size=size) (h1:∀u∈news.toList,u.oneCell'=true) (h63:n+1<=maxLen) (hby:(n+1)*bytes<=140737488355328) (hb:base<=w.heap.size)
 (hbs:(Instr.buildSlice T 1 #[(0,x)]).run P w=.ok (AB (some ⟨w.heap.size,0,none⟩) 1 1) (w.alloc (AO news e)))
 (hst:∀v' w7,w7.ownsRow base e size v' (n+1) (xs++news.toList)->(w.alloc (AO news e)).grownBy w7 v.ownBlock->(Instr.storeAt T (AW (some ⟨g,off,none⟩)) v').run P w7=.ok () (w7.setCell ⟨g,off,none⟩ v'))
 (h:∀v' w7,w7.ownsRow base e size v' (n+1) (xs++news.toList)->(w.alloc (AO news e)).grownBy w7 v.ownBlock->(v'.ownBlock=v.ownBlock\/v'.ownBlock=some (w.heap.size+1))->Q .normal ⟨(((l.set d1 (AB (some ⟨w.heap.size,0,none⟩) 1 1)).set d2 v').set d3 (AW (some ⟨g,off,none⟩))).toArray,E⟩ (w7.setCell ⟨g,off,none⟩ v'))
 (hz:P.info? e=some z/\z.zero=some zv/\zv.cells.size=size/\z.size=size/\z.bytes=bytes) (hsz:0 < size:=by decide) (ht:P.underlying T=some (.slice e):=by rfl)
 (hx:l[t0]? =some x:=by rfl) (hs:(l.set d1 (AB (some ⟨w.heap.size,0,none⟩) 1 1))[ts]? =some v:=by rfl) (AHq:decide (d1 < l.length)=true:=by kernel_rfl) (AHo:decide (d3 < l.length)=true:=by kernel_rfl) (hne:d2≠d3:=by decide) (AHp:decide (d2 < l.length)=true:=by kernel_rfl)
 (hr1:Region.ready md ops listed=[i]:=by kernel_rfl) (hr2:Region.ready md ops (listed.setIfInBounds i true)=[j]:=by kernel_rfl) (hr5:Region.ready md ops ((listed.setIfInBounds i true).setIfInBounds j true)=[m]:=by kernel_rfl) (hr3:Region.ready md ops (((listed.setIfInBounds i true).setIfInBounds j true).setIfInBounds m true)=[k]:=by kernel_rfl) (hr4:Region.ready md ops ((((listed.setIfInBounds i true).setIfInBounds j true).setIfInBounds m true).setIfInBounds k true)=[]:=by kernel_rfl)
 (hi1:ops[i]? =some o1:=by rfl) (hi2:ops[j]? =some o2:=by rfl) (hi3:ops[k]? =some o3:=by rfl) (hi4:ops[m]? =some o4:=by rfl) (hg4:o4.guard=none:=by rfl) (he4:o4.dst=some d3:=by rfl) (hg1:o1.guard=none:=by rfl) (hg2:o2.guard=none:=by rfl) (hg3:o3.guard=none:=by rfl) (he1:o1.dst=some d1:=by rfl) (he2:o2.dst=some d2:=by rfl) (he3:o3.dst=none:=by rfl)
 (ho1:o1.op=.buildSlice T 1 #[(0,.tmp t0)]:=by rfl) (ho2:o2.op=.call {callee:=.builtin .append,args:=#[.tmp ts,.tmp d1],argTypes:=#[T,T]}:=by rfl) (ho3:o3.op=.store T (AY d3) (AY d2):=by rfl)
 (hp:∀v' W,(execOp (Act.eval ⟨((l.set d1 (AB (some ⟨w.heap.size,0,none⟩) 1 1)).set d2 v').toArray,E⟩) o4).run P W=.ok (.value (AW (some ⟨g,off,none⟩))) W:=by intro _ _;(go_simp) <;> rfl):
 Ej P md ops Q (fun W=>w0.grownBy W v.ownBlock) [k] (fuel+1+1+1+1) listed ⟨l.toArray,E⟩ w:=by
 have hd1:=F8 AHq;have hd2:=F8 AHp;have hd3:=F8 AHo;have hw:∀(o:Oper) (t:Array AN),o.guard=none->Region.wanted o (yielded ops t)=true:=fun o t h=>by simp [Region.wanted,h]
 refine Nj hr1 hi1 (fun K hK=> ?_);rw [Ao (hw _ _ hg1)];refine bN d1 T 1 #[(0,.tmp t0)] #[(0,x)] ho1 he1 eB hbs (Hid.out hK _ _ (.inr fun hs=>hs.trans (EQ _ _ _)) ?_);clear hK K;refine Nj hr2 hi2 (fun K hK=> ?_);rw [Ao (hw _ _ hg2)];have hsrc:∀(j:Nat) (u:AN),news.toList[j]? =some u->(w.alloc (AO news e)).cell? ((Addr.mk w.heap.size 0 none).add j)=some u:=fun j u hu=>by
  have e1:(Addr.mk w.heap.size 0 none).add j=⟨w.heap.size,j,none⟩:=by
   unfold Addr.add;split
   · subst_vars;rfl
   · simp
  rw [e1,(AZ.new w e news).cell];simpa using hu
 obtain ⟨v',w7,hrun,GJ,EJ,_,hat⟩:=run_append_own_at (P:=P) (w.alloc (AO news e)) base T o2.type e z zv size bytes ht hz.1 hz.2.1 hz.2.2.2.1 hz.2.2.2.2 hz.2.2.1 hsz v n xs (hown.alloc _) ⟨w.heap.size,0,none⟩ 1 1 news.toList (by rw [Array.length_toList,hnl,Nat.one_mul]) hsrc h1 h63 hby (by rw [Ee];omega);have hev:(Act.eval ⟨(l.set d1 (AB (some ⟨w.heap.size,0,none⟩) 1 1)).toArray,E⟩ (AY ts))=v:=by simp [Act.eval,hs]
 have hex:(Act.eval ⟨(l.set d1 (AB (some ⟨w.heap.size,0,none⟩) 1 1)).toArray,E⟩ (AY d1))=AB (some ⟨w.heap.size,0,none⟩) 1 1:=by simp [Act.eval,hd1]
 unfold Oper.wp execOp;simp only [ho2,resolve,invoke,builtin,Ck,DC,Result.andThen_ok,YK,Fe,N2,hev,hex,hrun];show K (Act.put ⟨_,E⟩ o2.dst v') w7;rw [he2,M8];refine Hid.out hK _ _ (.inr fun hs=>(hs.trans EJ)) ?_;clear hK K;refine Nj hr5 hi4 (fun K hK=> ?_);rw [Ao (hw _ _ hg4)];unfold Oper.wp;rw [hp v' w7];show K (Act.put ⟨_,E⟩ o4.dst _) w7;rw [he4,M8];refine Hid.out hK _ _ (.inr id) ?_;clear hK K;refine Nj hr3 hi3 (fun K hK=> ?_);rw [Ao (hw _ _ hg3)];refine uH T (AY d3) (AY d2) (AW (some ⟨g,off,none⟩)) v' ho3 he3 (by simp [Act.eval,hd3]) (by simp [Act.eval,hd2,hne.symm]) (hst v' w7 GJ EJ) (Hid.out hK _ _ (.inl AX) ?_);rw [Ee] at hat;exact fH hr4 (h v' w7 GJ EJ hat) _
end
theorem fP (W:AH) (i:Int) (A1 A2:Option Aa) (n1 c1 n2 c2:Nat):(Instr.buildSlice 44 1 #[(0,AP #[AE AF i,AB A1 n1 c1,AB A2 n2 c2])]).run prog W=.ok (AB (some ⟨W.heap.size,0,none⟩) 1 1) (W.alloc (AO #[AE AF i,AB A1 n1 c1,AB A2 n2 c2] 71)):=by go_simp
theorem fO (W:AH) (g o:Nat) (v:AN) (a:Option Aa) (b c:Nat) (h:W.cell? ⟨g,o,none⟩=some v) (hf:W.frozen? ⟨g,o,none⟩=false):(Instr.storeAt 44 (AW (some ⟨g,o,none⟩)) (AB a b c)).run prog W=.ok () (W.setCell ⟨g,o,none⟩ (AB a b c)):=by go_simp
theorem AES:∃(j:TypeInfo) (z:AN),prog.info? 3=some j/\j.zero=some z/\z.cells.size=1/\j.size=1/\j.bytes=8:=by obtain ⟨j,hj,hz⟩:=Ds.1 (show (prog.info? 3).map (fun i=>(i.zero.map (·.cells.size),i.size,i.bytes))=some (some 1,1,8) by kernel_rfl);simp only [F7] at hz;obtain ⟨z,hz0,hz1⟩:=Ds.1 hz.1;exact ⟨j,z,hj,hz0,hz1,hz.2⟩
theorem AAz (s:JF) (hh:s.holder.length=32) (ht:s.token.length=32) (v:AN):(GD s).setIfInBounds 37 v=GD {s with values:=v}:=by
 obtain ⟨i,r,s,p,h,f,u,l,t,k,_,_,_,_⟩:=s
 dsimp only at hh ht
 exact RW
theorem AA0 (s:JF) (hh:s.holder.length=32) (ht:s.token.length=32) (v:AN):(GD s).setIfInBounds 71 v=GD {s with claims:=v}:=by
 obtain ⟨i,r,s,p,h,f,u,l,t,k,_,_,_,_⟩:=s
 dsimp only at hh ht
 exact RW
theorem Vu {g:Nat} {t:Af}:∀(vs:List AN) (o:Nat) (w:AH) (cs:List AN),AZ w g t cs.toArray->o+vs.length<=cs.length->AZ (w.setCells g o vs) g t (cs.take o++vs++cs.drop (o+vs.length)).toArray
 | [],o,w,cs,h,_=>by simpa [World.setCells] using h
 |
  u::r,o,w,cs,h,hl=>by
  simp only [Gw] at hl;have h1:AZ (w.setCell ⟨g,o,none⟩ u) g t (cs.set o u).toArray:=by have:=h.put o u;simpa using this
  have h2:=Vu r (o+1) _ _ h1 BN;rw [World.setCells];have e:(cs.set o u).take (o+1)++r++(cs.set o u).drop (o+1+r.length)=cs.take o++u::r++cs.drop (o+(u::r).length):=by rw [List.drop_set_of_lt AG,dx BN,List.take_set_of_le (Ac _)];simp [Nat.add_assoc,Nat.add_comm 1]
  rw [e] at h2;exact h2
theorem Ud (g:Nat):∀(vs:List AN) (o:Nat) (w:AH),(w.setCells g o vs).heap.size=w.heap.size
 | [],_,_=>rfl
 | v::vs,o,w=>(Ud g vs (o+1) (w.setCell ⟨g,o,none⟩ v)).trans (RI ..)
theorem AD3 (s:JF) (hh:s.holder.length=32) (ht:s.token.length=32) (d:AQ):(Ua s).take 39++d.map (Value.int .u8)++(Ua s).drop 71=Ua {s with token:=d}:=by
 obtain ⟨i,r,s,p,h,f,u,l,t,k,_,_,_,_⟩:=s
 dsimp only at hh ht
 rw [Ok hh,Ok ht];rfl
structure Qk (S0:List Nat) (L:Nat) (q:JF) (w W7:AH) (vl:AQ) (kl:List Cj) (W:AH):Prop where
 kx:KX L (w.heap.size+1+1) w.heap.size W7 W
 old:AK w W
 row:∃VA vc cv KA kc ck S,AZ W (w.heap.size+1+1) 57 (GD {q with values:=AB VA vl.length vc,claims:=AB KA kl.length kc})/\W.ownsRow L 3 1 (AB VA vl.length vc) vl.length cv/\Aq 1 CK W cv vl/\
  (∀r,(Value.slice VA vl.length vc).ownBlock=some r->r∈S)/\Je L 71 3 Dt (w.heap.size+1+1) (AB KA kl.length kc) kl W ck S/\(∀b,b < w.heap.size->(b∈S↔b∈S0))/\(∀r,(Value.slice VA vl.length vc).ownBlock=some r->(Value.slice KA kl.length kc).ownBlock≠some r)
section
variable {S0 S:List Nat} {L:Nat} {q:JF} {w W7 A C w7:AH} {vl:AQ} {kl:List Cj} {VA KA:Option Aa} {vc kc:Nat} {cv ck news:List AN} {o:Obj} {v':AN}
theorem Qk.below (h:Qk S0 L q w W7 vl kl A) (hn:L<=A.heap.size) (hw:w.heap.size < A.heap.size) (t:AK A C):Qk S0 L q w W7 vl kl C:=by obtain ⟨VA,vc,cv,KA,kc,ck,S,h1,h2,h3,h4,h5,h6,h7⟩:=h.row;exact ⟨h.kx.below t hn hw,AV h.old t,VA,vc,cv,KA,kc,ck,S,h1.below t h1.lt,EW h2 t,Px h3,h4,h5.below Bd t,h6,h7⟩
theorem Qk.AG1 {x:Int} (h:Qk S0 L q w W7 vl kl A) (hh:q.holder.length=32) (ht:q.token.length=32) (hL:w.heap.size+1+1 < L) (Oz:L<=A.heap.size) (h1:AZ A (w.heap.size+1+1) 57 (GD {q with values:=AB VA vl.length vc,claims:=AB KA kl.length kc})) (h2:A.ownsRow L 3 1 (AB VA vl.length vc) vl.length cv) (h3:Aq 1 CK A cv vl)
 (h4:∀r,(Value.slice VA vl.length vc).ownBlock=some r->r∈S) (h5:Je L 71 3 Dt (w.heap.size+1+1) (AB KA kl.length kc) kl A ck S) (h6:∀b,b < w.heap.size->(b∈S↔b∈S0)) (h7:∀r,(Value.slice VA vl.length vc).ownBlock=some r->(Value.slice KA kl.length kc).ownBlock≠some r) (hx:Gk x)
 (ho:w7.ownsRow L 3 1 v' (vl.length+1) (cv++[AE AF x])) (hg:(A.alloc o).grownBy w7 (Value.slice VA vl.length vc).ownBlock) (hat:v'.ownBlock=(Value.slice VA vl.length vc).ownBlock\/v'.ownBlock=some (A.heap.size+1)):
 Qk S0 L q w W7 (vl++[x]) kl (w7.setCell ⟨w.heap.size+1+1,37,none⟩ v'):=by
 have hl:(vl++[x]).length=vl.length+1:=AX
 have hb6:AK A (A.alloc o):=(Ae _ _).alloc (Ac _) o;have hz6:(A.alloc o).heap.size=A.heap.size+1:=Ee _ _;obtain ⟨A',c',rfl⟩:=CG ho;have hE7:=(h1.alloc o).grown hg (DX h2 hL);have cw:AK w (A.alloc o):=h.old.alloc h.old.size o;have AJF:=hg.size;obtain ⟨S',hS',hlt',hsub,hnew⟩:∃S',(∀b,b < (A.alloc o).heap.size->(b∈S'↔b∈S))/\(∀b∈S',b < w7.heap.size)/\(∀b∈S,b∈S')/\(∀r,(Value.slice A' (vl.length+1) c').ownBlock=some r->r∈S'):=by
  rcases hat with hat | hat
  · exact ⟨S,fun _ _=>Iff.rfl,fun b hb=>by have:=h5.lt b hb;omega,fun _ h=>h,fun r hr=>h4 r (hat ▸ hr)⟩
  refine ⟨(A.heap.size+1)::S,fun b hb=>by rw [CJ];exact ⟨fun h=>h.resolve_left AG,.inr⟩,fun b hb=> ?_,fun _ h=>Mu _ h,fun r hr=>by rw [hat] at hr;injection hr with hr;simp [hr]⟩;rcases CJ.1 hb with rfl | hb
  · exact (ho.lt _ hat).2
  have:=h5.lt b hb;omega
 have hR7:Je L 71 3 Dt (w.heap.size+1+1) (AB KA kl.length kc) kl w7 ck S':=(h5.below Bd hb6).other Bd hg h4 hS' hlt' (fun r hr e=>h7 r e hr);refine ⟨?_,?_,A',c',cv++[AE AF x],KA,kc,ck,S',?_,?_,?_,?_,?_,fun b hb=>(hS' b (by have:=h.old.size;omega)).trans (h6 b hb),?_⟩
 · exact (h.kx.below hb6 Oz AG).trans ((KX.grown hg AG (fun b hb=>DX h2 hb) AG AG).VX 37 _ AG AG)
 · exact (cw.grown hg cw.size (fun r hr=>by have:=(h2.lt r hr).1;omega)).setCell Yo _
 ·have hp:=hE7.put 37 (AB A' (vl.length+1) c')
  rw [AAz {q with values:=AB VA vl.length vc,claims:=AB KA kl.length kc} hh ht] at hp;rw [hl];exact hp
 ·rw [hl]
  exact Ew ho (a:=⟨w.heap.size+1+1,37,none⟩) hL _
 · exact (Px h3).append (Aq.one rfl ⟨rfl,hx⟩)
 · rw [hl];exact hnew
 · exact hR7.VX Bd hL 37 _
 rw [hl];intro r hr;rcases hat with hat | hat
 · exact h7 r (hat ▸ hr)
 rw [hat] at hr;injection hr with hr;intro e;have:=(h5.own.lt r e).2;omega
theorem Qk.uh {x:Cj} (h:Qk S0 L q w W7 vl kl A) (hh:q.holder.length=32) (ht:q.token.length=32) (hL:w.heap.size+1+1 < L) (Oz:L<=A.heap.size) (h1:AZ A (w.heap.size+1+1) 57 (GD {q with values:=AB VA vl.length vc,claims:=AB KA kl.length kc})) (h2:A.ownsRow L 3 1 (AB VA vl.length vc) vl.length cv) (h3:Aq 1 CK A cv vl)
 (h4:∀r,(Value.slice VA vl.length vc).ownBlock=some r->r∈S) (h5:Je L 71 3 Dt (w.heap.size+1+1) (AB KA kl.length kc) kl A ck S) (h6:∀b,b < w.heap.size->(b∈S↔b∈S0)) (h7:∀r,(Value.slice VA vl.length vc).ownBlock=some r->(Value.slice KA kl.length kc).ownBlock≠some r) (hnl:news.length=3) (hx:Dt (veil S A) news x)
 (ho:w7.ownsRow L 71 3 v' (kl.length+1) (ck++news)) (hg:(A.alloc o).grownBy w7 (Value.slice KA kl.length kc).ownBlock) (hat:v'.ownBlock=(Value.slice KA kl.length kc).ownBlock\/v'.ownBlock=some (A.heap.size+1)):
 Qk S0 L q w W7 vl (kl++[x]) (w7.setCell ⟨w.heap.size+1+1,71,none⟩ v'):=by
 have hl:(kl++[x]).length=kl.length+1:=AX
 have hb6:AK A (A.alloc o):=(Ae _ _).alloc (Ac _) o;have hz6:(A.alloc o).heap.size=A.heap.size+1:=Ee _ _;obtain ⟨A',c',rfl⟩:=CG ho;have hE7:=(h1.alloc o).grown hg (DX h5.own hL);have cw:AK w (A.alloc o):=h.old.alloc h.old.size o;have h56:=h5.below Bd hb6;obtain ⟨S',hS',hR7⟩:=h56.push Bd ho hl.symm hg (by rw [hz6];exact hat) hnl (Bd _ _ (M3 hb6) _ _ hx);have hv7:=(h2.alloc o).kept hg (by
  cases hv:(Value.slice VA vl.length vc).ownBlock with
  | none=>exact .inl rfl
  | some r=>exact .inr (fun e=>h7 r hv e.symm))
 refine ⟨?_,?_,VA,vc,cv,A',c',ck++news,S',?_,?_,Px h3,?_,?_,fun b hb=>(hS' b (by have:=h.old.size;omega)).trans (h6 b hb),?_⟩
 · exact (h.kx.below hb6 Oz AG).trans ((KX.grown hg AG (fun b hb=>DX h5.own hb) AG AG).VX 71 _ AG AG)
 · exact (cw.grown hg cw.size (fun r hr=>by have:=(h5.own.lt r hr).1;omega)).setCell Yo _
 ·have hp:=hE7.put 71 (AB A' (kl.length+1) c')
  rw [AA0 {q with values:=AB VA vl.length vc,claims:=AB KA kl.length kc} hh ht] at hp;rw [hl];exact hp
 · exact Ew hv7 (a:=⟨w.heap.size+1+1,71,none⟩) hL _
 · exact fun r hr=>(hS' r (by have:=(h2.lt r hr).2;omega)).2 (h4 r hr)
 ·rw [hl]
  exact hR7.VX Bd hL 71 _
 rw [hl];intro r hr e;rcases hat with hat | hat
 · exact h7 r hr (hat ▸ e)
 rw [hat] at e;injection e with e;have:=(h2.lt r hr).2;omega
theorem Qk.tok {d:AQ} (h:Qk S0 L q w W7 vl kl A) (hh:q.holder.length=32) (ht:q.token.length=32) (hd:d.length=32) (hL:w.heap.size+1+1 < L):Qk S0 L {q with token:=d} w W7 vl kl (A.setCells (w.heap.size+1+1) 39 (d.map (Value.int .u8))):=by
 obtain ⟨VA,vc,cv,KA,kc,ck,S,h1,h2,h3,h4,h5,h6,h7⟩:=h.row;have hg:A.grownBy (A.setCells (w.heap.size+1+1) 39 (d.map (Value.int .u8))) (some (w.heap.size+1+1)):=Kw _ _ _ (DS _ _);have hn:∀b,b < A.heap.size->b≠w.heap.size+1+1->(A.setCells (w.heap.size+1+1) 39 (d.map (Value.int .u8))).heap[b]? =A.heap[b]? :=fun b hb hne=>hg.block b hb (fun e=>by injection e with e;exact hne e);have hL2:=h1.lt;refine ⟨h.kx.trans ⟨hg.size,fun b _ hne=> ?_,hn _ AG AG,fun t=>ML (hn 0 AG AG) hg.size t⟩,below_setCells _ _ _ _ h.old AG,VA,vc,cv,KA,kc,ck,S,?_,Pt h2 (fun g h8 h9=>hn g h9 AG),Px h3,h4,⟨Pt h5.own (fun g h8 h9=>hn g h9 AG),h5.hid,fun b hb=>Au (h5.lt b hb) hg.size,h5.box,h5.els.mono Bd (IE hg (fun r er _=>by injection er with er;rw [<-er];exact h5.box) (fun _ _=>Iff.rfl))⟩,h6,h7⟩
 ·by_cases hb:b < A.heap.size
  · exact hn b hb hne
  · rw [Mz (by rw [Ud];omega),Mz AG]
 have hs:=AD3 {q with values:=AB VA vl.length vc,claims:=AB KA kl.length kc} hh ht d;have hlen:(Ua {q with values:=AB VA vl.length vc,claims:=AB KA kl.length kc}).length=72:=by
  have:=Iu (s:={q with values:=AB VA vl.length vc,claims:=AB KA kl.length kc}) hh ht
  rwa [GD,RF] at this
 have hb:=Vu (d.map (Value.int .u8)) 39 A (Ua {q with values:=AB VA vl.length vc,claims:=AB KA kl.length kc}) h1 (by rw [Cb,hd,hlen];decide);rw [Cb,hd,hs] at hb;exact hb
end
theorem Zx {S0 S:List Nat} {w A:AH} (hb:AK w A) (h6:∀b,b < w.heap.size->(b∈S↔b∈S0)):BI (veil S0 w).heap.size (veil S0 w) (veil S A):=
 IE (row:=none) ⟨hb.os,hb.tape,hb.output,hb.size,fun k hk _=>hb.block k hk⟩ (fun _ e=>by cases e) h6
theorem iQ {α β:Type} {l:List α} {f:α->β} {j:Nat} {x:α} (h:l[j]? =some x):(l.take (j+1)).map f=(l.take j).map f++[f x]:=by rw [Tp,h,DE];rfl
theorem take_len {α β:Type} {l:List α} {f:α->β} {j:Nat} (h:j<=l.length):((l.take j).map f).length=j:=by rw [Cb,ER];omega
def QG (S0:List Nat) (w:AH) (q:IX) (e0:Int) (e:Ending) (w':AH):Prop:=∃FA fn fc VA vn vc KA kn kc,e=AU (BQ #[AP (GD ⟨q.Ar,q.round,q.schema,q.place,q.holder,AB FA fn fc,AB VA vn vc,q.link,q.token,AB KA kn kc,undef,undef,0,0⟩),AE AF e0])/\
 Ag 1 CK (veil S0 w') (AB FA fn fc) q.fields/\Ag 1 CK (veil S0 w') (AB VA vn vc) q.values/\Ag 3 Dt (veil S0 w') (AB KA kn kc) q.claims/\AK w w'
def MN:IX:=⟨0,0,0,0,zeros 32,[],[],0,zeros 32,[]⟩
end Go.Proofs.YtamhoilkpppdbaaGreatDoor
