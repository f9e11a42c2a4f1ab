import Derived.Test.YtpmpddfgifhlbaaGreatDoorM11
import Derived.Test.YtpmpddfgifhlbaaGreatDoorM12
namespace Go.Proofs.YtpmpddfgifhlbaaGreatDoor
set_option maxHeartbeats 8000000
set_option maxRecDepth 100000
open Go renaming World→AH, Value→AK, Calls→AS, TypeId→Ae, Program→BB, Addr→Aa
open Go.RowKit renaming Below→BK
open Go.Proofs.Tryz
open Go.Value renaming slice→AA, int→AB, pointer→AU, bool→AX, agg→AO, tuple→BS
open Go.IntKind renaming i64→AE
open Go.Ending renaming returned→AV
open Go.Obj renaming cells→AQ
open Go.Operand renaming tmp→AY
open Go.RowKit Go.Shelf
attribute [local go_sem] Oper.semAt_some
theorem Vt (e:Int) (w:AH):AS prog 29 #[.iface 123 (AO #[AB AE e])] w fun en w'=>en=AV (AB AE e)/\AJ w w':=by
 have hta:∀w:AH,(Instr.typeAssert (.iface 123 (AO #[AB AE e])) 20 123 true).run prog w=.ok (BS #[AO #[AB AE e],AX true]) w:=fun w=>by simp [Instr.typeAssert,run_underlying underlying123,go_sem,Result.andThen]
 go_enter func29,ntmps29;exact zg
def Jy (e:Int):AK:=.iface 123 (AO #[AB AE e])
theorem aj (p:Aa) (w:AH):
 CallsD prog 42 #[AU (some p)] .returning w fun e u' w'=>e=AV (BS #[])/\u'=.returning/\w'=w:=by
 refine OE func42 rfl fun c₀ cs hu=> ?_;apply wpS_seq;apply N8;simp [wpOpsS,go_sem,recoverD,hu,ntmps42,Exit.thenS];refine N7 ?_;change Code.wp _ _ _ {tmps:=#[AU (some p),.nilIface,.nilIface,undef,undef,undef,undef],defers:=[]} w;go_wp2_with fail;cases c₀;simp_all [bodyPostS,results,results42]
theorem ai (D:Nat) (e0 e:Int) (w:AH) (hd:w.cell? ⟨D,0,none⟩=some (AB AE e0)) (hz:w.frozen? ⟨D,0,none⟩=false) (hD:D < w.heap.size):
 CallsD prog 42 #[AU (some ⟨D,0,none⟩)] (.panicking (G0 e)) w fun en u' w'=>
  en=AV (BS #[])/\u'=.panicking [{v:=Jy e,recovered:=true}]/\w'.cell? ⟨D,0,none⟩=some (AB AE e)/\∀base,base<=D->BK base w w':=by
 unfold G0;refine OE func42 rfl fun c₀ cs hu=> ?_;apply wpS_seq;apply N8;simp [wpOpsS,go_sem,recoverD,hu,ntmps42,Exit.thenS];refine N7 ?_;change Code.wp _ _ _ {tmps:=#[AU (some ⟨D,0,none⟩),Jy e,Jy e,undef,undef,undef,undef],defers:=[]} w;unfold Jy;go_wp2_with (
  go_at_call 29;refine (Vt e _).mono ?_;rintro e w5 ⟨rfl,hb5⟩;have d5:=(hb5.cell (p:=⟨D,0,none⟩) hD).trans hd;have z5:=(hb5.frozen (p:=⟨D,0,none⟩) hD).trans hz;have HB:=AF hb5;clear hb5)
 refine ⟨rfl,.panicking [{v:=.iface 123 (AO #[AB AE e]),recovered:=true}],rfl,BS #[],by simp [results,results42],rfl,rfl,?_,fun base hb=> ?_⟩
 · simp [go_sem, *]
 · exact vN
theorem df (p:Aa) (w:AH):
 CallsD prog 38 #[AU (some p)] .returning w fun e u' w'=>e=AV (BS #[])/\u'=.returning/\w'=w:=by
 refine OE func38 rfl fun c₀ cs hu=> ?_;apply wpS_seq;apply N8;simp [wpOpsS,go_sem,recoverD,hu,ntmps38,Exit.thenS];refine N7 ?_;change Code.wp _ _ _ {tmps:=#[AU (some p),.nilIface,.nilIface,undef,undef,undef,undef],defers:=[]} w;go_wp2_with fail;cases c₀;simp_all [bodyPostS,results,results38]
theorem de (D:Nat) (e0 e:Int) (w:AH) (hd:w.cell? ⟨D,0,none⟩=some (AB AE e0)) (hz:w.frozen? ⟨D,0,none⟩=false) (hD:D < w.heap.size):
 CallsD prog 38 #[AU (some ⟨D,0,none⟩)] (.panicking (G0 e)) w fun en u' w'=>
  en=AV (BS #[])/\u'=.panicking [{v:=Jy e,recovered:=true}]/\w'.cell? ⟨D,0,none⟩=some (AB AE e)/\∀base,base<=D->BK base w w':=by
 unfold G0;refine OE func38 rfl fun c₀ cs hu=> ?_;apply wpS_seq;apply N8;simp [wpOpsS,go_sem,recoverD,hu,ntmps38,Exit.thenS];refine N7 ?_;change Code.wp _ _ _ {tmps:=#[AU (some ⟨D,0,none⟩),Jy e,Jy e,undef,undef,undef,undef],defers:=[]} w;unfold Jy;go_wp2_with (
  go_at_call 29;refine (Vt e _).mono ?_;rintro e w5 ⟨rfl,hb5⟩;have d5:=(hb5.cell (p:=⟨D,0,none⟩) hD).trans hd;have z5:=(hb5.frozen (p:=⟨D,0,none⟩) hD).trans hz;have HB:=AF hb5;clear hb5)
 refine ⟨rfl,.panicking [{v:=.iface 123 (AO #[AB AE e]),recovered:=true}],rfl,BS #[],by simp [results,results38],rfl,rfl,?_,fun base hb=> ?_⟩
 · simp [go_sem, *]
 · exact vN
theorem ZJ (p:Aa) (w:AH):
 CallsD prog 28 #[AU (some p)] .returning w fun e u' w'=>e=AV (BS #[])/\u'=.returning/\w'=w:=by
 refine OE func28 rfl fun c₀ cs hu=> ?_;apply wpS_seq;apply N8;simp [wpOpsS,go_sem,recoverD,hu,ntmps28,Exit.thenS];refine N7 ?_;change Code.wp _ _ _ {tmps:=#[AU (some p),.nilIface,.nilIface,undef,undef,undef,undef],defers:=[]} w;go_wp2_with fail;cases c₀;simp_all [bodyPostS,results,results28]
theorem ZI (D:Nat) (e0 e:Int) (w:AH) (hd:w.cell? ⟨D,0,none⟩=some (AB AE e0)) (hz:w.frozen? ⟨D,0,none⟩=false) (hD:D < w.heap.size):
 CallsD prog 28 #[AU (some ⟨D,0,none⟩)] (.panicking (G0 e)) w fun en u' w'=>
  en=AV (BS #[])/\u'=.panicking [{v:=Jy e,recovered:=true}]/\w'.cell? ⟨D,0,none⟩=some (AB AE e)/\∀base,base<=D->BK base w w':=by
 unfold G0;refine OE func28 rfl fun c₀ cs hu=> ?_;apply wpS_seq;apply N8;simp [wpOpsS,go_sem,recoverD,hu,ntmps28,Exit.thenS];refine N7 ?_;change Code.wp _ _ _ {tmps:=#[AU (some ⟨D,0,none⟩),Jy e,Jy e,undef,undef,undef,undef],defers:=[]} w;unfold Jy;go_wp2_with (
  go_at_call 29;refine (Vt e _).mono ?_;rintro e w5 ⟨rfl,hb5⟩;have d5:=(hb5.cell (p:=⟨D,0,none⟩) hD).trans hd;have z5:=(hb5.frozen (p:=⟨D,0,none⟩) hD).trans hz;have HB:=AF hb5;clear hb5)
 refine ⟨rfl,.panicking [{v:=.iface 123 (AO #[AB AE e]),recovered:=true}],rfl,BS #[],by simp [results,results28],rfl,rfl,?_,fun base hb=> ?_⟩
 · simp [go_sem, *]
 · exact vN
section
variable {H:AP->AP->Dg}
theorem lP {nf:Option Nat} {val:Int->Int->Bool} {r:CS} {c:Ge} (h:¬PD nf val r c=true):F0 H 0 nf val r c=190:=by unfold F0;rw [Ah Ac,Ah h]
theorem WG {nf:Option Nat} {val:Int->Int->Bool} {r:CS} {s:Fw} (h:¬Jw nf val r s=true):DC H 0 nf val r s=190:=by unfold DC;rw [Ah Ac,Ah h]
theorem Um {ck:Int} {nf:Option Nat} {val:Int->Int->Bool} {r:CS} {s:Fw} (h:DC H ck nf val r s=0):ck=0/\Jw nf val r s=true/\∀(j:Nat) (m:Int×Dg) (c:Cd),(Nb H (nf.getD 0) s)[j]? =some m->s.claims[j]? =some c->c.index=m.1/\C7 H r.root (r.places*(((nf.getD 0:Nat):Int)+4+1)) m.2 c=true:=by
 unfold DC at h;by_cases h0:ck=0
 ·rw [Ah (by simp [h0])] at h
  by_cases h1:Jw nf val r s=true
  ·rw [Am h1,Mi] at h
   exact ⟨h0,h1,h⟩
  · rw [Ah h1] at h;cases h
 · rw [Am h0] at h;cases h
theorem Va {n:Nat} {s:Fw} (hv:s.values.length=s.fields.length) {j:Nat} {f:Int} (hf:s.fields[j]? =some f):(Nb H n s)[j]? =some (s.place*((n:Int)+4+1)+f,msgP H s.schema f (s.values.getD j 0) s.holder):=by
 have hj:=(BA.1 hf).1;have ez:(s.fields.zip s.values)[j]? =some (f,s.values.getD j 0):=by rw [Ig];exact ⟨hf,by rw [C0,BJ AG];rfl⟩
 unfold Nb Fb FC;rw [Fh,EF (by simp [hv];omega),Be,ez];rfl
theorem ABH {n:Nat} {s:Fw} (hv:s.values.length=s.fields.length) (h0:0<=s.link):(Nb H n s)[s.fields.length]? =some (s.place*((n:Int)+4+1)+((n:Int)+4) - 4+s.link,Ko H s.schema s.link s.token s.holder):=by unfold Nb Fb FC LC;simp only [Am h0];rw [Fh,Cf (by simp [hv])];simp [hv]
theorem ABJ {n:Nat} {s:Fw} (hv:s.values.length=s.fields.length):(Nb H n s)[s.fields.length+(if 0<=s.link then 1 else 0)]? =some (s.place*((n:Int)+4+1)+((n:Int)+4),msgP H s.schema (-1) 0 s.holder):=by
 unfold Nb Fb FC LC;by_cases h0:0<=s.link
 ·simp only [Am h0]
  rw [Cf (by simp [hv])];simp [hv]
 simp only [Ah h0];rw [Cf (by simp [hv])];simp [hv]
end
attribute [local go_sem] Oper.semAt_some
section
variable {P:BB} {md:Region.Mode} {ops:Array Oper} {Q:Exit->Act->AH->Prop} {S:AH->Prop} {fuel:Nat} {listed:Array Bool} {l:List AK} {D:List Deferred} {w:AH}
theorem ACv (i d:Nat) {oi:Oper} {v:AK} (hB:Qy md ops listed i=true) (hi:ops[i]? =some oi) (hd:oi.dst=some d) (hQ:∀c (a:Act) v w,Q (.panic c) (a.put (some d) v) w->Q (.panic c) a w) (hS:S w)
 (hw:Region.wanted oi (yielded ops l.toArray)=true) (hv:∀w,S w->(execOp (Act.eval ⟨l.toArray,D⟩) oi).run P w=.ok (.value v) w)
 (h:wpAnyH P md ops Q S fuel (listed.setIfInBounds i true) ⟨(l.set d v).toArray,D⟩ w):wpAnyH P md ops Q S (fuel+1) listed ⟨l.toArray,D⟩ w:=by
 exact AAM
theorem AJW (i d:Nat) {oi:Oper} (hB:Qy md ops listed i=true) (hi:ops[i]? =some oi) (hd:oi.dst=some d) (hQ:∀c (a:Act) v w,Q (.panic c) (a.put (some d) v) w->Q (.panic c) a w) (hS:S w)
 (hw:Region.wanted oi (yielded ops l.toArray)=false)
 (h:wpAnyH P md ops Q S fuel (listed.setIfInBounds i true) ⟨(l.set d undef).toArray,D⟩ w):wpAnyH P md ops Q S (fuel+1) listed ⟨l.toArray,D⟩ w:=by
 exact AAO
theorem uT (i d:Nat) (hS:S w) {oi:Oper} {v:AK} (h:wpAnyH P md ops Q S fuel (listed.setIfInBounds i true) ⟨(l.set d v).toArray,D⟩ w)
 (hB:Qy md ops listed i=true:=by kernel_rfl) (hi:ops[i]? =some oi:=by rfl) (hd:oi.dst=some d:=by rfl) (hQ:∀c (a:Act) v w,Q (.panic c) (a.put (some d) v) w->Q (.panic c) a w:=by first | exact ADg rfl BE | exact AHL rfl BE | exact Oc) (hw:Region.wanted oi (yielded ops l.toArray)=true:=by kernel_rfl) (hv:∀w,S w->(execOp (Act.eval ⟨l.toArray,D⟩) oi).run P w=.ok (.value v) w):wpAnyH P md ops Q S (fuel+1) listed ⟨l.toArray,D⟩ w:=ACv i d hB hi hd hQ hS hw hv h
theorem uN (i d:Nat) (hS:S w) {oi:Oper} (h:wpAnyH P md ops Q S fuel (listed.setIfInBounds i true) ⟨(l.set d undef).toArray,D⟩ w)
 (hB:Qy md ops listed i=true:=by kernel_rfl) (hi:ops[i]? =some oi:=by rfl) (hd:oi.dst=some d:=by rfl) (hQ:∀c (a:Act) v w,Q (.panic c) (a.put (some d) v) w->Q (.panic c) a w:=by first | exact ADg rfl BE | exact AHL rfl BE | exact Oc) (hw:Region.wanted oi (yielded ops l.toArray)=false:=by kernel_rfl):wpAnyH P md ops Q S (fuel+1) listed ⟨l.toArray,D⟩ w:=AJW i d hB hi hd hQ hS hw h
theorem XP (i d:Nat) {o:Oper} {f:FuncId} {xs:Array Operand} {ts:Array Ae} {args:Array AK} {R:Ending->AH->Prop} (hr:Region.ready md ops listed=[i]) (hi:ops[i]? =some o) (hd:o.dst=some d) (hg:o.guard=none)
 (ho:o.op=.call {callee:=.value (.func f),args:=xs,argTypes:=ts}) (he:Enters P f) (hc:AS P f args w R) (ha:xs.toList.map (Act.eval ⟨l.toArray,D⟩)=args.toList)
 (h:∀e w',R e w'->(∃v,e=AV v/\S w'/\wpAnyH P md ops Q S fuel (listed.setIfInBounds i true) ⟨(l.set d v).toArray,D⟩ w')\/∃ch,e=.panicked ch/\Q (.panic ch) ⟨l.toArray,D⟩ w'):wpAnyH P md ops Q S (fuel+1) listed ⟨l.toArray,D⟩ w:=by
 refine nk i hr hi hg ?_;have e:xs.map (Act.eval ⟨l.toArray,D⟩)=args:=by apply Yl.1;rw [UM];exact ha
 have hex:(execOp (Act.eval ⟨l.toArray,D⟩) o).run P w=.ok (.enter f args) w:=by unfold execOp;rw [ho];simp [resolve,Act.eval,Deferred.ofValue,invoke,<-e];exact he _ w
 unfold Oper.wp;rw [hex];exact hc.mono fun e w' hR=>by
  rcases h e w' hR with ⟨v,rfl,hS,hk⟩ | ⟨ch,rfl,hq⟩
  ·rw [<-MG,<-hd] at hk
   exact ⟨hS,hk⟩
  · exact hq
end
theorem VL {n:Nat} (h:n<=1000):∀f∈upto n,0<=f/\f<=1000:=fun f hf=>by simp only [upto,Df,Ef] at hf;obtain ⟨i,hi,rfl⟩:=hf;omega
theorem Tr {P:BB} {fn:Func} {t t':Array AK} {R:Ending->AH->Prop} (h:results fn t=results fn t'):∀(ds:List Deferred) (u:FrameMode) (w:AH),Leaves P fn t R ds u w->Leaves P fn t' R ds u w
 | [],.returning,_,⟨v,hv,hr⟩=>⟨v,h ▸ hv,hr⟩
 | [],.panicking _,_,hr=>hr
 | [],.run,_,hr=>hr.elim
 |
  _::ds,_,_,⟨hu,fv,cap,f,args,h1,h2,hc⟩=>⟨hu,fv,cap,f,args,h1,h2,hc.mono fun e u' w' hh=>by
  cases e with
  | returned v=>exact Tr h ds _ _ hh
  | panicked c=>exact Tr h ds _ _ hh
  | outgrown=>exact hh⟩
theorem ADg {P:BB} {fn:Func} {R:Ending->AH->Prop} {K:Act->AH->Prop} {d p:Nat} {ty:Ae} (hr:fn.results=#[.cell p ty]) (hd:d≠p):∀c (a:Act) v w,Exit.then K (bodyPostD P fn R) (.panic c) (a.put (some d) v) w->Exit.then K (bodyPostD P fn R) (.panic c) a w:=fun c a v w h=>by
 refine Tr (t:=(a.put (some d) v).tmps) ?_ _ _ _ h;exact AAI
theorem ACA {tmps:Array AK} {w W:AH} {g:Nat} {e k:Int} {R:Ending->AH->Prop} (hg:tmps.getD 6 undef=AU (some ⟨g,0,none⟩)) (hk:W.cell? ⟨g,0,none⟩=some (AB AE k)) (hz:W.frozen? ⟨g,0,none⟩=false) (hlt:g < W.heap.size) (hgw:w.heap.size<=g) (hb:AJ w W)
 (hR:∀w'',AJ w w''->R (AV (AB AE e)) w''):Leaves prog f18 tmps R [{target:=.fn (.func 42) #[AU (some ⟨g,0,none⟩)],args:=#[]}] (.panicking (G0 e)) W:=by
 refine OB (f:=42) (args:=#[AU (some ⟨g,0,none⟩)]) Ac MO ?_;refine (ai g k e W hk hz hlt).mono ?_;rintro en u' w'' ⟨rfl,rfl,hc,hb'⟩;have hg':tmps[6]?.getD undef=AU (some ⟨g,0,none⟩):=by simpa using hg
 exact ⟨_,by simp [results,results18,hg',asAddr,go_sem,hc],hR _ (hb.trans (hb' _ hgw))⟩
theorem AGg {tmps:Array AK} {W:AH} {g:Nat} {e:Int} {R:Ending->AH->Prop} (hg:tmps.getD 6 undef=AU (some ⟨g,0,none⟩)) (hk:W.cell? ⟨g,0,none⟩=some (AB AE e)) (hR:R (AV (AB AE e)) W):
 Leaves prog f18 tmps R [{target:=.fn (.func 42) #[AU (some ⟨g,0,none⟩)],args:=#[]}] .returning W:=by
 refine OB (f:=42) (args:=#[AU (some ⟨g,0,none⟩)]) Ac MO ?_;refine (aj ⟨g,0,none⟩ W).mono ?_;rintro en u' w'' ⟨rfl,rfl,rfl⟩;have hg':tmps[6]?.getD undef=AU (some ⟨g,0,none⟩):=by simpa using hg
 exact ⟨_,by simp [results,results18,hg',asAddr,go_sem,hk],hR⟩
theorem ACS (v0 v1 v3 v4 v5 v6:AK) (A:Option Aa) (n c:Nat) (ns:List Nat) (ck:Int) (val:Int->Int->Int->Bool) (r:CS) (q:Ge) (VA LA KA:Option Aa) (vn vc ln lc kn kc:Nat) (w:AH) (hs:Ag 6 LG w (AA A n c) ns)
 (hK:Qm (AO #[v0,v1,AA A n c,v3,v4,v5]) (AO #[v0,v1,AA A n c,v3,v4,v5,v6]) ck val w) (hv:Ag 1 CF w (AA VA vn vc) q.values) (hl:Ag 32 CQ w (AA LA ln lc) q.links) (hk:Ag 3 Dc w (AA KA kn kc) q.claims)
 (hh:q.holder.length=32) (hro:r.root.length=32) (MJ:Cc w):
 AS prog 18 #[AO #[v0,v1,AA A n c,v3,v4,v5,v6],AO (rdA r),AO (Hf ⟨q.Au,q.round,q.schema,q.place,q.holder,AA VA vn vc,AA LA ln lc,AA KA kn kc⟩)] w fun e w'=>
  e=AV (AB AE (F0 Aq ck (Bt ns r.schema) (val r.schema) r q))/\AJ w w':=by
 obtain ⟨p,hp⟩:=Ab (⟨q.Au,q.round,q.schema,q.place,q.holder,AA VA vn vc,AA LA ln lc,AA KA kn kc⟩:Tg);rw [<-hp];obtain ⟨RR,hRR⟩:=Ab (rdA r);obtain ⟨Y,hY⟩:=Ab (Hf p);obtain ⟨res,hres⟩:=Ab (F0 Aq ck (Bt ns r.schema) (val r.schema) r q);have WM:p.holder.length=32:=by rw [hp];exact hh
 rw [<-hY,<-hRR,<-hres];have U8:AI ((prog.info? 48).map (·.size)=some Y.size):=AF (by rw [hY,N2 WM];exact iB);have PI:AI ((prog.info? 36).map (·.size)=some RR.size):=AF Ww;have LV:AI (∀W g,AZ W g 48 Y->CpB W g p):=AF (fun W g h=>by rw [hY] at h;exact Nh h WM);have LI:AI (RR[0]? =some (AB AE r.Au)/\RR[1]? =some (AB AE r.no)/\RR[2]? =some (AB AE r.schema)/\RR[5]? =some (AB AE r.places)):=AF mr
 have NJ:AI (∀W,AJ w W->AS prog 22 #[AO #[v0,v1,AA A n c,v3,v4,v5,v6],.agg RR] W fun e w'=>e=AV (AX (GR (Bt ns r.schema) r.places))/\AJ W w'):=AF (fun W hW=>by rw [hRR];exact mF);have dy:AI (∀(k x:Nat) (W:AH),AJ w W->ns[k]? =some x->x<=1000->q.schema=k->AS prog 44 #[AO #[v0,v1,AA A n c,v3,v4,v5,v6],.agg Y] W fun e w'=>∃F L,e=AV (AO (I9 ⟨q.Au,q.round,q.schema,q.place,q.holder,F,AA VA vn vc,0,zeros 32,AA KA kn kc,L,AA LA ln lc,(x:Int)+4+1,(x:Int)+4⟩))/\Ag 1 CF w' F (upto x)/\Ag 1 CF w' L (upto 4)/\AJ W w'):=AF (fun k x W hW hx h5 hsc=>by rw [hY,hp];exact (cH v0 v1 v3 v4 v5 v6 A n c ns k x ⟨q.Au,q.round,q.schema,q.place,q.holder,AA VA vn vc,AA LA ln lc,AA KA kn kc⟩ VA LA KA vn vc ln lc kn kc W (hs.mono FI hW) hx h5 hh hsc rfl rfl rfl).mono fun e w' h=>by obtain ⟨F,L,h1,h2,h3,h4,_⟩:=h;exact ⟨F,L,h1,h2,h3,h4⟩)
 obtain ⟨Sl,Mr,HK,HS,HV,HL,Nn,Hk,V4,HPH,HP,Gs⟩:=RG hh hK.chk hK hs hv hl hk MJ hro WM hp hres;obtain ⟨HRR,HY⟩:=Aj hRR hY;clear hs hK hv hl hk hh hro MJ WM hp hres hRR hY;have hmf:∀(fn:Fn) (first cap:Array AK) (w:AH),(Instr.makeFunc fn first cap).run prog w=.ok (.func fn first cap) w:=fun _ _ _ _=>rfl
 go_enter_defers func18,ntmps18
 go_upto_region 2 with fail;obtain ⟨k1,b1,s1⟩:=bx w #[v0,v1,AA A n c,v3,v4,v5,v6] 32;generalize (w.alloc (AQ #[v0,v1,AA A n c,v3,v4,v5,v6] 32))=w1 at k1 b1 s1 ⊢;obtain ⟨k2,b2,s2⟩:=bx w1 RR 36;generalize (w1.alloc (AQ RR 36))=w2 at k2 b2 s2 ⊢;obtain ⟨k3,b3,s3⟩:=bx w2 Y 48;generalize (w2.alloc (AQ Y 48))=w3 at k3 b3 s3 ⊢;obtain ⟨k4,b4,s4⟩:=bx w3 #[AB AE 0] 50;generalize (w3.alloc (AQ #[AB AE 0] 50))=w4 at k4 b4 s4 ⊢;rw [s1] at k2 b2 s2;rw [s2] at k3 b3 s3;rw [s3] at k4 b4 s4;have Cg:AI (AJ w w4):=AF (((b1.trans (b2.mono AG)).trans (b3.mono AG)).trans (b4.mono AG));have H4:AI (w4.heap.size=w.heap.size+1+1+1+1):=AF AG;have HE:AI (∀W,AJ w4 W->AZ W (w.heap.size+1) 36 RR/\AZ W (w.heap.size+1+1) 48 Y/\AZ W (w.heap.size+1+1+1) 50 #[AB AE 0]):=AF (fun W hW=>⟨((k2.below b3 AG).below b4 AG).below hW AG,(k3.below b4 AG).below hW AG,k4.below hW AG⟩);have HD:AI (∀W,AJ w4 W->W.cell? ⟨w.heap.size,0,none⟩=some v0/\W.cell? ⟨w.heap.size,1,none⟩=some v1/\W.cell? ⟨w.heap.size,2,none⟩=some (AA A n c)/\W.cell? ⟨w.heap.size,3,none⟩=some v3/\W.cell? ⟨w.heap.size,4,none⟩=some v4/\W.cell? ⟨w.heap.size,5,none⟩=some v5/\W.cell? ⟨w.heap.size,6,none⟩=some v6):=AF (fun W hW=>by have b:=(((k1.below b2 AG).below b3 AG).below b4 AG).below hW AG;exact Wo)
 clear k1 b1 s1 k2 b2 s2 k3 b3 s3 k4 b4 s4;have Jc:AI (∀(tmps:Array AK) (W:AH) (e:Int),tmps.getD 6 undef=AU (some ⟨w.heap.size+1+1+1,0,none⟩)->AJ w4 W->res=e->Leaves prog f18 tmps (fun e w'=>e=AV (AB AE res)/\AJ w w') [{target:=.fn (.func 42) #[AU (some ⟨w.heap.size+1+1+1,0,none⟩)],args:=#[]}] (.panicking (G0 e)) W):=AF (fun tmps W e ht hW he=>by have k:=(HE.o W hW).2.2;refine ACA ht (k.cell 0) (k.frozen 0) k.lt AG (AW Cg.o hW) (fun w'' hb=>⟨by rw [he],hb⟩))
 have ES:AI (∀W,AJ w4 W->(W.cell? ⟨w.heap.size+1+1,0,none⟩=some (AB AE q.Au)/\W.cell? ⟨w.heap.size+1+1,1,none⟩=some (AB AE q.round)/\W.cell? ⟨w.heap.size+1+1,2,none⟩=some (AB AE q.schema)/\W.cell? ⟨w.heap.size+1+1,3,none⟩=some (AB AE q.place))/\(W.cell? ⟨w.heap.size+1+1,36,none⟩=some (AA VA vn vc)/\W.cell? ⟨w.heap.size+1+1,37,none⟩=some (AA LA ln lc)/\W.cell? ⟨w.heap.size+1+1,38,none⟩=some (AA KA kn kc))/\
  (W.cell? ⟨w.heap.size+1,0,none⟩=some (AB AE r.Au)/\W.cell? ⟨w.heap.size+1,1,none⟩=some (AB AE r.no)/\W.cell? ⟨w.heap.size+1,2,none⟩=some (AB AE r.schema)/\W.cell? ⟨w.heap.size+1,5,none⟩=some (AB AE r.places))):=AF (fun W hW=>by
  obtain ⟨b1,b2,_⟩:=HE.o W hW;have b:=LV.o _ _ b2;rw [HP.o] at b;exact ⟨⟨b.Au,b.round,b.schema,b.place⟩,⟨b.values,b.links,b.claims⟩,(b1.cell 0).trans LI.o.1,(b1.cell 1).trans LI.o.2.1,(b1.cell 2).trans LI.o.2.2.1,(b1.cell 5).trans LI.o.2.2.2⟩)
 obtain ⟨d0,d1,d2,d3,d4,d5,d6⟩:=HD.o w4 (Af _ _);by_cases hck:ck=0
 ·subst hck
  have Cl:AI (¬PD (Bt ns r.schema) (val r.schema) r q=true->res=190):=AF (fun h=>Gs.o.trans (lP h));go_upto_region 3 with (first
   | (
    go_at_call 17;refine (Mr.o _ Cg.o).mono ?_;rintro e w5 ⟨rfl,hb5⟩;obtain ⟨c0,c1,c2,c3,c4,c5,c6⟩:=HD.o w5 hb5;have CW:=AF hb5;have Nl:=AF (HE.o w5 hb5).1;clear hb5 d0 d1 d2 d3 d4 d5 d6)
   | (go_at_call 30;refine (Eh 160 _).mono ?_;rintro e w6 ⟨⟨v,rfl⟩,rfl⟩))
  cases hft:GR (Bt ns r.schema) r.places with
  |
   false=>
   rw [hft] at NJ;have HN:=AF (Cl.o (fun h=>by have:=((KQ.1 h).1.1).1;rw [hft] at this;cases this));clear hft;go_wp2_with (first
    | (refine Cm rfl 36 (AY 4) rfl (w.heap.size+1) AL 36 RR (0,0) _ Nl.o underlying36 rfl PI.o ?_)
    | (
     go_at_call 22;refine (NJ.o _ (AW Cg.o CW.o)).mono ?_;rintro e w7 ⟨rfl,hb7⟩;have ET:=AF (AW CW.o hb7);clear hb7)
    | (go_at_call 30;refine (EH 190 _).mono ?_;rintro e w8 ⟨rfl,rfl⟩)
    | fail)
   (refine Jc.o _ _ _ ?_ ET.o HN.o;rfl)
  |
   true=>
   rw [hft] at NJ;obtain ⟨x,hnf,hp1,o5,Vm⟩:=NB hft;have AJn:0<=r.schema:=by
    unfold Bt at hnf;split at hnf
    · assumption
    · cases hnf
   obtain ⟨k,hk⟩:∃k:Nat,r.schema=(k:Int):=⟨r.schema.toNat,by omega⟩;have hx:ns[k]? =some x:=by rw [hk,Bt,Am AG] at hnf;exact hnf
   have hx1:x<=251:=by have h1:1*((x:Int)+4+1)<=r.places*((x:Int)+4+1):=OL hp1 AG;omega
   obtain ⟨Hm,yt⟩:=Aj hnf hft;go_upto_region 4 with (first
    | (refine Cm rfl 36 (AY 4) rfl (w.heap.size+1) AL 36 RR (0,0) _ Nl.o underlying36 rfl PI.o ?_)
    | (
     go_at_call 22;refine (NJ.o _ (AW Cg.o CW.o)).mono ?_;rintro e w7 ⟨rfl,hb7⟩;have ET:=AF (AW CW.o hb7);clear hb7)
    | (go_at_call 30;refine (Eh 190 _).mono ?_;rintro e w8 ⟨⟨v,rfl⟩,rfl⟩)
    | fail)
   have LR:=AF hk;clear c0 c1 c2 c3 c4 c5 c6 hft hnf hk;obtain ⟨⟨f0,f1,f2,f3⟩,_,e0,e1,e2,e5⟩:=ES.o _ ET.o;have hcase:(¬q.Au=r.Au\/(q.Au=r.Au/\¬q.round=r.no)\/(q.Au=r.Au/\q.round=r.no/\¬q.schema=r.schema))\/(q.Au=r.Au/\q.round=r.no/\q.schema=r.schema):=AG
   rcases hcase with hno | ⟨h1,h2,h3⟩
   ·have HN:=AF (Cl.o (fun h=>by have:=(KQ.1 h).1.1.2;omega))
    exact AAS
   go_upto_region 5 with (go_at_call 30;refine (Eh 190 _).mono ?_;rintro e w9 ⟨⟨v,rfl⟩,rfl⟩);have Qt:AI (∀W,AJ w W->AS prog 43 #[AO #[v0,v1,AA A n c,v3,v4,v5,v6],AB AE q.schema,AA VA vn vc] W fun e w'=>e=AV (AX (D4 x (val r.schema) q.values))/\AJ W w'):=AF (fun W hW=>by rw [h3,LR.o];exact X9 v0 v1 v3 v4 v5 v6 A n c ns k x VA vn vc q.values 0 val W (HS.o.mono FI hW) hx (HV.o.mono BU hW) (HK.o.below hW))
   obtain ⟨VD,HX,H12⟩:=Az h3 hx (And.intro h1 h2);clear h1 h2 h3 hx f0 f1 e0 e1 e2;have hcase:(¬0<=q.place\/(0<=q.place/\¬q.place < r.places))\/(0<=q.place/\q.place < r.places):=AG
   rcases hcase with hno | ⟨h1,h2⟩
   ·have HN:=AF (Cl.o (fun h=>by have:=(KQ.1 h).1.2.1;omega))
    exact AAQ
   obtain ⟨c0,c1,c2,c3,c4,c5,c6⟩:=HD.o _ ET.o;have f36:=(ES.o _ ET.o).2.1.1;cases hac:D4 x (val r.schema) q.values with
   |
    false=>
    rw [hac] at Qt;have HN:=AF (Cl.o (fun h=>by have:=(KQ.1 h).1.2.2;rw [Hm.o] at this;exact Bool.noConfusion (hac.symm.trans this)));go_wp2_with (first
     | (
      go_at_call 43;refine (Qt.o _ (AW Cg.o ET.o)).mono ?_;rintro e w9 ⟨rfl,O6⟩;have LL:=AF (AW ET.o O6);clear O6)
     | (go_at_call 30;refine (EH 190 _).mono ?_;rintro e w10 ⟨rfl,rfl⟩))
    (refine Jc.o _ _ _ ?_ LL.o HN.o;rfl)
   |
    true=>
    rw [hac] at Qt;go_upto_region 6 with (first
     | (
      go_at_call 43;refine (Qt.o _ (AW Cg.o ET.o)).mono ?_;rintro e w9 ⟨rfl,O6⟩;have LL:=AF (AW ET.o O6);clear O6)
     | (go_at_call 30;refine (Eh 190 _).mono ?_;rintro e w10 ⟨⟨v,rfl⟩,rfl⟩))
    -- REGION 6
    clear c0 c1 c2 c3 c4 c5 c6 f36 f2 f3 e5;have DE:prog.follows .mixedOrders=true:=AL
    have jn:AI (q.schema=(k:Int)):=AF (VD.o.trans LR.o);have hkn':k < n:=by rw [HS.o.len];exact (BA.1 HX.o).1
    have hk1:(k:Int) < (n:Int):=AG
    have hk0:=Int.natCast_nonneg k
    obtain ⟨b,off,x',x0,x1,x2,x3,B,cc,x5,hA,hb,hx',hxl,hone,hcell⟩:=Ni HS.o hkn';rw [HX.o] at hx';injection hx' with hx';subst hx';subst hA;have hS:=LL.o.drew;have eJ:AI (∀W,AJ w4 W->(Instr.loadAt 79 (AU (some ⟨b,off+k*6,none⟩))).run prog W=.ok (AO #[x0,x1,x2,x3,AA B x cc,x5]) W):=AF (fun W hW=>by have hr:W.rangeAt b (off+k*6) [x0,x1,x2,x3,AA B x cc,x5]:=fun j v hj=>((AW Cg.o hW).cell (p:=⟨b,off+k*6+j,none⟩) hb).trans (hcell j v hj);simp only [Instr.loadAt,Instr.sureAddr,Cs,DL,Result.andThen_ok,RV W b (off+k*6) 79 _ _ hr underlying79 rfl AL])
    have hsz:(prog.info? 79).map (·.size)=some 6:=AL
    clear hcell hone;refine JA (fun W=>AJ w4 W) 19 _ DE AL rfl ?_;by_cases hl4:ln=4
    rotate_left
    ·have hlf:((ln:Int)==4)=false:=JK AG
     have HN:=AF (Cl.o (fun h=>by have:=(KQ.1 h).2.1;have:=HL.o.len;omega));refine uT 0 55 hS ?_ (hv:=Hd);refine uT 1 56 hS ?_ (hv:=Hd);refine uT 2 57 hS ?_ (hv:=Hd);refine uT 3 58 hS ?_ (v:=AX false) (hv:=F7);refine uT 4 59 hS ?_ (hv:=Hd);refine uN 5 60 hS ?_;refine uN 6 61 hS ?_;refine uN 7 62 hS ?_;refine uN 8 63 hS ?_;refine uN 9 64 hS ?_;refine uN 10 65 hS ?_;refine uN 11 66 hS ?_;refine uN 12 67 hS ?_;refine uN 13 68 hS ?_;refine uN 14 69 hS ?_;refine uN 15 70 hS ?_;refine uN 16 71 hS ?_;refine uT 17 72 hS ?_ (hv:=Hd);refine XP 18 73 AL rfl rfl rfl rfl (enters_of func30 AL rfl) (EH 190 _) AL ?_;rintro e MF ⟨rfl,rfl⟩;refine .inr ⟨_,rfl,?_⟩;refine Jc.o _ _ _ ?_ hS HN.o;kernel_rfl
    subst hl4;refine uT 0 55 hS ?_ (hv:=Hd);refine uT 1 56 hS ?_ (hv:=Hd);refine uT 2 57 hS ?_ (hv:=Hd);refine uT 3 58 hS ?_ (v:=AX true) (hv:=F7);refine uT 4 59 hS ?_ (hv:=Hd);refine uT 5 60 hS ?_ (hv:=Hd);refine uT 6 61 hS ?_ (hv:=Hd);refine uT 7 62 hS ?_ (hv:=Hd);refine uT 8 63 hS ?_ (hv:=Hd);refine uT 9 64 hS ?_ (hv:=Hd);refine uT 10 65 hS ?_ (hv:=Hd);refine uT 11 66 hS ?_ (hv:=Hd);refine uT 12 67 hS ?_ (hv:=Hd);refine uT 13 68 hS ?_ (hv:=Hd);refine uT 14 69 hS ?_ (v:=AO #[x0,x1,x2,x3,AA B x cc,x5]) (hv:=fun W hW=>Ch rfl AL (eJ.o W hW));refine ACw 15 70 AL rfl rfl AL rfl (enters_of func25 AL rfl) (S4 x0 x1 x2 x3 x5 B x cc _ hxl) AL ?_;rintro e MF ⟨rfl,L9⟩;have hS2:AJ w4 MF:=AW hS L9;refine ⟨_,rfl,hS2,?_⟩;by_cases hkl:kn=x+4+1
    rotate_left
    ·have hkf:((kn:Int)==(x:Int)+4+1)=false:=JK AG
     have HN:=AF (Cl.o (fun h=>by have:=(KQ.1 h).2.2;rw [Hm.o] at this;change _=x+5 at this;have:=Nn.o.len;omega));refine uT 16 71 hS2 ?_ (v:=AX false) (hv:=F7);refine uT 17 72 hS2 ?_ (hv:=F7);refine XP 18 73 AL rfl rfl rfl rfl (enters_of func30 AL rfl) (EH 190 _) AL ?_;rintro e w12 ⟨rfl,rfl⟩;refine .inr ⟨_,rfl,?_⟩;refine Jc.o _ _ _ ?_ hS2 HN.o;kernel_rfl
    have hkt:((kn:Int)==(x:Int)+4+1)=true:=by rw [hkl];simp
    refine uT 16 71 hS2 ?_ (v:=AX true) (hv:=F7);refine uT 17 72 hS2 ?_ (hv:=F7);refine XP 18 73 AL rfl rfl rfl rfl (enters_of func30 AL rfl) (Eh 190 _) AL ?_;rintro e w12 ⟨⟨v,rfl⟩,rfl⟩;refine .inl ⟨_,rfl,hS2,?_⟩;refine Cx AL ?_ _;simp only [Bp,B9];have HS2:=AF hS2;clear hS hS2 L9;go_upto_region 7 with fail;have hS3:=HS2.o.drew;have hrl:res=Il Aq r.root (r.places*((x:Int)+4+1)) (Fb Aq (q.place*((x:Int)+4+1)) ((x:Int)+4) q.schema q.holder (upto x) q.values (upto 4) q.links) q.claims:=by have hok:PD (Bt ns r.schema) (val r.schema) r q=true:=KQ.2 ⟨⟨⟨yt.o,H12.o,VD.o⟩,⟨h1,h2⟩,by rw [Hm.o];exact hac⟩,HL.o.len.symm,by rw [Hm.o];show _=x+5;have:=Nn.o.len;omega⟩;rw [Gs.o,F0,Ah Ac,Am hok,Hm.o];rfl
    have TW:=AF hrl;have hvl:q.values.length=x:=by have h:=hac;rw [D4,BZ] at h;exact Fj h.1
    have jv:AI (∀W,AJ w4 W->(Instr.loadAt 48 (AU (some ⟨w.heap.size+1+1,0,none⟩))).run prog W=.ok (.agg Y) W/\(Instr.loadAt 36 (AU (some ⟨w.heap.size+1,0,none⟩))).run prog W=.ok (.agg RR) W):=AF (fun W hW=>by obtain ⟨b1,b2,_⟩:=HE.o W hW;exact ⟨by simp only [Instr.loadAt,Instr.sureAddr,Cs,DL,Result.andThen_ok,Pn W _ 48 48 Y (0,0) _ b2 underlying48 rfl U8.o],by simp only [Instr.loadAt,Instr.sureAddr,Cs,DL,Result.andThen_ok,Pn W _ 36 36 RR (0,0) _ b1 underlying36 rfl PI.o]⟩)
    refine JA (fun W=>AJ w4 W) 5 _ DE AL rfl ?_;refine uT 0 74 hS3 ?_ (hv:=me);refine uT 1 75 hS3 ?_ (v:=.agg Y) (hv:=fun W hW=>Ch rfl AL (jv.o W hW).1);refine uT 3 77 hS3 ?_ (v:=.agg RR) (hv:=fun W hW=>Ch rfl AL (jv.o W hW).2);refine WJ 2 76 AL rfl rfl rfl rfl (enters_of func44 AL rfl) (dy.o k x _ (AW Cg.o hS3) HX.o AG jn.o) AL ?_;rintro e Fs ⟨F,L,rfl,hF,hL,Sb⟩;have hS4:AJ w4 Fs:=AW hS3 Sb;have NP:AJ w Fs:=AW Cg.o hS4;refine ⟨_,rfl,hS4,?_⟩;obtain ⟨FA,fc,rfl⟩:=hF.form;obtain ⟨MA,mc,rfl⟩:=hL.form;have O5:=Vy ⟨q.Au,q.round,q.schema,q.place,q.holder,AA FA (upto x).length fc,AA VA vn vc,0,zeros 32,AA KA kn kc,AA MA (upto 4).length mc,AA LA 4 lc,(x:Int)+4+1,(x:Int)+4⟩ FA VA MA LA KA _ fc vn vc _ mc 4 lc kn kc (upto x) q.values (upto 4) q.links q.claims r Fs rfl rfl rfl rfl rfl hF (HV.o.mono BU NP) hL (HL.o.mono BL NP) (Nn.o.mono CD NP)
     Sl.o rfl V4.o (by rw [Ht,HV.o.len,hvl];exact Ad _) sV (by rw [Ht,Ht];omega) mY
     fS bj bh (VL AG) (VL AG) AG (Hk.o.below NP)
    rw [<-HRR.o] at O5;refine XP 4 78 AL rfl rfl rfl rfl (enters_of func34 AL rfl) O5 AL ?_;rintro e NW ⟨hR,MZ⟩;have hS5:AJ w4 NW:=AW hS4 MZ;rcases hR with ⟨h0,v,rfl⟩ | ⟨hne,rfl⟩
    ·refine .inl ⟨_,rfl,hS5,?_⟩
     refine Cx AL ?_ _;simp only [Bp,B9];have k:=(HE.o _ hS5).2.2;have e0:=k.cell 0;have f0:=k.frozen 0;have l0:=k.lt;obtain ⟨K,VC,HR0⟩:=Az k hS5 (hrl.trans h0);simp only [Ai,An] at e0;clear hS3 hS4 hS5 Sb MZ hF hL O5 NP k h0 hrl;go_wp2_with fail;refine AGg (e:=0) ?_ ((K.o.put 0 (AB AE 0)).cell 0) ⟨by rw [HR0.o],(AW Cg.o VC.o).setCell tK _⟩;rfl
    exact m9
 have hcf:(ck==0)=false:=by simpa using hck
 have HN:AI (res=160):=AF (Gs.o.trans (by rw [F0,Am hck]));go_wp2_with (first
  | (
   go_at_call 17;refine (Mr.o _ Cg.o).mono ?_;rintro e w5 ⟨rfl,hb5⟩;have CW:=AF hb5;clear hb5)
  | (go_at_call 30;refine (EH 160 _).mono ?_;rintro e w6 ⟨rfl,rfl⟩))
 (refine Jc.o _ _ _ ?_ CW.o HN.o;rfl)
attribute [local go_sem] Oper.semAt_some
theorem AEW {P:BB} {f:FuncId} (h:(P.funcs[f]?.any fun fn=> !(fn.name== "runtime.NumGoroutine") && fn.body.isSome)=true):Enters P f:=by rw [Option.any_eq_true] at h;obtain ⟨fn,hf,h⟩:=h;rw [BZ] at h;obtain ⟨c,hc⟩:=eR.1 h.2;exact enters_of hf (by simpa using h.1) hc
theorem Vf {P:BB} {fn:Func} {t t':Array AK} {R:Ending->AH->Prop} (h:results fn t=results fn t'):∀(ds:List Deferred) (u:FrameMode) (w:AH),Leaves P fn t R ds u w->Leaves P fn t' R ds u w
 | [],.returning,_,⟨v,hv,hr⟩=>⟨v,h ▸ hv,hr⟩
 | [],.panicking _,_,hr=>hr
 | [],.run,_,hr=>hr.elim
 |
  _::ds,_,_,⟨hu,fv,cap,f,args,h1,h2,hc⟩=>⟨hu,fv,cap,f,args,h1,h2,hc.mono fun e u' w' hh=>by
  cases e with
  | returned v=>exact Vf h ds _ _ hh
  | panicked c=>exact Vf h ds _ _ hh
  | outgrown=>exact hh⟩
theorem AJM {P:BB} {fn:Func} {R:Ending->AH->Prop} {d p p':Nat} {ty ty':Ae} (hr:fn.results=#[.cell p ty,.cell p' ty']) (hd:d≠p) (hd':d≠p'):∀c (a:Act) v w,bodyPostD P fn R (.panic c) (a.put (some d) v) w->bodyPostD P fn R (.panic c) a w:=fun c a v w h=>by
 refine Vf (t:=(a.put (some d) v).tmps) ?_ _ _ _ h;have e:(a.tmps.setIfInBounds d v)[p]?.getD undef=a.tmps[p]?.getD undef:=by rw [Rh,Ah hd]
 have e':(a.tmps.setIfInBounds d v)[p']?.getD undef=a.tmps[p']?.getD undef:=by rw [Rh,Ah hd']
 simp [results,hr,Act.put,e,e']
theorem Vl {P:BB} {fn:Func} {R:Ending->AH->Prop} {d p:Nat} {ty:Ae} (hr:fn.results=#[.cell p ty]) (hd:d≠p):∀c (a:Act) v w,bodyPostD P fn R (.panic c) (a.put (some d) v) w->bodyPostD P fn R (.panic c) a w:=fun c a v w h=>by
 refine Vf (t:=(a.put (some d) v).tmps) ?_ _ _ _ h;exact AAI
section
variable {P:BB} {md:Region.Mode} {ops:Array Oper} {Q:Exit->Act->AH->Prop} {S:AH->Prop} {fuel:Nat} {listed:Array Bool} {l:List AK} {D:List Deferred} {w:AH}
theorem qT (i d:Nat) (hS:S w) {oi:Oper} {v:AK} (h:wpAnyH P md ops Q S fuel (listed.setIfInBounds i true) ⟨(l.set d v).toArray,D⟩ w)
 (hB:Qy md ops listed i=true:=by kernel_rfl) (hi:ops[i]? =some oi:=by rfl) (hd:oi.dst=some d:=by rfl) (hQ:∀c (a:Act) v w,Q (.panic c) (a.put (some d) v) w->Q (.panic c) a w:=by first | exact Ro | exact Vl rfl BE | exact fun _ _ _ _ h=>h | exact Oc)
 (hw:Region.wanted oi (yielded ops l.toArray)=true:=by kernel_rfl) (hv:∀w,S w->(execOp (Act.eval ⟨l.toArray,D⟩) oi).run P w=.ok (.value v) w:=by intro W hW;have f:=TK W hW;(go_simp) <;> rfl):
 wpAnyH P md ops Q S (fuel+1) listed ⟨l.toArray,D⟩ w:=by
 exact AAM
theorem qN (i d:Nat) (hS:S w) {oi:Oper} (h:wpAnyH P md ops Q S fuel (listed.setIfInBounds i true) ⟨(l.set d undef).toArray,D⟩ w)
 (hB:Qy md ops listed i=true:=by kernel_rfl) (hi:ops[i]? =some oi:=by rfl) (hd:oi.dst=some d:=by rfl) (hQ:∀c (a:Act) v w,Q (.panic c) (a.put (some d) v) w->Q (.panic c) a w:=by first | exact Ro | exact Vl rfl BE | exact fun _ _ _ _ h=>h | exact Oc)
 (hw:Region.wanted oi (yielded ops l.toArray)=false:=by kernel_rfl):
 wpAnyH P md ops Q S (fuel+1) listed ⟨l.toArray,D⟩ w:=by
 exact AAO
theorem qM (i d t:Nat) (hS:S w) {oi:Oper} {v:AK} (h:wpAnyH P md ops Q S fuel (listed.setIfInBounds i true) ⟨(l.set d v).toArray,D⟩ w)
 (hv:l[t]? =some v:=by rfl) (hB:Qy md ops listed i=true:=by kernel_rfl) (hi:ops[i]? =some oi:=by rfl) (hd:oi.dst=some d:=by rfl) (hQ:∀c (a:Act) v w,Q (.panic c) (a.put (some d) v) w->Q (.panic c) a w:=by first | exact Ro | exact Vl rfl BE | exact fun _ _ _ _ h=>h | exact Oc)
 (hw:Region.wanted oi (yielded ops l.toArray)=true:=by kernel_rfl) (ho:oi.op=.move (AY t)\/oi.op=.assign (AY t):=by first | exact .inl rfl | exact .inr rfl):
 wpAnyH P md ops Q S (fuel+1) listed ⟨l.toArray,D⟩ w:=by
 refine qT i d hS h hB hi hd hQ hw (fun W _=> ?_);exact mQ
theorem qF (i d:Nat) {o:Oper} {f:FuncId} {xs:Array Operand} {ts:Array Ae} {args:Array AK} {R:Ending->AH->Prop} (hc:AS P f args w R)
 (h:∀e w',R e w'->∃v,e=AV v/\S w'/\wpAnyH P md ops Q S fuel (listed.setIfInBounds i true) ⟨(l.set d v).toArray,D⟩ w')
 (hr:Region.ready md ops listed=[i]:=by kernel_rfl) (hi:ops[i]? =some o:=by rfl) (hd:o.dst=some d:=by rfl) (hw:Region.wanted o (yielded ops l.toArray)=true:=by kernel_rfl)
 (ho:o.op=.call {callee:=.value (.func f),args:=xs,argTypes:=ts}:=by rfl) (he:Enters P f:=by exact AEW AL) (ha:xs.toList.map (Act.eval ⟨l.toArray,D⟩)=args.toList:=by kernel_rfl):
 wpAnyH P md ops Q S (fuel+1) listed ⟨l.toArray,D⟩ w:=ACw i d hr hi hd hw ho he hc ha h
end
section
variable {w w' w0 A C W:AH} {S:List Nat}
theorem Nz {base:Nat} {e:Ae} {sz:Nat} {v:AK} {n:Nat} {cs:List AK} (h:w.ownsRow base e sz v n cs) (hb:∀g,base<=g->g < w.heap.size->W.heap[g]? =w.heap[g]?):W.ownsRow base e sz v n cs:=by
 refine ⟨h.1,?_⟩;rcases h.2 with h | ⟨g,cap,cur,h1,h2,h3,h4⟩
 · exact .inl h
 · exact .inr ⟨g,cap,cur,h1,h2,(hb g h2 (Cz.1 h3).1).trans h3,h4⟩
def TR {α:Type} (R:AH->List AK->α->Prop):Prop:=∀w W cs x,w.heap.size<=W.heap.size->(∀a v,w.cell? a=some v->W.cell? a=some v)->R w cs x->R W cs x
theorem Ag.Se {α:Type} {sz:Nat} {R:AH->List AK->α->Prop} (hR:TR R) {v:AK} {l:List α} (h:Ag sz R w v l) (hs:w.heap.size<=W.heap.size) (hc:∀a v,w.cell? a=some v->W.cell? a=some v):Ag sz R W v l:=by obtain ⟨A,cap,e,h1,h2,h3⟩:=h;refine ⟨A,cap,e,h1,h2,fun i x hi=> ?_⟩;obtain ⟨b,off,cs,rfl,hlt,hl,hcc,hr⟩:=h3 i x hi;exact ⟨b,off,cs,rfl,Ay hlt hs,hl,fun j u hu=>hc _ _ (hcc j u hu),hR _ _ _ _ hs hc hr⟩
theorem PB:TR CQ:=fun _ _ _ _ _ _ h=>h
theorem L8:TR Dc:=fun w W cs q hs hc h=>by obtain ⟨A,n,c,B,m,d,e,h1,h2⟩:=h;exact ⟨A,n,c,B,m,d,e,h1.Se PB hs hc,h2.Se PB hs hc⟩
theorem X5 {k:Nat} (b:Book k A C) {a:Aa} {v:AK} (h:A.cell? a=some v):C.cell? a=some v:=by
 by_cases hc:∃cs t fz,A.heap[a.block]? =some (Obj.cells cs t fz)
 ·obtain ⟨cs,t,fz,hc⟩:=hc
  rw [<-h];unfold World.cell?;rw [b.cells _ _ _ _ hc]
 exfalso;cases ho:A.heap[a.block]? with
 | none=>simp [World.cell?,ho] at h
 |
  some o=>
  cases o with
  | cells cs t fz=>exact hc ⟨cs,t,fz,ho⟩
  | _=>simp [World.cell?,ho] at h
theorem ig {k:Nat} (b:Book k A C) {a:Aa} {v:AK} (h:(veil S A).cell? a=some v):(veil S C).cell? a=some v:=by
 by_cases hb:a.block∈S
 ·exfalso
  by_cases hs:a.block < A.heap.size
  · simp [World.cell?,R6 (w:=A) hb hs] at h
  have:(veil S A).heap[a.block]? =none:=by rw [M0];rw [Dz];omega
  simp [World.cell?,this] at h
 rw [Lz (J6 hb)] at h ⊢;exact X5 b h
theorem sH {α:Type} {sz k:Nat} {R:AH->List AK->α->Prop} {cs:List AK} {l:List α} (hR:TR R) (h:Ao sz R (veil S A) cs l) (b:Book k A C):Ao sz R (veil S C) cs l:=
 ⟨h.1,fun i x hi=>hR _ _ _ _ (by rw [Dz,Dz];exact b.size) (fun _ _ hv=>ig b hv) (h.2 i x hi)⟩
theorem KX.grown {n e g:Nat} {row:Option Nat} (hg:A.grownBy C row) (hn:n<=A.heap.size) (hr:∀b,b < n->some b≠row) (hgn:g < n) (h0:0 < n):KX n e g A C:=
 ⟨hg.size,fun b h1 _=>hg.block b AG (hr b h1),hg.block g AG (hr g hgn),fun t=>MW (hg.block 0 AG (hr 0 h0)) hg.size t⟩
theorem KX.slR {α:Type} {sz n e g:Nat} {R:AH->List AK->α->Prop} (hR:∀w w' cs x,R w cs x->R w' cs x) {v:AK} {l:List α} (h:Ag sz R w v l) (hs:w.heap.size<=e) (hn:w.heap.size<=n) (hb:AJ w A) (k:KX n e g A C):Ag sz R C v l:=
 h.heap hR (fun b hlt=>(k.same b AG AG).trans (hb.block b hlt)) (BF hb.size k.size)
theorem Ag.kx {α:Type} {sz n e g B:Nat} {R:AH->List AK->α->Prop} (hR:∀w w' cs x,R w cs x->R w' cs x) {v:AK} {l:List α} (h:Ag sz R A v l) (hN:NewAt B v) (he:e < B) (hn:A.heap.size<=n) (k:KX n e g A C):Ag sz R C v l:=by obtain ⟨D,cap,rfl,h1,h2,h3⟩:=h;refine ⟨D,cap,rfl,h1,h2,fun i x hi=> ?_⟩;obtain ⟨b,off,cs,rfl,hlt,hl,hc,hr⟩:=h3 i x hi;have hb:=hN b rfl;exact ⟨b,off,cs,rfl,Ay hlt k.size,hl,fun j u hu=>(Lz (k.same b AG AG)).trans (hc j u hu),hR _ _ _ _ hr⟩
theorem Z1 {S2:List Nat} (hs:∀b∈S2,b∈S) {a:Aa} {v:AK} (h:(veil S w).cell? a=some v):(veil S2 w).cell? a=some v:=by
 by_cases hb:a.block∈S
 ·exfalso
  by_cases hs:a.block < w.heap.size
  · simp [World.cell?,R6 (w:=w) hb hs] at h
  have:(veil S w).heap[a.block]? =none:=by rw [M0];rw [Dz];omega
  simp [World.cell?,this] at h
 rw [Lz (J6 hb)] at h;rw [Lz (J6 (fun hm=>hb (hs _ hm)))];exact h
abbrev R4 (b:Nat) (w:AH):AH:=veil (List.range b) w
theorem Ag.AFW {α:Type} {sz B:Nat} {R:AH->List AK->α->Prop} (hR:∀w w' cs x,R w cs x->R w' cs x) {v:AK} {l:List α} (h:Ag sz R w v l) (hN:NewAt B v) (hb:∀b∈S,b < B):Ag sz R (veil S w) v l:=by obtain ⟨D,cap,rfl,h1,h2,h3⟩:=h;refine ⟨D,cap,rfl,h1,h2,fun i x hi=> ?_⟩;obtain ⟨g,off,cs,rfl,hlt,hl,hc,hr⟩:=h3 i x hi;have hg:=hN g rfl;exact ⟨g,off,cs,rfl,by rw [Dz];exact hlt,hl,fun j u hu=>(Lz (J6 (fun hm=>by have hm:g < B:=hb g hm;omega))).trans (hc j u hu),hR _ _ _ _ hr⟩
theorem Ag.AFX {α:Type} {sz B b:Nat} {R:AH->List AK->α->Prop} (hR:∀w w' cs x,R w cs x->R w' cs x) {v:AK} {l:List α} (h:Ag sz R w v l) (hN:NewAt B v) (hb:b<=B):Ag sz R (R4 b w) v l:=
 h.AFW hR hN (fun _ hx=>Ay (Ef.1 hx) hb)
theorem Ag.cM {α:Type} {sz B b g:Nat} {R:AH->List AK->α->Prop} (hR:Ea R) (hC:TR R) {v:AK} {l:List α} (h:Ag sz R (R4 B w) v l) (hg:w.grownBy w' (some g)) (hgB:g < B) (hb:b<=B):Ag sz R (R4 b w') v l:=
 (h.mono hR (IB (S':=List.range B) hg (fun r er _=>by injection er with er;rw [<-er,Ef];exact hgB) (fun _ _=>Iff.rfl))).Se hC mX (fun _ _=>Z1 (fun x hx=>by rw [Ef] at hx ⊢;omega))
theorem Ag.lj {α:Type} {sz B:Nat} {R:AH->List AK->α->Prop} (hR:Ea R) {v:AK} {l:List α} (h:Ag sz R (R4 B w) v l) (hb:AJ w w'):Ag sz R (R4 B w') v l:=h.mono hR (M3 hb)
theorem Vi:TR CF:=fun _ _ _ _ _ _ h=>h
theorem TC {base:Nat} {e:Ae} {sz:Nat} {v:AK} {n:Nat} {cs:List AK} (h:w.ownsRow base e sz v n cs):NewAt base v:=fun r hr=>(h.lt r hr).1
theorem ADI {s:Iq} {X:Array AK} (h:X=I9 s) (W:AH):AS prog 49 #[.agg X] W fun e w'=>e=AV (.func (.func 72) #[] #[AU (some ⟨W.heap.size,0,none⟩)])/\w'=W.alloc (AQ X 88):=by rw [h];exact Xf s W
theorem AAp {P:BB} {f:FuncId} {c:Code} {Q:Exit->Act->AH->Prop} {l:List AK} {D:List Deferred} {W:AH} (h:∀L,L=l->R3 f P c Q ⟨L.toArray,D⟩ W):R3 f P c Q ⟨l.toArray,D⟩ W:=h l rfl
theorem AJf {w5:AH} {o:Obj} {x y z:AK} {t:Ae}:∀(j:Nat) (u:AK),[x,y,z][j]? =some u->((w5.alloc o).alloc (AQ #[x,y,z] t)).cell? ((Addr.mk (w5.heap.size+1) 0 none).add j)=some u:=fun j u hu=>by
 have h:=AZ.new (w5.alloc o) t #[x,y,z];rw [Eg] at h;have e:(Addr.mk (w5.heap.size+1) 0 none).add j=⟨w5.heap.size+1,j,none⟩:=by
  unfold Addr.add;split
  · subst_vars;rfl
  · simp
 rw [e,h.cell];simpa using hu
theorem ll (i:Int) (A1 A2:Option Aa) (n1 c1 n2 c2:Nat):∀u∈[Value.int .i64 i,AA A1 n1 c1,AA A2 n2 c2],u.oneCell'=true:=fun u hu=>by simp only [CO,D7,D5] at hu;rcases hu with rfl | rfl | rfl <;> rfl
theorem Vg:∃(j:TypeInfo) (z:AK),prog.info? 62=some j/\j.zero=some z/\z.cells.size=3/\j.size=3/\j.bytes=56:=by obtain ⟨j,hj,hz⟩:=Ds.1 (show (prog.info? 62).map (fun i=>(i.zero.map (·.cells.size),i.size,i.bytes))=some (some 3,3,56) by kernel_rfl);simp only [GD] at hz;obtain ⟨z,hz0,hz1⟩:=Ds.1 hz.1;exact ⟨j,z,hj,hz0,hz1,hz.2⟩
structure Jj {α:Type} (L:Nat) (T:Ae) (sz:Nat) (R:AH->List AK->α->Prop) (e:Nat) (v:AK) (l:List α) (w:AH) (cs:List AK) (S:List Nat):Prop where
 own:w.ownsRow L T sz v l.length cs
 hid:∀r,v.ownBlock=some r->r∈S
 lt:∀b∈S,b < w.heap.size
 box:e∈S
 els:Ao sz R (veil S w) cs l
variable {α:Type} {L:Nat} {T:Ae} {sz e:Nat} {R:AH->List AK->α->Prop} {v:AK} {l:List α} {cs:List AK}
theorem Jj.below (h:Jj L T sz R e v l w cs S) (hR:Ea R) (hb:AJ w w'):Jj L T sz R e v l w' cs S:=
 ⟨EX h.own hb,h.hid,fun b hm=>Ay (h.lt b hm) hb.size,h.box,h.els.mono hR (M3 hb)⟩
theorem Jj.book {k:Nat} (h:Jj L T sz R e v l A cs S) (hR:TR R) (b:Book k A C):Jj L T sz R e v l C cs S:=
 ⟨oH h.own b,h.hid,fun x hm=>Ay (h.lt x hm) b.size,h.box,sH hR h.els b⟩
theorem Jj.VU (h:Jj L T sz R e v l w cs S) (hR:Ea R) (he:e < L) (o:Nat) (u:AK):Jj L T sz R e v l (w.setCell ⟨e,o,none⟩ u) cs S:=by
 refine ⟨E9 h.own (a:=⟨e,o,none⟩) he u,h.hid,fun b hm=> ?_,h.box,?_⟩
 ·rw [Ra]
  exact h.lt b hm
 have hg:w.grownBy (w.setCell ⟨e,o,none⟩ u) (some e):=⟨rfl,rfl,rfl,by simp [World.setCell],fun k hk hne=>EB w _ u k (fun x=>hne (by rw [x]))⟩;refine h.els.mono hR (IB hg (fun r er _=> ?_) (fun _ _=>Iff.rfl));injection er with er;rw [<-er];exact h.box
theorem Jj.push (h:Jj L T sz R e v l w cs S) (hR:Ea R) {v':AK} {news:List AK} {x:α} {n:Nat}
 (hown:w'.ownsRow L T sz v' n (cs++news)) (hn:n=(l++[x]).length) (hg:w.grownBy w' v.ownBlock) (hat:v'.ownBlock=v.ownBlock\/v'.ownBlock=some w.heap.size) (hnl:news.length=sz) (hx:R (veil S w) news x):∃S',(∀b,b < w.heap.size->(b∈S'↔b∈S))/\Jj L T sz R e v' (l++[x]) w' (cs++news) S':=by
 have hlt:∀r,v'.ownBlock=some r->r < w'.heap.size:=fun r e=>(hown.lt r e).2;subst hn;rcases hat with hat | hat
 ·refine ⟨S,fun _ _=>Iff.rfl,hown,fun r e=>h.hid r (by rw [<-hat];exact e),fun b hm=>Ay (h.lt b hm) hg.size,h.box,?_⟩
  have hb:=IB (S:=S) (S':=S) hg (fun r e _=>h.hid r e) (fun _ _=>Iff.rfl);exact zX
 refine ⟨w.heap.size::S,fun b hlt=>by rw [CO];exact Wn,hown,fun r e=>by rw [hat] at e;injection e with e;simp [e],fun b hm=> ?_,Mx _ h.box,?_⟩
 ·rcases CO.1 hm with rfl | hm
  · exact hlt _ hat
  · exact Ay (h.lt b hm) hg.size
 have hb:=IB (S:=S) (S':=w.heap.size::S) hg (fun r e _=>h.hid r e) (fun b hlt=>by rw [CO];exact Wn)
 exact zX
theorem Jj.other {row:Option Nat} {S':List Nat} (h:Jj L T sz R e v l w cs S) (hR:Ea R) (hg:w.grownBy w' row) (hr:∀r,row=some r->r∈S) (hS:∀b,b < w.heap.size->(b∈S'↔b∈S)) (hlt:∀b∈S',b < w'.heap.size) (hne:∀r,v.ownBlock=some r->row≠some r):Jj L T sz R e v l w' cs S':=
 ⟨h.own.kept hg (by cases hv:v.ownBlock with | none=>exact .inl rfl | some r=>exact .inr (fun e=>hne r hv e.symm)),fun r e=>(hS r (h.own.lt r e).2).2 (h.hid r e),hlt,(hS e (h.lt e h.box)).2 h.box,h.els.mono hR (IB hg (fun r e _=>hr r e) hS)⟩
theorem AEc (s:Tg) (hh:s.holder.length=32) (v:AK):(Hf s).setIfInBounds 38 v=Hf {s with claims:=v}:=by
 obtain ⟨i,r,s,p,h,u,k,_⟩:=s
 dsimp only at hh
 rw [Ou hh];kernel_rfl
structure YE (n0 g:Nat) (ms:List (Int×AP)) (sg:Int×AP->Cd) (q:Tg) (w W0:AH) (pre:List (Int×AP)) (W:AH):Prop where
 oE:pre=ms.take pre.length
 le:pre.length<=ms.length
 kx:KX n0 (w.heap.size+1+1+1+1+1+1) g W0 W
 old:AJ w W
 row:∃A c cs S,(∀b,b < w.heap.size->b∈S)/\AZ W (w.heap.size+1+1+1+1+1+1) 48 (Hf {q with claims:=AA A pre.length c})/\Jj n0 62 3 Dc (w.heap.size+1+1+1+1+1+1) (AA A pre.length c) (pre.map sg) W cs S
section
variable {n0 g:Nat} {ms:List (Int×AP)} {sg:Int×AP->Cd} {q:Tg} {W0:AH} {pre:List (Int×AP)}
theorem YE.below (h:YE n0 g ms sg q w W0 pre A) (hn:n0<=W0.heap.size) (hg:g < n0) (t:AJ A C):YE n0 g ms sg q w W0 pre C:=by obtain ⟨B,c,cs,S,h0',h1,h2⟩:=h.row;have hs:=h.kx.size;exact ⟨h.oE,h.le,h.kx.below t AG AG,AW h.old t,B,c,cs,S,h0',h1.below t h1.lt,h2.below CD t⟩
theorem YE.book {k:Nat} (h:YE n0 g ms sg q w W0 pre A) (b:Book k A C) (hn:n0<=k) (hg:g < n0) (h0:0 < n0) (hk:w.heap.size<=k):YE n0 g ms sg q w W0 pre C:=by obtain ⟨B,c,cs,S,h0',h1,h2⟩:=h.row;exact ⟨h.oE,h.le,h.kx.book b hn AG AG,Below.book h.old b hk,B,c,cs,S,h0',F6 h1 b,h2.book L8 b⟩
theorem AJE {w6 w7:AH} {e:Nat} {v v':AK} {n:Nat} {cs:List AK} (h0:w6.ownsRow n0 62 3 v n cs) (DZ:w6.grownBy w7 v.ownBlock) (hn:n0<=w6.heap.size) (hg:g < n0) (hz:0 < n0) (he:e≠g) (he0:e≠0) (o:Nat):KX n0 e g w6 (w7.setCell ⟨e,o,none⟩ v'):=
 (KX.grown DZ hn (fun _ hb=>Da h0 hb) hg hz).VU o v' he he0
theorem YE.push {w6 w7:AH} {y:Int×AP} {RA:Option Aa} {rc:Nat} {cs news:List AK} {S:List Nat} {v':AK} (h:YE n0 g ms sg q w W0 pre W) (hG:GM ms pre y) (ZX:q.holder.length=32) (hk:KX n0 (w.heap.size+1+1+1+1+1+1) g W w6) (hb:AJ w w6)
 (hS:∀b,b < w.heap.size->b∈S) (hE:AZ w6 (w.heap.size+1+1+1+1+1+1) 48 (Hf {q with claims:=AA RA pre.length rc})) (hR:Jj n0 62 3 Dc (w.heap.size+1+1+1+1+1+1) (AA RA pre.length rc) (pre.map sg) w6 cs S) (hn:n0<=w6.heap.size) (hg:g < n0) (he:w.heap.size+1+1+1+1+1+1 < g)
 (GL:w7.ownsRow n0 62 3 v' (pre.length+1) (cs++news)) (DZ:w6.grownBy w7 (Value.slice RA pre.length rc).ownBlock) (hat:v'.ownBlock=(Value.slice RA pre.length rc).ownBlock\/v'.ownBlock=some w6.heap.size) (hnl:news.length=3) (hx:Dc (veil S w6) news (sg y)):
 KX n0 (w.heap.size+1+1+1+1+1+1) g W (w7.setCell ⟨w.heap.size+1+1+1+1+1+1,38,none⟩ v')/\YE n0 g ms sg q w W0 (pre++[y]) (w7.setCell ⟨w.heap.size+1+1+1+1+1+1,38,none⟩ v'):=by
 have hl:(pre++[y]).length=pre.length+1:=Ac
 have hlt:=(BA.1 hG.2).1;have hk2:=hk.trans (AJE (v':=v') (e:=w.heap.size+1+1+1+1+1+1) hR.own DZ hn hg AG AG AG 38);have hm:(pre++[y]).map sg=pre.map sg++[sg y]:=Ac
 obtain ⟨S',hsub,hR7⟩:=hR.push CD GL Ac DZ hat hnl hx;obtain ⟨A',c',rfl⟩:=Bz GL;have hE7:=hE.grown DZ (Da hR.own AG);refine ⟨hk2,?_,by omega,h.kx.trans hk2,?_,A',c',cs++news,S',fun b hb'=>(hsub b (Ay hb' hb.size)).2 (hS b hb'),?_,?_⟩
 · rw [hl,<-(Uz hG.2).2,<-hG.1]
 · exact (hb.grown DZ hb.size (fun r hr=>by have:=(hR.own.lt r hr).1;omega)).setCell (by show w.heap.size<=w.heap.size+1+1+1+1+1+1;omega) _
 ·have hp:=hE7.put 38 (AA A' (pre.length+1) c')
  rw [AEc {q with claims:=AA RA pre.length rc} ZX] at hp;rw [hl];exact hp
 rw [hl,hm];exact hR7.VU CD AG 38 _
theorem ADL {w5 w6:AH} {S:List Nat} {k:Cd} {A1 A2:Option Aa} {c1 c2:Nat} {cs1 cs2:List AK} (hS:∀b∈S,b < W.heap.size) (h1:w5.ownsRow W.heap.size 34 32 (AA A1 k.chains.length c1) k.chains.length cs1) (h2:Ao 32 CQ w5 cs1 k.chains) (h3:w5.ownsRow W.heap.size 34 32 (AA A2 k.path.length c2) k.path.length cs2) (h4:Ao 32 CQ w5 cs2 k.path) (hb:AJ w5 w6):
 Dc (veil S w6) [AB AE k.index,AA A1 k.chains.length c1,AA A2 k.path.length c2] k:=
 ⟨A1,_,c1,A2,_,c2,rfl,(CP (R5 h1 hS) (Ik h2) rfl).mono BL (M3 hb),(CP (R5 h3 hS) (Ik h4) rfl).mono BL (M3 hb)⟩
end
end
section
variable {P:BB} {ops:Array Oper} {Q:Exit->Act->AH->Prop} {md:Region.Mode} {S:AH->Prop} {D:List Nat}
def Ek (P:BB) (md:Region.Mode) (ops:Array Oper) (Q:Exit->Act->AH->Prop) (S:AH->Prop) (D:List Nat):Nat->Array Bool->Act->AH->Prop
 | 0,listed,a,w=>Region.ready md ops listed=[]/\Q .normal a w
 |
  fuel+1,listed,a,w=>
  (Region.ready md ops listed=[]->Q .normal a w)/\
  ∀i∈Region.ready md ops listed,wpOp P ops Q i (fun a' w'=>(i∈D\/(S w->S w'))/\Ek P md ops Q S D fuel (listed.setIfInBounds i true) a' w') a w
theorem WB:∀(fuel:Nat) (listed:Array Bool) (a:Act) (w:AH),Ek P md ops Q S D fuel listed a w->wpAny P md ops Q fuel listed a w
 | 0,_,_,_,h=>h
 | fuel+1,_,_,_,h=>⟨h.1,fun i hi=>wpOp_mono (fun a' w' h'=>WB fuel _ a' w' h'.2) (h.2 i hi)⟩
theorem cB {i:Nat} {oi:Oper} {v:AK} (hi:ops[i]? =some oi) (hsel:∀(j:Nat) (o:Oper) cs b,ops[j]? =some o->o.op≠.select cs b)
 (hQ:∀c a w,Q (.panic c) (a.put oi.dst v) w->Q (.panic c) a w) (hD:∀d∈D,∃od,ops[d]? =some od/\∃e∈od.after,Region.binds md e=true/\e.on=i):
 ∀(fuel:Nat) (listed:Array Bool) (a:Act) (w:AH),
  (∀j oj,ops[j]? =some oj->j≠i->listed.getD j true=false->(∀e∈oj.after,Region.binds md e=true->e.on≠i)->oi.apart ops oj=true)->
  i∈Region.ready md ops listed->YieldsIf P ops S oi v a->S w->
  Ek P md ops Q S D fuel (listed.setIfInBounds i true) (a.put oi.dst v) w->Ek P md ops Q S D (fuel+1) listed a w:=by
 intro fuel
 induction fuel with
 |
  zero=>
  intro listed a w _ hr hy hS H;refine ⟨fun h=>QR,fun j hj=> ?_⟩;by_cases hji:j=i
  · subst hji;exact hy.wpOp hi hS ⟨.inr id,H⟩
  ·have:=Jo hj hji
   rw [H.1] at this;cases this
 |
  succ fuel ih=>
  intro listed a w hfree hr hy hS H;refine ⟨fun h=>QR,fun j hj=> ?_⟩;by_cases hji:j=i
  · subst hji;exact hy.wpOp hi hS ⟨.inr id,H⟩
  have h1:=H.2 j (Jo hj hji);obtain ⟨hjun,oj,hoj,hall⟩:=JG.1 hj;have hnot:∀e∈oj.after,Region.binds md e=true->e.on≠i:=fun e he hb heq=>by
   exact AAP
  have hjD:j∉D:=fun hd=>by obtain ⟨od,hod,e,he,hb,heq⟩:=hD j hd;rw [hoj,Bq] at hod;subst hod;exact hnot e he hb heq
  have h2:=wpOp_putIf hoj (hfree j oj hoj hji hjun hnot) (fun cs b=>hsel i oi cs b hi) (fun cs b=>hsel j oj cs b hoj) hQ hy h1;have hfree':∀k ok,ops[k]? =some ok->k≠i->(listed.setIfInBounds j true).getD k true=false->
   (∀e∈ok.after,Region.binds md e=true->e.on≠i)->oi.apart ops ok=true:=fun k ok hk hki hun hno=>by
   exact mP
  refine wpOp_mono (fun a' w' h3=>⟨h3.2.1,ih (listed.setIfInBounds j true) a' w' hfree' (Jo hr (Ne.symm hji)) h3.1 (h3.2.1.resolve_left hjD hS) ?_⟩) h2;rw [Yq _ _ hji];exact h3.2.2
theorem fZ {i:Nat} {oi:Oper} {v:AK} {fuel:Nat} {listed:Array Bool} {a:Act} {w:AH} (hi:ops[i]? =some oi)
 (hs:Region.noSelect ops=true) (hf:Region.free md ops listed i=true) (hr:(Region.ready md ops listed).contains i=true) (hD:D.all (fun d=>Region.waitsFor md ops d i)=true)
 (hQ:∀c a w,Q (.panic c) (a.put oi.dst v) w->Q (.panic c) a w) (hy:YieldsIf P ops S oi v a) (hS:S w)
 (h:Ek P md ops Q S D fuel (listed.setIfInBounds i true) (a.put oi.dst v) w):Ek P md ops Q S D (fuel+1) listed a w:=
 cB hi (Ym hs) hQ (fun d hd=>Region.waitsFor_spec (Dr.1 hD d hd)) fuel listed a w (Yd hi hf) (by simpa using hr) hy hS h
theorem Nq {i:Nat} {o:Oper} {fuel:Nat} {listed:Array Bool} {a:Act} {w:AH} (hr:Region.ready md ops listed=[i]) (ho:ops[i]? =some o)
 (h:∀K:Act->AH->Prop,Shut (∀a' w',(D.contains i=true\/(S w->S w'))->Ek P md ops Q S D fuel (listed.setIfInBounds i true) a' w'->K a' w')->if Region.wanted o (yielded ops a.tmps)=true then Oper.wp P o a w K Q else K (a.put o.dst undef) w):
 Ek P md ops Q S D (fuel+1) listed a w:=by
 refine ⟨fun h0=>absurd (hr ▸ h0) Ac,fun j hj=> ?_⟩;rw [hr,Fk] at hj;subst hj;exact wpOp_step ho (fun K hK=>h K (fun a w hS hW=>hK a w ⟨Or.imp (fun h=>by simpa using h) id hS,hW⟩))
theorem fd {listed:Array Bool} {a:Act} {w:AH} (hr:Region.ready md ops listed=[]) (h:Q .normal a w):
 ∀fuel,Ek P md ops Q S D fuel listed a w
 | 0=>⟨hr,h⟩
 | _+1=>⟨fun _=>h,by rw [hr];simp⟩
theorem fX {id:Nat} {a:Act} {w:AH} (S:AH->Prop) (D:List Nat) (hm:P.follows .mixedOrders=true)
 (h:Ek P .any ops Q S D ops.size (Array.replicate ops.size false) a w.drew):(Code.region id ops true).wp P Q a w:=
 wp_region_any hm (WB _ _ _ _ h)
end
section
variable {P:BB} {md:Region.Mode} {ops:Array Oper} {Q:Exit->Act->AH->Prop} {S:AH->Prop} {D:List Nat} {fuel:Nat} {listed:Array Bool} {l:List AK} {E:List Deferred} {w:AH}
theorem lB {id:Nat} {a:Act} (S:AH->Prop) (D:List Nat) (n:Nat) (L:Array Bool) (h:Ek P .any ops Q S D n L a w.drew) (hm:P.follows .mixedOrders=true:=by kernel_rfl) (hn:ops.size=n:=by kernel_rfl) (hL:Array.replicate n false=L:=by rfl):(Code.region id ops true).wp P Q a w:=by subst hn hL;exact fX S D hm h
theorem lT (i d:Nat) (hS:S w) {oi:Oper} {v:AK} (h:Ek P md ops Q S D fuel (listed.setIfInBounds i true) ⟨(l.set d v).toArray,E⟩ w)
 (hB:Qy md ops listed i=true:=by decide +kernel) (hi:ops[i]? =some oi:=by rfl) (hd:oi.dst=some d:=by rfl) (hQ:∀c (a:Act) v w,Q (.panic c) (a.put (some d) v) w->Q (.panic c) a w:=by first | exact Ro | exact Vl rfl BE | exact fun _ _ _ _ h=>h | exact Oc)
 (hw:Region.wanted oi (yielded ops l.toArray)=true:=by kernel_rfl) (hD:D.all (fun d=>Region.waitsFor md ops d i)=true:=by decide +kernel) (hv:∀w,S w->(execOp (Act.eval ⟨l.toArray,E⟩) oi).run P w=.ok (.value v) w:=by intro W hW;have f:=TK W hW;(go_simp) <;> rfl):
 Ek P md ops Q S D (fuel+1) listed ⟨l.toArray,E⟩ w:=by
 simp only [BZ] at hB;rw [<-MG,<-hd] at h;exact fZ hi hB.1 hB.2.1 hB.2.2 hD (fun c a w hq=>by rw [hd] at hq;exact hQ c a _ w hq) (.inl ⟨hw,hv⟩) hS h
theorem lM (i d t:Nat) (hS:S w) {oi:Oper} {v:AK} (h:Ek P md ops Q S D fuel (listed.setIfInBounds i true) ⟨(l.set d v).toArray,E⟩ w)
 (hv:l[t]? =some v:=by rfl) (hB:Qy md ops listed i=true:=by decide +kernel) (hi:ops[i]? =some oi:=by rfl) (hd:oi.dst=some d:=by rfl) (hQ:∀c (a:Act) v w,Q (.panic c) (a.put (some d) v) w->Q (.panic c) a w:=by first | exact Ro | exact Vl rfl BE | exact fun _ _ _ _ h=>h | exact Oc)
 (hw:Region.wanted oi (yielded ops l.toArray)=true:=by kernel_rfl) (hD:D.all (fun d=>Region.waitsFor md ops d i)=true:=by decide +kernel) (ho:oi.op=.move (AY t)\/oi.op=.assign (AY t):=by first | exact .inl rfl | exact .inr rfl):
 Ek P md ops Q S D (fuel+1) listed ⟨l.toArray,E⟩ w:=by
 refine lT i d hS h hB hi hd hQ hw hD (fun W _=> ?_);have e:Act.eval ⟨l.toArray,E⟩ (AY t)=v:=by simp [Act.eval,hv]
 unfold execOp;rcases ho with ho | ho
 · rw [ho];simp [e]
 · rw [ho];simp [e]
theorem lm {w0:AH} (i j m k d1 d2 d3 ts:Nat) {o1 o2 o4 o3:Oper} (T e:Ae) {z:TypeInfo} {zv:AK} {base size bytes n g off:Nat} {v x:AK} {xs:List AK} {news:Array AK} (t0:Nat)
 (hown:w.ownsRow base e size v n xs) (hnl:news.size=size) (h1:∀u∈news.toList,u.oneCell'=true) (h63:n+1<=maxLen) (hby:(n+1)*bytes<=140737488355328) (hb:base<=w.heap.size)
 (hbs:(Instr.buildSlice T 1 #[(0,x)]).run P w=.ok (AA (some ⟨w.heap.size,0,none⟩) 1 1) (w.alloc (AQ news e)))
 (hst:∀v' w7,w7.ownsRow base e size v' (n+1) (xs++news.toList)->(w.alloc (AQ news e)).grownBy w7 v.ownBlock->(Instr.storeAt T (AU (some ⟨g,off,none⟩)) v').run P w7=.ok () (w7.setCell ⟨g,off,none⟩ v'))
 (h:∀v' w7,w7.ownsRow base e size v' (n+1) (xs++news.toList)->(w.alloc (AQ news e)).grownBy w7 v.ownBlock->(v'.ownBlock=v.ownBlock\/v'.ownBlock=some (w.heap.size+1))->Q .normal ⟨(((l.set d1 (AA (some ⟨w.heap.size,0,none⟩) 1 1)).set d2 v').set d3 (AU (some ⟨g,off,none⟩))).toArray,E⟩ (w7.setCell ⟨g,off,none⟩ v'))
 (hz:P.info? e=some z/\z.zero=some zv/\zv.cells.size=size/\z.size=size/\z.bytes=bytes) (hsz:0 < size:=by decide) (ht:P.underlying T=some (.slice e):=by rfl)
 (hx:l[t0]? =some x:=by rfl) (hs:(l.set d1 (AA (some ⟨w.heap.size,0,none⟩) 1 1))[ts]? =some v:=by rfl) (AKC:decide (d1 < l.length)=true:=by kernel_rfl) (AJ9:decide (d3 < l.length)=true:=by kernel_rfl) (hne:d2≠d3:=by decide) (AKB:decide (d2 < l.length)=true:=by kernel_rfl)
 (hr1:Region.ready md ops listed=[i]:=by kernel_rfl) (hr2:Region.ready md ops (listed.setIfInBounds i true)=[j]:=by kernel_rfl) (hr5:Region.ready md ops ((listed.setIfInBounds i true).setIfInBounds j true)=[m]:=by kernel_rfl) (hr3:Region.ready md ops (((listed.setIfInBounds i true).setIfInBounds j true).setIfInBounds m true)=[k]:=by kernel_rfl) (hr4:Region.ready md ops ((((listed.setIfInBounds i true).setIfInBounds j true).setIfInBounds m true).setIfInBounds k true)=[]:=by kernel_rfl)
 (hi1:ops[i]? =some o1:=by rfl) (hi2:ops[j]? =some o2:=by rfl) (hi3:ops[k]? =some o3:=by rfl) (hi4:ops[m]? =some o4:=by rfl) (hg4:o4.guard=none:=by rfl) (he4:o4.dst=some d3:=by rfl) (hg1:o1.guard=none:=by rfl) (hg2:o2.guard=none:=by rfl) (hg3:o3.guard=none:=by rfl) (he1:o1.dst=some d1:=by rfl) (he2:o2.dst=some d2:=by rfl) (he3:o3.dst=none:=by rfl)
 (ho1:o1.op=.buildSlice T 1 #[(0,.tmp t0)]:=by rfl) (ho2:o2.op=.call {callee:=.builtin .append,args:=#[.tmp ts,.tmp d1],argTypes:=#[T,T]}:=by rfl) (ho3:o3.op=.store T (AY d3) (AY d2):=by rfl)
 (hp:∀v' W,(execOp (Act.eval ⟨((l.set d1 (AA (some ⟨w.heap.size,0,none⟩) 1 1)).set d2 v').toArray,E⟩) o4).run P W=.ok (.value (AU (some ⟨g,off,none⟩))) W:=by intro _ _;(go_simp) <;> rfl):
 Ek P md ops Q (fun W=>w0.grownBy W v.ownBlock) [k] (fuel+1+1+1+1) listed ⟨l.toArray,E⟩ w:=by
 have hd1:=Fj AKC;have hd2:=Fj AKB;have hd3:=Fj AJ9;have hw:∀(o:Oper) (t:Array AK),o.guard=none->Region.wanted o (yielded ops t)=true:=fun o t h=>by simp [Region.wanted,h]
 refine Nq hr1 hi1 (fun K hK=> ?_);rw [Am (hw _ _ hg1)];refine cA d1 T 1 #[(0,.tmp t0)] #[(0,x)] ho1 he1 eX hbs (Hid.out hK _ _ (.inr fun hs=>hs.trans (Fm _ _ _)) ?_);clear hK K;refine Nq hr2 hi2 (fun K hK=> ?_);rw [Am (hw _ _ hg2)];have hsrc:∀(j:Nat) (u:AK),news.toList[j]? =some u->(w.alloc (AQ news e)).cell? ((Addr.mk w.heap.size 0 none).add j)=some u:=fun j u hu=>by
  have e1:(Addr.mk w.heap.size 0 none).add j=⟨w.heap.size,j,none⟩:=by
   unfold Addr.add;split
   · subst_vars;rfl
   · simp
  rw [e1,(AZ.new w e news).cell];simpa using hu
 obtain ⟨v',w7,hrun,GL,DZ,_,hat⟩:=run_append_own_at (P:=P) (w.alloc (AQ news e)) base T o2.type e z zv size bytes ht hz.1 hz.2.1 hz.2.2.2.1 hz.2.2.2.2 hz.2.2.1 hsz v n xs (hown.alloc _) ⟨w.heap.size,0,none⟩ 1 1 news.toList (by rw [Array.length_toList,hnl,Nat.one_mul]) hsrc h1 h63 hby (by rw [Eg];omega);have hev:(Act.eval ⟨(l.set d1 (AA (some ⟨w.heap.size,0,none⟩) 1 1)).toArray,E⟩ (AY ts))=v:=by simp [Act.eval,hs]
 have hex:(Act.eval ⟨(l.set d1 (AA (some ⟨w.heap.size,0,none⟩) 1 1)).toArray,E⟩ (AY d1))=AA (some ⟨w.heap.size,0,none⟩) 1 1:=by simp [Act.eval,hd1]
 unfold Oper.wp execOp;simp only [ho2,resolve,invoke,builtin,Cs,DL,Result.andThen_ok,Yc,Fi,OD,hev,hex,hrun];show K (Act.put ⟨_,E⟩ o2.dst v') w7;rw [he2,MG];refine Hid.out hK _ _ (.inr fun hs=>(hs.trans DZ)) ?_;clear hK K;refine Nq hr5 hi4 (fun K hK=> ?_);rw [Am (hw _ _ hg4)];unfold Oper.wp;rw [hp v' w7];show K (Act.put ⟨_,E⟩ o4.dst _) w7;rw [he4,MG];refine Hid.out hK _ _ (.inr id) ?_;clear hK K;refine Nq hr3 hi3 (fun K hK=> ?_);rw [Am (hw _ _ hg3)];refine vW T (AY d3) (AY d2) (AU (some ⟨g,off,none⟩)) v' ho3 he3 (by simp [Act.eval,hd3]) (by simp [Act.eval,hd2,hne.symm]) (hst v' w7 GL DZ) (Hid.out hK _ _ (.inl Ac) ?_);rw [Eg] at hat;exact fd hr4 (h v' w7 GL DZ hat) _
end
theorem gG (W:AH) (i:Int) (A1 A2:Option Aa) (n1 c1 n2 c2:Nat):(Instr.buildSlice 42 1 #[(0,AO #[AB AE i,AA A1 n1 c1,AA A2 n2 c2])]).run prog W=.ok (AA (some ⟨W.heap.size,0,none⟩) 1 1) (W.alloc (AQ #[AB AE i,AA A1 n1 c1,AA A2 n2 c2] 62)):=by go_simp
theorem gF (W:AH) (g o:Nat) (v:AK) (a:Option Aa) (b c:Nat) (h:W.cell? ⟨g,o,none⟩=some v) (hf:W.frozen? ⟨g,o,none⟩=false):(Instr.storeAt 42 (AU (some ⟨g,o,none⟩)) (AA a b c)).run prog W=.ok () (W.setCell ⟨g,o,none⟩ (AA a b c)):=by go_simp
theorem AGP:∃(j:TypeInfo) (z:AK),prog.info? 3=some j/\j.zero=some z/\z.cells.size=1/\j.size=1/\j.bytes=8:=by obtain ⟨j,hj,hz⟩:=Ds.1 (show (prog.info? 3).map (fun i=>(i.zero.map (·.cells.size),i.size,i.bytes))=some (some 1,1,8) by kernel_rfl);simp only [GD] at hz;obtain ⟨z,hz0,hz1⟩:=Ds.1 hz.1;exact ⟨j,z,hj,hz0,hz1,hz.2⟩
theorem ACe (s:Iq) (hh:s.holder.length=32) (ht:s.token.length=32) (v:AK):(Et s).setIfInBounds 37 v=Et {s with values:=v}:=by
 obtain ⟨i,r,s,p,h,f,u,l,t,k,_,_,_,_⟩:=s
 dsimp only at hh ht
 exact Rq
theorem ACf (s:Iq) (hh:s.holder.length=32) (ht:s.token.length=32) (v:AK):(Et s).setIfInBounds 71 v=Et {s with claims:=v}:=by
 obtain ⟨i,r,s,p,h,f,u,l,t,k,_,_,_,_⟩:=s
 dsimp only at hh ht
 exact Rq
theorem PF {g:Nat} {t:Ae}:∀(vs:List AK) (o:Nat) (w:AH) (cs:List AK),AZ w g t cs.toArray->o+vs.length<=cs.length->AZ (w.setCells g o vs) g t (cs.take o++vs++cs.drop (o+vs.length)).toArray
 | [],o,w,cs,h,_=>by simpa [World.setCells] using h
 |
  u::r,o,w,cs,h,hl=>by
  simp only [Fl] at hl;have h1:AZ (w.setCell ⟨g,o,none⟩ u) g t (cs.set o u).toArray:=by have:=h.put o u;simpa using this
  have h2:=PF r (o+1) _ _ h1 BX;rw [World.setCells];have e:(cs.set o u).take (o+1)++r++(cs.set o u).drop (o+1+r.length)=cs.take o++u::r++cs.drop (o+(u::r).length):=by rw [List.drop_set_of_lt AG,eU BX,List.take_set_of_le (Ad _)];simp [Nat.add_assoc,Nat.add_comm 1]
  rw [e] at h2;exact h2
theorem Ul (g:Nat):∀(vs:List AK) (o:Nat) (w:AH),(w.setCells g o vs).heap.size=w.heap.size
 | [],_,_=>rfl
 | v::vs,o,w=>(Ul g vs (o+1) (w.setCell ⟨g,o,none⟩ v)).trans (Ra ..)
theorem AFy (s:Iq) (hh:s.holder.length=32) (ht:s.token.length=32) (d:AP):(SB s).take 39++d.map (Value.int .u8)++(SB s).drop 71=SB {s with token:=d}:=by
 obtain ⟨i,r,s,p,h,f,u,l,t,k,_,_,_,_⟩:=s
 dsimp only at hh ht
 rw [Ou hh,Ou ht];rfl
structure Q6 (S0:List Nat) (L:Nat) (q:Iq) (w W7:AH) (vl:AP) (kl:List Cd) (W:AH):Prop where
 kx:KX L (w.heap.size+1+1) w.heap.size W7 W
 old:AJ w W
 row:∃VA vc cv KA kc ck S,AZ W (w.heap.size+1+1) 44 (Et {q with values:=AA VA vl.length vc,claims:=AA KA kl.length kc})/\W.ownsRow L 3 1 (AA VA vl.length vc) vl.length cv/\Ao 1 CF W cv vl/\
  (∀r,(Value.slice VA vl.length vc).ownBlock=some r->r∈S)/\Jj L 62 3 Dc (w.heap.size+1+1) (AA KA kl.length kc) kl W ck S/\(∀b,b < w.heap.size->(b∈S↔b∈S0))/\(∀r,(Value.slice VA vl.length vc).ownBlock=some r->(Value.slice KA kl.length kc).ownBlock≠some r)
section
variable {S0 S:List Nat} {L:Nat} {q:Iq} {w W7 A C w7:AH} {vl:AP} {kl:List Cd} {VA KA:Option Aa} {vc kc:Nat} {cv ck news:List AK} {o:Obj} {v':AK}
theorem Q6.below (h:Q6 S0 L q w W7 vl kl A) (hn:L<=A.heap.size) (hw:w.heap.size < A.heap.size) (t:AJ A C):Q6 S0 L q w W7 vl kl C:=by obtain ⟨VA,vc,cv,KA,kc,ck,S,h1,h2,h3,h4,h5,h6,h7⟩:=h.row;exact ⟨h.kx.below t hn hw,AW h.old t,VA,vc,cv,KA,kc,ck,S,h1.below t h1.lt,EX h2 t,P3 h3,h4,h5.below CD t,h6,h7⟩
theorem Q6.AJA {x:Int} (h:Q6 S0 L q w W7 vl kl A) (hh:q.holder.length=32) (ht:q.token.length=32) (hL:w.heap.size+1+1 < L) (O9:L<=A.heap.size) (h1:AZ A (w.heap.size+1+1) 44 (Et {q with values:=AA VA vl.length vc,claims:=AA KA kl.length kc})) (h2:A.ownsRow L 3 1 (AA VA vl.length vc) vl.length cv) (h3:Ao 1 CF A cv vl)
 (h4:∀r,(Value.slice VA vl.length vc).ownBlock=some r->r∈S) (h5:Jj L 62 3 Dc (w.heap.size+1+1) (AA KA kl.length kc) kl A ck S) (h6:∀b,b < w.heap.size->(b∈S↔b∈S0)) (h7:∀r,(Value.slice VA vl.length vc).ownBlock=some r->(Value.slice KA kl.length kc).ownBlock≠some r) (hx:EZ x)
 (ho:w7.ownsRow L 3 1 v' (vl.length+1) (cv++[AB AE x])) (hg:(A.alloc o).grownBy w7 (Value.slice VA vl.length vc).ownBlock) (hat:v'.ownBlock=(Value.slice VA vl.length vc).ownBlock\/v'.ownBlock=some (A.heap.size+1)):
 Q6 S0 L q w W7 (vl++[x]) kl (w7.setCell ⟨w.heap.size+1+1,37,none⟩ v'):=by
 have hl:(vl++[x]).length=vl.length+1:=Ac
 have hb6:AJ A (A.alloc o):=(Af _ _).alloc (Ad _) o;have hz6:(A.alloc o).heap.size=A.heap.size+1:=Eg _ _;obtain ⟨A',c',rfl⟩:=Bz ho;have hE7:=(h1.alloc o).grown hg (Da h2 hL);have dQ:AJ w (A.alloc o):=h.old.alloc h.old.size o;have AMv:=hg.size;obtain ⟨S',hS',hlt',hsub,hnew⟩:∃S',(∀b,b < (A.alloc o).heap.size->(b∈S'↔b∈S))/\(∀b∈S',b < w7.heap.size)/\(∀b∈S,b∈S')/\(∀r,(Value.slice A' (vl.length+1) c').ownBlock=some r->r∈S'):=by
  rcases hat with hat | hat
  · exact ⟨S,fun _ _=>Iff.rfl,fun b hb=>by have:=h5.lt b hb;omega,fun _ h=>h,fun r hr=>h4 r (hat ▸ hr)⟩
  refine ⟨(A.heap.size+1)::S,fun b hb=>by rw [CO];exact Wn,fun b hb=> ?_,fun _ h=>Mx _ h,fun r hr=>by rw [hat] at hr;injection hr with hr;simp [hr]⟩;rcases CO.1 hb with rfl | hb
  · exact (ho.lt _ hat).2
  have:=h5.lt b hb;omega
 have hR7:Jj L 62 3 Dc (w.heap.size+1+1) (AA KA kl.length kc) kl w7 ck S':=(h5.below CD hb6).other CD hg h4 hS' hlt' (fun r hr e=>h7 r e hr);refine ⟨?_,?_,A',c',cv++[AB AE x],KA,kc,ck,S',?_,?_,?_,?_,?_,fun b hb=>(hS' b (by have:=h.old.size;omega)).trans (h6 b hb),?_⟩
 · exact (h.kx.below hb6 O9 AG).trans ((KX.grown hg AG (fun b hb=>Da h2 hb) AG AG).VU 37 _ AG AG)
 · exact (dQ.grown hg dQ.size (fun r hr=>by have:=(h2.lt r hr).1;omega)).setCell bf _
 ·have hp:=hE7.put 37 (AA A' (vl.length+1) c')
  rw [ACe {q with values:=AA VA vl.length vc,claims:=AA KA kl.length kc} hh ht] at hp;rw [hl];exact hp
 ·rw [hl]
  exact E9 ho (a:=⟨w.heap.size+1+1,37,none⟩) hL _
 · exact (P3 h3).append (Ao.one rfl ⟨rfl,hx⟩)
 · rw [hl];exact hnew
 · exact hR7.VU CD hL 37 _
 rw [hl];intro r hr;rcases hat with hat | hat
 · exact h7 r (hat ▸ hr)
 rw [hat] at hr;injection hr with hr;intro e;have:=(h5.own.lt r e).2;omega
theorem Q6.wH {x:Cd} (h:Q6 S0 L q w W7 vl kl A) (hh:q.holder.length=32) (ht:q.token.length=32) (hL:w.heap.size+1+1 < L) (O9:L<=A.heap.size) (h1:AZ A (w.heap.size+1+1) 44 (Et {q with values:=AA VA vl.length vc,claims:=AA KA kl.length kc})) (h2:A.ownsRow L 3 1 (AA VA vl.length vc) vl.length cv) (h3:Ao 1 CF A cv vl)
 (h4:∀r,(Value.slice VA vl.length vc).ownBlock=some r->r∈S) (h5:Jj L 62 3 Dc (w.heap.size+1+1) (AA KA kl.length kc) kl A ck S) (h6:∀b,b < w.heap.size->(b∈S↔b∈S0)) (h7:∀r,(Value.slice VA vl.length vc).ownBlock=some r->(Value.slice KA kl.length kc).ownBlock≠some r) (hnl:news.length=3) (hx:Dc (veil S A) news x)
 (ho:w7.ownsRow L 62 3 v' (kl.length+1) (ck++news)) (hg:(A.alloc o).grownBy w7 (Value.slice KA kl.length kc).ownBlock) (hat:v'.ownBlock=(Value.slice KA kl.length kc).ownBlock\/v'.ownBlock=some (A.heap.size+1)):
 Q6 S0 L q w W7 vl (kl++[x]) (w7.setCell ⟨w.heap.size+1+1,71,none⟩ v'):=by
 have hl:(kl++[x]).length=kl.length+1:=Ac
 have hb6:AJ A (A.alloc o):=(Af _ _).alloc (Ad _) o;have hz6:(A.alloc o).heap.size=A.heap.size+1:=Eg _ _;obtain ⟨A',c',rfl⟩:=Bz ho;have hE7:=(h1.alloc o).grown hg (Da h5.own hL);have dQ:AJ w (A.alloc o):=h.old.alloc h.old.size o;have h56:=h5.below CD hb6;obtain ⟨S',hS',hR7⟩:=h56.push CD ho hl.symm hg (by rw [hz6];exact hat) hnl (CD _ _ (M3 hb6) _ _ hx);have hv7:=(h2.alloc o).kept hg (by
  cases hv:(Value.slice VA vl.length vc).ownBlock with
  | none=>exact .inl rfl
  | some r=>exact .inr (fun e=>h7 r hv e.symm))
 refine ⟨?_,?_,VA,vc,cv,A',c',ck++news,S',?_,?_,P3 h3,?_,?_,fun b hb=>(hS' b (by have:=h.old.size;omega)).trans (h6 b hb),?_⟩
 · exact (h.kx.below hb6 O9 AG).trans ((KX.grown hg AG (fun b hb=>Da h5.own hb) AG AG).VU 71 _ AG AG)
 · exact (dQ.grown hg dQ.size (fun r hr=>by have:=(h5.own.lt r hr).1;omega)).setCell bf _
 ·have hp:=hE7.put 71 (AA A' (kl.length+1) c')
  rw [ACf {q with values:=AA VA vl.length vc,claims:=AA KA kl.length kc} hh ht] at hp;rw [hl];exact hp
 · exact E9 hv7 (a:=⟨w.heap.size+1+1,71,none⟩) hL _
 · exact fun r hr=>(hS' r (by have:=(h2.lt r hr).2;omega)).2 (h4 r hr)
 ·rw [hl]
  exact hR7.VU CD hL 71 _
 rw [hl];intro r hr e;rcases hat with hat | hat
 · exact h7 r hr (hat ▸ e)
 rw [hat] at e;injection e with e;have:=(h2.lt r hr).2;omega
theorem Q6.tok {d:AP} (h:Q6 S0 L q w W7 vl kl A) (hh:q.holder.length=32) (ht:q.token.length=32) (hd:d.length=32) (hL:w.heap.size+1+1 < L):Q6 S0 L {q with token:=d} w W7 vl kl (A.setCells (w.heap.size+1+1) 39 (d.map (Value.int .u8))):=by
 obtain ⟨VA,vc,cv,KA,kc,ck,S,h1,h2,h3,h4,h5,h6,h7⟩:=h.row;have hg:A.grownBy (A.setCells (w.heap.size+1+1) 39 (d.map (Value.int .u8))) (some (w.heap.size+1+1)):=JT _ _ _ (DN _ _);have hn:∀b,b < A.heap.size->b≠w.heap.size+1+1->(A.setCells (w.heap.size+1+1) 39 (d.map (Value.int .u8))).heap[b]? =A.heap[b]? :=fun b hb hne=>hg.block b hb (fun e=>by injection e with e;exact hne e);have hL2:=h1.lt;refine ⟨h.kx.trans ⟨hg.size,fun b _ hne=> ?_,hn _ AG AG,fun t=>MW (hn 0 AG AG) hg.size t⟩,below_setCells _ _ _ _ h.old AG,VA,vc,cv,KA,kc,ck,S,?_,Nz h2 (fun g h8 h9=>hn g h9 AG),P3 h3,h4,⟨Nz h5.own (fun g h8 h9=>hn g h9 AG),h5.hid,fun b hb=>Ay (h5.lt b hb) hg.size,h5.box,h5.els.mono CD (IB hg (fun r er _=>by injection er with er;rw [<-er];exact h5.box) (fun _ _=>Iff.rfl))⟩,h6,h7⟩
 ·by_cases hb:b < A.heap.size
  · exact hn b hb hne
  · rw [M0 (by rw [Ul];omega),M0 AG]
 have hs:=AFy {q with values:=AA VA vl.length vc,claims:=AA KA kl.length kc} hh ht d;have hlen:(SB {q with values:=AA VA vl.length vc,claims:=AA KA kl.length kc}).length=72:=by
  have:=Iw (s:={q with values:=AA VA vl.length vc,claims:=AA KA kl.length kc}) hh ht
  rwa [Et,Pb] at this
 have hb:=PF (d.map (Value.int .u8)) 39 A (SB {q with values:=AA VA vl.length vc,claims:=AA KA kl.length kc}) h1 (by rw [CX,hd,hlen];decide);rw [CX,hd,hs] at hb;exact hb
end
theorem Z2 {S0 S:List Nat} {w A:AH} (hb:AJ w A) (h6:∀b,b < w.heap.size->(b∈S↔b∈S0)):BK (veil S0 w).heap.size (veil S0 w) (veil S A):=
 IB (row:=none) ⟨hb.os,hb.tape,hb.output,hb.size,fun k hk _=>hb.block k hk⟩ (fun _ e=>by cases e) h6
theorem ix {α β:Type} {l:List α} {f:α->β} {j:Nat} {x:α} (h:l[j]? =some x):(l.take (j+1)).map f=(l.take j).map f++[f x]:=by rw [UL,h,DM];rfl
theorem take_len {α β:Type} {l:List α} {f:α->β} {j:Nat} (h:j<=l.length):((l.take j).map f).length=j:=by rw [CX,DR];omega
def V1 (S0:List Nat) (w:AH) (q:Fw) (e0:Int) (e:Ending) (w':AH):Prop:=∃FA fn fc VA vn vc KA kn kc,e=AV (BS #[AO (Et ⟨q.Au,q.round,q.schema,q.place,q.holder,AA FA fn fc,AA VA vn vc,q.link,q.token,AA KA kn kc,undef,undef,0,0⟩),AB AE e0])/\
 Ag 1 CF (veil S0 w') (AA FA fn fc) q.fields/\Ag 1 CF (veil S0 w') (AA VA vn vc) q.values/\Ag 3 Dc (veil S0 w') (AA KA kn kc) q.claims/\AJ w w'
def NZ:Fw:=⟨0,0,0,0,zeros 32,[],[],0,zeros 32,[]⟩
end Go.Proofs.YtpmpddfgifhlbaaGreatDoor
