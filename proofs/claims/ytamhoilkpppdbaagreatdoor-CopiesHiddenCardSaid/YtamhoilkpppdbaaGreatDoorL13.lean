import Derived.Test.YtamhoilkpppdbaaGreatDoorL11
import Derived.Test.YtamhoilkpppdbaaGreatDoorL12
namespace Go.Proofs.YtamhoilkpppdbaaGreatDoor
set_option maxHeartbeats 8000000
set_option maxRecDepth 100000
open Go renaming World→AH, Value→AN, Calls→AS, TypeId→Ae, Program→BE, Addr→Aa
open Go.RowKit renaming Below→BL
open Go.Proofs.Tryz
open Go.Value renaming slice→AA, int→AB, pointer→AU, bool→Ab, agg→AP, tuple→BU
open Go.IntKind renaming i64→AE
open Go.Ending renaming returned→AW
open Go.Obj renaming cells→AO
open Go.Operand renaming tmp→AX
open Go.RowKit Go.Shelf
attribute [local go_sem] Oper.semAt_some
theorem WR (e:Int) (w:AH):AS prog 37 #[.iface 133 (AP #[AB AE e])] w fun en w'=>en=AW (AB AE e)/\AK w w':=by
 have hta:∀w:AH,(Instr.typeAssert (.iface 133 (AP #[AB AE e])) 20 133 true).run prog w=.ok (BU #[AP #[AB AE e],Ab true]) w:=fun w=>by simp [Instr.typeAssert,run_underlying underlying133,go_sem,Result.andThen]
 go_enter func37,ntmps37;exact zt
def Kk (e:Int):AN:=.iface 133 (AP #[AB AE e])
theorem cB (p:Aa) (w:AH):
 CallsD prog 36 #[AU (some p)] .returning w fun e u' w'=>e=AW (BU #[])/\u'=.returning/\w'=w:=by
 refine OS func36 rfl fun c₀ cs hu=> ?_;apply wpS_seq;apply OM;simp [wpOpsS,go_sem,recoverD,hu,ntmps36,Exit.thenS];refine OL ?_;change Code.wp _ _ _ {tmps:=#[AU (some p),.nilIface,.nilIface,undef,undef,undef,undef],defers:=[]} w;go_wp2_with fail;cases c₀;simp_all [bodyPostS,results,results36]
theorem cA (D:Nat) (e0 e:Int) (w:AH) (hd:w.cell? ⟨D,0,none⟩=some (AB AE e0)) (hz:w.frozen? ⟨D,0,none⟩=false) (hD:D < w.heap.size):
 CallsD prog 36 #[AU (some ⟨D,0,none⟩)] (.panicking (Hk e)) w fun en u' w'=>
  en=AW (BU #[])/\u'=.panicking [{v:=Kk e,recovered:=true}]/\w'.cell? ⟨D,0,none⟩=some (AB AE e)/\∀base,base<=D->BL base w w':=by
 unfold Hk;refine OS func36 rfl fun c₀ cs hu=> ?_;apply wpS_seq;apply OM;simp [wpOpsS,go_sem,recoverD,hu,ntmps36,Exit.thenS];refine OL ?_;change Code.wp _ _ _ {tmps:=#[AU (some ⟨D,0,none⟩),Kk e,Kk e,undef,undef,undef,undef],defers:=[]} w;unfold Kk;go_wp2_with (
  go_at_call 37;refine (WR e _).mono ?_;rintro e w5 ⟨rfl,hb5⟩;have d5:=(hb5.cell (p:=⟨D,0,none⟩) hD).trans hd;have z5:=(hb5.frozen (p:=⟨D,0,none⟩) hD).trans hz;have HB:=AF hb5;clear hb5)
 refine ⟨rfl,.panicking [{v:=.iface 133 (AP #[AB AE e]),recovered:=true}],rfl,BU #[],by simp [results,results36],rfl,rfl,?_,fun base hb=> ?_⟩
 · simp [go_sem, *]
 · exact nr
theorem eW (p:Aa) (w:AH):
 CallsD prog 42 #[AU (some p)] .returning w fun e u' w'=>e=AW (BU #[])/\u'=.returning/\w'=w:=by
 refine OS func42 rfl fun c₀ cs hu=> ?_;apply wpS_seq;apply OM;simp [wpOpsS,go_sem,recoverD,hu,ntmps42,Exit.thenS];refine OL ?_;change Code.wp _ _ _ {tmps:=#[AU (some p),.nilIface,.nilIface,undef,undef,undef,undef],defers:=[]} w;go_wp2_with fail;cases c₀;simp_all [bodyPostS,results,results42]
theorem eV (D:Nat) (e0 e:Int) (w:AH) (hd:w.cell? ⟨D,0,none⟩=some (AB AE e0)) (hz:w.frozen? ⟨D,0,none⟩=false) (hD:D < w.heap.size):
 CallsD prog 42 #[AU (some ⟨D,0,none⟩)] (.panicking (Hk e)) w fun en u' w'=>
  en=AW (BU #[])/\u'=.panicking [{v:=Kk e,recovered:=true}]/\w'.cell? ⟨D,0,none⟩=some (AB AE e)/\∀base,base<=D->BL base w w':=by
 unfold Hk;refine OS func42 rfl fun c₀ cs hu=> ?_;apply wpS_seq;apply OM;simp [wpOpsS,go_sem,recoverD,hu,ntmps42,Exit.thenS];refine OL ?_;change Code.wp _ _ _ {tmps:=#[AU (some ⟨D,0,none⟩),Kk e,Kk e,undef,undef,undef,undef],defers:=[]} w;unfold Kk;go_wp2_with (
  go_at_call 37;refine (WR e _).mono ?_;rintro e w5 ⟨rfl,hb5⟩;have d5:=(hb5.cell (p:=⟨D,0,none⟩) hD).trans hd;have z5:=(hb5.frozen (p:=⟨D,0,none⟩) hD).trans hz;have HB:=AF hb5;clear hb5)
 refine ⟨rfl,.panicking [{v:=.iface 133 (AP #[AB AE e]),recovered:=true}],rfl,BU #[],by simp [results,results42],rfl,rfl,?_,fun base hb=> ?_⟩
 · simp [go_sem, *]
 · exact nr
theorem Zw (p:Aa) (w:AH):
 CallsD prog 45 #[AU (some p)] .returning w fun e u' w'=>e=AW (BU #[])/\u'=.returning/\w'=w:=by
 refine OS func45 rfl fun c₀ cs hu=> ?_;apply wpS_seq;apply OM;simp [wpOpsS,go_sem,recoverD,hu,ntmps45,Exit.thenS];refine OL ?_;change Code.wp _ _ _ {tmps:=#[AU (some p),.nilIface,.nilIface,undef,undef,undef,undef],defers:=[]} w;go_wp2_with fail;cases c₀;simp_all [bodyPostS,results,results45]
theorem Zv (D:Nat) (e0 e:Int) (w:AH) (hd:w.cell? ⟨D,0,none⟩=some (AB AE e0)) (hz:w.frozen? ⟨D,0,none⟩=false) (hD:D < w.heap.size):
 CallsD prog 45 #[AU (some ⟨D,0,none⟩)] (.panicking (Hk e)) w fun en u' w'=>
  en=AW (BU #[])/\u'=.panicking [{v:=Kk e,recovered:=true}]/\w'.cell? ⟨D,0,none⟩=some (AB AE e)/\∀base,base<=D->BL base w w':=by
 unfold Hk;refine OS func45 rfl fun c₀ cs hu=> ?_;apply wpS_seq;apply OM;simp [wpOpsS,go_sem,recoverD,hu,ntmps45,Exit.thenS];refine OL ?_;change Code.wp _ _ _ {tmps:=#[AU (some ⟨D,0,none⟩),Kk e,Kk e,undef,undef,undef,undef],defers:=[]} w;unfold Kk;go_wp2_with (
  go_at_call 37;refine (WR e _).mono ?_;rintro e w5 ⟨rfl,hb5⟩;have d5:=(hb5.cell (p:=⟨D,0,none⟩) hD).trans hd;have z5:=(hb5.frozen (p:=⟨D,0,none⟩) hD).trans hz;have HB:=AF hb5;clear hb5)
 refine ⟨rfl,.panicking [{v:=.iface 133 (AP #[AB AE e]),recovered:=true}],rfl,BU #[],by simp [results,results45],rfl,rfl,?_,fun base hb=> ?_⟩
 · simp [go_sem, *]
 · exact nr
section
variable {H:AQ->AQ->Dg}
theorem QO {ck:Int} {nf:Option Nat} {val:Int->Int->Bool} {r:Br} {c:EG} (h:DZ H ck nf val r c=0):ck=0/\Kq nf val r c=true:=by
 unfold DZ at h;by_cases h0:ck=0
 ·by_cases h1:Kq nf val r c=true
  · exact ⟨h0,h1⟩
  · rw [Ah (by simp [h0]),Ah h1] at h;cases h
 · rw [Ak h0] at h;cases h
theorem RK {nf:Option Nat} {val:Int->Int->Bool} {r:Br} {c:EG} (h:¬Kq nf val r c=true):DZ H 0 nf val r c=190:=by unfold DZ;rw [Ah AZ,Ah h]
theorem RH {nf:Option Nat} {val:Int->Int->Bool} {r:Br} {s:Ha} (h:¬Jj nf val r s=true):DJ H 0 nf val r s=190:=by unfold DJ;rw [Ah AZ,Ah h]
theorem xS {nf nf':Option Nat} {val val':Int->Int->Bool} {r r':Br} {c:EG} (h:Kq nf val r c=true) (hn:r'.no≠r.no\/r'.Ar≠r.Ar\/r'.schema≠r.schema):DZ H 0 nf' val' r' c=190:=by
 refine RK fun h'=> ?_;rw [Fk] at h h';have a:=h.1.1.2;have b:=h'.1.1.2;rcases hn with hn | hn | hn
 · exact hn (b.1.2.symm.trans a.1.2)
 · exact hn (b.1.1.symm.trans a.1.1)
 · exact hn (b.2.symm.trans a.2)
theorem sS {nf nf':Option Nat} {val val':Int->Int->Bool} {r r':Br} {s:Ha} (h:Jj nf val r s=true) (hn:r'.no≠r.no\/r'.Ar≠r.Ar\/r'.schema≠r.schema):DJ H 0 nf' val' r' s=190:=by
 refine RH fun h'=> ?_;rw [EV] at h h';have a:=h.1.1.1.1.1.2;have b:=h'.1.1.1.1.1.2;rcases hn with hn | hn | hn
 · exact hn (b.1.2.symm.trans a.1.2)
 · exact hn (b.1.1.symm.trans a.1.1)
 · exact hn (b.2.symm.trans a.2)
theorem AB1 {nf:Option Nat} {val:Int->Int->Bool} {r:Br} {c:EG} (h:Kq nf val r c=true) {l:List Cn} (hl:l.length≠c.claims.length):DZ H 0 nf val r {c with claims:=l}=190:=by refine RK fun h'=> ?_;rw [Fk] at h h';have a:=h.2.2;have b:l.length=_:=h'.2.2;omega
theorem VF {ck:Int} {nf:Option Nat} {val:Int->Int->Bool} {r:Br} {s:Ha} (h:DJ H ck nf val r s=0):ck=0/\Jj nf val r s=true/\∀(j:Nat) (m:Int×Dg) (c:Cn),(VR H (nf.getD 0) s)[j]? =some m->s.claims[j]? =some c->c.index=m.1/\Fi H r.root (r.places*(((nf.getD 0:Nat):Int)+4+1)) m.2 c=true:=by
 unfold DJ at h;by_cases h0:ck=0
 ·rw [Ah (by simp [h0])] at h
  by_cases h1:Jj nf val r s=true
  ·rw [Ak h1,M2] at h
   exact ⟨h0,h1,h⟩
  · rw [Ah h1] at h;cases h
 · rw [Ak h0] at h;cases h
theorem dm {n:Nat} {s:Ha} (hv:s.values.length=s.fields.length) {j:Nat} {f:Int} (hf:s.fields[j]? =some f):(VR H n s)[j]? =some (s.place*((n:Int)+4+1)+f,msgP H s.schema f (s.values.getD j 0) s.holder):=by
 have hj:=(BF.1 hf).1;have ez:(s.fields.zip s.values)[j]? =some (f,s.values.getD j 0):=by rw [JA];exact ⟨hf,by rw [Ck,BN AG];rfl⟩
 unfold VR Gt F8;rw [Gc,EB (by simp [hv];omega),Bg,ez];rfl
end
attribute [local go_sem] Oper.semAt_some
section
variable {P:BE} {md:Region.Mode} {ops:Array Oper} {Q:Exit->Act->AH->Prop} {S:AH->Prop} {fuel:Nat} {listed:Array Bool} {l:List AN} {D:List Deferred} {w:AH}
theorem Bm (i d:Nat) {oi:Oper} {v:AN} (hB:Xg md ops listed i=true) (hi:ops[i]? =some oi) (hd:oi.dst=some d) (hQ:∀c (a:Act) v w,Q (.panic c) (a.put (some d) v) w->Q (.panic c) a w) (hS:S w)
 (hw:Region.wanted oi (yielded ops l.toArray)=true) (hv:∀w,S w->(execOp (Act.eval ⟨l.toArray,D⟩) oi).run P w=.ok (.value v) w)
 (h:wpAnyH P md ops Q S fuel (listed.setIfInBounds i true) ⟨(l.set d v).toArray,D⟩ w):wpAnyH P md ops Q S (fuel+1) listed ⟨l.toArray,D⟩ w:=by
 exact AAZ
theorem Lw (i d:Nat) {oi:Oper} (hB:Xg md ops listed i=true) (hi:ops[i]? =some oi) (hd:oi.dst=some d) (hQ:∀c (a:Act) v w,Q (.panic c) (a.put (some d) v) w->Q (.panic c) a w) (hS:S w)
 (hw:Region.wanted oi (yielded ops l.toArray)=false)
 (h:wpAnyH P md ops Q S fuel (listed.setIfInBounds i true) ⟨(l.set d undef).toArray,D⟩ w):wpAnyH P md ops Q S (fuel+1) listed ⟨l.toArray,D⟩ w:=by
 simp only [Bb] at hB;rw [<-Lx,<-hd] at h;exact wpAnyH_take hi hB.1 hB.2.1 hB.2.2 (fun c a w hq=>by rw [hd] at hq;exact hQ c a _ w hq) (.inr ⟨hw,rfl⟩) hS h
theorem Xh (i d:Nat) {o:Oper} {f:FuncId} {xs:Array Operand} {ts:Array Ae} {args:Array AN} {R:Ending->AH->Prop} (hr:Region.ready md ops listed=[i]) (hi:ops[i]? =some o) (hd:o.dst=some d) (hg:o.guard=none)
 (ho:o.op=.call {callee:=.value (.func f),args:=xs,argTypes:=ts}) (he:Enters P f) (hc:AS P f args w R) (ha:xs.toList.map (Act.eval ⟨l.toArray,D⟩)=args.toList)
 (h:∀e w',R e w'->(∃v,e=AW v/\S w'/\wpAnyH P md ops Q S fuel (listed.setIfInBounds i true) ⟨(l.set d v).toArray,D⟩ w')\/∃ch,e=.panicked ch/\Q (.panic ch) ⟨l.toArray,D⟩ w'):wpAnyH P md ops Q S (fuel+1) listed ⟨l.toArray,D⟩ w:=by
 refine oh i hr hi hg ?_;have e:xs.map (Act.eval ⟨l.toArray,D⟩)=args:=by apply ZL.1;rw [Up];exact ha
 have hex:(execOp (Act.eval ⟨l.toArray,D⟩) o).run P w=.ok (.enter f args) w:=by unfold execOp;rw [ho];simp [resolve,Act.eval,Deferred.ofValue,invoke,<-e];exact he _ w
 unfold Oper.wp;rw [hex];exact hc.mono fun e w' hR=>by
  rcases h e w' hR with ⟨v,rfl,hS,hk⟩ | ⟨ch,rfl,hq⟩
  ·rw [<-Lx,<-hd] at hk
   exact ⟨hS,hk⟩
  · exact hq
end
theorem Vz {n:Nat} (h:n<=1000):∀f∈upto n,0<=f/\f<=1000:=fun f hf=>by simp only [upto,Dr,Eu] at hf;obtain ⟨i,hi,rfl⟩:=hf;omega
theorem UR {P:BE} {fn:Func} {t t':Array AN} {R:Ending->AH->Prop} (h:results fn t=results fn t'):∀(ds:List Deferred) (u:FrameMode) (w:AH),Leaves P fn t R ds u w->Leaves P fn t' R ds u w
 | [],.returning,_,⟨v,hv,hr⟩=>⟨v,h ▸ hv,hr⟩
 | [],.panicking _,_,hr=>hr
 | [],.run,_,hr=>hr.elim
 |
  _::ds,_,_,⟨hu,fv,cap,f,args,h1,h2,hc⟩=>⟨hu,fv,cap,f,args,h1,h2,hc.mono fun e u' w' hh=>by
  cases e with
  | returned v=>exact UR h ds _ _ hh
  | panicked c=>exact UR h ds _ _ hh
  | outgrown=>exact hh⟩
theorem EQ {P:BE} {fn:Func} {R:Ending->AH->Prop} {K:Act->AH->Prop} {d p:Nat} {ty:Ae} (hr:fn.results=#[.cell p ty]) (hd:d≠p):∀c (a:Act) v w,Exit.then K (bodyPostD P fn R) (.panic c) (a.put (some d) v) w->Exit.then K (bodyPostD P fn R) (.panic c) a w:=fun c a v w h=>by
 refine UR (t:=(a.put (some d) v).tmps) ?_ _ _ _ h;exact AAV
theorem ACc {tmps:Array AN} {w W:AH} {g:Nat} {e k:Int} {R:Ending->AH->Prop} (hg:tmps.getD 6 undef=AU (some ⟨g,0,none⟩)) (hk:W.cell? ⟨g,0,none⟩=some (AB AE k)) (hz:W.frozen? ⟨g,0,none⟩=false) (hlt:g < W.heap.size) (hgw:w.heap.size<=g) (hb:AK w W)
 (hR:∀w'',AK w w''->R (AW (AB AE e)) w''):Leaves prog f13 tmps R [{target:=.fn (.func 36) #[AU (some ⟨g,0,none⟩)],args:=#[]}] (.panicking (Hk e)) W:=by
 refine OP (f:=36) (args:=#[AU (some ⟨g,0,none⟩)]) AZ LS ?_;refine (cA g k e W hk hz hlt).mono ?_;rintro en u' w'' ⟨rfl,rfl,hc,hb'⟩;have hg':tmps[6]?.getD undef=AU (some ⟨g,0,none⟩):=by simpa using hg
 exact ⟨_,by simp [results,results13,hg',asAddr,go_sem,hc],hR _ (hb.trans (hb' _ hgw))⟩
theorem AG8 {tmps:Array AN} {W:AH} {g:Nat} {e:Int} {R:Ending->AH->Prop} (hg:tmps.getD 6 undef=AU (some ⟨g,0,none⟩)) (hk:W.cell? ⟨g,0,none⟩=some (AB AE e)) (hR:R (AW (AB AE e)) W):
 Leaves prog f13 tmps R [{target:=.fn (.func 36) #[AU (some ⟨g,0,none⟩)],args:=#[]}] .returning W:=by
 refine OP (f:=36) (args:=#[AU (some ⟨g,0,none⟩)]) AZ LS ?_;refine (cB ⟨g,0,none⟩ W).mono ?_;rintro en u' w'' ⟨rfl,rfl,rfl⟩;have hg':tmps[6]?.getD undef=AU (some ⟨g,0,none⟩):=by simpa using hg
 exact ⟨_,by simp [results,results13,hg',asAddr,go_sem,hk],hR⟩
theorem Y0 (v0 v1 v3 v4 v5 v6:AN) (A:Option Aa) (n c:Nat) (ns:List Nat) (ck:Int) (val:Int->Int->Int->Bool) (r:Br) (q:EG) (VA LA KA:Option Aa) (vn vc ln lc kn kc:Nat) (w:AH) (hs:Ag 6 Kx w (AA A n c) ns)
 (hK:PU (AP #[v0,v1,AA A n c,v3,v4,v5]) (AP #[v0,v1,AA A n c,v3,v4,v5,v6]) ck val w) (hv:Ag 1 Bt w (AA VA vn vc) q.values) (hl:Ag 32 CP w (AA LA ln lc) q.links) (hk:Ag 3 Cy w (AA KA kn kc) q.claims)
 (hh:q.holder.length=32) (hro:r.root.length=32) (LC:Cc w):
 AS prog 13 #[AP #[v0,v1,AA A n c,v3,v4,v5,v6],AP (rdA r),AP (Fo ⟨q.Ar,q.round,q.schema,q.place,q.holder,AA VA vn vc,AA LA ln lc,AA KA kn kc⟩)] w fun e w'=>
  e=AW (AB AE (DZ Aw ck (Ba ns r.schema) (val r.schema) r q))/\AK w w':=by
 obtain ⟨p,hp⟩:=Ad (⟨q.Ar,q.round,q.schema,q.place,q.holder,AA VA vn vc,AA LA ln lc,AA KA kn kc⟩:UH);rw [<-hp];obtain ⟨RR,hRR⟩:=Ad (rdA r);obtain ⟨Y,hY⟩:=Ad (Fo p);obtain ⟨res,hres⟩:=Ad (DZ Aw ck (Ba ns r.schema) (val r.schema) r q);have Wo:p.holder.length=32:=by rw [hp];exact hh
 rw [<-hY,<-hRR,<-hres];have Yf:AI ((prog.info? 46).map (·.size)=some Y.size):=AF (by rw [hY,Jw Wo];exact ix);have MN:AI ((prog.info? 36).map (·.size)=some RR.size):=AF Uh;have Mj:AI (∀W g,AY W g 46 Y->CpB W g p):=AF (fun W g h=>by rw [hY] at h;exact PS h Wo);have Lm:AI (RR[0]? =some (AB AE r.Ar)/\RR[1]? =some (AB AE r.no)/\RR[2]? =some (AB AE r.schema)/\RR[5]? =some (AB AE r.places)):=AF nZ
 have Ou:AI (∀W,AK w W->AS prog 27 #[AP #[v0,v1,AA A n c,v3,v4,v5,v6],.agg RR] W fun e w'=>e=AW (Ab (Gk (Ba ns r.schema) r.places))/\AK W w'):=AF (fun W hW=>by rw [hRR];exact YI v0 v1 v3 v4 v5 v6 A n c ns r W (hs.mono Di hW));have fH:AI (∀(k x:Nat) (W:AH),AK w W->ns[k]? =some x->x<=1000->q.schema=k->AS prog 40 #[AP #[v0,v1,AA A n c,v3,v4,v5,v6],.agg Y] W fun e w'=>∃F L,e=AW (AP (JW ⟨q.Ar,q.round,q.schema,q.place,q.holder,F,AA VA vn vc,0,zeros 32,AA KA kn kc,L,AA LA ln lc,(x:Int)+4+1,(x:Int)+4⟩))/\Ag 1 Bt w' F (upto x)/\Ag 1 Bt w' L (upto 4)/\AK W w'):=AF (fun k x W hW hx h5 hsc=>by rw [hY,hp];exact (dK v0 v1 v3 v4 v5 v6 A n c ns k x ⟨q.Ar,q.round,q.schema,q.place,q.holder,AA VA vn vc,AA LA ln lc,AA KA kn kc⟩ VA LA KA vn vc ln lc kn kc W (hs.mono Di hW) hx h5 hh hsc rfl rfl rfl).mono fun e w' h=>by obtain ⟨F,L,h1,h2,h3,h4,_⟩:=h;exact ⟨F,L,h1,h2,h3,h4⟩)
 obtain ⟨TP,Lh,HK,HS,HV,HL,J6,I7,WY,HPH,HP,Hb⟩:=QX hh hK.chk hK hs hv hl hk LC hro Wo hp hres;obtain ⟨HRR,HY⟩:=Al hRR hY;clear hs hK hv hl hk hh hro LC Wo hp hres hRR hY;have hmf:∀(fn:Fn) (first cap:Array AN) (w:AH),(Instr.makeFunc fn first cap).run prog w=.ok (.func fn first cap) w:=fun _ _ _ _=>rfl
 go_enter_defers func13,ntmps13
 go_upto_region 2 with fail;obtain ⟨k1,b1,s1⟩:=bx w #[v0,v1,AA A n c,v3,v4,v5,v6] 32;generalize (w.alloc (AO #[v0,v1,AA A n c,v3,v4,v5,v6] 32))=w1 at k1 b1 s1 ⊢;obtain ⟨k2,b2,s2⟩:=bx w1 RR 36;generalize (w1.alloc (AO RR 36))=w2 at k2 b2 s2 ⊢;obtain ⟨k3,b3,s3⟩:=bx w2 Y 46;generalize (w2.alloc (AO Y 46))=w3 at k3 b3 s3 ⊢;obtain ⟨k4,b4,s4⟩:=bx w3 #[AB AE 0] 47;generalize (w3.alloc (AO #[AB AE 0] 47))=w4 at k4 b4 s4 ⊢;rw [s1] at k2 b2 s2;rw [s2] at k3 b3 s3;rw [s3] at k4 b4 s4;have Cf:AI (AK w w4):=AF (((b1.trans (b2.mono AG)).trans (b3.mono AG)).trans (b4.mono AG));have H4:AI (w4.heap.size=w.heap.size+1+1+1+1):=AF AG;have HE:AI (∀W,AK w4 W->AY W (w.heap.size+1) 36 RR/\AY W (w.heap.size+1+1) 46 Y/\AY W (w.heap.size+1+1+1) 47 #[AB AE 0]):=AF (fun W hW=>⟨((k2.below b3 AG).below b4 AG).below hW AG,(k3.below b4 AG).below hW AG,k4.below hW AG⟩);have HD:AI (∀W,AK w4 W->W.cell? ⟨w.heap.size,0,none⟩=some v0/\W.cell? ⟨w.heap.size,1,none⟩=some v1/\W.cell? ⟨w.heap.size,2,none⟩=some (AA A n c)/\W.cell? ⟨w.heap.size,3,none⟩=some v3/\W.cell? ⟨w.heap.size,4,none⟩=some v4/\W.cell? ⟨w.heap.size,5,none⟩=some v5/\W.cell? ⟨w.heap.size,6,none⟩=some v6):=AF (fun W hW=>by have b:=(((k1.below b2 AG).below b3 AG).below b4 AG).below hW AG;exact ⟨b.cell 0,b.cell 1,b.cell 2,b.cell 3,b.cell 4,b.cell 5,b.cell 6⟩)
 clear k1 b1 s1 k2 b2 s2 k3 b3 s3 k4 b4 s4;have JN:AI (∀(tmps:Array AN) (W:AH) (e:Int),tmps.getD 6 undef=AU (some ⟨w.heap.size+1+1+1,0,none⟩)->AK w4 W->res=e->Leaves prog f13 tmps (fun e w'=>e=AW (AB AE res)/\AK w w') [{target:=.fn (.func 36) #[AU (some ⟨w.heap.size+1+1+1,0,none⟩)],args:=#[]}] (.panicking (Hk e)) W):=AF (fun tmps W e ht hW he=>by have k:=(HE.o W hW).2.2;refine ACc ht (k.cell 0) (k.frozen 0) k.lt AG (AV Cf.o hW) (fun w'' hb=>⟨by rw [he],hb⟩))
 have Dz:AI (∀W,AK w4 W->(W.cell? ⟨w.heap.size+1+1,0,none⟩=some (AB AE q.Ar)/\W.cell? ⟨w.heap.size+1+1,1,none⟩=some (AB AE q.round)/\W.cell? ⟨w.heap.size+1+1,2,none⟩=some (AB AE q.schema)/\W.cell? ⟨w.heap.size+1+1,3,none⟩=some (AB AE q.place))/\(W.cell? ⟨w.heap.size+1+1,36,none⟩=some (AA VA vn vc)/\W.cell? ⟨w.heap.size+1+1,37,none⟩=some (AA LA ln lc)/\W.cell? ⟨w.heap.size+1+1,38,none⟩=some (AA KA kn kc))/\
  (W.cell? ⟨w.heap.size+1,0,none⟩=some (AB AE r.Ar)/\W.cell? ⟨w.heap.size+1,1,none⟩=some (AB AE r.no)/\W.cell? ⟨w.heap.size+1,2,none⟩=some (AB AE r.schema)/\W.cell? ⟨w.heap.size+1,5,none⟩=some (AB AE r.places))):=AF (fun W hW=>by
  obtain ⟨b1,b2,_⟩:=HE.o W hW;have b:=Mj.o _ _ b2;rw [HP.o] at b;exact ⟨⟨b.Ar,b.round,b.schema,b.place⟩,⟨b.values,b.links,b.claims⟩,(b1.cell 0).trans Lm.o.1,(b1.cell 1).trans Lm.o.2.1,(b1.cell 2).trans Lm.o.2.2.1,(b1.cell 5).trans Lm.o.2.2.2⟩)
 obtain ⟨d0,d1,d2,d3,d4,d5,d6⟩:=HD.o w4 (Af _ _);by_cases hck:ck=0
 ·subst hck
  have Co:AI (¬Kq (Ba ns r.schema) (val r.schema) r q=true->res=190):=AF (fun h=>Hb.o.trans (RK h));go_upto_region 3 with (first
   | (
    go_at_call 23;refine (Lh.o _ Cf.o).mono ?_;rintro e w5 ⟨rfl,hb5⟩;obtain ⟨c0,c1,c2,c3,c4,c5,c6⟩:=HD.o w5 hb5;have Cg:=AF hb5;have Nz:=AF (HE.o w5 hb5).1;clear hb5 d0 d1 d2 d3 d4 d5 d6)
   | (go_at_call 38;refine (Ew 160 _).mono ?_;rintro e w6 ⟨⟨v,rfl⟩,rfl⟩))
  cases hft:Gk (Ba ns r.schema) r.places with
  |
   false=>
   rw [hft] at Ou;have HN:=AF (Co.o (fun h=>by have:=((Fk.1 h).1.1).1;rw [hft] at this;cases this));clear hft;go_wp2_with (first
    | (refine Ci rfl 36 (AX 4) rfl (w.heap.size+1) AJ 36 RR (0,0) _ Nz.o underlying36 rfl MN.o ?_)
    | (
     go_at_call 27;refine (Ou.o _ (AV Cf.o Cg.o)).mono ?_;rintro e w7 ⟨rfl,hb7⟩;have D4:=AF (AV Cg.o hb7);clear hb7)
    | (go_at_call 38;refine (EP 190 _).mono ?_;rintro e w8 ⟨rfl,rfl⟩)
    | fail)
   (refine JN.o _ _ _ ?_ D4.o HN.o;rfl)
  |
   true=>
   rw [hft] at Ou;obtain ⟨x,hnf,hp1,AHx,m8⟩:=ME hft;have AKR:0<=r.schema:=by
    unfold Ba at hnf;split at hnf
    · assumption
    · cases hnf
   obtain ⟨k,hk⟩:∃k:Nat,r.schema=(k:Int):=⟨r.schema.toNat,by omega⟩;have hx:ns[k]? =some x:=by rw [hk,Ba,Ak AG] at hnf;exact hnf
   have hx1:x<=251:=by have h1:1*((x:Int)+4+1)<=r.places*((x:Int)+4+1):=P0 hp1 AG;omega
   obtain ⟨JI,zh⟩:=Al hnf hft;go_upto_region 4 with (first
    | (refine Ci rfl 36 (AX 4) rfl (w.heap.size+1) AJ 36 RR (0,0) _ Nz.o underlying36 rfl MN.o ?_)
    | (
     go_at_call 27;refine (Ou.o _ (AV Cf.o Cg.o)).mono ?_;rintro e w7 ⟨rfl,hb7⟩;have D4:=AF (AV Cg.o hb7);clear hb7)
    | (go_at_call 38;refine (Ew 190 _).mono ?_;rintro e w8 ⟨⟨v,rfl⟩,rfl⟩)
    | fail)
   have Lr:=AF hk;clear c0 c1 c2 c3 c4 c5 c6 hft hnf hk;obtain ⟨⟨f0,f1,f2,f3⟩,_,e0,e1,e2,e5⟩:=Dz.o _ D4.o;have hcase:(¬q.Ar=r.Ar\/(q.Ar=r.Ar/\¬q.round=r.no)\/(q.Ar=r.Ar/\q.round=r.no/\¬q.schema=r.schema))\/(q.Ar=r.Ar/\q.round=r.no/\q.schema=r.schema):=AG
   rcases hcase with hno | ⟨h1,h2,h3⟩
   ·have HN:=AF (Co.o (fun h=>by have:=(Fk.1 h).1.1.2;omega))
    exact AAi
   go_upto_region 5 with (go_at_call 38;refine (Ew 190 _).mono ?_;rintro e w9 ⟨⟨v,rfl⟩,rfl⟩);have RE:AI (∀W,AK w W->AS prog 39 #[AP #[v0,v1,AA A n c,v3,v4,v5,v6],AB AE q.schema,AA VA vn vc] W fun e w'=>e=AW (Ab (Dx x (val r.schema) q.values))/\AK W w'):=AF (fun W hW=>by rw [h3,Lr.o];exact Yb v0 v1 v3 v4 v5 v6 A n c ns k x VA vn vc q.values 0 val W (HS.o.mono Di hW) hx (HV.o.mono BT hW) (HK.o.below hW))
   obtain ⟨Vn,HX,H12⟩:=BB h3 hx (And.intro h1 h2);clear h1 h2 h3 hx f0 f1 e0 e1 e2;have hcase:(¬0<=q.place\/(0<=q.place/\¬q.place < r.places))\/(0<=q.place/\q.place < r.places):=AG
   rcases hcase with hno | ⟨h1,h2⟩
   ·have HN:=AF (Co.o (fun h=>by have:=(Fk.1 h).1.2.1;omega))
    exact AAd
   obtain ⟨c0,c1,c2,c3,c4,c5,c6⟩:=HD.o _ D4.o;have f36:=(Dz.o _ D4.o).2.1.1;cases hac:Dx x (val r.schema) q.values with
   |
    false=>
    rw [hac] at RE;have HN:=AF (Co.o (fun h=>by have:=(Fk.1 h).1.2.2;rw [JI.o] at this;exact Bool.noConfusion (hac.symm.trans this)));go_wp2_with (first
     | (
      go_at_call 39;refine (RE.o _ (AV Cf.o D4.o)).mono ?_;rintro e w9 ⟨rfl,Oe⟩;have Nf:=AF (AV D4.o Oe);clear Oe)
     | (go_at_call 38;refine (EP 190 _).mono ?_;rintro e w10 ⟨rfl,rfl⟩))
    (refine JN.o _ _ _ ?_ Nf.o HN.o;rfl)
   |
    true=>
    rw [hac] at RE;go_upto_region 6 with (first
     | (
      go_at_call 39;refine (RE.o _ (AV Cf.o D4.o)).mono ?_;rintro e w9 ⟨rfl,Oe⟩;have Nf:=AF (AV D4.o Oe);clear Oe)
     | (go_at_call 38;refine (Ew 190 _).mono ?_;rintro e w10 ⟨⟨v,rfl⟩,rfl⟩))
    -- REGION 6
    clear c0 c1 c2 c3 c4 c5 c6 f36 f2 f3 e5;have Fs:prog.follows .mixedOrders=true:=AJ
    have lX:AI (q.schema=(k:Int)):=AF (Vn.o.trans Lr.o);have hkn':k < n:=by rw [HS.o.len];exact (BF.1 HX.o).1
    have hk1:(k:Int) < (n:Int):=AG
    have hk0:=Int.natCast_nonneg k
    obtain ⟨b,off,x',x0,x1,x2,x3,B,cc,x5,hA,hb,hx',hxl,hone,hcell⟩:=Nv HS.o hkn';rw [HX.o] at hx';injection hx' with hx';subst hx';subst hA;have hS:=Nf.o.drew;have fP:AI (∀W,AK w4 W->(Instr.loadAt 85 (AU (some ⟨b,off+k*6,none⟩))).run prog W=.ok (AP #[x0,x1,x2,x3,AA B x cc,x5]) W):=AF (fun W hW=>by have hr:W.rangeAt b (off+k*6) [x0,x1,x2,x3,AA B x cc,x5]:=fun j v hj=>((AV Cf.o hW).cell (p:=⟨b,off+k*6+j,none⟩) hb).trans (hcell j v hj);simp only [Instr.loadAt,Instr.sureAddr,Cp,DL,Result.andThen_ok,Rz W b (off+k*6) 85 _ _ hr underlying85 rfl AJ])
    have hsz:(prog.info? 85).map (·.size)=some 6:=AJ
    clear hcell hone;refine Pe (fun W=>AK w4 W) 19 _ Fs AJ rfl ?_;by_cases hl4:ln=4
    rotate_left
    ·have hlf:((ln:Int)==4)=false:=Hf AG
     have HN:=AF (Co.o (fun h=>by have:=(Fk.1 h).2.1;have:=HL.o.len;omega));refine Bm 0 55 AJ rfl rfl (EQ rfl Ai) hS AJ Hz ?_;refine Bm 1 56 AJ rfl rfl (EQ rfl Ai) hS AJ Hz ?_;refine Bm 2 57 AJ rfl rfl (EQ rfl Ai) hS AJ Hz ?_;refine Bm 3 58 AJ rfl rfl (EQ rfl Ai) hS AJ (v:=Ab false) GV ?_;refine Bm 4 59 AJ rfl rfl (EQ rfl Ai) hS AJ Hz ?_;refine Lw 5 60 AJ rfl rfl (EQ rfl Ai) hS AJ ?_;refine Lw 6 61 AJ rfl rfl (EQ rfl Ai) hS AJ ?_;refine Lw 7 62 AJ rfl rfl (EQ rfl Ai) hS AJ ?_;refine Lw 8 63 AJ rfl rfl (EQ rfl Ai) hS AJ ?_;refine Lw 9 64 AJ rfl rfl (EQ rfl Ai) hS AJ ?_;refine Lw 10 65 AJ rfl rfl (EQ rfl Ai) hS AJ ?_;refine Lw 11 66 AJ rfl rfl (EQ rfl Ai) hS AJ ?_;refine Lw 12 67 AJ rfl rfl (EQ rfl Ai) hS AJ ?_;refine Lw 13 68 AJ rfl rfl (EQ rfl Ai) hS AJ ?_;refine Lw 14 69 AJ rfl rfl (EQ rfl Ai) hS AJ ?_;refine Lw 15 70 AJ rfl rfl (EQ rfl Ai) hS AJ ?_;refine Lw 16 71 AJ rfl rfl (EQ rfl Ai) hS AJ ?_;refine Bm 17 72 AJ rfl rfl (EQ rfl Ai) hS AJ Hz ?_;refine Xh 18 73 AJ rfl rfl rfl rfl (enters_of func38 AJ rfl) (EP 190 _) AJ ?_;rintro e JC ⟨rfl,rfl⟩;refine .inr ⟨_,rfl,?_⟩;refine JN.o _ _ _ ?_ hS HN.o;kernel_rfl
    subst hl4;refine Bm 0 55 AJ rfl rfl (EQ rfl Ai) hS AJ Hz ?_;refine Bm 1 56 AJ rfl rfl (EQ rfl Ai) hS AJ Hz ?_;refine Bm 2 57 AJ rfl rfl (EQ rfl Ai) hS AJ Hz ?_;refine Bm 3 58 AJ rfl rfl (EQ rfl Ai) hS AJ (v:=Ab true) GV ?_;refine Bm 4 59 AJ rfl rfl (EQ rfl Ai) hS AJ Hz ?_;refine Bm 5 60 AJ rfl rfl (EQ rfl Ai) hS AJ Hz ?_;refine Bm 6 61 AJ rfl rfl (EQ rfl Ai) hS AJ Hz ?_;refine Bm 7 62 AJ rfl rfl (EQ rfl Ai) hS AJ Hz ?_;refine Bm 8 63 AJ rfl rfl (EQ rfl Ai) hS AJ Hz ?_;refine Bm 9 64 AJ rfl rfl (EQ rfl Ai) hS AJ Hz ?_;refine Bm 10 65 AJ rfl rfl (EQ rfl Ai) hS AJ Hz ?_;refine Bm 11 66 AJ rfl rfl (EQ rfl Ai) hS AJ Hz ?_;refine Bm 12 67 AJ rfl rfl (EQ rfl Ai) hS AJ Hz ?_;refine Bm 13 68 AJ rfl rfl (EQ rfl Ai) hS AJ Hz ?_;refine Bm 14 69 AJ rfl rfl (EQ rfl Ai) hS AJ (v:=AP #[x0,x1,x2,x3,AA B x cc,x5]) (fun W hW=>Cv rfl AJ (fP.o W hW)) ?_;refine ADJ 15 70 AJ rfl rfl AJ rfl (enters_of func30 AJ rfl) (Tc x0 x1 x2 x3 x5 B x cc _ hxl) AJ ?_;rintro e JC ⟨rfl,MY⟩;have hS2:AK w4 JC:=AV hS MY;refine ⟨_,rfl,hS2,?_⟩;by_cases hkl:kn=x+4+1
    rotate_left
    ·have hkf:((kn:Int)==(x:Int)+4+1)=false:=Hf AG
     have HN:=AF (Co.o (fun h=>by have:=(Fk.1 h).2.2;rw [JI.o] at this;change _=x+5 at this;have:=J6.o.len;omega));refine Bm 16 71 AJ rfl rfl (EQ rfl Ai) hS2 AJ (v:=Ab false) GV ?_;refine Bm 17 72 AJ rfl rfl (EQ rfl Ai) hS2 AJ GV ?_;refine Xh 18 73 AJ rfl rfl rfl rfl (enters_of func38 AJ rfl) (EP 190 _) AJ ?_;rintro e w12 ⟨rfl,rfl⟩;refine .inr ⟨_,rfl,?_⟩;refine JN.o _ _ _ ?_ hS2 HN.o;kernel_rfl
    have hkt:((kn:Int)==(x:Int)+4+1)=true:=by rw [hkl];simp
    refine Bm 16 71 AJ rfl rfl (EQ rfl Ai) hS2 AJ (v:=Ab true) GV ?_;refine Bm 17 72 AJ rfl rfl (EQ rfl Ai) hS2 AJ GV ?_;refine Xh 18 73 AJ rfl rfl rfl rfl (enters_of func38 AJ rfl) (Ew 190 _) AJ ?_;rintro e w12 ⟨⟨v,rfl⟩,rfl⟩;refine .inl ⟨_,rfl,hS2,?_⟩;refine Ed AJ ?_ _;simp only [CZ,Ch];have HS2:=AF hS2;clear hS hS2 MY;go_upto_region 7 with fail;have hS3:=HS2.o.drew;have hrl:res=JG Aw r.root (r.places*((x:Int)+4+1)) (Gt Aw (q.place*((x:Int)+4+1)) ((x:Int)+4) q.schema q.holder (upto x) q.values (upto 4) q.links) q.claims:=by have hok:Kq (Ba ns r.schema) (val r.schema) r q=true:=Fk.2 ⟨⟨⟨zh.o,H12.o,Vn.o⟩,⟨h1,h2⟩,by rw [JI.o];exact hac⟩,HL.o.len.symm,by rw [JI.o];show _=x+5;have:=J6.o.len;omega⟩;rw [Hb.o,DZ,Ah AZ,Ak hok,JI.o];rfl
    have T8:=AF hrl;have hvl:q.values.length=x:=by have h:=hac;rw [Dx,Bb] at h;exact F4 h.1
    have Yr:AI (∀W,AK w4 W->(Instr.loadAt 46 (AU (some ⟨w.heap.size+1+1,0,none⟩))).run prog W=.ok (.agg Y) W/\(Instr.loadAt 36 (AU (some ⟨w.heap.size+1,0,none⟩))).run prog W=.ok (.agg RR) W):=AF (fun W hW=>by obtain ⟨b1,b2,_⟩:=HE.o W hW;exact ⟨by simp only [Instr.loadAt,Instr.sureAddr,Cp,DL,Result.andThen_ok,NL W _ 46 46 Y (0,0) _ b2 underlying46 rfl Yf.o],by simp only [Instr.loadAt,Instr.sureAddr,Cp,DL,Result.andThen_ok,NL W _ 36 36 RR (0,0) _ b1 underlying36 rfl MN.o]⟩)
    refine Pe (fun W=>AK w4 W) 5 _ Fs AJ rfl ?_;refine Bm 0 74 AJ rfl rfl (EQ rfl Ai) hS3 AJ nY ?_;refine Bm 1 75 AJ rfl rfl (EQ rfl Ai) hS3 AJ (v:=.agg Y) (fun W hW=>Cv rfl AJ (Yr.o W hW).1) ?_;refine Bm 3 77 AJ rfl rfl (EQ rfl Ai) hS3 AJ (v:=.agg RR) (fun W hW=>Cv rfl AJ (Yr.o W hW).2) ?_;refine Wm 2 76 AJ rfl rfl rfl rfl (enters_of func40 AJ rfl) (fH.o k x _ (AV Cf.o hS3) HX.o AG lX.o) AJ ?_;rintro e EH ⟨F,L,rfl,hF,hL,S4⟩;have hS4:AK w4 EH:=AV hS3 S4;have Ni:AK w EH:=AV Cf.o hS4;refine ⟨_,rfl,hS4,?_⟩;obtain ⟨FA,fc,rfl⟩:=hF.form;obtain ⟨MA,mc,rfl⟩:=hL.form;have PK:=WU ⟨q.Ar,q.round,q.schema,q.place,q.holder,AA FA (upto x).length fc,AA VA vn vc,0,zeros 32,AA KA kn kc,AA MA (upto 4).length mc,AA LA 4 lc,(x:Int)+4+1,(x:Int)+4⟩ FA VA MA LA KA _ fc vn vc _ mc 4 lc kn kc (upto x) q.values (upto 4) q.links q.claims r EH rfl rfl rfl rfl rfl hF (HV.o.mono BT Ni) hL (HL.o.mono BO Ni) (J6.o.mono Bc Ni)
     TP.o rfl WY.o (by rw [IX,HV.o.len,hvl];exact Ac _) tY (by rw [IX,IX];omega) nX
     gY cz cx (Vz AG) (Vz AG) AG (I7.o.below Ni)
    rw [<-HRR.o] at PK;refine Xh 4 78 AJ rfl rfl rfl rfl (enters_of func41 AJ rfl) PK AJ ?_;rintro e If ⟨hR,QK⟩;have hS5:AK w4 If:=AV hS4 QK;rcases hR with ⟨h0,v,rfl⟩ | ⟨hne,rfl⟩
    ·refine .inl ⟨_,rfl,hS5,?_⟩
     refine Ed AJ ?_ _;simp only [CZ,Ch];have k:=(HE.o _ hS5).2.2;have e0:=k.cell 0;have f0:=k.frozen 0;have l0:=k.lt;obtain ⟨K,Vm,HR0⟩:=BB k hS5 (hrl.trans h0);simp only [Aj,Ao] at e0;clear hS3 hS4 hS5 S4 QK hF hL PK Ni k h0 hrl;go_wp2_with fail;refine AG8 (e:=0) ?_ ((K.o.put 0 (AB AE 0)).cell 0) ⟨by rw [HR0.o],(AV Cf.o Vm.o).setCell uK _⟩;rfl
    exact nu
 have hcf:(ck==0)=false:=by simpa using hck
 have HN:AI (res=160):=AF (Hb.o.trans (by rw [DZ,Ak hck]));go_wp2_with (first
  | (
   go_at_call 23;refine (Lh.o _ Cf.o).mono ?_;rintro e w5 ⟨rfl,hb5⟩;have Cg:=AF hb5;clear hb5)
  | (go_at_call 38;refine (EP 160 _).mono ?_;rintro e w6 ⟨rfl,rfl⟩))
 (refine JN.o _ _ _ ?_ Cg.o HN.o;rfl)
attribute [local go_sem] Oper.semAt_some
theorem AE8 {P:BE} {f:FuncId} (h:(P.funcs[f]?.any fun fn=> !(fn.name== "runtime.NumGoroutine") && fn.body.isSome)=true):Enters P f:=by rw [Option.any_eq_true] at h;obtain ⟨fn,hf,h⟩:=h;rw [Bb] at h;obtain ⟨c,hc⟩:=fY.1 h.2;exact enters_of hf (by simpa using h.1) hc
theorem WJ {P:BE} {fn:Func} {t t':Array AN} {R:Ending->AH->Prop} (h:results fn t=results fn t'):∀(ds:List Deferred) (u:FrameMode) (w:AH),Leaves P fn t R ds u w->Leaves P fn t' R ds u w
 | [],.returning,_,⟨v,hv,hr⟩=>⟨v,h ▸ hv,hr⟩
 | [],.panicking _,_,hr=>hr
 | [],.run,_,hr=>hr.elim
 |
  _::ds,_,_,⟨hu,fv,cap,f,args,h1,h2,hc⟩=>⟨hu,fv,cap,f,args,h1,h2,hc.mono fun e u' w' hh=>by
  cases e with
  | returned v=>exact WJ h ds _ _ hh
  | panicked c=>exact WJ h ds _ _ hh
  | outgrown=>exact hh⟩
theorem mg {P:BE} {fn:Func} {R:Ending->AH->Prop} {d p p':Nat} {ty ty':Ae} (hr:fn.results=#[.cell p ty,.cell p' ty']) (hd:d≠p) (hd':d≠p'):∀c (a:Act) v w,bodyPostD P fn R (.panic c) (a.put (some d) v) w->bodyPostD P fn R (.panic c) a w:=fun c a v w h=>by
 refine WJ (t:=(a.put (some d) v).tmps) ?_ _ _ _ h;have e:(a.tmps.setIfInBounds d v)[p]?.getD undef=a.tmps[p]?.getD undef:=by rw [R9,Ah hd]
 have e':(a.tmps.setIfInBounds d v)[p']?.getD undef=a.tmps[p']?.getD undef:=by rw [R9,Ah hd']
 simp [results,hr,Act.put,e,e']
theorem mr {P:BE} {fn:Func} {R:Ending->AH->Prop} {d p:Nat} {ty:Ae} (hr:fn.results=#[.cell p ty]) (hd:d≠p):∀c (a:Act) v w,bodyPostD P fn R (.panic c) (a.put (some d) v) w->bodyPostD P fn R (.panic c) a w:=fun c a v w h=>by
 refine WJ (t:=(a.put (some d) v).tmps) ?_ _ _ _ h;exact AAV
section
variable {P:BE} {md:Region.Mode} {ops:Array Oper} {Q:Exit->Act->AH->Prop} {S:AH->Prop} {fuel:Nat} {listed:Array Bool} {l:List AN} {D:List Deferred} {w:AH}
theorem qT (i d:Nat) (hS:S w) {oi:Oper} {v:AN} (h:wpAnyH P md ops Q S fuel (listed.setIfInBounds i true) ⟨(l.set d v).toArray,D⟩ w)
 (hB:Xg md ops listed i=true:=by kernel_rfl) (hi:ops[i]? =some oi:=by rfl) (hd:oi.dst=some d:=by rfl) (hQ:∀c (a:Act) v w,Q (.panic c) (a.put (some d) v) w->Q (.panic c) a w:=by first | exact mg rfl Ai Ai | exact mr rfl Ai | exact fun _ _ _ _ h=>h | exact fun _ _ _ _ h=>by cases h.1)
 (hw:Region.wanted oi (yielded ops l.toArray)=true:=by kernel_rfl) (hv:∀w,S w->(execOp (Act.eval ⟨l.toArray,D⟩) oi).run P w=.ok (.value v) w:=by intro W hW;have f:=TK W hW;(go_simp) <;> rfl):
 wpAnyH P md ops Q S (fuel+1) listed ⟨l.toArray,D⟩ w:=by
 exact AAZ
theorem qM (i d t:Nat) (hS:S w) {oi:Oper} {v:AN} (h:wpAnyH P md ops Q S fuel (listed.setIfInBounds i true) ⟨(l.set d v).toArray,D⟩ w)
 (hv:l[t]? =some v:=by rfl) (hB:Xg md ops listed i=true:=by kernel_rfl) (hi:ops[i]? =some oi:=by rfl) (hd:oi.dst=some d:=by rfl) (hQ:∀c (a:Act) v w,Q (.panic c) (a.put (some d) v) w->Q (.panic c) a w:=by first | exact mg rfl Ai Ai | exact mr rfl Ai | exact fun _ _ _ _ h=>h | exact fun _ _ _ _ h=>by cases h.1)
 (hw:Region.wanted oi (yielded ops l.toArray)=true:=by kernel_rfl) (ho:oi.op=.move (AX t)\/oi.op=.assign (AX t):=by first | exact .inl rfl | exact .inr rfl):
 wpAnyH P md ops Q S (fuel+1) listed ⟨l.toArray,D⟩ w:=by
 refine qT i d hS h hB hi hd hQ hw (fun W _=> ?_);exact nN
theorem qF (i d:Nat) {o:Oper} {f:FuncId} {xs:Array Operand} {ts:Array Ae} {args:Array AN} {R:Ending->AH->Prop} (hc:AS P f args w R)
 (h:∀e w',R e w'->∃v,e=AW v/\S w'/\wpAnyH P md ops Q S fuel (listed.setIfInBounds i true) ⟨(l.set d v).toArray,D⟩ w')
 (hr:Region.ready md ops listed=[i]:=by kernel_rfl) (hi:ops[i]? =some o:=by rfl) (hd:o.dst=some d:=by rfl) (hw:Region.wanted o (yielded ops l.toArray)=true:=by kernel_rfl)
 (ho:o.op=.call {callee:=.value (.func f),args:=xs,argTypes:=ts}:=by rfl) (he:Enters P f:=by exact AE8 AJ) (ha:xs.toList.map (Act.eval ⟨l.toArray,D⟩)=args.toList:=by kernel_rfl):
 wpAnyH P md ops Q S (fuel+1) listed ⟨l.toArray,D⟩ w:=ADJ i d hr hi hd hw ho he hc ha h
theorem qS (i:Nat) {o:Oper} (ty:Ae) (a b:Nat) {p v:AN} {w':AH} (h:(Instr.storeAt ty p v).run P w=.ok () w') (hS:S w') (hk:wpAnyH P md ops Q S fuel (listed.setIfInBounds i true) ⟨l.toArray,D⟩ w')
 (hx:l[a]? =some p:=by kernel_rfl) (hy:l[b]? =some v:=by kernel_rfl) (hr:Region.ready md ops listed=[i]:=by kernel_rfl) (hi:ops[i]? =some o:=by rfl) (hd:o.dst=none:=by rfl) (hg:o.guard=none:=by rfl) (ho:o.op=.store ty (AX a) (AX b):=by rfl):
 wpAnyH P md ops Q S (fuel+1) listed ⟨l.toArray,D⟩ w:=Xf i ty a b p v hr hi hd hg ho hx hy h hS hk
end
section
variable {w w' w0 A C W:AH} {S:List Nat}
theorem JL {base:Nat} {e:Ae} {sz:Nat} {v:AN} {n:Nat} {cs:List AN} (h:w.ownsRow base e sz v n cs) (hb:∀g,base<=g->g < w.heap.size->W.heap[g]? =w.heap[g]?):W.ownsRow base e sz v n cs:=by
 refine ⟨h.1,?_⟩;rcases h.2 with h | ⟨g,cap,cur,h1,h2,h3,h4⟩
 · exact .inl h
 · exact .inr ⟨g,cap,cur,h1,h2,(hb g h2 (DF.1 h3).1).trans h3,h4⟩
def Qg {α:Type} (R:AH->List AN->α->Prop):Prop:=∀w W cs x,w.heap.size<=W.heap.size->(∀a v,w.cell? a=some v->W.cell? a=some v)->R w cs x->R W cs x
theorem Ag.PT {α:Type} {sz:Nat} {R:AH->List AN->α->Prop} (hR:Qg R) {v:AN} {l:List α} (h:Ag sz R w v l) (hs:w.heap.size<=W.heap.size) (hc:∀a v,w.cell? a=some v->W.cell? a=some v):Ag sz R W v l:=by obtain ⟨A,cap,e,h1,h2,h3⟩:=h;refine ⟨A,cap,e,h1,h2,fun i x hi=> ?_⟩;obtain ⟨b,off,cs,rfl,hlt,hl,hcc,hr⟩:=h3 i x hi;exact ⟨b,off,cs,rfl,Av hlt hs,hl,fun j u hu=>hc _ _ (hcc j u hu),hR _ _ _ _ hs hc hr⟩
theorem Rr:Qg CP:=fun _ _ _ _ _ _ h=>h
theorem JY:Qg Cy:=fun w W cs q hs hc h=>by obtain ⟨A,n,c,B,m,d,e,h1,h2⟩:=h;exact ⟨A,n,c,B,m,d,e,h1.PT Rr hs hc,h2.PT Rr hs hc⟩
theorem YV {k:Nat} (b:Book k A C) {a:Aa} {v:AN} (h:A.cell? a=some v):C.cell? a=some v:=by
 by_cases hc:∃cs t fz,A.heap[a.block]? =some (Obj.cells cs t fz)
 ·obtain ⟨cs,t,fz,hc⟩:=hc
  rw [<-h];unfold World.cell?;rw [b.cells _ _ _ _ hc]
 exfalso;cases ho:A.heap[a.block]? with
 | none=>simp [World.cell?,ho] at h
 |
  some o=>
  cases o with
  | cells cs t fz=>exact hc ⟨cs,t,fz,ho⟩
  | _=>simp [World.cell?,ho] at h
theorem jX {k:Nat} (b:Book k A C) {a:Aa} {v:AN} (h:(veil S A).cell? a=some v):(veil S C).cell? a=some v:=by
 by_cases hb:a.block∈S
 ·exfalso
  by_cases hs:a.block < A.heap.size
  · simp [World.cell?,Sd (w:=A) hb hs] at h
  have:(veil S A).heap[a.block]? =none:=by rw [NM];rw [EM];omega
  simp [World.cell?,this] at h
 rw [Ke (Iy hb)] at h ⊢;exact YV b h
theorem tO {α:Type} {sz k:Nat} {R:AH->List AN->α->Prop} {cs:List AN} {l:List α} (hR:Qg R) (h:Ap sz R (veil S A) cs l) (b:Book k A C):Ap sz R (veil S C) cs l:=
 ⟨h.1,fun i x hi=>hR _ _ _ _ (by rw [EM,EM];exact b.size) (fun _ _ hv=>jX b hv) (h.2 i x hi)⟩
theorem KX.grown {n e g:Nat} {row:Option Nat} (hg:A.grownBy C row) (hn:n<=A.heap.size) (hr:∀b,b < n->some b≠row) (hgn:g < n) (h0:0 < n):KX n e g A C:=
 ⟨hg.size,fun b h1 _=>hg.block b AG (hr b h1),hg.block g AG (hr g hgn),fun t=>Mr (hg.block 0 AG (hr 0 h0)) hg.size t⟩
theorem Ag.kx {α:Type} {sz n e g B:Nat} {R:AH->List AN->α->Prop} (hR:∀w w' cs x,R w cs x->R w' cs x) {v:AN} {l:List α} (h:Ag sz R A v l) (hN:NewAt B v) (he:e < B) (hn:A.heap.size<=n) (k:KX n e g A C):Ag sz R C v l:=by obtain ⟨D,cap,rfl,h1,h2,h3⟩:=h;refine ⟨D,cap,rfl,h1,h2,fun i x hi=> ?_⟩;obtain ⟨b,off,cs,rfl,hlt,hl,hc,hr⟩:=h3 i x hi;have hb:=hN b rfl;exact ⟨b,off,cs,rfl,Av hlt k.size,hl,fun j u hu=>(Ke (k.same b AG AG)).trans (hc j u hu),hR _ _ _ _ hr⟩
theorem au {S2:List Nat} (hs:∀b∈S2,b∈S) {a:Aa} {v:AN} (h:(veil S w).cell? a=some v):(veil S2 w).cell? a=some v:=by
 by_cases hb:a.block∈S
 ·exfalso
  by_cases hs:a.block < w.heap.size
  · simp [World.cell?,Sd (w:=w) hb hs] at h
  have:(veil S w).heap[a.block]? =none:=by rw [NM];rw [EM];omega
  simp [World.cell?,this] at h
 rw [Ke (Iy hb)] at h;rw [Ke (Iy (fun hm=>hb (hs _ hm)))];exact h
abbrev Vy (b:Nat) (w:AH):AH:=veil (List.range b) w
theorem Ag.AF0 {α:Type} {sz B:Nat} {R:AH->List AN->α->Prop} (hR:∀w w' cs x,R w cs x->R w' cs x) {v:AN} {l:List α} (h:Ag sz R w v l) (hN:NewAt B v) (hb:∀b∈S,b < B):Ag sz R (veil S w) v l:=by obtain ⟨D,cap,rfl,h1,h2,h3⟩:=h;refine ⟨D,cap,rfl,h1,h2,fun i x hi=> ?_⟩;obtain ⟨g,off,cs,rfl,hlt,hl,hc,hr⟩:=h3 i x hi;have hg:=hN g rfl;exact ⟨g,off,cs,rfl,by rw [EM];exact hlt,hl,fun j u hu=>(Ke (Iy (fun hm=>by have hm:g < B:=hb g hm;omega))).trans (hc j u hu),hR _ _ _ _ hr⟩
theorem Ag.AF1 {α:Type} {sz B b:Nat} {R:AH->List AN->α->Prop} (hR:∀w w' cs x,R w cs x->R w' cs x) {v:AN} {l:List α} (h:Ag sz R w v l) (hN:NewAt B v) (hb:b<=B):Ag sz R (Vy b w) v l:=
 h.AF0 hR hN (fun _ hx=>Av (Eu.1 hx) hb)
theorem Ag.wP {α:Type} {sz B b g:Nat} {R:AH->List AN->α->Prop} (hR:Ep R) (hC:Qg R) {v:AN} {l:List α} (h:Ag sz R (Vy B w) v l) (hg:w.grownBy w' (some g)) (hgB:g < B) (hb:b<=B):Ag sz R (Vy b w') v l:=
 (h.mono hR (Ik (S':=List.range B) hg (fun r er _=>by injection er with er;rw [<-er,Eu];exact hgB) (fun _ _=>Iff.rfl))).PT hC gp (fun _ _=>au (fun x hx=>by rw [Eu] at hx ⊢;omega))
theorem eF:Qg Bt:=fun _ _ _ _ _ _ h=>h
theorem Tk {base:Nat} {e:Ae} {sz:Nat} {v:AN} {n:Nat} {cs:List AN} (h:w.ownsRow base e sz v n cs):NewAt base v:=fun r hr=>(h.lt r hr).1
theorem ADj {s:JS} {X:Array AN} (h:X=JW s) (W:AH):AS prog 57 #[.agg X] W fun e w'=>e=AW (.func (.func 81) #[] #[AU (some ⟨W.heap.size,0,none⟩)])/\w'=W.alloc (AO X 96):=by rw [h];exact Xx s W
theorem ABE {P:BE} {f:FuncId} {c:Code} {Q:Exit->Act->AH->Prop} {l:List AN} {D:List Deferred} {W:AH} (h:∀L,L=l->Sb f P c Q ⟨L.toArray,D⟩ W):Sb f P c Q ⟨l.toArray,D⟩ W:=h l rfl
theorem AKJ {w5:AH} {o:Obj} {x y z:AN} {t:Ae}:∀(j:Nat) (u:AN),[x,y,z][j]? =some u->((w5.alloc o).alloc (AO #[x,y,z] t)).cell? ((Addr.mk (w5.heap.size+1) 0 none).add j)=some u:=fun j u hu=>by
 have h:=AY.new (w5.alloc o) t #[x,y,z];rw [Ev] at h;have e:(Addr.mk (w5.heap.size+1) 0 none).add j=⟨w5.heap.size+1,j,none⟩:=by
  unfold Addr.add;split
  · subst_vars;rfl
  · simp
 rw [e,h.cell];simpa using hu
theorem mZ (i:Int) (A1 A2:Option Aa) (n1 c1 n2 c2:Nat):∀u∈[Value.int .i64 i,AA A1 n1 c1,AA A2 n2 c2],u.oneCell'=true:=fun u hu=>by simp only [B0,DX,DW] at hu;rcases hu with rfl | rfl | rfl <;> rfl
theorem WK:∃(j:TypeInfo) (z:AN),prog.info? 71=some j/\j.zero=some z/\z.cells.size=3/\j.size=3/\j.bytes=56:=by obtain ⟨j,hj,hz⟩:=EC.1 (show (prog.info? 71).map (fun i=>(i.zero.map (·.cells.size),i.size,i.bytes))=some (some 3,3,56) by kernel_rfl);simp only [Gd] at hz;obtain ⟨z,hz0,hz1⟩:=EC.1 hz.1;exact ⟨j,z,hj,hz0,hz1,hz.2⟩
structure J9 {α:Type} (L:Nat) (T:Ae) (sz:Nat) (R:AH->List AN->α->Prop) (e:Nat) (v:AN) (l:List α) (w:AH) (cs:List AN) (S:List Nat):Prop where
 own:w.ownsRow L T sz v l.length cs
 hid:∀r,v.ownBlock=some r->r∈S
 lt:∀b∈S,b < w.heap.size
 box:e∈S
 els:Ap sz R (veil S w) cs l
variable {α:Type} {L:Nat} {T:Ae} {sz e:Nat} {R:AH->List AN->α->Prop} {v:AN} {l:List α} {cs:List AN}
theorem J9.below (h:J9 L T sz R e v l w cs S) (hR:Ep R) (hb:AK w w'):J9 L T sz R e v l w' cs S:=
 ⟨Eh h.own hb,h.hid,fun b hm=>Av (h.lt b hm) hb.size,h.box,h.els.mono hR (Ox hb)⟩
theorem J9.book {k:Nat} (h:J9 L T sz R e v l A cs S) (hR:Qg R) (b:Book k A C):J9 L T sz R e v l C cs S:=
 ⟨pG h.own b,h.hid,fun x hm=>Av (h.lt x hm) b.size,h.box,tO hR h.els b⟩
theorem J9.V7 (h:J9 L T sz R e v l w cs S) (hR:Ep R) (he:e < L) (o:Nat) (u:AN):J9 L T sz R e v l (w.setCell ⟨e,o,none⟩ u) cs S:=by
 refine ⟨FO h.own (a:=⟨e,o,none⟩) he u,h.hid,fun b hm=> ?_,h.box,?_⟩
 ·rw [R4]
  exact h.lt b hm
 have hg:w.grownBy (w.setCell ⟨e,o,none⟩ u) (some e):=⟨rfl,rfl,rfl,by simp [World.setCell],fun k hk hne=>C5 w _ u k (fun x=>hne (by rw [x]))⟩;refine h.els.mono hR (Ik hg (fun r er _=> ?_) (fun _ _=>Iff.rfl));injection er with er;rw [<-er];exact h.box
theorem J9.push (h:J9 L T sz R e v l w cs S) (hR:Ep R) {v':AN} {news:List AN} {x:α} {n:Nat}
 (hown:w'.ownsRow L T sz v' n (cs++news)) (hn:n=(l++[x]).length) (hg:w.grownBy w' v.ownBlock) (hat:v'.ownBlock=v.ownBlock\/v'.ownBlock=some w.heap.size) (hnl:news.length=sz) (hx:R (veil S w) news x):∃S',(∀b,b < w.heap.size->(b∈S'↔b∈S))/\J9 L T sz R e v' (l++[x]) w' (cs++news) S':=by
 have hlt:∀r,v'.ownBlock=some r->r < w'.heap.size:=fun r e=>(hown.lt r e).2;subst hn;rcases hat with hat | hat
 ·refine ⟨S,fun _ _=>Iff.rfl,hown,fun r e=>h.hid r (by rw [<-hat];exact e),fun b hm=>Av (h.lt b hm) hg.size,h.box,?_⟩
  have hb:=Ik (S:=S) (S':=S) hg (fun r e _=>h.hid r e) (fun _ _=>Iff.rfl);exact AA3
 refine ⟨w.heap.size::S,fun b hlt=>by rw [B0];exact ⟨fun h=>h.resolve_left AG,.inr⟩,hown,fun r e=>by rw [hat] at e;injection e with e;simp [e],fun b hm=> ?_,NI _ h.box,?_⟩
 ·rcases B0.1 hm with rfl | hm
  · exact hlt _ hat
  · exact Av (h.lt b hm) hg.size
 have hb:=Ik (S:=S) (S':=w.heap.size::S) hg (fun r e _=>h.hid r e) (fun b hlt=>by rw [B0];exact ⟨fun h=>h.resolve_left AG,.inr⟩)
 exact AA3
theorem J9.other {row:Option Nat} {S':List Nat} (h:J9 L T sz R e v l w cs S) (hR:Ep R) (hg:w.grownBy w' row) (hr:∀r,row=some r->r∈S) (hS:∀b,b < w.heap.size->(b∈S'↔b∈S)) (hlt:∀b∈S',b < w'.heap.size) (hne:∀r,v.ownBlock=some r->row≠some r):J9 L T sz R e v l w' cs S':=
 ⟨h.own.kept hg (by cases hv:v.ownBlock with | none=>exact .inl rfl | some r=>exact .inr (fun e=>hne r hv e.symm)),fun r e=>(hS r (h.own.lt r e).2).2 (h.hid r e),hlt,(hS e (h.lt e h.box)).2 h.box,h.els.mono hR (Ik hg (fun r e _=>hr r e) hS)⟩
theorem qf (s:UH) (hh:s.holder.length=32) (v:AN):(Fo s).setIfInBounds 38 v=Fo {s with claims:=v}:=by
 obtain ⟨i,r,s,p,h,u,k,_⟩:=s
 dsimp only at hh
 rw [PD hh];kernel_rfl
structure Yc (n0 g:Nat) (ms:List (Int×AQ)) (sg:Int×AQ->Cn) (q:UH) (w W0:AH) (pre:List (Int×AQ)) (W:AH):Prop where
 pC:pre=ms.take pre.length
 le:pre.length<=ms.length
 kx:KX n0 (w.heap.size+1+1+1+1+1+1) g W0 W
 old:AK w W
 row:∃A c cs S,(∀b,b < w.heap.size->b∈S)/\AY W (w.heap.size+1+1+1+1+1+1) 46 (Fo {q with claims:=AA A pre.length c})/\J9 n0 71 3 Cy (w.heap.size+1+1+1+1+1+1) (AA A pre.length c) (pre.map sg) W cs S
section
variable {n0 g:Nat} {ms:List (Int×AQ)} {sg:Int×AQ->Cn} {q:UH} {W0:AH} {pre:List (Int×AQ)}
theorem Yc.below (h:Yc n0 g ms sg q w W0 pre A) (hn:n0<=W0.heap.size) (hg:g < n0) (t:AK A C):Yc n0 g ms sg q w W0 pre C:=by obtain ⟨B,c,cs,S,h0',h1,h2⟩:=h.row;have hs:=h.kx.size;exact ⟨h.pC,h.le,h.kx.below t AG AG,AV h.old t,B,c,cs,S,h0',h1.below t h1.lt,h2.below Bc t⟩
theorem Yc.book {k:Nat} (h:Yc n0 g ms sg q w W0 pre A) (b:Book k A C) (hn:n0<=k) (hg:g < n0) (h0:0 < n0) (hk:w.heap.size<=k):Yc n0 g ms sg q w W0 pre C:=by obtain ⟨B,c,cs,S,h0',h1,h2⟩:=h.row;exact ⟨h.pC,h.le,h.kx.book b hn AG AG,Below.book h.old b hk,B,c,cs,S,h0',GU h1 b,h2.book JY b⟩
theorem AJu {w6 w7:AH} {e:Nat} {v v':AN} {n:Nat} {cs:List AN} (h0:w6.ownsRow n0 71 3 v n cs) (Ec:w6.grownBy w7 v.ownBlock) (hn:n0<=w6.heap.size) (hg:g < n0) (hz:0 < n0) (he:e≠g) (he0:e≠0) (o:Nat):KX n0 e g w6 (w7.setCell ⟨e,o,none⟩ v'):=
 (KX.grown Ec hn (fun _ hb=>Dj h0 hb) hg hz).V7 o v' he he0
theorem Yc.push {w6 w7:AH} {y:Int×AQ} {RA:Option Aa} {rc:Nat} {cs news:List AN} {S:List Nat} {v':AN} (h:Yc n0 g ms sg q w W0 pre W) (hG:GM ms pre y) (ph:q.holder.length=32) (hk:KX n0 (w.heap.size+1+1+1+1+1+1) g W w6) (hb:AK w w6)
 (hS:∀b,b < w.heap.size->b∈S) (hE:AY w6 (w.heap.size+1+1+1+1+1+1) 46 (Fo {q with claims:=AA RA pre.length rc})) (hR:J9 n0 71 3 Cy (w.heap.size+1+1+1+1+1+1) (AA RA pre.length rc) (pre.map sg) w6 cs S) (hn:n0<=w6.heap.size) (hg:g < n0) (he:w.heap.size+1+1+1+1+1+1 < g)
 (Gh:w7.ownsRow n0 71 3 v' (pre.length+1) (cs++news)) (Ec:w6.grownBy w7 (Value.slice RA pre.length rc).ownBlock) (hat:v'.ownBlock=(Value.slice RA pre.length rc).ownBlock\/v'.ownBlock=some w6.heap.size) (hnl:news.length=3) (hx:Cy (veil S w6) news (sg y)):
 KX n0 (w.heap.size+1+1+1+1+1+1) g W (w7.setCell ⟨w.heap.size+1+1+1+1+1+1,38,none⟩ v')/\Yc n0 g ms sg q w W0 (pre++[y]) (w7.setCell ⟨w.heap.size+1+1+1+1+1+1,38,none⟩ v'):=by
 have hl:(pre++[y]).length=pre.length+1:=AZ
 have hlt:=(BF.1 hG.2).1;have hk2:=hk.trans (AJu (v':=v') (e:=w.heap.size+1+1+1+1+1+1) hR.own Ec hn hg AG AG AG 38);have hm:(pre++[y]).map sg=pre.map sg++[sg y]:=AZ
 obtain ⟨S',hsub,hR7⟩:=hR.push Bc Gh AZ Ec hat hnl hx;obtain ⟨A',c',rfl⟩:=CG Gh;have hE7:=hE.grown Ec (Dj hR.own AG);refine ⟨hk2,?_,by omega,h.kx.trans hk2,?_,A',c',cs++news,S',fun b hb'=>(hsub b (Av hb' hb.size)).2 (hS b hb'),?_,?_⟩
 · rw [hl,<-(Va hG.2).2,<-hG.1]
 · exact (hb.grown Ec hb.size (fun r hr=>by have:=(hR.own.lt r hr).1;omega)).setCell (by show w.heap.size<=w.heap.size+1+1+1+1+1+1;omega) _
 ·have hp:=hE7.put 38 (AA A' (pre.length+1) c')
  rw [qf {q with claims:=AA RA pre.length rc} ph] at hp;rw [hl];exact hp
 rw [hl,hm];exact hR7.V7 Bc AG 38 _
theorem ADn {w5 w6:AH} {S:List Nat} {k:Cn} {A1 A2:Option Aa} {c1 c2:Nat} {cs1 cs2:List AN} (hS:∀b∈S,b < W.heap.size) (h1:w5.ownsRow W.heap.size 34 32 (AA A1 k.chains.length c1) k.chains.length cs1) (h2:Ap 32 CP w5 cs1 k.chains) (h3:w5.ownsRow W.heap.size 34 32 (AA A2 k.path.length c2) k.path.length cs2) (h4:Ap 32 CP w5 cs2 k.path) (hb:AK w5 w6):
 Cy (veil S w6) [AB AE k.index,AA A1 k.chains.length c1,AA A2 k.path.length c2] k:=
 ⟨A1,_,c1,A2,_,c2,rfl,(B9 (Sc h1 hS) (JF h2) rfl).mono BO (Ox hb),(B9 (Sc h3 hS) (JF h4) rfl).mono BO (Ox hb)⟩
end
end
section
variable {P:BE} {ops:Array Oper} {Q:Exit->Act->AH->Prop} {md:Region.Mode} {S:AH->Prop} {D:List Nat}
def Ez (P:BE) (md:Region.Mode) (ops:Array Oper) (Q:Exit->Act->AH->Prop) (S:AH->Prop) (D:List Nat):Nat->Array Bool->Act->AH->Prop
 | 0,listed,a,w=>Region.ready md ops listed=[]/\Q .normal a w
 |
  fuel+1,listed,a,w=>
  (Region.ready md ops listed=[]->Q .normal a w)/\
  ∀i∈Region.ready md ops listed,wpOp P ops Q i (fun a' w'=>(i∈D\/(S w->S w'))/\Ez P md ops Q S D fuel (listed.setIfInBounds i true) a' w') a w
theorem Wg:∀(fuel:Nat) (listed:Array Bool) (a:Act) (w:AH),Ez P md ops Q S D fuel listed a w->wpAny P md ops Q fuel listed a w
 | 0,_,_,_,h=>h
 | fuel+1,_,_,_,h=>⟨h.1,fun i hi=>wpOp_mono (fun a' w' h'=>Wg fuel _ a' w' h'.2) (h.2 i hi)⟩
theorem dH {i:Nat} {oi:Oper} {v:AN} (hi:ops[i]? =some oi) (hsel:∀(j:Nat) (o:Oper) cs b,ops[j]? =some o->o.op≠.select cs b)
 (hQ:∀c a w,Q (.panic c) (a.put oi.dst v) w->Q (.panic c) a w) (hD:∀d∈D,∃od,ops[d]? =some od/\∃e∈od.after,Region.binds md e=true/\e.on=i):
 ∀(fuel:Nat) (listed:Array Bool) (a:Act) (w:AH),
  (∀j oj,ops[j]? =some oj->j≠i->listed.getD j true=false->(∀e∈oj.after,Region.binds md e=true->e.on≠i)->oi.apart ops oj=true)->
  i∈Region.ready md ops listed->YieldsIf P ops S oi v a->S w->
  Ez P md ops Q S D fuel (listed.setIfInBounds i true) (a.put oi.dst v) w->Ez P md ops Q S D (fuel+1) listed a w:=by
 intro fuel
 induction fuel with
 |
  zero=>
  intro listed a w _ hr hy hS H;refine ⟨fun h=>Qk,fun j hj=> ?_⟩;by_cases hji:j=i
  · subst hji;exact hy.wpOp hi hS ⟨.inr id,H⟩
  ·have:=KU hj hji
   rw [H.1] at this;cases this
 |
  succ fuel ih=>
  intro listed a w hfree hr hy hS H;refine ⟨fun h=>Qk,fun j hj=> ?_⟩;by_cases hji:j=i
  · subst hji;exact hy.wpOp hi hS ⟨.inr id,H⟩
  have h1:=H.2 j (KU hj hji);obtain ⟨hjun,oj,hoj,hall⟩:=Jb.1 hj;have hnot:∀e∈oj.after,Region.binds md e=true->e.on≠i:=fun e he hb heq=>by
   exact AAc
  have hjD:j∉D:=fun hd=>by obtain ⟨od,hod,e,he,hb,heq⟩:=hD j hd;rw [hoj,Bz] at hod;subst hod;exact hnot e he hb heq
  have h2:=wpOp_putIf hoj (hfree j oj hoj hji hjun hnot) (fun cs b=>hsel i oi cs b hi) (fun cs b=>hsel j oj cs b hoj) hQ hy h1;have hfree':∀k ok,ops[k]? =some ok->k≠i->(listed.setIfInBounds j true).getD k true=false->
   (∀e∈ok.after,Region.binds md e=true->e.on≠i)->oi.apart ops ok=true:=fun k ok hk hki hun hno=>by
   exact nM
  refine wpOp_mono (fun a' w' h3=>⟨h3.2.1,ih (listed.setIfInBounds j true) a' w' hfree' (KU hr (Ne.symm hji)) h3.1 (h3.2.1.resolve_left hjD hS) ?_⟩) h2;rw [ZQ _ _ hji];exact h3.2.2
theorem iF {i:Nat} {oi:Oper} {v:AN} {fuel:Nat} {listed:Array Bool} {a:Act} {w:AH} (hi:ops[i]? =some oi)
 (hs:Region.noSelect ops=true) (hf:Region.free md ops listed i=true) (hr:(Region.ready md ops listed).contains i=true) (hD:D.all (fun d=>Region.waitsFor md ops d i)=true)
 (hQ:∀c a w,Q (.panic c) (a.put oi.dst v) w->Q (.panic c) a w) (hy:YieldsIf P ops S oi v a) (hS:S w)
 (h:Ez P md ops Q S D fuel (listed.setIfInBounds i true) (a.put oi.dst v) w):Ez P md ops Q S D (fuel+1) listed a w:=
 dH hi (ZM hs) hQ (fun d hd=>Region.waitsFor_spec (DM.1 hD d hd)) fuel listed a w (ZD hi hf) (by simpa using hr) hy hS h
theorem N4 {i:Nat} {o:Oper} {fuel:Nat} {listed:Array Bool} {a:Act} {w:AH} (hr:Region.ready md ops listed=[i]) (ho:ops[i]? =some o)
 (h:∀K:Act->AH->Prop,Shut (∀a' w',(D.contains i=true\/(S w->S w'))->Ez P md ops Q S D fuel (listed.setIfInBounds i true) a' w'->K a' w')->if Region.wanted o (yielded ops a.tmps)=true then Oper.wp P o a w K Q else K (a.put o.dst undef) w):
 Ez P md ops Q S D (fuel+1) listed a w:=by
 refine ⟨fun h0=>absurd (hr ▸ h0) AZ,fun j hj=> ?_⟩;rw [hr,F5] at hj;subst hj;exact wpOp_step ho (fun K hK=>h K (fun a w hS hW=>hK a w ⟨Or.imp (fun h=>by simpa using h) id hS,hW⟩))
theorem iG {listed:Array Bool} {a:Act} {w:AH} (hr:Region.ready md ops listed=[]) (h:Q .normal a w):
 ∀fuel,Ez P md ops Q S D fuel listed a w
 | 0=>⟨hr,h⟩
 | _+1=>⟨fun _=>h,by rw [hr];simp⟩
theorem iB {id:Nat} {a:Act} {w:AH} (S:AH->Prop) (D:List Nat) (hm:P.follows .mixedOrders=true)
 (h:Ez P .any ops Q S D ops.size (Array.replicate ops.size false) a w.drew):(Code.region id ops true).wp P Q a w:=
 wp_region_any hm (Wg _ _ _ _ h)
end
section
variable {P:BE} {md:Region.Mode} {ops:Array Oper} {Q:Exit->Act->AH->Prop} {S:AH->Prop} {D:List Nat} {fuel:Nat} {listed:Array Bool} {l:List AN} {E:List Deferred} {w:AH}
theorem lB {id:Nat} {a:Act} (S:AH->Prop) (D:List Nat) (n:Nat) (L:Array Bool) (h:Ez P .any ops Q S D n L a w.drew) (hm:P.follows .mixedOrders=true:=by kernel_rfl) (hn:ops.size=n:=by kernel_rfl) (hL:Array.replicate n false=L:=by rfl):(Code.region id ops true).wp P Q a w:=by subst hn hL;exact iB S D hm h
theorem lT (i d:Nat) (hS:S w) {oi:Oper} {v:AN} (h:Ez P md ops Q S D fuel (listed.setIfInBounds i true) ⟨(l.set d v).toArray,E⟩ w)
 (hB:Xg md ops listed i=true:=by decide +kernel) (hi:ops[i]? =some oi:=by rfl) (hd:oi.dst=some d:=by rfl) (hQ:∀c (a:Act) v w,Q (.panic c) (a.put (some d) v) w->Q (.panic c) a w:=by first | exact mg rfl Ai Ai | exact mr rfl Ai | exact fun _ _ _ _ h=>h | exact fun _ _ _ _ h=>by cases h.1)
 (hw:Region.wanted oi (yielded ops l.toArray)=true:=by kernel_rfl) (hD:D.all (fun d=>Region.waitsFor md ops d i)=true:=by decide +kernel) (hv:∀w,S w->(execOp (Act.eval ⟨l.toArray,E⟩) oi).run P w=.ok (.value v) w:=by intro W hW;have f:=TK W hW;(go_simp) <;> rfl):
 Ez P md ops Q S D (fuel+1) listed ⟨l.toArray,E⟩ w:=by
 simp only [Bb] at hB;rw [<-Lx,<-hd] at h;exact iF hi hB.1 hB.2.1 hB.2.2 hD (fun c a w hq=>by rw [hd] at hq;exact hQ c a _ w hq) (.inl ⟨hw,hv⟩) hS h
theorem lM (i d t:Nat) (hS:S w) {oi:Oper} {v:AN} (h:Ez P md ops Q S D fuel (listed.setIfInBounds i true) ⟨(l.set d v).toArray,E⟩ w)
 (hv:l[t]? =some v:=by rfl) (hB:Xg md ops listed i=true:=by decide +kernel) (hi:ops[i]? =some oi:=by rfl) (hd:oi.dst=some d:=by rfl) (hQ:∀c (a:Act) v w,Q (.panic c) (a.put (some d) v) w->Q (.panic c) a w:=by first | exact mg rfl Ai Ai | exact mr rfl Ai | exact fun _ _ _ _ h=>h | exact fun _ _ _ _ h=>by cases h.1)
 (hw:Region.wanted oi (yielded ops l.toArray)=true:=by kernel_rfl) (hD:D.all (fun d=>Region.waitsFor md ops d i)=true:=by decide +kernel) (ho:oi.op=.move (AX t)\/oi.op=.assign (AX t):=by first | exact .inl rfl | exact .inr rfl):
 Ez P md ops Q S D (fuel+1) listed ⟨l.toArray,E⟩ w:=by
 refine lT i d hS h hB hi hd hQ hw hD (fun W _=> ?_);have e:Act.eval ⟨l.toArray,E⟩ (AX t)=v:=by simp [Act.eval,hv]
 unfold execOp;rcases ho with ho | ho
 · rw [ho];simp [e]
 · rw [ho];simp [e]
theorem me {w0:AH} (i j m k d1 d2 d3 ts:Nat) {o1 o2 o4 o3:Oper} (T e:Ae) {z:TypeInfo} {zv:AN} {base size bytes n g off:Nat} {v x:AN} {xs:List AN} {news:Array AN} (t0:Nat)
 (hown:w.ownsRow base e size v n xs) (hnl:news.size=size) (h1:∀u∈news.toList,u.oneCell'=true) (h63:n+1<=maxLen) (hby:(n+1)*bytes<=140737488355328) (hb:base<=w.heap.size)
 (hbs:(Instr.buildSlice T 1 #[(0,x)]).run P w=.ok (AA (some ⟨w.heap.size,0,none⟩) 1 1) (w.alloc (AO news e)))
 (hst:∀v' w7,w7.ownsRow base e size v' (n+1) (xs++news.toList)->(w.alloc (AO news e)).grownBy w7 v.ownBlock->(Instr.storeAt T (AU (some ⟨g,off,none⟩)) v').run P w7=.ok () (w7.setCell ⟨g,off,none⟩ v'))
 (h:∀v' w7,w7.ownsRow base e size v' (n+1) (xs++news.toList)->(w.alloc (AO news e)).grownBy w7 v.ownBlock->(v'.ownBlock=v.ownBlock\/v'.ownBlock=some (w.heap.size+1))->Q .normal ⟨(((l.set d1 (AA (some ⟨w.heap.size,0,none⟩) 1 1)).set d2 v').set d3 (AU (some ⟨g,off,none⟩))).toArray,E⟩ (w7.setCell ⟨g,off,none⟩ v'))
 (hz:P.info? e=some z/\z.zero=some zv/\zv.cells.size=size/\z.size=size/\z.bytes=bytes) (hsz:0 < size:=by decide) (ht:P.underlying T=some (.slice e):=by rfl)
 (hx:l[t0]? =some x:=by rfl) (hs:(l.set d1 (AA (some ⟨w.heap.size,0,none⟩) 1 1))[ts]? =some v:=by rfl) (AKq:decide (d1 < l.length)=true:=by kernel_rfl) (AKo:decide (d3 < l.length)=true:=by kernel_rfl) (hne:d2≠d3:=by decide) (AKp:decide (d2 < l.length)=true:=by kernel_rfl)
 (hr1:Region.ready md ops listed=[i]:=by kernel_rfl) (hr2:Region.ready md ops (listed.setIfInBounds i true)=[j]:=by kernel_rfl) (hr5:Region.ready md ops ((listed.setIfInBounds i true).setIfInBounds j true)=[m]:=by kernel_rfl) (hr3:Region.ready md ops (((listed.setIfInBounds i true).setIfInBounds j true).setIfInBounds m true)=[k]:=by kernel_rfl) (hr4:Region.ready md ops ((((listed.setIfInBounds i true).setIfInBounds j true).setIfInBounds m true).setIfInBounds k true)=[]:=by kernel_rfl)
 (hi1:ops[i]? =some o1:=by rfl) (hi2:ops[j]? =some o2:=by rfl) (hi3:ops[k]? =some o3:=by rfl) (hi4:ops[m]? =some o4:=by rfl) (hg4:o4.guard=none:=by rfl) (he4:o4.dst=some d3:=by rfl) (hg1:o1.guard=none:=by rfl) (hg2:o2.guard=none:=by rfl) (hg3:o3.guard=none:=by rfl) (he1:o1.dst=some d1:=by rfl) (he2:o2.dst=some d2:=by rfl) (he3:o3.dst=none:=by rfl)
 (ho1:o1.op=.buildSlice T 1 #[(0,.tmp t0)]:=by rfl) (ho2:o2.op=.call {callee:=.builtin .append,args:=#[.tmp ts,.tmp d1],argTypes:=#[T,T]}:=by rfl) (ho3:o3.op=.store T (AX d3) (AX d2):=by rfl)
 (hp:∀v' W,(execOp (Act.eval ⟨((l.set d1 (AA (some ⟨w.heap.size,0,none⟩) 1 1)).set d2 v').toArray,E⟩) o4).run P W=.ok (.value (AU (some ⟨g,off,none⟩))) W:=by intro _ _;(go_simp) <;> rfl):
 Ez P md ops Q (fun W=>w0.grownBy W v.ownBlock) [k] (fuel+1+1+1+1) listed ⟨l.toArray,E⟩ w:=by
 have hd1:=F4 AKq;have hd2:=F4 AKp;have hd3:=F4 AKo;have hw:∀(o:Oper) (t:Array AN),o.guard=none->Region.wanted o (yielded ops t)=true:=fun o t h=>by simp [Region.wanted,h]
 refine N4 hr1 hi1 (fun K hK=> ?_);rw [Ak (hw _ _ hg1)];refine dG d1 T 1 #[(0,.tmp t0)] #[(0,x)] ho1 he1 gD hbs (Hid.out hK _ _ (.inr fun hs=>hs.trans (D8 _ _ _)) ?_);clear hK K;refine N4 hr2 hi2 (fun K hK=> ?_);rw [Ak (hw _ _ hg2)];have hsrc:∀(j:Nat) (u:AN),news.toList[j]? =some u->(w.alloc (AO news e)).cell? ((Addr.mk w.heap.size 0 none).add j)=some u:=fun j u hu=>by
  have e1:(Addr.mk w.heap.size 0 none).add j=⟨w.heap.size,j,none⟩:=by
   unfold Addr.add;split
   · subst_vars;rfl
   · simp
  rw [e1,(AY.new w e news).cell];simpa using hu
 obtain ⟨v',w7,hrun,Gh,Ec,_,hat⟩:=run_append_own_at (P:=P) (w.alloc (AO news e)) base T o2.type e z zv size bytes ht hz.1 hz.2.1 hz.2.2.2.1 hz.2.2.2.2 hz.2.2.1 hsz v n xs (hown.alloc _) ⟨w.heap.size,0,none⟩ 1 1 news.toList (by rw [Array.length_toList,hnl,Nat.one_mul]) hsrc h1 h63 hby (by rw [Ev];omega);have hev:(Act.eval ⟨(l.set d1 (AA (some ⟨w.heap.size,0,none⟩) 1 1)).toArray,E⟩ (AX ts))=v:=by simp [Act.eval,hs]
 have hex:(Act.eval ⟨(l.set d1 (AA (some ⟨w.heap.size,0,none⟩) 1 1)).toArray,E⟩ (AX d1))=AA (some ⟨w.heap.size,0,none⟩) 1 1:=by simp [Act.eval,hd1]
 unfold Oper.wp execOp;simp only [ho2,resolve,invoke,builtin,Cp,DL,Result.andThen_ok,Uj,Fz,NF,hev,hex,hrun];show K (Act.put ⟨_,E⟩ o2.dst v') w7;rw [he2,Lx];refine Hid.out hK _ _ (.inr fun hs=>(hs.trans Ec)) ?_;clear hK K;refine N4 hr5 hi4 (fun K hK=> ?_);rw [Ak (hw _ _ hg4)];unfold Oper.wp;rw [hp v' w7];show K (Act.put ⟨_,E⟩ o4.dst _) w7;rw [he4,Lx];refine Hid.out hK _ _ (.inr id) ?_;clear hK K;refine N4 hr3 hi3 (fun K hK=> ?_);rw [Ak (hw _ _ hg3)];refine wM T (AX d3) (AX d2) (AU (some ⟨g,off,none⟩)) v' ho3 he3 (by simp [Act.eval,hd3]) (by simp [Act.eval,hd2,hne.symm]) (hst v' w7 Gh Ec) (Hid.out hK _ _ (.inl AZ) ?_);rw [Ev] at hat;exact iG hr4 (h v' w7 Gh Ec hat) _
end
theorem iM (W:AH) (i:Int) (A1 A2:Option Aa) (n1 c1 n2 c2:Nat):(Instr.buildSlice 44 1 #[(0,AP #[AB AE i,AA A1 n1 c1,AA A2 n2 c2])]).run prog W=.ok (AA (some ⟨W.heap.size,0,none⟩) 1 1) (W.alloc (AO #[AB AE i,AA A1 n1 c1,AA A2 n2 c2] 71)):=by go_simp
theorem Zi (W:AH) (g o:Nat) (v:AN) (a:Option Aa) (b c:Nat) (h:W.cell? ⟨g,o,none⟩=some v) (hf:W.frozen? ⟨g,o,none⟩=false):(Instr.storeAt 44 (AU (some ⟨g,o,none⟩)) (AA a b c)).run prog W=.ok () (W.setCell ⟨g,o,none⟩ (AA a b c)):=by go_simp
theorem AGr:∃(j:TypeInfo) (z:AN),prog.info? 3=some j/\j.zero=some z/\z.cells.size=1/\j.size=1/\j.bytes=8:=by obtain ⟨j,hj,hz⟩:=EC.1 (show (prog.info? 3).map (fun i=>(i.zero.map (·.cells.size),i.size,i.bytes))=some (some 1,1,8) by kernel_rfl);simp only [Gd] at hz;obtain ⟨z,hz0,hz1⟩:=EC.1 hz.1;exact ⟨j,z,hj,hz0,hz1,hz.2⟩
theorem ACz (s:JS) (hh:s.holder.length=32) (ht:s.token.length=32) (v:AN):(Em s).setIfInBounds 37 v=Em {s with values:=v}:=by
 obtain ⟨i,r,s,p,h,f,u,l,t,k,_,_,_,_⟩:=s
 dsimp only at hh ht
 exact SL
theorem AC0 (s:JS) (hh:s.holder.length=32) (ht:s.token.length=32) (v:AN):(Em s).setIfInBounds 71 v=Em {s with claims:=v}:=by
 obtain ⟨i,r,s,p,h,f,u,l,t,k,_,_,_,_⟩:=s
 dsimp only at hh ht
 exact SL
theorem Rs {g:Nat} {t:Ae}:∀(vs:List AN) (o:Nat) (w:AH) (cs:List AN),AY w g t cs.toArray->o+vs.length<=cs.length->AY (w.setCells g o vs) g t (cs.take o++vs++cs.drop (o+vs.length)).toArray
 | [],o,w,cs,h,_=>by simpa [World.setCells] using h
 |
  u::r,o,w,cs,h,hl=>by
  simp only [F6] at hl;have h1:AY (w.setCell ⟨g,o,none⟩ u) g t (cs.set o u).toArray:=by have:=h.put o u;simpa using this
  have h2:=Rs r (o+1) _ _ h1 Bd;rw [World.setCells];have e:(cs.set o u).take (o+1)++r++(cs.set o u).drop (o+1+r.length)=cs.take o++u::r++cs.drop (o+(u::r).length):=by rw [List.drop_set_of_lt AG,fh Bd,List.take_set_of_le (Ac _)];simp [Nat.add_assoc,Nat.add_comm 1]
  rw [e] at h2;exact h2
theorem VE (g:Nat):∀(vs:List AN) (o:Nat) (w:AH),(w.setCells g o vs).heap.size=w.heap.size
 | [],_,_=>rfl
 | v::vs,o,w=>(VE g vs (o+1) (w.setCell ⟨g,o,none⟩ v)).trans (R4 ..)
theorem AGR (s:JS) (hh:s.holder.length=32) (ht:s.token.length=32) (d:AQ):(Sh s).take 39++d.map (Value.int .u8)++(Sh s).drop 71=Sh {s with token:=d}:=by
 obtain ⟨i,r,s,p,h,f,u,l,t,k,_,_,_,_⟩:=s
 dsimp only at hh ht
 rw [PD hh,PD ht];rfl
structure RS (S0:List Nat) (L:Nat) (q:JS) (w W7:AH) (vl:AQ) (kl:List Cn) (W:AH):Prop where
 kx:KX L (w.heap.size+1+1) w.heap.size W7 W
 old:AK w W
 row:∃VA vc cv KA kc ck S,AY W (w.heap.size+1+1) 57 (Em {q with values:=AA VA vl.length vc,claims:=AA KA kl.length kc})/\W.ownsRow L 3 1 (AA VA vl.length vc) vl.length cv/\Ap 1 Bt W cv vl/\
  (∀r,(Value.slice VA vl.length vc).ownBlock=some r->r∈S)/\J9 L 71 3 Cy (w.heap.size+1+1) (AA KA kl.length kc) kl W ck S/\(∀b,b < w.heap.size->(b∈S↔b∈S0))/\(∀r,(Value.slice VA vl.length vc).ownBlock=some r->(Value.slice KA kl.length kc).ownBlock≠some r)
section
variable {S0 S:List Nat} {L:Nat} {q:JS} {w W7 A C w7:AH} {vl:AQ} {kl:List Cn} {VA KA:Option Aa} {vc kc:Nat} {cv ck news:List AN} {o:Obj} {v':AN}
theorem RS.below (h:RS S0 L q w W7 vl kl A) (hn:L<=A.heap.size) (hw:w.heap.size < A.heap.size) (t:AK A C):RS S0 L q w W7 vl kl C:=by obtain ⟨VA,vc,cv,KA,kc,ck,S,h1,h2,h3,h4,h5,h6,h7⟩:=h.row;exact ⟨h.kx.below t hn hw,AV h.old t,VA,vc,cv,KA,kc,ck,S,h1.below t h1.lt,Eh h2 t,QH h3,h4,h5.below Bc t,h6,h7⟩
theorem RS.AJp {x:Int} (h:RS S0 L q w W7 vl kl A) (hh:q.holder.length=32) (ht:q.token.length=32) (hL:w.heap.size+1+1 < L) (PR:L<=A.heap.size) (h1:AY A (w.heap.size+1+1) 57 (Em {q with values:=AA VA vl.length vc,claims:=AA KA kl.length kc})) (h2:A.ownsRow L 3 1 (AA VA vl.length vc) vl.length cv) (h3:Ap 1 Bt A cv vl)
 (h4:∀r,(Value.slice VA vl.length vc).ownBlock=some r->r∈S) (h5:J9 L 71 3 Cy (w.heap.size+1+1) (AA KA kl.length kc) kl A ck S) (h6:∀b,b < w.heap.size->(b∈S↔b∈S0)) (h7:∀r,(Value.slice VA vl.length vc).ownBlock=some r->(Value.slice KA kl.length kc).ownBlock≠some r) (hx:FI x)
 (ho:w7.ownsRow L 3 1 v' (vl.length+1) (cv++[AB AE x])) (hg:(A.alloc o).grownBy w7 (Value.slice VA vl.length vc).ownBlock) (hat:v'.ownBlock=(Value.slice VA vl.length vc).ownBlock\/v'.ownBlock=some (A.heap.size+1)):
 RS S0 L q w W7 (vl++[x]) kl (w7.setCell ⟨w.heap.size+1+1,37,none⟩ v'):=by
 have hl:(vl++[x]).length=vl.length+1:=AZ
 have hb6:AK A (A.alloc o):=(Af _ _).alloc (Ac _) o;have hz6:(A.alloc o).heap.size=A.heap.size+1:=Ev _ _;obtain ⟨A',c',rfl⟩:=CG ho;have hE7:=(h1.alloc o).grown hg (Dj h2 hL);have eK:AK w (A.alloc o):=h.old.alloc h.old.size o;have AMK:=hg.size;obtain ⟨S',hS',hlt',hsub,hnew⟩:∃S',(∀b,b < (A.alloc o).heap.size->(b∈S'↔b∈S))/\(∀b∈S',b < w7.heap.size)/\(∀b∈S,b∈S')/\(∀r,(Value.slice A' (vl.length+1) c').ownBlock=some r->r∈S'):=by
  rcases hat with hat | hat
  · exact ⟨S,fun _ _=>Iff.rfl,fun b hb=>by have:=h5.lt b hb;omega,fun _ h=>h,fun r hr=>h4 r (hat ▸ hr)⟩
  refine ⟨(A.heap.size+1)::S,fun b hb=>by rw [B0];exact ⟨fun h=>h.resolve_left AG,.inr⟩,fun b hb=> ?_,fun _ h=>NI _ h,fun r hr=>by rw [hat] at hr;injection hr with hr;simp [hr]⟩;rcases B0.1 hb with rfl | hb
  · exact (ho.lt _ hat).2
  have:=h5.lt b hb;omega
 have hR7:J9 L 71 3 Cy (w.heap.size+1+1) (AA KA kl.length kc) kl w7 ck S':=(h5.below Bc hb6).other Bc hg h4 hS' hlt' (fun r hr e=>h7 r e hr);refine ⟨?_,?_,A',c',cv++[AB AE x],KA,kc,ck,S',?_,?_,?_,?_,?_,fun b hb=>(hS' b (by have:=h.old.size;omega)).trans (h6 b hb),?_⟩
 · exact (h.kx.below hb6 PR AG).trans ((KX.grown hg AG (fun b hb=>Dj h2 hb) AG AG).V7 37 _ AG AG)
 · exact (eK.grown hg eK.size (fun r hr=>by have:=(h2.lt r hr).1;omega)).setCell cw _
 ·have hp:=hE7.put 37 (AA A' (vl.length+1) c')
  rw [ACz {q with values:=AA VA vl.length vc,claims:=AA KA kl.length kc} hh ht] at hp;rw [hl];exact hp
 ·rw [hl]
  exact FO ho (a:=⟨w.heap.size+1+1,37,none⟩) hL _
 · exact (QH h3).append (Ap.one rfl ⟨rfl,hx⟩)
 · rw [hl];exact hnew
 · exact hR7.V7 Bc hL 37 _
 rw [hl];intro r hr;rcases hat with hat | hat
 · exact h7 r (hat ▸ hr)
 rw [hat] at hr;injection hr with hr;intro e;have:=(h5.own.lt r e).2;omega
theorem RS.xL {x:Cn} (h:RS S0 L q w W7 vl kl A) (hh:q.holder.length=32) (ht:q.token.length=32) (hL:w.heap.size+1+1 < L) (PR:L<=A.heap.size) (h1:AY A (w.heap.size+1+1) 57 (Em {q with values:=AA VA vl.length vc,claims:=AA KA kl.length kc})) (h2:A.ownsRow L 3 1 (AA VA vl.length vc) vl.length cv) (h3:Ap 1 Bt A cv vl)
 (h4:∀r,(Value.slice VA vl.length vc).ownBlock=some r->r∈S) (h5:J9 L 71 3 Cy (w.heap.size+1+1) (AA KA kl.length kc) kl A ck S) (h6:∀b,b < w.heap.size->(b∈S↔b∈S0)) (h7:∀r,(Value.slice VA vl.length vc).ownBlock=some r->(Value.slice KA kl.length kc).ownBlock≠some r) (hnl:news.length=3) (hx:Cy (veil S A) news x)
 (ho:w7.ownsRow L 71 3 v' (kl.length+1) (ck++news)) (hg:(A.alloc o).grownBy w7 (Value.slice KA kl.length kc).ownBlock) (hat:v'.ownBlock=(Value.slice KA kl.length kc).ownBlock\/v'.ownBlock=some (A.heap.size+1)):
 RS S0 L q w W7 vl (kl++[x]) (w7.setCell ⟨w.heap.size+1+1,71,none⟩ v'):=by
 have hl:(kl++[x]).length=kl.length+1:=AZ
 have hb6:AK A (A.alloc o):=(Af _ _).alloc (Ac _) o;have hz6:(A.alloc o).heap.size=A.heap.size+1:=Ev _ _;obtain ⟨A',c',rfl⟩:=CG ho;have hE7:=(h1.alloc o).grown hg (Dj h5.own hL);have eK:AK w (A.alloc o):=h.old.alloc h.old.size o;have h56:=h5.below Bc hb6;obtain ⟨S',hS',hR7⟩:=h56.push Bc ho hl.symm hg (by rw [hz6];exact hat) hnl (Bc _ _ (Ox hb6) _ _ hx);have hv7:=(h2.alloc o).kept hg (by
  cases hv:(Value.slice VA vl.length vc).ownBlock with
  | none=>exact .inl rfl
  | some r=>exact .inr (fun e=>h7 r hv e.symm))
 refine ⟨?_,?_,VA,vc,cv,A',c',ck++news,S',?_,?_,QH h3,?_,?_,fun b hb=>(hS' b (by have:=h.old.size;omega)).trans (h6 b hb),?_⟩
 · exact (h.kx.below hb6 PR AG).trans ((KX.grown hg AG (fun b hb=>Dj h5.own hb) AG AG).V7 71 _ AG AG)
 · exact (eK.grown hg eK.size (fun r hr=>by have:=(h5.own.lt r hr).1;omega)).setCell cw _
 ·have hp:=hE7.put 71 (AA A' (kl.length+1) c')
  rw [AC0 {q with values:=AA VA vl.length vc,claims:=AA KA kl.length kc} hh ht] at hp;rw [hl];exact hp
 · exact FO hv7 (a:=⟨w.heap.size+1+1,71,none⟩) hL _
 · exact fun r hr=>(hS' r (by have:=(h2.lt r hr).2;omega)).2 (h4 r hr)
 ·rw [hl]
  exact hR7.V7 Bc hL 71 _
 rw [hl];intro r hr e;rcases hat with hat | hat
 · exact h7 r hr (hat ▸ e)
 rw [hat] at e;injection e with e;have:=(h2.lt r hr).2;omega
theorem RS.tok {d:AQ} (h:RS S0 L q w W7 vl kl A) (hh:q.holder.length=32) (ht:q.token.length=32) (hd:d.length=32) (hL:w.heap.size+1+1 < L):RS S0 L {q with token:=d} w W7 vl kl (A.setCells (w.heap.size+1+1) 39 (d.map (Value.int .u8))):=by
 obtain ⟨VA,vc,cv,KA,kc,ck,S,h1,h2,h3,h4,h5,h6,h7⟩:=h.row;have hg:A.grownBy (A.setCells (w.heap.size+1+1) 39 (d.map (Value.int .u8))) (some (w.heap.size+1+1)):=Dt _ _ _ (Cu _ _);have hn:∀b,b < A.heap.size->b≠w.heap.size+1+1->(A.setCells (w.heap.size+1+1) 39 (d.map (Value.int .u8))).heap[b]? =A.heap[b]? :=fun b hb hne=>hg.block b hb (fun e=>by injection e with e;exact hne e);have hL2:=h1.lt;refine ⟨h.kx.trans ⟨hg.size,fun b _ hne=> ?_,hn _ AG AG,fun t=>Mr (hn 0 AG AG) hg.size t⟩,below_setCells _ _ _ _ h.old AG,VA,vc,cv,KA,kc,ck,S,?_,JL h2 (fun g h8 h9=>hn g h9 AG),QH h3,h4,⟨JL h5.own (fun g h8 h9=>hn g h9 AG),h5.hid,fun b hb=>Av (h5.lt b hb) hg.size,h5.box,h5.els.mono Bc (Ik hg (fun r er _=>by injection er with er;rw [<-er];exact h5.box) (fun _ _=>Iff.rfl))⟩,h6,h7⟩
 ·by_cases hb:b < A.heap.size
  · exact hn b hb hne
  · rw [NM (by rw [VE];omega),NM AG]
 have hs:=AGR {q with values:=AA VA vl.length vc,claims:=AA KA kl.length kc} hh ht d;have hlen:(Sh {q with values:=AA VA vl.length vc,claims:=AA KA kl.length kc}).length=72:=by
  have:=G0 (s:={q with values:=AA VA vl.length vc,claims:=AA KA kl.length kc}) hh ht
  rwa [Em,R2] at this
 have hb:=Rs (d.map (Value.int .u8)) 39 A (Sh {q with values:=AA VA vl.length vc,claims:=AA KA kl.length kc}) h1 (by rw [CY,hd,hlen];decide);rw [CY,hd,hs] at hb;exact hb
end
theorem av {S0 S:List Nat} {w A:AH} (hb:AK w A) (h6:∀b,b < w.heap.size->(b∈S↔b∈S0)):BL (veil S0 w).heap.size (veil S0 w) (veil S A):=
 Ik (row:=none) ⟨hb.os,hb.tape,hb.output,hb.size,fun k hk _=>hb.block k hk⟩ (fun _ e=>by cases e) h6
theorem jf {α β:Type} {l:List α} {f:α->β} {j:Nat} {x:α} (h:l[j]? =some x):(l.take (j+1)).map f=(l.take j).map f++[f x]:=by rw [Pn,h,DY];rfl
theorem take_len {α β:Type} {l:List α} {f:α->β} {j:Nat} (h:j<=l.length):((l.take j).map f).length=j:=by rw [CY,Df];omega
def NW (S0:List Nat) (w:AH) (q:Ha) (e0:Int) (e:Ending) (w':AH):Prop:=∃FA fn fc VA vn vc KA kn kc,e=AW (BU #[AP (Em ⟨q.Ar,q.round,q.schema,q.place,q.holder,AA FA fn fc,AA VA vn vc,q.link,q.token,AA KA kn kc,undef,undef,0,0⟩),AB AE e0])/\
 Ag 1 Bt (veil S0 w') (AA FA fn fc) q.fields/\Ag 1 Bt (veil S0 w') (AA VA vn vc) q.values/\Ag 3 Cy (veil S0 w') (AA KA kn kc) q.claims/\AK w w'
def ML:Ha:=⟨0,0,0,0,zeros 32,[],[],0,zeros 32,[]⟩
end Go.Proofs.YtamhoilkpppdbaaGreatDoor
