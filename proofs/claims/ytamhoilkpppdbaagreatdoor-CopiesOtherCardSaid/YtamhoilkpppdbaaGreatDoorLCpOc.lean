import Derived.Test.YtamhoilkpppdbaaGreatDoorL18
namespace Go.Proofs.YtamhoilkpppdbaaGreatDoor
set_option maxHeartbeats 8000000
set_option maxRecDepth 100000
open Go renaming Value→AN, Addr→Aa
open Go.Proofs.Tryz
open Go.Value renaming slice→AA
open Go.ChangeShapes Go.WideShapes Go.ChangeAt Go.RowKit Go.Deep
section
variable {H:Type} {enc:TypeId×AN->H} {w:World} {base:Nat} {hd:Bool}
theorem AGc {cs:List AN} (h:Rd enc w base hd 71 cs):∃q,Cy w cs q:=by
 obtain ⟨hl,hf⟩:=Dn (k:=3) [1,1,1] underlying71 h
 match cs,hl with
 |
  [c0,c1,c2],_=>
  obtain ⟨v0,w0,rfl⟩:=Ct (c:=c0) (hf 0 _ 1 rfl rfl);obtain ⟨A,n,c,l,s,rfl⟩:=Zl (v:=c1) (hf 1 _ 1 rfl rfl);obtain ⟨B,m,d,k,t,rfl⟩:=Zl (v:=c2) (hf 2 _ 1 rfl rfl);exact ⟨⟨v0,l,k⟩,A,n,c,B,m,d,rfl,s.1,t.1⟩
theorem o5 {v:AN} (h:Rd enc w base hd 44 [v]):∃A n c l,BV 3 56 Cy w (AA A n c) l/\v=AA A n c:=LK underlying44 h fun _ h=>AGc h
theorem xP {l:List AN} {k:Nat} (h:k < l.length):(l.drop k).take 1=[l[k]]:=by rw [List.take_one,List.head?_drop,BN h];rfl
theorem iw {l:List AN} {k:Nat} (h:k < l.length):l.drop k=l[k]::l.drop (k+1):=by rw [Ut h]
theorem AFK {b0:Nat} {v:AN} {d:DataW H} {ps:List MemPlace} (hv:Value.okWide prog w .any b0 46 v) (h:DataW.Trod enc prog w base (fun _=>true) hd 46 v d ps) (hw:M5 prog 46 d):∃(q:EG) (A:Option Aa) (n c:Nat) (B:Option Aa) (m e:Nat) (C:Option Aa) (k f:Nat),q.holder.length=32/\Ag 1 Bt w (AA A n c) q.values/\Ag 32 CP w (AA B m e) q.links/\Ag 3 Cy w (AA C k f) q.claims/\v=.agg (Fo ⟨q.Ar,q.round,q.schema,q.place,q.holder,AA A n c,AA B m e,AA C k f⟩):=by
 obtain ⟨⟨cs⟩,rfl,_⟩:=okWide_struct underlying46 hv;obtain ⟨hl,hf⟩:=Dn (k:=39) [1,1,1,1,32,1,1,1] underlying46 (WA h hw)
 match cs,hl with
 |
  c0::c1::c2::c3::l,hl=>
  obtain ⟨v0,w0,rfl⟩:=Ct (c:=c0) (hf 0 _ 1 rfl rfl);obtain ⟨v1,w1,rfl⟩:=Ct (c:=c1) (hf 1 _ 1 rfl rfl);obtain ⟨v2,w2,rfl⟩:=Ct (c:=c2) (hf 2 _ 1 rfl rfl);obtain ⟨v3,w3,rfl⟩:=Ct (c:=c3) (hf 3 _ 1 rfl rfl);obtain ⟨d,hdl,e⟩:=Sj (cs:=l.take 32) (hf 4 _ 32 rfl rfl);have hl:l.length=35:=by simpa using hl
  have h5:Rd enc w base hd 30 ((l.drop 32).take 1):=hf 5 _ 1 rfl rfl;have h6:Rd enc w base hd 37 ((l.drop 33).take 1):=hf 6 _ 1 rfl rfl;have h7:Rd enc w base hd 44 ((l.drop 34).take 1):=hf 7 _ 1 rfl rfl;rw [xP AG] at h5 h6 h7;obtain ⟨A,n,c,x,s,e5⟩:=SG h5;obtain ⟨B,m,b,y,t,e6⟩:=Zl h6;obtain ⟨C,k,f,z,u,e7⟩:=o5 h7;refine ⟨⟨v0,v1,v2,v3,d,x,y,z⟩,A,n,c,B,m,b,C,k,f,hdl,N8 s,t.1,u.1,?_⟩;have e4:l=d.map (Value.int .u8)++[AA A n c,AA B m b,AA C k f]:=by
   rw [<-e,<-e5,<-e6,<-e7];have h3:l.drop 32=[l[32],l[33],l[34]]:=by rw [iw AG,iw AG,iw AG,FQ AG]
   rw [<-h3,OU]
  rw [e4,Fo,km];simp
theorem AJ8 {b0:Nat} {v:AN} {d:DataW H} {ps:List MemPlace} (hv:Value.okWide prog w .any b0 57 v) (h:DataW.Trod enc prog w base (fun _=>true) hd 57 v d ps) (hw:M5 prog 57 d):∃(q:Ha) (A:Option Aa) (n c:Nat) (B:Option Aa) (m e:Nat) (C:Option Aa) (k f:Nat),q.holder.length=32/\q.token.length=32/\FI q.link/\Ag 1 Bt w (AA A n c) q.fields/\Ag 1 Bt w (AA B m e) q.values/\Ag 3 Cy w (AA C k f) q.claims/\v=.agg (Em ⟨q.Ar,q.round,q.schema,q.place,q.holder,AA A n c,AA B m e,q.link,q.token,AA C k f,undef,undef,0,0⟩):=by
 obtain ⟨⟨cs⟩,rfl,_⟩:=okWide_struct underlying57 hv;obtain ⟨hl,hf⟩:=Dn (k:=72) [1,1,1,1,32,1,1,1,32,1] underlying57 (WA h hw)
 match cs,hl with
 |
  c0::c1::c2::c3::l,hl=>
  obtain ⟨v0,w0,rfl⟩:=Ct (c:=c0) (hf 0 _ 1 rfl rfl);obtain ⟨v1,w1,rfl⟩:=Ct (c:=c1) (hf 1 _ 1 rfl rfl);obtain ⟨v2,w2,rfl⟩:=Ct (c:=c2) (hf 2 _ 1 rfl rfl);obtain ⟨v3,w3,rfl⟩:=Ct (c:=c3) (hf 3 _ 1 rfl rfl);obtain ⟨d,hdl,e⟩:=Sj (cs:=l.take 32) (hf 4 _ 32 rfl rfl);have hl:l.length=68:=by simpa using hl
  have h5:Rd enc w base hd 30 ((l.drop 32).take 1):=hf 5 _ 1 rfl rfl;have h6:Rd enc w base hd 30 ((l.drop 33).take 1):=hf 6 _ 1 rfl rfl;have h7:Rd enc w base hd 3 ((l.drop 34).take 1):=hf 7 _ 1 rfl rfl;obtain ⟨d2,AKm,e2⟩:=Sj (cs:=(l.drop 35).take 32) (hf 8 _ 32 rfl rfl);have h9:Rd enc w base hd 44 ((l.drop 67).take 1):=hf 9 _ 1 rfl rfl;rw [xP AG] at h5 h6 h7 h9;obtain ⟨A,n,c,x,s,e5⟩:=SG h5;obtain ⟨B,m,b,y,t,e6⟩:=SG h6;obtain ⟨v7,w7,e7⟩:=Ct h7;obtain ⟨C,k,f,z,u,e9⟩:=o5 h9;refine ⟨⟨v0,v1,v2,v3,d,x,y,v7,d2,z⟩,A,n,c,B,m,b,C,k,f,hdl,AKm,w7,N8 s,N8 t,u.1,?_⟩;have e4:l=d.map (Value.int .u8)++[AA A n c,AA B m b,.int .i64 v7]++d2.map (Value.int .u8)++[AA C k f]:=by
   rw [<-e,<-e2,<-e5,<-e6,<-e7,<-e9];have h3:l.drop 32=[l[32],l[33],l[34]]++l.drop 35:=by rw [iw AG,iw AG,iw AG];rfl
   have h4:l.drop 35=(l.drop 35).take 32++[l[67]]:=by rw [<-xP (k:=67) AG,<-List.drop_drop (i:=32) (j:=35),C7 (l:=(l.drop 35).drop 32) Bd,OU]
   rw [Gc,Gc,<-h4,<-h3,OU]
  rw [e4,Em,Sh];simp
end
end Go.Proofs.YtamhoilkpppdbaaGreatDoor
