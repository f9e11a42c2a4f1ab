import Derived.Test.YtpmpddfgifhlbaaGreatDoorM18
namespace Go.Proofs.YtpmpddfgifhlbaaGreatDoor
set_option maxHeartbeats 8000000
set_option maxRecDepth 100000
open Go renaming Value→AK, Addr→Aa
open Go.Proofs.Tryz
open Go.Value renaming slice→AA
open Go.ChangeShapes Go.WideShapes Go.ChangeAt Go.RowKit Go.Deep
section
variable {H:Type} {enc:TypeId×AK->H} {w:World} {base:Nat} {hd:Bool}
theorem AF9 {cs:List AK} (h:Rd enc w base hd 62 cs):∃q,Dc w cs q:=by
 obtain ⟨hl,hf⟩:=De (k:=3) [1,1,1] underlying62 h
 match cs,hl with
 |
  [c0,c1,c2],_=>
  obtain ⟨v0,w0,rfl⟩:=Cp (c:=c0) (hf 0 _ 1 rfl rfl);obtain ⟨A,n,c,l,s,rfl⟩:=Y8 (v:=c1) (hf 1 _ 1 rfl rfl);obtain ⟨B,m,d,k,t,rfl⟩:=Y8 (v:=c2) (hf 2 _ 1 rfl rfl);exact ⟨⟨v0,l,k⟩,A,n,c,B,m,d,rfl,s.1,t.1⟩
theorem nz {v:AK} (h:Rd enc w base hd 42 [v]):∃A n c l,BQ 3 56 Dc w (AA A n c) l/\v=AA A n c:=Km underlying42 h fun _ h=>AF9 h
theorem wL {l:List AK} {k:Nat} (h:k < l.length):(l.drop k).take 1=[l[k]]:=by rw [List.take_one,List.head?_drop,BJ h];rfl
theorem g9 {l:List AK} {k:Nat} (h:k < l.length):l.drop k=l[k]::l.drop (k+1):=by rw [UR h]
theorem AKO {b0:Nat} {v:AK} {d:DataW H} {ps:List MemPlace} (hv:Value.okWide prog w .any b0 48 v) (h:DataW.Trod enc prog w base (fun _=>true) hd 48 v d ps) (hw:PG prog 48 d):∃(q:Ge) (A:Option Aa) (n c:Nat) (B:Option Aa) (m e:Nat) (C:Option Aa) (k f:Nat),q.holder.length=32/\Ag 1 CF w (AA A n c) q.values/\Ag 32 CQ w (AA B m e) q.links/\Ag 3 Dc w (AA C k f) q.claims/\v=.agg (Hf ⟨q.Au,q.round,q.schema,q.place,q.holder,AA A n c,AA B m e,AA C k f⟩):=by
 obtain ⟨⟨cs⟩,rfl,_⟩:=okWide_struct underlying48 hv;obtain ⟨hl,hf⟩:=De (k:=39) [1,1,1,1,32,1,1,1] underlying48 (VX h hw)
 match cs,hl with
 |
  c0::c1::c2::c3::l,hl=>
  obtain ⟨v0,w0,rfl⟩:=Cp (c:=c0) (hf 0 _ 1 rfl rfl);obtain ⟨v1,w1,rfl⟩:=Cp (c:=c1) (hf 1 _ 1 rfl rfl);obtain ⟨v2,w2,rfl⟩:=Cp (c:=c2) (hf 2 _ 1 rfl rfl);obtain ⟨v3,w3,rfl⟩:=Cp (c:=c3) (hf 3 _ 1 rfl rfl);obtain ⟨d,hdl,e⟩:=SE (cs:=l.take 32) (hf 4 _ 32 rfl rfl);have hl:l.length=35:=by simpa using hl
  have h5:Rd enc w base hd 30 ((l.drop 32).take 1):=hf 5 _ 1 rfl rfl;have h6:Rd enc w base hd 37 ((l.drop 33).take 1):=hf 6 _ 1 rfl rfl;have h7:Rd enc w base hd 42 ((l.drop 34).take 1):=hf 7 _ 1 rfl rfl;rw [wL AG] at h5 h6 h7;obtain ⟨A,n,c,x,s,e5⟩:=Rl h5;obtain ⟨B,m,b,y,t,e6⟩:=Y8 h6;obtain ⟨C,k,f,z,u,e7⟩:=nz h7;refine ⟨⟨v0,v1,v2,v3,d,x,y,z⟩,A,n,c,B,m,b,C,k,f,hdl,Nu s,t.1,u.1,?_⟩;have e4:l=d.map (Value.int .u8)++[AA A n c,AA B m b,AA C k f]:=by
   rw [<-e,<-e5,<-e6,<-e7];have h3:l.drop 32=[l[32],l[33],l[34]]:=by rw [g9 AG,g9 AG,g9 AG,EV AG]
   rw [<-h3,OG]
  rw [e4,Hf,jb];simp
theorem ACN {b0:Nat} {v:AK} {d:DataW H} {ps:List MemPlace} (hv:Value.okWide prog w .any b0 44 v) (h:DataW.Trod enc prog w base (fun _=>true) hd 44 v d ps) (hw:PG prog 44 d):∃(q:Fw) (A:Option Aa) (n c:Nat) (B:Option Aa) (m e:Nat) (C:Option Aa) (k f:Nat),q.holder.length=32/\q.token.length=32/\EZ q.link/\Ag 1 CF w (AA A n c) q.fields/\Ag 1 CF w (AA B m e) q.values/\Ag 3 Dc w (AA C k f) q.claims/\v=.agg (Et ⟨q.Au,q.round,q.schema,q.place,q.holder,AA A n c,AA B m e,q.link,q.token,AA C k f,undef,undef,0,0⟩):=by
 obtain ⟨⟨cs⟩,rfl,_⟩:=okWide_struct underlying44 hv;obtain ⟨hl,hf⟩:=De (k:=72) [1,1,1,1,32,1,1,1,32,1] underlying44 (VX h hw)
 match cs,hl with
 |
  c0::c1::c2::c3::l,hl=>
  obtain ⟨v0,w0,rfl⟩:=Cp (c:=c0) (hf 0 _ 1 rfl rfl);obtain ⟨v1,w1,rfl⟩:=Cp (c:=c1) (hf 1 _ 1 rfl rfl);obtain ⟨v2,w2,rfl⟩:=Cp (c:=c2) (hf 2 _ 1 rfl rfl);obtain ⟨v3,w3,rfl⟩:=Cp (c:=c3) (hf 3 _ 1 rfl rfl);obtain ⟨d,hdl,e⟩:=SE (cs:=l.take 32) (hf 4 _ 32 rfl rfl);have hl:l.length=68:=by simpa using hl
  have h5:Rd enc w base hd 30 ((l.drop 32).take 1):=hf 5 _ 1 rfl rfl;have h6:Rd enc w base hd 30 ((l.drop 33).take 1):=hf 6 _ 1 rfl rfl;have h7:Rd enc w base hd 3 ((l.drop 34).take 1):=hf 7 _ 1 rfl rfl;obtain ⟨d2,AJ8,e2⟩:=SE (cs:=(l.drop 35).take 32) (hf 8 _ 32 rfl rfl);have h9:Rd enc w base hd 42 ((l.drop 67).take 1):=hf 9 _ 1 rfl rfl;rw [wL AG] at h5 h6 h7 h9;obtain ⟨A,n,c,x,s,e5⟩:=Rl h5;obtain ⟨B,m,b,y,t,e6⟩:=Rl h6;obtain ⟨v7,w7,e7⟩:=Cp h7;obtain ⟨C,k,f,z,u,e9⟩:=nz h9;refine ⟨⟨v0,v1,v2,v3,d,x,y,v7,d2,z⟩,A,n,c,B,m,b,C,k,f,hdl,AJ8,w7,Nu s,Nu t,u.1,?_⟩;have e4:l=d.map (Value.int .u8)++[AA A n c,AA B m b,.int .i64 v7]++d2.map (Value.int .u8)++[AA C k f]:=by
   rw [<-e,<-e2,<-e5,<-e6,<-e7,<-e9];have h3:l.drop 32=[l[32],l[33],l[34]]++l.drop 35:=by rw [g9 AG,g9 AG,g9 AG];rfl
   have h4:l.drop 35=(l.drop 35).take 32++[l[67]]:=by rw [<-wL (k:=67) AG,<-List.drop_drop (i:=32) (j:=35),Cy (l:=(l.drop 35).drop 32) BX,OG]
   rw [Fh,Fh,<-h4,<-h3,OG]
  rw [e4,Et,SB];simp
end
end Go.Proofs.YtpmpddfgifhlbaaGreatDoor
