import Derived.Test.YtbofilglphfceaaGreatQ23
namespace Go.Proofs.YtbofilglphfceaaGreat
set_option linter.unusedVariables false
set_option linter.unusedSimpArgs false
open Go.RowKit
section
set_option maxRecDepth 100000
attribute [local irreducible] ah bc ad ab
def Jy (P:Program) (w0:World) (so:List (Nat × Ob)) (N:Nat) (F:AV) (xs:List AV) (b:Bool):Prop:=∃ gid args,eL F xs=some (gid,args)/\(∀ a ∈ args,dH N a)/\bc P w0 gid args (aM so N) (.v (.bool b)) (aM so N)
def nv (N:Nat) (o:Ob):Prop:=oy N o/\∀ J,o ≠ .fo J
section
variable {P:Program}{w0:World}{dr:Bool}{N:Nat}{so:List (Nat × Ob)}{T:ae}{α:AA}
theorem ad.TZ {f:QO}{qs:List QO}{F:AV}{l:List AV}{b:Bool}(h:Jy P w0 so N F l b) (hf:f.ev α.tm=F) (ha:qs.map (·.ev α.tm)=l) (hT:uL so N T):ad P w0 dr (.call f qs) α T (.v (.bool b)) T:=by
 obtain⟨gid,args,h1,h2,h3⟩:=h
 exact ad.vM h3 (by rw [hf,ha];exact h1) hT h2 .v
theorem ss {o0 o1:Ob}(h0:T.get 0=some o0) (h1:T.get 1=some o1) (hn:Nat.ble 2 T.nx=true) (k0:nv 2 o0) (k1:nv 2 o1):uL [(0,o0),(1,o1)] 2 T:=by
 refine⟨Nat.le_of_ble_eq_true hn,fun j o h=>?_,fun j hj=>?_⟩
 ·match j,h with
  |0,h=>obtain rfl:=Option.some.inj h;exact⟨by decide,h0,k0.1,k0.2⟩
  |1,h=>obtain rfl:=Option.some.inj h;exact⟨by decide,h1,k1.1,k1.2⟩
  |j+2,h=>cases h
 ·match j,hj with
  |0,_=>exact⟨_,rfl⟩
  |1,_=>exact⟨_,rfl⟩
theorem zF {o0 o1 o2:Ob}(h0:T.get 0=some o0) (h1:T.get 1=some o1) (h2:T.get 2=some o2) (hn:Nat.ble 3 T.nx=true) (k0:nv 3 o0) (k1:nv 3 o1) (k2:nv 3 o2):uL [(0,o0),(1,o1),(2,o2)] 3 T:=by
 refine⟨Nat.le_of_ble_eq_true hn,fun j o h=>?_,fun j hj=>?_⟩
 ·match j,h with
  |0,h=>obtain rfl:=Option.some.inj h;exact⟨by decide,h0,k0.1,k0.2⟩
  |1,h=>obtain rfl:=Option.some.inj h;exact⟨by decide,h1,k1.1,k1.2⟩
  |2,h=>obtain rfl:=Option.some.inj h;exact⟨by decide,h2,k2.1,k2.2⟩
  |j+3,h=>cases h
 ·match j,hj with
  |0,_=>exact⟨_,rfl⟩
  |1,_=>exact⟨_,rfl⟩
  |2,_=>exact⟨_,rfl⟩
end
section
variable {w0:World}{ρ:Hd}
theorem Jz {o0 o1:Ob}(k0:nv 2 o0) (k1:nv 2 o1) (p:Gl->Bool) (l:List Gl) (gid:FuncId) (fs cs:List AV) (hl:l.length<=1099511627776) (hF:dH 2 (.fn (.func gid) fs cs)) (h:∀ x ∈ l,Jy Tryz.prog w0 [(0,o0),(1,o1)] 2 (.fn (.func gid) fs cs) [gl ρ x] (p x)) :
  bc Tryz.prog w0 47 [cO ρ l,.fn (.func gid) fs cs] (aM [(0,o0),(1,o1)] 2) (.v (.bool (l.all p))) (aM [(0,o0),(1,o1)] 2):=by
 obtain⟨R,hR⟩:∃ R,R=l.all p:=⟨_,rfl⟩
 rw [<-hR]
 refine aH.jM 2 2 _ abv (by simp [Tryz.ntmps47]) rfl rfl ?_
 refine gq uA ?_
 repeat' (first
  |(refine aB fun m hm=>?_;(try rw [af] at hm);refine gq uA ?_)
  )
 refine ab.aP (σ:=Int) 2 2 [] (fun i=>[(1,.fn (.func gid) fs cs),(7,cO ρ l),(8,.v (.int .i64 m)),(9,.v (.int .i64 i))]) [] (fun _=>[(0,o0),(1,o1)])
  (fun i=>∃ k:Nat,i=k/\k<=l.length/\R=(l.drop k).all p) (fun i=>l.length - i.toNat) 0 ⟨0,rfl,by simp,by simpa using hR⟩ rfl ⟨⟨.aD rfl hF,.aD rfl (Pure.b_ (bw _)),.aD rfl .v,.aD rfl .v,trivial⟩,rfl,⟨.inl ⟨_,rfl,.same k0.1⟩,.inl ⟨_,rfl,.same k1.1⟩,trivial⟩,rfl,rfl,rfl⟩ ?_
 rintro i ⟨k,hi,hk,hp⟩
 clear hR
 refine gq uA ?_
 by_cases au:k < l.length
 ·obtain⟨x,hx,aO⟩:=az au
  rw [aO,List.all_cons] at hp
  have hf:=h x (aY hx)
  obtain⟨B,hB⟩:∃ B,B=p x:=⟨_,rfl⟩
  rw [<-hB] at hp hf
  repeat' (first
   |(refine ab.op rfl (ad.ind rfl rfl (ay (l:=l) hi hx) (aw fun _=>rfl)) ?_;refine gq uA ?_)
   |(refine ab.a_ rfl (ad.TZ hf rfl rfl (ss rfl rfl rfl k0 k1)) (fun _=>?_) (fun _=>?_)<;>refine gq uA ?_)
   |(refine bq (fun hb=>?_) (fun hb=>?_)<;>(try simp only [aq] at hb)<;>(first|refine gq uA ?_))
   |(refine aS fun _ _=>?_;refine gq uA ?_)
   |(refine ab.ao ?_;refine gq uA ?_)
   |(refine ab.bJ ?_;refine gq uA ?_)
   |(refine fq ?_))
  all_goals first
   |(exfalso;omega)
   |(rw [show R=false by rw [hp,show B=false by assumption];rfl];exact⟨[],.aD .v,⟨.inl ⟨_,rfl,.same k0.1⟩,.inl ⟨_,rfl,.same k1.1⟩,trivial⟩,rfl⟩)
   |(refine ab.aL (σ:=Int) _ [] ?_ ?_ ⟨⟨.aD rfl hF,.aD rfl (Pure.b_ (bw _)),.aD rfl .v,.aD rfl .v,trivial⟩,rfl,⟨.inl ⟨_,rfl,.same k0.1⟩,.inl ⟨_,rfl,.same k1.1⟩,trivial⟩,rfl,rfl,rfl⟩
     ·exact⟨k+1,by omega,by omega,by rw [hp,show B=true by assumption];rfl⟩
     ·omega)
 ·skip
  repeat' (first
   |(refine bq (fun hb=>?_) (fun hb=>?_)<;>(try simp only [aq] at hb)<;>(first|refine gq uA ?_))
   |(refine ab.ao ?_;refine gq uA ?_)
   |(refine fq ?_))
  all_goals first
   |(exfalso;omega)
   |(rw [show R=true by rw [hp,List.drop_eq_nil_of_le (by omega)];rfl];exact⟨[],.aD .v,⟨.inl ⟨_,rfl,.same k0.1⟩,.inl ⟨_,rfl,.same k1.1⟩,trivial⟩,rfl⟩)
theorem T5 {o0 o1:Ob}(k0:nv 2 o0) (k1:nv 2 o1) (p:Im->Bool) (l:List Im) (gid:FuncId) (fs cs:List AV) (hl:l.length<=1099511627776) (hF:dH 2 (.fn (.func gid) fs cs)) (h:∀ x ∈ l,Jy Tryz.prog w0 [(0,o0),(1,o1)] 2 (.fn (.func gid) fs cs) [it ρ x] (p x)) :
  bc Tryz.prog w0 49 [fJ ρ l,.fn (.func gid) fs cs] (aM [(0,o0),(1,o1)] 2) (.v (.bool (l.all p))) (aM [(0,o0),(1,o1)] 2):=by
 obtain⟨R,hR⟩:∃ R,R=l.all p:=⟨_,rfl⟩
 rw [<-hR]
 refine aH.jM 2 2 _ abw (by simp [Tryz.ntmps49]) rfl rfl ?_
 refine gq uB ?_
 repeat' (first
  |(refine aB fun m hm=>?_;(try rw [af] at hm);refine gq uB ?_)
  )
 refine ab.aP (σ:=Int) 2 2 [] (fun i=>[(1,.fn (.func gid) fs cs),(7,fJ ρ l),(8,.v (.int .i64 m)),(9,.v (.int .i64 i))]) [] (fun _=>[(0,o0),(1,o1)])
  (fun i=>∃ k:Nat,i=k/\k<=l.length/\R=(l.drop k).all p) (fun i=>l.length - i.toNat) 0 ⟨0,rfl,by simp,by simpa using hR⟩ rfl ⟨⟨.aD rfl hF,.aD rfl (Pure.b_ (cb _)),.aD rfl .v,.aD rfl .v,trivial⟩,rfl,⟨.inl ⟨_,rfl,.same k0.1⟩,.inl ⟨_,rfl,.same k1.1⟩,trivial⟩,rfl,rfl,rfl⟩ ?_
 rintro i ⟨k,hi,hk,hp⟩
 clear hR
 refine gq uB ?_
 by_cases au:k < l.length
 ·obtain⟨x,hx,aO⟩:=az au
  rw [aO,List.all_cons] at hp
  have hf:=h x (aY hx)
  obtain⟨B,hB⟩:∃ B,B=p x:=⟨_,rfl⟩
  rw [<-hB] at hp hf
  repeat' (first
   |(refine ab.op rfl (ad.ind rfl rfl (ay (l:=l) hi hx) (aw fun _=>rfl)) ?_;refine gq uB ?_)
   |(refine ab.a_ rfl (ad.TZ hf rfl rfl (ss rfl rfl rfl k0 k1)) (fun _=>?_) (fun _=>?_)<;>refine gq uB ?_)
   |(refine bq (fun hb=>?_) (fun hb=>?_)<;>(try simp only [aq] at hb)<;>(first|refine gq uB ?_))
   |(refine aS fun _ _=>?_;refine gq uB ?_)
   |(refine ab.ao ?_;refine gq uB ?_)
   |(refine ab.bJ ?_;refine gq uB ?_)
   |(refine fq ?_))
  all_goals first
   |(exfalso;omega)
   |(rw [show R=false by rw [hp,show B=false by assumption];rfl];exact⟨[],.aD .v,⟨.inl ⟨_,rfl,.same k0.1⟩,.inl ⟨_,rfl,.same k1.1⟩,trivial⟩,rfl⟩)
   |(refine ab.aL (σ:=Int) _ [] ?_ ?_ ⟨⟨.aD rfl hF,.aD rfl (Pure.b_ (cb _)),.aD rfl .v,.aD rfl .v,trivial⟩,rfl,⟨.inl ⟨_,rfl,.same k0.1⟩,.inl ⟨_,rfl,.same k1.1⟩,trivial⟩,rfl,rfl,rfl⟩
     ·exact⟨k+1,by omega,by omega,by rw [hp,show B=true by assumption];rfl⟩
     ·omega)
 ·skip
  repeat' (first
   |(refine bq (fun hb=>?_) (fun hb=>?_)<;>(try simp only [aq] at hb)<;>(first|refine gq uB ?_))
   |(refine ab.ao ?_;refine gq uB ?_)
   |(refine fq ?_))
  all_goals first
   |(exfalso;omega)
   |(rw [show R=true by rw [hp,List.drop_eq_nil_of_le (by omega)];rfl];exact⟨[],.aD .v,⟨.inl ⟨_,rfl,.same k0.1⟩,.inl ⟨_,rfl,.same k1.1⟩,trivial⟩,rfl⟩)
theorem sS {o0 o1 o2:Ob}(k0:nv 3 o0) (k1:nv 3 o1) (k2:nv 3 o2) (p:Int->Bool) (l:List Int) (gid:FuncId) (fs cs:List AV) (hl:l.length<=1099511627776) (hF:dH 3 (.fn (.func gid) fs cs)) (h:∀ x ∈ l,Jy Tryz.prog w0 [(0,o0),(1,o1),(2,o2)] 3 (.fn (.func gid) fs cs) [iv x] (p x)) :
  bc Tryz.prog w0 203 [b8 ρ bF false l,.fn (.func gid) fs cs] (aM [(0,o0),(1,o1),(2,o2)] 3) (iv (dD p l 0)) (aM [(0,o0),(1,o1),(2,o2)] 3):=by
 obtain⟨R,hR⟩:∃ R,R=dD p l 0:=⟨_,rfl⟩
 rw [<-hR]
 refine aH.jM 3 3 _ OE (by simp [Tryz.ntmps203]) rfl rfl ?_
 refine gq iI ?_
 repeat' (first
  |(refine aB fun m hm=>?_;(try rw [af] at hm);refine gq iI ?_)
  )
 refine ab.aP (σ:=Int) 3 3 [] (fun i=>[(0,b8 ρ bF false l),(1,.fn (.func gid) fs cs),(7,.v (.int .i64 m)),(8,.v (.int .i64 i))]) [] (fun _=>[(0,o0),(1,o1),(2,o2)])
  (fun i=>∃ k:Nat,i=k/\k<=l.length/\R=dD p (l.drop k) k) (fun i=>l.length - i.toNat) 0 ⟨0,rfl,by simp,by simpa using hR⟩ rfl ⟨⟨.aD rfl (Pure.b_ (bQ _)),.aD rfl hF,.aD rfl .v,.aD rfl .v,trivial⟩,rfl,⟨.inl ⟨_,rfl,.same k0.1⟩,.inl ⟨_,rfl,.same k1.1⟩,.inl ⟨_,rfl,.same k2.1⟩,trivial⟩,rfl,rfl,rfl⟩ ?_
 rintro i ⟨k,hi,hk,hp⟩
 clear hR
 refine gq iI ?_
 by_cases au:k < l.length
 ·obtain⟨x,hx,aO⟩:=az au
  rw [aO,dD] at hp
  have hf:=h x (aY hx)
  obtain⟨B,hB⟩:∃ B,B=p x:=⟨_,rfl⟩
  rw [<-hB] at hp hf
  repeat' (first
   |(refine ab.op rfl (ad.ind rfl rfl (ay (l:=l) hi hx) (aw fun _=>rfl)) ?_;refine gq iI ?_)
   |(refine ab.a_ rfl (ad.TZ hf rfl rfl (zF rfl rfl rfl rfl k0 k1 k2)) (fun _=>?_) (fun _=>?_)<;>refine gq iI ?_)
   |(refine bq (fun hb=>?_) (fun hb=>?_)<;>(try simp only [aq] at hb)<;>(first|refine gq iI ?_))
   |(refine aS fun _ _=>?_;refine gq iI ?_)
   |(refine ab.ao ?_;refine gq iI ?_)
   |(refine ab.bJ ?_;refine gq iI ?_)
   |(refine fq ?_))
  all_goals first
   |(exfalso;omega)
   |(rw [if_pos (by assumption)] at hp;rw [show R=i by omega];exact⟨[],.aD .v,⟨.inl ⟨_,rfl,.same k0.1⟩,.inl ⟨_,rfl,.same k1.1⟩,.inl ⟨_,rfl,.same k2.1⟩,trivial⟩,rfl⟩)
   |(rw [if_neg (by rw [show B=false by assumption];simp)] at hp
     refine ab.aL (σ:=Int) _ [] ?_ ?_ ⟨⟨.aD rfl (Pure.b_ (bQ _)),.aD rfl hF,.aD rfl .v,.aD rfl .v,trivial⟩,rfl,⟨.inl ⟨_,rfl,.same k0.1⟩,.inl ⟨_,rfl,.same k1.1⟩,.inl ⟨_,rfl,.same k2.1⟩,trivial⟩,rfl,rfl,rfl⟩
     ·exact⟨k+1,by omega,by omega,hp⟩
     ·omega)
 ·skip
  repeat' (first
   |(refine bq (fun hb=>?_) (fun hb=>?_)<;>(try simp only [aq] at hb)<;>(first|refine gq iI ?_))
   |(refine ab.ao ?_;refine gq iI ?_)
   |(refine fq ?_))
  all_goals first
   |(exfalso;omega)
   |(rw [show R=-1 by rw [hp,List.drop_eq_nil_of_le (by omega)];rfl];exact⟨[],.aD .v,⟨.inl ⟨_,rfl,.same k0.1⟩,.inl ⟨_,rfl,.same k1.1⟩,.inl ⟨_,rfl,.same k2.1⟩,trivial⟩,rfl⟩)
theorem abC {o0 o1 o2:Ob}(k0:nv 3 o0) (k1:nv 3 o1) (k2:nv 3 o2) (p:Int->Bool) (l:List Int) (gid:FuncId) (fs cs:List AV) (hl:l.length<=1099511627776) (hF:dH 3 (.fn (.func gid) fs cs)) (h:∀ x ∈ l,Jy Tryz.prog w0 [(0,o0),(1,o1),(2,o2)] 3 (.fn (.func gid) fs cs) [iv x] (p x)) :
  bc Tryz.prog w0 118 [b8 ρ bF false l,.fn (.func gid) fs cs] (aM [(0,o0),(1,o1),(2,o2)] 3) (.v (.bool (l.any p))) (aM [(0,o0),(1,o1),(2,o2)] 3):=by
 have hI:=sS (w0:=w0) (ρ:=ρ) k0 k1 k2 p l gid fs cs hl hF h
 have km:=nM p l 0
 obtain⟨j,hj⟩:∃ j,j=dD p l 0:=⟨_,rfl⟩
 rw [<-hj] at hI km
 obtain⟨R,hR⟩:∃ R,R=l.any p:=⟨_,rfl⟩
 rw [<-hR] at km ⊢
 refine aH.jM 3 3 _ OI (by simp [Tryz.ntmps118]) rfl rfl ?_
 refine gq zE ?_
 repeat' (first
  |(refine ab.int rfl (ad.vM hI rfl (zF rfl rfl rfl rfl k0 k1 k2) (fun a ha=>by simp only [List.mem_cons,List.not_mem_nil,or_false] at ha;rcases ha with rfl|rfl;exact Pure.b_ (bQ _);exact hF) .v) fun _ _=>?_;refine gq zE ?_)
  |(refine bq (fun hb=>?_) (fun hb=>?_)<;>(try simp only [aq] at hb)<;>(first|refine gq zE ?_))
  |(refine fq ?_))
 all_goals first
  |(rw [show R=true by rw [<-km];exact decide_eq_true (by omega)];exact⟨[],.aD .v,⟨.inl ⟨_,rfl,.same k0.1⟩,.inl ⟨_,rfl,.same k1.1⟩,.inl ⟨_,rfl,.same k2.1⟩,trivial⟩,rfl⟩)
  |(rw [show R=false by rw [<-km];exact decide_eq_false (by omega)];exact⟨[],.aD .v,⟨.inl ⟨_,rfl,.same k0.1⟩,.inl ⟨_,rfl,.same k1.1⟩,.inl ⟨_,rfl,.same k2.1⟩,trivial⟩,rfl⟩)
end
end
end Go.Proofs.YtbofilglphfceaaGreat
