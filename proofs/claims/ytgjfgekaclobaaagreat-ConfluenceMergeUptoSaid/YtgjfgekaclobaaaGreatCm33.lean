import Derived.Laws.Cover3
import Derived.Test.YtgjfgekaclobaaaGreatCm32
namespace Go.Proofs.YtgjfgekaclobaaaGreat
set_option linter.unusedVariables false
set_option linter.unusedSimpArgs false
open Go.RowKit
section
set_option maxRecDepth 100000
attribute [local irreducible] av aE ad ab
def Im.ok (x:Im):Prop:=okz x.a/\x.n.size<=1099511627776
end
section
set_option maxRecDepth 100000
attribute [local irreducible] av aE ad ab
end
section
set_option maxRecDepth 100000
attribute [local irreducible] av aE ad ab
def Bd.ok (x:Bd):Prop:=x.t.ok/\fB x.t<=1099511627776
end
section
set_option maxRecDepth 100000
attribute [local irreducible] av aE ad ab
end
section
set_option maxRecDepth 100000
attribute [local irreducible] av aE ad ab
end
section
set_option maxRecDepth 100000
attribute [local irreducible] av aE ad ab
end
section
set_option maxRecDepth 100000
attribute [local irreducible] av aE ad ab
end
section
set_option maxRecDepth 100000
attribute [local irreducible] av aE ad ab
end
section
set_option maxRecDepth 100000
attribute [local irreducible] av aE ad ab
end
section
set_option maxRecDepth 100000
attribute [local irreducible] av aE ad ab
end
section
set_option maxRecDepth 100000
attribute [local irreducible] av aE ad ab
end
section
set_option maxRecDepth 100000
attribute [local irreducible] av aE ad ab
end
section
set_option maxRecDepth 100000
attribute [local irreducible] av aE ad ab
end
section
set_option maxRecDepth 100000
attribute [local irreducible] av aE ad ab
end
section
set_option maxRecDepth 100000
attribute [local irreducible] av aE ad ab
end
section
set_option maxRecDepth 100000
attribute [local irreducible] av aE ad ab
end
section
set_option maxRecDepth 100000
attribute [local irreducible] av aE ad ab
end
section
set_option maxRecDepth 100000
attribute [local irreducible] av aE ad ab
def Zy (P:Program) (w0:World) (so:List (Nat × Ob)) (N:Nat) (F:AV) (xs:List AV) (b:Bool):Prop:=∃ gid args,dZ F xs=some (gid,args)/\(∀ a ∈ args,cC N a)/\aE P w0 gid args (au so N) (.v (.bool b)) (au so N)
def El (N:Nat) (o:Ob):Prop:=kH N o/\∀ J,o ≠ .fo J
section
variable {P:Program}{w0:World}{dr:Bool}{N:Nat}{so:List (Nat × Ob)}{T:aa}{α:AA}
theorem ad.fnS {f:QO}{qs:List QO}{F:AV}{l:List AV}{b:Bool}(h:Zy P w0 so N F l b) (hf:f.ev α.tm=F) (ha:qs.map (·.ev α.tm)=l) (hT:xP so N T):ad P w0 dr (.call f qs) α T (.v (.bool b)) T:=by
 obtain⟨gid,args,h1,h2,h3⟩:=h
 exact ad.UY h3 (by rw [hf,ha];exact h1) hT h2 .v
theorem QY {o0 o1 o2:Ob}(h0:T.get 0=some o0) (h1:T.get 1=some o1) (h2:T.get 2=some o2) (hn:Nat.ble 3 T.nx=true) (k0:El 3 o0) (k1:El 3 o1) (k2:El 3 o2):xP [(0,o0),(1,o1),(2,o2)] 3 T:=by
 refine⟨Nat.le_of_ble_eq_true hn,fun j o h=>?_,fun j hj=>?_⟩
 ·match j,h with
  |0,h=>obtain rfl:=Option.some.inj h;exact⟨by decide,h0,k0.1,k0.2⟩
  |1,h=>obtain rfl:=Option.some.inj h;exact⟨by decide,h1,k1.1,k1.2⟩
  |2,h=>obtain rfl:=Option.some.inj h;exact⟨by decide,h2,k2.1,k2.2⟩
  |j+3,h=>cases h
 ·match j,hj with
  |0,_=>exact⟨_,rfl⟩
  |1,_=>exact⟨_,rfl⟩
  |2,_=>exact⟨_,rfl⟩
end
section
variable {w0:World}{ρ:Hd}
theorem sR {o0 o1 o2:Ob}(k0:El 3 o0) (k1:El 3 o1) (k2:El 3 o2) (p:Int->Bool) (l:List Int) (gid:FuncId) (fs cs:List AV) (hl:l.length<=1099511627776) (hF:cC 3 (.fn (.func gid) fs cs)) (h:∀ x ∈ l,Zy Tryz.prog w0 [(0,o0),(1,o1),(2,o2)] 3 (.fn (.func gid) fs cs) [iv x] (p x)) :
  aE Tryz.prog w0 218 [dw ρ fc false l,.fn (.func gid) fs cs] (au [(0,o0),(1,o1),(2,o2)] 3) (iv (nN p l 0)) (au [(0,o0),(1,o1),(2,o2)] 3):=by
 obtain⟨R,hR⟩:∃ R,R=nN p l 0:=⟨_,rfl⟩
 rw [<-hR]
 refine bQ.jl 3 3 _ UW (by simp [Tryz.ntmps218]) rfl rfl ?_
 refine gq fO ?_
 repeat' (first
  |(refine bq (fun hb=>?_) (fun hb=>?_)<;>(try simp only [bS] at hb)<;>(first|exact absurd hb (by decide)|refine gq fO ?_))
  |(refine bK fun m hm=>?_;(try rw [aF] at hm);refine gq fO ?_)
  |(refine bH fun _ _=>?_;refine gq fO ?_)
  |(refine dx fun _ _=>?_;refine gq fO ?_)
  |(refine ab.str rfl (ad.cat rfl rfl (by assumption)) fun _ _=>?_;refine gq fO ?_)
  |(refine ab.bh ?_;refine gq fO ?_)
  |(refine ab.bO ?_;refine gq fO ?_)
  |(refine fq ?_))
 refine ab.iK (σ:=Int) 3 3 [] (fun i=>[(0,dw ρ fc false l),(1,.fn (.func gid) fs cs),(7,.v (.int .i64 m)),(8,.v (.int .i64 i))]) [] (fun _=>[(0,o0),(1,o1),(2,o2)])
  (fun i=>∃ k:Nat,i=k/\k<=l.length/\R=nN p (l.drop k) k) (fun i=>l.length - i.toNat) 0 ⟨0,rfl,by simp,by simpa using hR⟩ rfl ⟨⟨.aJ rfl (Pure.bT (g9 _)),.aJ rfl hF,.aJ rfl .v,.aJ rfl .v,trivial⟩,rfl,⟨.inl ⟨_,rfl,.same k0.1⟩,.inl ⟨_,rfl,.same k1.1⟩,.inl ⟨_,rfl,.same k2.1⟩,trivial⟩,rfl,rfl,rfl⟩ ?_
 rintro i ⟨k,hi,hk,hp⟩
 clear hR
 refine gq fO ?_
 by_cases aB:k < l.length
 ·obtain⟨x,hx,iN⟩:=oA aB
  rw [iN,nN] at hp
  have hf:=h x (BF hx)
  obtain⟨B,hB⟩:∃ B,B=p x:=⟨_,rfl⟩
  rw [<-hB] at hp hf
  repeat' (first
   |(refine ab.op rfl (ad.ind rfl rfl (ky (l:=l) hi hx) (kz fun _=>rfl)) ?_;refine gq fO ?_)
   |(refine ab.bif rfl (ad.fnS hf rfl rfl (QY rfl rfl rfl rfl k0 k1 k2)) (fun _=>?_) (fun _=>?_)<;>refine gq fO ?_)
   |(refine bq (fun hb=>?_) (fun hb=>?_)<;>(try simp only [bS] at hb)<;>(first|exact absurd hb (by decide)|refine gq fO ?_))
   |(refine bK fun m hm=>?_;(try rw [aF] at hm);refine gq fO ?_)
   |(refine bH fun _ _=>?_;refine gq fO ?_)
   |(refine dx fun _ _=>?_;refine gq fO ?_)
   |(refine ab.str rfl (ad.cat rfl rfl (by assumption)) fun _ _=>?_;refine gq fO ?_)
   |(refine ab.bh ?_;refine gq fO ?_)
   |(refine ab.bO ?_;refine gq fO ?_)
   |(refine fq ?_))
  all_goals first
   |(exfalso;omega)
   |(rw [if_pos (by assumption)] at hp;rw [show R=i by omega];exact⟨[],.aJ .v,⟨.inl ⟨_,rfl,.same k0.1⟩,.inl ⟨_,rfl,.same k1.1⟩,.inl ⟨_,rfl,.same k2.1⟩,trivial⟩,rfl⟩)
   |(rw [if_neg (by rw [show B=false by assumption];simp)] at hp
     refine ab.d_ (σ:=Int) _ [] ?_ ?_ ⟨⟨.aJ rfl (Pure.bT (g9 _)),.aJ rfl hF,.aJ rfl .v,.aJ rfl .v,trivial⟩,rfl,⟨.inl ⟨_,rfl,.same k0.1⟩,.inl ⟨_,rfl,.same k1.1⟩,.inl ⟨_,rfl,.same k2.1⟩,trivial⟩,rfl,rfl,rfl⟩
     ·exact⟨k+1,by omega,by omega,hp⟩
     ·omega)
 ·skip
  repeat' (first
   |(refine bq (fun hb=>?_) (fun hb=>?_)<;>(try simp only [bS] at hb)<;>(first|exact absurd hb (by decide)|refine gq fO ?_))
   |(refine bK fun m hm=>?_;(try rw [aF] at hm);refine gq fO ?_)
   |(refine bH fun _ _=>?_;refine gq fO ?_)
   |(refine dx fun _ _=>?_;refine gq fO ?_)
   |(refine ab.str rfl (ad.cat rfl rfl (by assumption)) fun _ _=>?_;refine gq fO ?_)
   |(refine ab.bh ?_;refine gq fO ?_)
   |(refine ab.bO ?_;refine gq fO ?_)
   |(refine fq ?_))
  all_goals first
   |(exfalso;omega)
   |(rw [show R=-1 by rw [hp,List.drop_eq_nil_of_le (by omega)];rfl];exact⟨[],.aJ .v,⟨.inl ⟨_,rfl,.same k0.1⟩,.inl ⟨_,rfl,.same k1.1⟩,.inl ⟨_,rfl,.same k2.1⟩,trivial⟩,rfl⟩)
end
end
section
set_option maxRecDepth 100000
attribute [local irreducible] av aE ad ab
end
section
variable {P:Program}{w0:World}{α:AA}{S:aa}
theorem Ly {v:Value}(h:lift v=.sl true []):v=.slice none 0 0:=by
 have h1:∀ v,a8 v=.sl true []->v=.slice none 0 0:=by
  intro v h
  unfold a8 at h
  split at h
  ·rfl
  ·cases h
 cases v with
 |agg cs=>cases h
 |_=>exact h1 _ h
theorem SL {u:Operand}(h:.c (.sl true [])=qo u):u=.const (.slice none 0 0):=by
 cases u with
 |const v =>
  injection h with h
  rw [Ly h.symm]
 |_=>cases h
theorem Em {o:Op}{op:BinOp}{x:QO}(h:res P.toTables o=some (.bin op .s x (.c (.sl true [])))):∃ t u s e,o=.binOp op t u (.const (.slice none 0 0)) s/\x=qo u/\P.underlying t=some (.slice e):=by
 cases o with
 |binOp RN t u v s =>
  simp only [res,a7] at h
  split at h
  ·cases h
  ·rename_i e hu
   simp only [Option.some.injEq,cB.bin.injEq] at h
   obtain⟨rfl,_,rfl,h4⟩:=h
   rw [SL h4.symm]
   exact⟨_,_,_,_,rfl,rfl,hu⟩
  ·cases h
  ·cases h
  ·split at h<;>cases h
  ·cases h
 |_ =>
  simp only [res] at h
  repeat' split at h
  all_goals cases h
def BV:AV->Option Bool
 |.sl _ (_::_)=>some false
 |.ob ..=>some false
 |.gr _ _ (_+1)=>some false
 |.v (.slice A _ _)=>some A.isNone
 |_=>none
theorem Lz {g:Gh}{w:World}{a:AV}{x:Value}{b:Bool}(h:BV a=some b) (hr:aA g w a x):∃ A l c,x=.slice A l c/\A.isNone=b:=by
 unfold BV at h
 split at h
 ·cases hr with
  |sl=>obtain rfl:=Option.some.inj h;exact⟨_,_,_,rfl,rfl⟩
 ·cases hr with
  |ob=>obtain rfl:=Option.some.inj h;exact⟨_,_,_,rfl,rfl⟩
 ·cases hr with
  |gr=>obtain rfl:=Option.some.inj h;exact⟨_,_,_,rfl,rfl⟩
 ·cases hr with
  |v=>obtain rfl:=Option.some.inj h;exact⟨_,_,_,rfl,rfl⟩
 ·cases h
def yQ (op:BinOp) (b:Bool):Option Bool:=match op with
 |.eql=>some b
 |.neq=>some (!b)
 |_=>none
theorem En {op:BinOp}{x:QO}{b d:Bool}{n:Nat}{o:Oper}(hr:res P.toTables o.op=some (.bin op .s x (.c (.sl true [])))) (β:AA) (hx:BV (x.ev β.tm)=some b) (hd:yQ op b=some d):de P w0 n o β S (.v (.bool d)) S:=by
 obtain⟨t,u,s,e,ho,rfl,hu⟩:=Em hr
 rw [aD] at hx
 refine aI.ops (aI.quiet fun A g c w hS hA=>⟨.bool d,?_,.v⟩) fun c e=>by rw [ho] at e;cases e
 obtain⟨B,l,cc,h1,rfl⟩:=Lz hx (hA.ev u)
 have h2:c.eval (.const (.slice none 0 0))=.slice none 0 0:=rfl
 cases op<;>cases hd
 ·simp [execOp,ho,h1,eqGuard,h2,binOp,run_equal_slice_nil w t e B l cc hu]
 ·simp [execOp,ho,h1,eqGuard,h2,binOp,run_equal_slice_nil w t e B l cc hu]
theorem ad.nil {dr:Bool}{op:BinOp}{x:QO}{b d:Bool}(hx:BV (x.ev α.tm)=some b) (hd:yQ op b=some d):ad P w0 dr (.bin op .s x (.c (.sl true []))) α S (.v (.bool d)) S:=by
 cases dr with
 |false=>exact fun n o hr=>En hr α hx hd
 |true =>
  intro n o hr
  obtain⟨t,u,s,e,ho,hu,_⟩:=Em hr
  have key:∀ z ∈ o.op.operands,(α.only (bU o)).ev z=α.ev z:=fun z hz=>dM fun t e=>dA (by rw [<-e];exact hz)
  have h1:(α.only (bU o)).ev u=α.ev u:=key u (by rw [ho];simp [Op.operands])
  have h3:∀ T,de P w0 n o (α.only (bU o)) T (.v (.bool d)) T:=fun T=>En hr _ (by rw [hu,aD,h1,<-aD,<-hu];exact hx) hd
  exact⟨h3 S,fun _=>⟨rfl,h3⟩,fun _=>rfl⟩
theorem JI {v:Value}(h:lift v=.v (.pointer none)):v=.pointer none:=by
 have h1:∀ v,a8 v=.v (.pointer none)->v=.pointer none:=by
  intro v h
  unfold a8 at h
  split at h
  ·cases h
  ·injection h
 cases v with
 |agg cs=>cases h
 |_=>exact h1 _ h
theorem QZ {u:Operand}(h:.c (.v (.pointer none))=qo u):u=.const (.pointer none):=by
 cases u with
 |const v =>
  injection h with h
  rw [JI h.symm]
 |_=>cases h
theorem BW {o:Op}{op:BinOp}{x:QO}(h:res P.toTables o=some (.bin op .p x (.c (.v (.pointer none))))):∃ t u s a,o=.binOp op t u (.const (.pointer none)) s/\x=qo u/\P.underlying t=some (.pointer a):=by
 cases o with
 |binOp RN t u v s =>
  simp only [res,a7] at h
  split at h
  ·cases h
  ·cases h
  ·cases h
  ·rename_i a hu
   simp only [Option.some.injEq,cB.bin.injEq] at h
   obtain⟨rfl,_,rfl,h4⟩:=h
   rw [QZ h4.symm]
   exact⟨_,_,_,_,rfl,rfl,hu⟩
  ·split at h<;>cases h
  ·cases h
 |_ =>
  simp only [res] at h
  repeat' split at h
  all_goals cases h
def BX:AV->Option Bool
 |.pt ..=>some false
 |.ip ..=>some false
 |.v (.pointer A)=>some A.isNone
 |_=>none
theorem LA {g:Gh}{w:World}{a:AV}{x:Value}{b:Bool}(h:BX a=some b) (hr:aA g w a x):∃ A,x=.pointer A/\A.isNone=b:=by
 unfold BX at h
 split at h
 ·cases hr with
  |pt=>obtain rfl:=Option.some.inj h;exact⟨_,rfl,rfl⟩
 ·cases hr with
  |ip=>obtain rfl:=Option.some.inj h;exact⟨_,rfl,rfl⟩
 ·cases hr with
  |v=>obtain rfl:=Option.some.inj h;exact⟨_,rfl,rfl⟩
 ·cases h
theorem sC (w:World) (d:Nat) {t:TypeId}{a}(h:P.underlying t=some (.pointer a)) (A:Option Addr):(Op.equalIn (d+1) t (.pointer A) (.pointer none)).run P w=.ok A.isNone w:=by
 cases A<;>simp [Op.equalIn,run_underlying h]
theorem vg (w:World) {t:TypeId}{a}(h:P.underlying t=some (.pointer a)) (A:Option Addr):(Op.equal t (.pointer A) (.pointer none)).run P w=.ok A.isNone w:=sC w 9999 h A
theorem BY {op:BinOp}{x:QO}{b d:Bool}{n:Nat}{o:Oper}(hr:res P.toTables o.op=some (.bin op .p x (.c (.v (.pointer none))))) (β:AA) (hx:BX (x.ev β.tm)=some b) (hd:yQ op b=some d):de P w0 n o β S (.v (.bool d)) S:=by
 obtain⟨t,u,s,e1,ho,rfl,hu⟩:=BW hr
 rw [aD] at hx
 refine aI.ops (aI.quiet fun A g c w hS hA=>⟨.bool d,?_,.v⟩) fun c e=>by rw [ho] at e;cases e
 have h2:c.eval (.const (.pointer none))=.pointer none:=rfl
 obtain⟨B,h1,rfl⟩:=LA hx (hA.ev u)
 have hq:=vg w hu B
 cases op<;>cases hd<;>simp [execOp,ho,h1,eqGuard,h2,binOp,hq]
theorem ad.aaD {dr:Bool}{op:BinOp}{x:QO}{b d:Bool}(hx:BX (x.ev α.tm)=some b) (hd:yQ op b=some d):ad P w0 dr (.bin op .p x (.c (.v (.pointer none)))) α S (.v (.bool d)) S:=by
 cases dr with
 |false=>exact fun n o hr=>BY hr α hx hd
 |true =>
  intro n o hr
  obtain⟨t,u,s,_,ho,hu,_⟩:=BW hr
  have key:∀ z ∈ o.op.operands,(α.only (bU o)).ev z=α.ev z:=fun z hz=>dM fun t e=>dA (by rw [<-e];exact hz)
  have h1:(α.only (bU o)).ev u=α.ev u:=key u (by rw [ho];simp [Op.operands])
  have h3:∀ T,de P w0 n o (α.only (bU o)) T (.v (.bool d)) T:=fun T=>BY hr _ (by rw [hu,aD,h1,<-aD,<-hu];exact hx) hd
  exact⟨h3 S,fun _=>⟨rfl,h3⟩,fun _=>rfl⟩
end
end Go.Proofs.YtgjfgekaclobaaaGreat
