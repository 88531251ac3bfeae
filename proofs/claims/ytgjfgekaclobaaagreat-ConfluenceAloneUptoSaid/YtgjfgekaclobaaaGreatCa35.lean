import Derived.Test.YtgjfgekaclobaaaGreatCa34
namespace Go.Proofs.YtgjfgekaclobaaaGreat
set_option linter.unusedVariables false
set_option linter.unusedSimpArgs false
open Go.RowKit
section
set_option maxRecDepth 100000
attribute [local irreducible] ah aK ae aa
def tF (l:List At):List Tm:=l.flatMap (·.a)
def tG (l:List Gl):List Tm:=l.flatMap (·.a)
end
section
set_option maxRecDepth 100000
attribute [local irreducible] ah aK ae aa
end
section
set_option maxRecDepth 100000
attribute [local irreducible] ah aK ae aa
end
section
set_option maxRecDepth 100000
attribute [local irreducible] ah aK ae aa
structure rsm (r:Rl):Prop where
 h:r.a7.length+r.rem.length<=549755813888
 g:r.guard.length+r.body.length<=549755813888
 a:(tF (r.a7++r.rem)++tG (r.guard++r.body)).length<=549755813888
 k:mc (tF (r.a7++r.rem)++tG (r.guard++r.body))
 v:(dL (tF (r.a7++r.rem)++tG (r.guard++r.body))).length<=1099511627776
end
section
set_option maxRecDepth 100000
attribute [local irreducible] ah aK ae aa
end
section
set_option maxRecDepth 100000
attribute [local irreducible] ah aK ae aa
end

section
set_option maxRecDepth 100000
attribute [local irreducible] ah aK ae aa
end
section
set_option maxRecDepth 100000
attribute [local irreducible] ah aK ae aa
def FnS (P:Program) (w0:World) (so:List (Nat × Ob)) (N:Nat) (F:AV) (xs:List AV) (b:Bool):Prop:=∃ gid args,dM F xs=some (gid,args)/\(∀ a ∈ args,dg N a)/\aK P w0 gid args (au so N) (.v (.bool b)) (au so N)
def I8 (N:Nat) (o:Ob):Prop:=fV N o/\∀ J,o ≠ .fo J
section
variable {P:Program}{w0:World}{dr:Bool}{N:Nat}{so:List (Nat × Ob)}{T:ad}{α:AA}
theorem ae.fnS {f:QO}{qs:List QO}{F:AV}{l:List AV}{b:Bool}(h:FnS P w0 so N F l b) (hf:f.ev α.tm=F) (ha:qs.map (·.ev α.tm)=l) (hT:Bu so N T):ae P w0 dr (.call f qs) α T (.v (.bool b)) T:=by
 obtain⟨gid,args,h1,h2,h3⟩:=h
 exact ae.adF h3 (by rw [hf,ha];exact h1) hT h2 .v
theorem Yi {o0 o1 o2:Ob}(h0:T.get 0=some o0) (h1:T.get 1=some o1) (h2:T.get 2=some o2) (hn:Nat.ble 3 T.nx=true) (k0:I8 3 o0) (k1:I8 3 o1) (k2:I8 3 o2):Bu [(0,o0),(1,o1),(2,o2)] 3 T:=by
 refine⟨Nat.le_of_ble_eq_true hn,fun j o h=>?_,fun j hj=>?_⟩
 ·match j,h with
  |0,h=>obtain rfl:=oJ_ h;exact⟨by decide,h0,k0.1,k0.2⟩
  |1,h=>obtain rfl:=oJ_ h;exact⟨by decide,h1,k1.1,k1.2⟩
  |2,h=>obtain rfl:=oJ_ h;exact⟨by decide,h2,k2.1,k2.2⟩
  |j+3,h=>cases h
 ·match j,hj with
  |0,_=>exact⟨_,rfl⟩
  |1,_=>exact⟨_,rfl⟩
  |2,_=>exact⟨_,rfl⟩
end
section
variable {w0:World}{ρ:Hd}
theorem wD {o0 o1 o2:Ob}(k0:I8 3 o0) (k1:I8 3 o1) (k2:I8 3 o2) (p:Int->Bool) (l:List Int) (gid:FuncId) (fs cs:List AV) (hl:l.length<=1099511627776) (hF:dg 3 (.fn (.func gid) fs cs)) (h:∀ x ∈ l,FnS Tryz.prog w0 [(0,o0),(1,o1),(2,o2)] 3 (.fn (.func gid) fs cs) [iv x] (p x)) :
  aK Tryz.prog w0 218 [cE ρ cM false l,.fn (.func gid) fs cs] (au [(0,o0),(1,o1),(2,o2)] 3) (iv (gD p l 0)) (au [(0,o0),(1,o1),(2,o2)] 3):=by
 obtain⟨R,hR⟩:∃ R,R=gD p l 0:=⟨_,rfl⟩
 rw [<-hR]
 refine aT.fM 3 3 _ adB (by simp [Tryz.ntmps218]) rfl rfl ?_
 refine gq rT ?_
 repeat' (first
  |(refine bL fun m hm=>?_;(try rw [aF] at hm);refine gq rT ?_)
  )
 refine aa.bP (σ:=Int) 3 3 [] (fun i=>[(0,cE ρ cM false l),(1,.fn (.func gid) fs cs),(7,.v (.int .i64 m)),(8,.v (.int .i64 i))]) [] (fun _=>[(0,o0),(1,o1),(2,o2)])
  (fun i=>∃ k:Nat,i=k/\k<=l.length/\R=gD p (l.drop k) k) (fun i=>l.length - i.toNat) 0 ⟨0,rfl,by simp,by simpa using hR⟩ rfl ⟨⟨.aB rfl (Pure.b9 (gy _)),.aB rfl hF,.aB rfl .v,.aB rfl .v,trivial⟩,rfl,⟨.inl ⟨_,rfl,.same k0.1⟩,.inl ⟨_,rfl,.same k1.1⟩,.inl ⟨_,rfl,.same k2.1⟩,trivial⟩,rfl,rfl,rfl⟩ ?_
 rintro i ⟨k,hi,hk,hp⟩
 clear hR
 refine gq rT ?_
 by_cases aA:k < l.length
 ·obtain⟨x,hx,cg⟩:=cd aA
  rw [cg,gD] at hp
  have hf:=h x (g8 hx)
  obtain⟨B,hB⟩:∃ B,B=p x:=⟨_,rfl⟩
  rw [<-hB] at hp hf
  repeat' (first
   |(refine aa.op rfl (ae.ind rfl rfl (bU (l:=l) hi hx) (bV fun _=>rfl)) ?_;refine gq rT ?_)
   |(refine aa.bif rfl (ae.fnS hf rfl rfl (Yi rfl rfl rfl rfl k0 k1 k2)) (fun _=>?_) (fun _=>?_)<;>refine gq rT ?_)
   |(refine bq (fun hb=>?_) (fun hb=>?_)<;>(try simp only [aM] at hb)<;>(first|refine gq rT ?_))
   |(refine cr fun _ _=>?_;refine gq rT ?_)
   |(refine aa.aR ?_;refine gq rT ?_)
   |(refine aa.iB ?_;refine gq rT ?_)
   |(refine fq ?_))
  all_goals first
   |(exfalso;omega)
   |(rw [if_pos (by assumption)] at hp;rw [show R=i by omega];exact⟨[],.aB .v,⟨.inl ⟨_,rfl,.same k0.1⟩,.inl ⟨_,rfl,.same k1.1⟩,.inl ⟨_,rfl,.same k2.1⟩,trivial⟩,rfl⟩)
   |(rw [if_neg (by rw [show B=false by assumption];simp)] at hp
     refine aa.bm (σ:=Int) _ [] ?_ ?_ ⟨⟨.aB rfl (Pure.b9 (gy _)),.aB rfl hF,.aB rfl .v,.aB rfl .v,trivial⟩,rfl,⟨.inl ⟨_,rfl,.same k0.1⟩,.inl ⟨_,rfl,.same k1.1⟩,.inl ⟨_,rfl,.same k2.1⟩,trivial⟩,rfl,rfl,rfl⟩
     ·exact⟨k+1,by omega,by omega,hp⟩
     ·omega)
 ·skip
  repeat' (first
   |(refine bq (fun hb=>?_) (fun hb=>?_)<;>(try simp only [aM] at hb)<;>(first|refine gq rT ?_))
   |(refine aa.aR ?_;refine gq rT ?_)
   |(refine fq ?_))
  all_goals first
   |(exfalso;omega)
   |(rw [show R=-1 by rw [hp,List.drop_eq_nil_of_le (by omega)];rfl];exact⟨[],.aB .v,⟨.inl ⟨_,rfl,.same k0.1⟩,.inl ⟨_,rfl,.same k1.1⟩,.inl ⟨_,rfl,.same k2.1⟩,trivial⟩,rfl⟩)
end
end
section
set_option maxRecDepth 100000
attribute [local irreducible] ah aK ae aa
end
section
set_option maxRecDepth 100000
attribute [local irreducible] ah aK ae aa
end
section
set_option maxRecDepth 100000
end
section
set_option maxRecDepth 100000
attribute [local irreducible] ah aK ae aa
def Fi.ok (f:Fi):Prop:=f.ids.length<=1099511627776
end
section
set_option maxRecDepth 100000
attribute [local irreducible] ah aK ae aa
end
section
set_option maxRecDepth 100000
attribute [local irreducible] ah aK ae aa
end
section
set_option maxRecDepth 100000
attribute [local irreducible] ah aK ae aa
end
section
set_option maxRecDepth 100000
attribute [local irreducible] ah aK ae aa
end
section
variable {P:Program}{w0:World}{α:AA}{S:ad}{dr rd:Bool}{n:Nat}{Q:Exit->AA->ad->Prop}{l:List QI}{K:List fc}{ρ:Hd}{T:Type}{f:T->List AV}{dd:Option Nat}{gg:Option (Nat × Bool)}
theorem fU {met:List T}{i:Nat}{x:T}(h:met[i]?=some x):(ρ.h (List.map f) met)[i]?=some (f x):=by rw [ρ.eq,List.getElem?_map,h];rfl
theorem aa.TJ {by_:Nat}{a b:QO}{i:Int}{m:Nat}{sz:Nat}(ρ:Hd) (f:T->List AV) (x0:T) (hw:bD α.tm gg=some true) (h1:a.ev α.tm=.v (.int .i64 i)) (h2:b.ev α.tm=.v (.int .i64 i)) (hi:i=m) (hs:(f x0).length=sz) (hy:m*by_<=35184372088832) (h6:m<=9223372036854775807)
  (kk:∀ met,met=List.replicate m x0->aa P w0 rd n Q (.aU dr l K) (bS dd α (.ob S.nx sz 0 m none)) (S.new (.arr sz (ρ.h (List.map f) met) 0 true))):aa P w0 rd n Q (.aU dr (⟨dd,gg,.im (f x0) by_ a b⟩::l) K) α S:=by
 have h:=kk _ rfl
 rw [ρ.eq,List.map_replicate] at h
 subst hs hi
 exact aa.op (i:=⟨dd,gg,.im (f x0) by_ a b⟩) hw (by simpa using ae.TJ (P:=P) (w0:=w0) (dr:=dr) (z:=f x0) (by_:=by_) (S:=S) h1 h2 (by omega) rfl (by omega) (by omega)) h
theorem ae.aj6 {m p:Nat}{x i:QO}{k off len:Nat}{cx:Option Nat}{ik:IntKind}{j:Int}(h1:x.ev α.tm=.ob k m off len cx) (h2:i.ev α.tm=.v (.int ik j)) (hp:j=p) (h4:p < len):ae P w0 dr (.ny m x i) α S (.pt k m (off+p) 0) S:=by
 subst hp
 exact ae.YZ h1 h2 (by omega) (by omega)
theorem ae.oX {k:LK}{x:QO}{b sz i j fz:Nat}{ex:Bool}{rows:List (List AV)}{row:List AV}{a:AV}(hx:x.ev α.tm=.pt b sz i j) (hk:S.get b=some (.arr sz rows fz ex)) (hi:rows[i]?=some row) (ha:oB k row j=some a):ae P w0 dr (.load k x) α S a S :=
 ae.quiet (by simp only [iJ,hx,kX,hk,Nat.beq_refl,hi,ha])
theorem ae.aaM {n:Nat}{x b:QO}{k sz i j:Nat}{ex:Bool}{rows:List (List AV)}{row:List AV}(hx:x.ev α.tm=.pt k sz i j) (hk:S.get k=some (.arr sz rows 0 ex)) (hc:(aP (b.ev α.tm)).all bQ=true) (hn:n=(aP (b.ev α.tm)).length) (hi:rows[i]?=some row)
  (hj:j+(aP (b.ev α.tm)).length<=row.length):ae P w0 dr (.store n x b) α S (.v undef) (S.set k (some (.arr sz (rows.set i (lJ row j (aP (b.ev α.tm)))) 0 ex))):=by
 refine ae.of rfl fun o hr=>?_
 cases o<;>simp only [res,dJ] at hr<;>(repeat' split at hr)<;>(try cases hr)
 rename_i hs
 rw [aJ] at hx hc hn hj ⊢
 simp only [aX,hx]
 refine aZ.mk (a:=_) ?_ ⟨rfl,rfl⟩
 simp only [lu,hk,hs,hc,hn,Nat.beq_refl,Bool.and_self,hi,Nat.ble_eq_true_of_le hj]
theorem aa.Kx {m:Nat}{x b:QO}{k i:Nat}{ex:Bool}{met:List T}{y:T}{sz:Nat}(hw:bD α.tm gg=some true) (hx:x.ev α.tm=.pt k sz i 0) (hk:S.get k=some (.arr sz (ρ.h (List.map f) met) 0 ex)) (hb:aP (b.ev α.tm)=f y) (hc:(f y).all bQ=true) (hl:∀ x,(f x).length=sz) (hm:m=sz) (hi:i < met.length)
  (kk:∀ Gj,Gj=met.set i y->aa P w0 rd n Q (.aU dr l K) (bS dd α (.v undef)) (S.set k (some (.arr sz (ρ.h (List.map f) Gj) 0 ex)))):aa P w0 rd n Q (.aU dr (⟨dd,gg,.store m x b⟩::l) K) α S:=by
 have h:=kk _ rfl
 have Gk:(ρ.h (List.map f) met)[i]?=some (f met[i]):=fU (List.getElem?_eq_getElem hi)
 have e:(ρ.h (List.map f) met).set i (lJ (f met[i]) 0 (aP (b.ev α.tm)))=ρ.h (List.map f) (met.set i y):=by
  rw [hb,ρ.eq,ρ.eq,List.map_set]
  congr 1
  unfold lJ
  rw [hl,hl,Nat.beq_refl]
  rfl
 rw [<-e] at h
 exact aa.op (i:=⟨dd,gg,.store m x b⟩) hw (ae.aaM hx hk (by rw [hb];exact hc) (by rw [hb,hl];exact hm) Gk (by rw [hb,hl,hl];omega)) h
end
section
set_option maxRecDepth 100000
attribute [local irreducible] ah aK ae aa
def aaN:CF Tryz.f22:=⟨_,by conv=>lhs;cbv⟩
theorem aj7:aT Tryz.prog 22 aaN.1 Tryz.f22.ntmps:=bX Tryz.func22 aaN.2 Tryz.call22
def zG:List Nat:=[8,12,2,0,7,9,6,5,13,15,3]
def xK:List Int->Int->Int
 |[],o=>o
 |v::l,o=>if v=2 then 2 else if v=1 then xK l o else xK l 0
section
variable {w0:World}{ρ:Hd}
theorem Yj (l:List Int) (hl:l.length<=1099511627776):ah Tryz.prog w0 22 [cE ρ cM false l] (iv (xK l 1)):=by
 obtain⟨R,hR⟩:∃ R,R=xK l 1:=⟨_,rfl⟩
 rw [<-hR]
 refine aj7.bu (by simp [Tryz.ntmps22]) (.v) ?_
 refine gq zG ?_
 repeat' (first
  |(refine bL fun m hm=>?_;(try rw [aF] at hm);refine gq zG ?_)
  )
 refine aa.bP (σ:=Int × Int) 0 0 [] (fun p=>[(3,.v (.int .i64 p.2)),(6,cE ρ cM false l),(7,.v (.int .i64 m)),(8,.v (.int .i64 p.1))]) [] (fun _=>[]) (fun p=>∃ k:Nat,p.1=k/\k<=l.length/\R=xK (l.drop k) p.2) (fun p=>l.length - p.1.toNat) (0,1) ⟨0,rfl,by simp,by simpa using hR⟩ rfl cq ?_
 rintro⟨i,o⟩ ⟨k,hi,hk,hp⟩
 simp only at hi hp
 clear hR
 refine gq zG ?_
 by_cases aA:k < l.length
 ·obtain⟨x,hx,cg⟩:=cd aA
  rw [cg,xK] at hp
  repeat' (first
   |(refine aa.op rfl (ae.ind rfl rfl (bU (l:=l) hi hx) (bV fun _=>rfl)) ?_;refine gq zG ?_)
   |(refine bq (fun hb=>?_) (fun hb=>?_)<;>(try simp only [aM] at hb)<;>(first|refine gq zG ?_))
   |(refine cr fun _ _=>?_;refine gq zG ?_)
   |(refine aa.aR ?_;refine gq zG ?_)
   |(refine aa.iB ?_;refine gq zG ?_)
   |(refine fq ?_))
  all_goals first
   |(exfalso;omega)
   |(rw [if_pos (by omega)] at hp;rw [hp];exact oU rfl)
   |(rw [if_neg (by omega),if_pos (by omega)] at hp;refine aa.bm (σ:=Int × Int) (_,o) [] ?_ ?_ cq<;>first|(simp only;omega)|exact⟨k+1,by simp only;omega,by omega,hp⟩)
   |(rw [if_neg (by omega),if_neg (by omega)] at hp;refine aa.bm (σ:=Int × Int) (_,0) [] ?_ ?_ cq<;>first|(simp only;omega)|exact⟨k+1,by simp only;omega,by omega,hp⟩)
 ·rw [List.drop_eq_nil_of_le (by omega),xK] at hp
  repeat' (first
   |(refine bq (fun hb=>?_) (fun hb=>?_)<;>(try simp only [aM] at hb)<;>(first|refine gq zG ?_))
   |(refine aa.aR ?_;refine gq zG ?_)
   |(refine fq ?_))
  all_goals first
   |(exfalso;omega)
   |(rw [hp];exact oU rfl)
end
end
structure PS where
 N:bj
 vs:List (Int × Int)
 js:JS
def fP (s:PS) (t:Tm) (l:List Nat):PS :=
 ⟨s.N++[(t,l)],if t.k=1 then eV s.vs t.i s.N.length else s.vs,
  ⟨s.js.up++[s.N.length],if t.k=1 then s.js.sh else eV s.js.sh s.N.length s.N.length,if t.k=1 then eV s.js.ls s.N.length t.i else s.js.ls⟩⟩
mutual
def bH:PS->Tm->PS × Nat
 |s,⟨k,i,n,a⟩=>match (if k=1 then aD s.vs i else none) with
  |some j=>(s,j.toNat)
  |none=>(fP (cF s a).1 ⟨k,i,n,a⟩ (cF s a).2,(cF s a).1.N.length)
def cF:PS->List Tm->PS × List Nat
 |s,[]=>(s,[])
 |s,x::l=>((cF (bH s x).1 l).1,(bH s x).2::(cF (bH s x).1 l).2)
end
structure na (s:PS):Prop where
 vs:∀ v,aD s.vs v=(lH s.N v).map Int.ofNat
 up:s.js.up.length=s.N.length
 nd:(s.vs.map (·.1)).Nodup
theorem pR {T:Type}:∀ {l:List (Int × T)}{i:Int},i ∈ l.map (·.1) ↔ ∃ v,aD l i=some v
 |[],i=>by simp [aD]
 |p::l,i=>by
  rw [List.map_cons,List.mem_cons,aD]
  by_cases e:p.1=i
  ·rw [if_pos e];simp [e]
  ·rw [if_neg e,<-pR];simp [Ne.symm e]
theorem pS {T:Type}:∀ {l:List (Int × T)}{i:Int}{v:T},aD l i=none->eV l i v=l++[(i,v)]
 |[],_,_,_=>rfl
 |p::l,i,v,h=>by
  rw [aD] at h
  rw [eV]
  by_cases e:p.1=i
  ·rw [if_pos e] at h;cases h
  ·rw [if_neg e] at h
   rw [if_neg e,pS h];rfl
structure Grown (s s':PS):Prop where
 le:s.N.length<=s'.N.length
 upl:s'.js.up.length=s.js.up.length+(s'.N.length - s.N.length)
 fZ:∀ i,i < s.js.up.length->gJ s'.js.up i=gJ s.js.up i
 ml:∀ i,s.js.up.length<=i->gJ s'.js.up i=i
 jK:∀ C:Nat,C < s.N.length->aD s'.js.sh C=aD s.js.sh C
 pT:∀ C:Nat,s.N.length<=C->C < s'.N.length->aD s'.js.sh C=if (tn s'.N C).k=1 then aD s.js.sh C else some (C:Int)
 tW:(∀ C i,aD s.js.sh C=some i->0<=i)->∀ C i,aD s'.js.sh C=some i->0<=i
 jx:∀ C:Nat,C < s.N.length->aD s'.js.ls C=aD s.js.ls C
 pU:∀ C:Nat,s.N.length<=C->C < s'.N.length->aD s'.js.ls C=if (tn s'.N C).k=1 then some (tn s'.N C).i else aD s.js.ls C
 BJ:∀ C:Nat,s'.N.length<=C->aD s'.js.sh C=aD s.js.sh C
 xL:∀ C:Nat,s'.N.length<=C->aD s'.js.ls C=aD s.js.ls C
 pre:∀ i,i < s.N.length->s'.N[i]?=s.N[i]?
theorem I9 {up:List Nat}{i:Nat}(h:up.length<=i):gJ up i=i:=by unfold gJ;rw [List.getElem?_eq_none h];rfl
theorem Grown.refl (s:PS):Grown s s:=⟨Nat.le_refl _,by omega,fun _ _=>rfl,fun i h=>I9 h,fun _ _=>rfl,fun C h1 h2=>by omega,fun h=>h,fun _ _=>rfl,fun C h1 h2=>by omega,fun _ _=>rfl,fun _ _=>rfl,fun _ _=>rfl⟩
theorem Grown.trans {s t u:PS}(h:Grown s t) (k:Grown t u):Grown s u:=by
 have h0:=h.le
 have k0:=k.le
 have hl:=h.upl
 have kl:=k.upl
 refine⟨by omega,by omega,fun i hi=>(k.fZ i (by omega)).trans (h.fZ i hi),fun i hi=>?_,fun C hC=>(k.jK C (by omega)).trans (h.jK C hC),fun C h1 h2=>?_,fun hp=>k.tW (h.tW hp),fun C hC=>(k.jx C (by omega)).trans (h.jx C hC),fun C h1 h2=>?_,fun C hC=>(k.BJ C hC).trans (h.BJ C (by omega)),fun C hC=>(k.xL C hC).trans (h.xL C (by omega)),fun i hi=>(k.pre i (by omega)).trans (h.pre i hi)⟩
 ·by_cases e:i < t.js.up.length
  ·rw [k.fZ i e,h.ml i hi]
  ·exact k.ml i (by omega)
 ·by_cases e:C < t.N.length
  ·rw [k.jK C e,h.pT C h1 e,(dS k.pre e).1]
  ·rw [k.pT C (by omega) h2,h.BJ C (by omega)]
 ·by_cases e:C < t.N.length
  ·rw [k.jx C e,h.pU C h1 e,(dS k.pre e).1]
  ·rw [k.pU C (by omega) h2,h.xL C (by omega)]
theorem BL {s:PS}(hV:na s) (t:Tm) (l:List Nat):Grown s (fP s t l):=by
 have hl:=hV.up
 have aj8:∀ i,i < s.N.length->(s.N++[(t,l)])[i]?=s.N[i]?:=fun i hi=>List.getElem?_append_left hi
 refine⟨by simp [fP],by simp [fP],fun i hi=>?_,fun i hi=>?_,fun C hC=>?_,fun C h1 h2=>?_,fun hp C i=>?_,fun C hC=>?_,fun C h1 h2=>?_,fun C hC=>?_,fun C hC=>?_,aj8⟩
 ·simp only [fP,gJ]
  rw [List.getElem?_append_left hi]
 ·simp only [fP]
  by_cases e:i=s.js.up.length
  ·subst e
   unfold gJ
   rw [List.getElem?_append_right (Nat.le_refl _)]
   simp [hl]
  ·exact I9 (by simp;omega)
 ·simp only [fP]
  split
  ·rfl
  ·rw [bZ,if_neg (by omega)]
 ·have e:C=s.N.length:=by simp [fP] at h2;omega
  subst e
  simp only [fP,jC.1]
  split
  ·rfl
  ·rw [bZ,if_pos rfl]
 ·simp only [fP]
  split
  ·exact hp C i
  ·rw [bZ]
   split
   ·intro h;obtain rfl:=oJ_ h;omega
   ·exact hp C i
 ·simp only [fP]
  split
  ·rw [bZ,if_neg (by omega)]
  ·rfl
 ·have e:C=s.N.length:=by simp [fP] at h2;omega
  subst e
  simp only [fP,jC.1]
  split
  ·rw [bZ,if_pos rfl]
  ·rfl
 ·simp only [fP] at hC ⊢
  rw [List.length_append,List.length_singleton] at hC
  split
  ·rfl
  ·rw [bZ,if_neg (by omega)]
 ·simp only [fP] at hC ⊢
  rw [List.length_append,List.length_singleton] at hC
  split
  ·rw [bZ,if_neg (by omega)]
  ·rfl
theorem O7 {N:bj}{t:Tm}{l:List Nat}{v:Int}(h:t.k=1->lH N t.i=none):lH (N++[(t,l)]) v=if t.k=1/\t.i=v then some N.length else lH N v:=by
 unfold lH
 rw [List.findIdx?_append]
 cases hv:List.findIdx? (fun x=>x.1.k == 1 && x.1.i == v) N with
 |some j =>
  rw [if_neg]
  ·rfl
  ·rintro⟨h1,rfl⟩
   have:=h h1
   unfold lH at this
   rw [this] at hv
   cases hv
 |none =>
  by_cases e:t.k=1/\t.i=v
  ·rw [if_pos e];simp [e.1,e.2]
  ·rw [if_neg e]
   have:(t.k == 1 && t.i == v)=false:=by
    rw [Bool.and_eq_false_iff]
    by_cases e1:t.k=1
    ·exact .inr (by simpa using fun e2=>e ⟨e1,e2⟩)
    ·exact .inl (by simpa using e1)
   simp [this]
theorem Eb {s:PS}(hV:na s) {t:Tm}{l:List Nat}(h:t.k=1->lH s.N t.i=none):na (fP s t l):=by
 refine⟨fun v=>?_,by simp [fP,hV.up],?_⟩
 rotate_left
 ·simp only [fP]
  split
  ·rename_i e
   have h1:aD s.vs t.i=none:=by rw [hV.vs,h e];rfl
   rw [pS h1,List.map_append,List.nodup_append]
   refine⟨hV.nd,by simp,fun a ha b hb e2=>?_⟩
   simp only [List.map_cons,List.map_nil,List.mem_singleton] at hb
   rw [e2,hb,pR] at ha
   obtain⟨x,hx⟩:=ha
   rw [h1] at hx;cases hx
  ·exact hV.nd
 simp only [fP]
 rw [O7 h]
 by_cases e:t.k=1
 ·rw [if_pos e,bZ]
  by_cases e2:t.i=v
  ·rw [if_pos e2,if_pos ⟨e,e2⟩];rfl
  ·rw [if_neg e2,if_neg (fun h=>e2 h.2)];exact hV.vs v
 ·rw [if_neg e,if_neg (fun h=>e h.1)];exact hV.vs v
mutual
theorem nZ:∀ (s:PS) (t:Tm),na s->eW t->(bH s t).1.N=(lI s.N t).1/\(bH s t).2=(lI s.N t).2/\na (bH s t).1/\Grown s (bH s t).1
 |s,⟨k,i,n,a⟩,hV,hw=>by
  rw [bH,lI]
  by_cases hk:k=1
  ·subst hk
   rw [eW,if_pos rfl] at hw
   obtain⟨rfl,rfl⟩:=hw
   simp only [if_true,hV.vs]
   cases hv:lH s.N i with
   |some j=>exact⟨rfl,by simp,hV,.refl s⟩
   |none =>
    simp only [Option.map_none,cF,eI]
    exact⟨by simp [fP],by simp,Eb hV fun _=>hv,BL hV _ _⟩
  ·simp only [if_neg hk]
   rw [eW,if_neg hk] at hw
   obtain⟨h1,h2,h3,h4⟩:=Aw s a hV hw.1
   refine⟨by simp only [fP,h1,h2],by rw [h1],Eb h3 fun e=>absurd e hk,h4.trans (BL h3 _ _)⟩
theorem Aw:∀ (s:PS) (l:List Tm),na s->iS l->(cF s l).1.N=(eI s.N l).1/\(cF s l).2=(eI s.N l).2/\na (cF s l).1/\Grown s (cF s l).1
 |s,[],hV,_=>by rw [cF,eI];exact⟨rfl,rfl,hV,.refl s⟩
 |s,x::l,hV,hw=>by
  rw [iS] at hw
  obtain⟨h1,h2,h3,h4⟩:=nZ s x hV hw.1
  obtain⟨k1,k2,k3,k4⟩:=Aw (bH s x).1 l h3 hw.2
  rw [cF,eI]
  simp only [k1,k2,h1,h2]
  exact⟨trivial,trivial,k3,h4.trans k4⟩
end
section
variable {E:List (Tm × Tm)}{D:List (Nat × Nat)}{c:Nat->Nat}
theorem m8.grow {s s':PS}(h:m8 E s.N D c [] s.js) (hD:∀ p ∈ D,p.1 < s.N.length/\p.2 < s.N.length) (hx:rM s.N s'.N) (hg:Grown s s') {x y:Nat}(vW:x < s'.N.length) (hyl:y < s'.N.length) (he:(tn s'.N x,tn s'.N y) ∈ E) :
  m8 E s'.N ((x,y)::D) (fun i=>if i < s.N.length then c i else i) [(x,y)] s'.js:=by
 obtain⟨hh,hU⟩:=h.uf
 have hl:=h.len
 have lz:=hg.upl
 have hle:=hg.le
 have cl:∀ i,i < s.N.length->c i < s.N.length:=fun i hi=>by have:=(hU.rt i (by omega)).2;omega
 have RE:∀ j C,C < s.N.length->(if j < s.N.length then c j else j)=C->j < s.N.length/\c j=C:=fun j C hC e=>by
  split at e
  ·exact⟨by assumption,e⟩
  ·omega
 have RF:∀ j C,s.N.length<=C->(if j < s.N.length then c j else j)=C->j=C:=fun j C hC e=>by
  split at e
  ·rename_i hj;have:=cl j hj;omega
  ·exact e
 refine⟨h.gi.grow hD hx.g hx.le hx.pre (fun i hi=>⟨if_pos hi,cl i hi⟩) (fun i hi=>if_neg (by omega)) vW hyl he,⟨hh,?_⟩,by omega,hg.tW h.pos,fun C hC e=>?_,fun C hC e=>?_,fun C hC=>by rw [hg.BJ C hC];exact h.Oq C (by omega),fun C hC=>by rw [hg.xL C hC];exact h.T3 C (by omega)⟩
 ·refine⟨fun i hi=>?_,fun i hi=>?_,fun i hi=>?_,fun i hi e=>?_,fun i hi e=>?_⟩
  ·by_cases e:i < s.N.length
   ·rw [hg.fZ i (by omega)];have:=hU.lt i (by omega);omega
   ·rw [hg.ml i (by omega)];exact hi
  ·by_cases e:i < s.N.length
   ·simp only [if_pos e]
    rw [hg.fZ _ (by have:=cl i e;omega)]
    have:=hU.rt i (by omega)
    exact⟨this.1,by omega⟩
   ·simp only [if_neg e];exact⟨hg.ml i (by omega),hi⟩
  ·by_cases e:i < s.N.length
   ·rw [hg.fZ i (by omega)]
    have:=hU.lt i (by omega)
    simp only [if_pos e]
    rw [if_pos (by omega)]
    exact hU.st i (by omega)
   ·rw [hg.ml i (by omega)]
  ·by_cases e':i < s.N.length
   ·rw [hg.fZ i (by omega)] at e
    simp only [if_pos e']
    exact hU.fx i (by omega) e
   ·simp only [if_neg e']
  ·by_cases e':i < s.N.length
   ·rw [hg.fZ i (by omega)] at e ⊢
    exact hU.ht i (by omega) e
   ·exact absurd (hg.ml i (by omega)) e
 ·by_cases e':C < s.N.length
  ·simp only [if_pos e'] at e
   have h1:=h.tW C e' e
   show gz _ _ _ (b8 s'.js.sh C)
   have h2:b8 s'.js.sh C=b8 s.js.sh C:=by unfold b8;rw [hg.jK C e']
   rw [h2]
   cases hs:b8 s.js.sh C with
   |some i =>
    rw [hs] at h1
    obtain⟨a1,a2,a3⟩:=h1
    exact⟨by omega,by simp only [if_pos a1];exact a2,by rw [(dS hx.pre a1).1];exact a3⟩
   |none =>
    rw [hs] at h1
    intro i hi kW
    obtain⟨b1,b2⟩:=RE i C e' kW
    rw [(dS hx.pre b1).1]
    exact h1 i b1 b2
  ·show gz _ _ _ (b8 s'.js.sh C)
   unfold b8
   rw [hg.pT C (by omega) hC]
   by_cases hk:(tn s'.N C).k=1
   ·rw [if_pos hk]
    rw [h.Oq C (by omega)]
    intro i hi kW
    rw [RF i C (by omega) kW];exact hk
   ·rw [if_neg hk]
    exact⟨by simpa using hC,by simp only [Int.toNat_natCast];exact if_neg e',by simpa using hk⟩
 ·by_cases e':C < s.N.length
  ·simp only [if_pos e'] at e
   have h1:=h.cE C e' e
   show oy _ _ _ (aD s'.js.ls (C:Int))
   rw [hg.jx C e']
   cases hs:aD s.js.ls (C:Int) with
   |some v =>
    rw [hs] at h1
    obtain⟨⟨j,a1,a2,a3,a4⟩,a5⟩:=h1
    refine⟨⟨j,by omega,by simp only [if_pos a1];exact a2,by rw [(dS hx.pre a1).1];exact a3,by rw [(dS hx.pre a1).1];exact a4⟩,fun i hi kW hk=>?_⟩
    obtain⟨b1,b2⟩:=RE i C e' kW
    rw [(dS hx.pre b1).1] at hk ⊢
    exact a5 i b1 b2 hk
   |none =>
    rw [hs] at h1
    intro i hi kW
    obtain⟨b1,b2⟩:=RE i C e' kW
    rw [(dS hx.pre b1).1]
    exact h1 i b1 b2
  ·show oy _ _ _ (aD s'.js.ls (C:Int))
   rw [hg.pU C (by omega) hC]
   by_cases hk:(tn s'.N C).k=1
   ·rw [if_pos hk]
    refine⟨⟨C,hC,if_neg e',hk,rfl⟩,fun i hi kW _=>?_⟩
    rw [RF i C (by omega) kW]
    exact Int.le_refl _
   ·rw [if_neg hk,h.T3 C (by omega)]
    intro i hi kW
    rw [RF i C (by omega) kW];exact hk
end
section
variable {P:Program}{w0:World}{n:Nat}{α:AA}{S:ad}
theorem BM {F:Fence}{m:Nat}{A:Nat->Prop}{g:Gh}{a:Act}{w:World}{ops:Array Oper}{Q:Exit->Act->World->Prop}{i:Nat}{rest:List Nat}{o:Oper}{r:AV}{S':ad}(hF:gU F) (hS:St w0 A g S w) (hA:bN g w n α a) (hi:ops[i]?=some o) (hg:o.guard=none) (hd:(match o.dst with|some d=>Nat.blt d n|none=>true)=true) (h:ef P w0 n o α S r S')
  (k:∀ (a':Act) (w':World) (g':Gh),St w0 A g' S' w'->bN g' w' n (α.put o.dst r) a'->Ext A g w g' w'->wpOpsIn F m P ops Q rest a' w'):wpOpsIn F m P ops Q (i::rest) a w:=by
 simp only [wpOpsIn,hi]
 rw [if_pos (by simp [Region.wanted,hg])]
 exact⟨fun f _=>hF.1 f,h F m A g a w _ Q hF hS hA fun v w' g' hr eR hE=>k _ _ _ eR (j9 (hA.later hE.toLater) hd hr) hE⟩
theorem O8 {o:Oper}{x:QO}(hr:res P.toTables o.op=some (.mv x)):ef P w0 n o α S (x.ev α.tm) S:=by
 have h:ae P w0 false (.mv x) α S (x.ev α.tm) S:=ae.quiet rfl
 exact h n o hr
theorem aa.aaP {Q:Exit->AA->ad->Prop}{K:List fc}{id:Nat}{o o1 o2:Oper}{q1 q2:QO}{d1 d2:Nat}{c:Call}{x i:Operand}{k:Nat}{m:Int}{mt kt et:TypeId}{kk:IntKind}(g1:o1.guard=none) (g2:o2.guard=none) (e1:o1.dst=some d1) (e2:o2.dst=some d2) (b1:Nat.blt d1 n=true) (b2:Nat.blt d2 n=true) (r1:res P.toTables o1.op=some (.mv q1)) (r2:res P.toTables o2.op=some (.mv q2))
  (ho:o.op=.defer c) (hc:c.callee=.builtin .delete) (hat:c.argTypes[0]?=some mt) (hu:P.underlying mt=some (.map kt et)) (hk:P.underlying kt=some (.int kk))
  (ha:c.args=#[x,i]) (hg:o.guard=none) (hd:o.dst=none) {mW:AA}(xM:mW=(α.put (some d1) (q1.ev α.tm)).put (some d2) (q2.ev (α.put (some d1) (q1.ev α.tm)).tm)) (hx:(qo x).ev mW.tm=.mp k) (hi:(qo i).ev mW.tm=.v (.int .i64 m))
  (h:∀ t,Ki P t->aa P w0 false n Q (.out .normal K) ⟨mW.tm,.del t k m::mW.df⟩ S):aa P w0 false n Q (.run (.raw (.region id #[o1,o2,o] false)) K) α S:=by
 intro c0 uv _
 obtain rfl:=Qo uv
 rw [aJ] at hx hi
 obtain⟨cs,zk⟩:∃ cs:Array Bool,(c.args.map fun|.const _=>true|_=>false)=cs:=⟨_,rfl⟩
 refine⟨.normal,_,S,fun F mm A g0 a0 TS hF hR O9 O5=>?_,h (.builtin .delete c.argTypes o.type cs) ⟨_,_,_,mt,kt,et,kk,rfl,hat,hu,hk⟩⟩
 have kY:F.round=none:=by
  cases hr:F.round with
  |none=>rfl
  |some l=>rw [hr] at hR;cases hR
 refine wpIn_region ?_
 rw [show (List.range (#[o1,o2,o]:Array Oper).size)=[0,1,2] from rfl]
 refine BM hF O9 O5 (o:=o1) rfl g1 (by rw [e1];exact b1) (O8 r1) fun a1 w1 gh1 eT wP ko=>?_
 rw [e1] at wP
 refine BM hF eT wP (o:=o2) rfl g2 (by rw [e2];exact b2) (O8 r2) fun a w g hS hA pQ=>?_
 rw [e2,<-xM] at hA
 have hE:=ko.trans pQ
 have h1:=hA.ev x
 have h2:=hA.ev i
 rw [hx] at h1
 rw [hi] at h2
 obtain⟨e1',aO⟩:=ng h1
 have e2':=bO h2
 have iR:(resolve a.eval c o.type).run P w=.ok { target:=.builtin .delete c.argTypes o.type cs,args:=#[.map (some (g.ob k)),.int .i64 m] } w:=by
  rw [<-zk]
  simp [resolve,hc,ha,e1',e2']
  cases x<;>cases i<;>exact⟨rfl,rfl⟩
 have TP:bN g w n ⟨mW.tm,.del (.builtin .delete c.argTypes o.type cs) k m::mW.df⟩ { a with defers:=({ target:=.builtin .delete c.argTypes o.type cs,args:=#[.map (some (g.ob k)),.int .i64 m] }:Deferred)::a.defers }:=by
  refine⟨hA.size,hA.tm,hA.out,?_,fun d hd=>?_⟩
  ·show _=({ target:=.builtin .delete c.argTypes o.type cs,args:=#[.map (some (g.ob k)),.int .i64 m] }:Deferred)::_
   rw [<-hA.df]
  ·rcases List.mem_cons.1 hd with rfl|hd
   ·exact aO
   ·exact hA.rI d hd
 have ho0:(#[o1,o2,o]:Array Oper)[2]?=some o:=rfl
 simp only [wpOpsIn,ho0]
 rw [if_pos (by simp [Region.wanted,hg])]
 refine⟨fun f _=>hF.1 f,?_⟩
 have aj9:(o.semAt F.round a.eval).run P w=.ok (.defer { target:=.builtin .delete c.argTypes o.type cs,args:=#[.map (some (g.ob k)),.int .i64 m] }) w:=by
  rw [kY]
  simp [Oper.semAt,execOp,ho,Sem.run_bind,iR]
 rw [aj9]
 simp [Oper.uponIn,hd]
 exact⟨rfl,g,hS,TP,hE⟩
end
end Go.Proofs.YtgjfgekaclobaaaGreat
