import Derived.Laws.StructEq
import Derived.Test.YtbofilglphfceaaGreatQ19
namespace Go.Proofs.YtbofilglphfceaaGreat
set_option linter.unusedVariables false
set_option linter.unusedSimpArgs false
open Go.RowKit
section
set_option maxRecDepth 100000
attribute [local irreducible] ah bc ad ab
def Om:CF Tryz.f121:=⟨_,by conv=>lhs;cbv⟩
theorem Xe:aH Tryz.prog 121 Om.1 Tryz.f121.ntmps:=aQ Tryz.func121 Om.2 Tryz.call121
def qe:List Nat:=[7,0,6,11,1,2,29]
def ef (l:List Dc) (n:ByteArray) (ar:Int):Bool:=l.any fun d=>d.n.toList == n.toList && d.ar == ar
section
variable {w0:World}{ρ:Hd}
theorem po (l:List Dc) (n:ByteArray) (ar:Int) (hl:l.length<=1099511627776):ah Tryz.prog w0 121 [dG ρ l,.v (.string n),iv ar] (.v (.bool (ef l n ar))):=by
 unfold ef
 obtain⟨R,hR⟩:∃ R,R=l.any fun d=>d.n.toList == n.toList && d.ar == ar:=⟨_,rfl⟩
 rw [<-hR]
 refine Xe.aG (by simp [Tryz.ntmps121]) (.v) ?_
 refine gq qe ?_
 refine ab.aP (σ:=Int) 0 0 [] (fun i=>[(0,dG ρ l),(1,.v (.string n)),(2,.v (.int .i64 ar)),(7,.v (.int .i64 i))]) [] (fun _=>[])
  (fun i=>∃ k:Nat,i=k/\k<=l.length/\R=(l.drop k).any fun d=>d.n.toList == n.toList && d.ar == ar) (fun i=>l.length - i.toNat) 0 ⟨0,rfl,by simp,by simpa using hR⟩ rfl cq ?_
 rintro i ⟨k,hi,hk,hp⟩
 clear hR
 refine gq qe ?_
 by_cases au:k < l.length
 ·obtain⟨x,hx,aO⟩:=az au
  rw [aO,List.any_cons] at hp
  repeat' (first
   |(refine ab.op rfl (ad.ind rfl rfl (ay (l:=l) hi hx) (aw fun _=>rfl)) ?_;refine gq qe ?_)
   |(refine bq (fun hb=>?_) (fun hb=>?_)<;>(try simp only [aq] at hb)<;>(first|refine gq qe ?_))
   |(refine aB fun m hm=>?_;(try rw [af] at hm);refine gq qe ?_)
   |(refine aS fun _ _=>?_;refine gq qe ?_)
   |(refine ab.ao ?_;refine gq qe ?_)
   |(refine ab.bJ ?_;refine gq qe ?_)
   |(refine fq ?_))
  all_goals first
   |(refine aC ?_;rw [hp];simp_all;done)
   |(refine ab.aL (σ:=Int) _ [] ?_ ?_ cq
     ·exact⟨k+1,by omega,by omega,by rw [hp];simp_all⟩
     ·omega)
 ·skip
  repeat' (first
   |(refine bq (fun hb=>?_) (fun hb=>?_)<;>(try simp only [aq] at hb)<;>(first|refine gq qe ?_))
   |(refine aB fun m hm=>?_;(try rw [af] at hm);refine gq qe ?_)
   |(refine ab.ao ?_;refine gq qe ?_)
   |(refine fq ?_))
  all_goals first
   |(exfalso;omega)
   |(rw [hp,List.drop_eq_nil_of_le (by omega)];exact aC rfl)
end
end
def sk (P:Program) (w0:World) (F:AV) (xs:List AV) (b:Bool):Prop:=∃ gid args,eL F xs=some (gid,args)/\db args/\ah P w0 gid args (.v (.bool b))
theorem ad.x_ {P:Program}{w0:World}{α:AA}{S:ae}{dr:Bool}{f:QO}{qs:List QO}{F:AV}{l:List AV}{b:Bool}(hf:f.ev α.tm=F) (ha:qs.map (·.ev α.tm)=l) (h:sk P w0 F l b):ad P w0 dr (.call f qs) α S (.v (.bool b)) S:=by
 obtain⟨gid,args,h1,h2,h3⟩:=h
 subst hf ha
 exact ad.ag h1 h3 h2
def dc (x:Dc):AV:=.agg (IM x)
theorem zD (x:Dc):Pure (dc x):=.agg (Cc x)
def dD {T:Type}(p:T->Bool):List T->Nat->Int
 |[],_=>-1
 |x::l,k=>if p x then k else dD p l (k+1)
theorem nM {T:Type}(p:T->Bool):∀ (l:List T) (k:Nat),decide (0<=dD p l k)=l.any p
 |[],_=>rfl
 |x::l,k=>by
  rw [dD,List.any_cons]
  split
  ·simp_all
  ·rw [nM p l];simp_all
def cR {T:Type}(p:T->T->Bool):List T->List T->Bool
 |[],[]=>true
 |x::a,y::b=>p x y && cR p a b
 |_,_=>false
theorem mU {T:Type}{p:T->T->Bool}:∀ {a b:List T},a.length ≠ b.length->cR p a b=false
 |[],[],h=>absurd rfl h
 |[],_::_,_=>rfl
 |_::_,[],_=>rfl
 |x::a,y::b,h=>by rw [cR,mU (by simpa using h)];simp
section
variable {P:Program}{w0:World}{n:Nat}{α:AA}{S:ae}{Q:Exit->AA->ae->Prop}{K:List iC}
theorem ab.Ts {σ T:Type}{B N:Nat}{st0:List (Nat × AV)}{ds:List Nat}{so:σ->List (Nat × Ob)}{I:List T->σ->Prop}{rest:List T}(s':σ) (m:List (Nat × Nat)) (hI:I rest s') (hC:Canon B N m α S [] [] (so s')):ab P w0 true n (Sl P w0 n B N st0 ds so I Q K rest) (.out .normal []) α S:=⟨s',m,hI,hC⟩
end
section
variable {P:Program}{w0:World}{α:AA}{S:ae}
theorem ER {o:Op}{t:Nat}{x y:QO}(h:res P.toTables o=some (.eqs t x y)):∃ u v s,o=.binOp .eql t u v s/\x=qo u/\y=qo v:=by
 cases o with
 |binOp op' t' u v s =>
  simp only [res] at h
  split at h
  ·cases h
  ·cases h
  ·split at h
   ·simp only [Option.some.injEq,dm.eqs.injEq] at h
    obtain⟨rfl,rfl,rfl⟩:=h
    exact⟨_,_,_,rfl,rfl,rfl⟩
   ·cases h
  ·cases h
 |_ =>
  simp only [res] at h
  repeat' split at h
  all_goals cases h
def Jl (P:Program) (t:Nat) (a b:Value) (e:Bool):Prop:=(∃ xs ys,a=.agg xs/\b=.agg ys)/\P.eqGuardType P.depth t=false/\∀ w,(binOp .eql t a b).run P w=.ok (.bool e) w
theorem ES {t:Nat}{x y:QO}{a b:Value}{e:Bool}(h:Jl P t a b e) {n:Nat}{o:Oper}(hr:res P.toTables o.op=some (.eqs t x y)) (β:AA) (hx:toV (x.ev β.tm)=some a) (hy:toV (y.ev β.tm)=some b):ew P w0 n o β S (.v (.bool e)) S:=by
 obtain⟨u,v,s,ho,rfl,rfl⟩:=ER hr
 rw [aR] at hx hy
 refine bf.ops (bf.quiet fun A g c w hS hA=>⟨.bool e,?_,.v⟩) fun c e=>by rw [ho] at e;cases e
 have e1:=se (hA.ev u) hx
 have e2:=se (hA.ev v) hy
 obtain⟨⟨xs,ys,rfl,rfl⟩,h1,h2⟩:=h
 have hg:(eqGuard .eql t u v (.agg xs) (.agg ys)).run P w=.ok () w:=by
  simp [eqGuard,h1]
 simp only [execOp,ho,e1,e2,Sem.run_bind,hg,Result.andThen_ok,h2 w,Sem.run_pure]
theorem ad.eqs {dr:Bool}{t:Nat}{x y:QO}{a b:Value}{e:Bool}(hx:toV (x.ev α.tm)=some a) (hy:toV (y.ev α.tm)=some b) (h:Jl P t a b e):ad P w0 dr (.eqs t x y) α S (.v (.bool e)) S:=by
 cases dr with
 |false=>exact fun n o hr=>ES h hr α hx hy
 |true =>
  intro n o hr
  obtain⟨u,v,s,ho,hu,hv⟩:=ER hr
  have key:∀ z ∈ o.op.operands,(α.only (dp o)).ev z=α.ev z:=fun z hz=>jw fun t e=>iN (by rw [<-e];exact hz)
  have h1:(α.only (dp o)).ev u=α.ev u:=key u (by rw [ho];simp [Op.operands])
  have h2:(α.only (dp o)).ev v=α.ev v:=key v (by rw [ho];simp [Op.operands])
  have h3:∀ T,ew P w0 n o (α.only (dp o)) T (.v (.bool e)) T:=fun T=>ES h hr _ (by rw [hu,aR,h1,<-aR,<-hu];exact hx) (by rw [hv,aR,h2,<-aR,<-hv];exact hy)
  exact⟨h3 S,fun _=>⟨rfl,h3⟩,fun _=>rfl⟩
end
section
set_option maxRecDepth 100000
attribute [local irreducible] ah bc ad ab
def On:CF Tryz.f274:=⟨_,by conv=>lhs;cbv⟩
theorem Xf:aH Tryz.prog 274 On.1 Tryz.f274.ntmps:=aQ Tryz.func274 On.2 Tryz.call274
def jU:List Nat:=[2,17,1,4,0,9,16,18,15,6,24]
def Oo:CF Tryz.f273:=⟨_,by conv=>lhs;cbv⟩
theorem Xg:aH Tryz.prog 273 Oo.1 Tryz.f273.ntmps:=aQ Tryz.func273 Oo.2 Tryz.call273
def mb:List Nat:=[6,1,5,7,3,0,15]
def Oq:CF Tryz.f195:=⟨_,by conv=>lhs;cbv⟩
theorem Xh:aH Tryz.prog 195 Oq.1 Tryz.f195.ntmps:=aQ Tryz.func195 Oq.2 Tryz.call195
def abu:List Nat:=[2,0,1]
def Ot:CF Tryz.f194:=⟨_,by conv=>lhs;cbv⟩
theorem Xi:aH Tryz.prog 194 Ot.1 Tryz.f194.ntmps:=aQ Tryz.func194 Ot.2 Tryz.call194
def uz:List Nat:=[5,3,4,2,0,7,8,12]
def Ou:CF Tryz.f107:=⟨_,by conv=>lhs;cbv⟩
theorem Xj:aH Tryz.prog 107 Ou.1 Tryz.f107.ntmps:=aQ Tryz.func107 Ou.2 Tryz.call107
def Lt:List Nat:=[2,0,1]
def Ov:CF Tryz.f115:=⟨_,by conv=>lhs;cbv⟩
theorem Xk:aH Tryz.prog 115 Ov.1 Tryz.f115.ntmps:=aQ Tryz.func115 Ov.2 Tryz.call115
def Lu:List Nat:=[2,0,1]
def Ow:CF Tryz.f112:=⟨_,by conv=>lhs;cbv⟩
theorem Xl:aH Tryz.prog 112 Ow.1 Tryz.f112.ntmps:=aQ Tryz.func112 Ow.2 Tryz.call112
def Lv:List Nat:=[2,0,1]
mutual
def cY:Tm->List Int
 |⟨k,i,n,a⟩=>if k=1 then [i] else if k=2 then aT a else []
def aT:List Tm->List Int
 |[]=>[]
 |x::l=>cY x++aT l
end
def bE (s:List Int):List Int->List Int
 |[]=>[]
 |x::l=>if s.contains x then bE s l else x::bE (s++[x]) l
theorem eR {a:List Tm}{k:Nat}{y:Tm}(h:a.drop k=y::a.drop (k+1)):aT (a.drop k)=cY y++aT (a.drop (k+1)):=by rw [h,aT]
theorem vL {J:lz}{m:List (Nat × Nat)}(h0:bX m 0=0):∀ k J1,ix [(0,.fo J)] k=some (.fo J1)->∃ j,j < 1/\bX m j=k:=fun k J1 h=>by
 have:=iR h
 simp at this
 exact⟨0,by omega,by rw [h0];exact this.1.symm⟩
theorem Jm {m:List (Nat × Nat)}{f:Nat->Option Ob}{d:Nat}{a:Option Ob}(h:∀ k J,f k=some (.fo J)->∃ j,j < 1/\bX m j=k) (ha:(∀ J,a ≠ some (.fo J))\/bX m 0=d):∀ k J,bO f d a k=some (.fo J)->∃ j,j < 1/\bX m j=k:=fun k J hk=>by
 by_cases e:k=d
 ·subst e
  rw [aE] at hk
  rcases ha with ha|ha
  ·exact absurd hk (ha J)
  ·exact⟨0,by omega,ha⟩
 ·rw [aK _ _ e] at hk;exact h k J hk
section
variable {w0:World}{ρ:Hd}
theorem Jn (x:Tm):∀ (J:lz) (b:Bool) (J':lz),x.ok->Ys Tryz.prog w0 J ((cY x).map bF) b J' ->
  bc Tryz.prog w0 274 [tm ρ x,.yl 0] (aM [(0,.fo J)] 1) (.v (.bool b)) (aM [(0,.fo J')] 1):=by
 refine Tm.ind (p:=fun x=>∀ (J:lz) (b:Bool) (J':lz),x.ok->Ys Tryz.prog w0 J ((cY x).map bF) b J' ->
  bc Tryz.prog w0 274 [tm ρ x,.yl 0] (aM [(0,.fo J)] 1) (.v (.bool b)) (aM [(0,.fo J')] 1)) ?_ x
 intro k i n a ih J b J' hx hy
 obtain⟨cX,ey,eD⟩:=hx.out
 dsimp only at cX ey eD
 have hA:=S7 (w0:=w0) (ρ:=ρ) ⟨k,i,n,a⟩
 rw [jP] at hA
 dsimp only at hA
 refine aH.jM 1 1 _ Xf (by simp [Tryz.ntmps274]) rfl rfl ?_
 refine gq jU ?_
 rw [cY] at hy
 by_cases hk:k=1
 ·subst hk
  have h1:=hy.one
  repeat' (first
   |((refine ab.op rfl (ad.yl rfl rfl (h1 _ 0 rfl)) ?_;refine gq jU ?_))
   |(refine bq (fun hb=>?_) (fun hb=>?_)<;>(try simp only [aq] at hb)<;>(first|exact absurd hb (by decide)|refine gq jU ?_))
   |(refine fq ?_))
  exact⟨[],.aD .v,⟨.inl ⟨_,rfl,.same trivial⟩,trivial⟩,rfl⟩
 rw [if_neg hk] at hy
 obtain⟨a',cA⟩:∃ a',a'=if k=2 then a else []:=⟨_,rfl⟩
 rw [<-cA] at hA
 have Jo:Ys Tryz.prog w0 J ((aT a').map bF) b J':=by
  rw [cA]
  split at hy
  ·rw [if_pos (by assumption)];exact hy
  ·rw [if_neg (by assumption),aT];exact hy
 have hl:a'.length<=1099511627776:=by
  rw [cA]
  split
  ·omega
  ·simp
 have eI:∀ y ∈ a',y ∈ a:=by
  intro y hy
  rw [cA] at hy
  split at hy
  ·exact hy
  ·cases hy
 clear hy cA
 repeat' (first
  |(refine ab.op rfl (ad.ag rfl hA ⟨ba (ρ:=ρ) ⟨k,i,n,a⟩,trivial⟩) ?_;refine gq jU ?_)
  |(refine bq (fun hb=>?_) (fun hb=>?_)<;>(try simp only [aq] at hb)<;>(first|refine gq jU ?_))
  |(refine aB fun m hm=>?_;(try rw [af] at hm);refine gq jU ?_)
  )
 ·exact absurd (by assumption) hk
 refine ab.aP (σ:=Int × lz) 2 2 [] (fun p=>[(1,.yl 0),(15,tl ρ a'),(16,.v (.int .i64 m)),(17,.v (.int .i64 p.1))]) [] (fun p=>[(0,.fo p.2)])
  (fun p=>∃ k:Nat,p.1=k/\k<=a'.length/\Ys Tryz.prog w0 p.2 ((aT (a'.drop k)).map bF) b J') (fun p=>a'.length - p.1.toNat) (0,J) ⟨0,rfl,by simp,by simpa using Jo⟩ rfl
  ⟨⟨.aD rfl (.yl (by decide)),.aD rfl (Pure.b_ (bC _)),.aD rfl .v,.aD rfl .v,trivial⟩,rfl,⟨.inl ⟨_,rfl,.same trivial⟩,trivial⟩,rfl,rfl,rfl⟩ ?_
 rintro⟨i,J⟩ ⟨k,hi,hk,hp⟩
 simp only at hi hp
 clear Jo
 refine gq jU ?_
 by_cases au:k < a'.length
 ·obtain⟨y,fP,cP⟩:=az au
  rw [eR cP,List.map_append] at hp
  rcases hp.split with ⟨fL,h1⟩|⟨J1,h1,h2⟩
  ·subst fL
   have bI:=ih y (eI y (aY fP)) _ _ _ (eD.mem y (eI y (aY fP))) h1
   repeat' (first
    |(refine ab.op rfl (ad.ind rfl rfl (ft (l:=a') hi fP) fu) ?_;refine gq jU ?_)
    |((refine ab.op rfl (ad.iS (m:=[(0,0)]) (to:=[(0,some (.fo J'))]) bI rfl ⟨Rn.pure (ba _),Rn.yl rfl rfl,trivial⟩ (Rb.pure .v) rfl rfl ⟨⟨_,rfl,hO.fo⟩,trivial⟩ ⟨⟨0,_,rfl,rfl,iD.fo⟩,trivial⟩ rfl (by repeat (first|exact ep rfl|refine jt ?_ rfl)) (.inl (by repeat (first|exact vL rfl|refine Jm ?_ (.inl fun J h=>by cases h))))) ?_;refine gq jU ?_))
    |(refine bq (fun hb=>?_) (fun hb=>?_)<;>(try simp only [aq] at hb)<;>(first|refine gq jU ?_))
    |(refine ab.ao ?_;refine gq jU ?_)
    |(refine ab.bJ ?_;refine gq jU ?_)
    |(refine fq ?_))
   all_goals first
    |exact⟨[],.aD .v,⟨.inl ⟨_,rfl,.same trivial⟩,trivial⟩,rfl⟩
    |(exfalso;omega)
  ·have bI:=ih y (eI y (aY fP)) _ _ _ (eD.mem y (eI y (aY fP))) h1
   repeat' (first
    |(refine ab.op rfl (ad.ind rfl rfl (ft (l:=a') hi fP) fu) ?_;refine gq jU ?_)
    |((refine ab.op rfl (ad.iS (m:=[(0,0)]) (to:=[(0,some (.fo J1))]) bI rfl ⟨Rn.pure (ba _),Rn.yl rfl rfl,trivial⟩ (Rb.pure .v) rfl rfl ⟨⟨_,rfl,hO.fo⟩,trivial⟩ ⟨⟨0,_,rfl,rfl,iD.fo⟩,trivial⟩ rfl (by repeat (first|exact ep rfl|refine jt ?_ rfl)) (.inl (by repeat (first|exact vL rfl|refine Jm ?_ (.inl fun J h=>by cases h))))) ?_;refine gq jU ?_))
    |(refine bq (fun hb=>?_) (fun hb=>?_)<;>(try simp only [aq] at hb)<;>(first|refine gq jU ?_))
    |(refine aS fun _ _=>?_;refine gq jU ?_)
    |(refine ab.ao ?_;refine gq jU ?_)
    |(refine fq ?_))
   all_goals first
    |(exfalso;omega)
    |(refine ab.aL (σ:=Int × lz) (_,J1) [] ?_ ?_ ⟨⟨.aD rfl (.yl (by decide)),.aD rfl (Pure.b_ (bC _)),.aD rfl .v,.aD rfl .v,trivial⟩,rfl,⟨.inl ⟨_,rfl,.same trivial⟩,trivial⟩,rfl,rfl,rfl⟩
      ·exact⟨k+1,by simp only;omega,by omega,h2⟩
      ·simp only;omega)
 ·rw [List.drop_eq_nil_of_le (by omega),aT] at hp
  obtain⟨rfl,rfl⟩:=hp.Sj
  repeat' (first
   |(refine bq (fun hb=>?_) (fun hb=>?_)<;>(try simp only [aq] at hb)<;>(first|refine gq jU ?_))
   |(refine ab.ao ?_;refine gq jU ?_)
   |(refine fq ?_))
  all_goals first
   |(exfalso;omega)
   |exact⟨[],.aD .v,⟨.inl ⟨_,rfl,.same trivial⟩,trivial⟩,rfl⟩
theorem Q0 (l:List Tm) (hl:l.length<=1099511627776) (hk:eg l):Iter Tryz.prog w0 273 [] [.ip [tl ρ l]] ((aT l).map bF):=by
 intro J b J' hy
 refine⟨.bg [],aM [(0,.fo J')] 1,?_,rfl⟩
 refine aH.jM 1 1 _ Xg (by simp [Tryz.ntmps273]) rfl rfl ?_
 refine gq mb ?_
 repeat' (first
  |(refine aB fun m hm=>?_;(try rw [af] at hm);refine gq mb ?_)
  )
 refine ab.aP (σ:=Int × lz) 1 1 [] (fun p=>[(0,.yl 0),(1,.ip [tl ρ l]),(5,.v (.int .i64 m)),(6,.v (.int .i64 p.1))]) [] (fun p=>[(0,.fo p.2)])
  (fun p=>∃ k:Nat,p.1=k/\k<=l.length/\Ys Tryz.prog w0 p.2 ((aT (l.drop k)).map bF) b J') (fun p=>l.length - p.1.toNat) (0,J) ⟨0,rfl,by simp,by simpa using hy⟩ rfl
  ⟨⟨.aD rfl (.yl (by decide)),.aD rfl (Pure.b_ (.ip fun a ha=>by obtain rfl:=List.mem_singleton.1 ha;exact bC _)),.aD rfl .v,.aD rfl .v,trivial⟩,rfl,⟨.inl ⟨_,rfl,.same trivial⟩,trivial⟩,rfl,rfl,rfl⟩ ?_
 rintro⟨i,J⟩ ⟨k,hi,dS,hp⟩
 simp only at hi hp
 clear hy
 refine gq mb ?_
 by_cases au:k < l.length
 ·obtain⟨y,fP,cP⟩:=az au
  rw [eR cP,List.map_append] at hp
  rcases hp.split with ⟨fL,h1⟩|⟨J1,h1,h2⟩
  ·subst fL
   have bI:=Jn (ρ:=ρ) y _ _ _ (hk.mem y (aY fP)) h1
   repeat' (first
    |(refine ab.op rfl (ad.ind rfl rfl (ft (l:=l) hi fP) fu) ?_;refine gq mb ?_)
    |((refine ab.op rfl (ad.iS (m:=[(0,0)]) (to:=[(0,some (.fo J'))]) bI rfl ⟨Rn.pure (ba _),Rn.yl rfl rfl,trivial⟩ (Rb.pure .v) rfl rfl ⟨⟨_,rfl,hO.fo⟩,trivial⟩ ⟨⟨0,_,rfl,rfl,iD.fo⟩,trivial⟩ rfl (by repeat (first|exact ep rfl )) (.inl (by repeat (first|exact vL rfl )))) ?_;refine gq mb ?_))
    |(refine bq (fun hb=>?_) (fun hb=>?_)<;>(try simp only [aq] at hb)<;>(first|refine gq mb ?_))
    |(refine ab.ao ?_;refine gq mb ?_)
    |(refine ab.bJ ?_;refine gq mb ?_)
    |(refine fq ?_))
   all_goals first
    |exact⟨[],.aD (.bg fun a ha=>by cases ha),⟨.inl ⟨_,rfl,.same trivial⟩,trivial⟩,rfl⟩
    |(exfalso;omega)
  ·have bI:=Jn (ρ:=ρ) y _ _ _ (hk.mem y (aY fP)) h1
   repeat' (first
    |(refine ab.op rfl (ad.ind rfl rfl (ft (l:=l) hi fP) fu) ?_;refine gq mb ?_)
    |((refine ab.op rfl (ad.iS (m:=[(0,0)]) (to:=[(0,some (.fo J1))]) bI rfl ⟨Rn.pure (ba _),Rn.yl rfl rfl,trivial⟩ (Rb.pure .v) rfl rfl ⟨⟨_,rfl,hO.fo⟩,trivial⟩ ⟨⟨0,_,rfl,rfl,iD.fo⟩,trivial⟩ rfl (by repeat (first|exact ep rfl )) (.inl (by repeat (first|exact vL rfl )))) ?_;refine gq mb ?_))
    |(refine bq (fun hb=>?_) (fun hb=>?_)<;>(try simp only [aq] at hb)<;>(first|refine gq mb ?_))
    |(refine aS fun _ _=>?_;refine gq mb ?_)
    |(refine ab.ao ?_;refine gq mb ?_)
    |(refine fq ?_))
   all_goals first
    |(exfalso;omega)
    |(refine ab.aL (σ:=Int × lz) (_,J1) [] ?_ ?_ ⟨⟨.aD rfl (.yl (by decide)),.aD rfl (Pure.b_ (.ip fun a ha=>by obtain rfl:=List.mem_singleton.1 ha;exact bC _)),.aD rfl .v,.aD rfl .v,trivial⟩,rfl,⟨.inl ⟨_,rfl,.same trivial⟩,trivial⟩,rfl,rfl,rfl⟩
      ·exact⟨k+1,by simp only;omega,by omega,h2⟩
      ·simp only;omega)
 ·rw [List.drop_eq_nil_of_le (by omega),aT] at hp
  obtain⟨rfl,rfl⟩:=hp.Sj
  repeat' (first
   |(refine bq (fun hb=>?_) (fun hb=>?_)<;>(try simp only [aq] at hb)<;>(first|refine gq mb ?_))
   |(refine ab.ao ?_;refine gq mb ?_)
   |(refine fq ?_))
  all_goals first
   |(exfalso;omega)
   |exact⟨[],.aD (.bg fun a ha=>by cases ha),⟨.inl ⟨_,rfl,.same trivial⟩,trivial⟩,rfl⟩
theorem Cx (l:List Tm):ah Tryz.prog w0 195 [tl ρ l] (.fn (.func 273) [] [.ip [tl ρ l]]):=by
 refine Xh.aG (by simp [Tryz.ntmps195]) ((.fn (fun a ha=>by cases ha) fun a ha=>by obtain rfl:=List.mem_singleton.1 ha;exact .ip fun b hb=>by obtain rfl:=List.mem_singleton.1 hb;exact bC _)) ?_
 refine gq abu ?_
 repeat' (first
  |(refine fq ?_))
 refine aU.fns ?_ ?_
 ·exact trivial
 ·exact⟨aU.box (cs:=[tl ρ l]) (cs':=[tl ρ l]) rfl ⟨.refl _,trivial⟩,trivial⟩
end
end
section
set_option maxRecDepth 100000
attribute [local irreducible] ah bc ad ab
def Tt:CF Tryz.f47:=⟨_,by conv=>lhs;cbv⟩
theorem abv:aH Tryz.prog 47 Tt.1 Tryz.f47.ntmps:=aQ Tryz.func47 Tt.2 Tryz.call47
def uA:List Nat:=[9,4,0,8,10,7,1,6,16]
def Tu:CF Tryz.f49:=⟨_,by conv=>lhs;cbv⟩
theorem abw:aH Tryz.prog 49 Tu.1 Tryz.f49.ntmps:=aQ Tryz.func49 Tu.2 Tryz.call49
def uB:List Nat:=[9,4,0,8,10,7,1,6,16]
def Tv:CF Tryz.f52:=⟨_,by conv=>lhs;cbv⟩
theorem abx:aH Tryz.prog 52 Tv.1 Tryz.f52.ntmps:=aQ Tryz.func52 Tv.2 Tryz.call52
def uC:List Nat:=[9,4,0,8,10,7,1,6,16]
def Tw:CF Tryz.f54:=⟨_,by conv=>lhs;cbv⟩
theorem aby:aH Tryz.prog 54 Tw.1 Tryz.f54.ntmps:=aQ Tryz.func54 Tw.2 Tryz.call54
def uD:List Nat:=[9,4,0,8,10,7,1,6,16]
section
variable {w0:World}{ρ:Hd}
theorem Xm (p:Fi->Bool) (l:List Fi) (gid:FuncId) (fs cs:List AV) (hl:l.length<=1099511627776) (hF:Pure (.fn (.func gid) fs cs)) (h:∀ x ∈ l,sk Tryz.prog w0 (.fn (.func gid) fs cs) [fi ρ x] (p x)):ah Tryz.prog w0 52 [gO ρ l,.fn (.func gid) fs cs] (.v (.bool (l.all p))):=by
 obtain⟨R,hR⟩:∃ R,R=l.all p:=⟨_,rfl⟩
 rw [<-hR]
 refine abx.aG (by simp [Tryz.ntmps52]) (.v) ?_
 refine gq uC ?_
 repeat' (first
  |(refine aB fun m hm=>?_;(try rw [af] at hm);refine gq uC ?_)
  )
 refine ab.aP (σ:=Int) 0 0 [] (fun i=>[(1,.fn (.func gid) fs cs),(7,gO ρ l),(8,.v (.int .i64 m)),(9,.v (.int .i64 i))]) [] (fun _=>[])
  (fun i=>∃ k:Nat,i=k/\k<=l.length/\R=(l.drop k).all p) (fun i=>l.length - i.toNat) 0 ⟨0,rfl,by simp,by simpa using hR⟩ rfl ⟨⟨.aD rfl (Pure.b_ hF),.aD rfl (Pure.b_ (cJ _)),.aD rfl .v,.aD rfl .v,trivial⟩,rfl,trivial,rfl,rfl,rfl⟩ ?_
 rintro i ⟨k,hi,hk,hp⟩
 clear hR
 refine gq uC ?_
 by_cases au:k < l.length
 ·obtain⟨x,hx,aO⟩:=az au
  rw [aO,List.all_cons] at hp
  have hf:=h x (aY hx)
  repeat' (first
   |(refine ab.op rfl (ad.ind rfl rfl (ay (l:=l) hi hx) (aw fun _=>rfl)) ?_;refine gq uC ?_)
   |(refine ab.a_ rfl (ad.x_ rfl rfl hf) (fun _=>?_) (fun _=>?_)<;>refine gq uC ?_)
   |(refine bq (fun hb=>?_) (fun hb=>?_)<;>(try simp only [aq] at hb)<;>(first|refine gq uC ?_))
   |(refine aS fun _ _=>?_;refine gq uC ?_)
   |(refine ab.ao ?_;refine gq uC ?_)
   |(refine ab.bJ ?_;refine gq uC ?_)
   |(refine fq ?_))
  all_goals first
   |(refine aC ?_;rw [hp];simp_all;done)
   |(refine ab.aL (σ:=Int) _ [] ?_ ?_ ⟨⟨.aD rfl (Pure.b_ hF),.aD rfl (Pure.b_ (cJ _)),.aD rfl .v,.aD rfl .v,trivial⟩,rfl,trivial,rfl,rfl,rfl⟩
     ·exact⟨k+1,by omega,by omega,by rw [hp];simp_all⟩
     ·omega)
 ·skip
  repeat' (first
   |(refine bq (fun hb=>?_) (fun hb=>?_)<;>(try simp only [aq] at hb)<;>(first|refine gq uC ?_))
   |(refine ab.ao ?_;refine gq uC ?_)
   |(refine fq ?_))
  all_goals first
   |(exfalso;omega)
   |(rw [hp,List.drop_eq_nil_of_le (by omega)];exact aC rfl)
theorem Xn (p:Bd->Bool) (l:List Bd) (gid:FuncId) (fs cs:List AV) (hl:l.length<=1099511627776) (hF:Pure (.fn (.func gid) fs cs)) (h:∀ x ∈ l,sk Tryz.prog w0 (.fn (.func gid) fs cs) [bd ρ x] (p x)):ah Tryz.prog w0 54 [eJ ρ l,.fn (.func gid) fs cs] (.v (.bool (l.all p))):=by
 obtain⟨R,hR⟩:∃ R,R=l.all p:=⟨_,rfl⟩
 rw [<-hR]
 refine aby.aG (by simp [Tryz.ntmps54]) (.v) ?_
 refine gq uD ?_
 repeat' (first
  |(refine aB fun m hm=>?_;(try rw [af] at hm);refine gq uD ?_)
  )
 refine ab.aP (σ:=Int) 0 0 [] (fun i=>[(1,.fn (.func gid) fs cs),(7,eJ ρ l),(8,.v (.int .i64 m)),(9,.v (.int .i64 i))]) [] (fun _=>[])
  (fun i=>∃ k:Nat,i=k/\k<=l.length/\R=(l.drop k).all p) (fun i=>l.length - i.toNat) 0 ⟨0,rfl,by simp,by simpa using hR⟩ rfl ⟨⟨.aD rfl (Pure.b_ hF),.aD rfl (Pure.b_ (bT _)),.aD rfl .v,.aD rfl .v,trivial⟩,rfl,trivial,rfl,rfl,rfl⟩ ?_
 rintro i ⟨k,hi,hk,hp⟩
 clear hR
 refine gq uD ?_
 by_cases au:k < l.length
 ·obtain⟨x,hx,aO⟩:=az au
  rw [aO,List.all_cons] at hp
  have hf:=h x (aY hx)
  repeat' (first
   |(refine ab.op rfl (ad.ind rfl rfl (ay (l:=l) hi hx) (aw fun _=>rfl)) ?_;refine gq uD ?_)
   |(refine ab.a_ rfl (ad.x_ rfl rfl hf) (fun _=>?_) (fun _=>?_)<;>refine gq uD ?_)
   |(refine bq (fun hb=>?_) (fun hb=>?_)<;>(try simp only [aq] at hb)<;>(first|refine gq uD ?_))
   |(refine aS fun _ _=>?_;refine gq uD ?_)
   |(refine ab.ao ?_;refine gq uD ?_)
   |(refine ab.bJ ?_;refine gq uD ?_)
   |(refine fq ?_))
  all_goals first
   |(refine aC ?_;rw [hp];simp_all;done)
   |(refine ab.aL (σ:=Int) _ [] ?_ ?_ ⟨⟨.aD rfl (Pure.b_ hF),.aD rfl (Pure.b_ (bT _)),.aD rfl .v,.aD rfl .v,trivial⟩,rfl,trivial,rfl,rfl,rfl⟩
     ·exact⟨k+1,by omega,by omega,by rw [hp];simp_all⟩
     ·omega)
 ·skip
  repeat' (first
   |(refine bq (fun hb=>?_) (fun hb=>?_)<;>(try simp only [aq] at hb)<;>(first|refine gq uD ?_))
   |(refine ab.ao ?_;refine gq uD ?_)
   |(refine fq ?_))
  all_goals first
   |(exfalso;omega)
   |(rw [hp,List.drop_eq_nil_of_le (by omega)];exact aC rfl)
end
end
end Go.Proofs.YtbofilglphfceaaGreat
