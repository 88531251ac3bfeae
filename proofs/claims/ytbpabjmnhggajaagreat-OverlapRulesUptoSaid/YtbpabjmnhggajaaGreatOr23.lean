import Derived.Test.YtbpabjmnhggajaaGreatOr22
namespace Go.Proofs.YtbpabjmnhggajaaGreat
set_option linter.all false
open Go.RowKit
variable {m:List (Nat × Nat)}
section
set_option maxRecDepth 100000
attribute [local irreducible] ah aG ae ad
def air:FQ 232 Tryz.f232:=aF Tryz.func232 Tryz.call232
def eQ:List Nat:=[2,17,1,4,0,9,16,18,15,6,24]
def ais:FQ 231 Tryz.f231:=aF Tryz.func231 Tryz.call231
def qS:List Nat:=[6,1,5,7,3,0,15]
def ait:FQ 190 Tryz.f190:=aF Tryz.func190 Tryz.call190
def amL:List Nat:=[2,0,1]
def aiu:FQ 189 Tryz.f189:=aF Tryz.func189 Tryz.call189
def CY:List Nat:=[5,3,4,2,0,7,8,12]
def aiv:FQ 129 Tryz.f129:=aF Tryz.func129 Tryz.call129
def Xt:List Nat:=[2,0,1]
def aiw:FQ 130 Tryz.f130:=aF Tryz.func130 Tryz.call130
def Xu:List Nat:=[2,0,1]
mutual
def dO:Tm->List Int
 |⟨k,i,n,a⟩=>if k=1 then [i] else if k=2 then aY a else []
def aY:List Tm->List Int
 |[]=>[]
 |x::l=>dO x++aY l
end
def bH (s:List Int):List Int->List Int
 |[]=>[]
 |x::l=>if s.contains x then bH s l else x::bH (s++[x]) l
theorem ja {a:List Tm}{k:Nat}{y:Tm}(h:a.drop k=y::a.drop (k+1)):aY (a.drop k)=dO y++aY (a.drop (k+1)):=by rw[h,aY]
theorem Ek {J:fG}(h0:aU m 0=0):∀k a,fb [(0,.fo J)] k=some (.fo a)->∃j,j < 1/\aU m j=k:=λk a h=>by
 have:=fp h;simp at this;exact⟨0,by omega,by grind⟩
theorem Uw {f:Nat->Option Ob}{d:Nat}{a:Option Ob}(h:∀k J,f k=some (.fo J)->∃j,j < 1/\aU m j=k) (b:(∀J,a ≠ some (.fo J))\/aU m 0=d):∀k J,bE f d a k=some (.fo J)->∃j,j < 1/\aU m j=k:=λk J c=>by grind[aJ,aO]
section
variable {w0:World}{ρ:Hd}
theorem Ux (x:Tm):∀(J:fG) (b:Bool) (f:fG),x.ok->Ys Tryz.prog w0 J ((dO x).map aI) b f ->
  aG Tryz.prog w0 232 [tm ρ x,.yl 0] (aq [(0,.fo J)] 1) (.v (.bool b)) (aq [(0,.fo f)] 1):=by
 refine Tm.ind (p:=λx=>∀(J:fG) (b:Bool) (f:fG),x.ok->Ys Tryz.prog w0 J ((dO x).map aI) b f ->
  aG Tryz.prog w0 232 [tm ρ x,.yl 0] (aq [(0,.fo J)] 1) (.v (.bool b)) (aq [(0,.fo f)] 1)) ?_ x
 intro k i n a A J b f D d;obtain⟨E,F,v⟩:=D.out;dsimp only at E F v;have s:=adU (w0:=w0) (ρ:=ρ) ⟨k,i,n,a⟩;rw[oG]at s;dsimp only at s;refine sc 1 1 air ?_;refine gq eQ ?_;rw[dO]at d;by_cases t:k=1
 ·subst t;have o:=d.one
  repeat' (first
   |(refine ad.op rfl (ae.yl rfl rfl (o _ 0 rfl)) ?_;refine gq eQ ?_)
   |refine bq (λc=>?_) (λc=>?_)<;>(try simp only[bL]at c)<;>(first|exact absurd c (by decide)|refine gq eQ ?_)
   |refine bS λm g=>?_;(try rw[au]at g);refine gq eQ ?_
   |refine cw λ_ _=>?_;refine gq eQ ?_
   |refine ll λ_ _=>?_;refine gq eQ ?_
   |refine ad.str rfl (ae.cat rfl rfl (by assumption)) λ_ _=>?_;refine gq eQ ?_
   |refine ad.ao ?_;refine gq eQ ?_
   |refine ad.bh ?_;refine gq eQ ?_
   |(refine fq ?_))
  exact⟨[],.aC .v,⟨.inl ⟨_,rfl,.same trivial⟩,trivial⟩,rfl⟩
 rw[if_neg t]at d;obtain⟨e,q⟩:∃e,e=if k=2 then a else []:=⟨_,rfl⟩
 rw[<-q]at s;have B:Ys Tryz.prog w0 J ((aY e).map aI) b f:=by
  rw[q];split at d
  ·rw[if_pos (by grind)];exact d
  ·rw[if_neg (by grind),aY];exact d
 have M:e.length<=1099511627776:=by
  rw[q];split
  ·omega
  ·simp
 have u:∀y ∈ e,y ∈ a:=by
  intro y d;rw[q]at d;split at d
  ·exact d
  ·cases d
 clear d q
 repeat' (first
  |refine ad.op rfl (pl s) ?_;refine gq eQ ?_
  |refine bq (λc=>?_) (λc=>?_)<;>(try simp only[bL]at c)<;>(first|exact absurd c (by decide)|refine gq eQ ?_)
  |refine bS λm g=>?_;(try rw[au]at g);refine gq eQ ?_
  |refine cw λ_ _=>?_;refine gq eQ ?_
  |refine ll λ_ _=>?_;refine gq eQ ?_
  |refine ad.str rfl (ae.cat rfl rfl (by assumption)) λ_ _=>?_;refine gq eQ ?_
  |refine ad.ao ?_;refine gq eQ ?_
  |refine ad.bh ?_;refine gq eQ ?_
  |(refine fq ?_))
 ·exact absurd (by assumption) t
 refine ad.aK (σ:=Int × fG) 2 2 [] (λp=>[(1,.yl 0),(15,tl ρ e),(16,.v (.int .i64 m)),(17,.v (.int .i64 p.1))]) [] (λp=>[(0,.fo p.2)])
  (λp=>∃k:Nat,p.1=k/\k<=e.length/\Ys Tryz.prog w0 p.2 ((aY (e.drop k)).map aI) b f) (λp=>e.length - p.1.toNat) (0,J) ⟨0,rfl,by simp,by simpa using B⟩ rfl
  cz ?_
 rintro⟨i,J⟩ ⟨k,w,t,r⟩;simp only at w r;clear B;refine gq eQ ?_;by_cases H:k < e.length
 ·obtain⟨y,j,I⟩:=aD H;rw[ja I,aM_]at r;rcases r.split with ⟨K,o⟩|⟨C,o,L⟩
  ·subst K;have z:=A y (u y (bM j)) _ _ _ (v.mem y (u y (bM j))) o
   repeat' (first
    |refine ad.op rfl (ae.ind rfl rfl (cC (l:=e) w j) cD) ?_;refine gq eQ ?_
    |(refine ad.op rfl (ae.mY (m:=[(0,0)]) (to:=[(0,some (.fo f))]) z rfl ⟨Rn.pure (bQ _),Rn.yl rfl rfl,trivial⟩ (Rb.pure .v) rfl rfl ⟨⟨_,rfl,lj.fo⟩,trivial⟩ ⟨⟨0,_,rfl,rfl,me.fo⟩,trivial⟩ rfl (by repeat (first|exact kC rfl|refine rB ?_ rfl)) (.inl (by repeat (first|exact Ek rfl|refine Uw ?_ (.inl λJ h=>by grind))))) ?_;refine gq eQ ?_)
    |refine bq (λc=>?_) (λc=>?_)<;>(try simp only[bL]at c)<;>(first|exact absurd c (by decide)|refine gq eQ ?_)
    |refine bS λm g=>?_;(try rw[au]at g);refine gq eQ ?_
    |refine cw λ_ _=>?_;refine gq eQ ?_
    |refine ll λ_ _=>?_;refine gq eQ ?_
    |refine ad.str rfl (ae.cat rfl rfl (by assumption)) λ_ _=>?_;refine gq eQ ?_
    |refine ad.ao ?_;refine gq eQ ?_
    |refine ad.bh ?_;refine gq eQ ?_
    |(refine fq ?_))
   all_goals first
    |exact⟨[],.aC .v,⟨.inl ⟨_,rfl,.same trivial⟩,trivial⟩,rfl⟩
    |exfalso;omega
  ·have z:=A y (u y (bM j)) _ _ _ (v.mem y (u y (bM j))) o
   repeat' (first
    |refine ad.op rfl (ae.ind rfl rfl (cC (l:=e) w j) cD) ?_;refine gq eQ ?_
    |(refine ad.op rfl (ae.mY (m:=[(0,0)]) (to:=[(0,some (.fo C))]) z rfl ⟨Rn.pure (bQ _),Rn.yl rfl rfl,trivial⟩ (Rb.pure .v) rfl rfl ⟨⟨_,rfl,lj.fo⟩,trivial⟩ ⟨⟨0,_,rfl,rfl,me.fo⟩,trivial⟩ rfl (by repeat (first|exact kC rfl|refine rB ?_ rfl)) (.inl (by repeat (first|exact Ek rfl|refine Uw ?_ (.inl λJ h=>by cases h))))) ?_;refine gq eQ ?_)
    |refine bq (λc=>?_) (λc=>?_)<;>(try simp only[bL]at c)<;>(first|exact absurd c (by decide)|refine gq eQ ?_)
    |refine bS λm g=>?_;(try rw[au]at g);refine gq eQ ?_
    |refine cw λ_ _=>?_;refine gq eQ ?_
    |refine ll λ_ _=>?_;refine gq eQ ?_
    |refine ad.str rfl (ae.cat rfl rfl (by assumption)) λ_ _=>?_;refine gq eQ ?_
    |refine ad.ao ?_;refine gq eQ ?_
    |refine ad.bh ?_;refine gq eQ ?_
    |(refine fq ?_))
   all_goals first
    |exfalso;omega
    |(refine ad.az (σ:=Int × fG) (_,C) [] ?_ ?_ cz
      ·exact⟨k+1,by simp only;omega,by omega,L⟩
      ·simp only;omega)
 ·rw[ak_ (by omega),aY]at r;obtain⟨rfl,rfl⟩:=r.RO
  repeat' (first
   |refine bq (λc=>?_) (λc=>?_)<;>(try simp only[bL]at c)<;>(first|exact absurd c (by decide)|refine gq eQ ?_)
   |refine bS λm g=>?_;(try rw[au]at g);refine gq eQ ?_
   |refine cw λ_ _=>?_;refine gq eQ ?_
   |refine ll λ_ _=>?_;refine gq eQ ?_
   |refine ad.str rfl (ae.cat rfl rfl (by assumption)) λ_ _=>?_;refine gq eQ ?_
   |refine ad.ao ?_;refine gq eQ ?_
   |refine ad.bh ?_;refine gq eQ ?_
   |(refine fq ?_))
  all_goals first
   |exfalso;omega
   |exact⟨[],.aC .v,⟨.inl ⟨_,rfl,.same trivial⟩,trivial⟩,rfl⟩
theorem Qd (l:List Tm) (x:l.length<=1099511627776) (o:dG l):Iter Tryz.prog w0 231 [] [.ip [tl ρ l]] ((aY l).map aI):=by
 intro J b g q;refine⟨.aL [],aq [(0,.fo g)] 1,?_,rfl⟩;refine sc 1 1 ais ?_;refine gq qS ?_
 repeat' (first
  |refine lg qS λm z=>?_
  )
 refine ad.aK (σ:=Int × fG) 1 1 [] (λp=>[(0,.yl 0),(1,.ip [tl ρ l]),(5,.v (.int .i64 m)),(6,.v (.int .i64 p.1))]) [] (λp=>[(0,.fo p.2)])
  (λp=>∃k:Nat,p.1=k/\k<=l.length/\Ys Tryz.prog w0 p.2 ((aY (l.drop k)).map aI) b g) (λp=>l.length - p.1.toNat) (0,J) ⟨0,rfl,by simp,by simpa using q⟩ rfl
  ⟨⟨.aC rfl (.yl (by decide)),.aC rfl (Pure.bm (.ip λa c=>by obtain rfl:=ae_.1 c;exact cG _)),.aC rfl .v,.aC rfl .v,trivial⟩,rfl,⟨.inl ⟨_,rfl,.same trivial⟩,trivial⟩,rfl,rfl,rfl⟩ ?_
 rintro⟨i,J⟩ ⟨k,h,A,d⟩;simp only at h d;clear q;refine gq qS ?_;by_cases t:k < l.length
 ·obtain⟨y,f,u⟩:=aD t;rw[ja u,aM_]at d;rcases d.split with ⟨v,j⟩|⟨r,j,w⟩
  ·subst v;have n:=Ux (ρ:=ρ) y _ _ _ (o.mem y (bM f)) j
   repeat' (first
    |refine og qS (ae.ind rfl rfl (cC (l:=l) h f) cD) ?_
    |(refine og qS (ae.mY (m:=[(0,0)]) (to:=[(0,some (.fo g))]) n rfl ⟨Rn.pure (bQ _),Rn.yl rfl rfl,trivial⟩ (Rb.pure .v) rfl rfl ⟨⟨_,rfl,lj.fo⟩,trivial⟩ ⟨⟨0,_,rfl,rfl,me.fo⟩,trivial⟩ rfl (by repeat (first|exact kC rfl )) (.inl (by repeat (first|exact Ek rfl )))) ?_)
    |refine cg qS (λe=>?_) λe=>?_
    |refine ad.ao ?_;refine gq qS ?_
    |refine ad.bh ?_;refine gq qS ?_
    |(refine fq ?_))
   all_goals first
    |exact⟨[],.aC (.aL λa c=>by cases c),⟨.inl ⟨_,rfl,.same trivial⟩,trivial⟩,rfl⟩
    |exfalso;omega
  ·have n:=Ux (ρ:=ρ) y _ _ _ (o.mem y (bM f)) j
   repeat' (first
    |refine og qS (ae.ind rfl rfl (cC (l:=l) h f) cD) ?_
    |(refine og qS (ae.mY (m:=[(0,0)]) (to:=[(0,some (.fo r))]) n rfl ⟨Rn.pure (bQ _),Rn.yl rfl rfl,trivial⟩ (Rb.pure .v) rfl rfl ⟨⟨_,rfl,lj.fo⟩,trivial⟩ ⟨⟨0,_,rfl,rfl,me.fo⟩,trivial⟩ rfl (by repeat (first|exact kC rfl )) (.inl (by repeat (first|exact Ek rfl )))) ?_)
    |refine cg qS (λe=>?_) λe=>?_
    |refine ag qS λ_ _=>?_
    |refine ad.ao ?_;refine gq qS ?_
    |(refine fq ?_))
   all_goals first
    |exfalso;omega
    |(refine ad.az (σ:=Int × fG) (_,r) [] ?_ ?_ ⟨⟨.aC rfl (.yl (by decide)),.aC rfl (Pure.bm (.ip λa c=>by obtain rfl:=ae_.1 c;exact cG _)),.aC rfl .v,.aC rfl .v,trivial⟩,rfl,⟨.inl ⟨_,rfl,.same trivial⟩,trivial⟩,rfl,rfl,rfl⟩
      ·exact⟨k+1,by simp only;omega,by omega,w⟩
      ·simp only;omega)
 ·rw[ak_ (by omega),aY]at d;obtain⟨rfl,rfl⟩:=d.RO
  repeat' (first
   |refine cg qS (λe=>?_) λe=>?_
   |refine ad.ao ?_;refine gq qS ?_
   |(refine fq ?_))
  all_goals first
   |exfalso;omega
   |exact⟨[],.aC (.aL λa c=>by cases c),⟨.inl ⟨_,rfl,.same trivial⟩,trivial⟩,rfl⟩
theorem Mm (l:List Tm):ah Tryz.prog w0 190 [tl ρ l] (.fn (.func 231) [] [.ip [tl ρ l]]):=by
 refine st ait amL ((.fn (λa c=>by grind) λa c=>by obtain rfl:=ae_.1 c;exact .ip λb e=>by grind[cG])) ?_
 repeat' (first
  |(refine fq ?_))
 refine aP.fns ?_ ?_
 ·exact trivial
 ·exact⟨aP.box (cs:=[tl ρ l]) (cs':=[tl ρ l]) rfl ⟨.refl _,trivial⟩,trivial⟩
end
end
end Go.Proofs.YtbpabjmnhggajaaGreat
