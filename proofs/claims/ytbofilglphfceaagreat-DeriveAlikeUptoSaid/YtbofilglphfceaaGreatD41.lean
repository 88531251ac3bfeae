import Derived.Test.YtbofilglphfceaaGreatD39
namespace Go.Proofs.YtbofilglphfceaaGreat
set_option linter.unusedVariables false
set_option linter.unusedSimpArgs false
open Go.RowKit
section
set_option maxRecDepth 100000
attribute [local irreducible] ag aR aa ab
def G0:CF Tryz.f198:=⟨_,by conv=>lhs;cbv⟩
theorem Oh:bN Tryz.prog 198 G0.1 Tryz.f198.ntmps:=cd Tryz.func198 G0.2 Tryz.call198
def eT:List Nat:=[11,1,0,5,8,4,10,12,9,19,6,7,28,35]
def G1:CF Tryz.f109:=⟨_,by conv=>lhs;cbv⟩
theorem Oi:bN Tryz.prog 109 G1.1 Tryz.f109.ntmps:=cd Tryz.func109 G1.2 Tryz.call109
def s9:List Nat:=[2,3,5,4,0,1,21]
def J_:CF Tryz.f99:=⟨_,by conv=>lhs;cbv⟩
theorem Ru:bN Tryz.prog 99 J_.1 Tryz.f99.ntmps:=cd Tryz.func99 J_.2 Tryz.call99
def iz:List Nat:=[6,2,3,5,4,0,1,13,36]
def nJ:List Int->List Int->Int
 |x::a,y::b=>bL (cL x y) (nJ a b)
 |_,_=>0
theorem xX:∀ {a b:List Int},a.length=b.length->e7 a b=nJ a b
 |[],[],_=>rfl
 |[],_::_,h=>by simp at h
 |_::_,[],h=>by simp at h
 |x::a,y::b,h=>by rw [e7,nJ,xX (by simpa using h)]
theorem H6 {a b:Int}(h:a ≠ b):cL a b ≠ 0:=fun e=>h (l_ e)
theorem Ff {a b:Int}(h:¬ a=0):bL a b=a:=if_neg h
theorem H7 (x y:Fi):jS x y=bL (bL (cL x.qG y.qG) (cL x.ids.length y.ids.length)) (nJ x.ids y.ids):=by
 unfold jS
 by_cases h1:cL x.qG y.qG=0
 ·by_cases h2:(x.ids.length:Int)=y.ids.length
  ·rw [xX (by omega)]
   simp only [bL,h1,if_true]
  ·simp [bL,h1,H6 h2]
 ·simp [bL,h1]
section
variable {w0:World}{ρ:Hd}
theorem H8 (a b:List Int) (ha:a.length<=1099511627776) (eG:b.length<=1099511627776):ag Tryz.prog w0 198 [dZ ρ gH false a,dZ ρ gH false b] (iv (e7 a b)):=by
 obtain⟨R,hR⟩:∃ R,R=e7 a b:=⟨_,rfl⟩
 rw [<-hR]
 refine Oh.bc (by simp [Tryz.ntmps198]) (.v) ?_
 refine gq eT ?_
 repeat' (first
  |(refine aS fun m hm=>?_;(try rw [aq] at hm);refine gq eT ?_)
  )
 refine ab.cO (σ:=Int) 0 0 [] (fun i=>[(0,dZ ρ gH false a),(1,dZ ρ gH false b),(9,dZ ρ gH false a),(10,.v (.int .i64 m)),(11,.v (.int .i64 i))]) [] (fun _=>[]) (fun i=>∃ k:Nat,i=k/\k<=a.length/\k<=b.length/\R=e7 (a.drop k) (b.drop k)) (fun i=>a.length - i.toNat) 0 ⟨0,rfl,by simp,by simpa using hR⟩ rfl cq ?_
 rintro i ⟨k,hi,hk,hp⟩
 clear hR
 refine gq eT ?_
 by_cases au:k < a.length
 ·obtain⟨oL,hp⟩:=hp
  obtain⟨x,hx,bI⟩:=aU au
  by_cases Fg:k < b.length
  ·obtain⟨y,hy,dL⟩:=aU Fg
   rw [bI,dL,e7,bL] at hp
   repeat' (first
    |(refine ab.op rfl (aa.ind rfl rfl (bg (l:=a) hi hx) (ba fun _=>rfl)) ?_;refine gq eT ?_)
    |(refine ab.op rfl (aa.ind rfl rfl (bg (l:=b) hi hy) (ba fun _=>rfl)) ?_;refine gq eT ?_)
    |(refine ab.int rfl (aa.aB rfl (rL _ _) ⟨.v,.v,trivial⟩) fun _ _=>?_;refine gq eT ?_)
    |(refine bq (fun hb=>?_) (fun hb=>?_)<;>(try simp only [aJ] at hb)<;>(first|refine gq eT ?_))
    |(refine aS fun m hm=>?_;(try rw [aq] at hm);refine gq eT ?_)
    |(refine cQ fun _ _=>?_;refine gq eT ?_)
    |(refine ab.aK ?_;refine gq eT ?_)
    |(refine ab.de ?_;refine gq eT ?_)
    |(refine fq ?_))
   all_goals first
    |(exfalso;omega)
    |(subst_vars;rw [if_neg (by assumption)];exact gR rfl)
    |(subst_vars;rw [if_pos (by assumption)] at *;(refine ab.cK (σ:=Int) _ [] ?_ ?_ cq<;>first|omega|exact⟨k+1,by omega,by omega,by first|exact⟨by omega,rfl⟩ ⟩))
  ·rw [bI,show b.drop k=[] from List.drop_eq_nil_of_le (by omega),e7] at hp
   repeat' (first
    |(refine ab.op rfl (aa.ind rfl rfl (bg (l:=a) hi hx) (ba fun _=>rfl)) ?_;refine gq eT ?_)
    |(refine bq (fun hb=>?_) (fun hb=>?_)<;>(try simp only [aJ] at hb)<;>(first|refine gq eT ?_))
    |(refine aS fun m hm=>?_;(try rw [aq] at hm);refine gq eT ?_)
    |(refine ab.aK ?_;refine gq eT ?_)
    |(refine ab.de ?_;refine gq eT ?_)
    |(refine fq ?_))
   all_goals first
    |(exfalso;omega)
    |(subst_vars;exact gR rfl)
 ·obtain⟨oL,hp⟩:=hp
  rw [List.drop_eq_nil_of_le (by omega)] at hp
  by_cases Fg:k < b.length
  ·obtain⟨y,hy,dL⟩:=aU Fg
   rw [dL,e7] at hp
   repeat' (first
    |(refine bq (fun hb=>?_) (fun hb=>?_)<;>(try simp only [aJ] at hb)<;>(first|refine gq eT ?_))
    |(refine aS fun m hm=>?_;(try rw [aq] at hm);refine gq eT ?_)
    |(refine ab.aK ?_;refine gq eT ?_)
    |(refine fq ?_))
   all_goals first
    |(exfalso;omega)
    |(rw [hp];exact gR rfl)
  ·rw [List.drop_eq_nil_of_le (by omega),e7] at hp
   repeat' (first
    |(refine bq (fun hb=>?_) (fun hb=>?_)<;>(try simp only [aJ] at hb)<;>(first|refine gq eT ?_))
    |(refine aS fun m hm=>?_;(try rw [aq] at hm);refine gq eT ?_)
    |(refine ab.aK ?_;refine gq eT ?_)
    |(refine fq ?_))
   all_goals first
    |(exfalso;omega)
    |(rw [hp];exact gR rfl)
theorem Ka (x y:Fi) (hx:x.ids.length<=1099511627776) (hy:y.ids.length<=1099511627776):ag Tryz.prog w0 109 [fi ρ x,fi ρ y] (iv (jS x y)):=by
 obtain⟨xr,xs⟩:=x
 obtain⟨yr,ys⟩:=y
 dsimp only at hx hy
 have hC:=H8 (w0:=w0) (ρ:=ρ) xs ys hx hy
 obtain⟨R,hR⟩:∃ R,R=jS ⟨xr,xs⟩ ⟨yr,ys⟩:=⟨_,rfl⟩
 rw [<-hR]
 unfold jS at hR
 dsimp only at hR
 obtain⟨C,S8⟩:∃ C,C=e7 xs ys:=⟨_,rfl⟩
 rw [<-S8] at hC hR
 refine Oi.bc (by simp [Tryz.ntmps109]) (.v) ?_
 refine gq s9 ?_
 repeat' (first
  |(refine ab.int rfl (aa.aB rfl (rL _ _) ⟨.v,.v,trivial⟩) fun _ _=>?_;refine gq s9 ?_)
  |(refine ab.int rfl (aa.ea rfl (Gq _ _) ⟨fB _,trivial⟩ ⟨Wk.sl,trivial⟩) fun _ _=>?_;refine gq s9 ?_)
  |(refine ab.op rfl (aa.aB rfl hC ⟨fB _,fB _,trivial⟩) ?_;refine gq s9 ?_)
  |(refine bq (fun hb=>?_) (fun hb=>?_)<;>(try simp only [aJ] at hb)<;>(first|refine gq s9 ?_))
  |(refine aS fun m hm=>?_;(try rw [aq] at hm);refine gq s9 ?_)
  |(refine fq ?_))
 all_goals (subst_vars;refine gR ?_;simp only [bL,kM] at *;(repeat' split)<;>first|rfl|(simp_all;done) )
theorem Kb (x y:Fi) (hx:x.ids.length<=1099511627776) (hy:y.ids.length<=1099511627776):ag Tryz.prog w0 99 [fi ρ x,fi ρ y] (iv (jS x y)):=by
 have Kc:=H7 x y
 obtain⟨R,hR⟩:∃ R,R=jS x y:=⟨_,rfl⟩
 rw [<-hR] at Kc ⊢
 clear hR
 obtain⟨xr,xs⟩:=x
 obtain⟨yr,ys⟩:=y
 dsimp only at hx hy Kc
 refine Ru.bc (by simp [Tryz.ntmps99]) (.v) ?_
 refine gq iz ?_
 repeat' (first
  |(refine ab.int rfl (aa.aB rfl (xU _ _) ⟨.v,.v,trivial⟩) fun _ _=>?_;refine gq iz ?_)
  |(refine bq (fun hb=>?_) (fun hb=>?_)<;>(try simp only [aJ] at hb)<;>(first|refine gq iz ?_))
  |(refine aS fun m hm=>?_;(try rw [aq] at hm);refine gq iz ?_)
  )
 all_goals (
  rename_i c0 qe
  have hR:R=bL c0 (nJ xs ys):=by
   subst_vars
   first
    |(rw [show cL xr yr=0 by assumption];rfl)
    |(rw [Ff (a:=cL xr yr) (by assumption)])
  clear Kc qe
  refine ab.cO (σ:=Int × Int) 2 2 [] (fun p=>[(2,.pt 0 2 0 0),(3,.pt 1 2 0 0),(5,.v (.int .i64 p.2)),(6,.v (.int .i64 p.1))]) [] (fun _=>[(0,.arr 2 [xu ρ ⟨xr,xs⟩] 0 true),(1,.arr 2 [xu ρ ⟨yr,ys⟩] 0 true)])
   (fun p=>∃ k:Nat,p.1=k/\k<=xs.length/\k<=ys.length/\R=bL p.2 (nJ (xs.drop k) (ys.drop k))) (fun p=>xs.length - p.1.toNat) (0,c0) ⟨0,rfl,by simp,by simp,by simpa using hR⟩ rfl (by exact⟨sq,rfl,⟨.inl ⟨_,rfl,.arr (by exact⟨kq,trivial⟩)⟩,⟨.inl ⟨_,rfl,.arr (by exact⟨kq,trivial⟩)⟩,trivial⟩⟩,rfl,rfl,rfl⟩) ?_
  rintro⟨i,c⟩ ⟨k,hi,hk,gS,hp⟩
  simp only at hi hp
  clear hR
  refine gq iz ?_
  by_cases au:k < xs.length
  ·by_cases qE:k < ys.length
   ·obtain⟨x,dR,bI⟩:=aU au
    obtain⟨y,G2,dL⟩:=aU qE
    rw [bI,dL,nJ] at hp
    by_cases hc:c=0
    ·subst hc
     simp only [bL,if_true] at hp
     repeat' (first
      |(refine ab.op rfl (aa.ind rfl rfl (bg (l:=xs) hi dR) (ba fun _=>rfl)) ?_;refine gq iz ?_)
      |(refine ab.op rfl (aa.ind rfl rfl (bg (l:=ys) hi G2) (ba fun _=>rfl)) ?_;refine gq iz ?_)
      |(refine ab.int rfl (aa.aB rfl (xU _ _) ⟨.v,.v,trivial⟩) fun _ _=>?_;refine gq iz ?_)
      |(refine bq (fun hb=>?_) (fun hb=>?_)<;>(try simp only [aJ] at hb)<;>(first|exact absurd hb (by decide)|refine gq iz ?_))
      |(refine aS fun m hm=>?_;(try rw [aq] at hm);refine gq iz ?_)
      |(refine cQ fun _ _=>?_;refine gq iz ?_)
      |(refine ab.aK ?_;refine gq iz ?_)
      |(refine fq ?_))
     all_goals first
      |(exfalso;omega)
      |(refine ab.cK (σ:=Int × Int) (_,_) [] ?_ ?_ (by exact⟨sq,rfl,⟨.inl ⟨_,rfl,.arr (by exact⟨kq,trivial⟩)⟩,⟨.inl ⟨_,rfl,.arr (by exact⟨kq,trivial⟩)⟩,trivial⟩⟩,rfl,rfl,rfl⟩)
        ·exact⟨k+1,by simp only;omega,by omega,by omega,by subst_vars;rfl⟩
        ·simp only;omega)
    ·have jD:R=c:=by rw [hp,bL,if_neg hc]
     clear hp
     repeat' (first
      |(refine bq (fun hb=>?_) (fun hb=>?_)<;>(try simp only [aJ] at hb)<;>(first|refine gq iz ?_))
      |(refine aS fun m hm=>?_;(try rw [aq] at hm);refine gq iz ?_)
      |(refine ab.aK ?_;refine gq iz ?_)
      |(refine fq ?_))
     all_goals first
      |(exfalso;omega)
      |(rw [jD];exact gR rfl)
   ·have jD:R=c:=by
     rw [hp,show ys.drop k=[] from List.drop_eq_nil_of_le (by omega)]
     rw [show nJ (xs.drop k) []=0 by cases xs.drop k<;>rfl,bL]
     split<;>simp_all
    clear hp
    repeat' (first
     |(refine bq (fun hb=>?_) (fun hb=>?_)<;>(try simp only [aJ] at hb)<;>(first|refine gq iz ?_))
     |(refine aS fun m hm=>?_;(try rw [aq] at hm);refine gq iz ?_)
     |(refine ab.aK ?_;refine gq iz ?_)
     |(refine fq ?_))
    all_goals first
     |(exfalso;omega)
     |(rw [jD];exact gR rfl)
  ·have jD:R=c:=by
    rw [hp,show xs.drop k=[] from List.drop_eq_nil_of_le (by omega),nJ,bL]
    ·split<;>simp_all
    ·simp
   clear hp
   repeat' (first
    |(refine bq (fun hb=>?_) (fun hb=>?_)<;>(try simp only [aJ] at hb)<;>(first|refine gq iz ?_))
    |(refine aS fun m hm=>?_;(try rw [aq] at hm);refine gq iz ?_)
    |(refine ab.aK ?_;refine gq iz ?_)
    |(refine fq ?_))
   all_goals first
    |(exfalso;omega)
    |(rw [jD];exact gR rfl))
end
end
end Go.Proofs.YtbofilglphfceaaGreat
