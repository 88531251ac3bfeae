import Derived.Test.YtbofilglphfceaaGreatD21
namespace Go.Proofs.YtbofilglphfceaaGreat
set_option linter.unusedVariables false
set_option linter.unusedSimpArgs false
open Go.RowKit
section
set_option maxRecDepth 100000
attribute [local irreducible] ag aR aa ab
theorem aU {T:Type}{l:List T}{k:Nat}(h:k < l.length):∃ x,l[k]?=some x/\l.drop k=x::l.drop (k+1):=⟨l[k],List.getElem?_eq_getElem h,List.drop_eq_getElem_cons h⟩
theorem bO {T:Type}{l:List T}{k:Nat}{x:T}(h:l[k]?=some x):x ∈ l:=List.mem_of_getElem? h
section
variable {w0:World}{ρ:Hd}
theorem l_ {a b:Int}(h:cL a b=0):a=b:=by
 unfold cL at h
 split at h<;>(try split at h)<;>omega
theorem Lu (x y z:Int):ag Tryz.prog w0 196 [dZ .plain gH false [x,y,z]] (iv (kM [x,y,z])):=Jd [x,y,z] (by simp [vf])
theorem CC:cG [] []=0:=by simp [cG,cL]
theorem xy {a b:List Tm}(ih:∀ x ∈ a,∀ y,x.ok->y.ok->ag Tryz.prog w0 217 [tm ρ x,tm ρ y] (iv (c_ x y))) (rM:eO a) (oL:eO b) (hl:a.length<=1099511627776) (hn:a.length=b.length) :
  ag Tryz.prog w0 136 [tl ρ a,tl ρ b] (iv (cG a b)):=by
 refine Ls.bc (by simp [Tryz.ntmps136]) (.v) ?_
 refine gq kD ?_
 repeat' (first
  |(refine aS fun m hm=>?_;(try rw [aq] at hm);refine gq kD ?_)
  )
 refine ab.cO (σ:=Int) 0 0 [] (fun i=>[(0,tl ρ a),(1,tl ρ b),(8,.v (.int .i64 m)),(9,.v (.int .i64 i))]) [] (fun _=>[])
  (fun i=>∃ k:Nat,i=k/\k<=a.length/\cG a b=cG (a.drop k) (b.drop k)) (fun i=>a.length - i.toNat) 0 ⟨0,rfl,by simp,by simp⟩ rfl cq ?_
 rintro i ⟨k,hi,hk,hp⟩
 refine gq kD ?_
 by_cases au:k < a.length
 ·obtain⟨x,hx,bI⟩:=aU au
  obtain⟨y,hy,dL⟩:=aU (show k < b.length by omega)
  rw [bI,dL,cG,bL] at hp
  repeat' (first
   |(refine ab.op rfl (aa.ind rfl rfl (mJ (l:=a) hi hx) mK) ?_;refine gq kD ?_)
   |(refine ab.op rfl (aa.ind rfl rfl (mJ (l:=b) hi hy) mK) ?_;refine gq kD ?_)
   |(refine ab.int rfl (aa.aB rfl (ih x (bO hx) y (rM.mem x (bO hx)) (oL.mem y (bO hy))) ⟨bT _,bT _,trivial⟩) fun _ _=>?_;refine gq kD ?_)
   |(refine bq (fun hb=>?_) (fun hb=>?_)<;>(try simp only [aJ] at hb)<;>(first|refine gq kD ?_))
   |(refine cQ fun _ _=>?_;refine gq kD ?_)
   |(refine ab.aK ?_;refine gq kD ?_)
   |(refine ab.de ?_;refine gq kD ?_)
   |(refine fq ?_))
  ·subst_vars;rw [if_neg (by assumption)] at hp;exact gR hp.symm
  ·subst_vars;rw [if_pos (by assumption)] at hp
   refine ab.cK (σ:=Int) _ [] ?_ ?_ cq
   ·exact⟨k+1,by omega,by omega,hp⟩
   ·omega
  ·omega
 ·skip
  repeat' (first
   |(refine bq (fun hb=>?_) (fun hb=>?_)<;>(try simp only [aJ] at hb)<;>(first|refine gq kD ?_))
   |(refine ab.aK ?_;refine gq kD ?_)
   |(refine fq ?_))
  ·omega
  ·rw [hp,List.drop_eq_nil_of_le (by omega),List.drop_eq_nil_of_le (by omega),CC];exact gR rfl
theorem tK (x y:Tm) (hx:x.ok) (hy:y.ok):ag Tryz.prog w0 217 [tm ρ x,tm ρ y] (iv (c_ x y)):=by
 revert y hx hy
 refine Tm.ind (p:=fun x=>∀ y:Tm,x.ok->y.ok->ag Tryz.prog w0 217 [tm ρ x,tm ρ y] (iv (c_ x y))) ?_ x
 intro k i n a ih y hx hy
 obtain⟨ec,jA,nV⟩:=hx.out
 obtain⟨dJ,dE,iW⟩:=hy.out
 obtain⟨k',i',n',a'⟩:=y
 dsimp only at ec jA nV dJ dE iW
 rw [c_]
 dsimp only
 refine Lr.bc (by simp [Tryz.ntmps217]) (.v) ?_
 refine gq oK ?_
 repeat' (first
  |(refine ab.int rfl (aa.aB rfl (Ja _) ⟨.v,trivial⟩) fun _ _=>?_;refine gq oK ?_)
  |(refine ab.int rfl (aa.aB rfl (rL _ _) ⟨.v,.v,trivial⟩) fun _ _=>?_;refine gq oK ?_)
  |(refine ab.int rfl (aa.aB rfl (CB _ _) ⟨.v,.v,trivial⟩) fun _ _=>?_;refine gq oK ?_)
  |(refine ab.int rfl (aa.aB rfl (xy (a:=a) (b:=a') ih nV iW ec (by subst_vars;have:=l_ (a:=a.length) (b:=a'.length) (by omega);omega)) ⟨b8 _,b8 _,trivial⟩) fun _ _=>?_;refine gq oK ?_)
  |(refine ab.int rfl (aa.ea rfl (Lu _ _ _) ⟨fB _,trivial⟩ ⟨Wk.sl,trivial⟩) fun _ _=>?_;refine gq oK ?_)
  |(refine bq (fun hb=>?_) (fun hb=>?_)<;>(try simp only [aJ] at hb)<;>(first|refine gq oK ?_))
  |(refine aS fun m hm=>?_;(try rw [aq] at hm);refine gq oK ?_)
  |(refine fq ?_))
 all_goals (subst_vars;refine gR ?_;simp only [bL,kM];(repeat' split)<;>first|rfl|omega)
end
end
end Go.Proofs.YtbofilglphfceaaGreat
