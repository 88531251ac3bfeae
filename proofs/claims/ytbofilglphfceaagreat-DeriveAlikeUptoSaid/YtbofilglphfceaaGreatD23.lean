import Derived.Test.YtbofilglphfceaaGreatD22
namespace Go.Proofs.YtbofilglphfceaaGreat
set_option linter.unusedVariables false
set_option linter.unusedSimpArgs false
open Go.RowKit
section
set_option maxRecDepth 100000
attribute [local irreducible] ag aR aa ab
def Gg:CF Tryz.f142:=⟨_,by conv=>lhs;cbv⟩
theorem Lx:bN Tryz.prog 142 Gg.1 Tryz.f142.ntmps:=cd Tryz.func142 Gg.2 Tryz.call142
def D1:List Nat:=[4,0,1,2,3]
def Gi:CF Tryz.f218:=⟨_,by conv=>lhs;cbv⟩
theorem Ly:bN Tryz.prog 218 Gi.1 Tryz.f218.ntmps:=cd Tryz.func218 Gi.2 Tryz.call218
def qI:List Nat:=[2,3,5,4,0,1,21]
def Gj:CF Tryz.f139:=⟨_,by conv=>lhs;cbv⟩
theorem Lz:bN Tryz.prog 139 Gj.1 Tryz.f139.ntmps:=cd Tryz.func139 Gj.2 Tryz.call139
def D2:List Nat:=[4,0,1,2,3]
def Jf:CF Tryz.f62:=⟨_,by conv=>lhs;cbv⟩
theorem Qh:bN Tryz.prog 62 Jf.1 Tryz.f62.ntmps:=cd Tryz.func62 Jf.2 Tryz.call62
def Gk:List Nat:=[2,3,4,0,1]
def Jg:CF Tryz.f98:=⟨_,by conv=>lhs;cbv⟩
theorem Qi:bN Tryz.prog 98 Jg.1 Tryz.f98.ntmps:=cd Tryz.func98 Jg.2 Tryz.call98
def Jh:List Nat:=[4,0,1,2,3]
def Gm:CF Tryz.f178:=⟨_,by conv=>lhs;cbv⟩
theorem LA:bN Tryz.prog 178 Gm.1 Tryz.f178.ntmps:=cd Tryz.func178 Gm.2 Tryz.call178
def D3:List Nat:=[4,0,1]
def Gn:CF Tryz.f179:=⟨_,by conv=>lhs;cbv⟩
theorem LB:bN Tryz.prog 179 Gn.1 Tryz.f179.ntmps:=cd Tryz.func179 Gn.2 Tryz.call179
def sI:List Nat:=[2,3,5,4,0,1,12,21]
def Ji:CF Tryz.f97:=⟨_,by conv=>lhs;cbv⟩
theorem Qj:bN Tryz.prog 97 Ji.1 Tryz.f97.ntmps:=cd Tryz.func97 Ji.2 Tryz.call97
def Jj:List Nat:=[4,0,1,2,3]
def Jk:CF Tryz.f96:=⟨_,by conv=>lhs;cbv⟩
theorem Qk:bN Tryz.prog 96 Jk.1 Tryz.f96.ntmps:=cd Tryz.func96 Jk.2 Tryz.call96
def Gp:List Nat:=[2,3,4,0,1]
def lH (x y:At):Int:=bL (lF x.n y.n) (bL (cL x.a.length y.a.length) (cG x.a y.a))
def aI (x y:Gl):Bool:=x.op == y.op && x.n.toList == y.n.toList && decide ((x.a.length:Int)=y.a.length) && cG x.a y.a == 0
theorem CE:∀ (a b:List Tm) (k:Nat),(a.length<=k\/b.length<=k)->k<=a.length->k<=b.length->cG (a.drop k) (b.drop k)=cL a.length b.length:=by
 intro a b k h h1 h2
 rcases Nat.lt_or_ge k a.length with h3|h3
 ·obtain⟨x,hx,bI⟩:=aU h3
  rw [bI,List.drop_eq_nil_of_le (show b.length<=k by omega),cG]
  unfold cL;(repeat' split)<;>first|rfl|omega
 ·rw [List.drop_eq_nil_of_le (show a.length<=k by omega),cG,List.length_drop]
  unfold cL;(repeat' split)<;>first|rfl|omega
section
variable {w0:World}{ρ:Hd}
theorem vh {a b:List Tm}(ih:∀ x ∈ a,∀ y,x.ok->y.ok->ag Tryz.prog w0 180 [tm ρ x,tm ρ y] (iv (c_ x y))) (rM:eO a) (oL:eO b) (hl:a.length<=1099511627776) (eD:b.length<=1099511627776) :
  ag Tryz.prog w0 263 [tl ρ a,tl ρ b] (iv (cG a b)):=by
 refine Lt.bc (by simp [Tryz.ntmps263]) (.v) ?_
 refine gq eR ?_
 repeat' (first
  |(refine bq (fun hb=>?_) (fun hb=>?_)<;>(try simp only [aJ] at hb)<;>(first|exact absurd hb (by decide)|refine gq eR ?_))
  |(refine aS fun m hm=>?_;(try rw [aq] at hm);refine gq eR ?_)
  |(refine cQ fun _ _=>?_;refine gq eR ?_)
  |(refine xw fun _ _=>?_;refine gq eR ?_)
  |(refine ab.str rfl (aa.cat rfl rfl (by assumption)) fun _ _=>?_;refine gq eR ?_)
  |(refine ab.aK ?_;refine gq eR ?_)
  |(refine ab.de ?_;refine gq eR ?_)
  |(refine fq ?_))
 refine ab.cO (σ:=Int) 0 0 [] (fun i=>[(0,tl ρ a),(1,tl ρ b),(5,.v (.int .i64 i))]) [] (fun _=>[])
  (fun i=>∃ k:Nat,i=k/\k<=a.length/\k<=b.length/\cG a b=cG (a.drop k) (b.drop k)) (fun i=>a.length - i.toNat) 0 ⟨0,rfl,by simp,by simp,by simp⟩ rfl cq ?_
 rintro i ⟨k,hi,hk,gS,hp⟩
 refine gq eR ?_
 by_cases au:k < a.length/\k < b.length
 ·obtain⟨x,hx,bI⟩:=aU au.1
  obtain⟨y,hy,dL⟩:=aU au.2
  rw [bI,dL,cG,bL] at hp
  repeat' (first
   |(refine ab.op rfl (aa.ind rfl rfl (mJ (l:=a) hi hx) mK) ?_;refine gq eR ?_)
   |(refine ab.op rfl (aa.ind rfl rfl (mJ (l:=b) hi hy) mK) ?_;refine gq eR ?_)
   |(refine ab.int rfl (aa.aB rfl (ih x (bO hx) y (rM.mem x (bO hx)) (oL.mem y (bO hy))) ⟨bT _,bT _,trivial⟩) fun _ _=>?_;refine gq eR ?_)
   |(refine ab.int rfl (aa.aB rfl (lG _ _) ⟨.v,.v,trivial⟩) fun _ _=>?_;refine gq eR ?_)
   |(refine bq (fun hb=>?_) (fun hb=>?_)<;>(try simp only [aJ] at hb)<;>(first|refine gq eR ?_))
   |(refine aS fun m hm=>?_;(try rw [aq] at hm);refine gq eR ?_)
   |(refine cQ fun _ _=>?_;refine gq eR ?_)
   |(refine ab.aK ?_;refine gq eR ?_)
   |(refine ab.de ?_;refine gq eR ?_)
   |(refine fq ?_))
  all_goals first
   |(exfalso;omega)
   |(subst_vars;rw [if_neg (by omega)] at hp;exact gR hp.symm)
   |(subst_vars;rw [if_pos (by omega)] at hp
     refine ab.cK (σ:=Int) _ [] ?_ ?_ cq
     ·exact⟨k+1,by omega,by omega,by omega,hp⟩
     ·omega)
 ·skip
  repeat' (first
   |(refine ab.int rfl (aa.aB rfl (lG _ _) ⟨.v,.v,trivial⟩) fun _ _=>?_;refine gq eR ?_)
   |(refine bq (fun hb=>?_) (fun hb=>?_)<;>(try simp only [aJ] at hb)<;>(first|refine gq eR ?_))
   |(refine aS fun m hm=>?_;(try rw [aq] at hm);refine gq eR ?_)
   |(refine ab.aK ?_;refine gq eR ?_)
   |(refine fq ?_))
  all_goals first
   |(exfalso;omega)
   |(rw [CE a b k (by omega) hk gS] at hp;subst_vars;exact gR hp.symm)
theorem yG (k i k' i':Int) (n n':ByteArray) (a a':List Tm) (ih:∀ x ∈ a,∀ y:Tm,x.ok->y.ok->ag Tryz.prog w0 180 [tm ρ x,tm ρ y] (iv (c_ x y)))
  (ec:a.length<=1099511627776) (nV:eO a) (dJ:a'.length<=1099511627776) (iW:eO a') (hr:bK k=0):ag Tryz.prog w0 180 [tm ρ ⟨k,i,n,a⟩,tm ρ ⟨k',i',n',a'⟩] (iv (c_ ⟨k,i,n,a⟩ ⟨k',i',n',a'⟩)):=by
 have h0:ag Tryz.prog w0 266 [tm ρ ⟨k,i,n,a⟩] (iv 0):=by rw [<-hr];exact iX _
 have h1:ag Tryz.prog w0 266 [tm ρ ⟨k',i',n',a'⟩] (iv (bK k')):=iX _
 rw [c_,hr]
 dsimp only
 refine uw.bc (by simp [Tryz.ntmps180]) (.v) ?_
 refine gq en ?_
 repeat' (first
  |(refine ab.op rfl (aa.aB rfl h0 ⟨bT ⟨k,i,n,a⟩,trivial⟩) ?_;refine gq en ?_)
  |(refine ab.int rfl (aa.aB rfl h1 ⟨bT ⟨k',i',n',a'⟩,trivial⟩) fun _ _=>?_;refine gq en ?_)
  |(refine ab.int rfl (aa.aB rfl (lG _ _) ⟨.v,.v,trivial⟩) fun _ _=>?_;refine gq en ?_)
  |(refine bq (fun hb=>?_) (fun hb=>?_)<;>(try simp only [aJ] at hb)<;>(first|exact absurd hb (by decide)|refine gq en ?_))
  |(refine fq ?_))
 all_goals (subst_vars;refine gR ?_;simp only [bL,kM,true_or,or_true,if_true];(repeat' split)<;>first|rfl|omega)
theorem yH (k i k' i':Int) (n n':ByteArray) (a a':List Tm) (ih:∀ x ∈ a,∀ y:Tm,x.ok->y.ok->ag Tryz.prog w0 180 [tm ρ x,tm ρ y] (iv (c_ x y)))
  (ec:a.length<=1099511627776) (nV:eO a) (dJ:a'.length<=1099511627776) (iW:eO a') (hr:bK k=1):ag Tryz.prog w0 180 [tm ρ ⟨k,i,n,a⟩,tm ρ ⟨k',i',n',a'⟩] (iv (c_ ⟨k,i,n,a⟩ ⟨k',i',n',a'⟩)):=by
 have h0:ag Tryz.prog w0 266 [tm ρ ⟨k,i,n,a⟩] (iv 1):=by rw [<-hr];exact iX _
 have h1:ag Tryz.prog w0 266 [tm ρ ⟨k',i',n',a'⟩] (iv (bK k')):=iX _
 rw [c_,hr]
 dsimp only
 refine uw.bc (by simp [Tryz.ntmps180]) (.v) ?_
 refine gq en ?_
 repeat' (first
  |(refine ab.op rfl (aa.aB rfl h0 ⟨bT ⟨k,i,n,a⟩,trivial⟩) ?_;refine gq en ?_)
  |(refine ab.int rfl (aa.aB rfl h1 ⟨bT ⟨k',i',n',a'⟩,trivial⟩) fun _ _=>?_;refine gq en ?_)
  |(refine ab.int rfl (aa.aB rfl (lG _ _) ⟨.v,.v,trivial⟩) fun _ _=>?_;refine gq en ?_)
  |(refine bq (fun hb=>?_) (fun hb=>?_)<;>(try simp only [aJ] at hb)<;>(first|exact absurd hb (by decide)|refine gq en ?_))
  |(refine fq ?_))
 all_goals (subst_vars;refine gR ?_;simp only [bL,kM,true_or,or_true,if_true];(repeat' split)<;>first|rfl|omega)
theorem yI (k i k' i':Int) (n n':ByteArray) (a a':List Tm) (ih:∀ x ∈ a,∀ y:Tm,x.ok->y.ok->ag Tryz.prog w0 180 [tm ρ x,tm ρ y] (iv (c_ x y)))
  (ec:a.length<=1099511627776) (nV:eO a) (dJ:a'.length<=1099511627776) (iW:eO a') (hr:bK k=2):ag Tryz.prog w0 180 [tm ρ ⟨k,i,n,a⟩,tm ρ ⟨k',i',n',a'⟩] (iv (c_ ⟨k,i,n,a⟩ ⟨k',i',n',a'⟩)):=by
 have h0:ag Tryz.prog w0 266 [tm ρ ⟨k,i,n,a⟩] (iv 2):=by rw [<-hr];exact iX _
 have h1:ag Tryz.prog w0 266 [tm ρ ⟨k',i',n',a'⟩] (iv (bK k')):=iX _
 rw [c_,hr]
 dsimp only
 refine uw.bc (by simp [Tryz.ntmps180]) (.v) ?_
 refine gq en ?_
 repeat' (first
  |(refine ab.op rfl (aa.aB rfl h0 ⟨bT ⟨k,i,n,a⟩,trivial⟩) ?_;refine gq en ?_)
  |(refine ab.int rfl (aa.aB rfl h1 ⟨bT ⟨k',i',n',a'⟩,trivial⟩) fun _ _=>?_;refine gq en ?_)
  |(refine ab.int rfl (aa.aB rfl (lG _ _) ⟨.v,.v,trivial⟩) fun _ _=>?_;refine gq en ?_)
  |(refine ab.int rfl (aa.aB rfl (sG _ _) ⟨.v,.v,trivial⟩) fun _ _=>?_;refine gq en ?_)
  |(refine ab.int rfl (aa.aB rfl (vh (a:=a) (b:=a') ih nV iW ec dJ) ⟨b8 _,b8 _,trivial⟩) fun _ _=>?_;refine gq en ?_)
  |(refine bq (fun hb=>?_) (fun hb=>?_)<;>(try simp only [aJ] at hb)<;>(first|exact absurd hb (by decide)|refine gq en ?_))
  |(refine aS fun m hm=>?_;(try rw [aq] at hm);refine gq en ?_)
  |(refine fq ?_))
 all_goals (subst_vars;refine gR ?_;simp only [bL,kM,true_or,or_true,if_true];(repeat' split)<;>first|rfl|omega)
theorem yJ (k i k' i':Int) (n n':ByteArray) (a a':List Tm) (ih:∀ x ∈ a,∀ y:Tm,x.ok->y.ok->ag Tryz.prog w0 180 [tm ρ x,tm ρ y] (iv (c_ x y)))
  (ec:a.length<=1099511627776) (nV:eO a) (dJ:a'.length<=1099511627776) (iW:eO a') (hr:bK k=3):ag Tryz.prog w0 180 [tm ρ ⟨k,i,n,a⟩,tm ρ ⟨k',i',n',a'⟩] (iv (c_ ⟨k,i,n,a⟩ ⟨k',i',n',a'⟩)):=by
 have h0:ag Tryz.prog w0 266 [tm ρ ⟨k,i,n,a⟩] (iv 3):=by rw [<-hr];exact iX _
 have h1:ag Tryz.prog w0 266 [tm ρ ⟨k',i',n',a'⟩] (iv (bK k')):=iX _
 rw [c_,hr]
 dsimp only
 refine uw.bc (by simp [Tryz.ntmps180]) (.v) ?_
 refine gq en ?_
 repeat' (first
  |(refine ab.op rfl (aa.aB rfl h0 ⟨bT ⟨k,i,n,a⟩,trivial⟩) ?_;refine gq en ?_)
  |(refine ab.int rfl (aa.aB rfl h1 ⟨bT ⟨k',i',n',a'⟩,trivial⟩) fun _ _=>?_;refine gq en ?_)
  |(refine ab.int rfl (aa.aB rfl (lG _ _) ⟨.v,.v,trivial⟩) fun _ _=>?_;refine gq en ?_)
  |(refine ab.int rfl (aa.aB rfl (sG _ _) ⟨.v,.v,trivial⟩) fun _ _=>?_;refine gq en ?_)
  |(refine bq (fun hb=>?_) (fun hb=>?_)<;>(try simp only [aJ] at hb)<;>(first|exact absurd hb (by decide)|refine gq en ?_))
  |(refine fq ?_))
 all_goals (subst_vars;refine gR ?_;simp only [bL,kM,true_or,or_true,if_true];(repeat' split)<;>first|rfl|omega)
theorem D4 (k:Int):bK k=0\/bK k=1\/bK k=2\/bK k=3:=by
 unfold bK
 (repeat' split)<;>simp
theorem rO (x y:Tm) (hx:x.ok) (hy:y.ok):ag Tryz.prog w0 180 [tm ρ x,tm ρ y] (iv (c_ x y)):=by
 revert y hx hy
 refine Tm.ind (p:=fun x=>∀ y:Tm,x.ok->y.ok->ag Tryz.prog w0 180 [tm ρ x,tm ρ y] (iv (c_ x y))) ?_ x
 intro k i n a ih y hx hy
 obtain⟨ec,jA,nV⟩:=hx.out
 obtain⟨dJ,dE,iW⟩:=hy.out
 obtain⟨k',i',n',a'⟩:=y
 rcases D4 k with h|h|h|h
 ·exact yG k i k' i' n n' a a' ih ec nV dJ iW h
 ·exact yH k i k' i' n n' a a' ih ec nV dJ iW h
 ·exact yI k i k' i' n n' a a' ih ec nV dJ iW h
 ·exact yJ k i k' i' n n' a a' ih ec nV dJ iW h
theorem CG (a b:List Tm) (rM:eO a) (oL:eO b) (hl:a.length<=1099511627776) (hn:a.length=b.length):ag Tryz.prog w0 136 [tl ρ a,tl ρ b] (iv (cG a b)):=xy (fun x _ y hx hy=>tK x y hx hy) rM oL hl hn
theorem xA (a b:List Tm) (rM:eO a) (oL:eO b) (hl:a.length<=1099511627776) (eD:b.length<=1099511627776):ag Tryz.prog w0 263 [tl ρ a,tl ρ b] (iv (cG a b)):=vh (fun x _ y hx hy=>rO x y hx hy) rM oL hl eD
theorem Jl (x y:Tm) (hx:x.ok) (hy:y.ok):ag Tryz.prog w0 142 [tm ρ x,tm ρ y] (.v (.bool (c_ x y == 0))):=by
 refine Lx.bc (by simp [Tryz.ntmps142]) (.v) ?_
 refine gq D1 ?_
 repeat' (first
  |(refine ab.int rfl (aa.aB rfl (tK (ρ:=ρ) x y hx hy) ⟨bT _,bT _,trivial⟩) fun _ _=>?_;refine gq D1 ?_)
  |(refine bq (fun hb=>?_) (fun hb=>?_)<;>(try simp only [aJ] at hb)<;>(first|refine gq D1 ?_))
  |(refine fq ?_))
 all_goals (refine bG.of_eq ?_;simp_all)
theorem HK (x y:Tm) (hx:x.ok) (hy:y.ok):ag Tryz.prog w0 98 [tm ρ x,tm ρ y] (.v (.bool (c_ x y == 0))):=by
 refine Qi.bc (by simp [Tryz.ntmps98]) (.v) ?_
 refine gq Jh ?_
 repeat' (first
  |(refine ab.int rfl (aa.aB rfl (rO (ρ:=ρ) x y hx hy) ⟨bT _,bT _,trivial⟩) fun _ _=>?_;refine gq Jh ?_)
  |(refine bq (fun hb=>?_) (fun hb=>?_)<;>(try simp only [aJ] at hb)<;>(first|refine gq Jh ?_))
  |(refine fq ?_))
 all_goals (refine bG.of_eq ?_;simp_all)
theorem CH (a b:List Tm) (rM:eO a) (oL:eO b) (hl:a.length<=1099511627776) (eD:b.length<=1099511627776):ag Tryz.prog w0 178 [tl ρ a,tl ρ b] (.v (.bool (cG a b == 0))):=by
 refine LA.bc (by simp [Tryz.ntmps178]) (.v) ?_
 refine gq D3 ?_
 repeat' (first
  |(refine ab.int rfl (aa.aB rfl (xA a b rM oL hl eD) ⟨b8 _,b8 _,trivial⟩) fun _ _=>?_;refine gq D3 ?_)
  |(refine bq (fun hb=>?_) (fun hb=>?_)<;>(try simp only [aJ] at hb)<;>(first|refine gq D3 ?_))
  |(refine fq ?_))
 all_goals (refine bG.of_eq ?_;simp_all)
def At.ok (x:At):Prop:=x.a.length<=1099511627776/\eO x.a
def Gl.ok (x:Gl):Prop:=x.a.length<=1099511627776/\eO x.a
theorem Gq (x y:Int):ag Tryz.prog w0 196 [dZ .plain gH false [x,y]] (iv (kM [x,y])):=Jd [x,y] (by simp [vf])
theorem yK (x y:At) (hx:x.ok) (hy:y.ok):ag Tryz.prog w0 218 [at_ ρ x,at_ ρ y] (iv (lH x y)):=by
 obtain⟨ec,jA⟩:=hx
 obtain⟨dJ,dE⟩:=hy
 obtain⟨n,a⟩:=x
 obtain⟨n',a'⟩:=y
 dsimp only at ec jA dJ dE
 rw [lH]
 dsimp only
 refine Ly.bc (by simp [Tryz.ntmps218]) (.v) ?_
 refine gq qI ?_
 repeat' (first
  |(refine ab.int rfl (aa.aB rfl (rL _ _) ⟨.v,.v,trivial⟩) fun _ _=>?_;refine gq qI ?_)
  |(refine ab.int rfl (aa.aB rfl (CB _ _) ⟨.v,.v,trivial⟩) fun _ _=>?_;refine gq qI ?_)
  |(refine ab.int rfl (aa.ea rfl (Gq _ _) ⟨fB _,trivial⟩ ⟨Wk.sl,trivial⟩) fun _ _=>?_;refine gq qI ?_)
  |(refine ab.int rfl (aa.aB rfl (CG a a' jA dE ec (by subst_vars;simp only [kM] at *;have:=l_ (a:=a.length) (b:=a'.length);have:=l_ (a:=a.length) (b:=a'.length) (by (repeat' split at *)<;>omega);omega)) ⟨b8 _,b8 _,trivial⟩) fun _ _=>?_;refine gq qI ?_)
  |(refine bq (fun hb=>?_) (fun hb=>?_)<;>(try simp only [aJ] at hb)<;>(first|refine gq qI ?_))
  |(refine aS fun m hm=>?_;(try rw [aq] at hm);refine gq qI ?_)
  |(refine fq ?_))
 all_goals (subst_vars;refine gR ?_;simp only [bL,kM] at *;(repeat' split at *)<;>first|rfl|omega)
theorem wC (x y:At) (hx:x.ok) (hy:y.ok):ag Tryz.prog w0 179 [at_ ρ x,at_ ρ y] (iv (lH x y)):=by
 obtain⟨ec,jA⟩:=hx
 obtain⟨dJ,dE⟩:=hy
 obtain⟨n,a⟩:=x
 obtain⟨n',a'⟩:=y
 dsimp only at ec jA dJ dE
 rw [lH]
 dsimp only
 refine LB.bc (by simp [Tryz.ntmps179]) (.v) ?_
 refine gq sI ?_
 repeat' (first
  |(refine ab.int rfl (aa.aB rfl (lG _ _) ⟨.v,.v,trivial⟩) fun _ _=>?_;refine gq sI ?_)
  |(refine ab.int rfl (aa.aB rfl (sG _ _) ⟨.v,.v,trivial⟩) fun _ _=>?_;refine gq sI ?_)
  |(refine ab.int rfl (aa.aB rfl (xA a a' jA dE ec dJ) ⟨b8 _,b8 _,trivial⟩) fun _ _=>?_;refine gq sI ?_)
  |(refine bq (fun hb=>?_) (fun hb=>?_)<;>(try simp only [aJ] at hb)<;>(first|refine gq sI ?_))
  |(refine aS fun m hm=>?_;(try rw [aq] at hm);refine gq sI ?_)
  |(refine fq ?_))
 all_goals (subst_vars;refine gR ?_;simp only [bL,kM,true_or,or_true,if_true];(repeat' split)<;>first|rfl|omega)
theorem HL (x y:At) (hx:x.ok) (hy:y.ok):ag Tryz.prog w0 139 [at_ ρ x,at_ ρ y] (.v (.bool (lH x y == 0))):=by
 refine Lz.bc (by simp [Tryz.ntmps139]) (.v) ?_
 refine gq D2 ?_
 repeat' (first
  |(refine ab.int rfl (aa.aB rfl (yK (ρ:=ρ) x y hx hy) ⟨fC _,fC _,trivial⟩) fun _ _=>?_;refine gq D2 ?_)
  |(refine bq (fun hb=>?_) (fun hb=>?_)<;>(try simp only [aJ] at hb)<;>(first|refine gq D2 ?_))
  |(refine fq ?_))
 all_goals (refine bG.of_eq ?_;simp_all)
theorem D5 (x y:At) (hx:x.ok) (hy:y.ok):ag Tryz.prog w0 97 [at_ ρ x,at_ ρ y] (.v (.bool (lH x y == 0))):=by
 refine Qj.bc (by simp [Tryz.ntmps97]) (.v) ?_
 refine gq Jj ?_
 repeat' (first
  |(refine ab.int rfl (aa.aB rfl (wC (ρ:=ρ) x y hx hy) ⟨fC _,fC _,trivial⟩) fun _ _=>?_;refine gq Jj ?_)
  |(refine bq (fun hb=>?_) (fun hb=>?_)<;>(try simp only [aJ] at hb)<;>(first|refine gq Jj ?_))
  |(refine fq ?_))
 all_goals (refine bG.of_eq ?_;simp_all)
theorem sJ (x y:Gl) (hx:x.ok) (hy:y.ok):ag Tryz.prog w0 62 [gl ρ x,gl ρ y] (.v (.bool (aI x y))):=by
 obtain⟨ec,jA⟩:=hx
 obtain⟨dJ,dE⟩:=hy
 obtain⟨o,n,a⟩:=x
 obtain⟨o',n',a'⟩:=y
 dsimp only at ec jA dJ dE
 rw [aI]
 dsimp only
 refine Qh.bc (by simp [Tryz.ntmps62]) (.v) ?_
 refine gq Gk ?_
 repeat' (first
  |(refine ab.int rfl (aa.aB rfl (CG a a' jA dE ec (by omega)) ⟨b8 _,b8 _,trivial⟩) fun _ _=>?_;refine gq Gk ?_)
  |(refine bq (fun hb=>?_) (fun hb=>?_)<;>(try simp only [aJ] at hb)<;>(first|refine gq Gk ?_))
  |(refine aS fun m hm=>?_;(try rw [aq] at hm);refine gq Gk ?_)
  |(refine fq ?_))
 all_goals (refine bG.of_eq ?_;subst_vars;simp_all)
theorem vi (x y:Gl) (hx:x.ok) (hy:y.ok):ag Tryz.prog w0 96 [gl ρ x,gl ρ y] (.v (.bool (aI x y))):=by
 obtain⟨ec,jA⟩:=hx
 obtain⟨dJ,dE⟩:=hy
 obtain⟨o,n,a⟩:=x
 obtain⟨o',n',a'⟩:=y
 dsimp only at ec jA dJ dE
 rw [aI]
 dsimp only
 refine Qk.bc (by simp [Tryz.ntmps96]) (.v) ?_
 refine gq Gp ?_
 repeat' (first
  |(refine ab.bif rfl (aa.aB rfl (CH a a' jA dE ec dJ) ⟨b8 _,b8 _,trivial⟩) (fun _=>?_) (fun _=>?_)<;>refine gq Gp ?_)
  |(refine bq (fun hb=>?_) (fun hb=>?_)<;>(try simp only [aJ] at hb)<;>(first|refine gq Gp ?_))
  |(refine aS fun m hm=>?_;(try rw [aq] at hm);refine gq Gp ?_)
  |(refine fq ?_))
 all_goals (refine bG.of_eq ?_;subst_vars;simp_all)
end
end
end Go.Proofs.YtbofilglphfceaaGreat
