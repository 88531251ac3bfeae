import Derived.Test.YtbofilglphfceaaGreatQ13
namespace Go.Proofs.YtbofilglphfceaaGreat
set_option linter.unusedVariables false
set_option linter.unusedSimpArgs false
open Go.RowKit
section
set_option maxRecDepth 100000
attribute [local irreducible] ah bc ad ab
def NA:CF Tryz.f142:=⟨_,by conv=>lhs;cbv⟩
theorem WC:aH Tryz.prog 142 NA.1 Tryz.f142.ntmps:=aQ Tryz.func142 NA.2 Tryz.call142
def K5:List Nat:=[4,0,1,2,3]
def NC:CF Tryz.f218:=⟨_,by conv=>lhs;cbv⟩
theorem WD:aH Tryz.prog 218 NC.1 Tryz.f218.ntmps:=aQ Tryz.func218 NC.2 Tryz.call218
def wV:List Nat:=[2,3,5,4,0,1,21]
def ND:CF Tryz.f139:=⟨_,by conv=>lhs;cbv⟩
theorem WE:aH Tryz.prog 139 ND.1 Tryz.f139.ntmps:=aQ Tryz.func139 ND.2 Tryz.call139
def K6:List Nat:=[4,0,1,2,3]
def SH:CF Tryz.f62:=⟨_,by conv=>lhs;cbv⟩
theorem abj:aH Tryz.prog 62 SH.1 Tryz.f62.ntmps:=aQ Tryz.func62 SH.2 Tryz.call62
def NF:List Nat:=[2,3,4,0,1]
def SI:CF Tryz.f98:=⟨_,by conv=>lhs;cbv⟩
theorem abk:aH Tryz.prog 98 SI.1 Tryz.f98.ntmps:=aQ Tryz.func98 SI.2 Tryz.call98
def SJ:List Nat:=[4,0,1,2,3]
def NG:CF Tryz.f178:=⟨_,by conv=>lhs;cbv⟩
theorem WG:aH Tryz.prog 178 NG.1 Tryz.f178.ntmps:=aQ Tryz.func178 NG.2 Tryz.call178
def K7:List Nat:=[4,0,1]
def NH:CF Tryz.f179:=⟨_,by conv=>lhs;cbv⟩
theorem WH:aH Tryz.prog 179 NH.1 Tryz.f179.ntmps:=aQ Tryz.func179 NH.2 Tryz.call179
def zt:List Nat:=[2,3,5,4,0,1,12,21]
def SL:CF Tryz.f97:=⟨_,by conv=>lhs;cbv⟩
theorem abl:aH Tryz.prog 97 SL.1 Tryz.f97.ntmps:=aQ Tryz.func97 SL.2 Tryz.call97
def SM:List Nat:=[4,0,1,2,3]
def SN:CF Tryz.f96:=⟨_,by conv=>lhs;cbv⟩
theorem abm:aH Tryz.prog 96 SN.1 Tryz.f96.ntmps:=aQ Tryz.func96 SN.2 Tryz.call96
def NI:List Nat:=[2,3,4,0,1]
def rP (x y:At):Int:=cN (sY x.n y.n) (cN (eH x.a.length y.a.length) (eW x.a y.a))
def iy (x y:Gl):Bool:=x.op == y.op && x.n.toList == y.n.toList && decide ((x.a.length:Int)=y.a.length) && eW x.a y.a == 0
theorem Jd:∀ (a b:List Tm) (k:Nat),(a.length<=k\/b.length<=k)->k<=a.length->k<=b.length->eW (a.drop k) (b.drop k)=eH a.length b.length:=by
 intro a b k h h1 h2
 rcases Nat.lt_or_ge k a.length with h3|h3
 ·obtain⟨x,hx,aO⟩:=az h3
  rw [aO,List.drop_eq_nil_of_le (show b.length<=k by omega),eW]
  unfold eH;(repeat' split)<;>first|rfl|omega
 ·rw [List.drop_eq_nil_of_le (show a.length<=k by omega),eW,List.length_drop]
  unfold eH;(repeat' split)<;>first|rfl|omega
section
variable {w0:World}{ρ:Hd}
theorem Cd {a b:List Tm}(ih:∀ x ∈ a,∀ y,x.ok->y.ok->ah Tryz.prog w0 180 [tm ρ x,tm ρ y] (iv (fy x y))) (xV:eg a) (sg:eg b) (hl:a.length<=1099511627776) (eP:b.length<=1099511627776) :
  ah Tryz.prog w0 263 [tl ρ a,tl ρ b] (iv (eW a b)):=by
 refine WA.aG (by simp [Tryz.ntmps263]) (.v) ?_
 refine gq iH ?_
 repeat' (first
  |(refine bq (fun hb=>?_) (fun hb=>?_)<;>(try simp only [aq] at hb)<;>(first|exact absurd hb (by decide)|refine gq iH ?_))
  |(refine aB fun m hm=>?_;(try rw [af] at hm);refine gq iH ?_)
  |(refine aS fun _ _=>?_;refine gq iH ?_)
  |(refine cvq fun _ _=>?_;refine gq iH ?_)
  |(refine ab.str rfl (ad.cat rfl rfl (by assumption)) fun _ _=>?_;refine gq iH ?_)
  |(refine ab.ao ?_;refine gq iH ?_)
  |(refine ab.bJ ?_;refine gq iH ?_)
  |(refine fq ?_))
 refine ab.aP (σ:=Int) 0 0 [] (fun i=>[(0,tl ρ a),(1,tl ρ b),(5,.v (.int .i64 i))]) [] (fun _=>[])
  (fun i=>∃ k:Nat,i=k/\k<=a.length/\k<=b.length/\eW a b=eW (a.drop k) (b.drop k)) (fun i=>a.length - i.toNat) 0 ⟨0,rfl,by simp,by simp,by simp⟩ rfl cq ?_
 rintro i ⟨k,hi,hk,dS,hp⟩
 refine gq iH ?_
 by_cases au:k < a.length/\k < b.length
 ·obtain⟨x,hx,aO⟩:=az au.1
  obtain⟨y,hy,cP⟩:=az au.2
  rw [aO,cP,eW,cN] at hp
  repeat' (first
   |(refine ab.op rfl (ad.ind rfl rfl (ft (l:=a) hi hx) fu) ?_;refine gq iH ?_)
   |(refine ab.op rfl (ad.ind rfl rfl (ft (l:=b) hi hy) fu) ?_;refine gq iH ?_)
   |(refine ab.int rfl (ad.ag rfl (ih x (aY hx) y (xV.mem x (aY hx)) (sg.mem y (aY hy))) ⟨ba _,ba _,trivial⟩) fun _ _=>?_;refine gq iH ?_)
   |(refine ab.int rfl (ad.ag rfl (pU _ _) ⟨.v,.v,trivial⟩) fun _ _=>?_;refine gq iH ?_)
   |(refine bq (fun hb=>?_) (fun hb=>?_)<;>(try simp only [aq] at hb)<;>(first|refine gq iH ?_))
   |(refine aB fun m hm=>?_;(try rw [af] at hm);refine gq iH ?_)
   |(refine aS fun _ _=>?_;refine gq iH ?_)
   |(refine ab.ao ?_;refine gq iH ?_)
   |(refine ab.bJ ?_;refine gq iH ?_)
   |(refine fq ?_))
  all_goals first
   |(exfalso;omega)
   |(subst_vars;rw [if_neg (by omega)] at hp;exact dI hp.symm)
   |(subst_vars;rw [if_pos (by omega)] at hp
     refine ab.aL (σ:=Int) _ [] ?_ ?_ cq
     ·exact⟨k+1,by omega,by omega,by omega,hp⟩
     ·omega)
 ·skip
  repeat' (first
   |(refine ab.int rfl (ad.ag rfl (pU _ _) ⟨.v,.v,trivial⟩) fun _ _=>?_;refine gq iH ?_)
   |(refine bq (fun hb=>?_) (fun hb=>?_)<;>(try simp only [aq] at hb)<;>(first|refine gq iH ?_))
   |(refine aB fun m hm=>?_;(try rw [af] at hm);refine gq iH ?_)
   |(refine ab.ao ?_;refine gq iH ?_)
   |(refine fq ?_))
  all_goals first
   |(exfalso;omega)
   |(rw [Jd a b k (by omega) hk dS] at hp;subst_vars;exact dI hp.symm)
theorem FU (k i k' i':Int) (n n':ByteArray) (a a':List Tm) (ih:∀ x ∈ a,∀ y:Tm,x.ok->y.ok->ah Tryz.prog w0 180 [tm ρ x,tm ρ y] (iv (fy x y)))
  (cX:a.length<=1099511627776) (eD:eg a) (eU:a'.length<=1099511627776) (mj:eg a') (hr:fh k=0):ah Tryz.prog w0 180 [tm ρ ⟨k,i,n,a⟩,tm ρ ⟨k',i',n',a'⟩] (iv (fy ⟨k,i,n,a⟩ ⟨k',i',n',a'⟩)):=by
 have h0:ah Tryz.prog w0 266 [tm ρ ⟨k,i,n,a⟩] (iv 0):=by rw [<-hr];exact mn _
 have h1:ah Tryz.prog w0 266 [tm ρ ⟨k',i',n',a'⟩] (iv (fh k')):=mn _
 rw [fy,hr]
 dsimp only
 refine Bo.aG (by simp [Tryz.ntmps180]) (.v) ?_
 refine gq gG ?_
 repeat' (first
  |(refine ab.op rfl (ad.ag rfl h0 ⟨ba ⟨k,i,n,a⟩,trivial⟩) ?_;refine gq gG ?_)
  |(refine ab.int rfl (ad.ag rfl h1 ⟨ba ⟨k',i',n',a'⟩,trivial⟩) fun _ _=>?_;refine gq gG ?_)
  |(refine ab.int rfl (ad.ag rfl (pU _ _) ⟨.v,.v,trivial⟩) fun _ _=>?_;refine gq gG ?_)
  |(refine bq (fun hb=>?_) (fun hb=>?_)<;>(try simp only [aq] at hb)<;>(first|exact absurd hb (by decide)|refine gq gG ?_))
  |(refine fq ?_))
 all_goals (subst_vars;refine dI ?_;simp only [cN,o5,true_or,or_true,if_true];(repeat' split)<;>first|rfl|omega)
theorem FV (k i k' i':Int) (n n':ByteArray) (a a':List Tm) (ih:∀ x ∈ a,∀ y:Tm,x.ok->y.ok->ah Tryz.prog w0 180 [tm ρ x,tm ρ y] (iv (fy x y)))
  (cX:a.length<=1099511627776) (eD:eg a) (eU:a'.length<=1099511627776) (mj:eg a') (hr:fh k=1):ah Tryz.prog w0 180 [tm ρ ⟨k,i,n,a⟩,tm ρ ⟨k',i',n',a'⟩] (iv (fy ⟨k,i,n,a⟩ ⟨k',i',n',a'⟩)):=by
 have h0:ah Tryz.prog w0 266 [tm ρ ⟨k,i,n,a⟩] (iv 1):=by rw [<-hr];exact mn _
 have h1:ah Tryz.prog w0 266 [tm ρ ⟨k',i',n',a'⟩] (iv (fh k')):=mn _
 rw [fy,hr]
 dsimp only
 refine Bo.aG (by simp [Tryz.ntmps180]) (.v) ?_
 refine gq gG ?_
 repeat' (first
  |(refine ab.op rfl (ad.ag rfl h0 ⟨ba ⟨k,i,n,a⟩,trivial⟩) ?_;refine gq gG ?_)
  |(refine ab.int rfl (ad.ag rfl h1 ⟨ba ⟨k',i',n',a'⟩,trivial⟩) fun _ _=>?_;refine gq gG ?_)
  |(refine ab.int rfl (ad.ag rfl (pU _ _) ⟨.v,.v,trivial⟩) fun _ _=>?_;refine gq gG ?_)
  |(refine bq (fun hb=>?_) (fun hb=>?_)<;>(try simp only [aq] at hb)<;>(first|exact absurd hb (by decide)|refine gq gG ?_))
  |(refine fq ?_))
 all_goals (subst_vars;refine dI ?_;simp only [cN,o5,true_or,or_true,if_true];(repeat' split)<;>first|rfl|omega)
theorem FW (k i k' i':Int) (n n':ByteArray) (a a':List Tm) (ih:∀ x ∈ a,∀ y:Tm,x.ok->y.ok->ah Tryz.prog w0 180 [tm ρ x,tm ρ y] (iv (fy x y)))
  (cX:a.length<=1099511627776) (eD:eg a) (eU:a'.length<=1099511627776) (mj:eg a') (hr:fh k=2):ah Tryz.prog w0 180 [tm ρ ⟨k,i,n,a⟩,tm ρ ⟨k',i',n',a'⟩] (iv (fy ⟨k,i,n,a⟩ ⟨k',i',n',a'⟩)):=by
 have h0:ah Tryz.prog w0 266 [tm ρ ⟨k,i,n,a⟩] (iv 2):=by rw [<-hr];exact mn _
 have h1:ah Tryz.prog w0 266 [tm ρ ⟨k',i',n',a'⟩] (iv (fh k')):=mn _
 rw [fy,hr]
 dsimp only
 refine Bo.aG (by simp [Tryz.ntmps180]) (.v) ?_
 refine gq gG ?_
 repeat' (first
  |(refine ab.op rfl (ad.ag rfl h0 ⟨ba ⟨k,i,n,a⟩,trivial⟩) ?_;refine gq gG ?_)
  |(refine ab.int rfl (ad.ag rfl h1 ⟨ba ⟨k',i',n',a'⟩,trivial⟩) fun _ _=>?_;refine gq gG ?_)
  |(refine ab.int rfl (ad.ag rfl (pU _ _) ⟨.v,.v,trivial⟩) fun _ _=>?_;refine gq gG ?_)
  |(refine ab.int rfl (ad.ag rfl (zr _ _) ⟨.v,.v,trivial⟩) fun _ _=>?_;refine gq gG ?_)
  |(refine ab.int rfl (ad.ag rfl (Cd (a:=a) (b:=a') ih eD mj cX eU) ⟨bC _,bC _,trivial⟩) fun _ _=>?_;refine gq gG ?_)
  |(refine bq (fun hb=>?_) (fun hb=>?_)<;>(try simp only [aq] at hb)<;>(first|exact absurd hb (by decide)|refine gq gG ?_))
  |(refine aB fun m hm=>?_;(try rw [af] at hm);refine gq gG ?_)
  |(refine fq ?_))
 all_goals (subst_vars;refine dI ?_;simp only [cN,o5,true_or,or_true,if_true];(repeat' split)<;>first|rfl|omega)
theorem FX (k i k' i':Int) (n n':ByteArray) (a a':List Tm) (ih:∀ x ∈ a,∀ y:Tm,x.ok->y.ok->ah Tryz.prog w0 180 [tm ρ x,tm ρ y] (iv (fy x y)))
  (cX:a.length<=1099511627776) (eD:eg a) (eU:a'.length<=1099511627776) (mj:eg a') (hr:fh k=3):ah Tryz.prog w0 180 [tm ρ ⟨k,i,n,a⟩,tm ρ ⟨k',i',n',a'⟩] (iv (fy ⟨k,i,n,a⟩ ⟨k',i',n',a'⟩)):=by
 have h0:ah Tryz.prog w0 266 [tm ρ ⟨k,i,n,a⟩] (iv 3):=by rw [<-hr];exact mn _
 have h1:ah Tryz.prog w0 266 [tm ρ ⟨k',i',n',a'⟩] (iv (fh k')):=mn _
 rw [fy,hr]
 dsimp only
 refine Bo.aG (by simp [Tryz.ntmps180]) (.v) ?_
 refine gq gG ?_
 repeat' (first
  |(refine ab.op rfl (ad.ag rfl h0 ⟨ba ⟨k,i,n,a⟩,trivial⟩) ?_;refine gq gG ?_)
  |(refine ab.int rfl (ad.ag rfl h1 ⟨ba ⟨k',i',n',a'⟩,trivial⟩) fun _ _=>?_;refine gq gG ?_)
  |(refine ab.int rfl (ad.ag rfl (pU _ _) ⟨.v,.v,trivial⟩) fun _ _=>?_;refine gq gG ?_)
  |(refine ab.int rfl (ad.ag rfl (zr _ _) ⟨.v,.v,trivial⟩) fun _ _=>?_;refine gq gG ?_)
  |(refine bq (fun hb=>?_) (fun hb=>?_)<;>(try simp only [aq] at hb)<;>(first|exact absurd hb (by decide)|refine gq gG ?_))
  |(refine fq ?_))
 all_goals (subst_vars;refine dI ?_;simp only [cN,o5,true_or,or_true,if_true];(repeat' split)<;>first|rfl|omega)
theorem K8 (k:Int):fh k=0\/fh k=1\/fh k=2\/fh k=3:=by
 unfold fh
 (repeat' split)<;>simp
theorem xW (x y:Tm) (hx:x.ok) (hy:y.ok):ah Tryz.prog w0 180 [tm ρ x,tm ρ y] (iv (fy x y)):=by
 revert y hx hy
 refine Tm.ind (p:=fun x=>∀ y:Tm,x.ok->y.ok->ah Tryz.prog w0 180 [tm ρ x,tm ρ y] (iv (fy x y))) ?_ x
 intro k i n a ih y hx hy
 obtain⟨cX,ey,eD⟩:=hx.out
 obtain⟨eU,e9,mj⟩:=hy.out
 obtain⟨k',i',n',a'⟩:=y
 rcases K8 k with h|h|h|h
 ·exact FU k i k' i' n n' a a' ih cX eD eU mj h
 ·exact FV k i k' i' n n' a a' ih cX eD eU mj h
 ·exact FW k i k' i' n n' a a' ih cX eD eU mj h
 ·exact FX k i k' i' n n' a a' ih cX eD eU mj h
theorem Je (a b:List Tm) (xV:eg a) (sg:eg b) (hl:a.length<=1099511627776) (hn:a.length=b.length):ah Tryz.prog w0 136 [tl ρ a,tl ρ b] (iv (eW a b)):=EF (fun x _ y hx hy=>Au x y hx hy) xV sg hl hn
theorem EG (a b:List Tm) (xV:eg a) (sg:eg b) (hl:a.length<=1099511627776) (eP:b.length<=1099511627776):ah Tryz.prog w0 263 [tl ρ a,tl ρ b] (iv (eW a b)):=Cd (fun x _ y hx hy=>xW x y hx hy) xV sg hl eP
theorem SO (x y:Tm) (hx:x.ok) (hy:y.ok):ah Tryz.prog w0 142 [tm ρ x,tm ρ y] (.v (.bool (fy x y == 0))):=by
 refine WC.aG (by simp [Tryz.ntmps142]) (.v) ?_
 refine gq K5 ?_
 repeat' (first
  |(refine ab.int rfl (ad.ag rfl (Au (ρ:=ρ) x y hx hy) ⟨ba _,ba _,trivial⟩) fun _ _=>?_;refine gq K5 ?_)
  |(refine bq (fun hb=>?_) (fun hb=>?_)<;>(try simp only [aq] at hb)<;>(first|refine gq K5 ?_))
  |(refine fq ?_))
 all_goals (refine aU.of_eq ?_;simp_all)
theorem QE (x y:Tm) (hx:x.ok) (hy:y.ok):ah Tryz.prog w0 98 [tm ρ x,tm ρ y] (.v (.bool (fy x y == 0))):=by
 refine abk.aG (by simp [Tryz.ntmps98]) (.v) ?_
 refine gq SJ ?_
 repeat' (first
  |(refine ab.int rfl (ad.ag rfl (xW (ρ:=ρ) x y hx hy) ⟨ba _,ba _,trivial⟩) fun _ _=>?_;refine gq SJ ?_)
  |(refine bq (fun hb=>?_) (fun hb=>?_)<;>(try simp only [aq] at hb)<;>(first|refine gq SJ ?_))
  |(refine fq ?_))
 all_goals (refine aU.of_eq ?_;simp_all)
theorem Jf (a b:List Tm) (xV:eg a) (sg:eg b) (hl:a.length<=1099511627776) (eP:b.length<=1099511627776):ah Tryz.prog w0 178 [tl ρ a,tl ρ b] (.v (.bool (eW a b == 0))):=by
 refine WG.aG (by simp [Tryz.ntmps178]) (.v) ?_
 refine gq K7 ?_
 repeat' (first
  |(refine ab.int rfl (ad.ag rfl (EG a b xV sg hl eP) ⟨bC _,bC _,trivial⟩) fun _ _=>?_;refine gq K7 ?_)
  |(refine bq (fun hb=>?_) (fun hb=>?_)<;>(try simp only [aq] at hb)<;>(first|refine gq K7 ?_))
  |(refine fq ?_))
 all_goals (refine aU.of_eq ?_;simp_all)
def At.ok (x:At):Prop:=x.a.length<=1099511627776/\eg x.a
def Gl.ok (x:Gl):Prop:=x.a.length<=1099511627776/\eg x.a
theorem NJ (x y:Int):ah Tryz.prog w0 196 [b8 .plain bF false [x,y]] (iv (o5 [x,y])):=SG [x,y] (by simp [BI])
theorem FY (x y:At) (hx:x.ok) (hy:y.ok):ah Tryz.prog w0 218 [at_ ρ x,at_ ρ y] (iv (rP x y)):=by
 obtain⟨cX,ey⟩:=hx
 obtain⟨eU,e9⟩:=hy
 obtain⟨n,a⟩:=x
 obtain⟨n',a'⟩:=y
 dsimp only at cX ey eU e9
 rw [rP]
 dsimp only
 refine WD.aG (by simp [Tryz.ntmps218]) (.v) ?_
 refine gq wV ?_
 repeat' (first
  |(refine ab.int rfl (ad.ag rfl (xU _ _) ⟨.v,.v,trivial⟩) fun _ _=>?_;refine gq wV ?_)
  |(refine ab.int rfl (ad.ag rfl (Jb _ _) ⟨.v,.v,trivial⟩) fun _ _=>?_;refine gq wV ?_)
  |(refine ab.int rfl (ad.mP rfl (NJ _ _) ⟨bQ _,trivial⟩ ⟨Wk.sl,trivial⟩) fun _ _=>?_;refine gq wV ?_)
  |(refine ab.int rfl (ad.ag rfl (Je a a' ey e9 cX (by subst_vars;simp only [o5] at *;have:=q9 (a:=a.length) (b:=a'.length);have:=q9 (a:=a.length) (b:=a'.length) (by (repeat' split at *)<;>omega);omega)) ⟨bC _,bC _,trivial⟩) fun _ _=>?_;refine gq wV ?_)
  |(refine bq (fun hb=>?_) (fun hb=>?_)<;>(try simp only [aq] at hb)<;>(first|refine gq wV ?_))
  |(refine aB fun m hm=>?_;(try rw [af] at hm);refine gq wV ?_)
  |(refine fq ?_))
 all_goals (subst_vars;refine dI ?_;simp only [cN,o5] at *;(repeat' split at *)<;>first|rfl|omega)
theorem DZ (x y:At) (hx:x.ok) (hy:y.ok):ah Tryz.prog w0 179 [at_ ρ x,at_ ρ y] (iv (rP x y)):=by
 obtain⟨cX,ey⟩:=hx
 obtain⟨eU,e9⟩:=hy
 obtain⟨n,a⟩:=x
 obtain⟨n',a'⟩:=y
 dsimp only at cX ey eU e9
 rw [rP]
 dsimp only
 refine WH.aG (by simp [Tryz.ntmps179]) (.v) ?_
 refine gq zt ?_
 repeat' (first
  |(refine ab.int rfl (ad.ag rfl (pU _ _) ⟨.v,.v,trivial⟩) fun _ _=>?_;refine gq zt ?_)
  |(refine ab.int rfl (ad.ag rfl (zr _ _) ⟨.v,.v,trivial⟩) fun _ _=>?_;refine gq zt ?_)
  |(refine ab.int rfl (ad.ag rfl (EG a a' ey e9 cX eU) ⟨bC _,bC _,trivial⟩) fun _ _=>?_;refine gq zt ?_)
  |(refine bq (fun hb=>?_) (fun hb=>?_)<;>(try simp only [aq] at hb)<;>(first|refine gq zt ?_))
  |(refine aB fun m hm=>?_;(try rw [af] at hm);refine gq zt ?_)
  |(refine fq ?_))
 all_goals (subst_vars;refine dI ?_;simp only [cN,o5,true_or,or_true,if_true];(repeat' split)<;>first|rfl|omega)
theorem QG (x y:At) (hx:x.ok) (hy:y.ok):ah Tryz.prog w0 139 [at_ ρ x,at_ ρ y] (.v (.bool (rP x y == 0))):=by
 refine WE.aG (by simp [Tryz.ntmps139]) (.v) ?_
 refine gq K6 ?_
 repeat' (first
  |(refine ab.int rfl (ad.ag rfl (FY (ρ:=ρ) x y hx hy) ⟨de _,de _,trivial⟩) fun _ _=>?_;refine gq K6 ?_)
  |(refine bq (fun hb=>?_) (fun hb=>?_)<;>(try simp only [aq] at hb)<;>(first|refine gq K6 ?_))
  |(refine fq ?_))
 all_goals (refine aU.of_eq ?_;simp_all)
theorem K9 (x y:At) (hx:x.ok) (hy:y.ok):ah Tryz.prog w0 97 [at_ ρ x,at_ ρ y] (.v (.bool (rP x y == 0))):=by
 refine abl.aG (by simp [Tryz.ntmps97]) (.v) ?_
 refine gq SM ?_
 repeat' (first
  |(refine ab.int rfl (ad.ag rfl (DZ (ρ:=ρ) x y hx hy) ⟨de _,de _,trivial⟩) fun _ _=>?_;refine gq SM ?_)
  |(refine bq (fun hb=>?_) (fun hb=>?_)<;>(try simp only [aq] at hb)<;>(first|refine gq SM ?_))
  |(refine fq ?_))
 all_goals (refine aU.of_eq ?_;simp_all)
theorem EH (x y:Gl) (hx:x.ok) (hy:y.ok):ah Tryz.prog w0 62 [gl ρ x,gl ρ y] (.v (.bool (iy x y))):=by
 obtain⟨cX,ey⟩:=hx
 obtain⟨eU,e9⟩:=hy
 obtain⟨o,n,a⟩:=x
 obtain⟨o',n',a'⟩:=y
 dsimp only at cX ey eU e9
 rw [iy]
 dsimp only
 refine abj.aG (by simp [Tryz.ntmps62]) (.v) ?_
 refine gq NF ?_
 repeat' (first
  |(refine ab.int rfl (ad.ag rfl (Je a a' ey e9 cX (by omega)) ⟨bC _,bC _,trivial⟩) fun _ _=>?_;refine gq NF ?_)
  |(refine bq (fun hb=>?_) (fun hb=>?_)<;>(try simp only [aq] at hb)<;>(first|refine gq NF ?_))
  |(refine aB fun m hm=>?_;(try rw [af] at hm);refine gq NF ?_)
  |(refine fq ?_))
 all_goals (refine aU.of_eq ?_;subst_vars;simp_all)
theorem K_ (x y:Gl) (hx:x.ok) (hy:y.ok):ah Tryz.prog w0 96 [gl ρ x,gl ρ y] (.v (.bool (iy x y))):=by
 obtain⟨cX,ey⟩:=hx
 obtain⟨eU,e9⟩:=hy
 obtain⟨o,n,a⟩:=x
 obtain⟨o',n',a'⟩:=y
 dsimp only at cX ey eU e9
 rw [iy]
 dsimp only
 refine abm.aG (by simp [Tryz.ntmps96]) (.v) ?_
 refine gq NI ?_
 repeat' (first
  |(refine ab.a_ rfl (ad.ag rfl (Jf a a' ey e9 cX eU) ⟨bC _,bC _,trivial⟩) (fun _=>?_) (fun _=>?_)<;>refine gq NI ?_)
  |(refine bq (fun hb=>?_) (fun hb=>?_)<;>(try simp only [aq] at hb)<;>(first|refine gq NI ?_))
  |(refine aB fun m hm=>?_;(try rw [af] at hm);refine gq NI ?_)
  |(refine fq ?_))
 all_goals (refine aU.of_eq ?_;subst_vars;simp_all)
end
end
end Go.Proofs.YtbofilglphfceaaGreat
