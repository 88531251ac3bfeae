import Derived.Test.YtbpabjmnhggajaaGreatOr14
namespace Go.Proofs.YtbpabjmnhggajaaGreat
set_option linter.all false
open Go.RowKit
section
set_option maxRecDepth 100000
attribute [local irreducible] ah aG ae ad
def ahO:FQ 144 Tryz.f144:=aF Tryz.func144 Tryz.call144
def WS:List Nat:=[4,0,1,2,3]
def ahP:FQ 103 Tryz.f103:=aF Tryz.func103 Tryz.call103
def WT:List Nat:=[4,0,1,2,3]
def ahQ:FQ 217 Tryz.f217:=aF Tryz.func217 Tryz.call217
def WU:List Nat:=[4,0,1]
def ahR:FQ 218 Tryz.f218:=aF Tryz.func218 Tryz.call218
def Ix:List Nat:=[2,3,5,4,0,1,12,21]
def ahS:FQ 171 Tryz.f171:=aF Tryz.func171 Tryz.call171
def WV:List Nat:=[4,0,1,2,3]
def ahT:FQ 170 Tryz.f170:=aF Tryz.func170 Tryz.call170
def RY:List Nat:=[2,3,4,0,1]
def Iy (x y:At):Int:=fh (AN x.n y.n) (fh (iG x.a.length y.a.length) (jH x.a y.a))
def sy (x y:Gl):Bool:=x.op == y.op && x.n.toList == y.n.toList && decide ((x.a.length:Int)=y.a.length) && jH x.a y.a == 0
theorem T7:∀(a b:List Tm) (k:Nat),(a.length<=k\/b.length<=k)->k<=a.length->k<=b.length->jH (a.drop k) (b.drop k)=iG a.length b.length:=by
 intro a b k h e f;rcases bo_ k a.length with c|c
 ·obtain⟨x,g,d⟩:=aD c;rw[d,ak_ (show b.length<=k by omega),jH];unfold iG;(repeat' split)<;>first|rfl|omega
 ·grind[jH,iG]
section
variable {w0:World}{ρ:Hd}
theorem LV {a b:List Tm}(n:∀x ∈ a,∀y,x.ok->y.ok->ah Tryz.prog w0 168 [tm ρ x,tm ρ y] (iv (iH x y))) (o:dG a) (p:dG b) (v:a.length<=1099511627776) (w:b.length<=1099511627776) :
  ah Tryz.prog w0 216 [tl ρ a,tl ρ b] (iv (jH a b)):=by
 refine st ahM ml .v ?_
 repeat' (first
  |exact absurd c (by decide)
  |refine cg ml (λc=>?_) λc=>?_
  |refine lg ml λm f=>?_
  |refine ag ml λ_ _=>?_
  |refine ll λ_ _=>?_;refine gq ml ?_
  |refine ad.str rfl (ae.cat rfl rfl (by grind)) λ_ _=>?_;refine gq ml ?_
  |refine ad.ao ?_;refine gq ml ?_
  |refine ad.bh ?_;refine gq ml ?_
  |(refine fq ?_))
 refine ad.aK (σ:=Int) 0 0 [] (λi=>[(0,tl ρ a),(1,tl ρ b),(5,.v (.int .i64 i))]) [] (λ_=>[])
  (λi=>∃k:Nat,i=k/\k<=a.length/\k<=b.length/\jH a b=jH (a.drop k) (b.drop k)) (λi=>a.length - i.toNat) 0 ⟨0,rfl,by simp,by simp,by simp⟩ rfl cq ?_
 rintro i ⟨k,g,r,s,d⟩;refine gq ml ?_;by_cases h:k < a.length/\k < b.length
 ·obtain⟨x,e,t⟩:=aD h.1;obtain⟨y,j,u⟩:=aD h.2;rw[t,u,jH,fh]at d
  repeat' (first
   |refine og ml (ae.ind rfl rfl (cC (l:=a) g e) cD) ?_
   |refine og ml (ae.ind rfl rfl (cC (l:=b) g j) cD) ?_
   |refine ig ml (pl (n x (bM e) y (o.mem x (bM e)) (p.mem y (bM j)))) λ_ _=>?_
   |refine ig ml (pl (wS _ _)) λ_ _=>?_
   |refine cg ml (λc=>?_) λc=>?_
   |refine lg ml λm f=>?_
   |refine ag ml λ_ _=>?_
   |refine ad.ao ?_;refine gq ml ?_
   |refine ad.bh ?_;refine gq ml ?_
   |(refine fq ?_))
  all_goals first
   |exfalso;omega
   |subst_vars;rw[if_neg (by omega)]at d;exact dP d.symm
   |(subst_vars;rw[if_pos (by omega)]at d
     refine ad.az (σ:=Int) _ [] ?_ ?_ cq
     ·grind
     ·omega)
 ·skip
  repeat' (first
   |refine ig ml (pl (wS _ _)) λ_ _=>?_
   |refine cg ml (λc=>?_) λc=>?_
   |refine lg ml λm f=>?_
   |refine ad.ao ?_;refine gq ml ?_
   |(refine fq ?_))
  all_goals first
   |exfalso;omega
   |rw[T7 a b k (by omega) r s]at d;subst_vars;exact dP d.symm
theorem RZ (k i b c:Int) (n d:ByteArray) (a a':List Tm) (j:∀x ∈ a,∀y:Tm,x.ok->y.ok->ah Tryz.prog w0 168 [tm ρ x,tm ρ y] (iv (iH x y)))
  (l:a.length<=1099511627776) (m:dG a) (o:a'.length<=1099511627776) (p:dG a') (e:jG k=0):ah Tryz.prog w0 168 [tm ρ ⟨k,i,n,a⟩,tm ρ ⟨b,c,d,a'⟩] (iv (iH ⟨k,i,n,a⟩ ⟨b,c,d,a'⟩)):=by
 have g:ah Tryz.prog w0 214 [tm ρ ⟨k,i,n,a⟩] (iv 0):=by rw[<-e];exact ru _
 have h:ah Tryz.prog w0 214 [tm ρ ⟨b,c,d,a'⟩] (iv (jG b)):=ru _;rw[iH,e];dsimp only;refine st KT lz .v ?_
 repeat' (first
  |apply bK lz g
  |refine ig lz (pl h) λ_ _=>?_
  |refine ig lz (pl (wS _ _)) λ_ _=>?_
  |exact absurd f (by decide)
  |refine cg lz (λf=>?_) λf=>?_
  |(refine fq ?_))
 all_goals (subst_vars;refine dP ?_;simp only[fh,BT,true_or,or_true,if_true];(repeat' split)<;>first|rfl|omega)
theorem R0 (k i b c:Int) (n d:ByteArray) (a a':List Tm) (j:∀x ∈ a,∀y:Tm,x.ok->y.ok->ah Tryz.prog w0 168 [tm ρ x,tm ρ y] (iv (iH x y)))
  (l:a.length<=1099511627776) (m:dG a) (o:a'.length<=1099511627776) (p:dG a') (e:jG k=1):ah Tryz.prog w0 168 [tm ρ ⟨k,i,n,a⟩,tm ρ ⟨b,c,d,a'⟩] (iv (iH ⟨k,i,n,a⟩ ⟨b,c,d,a'⟩)):=by
 have g:ah Tryz.prog w0 214 [tm ρ ⟨k,i,n,a⟩] (iv 1):=by rw[<-e];exact ru _
 have h:ah Tryz.prog w0 214 [tm ρ ⟨b,c,d,a'⟩] (iv (jG b)):=ru _;rw[iH,e];dsimp only;refine st KT lz .v ?_
 repeat' (first
  |apply bK lz g
  |refine ig lz (pl h) λ_ _=>?_
  |refine ig lz (pl (wS _ _)) λ_ _=>?_
  |exact absurd f (by decide)
  |refine cg lz (λf=>?_) λf=>?_
  |(refine fq ?_))
 all_goals (subst_vars;refine dP ?_;simp only[fh,BT,true_or,or_true,if_true];(repeat' split)<;>first|rfl|omega)
theorem R1 (k i c d:Int) (n e:ByteArray) (a a':List Tm) (h:∀x ∈ a,∀y:Tm,x.ok->y.ok->ah Tryz.prog w0 168 [tm ρ x,tm ρ y] (iv (iH x y)))
  (j:a.length<=1099511627776) (l:dG a) (o:a'.length<=1099511627776) (p:dG a') (f:jG k=2):ah Tryz.prog w0 168 [tm ρ ⟨k,i,n,a⟩,tm ρ ⟨c,d,e,a'⟩] (iv (iH ⟨k,i,n,a⟩ ⟨c,d,e,a'⟩)):=by
 have q:ah Tryz.prog w0 214 [tm ρ ⟨k,i,n,a⟩] (iv 2):=by rw[<-f];exact ru _
 have r:ah Tryz.prog w0 214 [tm ρ ⟨c,d,e,a'⟩] (iv (jG c)):=ru _;rw[iH,f];dsimp only;refine st KT lz .v ?_
 repeat' (first
  |apply bK lz q
  |refine ig lz (pl r) λ_ _=>?_
  |refine ig lz (pl (wS _ _)) λ_ _=>?_
  |refine ig lz (pl (Iw _ _)) λ_ _=>?_
  |refine ig lz (pl (LV (a:=a) (b:=a') h l p j o)) λ_ _=>?_
  |exact absurd g (by decide)
  |refine cg lz (λg=>?_) λg=>?_
  |refine lg lz λm s=>?_
  |(refine fq ?_))
 all_goals (subst_vars;refine dP ?_;simp only[fh,BT,true_or,or_true,if_true];(repeat' split)<;>first|rfl|omega)
theorem R2 (k i b c:Int) (n d:ByteArray) (a a':List Tm) (j:∀x ∈ a,∀y:Tm,x.ok->y.ok->ah Tryz.prog w0 168 [tm ρ x,tm ρ y] (iv (iH x y)))
  (l:a.length<=1099511627776) (m:dG a) (o:a'.length<=1099511627776) (p:dG a') (e:jG k=3):ah Tryz.prog w0 168 [tm ρ ⟨k,i,n,a⟩,tm ρ ⟨b,c,d,a'⟩] (iv (iH ⟨k,i,n,a⟩ ⟨b,c,d,a'⟩)):=by
 have g:ah Tryz.prog w0 214 [tm ρ ⟨k,i,n,a⟩] (iv 3):=by rw[<-e];exact ru _
 have h:ah Tryz.prog w0 214 [tm ρ ⟨b,c,d,a'⟩] (iv (jG b)):=ru _;rw[iH,e];dsimp only;refine st KT lz .v ?_
 repeat' (first
  |apply bK lz g
  |refine ig lz (pl h) λ_ _=>?_
  |refine ig lz (pl (wS _ _)) λ_ _=>?_
  |refine ig lz (pl (Iw _ _)) λ_ _=>?_
  |exact absurd f (by decide)
  |refine cg lz (λf=>?_) λf=>?_
  |(refine fq ?_))
 all_goals (subst_vars;refine dP ?_;simp only[fh,BT,true_or,or_true,if_true];(repeat' split)<;>first|rfl|omega)
theorem WW (k:Int):jG k=0\/jG k=1\/jG k=2\/jG k=3:=by grind[jG]
theorem GX (x y:Tm) (b:x.ok) (c:y.ok):ah Tryz.prog w0 168 [tm ρ x,tm ρ y] (iv (iH x y)):=by
 revert y b c;refine Tm.ind (p:=λx=>∀y:Tm,x.ok->y.ok->ah Tryz.prog w0 168 [tm ρ x,tm ρ y] (iv (iH x y))) ?_ x;intro k i n a d y b c;obtain⟨e,f,g⟩:=b.out;obtain⟨j,l,m⟩:=c.out;obtain⟨o,q,r,s⟩:=y;rcases WW k with h|h|h|h
 ·grind[RZ]
 ·grind[R0]
 ·grind[R1]
 ·grind[R2]
theorem PQ (a b:List Tm) (c:dG a) (d:dG b) (e:a.length<=1099511627776) (f:b.length<=1099511627776):ah Tryz.prog w0 216 [tl ρ a,tl ρ b] (iv (jH a b)):=LV (λx _ y g h=>GX x y g h) c d e f
theorem adI (x y:Tm) (a:x.ok) (b:y.ok):ah Tryz.prog w0 144 [tm ρ x,tm ρ y] (.v (.bool (iH x y == 0))):=by
 refine st ahO WS .v ?_
 repeat' (first
  |refine ig WS (pl (T6 (ρ:=ρ) x y a b)) λ_ _=>?_
  |refine cg WS (λc=>?_) λc=>?_
  |(refine fq ?_))
 all_goals (refine aP.of_eq ?_;simp_all)
theorem PR (x y:Tm) (a:x.ok) (b:y.ok):ah Tryz.prog w0 103 [tm ρ x,tm ρ y] (.v (.bool (iH x y == 0))):=by
 refine st ahP WT .v ?_
 repeat' (first
  |refine ig WT (pl (GX (ρ:=ρ) x y a b)) λ_ _=>?_
  |refine cg WT (λc=>?_) λc=>?_
  |(refine fq ?_))
 all_goals (refine aP.of_eq ?_;simp_all)
theorem T8 (a b:List Tm) (c:dG a) (d:dG b) (e:a.length<=1099511627776) (f:b.length<=1099511627776):ah Tryz.prog w0 217 [tl ρ a,tl ρ b] (.v (.bool (jH a b == 0))):=by
 refine st ahQ WU .v ?_
 repeat' (first
  |refine ig WU (pl (PQ a b c d e f)) λ_ _=>?_
  |refine cg WU (λg=>?_) λg=>?_
  |(refine fq ?_))
 all_goals (refine aP.of_eq ?_;simp_all)
def At.ok (x:At):Prop:=x.a.length<=1099511627776/\dG x.a
def Gl.ok (x:Gl):Prop:=x.a.length<=1099511627776/\dG x.a
theorem O6 (x y:At) (f:x.ok) (g:y.ok):ah Tryz.prog w0 218 [at_ ρ x,at_ ρ y] (iv (Iy x y)):=by
 obtain⟨b,c⟩:=f;obtain⟨d,e⟩:=g;obtain⟨n,a⟩:=x;obtain⟨j,h⟩:=y;dsimp only at b c d e;rw[Iy];dsimp only;refine st ahR Ix .v ?_
 repeat' (first
  |refine ig Ix (pl (wS _ _)) λ_ _=>?_
  |refine ig Ix (pl (Iw _ _)) λ_ _=>?_
  |refine ig Ix (pl (PQ a h c e b d)) λ_ _=>?_
  |refine cg Ix (λi=>?_) λi=>?_
  |refine lg Ix λm k=>?_
  |(refine fq ?_))
 all_goals (subst_vars;refine dP ?_;simp only[fh,BT,true_or,or_true,if_true];(repeat' split)<;>first|rfl|omega)
theorem WX (x y:At) (a:x.ok) (b:y.ok):ah Tryz.prog w0 171 [at_ ρ x,at_ ρ y] (.v (.bool (Iy x y == 0))):=by
 refine st ahS WV .v ?_
 repeat' (first
  |refine ig WV (pl (O6 (ρ:=ρ) x y a b)) λ_ _=>?_
  |refine cg WV (λc=>?_) λc=>?_
  |(refine fq ?_))
 all_goals (refine aP.of_eq ?_;simp_all)
theorem WY (x y:Gl) (f:x.ok) (g:y.ok):ah Tryz.prog w0 170 [gl ρ x,gl ρ y] (.v (.bool (sy x y))):=by
 obtain⟨b,c⟩:=f;obtain⟨d,e⟩:=g;obtain⟨o,n,a⟩:=x;obtain⟨j,k,h⟩:=y;dsimp only at b c d e;rw[sy];dsimp only;refine st ahT RY .v ?_
 repeat' (first
  |refine bg RY (pl (T8 a h c e b d)) (λ_=>?_) λ_=>?_
  |refine cg RY (λi=>?_) λi=>?_
  |refine lg RY λm l=>?_
  |(refine fq ?_))
 all_goals (refine aP.of_eq ?_;subst_vars;simp_all)
end
end
end Go.Proofs.YtbpabjmnhggajaaGreat
