import Derived.Shelf.SlIterI.Collect
import Derived.Shelf.SlIterI.Sorted
import Derived.Shelf.SortM.Plain
import Derived.Shelf.SortM.SortNone
import Derived.Test.YtbpabjmnhggajaaGreatProg
import Derived.Test.YtbpabjmnhggajaaGreatOs16
import Derived.Test.YtbpabjmnhggajaaGreatOs17
namespace Go.Proofs.YtbpabjmnhggajaaGreat
set_option linter.unusedVariables false
set_option linter.unusedSimpArgs false
open Go.RowKit
section
set_option maxRecDepth 100000
attribute [local irreducible] ah aC af ad
theorem bf {T:Type}{l:List T}{k:Nat}(h:k < l.length):∃ x,l[k]?=some x/\l.drop k=x::l.drop (k+1):=⟨l[k],List.getElem?_eq_getElem h,List.drop_eq_getElem_cons h⟩
theorem eU {T:Type}{l:List T}{k:Nat}{x:T}(h:l[k]?=some x):x ∈ l:=List.mem_of_getElem? h
section
variable {w0:World}{ρ:Hd}
theorem Pc {a b:Int}(h:tq a b=0):a=b:=by grind[tq]
theorem acq (x y z:Int):ah Tryz.prog w0 220 [aX .plain aP false [x,y,z]] (iv (HS [x,y,z])):=ag1 [x,y,z] (by simp[HR])
theorem Pd:uF [] []=0:=by simp[uF,tq]
theorem Wz {a b:List Tm}(ih:∀ x ∈ a,∀ y,x.ok->y.ok->ah Tryz.prog w0 203 [tm ρ x,tm ρ y] (iv (wU x y))) (hka:eV a) (oW:eV b) (hl:a.length<=1099511627776) (hn:a.length=b.length) :
  ah Tryz.prog w0 242 [tl ρ a,tl ρ b] (iv (uF a b)):=by
 refine st acn rK .v ?_
 repeat' (first
  |refine lg rK fun m hm=>?_
  )
 refine ad.bu (σ:=Int) 0 0 [] (fun i=>[(0,tl ρ a),(1,tl ρ b),(8,.v (.int .i64 m)),(9,.v (.int .i64 i))]) [] (fun _=>[])
  (fun i=>∃ k:Nat,i=k/\k<=a.length/\uF a b=uF (a.drop k) (b.drop k)) (fun i=>a.length - i.toNat) 0 ⟨0,rfl,by simp,by simp⟩ rfl cq ?_
 rintro i ⟨k,hi,hk,hp⟩;refine gq rK ?_;by_cases aA:k < a.length
 ·obtain⟨x,hx,bK⟩:=bf aA;obtain⟨y,hy,px⟩:=bf (show k < b.length by omega);rw[bK,px,uF,uE] at hp
  repeat' (first
   |refine og rK (af.ind rfl rfl (fm (l:=a) hi hx) fp) ?_
   |refine og rK (af.ind rfl rfl (fm (l:=b) hi hy) fp) ?_
   |refine ig rK (af.aw rfl (ih x (eU hx) y (hka.mem x (eU hx)) (oW.mem y (eU hy))) ⟨aT _,aT _,trivial⟩) fun _ _=>?_
   |refine cg rK (fun hb=>?_) fun hb=>?_
   |refine ag rK fun _ _=>?_
   |refine ad.aH ?_;refine gq rK ?_
   |refine ad.cP ?_;refine gq rK ?_
   |(refine fq ?_))
  ·grind[jD]
  ·subst_vars;rw[if_pos (by grind)] at hp;refine ad.aO (σ:=Int) _ [] ?_ ?_ cq
   ·grind
   ·omega
  ·omega
 ·skip
  repeat' (first
   |refine cg rK (fun hb=>?_) fun hb=>?_
   |refine ad.aH ?_;refine gq rK ?_
   |(refine fq ?_))
  ·omega
  ·grind[Pd,jD]
theorem Pe (x y:Tm) (hx:x.ok) (hy:y.ok):ah Tryz.prog w0 203 [tm ρ x,tm ρ y] (iv (wU x y)):=by
 revert y hx hy;refine Tm.ind (p:=fun x=>∀ y:Tm,x.ok->y.ok->ah Tryz.prog w0 203 [tm ρ x,tm ρ y] (iv (wU x y))) ?_ x;intro k i n a ih y hx hy;obtain⟨ia,kN,mY⟩:=hx.out;obtain⟨b8,cy,jo⟩:=hy.out;obtain⟨k',i',n',a'⟩:=y;dsimp only at ia kN mY b8 cy jo;rw[wU];dsimp only;refine st acm yS .v ?_
 repeat' (first
  |refine ig yS (af.aw rfl (YK _) ⟨.v,trivial⟩) fun _ _=>?_
  |refine ig yS (af.aw rfl (YN _ _) ⟨.v,.v,trivial⟩) fun _ _=>?_
  |refine ig yS (af.aw rfl (YO _ _) ⟨.v,.v,trivial⟩) fun _ _=>?_
  |refine ig yS (af.aw rfl (Wz (a:=a) (b:=a') ih mY jo ia (by grind[Pc])) ⟨aS _,aS _,trivial⟩) fun _ _=>?_
  |refine ig yS (af.pd rfl (acq _ _ _) ⟨bp _,trivial⟩ ⟨Wk.sl,trivial⟩) fun _ _=>?_
  |refine cg yS (fun hb=>?_) fun hb=>?_
  |refine lg yS fun m hm=>?_
  |(refine fq ?_))
 all_goals (subst_vars;refine jD ?_;simp only[uE,HS];(repeat' split)<;>first|rfl|omega)
end
end
section
set_option maxRecDepth 100000
attribute [local irreducible] ah aC af ad
def acr:FQ 144 Tryz.f144:=a_ Tryz.func144 Tryz.call144
def Sa:List Nat:=[4,0,1,2,3]
section
variable {w0:World}{ρ:Hd}
theorem YR (x y:Tm) (hx:x.ok) (hy:y.ok):ah Tryz.prog w0 144 [tm ρ x,tm ρ y] (.v (.bool (wU x y == 0))):=by
 refine st acr Sa .v ?_
 repeat' (first
  |refine ig Sa (af.aw rfl (Pe (ρ:=ρ) x y hx hy) ⟨aT _,aT _,trivial⟩) fun _ _=>?_
  |refine cg Sa (fun hb=>?_) fun hb=>?_
  |(refine fq ?_))
 all_goals (refine aR.of_eq ?_;simp_all)
def At.ok (x:At):Prop:=x.a.length<=1099511627776/\eV x.a
def Gl.ok (x:Gl):Prop:=x.a.length<=1099511627776/\eV x.a
end
end
section
def gp:Nat->List Nat->Nat->Option (List Nat × Nat)
 |0,_,_=>none
 |m+1,up,k=>match up[k]? with
  |none=>none
  |some p=>if p=k then some (up,k) else match up[p]? with
   |none=>none
   |some q=>gp m (up.set k q) q
theorem C5:∀ {m:Nat}{up:List Nat}{k:Nat}{r:List Nat × Nat},gp m up k=some r->gp (m+1) up k=some r
 |0,_,_,_,h=>by cases h
 |m+1,up,k,r,h=>by
  rw[gp] at h;rw[gp];split at h
  ·grind
  ·rename_i p hp;split at h
   ·grind
   ·rename_i e;split at h
    ·grind
    ·rename_i q hq;simp only[hp,if_neg e,hq];exact C5 h
theorem Sb {m m':Nat}{up:List Nat}{k:Nat}{r:List Nat × Nat}(h:gp m up k=some r) (hm:m<=m'):gp m' up k=some r:=by
 induction hm with
 |refl=>exact h
 |step _ ih=>exact C5 ih
theorem Pf {m m':Nat}{up:List Nat}{k:Nat}{r r':List Nat × Nat}(h:gp m up k=some r) (h':gp m' up k=some r'):r=r':=by grind[Sb]
open Classical in
noncomputable def iq (up:List Nat) (k:Nat):Option (List Nat × Nat):=if h:∃ p:Nat × (List Nat × Nat),gp p.1 up k=some p.2 then some h.choose.2 else none
theorem Sc {m:Nat}{up:List Nat}{k:Nat}{r:List Nat × Nat}(h:gp m up k=some r):iq up k=some r:=by
 have hx:∃ p:Nat × (List Nat × Nat),gp p.1 up k=some p.2:=⟨(m,r),h⟩;unfold iq;rw[dif_pos hx,Pf hx.choose_spec h]
theorem wX {up:List Nat}{k:Nat}{r:List Nat × Nat}(h:iq up k=some r):∃ m,gp m up k=some r:=by
 unfold iq at h;split at h
 ·grind
 ·grind
def ix (up:List Nat) (i:Nat):Nat:=(up[i]?).getD i
structure UF (up:List Nat) (c h:Nat->Nat):Prop where
 lt:∀ i,i < up.length->ix up i < up.length
 rt:∀ i,i < up.length->ix up (c i)=c i/\c i < up.length
 st:∀ i,i < up.length->c (ix up i)=c i
 fx:∀ i,i < up.length->ix up i=i->c i=i
 ht:∀ i,i < up.length->ix up i ≠ i->h (ix up i) < h i
theorem HZ {up:List Nat}{i:Nat}(hi:i < up.length):up[i]?=some (ix up i):=by grind[ix]
theorem mz {up:List Nat}{k v:Nat}(hk:k < up.length) (i:Nat):ix (up.set k v) i=if i=k then v else ix up i:=by grind[ix]
theorem UF.cc {up:List Nat}{c h:Nat->Nat}(hU:UF up c h) {i:Nat}(hi:i < up.length):c (c i)=c i:=hU.fx _ (hU.rt i hi).2 (hU.rt i hi).1
theorem UF.half {up:List Nat}{c h:Nat->Nat}(hU:UF up c h) {k:Nat}(hk:k < up.length):UF (up.set k (ix up (ix up k))) c h:=by
 have h1:=hU.lt k hk;have h2:=hU.lt _ h1;refine⟨fun i hi=>?_,fun i hi=>?_,fun i hi=>?_,fun i hi e=>?_,fun i hi e=>?_⟩
 all_goals rw[List.length_set] at hi
 ·rw[mz hk,List.length_set];split
  ·grind
  ·exact hU.lt i hi
 ·rw[mz hk,List.length_set];obtain⟨r1,r2⟩:=hU.rt i hi;refine⟨?_,r2⟩;split
  ·grind
  ·grind
 ·rw[mz hk];split
  ·rename_i e;subst e;rw[hU.st _ h1,hU.st _ hi]
  ·exact hU.st i hi
 ·rw[mz hk] at e;split at e
  ·rename_i e';subst e';by_cases e1:ix up i=i
   ·exact hU.fx i hi e1
   ·have h3:=hU.ht i hi e1;by_cases e2:ix up (ix up i)=ix up i
    ·grind
    ·have h4:=hU.ht _ h1 e2;rw[e] at h4;omega
  ·exact hU.fx i hi e
 ·rw[mz hk] at e ⊢;split at e
  ·rename_i e';rw[if_pos e'];subst e';by_cases e1:ix up i=i
   ·grind
   ·have h3:=hU.ht i hi e1;by_cases e2:ix up (ix up i)=ix up i
    ·grind
    ·have h4:=hU.ht _ h1 e2;omega
  ·rename_i e';rw[if_neg e'];exact hU.ht i hi e
theorem UF.root {c h:Nat->Nat}:∀ (H:Nat) {up:List Nat}{k:Nat},UF up c h->k < up.length->h k < H->∃ m dA,gp m up k=some (dA,c k)/\UF dA c h/\dA.length=up.length
 |0,_,_,_,_,hH=>by omega
 |H+1,up,k,hU,hk,hH=>by
  by_cases e:ix up k=k
  ·refine⟨1,up,?_,hU,rfl⟩;rw[gp,HZ hk];simp only[if_pos e,hU.fx k hk e]
  ·have h1:=hU.lt k hk;have h2:=hU.lt _ h1;have h3:=hU.ht k hk e;have h4:h (ix up (ix up k)) < H:=by
    by_cases e2:ix up (ix up k)=ix up k
    ·grind
    ·have:=hU.ht _ h1 e2;omega
   obtain⟨m,dA,h5,h6,h7⟩:=UF.root H (hU.half hk) (by grind) h4;refine⟨m+1,dA,?_,h6,by grind⟩;rw[gp,HZ hk];simp only[if_neg e,HZ h1,h5,hU.st _ h1,hU.st _ hk]
theorem UF.iq {up:List Nat}{c h:Nat->Nat}(hU:UF up c h) {k:Nat}(hk:k < up.length):∃ dA,iq up k=some (dA,c k)/\UF dA c h/\dA.length=up.length:=by
 obtain⟨m,dA,h1,h2,h3⟩:=UF.root _ hU hk (Nat.lt_succ_self _);exact⟨dA,Sc h1,h2,h3⟩
theorem UF.merge {up:List Nat}{c h:Nat->Nat}(hU:UF up c h) {a b:Nat}(ha:a < up.length) (hb:b < up.length) (ca:c a=a) (cb:c b=b) (uI:a ≠ b):UF (up.set b a) (gm c a b) (fun i=>if c i=b then h i+h a+1 else h i):=by
 have ra:ix up a=a:=by have:=(hU.rt a ha).1;rwa [ca] at this
 refine⟨fun i hi=>?_,fun i hi=>?_,fun i hi=>?_,fun i hi e=>?_,fun i hi e=>?_⟩
 all_goals rw[List.length_set] at hi
 ·rw[mz hb,List.length_set];split
  ·grind
  ·exact hU.lt i hi
 ·rw[mz hb,List.length_set];by_cases e:c i=b
  ·grind[gm]
  ·rw[show gm c a b i=c i from if_neg e,if_neg e];exact hU.rt i hi
 ·rw[mz hb];unfold gm;split
  ·grind
  ·rw[hU.st i hi]
 ·rw[mz hb] at e;unfold gm;split at e
  ·grind
  ·rename_i e';have:=hU.fx i hi e;rw[this,if_neg e']
 ·rw[mz hb] at e ⊢;split at e
  ·grind
  ·rename_i e';have:=hU.ht i hi e;simp only[if_neg e',hU.st i hi];split<;>omega
def b9 (sh:List (Int × Int)) (C:Nat):Option Nat:=(aB sh (C:Int)).map Int.toNat
def py (s t:Tm):Bool:=s.k == t.k && s.i == t.i && decide (s.n.toList=t.n.toList) && decide (s.a.length=t.a.length)
def jE (sh:List (Int × Int)) (a b:Nat):List (Int × Int):=match aB sh (b:Int) with
 |some k=>(match aB sh (a:Int) with|some _=>sh|none=>fl sh a k)
 |none=>sh
def iZ (ls:List (Int × Int)) (a b:Nat):List (Int × Int):=match aB ls (b:Int) with
 |some v=>(match aB ls (a:Int) with|some w=>if v < w then fl ls a v else ls|none=>fl ls a v)
 |none=>ls
structure JS where
 up:List Nat
 sh:List (Int × Int)
 ls:List (Int × Int)
noncomputable def fO (N:bB):Nat->List (Nat × Nat)->JS->Option (Bool × JS)
 |0,_,_=>none
 |m+1,ps,s=>if 1099511627776 < ps.length then none else match ps.getLast? with
  |none=>some (true,s)
  |some p=>match iq s.up p.1 with
   |none=>none
   |some (u1,a)=>match iq u1 p.2 with
    |none=>none
    |some (u2,b)=>if a=b then fO N m ps.dropLast ⟨u2,s.sh,s.ls⟩ else
     match aB s.sh (a:Int),aB s.sh (b:Int) with
     |some i,some k=>match N[i.toNat]?,N[k.toNat]? with
      |some (t,l),some (t',l')=>if 0<=i/\0<=k then (if py t t' then (if l.length=l'.length then fO N m (ps.dropLast++l.zip l') ⟨u2.set b a,jE s.sh a b,iZ s.ls a b⟩ else none) else some (false,⟨u2,s.sh,s.ls⟩)) else none
      |_,_=>none
     |_,_=>fO N m ps.dropLast ⟨u2.set b a,jE s.sh a b,iZ s.ls a b⟩
def pz (N:bB) (c:Nat->Nat) (C:Nat):Option Int->Prop
 |none=>∀ j,j < N.length->c j=C->(tn N j).k ≠ 1
 |some v=>(∃ j,j < N.length/\c j=C/\(tn N j).k=1/\(tn N j).i=v)/\∀ j,j < N.length->c j=C->(tn N j).k=1->v<=(tn N j).i
structure nV (E:List (Tm × Tm)) (N:bB) (D:List (Nat × Nat)) (c:Nat->Nat) (ps:List (Nat × Nat)) (s:JS):Prop where
 gi:j8 E N D c ps
 uf:∃ h,UF s.up c h
 len:s.up.length=N.length
 pos:∀ C i,aB s.sh C=some i->0<=i
 vQ:∀ C,C < N.length->c C=C->g8 N c C (b9 s.sh C)
 aX:∀ C,C < N.length->c C=C->pz N c C (aB s.ls (C:Int))
 Ph:∀ C:Nat,N.length<=C->aB s.sh (C:Int)=none
 U7:∀ C:Nat,N.length<=C->aB s.ls (C:Int)=none
def ku (c:Nat->Nat):Nat->Nat
 |0=>0
 |n+1=>ku c n+if c n=n then 1 else 0
theorem FI {c d:Nat->Nat}(h:∀ i,d i=i->c i=i):∀ n,ku d n<=ku c n
 |0=>Nat.le_refl _
 |n+1=>by
  have:=FI h n;rw[ku,ku];by_cases e:d n=n
  ·grind
  ·grind
theorem FK {c d:Nat->Nat}(h:∀ i,d i=i->c i=i) {b:Nat}(hb:c b=b) (Bm:d b ≠ b):∀ n,b < n->ku d n < ku c n
 |0,h0=>by omega
 |n+1,h0=>by
  rw[ku,ku];by_cases e:b=n
  ·subst e;have:=FI h b;rw[if_pos hb,if_neg Bm];omega
  ·have:=FK h hb Bm n (by omega);by_cases e:d n=n
   ·grind
   ·grind
theorem C6 (c:Nat->Nat):∀ n,ku c n<=n
 |0=>Nat.le_refl _
 |n+1=>by
  have:=C6 c n;rw[ku];split<;>omega
theorem C7 {s t:Tm}:py s t=true ↔ alike s t:=by grind[O_,py,alike]
theorem H0 {c:Nat->Nat}{a b i:Nat}(uI:a ≠ b) (ca:c a=a):gm c a b i=i->c i=i:=by grind[gm]
theorem sW {N:bB}{i:Nat}(hi:i < N.length):N[i]?=some (tn N i,ks N i):=by grind[tn,ks]
def Pj:Option Nat->Option Nat->Option Nat
 |some i,_=>some i
 |none,y=>y
def EF:Option Int->Option Int->Option Int
 |some w,some v=>some (if v < w then v else w)
 |some w,none=>some w
 |none,x=>x
theorem YS {sh:List (Int × Int)}{a b C:Nat}(hC:C ≠ b) (uI:a ≠ b):b9 (jE sh a b) C=if C=a then Pj (b9 sh a) (b9 sh b) else b9 sh C:=by
 unfold b9 jE;by_cases e:C=a
 ·subst e;rw[if_pos rfl];cases hb:aB sh (b:Int) with
  |none=>cases ha:aB sh (C:Int)<;>simp[ha,Pj]
  |some k =>
   cases ha:aB sh (C:Int) with
   |none=>simp[cd,Pj]
   |some i=>simp[ha,Pj]
 ·rw[if_neg e];cases hb:aB sh (b:Int) with
  |none=>rfl
  |some k =>
   cases ha:aB sh (a:Int) with
   |none=>simp only[cd];rw[if_neg (by omega)]
   |some i=>rfl
theorem acs {ls:List (Int × Int)}{a b C:Nat}(hC:C ≠ b) (uI:a ≠ b):aB (iZ ls a b) (C:Int)=if C=a then EF (aB ls (a:Int)) (aB ls (b:Int)) else aB ls (C:Int):=by
 unfold iZ;by_cases e:C=a
 ·subst e;rw[if_pos rfl];cases hb:aB ls (b:Int) with
  |none=>cases ha:aB ls (C:Int)<;>simp[ha,EF]
  |some k =>
   cases ha:aB ls (C:Int) with
   |none=>simp[cd,EF]
   |some i =>
    simp only[EF];split
    ·grind[cd]
    ·grind
 ·rw[if_neg e];cases hb:aB ls (b:Int) with
  |none=>rfl
  |some k =>
   cases ha:aB ls (a:Int) with
   |none=>simp only[cd];rw[if_neg (by omega)]
   |some i =>
    simp only;split
    ·grind[cd]
    ·rfl
theorem g8.merge {N:bB}{c:Nat->Nat}{a b:Nat}{x y:Option Nat}(hx:g8 N c a x) (hy:g8 N c b y) (uI:a ≠ b):g8 N (gm c a b) a (Pj x y):=by
 cases x with
 |some i =>
  obtain⟨h1,h2,h3⟩:=hx;refine⟨h1,?_,h3⟩;unfold gm;rw[h2,if_neg uI]
 |none =>
  cases y with
  |some i =>
   obtain⟨h1,h2,h3⟩:=hy;refine⟨h1,?_,h3⟩;unfold gm;rw[h2,if_pos rfl]
  |none =>
   intro i hi e;unfold gm at e;split at e
   ·rename_i e';exact hy i hi e'
   ·exact hx i hi e
theorem pz.merge {N:bB}{c:Nat->Nat}{a b:Nat}{x y:Option Int}(hx:pz N c a x) (hy:pz N c b y) (uI:a ≠ b):pz N (gm c a b) a (EF x y):=by
 have ma:∀ j,c j=a->gm c a b j=a:=fun j e=>by grind[gm]
 have mb:∀ j,c j=b->gm c a b j=a:=fun j e=>by grind[gm]
 have mi:∀ j,gm c a b j=a->c j=a\/c j=b:=fun j e=>by grind[gm]
 cases x with
 |some w =>
  obtain⟨⟨j,j1,j2,j3,j4⟩,hw⟩:=hx;cases y with
  |some v =>
   obtain⟨⟨i,i1,i2,i3,i4⟩,hv⟩:=hy;simp only[EF];split
   ·refine⟨⟨i,i1,mb i i2,i3,i4⟩,fun q hq e hk=>?_⟩;rcases mi q e with e|e
    ·grind
    ·grind
   ·refine⟨⟨j,j1,ma j j2,j3,j4⟩,fun q hq e hk=>?_⟩;rcases mi q e with e|e
    ·grind
    ·grind
  |none =>
   refine⟨⟨j,j1,ma j j2,j3,j4⟩,fun q hq e hk=>?_⟩;rcases mi q e with e|e
   ·grind
   ·exact absurd hk (hy q hq e)
 |none =>
  cases y with
  |some v =>
   obtain⟨⟨i,i1,i2,i3,i4⟩,hv⟩:=hy;refine⟨⟨i,i1,mb i i2,i3,i4⟩,fun q hq e hk=>?_⟩;rcases mi q e with e|e
   ·exact absurd hk (hx q hq e)
   ·grind
  |none =>
   intro q hq e;rcases mi q e with e|e
   ·exact hx q hq e
   ·exact hy q hq e
theorem yX {c:Nat->Nat}{a b C:Nat}(hC:C ≠ a) (hb:C ≠ b) (j:Nat):gm c a b j=C ↔ c j=C:=by grind[gm]
theorem g8.other {N:bB}{c:Nat->Nat}{a b C:Nat}(hC:C ≠ a) (hb:C ≠ b) {x:Option Nat}(h:g8 N c C x):g8 N (gm c a b) C x:=by
 cases x with
 |some i=>exact⟨h.1,(yX hC hb i).2 h.2.1,h.2.2⟩
 |none=>exact fun i hi e=>h i hi ((yX hC hb i).1 e)
theorem pz.other {N:bB}{c:Nat->Nat}{a b C:Nat}(hC:C ≠ a) (hb:C ≠ b) {x:Option Int}(h:pz N c C x):pz N (gm c a b) C x:=by
 cases x with
 |some v =>
  obtain⟨⟨j,j1,j2,j3,j4⟩,hw⟩:=h;exact⟨⟨j,j1,(yX hC hb j).2 j2,j3,j4⟩,fun q hq e=>hw q hq ((yX hC hb q).1 e)⟩
 |none=>exact fun i hi e=>h i hi ((yX hC hb i).1 e)
section
variable {E:List (Tm × Tm)}{N:bB}{D:List (Nat × Nat)}{c:Nat->Nat}{ps:List (Nat × Nat)}{s:JS}
theorem nV.merge {x y a b:Nat}{P':List (Nat × Nat)}(h:nV E N D c (ps++[(x,y)]) s) (ea:a=c x) (eb:b=c y) (uI:a ≠ b) (hP:∀ p,p ∈ P' ↔ p ∈ mS N (b9 s.sh a) (b9 s.sh b)++ps)
  (aK:∀ i j,b9 s.sh a=some i->b9 s.sh b=some j->alike (tn N i) (tn N j)) {u:List Nat}(hu:∃ h,UF u c h) (hl:u.length=N.length):nV E N D (gm c a b) P' ⟨u.set b a,jE s.sh a b,iZ s.ls a b⟩:=by
 obtain⟨hx,hy,_⟩:=h.gi.mP (x,y) (by simp);simp only at hx hy;obtain⟨hh,hU⟩:=hu;have la:a < N.length:=by rw[ea,<-hl];exact (hU.rt x (by omega)).2
 have lb:b < N.length:=by rw[eb,<-hl];exact (hU.rt y (by omega)).2
 have ca:c a=a:=by rw[ea];exact hU.cc (by omega)
 have cb:c b=b:=by rw[eb];exact hU.cc (by omega)
 have sa:=h.vQ a la ca;have sb:=h.vQ b lb cb;have g1:j8 E N D c ((x,y)::ps):=h.gi.perm fun p=>by grind
 have g2:=g1.merge (sa:=b9 s.sh a) (sb:=b9 s.sh b) (by grind) (by grind) aK;rw[<-ea,<-eb] at g2;refine⟨g2.perm hP,⟨_,hU.merge (by omega) (by omega) ca cb uI⟩,by grind,fun C i hi=>?_,fun C hC e=>?_,fun C hC e=>?_,fun C hC=>?_,fun C hC=>?_⟩
 ·unfold jE at hi;cases e1:aB s.sh (b:Int) with
  |none=>rw[e1] at hi;exact h.pos C i hi
  |some k =>
   rw[e1] at hi;cases e2:aB s.sh (a:Int) with
   |some j=>rw[e2] at hi;exact h.pos C i hi
   |none =>
    rw[e2] at hi;simp only[cd] at hi;split at hi
    ·obtain rfl:=oJ_ hi;exact h.pos _ _ e1
    ·exact h.pos C i hi
 ·have Pk:C ≠ b:=fun e'=>by grind[gm]
  show g8 _ _ _ (b9 (jE s.sh a b) C);rw[YS Pk uI];split
  ·rename_i e';subst e';exact sa.merge sb uI
  ·rename_i e';exact (h.vQ C hC (H0 uI ca e)).other e' Pk
 ·have Pk:C ≠ b:=fun e'=>by grind[gm]
  show pz _ _ _ (aB (iZ s.ls a b) (C:Int));rw[acs Pk uI];split
  ·rename_i e';subst e';exact (h.aX C la ca).merge (h.aX b lb cb) uI
  ·rename_i e';exact (h.aX C hC (H0 uI ca e)).other e' Pk
 ·have h0:=h.Ph C hC;show aB (jE s.sh a b) (C:Int)=none;unfold jE;split
  ·grind[cd]
  ·grind
 ·have h0:=h.U7 C hC;show aB (iZ s.ls a b) (C:Int)=none;unfold iZ;split
  ·grind[cd]
  ·grind
theorem yY {α:Type}:∀ (l:List α),l=[]\/∃ l0 x,l=l0++[x]
 |[]=>.inl rfl
 |x::l=>.inr (by
  rcases yY l with rfl|⟨l0,y,rfl⟩
  ·exact⟨[],x,rfl⟩
  ·exact⟨x::l0,y,rfl⟩)
theorem WA {K:Nat}(hK:∀ i,i < N.length->(ks N i).length<=K) (n m:Nat):∀ {c:Nat->Nat}{ps:List (Nat × Nat)}{s:JS},ku c N.length=n->ps.length=m->m+K*n<=1099511627776->nV E N D c ps s ->
  ∃ f b s',fO N f ps s=some (b,s')/\(b=true->∃ c',nV E N D c' [] s')/\(b=false->¬ ∃ f,uG E f):=by
 induction n using Nat.strongRecOn generalizing m with
 |ind n YT =>
  induction m with
  |zero =>
   intro c ps s hn hm hX h;obtain rfl:=List.length_eq_zero_iff.1 hm;exact⟨1,true,s,rfl,fun _=>⟨c,h⟩,fun e=>by grind⟩
  |succ m ihm =>
   intro c ps s hn hm hX h;rcases yY ps with rfl|⟨p0,p,rfl⟩
   ·grind
   ·rw[List.length_append,List.length_singleton] at hm;obtain⟨x,y⟩:=p;obtain⟨hx,hy,kr⟩:=h.gi.mP (x,y) (by simp);simp only at hx hy kr;obtain⟨hh,hU⟩:=h.uf;have hl:=h.len;obtain⟨u1,r1,Bn,l1⟩:=hU.iq (k:=x) (by omega);obtain⟨u2,r2,uJ,l2⟩:=Bn.iq (k:=y) (by omega);have g1:j8 E N D c ((x,y)::p0):=h.gi.perm fun p=>by grind
    have e0:∀ f,fO N (f+1) (p0++[(x,y)]) s=if c x=c y then fO N f p0 ⟨u2,s.sh,s.ls⟩ else
     match aB s.sh (c x:Int),aB s.sh (c y:Int) with
     |some i,some k=>match N[i.toNat]?,N[k.toNat]? with
      |some (t,l),some (t',l')=>if 0<=i/\0<=k then (if py t t' then (if l.length=l'.length then fO N f (p0++l.zip l') ⟨u2.set (c y) (c x),jE s.sh (c x) (c y),iZ s.ls (c x) (c y)⟩ else none) else some (false,⟨u2,s.sh,s.ls⟩)) else none
      |_,_=>none
     |_,_=>fO N f p0 ⟨u2.set (c y) (c x),jE s.sh (c x) (c y),iZ s.ls (c x) (c y)⟩:=fun f=>by
     rw[fO,if_neg (by grind)];simp only[List.getLast?_append,List.getLast?_singleton,Option.some_or,r1,r2,List.dropLast_concat]
    by_cases e:c x=c y
    ·have h2:nV E N D c p0 ⟨u2,s.sh,s.ls⟩:=⟨g1.pop e,⟨hh,uJ⟩,by grind,h.pos,h.vQ,h.aX,h.Ph,h.U7⟩;obtain⟨f,b,s',k1,k2⟩:=ihm hn (by omega) (by omega) h2;exact⟨f+1,b,s',by grind,k2⟩
    ·have la:c x < N.length:=by have:=(hU.rt x (by omega)).2;omega
     have lb:c y < N.length:=by have:=(hU.rt y (by omega)).2;omega
     have ca:c (c x)=c x:=hU.cc (by omega);have cb:c (c y)=c y:=hU.cc (by omega);have sa:=h.vQ _ la ca;have sb:=h.vQ _ lb cb;have aA:ku (gm c (c x) (c y)) N.length < n:=by
      rw[<-hn];refine FK (fun i=>H0 e ca) cb (fun e'=>?_) _ lb;unfold gm at e';rw[cb,if_pos rfl] at e';exact e e'
     have hmul:K*ku (gm c (c x) (c y)) N.length+K<=K*n:=by rw[<-Nat.mul_succ];exact Nat.mul_le_mul_left K aA
     have YU:∃ h,UF u2 c h:=⟨hh,uJ⟩;cases e1:aB s.sh (c x:Int) with
     |none =>
      have f1:b9 s.sh (c x)=none:=by grind[b9]
      have h2:=h.merge rfl rfl e (P':=p0) (fun p=>by grind[mS]) (fun i j hi=>by grind) YU (by omega);obtain⟨f,b,s',k1,k2⟩:=YT _ aA p0.length rfl rfl (by omega) h2;exact⟨f+1,b,s',by grind,k2⟩
     |some i =>
      cases e2:aB s.sh (c y:Int) with
      |none =>
       have f1:b9 s.sh (c y)=none:=by grind[b9]
       have h2:=h.merge rfl rfl e (P':=p0) (fun p=>by grind[b9,mS]) (fun i j _ hj=>by grind) YU (by omega);obtain⟨f,b,s',k1,k2⟩:=YT _ aA p0.length rfl rfl (by omega) h2;exact⟨f+1,b,s',by grind,k2⟩
      |some k =>
       have f1:b9 s.sh (c x)=some i.toNat:=by grind[b9]
       have f2:b9 s.sh (c y)=some k.toNat:=by grind[b9]
       rw[f1] at sa;rw[f2] at sb;obtain⟨YV,sa2,sa3⟩:=sa;obtain⟨YW,sb2,sb3⟩:=sb;have hp:0<=i/\0<=k:=⟨h.pos _ _ e1,h.pos _ _ e2⟩;cases e3:py (tn N i.toNat) (tn N k.toNat) with
       |false =>
        refine⟨1,false,⟨u2,s.sh,s.ls⟩,?_,fun e=>(by grind),fun _=>?_⟩
        ·grind[sW]
        ·exact g1.acp (s:=i.toNat) (t:=k.toNat) ⟨YV,sa2,sa3⟩ ⟨YW,sb2,sb3⟩ fun h=>by rw[C7.2 h] at e3;cases e3
       |true =>
        have aK:=C7.1 e3;have hlen:(ks N i.toNat).length=(ks N k.toNat).length:=by rw[mh h.gi.g YV,mh h.gi.g YW,aK.2.2.2]
        have h2:=h.merge rfl rfl e (P':=p0++(ks N i.toNat).zip (ks N k.toNat)) (fun p=>by grind[mS,Hb]) (fun i' j' hi hj=>by grind) YU (by omega);obtain⟨f,b,s',k1,k2⟩:=YT _ aA _ rfl rfl (by grind) h2;refine⟨f+1,b,s',?_,k2⟩;rw[e0,if_neg e,e1,e2];simp only[sW YV,sW YW,if_pos hp,e3,if_true,if_pos hlen];exact k1
end
end
section
open Go.Shelf
def Tryz.FL:Go.Shelf.Ren:=⟨fun|7=>200|10=>237|n=>n,fun|23=>239|26=>3|3=>3|28=>234|0=>0|27=>233|33=>131|4=>4|n=>n,fun|n=>n⟩
theorem Tryz.acu:Go.Proofs.SlLaysZI.n7 Tryz.prog Tryz.FL:={
 mixed:=by kernel_rfl
 f7:=⟨Tryz.f200.name,by decide,Tryz.func200.trans (congrArg some (by kernel_rfl))⟩
 f10:=⟨Tryz.f237.name,by decide,Tryz.func237.trans (congrArg some (by kernel_rfl))⟩
 t0:=Tryz.underlying0
 a0:=Tryz.isAgg0
 z0:=Tryz.sizeOf0
 v0:=Tryz.zeroValue0
 t4:=Tryz.underlying4
 a4:=Tryz.isAgg4
 z4:=Tryz.sizeOf4
 v4:=Tryz.zeroValue4
 t23:=Tryz.underlying239
 a23:=Tryz.isAgg239
 z23:=Tryz.sizeOf239
 v23:=Tryz.zeroValue239
 t26:=Tryz.underlying3
 a26:=Tryz.isAgg3
 z26:=Tryz.sizeOf3
 v26:=Tryz.zeroValue3
 t27:=Tryz.underlying233
 a27:=Tryz.isAgg233
 z27:=Tryz.sizeOf233
 v27:=Tryz.zeroValue233
 t28:=Tryz.underlying234
 a28:=Tryz.isAgg234
 z28:=Tryz.sizeOf234
 v28:=Tryz.zeroValue234
 t33:=Tryz.underlying131
 a33:=Tryz.isAgg131
 z33:=Tryz.sizeOf131
 v33:=Tryz.zeroValue131 }
def Tryz.Bo:Go.Shelf.Ren:=⟨fun|6=>199|8=>235|9=>236|11=>260|13=>262|12=>261|23=>284|24=>285|14=>275|15=>276|16=>277|17=>278|18=>279|19=>280|20=>281|21=>282|22=>283|25=>290|26=>291|27=>292|28=>293|29=>294|30=>248|31=>307|n=>n,fun|26=>3|28=>234|24=>41|0=>0|3=>3|37=>290|48=>307|50=>309|4=>4|40=>301|39=>300|45=>245|5=>5|9=>9|51=>316|55=>320|57=>325|58=>326|33=>131|n=>n,fun|n=>n⟩
theorem Tryz.WB:Go.Proofs.SlLaysZI.n6 Tryz.prog Tryz.Bo:={
 mixed:=by kernel_rfl
 f6:=⟨Tryz.f199.name,by decide,Tryz.func199.trans (congrArg some (by kernel_rfl))⟩
 f8:=⟨Tryz.f235.name,by decide,Tryz.func235.trans (congrArg some (by kernel_rfl))⟩
 f11:=⟨Tryz.f260.name,by decide,Tryz.func260.trans (congrArg some (by kernel_rfl))⟩
 t0:=Tryz.underlying0
 a0:=Tryz.isAgg0
 z0:=Tryz.sizeOf0
 v0:=Tryz.zeroValue0
 t24:=Tryz.underlying41
 a24:=Tryz.isAgg41
 z24:=Tryz.sizeOf41
 v24:=Tryz.zeroValue41
 t26:=Tryz.underlying3
 a26:=Tryz.isAgg3
 z26:=Tryz.sizeOf3
 v26:=Tryz.zeroValue3
 t28:=Tryz.underlying234
 a28:=Tryz.isAgg234
 z28:=Tryz.sizeOf234
 v28:=Tryz.zeroValue234
 i26:=by kernel_rfl }
def Tryz.Pl:Go.Shelf.Ren:=⟨fun|5=>236|8=>262|7=>261|19=>284|20=>285|10=>275|11=>276|12=>277|13=>278|14=>279|15=>280|16=>281|17=>282|18=>283|30=>290|31=>291|32=>292|33=>293|34=>294|35=>248|40=>307|n=>n,fun|23=>41|25=>3|3=>3|32=>290|22=>41|0=>0|44=>307|46=>309|4=>4|36=>301|35=>300|41=>245|5=>5|9=>9|53=>316|57=>320|63=>325|64=>326|n=>n,fun|n=>n⟩
theorem Tryz.U8:Go.Proofs.SlLaysM.n5 Tryz.prog Tryz.Pl:={
 mixed:=by kernel_rfl
 f5:=⟨Tryz.f236.name,by decide,Tryz.func236.trans (congrArg some (by kernel_rfl))⟩
 f7:=⟨Tryz.f261.name,by decide,Tryz.func261.trans (congrArg some (by kernel_rfl))⟩
 f8:=Tryz.func262.trans (congrArg some (by kernel_rfl))
 f10:=⟨Tryz.f275.name,by decide,Tryz.func275.trans (congrArg some (by kernel_rfl))⟩
 f11:=⟨Tryz.f276.name,by decide,Tryz.func276.trans (congrArg some (by kernel_rfl))⟩
 f12:=⟨Tryz.f277.name,by decide,Tryz.func277.trans (congrArg some (by kernel_rfl))⟩
 f13:=⟨Tryz.f278.name,by decide,Tryz.func278.trans (congrArg some (by kernel_rfl))⟩
 f14:=⟨Tryz.f279.name,by decide,Tryz.func279.trans (congrArg some (by kernel_rfl))⟩
 f15:=⟨Tryz.f280.name,by decide,Tryz.func280.trans (congrArg some (by kernel_rfl))⟩
 f16:=⟨Tryz.f281.name,by decide,Tryz.func281.trans (congrArg some (by kernel_rfl))⟩
 f17:=⟨Tryz.f282.name,by decide,Tryz.func282.trans (congrArg some (by kernel_rfl))⟩
 f18:=⟨Tryz.f283.name,by decide,Tryz.func283.trans (congrArg some (by kernel_rfl))⟩
 f19:=Tryz.func284.trans (congrArg some (by kernel_rfl))
 f20:=Tryz.func285.trans (congrArg some (by kernel_rfl))
 f30:=⟨Tryz.f290.name,by decide,Tryz.func290.trans (congrArg some (by kernel_rfl))⟩
 f31:=Tryz.func291.trans (congrArg some (by kernel_rfl))
 f32:=Tryz.func292.trans (congrArg some (by kernel_rfl))
 f33:=⟨Tryz.f293.name,by decide,Tryz.func293.trans (congrArg some (by kernel_rfl))⟩
 f34:=⟨Tryz.f294.name,by decide,Tryz.func294.trans (congrArg some (by kernel_rfl))⟩
 f35:=⟨Tryz.f248.name,by decide,Tryz.func248.trans (congrArg some (by kernel_rfl))⟩
 f40:=⟨Tryz.f307.name,by decide,Tryz.func307.trans (congrArg some (by kernel_rfl))⟩
 t0:=Tryz.underlying0
 a0:=Tryz.isAgg0
 z0:=Tryz.sizeOf0
 v0:=Tryz.zeroValue0
 t3:=Tryz.underlying3
 a3:=Tryz.isAgg3
 z3:=Tryz.sizeOf3
 v3:=Tryz.zeroValue3
 t4:=Tryz.underlying4
 a4:=Tryz.isAgg4
 z4:=Tryz.sizeOf4
 v4:=Tryz.zeroValue4
 t5:=Tryz.underlying5
 a5:=Tryz.isAgg5
 z5:=Tryz.sizeOf5
 v5:=Tryz.zeroValue5
 t9:=Tryz.underlying9
 a9:=Tryz.isAgg9
 z9:=Tryz.sizeOf9
 v9:=Tryz.zeroValue9
 t22:=Tryz.underlying41
 a22:=Tryz.isAgg41
 z22:=Tryz.sizeOf41
 v22:=Tryz.zeroValue41
 t23:=Tryz.underlying41
 a23:=Tryz.isAgg41
 z23:=Tryz.sizeOf41
 v23:=Tryz.zeroValue41
 t25:=Tryz.underlying3
 a25:=Tryz.isAgg3
 z25:=Tryz.sizeOf3
 v25:=Tryz.zeroValue3
 t32:=Tryz.underlying290
 a32:=Tryz.isAgg290
 z32:=Tryz.sizeOf290
 v32:=Tryz.zeroValue290
 t35:=Tryz.underlying300
 a35:=Tryz.isAgg300
 z35:=Tryz.sizeOf300
 v35:=Tryz.zeroValue300
 t36:=Tryz.underlying301
 a36:=Tryz.isAgg301
 z36:=Tryz.sizeOf301
 v36:=Tryz.zeroValue301
 t41:=Tryz.underlying245
 a41:=Tryz.isAgg245
 z41:=Tryz.sizeOf245
 v41:=Tryz.zeroValue245
 t44:=Tryz.underlying307
 a44:=Tryz.isAgg307
 z44:=Tryz.sizeOf307
 v44:=Tryz.zeroValue307
 t46:=Tryz.underlying309
 a46:=Tryz.isAgg309
 z46:=Tryz.sizeOf309
 v46:=Tryz.zeroValue309
 t53:=Tryz.underlying316
 a53:=Tryz.isAgg316
 z53:=Tryz.sizeOf316
 v53:=Tryz.zeroValue316
 t57:=Tryz.underlying320
 a57:=Tryz.isAgg320
 z57:=Tryz.sizeOf320
 v57:=Tryz.zeroValue320
 t63:=Tryz.underlying325
 a63:=Tryz.isAgg325
 z63:=Tryz.sizeOf325
 v63:=Tryz.zeroValue325
 t64:=Tryz.underlying326
 a64:=Tryz.isAgg326
 z64:=Tryz.sizeOf326
 v64:=Tryz.zeroValue326 }
end
end Go.Proofs.YtbpabjmnhggajaaGreat
