import Derived.Test.YtgjfgekaclobaaaGreatProg
import Derived.Test.YtgjfgekaclobaaaGreatCm22
namespace Go.Proofs.YtgjfgekaclobaaaGreat
set_option linter.unusedVariables false
set_option linter.unusedSimpArgs false
open Go.RowKit
section
set_option maxRecDepth 100000
attribute [local irreducible] av aE ad ab
def Zo:Nat:=1099511627776
mutual
def Tm.ok:Tm->Prop
 |⟨k,i,n,a⟩=>a.length<=Zo/\n.size<=Zo/\sr a
def sr:List Tm->Prop
 |[]=>True
 |x::l=>x.ok/\sr l
end
theorem sr.mem:∀ {l:List Tm},sr l->∀ x ∈ l,x.ok
 |[],_,x,h=>by cases h
 |y::l,hk,x,h=>by
  rw [sr] at hk
  rcases List.mem_cons.1 h with rfl|h
  ·exact hk.1
  ·exact hk.2.mem x h
theorem Tm.ok.out {t:Tm}(h:t.ok):t.a.length<=1099511627776/\t.n.size<=1099511627776/\sr t.a:=by
 obtain⟨k,i,n,a⟩:=t
 rw [Tm.ok] at h
 exact h
section
variable {w0:World}{ρ:Hd}
set_option maxRecDepth 100000
theorem vw {S:aa}{a b:Int}(h:a=b):bX S (.v (.int .i64 a)) (iv b):=by subst h;exact bX.refl _
theorem su {S:aa}{a b:Bool}(h:a=b):bX S (.v (.bool a)) (.v (.bool b)):=by subst h;exact bX.refl _
end
end
section
set_option maxRecDepth 100000
attribute [local irreducible] av aE ad ab
theorem oA {T:Type}{l:List T}{k:Nat}(h:k < l.length):∃ x,l[k]?=some x/\l.drop k=x::l.drop (k+1):=⟨l[k],List.getElem?_eq_getElem h,List.drop_eq_getElem_cons h⟩
theorem BF {T:Type}{l:List T}{k:Nat}{x:T}(h:l[k]?=some x):x ∈ l:=List.mem_of_getElem? h
end
section
set_option maxRecDepth 100000
attribute [local irreducible] av aE ad ab
section
variable {w0:World}{ρ:Hd}
def At.ok (x:At):Prop:=x.a.length<=1099511627776/\sr x.a
def Gl.ok (x:Gl):Prop:=x.a.length<=1099511627776/\sr x.a
end
end
section
def ez:Nat->List Nat->Nat->Option (List Nat × Nat)
 |0,_,_=>none
 |m+1,up,k=>match up[k]? with
  |none=>none
  |some p=>if p=k then some (up,k) else match up[p]? with
   |none=>none
   |some q=>ez m (up.set k q) q
theorem xy:∀ {m:Nat}{up:List Nat}{k:Nat}{r:List Nat × Nat},ez m up k=some r->ez (m+1) up k=some r
 |0,_,_,_,h=>by cases h
 |m+1,up,k,r,h=>by
  rw [ez] at h
  rw [ez]
  split at h
  ·cases h
  ·rename_i p hp
   split at h
   ·rename_i e;simp only [hp,if_pos e];exact h
   ·rename_i e
    split at h
    ·cases h
    ·rename_i q hq
     simp only [hp,if_neg e,hq]
     exact xy h
theorem BG {m m':Nat}{up:List Nat}{k:Nat}{r:List Nat × Nat}(h:ez m up k=some r) (hm:m<=m'):ez m' up k=some r:=by
 induction hm with
 |refl=>exact h
 |step _ ih=>exact xy ih
theorem Jm {m m':Nat}{up:List Nat}{k:Nat}{r r':List Nat × Nat}(h:ez m up k=some r) (h':ez m' up k=some r'):r=r':=by
 have h1:=BG h (Nat.le_max_left m m')
 have h2:=BG h' (Nat.le_max_right m m')
 rw [h1] at h2
 exact Option.some.inj h2
open Classical in
noncomputable def fa (up:List Nat) (k:Nat):Option (List Nat × Nat):=if h:∃ p:Nat × (List Nat × Nat),ez p.1 up k=some p.2 then some h.choose.2 else none
theorem K8 {m:Nat}{up:List Nat}{k:Nat}{r:List Nat × Nat}(h:ez m up k=some r):fa up k=some r:=by
 have hx:∃ p:Nat × (List Nat × Nat),ez p.1 up k=some p.2:=⟨(m,r),h⟩
 unfold fa
 rw [dif_pos hx,Jm hx.choose_spec h]
theorem rK {up:List Nat}{k:Nat}{r:List Nat × Nat}(h:fa up k=some r):∃ m,ez m up k=some r:=by
 unfold fa at h
 split at h
 ·rename_i hx
  obtain rfl:=Option.some.inj h
  exact⟨_,hx.choose_spec⟩
 ·cases h
def eZ (up:List Nat) (i:Nat):Nat:=(up[i]?).getD i
structure UF (up:List Nat) (c h:Nat->Nat):Prop where
 lt:∀ i,i < up.length->eZ up i < up.length
 rt:∀ i,i < up.length->eZ up (c i)=c i/\c i < up.length
 st:∀ i,i < up.length->c (eZ up i)=c i
 fx:∀ i,i < up.length->eZ up i=i->c i=i
 ht:∀ i,i < up.length->eZ up i ≠ i->h (eZ up i) < h i
theorem BH {up:List Nat}{i:Nat}(hi:i < up.length):up[i]?=some (eZ up i):=by unfold eZ;rw [List.getElem?_eq_getElem hi];rfl
theorem jC {up:List Nat}{k v:Nat}(hk:k < up.length) (i:Nat):eZ (up.set k v) i=if i=k then v else eZ up i:=by
 unfold eZ
 rw [List.getElem?_set]
 by_cases e:k=i
 ·subst e;simp [hk]
 ·rw [if_neg e,if_neg (Ne.symm e)]
theorem UF.cc {up:List Nat}{c h:Nat->Nat}(hU:UF up c h) {i:Nat}(hi:i < up.length):c (c i)=c i:=hU.fx _ (hU.rt i hi).2 (hU.rt i hi).1
theorem UF.half {up:List Nat}{c h:Nat->Nat}(hU:UF up c h) {k:Nat}(hk:k < up.length):UF (up.set k (eZ up (eZ up k))) c h:=by
 have h1:=hU.lt k hk
 have h2:=hU.lt _ h1
 refine⟨fun i hi=>?_,fun i hi=>?_,fun i hi=>?_,fun i hi e=>?_,fun i hi e=>?_⟩
 all_goals rw [List.length_set] at hi
 ·rw [jC hk,List.length_set]
  split
  ·exact h2
  ·exact hU.lt i hi
 ·rw [jC hk,List.length_set]
  obtain⟨r1,r2⟩:=hU.rt i hi
  refine⟨?_,r2⟩
  split
  ·rename_i e
   rw [<-e,r1,r1]
  ·exact r1
 ·rw [jC hk]
  split
  ·rename_i e
   subst e
   rw [hU.st _ h1,hU.st _ hi]
  ·exact hU.st i hi
 ·rw [jC hk] at e
  split at e
  ·rename_i e'
   subst e'
   by_cases e1:eZ up i=i
   ·exact hU.fx i hi e1
   ·have h3:=hU.ht i hi e1
    by_cases e2:eZ up (eZ up i)=eZ up i
    ·exact absurd (e2.symm.trans e) e1
    ·have h4:=hU.ht _ h1 e2
     rw [e] at h4
     omega
  ·exact hU.fx i hi e
 ·rw [jC hk] at e ⊢
  split at e
  ·rename_i e'
   rw [if_pos e']
   subst e'
   by_cases e1:eZ up i=i
   ·exact absurd (by rw [e1,e1]) e
   ·have h3:=hU.ht i hi e1
    by_cases e2:eZ up (eZ up i)=eZ up i
    ·rw [e2];exact h3
    ·have h4:=hU.ht _ h1 e2
     omega
  ·rename_i e'
   rw [if_neg e']
   exact hU.ht i hi e
theorem UF.root {c h:Nat->Nat}:∀ (H:Nat) {up:List Nat}{k:Nat},UF up c h->k < up.length->h k < H->∃ m cw,ez m up k=some (cw,c k)/\UF cw c h/\cw.length=up.length
 |0,_,_,_,_,hH=>by omega
 |H+1,up,k,hU,hk,hH=>by
  by_cases e:eZ up k=k
  ·refine⟨1,up,?_,hU,rfl⟩
   rw [ez,BH hk]
   simp only [if_pos e,hU.fx k hk e]
  ·have h1:=hU.lt k hk
   have h2:=hU.lt _ h1
   have h3:=hU.ht k hk e
   have h4:h (eZ up (eZ up k)) < H:=by
    by_cases e2:eZ up (eZ up k)=eZ up k
    ·rw [e2];omega
    ·have:=hU.ht _ h1 e2;omega
   obtain⟨m,cw,h5,h6,h7⟩:=UF.root H (hU.half hk) (by rw [List.length_set];exact h2) h4
   refine⟨m+1,cw,?_,h6,by rw [h7,List.length_set]⟩
   rw [ez,BH hk]
   simp only [if_neg e,BH h1,h5,hU.st _ h1,hU.st _ hk]
theorem UF.fa {up:List Nat}{c h:Nat->Nat}(hU:UF up c h) {k:Nat}(hk:k < up.length):∃ cw,fa up k=some (cw,c k)/\UF cw c h/\cw.length=up.length:=by
 obtain⟨m,cw,h1,h2,h3⟩:=UF.root _ hU hk (Nat.lt_succ_self _)
 exact⟨cw,K8 h1,h2,h3⟩
theorem UF.merge {up:List Nat}{c h:Nat->Nat}(hU:UF up c h) {a b:Nat}(ha:a < up.length) (hb:b < up.length) (ca:c a=a) (cb:c b=b) (lh:a ≠ b):UF (up.set b a) (eh c a b) (fun i=>if c i=b then h i+h a+1 else h i):=by
 have ra:eZ up a=a:=by have:=(hU.rt a ha).1;rwa [ca] at this
 refine⟨fun i hi=>?_,fun i hi=>?_,fun i hi=>?_,fun i hi e=>?_,fun i hi e=>?_⟩
 all_goals rw [List.length_set] at hi
 ·rw [jC hb,List.length_set]
  split
  ·exact ha
  ·exact hU.lt i hi
 ·rw [jC hb,List.length_set]
  by_cases e:c i=b
  ·rw [show eh c a b i=a from if_pos e,if_neg lh]
   exact⟨ra,ha⟩
  ·rw [show eh c a b i=c i from if_neg e,if_neg e]
   exact hU.rt i hi
 ·rw [jC hb]
  unfold eh
  split
  ·rename_i e
   subst e
   rw [ca,if_neg lh,if_pos cb]
  ·rw [hU.st i hi]
 ·rw [jC hb] at e
  unfold eh
  split at e
  ·rename_i e'
   exact absurd (e.trans e') lh
  ·rename_i e'
   have:=hU.fx i hi e
   rw [this,if_neg e']
 ·rw [jC hb] at e ⊢
  split at e
  ·rename_i e'
   subst e'
   have e1:(if i=i then a else eZ up i)=a:=if_pos rfl
   rw [e1]
   show (if c a=i then _ else h a) < (if c i=i then h i+h a+1 else _)
   rw [ca,if_neg lh,if_pos cb]
   omega
  ·rename_i e'
   have:=hU.ht i hi e
   simp only [if_neg e',hU.st i hi]
   split<;>omega
def bp (sh:List (Int × Int)) (C:Nat):Option Nat:=(ao sh (C:Int)).map Int.toNat
def mf (s t:Tm):Bool:=s.k == t.k && s.i == t.i && decide (s.n.toList=t.n.toList) && decide (s.a.length=t.a.length)
def gy (sh:List (Int × Int)) (a b:Nat):List (Int × Int):=match ao sh (b:Int) with
 |some k=>(match ao sh (a:Int) with|some _=>sh|none=>ee sh a k)
 |none=>sh
def fV (ls:List (Int × Int)) (a b:Nat):List (Int × Int):=match ao ls (b:Int) with
 |some v=>(match ao ls (a:Int) with|some w=>if v < w then ee ls a v else ls|none=>ee ls a v)
 |none=>ls
structure JS where
 up:List Nat
 sh:List (Int × Int)
 ls:List (Int × Int)
noncomputable def ec (N:aU):Nat->List (Nat × Nat)->JS->Option (Bool × JS)
 |0,_,_=>none
 |m+1,ps,s=>if 1099511627776 < ps.length then none else match ps.getLast? with
  |none=>some (true,s)
  |some p=>match fa s.up p.1 with
   |none=>none
   |some (u1,a)=>match fa u1 p.2 with
    |none=>none
    |some (u2,b)=>if a=b then ec N m ps.dropLast ⟨u2,s.sh,s.ls⟩ else
     match ao s.sh (a:Int),ao s.sh (b:Int) with
     |some i,some k=>match N[i.toNat]?,N[k.toNat]? with
      |some (t,l),some (t',l')=>if 0<=i/\0<=k then (if mf t t' then (if l.length=l'.length then ec N m (ps.dropLast++l.zip l') ⟨u2.set b a,gy s.sh a b,fV s.ls a b⟩ else none) else some (false,⟨u2,s.sh,s.ls⟩)) else none
      |_,_=>none
     |_,_=>ec N m ps.dropLast ⟨u2.set b a,gy s.sh a b,fV s.ls a b⟩
def mg (N:aU) (c:Nat->Nat) (C:Nat):Option Int->Prop
 |none=>∀ j,j < N.length->c j=C->(tn N j).k ≠ 1
 |some v=>(∃ j,j < N.length/\c j=C/\(tn N j).k=1/\(tn N j).i=v)/\∀ j,j < N.length->c j=C->(tn N j).k=1->v<=(tn N j).i
structure kT (E:List (Tm × Tm)) (N:aU) (D:List (Nat × Nat)) (c:Nat->Nat) (ps:List (Nat × Nat)) (s:JS):Prop where
 gi:gT E N D c ps
 uf:∃ h,UF s.up c h
 len:s.up.length=N.length
 pos:∀ C i,ao s.sh C=some i->0<=i
 qG:∀ C,C < N.length->c C=C->eS N c C (bp s.sh C)
 dw:∀ C,C < N.length->c C=C->mg N c C (ao s.ls (C:Int))
 NO:∀ C:Nat,N.length<=C->ao s.sh (C:Int)=none
 NP:∀ C:Nat,N.length<=C->ao s.ls (C:Int)=none
def im (c:Nat->Nat):Nat->Nat
 |0=>0
 |n+1=>im c n+if c n=n then 1 else 0
theorem zM {c d:Nat->Nat}(h:∀ i,d i=i->c i=i):∀ n,im d n<=im c n
 |0=>Nat.le_refl _
 |n+1=>by
  have:=zM h n
  rw [im,im]
  by_cases e:d n=n
  ·rw [if_pos e,if_pos (h n e)];omega
  ·rw [if_neg e];omega
theorem zN {c d:Nat->Nat}(h:∀ i,d i=i->c i=i) {b:Nat}(hb:c b=b) (sW:d b ≠ b):∀ n,b < n->im d n < im c n
 |0,h0=>by omega
 |n+1,h0=>by
  rw [im,im]
  by_cases e:b=n
  ·subst e
   have:=zM h b
   rw [if_pos hb,if_neg sW]
   omega
  ·have:=zN h hb sW n (by omega)
   by_cases e:d n=n
   ·rw [if_pos e,if_pos (h n e)];omega
   ·rw [if_neg e];omega
theorem xz (c:Nat->Nat):∀ n,im c n<=n
 |0=>Nat.le_refl _
 |n+1=>by
  have:=xz c n
  rw [im]
  split<;>omega
theorem xA {s t:Tm}:mf s t=true ↔ alike s t:=by
 have hb:s.n.toList=t.n.toList ↔ s.n=t.n:=Ji
 unfold mf alike
 simp only [Bool.and_eq_true,beq_iff_eq,decide_eq_true_eq,hb,and_assoc]
theorem BI {c:Nat->Nat}{a b i:Nat}(lh:a ≠ b) (ca:c a=a):eh c a b i=i->c i=i:=by
 unfold eh
 split
 ·rename_i e
  intro e2
  subst e2
  exact ca
 ·exact id
theorem mW {N:aU}{i:Nat}(hi:i < N.length):N[i]?=some (tn N i,ks N i):=by
 unfold tn ks
 rw [List.getElem?_eq_getElem hi]
 rfl
def Jn:Option Nat->Option Nat->Option Nat
 |some i,_=>some i
 |none,y=>y
def yJ:Option Int->Option Int->Option Int
 |some w,some v=>some (if v < w then v else w)
 |some w,none=>some w
 |none,x=>x
theorem Sn {sh:List (Int × Int)}{a b C:Nat}(hC:C ≠ b) (lh:a ≠ b):bp (gy sh a b) C=if C=a then Jn (bp sh a) (bp sh b) else bp sh C:=by
 unfold bp gy
 by_cases e:C=a
 ·subst e
  rw [if_pos rfl]
  cases hb:ao sh (b:Int) with
  |none=>cases ha:ao sh (C:Int)<;>simp [ha,Jn]
  |some k =>
   cases ha:ao sh (C:Int) with
   |none=>simp [bo,Jn]
   |some i=>simp [ha,Jn]
 ·rw [if_neg e]
  cases hb:ao sh (b:Int) with
  |none=>rfl
  |some k =>
   cases ha:ao sh (a:Int) with
   |none=>simp only [bo];rw [if_neg (by omega)]
   |some i=>rfl
theorem UG {ls:List (Int × Int)}{a b C:Nat}(hC:C ≠ b) (lh:a ≠ b):ao (fV ls a b) (C:Int)=if C=a then yJ (ao ls (a:Int)) (ao ls (b:Int)) else ao ls (C:Int):=by
 unfold fV
 by_cases e:C=a
 ·subst e
  rw [if_pos rfl]
  cases hb:ao ls (b:Int) with
  |none=>cases ha:ao ls (C:Int)<;>simp [ha,yJ]
  |some k =>
   cases ha:ao ls (C:Int) with
   |none=>simp [bo,yJ]
   |some i =>
    simp only [yJ]
    split
    ·rw [bo,if_pos rfl]
    ·exact ha
 ·rw [if_neg e]
  cases hb:ao ls (b:Int) with
  |none=>rfl
  |some k =>
   cases ha:ao ls (a:Int) with
   |none=>simp only [bo];rw [if_neg (by omega)]
   |some i =>
    simp only
    split
    ·rw [bo,if_neg (by omega)]
    ·rfl
theorem eS.merge {N:aU}{c:Nat->Nat}{a b:Nat}{x y:Option Nat}(hx:eS N c a x) (hy:eS N c b y) (lh:a ≠ b):eS N (eh c a b) a (Jn x y):=by
 cases x with
 |some i =>
  obtain⟨h1,h2,h3⟩:=hx
  refine⟨h1,?_,h3⟩
  unfold eh
  rw [h2,if_neg lh]
 |none =>
  cases y with
  |some i =>
   obtain⟨h1,h2,h3⟩:=hy
   refine⟨h1,?_,h3⟩
   unfold eh
   rw [h2,if_pos rfl]
  |none =>
   intro i hi e
   unfold eh at e
   split at e
   ·rename_i e';exact hy i hi e'
   ·exact hx i hi e
theorem mg.merge {N:aU}{c:Nat->Nat}{a b:Nat}{x y:Option Int}(hx:mg N c a x) (hy:mg N c b y) (lh:a ≠ b):mg N (eh c a b) a (yJ x y):=by
 have ma:∀ j,c j=a->eh c a b j=a:=fun j e=>by unfold eh;rw [e,if_neg lh]
 have mb:∀ j,c j=b->eh c a b j=a:=fun j e=>by unfold eh;rw [e,if_pos rfl]
 have mi:∀ j,eh c a b j=a->c j=a\/c j=b:=fun j e=>by
  unfold eh at e
  split at e
  ·exact .inr (by assumption)
  ·exact .inl e
 cases x with
 |some w =>
  obtain⟨⟨j,j1,j2,j3,j4⟩,hw⟩:=hx
  cases y with
  |some v =>
   obtain⟨⟨i,i1,i2,i3,i4⟩,hv⟩:=hy
   simp only [yJ]
   split
   ·refine⟨⟨i,i1,mb i i2,i3,i4⟩,fun q hq e hk=>?_⟩
    rcases mi q e with e|e
    ·have:=hw q hq e hk;omega
    ·exact hv q hq e hk
   ·refine⟨⟨j,j1,ma j j2,j3,j4⟩,fun q hq e hk=>?_⟩
    rcases mi q e with e|e
    ·exact hw q hq e hk
    ·have:=hv q hq e hk;omega
  |none =>
   refine⟨⟨j,j1,ma j j2,j3,j4⟩,fun q hq e hk=>?_⟩
   rcases mi q e with e|e
   ·exact hw q hq e hk
   ·exact absurd hk (hy q hq e)
 |none =>
  cases y with
  |some v =>
   obtain⟨⟨i,i1,i2,i3,i4⟩,hv⟩:=hy
   refine⟨⟨i,i1,mb i i2,i3,i4⟩,fun q hq e hk=>?_⟩
   rcases mi q e with e|e
   ·exact absurd hk (hx q hq e)
   ·exact hv q hq e hk
  |none =>
   intro q hq e
   rcases mi q e with e|e
   ·exact hx q hq e
   ·exact hy q hq e
theorem tt {c:Nat->Nat}{a b C:Nat}(hC:C ≠ a) (hb:C ≠ b) (j:Nat):eh c a b j=C ↔ c j=C:=by
 unfold eh
 split
 ·rename_i e
  exact⟨fun h=>absurd h.symm hC,fun h=>absurd (h.symm.trans e) hb⟩
 ·exact Iff.rfl
theorem eS.other {N:aU}{c:Nat->Nat}{a b C:Nat}(hC:C ≠ a) (hb:C ≠ b) {x:Option Nat}(h:eS N c C x):eS N (eh c a b) C x:=by
 cases x with
 |some i=>exact⟨h.1,(tt hC hb i).2 h.2.1,h.2.2⟩
 |none=>exact fun i hi e=>h i hi ((tt hC hb i).1 e)
theorem mg.other {N:aU}{c:Nat->Nat}{a b C:Nat}(hC:C ≠ a) (hb:C ≠ b) {x:Option Int}(h:mg N c C x):mg N (eh c a b) C x:=by
 cases x with
 |some v =>
  obtain⟨⟨j,j1,j2,j3,j4⟩,hw⟩:=h
  exact⟨⟨j,j1,(tt hC hb j).2 j2,j3,j4⟩,fun q hq e=>hw q hq ((tt hC hb q).1 e)⟩
 |none=>exact fun i hi e=>h i hi ((tt hC hb i).1 e)
section
variable {E:List (Tm × Tm)}{N:aU}{D:List (Nat × Nat)}{c:Nat->Nat}{ps:List (Nat × Nat)}{s:JS}
theorem kT.merge {x y a b:Nat}{P':List (Nat × Nat)}(h:kT E N D c (ps++[(x,y)]) s) (ea:a=c x) (eb:b=c y) (lh:a ≠ b) (hP:∀ p,p ∈ P' ↔ p ∈ kR N (bp s.sh a) (bp s.sh b)++ps)
  (aH:∀ i j,bp s.sh a=some i->bp s.sh b=some j->alike (tn N i) (tn N j)) {u:List Nat}(hu:∃ h,UF u c h) (hl:u.length=N.length):kT E N D (eh c a b) P' ⟨u.set b a,gy s.sh a b,fV s.ls a b⟩:=by
 obtain⟨hx,hy,_⟩:=h.gi.jO (x,y) (by simp)
 simp only at hx hy
 obtain⟨hh,hU⟩:=hu
 have la:a < N.length:=by rw [ea,<-hl];exact (hU.rt x (by omega)).2
 have lb:b < N.length:=by rw [eb,<-hl];exact (hU.rt y (by omega)).2
 have ca:c a=a:=by rw [ea];exact hU.cc (by omega)
 have cb:c b=b:=by rw [eb];exact hU.cc (by omega)
 have sa:=h.qG a la ca
 have sb:=h.qG b lb cb
 have g1:gT E N D c ((x,y)::ps):=h.gi.perm fun p=>by simp [or_comm]
 have g2:=g1.merge (sa:=bp s.sh a) (sb:=bp s.sh b) (by rw [<-ea];exact sa) (by rw [<-eb];exact sb) aH
 rw [<-ea,<-eb] at g2
 refine⟨g2.perm hP,⟨_,hU.merge (by omega) (by omega) ca cb lh⟩,by rw [List.length_set];exact hl,fun C i hi=>?_,fun C hC e=>?_,fun C hC e=>?_,fun C hC=>?_,fun C hC=>?_⟩
 ·unfold gy at hi
  cases e1:ao s.sh (b:Int) with
  |none=>rw [e1] at hi;exact h.pos C i hi
  |some k =>
   rw [e1] at hi
   cases e2:ao s.sh (a:Int) with
   |some j=>rw [e2] at hi;exact h.pos C i hi
   |none =>
    rw [e2] at hi
    simp only [bo] at hi
    split at hi
    ·obtain rfl:=Option.some.inj hi;exact h.pos _ _ e1
    ·exact h.pos C i hi
 ·have Jo:C ≠ b:=fun e'=>by
   subst e'
   unfold eh at e
   rw [cb,if_pos rfl] at e
   exact lh e
  show eS _ _ _ (bp (gy s.sh a b) C)
  rw [Sn Jo lh]
  split
  ·rename_i e';subst e';exact sa.merge sb lh
  ·rename_i e'
   exact (h.qG C hC (BI lh ca e)).other e' Jo
 ·have Jo:C ≠ b:=fun e'=>by
   subst e'
   unfold eh at e
   rw [cb,if_pos rfl] at e
   exact lh e
  show mg _ _ _ (ao (fV s.ls a b) (C:Int))
  rw [UG Jo lh]
  split
  ·rename_i e';subst e';exact (h.dw C la ca).merge (h.dw b lb cb) lh
  ·rename_i e'
   exact (h.dw C hC (BI lh ca e)).other e' Jo
 ·have h0:=h.NO C hC
  show ao (gy s.sh a b) (C:Int)=none
  unfold gy
  split
  ·split
   ·exact h0
   ·rw [bo,if_neg (by omega)];exact h0
  ·exact h0
 ·have h0:=h.NP C hC
  show ao (fV s.ls a b) (C:Int)=none
  unfold fV
  split
  ·split
   ·split
    ·rw [bo,if_neg (by omega)];exact h0
    ·exact h0
   ·rw [bo,if_neg (by omega)];exact h0
  ·exact h0
theorem tu {α:Type}:∀ (l:List α),l=[]\/∃ l0 x,l=l0++[x]
 |[]=>.inl rfl
 |x::l=>.inr (by
  rcases tu l with rfl|⟨l0,y,rfl⟩
  ·exact⟨[],x,rfl⟩
  ·exact⟨x::l0,y,rfl⟩)
theorem QE {K:Nat}(hK:∀ i,i < N.length->(ks N i).length<=K) (n m:Nat):∀ {c:Nat->Nat}{ps:List (Nat × Nat)}{s:JS},im c N.length=n->ps.length=m->m+K*n<=1099511627776->kT E N D c ps s ->
  ∃ f b s',ec N f ps s=some (b,s')/\(b=true->∃ c',kT E N D c' [] s')/\(b=false->¬ ∃ f,qE E f):=by
 induction n using Nat.strongRecOn generalizing m with
 |ind n Sp =>
  induction m with
  |zero =>
   intro c ps s hn hm hX h
   obtain rfl:=List.length_eq_zero_iff.1 hm
   exact⟨1,true,s,rfl,fun _=>⟨c,h⟩,fun e=>by cases e⟩
  |succ m ihm =>
   intro c ps s hn hm hX h
   rcases tu ps with rfl|⟨p0,p,rfl⟩
   ·cases hm
   ·rw [List.length_append,List.length_singleton] at hm
    obtain⟨x,y⟩:=p
    obtain⟨hx,hy,ib⟩:=h.gi.jO (x,y) (by simp)
    simp only at hx hy ib
    obtain⟨hh,hU⟩:=h.uf
    have hl:=h.len
    obtain⟨u1,r1,vx,l1⟩:=hU.fa (k:=x) (by omega)
    obtain⟨u2,r2,pF,l2⟩:=vx.fa (k:=y) (by omega)
    have g1:gT E N D c ((x,y)::p0):=h.gi.perm fun p=>by simp [or_comm]
    have e0:∀ f,ec N (f+1) (p0++[(x,y)]) s=if c x=c y then ec N f p0 ⟨u2,s.sh,s.ls⟩ else
     match ao s.sh (c x:Int),ao s.sh (c y:Int) with
     |some i,some k=>match N[i.toNat]?,N[k.toNat]? with
      |some (t,l),some (t',l')=>if 0<=i/\0<=k then (if mf t t' then (if l.length=l'.length then ec N f (p0++l.zip l') ⟨u2.set (c y) (c x),gy s.sh (c x) (c y),fV s.ls (c x) (c y)⟩ else none) else some (false,⟨u2,s.sh,s.ls⟩)) else none
      |_,_=>none
     |_,_=>ec N f p0 ⟨u2.set (c y) (c x),gy s.sh (c x) (c y),fV s.ls (c x) (c y)⟩:=fun f=>by
     rw [ec,if_neg (by rw [List.length_append,List.length_singleton];omega)]
     simp only [List.getLast?_append,List.getLast?_singleton,Option.some_or,r1,r2,List.dropLast_concat]
    by_cases e:c x=c y
    ·have h2:kT E N D c p0 ⟨u2,s.sh,s.ls⟩:=⟨g1.pop e,⟨hh,pF⟩,by simp only;omega,h.pos,h.qG,h.dw,h.NO,h.NP⟩
     obtain⟨f,b,s',k1,k2⟩:=ihm hn (by omega) (by omega) h2
     exact⟨f+1,b,s',by rw [e0,if_pos e,k1],k2⟩
    ·have la:c x < N.length:=by have:=(hU.rt x (by omega)).2;omega
     have lb:c y < N.length:=by have:=(hU.rt y (by omega)).2;omega
     have ca:c (c x)=c x:=hU.cc (by omega)
     have cb:c (c y)=c y:=hU.cc (by omega)
     have sa:=h.qG _ la ca
     have sb:=h.qG _ lb cb
     have aB:im (eh c (c x) (c y)) N.length < n:=by
      rw [<-hn]
      refine zN (fun i=>BI e ca) cb (fun e'=>?_) _ lb
      unfold eh at e'
      rw [cb,if_pos rfl] at e'
      exact e e'
     have hmul:K*im (eh c (c x) (c y)) N.length+K<=K*n:=by rw [<-Nat.mul_succ];exact Nat.mul_le_mul_left K aB
     have Sq:∃ h,UF u2 c h:=⟨hh,pF⟩
     cases e1:ao s.sh (c x:Int) with
     |none =>
      have f1:bp s.sh (c x)=none:=by unfold bp;rw [e1];rfl
      have h2:=h.merge rfl rfl e (P':=p0) (fun p=>by rw [f1];simp [kR]) (fun i j hi=>by rw [f1] at hi;cases hi) Sq (by omega)
      obtain⟨f,b,s',k1,k2⟩:=Sp _ aB p0.length rfl rfl (by omega) h2
      exact⟨f+1,b,s',by rw [e0,if_neg e,e1];exact k1,k2⟩
     |some i =>
      cases e2:ao s.sh (c y:Int) with
      |none =>
       have f1:bp s.sh (c y)=none:=by unfold bp;rw [e2];rfl
       have h2:=h.merge rfl rfl e (P':=p0) (fun p=>by rw [f1];cases bp s.sh (c x)<;>simp [kR]) (fun i j _ hj=>by rw [f1] at hj;cases hj) Sq (by omega)
       obtain⟨f,b,s',k1,k2⟩:=Sp _ aB p0.length rfl rfl (by omega) h2
       exact⟨f+1,b,s',by rw [e0,if_neg e,e1,e2];exact k1,k2⟩
      |some k =>
       have f1:bp s.sh (c x)=some i.toNat:=by unfold bp;rw [e1];rfl
       have f2:bp s.sh (c y)=some k.toNat:=by unfold bp;rw [e2];rfl
       rw [f1] at sa
       rw [f2] at sb
       obtain⟨Jp,sa2,sa3⟩:=sa
       obtain⟨NQ,sb2,sb3⟩:=sb
       have hp:0<=i/\0<=k:=⟨h.pos _ _ e1,h.pos _ _ e2⟩
       cases e3:mf (tn N i.toNat) (tn N k.toNat) with
       |false =>
        refine⟨1,false,⟨u2,s.sh,s.ls⟩,?_,fun e=>(by cases e),fun _=>?_⟩
        ·rw [e0,if_neg e,e1,e2]
         simp only [mW Jp,mW NQ,if_pos hp,e3]
         rfl
        ·exact g1.UE (s:=i.toNat) (t:=k.toNat) ⟨Jp,sa2,sa3⟩ ⟨NQ,sb2,sb3⟩ fun h=>by rw [xA.2 h] at e3;cases e3
       |true =>
        have aH:=xA.1 e3
        have hlen:(ks N i.toNat).length=(ks N k.toNat).length:=by rw [jx h.gi.g Jp,jx h.gi.g NQ,aH.2.2.2]
        have h2:=h.merge rfl rfl e (P':=p0++(ks N i.toNat).zip (ks N k.toNat)) (fun p=>by rw [f1,f2];simp only [kR,AJ,List.mem_append];exact or_comm) (fun i' j' hi hj=>by rw [f1] at hi;rw [f2] at hj;rw [<-Option.some.inj hi,<-Option.some.inj hj];exact aH) Sq (by omega)
        obtain⟨f,b,s',k1,k2⟩:=Sp _ aB _ rfl rfl (by rw [List.length_append,List.length_zip];have:=hK _ Jp;omega) h2
        refine⟨f+1,b,s',?_,k2⟩
        rw [e0,if_neg e,e1,e2]
        simp only [mW Jp,mW NQ,if_pos hp,e3,if_true,if_pos hlen]
        exact k1
end
end
structure PS where
 N:aU
 vs:List (Int × Int)
 js:JS
def eA (s:PS) (t:Tm) (l:List Nat):PS :=
 ⟨s.N++[(t,l)],if t.k=1 then ee s.vs t.i s.N.length else s.vs,
  ⟨s.js.up++[s.N.length],if t.k=1 then s.js.sh else ee s.js.sh s.N.length s.N.length,if t.k=1 then ee s.js.ls s.N.length t.i else s.js.ls⟩⟩
mutual
def a6:PS->Tm->PS × Nat
 |s,⟨k,i,n,a⟩=>match (if k=1 then ao s.vs i else none) with
  |some j=>(s,j.toNat)
  |none=>(eA (bP s a).1 ⟨k,i,n,a⟩ (bP s a).2,(bP s a).1.N.length)
def bP:PS->List Tm->PS × List Nat
 |s,[]=>(s,[])
 |s,x::l=>((bP (a6 s x).1 l).1,(a6 s x).2::(bP (a6 s x).1 l).2)
end
structure kU (s:PS):Prop where
 vs:∀ v,ao s.vs v=(jE s.N v).map Int.ofNat
 up:s.js.up.length=s.N.length
 nd:(s.vs.map (·.1)).Nodup
theorem nu {T:Type}:∀ {l:List (Int × T)}{i:Int},i ∈ l.map (·.1) ↔ ∃ v,ao l i=some v
 |[],i=>by simp [ao]
 |p::l,i=>by
  rw [List.map_cons,List.mem_cons,ao]
  by_cases e:p.1=i
  ·rw [if_pos e];simp [e]
  ·rw [if_neg e,<-nu];simp [Ne.symm e]
theorem nv {T:Type}:∀ {l:List (Int × T)}{i:Int}{v:T},ao l i=none->ee l i v=l++[(i,v)]
 |[],_,_,_=>rfl
 |p::l,i,v,h=>by
  rw [ao] at h
  rw [ee]
  by_cases e:p.1=i
  ·rw [if_pos e] at h;cases h
  ·rw [if_neg e] at h
   rw [if_neg e,nv h];rfl
structure Grown (s s':PS):Prop where
 le:s.N.length<=s'.N.length
 Sr:s'.js.up.length=s.js.up.length+(s'.N.length - s.N.length)
 eF:∀ i,i < s.js.up.length->eZ s'.js.up i=eZ s.js.up i
 kc:∀ i,s.js.up.length<=i->eZ s'.js.up i=i
 iq:∀ C:Nat,C < s.N.length->ao s'.js.sh C=ao s.js.sh C
 ny:∀ C:Nat,s.N.length<=C->C < s'.N.length->ao s'.js.sh C=if (tn s'.N C).k=1 then ao s.js.sh C else some (C:Int)
 qG:(∀ C i,ao s.js.sh C=some i->0<=i)->∀ C i,ao s'.js.sh C=some i->0<=i
 gL:∀ C:Nat,C < s.N.length->ao s'.js.ls C=ao s.js.ls C
 nz:∀ C:Nat,s.N.length<=C->C < s'.N.length->ao s'.js.ls C=if (tn s'.N C).k=1 then some (tn s'.N C).i else ao s.js.ls C
 xB:∀ C:Nat,s'.N.length<=C->ao s'.js.sh C=ao s.js.sh C
 tv:∀ C:Nat,s'.N.length<=C->ao s'.js.ls C=ao s.js.ls C
 pre:∀ i,i < s.N.length->s'.N[i]?=s.N[i]?
theorem Eb {up:List Nat}{i:Nat}(h:up.length<=i):eZ up i=i:=by unfold eZ;rw [List.getElem?_eq_none h];rfl
theorem Grown.refl (s:PS):Grown s s:=⟨Nat.le_refl _,by omega,fun _ _=>rfl,fun i h=>Eb h,fun _ _=>rfl,fun C h1 h2=>by omega,fun h=>h,fun _ _=>rfl,fun C h1 h2=>by omega,fun _ _=>rfl,fun _ _=>rfl,fun _ _=>rfl⟩
theorem Grown.trans {s t u:PS}(h:Grown s t) (k:Grown t u):Grown s u:=by
 have h0:=h.le
 have k0:=k.le
 have hl:=h.Sr
 have kl:=k.Sr
 refine⟨by omega,by omega,fun i hi=>(k.eF i (by omega)).trans (h.eF i hi),fun i hi=>?_,fun C hC=>(k.iq C (by omega)).trans (h.iq C hC),fun C h1 h2=>?_,fun hp=>k.qG (h.qG hp),fun C hC=>(k.gL C (by omega)).trans (h.gL C hC),fun C h1 h2=>?_,fun C hC=>(k.xB C hC).trans (h.xB C (by omega)),fun C hC=>(k.tv C hC).trans (h.tv C (by omega)),fun i hi=>(k.pre i (by omega)).trans (h.pre i hi)⟩
 ·by_cases e:i < t.js.up.length
  ·rw [k.eF i e,h.kc i hi]
  ·exact k.kc i (by omega)
 ·by_cases e:C < t.N.length
  ·rw [k.iq C e,h.ny C h1 e,(cT k.pre e).1]
  ·rw [k.ny C (by omega) h2,h.xB C (by omega)]
 ·by_cases e:C < t.N.length
  ·rw [k.gL C e,h.nz C h1 e,(cT k.pre e).1]
  ·rw [k.nz C (by omega) h2,h.tv C (by omega)]
theorem xC {s:PS}(hV:kU s) (t:Tm) (l:List Nat):Grown s (eA s t l):=by
 have hl:=hV.up
 have aar:∀ i,i < s.N.length->(s.N++[(t,l)])[i]?=s.N[i]?:=fun i hi=>List.getElem?_append_left hi
 refine⟨by simp [eA],by simp [eA],fun i hi=>?_,fun i hi=>?_,fun C hC=>?_,fun C h1 h2=>?_,fun hp C i=>?_,fun C hC=>?_,fun C h1 h2=>?_,fun C hC=>?_,fun C hC=>?_,aar⟩
 ·simp only [eA,eZ]
  rw [List.getElem?_append_left hi]
 ·simp only [eA]
  by_cases e:i=s.js.up.length
  ·subst e
   unfold eZ
   rw [List.getElem?_append_right (Nat.le_refl _)]
   simp [hl]
  ·exact Eb (by simp;omega)
 ·simp only [eA]
  split
  ·rfl
  ·rw [bo,if_neg (by omega)]
 ·have e:C=s.N.length:=by simp [eA] at h2;omega
  subst e
  simp only [eA,g_.1]
  split
  ·rfl
  ·rw [bo,if_pos rfl]
 ·simp only [eA]
  split
  ·exact hp C i
  ·rw [bo]
   split
   ·intro h;obtain rfl:=Option.some.inj h;omega
   ·exact hp C i
 ·simp only [eA]
  split
  ·rw [bo,if_neg (by omega)]
  ·rfl
 ·have e:C=s.N.length:=by simp [eA] at h2;omega
  subst e
  simp only [eA,g_.1]
  split
  ·rw [bo,if_pos rfl]
  ·rfl
 ·simp only [eA] at hC ⊢
  rw [List.length_append,List.length_singleton] at hC
  split
  ·rfl
  ·rw [bo,if_neg (by omega)]
 ·simp only [eA] at hC ⊢
  rw [List.length_append,List.length_singleton] at hC
  split
  ·rw [bo,if_neg (by omega)]
  ·rfl
theorem Jq {N:aU}{t:Tm}{l:List Nat}{v:Int}(h:t.k=1->jE N t.i=none):jE (N++[(t,l)]) v=if t.k=1/\t.i=v then some N.length else jE N v:=by
 unfold jE
 rw [List.findIdx?_append]
 cases hv:List.findIdx? (fun x=>x.1.k == 1 && x.1.i == v) N with
 |some j =>
  rw [if_neg]
  ·rfl
  ·rintro⟨h1,rfl⟩
   have:=h h1
   unfold jE at this
   rw [this] at hv
   cases hv
 |none =>
  by_cases e:t.k=1/\t.i=v
  ·rw [if_pos e];simp [e.1,e.2]
  ·rw [if_neg e]
   have:(t.k == 1 && t.i == v)=false:=by
    rw [Bool.and_eq_false_iff]
    by_cases e1:t.k=1
    ·exact .inr (by simpa using fun e2=>e ⟨e1,e2⟩)
    ·exact .inl (by simpa using e1)
   simp [this]
theorem zO {s:PS}(hV:kU s) {t:Tm}{l:List Nat}(h:t.k=1->jE s.N t.i=none):kU (eA s t l):=by
 refine⟨fun v=>?_,by simp [eA,hV.up],?_⟩
 rotate_left
 ·simp only [eA]
  split
  ·rename_i e
   have h1:ao s.vs t.i=none:=by rw [hV.vs,h e];rfl
   rw [nv h1,List.map_append,List.nodup_append]
   refine⟨hV.nd,by simp,fun a ha b hb e2=>?_⟩
   simp only [List.map_cons,List.map_nil,List.mem_singleton] at hb
   rw [e2,hb,nu] at ha
   obtain⟨x,hx⟩:=ha
   rw [h1] at hx;cases hx
  ·exact hV.nd
 simp only [eA]
 rw [Jq h]
 by_cases e:t.k=1
 ·rw [if_pos e,bo]
  by_cases e2:t.i=v
  ·rw [if_pos e2,if_pos ⟨e,e2⟩];rfl
  ·rw [if_neg e2,if_neg (fun h=>e2 h.2)];exact hV.vs v
 ·rw [if_neg e,if_neg (fun h=>e h.1)];exact hV.vs v
mutual
theorem lT:∀ (s:PS) (t:Tm),kU s->dP t->(a6 s t).1.N=(jF s.N t).1/\(a6 s t).2=(jF s.N t).2/\kU (a6 s t).1/\Grown s (a6 s t).1
 |s,⟨k,i,n,a⟩,hV,hw=>by
  rw [a6,jF]
  by_cases hk:k=1
  ·subst hk
   rw [dP,if_pos rfl] at hw
   obtain⟨rfl,rfl⟩:=hw
   simp only [if_true,hV.vs]
   cases hv:jE s.N i with
   |some j=>exact⟨rfl,by simp,hV,.refl s⟩
   |none =>
    simp only [Option.map_none,bP,dC]
    exact⟨by simp [eA],by simp,zO hV fun _=>hv,xC hV _ _⟩
  ·simp only [if_neg hk]
   rw [dP,if_neg hk] at hw
   obtain⟨h1,h2,h3,h4⟩:=wB s a hV hw.1
   refine⟨by simp only [eA,h1,h2],by rw [h1],zO h3 fun e=>absurd e hk,h4.trans (xC h3 _ _)⟩
theorem wB:∀ (s:PS) (l:List Tm),kU s->gd l->(bP s l).1.N=(dC s.N l).1/\(bP s l).2=(dC s.N l).2/\kU (bP s l).1/\Grown s (bP s l).1
 |s,[],hV,_=>by rw [bP,dC];exact⟨rfl,rfl,hV,.refl s⟩
 |s,x::l,hV,hw=>by
  rw [gd] at hw
  obtain⟨h1,h2,h3,h4⟩:=lT s x hV hw.1
  obtain⟨k1,k2,k3,k4⟩:=wB (a6 s x).1 l h3 hw.2
  rw [bP,dC]
  simp only [k1,k2,h1,h2]
  exact⟨trivial,trivial,k3,h4.trans k4⟩
end
section
variable {E:List (Tm × Tm)}{D:List (Nat × Nat)}{c:Nat->Nat}
theorem kT.grow {s s':PS}(h:kT E s.N D c [] s.js) (hD:∀ p ∈ D,p.1 < s.N.length/\p.2 < s.N.length) (hx:oS s.N s'.N) (hg:Grown s s') {x y:Nat}(zE:x < s'.N.length) (hyl:y < s'.N.length) (he:(tn s'.N x,tn s'.N y) ∈ E) :
  kT E s'.N ((x,y)::D) (fun i=>if i < s.N.length then c i else i) [(x,y)] s'.js:=by
 obtain⟨hh,hU⟩:=h.uf
 have hl:=h.len
 have jy:=hg.Sr
 have hle:=hg.le
 have cl:∀ i,i < s.N.length->c i < s.N.length:=fun i hi=>by have:=(hU.rt i (by omega)).2;omega
 have K9:∀ j C,C < s.N.length->(if j < s.N.length then c j else j)=C->j < s.N.length/\c j=C:=fun j C hC e=>by
  split at e
  ·exact⟨by assumption,e⟩
  ·omega
 have K_:∀ j C,s.N.length<=C->(if j < s.N.length then c j else j)=C->j=C:=fun j C hC e=>by
  split at e
  ·rename_i hj;have:=cl j hj;omega
  ·exact e
 refine⟨h.gi.grow hD hx.g hx.le hx.pre (fun i hi=>⟨if_pos hi,cl i hi⟩) (fun i hi=>if_neg (by omega)) zE hyl he,⟨hh,?_⟩,by omega,hg.qG h.pos,fun C hC e=>?_,fun C hC e=>?_,fun C hC=>by rw [hg.xB C hC];exact h.NO C (by omega),fun C hC=>by rw [hg.tv C hC];exact h.NP C (by omega)⟩
 ·refine⟨fun i hi=>?_,fun i hi=>?_,fun i hi=>?_,fun i hi e=>?_,fun i hi e=>?_⟩
  ·by_cases e:i < s.N.length
   ·rw [hg.eF i (by omega)];have:=hU.lt i (by omega);omega
   ·rw [hg.kc i (by omega)];exact hi
  ·by_cases e:i < s.N.length
   ·simp only [if_pos e]
    rw [hg.eF _ (by have:=cl i e;omega)]
    have:=hU.rt i (by omega)
    exact⟨this.1,by omega⟩
   ·simp only [if_neg e];exact⟨hg.kc i (by omega),hi⟩
  ·by_cases e:i < s.N.length
   ·rw [hg.eF i (by omega)]
    have:=hU.lt i (by omega)
    simp only [if_pos e]
    rw [if_pos (by omega)]
    exact hU.st i (by omega)
   ·rw [hg.kc i (by omega)]
  ·by_cases e':i < s.N.length
   ·rw [hg.eF i (by omega)] at e
    simp only [if_pos e']
    exact hU.fx i (by omega) e
   ·simp only [if_neg e']
  ·by_cases e':i < s.N.length
   ·rw [hg.eF i (by omega)] at e ⊢
    exact hU.ht i (by omega) e
   ·exact absurd (hg.kc i (by omega)) e
 ·by_cases e':C < s.N.length
  ·simp only [if_pos e'] at e
   have h1:=h.qG C e' e
   show eS _ _ _ (bp s'.js.sh C)
   have h2:bp s'.js.sh C=bp s.js.sh C:=by unfold bp;rw [hg.iq C e']
   rw [h2]
   cases hs:bp s.js.sh C with
   |some i =>
    rw [hs] at h1
    obtain⟨a1,a2,a3⟩:=h1
    exact⟨by omega,by simp only [if_pos a1];exact a2,by rw [(cT hx.pre a1).1];exact a3⟩
   |none =>
    rw [hs] at h1
    intro i hi jq
    obtain⟨b1,b2⟩:=K9 i C e' jq
    rw [(cT hx.pre b1).1]
    exact h1 i b1 b2
  ·show eS _ _ _ (bp s'.js.sh C)
   unfold bp
   rw [hg.ny C (by omega) hC]
   by_cases hk:(tn s'.N C).k=1
   ·rw [if_pos hk]
    rw [h.NO C (by omega)]
    intro i hi jq
    rw [K_ i C (by omega) jq];exact hk
   ·rw [if_neg hk]
    exact⟨by simpa using hC,by simp only [Int.toNat_natCast];exact if_neg e',by simpa using hk⟩
 ·by_cases e':C < s.N.length
  ·simp only [if_pos e'] at e
   have h1:=h.dw C e' e
   show mg _ _ _ (ao s'.js.ls (C:Int))
   rw [hg.gL C e']
   cases hs:ao s.js.ls (C:Int) with
   |some v =>
    rw [hs] at h1
    obtain⟨⟨j,a1,a2,a3,a4⟩,a5⟩:=h1
    refine⟨⟨j,by omega,by simp only [if_pos a1];exact a2,by rw [(cT hx.pre a1).1];exact a3,by rw [(cT hx.pre a1).1];exact a4⟩,fun i hi jq hk=>?_⟩
    obtain⟨b1,b2⟩:=K9 i C e' jq
    rw [(cT hx.pre b1).1] at hk ⊢
    exact a5 i b1 b2 hk
   |none =>
    rw [hs] at h1
    intro i hi jq
    obtain⟨b1,b2⟩:=K9 i C e' jq
    rw [(cT hx.pre b1).1]
    exact h1 i b1 b2
  ·show mg _ _ _ (ao s'.js.ls (C:Int))
   rw [hg.nz C (by omega) hC]
   by_cases hk:(tn s'.N C).k=1
   ·rw [if_pos hk]
    refine⟨⟨C,hC,if_neg e',hk,rfl⟩,fun i hi jq _=>?_⟩
    rw [K_ i C (by omega) jq]
    exact Int.le_refl _
   ·rw [if_neg hk,h.NP C (by omega)]
    intro i hi jq
    rw [K_ i C (by omega) jq];exact hk
end
end Go.Proofs.YtgjfgekaclobaaaGreat
