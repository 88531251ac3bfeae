import Derived.Test.YtbpabjmnhggajaaGreatOr19
namespace Go.Proofs.YtbpabjmnhggajaaGreat
set_option linter.all false
open Go.RowKit
variable {up:List Nat}{r:List Nat × Nat}{C a b i m:Nat}{c h:Nat->Nat}{x:Option Nat}{N:aS}
theorem Xd (x:Tm):1<=oH x:=by rw[IA];omega
theorem A5 (d:Int):∀(l:List Tm) (h:∀x ∈ l,∀c,0<=c->((bB x d c).1=(kh x && decide ((cY x:Int)<=c) && decide ((oH x:Int)<=d)))/\((bB x d c).1=true->(bB x d c).2=c - cY x)) (c:Int),0<=c->0<=d ->
  ((c9 l d c).1=(jI l && decide ((bw l:Int)<=c) && decide ((kg l:Int)<=d)))/\((c9 l d c).1=true->(c9 l d c).2=c - bw l)
 |[],h,c,e,f=>by grind[c9,jI,bw,kg]
 |x::l,h,c,e,f=>by
  obtain⟨a,g⟩:=h x (by simp) c e;rw[c9,jI,bw,kg];cases b:(bB x d c).1 with
  |false =>
   rw[b]at a;rw[if_neg (by simp)];refine⟨?_,λh=>by grind⟩;show false=_;cases i:kh x<;>cases p:jI l<;>simp only[i,aL_,bv_,bJ_,cD_]at a ⊢
   all_goals try rfl
   symm
   replace a:=a.symm
   rw[db_,decide_eq_false_iff_not,decide_eq_false_iff_not]at a ⊢;omega
  |true =>
   rw[if_pos rfl];have j:=g b;rw[b]at a;have k:kh x=true/\(cY x:Int)<=c/\(oH x:Int)<=d:=by grind
   obtain⟨m,q⟩:=A5 d l (λy r=>h y (by grind)) (c - cY x) (by omega) f;rw[j];refine⟨?_,λh=>by grind⟩;rw[m,k.1,aL_];have n:decide ((bw l:Int)<=c - cY x)=decide (((cY x+bw l:Nat):Int)<=c):=decide_eq_decide.2 (by omega);have o:decide ((kg l:Int)<=d)=decide (((max (oH x) (kg l):Nat):Int)<=d):=decide_eq_decide.2 (by omega);rw[n,o]
theorem Md (x:Tm):∀(d c:Int),0<=c->((bB x d c).1=(kh x && decide ((cY x:Int)<=c) && decide ((oH x:Int)<=d)))/\((bB x d c).1=true->(bB x d c).2=c - cY x):=by
 refine Tm.ind (p:=λx=>∀(d c:Int),0<=c->((bB x d c).1=(kh x && decide ((cY x:Int)<=c) && decide ((oH x:Int)<=d)))/\((bB x d c).1=true->(bB x d c).2=c - cY x)) ?_ x;intro k i n a e d c b;have g:=rA ⟨k,i,n,a⟩;have h:=Xd ⟨k,i,n,a⟩;have j:=AR ⟨k,i,n,a⟩;have l:=IA ⟨k,i,n,a⟩;by_cases m:c - 1 < 0\/d < 1
 ·grind[bB]
 have o:=A5 (d - 1) a (λy f c b=>e y f (d - 1) c b) (c - 1);by_cases q:k=2
 ·grind[oG,bB,kh,bw,kg,eB,mC]
 ·grind[oG,bw,kg,bB,kh]
theorem Xe (x:Tm):(bB x 20 200).1=cd x:=by grind[Md,cd,cY,oH]
section
set_option maxRecDepth 100000
attribute [local irreducible] ah aG ae ad
def ah8:FQ 173 Tryz.f173:=aF Tryz.func173 Tryz.call173
def ad7:List Nat:=[2,0,3,1]
def amF:FQ 68 Tryz.f68:=aF Tryz.func68 Tryz.call68
def Ue:List Nat:=[1,2,0,3]
theorem JB:∀l:List Tm,bw l<=200->l.all cd=(jI l && decide ((kg l:Int)<=20))
 |[],_=>by rw[jI,kg];rfl
 |x::l,h=>by
  rw[bw]at h;rw[aY_,JB l (by omega),jI,kg,cd];have a:decide (cY x<=200)=true:=decide_eq_true (by omega);have b:decide (((max (oH x) (kg l):Nat):Int)<=20)=(decide (oH x<=20) && decide ((kg l:Int)<=20)):=by grind
  rw[a,b];cases kh x<;>cases jI l<;>cases decide (oH x<=20)<;>simp
theorem JC (l:List Tm):(c9 l 20 200).1=mw l:=by grind[A5,Md,mw,bw,JB,jI]
section
variable {w0:World}{ρ:Hd}
theorem Xf (d:∀s:ByteArray,ah Tryz.prog w0 230 [.v (.string s)] (.v (.bool (eB s)))) (x:Tm) (g:x.ok):ah Tryz.prog w0 173 [tm ρ x] (.v (.bool (cd x))):=by
 have c:=IF (ρ:=ρ) d x 20 200 g (by omega) (by omega) (by omega) (by omega);have a:=Xe x;obtain⟨⟨b,i⟩,e⟩:∃p,p=bB x 20 200:=⟨_,rfl⟩;rw[<-e]at c a;simp only at c a;rw[<-a];clear a e d;refine st ah8 ad7 .v ?_
 repeat' (first
  |(refine bg ad7 (ae.mY (m:=[(0,1)]) (to:=[(1,some (iZ i))]) c rfl ⟨Rn.pt rfl rfl,Rn.pure (bQ _),Rn.pure .v,trivial⟩ (Rb.pure .v) rfl rfl ⟨⟨_,rfl,lj.pure (kY _)⟩,trivial⟩ ⟨⟨0,_,rfl,rfl,me.pure (kY _)⟩,trivial⟩ rfl (by repeat (first|exact (λ_ _ h=>by grind)|refine rB ?_ rfl)) (.inr rfl)) (λf=>?_) λf=>?_)
  |(refine fq ?_))
 all_goals (refine bY ?_;rw[f])
theorem Xg (g:∀s:ByteArray,ah Tryz.prog w0 230 [.v (.string s)] (.v (.bool (eB s)))) (x:At) (o:x.ok) (i:x.n.size<=1099511627776):ah Tryz.prog w0 68 [at_ ρ x] (.v (.bool (fH x))):=by
 obtain⟨n,a⟩:=x;obtain⟨j,k⟩:=o;dsimp only at j k i;have c:=zE (w0:=w0) (ρ:=ρ) (a:=a) 20 (λy q r e t=>⟨(ju y _ _ e).1,(ju y _ _ e).2,IF (ρ:=ρ) g y 20 r (k.mem y q) e t (by omega) (by omega)⟩) j 200 (by omega) (by omega);have d:=JC a;obtain⟨⟨b,u⟩,l⟩:∃p,p=c9 a 20 200:=⟨_,rfl⟩;rw[<-l]at c d;simp only at c d;have v:decide (a.length<=6)=decide ((a.length:Int)<=6):=decide_eq_decide.2 (by omega);rw[fH,v,<-d];clear d l g;refine st amF Ue .v ?_
 repeat' (first
  |refine bg Ue (pl (zz _ i)) (λ_=>?_) λ_=>?_
  |(refine bg Ue (ae.mY (m:=[(0,1)]) (to:=[(1,some (iZ u))]) c rfl ⟨Rn.pt rfl rfl,Rn.pure (cG _),Rn.pure .v,trivial⟩ (Rb.pure .v) rfl rfl ⟨⟨_,rfl,lj.pure (kY _)⟩,trivial⟩ ⟨⟨0,_,rfl,rfl,me.pure (kY _)⟩,trivial⟩ rfl (by repeat (first|exact (λ_ _ h=>by grind)|refine rB ?_ rfl)) (.inr rfl)) (λf=>?_) λf=>?_)
  |refine cg Ue (λf=>?_) λf=>?_
  |refine lg Ue λm w=>?_
  |(refine fq ?_))
 all_goals (clear c;refine bY ?_;subst_vars;simp_all<;>(intros;omega))
end
end
def jk:Nat->List Nat->Nat->Option (List Nat × Nat)
 |0,_,_=>none
 |m+1,up,k=>match up[k]? with
  |none=>none
  |some p=>if p=k then some (up,k) else match up[p]? with
   |none=>none
   |some q=>jk m (up.set k q) q
theorem G4:∀{m:Nat}{up:List Nat}{k:Nat}{r:List Nat × Nat},jk m up k=some r->jk (m+1) up k=some r
 |0,_,_,_,h=>by cases h
 |m+1,up,k,r,h=>by
  rw[jk]at h;rw[jk];split at h
  ·grind
  ·rename_i p a;split at h
   ·grind
   ·rename_i e;split at h
    ·grind
    ·rename_i q b;simp only[a,if_neg e,b];exact G4 h
theorem Xh {a:Nat}{k:Nat}(h:jk m up k=some r) (b:m<=a):jk a up k=some r:=by
 induction b with
 |refl=>exact h
 |step _ c=>exact G4 c
theorem Uf {b:Nat}{k:Nat}{a:List Nat × Nat}(h:jk m up k=some r) (c:jk b up k=some a):r=a:=by grind[Xh]
open Classical in
noncomputable def ko (up:List Nat) (k:Nat):Option (List Nat × Nat):=if h:∃p:Nat × (List Nat × Nat),jk p.1 up k=some p.2 then some h.choose.2 else none
theorem Xi {k:Nat}(h:jk m up k=some r):ko up k=some r:=by
 have a:∃p:Nat × (List Nat × Nat),jk p.1 up k=some p.2:=⟨(m,r),h⟩;unfold ko;rw[dif_pos a,Uf a.choose_spec h]
theorem A6 {k:Nat}(h:ko up k=some r):∃m,jk m up k=some r:=by
 unfold ko at h;split at h
 ·grind
 ·grind
def bT (up:List Nat) (i:Nat):Nat:=(up[i]?).getD i
structure UF (up:List Nat) (c h:Nat->Nat):Prop where
 lt:∀i,i < up.length->bT up i < up.length
 rt:∀i,i < up.length->bT up (c i)=c i/\c i < up.length
 st:∀i,i < up.length->c (bT up i)=c i
 fx:∀i,i < up.length->bT up i=i->c i=i
 ht:∀i,i < up.length->bT up i ≠ i->h (bT up i) < h i
theorem G5 (hi:i < up.length):up[i]?=some (bT up i):=by grind[bT]
theorem ow {k v:Nat}(a:k < up.length) (i:Nat):bT (up.set k v) i=if i=k then v else bT up i:=by grind[bT]
theorem UF.cc (a:UF up c h) (hi:i < up.length):c (c i)=c i:=a.fx _ (a.rt i hi).2 (a.rt i hi).1
theorem UF.half (a:UF up c h) {k:Nat}(d:k < up.length):UF (up.set k (bT up (bT up k))) c h:=by
 have g:=a.lt k d;have p:=a.lt _ g;refine⟨λi b=>?_,λi b=>?_,λi b=>?_,λi b e=>?_,λi b e=>?_⟩
 all_goals rw[aV_]at b
 ·rw[ow d,aV_];split
  ·grind
  ·exact a.lt i b
 ·rw[ow d,aV_];obtain⟨q,n⟩:=a.rt i b;refine⟨?_,n⟩;split
  ·grind
  ·grind
 ·rw[ow d];split
  ·rename_i e;subst e;rw[a.st _ g,a.st _ b]
  ·exact a.st i b
 ·rw[ow d]at e;split at e
  ·rename_i f;subst f;by_cases j:bT up i=i
   ·exact a.fx i b j
   ·have o:=a.ht i b j;by_cases l:bT up (bT up i)=bT up i
    ·grind
    ·have m:=a.ht _ g l;rw[e]at m;omega
  ·exact a.fx i b e
 ·rw[ow d]at e ⊢;split at e
  ·rename_i f;rw[if_pos f];subst f;by_cases j:bT up i=i
   ·grind
   ·have o:=a.ht i b j;by_cases l:bT up (bT up i)=bT up i
    ·grind
    ·have m:=a.ht _ g l;omega
  ·rename_i f;rw[if_neg f];exact a.ht i b e
theorem UF.root {c h:Nat->Nat}:∀(H:Nat) {up:List Nat}{k:Nat},UF up c h->k < up.length->h k < H->∃m d,jk m up k=some (d,c k)/\UF d c h/\d.length=up.length
 |0,_,_,_,_,g=>by omega
 |H+1,up,k,a,b,g=>by
  by_cases e:bT up k=k
  ·refine⟨1,up,?_,a,rfl⟩;rw[jk,G5 b];simp only[if_pos e,a.fx k b e]
  ·have f:=a.lt k b;have o:=a.lt _ f;have p:=a.ht k b e;have i:h (bT up (bT up k)) < H:=by
    by_cases j:bT up (bT up k)=bT up k
    ·grind
    ·have:=a.ht _ f j;omega
   obtain⟨m,d,l,n,q⟩:=UF.root H (a.half b) (by grind) i;refine⟨m+1,d,?_,n,by grind⟩;rw[jk,G5 b];simp only[if_neg e,G5 f,l,a.st _ f,a.st _ b]
theorem UF.ko (b:UF up c h) {k:Nat}(d:k < up.length):∃a,ko up k=some (a,c k)/\UF a c h/\a.length=up.length:=by
 obtain⟨m,a,e,f,g⟩:=UF.root _ b d (aX_ _);exact⟨a,Xi e,f,g⟩
theorem UF.merge (f:UF up c h) (k:a < up.length) (g:b < up.length) (l:c a=a) (m:c b=b) (n:a ≠ b):UF (up.set b a) (gQ c a b) (λi=>if c i=b then h i+h a+1 else h i):=by
 have o:bT up a=a:=by have:=(f.rt a k).1;rwa [l]at this
 refine⟨λi d=>?_,λi d=>?_,λi d=>?_,λi d e=>?_,λi d e=>?_⟩
 all_goals rw[aV_]at d
 ·rw[ow g,aV_];split
  ·grind
  ·exact f.lt i d
 ·rw[ow g,aV_];by_cases e:c i=b
  ·grind[gQ]
  ·rw[show gQ c a b i=c i from if_neg e,if_neg e];exact f.rt i d
 ·rw[ow g];unfold gQ;split
  ·grind
  ·rw[f.st i d]
 ·rw[ow g]at e;unfold gQ;split at e
  ·grind
  ·rename_i j;have:=f.fx i d e;rw[this,if_neg j]
 ·rw[ow g]at e ⊢;split at e
  ·grind
  ·rename_i j;have:=f.ht i d e;simp only[if_neg j,f.st i d];split<;>omega
def cN (sh:List (Int × Int)) (C:Nat):Option Nat:=(aH sh (C:Int)).map Int.toNat
def qu (s t:Tm):Bool:=s.k == t.k && s.i == t.i && decide (s.n.toList=t.n.toList) && decide (s.a.length=t.a.length)
def lZ (sh:List (Int × Int)) (a b:Nat):List (Int × Int):=match aH sh (b:Int) with
 |some k=>(match aH sh (a:Int) with|some _=>sh|none=>iy sh a k)
 |none=>sh
def lq (ls:List (Int × Int)) (a b:Nat):List (Int × Int):=match aH ls (b:Int) with
 |some v=>(match aH ls (a:Int) with|some w=>if v < w then iy ls a v else ls|none=>iy ls a v)
 |none=>ls
structure JS where
 up:List Nat
 sh:List (Int × Int)
 ls:List (Int × Int)
noncomputable def iS (N:aS):Nat->List (Nat × Nat)->JS->Option (Bool × JS)
 |0,_,_=>none
 |m+1,ps,s=>if 1099511627776 < ps.length then none else match ps.getLast? with
  |none=>some (true,s)
  |some p=>match ko s.up p.1 with
   |none=>none
   |some (e,a)=>match ko e p.2 with
    |none=>none
    |some (c,b)=>if a=b then iS N m ps.dropLast ⟨c,s.sh,s.ls⟩ else
     match aH s.sh (a:Int),aH s.sh (b:Int) with
     |some i,some k=>match N[i.toNat]?,N[k.toNat]? with
      |some (t,l),some (f,d)=>if 0<=i/\0<=k then (if qu t f then (if l.length=d.length then iS N m (ps.dropLast++l.zip d) ⟨c.set b a,lZ s.sh a b,lq s.ls a b⟩ else none) else some (false,⟨c,s.sh,s.ls⟩)) else none
      |_,_=>none
     |_,_=>iS N m ps.dropLast ⟨c.set b a,lZ s.sh a b,lq s.ls a b⟩
def sG (N:aS) (c:Nat->Nat) (C:Nat):Option Int->Prop
 |none=>∀j,j < N.length->c j=C->(tn N j).k ≠ 1
 |some v=>(∃j,j < N.length/\c j=C/\(tn N j).k=1/\(tn N j).i=v)/\∀j,j < N.length->c j=C->(tn N j).k=1->v<=(tn N j).i
structure o_ (E:List (Tm × Tm)) (N:aS) (D:List (Nat × Nat)) (c:Nat->Nat) (ps:List (Nat × Nat)) (s:JS):Prop where
 gi:iT E N D c ps
 uf:∃h,UF s.up c h
 len:s.up.length=N.length
 pos:∀C i,aH s.sh C=some i->0<=i
 zG:∀C,C < N.length->c C=C->ix N c C (cN s.sh C)
 aR:∀C,C < N.length->c C=C->sG N c C (aH s.ls (C:Int))
 Ug:∀C:Nat,N.length<=C->aH s.sh (C:Int)=none
 ZW:∀C:Nat,N.length<=C->aH s.ls (C:Int)=none
def gI (c:Nat->Nat):Nat->Nat
 |0=>0
 |n+1=>gI c n+if c n=n then 1 else 0
theorem JD {c d:Nat->Nat}(h:∀i,d i=i->c i=i):∀n,gI d n<=gI c n
 |0=>ac_ _
 |n+1=>by
  have:=JD h n;rw[gI,gI];by_cases e:d n=n
  ·grind
  ·grind
theorem ym {c d:Nat->Nat}(h:∀i,d i=i->c i=i) {b:Nat}(a:c b=b) (f:d b ≠ b):∀n,b < n->gI d n < gI c n
 |0,g=>by omega
 |n+1,g=>by
  rw[gI,gI];by_cases e:b=n
  ·subst e;have:=JD h b;rw[if_pos a,if_neg f];omega
  ·have:=ym h a f n (by omega);by_cases e:d n=n
   ·grind
   ·grind
theorem G6 (c:Nat->Nat):∀n,gI c n<=n
 |0=>ac_ _
 |n+1=>by
  have:=G6 c n;rw[gI];split<;>omega
theorem A7 {s t:Tm}:qu s t=true ↔ alike s t:=by grind[Ua,qu,alike]
theorem G7 (d:a ≠ b) (e:c a=a):gQ c a b i=i->c i=i:=by grind[gQ]
theorem wE (hi:i < N.length):N[i]?=some (tn N i,ks N i):=by grind[tn,ks]
def Uh:Option Nat->Option Nat->Option Nat
 |some i,_=>some i
 |none,y=>y
def IJ:Option Int->Option Int->Option Int
 |some w,some v=>some (if v < w then v else w)
 |some w,none=>some w
 |none,x=>x
theorem ad8 {sh:List (Int × Int)}(f:C ≠ b) (g:a ≠ b):cN (lZ sh a b) C=if C=a then Uh (cN sh a) (cN sh b) else cN sh C:=by
 unfold cN lZ;by_cases e:C=a
 ·subst e;rw[if_pos rfl];cases d:aH sh (b:Int) with
  |none=>cases c:aH sh (C:Int)<;>simp[c,Uh]
  |some k =>
   cases c:aH sh (C:Int) with
   |none=>simp[cQ,Uh]
   |some i=>simp[c,Uh]
 ·rw[if_neg e];cases d:aH sh (b:Int) with
  |none=>rfl
  |some k =>
   cases c:aH sh (a:Int) with
   |none=>simp only[cQ];rw[if_neg (by omega)]
   |some i=>rfl
theorem ah9 {ls:List (Int × Int)}(f:C ≠ b) (g:a ≠ b):aH (lq ls a b) (C:Int)=if C=a then IJ (aH ls (a:Int)) (aH ls (b:Int)) else aH ls (C:Int):=by
 unfold lq;by_cases e:C=a
 ·subst e;rw[if_pos rfl];cases d:aH ls (b:Int) with
  |none=>cases c:aH ls (C:Int)<;>simp[c,IJ]
  |some k =>
   cases c:aH ls (C:Int) with
   |none=>simp[cQ,IJ]
   |some i =>
    simp only[IJ];split
    ·grind[cQ]
    ·grind
 ·rw[if_neg e];cases d:aH ls (b:Int) with
  |none=>rfl
  |some k =>
   cases c:aH ls (a:Int) with
   |none=>simp only[cQ];rw[if_neg (by omega)]
   |some i =>
    simp only;split
    ·grind[cQ]
    ·rfl
theorem ix.merge {y:Option Nat}(h:ix N c a x) (j:ix N c b y) (l:a ≠ b):ix N (gQ c a b) a (Uh x y):=by
 cases x with
 |some i =>
  obtain⟨d,f,g⟩:=h;refine⟨d,?_,g⟩;unfold gQ;rw[f,if_neg l]
 |none =>
  cases y with
  |some i =>
   obtain⟨d,f,g⟩:=j;refine⟨d,?_,g⟩;unfold gQ;rw[f,if_pos rfl]
  |none =>
   intro i k e;unfold gQ at e;split at e
   ·rename_i m;exact j i k m
   ·exact h i k e
theorem sG.merge {x y:Option Int}(k:sG N c a x) (h:sG N c b y) (A:a ≠ b):sG N (gQ c a b) a (IJ x y):=by
 have p:∀j,c j=a->gQ c a b j=a:=λj e=>by grind[gQ]
 have mb:∀j,c j=b->gQ c a b j=a:=λj e=>by grind[gQ]
 have f:∀j,gQ c a b j=a->c j=a\/c j=b:=λj e=>by grind[gQ]
 cases x with
 |some w =>
  obtain⟨⟨j,r,s,t,u⟩,B⟩:=k;cases y with
  |some v =>
   obtain⟨⟨i,l,m,n,o⟩,z⟩:=h;simp only[IJ];split
   ·refine⟨⟨i,l,mb i m,n,o⟩,λq d e g=>?_⟩;rcases f q e with e|e
    ·grind
    ·grind
   ·refine⟨⟨j,r,p j s,t,u⟩,λq d e g=>?_⟩;rcases f q e with e|e
    ·grind
    ·grind
  |none =>
   refine⟨⟨j,r,p j s,t,u⟩,λq d e g=>?_⟩;rcases f q e with e|e
   ·grind
   ·exact absurd g (h q d e)
 |none =>
  cases y with
  |some v =>
   obtain⟨⟨i,l,m,n,o⟩,z⟩:=h;refine⟨⟨i,l,mb i m,n,o⟩,λq d e g=>?_⟩;rcases f q e with e|e
   ·exact absurd g (k q d e)
   ·grind
  |none =>
   intro q d e;rcases f q e with e|e
   ·exact k q d e
   ·exact h q d e
theorem CL (d:C ≠ a) (e:C ≠ b) (j:Nat):gQ c a b j=C ↔ c j=C:=by grind[gQ]
theorem ix.other (d:C ≠ a) (f:C ≠ b) (h:ix N c C x):ix N (gQ c a b) C x:=by
 cases x with
 |some i=>exact⟨h.1,(CL d f i).2 h.2.1,h.2.2⟩
 |none=>exactλi g e=>h i g ((CL d f i).1 e)
theorem sG.other (d:C ≠ a) (f:C ≠ b) {x:Option Int}(h:sG N c C x):sG N (gQ c a b) C x:=by
 cases x with
 |some v =>
  obtain⟨⟨j,g,k,l,m⟩,n⟩:=h;exact⟨⟨j,g,(CL d f j).2 k,l,m⟩,λq o e=>n q o ((CL d f q).1 e)⟩
 |none=>exactλi p e=>h i p ((CL d f i).1 e)
section
variable {E:List (Tm × Tm)}{N:aS}{D:List (Nat × Nat)}{c:Nat->Nat}{ps:List (Nat × Nat)}{s:JS}
theorem o_.merge {x y:Nat}{P':List (Nat × Nat)}(h:o_ E N D c (ps++[(x,y)]) s) (q:a=c x) (r:b=c y) (g:a ≠ b) (I:∀p,p ∈ P' ↔ p ∈ ni N (cN s.sh a) (cN s.sh b)++ps)
  (J:∀i j,cN s.sh a=some i->cN s.sh b=some j->alike (tn N i) (tn N j)) {u:List Nat}(K:∃h,UF u c h) (w:u.length=N.length):o_ E N D (gQ c a b) P' ⟨u.set b a,lZ s.sh a b,lq s.ls a b⟩:=by
 obtain⟨L,M,_⟩:=h.gi.nH (x,y) (by simp);simp only at L M;obtain⟨Q,m⟩:=K;have z:a < N.length:=by rw[q,<-w];exact (m.rt x (by omega)).2
 have A:b < N.length:=by rw[r,<-w];exact (m.rt y (by omega)).2
 have n:c a=a:=by rw[q];exact m.cc (by omega)
 have t:c b=b:=by rw[r];exact m.cc (by omega)
 have B:=h.zG a z n;have F:=h.zG b A t;have O:iT E N D c ((x,y)::ps):=h.gi.perm λp=>by grind
 have G:=O.merge (sa:=cN s.sh a) (sb:=cN s.sh b) (by grind) (by grind) J;rw[<-q,<-r]at G;refine⟨G.perm I,⟨_,m.merge (by omega) (by omega) n t g⟩,by grind,λC i d=>?_,λC l e=>?_,λC l e=>?_,λC l=>?_,λC l=>?_⟩
 ·unfold lZ at d;cases v:aH s.sh (b:Int) with
  |none=>rw[v]at d;exact h.pos C i d
  |some k =>
   rw[v]at d;cases H:aH s.sh (a:Int) with
   |some j=>rw[H]at d;exact h.pos C i d
   |none =>
    rw[H]at d;simp only[cQ]at d;split at d
    ·obtain rfl:=oJ_ d;exact h.pos _ _ v
    ·exact h.pos C i d
 ·have o:C ≠ b:=λf=>by grind[gQ]
  show ix _ _ _ (cN (lZ s.sh a b) C);rw[ad8 o g];split
  ·rename_i f;subst f;exact B.merge F g
  ·rename_i f;exact (h.zG C l (G7 g n e)).other f o
 ·have o:C ≠ b:=λf=>by grind[gQ]
  show sG _ _ _ (aH (lq s.ls a b) (C:Int));rw[ah9 o g];split
  ·rename_i f;subst f;exact (h.aR C z n).merge (h.aR b A t) g
  ·rename_i f;exact (h.aR C l (G7 g n e)).other f o
 ·have P:=h.Ug C l;show aH (lZ s.sh a b) (C:Int)=none;unfold lZ;split
  ·grind[cQ]
  ·grind
 ·have P:=h.ZW C l;show aH (lq s.ls a b) (C:Int)=none;unfold lq;split
  ·grind[cQ]
  ·grind
theorem CM {α:Type}:∀(l:List α),l=[]\/∃a x,l=a++[x]
 |[]=>.inl rfl
 |x::l=>.inr (by
  rcases CM l with rfl|⟨a,y,rfl⟩
  ·exact⟨[],x,rfl⟩
  ·exact⟨x::a,y,rfl⟩)
theorem abG {K:Nat}(hK:∀i,i < N.length->(ks N i).length<=K) (n m:Nat):∀{c:Nat->Nat}{ps:List (Nat × Nat)}{s:JS},gI c N.length=n->ps.length=m->m+K*n<=1099511627776->o_ E N D c ps s ->
  ∃f b a,iS N f ps s=some (b,a)/\(b=true->∃c',o_ E N D c' [] a)/\(b=false->¬ ∃f,uD E f):=by
 induction n using Nat.strongRecOn generalizing m with
 |ind n d =>
  induction m with
  |zero =>
   intro c ps s A B W h;obtain rfl:=bt_.1 B;exact⟨1,true,s,rfl,λ_=>⟨c,h⟩,λe=>by grind⟩
  |succ m C =>
   intro c ps s A B W h;rcases CM ps with rfl|⟨p0,p,rfl⟩
   ·grind
   ·rw[af_,bi_]at B;obtain⟨x,y⟩:=p;obtain⟨X,Y,Z⟩:=h.gi.nH (x,y) (by simp);simp only at X Y Z;obtain⟨J,u⟩:=h.uf;have hl:=h.len;obtain⟨u1,r1,EV,l1⟩:=u.ko (k:=x) (by omega);obtain⟨g,r2,L,l2⟩:=EV.ko (k:=y) (by omega);have M:iT E N D c ((x,y)::p0):=h.gi.perm λp=>by grind
    have e0:∀f,iS N (f+1) (p0++[(x,y)]) s=if c x=c y then iS N f p0 ⟨g,s.sh,s.ls⟩ else
     match aH s.sh (c x:Int),aH s.sh (c y:Int) with
     |some i,some k=>match N[i.toNat]?,N[k.toNat]? with
      |some (t,l),some (t',O)=>if 0<=i/\0<=k then (if qu t t' then (if l.length=O.length then iS N f (p0++l.zip O) ⟨g.set (c y) (c x),lZ s.sh (c x) (c y),lq s.ls (c x) (c y)⟩ else none) else some (false,⟨g,s.sh,s.ls⟩)) else none
      |_,_=>none
     |_,_=>iS N f p0 ⟨g.set (c y) (c x),lZ s.sh (c x) (c y),lq s.ls (c x) (c y)⟩:=λf=>by
     rw[iS,if_neg (by grind)];simp only[List.getLast?_append,List.getLast?_singleton,Option.some_or,r1,r2,dw_]
    by_cases e:c x=c y
    ·have o:o_ E N D c p0 ⟨g,s.sh,s.ls⟩:=⟨M.pop e,⟨J,L⟩,by grind,h.pos,h.zG,h.aR,h.Ug,h.ZW⟩;obtain⟨f,b,a,v,q⟩:=C A (by omega) (by omega) o;exact⟨f+1,b,a,by grind,q⟩
    ·have la:c x < N.length:=by have:=(u.rt x (by omega)).2;omega
     have P:c y < N.length:=by have:=(u.rt y (by omega)).2;omega
     have Q:c (c x)=c x:=u.cc (by omega);have F:c (c y)=c y:=u.cc (by omega);have R:=h.zG _ la Q;have S:=h.zG _ P F;have w:gI (gQ c (c x) (c y)) N.length < n:=by
      rw[<-A];refine ym (λi=>G7 e Q) F (λG=>?_) _ P;unfold gQ at G;rw[F,if_pos rfl]at G;exact e G
     have hmul:K*gI (gQ c (c x) (c y)) N.length+K<=K*n:=by rw[<-Nat.mul_succ];exact Nat.mul_le_mul_left K w
     have r:∃h,UF g c h:=⟨J,L⟩;cases T:aH s.sh (c x:Int) with
     |none =>
      have f1:cN s.sh (c x)=none:=by grind[cN]
      have o:=h.merge rfl rfl e (P':=p0) (λp=>by grind[ni]) (λi j hi=>by grind) r (by omega);obtain⟨f,b,a,v,q⟩:=d _ w p0.length rfl rfl (by omega) o;exact⟨f+1,b,a,by grind,q⟩
     |some i =>
      cases V:aH s.sh (c y:Int) with
      |none =>
       have f1:cN s.sh (c y)=none:=by grind[cN]
       have o:=h.merge rfl rfl e (P':=p0) (λp=>by grind[cN,ni]) (λi j _ hj=>by grind) r (by omega);obtain⟨f,b,a,v,q⟩:=d _ w p0.length rfl rfl (by omega) o;exact⟨f+1,b,a,by grind,q⟩
      |some k =>
       have f1:cN s.sh (c x)=some i.toNat:=by grind[cN]
       have f2:cN s.sh (c y)=some k.toNat:=by grind[cN]
       rw[f1]at R;rw[f2]at S;obtain⟨H,ZX,ZY⟩:=R;obtain⟨I,ZZ,Z0⟩:=S;have hp:0<=i/\0<=k:=⟨h.pos _ _ T,h.pos _ _ V⟩;cases z:qu (tn N i.toNat) (tn N k.toNat) with
       |false =>
        refine⟨1,false,⟨g,s.sh,s.ls⟩,?_,λe=>(by grind),λ_=>?_⟩
        ·grind[wE]
        ·exact M.ZS (s:=i.toNat) (t:=k.toNat) ⟨H,ZX,ZY⟩ ⟨I,ZZ,Z0⟩ λh=>by rw[A7.2 h]at z;cases z
       |true =>
        have aT:=A7.1 z;have hlen:(ks N i.toNat).length=(ks N k.toNat).length:=by rw[mD h.gi.g H,mD h.gi.g I,aT.2.2.2]
        have o:=h.merge rfl rfl e (P':=p0++(ks N i.toNat).zip (ks N k.toNat)) (λp=>by grind[ni,KX]) (λi' j' hi hj=>by grind) r (by omega);obtain⟨f,b,a,v,q⟩:=d _ w _ rfl rfl (by grind) o;refine⟨f+1,b,a,?_,q⟩;rw[e0,if_neg e,T,V];simp only[wE H,wE I,if_pos hp,z,if_true,if_pos hlen];exact v
end
end Go.Proofs.YtbpabjmnhggajaaGreat
