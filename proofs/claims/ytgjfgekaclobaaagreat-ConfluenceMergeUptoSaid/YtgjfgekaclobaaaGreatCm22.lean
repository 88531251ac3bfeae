import Derived.Test.YtgjfgekaclobaaaGreatCm21
namespace Go.Proofs.YtgjfgekaclobaaaGreat
set_option linter.unusedVariables false
set_option linter.unusedSimpArgs false
open Go.RowKit
section
instance:Inhabited Tm:=⟨⟨0,0,⟨#[]⟩,[]⟩⟩
theorem Ji {a b:ByteArray}:a.toList=b.toList ↔ a=b:=⟨fun h=>by rw [ByteArray.toList_eq,ByteArray.toList_eq] at h;cases a;cases b;simp only [ByteArray.mk.injEq];exact Array.toList_inj.1 h,fun h=>h ▸ rfl⟩
def vr (v:Int):Tm:=⟨1,v,⟨#[]⟩,[]⟩
mutual
def fL (f:Int->Tm):Tm->Tm
 |⟨k,i,n,a⟩=>if k=1 then f i else ⟨k,i,n,pD f a⟩
def pD (f:Int->Tm):List Tm->List Tm
 |[]=>[]
 |x::l=>fL f x::pD f l
end
theorem qD (f:Int->Tm) (v:Int):fL f (vr v)=f v:=by rw [vr,fL,if_pos rfl]
theorem zF (f:Int->Tm):∀ l,pD f l=l.map (fL f)
 |[]=>by rw [pD];rfl
 |x::l=>by rw [pD,zF f l];rfl
mutual
def nK (v:Int):Tm->Prop
 |⟨k,i,n,a⟩=>if k=1 then i=v else pE v a
def pE (v:Int):List Tm->Prop
 |[]=>False
 |x::l=>nK v x\/pE v l
end
mutual
def dP:Tm->Prop
 |⟨k,i,n,a⟩=>if k=1 then n=⟨#[]⟩/\a=[] else gd a/\(k=2\/a=[])
def gd:List Tm->Prop
 |[]=>True
 |x::l=>dP x/\gd l
end
theorem gd.mem:∀ {l:List Tm},gd l->∀ x ∈ l,dP x
 |y::l,h,x,hx=>by
  rw [gd] at h
  rcases List.mem_cons.1 hx with rfl|hx
  ·exact h.1
  ·exact h.2.mem x hx
theorem yI:∀ {l:List Tm},(∀ x ∈ l,dP x)->gd l
 |[],_=>by rw [gd];trivial
 |y::l,h=>by rw [gd];exact⟨h y (by simp),yI fun x hx=>h x (by simp [hx])⟩
theorem zG {v:Int}:∀ {l:List Tm},pE v l ↔ ∃ x ∈ l,nK v x
 |[]=>by rw [pE];simp
 |y::l=>by rw [pE,zG];simp
theorem Bz {t:Tm}(h:dP t) (hk:t.k=1):t=vr t.i:=by
 obtain⟨k,i,n,a⟩:=t
 obtain rfl:k=1:=hk
 rw [dP,if_pos rfl] at h
 obtain⟨rfl,rfl⟩:=h
 rfl
mutual
theorem D7 {f:Int->Tm}:∀ {t:Tm},dP t->(∀ w,nK w t->f w=vr w)->fL f t=t
 |⟨k,i,n,a⟩,h,ho=>by
  rw [fL]
  split
  ·rename_i hk
   rw [ho i (by rw [nK,if_pos hk])]
   exact (Bz h hk).symm
  ·rename_i hk
   rw [dP,if_neg hk] at h
   rw [BA h.1 fun w hw=>ho w (by rw [nK,if_neg hk];exact hw)]
theorem BA {f:Int->Tm}:∀ {l:List Tm},gd l->(∀ w,pE w l->f w=vr w)->pD f l=l
 |[],_,_=>by rw [pD]
 |x::l,h,ho=>by
  rw [gd] at h
  rw [pD,D7 h.1 fun w hw=>ho w (by rw [pE];exact .inl hw),BA h.2 fun w hw=>ho w (by rw [pE];exact .inr hw)]
end
def qE (E:List (Tm × Tm)) (f:Int->Tm):Prop:=∀ e ∈ E,fL f e.1=fL f e.2
structure tj (E:List (Tm × Tm)) (s:Int->Tm):Prop where
 wf:∀ v,dP (s v)
 idem:∀ v w,nK w (s v)->s w=vr w
 low:∀ v w,s v=vr w->w<=v
 D8:qE E s
 gen:∀ f,qE E f->∀ v,f v=fL f (s v)
theorem tj.uniq {E:List (Tm × Tm)}{s t:Int->Tm}(hs:tj E s) (ht:tj E t):s=t:=by
 have key:∀ {f g:Int->Tm},tj E f->tj E g->∀ v,f v=vr v->g v=vr v:=by
  intro f g hf hg v hv
  have h:=hf.gen
  have h1:=hg.gen f hf.D8 v
  rw [hv] at h1
  have h2:(g v).k=1:=by
   have hw:=hg.wf v
   generalize g v=t at h1 hw
   obtain⟨k,i,n,a⟩:=t
   rw [fL] at h1
   split at h1
   ·assumption
   ·injection h1 with h1;exact h1.symm
  have h3:=Bz (hg.wf v) h2
  generalize (g v).i=w at h3
  rw [h3,qD] at h1
  have h4:=hf.low _ _ h1.symm
  have h5:=hg.low _ _ h3
  rw [h3,show w=v by omega]
 funext v
 rw [hs.gen s hs.D8 v]
 have h1:=ht.gen s hs.D8 v
 rw [<-hs.gen s hs.D8 v,h1]
 exact D7 (ht.wf v) fun w hw=>key ht hs w (ht.idem v w hw)
abbrev aU:=List (Tm × List Nat)
def tn (N:aU) (i:Nat):Tm:=((N[i]?).getD default).1
def ks (N:aU) (i:Nat):List Nat:=((N[i]?).getD default).2
structure gI (N:aU):Prop where
 lt:∀ i,i < N.length->∀ j ∈ ks N i,j < i
 args:∀ i,i < N.length->(tn N i).a=(ks N i).map (tn N)
 wf:∀ i,i < N.length->dP (tn N i)
 one:∀ i j,i < N.length->j < N.length->(tn N i).k=1->(tn N j).k=1->(tn N i).i=(tn N j).i->i=j
def Sound (E:List (Tm × Tm)) (N:aU) (i j:Nat):Prop:=∀ f,qE E f->fL f (tn N i)=fL f (tn N j)
def alike (s t:Tm):Prop:=s.k=t.k/\s.i=t.i/\s.n=t.n/\s.a.length=t.a.length
structure nq (E:List (Tm × Tm)) (N:aU) (c:Nat->Nat):Prop where
 g:gI N
 sound:∀ i j,i < N.length->j < N.length->c i=c j->Sound E N i j
 eqs:∀ e ∈ E,∃ i j,i < N.length/\j < N.length/\tn N i=e.1/\tn N j=e.2/\c i=c j
 al:∀ i j,i < N.length->j < N.length->c i=c j->(tn N i).k ≠ 1->(tn N j).k ≠ 1->alike (tn N i) (tn N j)/\(ks N i).map c=(ks N j).map c
structure uK (N:aU) (c:Nat->Nat) (T:Nat->Tm):Prop where
 shaped:∀ i,i < N.length->(tn N i).k ≠ 1->T (c i)=⟨(tn N i).k,(tn N i).i,(tn N i).n,(ks N i).map fun j=>T (c j)⟩
 plain:∀ i,i < N.length->(∀ j,j < N.length->c j=c i->(tn N j).k=1)->∃ j,j < N.length/\c j=c i/\T (c i)=vr (tn N j).i/\∀ j',j' < N.length->c j'=c i->(tn N j).i<=(tn N j').i
theorem nr {f:Int->Tm}{t:Tm}(h:t.k ≠ 1):fL f t=⟨t.k,t.i,t.n,t.a.map (fL f)⟩:=by
 obtain⟨k,i,n,a⟩:=t
 rw [fL,if_neg h,zF]
theorem BB {f:Int->Tm}{t:Tm}(h:t.k=1):fL f t=f t.i:=by
 obtain⟨k,i,n,a⟩:=t
 rw [fL,if_pos h]
theorem Sk {E:List (Tm × Tm)}{N:aU}{i j:Nat}(h:Sound E N i j) (hi:(tn N i).k ≠ 1) (hj:(tn N j).k ≠ 1) (hn:¬ alike (tn N i) (tn N j)):¬ ∃ f,qE E f:=by
 rintro⟨f,hf⟩
 have:=h f hf
 rw [nr hi,nr hj] at this
 injection this with h1 h2 h3 h4
 exact hn ⟨h1,h2,h3,by simpa using congrArg List.length h4⟩
theorem Fc {E:List (Tm × Tm)}{N:aU}(g:gI N) {i j:Nat}(eL:i < N.length) (eJ:j < N.length) (h:Sound E N i j) (hi:(tn N i).k ≠ 1) (hj:(tn N j).k ≠ 1) {p a b:Nat}(ha:(ks N i)[p]?=some a) (hb:(ks N j)[p]?=some b):Sound E N a b:=by
 intro f hf
 have:=h f hf
 rw [nr hi,nr hj] at this
 injection this with h1 h2 h3 h4
 rw [g.args i eL,g.args j eJ] at h4
 have:=congrArg (fun l=>l[p]?) h4
 simpa [ha,hb] using this
mutual
def gp:Tm->Nat
 |⟨k,i,n,a⟩=>dU a+1
def dU:List Tm->Nat
 |[]=>0
 |x::l=>gp x+dU l
end
theorem uL:∀ {l:List Tm},∀ x ∈ l,gp x<=dU l
 |y::l,x,h=>by
  rw [dU]
  rcases List.mem_cons.1 h with rfl|h
  ·omega
  ·have:=uL x h;omega
def nt (N:aU) (c:Nat->Nat) (r:Nat->Nat):Prop:=∀ i,i < N.length->(tn N i).k ≠ 1->∀ j ∈ ks N i,r (c j) < r (c i)
theorem Jj {E:List (Tm × Tm)}{N:aU}{c:Nat->Nat}(g:gI N) (hs:∀ i j,i < N.length->j < N.length->c i=c j->Sound E N i j) (h:∃ f,qE E f):∃ r,nt N c r:=by
 obtain⟨f,hf⟩:=h
 have key:∀ C,∃ n,∀ i,i < N.length->c i=C->gp (fL f (tn N i))=n:=by
  intro C
  by_cases hC:∃ i,i < N.length/\c i=C
  ·obtain⟨i,hi,hC⟩:=hC
   exact⟨_,fun j hj hc=>by rw [hs j i hj hi (hc.trans hC.symm) f hf]⟩
  ·exact⟨0,fun i hi hc=>absurd ⟨i,hi,hc⟩ hC⟩
 refine⟨fun C=>(key C).choose,fun i hi hk j hj=>?_⟩
 have aB:=g.lt i hi j hj
 show (key (c j)).choose < (key (c i)).choose
 rw [<-(key (c i)).choose_spec i hi rfl,<-(key (c j)).choose_spec j (by omega) rfl,nr hk,gp]
 have:=uL (l:=(tn N i).a.map (fL f)) (fL f (tn N j)) (by
  rw [g.args i hi,List.map_map]
  exact List.mem_map.2 ⟨j,hj,rfl⟩)
 omega
section
variable {E:List (Tm × Tm)}{N:aU}{c:Nat->Nat}{T:Nat->Tm}{r:Nat->Nat}
theorem zH (hC:nq E N c) (hT:uK N c T) (hr:nt N c r) {f:Int->Tm}(hf:qE E f):∀ (m i:Nat),r (c i) < m->i < N.length->fL f (tn N i)=fL f (T (c i))
 |0,i,h,_=>by omega
 |m+1,i,h,hi=>by
  by_cases hp:∀ j,j < N.length->c j=c i->(tn N j).k=1
  ·obtain⟨j,hj,hc,ht,_⟩:=hT.plain i hi hp
   rw [ht,hC.sound i j hi hj hc.symm f hf,BB (hp j hj hc),vr,fL,if_pos rfl]
  ·obtain⟨j,hj,hc,hk⟩:∃ j,j < N.length/\c j=c i/\(tn N j).k ≠ 1:=by
    apply Classical.byContradiction
    intro h2
    exact hp fun j hj hc=>Classical.byContradiction fun hk=>h2 ⟨j,hj,hc,hk⟩
   rw [<-hc,hT.shaped j hj hk,hC.sound i j hi hj hc.symm f hf,nr hk,nr (t:=⟨_,_,_,_⟩) hk,hC.g.args j hj]
   simp only [List.map_map,Tm.mk.injEq,true_and]
   refine List.map_congr_left fun p hp=>?_
   have h1:=hC.g.lt j hj p hp
   have h2:=hr j hj hk p hp
   exact zH hC hT hr hf m p (by rw [hc] at h2;omega) (by omega)
theorem tp (hC:nq E N c) (hT:uK N c T) {f:Int->Tm}(hf:∀ i,i < N.length->(tn N i).k=1->f (tn N i).i=T (c i)):∀ (m i:Nat),i < m->i < N.length->fL f (tn N i)=T (c i)
 |0,i,h,_=>by omega
 |m+1,i,h,hi=>by
  by_cases hk:(tn N i).k=1
  ·rw [BB hk,hf i hi hk]
  ·rw [nr hk,hT.shaped i hi hk,hC.g.args i hi]
   simp only [List.map_map,Tm.mk.injEq,true_and]
   refine List.map_congr_left fun p hp=>?_
   have h1:=hC.g.lt i hi p hp
   exact tp hC hT hf m p (by omega) (by omega)
theorem wz (hC:nq E N c) (hT:uK N c T) (hr:nt N c r):∀ (m i:Nat),r (c i) < m->i < N.length->dP (T (c i))/\∀ w,nK w (T (c i))->∃ j,j < N.length/\(tn N j).k=1/\(tn N j).i=w/\T (c j)=vr w
 |0,i,h,_=>by omega
 |m+1,i,h,hi=>by
  by_cases hp:∀ j,j < N.length->c j=c i->(tn N j).k=1
  ·obtain⟨j,hj,hc,ht,_⟩:=hT.plain i hi hp
   rw [ht]
   refine⟨by rw [vr,dP,if_pos rfl];exact⟨rfl,rfl⟩,fun w hw=>?_⟩
   rw [vr,nK,if_pos rfl] at hw
   exact⟨j,hj,hp j hj hc,hw,by rw [hc,ht,hw]⟩
  ·obtain⟨j,hj,hc,hk⟩:∃ j,j < N.length/\c j=c i/\(tn N j).k ≠ 1:=by
    apply Classical.byContradiction
    intro h2
    exact hp fun j hj hc=>Classical.byContradiction fun hk=>h2 ⟨j,hj,hc,hk⟩
   have ih:∀ p ∈ ks N j,_:=fun p hp=>wz hC hT hr m p (by have:=hr j hj hk p hp;rw [hc] at this;omega) (by have:=hC.g.lt j hj p hp;omega)
   rw [<-hc,hT.shaped j hj hk,dP,if_neg hk]
   refine⟨⟨yI fun x hx=>?_,?_⟩,fun w hw=>?_⟩
   ·obtain⟨p,hp,rfl⟩:=List.mem_map.1 hx
    exact (ih p hp).1
   ·have h1:=hC.g.wf j hj
    have h2:=hC.g.args j hj
    generalize tn N j=t at h1 h2 hk
    obtain⟨k,i',n,a⟩:=t
    rw [dP,if_neg hk] at h1
    refine h1.2.imp_right fun e=>?_
    simp only at h2
    rw [e] at h2
    rw [List.map_eq_nil_iff.1 h2.symm];rfl
   ·rw [nK,if_neg hk,zG] at hw
    obtain⟨x,hx,hw⟩:=hw
    obtain⟨p,hp,rfl⟩:=List.mem_map.1 hx
    exact (ih p hp).2 w hw
open Classical in
noncomputable def xx (N:aU) (c:Nat->Nat) (T:Nat->Tm) (v:Int):Tm:=if h:∃ i,i < N.length/\(tn N i).k=1/\(tn N i).i=v then T (c h.choose) else vr v
theorem uM (g:gI N) {i:Nat}(hi:i < N.length) (hk:(tn N i).k=1):xx N c T (tn N i).i=T (c i):=by
 unfold xx
 have h:∃ j,j < N.length/\(tn N j).k=1/\(tn N j).i=(tn N i).i:=⟨i,hi,hk,rfl⟩
 rw [dif_pos h,g.one _ _ h.choose_spec.1 hi h.choose_spec.2.1 hk h.choose_spec.2.2]
theorem BC {v:Int}(h:¬ ∃ i,i < N.length/\(tn N i).k=1/\(tn N i).i=v):xx N c T v=vr v:=by unfold xx;rw [dif_neg h]
theorem K5 (hC:nq E N c) (hT:uK N c T) (hr:nt N c r):tj E (xx N c T):=by
 have hv:∀ v,(∃ i,i < N.length/\(tn N i).k=1/\(tn N i).i=v/\xx N c T v=T (c i))\/xx N c T v=vr v:=fun v=>by
  by_cases h:∃ i,i < N.length/\(tn N i).k=1/\(tn N i).i=v
  ·obtain⟨i,hi,hk,rfl⟩:=h
   exact .inl ⟨i,hi,hk,rfl,uM hC.g hi hk⟩
  ·exact .inr (BC h)
 refine⟨fun v=>?_,fun v w hw=>?_,fun v w hw=>?_,fun e he=>?_,fun f hf v=>?_⟩
 ·rcases hv v with ⟨i,hi,hk,hiv,e⟩|e
  ·rw [e];exact (wz hC hT hr _ i (Nat.lt_succ_self _) hi).1
  ·rw [e,vr,dP,if_pos rfl];exact⟨rfl,rfl⟩
 ·rcases hv v with ⟨i,hi,hk,hiv,e⟩|e
  ·rw [e] at hw
   obtain⟨j,hj,hk,rfl,hT⟩:=(wz hC hT hr _ i (Nat.lt_succ_self _) hi).2 w hw
   rw [uM hC.g hj hk,hT]
  ·rw [e,vr,nK,if_pos rfl] at hw
   rw [<-hw,e]
 ·rcases hv v with ⟨i,hi,hk,rfl,e⟩|e
  ·rw [e] at hw
   by_cases hp:∀ j,j < N.length->c j=c i->(tn N j).k=1
   ·obtain⟨j,hj,hc,ht,hm⟩:=hT.plain i hi hp
    rw [ht,vr,vr,Tm.mk.injEq] at hw
    rw [<-hw.2.1]
    exact hm i hi rfl
   ·obtain⟨j,hj,hc,hk⟩:∃ j,j < N.length/\c j=c i/\(tn N j).k ≠ 1:=by
     apply Classical.byContradiction
     intro h2
     exact hp fun j hj hc=>Classical.byContradiction fun hk=>h2 ⟨j,hj,hc,hk⟩
    rw [<-hc,hT.shaped j hj hk,vr,Tm.mk.injEq] at hw
    exact absurd hw.1 hk
  ·rw [e,vr,vr,Tm.mk.injEq] at hw
   omega
 ·obtain⟨i,j,hi,hj,h1,h2,hc⟩:=hC.eqs e he
  have NL:∀ i,i < N.length->(tn N i).k=1->xx N c T (tn N i).i=T (c i):=fun i hi hk=>uM hC.g hi hk
  rw [<-h1,<-h2,tp hC hT NL _ i (Nat.lt_succ_self _) hi,tp hC hT NL _ j (Nat.lt_succ_self _) hj,hc]
 ·rcases hv v with ⟨i,hi,hk,rfl,e⟩|e
  ·rw [e,<-zH hC hT hr hf _ i (Nat.lt_succ_self _) hi,BB hk]
  ·rw [e,vr,fL,if_pos rfl]
end
def Rel (c:Nat->Nat) (P:List (Nat × Nat)) (i j:Nat):Prop:=∀ d:Nat->Nat,(∀ x y,c x=c y->d x=d y)->(∀ p ∈ P,d p.1=d p.2)->d i=d j
structure gT (E:List (Tm × Tm)) (N:aU) (D:List (Nat × Nat)) (c:Nat->Nat) (P:List (Nat × Nat)):Prop where
 g:gI N
 sound:∀ i j,i < N.length->j < N.length->c i=c j->Sound E N i j
 jO:∀ p ∈ P,p.1 < N.length/\p.2 < N.length/\Sound E N p.1 p.2
 eqs:∀ p ∈ D,Rel c P p.1 p.2
 al:∀ i j,i < N.length->j < N.length->c i=c j->(tn N i).k ≠ 1->(tn N j).k ≠ 1->alike (tn N i) (tn N j)/\∀ q a b:Nat,(ks N i)[q]?=some a->(ks N j)[q]?=some b->Rel c P a b
theorem alike.refl (t:Tm):alike t t:=⟨rfl,rfl,rfl,rfl⟩
theorem alike.symm {s t:Tm}(h:alike s t):alike t s:=⟨h.1.symm,h.2.1.symm,h.2.2.1.symm,h.2.2.2.symm⟩
theorem alike.trans {s t u:Tm}(h:alike s t) (k:alike t u):alike s u:=⟨h.1.trans k.1,h.2.1.trans k.2.1,h.2.2.1.trans k.2.2.1,h.2.2.2.trans k.2.2.2⟩
section
variable {E:List (Tm × Tm)}{N:aU}{D P P':List (Nat × Nat)}{c c':Nat->Nat}
theorem Rel.mono {i j:Nat}(h:Rel c P i j) (hc:∀ d:Nat->Nat,(∀ x y,c' x=c' y->d x=d y)->(∀ p ∈ P',d p.1=d p.2)->(∀ x y,c x=c y->d x=d y)/\∀ p ∈ P,d p.1=d p.2):Rel c' P' i j:=fun d h1 h2=>h d (hc d h1 h2).1 (hc d h1 h2).2
theorem gT.mono (h:gT E N D c P) (hp:∀ p ∈ P',p.1 < N.length/\p.2 < N.length/\Sound E N p.1 p.2) (hc:∀ d:Nat->Nat,(∀ x y,c x=c y->d x=d y)->(∀ p ∈ P',d p.1=d p.2)->∀ p ∈ P,d p.1=d p.2):gT E N D c P':=by
 have key:∀ {i j},Rel c P i j->Rel c P' i j:=fun h=>h.mono fun d h1 h2=>⟨h1,hc d h1 h2⟩
 exact⟨h.g,h.sound,hp,fun p hp=>key (h.eqs p hp),fun i j hi hj e k1 k2=>⟨(h.al i j hi hj e k1 k2).1,fun q a b ha hb=>key ((h.al i j hi hj e k1 k2).2 q a b ha hb)⟩⟩
theorem gT.perm (h:gT E N D c P) (hp:∀ p,p ∈ P' ↔ p ∈ P):gT E N D c P':=h.mono (fun p h1=>h.jO p ((hp p).1 h1)) fun d _ h2 p h1=>h2 p ((hp p).2 h1)
theorem gT.pop {x y:Nat}(h:gT E N D c ((x,y)::P)) (e:c x=c y):gT E N D c P:=h.mono (fun p h1=>h.jO p (.tail _ h1)) fun d h1 h2 p h3=>by
 rcases List.mem_cons.1 h3 with rfl|h3
 ·exact h1 _ _ e
 ·exact h2 p h3
def eh (c:Nat->Nat) (a b:Nat) (i:Nat):Nat:=if c i=b then a else c i
def AJ (N:aU) (i j:Nat):List (Nat × Nat):=(ks N i).zip (ks N j)
def kR (N:aU):Option Nat->Option Nat->List (Nat × Nat)
 |some s,some t=>AJ N s t
 |_,_=>[]
theorem QA {α β:Type}{l:List α}{m:List β}{q:Nat}{a:α}{b:β}(ha:l[q]?=some a) (hb:m[q]?=some b):(a,b) ∈ l.zip m:=List.mem_iff_getElem?.2 ⟨q,by rw [List.getElem?_zip_eq_some];exact⟨ha,hb⟩⟩
def eS (N:aU) (c:Nat->Nat) (C:Nat):Option Nat->Prop
 |none=>∀ i,i < N.length->c i=C->(tn N i).k=1
 |some s=>s < N.length/\c s=C/\(tn N s).k ≠ 1
theorem jx (g:gI N) {i:Nat}(hi:i < N.length):(ks N i).length=(tn N i).a.length:=by rw [g.args i hi,List.length_map]
theorem K6 {x y:Nat}{d:Nat->Nat}(h1:∀ u v,eh c (c x) (c y) u=eh c (c x) (c y) v->d u=d v):(∀ u v,c u=c v->d u=d v)/\d x=d y:=by
 refine⟨fun u v e=>h1 u v (by unfold eh;rw [e]),h1 x y ?_⟩
 unfold eh
 rw [if_pos rfl]
 split<;>rfl
theorem Jk {x y:Nat}(hs:∀ i j,i < N.length->j < N.length->c i=c j->Sound E N i j) (hx:x < N.length) (hy:y < N.length) (ib:Sound E N x y):∀ i j,i < N.length->j < N.length->eh c (c x) (c y) i=eh c (c x) (c y) j->Sound E N i j:=by
 intro i j hi hj e f hf
 have h0:=ib f hf
 unfold eh at e
 split at e
 ·rename_i h1
  split at e
  ·rename_i h2
   rw [hs i y hi hy h1 f hf,hs j y hj hy h2 f hf]
  ·rw [hs i y hi hy h1 f hf,<-h0,hs x j hx hj e f hf]
 ·rename_i h1
  split at e
  ·rename_i h2
   rw [hs i x hi hx e f hf,h0,hs y j hy hj h2.symm f hf]
  ·exact hs i j hi hj e f hf
theorem gT.merge {x y:Nat}(h:gT E N D c ((x,y)::P)) {sa sb:Option Nat}(ha:eS N c (c x) sa) (hb:eS N c (c y) sb) (aH:∀ s t,sa=some s->sb=some t->alike (tn N s) (tn N t)) :
  gT E N D (eh c (c x) (c y)) (kR N sa sb++P):=by
 obtain⟨hx,hy,ib⟩:=h.jO _ (.head _)
 have hs:=Jk h.sound hx hy ib
 obtain⟨Q,hQ⟩:∃ Q,Q=kR N sa sb:=⟨_,rfl⟩
 rw [<-hQ]
 have Zl:∀ s t,sa=some s->sb=some t->Q=AJ N s t:=fun s t e1 e2=>by rw [hQ,e1,e2];rfl
 have key:∀ {i j},Rel c ((x,y)::P) i j->Rel (eh c (c x) (c y)) (Q++P) i j:=fun hr=>hr.mono fun d h1 h2=>by
  obtain⟨k1,k2⟩:=K6 h1
  refine⟨k1,fun p hp=>?_⟩
  rcases List.mem_cons.1 hp with rfl|hp
  ·exact k2
  ·exact h2 p (List.mem_append_right _ hp)
 have NM:∀ i j,i < N.length->j < N.length->c i=c x->c j=c y->(tn N i).k ≠ 1->(tn N j).k ≠ 1->alike (tn N i) (tn N j)/\∀ q a b:Nat,(ks N i)[q]?=some a->(ks N j)[q]?=some b->Rel (eh c (c x) (c y)) (Q++P) a b:=by
  intro i j hi hj ei ej ki kj
  cases sa with
  |none=>exact absurd (ha i hi ei) ki
  |some s =>
   cases sb with
   |none=>exact absurd (hb j hj ej) kj
   |some t =>
    obtain⟨j_,mM,Jl⟩:=ha
    obtain⟨D9,dQ,Sl⟩:=hb
    obtain⟨a1,a2⟩:=h.al i s hi j_ (ei.trans mM.symm) ki Jl
    obtain⟨b1,b2⟩:=h.al t j D9 hj (dQ.trans ej.symm) Sl kj
    have jS:=aH s t rfl rfl
    refine⟨(a1.trans jS).trans b1,fun q a b Zm hqb=>?_⟩
    have l1:q < (ks N i).length:=(List.getElem?_eq_some_iff.1 Zm).1
    have l2:(ks N i).length=(ks N s).length:=by rw [jx h.g hi,jx h.g j_,a1.2.2.2]
    have l3:(ks N s).length=(ks N t).length:=by rw [jx h.g j_,jx h.g D9,jS.2.2.2]
    have Zn:(ks N s)[q]?=some ((ks N s)[q]'(by omega)):=List.getElem?_eq_getElem _
    have NN:(ks N t)[q]?=some ((ks N t)[q]'(by omega)):=List.getElem?_eq_getElem _
    intro d h1 h2
    refine (key (a2 q _ _ Zm Zn) d h1 h2).trans (Eq.trans ?_ (key (b2 q _ _ NN hqb) d h1 h2))
    have:=QA Zn NN
    exact h2 _ (List.mem_append_left _ (by rw [Zl s t rfl rfl];exact this))
 have Sm:∀ i j,i < N.length->j < N.length->c i=c y->c j=c x->(tn N i).k ≠ 1->(tn N j).k ≠ 1->alike (tn N i) (tn N j)/\∀ q a b:Nat,(ks N i)[q]?=some a->(ks N j)[q]?=some b->Rel (eh c (c x) (c y)) (Q++P) a b:=fun i j hi hj ei ej ki kj=>by
  obtain⟨h1,h2⟩:=NM j i hj hi ej ei kj ki
  exact⟨h1.symm,fun q a b ha hb d k1 k2=>(h2 q b a hb ha d k1 k2).symm⟩
 refine⟨h.g,hs,fun p hp=>?_,fun p hp=>key (h.eqs p hp),fun i j hi hj e ki kj=>?_⟩
 ·rcases List.mem_append.1 hp with hp|hp
  ·cases sa with
   |none=>rw [hQ] at hp;cases sb<;>cases hp
   |some s =>
    cases sb with
    |none=>rw [hQ] at hp;cases hp
    |some t =>
     obtain⟨j_,mM,Jl⟩:=ha
     obtain⟨D9,dQ,Sl⟩:=hb
     rw [Zl s t rfl rfl] at hp
     obtain⟨q,hq⟩:=List.mem_iff_getElem?.1 hp
     unfold AJ at hq
     obtain⟨p1,p2⟩:=p
     rw [List.getElem?_zip_eq_some] at hq
     have jS:Sound E N s t:=fun f hf=>by rw [h.sound s x j_ hx mM f hf,ib f hf,h.sound y t hy D9 dQ.symm f hf]
     have m1:=h.g.lt s j_ p1 (List.mem_of_getElem? hq.1)
     have m2:=h.g.lt t D9 p2 (List.mem_of_getElem? hq.2)
     exact⟨by simp only;omega,by simp only;omega,Fc h.g j_ D9 jS Jl Sl hq.1 hq.2⟩
  ·exact h.jO p (.tail _ hp)
 ·unfold eh at e
  split at e
  ·rename_i h1
   split at e
   ·rename_i h2
    obtain⟨k1,k2⟩:=h.al i j hi hj (h1.trans h2.symm) ki kj
    exact⟨k1,fun q a b ha hb=>key (k2 q a b ha hb)⟩
   ·exact Sm i j hi hj h1 e.symm ki kj
  ·rename_i h1
   split at e
   ·rename_i h2
    exact NM i j hi hj e h2 ki kj
   ·obtain⟨k1,k2⟩:=h.al i j hi hj e ki kj
    exact⟨k1,fun q a b ha hb=>key (k2 q a b ha hb)⟩
theorem gT.UE {x y:Nat}(h:gT E N D c ((x,y)::P)) {s t:Nat}(ha:eS N c (c x) (some s)) (hb:eS N c (c y) (some t)) (hn:¬ alike (tn N s) (tn N t)):¬ ∃ f,qE E f:=by
 obtain⟨hx,hy,ib⟩:=h.jO _ (.head _)
 exact Sk (N:=N) (i:=s) (j:=t) (fun f hf=>by rw [h.sound s x ha.1 hx ha.2.1 f hf,ib f hf,h.sound y t hy hb.1 hb.2.1.symm f hf]) ha.2.2 hb.2.2 hn
theorem gT.closed (h:gT E N D c []) (hD:∀ e ∈ E,∃ p ∈ D,p.1 < N.length/\p.2 < N.length/\tn N p.1=e.1/\tn N p.2=e.2):nq E N c:=by
 have key:∀ {i j},Rel c [] i j->c i=c j:=fun h=>h c (fun _ _ e=>e) fun p hp=>by cases hp
 refine⟨h.g,h.sound,fun e he=>?_,fun i j hi hj e ki kj=>?_⟩
 ·obtain⟨p,hp,h1,h2,h3,h4⟩:=hD e he
  exact⟨p.1,p.2,h1,h2,h3,h4,key (h.eqs p hp)⟩
 ·obtain⟨k1,k2⟩:=h.al i j hi hj e ki kj
  refine⟨k1,List.ext_getElem? fun q=>?_⟩
  rw [List.getElem?_map,List.getElem?_map]
  have l:(ks N i).length=(ks N j).length:=by rw [jx h.g hi,jx h.g hj,k1.2.2.2]
  by_cases hq:q < (ks N i).length
  ·have h1:(ks N i)[q]?=some ((ks N i)[q]'hq):=List.getElem?_eq_getElem _
   have h2:(ks N j)[q]?=some ((ks N j)[q]'(by omega)):=List.getElem?_eq_getElem _
   rw [h1,h2]
   exact congrArg some (key (k2 q _ _ h1 h2))
  ·rw [List.getElem?_eq_none (by omega),List.getElem?_eq_none (by omega)]
end
section
variable {E:List (Tm × Tm)}{N N':aU}{D:List (Nat × Nat)}{c c':Nat->Nat}
theorem cT (hp:∀ i,i < N.length->N'[i]?=N[i]?) {i:Nat}(hi:i < N.length):tn N' i=tn N i/\ks N' i=ks N i:=by unfold tn ks;rw [hp i hi];exact⟨rfl,rfl⟩
theorem gT.grow (h:gT E N D c []) (hD:∀ p ∈ D,p.1 < N.length/\p.2 < N.length) (g':gI N') (hl:N.length<=N'.length) (hp:∀ i,i < N.length->N'[i]?=N[i]?) (hc:∀ i,i < N.length->c' i=c i/\c i < N.length) (hn:∀ i,N.length<=i->c' i=i)
  {x y:Nat}(hx:x < N'.length) (hy:y < N'.length) (he:(tn N' x,tn N' y) ∈ E):gT E N' ((x,y)::D) c' [(x,y)]:=by
 have key:∀ {i j P},i < N.length->j < N.length->Rel c [] i j->Rel c' P i j:=fun hi hj h d h1 _=>h1 _ _ (by rw [(hc _ hi).1,(hc _ hj).1];exact h c (fun _ _ e=>e) fun p hp=>by cases hp)
 have cls:∀ i j,i < N'.length->j < N'.length->c' i=c' j->i=j\/(i < N.length/\j < N.length/\c i=c j):=by
  intro i j hi hj e
  by_cases h1:i < N.length
  ·by_cases h2:j < N.length
   ·rw [(hc i h1).1,(hc j h2).1] at e;exact .inr ⟨h1,h2,e⟩
   ·rw [(hc i h1).1,hn j (by omega)] at e;have:=(hc i h1).2;omega
  ·by_cases h2:j < N.length
   ·rw [(hc j h2).1,hn i (by omega)] at e;have:=(hc j h2).2;omega
   ·rw [hn i (by omega),hn j (by omega)] at e;exact .inl e
 refine⟨g',fun i j hi hj e=>?_,fun p hq=>?_,fun p hq=>?_,fun i j hi hj e k1 k2=>?_⟩
 ·rcases cls i j hi hj e with rfl|⟨h1,h2,e⟩
  ·exact fun f _=>rfl
  ·intro f hf
   rw [(cT hp h1).1,(cT hp h2).1]
   exact h.sound i j h1 h2 e f hf
 ·obtain rfl:=List.mem_singleton.1 hq
  exact⟨hx,hy,fun f hf=>hf _ he⟩
 ·rcases List.mem_cons.1 hq with rfl|hq
  ·exact fun d _ h2=>h2 _ (.head _)
  ·exact key (hD p hq).1 (hD p hq).2 (h.eqs p hq)
 ·rcases cls i j hi hj e with rfl|⟨h1,h2,e⟩
  ·refine⟨.refl _,fun q a b ha hb d _ _=>?_⟩
   rw [ha] at hb
   exact congrArg d (Option.some.inj hb)
  ·rw [(cT hp h1).1] at k1 ⊢
   rw [(cT hp h2).1] at k2 ⊢
   rw [(cT hp h1).2,(cT hp h2).2]
   obtain⟨m1,m2⟩:=h.al i j h1 h2 e k1 k2
   refine⟨m1,fun q a b ha hb=>key ?_ ?_ (m2 q a b ha hb)⟩
   ·have:=h.g.lt i h1 a (List.mem_of_getElem? ha);omega
   ·have:=h.g.lt j h2 b (List.mem_of_getElem? hb);omega
end
def qF:List Int->Prop
 |[]=>True
 |x::l=>(∀ y ∈ l,x < y)/\qF l
theorem wA:∀ {l m:List Int},qF l->qF m->(∀ x,x ∈ l ↔ x ∈ m)->l=m
 |[],[],_,_,_=>rfl
 |[],y::m,_,_,h=>by have:=(h y).2 (by simp);cases this
 |x::l,[],_,_,h=>by have:=(h x).1 (by simp);cases this
 |x::l,y::m,h1,h2,h=>by
  have e:x=y:=by
   have a:=(h x).1 (by simp)
   have b:=(h y).2 (by simp)
   rcases List.mem_cons.1 a with a|a
   ·exact a
   ·rcases List.mem_cons.1 b with b|b
    ·exact b.symm
    ·have:=h1.1 y b;have:=h2.1 x a;omega
  subst e
  refine congrArg _ (wA h1.2 h2.2 fun z=>⟨fun hz=>?_,fun hz=>?_⟩)
  ·rcases List.mem_cons.1 ((h z).1 (by simp [hz])) with rfl|h3
   ·exact absurd (h1.1 _ hz) (by omega)
   ·exact h3
  ·rcases List.mem_cons.1 ((h z).2 (by simp [hz])) with rfl|h3
   ·exact absurd (h2.1 _ hz) (by omega)
   ·exact h3
theorem rJ {p:Int->Bool}:∀ {l:List Int},qF l->qF (l.filter p)
 |[],_=>trivial
 |x::l,h=>by
  rw [List.filter_cons]
  split
  ·exact⟨fun y hy=>h.1 y (List.mem_filter.1 hy).1,rJ h.2⟩
  ·exact rJ h.2
structure tq (E:List (Tm × Tm)) (s:Int->Tm) (l:List Int):Prop where
 c:tj E s
 a:qF l
 m:∀ v,v ∈ l ↔ s v ≠ vr v
theorem tq.uniq {E E':List (Tm × Tm)}{s s':Int->Tm}{l l':List Int}(h:tq E s l) (h':tq E' s' l') (he:∀ f,qE E f ↔ qE E' f):s=s'/\l=l':=by
 have c':tj E s':=⟨h'.c.wf,h'.c.idem,h'.c.low,(he _).2 h'.c.D8,fun f hf=>h'.c.gen f ((he f).1 hf)⟩
 obtain rfl:=h.c.uniq c'
 exact⟨rfl,wA h.a h'.a fun v=>(h.m v).trans (h'.m v).symm⟩
def Fe (zI:Tm->Bool) (s:Int->Tm) (l:List Int):List Bd × Int:=if l.any fun v=>zI (s v) then ([],6) else (l.map fun v=>⟨v,s v⟩,0)
open Classical in
noncomputable def qc (zI:Tm->Bool) (E:List (Tm × Tm)):List Bd × Int:=if h:∃ p:(Int->Tm) × List Int,tq E p.1 p.2 then Fe zI h.choose.1 h.choose.2 else ([],13)
theorem zJ {zI:Tm->Bool}{E:List (Tm × Tm)}{s:Int->Tm}{l:List Int}(h:tq E s l):qc zI E=Fe zI s l:=by
 have hx:∃ p:(Int->Tm) × List Int,tq E p.1 p.2:=⟨(s,l),h⟩
 unfold qc
 rw [dif_pos hx]
 obtain⟨e1,e2⟩:=hx.choose_spec.uniq h fun f=>Iff.rfl
 rw [e1,e2]
theorem zK {zI:Tm->Bool}{E:List (Tm × Tm)}(h:¬ ∃ f,qE E f):qc zI E=([],13):=by
 unfold qc
 rw [dif_neg fun ⟨p,hp⟩=>h ⟨_,hp.c.D8⟩]
def jE (N:aU) (v:Int):Option Nat:=N.findIdx? fun x=>x.1.k == 1 && x.1.i == v
mutual
def jF:aU->Tm->aU × Nat
 |N,⟨k,i,n,a⟩=>match (if k=1 then jE N i else none) with
  |some j=>(N,j)
  |none=>((dC N a).1++[(⟨k,i,n,a⟩,(dC N a).2)],(dC N a).1.length)
def dC:aU->List Tm->aU × List Nat
 |N,[]=>(N,[])
 |N,x::l=>((dC (jF N x).1 l).1,(jF N x).2::(dC (jF N x).1 l).2)
end
structure oS (N N':aU):Prop where
 g:gI N'
 le:N.length<=N'.length
 pre:∀ i,i < N.length->N'[i]?=N[i]?
theorem oS.trans {A B C:aU}(h:oS A B) (k:oS B C):oS A C:=⟨k.g,Nat.le_trans h.le k.le,fun i hi=>(k.pre i (by have:=h.le;omega)).trans (h.pre i hi)⟩
theorem oS.tn {A B:aU}(h:oS A B) {i:Nat}(hi:i < A.length):tn B i=tn A i:=(cT h.pre hi).1
theorem tr {N:aU}{v:Int}{j:Nat}(h:jE N v=some j):j < N.length/\(tn N j).k=1/\(tn N j).i=v:=by
 unfold jE at h
 obtain⟨hj,h1,_⟩:=List.findIdx?_eq_some_iff_getElem.1 h
 simp only [Bool.and_eq_true,beq_iff_eq] at h1
 unfold tn
 rw [List.getElem?_eq_getElem hj]
 exact⟨hj,h1⟩
theorem zL {N:aU}{v:Int}(h:jE N v=none):∀ j,j < N.length->(tn N j).k=1->(tn N j).i ≠ v:=by
 intro j hj hk hi
 unfold jE at h
 have:=List.findIdx?_eq_none_iff.1 h N[j] (List.getElem_mem hj)
 unfold tn at hk hi
 rw [List.getElem?_eq_getElem hj] at hk hi
 simp only [Option.getD_some] at hk hi
 simp [hk,hi] at this
theorem g_ {N:aU}{x:Tm × List Nat}:tn (N++[x]) N.length=x.1/\ks (N++[x]) N.length=x.2:=by unfold tn ks;simp
theorem BD {N:aU}{t:Tm}{D_:List Nat}(g:gI N) (h1:∀ j ∈ D_,j < N.length) (h2:t.a=D_.map (tn N)) (h3:dP t) (h4:t.k=1->∀ j,j < N.length->(tn N j).k=1->(tn N j).i ≠ t.i):oS N (N++[(t,D_)]):=by
 have hp:∀ i,i < N.length->(N++[(t,D_)])[i]?=N[i]?:=fun i hi=>List.getElem?_append_left hi
 have hm:∀ l:List Nat,(∀ j ∈ l,j < N.length)->l.map (tn (N++[(t,D_)]))=l.map (tn N):=fun l hl=>List.map_congr_left fun j hj=>(cT hp (hl j hj)).1
 have hlen:∀ i,i < (N++[(t,D_)]).length->i < N.length\/i=N.length:=fun i hi=>by rw [List.length_append,List.length_singleton] at hi;omega
 refine⟨⟨fun i hi j hj=>?_,fun i hi=>?_,fun i hi=>?_,fun i j hi hj ki kj e=>?_⟩,by rw [List.length_append];omega,hp⟩
 ·rcases hlen i hi with h|rfl
  ·rw [(cT hp h).2] at hj;exact g.lt i h j hj
  ·rw [g_.2] at hj;exact h1 j hj
 ·rcases hlen i hi with h|rfl
  ·rw [(cT hp h).1,(cT hp h).2,hm _ fun j hj=>by have:=g.lt i h j hj;omega];exact g.args i h
  ·rw [g_.1,g_.2,hm _ h1];exact h2
 ·rcases hlen i hi with h|rfl
  ·rw [(cT hp h).1];exact g.wf i h
  ·rw [g_.1];exact h3
 ·rcases hlen i hi with hi|rfl<;>rcases hlen j hj with hj|rfl
  ·rw [(cT hp hi).1] at ki e
   rw [(cT hp hj).1] at kj e
   exact g.one i j hi hj ki kj e
  ·rw [(cT hp hi).1] at ki e
   rw [g_.1] at kj e
   exact absurd e (h4 kj i hi ki)
  ·rw [(cT hp hj).1] at kj e
   rw [g_.1] at ki e
   exact absurd e.symm (h4 ki j hj kj)
  ·rfl
mutual
theorem uN:∀ (N:aU) (t:Tm),gI N->dP t->oS N (jF N t).1/\(jF N t).2 < (jF N t).1.length/\tn (jF N t).1 (jF N t).2=t
 |N,⟨k,i,n,a⟩,g,hw=>by
  rw [jF]
  by_cases hk:k=1
  ·rw [if_pos hk]
   have jK:=hw
   rw [dP,if_pos hk] at jK
   obtain⟨rfl,rfl⟩:=jK
   subst hk
   cases hv:jE N i with
   |some j =>
    obtain⟨h1,h2,h3⟩:=tr hv
    refine⟨⟨g,Nat.le_refl _,fun _ _=>rfl⟩,h1,?_⟩
    rw [Bz (g.wf j h1) h2,h3,vr]
   |none =>
    refine⟨?_,?_,?_⟩
    ·simp only [dC]
     exact BD g (fun j hj=>by cases hj) rfl hw fun _=>zL hv
    ·simp [dC]
    ·simp only [dC];exact g_.1
  ·rw [if_neg hk]
   have jK:=hw
   rw [dP,if_neg hk] at jK
   obtain⟨h1,h2,h3⟩:=BE N a g jK.1
   refine⟨h1.trans (BD h1.g h2 h3.symm hw fun e=>absurd e hk),?_,?_⟩
   ·simp
   ·exact g_.1
theorem BE:∀ (N:aU) (l:List Tm),gI N->gd l->oS N (dC N l).1/\(∀ j ∈ (dC N l).2,j < (dC N l).1.length)/\(dC N l).2.map (tn (dC N l).1)=l
 |N,[],g,_=>by rw [dC];exact⟨⟨g,Nat.le_refl _,fun _ _=>rfl⟩,(fun j hj=>by cases hj),rfl⟩
 |N,x::l,g,hw=>by
  rw [gd] at hw
  obtain⟨h1,h2,h3⟩:=uN N x g hw.1
  obtain⟨k1,k2,k3⟩:=BE (jF N x).1 l h1.g hw.2
  rw [dC]
  refine⟨h1.trans k1,fun j hj=>?_,?_⟩
  ·rcases List.mem_cons.1 hj with rfl|hj
   ·have:=k1.le;simp only;omega
   ·exact k2 j hj
  ·simp only [List.map_cons,k3,k1.tn h2,h3]
end
def TF (N:aU) (c:Nat->Nat) (sh:Nat->Option Nat) (lo:Nat->Int):Nat->Nat->Tm
 |0,_=>default
 |m+1,C=>match sh C with
  |none=>vr (lo C)
  |some s=>⟨(tn N s).k,(tn N s).i,(tn N s).n,(ks N s).map fun j=>TF N c sh lo m (c j)⟩
section
variable {E:List (Tm × Tm)}{N:aU}{c:Nat->Nat}{sh:Nat->Option Nat}{lo:Nat->Int}{r:Nat->Nat}
theorem Ea (hC:gI N) (hs:∀ C s,sh C=some s->s < N.length/\c s=C/\(tn N s).k ≠ 1) (hr:nt N c r):∀ (m m' C:Nat),r C < m->r C < m'->TF N c sh lo m C=TF N c sh lo m' C
 |0,_,C,h,_=>by omega
 |m+1,0,C,_,h=>by omega
 |m+1,m'+1,C,h,h'=>by
  rw [TF,TF]
  cases e:sh C with
  |none=>rfl
  |some s =>
   obtain⟨h1,h2,h3⟩:=hs C s e
   simp only [Tm.mk.injEq,true_and]
   refine List.map_congr_left fun j hj=>?_
   have:=hr s h1 h3 j hj
   rw [h2] at this
   exact Ea hC hs hr m m' (c j) (by omega) (by omega)
def TC (N:aU) (c:Nat->Nat) (sh:Nat->Option Nat) (lo:Nat->Int) (r:Nat->Nat) (C:Nat):Tm:=TF N c sh lo (r C+1) C
theorem QB (hC:gI N) (hs:∀ C s,sh C=some s->s < N.length/\c s=C/\(tn N s).k ≠ 1) (hr:nt N c r) {C s:Nat}(e:sh C=some s):TC N c sh lo r C=⟨(tn N s).k,(tn N s).i,(tn N s).n,(ks N s).map fun j=>TC N c sh lo r (c j)⟩:=by
 obtain⟨h1,h2,h3⟩:=hs C s e
 rw [TC,TF,e]
 simp only [Tm.mk.injEq,true_and]
 refine List.map_congr_left fun j hj=>?_
 have:=hr s h1 h3 j hj
 rw [h2] at this
 exact Ea hC hs hr _ _ (c j) (by omega) (by omega)
theorem QD {C:Nat}(e:sh C=none):TC N c sh lo r C=vr (lo C):=by rw [TC,TF,e]
theorem K7 (hC:nq E N c) (hs:∀ C s,sh C=some s->s < N.length/\c s=C/\(tn N s).k ≠ 1) (hr:nt N c r) (hn:∀ i,i < N.length->sh (c i)=none->∀ j,j < N.length->c j=c i->(tn N j).k=1) (hl:∀ i,i < N.length->sh (c i)=none->∃ j,j < N.length/\c j=c i/\lo (c i)=(tn N j).i/\∀ j',j' < N.length->c j'=c i->(tn N j).i<=(tn N j').i) :
  uK N c (TC N c sh lo r):=by
 refine⟨fun i hi hk=>?_,fun i hi hp=>?_⟩
 ·cases e:sh (c i) with
  |none=>exact absurd (hn i hi e i hi rfl) hk
  |some s =>
   obtain⟨h1,h2,h3⟩:=hs _ s e
   obtain⟨⟨a1,a2,a3,a4⟩,a5⟩:=hC.al i s hi h1 h2.symm hk h3
   rw [QB hC.g hs hr e,a1,a2,a3]
   have e1:∀ l:List Nat,l.map (fun j=>TC N c sh lo r (c j))=(l.map c).map (TC N c sh lo r):=fun l=>by rw [List.map_map];rfl
   rw [e1,e1,a5]
 ·cases e:sh (c i) with
  |none =>
   obtain⟨j,h1,h2,h3,h4⟩:=hl i hi e
   exact⟨j,h1,h2,by rw [QD e,h3],h4⟩
  |some s =>
   obtain⟨h1,h2,h3⟩:=hs _ s e
   exact absurd (hp s h1 h2) h3
end
end
end Go.Proofs.YtgjfgekaclobaaaGreat
