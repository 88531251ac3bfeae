import Derived.Test.YtgjfgekaclobaaaGreatCa15
namespace Go.Proofs.YtgjfgekaclobaaaGreat
set_option linter.unusedVariables false
set_option linter.unusedSimpArgs false
open Go.RowKit
section
instance:Inhabited Tm:=⟨⟨0,0,⟨#[]⟩,[]⟩⟩
theorem Oh {a b:ByteArray}:a.toList=b.toList ↔ a=b:=⟨fun h=>by rw [ByteArray.toList_eq,ByteArray.toList_eq] at h;cases a;cases b;simp only [ByteArray.mk.injEq];exact Array.toList_inj.1 h,fun h=>h ▸ rfl⟩
def vr (v:Int):Tm:=⟨1,v,⟨#[]⟩,[]⟩
mutual
def iD (f:Int->Tm):Tm->Tm
 |⟨k,i,n,a⟩=>if k=1 then f i else ⟨k,i,n,sS f a⟩
def sS (f:Int->Tm):List Tm->List Tm
 |[]=>[]
 |x::l=>iD f x::sS f l
end
theorem tT (f:Int->Tm) (v:Int):iD f (vr v)=f v:=by rw [vr,iD,if_pos rfl]
theorem DJ (f:Int->Tm):∀ l,sS f l=l.map (iD f)
 |[]=>by rw [sS];rfl
 |x::l=>by rw [sS,DJ f l];rfl
mutual
def qg (v:Int):Tm->Prop
 |⟨k,i,n,a⟩=>if k=1 then i=v else sT v a
def sT (v:Int):List Tm->Prop
 |[]=>False
 |x::l=>qg v x\/sT v l
end
mutual
def eW:Tm->Prop
 |⟨k,i,n,a⟩=>if k=1 then n=⟨#[]⟩/\a=[] else iS a/\(k=2\/a=[])
def iS:List Tm->Prop
 |[]=>True
 |x::l=>eW x/\iS l
end
theorem iS.mem:∀ {l:List Tm},iS l->∀ x ∈ l,eW x
 |y::l,h,x,hx=>by
  rw [iS] at h
  rcases List.mem_cons.1 hx with rfl|hx
  ·exact h.1
  ·exact h.2.mem x hx
theorem CC:∀ {l:List Tm},(∀ x ∈ l,eW x)->iS l
 |[],_=>by rw [iS];trivial
 |y::l,h=>by rw [iS];exact⟨h y (by simp),CC fun x hx=>h x (by simp [hx])⟩
theorem DK {v:Int}:∀ {l:List Tm},sT v l ↔ ∃ x ∈ l,qg v x
 |[]=>by rw [sT];simp
 |y::l=>by rw [sT,DK];simp
theorem FC {t:Tm}(h:eW t) (hk:t.k=1):t=vr t.i:=by
 obtain⟨k,i,n,a⟩:=t
 obtain rfl:k=1:=hk
 rw [eW,if_pos rfl] at h
 obtain⟨rfl,rfl⟩:=h
 rfl
mutual
theorem IE {f:Int->Tm}:∀ {t:Tm},eW t->(∀ w,qg w t->f w=vr w)->iD f t=t
 |⟨k,i,n,a⟩,h,ho=>by
  rw [iD]
  split
  ·rename_i hk
   rw [ho i (by rw [qg,if_pos hk])]
   exact (FC h hk).symm
  ·rename_i hk
   rw [eW,if_neg hk] at h
   rw [FD h.1 fun w hw=>ho w (by rw [qg,if_neg hk];exact hw)]
theorem FD {f:Int->Tm}:∀ {l:List Tm},iS l->(∀ w,sT w l->f w=vr w)->sS f l=l
 |[],_,_=>by rw [sS]
 |x::l,h,ho=>by
  rw [iS] at h
  rw [sS,IE h.1 fun w hw=>ho w (by rw [sT];exact .inl hw),FD h.2 fun w hw=>ho w (by rw [sT];exact .inr hw)]
end
def tU (E:List (Tm × Tm)) (f:Int->Tm):Prop:=∀ e ∈ E,iD f e.1=iD f e.2
structure wU (E:List (Tm × Tm)) (s:Int->Tm):Prop where
 wf:∀ v,eW (s v)
 idem:∀ v w,qg w (s v)->s w=vr w
 low:∀ v w,s v=vr w->w<=v
 IF:tU E s
 gen:∀ f,tU E f->∀ v,f v=iD f (s v)
theorem wU.uniq {E:List (Tm × Tm)}{s t:Int->Tm}(hs:wU E s) (ht:wU E t):s=t:=by
 have key:∀ {f g:Int->Tm},wU E f->wU E g->∀ v,f v=vr v->g v=vr v:=by
  intro f g hf hg v hv
  have h:=hf.gen
  have h1:=hg.gen f hf.IF v
  rw [hv] at h1
  have h2:(g v).k=1:=by
   have hw:=hg.wf v
   generalize g v=t at h1 hw
   obtain⟨k,i,n,a⟩:=t
   rw [iD] at h1
   split at h1
   ·assumption
   ·injection h1 with h1;exact h1.symm
  have h3:=FC (hg.wf v) h2
  generalize (g v).i=w at h3
  rw [h3,tT] at h1
  have h4:=hf.low _ _ h1.symm
  have h5:=hg.low _ _ h3
  rw [h3,show w=v by omega]
 funext v
 rw [hs.gen s hs.IF v]
 have h1:=ht.gen s hs.IF v
 rw [<-hs.gen s hs.IF v,h1]
 exact IE (ht.wf v) fun w hw=>key ht hs w (ht.idem v w hw)
abbrev bj:=List (Tm × List Nat)
def tn (N:bj) (i:Nat):Tm:=((N[i]?).getD default).1
def ks (N:bj) (i:Nat):List Nat:=((N[i]?).getD default).2
structure jt (N:bj):Prop where
 lt:∀ i,i < N.length->∀ j ∈ ks N i,j < i
 args:∀ i,i < N.length->(tn N i).a=(ks N i).map (tn N)
 wf:∀ i,i < N.length->eW (tn N i)
 one:∀ i j,i < N.length->j < N.length->(tn N i).k=1->(tn N j).k=1->(tn N i).i=(tn N j).i->i=j
def Sound (E:List (Tm × Tm)) (N:bj) (i j:Nat):Prop:=∀ f,tU E f->iD f (tn N i)=iD f (tn N j)
def alike (s t:Tm):Prop:=s.k=t.k/\s.i=t.i/\s.n=t.n/\s.a.length=t.a.length
structure pL (E:List (Tm × Tm)) (N:bj) (c:Nat->Nat):Prop where
 g:jt N
 sound:∀ i j,i < N.length->j < N.length->c i=c j->Sound E N i j
 eqs:∀ e ∈ E,∃ i j,i < N.length/\j < N.length/\tn N i=e.1/\tn N j=e.2/\c i=c j
 al:∀ i j,i < N.length->j < N.length->c i=c j->(tn N i).k ≠ 1->(tn N j).k ≠ 1->alike (tn N i) (tn N j)/\(ks N i).map c=(ks N j).map c
structure yJ (N:bj) (c:Nat->Nat) (T:Nat->Tm):Prop where
 shaped:∀ i,i < N.length->(tn N i).k ≠ 1->T (c i)=⟨(tn N i).k,(tn N i).i,(tn N i).n,(ks N i).map fun j=>T (c j)⟩
 plain:∀ i,i < N.length->(∀ j,j < N.length->c j=c i->(tn N j).k=1)->∃ j,j < N.length/\c j=c i/\T (c i)=vr (tn N j).i/\∀ j',j' < N.length->c j'=c i->(tn N j).i<=(tn N j').i
theorem pM {f:Int->Tm}{t:Tm}(h:t.k ≠ 1):iD f t=⟨t.k,t.i,t.n,t.a.map (iD f)⟩:=by
 obtain⟨k,i,n,a⟩:=t
 rw [iD,if_neg h,DJ]
theorem FE {f:Int->Tm}{t:Tm}(h:t.k=1):iD f t=f t.i:=by
 obtain⟨k,i,n,a⟩:=t
 rw [iD,if_pos h]
theorem ZB {E:List (Tm × Tm)}{N:bj}{i j:Nat}(h:Sound E N i j) (hi:(tn N i).k ≠ 1) (hj:(tn N j).k ≠ 1) (hn:¬ alike (tn N i) (tn N j)):¬ ∃ f,tU E f:=by
 rintro⟨f,hf⟩
 have:=h f hf
 rw [pM hi,pM hj] at this
 injection this with h1 h2 h3 h4
 exact hn ⟨h1,h2,h3,by simpa using congrArg List.length h4⟩
theorem JU {E:List (Tm × Tm)}{N:bj}(g:jt N) {i j:Nat}(fA:i < N.length) (gp:j < N.length) (h:Sound E N i j) (hi:(tn N i).k ≠ 1) (hj:(tn N j).k ≠ 1) {p a b:Nat}(ha:(ks N i)[p]?=some a) (hb:(ks N j)[p]?=some b):Sound E N a b:=by
 intro f hf
 have:=h f hf
 rw [pM hi,pM hj] at this
 injection this with h1 h2 h3 h4
 rw [g.args i fA,g.args j gp] at h4
 have:=congrArg (fun l=>l[p]?) h4
 simpa [ha,hb] using this
mutual
def fX:Tm->Nat
 |⟨k,i,n,a⟩=>cN a+1
def cN:List Tm->Nat
 |[]=>0
 |x::l=>fX x+cN l
end
theorem q_:∀ {l:List Tm},∀ x ∈ l,fX x<=cN l
 |y::l,x,h=>by
  rw [cN]
  rcases List.mem_cons.1 h with rfl|h
  ·omega
  ·have:=q_ x h;omega
def pN (N:bj) (c:Nat->Nat) (r:Nat->Nat):Prop:=∀ i,i < N.length->(tn N i).k ≠ 1->∀ j ∈ ks N i,r (c j) < r (c i)
theorem Oi {E:List (Tm × Tm)}{N:bj}{c:Nat->Nat}(g:jt N) (hs:∀ i j,i < N.length->j < N.length->c i=c j->Sound E N i j) (h:∃ f,tU E f):∃ r,pN N c r:=by
 obtain⟨f,hf⟩:=h
 have key:∀ C,∃ n,∀ i,i < N.length->c i=C->fX (iD f (tn N i))=n:=by
  intro C
  by_cases hC:∃ i,i < N.length/\c i=C
  ·obtain⟨i,hi,hC⟩:=hC
   exact⟨_,fun j hj hc=>by rw [hs j i hj hi (hc.trans hC.symm) f hf]⟩
  ·exact⟨0,fun i hi hc=>absurd ⟨i,hi,hc⟩ hC⟩
 refine⟨fun C=>(key C).choose,fun i hi hk j hj=>?_⟩
 have aA:=g.lt i hi j hj
 show (key (c j)).choose < (key (c i)).choose
 rw [<-(key (c i)).choose_spec i hi rfl,<-(key (c j)).choose_spec j (by omega) rfl,pM hk,fX]
 have:=q_ (l:=(tn N i).a.map (iD f)) (iD f (tn N j)) (by
  rw [g.args i hi,List.map_map]
  exact List.mem_map.2 ⟨j,hj,rfl⟩)
 omega
section
variable {E:List (Tm × Tm)}{N:bj}{c:Nat->Nat}{T:Nat->Tm}{r:Nat->Nat}
theorem DL (hC:pL E N c) (hT:yJ N c T) (hr:pN N c r) {f:Int->Tm}(hf:tU E f):∀ (m i:Nat),r (c i) < m->i < N.length->iD f (tn N i)=iD f (T (c i))
 |0,i,h,_=>by omega
 |m+1,i,h,hi=>by
  by_cases hp:∀ j,j < N.length->c j=c i->(tn N j).k=1
  ·obtain⟨j,hj,hc,ht,_⟩:=hT.plain i hi hp
   rw [ht,hC.sound i j hi hj hc.symm f hf,FE (hp j hj hc),vr,iD,if_pos rfl]
  ·obtain⟨j,hj,hc,hk⟩:∃ j,j < N.length/\c j=c i/\(tn N j).k ≠ 1:=by
    apply Classical.byContradiction
    intro h2
    exact hp fun j hj hc=>Classical.byContradiction fun hk=>h2 ⟨j,hj,hc,hk⟩
   rw [<-hc,hT.shaped j hj hk,hC.sound i j hi hj hc.symm f hf,pM hk,pM (t:=⟨_,_,_,_⟩) hk,hC.g.args j hj]
   simp only [List.map_map,Tm.mk.injEq,true_and]
   refine List.map_congr_left fun p hp=>?_
   have h1:=hC.g.lt j hj p hp
   have h2:=hr j hj hk p hp
   exact DL hC hT hr hf m p (by rw [hc] at h2;omega) (by omega)
theorem wV (hC:pL E N c) (hT:yJ N c T) {f:Int->Tm}(hf:∀ i,i < N.length->(tn N i).k=1->f (tn N i).i=T (c i)):∀ (m i:Nat),i < m->i < N.length->iD f (tn N i)=T (c i)
 |0,i,h,_=>by omega
 |m+1,i,h,hi=>by
  by_cases hk:(tn N i).k=1
  ·rw [FE hk,hf i hi hk]
  ·rw [pM hk,hT.shaped i hi hk,hC.g.args i hi]
   simp only [List.map_map,Tm.mk.injEq,true_and]
   refine List.map_congr_left fun p hp=>?_
   have h1:=hC.g.lt i hi p hp
   exact wV hC hT hf m p (by omega) (by omega)
theorem Ah (hC:pL E N c) (hT:yJ N c T) (hr:pN N c r):∀ (m i:Nat),r (c i) < m->i < N.length->eW (T (c i))/\∀ w,qg w (T (c i))->∃ j,j < N.length/\(tn N j).k=1/\(tn N j).i=w/\T (c j)=vr w
 |0,i,h,_=>by omega
 |m+1,i,h,hi=>by
  by_cases hp:∀ j,j < N.length->c j=c i->(tn N j).k=1
  ·obtain⟨j,hj,hc,ht,_⟩:=hT.plain i hi hp
   rw [ht]
   refine⟨by rw [vr,eW,if_pos rfl];exact⟨rfl,rfl⟩,fun w hw=>?_⟩
   rw [vr,qg,if_pos rfl] at hw
   exact⟨j,hj,hp j hj hc,hw,by rw [hc,ht,hw]⟩
  ·obtain⟨j,hj,hc,hk⟩:∃ j,j < N.length/\c j=c i/\(tn N j).k ≠ 1:=by
    apply Classical.byContradiction
    intro h2
    exact hp fun j hj hc=>Classical.byContradiction fun hk=>h2 ⟨j,hj,hc,hk⟩
   have ih:∀ p ∈ ks N j,_:=fun p hp=>Ah hC hT hr m p (by have:=hr j hj hk p hp;rw [hc] at this;omega) (by have:=hC.g.lt j hj p hp;omega)
   rw [<-hc,hT.shaped j hj hk,eW,if_neg hk]
   refine⟨⟨CC fun x hx=>?_,?_⟩,fun w hw=>?_⟩
   ·obtain⟨p,hp,rfl⟩:=List.mem_map.1 hx
    exact (ih p hp).1
   ·have h1:=hC.g.wf j hj
    have h2:=hC.g.args j hj
    generalize tn N j=t at h1 h2 hk
    obtain⟨k,i',n,a⟩:=t
    rw [eW,if_neg hk] at h1
    refine h1.2.imp_right fun e=>?_
    simp only at h2
    rw [e] at h2
    rw [List.map_eq_nil_iff.1 h2.symm];rfl
   ·rw [qg,if_neg hk,DK] at hw
    obtain⟨x,hx,hw⟩:=hw
    obtain⟨p,hp,rfl⟩:=List.mem_map.1 hx
    exact (ih p hp).2 w hw
open Classical in
noncomputable def Bi (N:bj) (c:Nat->Nat) (T:Nat->Tm) (v:Int):Tm:=if h:∃ i,i < N.length/\(tn N i).k=1/\(tn N i).i=v then T (c h.choose) else vr v
theorem yK (g:jt N) {i:Nat}(hi:i < N.length) (hk:(tn N i).k=1):Bi N c T (tn N i).i=T (c i):=by
 unfold Bi
 have h:∃ j,j < N.length/\(tn N j).k=1/\(tn N j).i=(tn N i).i:=⟨i,hi,hk,rfl⟩
 rw [dif_pos h,g.one _ _ h.choose_spec.1 hi h.choose_spec.2.1 hk h.choose_spec.2.2]
theorem FF {v:Int}(h:¬ ∃ i,i < N.length/\(tn N i).k=1/\(tn N i).i=v):Bi N c T v=vr v:=by unfold Bi;rw [dif_neg h]
theorem QG (hC:pL E N c) (hT:yJ N c T) (hr:pN N c r):wU E (Bi N c T):=by
 have hv:∀ v,(∃ i,i < N.length/\(tn N i).k=1/\(tn N i).i=v/\Bi N c T v=T (c i))\/Bi N c T v=vr v:=fun v=>by
  by_cases h:∃ i,i < N.length/\(tn N i).k=1/\(tn N i).i=v
  ·obtain⟨i,hi,hk,rfl⟩:=h
   exact .inl ⟨i,hi,hk,rfl,yK hC.g hi hk⟩
  ·exact .inr (FF h)
 refine⟨fun v=>?_,fun v w hw=>?_,fun v w hw=>?_,fun e he=>?_,fun f hf v=>?_⟩
 ·rcases hv v with ⟨i,hi,hk,hiv,e⟩|e
  ·rw [e];exact (Ah hC hT hr _ i (Nat.lt_succ_self _) hi).1
  ·rw [e,vr,eW,if_pos rfl];exact⟨rfl,rfl⟩
 ·rcases hv v with ⟨i,hi,hk,hiv,e⟩|e
  ·rw [e] at hw
   obtain⟨j,hj,hk,rfl,hT⟩:=(Ah hC hT hr _ i (Nat.lt_succ_self _) hi).2 w hw
   rw [yK hC.g hj hk,hT]
  ·rw [e,vr,qg,if_pos rfl] at hw
   rw [<-hw,e]
 ·rcases hv v with ⟨i,hi,hk,rfl,e⟩|e
  ·rw [e] at hw
   by_cases hp:∀ j,j < N.length->c j=c i->(tn N j).k=1
   ·obtain⟨j,hj,hc,ht,hm⟩:=hT.plain i hi hp
    rw [ht,vr,vr,Tm.mk.injEq] at hw
    rw [<-hw.2.1]
    exact hm i hi rfl
   ·obtain⟨j,hj,hc,hk⟩:∃ j,j < N.length/\c j=c i/\(tn N j).k ≠ 1:=by
     apply Classical.byContradiction
     intro h2
     exact hp fun j hj hc=>Classical.byContradiction fun hk=>h2 ⟨j,hj,hc,hk⟩
    rw [<-hc,hT.shaped j hj hk,vr,Tm.mk.injEq] at hw
    exact absurd hw.1 hk
  ·rw [e,vr,vr,Tm.mk.injEq] at hw
   omega
 ·obtain⟨i,j,hi,hj,h1,h2,hc⟩:=hC.eqs e he
  have TX:∀ i,i < N.length->(tn N i).k=1->Bi N c T (tn N i).i=T (c i):=fun i hi hk=>yK hC.g hi hk
  rw [<-h1,<-h2,wV hC hT TX _ i (Nat.lt_succ_self _) hi,wV hC hT TX _ j (Nat.lt_succ_self _) hj,hc]
 ·rcases hv v with ⟨i,hi,hk,rfl,e⟩|e
  ·rw [e,<-DL hC hT hr hf _ i (Nat.lt_succ_self _) hi,FE hk]
  ·rw [e,vr,iD,if_pos rfl]
end
def Rel (c:Nat->Nat) (P:List (Nat × Nat)) (i j:Nat):Prop:=∀ d:Nat->Nat,(∀ x y,c x=c y->d x=d y)->(∀ p ∈ P,d p.1=d p.2)->d i=d j
structure jz (E:List (Tm × Tm)) (N:bj) (D:List (Nat × Nat)) (c:Nat->Nat) (P:List (Nat × Nat)):Prop where
 g:jt N
 sound:∀ i j,i < N.length->j < N.length->c i=c j->Sound E N i j
 lU:∀ p ∈ P,p.1 < N.length/\p.2 < N.length/\Sound E N p.1 p.2
 eqs:∀ p ∈ D,Rel c P p.1 p.2
 al:∀ i j,i < N.length->j < N.length->c i=c j->(tn N i).k ≠ 1->(tn N j).k ≠ 1->alike (tn N i) (tn N j)/\∀ q a b:Nat,(ks N i)[q]?=some a->(ks N j)[q]?=some b->Rel c P a b
theorem alike.refl (t:Tm):alike t t:=⟨rfl,rfl,rfl,rfl⟩
theorem alike.symm {s t:Tm}(h:alike s t):alike t s:=⟨h.1.symm,h.2.1.symm,h.2.2.1.symm,h.2.2.2.symm⟩
theorem alike.trans {s t u:Tm}(h:alike s t) (k:alike t u):alike s u:=⟨h.1.trans k.1,h.2.1.trans k.2.1,h.2.2.1.trans k.2.2.1,h.2.2.2.trans k.2.2.2⟩
section
variable {E:List (Tm × Tm)}{N:bj}{D P P':List (Nat × Nat)}{c c':Nat->Nat}
theorem Rel.mono {i j:Nat}(h:Rel c P i j) (hc:∀ d:Nat->Nat,(∀ x y,c' x=c' y->d x=d y)->(∀ p ∈ P',d p.1=d p.2)->(∀ x y,c x=c y->d x=d y)/\∀ p ∈ P,d p.1=d p.2):Rel c' P' i j:=fun d h1 h2=>h d (hc d h1 h2).1 (hc d h1 h2).2
theorem jz.mono (h:jz E N D c P) (hp:∀ p ∈ P',p.1 < N.length/\p.2 < N.length/\Sound E N p.1 p.2) (hc:∀ d:Nat->Nat,(∀ x y,c x=c y->d x=d y)->(∀ p ∈ P',d p.1=d p.2)->∀ p ∈ P,d p.1=d p.2):jz E N D c P':=by
 have key:∀ {i j},Rel c P i j->Rel c P' i j:=fun h=>h.mono fun d h1 h2=>⟨h1,hc d h1 h2⟩
 exact⟨h.g,h.sound,hp,fun p hp=>key (h.eqs p hp),fun i j hi hj e k1 k2=>⟨(h.al i j hi hj e k1 k2).1,fun q a b ha hb=>key ((h.al i j hi hj e k1 k2).2 q a b ha hb)⟩⟩
theorem jz.perm (h:jz E N D c P) (hp:∀ p,p ∈ P' ↔ p ∈ P):jz E N D c P':=h.mono (fun p h1=>h.lU p ((hp p).1 h1)) fun d _ h2 p h1=>h2 p ((hp p).2 h1)
theorem jz.pop {x y:Nat}(h:jz E N D c ((x,y)::P)) (e:c x=c y):jz E N D c P:=h.mono (fun p h1=>h.lU p (.tail _ h1)) fun d h1 h2 p h3=>by
 rcases List.mem_cons.1 h3 with rfl|h3
 ·exact h1 _ _ e
 ·exact h2 p h3
def fD (c:Nat->Nat) (a b:Nat) (i:Nat):Nat:=if c i=b then a else c i
def ET (N:bj) (i j:Nat):List (Nat × Nat):=(ks N i).zip (ks N j)
def l5 (N:bj):Option Nat->Option Nat->List (Nat × Nat)
 |some s,some t=>ET N s t
 |_,_=>[]
theorem XL {α β:Type}{l:List α}{m:List β}{q:Nat}{a:α}{b:β}(ha:l[q]?=some a) (hb:m[q]?=some b):(a,b) ∈ l.zip m:=List.mem_iff_getElem?.2 ⟨q,by rw [List.getElem?_zip_eq_some];exact⟨ha,hb⟩⟩
def gz (N:bj) (c:Nat->Nat) (C:Nat):Option Nat->Prop
 |none=>∀ i,i < N.length->c i=C->(tn N i).k=1
 |some s=>s < N.length/\c s=C/\(tn N s).k ≠ 1
theorem lq (g:jt N) {i:Nat}(hi:i < N.length):(ks N i).length=(tn N i).a.length:=by rw [g.args i hi,List.length_map]
theorem QH {x y:Nat}{d:Nat->Nat}(h1:∀ u v,fD c (c x) (c y) u=fD c (c x) (c y) v->d u=d v):(∀ u v,c u=c v->d u=d v)/\d x=d y:=by
 refine⟨fun u v e=>h1 u v (by unfold fD;rw [e]),h1 x y ?_⟩
 unfold fD
 rw [if_pos rfl]
 split<;>rfl
theorem Oj {x y:Nat}(hs:∀ i j,i < N.length->j < N.length->c i=c j->Sound E N i j) (hx:x < N.length) (hy:y < N.length) (jG:Sound E N x y):∀ i j,i < N.length->j < N.length->fD c (c x) (c y) i=fD c (c x) (c y) j->Sound E N i j:=by
 intro i j hi hj e f hf
 have h0:=jG f hf
 unfold fD at e
 split at e
 ·rename_i h1
  split at e
  ·rename_i h2
   rw [hs i y hi hy h1 f hf,hs j y hj hy h2 f hf]
  ·rw [hs i y hi hy h1 f hf,<-h0,hs x j hx hj e f hf]
 ·rename_i h1
  split at e
  ·rename_i h2
   rw [hs i x hi hx e f hf,h0,hs y j hy hj h2.symm f hf]
  ·exact hs i j hi hj e f hf
theorem jz.merge {x y:Nat}(h:jz E N D c ((x,y)::P)) {sa sb:Option Nat}(ha:gz N c (c x) sa) (hb:gz N c (c y) sb) (aO:∀ s t,sa=some s->sb=some t->alike (tn N s) (tn N t)) :
  jz E N D (fD c (c x) (c y)) (l5 N sa sb++P):=by
 obtain⟨hx,hy,jG⟩:=h.lU _ (.head _)
 have hs:=Oj h.sound hx hy jG
 obtain⟨Q,hQ⟩:∃ Q,Q=l5 N sa sb:=⟨_,rfl⟩
 rw [<-hQ]
 have hQs:∀ s t,sa=some s->sb=some t->Q=ET N s t:=fun s t e1 e2=>by rw [hQ,e1,e2];rfl
 have key:∀ {i j},Rel c ((x,y)::P) i j->Rel (fD c (c x) (c y)) (Q++P) i j:=fun hr=>hr.mono fun d h1 h2=>by
  obtain⟨k1,k2⟩:=QH h1
  refine⟨k1,fun p hp=>?_⟩
  rcases List.mem_cons.1 hp with rfl|hp
  ·exact k2
  ·exact h2 p (List.mem_append_right _ hp)
 have TY:∀ i j,i < N.length->j < N.length->c i=c x->c j=c y->(tn N i).k ≠ 1->(tn N j).k ≠ 1->alike (tn N i) (tn N j)/\∀ q a b:Nat,(ks N i)[q]?=some a->(ks N j)[q]?=some b->Rel (fD c (c x) (c y)) (Q++P) a b:=by
  intro i j hi hj ei ej ki kj
  cases sa with
  |none=>exact absurd (ha i hi ei) ki
  |some s =>
   cases sb with
   |none=>exact absurd (hb j hj ej) kj
   |some t =>
    obtain⟨l_,oT,Ol⟩:=ha
    obtain⟨IG,eX,ZC⟩:=hb
    obtain⟨a1,a2⟩:=h.al i s hi l_ (ei.trans oT.symm) ki Ol
    obtain⟨b1,b2⟩:=h.al t j IG hj (eX.trans ej.symm) ZC kj
    have lr:=aO s t rfl rfl
    refine⟨(a1.trans lr).trans b1,fun q a b hqa hqb=>?_⟩
    have l1:q < (ks N i).length:=(List.getElem?_eq_some_iff.1 hqa).1
    have l2:(ks N i).length=(ks N s).length:=by rw [lq h.g hi,lq h.g l_,a1.2.2.2]
    have l3:(ks N s).length=(ks N t).length:=by rw [lq h.g l_,lq h.g IG,lr.2.2.2]
    have hsa:(ks N s)[q]?=some ((ks N s)[q]'(by omega)):=List.getElem?_eq_getElem _
    have TZ:(ks N t)[q]?=some ((ks N t)[q]'(by omega)):=List.getElem?_eq_getElem _
    intro d h1 h2
    refine (key (a2 q _ _ hqa hsa) d h1 h2).trans (Eq.trans ?_ (key (b2 q _ _ TZ hqb) d h1 h2))
    have:=XL hsa TZ
    exact h2 _ (List.mem_append_left _ (by rw [hQs s t rfl rfl];exact this))
 have ZD:∀ i j,i < N.length->j < N.length->c i=c y->c j=c x->(tn N i).k ≠ 1->(tn N j).k ≠ 1->alike (tn N i) (tn N j)/\∀ q a b:Nat,(ks N i)[q]?=some a->(ks N j)[q]?=some b->Rel (fD c (c x) (c y)) (Q++P) a b:=fun i j hi hj ei ej ki kj=>by
  obtain⟨h1,h2⟩:=TY j i hj hi ej ei kj ki
  exact⟨h1.symm,fun q a b ha hb d k1 k2=>(h2 q b a hb ha d k1 k2).symm⟩
 refine⟨h.g,hs,fun p hp=>?_,fun p hp=>key (h.eqs p hp),fun i j hi hj e ki kj=>?_⟩
 ·rcases List.mem_append.1 hp with hp|hp
  ·cases sa with
   |none=>rw [hQ] at hp;cases sb<;>cases hp
   |some s =>
    cases sb with
    |none=>rw [hQ] at hp;cases hp
    |some t =>
     obtain⟨l_,oT,Ol⟩:=ha
     obtain⟨IG,eX,ZC⟩:=hb
     rw [hQs s t rfl rfl] at hp
     obtain⟨q,hq⟩:=List.mem_iff_getElem?.1 hp
     unfold ET at hq
     obtain⟨p1,p2⟩:=p
     rw [List.getElem?_zip_eq_some] at hq
     have lr:Sound E N s t:=fun f hf=>by rw [h.sound s x l_ hx oT f hf,jG f hf,h.sound y t hy IG eX.symm f hf]
     have m1:=h.g.lt s l_ p1 (List.mem_of_getElem? hq.1)
     have m2:=h.g.lt t IG p2 (List.mem_of_getElem? hq.2)
     exact⟨by simp only;omega,by simp only;omega,JU h.g l_ IG lr Ol ZC hq.1 hq.2⟩
  ·exact h.lU p (.tail _ hp)
 ·unfold fD at e
  split at e
  ·rename_i h1
   split at e
   ·rename_i h2
    obtain⟨k1,k2⟩:=h.al i j hi hj (h1.trans h2.symm) ki kj
    exact⟨k1,fun q a b ha hb=>key (k2 q a b ha hb)⟩
   ·exact ZD i j hi hj h1 e.symm ki kj
  ·rename_i h1
   split at e
   ·rename_i h2
    exact TY i j hi hj e h2 ki kj
   ·obtain⟨k1,k2⟩:=h.al i j hi hj e ki kj
    exact⟨k1,fun q a b ha hb=>key (k2 q a b ha hb)⟩
theorem jz.ac4 {x y:Nat}(h:jz E N D c ((x,y)::P)) {s t:Nat}(ha:gz N c (c x) (some s)) (hb:gz N c (c y) (some t)) (hn:¬ alike (tn N s) (tn N t)):¬ ∃ f,tU E f:=by
 obtain⟨hx,hy,jG⟩:=h.lU _ (.head _)
 exact ZB (N:=N) (i:=s) (j:=t) (fun f hf=>by rw [h.sound s x ha.1 hx ha.2.1 f hf,jG f hf,h.sound y t hy hb.1 hb.2.1.symm f hf]) ha.2.2 hb.2.2 hn
theorem jz.closed (h:jz E N D c []) (hD:∀ e ∈ E,∃ p ∈ D,p.1 < N.length/\p.2 < N.length/\tn N p.1=e.1/\tn N p.2=e.2):pL E N c:=by
 have key:∀ {i j},Rel c [] i j->c i=c j:=fun h=>h c (fun _ _ e=>e) fun p hp=>by cases hp
 refine⟨h.g,h.sound,fun e he=>?_,fun i j hi hj e ki kj=>?_⟩
 ·obtain⟨p,hp,h1,h2,h3,h4⟩:=hD e he
  exact⟨p.1,p.2,h1,h2,h3,h4,key (h.eqs p hp)⟩
 ·obtain⟨k1,k2⟩:=h.al i j hi hj e ki kj
  refine⟨k1,List.ext_getElem? fun q=>?_⟩
  rw [List.getElem?_map,List.getElem?_map]
  have l:(ks N i).length=(ks N j).length:=by rw [lq h.g hi,lq h.g hj,k1.2.2.2]
  by_cases hq:q < (ks N i).length
  ·have h1:(ks N i)[q]?=some ((ks N i)[q]'hq):=List.getElem?_eq_getElem _
   have h2:(ks N j)[q]?=some ((ks N j)[q]'(by omega)):=List.getElem?_eq_getElem _
   rw [h1,h2]
   exact congrArg some (key (k2 q _ _ h1 h2))
  ·rw [List.getElem?_eq_none (by omega),List.getElem?_eq_none (by omega)]
end
section
variable {E:List (Tm × Tm)}{N N':bj}{D:List (Nat × Nat)}{c c':Nat->Nat}
theorem dS (hp:∀ i,i < N.length->N'[i]?=N[i]?) {i:Nat}(hi:i < N.length):tn N' i=tn N i/\ks N' i=ks N i:=by unfold tn ks;rw [hp i hi];exact⟨rfl,rfl⟩
theorem jz.grow (h:jz E N D c []) (hD:∀ p ∈ D,p.1 < N.length/\p.2 < N.length) (g':jt N') (hl:N.length<=N'.length) (hp:∀ i,i < N.length->N'[i]?=N[i]?) (hc:∀ i,i < N.length->c' i=c i/\c i < N.length) (hn:∀ i,N.length<=i->c' i=i)
  {x y:Nat}(hx:x < N'.length) (hy:y < N'.length) (he:(tn N' x,tn N' y) ∈ E):jz E N' ((x,y)::D) c' [(x,y)]:=by
 have key:∀ {i j P},i < N.length->j < N.length->Rel c [] i j->Rel c' P i j:=fun hi hj h d h1 _=>h1 _ _ (by rw [(hc _ hi).1,(hc _ hj).1];exact h c (fun _ _ e=>e) fun p hp=>by cases hp)
 have cls:∀ i j,i < N'.length->j < N'.length->c' i=c' j->i=j\/(i < N.length/\j < N.length/\c i=c j):=by
  intro i j hi hj e
  by_cases h1:i < N.length
  ·by_cases h2:j < N.length
   ·rw [(hc i h1).1,(hc j h2).1] at e;exact .inr ⟨h1,h2,e⟩
   ·rw [(hc i h1).1,hn j (by omega)] at e;have:=(hc i h1).2;omega
  ·by_cases h2:j < N.length
   ·rw [(hc j h2).1,hn i (by omega)] at e;have:=(hc j h2).2;omega
   ·rw [hn i (by omega),hn j (by omega)] at e;exact .inl e
 refine⟨g',fun i j hi hj e=>?_,fun p hq=>?_,fun p hq=>?_,fun i j hi hj e k1 k2=>?_⟩
 ·rcases cls i j hi hj e with rfl|⟨h1,h2,e⟩
  ·exact fun f _=>rfl
  ·intro f hf
   rw [(dS hp h1).1,(dS hp h2).1]
   exact h.sound i j h1 h2 e f hf
 ·obtain rfl:=List.mem_singleton.1 hq
  exact⟨hx,hy,fun f hf=>hf _ he⟩
 ·rcases List.mem_cons.1 hq with rfl|hq
  ·exact fun d _ h2=>h2 _ (.head _)
  ·exact key (hD p hq).1 (hD p hq).2 (h.eqs p hq)
 ·rcases cls i j hi hj e with rfl|⟨h1,h2,e⟩
  ·refine⟨.refl _,fun q a b ha hb d _ _=>?_⟩
   rw [ha] at hb
   exact congrArg d (oJ_ hb)
  ·rw [(dS hp h1).1] at k1 ⊢
   rw [(dS hp h2).1] at k2 ⊢
   rw [(dS hp h1).2,(dS hp h2).2]
   obtain⟨m1,m2⟩:=h.al i j h1 h2 e k1 k2
   refine⟨m1,fun q a b ha hb=>key ?_ ?_ (m2 q a b ha hb)⟩
   ·have:=h.g.lt i h1 a (List.mem_of_getElem? ha);omega
   ·have:=h.g.lt j h2 b (List.mem_of_getElem? hb);omega
end
def tV:List Int->Prop
 |[]=>True
 |x::l=>(∀ y ∈ l,x < y)/\tV l
theorem Ai:∀ {l m:List Int},tV l->tV m->(∀ x,x ∈ l ↔ x ∈ m)->l=m
 |[],[],_,_,_=>rfl
 |[],y::m,_,_,h=>by have:=(h y).2 (by simp);cases this
 |x::l,[],_,_,h=>by have:=(h x).1 (by simp);cases this
 |x::l,y::m,h1,h2,h=>by
  have e:x=y:=by
   have a:=(h x).1 (by simp)
   have b:=(h y).2 (by simp)
   rcases List.mem_cons.1 a with a|a
   ·exact a
   ·rcases List.mem_cons.1 b with b|b
    ·exact b.symm
    ·have:=h1.1 y b;have:=h2.1 x a;omega
  subst e
  refine congrArg _ (Ai h1.2 h2.2 fun z=>⟨fun hz=>?_,fun hz=>?_⟩)
  ·rcases List.mem_cons.1 ((h z).1 (by simp [hz])) with rfl|h3
   ·exact absurd (h1.1 _ hz) (by omega)
   ·exact h3
  ·rcases List.mem_cons.1 ((h z).2 (by simp [hz])) with rfl|h3
   ·exact absurd (h2.1 _ hz) (by omega)
   ·exact h3
theorem vc {p:Int->Bool}:∀ {l:List Int},tV l->tV (l.filter p)
 |[],_=>trivial
 |x::l,h=>by
  rw [List.filter_cons]
  split
  ·exact⟨fun y hy=>h.1 y (List.mem_filter.1 hy).1,vc h.2⟩
  ·exact vc h.2
structure wW (E:List (Tm × Tm)) (s:Int->Tm) (l:List Int):Prop where
 c:wU E s
 a:tV l
 m:∀ v,v ∈ l ↔ s v ≠ vr v
theorem wW.uniq {E E':List (Tm × Tm)}{s s':Int->Tm}{l l':List Int}(h:wW E s l) (h':wW E' s' l') (he:∀ f,tU E f ↔ tU E' f):s=s'/\l=l':=by
 have c':wU E s':=⟨h'.c.wf,h'.c.idem,h'.c.low,(he _).2 h'.c.IF,fun f hf=>h'.c.gen f ((he f).1 hf)⟩
 obtain rfl:=h.c.uniq c'
 exact⟨rfl,Ai h.a h'.a fun v=>(h.m v).trans (h'.m v).symm⟩
def JV (DM:Tm->Bool) (s:Int->Tm) (l:List Int):List Bd × Int:=if l.any fun v=>DM (s v) then ([],6) else (l.map fun v=>⟨v,s v⟩,0)
open Classical in
noncomputable def tB (DM:Tm->Bool) (E:List (Tm × Tm)):List Bd × Int:=if h:∃ p:(Int->Tm) × List Int,wW E p.1 p.2 then JV DM h.choose.1 h.choose.2 else ([],13)
theorem DN {DM:Tm->Bool}{E:List (Tm × Tm)}{s:Int->Tm}{l:List Int}(h:wW E s l):tB DM E=JV DM s l:=by
 have hx:∃ p:(Int->Tm) × List Int,wW E p.1 p.2:=⟨(s,l),h⟩
 unfold tB
 rw [dif_pos hx]
 obtain⟨e1,e2⟩:=hx.choose_spec.uniq h fun f=>Iff.rfl
 rw [e1,e2]
theorem DO {DM:Tm->Bool}{E:List (Tm × Tm)}(h:¬ ∃ f,tU E f):tB DM E=([],13):=by
 unfold tB
 rw [dif_neg fun ⟨p,hp⟩=>h ⟨_,hp.c.IF⟩]
def lH (N:bj) (v:Int):Option Nat:=N.findIdx? fun x=>x.1.k == 1 && x.1.i == v
mutual
def lI:bj->Tm->bj × Nat
 |N,⟨k,i,n,a⟩=>match (if k=1 then lH N i else none) with
  |some j=>(N,j)
  |none=>((eI N a).1++[(⟨k,i,n,a⟩,(eI N a).2)],(eI N a).1.length)
def eI:bj->List Tm->bj × List Nat
 |N,[]=>(N,[])
 |N,x::l=>((eI (lI N x).1 l).1,(lI N x).2::(eI (lI N x).1 l).2)
end
structure rM (N N':bj):Prop where
 g:jt N'
 le:N.length<=N'.length
 pre:∀ i,i < N.length->N'[i]?=N[i]?
theorem rM.trans {A B C:bj}(h:rM A B) (k:rM B C):rM A C:=⟨k.g,Nat.le_trans h.le k.le,fun i hi=>(k.pre i (by have:=h.le;omega)).trans (h.pre i hi)⟩
theorem rM.tn {A B:bj}(h:rM A B) {i:Nat}(hi:i < A.length):tn B i=tn A i:=(dS h.pre hi).1
theorem wX {N:bj}{v:Int}{j:Nat}(h:lH N v=some j):j < N.length/\(tn N j).k=1/\(tn N j).i=v:=by
 unfold lH at h
 obtain⟨hj,h1,_⟩:=List.findIdx?_eq_some_iff_getElem.1 h
 simp only [Bool.and_eq_true,beq_iff_eq] at h1
 unfold tn
 rw [List.getElem?_eq_getElem hj]
 exact⟨hj,h1⟩
theorem DP {N:bj}{v:Int}(h:lH N v=none):∀ j,j < N.length->(tn N j).k=1->(tn N j).i ≠ v:=by
 intro j hj hk hi
 unfold lH at h
 have:=List.findIdx?_eq_none_iff.1 h N[j] (List.getElem_mem hj)
 unfold tn at hk hi
 rw [List.getElem?_eq_getElem hj] at hk hi
 simp only [Option.getD_some] at hk hi
 simp [hk,hi] at this
theorem jC {N:bj}{x:Tm × List Nat}:tn (N++[x]) N.length=x.1/\ks (N++[x]) N.length=x.2:=by unfold tn ks;simp
theorem FG {N:bj}{t:Tm}{IH:List Nat}(g:jt N) (h1:∀ j ∈ IH,j < N.length) (h2:t.a=IH.map (tn N)) (h3:eW t) (h4:t.k=1->∀ j,j < N.length->(tn N j).k=1->(tn N j).i ≠ t.i):rM N (N++[(t,IH)]):=by
 have hp:∀ i,i < N.length->(N++[(t,IH)])[i]?=N[i]?:=fun i hi=>List.getElem?_append_left hi
 have hm:∀ l:List Nat,(∀ j ∈ l,j < N.length)->l.map (tn (N++[(t,IH)]))=l.map (tn N):=fun l hl=>List.map_congr_left fun j hj=>(dS hp (hl j hj)).1
 have hlen:∀ i,i < (N++[(t,IH)]).length->i < N.length\/i=N.length:=fun i hi=>by rw [List.length_append,List.length_singleton] at hi;omega
 refine⟨⟨fun i hi j hj=>?_,fun i hi=>?_,fun i hi=>?_,fun i j hi hj ki kj e=>?_⟩,by rw [List.length_append];omega,hp⟩
 ·rcases hlen i hi with h|rfl
  ·rw [(dS hp h).2] at hj;exact g.lt i h j hj
  ·rw [jC.2] at hj;exact h1 j hj
 ·rcases hlen i hi with h|rfl
  ·rw [(dS hp h).1,(dS hp h).2,hm _ fun j hj=>by have:=g.lt i h j hj;omega];exact g.args i h
  ·rw [jC.1,jC.2,hm _ h1];exact h2
 ·rcases hlen i hi with h|rfl
  ·rw [(dS hp h).1];exact g.wf i h
  ·rw [jC.1];exact h3
 ·rcases hlen i hi with hi|rfl<;>rcases hlen j hj with hj|rfl
  ·rw [(dS hp hi).1] at ki e
   rw [(dS hp hj).1] at kj e
   exact g.one i j hi hj ki kj e
  ·rw [(dS hp hi).1] at ki e
   rw [jC.1] at kj e
   exact absurd e (h4 kj i hi ki)
  ·rw [(dS hp hj).1] at kj e
   rw [jC.1] at ki e
   exact absurd e.symm (h4 ki j hj kj)
  ·rfl
mutual
theorem yL:∀ (N:bj) (t:Tm),jt N->eW t->rM N (lI N t).1/\(lI N t).2 < (lI N t).1.length/\tn (lI N t).1 (lI N t).2=t
 |N,⟨k,i,n,a⟩,g,hw=>by
  rw [lI]
  by_cases hk:k=1
  ·rw [if_pos hk]
   have lR:=hw
   rw [eW,if_pos hk] at lR
   obtain⟨rfl,rfl⟩:=lR
   subst hk
   cases hv:lH N i with
   |some j =>
    obtain⟨h1,h2,h3⟩:=wX hv
    refine⟨⟨g,Nat.le_refl _,fun _ _=>rfl⟩,h1,?_⟩
    rw [FC (g.wf j h1) h2,h3,vr]
   |none =>
    refine⟨?_,?_,?_⟩
    ·simp only [eI]
     exact FG g (fun j hj=>by cases hj) rfl hw fun _=>DP hv
    ·simp [eI]
    ·simp only [eI];exact jC.1
  ·rw [if_neg hk]
   have lR:=hw
   rw [eW,if_neg hk] at lR
   obtain⟨h1,h2,h3⟩:=FH N a g lR.1
   refine⟨h1.trans (FG h1.g h2 h3.symm hw fun e=>absurd e hk),?_,?_⟩
   ·simp
   ·exact jC.1
theorem FH:∀ (N:bj) (l:List Tm),jt N->iS l->rM N (eI N l).1/\(∀ j ∈ (eI N l).2,j < (eI N l).1.length)/\(eI N l).2.map (tn (eI N l).1)=l
 |N,[],g,_=>by rw [eI];exact⟨⟨g,Nat.le_refl _,fun _ _=>rfl⟩,(fun j hj=>by cases hj),rfl⟩
 |N,x::l,g,hw=>by
  rw [iS] at hw
  obtain⟨h1,h2,h3⟩:=yL N x g hw.1
  obtain⟨k1,k2,k3⟩:=FH (lI N x).1 l h1.g hw.2
  rw [eI]
  refine⟨h1.trans k1,fun j hj=>?_,?_⟩
  ·rcases List.mem_cons.1 hj with rfl|hj
   ·have:=k1.le;simp only;omega
   ·exact k2 j hj
  ·simp only [List.map_cons,k3,k1.tn h2,h3]
end
def TF (N:bj) (c:Nat->Nat) (sh:Nat->Option Nat) (lo:Nat->Int):Nat->Nat->Tm
 |0,_=>default
 |m+1,C=>match sh C with
  |none=>vr (lo C)
  |some s=>⟨(tn N s).k,(tn N s).i,(tn N s).n,(ks N s).map fun j=>TF N c sh lo m (c j)⟩
section
variable {E:List (Tm × Tm)}{N:bj}{c:Nat->Nat}{sh:Nat->Option Nat}{lo:Nat->Int}{r:Nat->Nat}
theorem II (hC:jt N) (hs:∀ C s,sh C=some s->s < N.length/\c s=C/\(tn N s).k ≠ 1) (hr:pN N c r):∀ (m m' C:Nat),r C < m->r C < m'->TF N c sh lo m C=TF N c sh lo m' C
 |0,_,C,h,_=>by omega
 |m+1,0,C,_,h=>by omega
 |m+1,m'+1,C,h,h'=>by
  rw [TF,TF]
  cases e:sh C with
  |none=>rfl
  |some s =>
   obtain⟨h1,h2,h3⟩:=hs C s e
   simp only [Tm.mk.injEq,true_and]
   refine List.map_congr_left fun j hj=>?_
   have:=hr s h1 h3 j hj
   rw [h2] at this
   exact II hC hs hr m m' (c j) (by omega) (by omega)
def TC (N:bj) (c:Nat->Nat) (sh:Nat->Option Nat) (lo:Nat->Int) (r:Nat->Nat) (C:Nat):Tm:=TF N c sh lo (r C+1) C
theorem XM (hC:jt N) (hs:∀ C s,sh C=some s->s < N.length/\c s=C/\(tn N s).k ≠ 1) (hr:pN N c r) {C s:Nat}(e:sh C=some s):TC N c sh lo r C=⟨(tn N s).k,(tn N s).i,(tn N s).n,(ks N s).map fun j=>TC N c sh lo r (c j)⟩:=by
 obtain⟨h1,h2,h3⟩:=hs C s e
 rw [TC,TF,e]
 simp only [Tm.mk.injEq,true_and]
 refine List.map_congr_left fun j hj=>?_
 have:=hr s h1 h3 j hj
 rw [h2] at this
 exact II hC hs hr _ _ (c j) (by omega) (by omega)
theorem XN {C:Nat}(e:sh C=none):TC N c sh lo r C=vr (lo C):=by rw [TC,TF,e]
theorem QJ (hC:pL E N c) (hs:∀ C s,sh C=some s->s < N.length/\c s=C/\(tn N s).k ≠ 1) (hr:pN N c r) (hn:∀ i,i < N.length->sh (c i)=none->∀ j,j < N.length->c j=c i->(tn N j).k=1) (hl:∀ i,i < N.length->sh (c i)=none->∃ j,j < N.length/\c j=c i/\lo (c i)=(tn N j).i/\∀ j',j' < N.length->c j'=c i->(tn N j).i<=(tn N j').i) :
  yJ N c (TC N c sh lo r):=by
 refine⟨fun i hi hk=>?_,fun i hi hp=>?_⟩
 ·cases e:sh (c i) with
  |none=>exact absurd (hn i hi e i hi rfl) hk
  |some s =>
   obtain⟨h1,h2,h3⟩:=hs _ s e
   obtain⟨⟨a1,a2,a3,a4⟩,a5⟩:=hC.al i s hi h1 h2.symm hk h3
   rw [XM hC.g hs hr e,a1,a2,a3]
   have e1:∀ l:List Nat,l.map (fun j=>TC N c sh lo r (c j))=(l.map c).map (TC N c sh lo r):=fun l=>by rw [List.map_map];rfl
   rw [e1,e1,a5]
 ·cases e:sh (c i) with
  |none =>
   obtain⟨j,h1,h2,h3,h4⟩:=hl i hi e
   exact⟨j,h1,h2,by rw [XN e,h3],h4⟩
  |some s =>
   obtain⟨h1,h2,h3⟩:=hs _ s e
   exact absurd (hp s h1 h2) h3
end
end
end Go.Proofs.YtgjfgekaclobaaaGreat
