import Derived.Test.YtbpabjmnhggajaaGreatOs15
namespace Go.Proofs.YtbpabjmnhggajaaGreat
set_option linter.unusedVariables false
set_option linter.unusedSimpArgs false
open Go.RowKit
section
instance:Inhabited Tm:=⟨⟨0,0,⟨#[]⟩,[]⟩⟩
theorem O_ {a b:ByteArray}:a.toList=b.toList ↔ a=b:=⟨fun h=>by rw[ByteArray.toList_eq,ByteArray.toList_eq] at h;cases a;cases b;simp only[ByteArray.mk.injEq];exact Array.toList_inj.1 h,fun h=>h ▸ rfl⟩
def vr (v:Int):Tm:=⟨1,v,⟨#[]⟩,[]⟩
mutual
def eD (f:Int->Tm):Tm->Tm
 |⟨k,i,n,a⟩=>if k=1 then f i else ⟨k,i,n,gR f a⟩
def gR (f:Int->Tm):List Tm->List Tm
 |[]=>[]
 |x::l=>eD f x::gR f l
end
theorem sV (f:Int->Tm) (v:Int):eD f (vr v)=f v:=by grind[vr,eD]
theorem Fz (f:Int->Tm):∀ l,gR f l=l.map (eD f)
 |[]=>by rw[gR];rfl
 |x::l=>by rw[gR,Fz f l];rfl
mutual
def kH (v:Int):Tm->Prop
 |⟨k,i,n,a⟩=>if k=1 then i=v else lW v a
def lW (v:Int):List Tm->Prop
 |[]=>False
 |x::l=>kH v x\/lW v l
end
mutual
def eE:Tm->Prop
 |⟨k,i,n,a⟩=>if k=1 then n=⟨#[]⟩/\a=[] else fE a/\(k=2\/a=[])
def fE:List Tm->Prop
 |[]=>True
 |x::l=>eE x/\fE l
end
theorem fE.mem:∀ {l:List Tm},fE l->∀ x ∈ l,eE x
 |y::l,h,x,hx=>by
  rw[fE] at h;rcases List.mem_cons.1 hx with rfl|hx
  ·grind
  ·exact h.2.mem x hx
theorem EE:∀ {l:List Tm},(∀ x ∈ l,eE x)->fE l
 |[],_=>by rw[fE];trivial
 |y::l,h=>by rw[fE];exact⟨h y (by simp),EE fun x hx=>h x (by grind)⟩
theorem FA {v:Int}:∀ {l:List Tm},lW v l ↔ ∃ x ∈ l,kH v x
 |[]=>by rw[lW];simp
 |y::l=>by rw[lW,FA];simp
theorem C3 {t:Tm}(h:eE t) (hk:t.k=1):t=vr t.i:=by
 obtain⟨k,i,n,a⟩:=t;obtain rfl:k=1:=hk;rw[eE,if_pos rfl] at h;obtain⟨rfl,rfl⟩:=h
 rfl
mutual
theorem Lg {f:Int->Tm}:∀ {t:Tm},eE t->(∀ w,kH w t->f w=vr w)->eD f t=t
 |⟨k,i,n,a⟩,h,ho=>by
  rw[eD];split
  ·rename_i hk;rw[ho i (by grind[kH])];exact (C3 h hk).symm
  ·rename_i hk;rw[eE,if_neg hk] at h;rw[HT h.1 fun w hw=>ho w (by grind[kH])]
theorem HT {f:Int->Tm}:∀ {l:List Tm},fE l->(∀ w,lW w l->f w=vr w)->gR f l=l
 |[],_,_=>by rw[gR]
 |x::l,h,ho=>by
  rw[fE] at h;rw[gR,Lg h.1 fun w hw=>ho w (by grind[lW]),HT h.2 fun w hw=>ho w (by grind[lW])]
end
def uG (E:List (Tm × Tm)) (f:Int->Tm):Prop:=∀ e ∈ E,eD f e.1=eD f e.2
structure wV (E:List (Tm × Tm)) (s:Int->Tm):Prop where
 wf:∀ v,eE (s v)
 idem:∀ v w,kH w (s v)->s w=vr w
 low:∀ v w,s v=vr w->w<=v
 FB:uG E s
 gen:∀ f,uG E f->∀ v,f v=eD f (s v)
theorem wV.uniq {E:List (Tm × Tm)}{s t:Int->Tm}(hs:wV E s) (ht:wV E t):s=t:=by
 have key:∀ {f g:Int->Tm},wV E f->wV E g->∀ v,f v=vr v->g v=vr v:=by
  intro f g hf hg v hv;have h:=hf.gen;have h1:=hg.gen f hf.FB v;rw[hv] at h1;have h2:(g v).k=1:=by
   have hw:=hg.wf v;generalize g v=t at h1 hw;obtain⟨k,i,n,a⟩:=t;rw[eD] at h1;split at h1
   ·grind
   ·injection h1 with h1;exact h1.symm
  have h3:=C3 (hg.wf v) h2;generalize (g v).i=w at h3;rw[h3,sV] at h1;have h4:=hf.low _ _ h1.symm;have h5:=hg.low _ _ h3;rw[h3,show w=v by omega]
 funext v;rw[hs.gen s hs.FB v];have h1:=ht.gen s hs.FB v;rw[<-hs.gen s hs.FB v,h1];exact Lg (ht.wf v) fun w hw=>key ht hs w (ht.idem v w hw)
abbrev bB:=List (Tm × List Nat)
def tn (N:bB) (i:Nat):Tm:=((N[i]?).getD default).1
def ks (N:bB) (i:Nat):List Nat:=((N[i]?).getD default).2
structure jT (N:bB):Prop where
 lt:∀ i,i < N.length->∀ j ∈ ks N i,j < i
 args:∀ i,i < N.length->(tn N i).a=(ks N i).map (tn N)
 wf:∀ i,i < N.length->eE (tn N i)
 one:∀ i j,i < N.length->j < N.length->(tn N i).k=1->(tn N j).k=1->(tn N i).i=(tn N j).i->i=j
def Sound (E:List (Tm × Tm)) (N:bB) (i j:Nat):Prop:=∀ f,uG E f->eD f (tn N i)=eD f (tn N j)
def alike (s t:Tm):Prop:=s.k=t.k/\s.i=t.i/\s.n=t.n/\s.a.length=t.a.length
structure qV (E:List (Tm × Tm)) (N:bB) (c:Nat->Nat):Prop where
 g:jT N
 sound:∀ i j,i < N.length->j < N.length->c i=c j->Sound E N i j
 eqs:∀ e ∈ E,∃ i j,i < N.length/\j < N.length/\tn N i=e.1/\tn N j=e.2/\c i=c j
 al:∀ i j,i < N.length->j < N.length->c i=c j->(tn N i).k ≠ 1->(tn N j).k ≠ 1->alike (tn N i) (tn N j)/\(ks N i).map c=(ks N j).map c
structure AL (N:bB) (c:Nat->Nat) (T:Nat->Tm):Prop where
 shaped:∀ i,i < N.length->(tn N i).k ≠ 1->T (c i)=⟨(tn N i).k,(tn N i).i,(tn N i).n,(ks N i).map fun j=>T (c j)⟩
 plain:∀ i,i < N.length->(∀ j,j < N.length->c j=c i->(tn N j).k=1)->∃ j,j < N.length/\c j=c i/\T (c i)=vr (tn N j).i/\∀ j',j' < N.length->c j'=c i->(tn N j).i<=(tn N j').i
theorem qW {f:Int->Tm}{t:Tm}(h:t.k ≠ 1):eD f t=⟨t.k,t.i,t.n,t.a.map (eD f)⟩:=by
 obtain⟨k,i,n,a⟩:=t;rw[eD,if_neg h,Fz]
theorem HU {f:Int->Tm}{t:Tm}(h:t.k=1):eD f t=f t.i:=by
 obtain⟨k,i,n,a⟩:=t;rw[eD,if_pos h]
theorem YP {E:List (Tm × Tm)}{N:bB}{i j:Nat}(h:Sound E N i j) (hi:(tn N i).k ≠ 1) (hj:(tn N j).k ≠ 1) (hn:¬ alike (tn N i) (tn N j)):¬ ∃ f,uG E f:=by
 rintro⟨f,hf⟩;have:=h f hf;rw[qW hi,qW hj] at this;injection this with h1 h2 h3 h4;exact hn ⟨h1,h2,h3,by simpa using congrArg List.length h4⟩
theorem MR {E:List (Tm × Tm)}{N:bB}(g:jT N) {i j:Nat}(jV:i < N.length) (lx:j < N.length) (h:Sound E N i j) (hi:(tn N i).k ≠ 1) (hj:(tn N j).k ≠ 1) {p a b:Nat}(ha:(ks N i)[p]?=some a) (hb:(ks N j)[p]?=some b):Sound E N a b:=by
 intro f hf;have:=h f hf;rw[qW hi,qW hj] at this;injection this with h1 h2 h3 h4;rw[g.args i jV,g.args j lx] at h4;have:=congrArg (fun l=>l[p]?) h4;simpa[ha,hb] using this
mutual
def dk:Tm->Nat
 |⟨k,i,n,a⟩=>bP a+1
def bP:List Tm->Nat
 |[]=>0
 |x::l=>dk x+bP l
end
theorem nB:∀ {l:List Tm},∀ x ∈ l,dk x<=bP l
 |y::l,x,h=>by
  rw[bP];rcases List.mem_cons.1 h with rfl|h
  ·omega
  ·have:=nB x h;omega
def qX (N:bB) (c:Nat->Nat) (r:Nat->Nat):Prop:=∀ i,i < N.length->(tn N i).k ≠ 1->∀ j ∈ ks N i,r (c j) < r (c i)
theorem Pa {E:List (Tm × Tm)}{N:bB}{c:Nat->Nat}(g:jT N) (hs:∀ i j,i < N.length->j < N.length->c i=c j->Sound E N i j) (h:∃ f,uG E f):∃ r,qX N c r:=by
 obtain⟨f,hf⟩:=h;have key:∀ C,∃ n,∀ i,i < N.length->c i=C->dk (eD f (tn N i))=n:=by
  intro C;by_cases hC:∃ i,i < N.length/\c i=C
  ·obtain⟨i,hi,hC⟩:=hC;exact⟨_,fun j hj hc=>by rw[hs j i hj hi (hc.trans hC.symm) f hf]⟩
  ·exact⟨0,fun i hi hc=>absurd ⟨i,hi,hc⟩ hC⟩
 refine⟨fun C=>(key C).choose,fun i hi hk j hj=>?_⟩;have aA:=g.lt i hi j hj;show (key (c j)).choose < (key (c i)).choose;rw[<-(key (c i)).choose_spec i hi rfl,<-(key (c j)).choose_spec j (by omega) rfl,qW hk,dk]
 have:=nB (l:=(tn N i).a.map (eD f)) (eD f (tn N j)) (by
  rw[g.args i hi,List.map_map];exact List.mem_map.2 ⟨j,hj,rfl⟩)
 omega
section
variable {E:List (Tm × Tm)}{N:bB}{c:Nat->Nat}{T:Nat->Tm}{r:Nat->Nat}
theorem FC (hC:qV E N c) (hT:AL N c T) (hr:qX N c r) {f:Int->Tm}(hf:uG E f):∀ (m i:Nat),r (c i) < m->i < N.length->eD f (tn N i)=eD f (T (c i))
 |0,i,h,_=>by omega
 |m+1,i,h,hi=>by
  by_cases hp:∀ j,j < N.length->c j=c i->(tn N j).k=1
  ·obtain⟨j,hj,hc,ht,_⟩:=hT.plain i hi hp;rw[ht,hC.sound i j hi hj hc.symm f hf,HU (hp j hj hc),vr,eD,if_pos rfl]
  ·obtain⟨j,hj,hc,hk⟩:∃ j,j < N.length/\c j=c i/\(tn N j).k ≠ 1:=by grind
   rw[<-hc,hT.shaped j hj hk,hC.sound i j hi hj hc.symm f hf,qW hk,qW (t:=⟨_,_,_,_⟩) hk,hC.g.args j hj];simp only[List.map_map,Tm.mk.injEq,true_and];refine List.map_congr_left fun p hp=>?_;have h1:=hC.g.lt j hj p hp;have h2:=hr j hj hk p hp;exact FC hC hT hr hf m p (by grind) (by omega)
theorem yT (hC:qV E N c) (hT:AL N c T) {f:Int->Tm}(hf:∀ i,i < N.length->(tn N i).k=1->f (tn N i).i=T (c i)):∀ (m i:Nat),i < m->i < N.length->eD f (tn N i)=T (c i)
 |0,i,h,_=>by omega
 |m+1,i,h,hi=>by
  by_cases hk:(tn N i).k=1
  ·grind[HU]
  ·rw[qW hk,hT.shaped i hi hk,hC.g.args i hi];simp only[List.map_map,Tm.mk.injEq,true_and];refine List.map_congr_left fun p hp=>?_;have h1:=hC.g.lt i hi p hp;exact yT hC hT hf m p (by omega) (by omega)
theorem B_ (hC:qV E N c) (hT:AL N c T) (hr:qX N c r):∀ (m i:Nat),r (c i) < m->i < N.length->eE (T (c i))/\∀ w,kH w (T (c i))->∃ j,j < N.length/\(tn N j).k=1/\(tn N j).i=w/\T (c j)=vr w
 |0,i,h,_=>by omega
 |m+1,i,h,hi=>by
  by_cases hp:∀ j,j < N.length->c j=c i->(tn N j).k=1
  ·obtain⟨j,hj,hc,ht,_⟩:=hT.plain i hi hp;rw[ht];refine⟨by grind[vr,eE],fun w hw=>?_⟩;rw[vr,kH,if_pos rfl] at hw;exact⟨j,hj,hp j hj hc,hw,by grind⟩
  ·obtain⟨j,hj,hc,hk⟩:∃ j,j < N.length/\c j=c i/\(tn N j).k ≠ 1:=by grind
   have ih:∀ p ∈ ks N j,_:=fun p hp=>B_ hC hT hr m p (by have:=hr j hj hk p hp;rw[hc] at this;omega) (by have:=hC.g.lt j hj p hp;omega);rw[<-hc,hT.shaped j hj hk,eE,if_neg hk];refine⟨⟨EE fun x hx=>?_,?_⟩,fun w hw=>?_⟩
   ·grind
   ·have h1:=hC.g.wf j hj;have h2:=hC.g.args j hj;generalize tn N j=t at h1 h2 hk;obtain⟨k,i',n,a⟩:=t;rw[eE,if_neg hk] at h1;refine h1.2.imp_right fun e=>?_;simp only at h2;rw[e] at h2;rw[List.map_eq_nil_iff.1 h2.symm];rfl
   ·grind[kH,FA]
open Classical in
noncomputable def C4 (N:bB) (c:Nat->Nat) (T:Nat->Tm) (v:Int):Tm:=if h:∃ i,i < N.length/\(tn N i).k=1/\(tn N i).i=v then T (c h.choose) else vr v
theorem AM (g:jT N) {i:Nat}(hi:i < N.length) (hk:(tn N i).k=1):C4 N c T (tn N i).i=T (c i):=by
 unfold C4;have h:∃ j,j < N.length/\(tn N j).k=1/\(tn N j).i=(tn N i).i:=⟨i,hi,hk,rfl⟩;rw[dif_pos h,g.one _ _ h.choose_spec.1 hi h.choose_spec.2.1 hk h.choose_spec.2.2]
theorem HV {v:Int}(h:¬ ∃ i,i < N.length/\(tn N i).k=1/\(tn N i).i=v):C4 N c T v=vr v:=by grind[C4]
theorem R8 (hC:qV E N c) (hT:AL N c T) (hr:qX N c r):wV E (C4 N c T):=by
 have hv:∀ v,(∃ i,i < N.length/\(tn N i).k=1/\(tn N i).i=v/\C4 N c T v=T (c i))\/C4 N c T v=vr v:=fun v=>by
  by_cases h:∃ i,i < N.length/\(tn N i).k=1/\(tn N i).i=v
  ·obtain⟨i,hi,hk,rfl⟩:=h;exact .inl ⟨i,hi,hk,rfl,AM hC.g hi hk⟩
  ·grind[HV]
 refine⟨fun v=>?_,fun v w hw=>?_,fun v w hw=>?_,fun e he=>?_,fun f hf v=>?_⟩
 ·rcases hv v with ⟨i,hi,hk,hiv,e⟩|e
  ·rw[e];exact (B_ hC hT hr _ i (Nat.lt_succ_self _) hi).1
  ·grind[vr,eE]
 ·rcases hv v with ⟨i,hi,hk,hiv,e⟩|e
  ·rw[e] at hw;obtain⟨j,hj,hk,rfl,hT⟩:=(B_ hC hT hr _ i (Nat.lt_succ_self _) hi).2 w hw;rw[AM hC.g hj hk,hT]
  ·grind[vr,kH]
 ·rcases hv v with ⟨i,hi,hk,rfl,e⟩|e
  ·rw[e] at hw;by_cases hp:∀ j,j < N.length->c j=c i->(tn N j).k=1
   ·obtain⟨j,hj,hc,ht,hm⟩:=hT.plain i hi hp;rw[ht,vr,vr,Tm.mk.injEq] at hw;rw[<-hw.2.1];exact hm i hi rfl
   ·obtain⟨j,hj,hc,hk⟩:∃ j,j < N.length/\c j=c i/\(tn N j).k ≠ 1:=by grind
    rw[<-hc,hT.shaped j hj hk,vr,Tm.mk.injEq] at hw;exact absurd hw.1 hk
  ·grind[vr]
 ·obtain⟨i,j,hi,hj,h1,h2,hc⟩:=hC.eqs e he;have U4:∀ i,i < N.length->(tn N i).k=1->C4 N c T (tn N i).i=T (c i):=fun i hi hk=>AM hC.g hi hk;rw[<-h1,<-h2,yT hC hT U4 _ i (Nat.lt_succ_self _) hi,yT hC hT U4 _ j (Nat.lt_succ_self _) hj,hc]
 ·rcases hv v with ⟨i,hi,hk,rfl,e⟩|e
  ·rw[e,<-FC hC hT hr hf _ i (Nat.lt_succ_self _) hi,HU hk]
  ·grind[vr,eD]
end
def Rel (c:Nat->Nat) (P:List (Nat × Nat)) (i j:Nat):Prop:=∀ d:Nat->Nat,(∀ x y,c x=c y->d x=d y)->(∀ p ∈ P,d p.1=d p.2)->d i=d j
structure j8 (E:List (Tm × Tm)) (N:bB) (D:List (Nat × Nat)) (c:Nat->Nat) (P:List (Nat × Nat)):Prop where
 g:jT N
 sound:∀ i j,i < N.length->j < N.length->c i=c j->Sound E N i j
 mP:∀ p ∈ P,p.1 < N.length/\p.2 < N.length/\Sound E N p.1 p.2
 eqs:∀ p ∈ D,Rel c P p.1 p.2
 al:∀ i j,i < N.length->j < N.length->c i=c j->(tn N i).k ≠ 1->(tn N j).k ≠ 1->alike (tn N i) (tn N j)/\∀ q a b:Nat,(ks N i)[q]?=some a->(ks N j)[q]?=some b->Rel c P a b
theorem alike.refl (t:Tm):alike t t:=⟨rfl,rfl,rfl,rfl⟩
theorem alike.symm {s t:Tm}(h:alike s t):alike t s:=⟨h.1.symm,h.2.1.symm,h.2.2.1.symm,h.2.2.2.symm⟩
theorem alike.trans {s t u:Tm}(h:alike s t) (k:alike t u):alike s u:=⟨h.1.trans k.1,h.2.1.trans k.2.1,h.2.2.1.trans k.2.2.1,h.2.2.2.trans k.2.2.2⟩
section
variable {E:List (Tm × Tm)}{N:bB}{D P P':List (Nat × Nat)}{c c':Nat->Nat}
theorem Rel.mono {i j:Nat}(h:Rel c P i j) (hc:∀ d:Nat->Nat,(∀ x y,c' x=c' y->d x=d y)->(∀ p ∈ P',d p.1=d p.2)->(∀ x y,c x=c y->d x=d y)/\∀ p ∈ P,d p.1=d p.2):Rel c' P' i j:=fun d h1 h2=>h d (hc d h1 h2).1 (hc d h1 h2).2
theorem j8.mono (h:j8 E N D c P) (hp:∀ p ∈ P',p.1 < N.length/\p.2 < N.length/\Sound E N p.1 p.2) (hc:∀ d:Nat->Nat,(∀ x y,c x=c y->d x=d y)->(∀ p ∈ P',d p.1=d p.2)->∀ p ∈ P,d p.1=d p.2):j8 E N D c P':=by
 have key:∀ {i j},Rel c P i j->Rel c P' i j:=fun h=>h.mono fun d h1 h2=>⟨h1,hc d h1 h2⟩;exact⟨h.g,h.sound,hp,fun p hp=>key (h.eqs p hp),fun i j hi hj e k1 k2=>⟨(h.al i j hi hj e k1 k2).1,fun q a b ha hb=>key ((h.al i j hi hj e k1 k2).2 q a b ha hb)⟩⟩
theorem j8.perm (h:j8 E N D c P) (hp:∀ p,p ∈ P' ↔ p ∈ P):j8 E N D c P':=h.mono (fun p h1=>h.mP p ((hp p).1 h1)) fun d _ h2 p h1=>h2 p ((hp p).2 h1)
theorem j8.pop {x y:Nat}(h:j8 E N D c ((x,y)::P)) (e:c x=c y):j8 E N D c P:=h.mono (fun p h1=>h.mP p (.tail _ h1)) fun d h1 h2 p h3=>by grind
def gm (c:Nat->Nat) (a b:Nat) (i:Nat):Nat:=if c i=b then a else c i
def Hb (N:bB) (i j:Nat):List (Nat × Nat):=(ks N i).zip (ks N j)
def mS (N:bB):Option Nat->Option Nat->List (Nat × Nat)
 |some s,some t=>Hb N s t
 |_,_=>[]
theorem Ww {α β:Type}{l:List α}{m:List β}{q:Nat}{a:α}{b:β}(ha:l[q]?=some a) (hb:m[q]?=some b):(a,b) ∈ l.zip m:=List.mem_iff_getElem?.2 ⟨q,by grind⟩
def g8 (N:bB) (c:Nat->Nat) (C:Nat):Option Nat->Prop
 |none=>∀ i,i < N.length->c i=C->(tn N i).k=1
 |some s=>s < N.length/\c s=C/\(tn N s).k ≠ 1
theorem mh (g:jT N) {i:Nat}(hi:i < N.length):(ks N i).length=(tn N i).a.length:=by rw[g.args i hi,List.length_map]
theorem R9 {x y:Nat}{d:Nat->Nat}(h1:∀ u v,gm c (c x) (c y) u=gm c (c x) (c y) v->d u=d v):(∀ u v,c u=c v->d u=d v)/\d x=d y:=by grind[gm]
theorem Pb {x y:Nat}(hs:∀ i j,i < N.length->j < N.length->c i=c j->Sound E N i j) (hx:x < N.length) (hy:y < N.length) (kr:Sound E N x y):∀ i j,i < N.length->j < N.length->gm c (c x) (c y) i=gm c (c x) (c y) j->Sound E N i j:=by
 intro i j hi hj e f hf;have h0:=kr f hf;unfold gm at e;split at e
 ·rename_i h1;split at e
  ·rename_i h2;rw[hs i y hi hy h1 f hf,hs j y hj hy h2 f hf]
  ·rw[hs i y hi hy h1 f hf,<-h0,hs x j hx hj e f hf]
 ·rename_i h1;split at e
  ·rename_i h2;rw[hs i x hi hx e f hf,h0,hs y j hy hj h2.symm f hf]
  ·exact hs i j hi hj e f hf
theorem j8.merge {x y:Nat}(h:j8 E N D c ((x,y)::P)) {sa sb:Option Nat}(ha:g8 N c (c x) sa) (hb:g8 N c (c y) sb) (aK:∀ s t,sa=some s->sb=some t->alike (tn N s) (tn N t)) :
  j8 E N D (gm c (c x) (c y)) (mS N sa sb++P):=by
 obtain⟨hx,hy,kr⟩:=h.mP _ (.head _);have hs:=Pb h.sound hx hy kr;obtain⟨Q,hQ⟩:∃ Q,Q=mS N sa sb:=⟨_,rfl⟩;rw[<-hQ];have hQs:∀ s t,sa=some s->sb=some t->Q=Hb N s t:=fun s t e1 e2=>by rw[hQ,e1,e2];rfl
 have key:∀ {i j},Rel c ((x,y)::P) i j->Rel (gm c (c x) (c y)) (Q++P) i j:=fun hr=>hr.mono fun d h1 h2=>by
  obtain⟨k1,k2⟩:=R9 h1;refine⟨k1,fun p hp=>?_⟩;rcases List.mem_cons.1 hp with rfl|hp
  ·grind
  ·grind
 have aco:∀ i j,i < N.length->j < N.length->c i=c x->c j=c y->(tn N i).k ≠ 1->(tn N j).k ≠ 1->alike (tn N i) (tn N j)/\∀ q a b:Nat,(ks N i)[q]?=some a->(ks N j)[q]?=some b->Rel (gm c (c x) (c y)) (Q++P) a b:=by
  intro i j hi hj ei ej ki kj;cases sa with
  |none=>exact absurd (ha i hi ei) ki
  |some s =>
   cases sb with
   |none=>exact absurd (hb j hj ej) kj
   |some t =>
    obtain⟨lL,qY,FD⟩:=ha;obtain⟨Lh,fS,YQ⟩:=hb;obtain⟨a1,a2⟩:=h.al i s hi lL (ei.trans qY.symm) ki FD;obtain⟨b1,b2⟩:=h.al t j Lh hj (fS.trans ej.symm) YQ kj;have mj:=aK s t rfl rfl;refine⟨(a1.trans mj).trans b1,fun q a b hqa U5=>?_⟩;have l1:q < (ks N i).length:=(List.getElem?_eq_some_iff.1 hqa).1;have l2:(ks N i).length=(ks N s).length:=by rw[mh h.g hi,mh h.g lL,a1.2.2.2]
    have l3:(ks N s).length=(ks N t).length:=by rw[mh h.g lL,mh h.g Lh,mj.2.2.2]
    have hsa:(ks N s)[q]?=some ((ks N s)[q]'(by omega)):=List.getElem?_eq_getElem _;have U6:(ks N t)[q]?=some ((ks N t)[q]'(by omega)):=List.getElem?_eq_getElem _;intro d h1 h2;refine (key (a2 q _ _ hqa hsa) d h1 h2).trans (Eq.trans ?_ (key (b2 q _ _ U6 U5) d h1 h2));have:=Ww hsa U6;exact h2 _ (List.mem_append_left _ (by rw[hQs s t rfl rfl];exact this))
 have aj2:∀ i j,i < N.length->j < N.length->c i=c y->c j=c x->(tn N i).k ≠ 1->(tn N j).k ≠ 1->alike (tn N i) (tn N j)/\∀ q a b:Nat,(ks N i)[q]?=some a->(ks N j)[q]?=some b->Rel (gm c (c x) (c y)) (Q++P) a b:=fun i j hi hj ei ej ki kj=>by
  obtain⟨h1,h2⟩:=aco j i hj hi ej ei kj ki;exact⟨h1.symm,fun q a b ha hb d k1 k2=>(h2 q b a hb ha d k1 k2).symm⟩
 refine⟨h.g,hs,fun p hp=>?_,fun p hp=>key (h.eqs p hp),fun i j hi hj e ki kj=>?_⟩
 ·rcases List.mem_append.1 hp with hp|hp
  ·cases sa with
   |none=>rw[hQ] at hp;cases sb<;>cases hp
   |some s =>
    cases sb with
    |none=>rw[hQ] at hp;cases hp
    |some t =>
     obtain⟨lL,qY,FD⟩:=ha;obtain⟨Lh,fS,YQ⟩:=hb;rw[hQs s t rfl rfl] at hp;obtain⟨q,hq⟩:=List.mem_iff_getElem?.1 hp;unfold Hb at hq;obtain⟨p1,p2⟩:=p;rw[List.getElem?_zip_eq_some] at hq;have mj:Sound E N s t:=fun f hf=>by rw[h.sound s x lL hx qY f hf,kr f hf,h.sound y t hy Lh fS.symm f hf]
     have m1:=h.g.lt s lL p1 (List.mem_of_getElem? hq.1);have m2:=h.g.lt t Lh p2 (List.mem_of_getElem? hq.2);exact⟨by grind,by grind,MR h.g lL Lh mj FD YQ hq.1 hq.2⟩
  ·exact h.mP p (.tail _ hp)
 ·unfold gm at e;split at e
  ·rename_i h1;split at e
   ·rename_i h2;obtain⟨k1,k2⟩:=h.al i j hi hj (h1.trans h2.symm) ki kj;exact⟨k1,fun q a b ha hb=>key (k2 q a b ha hb)⟩
   ·grind
  ·rename_i h1;split at e
   ·grind
   ·obtain⟨k1,k2⟩:=h.al i j hi hj e ki kj;exact⟨k1,fun q a b ha hb=>key (k2 q a b ha hb)⟩
theorem j8.acp {x y:Nat}(h:j8 E N D c ((x,y)::P)) {s t:Nat}(ha:g8 N c (c x) (some s)) (hb:g8 N c (c y) (some t)) (hn:¬ alike (tn N s) (tn N t)):¬ ∃ f,uG E f:=by
 obtain⟨hx,hy,kr⟩:=h.mP _ (.head _);exact YP (N:=N) (i:=s) (j:=t) (fun f hf=>by rw[h.sound s x ha.1 hx ha.2.1 f hf,kr f hf,h.sound y t hy hb.1 hb.2.1.symm f hf]) ha.2.2 hb.2.2 hn
theorem j8.closed (h:j8 E N D c []) (hD:∀ e ∈ E,∃ p ∈ D,p.1 < N.length/\p.2 < N.length/\tn N p.1=e.1/\tn N p.2=e.2):qV E N c:=by
 have key:∀ {i j},Rel c [] i j->c i=c j:=fun h=>h c (fun _ _ e=>e) fun p hp=>by grind
 refine⟨h.g,h.sound,fun e he=>?_,fun i j hi hj e ki kj=>?_⟩
 ·obtain⟨p,hp,h1,h2,h3,h4⟩:=hD e he;exact⟨p.1,p.2,h1,h2,h3,h4,key (h.eqs p hp)⟩
 ·obtain⟨k1,k2⟩:=h.al i j hi hj e ki kj;refine⟨k1,List.ext_getElem? fun q=>?_⟩;rw[List.getElem?_map,List.getElem?_map];have l:(ks N i).length=(ks N j).length:=by rw[mh h.g hi,mh h.g hj,k1.2.2.2]
  by_cases hq:q < (ks N i).length
  ·grind
  ·grind
end
section
variable {E:List (Tm × Tm)}{N N':bB}{D:List (Nat × Nat)}{c c':Nat->Nat}
theorem eg (hp:∀ i,i < N.length->N'[i]?=N[i]?) {i:Nat}(hi:i < N.length):tn N' i=tn N i/\ks N' i=ks N i:=by grind[tn,ks]
theorem j8.grow (h:j8 E N D c []) (hD:∀ p ∈ D,p.1 < N.length/\p.2 < N.length) (g':jT N') (hl:N.length<=N'.length) (hp:∀ i,i < N.length->N'[i]?=N[i]?) (hc:∀ i,i < N.length->c' i=c i/\c i < N.length) (hn:∀ i,N.length<=i->c' i=i)
  {x y:Nat}(hx:x < N'.length) (hy:y < N'.length) (he:(tn N' x,tn N' y) ∈ E):j8 E N' ((x,y)::D) c' [(x,y)]:=by
 have key:∀ {i j P},i < N.length->j < N.length->Rel c [] i j->Rel c' P i j:=fun hi hj h d h1 _=>h1 _ _ (by rw[(hc _ hi).1,(hc _ hj).1];exact h c (fun _ _ e=>e) fun p hp=>by grind);have cls:∀ i j,i < N'.length->j < N'.length->c' i=c' j->i=j\/(i < N.length/\j < N.length/\c i=c j):=by grind
 refine⟨g',fun i j hi hj e=>?_,fun p hq=>?_,fun p hq=>?_,fun i j hi hj e k1 k2=>?_⟩
 ·rcases cls i j hi hj e with rfl|⟨h1,h2,e⟩
  ·exact fun f _=>rfl
  ·intro f hf;rw[(eg hp h1).1,(eg hp h2).1];exact h.sound i j h1 h2 e f hf
 ·obtain rfl:=List.mem_singleton.1 hq;exact⟨hx,hy,fun f hf=>hf _ he⟩
 ·rcases List.mem_cons.1 hq with rfl|hq
  ·exact fun d _ h2=>h2 _ (.head _)
  ·exact key (hD p hq).1 (hD p hq).2 (h.eqs p hq)
 ·rcases cls i j hi hj e with rfl|⟨h1,h2,e⟩
  ·refine⟨.refl _,fun q a b ha hb d _ _=>?_⟩;rw[ha] at hb;exact congrArg d (oJ_ hb)
  ·rw[(eg hp h1).1] at k1 ⊢;rw[(eg hp h2).1] at k2 ⊢;rw[(eg hp h1).2,(eg hp h2).2];obtain⟨m1,m2⟩:=h.al i j h1 h2 e k1 k2;refine⟨m1,fun q a b ha hb=>key ?_ ?_ (m2 q a b ha hb)⟩
   ·have:=h.g.lt i h1 a (List.mem_of_getElem? ha);omega
   ·have:=h.g.lt j h2 b (List.mem_of_getElem? hb);omega
end
def uH:List Int->Prop
 |[]=>True
 |x::l=>(∀ y ∈ l,x < y)/\uH l
theorem Ca:∀ {l m:List Int},uH l->uH m->(∀ x,x ∈ l ↔ x ∈ m)->l=m
 |[],[],_,_,_=>rfl
 |[],y::m,_,_,h=>by have:=(h y).2 (by simp);cases this
 |x::l,[],_,_,h=>by have:=(h x).1 (by simp);cases this
 |x::l,y::m,h1,h2,h=>by
  have e:x=y:=by
   have a:=(h x).1 (by simp);have b:=(h y).2 (by simp);rcases List.mem_cons.1 a with a|a
   ·grind
   ·rcases List.mem_cons.1 b with b|b
    ·grind
    ·have:=h1.1 y b;have:=h2.1 x a;omega
  subst e;refine congrArg _ (Ca h1.2 h2.2 fun z=>⟨fun hz=>?_,fun hz=>?_⟩)
  ·rcases List.mem_cons.1 ((h z).1 (by grind)) with rfl|h3
   ·exact absurd (h1.1 _ hz) (by omega)
   ·grind
  ·rcases List.mem_cons.1 ((h z).2 (by grind)) with rfl|h3
   ·exact absurd (h2.1 _ hz) (by omega)
   ·grind
theorem wW {p:Int->Bool}:∀ {l:List Int},uH l->uH (l.filter p)
 |[],_=>trivial
 |x::l,h=>by
  rw[List.filter_cons];split
  ·exact⟨fun y hy=>h.1 y (List.mem_filter.1 hy).1,wW h.2⟩
  ·exact wW h.2
structure yU (E:List (Tm × Tm)) (s:Int->Tm) (l:List Int):Prop where
 c:wV E s
 a:uH l
 m:∀ v,v ∈ l ↔ s v ≠ vr v
theorem yU.uniq {E E':List (Tm × Tm)}{s s':Int->Tm}{l l':List Int}(h:yU E s l) (h':yU E' s' l') (he:∀ f,uG E f ↔ uG E' f):s=s'/\l=l':=by
 have c':wV E s':=⟨h'.c.wf,h'.c.idem,h'.c.low,(he _).2 h'.c.FB,fun f hf=>h'.c.gen f ((he f).1 hf)⟩;obtain rfl:=h.c.uniq c';exact⟨rfl,Ca h.a h'.a fun v=>(h.m v).trans (h'.m v).symm⟩
def HW (FE:Tm->Bool) (s:Int->Tm) (l:List Int):List Bd × Int:=if l.any fun v=>FE (s v) then ([],6) else (l.map fun v=>⟨v,s v⟩,0)
open Classical in
noncomputable def lX (FE:Tm->Bool) (E:List (Tm × Tm)):List Bd × Int:=if h:∃ p:(Int->Tm) × List Int,yU E p.1 p.2 then HW FE h.choose.1 h.choose.2 else ([],13)
theorem FF {FE:Tm->Bool}{E:List (Tm × Tm)}{s:Int->Tm}{l:List Int}(h:yU E s l):lX FE E=HW FE s l:=by
 have hx:∃ p:(Int->Tm) × List Int,yU E p.1 p.2:=⟨(s,l),h⟩;unfold lX;rw[dif_pos hx];obtain⟨e1,e2⟩:=hx.choose_spec.uniq h fun f=>Iff.rfl;rw[e1,e2]
theorem FG {FE:Tm->Bool}{E:List (Tm × Tm)}(h:¬ ∃ f,uG E f):lX FE E=([],13):=by
 unfold lX;rw[dif_neg fun ⟨p,hp⟩=>h ⟨_,hp.c.FB⟩]
def mC (N:bB) (v:Int):Option Nat:=N.findIdx? fun x=>x.1.k == 1 && x.1.i == v
mutual
def mD:bB->Tm->bB × Nat
 |N,⟨k,i,n,a⟩=>match (if k=1 then mC N i else none) with
  |some j=>(N,j)
  |none=>((fh N a).1++[(⟨k,i,n,a⟩,(fh N a).2)],(fh N a).1.length)
def fh:bB->List Tm->bB × List Nat
 |N,[]=>(N,[])
 |N,x::l=>((fh (mD N x).1 l).1,(mD N x).2::(fh (mD N x).1 l).2)
end
structure tr (N N':bB):Prop where
 g:jT N'
 le:N.length<=N'.length
 pre:∀ i,i < N.length->N'[i]?=N[i]?
theorem tr.trans {A B C:bB}(h:tr A B) (k:tr B C):tr A C:=⟨k.g,Nat.le_trans h.le k.le,fun i hi=>(k.pre i (by have:=h.le;omega)).trans (h.pre i hi)⟩
theorem tr.tn {A B:bB}(h:tr A B) {i:Nat}(hi:i < A.length):tn B i=tn A i:=(eg h.pre hi).1
theorem yV {N:bB}{v:Int}{j:Nat}(h:mC N v=some j):j < N.length/\(tn N j).k=1/\(tn N j).i=v:=by
 unfold mC at h;obtain⟨hj,h1,_⟩:=List.findIdx?_eq_some_iff_getElem.1 h;simp only[Bool.and_eq_true,beq_iff_eq] at h1;unfold tn;rw[List.getElem?_eq_getElem hj];exact⟨hj,h1⟩
theorem FH {N:bB}{v:Int}(h:mC N v=none):∀ j,j < N.length->(tn N j).k=1->(tn N j).i ≠ v:=by grind[mC,tn]
theorem kc {N:bB}{x:Tm × List Nat}:tn (N++[x]) N.length=x.1/\ks (N++[x]) N.length=x.2:=by unfold tn ks;simp
theorem HX {N:bB}{t:Tm}{Li:List Nat}(g:jT N) (h1:∀ j ∈ Li,j < N.length) (h2:t.a=Li.map (tn N)) (h3:eE t) (h4:t.k=1->∀ j,j < N.length->(tn N j).k=1->(tn N j).i ≠ t.i):tr N (N++[(t,Li)]):=by
 have hp:∀ i,i < N.length->(N++[(t,Li)])[i]?=N[i]?:=fun i hi=>List.getElem?_append_left hi;have hm:∀ l:List Nat,(∀ j ∈ l,j < N.length)->l.map (tn (N++[(t,Li)]))=l.map (tn N):=fun l hl=>List.map_congr_left fun j hj=>(eg hp (hl j hj)).1;have hlen:∀ i,i < (N++[(t,Li)]).length->i < N.length\/i=N.length:=fun i hi=>by grind
 refine⟨⟨fun i hi j hj=>?_,fun i hi=>?_,fun i hi=>?_,fun i j hi hj ki kj e=>?_⟩,by grind,hp⟩
 ·rcases hlen i hi with h|rfl
  ·rw[(eg hp h).2] at hj;exact g.lt i h j hj
  ·rw[kc.2] at hj;exact h1 j hj
 ·rcases hlen i hi with h|rfl
  ·rw[(eg hp h).1,(eg hp h).2,hm _ fun j hj=>by have:=g.lt i h j hj;omega];exact g.args i h
  ·rw[kc.1,kc.2,hm _ h1];exact h2
 ·rcases hlen i hi with h|rfl
  ·rw[(eg hp h).1];exact g.wf i h
  ·rw[kc.1];exact h3
 ·rcases hlen i hi with hi|rfl<;>rcases hlen j hj with hj|rfl
  ·rw[(eg hp hi).1] at ki e;rw[(eg hp hj).1] at kj e;exact g.one i j hi hj ki kj e
  ·rw[(eg hp hi).1] at ki e;rw[kc.1] at kj e;exact absurd e (h4 kj i hi ki)
  ·rw[(eg hp hj).1] at kj e;rw[kc.1] at ki e;exact absurd e.symm (h4 ki j hj kj)
  ·rfl
mutual
theorem AN:∀ (N:bB) (t:Tm),jT N->eE t->tr N (mD N t).1/\(mD N t).2 < (mD N t).1.length/\tn (mD N t).1 (mD N t).2=t
 |N,⟨k,i,n,a⟩,g,hw=>by
  rw[mD];by_cases hk:k=1
  ·rw[if_pos hk];have yW:=hw;rw[eE,if_pos hk] at yW;obtain⟨rfl,rfl⟩:=yW;subst hk;cases hv:mC N i with
   |some j =>
    obtain⟨h1,h2,h3⟩:=yV hv;refine⟨⟨g,Nat.le_refl _,fun _ _=>rfl⟩,h1,?_⟩;rw[C3 (g.wf j h1) h2,h3,vr]
   |none =>
    refine⟨?_,?_,?_⟩
    ·grind[fh,HX,FH]
    ·grind
    ·simp only[fh];exact kc.1
  ·rw[if_neg hk];have yW:=hw;rw[eE,if_neg hk] at yW;obtain⟨h1,h2,h3⟩:=HY N a g yW.1;refine⟨h1.trans (HX h1.g h2 h3.symm hw fun e=>absurd e hk),?_,?_⟩
   ·simp
   ·exact kc.1
theorem HY:∀ (N:bB) (l:List Tm),jT N->fE l->tr N (fh N l).1/\(∀ j ∈ (fh N l).2,j < (fh N l).1.length)/\(fh N l).2.map (tn (fh N l).1)=l
 |N,[],g,_=>by rw[fh];exact⟨⟨g,Nat.le_refl _,fun _ _=>rfl⟩,(fun j hj=>by grind),rfl⟩
 |N,x::l,g,hw=>by
  rw[fE] at hw;obtain⟨h1,h2,h3⟩:=AN N x g hw.1;obtain⟨k1,k2,k3⟩:=HY (mD N x).1 l h1.g hw.2;rw[fh];refine⟨h1.trans k1,fun j hj=>?_,?_⟩
  ·rcases List.mem_cons.1 hj with rfl|hj
   ·have:=k1.le;simp only;omega
   ·grind
  ·simp only[List.map_cons,k3,k1.tn h2,h3]
end
def TF (N:bB) (c:Nat->Nat) (sh:Nat->Option Nat) (lo:Nat->Int):Nat->Nat->Tm
 |0,_=>default
 |m+1,C=>match sh C with
  |none=>vr (lo C)
  |some s=>⟨(tn N s).k,(tn N s).i,(tn N s).n,(ks N s).map fun j=>TF N c sh lo m (c j)⟩
section
variable {E:List (Tm × Tm)}{N:bB}{c:Nat->Nat}{sh:Nat->Option Nat}{lo:Nat->Int}{r:Nat->Nat}
theorem Lj (hC:jT N) (hs:∀ C s,sh C=some s->s < N.length/\c s=C/\(tn N s).k ≠ 1) (hr:qX N c r):∀ (m m' C:Nat),r C < m->r C < m'->TF N c sh lo m C=TF N c sh lo m' C
 |0,_,C,h,_=>by omega
 |m+1,0,C,_,h=>by omega
 |m+1,m'+1,C,h,h'=>by
  rw[TF,TF];cases e:sh C with
  |none=>rfl
  |some s =>
   obtain⟨h1,h2,h3⟩:=hs C s e;simp only[Tm.mk.injEq,true_and];refine List.map_congr_left fun j hj=>?_;have:=hr s h1 h3 j hj;rw[h2] at this;exact Lj hC hs hr m m' (c j) (by omega) (by omega)
def TC (N:bB) (c:Nat->Nat) (sh:Nat->Option Nat) (lo:Nat->Int) (r:Nat->Nat) (C:Nat):Tm:=TF N c sh lo (r C+1) C
theorem Wx (hC:jT N) (hs:∀ C s,sh C=some s->s < N.length/\c s=C/\(tn N s).k ≠ 1) (hr:qX N c r) {C s:Nat}(e:sh C=some s):TC N c sh lo r C=⟨(tn N s).k,(tn N s).i,(tn N s).n,(ks N s).map fun j=>TC N c sh lo r (c j)⟩:=by
 obtain⟨h1,h2,h3⟩:=hs C s e;rw[TC,TF,e];simp only[Tm.mk.injEq,true_and];refine List.map_congr_left fun j hj=>?_;have:=hr s h1 h3 j hj;rw[h2] at this;exact Lj hC hs hr _ _ (c j) (by omega) (by omega)
theorem Wy {C:Nat}(e:sh C=none):TC N c sh lo r C=vr (lo C):=by rw[TC,TF,e]
theorem R_ (hC:qV E N c) (hs:∀ C s,sh C=some s->s < N.length/\c s=C/\(tn N s).k ≠ 1) (hr:qX N c r) (hn:∀ i,i < N.length->sh (c i)=none->∀ j,j < N.length->c j=c i->(tn N j).k=1) (hl:∀ i,i < N.length->sh (c i)=none->∃ j,j < N.length/\c j=c i/\lo (c i)=(tn N j).i/\∀ j',j' < N.length->c j'=c i->(tn N j).i<=(tn N j').i) :
  AL N c (TC N c sh lo r):=by
 refine⟨fun i hi hk=>?_,fun i hi hp=>?_⟩
 ·cases e:sh (c i) with
  |none=>exact absurd (hn i hi e i hi rfl) hk
  |some s =>
   obtain⟨h1,h2,h3⟩:=hs _ s e;obtain⟨⟨a1,a2,a3,a4⟩,a5⟩:=hC.al i s hi h1 h2.symm hk h3;rw[Wx hC.g hs hr e,a1,a2,a3];have e1:∀ l:List Nat,l.map (fun j=>TC N c sh lo r (c j))=(l.map c).map (TC N c sh lo r):=fun l=>by rw[List.map_map];rfl
   rw[e1,e1,a5]
 ·cases e:sh (c i) with
  |none =>
   obtain⟨j,h1,h2,h3,h4⟩:=hl i hi e;exact⟨j,h1,h2,by rw[Wy e,h3],h4⟩
  |some s =>
   obtain⟨h1,h2,h3⟩:=hs _ s e;exact absurd (hp s h1 h2) h3
end
end
end Go.Proofs.YtbpabjmnhggajaaGreat
