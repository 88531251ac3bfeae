import Derived.Test.YtbofilglphfceaaGreatQ49
namespace Go.Proofs.YtbofilglphfceaaGreat
set_option linter.unusedVariables false
set_option linter.unusedSimpArgs false
open Go.RowKit
theorem dT {a b c:Int}(h:a=0->b=c):bh a b=bh a c:=by
 unfold bh
 split
 ·exact h (by assumption)
 ·rfl
theorem KA {a b:Int}(h:bh a b=0):a=0/\b=0:=by
 unfold bh at h
 split at h
 ·exact⟨by assumption,h⟩
 ·exact absurd h (by assumption)
theorem nh {T:Type}(f:T->Int) (a b:List T):aI f (a++b)=bh (aI f a) (aI f b):=by
 induction a with
 |nil=>rw [List.nil_append,aI,bu rfl]
 |cons x a ih=>rw [List.cons_append,aI,aI,ih,bS]
theorem El {T U:Type}(f:U->Int) (g:T->List U) (l:List T):aI f (l.flatMap g)=aI (fun x=>aI f (g x)) l:=by
 induction l with
 |nil=>rfl
 |cons x l ih=>rw [List.flatMap_cons,nh,aI,ih]
theorem ni {T:Type}{f:T->Int}:∀ {l:List T},aI f l=0->∀ x ∈ l,f x=0
 |[],_,x,hx=>by cases hx
 |y::l,h,x,hx=>by
  rw [aI] at h
  obtain⟨h1,h2⟩:=KA h
  rcases List.mem_cons.1 hx with rfl|hx
  ·exact h1
  ·exact ni h2 x hx
theorem pB {b:Bool}{e:Int}(he:e ≠ 0) (h:bW b e=0):b=true:=by
 cases b with
 |true=>rfl
 |false=>exact absurd h he
theorem oK:∀ (l s:List Int) (v:Int),v ∈ bE s l ↔ v ∈ l/\v ∉ s
 |[],s,v=>by simp [bE]
 |x::l,s,v=>by
  rw [bE]
  by_cases h:s.contains x=true
  ·rw [if_pos h,oK l s v]
   have hx:=List.contains_iff_mem.1 h
   constructor
   ·exact fun ⟨a,b⟩=>⟨List.mem_cons.2 (.inr a),b⟩
   ·rintro⟨a,b⟩
    rcases List.mem_cons.1 a with rfl|a
    ·exact absurd hx b
    ·exact⟨a,b⟩
  ·rw [if_neg h]
   have hx:x ∉ s:=fun e=>h (List.contains_iff_mem.2 e)
   rw [List.mem_cons,oK l (s++[x]) v,List.mem_cons,List.mem_append,List.mem_singleton]
   constructor
   ·rintro (rfl|⟨a,b⟩)
    ·exact⟨.inl rfl,hx⟩
    ·exact⟨.inr a,fun e=>b (.inl e)⟩
   ·rintro⟨a,b⟩
    by_cases e:v=x
    ·exact .inl e
    ·exact .inr ⟨a.resolve_left e,fun c=>c.elim b e⟩
theorem pC:∀ (a t s:List Int),(∀ x ∈ t,x ∈ s)->bE s (bE t a)=bE s a
 |[],t,s,h=>rfl
 |x::a,t,s,h=>by
  rw [bE]
  by_cases ht:t.contains x=true
  ·have hs:s.contains x=true:=List.contains_iff_mem.2 (h x (List.contains_iff_mem.1 ht))
   rw [if_pos ht,bE,if_pos hs]
   exact pC a t s h
  ·rw [if_neg ht]
   by_cases hs:s.contains x=true
   ·rw [bE,if_pos hs,bE,if_pos hs]
    refine pC a (t++[x]) s fun y hy=>?_
    rcases List.mem_append.1 hy with hy|hy
    ·exact h y hy
    ·obtain rfl:=List.mem_singleton.1 hy;exact List.contains_iff_mem.1 hs
   ·rw [bE,if_neg hs,bE,if_neg hs]
    refine congrArg _ (pC a (t++[x]) (s++[x]) fun y hy=>?_)
    rcases List.mem_append.1 hy with hy|hy
    ·exact List.mem_append.2 (.inl (h y hy))
    ·exact List.mem_append.2 (.inr hy)
theorem nj {T:Type}(f:T->List Tm):∀ (l:List T) (s rest:List Int),bE s ((l.flatMap fun x=>varsOf (f x))++rest)=bE s (aT (l.flatMap f)++rest)
 |[],s,rest=>rfl
 |x::l,s,rest=>by
  rw [List.flatMap_cons,List.flatMap_cons,tD,List.append_assoc,List.append_assoc,gS (varsOf (f x)),gS (aT (f x))]
  rw [show bE s (varsOf (f x))=bE s (aT (f x)) from pC _ [] s fun y hy=>by cases hy]
  rw [nj f l]
def iota (n:Nat):List Int:=(List.range n).map fun k:Nat=>(k:Int)
theorem DO (n:Nat) (v:Int):v ∈ iota n ↔ 0<=v/\v < n:=by
 unfold iota
 rw [List.mem_map]
 constructor
 ·rintro⟨k,hk,rfl⟩
  have:=List.mem_range.1 hk
  exact⟨by omega,by omega⟩
 ·rintro⟨h1,h2⟩
  exact⟨v.toNat,List.mem_range.2 (by omega),(by omega:((v.toNat:Nat):Int)=v)⟩
theorem KB (n:Nat):iota (n+1)=iota n++[(n:Int)]:=by
 unfold iota
 rw [List.range_succ,List.map_append]
 rfl
theorem z8 (kk:Int->Int):∀ (L:List Int) (n:Nat),(∀ v ∈ L,0<=v)->tp L n kk=bh (tE (bE (iota n) L) n) (kk ((n+(bE (iota n) L).length:Nat):Int))
 |[],n,_=>by rw [tp,bE,tE,bu rfl];rfl
 |v::L,n,h=>by
  have h0:=h v (by simp)
  have hL:∀ v ∈ L,0<=v:=fun x hx=>h x (by simp [hx])
  rw [tp,bE]
  by_cases h1:v < n
  ·have hc:(iota n).contains v=true:=List.contains_iff_mem.2 ((DO n v).2 ⟨h0,h1⟩)
   rw [if_pos hc,if_pos (by omega),if_neg (by omega)]
   exact z8 kk L n hL
  ·have hc:¬ (iota n).contains v=true:=fun e=>h1 ((DO n v).1 (List.contains_iff_mem.1 e)).2
   rw [if_neg hc,tE]
   by_cases h2:v=n
   ·rw [if_pos (by omega),if_pos h2,decide_eq_true h2,show bW true 2=0 from rfl,bu rfl]
    have:=z8 kk L (n+1) hL
    rw [show ((n+1:Nat):Int)=(n:Int)+1 by omega] at this
    rw [this,KB,h2]
    rw [List.length_cons,show n+1+(bE (iota n++[(n:Int)]) L).length=n+((bE (iota n++[(n:Int)]) L).length+1) by omega]
   ·rw [if_neg (by omega),decide_eq_false h2,show bW false 2=2 from rfl,bS,cE (by decide)]
theorem KC (x:Tm):gH x=true->∀ v ∈ cY x,0<=v:=by
 refine Tm.ind (p:=fun x=>gH x=true->∀ v ∈ cY x,0<=v) ?_ x
 intro k i n a ih h v hv
 rw [gH] at h
 rw [cY] at hv
 by_cases h1:k=1
 ·subst h1
  rw [if_neg (by decide),if_pos rfl] at h
  rw [if_pos rfl] at hv
  obtain rfl:=List.mem_singleton.1 hv
  rw [Bool.and_eq_true,Bool.and_eq_true] at h
  exact of_decide_eq_true h.1.1
 ·rw [if_neg h1] at hv
  by_cases h2:k=2
  ·subst h2
   rw [if_neg (by decide),if_neg (by decide),if_pos rfl,Bool.and_eq_true] at h
   rw [if_pos rfl] at hv
   have key:∀ l:List Tm,(∀ y ∈ l,gH y=true->∀ v ∈ cY y,0<=v)->iU l=true->∀ v ∈ aT l,0<=v:=by
    intro l
    induction l with
    |nil=>intro _ _ v hv;rw [aT] at hv;cases hv
    |cons y l ihl =>
     intro hy hf v hv
     rw [iU,Bool.and_eq_true] at hf
     rw [aT] at hv
     rcases List.mem_append.1 hv with hv|hv
     ·exact hy y (by simp) hf.1 v hv
     ·exact ihl (fun z hz=>hy z (by simp [hz])) hf.2 v hv
   exact key a ih h.2 v hv
  ·rw [if_neg h2] at hv
   cases hv
theorem DP:∀ {a:List Tm},(∀ x ∈ a,gE x=true)->∀ v ∈ aT a,0<=v
 |[],_,v,hv=>by rw [aT] at hv;cases hv
 |x::a,h,v,hv=>by
  rw [aT] at hv
  rcases List.mem_append.1 hv with hv|hv
  ·have:=h x (by simp)
   unfold gE at this
   rw [Bool.and_eq_true,Bool.and_eq_true] at this
   exact KC x this.1.1 v hv
  ·exact DP (fun y hy=>h y (by simp [hy])) v hv
theorem vn {a:List Tm}(h:ld a=true):∀ v ∈ aT a,0<=v:=by
 unfold ld at h
 rw [Bool.and_eq_true] at h
 exact DP (List.all_eq_true.1 h.1)
theorem wH {x:At}(h:eh x=true):∀ v ∈ varsOf x.a,0<=v:=by
 unfold eh at h
 rw [Bool.and_eq_true] at h
 exact fun v hv=>vn h.2 v ((oK _ _ v).1 hv).1
theorem Em {x:Gl}(h:dL x=true):∀ v ∈ varsOf x.a,0<=v:=by
 unfold dL at h
 split at h
 ·exact wH (x:=⟨x.n,x.a⟩) h
 ·rw [Bool.and_eq_true] at h
  exact fun v hv=>vn h.2 v ((oK _ _ v).1 hv).1
theorem RF (ds:List Dc) (r:Rl):oo ds r=rI ds r:=by
 unfold oo rI
 refine dT fun _=>?_
 rw [nh,nh,bS,GD]
 refine dT fun hk=>dT fun hr=>?_
 rw [rk,bS]
 refine dT fun hg=>dT fun hb=>?_
 have hA:∀ x ∈ r.aV++r.rem,eh x=true:=fun x hx=>by
  rcases List.mem_append.1 hx with h|h
  ·exact pB (by decide) (ni hk x h)
  ·exact pB (by decide) (ni hr x h)
 have hG:∀ x ∈ r.guard++r.body,dL x=true:=fun x hx=>by
  rcases List.mem_append.1 hx with h|h
  ·exact pB (by decide) (ni hg x h)
  ·exact pB (by decide) (ni hb x h)
 have eA:oY r=(r.aV++r.rem).flatMap fun x=>varsOf x.a:=by
  unfold oY xJ
  rw [List.flatMap_cons,List.flatMap_cons,List.flatMap_nil,List.append_nil,tL,tL,List.flatMap_append]
 have eG:r8 r=(r.guard++r.body).flatMap fun x=>varsOf x.a:=by
  unfold r8 nn
  rw [List.flatMap_cons,List.flatMap_cons,List.flatMap_nil,List.append_nil,r7,r7,List.flatMap_append]
 have Ci:∀ v ∈ oY r++r8 r,0<=v:=fun v hv=>by
  rcases List.mem_append.1 hv with h|h
  ·rw [eA] at h
   obtain⟨x,hx,h⟩:=List.mem_flatMap.1 h
   exact wH (hA x hx) v h
  ·rw [eG] at h
   obtain⟨x,hx,h⟩:=List.mem_flatMap.1 h
   exact Em (hG x hx) v h
 have ir:bE (iota 0) (oY r++r8 r)=qL r:=by
  show bE [] _=_
  unfold qL varsOf
  rw [eA,eG,nj (fun x:At=>x.a),tD]
  have:=nj (fun x:Gl=>x.a) (r.guard++r.body) [] []
  rw [gS (aT _),gS (aT (dA (r.aV++r.rem)))]
  refine congrArg _ ?_
  have h2:=nj (fun x:Gl=>x.a) (r.guard++r.body) ([]++bE [] (aT (dA (r.aV++r.rem)))) []
  rw [List.append_nil,List.append_nil] at h2
  exact h2
 have h1:=z8 (fun n=>bh (bW (decide (r.vars=n)) 2) (vR ds r)) (oY r++r8 r) 0 Ci
 rw [ir,Nat.zero_add] at h1
 rw [rj]
 refine Eq.trans h1 (dT fun _=>dT fun _=>?_)
 rw [vR]
 refine dT fun _=>?_
 unfold oc
 rw [nh,bS,Bu,ri]
 refine dT fun _=>dT fun _=>?_
 rw [rW,rW,rW,nh,bS]
 refine dT fun _=>dT fun _=>?_
 rw [GC,Ij]
 refine dT fun _=>dT fun _=>?_
 rw [yB,Ii]
 have e1:nn [r.guard]=r.guard.flatMap fun x=>varsOf x.a:=by
  unfold nn
  rw [List.flatMap_cons,List.flatMap_nil,List.append_nil,r7]
 rw [e1,El]
 have e2:JZ r=FA (varsOf (dA (r.aV++r.rem))):=by
  funext v
  unfold JZ FA
  have:(oY r).contains v=(varsOf (dA (r.aV++r.rem))).contains v:=by
   rw [Bool.eq_iff_iff,List.contains_iff_mem,List.contains_iff_mem,eA]
   have h2:=nj (fun x:At=>x.a) (r.aV++r.rem) [] []
   rw [List.append_nil,List.append_nil] at h2
   have h3:∀ l:List Int,v ∈ l ↔ v ∈ bE [] l:=fun l=>by rw [oK];simp
   rw [h3,h2]
   rfl
  rw [this]
 rw [e2]
 rfl
theorem DQ (ds:List Dc):∀ (l:List Dc) (k:Nat),l=ds.drop k->oD (ds.take k) l=nf ds l k
 |[],k,_=>rfl
 |d::l,k,h=>by
  have hd:ds[k]?=some d:=by
   have:=congrArg (fun l=>l[0]?) h
   simpa using this.symm
  have hl:l=ds.drop (k+1):=by
   have:=congrArg List.tail h
   simpa using this
  have ht:ds.take (k+1)=ds.take k++[d]:=by rw [List.take_add_one,hd];rfl
  rw [oD,nf,<-ht,DQ ds l (k+1) hl,<-bS,<-bS]
  congr 1
  have hs:(ds.take k).any (m8 d)=ef (ds.take k) d.n d.ar:=by
   unfold ef
   congr 1
   funext x
   unfold m8
   rw [Bool.eq_iff_iff]
   simp only [Bool.and_eq_true,beq_iff_eq]
   exact⟨fun ⟨a,b⟩=>⟨a.symm,b.symm⟩,fun ⟨a,b⟩=>⟨a.symm,b.symm⟩⟩
  unfold By
  rw [hs]
  cases gk d.n with
  |false=>rfl
  |true =>
   cases (decide (0<=d.ar) && decide (d.ar<=6)) with
   |false=>rfl
   |true=>cases ef (ds.take k) d.n d.ar<;>rfl
theorem DR (ds:List Dc):∀ (l:List Rl) (k:Nat),qA ds l k=qM ds l k
 |[],_=>rfl
 |r::l,k=>by rw [qA,qM,RF,DR ds l]
theorem MR (p:Pg):oE p=ng p:=by
 unfold oE ng nW
 have h1:oD [] p.ds=nf p.ds p.ds 0:=DQ p.ds p.ds 0 rfl
 rw [h1]
 by_cases h:p.ds.length<=30
 ·rw [if_pos h,decide_eq_true h,show bW true 6=0 from rfl,bu rfl]
  by_cases h2:nf p.ds p.ds 0=0
  ·rw [if_pos h2,bu h2]
   by_cases h3:p.rs.length<=40
   ·rw [if_pos h3,decide_eq_true h3,if_pos (show bW true 6=0 from rfl),DR]
   ·rw [if_neg h3,decide_eq_false h3,if_neg (show ¬ bW false 6=0 by decide)]
    rfl
  ·rw [if_neg h2,cE h2,if_neg h2]
 ·rw [if_neg h,decide_eq_false h,show bW false 6=6 from rfl,cE (by decide),if_neg (by decide)]
end Go.Proofs.YtbofilglphfceaaGreat
