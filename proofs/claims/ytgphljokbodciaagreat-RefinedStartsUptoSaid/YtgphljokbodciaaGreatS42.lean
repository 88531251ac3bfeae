import Derived.Test.YtgphljokbodciaaGreatS41
namespace Go.Proofs.YtgphljokbodciaaGreat
set_option linter.unusedVariables false
set_option linter.unusedSimpArgs false
open Go.RowKit
theorem dV {a b c:Int}(h:a=0->b=c):bh a b=bh a c:=by
 unfold bh
 split
 ·exact h (by assumption)
 ·rfl
theorem LQ {a b:Int}(h:bh a b=0):a=0/\b=0:=by
 unfold bh at h
 split at h
 ·exact⟨by assumption,h⟩
 ·exact absurd h (by assumption)
theorem nS {T:Type}(f:T->Int) (a b:List T):aM f (a++b)=bh (aM f a) (aM f b):=by
 induction a with
 |nil=>rw [List.nil_append,aM,bw rfl]
 |cons x a ih=>rw [List.cons_append,aM,aM,ih,bT]
theorem Fc {T U:Type}(f:U->Int) (g:T->List U) (l:List T):aM f (l.flatMap g)=aM (fun x=>aM f (g x)) l:=by
 induction l with
 |nil=>rfl
 |cons x l ih=>rw [List.flatMap_cons,nS,aM,ih]
theorem nT {T:Type}{f:T->Int}:∀ {l:List T},aM f l=0->∀ x ∈ l,f x=0
 |[],_,x,hx=>by cases hx
 |y::l,h,x,hx=>by
  rw [aM] at h
  obtain⟨h1,h2⟩:=LQ h
  rcases List.mem_cons.1 hx with rfl|hx
  ·exact h1
  ·exact nT h2 x hx
theorem qh {b:Bool}{e:Int}(he:e ≠ 0) (h:bW b e=0):b=true:=by
 cases b with
 |true=>rfl
 |false=>exact absurd h he
theorem pe:∀ (l s:List Int) (v:Int),v ∈ bF s l ↔ v ∈ l/\v ∉ s
 |[],s,v=>by simp [bF]
 |x::l,s,v=>by
  rw [bF]
  by_cases h:s.contains x=true
  ·rw [if_pos h,pe l s v]
   have hx:=List.contains_iff_mem.1 h
   constructor
   ·exact fun ⟨a,b⟩=>⟨List.mem_cons.2 (.inr a),b⟩
   ·rintro⟨a,b⟩
    rcases List.mem_cons.1 a with rfl|a
    ·exact absurd hx b
    ·exact⟨a,b⟩
  ·rw [if_neg h]
   have hx:x ∉ s:=fun e=>h (List.contains_iff_mem.2 e)
   rw [List.mem_cons,pe l (s++[x]) v,List.mem_cons,List.mem_append,List.mem_singleton]
   constructor
   ·rintro (rfl|⟨a,b⟩)
    ·exact⟨.inl rfl,hx⟩
    ·exact⟨.inr a,fun e=>b (.inl e)⟩
   ·rintro⟨a,b⟩
    by_cases e:v=x
    ·exact .inl e
    ·exact .inr ⟨a.resolve_left e,fun c=>c.elim b e⟩
theorem qi:∀ (a t s:List Int),(∀ x ∈ t,x ∈ s)->bF s (bF t a)=bF s a
 |[],t,s,h=>rfl
 |x::a,t,s,h=>by
  rw [bF]
  by_cases ht:t.contains x=true
  ·have hs:s.contains x=true:=List.contains_iff_mem.2 (h x (List.contains_iff_mem.1 ht))
   rw [if_pos ht,bF,if_pos hs]
   exact qi a t s h
  ·rw [if_neg ht]
   by_cases hs:s.contains x=true
   ·rw [bF,if_pos hs,bF,if_pos hs]
    refine qi a (t++[x]) s fun y hy=>?_
    rcases List.mem_append.1 hy with hy|hy
    ·exact h y hy
    ·obtain rfl:=List.mem_singleton.1 hy;exact List.contains_iff_mem.1 hs
   ·rw [bF,if_neg hs,bF,if_neg hs]
    refine congrArg _ (qi a (t++[x]) (s++[x]) fun y hy=>?_)
    rcases List.mem_append.1 hy with hy|hy
    ·exact List.mem_append.2 (.inl (h y hy))
    ·exact List.mem_append.2 (.inr hy)
theorem nU {T:Type}(f:T->List Tm):∀ (l:List T) (s rest:List Int),bF s ((l.flatMap fun x=>varsOf (f x))++rest)=bF s (aY (l.flatMap f)++rest)
 |[],s,rest=>rfl
 |x::l,s,rest=>by
  rw [List.flatMap_cons,List.flatMap_cons,ux,List.append_assoc,List.append_assoc,iw (varsOf (f x)),iw (aY (f x))]
  rw [show bF s (varsOf (f x))=bF s (aY (f x)) from qi _ [] s fun y hy=>by cases hy]
  rw [nU f l]
def iota (n:Nat):List Int:=(List.range n).map fun k:Nat=>(k:Int)
theorem Ep (n:Nat) (v:Int):v ∈ iota n ↔ 0<=v/\v < n:=by
 unfold iota
 rw [List.mem_map]
 constructor
 ·rintro⟨k,hk,rfl⟩
  have:=List.mem_range.1 hk
  exact⟨by omega,by omega⟩
 ·rintro⟨h1,h2⟩
  exact⟨v.toNat,List.mem_range.2 (by omega),(by omega:((v.toNat:Nat):Int)=v)⟩
theorem LR (n:Nat):iota (n+1)=iota n++[(n:Int)]:=by
 unfold iota
 rw [List.range_succ,List.map_append]
 rfl
theorem AU (kk:Int->Int):∀ (L:List Int) (n:Nat),(∀ v ∈ L,0<=v)->um L n kk=bh (uy (bF (iota n) L) n) (kk ((n+(bF (iota n) L).length:Nat):Int))
 |[],n,_=>by rw [um,bF,uy,bw rfl];rfl
 |v::L,n,h=>by
  have h0:=h v (by simp)
  have hL:∀ v ∈ L,0<=v:=fun x hx=>h x (by simp [hx])
  rw [um,bF]
  by_cases h1:v < n
  ·have hc:(iota n).contains v=true:=List.contains_iff_mem.2 ((Ep n v).2 ⟨h0,h1⟩)
   rw [if_pos hc,if_pos (by omega),if_neg (by omega)]
   exact AU kk L n hL
  ·have hc:¬ (iota n).contains v=true:=fun e=>h1 ((Ep n v).1 (List.contains_iff_mem.1 e)).2
   rw [if_neg hc,uy]
   by_cases h2:v=n
   ·rw [if_pos (by omega),if_pos h2,decide_eq_true h2,show bW true 2=0 from rfl,bw rfl]
    have:=AU kk L (n+1) hL
    rw [show ((n+1:Nat):Int)=(n:Int)+1 by omega] at this
    rw [this,LR,h2]
    rw [List.length_cons,show n+1+(bF (iota n++[(n:Int)]) L).length=n+((bF (iota n++[(n:Int)]) L).length+1) by omega]
   ·rw [if_neg (by omega),decide_eq_false h2,show bW false 2=2 from rfl,bT,cI (by decide)]
theorem LS (x:Tm):g_ x=true->∀ v ∈ dh x,0<=v:=by
 refine Tm.ind (p:=fun x=>g_ x=true->∀ v ∈ dh x,0<=v) ?_ x
 intro k i n a ih h v hv
 rw [g_] at h
 rw [dh] at hv
 by_cases h1:k=1
 ·subst h1
  rw [if_neg (by decide),if_pos rfl] at h
  rw [if_pos rfl] at hv
  obtain rfl:=List.mem_singleton.1 hv
  rw [Bool.and_eq_true,Bool.and_eq_true] at h
  exact of_decide_eq_true h.1.1
 ·rw [if_neg h1] at hv
  by_cases h2:k=2
  ·subst h2
   rw [if_neg (by decide),if_neg (by decide),if_pos rfl,Bool.and_eq_true] at h
   rw [if_pos rfl] at hv
   have key:∀ l:List Tm,(∀ y ∈ l,g_ y=true->∀ v ∈ dh y,0<=v)->js l=true->∀ v ∈ aY l,0<=v:=by
    intro l
    induction l with
    |nil=>intro _ _ v hv;rw [aY] at hv;cases hv
    |cons y l ihl =>
     intro hy hf v hv
     rw [js,Bool.and_eq_true] at hf
     rw [aY] at hv
     rcases List.mem_append.1 hv with hv|hv
     ·exact hy y (by simp) hf.1 v hv
     ·exact ihl (fun z hz=>hy z (by simp [hz])) hf.2 v hv
   exact key a ih h.2 v hv
  ·rw [if_neg h2] at hv
   cases hv
theorem Er:∀ {a:List Tm},(∀ x ∈ a,gX x=true)->∀ v ∈ aY a,0<=v
 |[],_,v,hv=>by rw [aY] at hv;cases hv
 |x::a,h,v,hv=>by
  rw [aY] at hv
  rcases List.mem_append.1 hv with hv|hv
  ·have:=h x (by simp)
   unfold gX at this
   rw [Bool.and_eq_true,Bool.and_eq_true] at this
   exact LS x this.1.1 v hv
  ·exact Er (fun y hy=>h y (by simp [hy])) v hv
theorem vZ {a:List Tm}(h:lP a=true):∀ v ∈ aY a,0<=v:=by
 unfold lP at h
 rw [Bool.and_eq_true] at h
 exact Er (List.all_eq_true.1 h.1)
theorem xx {x:At}(h:eu x=true):∀ v ∈ varsOf x.a,0<=v:=by
 unfold eu at h
 rw [Bool.and_eq_true] at h
 exact fun v hv=>vZ h.2 v ((pe _ _ v).1 hv).1
theorem Fe {x:Gl}(h:eS x=true):∀ v ∈ varsOf x.a,0<=v:=by
 unfold eS at h
 split at h
 ·exact xx (x:=⟨x.n,x.a⟩) h
 ·rw [Bool.and_eq_true] at h
  exact fun v hv=>vZ h.2 v ((pe _ _ v).1 hv).1
theorem Ur (ds:List Dc) (r:Rl):oY ds r=sA ds r:=by
 unfold oY sA
 refine dV fun _=>?_
 rw [nS,nS,bT,H6]
 refine dV fun hk=>dV fun hr=>?_
 rw [sj,bT]
 refine dV fun hg=>dV fun hb=>?_
 have hA:∀ x ∈ r.aT++r.rem,eu x=true:=fun x hx=>by
  rcases List.mem_append.1 hx with h|h
  ·exact qh (by decide) (nT hk x h)
  ·exact qh (by decide) (nT hr x h)
 have hG:∀ x ∈ r.guard++r.body,eS x=true:=fun x hx=>by
  rcases List.mem_append.1 hx with h|h
  ·exact qh (by decide) (nT hg x h)
  ·exact qh (by decide) (nT hb x h)
 have eA:pP r=(r.aT++r.rem).flatMap fun x=>varsOf x.a:=by
  unfold pP zj
  rw [List.flatMap_cons,List.flatMap_cons,List.flatMap_nil,List.append_nil,uM,uM,List.flatMap_append]
 have eG:tv r=(r.guard++r.body).flatMap fun x=>varsOf x.a:=by
  unfold tv oe
  rw [List.flatMap_cons,List.flatMap_cons,List.flatMap_nil,List.append_nil,tr,tr,List.flatMap_append]
 have CV:∀ v ∈ pP r++tv r,0<=v:=fun v hv=>by
  rcases List.mem_append.1 hv with h|h
  ·rw [eA] at h
   obtain⟨x,hx,h⟩:=List.mem_flatMap.1 h
   exact xx (hA x hx) v h
  ·rw [eG] at h
   obtain⟨x,hx,h⟩:=List.mem_flatMap.1 h
   exact Fe (hG x hx) v h
 have jH:bF (iota 0) (pP r++tv r)=rI r:=by
  show bF [] _=_
  unfold rI varsOf
  rw [eA,eG,nU (fun x:At=>x.a),ux]
  have:=nU (fun x:Gl=>x.a) (r.guard++r.body) [] []
  rw [iw (aY _),iw (aY (dJ (r.aT++r.rem)))]
  refine congrArg _ ?_
  have h2:=nU (fun x:Gl=>x.a) (r.guard++r.body) ([]++bF [] (aY (dJ (r.aT++r.rem)))) []
  rw [List.append_nil,List.append_nil] at h2
  exact h2
 have h1:=AU (fun n=>bh (bW (decide (r.vars=n)) 2) (wN ds r)) (pP r++tv r) 0 CV
 rw [jH,Nat.zero_add] at h1
 rw [sh]
 refine Eq.trans h1 (dV fun _=>dV fun _=>?_)
 rw [wN]
 refine dV fun _=>?_
 unfold oP
 rw [nS,bT,Cr,sg]
 refine dV fun _=>dV fun _=>?_
 rw [sV,sV,sV,nS,bT]
 refine dV fun _=>dV fun _=>?_
 rw [H5,J_]
 refine dV fun _=>dV fun _=>?_
 rw [zp,J9]
 have e1:oe [r.guard]=r.guard.flatMap fun x=>varsOf x.a:=by
  unfold oe
  rw [List.flatMap_cons,List.flatMap_nil,List.append_nil,tr]
 rw [e1,Fc]
 have e2:Lv r=Gn (varsOf (dJ (r.aT++r.rem))):=by
  funext v
  unfold Lv Gn
  have:(pP r).contains v=(varsOf (dJ (r.aT++r.rem))).contains v:=by
   rw [Bool.eq_iff_iff,List.contains_iff_mem,List.contains_iff_mem,eA]
   have h2:=nU (fun x:At=>x.a) (r.aT++r.rem) [] []
   rw [List.append_nil,List.append_nil] at h2
   have h3:∀ l:List Int,v ∈ l ↔ v ∈ bF [] l:=fun l=>by rw [pe];simp
   rw [h3,h2]
   rfl
  rw [this]
 rw [e2]
 rfl
theorem Es (ds:List Dc):∀ (l:List Dc) (k:Nat),l=ds.drop k->pb (ds.take k) l=nQ ds l k
 |[],k,_=>rfl
 |d::l,k,h=>by
  have hd:ds[k]?=some d:=by
   have:=congrArg (fun l=>l[0]?) h
   simpa using this.symm
  have hl:l=ds.drop (k+1):=by
   have:=congrArg List.tail h
   simpa using this
  have ht:ds.take (k+1)=ds.take k++[d]:=by rw [List.take_add_one,hd];rfl
  rw [pb,nQ,<-ht,Es ds l (k+1) hl,<-bT,<-bT]
  congr 1
  have hs:(ds.take k).any (nN d)=dU (ds.take k) d.n d.ar:=by
   unfold dU
   congr 1
   funext x
   unfold nN
   rw [Bool.eq_iff_iff]
   simp only [Bool.and_eq_true,beq_iff_eq]
   exact⟨fun ⟨a,b⟩=>⟨a.symm,b.symm⟩,fun ⟨a,b⟩=>⟨a.symm,b.symm⟩⟩
  unfold Ct
  rw [hs]
  cases gJ d.n with
  |false=>rfl
  |true =>
   cases (decide (0<=d.ar) && decide (d.ar<=6)) with
   |false=>rfl
   |true=>cases dU (ds.take k) d.n d.ar<;>rfl
theorem Et (ds:List Dc):∀ (l:List Rl) (k:Nat),rE ds l k=rJ ds l k
 |[],_=>rfl
 |r::l,k=>by rw [rE,rJ,Ur,Et ds l]
theorem Oi (p:Pg):pc p=nR p:=by
 unfold pc nR oK
 have h1:pb [] p.ds=nQ p.ds p.ds 0:=Es p.ds p.ds 0 rfl
 rw [h1]
 by_cases h:p.ds.length<=30
 ·rw [if_pos h,decide_eq_true h,show bW true 6=0 from rfl,bw rfl]
  by_cases h2:nQ p.ds p.ds 0=0
  ·rw [if_pos h2,bw h2]
   by_cases h3:p.rs.length<=40
   ·rw [if_pos h3,decide_eq_true h3,if_pos (show bW true 6=0 from rfl),Et]
   ·rw [if_neg h3,decide_eq_false h3,if_neg (show ¬ bW false 6=0 by decide)]
    rfl
  ·rw [if_neg h2,cI h2,if_neg h2]
 ·rw [if_neg h,decide_eq_false h,show bW false 6=6 from rfl,cI (by decide),if_neg (by decide)]
end Go.Proofs.YtgphljokbodciaaGreat
