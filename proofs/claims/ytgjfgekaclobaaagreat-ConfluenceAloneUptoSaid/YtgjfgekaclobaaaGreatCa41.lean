import Derived.Test.YtgjfgekaclobaaaGreatCa40
namespace Go.Proofs.YtgjfgekaclobaaaGreat
set_option linter.unusedVariables false
set_option linter.unusedSimpArgs false
open Go.RowKit
abbrev mX:=Nat × List Nat
def KM:List Nat->Nat->Bool
 |[],_=>false
 |a::l,k=>match Nat.beq a k with|true=>true|false=>KM l k
def Jl (l:mX) (k:Nat):Bool:=match Nat.blt k l.1 with|true=>true|false=>KM l.2 k
section
variable {P:Program}{w0:World}{n B:Nat}{α aw:AA}{S S':ad}{r:AV}{ops:Array Oper}{D:Nat->Dt × Option mX}
def G6 (P:Program) (w0:World) (n:Nat) (ops:Array Oper) (B:Nat) (i:Nat) (d:Dt × Option mX) (α:AA) (S:ad) (α1:AA) (S1:ad):Prop:=match d.2 with
 |none=>nb P w0 n ops B i d.1 α S α1 S1
 |some l=>∃ o,ops[i]?=some o/\(match o.dst with|some d=>Nat.blt d n|none=>true)=true/\qq ops i=false/\B<=S.nx/\S.nx<=S1.nx/\(∀ k,Jl l k=true->S1.get k=S.get k) /\
   (o.guard=none\/∃ j want,o.guard=some (j,want)/\nU ops α j=some (some want))/\∃ r,α1=α.put o.dst r/\ef P w0 n o (α.only (cB o)) S r S1
def Es (x:List Nat × List Nat × Bool) (l:mX):Bool:=match x with
 |(F,[],false)=>F.all (Jl l ·)
 |_=>false
def zL (d:Dt × Option mX):List Nat × List Nat × Bool:=match d.2 with
 |none=>d.1.ns
 |some l=>(l.1::l.2,[],true)
def Et (x:List Nat × List Nat × Bool):Option mX:=match x with
 |(a::u,[],true)=>some (a,u)
 |_=>none
def Da (d e:Dt × Option mX):Prop:=match d.2,e.2 with
 |none,none=>dj d.1.ns e.1.ns=true
 |some l,none=>Es e.1.ns l=true
 |none,some l=>Es d.1.ns l=true
 |some _,some _=>False
theorem Db {d:Dt}{l:mX}{T T':ad}(h:Es d.ns l=true) (ht:∀ k,Jl l k=true->T'.get k=T.get k) (ha:fu T d.F):fu T' d.F/\d.W=[]/\d.m=false:=by
 obtain⟨F,W,m⟩:=d
 unfold Es Dt.ns at h
 cases W with
 |cons=>cases h
 |nil =>
  cases m with
  |true=>cases h
  |false =>
   refine⟨fun p hp=>?_,rfl,rfl⟩
   have:=List.all_eq_true.1 h p.1 (List.mem_map.2 ⟨p,hp,rfl⟩)
   rw [ht _ this]
   exact ha p hp
theorem Eu {oi oj:Oper}(h:∀ d,oi.dst=some d->d ∉ oj.looksAt ops):(∀ e,oi.dst=some e->e ∉ cB oj)/\∀ q want,oj.guard=some (q,want)->∀ e,oi.dst=some e->(ops[q]?).bind (·.dst) ≠ some e:=by
 refine⟨fun e he hm=>h e he (p_ hm),fun q want hg e he h3=>h e he (List.mem_append.2 (.inr ?_))⟩
 rw [hg]
 simp only
 rw [h3]
 simp
theorem Dd {o:Oper}{d:Option Tmp}{a:AV}(h2:∀ q want,o.guard=some (q,want)->∀ e,d=some e->(ops[q]?).bind (·.dst) ≠ some e) :
  (o.guard=none\/∃ j want,o.guard=some (j,want)/\nU ops (α.put d a) j=some (some want)) ↔ (o.guard=none\/∃ j want,o.guard=some (j,want)/\nU ops α j=some (some want)):=by
 constructor
 ·rintro (hg|⟨q,want,hg,hy⟩)
  ·exact .inl hg
  ·exact .inr ⟨q,want,hg,by rw [<-mq (h2 q want hg)];exact hy⟩
 ·rintro (hg|⟨q,want,hg,hy⟩)
  ·exact .inl hg
  ·exact .inr ⟨q,want,hg,by rw [mq (h2 q want hg)];exact hy⟩
theorem G6.swap {i j:Nat}{di mu:Dt × Option mX}{oi oj:Oper}{α1 mW:AA}{S1 S2:ad}(hi:ops[i]?=some oi) (hj:ops[j]?=some oj) (qG:oi.apart ops oj=true)
  (hd:Da di mu) (h:G6 P w0 n ops B i di α S α1 S1) (k:G6 P w0 n ops B j mu α1 S1 mW S2) :
  ∃ sg x_,G6 P w0 n ops B j mu α S sg x_/\G6 P w0 n ops B i di sg x_ mW S2:=by
 obtain⟨di,xi⟩:=di
 obtain⟨mu,xj⟩:=mu
 obtain⟨e1,e2,e3⟩:=Oper.apart_spec qG
 obtain⟨l1,l2⟩:=Eu e1
 obtain⟨m1,m2⟩:=Eu e3
 have a_:∀ t,oj.dst=some t->oi.dst ≠ some t:=fun t ht h'=>e2 t h' ht
 cases xi with
 |none =>
  cases xj with
  |none=>exact nb.swap hi hj qG hd h k
  |some l =>
   have hd:Es di.ns l=true:=hd
   have h:nb P w0 n ops B i di α S α1 S1:=h
   obtain⟨mY,a,fA,xM,ux,eT,hB⟩:=h.shape
   obtain rfl:mY=oi:=by rw [hi] at fA;exact (oJ_ fA).symm
   obtain⟨_,hW,hM⟩:=Db hd (T:=S) (T':=S) (fun _ _=>rfl) ux
   have eT:S1=S:=by rw [eT,hW,hM];exact cG
   subst eT
   obtain⟨o,ho,hn,Pv,Vr,mQ,hold,hg,r,R2,ba⟩:=k
   obtain rfl:o=oj:=by rw [hj] at ho;exact (oJ_ ho).symm
   subst xM
   rw [mw l1] at ba
   rw [Dd l2] at hg
   refine⟨α.put o.dst r,S2,⟨o,hj,hn,Pv,Vr,mQ,hold,hg,r,rfl,ba⟩,?_⟩
   obtain⟨De,_,_⟩:=Db hd (T:=S1) (T':=S2) hold ux
   have h1:=(h.anyS (T:=S2) (Nat.le_trans Vr mQ) De (fun e=>by rw [hM] at e;cases e)).frame (d:=o.dst) (a:=r) fun o2 oD e he=>by
    obtain rfl:o2=mY:=by rw [hi] at oD;exact (oJ_ oD).symm
    exact⟨e3 e he,fun h3=>e2 e h3 he⟩
   rw [show cY S2 di.W di.m=S2 by rw [hW,hM];exact cG] at h1
   rw [R2]
   exact h1
 |some l =>
  cases xj with
  |some l'=>exact hd.elim
  |none =>
   have hd:Es mu.ns l=true:=hd
   obtain⟨o,ho,hn,Pv,hB,mQ,hold,hg,a,xM,ba⟩:=h
   obtain rfl:o=oi:=by rw [hi] at ho;exact (oJ_ ho).symm
   subst xM
   have k:nb P w0 n ops B j mu (α.put o.dst a) S1 mW S2:=k
   obtain⟨oZ,b,gp,R2,ux,ld,_⟩:=k.shape
   obtain rfl:oZ=oj:=by rw [hj] at gp;exact (oJ_ gp).symm
   obtain⟨De,hW,hM⟩:=Db hd (T:=S1) (T':=S) (fun k hk=>(hold k hk).symm) ux
   have ld:S2=S1:=by rw [ld,hW,hM];exact cG
   subst ld R2
   have kj:nb P w0 n ops B j mu α S (α.put oZ.dst b) S:=by
    obtain⟨o2,oD,wb,iN,q0,q1,q2,hk⟩:=k.anyS (T:=S) hB De (fun e=>by rw [hM] at e;cases e)
    obtain rfl:o2=oZ:=by rw [hj] at oD;exact (oJ_ oD).symm
    have inj:∀ x y:AV,(α.put o.dst a).put o2.dst x=(α.put o.dst a).put o2.dst y->α.put o2.dst x=α.put o2.dst y:=by
     intro x y jG
     cases gK:o2.dst with
     |none=>rfl
     |some d =>
      rw [gK] at jG
      have:x=y:=by
       have h3:=congrArg (fun z:AA=>z.tm d) jG
       simpa [AA.put,aq] using h3
      rw [this]
    refine⟨o2,hj,wb,iN,hB,De,by rw [hW,hM];exact cG.symm,?_⟩
    rcases hk with ⟨q,want,c,hg,hy,a_,h3,h4⟩|⟨hg,r,h3,h4⟩
    ·exact .inl ⟨q,want,c,hg,by rw [<-mq (l2 q want hg)];exact hy,a_,inj _ _ h3,h4⟩
    ·rw [mw l1] at h4
     exact .inr ⟨(Dd l2).1 hg,r,inj _ _ h3,h4⟩
   refine⟨α.put oZ.dst b,S,kj,⟨o,hi,hn,Pv,hB,mQ,hold,(Dd m2).2 hg,a,?_,by rw [mw m1];exact ba⟩⟩
   exact put_comm fun t ht e=>a_ t e ht
inductive iV (P:Program) (w0:World) (n:Nat) (ops:Array Oper) (B:Nat) (D:Nat->Dt × Option mX):List Nat->AA->ad->AA->ad->Prop where
 |nil (α:AA) (S:ad):iV P w0 n ops B D [] α S α S
 |cons {i:Nat}{rest:List Nat}{α α1 aw:AA}{S S1 S':ad}(h:G6 P w0 n ops B i (D i) α S α1 S1) (t:iV P w0 n ops B D rest α1 S1 aw S'):iV P w0 n ops B D (i::rest) α S aw S'
def okX (ops:Array Oper) (D:Nat->Dt × Option mX) (i j:Nat):Prop:=∃ oi oj,ops[i]?=some oi/\ops[j]?=some oj/\oi.apart ops oj=true/\Da (D i) (D j)
theorem iV.front {j:Nat}:∀ {C1 C2:List Nat}{α aw:AA}{S S':ad},(∀ x ∈ C1,okX ops D x j)->iV P w0 n ops B D (C1++j::C2) α S aw S'->iV P w0 n ops B D (j::(C1++C2)) α S aw S'
 |[],C2,α,aw,S,S',_,h=>h
 |x::C1,C2,α,aw,S,S',hx,h=>by
  cases h with
  |@cons _ _ _ α1 _ _ S1 _ h t =>
   have t':=iV.front (fun y hy=>hx y (by simp [hy])) t
   cases t' with
   |@cons _ _ _ mW _ _ S2 _ k t2 =>
    obtain⟨oi,oj,hi,hj,h1,h2⟩:=hx x (by simp)
    obtain⟨sg,x_,h3,h4⟩:=h.swap hi hj h1 h2 k
    exact .cons h3 (.cons h4 t2)
theorem iV.perm:∀ {L C:List Nat}{α aw:AA}{S S':ad},C.Pairwise (· < ·)->L.Pairwise (fun y x=>x < y->okX ops D x y)->(∀ x,x ∈ L ↔ x ∈ C)->L.Nodup->iV P w0 n ops B D C α S aw S'->iV P w0 n ops B D L α S aw S'
 |[],C,α,aw,S,S',_,_,hm,_,h=>by
  have:C=[]:=by
   cases C with
   |nil=>rfl
   |cons x C=>have:=(hm x).2 (by simp);cases this
  subst this
  exact h
 |y::L,C,α,aw,S,S',hC,hL,hm,hn,h=>by
  obtain⟨C1,C2,rfl⟩:=List.append_of_mem ((hm y).1 (by simp))
  rw [List.pairwise_cons] at hL
  rw [List.nodup_cons] at hn
  rw [List.pairwise_append,List.pairwise_cons] at hC
  obtain⟨p1,⟨p2,p3⟩,p4⟩:=hC
  have iM:∀ x ∈ C1,x < y:=fun x hx=>p4 x hx y (by simp)
  have cg:∀ x ∈ C2,y < x:=p2
  have fp:∀ x,x ∈ L ↔ x ∈ C1++C2:=by
   intro x
   have h0:=hm x
   simp only [List.mem_cons,List.mem_append] at h0 ⊢
   constructor
   ·intro hx
    rcases h0.1 (.inr hx) with h1|h1|h1
    ·exact .inl h1
    ·subst h1;exact absurd hx hn.1
    ·exact .inr h1
   ·intro hx
    have a_:x ≠ y:=by
     rintro rfl
     rcases hx with hx|hx
     ·exact absurd (iM x hx) (Nat.lt_irrefl _)
     ·exact absurd (cg x hx) (Nat.lt_irrefl _)
    rcases h0.2 (hx.elim .inl fun h=>.inr (.inr h)) with h1|h1
    ·exact absurd h1 a_
    ·exact h1
  have hf:=iV.front (fun x hx=>hL.1 x ((fp x).2 (by simp [hx])) (iM x hx)) h
  cases hf with
  |cons h1 h2 =>
   refine .cons h1 (iV.perm (L:=L) ?_ hL.2 fp hn.2 h2)
   rw [List.pairwise_append]
   exact⟨p1,p3,fun a ha b hb=>p4 a ha b (by simp [hb])⟩
theorem iV.yb:∀ {L:List Nat}{α aw:AA}{S S':ad},iV P w0 n ops B D L α S aw S'->qd P w0 n ops L α S aw S'
 |[],_,_,_,_,.nil α S=>fun F m A g a w Q hF hS hA hQ=>hQ a w g hS hA (Ext.refl ..)
 |i::rest,α,aw,S,S',.cons (α1:=α1) (S1:=S1) h t=>by
  have ih:=iV.yb t
  obtain⟨d,hd⟩:∃ d,D i=d:=⟨_,rfl⟩
  rw [hd] at h
  obtain⟨d,x⟩:=d
  have run:∀ {o:Oper}{r:AV},ops[i]?=some o->(match o.dst with|some d=>Nat.blt d n|none=>true)=true->(o.guard=none\/∃ j want,o.guard=some (j,want)/\nU ops α j=some (some want))->α1=α.put o.dst r->ef P w0 n o (α.only (cB o)) S r S1->qd P w0 n ops (i::rest) α S aw S':=by
   intro o r hi Df hg xM h4
   subst xM
   intro F m A g a w Q hF hS hA hQ
   have hw:Region.wanted o (yielded ops a.tmps)=true:=by
    rcases hg with hg|⟨j,want,hg,hy⟩
    ·simp [Region.wanted,hg]
    ·simp [Region.wanted,hg,oe hA hy]
   simp only [wpOpsIn,hi]
   rw [if_pos hw]
   refine⟨fun f _=>hF.1 f,h4 F m A g a w _ Q hF hS (hA.only _) fun v w' g' hr eR hE=>?_⟩
   exact ih F m A g' _ w' Q hF eR (j9 (hA.later hE.toLater) Df hr) fun a' jX tO h1 h2 h3=>hQ a' jX tO h1 h2 (hE.trans h3)
  cases x with
  |some l =>
   obtain⟨o,hi,Df,_,_,_,_,hg,r,xM,ba⟩:=h
   exact run hi Df hg xM ba
  |none =>
   obtain⟨o,hi,Df,hp,hB,ux,eT,h⟩:=h
   rcases h with ⟨j,want,b,hg,hy,a_,rfl,Ea⟩|⟨hg,r,xM,h3⟩
   ·have e:S1=S:=by rw [eT,Ea];exact cG
    subst e
    intro F m A g a w Q hF hS hA hQ
    have Dy:¬ Region.wanted o (yielded ops a.tmps)=true:=by simp [Region.wanted,hg,oe hA hy,a_]
    simp only [wpOpsIn,hi]
    rw [if_neg Dy]
    exact⟨fun f _=>hF.1 f,ih F m A g _ w Q hF hS (j9 hA Df .v) hQ⟩
   ·have h4:=h3 S hB ux (fun _=>rfl)
    rw [<-eT] at h4
    exact run hi Df hg xM h4
theorem iV.B7:∀ {L:List Nat}{α aw:AA}{S S':ad},iV P w0 n ops B D L α S aw S'->∀ i ∈ L,qq ops i=true->(D i).2=none/\(D i).1=.none_
 |_,_,_,_,_,.nil ..,i,hi,_=>by cases hi
 |_,_,_,_,_,.cons (i:=j) h t,i,hi,hp=>by
  rcases List.mem_cons.1 hi with rfl|hi
  ·obtain⟨d,hd⟩:∃ d,D i=d:=⟨_,rfl⟩
   rw [hd] at h ⊢
   obtain⟨d,x⟩:=d
   cases x with
   |none =>
    obtain⟨o,h1,_,h2,_⟩:=h
    simp only [qq,h1] at hp
    exact⟨rfl,h2 hp⟩
   |some l =>
    obtain⟨o,h1,_,h2,_⟩:=h
    rw [h2] at hp
    cases hp
  ·exact iV.B7 t i hi hp
theorem cu.aej {rd:Bool}{id:Nat}(hm:P.follows .mixedOrders=true) (lN:o5 ops=true) (hv:∀ p ∈ uS ops,Da (D p.1) (D p.2)) (h:iV P w0 n ops B D (List.range ops.size) α S aw S'):cu P w0 rd n (.region id ops true) α S .normal aw S':=by
 intro F m A g a w hF hR hS hA
 simp only [o5,Bool.and_eq_true] at lN
 obtain⟨he,hp⟩:=lN
 refine wpIn_region_draw fun t=>?_
 simp only [Region.schedule,hm,Bool.true_or,if_true]
 have hd:vG ops (Array.replicate ops.size false):=⟨by simp,fun y x hy=>by
  simp only [Array.getD_eq_getD_getElem?,Array.getElem?_replicate] at hy
  split at hy<;>simp at hy⟩
 obtain⟨f1,f2,f3,f4⟩:=oO he ops.size t _ hd
 have me:∀ x,x ∈ Region.linearise .any ops t ↔ x ∈ List.range ops.size:=by
  intro x
  refine⟨fun hx=>by simpa using (f1 x hx).1,fun hx=>?_⟩
  have hx:x < ops.size:=by simpa using hx
  by_cases c:x ∈ Region.linearise .any ops t
  ·exact c
  ·exfalso
   have hl:=f4 ⟨x,hx,by simp [Array.getD_eq_getD_getElem?,Array.getElem?_replicate,hx],c⟩
   have o9:(x::Region.linearise.go .any ops ops.size t (Array.replicate ops.size false) []).Nodup:=by
    rw [List.nodup_cons];exact⟨c,f2⟩
   have hlen:=yc (x::Region.linearise.go .any ops ops.size t (Array.replicate ops.size false) []) o9 ops.size (fun y hy=>by
    rcases List.mem_cons.1 hy with rfl|hy
    ·exact hx
    ·exact (f1 y hy).1)
   rw [List.length_cons,hl] at hlen
   omega
 have hL:(Region.linearise .any ops t).Pairwise (fun y x=>x < y->okX ops D x y):=by
  refine List.Pairwise.imp_of_mem ?_ f3
  intro y x hy hx hb jG
  have fp:=yd (ops:=ops) (f1 y hy).1 jG hb
  have qG:=List.all_eq_true.1 hp _ fp
  unfold apB at qG
  split at qG
  ·rename_i oi oj hi hj
   refine⟨oi,oj,hi,hj,qG,?_⟩
   have Jj:x ∈ List.range ops.size:=(me x).1 hx
   have Vs:y ∈ List.range ops.size:=(me y).1 hy
   have abo:∀ {d e:Dt × Option mX},d.2=none->d.1=.none_->Da d e:=fun {d e} h1 h2=>by
    obtain⟨d,x⟩:=d
    obtain⟨e,y⟩:=e
    simp only at h1 h2
    subst h1 h2
    cases y with
    |none=>exact Ev
    |some l=>rfl
   have abp:∀ {d e:Dt × Option mX},e.2=none->e.1=.none_->Da d e:=fun {d e} h1 h2=>by
    obtain⟨d,x⟩:=d
    obtain⟨e,y⟩:=e
    simp only at h1 h2
    subst h1 h2
    cases x with
    |none=>exact Ew
    |some l=>rfl
   cases Jm:qq ops x with
   |true=>exact abo (h.B7 x Jj Jm).1 (h.B7 x Jj Jm).2
   |false =>
    cases Jn:qq ops y with
    |true=>exact abp (h.B7 y Vs Jn).1 (h.B7 y Vs Jn).2
    |false=>exact hv (x,y) (List.mem_filter.2 ⟨fp,by simp [Jm,Jn]⟩)
  ·cases qG
 have hC:(List.range ops.size).Pairwise (· < ·):=List.pairwise_lt_range
 obtain⟨hE,eT⟩:=hS.drew
 have eT:St w0 A g S { w with drawn:=w.drawn+1 }:=eT
 refine (iV.perm hC hL me f2 h).yb F m A g a _ _ hF eT (hA.later hE.toLater) fun a' w' g' h1 h2 h3=>⟨rfl,g',h1,h2,hE.trans h3⟩
end
section
set_option maxRecDepth 100000
attribute [local irreducible] ah aK ae aa
def Vt:CF Tryz.f372:=⟨_,by conv=>lhs;cbv⟩
theorem aek:aT Tryz.prog 372 Vt.1 Tryz.f372.ntmps:=bX Tryz.func372 Vt.2 Tryz.call372
def ga:List Nat:=[0,1,10,6,2,56,15,7,9,26,8,30,12,46,11,55,57,54,14,16,70]
def ub (_:Unit):AV:=.v (.bool true)
def wc (ρ:Hd) (busy:List (Int × Unit)):Ob:=.mp (ρ.h (cX ub) busy)
def ye:Option (Int × Int)->AV
 |some q=>.aE [zH q,.v (.bool true)]
 |none=>.aE [zH (0,0),.v (.bool false)]
theorem G7 {T:Type}{f:T->AV}:∀ {l:List (Int × T)}{i:Int}{v:T},aD l i=none->iC (cX f (l++[(i,v)])) i=some l.length
 |[],i,v,_=>by simp [cX,iC,cn]
 |p::l,i,v,h=>by
  rw [aD] at h
  by_cases e:p.1=i
  ·rw [if_pos e] at h;cases h
  ·rw [if_neg e] at h
   have ih:=G7 (f:=f) (v:=v) h
   have e2:cX f (p::l++[(i,v)])=(cn p.1,f p.2)::cX f (l++[(i,v)]):=rfl
   rw [e2,iC,ih]
   simp [cn,e]
theorem R3 {T:Type}{f:T->AV}{l:List (Int × T)}{i:Int}{v:T}(h:aD l i=none):CQ (cX f (l++[(i,v)])) i=cX f l:=by
 unfold CQ
 rw [G7 h]
 have:cX f (l++[(i,v)])=cX f l++[(cn i,f v)]:=by simp [cX]
 rw [this,show l.length=(cX f l).length by simp [cX]]
 show (cX f l++[(cn i,f v)]).eraseIdx (cX f l).length=cX f l
 rw [List.eraseIdx_append_of_length_le (Nat.le_refl _),Nat.sub_self]
 simp
theorem Pw {P:Program}{w0:World}{rd:Bool}{n:Nat}{qs:List QR}{R:AV->ad->Prop}{α:AA}{S S':ad}{r:AV}(hL:um P S α.df S') (hr:(match lO α.tm S' qs with|some [a]=>some a|some l=>some (.aE l)|none=>none)=some r) (k:R r S'):aa P w0 rd n (Rt P qs R) (.out .ret []) α S:=by
 simp only [aa,db]
 exact⟨rfl,S',r,hL,hr,k⟩
theorem um.R4 {P:Program}{ρ:Hd}{S:ad}{t:Target}{k:Nat}{i:Int}{busy bz:List (Int × Unit)}(ht:Ki P t) (hb:aD busy i=none) (B8:bz=eV busy i ()) (hk:S.get k=some (.mp (ρ.h (cX ub) bz))):um P S [.del t k i] (S.set k (some (wc ρ busy))):=by
 subst B8
 have e:CQ (ρ.h (cX ub) (eV busy i ())) i=ρ.h (cX ub) busy:=by rw [ρ.eq,ρ.eq,pS hb,R3 hb]
 refine .del ht hk (by rw [ρ.eq];exact nV) ?_
 rw [e]
 exact .nil
def tL (kn:KN):Prop:=∀ C p,aD kn C=some p->(0<=p.1/\p.1<=201)/\0<=p.2/\p.2<=21
theorem tL.ins {kn:KN}{r:Int}{q:Int × Int}(h:tL kn) (hq:(0<=q.1/\q.1<=201)/\0<=q.2/\q.2<=21):tL (eV kn r q):=fun C p hp=>by
 rw [bZ] at hp
 split at hp
 ·obtain rfl:=oJ_ hp;exact hq
 ·exact h C p hp
theorem vH {N:bj}{sh:List (Int × Int)}:∀ (m:Nat) {busy:List (Int × Unit)}{r:Nat}{up de:List Nat}{kn d_:KN}{o:Option (Int × Int)},jL N sh m busy r up kn=some (o,de,d_)->tL kn->tL d_/\de.length=up.length/\∀ q,o=some q->(0<=q.1/\q.1<=201)/\0<=q.2/\q.2<=21
 |0,_,_,_,_,_,_,_,h,_=>by cases h
 |m+1,busy,r,up,de,kn,d_,o,h,hk=>by
  have key:∀ (l:List Nat) {busy:List (Int × Unit)}{up de:List Nat}{kn d_:KN}{q:Int × Int}{o:Option (Int × Int)},nE (jL N sh m busy) l up kn q=some (o,de,d_)->tL kn->((0<=q.1/\q.1<=201)/\0<=q.2/\q.2<=21)->tL d_/\de.length=up.length/\∀ q,o=some q->(0<=q.1/\q.1<=201)/\0<=q.2/\q.2<=21:=by
   intro l
   induction l with
   |nil =>
    intro busy up de kn d_ q o h hk hq
    simp only [nE,oI_,pI_] at h
    obtain⟨rfl,rfl,rfl⟩:=h
    exact⟨hk,rfl,fun q' e=>by obtain rfl:=oJ_ e;exact hq⟩
   |cons x l ih =>
    intro busy up de kn d_ q o h hk hq
    rw [nE] at h
    split at h
    ·cases h
    ·rename_i u c hr
     have e1:=f_ hr
     split at h
     ·cases h
     ·rename_i u' mn hm
      obtain⟨k1,k2,_⟩:=vH m hm hk
      simp only [oI_,pI_] at h
      obtain⟨rfl,rfl,rfl⟩:=h
      exact⟨k1,by omega,fun q' e=>by cases e⟩
     ·rename_i p u' mn hm
      obtain⟨k1,k2,k3⟩:=vH m hm hk
      have k4:=k3 p rfl
      obtain⟨j1,j2,j3⟩:=ih h k1 ⟨⟨by simp only;omega,by simp only;omega⟩,by simp only;omega,by simp only;omega⟩
      exact⟨j1,by omega,j3⟩
  rw [jL] at h
  split at h
  ·rename_i q hq
   simp only [oI_,pI_] at h
   obtain⟨rfl,rfl,rfl⟩:=h
   exact⟨hk,rfl,fun q' e=>by obtain rfl:=oJ_ e;exact hk _ _ hq⟩
  ·split at h
   ·simp only [oI_,pI_] at h
    obtain⟨rfl,rfl,rfl⟩:=h
    exact⟨hk,rfl,fun q' e=>by cases e⟩
   ·split at h
    ·simp only [oI_,pI_] at h
     obtain⟨rfl,rfl,rfl⟩:=h
     exact⟨hk.ins (by decide),rfl,fun q' e=>by obtain rfl:=oJ_ e;decide⟩
    ·split at h
     ·split at h
      ·cases h
      ·split at h
       ·cases h
       ·rename_i u mn hm
        obtain⟨j1,j2,j3⟩:=key _ hm hk (by decide)
        simp only [oI_,pI_] at h
        obtain⟨rfl,rfl,rfl⟩:=h
        exact⟨j1,j2,fun q' e=>by cases e⟩
       ·rename_i q u mn hm
        obtain⟨j1,j2,j3⟩:=key _ hm hk (by decide)
        simp only [oI_,pI_] at h
        obtain⟨rfl,rfl,rfl⟩:=h
        exact⟨j1.ins (j3 q rfl),j2,fun q' e=>by obtain rfl:=oJ_ e;exact j3 q rfl⟩
     ·cases h
theorem G8 {N:Nat}{ρ:Hd}{S:ad}{nl ul:Nat}{Nd:bj}{vs sh ls:List (Int × Int)}{up:List Nat}{kn:KN}{busy:List (Int × Unit)}(h7:S.get 7=some (wc ρ busy):=by rfl) (h0:S.get 0=some (gO nl ul):=by rfl) (h1:S.get 1=some (dO ρ Nd):=by rfl) (h2:S.get 2=some (bB ρ vs):=by rfl) (h3:S.get 3=some (dP ρ up):=by rfl)
  (h4:S.get 4=some (dQ ρ sh):=by rfl) (h5:S.get 5=some (bB ρ ls):=by rfl) (h6:S.get 6=some (dR ρ kn):=by rfl):gj 8 [] N S (gX ρ nl ul Nd vs up sh ls kn++[(7,wc ρ busy)]) :=
 ⟨.inl ⟨_,h0,.same (nr (by omega))⟩,.inl ⟨_,h1,.same (i_ _)⟩,.inl ⟨_,h2,.same (cR _)⟩,.inl ⟨_,h3,.same (iu _)⟩,.inl ⟨_,h4,.same (iw _)⟩,.inl ⟨_,h5,.same (cR _)⟩,.inl ⟨_,h6,.same (iy _)⟩,.inl ⟨_,h7,.same (fun e he=>Pure.b9 (dT (fun _=>.v) busy e he))⟩,trivial⟩
def gB (ρ:Hd) (nl ul:Nat) (N:bj) (vs:List (Int × Int)) (up:List Nat) (sh ls:List (Int × Int)) (kn:KN) (busy:List (Int × Unit)):List (Nat × Ob):=gX ρ nl ul N vs up sh ls kn++[(7,wc ρ busy)]
theorem yY {ρ:Hd}{nl ul:Nat}{N:bj}{vs:List (Int × Int)}{up:List Nat}{sh ls:List (Int × Int)}{kn:KN}{busy:List (Int × Unit)}{B:Nat}(h:7 < B):xU (gB ρ nl ul N vs up sh ls kn busy) B:=⟨fun j o hj=>by
 have hm:=eO hj
 unfold gB at hm
 rcases List.mem_append.1 hm with hm|hm
 ·have h1:dF (gX ρ nl ul N vs up sh ls kn) j=some o:=by
   have:=C7 (ρ:=ρ) (nl:=nl) (ul:=ul) (N:=N) (vs:=vs) (up:=up) (sh:=sh) (ls:=ls) (kn:=kn) (j,o) hm
   exact this
  exact (cL (by omega)).get j o h1
 ·simp only [List.mem_cons,pI_,List.not_mem_nil,or_false] at hm
  obtain⟨rfl,rfl⟩:=hm
  exact⟨h,(fun e he=>Pure.b9 (dT (fun _=>.v) busy e he)),fun J=>by simp [wc]⟩⟩
theorem Px {ρ:Hd}{nl ul:Nat}{N:bj}{vs:List (Int × Int)}{up:List Nat}{sh ls:List (Int × Int)}{kn:KN}{busy:List (Int × Unit)}{T:ad}(h7:T.get 7=some (wc ρ busy):=by rfl) (h0:T.get 0=some (gO nl ul):=by rfl) (h1:T.get 1=some (dO ρ N):=by rfl) (h2:T.get 2=some (bB ρ vs):=by rfl) (h3:T.get 3=some (dP ρ up):=by rfl) (h4:T.get 4=some (dQ ρ sh):=by rfl) (h5:T.get 5=some (bB ρ ls):=by rfl) (h6:T.get 6=some (dR ρ kn):=by rfl):∀ j o,dF (gB ρ nl ul N vs up sh ls kn busy) j=some o->T.get j=some o:=fun j o hj=>by
 have hm:=eO hj
 unfold gB at hm
 rcases List.mem_append.1 hm with hm|hm
 ·exact BS (h0:=h0) (h1:=h1) (h2:=h2) (h3:=h3) (h4:=h4) (h5:=h5) (h6:=h6) (j,o) hm
 ·simp only [List.mem_cons,pI_,List.not_mem_nil,or_false] at hm
  obtain⟨rfl,rfl⟩:=hm
  exact h7
theorem Py {a:AV}{N:Nat}(h:7 < N) (ha:Pure a):∀ b ∈ [AV.pt 0 6 0 0,a,.mp 7],dg N b:=by
 intro b hb
 simp only [List.mem_cons,List.not_mem_nil,or_false] at hb
 rcases hb with rfl|rfl|rfl
 ·exact .pt (by omega)
 ·exact Pure.b9 ha
 ·exact .mp h
theorem Jo {B:Nat}{a b:Int}:fV B (.arr 2 [[iv a,iv b]] 0 true):=fun row hr x hx=>by
 obtain rfl:=List.mem_singleton.1 hr
 simp only [List.mem_cons,List.not_mem_nil,or_false] at hx
 rcases hx with rfl|rfl<;>exact .v
theorem abq {N:Nat}{ρ:Hd}{S:ad}{nl ul:Nat}{Nd:bj}{vs sh ls:List (Int × Int)}{up:List Nat}{kn:KN}{busy:List (Int × Unit)}{a b:Int}(h8:S.get 8=some (.arr 2 [[iv 0,iv 0]] 0 true):=by rfl) (Io:S.get 10=some (.arr 2 [[iv a,iv b]] 0 true):=by rfl) (h7:S.get 7=some (wc ρ busy):=by rfl) (h0:S.get 0=some (gO nl ul):=by rfl) (h1:S.get 1=some (dO ρ Nd):=by rfl) (h2:S.get 2=some (bB ρ vs):=by rfl) (h3:S.get 3=some (dP ρ up):=by rfl)
  (h4:S.get 4=some (dQ ρ sh):=by rfl) (h5:S.get 5=some (bB ρ ls):=by rfl) (h6:S.get 6=some (dR ρ kn):=by rfl):gj 11 [] N S [(0,gO nl ul),(1,dO ρ Nd),(2,bB ρ vs),(3,dP ρ up),(4,dQ ρ sh),(5,bB ρ ls),(6,dR ρ kn),(7,wc ρ busy),(8,.arr 2 [[iv 0,iv 0]] 0 true),(10,.arr 2 [[iv a,iv b]] 0 true)] :=
 ⟨.inl ⟨_,h0,.same (nr (by omega))⟩,.inl ⟨_,h1,.same (i_ _)⟩,.inl ⟨_,h2,.same (cR _)⟩,.inl ⟨_,h3,.same (iu _)⟩,.inl ⟨_,h4,.same (iw _)⟩,.inl ⟨_,h5,.same (cR _)⟩,.inl ⟨_,h6,.same (iy _)⟩,.inl ⟨_,h7,.same (fun e he=>Pure.b9 (dT (fun _=>.v) busy e he))⟩,.inl ⟨_,h8,.same Jo⟩,.inl ⟨_,Io,.same Jo⟩,trivial⟩
theorem my (o:Option (Int × Int)):Pure (ye o):=by
 cases o<;>(refine .aE fun a ha=>?_)<;>simp only [List.mem_cons,List.not_mem_nil,or_false] at ha<;>rcases ha with rfl|rfl<;>first|exact sf _|exact .v
section
variable {w0:World}{ρ:Hd}
theorem abr {N:bj}{vs sh ls:List (Int × Int)}{nl ul:Nat}(hN:Ee N) (eF:nl=N.length) (lz:ul<=1099511627776):∀ (m:Nat) {busy:List (Int × Unit)}{r:Nat}{up de:List Nat}{kn d_:KN}{o:Option (Int × Int)},up.length=ul->tL kn->jL N sh m busy r up kn=some (o,de,d_) ->
  aK Tryz.prog w0 372 [.pt 0 6 0 0,iv r,.mp 7] (au (gX ρ nl ul N vs up sh ls kn++[(7,wc ρ busy)]) 8) (ye o) (au (gX ρ nl ul N vs de sh ls d_++[(7,wc ρ busy)]) 8):=by
 intro m
 induction m with
 |zero=>intro busy r up de kn d_ o _ _ h;cases h
 |succ m ih =>
  intro busy r up de kn d_ o hu hk h
  rw [jL] at h
  obtain⟨ri,IM⟩:∃ ri:Int,ri=r:=⟨_,rfl⟩
  rw [<-IM] at h ⊢
  refine aT.adT 8 8 _ aek (by simp [Tryz.ntmps372]) rfl rfl ?_
  unfold gX
  refine gq ga ?_
  refine aa.look (ρ:=ρ) (f:=zH) (kv:=kn) rfl rfl rfl rfl (fun q hq=>?_) (fun hq=>?_)
  ·rw [hq] at h
   simp only [oI_,pI_] at h
   obtain⟨rfl,rfl,rfl⟩:=h
   refine gq ga ?_
   exact Pw .nil rfl ⟨[],.aB (Pure.b9 (my (some q))),G8,rfl⟩
  rw [hq] at h
  simp only at h
  refine gq ga ?_
  refine aa.look (ρ:=ρ) (f:=ub) (kv:=busy) rfl rfl rfl rfl (fun b hb=>?_) (fun hb=>?_)
  ·rw [hb] at h
   simp only [oI_,pI_] at h
   obtain⟨rfl,rfl,rfl⟩:=h
   refine gq ga ?_
   exact Pw .nil rfl ⟨[],.aB (Pure.b9 (my none)),G8,rfl⟩
  rw [hb] at h
  simp only at h
  refine gq ga ?_
  refine aa.jf (ρ:=ρ) (f:=ub) (kv:=busy) (v:=()) rfl rfl rfl rfl rfl (fun bz B8=>?_)
  refine gq ga ?_
  refine aa.aaP rfl rfl rfl rfl rfl rfl rfl rfl rfl rfl rfl rfl rfl rfl rfl rfl rfl rfl rfl (fun t ht=>?_)
  refine gq ga ?_
  refine aa.look (ρ:=ρ) (f:=iv) (kv:=sh) rfl rfl rfl rfl (fun k BT=>?_) (fun BT=>?_)
  ·rw [BT] at h
   simp only at h
   split at h
   rotate_left
   ·cases h
   rename_i h00
   obtain⟨Em,xH⟩:∃ n:Nat,n=k.toNat:=⟨_,rfl⟩
   rw [<-xH] at h
   split at h
   ·cases h
   rename_i t0 l B5
   have q2:k=(Em:Int):=by omega
   have g2:=hN _ _ _ B5
   have i2:Em < nl:=by rw [eF];exact (List.getElem?_eq_some_iff.1 B5).1
   have r2:=fU (ρ:=ρ) (f:=qD ρ) B5
   rw [qD] at r2
   simp only at r2
   have UR:Pure (cE ρ iG false l):=fg fun x _ a ha=>by
    obtain rfl:=List.mem_singleton.1 ha
    exact .v
   rw [<-B8] at h
   obtain⟨tot,abu⟩:∃ tot,tot=nE (jL N sh m bz) l up kn (1,1):=⟨_,rfl⟩
   rw [<-abu] at h
   refine gq ga ?_
   refine aa.op rfl (ae.jU rfl rfl q2 i2) ?_
   refine aa.op rfl (ae.quiet rfl) ?_
   refine aa.op rfl (ae.oX rfl rfl r2 rfl) ?_
   refine gq ga ?_
   refine aa.int rfl (ae.len rfl) fun q sG=>?_
   rw [aF] at sG
   refine gq ga ?_
   refine aa.bP (σ:=Int × List Nat × KN × (Int × Int)) 11 11 [] (fun p=>[(0,.pt 0 6 0 0),(1,iv ri),(2,.mp 7),(6,.pt 8 2 0 0),(7,.v (.bool false)),(10,.pt 10 2 0 0),(54,cE ρ iG false l),(55,iv q),(56,iv p.1)]) [.del t 7 ri]
    (fun p=>[(0,gO nl ul),(1,dO ρ N),(2,bB ρ vs),(3,dP ρ p.2.1),(4,dQ ρ sh),(5,bB ρ ls),(6,dR ρ p.2.2.1),(7,wc ρ bz),(8,.arr 2 [[iv 0,iv 0]] 0 true),(10,.arr 2 [[iv p.2.2.2.1,iv p.2.2.2.2]] 0 true)])
    (fun p=>∃ i:Nat,p.1=i/\i<=l.length/\p.2.1.length=ul/\tL p.2.2.1/\((0<=p.2.2.2.1/\p.2.2.2.1<=201)/\0<=p.2.2.2.2/\p.2.2.2.2<=21)/\nE (jL N sh m bz) (l.drop i) p.2.1 p.2.2.1 p.2.2.2=tot) (fun p=>l.length - p.1.toNat)
    (0,up,kn,(1,1)) ⟨0,rfl,by simp,hu,hk,by simp only;decide,by simpa using abu.symm⟩ rfl (by exact⟨sq,rfl,abq,rfl,rfl,rfl⟩) ?_
   rintro⟨ii,fZ,mn,⟨p1,p2⟩⟩ ⟨i,we,AJ,gL,dN,⟨⟨b1,b2⟩,b3,b4⟩,hm⟩
   simp only at we AJ gL dN b1 b2 b3 b4 hm
   refine gq ga ?_
   refine bq (fun eg=>?_) (fun eg=>?_)<;>(try simp only [aM] at eg)
   ·have lQ:i < l.length:=by omega
    obtain⟨x,hx⟩:∃ x,l[i]?=some x:=⟨_,List.getElem?_eq_getElem lQ⟩
    obtain⟨xa,xb⟩:=List.getElem?_eq_some_iff.1 hx
    rw [List.drop_eq_getElem_cons xa,xb,nE] at hm
    split at hm
    ·subst hm
     cases h
    rename_i u2 cl hr
    have c1:=uz (w0:=w0) (ρ:=ρ) (s:=⟨N,vs,⟨fZ,sh,ls⟩⟩) (kn:=mn) (by simp only;omega) hr
    have iX:u2.length=ul:=by rw [f_ hr,gL]
    simp only at c1
    rw [<-fQ eF gL,<-fQ eF iX] at c1
    refine gq ga ?_
    refine aa.op rfl (ae.ind rfl rfl (bU (l:=l) we hx) (bV fun _=>rfl)) ?_
    refine gq ga ?_
    refine aa.op rfl (ae.jN c1 rfl (Nat.le_of_ble_eq_true rfl) (cL (by decide)) (lA) (cL (by decide)) (oL (by decide) .v) .v) ?_
    obtain⟨ro,u3,uw,pP⟩:∃ ro u3 uw,jL N sh m bz cl u2 mn=some (ro,u3,uw):=by
     cases pP:jL N sh m bz cl u2 mn with
     |none=>rw [pP] at hm;simp only at hm;subst hm;cases h
     |some w=>exact⟨w.1,w.2.1,w.2.2,rfl⟩
    rw [pP] at hm
    obtain⟨k3,l3,p3⟩:=vH m pP dN
    have c2:aK Tryz.prog w0 372 [.pt 0 6 0 0,iv cl,.mp 7] (au (gB ρ nl ul N vs u2 sh ls mn bz) 8) (ye ro) (au (gB ρ nl ul N vs u3 sh ls uw bz) 8):=ih iX dN pP
    have qE:u3.length=ul:=by omega
    refine gq ga ?_
    refine aa.op rfl (ae.jN c2 rfl (Nat.le_of_ble_eq_true rfl) (yY (by decide)) (Px) (yY (by decide)) (Py (by decide) .v) (Pure.b9 (my ro))) ?_
    cases ro with
    |none =>
     simp only at hm
     subst hm
     simp only [oI_,pI_] at h
     obtain⟨rfl,rfl,rfl⟩:=h
     rw [ye]
     refine gq ga ?_
     refine aa.iB ?_
     refine gq ga ?_
     exact Pw (um.R4 ht hb B8 rfl) rfl ⟨[],.aB (Pure.b9 (my none)),G8,rfl⟩
    |some pq =>
     obtain⟨q3,q4⟩:=pq
     obtain⟨⟨d1,d2⟩,d3,d4⟩:=p3 _ rfl
     simp only at hm d1 d2 d3 d4
     rw [ye]
     refine gq ga ?_
     refine cr (fun a1 iK=>?_)
     refine gq ga ?_
     refine aa.int rfl (ae.min (k:=.i64) (a:=a1) (b:=201) rfl rfl) fun a2 kD=>?_
     refine gq ga ?_
     refine cr (fun a3 nY=>?_)
     refine gq ga ?_
     refine aa.int rfl (ae.max (k:=.i64) (a:=p2) (b:=a3) rfl rfl) fun a4 ha4=>?_
     refine gq ga ?_
     refine aa.int rfl (ae.min (k:=.i64) (a:=a4) (b:=21) rfl rfl) fun a5 ha5=>?_
     refine gq ga ?_
     refine cr (fun i3 td=>?_)
     refine gq ga ?_
     have e1:a2=min (p1+q3) 201:=by omega
     have e2:a5=min (max p2 (q4+1)) 21:=by omega
     refine aa.bm (σ:=Int × List Nat × KN × (Int × Int)) (i3,u3,uw,(a2,a5)) [] ⟨i+1,by simp only;omega,by omega,qE,k3,⟨⟨by simp only;omega,by simp only;omega⟩,by simp only;omega,by simp only;omega⟩,by rw [e1,e2];exact hm⟩ ?_ (by exact⟨sq,rfl,abq,rfl,rfl,rfl⟩)
     simp only;omega
   ·have lQ:i=l.length:=by omega
    rw [lQ,List.drop_of_length_le (Nat.le_refl _),nE] at hm
    subst hm
    simp only [oI_,pI_] at h
    obtain⟨rfl,rfl,rfl⟩:=h
    refine gq ga ?_
    refine aa.aR ?_
    refine gq ga ?_
    refine aa.Bv (ρ:=ρ) (f:=zH) (kv:=mn) (v:=(p1,p2)) rfl rfl rfl rfl rfl (fun Gq R5=>?_)
    rw [<-R5]
    refine gq ga ?_
    exact Pw (um.R4 ht hb B8 rfl) rfl ⟨[],.aB (Pure.b9 (my (some (p1,p2)))),G8,rfl⟩
  ·rw [BT] at h
   simp only [oI_,pI_] at h
   obtain⟨rfl,rfl,rfl⟩:=h
   refine gq ga ?_
   refine aa.Bv (ρ:=ρ) (f:=zH) (kv:=kn) (v:=((1:Int),(1:Int))) rfl rfl rfl rfl rfl (fun Gq R5=>?_)
   rw [<-R5]
   refine gq ga ?_
   exact Pw (um.R4 ht hb B8 rfl) rfl ⟨[],.aB (Pure.b9 (my (some (1,1)))),G8,rfl⟩
end
end
end Go.Proofs.YtgjfgekaclobaaaGreat
