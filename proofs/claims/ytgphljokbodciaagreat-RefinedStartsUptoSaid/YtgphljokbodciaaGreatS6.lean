import Derived.Test.YtgphljokbodciaaGreatS5
namespace Go.Proofs.YtgphljokbodciaaGreat
set_option linter.unusedVariables false
set_option linter.unusedSimpArgs false
open Go.RowKit
section
variable {P:Program}{w0:World}{rd:Bool}{n:Nat}{α:AA}{S S':ae}{ops:Array Oper}
def wV (acc:List Nat) (o:Oper):Nat:=o.after.toList.foldl (fun s e=>if Region.binds .any e then s ||| (2 ^ e.on ||| acc.getD e.on 0) else s) 0
def beforeL (acc:List Nat):List Oper->List Nat
 |[]=>acc
 |o::os=>beforeL (acc++[wV acc o]) os
def nj (k:Nat):List Oper->Bool
 |[]=>true
 |o::os=>o.after.toList.all (fun e=>!Region.binds .any e || Nat.blt e.on k) && nj (k+1) os
def wW (ops:Array Oper) (m:List Nat) (y:Nat):Nat->Bool
 |0=>true
 |x+1=>((m.getD y 0).testBit x || rR ops x y) && wW ops m y x
def uG (ops:Array Oper) (m:List Nat):Nat->Bool
 |0=>true
 |y+1=>wW ops m y y && uG ops m y
def zX (ops:Array Oper):Bool:=nj 0 ops.toList && uG ops (beforeL [] ops.toList) ops.size
theorem Fk {acc:List Nat}{o:Oper}{x:Nat}(h:(wV acc o).testBit x=true):∃ e ∈ o.after.toList,Region.binds .any e=true/\(x=e.on\/(acc.getD e.on 0).testBit x=true):=by
 have key:∀ (l:List Edge) (s:Nat),(l.foldl (fun s e=>if Region.binds .any e then s ||| (2 ^ e.on ||| acc.getD e.on 0) else s) s).testBit x=true->s.testBit x=true\/∃ e ∈ l,Region.binds .any e=true/\(x=e.on\/(acc.getD e.on 0).testBit x=true):=by
  intro l
  induction l with
  |nil=>exact fun s h=>.inl h
  |cons e l ih =>
   intro s h
   rw [List.foldl_cons] at h
   rcases ih _ h with h1|⟨e',he',h1⟩
   ·by_cases hb:Region.binds .any e=true
    ·rw [if_pos hb,Nat.testBit_or,Nat.testBit_or,Bool.or_eq_true,Bool.or_eq_true] at h1
     rcases h1 with h1|h1|h1
     ·exact .inl h1
     ·rw [Nat.testBit_two_pow] at h1
      exact .inr ⟨e,by simp,hb,.inl (by simpa using h1:e.on=x).symm⟩
     ·exact .inr ⟨e,by simp,hb,.inr h1⟩
    ·rw [if_neg hb] at h1
     exact .inl h1
   ·exact .inr ⟨e',by simp [he'],h1⟩
 rcases key _ 0 h with h1|h1
 ·simp at h1
 ·exact h1
theorem xC:∀ {os:List Oper}{acc:List Nat}{i:Nat}{o:Oper},os[i]?=some o->∃ dx,(beforeL acc os).getD (acc.length+i) 0=wV dx o/\(∀ j,j < acc.length+i->dx.getD j 0=(beforeL acc os).getD j 0)/\dx.length=acc.length+i
 |[],acc,i,o,h=>by simp at h
 |p::os,acc,i,o,h=>by
  have aT:∀ (os:List Oper) (acc:List Nat) (j:Nat),j < acc.length->(beforeL acc os).getD j 0=acc.getD j 0:=by
   intro os
   induction os with
   |nil=>intro acc j hj;rfl
   |cons p os ih =>
    intro acc j hj
    rw [beforeL,ih _ _ (by simp;omega)]
    simp [List.getElem?_append_left hj]
  cases i with
  |zero =>
   simp at h
   subst h
   refine⟨acc,?_,fun j hj=>?_,rfl⟩
   ·rw [beforeL,aT _ _ _ (by simp)]
    simp
   ·rw [beforeL,aT _ _ _ (by simp at hj ⊢;omega)]
    simp [List.getElem?_append_left (show j < acc.length by simpa using hj)]
  |succ i =>
   simp at h
   obtain⟨dx,h1,h2,h3⟩:=xC (acc:=acc++[wV acc p]) h
   simp only [List.length_append,List.length_cons,List.length_nil] at h1 h2 h3
   refine⟨dx,?_,fun j hj=>?_,by omega⟩
   ·rw [beforeL,show acc.length+(i+1)=acc.length+(0+1)+i by omega]
    exact h1
   ·rw [beforeL]
    exact h2 j (by omega)
theorem wa:∀ {os:List Oper}{k i:Nat}{o:Oper},nj k os=true->os[i]?=some o->∀ e ∈ o.after.toList,Region.binds .any e=true->e.on < k+i
 |[],k,i,o,_,h=>by simp at h
 |p::os,k,i,o,hk,h=>by
  simp only [nj,Bool.and_eq_true] at hk
  cases i with
  |zero =>
   simp at h
   subst h
   intro e he hb
   have:=List.all_eq_true.1 hk.1 e he
   rw [hb] at this
   simp at this
   omega
  |succ i =>
   simp at h
   intro e he hb
   have:=wa hk.2 h e he hb
   omega
structure ug (ops:Array Oper) (bS:Array Bool):Prop where
 size:bS.size=ops.size
 closed:∀ y x,bS.getD y false=true->((beforeL [] ops.toList).getD y 0).testBit x=true->bS.getD x false=true
theorem B4 {bS:Array Bool}{i:Nat}(hl:bS.size=ops.size) (h:i ∈ Region.ready .any ops bS):∃ o,ops[i]?=some o/\i < ops.size/\bS.getD i false=false/\∀ e ∈ o.after.toList,Region.binds .any e=true->bS.getD e.on false=true:=by
 unfold Region.ready at h
 rw [List.mem_filter] at h
 obtain⟨h1,h2⟩:=h
 have h1:i < ops.size:=by simpa using h1
 simp only [Bool.and_eq_true] at h2
 have hi:ops[i]?=some ops[i]:=Array.getElem?_eq_getElem h1
 rw [hi] at h2
 simp only [Option.map_some,Option.getD_some] at h2
 refine⟨_,hi,h1,?_,fun e he hb=>?_⟩
 ·have h3:=h2.1
  have au:i < bS.size:=by omega
  simp only [Array.getD_eq_getD_getElem?,Array.getElem?_eq_getElem au,Option.getD_some] at h3 ⊢
  simpa using h3
 ·have:=Array.all_eq_true'.1 h2.2 e (by simpa using he)
  rw [hb] at this
  simpa using this
theorem B5 (he:nj 0 ops.toList=true) {y x:Nat}{o:Oper}(hy:ops[y]?=some o) (h:((beforeL [] ops.toList).getD y 0).testBit x=true):∃ e ∈ o.after.toList,Region.binds .any e=true/\(x=e.on\/((beforeL [] ops.toList).getD e.on 0).testBit x=true):=by
 have KH:ops.toList[y]?=some o:=by rw [Array.getElem?_toList];exact hy
 obtain⟨dx,h1,h2,h3⟩:=xC (acc:=[]) KH
 simp only [List.length_nil,Nat.zero_add] at h1 h2
 rw [h1] at h
 obtain⟨e,hm,hb,h4⟩:=Fk h
 refine⟨e,hm,hb,h4.imp id fun h5=>?_⟩
 have au:=wa he KH e hm hb
 rw [h2 e.on (by omega)] at h5
 exact h5
theorem yy {bS:Array Bool}{i j:Nat}(hi:i < bS.size):(bS.setIfInBounds i true).getD j false=if j=i then true else bS.getD j false:=by
 simp only [Array.getD_eq_getD_getElem?,Array.getElem?_setIfInBounds]
 by_cases c:i=j
 ·subst c;simp [hi]
 ·simp [c,Ne.symm c]
theorem ug.step (he:nj 0 ops.toList=true) {bS:Array Bool}{i:Nat}(hd:ug ops bS) (h:i ∈ Region.ready .any ops bS):ug ops (bS.setIfInBounds i true):=by
 obtain⟨o,hi,au,hu,hr⟩:=B4 hd.size h
 refine⟨by simp [hd.size],fun y x hy hb=>?_⟩
 rw [yy (by rw [hd.size];exact au)] at hy ⊢
 by_cases c:y=i
 ·subst c
  obtain⟨e,hm,ft,h4⟩:=B5 he hi hb
  have h5:=hr e hm ft
  rcases h4 with rfl|h4
  ·rw [h5];simp
  ·rw [hd.closed e.on x h5 h4];simp
 ·rw [if_neg c] at hy
  rw [hd.closed y x hy hb]
  simp
theorem nL (he:nj 0 ops.toList=true):∀ (fuel t:Nat) (bS:Array Bool),ug ops bS ->
  (∀ i ∈ Region.linearise.go .any ops fuel t bS [],i < ops.size/\bS.getD i false=false)/\(Region.linearise.go .any ops fuel t bS []).Nodup /\
  (Region.linearise.go .any ops fuel t bS []).Pairwise (fun y x=>((beforeL [] ops.toList).getD y 0).testBit x=false) /\
  ((∃ i,i < ops.size/\bS.getD i false=false/\i ∉ Region.linearise.go .any ops fuel t bS [])->(Region.linearise.go .any ops fuel t bS []).length=fuel):=by
 intro fuel
 induction fuel with
 |zero=>intro t bS hd;exact⟨fun i hi=>by simp [Region.linearise.go] at hi,by simp [Region.linearise.go],by simp [Region.linearise.go],fun _=>by simp [Region.linearise.go]⟩
 |succ fuel ih =>
  intro t bS hd
  have e:Region.linearise.go .any ops (fuel+1) t bS []=match (Region.ready .any ops bS)[t % (Region.ready .any ops bS).length]? with
   |some i=>Region.linearise.go .any ops fuel (t / (Region.ready .any ops bS).length) (bS.setIfInBounds i true) [i]
   |none=>[]:=by
   simp only [Region.linearise.go]
   rfl
  rw [e]
  cases hi:(Region.ready .any ops bS)[t % (Region.ready .any ops bS).length]? with
  |none =>
   refine⟨fun i h=>by simp at h,by simp,by simp,fun ⟨i,h1,h2,_⟩=>?_⟩
   exfalso
   have Va:Region.ready .any ops bS=[]:=by
    cases hr:Region.ready .any ops bS with
    |nil=>rfl
    |cons x xs =>
     rw [hr] at hi
     have au:t % (x::xs).length < (x::xs).length:=Nat.mod_lt _ (by simp)
     simp at hi
     simp at au
     omega
   have least:∀ k,(∀ j,j < k->j < ops.size->bS.getD j false=true)->k < ops.size->bS.getD k false=false->False:=by
    intro k hk S_ hku
    have:k ∈ Region.ready .any ops bS:=by
     unfold Region.ready
     rw [List.mem_filter]
     refine⟨by simpa using S_,?_⟩
     have au:k < bS.size:=by rw [hd.size];exact S_
     rw [Array.getElem?_eq_getElem S_]
     simp only [Option.map_some,Option.getD_some,Bool.and_eq_true]
     refine⟨?_,?_⟩
     ·simp only [Array.getD_eq_getD_getElem?,Array.getElem?_eq_getElem au,Option.getD_some] at hku ⊢
      simpa using hku
     ·rw [Array.all_eq_true']
      intro ed hed
      cases hb:Region.binds .any ed with
      |false=>rfl
      |true =>
       have:=wa (k:=0) (i:=k) he (by rw [Array.getElem?_toList];exact Array.getElem?_eq_getElem S_) ed (by simpa using hed) hb
       simp only [Bool.not_true,Bool.false_or]
       exact hk ed.on (by omega) (by omega)
    rw [Va] at this
    cases this
   have all:∀ k,k<=ops.size->∀ j,j < k->j < ops.size->bS.getD j false=true:=by
    intro k
    induction k with
    |zero=>intro _ j hj;omega
    |succ k ihk =>
     intro hk j hj vt
     by_cases c:j < k
     ·exact ihk (by omega) j c vt
     ·have K9:j=k:=by omega
      subst K9
      cases hl:bS.getD j false with
      |true=>rfl
      |false=>exact (least j (ihk (by omega)) vt hl).elim
   have:=all ops.size (Nat.le_refl _) i h1 h1
   rw [h2] at this
   cases this
  |some i =>
   have eR:=List.mem_of_getElem? hi
   obtain⟨o,hio,au,hu,hr⟩:=B4 hd.size eR
   have hd':=hd.step he eR
   obtain⟨f1,f2,f3,f4⟩:=ih (t / (Region.ready .any ops bS).length) _ hd'
   simp only
   rw [linearise_go_acc,List.reverse_singleton,List.singleton_append]
   have hls:i < bS.size:=by rw [hd.size];exact au
   have DJ:∀ j ∈ Region.linearise.go .any ops fuel (t / (Region.ready .any ops bS).length) (bS.setIfInBounds i true) [],j ≠ i/\bS.getD j false=false:=by
    intro j hj
    have:=(f1 j hj).2
    rw [yy hls] at this
    split at this
    ·cases this
    ·rename_i c;exact⟨c,this⟩
   refine⟨fun j hj=>?_,?_,?_,fun ⟨k,h1,h2,h3⟩=>?_⟩
   ·rcases List.mem_cons.1 hj with rfl|hj
    ·exact⟨au,hu⟩
    ·exact⟨(f1 j hj).1,(DJ j hj).2⟩
   ·rw [List.nodup_cons]
    exact⟨fun h=>(DJ i h).1 rfl,f2⟩
   ·rw [List.pairwise_cons]
    refine⟨fun x hx=>?_,f3⟩
    cases hb:((beforeL [] ops.toList).getD i 0).testBit x with
    |false=>rfl
    |true =>
     obtain⟨ed,hm,ft,h4⟩:=B5 he hio hb
     have h5:=hr ed hm ft
     have h6:=(DJ x hx).2
     rcases h4 with rfl|h4
     ·rw [h5] at h6;cases h6
     ·rw [hd.closed ed.on x h5 h4] at h6;cases h6
   ·rw [List.length_cons,f4 ⟨k,h1,?_,fun h=>h3 (by simp [h])⟩]
    rw [yy hls,if_neg (fun e=>h3 (by simp [e]))]
    exact h2
theorem xD {m:List Nat}{y:Nat}:∀ {k x:Nat},wW ops m y k=true->x < k->(m.getD y 0).testBit x=true\/rR ops x y=true
 |0,x,_,h=>by omega
 |k+1,x,hp,h=>by
  simp only [wW,Bool.and_eq_true,Bool.or_eq_true] at hp
  by_cases c:x=k
  ·subst c;exact hp.1
  ·exact xD hp.2 (by omega)
theorem wb {m:List Nat}:∀ {k x y:Nat},uG ops m k=true->y < k->x < y->(m.getD y 0).testBit x=true\/rR ops x y=true
 |0,x,y,_,h,_=>by omega
 |k+1,x,y,hp,h,hx=>by
  simp only [uG,Bool.and_eq_true] at hp
  by_cases c:y=k
  ·subst c;exact xD hp.1 hx
  ·exact wb hp.2 (by omega) hx
theorem vJ:∀ (l:List Nat),l.Nodup->∀ m,(∀ y ∈ l,y < m)->l.length<=m:=by
 intro l hn m
 induction m generalizing l with
 |zero=>intro h;cases l with
  |nil=>simp
  |cons a l=>have:=h a (by simp);omega
 |succ m ih =>
  intro h
  by_cases c:m ∈ l
  ·have h1:=ih (l.erase m) (hn.erase m) (fun y hy=>by
    have h2:=h y (List.mem_of_mem_erase hy)
    have h3:y ≠ m:=fun e=>by rw [e] at hy;exact hn.not_mem_erase hy
    omega)
   rw [List.length_erase_of_mem c] at h1
   omega
  ·have h1:=ih l hn (fun y hy=>by
    have h2:=h y hy
    have h3:y ≠ m:=fun e=>c (e ▸ hy)
    omega)
   omega
theorem cy.draw {id:Nat}{aB:AA}(hm:P.follows .mixedOrders=true) (od:zX ops=true) (h:oq P w0 n ops (List.range ops.size) α S aB S'):cy P w0 rd n (.region id ops true) α S .normal aB S':=by
 intro F m A g a w hF hR hS hA
 simp only [zX,Bool.and_eq_true] at od
 obtain⟨he,hp⟩:=od
 refine wpIn_region_draw fun t=>?_
 simp only [Region.schedule,hm,Bool.true_or,if_true]
 have hd:ug ops (Array.replicate ops.size false):=⟨by simp,fun y x hy=>by
  simp only [Array.getD_eq_getD_getElem?,Array.getElem?_replicate] at hy
  split at hy<;>simp at hy⟩
 obtain⟨f1,f2,f3,f4⟩:=nL he ops.size t _ hd
 have lx:∀ x,x ∈ Region.linearise .any ops t ↔ x ∈ List.range ops.size:=by
  intro x
  refine⟨fun hx=>by simpa using (f1 x hx).1,fun hx=>?_⟩
  have hx:x < ops.size:=by simpa using hx
  by_cases c:x ∈ Region.linearise .any ops t
  ·exact c
  ·exfalso
   have hl:=f4 ⟨x,hx,by simp [Array.getD_eq_getD_getElem?,Array.getElem?_replicate,hx],c⟩
   have qC:(x::Region.linearise.go .any ops ops.size t (Array.replicate ops.size false) []).Nodup:=by
    rw [List.nodup_cons];exact⟨c,f2⟩
   have hlen:=vJ (x::Region.linearise.go .any ops ops.size t (Array.replicate ops.size false) []) qC ops.size (fun y hy=>by
    rcases List.mem_cons.1 hy with rfl|hy
    ·exact hx
    ·exact (f1 y hy).1)
   rw [List.length_cons,hl] at hlen
   omega
 have hL:(Region.linearise .any ops t).Pairwise (fun y x=>x < y->rR ops x y=true):=by
  refine List.Pairwise.imp_of_mem ?_ f3
  intro y x hy hx hb na
  rcases wb hp (f1 y hy).1 na with h1|h1
  ·rw [hb] at h1;cases h1
  ·exact h1
 have hC:(List.range ops.size).Pairwise (· < ·):=List.pairwise_lt_range
 obtain⟨hE,fm⟩:=hS.drew
 have fm:St w0 A g S { w with drawn:=w.drawn+1 }:=fm
 refine (oq.perm hC hL lx f2 h).vH F m A g a _ _ hF fm (hA.later hE.toLater) fun a' w' g' h1 h2 h3=>⟨rfl,g',h1,h2,hE.trans h3⟩
end
section
variable {P:Program}{w0:World}{rd:Bool}{n:Nat}{o:Oper}{α:AA}{S S':ae}{r:AV}{ops:Array Oper}
def zY (P:Program) (w0:World) (K:AV->ae->Prop) (S:ae) (args:List AV):AV->Prop
 |.v (.func (.func g) first cap)=>match first.toList,cap.toList with
  |[],[]=>∃ r,aV P w0 g args S r S/\K r S
  |_,_=>False
 |.fn (.func g) first cap=>∃ r,aV P w0 g (first++args++cap) S r S/\K r S
 |_=>False
def og (P:Program) (w0:World) (o:Op) (α:AA) (S:ae) (K:AV->ae->Prop):Prop :=
 match o with
 |.call c=>match c.callee with
  |.value f=>zY P w0 K S (c.args.toList.map α.ev) (α.ev f)
  |_=>bm P w0 (.call c) α S K
 |o=>bm P w0 o α S K
theorem Ta {op:Op}{K:AV->ae->Prop}(hp:jt op=false) (hw:xB op=false) (h:og P w0 op α S K):∃ r,K r S/\bm P w0 op α S (qQ r S):=by
 cases op with
 |load t x =>
  simp only [og,bm,bp] at h ⊢
  split at h
  ·exact⟨_,h,⟨rfl,rfl⟩⟩
  ·exact h.elim
 |call c =>
  simp only [xB] at hw
  simp only [og] at h
  split at h
  ·rename_i f hc
   unfold zY at h
   simp only [bm,hc]
   split at h
   ·rename_i g first cap hf
    split at h
    ·rename_i e1 e2
     obtain⟨r,h1,h2⟩:=h
     refine⟨r,h2,?_⟩
     rw [hf]
     simp only [wD,e1,e2]
     exact⟨r,S,h1,rfl,rfl⟩
    ·exact h.elim
   ·rename_i g first cap hf
    obtain⟨r,h1,h2⟩:=h
    refine⟨r,h2,?_⟩
    rw [hf]
    exact⟨r,S,h1,rfl,rfl⟩
   ·exact h.elim
  ·rename_i hc
   cases hb:c.callee with
   |value f=>exact absurd hb (hc f)
   |builtin b=>rw [hb] at hw;simp only [jt,hb] at hp;cases b<;>simp at hw hp
   |invoke x m=>rw [hb] at hw;cases hw
 |_=>simp [xB,hp,jt] at hw hp
theorem Cx {op:Op}{K:AV->ae->Prop}(h:og P w0 op α S K):bm P w0 op α S K:=by
 cases op with
 |call c =>
  simp only [og] at h
  split at h
  ·rename_i f hc
   unfold zY at h
   simp only [bm,hc]
   split at h
   ·rename_i g first cap hf
    split at h
    ·rename_i e1 e2
     obtain⟨r,h1,h2⟩:=h
     rw [hf]
     simp only [wD,e1,e2]
     exact⟨r,S,h1,h2⟩
    ·exact h.elim
   ·rename_i g first cap hf
    obtain⟨r,h1,h2⟩:=h
    rw [hf]
    exact⟨r,S,h1,h2⟩
   ·exact h.elim
  ·exact h
 |_=>exact h
theorem kD {α:AA}{S:ae}{K:AV->ae->Prop}(h:bm P w0 o.op α S K):∃ r S',eB P w0 n o (α.only (dg o)) S r S'/\K r S' :=
 vX (L0 (β:=α.only (dg o)) (fun x hx=>(jl fun t e=>iA (by rw [<-e];exact hx)).symm) h)
theorem aee {i:Nat}{K:AV->ae->Prop}(hi:ops[i]?=some o) (hd:(match o.dst with|some d=>Nat.blt d n|none=>true)=true) (hg:o.guard=none\/∃ j want,o.guard=some (j,want)/\m6 ops α j=some (some want)) (h:og P w0 o.op α S K) :
  ∃ r S',GS P w0 n ops i α S (α.put o.dst r) S'/\K r S':=by
 cases hp:jt o.op with
 |true =>
  obtain⟨r,h1,h2⟩:=S0 hp (Cx h)
  have h3:∀ T,eB P w0 n o (α.only (dg o)) T r T:=fun T=>by
   obtain⟨r',S',h4,rfl,rfl⟩:=kD (n:=n) (h2 T)
   exact h4
  exact⟨r,S,⟨o,hi,hd,.inr ⟨hg,r,rfl,h3 S,fun _=>⟨rfl,h3⟩,fun _=>rfl⟩⟩,h1⟩
 |false =>
  cases hw:xB o.op with
  |false =>
   obtain⟨r,h1,h2⟩:=Ta hp hw h
   obtain⟨r',S',h4,rfl,rfl⟩:=kD (n:=n) h2
   exact⟨r',S',⟨o,hi,hd,.inr ⟨hg,r',rfl,h4,fun h=>(by rw [hp] at h;cases h),fun _=>rfl⟩⟩,h1⟩
  |true =>
   obtain⟨r,S',h1,h2⟩:=kD (n:=n) (Cx h)
   exact⟨r,S',⟨o,hi,hd,.inr ⟨hg,r,rfl,h1,fun h=>(by rw [hp] at h;cases h),fun h=>(by rw [hw] at h;cases h)⟩⟩,h2⟩
end
def AA.has (α:AA):List (Nat × AV)->Prop
 |[]=>True
 |p::l=>α.tm p.1=p.2/\α.has l
theorem wrap64 {c:Int}(h1:-9223372036854775808<=c) (h2:c<=9223372036854775807):IntKind.i64.wrap c=c:=by
 unfold IntKind.wrap
 simp [IntKind.bits,IntKind.signed]
 omega
theorem UC {α β:Type}{l:List α}{f:α->β}{i:Int}{k:Nat}{x:α}(hi:i=(k:Int)) (h:l[k]?=some x):idx (l.map f) i=some (f x):=by
 subst hi
 exact Fx (by simp [h])
def iv (i:Int):AV:=.v (.int .i64 i)
def bJ (i:Int):List AV:=[iv i]
def c_:List AV->Prop
 |[]=>True
 |a::l=>Pure a/\c_ l
theorem c_.all:∀ {l:List AV},c_ l->∀ a ∈ l,Pure a
 |[],_,a,h=>by cases h
 |b::l,hp,a,h=>by
  rcases List.mem_cons.1 h with rfl|h
  ·exact hp.1
  ·exact c_.all hp.2 a h
def fE (S:ae):List AV->List AV->Prop
 |[],[]=>True
 |a::l,a'::l'=>aX S a a'/\fE S l l'
 |_,_=>False
theorem fE.len {S:ae}:∀ {l l':List AV},fE S l l'->l.length=l'.length
 |[],[],_=>rfl
 |a::l,a'::l',h=>by simp [fE.len h.2]
 |[],_::_,h=>h.elim
 |_::_,[],h=>h.elim
theorem fE.at {S:ae}:∀ {l l':List AV},fE S l l'->∀ (i:Nat) (a a':AV),l[i]?=some a->l'[i]?=some a'->aX S a a'
 |[],[],_,i,a,a',h,_=>by simp at h
 |b::l,b'::l',h,i,a,a',h1,h2=>by
  cases i with
  |zero=>simp at h1 h2;subst h1 h2;exact h.1
  |succ i=>simp at h1 h2;exact fE.at h.2 i a a' h1 h2
 |[],_::_,h,_,_,_,_,_=>h.elim
 |_::_,[],h,_,_,_,_,_=>h.elim
theorem fE.refl (S:ae):∀ (l:List AV),fE S l l
 |[]=>trivial
 |a::l=>⟨.refl a,fE.refl S l⟩
section
variable {P:Program}{w0:World}{f:FuncId}{args dN:List AV}{r:AV}
theorem ah.AM (h:ah P w0 f args r) (hp:c_ args) (S:ae):aV P w0 f args S r S:=h.A7 hp.all S
theorem ah.CH (h:ah P w0 f args r) (hp:c_ args) (hs:qH r) {S:ae}(hf:fE S dN args):aV P w0 f dN S r S:=h.Ms hp.all hs S hf.len hf.at
end
section
variable {S:ae}
theorem aX.wk {ex:Bool}{rows:List (List AV)}:aX S (.sl ex rows) (.sl false rows) :=
 .sl rfl (fun i r r' h1 h2=>by rw [h1] at h2;rw [Option.some.inj h2]) (fun i j r r' a a' h1 h2 h3 h4=>by
  rw [h1] at h2
  obtain rfl:=Option.some.inj h2
  rw [h3] at h4
  obtain rfl:=Option.some.inj h4
  exact .refl _)
theorem aX.fns {f:Fn}{l l' m m':List AV}(h1:fE S l l') (h2:fE S m m'):aX S (.fn f l m) (.fn f l' m'):=.fn h1.len h2.len h1.at h2.at
theorem aX.box {k:Nat}{cs cs':List AV}(h:S.get k=some (.arr cs.length [cs] 0 true)) (hf:fE S cs cs'):aX S (.pt k cs.length 0 0) (.ip cs') :=
 .pt h rfl (by rw [hf.len];exact Nat.le_refl _) (fun q a a' h1 h2=>by rw [Nat.zero_add] at h1;exact hf.at q a a' h1 h2)
end
def Md {β:Type}(r:AV) (k:AV->β):β:=match r with
 |.u=>k .u
 |.v x=>k (.v x)
 |.agg l=>k (.agg l)
 |.bc l=>k (.bc l)
 |.sl e l=>k (.sl e l)
 |.ip l=>k (.ip l)
 |.ob a b c d e=>k (.ob a b c d e)
 |.pt a b c d=>k (.pt a b c d)
 |.mp a=>k (.mp a)
 |.fn a b c=>k (.fn a b c)
 |.yl a=>k (.yl a)
 |.gr a b c=>k (.gr a b c)
theorem Me {β:Type}{r:AV}{k:AV->β}:Md r k=k r:=by cases r<;>rfl
def lM {β:Type}:List AV->(List AV->β)->β
 |[],k=>k []
 |a::l,k=>Md a fun a=>lM l fun l=>k (a::l)
theorem pk {β:Type}:∀ {l:List AV}{k:List AV->β},lM l k=k l
 |[],k=>rfl
 |a::l,k=>by rw [lM,Me,pk]
def aef {β:Type}(r:AV) (k:AV->β):β:=match r with
 |.u=>k .u
 |.v x=>k (.v x)
 |.agg l=>lM l fun l=>k (.agg l)
 |.bc l=>lM l fun l=>k (.bc l)
 |.sl e l=>k (.sl e l)
 |.ip l=>lM l fun l=>k (.ip l)
 |.ob a b c d e=>k (.ob a b c d e)
 |.pt a b c d=>k (.pt a b c d)
 |.mp a=>k (.mp a)
 |.fn a b c=>lM b fun b=>lM c fun c=>k (.fn a b c)
 |.yl a=>k (.yl a)
 |.gr a b c=>k (.gr a b c)
def zZ {β:Type}:List (List AV)->(List (List AV)->β)->β
 |[],k=>k []
 |a::l,k=>lM a fun a=>zZ l fun l=>k (a::l)
theorem B6 {β:Type}:∀ {l:List (List AV)}{k:List (List AV)->β},zZ l k=k l
 |[],k=>rfl
 |a::l,k=>by rw [zZ,pk,B6]
def A0 (S:ae) (cs:List AV):Option (AV × ae):=lM cs fun cs=>match S with|⟨g,x⟩=>some (.pt x cs.length 0 0,⟨bP g x (some (.arr cs.length [cs] 0 true)),x+1⟩)
theorem oH {S:ae}{cs:List AV}:A0 S cs=some (iH S cs):=by
 unfold A0
 rw [pk]
 rfl
def wc (P:Program) (S:ae) (t:TypeId) (b:AV):AV->Option ae
 |.pt k sz 0 j=>match S.get k with
  |some (.arr sz' [row] 0 ex)=>match Nat.beq sz sz' && (a_ b).all cn && (match cS P t with|some m=>Nat.beq m (a_ b).length|none=>false) with
   |true=>match Nat.ble (j+(a_ b).length) row.length with
    |true=>lM (oy row j (a_ b)) fun bA=>match S with|⟨g,x⟩=>some ⟨bP g k (some (.arr sz [bA] 0 ex)),x⟩
    |false=>none
   |false=>none
  |_=>none
 |_=>none
theorem we {P:Program}{S S':ae}{t:TypeId}{b x:AV}(h:wc P S t b x=some S'):lv P S t b x=some S':=by
 unfold wc at h
 split at h
 ·rename_i k sz j
  split at h
  ·rename_i sz' row ex hk
   split at h
   ·rename_i hc
    split at h
    ·rename_i hl
     rw [pk] at h
     simp only [lv,hk]
     split
     ·simp only [List.getElem?_cons_zero,hl]
      exact h
     ·rename_i gK
      have:true=false:=hc.symm.trans gK
      cases this
    ·cases h
   ·cases h
  ·cases h
 ·cases h
def pU (P:Program) (o:Op) (α:AA) (S:ae):Option (AV × ae) :=
 match o with
 |.move x=>some (α.ev x,S)
 |.assign x=>some (α.ev x,S)
 |.pick c a b=>match α.ev c with
  |.v (.bool true)=>some (α.ev a,S)
  |.v (.bool false)=>some (α.ev b,S)
  |_=>none
 |.alloc e=>match cY P e with
  |some z=>A0 S (z.cells.toList.map bV)
  |none=>none
 |.box _ x=>match (a_ (α.ev x)).all cn with
  |true=>A0 S (a_ (α.ev x))
  |false=>none
 |.build t parts=>match qS P t (parts.toList.map fun (i,x)=>(i,α.ev x)) with
  |some a=>some (a,S)
  |none=>none
 |.load t x=>match r7 P S t (α.ev x) with
  |some a=>some (a,S)
  |none=>none
 |.buildSlice t len parts=>match fJ P t with
  |some e=>match cY P e,cS P e with
   |some z,some m=>match Nat.ble (len*m) 16777216 && Nat.beq z.cells.size m && Nat.blt 0 m with
    |true=>match tV m (List.replicate len (z.cells.toList.map bV)) (parts.toList.map fun (i,x)=>(i,α.ev x)) with
     |some rows=>zZ rows fun rows=>some (.sl true rows,S)
     |none=>none
    |false=>none
   |_,_=>none
  |none=>none
 |.store t x b=>match wc P S t (α.ev b) (α.ev x) with
  |some S'=>some (.v undef,S')
  |none=>none
 |.unOp op _ x=>match op,α.ev x with
  |.not,.v (.bool true)=>some (.v (.bool false),S)
  |.not,.v (.bool false)=>some (.v (.bool true),S)
  |_,_=>none
 |.fieldAddr s x f=>match P.underlying s with
  |some (.struct fs)=>match fs[f]? with
   |some fd=>match cS P fd.type with
    |some (_+1)=>match α.ev x with
     |.ip row=>some (.ip (row.drop fd.offset),S)
     |.pt k sz i j=>some (.pt k sz i (j+fd.offset),S)
     |_=>none
    |_=>none
   |none=>none
  |_=>none
 |.field t x f=>match P.underlying t with
  |some (.struct fs)=>match fs[f]? with
   |some fd=>match α.ev x with
    |.agg l=>match lS P fd.type l fd.offset with
     |some a=>some (a,S)
     |none=>none
    |_=>none
   |none=>none
  |_=>none
 |.extract x i=>match α.ev x with
  |.bc l=>match l[i]? with
   |some a=>some (a,S)
   |none=>none
  |_=>none
 |.makeFunc f first cap=>some (.fn f (first.toList.map α.ev) (cap.toList.map α.ev),S)
 |.nilCheck x=>match α.ev x with
  |.ip c=>some (.ip c,S)
  |.pt k sz i j=>some (.pt k sz i j,S)
  |_=>none
 |.call c=>match c.callee,c.argTypes.toList,c.args.toList with
  |.builtin .len,[t],[x]=>match lenOf P t (α.ev x) with
   |some m=>some (.v (.int .i64 (m:Int)),S)
   |none=>none
  |_,_,_=>none
 |_=>none
section
variable {P:Program}{w0:World}{rd:Bool}{n:Nat}{o:Op}{α:AA}{S S':ae}{r:AV}
theorem Mf (h:pU P o α S=some (r,S')):bm P w0 o α S (qQ r S'):=by
 have e:∀ {a:AV}{T:ae},some (a,T)=some (r,S')->a=r/\T=S':=fun h=>by injection h with h;injection h with h1 h2;exact⟨h1,h2⟩
 have e2:∀ {q:AV × ae},some q=some (r,S')->q.1=r/\q.2=S':=fun h=>by injection h with h;subst h;exact⟨rfl,rfl⟩
 cases o with
 |move x=>exact e h
 |assign x=>exact e h
 |pick c a b =>
  simp only [pU] at h
  simp only [bm]
  split at h
  ·rename_i hc;rw [hc];exact e h
  ·rename_i hc;rw [hc];exact e h
  ·cases h
 |alloc t =>
  simp only [pU] at h
  simp only [bm]
  split at h
  ·rename_i z hz;rw [hz];rw [oH] at h;exact e2 h
  ·cases h
 |box t x =>
  simp only [pU] at h
  simp only [bm]
  split at h
  ·rename_i hx;rw [hx];rw [oH] at h;exact e2 h
  ·cases h
 |buildSlice t len parts =>
  simp only [pU] at h
  simp only [bm]
  split at h
  ·rename_i el he
   split at h
   ·rename_i z m hz hs
    split at h
    ·rename_i hb
     split at h
     ·rename_i rows hr
      rw [B6] at h
      simp only [he,hz,hs,hb,hr]
      exact e h
     ·cases h
    ·cases h
   ·cases h
  ·cases h
 |build t parts =>
  simp only [pU] at h
  simp only [bm]
  split at h
  ·rename_i z hz;rw [hz];exact e h
  ·cases h
 |load t x =>
  simp only [pU] at h
  simp only [bm]
  split at h
  ·rename_i z hz;exact bp.mk hz (e h)
  ·cases h
 |store t x b =>
  simp only [pU] at h
  simp only [bm]
  split at h
  ·rename_i z hz;exact bp.mk (we hz) (e h)
  ·cases h
 |unOp op t x =>
  simp only [pU] at h
  simp only [bm]
  split at h
  ·rename_i hc;rw [hc];exact e h
  ·rename_i hc;rw [hc];exact e h
  ·cases h
 |fieldAddr s x f =>
  simp only [pU] at h
  simp only [bm]
  split at h
  ·rename_i fs hu
   split at h
   ·rename_i fd hf
    split at h
    ·rename_i m hs
     split at h
     ·rename_i row hx;simp only [hu,hf,hs,hx];exact e h
     ·rename_i k sz i j hx;simp only [hu,hf,hs,hx];exact e h
     ·cases h
    ·cases h
   ·cases h
  ·cases h
 |field t x f =>
  simp only [pU] at h
  simp only [bm]
  split at h
  ·rename_i fs hu
   split at h
   ·rename_i fd hf
    split at h
    ·rename_i l hx
     split at h
     ·rename_i a ha;simp only [hu,hf,hx];exact bp.mk ha (e h)
     ·cases h
    ·cases h
   ·cases h
  ·cases h
 |extract x i =>
  simp only [pU] at h
  simp only [bm]
  split at h
  ·rename_i l hx
   split at h
   ·rename_i a ha;simp only [hx,ha];exact e h
   ·cases h
  ·cases h
 |makeFunc f first cap=>exact e h
 |nilCheck x =>
  simp only [pU] at h
  simp only [bm]
  split at h
  ·rename_i c hx;rw [hx];exact e h
  ·rename_i k sz i j hx;rw [hx];exact e h
  ·cases h
 |call c =>
  simp only [pU] at h
  simp only [bm]
  split at h
  ·rename_i t x hc ht hx
   split at h
   ·rename_i m hm
    rw [hc,ht,hx]
    exact bp.mk hm (e h)
   ·cases h
  ·cases h
 |_=>cases h
def gO (ops:List Oper) (α:AA) (o:Oper):Option Bool :=
 match o.guard with
 |none=>some true
 |some (j,want)=>match Qg ops α j with
  |some (some true)=>some want
  |some (some false)=>some (!want)
  |some none=>some false
  |none=>none
def rU (d:Option Tmp) (α:AA) (r:AV):AA:=match d with|some d=>⟨bP α.tm d r,α.df⟩|none=>α
def Cy (P:Program) (n:Nat) (ops:List Oper):List Oper->AA->ae->List Oper × AA × ae
 |[],α,S=>([],α,S)
 |o::rest,α,S=>match mC n o.dst with
  |true=>match gO ops α o with
   |some true=>match pU P o.op α S with
    |some (r,S')=>aef r fun r=>Cy P n ops rest (rU o.dst α r) S'
    |none=>(o::rest,α,S)
   |some false=>Cy P n ops rest (rU o.dst α (.v undef)) S
   |none=>(o::rest,α,S)
  |false=>(o::rest,α,S)
end
section
variable {P:Program}{w0:World}{rd:Bool}{n:Nat}{o:Oper}{α:AA}{S S':ae}{r:AV}{ops l rest:List Oper}{Q:AA->ae->Prop}
theorem qz {d:Option Tmp}:rU d α r=α.put d r:=by cases d<;>rfl
def wg (P:Program) (w0:World) (n:Nat) (ops l:List Oper) (Q:AA->ae->Prop) (α:AA) (S:ae):Prop :=
 ∀ k,ops.drop k=l->∃ aB S',pB P w0 n ops.toArray (List.range' k l.length) α S aB S'/\Q aB S'
theorem drop_cons {k:Nat}(h:ops.drop k=o::rest):ops.toArray[k]?=some o/\ops.drop (k+1)=rest:=by
 refine⟨?_,?_⟩
 ·have:=congrArg (·[0]?) h
  simpa using this
 ·rw [<-List.drop_drop,h];rfl
theorem wg.nil (h:Q α S):wg P w0 n ops [] Q α S:=fun k _=>⟨α,S,fun F m A g a w Q hF hS hA hQ=>hQ a w g hS hA (Ext.refl ..),h⟩
theorem nX (h:gO ops α o=some true):o.guard=none\/∃ j want,o.guard=some (j,want)/\m6 ops.toArray α j=some (some want):=by
 unfold gO at h
 split at h
 ·rename_i hg;exact .inl hg
 ·rename_i j want hg
  have e:=vh (ops:=ops.toArray) (α:=α) (j:=j)
  split at h
  ·rename_i hy
   obtain rfl:=Option.some.inj h
   exact .inr ⟨j,_,hg,by rw [<-e];exact hy⟩
  ·rename_i hy
   cases want
   ·exact .inr ⟨j,_,hg,by rw [<-e];exact hy⟩
   ·cases h
  ·cases h
  ·cases h
theorem xF (h:gO ops α o=some false):∃ (j:Nat) (want:Bool) (b:Option Bool),o.guard=some (j,want)/\m6 ops.toArray α j=some b/\b ≠ some want:=by
 unfold gO at h
 split at h
 ·cases h
 ·rename_i j want hg
  have e:=vh (ops:=ops.toArray) (α:=α) (j:=j)
  split at h
  ·rename_i hy
   obtain rfl:=Option.some.inj h
   exact⟨j,_,_,hg,by rw [<-e];exact hy,by simp⟩
  ·rename_i hy
   cases want
   ·cases h
   ·exact⟨j,_,_,hg,by rw [<-e];exact hy,by simp⟩
  ·rename_i hy
   exact⟨j,_,_,hg,by rw [<-e];exact hy,by simp⟩
  ·cases h
theorem wg.op (hd:mC n o.dst=true) (hw:gO ops α o=some true) (h:bm P w0 o.op α S (qQ r S')) (k:wg P w0 n ops rest Q (rU o.dst α r) S'):wg P w0 n ops (o::rest) Q α S:=by
 intro i hi
 obtain⟨h1,h2⟩:=drop_cons hi
 obtain⟨r1,S1,h3,rfl,rfl⟩:=vX (n:=n) h
 obtain⟨aB,T,h4,h5⟩:=k (i+1) h2
 rw [qz] at h4
 refine⟨aB,T,?_,h5⟩
 refine pB.step h1 hd (fun g w a hA=>?_) h3 h4
 rcases nX hw with hg|⟨j,want,hg,hy⟩
 ·simp [Region.wanted,hg]
 ·simp [Region.wanted,hg,nK hA hy]
def kE (P:Program) (w0:World) (n:Nat) (ops l:List Oper) (Q:AA->ae->Prop) (α:AA) (S:ae):Prop :=
 ∀ k,ops.drop k=l->∃ aB S',oq P w0 n ops.toArray (List.range' k l.length) α S aB S'/\Q aB S'
theorem kE.nil (h:Q α S):kE P w0 n ops [] Q α S:=fun k _=>⟨α,S,.nil α S,h⟩
theorem kE.op (hd:mC n o.dst=true) (hw:gO ops α o=some true) (h:og P w0 o.op α S (qQ r S')) (k:kE P w0 n ops rest Q (rU o.dst α r) S'):kE P w0 n ops (o::rest) Q α S:=by
 intro i hi
 obtain⟨h1,h2⟩:=drop_cons hi
 obtain⟨r1,S1,h3,rfl,rfl⟩:=aee (n:=n) h1 hd (nX hw) h
 obtain⟨aB,T,h4,h5⟩:=k (i+1) h2
 rw [qz] at h4
 exact⟨aB,T,.cons h3 h4,h5⟩
theorem kE.skip (hd:mC n o.dst=true) (hw:gO ops α o=some false) (k:kE P w0 n ops rest Q (rU o.dst α (.v undef)) S):kE P w0 n ops (o::rest) Q α S:=by
 intro i hi
 obtain⟨h1,h2⟩:=drop_cons hi
 obtain⟨aB,T,h4,h5⟩:=k (i+1) h2
 rw [qz] at h4
 obtain⟨j,want,b,hg,hy,bH⟩:=xF hw
 exact⟨aB,T,.cons ⟨o,h1,hd,.inl ⟨j,want,b,hg,hy,bH,rfl,rfl⟩⟩ h4,h5⟩
end
inductive It where
 |seq (c:Code)
 |qE (id:Nat)
inductive Cf where
 |run (c:Code) (K:List It)
 |out (ex:Exit) (K:List It)
 |bz (ops l:List Oper) (K:List It)
 |dr (ops l:List Oper) (K:List It)
section
variable (P:Program) (w0:World) (rd:Bool) (n:Nat)
def Wp (c:Code) (Q:Exit->AA->ae->Prop) (α:AA) (S:ae):Prop:=∃ ex aB S',cy P w0 rd n c α S ex aB S'/\Q ex aB S'
def cont (Q:Exit->AA->ae->Prop):List It->Exit->AA->ae->Prop
 |[]=>Q
 |.seq b::K=>fun ex α S=>match ex with|.normal=>Wp P w0 rd n b (cont Q K) α S|e=>cont Q K e α S
 |.qE id::K=>fun ex α S=>match ex with|.exit j=>(match Nat.beq j id with|true=>cont Q K .normal α S|false=>cont Q K (.exit j) α S)|e=>cont Q K e α S
def GK (Q:Exit->AA->ae->Prop):Cf->AA->ae->Prop
 |.run c K,α,S=>Wp P w0 rd n c (cont P w0 rd n Q K) α S
 |.out ex K,α,S=>cont P w0 rd n Q K ex α S
 |.bz ops l K,α,S=>wg P w0 n ops l (fun α S=>cont P w0 rd n Q K .normal α S) α S
 |.dr ops l K,α,S=>kE P w0 n ops l (fun α S=>cont P w0 rd n Q K .normal α S) α S
def mv:Cf->AA->ae->Option (Cf × AA × ae)
 |.run c K,α,S=>match c with
  |.skip=>some (.out .normal K,α,S)
  |.region _ ops false=>some (.bz ops.toList ops.toList K,α,S)
  |.seq a b=>some (.run a (.seq b::K),α,S)
  |.cond c a b=>match α.ev c with
   |.v (.bool true)=>some (.run a K,α,S)
   |.v (.bool false)=>some (.run b K,α,S)
   |_=>none
  |.block id c=>some (.run c (.qE id::K),α,S)
  |.exit id=>some (.out (.exit id) K,α,S)
  |.ret=>some (.out .ret K,α,S)
  |_=>none
 |.out ex K,α,S=>match K with
  |[]=>none
  |.seq b::K=>match ex with
   |.normal=>some (.run b K,α,S)
   |e=>some (.out e K,α,S)
  |.qE id::K=>match ex with
   |.exit j=>match Nat.beq j id with
    |true=>some (.out .normal K,α,S)
    |false=>some (.out (.exit j) K,α,S)
   |e=>some (.out e K,α,S)
 |.bz ops l K,α,S=>match Cy P n ops l α S with
  |([],aB,S')=>some (.out .normal K,aB,S')
  |(_::_,_,_)=>none
 |.dr ops l K,α,S=>match Cy P n ops l α S with
  |([],aB,S')=>some (.out .normal K,aB,S')
  |(_::_,_,_)=>none
end
section
variable {P:Program}{w0:World}{rd:Bool}{n:Nat}{α aB:AA}{S S':ae}{Q Q':Exit->AA->ae->Prop}{c a b:Code}{ex:Exit}
theorem Wp.of (h:cy P w0 rd n c α S ex aB S') (k:Q ex aB S'):Wp P w0 rd n c Q α S:=⟨_,_,_,h,k⟩
theorem Wp.seq (h:Wp P w0 rd n a (fun ex α S=>match ex with|.normal=>Wp P w0 rd n b Q α S|e=>Q e α S) α S):Wp P w0 rd n (.seq a b) Q α S:=by
 obtain⟨ex,bN,bZ,h1,h2⟩:=h
 cases ex with
 |normal =>
  obtain⟨ex',aB,S',h3,h4⟩:=h2
  exact⟨ex',aB,S',cy.seq h1 h3,h4⟩
 |_=>exact⟨_,bN,bZ,cy.TK h1 (by simp),h2⟩
theorem Wp.cond {o:Operand}{t:Bool}(ho:α.ev o=.v (.bool t)) (h:Wp P w0 rd n (if t then a else b) Q α S):Wp P w0 rd n (.cond o a b) Q α S:=by
 obtain⟨ex,aB,S',h1,h2⟩:=h
 exact⟨ex,aB,S',cy.cond ho h1,h2⟩
theorem Wp.block {id:Nat}(h:Wp P w0 rd n c (fun ex α S=>match ex with|.exit j=>(match Nat.beq j id with|true=>Q .normal α S|false=>Q (.exit j) α S)|e=>Q e α S) α S):Wp P w0 rd n (.block id c) Q α S:=by
 obtain⟨ex,aB,S',h1,h2⟩:=h
 cases ex with
 |exit j =>
  simp only at h2
  split at h2
  ·rename_i hj
   have:=Nat.eq_of_beq_eq_true hj
   subst this
   exact⟨_,aB,S',cy.Hg h1,h2⟩
  ·rename_i hj
   have bH:j ≠ id:=fun e=>by subst e;rw [Nat.beq_refl] at hj;cases hj
   exact⟨_,aB,S',cy.block h1 (fun e=>bH (by injection e)),h2⟩
 |_=>exact⟨_,aB,S',cy.block h1 (by simp),h2⟩
theorem kE.wp {id:Nat}{ops:Array Oper}(od:(P.follows .mixedOrders && zX ops)=true) (h:kE P w0 n ops.toList ops.toList (fun α S=>Q .normal α S) α S):Wp P w0 rd n (.region id ops true) Q α S:=by
 simp only [Bool.and_eq_true] at od
 obtain⟨aB,S',h1,h2⟩:=h 0 rfl
 rw [Array.length_toList,<-List.range_eq_range'] at h1
 exact⟨_,aB,S',cy.draw od.1 od.2 h1,h2⟩
end
section
variable {P:Program}{w0:World}{rd:Bool}{n:Nat}{α aB:AA}{S S':ae}{Q:Exit->AA->ae->Prop}{c a b:Code}{ex:Exit}{K:List It}{r:AV}{ops rest:List Oper}{o:Oper}
theorem GK.op (hd:mC n o.dst=true) (hw:gO ops α o=some true) (h:bm P w0 o.op α S (qQ r S')) (k:GK P w0 rd n Q (.bz ops rest K) (rU o.dst α r) S'):GK P w0 rd n Q (.bz ops (o::rest) K) α S:=wg.op hd hw h k
def aeg (P:Program) (w0:World) (rd:Bool) (n:Nat) (I:Nat->AA->ae->Prop) (Q:Exit->AA->ae->Prop) (K:List It) (k:Nat):Exit->AA->ae->Prop :=
 fun ex α S=>match ex with|.normal=>∃ j,j < k/\I j α S|e=>GK P w0 rd n Q (.out e K) α S
theorem GK.next {I:Nat->AA->ae->Prop}{k:Nat}(j:Nat) (hj:j < k) (h:I j α S):GK P w0 rd n (aeg P w0 rd n I Q K k) (.out .normal []) α S:=⟨j,hj,h⟩
def Cg:Exit->Bool|.normal=>true|.ret=>true|_=>false
end
def eN (i:Int):Value:=.int .i64 i
def lh:List (Value × AV)->Int->Option Nat
 |[],_=>none
 |p::es,i=>match p.1 with
  |.int _ n=>match decide (n=i) with|true=>some 0|false=>(lh es i).map (·+1)
  |_=>(lh es i).map (·+1)
def tJ (es:List (Value × AV)) (i:Int):Option AV:=match lh es i with|some j=>(es[j]?).map (·.2)|none=>none
def xI (es:List (Value × AV)) (i:Int) (b:AV):List (Value × AV):=match lh es i with|some j=>es.set j (eN i,b)|none=>es++[(eN i,b)]
def qB (es:List (Value × AV)):Prop:=∀ p ∈ es,∃ n,p.1=eN n
theorem A1:∀ {es:List (Value × AV)}{i:Int}{j:Nat},qB es->lh es i=some j->∃ a,es[j]?=some (eN i,a)
 |[],i,j,_,h=>by cases h
 |p::es,i,j,hk,h=>by
  obtain⟨n,hn⟩:=hk p (by simp)
  simp only [lh,hn,eN] at h
  split at h
  ·rename_i e
   obtain rfl:=of_decide_eq_true e
   obtain rfl:=Option.some.inj h
   exact⟨p.2,by rw [List.getElem?_cons_zero,<-hn]⟩
  ·cases hx:lh es i with
   |none=>rw [hx] at h;cases h
   |some j' =>
    rw [hx] at h
    obtain rfl:=Option.some.inj h
    obtain⟨a,ha⟩:=A1 (fun q hq=>hk q (by simp [hq])) hx
    exact⟨a,by simpa using ha⟩
theorem z0 {kk:IntKind}{i:Int}:∀ {es:List (Value × AV)}{L:List MapEntry}{o:Nat},qB es->L.length=es.length->(∀ (j:Nat) (k:Value) (a:AV) (e:MapEntry),es[j]?=some (k,a)->L[j]?=some e->e.key=k) ->
  Instr.findNow (.int kk) (eN i) L o=some (match lh es i with|some j=>(L[j]?).map fun e=>(j+o,e.val)|none=>none)
 |[],[],o,_,_,_=>rfl
 |p::es,e::L,o,hk,hl,h=>by
  obtain⟨n,hn⟩:=hk p (by simp)
  have VO:e.key=eN n:=by rw [h 0 p.1 p.2 e rfl rfl,hn]
  simp only [Instr.findNow,VO,eN,Instr.sameNow,if_true,lh,hn]
  by_cases c:n=i
  ·subst c
   simp
  ·have c':¬ i=n:=fun e=>c e.symm
   simp only [c,decide_false,beq_eq_false_iff_ne.2 c']
   have ih:=z0 (kk:=kk) (i:=i) (es:=es) (L:=L) (o:=o+1) (fun q hq=>hk q (by simp [hq])) (by simpa using hl) (fun j k a e' h1 h2=>h (j+1) k a e' (by simpa using h1) (by simpa using h2))
   simp only [eN] at ih
   rw [ih]
   congr 1
   cases lh es i with
   |none=>rfl
   |some j=>simp only [Option.map_some,List.getElem?_cons_succ];congr 1;funext x;congr 1;omega
 |[],_::_,_,_,hl,_=>by simp at hl
 |_::_,[],_,_,hl,_=>by simp at hl
section
variable {P:Program}{w0:World}{n:Nat}{o:Oper}{α:AA}{S S':ae}{r:AV}
theorem yX {g:Gh}{w:World}{k:Nat}{v:Value}(h:aL g w (.mp k) v):v=.map (some (g.ob k))/\g.al k:=by
 cases h with
 |mp hk=>exact⟨rfl,hk⟩
theorem run_checkKey {kt:TypeId}{kk:IntKind}{w:World}(h:P.underlying kt=some (.int kk)) (b:Bool) (i:Int):(Instr.checkKey b 10000 kt (eN i)).run P w=.ok () w:=by
 rw [show (10000:Nat)=9999+1 from rfl,Instr.checkKey]
 simp [run_underlying h,eN,Sem.run_bind]
theorem run_findKey {kt:TypeId}{kk:IntKind}{w:World}{i:Int}{L:List MapEntry}{x:Option (Nat × Value)}(h:P.underlying kt=some (.int kk)) (hx:Instr.findNow (.int kk) (eN i) L 0=some x):(Instr.findKey kt (eN i) L).run P w=.ok x w:=by
 simp only [Instr.findKey,Sem.run_bind,run_underlying h,Result.andThen_ok,hx,Sem.run_pure]
theorem ko {w:World}{b:Nat}{es:Array MapEntry}{clock:Nat}(h:w.heap[b]?=some (.map es clock)):(getObj b).run P w=.ok (.map es clock) w:=by
 simp [getObj,Sem.run,h]
theorem Mg {g:Gh}{w:World}{es:List (Value × AV)}{entries:Array MapEntry}(bI:entries.size=es.length) (he:∀ (i:Nat) (k:Value) (a:AV),es[i]?=some (k,a)->∃ e:MapEntry,entries[i]?=some e/\e.key=k/\aL g w a e.val) (hk:qB es) {kk:IntKind}(i:Int) :
  Instr.findNow (.int kk) (eN i) entries.toList 0=some (match lh es i with|some j=>(entries[j]?).map fun e=>(j,e.val)|none=>none):=by
 have h:=z0 (kk:=kk) (i:=i) (es:=es) (L:=entries.toList) (o:=0) hk (by simpa using bI) (fun j k a e h1 h2=>by
  obtain⟨e',h3,h4,_⟩:=he j k a h1
  rw [Array.getElem?_toList,h3] at h2
  rw [<-Option.some.inj h2];exact h4)
 simpa using h
theorem Mh {t kt et:TypeId}{kk:IntKind}{x i:Operand}{k:Nat}{es:List (Value × AV)}{z:Value}{m:Int}{c:Bool}(ho:o.op=.lookup t x i c) (ht:P.underlying t=some (.map kt et)) (wh:P.underlying kt=some (.int kk)) (hz:cY P et=some z)
  (hx:α.ev x=.mp k) (hE:∀ (A:Nat->Prop) (g:Gh) (w:World),St w0 A g S w->g.al k->∃ (entries:Array MapEntry) (clock:Nat),w.heap[g.ob k]?=some (.map entries clock)/\entries.size=es.length/\∀ (i:Nat) (k:Value) (a:AV),es[i]?=some (k,a)->∃ e:MapEntry,entries[i]?=some e/\e.key=k/\aL g w a e.val) (hk:qB es) (hi:α.ev i=.v (eN m)):bg P w0 n o α S (match tJ es m with|some a=>(if c then .bc [a,.v (.bool true)] else a)|none=>(if c then .bc [lift z,.v (.bool false)] else lift z)) S:=by
 refine bg.quiet fun A g q w cZ hA=>?_
 have h1:=hA.ev x
 have h2:=hA.ev i
 rw [hx] at h1
 rw [hi] at h2
 obtain⟨e1,bG⟩:=yX h1
 have e2:=cd h2
 obtain⟨entries,clock,p1,p2,p3⟩:=hE A g w cZ bG
 have hf:=Mg p2 p3 hk (kk:=kk) m
 obtain⟨inf,aiK,pK⟩:∃ inf,P.info? et=some inf/\inf.zero=some z:=by
  unfold cY at hz
  cases hp:P.info? et with
  |none=>rw [hp] at hz;cases hz
  |some inf=>rw [hp] at hz;exact⟨inf,rfl,hz⟩
 have fin:∀ (v:Value) (b:Bool) (a:AV),aL g w a v->aL g w (if c then .bc [a,.v (.bool b)] else a) (if c then .tuple #[v,.bool b] else v):=by
  intro v b a hr
  cases c with
  |false=>exact hr
  |true =>
   refine .bc rfl fun i y x hy hx=>?_
   match i with
   |0=>simp at hy hx;subst hy hx;exact hr
   |1=>simp at hy hx;subst hy hx;exact .v
   |i+2=>simp at hy
 unfold tJ
 cases hj:lh es m with
 |none =>
  rw [hj] at hf
  refine⟨_,?_,fin z false (lift z) (xU z)⟩
  simp only [execOp,ho,e1,e2,Instr.lookup,Sem.run_bind,run_underlying ht,Result.andThen_ok,ko p1,Sem.run_pure,run_checkKey wh,run_findKey wh hf,m7 hz]
 |some j =>
  obtain⟨a,ha⟩:=A1 hk hj
  obtain⟨e,q1,q2,q3⟩:=p3 j _ a ha
  rw [hj] at hf
  simp only [q1,Option.map_some] at hf
  simp only [ha,Option.map_some]
  refine⟨_,?_,fin e.val true a q3⟩
  simp only [execOp,ho,e1,e2,Instr.lookup,Sem.run_bind,run_underlying ht,Result.andThen_ok,ko p1,Sem.run_pure,run_checkKey wh,run_findKey wh hf]
theorem Mr {t kt et:TypeId}{kk:IntKind}{x i:Operand}{k:Nat}{es:List (Value × AV)}{z:Value}{m:Int}{c:Bool}(ho:o.op=.lookup t x i c) (ht:P.underlying t=some (.map kt et)) (wh:P.underlying kt=some (.int kk)) (hz:cY P et=some z)
  (hx:α.ev x=.mp k) (hS:S.get k=some (.mp es)) (hk:qB es) (hi:α.ev i=.v (eN m)):bg P w0 n o α S (match tJ es m with|some a=>(if c then .bc [a,.v (.bool true)] else a)|none=>(if c then .bc [lift z,.v (.bool false)] else lift z)) S :=
 Mh ho ht wh hz hx (fun A g w cZ bG=>(cZ.cH k _ hS bG).2.2) hk hi
theorem St.Di {A:Nat->Prop}{g:Gh}{w:World}{k:Nat}{es es':List (Value × AV)}{entries entries':Array MapEntry}{clock clock':Nat}(hS:St w0 A g S w) (hk:S.get k=some (.mp es)) (ha:g.al k) (hm:w.heap[g.ob k]?=some (.map entries clock))
  (bI:entries'.size=es'.length) (he:∀ (i:Nat) (k:Value) (a:AV),es'[i]?=some (k,a)->∃ e:MapEntry,entries'[i]?=some e/\e.key=k/\aL g w a e.val) :
  ∃ w',(setObj (g.ob k) (.map entries' clock')).run P w=.ok () w'/\St w0 A g (S.set k (some (.mp es'))) w'/\Ext A g w g w':=by
 have au:=(hS.cH k _ hk ha).2.1
 have uv:({ w with heap:=w.heap.setIfInBounds (g.ob k) (.map entries' clock') }:World).heap[g.ob k]?=some (.map entries' clock'):=by simp [Array.getElem?_setIfInBounds,au]
 obtain⟨h1,h2⟩:=hS.putObj (ob:=.mp es') hk ha (fun J=>⟨by simp,by simp⟩) (x':=.map entries' clock') rfl (fun q=>by simp only [World.cell?,uv,hm]) (fun hL hb=>⟨entries',clock',hb,bI,fun i key a hi=>by
  obtain⟨e,q1,q2,q3⟩:=he i key a hi
  exact⟨e,q1,q2,q3.later hL⟩⟩)
 exact⟨_,by simp [setObj,Sem.run,hm],h2,h1⟩
theorem A6 {t:TypeId}(ho:o.op=.makeMap t none):bg P w0 n o α S (.mp S.nx) (S.new (.mp [])):=by
 intro A g q w hS hA
 obtain⟨h1,h2⟩:=hS.new (.map #[] 0) (.mp []) 0 (fun J=>by simp) (fun hL=>⟨#[],0,dy,rfl,fun i k a h=>by simp at h⟩)
 have hr:=aL.mp (g:=g.new S.nx w.heap.size 0) (w:=w.alloc (.map #[] 0)) (k:=S.nx) (.inr rfl)
 rw [show (g.new S.nx w.heap.size 0).ob S.nx=w.heap.size from aG _ _ _] at hr
 refine⟨_,_,_,.inl ?_,hr,h2,h1⟩
 simp [execOp,ho,Instr.makeMap,newObj,Sem.run]
theorem GX {t kt et:TypeId}{x:Operand}{kk:IntKind}{m:Int}(ho:o.op=.makeMap t (some x)) (ht:P.underlying t=some (.map kt et)) (hx:α.ev x=.v (.int kk m)):bg P w0 n o α S (.mp S.nx) (S.new (.mp [])):=by
 intro A g q w hS hA
 have h0:=hA.ev x
 rw [hx] at h0
 have e0:=cd h0
 obtain⟨h1,h2⟩:=hS.new (.map #[] 0) (.mp []) 0 (fun J=>by simp) (fun hL=>⟨#[],0,dy,rfl,fun i k a h=>by simp at h⟩)
 have hr:=aL.mp (g:=g.new S.nx w.heap.size 0) (w:=w.alloc (.map #[] 0)) (k:=S.nx) (.inr rfl)
 rw [show (g.new S.nx w.heap.size 0).ob S.nx=w.heap.size from aG _ _ _] at hr
 refine⟨_,_,_,.inl ?_,hr,h2,h1⟩
 simp [execOp,ho,Instr.makeMap,newObj,Sem.run,e0,run_underlying ht,asInt,asIntOf]
theorem CD {t kt et:TypeId}{kk:IntKind}{x i y:Operand}{k:Nat}{es:List (Value × AV)}{m:Int}{b:AV}(ho:o.op=.mapUpdate t x i y) (ht:P.underlying t=some (.map kt et)) (wh:P.underlying kt=some (.int kk))
  (hx:α.ev x=.mp k) (hS:S.get k=some (.mp es)) (hk:qB es) (hi:α.ev i=.v (eN m)) (hy:α.ev y=b):bg P w0 n o α S (.v undef) (S.set k (some (.mp (xI es m b)))):=by
 intro A g q w cZ hA
 have h1:=hA.ev x
 have h2:=hA.ev i
 have h3:=hA.ev y
 rw [hx] at h1
 rw [hi] at h2
 rw [hy] at h3
 obtain⟨e1,bG⟩:=yX h1
 have e2:=cd h2
 obtain⟨v,hv⟩:∃ v,q.eval y=v:=⟨_,rfl⟩
 rw [hv] at h3
 obtain⟨_,_,entries,clock,p1,p2,p3⟩:=cZ.cH k _ hS bG
 have hf:=Mg p2 p3 hk (kk:=kk) m
 have hlen:entries.toList.length=entries.size:=Array.length_toList
 unfold xI
 cases hj:lh es m with
 |none =>
  rw [hj] at hf
  obtain⟨w',q1,q2,q3⟩:=cZ.Di (P:=P) hS bG p1 (entries':=entries.push { key:=eN m,val:=v,born:=clock }) (clock':=clock+1) (es':=es++[(eN m,b)]) (by simp [p2]) (fun i key a hi=>by
   by_cases c:i < es.length
   ·rw [List.getElem?_append_left c] at hi
    obtain⟨e,r1,r2,r3⟩:=p3 i key a hi
    exact⟨e,by rw [Array.getElem?_push_lt (by omega)];rw [Array.getElem?_eq_getElem (by omega)] at r1;exact r1,r2,r3⟩
   ·rw [List.getElem?_append_right (by omega)] at hi
    have KU:i=es.length:=by
     have:=(List.getElem?_eq_some_iff.1 hi).1
     simp at this;omega
    subst KU
    simp at hi
    obtain⟨rfl,rfl⟩:=hi
    exact⟨{ key:=eN m,val:=v,born:=clock },by rw [<-p2];simp,rfl,h3⟩)
  refine⟨undef,w',g,.inr ⟨?_,rfl⟩,.v,q2,q3⟩
  simp only [execOp,ho,e1,e2,hv,Instr.mapUpdate,Sem.run_bind,run_underlying ht,Result.andThen_ok,ko p1,run_checkKey wh,run_findKey wh hf,q1,Sem.run_pure]
 |some j =>
  obtain⟨a,ha⟩:=A1 hk hj
  obtain⟨e,r1,r2,r3⟩:=p3 j _ a ha
  rw [hj] at hf
  simp only [r1,Option.map_some] at hf
  have lZ:j < entries.size:=(Array.getElem?_eq_some_iff.1 r1).1
  obtain⟨w',q1,q2,q3⟩:=cZ.Di (P:=P) hS bG p1 (entries':=entries.modify j fun e=>{ e with key:=eN m,val:=v }) (clock':=clock) (es':=es.set j (eN m,b)) (by simp [p2]) (fun i key a' hi=>by
   rw [List.getElem?_set] at hi
   by_cases c:j=i
   ·subst c
    rw [if_pos rfl,if_pos (by omega)] at hi
    simp only [Option.some.injEq,Prod.mk.injEq] at hi
    obtain⟨rfl,rfl⟩:=hi
    exact⟨{ e with key:=eN m,val:=v },by rw [Array.getElem?_modify,if_pos rfl,r1];rfl,rfl,h3⟩
   ·rw [if_neg c] at hi
    obtain⟨e',s1,s2,s3⟩:=p3 i key a' hi
    exact⟨e',by rw [Array.getElem?_modify,if_neg c];exact s1,s2,s3⟩)
  refine⟨undef,w',g,.inr ⟨?_,rfl⟩,.v,q2,q3⟩
  have jI:(Instr.keyThatStays (((entries[j]?).map (·.key)).getD (eN m)) (eN m)).run P w=.ok (eN m) w:=by
   rw [r1]
   simp [Instr.keyThatStays,r2,Instr.sameBits,eN]
  simp only [execOp,ho,e1,e2,hv,Instr.mapUpdate,Sem.run_bind,run_underlying ht,Result.andThen_ok,ko p1,run_checkKey wh,run_findKey wh hf,jI,q1,Sem.run_pure]
end
inductive QO where
 |t (n:Nat)
 |c (a:AV)
def QO.ev (f:Nat->AV):QO->AV
 |.t n=>f n
 |.c a=>a
def qo:Operand->QO
 |.tmp t=>.t t
 |.const v=>.c (lift v)
 |.global g=>.c (.v (.pointer (some ⟨g,0,none⟩)))
 |.func f=>.c (.v (.func (.func f) #[] #[]))
theorem aU {α:AA}(x:Operand):(qo x).ev α.tm=α.ev x:=by cases x<;>rfl
inductive LK where
 |agg (n:Nat)
 |cell
inductive SK where
 |str
 |sl (n:Nat)
inductive BK where
 |b
 |s
 |o
inductive dz where
 |mv (x:QO)
 |pick (c a b:QO)
 |alloc (cs:List AV)
 |box (x:QO)
 |build (cs:List AV) (parts:List (Nat × Nat × QO))
 |rows (n:Nat) (rows:List (List AV)) (parts:List (Nat × QO))
 |load (k:LK) (x:QO)
 |store (n:Nat) (x b:QO)
 |bin (op:BinOp) (isB:BK) (x y:QO)
 |not (x:QO)
 |neg (x:QO)
 |conv (k:IntKind) (x:QO)
 |qf (x:QO)
 |wK (off:Nat) (x:QO)
 |field (k:LK) (off:Nat) (x:QO)
 |r_ (n:Nat) (x i:QO)
 |o6 (len n:Nat) (x i:QO)
 |vv (x i:QO)
 |mK (len n:Nat) (k:LK) (x i:QO)
 |slice (k:SK) (x:QO) (lo hi mx:Option QO)
 |extract (x:QO) (i:Nat)
 |jo (z:List AV) (by_:Nat) (l c:QO)
 |vw (x:QO)
 |qg (x:QO)
 |DW (f:Fn) (first cap:List QO)
 |wL (x:QO)
 |call (f:QO) (args:List QO)
 |len (str:Bool) (x:QO)
 |append (sz by_:Nat) (a b:QO)
 |min (x y:QO)
 |max (x y:QO)
 |NK (x:QO)
 |eZ (x:Option QO)
 |look (z:AV) (c:Bool) (x i:QO)
 |j6 (x i b:QO)
 |uZ (x:QO)
 |z6 (t:Nat) (x:QO)
 |eqs (t:Nat) (x y:QO)
 |del (x i:QO)
 |copy (sz:Nat) (a b:QO)
 |ti (z:List AV) (a:QO)
 |Lo (a:QO)
 |cap (a:QO)
 |Ax (z:List AV) (by_:Nat) (a m:QO)
 |eU (kt:Nat) (z:AV) (c:Bool) (x i:QO)
 |k_ (kt:Nat) (x i b:QO)
 |WA (z:AV) (x i:QO)
 |WB (x i b:QO)
 |assert (t:Nat) (c:Bool) (x:QO)
def eP (T:Tables) (t:TypeId):Option TypeDesc :=
 match T.info? t with
 |some { desc:=.named _ u,.. }=>(T.info? u).map (·.desc)
 |some i=>some i.desc
 |none=>none
def agT (T:Tables) (t:TypeId):Option Bool :=
 match eP T t with
 |some (.struct _)|some (.array _ _)=>some true
 |some _=>some false
 |none=>none
def pV (T:Tables) (t:TypeId):Option Nat:=(T.info? t).map (·.size)
def Tb (T:Tables) (t:TypeId):Option Nat:=(T.info? t).map (·.bytes)
def xG (T:Tables) (t:TypeId):Option Value:=(T.info? t).bind (·.zero)
def ED (T:Tables) (t:TypeId):Option TypeId:=match eP T t with|some (.slice e)=>some e|_=>none
def plT (T:Tables) (fs:Array Field) (i:Nat):Option (Nat × Nat) :=
 match fs[i]? with
 |some f=>match pV T f.type with|some n=>some (f.offset,n)|none=>none
 |none=>none
def EE (T:Tables) (t:TypeId):Option LK:=match agT T t,pV T t with
 |some true,some n=>some (.agg n)
 |some false,_=>some .cell
 |_,_=>none
section
variable {P:Program}
theorem b_ (t:TypeId):eP P.toTables t=P.underlying t:=rfl
theorem Yx (t:TypeId):agT P.toTables t=Hi P t:=rfl
theorem ec (t:TypeId):pV P.toTables t=cS P t:=rfl
theorem kI (t:TypeId):Tb P.toTables t=gm P t:=rfl
theorem gV (t:TypeId):xG P.toTables t=cY P t:=rfl
theorem jR (t:TypeId):ED P.toTables t=fJ P t:=rfl
theorem nY (fs:Array Field):plT P.toTables fs=Dd P fs:=rfl
end
def rf (k:LK) (row:List AV) (j:Nat):Option AV:=match k with
 |.agg n=>match Nat.ble (j+n) row.length with|true=>some (.agg (Hj row j n))|false=>none
 |.cell=>row[j]?
theorem vr {P:Program}{t:TypeId}{k:LK}(h:EE P.toTables t=some k) (row:List AV) (j:Nat):lS P t row j=rf k row j:=by
 unfold EE at h
 simp only [Yx,ec] at h
 unfold lS
 split at h
 ·rename_i n h1 h2;obtain rfl:=Option.some.inj h;rw [h1,h2];rfl
 ·rename_i h1;obtain rfl:=Option.some.inj h;rw [h1];rfl
 ·cases h
def lB (k:LK) (S:ae):AV->Option AV
 |.ip row=>rf k row 0
 |.pt b sz i j=>match S.get b with
  |some (.arr sz' rows _ _)=>match Nat.beq sz sz' with
   |true=>match rows[i]? with
    |some row=>rf k row j
    |none=>none
   |false=>none
  |_=>none
 |_=>none
theorem B7 {P:Program}{t:TypeId}{k:LK}(h:EE P.toTables t=some k) (S:ae) (a:AV):r7 P S t a=lB k S a:=by
 unfold r7 lB
 simp only [vr h]
 rfl
def EF (place:Nat->Option (Nat × Nat)):List (Nat × Operand)->Option (List (Nat × Nat × QO))
 |[]=>some []
 |(i,x)::rest=>match place i with
  |some (off,size)=>match EF place rest with
   |some l=>some ((off,size,qo x)::l)
   |none=>none
  |none=>none
def Cz (f:Nat->AV):List AV->List (Nat × Nat × QO)->Option (List AV)
 |cells,[]=>some cells
 |cells,(off,size,x)::rest=>match Nat.beq (a_ (x.ev f)).length size && Nat.ble (off+size) cells.length && (a_ (x.ev f)).all cn with
  |true=>Cz f (oy cells off (a_ (x.ev f))) rest
  |false=>none
theorem yz {α:AA}{place:Nat->Option (Nat × Nat)}:∀ {l:List (Nat × Operand)}{l':List (Nat × Nat × QO)}{cells:List AV},EF place l=some l' ->
  tU place cells (l.map fun (i,x)=>(i,α.ev x))=Cz α.tm cells l'
 |[],l',cells,h=>by obtain rfl:=Option.some.inj h;rfl
 |(i,x)::rest,l',cells,h=>by
  simp only [EF] at h
  split at h
  ·rename_i off size hp
   split at h
   ·rename_i l hl
    obtain rfl:=Option.some.inj h
    simp only [List.map_cons,tU,hp,Cz,aU]
    cases hc:(Nat.beq (a_ (α.ev x)).length size && Nat.ble (off+size) cells.length && (a_ (α.ev x)).all cn) with
    |true=>simp only [];rw [yz hl]
    |false=>rfl
   ·cases h
  ·cases h
def res (T:Tables):Op->Option dz
 |.move x=>some (.mv (qo x))
 |.assign x=>some (.mv (qo x))
 |.pick c a b=>some (.pick (qo c) (qo a) (qo b))
 |.alloc e=>match xG T e with
  |some z=>some (.alloc (z.cells.toList.map bV))
  |none=>none
 |.box _ x=>some (.box (qo x))
 |.build t parts=>match xG T t with
  |some (.agg cs)=>match eP T t with
   |some (.struct fs)=>match fs.toList.all fun f=>(pV T f.type).isSome with
    |true=>match EF (plT T fs) parts.toList with
     |some l=>some (.build (cs.toList.map bV) l)
     |none=>none
    |false=>none
   |some (.array _ e)=>match pV T e with
    |some n=>match EF (fun i=>some (i*n,n)) parts.toList with
     |some l=>some (.build (cs.toList.map bV) l)
     |none=>none
    |none=>none
   |_=>none
  |_=>none
 |.buildSlice t len parts=>match ED T t with
  |some e=>match xG T e,pV T e with
   |some z,some n=>match Nat.ble (len*n) 16777216 && Nat.beq z.cells.size n && Nat.blt 0 n with
    |true=>some (.rows n (List.replicate len (z.cells.toList.map bV)) (parts.toList.map fun (i,x)=>(i,qo x)))
    |false=>none
   |_,_=>none
  |none=>none
 |.load t x=>match EE T t with
  |some k=>some (.load k (qo x))
  |none=>none
 |.store t x b=>match pV T t with
  |some n=>some (.store n (qo x) (qo b))
  |none=>none
 |.binOp op t x y _=>match eP T t with
  |some .bool=>some (.bin op .b (qo x) (qo y))
  |some (.slice _)=>some (.bin op .s (qo x) (qo y))
  |some (.struct _)=>match op with
   |.eql=>some (.eqs t (qo x) (qo y))
   |_=>none
  |_=>some (.bin op .o (qo x) (qo y))
 |.unOp op _ x=>match op with
  |.not=>some (.not (qo x))
  |.neg=>some (.neg (qo x))
  |_=>none
 |.convert src dst x=>match eP T src,eP T dst with
  |some (.int _),some (.int k)=>some (.conv k (qo x))
  |some .string,some .string=>some (.qf (qo x))
  |some (.slice e),some .string=>match eP T e with
   |some (.int .u8)=>some (.NK (qo x))
   |_=>none
  |_,_=>none
 |.fieldAddr s x f=>match eP T s with
  |some (.struct fs)=>match fs[f]? with
   |some fd=>match pV T fd.type with
    |some (_+1)=>some (.wK fd.offset (qo x))
    |_=>none
   |none=>none
  |_=>none
 |.field t x f=>match eP T t with
  |some (.struct fs)=>match fs[f]? with
   |some fd=>match EE T fd.type with
    |some k=>some (.field k fd.offset (qo x))
    |none=>none
   |none=>none
  |_=>none
 |.indexAddr t x i=>match eP T t with
  |some (.slice e)=>match pV T e with
   |some n=>some (.r_ n (qo x) (qo i))
   |none=>none
  |some (.array len e)=>match pV T e with
   |some n=>some (.o6 len n (qo x) (qo i))
   |none=>none
  |_=>none
 |.index t x i=>match eP T t with
  |some .string=>some (.vv (qo x) (qo i))
  |some (.array len e)=>match pV T e,EE T e with
   |some n,some k=>some (.mK len n k (qo x) (qo i))
   |_,_=>none
  |_=>none
 |.slice t x lo hi mx=>match eP T t with
  |some .string=>some (.slice .str (qo x) (lo.map qo) (hi.map qo) (mx.map qo))
  |some (.slice e)=>match pV T e with
   |some n=>some (.slice (.sl n) (qo x) (lo.map qo) (hi.map qo) (mx.map qo))
   |none=>none
  |_=>none
 |.extract x i=>some (.extract (qo x) i)
 |.makeSlice t l c=>match ED T t with
  |some e=>match xG T e,pV T e,Tb T e with
   |some z,some sz,some by_=>match Nat.beq z.cells.size sz && Nat.blt 0 sz with
    |true=>some (.jo (z.cells.toList.map bV) by_ (qo l) (qo c))
    |false=>none
   |_,_,_=>none
  |none=>none
 |.range t x=>match eP T t with
  |some .string=>some (.vw (qo x))
  |_=>none
 |.next x isStr=>match isStr with
  |true=>some (.qg (qo x))
  |false=>none
 |.makeFunc f first cap=>some (.DW f (first.toList.map qo) (cap.toList.map qo))
 |.nilCheck x=>some (.wL (qo x))
 |.call c=>match c.callee with
  |.value f=>some (.call (qo f) (c.args.toList.map qo))
  |.builtin b=>match b,c.argTypes.toList,c.args.toList with
   |.len,[t],[x]=>match eP T t with
    |some (.slice _)=>some (.len false (qo x))
    |some .string=>some (.len true (qo x))
    |_=>none
   |.append,[t,t2],[a,b]=>match ED T t,ED T t2 with
    |some e,some _=>match xG T e,pV T e,Tb T e with
     |some z,some sz,some by_=>match Nat.beq z.cells.size sz && Nat.blt 0 by_ with
      |true=>some (.append sz by_ (qo a) (qo b))
      |false=>none
     |_,_,_=>none
    |some e,none=>match eP T t2 with
     |some (.int _)=>match xG T e,pV T e,Tb T e with
      |some z,some sz,some by_=>match Nat.beq z.cells.size sz && Nat.blt 0 by_ with
       |true=>some (.Ax (z.cells.toList.map bV) by_ (qo a) (qo b))
       |false=>none
      |_,_,_=>none
     |_=>none
    |none,_=>none
   |.delete,[t,_],[x,i]=>match eP T t with
    |some (.map kt _)=>match eP T kt with
     |some (.int _)=>some (.del (qo x) (qo i))
     |_=>none
    |_=>none
   |.copy,[t,t2],[a,b]=>match ED T t,ED T t2 with
    |some e,some _=>match pV T e with
     |some sz=>some (.copy sz (qo a) (qo b))
     |none=>none
    |_,_=>none
   |.clear,[t],[a]=>match eP T t with
    |some (.slice e)=>match xG T e with
     |some z=>some (.ti (z.cells.toList.map bV) (qo a))
     |none=>none
    |some (.map _ _)=>some (.Lo (qo a))
    |_=>none
   |.cap,[t],[a]=>match eP T t with
    |some (.slice _)=>some (.cap (qo a))
    |_=>none
   |.min,_,[x,y]=>some (.min (qo x) (qo y))
   |.max,_,[x,y]=>some (.max (qo x) (qo y))
   |_,_,_=>none
  |.invoke _ _=>none
 |.makeMap t r=>match eP T t with
  |some (.map _ _)=>some (.eZ (r.map qo))
  |_=>none
 |.lookup t x i c=>match eP T t with
  |some (.map kt et)=>match eP T kt,xG T et with
   |some (.int _),some z=>some (.look (lift z) c (qo x) (qo i))
   |some (.struct _),some z=>some (.eU kt (lift z) c (qo x) (qo i))
   |some .string,some z=>some (.eU kt (lift z) c (qo x) (qo i))
   |_,_=>none
  |_=>none
 |.mapUpdate t x i y=>match eP T t with
  |some (.map kt _)=>match eP T kt with
   |some (.int _)=>some (.j6 (qo x) (qo i) (qo y))
   |some (.struct _)=>some (.k_ kt (qo x) (qo i) (qo y))
   |some .string=>some (.k_ kt (qo x) (qo i) (qo y))
   |_=>none
  |_=>none
 |.mapEntry t x i=>match eP T t with
  |some (.map kt et)=>match eP T kt,xG T et with
   |some (.int _),some z=>some (.WA (lift z) (qo x) (qo i))
   |_,_=>none
  |_=>none
 |.entryStore t x i y=>match eP T t with
  |some (.map kt _)=>match eP T kt with
   |some (.int _)=>some (.WB (qo x) (qo i) (qo y))
   |_=>none
  |_=>none
 |.typeAssert x _ t c=>match eP T t with
  |some (.interface _)=>none
  |some _=>some (.assert t c (qo x))
  |none=>none
 |.panic x=>some (.uZ (qo x))
 |.makeInterface t x=>some (.z6 t (qo x))
 |_=>none
def ix (q:dz) (f:Nat->AV) (S:ae):Option (AV × ae) :=
 match q with
 |.mv x=>some (x.ev f,S)
 |.pick c a b=>match c.ev f with
  |.v (.bool true)=>some (a.ev f,S)
  |.v (.bool false)=>some (b.ev f,S)
  |_=>none
 |.alloc cs=>A0 S cs
 |.box x=>match (a_ (x.ev f)).all cn with
  |true=>A0 S (a_ (x.ev f))
  |false=>none
 |.build cs parts=>match Cz f cs parts with
  |some l=>some (.agg l,S)
  |none=>none
 |.rows n rows parts=>match tV n rows (parts.map fun (i,x)=>(i,x.ev f)) with
  |some rows=>some (.sl true rows,S)
  |none=>none
 |.load k x=>match lB k S (x.ev f) with
  |some a=>some (a,S)
  |none=>none
 |.store n x b=>match b.ev f,x.ev f with
  |bv,.pt k sz 0 j=>match S.get k with
   |some (.arr sz' [row] 0 ex)=>match Nat.beq sz sz' && (a_ bv).all cn && Nat.beq n (a_ bv).length with
    |true=>match Nat.ble (j+(a_ bv).length) row.length with
     |true=>match S with|⟨g,x⟩=>some (.v undef,⟨bP g k (some (.arr sz [oy row j (a_ bv)] 0 ex)),x⟩)
     |false=>none
    |false=>none
   |_=>none
  |_,_=>none
 |.not x=>match x.ev f with
  |.v (.bool true)=>some (.v (.bool false),S)
  |.v (.bool false)=>some (.v (.bool true),S)
  |_=>none
 |.wK off x=>match x.ev f with
  |.ip row=>some (.ip (row.drop off),S)
  |.pt k sz i j=>some (.pt k sz i (j+off),S)
  |_=>none
 |.field k off x=>match x.ev f with
  |.agg l=>match rf k l off with
   |some a=>some (a,S)
   |none=>none
  |_=>none
 |.extract x i=>match x.ev f with
  |.bc l=>match l[i]? with
   |some a=>some (a,S)
   |none=>none
  |_=>none
 |.DW g first cap=>some (.fn g (first.map (·.ev f)) (cap.map (·.ev f)),S)
 |.wL x=>match x.ev f with
  |.ip c=>some (.ip c,S)
  |.pt k sz i j=>some (.pt k sz i j,S)
  |_=>none
 |_=>none
def Hs (op:BinOp) (isB:BK):AV->AV->Option Bool
 |.v (.int k a),.v (.int k' b)=>match decide (k=k') with
  |true=>match op with
   |.eql=>some (a == b)
   |.neq=>some (a != b)
   |.lss=>some (decide (a < b))
   |.leq=>some (decide (a<=b))
   |.gtr=>some (decide (a > b))
   |.geq=>some (decide (a>=b))
   |_=>none
  |false=>none
 |.v (.string a),.v (.string b)=>match op with
  |.eql=>some (a.toList == b.toList)
  |.neq=>some (!(a.toList == b.toList))
  |.lss=>some (Op.bytesLess a.toList b.toList)
  |.leq=>some (Op.bytesLess a.toList b.toList || a.toList == b.toList)
  |.gtr=>some (!(Op.bytesLess a.toList b.toList || a.toList == b.toList))
  |.geq=>some (!Op.bytesLess a.toList b.toList)
  |_=>none
 |.v (.bool a),.v (.bool b)=>match isB,op with
  |.b,.eql=>some (a == b)
  |.b,.neq=>some (!(a == b))
  |_,_=>none
 |_,_=>none
section
variable {P:Program}{w0:World}{n:Nat}{o:Op}{α:AA}{S S':ae}{r:AV}{q:dz}{K:AV->ae->Prop}
theorem pn (hr:res P.toTables o=some q) (h:ix q α.tm S=some (r,S')):bm P w0 o α S (qQ r S'):=by
 have e:∀ {a:AV}{T:ae},some (a,T)=some (r,S')->a=r/\T=S':=fun h=>by injection h with h;injection h with h1 h2;exact⟨h1,h2⟩
 have e2:∀ {q:AV × ae},some q=some (r,S')->q.1=r/\q.2=S':=fun h=>by injection h with h;subst h;exact⟨rfl,rfl⟩
 have key:∀ {T:Program->Op->AA->ae->Option (AV × ae)},pU P o α S=some (r,S')->bm P w0 o α S (qQ r S'):=fun h=>Mf h
 cases o with
 |move x=>obtain rfl:=Option.some.inj hr;rw [ix,aU] at h;exact e h
 |assign x=>obtain rfl:=Option.some.inj hr;rw [ix,aU] at h;exact e h
 |pick c a b =>
  obtain rfl:=Option.some.inj hr
  simp only [ix,aU] at h
  simp only [bm]
  split at h
  ·rename_i hc;rw [hc];exact e h
  ·rename_i hc;rw [hc];exact e h
  ·cases h
 |alloc t =>
  simp only [res,b_,ec,kI,gV,jR,nY] at hr
  split at hr
  ·rename_i z hz
   obtain rfl:=Option.some.inj hr
   simp only [ix] at h
   simp only [bm,hz];rw [oH] at h;exact e2 h
  ·cases hr
 |box t x =>
  obtain rfl:=Option.some.inj hr
  simp only [ix,aU] at h
  simp only [bm]
  split at h
  ·rename_i hx;rw [hx];rw [oH] at h;exact e2 h
  ·cases h
 |build t parts =>
  simp only [res,b_,ec,kI,gV,jR,nY] at hr
  split at hr
  ·rename_i cs hz
   split at hr
   ·rename_i fs hu
    split at hr
    ·rename_i lx
     split at hr
     ·rename_i l hl
      obtain rfl:=Option.some.inj hr
      simp only [ix] at h
      simp only [bm,qS,hz,hu,lx,yz hl]
      split at h
      ·rename_i l' nB;simp only [nB,Option.map_some];exact e h
      ·cases h
     ·cases hr
    ·cases hr
   ·rename_i le el hu
    split at hr
    ·rename_i m hm
     split at hr
     ·rename_i l hl
      obtain rfl:=Option.some.inj hr
      simp only [ix] at h
      simp only [bm,qS,hz,hu,hm,yz hl]
      split at h
      ·rename_i l' nB;simp only [nB,Option.map_some];exact e h
      ·cases h
     ·cases hr
    ·cases hr
   ·cases hr
  ·cases hr
 |buildSlice t len parts =>
  simp only [res,b_,ec,kI,gV,jR,nY] at hr
  split at hr
  ·rename_i el he
   split at hr
   ·rename_i z m hz hs
    split at hr
    ·rename_i hb
     obtain rfl:=Option.some.inj hr
     have hm:(parts.toList.map fun (i,x)=>(i,qo x)).map (fun (i,x)=>(i,QO.ev α.tm x))=parts.toList.map fun (i,x)=>(i,α.ev x):=by
      rw [List.map_map]
      apply List.map_congr_left
      rintro⟨i,x⟩ _
      simp [aU]
     simp only [ix] at h
     rw [hm] at h
     simp only [bm,he,hz,hs,hb]
     split at h
     ·rename_i rows hrw
      simp only [hrw]
      exact e h
     ·cases h
    ·cases hr
   ·cases hr
  ·cases hr
 |load t x =>
  simp only [res,b_,ec,kI,gV,jR,nY] at hr
  split at hr
  ·rename_i k hk
   obtain rfl:=Option.some.inj hr
   simp only [ix,aU] at h
   simp only [bm]
   split at h
   ·rename_i z hz;rw [<-B7 hk] at hz;exact bp.mk hz (e h)
   ·cases h
  ·cases hr
 |store t x b =>
  simp only [res,b_,ec,kI,gV,jR,nY] at hr
  split at hr
  ·rename_i m hm
   obtain rfl:=Option.some.inj hr
   simp only [ix,aU] at h
   have hs:wc P S t (α.ev b) (α.ev x)=some S'/\AV.v undef=r:=by
    split at h
    ·rename_i k sz j hb
     unfold wc
     rw [hb]
     split at h
     ·rename_i sz' row ex hk
      split at h
      ·rename_i hc
       split at h
       ·rename_i hl
        simp only [hk,hm,hc,hl,pk]
        obtain⟨h1,h2⟩:=e h
        exact⟨by rw [<-h2],h1⟩
       ·cases h
      ·cases h
     ·cases h
    ·cases h
   simp only [bm]
   exact bp.mk (we hs.1) ⟨hs.2,rfl⟩
  ·cases hr
 |unOp op t x =>
  simp only [res,b_,ec,kI,gV,jR,nY] at hr
  split at hr
  ·obtain rfl:=Option.some.inj hr
   simp only [ix,aU] at h
   simp only [bm]
   split at h
   ·rename_i hc;rw [hc];exact e h
   ·rename_i hc;rw [hc];exact e h
   ·cases h
  ·obtain rfl:=Option.some.inj hr
   cases h
  ·cases hr
 |fieldAddr s x f =>
  simp only [res,b_,ec,kI,gV,jR,nY] at hr
  split at hr
  ·rename_i fs hu
   split at hr
   ·rename_i fd hf
    split at hr
    ·rename_i m hm
     obtain rfl:=Option.some.inj hr
     simp only [ix,aU] at h
     simp only [bm,hu,hf,hm]
     split at h
     ·rename_i row hx;simp only [hx];exact e h
     ·rename_i k sz i j hx;simp only [hx];exact e h
     ·cases h
    ·cases hr
   ·cases hr
  ·cases hr
 |field t x f =>
  simp only [res,b_,ec,kI,gV,jR,nY] at hr
  split at hr
  ·rename_i fs hu
   split at hr
   ·rename_i fd hf
    split at hr
    ·rename_i k hk
     obtain rfl:=Option.some.inj hr
     simp only [ix,aU] at h
     simp only [bm,hu,hf]
     split at h
     ·rename_i l hx
      simp only [hx]
      split at h
      ·rename_i a ha;rw [<-vr hk] at ha;exact bp.mk ha (e h)
      ·cases h
     ·cases h
    ·cases hr
   ·cases hr
  ·cases hr
 |extract x i =>
  obtain rfl:=Option.some.inj hr
  simp only [ix,aU] at h
  simp only [bm]
  split at h
  ·rename_i l hx
   split at h
   ·rename_i a ha;simp only [hx,ha];exact e h
   ·cases h
  ·cases h
 |makeFunc f first cap =>
  obtain rfl:=Option.some.inj hr
  simp only [ix,List.map_map] at h
  have hm:∀ l:List Operand,l.map ((·.ev α.tm) ∘ qo)=l.map α.ev:=fun l=>List.map_congr_left fun x _=>aU x
  rw [hm,hm] at h
  exact e h
 |nilCheck x =>
  obtain rfl:=Option.some.inj hr
  simp only [ix,aU] at h
  simp only [bm]
  split at h
  ·rename_i c hx;rw [hx];exact e h
  ·rename_i c hx;rw [hx];exact e h
  ·cases h
 |_ =>
  simp only [res,b_,ec,kI,gV,jR,nY] at hr
  repeat' split at hr
  all_goals first|(obtain rfl:=Option.some.inj hr;cases h)|cases hr
end
end Go.Proofs.YtgphljokbodciaaGreat
