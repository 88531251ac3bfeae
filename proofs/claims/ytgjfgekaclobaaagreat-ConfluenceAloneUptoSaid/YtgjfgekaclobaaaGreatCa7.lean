import Derived.Test.YtgjfgekaclobaaaGreatCa6
namespace Go.Proofs.YtgjfgekaclobaaaGreat
set_option linter.unusedVariables false
set_option linter.unusedSimpArgs false
open Go.RowKit
section
variable {P:Program}{w0:World}{rd:Bool}{n:Nat}{α:AA}{S S':ad}{ops:Array Oper}
def y7 (acc:List Nat) (o:Oper):Nat:=o.after.toList.foldl (fun s e=>if Region.binds .any e then s ||| (2 ^ e.on ||| acc.getD e.on 0) else s) 0
def beforeL (acc:List Nat):List Oper->List Nat
 |[]=>acc
 |o::os=>beforeL (acc++[y7 acc o]) os
def oa (k:Nat):List Oper->Bool
 |[]=>true
 |o::os=>o.after.toList.all (fun e=>!Region.binds .any e || Nat.blt e.on k) && oa (k+1) os
def y8 (ops:Array Oper) (m:List Nat) (y:Nat):Nat->Bool
 |0=>true
 |x+1=>((m.getD y 0).testBit x || sA ops x y) && y8 ops m y x
def vS (ops:Array Oper) (m:List Nat):Nat->Bool
 |0=>true
 |y+1=>y8 ops m y y && vS ops m y
def AU (ops:Array Oper):Bool:=oa 0 ops.toList && vS ops (beforeL [] ops.toList) ops.size
theorem Ig {acc:List Nat}{o:Oper}{x:Nat}(h:(y7 acc o).testBit x=true):∃ e ∈ o.after.toList,Region.binds .any e=true/\(x=e.on\/(acc.getD e.on 0).testBit x=true):=by
 have key:∀ (l:List Edge) (s:Nat),(l.foldl (fun s e=>if Region.binds .any e then s ||| (2 ^ e.on ||| acc.getD e.on 0) else s) s).testBit x=true->s.testBit x=true\/∃ e ∈ l,Region.binds .any e=true/\(x=e.on\/(acc.getD e.on 0).testBit x=true):=by
  intro l
  induction l with
  |nil=>exact fun s h=>.inl h
  |cons e l ih =>
   intro s h
   rw [List.foldl_cons] at h
   rcases ih _ h with h1|⟨e',he',h1⟩
   ·by_cases hb:Region.binds .any e=true
    ·rw [if_pos hb,Nat.testBit_or,Nat.testBit_or,Bool.or_eq_true,Bool.or_eq_true] at h1
     rcases h1 with h1|h1|h1
     ·exact .inl h1
     ·rw [Nat.testBit_two_pow] at h1
      exact .inr ⟨e,by simp,hb,.inl (by simpa using h1:e.on=x).symm⟩
     ·exact .inr ⟨e,by simp,hb,.inr h1⟩
    ·rw [if_neg hb] at h1
     exact .inl h1
   ·exact .inr ⟨e',by simp [he'],h1⟩
 rcases key _ 0 h with h1|h1
 ·simp at h1
 ·exact h1
theorem zS:∀ {os:List Oper}{acc:List Nat}{i:Nat}{o:Oper},os[i]?=some o->∃ dE,(beforeL acc os).getD (acc.length+i) 0=y7 dE o/\(∀ j,j < acc.length+i->dE.getD j 0=(beforeL acc os).getD j 0)/\dE.length=acc.length+i
 |[],acc,i,o,h=>by simp at h
 |p::os,acc,i,o,h=>by
  have a7:∀ (os:List Oper) (acc:List Nat) (j:Nat),j < acc.length->(beforeL acc os).getD j 0=acc.getD j 0:=by
   intro os
   induction os with
   |nil=>intro acc j hj;rfl
   |cons p os ih =>
    intro acc j hj
    rw [beforeL,ih _ _ (by simp;omega)]
    simp [List.getElem?_append_left hj]
  cases i with
  |zero =>
   simp at h
   subst h
   refine⟨acc,?_,fun j hj=>?_,rfl⟩
   ·rw [beforeL,a7 _ _ _ (by simp)]
    simp
   ·rw [beforeL,a7 _ _ _ (by simp at hj ⊢;omega)]
    simp [List.getElem?_append_left (show j < acc.length by simpa using hj)]
  |succ i =>
   simp at h
   obtain⟨dE,h1,h2,h3⟩:=zS (acc:=acc++[y7 acc p]) h
   simp only [List.length_append,List.length_cons,List.length_nil] at h1 h2 h3
   refine⟨dE,?_,fun j hj=>?_,by omega⟩
   ·rw [beforeL,show acc.length+(i+1)=acc.length+(0+1)+i by omega]
    exact h1
   ·rw [beforeL]
    exact h2 j (by omega)
theorem yv:∀ {os:List Oper}{k i:Nat}{o:Oper},oa k os=true->os[i]?=some o->∀ e ∈ o.after.toList,Region.binds .any e=true->e.on < k+i
 |[],k,i,o,_,h=>by simp at h
 |p::os,k,i,o,hk,h=>by
  simp only [oa,Bool.and_eq_true] at hk
  cases i with
  |zero =>
   simp at h
   subst h
   intro e he hb
   have:=List.all_eq_true.1 hk.1 e he
   rw [hb] at this
   simp at this
   omega
  |succ i =>
   simp at h
   intro e he hb
   have:=yv hk.2 h e he hb
   omega
structure vG (ops:Array Oper) (bM:Array Bool):Prop where
 size:bM.size=ops.size
 closed:∀ y x,bM.getD y false=true->((beforeL [] ops.toList).getD y 0).testBit x=true->bM.getD x false=true
theorem EL {bM:Array Bool}{i:Nat}(hl:bM.size=ops.size) (h:i ∈ Region.ready .any ops bM):∃ o,ops[i]?=some o/\i < ops.size/\bM.getD i false=false/\∀ e ∈ o.after.toList,Region.binds .any e=true->bM.getD e.on false=true:=by
 unfold Region.ready at h
 rw [List.mem_filter] at h
 obtain⟨h1,h2⟩:=h
 have h1:i < ops.size:=by simpa using h1
 simp only [Bool.and_eq_true] at h2
 have hi:ops[i]?=some ops[i]:=Array.getElem?_eq_getElem h1
 rw [hi] at h2
 simp only [Option.map_some,Option.getD_some] at h2
 refine⟨_,hi,h1,?_,fun e he hb=>?_⟩
 ·have h3:=h2.1
  have aA:i < bM.size:=by omega
  simp only [Array.getD_eq_getD_getElem?,Array.getElem?_eq_getElem aA,Option.getD_some] at h3 ⊢
  simpa using h3
 ·have:=Array.all_eq_true'.1 h2.2 e (by simpa using he)
  rw [hb] at this
  simpa using this
theorem EM (he:oa 0 ops.toList=true) {y x:Nat}{o:Oper}(hy:ops[y]?=some o) (h:((beforeL [] ops.toList).getD y 0).testBit x=true):∃ e ∈ o.after.toList,Region.binds .any e=true/\(x=e.on\/((beforeL [] ops.toList).getD e.on 0).testBit x=true):=by
 have OE:ops.toList[y]?=some o:=by rw [Array.getElem?_toList];exact hy
 obtain⟨dE,h1,h2,h3⟩:=zS (acc:=[]) OE
 simp only [List.length_nil,Nat.zero_add] at h1 h2
 rw [h1] at h
 obtain⟨e,hm,hb,h4⟩:=Ig h
 refine⟨e,hm,hb,h4.imp id fun h5=>?_⟩
 have aA:=yv he OE e hm hb
 rw [h2 e.on (by omega)] at h5
 exact h5
theorem AR {bM:Array Bool}{i j:Nat}(hi:i < bM.size):(bM.setIfInBounds i true).getD j false=if j=i then true else bM.getD j false:=by
 simp only [Array.getD_eq_getD_getElem?,Array.getElem?_setIfInBounds]
 by_cases c:i=j
 ·subst c;simp [hi]
 ·simp [c,Ne.symm c]
theorem vG.step (he:oa 0 ops.toList=true) {bM:Array Bool}{i:Nat}(hd:vG ops bM) (h:i ∈ Region.ready .any ops bM):vG ops (bM.setIfInBounds i true):=by
 obtain⟨o,hi,aA,hu,hr⟩:=EL hd.size h
 refine⟨by simp [hd.size],fun y x hy hb=>?_⟩
 rw [AR (by rw [hd.size];exact aA)] at hy ⊢
 by_cases c:y=i
 ·subst c
  obtain⟨e,hm,eg,h4⟩:=EM he hi hb
  have h5:=hr e hm eg
  rcases h4 with rfl|h4
  ·rw [h5];simp
  ·rw [hd.closed e.on x h5 h4];simp
 ·rw [if_neg c] at hy
  rw [hd.closed y x hy hb]
  simp
theorem oO (he:oa 0 ops.toList=true):∀ (fuel t:Nat) (bM:Array Bool),vG ops bM ->
  (∀ i ∈ Region.linearise.go .any ops fuel t bM [],i < ops.size/\bM.getD i false=false)/\(Region.linearise.go .any ops fuel t bM []).Nodup /\
  (Region.linearise.go .any ops fuel t bM []).Pairwise (fun y x=>((beforeL [] ops.toList).getD y 0).testBit x=false) /\
  ((∃ i,i < ops.size/\bM.getD i false=false/\i ∉ Region.linearise.go .any ops fuel t bM [])->(Region.linearise.go .any ops fuel t bM []).length=fuel):=by
 intro fuel
 induction fuel with
 |zero=>intro t bM hd;exact⟨fun i hi=>by simp [Region.linearise.go] at hi,by simp [Region.linearise.go],by simp [Region.linearise.go],fun _=>by simp [Region.linearise.go]⟩
 |succ fuel ih =>
  intro t bM hd
  have e:Region.linearise.go .any ops (fuel+1) t bM []=match (Region.ready .any ops bM)[t % (Region.ready .any ops bM).length]? with
   |some i=>Region.linearise.go .any ops fuel (t / (Region.ready .any ops bM).length) (bM.setIfInBounds i true) [i]
   |none=>[]:=by
   simp only [Region.linearise.go]
   rfl
  rw [e]
  cases hi:(Region.ready .any ops bM)[t % (Region.ready .any ops bM).length]? with
  |none =>
   refine⟨fun i h=>by simp at h,by simp,by simp,fun ⟨i,h1,h2,_⟩=>?_⟩
   exfalso
   have vf:Region.ready .any ops bM=[]:=by
    cases hr:Region.ready .any ops bM with
    |nil=>rfl
    |cons x xs =>
     rw [hr] at hi
     have aA:t % (x::xs).length < (x::xs).length:=Nat.mod_lt _ (by simp)
     simp at hi
     simp at aA
     omega
   have least:∀ k,(∀ j,j < k->j < ops.size->bM.getD j false=true)->k < ops.size->bM.getD k false=false->False:=by
    intro k hk Wn hku
    have:k ∈ Region.ready .any ops bM:=by
     unfold Region.ready
     rw [List.mem_filter]
     refine⟨by simpa using Wn,?_⟩
     have aA:k < bM.size:=by rw [hd.size];exact Wn
     rw [Array.getElem?_eq_getElem Wn]
     simp only [Option.map_some,Option.getD_some,Bool.and_eq_true]
     refine⟨?_,?_⟩
     ·simp only [Array.getD_eq_getD_getElem?,Array.getElem?_eq_getElem aA,Option.getD_some] at hku ⊢
      simpa using hku
     ·rw [Array.all_eq_true']
      intro ed hed
      cases hb:Region.binds .any ed with
      |false=>rfl
      |true =>
       have:=yv (k:=0) (i:=k) he (by rw [Array.getElem?_toList];exact Array.getElem?_eq_getElem Wn) ed (by simpa using hed) hb
       simp only [Bool.not_true,Bool.false_or]
       exact hk ed.on (by omega) (by omega)
    rw [vf] at this
    cases this
   have all:∀ k,k<=ops.size->∀ j,j < k->j < ops.size->bM.getD j false=true:=by
    intro k
    induction k with
    |zero=>intro _ j hj;omega
    |succ k ihk =>
     intro hk j hj xy
     by_cases c:j < k
     ·exact ihk (by omega) j c xy
     ·have Pd:j=k:=by omega
      subst Pd
      cases hl:bM.getD j false with
      |true=>rfl
      |false=>exact (least j (ihk (by omega)) xy hl).elim
   have:=all ops.size (Nat.le_refl _) i h1 h1
   rw [h2] at this
   cases this
  |some i =>
   have fp:=List.mem_of_getElem? hi
   obtain⟨o,hio,aA,hu,hr⟩:=EL hd.size fp
   have hd':=hd.step he fp
   obtain⟨f1,f2,f3,f4⟩:=ih (t / (Region.ready .any ops bM).length) _ hd'
   simp only
   rw [linearise_go_acc,List.reverse_singleton,List.singleton_append]
   have hls:i < bM.size:=by rw [hd.size];exact aA
   have As:∀ j ∈ Region.linearise.go .any ops fuel (t / (Region.ready .any ops bM).length) (bM.setIfInBounds i true) [],j ≠ i/\bM.getD j false=false:=by
    intro j hj
    have:=(f1 j hj).2
    rw [AR hls] at this
    split at this
    ·cases this
    ·rename_i c;exact⟨c,this⟩
   refine⟨fun j hj=>?_,?_,?_,fun ⟨k,h1,h2,h3⟩=>?_⟩
   ·rcases List.mem_cons.1 hj with rfl|hj
    ·exact⟨aA,hu⟩
    ·exact⟨(f1 j hj).1,(As j hj).2⟩
   ·rw [List.nodup_cons]
    exact⟨fun h=>(As i h).1 rfl,f2⟩
   ·rw [List.pairwise_cons]
    refine⟨fun x hx=>?_,f3⟩
    cases hb:((beforeL [] ops.toList).getD i 0).testBit x with
    |false=>rfl
    |true =>
     obtain⟨ed,hm,eg,h4⟩:=EM he hio hb
     have h5:=hr ed hm eg
     have h6:=(As x hx).2
     rcases h4 with rfl|h4
     ·rw [h5] at h6;cases h6
     ·rw [hd.closed ed.on x h5 h4] at h6;cases h6
   ·rw [List.length_cons,f4 ⟨k,h1,?_,fun h=>h3 (by simp [h])⟩]
    rw [AR hls,if_neg (fun e=>h3 (by simp [e]))]
    exact h2
theorem zT {m:List Nat}{y:Nat}:∀ {k x:Nat},y8 ops m y k=true->x < k->(m.getD y 0).testBit x=true\/sA ops x y=true
 |0,x,_,h=>by omega
 |k+1,x,hp,h=>by
  simp only [y8,Bool.and_eq_true,Bool.or_eq_true] at hp
  by_cases c:x=k
  ·subst c;exact hp.1
  ·exact zT hp.2 (by omega)
theorem yw {m:List Nat}:∀ {k x y:Nat},vS ops m k=true->y < k->x < y->(m.getD y 0).testBit x=true\/sA ops x y=true
 |0,x,y,_,h,_=>by omega
 |k+1,x,y,hp,h,hx=>by
  simp only [vS,Bool.and_eq_true] at hp
  by_cases c:y=k
  ·subst c;exact zT hp.1 hx
  ·exact yw hp.2 (by omega) hx
theorem yc:∀ (l:List Nat),l.Nodup->∀ m,(∀ y ∈ l,y < m)->l.length<=m:=by
 intro l hn m
 induction m generalizing l with
 |zero=>intro h;cases l with
  |nil=>simp
  |cons a l=>have:=h a (by simp);omega
 |succ m ih =>
  intro h
  by_cases c:m ∈ l
  ·have h1:=ih (l.erase m) (hn.erase m) (fun y hy=>by
    have h2:=h y (List.mem_of_mem_erase hy)
    have h3:y ≠ m:=fun e=>by rw [e] at hy;exact hn.not_mem_erase hy
    omega)
   rw [List.length_erase_of_mem c] at h1
   omega
  ·have h1:=ih l hn (fun y hy=>by
    have h2:=h y hy
    have h3:y ≠ m:=fun e=>c (e ▸ hy)
    omega)
   omega
theorem cu.draw {id:Nat}{aw:AA}(hm:P.follows .mixedOrders=true) (lN:AU ops=true) (h:o4 P w0 n ops (List.range ops.size) α S aw S'):cu P w0 rd n (.region id ops true) α S .normal aw S':=by
 intro F m A g a w hF hR hS hA
 simp only [AU,Bool.and_eq_true] at lN
 obtain⟨he,hp⟩:=lN
 refine wpIn_region_draw fun t=>?_
 simp only [Region.schedule,hm,Bool.true_or,if_true]
 have hd:vG ops (Array.replicate ops.size false):=⟨by simp,fun y x hy=>by
  simp only [Array.getD_eq_getD_getElem?,Array.getElem?_replicate] at hy
  split at hy<;>simp at hy⟩
 obtain⟨f1,f2,f3,f4⟩:=oO he ops.size t _ hd
 have me:∀ x,x ∈ Region.linearise .any ops t ↔ x ∈ List.range ops.size:=by
  intro x
  refine⟨fun hx=>by simpa using (f1 x hx).1,fun hx=>?_⟩
  have hx:x < ops.size:=by simpa using hx
  by_cases c:x ∈ Region.linearise .any ops t
  ·exact c
  ·exfalso
   have hl:=f4 ⟨x,hx,by simp [Array.getD_eq_getD_getElem?,Array.getElem?_replicate,hx],c⟩
   have o9:(x::Region.linearise.go .any ops ops.size t (Array.replicate ops.size false) []).Nodup:=by
    rw [List.nodup_cons];exact⟨c,f2⟩
   have hlen:=yc (x::Region.linearise.go .any ops ops.size t (Array.replicate ops.size false) []) o9 ops.size (fun y hy=>by
    rcases List.mem_cons.1 hy with rfl|hy
    ·exact hx
    ·exact (f1 y hy).1)
   rw [List.length_cons,hl] at hlen
   omega
 have hL:(Region.linearise .any ops t).Pairwise (fun y x=>x < y->sA ops x y=true):=by
  refine List.Pairwise.imp_of_mem ?_ f3
  intro y x hy hx hb jG
  rcases yw hp (f1 y hy).1 jG with h1|h1
  ·rw [hb] at h1;cases h1
  ·exact h1
 have hC:(List.range ops.size).Pairwise (· < ·):=List.pairwise_lt_range
 obtain⟨hE,eT⟩:=hS.drew
 have eT:St w0 A g S { w with drawn:=w.drawn+1 }:=eT
 refine (o4.perm hC hL me f2 h).yb F m A g a _ _ hF eT (hA.later hE.toLater) fun a' w' g' h1 h2 h3=>⟨rfl,g',h1,h2,hE.trans h3⟩
end
section
variable {P:Program}{w0:World}{rd:Bool}{n:Nat}{o:Oper}{α:AA}{S S':ad}{r:AV}{ops:Array Oper}
def AX (P:Program) (w0:World) (K:AV->ad->Prop) (S:ad) (args:List AV):AV->Prop
 |.v (.func (.func g) first cap)=>match first.toList,cap.toList with
  |[],[]=>∃ r,aK P w0 g args S r S/\K r S
  |_,_=>False
 |.fn (.func g) first cap=>∃ r,aK P w0 g (first++args++cap) S r S/\K r S
 |_=>False
def gm (P:Program) (w0:World) (o:Op) (α:AA) (S:ad) (K:AV->ad->Prop):Prop :=
 match o with
 |.call c=>match c.callee with
  |.value f=>AX P w0 K S (c.args.toList.map α.ev) (α.ev f)
  |_=>aX P w0 (.call c) α S K
 |o=>aX P w0 o α S K
theorem TG {op:Op}{K:AV->ad->Prop}(hp:lX op=false) (hw:wv op=false) (h:gm P w0 op α S K):∃ r,K r S/\aX P w0 op α S (rB r S):=by
 cases op with
 |load t x =>
  simp only [gm,aX,aZ] at h ⊢
  split at h
  ·exact⟨_,h,⟨rfl,rfl⟩⟩
  ·exact h.elim
 |call c =>
  simp only [wv] at hw
  simp only [gm] at h
  split at h
  ·rename_i f hc
   unfold AX at h
   simp only [aX,hc]
   split at h
   ·rename_i g first cap hf
    split at h
    ·rename_i e1 e2
     obtain⟨r,h1,h2⟩:=h
     refine⟨r,h2,?_⟩
     rw [hf]
     simp only [yD,e1,e2]
     exact⟨r,S,h1,rfl,rfl⟩
    ·exact h.elim
   ·rename_i g first cap hf
    obtain⟨r,h1,h2⟩:=h
    refine⟨r,h2,?_⟩
    rw [hf]
    exact⟨r,S,h1,rfl,rfl⟩
   ·exact h.elim
  ·rename_i hc
   cases hb:c.callee with
   |value f=>exact absurd hb (hc f)
   |builtin b=>rw [hb] at hw;simp only [lX,hb] at hp;cases b<;>simp at hw hp
   |invoke x m=>rw [hb] at hw;cases hw
 |_=>simp [wv,hp,lX] at hw hp
theorem ER {op:Op}{K:AV->ad->Prop}(h:gm P w0 op α S K):aX P w0 op α S K:=by
 cases op with
 |call c =>
  simp only [gm] at h
  split at h
  ·rename_i f hc
   unfold AX at h
   simp only [aX,hc]
   split at h
   ·rename_i g first cap hf
    split at h
    ·rename_i e1 e2
     obtain⟨r,h1,h2⟩:=h
     rw [hf]
     simp only [yD,e1,e2]
     exact⟨r,S,h1,h2⟩
    ·exact h.elim
   ·rename_i g first cap hf
    obtain⟨r,h1,h2⟩:=h
    rw [hf]
    exact⟨r,S,h1,h2⟩
   ·exact h.elim
  ·exact h
 |_=>exact h
theorem kL {α:AA}{S:ad}{K:AV->ad->Prop}(h:aX P w0 o.op α S K):∃ r S',ef P w0 n o (α.only (cB o)) S r S'/\K r S' :=
 wz (P7 (β:=α.only (cB o)) (fun x hx=>(ew fun t e=>ee (by rw [<-e];exact hx)).symm) h)
theorem ag3 {i:Nat}{K:AV->ad->Prop}(hi:ops[i]?=some o) (hd:(match o.dst with|some d=>Nat.blt d n|none=>true)=true) (hg:o.guard=none\/∃ j want,o.guard=some (j,want)/\nU ops α j=some (some want)) (h:gm P w0 o.op α S K) :
  ∃ r S',GS P w0 n ops i α S (α.put o.dst r) S'/\K r S':=by
 cases hp:lX o.op with
 |true =>
  obtain⟨r,h1,h2⟩:=TE hp (ER h)
  have h3:∀ T,ef P w0 n o (α.only (cB o)) T r T:=fun T=>by
   obtain⟨r',S',h4,rfl,rfl⟩:=kL (n:=n) (h2 T)
   exact h4
  exact⟨r,S,⟨o,hi,hd,.inr ⟨hg,r,rfl,h3 S,fun _=>⟨rfl,h3⟩,fun _=>rfl⟩⟩,h1⟩
 |false =>
  cases hw:wv o.op with
  |false =>
   obtain⟨r,h1,h2⟩:=TG hp hw h
   obtain⟨r',S',h4,rfl,rfl⟩:=kL (n:=n) h2
   exact⟨r',S',⟨o,hi,hd,.inr ⟨hg,r',rfl,h4,fun h=>(by rw [hp] at h;cases h),fun _=>rfl⟩⟩,h1⟩
  |true =>
   obtain⟨r,S',h1,h2⟩:=kL (n:=n) (ER h)
   exact⟨r,S',⟨o,hi,hd,.inr ⟨hg,r,rfl,h1,fun h=>(by rw [hp] at h;cases h),fun h=>(by rw [hw] at h;cases h)⟩⟩,h2⟩
end
def AA.has (α:AA):List (Nat × AV)->Prop
 |[]=>True
 |p::l=>α.tm p.1=p.2/\α.has l
theorem wrap64 {c:Int}(h1:-9223372036854775808<=c) (h2:c<=9223372036854775807):IntKind.i64.wrap c=c:=by
 unfold IntKind.wrap
 simp [IntKind.bits,IntKind.signed]
 omega
theorem XI {α β:Type}{l:List α}{f:α->β}{i:Int}{k:Nat}{x:α}(hi:i=(k:Int)) (h:l[k]?=some x):idx (l.map f) i=some (f x):=by
 subst hi
 exact XZ (by simp [h])
def iv (i:Int):AV:=.v (.int .i64 i)
def cM (i:Int):List AV:=[iv i]
def dm:List AV->Prop
 |[]=>True
 |a::l=>Pure a/\dm l
theorem dm.all:∀ {l:List AV},dm l->∀ a ∈ l,Pure a
 |[],_,a,h=>by cases h
 |b::l,hp,a,h=>by
  rcases List.mem_cons.1 h with rfl|h
  ·exact hp.1
  ·exact dm.all hp.2 a h
def fH (S:ad):List AV->List AV->Prop
 |[],[]=>True
 |a::l,a'::l'=>bp S a a'/\fH S l l'
 |_,_=>False
theorem fH.len {S:ad}:∀ {l l':List AV},fH S l l'->l.length=l'.length
 |[],[],_=>rfl
 |a::l,a'::l',h=>by simp [fH.len h.2]
 |[],_::_,h=>h.elim
 |_::_,[],h=>h.elim
theorem fH.at {S:ad}:∀ {l l':List AV},fH S l l'->∀ (i:Nat) (a a':AV),l[i]?=some a->l'[i]?=some a'->bp S a a'
 |[],[],_,i,a,a',h,_=>by simp at h
 |b::l,b'::l',h,i,a,a',h1,h2=>by
  cases i with
  |zero=>simp at h1 h2;subst h1 h2;exact h.1
  |succ i=>simp at h1 h2;exact fH.at h.2 i a a' h1 h2
 |[],_::_,h,_,_,_,_,_=>h.elim
 |_::_,[],h,_,_,_,_,_=>h.elim
theorem fH.refl (S:ad):∀ (l:List AV),fH S l l
 |[]=>trivial
 |a::l=>⟨.refl a,fH.refl S l⟩
section
variable {P:Program}{w0:World}{f:FuncId}{args ec:List AV}{r:AV}
theorem ah.zW (h:ah P w0 f args r) (hp:dm args) (S:ad):aK P w0 f args S r S:=h.A3 hp.all S
theorem ah.Ff (h:ah P w0 f args r) (hp:dm args) (hs:rH r) {S:ad}(hf:fH S ec args):aK P w0 f ec S r S:=h.QU hp.all hs S hf.len hf.at
end
section
variable {S:ad}
theorem bp.wk {ex:Bool}{rows:List (List AV)}:bp S (.sl ex rows) (.sl false rows) :=
 .sl rfl (fun i r r' h1 h2=>by rw [h1] at h2;rw [oJ_ h2]) (fun i j r r' a a' h1 h2 h3 h4=>by
  rw [h1] at h2
  obtain rfl:=oJ_ h2
  rw [h3] at h4
  obtain rfl:=oJ_ h4
  exact .refl _)
theorem bp.fns {f:Fn}{l l' m m':List AV}(h1:fH S l l') (h2:fH S m m'):bp S (.fn f l m) (.fn f l' m'):=.fn h1.len h2.len h1.at h2.at
theorem bp.box {k:Nat}{cs cs':List AV}(h:S.get k=some (.arr cs.length [cs] 0 true)) (hf:fH S cs cs'):bp S (.pt k cs.length 0 0) (.ip cs') :=
 .pt h rfl (by rw [hf.len];exact Nat.le_refl _) (fun q a a' h1 h2=>by rw [Nat.zero_add] at h1;exact hf.at q a a' h1 h2)
end
def P9 {β:Type}(r:AV) (k:AV->β):β:=match r with
 |.u=>k .u
 |.v x=>k (.v x)
 |.agg l=>k (.agg l)
 |.aE l=>k (.aE l)
 |.sl e l=>k (.sl e l)
 |.ip l=>k (.ip l)
 |.ob a b c d e=>k (.ob a b c d e)
 |.pt a b c d=>k (.pt a b c d)
 |.mp a=>k (.mp a)
 |.fn a b c=>k (.fn a b c)
 |.yl a=>k (.yl a)
 |.gr a b c=>k (.gr a b c)
theorem P_ {β:Type}{r:AV}{k:AV->β}:P9 r k=k r:=by cases r<;>rfl
def mD {β:Type}:List AV->(List AV->β)->β
 |[],k=>k []
 |a::l,k=>P9 a fun a=>mD l fun l=>k (a::l)
theorem qc {β:Type}:∀ {l:List AV}{k:List AV->β},mD l k=k l
 |[],k=>rfl
 |a::l,k=>by rw [mD,P_,qc]
def ag4 {β:Type}(r:AV) (k:AV->β):β:=match r with
 |.u=>k .u
 |.v x=>k (.v x)
 |.agg l=>mD l fun l=>k (.agg l)
 |.aE l=>mD l fun l=>k (.aE l)
 |.sl e l=>k (.sl e l)
 |.ip l=>mD l fun l=>k (.ip l)
 |.ob a b c d e=>k (.ob a b c d e)
 |.pt a b c d=>k (.pt a b c d)
 |.mp a=>k (.mp a)
 |.fn a b c=>mD b fun b=>mD c fun c=>k (.fn a b c)
 |.yl a=>k (.yl a)
 |.gr a b c=>k (.gr a b c)
def Ck {β:Type}:List (List AV)->(List (List AV)->β)->β
 |[],k=>k []
 |a::l,k=>mD a fun a=>Ck l fun l=>k (a::l)
theorem EN {β:Type}:∀ {l:List (List AV)}{k:List (List AV)->β},Ck l k=k l
 |[],k=>rfl
 |a::l,k=>by rw [Ck,qc,EN]
def Ds (S:ad) (cs:List AV):Option (AV × ad):=mD cs fun cs=>match S with|⟨g,x⟩=>some (.pt x cs.length 0 0,⟨a8 g x (some (.arr cs.length [cs] 0 true)),x+1⟩)
theorem py {S:ad}{cs:List AV}:Ds S cs=some (jh S cs):=by
 unfold Ds
 rw [qc]
 rfl
def yx (P:Program) (S:ad) (t:TypeId) (b:AV):AV->Option ad
 |.pt k sz 0 j=>match S.get k with
  |some (.arr sz' [row] 0 ex)=>match Nat.beq sz sz' && (aP b).all bQ && (match cP P t with|some m=>Nat.beq m (aP b).length|none=>false) with
   |true=>match Nat.ble (j+(aP b).length) row.length with
    |true=>mD (lJ row j (aP b)) fun aV=>match S with|⟨g,x⟩=>some ⟨a8 g k (some (.arr sz [aV] 0 ex)),x⟩
    |false=>none
   |false=>none
  |_=>none
 |_=>none
theorem yy {P:Program}{S S':ad}{t:TypeId}{b x:AV}(h:yx P S t b x=some S'):lu P S t b x=some S':=by
 unfold yx at h
 split at h
 ·rename_i k sz j
  split at h
  ·rename_i sz' row ex hk
   split at h
   ·rename_i hc
    split at h
    ·rename_i hl
     rw [qc] at h
     simp only [lu,hk]
     split
     ·simp only [List.getElem?_cons_zero,hl]
      exact h
     ·rename_i dv
      have:true=false:=hc.symm.trans dv
      cases this
    ·cases h
   ·cases h
  ·cases h
 ·cases h
def qI (P:Program) (o:Op) (α:AA) (S:ad):Option (AV × ad) :=
 match o with
 |.move x=>some (α.ev x,S)
 |.assign x=>some (α.ev x,S)
 |.pick c a b=>match α.ev c with
  |.v (.bool true)=>some (α.ev a,S)
  |.v (.bool false)=>some (α.ev b,S)
  |_=>none
 |.alloc e=>match cU P e with
  |some z=>Ds S (z.cells.toList.map bJ)
  |none=>none
 |.box _ x=>match (aP (α.ev x)).all bQ with
  |true=>Ds S (aP (α.ev x))
  |false=>none
 |.build t parts=>match rP P t (parts.toList.map fun (i,x)=>(i,α.ev x)) with
  |some a=>some (a,S)
  |none=>none
 |.load t x=>match sW P S t (α.ev x) with
  |some a=>some (a,S)
  |none=>none
 |.buildSlice t len parts=>match fJ P t with
  |some e=>match cU P e,cP P e with
   |some z,some m=>match Nat.ble (len*m) 16777216 && Nat.beq z.cells.size m && Nat.blt 0 m with
    |true=>match qP m (List.replicate len (z.cells.toList.map bJ)) (parts.toList.map fun (i,x)=>(i,α.ev x)) with
     |some rows=>Ck rows fun rows=>some (.sl true rows,S)
     |none=>none
    |false=>none
   |_,_=>none
  |none=>none
 |.store t x b=>match yx P S t (α.ev b) (α.ev x) with
  |some S'=>some (.v undef,S')
  |none=>none
 |.unOp op _ x=>match op,α.ev x with
  |.not,.v (.bool true)=>some (.v (.bool false),S)
  |.not,.v (.bool false)=>some (.v (.bool true),S)
  |_,_=>none
 |.fieldAddr s x f=>match P.underlying s with
  |some (.struct fs)=>match fs[f]? with
   |some fd=>match cP P fd.type with
    |some (_+1)=>match α.ev x with
     |.ip row=>some (.ip (row.drop fd.offset),S)
     |.pt k sz i j=>some (.pt k sz i (j+fd.offset),S)
     |_=>none
    |_=>none
   |none=>none
  |_=>none
 |.field t x f=>match P.underlying t with
  |some (.struct fs)=>match fs[f]? with
   |some fd=>match α.ev x with
    |.agg l=>match mL P fd.type l fd.offset with
     |some a=>some (a,S)
     |none=>none
    |_=>none
   |none=>none
  |_=>none
 |.extract x i=>match α.ev x with
  |.aE l=>match l[i]? with
   |some a=>some (a,S)
   |none=>none
  |_=>none
 |.makeFunc f first cap=>some (.fn f (first.toList.map α.ev) (cap.toList.map α.ev),S)
 |.nilCheck x=>match α.ev x with
  |.ip c=>some (.ip c,S)
  |.pt k sz i j=>some (.pt k sz i j,S)
  |_=>none
 |.call c=>match c.callee,c.argTypes.toList,c.args.toList with
  |.builtin .len,[t],[x]=>match lenOf P t (α.ev x) with
   |some m=>some (.v (.int .i64 (m:Int)),S)
   |none=>none
  |_,_,_=>none
 |_=>none
section
variable {P:Program}{w0:World}{rd:Bool}{n:Nat}{o:Op}{α:AA}{S S':ad}{r:AV}
theorem Qa (h:qI P o α S=some (r,S')):aX P w0 o α S (rB r S'):=by
 have e:∀ {a:AV}{T:ad},some (a,T)=some (r,S')->a=r/\T=S':=fun h=>by injection h with h;injection h with h1 h2;exact⟨h1,h2⟩
 have e2:∀ {q:AV × ad},some q=some (r,S')->q.1=r/\q.2=S':=fun h=>by injection h with h;subst h;exact⟨rfl,rfl⟩
 cases o with
 |move x=>exact e h
 |assign x=>exact e h
 |pick c a b =>
  simp only [qI] at h
  simp only [aX]
  split at h
  ·rename_i hc;rw [hc];exact e h
  ·rename_i hc;rw [hc];exact e h
  ·cases h
 |alloc t =>
  simp only [qI] at h
  simp only [aX]
  split at h
  ·rename_i z hz;rw [hz];rw [py] at h;exact e2 h
  ·cases h
 |box t x =>
  simp only [qI] at h
  simp only [aX]
  split at h
  ·rename_i hx;rw [hx];rw [py] at h;exact e2 h
  ·cases h
 |buildSlice t len parts =>
  simp only [qI] at h
  simp only [aX]
  split at h
  ·rename_i el he
   split at h
   ·rename_i z m hz hs
    split at h
    ·rename_i hb
     split at h
     ·rename_i rows hr
      rw [EN] at h
      simp only [he,hz,hs,hb,hr]
      exact e h
     ·cases h
    ·cases h
   ·cases h
  ·cases h
 |build t parts =>
  simp only [qI] at h
  simp only [aX]
  split at h
  ·rename_i z hz;rw [hz];exact e h
  ·cases h
 |load t x =>
  simp only [qI] at h
  simp only [aX]
  split at h
  ·rename_i z hz;exact aZ.mk hz (e h)
  ·cases h
 |store t x b =>
  simp only [qI] at h
  simp only [aX]
  split at h
  ·rename_i z hz;exact aZ.mk (yy hz) (e h)
  ·cases h
 |unOp op t x =>
  simp only [qI] at h
  simp only [aX]
  split at h
  ·rename_i hc;rw [hc];exact e h
  ·rename_i hc;rw [hc];exact e h
  ·cases h
 |fieldAddr s x f =>
  simp only [qI] at h
  simp only [aX]
  split at h
  ·rename_i fs hu
   split at h
   ·rename_i fd hf
    split at h
    ·rename_i m hs
     split at h
     ·rename_i row hx;simp only [hu,hf,hs,hx];exact e h
     ·rename_i k sz i j hx;simp only [hu,hf,hs,hx];exact e h
     ·cases h
    ·cases h
   ·cases h
  ·cases h
 |field t x f =>
  simp only [qI] at h
  simp only [aX]
  split at h
  ·rename_i fs hu
   split at h
   ·rename_i fd hf
    split at h
    ·rename_i l hx
     split at h
     ·rename_i a ha;simp only [hu,hf,hx];exact aZ.mk ha (e h)
     ·cases h
    ·cases h
   ·cases h
  ·cases h
 |extract x i =>
  simp only [qI] at h
  simp only [aX]
  split at h
  ·rename_i l hx
   split at h
   ·rename_i a ha;simp only [hx,ha];exact e h
   ·cases h
  ·cases h
 |makeFunc f first cap=>exact e h
 |nilCheck x =>
  simp only [qI] at h
  simp only [aX]
  split at h
  ·rename_i c hx;rw [hx];exact e h
  ·rename_i k sz i j hx;rw [hx];exact e h
  ·cases h
 |call c =>
  simp only [qI] at h
  simp only [aX]
  split at h
  ·rename_i t x hc ht hx
   split at h
   ·rename_i m hm
    rw [hc,ht,hx]
    exact aZ.mk hm (e h)
   ·cases h
  ·cases h
 |_=>cases h
def ig (ops:List Oper) (α:AA) (o:Oper):Option Bool :=
 match o.guard with
 |none=>some true
 |some (j,want)=>match TD ops α j with
  |some (some true)=>some want
  |some (some false)=>some (!want)
  |some none=>some false
  |none=>none
def rA (d:Option Tmp) (α:AA) (r:AV):AA:=match d with|some d=>⟨a8 α.tm d r,α.df⟩|none=>α
def E5 (P:Program) (n:Nat) (ops:List Oper):List Oper->AA->ad->List Oper × AA × ad
 |[],α,S=>([],α,S)
 |o::rest,α,S=>match nv n o.dst with
  |true=>match ig ops α o with
   |some true=>match qI P o.op α S with
    |some (r,S')=>ag4 r fun r=>E5 P n ops rest (rA o.dst α r) S'
    |none=>(o::rest,α,S)
   |some false=>E5 P n ops rest (rA o.dst α (.v undef)) S
   |none=>(o::rest,α,S)
  |false=>(o::rest,α,S)
end
section
variable {P:Program}{w0:World}{rd:Bool}{n:Nat}{o:Oper}{α:AA}{S S':ad}{r:AV}{ops l rest:List Oper}{Q:AA->ad->Prop}
theorem qZ {d:Option Tmp}:rA d α r=α.put d r:=by cases d<;>rfl
def wu (P:Program) (w0:World) (n:Nat) (ops l:List Oper) (Q:AA->ad->Prop) (α:AA) (S:ad):Prop :=
 ∀ k,ops.drop k=l->∃ aw S',qd P w0 n ops.toArray (List.range' k l.length) α S aw S'/\Q aw S'
theorem drop_cons {k:Nat}(h:ops.drop k=o::rest):ops.toArray[k]?=some o/\ops.drop (k+1)=rest:=by
 refine⟨?_,?_⟩
 ·have:=congrArg (·[0]?) h
  simpa using this
 ·rw [<-List.drop_drop,h];rfl
theorem wu.nil (h:Q α S):wu P w0 n ops [] Q α S:=fun k _=>⟨α,S,fun F m A g a w Q hF hS hA hQ=>hQ a w g hS hA (Ext.refl ..),h⟩
theorem od (h:ig ops α o=some true):o.guard=none\/∃ j want,o.guard=some (j,want)/\nU ops.toArray α j=some (some want):=by
 unfold ig at h
 split at h
 ·rename_i hg;exact .inl hg
 ·rename_i j want hg
  have e:=wC (ops:=ops.toArray) (α:=α) (j:=j)
  split at h
  ·rename_i hy
   obtain rfl:=oJ_ h
   exact .inr ⟨j,_,hg,by rw [<-e];exact hy⟩
  ·rename_i hy
   cases want
   ·exact .inr ⟨j,_,hg,by rw [<-e];exact hy⟩
   ·cases h
  ·cases h
  ·cases h
theorem zh (h:ig ops α o=some false):∃ (j:Nat) (want:Bool) (b:Option Bool),o.guard=some (j,want)/\nU ops.toArray α j=some b/\b ≠ some want:=by
 unfold ig at h
 split at h
 ·cases h
 ·rename_i j want hg
  have e:=wC (ops:=ops.toArray) (α:=α) (j:=j)
  split at h
  ·rename_i hy
   obtain rfl:=oJ_ h
   exact⟨j,_,_,hg,by rw [<-e];exact hy,by simp⟩
  ·rename_i hy
   cases want
   ·cases h
   ·exact⟨j,_,_,hg,by rw [<-e];exact hy,by simp⟩
  ·rename_i hy
   exact⟨j,_,_,hg,by rw [<-e];exact hy,by simp⟩
  ·cases h
theorem wu.op (hd:nv n o.dst=true) (hw:ig ops α o=some true) (h:aX P w0 o.op α S (rB r S')) (k:wu P w0 n ops rest Q (rA o.dst α r) S'):wu P w0 n ops (o::rest) Q α S:=by
 intro i hi
 obtain⟨h1,h2⟩:=drop_cons hi
 obtain⟨r1,S1,h3,rfl,rfl⟩:=wz (n:=n) h
 obtain⟨aw,T,h4,h5⟩:=k (i+1) h2
 rw [qZ] at h4
 refine⟨aw,T,?_,h5⟩
 refine qd.step h1 hd (fun g w a hA=>?_) h3 h4
 rcases od hw with hg|⟨j,want,hg,hy⟩
 ·simp [Region.wanted,hg]
 ·simp [Region.wanted,hg,oe hA hy]
def kJ (P:Program) (w0:World) (n:Nat) (ops l:List Oper) (Q:AA->ad->Prop) (α:AA) (S:ad):Prop :=
 ∀ k,ops.drop k=l->∃ aw S',o4 P w0 n ops.toArray (List.range' k l.length) α S aw S'/\Q aw S'
theorem kJ.nil (h:Q α S):kJ P w0 n ops [] Q α S:=fun k _=>⟨α,S,.nil α S,h⟩
theorem kJ.op (hd:nv n o.dst=true) (hw:ig ops α o=some true) (h:gm P w0 o.op α S (rB r S')) (k:kJ P w0 n ops rest Q (rA o.dst α r) S'):kJ P w0 n ops (o::rest) Q α S:=by
 intro i hi
 obtain⟨h1,h2⟩:=drop_cons hi
 obtain⟨r1,S1,h3,rfl,rfl⟩:=ag3 (n:=n) h1 hd (od hw) h
 obtain⟨aw,T,h4,h5⟩:=k (i+1) h2
 rw [qZ] at h4
 exact⟨aw,T,.cons h3 h4,h5⟩
theorem kJ.skip (hd:nv n o.dst=true) (hw:ig ops α o=some false) (k:kJ P w0 n ops rest Q (rA o.dst α (.v undef)) S):kJ P w0 n ops (o::rest) Q α S:=by
 intro i hi
 obtain⟨h1,h2⟩:=drop_cons hi
 obtain⟨aw,T,h4,h5⟩:=k (i+1) h2
 rw [qZ] at h4
 obtain⟨j,want,b,hg,hy,a_⟩:=zh hw
 exact⟨aw,T,.cons ⟨o,h1,hd,.inl ⟨j,want,b,hg,hy,a_,rfl,rfl⟩⟩ h4,h5⟩
end
end Go.Proofs.YtgjfgekaclobaaaGreat
