import Derived.Test.YtgjfgekaclobaaaGreatCm9
namespace Go.Proofs.YtgjfgekaclobaaaGreat
set_option linter.unusedVariables false
set_option linter.unusedSimpArgs false
open Go.RowKit
section
variable {P:Program}{w0:World}{rd:Bool}{n:Nat}{α:AA}{S S':aa}{ops:Array Oper}
def uz (acc:List Nat) (o:Oper):Nat:=o.after.toList.foldl (fun s e=>if Region.binds .any e then s ||| (2 ^ e.on ||| acc.getD e.on 0) else s) 0
def beforeL (acc:List Nat):List Oper->List Nat
 |[]=>acc
 |o::os=>beforeL (acc++[uz acc o]) os
def lN (k:Nat):List Oper->Bool
 |[]=>true
 |o::os=>o.after.toList.all (fun e=>!Region.binds .any e || Nat.blt e.on k) && lN (k+1) os
def uC (ops:Array Oper) (m:List Nat) (y:Nat):Nat->Bool
 |0=>true
 |x+1=>((m.getD y 0).testBit x || oE ops x y) && uC ops m y x
def q8 (ops:Array Oper) (m:List Nat):Nat->Bool
 |0=>true
 |y+1=>uC ops m y y && q8 ops m y
def w6 (ops:Array Oper):Bool:=lN 0 ops.toList && q8 ops (beforeL [] ops.toList) ops.size
theorem Dg {acc:List Nat}{o:Oper}{x:Nat}(h:(uz acc o).testBit x=true):∃ e ∈ o.after.toList,Region.binds .any e=true/\(x=e.on\/(acc.getD e.on 0).testBit x=true):=by
 have key:∀ (l:List Edge) (s:Nat),(l.foldl (fun s e=>if Region.binds .any e then s ||| (2 ^ e.on ||| acc.getD e.on 0) else s) s).testBit x=true->s.testBit x=true\/∃ e ∈ l,Region.binds .any e=true/\(x=e.on\/(acc.getD e.on 0).testBit x=true):=by
  intro l
  induction l with
  |nil=>exact fun s h=>.inl h
  |cons e l ih =>
   intro s h
   rw [List.foldl_cons] at h
   rcases ih _ h with h1|⟨e',he',h1⟩
   ·by_cases hb:Region.binds .any e=true
    ·rw [if_pos hb,Nat.testBit_or,Nat.testBit_or,Bool.or_eq_true,Bool.or_eq_true] at h1
     rcases h1 with h1|h1|h1
     ·exact .inl h1
     ·rw [Nat.testBit_two_pow] at h1
      exact .inr ⟨e,by simp,hb,.inl (by simpa using h1:e.on=x).symm⟩
     ·exact .inr ⟨e,by simp,hb,.inr h1⟩
    ·rw [if_neg hb] at h1
     exact .inl h1
   ·exact .inr ⟨e',by simp [he'],h1⟩
 rcases key _ 0 h with h1|h1
 ·simp at h1
 ·exact h1
theorem vi:∀ {os:List Oper}{acc:List Nat}{i:Nat}{o:Oper},os[i]?=some o->∃ dk,(beforeL acc os).getD (acc.length+i) 0=uz dk o/\(∀ j,j < acc.length+i->dk.getD j 0=(beforeL acc os).getD j 0)/\dk.length=acc.length+i
 |[],acc,i,o,h=>by simp at h
 |p::os,acc,i,o,h=>by
  have cD:∀ (os:List Oper) (acc:List Nat) (j:Nat),j < acc.length->(beforeL acc os).getD j 0=acc.getD j 0:=by
   intro os
   induction os with
   |nil=>intro acc j hj;rfl
   |cons p os ih =>
    intro acc j hj
    rw [beforeL,ih _ _ (by simp;omega)]
    simp [List.getElem?_append_left hj]
  cases i with
  |zero =>
   simp at h
   subst h
   refine⟨acc,?_,fun j hj=>?_,rfl⟩
   ·rw [beforeL,cD _ _ _ (by simp)]
    simp
   ·rw [beforeL,cD _ _ _ (by simp at hj ⊢;omega)]
    simp [List.getElem?_append_left (show j < acc.length by simpa using hj)]
  |succ i =>
   simp at h
   obtain⟨dk,h1,h2,h3⟩:=vi (acc:=acc++[uz acc p]) h
   simp only [List.length_append,List.length_cons,List.length_nil] at h1 h2 h3
   refine⟨dk,?_,fun j hj=>?_,by omega⟩
   ·rw [beforeL,show acc.length+(i+1)=acc.length+(0+1)+i by omega]
    exact h1
   ·rw [beforeL]
    exact h2 j (by omega)
theorem sE:∀ {os:List Oper}{k i:Nat}{o:Oper},lN k os=true->os[i]?=some o->∀ e ∈ o.after.toList,Region.binds .any e=true->e.on < k+i
 |[],k,i,o,_,h=>by simp at h
 |p::os,k,i,o,hk,h=>by
  simp only [lN,Bool.and_eq_true] at hk
  cases i with
  |zero =>
   simp at h
   subst h
   intro e he hb
   have:=List.all_eq_true.1 hk.1 e he
   rw [hb] at this
   simp at this
   omega
  |succ i =>
   simp at h
   intro e he hb
   have:=sE hk.2 h e he hb
   omega
structure q9 (ops:Array Oper) (bc:Array Bool):Prop where
 size:bc.size=ops.size
 closed:∀ y x,bc.getD y false=true->((beforeL [] ops.toList).getD y 0).testBit x=true->bc.getD x false=true
theorem zl {bc:Array Bool}{i:Nat}(hl:bc.size=ops.size) (h:i ∈ Region.ready .any ops bc):∃ o,ops[i]?=some o/\i < ops.size/\bc.getD i false=false/\∀ e ∈ o.after.toList,Region.binds .any e=true->bc.getD e.on false=true:=by
 unfold Region.ready at h
 rw [List.mem_filter] at h
 obtain⟨h1,h2⟩:=h
 have h1:i < ops.size:=by simpa using h1
 simp only [Bool.and_eq_true] at h2
 have hi:ops[i]?=some ops[i]:=Array.getElem?_eq_getElem h1
 rw [hi] at h2
 simp only [Option.map_some,Option.getD_some] at h2
 refine⟨_,hi,h1,?_,fun e he hb=>?_⟩
 ·have h3:=h2.1
  have aB:i < bc.size:=by omega
  simp only [Array.getD_eq_getD_getElem?,Array.getElem?_eq_getElem aB,Option.getD_some] at h3 ⊢
  simpa using h3
 ·have:=Array.all_eq_true'.1 h2.2 e (by simpa using he)
  rw [hb] at this
  simpa using this
theorem zm (he:lN 0 ops.toList=true) {y x:Nat}{o:Oper}(hy:ops[y]?=some o) (h:((beforeL [] ops.toList).getD y 0).testBit x=true):∃ e ∈ o.after.toList,Region.binds .any e=true/\(x=e.on\/((beforeL [] ops.toList).getD e.on 0).testBit x=true):=by
 have YT:ops.toList[y]?=some o:=by rw [Array.getElem?_toList];exact hy
 obtain⟨dk,h1,h2,h3⟩:=vi (acc:=[]) YT
 simp only [List.length_nil,Nat.zero_add] at h1 h2
 rw [h1] at h
 obtain⟨e,hm,hb,h4⟩:=Dg h
 refine⟨e,hm,hb,h4.imp id fun h5=>?_⟩
 have aB:=sE he YT e hm hb
 rw [h2 e.on (by omega)] at h5
 exact h5
theorem vR {bc:Array Bool}{i j:Nat}(hi:i < bc.size):(bc.setIfInBounds i true).getD j false=if j=i then true else bc.getD j false:=by
 simp only [Array.getD_eq_getD_getElem?,Array.getElem?_setIfInBounds]
 by_cases c:i=j
 ·subst c;simp [hi]
 ·simp [c,Ne.symm c]
theorem q9.step (he:lN 0 ops.toList=true) {bc:Array Bool}{i:Nat}(hd:q9 ops bc) (h:i ∈ Region.ready .any ops bc):q9 ops (bc.setIfInBounds i true):=by
 obtain⟨o,hi,aB,hu,hr⟩:=zl hd.size h
 refine⟨by simp [hd.size],fun y x hy hb=>?_⟩
 rw [vR (by rw [hd.size];exact aB)] at hy ⊢
 by_cases c:y=i
 ·subst c
  obtain⟨e,hm,dF,h4⟩:=zm he hi hb
  have h5:=hr e hm dF
  rcases h4 with rfl|h4
  ·rw [h5];simp
  ·rw [hd.closed e.on x h5 h4];simp
 ·rw [if_neg c] at hy
  rw [hd.closed y x hy hb]
  simp
theorem lY (he:lN 0 ops.toList=true):∀ (fuel t:Nat) (bc:Array Bool),q9 ops bc ->
  (∀ i ∈ Region.linearise.go .any ops fuel t bc [],i < ops.size/\bc.getD i false=false)/\(Region.linearise.go .any ops fuel t bc []).Nodup /\
  (Region.linearise.go .any ops fuel t bc []).Pairwise (fun y x=>((beforeL [] ops.toList).getD y 0).testBit x=false) /\
  ((∃ i,i < ops.size/\bc.getD i false=false/\i ∉ Region.linearise.go .any ops fuel t bc [])->(Region.linearise.go .any ops fuel t bc []).length=fuel):=by
 intro fuel
 induction fuel with
 |zero=>intro t bc hd;exact⟨fun i hi=>by simp [Region.linearise.go] at hi,by simp [Region.linearise.go],by simp [Region.linearise.go],fun _=>by simp [Region.linearise.go]⟩
 |succ fuel ih =>
  intro t bc hd
  have e:Region.linearise.go .any ops (fuel+1) t bc []=match (Region.ready .any ops bc)[t % (Region.ready .any ops bc).length]? with
   |some i=>Region.linearise.go .any ops fuel (t / (Region.ready .any ops bc).length) (bc.setIfInBounds i true) [i]
   |none=>[]:=by
   simp only [Region.linearise.go]
   rfl
  rw [e]
  cases hi:(Region.ready .any ops bc)[t % (Region.ready .any ops bc).length]? with
  |none =>
   refine⟨fun i h=>by simp at h,by simp,by simp,fun ⟨i,h1,h2,_⟩=>?_⟩
   exfalso
   have KB:Region.ready .any ops bc=[]:=by
    cases hr:Region.ready .any ops bc with
    |nil=>rfl
    |cons x xs =>
     rw [hr] at hi
     have aB:t % (x::xs).length < (x::xs).length:=Nat.mod_lt _ (by simp)
     simp at hi
     simp at aB
     omega
   have least:∀ k,(∀ j,j < k->j < ops.size->bc.getD j false=true)->k < ops.size->bc.getD k false=false->False:=by
    intro k hk Nk YU
    have:k ∈ Region.ready .any ops bc:=by
     unfold Region.ready
     rw [List.mem_filter]
     refine⟨by simpa using Nk,?_⟩
     have aB:k < bc.size:=by rw [hd.size];exact Nk
     rw [Array.getElem?_eq_getElem Nk]
     simp only [Option.map_some,Option.getD_some,Bool.and_eq_true]
     refine⟨?_,?_⟩
     ·simp only [Array.getD_eq_getD_getElem?,Array.getElem?_eq_getElem aB,Option.getD_some] at YU ⊢
      simpa using YU
     ·rw [Array.all_eq_true']
      intro ed hed
      cases hb:Region.binds .any ed with
      |false=>rfl
      |true =>
       have:=sE (k:=0) (i:=k) he (by rw [Array.getElem?_toList];exact Array.getElem?_eq_getElem Nk) ed (by simpa using hed) hb
       simp only [Bool.not_true,Bool.false_or]
       exact hk ed.on (by omega) (by omega)
    rw [KB] at this
    cases this
   have all:∀ k,k<=ops.size->∀ j,j < k->j < ops.size->bc.getD j false=true:=by
    intro k
    induction k with
    |zero=>intro _ j hj;omega
    |succ k YV =>
     intro hk j hj sF
     by_cases c:j < k
     ·exact YV (by omega) j c sF
     ·have IU:j=k:=by omega
      subst IU
      cases hl:bc.getD j false with
      |true=>rfl
      |false=>exact (least j (YV (by omega)) sF hl).elim
   have:=all ops.size (Nat.le_refl _) i h1 h1
   rw [h2] at this
   cases this
  |some i =>
   have fI:=List.mem_of_getElem? hi
   obtain⟨o,hio,aB,hu,hr⟩:=zl hd.size fI
   have hd':=hd.step he fI
   obtain⟨f1,f2,f3,f4⟩:=ih (t / (Region.ready .any ops bc).length) _ hd'
   simp only
   rw [linearise_go_acc,List.reverse_singleton,List.singleton_append]
   have YW:i < bc.size:=by rw [hd.size];exact aB
   have vS:∀ j ∈ Region.linearise.go .any ops fuel (t / (Region.ready .any ops bc).length) (bc.setIfInBounds i true) [],j ≠ i/\bc.getD j false=false:=by
    intro j hj
    have:=(f1 j hj).2
    rw [vR YW] at this
    split at this
    ·cases this
    ·rename_i c;exact⟨c,this⟩
   refine⟨fun j hj=>?_,?_,?_,fun ⟨k,h1,h2,h3⟩=>?_⟩
   ·rcases List.mem_cons.1 hj with rfl|hj
    ·exact⟨aB,hu⟩
    ·exact⟨(f1 j hj).1,(vS j hj).2⟩
   ·rw [List.nodup_cons]
    exact⟨fun h=>(vS i h).1 rfl,f2⟩
   ·rw [List.pairwise_cons]
    refine⟨fun x hx=>?_,f3⟩
    cases hb:((beforeL [] ops.toList).getD i 0).testBit x with
    |false=>rfl
    |true =>
     obtain⟨ed,hm,dF,h4⟩:=zm he hio hb
     have h5:=hr ed hm dF
     have h6:=(vS x hx).2
     rcases h4 with rfl|h4
     ·rw [h5] at h6;cases h6
     ·rw [hd.closed ed.on x h5 h4] at h6;cases h6
   ·rw [List.length_cons,f4 ⟨k,h1,?_,fun h=>h3 (by simp [h])⟩]
    rw [vR YW,if_neg (fun e=>h3 (by simp [e]))]
    exact h2
theorem vj {m:List Nat}{y:Nat}:∀ {k x:Nat},uC ops m y k=true->x < k->(m.getD y 0).testBit x=true\/oE ops x y=true
 |0,x,_,h=>by omega
 |k+1,x,hp,h=>by
  simp only [uC,Bool.and_eq_true,Bool.or_eq_true] at hp
  by_cases c:x=k
  ·subst c;exact hp.1
  ·exact vj hp.2 (by omega)
theorem sG {m:List Nat}:∀ {k x y:Nat},q8 ops m k=true->y < k->x < y->(m.getD y 0).testBit x=true\/oE ops x y=true
 |0,x,y,_,h,_=>by omega
 |k+1,x,y,hp,h,hx=>by
  simp only [q8,Bool.and_eq_true] at hp
  by_cases c:y=k
  ·subst c;exact vj hp.1 hx
  ·exact sG hp.2 (by omega) hx
theorem sH:∀ (l:List Nat),l.Nodup->∀ m,(∀ y ∈ l,y < m)->l.length<=m:=by
 intro l hn m
 induction m generalizing l with
 |zero=>intro h;cases l with
  |nil=>simp
  |cons a l=>have:=h a (by simp);omega
 |succ m ih =>
  intro h
  by_cases c:m ∈ l
  ·have h1:=ih (l.erase m) (hn.erase m) (fun y hy=>by
    have h2:=h y (List.mem_of_mem_erase hy)
    have h3:y ≠ m:=fun e=>by rw [e] at hy;exact hn.not_mem_erase hy
    omega)
   rw [List.length_erase_of_mem c] at h1
   omega
  ·have h1:=ih l hn (fun y hy=>by
    have h2:=h y hy
    have h3:y ≠ m:=fun e=>c (e ▸ hy)
    omega)
   omega
theorem bI.draw {id:Nat}{ag:AA}(hm:P.follows .mixedOrders=true) (mD:w6 ops=true) (h:mE P w0 n ops (List.range ops.size) α S ag S'):bI P w0 rd n (.region id ops true) α S .normal ag S':=by
 intro F m A g a w hF hR hS hA
 simp only [w6,Bool.and_eq_true] at mD
 obtain⟨he,hp⟩:=mD
 refine wpIn_region_draw fun t=>?_
 simp only [Region.schedule,hm,Bool.true_or,if_true]
 have hd:q9 ops (Array.replicate ops.size false):=⟨by simp,fun y x hy=>by
  simp only [Array.getD_eq_getD_getElem?,Array.getElem?_replicate] at hy
  split at hy<;>simp at hy⟩
 obtain⟨f1,f2,f3,f4⟩:=lY he ops.size t _ hd
 have jQ:∀ x,x ∈ Region.linearise .any ops t ↔ x ∈ List.range ops.size:=by
  intro x
  refine⟨fun hx=>by simpa using (f1 x hx).1,fun hx=>?_⟩
  have hx:x < ops.size:=by simpa using hx
  by_cases c:x ∈ Region.linearise .any ops t
  ·exact c
  ·exfalso
   have hl:=f4 ⟨x,hx,by simp [Array.getD_eq_getD_getElem?,Array.getElem?_replicate,hx],c⟩
   have mO:(x::Region.linearise.go .any ops ops.size t (Array.replicate ops.size false) []).Nodup:=by
    rw [List.nodup_cons];exact⟨c,f2⟩
   have hlen:=sH (x::Region.linearise.go .any ops ops.size t (Array.replicate ops.size false) []) mO ops.size (fun y hy=>by
    rcases List.mem_cons.1 hy with rfl|hy
    ·exact hx
    ·exact (f1 y hy).1)
   rw [List.length_cons,hl] at hlen
   omega
 have hL:(Region.linearise .any ops t).Pairwise (fun y x=>x < y->oE ops x y=true):=by
  refine List.Pairwise.imp_of_mem ?_ f3
  intro y x hy hx hb ib
  rcases sG hp (f1 y hy).1 ib with h1|h1
  ·rw [hb] at h1;cases h1
  ·exact h1
 have hC:(List.range ops.size).Pairwise (· < ·):=List.pairwise_lt_range
 obtain⟨hE,er⟩:=hS.drew
 have er:St w0 A g S { w with drawn:=w.drawn+1 }:=er
 refine (mE.perm hC hL jQ f2 h).sI F m A g a _ _ hF er (hA.later hE.toLater) fun a' w' g' h1 h2 h3=>⟨rfl,g',h1,h2,hE.trans h3⟩
end
section
variable {P:Program}{w0:World}{rd:Bool}{n:Nat}{o:Oper}{α:AA}{S S':aa}{r:AV}{ops:Array Oper}
def w7 (P:Program) (w0:World) (K:AV->aa->Prop) (S:aa) (args:List AV):AV->Prop
 |.v (.func (.func g) first cap)=>match first.toList,cap.toList with
  |[],[]=>∃ r,aE P w0 g args S r S/\K r S
  |_,_=>False
 |.fn (.func g) first cap=>∃ r,aE P w0 g (first++args++cap) S r S/\K r S
 |_=>False
def jI (P:Program) (w0:World) (o:Op) (α:AA) (S:aa) (K:AV->aa->Prop):Prop :=
 match o with
 |.call c=>match c.callee with
  |.value f=>w7 P w0 K S (c.args.toList.map α.ev) (α.ev f)
  |_=>aK P w0 (.call c) α S K
 |o=>aK P w0 o α S K
theorem Nl {op:Op}{K:AV->aa->Prop}(hp:kE op=false) (hw:sJ op=false) (h:jI P w0 op α S K):∃ r,K r S/\aK P w0 op α S (nT r S):=by
 cases op with
 |load t x =>
  simp only [jI,aK,aL] at h ⊢
  split at h
  ·exact⟨_,h,⟨rfl,rfl⟩⟩
  ·exact h.elim
 |call c =>
  simp only [sJ] at hw
  simp only [jI] at h
  split at h
  ·rename_i f hc
   unfold w7 at h
   simp only [aK,hc]
   split at h
   ·rename_i g first cap hf
    split at h
    ·rename_i e1 e2
     obtain⟨r,h1,h2⟩:=h
     refine⟨r,h2,?_⟩
     rw [hf]
     simp only [uD,e1,e2]
     exact⟨r,S,h1,rfl,rfl⟩
    ·exact h.elim
   ·rename_i g first cap hf
    obtain⟨r,h1,h2⟩:=h
    refine⟨r,h2,?_⟩
    rw [hf]
    exact⟨r,S,h1,rfl,rfl⟩
   ·exact h.elim
  ·rename_i hc
   cases hb:c.callee with
   |value f=>exact absurd hb (hc f)
   |builtin b=>rw [hb] at hw;simp only [kE,hb] at hp;cases b<;>simp at hw hp
   |invoke x m=>rw [hb] at hw;cases hw
 |_=>simp [sJ,hp,kE] at hw hp
theorem AE {op:Op}{K:AV->aa->Prop}(h:jI P w0 op α S K):aK P w0 op α S K:=by
 cases op with
 |call c =>
  simp only [jI] at h
  split at h
  ·rename_i f hc
   unfold w7 at h
   simp only [aK,hc]
   split at h
   ·rename_i g first cap hf
    split at h
    ·rename_i e1 e2
     obtain⟨r,h1,h2⟩:=h
     rw [hf]
     simp only [uD,e1,e2]
     exact⟨r,S,h1,h2⟩
    ·exact h.elim
   ·rename_i g first cap hf
    obtain⟨r,h1,h2⟩:=h
    rw [hf]
    exact⟨r,S,h1,h2⟩
   ·exact h.elim
  ·exact h
 |_=>exact h
theorem jf {α:AA}{S:aa}{K:AV->aa->Prop}(h:aK P w0 o.op α S K):∃ r S',de P w0 n o (α.only (bU o)) S r S'/\K r S' :=
 sK (IV (β:=α.only (bU o)) (fun x hx=>(dM fun t e=>dA (by rw [<-e];exact hx)).symm) h)
theorem Uu {i:Nat}{K:AV->aa->Prop}(hi:ops[i]?=some o) (hd:(match o.dst with|some d=>Nat.blt d n|none=>true)=true) (hg:o.guard=none\/∃ j want,o.guard=some (j,want)/\lO ops α j=some (some want)) (h:jI P w0 o.op α S K) :
  ∃ r S',GS P w0 n ops i α S (α.put o.dst r) S'/\K r S':=by
 cases hp:kE o.op with
 |true =>
  obtain⟨r,h1,h2⟩:=Nm hp (AE h)
  have h3:∀ T,de P w0 n o (α.only (bU o)) T r T:=fun T=>by
   obtain⟨r',S',h4,rfl,rfl⟩:=jf (n:=n) (h2 T)
   exact h4
  exact⟨r,S,⟨o,hi,hd,.inr ⟨hg,r,rfl,h3 S,fun _=>⟨rfl,h3⟩,fun _=>rfl⟩⟩,h1⟩
 |false =>
  cases hw:sJ o.op with
  |false =>
   obtain⟨r,h1,h2⟩:=Nl hp hw h
   obtain⟨r',S',h4,rfl,rfl⟩:=jf (n:=n) h2
   exact⟨r',S',⟨o,hi,hd,.inr ⟨hg,r',rfl,h4,fun h=>(by rw [hp] at h;cases h),fun _=>rfl⟩⟩,h1⟩
  |true =>
   obtain⟨r,S',h1,h2⟩:=jf (n:=n) (AE h)
   exact⟨r,S',⟨o,hi,hd,.inr ⟨hg,r,rfl,h1,fun h=>(by rw [hp] at h;cases h),fun h=>(by rw [hw] at h;cases h)⟩⟩,h2⟩
end
def AA.has (α:AA):List (Nat × AV)->Prop
 |[]=>True
 |p::l=>α.tm p.1=p.2/\α.has l
theorem wrap64 {c:Int}(h1:-9223372036854775808<=c) (h2:c<=9223372036854775807):IntKind.i64.wrap c=c:=by
 unfold IntKind.wrap
 simp [IntKind.bits,IntKind.signed]
 omega
theorem Qq {α β:Type}{l:List α}{f:α->β}{i:Int}{k:Nat}{x:α}(hi:i=(k:Int)) (h:l[k]?=some x):idx (l.map f) i=some (f x):=by
 subst hi
 exact Qr (by simp [h])
def iv (i:Int):AV:=.v (.int .i64 i)
def fc (i:Int):List AV:=[iv i]
def du:List AV->Prop
 |[]=>True
 |a::l=>Pure a/\du l
theorem du.all:∀ {l:List AV},du l->∀ a ∈ l,Pure a
 |[],_,a,h=>by cases h
 |b::l,hp,a,h=>by
  rcases List.mem_cons.1 h with rfl|h
  ·exact hp.1
  ·exact du.all hp.2 a h
def jg (S:aa):List AV->List AV->Prop
 |[],[]=>True
 |a::l,a'::l'=>bX S a a'/\jg S l l'
 |_,_=>False
theorem jg.len {S:aa}:∀ {l l':List AV},jg S l l'->l.length=l'.length
 |[],[],_=>rfl
 |a::l,a'::l',h=>by simp [jg.len h.2]
 |[],_::_,h=>h.elim
 |_::_,[],h=>h.elim
theorem jg.at {S:aa}:∀ {l l':List AV},jg S l l'->∀ (i:Nat) (a a':AV),l[i]?=some a->l'[i]?=some a'->bX S a a'
 |[],[],_,i,a,a',h,_=>by simp at h
 |b::l,b'::l',h,i,a,a',h1,h2=>by
  cases i with
  |zero=>simp at h1 h2;subst h1 h2;exact h.1
  |succ i=>simp at h1 h2;exact jg.at h.2 i a a' h1 h2
 |[],_::_,h,_,_,_,_,_=>h.elim
 |_::_,[],h,_,_,_,_,_=>h.elim
theorem jg.refl (S:aa):∀ (l:List AV),jg S l l
 |[]=>trivial
 |a::l=>⟨.refl a,jg.refl S l⟩
section
variable {P:Program}{w0:World}{f:FuncId}{args iH:List AV}{r:AV}
theorem av.AW (h:av P w0 f args r) (hp:du args) (S:aa):aE P w0 f args S r S:=h.w8 hp.all S
theorem av.aad (h:av P w0 f args r) (hp:du args) (hs:pV r) {S:aa}(hf:jg S iH args):aE P w0 f iH S r S:=h.aae hp.all hs S hf.len hf.at
end
section
variable {S:aa}
theorem bX.wk {ex:Bool}{rows:List (List AV)}:bX S (.sl ex rows) (.sl false rows) :=
 .sl rfl (fun i r r' h1 h2=>by rw [h1] at h2;rw [Option.some.inj h2]) (fun i j r r' a a' h1 h2 h3 h4=>by
  rw [h1] at h2
  obtain rfl:=Option.some.inj h2
  rw [h3] at h4
  obtain rfl:=Option.some.inj h4
  exact .refl _)
end
end Go.Proofs.YtgjfgekaclobaaaGreat
