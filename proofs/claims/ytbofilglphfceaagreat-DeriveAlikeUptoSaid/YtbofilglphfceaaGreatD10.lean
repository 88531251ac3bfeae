import Derived.Test.YtbofilglphfceaaGreatD9
namespace Go.Proofs.YtbofilglphfceaaGreat
set_option linter.unusedVariables false
set_option linter.unusedSimpArgs false
open Go.RowKit
section
variable {P:Program}{w0:World}{rd:Bool}{n:Nat}{α:AA}{S S':U}{ops:Array Oper}
def pf (acc:List Nat) (o:Oper):Nat:=o.after.toList.foldl (fun s e=>if Region.binds .any e then s ||| (2 ^ e.on ||| acc.getD e.on 0) else s) 0
def beforeL (acc:List Nat):List Oper->List Nat
 |[]=>acc
 |o::os=>beforeL (acc++[pf acc o]) os
def iR (k:Nat):List Oper->Bool
 |[]=>true
 |o::os=>o.after.toList.all (fun e=>!Region.binds .any e || Nat.blt e.on k) && iR (k+1) os
def ph (ops:Array Oper) (m:List Nat) (y:Nat):Nat->Bool
 |0=>true
 |x+1=>((m.getD y 0).testBit x || lj ops x y) && ph ops m y x
def m5 (ops:Array Oper) (m:List Nat):Nat->Bool
 |0=>true
 |y+1=>ph ops m y y && m5 ops m y
def q9 (ops:Array Oper):Bool:=iR 0 ops.toList && m5 ops (beforeL [] ops.toList) ops.size
theorem wz {acc:List Nat}{o:Oper}{x:Nat}(h:(pf acc o).testBit x=true):∃ e ∈ o.after.toList,Region.binds .any e=true/\(x=e.on\/(acc.getD e.on 0).testBit x=true):=by
 have key:∀ (l:List Edge) (s:Nat),(l.foldl (fun s e=>if Region.binds .any e then s ||| (2 ^ e.on ||| acc.getD e.on 0) else s) s).testBit x=true->s.testBit x=true\/∃ e ∈ l,Region.binds .any e=true/\(x=e.on\/(acc.getD e.on 0).testBit x=true):=by
  intro l
  induction l with
  |nil=>exact fun s h=>.inl h
  |cons e l ih =>
   intro s h
   rw [List.foldl_cons] at h
   rcases ih _ h with h1|⟨e',Sa,h1⟩
   ·by_cases hb:Region.binds .any e=true
    ·rw [if_pos hb,Nat.testBit_or,Nat.testBit_or,Bool.or_eq_true,Bool.or_eq_true] at h1
     rcases h1 with h1|h1|h1
     ·exact .inl h1
     ·rw [Nat.testBit_two_pow] at h1
      exact .inr ⟨e,by simp,hb,.inl (by simpa using h1:e.on=x).symm⟩
     ·exact .inr ⟨e,by simp,hb,.inr h1⟩
    ·rw [if_neg hb] at h1
     exact .inl h1
   ·exact .inr ⟨e',by simp [Sa],h1⟩
 rcases key _ 0 h with h1|h1
 ·simp at h1
 ·exact h1
theorem pO:∀ {os:List Oper}{acc:List Nat}{i:Nat}{o:Oper},os[i]?=some o->∃ jb,(beforeL acc os).getD (acc.length+i) 0=pf jb o/\(∀ j,j < acc.length+i->jb.getD j 0=(beforeL acc os).getD j 0)/\jb.length=acc.length+i
 |[],acc,i,o,h=>by simp at h
 |p::os,acc,i,o,h=>by
  have bR:∀ (os:List Oper) (acc:List Nat) (j:Nat),j < acc.length->(beforeL acc os).getD j 0=acc.getD j 0:=by
   intro os
   induction os with
   |nil=>intro acc j hj;rfl
   |cons p os ih =>
    intro acc j hj
    rw [beforeL,ih _ _ (by simp;omega)]
    simp [List.getElem?_append_left hj]
  cases i with
  |zero =>
   simp at h
   subst h
   refine⟨acc,?_,fun j hj=>?_,rfl⟩
   ·rw [beforeL,bR _ _ _ (by simp)]
    simp
   ·rw [beforeL,bR _ _ _ (by simp at hj ⊢;omega)]
    simp [List.getElem?_append_left (show j < acc.length by simpa using hj)]
  |succ i =>
   simp at h
   obtain⟨jb,h1,h2,h3⟩:=pO (acc:=acc++[pf acc p]) h
   simp only [List.length_append,List.length_cons,List.length_nil] at h1 h2 h3
   refine⟨jb,?_,fun j hj=>?_,by omega⟩
   ·rw [beforeL,show acc.length+(i+1)=acc.length+(0+1)+i by omega]
    exact h1
   ·rw [beforeL]
    exact h2 j (by omega)
theorem oa:∀ {os:List Oper}{k i:Nat}{o:Oper},iR k os=true->os[i]?=some o->∀ e ∈ o.after.toList,Region.binds .any e=true->e.on < k+i
 |[],k,i,o,_,h=>by simp at h
 |p::os,k,i,o,hk,h=>by
  simp only [iR,Bool.and_eq_true] at hk
  cases i with
  |zero =>
   simp at h
   subst h
   intro e he hb
   have:=List.all_eq_true.1 hk.1 e he
   rw [hb] at this
   simp at this
   omega
  |succ i =>
   simp at h
   intro e he hb
   have:=oa hk.2 h e he hb
   omega
structure m6 (ops:Array Oper) (aQ:Array Bool):Prop where
 size:aQ.size=ops.size
 closed:∀ y x,aQ.getD y false=true->((beforeL [] ops.toList).getD y 0).testBit x=true->aQ.getD x false=true
theorem tg {aQ:Array Bool}{i:Nat}(hl:aQ.size=ops.size) (h:i ∈ Region.ready .any ops aQ):∃ o,ops[i]?=some o/\i < ops.size/\aQ.getD i false=false/\∀ e ∈ o.after.toList,Region.binds .any e=true->aQ.getD e.on false=true:=by
 unfold Region.ready at h
 rw [List.mem_filter] at h
 obtain⟨h1,h2⟩:=h
 have h1:i < ops.size:=by simpa using h1
 simp only [Bool.and_eq_true] at h2
 have hi:ops[i]?=some ops[i]:=Array.getElem?_eq_getElem h1
 rw [hi] at h2
 simp only [Option.map_some,Option.getD_some] at h2
 refine⟨_,hi,h1,?_,fun e he hb=>?_⟩
 ·have h3:=h2.1
  have au:i < aQ.size:=by omega
  simp only [Array.getD_eq_getD_getElem?,Array.getElem?_eq_getElem au,Option.getD_some] at h3 ⊢
  simpa using h3
 ·have:=Array.all_eq_true'.1 h2.2 e (by simpa using he)
  rw [hb] at this
  simpa using this
theorem th (he:iR 0 ops.toList=true) {y x:Nat}{o:Oper}(hy:ops[y]?=some o) (h:((beforeL [] ops.toList).getD y 0).testBit x=true):∃ e ∈ o.after.toList,Region.binds .any e=true/\(x=e.on\/((beforeL [] ops.toList).getD e.on 0).testBit x=true):=by
 have OX:ops.toList[y]?=some o:=by rw [Array.getElem?_toList];exact hy
 obtain⟨jb,h1,h2,h3⟩:=pO (acc:=[]) OX
 simp only [List.length_nil,Nat.zero_add] at h1 h2
 rw [h1] at h
 obtain⟨e,hm,hb,h4⟩:=wz h
 refine⟨e,hm,hb,h4.imp id fun h5=>?_⟩
 have au:=oa he OX e hm hb
 rw [h2 e.on (by omega)] at h5
 exact h5
theorem qt {aQ:Array Bool}{i j:Nat}(hi:i < aQ.size):(aQ.setIfInBounds i true).getD j false=if j=i then true else aQ.getD j false:=by
 simp only [Array.getD_eq_getD_getElem?,Array.getElem?_setIfInBounds]
 by_cases c:i=j
 ·subst c;simp [hi]
 ·simp [c,Ne.symm c]
theorem m6.step (he:iR 0 ops.toList=true) {aQ:Array Bool}{i:Nat}(hd:m6 ops aQ) (h:i ∈ Region.ready .any ops aQ):m6 ops (aQ.setIfInBounds i true):=by
 obtain⟨o,hi,au,hu,hr⟩:=tg hd.size h
 refine⟨by simp [hd.size],fun y x hy hb=>?_⟩
 rw [qt (by rw [hd.size];exact au)] at hy ⊢
 by_cases c:y=i
 ·subst c
  obtain⟨e,hm,dE,h4⟩:=th he hi hb
  have h5:=hr e hm dE
  rcases h4 with rfl|h4
  ·rw [h5];simp
  ·rw [hd.closed e.on x h5 h4];simp
 ·rw [if_neg c] at hy
  rw [hd.closed y x hy hb]
  simp
theorem jc (he:iR 0 ops.toList=true):∀ (fuel t:Nat) (aQ:Array Bool),m6 ops aQ ->
  (∀ i ∈ Region.linearise.go .any ops fuel t aQ [],i < ops.size/\aQ.getD i false=false)/\(Region.linearise.go .any ops fuel t aQ []).Nodup /\
  (Region.linearise.go .any ops fuel t aQ []).Pairwise (fun y x=>((beforeL [] ops.toList).getD y 0).testBit x=false) /\
  ((∃ i,i < ops.size/\aQ.getD i false=false/\i ∉ Region.linearise.go .any ops fuel t aQ [])->(Region.linearise.go .any ops fuel t aQ []).length=fuel):=by
 intro fuel
 induction fuel with
 |zero=>intro t aQ hd;exact⟨fun i hi=>by simp [Region.linearise.go] at hi,by simp [Region.linearise.go],by simp [Region.linearise.go],fun _=>by simp [Region.linearise.go]⟩
 |succ fuel ih =>
  intro t aQ hd
  have e:Region.linearise.go .any ops (fuel+1) t aQ []=match (Region.ready .any ops aQ)[t % (Region.ready .any ops aQ).length]? with
   |some i=>Region.linearise.go .any ops fuel (t / (Region.ready .any ops aQ).length) (aQ.setIfInBounds i true) [i]
   |none=>[]:=by
   simp only [Region.linearise.go]
   rfl
  rw [e]
  cases hi:(Region.ready .any ops aQ)[t % (Region.ready .any ops aQ).length]? with
  |none =>
   refine⟨fun i h=>by simp at h,by simp,by simp,fun ⟨i,h1,h2,_⟩=>?_⟩
   exfalso
   have PZ:Region.ready .any ops aQ=[]:=by
    cases hr:Region.ready .any ops aQ with
    |nil=>rfl
    |cons x xs =>
     rw [hr] at hi
     have au:t % (x::xs).length < (x::xs).length:=Nat.mod_lt _ (by simp)
     simp at hi
     simp at au
     omega
   have least:∀ k,(∀ j,j < k->j < ops.size->aQ.getD j false=true)->k < ops.size->aQ.getD k false=false->False:=by
    intro k hk Fy OY
    have:k ∈ Region.ready .any ops aQ:=by
     unfold Region.ready
     rw [List.mem_filter]
     refine⟨by simpa using Fy,?_⟩
     have au:k < aQ.size:=by rw [hd.size];exact Fy
     rw [Array.getElem?_eq_getElem Fy]
     simp only [Option.map_some,Option.getD_some,Bool.and_eq_true]
     refine⟨?_,?_⟩
     ·simp only [Array.getD_eq_getD_getElem?,Array.getElem?_eq_getElem au,Option.getD_some] at OY ⊢
      simpa using OY
     ·rw [Array.all_eq_true']
      intro ed Sb
      cases hb:Region.binds .any ed with
      |false=>rfl
      |true =>
       have:=oa (k:=0) (i:=k) he (by rw [Array.getElem?_toList];exact Array.getElem?_eq_getElem Fy) ed (by simpa using Sb) hb
       simp only [Bool.not_true,Bool.false_or]
       exact hk ed.on (by omega) (by omega)
    rw [PZ] at this
    cases this
   have all:∀ k,k<=ops.size->∀ j,j < k->j < ops.size->aQ.getD j false=true:=by
    intro k
    induction k with
    |zero=>intro _ j hj;omega
    |succ k OZ =>
     intro hk j hj lW
     by_cases c:j < k
     ·exact OZ (by omega) j c lW
     ·have B_:j=k:=by omega
      subst B_
      cases hl:aQ.getD j false with
      |true=>rfl
      |false=>exact (least j (OZ (by omega)) lW hl).elim
   have:=all ops.size (Nat.le_refl _) i h1 h1
   rw [h2] at this
   cases this
  |some i =>
   have fK:=List.mem_of_getElem? hi
   obtain⟨o,Sc,au,hu,hr⟩:=tg hd.size fK
   have Sd:=hd.step he fK
   obtain⟨f1,f2,f3,f4⟩:=ih (t / (Region.ready .any ops aQ).length) _ Sd
   simp only
   rw [linearise_go_acc,List.reverse_singleton,List.singleton_append]
   have O0:i < aQ.size:=by rw [hd.size];exact au
   have uD:∀ j ∈ Region.linearise.go .any ops fuel (t / (Region.ready .any ops aQ).length) (aQ.setIfInBounds i true) [],j ≠ i/\aQ.getD j false=false:=by
    intro j hj
    have:=(f1 j hj).2
    rw [qt O0] at this
    split at this
    ·cases this
    ·rename_i c;exact⟨c,this⟩
   refine⟨fun j hj=>?_,?_,?_,fun ⟨k,h1,h2,h3⟩=>?_⟩
   ·rcases List.mem_cons.1 hj with rfl|hj
    ·exact⟨au,hu⟩
    ·exact⟨(f1 j hj).1,(uD j hj).2⟩
   ·rw [List.nodup_cons]
    exact⟨fun h=>(uD i h).1 rfl,f2⟩
   ·rw [List.pairwise_cons]
    refine⟨fun x hx=>?_,f3⟩
    cases hb:((beforeL [] ops.toList).getD i 0).testBit x with
    |false=>rfl
    |true =>
     obtain⟨ed,hm,dE,h4⟩:=th he Sc hb
     have h5:=hr ed hm dE
     have h6:=(uD x hx).2
     rcases h4 with rfl|h4
     ·rw [h5] at h6;cases h6
     ·rw [hd.closed ed.on x h5 h4] at h6;cases h6
   ·rw [List.length_cons,f4 ⟨k,h1,?_,fun h=>h3 (by simp [h])⟩]
    rw [qt O0,if_neg (fun e=>h3 (by simp [e]))]
    exact h2
theorem pP {m:List Nat}{y:Nat}:∀ {k x:Nat},ph ops m y k=true->x < k->(m.getD y 0).testBit x=true\/lj ops x y=true
 |0,x,_,h=>by omega
 |k+1,x,hp,h=>by
  simp only [ph,Bool.and_eq_true,Bool.or_eq_true] at hp
  by_cases c:x=k
  ·subst c;exact hp.1
  ·exact pP hp.2 (by omega)
theorem oc {m:List Nat}:∀ {k x y:Nat},m5 ops m k=true->y < k->x < y->(m.getD y 0).testBit x=true\/lj ops x y=true
 |0,x,y,_,h,_=>by omega
 |k+1,x,y,hp,h,hx=>by
  simp only [m5,Bool.and_eq_true] at hp
  by_cases c:y=k
  ·subst c;exact pP hp.1 hx
  ·exact oc hp.2 (by omega) hx
theorem od:∀ (l:List Nat),l.Nodup->∀ m,(∀ y ∈ l,y < m)->l.length<=m:=by
 intro l hn m
 induction m generalizing l with
 |zero=>intro h;cases l with
  |nil=>simp
  |cons a l=>have:=h a (by simp);omega
 |succ m ih =>
  intro h
  by_cases c:m ∈ l
  ·have h1:=ih (l.erase m) (hn.erase m) (fun y hy=>by
    have h2:=h y (List.mem_of_mem_erase hy)
    have h3:y ≠ m:=fun e=>by rw [e] at hy;exact hn.not_mem_erase hy
    omega)
   rw [List.length_erase_of_mem c] at h1
   omega
  ·have h1:=ih l hn (fun y hy=>by
    have h2:=h y hy
    have h3:y ≠ m:=fun e=>c (e ▸ hy)
    omega)
   omega
theorem bA.draw {id:Nat}{af:AA}(hm:P.follows .mixedOrders=true) (kH:q9 ops=true) (h:jw P w0 n ops (List.range ops.size) α S af S'):bA P w0 rd n (.region id ops true) α S .normal af S':=by
 intro F m A g a w hF hR hS hA
 simp only [q9,Bool.and_eq_true] at kH
 obtain⟨he,hp⟩:=kH
 refine wpIn_region_draw fun t=>?_
 simp only [Region.schedule,hm,Bool.true_or,if_true]
 have hd:m6 ops (Array.replicate ops.size false):=⟨by simp,fun y x hy=>by
  simp only [Array.getD_eq_getD_getElem?,Array.getElem?_replicate] at hy
  split at hy<;>simp at hy⟩
 obtain⟨f1,f2,f3,f4⟩:=jc he ops.size t _ hd
 have gG:∀ x,x ∈ Region.linearise .any ops t ↔ x ∈ List.range ops.size:=by
  intro x
  refine⟨fun hx=>by simpa using (f1 x hx).1,fun hx=>?_⟩
  have hx:x < ops.size:=by simpa using hx
  by_cases c:x ∈ Region.linearise .any ops t
  ·exact c
  ·exfalso
   have hl:=f4 ⟨x,hx,by simp [Array.getD_eq_getD_getElem?,Array.getElem?_replicate,hx],c⟩
   have ll:(x::Region.linearise.go .any ops ops.size t (Array.replicate ops.size false) []).Nodup:=by
    rw [List.nodup_cons];exact⟨c,f2⟩
   have hlen:=od (x::Region.linearise.go .any ops ops.size t (Array.replicate ops.size false) []) ll ops.size (fun y hy=>by
    rcases List.mem_cons.1 hy with rfl|hy
    ·exact hx
    ·exact (f1 y hy).1)
   rw [List.length_cons,hl] at hlen
   omega
 have hL:(Region.linearise .any ops t).Pairwise (fun y x=>x < y->lj ops x y=true):=by
  refine List.Pairwise.imp_of_mem ?_ f3
  intro y x hy hx hb iS
  rcases oc hp (f1 y hy).1 iS with h1|h1
  ·rw [hb] at h1;cases h1
  ·exact h1
 have hC:(List.range ops.size).Pairwise (· < ·):=List.pairwise_lt_range
 obtain⟨hE,dF⟩:=hS.drew
 have dF:St w0 A g S { w with drawn:=w.drawn+1 }:=dF
 refine (jw.perm hC hL gG f2 h).oe F m A g a _ _ hF dF (hA.later hE.toLater) fun a' w' g' h1 h2 h3=>⟨rfl,g',h1,h2,hE.trans h3⟩
end
section
variable {P:Program}{w0:World}{rd:Bool}{n:Nat}{o:Oper}{α:AA}{S S':U}{r:AV}{ops:Array Oper}
def q_ (P:Program) (w0:World) (K:AV->U->Prop) (S:U) (args:List AV):AV->Prop
 |.v (.func (.func g) first cap)=>match first.toList,cap.toList with
  |[],[]=>∃ r,aR P w0 g args S r S/\K r S
  |_,_=>False
 |.fn (.func g) first cap=>∃ r,aR P w0 g (first++args++cap) S r S/\K r S
 |_=>False
def pQ (P:Program) (w0:World) (o:Op) (α:AA) (S:U) (K:AV->U->Prop):Prop :=
 match o with
 |.call c=>match c.callee with
  |.value f=>q_ P w0 K S (c.args.toList.map α.ev) (α.ev f)
  |_=>aE P w0 (.call c) α S K
 |o=>aE P w0 o α S K
theorem K7 {op:Op}{K:AV->U->Prop}(hp:fk op=false) (hw:ra op=false) (h:pQ P w0 op α S K):∃ r,K r S/\aE P w0 op α S (nS r S):=by
 cases op with
 |load t x =>
  simp only [pQ,aE,aD] at h ⊢
  split at h
  ·exact⟨_,h,⟨rfl,rfl⟩⟩
  ·exact h.elim
 |call c =>
  simp only [ra] at hw
  simp only [pQ] at h
  split at h
  ·rename_i f hc
   unfold q_ at h
   simp only [aE,hc]
   split at h
   ·rename_i g first cap hf
    split at h
    ·rename_i e1 e2
     obtain⟨r,h1,h2⟩:=h
     refine⟨r,h2,?_⟩
     rw [hf]
     simp only [pj,e1,e2]
     exact⟨r,S,h1,rfl,rfl⟩
    ·exact h.elim
   ·rename_i g first cap hf
    obtain⟨r,h1,h2⟩:=h
    refine⟨r,h2,?_⟩
    rw [hf]
    exact⟨r,S,h1,rfl,rfl⟩
   ·exact h.elim
  ·rename_i hc
   cases hb:c.callee with
   |value f=>exact absurd hb (hc f)
   |builtin b=>rw [hb] at hw;simp only [fk,hb] at hp;cases b<;>simp at hw hp
   |invoke x m=>rw [hb] at hw;cases hw
 |_=>simp [ra,hp,fk] at hw hp
theorem Fz {op:Op}{K:AV->U->Prop}(h:pQ P w0 op α S K):aE P w0 op α S K:=by
 cases op with
 |call c =>
  simp only [pQ] at h
  split at h
  ·rename_i f hc
   unfold q_ at h
   simp only [aE,hc]
   split at h
   ·rename_i g first cap hf
    split at h
    ·rename_i e1 e2
     obtain⟨r,h1,h2⟩:=h
     rw [hf]
     simp only [pj,e1,e2]
     exact⟨r,S,h1,h2⟩
    ·exact h.elim
   ·rename_i g first cap hf
    obtain⟨r,h1,h2⟩:=h
    rw [hf]
    exact⟨r,S,h1,h2⟩
   ·exact h.elim
  ·exact h
 |_=>exact h
theorem kQ {α:AA}{S:U}{K:AV->U->Prop}(h:aE P w0 o.op α S K):∃ r S',cP P w0 n o (α.only (cb o)) S r S'/\K r S' :=
 ti (Ca (β:=α.only (cb o)) (fun x hx=>(fm fun t e=>eU (by rw [<-e];exact hx)).symm) h)
theorem gs_of {i:Nat}{K:AV->U->Prop}(hi:ops[i]?=some o) (hd:(match o.dst with|some d=>Nat.blt d n|none=>true)=true) (hg:o.guard=none\/∃ j want,o.guard=some (j,want)/\je ops α j=some (some want)) (h:pQ P w0 o.op α S K) :
  ∃ r S',GS P w0 n ops i α S (α.put o.dst r) S'/\K r S':=by
 cases hp:fk o.op with
 |true =>
  obtain⟨r,h1,h2⟩:=K_ hp (Fz h)
  have h3:∀ T,cP P w0 n o (α.only (cb o)) T r T:=fun T=>by
   obtain⟨r',S',h4,rfl,rfl⟩:=kQ (n:=n) (h2 T)
   exact h4
  exact⟨r,S,⟨o,hi,hd,.inr ⟨hg,r,rfl,h3 S,fun _=>⟨rfl,h3⟩,fun _=>rfl⟩⟩,h1⟩
 |false =>
  cases hw:ra o.op with
  |false =>
   obtain⟨r,h1,h2⟩:=K7 hp hw h
   obtain⟨r',S',h4,rfl,rfl⟩:=kQ (n:=n) h2
   exact⟨r',S',⟨o,hi,hd,.inr ⟨hg,r',rfl,h4,fun h=>(by rw [hp] at h;cases h),fun _=>rfl⟩⟩,h1⟩
  |true =>
   obtain⟨r,S',h1,h2⟩:=kQ (n:=n) (Fz h)
   exact⟨r,S',⟨o,hi,hd,.inr ⟨hg,r,rfl,h1,fun h=>(by rw [hp] at h;cases h),fun h=>(by rw [hw] at h;cases h)⟩⟩,h2⟩
end
theorem wrap64 {c:Int}(h1:-9223372036854775808<=c) (h2:c<=9223372036854775807):IntKind.i64.wrap c=c:=by
 unfold IntKind.wrap
 simp [IntKind.bits,IntKind.signed]
 omega
theorem HA {α β:Type}{l:List α}{f:α->β}{i:Int}{k:Nat}{x:α}(hi:i=(k:Int)) (h:l[k]?=some x):idx (l.map f) i=some (f x):=by
 subst hi
 exact HB (by simp [h])
def iv (i:Int):AV:=.v (.int .i64 i)
def gH (i:Int):List AV:=[iv i]
def cF:List AV->Prop
 |[]=>True
 |a::l=>Pure a/\cF l
theorem cF.all:∀ {l:List AV},cF l->∀ a ∈ l,Pure a
 |[],_,a,h=>by cases h
 |b::l,hp,a,h=>by
  rcases List.mem_cons.1 h with rfl|h
  ·exact hp.1
  ·exact cF.all hp.2 a h
def gz (S:U):List AV->List AV->Prop
 |[],[]=>True
 |a::l,a'::l'=>bG S a a'/\gz S l l'
 |_,_=>False
theorem gz.len {S:U}:∀ {l l':List AV},gz S l l'->l.length=l'.length
 |[],[],_=>rfl
 |a::l,a'::l',h=>by simp [gz.len h.2]
 |[],_::_,h=>h.elim
 |_::_,[],h=>h.elim
theorem gz.at {S:U}:∀ {l l':List AV},gz S l l'->∀ (i:Nat) (a a':AV),l[i]?=some a->l'[i]?=some a'->bG S a a'
 |[],[],_,i,a,a',h,_=>by simp at h
 |b::l,b'::l',h,i,a,a',h1,h2=>by
  cases i with
  |zero=>simp at h1 h2;subst h1 h2;exact h.1
  |succ i=>simp at h1 h2;exact gz.at h.2 i a a' h1 h2
 |[],_::_,h,_,_,_,_,_=>h.elim
 |_::_,[],h,_,_,_,_,_=>h.elim
theorem gz.refl (S:U):∀ (l:List AV),gz S l l
 |[]=>trivial
 |a::l=>⟨.refl a,gz.refl S l⟩
section
variable {P:Program}{w0:World}{f:FuncId}{args ff:List AV}{r:AV}
theorem ag.yj (h:ag P w0 f args r) (hp:cF args) (S:U):aR P w0 f args S r S:=h.tj hp.all S
theorem ag.P0 (h:ag P w0 f args r) (hp:cF args) (hs:mq r) {S:U}(hf:gz S ff args):aR P w0 f ff S r S:=h.P1 hp.all hs S hf.len hf.at
end
section
variable {S:U}
theorem bG.wk {ex:Bool}{rows:List (List AV)}:bG S (.sl ex rows) (.sl false rows) :=
 .sl rfl (fun i r r' h1 h2=>by rw [h1] at h2;rw [Option.some.inj h2]) (fun i j r r' a a' h1 h2 h3 h4=>by
  rw [h1] at h2
  obtain rfl:=Option.some.inj h2
  rw [h3] at h4
  obtain rfl:=Option.some.inj h4
  exact .refl _)
end
def Cb {β:Type}(r:AV) (k:AV->β):β:=match r with
 |.u=>k .u
 |.v x=>k (.v x)
 |.agg l=>k (.agg l)
 |.aL l=>k (.aL l)
 |.sl e l=>k (.sl e l)
 |.ip l=>k (.ip l)
 |.ob a b c d e=>k (.ob a b c d e)
 |.pt a b c d=>k (.pt a b c d)
 |.mp a=>k (.mp a)
 |.fn a b c=>k (.fn a b c)
 |.yl a=>k (.yl a)
 |.gr a b c=>k (.gr a b c)
theorem Cc {β:Type}{r:AV}{k:AV->β}:Cb r k=k r:=by cases r<;>rfl
def gI {β:Type}:List AV->(List AV->β)->β
 |[],k=>k []
 |a::l,k=>Cb a fun a=>gI l fun l=>k (a::l)
theorem j8 {β:Type}:∀ {l:List AV}{k:List AV->β},gI l k=k l
 |[],k=>rfl
 |a::l,k=>by rw [gI,Cc,j8]
def K8 {β:Type}(r:AV) (k:AV->β):β:=match r with
 |.u=>k .u
 |.v x=>k (.v x)
 |.agg l=>gI l fun l=>k (.agg l)
 |.aL l=>gI l fun l=>k (.aL l)
 |.sl e l=>k (.sl e l)
 |.ip l=>gI l fun l=>k (.ip l)
 |.ob a b c d e=>k (.ob a b c d e)
 |.pt a b c d=>k (.pt a b c d)
 |.mp a=>k (.mp a)
 |.fn a b c=>gI b fun b=>gI c fun c=>k (.fn a b c)
 |.yl a=>k (.yl a)
 |.gr a b c=>k (.gr a b c)
def rb {β:Type}:List (List AV)->(List (List AV)->β)->β
 |[],k=>k []
 |a::l,k=>gI a fun a=>rb l fun l=>k (a::l)
theorem tk {β:Type}:∀ {l:List (List AV)}{k:List (List AV)->β},rb l k=k l
 |[],k=>rfl
 |a::l,k=>by rw [rb,j8,tk]
def sm (S:U) (cs:List AV):Option (AV × U):=gI cs fun cs=>match S with|⟨g,x⟩=>some (.pt x cs.length 0 0,⟨a6 g x (some (.arr cs.length [cs] 0 true)),x+1⟩)
theorem jJ {S:U}{cs:List AV}:sm S cs=some (jd S cs):=by
 unfold sm
 rw [j8]
 rfl
def og (P:Program) (S:U) (t:TypeId) (b:AV):AV->Option U
 |.pt k sz 0 j=>match S.get k with
  |some (.arr sz' [row] 0 ex)=>match Nat.beq sz sz' && (aA b).all bp && (match bV P t with|some m=>Nat.beq m (aA b).length|none=>false) with
   |true=>match Nat.ble (j+(aA b).length) row.length with
    |true=>gI (ib row j (aA b)) fun aG=>match S with|⟨g,x⟩=>some ⟨a6 g k (some (.arr sz [aG] 0 ex)),x⟩
    |false=>none
   |false=>none
  |_=>none
 |_=>none
theorem oh {P:Program}{S S':U}{t:TypeId}{b x:AV}(h:og P S t b x=some S'):iq P S t b x=some S':=by
 unfold og at h
 split at h
 ·rename_i k sz j
  split at h
  ·rename_i sz' row ex hk
   split at h
   ·rename_i hc
    split at h
    ·rename_i hl
     rw [j8] at h
     simp only [iq,hk]
     split
     ·simp only [List.getElem?_cons_zero,hl]
      exact h
     ·rename_i jx
      have:true=false:=hc.symm.trans jx
      cases this
    ·cases h
   ·cases h
  ·cases h
 ·cases h
def kI (P:Program) (o:Op) (α:AA) (S:U):Option (AV × U) :=
 match o with
 |.move x=>some (α.ev x,S)
 |.assign x=>some (α.ev x,S)
 |.pick c a b=>match α.ev c with
  |.v (.bool true)=>some (α.ev a,S)
  |.v (.bool false)=>some (α.ev b,S)
  |_=>none
 |.alloc e=>match bY P e with
  |some z=>sm S (z.cells.toList.map aO)
  |none=>none
 |.box _ x=>match (aA (α.ev x)).all bp with
  |true=>sm S (aA (α.ev x))
  |false=>none
 |.build t parts=>match ln P t (parts.toList.map fun (i,x)=>(i,α.ev x)) with
  |some a=>some (a,S)
  |none=>none
 |.load t x=>match lX P S t (α.ev x) with
  |some a=>some (a,S)
  |none=>none
 |.buildSlice t len parts=>match du P t with
  |some e=>match bY P e,bV P e with
   |some z,some m=>match Nat.ble (len*m) 16777216 && Nat.beq z.cells.size m && Nat.blt 0 m with
    |true=>match m7 m (List.replicate len (z.cells.toList.map aO)) (parts.toList.map fun (i,x)=>(i,α.ev x)) with
     |some rows=>rb rows fun rows=>some (.sl true rows,S)
     |none=>none
    |false=>none
   |_,_=>none
  |none=>none
 |.store t x b=>match og P S t (α.ev b) (α.ev x) with
  |some S'=>some (.v undef,S')
  |none=>none
 |.unOp op _ x=>match op,α.ev x with
  |.not,.v (.bool true)=>some (.v (.bool false),S)
  |.not,.v (.bool false)=>some (.v (.bool true),S)
  |_,_=>none
 |.fieldAddr s x f=>match P.underlying s with
  |some (.struct fs)=>match fs[f]? with
   |some fd=>match bV P fd.type with
    |some (_+1)=>match α.ev x with
     |.ip row=>some (.ip (row.drop fd.offset),S)
     |.pt k sz i j=>some (.pt k sz i (j+fd.offset),S)
     |_=>none
    |_=>none
   |none=>none
  |_=>none
 |.field t x f=>match P.underlying t with
  |some (.struct fs)=>match fs[f]? with
   |some fd=>match α.ev x with
    |.agg l=>match g7 P fd.type l fd.offset with
     |some a=>some (a,S)
     |none=>none
    |_=>none
   |none=>none
  |_=>none
 |.extract x i=>match α.ev x with
  |.aL l=>match l[i]? with
   |some a=>some (a,S)
   |none=>none
  |_=>none
 |.makeFunc f first cap=>some (.fn f (first.toList.map α.ev) (cap.toList.map α.ev),S)
 |.nilCheck x=>match α.ev x with
  |.ip c=>some (.ip c,S)
  |.pt k sz i j=>some (.pt k sz i j,S)
  |_=>none
 |.call c=>match c.callee,c.argTypes.toList,c.args.toList with
  |.builtin .len,[t],[x]=>match lenOf P t (α.ev x) with
   |some m=>some (.v (.int .i64 (m:Int)),S)
   |none=>none
  |_,_,_=>none
 |_=>none
section
variable {P:Program}{w0:World}{rd:Bool}{n:Nat}{o:Op}{α:AA}{S S':U}{r:AV}
theorem Cd (h:kI P o α S=some (r,S')):aE P w0 o α S (nS r S'):=by
 have e:∀ {a:AV}{T:U},some (a,T)=some (r,S')->a=r/\T=S':=fun h=>by injection h with h;injection h with h1 h2;exact⟨h1,h2⟩
 have e2:∀ {q:AV × U},some q=some (r,S')->q.1=r/\q.2=S':=fun h=>by injection h with h;subst h;exact⟨rfl,rfl⟩
 cases o with
 |move x=>exact e h
 |assign x=>exact e h
 |pick c a b =>
  simp only [kI] at h
  simp only [aE]
  split at h
  ·rename_i hc;rw [hc];exact e h
  ·rename_i hc;rw [hc];exact e h
  ·cases h
 |alloc t =>
  simp only [kI] at h
  simp only [aE]
  split at h
  ·rename_i z hz;rw [hz];rw [jJ] at h;exact e2 h
  ·cases h
 |box t x =>
  simp only [kI] at h
  simp only [aE]
  split at h
  ·rename_i hx;rw [hx];rw [jJ] at h;exact e2 h
  ·cases h
 |buildSlice t len parts =>
  simp only [kI] at h
  simp only [aE]
  split at h
  ·rename_i el he
   split at h
   ·rename_i z m hz hs
    split at h
    ·rename_i hb
     split at h
     ·rename_i rows hr
      rw [tk] at h
      simp only [he,hz,hs,hb,hr]
      exact e h
     ·cases h
    ·cases h
   ·cases h
  ·cases h
 |build t parts =>
  simp only [kI] at h
  simp only [aE]
  split at h
  ·rename_i z hz;rw [hz];exact e h
  ·cases h
 |load t x =>
  simp only [kI] at h
  simp only [aE]
  split at h
  ·rename_i z hz;exact aD.mk hz (e h)
  ·cases h
 |store t x b =>
  simp only [kI] at h
  simp only [aE]
  split at h
  ·rename_i z hz;exact aD.mk (oh hz) (e h)
  ·cases h
 |unOp op t x =>
  simp only [kI] at h
  simp only [aE]
  split at h
  ·rename_i hc;rw [hc];exact e h
  ·rename_i hc;rw [hc];exact e h
  ·cases h
 |fieldAddr s x f =>
  simp only [kI] at h
  simp only [aE]
  split at h
  ·rename_i fs hu
   split at h
   ·rename_i fd hf
    split at h
    ·rename_i m hs
     split at h
     ·rename_i row hx;simp only [hu,hf,hs,hx];exact e h
     ·rename_i k sz i j hx;simp only [hu,hf,hs,hx];exact e h
     ·cases h
    ·cases h
   ·cases h
  ·cases h
 |field t x f =>
  simp only [kI] at h
  simp only [aE]
  split at h
  ·rename_i fs hu
   split at h
   ·rename_i fd hf
    split at h
    ·rename_i l hx
     split at h
     ·rename_i a ha;simp only [hu,hf,hx];exact aD.mk ha (e h)
     ·cases h
    ·cases h
   ·cases h
  ·cases h
 |extract x i =>
  simp only [kI] at h
  simp only [aE]
  split at h
  ·rename_i l hx
   split at h
   ·rename_i a ha;simp only [hx,ha];exact e h
   ·cases h
  ·cases h
 |makeFunc f first cap=>exact e h
 |nilCheck x =>
  simp only [kI] at h
  simp only [aE]
  split at h
  ·rename_i c hx;rw [hx];exact e h
  ·rename_i k sz i j hx;rw [hx];exact e h
  ·cases h
 |call c =>
  simp only [kI] at h
  simp only [aE]
  split at h
  ·rename_i t x hc ht hx
   split at h
   ·rename_i m hm
    rw [hc,ht,hx]
    exact aD.mk hm (e h)
   ·cases h
  ·cases h
 |_=>cases h
def eW (ops:List Oper) (α:AA) (o:Oper):Option Bool :=
 match o.guard with
 |none=>some true
 |some (j,want)=>match FA ops α j with
  |some (some true)=>some want
  |some (some false)=>some (!want)
  |some none=>some false
  |none=>none
def om (d:Option Tmp) (α:AA) (r:AV):AA:=match d with|some d=>⟨a6 α.tm d r,α.df⟩|none=>α
def um (P:Program) (n:Nat) (ops:List Oper):List Oper->AA->U->List Oper × AA × U
 |[],α,S=>([],α,S)
 |o::rest,α,S=>match kR n o.dst with
  |true=>match eW ops α o with
   |some true=>match kI P o.op α S with
    |some (r,S')=>K8 r fun r=>um P n ops rest (om o.dst α r) S'
    |none=>(o::rest,α,S)
   |some false=>um P n ops rest (om o.dst α (.v undef)) S
   |none=>(o::rest,α,S)
  |false=>(o::rest,α,S)
end
section
variable {P:Program}{w0:World}{rd:Bool}{n:Nat}{o:Oper}{α:AA}{S S':U}{r:AV}{ops l rest:List Oper}{Q:AA->U->Prop}
theorem pk {d:Option Tmp}:om d α r=α.put d r:=by cases d<;>rfl
def Dy (P:Program) (w0:World) (n:Nat) (ops l:List Oper) (Q:AA->U->Prop) (α:AA) (S:U):Prop :=
 ∀ k,ops.drop k=l->∃ af S',lq P w0 n ops.toArray (List.range' k l.length) α S af S'/\Q af S'
theorem drop_cons {k:Nat}(h:ops.drop k=o::rest):ops.toArray[k]?=some o/\ops.drop (k+1)=rest:=by
 refine⟨?_,?_⟩
 ·have:=congrArg (·[0]?) h
  simpa using this
 ·rw [<-List.drop_drop,h];rfl
theorem Dy.nil (h:Q α S):Dy P w0 n ops [] Q α S:=fun k _=>⟨α,S,fun F m A g a w Q hF hS hA hQ=>hQ a w g hS hA (Ext.refl ..),h⟩
theorem m8 (h:eW ops α o=some true):o.guard=none\/∃ j want,o.guard=some (j,want)/\je ops.toArray α j=some (some want):=by
 unfold eW at h
 split at h
 ·rename_i hg;exact .inl hg
 ·rename_i j want hg
  have e:=oo (ops:=ops.toArray) (α:=α) (j:=j)
  split at h
  ·rename_i hy
   obtain rfl:=Option.some.inj h
   exact .inr ⟨j,_,hg,by rw [<-e];exact hy⟩
  ·rename_i hy
   cases want
   ·exact .inr ⟨j,_,hg,by rw [<-e];exact hy⟩
   ·cases h
  ·cases h
  ·cases h
theorem pR (h:eW ops α o=some false):∃ (j:Nat) (want:Bool) (b:Option Bool),o.guard=some (j,want)/\je ops.toArray α j=some b/\b ≠ some want:=by
 unfold eW at h
 split at h
 ·cases h
 ·rename_i j want hg
  have e:=oo (ops:=ops.toArray) (α:=α) (j:=j)
  split at h
  ·rename_i hy
   obtain rfl:=Option.some.inj h
   exact⟨j,_,_,hg,by rw [<-e];exact hy,by simp⟩
  ·rename_i hy
   cases want
   ·cases h
   ·exact⟨j,_,_,hg,by rw [<-e];exact hy,by simp⟩
  ·rename_i hy
   exact⟨j,_,_,hg,by rw [<-e];exact hy,by simp⟩
  ·cases h
theorem Dy.op (hd:kR n o.dst=true) (hw:eW ops α o=some true) (h:aE P w0 o.op α S (nS r S')) (k:Dy P w0 n ops rest Q (om o.dst α r) S'):Dy P w0 n ops (o::rest) Q α S:=by
 intro i hi
 obtain⟨h1,h2⟩:=drop_cons hi
 obtain⟨r1,S1,h3,rfl,rfl⟩:=ti (n:=n) h
 obtain⟨af,T,h4,h5⟩:=k (i+1) h2
 rw [pk] at h4
 refine⟨af,T,?_,h5⟩
 refine lq.step h1 hd (fun g w a hA=>?_) h3 h4
 rcases m8 hw with hg|⟨j,want,hg,hy⟩
 ·simp [Region.wanted,hg]
 ·simp [Region.wanted,hg,kh hA hy]
def iF (P:Program) (w0:World) (n:Nat) (ops l:List Oper) (Q:AA->U->Prop) (α:AA) (S:U):Prop :=
 ∀ k,ops.drop k=l->∃ af S',jw P w0 n ops.toArray (List.range' k l.length) α S af S'/\Q af S'
theorem iF.nil (h:Q α S):iF P w0 n ops [] Q α S:=fun k _=>⟨α,S,.nil α S,h⟩
theorem iF.op (hd:kR n o.dst=true) (hw:eW ops α o=some true) (h:pQ P w0 o.op α S (nS r S')) (k:iF P w0 n ops rest Q (om o.dst α r) S'):iF P w0 n ops (o::rest) Q α S:=by
 intro i hi
 obtain⟨h1,h2⟩:=drop_cons hi
 obtain⟨r1,S1,h3,rfl,rfl⟩:=gs_of (n:=n) h1 hd (m8 hw) h
 obtain⟨af,T,h4,h5⟩:=k (i+1) h2
 rw [pk] at h4
 exact⟨af,T,.cons h3 h4,h5⟩
theorem iF.skip (hd:kR n o.dst=true) (hw:eW ops α o=some false) (k:iF P w0 n ops rest Q (om o.dst α (.v undef)) S):iF P w0 n ops (o::rest) Q α S:=by
 intro i hi
 obtain⟨h1,h2⟩:=drop_cons hi
 obtain⟨af,T,h4,h5⟩:=k (i+1) h2
 rw [pk] at h4
 obtain⟨j,want,b,hg,hy,aM⟩:=pR hw
 exact⟨af,T,.cons ⟨o,h1,hd,.inl ⟨j,want,b,hg,hy,aM,rfl,rfl⟩⟩ h4,h5⟩
end
end Go.Proofs.YtbofilglphfceaaGreat
