import Derived.Test.YtbofilglphfceaaGreatQ5
namespace Go.Proofs.YtbofilglphfceaaGreat
set_option linter.unusedVariables false
set_option linter.unusedSimpArgs false
open Go.RowKit
section
variable {P:Program}{w0:World}{rd:Bool}{n:Nat}{α:AA}{S S':ae}{ops:Array Oper}
def vX (acc:List Nat) (o:Oper):Nat:=o.after.toList.foldl (fun s e=>if Region.binds .any e then s ||| (2 ^ e.on ||| acc.getD e.on 0) else s) 0
def beforeL (acc:List Nat):List Oper->List Nat
 |[]=>acc
 |o::os=>beforeL (acc++[vX acc o]) os
def mG (k:Nat):List Oper->Bool
 |[]=>true
 |o::os=>o.after.toList.all (fun e=>!Region.binds .any e || Nat.blt e.on k) && mG (k+1) os
def vY (ops:Array Oper) (m:List Nat) (y:Nat):Nat->Bool
 |0=>true
 |x+1=>((m.getD y 0).testBit x || qN ops x y) && vY ops m y x
def tF (ops:Array Oper) (m:List Nat):Nat->Bool
 |0=>true
 |y+1=>vY ops m y y && tF ops m y
def zb (ops:Array Oper):Bool:=mG 0 ops.toList && tF ops (beforeL [] ops.toList) ops.size
theorem En {acc:List Nat}{o:Oper}{x:Nat}(h:(vX acc o).testBit x=true):∃ e ∈ o.after.toList,Region.binds .any e=true/\(x=e.on\/(acc.getD e.on 0).testBit x=true):=by
 have key:∀ (l:List Edge) (s:Nat),(l.foldl (fun s e=>if Region.binds .any e then s ||| (2 ^ e.on ||| acc.getD e.on 0) else s) s).testBit x=true->s.testBit x=true\/∃ e ∈ l,Region.binds .any e=true/\(x=e.on\/(acc.getD e.on 0).testBit x=true):=by
  intro l
  induction l with
  |nil=>exact fun s h=>.inl h
  |cons e l ih =>
   intro s h
   rw [List.foldl_cons] at h
   rcases ih _ h with h1|⟨e',he',h1⟩
   ·by_cases hb:Region.binds .any e=true
    ·rw [if_pos hb,Nat.testBit_or,Nat.testBit_or,Bool.or_eq_true,Bool.or_eq_true] at h1
     rcases h1 with h1|h1|h1
     ·exact .inl h1
     ·rw [Nat.testBit_two_pow] at h1
      exact .inr ⟨e,by simp,hb,.inl (by simpa using h1:e.on=x).symm⟩
     ·exact .inr ⟨e,by simp,hb,.inr h1⟩
    ·rw [if_neg hb] at h1
     exact .inl h1
   ·exact .inr ⟨e',by simp [he'],h1⟩
 rcases key _ 0 h with h1|h1
 ·simp at h1
 ·exact h1
theorem wI:∀ {os:List Oper}{acc:List Nat}{i:Nat}{o:Oper},os[i]?=some o->∃ dK,(beforeL acc os).getD (acc.length+i) 0=vX dK o/\(∀ j,j < acc.length+i->dK.getD j 0=(beforeL acc os).getD j 0)/\dK.length=acc.length+i
 |[],acc,i,o,h=>by simp at h
 |p::os,acc,i,o,h=>by
  have aV:∀ (os:List Oper) (acc:List Nat) (j:Nat),j < acc.length->(beforeL acc os).getD j 0=acc.getD j 0:=by
   intro os
   induction os with
   |nil=>intro acc j hj;rfl
   |cons p os ih =>
    intro acc j hj
    rw [beforeL,ih _ _ (by simp;omega)]
    simp [List.getElem?_append_left hj]
  cases i with
  |zero =>
   simp at h
   subst h
   refine⟨acc,?_,fun j hj=>?_,rfl⟩
   ·rw [beforeL,aV _ _ _ (by simp)]
    simp
   ·rw [beforeL,aV _ _ _ (by simp at hj ⊢;omega)]
    simp [List.getElem?_append_left (show j < acc.length by simpa using hj)]
  |succ i =>
   simp at h
   obtain⟨dK,h1,h2,h3⟩:=wI (acc:=acc++[vX acc p]) h
   simp only [List.length_append,List.length_cons,List.length_nil] at h1 h2 h3
   refine⟨dK,?_,fun j hj=>?_,by omega⟩
   ·rw [beforeL,show acc.length+(i+1)=acc.length+(0+1)+i by omega]
    exact h1
   ·rw [beforeL]
    exact h2 j (by omega)
theorem vq:∀ {os:List Oper}{k i:Nat}{o:Oper},mG k os=true->os[i]?=some o->∀ e ∈ o.after.toList,Region.binds .any e=true->e.on < k+i
 |[],k,i,o,_,h=>by simp at h
 |p::os,k,i,o,hk,h=>by
  simp only [mG,Bool.and_eq_true] at hk
  cases i with
  |zero =>
   simp at h
   subst h
   intro e he hb
   have:=List.all_eq_true.1 hk.1 e he
   rw [hb] at this
   simp at this
   omega
  |succ i =>
   simp at h
   intro e he hb
   have:=vq hk.2 h e he hb
   omega
structure tx (ops:Array Oper) (bR:Array Bool):Prop where
 size:bR.size=ops.size
 closed:∀ y x,bR.getD y false=true->((beforeL [] ops.toList).getD y 0).testBit x=true->bR.getD x false=true
theorem Bc {bR:Array Bool}{i:Nat}(hl:bR.size=ops.size) (h:i ∈ Region.ready .any ops bR):∃ o,ops[i]?=some o/\i < ops.size/\bR.getD i false=false/\∀ e ∈ o.after.toList,Region.binds .any e=true->bR.getD e.on false=true:=by
 unfold Region.ready at h
 rw [List.mem_filter] at h
 obtain⟨h1,h2⟩:=h
 have h1:i < ops.size:=by simpa using h1
 simp only [Bool.and_eq_true] at h2
 have hi:ops[i]?=some ops[i]:=Array.getElem?_eq_getElem h1
 rw [hi] at h2
 simp only [Option.map_some,Option.getD_some] at h2
 refine⟨_,hi,h1,?_,fun e he hb=>?_⟩
 ·have h3:=h2.1
  have au:i < bR.size:=by omega
  simp only [Array.getD_eq_getD_getElem?,Array.getElem?_eq_getElem au,Option.getD_some] at h3 ⊢
  simpa using h3
 ·have:=Array.all_eq_true'.1 h2.2 e (by simpa using he)
  rw [hb] at this
  simpa using this
theorem Be (he:mG 0 ops.toList=true) {y x:Nat}{o:Oper}(hy:ops[y]?=some o) (h:((beforeL [] ops.toList).getD y 0).testBit x=true):∃ e ∈ o.after.toList,Region.binds .any e=true/\(x=e.on\/((beforeL [] ops.toList).getD e.on 0).testBit x=true):=by
 have Jo:ops.toList[y]?=some o:=by rw [Array.getElem?_toList];exact hy
 obtain⟨dK,h1,h2,h3⟩:=wI (acc:=[]) Jo
 simp only [List.length_nil,Nat.zero_add] at h1 h2
 rw [h1] at h
 obtain⟨e,hm,hb,h4⟩:=En h
 refine⟨e,hm,hb,h4.imp id fun h5=>?_⟩
 have au:=vq he Jo e hm hb
 rw [h2 e.on (by omega)] at h5
 exact h5
theorem xB {bR:Array Bool}{i j:Nat}(hi:i < bR.size):(bR.setIfInBounds i true).getD j false=if j=i then true else bR.getD j false:=by
 simp only [Array.getD_eq_getD_getElem?,Array.getElem?_setIfInBounds]
 by_cases c:i=j
 ·subst c;simp [hi]
 ·simp [c,Ne.symm c]
theorem tx.step (he:mG 0 ops.toList=true) {bR:Array Bool}{i:Nat}(hd:tx ops bR) (h:i ∈ Region.ready .any ops bR):tx ops (bR.setIfInBounds i true):=by
 obtain⟨o,hi,au,hu,hr⟩:=Bc hd.size h
 refine⟨by simp [hd.size],fun y x hy hb=>?_⟩
 rw [xB (by rw [hd.size];exact au)] at hy ⊢
 by_cases c:y=i
 ·subst c
  obtain⟨e,hm,e9,h4⟩:=Be he hi hb
  have h5:=hr e hm e9
  rcases h4 with rfl|h4
  ·rw [h5];simp
  ·rw [hd.closed e.on x h5 h4];simp
 ·rw [if_neg c] at hy
  rw [hd.closed y x hy hb]
  simp
theorem nb (he:mG 0 ops.toList=true):∀ (fuel t:Nat) (bR:Array Bool),tx ops bR ->
  (∀ i ∈ Region.linearise.go .any ops fuel t bR [],i < ops.size/\bR.getD i false=false)/\(Region.linearise.go .any ops fuel t bR []).Nodup /\
  (Region.linearise.go .any ops fuel t bR []).Pairwise (fun y x=>((beforeL [] ops.toList).getD y 0).testBit x=false) /\
  ((∃ i,i < ops.size/\bR.getD i false=false/\i ∉ Region.linearise.go .any ops fuel t bR [])->(Region.linearise.go .any ops fuel t bR []).length=fuel):=by
 intro fuel
 induction fuel with
 |zero=>intro t bR hd;exact⟨fun i hi=>by simp [Region.linearise.go] at hi,by simp [Region.linearise.go],by simp [Region.linearise.go],fun _=>by simp [Region.linearise.go]⟩
 |succ fuel ih =>
  intro t bR hd
  have e:Region.linearise.go .any ops (fuel+1) t bR []=match (Region.ready .any ops bR)[t % (Region.ready .any ops bR).length]? with
   |some i=>Region.linearise.go .any ops fuel (t / (Region.ready .any ops bR).length) (bR.setIfInBounds i true) [i]
   |none=>[]:=by
   simp only [Region.linearise.go]
   rfl
  rw [e]
  cases hi:(Region.ready .any ops bR)[t % (Region.ready .any ops bR).length]? with
  |none =>
   refine⟨fun i h=>by simp at h,by simp,by simp,fun ⟨i,h1,h2,_⟩=>?_⟩
   exfalso
   have FI:Region.ready .any ops bR=[]:=by
    cases hr:Region.ready .any ops bR with
    |nil=>rfl
    |cons x xs =>
     rw [hr] at hi
     have au:t % (x::xs).length < (x::xs).length:=Nat.mod_lt _ (by simp)
     simp at hi
     simp at au
     omega
   have least:∀ k,(∀ j,j < k->j < ops.size->bR.getD j false=true)->k < ops.size->bR.getD k false=false->False:=by
    intro k hk Ql hku
    have:k ∈ Region.ready .any ops bR:=by
     unfold Region.ready
     rw [List.mem_filter]
     refine⟨by simpa using Ql,?_⟩
     have au:k < bR.size:=by rw [hd.size];exact Ql
     rw [Array.getElem?_eq_getElem Ql]
     simp only [Option.map_some,Option.getD_some,Bool.and_eq_true]
     refine⟨?_,?_⟩
     ·simp only [Array.getD_eq_getD_getElem?,Array.getElem?_eq_getElem au,Option.getD_some] at hku ⊢
      simpa using hku
     ·rw [Array.all_eq_true']
      intro ed hed
      cases hb:Region.binds .any ed with
      |false=>rfl
      |true =>
       have:=vq (k:=0) (i:=k) he (by rw [Array.getElem?_toList];exact Array.getElem?_eq_getElem Ql) ed (by simpa using hed) hb
       simp only [Bool.not_true,Bool.false_or]
       exact hk ed.on (by omega) (by omega)
    rw [FI] at this
    cases this
   have all:∀ k,k<=ops.size->∀ j,j < k->j < ops.size->bR.getD j false=true:=by
    intro k
    induction k with
    |zero=>intro _ j hj;omega
    |succ k ihk =>
     intro hk j hj va
     by_cases c:j < k
     ·exact ihk (by omega) j c va
     ·have Kb:j=k:=by omega
      subst Kb
      cases hl:bR.getD j false with
      |true=>rfl
      |false=>exact (least j (ihk (by omega)) va hl).elim
   have:=all ops.size (Nat.le_refl _) i h1 h1
   rw [h2] at this
   cases this
  |some i =>
   have eI:=List.mem_of_getElem? hi
   obtain⟨o,hio,au,hu,hr⟩:=Bc hd.size eI
   have hd':=hd.step he eI
   obtain⟨f1,f2,f3,f4⟩:=ih (t / (Region.ready .any ops bR).length) _ hd'
   simp only
   rw [linearise_go_acc,List.reverse_singleton,List.singleton_append]
   have hls:i < bR.size:=by rw [hd.size];exact au
   have CO:∀ j ∈ Region.linearise.go .any ops fuel (t / (Region.ready .any ops bR).length) (bR.setIfInBounds i true) [],j ≠ i/\bR.getD j false=false:=by
    intro j hj
    have:=(f1 j hj).2
    rw [xB hls] at this
    split at this
    ·cases this
    ·rename_i c;exact⟨c,this⟩
   refine⟨fun j hj=>?_,?_,?_,fun ⟨k,h1,h2,h3⟩=>?_⟩
   ·rcases List.mem_cons.1 hj with rfl|hj
    ·exact⟨au,hu⟩
    ·exact⟨(f1 j hj).1,(CO j hj).2⟩
   ·rw [List.nodup_cons]
    exact⟨fun h=>(CO i h).1 rfl,f2⟩
   ·rw [List.pairwise_cons]
    refine⟨fun x hx=>?_,f3⟩
    cases hb:((beforeL [] ops.toList).getD i 0).testBit x with
    |false=>rfl
    |true =>
     obtain⟨ed,hm,e9,h4⟩:=Be he hio hb
     have h5:=hr ed hm e9
     have h6:=(CO x hx).2
     rcases h4 with rfl|h4
     ·rw [h5] at h6;cases h6
     ·rw [hd.closed ed.on x h5 h4] at h6;cases h6
   ·rw [List.length_cons,f4 ⟨k,h1,?_,fun h=>h3 (by simp [h])⟩]
    rw [xB hls,if_neg (fun e=>h3 (by simp [e]))]
    exact h2
theorem wJ {m:List Nat}{y:Nat}:∀ {k x:Nat},vY ops m y k=true->x < k->(m.getD y 0).testBit x=true\/qN ops x y=true
 |0,x,_,h=>by omega
 |k+1,x,hp,h=>by
  simp only [vY,Bool.and_eq_true,Bool.or_eq_true] at hp
  by_cases c:x=k
  ·subst c;exact hp.1
  ·exact wJ hp.2 (by omega)
theorem vr {m:List Nat}:∀ {k x y:Nat},tF ops m k=true->y < k->x < y->(m.getD y 0).testBit x=true\/qN ops x y=true
 |0,x,y,_,h,_=>by omega
 |k+1,x,y,hp,h,hx=>by
  simp only [tF,Bool.and_eq_true] at hp
  by_cases c:y=k
  ·subst c;exact wJ hp.1 hx
  ·exact vr hp.2 (by omega) hx
theorem vg:∀ (l:List Nat),l.Nodup->∀ m,(∀ y ∈ l,y < m)->l.length<=m:=by
 intro l hn m
 induction m generalizing l with
 |zero=>intro h;cases l with
  |nil=>simp
  |cons a l=>have:=h a (by simp);omega
 |succ m ih =>
  intro h
  by_cases c:m ∈ l
  ·have h1:=ih (l.erase m) (hn.erase m) (fun y hy=>by
    have h2:=h y (List.mem_of_mem_erase hy)
    have h3:y ≠ m:=fun e=>by rw [e] at hy;exact hn.not_mem_erase hy
    omega)
   rw [List.length_erase_of_mem c] at h1
   omega
  ·have h1:=ih l hn (fun y hy=>by
    have h2:=h y hy
    have h3:y ≠ m:=fun e=>c (e ▸ hy)
    omega)
   omega
theorem cu.draw {id:Nat}{aA:AA}(hm:P.follows .mixedOrders=true) (nu:zb ops=true) (h:nD P w0 n ops (List.range ops.size) α S aA S'):cu P w0 rd n (.region id ops true) α S .normal aA S':=by
 intro F m A g a w hF hR hS hA
 simp only [zb,Bool.and_eq_true] at nu
 obtain⟨he,hp⟩:=nu
 refine wpIn_region_draw fun t=>?_
 simp only [Region.schedule,hm,Bool.true_or,if_true]
 have hd:tx ops (Array.replicate ops.size false):=⟨by simp,fun y x hy=>by
  simp only [Array.getD_eq_getD_getElem?,Array.getElem?_replicate] at hy
  split at hy<;>simp at hy⟩
 obtain⟨f1,f2,f3,f4⟩:=nb he ops.size t _ hd
 have kK:∀ x,x ∈ Region.linearise .any ops t ↔ x ∈ List.range ops.size:=by
  intro x
  refine⟨fun hx=>by simpa using (f1 x hx).1,fun hx=>?_⟩
  have hx:x < ops.size:=by simpa using hx
  by_cases c:x ∈ Region.linearise .any ops t
  ·exact c
  ·exfalso
   have hl:=f4 ⟨x,hx,by simp [Array.getD_eq_getD_getElem?,Array.getElem?_replicate,hx],c⟩
   have nG:(x::Region.linearise.go .any ops ops.size t (Array.replicate ops.size false) []).Nodup:=by
    rw [List.nodup_cons];exact⟨c,f2⟩
   have hlen:=vg (x::Region.linearise.go .any ops ops.size t (Array.replicate ops.size false) []) nG ops.size (fun y hy=>by
    rcases List.mem_cons.1 hy with rfl|hy
    ·exact hx
    ·exact (f1 y hy).1)
   rw [List.length_cons,hl] at hlen
   omega
 have hL:(Region.linearise .any ops t).Pairwise (fun y x=>x < y->qN ops x y=true):=by
  refine List.Pairwise.imp_of_mem ?_ f3
  intro y x hy hx hb mD
  rcases vr hp (f1 y hy).1 mD with h1|h1
  ·rw [hb] at h1;cases h1
  ·exact h1
 have hC:(List.range ops.size).Pairwise (· < ·):=List.pairwise_lt_range
 obtain⟨hE,eV⟩:=hS.drew
 have eV:St w0 A g S { w with drawn:=w.drawn+1 }:=eV
 refine (nD.perm hC hL kK f2 h).vf F m A g a _ _ hF eV (hA.later hE.toLater) fun a' w' g' h1 h2 h3=>⟨rfl,g',h1,h2,hE.trans h3⟩
end
section
variable {P:Program}{w0:World}{rd:Bool}{n:Nat}{o:Oper}{α:AA}{S S':ae}{r:AV}{ops:Array Oper}
def zc (P:Program) (w0:World) (K:AV->ae->Prop) (S:ae) (args:List AV):AV->Prop
 |.v (.func (.func g) first cap)=>match first.toList,cap.toList with
  |[],[]=>∃ r,bc P w0 g args S r S/\K r S
  |_,_=>False
 |.fn (.func g) first cap=>∃ r,bc P w0 g (first++args++cap) S r S/\K r S
 |_=>False
def qW (P:Program) (w0:World) (o:Op) (α:AA) (S:ae) (K:AV->ae->Prop):Prop :=
 match o with
 |.call c=>match c.callee with
  |.value f=>zc P w0 K S (c.args.toList.map α.ev) (α.ev f)
  |_=>bo P w0 (.call c) α S K
 |o=>bo P w0 o α S K
theorem ZZ {op:Op}{K:AV->ae->Prop}(hp:jx op=false) (hw:y8 op=false) (h:qW P w0 op α S K):∃ r,K r S/\bo P w0 op α S (tO r S):=by
 cases op with
 |load t x =>
  simp only [qW,bo,bm] at h ⊢
  split at h
  ·exact⟨_,h,⟨rfl,rfl⟩⟩
  ·exact h.elim
 |call c =>
  simp only [y8] at hw
  simp only [qW] at h
  split at h
  ·rename_i f hc
   unfold zc at h
   simp only [bo,hc]
   split at h
   ·rename_i g first cap hf
    split at h
    ·rename_i e1 e2
     obtain⟨r,h1,h2⟩:=h
     refine⟨r,h2,?_⟩
     rw [hf]
     simp only [vK,e1,e2]
     exact⟨r,S,h1,rfl,rfl⟩
    ·exact h.elim
   ·rename_i g first cap hf
    obtain⟨r,h1,h2⟩:=h
    refine⟨r,h2,?_⟩
    rw [hf]
    exact⟨r,S,h1,rfl,rfl⟩
   ·exact h.elim
  ·rename_i hc
   cases hb:c.callee with
   |value f=>exact absurd hb (hc f)
   |builtin b=>rw [hb] at hw;simp only [jx,hb] at hp;cases b<;>simp at hw hp
   |invoke x m=>rw [hb] at hw;cases hw
 |_=>simp [y8,hp,jx] at hw hp
theorem Qm {op:Op}{K:AV->ae->Prop}(h:qW P w0 op α S K):bo P w0 op α S K:=by
 cases op with
 |call c =>
  simp only [qW] at h
  split at h
  ·rename_i f hc
   unfold zc at h
   simp only [bo,hc]
   split at h
   ·rename_i g first cap hf
    split at h
    ·rename_i e1 e2
     obtain⟨r,h1,h2⟩:=h
     rw [hf]
     simp only [vK,e1,e2]
     exact⟨r,S,h1,h2⟩
    ·exact h.elim
   ·rename_i g first cap hf
    obtain⟨r,h1,h2⟩:=h
    rw [hf]
    exact⟨r,S,h1,h2⟩
   ·exact h.elim
  ·exact h
 |_=>exact h
theorem pE {α:AA}{S:ae}{K:AV->ae->Prop}(h:bo P w0 o.op α S K):∃ r S',ew P w0 n o (α.only (dp o)) S r S'/\K r S' :=
 AQ (Ky (β:=α.only (dp o)) (fun x hx=>(jw fun t e=>iN (by rw [<-e];exact hx)).symm) h)
end
theorem wrap64 {c:Int}(h1:-9223372036854775808<=c) (h2:c<=9223372036854775807):IntKind.i64.wrap c=c:=by
 unfold IntKind.wrap
 simp [IntKind.bits,IntKind.signed]
 omega
theorem RK {α β:Type}{l:List α}{f:α->β}{i:Int}{k:Nat}{x:α}(hi:i=(k:Int)) (h:l[k]?=some x):idx (l.map f) i=some (f x):=by
 subst hi
 exact EK (by simp [h])
def iv (i:Int):AV:=.v (.int .i64 i)
def bF (i:Int):List AV:=[iv i]
def db:List AV->Prop
 |[]=>True
 |a::l=>Pure a/\db l
theorem db.all:∀ {l:List AV},db l->∀ a ∈ l,Pure a
 |[],_,a,h=>by cases h
 |b::l,hp,a,h=>by
  rcases List.mem_cons.1 h with rfl|h
  ·exact hp.1
  ·exact db.all hp.2 a h
def ff (S:ae):List AV->List AV->Prop
 |[],[]=>True
 |a::l,a'::l'=>aU S a a'/\ff S l l'
 |_,_=>False
theorem ff.len {S:ae}:∀ {l l':List AV},ff S l l'->l.length=l'.length
 |[],[],_=>rfl
 |a::l,a'::l',h=>by simp [ff.len h.2]
 |[],_::_,h=>h.elim
 |_::_,[],h=>h.elim
theorem ff.at {S:ae}:∀ {l l':List AV},ff S l l'->∀ (i:Nat) (a a':AV),l[i]?=some a->l'[i]?=some a'->aU S a a'
 |[],[],_,i,a,a',h,_=>by simp at h
 |b::l,b'::l',h,i,a,a',h1,h2=>by
  cases i with
  |zero=>simp at h1 h2;subst h1 h2;exact h.1
  |succ i=>simp at h1 h2;exact ff.at h.2 i a a' h1 h2
 |[],_::_,h,_,_,_,_,_=>h.elim
 |_::_,[],h,_,_,_,_,_=>h.elim
theorem ff.refl (S:ae):∀ (l:List AV),ff S l l
 |[]=>trivial
 |a::l=>⟨.refl a,ff.refl S l⟩
section
variable {P:Program}{w0:World}{f:FuncId}{args dO:List AV}{r:AV}
theorem ah.zQ (h:ah P w0 f args r) (hp:db args) (S:ae):bc P w0 f args S r S:=h.As hp.all S
theorem ah.B6 (h:ah P w0 f args r) (hp:db args) (hs:pT r) {S:ae}(hf:ff S dO args):bc P w0 f dO S r S:=h.KZ hp.all hs S hf.len hf.at
end
section
variable {S:ae}
theorem aU.wk {ex:Bool}{rows:List (List AV)}:aU S (.sl ex rows) (.sl false rows) :=
 .sl rfl (fun i r r' h1 h2=>by rw [h1] at h2;rw [Option.some.inj h2]) (fun i j r r' a a' h1 h2 h3 h4=>by
  rw [h1] at h2
  obtain rfl:=Option.some.inj h2
  rw [h3] at h4
  obtain rfl:=Option.some.inj h4
  exact .refl _)
theorem aU.fns {f:Fn}{l l' m m':List AV}(h1:ff S l l') (h2:ff S m m'):aU S (.fn f l m) (.fn f l' m'):=.fn h1.len h2.len h1.at h2.at
theorem aU.box {k:Nat}{cs cs':List AV}(h:S.get k=some (.arr cs.length [cs] 0 true)) (hf:ff S cs cs'):aU S (.pt k cs.length 0 0) (.ip cs') :=
 .pt h rfl (by rw [hf.len];exact Nat.le_refl _) (fun q a a' h1 h2=>by rw [Nat.zero_add] at h1;exact hf.at q a a' h1 h2)
end
def KE {β:Type}(r:AV) (k:AV->β):β:=match r with
 |.u=>k .u
 |.v x=>k (.v x)
 |.agg l=>k (.agg l)
 |.bg l=>k (.bg l)
 |.sl e l=>k (.sl e l)
 |.ip l=>k (.ip l)
 |.ob a b c d e=>k (.ob a b c d e)
 |.pt a b c d=>k (.pt a b c d)
 |.mp a=>k (.mp a)
 |.fn a b c=>k (.fn a b c)
 |.yl a=>k (.yl a)
 |.gr a b c=>k (.gr a b c)
theorem KF {β:Type}{r:AV}{k:AV->β}:KE r k=k r:=by cases r<;>rfl
def kY {β:Type}:List AV->(List AV->β)->β
 |[],k=>k []
 |a::l,k=>KE a fun a=>kY l fun l=>k (a::l)
theorem oL {β:Type}:∀ {l:List AV}{k:List AV->β},kY l k=k l
 |[],k=>rfl
 |a::l,k=>by rw [kY,KF,oL]
def Z0 {β:Type}(r:AV) (k:AV->β):β:=match r with
 |.u=>k .u
 |.v x=>k (.v x)
 |.agg l=>kY l fun l=>k (.agg l)
 |.bg l=>kY l fun l=>k (.bg l)
 |.sl e l=>k (.sl e l)
 |.ip l=>kY l fun l=>k (.ip l)
 |.ob a b c d e=>k (.ob a b c d e)
 |.pt a b c d=>k (.pt a b c d)
 |.mp a=>k (.mp a)
 |.fn a b c=>kY b fun b=>kY c fun c=>k (.fn a b c)
 |.yl a=>k (.yl a)
 |.gr a b c=>k (.gr a b c)
def zd {β:Type}:List (List AV)->(List (List AV)->β)->β
 |[],k=>k []
 |a::l,k=>kY a fun a=>zd l fun l=>k (a::l)
theorem Bg {β:Type}:∀ {l:List (List AV)}{k:List (List AV)->β},zd l k=k l
 |[],k=>rfl
 |a::l,k=>by rw [zd,oL,Bg]
def z9 (S:ae) (cs:List AV):Option (AV × ae):=kY cs fun cs=>match S with|⟨g,x⟩=>some (.pt x cs.length 0 0,⟨bO g x (some (.arr cs.length [cs] 0 true)),x+1⟩)
theorem nU {S:ae}{cs:List AV}:z9 S cs=some (ib S cs):=by
 unfold z9
 rw [oL]
 rfl
def vt (P:Program) (S:ae) (t:TypeId) (b:AV):AV->Option ae
 |.pt k sz 0 j=>match S.get k with
  |some (.arr sz' [row] 0 ex)=>match Nat.beq sz sz' && (aZ b).all cn && (match cQ P t with|some m=>Nat.beq m (aZ b).length|none=>false) with
   |true=>match Nat.ble (j+(aZ b).length) row.length with
    |true=>kY (nK row j (aZ b)) fun bB=>match S with|⟨g,x⟩=>some ⟨bO g k (some (.arr sz [bB] 0 ex)),x⟩
    |false=>none
   |false=>none
  |_=>none
 |_=>none
theorem vu {P:Program}{S S':ae}{t:TypeId}{b x:AV}(h:vt P S t b x=some S'):kI P S t b x=some S':=by
 unfold vt at h
 split at h
 ·rename_i k sz j
  split at h
  ·rename_i sz' row ex hk
   split at h
   ·rename_i hc
    split at h
    ·rename_i hl
     rw [oL] at h
     simp only [kI,hk]
     split
     ·simp only [List.getElem?_cons_zero,hl]
      exact h
     ·rename_i ga
      have:true=false:=hc.symm.trans ga
      cases this
    ·cases h
   ·cases h
  ·cases h
 ·cases h
def o_ (P:Program) (o:Op) (α:AA) (S:ae):Option (AV × ae) :=
 match o with
 |.move x=>some (α.ev x,S)
 |.assign x=>some (α.ev x,S)
 |.pick c a b=>match α.ev c with
  |.v (.bool true)=>some (α.ev a,S)
  |.v (.bool false)=>some (α.ev b,S)
  |_=>none
 |.alloc e=>match c_ P e with
  |some z=>z9 S (z.cells.toList.map bV)
  |none=>none
 |.box _ x=>match (aZ (α.ev x)).all cn with
  |true=>z9 S (aZ (α.ev x))
  |false=>none
 |.build t parts=>match pZ P t (parts.toList.map fun (i,x)=>(i,α.ev x)) with
  |some a=>some (a,S)
  |none=>none
 |.load t x=>match q_ P S t (α.ev x) with
  |some a=>some (a,S)
  |none=>none
 |.buildSlice t len parts=>match fk P t with
  |some e=>match c_ P e,cQ P e with
   |some z,some m=>match Nat.ble (len*m) 16777216 && Nat.beq z.cells.size m && Nat.blt 0 m with
    |true=>match s8 m (List.replicate len (z.cells.toList.map bV)) (parts.toList.map fun (i,x)=>(i,α.ev x)) with
     |some rows=>zd rows fun rows=>some (.sl true rows,S)
     |none=>none
    |false=>none
   |_,_=>none
  |none=>none
 |.store t x b=>match vt P S t (α.ev b) (α.ev x) with
  |some S'=>some (.v undef,S')
  |none=>none
 |.unOp op _ x=>match op,α.ev x with
  |.not,.v (.bool true)=>some (.v (.bool false),S)
  |.not,.v (.bool false)=>some (.v (.bool true),S)
  |_,_=>none
 |.fieldAddr s x f=>match P.underlying s with
  |some (.struct fs)=>match fs[f]? with
   |some fd=>match cQ P fd.type with
    |some (_+1)=>match α.ev x with
     |.ip row=>some (.ip (row.drop fd.offset),S)
     |.pt k sz i j=>some (.pt k sz i (j+fd.offset),S)
     |_=>none
    |_=>none
   |none=>none
  |_=>none
 |.field t x f=>match P.underlying t with
  |some (.struct fs)=>match fs[f]? with
   |some fd=>match α.ev x with
    |.agg l=>match lf P fd.type l fd.offset with
     |some a=>some (a,S)
     |none=>none
    |_=>none
   |none=>none
  |_=>none
 |.extract x i=>match α.ev x with
  |.bg l=>match l[i]? with
   |some a=>some (a,S)
   |none=>none
  |_=>none
 |.makeFunc f first cap=>some (.fn f (first.toList.map α.ev) (cap.toList.map α.ev),S)
 |.nilCheck x=>match α.ev x with
  |.ip c=>some (.ip c,S)
  |.pt k sz i j=>some (.pt k sz i j,S)
  |_=>none
 |.call c=>match c.callee,c.argTypes.toList,c.args.toList with
  |.builtin .len,[t],[x]=>match lenOf P t (α.ev x) with
   |some m=>some (.v (.int .i64 (m:Int)),S)
   |none=>none
  |_,_,_=>none
 |_=>none
section
variable {P:Program}{w0:World}{rd:Bool}{n:Nat}{o:Op}{α:AA}{S S':ae}{r:AV}
theorem KG (h:o_ P o α S=some (r,S')):bo P w0 o α S (tO r S'):=by
 have e:∀ {a:AV}{T:ae},some (a,T)=some (r,S')->a=r/\T=S':=fun h=>by injection h with h;injection h with h1 h2;exact⟨h1,h2⟩
 have e2:∀ {q:AV × ae},some q=some (r,S')->q.1=r/\q.2=S':=fun h=>by injection h with h;subst h;exact⟨rfl,rfl⟩
 cases o with
 |move x=>exact e h
 |assign x=>exact e h
 |pick c a b =>
  simp only [o_] at h
  simp only [bo]
  split at h
  ·rename_i hc;rw [hc];exact e h
  ·rename_i hc;rw [hc];exact e h
  ·cases h
 |alloc t =>
  simp only [o_] at h
  simp only [bo]
  split at h
  ·rename_i z hz;rw [hz];rw [nU] at h;exact e2 h
  ·cases h
 |box t x =>
  simp only [o_] at h
  simp only [bo]
  split at h
  ·rename_i hx;rw [hx];rw [nU] at h;exact e2 h
  ·cases h
 |buildSlice t len parts =>
  simp only [o_] at h
  simp only [bo]
  split at h
  ·rename_i el he
   split at h
   ·rename_i z m hz hs
    split at h
    ·rename_i hb
     split at h
     ·rename_i rows hr
      rw [Bg] at h
      simp only [he,hz,hs,hb,hr]
      exact e h
     ·cases h
    ·cases h
   ·cases h
  ·cases h
 |build t parts =>
  simp only [o_] at h
  simp only [bo]
  split at h
  ·rename_i z hz;rw [hz];exact e h
  ·cases h
 |load t x =>
  simp only [o_] at h
  simp only [bo]
  split at h
  ·rename_i z hz;exact bm.mk hz (e h)
  ·cases h
 |store t x b =>
  simp only [o_] at h
  simp only [bo]
  split at h
  ·rename_i z hz;exact bm.mk (vu hz) (e h)
  ·cases h
 |unOp op t x =>
  simp only [o_] at h
  simp only [bo]
  split at h
  ·rename_i hc;rw [hc];exact e h
  ·rename_i hc;rw [hc];exact e h
  ·cases h
 |fieldAddr s x f =>
  simp only [o_] at h
  simp only [bo]
  split at h
  ·rename_i fs hu
   split at h
   ·rename_i fd hf
    split at h
    ·rename_i m hs
     split at h
     ·rename_i row hx;simp only [hu,hf,hs,hx];exact e h
     ·rename_i k sz i j hx;simp only [hu,hf,hs,hx];exact e h
     ·cases h
    ·cases h
   ·cases h
  ·cases h
 |field t x f =>
  simp only [o_] at h
  simp only [bo]
  split at h
  ·rename_i fs hu
   split at h
   ·rename_i fd hf
    split at h
    ·rename_i l hx
     split at h
     ·rename_i a ha;simp only [hu,hf,hx];exact bm.mk ha (e h)
     ·cases h
    ·cases h
   ·cases h
  ·cases h
 |extract x i =>
  simp only [o_] at h
  simp only [bo]
  split at h
  ·rename_i l hx
   split at h
   ·rename_i a ha;simp only [hx,ha];exact e h
   ·cases h
  ·cases h
 |makeFunc f first cap=>exact e h
 |nilCheck x =>
  simp only [o_] at h
  simp only [bo]
  split at h
  ·rename_i c hx;rw [hx];exact e h
  ·rename_i k sz i j hx;rw [hx];exact e h
  ·cases h
 |call c =>
  simp only [o_] at h
  simp only [bo]
  split at h
  ·rename_i t x hc ht hx
   split at h
   ·rename_i m hm
    rw [hc,ht,hx]
    exact bm.mk hm (e h)
   ·cases h
  ·cases h
 |_=>cases h
def iW (ops:List Oper) (α:AA) (o:Oper):Option Bool :=
 match o.guard with
 |none=>some true
 |some (j,want)=>match Ol ops α j with
  |some (some true)=>some want
  |some (some false)=>some (!want)
  |some none=>some false
  |none=>none
def vv (d:Option Tmp) (α:AA) (r:AV):AA:=match d with|some d=>⟨bO α.tm d r,α.df⟩|none=>α
def BB (P:Program) (n:Nat) (ops:List Oper):List Oper->AA->ae->List Oper × AA × ae
 |[],α,S=>([],α,S)
 |o::rest,α,S=>match pj n o.dst with
  |true=>match iW ops α o with
   |some true=>match o_ P o.op α S with
    |some (r,S')=>Z0 r fun r=>BB P n ops rest (vv o.dst α r) S'
    |none=>(o::rest,α,S)
   |some false=>BB P n ops rest (vv o.dst α (.v undef)) S
   |none=>(o::rest,α,S)
  |false=>(o::rest,α,S)
end
section
variable {P:Program}{w0:World}{rd:Bool}{n:Nat}{o:Oper}{α:AA}{S S':ae}{r:AV}{ops l rest:List Oper}{Q:AA->ae->Prop}
theorem vZ {d:Option Tmp}:vv d α r=α.put d r:=by cases d<;>rfl
def M0 (P:Program) (w0:World) (n:Nat) (ops l:List Oper) (Q:AA->ae->Prop) (α:AA) (S:ae):Prop :=
 ∀ k,ops.drop k=l->∃ aA S',qD P w0 n ops.toArray (List.range' k l.length) α S aA S'/\Q aA S'
theorem drop_cons {k:Nat}(h:ops.drop k=o::rest):ops.toArray[k]?=some o/\ops.drop (k+1)=rest:=by
 refine⟨?_,?_⟩
 ·have:=congrArg (·[0]?) h
  simpa using this
 ·rw [<-List.drop_drop,h];rfl
theorem M0.nil (h:Q α S):M0 P w0 n ops [] Q α S:=fun k _=>⟨α,S,fun F m A g a w Q hF hS hA hQ=>hQ a w g hS hA (Ext.refl ..),h⟩
theorem tG (h:iW ops α o=some true):o.guard=none\/∃ j want,o.guard=some (j,want)/\mR ops.toArray α j=some (some want):=by
 unfold iW at h
 split at h
 ·rename_i hg;exact .inl hg
 ·rename_i j want hg
  have e:=uv (ops:=ops.toArray) (α:=α) (j:=j)
  split at h
  ·rename_i hy
   obtain rfl:=Option.some.inj h
   exact .inr ⟨j,_,hg,by rw [<-e];exact hy⟩
  ·rename_i hy
   cases want
   ·exact .inr ⟨j,_,hg,by rw [<-e];exact hy⟩
   ·cases h
  ·cases h
  ·cases h
theorem wK (h:iW ops α o=some false):∃ (j:Nat) (want:Bool) (b:Option Bool),o.guard=some (j,want)/\mR ops.toArray α j=some b/\b ≠ some want:=by
 unfold iW at h
 split at h
 ·cases h
 ·rename_i j want hg
  have e:=uv (ops:=ops.toArray) (α:=α) (j:=j)
  split at h
  ·rename_i hy
   obtain rfl:=Option.some.inj h
   exact⟨j,_,_,hg,by rw [<-e];exact hy,by simp⟩
  ·rename_i hy
   cases want
   ·cases h
   ·exact⟨j,_,_,hg,by rw [<-e];exact hy,by simp⟩
  ·rename_i hy
   exact⟨j,_,_,hg,by rw [<-e];exact hy,by simp⟩
  ·cases h
def mg (P:Program) (w0:World) (n:Nat) (ops l:List Oper) (Q:AA->ae->Prop) (α:AA) (S:ae):Prop :=
 ∀ k,ops.drop k=l->∃ aA S',nD P w0 n ops.toArray (List.range' k l.length) α S aA S'/\Q aA S'
theorem mg.nil (h:Q α S):mg P w0 n ops [] Q α S:=fun k _=>⟨α,S,.nil α S,h⟩
theorem mg.skip (hd:pj n o.dst=true) (hw:iW ops α o=some false) (k:mg P w0 n ops rest Q (vv o.dst α (.v undef)) S):mg P w0 n ops (o::rest) Q α S:=by
 intro i hi
 obtain⟨h1,h2⟩:=drop_cons hi
 obtain⟨aA,T,h4,h5⟩:=k (i+1) h2
 rw [vZ] at h4
 obtain⟨j,want,b,hg,hy,bG⟩:=wK hw
 exact⟨aA,T,.cons ⟨o,h1,hd,.inl ⟨j,want,b,hg,hy,bG,rfl,rfl⟩⟩ h4,h5⟩
end
inductive It where
 |seq (c:Code)
 |qY (id:Nat)
inductive Cf where
 |run (c:Code) (K:List It)
 |out (ex:Exit) (K:List It)
 |bD (ops l:List Oper) (K:List It)
 |dr (ops l:List Oper) (K:List It)
section
variable (P:Program) (w0:World) (rd:Bool) (n:Nat)
def Wp (c:Code) (Q:Exit->AA->ae->Prop) (α:AA) (S:ae):Prop:=∃ ex aA S',cu P w0 rd n c α S ex aA S'/\Q ex aA S'
def mv:Cf->AA->ae->Option (Cf × AA × ae)
 |.run c K,α,S=>match c with
  |.skip=>some (.out .normal K,α,S)
  |.region _ ops false=>some (.bD ops.toList ops.toList K,α,S)
  |.seq a b=>some (.run a (.seq b::K),α,S)
  |.cond c a b=>match α.ev c with
   |.v (.bool true)=>some (.run a K,α,S)
   |.v (.bool false)=>some (.run b K,α,S)
   |_=>none
  |.block id c=>some (.run c (.qY id::K),α,S)
  |.exit id=>some (.out (.exit id) K,α,S)
  |.ret=>some (.out .ret K,α,S)
  |_=>none
 |.out ex K,α,S=>match K with
  |[]=>none
  |.seq b::K=>match ex with
   |.normal=>some (.run b K,α,S)
   |e=>some (.out e K,α,S)
  |.qY id::K=>match ex with
   |.exit j=>match Nat.beq j id with
    |true=>some (.out .normal K,α,S)
    |false=>some (.out (.exit j) K,α,S)
   |e=>some (.out e K,α,S)
 |.bD ops l K,α,S=>match BB P n ops l α S with
  |([],aA,S')=>some (.out .normal K,aA,S')
  |(_::_,_,_)=>none
 |.dr ops l K,α,S=>match BB P n ops l α S with
  |([],aA,S')=>some (.out .normal K,aA,S')
  |(_::_,_,_)=>none
end
section
variable {P:Program}{w0:World}{rd:Bool}{n:Nat}{α aA:AA}{S S':ae}{Q Q':Exit->AA->ae->Prop}{c a b:Code}{ex:Exit}
theorem Wp.of (h:cu P w0 rd n c α S ex aA S') (k:Q ex aA S'):Wp P w0 rd n c Q α S:=⟨_,_,_,h,k⟩
theorem Wp.seq (h:Wp P w0 rd n a (fun ex α S=>match ex with|.normal=>Wp P w0 rd n b Q α S|e=>Q e α S) α S):Wp P w0 rd n (.seq a b) Q α S:=by
 obtain⟨ex,bK,bZ,h1,h2⟩:=h
 cases ex with
 |normal =>
  obtain⟨ex',aA,S',h3,h4⟩:=h2
  exact⟨ex',aA,S',cu.seq h1 h3,h4⟩
 |_=>exact⟨_,bK,bZ,cu.QZ h1 (by simp),h2⟩
theorem Wp.cond {o:Operand}{t:Bool}(ho:α.ev o=.v (.bool t)) (h:Wp P w0 rd n (if t then a else b) Q α S):Wp P w0 rd n (.cond o a b) Q α S:=by
 obtain⟨ex,aA,S',h1,h2⟩:=h
 exact⟨ex,aA,S',cu.cond ho h1,h2⟩
theorem Wp.block {id:Nat}(h:Wp P w0 rd n c (fun ex α S=>match ex with|.exit j=>(match Nat.beq j id with|true=>Q .normal α S|false=>Q (.exit j) α S)|e=>Q e α S) α S):Wp P w0 rd n (.block id c) Q α S:=by
 obtain⟨ex,aA,S',h1,h2⟩:=h
 cases ex with
 |exit j =>
  simp only at h2
  split at h2
  ·rename_i hj
   have:=Nat.eq_of_beq_eq_true hj
   subst this
   exact⟨_,aA,S',cu.F5 h1,h2⟩
  ·rename_i hj
   have bG:j ≠ id:=fun e=>by subst e;rw [Nat.beq_refl] at hj;cases hj
   exact⟨_,aA,S',cu.block h1 (fun e=>bG (by injection e)),h2⟩
 |_=>exact⟨_,aA,S',cu.block h1 (by simp),h2⟩
theorem mg.wp {id:Nat}{ops:Array Oper}(nu:(P.follows .mixedOrders && zb ops)=true) (h:mg P w0 n ops.toList ops.toList (fun α S=>Q .normal α S) α S):Wp P w0 rd n (.region id ops true) Q α S:=by
 simp only [Bool.and_eq_true] at nu
 obtain⟨aA,S',h1,h2⟩:=h 0 rfl
 rw [Array.length_toList,<-List.range_eq_range'] at h1
 exact⟨_,aA,S',cu.draw nu.1 nu.2 h1,h2⟩
end
section
variable {P:Program}{w0:World}{rd:Bool}{n:Nat}{α aA:AA}{S S':ae}{Q:Exit->AA->ae->Prop}{c a b:Code}{ex:Exit}{K:List It}{r:AV}{ops rest:List Oper}{o:Oper}
def Bl:Exit->Bool|.normal=>true|.ret=>true|_=>false
end
def eN (i:Int):Value:=.int .i64 i
def kF:List (Value × AV)->Int->Option Nat
 |[],_=>none
 |p::es,i=>match p.1 with
  |.int _ n=>match decide (n=i) with|true=>some 0|false=>(kF es i).map (·+1)
  |_=>(kF es i).map (·+1)
def vC (es:List (Value × AV)) (i:Int):Option AV:=match kF es i with|some j=>(es[j]?).map (·.2)|none=>none
def wP (es:List (Value × AV)) (i:Int) (b:AV):List (Value × AV):=match kF es i with|some j=>es.set j (eN i,b)|none=>es++[(eN i,b)]
def rN (es:List (Value × AV)):Prop:=∀ p ∈ es,∃ n,p.1=eN n
theorem z_:∀ {es:List (Value × AV)}{i:Int}{j:Nat},rN es->kF es i=some j->∃ a,es[j]?=some (eN i,a)
 |[],i,j,_,h=>by cases h
 |p::es,i,j,hk,h=>by
  obtain⟨n,hn⟩:=hk p (by simp)
  simp only [kF,hn,eN] at h
  split at h
  ·rename_i e
   obtain rfl:=of_decide_eq_true e
   obtain rfl:=Option.some.inj h
   exact⟨p.2,by rw [List.getElem?_cons_zero,<-hn]⟩
  ·cases hx:kF es i with
   |none=>rw [hx] at h;cases h
   |some j' =>
    rw [hx] at h
    obtain rfl:=Option.some.inj h
    obtain⟨a,ha⟩:=z_ (fun q hq=>hk q (by simp [hq])) hx
    exact⟨a,by simpa using ha⟩
theorem ze {kk:IntKind}{i:Int}:∀ {es:List (Value × AV)}{L:List MapEntry}{o:Nat},rN es->L.length=es.length->(∀ (j:Nat) (k:Value) (a:AV) (e:MapEntry),es[j]?=some (k,a)->L[j]?=some e->e.key=k) ->
  Instr.findNow (.int kk) (eN i) L o=some (match kF es i with|some j=>(L[j]?).map fun e=>(j+o,e.val)|none=>none)
 |[],[],o,_,_,_=>rfl
 |p::es,e::L,o,hk,hl,h=>by
  obtain⟨n,hn⟩:=hk p (by simp)
  have TA:e.key=eN n:=by rw [h 0 p.1 p.2 e rfl rfl,hn]
  simp only [Instr.findNow,TA,eN,Instr.sameNow,if_true,kF,hn]
  by_cases c:n=i
  ·subst c
   simp
  ·have c':¬ i=n:=fun e=>c e.symm
   simp only [c,decide_false,beq_eq_false_iff_ne.2 c']
   have ih:=ze (kk:=kk) (i:=i) (es:=es) (L:=L) (o:=o+1) (fun q hq=>hk q (by simp [hq])) (by simpa using hl) (fun j k a e' h1 h2=>h (j+1) k a e' (by simpa using h1) (by simpa using h2))
   simp only [eN] at ih
   rw [ih]
   congr 1
   cases kF es i with
   |none=>rfl
   |some j=>simp only [Option.map_some,List.getElem?_cons_succ];congr 1;funext x;congr 1;omega
 |[],_::_,_,_,hl,_=>by simp at hl
 |_::_,[],_,_,hl,_=>by simp at hl
section
variable {P:Program}{w0:World}{n:Nat}{o:Oper}{α:AA}{S S':ae}{r:AV}
theorem yc {g:Gh}{w:World}{k:Nat}{v:Value}(h:aJ g w (.mp k) v):v=.map (some (g.ob k))/\g.al k:=by
 cases h with
 |mp hk=>exact⟨rfl,hk⟩
theorem run_checkKey {kt:TypeId}{kk:IntKind}{w:World}(h:P.underlying kt=some (.int kk)) (b:Bool) (i:Int):(Instr.checkKey b 10000 kt (eN i)).run P w=.ok () w:=by
 rw [show (10000:Nat)=9999+1 from rfl,Instr.checkKey]
 simp [run_underlying h,eN,Sem.run_bind]
theorem run_findKey {kt:TypeId}{kk:IntKind}{w:World}{i:Int}{L:List MapEntry}{x:Option (Nat × Value)}(h:P.underlying kt=some (.int kk)) (hx:Instr.findNow (.int kk) (eN i) L 0=some x):(Instr.findKey kt (eN i) L).run P w=.ok x w:=by
 simp only [Instr.findKey,Sem.run_bind,run_underlying h,Result.andThen_ok,hx,Sem.run_pure]
theorem jV {w:World}{b:Nat}{es:Array MapEntry}{clock:Nat}(h:w.heap[b]?=some (.map es clock)):(getObj b).run P w=.ok (.map es clock) w:=by
 simp [getObj,Sem.run,h]
theorem KH {g:Gh}{w:World}{es:List (Value × AV)}{entries:Array MapEntry}(bH:entries.size=es.length) (he:∀ (i:Nat) (k:Value) (a:AV),es[i]?=some (k,a)->∃ e:MapEntry,entries[i]?=some e/\e.key=k/\aJ g w a e.val) (hk:rN es) {kk:IntKind}(i:Int) :
  Instr.findNow (.int kk) (eN i) entries.toList 0=some (match kF es i with|some j=>(entries[j]?).map fun e=>(j,e.val)|none=>none):=by
 have h:=ze (kk:=kk) (i:=i) (es:=es) (L:=entries.toList) (o:=0) hk (by simpa using bH) (fun j k a e h1 h2=>by
  obtain⟨e',h3,h4,_⟩:=he j k a h1
  rw [Array.getElem?_toList,h3] at h2
  rw [<-Option.some.inj h2];exact h4)
 simpa using h
theorem KY {t kt et:TypeId}{kk:IntKind}{x i:Operand}{k:Nat}{es:List (Value × AV)}{z:Value}{m:Int}{c:Bool}(ho:o.op=.lookup t x i c) (ht:P.underlying t=some (.map kt et)) (zf:P.underlying kt=some (.int kk)) (hz:c_ P et=some z)
  (hx:α.ev x=.mp k) (hS:S.get k=some (.mp es)) (hk:rN es) (hi:α.ev i=.v (eN m)):bf P w0 n o α S (match vC es m with|some a=>(if c then .bg [a,.v (.bool true)] else a)|none=>(if c then .bg [lift z,.v (.bool false)] else lift z)) S:=by
 refine bf.quiet fun A g q w dg hA=>?_
 have h1:=hA.ev x
 have h2:=hA.ev i
 rw [hx] at h1
 rw [hi] at h2
 obtain⟨e1,bN⟩:=yc h1
 have e2:=ca h2
 obtain⟨_,_,entries,clock,p1,p2,p3⟩:=dg.cC k _ hS bN
 have hf:=KH p2 p3 hk (kk:=kk) m
 obtain⟨inf,aeV,o6⟩:∃ inf,P.info? et=some inf/\inf.zero=some z:=by
  unfold c_ at hz
  cases hp:P.info? et with
  |none=>rw [hp] at hz;cases hz
  |some inf=>rw [hp] at hz;exact⟨inf,rfl,hz⟩
 have fin:∀ (v:Value) (b:Bool) (a:AV),aJ g w a v->aJ g w (if c then .bg [a,.v (.bool b)] else a) (if c then .tuple #[v,.bool b] else v):=by
  intro v b a hr
  cases c with
  |false=>exact hr
  |true =>
   refine .bg rfl fun i y x hy hx=>?_
   match i with
   |0=>simp at hy hx;subst hy hx;exact hr
   |1=>simp at hy hx;subst hy hx;exact .v
   |i+2=>simp at hy
 unfold vC
 cases hj:kF es m with
 |none =>
  rw [hj] at hf
  refine⟨_,?_,fin z false (lift z) (w7 z)⟩
  simp only [execOp,ho,e1,e2,Instr.lookup,Sem.run_bind,run_underlying ht,Result.andThen_ok,jV p1,Sem.run_pure,run_checkKey zf,run_findKey zf hf,mw hz]
 |some j =>
  obtain⟨a,ha⟩:=z_ hk hj
  obtain⟨e,q1,q2,q3⟩:=p3 j _ a ha
  rw [hj] at hf
  simp only [q1,Option.map_some] at hf
  simp only [ha,Option.map_some]
  refine⟨_,?_,fin e.val true a q3⟩
  simp only [execOp,ho,e1,e2,Instr.lookup,Sem.run_bind,run_underlying ht,Result.andThen_ok,jV p1,Sem.run_pure,run_checkKey zf,run_findKey zf hf]
theorem St.CA {A:Nat->Prop}{g:Gh}{w:World}{k:Nat}{es es':List (Value × AV)}{entries entries':Array MapEntry}{clock clock':Nat}(hS:St w0 A g S w) (hk:S.get k=some (.mp es)) (ha:g.al k) (hm:w.heap[g.ob k]?=some (.map entries clock))
  (bH:entries'.size=es'.length) (he:∀ (i:Nat) (k:Value) (a:AV),es'[i]?=some (k,a)->∃ e:MapEntry,entries'[i]?=some e/\e.key=k/\aJ g w a e.val) :
  ∃ w',(setObj (g.ob k) (.map entries' clock')).run P w=.ok () w'/\St w0 A g (S.set k (some (.mp es'))) w'/\Ext A g w g w':=by
 have au:=(hS.cC k _ hk ha).2.1
 have sQ:({ w with heap:=w.heap.setIfInBounds (g.ob k) (.map entries' clock') }:World).heap[g.ob k]?=some (.map entries' clock'):=by simp [Array.getElem?_setIfInBounds,au]
 obtain⟨h1,h2⟩:=hS.putObj (ob:=.mp es') hk ha (fun J=>⟨by simp,by simp⟩) (x':=.map entries' clock') rfl (fun q=>by simp only [World.cell?,sQ,hm]) (fun hL hb=>⟨entries',clock',hb,bH,fun i key a hi=>by
  obtain⟨e,q1,q2,q3⟩:=he i key a hi
  exact⟨e,q1,q2,q3.later hL⟩⟩)
 exact⟨_,by simp [setObj,Sem.run,hm],h2,h1⟩
theorem I9 {t:TypeId}(ho:o.op=.makeMap t none):bf P w0 n o α S (.mp S.nx) (S.new (.mp [])):=by
 intro A g q w hS hA
 obtain⟨h1,h2⟩:=hS.new (.map #[] 0) (.mp []) 0 (fun J=>by simp) (fun hL=>⟨#[],0,dk,rfl,fun i k a h=>by simp at h⟩)
 have hr:=aJ.mp (g:=g.new S.nx w.heap.size 0) (w:=w.alloc (.map #[] 0)) (k:=S.nx) (.inr rfl)
 rw [show (g.new S.nx w.heap.size 0).ob S.nx=w.heap.size from aE _ _ _] at hr
 refine⟨_,_,_,.inl ?_,hr,h2,h1⟩
 simp [execOp,ho,Instr.makeMap,newObj,Sem.run]
theorem FQ {t kt et:TypeId}{x:Operand}{kk:IntKind}{m:Int}(ho:o.op=.makeMap t (some x)) (ht:P.underlying t=some (.map kt et)) (hx:α.ev x=.v (.int kk m)):bf P w0 n o α S (.mp S.nx) (S.new (.mp [])):=by
 intro A g q w hS hA
 have h0:=hA.ev x
 rw [hx] at h0
 have e0:=ca h0
 obtain⟨h1,h2⟩:=hS.new (.map #[] 0) (.mp []) 0 (fun J=>by simp) (fun hL=>⟨#[],0,dk,rfl,fun i k a h=>by simp at h⟩)
 have hr:=aJ.mp (g:=g.new S.nx w.heap.size 0) (w:=w.alloc (.map #[] 0)) (k:=S.nx) (.inr rfl)
 rw [show (g.new S.nx w.heap.size 0).ob S.nx=w.heap.size from aE _ _ _] at hr
 refine⟨_,_,_,.inl ?_,hr,h2,h1⟩
 simp [execOp,ho,Instr.makeMap,newObj,Sem.run,e0,run_underlying ht,asInt,asIntOf]
theorem B4 {t kt et:TypeId}{kk:IntKind}{x i y:Operand}{k:Nat}{es:List (Value × AV)}{m:Int}{b:AV}(ho:o.op=.mapUpdate t x i y) (ht:P.underlying t=some (.map kt et)) (zf:P.underlying kt=some (.int kk))
  (hx:α.ev x=.mp k) (hS:S.get k=some (.mp es)) (hk:rN es) (hi:α.ev i=.v (eN m)) (hy:α.ev y=b):bf P w0 n o α S (.v undef) (S.set k (some (.mp (wP es m b)))):=by
 intro A g q w dg hA
 have h1:=hA.ev x
 have h2:=hA.ev i
 have h3:=hA.ev y
 rw [hx] at h1
 rw [hi] at h2
 rw [hy] at h3
 obtain⟨e1,bN⟩:=yc h1
 have e2:=ca h2
 obtain⟨v,hv⟩:∃ v,q.eval y=v:=⟨_,rfl⟩
 rw [hv] at h3
 obtain⟨_,_,entries,clock,p1,p2,p3⟩:=dg.cC k _ hS bN
 have hf:=KH p2 p3 hk (kk:=kk) m
 have hlen:entries.toList.length=entries.size:=Array.length_toList
 unfold wP
 cases hj:kF es m with
 |none =>
  rw [hj] at hf
  obtain⟨w',q1,q2,q3⟩:=dg.CA (P:=P) hS bN p1 (entries':=entries.push { key:=eN m,val:=v,born:=clock }) (clock':=clock+1) (es':=es++[(eN m,b)]) (by simp [p2]) (fun i key a hi=>by
   by_cases c:i < es.length
   ·rw [List.getElem?_append_left c] at hi
    obtain⟨e,r1,r2,r3⟩:=p3 i key a hi
    exact⟨e,by rw [Array.getElem?_push_lt (by omega)];rw [Array.getElem?_eq_getElem (by omega)] at r1;exact r1,r2,r3⟩
   ·rw [List.getElem?_append_right (by omega)] at hi
    have TB:i=es.length:=by
     have:=(List.getElem?_eq_some_iff.1 hi).1
     simp at this;omega
    subst TB
    simp at hi
    obtain⟨rfl,rfl⟩:=hi
    exact⟨{ key:=eN m,val:=v,born:=clock },by rw [<-p2];simp,rfl,h3⟩)
  refine⟨undef,w',g,.inr ⟨?_,rfl⟩,.v,q2,q3⟩
  simp only [execOp,ho,e1,e2,hv,Instr.mapUpdate,Sem.run_bind,run_underlying ht,Result.andThen_ok,jV p1,run_checkKey zf,run_findKey zf hf,q1,Sem.run_pure]
 |some j =>
  obtain⟨a,ha⟩:=z_ hk hj
  obtain⟨e,r1,r2,r3⟩:=p3 j _ a ha
  rw [hj] at hf
  simp only [r1,Option.map_some] at hf
  have lC:j < entries.size:=(Array.getElem?_eq_some_iff.1 r1).1
  obtain⟨w',q1,q2,q3⟩:=dg.CA (P:=P) hS bN p1 (entries':=entries.modify j fun e=>{ e with key:=eN m,val:=v }) (clock':=clock) (es':=es.set j (eN m,b)) (by simp [p2]) (fun i key a' hi=>by
   rw [List.getElem?_set] at hi
   by_cases c:j=i
   ·subst c
    rw [if_pos rfl,if_pos (by omega)] at hi
    simp only [Option.some.injEq,Prod.mk.injEq] at hi
    obtain⟨rfl,rfl⟩:=hi
    exact⟨{ e with key:=eN m,val:=v },by rw [Array.getElem?_modify,if_pos rfl,r1];rfl,rfl,h3⟩
   ·rw [if_neg c] at hi
    obtain⟨e',s1,s2,s3⟩:=p3 i key a' hi
    exact⟨e',by rw [Array.getElem?_modify,if_neg c];exact s1,s2,s3⟩)
  refine⟨undef,w',g,.inr ⟨?_,rfl⟩,.v,q2,q3⟩
  have jf:(Instr.keyThatStays (((entries[j]?).map (·.key)).getD (eN m)) (eN m)).run P w=.ok (eN m) w:=by
   rw [r1]
   simp [Instr.keyThatStays,r2,Instr.sameBits,eN]
  simp only [execOp,ho,e1,e2,hv,Instr.mapUpdate,Sem.run_bind,run_underlying ht,Result.andThen_ok,jV p1,run_checkKey zf,run_findKey zf hf,jf,q1,Sem.run_pure]
end
inductive QO where
 |t (n:Nat)
 |c (a:AV)
def QO.ev (f:Nat->AV):QO->AV
 |.t n=>f n
 |.c a=>a
def qo:Operand->QO
 |.tmp t=>.t t
 |.const v=>.c (lift v)
 |.global g=>.c (.v (.pointer (some ⟨g,0,none⟩)))
 |.func f=>.c (.v (.func (.func f) #[] #[]))
theorem aR {α:AA}(x:Operand):(qo x).ev α.tm=α.ev x:=by cases x<;>rfl
inductive LK where
 |agg (n:Nat)
 |cell
inductive SK where
 |str
 |sl (n:Nat)
inductive BK where
 |b
 |s
 |o
inductive dm where
 |mv (x:QO)
 |pick (c a b:QO)
 |alloc (cs:List AV)
 |box (x:QO)
 |build (cs:List AV) (parts:List (Nat × Nat × QO))
 |rows (n:Nat) (rows:List (List AV)) (parts:List (Nat × QO))
 |load (k:LK) (x:QO)
 |store (n:Nat) (x b:QO)
 |bin (op:BinOp) (isB:BK) (x y:QO)
 |not (x:QO)
 |neg (x:QO)
 |conv (k:IntKind) (x:QO)
 |pd (x:QO)
 |vA (off:Nat) (x:QO)
 |field (k:LK) (off:Nat) (x:QO)
 |qV (n:Nat) (x i:QO)
 |ow (len n:Nat) (x i:QO)
 |sS (x i:QO)
 |l8 (len n:Nat) (k:LK) (x i:QO)
 |slice (k:SK) (x:QO) (lo hi mx:Option QO)
 |extract (x:QO) (i:Nat)
 |j8 (z:List AV) (by_:Nat) (l c:QO)
 |uP (x:QO)
 |pz (x:QO)
 |BW (f:Fn) (first cap:List QO)
 |vB (x:QO)
 |call (f:QO) (args:List QO)
 |len (str:Bool) (x:QO)
 |append (sz by_:Nat) (a b:QO)
 |min (x y:QO)
 |max (x y:QO)
 |Mr (x:QO)
 |fH (x:Option QO)
 |look (z:AV) (c:Bool) (x i:QO)
 |jL (x i b:QO)
 |ug (x:QO)
 |zp (t:Nat) (x:QO)
 |eqs (t:Nat) (x y:QO)
 |del (x i:QO)
 |copy (sz:Nat) (a b:QO)
 |sK (z:List AV) (a:QO)
 |Kj (a:QO)
 |cap (a:QO)
 |zW (z:List AV) (by_:Nat) (a m:QO)
 |eM (kt:Nat) (z:AV) (c:Bool) (x i:QO)
 |ky (kt:Nat) (x i b:QO)
 |VA (x i:QO)
 |VB (x i b:QO)
 |assert (t:Nat) (c:Bool) (x:QO)
def eF (T:Tables) (t:TypeId):Option TypeDesc :=
 match T.info? t with
 |some { desc:=.named _ u,.. }=>(T.info? u).map (·.desc)
 |some i=>some i.desc
 |none=>none
def agT (T:Tables) (t:TypeId):Option Bool :=
 match eF T t with
 |some (.struct _)|some (.array _ _)=>some true
 |some _=>some false
 |none=>none
def pa (T:Tables) (t:TypeId):Option Nat:=(T.info? t).map (·.size)
def Qn (T:Tables) (t:TypeId):Option Nat:=(T.info? t).map (·.bytes)
def zg (T:Tables) (t:TypeId):Option Value:=(T.info? t).bind (·.zero)
def DT (T:Tables) (t:TypeId):Option TypeId:=match eF T t with|some (.slice e)=>some e|_=>none
def plT (T:Tables) (fs:Array Field) (i:Nat):Option (Nat × Nat) :=
 match fs[i]? with
 |some f=>match pa T f.type with|some n=>some (f.offset,n)|none=>none
 |none=>none
def DU (T:Tables) (t:TypeId):Option LK:=match agT T t,pa T t with
 |some true,some n=>some (.agg n)
 |some false,_=>some .cell
 |_,_=>none
section
variable {P:Program}
theorem b9 (t:TypeId):eF P.toTables t=P.underlying t:=rfl
theorem V6 (t:TypeId):agT P.toTables t=F7 P t:=rfl
theorem dY (t:TypeId):pa P.toTables t=cQ P t:=rfl
theorem j7 (t:TypeId):Qn P.toTables t=fN P t:=rfl
theorem gD (t:TypeId):zg P.toTables t=c_ P t:=rfl
theorem jz (t:TypeId):DT P.toTables t=fk P t:=rfl
theorem nm (fs:Array Field):plT P.toTables fs=Ct P fs:=rfl
end
def qh (k:LK) (row:List AV) (j:Nat):Option AV:=match k with
 |.agg n=>match Nat.ble (j+n) row.length with|true=>some (.agg (F8 row j n))|false=>none
 |.cell=>row[j]?
theorem uK {P:Program}{t:TypeId}{k:LK}(h:DU P.toTables t=some k) (row:List AV) (j:Nat):lf P t row j=qh k row j:=by
 unfold DU at h
 simp only [V6,dY] at h
 unfold lf
 split at h
 ·rename_i n h1 h2;obtain rfl:=Option.some.inj h;rw [h1,h2];rfl
 ·rename_i h1;obtain rfl:=Option.some.inj h;rw [h1];rfl
 ·cases h
def kQ (k:LK) (S:ae):AV->Option AV
 |.ip row=>qh k row 0
 |.pt b sz i j=>match S.get b with
  |some (.arr sz' rows _ _)=>match Nat.beq sz sz' with
   |true=>match rows[i]? with
    |some row=>qh k row j
    |none=>none
   |false=>none
  |_=>none
 |_=>none
theorem Bh {P:Program}{t:TypeId}{k:LK}(h:DU P.toTables t=some k) (S:ae) (a:AV):q_ P S t a=kQ k S a:=by
 unfold q_ kQ
 simp only [uK h]
 rfl
def DV (place:Nat->Option (Nat × Nat)):List (Nat × Operand)->Option (List (Nat × Nat × QO))
 |[]=>some []
 |(i,x)::rest=>match place i with
  |some (off,size)=>match DV place rest with
   |some l=>some ((off,size,qo x)::l)
   |none=>none
  |none=>none
def BC (f:Nat->AV):List AV->List (Nat × Nat × QO)->Option (List AV)
 |cells,[]=>some cells
 |cells,(off,size,x)::rest=>match Nat.beq (aZ (x.ev f)).length size && Nat.ble (off+size) cells.length && (aZ (x.ev f)).all cn with
  |true=>BC f (nK cells off (aZ (x.ev f))) rest
  |false=>none
theorem xC {α:AA}{place:Nat->Option (Nat × Nat)}:∀ {l:List (Nat × Operand)}{l':List (Nat × Nat × QO)}{cells:List AV},DV place l=some l' ->
  s7 place cells (l.map fun (i,x)=>(i,α.ev x))=BC α.tm cells l'
 |[],l',cells,h=>by obtain rfl:=Option.some.inj h;rfl
 |(i,x)::rest,l',cells,h=>by
  simp only [DV] at h
  split at h
  ·rename_i off size hp
   split at h
   ·rename_i l hl
    obtain rfl:=Option.some.inj h
    simp only [List.map_cons,s7,hp,BC,aR]
    cases hc:(Nat.beq (aZ (α.ev x)).length size && Nat.ble (off+size) cells.length && (aZ (α.ev x)).all cn) with
    |true=>simp only [];rw [xC hl]
    |false=>rfl
   ·cases h
  ·cases h
def res (T:Tables):Op->Option dm
 |.move x=>some (.mv (qo x))
 |.assign x=>some (.mv (qo x))
 |.pick c a b=>some (.pick (qo c) (qo a) (qo b))
 |.alloc e=>match zg T e with
  |some z=>some (.alloc (z.cells.toList.map bV))
  |none=>none
 |.box _ x=>some (.box (qo x))
 |.build t parts=>match zg T t with
  |some (.agg cs)=>match eF T t with
   |some (.struct fs)=>match fs.toList.all fun f=>(pa T f.type).isSome with
    |true=>match DV (plT T fs) parts.toList with
     |some l=>some (.build (cs.toList.map bV) l)
     |none=>none
    |false=>none
   |some (.array _ e)=>match pa T e with
    |some n=>match DV (fun i=>some (i*n,n)) parts.toList with
     |some l=>some (.build (cs.toList.map bV) l)
     |none=>none
    |none=>none
   |_=>none
  |_=>none
 |.buildSlice t len parts=>match DT T t with
  |some e=>match zg T e,pa T e with
   |some z,some n=>match Nat.ble (len*n) 16777216 && Nat.beq z.cells.size n && Nat.blt 0 n with
    |true=>some (.rows n (List.replicate len (z.cells.toList.map bV)) (parts.toList.map fun (i,x)=>(i,qo x)))
    |false=>none
   |_,_=>none
  |none=>none
 |.load t x=>match DU T t with
  |some k=>some (.load k (qo x))
  |none=>none
 |.store t x b=>match pa T t with
  |some n=>some (.store n (qo x) (qo b))
  |none=>none
 |.binOp op t x y _=>match eF T t with
  |some .bool=>some (.bin op .b (qo x) (qo y))
  |some (.slice _)=>some (.bin op .s (qo x) (qo y))
  |some (.struct _)=>match op with
   |.eql=>some (.eqs t (qo x) (qo y))
   |_=>none
  |_=>some (.bin op .o (qo x) (qo y))
 |.unOp op _ x=>match op with
  |.not=>some (.not (qo x))
  |.neg=>some (.neg (qo x))
  |_=>none
 |.convert src dst x=>match eF T src,eF T dst with
  |some (.int _),some (.int k)=>some (.conv k (qo x))
  |some .string,some .string=>some (.pd (qo x))
  |some (.slice e),some .string=>match eF T e with
   |some (.int .u8)=>some (.Mr (qo x))
   |_=>none
  |_,_=>none
 |.fieldAddr s x f=>match eF T s with
  |some (.struct fs)=>match fs[f]? with
   |some fd=>match pa T fd.type with
    |some (_+1)=>some (.vA fd.offset (qo x))
    |_=>none
   |none=>none
  |_=>none
 |.field t x f=>match eF T t with
  |some (.struct fs)=>match fs[f]? with
   |some fd=>match DU T fd.type with
    |some k=>some (.field k fd.offset (qo x))
    |none=>none
   |none=>none
  |_=>none
 |.indexAddr t x i=>match eF T t with
  |some (.slice e)=>match pa T e with
   |some n=>some (.qV n (qo x) (qo i))
   |none=>none
  |some (.array len e)=>match pa T e with
   |some n=>some (.ow len n (qo x) (qo i))
   |none=>none
  |_=>none
 |.index t x i=>match eF T t with
  |some .string=>some (.sS (qo x) (qo i))
  |some (.array len e)=>match pa T e,DU T e with
   |some n,some k=>some (.l8 len n k (qo x) (qo i))
   |_,_=>none
  |_=>none
 |.slice t x lo hi mx=>match eF T t with
  |some .string=>some (.slice .str (qo x) (lo.map qo) (hi.map qo) (mx.map qo))
  |some (.slice e)=>match pa T e with
   |some n=>some (.slice (.sl n) (qo x) (lo.map qo) (hi.map qo) (mx.map qo))
   |none=>none
  |_=>none
 |.extract x i=>some (.extract (qo x) i)
 |.makeSlice t l c=>match DT T t with
  |some e=>match zg T e,pa T e,Qn T e with
   |some z,some sz,some by_=>match Nat.beq z.cells.size sz && Nat.blt 0 sz with
    |true=>some (.j8 (z.cells.toList.map bV) by_ (qo l) (qo c))
    |false=>none
   |_,_,_=>none
  |none=>none
 |.range t x=>match eF T t with
  |some .string=>some (.uP (qo x))
  |_=>none
 |.next x isStr=>match isStr with
  |true=>some (.pz (qo x))
  |false=>none
 |.makeFunc f first cap=>some (.BW f (first.toList.map qo) (cap.toList.map qo))
 |.nilCheck x=>some (.vB (qo x))
 |.call c=>match c.callee with
  |.value f=>some (.call (qo f) (c.args.toList.map qo))
  |.builtin b=>match b,c.argTypes.toList,c.args.toList with
   |.len,[t],[x]=>match eF T t with
    |some (.slice _)=>some (.len false (qo x))
    |some .string=>some (.len true (qo x))
    |_=>none
   |.append,[t,t2],[a,b]=>match DT T t,DT T t2 with
    |some e,some _=>match zg T e,pa T e,Qn T e with
     |some z,some sz,some by_=>match Nat.beq z.cells.size sz && Nat.blt 0 by_ with
      |true=>some (.append sz by_ (qo a) (qo b))
      |false=>none
     |_,_,_=>none
    |some e,none=>match eF T t2 with
     |some (.int _)=>match zg T e,pa T e,Qn T e with
      |some z,some sz,some by_=>match Nat.beq z.cells.size sz && Nat.blt 0 by_ with
       |true=>some (.zW (z.cells.toList.map bV) by_ (qo a) (qo b))
       |false=>none
      |_,_,_=>none
     |_=>none
    |none,_=>none
   |.delete,[t,_],[x,i]=>match eF T t with
    |some (.map kt _)=>match eF T kt with
     |some (.int _)=>some (.del (qo x) (qo i))
     |_=>none
    |_=>none
   |.copy,[t,t2],[a,b]=>match DT T t,DT T t2 with
    |some e,some _=>match pa T e with
     |some sz=>some (.copy sz (qo a) (qo b))
     |none=>none
    |_,_=>none
   |.clear,[t],[a]=>match eF T t with
    |some (.slice e)=>match zg T e with
     |some z=>some (.sK (z.cells.toList.map bV) (qo a))
     |none=>none
    |some (.map _ _)=>some (.Kj (qo a))
    |_=>none
   |.cap,[t],[a]=>match eF T t with
    |some (.slice _)=>some (.cap (qo a))
    |_=>none
   |.min,_,[x,y]=>some (.min (qo x) (qo y))
   |.max,_,[x,y]=>some (.max (qo x) (qo y))
   |_,_,_=>none
  |.invoke _ _=>none
 |.makeMap t r=>match eF T t with
  |some (.map _ _)=>some (.fH (r.map qo))
  |_=>none
 |.lookup t x i c=>match eF T t with
  |some (.map kt et)=>match eF T kt,zg T et with
   |some (.int _),some z=>some (.look (lift z) c (qo x) (qo i))
   |some (.struct _),some z=>some (.eM kt (lift z) c (qo x) (qo i))
   |some .string,some z=>some (.eM kt (lift z) c (qo x) (qo i))
   |_,_=>none
  |_=>none
 |.mapUpdate t x i y=>match eF T t with
  |some (.map kt _)=>match eF T kt with
   |some (.int _)=>some (.jL (qo x) (qo i) (qo y))
   |some (.struct _)=>some (.ky kt (qo x) (qo i) (qo y))
   |some .string=>some (.ky kt (qo x) (qo i) (qo y))
   |_=>none
  |_=>none
 |.mapEntry t x i=>match eF T t with
  |some (.map kt _)=>match eF T kt with
   |some (.int _)=>some (.VA (qo x) (qo i))
   |_=>none
  |_=>none
 |.entryStore t x i y=>match eF T t with
  |some (.map kt _)=>match eF T kt with
   |some (.int _)=>some (.VB (qo x) (qo i) (qo y))
   |_=>none
  |_=>none
 |.typeAssert x _ t c=>match eF T t with
  |some (.interface _)=>none
  |some _=>some (.assert t c (qo x))
  |none=>none
 |.panic x=>some (.ug (qo x))
 |.makeInterface t x=>some (.zp t (qo x))
 |_=>none
def gU (q:dm) (f:Nat->AV) (S:ae):Option (AV × ae) :=
 match q with
 |.mv x=>some (x.ev f,S)
 |.pick c a b=>match c.ev f with
  |.v (.bool true)=>some (a.ev f,S)
  |.v (.bool false)=>some (b.ev f,S)
  |_=>none
 |.alloc cs=>z9 S cs
 |.box x=>match (aZ (x.ev f)).all cn with
  |true=>z9 S (aZ (x.ev f))
  |false=>none
 |.build cs parts=>match BC f cs parts with
  |some l=>some (.agg l,S)
  |none=>none
 |.rows n rows parts=>match s8 n rows (parts.map fun (i,x)=>(i,x.ev f)) with
  |some rows=>some (.sl true rows,S)
  |none=>none
 |.load k x=>match kQ k S (x.ev f) with
  |some a=>some (a,S)
  |none=>none
 |.store n x b=>match b.ev f,x.ev f with
  |bv,.pt k sz 0 j=>match S.get k with
   |some (.arr sz' [row] 0 ex)=>match Nat.beq sz sz' && (aZ bv).all cn && Nat.beq n (aZ bv).length with
    |true=>match Nat.ble (j+(aZ bv).length) row.length with
     |true=>match S with|⟨g,x⟩=>some (.v undef,⟨bO g k (some (.arr sz [nK row j (aZ bv)] 0 ex)),x⟩)
     |false=>none
    |false=>none
   |_=>none
  |_,_=>none
 |.not x=>match x.ev f with
  |.v (.bool true)=>some (.v (.bool false),S)
  |.v (.bool false)=>some (.v (.bool true),S)
  |_=>none
 |.vA off x=>match x.ev f with
  |.ip row=>some (.ip (row.drop off),S)
  |.pt k sz i j=>some (.pt k sz i (j+off),S)
  |_=>none
 |.field k off x=>match x.ev f with
  |.agg l=>match qh k l off with
   |some a=>some (a,S)
   |none=>none
  |_=>none
 |.extract x i=>match x.ev f with
  |.bg l=>match l[i]? with
   |some a=>some (a,S)
   |none=>none
  |_=>none
 |.BW g first cap=>some (.fn g (first.map (·.ev f)) (cap.map (·.ev f)),S)
 |.vB x=>match x.ev f with
  |.ip c=>some (.ip c,S)
  |.pt k sz i j=>some (.pt k sz i j,S)
  |_=>none
 |_=>none
def Gm (op:BinOp) (isB:BK):AV->AV->Option Bool
 |.v (.int k a),.v (.int k' b)=>match decide (k=k') with
  |true=>match op with
   |.eql=>some (a == b)
   |.neq=>some (a != b)
   |.lss=>some (decide (a < b))
   |.leq=>some (decide (a<=b))
   |.gtr=>some (decide (a > b))
   |.geq=>some (decide (a>=b))
   |_=>none
  |false=>none
 |.v (.string a),.v (.string b)=>match op with
  |.eql=>some (a.toList == b.toList)
  |.neq=>some (!(a.toList == b.toList))
  |.lss=>some (Op.bytesLess a.toList b.toList)
  |.leq=>some (Op.bytesLess a.toList b.toList || a.toList == b.toList)
  |.gtr=>some (!(Op.bytesLess a.toList b.toList || a.toList == b.toList))
  |.geq=>some (!Op.bytesLess a.toList b.toList)
  |_=>none
 |.v (.bool a),.v (.bool b)=>match isB,op with
  |.b,.eql=>some (a == b)
  |.b,.neq=>some (!(a == b))
  |_,_=>none
 |_,_=>none
section
variable {P:Program}{w0:World}{n:Nat}{o:Op}{α:AA}{S S':ae}{r:AV}{q:dm}{K:AV->ae->Prop}
theorem oM (hr:res P.toTables o=some q) (h:gU q α.tm S=some (r,S')):bo P w0 o α S (tO r S'):=by
 have e:∀ {a:AV}{T:ae},some (a,T)=some (r,S')->a=r/\T=S':=fun h=>by injection h with h;injection h with h1 h2;exact⟨h1,h2⟩
 have e2:∀ {q:AV × ae},some q=some (r,S')->q.1=r/\q.2=S':=fun h=>by injection h with h;subst h;exact⟨rfl,rfl⟩
 have key:∀ {T:Program->Op->AA->ae->Option (AV × ae)},o_ P o α S=some (r,S')->bo P w0 o α S (tO r S'):=fun h=>KG h
 cases o with
 |move x=>obtain rfl:=Option.some.inj hr;rw [gU,aR] at h;exact e h
 |assign x=>obtain rfl:=Option.some.inj hr;rw [gU,aR] at h;exact e h
 |pick c a b =>
  obtain rfl:=Option.some.inj hr
  simp only [gU,aR] at h
  simp only [bo]
  split at h
  ·rename_i hc;rw [hc];exact e h
  ·rename_i hc;rw [hc];exact e h
  ·cases h
 |alloc t =>
  simp only [res,b9,dY,j7,gD,jz,nm] at hr
  split at hr
  ·rename_i z hz
   obtain rfl:=Option.some.inj hr
   simp only [gU] at h
   simp only [bo,hz];rw [nU] at h;exact e2 h
  ·cases hr
 |box t x =>
  obtain rfl:=Option.some.inj hr
  simp only [gU,aR] at h
  simp only [bo]
  split at h
  ·rename_i hx;rw [hx];rw [nU] at h;exact e2 h
  ·cases h
 |build t parts =>
  simp only [res,b9,dY,j7,gD,jz,nm] at hr
  split at hr
  ·rename_i cs hz
   split at hr
   ·rename_i fs hu
    split at hr
    ·rename_i kK
     split at hr
     ·rename_i l hl
      obtain rfl:=Option.some.inj hr
      simp only [gU] at h
      simp only [bo,pZ,hz,hu,kK,xC hl]
      split at h
      ·rename_i l' mM;simp only [mM,Option.map_some];exact e h
      ·cases h
     ·cases hr
    ·cases hr
   ·rename_i le el hu
    split at hr
    ·rename_i m hm
     split at hr
     ·rename_i l hl
      obtain rfl:=Option.some.inj hr
      simp only [gU] at h
      simp only [bo,pZ,hz,hu,hm,xC hl]
      split at h
      ·rename_i l' mM;simp only [mM,Option.map_some];exact e h
      ·cases h
     ·cases hr
    ·cases hr
   ·cases hr
  ·cases hr
 |buildSlice t len parts =>
  simp only [res,b9,dY,j7,gD,jz,nm] at hr
  split at hr
  ·rename_i el he
   split at hr
   ·rename_i z m hz hs
    split at hr
    ·rename_i hb
     obtain rfl:=Option.some.inj hr
     have hm:(parts.toList.map fun (i,x)=>(i,qo x)).map (fun (i,x)=>(i,QO.ev α.tm x))=parts.toList.map fun (i,x)=>(i,α.ev x):=by
      rw [List.map_map]
      apply List.map_congr_left
      rintro⟨i,x⟩ _
      simp [aR]
     simp only [gU] at h
     rw [hm] at h
     simp only [bo,he,hz,hs,hb]
     split at h
     ·rename_i rows hrw
      simp only [hrw]
      exact e h
     ·cases h
    ·cases hr
   ·cases hr
  ·cases hr
 |load t x =>
  simp only [res,b9,dY,j7,gD,jz,nm] at hr
  split at hr
  ·rename_i k hk
   obtain rfl:=Option.some.inj hr
   simp only [gU,aR] at h
   simp only [bo]
   split at h
   ·rename_i z hz;rw [<-Bh hk] at hz;exact bm.mk hz (e h)
   ·cases h
  ·cases hr
 |store t x b =>
  simp only [res,b9,dY,j7,gD,jz,nm] at hr
  split at hr
  ·rename_i m hm
   obtain rfl:=Option.some.inj hr
   simp only [gU,aR] at h
   have hs:vt P S t (α.ev b) (α.ev x)=some S'/\AV.v undef=r:=by
    split at h
    ·rename_i k sz j hb
     unfold vt
     rw [hb]
     split at h
     ·rename_i sz' row ex hk
      split at h
      ·rename_i hc
       split at h
       ·rename_i hl
        simp only [hk,hm,hc,hl,oL]
        obtain⟨h1,h2⟩:=e h
        exact⟨by rw [<-h2],h1⟩
       ·cases h
      ·cases h
     ·cases h
    ·cases h
   simp only [bo]
   exact bm.mk (vu hs.1) ⟨hs.2,rfl⟩
  ·cases hr
 |unOp op t x =>
  simp only [res,b9,dY,j7,gD,jz,nm] at hr
  split at hr
  ·obtain rfl:=Option.some.inj hr
   simp only [gU,aR] at h
   simp only [bo]
   split at h
   ·rename_i hc;rw [hc];exact e h
   ·rename_i hc;rw [hc];exact e h
   ·cases h
  ·obtain rfl:=Option.some.inj hr
   cases h
  ·cases hr
 |fieldAddr s x f =>
  simp only [res,b9,dY,j7,gD,jz,nm] at hr
  split at hr
  ·rename_i fs hu
   split at hr
   ·rename_i fd hf
    split at hr
    ·rename_i m hm
     obtain rfl:=Option.some.inj hr
     simp only [gU,aR] at h
     simp only [bo,hu,hf,hm]
     split at h
     ·rename_i row hx;simp only [hx];exact e h
     ·rename_i k sz i j hx;simp only [hx];exact e h
     ·cases h
    ·cases hr
   ·cases hr
  ·cases hr
 |field t x f =>
  simp only [res,b9,dY,j7,gD,jz,nm] at hr
  split at hr
  ·rename_i fs hu
   split at hr
   ·rename_i fd hf
    split at hr
    ·rename_i k hk
     obtain rfl:=Option.some.inj hr
     simp only [gU,aR] at h
     simp only [bo,hu,hf]
     split at h
     ·rename_i l hx
      simp only [hx]
      split at h
      ·rename_i a ha;rw [<-uK hk] at ha;exact bm.mk ha (e h)
      ·cases h
     ·cases h
    ·cases hr
   ·cases hr
  ·cases hr
 |extract x i =>
  obtain rfl:=Option.some.inj hr
  simp only [gU,aR] at h
  simp only [bo]
  split at h
  ·rename_i l hx
   split at h
   ·rename_i a ha;simp only [hx,ha];exact e h
   ·cases h
  ·cases h
 |makeFunc f first cap =>
  obtain rfl:=Option.some.inj hr
  simp only [gU,List.map_map] at h
  have hm:∀ l:List Operand,l.map ((·.ev α.tm) ∘ qo)=l.map α.ev:=fun l=>List.map_congr_left fun x _=>aR x
  rw [hm,hm] at h
  exact e h
 |nilCheck x =>
  obtain rfl:=Option.some.inj hr
  simp only [gU,aR] at h
  simp only [bo]
  split at h
  ·rename_i c hx;rw [hx];exact e h
  ·rename_i c hx;rw [hx];exact e h
  ·cases h
 |_ =>
  simp only [res,b9,dY,j7,gD,jz,nm] at hr
  repeat' split at hr
  all_goals first|(obtain rfl:=Option.some.inj hr;cases h)|cases hr
end
end Go.Proofs.YtbofilglphfceaaGreat
