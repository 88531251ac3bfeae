import Derived.Test.YtbpabjmnhggajaaGreatOs6
namespace Go.Proofs.YtbpabjmnhggajaaGreat
set_option linter.unusedVariables false
set_option linter.unusedSimpArgs false
open Go.RowKit
section
variable {P:Program}{w0:World}{rd:Bool}{n:Nat}{α:AA}{S S':ae}{ops:Array Oper}
def A_ (acc:List Nat) (o:Oper):Nat:=o.after.toList.foldl (fun s e=>if Region.binds .any e then s ||| (2 ^ e.on ||| acc.getD e.on 0) else s) 0
def beforeL (acc:List Nat):List Oper->List Nat
 |[]=>acc
 |o::os=>beforeL (acc++[A_ acc o]) os
def pc (k:Nat):List Oper->Bool
 |[]=>true
 |o::os=>o.after.toList.all (fun e=>!Region.binds .any e || Nat.blt e.on k) && pc (k+1) os
def Ba (ops:Array Oper) (m:List Nat) (y:Nat):Nat->Bool
 |0=>true
 |x+1=>((m.getD y 0).testBit x || um ops x y) && Ba ops m y x
def xT (ops:Array Oper) (m:List Nat):Nat->Bool
 |0=>true
 |y+1=>Ba ops m y y && xT ops m y
def Ek (ops:Array Oper):Bool:=pc 0 ops.toList && xT ops (beforeL [] ops.toList) ops.size
theorem KY {acc:List Nat}{o:Oper}{x:Nat}(h:(A_ acc o).testBit x=true):∃ e ∈ o.after.toList,Region.binds .any e=true/\(x=e.on\/(acc.getD e.on 0).testBit x=true):=by
 have key:∀ (l:List Edge) (s:Nat),(l.foldl (fun s e=>if Region.binds .any e then s ||| (2 ^ e.on ||| acc.getD e.on 0) else s) s).testBit x=true->s.testBit x=true\/∃ e ∈ l,Region.binds .any e=true/\(x=e.on\/(acc.getD e.on 0).testBit x=true):=by
  intro l
  induction l with
  |nil=>exact fun s h=>.inl h
  |cons e l ih =>
   intro s h;rw[List.foldl_cons] at h;rcases ih _ h with h1|⟨e',he',h1⟩
   ·grind
   ·grind
 rcases key _ 0 h with h1|h1
 ·grind
 ·grind
theorem BT:∀ {os:List Oper}{acc:List Nat}{i:Nat}{o:Oper},os[i]?=some o->∃ dp,(beforeL acc os).getD (acc.length+i) 0=A_ dp o/\(∀ j,j < acc.length+i->dp.getD j 0=(beforeL acc os).getD j 0)/\dp.length=acc.length+i
 |[],acc,i,o,h=>by grind
 |p::os,acc,i,o,h=>by
  have aU:∀ (os:List Oper) (acc:List Nat) (j:Nat),j < acc.length->(beforeL acc os).getD j 0=acc.getD j 0:=by
   intro os
   induction os with
   |nil=>intro acc j hj;rfl
   |cons p os ih =>
    intro acc j hj;rw[beforeL,ih _ _ (by grind)];simp[List.getElem?_append_left hj]
  cases i with
  |zero =>
   simp at h;subst h;refine⟨acc,?_,fun j hj=>?_,rfl⟩
   ·grind[beforeL]
   ·grind
  |succ i =>
   simp at h;obtain⟨dp,h1,h2,h3⟩:=BT (acc:=acc++[A_ acc p]) h;simp only[List.length_append,List.length_cons,List.length_nil] at h1 h2 h3;refine⟨dp,?_,fun j hj=>?_,by omega⟩
   ·grind[beforeL]
   ·grind[beforeL]
theorem Aq:∀ {os:List Oper}{k i:Nat}{o:Oper},pc k os=true->os[i]?=some o->∀ e ∈ o.after.toList,Region.binds .any e=true->e.on < k+i
 |[],k,i,o,_,h=>by grind
 |p::os,k,i,o,hk,h=>by
  simp only[pc,Bool.and_eq_true] at hk;cases i with
  |zero =>
   simp at h;subst h;intro e he hb;have:=List.all_eq_true.1 hk.1 e he;rw[hb] at this;simp at this;omega
  |succ i =>
   simp at h;intro e he hb;have:=Aq hk.2 h e he hb;omega
structure xx (ops:Array Oper) (bV:Array Bool):Prop where
 size:bV.size=ops.size
 closed:∀ y x,bV.getD y false=true->((beforeL [] ops.toList).getD y 0).testBit x=true->bV.getD x false=true
theorem G8 {bV:Array Bool}{i:Nat}(hl:bV.size=ops.size) (h:i ∈ Region.ready .any ops bV):∃ o,ops[i]?=some o/\i < ops.size/\bV.getD i false=false/\∀ e ∈ o.after.toList,Region.binds .any e=true->bV.getD e.on false=true:=by
 unfold Region.ready at h;rw[List.mem_filter] at h;obtain⟨h1,h2⟩:=h;have h1:i < ops.size:=by grind
 simp only[Bool.and_eq_true] at h2;have hi:ops[i]?=some ops[i]:=Array.getElem?_eq_getElem h1;rw[hi] at h2;simp only[Option.map_some,Option.getD_some] at h2;refine⟨_,hi,h1,?_,fun e he hb=>?_⟩
 ·grind
 ·have:=Array.all_eq_true'.1 h2.2 e (by grind);rw[hb] at this;simpa using this
theorem G9 (he:pc 0 ops.toList=true) {y x:Nat}{o:Oper}(hy:ops[y]?=some o) (h:((beforeL [] ops.toList).getD y 0).testBit x=true):∃ e ∈ o.after.toList,Region.binds .any e=true/\(x=e.on\/((beforeL [] ops.toList).getD e.on 0).testBit x=true):=by
 have Pz:ops.toList[y]?=some o:=by grind
 obtain⟨dp,h1,h2,h3⟩:=BT (acc:=[]) Pz;simp only[List.length_nil,Nat.zero_add] at h1 h2;rw[h1] at h;obtain⟨e,hm,hb,h4⟩:=KY h;refine⟨e,hm,hb,h4.imp id fun h5=>?_⟩;have aA:=Aq he Pz e hm hb;rw[h2 e.on (by omega)] at h5;exact h5
theorem CG {bV:Array Bool}{i j:Nat}(hi:i < bV.size):(bV.setIfInBounds i true).getD j false=if j=i then true else bV.getD j false:=by
 simp only[Array.getD_eq_getD_getElem?,Array.getElem?_setIfInBounds];by_cases c:i=j
 ·grind
 ·grind
theorem xx.step (he:pc 0 ops.toList=true) {bV:Array Bool}{i:Nat}(hd:xx ops bV) (h:i ∈ Region.ready .any ops bV):xx ops (bV.setIfInBounds i true):=by
 obtain⟨o,hi,aA,hu,hr⟩:=G8 hd.size h;refine⟨by simp[hd.size],fun y x hy hb=>?_⟩;rw[CG (by rw[hd.size];exact aA)] at hy ⊢;by_cases c:y=i
 ·subst c;obtain⟨e,hm,cy,h4⟩:=G9 he hi hb;have h5:=hr e hm cy;rcases h4 with rfl|h4
  ·grind
  ·rw[hd.closed e.on x h5 h4];simp
 ·rw[if_neg c] at hy;rw[hd.closed y x hy hb];simp
theorem pX (he:pc 0 ops.toList=true):∀ (fuel t:Nat) (bV:Array Bool),xx ops bV ->
  (∀ i ∈ Region.linearise.go .any ops fuel t bV [],i < ops.size/\bV.getD i false=false)/\(Region.linearise.go .any ops fuel t bV []).Nodup /\
  (Region.linearise.go .any ops fuel t bV []).Pairwise (fun y x=>((beforeL [] ops.toList).getD y 0).testBit x=false) /\
  ((∃ i,i < ops.size/\bV.getD i false=false/\i ∉ Region.linearise.go .any ops fuel t bV [])->(Region.linearise.go .any ops fuel t bV []).length=fuel):=by
 intro fuel
 induction fuel with
 |zero=>intro t bV hd;exact⟨fun i hi=>by simp[Region.linearise.go] at hi,by simp[Region.linearise.go],by simp[Region.linearise.go],fun _=>by simp[Region.linearise.go]⟩
 |succ fuel ih =>
  intro t bV hd;have e:Region.linearise.go .any ops (fuel+1) t bV []=match (Region.ready .any ops bV)[t % (Region.ready .any ops bV).length]? with
   |some i=>Region.linearise.go .any ops fuel (t / (Region.ready .any ops bV).length) (bV.setIfInBounds i true) [i]
   |none=>[]:=by
   simp only[Region.linearise.go]
   rfl
  rw[e];cases hi:(Region.ready .any ops bV)[t % (Region.ready .any ops bV).length]? with
  |none =>
   refine⟨fun i h=>by grind,by simp,by simp,fun ⟨i,h1,h2,_⟩=>?_⟩;exfalso;have tt:Region.ready .any ops bV=[]:=by
    cases hr:Region.ready .any ops bV with
    |nil=>rfl
    |cons x xs =>
     rw[hr] at hi;have aA:t % (x::xs).length < (x::xs).length:=Nat.mod_lt _ (by simp);simp at hi;simp at aA;omega
   have least:∀ k,(∀ j,j < k->j < ops.size->bV.getD j false=true)->k < ops.size->bV.getD k false=false->False:=by
    intro k hk hks hku;have:k ∈ Region.ready .any ops bV:=by
     unfold Region.ready;rw[List.mem_filter];refine⟨by grind,?_⟩;have aA:k < bV.size:=by rw[hd.size];exact hks
     rw[Array.getElem?_eq_getElem hks];simp only[Option.map_some,Option.getD_some,Bool.and_eq_true];refine⟨?_,?_⟩
     ·grind
     ·rw[Array.all_eq_true'];intro ed hed;cases hb:Region.binds .any ed with
      |false=>rfl
      |true =>
       have:=Aq (k:=0) (i:=k) he (by rw[Array.getElem?_toList];exact Array.getElem?_eq_getElem hks) ed (by grind) hb;simp only[Bool.not_true,Bool.false_or];exact hk ed.on (by omega) (by omega)
    rw[tt] at this;cases this
   have all:∀ k,k<=ops.size->∀ j,j < k->j < ops.size->bV.getD j false=true:=by
    intro k
    induction k with
    |zero=>intro _ j hj;omega
    |succ k ihk =>
     intro hk j hj Dj;by_cases c:j < k
     ·grind
     ·grind
   have:=all ops.size (Nat.le_refl _) i h1 h1;rw[h2] at this;cases this
  |some i =>
   have fG:=List.mem_of_getElem? hi;obtain⟨o,hio,aA,hu,hr⟩:=G8 hd.size fG;have hd':=hd.step he fG;obtain⟨f1,f2,f3,f4⟩:=ih (t / (Region.ready .any ops bV).length) _ hd';simp only;rw[linearise_go_acc,List.reverse_singleton,List.singleton_append];have hls:i < bV.size:=by rw[hd.size];exact aA
   have Iv:∀ j ∈ Region.linearise.go .any ops fuel (t / (Region.ready .any ops bV).length) (bV.setIfInBounds i true) [],j ≠ i/\bV.getD j false=false:=by grind[CG]
   refine⟨fun j hj=>?_,?_,?_,fun ⟨k,h1,h2,h3⟩=>?_⟩
   ·grind
   ·grind
   ·rw[List.pairwise_cons];refine⟨fun x hx=>?_,f3⟩;cases hb:((beforeL [] ops.toList).getD i 0).testBit x with
    |false=>rfl
    |true =>
     obtain⟨ed,hm,cy,h4⟩:=G9 he hio hb;have h5:=hr ed hm cy;have h6:=(Iv x hx).2;rcases h4 with rfl|h4
     ·grind
     ·rw[hd.closed ed.on x h5 h4] at h6;cases h6
   ·rw[List.length_cons,f4 ⟨k,h1,?_,fun h=>h3 (by grind)⟩];rw[CG hls,if_neg (fun e=>h3 (by grind))];exact h2
theorem BU {m:List Nat}{y:Nat}:∀ {k x:Nat},Ba ops m y k=true->x < k->(m.getD y 0).testBit x=true\/um ops x y=true
 |0,x,_,h=>by omega
 |k+1,x,hp,h=>by
  simp only[Ba,Bool.and_eq_true,Bool.or_eq_true] at hp;by_cases c:x=k
  ·grind
  ·exact BU hp.2 (by omega)
theorem Ar {m:List Nat}:∀ {k x y:Nat},xT ops m k=true->y < k->x < y->(m.getD y 0).testBit x=true\/um ops x y=true
 |0,x,y,_,h,_=>by omega
 |k+1,x,y,hp,h,hx=>by
  simp only[xT,Bool.and_eq_true] at hp;by_cases c:y=k
  ·grind[BU]
  ·exact Ar hp.2 (by omega) hx
theorem zW:∀ (l:List Nat),l.Nodup->∀ m,(∀ y ∈ l,y < m)->l.length<=m:=by
 intro l hn m
 induction m generalizing l with
 |zero=>intro h;cases l with
  |nil=>simp
  |cons a l=>have:=h a (by simp);omega
 |succ m ih =>
  intro h;by_cases c:m ∈ l
  ·have h1:=ih (l.erase m) (hn.erase m) (fun y hy=>by grind);rw[List.length_erase_of_mem c] at h1;omega
  ·grind
theorem cC.draw {id:Nat}{au:AA}(hm:P.follows .mixedOrders=true) (jA:Ek ops=true) (h:ql P w0 n ops (List.range ops.size) α S au S'):cC P w0 rd n (.region id ops true) α S .normal au S':=by
 intro F m A g a w hF hR hS hA;simp only[Ek,Bool.and_eq_true] at jA;obtain⟨he,hp⟩:=jA;refine wpIn_region_draw fun t=>?_;simp only[Region.schedule,hm,Bool.true_or,if_true];have hd:xx ops (Array.replicate ops.size false):=⟨by simp,fun y x hy=>by
  simp only[Array.getD_eq_getD_getElem?,Array.getElem?_replicate] at hy;split at hy<;>simp at hy⟩
 obtain⟨f1,f2,f3,f4⟩:=pX he ops.size t _ hd;have mZ:∀ x,x ∈ Region.linearise .any ops t ↔ x ∈ List.range ops.size:=by
  intro x;refine⟨fun hx=>by simpa using (f1 x hx).1,fun hx=>?_⟩;have hx:x < ops.size:=by grind
  by_cases c:x ∈ Region.linearise .any ops t
  ·grind
  ·exfalso;have hl:=f4 ⟨x,hx,by simp[Array.getD_eq_getD_getElem?,Array.getElem?_replicate,hx],c⟩;have rI:(x::Region.linearise.go .any ops ops.size t (Array.replicate ops.size false) []).Nodup:=by
    rw[List.nodup_cons];exact⟨c,f2⟩
   have hlen:=zW (x::Region.linearise.go .any ops ops.size t (Array.replicate ops.size false) []) rI ops.size (fun y hy=>by grind);rw[List.length_cons,hl] at hlen;omega
 have hL:(Region.linearise .any ops t).Pairwise (fun y x=>x < y->um ops x y=true):=by
  refine List.Pairwise.imp_of_mem ?_ f3;intro y x hy hx hb kr;rcases Ar hp (f1 y hy).1 kr with h1|h1
  ·grind
  ·grind
 have hC:(List.range ops.size).Pairwise (· < ·):=List.pairwise_lt_range;obtain⟨hE,fJ⟩:=hS.drew;have fJ:St w0 A g S { w with drawn:=w.drawn+1 }:=fJ;refine (ql.perm hC hL mZ f2 h).zV F m A g a _ _ hF fJ (hA.later hE.toLater) fun a' w' g' h1 h2 h3=>⟨rfl,g',h1,h2,hE.trans h3⟩
end
section
variable {P:Program}{w0:World}{rd:Bool}{n:Nat}{o:Oper}{α:AA}{S S':ae}{r:AV}{ops:Array Oper}
def CJ (P:Program) (w0:World) (K:AV->ae->Prop) (S:ae) (args:List AV):AV->Prop
 |.v (.func (.func g) first cap)=>match first.toList,cap.toList with
  |[],[]=>∃ r,aC P w0 g args S r S/\K r S
  |_,_=>False
 |.fn (.func g) first cap=>∃ r,aC P w0 g (first++args++cap) S r S/\K r S
 |_=>False
def fe (P:Program) (w0:World) (o:Op) (α:AA) (S:ae) (K:AV->ae->Prop):Prop :=
 match o with
 |.call c=>match c.callee with
  |.value f=>CJ P w0 K S (c.args.toList.map α.ev) (α.ev f)
  |_=>a8 P w0 (.call c) α S K
 |o=>a8 P w0 o α S K
theorem Wo {op:Op}{K:AV->ae->Prop}(hp:m_ op=false) (hw:zL op=false) (h:fe P w0 op α S K):∃ r,K r S/\a8 P w0 op α S (td r S):=by
 cases op with
 |load t x =>
  simp only[fe,a8,bc] at h ⊢;split at h
  ·exact⟨_,h,⟨rfl,rfl⟩⟩
  ·grind
 |call c =>
  simp only[zL] at hw;simp only[fe] at h;split at h
  ·rename_i f hc;unfold CJ at h;simp only[a8,hc];split at h
   ·rename_i g first cap hf
    split at h
    ·rename_i e1 e2;obtain⟨r,h1,h2⟩:=h;refine⟨r,h2,?_⟩;rw[hf];simp only[Ay,e1,e2];exact⟨r,S,h1,rfl,rfl⟩
    ·grind
   ·rename_i g first cap hf
    obtain⟨r,h1,h2⟩:=h;refine⟨r,h2,?_⟩;rw[hf];exact⟨r,S,h1,rfl,rfl⟩
   ·grind
  ·grind[m_]
 |_=>simp[zL,hp,m_] at hw hp
theorem Ho {op:Op}{K:AV->ae->Prop}(h:fe P w0 op α S K):a8 P w0 op α S K:=by
 cases op with
 |call c =>
  simp only[fe] at h;split at h
  ·rename_i f hc;unfold CJ at h;simp only[a8,hc];split at h
   ·grind[Ay]
   ·rename_i g first cap hf
    obtain⟨r,h1,h2⟩:=h;rw[hf];exact⟨r,S,h1,h2⟩
   ·grind
  ·grind
 |_=>exact h
theorem l9 {α:AA}{S:ae}{K:AV->ae->Prop}(h:a8 P w0 o.op α S K):∃ r S',ez P w0 n o (α.only (cG o)) S r S'/\K r S' :=
 Al (RF (β:=α.only (cG o)) (fun x hx=>(eH fun t e=>en (by grind)).symm) h)
theorem ae8 {i:Nat}{K:AV->ae->Prop}(hi:ops[i]?=some o) (hd:(match o.dst with|some d=>Nat.blt d n|none=>true)=true) (hg:o.guard=none\/∃ j want,o.guard=some (j,want)/\oX ops α j=some (some want)) (h:fe P w0 o.op α S K) :
  ∃ r S',GS P w0 n ops i α S (α.put o.dst r) S'/\K r S':=by
 cases hp:m_ o.op with
 |true =>
  obtain⟨r,h1,h2⟩:=Wn hp (Ho h);have h3:∀ T,ez P w0 n o (α.only (cG o)) T r T:=fun T=>by
   obtain⟨r',S',h4,rfl,rfl⟩:=l9 (n:=n) (h2 T);exact h4
  exact⟨r,S,⟨o,hi,hd,.inr ⟨hg,r,rfl,h3 S,fun _=>⟨rfl,h3⟩,fun _=>rfl⟩⟩,h1⟩
 |false =>
  cases hw:zL o.op with
  |false =>
   obtain⟨r,h1,h2⟩:=Wo hp hw h;obtain⟨r',S',h4,rfl,rfl⟩:=l9 (n:=n) h2;exact⟨r',S',⟨o,hi,hd,.inr ⟨hg,r',rfl,h4,fun h=>(by grind),fun _=>rfl⟩⟩,h1⟩
  |true =>
   obtain⟨r,S',h1,h2⟩:=l9 (n:=n) (Ho h);exact⟨r,S',⟨o,hi,hd,.inr ⟨hg,r,rfl,h1,fun h=>(by grind),fun h=>(by grind)⟩⟩,h2⟩
end
def AA.has (α:AA):List (Nat × AV)->Prop
 |[]=>True
 |p::l=>α.tm p.1=p.2/\α.has l
theorem wrap64 {c:Int}(h1:-9223372036854775808<=c) (h2:c<=9223372036854775807):IntKind.i64.wrap c=c:=by
 unfold IntKind.wrap;simp[IntKind.bits,IntKind.signed];omega
theorem Wu {α β:Type}{l:List α}{f:α->β}{i:Int}{k:Nat}{x:α}(hi:i=(k:Int)) (h:l[k]?=some x):idx (l.map f) i=some (f x):=by grind[WH]
def iv (i:Int):AV:=.v (.int .i64 i)
def aP (i:Int):List AV:=[iv i]
def dK:List AV->Prop
 |[]=>True
 |a::l=>Pure a/\dK l
theorem dK.all:∀ {l:List AV},dK l->∀ a ∈ l,Pure a
 |[],_,a,h=>by grind
 |b::l,hp,a,h=>by
  rcases List.mem_cons.1 h with rfl|h
  ·exact hp.1
  ·exact dK.all hp.2 a h
def eY (S:ae):List AV->List AV->Prop
 |[],[]=>True
 |a::l,a'::l'=>aR S a a'/\eY S l l'
 |_,_=>False
theorem eY.len {S:ae}:∀ {l l':List AV},eY S l l'->l.length=l'.length
 |[],[],_=>rfl
 |a::l,a'::l',h=>by simp[eY.len h.2]
 |[],_::_,h=>h.elim
 |_::_,[],h=>h.elim
theorem eY.at {S:ae}:∀ {l l':List AV},eY S l l'->∀ (i:Nat) (a a':AV),l[i]?=some a->l'[i]?=some a'->aR S a a'
 |[],[],_,i,a,a',h,_=>by grind
 |b::l,b'::l',h,i,a,a',h1,h2=>by
  cases i with
  |zero=>simp at h1 h2;subst h1 h2;exact h.1
  |succ i=>simp at h1 h2;exact eY.at h.2 i a a' h1 h2
 |[],_::_,h,_,_,_,_,_=>h.elim
 |_::_,[],h,_,_,_,_,_=>h.elim
theorem eY.refl (S:ae):∀ (l:List AV),eY S l l
 |[]=>trivial
 |a::l=>⟨.refl a,eY.refl S l⟩
section
variable {P:Program}{w0:World}{f:FuncId}{args eF:List AV}{r:AV}
theorem ah.BX (h:ah P w0 f args r) (hp:dK args) (S:ae):aC P w0 f args S r S:=h.CL hp.all S
theorem ah.Hv (h:ah P w0 f args r) (hp:dK args) (hs:s_ r) {S:ae}(hf:eY S eF args):aC P w0 f eF S r S:=h.Sk hp.all hs S hf.len hf.at
end
section
variable {S:ae}
theorem aR.wk {ex:Bool}{rows:List (List AV)}:aR S (.sl ex rows) (.sl false rows) :=
 .sl rfl (fun i r r' h1 h2=>by grind) (fun i j r r' a a' h1 h2 h3 h4=>by
  rw[h1] at h2;obtain rfl:=oJ_ h2;rw[h3] at h4;obtain rfl:=oJ_ h4;exact .refl _)
theorem aR.fns {f:Fn}{l l' m m':List AV}(h1:eY S l l') (h2:eY S m m'):aR S (.fn f l m) (.fn f l' m'):=.fn h1.len h2.len h1.at h2.at
theorem aR.box {k:Nat}{cs cs':List AV}(h:S.get k=some (.arr cs.length [cs] 0 true)) (hf:eY S cs cs'):aR S (.pt k cs.length 0 0) (.ip cs') :=
 .pt h rfl (by rw[hf.len];exact Nat.le_refl _) (fun q a a' h1 h2=>by rw[Nat.zero_add] at h1;exact hf.at q a a' h1 h2)
end
def RH {β:Type}(r:AV) (k:AV->β):β:=match r with
 |.u=>k .u
 |.v x=>k (.v x)
 |.agg l=>k (.agg l)
 |.aG l=>k (.aG l)
 |.sl e l=>k (.sl e l)
 |.ip l=>k (.ip l)
 |.ob a b c d e=>k (.ob a b c d e)
 |.pt a b c d=>k (.pt a b c d)
 |.mp a=>k (.mp a)
 |.fn a b c=>k (.fn a b c)
 |.yl a=>k (.yl a)
 |.gr a b c=>k (.gr a b c)
theorem RI {β:Type}{r:AV}{k:AV->β}:RH r k=k r:=by cases r<;>rfl
def nt {β:Type}:List AV->(List AV->β)->β
 |[],k=>k []
 |a::l,k=>RH a fun a=>nt l fun l=>k (a::l)
theorem rE {β:Type}:∀ {l:List AV}{k:List AV->β},nt l k=k l
 |[],k=>rfl
 |a::l,k=>by rw[nt,RI,rE]
def ae9 {β:Type}(r:AV) (k:AV->β):β:=match r with
 |.u=>k .u
 |.v x=>k (.v x)
 |.agg l=>nt l fun l=>k (.agg l)
 |.aG l=>nt l fun l=>k (.aG l)
 |.sl e l=>k (.sl e l)
 |.ip l=>nt l fun l=>k (.ip l)
 |.ob a b c d e=>k (.ob a b c d e)
 |.pt a b c d=>k (.pt a b c d)
 |.mp a=>k (.mp a)
 |.fn a b c=>nt b fun b=>nt c fun c=>k (.fn a b c)
 |.yl a=>k (.yl a)
 |.gr a b c=>k (.gr a b c)
def El {β:Type}:List (List AV)->(List (List AV)->β)->β
 |[],k=>k []
 |a::l,k=>nt a fun a=>El l fun l=>k (a::l)
theorem G_ {β:Type}:∀ {l:List (List AV)}{k:List (List AV)->β},El l k=k l
 |[],k=>rfl
 |a::l,k=>by rw[El,rE,G_]
def Fp (S:ae) (cs:List AV):Option (AV × ae):=nt cs fun cs=>match S with|⟨g,x⟩=>some (.pt x cs.length 0 0,⟨a7 g x (some (.arr cs.length [cs] 0 true)),x+1⟩)
theorem qC {S:ae}{cs:List AV}:Fp S cs=some (jF S cs):=by
 unfold Fp;rw[rE]
 rfl
def As (P:Program) (S:ae) (t:TypeId) (b:AV):AV->Option ae
 |.pt k sz 0 j=>match S.get k with
  |some (.arr sz' [row] 0 ex)=>match Nat.beq sz sz' && (aL b).all bO && (match cY P t with|some m=>Nat.beq m (aL b).length|none=>false) with
   |true=>match Nat.ble (j+(aL b).length) row.length with
    |true=>nt (mF row j (aL b)) fun bw=>match S with|⟨g,x⟩=>some ⟨a7 g k (some (.arr sz [bw] 0 ex)),x⟩
    |false=>none
   |false=>none
  |_=>none
 |_=>none
theorem Au {P:Program}{S S':ae}{t:TypeId}{b x:AV}(h:As P S t b x=some S'):ml P S t b x=some S':=by
 unfold As at h;split at h
 ·rename_i k sz j;split at h
  ·rename_i sz' row ex hk;split at h
   ·rename_i hc;split at h
    ·rename_i hl;rw[rE] at h;simp only[ml,hk];split
     ·simp only[List.getElem?_cons_zero,hl];exact h
     ·rename_i c_;have:true=false:=hc.symm.trans c_;cases this
    ·grind
   ·grind
  ·grind
 ·grind
def sB (P:Program) (o:Op) (α:AA) (S:ae):Option (AV × ae) :=
 match o with
 |.move x=>some (α.ev x,S)
 |.assign x=>some (α.ev x,S)
 |.pick c a b=>match α.ev c with
  |.v (.bool true)=>some (α.ev a,S)
  |.v (.bool false)=>some (α.ev b,S)
  |_=>none
 |.alloc e=>match de P e with
  |some z=>Fp S (z.cells.toList.map bJ)
  |none=>none
 |.box _ x=>match (aL (α.ev x)).all bO with
  |true=>Fp S (aL (α.ev x))
  |false=>none
 |.build t parts=>match tv P t (parts.toList.map fun (i,x)=>(i,α.ev x)) with
  |some a=>some (a,S)
  |none=>none
 |.load t x=>match uK P S t (α.ev x) with
  |some a=>some (a,S)
  |none=>none
 |.buildSlice t len parts=>match fZ P t with
  |some e=>match de P e,cY P e with
   |some z,some m=>match Nat.ble (len*m) 16777216 && Nat.beq z.cells.size m && Nat.blt 0 m with
    |true=>match sG m (List.replicate len (z.cells.toList.map bJ)) (parts.toList.map fun (i,x)=>(i,α.ev x)) with
     |some rows=>El rows fun rows=>some (.sl true rows,S)
     |none=>none
    |false=>none
   |_,_=>none
  |none=>none
 |.store t x b=>match As P S t (α.ev b) (α.ev x) with
  |some S'=>some (.v undef,S')
  |none=>none
 |.unOp op _ x=>match op,α.ev x with
  |.not,.v (.bool true)=>some (.v (.bool false),S)
  |.not,.v (.bool false)=>some (.v (.bool true),S)
  |_,_=>none
 |.fieldAddr s x f=>match P.underlying s with
  |some (.struct fs)=>match fs[f]? with
   |some fd=>match cY P fd.type with
    |some (_+1)=>match α.ev x with
     |.ip row=>some (.ip (row.drop fd.offset),S)
     |.pt k sz i j=>some (.pt k sz i (j+fd.offset),S)
     |_=>none
    |_=>none
   |none=>none
  |_=>none
 |.field t x f=>match P.underlying t with
  |some (.struct fs)=>match fs[f]? with
   |some fd=>match α.ev x with
    |.agg l=>match nC P fd.type l fd.offset with
     |some a=>some (a,S)
     |none=>none
    |_=>none
   |none=>none
  |_=>none
 |.extract x i=>match α.ev x with
  |.aG l=>match l[i]? with
   |some a=>some (a,S)
   |none=>none
  |_=>none
 |.makeFunc f first cap=>some (.fn f (first.toList.map α.ev) (cap.toList.map α.ev),S)
 |.nilCheck x=>match α.ev x with
  |.ip c=>some (.ip c,S)
  |.pt k sz i j=>some (.pt k sz i j,S)
  |_=>none
 |.call c=>match c.callee,c.argTypes.toList,c.args.toList with
  |.builtin .len,[t],[x]=>match lenOf P t (α.ev x) with
   |some m=>some (.v (.int .i64 (m:Int)),S)
   |none=>none
  |_,_,_=>none
 |_=>none
section
variable {P:Program}{w0:World}{rd:Bool}{n:Nat}{o:Op}{α:AA}{S S':ae}{r:AV}
theorem RJ (h:sB P o α S=some (r,S')):a8 P w0 o α S (td r S'):=by
 have e:∀ {a:AV}{T:ae},some (a,T)=some (r,S')->a=r/\T=S':=fun h=>by grind
 have e2:∀ {q:AV × ae},some q=some (r,S')->q.1=r/\q.2=S':=fun h=>by grind
 cases o with
 |move x=>exact e h
 |assign x=>exact e h
 |pick c a b =>
  simp only[sB] at h;simp only[a8];split at h
  ·rename_i hc;rw[hc];exact e h
  ·rename_i hc;rw[hc];exact e h
  ·grind
 |alloc t =>
  simp only[sB] at h;simp only[a8];split at h
  ·rename_i z hz;rw[hz];rw[qC] at h;exact e2 h
  ·grind
 |box t x =>
  simp only[sB] at h;simp only[a8];split at h
  ·rename_i hx;rw[hx];rw[qC] at h;exact e2 h
  ·grind
 |buildSlice t len parts =>
  simp only[sB] at h;simp only[a8];split at h
  ·rename_i el he;split at h
   ·rename_i z m hz hs;split at h
    ·rename_i hb;split at h
     ·rename_i rows hr;rw[G_] at h;simp only[he,hz,hs,hb,hr];exact e h
     ·grind
    ·grind
   ·grind
  ·grind
 |build t parts =>
  simp only[sB] at h;simp only[a8];split at h
  ·rename_i z hz;rw[hz];exact e h
  ·grind
 |load t x =>
  simp only[sB] at h;simp only[a8];split at h
  ·rename_i z hz;exact bc.mk hz (e h)
  ·grind
 |store t x b =>
  simp only[sB] at h;simp only[a8];split at h
  ·rename_i z hz;exact bc.mk (Au hz) (e h)
  ·grind
 |unOp op t x =>
  simp only[sB] at h;simp only[a8];split at h
  ·rename_i hc;rw[hc];exact e h
  ·rename_i hc;rw[hc];exact e h
  ·grind
 |fieldAddr s x f =>
  simp only[sB] at h;simp only[a8];split at h
  ·rename_i fs hu;split at h
   ·rename_i fd hf;split at h
    ·rename_i m hs;split at h
     ·rename_i row hx;simp only[hu,hf,hs,hx];exact e h
     ·rename_i k sz i j hx;simp only[hu,hf,hs,hx];exact e h
     ·grind
    ·grind
   ·grind
  ·grind
 |field t x f =>
  simp only[sB] at h;simp only[a8];split at h
  ·rename_i fs hu;split at h
   ·rename_i fd hf;split at h
    ·rename_i l hx;split at h
     ·rename_i a ha;simp only[hu,hf,hx];exact bc.mk ha (e h)
     ·grind
    ·grind
   ·grind
  ·grind
 |extract x i =>
  simp only[sB] at h;simp only[a8];split at h
  ·rename_i l hx;split at h
   ·rename_i a ha;simp only[hx,ha];exact e h
   ·grind
  ·grind
 |makeFunc f first cap=>exact e h
 |nilCheck x =>
  simp only[sB] at h;simp only[a8];split at h
  ·rename_i c hx;rw[hx];exact e h
  ·rename_i k sz i j hx;rw[hx];exact e h
  ·grind
 |call c =>
  simp only[sB] at h;simp only[a8];split at h
  ·rename_i t x hc ht hx;split at h
   ·rename_i m hm;rw[hc,ht,hx];exact bc.mk hm (e h)
   ·grind
  ·grind
 |_=>cases h
def iQ (ops:List Oper) (α:AA) (o:Oper):Option Bool :=
 match o.guard with
 |none=>some true
 |some (j,want)=>match U9 ops α j with
  |some (some true)=>some want
  |some (some false)=>some (!want)
  |some none=>some false
  |none=>none
def uo (d:Option Tmp) (α:AA) (r:AV):AA:=match d with|some d=>⟨a7 α.tm d r,α.df⟩|none=>α
def Hp (P:Program) (n:Nat) (ops:List Oper):List Oper->AA->ae->List Oper × AA × ae
 |[],α,S=>([],α,S)
 |o::rest,α,S=>match oz n o.dst with
  |true=>match iQ ops α o with
   |some true=>match sB P o.op α S with
    |some (r,S')=>ae9 r fun r=>Hp P n ops rest (uo o.dst α r) S'
    |none=>(o::rest,α,S)
   |some false=>Hp P n ops rest (uo o.dst α (.v undef)) S
   |none=>(o::rest,α,S)
  |false=>(o::rest,α,S)
end
section
variable {P:Program}{w0:World}{rd:Bool}{n:Nat}{o:Oper}{α:AA}{S S':ae}{r:AV}{ops l rest:List Oper}{Q:AA->ae->Prop}
theorem s7 {d:Option Tmp}:uo d α r=α.put d r:=by cases d<;>rfl
def Av (P:Program) (w0:World) (n:Nat) (ops l:List Oper) (Q:AA->ae->Prop) (α:AA) (S:ae):Prop :=
 ∀ k,ops.drop k=l->∃ au S',rT P w0 n ops.toArray (List.range' k l.length) α S au S'/\Q au S'
theorem drop_cons {k:Nat}(h:ops.drop k=o::rest):ops.toArray[k]?=some o/\ops.drop (k+1)=rest:=by
 refine⟨?_,?_⟩
 ·have:=congrArg (·[0]?) h;simpa using this
 ·rw[<-List.drop_drop,h];rfl
theorem Av.nil (h:Q α S):Av P w0 n ops [] Q α S:=fun k _=>⟨α,S,fun F m A g a w Q hF hS hA hQ=>hQ a w g hS hA (Ext.refl ..),h⟩
theorem p_ (h:iQ ops α o=some true):o.guard=none\/∃ j want,o.guard=some (j,want)/\oX ops.toArray α j=some (some want):=by
 unfold iQ at h;split at h
 ·grind
 ·rename_i j want hg;have e:=y0 (ops:=ops.toArray) (α:=α) (j:=j);split at h
  ·grind
  ·grind
  ·grind
  ·grind
theorem BV (h:iQ ops α o=some false):∃ (j:Nat) (want:Bool) (b:Option Bool),o.guard=some (j,want)/\oX ops.toArray α j=some b/\b ≠ some want:=by
 unfold iQ at h;split at h
 ·grind
 ·rename_i j want hg;have e:=y0 (ops:=ops.toArray) (α:=α) (j:=j);split at h
  ·grind
  ·grind
  ·grind
  ·grind
theorem Av.op (hd:oz n o.dst=true) (hw:iQ ops α o=some true) (h:a8 P w0 o.op α S (td r S')) (k:Av P w0 n ops rest Q (uo o.dst α r) S'):Av P w0 n ops (o::rest) Q α S:=by
 intro i hi;obtain⟨h1,h2⟩:=drop_cons hi;obtain⟨r1,S1,h3,rfl,rfl⟩:=Al (n:=n) h;obtain⟨au,T,h4,h5⟩:=k (i+1) h2;rw[s7] at h4;refine⟨au,T,?_,h5⟩;refine rT.step h1 hd (fun g w a hA=>?_) h3 h4;rcases p_ hw with hg|⟨j,want,hg,hy⟩
 ·simp[Region.wanted,hg]
 ·simp[Region.wanted,hg,pW hA hy]
def l_ (P:Program) (w0:World) (n:Nat) (ops l:List Oper) (Q:AA->ae->Prop) (α:AA) (S:ae):Prop :=
 ∀ k,ops.drop k=l->∃ au S',ql P w0 n ops.toArray (List.range' k l.length) α S au S'/\Q au S'
theorem l_.nil (h:Q α S):l_ P w0 n ops [] Q α S:=fun k _=>⟨α,S,.nil α S,h⟩
theorem l_.op (hd:oz n o.dst=true) (hw:iQ ops α o=some true) (h:fe P w0 o.op α S (td r S')) (k:l_ P w0 n ops rest Q (uo o.dst α r) S'):l_ P w0 n ops (o::rest) Q α S:=by
 intro i hi;obtain⟨h1,h2⟩:=drop_cons hi;obtain⟨r1,S1,h3,rfl,rfl⟩:=ae8 (n:=n) h1 hd (p_ hw) h;obtain⟨au,T,h4,h5⟩:=k (i+1) h2;rw[s7] at h4;exact⟨au,T,.cons h3 h4,h5⟩
theorem l_.skip (hd:oz n o.dst=true) (hw:iQ ops α o=some false) (k:l_ P w0 n ops rest Q (uo o.dst α (.v undef)) S):l_ P w0 n ops (o::rest) Q α S:=by
 intro i hi;obtain⟨h1,h2⟩:=drop_cons hi;obtain⟨au,T,h4,h5⟩:=k (i+1) h2;rw[s7] at h4;obtain⟨j,want,b,hg,hy,bU⟩:=BV hw;exact⟨au,T,.cons ⟨o,h1,hd,.inl ⟨j,want,b,hg,hy,bU,rfl,rfl⟩⟩ h4,h5⟩
end
end Go.Proofs.YtbpabjmnhggajaaGreat
