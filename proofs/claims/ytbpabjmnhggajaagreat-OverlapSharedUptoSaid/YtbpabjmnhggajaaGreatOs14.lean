import Derived.Test.YtbpabjmnhggajaaGreatOs13
namespace Go.Proofs.YtbpabjmnhggajaaGreat
set_option linter.unusedVariables false
set_option linter.unusedSimpArgs false
open Go.RowKit
section
variable {ι:Nat->Nat}{M:Nat}
theorem Rn.pure {a:AV}(h:Pure a):Rn ι M a a:=fun g w x hr=>aF.pure (g:=g) (g':=g.pre ι M) (fun _ _ h=>h) (fun _ _ _=>rfl) hr h
theorem Rn.gr {j k sz len:Nat}(h:k=ι j) (hj:Nat.blt j M=true):Rn ι M (.gr k sz len) (.gr j sz len):=fun g w x hr=>by
 subst h;cases hr with
 |jw=>exact .jw
 |gr hk hx hle=>exact .gr (g:=g.pre ι M) (k:=j) ⟨dM hj,hk⟩ hx hle
theorem Rn.pt {j k sz i q:Nat}(h:k=ι j) (hj:Nat.blt j M=true):Rn ι M (.pt k sz i q) (.pt j sz i q):=fun g w x hr=>by
 subst h;cases hr with
 |pt hk=>exact .pt (g:=g.pre ι M) (k:=j) ⟨dM hj,hk⟩
theorem Rn.mp {j k:Nat}(h:k=ι j) (hj:Nat.blt j M=true):Rn ι M (.mp k) (.mp j):=fun g w x hr=>by
 subst h;cases hr with
 |mp hk=>exact .mp (g:=g.pre ι M) (k:=j) ⟨dM hj,hk⟩
theorem Rn.yl {j k:Nat}(h:k=ι j) (hj:Nat.blt j M=true):Rn ι M (.yl k) (.yl j):=fun g w x hr=>by
 subst h;cases hr with
 |yl hk=>exact .yl (g:=g.pre ι M) (k:=j) ⟨dM hj,hk⟩
def r6 (ι:Nat->Nat) (M:Nat):List AV->List AV->Prop
 |[],[]=>True
 |a::l,b::m=>Rn ι M a b/\r6 ι M l m
 |_,_=>False
theorem r6.at:∀ {l m:List AV},r6 ι M l m->l.length=m.length/\∀ (i:Nat) (b:AV),m[i]?=some b->∃ a,l[i]?=some a/\Rn ι M a b
 |[],[],_=>⟨rfl,fun i b h=>by grind⟩
 |a::l,b::m,hc=>⟨by simp[hc.2.at.1],fun i c h=>by
  cases i with
  |zero=>simp at h;subst h;exact⟨a,rfl,hc.1⟩
  |succ i=>simp at h;obtain⟨d,h1,h2⟩:=hc.2.at.2 i c h;exact⟨d,by grind,h2⟩⟩
 |[],_::_,h=>h.elim
 |_::_,[],h=>h.elim
theorem Rn.fn {f:Fn}{l m l' m':List AV}(h:r6 ι M l m) (k:r6 ι M l' m'):Rn ι M (.fn f l l') (.fn f m m'):=fun g w x hr=>by
 cases hr with
 |fn h1 h2 h3 h4 =>
  refine .fn (h1.trans h.at.1) (h2.trans k.at.1) (fun i b y hb hy=>?_) (fun i b y hb hy=>?_)
  ·obtain⟨a,e1,e2⟩:=h.at.2 i b hb;exact e2 g w y (h3 i a y e1 hy)
  ·obtain⟨a,e1,e2⟩:=k.at.2 i b hb;exact e2 g w y (h4 i a y e1 hy)
theorem kP.pure {sz fz:Nat}{rows:List (List AV)}{ex:Bool}(h:∀ row ∈ rows,∀ a ∈ row,Pure a):kP ι M (.arr sz rows fz ex) (.arr sz rows fz ex):=by
 refine⟨fun g w b cp hr=>?_,fun J h=>by grind⟩;obtain⟨cs,ty,h1,h2,h3,h4,h5,h6,h7⟩:=hr;refine⟨cs,ty,h1,h2,h3,h4,fun i row hr=>⟨(h5 i row hr).1,fun j a ha=>?_⟩,h6,h7⟩;obtain⟨x,hx,dR⟩:=(h5 i row hr).2 j a ha;exact⟨x,hx,Rn.pure (h _ (List.mem_of_getElem? hr) _ (List.mem_of_getElem? ha)) g w x dR⟩
theorem kP.row {sz fz:Nat}{r0 r1:List AV}{ex:Bool}(h:r6 ι M r0 r1):kP ι M (.arr sz [r0] fz ex) (.arr sz [r1] fz ex):=by
 refine⟨fun g w b cp hr=>?_,fun J h=>by grind⟩;obtain⟨cs,ty,h1,h2,h3,h4,h5,h6,h7⟩:=hr;refine⟨cs,ty,h1,h2,h3,h4,fun i row hr=>?_,h6,h7⟩;cases i with
 |succ i=>simp at hr
 |zero =>
  simp at hr;subst hr;obtain⟨q1,q2⟩:=h5 0 r0 rfl;refine⟨by rw[<-h.at.1];exact q1,fun j a ha=>?_⟩;obtain⟨a0,e1,e2⟩:=h.at.2 j a ha;obtain⟨x,hx,dR⟩:=q2 j a0 e1;exact⟨x,hx,e2 g w x dR⟩
theorem kP.mp {es:List (Value × AV)}(h:∀ e ∈ es,Pure e.2):kP ι M (.mp es) (.mp es):=by
 refine⟨fun g w b cp hr=>?_,fun J h=>by grind⟩;obtain⟨entries,clock,h1,h2,h3⟩:=hr;refine⟨entries,clock,h1,h2,fun i k a ha=>?_⟩;obtain⟨e,he,hk,hr⟩:=h3 i k a ha;exact⟨e,he,hk,Rn.pure (h _ (List.mem_of_getElem? ha)) g w _ hr⟩
theorem kP.fo {J:eP}:kP ι M (.fo J) (.fo J):=⟨fun g w b cp hr=>hr,fun J' h=>h⟩
theorem Rb.pure {a:AV}(h:Pure a):Rb ι a a:=fun gc g w x hB hr=>aF.pure (g:=gc) (g':=g) (fun b q hq=>by rw[hB.fz];exact hq) (fun _ _ _=>rfl) hr h
theorem Rb.gr {j k sz len:Nat}(h:k=ι j):Rb ι (.gr j sz len) (.gr k sz len):=fun gc g w x hB hr=>by
 subst h;cases hr with
 |jw=>exact .jw
 |gr hk hx hle=>rw[<-hB.ob j hk];exact .gr (hB.al j hk) (by rw[hB.cp j hk];exact hx) hle
theorem Rb.pt {j k sz i q:Nat}(h:k=ι j):Rb ι (.pt j sz i q) (.pt k sz i q):=fun gc g w x hB hr=>by
 subst h;cases hr with
 |pt hk=>rw[<-hB.ob j hk];exact .pt (hB.al j hk)
theorem Rb.mp {j k:Nat}(h:k=ι j):Rb ι (.mp j) (.mp k):=fun gc g w x hB hr=>by
 subst h;cases hr with
 |mp hk=>rw[<-hB.ob j hk];exact .mp (hB.al j hk)
theorem Rb.ob {j k sz off len:Nat}{cx:Option Nat}(h:k=ι j):Rb ι (.ob j sz off len cx) (.ob k sz off len cx):=fun gc g w x hB hr=>by
 subst h;cases hr with
 |ob hk hc hp hx hle=>rw[<-hB.ob j hk];exact .ob (hB.al j hk) hc (by rw[hB.cp j hk];exact hp) (by rw[hB.cp j hk];exact hx) hle
def Lb (ι:Nat->Nat):List AV->List AV->Prop
 |[],[]=>True
 |a::l,b::m=>Rb ι a b/\Lb ι l m
 |_,_=>False
theorem Lb.at:∀ {l m:List AV},Lb ι l m->l.length=m.length/\∀ (i:Nat) (b:AV),m[i]?=some b->∃ a,l[i]?=some a/\Rb ι a b
 |[],[],_=>⟨rfl,fun i b h=>by grind⟩
 |a::l,b::m,hc=>⟨by simp[hc.2.at.1],fun i c h=>by
  cases i with
  |zero=>simp at h;subst h;exact⟨a,rfl,hc.1⟩
  |succ i=>simp at h;obtain⟨d,h1,h2⟩:=hc.2.at.2 i c h;exact⟨d,by grind,h2⟩⟩
 |[],_::_,h=>h.elim
 |_::_,[],h=>h.elim
theorem lK.pure {sz fz:Nat}{rows:List (List AV)}{ex:Bool}(h:∀ row ∈ rows,∀ a ∈ row,Pure a):lK ι (.arr sz rows fz ex) (.arr sz rows fz ex):=by
 refine⟨fun gc g w b cp hB _ hr=>?_,fun J h=>by grind⟩;obtain⟨cs,ty,h1,h2,h3,h4,h5,h6,h7⟩:=hr;refine⟨cs,ty,h1,h2,h3,h4,fun i row hr=>⟨(h5 i row hr).1,fun j a ha=>?_⟩,h6,by rw[hB.fz];exact h7⟩;obtain⟨x,hx,dR⟩:=(h5 i row hr).2 j a ha;exact⟨x,hx,Rb.pure (h _ (List.mem_of_getElem? hr) _ (List.mem_of_getElem? ha)) gc g w x hB dR⟩
theorem lK.row {sz fz:Nat}{r0 r1:List AV}{ex:Bool}(h:Lb ι r0 r1):lK ι (.arr sz [r0] fz ex) (.arr sz [r1] fz ex):=by
 refine⟨fun gc g w b cp hB _ hr=>?_,fun J h=>by grind⟩;obtain⟨cs,ty,h1,h2,h3,h4,h5,h6,h7⟩:=hr;refine⟨cs,ty,h1,h2,h3,h4,fun i row hr=>?_,h6,by rw[hB.fz];exact h7⟩;cases i with
 |succ i=>simp at hr
 |zero =>
  simp at hr;subst hr;obtain⟨q1,q2⟩:=h5 0 r0 rfl;refine⟨by rw[<-h.at.1];exact q1,fun j a ha=>?_⟩;obtain⟨a0,e1,e2⟩:=h.at.2 j a ha;obtain⟨x,hx,dR⟩:=q2 j a0 e1;exact⟨x,hx,e2 gc g w x hB dR⟩
theorem lK.mp {es:List (Value × AV)}(h:∀ e ∈ es,Pure e.2):lK ι (.mp es) (.mp es):=by
 refine⟨fun gc g w b cp hB _ hr=>?_,fun J h=>by grind⟩;obtain⟨entries,clock,h1,h2,h3⟩:=hr;refine⟨entries,clock,h1,h2,fun i k a ha=>?_⟩;obtain⟨e,he,hk,hr⟩:=h3 i k a ha;exact⟨e,he,hk,Rb.pure (h _ (List.mem_of_getElem? ha)) gc g w _ hB hr⟩
theorem lK.fo {J:eP}:lK ι (.fo J) (.fo J):=⟨fun gc g w b cp hB hf hr=>⟨by rw[hB.fz,hf J rfl];exact hr.1,hr.2⟩,fun J' h=>h⟩
end
def rJ (f:Nat->Nat):List Nat->Bool
 |[]=>true
 |j::l=>l.all (fun i=>!Nat.beq (f i) (f j)) && rJ f l
theorem Lc {f:Nat->Nat}:∀ {l:List Nat},rJ f l=true->∀ i j,i ∈ l->j ∈ l->f i=f j->i=j
 |[],_,i,j,h,_,_=>by grind
 |a::l,hd,i,j,hi,hj,e=>by
  simp only[rJ,Bool.and_eq_true,List.all_eq_true,Bool.not_eq_true'] at hd;have ne:∀ x ∈ l,f x ≠ f a:=fun x hx h=>by
   have:=hd.1 x hx;rw[h,Nat.beq_refl] at this;cases this
  rcases List.mem_cons.1 hi with h1|h1
  ·grind
  ·rcases List.mem_cons.1 hj with h2|h2
   ·grind
   ·exact Lc hd.2 i j h1 h2 e
def im (ι:Nat->Nat) (M:Nat) (T:ae):List (Nat × Ob)->Prop
 |[]=>True
 |p::l=>(∃ bY,T.get (ι p.1)=some bY/\kP ι M bY p.2)/\im ι M T l
def fu (o:Nat->Nat) (so:List (Nat × Ob)):List (Nat × Option Ob)->Prop
 |[]=>True
 |(k,none)::l=>fu o so l
 |(k,some eS)::l=>(∃ j p,o j=k/\dL so j=some p/\lK o p eS)/\fu o so l
theorem im.mem {ι:Nat->Nat}{M:Nat}{T:ae}:∀ {l:List (Nat × Ob)},im ι M T l->∀ p ∈ l,∃ bY,T.get (ι p.1)=some bY/\kP ι M bY p.2
 |[],_,p,h=>by grind
 |q::l,hc,p,h=>by
  rcases List.mem_cons.1 h with rfl|h
  ·exact hc.1
  ·exact hc.2.mem p h
theorem fu.mem {o:Nat->Nat}{so:List (Nat × Ob)}:∀ {l:List (Nat × Option Ob)},fu o so l->∀ k eS,(k,some eS) ∈ l->∃ j p,o j=k/\dL so j=some p/\lK o p eS
 |[],_,k,eS,h=>by grind
 |(a,none)::l,hc,k,eS,h=>by
  rcases List.mem_cons.1 h with h|h
  ·grind
  ·exact fu.mem (l:=l) hc k eS h
 |(a,some b)::l,hc,k,eS,h=>by
  rcases List.mem_cons.1 h with h|h
  ·injection h with h1 h2;injection h2 with h2;subst h1 h2;exact hc.1
  ·exact fu.mem (l:=l) hc.2 k eS h
def vq:List (Nat × Ob)->Bool
 |[]=>true
 |(_,.fo _)::_=>false
 |_::l=>vq l
theorem Ld:∀ {l:List (Nat × Ob)}{j:Nat}{J:eP},vq l=true->dL l j ≠ some (.fo J)
 |[],j,J,_,h=>by cases h
 |(a,o)::l,j,J,hn,h=>by
  have hl:vq l=true:=by cases o<;>first|exact hn|cases hn
  simp only[dL] at h;split at h
  ·obtain rfl:=oJ_ h;cases hn
  ·exact Ld hl h
section
variable {P:Program}{w0:World}{rd:Bool}{n:Nat}{α:AA}{T:ae}{Q:Exit->AA->ae->Prop}{K:List ff}{l:List QI}
theorem HO {m:List (Nat × Nat)}{N N':Nat}{so so':List (Nat × Ob)}{to:List (Nat × Option Ob)}(hi:rJ (aJ m) (List.range N)=true) (aA:(List.range N).all (fun j=>Nat.blt (aJ m j) T.nx)=true)
  (hS:im (aJ m) N T so) (hT:fu (cT (aJ m) N T.nx) so' to) (hc:(List.range N).all (fun j=>(to.map (·.1)).contains (aJ m j))=true) (nY:to.all (fun p=>true)=true) (rI:∀ k o,T.get k=some o->k < T.nx) :
  pe (aJ m) (aq so N) (aq so' N') T ⟨dC T.get to,T.nx+N'⟩:=by
 refine⟨fun i j h1 h2 e=>Lc hi i j (List.mem_range.2 h1) (List.mem_range.2 h2) e,fun j hj=>dM (List.all_eq_true.1 aA j (List.mem_range.2 hj)),fun j o ho=>hS.mem _ (fg ho),fun k eS hk=>?_,.inl rfl⟩
 ·have hk:dC T.get to k=some eS:=hk;have key:∀ {l:List (Nat × Option Ob)},dC T.get l k=some eS->(k,some eS) ∈ l\/(k ∉ l.map (·.1)/\T.get k=some eS):=by
   intro l
   induction l with
   |nil=>exact fun h=>.inr ⟨by simp,h⟩
   |cons p l ih =>
    intro h;rw[dC] at h;by_cases e:k=p.1
    ·grind[az]
    ·grind[aD]
  rcases key hk with h|⟨h1,h2⟩
  ·obtain⟨j,p,e1,e2,e3⟩:=hT.mem k eS h;exact .inl ⟨j,p,e1,e2,e3⟩
  ·refine .inr ⟨rI k eS h2,fun j hj e=>h1 ?_,h2⟩;have:=List.all_eq_true.1 hc j (List.mem_range.2 hj);rw[<-e];simpa using this
theorem Le {m:List (Nat × Nat)}{N N':Nat}{so so':List (Nat × Ob)}{to:List (Nat × Option Ob)}(hi:rJ (aJ m) (List.range N)=true) (aA:(List.range N).all (fun j=>Nat.blt (aJ m j) T.nx)=true)
  (hS:im (aJ m) N T so) (hT:fu (cT (aJ m) N T.nx) so' to) (hc:(List.range N).all (fun j=>(to.map (·.1)).contains (aJ m j))=true) (nY:to.all (fun p=>true)=true) (rI:∀ k o,T.get k=some o->k < T.nx)
  (hf:(∀ k J,T.get k=some (.fo J)->∃ j,j < N/\aJ m j=k)\/vq so'=true):Fits (aJ m) (aq so N) (aq so' N') T ⟨dC T.get to,T.nx+N'⟩:=by
 have h:=HO (N':=N') hi aA hS hT hc nY rI;refine⟨h.inj,h.lt,h.hS,h.hT,h.nx,?_⟩;rcases hf with h|h
 ·exact .inl h
 ·exact .inr fun j J=>Ld h
theorem af.po {f:QO}{aZ9:List QO}{g:FuncId}{args args₀:List AV}{r r₀:AV}{m:List (Nat × Nat)}{N N':Nat}{so so':List (Nat × Ob)}{to:List (Nat × Option Ob)}(bH:aC P w0 g args (aq so N) r (aq so' N'))
  (h:dW (f.ev α.tm) (aZ9.map (·.ev α.tm))=some (g,args₀)) (ha:r6 (aJ m) N args₀ args) (hr:Rb (cT (aJ m) N T.nx) r r₀)
  (hi:rJ (aJ m) (List.range N)=true) (aA:(List.range N).all (fun j=>Nat.blt (aJ m j) T.nx)=true) (hS:im (aJ m) N T so) (hT:fu (cT (aJ m) N T.nx) so' to) (hc:(List.range N).all (fun j=>(to.map (·.1)).contains (aJ m j))=true)
  (rI:∀ k o,T.get k=some o->k < T.nx) (hf:(∀ k J,T.get k=some (.fo J)->∃ j,j < N/\aJ m j=k)\/vq so'=true):af P w0 false (.call f aZ9) α T r₀ ⟨dC T.get to,T.nx+N'⟩ :=
 af.call h (bH.frame (Le hi aA hS hT hc (by simp) rI hf) ha.at.1 (fun i a b h1 h2=>by
  obtain⟨a',h3,h4⟩:=ha.at.2 i b h2;rw[h3] at h1;rw[<-oJ_ h1];exact h4) hr) fun e=>by grind
theorem Cv.canon {B N:Nat}{m:List (Nat × Nat)}{l:List (Nat × AV)}{ds:List DE}{so:List (Nat × Ob)}(hn:Nat.ble T.nx B=true) (hC:Canon B N m α T l ds so):Cv w0 n α T (eJ l ds) (aq so N):=by
 intro A g a w hS hA;refine⟨_,hC.st hS,hC.MF hA,(Ext.refl A g w).fX (Nat.le_of_ble_eq_true hC.bn) fun k hk=>?_⟩;exact Nat.lt_of_lt_of_le (hS.al k hk) (Nat.le_of_ble_eq_true hn)
end
section
variable {P:Program}{w0:World}{rd:Bool}{n:Nat}{α:AA}{S:ae}{Q Q':Exit->AA->ae->Prop}{K:List ff}{l:List QI}{dr:Bool}
theorem ib.mono {c:QC}(hm:∀ ex α S,Q ex α S->Q' ex α S) (h:ib P w0 rd n c Q α S):ib P w0 rd n c Q' α S:=by
 intro c0 hc hd;obtain⟨ex,bF,bW,h1,h2⟩:=h c0 hc hd;exact⟨ex,bF,bW,h1,hm _ _ _ h2⟩
theorem dx.mono (hm:∀ ex α S,Q ex α S->Q' ex α S):∀ (K:List ff) (ex:Exit) (α:AA) (S:ae),dx P w0 rd n Q K ex α S->dx P w0 rd n Q' K ex α S
 |[],ex,α,S,h=>hm _ _ _ h
 |.seq b::K,ex,α,S,h=>by
  cases ex with
  |normal=>exact ib.mono (dx.mono hm K) h
  |_=>exact dx.mono hm K _ _ _ h
 |.qe id::K,ex,α,S,h=>by
  cases ex with
  |exit j =>
   simp only[dx] at h ⊢;cases hj:Nat.beq j id with
   |true=>rw[hj] at h;exact dx.mono hm K _ _ _ h
   |false=>rw[hj] at h;exact dx.mono hm K _ _ _ h
  |_=>exact dx.mono hm K _ _ _ h
 |.yN::K,ex,α,S,h=>by
  cases ex with
  |goto l=>exact h
  |_=>exact dx.mono hm K _ _ _ h
theorem uC:∀ (K L:List ff),dx P w0 rd n Q (K++L)=dx P w0 rd n (dx P w0 rd n Q L) K
 |[],L=>rfl
 |.seq b::K,L=>by
  rw[List.cons_append,dx,dx,uC K L]
 |.qe id::K,L=>by
  rw[List.cons_append,dx,dx,uC K L]
 |.yN::K,L=>by
  rw[List.cons_append,dx,dx,uC K L]
theorem eX.mono {Q Q':AA->ae->Prop}{E E':List PanicEntry->AA->ae->Prop}(hm:∀ α S,Q α S->Q' α S) (he:∀ ch α S,E ch α S->E' ch α S) (h:eX P w0 n dr l Q E α S):eX P w0 n dr l Q' E' α S:=by
 intro ops rest hr;have h:=h ops rest hr;cases dr with
 |false=>exact fun j hj=>(h j hj).imp (fun ⟨bF,bW,h1,h2⟩=>⟨bF,bW,h1,hm _ _ h2⟩) fun ⟨ch,bF,bW,h1,h2⟩=>⟨ch,bF,bW,h1,he _ _ _ h2⟩
 |true =>
  intro j hj;obtain⟨bF,bW,h1,h2⟩:=h j hj;exact⟨bF,bW,h1,hm _ _ h2⟩
def MN {σ:Type}(P:Program) (w0:World) (rd:Bool) (n B N:Nat) (st:σ->List (Nat × AV)) (ds:List DE) (so:σ->List (Nat × Ob)) (I:σ->Prop) (Q:Exit->AA->ae->Prop) (K:List ff):Exit->AA->ae->Prop :=
 fun ex α S=>match ex with|.normal=>∃ s m,I s/\Nat.ble S.nx B=true/\Canon B N m α S (st s) ds (so s)|e=>ad P w0 rd n Q (.out e K) α S
theorem ad.agY {σ:Type}(j B N:Nat) (st:σ->List (Nat × AV)) (ds:List DE) (so:σ->List (Nat × Ob)) (I:σ->Prop) {b:QC}{K':List ff}(hj:K.drop j=.seq b::K')
  (h:ad P w0 rd n (MN P w0 rd n B N st ds so I Q (.seq b::K')) (.aN dr l (K.take j)) α S) (k:∀ s,I s->ad P w0 rd n Q (.run b K') (eJ (st s) ds) (aq (so s) N)):ad P w0 rd n Q (.aN dr l K) α S:=by
 rw[<-List.take_append_drop j K,hj];have key:∀ ex α S,dx P w0 rd n (MN P w0 rd n B N st ds so I Q (.seq b::K')) (K.take j) ex α S->dx P w0 rd n Q (K.take j++.seq b::K') ex α S:=?_
 ·exact eX.mono (fun α S hq=>key _ _ _ hq) (fun ch α S hq=>key _ _ _ hq) h
 intro ex α S hq;rw[uC];refine dx.mono (fun ex α S hq=>?_) _ _ _ _ hq;cases ex with
 |normal =>
  obtain⟨s,m,hI,hn,hC⟩:=hq;exact ad.Yw (Cv.canon hn hC) (k s hI)
 |_=>exact hq
theorem ad.Yz {σ:Type}{B N:Nat}{ds:List DE}{st:σ->List (Nat × AV)}{so:σ->List (Nat × Ob)}{I:σ->Prop}(s:σ) (m:List (Nat × Nat)) (hI:I s) (hn:Nat.ble S.nx B=true) (hC:Canon B N m α S (st s) ds (so s)) :
  ad P w0 rd n (MN P w0 rd n B N st ds so I Q K) (.out .normal []) α S:=⟨s,m,hI,hn,hC⟩
end
def ko:List Nat->(Nat->AV)->Nat->AV
 |[],f=>fun _=>.u
 |t::G,f=>match f t with|.u=>ko G f|a=>a7 (ko G f) t a
theorem yO:∀ (G:List Nat) (f:Nat->AV) (s:Nat),ko G f s=f s\/ko G f s=.u
 |[],f,s=>.inr rfl
 |t::G,f,s=>by
  have ih:=yO G f s;have key:ko (t::G) f=ko G f\/ko (t::G) f=a7 (ko G f) t (f t):=by grind[ko]
  rcases key with h|h<;>rw[h]
  ·grind
  ·grind[az,aD]
def nU (G:List Nat):Nat->QF->AA->ae->QF × AA × ae
 |0,c,α,S=>(c,α,S)
 |m+1,c,α,S=>match c with
  |.out .normal (.seq b::K)=>match α with|⟨f,d⟩=>nU G m (.run b K) ⟨ko G f,d⟩ S
  |c=>match yP c α S with
   |some (c',au,S')=>nU G m c' au S'
   |none=>(c,α,S)
section
variable {P:Program}{w0:World}{rd:Bool}{n:Nat}{Q:Exit->AA->ae->Prop}
theorem Cv.prune (G:List Nat) {α:AA}{S:ae}:Cv w0 n α S ⟨ko G α.tm,α.df⟩ S:=by
 intro A g a w hS hA;refine⟨g,hS,?_,Ext.refl A g w⟩;refine⟨hA.size,fun t ht=>?_,fun t ht=>?_,hA.df,hA.rY⟩
 ·rcases yO G α.tm t with h|h
  ·show aF g w (ko G α.tm t) _;rw[h];exact hA.tm t ht
  ·show aF g w (ko G α.tm t) _;rw[h];exact .u
 ·show ko G α.tm t=.u;rcases yO G α.tm t with h|h
  ·rw[h];exact hA.out t ht
  ·grind
theorem wN (G:List Nat):∀ {m:Nat}{cf s9:QF}{α au:AA}{S S':ae},nU G m cf α S=(s9,au,S')->ad P w0 rd n Q s9 au S'->ad P w0 rd n Q cf α S
 |0,cf,s9,α,au,S,S',h,k=>by grind[nU]
 |m+1,cf,s9,α,au,S,S',h,k=>by
  unfold nU at h;split at h
  ·rename_i b K;cases α;exact ad.cv (c:=b) (K:=K) (Cv.prune G) (wN (m:=m) G h k)
  ·split at h
   ·rename_i c1 a1 s1 hm;exact O3 hm (wN G h k)
   ·grind
theorem ad.yQ (G:List Nat) (m:Nat) {cf s9:QF}{α au:AA}{S S':ae}(h:nU G m cf α S=(s9,au,S')) (k:ad P w0 rd n Q s9 au S'):ad P w0 rd n Q cf α S:=wN G h k
end
section
variable {P:Program}{w0:World}{α:AA}{S:ae}
theorem af.raw {op:BinOp}{isB:BK}{x y:QO}{k k':IntKind}{a b:Int}{r:Value}(h1:x.ev α.tm=.v (.int k a)) (h2:y.ev α.tm=.v (.int k' b)) (hq:op ≠ .eql) (hn:op ≠ .neq)
  (h:∀ (t:TypeId) (w:World),(binOp op t (.int k a) (.int k' b)).run P w=.ok r w):af P w0 false (.bin op isB x y) α S (.v r) S:=by
 refine af.run fun n o hr=>?_;obtain⟨t,u,v,s,ho,rfl,rfl,hB⟩:=oU hr;rw[aI] at h1 h2;refine aQ.quiet fun A g q w hS hA=>?_;have e1:=hA.ev u;have e2:=hA.ev v;rw[h1] at e1;rw[h2] at e2;refine⟨_,?_,.v⟩;have hg:∀ (u v:Operand) (x y:Value),eqGuard op t u v x y=pure ():=by
  intro u v x y;cases op<;>first|rfl|exact absurd rfl hq|exact absurd rfl hn
 simp[execOp,ho,bI e1,bI e2,hg,h]
end
section
variable {P:Program}{w0:World}{n:Nat}{S S':ae}{f:FuncId}{args:List AV}{r r':AV}{B N:Nat}{m:List (Nat × Nat)}{so:List (Nat × Ob)}
theorem aC.canon (h:aC P w0 f args S r S') (hn:Nat.ble S.nx B=true) (hr:ij B m N r r') (ho:fY B m N S' so) (hd:nu B m (so.map (·.1))=true) (hb:Nat.ble B N=true):aC P w0 f args S r' (aq so N):=by
 refine⟨h.1,fun F mm A g args' w hF hS hA=>(h.2 F mm A g args' w hF hS hA).mono ?_⟩;rintro e w' ⟨v,g',rfl,h3,h4,h5⟩;have hC:Canon B N m ⟨fun _=>.u,[]⟩ S' [] [] so:=⟨trivial,rfl,ho,hd,hb,rfl⟩;have hN:=Nat.le_of_ble_eq_true hb;exact⟨v,g'.fX B N (aJ m),rfl,ij.rep hN hr h3,hC.st h4,h5.fX hN fun k hk=>Nat.lt_of_lt_of_le (hS.al k hk) (Nat.le_of_ble_eq_true hn)⟩
theorem mK.agZ {q:QC × List QR}(B N:Nat) (so:List (Nat × Ob)) (F:mK P f q n) (bj:args.length<=n) (hn:Nat.ble S.nx B=true) (hb:Nat.ble B N=true)
  (h:ad P w0 false n (nS q.2 fun r S'=>∃ m,ij B m N r r'/\fY B m N S' so/\nu B m (so.map (·.1))=true) (.run q.1 []) ⟨kG args,[]⟩ S):aC P w0 f args S r' (aq so N):=by
 obtain⟨r,S',h1,m,h2,h3,h4⟩:=mK.CL F bj h;exact h1.canon hn h2 h3 h4 hb
end
section
variable {P:Program}{w0:World}{α:AA}{S:ae}
theorem af.ext {f:QO}{aZ9:List QO}{g:FuncId}{xs:List Value}{v:Value}(h:f.ev α.tm=.v (.func (.func g) #[] #[])) (ha:aZ9.map (·.ev α.tm)=xs.map .v) (hx:∀ w:World,(callFunc g xs.toArray).run P w=.ok (.value v) w):af P w0 false (.call f aZ9) α S (.v v) S:=by
 refine af.run fun n o hr=>?_;obtain⟨c,u,ho,hu,rfl,rfl⟩:=kF hr;rw[iF] at ha;rw[aI] at h;refine aQ.quiet fun A g' q w hS hA=>?_;have e1:=hA.ev u;rw[h] at e1;have e2:=bI e1;have key:∀ (l:List Operand) (xs:List Value),l.map α.ev=xs.map AV.v->l.map q.eval=xs:=by
  intro l
  induction l with
  |nil =>
   intro xs h;cases xs with
   |nil=>rfl
   |cons x xs=>cases h
  |cons y l ih =>
   intro xs h;cases xs with
   |nil=>cases h
   |cons x xs =>
    rw[List.map_cons,List.map_cons] at h;injection h with h1 h2;have e5:=hA.ev y;rw[h1] at e5;rw[List.map_cons,bI e5,ih xs h2]
 have e3:c.args.map q.eval=xs.toArray:=by grind
 refine⟨v,?_,.v⟩;have YA:=hx w;simp[execOp,ho,hu,e2,e3,YA,resolve,invoke,Deferred.ofValue]
end
end Go.Proofs.YtbpabjmnhggajaaGreat
