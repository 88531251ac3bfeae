import Derived.Test.YtgjfgekaclobaaaGreatCm6
namespace Go.Proofs.YtgjfgekaclobaaaGreat
set_option linter.unusedVariables false
set_option linter.unusedSimpArgs false
open Go.RowKit
section
variable {P:Program}{w0:World}{n:Nat}{o:Oper}{α:AA}{S S':aa}{r:AV}
theorem iA {g:Gh}{w:World}{l m:List AV}{xs ys:Array Value}(h:jd g w l xs) (k:jd g w m ys):jd g w (l++m) (xs++ys):=by
 refine⟨by simp [h.1,k.1],fun i a x h1 h2=>?_⟩
 by_cases c:i < l.length
 ·rw [List.getElem?_append_left c] at h1
  rw [Array.getElem?_append_left (by rw [h.1];exact c)] at h2
  exact h.2 i a x h1 h2
 ·rw [List.getElem?_append_right (by omega)] at h1
  rw [Array.getElem?_append_right (by rw [h.1];omega),h.1] at h2
  exact k.2 _ a x h1 h2
theorem ES {c:Call}{f:Operand}{gf:FuncId}{args:List AV}{r:AV}(ho:o.op=.call c) (hc:c.callee=.value f)
  (hf:∀ (A:Nat->Prop) (g:Gh) (a:Act) (w:World),St w0 A g S w->bf g w n α a->∃ first cap,a.eval f=.func (.func gf) first cap/\jd g w args (first++c.args.map a.eval++cap)) (h:aE P w0 gf args S r S'):de P w0 n o α S r S':=by
 intro F m A g a w next Q hF hS hA nb
 rw [Oper.semAt_eq _ _ _ (fun c' e=>by rw [ho] at e;cases e)]
 obtain⟨first,cap,he,hr⟩:=hf A g a w hS hA
 have bw:(execOp a.eval o).run P w=.ok (.enter gf (first++c.args.map a.eval++cap)) w:=by
  simp only [execOp,ho,resolve,hc,he,Deferred.ofValue,Sem.run_bind,Sem.run_pure,Result.andThen_ok,invoke]
  exact h.1 _ w
 rw [bw,Oper.uponIn_enter]
 refine⟨fun hd=>(by rw [hF.2.1] at hd;cases hd),(h.2 F (m - 1) A g _ w hF hS hr).mono ?_⟩
 rintro e w' ⟨v,g',rfl,h1,h2,h3⟩
 exact nb v w' g' h1 h2 h3
theorem EC {c:Call}{f:Operand}{k:Nat}{r:AV}(ho:o.op=.call c) (hc:c.callee=.value f) (hf:α.ev f=.yl k) (h:s9 P w0 k (c.args.toList.map α.ev) S r S'):de P w0 n o α S r S':=by
 intro F m A g a w next Q hF hS hA nb
 rw [Oper.semAt_eq _ _ _ (fun c' e=>by rw [ho] at e;cases e)]
 have h1:=hA.ev f
 rw [hf] at h1
 obtain⟨y,hy⟩:∃ y,a.eval f=y:=⟨_,rfl⟩
 rw [hy] at h1
 cases h1 with
 |yl hk =>
  obtain⟨l,fn,tmps,assign,body,Ua,Ub⟩:=h F (m - 1) A g (c.args.map a.eval) w hF hS hk (lI hA c.args)
  have bw:(execOp a.eval o).run P w=.ok (.round l fn tmps assign body) w:=by
   simp only [execOp,ho,resolve,hc,hy,Deferred.ofValue,Sem.run_bind,Sem.run_pure,Result.andThen_ok,invoke]
   simpa using Ua
  rw [bw,Oper.uponIn_round]
  refine⟨fun hd=>(by rw [hF.2.1] at hd;cases hd),Ub.mono ?_⟩
  rintro e w' ⟨v,g',rfl,h1,h2,h3⟩
  exact nb v w' g' h1 h2 h3
theorem RC {β γ:Type}{f:β->γ}{l:Array β}{a:γ}(h:l.toList.map f=[a]):∃ x,l=#[x]/\f x=a:=by
 obtain⟨l⟩:=l
 match l,h with
 |[x],h=>exact⟨x,rfl,by simpa using h⟩
theorem zi {β γ:Type}{f:β->γ}{l:Array β}{a b:γ}(h:l.toList.map f=[a,b]):∃ x y,l=#[x,y]/\f x=a/\f y=b:=by
 obtain⟨l⟩:=l
 match l,h with
 |[x,y],h=>exact⟨x,y,rfl,by simp at h;exact h.1,by simp at h;exact h.2⟩
theorem ba {op:Op}(ho:o.op=op) (h:∀ c,op ≠ .defer c):∀ c,o.op ≠ .defer c:=fun c e=>h c (ho.symm.trans e)
theorem sK {K:AV->aa->Prop}(h:aK P w0 o.op α S K):∃ r S',de P w0 n o α S r S'/\K r S':=by
 have ok:∀ {r:AV}{S':aa},aI P w0 n o α S r S'->(∀ c,o.op ≠ .defer c)->K r S'->∃ r S',de P w0 n o α S r S'/\K r S':=fun hr hd hK=>⟨_,_,hr.ops hd,hK⟩
 cases aQ:o.op with
 |move x=>rw [aQ] at h;exact ok (run_move (.inl aQ)) (ba aQ fun c e=>by cases e) h
 |assign x=>rw [aQ] at h;exact ok (run_move (.inr aQ)) (ba aQ fun c e=>by cases e) h
 |pick c a b =>
  rw [aQ] at h
  simp only [aK,aL] at h
  split at h
  ·rename_i t hc
   have hr:=LX (n:=n) (P:=P) (w0:=w0) (S:=S) aQ hc
   cases t with
   |true=>exact ok hr (ba aQ fun c e=>by cases e) h
   |false=>exact ok hr (ba aQ fun c e=>by cases e) h
  ·exact h.elim
 |alloc e =>
  rw [aQ] at h
  simp only [aK,aL] at h
  split at h
  ·rename_i z hz;exact ok (JP aQ hz) (ba aQ fun c e=>by cases e) h
  ·exact h.elim
 |box e x =>
  rw [aQ] at h
  simp only [aK,aL] at h
  split at h
  ·rename_i hx;exact ok (Q9 aQ hx) (ba aQ fun c e=>by cases e) h
  ·exact h.elim
 |build t parts =>
  rw [aQ] at h
  simp only [aK,aL] at h
  split at h
  ·rename_i a ha;exact ok (FC aQ ha) (ba aQ fun c e=>by cases e) h
  ·exact h.elim
 |buildSlice t len parts =>
  rw [aQ] at h
  simp only [aK,aL] at h
  split at h
  ·rename_i e he
   split at h
   ·rename_i z sz hz hs
    split at h
    ·rename_i hb
     simp only [Bool.and_eq_true] at hb
     obtain⟨⟨b1,b2⟩,b3⟩:=hb
     split at h
     ·rename_i rows hr
      have hu:P.underlying t=some (.slice e):=by
       unfold eu at he
       split at he
       ·rename_i e' hu;rw [hu,Option.some.inj he]
       ·cases he
      exact ok (yY aQ hu hz hs (Nat.le_of_ble_eq_true b1) (Nat.eq_of_beq_eq_true b2) (Nat.lt_of_lt_of_le Nat.zero_lt_one (Nat.le_of_ble_eq_true b3)) hr) (ba aQ fun c e=>by cases e) h
     ·exact h.elim
    ·exact h.elim
   ·exact h.elim
  ·exact h.elim
 |load t x =>
  rw [aQ] at h
  simp only [aK,aL] at h
  split at h
  ·rename_i a ha;exact ok (JQ aQ ha) (ba aQ fun c e=>by cases e) h
  ·exact h.elim
 |store t x b =>
  rw [aQ] at h
  simp only [aK,aL] at h
  split at h
  ·rename_i a ha;exact ok (FD aQ ha) (ba aQ fun c e=>by cases e) h
  ·exact h.elim
 |binOp op t x y ty =>
  rw [aQ] at h
  simp only [aK,aL] at h
  split at h
  ·rename_i k a k' b hx hy
   split at h
   ·rename_i c hc
    split at h
    ·rename_i hk
     obtain rfl:=of_decide_eq_true hk
     obtain⟨d,rfl,hK⟩:=h
     exact ok (JR aQ hx hy hc) (ba aQ fun c e=>by cases e) hK
    ·exact h.elim
   ·split at h
    ·rename_i v hv;exact ok (wR aQ hx hy hv) (ba aQ fun c e=>by cases e) h.out
    ·exact h.elim
  ·rename_i a b hx hy
   split at h
   ·exact ok (FE aQ hx hy h.1) (ba aQ fun c e=>by cases e) h.2
   ·split at h
    ·rename_i v hv;exact ok (wR aQ hx hy hv) (ba aQ fun c e=>by cases e) h.out
    ·exact h.elim
  ·rename_i a b n1 n2 hx hy
   split at h
   ·rename_i v hv;exact ok (wR aQ hx hy hv) (ba aQ fun c e=>by cases e) h.out
   ·exact h.elim
  ·exact h.elim
 |unOp op t x =>
  rw [aQ] at h
  simp only [aK,aL] at h
  split at h
  ·rename_i b hx;exact ok (Q_ aQ hx) (ba aQ fun c e=>by cases e) h
  ·rename_i k a hx
   obtain⟨d,rfl,hK⟩:=h
   exact ok (Ra aQ hx) (ba aQ fun c e=>by cases e) hK
  ·exact h.elim
 |convert src dst x =>
  rw [aQ] at h
  simp only [aK,aL] at h
  split at h
  ·rename_i k0 k k' a hs hd hx
   obtain⟨d,rfl,hK⟩:=h
   exact ok (Dn aQ hs hd hx) (ba aQ fun c e=>by cases e) hK
  ·rename_i s hs hd hx
   exact ok (Dp aQ hs hd hx) (ba aQ fun c e=>by cases e) h
  ·exact h.elim
 |fieldAddr s x f =>
  rw [aQ] at h
  simp only [aK,aL] at h
  split at h
  ·rename_i fs hu
   split at h
   ·rename_i fd hf
    split at h
    ·rename_i m hs
     split at h
     ·rename_i row hx;exact ok (Dq aQ hu hf hs hx) (ba aQ fun c e=>by cases e) h
     ·rename_i k sz i j hx;exact ok (Dr aQ hu hf hs hx) (ba aQ fun c e=>by cases e) h
     ·exact h.elim
    ·exact h.elim
   ·exact h.elim
  ·exact h.elim
 |field t x f =>
  rw [aQ] at h
  simp only [aK,aL] at h
  split at h
  ·rename_i fs hu
   split at h
   ·rename_i fd hf
    split at h
    ·rename_i l hx
     split at h
     ·rename_i a ha;exact ok (FF aQ hu hf hx ha) (ba aQ fun c e=>by cases e) h
     ·exact h.elim
    ·exact h.elim
   ·exact h.elim
  ·exact h.elim
 |indexAddr t x i =>
  rw [aQ] at h
  simp only [aK,aL] at h
  split at h
  ·rename_i e ex rows kd k hu hx hy
   split at h
   ·rename_i sz hs
    split at h
    ·rename_i row hi;exact ok (Dv aQ hu hx hy hs hi h.1) (ba aQ fun c e=>by cases e) h.2
    ·exact h.elim
   ·exact h.elim
  ·rename_i e k sz off len cx kd i hu hx hy
   exact ok (Dw aQ hu hx hy h.1 h.2.1 h.2.2.1) (ba aQ fun c e=>by cases e) h.2.2.2
  ·rename_i len e k sz i j kd q hu hx hy
   split at h
   ·rename_i m hs;exact ok (yZ aQ hu hx hy hs h.1 h.2.1) (ba aQ fun c e=>by cases e) h.2.2
   ·exact h.elim
  ·rename_i len e row kd q hu hx hy
   split at h
   ·rename_i m hs;exact ok (y0 aQ hu hx hy hs h.1 h.2.1) (ba aQ fun c e=>by cases e) h.2.2
   ·exact h.elim
  ·exact h.elim
 |index t x i =>
  rw [aQ] at h
  simp only [aK,aL] at h
  split at h
  ·rename_i s kd k hu hx hy
   split at h
   ·rename_i b hi;exact ok (Cj aQ hu hx hy hi) (ba aQ fun c e=>by cases e) h
   ·exact h.elim
  ·rename_i len e l kd q hu hx hy
   split at h
   ·rename_i m hs
    split at h
    ·rename_i a ha;exact ok (Ck aQ hu hx hy hs ha h.1 h.2.1) (ba aQ fun c e=>by cases e) h.2.2
    ·exact h.elim
   ·exact h.elim
  ·exact h.elim
 |slice t x lo hi mx =>
  rw [aQ] at h
  obtain⟨r,S',hr,hK⟩:=IG (n:=n) aQ h
  exact ok hr (ba aQ fun c e=>by cases e) hK
 |extract x i =>
  rw [aQ] at h
  simp only [aK,aL] at h
  split at h
  ·rename_i l hx
   split at h
   ·rename_i a ha;exact ok (Ds aQ hx ha) (ba aQ fun c e=>by cases e) h
   ·exact h.elim
  ·exact h.elim
 |makeSlice t l c =>
  rw [aQ] at h
  simp only [aK,aL] at h
  split at h
  ·rename_i e ka a kb b he hl hc
   split at h
   ·rename_i z sz by_ hz hs ja
    split at h
    ·rename_i hb
     simp only [Bool.and_eq_true] at hb
     obtain⟨h1,rfl,h2,h3,hK⟩:=h
     have hu:P.underlying t=some (.slice e):=by
      unfold eu at he
      split at he
      ·rename_i e' hu;rw [hu,Option.some.inj he]
      ·cases he
     exact ok (II aQ hu hz hs ja (Nat.eq_of_beq_eq_true hb.1) (Nat.lt_of_lt_of_le Nat.zero_lt_one (Nat.le_of_ble_eq_true hb.2)) hl hc h1 h2 h3) (ba aQ fun c e=>by cases e) hK
    ·exact h.elim
   ·exact h.elim
  ·exact h.elim
 |range t x =>
  rw [aQ] at h
  simp only [aK] at h
  split at h
  ·rename_i s hu hx
   exact ok (De aQ hu hx) (ba aQ fun c e=>by cases e) h
  ·exact h.elim
 |next x isStr =>
  rw [aQ] at h
  simp only [aK] at h
  split at h
  ·rename_i k sz hx
   obtain⟨⟨s,pos⟩,hk,d,hd,h⟩:=h.out
   have hk:=Jf hk
   cases d with
   |true=>exact ok (DB aQ hx hk (of_decide_eq_true hd)) (ba aQ fun c e=>by cases e) h
   |false=>exact ok (DC aQ hx hk (of_decide_eq_false hd)) (ba aQ fun c e=>by cases e) h
  ·exact h.elim
 |makeFunc f first cap=>rw [aQ] at h;exact ok (Ch aQ) (ba aQ fun c e=>by cases e) h
 |nilCheck x =>
  rw [aQ] at h
  simp only [aK,aL] at h
  split at h
  ·rename_i c hx
   have:=Ad (P:=P) (w0:=w0) (n:=n) (S:=S) aQ (.inl ⟨c,hx⟩)
   rw [hx] at this
   exact ok this (ba aQ fun c e=>by cases e) h
  ·rename_i k sz i j hx
   have:=Ad (P:=P) (w0:=w0) (n:=n) (S:=S) aQ (.inr ⟨k,sz,i,j,hx⟩)
   rw [hx] at this
   exact ok this (ba aQ fun c e=>by cases e) h
  ·exact h.elim
 |call c =>
  rw [aQ] at h
  simp only [aK,aL] at h
  split at h
  ·rename_i f hc
   unfold uD at h
   split at h
   ·rename_i gf first cap hf
    split at h
    ·rename_i e1 e2
     obtain⟨r,S',cA,hK⟩:=h
     have e1:first=#[]:=by simpa using e1
     have e2:cap=#[]:=by simpa using e2
     subst e1 e2
     refine⟨r,S',ES aQ hc (fun A g a w hS hA=>?_) cA,hK⟩
     have h1:=hA.ev f
     rw [hf] at h1
     refine⟨#[],#[],bg h1,?_⟩
     have e:(#[]:Array Value)++c.args.map a.eval++#[]=c.args.map a.eval:=by simp
     rw [e]
     exact lI hA c.args
    ·exact h.elim
   ·rename_i gf first cap hf
    obtain⟨r,S',cA,hK⟩:=h
    refine⟨r,S',ES aQ hc (fun A g a w hS hA=>?_) cA,hK⟩
    have h1:=hA.ev f
    rw [hf] at h1
    obtain⟨y,hy⟩:∃ y,a.eval f=y:=⟨_,rfl⟩
    rw [hy] at h1
    cases h1 with
    |@fn _ _ _ cs ds p1 p2 p3 p4 =>
     exact⟨cs,ds,hy,iA (iA ⟨p1,p3⟩ (lI hA c.args)) ⟨p2,p4⟩⟩
   ·rename_i k hf
    obtain⟨r,S',abS,hK⟩:=h
    exact⟨r,S',EC aQ hc hf abS,hK⟩
   ·exact h.elim
  ·rename_i b hc
   unfold j6 at h
   split at h
   ·split at h
    ·rename_i t a eO aT
     obtain⟨x,hx,AB⟩:=RC aT
     unfold aL at h
     split at h
     ·rename_i m hlen
      unfold lenOf at hlen
      split at hlen
      ·rename_i e m' hu hs hm
       obtain rfl:=Option.some.inj hlen
       exact ok (Ex aQ hc (toList_one eO) hx AB hm hu (.inl ⟨e,rfl,fun s e=>by rw [e] at hs;cases hs⟩)) (ba aQ fun c e=>by cases e) h
      ·rename_i m' hu hs hm
       obtain rfl:=Option.some.inj hlen
       refine ok (Ex aQ hc (toList_one eO) hx AB hm hu (.inr ⟨rfl,?_⟩)) (ba aQ fun c e=>by cases e) h
       unfold isStr at hs
       split at hs
       ·exact⟨_,rfl⟩
       ·cases hs
      ·cases hlen
     ·exact h.elim
    ·exact h.elim
   ·split at h
    ·rename_i t t2 a b eO aT
     obtain⟨x,y,ib,AB,Kx⟩:=zi aT
     split at h
     ·rename_i e e2 he ZT
      split at h
      ·rename_i hz
       obtain⟨more,hm,h⟩:=h.out
       split at hz
       ·rename_i z sz I_ hs
        have elem:∀ {t e:TypeId},eu P t=some e->P.underlying t=some (.slice e):=by
         intro t e he
         unfold eu at he
         split at he
         ·rename_i e' hu;rw [hu,Option.some.inj he]
         ·cases he
        obtain⟨r,S',hr,hK⟩:=DA (n:=n) (w0:=w0) aQ hc (toList_two eO) ib AB Kx (elem he) (elem ZT) hm h.1 I_ hs (Nat.eq_of_beq_eq_true hz) h.2
        exact ok hr (ba aQ fun c e=>by cases e) hK
       ·cases hz
      ·exact h.elim
     ·exact h.elim
    ·exact h.elim
   ·split at h
    ·rename_i k a k' b aT
     obtain⟨x,y,ib,AB,Kx⟩:=zi aT
     split at h
     ·rename_i hk
      obtain rfl:=of_decide_eq_true hk
      exact ok (Re aQ hc ib AB Kx) (ba aQ fun c e=>by cases e) h
     ·exact h.elim
    ·exact h.elim
   ·split at h
    ·rename_i k a k' b aT
     obtain⟨x,y,ib,AB,Kx⟩:=zi aT
     split at h
     ·rename_i hk
      obtain rfl:=of_decide_eq_true hk
      exact ok (Rf aQ hc ib AB Kx) (ba aQ fun c e=>by cases e) h
     ·exact h.elim
    ·exact h.elim
   ·exact h.elim
  ·exact h.elim
 |_=>rw [aQ] at h;exact h.elim
end
section
variable {P:Program}{w0:World}{rd:Bool}{n:Nat}{o:Oper}{α:AA}{S S':aa}{r:AV}
def nG (P:Program) (w0:World) (n:Nat) (ops:Array Oper) (l:List Nat) (α:AA) (S:aa) (ag:AA) (S':aa):Prop :=
 ∀ (F:Fence) (m:Nat) (A:Nat->Prop) (g:Gh) (a:Act) (w:World) (Q:Exit->Act->World->Prop),fZ F->St w0 A g S w->bf g w n α a ->
  (∀ (a':Act) (w':World) (g':Gh),St w0 A g' S' w'->bf g' w' n ag a'->Ext A g w g' w'->Q .normal a' w')->wpOpsIn F m P ops Q l a w
theorem gV {g:Gh}{w:World}{a:Act}{x:Value}{b:AV}{d:Option Tmp}(hA:bf g w n α a) (hd:(match d with|some d=>Nat.blt d n|none=>true)=true) (hx:aA g w b x):bf g w n (α.put d b) (a.put d x):=by
 cases d with
 |none=>exact hA.K0
 |some d=>exact hA.put (Nat.lt_of_lt_of_le (Nat.lt_succ_self d) (Nat.le_of_ble_eq_true hd)) hx
theorem kW {g:Gh}{w:World}{a:Act}{ops:Array Oper}{j:Nat}{y:Option Bool}(hA:bf g w n α a) (h:lO ops α j=some y):yielded ops a.tmps j=y:=by
 unfold lO at h
 unfold yielded
 split at h
 ·rename_i t ht
  have key:∀ x,α.tm t=.v x->a.tmps[t]?=some x:=by
   intro x hc
   have aB:t < n:=by
    rcases Nat.lt_or_ge t n with h|h
    ·exact h
    ·have:=hA.out t h;rw [this] at hc;cases hc
   have h1:=hA.tm t aB
   rw [hc] at h1
   have h2:=bg h1
   have hs:t < a.tmps.size:=by rw [hA.size];exact aB
   rw [Array.getElem?_eq_getElem hs]
   rw [Array.getD_eq_getD_getElem?,Array.getElem?_eq_getElem hs] at h2
   simpa using h2
  split at h
  ·rename_i c hc
   obtain rfl:=Option.some.inj h
   rw [ht]
   simp [key _ hc]
  ·rename_i c hc
   obtain rfl:=Option.some.inj h
   rw [ht]
   simp [key _ hc]
  ·cases h
 ·cases h
theorem nG.step {ops:Array Oper}{i:Nat}{rest:List Nat}{ag:AA}{bR:aa}(hi:ops[i]?=some o) (hd:(match o.dst with|some d=>Nat.blt d n|none=>true)=true)
  (hw:∀ (g:Gh) (w:World) (a:Act),bf g w n α a->Region.wanted o (yielded ops a.tmps)=true) (h:de P w0 n o α S r bR) (k:nG P w0 n ops rest (α.put o.dst r) bR ag S'):nG P w0 n ops (i::rest) α S ag S':=by
 intro F m A g a w Q hF hS hA hQ
 simp only [wpOpsIn,hi]
 rw [if_pos (hw g w a hA)]
 refine⟨fun f _=>hF.1 f,h F m A g a w _ Q hF hS hA fun v w' g' hr dO hE=>?_⟩
 exact k F m A g' _ w' Q hF dO (gV (hA.later hE.toLater) hd hr) fun a' iY qv h1 h2 h3=>hQ a' iY qv h1 h2 (hE.trans h3)
theorem bI.region {id:Nat}{ops:Array Oper}{ag:AA}(h:nG P w0 n ops (List.range ops.size) α S ag S'):bI P w0 rd n (.region id ops false) α S .normal ag S' :=
 fun F m A g a w hF hR hS hA=>wpIn_region (h F m A g a w _ hF hS hA fun a' w' g' h1 h2 h3=>⟨rfl,g',h1,h2,h3⟩)
def E5 (P:Program) (α:AA) (S:aa):ResultVar->Option AV
 |.tmp t=>some (α.tm t)
 |.cell a t=>pc P S t (α.tm a)
def s4 (P:Program) (α:AA) (S:aa):List ResultVar->Option (List AV)
 |[]=>some []
 |r::rs=>match E5 P α S r with
  |some a=>match s4 P α S rs with|some l=>some (a::l)|none=>none
  |none=>none
def rz (P:Program) (rs:Array ResultVar) (α:AA) (S:aa):Option AV :=
 match s4 P α S rs.toList with
 |some [a]=>some a
 |some l=>some (.aC l)
 |none=>none
def gH (S:aa):List DE->aa
 |[]=>S
 |d::ks=>gH (S.set d.k none) ks
def sZ (S:aa):List DE->Bool
 |[]=>true
 |.ob k::ks=>match S.get k with|some .df=>sZ (S.set k none) ks|_=>false
 |.del _ _ _::_=>false
def A8 (P:Program) (rs:Array ResultVar) (R:AV->aa->Prop) (ex:Exit) (α:AA) (S:aa):Prop :=
 match ex with
 |.normal|.ret=>match sZ S α.df,rz P rs α (gH S α.df) with
  |true,some r=>R r (gH S α.df)
  |_,_=>False
 |_=>False
def IJ (tmps:Array Value) (rv:ResultVar):Sem Value :=
 match rv with
 |.tmp t=>pure (tmps.getD t undef)
 |.cell c t=>do loadVar t (<-asAddr (tmps.getD c undef))
theorem yq (fn:Func) (tmps:Array Value):results fn tmps=(do
  let vs <-fn.results.mapM (IJ tmps)
  pure (if h:vs.size=1 then vs[0] else .tuple vs)):=by
 unfold results
 congr 1
theorem IK {A:Nat->Prop}{g:Gh}{w:World}{a:Act}{rv:ResultVar}{b:AV}(hS:St w0 A g S w) (hA:bf g w n α a) (h:E5 P α S rv=some b) :
  ∃ x,(IJ a.tmps rv).run P w=.ok x w/\aA g w b x:=by
 have ev:=fun t=>hA.ev (.tmp t)
 cases rv with
 |tmp t =>
  obtain rfl:=Option.some.inj h
  exact⟨_,rfl,ev t⟩
 |cell c t =>
  obtain⟨b',q,x,h1,h2,h3⟩:=vC (t:=t) hS h (ev c)
  have h1:a.tmps.getD c undef=.pointer (some ⟨b',q,none⟩):=h1
  exact⟨x,by simp [IJ,h1,asAddr,h2],h3⟩
theorem sg {A:Nat->Prop}{g:Gh}{w:World}{a:Act}(hS:St w0 A g S w) (hA:bf g w n α a):∀ {rs:List ResultVar}{l:List AV},s4 P α S rs=some l ->
  ∃ xs:List Value,(rs.mapM (IJ a.tmps)).run P w=.ok xs w/\xs.length=l.length/\∀ (i:Nat) (b:AV) (x:Value),l[i]?=some b->xs[i]?=some x->aA g w b x
 |[],l,h=>by
  obtain rfl:=Option.some.inj h
  exact⟨[],by simp,rfl,fun i b x h=>by simp at h⟩
 |rv::rs,l,h=>by
  simp only [s4] at h
  split at h
  ·rename_i b hb
   split at h
   ·rename_i l' hl
    obtain rfl:=Option.some.inj h
    obtain⟨x,h1,h2⟩:=IK hS hA hb
    obtain⟨xs,h3,h4,h5⟩:=sg hS hA hl
    refine⟨x::xs,?_,by simp [h4],fun i b' y sW hy=>?_⟩
    ·rw [List.mapM_cons]
     simp only [Sem.run_bind]
     rw [h1]
     simp only [Result.andThen_ok,Sem.run_bind]
     rw [h3]
     rfl
    ·cases i with
     |zero=>simp at sW hy;subst sW hy;exact h2
     |succ i=>simp at sW hy;exact h5 i b' y sW hy
   ·cases h
  ·cases h
theorem xS {A:Nat->Prop}{g:Gh}{w:World}{a:Act}{fn:Func}{b:AV}(hS:St w0 A g S w) (hA:bf g w n α a) (h:rz P fn.results α S=some b):∃ x,(results fn a.tmps).run P w=.ok x w/\aA g w b x:=by
 have e:∀ {l:List AV}{xs:List Value},xs.length=l.length->(∀ (i:Nat) (b:AV) (x:Value),l[i]?=some b->xs[i]?=some x->aA g w b x)->(xs.toArray.size=1->∃ a,l=[a])/\aA g w (.aC l) (.tuple xs.toArray):=by
  intro l xs h1 h2
  refine⟨fun h3=>?_,.aC (by simpa using h1) (fun i b x hb hx=>h2 i b x hb (by simpa using hx))⟩
  match l,h1 with
  |[a],_=>exact⟨a,rfl⟩
  |[],h1=>simp only [List.size_toArray,h1,List.length_nil] at h3;cases h3
  |_::_::_,h1=>simp only [List.size_toArray,h1,List.length_cons] at h3;omega
 unfold rz at h
 split at h
 ·rename_i a0 hl
  obtain rfl:=Option.some.inj h
  obtain⟨xs,h1,h2,h3⟩:=sg hS hA hl
  clear e
  match xs,h2,h1,h3 with
  |[x],_,h1,h3 =>
   refine⟨x,?_,h3 0 _ x rfl rfl⟩
   simp only [yq,Array.mapM_eq_mapM_toList,Sem.run_bind,Sem.run_map]
   rw [h1]
   rfl
 ·rename_i l aP hl
  obtain rfl:=Option.some.inj h
  obtain⟨xs,h1,h2,h3⟩:=sg hS hA hl
  obtain⟨e1,e2⟩:=e h2 h3
  refine⟨_,?_,e2⟩
  have hs:¬ xs.toArray.size=1:=fun h=>by obtain⟨a,rfl⟩:=e1 h;exact aP a rfl
  simp only [yq,Array.mapM_eq_mapM_toList,Sem.run_bind,Sem.run_map]
  rw [h1]
  simp only [Result.andThen_ok,dif_neg hs]
  rfl
 ·cases h
end
end Go.Proofs.YtgjfgekaclobaaaGreat
