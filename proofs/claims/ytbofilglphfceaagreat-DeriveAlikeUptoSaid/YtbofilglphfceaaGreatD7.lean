import Derived.Test.YtbofilglphfceaaGreatD6
namespace Go.Proofs.YtbofilglphfceaaGreat
set_option linter.unusedVariables false
set_option linter.unusedSimpArgs false
open Go.RowKit
section
variable {P:Program}{w0:World}{n:Nat}{o:Oper}{α:AA}{S S':U}{r:AV}
theorem iu {g:Gh}{w:World}{l m:List AV}{xs ys:Array Value}(h:ia g w l xs) (k:ia g w m ys):ia g w (l++m) (xs++ys):=by
 refine⟨by simp [h.1,k.1],fun i a x h1 h2=>?_⟩
 by_cases c:i < l.length
 ·rw [List.getElem?_append_left c] at h1
  rw [Array.getElem?_append_left (by rw [h.1];exact c)] at h2
  exact h.2 i a x h1 h2
 ·rw [List.getElem?_append_right (by omega)] at h1
  rw [Array.getElem?_append_right (by rw [h.1];omega),h.1] at h2
  exact k.2 _ a x h1 h2
theorem yg {c:Call}{f:Operand}{gf:FuncId}{args:List AV}{r:AV}(ho:o.op=.call c) (hc:c.callee=.value f)
  (hf:∀ (A:Nat->Prop) (g:Gh) (a:Act) (w:World),St w0 A g S w->aX g w n α a->∃ first cap,a.eval f=.func (.func gf) first cap/\ia g w args (first++c.args.map a.eval++cap)) (h:aR P w0 gf args S r S'):cP P w0 n o α S r S':=by
 intro F m A g a w next Q hF hS hA me
 rw [Oper.semAt_eq _ _ _ (fun c' e=>by rw [ho] at e;cases e)]
 obtain⟨first,cap,he,hr⟩:=hf A g a w hS hA
 have bm:(execOp a.eval o).run P w=.ok (.enter gf (first++c.args.map a.eval++cap)) w:=by
  simp only [execOp,ho,resolve,hc,he,Deferred.ofValue,Sem.run_bind,Sem.run_pure,Result.andThen_ok,invoke]
  exact h.1 _ w
 rw [bm,Oper.uponIn_enter]
 refine⟨fun hd=>(by rw [hF.2.1] at hd;cases hd),(h.2 F (m - 1) A g _ w hF hS hr).mono ?_⟩
 rintro e w' ⟨v,g',rfl,h1,h2,h3⟩
 exact me v w' g' h1 h2 h3
theorem xR {c:Call}{f:Operand}{k:Nat}{r:AV}(ho:o.op=.call c) (hc:c.callee=.value f) (hf:α.ev f=.yl k) (h:oF P w0 k (c.args.toList.map α.ev) S r S'):cP P w0 n o α S r S':=by
 intro F m A g a w next Q hF hS hA me
 rw [Oper.semAt_eq _ _ _ (fun c' e=>by rw [ho] at e;cases e)]
 have h1:=hA.ev f
 rw [hf] at h1
 obtain⟨y,hy⟩:∃ y,a.eval f=y:=⟨_,rfl⟩
 rw [hy] at h1
 cases h1 with
 |yl hk =>
  obtain⟨l,fn,tmps,assign,body,K3,K4⟩:=h F (m - 1) A g (c.args.map a.eval) w hF hS hk (lO hA c.args)
  have bm:(execOp a.eval o).run P w=.ok (.round l fn tmps assign body) w:=by
   simp only [execOp,ho,resolve,hc,hy,Deferred.ofValue,Sem.run_bind,Sem.run_pure,Result.andThen_ok,invoke]
   simpa using K3
  rw [bm,Oper.uponIn_round]
  refine⟨fun hd=>(by rw [hF.2.1] at hd;cases hd),K4.mono ?_⟩
  rintro e w' ⟨v,g',rfl,h1,h2,h3⟩
  exact me v w' g' h1 h2 h3
theorem Ij {β γ:Type}{f:β->γ}{l:Array β}{a:γ}(h:l.toList.map f=[a]):∃ x,l=#[x]/\f x=a:=by
 obtain⟨l⟩:=l
 match l,h with
 |[x],h=>exact⟨x,rfl,by simpa using h⟩
theorem te {β γ:Type}{f:β->γ}{l:Array β}{a b:γ}(h:l.toList.map f=[a,b]):∃ x y,l=#[x,y]/\f x=a/\f y=b:=by
 obtain⟨l⟩:=l
 match l,h with
 |[x,y],h=>exact⟨x,y,rfl,by simp at h;exact h.1,by simp at h;exact h.2⟩
theorem aN {op:Op}(ho:o.op=op) (h:∀ c,op ≠ .defer c):∀ c,o.op ≠ .defer c:=fun c e=>h c (ho.symm.trans e)
theorem ti {K:AV->U->Prop}(h:aE P w0 o.op α S K):∃ r S',cP P w0 n o α S r S'/\K r S':=by
 have ok:∀ {r:AV}{S':U},aC P w0 n o α S r S'->(∀ c,o.op ≠ .defer c)->K r S'->∃ r S',cP P w0 n o α S r S'/\K r S':=fun hr hd hK=>⟨_,_,hr.ops hd,hK⟩
 cases aF:o.op with
 |move x=>rw [aF] at h;exact ok (vT (.inl aF)) (aN aF fun c e=>by cases e) h
 |assign x=>rw [aF] at h;exact ok (vT (.inr aF)) (aN aF fun c e=>by cases e) h
 |pick c a b =>
  rw [aF] at h
  simp only [aE,aD] at h
  split at h
  ·rename_i t hc
   have hr:=E_ (n:=n) (P:=P) (w0:=w0) (S:=S) aF hc
   cases t with
   |true=>exact ok hr (aN aF fun c e=>by cases e) h
   |false=>exact ok hr (aN aF fun c e=>by cases e) h
  ·exact h.elim
 |alloc e =>
  rw [aF] at h
  simp only [aE,aD] at h
  split at h
  ·rename_i z hz;exact ok (C9 aF hz) (aN aF fun c e=>by cases e) h
  ·exact h.elim
 |box e x =>
  rw [aF] at h
  simp only [aE,aD] at h
  split at h
  ·rename_i hx;exact ok (HX aF hx) (aN aF fun c e=>by cases e) h
  ·exact h.elim
 |build t parts =>
  rw [aF] at h
  simp only [aE,aD] at h
  split at h
  ·rename_i a ha;exact ok (BC aF ha) (aN aF fun c e=>by cases e) h
  ·exact h.elim
 |buildSlice t len parts =>
  rw [aF] at h
  simp only [aE,aD] at h
  split at h
  ·rename_i e he
   split at h
   ·rename_i z sz hz hs
    split at h
    ·rename_i hb
     simp only [Bool.and_eq_true] at hb
     obtain⟨⟨b1,b2⟩,b3⟩:=hb
     split at h
     ·rename_i rows hr
      have hu:P.underlying t=some (.slice e):=by
       unfold du at he
       split at he
       ·rename_i e' hu;rw [hu,Option.some.inj he]
       ·cases he
      exact ok (sZ aF hu hz hs (Nat.le_of_ble_eq_true b1) (Nat.eq_of_beq_eq_true b2) (Nat.lt_of_lt_of_le Nat.zero_lt_one (Nat.le_of_ble_eq_true b3)) hr) (aN aF fun c e=>by cases e) h
     ·exact h.elim
    ·exact h.elim
   ·exact h.elim
  ·exact h.elim
 |load t x =>
  rw [aF] at h
  simp only [aE,aD] at h
  split at h
  ·rename_i a ha;exact ok (C_ aF ha) (aN aF fun c e=>by cases e) h
  ·exact h.elim
 |store t x b =>
  rw [aF] at h
  simp only [aE,aD] at h
  split at h
  ·rename_i a ha;exact ok (BD aF ha) (aN aF fun c e=>by cases e) h
  ·exact h.elim
 |binOp op t x y ty =>
  rw [aF] at h
  simp only [aE,aD] at h
  split at h
  ·rename_i k a k' b hx hy
   split at h
   ·rename_i c hc
    split at h
    ·rename_i hk
     obtain rfl:=of_decide_eq_true hk
     obtain⟨d,rfl,hK⟩:=h
     exact ok (Da aF hx hy hc) (aN aF fun c e=>by cases e) hK
    ·exact h.elim
   ·split at h
    ·rename_i v hv;exact ok (qS aF hx hy hv) (aN aF fun c e=>by cases e) h.out
    ·exact h.elim
  ·rename_i a b hx hy
   split at h
   ·exact ok (BE aF hx hy h.1) (aN aF fun c e=>by cases e) h.2
   ·split at h
    ·rename_i v hv;exact ok (qS aF hx hy hv) (aN aF fun c e=>by cases e) h.out
    ·exact h.elim
  ·rename_i a b n1 n2 hx hy
   split at h
   ·rename_i v hv;exact ok (qS aF hx hy hv) (aN aF fun c e=>by cases e) h.out
   ·exact h.elim
  ·exact h.elim
 |unOp op t x =>
  rw [aF] at h
  simp only [aE,aD] at h
  split at h
  ·rename_i b hx;exact ok (HY aF hx) (aN aF fun c e=>by cases e) h
  ·rename_i k a hx
   obtain⟨d,rfl,hK⟩:=h
   exact ok (HZ aF hx) (aN aF fun c e=>by cases e) hK
  ·exact h.elim
 |convert src dst x =>
  rw [aF] at h
  simp only [aE,aD] at h
  split at h
  ·rename_i k0 k k' a hs hd hx
   obtain⟨d,rfl,hK⟩:=h
   exact ok (wH aF hs hd hx) (aN aF fun c e=>by cases e) hK
  ·rename_i s hs hd hx
   exact ok (wI aF hs hd hx) (aN aF fun c e=>by cases e) h
  ·exact h.elim
 |fieldAddr s x f =>
  rw [aF] at h
  simp only [aE,aD] at h
  split at h
  ·rename_i fs hu
   split at h
   ·rename_i fd hf
    split at h
    ·rename_i m hs
     split at h
     ·rename_i row hx;exact ok (wJ aF hu hf hs hx) (aN aF fun c e=>by cases e) h
     ·rename_i k sz i j hx;exact ok (wK aF hu hf hs hx) (aN aF fun c e=>by cases e) h
     ·exact h.elim
    ·exact h.elim
   ·exact h.elim
  ·exact h.elim
 |field t x f =>
  rw [aF] at h
  simp only [aE,aD] at h
  split at h
  ·rename_i fs hu
   split at h
   ·rename_i fd hf
    split at h
    ·rename_i l hx
     split at h
     ·rename_i a ha;exact ok (BF aF hu hf hx ha) (aN aF fun c e=>by cases e) h
     ·exact h.elim
    ·exact h.elim
   ·exact h.elim
  ·exact h.elim
 |indexAddr t x i =>
  rw [aF] at h
  simp only [aE,aD] at h
  split at h
  ·rename_i e ex rows kd k hu hx hy
   split at h
   ·rename_i sz hs
    split at h
    ·rename_i row hi;exact ok (wN aF hu hx hy hs hi h.1) (aN aF fun c e=>by cases e) h.2
    ·exact h.elim
   ·exact h.elim
  ·rename_i e k sz off len cx kd i hu hx hy
   exact ok (wO aF hu hx hy h.1 h.2.1 h.2.2.1) (aN aF fun c e=>by cases e) h.2.2.2
  ·rename_i len e k sz i j kd q hu hx hy
   split at h
   ·rename_i m hs;exact ok (s4 aF hu hx hy hs h.1 h.2.1) (aN aF fun c e=>by cases e) h.2.2
   ·exact h.elim
  ·rename_i len e row kd q hu hx hy
   split at h
   ·rename_i m hs;exact ok (s5 aF hu hx hy hs h.1 h.2.1) (aN aF fun c e=>by cases e) h.2.2
   ·exact h.elim
  ·exact h.elim
 |index t x i =>
  rw [aF] at h
  simp only [aE,aD] at h
  split at h
  ·rename_i s kd k hu hx hy
   split at h
   ·rename_i b hi;exact ok (vX aF hu hx hy hi) (aN aF fun c e=>by cases e) h
   ·exact h.elim
  ·rename_i len e l kd q hu hx hy
   split at h
   ·rename_i m hs
    split at h
    ·rename_i a ha;exact ok (vY aF hu hx hy hs ha h.1 h.2.1) (aN aF fun c e=>by cases e) h.2.2
    ·exact h.elim
   ·exact h.elim
  ·exact h.elim
 |slice t x lo hi mx =>
  rw [aF] at h
  obtain⟨r,S',hr,hK⟩:=BX (n:=n) aF h
  exact ok hr (aN aF fun c e=>by cases e) hK
 |extract x i =>
  rw [aF] at h
  simp only [aE,aD] at h
  split at h
  ·rename_i l hx
   split at h
   ·rename_i a ha;exact ok (wL aF hx ha) (aN aF fun c e=>by cases e) h
   ·exact h.elim
  ·exact h.elim
 |makeSlice t l c =>
  rw [aF] at h
  simp only [aE,aD] at h
  split at h
  ·rename_i e ka a kb b he hl hc
   split at h
   ·rename_i z sz by_ hz hs eH
    split at h
    ·rename_i hb
     simp only [Bool.and_eq_true] at hb
     obtain⟨h1,rfl,h2,h3,hK⟩:=h
     have hu:P.underlying t=some (.slice e):=by
      unfold du at he
      split at he
      ·rename_i e' hu;rw [hu,Option.some.inj he]
      ·cases he
     exact ok (BZ aF hu hz hs eH (Nat.eq_of_beq_eq_true hb.1) (Nat.lt_of_lt_of_le Nat.zero_lt_one (Nat.le_of_ble_eq_true hb.2)) hl hc h1 h2 h3) (aN aF fun c e=>by cases e) hK
    ·exact h.elim
   ·exact h.elim
  ·exact h.elim
 |range t x =>
  rw [aF] at h
  simp only [aE] at h
  split at h
  ·rename_i s hu hx
   exact ok (wy aF hu hx) (aN aF fun c e=>by cases e) h
  ·exact h.elim
 |next x isStr =>
  rw [aF] at h
  simp only [aE] at h
  split at h
  ·rename_i k sz hx
   obtain⟨⟨s,pos⟩,hk,d,hd,h⟩:=h.out
   have hk:=Ct hk
   cases d with
   |true=>exact ok (wU aF hx hk (of_decide_eq_true hd)) (aN aF fun c e=>by cases e) h
   |false=>exact ok (wV aF hx hk (of_decide_eq_false hd)) (aN aF fun c e=>by cases e) h
  ·exact h.elim
 |makeFunc f first cap=>rw [aF] at h;exact ok (vV aF) (aN aF fun c e=>by cases e) h
 |nilCheck x =>
  rw [aF] at h
  simp only [aE,aD] at h
  split at h
  ·rename_i c hx
   have:=ue (P:=P) (w0:=w0) (n:=n) (S:=S) aF (.inl ⟨c,hx⟩)
   rw [hx] at this
   exact ok this (aN aF fun c e=>by cases e) h
  ·rename_i k sz i j hx
   have:=ue (P:=P) (w0:=w0) (n:=n) (S:=S) aF (.inr ⟨k,sz,i,j,hx⟩)
   rw [hx] at this
   exact ok this (aN aF fun c e=>by cases e) h
  ·exact h.elim
 |call c =>
  rw [aF] at h
  simp only [aE,aD] at h
  split at h
  ·rename_i f hc
   unfold pj at h
   split at h
   ·rename_i gf first cap hf
    split at h
    ·rename_i e1 e2
     obtain⟨r,S',dg,hK⟩:=h
     have e1:first=#[]:=by simpa using e1
     have e2:cap=#[]:=by simpa using e2
     subst e1 e2
     refine⟨r,S',yg aF hc (fun A g a w hS hA=>?_) dg,hK⟩
     have h1:=hA.ev f
     rw [hf] at h1
     refine⟨#[],#[],a_ h1,?_⟩
     have e:(#[]:Array Value)++c.args.map a.eval++#[]=c.args.map a.eval:=by simp
     rw [e]
     exact lO hA c.args
    ·exact h.elim
   ·rename_i gf first cap hf
    obtain⟨r,S',dg,hK⟩:=h
    refine⟨r,S',yg aF hc (fun A g a w hS hA=>?_) dg,hK⟩
    have h1:=hA.ev f
    rw [hf] at h1
    obtain⟨y,hy⟩:∃ y,a.eval f=y:=⟨_,rfl⟩
    rw [hy] at h1
    cases h1 with
    |@fn _ _ _ cs ds p1 p2 p3 p4 =>
     exact⟨cs,ds,hy,iu (iu ⟨p1,p3⟩ (lO hA c.args)) ⟨p2,p4⟩⟩
   ·rename_i k hf
    obtain⟨r,S',R4,hK⟩:=h
    exact⟨r,S',xR aF hc hf R4,hK⟩
   ·exact h.elim
  ·rename_i b hc
   unfold gO at h
   split at h
   ·split at h
    ·rename_i t a cV aH
     obtain⟨x,hx,uj⟩:=Ij aH
     unfold aD at h
     split at h
     ·rename_i m hlen
      unfold lenOf at hlen
      split at hlen
      ·rename_i e m' hu hs hm
       obtain rfl:=Option.some.inj hlen
       exact ok (xT aF hc (toList_one cV) hx uj hm hu (.inl ⟨e,rfl,fun s e=>by rw [e] at hs;cases hs⟩)) (aN aF fun c e=>by cases e) h
      ·rename_i m' hu hs hm
       obtain rfl:=Option.some.inj hlen
       refine ok (xT aF hc (toList_one cV) hx uj hm hu (.inr ⟨rfl,?_⟩)) (aN aF fun c e=>by cases e) h
       unfold isStr at hs
       split at hs
       ·exact⟨_,rfl⟩
       ·cases hs
      ·cases hlen
     ·exact h.elim
    ·exact h.elim
   ·split at h
    ·rename_i t t2 a b cV aH
     obtain⟨x,y,iS,uj,Du⟩:=te aH
     split at h
     ·rename_i e e2 he TZ
      split at h
      ·rename_i hz
       obtain⟨more,hm,h⟩:=h.out
       split at hz
       ·rename_i z sz Cp hs
        have elem:∀ {t e:TypeId},du P t=some e->P.underlying t=some (.slice e):=by
         intro t e he
         unfold du at he
         split at he
         ·rename_i e' hu;rw [hu,Option.some.inj he]
         ·cases he
        obtain⟨r,S',hr,hK⟩:=wT (n:=n) (w0:=w0) aF hc (toList_two cV) iS uj Du (elem he) (elem TZ) hm h.1 Cp hs (Nat.eq_of_beq_eq_true hz) h.2
        exact ok hr (aN aF fun c e=>by cases e) hK
       ·cases hz
      ·exact h.elim
     ·exact h.elim
    ·exact h.elim
   ·split at h
    ·rename_i k a k' b aH
     obtain⟨x,y,iS,uj,Du⟩:=te aH
     split at h
     ·rename_i hk
      obtain rfl:=of_decide_eq_true hk
      exact ok (H2 aF hc iS uj Du) (aN aF fun c e=>by cases e) h
     ·exact h.elim
    ·exact h.elim
   ·split at h
    ·rename_i k a k' b aH
     obtain⟨x,y,iS,uj,Du⟩:=te aH
     split at h
     ·rename_i hk
      obtain rfl:=of_decide_eq_true hk
      exact ok (H3 aF hc iS uj Du) (aN aF fun c e=>by cases e) h
     ·exact h.elim
    ·exact h.elim
   ·exact h.elim
  ·exact h.elim
 |_=>rw [aF] at h;exact h.elim
end
section
variable {P:Program}{w0:World}{rd:Bool}{n:Nat}{o:Oper}{α:AA}{S S':U}{r:AV}
def lq (P:Program) (w0:World) (n:Nat) (ops:Array Oper) (l:List Nat) (α:AA) (S:U) (af:AA) (S':U):Prop :=
 ∀ (F:Fence) (m:Nat) (A:Nat->Prop) (g:Gh) (a:Act) (w:World) (Q:Exit->Act->World->Prop),fM F->St w0 A g S w->aX g w n α a ->
  (∀ (a':Act) (w':World) (g':Gh),St w0 A g' S' w'->aX g' w' n af a'->Ext A g w g' w'->Q .normal a' w')->wpOpsIn F m P ops Q l a w
theorem gu {g:Gh}{w:World}{a:Act}{x:Value}{b:AV}{d:Option Tmp}(hA:aX g w n α a) (hd:(match d with|some d=>Nat.blt d n|none=>true)=true) (hx:ao g w b x):aX g w n (α.put d b) (a.put d x):=by
 cases d with
 |none=>exact hA.DU
 |some d=>exact hA.put (Nat.lt_of_lt_of_le (Nat.lt_succ_self d) (Nat.le_of_ble_eq_true hd)) hx
theorem kh {g:Gh}{w:World}{a:Act}{ops:Array Oper}{j:Nat}{y:Option Bool}(hA:aX g w n α a) (h:je ops α j=some y):yielded ops a.tmps j=y:=by
 unfold je at h
 unfold yielded
 split at h
 ·rename_i t ht
  have key:∀ x,α.tm t=.v x->a.tmps[t]?=some x:=by
   intro x hc
   have au:t < n:=by
    rcases Nat.lt_or_ge t n with h|h
    ·exact h
    ·have:=hA.out t h;rw [this] at hc;cases hc
   have h1:=hA.tm t au
   rw [hc] at h1
   have h2:=a_ h1
   have hs:t < a.tmps.size:=by rw [hA.size];exact au
   rw [Array.getElem?_eq_getElem hs]
   rw [Array.getD_eq_getD_getElem?,Array.getElem?_eq_getElem hs] at h2
   simpa using h2
  split at h
  ·rename_i c hc
   obtain rfl:=Option.some.inj h
   rw [ht]
   simp [key _ hc]
  ·rename_i c hc
   obtain rfl:=Option.some.inj h
   rw [ht]
   simp [key _ hc]
  ·cases h
 ·cases h
theorem lq.step {ops:Array Oper}{i:Nat}{rest:List Nat}{af:AA}{bQ:U}(hi:ops[i]?=some o) (hd:(match o.dst with|some d=>Nat.blt d n|none=>true)=true)
  (hw:∀ (g:Gh) (w:World) (a:Act),aX g w n α a->Region.wanted o (yielded ops a.tmps)=true) (h:cP P w0 n o α S r bQ) (k:lq P w0 n ops rest (α.put o.dst r) bQ af S'):lq P w0 n ops (i::rest) α S af S':=by
 intro F m A g a w Q hF hS hA hQ
 simp only [wpOpsIn,hi]
 rw [if_pos (hw g w a hA)]
 refine⟨fun f _=>hF.1 f,h F m A g a w _ Q hF hS hA fun v w' g' hr ew hE=>?_⟩
 exact k F m A g' _ w' Q hF ew (gu (hA.later hE.toLater) hd hr) fun a' mG rm h1 h2 h3=>hQ a' mG rm h1 h2 (hE.trans h3)
theorem bA.region {id:Nat}{ops:Array Oper}{af:AA}(h:lq P w0 n ops (List.range ops.size) α S af S'):bA P w0 rd n (.region id ops false) α S .normal af S' :=
 fun F m A g a w hF hR hS hA=>wpIn_region (h F m A g a w _ hF hS hA fun a' w' g' h1 h2 h3=>⟨rfl,g',h1,h2,h3⟩)
def yy (P:Program) (α:AA) (S:U):ResultVar->Option AV
 |.tmp t=>some (α.tm t)
 |.cell a t=>lX P S t (α.tm a)
def oA (P:Program) (α:AA) (S:U):List ResultVar->Option (List AV)
 |[]=>some []
 |r::rs=>match yy P α S r with
  |some a=>match oA P α S rs with|some l=>some (a::l)|none=>none
  |none=>none
def qA (P:Program) (rs:Array ResultVar) (α:AA) (S:U):Option AV :=
 match oA P α S rs.toList with
 |some [a]=>some a
 |some l=>some (.aL l)
 |none=>none
def eK (S:U):List Nat->U
 |[]=>S
 |k::ks=>eK (S.set k none) ks
def oz (S:U):List Nat->Bool
 |[]=>true
 |k::ks=>match S.get k with|some .df=>oz (S.set k none) ks|_=>false
def uO (P:Program) (rs:Array ResultVar) (R:AV->U->Prop) (ex:Exit) (α:AA) (S:U):Prop :=
 match ex with
 |.normal|.ret=>match oz S α.df,qA P rs α (eK S α.df) with
  |true,some r=>R r (eK S α.df)
  |_,_=>False
 |_=>False
def B0 (tmps:Array Value) (rv:ResultVar):Sem Value :=
 match rv with
 |.tmp t=>pure (tmps.getD t undef)
 |.cell c t=>do loadVar t (<-asAddr (tmps.getD c undef))
theorem sk (fn:Func) (tmps:Array Value):results fn tmps=(do
  let vs <-fn.results.mapM (B0 tmps)
  pure (if h:vs.size=1 then vs[0] else .tuple vs)):=by
 unfold results
 congr 1
theorem B4 {A:Nat->Prop}{g:Gh}{w:World}{a:Act}{rv:ResultVar}{b:AV}(hS:St w0 A g S w) (hA:aX g w n α a) (h:yy P α S rv=some b) :
  ∃ x,(B0 a.tmps rv).run P w=.ok x w/\ao g w b x:=by
 have ev:=fun t=>hA.ev (.tmp t)
 cases rv with
 |tmp t =>
  obtain rfl:=Option.some.inj h
  exact⟨_,rfl,ev t⟩
 |cell c t =>
  obtain⟨b',q,x,h1,h2,h3⟩:=qc (t:=t) hS h (ev c)
  have h1:a.tmps.getD c undef=.pointer (some ⟨b',q,none⟩):=h1
  exact⟨x,by simp [B0,h1,asAddr,h2],h3⟩
theorem nR {A:Nat->Prop}{g:Gh}{w:World}{a:Act}(hS:St w0 A g S w) (hA:aX g w n α a):∀ {rs:List ResultVar}{l:List AV},oA P α S rs=some l ->
  ∃ xs:List Value,(rs.mapM (B0 a.tmps)).run P w=.ok xs w/\xs.length=l.length/\∀ (i:Nat) (b:AV) (x:Value),l[i]?=some b->xs[i]?=some x->ao g w b x
 |[],l,h=>by
  obtain rfl:=Option.some.inj h
  exact⟨[],by simp,rfl,fun i b x h=>by simp at h⟩
 |rv::rs,l,h=>by
  simp only [oA] at h
  split at h
  ·rename_i b hb
   split at h
   ·rename_i l' hl
    obtain rfl:=Option.some.inj h
    obtain⟨x,h1,h2⟩:=B4 hS hA hb
    obtain⟨xs,h3,h4,h5⟩:=nR hS hA hl
    refine⟨x::xs,?_,by simp [h4],fun i b' y w6 hy=>?_⟩
    ·rw [List.mapM_cons]
     simp only [Sem.run_bind]
     rw [h1]
     simp only [Result.andThen_ok,Sem.run_bind]
     rw [h3]
     rfl
    ·cases i with
     |zero=>simp at w6 hy;subst w6 hy;exact h2
     |succ i=>simp at w6 hy;exact h5 i b' y w6 hy
   ·cases h
  ·cases h
theorem B5 {A:Nat->Prop}{g:Gh}{w:World}{a:Act}{fn:Func}{b:AV}(hS:St w0 A g S w) (hA:aX g w n α a) (h:qA P fn.results α S=some b):∃ x,(results fn a.tmps).run P w=.ok x w/\ao g w b x:=by
 have e:∀ {l:List AV}{xs:List Value},xs.length=l.length->(∀ (i:Nat) (b:AV) (x:Value),l[i]?=some b->xs[i]?=some x->ao g w b x)->(xs.toArray.size=1->∃ a,l=[a])/\ao g w (.aL l) (.tuple xs.toArray):=by
  intro l xs h1 h2
  refine⟨fun h3=>?_,.aL (by simpa using h1) (fun i b x hb hx=>h2 i b x hb (by simpa using hx))⟩
  match l,h1 with
  |[a],_=>exact⟨a,rfl⟩
  |[],h1=>simp only [List.size_toArray,h1,List.length_nil] at h3;cases h3
  |_::_::_,h1=>simp only [List.size_toArray,h1,List.length_cons] at h3;omega
 unfold qA at h
 split at h
 ·rename_i a0 hl
  obtain rfl:=Option.some.inj h
  obtain⟨xs,h1,h2,h3⟩:=nR hS hA hl
  clear e
  match xs,h2,h1,h3 with
  |[x],_,h1,h3 =>
   refine⟨x,?_,h3 0 _ x rfl rfl⟩
   simp only [sk,Array.mapM_eq_mapM_toList,Sem.run_bind,Sem.run_map]
   rw [h1]
   rfl
 ·rename_i l aM hl
  obtain rfl:=Option.some.inj h
  obtain⟨xs,h1,h2,h3⟩:=nR hS hA hl
  obtain⟨e1,e2⟩:=e h2 h3
  refine⟨_,?_,e2⟩
  have hs:¬ xs.toArray.size=1:=fun h=>by obtain⟨a,rfl⟩:=e1 h;exact aM a rfl
  simp only [sk,Array.mapM_eq_mapM_toList,Sem.run_bind,Sem.run_map]
  rw [h1]
  simp only [Result.andThen_ok,dif_neg hs]
  rfl
 ·cases h
end
end Go.Proofs.YtbofilglphfceaaGreat
