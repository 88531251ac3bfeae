import Derived.Test.YtgjfgekaclobaaaGreatCm18
namespace Go.Proofs.YtgjfgekaclobaaaGreat
set_option linter.unusedVariables false
set_option linter.unusedSimpArgs false
open Go.RowKit
theorem qx {P:Program}{F:Fence}(h:fZ F) (m:Machine):m.fenced P F:=by
 intro g _
 refine⟨fun h'=>?_,Or.inl (h.1 _),fun _ _=>h.1 _,fun _ h'=>?_⟩
 ·rw [h.2.2] at h';cases h'
 ·rw [h.2.1] at h';cases h'
theorem CallsIn.KZ {P:Program}{F:Fence}{m:Nat}{f:FuncId}{args:Array Value}{w:World}{R:Ending->World->Prop}(hF:fZ F) (h:Calls P f args w R):CallsIn F m P f args w R:=by
 obtain⟨_,h2⟩:=callsIn_wide (n:=0).2 h
 refine⟨hF.1 f,fun cs _=>?_⟩
 obtain⟨e,w',fr,r,s,x⟩:=h2 cs (room_wide _)
 refine⟨e,w',fr,r,?_,x⟩
 cases e with
 |returned v=>exact StepsIn.mono (fun m _=>qx hF m) s
 |panicked chain=>exact StepsIn.mono (fun m _=>qx hF m) s
 |outgrown=>exact s
section
variable {P:Program}{w0:World}{S:aa}{r:AV}
theorem St.below {A:Nat->Prop}{g:Gh}{w w':World}(hS:St w0 A g S w) (hb:Below w.heap.size w w') :
  Ext A g w ⟨g.ob,g.cp,g.al,fun b q=>g.fz b q\/(w.heap.size<=b/\b < w'.heap.size),g.fo⟩ w'/\St w0 A ⟨g.ob,g.cp,g.al,fun b q=>g.fz b q\/(w.heap.size<=b/\b < w'.heap.size),g.fo⟩ S w':=by
 have hL:Later g w ⟨g.ob,g.cp,g.al,fun b q=>g.fz b q\/(w.heap.size<=b/\b < w'.heap.size),g.fo⟩ w':=⟨fun _ h=>h,fun _ _=>rfl,fun _ _=>rfl,fun _ _ h=>.inl h,fun b q hf=>World.cell?_of_block (hb.block b (hS.bM b q hf))⟩
 have hE:Ext A g w ⟨g.ob,g.cp,g.al,fun b q=>g.fz b q\/(w.heap.size<=b/\b < w'.heap.size),g.fo⟩ w':={ hL with size:=hb.size,cD:=fun b aB _=>hb.block b aB,eW:=fun b q h=>h.elim .inl fun e=>.inr (hS.up b e.1) }
 refine⟨hE,hS.next hE hb.os hb.tape hb.output hS.al (fun k p hk ha=>?_) hS.inj (fun b q hf=>?_) rfl (fun _ _ h1 h2=>⟨h1,h2⟩) (fun k o h1 h2=>.inr ⟨k,o,h2,h1,rfl,.inl rfl⟩)⟩
 ·obtain⟨h2,h3,h4⟩:=hS.bj k p hk ha
  exact⟨h2,Nat.lt_of_lt_of_le h3 hb.size,h4.later hL (hb.block _ h3) (fun q hq=>hq.elim id fun e=>absurd e.1 (by show ¬ w.heap.size<=g.ob k;omega)) fun J hJ=>⟨rfl,hb.size,fun c hc=>hb.block c (hS.fp k J (by rw [<-hJ];exact hk) ha c hc).2,fun c q hc hq=>hq.elim id fun h=>absurd h.1 (by have:=(hS.fp k J (by rw [<-hJ];exact hk) ha c hc).2;omega)⟩⟩
 ·rcases hf with hf|hf
  ·exact Nat.lt_of_lt_of_le (hS.bM b q hf) hb.size
  ·exact hf.2
theorem St.start (w:World):St w (fun b=>w.heap.size<=b) ⟨fun _=>0,fun _=>0,fun _=>False,fun b _=>b < w.heap.size,fun _ _=>False⟩ aa.none_ w :=
 have e0:∀ k o,¬ aa.none_.get k=some o:=fun k o h=>by simp [aa.none_] at h
 ⟨Below.refl _ _,fun _ h=>h,fun _ h=>h,fun k hk=>hk.elim,fun k o hk=>absurd hk (e0 k o),fun j k o p hj=>absurd hj (e0 j o),fun b q h=>h,fun b q h=>h,fun k J hk=>absurd hk (e0 k _),fun k J j o hk=>absurd hk (e0 k _),fun j k J J' hj=>absurd hj (e0 j _)⟩
theorem av.calls {f:FuncId}{args:List AV}{x:Value}{aV:Array Value}{w:World}(h:av P w f args (.v x)) (hA:jd ⟨fun _=>0,fun _=>0,fun _=>False,fun b _=>b < w.heap.size,fun _ _=>False⟩ w args aV) :
  Calls P f aV w fun e w'=>e=.returned x/\Below w.heap.size w w':=by
 obtain⟨_,S',_,h⟩:=h
 refine (callsIn_wide (n:=0).1 (h Fence.wide 0 _ _ aV w fZ.wide (St.start w) hA)).mono ?_
 rintro e w' ⟨v,g',rfl,hr,hS,hE⟩
 obtain rfl:=bg hr
 exact⟨rfl,hS.base⟩
end
abbrev FoJ:=Nat->(Nat->Nat->Prop)->(Nat->Prop)->World->Prop
theorem Bm {B:Nat}:∀ {l:List (Nat × AV)},(∀ p ∈ l,cC B p.2)->∀ t,cC B (jj (fun _=>.u) l t)
 |[],_,_=>.u
 |p::l,h,t=>by
  show cC B (aX (jj (fun _=>.u) l) p.1 p.2 t)
  by_cases e:t=p.1
  ·rw [e,ah];exact h p (by simp)
  ·rw [aq _ _ e];exact Bm (fun q hq=>h q (by simp [hq])) t
section
variable {P:Program}{w0:World}{rd:Bool}{n B:Nat}{α ag:AA}{S S':aa}{Q:Exit->AA->aa->Prop}{r:AV}{i:QI}{l:List QI}{K:List ig}{V:List (Nat × Nat)}{lg:List (List Nat × List Nat × Bool)}{rs:List Nat}{d:Dt}{q:cB}
theorem ab.mJ (hw:bB α.tm i.g=some true) (h:a_ P w0 B i.q α S r d) (k:ab P w0 rd n Q (.dh B V (lg++[d.ns]) rs l K) (bJ i.d α r) (cJ S d.W d.m)):ab P w0 rd n Q (.dh B V lg rs (i::l) K) α S :=
 fun ju hB=>kP.op hB hw h (k ju (by rw [dp];exact Nat.le_trans hB (Nat.le_add_right _ _)))
def isB:cB->Bool
 |.bin ..|.conv ..|.oo ..|.neg _|.lx ..|.nj ..|.sR ..|.q_ ..|.slice ..|.len ..|.min ..|.max ..|.call ..|.mv ..|.pick ..|.build ..|.rows ..|.not _|.uE ..|.field ..|.extract ..|.A0 ..|.uF _=>true
 |_=>false
theorem a_.pure (h:∀ T,ad P w0 true q α T r T):a_ P w0 B q α S r ⟨[],[],false⟩:=by
 refine fun n o hr=>⟨fun _=>rfl,(show fu S [] from fun p hp=>by cases hp),fun T _ _ _=>?_⟩
 rw [show cJ T [] false=T from cE]
 exact (h T n o hr).1
theorem ab.jI (hw:bB α.tm i.g=some true) (h:∀ T,ad P w0 true i.q α T r T) (k:ab P w0 rd n Q (.dh B V (lg++[([],[],false)]) rs l K) (bJ i.d α r) S):ab P w0 rd n Q (.dh B V lg rs (i::l) K) α S :=
 ab.mJ hw (a_.pure h) (by rw [show cJ S [] false=S from cE];exact k)
def Cv (w0:World) (n:Nat) (α:AA) (S:aa) (ag:AA) (S':aa):Prop :=
 ∀ (A:Nat->Prop) (g:Gh) (a:Act) (w:World),St w0 A g S w->bf g w n α a->∃ g',St w0 A g' S' w/\bf g' w n ag a/\Ext A g w g' w
theorem bI.cv {c:Code}{ex:Exit}{bG:AA}{bR:aa}(h:Cv w0 n α S ag S') (k:bI P w0 rd n c ag S' ex bG bR):bI P w0 rd n c α S ex bG bR:=by
 intro F m A g a w hF hR hS hA
 obtain⟨g',h1,h2,h3⟩:=h A g a w hS hA
 exact wpIn_mono (k F m A g' a w hF hR h1 h2) fun e a w hq=>lz.ext h3 hq
theorem ab.cv {c:QC}(h:Cv w0 n α S ag S') (k:ab P w0 rd n Q (.run c K) ag S'):ab P w0 rd n Q (.run c K) α S:=by
 intro c0 hc hd
 obtain⟨ex,bG,bR,h1,h2⟩:=k c0 hc hd
 exact⟨ex,bG,bR,h1.cv h,h2⟩
theorem ab.Ze (h:Cv w0 n α S ag S') (k:ab P w0 rd n Q (.aR false l K) ag S'):ab P w0 rd n Q (.aR false l K) α S:=by
 intro ops rest hr j hj
 refine (k ops rest hr j hj).imp (fun ⟨bG,bR,h1,h2⟩=>⟨bG,bR,fun F m A g a w R hF hS hA hR=>?_,h2⟩) fun ⟨ch,bG,bR,h1,h2⟩=>⟨ch,bG,bR,fun F m A g a w R hF hS hA hR=>?_,h2⟩
 ·obtain⟨g',k1,k2,k3⟩:=h A g a w hS hA
  exact h1 F m A g' a w R hF k1 k2 fun a' w' qv q1 q2 q3=>hR a' w' qv q1 q2 (k3.trans q3)
 ·obtain⟨g',k1,k2,k3⟩:=h A g a w hS hA
  exact h1 F m A g' a w R hF k1 k2 fun a' w' qv q1 q2 q3=>hR a' w' qv q1 q2 (k3.trans q3)
theorem ab.Zf {b:QC}(h:Cv w0 n α S ag S') (k:ab P w0 rd n Q (.out .normal (.seq b::K)) ag S'):ab P w0 rd n Q (.out .normal (.seq b::K)) α S:=ab.cv (c:=b) h k
theorem Cv.freeze {t k sz fz m:Nat}{rows:List (List AV)}{ex:Bool}{a:AV}(hk:S.get k=some (.arr sz rows fz ex)) (ht:α.tm t=a) (ha:a=.gr k sz m\/∃ c,a=.ob k sz 0 m c) (hm:m=rows.length) (nY:fz<=m) :
  Cv w0 n α S ⟨aX α.tm t (.sl false rows),α.df⟩ (S.set k none):=by
 subst hm
 intro A g q w hS hA
 have aam:∀ {g':Gh}{o:Option Ob},St w0 A g' (S.set k o) w->St w0 A g' (S.set k none) w:=fun {_ o} h=>h.forget (Nat.le_refl _) fun j p hj _=>by
  have hj:aX S.get k none j=some p:=hj
  by_cases e:j=k
  ·subst e;rw [ah] at hj;cases hj
  ·rw [aq _ _ e] at hj
   show aX S.get k o j=some p
   rw [aq _ _ e]
   exact hj
 have put:∀ {g':Gh},Later g w g' w->(t < n->aA g' w (.sl false rows) (q.tmps.getD t undef))->bf g' w n ⟨aX α.tm t (.sl false rows),α.df⟩ q:=by
  intro g' hL hr
  have h1:=hA.later hL
  refine⟨h1.size,fun s hs=>?_,fun s hs=>?_,h1.df,h1.oN⟩
  ·show aA g' w (aX α.tm t _ s) _
   by_cases e:s=t
   ·subst e;rw [ah];exact hr hs
   ·rw [aq _ _ e];exact h1.tm s hs
  ·show aX α.tm t _ s=.u
   by_cases e:s=t
   ·subst e
    have h2:=hA.out s hs
    rw [ht] at h2
    rcases ha with h|⟨c,h⟩<;>(rw [h] at h2;cases h2)
   ·rw [aq _ _ e];exact h1.out s hs
 by_cases aB:t < n
 ·have hr:=hA.tm t aB
  rw [ht] at hr
  by_cases aH:g.al k
  ·obtain⟨h1,h2⟩:=hS.freeze hk aH nY (by omega)
   refine⟨_,aam h2,put h1.toLater fun _=>?_,h1⟩
   have R9:=hr.later h1.toLater
   obtain⟨k2,k3,cs,ty,p1,p2,p3,p4,p5,p6,p7⟩:=h2.bj k (.arr sz rows rows.length ex) (ah _ _ _) (h1.al k aH)
   have key:∀ c,rows.length<=c->aA (g.IT (g.ob k) (rows.length*sz)) w (.sl false rows) (.slice (some ⟨g.ob k,0,none⟩) rows.length c):=by
    intro c hc
    by_cases hn:rows=[]
    ·subst hn;exact .nil (fun h=>by cases h)
    ·refine .sl (sz:=sz) (val:=fun i j=>cs.getD (i*sz+j) undef) hn (fun h=>by cases h) (by omega) (fun i row hi=>(p5 i row hi).1) (fun i j row a hi hj=>?_) (fun i j row a hi hj=>?_)
     ·obtain⟨q1,q2⟩:=p5 i row hi
      obtain⟨x,hx,cK⟩:=q2 j a hj
      have qy:j < sz:=by rw [<-q1];exact (List.getElem?_eq_some_iff.1 hj).1
      have lf:=(List.getElem?_eq_some_iff.1 hi).1
      refine⟨.inr ⟨rfl,?_⟩,?_⟩
      ·rw [Nat.zero_add];exact iT lf qy
      ·rw [Nat.zero_add]
       rw [cell_of_row w (g.ob k) _ cs ty (0,0) p1,hx]
       simp [Array.getD_eq_getD_getElem?,hx]
     ·obtain⟨q1,q2⟩:=p5 i row hi
      obtain⟨x,hx,cK⟩:=q2 j a hj
      simp only [Array.getD_eq_getD_getElem?,hx,Option.getD_some]
      exact cK
   obtain⟨v,hv⟩:∃ v,q.tmps.getD t undef=v:=⟨_,rfl⟩
   rw [hv] at hr ⊢
   rcases ha with rfl|⟨c,rfl⟩
   ·rcases me hr with ⟨h,A',rfl⟩|⟨eY,c,rfl,hx,hle⟩
    ·have:rows=[]:=List.length_eq_zero_iff.1 h
     subst this
     exact .nil (fun h=>by cases h)
    ·exact key _ hle
   ·cases hr with
    |ob eY hc hp hx hle=>rw [Nat.zero_mul];exact key _ hle
  ·refine⟨g,hS.forget (Nat.le_refl _) fun j p hj _=>?_,put (Later.refl g w) fun _=>?_,Ext.refl ..⟩
   ·have hj:aX S.get k none j=some p:=hj
    by_cases e:j=k
    ·subst e;rw [ah] at hj;cases hj
    ·rwa [aq _ _ e] at hj
   ·obtain⟨v,hv⟩:∃ v,q.tmps.getD t undef=v:=⟨_,rfl⟩
    rw [hv] at hr ⊢
    rcases ha with rfl|⟨c,rfl⟩
    ·rcases me hr with ⟨h,A',rfl⟩|⟨eY,c,rfl,hx,hle⟩
     ·have:rows=[]:=List.length_eq_zero_iff.1 h
      subst this
      exact .nil (fun h=>by cases h)
     ·exact absurd eY aH
    ·cases hr with
     |ob eY hc hp hx hle=>exact absurd eY aH
 ·refine⟨g,hS.forget (Nat.le_refl _) fun j p hj _=>?_,put (Later.refl g w) fun h=>absurd h aB,Ext.refl ..⟩
  have hj:aX S.get k none j=some p:=hj
  by_cases e:j=k
  ·subst e;rw [ah] at hj;cases hj
  ·rwa [aq _ _ e] at hj
def Rv (w0:World) (r:AV) (S:aa) (r':AV) (S':aa):Prop:=∀ (A:Nat->Prop) (g0 g:Gh) (ND w:World) (v:Value),St w0 A g S w->aA g w r v->∃ g',St w0 A g' S' w/\aA g' w r' v/\Ext A g w g' w
theorem ad.rv {r':AV}{S1:aa}(h:ad P w0 false q α S r S') (k:Rv w0 r S' r' S1):ad P w0 false q α S r' S1:=by
 intro n o hr F m A g a w nx R hF hS hA hn
 refine h n o hr F m A g a w nx R hF hS hA fun v w' g' h1 h2 h3=>?_
 obtain⟨g2,k1,k2,k3⟩:=k A g g' w w' v h2 h1
 exact hn v w' g2 k2 k1 (h3.trans k3)
theorem bf.slot {g:Gh}{w:World}{a:Act}{t:Nat}{b:AV}(h:bf g w n α a) (ht:α.tm t ≠ .u) (hr:aA g w b (a.tmps.getD t undef)):bf g w n ⟨aX α.tm t b,α.df⟩ a:=by
 have aB:t < n:=by
  rcases Nat.lt_or_ge t n with h1|h1
  ·exact h1
  ·exact absurd (h.out t h1) ht
 refine⟨h.size,fun s hs=>?_,fun s hs=>?_,h.df,h.oN⟩
 ·show aA g w (aX α.tm t b s) _
  by_cases e:s=t
  ·subst e;rw [ah];exact hr
  ·rw [aq _ _ e];exact h.tm s hs
 ·show aX α.tm t b s=.u
  rw [aq _ _ (by omega)];exact h.out s hs
theorem Bn {t k sz by_ len:Nat}{ex:Bool}{b:QO}{rows more:List (List AV)}{x:List AV}{o:Oper}(ho:res P.toTables o.op=some (.append sz by_ (.t t) b)) (h1:α.tm t=.gr k sz len) (hk:S.get k=some (.arr sz rows 0 ex)) (hn:len=rows.length)
  (hb:∀ c,b.ev (aX α.tm t c)=b.ev α.tm) (hm:cI S (b.ev α.tm)=some (x::more)) (zD:cI (S.set k none) (b.ev α.tm)=some (x::more)) (h3:∀ row ∈ x::more,row.length=sz/\row.all bl=true) (h4:(len+(x::more).length)*by_<=35184372088832) :
  de P w0 n o α S (.gr S.nx sz (len+(x::more).length)) ((S.set k none).new (.arr sz (rows++x::more) 0 false)):=by
 intro F mm A g a w nx R hF hS hA kL
 have aB:t < n:=by
  rcases Nat.lt_or_ge t n with h|h
  ·exact h
  ·have:=hA.out t h;rw [h1] at this;cases this
 have hr:=hA.tm t aB
 rw [h1] at hr
 obtain⟨v,hv⟩:∃ v,a.tmps.getD t undef=v:=⟨_,rfl⟩
 have aP:α.tm t ≠ .u:=by rw [h1];intro h;cases h
 rw [hv] at hr
 rcases me hr with ⟨h,A',rfl⟩|⟨eY,c,rfl,hx,hle⟩
 ·have py:rows=[]:=List.length_eq_zero_iff.1 (by omega)
  subst py
  have Bo:bf g w n ⟨aX α.tm t (.sl true []),α.df⟩ a:=hA.slot aP (by rw [hv];exact .nil fun _=>rfl)
  have pe:St w0 A g (S.set k none) w:=hS.forget (Nat.le_refl _) fun j p hj _=>by
   have hj:aX S.get k none j=some p:=hj
   by_cases e:j=k
   ·subst e;rw [ah] at hj;cases hj
   ·rwa [aq _ _ e] at hj
  have h5:=ad.A9 (P:=P) (w0:=w0) (dr:=false) (α:=⟨aX α.tm t (.sl true []),α.df⟩) (S:=S.set k none) (sz:=sz) (by_:=by_) (a:=.t t) (b:=b) (rows:=[]) (ah _ _ _) (by rw [hb];exact zD) (by simp) (fun row hr=>(h3 row hr).1) (by subst h;simpa using h4) n o ho
  refine h5 F mm A g a w nx R hF pe Bo fun v w' g' k1 k2 k3=>kL v w' g' ?_ k2 k3
  subst h
  cases k1 with
  |ob q1 q2 q3 q4 q5=>rw [Nat.zero_mul];exact .gr q1 (by have h:=q4 rfl;rw [Nat.zero_add] at h;exact h) q5
 ·have Bo:bf g w n ⟨aX α.tm t (.ob k sz 0 len none),α.df⟩ a:=hA.slot aP (by
   rw [hv]
   have:=aA.ob (g:=g) (w:=w) (k:=k) (sz:=sz) (off:=0) (len:=len) (c:=c) (cx:=none) eY (fun m h=>by cases h) (by omega) (fun _=>by omega) hle
   rwa [Nat.zero_mul] at this)
  have h5:=ad.E7 (P:=P) (w0:=w0) (dr:=false) (α:=⟨aX α.tm t (.ob k sz 0 len none),α.df⟩) (S:=S) (sz:=sz) (by_:=by_) (a:=.t t) (b:=b) (k:=k) (fz:=0) (ex:=ex) (rows:=rows) (ah _ _ _) hk (by rw [hb];exact hm) (Nat.zero_le _) (by omega) h3 h4 n o ho
  rw [List.take_of_length_le (by omega)] at h5
  refine h5 F mm A g a w nx R hF hS Bo fun v w' g' k1 k2 k3=>kL v w' g' ?_ k2 k3
  cases k1 with
  |ob q1 q2 q3 q4 q5=>rw [Nat.zero_mul];exact .gr q1 (by have:=q4 rfl;omega) q5
theorem ad.Bp {t k sz by_ len:Nat}{ex:Bool}{b:QO}{rows more:List (List AV)}{x:List AV}(h1:α.tm t=.gr k sz len) (hk:S.get k=some (.arr sz rows 0 ex)) (hn:len=rows.length) (hb:∀ c,b.ev (aX α.tm t c)=b.ev α.tm) (hm:cI S (b.ev α.tm)=some (x::more)) (zD:cI (S.set k none) (b.ev α.tm)=some (x::more))
  (h3:∀ row ∈ x::more,row.length=sz/\row.all bl=true) (h4:(len+(x::more).length)*by_<=35184372088832):ad P w0 false (.append sz by_ (.t t) b) α S (.gr S.nx sz (len+(x::more).length)) ((S.set k none).new (.arr sz (rows++x::more) 0 false)) :=
 fun n o ho=>Bn ho h1 hk hn hb hm zD h3 h4
section
variable {ρ:Hd}{T:Type}{f:T->List AV}{acc:List T}{x:T}
theorem ab.app {dd:Option Nat}{gg:Option (Nat × Bool)}{t:Nat}{b:QO}{sz by_ k len:Nat}{ex:Bool}(hw:bB α.tm gg=some true) (h1:α.tm t=.gr k sz len) (hk:S.get k=some (.arr sz (ρ.h (List.map f) acc) 0 ex)) (hn:len=acc.length) (mK:∀ c,b.ev (aX α.tm t c)=b.ev α.tm)
  (hb:cI S (b.ev α.tm)=some [f x]) (dF:cI (S.set k none) (b.ev α.tm)=some [f x]) (hl:(f x).length=sz) (hc:(f x).all bl=true) (hy:(len+1)*by_<=35184372088832)
  (kk:∀ dk gR,dk=acc++[x]->gR=dk.length->ab P w0 rd n Q (.aR false l K) (bJ dd α (.gr S.nx sz gR)) ((S.set k none).new (.arr sz (ρ.h (List.map f) dk) 0 false))):ab P w0 rd n Q (.aR false (⟨dd,gg,.append sz by_ (.t t) b⟩::l) K) α S:=by
 have hlen:(ρ.h (List.map f) acc).length=acc.length:=aF
 have h:=kk _ _ rfl rfl
 have e:ρ.h (List.map f) acc++[f x]=ρ.h (List.map f) (acc++[x]):=by rw [ρ.eq,ρ.eq,List.map_append];rfl
 rw [<-e,show (acc++[x]).length=len+[f x].length by simp;omega] at h
 exact ab.op (i:=⟨dd,gg,.append sz by_ (.t t) b⟩) hw (ad.Bp h1 hk (by omega) mK hb dF (by simpa using ⟨hl,by simpa using hc⟩) (by simpa using hy)) h
theorem bX.grow {S:aa}{k sz len:Nat}{ex:Bool}(hk:S.get k=some (.arr sz (ρ.h (List.map f) acc) 0 ex)) (hn:len=acc.length):bX S (.gr k sz len) (dw ρ f false acc):=by
 rw [ij]
 rw [ρ.eq] at hk
 refine .gr hk (by simp;omega) (by simp [hn]) (fun i row aM h1 h2=>?_) (fun i j row aM a a' h1 h2 h3 h4=>?_)
 ·rw [h2] at h1
  rw [Option.some.inj h1]
 ·rw [h2] at h1
  rw [Option.some.inj h1,h3] at h4
  rw [Option.some.inj h4]
  exact .refl _
end
end
end Go.Proofs.YtgjfgekaclobaaaGreat
