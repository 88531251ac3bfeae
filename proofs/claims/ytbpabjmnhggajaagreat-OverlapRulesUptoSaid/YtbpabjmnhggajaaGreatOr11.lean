import Derived.Test.YtbpabjmnhggajaaGreatOr10
namespace Go.Proofs.YtbpabjmnhggajaaGreat
set_option linter.all false
open Go.RowKit
variable {α:AA}{a:Act}{ex:Bool}{g:Gh}{more rows:List (List AV)}{jM:List (Nat × AV)}{first x:List AV}{L L':Loop}{b by_ sz t:Nat}{A:Nat->Prop}{j:Option Code}{w:World}
structure Cj (z:Nat) (A:Nat->Prop) (g:Gh) (S:af) (w:World):Prop where
 up:∀b,w.heap.size<=b->A b
 lo:∀b,A b->z<=b
 al:∀k,g.al k->k < S.nx
 cT:∀k o,S.get k=some o->g.al k->A (g.ob k)/\g.ob k < w.heap.size/\eU g w (g.ob k) (g.cp k) o
 inj:∀j k o p,S.get j=some o->S.get k=some p->g.al j->g.al k->g.ob j=g.ob k->j=k
 dw:∀b o,g.fz b o->b < w.heap.size
 rp:∀b o,b < z->g.fz b o
 kP:∀k J,S.get k=some (.fo J)->g.al k->∀c,g.fo (g.ob k) c->A c/\c < w.heap.size
 nb:∀k J j o,S.get k=some (.fo J)->g.al k->S.get j=some o->g.al j->j ≠ k->¬ g.fo (g.ob k) (g.ob j)
 oW:∀j k J J',S.get j=some (.fo J)->S.get k=some (.fo J')->g.al j->g.al k->j=k
def Gh.Lo (g:Gh) (Z:Nat->Nat->Prop):Gh:=⟨g.ob,g.cp,g.al,Z,g.fo⟩
section
variable {w0:World}{z:Nat}{A A':Nat->Prop}{g:Gh}{S:af}{w w':World}
theorem St.free (h:St w0 A g S w):Cj w0.heap.size A g S w:=⟨h.up,h.lo,h.al,h.cT,h.inj,h.dw,h.rp,h.kP,h.nb,h.oW⟩
theorem Cj.st (h:Cj w0.heap.size A g S w) (a:Below w0.heap.size w0 w):St w0 A g S w:=⟨a,h.up,h.lo,h.al,h.cT,h.inj,h.dw,h.rp,h.kP,h.nb,h.oW⟩
theorem Cj.move (h:Cj z A g S w) (Z:Nat->Nat->Prop) (l:w.heap.size<=w'.heap.size) (up:∀b,w'.heap.size<=b->A' b) (lo:∀b,A' b->z<=b)
  (j:∀c,A c->c < w.heap.size->((∃k o,S.get k=some o/\g.al k/\c=g.ob k)\/∃k J,S.get k=some (.fo J)/\g.al k/\g.fo (g.ob k) c)->A' c/\w'.heap[c]?=w.heap[c]?/\∀q,Z c q->g.fz c q)
  (a:∀b q,g.fz b q->w'.cell? ⟨b,q,none⟩=w.cell? ⟨b,q,none⟩) (n:∀b q,g.fz b q->Z b q) (m:∀b q,Z b q->b < w'.heap.size):Later g w (g.Lo Z) w'/\Cj z A' (g.Lo Z) S w':=by
 have p:Later g w (g.Lo Z) w':=⟨λ_ h=>h,λ_ _=>rfl,λ_ _=>rfl,n,a⟩;refine⟨p,up,lo,h.al,λk o d e=>?_,h.inj,m,λb q t=>n b q (h.rp b q t),λk J d e c a=>?_,h.nb,h.oW⟩
 ·obtain⟨u,r,v⟩:=h.cT k o d e;obtain⟨x,y,B⟩:=j _ u r (.inl ⟨k,o,d,e,rfl⟩);refine⟨x,au_ r l,v.later p y B λJ s=>⟨rfl,l,λc a=>?_,λc q a C=>?_⟩⟩
  ·subst s;obtain⟨i,f⟩:=h.kP k J d e c a;exact (j c i f (.inr ⟨k,J,d,e,a⟩)).2.1
  ·subst s;obtain⟨i,f⟩:=h.kP k J d e c a;exact (j c i f (.inr ⟨k,J,d,e,a⟩)).2.2 q C
 ·obtain⟨i,f⟩:=h.kP k J d e c a;exact⟨(j c i f (.inr ⟨k,J,d,e,a⟩)).1,au_ f l⟩
theorem Cj.inA (h:Cj z A g S w) {c:Nat}(d:(∃k o,S.get k=some o/\g.al k/\c=g.ob k)\/∃k J,S.get k=some (.fo J)/\g.al k/\g.fo (g.ob k) c):A c/\c < w.heap.size:=by
 rcases d with ⟨k,o,a,b,rfl⟩|⟨k,J,a,b,e⟩
 ·exact⟨(h.cT k o a b).1,(h.cT k o a b).2.1⟩
 ·exact h.kP k J a b c e
end
structure GL (gs gb:Gh):Prop where
 al:∀k,gs.al k->gb.al k
 ob:∀k,gs.al k->gb.ob k=gs.ob k
 cp:∀k,gs.al k->gb.cp k=gs.cp k
 fz:∀b q,gs.fz b q->gb.fz b q
def LJ (z:Nat) (A:Nat->Prop) (gs:Gh) (n:Nat) (T0:Array Value) (st:LoopState) (nH:Option Code) (ps:Array Tmp) (assign body:Code) (f0:Nat->AV) (S:af):Nat->(Nat->Nat->Prop)->(Nat->Prop)->World->Prop :=
 λb Z B w=>∃(a:Gh) (L:Loop),Cj z (λc=>(B c/\c ≠ b)\/w.heap.size<=c) a S w/\B b/\(∀c,B c->A c/\c < w.heap.size) /\
  (w.heap[b]?=some (.loop L)/\L.state=st/\L.pending=nH/\L.params=ps/\L.assign=assign/\L.body=body/\L.tmps=T0)/\cA a w n ⟨f0,[]⟩ { tmps:=T0,defers:=[] } /\
  (∀c q,a.fz c q->Z c q\/B c)/\(∀c q,B c->Z c q->a.fz c q)/\GL gs a/\∀c,w.heap.size<=c->A c
section
variable {z:Nat}{A:Nat->Prop}{gs:Gh}{n:Nat}{T0:Array Value}{st:LoopState}{nH:Option Code}{ps:Array Tmp}{assign body:Code}{f0:Nat->AV}{S:af}
theorem LJ.ok:RI (LJ z A gs n T0 st nH ps assign body f0 S):=by
 rintro b Z G B w w' ⟨i,L,j,o,p,r,u,s,v,x,y⟩ C k l D e;have a:∀c q,i.fz c q->w'.cell? ⟨c,q,none⟩=w.cell? ⟨c,q,none⟩:=λc q d=>(s c q d).elim (D c q) λg=>World.cell?_of_block (l c g);have f:∀c,((B c/\c ≠ b)\/w.heap.size<=c)->c < w.heap.size->B c/\c ≠ b:=λc a m=>a.resolve_right (by omega)
 obtain⟨E,F⟩:=j.move (w':=w') (A':=λc=>(B c/\c ≠ b)\/w'.heap.size<=c) i.fz e (λc a=>.inr a) (λc a=>j.lo c (a.imp id λh=>ay_ e h))
  (λc t m _=>⟨.inl (f c t m),l c (f c t m).1,λ_ h=>h⟩) a (λ_ _ h=>h) (λc q d=>au_ (j.dw c q d) e)
 exact⟨i,L,F,o,λc a=>⟨(p c a).1,au_ (p c a).2 e⟩,⟨(l b o).trans r.1,r.2⟩,u.later E,λc q d=>(s c q d).imp (C c q) id,λc q g d=>v c q g (k c q g d),x,λc a=>y c (ay_ e a)⟩
end
def Eb (f:Nat->AV):List (Nat × AV)->Nat->AV
 |[]=>f
 |p::l=>Eb (bE f p.1 p.2) l
section
variable {P:Program}{w0:World}{n:Nat}{T0:Array Value}{ps:Array Tmp}{assign body:Code}{f0:Nat->AV}{S dL RL:af}{dp KQ:AA}{ex:Exit}{x:List AV}{B N:Nat}{m:List (Nat × Nat)}{so:List (Nat × Ob)}
theorem Lp {g:Gh}{w:World}:∀{l:List (Nat × AV)}{ys:List (Nat × Value)}{f:Nat->AV}{T:Array Value},cA g w n ⟨f,[]⟩ { tmps:=T,defers:=[] }->l.map (·.1)=ys.map (·.1)->(∀p ∈ l,p.1 < n) ->
  (∀(i:Nat) (p:Nat × AV) (y:Nat × Value),l[i]?=some p->ys[i]?=some y->aN g w p.2 y.2)->cA g w n ⟨Eb f l,[]⟩ { tmps:=ys.foldl (λT (t,a)=>T.setIfInBounds t a) T,defers:=[] }
 |[],[],f,T,h,_,_,_=>h
 |p::l,y::ys,f,T,h,b,c,d=>by
  simp only[aC_,List.cons.injEq]at b;have j:cA g w n ⟨bE f p.1 p.2,[]⟩ { tmps:=T.setIfInBounds p.1 y.2,defers:=[] }:=h.put (c p (by simp)) (d 0 p y rfl rfl);have e:cA g w n ⟨bE f p.1 p.2,[]⟩ { tmps:=T.setIfInBounds y.1 y.2,defers:=[] }:=by grind
  rw[Eb,cR_];exact Lp e b.2 (λq k=>c q (by grind)) λi q v m o=>d (i+1) q v (by grind) (by grind)
 |[],y::ys,f,T,h,b,_,_=>by grind
 |p::l,[],f,T,h,b,_,_=>by grind
def GH:Exit->Option (Option Code)
 |.normal=>some none
 |.ret=>some (some .ret)
 |.exit id=>some (some (.exit id))
 |_=>none
def qh (j:Option Code):LoopState:=match j with|none=>.ready|some _=>.done
theorem run_getLoop (h:w.heap[b]?=some (.loop L)):(Instr.getLoop b).run P w=.ok L w:=by
 simp[Instr.getLoop,getObj,Sem.run,h]
def World.rec (w:World) (b:Nat) (L:Loop):World:={ w with heap:=w.heap.setIfInBounds b (.loop L) }
theorem lU:(World.rec w b L).heap.size=w.heap.size:=by simp[World.rec]
theorem lI {c:Nat}(h:c ≠ b):(World.rec w b L).heap[c]?=w.heap[c]?:=by grind[World.rec]
theorem Fp (h:b < w.heap.size):(World.rec w b L).heap[b]?=some (.loop L):=by grind[World.rec]
theorem Fq (h:w.heap[b]?=some (.loop L')) (c q:Nat):(World.rec w b L).cell? ⟨c,q,none⟩=w.cell? ⟨c,q,none⟩:=by
 by_cases e:c=b
 ·subst e;have a:c < w.heap.size:=by grind
  simp[World.cell?,Fp a,h]
 ·exact World.cell?_of_block (lI e)
theorem AI (h:w.heap[b]?=some (.loop L')):(setObj b (.loop L)).run P w=.ok () (World.rec w b L):=by
 simp[setObj,Sem.run,h,World.rec]
theorem Ext.mono {A':Nat->Prop}{g':Gh}{w':World}(h:Ext A g w g' w') (a:∀b,A b->A' b):Ext A' g w g' w' :=
 { h.toLater with size:=h.size,aM:=λb c d=>h.aM b c λh=>d (a b h),kr:=λb q e=>(h.kr b q e).imp id (a b) }
theorem St.ac9 (h:St w0 A g S w) (d:w.heap[b]?=some (.loop L')) (f:¬ A b) (h0:w0.heap.size<=b):Later g w g (World.rec w b L)/\St w0 A g S (World.rec w b L):=by
 have n:b < w.heap.size:=by grind
 obtain⟨i,j⟩:=h.free.move (w':=World.rec w b L) (A':=A) g.fz (by grind[lU]) (λc a=>h.up c (by grind[lU])) h.lo (λc a _ _=>⟨a,lI (λe=>f (by grind)),λ_ h=>h⟩)
  (λc q _=>Fq d c q) (λ_ _ h=>h) (λc q l=>by rw[lU];exact h.dw c q l)
 exact⟨i,j.st ⟨h.base.os,h.base.tape,h.base.output,by grind[lU],λk m=>(lI (by omega)).trans (h.base.block k m)⟩⟩
theorem BP.rnd (ha:dN P w0 true n assign ⟨Eb f0 (ps.toList.zip x),[]⟩ S .normal dp dL) (hb:dN P w0 true n body dp dL ex KQ RL) (hC:Canon B N m KQ RL [] [] so) (hj:GH ex=some j)
  (hx:x.length=ps.size) (hp:∀a ∈ x,Pure a) (PF:∀t ∈ ps,t < n) (BQ:∀t,ec B (f0 t)) {gs:Gh}(hB:∀k,gs.al k->k < B)
  {T:af}{k:Nat}(M:T.get k=some (.fo (LJ w0.heap.size A gs n T0 .ready none ps assign body f0 S))) :
  BP P w0 k x T (.v (.bool j.isNone)) (T.set k (some (.fo (LJ w0.heap.size A gs n T0 (qh j) j ps assign body f0 (aq so N))))):=by
 intro F mm A2 g C w hF s U H;obtain⟨k2,k3,⟨gb,L,W,h2,h3,⟨X,hL2,hL3,Y,hL5,hL6,hL7⟩,h5,h6,h7,h8,h9⟩,_⟩:=s.cT k _ M U;obtain⟨b,TP⟩:∃b,g.ob k=b:=⟨_,rfl⟩;rw[TP]at k2 k3 W h2 h3 X h6 h7;obtain⟨Bf,hBf⟩:∃Bf,g.fo b=Bf:=⟨_,rfl⟩;rw[hBf]at W h2 h3 h6 h7;have TQ:w0.heap.size<=b:=s.lo b k2;have aw:b < w.heap.size:=k3;have adf:∀c,Bf c->A2 c/\c < w.heap.size:=λc f=>s.kP k _ M U c (by grind);obtain⟨Z,hZ⟩:∃Z:Nat->Nat->Prop,Z=λc q=>gb.fz c q\/g.fz c q:=⟨_,rfl⟩;obtain⟨I,PG⟩:∃I:Nat->Prop,I=λc=>(Bf c/\c ≠ b)\/w.heap.size<=c:=⟨_,rfl⟩;rw[<-PG]at W;have ame:∀c,I c->c < w.heap.size->Bf c/\c ≠ b:=λc f aw=>by grind
 have r9:¬ I b:=by grind
 obtain⟨m1,m2⟩:=W.move (w':=w) (A':=I) Z (ac_ _) W.up W.lo (λc f aw _=>⟨f,rfl,λq z=>by grind⟩) (λ_ _ _=>rfl) (λ_ _ h=>by grind) (λc q z=>by
   rw[hZ]at z;exact z.elim (W.dw c q) (s.dw c q))
 have eC:=m2.st s.base;have arC:(gb.Lo Z).fz=Z:=rfl;have vI:cA (gb.Lo Z) w n ⟨Eb f0 (ps.toList.zip x),[]⟩ { tmps:=(ps.toList.zip C.toList).foldl (λT (t,a)=>T.setIfInBounds t a) T0,defers:=[] }:=by
  refine Lp (h5.later m1) ?_ (λp hp=>PF _ (by simpa using (bR_ hp).1)) (λi p y Zz hy=>?_)
  ·have e1:C.toList.length=x.length:=by rw[bh_];exact H.1
   rw[List.map_fst_zip (by grind),List.map_fst_zip (by grind)]
  ·rw[ch_]at Zz hy;have hr:=H.2 i p.2 y.2 Zz.2 (by grind);exact aN.pure (g:=g) (λc q z=>by grind) (λ_ _ _=>rfl) hr (hp _ (aa_ Zz.2))
 have cO:C.size=L.params.size:=by rw[H.1,hx,Y]
 refine⟨b,L.fn,(ps.toList.zip C.toList).foldl (λT (t,a)=>T.setIfInBounds t a) T0,assign,body,?_,?_⟩
 ·rw[TP];simp only[Instr.yield,Sem.run_bind,run_getLoop X,Result.andThen_ok,cO,ne_eq,not_true_eq_false,if_false,Sem.run_pure,hL5,hL6,hL7,Y];congr 3;rw[<-cS_,Array.toList_zip]
 ·have ZA:kW (F.inRound b):=hF.inRound b;have EH:(F.inRound b).round.isSome=true:=rfl;refine roundIn_of_wpIn (hF.1 _) ?_;refine wpIn_mono (ha (F.inRound b) mm I _ _ w ZA EH eC vI) ?_;rintro e1 a1 w1 ⟨rfl,g1,s1,r1,O⟩;have aZ:w1.heap[b]?=some (.loop L):=(O.aM b aw r9).trans X;have WH:b < w1.heap.size:=au_ aw O.size;refine⟨World.rec w1 b { L with state:=.busy },?_,?_⟩
  ·simp only[Instr.beginRound,Sem.run_bind,run_getLoop aZ,Result.andThen_ok,AI aZ,hL2,Sem.run_pure]
  obtain⟨y1,y2⟩:=s1.ac9 (L:={ L with state:=.busy }) aZ r9 TQ;refine wpIn_mono (hb (F.inRound b) mm I g1 a1 _ ZA EH y2 (r1.later y1)) ?_;rintro e2 a2 w2 ⟨rfl,g2,s2,r2,x2⟩;have bf:w2.heap[b]?=some (.loop { L with state:=.busy }):=(x2.aM b (by grind[lU]) r9).trans (Fp WH);have oA:b < w2.heap.size:=au_ (by grind[lU]) x2.size;have Lq:w.heap.size<=w2.heap.size:=ay_ O.size (by have:=x2.size;rw[lU]at this;exact this);obtain⟨u,hw3⟩:∃u,World.rec w2 b { L with state:=qh j,pending:=j }=u:=⟨_,rfl⟩;obtain⟨u1,u2⟩:=s2.ac9 (L:={ L with state:=qh j,pending:=j }) bf r9 TQ;rw[hw3]at u1 u2;have arD:u.heap.size=w2.heap.size:=by grind[lU]
  have vh:(Instr.endRound b j).run P w2=.ok (.bool j.isNone) u:=by
   rw[<-hw3];cases j<;>simp only[Instr.endRound,Sem.run_bind,run_getLoop bf,Result.andThen_ok,Sem.run_pure,AI bf]<;>rfl
  have post:∃v E,Ending.returned (.bool j.isNone)=.returned v/\aN E u (.v (.bool j.isNone)) v/\St w0 A2 E (T.set k (some (.fo (LJ w0.heap.size A gs n T0 (qh j) j ps assign body f0 (aq so N))))) u/\Ext A2 g w E u:=by
   have pF:∀c q,g.fz c q->u.cell? ⟨c,q,none⟩=w.cell? ⟨c,q,none⟩:=λc q z=>by
    have ZB:(gb.Lo Z).fz c q:=by grind
    rw[u1.cell c q (x2.fz c q (y1.fz c q (O.fz c q ZB))),x2.cell c q (y1.fz c q (O.fz c q ZB)),y1.cell c q (O.fz c q ZB),O.cell c q ZB]
   have ZC:∀c,c < w.heap.size->¬ I c->c ≠ b->u.heap[c]?=w.heap[c]?:=λc f H Q=>by
    rw[<-hw3,lI Q,x2.aM c (by rw[lU];exact au_ f O.size) H,lI Q,O.aM c f H]
   obtain⟨B',hB'⟩:∃B':Nat->Prop,B'=λc=>Bf c\/(w.heap.size<=c/\c < u.heap.size):=⟨_,rfl⟩;obtain⟨E,V⟩:∃E:Gh,E=⟨g.ob,g.cp,g.al,g.fz,λd c=>(d=b/\B' c)\/(d ≠ b/\g.fo d c)⟩:=⟨_,rfl⟩;have WI:E.fo b=B':=by
    rw[V];funext c;exact propext ⟨λh=>h.elim (·.2) λh=>absurd rfl h.1,λh=>.inl ⟨rfl,h⟩⟩
   have arz:∀d,d ≠ b->E.fo d=g.fo d:=λd hd=>by
    rw[V];funext c;exact propext ⟨λh=>h.elim (λh=>absurd h.1 hd) (·.2),λh=>.inr ⟨hd,h⟩⟩
   have hL':Later g w E u:=by rw[V];exact⟨λ_ h=>h,λ_ _=>rfl,λ_ _=>rfl,λ_ _ h=>h,pF⟩
   have hE':Ext A2 g w E u:={ hL' with
    size:=by grind
    aM:=λc f H=>ZC c f (λh=>H (adf c (ame c h f).1).1) (λe=>H (by grind))
    kr:=λc q z=>by rw[V]at z;exact .inl z }
   have sub:∀c,I c->c < u.heap.size->B' c/\c ≠ b:=λc f y9=>by grind
   have qL:LJ w0.heap.size A gs n T0 (qh j) j ps assign body f0 (aq so N) b E.fz (E.fo b) u/\RI (LJ w0.heap.size A gs n T0 (qh j) j ps assign body f0 (aq so N)):=by
    refine⟨?_,LJ.ok⟩;rw[WI];have Cl:=hC.st u2;have hBN:=aq_ hC.bn;obtain⟨v1,v2⟩:=Cl.free.move (w':=u) (A':=λc=>(B' c/\c ≠ b)\/u.heap.size<=c) (g2.jc B N (aU m)).fz (ac_ _) (λc f=>.inr f) (λc f=>by
      rcases f with f|f
      ·rw[hB']at f;rcases f.1 with h|h
       ·exact s.lo c (adf c h).1
       ·grind
      ·have W:=s.base.size;omega) (λc f aw _=>⟨.inl (sub c f aw),rfl,λ_ h=>h⟩) (λ_ _ _=>rfl) (λ_ _ h=>h) (λc q z=>Cl.dw c q z)
    have oL:Ext (λc=>I c\/c=b) (gb.Lo Z) w g2 u:=((O.mono λ_ h=>.inl h).trans (g2:=g1) { y1 with size:=by grind[lU],aM:=λc _ H=>lI (λe=>H (.inr e)),kr:=λ_ _ h=>.inl h }).trans
     ((x2.mono λ_ h=>.inl h).trans { u1 with size:=by grind,aM:=λc _ H=>by grind[lI],kr:=λ_ _ h=>.inl h })
    have y_:∀c,(I c\/c=b)->c < u.heap.size->B' c:=λc f y9=>f.elim (λh=>(sub c h y9).1) λe=>by grind
    refine⟨g2.jc B N (aU m),{ L with state:=qh j,pending:=j },v2,by grind,λc f=>?_,⟨by grind[Fp],rfl,rfl,Y,hL5,hL6,hL7⟩,?_,λc q z=>?_,λc q f z=>?_,?_,λc f=>h9 c (by omega)⟩
    ·grind
    ·have h5':=(h5.later m1).later oL.toLater;exact⟨h5'.size,λt ht=>(h5'.tm t ht).jc hBN (BQ t),h5'.out,rfl,λk G=>by grind⟩
    ·have GJ:g2.fz c q:=z;have y9:=u2.dw c q GJ;rw[V];rcases oL.kr c q GJ with h|h
     ·grind
     ·grind
    ·rw[V]at z;have:Z c q:=by grind
     exact oL.fz c q this
    ·have e0:∀k,gs.al k->eM B (aU m) k=k:=λk G=>pK (hB k G);refine⟨λk G=>⟨by grind,?_⟩,λk G=>?_,λk G=>?_,λc q z=>oL.fz c q (by show Z c q;rw[hZ];exact .inl (h8.fz c q z))⟩
     ·rw[e0 k G];exact oL.al k (h8.al k G)
     ·show g2.ob (eM B (aU m) k)=gs.ob k;rw[e0 k G,oL.ob k (h8.al k G)];exact h8.ob k G
     ·show g2.cp (eM B (aU m) k)=gs.cp k;rw[e0 k G,oL.cp k (h8.al k G)];exact h8.cp k G
   have key:∀l r,(T.set k (some (.fo (LJ w0.heap.size A gs n T0 (qh j) j ps assign body f0 (aq so N))))).get l=some r->(l=k/\r=.fo (LJ w0.heap.size A gs n T0 (qh j) j ps assign body f0 (aq so N)))\/(l ≠ k/\T.get l=some r):=by
    intro l r R;have R:bE T.get k (some (.fo (LJ w0.heap.size A gs n T0 (qh j) j ps assign body f0 (aq so N)))) l=some r:=R;by_cases e:l=k
    ·grind[aJ]
    ·grind[aO]
   have WJ:∀l r,(T.set k (some (.fo (LJ w0.heap.size A gs n T0 (qh j) j ps assign body f0 (aq so N))))).get l=some r->∃r',T.get l=some r':=λl r R=>(key l r R).elim (λe=>⟨.fo (LJ w0.heap.size A gs n T0 .ready none ps assign body f0 S),e.1.symm ▸ M⟩) λe=>⟨r,e.2⟩;have Lr:∀i,E.ob i=g.ob i:=λi=>by rw[V]
   have TR:∀i,E.al i=g.al i:=λi=>by rw[V]
   have Ls:E.fz=g.fz:=by grind
   refine⟨_,E,rfl,.v,⟨u2.base,λc f=>s.up c (by omega),s.lo,λi D=>s.al i (by grind),λi o D K=>?_,λi l o p D R ai al e=>?_,λc q z=>by rw[Ls]at z;have:=s.dw c q z;omega,λc q f=>by rw[Ls];exact s.rp c q f,
    λi J D K c f=>?_,λi J l o D K R vi Q f=>?_,λi l J J' D R ai al=>?_⟩,hE'⟩
   ·rw[TR]at K;rcases key i o D with ⟨rfl,rfl⟩|⟨Q,D⟩
    ·rw[Lr,TP];exact⟨k2,by omega,qL⟩
    ·obtain⟨q1,q2,q3⟩:=s.cT i o D K;have hib:g.ob i ≠ b:=λe=>Q (s.inj i k o _ D M K U (by grind));have hnA:¬ I (g.ob i):=λh=>s.nb k _ i o M U D K Q (by grind);have cU:E.cp i=g.cp i:=by rw[V]
     rw[Lr,cU];refine⟨q1,by omega,q3.later hL' (ZC _ q2 hnA hib) (λq z=>by grind) λJ hJ=>?_⟩;subst hJ;exact absurd (s.oW i k J _ D M K U) Q
   ·rw[TR]at ai al;rw[Lr,Lr]at e;obtain⟨_,mO⟩:=WJ i o D;obtain⟨_,ng⟩:=WJ l p R;exact s.inj i l _ _ mO ng ai al e
   ·rw[TR]at K;rcases key i _ D with ⟨rfl,_⟩|⟨Q,D⟩
    ·rw[Lr,TP,WI,hB']at f;rcases f with f|f
     ·grind
     ·exact⟨s.up c f.1,f.2⟩
    ·exact absurd (s.oW i k J _ D M K U) Q
   ·rw[TR]at K vi;rcases key i _ D with ⟨rfl,_⟩|⟨amf,D⟩
    ·rw[Lr,TP,WI,hB',Lr]at f;obtain⟨_,ng⟩:=WJ l o R;rcases f with f|f
     ·exact s.nb i _ l _ M U ng vi Q (by grind)
     ·have:=(s.cT l _ ng vi).2.1;omega
    ·exact absurd (s.oW i k J _ D M K U) amf
   ·rw[TR]at ai al;have to:∀x J,(T.set k (some (.fo (LJ w0.heap.size A gs n T0 (qh j) j ps assign body f0 (aq so N))))).get x=some (.fo J)->g.al x->x=k:=λx J hx ax=>(key x _ hx).elim (·.1) λe=>s.oW x k J _ e.2 M ax U;rw[to i J D ai,to l J' R al]
  cases e2 with
  |normal=>obtain rfl:=oJ_ hj;exact⟨_,u,vh,post⟩
  |ret=>obtain rfl:=oJ_ hj;exact⟨_,u,vh,post⟩
  |exit id=>obtain rfl:=oJ_ hj;exact⟨_,u,vh,post⟩
  |_=>cases hj
theorem Cm {f:Fn}{l m:List AV}{v:Value}(h:aN g w (.fn f l m) v):∃cs ds,v=.func f cs ds/\mj g w l cs/\mj g w m ds:=by
 cases h with
 |fn a b c d=>exact⟨_,_,rfl,⟨a,c⟩,⟨b,d⟩⟩
theorem qM {J:Nat->(Nat->Nat->Prop)->(Nat->Prop)->World->Prop}{k:Nat}{o:Ob}(h:(aq [(0,.fo J)] 1).get k=some o):k=0/\o=.fo J:=by
 have h:fb [(0,.fo J)] k=some o:=h;have:=fp h;simp only[ae_,pI_]at this;exact this
structure TS (P:Program) (w0:World) (n:Nat) (A:Nat->Prop) (g0:Gh) (α:AA) (S:af) (a:Act) (w:World) (B:Nat) (fn:FuncId) (ps:Array Tmp) (assign body:Code) (f0:Nat->AV) (T:af) (gs gi:Gh) (w1 w2:World) (b:Nat) (a1:Act):Prop where
 dD:{ a with defers:=[{ target:=.collected w.heap.size,args:=#[] }]++a.defers }=a1
 oL:Ext A g0 w gs w1
 ZD:∀k,gs.al k->k < B
 Cn:cA gs w1 n ⟨α.tm,S.nx::α.df⟩ a1
 hb:w1.heap.size=b
 Lq:w2.heap.size=b+1
 hold:∀c,c < b->w2.heap[c]?=w1.heap[c]?
 Co:(Instr.enterLoop fn a.tmps ps assign body none).run P w=.ok (b,[{ target:=.collected w.heap.size,args:=#[] }]) w2
 PG:A b
 lo:∀c,A c->w0.heap.size<=c
 ZE:St w0 A gi (aq [(0,.fo (LJ w0.heap.size A gs n a.tmps .ready none ps assign body f0 T))] 1) w2
 ob:gi.ob 0=b
 al:gi.al 0
 fz1:∀c q,gs.fz c q->gi.fz c q
 fz2:∀c q,gi.fz c q->gs.fz c q\/A c
 aw:∀c q,gs.fz c q->c < w1.heap.size
theorem TS.of {gE:List (Nat × Ob)}{g0:Gh}(hS:St w0 A g0 S w) (hA:cA g0 w n α a)
  (K:Canon B N m ⟨α.tm,S.nx::α.df⟩ (S.new .df) jM (S.nx::α.df) gE) (hB:S.nx+1<=B) (fn:FuncId):∃gs t s f b z,TS P w0 n A g0 α S a w B fn ps assign body (jd jM []).tm (aq gE N) gs t s f b z:=by
 obtain⟨M,H⟩:=hS.new (.deferred (some [])) .df 0 (λJ=>by simp) (λhL=>dZ);obtain⟨gs,O⟩:∃gs,g0.new S.nx w.heap.size 0=gs:=⟨_,rfl⟩;obtain⟨s,Q⟩:∃s,w.alloc (.deferred (some []))=s:=⟨_,rfl⟩;rw[O,Q]at M H;have lH:gs.ob S.nx=w.heap.size:=by rw[<-O];exact aJ _ _ _
 have aT:gs.al S.nx:=by rw[<-O];exact .inr rfl
 have ZD:∀k,gs.al k->k < B:=λk d=>by
  have:=H.al k d;have:k < S.nx+1:=this;omega
 have R:cA gs s n ⟨α.tm,S.nx::α.df⟩ { a with defers:=({ target:=.collected w.heap.size,args:=#[] }:Deferred)::a.defers }:=by
  have h:=hA.later M.toLater;refine⟨h.size,h.tm,h.out,?_,λk d=>?_⟩
  ·show _=({ target:=.collected (gs.ob S.nx),args:=#[] }:Deferred)::_;rw[lH,<-h.df]
  ·rcases ad_.1 d with rfl|d
   ·exact aT
   ·exact h.wK k d
 obtain⟨z,T⟩:∃z:Act,{ a with defers:=({ target:=.collected w.heap.size,args:=#[] }:Deferred)::a.defers }=z:=⟨_,rfl⟩;rw[T]at R;have U:=aq_ K.bn;have l:=K.st H;have C:=K.RM R;obtain⟨gc,D⟩:∃gc,gs.jc B N (aU m)=gc:=⟨_,rfl⟩;have y:Ext A gs s gc s:=by rw[<-D];exact (Ext.refl A gs s).jc U ZD
 rw[D]at l C;obtain⟨L,V⟩:∃L:Loop,{ state:=.ready,pending:=none,fn,tmps:=a.tmps,params:=ps,assign,body,defers:=w.heap.size }=L:=⟨_,rfl⟩;obtain⟨f,I⟩:∃f,s.alloc (.loop L)=f:=⟨_,rfl⟩;obtain⟨b,W⟩:∃b,s.heap.size=b:=⟨_,rfl⟩;have Lq:f.heap.size=b+1:=by grind[size_alloc]
 have hold:∀c,c < b->f.heap[c]?=s.heap[c]?:=λc g=>by grind[jb]
 have xZ:f.heap[b]?=some (.loop L):=by grind[dZ]
 have Co:(Instr.enterLoop fn a.tmps ps assign body none).run P w=.ok (b,[{ target:=.collected w.heap.size,args:=#[] }]) f:=by
  rw[<-I,<-Q,<-W,<-Q,<-V];simp only[Instr.enterLoop,newObj,Sem.run_bind,Sem.run,Result.andThen_ok,Sem.run_pure]
  rfl
 obtain⟨v,r⟩:=l.free.move (w':=f) (A':=A) gc.fz (by omega) (λc g=>l.up c (by omega)) l.lo (λc g aw _=>⟨g,hold c (by omega),λ_ h=>h⟩)
  (λc q j=>World.cell?_of_block (hold c (by rw[<-W];exact l.dw c q j))) (λ_ _ h=>h) (λc q j=>by have:=l.dw c q j;omega)
 have r:Cj w0.heap.size A gc (aq gE N) f:=r;have v:Later gc s gc f:=v;have X:Below w0.heap.size w0 f:=by
  refine⟨?_,?_,?_,by have:=l.base.size;omega,λk d=>(hold k (by have:=l.base.size;omega)).trans (l.base.block k d)⟩
  ·rw[<-I];exact l.base.os
  ·rw[<-I];exact l.base.tape
  ·rw[<-I];exact l.base.output
 have PG:A b:=l.up b (by omega);obtain⟨u,Y⟩:∃u:Nat->Prop,u=λc=>c=b\/(∃k o,(aq gE N).get k=some o/\gc.al k/\c=gc.ob k)\/∃k J,(aq gE N).get k=some (.fo J)/\gc.al k/\gc.fo (gc.ob k) c:=⟨_,rfl⟩;have Z:∀c,u c->A c/\c < f.heap.size:=λc g=>by
  rw[Y]at g;rcases g with rfl|g
  ·grind
  ·exact r.inA g
 have amg:u b:=by grind
 have hLJ:LJ w0.heap.size A gs n a.tmps .ready none ps assign body (jd jM []).tm (aq gE N) b gc.fz u f:=by
  obtain⟨v1,v2⟩:=r.move (w':=f) (A':=λc=>(u c/\c ≠ b)\/f.heap.size<=c) gc.fz (ac_ _) (λc g=>.inr g) (λc g=>g.elim (λh=>r.lo c (Z c h.1).1) λh=>r.lo c (r.up c h))
   (λc g aw h=>⟨.inl ⟨by grind,λe=>by
    have:=l.free.inA h;omega⟩,rfl,λ_ h=>h⟩) (λ_ _ _=>rfl) (λ_ _ h=>h) r.dw
  refine⟨gc,L,v2,amg,Z,⟨xZ,by grind,by grind,by grind,by grind,by grind,by grind⟩,?_,λc q j=>.inl j,λc q _ j=>j,⟨y.al,y.ob,y.cp,y.fz⟩,λc g=>r.up c g⟩;have h:=C.later v;have h1:=h.size;have h2:=h.tm;rw[<-T]at h1 h2;exact⟨h1,h2,h.out,rfl,λk d=>by grind⟩
 obtain⟨t,x⟩:∃t:Gh,t=⟨λ_=>b,λ_=>0,λk=>k=0,gc.fz,λ_=>u⟩:=⟨_,rfl⟩;obtain⟨E,F⟩:∃E,LJ w0.heap.size A gs n a.tmps .ready none ps assign body (jd jM []).tm (aq gE N)=E:=⟨_,rfl⟩;have ZE:St w0 A t (aq [(0,.fo E)] 1) f:=by
  have e1:∀k,t.ob k=b:=λk=>by rw[x]
  have e2:∀k,t.fo k=u:=λk=>by rw[x]
  have e3:t.fz=gc.fz:=by grind
  have e4:∀k,t.al k->k=0:=λk d=>by rw[x]at d;exact d
  refine⟨X,r.up,r.lo,λk d=>by rw[e4 k d];exact Nat.one_pos,λk o d ha=>?_,λi k o p G d _ _ _=>(qM G).1.trans (qM d).1.symm,λc q j=>r.dw c q (by grind),λc q g=>by rw[e3];exact r.rp c q g,
   λk J d ha c g=>Z c (by grind),λk J i o d _ G _ dm=>absurd ((qM G).1.trans (qM d).1.symm) dm,λi k J J' G d _ _=>(qM G).1.trans (qM d).1.symm⟩
  obtain⟨rfl,rfl⟩:=qM d;rw[e1];refine⟨PG,by omega,?_⟩;show E b t.fz (t.fo b) f/\RI E;rw[e2,e3,<-F];exact⟨hLJ,LJ.ok⟩
 rw[<-F]at ZE;exact⟨gs,t,s,f,b,z,T,M,ZD,R,W,Lq,hold,Co,PG,r.lo,ZE,by rw[x],by rw[x],λc q j=>by rw[x];exact y.fz c q j,λc q j=>by rw[x]at j;exact y.kr c q j,λc q j=>H.dw c q j⟩
theorem TS.out {so1:List (Nat × Ob)}{g0:Gh}{fn:FuncId}{T S1:af}{gs G u:Gh}{H I f:World}{p:Act}
  (h:TS P w0 n A g0 α S a w B fn ps assign body (jd jM []).tm T gs G H I b p) (Y:∀c q,gs.fz c q->c < H.heap.size)
  (Z:S1.get 0=some (.fo (LJ w0.heap.size A gs n a.tmps (qh j) j ps assign body (jd jM []).tm (aq so1 N)))) (r:St w0 A u S1 f) (l:Ext A G I u f) :
  ∃d,(Instr.endLoop b).run P f=.ok j d/\∀ex,qC w0 n A g0 w ex (jd jM (S.nx::α.df)) (aq so1 N) ex p d:=by
 have J:=h.al;have dQ:u.ob 0=b:=(l.ob 0 J).trans h.ob;obtain⟨_,y9,⟨g,K,v,L,M,⟨q1,q2,q3,q4,q5,q6,q7⟩,p5,x,O,m,p9⟩,_⟩:=r.cT 0 _ Z (l.al 0 J);rw[dQ]at v L M q1 x O y9;obtain⟨Q,y⟩:∃Q,u.fo b=Q:=⟨_,rfl⟩;rw[y]at v L M x O;obtain⟨d,i⟩:∃d,World.rec f b { K with state:=.exhausted }=d:=⟨_,rfl⟩;have z:d.heap.size=f.heap.size:=by grind[lU]
 have vh:(Instr.endLoop b).run P f=.ok j d:=by
  have:(K.state == .busy)=false:=by rw[q2];cases j<;>rfl
  rw[<-i];simp only[Instr.endLoop,Sem.run_bind,run_getLoop q1,Result.andThen_ok,this,bn_,if_false,AI q1,Sem.run_pure,q3]
 obtain⟨z1,C⟩:=v.move (w':=d) (A':=A) g.fz (by omega) (λc R=>p9 c (by omega)) h.lo (λc R aw h=>by grind[lI]) (λc q _=>by grind[Fq]) (λ_ _ h=>h) (λc q o=>by rw[z];exact v.dw c q o);have C:Cj w0.heap.size A g (aq so1 N) d:=C;have TQ:w0.heap.size<=b:=h.lo b h.PG;have D:Below w0.heap.size w0 d:=by
  refine⟨?_,?_,?_,by grind,λk s=>?_⟩
  ·rw[<-i];exact r.base.os
  ·rw[<-i];exact r.base.tape
  ·rw[<-i];exact r.base.output
  ·rw[<-i];exact (lI (by omega)).trans (r.base.block k s)
 have Iq:Ext A g0 w g d:=by
  refine h.oL.trans ⟨⟨m.al,m.ob,m.cp,m.fz,λc q o=>?_⟩,by have:=l.size;have:=h.Lq;have:=h.hb;omega,λc R U=>?_,λc q o=>?_⟩
  ·rw[<-i,Fq q1,l.cell c q (h.fz1 c q o)];exact World.cell?_of_block (h.hold c (by rw[<-h.hb];exact Y c q o))
  ·have:=h.Lq;have:=h.hb;rw[<-i,lI (λe=>U (by grind)),l.aM c (by omega) U,h.hold c (by omega)]
  ·rcases x c q o with V|V
   ·rcases l.kr c q V with W|W
    ·exact h.fz2 c q W
    ·grind
   ·grind
 have E:cA g d n (jd jM (S.nx::α.df)) p:=by
  have F:=p5.later (z1:Later g f g d);have X:p.tmps=a.tmps:=by rw[<-h.dD]
  refine⟨by rw[X];exact F.size,λt ht=>by rw[X];exact F.tm t ht,F.out,?_,λk s=>?_⟩
  ·show p.defers=(DE.ob S.nx::α.df).map _;rw[h.Cn.df];exact aF_ λk s=>(Cp (m.ob _ (h.Cn.wK k s))).symm
  ·exact m.al _ (h.Cn.wK k s)
 exact⟨d,vh,λex=>⟨rfl,g,C.st D,E,Iq⟩⟩
theorem dN.range {g:Operand}{gid:FuncId}{cap:List AV}{gE so1:List (Nat × Ob)}
  (W:α.ev g=.fn (.func gid) first cap) (X:∀a ∈ first,Pure a) (E:∀a ∈ cap,Pure a)
  (Y:Canon B N m ⟨α.tm,S.nx::α.df⟩ (S.new .df) jM (S.nx::α.df) gE) (Z:S.nx+1<=B) (z:GH ex=some j)
  (hI:∀(A:Nat->Prop) (gs:Gh) (T0:Array Value),(∀k,gs.al k->k < B)->∃r S1,aG P w0 gid (first++[.yl 0]++cap) (aq [(0,.fo (LJ w0.heap.size A gs n T0 .ready none ps assign body (jd jM []).tm (aq gE N)))] 1) r S1 /\
   S1.get 0=some (.fo (LJ w0.heap.size A gs n T0 (qh j) j ps assign body (jd jM []).tm (aq so1 N)))) :
  dN P w0 false n (.rangeFunc g ps assign body) α S ex (jd jM (S.nx::α.df)) (aq so1 N):=by
 intro F mm A g0 a w G M O Q;have jN:F.round=none:=by
  cases h:F.round with
  |none=>rfl
  |some l=>rw[h]at M;cases M
 refine wpIn_rangeFunc λfn Lv=>?_;obtain⟨gs,C,w1,d,b,a1,h⟩:=TS.of (P:=P) (ps:=ps) (assign:=assign) (body:=body) O Q Y Z fn;obtain⟨r,S1,R,WL⟩:=hI A gs a.tmps h.ZD;have o:=Q.ev g;rw[W]at o;obtain⟨H,I,J,Lw,K⟩:=Cm o;have p:∀{l:List AV}{T:Array Value},(∀a ∈ l,Pure a)->mj g0 w l T->mj C d l T:=λhp U=>⟨U.1,λi a x f s=>aN.pure (g:=g0) (λc q D=>h.fz1 c q (h.oL.fz c q D)) (λc q D=>by
   have aw:=O.dw c q D;have:=h.oL.size;rw[<-h.oL.cell c q D];exact World.cell?_of_block (h.hold c (by rw[<-h.hb];omega))) (U.2 i a x f s) (hp a (aa_ f))⟩
 obtain⟨t,u⟩:∃t:Array Value,t=#[.func (.yield b) #[] #[]]:=⟨_,rfl⟩;have L:mj C d (first++[.yl 0]++cap) (H++t++I):=by
  refine lJ (lJ (p X Lw) ⟨by grind,λi a x f s=>?_⟩) (p E K)
  match i with
  |0 =>
   rw[u]at s;simp at f s;subst f s;have:=aN.yl (g:=C) (w:=d) (k:=0) h.al;rw[h.ob]at this;exact this
  |i+1=>simp at f
 have cX:(resolve a.eval (rangeCall g b) 0).run P d=.ok { target:=.fn (.func gid) I,args:=H++t } d:=by
  rw[u];have e1:(rangeCall g b).args.map a.eval=#[.func (.yield b) #[] #[]]:=by simp[rangeCall,Act.eval]
  simp only[resolve,e1,J,Deferred.ofValue]
  rfl
 refine⟨b,_,d,_,d,gid,H++t++I,d,by rw[jN];exact h.Co,cX,λf' _=>G.1 f',R.1 _ d,λV=>(by rw[G.2.1]at V;cases V),(R.2 F (mm - 1) A C _ d G h.ZE L).mono ?_⟩;rintro e w3 ⟨v,TU,rfl,hr3,BR,x7⟩;obtain⟨w4,vh,y⟩:=h.out (j:=j) h.aw WL BR x7;rw[h.dD];refine⟨j,w4,vh,?_⟩;have y:=y ex;cases ex with
 |normal=>obtain rfl:=oJ_ z;exact y
 |ret=>obtain rfl:=oJ_ z;exact wpIn_ret y
 |exit id=>obtain rfl:=oJ_ z;exact wpIn_exit y
 |_=>cases z
end
abbrev fG:=Nat->(Nat->Nat->Prop)->(Nat->Prop)->World->Prop
inductive Ys (P:Program) (w0:World):fG->List (List AV)->Bool->fG->Prop where
 |nil (J:fG):Ys P w0 J [] true J
 |cons {J J1 J':fG}{x:List AV}{xs:List (List AV)}{b:Bool}(h:∀(T:af) (k:Nat),T.get k=some (.fo J)->BP P w0 k x T (.v (.bool true)) (T.set k (some (.fo J1)))) (t:Ys P w0 J1 xs b J'):Ys P w0 J (x::xs) b J'
 |stop {J J':fG}{x:List AV}{xs:List (List AV)}(h:∀(T:af) (k:Nat),T.get k=some (.fo J)->BP P w0 k x T (.v (.bool false)) (T.set k (some (.fo J')))):Ys P w0 J (x::xs) false J'
def Iter (P:Program) (w0:World) (gid:FuncId) (first cap:List AV) (xs:List (List AV)):Prop :=
 ∀(J:fG) (b:Bool) (a:fG),Ys P w0 J xs b a->∃r c,aG P w0 gid (first++[.yl 0]++cap) (aq [(0,.fo J)] 1) r c/\c.get 0=some (.fo a)
section
variable {P:Program}{w0:World}
theorem Ys.split {xs ys:List (List AV)}{b:Bool}{J c:fG}(h:Ys P w0 J (xs++ys) b c):(b=false/\Ys P w0 J xs false c)\/∃a,Ys P w0 J xs true a/\Ys P w0 a ys b c:=by
 induction xs generalizing J with
 |nil=>exact .inr ⟨J,.nil J,h⟩
 |cons x xs f =>
  cases h with
  |cons h t =>
   rcases f t with ⟨d,e⟩|⟨a,d,e⟩
   ·exact .inl ⟨d,.cons h e⟩
   ·exact .inr ⟨a,.cons h d,e⟩
  |stop h=>exact .inl ⟨rfl,.stop h⟩
theorem Ys.one {b:Bool}{J a:fG}(h:Ys P w0 J [x] b a):∀(T:af) (k:Nat),T.get k=some (.fo J)->BP P w0 k x T (.v (.bool b)) (T.set k (some (.fo a))):=by
 cases h with
 |cons h t=>cases t;exact h
 |stop h=>exact h
theorem Ys.RO {b:Bool}{J a:fG}(h:Ys P w0 J [] b a):b=true/\a=J:=by cases h;exact⟨rfl,rfl⟩
end
section
variable {P:Program}{w0:World}{α:AA}{S S':af}{r:AV}
theorem ae.yl {f:QO}{aZ9:List QO}{k:Nat}{args:List AV}{b:Bool}{a:Ob}(h:f.ev α.tm=.yl k) (d:aZ9.map (·.ev α.tm)=args) (e:BP P w0 k args S (.v (.bool b)) (S.set k (some a))):ae P w0 false (.call f aZ9) α S (.v (.bool b)) (S.set k (some a)):=by
 intro n o g;obtain⟨c,u,i,j,rfl,rfl⟩:=lV g;rw[jt]at d;rw[aW]at h;subst d;exact Ir i j h e
end
def adq:QC->Option (Bool × List QI)
 |.skip=>some (false,[])
 |.bc dr l=>some (dr,l)
 |_=>none
theorem Lx {B:Nat}:∀{l:List (Nat × AV)},(∀p ∈ l,ec B p.2)->∀t,ec B (vX (λ_=>.u) l t)
 |[],_,_=>.u
 |p::l,h,t=>by
  show ec B (bE (vX (λ_=>.u) l) p.1 p.2 t);by_cases e:t=p.1
  ·grind[aJ]
  ·rw[aO _ _ e];exact Lx (λq a=>h q (by grind)) t
section
variable {P:Program}{w0:World}{n:Nat}{α aE:AA}{S S':af}{Q:Exit->AA->af->Prop}{ex:Exit}{K:List f_}
def RP {σ T:Type}(P:Program) (w0:World) (n B N:Nat) (jM:List (Nat × AV)) (ds:List DE) (so:σ->List (Nat × Ob)) (I:List T->σ->Prop) (Q:Exit->AA->af->Prop) (K:List f_) (rest:List T):Exit->AA->af->Prop :=
 λex α S=>match ex with
  |.normal=>∃b m,I rest b/\Canon B N m α S [] [] (so b)
  |.ret=>∃a m,Canon B N m α S [] [] a/\ad P w0 false n Q (.out .ret K) (jd jM ds) (aq a N)
  |.exit id=>∃a m,Canon B N m α S [] [] a/\ad P w0 false n Q (.out (.exit id) K) (jd jM ds) (aq a N)
  |_=>False
theorem ad.range {σ T:Type}{x:QO}{ps:List Nat}{qa qb:QC}{dr:Bool}{l:List QI}{gid:FuncId}{cap:List AV}(enc:T->List AV) (L:List T) (B N:Nat) (m0:List (Nat × Nat)) (jM:List (Nat × AV)) (so:σ->List (Nat × Ob)) (I:List T->σ->Prop) (s0:σ)
  (hx:x.ev α.tm=.fn (.func gid) first cap) (ZG:∀a ∈ first,Pure a) (G:∀a ∈ cap,Pure a) (PJ:Iter P w0 gid first cap (L.map enc)) (i:adq qa=some (dr,l))
  (h0:I L s0) (e:Nat.ble (S.nx+1) B=true) (hk:∀p ∈ jM,ec B p.2) (PF:ps.all (Nat.blt · n)=true) (H:∀x,(enc x).length=ps.length/\∀a ∈ enc x,Pure a)
  (J:Canon B N m0 ⟨α.tm,S.nx::α.df⟩ (S.new .df) jM (S.nx::α.df) (so s0))
  (M:∀(x:T) (rest:List T) (s:σ),I (x::rest) s->ad P w0 true n (RP P w0 n B N jM (S.nx::α.df) so I Q K rest) (.bc dr l [.seq qb]) ⟨Eb (vX (λ_=>.u) jM) (ps.zip (enc x)),[]⟩ (aq (so s) N))
  (vh:∀s,I [] s->ad P w0 false n Q (.out .normal K) (jd jM (S.nx::α.df)) (aq (so s) N)):ad P w0 false n Q (.run (.RQ x ps qa qb) K) α S:=by
 intro c hc O;obtain⟨y,pt,z,u,rfl,rfl,rfl,jO,dI⟩:=TV hc;simp only[fP,al_]at O;rw[aW]at hx;have BQ:∀t,ec B ((jd jM []).tm t):=λt=>Lx hk t;have U:∀t ∈ pt,t < n:=λt ht=>by
  have:=aP_.1 PF t (by grind);exact lk this
 have V:∀(R:AA->af->Prop) (E:List PanicEntry->AA->af->Prop) (W:AA) (T:af),(∀D α S,¬ E D α S)->jB P w0 n dr l R E W T->∃dp dL,dN P w0 true n z W T .normal dp dL/\R dp dL:=by
  intro R E W T hE h;unfold adq at i;split at i
  ·injection i with i;injection i with o q;subst o q;obtain⟨dp,dL,r,v⟩:=(h [] [] rfl 0 rfl).resolve_right λ⟨D,aE,S',_,d⟩=>hE _ _ _ d;refine⟨dp,dL,?_,v⟩;intro F m A g a w hF hR hS hA;exact (vY.1 jO).wp (r F m A g a w (qC w0 n A g w .normal dp dL) hF hS hA λa' w' g' o q r=>⟨rfl,g',o,q,r⟩)
  ·injection i with i;injection i with o q;subst o q;rename_i X l';obtain⟨id,ops,rfl,r,jZ⟩:=Ly jO;have v:=h _ _ r;cases X with
   |false =>
    obtain⟨aE,S',f,d⟩:=(v 0 rfl).resolve_right λ⟨D,aE,S',_,d⟩=>hE _ _ _ d;rw[bh_,<-bQ_]at f;exact⟨aE,S',dN.region f,d⟩
   |true =>
    obtain⟨aE,S',f,d⟩:=v 0 rfl;rw[bh_,<-bQ_]at f;have uB:=O.1;simp only[fP,al_]at uB;exact⟨aE,S',dN.draw uB.1 ((al_ _ _).mp ((al_ _ _).mp (jZ rfl)).1).1 f,d⟩
  ·grind
 have key:∀(L:List T) (s:σ),I L s->∃ex j b,GH ex=some j/\ad P w0 false n Q (.out ex K) (jd jM (S.nx::α.df)) (aq b N) /\
   ∀(A:Nat->Prop) (gs:Gh) (T0:Array Value),(∀k,gs.al k->k < B)->Ys P w0 (LJ w0.heap.size A gs n T0 .ready none pt z u (jd jM []).tm (aq (so s) N)) (L.map enc) j.isNone (LJ w0.heap.size A gs n T0 (qh j) j pt z u (jd jM []).tm (aq b N)):=by
  intro L
  induction L with
  |nil=>exactλs Y=>⟨.normal,none,so s,rfl,vh s Y,λA gs T0 _=>.nil _⟩
  |cons x rest ih =>
   intro s Y;have o:=M x rest s Y;obtain⟨dp,dL,q,r⟩:=V _ _ _ _ (λD α S h=>h) o;obtain⟨ex,KQ,RL,v,f⟩:Wp P w0 true n u _ dp dL:=r u dI O.2
   have rn:∀{j:Option Code}{b:List (Nat × Ob)}{m:List (Nat × Nat)},GH ex=some j->Canon B N m KQ RL [] [] b->∀(A:Nat->Prop) (gs:Gh) (T0:Array Value),(∀k,gs.al k->k < B)->∀(T:af) (k:Nat),T.get k=some (.fo (LJ w0.heap.size A gs n T0 .ready none pt z u (jd jM []).tm (aq (so s) N))) ->
     BP P w0 k (enc x) T (.v (.bool j.isNone)) (T.set k (some (.fo (LJ w0.heap.size A gs n T0 (qh j) j pt z u (jd jM []).tm (aq b N))))):=λhj J A gs T0 e T k hT =>
    BP.rnd q v J hj (by grind) (H x).2 U BQ e hT
   cases ex with
   |normal =>
    obtain⟨s',m,d,C⟩:=f;obtain⟨ex,j,b,Z,k2,k3⟩:=ih s' d;exact⟨ex,j,b,Z,k2,λA gs T0 e=>.cons (rn rfl C A gs T0 e) (k3 A gs T0 e)⟩
   |ret =>
    obtain⟨b,m,d,C⟩:=f;exact⟨.ret,_,b,rfl,C,λA gs T0 e=>.stop (rn rfl d A gs T0 e)⟩
   |exit id =>
    obtain⟨b,m,d,C⟩:=f;exact⟨.exit id,_,b,rfl,C,λA gs T0 e=>.stop (rn rfl d A gs T0 e)⟩
   |_=>exact f.elim
 obtain⟨ex,j,b,Z,k2,k3⟩:=key L s0 h0;refine⟨ex,_,_,dN.range (ex:=ex) (so1:=b) hx ZG G J (aq_ e) Z (λA gs T0 e=>PJ _ _ _ (k3 A gs T0 e)),k2⟩
end
section
variable {P:Program}{w0:World}{rd:Bool}{n B:Nat}{α aE:AA}{S S':af}{Q:Exit->AA->af->Prop}{r:AV}{i:QI}{l:List QI}{K:List f_}{V:List (Nat × Nat)}{lg:List (List Nat × List Nat × Bool)}{rs:List Nat}{d:Dt}{q:mz}
theorem ad.eW (a:bG α.tm i.g=some true) (h:a_ P w0 B i.q α S r d) (k:ad P w0 rd n Q (.j6 B V (lg++[d.ns]) rs l K) (bP i.d α r) (eP S d.W d.m)):ad P w0 rd n Q (.j6 B V lg rs (i::l) K) α S :=
 λb c=>qi.op c a h (k b (by grind[gj]))
def isB:mz->Bool
 |.bin ..|.conv ..|.ZH ..|.neg _|.x8 ..|.GM ..|.RR ..|.wL ..|.slice ..|.len ..|.min ..|.max ..|.call ..|.mv ..|.pick ..|.build ..|.rows ..|.not _|.KR ..|.field ..|.extract ..|.RU ..|.KS _=>true
 |_=>false
theorem a_.pure (h:∀T,ae P w0 true q α T r T):a_ P w0 B q α S r ⟨[],[],false⟩:=by
 refineλn o a=>⟨λ_=>rfl,(show iC S [] from λp b=>by grind),λT _ _ _=>?_⟩;rw[show eP T [] false=T from kB];exact (h T n o a).1
theorem ad.cP (a:bG α.tm i.g=some true) (h:∀T,ae P w0 true i.q α T r T) (k:ad P w0 rd n Q (.j6 B V (lg++[([],[],false)]) rs l K) (bP i.d α r) S):ad P w0 rd n Q (.j6 B V lg rs (i::l) K) α S :=
 ad.eW a (a_.pure h) (by rw[show eP S [] false=S from kB];exact k)
theorem ad.WM {e:Bool}(a:bG α.tm i.g=some true) (h:∀T,ae P w0 true i.q α T (.v (.bool e)) T) (b:e=true->ad P w0 rd n Q (.j6 B V (lg++[([],[],false)]) rs l K) (bP i.d α (.v (.bool true))) S)
  (c:e=false->ad P w0 rd n Q (.j6 B V (lg++[([],[],false)]) rs l K) (bP i.d α (.v (.bool false))) S):ad P w0 rd n Q (.j6 B V lg rs (i::l) K) α S:=by
 refine ad.cP a h ?_;cases e with
 |true=>exact b rfl
 |false=>exact c rfl
theorem ad.WN {a:IntKind}{e:Int}(b:bG α.tm i.g=some true) (h:∀T,ae P w0 true i.q α T (.v (.int a e)) T) (k:∀d,d=e->ad P w0 rd n Q (.j6 B V (lg++[([],[],false)]) rs l K) (bP i.d α (.v (.int a d))) S):ad P w0 rd n Q (.j6 B V lg rs (i::l) K) α S:=ad.cP b h (k e rfl)
def Cv (w0:World) (n:Nat) (α:AA) (S:af) (aE:AA) (S':af):Prop :=
 ∀(A:Nat->Prop) (g:Gh) (a:Act) (w:World),St w0 A g S w->cA g w n α a->∃b,St w0 A b S' w/\cA b w n aE a/\Ext A g w b w
theorem dN.cv {c:Code}{ex:Exit}{dp:AA}{dL:af}(h:Cv w0 n α S aE S') (k:dN P w0 rd n c aE S' ex dp dL):dN P w0 rd n c α S ex dp dL:=by
 intro F m A g a w b d f i;obtain⟨j,l,o,p⟩:=h A g a w f i;exact wpIn_mono (k F m A j a w b d l o) λe a w q=>qC.ext p q
theorem ad.cv {c:QC}(h:Cv w0 n α S aE S') (k:ad P w0 rd n Q (.run c K) aE S'):ad P w0 rd n Q (.run c K) α S:=by
 intro c0 a b;obtain⟨ex,dp,dL,d,e⟩:=k c0 a b;exact⟨ex,dp,dL,d.cv h,e⟩
theorem ad.uC (h:Cv w0 n α S aE S') (k:ad P w0 rd n Q (.bc false l K) aE S'):ad P w0 rd n Q (.bc false l K) α S:=by
 intro ops rest v j x;refine (k ops rest v j x).imp (λ⟨dp,dL,b,c⟩=>⟨dp,dL,λF m A g a w R d e f i=>?_,c⟩) λ⟨y,dp,dL,b,c⟩=>⟨y,dp,dL,λF m A g a w R d e f i=>?_,c⟩
 ·obtain⟨o,p,q,k3⟩:=h A g a w e f;exact b F m A o a w R d p q λr w' s q1 t u=>i r w' s q1 t (k3.trans u)
 ·obtain⟨o,p,q,k3⟩:=h A g a w e f;exact b F m A o a w R d p q λr w' s q1 t u=>i r w' s q1 t (k3.trans u)
theorem ad.BS {b:QC}(h:Cv w0 n α S aE S') (k:ad P w0 rd n Q (.out .normal (.seq b::K)) aE S'):ad P w0 rd n Q (.out .normal (.seq b::K)) α S:=ad.cv (c:=b) h k
theorem Cv.freeze {k fz m:Nat}{a:AV}(R:S.get k=some (.arr sz rows fz ex)) (L:α.tm t=a) (D:a=.gr k sz m\/∃c,a=.ob k sz 0 m c) (T:m=rows.length) (U:fz<=m) :
  Cv w0 n α S ⟨bE α.tm t (.sl false rows),α.df⟩ (S.set k none):=by
 subst T;intro A g q w E F;have G:∀{r:Gh}{o:Option Ob},St w0 A r (S.set k o) w->St w0 A r (S.set k none) w:=λ{_ o} h=>h.forget (ac_ _) λj p b _=>by
  have b:bE S.get k none j=some p:=b;by_cases e:j=k
  ·grind[aJ]
  ·rw[aO _ _ e]at b;show bE S.get k o j=some p;rw[aO _ _ e];exact b
 have put:∀{r:Gh},Later g w r w->(t < n->aN r w (.sl false rows) (q.tmps.getD t undef))->cA r w n ⟨bE α.tm t (.sl false rows),α.df⟩ q:=by
  intro r V f;have d:=F.later V;refine⟨d.size,λs B=>?_,λs B=>?_,d.df,d.wK⟩
  ·show aN r w (bE α.tm t _ s) _;by_cases e:s=t
   ·grind[aJ]
   ·rw[aO _ _ e];exact d.tm s B
  ·show bE α.tm t _ s=.u;by_cases e:s=t
   ·subst e;have y:=F.out s B;rw[L]at y;rcases D with h|⟨c,h⟩<;>(rw[h]at y;cases y)
   ·rw[aO _ _ e];exact d.out s B
 by_cases M:t < n
 ·have f:=F.tm t M;rw[L]at f;by_cases H:g.al k
  ·obtain⟨d,y⟩:=E.freeze R H U (by omega);refine⟨_,G y,put d.toLater λ_=>?_,d⟩;have zu:=f.later d.toLater;obtain⟨k2,k3,N,W,X,p2,p3,p4,I,p6,p7⟩:=y.cT k (.arr sz rows rows.length ex) (aJ _ _ _) (d.al k H);have key:∀c,rows.length<=c->aN (g.TN (g.ob k) (rows.length*sz)) w (.sl false rows) (.slice (some ⟨g.ob k,0,none⟩) rows.length c):=by
    intro c O;by_cases P:rows=[]
    ·subst P;exact .nil (λh=>by grind)
    ·refine .sl (sz:=sz) (val:=λi j=>N.getD (i*sz+j) undef) P (λh=>by grind) (by omega) (λi row z=>(I i row z).1) (λi j row a z b=>?_) (λi j row a z b=>?_)
     ·obtain⟨q1,J⟩:=I i row z;obtain⟨x,u,Q⟩:=J j a b;have Y:j < sz:=by grind
      have Z:=(ar_.1 z).1;refine⟨.inr ⟨rfl,?_⟩,?_⟩
      ·rw[aD_];exact o3 Z Y
      ·rw[aD_];rw[cell_of_row w (g.ob k) _ N W (0,0) X,u];simp[aT_,u]
     ·obtain⟨q1,J⟩:=I i row z;obtain⟨x,u,Q⟩:=J j a b;simp only[aT_,u,bz_];exact Q
   obtain⟨v,K⟩:∃v,q.tmps.getD t undef=v:=⟨_,rfl⟩;rw[K]at f ⊢;rcases D with rfl|⟨c,rfl⟩
   ·rcases r_ f with ⟨h,A',rfl⟩|⟨C,c,rfl,u,l⟩
    ·have:rows=[]:=bt_.1 h;subst this;exact .nil (λh=>by grind)
    ·grind
   ·cases f with
    |ob C O hp u l=>rw[aW_];exact key _ l
  ·refine⟨g,E.forget (ac_ _) λj p b _=>?_,put (Later.refl g w) λ_=>?_,Ext.refl ..⟩
   ·have b:bE S.get k none j=some p:=b;by_cases e:j=k
    ·grind
    ·grind[aO]
   ·obtain⟨v,K⟩:∃v,q.tmps.getD t undef=v:=⟨_,rfl⟩;rw[K]at f ⊢;rcases D with rfl|⟨c,rfl⟩
    ·rcases r_ f with ⟨h,A',rfl⟩|⟨C,c,rfl,u,l⟩
     ·have:rows=[]:=bt_.1 h;subst this;exact .nil (λh=>by grind)
     ·grind
    ·cases f with
     |ob C O hp u l=>exact absurd C H
 ·refine⟨g,E.forget (ac_ _) λj p b _=>?_,put (Later.refl g w) λh=>absurd h M,Ext.refl ..⟩;have b:bE S.get k none j=some p:=b;by_cases e:j=k
  ·grind[aJ]
  ·grind[aO]
def Rv (w0:World) (r:AV) (S:af) (b:AV) (S':af):Prop:=∀(A:Nat->Prop) (g0 g:Gh) (c w:World) (v:Value),St w0 A g S w->aN g w r v->∃a,St w0 A a S' w/\aN a w b v/\Ext A g w a w
theorem ae.rv {b:AV}{S1:af}(h:ae P w0 false q α S r S') (k:Rv w0 r S' b S1):ae P w0 false q α S b S1:=by
 intro n o c F m A g a w d R e f i j;refine h n o c F m A g a w d R e f i λv w' l p s t=>?_;obtain⟨u,x,y,k3⟩:=k A g l w w' v s p;exact j v w' u y x (t.trans k3)
theorem cA.slot {b:AV}(h:cA g w n α a) (f:α.tm t ≠ .u) (i:aN g w b (a.tmps.getD t undef)):cA g w n ⟨bE α.tm t b,α.df⟩ a:=by
 have j:t < n:=by
  rcases bo_ t n with d|d
  ·grind
  ·exact absurd (h.out t d) f
 refine⟨h.size,λs c=>?_,λs c=>?_,h.df,h.wK⟩
 ·show aN g w (bE α.tm t b s) _;by_cases e:s=t
  ·grind[aJ]
  ·rw[aO _ _ e];exact h.tm s c
 ·show bE α.tm t b s=.u;rw[aO _ _ (by omega)];exact h.out s c
theorem LB {k len:Nat}{b:QO}{o:Oper}(B:res P.toTables o.op=some (.append sz by_ (.t t) b)) (h1:α.tm t=.gr k sz len) (L:S.get k=some (.arr sz rows 0 ex)) (V:len=rows.length)
  (W:∀c,b.ev (bE α.tm t c)=b.ev α.tm) (X:kA S (b.ev α.tm)=some (x::more)) (Y:kA (S.set k none) (b.ev α.tm)=some (x::more)) (h3:∀row ∈ x::more,row.length=sz/\row.all dh=true) (h4:(len+(x::more).length)*by_<=35184372088832) :
  iY P w0 n o α S (.gr S.nx sz (len+(x::more).length)) ((S.set k none).new (.arr sz (rows++x::more) 0 false)):=by
 intro F C A g a w D R E G f H;have M:t < n:=by
  rcases bo_ t n with h|h
  ·grind
  ·have:=f.out t h;rw[h1]at this;cases this
 have d:=f.tm t M;rw[h1]at d;obtain⟨v,l⟩:∃v,a.tmps.getD t undef=v:=⟨_,rfl⟩;have I:α.tm t ≠ .u:=by grind
 rw[l]at d;rcases r_ d with ⟨h,A',rfl⟩|⟨N,c,rfl,Z,q⟩
 ·have O:rows=[]:=bt_.1 (by omega);subst O;have r:cA g w n ⟨bE α.tm t (.sl true []),α.df⟩ a:=f.slot I (by rw[l];exact .nil λ_=>rfl);have Q:St w0 A g (S.set k none) w:=G.forget (ac_ _) λj p J _=>by
   have J:bE S.get k none j=some p:=J;by_cases e:j=k
   ·grind[aJ]
   ·grind[aO]
  have i:=ae.Il (P:=P) (w0:=w0) (dr:=false) (α:=⟨bE α.tm t (.sl true []),α.df⟩) (S:=S.set k none) (sz:=sz) (by_:=by_) (a:=.t t) (b:=b) (rows:=[]) (aJ _ _ _) (by grind) (by simp) (λrow d=>(h3 row d).1) (by grind) n o B;refine i F C A g a w D R E Q r λv w' s u y k3=>H v w' s ?_ y k3;subst h;cases u with
  |ob q1 T U K z=>rw[aW_];exact .gr q1 (by have h:=K rfl;rw[aD_]at h;exact h) z
 ·have r:cA g w n ⟨bE α.tm t (.ob k sz 0 len none),α.df⟩ a:=f.slot I (by
   rw[l];have:=aN.ob (g:=g) (w:=w) (k:=k) (sz:=sz) (off:=0) (len:=len) (c:=c) (cx:=none) N (λm h=>by grind) (by omega) (λ_=>by omega) q
   rwa [aW_]at this)
  have i:=ae.amb (P:=P) (w0:=w0) (dr:=false) (α:=⟨bE α.tm t (.ob k sz 0 len none),α.df⟩) (S:=S) (sz:=sz) (by_:=by_) (a:=.t t) (b:=b) (k:=k) (fz:=0) (ex:=ex) (rows:=rows) (aJ _ _ _) L (by grind) (ax_ _) (by omega) h3 h4 n o B;rw[aQ_ (by omega)]at i;refine i F C A g a w D R E G r λv w' s u y k3=>H v w' s ?_ y k3;cases u with
  |ob q1 T U K z=>rw[aW_];exact .gr q1 (by grind) z
theorem ae.im {k len:Nat}{b:QO}(h1:α.tm t=.gr k sz len) (a:S.get k=some (.arr sz rows 0 ex)) (d:len=rows.length) (e:∀c,b.ev (bE α.tm t c)=b.ev α.tm) (f:kA S (b.ev α.tm)=some (x::more)) (g:kA (S.set k none) (b.ev α.tm)=some (x::more))
  (h3:∀row ∈ x::more,row.length=sz/\row.all dh=true) (h4:(len+(x::more).length)*by_<=35184372088832):ae P w0 false (.append sz by_ (.t t) b) α S (.gr S.nx sz (len+(x::more).length)) ((S.set k none).new (.arr sz (rows++x::more) 0 false)) :=
 λn o h=>LB h h1 a d e f g h3 h4
section
variable {ρ:Hd}{T:Type}{f:T->List AV}{acc:List T}{x:T}
theorem ad.app {a:Option Nat}{d:Option (Nat × Bool)}{b:QO}{k len:Nat}(m:bG α.tm d=some true) (h1:α.tm t=.gr k sz len) (o:S.get k=some (.arr sz (ρ.h (List.map f) acc) 0 ex)) (s:len=acc.length) (p:∀c,b.ev (bE α.tm t c)=b.ev α.tm)
  (q:kA S (b.ev α.tm)=some [f x]) (r:kA (S.set k none) (b.ev α.tm)=some [f x]) (u:(f x).length=sz) (v:(f x).all dh=true) (w:(len+1)*by_<=35184372088832)
  (kk:∀g j,g=acc++[x]->j=g.length->ad P w0 rd n Q (.bc false l K) (bP a α (.gr S.nx sz j)) ((S.set k none).new (.arr sz (ρ.h (List.map f) g) 0 false))):ad P w0 rd n Q (.bc false (⟨a,d,.append sz by_ (.t t) b⟩::l) K) α S:=by
 have hlen:(ρ.h (List.map f) acc).length=acc.length:=au;have h:=kk _ _ rfl rfl;have e:ρ.h (List.map f) acc++[f x]=ρ.h (List.map f) (acc++[x]):=by rw[ρ.eq,ρ.eq,aM_];rfl
 rw[<-e,show (acc++[x]).length=len+[f x].length by grind]at h;exact ad.op (i:=⟨a,d,.append sz by_ (.t t) b⟩) m (ae.im h1 o (by omega) p q r (by grind) (by grind)) h
theorem aP.grow {S:af}{k len:Nat}(c:S.get k=some (.arr sz (ρ.h (List.map f) acc) 0 ex)) (l:len=acc.length):aP S (.gr k sz len) (aR ρ f false acc):=by
 rw[bX];rw[ρ.eq]at c;refine .gr c (by grind) (by grind) (λi row g b d=>?_) (λi j row g a m b d h e=>?_)
 ·grind
 ·rw[d]at b;rw[oJ_ b,h]at e;rw[oJ_ e];exact .refl _
end
end
end Go.Proofs.YtbpabjmnhggajaaGreat
