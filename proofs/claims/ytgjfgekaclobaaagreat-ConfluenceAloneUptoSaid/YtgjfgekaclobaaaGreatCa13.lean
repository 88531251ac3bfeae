import Derived.Test.YtgjfgekaclobaaaGreatCa12
namespace Go.Proofs.YtgjfgekaclobaaaGreat
set_option linter.unusedVariables false
set_option linter.unusedSimpArgs false
open Go.RowKit
structure wL (z:Nat) (A:Nat->Prop) (g:Gh) (S:ad) (w:World):Prop where
 up:∀ b,w.heap.size<=b->A b
 lo:∀ b,A b->z<=b
 al:∀ k,g.al k->k < S.nx
 bR:∀ k o,S.get k=some o->g.al k->A (g.ob k)/\g.ob k < w.heap.size/\dA g w (g.ob k) (g.cp k) o
 inj:∀ j k o p,S.get j=some o->S.get k=some p->g.al j->g.al k->g.ob j=g.ob k->j=k
 cC:∀ b o,g.fz b o->b < w.heap.size
 nS:∀ b o,b < z->g.fz b o
 ic:∀ k J,S.get k=some (.fo J)->g.al k->∀ c,g.fo (g.ob k) c->A c/\c < w.heap.size
 jW:∀ k J j o,S.get k=some (.fo J)->g.al k->S.get j=some o->g.al j->j ≠ k->¬ g.fo (g.ob k) (g.ob j)
 lV:∀ j k J J',S.get j=some (.fo J)->S.get k=some (.fo J')->g.al j->g.al k->j=k
def Gh.Fp (g:Gh) (Z:Nat->Nat->Prop):Gh:=⟨g.ob,g.cp,g.al,Z,g.fo⟩
section
variable {w0:World}{z:Nat}{A A':Nat->Prop}{g:Gh}{S:ad}{w w':World}
theorem St.free (h:St w0 A g S w):wL w0.heap.size A g S w:=⟨h.up,h.lo,h.al,h.bR,h.inj,h.cC,h.nS,h.ic,h.jW,h.lV⟩
theorem wL.st (h:wL w0.heap.size A g S w) (hb:Below w0.heap.size w0 w):St w0 A g S w:=⟨hb,h.up,h.lo,h.al,h.bR,h.inj,h.cC,h.nS,h.ic,h.jW,h.lV⟩
theorem wL.move (h:wL z A g S w) (Z:Nat->Nat->Prop) (hs:w.heap.size<=w'.heap.size) (up:∀ b,w'.heap.size<=b->A' b) (lo:∀ b,A' b->z<=b)
  (hB:∀ c,A c->c < w.heap.size->((∃ k o,S.get k=some o/\g.al k/\c=g.ob k)\/∃ k J,S.get k=some (.fo J)/\g.al k/\g.fo (g.ob k) c)->A' c/\w'.heap[c]?=w.heap[c]?/\∀ q,Z c q->g.fz c q)
  (hc:∀ b q,g.fz b q->w'.cell? ⟨b,q,none⟩=w.cell? ⟨b,q,none⟩) (hz:∀ b q,g.fz b q->Z b q) (zlt:∀ b q,Z b q->b < w'.heap.size):Later g w (g.Fp Z) w'/\wL z A' (g.Fp Z) S w':=by
 have hL:Later g w (g.Fp Z) w':=⟨fun _ h=>h,fun _ _=>rfl,fun _ _=>rfl,hz,hc⟩
 refine⟨hL,up,lo,h.al,fun k o hk ha=>?_,h.inj,zlt,fun b q hb=>hz b q (h.nS b q hb),fun k J hk ha c hc=>?_,h.jW,h.lV⟩
 ·obtain⟨h1,h2,h3⟩:=h.bR k o hk ha
  obtain⟨h4,h5,h6⟩:=hB _ h1 h2 (.inl ⟨k,o,hk,ha,rfl⟩)
  refine⟨h4,Nat.lt_of_lt_of_le h2 hs,h3.later hL h5 h6 fun J hJ=>⟨rfl,hs,fun c hc=>?_,fun c q hc hq=>?_⟩⟩
  ·subst hJ
   obtain⟨k1,k2⟩:=h.ic k J hk ha c hc
   exact (hB c k1 k2 (.inr ⟨k,J,hk,ha,hc⟩)).2.1
  ·subst hJ
   obtain⟨k1,k2⟩:=h.ic k J hk ha c hc
   exact (hB c k1 k2 (.inr ⟨k,J,hk,ha,hc⟩)).2.2 q hq
 ·obtain⟨k1,k2⟩:=h.ic k J hk ha c hc
  exact⟨(hB c k1 k2 (.inr ⟨k,J,hk,ha,hc⟩)).1,Nat.lt_of_lt_of_le k2 hs⟩
theorem wL.inA (h:wL z A g S w) {c:Nat}(hc:(∃ k o,S.get k=some o/\g.al k/\c=g.ob k)\/∃ k J,S.get k=some (.fo J)/\g.al k/\g.fo (g.ob k) c):A c/\c < w.heap.size:=by
 rcases hc with ⟨k,o,h1,h2,rfl⟩|⟨k,J,h1,h2,h3⟩
 ·exact⟨(h.bR k o h1 h2).1,(h.bR k o h1 h2).2.1⟩
 ·exact h.ic k J h1 h2 c h3
end
structure GL (gs gb:Gh):Prop where
 al:∀ k,gs.al k->gb.al k
 ob:∀ k,gs.al k->gb.ob k=gs.ob k
 cp:∀ k,gs.al k->gb.cp k=gs.cp k
 fz:∀ b q,gs.fz b q->gb.fz b q
def LJ (z:Nat) (A:Nat->Prop) (gs:Gh) (n:Nat) (T0:Array Value) (st:LoopState) (lU:Option Code) (ps:Array Tmp) (assign body:Code) (f0:Nat->AV) (S:ad):Nat->(Nat->Nat->Prop)->(Nat->Prop)->World->Prop :=
 fun b Z B w=>∃ (gb:Gh) (L:Loop),wL z (fun c=>(B c/\c ≠ b)\/w.heap.size<=c) gb S w/\B b/\(∀ c,B c->A c/\c < w.heap.size) /\
  (w.heap[b]?=some (.loop L)/\L.state=st/\L.pending=lU/\L.params=ps/\L.assign=assign/\L.body=body/\L.tmps=T0)/\bN gb w n ⟨f0,[]⟩ { tmps:=T0,defers:=[] } /\
  (∀ c q,gb.fz c q->Z c q\/B c)/\(∀ c q,B c->Z c q->gb.fz c q)/\GL gs gb/\∀ c,w.heap.size<=c->A c
section
variable {z:Nat}{A:Nat->Prop}{gs:Gh}{n:Nat}{T0:Array Value}{st:LoopState}{lU:Option Code}{ps:Array Tmp}{assign body:Code}{f0:Nat->AV}{S:ad}
theorem LJ.ok:JF (LJ z A gs n T0 st lU ps assign body f0 S):=by
 rintro b Z Z' B w w' ⟨gb,L,h1,h2,h3,h4,h5,h6,h7,h8,h9⟩ hZ hZB wM kI bh
 have hc:∀ c q,gb.fz c q->w'.cell? ⟨c,q,none⟩=w.cell? ⟨c,q,none⟩:=fun c q hq=>(h6 c q hq).elim (kI c q) fun hB=>World.cell?_of_block (wM c hB)
 have inB:∀ c,((B c/\c ≠ b)\/w.heap.size<=c)->c < w.heap.size->B c/\c ≠ b:=fun c hc aA=>hc.resolve_right (by omega)
 obtain⟨k1,k2⟩:=h1.move (w':=w') (A':=fun c=>(B c/\c ≠ b)\/w'.heap.size<=c) gb.fz bh (fun c hc=>.inr hc) (fun c hc=>h1.lo c (hc.imp id fun h=>Nat.le_trans bh h))
  (fun c hA aA _=>⟨.inl (inB c hA aA),wM c (inB c hA aA).1,fun _ h=>h⟩) hc (fun _ _ h=>h) (fun c q hq=>Nat.lt_of_lt_of_le (h1.cC c q hq) bh)
 exact⟨gb,L,k2,h2,fun c hc=>⟨(h3 c hc).1,Nat.lt_of_lt_of_le (h3 c hc).2 bh⟩,⟨(wM b h2).trans h4.1,h4.2⟩,h5.later k1,fun c q hq=>(h6 c q hq).imp (hZ c q) id,fun c q hB hq=>h7 c q hB (hZB c q hB hq),h8,fun c hc=>h9 c (Nat.le_trans bh hc)⟩
end
def sE (f:Nat->AV):List (Nat × AV)->Nat->AV
 |[]=>f
 |p::l=>sE (a8 f p.1 p.2) l
section
variable {P:Program}{w0:World}{n:Nat}{T0:Array Value}{ps:Array Tmp}{assign body:Code}{f0:Nat->AV}{S bT Cs:ad}{bE yG:AA}{ex:Exit}{x:List AV}{B N:Nat}{m:List (Nat × Nat)}{so:List (Nat × Ob)}
theorem Fq {g:Gh}{w:World}:∀ {l:List (Nat × AV)}{ys:List (Nat × Value)}{f:Nat->AV}{T:Array Value},bN g w n ⟨f,[]⟩ { tmps:=T,defers:=[] }->l.map (·.1)=ys.map (·.1)->(∀ p ∈ l,p.1 < n) ->
  (∀ (i:Nat) (p:Nat × AV) (y:Nat × Value),l[i]?=some p->ys[i]?=some y->aH g w p.2 y.2)->bN g w n ⟨sE f l,[]⟩ { tmps:=ys.foldl (fun T (t,a)=>T.setIfInBounds t a) T,defers:=[] }
 |[],[],f,T,h,_,_,_=>h
 |p::l,y::ys,f,T,h,hl,hn,hr=>by
  simp only [List.map_cons,List.cons.injEq] at hl
  have h1:bN g w n ⟨a8 f p.1 p.2,[]⟩ { tmps:=T.setIfInBounds p.1 y.2,defers:=[] }:=h.put (hn p (by simp)) (hr 0 p y rfl rfl)
  have h2:bN g w n ⟨a8 f p.1 p.2,[]⟩ { tmps:=T.setIfInBounds y.1 y.2,defers:=[] }:=by rw [<-hl.1];exact h1
  rw [sE,List.foldl_cons]
  exact Fq h2 hl.2 (fun q hq=>hn q (by simp [hq])) fun i q v h3 h4=>hr (i+1) q v (by simpa using h3) (by simpa using h4)
 |[],y::ys,f,T,h,hl,_,_=>by simp at hl
 |p::l,[],f,T,h,hl,_,_=>by simp at hl
def tR:Exit->Option (Option Code)
 |.normal=>some none
 |.ret=>some (some .ret)
 |.exit id=>some (some (.exit id))
 |_=>none
def lG (j:Option Code):LoopState:=match j with|none=>.ready|some _=>.done
theorem run_getLoop {w:World}{b:Nat}{L:Loop}(h:w.heap[b]?=some (.loop L)):(Instr.getLoop b).run P w=.ok L w:=by
 simp [Instr.getLoop,getObj,Sem.run,h]
def World.rec (w:World) (b:Nat) (L:Loop):World:={ w with heap:=w.heap.setIfInBounds b (.loop L) }
theorem je {w:World}{b:Nat}{L:Loop}:(World.rec w b L).heap.size=w.heap.size:=by simp [World.rec]
theorem iW {w:World}{b c:Nat}{L:Loop}(h:c ≠ b):(World.rec w b L).heap[c]?=w.heap[c]?:=by
 simp only [World.rec,Array.getElem?_setIfInBounds]
 rw [if_neg (Ne.symm h)]
theorem zZ {w:World}{b:Nat}{L:Loop}(h:b < w.heap.size):(World.rec w b L).heap[b]?=some (.loop L):=by simp [World.rec,Array.getElem?_setIfInBounds,h]
theorem z6 {w:World}{b:Nat}{L L':Loop}(h:w.heap[b]?=some (.loop L')) (c q:Nat):(World.rec w b L).cell? ⟨c,q,none⟩=w.cell? ⟨c,q,none⟩:=by
 by_cases e:c=b
 ·subst e
  have aA:c < w.heap.size:=by
   rcases Nat.lt_or_ge c w.heap.size with h1|h1
   ·exact h1
   ·rw [Array.getElem?_eq_none h1] at h;cases h
  simp [World.cell?,zZ aA,h]
 ·exact World.cell?_of_block (iW e)
theorem uY {w:World}{b:Nat}{L L':Loop}(h:w.heap[b]?=some (.loop L')):(setObj b (.loop L)).run P w=.ok () (World.rec w b L):=by
 simp [setObj,Sem.run,h,World.rec]
theorem Ext.mono {A A':Nat->Prop}{g g':Gh}{w w':World}(h:Ext A g w g' w') (hs:∀ b,A b->A' b):Ext A' g w g' w' :=
 { h.toLater with size:=h.size,a7:=fun b hb hA=>h.a7 b hb fun h=>hA (hs b h),gF:=fun b q hq=>(h.gF b q hq).imp id (hs b) }
theorem St.Y6 {A:Nat->Prop}{g:Gh}{w:World}(h:St w0 A g S w) {b:Nat}{L L':Loop}(hb:w.heap[b]?=some (.loop L')) (hA:¬ A b) (h0:w0.heap.size<=b):Later g w g (World.rec w b L)/\St w0 A g S (World.rec w b L):=by
 have aA:b < w.heap.size:=by
  rcases Nat.lt_or_ge b w.heap.size with h1|h1
  ·exact h1
  ·rw [Array.getElem?_eq_none h1] at hb;cases hb
 obtain⟨h1,h2⟩:=h.free.move (w':=World.rec w b L) (A':=A) g.fz (by rw [je];exact Nat.le_refl _) (fun c hc=>h.up c (by rw [je] at hc;exact hc)) h.lo (fun c hc _ _=>⟨hc,iW (fun e=>hA (by rw [<-e];exact hc)),fun _ h=>h⟩)
  (fun c q _=>z6 hb c q) (fun _ _ h=>h) (fun c q hq=>by rw [je];exact h.cC c q hq)
 exact⟨h1,h2.st ⟨h.base.os,h.base.tape,h.base.output,by rw [je];exact h.base.size,fun k hk=>(iW (by omega)).trans (h.base.block k hk)⟩⟩
theorem oo.rnd (ha:cu P w0 true n assign ⟨sE f0 (ps.toList.zip x),[]⟩ S .normal bE bT) (hb:cu P w0 true n body bE bT ex yG Cs) (hC:Canon B N m yG Cs [] [] so) {j:Option Code}(hj:tR ex=some j)
  (hx:x.length=ps.size) (hp:∀ a ∈ x,Pure a) (A9:∀ t ∈ ps,t < n) (A_:∀ t,dg B (f0 t)) {A:Nat->Prop}{gs:Gh}(hB:∀ k,gs.al k->k < B)
  {T:ad}{k:Nat}(hT:T.get k=some (.fo (LJ w0.heap.size A gs n T0 .ready none ps assign body f0 S))) :
  oo P w0 k x T (.v (.bool j.isNone)) (T.set k (some (.fo (LJ w0.heap.size A gs n T0 (lG j) j ps assign body f0 (au so N))))):=by
 intro F mm A2 g aQ w hF hS aO hA
 obtain⟨k2,k3,⟨gb,L,h1,h2,h3,⟨sF,N7,hL3,Y7,hL5,hL6,hL7⟩,h5,h6,h7,h8,h9⟩,_⟩:=hS.bR k _ hT aO
 obtain⟨b,Ba⟩:∃ b,g.ob k=b:=⟨_,rfl⟩
 rw [Ba] at k2 k3 h1 h2 h3 sF h6 h7
 obtain⟨Bf,DD⟩:∃ Bf,g.fo b=Bf:=⟨_,rfl⟩
 rw [DD] at h1 h2 h3 h6 h7
 have N8:w0.heap.size<=b:=hS.lo b k2
 have aA:b < w.heap.size:=k3
 have JP:∀ c,Bf c->A2 c/\c < w.heap.size:=fun c hc=>hS.ic k _ hT aO c (by rw [Ba,DD];exact hc)
 obtain⟨Z,hZ⟩:∃ Z:Nat->Nat->Prop,Z=fun c q=>gb.fz c q\/g.fz c q:=⟨_,rfl⟩
 obtain⟨Ab,wN⟩:∃ Ab:Nat->Prop,Ab=fun c=>(Bf c/\c ≠ b)\/w.heap.size<=c:=⟨_,rfl⟩
 rw [<-wN] at h1
 have Qv:∀ c,Ab c->c < w.heap.size->Bf c/\c ≠ b:=fun c hc aA=>by rw [wN] at hc;exact hc.resolve_right (by omega)
 have N9:¬ Ab b:=by rw [wN];rintro (h|h);exact h.2 rfl;omega
 obtain⟨m1,m2⟩:=h1.move (w':=w) (A':=Ab) Z (Nat.le_refl _) h1.up h1.lo (fun c hc aA _=>⟨hc,rfl,fun q hq=>by
   rw [hZ] at hq
   exact hq.elim id fun h=>h7 c q (Qv c hc aA).1 h⟩) (fun _ _ _=>rfl) (fun _ _ h=>by rw [hZ];exact .inl h) (fun c q hq=>by
   rw [hZ] at hq
   exact hq.elim (h1.cC c q) (hS.cC c q))
 have cQ:=m2.st hS.base
 have an1:(gb.Fp Z).fz=Z:=rfl
 have DF:bN (gb.Fp Z) w n ⟨sE f0 (ps.toList.zip x),[]⟩ { tmps:=(ps.toList.zip aQ.toList).foldl (fun T (t,a)=>T.setIfInBounds t a) T0,defers:=[] }:=by
  refine Fq (h5.later m1) ?_ (fun p hp=>A9 _ (by simpa using (List.of_mem_zip hp).1)) (fun i p y N_ hy=>?_)
  ·have e1:aQ.toList.length=x.length:=by rw [Array.length_toList];exact hA.1
   rw [List.map_fst_zip (by rw [Array.length_toList];omega),List.map_fst_zip (by rw [e1,Array.length_toList];omega)]
  ·rw [List.getElem?_zip_eq_some] at N_ hy
   have hr:=hA.2 i p.2 y.2 N_.2 (by rw [<-Array.getElem?_toList];exact hy.2)
   exact aH.pure (g:=g) (fun c q hq=>by show Z c q;rw [hZ];exact .inr hq) (fun _ _ _=>rfl) hr (hp _ (List.mem_of_getElem? N_.2))
 have aY:aQ.size=L.params.size:=by rw [hA.1,hx,Y7]
 refine⟨b,L.fn,(ps.toList.zip aQ.toList).foldl (fun T (t,a)=>T.setIfInBounds t a) T0,assign,body,?_,?_⟩
 ·rw [Ba]
  simp only [Instr.yield,Sem.run_bind,run_getLoop sF,Result.andThen_ok,aY,ne_eq,not_true_eq_false,if_false,Sem.run_pure,hL5,hL6,hL7,Y7]
  congr 3
  rw [<-Array.foldl_toList,Array.toList_zip]
 ·have Iq:gU (F.inRound b):=hF.inRound b
  have Ir:(F.inRound b).round.isSome=true:=rfl
  refine roundIn_of_wpIn (hF.1 _) ?_
  refine wpIn_mono (ha (F.inRound b) mm Ab _ _ w Iq Ir cQ DF) ?_
  rintro e1 a1 w1 ⟨rfl,g1,s1,r1,x1⟩
  have eB:w1.heap[b]?=some (.loop L):=(x1.a7 b aA N9).trans sF
  have Fs:b < w1.heap.size:=Nat.lt_of_lt_of_le aA x1.size
  refine⟨World.rec w1 b { L with state:=.busy },?_,?_⟩
  ·simp only [Instr.beginRound,Sem.run_bind,run_getLoop eB,Result.andThen_ok,uY eB,N7,Sem.run_pure]
  obtain⟨y1,y2⟩:=s1.Y6 (L:={ L with state:=.busy }) eB N9 N8
  refine wpIn_mono (hb (F.inRound b) mm Ab g1 a1 _ Iq Ir y2 (r1.later y1)) ?_
  rintro e2 a2 w2 ⟨rfl,g2,s2,r2,x2⟩
  have eg:w2.heap[b]?=some (.loop { L with state:=.busy }):=(x2.a7 b (by rw [je];exact Fs) N9).trans (zZ Fs)
  have z7:b < w2.heap.size:=Nat.lt_of_lt_of_le (by rw [je];exact Fs) x2.size
  have Ct:w.heap.size<=w2.heap.size:=Nat.le_trans x1.size (by have:=x2.size;rw [je] at this;exact this)
  obtain⟨w3,Is⟩:∃ w3,World.rec w2 b { L with state:=lG j,pending:=j }=w3:=⟨_,rfl⟩
  obtain⟨u1,u2⟩:=s2.Y6 (L:={ L with state:=lG j,pending:=j }) eg N9 N8
  rw [Is] at u1 u2
  have Y8:w3.heap.size=w2.heap.size:=by rw [<-Is];exact je
  have kM:(Instr.endRound b j).run P w2=.ok (.bool j.isNone) w3:=by
   rw [<-Is]
   cases j<;>simp only [Instr.endRound,Sem.run_bind,run_getLoop eg,Result.andThen_ok,Sem.run_pure,uY eg]<;>rfl
  have post:∃ v g',Ending.returned (.bool j.isNone)=.returned v/\aH g' w3 (.v (.bool j.isNone)) v/\St w0 A2 g' (T.set k (some (.fo (LJ w0.heap.size A gs n T0 (lG j) j ps assign body f0 (au so N))))) w3/\Ext A2 g w g' w3:=by
   have kI:∀ c q,g.fz c q->w3.cell? ⟨c,q,none⟩=w.cell? ⟨c,q,none⟩:=fun c q hq=>by
    have TL:(gb.Fp Z).fz c q:=by show Z c q;rw [hZ];exact .inr hq
    rw [u1.cell c q (x2.fz c q (y1.fz c q (x1.fz c q TL))),x2.cell c q (y1.fz c q (x1.fz c q TL)),y1.cell c q (x1.fz c q TL),x1.cell c q TL]
   have TM:∀ c,c < w.heap.size->¬ Ab c->c ≠ b->w3.heap[c]?=w.heap[c]?:=fun c hc hA a_=>by
    rw [<-Is,iW a_,x2.a7 c (by rw [je];exact Nat.lt_of_lt_of_le hc x1.size) hA,iW a_,x1.a7 c hc hA]
   obtain⟨B',DG⟩:∃ B':Nat->Prop,B'=fun c=>Bf c\/(w.heap.size<=c/\c < w3.heap.size):=⟨_,rfl⟩
   obtain⟨g',mP⟩:∃ g':Gh,g'=⟨g.ob,g.cp,g.al,g.fz,fun d c=>(d=b/\B' c)\/(d ≠ b/\g.fo d c)⟩:=⟨_,rfl⟩
   have Qw:g'.fo b=B':=by
    rw [mP];funext c
    exact propext ⟨fun h=>h.elim (·.2) fun h=>absurd rfl h.1,fun h=>.inl ⟨rfl,h⟩⟩
   have anX:∀ d,d ≠ b->g'.fo d=g.fo d:=fun d hd=>by
    rw [mP];funext c
    exact propext ⟨fun h=>h.elim (fun h=>absurd h.1 hd) (·.2),fun h=>.inr ⟨hd,h⟩⟩
   have hL':Later g w g' w3:=by rw [mP];exact⟨fun _ h=>h,fun _ _=>rfl,fun _ _=>rfl,fun _ _ h=>h,kI⟩
   have hE':Ext A2 g w g' w3:={ hL' with
    size:=by rw [Y8];exact Ct
    a7:=fun c hc hA=>TM c hc (fun h=>hA (JP c (Qv c h hc).1).1) (fun e=>hA (by rw [e];exact k2))
    gF:=fun c q hq=>by rw [mP] at hq;exact .inl hq }
   have sub:∀ c,Ab c->c < w3.heap.size->B' c/\c ≠ b:=fun c hc wO=>by
    rw [DG]
    rw [wN] at hc
    rcases hc with hc|hc
    ·exact⟨.inl hc.1,hc.2⟩
    ·exact⟨.inr ⟨hc,wO⟩,by omega⟩
   have nG:LJ w0.heap.size A gs n T0 (lG j) j ps assign body f0 (au so N) b g'.fz (g'.fo b) w3/\JF (LJ w0.heap.size A gs n T0 (lG j) j ps assign body f0 (au so N)):=by
    refine⟨?_,LJ.ok⟩
    rw [Qw]
    have Bb:=hC.st u2
    have Y9:=Nat.le_of_ble_eq_true hC.bn
    obtain⟨v1,v2⟩:=Bb.free.move (w':=w3) (A':=fun c=>(B' c/\c ≠ b)\/w3.heap.size<=c) (g2.fI B N (aN m)).fz (Nat.le_refl _) (fun c hc=>.inr hc) (fun c hc=>by
      rcases hc with hc|hc
      ·rw [DG] at hc
       rcases hc.1 with h|h
       ·exact hS.lo c (JP c h).1
       ·have:=hS.base.size;omega
      ·have h1:=hS.base.size;omega) (fun c hc aA _=>⟨.inl (sub c hc aA),rfl,fun _ h=>h⟩) (fun _ _ _=>rfl) (fun _ _ h=>h) (fun c q hq=>Bb.cC c q hq)
    have ko:Ext (fun c=>Ab c\/c=b) (gb.Fp Z) w g2 w3:=((x1.mono fun _ h=>.inl h).trans (g2:=g1) { y1 with size:=by rw [je];exact Nat.le_refl _,a7:=fun c _ hA=>iW (fun e=>hA (.inr e)),gF:=fun _ _ h=>.inl h }).trans
     ((x2.mono fun _ h=>.inl h).trans { u1 with size:=by rw [Y8];exact Nat.le_refl _,a7:=fun c _ hA=>by rw [<-Is];exact iW (fun e=>hA (.inr e)),gF:=fun _ _ h=>.inl h })
    have o9:∀ c,(Ab c\/c=b)->c < w3.heap.size->B' c:=fun c hc wO=>hc.elim (fun h=>(sub c h wO).1) fun e=>by rw [e,DG];exact .inl h2
    refine⟨g2.fI B N (aN m),{ L with state:=lG j,pending:=j },v2,by rw [DG];exact .inl h2,fun c hc=>?_,⟨by rw [<-Is];exact zZ z7,rfl,rfl,Y7,hL5,hL6,hL7⟩,?_,fun c q hq=>?_,fun c q hc hq=>?_,?_,fun c hc=>h9 c (by omega)⟩
    ·rw [DG] at hc
     rcases hc with hc|hc
     ·exact⟨(h3 c hc).1,by have:=(h3 c hc).2;omega⟩
     ·exact⟨h9 c hc.1,hc.2⟩
    ·have Y_:=(h5.later m1).later ko.toLater
     exact⟨Y_.size,fun t ht=>(Y_.tm t ht).fI Y9 (A_ t),Y_.out,rfl,fun k hk=>by cases hk⟩
    ·have sG:g2.fz c q:=hq
     have wO:=u2.cC c q sG
     rw [mP]
     rcases ko.gF c q sG with h|h
     ·have h:Z c q:=h
      rw [hZ] at h
      rcases h with h|h
      ·exact (h6 c q h).imp id fun h=>by rw [DG];exact .inl h
      ·exact .inl h
     ·exact .inr (o9 c h wO)
    ·rw [mP] at hq
     have:Z c q:=by rw [hZ];exact .inr hq
     exact ko.fz c q this
    ·have e0:∀ k,gs.al k->du B (aN m) k=k:=fun k hk=>kc (hB k hk)
     refine⟨fun k hk=>⟨by have:=hB k hk;omega,?_⟩,fun k hk=>?_,fun k hk=>?_,fun c q hq=>ko.fz c q (by show Z c q;rw [hZ];exact .inl (h8.fz c q hq))⟩
     ·rw [e0 k hk];exact ko.al k (h8.al k hk)
     ·show g2.ob (du B (aN m) k)=gs.ob k
      rw [e0 k hk,ko.ob k (h8.al k hk)];exact h8.ob k hk
     ·show g2.cp (du B (aN m) k)=gs.cp k
      rw [e0 k hk,ko.cp k (h8.al k hk)];exact h8.cp k hk
   have key:∀ l r,(T.set k (some (.fo (LJ w0.heap.size A gs n T0 (lG j) j ps assign body f0 (au so N))))).get l=some r->(l=k/\r=.fo (LJ w0.heap.size A gs n T0 (lG j) j ps assign body f0 (au so N)))\/(l ≠ k/\T.get l=some r):=by
    intro l r hl
    have hl:a8 T.get k (some (.fo (LJ w0.heap.size A gs n T0 (lG j) j ps assign body f0 (au so N)))) l=some r:=hl
    by_cases e:l=k
    ·subst e;rw [aq] at hl;exact .inl ⟨rfl,(oJ_ hl).symm⟩
    ·rw [aC _ _ e] at hl;exact .inr ⟨e,hl⟩
   have Qx:∀ l r,(T.set k (some (.fo (LJ w0.heap.size A gs n T0 (lG j) j ps assign body f0 (au so N))))).get l=some r->∃ r',T.get l=some r':=fun l r hl=>(key l r hl).elim (fun e=>⟨.fo (LJ w0.heap.size A gs n T0 .ready none ps assign body f0 S),e.1.symm ▸ hT⟩) fun e=>⟨r,e.2⟩
   have Ft:∀ i,g'.ob i=g.ob i:=fun i=>by rw [mP]
   have Iu:∀ i,g'.al i=g.al i:=fun i=>by rw [mP]
   have sH:g'.fz=g.fz:=by rw [mP]
   refine⟨_,g',rfl,.v,⟨u2.base,fun c hc=>hS.up c (by omega),hS.lo,fun i hi=>hS.al i (by rw [<-Iu];exact hi),fun i o hi l7=>?_,fun i l o p hi hl ai al e=>?_,fun c q hq=>by rw [sH] at hq;have:=hS.cC c q hq;omega,fun c q hc=>by rw [sH];exact hS.nS c q hc,
    fun i J hi l7 c hc=>?_,fun i J l o hi l7 hl tv a_ hc=>?_,fun i l J J' hi hl ai al=>?_⟩,hE'⟩
   ·rw [Iu] at l7
    rcases key i o hi with ⟨rfl,rfl⟩|⟨a_,hi⟩
    ·rw [Ft,Ba]
     exact⟨k2,by omega,nG⟩
    ·obtain⟨q1,q2,q3⟩:=hS.bR i o hi l7
     have hib:g.ob i ≠ b:=fun e=>a_ (hS.inj i k o _ hi hT l7 aO (by rw [e,Ba]))
     have hnA:¬ Ab (g.ob i):=fun h=>hS.jW k _ i o hT aO hi l7 a_ (by rw [Ba,DD];exact (Qv _ h q2).1)
     have eS:g'.cp i=g.cp i:=by rw [mP]
     rw [Ft,eS]
     refine⟨q1,by omega,q3.later hL' (TM _ q2 hnA hib) (fun q hq=>by rw [sH] at hq;exact hq) fun J hJ=>?_⟩
     subst hJ
     exact absurd (hS.lV i k J _ hi hT l7 aO) a_
   ·rw [Iu] at ai al
    rw [Ft,Ft] at e
    obtain⟨_,fA⟩:=Qx i o hi
    obtain⟨_,l8⟩:=Qx l p hl
    exact hS.inj i l _ _ fA l8 ai al e
   ·rw [Iu] at l7
    rcases key i _ hi with ⟨rfl,_⟩|⟨a_,hi⟩
    ·rw [Ft,Ba,Qw,DG] at hc
     rcases hc with hc|hc
     ·exact⟨(JP c hc).1,by have:=(JP c hc).2;omega⟩
     ·exact⟨hS.up c hc.1,hc.2⟩
    ·exact absurd (hS.lV i k J _ hi hT l7 aO) a_
   ·rw [Iu] at l7 tv
    rcases key i _ hi with ⟨rfl,_⟩|⟨Qy,hi⟩
    ·rw [Ft,Ba,Qw,DG,Ft] at hc
     obtain⟨_,l8⟩:=Qx l o hl
     rcases hc with hc|hc
     ·exact hS.jW i _ l _ hT aO l8 tv a_ (by rw [Ba,DD];exact hc)
     ·have:=(hS.bR l _ l8 tv).2.1;omega
    ·exact absurd (hS.lV i k J _ hi hT l7 aO) Qy
   ·rw [Iu] at ai al
    have to:∀ x J,(T.set k (some (.fo (LJ w0.heap.size A gs n T0 (lG j) j ps assign body f0 (au so N))))).get x=some (.fo J)->g.al x->x=k:=fun x J hx ax=>(key x _ hx).elim (·.1) fun e=>hS.lV x k J _ e.2 hT ax aO
    rw [to i J hi ai,to l J' hl al]
  cases e2 with
  |normal=>obtain rfl:=oJ_ hj;exact⟨_,w3,kM,post⟩
  |ret=>obtain rfl:=oJ_ hj;exact⟨_,w3,kM,post⟩
  |exit id=>obtain rfl:=oJ_ hj;exact⟨_,w3,kM,post⟩
  |_=>cases hj
theorem tS {g:Gh}{w:World}{f:Fn}{l m:List AV}{v:Value}(h:aH g w (.fn f l m) v):∃ cs ds,v=.func f cs ds/\iP g w l cs/\iP g w m ds:=by
 cases h with
 |fn h1 h2 h3 h4=>exact⟨_,_,rfl,⟨h1,h3⟩,⟨h2,h4⟩⟩
theorem nH {J:Nat->(Nat->Nat->Prop)->(Nat->Prop)->World->Prop}{k:Nat}{o:Ob}(h:(au [(0,.fo J)] 1).get k=some o):k=0/\o=.fo J:=by
 have h:dF [(0,.fo J)] k=some o:=h
 have:=eO h
 simp only [List.mem_singleton,pI_] at this
 exact this
structure Oa (P:Program) (w0:World) (n:Nat) (A:Nat->Prop) (g0:Gh) (α:AA) (S:ad) (a:Act) (w:World) (B:Nat) (fn:FuncId) (ps:Array Tmp) (assign body:Code) (f0:Nat->AV) (T:ad) (gs gi:Gh) (w1 w2:World) (b:Nat) (a1:Act):Prop where
 iK:{ a with defers:=[{ target:=.collected w.heap.size,args:=#[] }]++a.defers }=a1
 ko:Ext A g0 w gs w1
 TN:∀ k,gs.al k->k < B
 wP:bN gs w1 n ⟨α.tm,S.nx::α.df⟩ a1
 hb:w1.heap.size=b
 Ct:w2.heap.size=b+1
 hold:∀ c,c < b->w2.heap[c]?=w1.heap[c]?
 wQ:(Instr.enterLoop fn a.tmps ps assign body none).run P w=.ok (b,[{ target:=.collected w.heap.size,args:=#[] }]) w2
 wN:A b
 lo:∀ c,A c->w0.heap.size<=c
 TO:St w0 A gi (au [(0,.fo (LJ w0.heap.size A gs n a.tmps .ready none ps assign body f0 T))] 1) w2
 ob:gi.ob 0=b
 al:gi.al 0
 Za:∀ c q,gs.fz c q->gi.fz c q
 Oc:∀ c q,gi.fz c q->gs.fz c q\/A c
 aA:∀ c q,gs.fz c q->c < w1.heap.size
theorem Oa.of {α:AA}{st0:List (Nat × AV)}{so0:List (Nat × Ob)}{A:Nat->Prop}{g0:Gh}{a:Act}{w:World}(hS:St w0 A g0 S w) (hA:bN g0 w n α a)
  (hC:Canon B N m ⟨α.tm,S.nx::α.df⟩ (S.new .df) st0 (S.nx::α.df) so0) (hB:S.nx+1<=B) (fn:FuncId):∃ gs gi w1 w2 b a1,Oa P w0 n A g0 α S a w B fn ps assign body (ez st0 []).tm (au so0 N) gs gi w1 w2 b a1:=by
 obtain⟨ko,eT⟩:=hS.new (.deferred (some [])) .df 0 (fun J=>by simp) (fun hL=>c_)
 obtain⟨gs,Zb⟩:∃ gs,g0.new S.nx w.heap.size 0=gs:=⟨_,rfl⟩
 obtain⟨w1,sI⟩:∃ w1,w.alloc (.deferred (some []))=w1:=⟨_,rfl⟩
 rw [Zb,sI] at ko eT
 have iI:gs.ob S.nx=w.heap.size:=by rw [<-Zb];exact aq _ _ _
 have aO:gs.al S.nx:=by rw [<-Zb];exact .inr rfl
 have TN:∀ k,gs.al k->k < B:=fun k hk=>by
  have:=eT.al k hk
  have:k < S.nx+1:=this
  omega
 have wP:bN gs w1 n ⟨α.tm,S.nx::α.df⟩ { a with defers:=({ target:=.collected w.heap.size,args:=#[] }:Deferred)::a.defers }:=by
  have h:=hA.later ko.toLater
  refine⟨h.size,h.tm,h.out,?_,fun k hk=>?_⟩
  ·show _=({ target:=.collected (gs.ob S.nx),args:=#[] }:Deferred)::_
   rw [iI,<-h.df]
  ·rcases List.mem_cons.1 hk with rfl|hk
   ·exact aO
   ·exact h.rI k hk
 obtain⟨a1,iK⟩:∃ a1:Act,{ a with defers:=({ target:=.collected w.heap.size,args:=#[] }:Deferred)::a.defers }=a1:=⟨_,rfl⟩
 rw [iK] at wP
 have Y9:=Nat.le_of_ble_eq_true hC.bn
 have sJ:=hC.st eT
 have hAc:=hC.JL wP
 obtain⟨gc,Iv⟩:∃ gc,gs.fI B N (aN m)=gc:=⟨_,rfl⟩
 have Iw:Ext A gs w1 gc w1:=by rw [<-Iv];exact (Ext.refl A gs w1).fI Y9 TN
 rw [Iv] at sJ hAc
 obtain⟨L,Fu⟩:∃ L:Loop,{ state:=.ready,pending:=none,fn,tmps:=a.tmps,params:=ps,assign,body,defers:=w.heap.size }=L:=⟨_,rfl⟩
 obtain⟨w2,Bc⟩:∃ w2,w1.alloc (.loop L)=w2:=⟨_,rfl⟩
 obtain⟨b,hb⟩:∃ b,w1.heap.size=b:=⟨_,rfl⟩
 have Ct:w2.heap.size=b+1:=by rw [<-Bc,<-hb];exact size_alloc
 have hold:∀ c,c < b->w2.heap[c]?=w1.heap[c]?:=fun c hc=>by rw [<-Bc];exact fG (by rw [hb];exact hc)
 have qN:w2.heap[b]?=some (.loop L):=by rw [<-Bc,<-hb];exact c_
 have wQ:(Instr.enterLoop fn a.tmps ps assign body none).run P w=.ok (b,[{ target:=.collected w.heap.size,args:=#[] }]) w2:=by
  rw [<-Bc,<-sI,<-hb,<-sI,<-Fu]
  simp only [Instr.enterLoop,newObj,Sem.run_bind,Sem.run,Result.andThen_ok,Sem.run_pure]
  rfl
 obtain⟨Zc,sK⟩:=sJ.free.move (w':=w2) (A':=A) gc.fz (by omega) (fun c hc=>sJ.up c (by omega)) sJ.lo (fun c hc aA _=>⟨hc,hold c (by omega),fun _ h=>h⟩)
  (fun c q hq=>World.cell?_of_block (hold c (by rw [<-hb];exact sJ.cC c q hq))) (fun _ _ h=>h) (fun c q hq=>by have:=sJ.cC c q hq;omega)
 have sK:wL w0.heap.size A gc (au so0 N) w2:=sK
 have Zc:Later gc w1 gc w2:=Zc
 have Zd:Below w0.heap.size w0 w2:=by
  refine⟨?_,?_,?_,by have:=sJ.base.size;omega,fun k hk=>(hold k (by have:=sJ.base.size;omega)).trans (sJ.base.block k hk)⟩
  ·rw [<-Bc];exact sJ.base.os
  ·rw [<-Bc];exact sJ.base.tape
  ·rw [<-Bc];exact sJ.base.output
 have wN:A b:=sJ.up b (by omega)
 obtain⟨Bf,DD⟩:∃ Bf:Nat->Prop,Bf=fun c=>c=b\/(∃ k o,(au so0 N).get k=some o/\gc.al k/\c=gc.ob k)\/∃ k J,(au so0 N).get k=some (.fo J)/\gc.al k/\gc.fo (gc.ob k) c:=⟨_,rfl⟩
 have Qz:∀ c,Bf c->A c/\c < w2.heap.size:=fun c hc=>by
  rw [DD] at hc
  rcases hc with rfl|hc
  ·exact⟨wN,by omega⟩
  ·exact sK.inA hc
 have ajE:Bf b:=by rw [DD];exact .inl rfl
 have hLJ:LJ w0.heap.size A gs n a.tmps .ready none ps assign body (ez st0 []).tm (au so0 N) b gc.fz Bf w2:=by
  obtain⟨v1,v2⟩:=sK.move (w':=w2) (A':=fun c=>(Bf c/\c ≠ b)\/w2.heap.size<=c) gc.fz (Nat.le_refl _) (fun c hc=>.inr hc) (fun c hc=>hc.elim (fun h=>sK.lo c (Qz c h.1).1) fun h=>sK.lo c (sK.up c h))
   (fun c hc aA h=>⟨.inl ⟨by rw [DD];exact .inr h,fun e=>by
    have:=sJ.free.inA h
    omega⟩,rfl,fun _ h=>h⟩) (fun _ _ _=>rfl) (fun _ _ h=>h) sK.cC
  refine⟨gc,L,v2,ajE,Qz,⟨qN,by rw [<-Fu],by rw [<-Fu],by rw [<-Fu],by rw [<-Fu],by rw [<-Fu],by rw [<-Fu]⟩,?_,fun c q hq=>.inl hq,fun c q _ hq=>hq,⟨Iw.al,Iw.ob,Iw.cp,Iw.fz⟩,fun c hc=>sK.up c hc⟩
  have h:=hAc.later Zc
  have h1:=h.size
  have h2:=h.tm
  rw [<-iK] at h1 h2
  exact⟨h1,h2,h.out,rfl,fun k hk=>by cases hk⟩
 obtain⟨gi,DH⟩:∃ gi:Gh,gi=⟨fun _=>b,fun _=>0,fun k=>k=0,gc.fz,fun _=>Bf⟩:=⟨_,rfl⟩
 obtain⟨J0,hJ0⟩:∃ J0,LJ w0.heap.size A gs n a.tmps .ready none ps assign body (ez st0 []).tm (au so0 N)=J0:=⟨_,rfl⟩
 have TO:St w0 A gi (au [(0,.fo J0)] 1) w2:=by
  have e1:∀ k,gi.ob k=b:=fun k=>by rw [DH]
  have e2:∀ k,gi.fo k=Bf:=fun k=>by rw [DH]
  have e3:gi.fz=gc.fz:=by rw [DH]
  have e4:∀ k,gi.al k->k=0:=fun k hk=>by rw [DH] at hk;exact hk
  refine⟨Zd,sK.up,sK.lo,fun k hk=>by rw [e4 k hk];exact Nat.one_pos,fun k o hk ha=>?_,fun i k o p hi hk _ _ _=>(nH hi).1.trans (nH hk).1.symm,fun c q hq=>sK.cC c q (by rw [<-e3];exact hq),fun c q hc=>by rw [e3];exact sK.nS c q hc,
   fun k J hk ha c hc=>Qz c (by rw [e2] at hc;exact hc),fun k J i o hk _ hi _ a_=>absurd ((nH hi).1.trans (nH hk).1.symm) a_,fun i k J J' hi hk _ _=>(nH hi).1.trans (nH hk).1.symm⟩
  obtain⟨rfl,rfl⟩:=nH hk
  rw [e1]
  refine⟨wN,by omega,?_⟩
  show J0 b gi.fz (gi.fo b) w2/\JF J0
  rw [e2,e3,<-hJ0]
  exact⟨hLJ,LJ.ok⟩
 rw [<-hJ0] at TO
 exact⟨gs,gi,w1,w2,b,a1,iK,ko,TN,wP,hb,Ct,hold,wQ,wN,sK.lo,TO,by rw [DH],by rw [DH],fun c q hq=>by rw [DH];exact Iw.fz c q hq,fun c q hq=>by rw [DH] at hq;exact Iw.gF c q hq,fun c q hq=>eT.cC c q hq⟩
theorem Oa.out {α:AA}{st0:List (Nat × AV)}{so1:List (Nat × Ob)}{j:Option Code}{A:Nat->Prop}{g0:Gh}{a:Act}{w:World}{fn:FuncId}{T S1:ad}{gs gi Od:Gh}{w1 w2 w3:World}{b:Nat}{a1:Act}
  (h:Oa P w0 n A g0 α S a w B fn ps assign body (ez st0 []).tm T gs gi w1 w2 b a1) (Fs:∀ c q,gs.fz c q->c < w1.heap.size)
  (QA:S1.get 0=some (.fo (LJ w0.heap.size A gs n a.tmps (lG j) j ps assign body (ez st0 []).tm (au so1 N)))) (qw:St w0 A Od S1 w3) (qx:Ext A gi w2 Od w3) :
  ∃ w4,(Instr.endLoop b).run P w3=.ok j w4/\∀ ex,mF w0 n A g0 w ex (ez st0 (S.nx::α.df)) (au so1 N) ex a1 w4:=by
 have JQ:=h.al
 have oq:Od.ob 0=b:=(qx.ob 0 JQ).trans h.ob
 obtain⟨_,wO,⟨gb,L3,p1,p2,p3,⟨q1,q2,q3,q4,q5,q6,q7⟩,p5,p6,p7,p8,p9⟩,_⟩:=qw.bR 0 _ QA (qx.al 0 JQ)
 rw [oq] at p1 p2 p3 q1 p6 p7 wO
 obtain⟨B3,hB3⟩:∃ B3,Od.fo b=B3:=⟨_,rfl⟩
 rw [hB3] at p1 p2 p3 p6 p7
 obtain⟨w4,zj⟩:∃ w4,World.rec w3 b { L3 with state:=.exhausted }=w4:=⟨_,rfl⟩
 have ajF:w4.heap.size=w3.heap.size:=by rw [<-zj];exact je
 have kM:(Instr.endLoop b).run P w3=.ok j w4:=by
  have:(L3.state == .busy)=false:=by rw [q2];cases j<;>rfl
  rw [<-zj]
  simp only [Instr.endLoop,Sem.run_bind,run_getLoop q1,Result.andThen_ok,this,Bool.false_eq_true,if_false,uY q1,Sem.run_pure,q3]
 obtain⟨z1,z2⟩:=p1.move (w':=w4) (A':=A) gb.fz (by omega) (fun c hc=>p9 c (by omega)) h.lo (fun c hc aA h=>by
   have hc:=hc.resolve_right (by omega)
   exact⟨(p3 c hc.1).1,by rw [<-zj];exact iW hc.2,fun _ h=>h⟩) (fun c q _=>by rw [<-zj];exact z6 q1 c q) (fun _ _ h=>h) (fun c q hq=>by rw [ajF];exact p1.cC c q hq)
 have z2:wL w0.heap.size A gb (au so1 N) w4:=z2
 have N8:w0.heap.size<=b:=h.lo b h.wN
 have Ze:Below w0.heap.size w0 w4:=by
  refine⟨?_,?_,?_,by have:=qw.base.size;omega,fun k hk=>?_⟩
  ·rw [<-zj];exact qw.base.os
  ·rw [<-zj];exact qw.base.tape
  ·rw [<-zj];exact qw.base.output
  ·rw [<-zj];exact (iW (by omega)).trans (qw.base.block k hk)
 have QB:Ext A g0 w gb w4:=by
  refine h.ko.trans ⟨⟨p8.al,p8.ob,p8.cp,p8.fz,fun c q hq=>?_⟩,by have:=qx.size;have:=h.Ct;have:=h.hb;omega,fun c hc TP=>?_,fun c q hq=>?_⟩
  ·rw [<-zj,z6 q1,qx.cell c q (h.Za c q hq)]
   exact World.cell?_of_block (h.hold c (by rw [<-h.hb];exact Fs c q hq))
  ·have:=h.Ct;have:=h.hb
   rw [<-zj,iW (fun e=>TP (by rw [e];exact h.wN)),qx.a7 c (by omega) TP,h.hold c (by omega)]
  ·rcases p6 c q hq with h1|h1
   ·rcases qx.gF c q h1 with h2|h2
    ·exact h.Oc c q h2
    ·exact .inr h2
   ·exact .inr (p3 c h1).1
 have hAf:bN gb w4 n (ez st0 (S.nx::α.df)) a1:=by
  have h':=p5.later (z1:Later gb w3 gb w4)
  have e1:a1.tmps=a.tmps:=by rw [<-h.iK]
  refine⟨by rw [e1];exact h'.size,fun t ht=>by rw [e1];exact h'.tm t ht,h'.out,?_,fun k hk=>?_⟩
  ·show a1.defers=(DE.ob S.nx::α.df).map _
   rw [h.wP.df]
   exact List.map_congr_left fun k hk=>(wI (p8.ob _ (h.wP.rI k hk))).symm
  ·exact p8.al _ (h.wP.rI k hk)
 exact⟨w4,kM,fun ex=>⟨rfl,gb,z2.st Ze,hAf,QB⟩⟩
theorem cu.range {α:AA}{g:Operand}{gid:FuncId}{first cap:List AV}{st0:List (Nat × AV)}{so0 so1:List (Nat × Ob)}{j:Option Code}
  (hf:α.ev g=.fn (.func gid) first cap) (Zf:∀ a ∈ first,Pure a) (Zg:∀ a ∈ cap,Pure a)
  (hC:Canon B N m ⟨α.tm,S.nx::α.df⟩ (S.new .df) st0 (S.nx::α.df) so0) (hB:S.nx+1<=B) (hj:tR ex=some j)
  (hI:∀ (A:Nat->Prop) (gs:Gh) (T0:Array Value),(∀ k,gs.al k->k < B)->∃ r S1,aK P w0 gid (first++[.yl 0]++cap) (au [(0,.fo (LJ w0.heap.size A gs n T0 .ready none ps assign body (ez st0 []).tm (au so0 N)))] 1) r S1 /\
   S1.get 0=some (.fo (LJ w0.heap.size A gs n T0 (lG j) j ps assign body (ez st0 []).tm (au so1 N)))) :
  cu P w0 false n (.rangeFunc g ps assign body) α S ex (ez st0 (S.nx::α.df)) (au so1 N):=by
 intro F mm A g0 a w hF hR hS hA
 have kY:F.round=none:=by
  cases h:F.round with
  |none=>rfl
  |some l=>rw [h] at hR;cases hR
 refine wpIn_rangeFunc fun fn wR=>?_
 obtain⟨gs,gi,w1,w2,b,a1,h⟩:=Oa.of (P:=P) (ps:=ps) (assign:=assign) (body:=body) hS hA hC hB fn
 obtain⟨r,S1,bC,QA⟩:=hI A gs a.tmps h.TN
 have Zh:=hA.ev g
 rw [hf] at Zh
 obtain⟨cs,ds,hev,zk,TQ⟩:=tS Zh
 have toI:∀ {l:List AV}{xs:Array Value},(∀ a ∈ l,Pure a)->iP g0 w l xs->iP gi w2 l xs:=fun hp h1=>⟨h1.1,fun i a x ha hx=>aH.pure (g:=g0) (fun c q hq=>h.Za c q (h.ko.fz c q hq)) (fun c q hq=>by
   have aA:=hS.cC c q hq
   have:=h.ko.size
   rw [<-h.ko.cell c q hq]
   exact World.cell?_of_block (h.hold c (by rw [<-h.hb];omega))) (h1.2 i a x ha hx) (hp a (List.mem_of_getElem? ha))⟩
 obtain⟨ya,Zi⟩:∃ ya:Array Value,ya=#[.func (.yield b) #[] #[]]:=⟨_,rfl⟩
 have ac1:iP gi w2 (first++[.yl 0]++cap) (cs++ya++ds):=by
  refine gM (gM (toI Zf zk) ⟨by rw [Zi];rfl,fun i a x ha hx=>?_⟩) (toI Zg TQ)
  match i with
  |0 =>
   rw [Zi] at hx
   simp at ha hx
   subst ha hx
   have:=aH.yl (g:=gi) (w:=w2) (k:=0) h.al
   rw [h.ob] at this
   exact this
  |i+1=>simp at ha
 have iR:(resolve a.eval (rangeCall g b) 0).run P w2=.ok { target:=.fn (.func gid) ds,args:=cs++ya } w2:=by
  rw [Zi]
  have e1:(rangeCall g b).args.map a.eval=#[.func (.yield b) #[] #[]]:=by simp [rangeCall,Act.eval]
  simp only [resolve,e1,hev,Deferred.ofValue]
  rfl
 refine⟨b,_,w2,_,w2,gid,cs++ya++ds,w2,by rw [kY];exact h.wQ,iR,fun f' _=>hF.1 f',bC.1 _ w2,fun hd=>(by rw [hF.2.1] at hd;cases hd),(bC.2 F (mm - 1) A gi _ w2 hF h.TO ac1).mono ?_⟩
 rintro e w3 ⟨v,Od,rfl,hr3,qw,qx⟩
 obtain⟨w4,kM,Be⟩:=h.out (j:=j) h.aA QA qw qx
 rw [h.iK]
 refine⟨j,w4,kM,?_⟩
 have Be:=Be ex
 cases ex with
 |normal=>obtain rfl:=oJ_ hj;exact Be
 |ret=>obtain rfl:=oJ_ hj;exact wpIn_ret Be
 |exit id=>obtain rfl:=oJ_ hj;exact wpIn_exit Be
 |_=>cases hj
end
abbrev iq:=Nat->(Nat->Nat->Prop)->(Nat->Prop)->World->Prop
inductive Ys (P:Program) (w0:World):iq->List (List AV)->Bool->iq->Prop where
 |nil (J:iq):Ys P w0 J [] true J
 |cons {J J1 J':iq}{x:List AV}{xs:List (List AV)}{b:Bool}(h:∀ (T:ad) (k:Nat),T.get k=some (.fo J)->oo P w0 k x T (.v (.bool true)) (T.set k (some (.fo J1)))) (t:Ys P w0 J1 xs b J'):Ys P w0 J (x::xs) b J'
 |stop {J J':iq}{x:List AV}{xs:List (List AV)}(h:∀ (T:ad) (k:Nat),T.get k=some (.fo J)->oo P w0 k x T (.v (.bool false)) (T.set k (some (.fo J')))):Ys P w0 J (x::xs) false J'
def Iter (P:Program) (w0:World) (gid:FuncId) (first cap:List AV) (xs:List (List AV)):Prop :=
 ∀ (J:iq) (b:Bool) (J':iq),Ys P w0 J xs b J'->∃ r S1,aK P w0 gid (first++[.yl 0]++cap) (au [(0,.fo J)] 1) r S1/\S1.get 0=some (.fo J')
section
variable {P:Program}{w0:World}
theorem Ys.split {xs ys:List (List AV)}{b:Bool}{J J':iq}(h:Ys P w0 J (xs++ys) b J'):(b=false/\Ys P w0 J xs false J')\/∃ J1,Ys P w0 J xs true J1/\Ys P w0 J1 ys b J':=by
 induction xs generalizing J with
 |nil=>exact .inr ⟨J,.nil J,h⟩
 |cons x xs ih =>
  cases h with
  |cons h t =>
   rcases ih t with ⟨h1,h2⟩|⟨J1,h1,h2⟩
   ·exact .inl ⟨h1,.cons h h2⟩
   ·exact .inr ⟨J1,.cons h h1,h2⟩
  |stop h=>exact .inl ⟨rfl,.stop h⟩
theorem Ys.one {x:List AV}{b:Bool}{J J':iq}(h:Ys P w0 J [x] b J'):∀ (T:ad) (k:Nat),T.get k=some (.fo J)->oo P w0 k x T (.v (.bool b)) (T.set k (some (.fo J'))):=by
 cases h with
 |cons h t=>cases t;exact h
 |stop h=>exact h
theorem Ys.head {x:List AV}{xs:List (List AV)}{b:Bool}{J J':iq}(h:Ys P w0 J (x::xs) b J'):∃ d J1,(∀ (T:ad) (k:Nat),T.get k=some (.fo J)->oo P w0 k x T (.v (.bool d)) (T.set k (some (.fo J1))))/\((d=true/\Ys P w0 J1 xs b J')\/(d=false/\b=false/\J1=J')):=by
 cases h with
 |cons h t=>exact⟨true,_,h,.inl ⟨rfl,t⟩⟩
 |stop h=>exact⟨false,_,h,.inr ⟨rfl,rfl,rfl⟩⟩
theorem Ys.Zj {b:Bool}{J J':iq}(h:Ys P w0 J [] b J'):b=true/\J'=J:=by cases h;exact⟨rfl,rfl⟩
end
section
variable {P:Program}{w0:World}{α:AA}{S S':ad}{r:AV}
theorem ae.yl {f:QO}{aZ9:List QO}{k:Nat}{args:List AV}{b:Bool}{J1:Ob}(h:f.ev α.tm=.yl k) (ha:aZ9.map (·.ev α.tm)=args) (hr:oo P w0 k args S (.v (.bool b)) (S.set k (some J1))):ae P w0 false (.call f aZ9) α S (.v (.bool b)) (S.set k (some J1)):=by
 intro n o eK
 obtain⟨c,u,ho,hu,rfl,rfl⟩:=jP eK
 rw [ij] at ha
 rw [aJ] at h
 subst ha
 exact Cu ho hu h hr
end
def Zk:QC->Option (Bool × List QI)
 |.skip=>some (false,[])
 |.aU dr l=>some (dr,l)
 |_=>none
theorem z8 {B:Nat}:∀ {l:List (Nat × AV)},(∀ p ∈ l,dg B p.2)->∀ t,dg B (j6 (fun _=>.u) l t)
 |[],_,_=>.u
 |p::l,h,t=>by
  show dg B (a8 (j6 (fun _=>.u) l) p.1 p.2 t)
  by_cases e:t=p.1
  ·rw [e,aq];exact h p (by simp)
  ·rw [aC _ _ e];exact z8 (fun q hq=>h q (by simp [hq])) t
section
variable {P:Program}{w0:World}{n:Nat}{α aw:AA}{S S':ad}{Q:Exit->AA->ad->Prop}{ex:Exit}{K:List fc}
def Zl {σ T:Type}(P:Program) (w0:World) (n B N:Nat) (st0:List (Nat × AV)) (ds:List DE) (so:σ->List (Nat × Ob)) (I:List T->σ->Prop) (Q:Exit->AA->ad->Prop) (K:List fc) (rest:List T):Exit->AA->ad->Prop :=
 fun ex α S=>match ex with
  |.normal=>∃ s' m,I rest s'/\Canon B N m α S [] [] (so s')
  |.ret=>∃ so' m,Canon B N m α S [] [] so'/\aa P w0 false n Q (.out .ret K) (ez st0 ds) (au so' N)
  |.exit id=>∃ so' m,Canon B N m α S [] [] so'/\aa P w0 false n Q (.out (.exit id) K) (ez st0 ds) (au so' N)
  |_=>False
theorem aa.range {σ T:Type}{x:QO}{ps:List Nat}{qa qb:QC}{dr:Bool}{l:List QI}{gid:FuncId}{first cap:List AV}(enc:T->List AV) (L:List T) (B N:Nat) (m0:List (Nat × Nat)) (st0:List (Nat × AV)) (so:σ->List (Nat × Ob)) (I:List T->σ->Prop) (s0:σ)
  (hx:x.ev α.tm=.fn (.func gid) first cap) (Zf:∀ a ∈ first,Pure a) (Zg:∀ a ∈ cap,Pure a) (DI:Iter P w0 gid first cap (L.map enc)) (hq:Zk qa=some (dr,l))
  (h0:I L s0) (hB:Nat.ble (S.nx+1) B=true) (hk:∀ p ∈ st0,dg B p.2) (A9:ps.all (Nat.blt · n)=true) (hen:∀ x,(enc x).length=ps.length/\∀ a ∈ enc x,Pure a)
  (hC:Canon B N m0 ⟨α.tm,S.nx::α.df⟩ (S.new .df) st0 (S.nx::α.df) (so s0))
  (ac2:∀ (x:T) (rest:List T) (s:σ),I (x::rest) s->aa P w0 true n (Zl P w0 n B N st0 (S.nx::α.df) so I Q K rest) (.aU dr l [.seq qb]) ⟨sE (j6 (fun _=>.u) st0) (ps.zip (enc x)),[]⟩ (au (so s) N))
  (kM:∀ s,I [] s->aa P w0 false n Q (.out .normal K) (ez st0 (S.nx::α.df)) (au (so s) N)):aa P w0 false n Q (.run (.uP x ps qa qb) K) α S:=by
 intro c hc hd
 obtain⟨y,pt,c1,c2,rfl,rfl,rfl,fW,dv⟩:=NZ hc
 simp only [cI,Bool.and_eq_true] at hd
 rw [aJ] at hx
 have A_:∀ t,dg B ((ez st0 []).tm t):=fun t=>z8 hk t
 have ajG:∀ t ∈ pt,t < n:=fun t ht=>by
  have:=List.all_eq_true.1 A9 t (by simpa using ht)
  exact dC this
 have ajH:∀ (R:AA->ad->Prop) (E:List PanicEntry->AA->ad->Prop) (β:AA) (T:ad),(∀ ch α S,¬ E ch α S)->eH P w0 n dr l R E β T->∃ bE bT,cu P w0 true n c1 β T .normal bE bT/\R bE bT:=by
  intro R E β T hE h
  unfold Zk at hq
  split at hq
  ·injection hq with hq;injection hq with h1 h2
   subst h1 h2
   obtain⟨bE,bT,h3,h4⟩:=(h [] [] rfl 0 rfl).resolve_right fun ⟨ch,aw,S',_,h6⟩=>hE _ _ _ h6
   refine⟨bE,bT,?_,h4⟩
   intro F m A g a w hF hR hS hA
   exact (qK.1 fW).wp (h3 F m A g a w (mF w0 n A g w .normal bE bT) hF hS hA fun a' w' g' h1 h2 h3=>⟨rfl,g',h1,h2,h3⟩)
  ·injection hq with hq;injection hq with h1 h2
   subst h1 h2
   rename_i dr' l'
   obtain⟨id,ops,rfl,h3,lN⟩:=Fe fW
   have h4:=h _ _ h3
   cases dr' with
   |false =>
    obtain⟨aw,S',h5,h6⟩:=(h4 0 rfl).resolve_right fun ⟨ch,aw,S',_,h6⟩=>hE _ _ _ h6
    rw [Array.length_toList,<-List.range_eq_range'] at h5
    exact⟨aw,S',cu.region h5,h6⟩
   |true =>
    obtain⟨aw,S',h5,h6⟩:=h4 0 rfl
    rw [Array.length_toList,<-List.range_eq_range'] at h5
    have eu:=hd.1
    simp only [cI,Bool.and_eq_true] at eu
    exact⟨aw,S',cu.draw eu.1 ((Bool.and_eq_true _ _).mp ((Bool.and_eq_true _ _).mp (lN rfl)).1).1 h5,h6⟩
  ·cases hq
 have key:∀ (L:List T) (s:σ),I L s->∃ ex j so',tR ex=some j/\aa P w0 false n Q (.out ex K) (ez st0 (S.nx::α.df)) (au so' N) /\
   ∀ (A:Nat->Prop) (gs:Gh) (T0:Array Value),(∀ k,gs.al k->k < B)->Ys P w0 (LJ w0.heap.size A gs n T0 .ready none pt c1 c2 (ez st0 []).tm (au (so s) N)) (L.map enc) j.isNone (LJ w0.heap.size A gs n T0 (lG j) j pt c1 c2 (ez st0 []).tm (au so' N)):=by
  intro L
  induction L with
  |nil=>exact fun s hs=>⟨.normal,none,so s,rfl,kM s hs,fun A gs T0 _=>.nil _⟩
  |cons x rest ih =>
   intro s hs
   have h1:=ac2 x rest s hs
   obtain⟨bE,bT,h2,h3⟩:=ajH _ _ _ _ (fun ch α S h=>h) h1
   obtain⟨ex,yG,Cs,h4,h5⟩:Wp P w0 true n c2 _ bE bT:=h3 c2 dv hd.2
   have rn:∀ {j:Option Code}{so':List (Nat × Ob)}{m:List (Nat × Nat)},tR ex=some j->Canon B N m yG Cs [] [] so'->∀ (A:Nat->Prop) (gs:Gh) (T0:Array Value),(∀ k,gs.al k->k < B)->∀ (T:ad) (k:Nat),T.get k=some (.fo (LJ w0.heap.size A gs n T0 .ready none pt c1 c2 (ez st0 []).tm (au (so s) N))) ->
     oo P w0 k (enc x) T (.v (.bool j.isNone)) (T.set k (some (.fo (LJ w0.heap.size A gs n T0 (lG j) j pt c1 c2 (ez st0 []).tm (au so' N))))):=fun hj hC A gs T0 hB T k hT =>
    oo.rnd h2 h4 hC hj (by rw [(hen x).1,Array.length_toList]) (hen x).2 ajG A_ hB hT
   cases ex with
   |normal =>
    obtain⟨s',m,h6,h7⟩:=h5
    obtain⟨ex,j,so',k1,k2,k3⟩:=ih s' h6
    exact⟨ex,j,so',k1,k2,fun A gs T0 hB=>.cons (rn rfl h7 A gs T0 hB) (k3 A gs T0 hB)⟩
   |ret =>
    obtain⟨so',m,h6,h7⟩:=h5
    exact⟨.ret,_,so',rfl,h7,fun A gs T0 hB=>.stop (rn rfl h6 A gs T0 hB)⟩
   |exit id =>
    obtain⟨so',m,h6,h7⟩:=h5
    exact⟨.exit id,_,so',rfl,h7,fun A gs T0 hB=>.stop (rn rfl h6 A gs T0 hB)⟩
   |_=>exact h5.elim
 obtain⟨ex,j,so',k1,k2,k3⟩:=key L s0 h0
 refine⟨ex,_,_,cu.range (ex:=ex) (so1:=so') hx Zf Zg hC (Nat.le_of_ble_eq_true hB) k1 (fun A gs T0 hB=>DI _ _ _ (k3 A gs T0 hB)),k2⟩
end
section
variable {P:Program}{w0:World}{rd:Bool}{n B:Nat}{α aw:AA}{S S':ad}{Q:Exit->AA->ad->Prop}{r:AV}{i:QI}{l:List QI}{K:List fc}{V:List (Nat × Nat)}{lg:List (List Nat × List Nat × Bool)}{rs:List Nat}{d:Dt}{q:dp}
theorem aa.lP (hw:bD α.tm i.g=some true) (h:bc P w0 B i.q α S r d) (k:aa P w0 rd n Q (.dB B V (lg++[d.ns]) rs l K) (bS i.d α r) (cY S d.W d.m)):aa P w0 rd n Q (.dB B V lg rs (i::l) K) α S :=
 fun jb hB=>mZ.op hB hw h (k jb (by rw [dI];exact Nat.le_trans hB (Nat.le_add_right _ _)))
def isB:dp->Bool
 |.bin ..|.conv ..|.qL ..|.neg _|.ny ..|.pK ..|.wD ..|.nI ..|.slice ..|.len ..|.min ..|.max ..|.call ..|.mv ..|.pick ..|.build ..|.rows ..|.not _|.yH ..|.field ..|.extract ..|.Fv ..|.yI _=>true
 |_=>false
theorem bc.pure (h:∀ T,ae P w0 true q α T r T):bc P w0 B q α S r ⟨[],[],false⟩:=by
 refine fun n o hr=>⟨fun _=>rfl,(show fu S [] from fun p hp=>by cases hp),fun T _ _ _=>?_⟩
 rw [show cY T [] false=T from cG]
 exact (h T n o hr).1
theorem aa.gm (hw:bD α.tm i.g=some true) (h:∀ T,ae P w0 true i.q α T r T) (k:aa P w0 rd n Q (.dB B V (lg++[([],[],false)]) rs l K) (bS i.d α r) S):aa P w0 rd n Q (.dB B V lg rs (i::l) K) α S :=
 aa.lP hw (bc.pure h) (by rw [show cY S [] false=S from cG];exact k)
theorem aa.Zm {ik:IntKind}{e:Int}(hw:bD α.tm i.g=some true) (h:∀ T,ae P w0 true i.q α T (.v (.int ik e)) T) (k:∀ d,d=e->aa P w0 rd n Q (.dB B V (lg++[([],[],false)]) rs l K) (bS i.d α (.v (.int ik d))) S):aa P w0 rd n Q (.dB B V lg rs (i::l) K) α S:=aa.gm hw h (k e rfl)
def Cv (w0:World) (n:Nat) (α:AA) (S:ad) (aw:AA) (S':ad):Prop :=
 ∀ (A:Nat->Prop) (g:Gh) (a:Act) (w:World),St w0 A g S w->bN g w n α a->∃ g',St w0 A g' S' w/\bN g' w n aw a/\Ext A g w g' w
theorem cu.cv {c:Code}{ex:Exit}{bE:AA}{bT:ad}(h:Cv w0 n α S aw S') (k:cu P w0 rd n c aw S' ex bE bT):cu P w0 rd n c α S ex bE bT:=by
 intro F m A g a w hF hR hS hA
 obtain⟨g',h1,h2,h3⟩:=h A g a w hS hA
 exact wpIn_mono (k F m A g' a w hF hR h1 h2) fun e a w hq=>mF.ext h3 hq
theorem aa.cv {c:QC}(h:Cv w0 n α S aw S') (k:aa P w0 rd n Q (.run c K) aw S'):aa P w0 rd n Q (.run c K) α S:=by
 intro c0 hc hd
 obtain⟨ex,bE,bT,h1,h2⟩:=k c0 hc hd
 exact⟨ex,bE,bT,h1.cv h,h2⟩
theorem aa.TR (h:Cv w0 n α S aw S') (k:aa P w0 rd n Q (.aU false l K) aw S'):aa P w0 rd n Q (.aU false l K) α S:=by
 intro ops rest hr j hj
 refine (k ops rest hr j hj).imp (fun ⟨bE,bT,h1,h2⟩=>⟨bE,bT,fun F m A g a w R hF hS hA hR=>?_,h2⟩) fun ⟨ch,bE,bT,h1,h2⟩=>⟨ch,bE,bT,fun F m A g a w R hF hS hA hR=>?_,h2⟩
 ·obtain⟨g',k1,k2,k3⟩:=h A g a w hS hA
  exact h1 F m A g' a w R hF k1 k2 fun a' w' tO q1 q2 q3=>hR a' w' tO q1 q2 (k3.trans q3)
 ·obtain⟨g',k1,k2,k3⟩:=h A g a w hS hA
  exact h1 F m A g' a w R hF k1 k2 fun a' w' tO q1 q2 q3=>hR a' w' tO q1 q2 (k3.trans q3)
theorem aa.Zn {b:QC}(h:Cv w0 n α S aw S') (k:aa P w0 rd n Q (.out .normal (.seq b::K)) aw S'):aa P w0 rd n Q (.out .normal (.seq b::K)) α S:=aa.cv (c:=b) h k
theorem Cv.freeze {t k sz fz m:Nat}{rows:List (List AV)}{ex:Bool}{a:AV}(hk:S.get k=some (.arr sz rows fz ex)) (ht:α.tm t=a) (ha:a=.gr k sz m\/∃ c,a=.ob k sz 0 m c) (hm:m=rows.length) (qy:fz<=m) :
  Cv w0 n α S ⟨a8 α.tm t (.sl false rows),α.df⟩ (S.set k none):=by
 subst hm
 intro A g q w hS hA
 have ajI:∀ {g':Gh}{o:Option Ob},St w0 A g' (S.set k o) w->St w0 A g' (S.set k none) w:=fun {_ o} h=>h.forget (Nat.le_refl _) fun j p hj _=>by
  have hj:a8 S.get k none j=some p:=hj
  by_cases e:j=k
  ·subst e;rw [aq] at hj;cases hj
  ·rw [aC _ _ e] at hj
   show a8 S.get k o j=some p
   rw [aC _ _ e]
   exact hj
 have put:∀ {g':Gh},Later g w g' w->(t < n->aH g' w (.sl false rows) (q.tmps.getD t undef))->bN g' w n ⟨a8 α.tm t (.sl false rows),α.df⟩ q:=by
  intro g' hL hr
  have h1:=hA.later hL
  refine⟨h1.size,fun s hs=>?_,fun s hs=>?_,h1.df,h1.rI⟩
  ·show aH g' w (a8 α.tm t _ s) _
   by_cases e:s=t
   ·subst e;rw [aq];exact hr hs
   ·rw [aC _ _ e];exact h1.tm s hs
  ·show a8 α.tm t _ s=.u
   by_cases e:s=t
   ·subst e
    have h2:=hA.out s hs
    rw [ht] at h2
    rcases ha with h|⟨c,h⟩<;>(rw [h] at h2;cases h2)
   ·rw [aC _ _ e];exact h1.out s hs
 by_cases aA:t < n
 ·have hr:=hA.tm t aA
  rw [ht] at hr
  by_cases aO:g.al k
  ·obtain⟨h1,h2⟩:=hS.freeze hk aO qy (by omega)
   refine⟨_,ajI h2,put h1.toLater fun _=>?_,h1⟩
   have Zo:=hr.later h1.toLater
   obtain⟨k2,k3,cs,ty,p1,p2,p3,p4,p5,p6,p7⟩:=h2.bR k (.arr sz rows rows.length ex) (aq _ _ _) (h1.al k aO)
   have key:∀ c,rows.length<=c->aH (g.NV (g.ob k) (rows.length*sz)) w (.sl false rows) (.slice (some ⟨g.ob k,0,none⟩) rows.length c):=by
    intro c hc
    by_cases hn:rows=[]
    ·subst hn;exact .nil (fun h=>by cases h)
    ·refine .sl (sz:=sz) (val:=fun i j=>cs.getD (i*sz+j) undef) hn (fun h=>by cases h) (by omega) (fun i row hi=>(p5 i row hi).1) (fun i j row a hi hj=>?_) (fun i j row a hi hj=>?_)
     ·obtain⟨q1,q2⟩:=p5 i row hi
      obtain⟨x,hx,dH⟩:=q2 j a hj
      have sL:j < sz:=by rw [<-q1];exact (List.getElem?_eq_some_iff.1 hj).1
      have lQ:=(List.getElem?_eq_some_iff.1 hi).1
      refine⟨.inr ⟨rfl,?_⟩,?_⟩
      ·rw [Nat.zero_add];exact kr lQ sL
      ·rw [Nat.zero_add]
       rw [cell_of_row w (g.ob k) _ cs ty (0,0) p1,hx]
       simp [Array.getD_eq_getD_getElem?,hx]
     ·obtain⟨q1,q2⟩:=p5 i row hi
      obtain⟨x,hx,dH⟩:=q2 j a hj
      simp only [Array.getD_eq_getD_getElem?,hx,Option.getD_some]
      exact dH
   obtain⟨v,hv⟩:∃ v,q.tmps.getD t undef=v:=⟨_,rfl⟩
   rw [hv] at hr ⊢
   rcases ha with rfl|⟨c,rfl⟩
   ·rcases ot hr with ⟨h,A',rfl⟩|⟨fy,c,rfl,hx,hle⟩
    ·have:rows=[]:=List.length_eq_zero_iff.1 h
     subst this
     exact .nil (fun h=>by cases h)
    ·exact key _ hle
   ·cases hr with
    |ob fy hc hp hx hle=>rw [Nat.zero_mul];exact key _ hle
  ·refine⟨g,hS.forget (Nat.le_refl _) fun j p hj _=>?_,put (Later.refl g w) fun _=>?_,Ext.refl ..⟩
   ·have hj:a8 S.get k none j=some p:=hj
    by_cases e:j=k
    ·subst e;rw [aq] at hj;cases hj
    ·rwa [aC _ _ e] at hj
   ·obtain⟨v,hv⟩:∃ v,q.tmps.getD t undef=v:=⟨_,rfl⟩
    rw [hv] at hr ⊢
    rcases ha with rfl|⟨c,rfl⟩
    ·rcases ot hr with ⟨h,A',rfl⟩|⟨fy,c,rfl,hx,hle⟩
     ·have:rows=[]:=List.length_eq_zero_iff.1 h
      subst this
      exact .nil (fun h=>by cases h)
     ·exact absurd fy aO
    ·cases hr with
     |ob fy hc hp hx hle=>exact absurd fy aO
 ·refine⟨g,hS.forget (Nat.le_refl _) fun j p hj _=>?_,put (Later.refl g w) fun h=>absurd h aA,Ext.refl ..⟩
  have hj:a8 S.get k none j=some p:=hj
  by_cases e:j=k
  ·subst e;rw [aq] at hj;cases hj
  ·rwa [aC _ _ e] at hj
def Rv (w0:World) (r:AV) (S:ad) (r':AV) (S':ad):Prop:=∀ (A:Nat->Prop) (g0 g:Gh) (TS w:World) (v:Value),St w0 A g S w->aH g w r v->∃ g',St w0 A g' S' w/\aH g' w r' v/\Ext A g w g' w
theorem ae.rv {r':AV}{S1:ad}(h:ae P w0 false q α S r S') (k:Rv w0 r S' r' S1):ae P w0 false q α S r' S1:=by
 intro n o hr F m A g a w nx R hF hS hA hn
 refine h n o hr F m A g a w nx R hF hS hA fun v w' g' h1 h2 h3=>?_
 obtain⟨g2,k1,k2,k3⟩:=k A g g' w w' v h2 h1
 exact hn v w' g2 k2 k1 (h3.trans k3)
theorem bN.slot {g:Gh}{w:World}{a:Act}{t:Nat}{b:AV}(h:bN g w n α a) (ht:α.tm t ≠ .u) (hr:aH g w b (a.tmps.getD t undef)):bN g w n ⟨a8 α.tm t b,α.df⟩ a:=by
 have aA:t < n:=by
  rcases Nat.lt_or_ge t n with h1|h1
  ·exact h1
  ·exact absurd (h.out t h1) ht
 refine⟨h.size,fun s hs=>?_,fun s hs=>?_,h.df,h.rI⟩
 ·show aH g w (a8 α.tm t b s) _
  by_cases e:s=t
  ·subst e;rw [aq];exact hr
  ·rw [aC _ _ e];exact h.tm s hs
 ·show a8 α.tm t b s=.u
  rw [aC _ _ (by omega)];exact h.out s hs
theorem Fw {t k sz by_ len:Nat}{ex:Bool}{b:QO}{rows more:List (List AV)}{x:List AV}{o:Oper}(ho:res P.toTables o.op=some (.append sz by_ (.t t) b)) (h1:α.tm t=.gr k sz len) (hk:S.get k=some (.arr sz rows 0 ex)) (hn:len=rows.length)
  (hb:∀ c,b.ev (a8 α.tm t c)=b.ev α.tm) (hm:dD S (b.ev α.tm)=some (x::more)) (gH:dD (S.set k none) (b.ev α.tm)=some (x::more)) (h3:∀ row ∈ x::more,row.length=sz/\row.all bQ=true) (h4:(len+(x::more).length)*by_<=35184372088832) :
  ef P w0 n o α S (.gr S.nx sz (len+(x::more).length)) ((S.set k none).new (.arr sz (rows++x::more) 0 false)):=by
 intro F mm A g a w nx R hF hS hA mQ
 have aA:t < n:=by
  rcases Nat.lt_or_ge t n with h|h
  ·exact h
  ·have:=hA.out t h;rw [h1] at this;cases this
 have hr:=hA.tm t aA
 rw [h1] at hr
 obtain⟨v,hv⟩:∃ v,a.tmps.getD t undef=v:=⟨_,rfl⟩
 have a_:α.tm t ≠ .u:=by rw [h1];intro h;cases h
 rw [hv] at hr
 rcases ot hr with ⟨h,A',rfl⟩|⟨fy,c,rfl,hx,hle⟩
 ·have sM:rows=[]:=List.length_eq_zero_iff.1 (by omega)
  subst sM
  have Bg:bN g w n ⟨a8 α.tm t (.sl true []),α.df⟩ a:=hA.slot a_ (by rw [hv];exact .nil fun _=>rfl)
  have ld:St w0 A g (S.set k none) w:=hS.forget (Nat.le_refl _) fun j p hj _=>by
   have hj:a8 S.get k none j=some p:=hj
   by_cases e:j=k
   ·subst e;rw [aq] at hj;cases hj
   ·rwa [aC _ _ e] at hj
  have h5:=ae.Cq (P:=P) (w0:=w0) (dr:=false) (α:=⟨a8 α.tm t (.sl true []),α.df⟩) (S:=S.set k none) (sz:=sz) (by_:=by_) (a:=.t t) (b:=b) (rows:=[]) (aq _ _ _) (by rw [hb];exact gH) (by simp) (fun row hr=>(h3 row hr).1) (by subst h;simpa using h4) n o ho
  refine h5 F mm A g a w nx R hF ld Bg fun v w' g' k1 k2 k3=>mQ v w' g' ?_ k2 k3
  subst h
  cases k1 with
  |ob q1 q2 q3 q4 q5=>rw [Nat.zero_mul];exact .gr q1 (by have h:=q4 rfl;rw [Nat.zero_add] at h;exact h) q5
 ·have Bg:bN g w n ⟨a8 α.tm t (.ob k sz 0 len none),α.df⟩ a:=hA.slot a_ (by
   rw [hv]
   have:=aH.ob (g:=g) (w:=w) (k:=k) (sz:=sz) (off:=0) (len:=len) (c:=c) (cx:=none) fy (fun m h=>by cases h) (by omega) (fun _=>by omega) hle
   rwa [Nat.zero_mul] at this)
  have h5:=ae.JN (P:=P) (w0:=w0) (dr:=false) (α:=⟨a8 α.tm t (.ob k sz 0 len none),α.df⟩) (S:=S) (sz:=sz) (by_:=by_) (a:=.t t) (b:=b) (k:=k) (fz:=0) (ex:=ex) (rows:=rows) (aq _ _ _) hk (by rw [hb];exact hm) (Nat.zero_le _) (by omega) h3 h4 n o ho
  rw [List.take_of_length_le (by omega)] at h5
  refine h5 F mm A g a w nx R hF hS Bg fun v w' g' k1 k2 k3=>mQ v w' g' ?_ k2 k3
  cases k1 with
  |ob q1 q2 q3 q4 q5=>rw [Nat.zero_mul];exact .gr q1 (by have:=q4 rfl;omega) q5
theorem ae.Cw {t k sz by_ len:Nat}{ex:Bool}{b:QO}{rows more:List (List AV)}{x:List AV}(h1:α.tm t=.gr k sz len) (hk:S.get k=some (.arr sz rows 0 ex)) (hn:len=rows.length) (hb:∀ c,b.ev (a8 α.tm t c)=b.ev α.tm) (hm:dD S (b.ev α.tm)=some (x::more)) (gH:dD (S.set k none) (b.ev α.tm)=some (x::more))
  (h3:∀ row ∈ x::more,row.length=sz/\row.all bQ=true) (h4:(len+(x::more).length)*by_<=35184372088832):ae P w0 false (.append sz by_ (.t t) b) α S (.gr S.nx sz (len+(x::more).length)) ((S.set k none).new (.arr sz (rows++x::more) 0 false)) :=
 fun n o ho=>Fw ho h1 hk hn hb hm gH h3 h4
section
variable {ρ:Hd}{T:Type}{f:T->List AV}{acc:List T}{x:T}
theorem aa.app {dd:Option Nat}{gg:Option (Nat × Bool)}{t:Nat}{b:QO}{sz by_ k len:Nat}{ex:Bool}(hw:bD α.tm gg=some true) (h1:α.tm t=.gr k sz len) (hk:S.get k=some (.arr sz (ρ.h (List.map f) acc) 0 ex)) (hn:len=acc.length) (ku:∀ c,b.ev (a8 α.tm t c)=b.ev α.tm)
  (hb:dD S (b.ev α.tm)=some [f x]) (eg:dD (S.set k none) (b.ev α.tm)=some [f x]) (hl:(f x).length=sz) (hc:(f x).all bQ=true) (hy:(len+1)*by_<=35184372088832)
  (kk:∀ dE eU,dE=acc++[x]->eU=dE.length->aa P w0 rd n Q (.aU false l K) (bS dd α (.gr S.nx sz eU)) ((S.set k none).new (.arr sz (ρ.h (List.map f) dE) 0 false))):aa P w0 rd n Q (.aU false (⟨dd,gg,.append sz by_ (.t t) b⟩::l) K) α S:=by
 have hlen:(ρ.h (List.map f) acc).length=acc.length:=aF
 have h:=kk _ _ rfl rfl
 have e:ρ.h (List.map f) acc++[f x]=ρ.h (List.map f) (acc++[x]):=by rw [ρ.eq,ρ.eq,List.map_append];rfl
 rw [<-e,show (acc++[x]).length=len+[f x].length by simp;omega] at h
 exact aa.op (i:=⟨dd,gg,.append sz by_ (.t t) b⟩) hw (ae.Cw h1 hk (by omega) ku hb eg (by simpa using ⟨hl,by simpa using hc⟩) (by simpa using hy)) h
theorem bp.grow {S:ad}{k sz len:Nat}{ex:Bool}(hk:S.get k=some (.arr sz (ρ.h (List.map f) acc) 0 ex)) (hn:len=acc.length):bp S (.gr k sz len) (cE ρ f false acc):=by
 rw [cO]
 rw [ρ.eq] at hk
 refine .gr hk (by simp;omega) (by simp [hn]) (fun i row aV h1 h2=>?_) (fun i j row aV a a' h1 h2 h3 h4=>?_)
 ·rw [h2] at h1
  rw [oJ_ h1]
 ·rw [h2] at h1
  rw [oJ_ h1,h3] at h4
  rw [oJ_ h4]
  exact .refl _
end
end
end Go.Proofs.YtgjfgekaclobaaaGreat
