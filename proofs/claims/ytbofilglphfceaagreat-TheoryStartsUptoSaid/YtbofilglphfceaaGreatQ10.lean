import Derived.Test.YtbofilglphfceaaGreatQ9
namespace Go.Proofs.YtbofilglphfceaaGreat
set_option linter.unusedVariables false
set_option linter.unusedSimpArgs false
open Go.RowKit
structure t_ (z:Nat) (A:Nat->Prop) (g:Gh) (S:ae) (w:World):Prop where
 up:∀ b,w.heap.size<=b->A b
 lo:∀ b,A b->z<=b
 al:∀ k,g.al k->k < S.nx
 cC:∀ k o,S.get k=some o->g.al k->A (g.ob k)/\g.ob k < w.heap.size/\dC g w (g.ob k) (g.cp k) o
 inj:∀ j k o p,S.get j=some o->S.get k=some p->g.al j->g.al k->g.ob j=g.ob k->j=k
 cG:∀ b o,g.fz b o->b < w.heap.size
 mL:∀ b o,b < z->g.fz b o
 gX:∀ k J,S.get k=some (.fo J)->g.al k->∀ c,g.fo (g.ob k) c->A c/\c < w.heap.size
 jE:∀ k J j o,S.get k=some (.fo J)->g.al k->S.get j=some o->g.al j->j ≠ k->¬ g.fo (g.ob k) (g.ob j)
 lP:∀ j k J J',S.get j=some (.fo J)->S.get k=some (.fo J')->g.al j->g.al k->j=k
def Gh.BN (g:Gh) (Z:Nat->Nat->Prop):Gh:=⟨g.ob,g.cp,g.al,Z,g.fo⟩
section
variable {w0:World}{z:Nat}{A A':Nat->Prop}{g:Gh}{S:ae}{w w':World}
theorem St.free (h:St w0 A g S w):t_ w0.heap.size A g S w:=⟨h.up,h.lo,h.al,h.cC,h.inj,h.cG,h.mL,h.gX,h.jE,h.lP⟩
theorem t_.st (h:t_ w0.heap.size A g S w) (hb:Below w0.heap.size w0 w):St w0 A g S w:=⟨hb,h.up,h.lo,h.al,h.cC,h.inj,h.cG,h.mL,h.gX,h.jE,h.lP⟩
theorem t_.move (h:t_ z A g S w) (Z:Nat->Nat->Prop) (hs:w.heap.size<=w'.heap.size) (up:∀ b,w'.heap.size<=b->A' b) (lo:∀ b,A' b->z<=b)
  (hB:∀ c,A c->c < w.heap.size->((∃ k o,S.get k=some o/\g.al k/\c=g.ob k)\/∃ k J,S.get k=some (.fo J)/\g.al k/\g.fo (g.ob k) c)->A' c/\w'.heap[c]?=w.heap[c]?/\∀ q,Z c q->g.fz c q)
  (hc:∀ b q,g.fz b q->w'.cell? ⟨b,q,none⟩=w.cell? ⟨b,q,none⟩) (hz:∀ b q,g.fz b q->Z b q) (zlt:∀ b q,Z b q->b < w'.heap.size):Later g w (g.BN Z) w'/\t_ z A' (g.BN Z) S w':=by
 have hL:Later g w (g.BN Z) w':=⟨fun _ h=>h,fun _ _=>rfl,fun _ _=>rfl,hz,hc⟩
 refine⟨hL,up,lo,h.al,fun k o hk ha=>?_,h.inj,zlt,fun b q hb=>hz b q (h.mL b q hb),fun k J hk ha c hc=>?_,h.jE,h.lP⟩
 ·obtain⟨h1,h2,h3⟩:=h.cC k o hk ha
  obtain⟨h4,h5,h6⟩:=hB _ h1 h2 (.inl ⟨k,o,hk,ha,rfl⟩)
  refine⟨h4,Nat.lt_of_lt_of_le h2 hs,h3.later hL h5 h6 fun J hJ=>⟨rfl,hs,fun c hc=>?_,fun c q hc hq=>?_⟩⟩
  ·subst hJ
   obtain⟨k1,k2⟩:=h.gX k J hk ha c hc
   exact (hB c k1 k2 (.inr ⟨k,J,hk,ha,hc⟩)).2.1
  ·subst hJ
   obtain⟨k1,k2⟩:=h.gX k J hk ha c hc
   exact (hB c k1 k2 (.inr ⟨k,J,hk,ha,hc⟩)).2.2 q hq
 ·obtain⟨k1,k2⟩:=h.gX k J hk ha c hc
  exact⟨(hB c k1 k2 (.inr ⟨k,J,hk,ha,hc⟩)).1,Nat.lt_of_lt_of_le k2 hs⟩
theorem t_.Z8 (h:t_ z A g S w) {c:Nat}(hc:(∃ k o,S.get k=some o/\g.al k/\c=g.ob k)\/∃ k J,S.get k=some (.fo J)/\g.al k/\g.fo (g.ob k) c):A c/\c < w.heap.size:=by
 rcases hc with ⟨k,o,h1,h2,rfl⟩|⟨k,J,h1,h2,h3⟩
 ·exact⟨(h.cC k o h1 h2).1,(h.cC k o h1 h2).2.1⟩
 ·exact h.gX k J h1 h2 c h3
end
structure GL (gs gb:Gh):Prop where
 al:∀ k,gs.al k->gb.al k
 ob:∀ k,gs.al k->gb.ob k=gs.ob k
 cp:∀ k,gs.al k->gb.cp k=gs.cp k
 fz:∀ b q,gs.fz b q->gb.fz b q
def LJ (z:Nat) (A:Nat->Prop) (gs:Gh) (n:Nat) (T0:Array Value) (st:LoopState) (sO:Option Code) (ps:Array Tmp) (assign body:Code) (f0:Nat->AV) (S:ae):Nat->(Nat->Nat->Prop)->(Nat->Prop)->World->Prop :=
 fun b Z B w=>∃ (gb:Gh) (L:Loop),t_ z (fun c=>(B c/\c ≠ b)\/w.heap.size<=c) gb S w/\B b/\(∀ c,B c->A c/\c < w.heap.size) /\
  (w.heap[b]?=some (.loop L)/\L.state=st/\L.pending=sO/\L.params=ps/\L.assign=assign/\L.body=body/\L.tmps=T0)/\bY gb w n ⟨f0,[]⟩ { tmps:=T0,defers:=[] } /\
  (∀ c q,gb.fz c q->Z c q\/B c)/\(∀ c q,B c->Z c q->gb.fz c q)/\GL gs gb/\∀ c,w.heap.size<=c->A c
section
variable {z:Nat}{A:Nat->Prop}{gs:Gh}{n:Nat}{T0:Array Value}{st:LoopState}{sO:Option Code}{ps:Array Tmp}{assign body:Code}{f0:Nat->AV}{S:ae}
theorem LJ.ok:FL (LJ z A gs n T0 st sO ps assign body f0 S):=by
 rintro b Z Z' B w w' ⟨gb,L,h1,h2,h3,h4,h5,h6,h7,h8,h9⟩ hZ hZB zi kZ bH
 have hc:∀ c q,gb.fz c q->w'.cell? ⟨c,q,none⟩=w.cell? ⟨c,q,none⟩:=fun c q hq=>(h6 c q hq).elim (kZ c q) fun hB=>World.cell?_of_block (zi c hB)
 have Z9:∀ c,((B c/\c ≠ b)\/w.heap.size<=c)->c < w.heap.size->B c/\c ≠ b:=fun c hc au=>hc.resolve_right (by omega)
 obtain⟨k1,k2⟩:=h1.move (w':=w') (A':=fun c=>(B c/\c ≠ b)\/w'.heap.size<=c) gb.fz bH (fun c hc=>.inr hc) (fun c hc=>h1.lo c (hc.imp id fun h=>Nat.le_trans bH h))
  (fun c hA au _=>⟨.inl (Z9 c hA au),zi c (Z9 c hA au).1,fun _ h=>h⟩) hc (fun _ _ h=>h) (fun c q hq=>Nat.lt_of_lt_of_le (h1.cG c q hq) bH)
 exact⟨gb,L,k2,h2,fun c hc=>⟨(h3 c hc).1,Nat.lt_of_lt_of_le (h3 c hc).2 bH⟩,⟨(zi b h2).trans h4.1,h4.2⟩,h5.later k1,fun c q hq=>(h6 c q hq).imp (hZ c q) id,fun c q hB hq=>h7 c q hB (hZB c q hB hq),h8,fun c hc=>h9 c (Nat.le_trans bH hc)⟩
end
def qQ (f:Nat->AV):List (Nat × AV)->Nat->AV
 |[]=>f
 |p::l=>qQ (bO f p.1 p.2) l
section
variable {P:Program}{w0:World}{n:Nat}{T0:Array Value}{ps:Array Tmp}{assign body:Code}{f0:Nat->AV}{S bZ zj:ae}{bK vz:AA}{ex:Exit}{x:List AV}{B N:Nat}{m:List (Nat × Nat)}{so:List (Nat × Ob)}
theorem BO {g:Gh}{w:World}:∀ {l:List (Nat × AV)}{ys:List (Nat × Value)}{f:Nat->AV}{T:Array Value},bY g w n ⟨f,[]⟩ { tmps:=T,defers:=[] }->l.map (·.1)=ys.map (·.1)->(∀ p ∈ l,p.1 < n) ->
  (∀ (i:Nat) (p:Nat × AV) (y:Nat × Value),l[i]?=some p->ys[i]?=some y->aJ g w p.2 y.2)->bY g w n ⟨qQ f l,[]⟩ { tmps:=ys.foldl (fun T (t,a)=>T.setIfInBounds t a) T,defers:=[] }
 |[],[],f,T,h,_,_,_=>h
 |p::l,y::ys,f,T,h,hl,hn,hr=>by
  simp only [List.map_cons,List.cons.injEq] at hl
  have h1:bY g w n ⟨bO f p.1 p.2,[]⟩ { tmps:=T.setIfInBounds p.1 y.2,defers:=[] }:=h.put (hn p (by simp)) (hr 0 p y rfl rfl)
  have h2:bY g w n ⟨bO f p.1 p.2,[]⟩ { tmps:=T.setIfInBounds y.1 y.2,defers:=[] }:=by rw [<-hl.1];exact h1
  rw [qQ,List.foldl_cons]
  exact BO h2 hl.2 (fun q hq=>hn q (by simp [hq])) fun i q v h3 h4=>hr (i+1) q v (by simpa using h3) (by simpa using h4)
 |[],y::ys,f,T,h,hl,_,_=>by simp at hl
 |p::l,[],f,T,h,hl,_,_=>by simp at hl
def r_:Exit->Option (Option Code)
 |.normal=>some none
 |.ret=>some (some .ret)
 |.exit id=>some (some (.exit id))
 |_=>none
def kc (j:Option Code):LoopState:=match j with|none=>.ready|some _=>.done
theorem run_getLoop {w:World}{b:Nat}{L:Loop}(h:w.heap[b]?=some (.loop L)):(Instr.getLoop b).run P w=.ok L w:=by
 simp [Instr.getLoop,getObj,Sem.run,h]
def World.rec (w:World) (b:Nat) (L:Loop):World:={ w with heap:=w.heap.setIfInBounds b (.loop L) }
theorem gZ {w:World}{b:Nat}{L:Loop}:(World.rec w b L).heap.size=w.heap.size:=by simp [World.rec]
theorem gP {w:World}{b c:Nat}{L:Loop}(h:c ≠ b):(World.rec w b L).heap[c]?=w.heap[c]?:=by
 simp only [World.rec,Array.getElem?_setIfInBounds]
 rw [if_neg (Ne.symm h)]
theorem wM {w:World}{b:Nat}{L:Loop}(h:b < w.heap.size):(World.rec w b L).heap[b]?=some (.loop L):=by simp [World.rec,Array.getElem?_setIfInBounds,h]
theorem wN {w:World}{b:Nat}{L L':Loop}(h:w.heap[b]?=some (.loop L')) (c q:Nat):(World.rec w b L).cell? ⟨c,q,none⟩=w.cell? ⟨c,q,none⟩:=by
 by_cases e:c=b
 ·subst e
  have au:c < w.heap.size:=by
   rcases Nat.lt_or_ge c w.heap.size with h1|h1
   ·exact h1
   ·rw [Array.getElem?_eq_none h1] at h;cases h
  simp [World.cell?,wM au,h]
 ·exact World.cell?_of_block (gP e)
theorem sP {w:World}{b:Nat}{L L':Loop}(h:w.heap[b]?=some (.loop L')):(setObj b (.loop L)).run P w=.ok () (World.rec w b L):=by
 simp [setObj,Sem.run,h,World.rec]
theorem Ext.mono {A A':Nat->Prop}{g g':Gh}{w w':World}(h:Ext A g w g' w') (hs:∀ b,A b->A' b):Ext A' g w g' w' :=
 { h.toLater with size:=h.size,aV:=fun b hb hA=>h.aV b hb fun h=>hA (hs b h),f_:=fun b q hq=>(h.f_ b q hq).imp id (hs b) }
theorem St.R3 {A:Nat->Prop}{g:Gh}{w:World}(h:St w0 A g S w) {b:Nat}{L L':Loop}(hb:w.heap[b]?=some (.loop L')) (hA:¬ A b) (h0:w0.heap.size<=b):Later g w g (World.rec w b L)/\St w0 A g S (World.rec w b L):=by
 have au:b < w.heap.size:=by
  rcases Nat.lt_or_ge b w.heap.size with h1|h1
  ·exact h1
  ·rw [Array.getElem?_eq_none h1] at hb;cases hb
 obtain⟨h1,h2⟩:=h.free.move (w':=World.rec w b L) (A':=A) g.fz (by rw [gZ];exact Nat.le_refl _) (fun c hc=>h.up c (by rw [gZ] at hc;exact hc)) h.lo (fun c hc _ _=>⟨hc,gP (fun e=>hA (by rw [<-e];exact hc)),fun _ h=>h⟩)
  (fun c q _=>wN hb c q) (fun _ _ h=>h) (fun c q hq=>by rw [gZ];exact h.cG c q hq)
 exact⟨h1,h2.st ⟨h.base.os,h.base.tape,h.base.output,by rw [gZ];exact h.base.size,fun k hk=>(gP (by omega)).trans (h.base.block k hk)⟩⟩
theorem ov.Z_ (ha:cu P w0 true n assign ⟨qQ f0 (ps.toList.zip x),[]⟩ S .normal bK bZ) (hb:cu P w0 true n body bK bZ ex vz zj) (hC:Canon B N m vz zj [] [] so) {j:Option Code}(hj:r_ ex=some j)
  (hx:x.length=ps.size) (hp:∀ a ∈ x,Pure a) (Ey:∀ t ∈ ps,t < n) (BP:∀ t,dH B (f0 t)) {A:Nat->Prop}{gs:Gh}(hB:∀ k,gs.al k->k < B)
  {T:ae}{k:Nat}(hT:T.get k=some (.fo (LJ w0.heap.size A gs n T0 .ready none ps assign body f0 S))) :
  ov P w0 k x T (.v (.bool j.isNone)) (T.set k (some (.fo (LJ w0.heap.size A gs n T0 (kc j) j ps assign body f0 (aM so N))))):=by
 intro F mm A2 g bL w hF hS bN hA
 obtain⟨k2,k3,⟨gb,L,h1,h2,h3,⟨qR,R4,hL3,R5,hL5,hL6,hL7⟩,h5,h6,h7,h8,h9⟩,_⟩:=hS.cC k _ hT bN
 obtain⟨b,xL⟩:∃ b,g.ob k=b:=⟨_,rfl⟩
 rw [xL] at k2 k3 h1 h2 h3 qR h6 h7
 obtain⟨Bf,Al⟩:∃ Bf,g.fo b=Bf:=⟨_,rfl⟩
 rw [Al] at h1 h2 h3 h6 h7
 have I2:w0.heap.size<=b:=hS.lo b k2
 have au:b < w.heap.size:=k3
 have FM:∀ c,Bf c->A2 c/\c < w.heap.size:=fun c hc=>hS.gX k _ hT bN c (by rw [xL,Al];exact hc)
 obtain⟨Z,hZ⟩:∃ Z:Nat->Nat->Prop,Z=fun c q=>gb.fz c q\/g.fz c q:=⟨_,rfl⟩
 obtain⟨Ab,ua⟩:∃ Ab:Nat->Prop,Ab=fun c=>(Bf c/\c ≠ b)\/w.heap.size<=c:=⟨_,rfl⟩
 rw [<-ua] at h1
 have KR:∀ c,Ab c->c < w.heap.size->Bf c/\c ≠ b:=fun c hc au=>by rw [ua] at hc;exact hc.resolve_right (by omega)
 have Nc:¬ Ab b:=by rw [ua];rintro (h|h);exact h.2 rfl;omega
 obtain⟨m1,m2⟩:=h1.move (w':=w) (A':=Ab) Z (Nat.le_refl _) h1.up h1.lo (fun c hc au _=>⟨hc,rfl,fun q hq=>by
   rw [hZ] at hq
   exact hq.elim id fun h=>h7 c q (KR c hc au).1 h⟩) (fun _ _ _=>rfl) (fun _ _ h=>by rw [hZ];exact .inl h) (fun c q hq=>by
   rw [hZ] at hq
   exact hq.elim (h1.cG c q) (hS.cG c q))
 have dg:=m2.st hS.base
 have aeR:(gb.BN Z).fz=Z:=rfl
 have hAR:bY (gb.BN Z) w n ⟨qQ f0 (ps.toList.zip x),[]⟩ { tmps:=(ps.toList.zip bL.toList).foldl (fun T (t,a)=>T.setIfInBounds t a) T0,defers:=[] }:=by
  refine BO (h5.later m1) ?_ (fun p hp=>Ey _ (by simpa using (List.of_mem_zip hp).1)) (fun i p y I3 hy=>?_)
  ·have e1:bL.toList.length=x.length:=by rw [Array.length_toList];exact hA.1
   rw [List.map_fst_zip (by rw [Array.length_toList];omega),List.map_fst_zip (by rw [e1,Array.length_toList];omega)]
  ·rw [List.getElem?_zip_eq_some] at I3 hy
   have hr:=hA.2 i p.2 y.2 I3.2 (by rw [<-Array.getElem?_toList];exact hy.2)
   exact aJ.pure (g:=g) (fun c q hq=>by show Z c q;rw [hZ];exact .inr hq) (fun _ _ _=>rfl) hr (hp _ (List.mem_of_getElem? I3.2))
 have bA:bL.size=L.params.size:=by rw [hA.1,hx,R5]
 refine⟨b,L.fn,(ps.toList.zip bL.toList).foldl (fun T (t,a)=>T.setIfInBounds t a) T0,assign,body,?_,?_⟩
 ·rw [xL]
  simp only [Instr.yield,Sem.run_bind,run_getLoop qR,Result.andThen_ok,bA,ne_eq,not_true_eq_false,if_false,Sem.run_pure,hL5,hL6,hL7,R5]
  congr 3
  rw [<-Array.foldl_toList,Array.toList_zip]
 ·have hF':g7 (F.inRound b):=hF.inRound b
  have hR':(F.inRound b).round.isSome=true:=rfl
  refine roundIn_of_wpIn (hF.1 _) ?_
  refine wpIn_mono (ha (F.inRound b) mm Ab _ _ w hF' hR' dg hAR) ?_
  rintro e1 a1 w1 ⟨rfl,g1,s1,r1,x1⟩
  have eU:w1.heap[b]?=some (.loop L):=(x1.aV b au Nc).trans qR
  have BQ:b < w1.heap.size:=Nat.lt_of_lt_of_le au x1.size
  refine⟨World.rec w1 b { L with state:=.busy },?_,?_⟩
  ·simp only [Instr.beginRound,Sem.run_bind,run_getLoop eU,Result.andThen_ok,sP eU,R4,Sem.run_pure]
  obtain⟨y1,y2⟩:=s1.R3 (L:={ L with state:=.busy }) eU Nc I2
  refine wpIn_mono (hb (F.inRound b) mm Ab g1 a1 _ hF' hR' y2 (r1.later y1)) ?_
  rintro e2 a2 w2 ⟨rfl,g2,s2,r2,x2⟩
  have e9:w2.heap[b]?=some (.loop { L with state:=.busy }):=(x2.aV b (by rw [gZ];exact BQ) Nc).trans (wM BQ)
  have gu:b < w2.heap.size:=Nat.lt_of_lt_of_le (by rw [gZ];exact BQ) x2.size
  have zk:w.heap.size<=w2.heap.size:=Nat.le_trans x1.size (by have:=x2.size;rw [gZ] at this;exact this)
  obtain⟨w3,Ez⟩:∃ w3,World.rec w2 b { L with state:=kc j,pending:=j }=w3:=⟨_,rfl⟩
  obtain⟨u1,u2⟩:=s2.R3 (L:={ L with state:=kc j,pending:=j }) e9 Nc I2
  rw [Ez] at u1 u2
  have R6:w3.heap.size=w2.heap.size:=by rw [<-Ez];exact gZ
  have jJ:(Instr.endRound b j).run P w2=.ok (.bool j.isNone) w3:=by
   rw [<-Ez]
   cases j<;>simp only [Instr.endRound,Sem.run_bind,run_getLoop e9,Result.andThen_ok,Sem.run_pure,sP e9]<;>rfl
  have post:∃ v g',Ending.returned (.bool j.isNone)=.returned v/\aJ g' w3 (.v (.bool j.isNone)) v/\St w0 A2 g' (T.set k (some (.fo (LJ w0.heap.size A gs n T0 (kc j) j ps assign body f0 (aM so N))))) w3/\Ext A2 g w g' w3:=by
   have kZ:∀ c q,g.fz c q->w3.cell? ⟨c,q,none⟩=w.cell? ⟨c,q,none⟩:=fun c q hq=>by
    have Nd:(gb.BN Z).fz c q:=by show Z c q;rw [hZ];exact .inr hq
    rw [u1.cell c q (x2.fz c q (y1.fz c q (x1.fz c q Nd))),x2.cell c q (y1.fz c q (x1.fz c q Nd)),y1.cell c q (x1.fz c q Nd),x1.cell c q Nd]
   have Nf:∀ c,c < w.heap.size->¬ Ab c->c ≠ b->w3.heap[c]?=w.heap[c]?:=fun c hc hA bG=>by
    rw [<-Ez,gP bG,x2.aV c (by rw [gZ];exact Nat.lt_of_lt_of_le hc x1.size) hA,gP bG,x1.aV c hc hA]
   obtain⟨B',Am⟩:∃ B':Nat->Prop,B'=fun c=>Bf c\/(w.heap.size<=c/\c < w3.heap.size):=⟨_,rfl⟩
   obtain⟨g',ly⟩:∃ g':Gh,g'=⟨g.ob,g.cp,g.al,g.fz,fun d c=>(d=b/\B' c)\/(d ≠ b/\g.fo d c)⟩:=⟨_,rfl⟩
   have KS:g'.fo b=B':=by
    rw [ly];funext c
    exact propext ⟨fun h=>h.elim (·.2) fun h=>absurd rfl h.1,fun h=>.inl ⟨rfl,h⟩⟩
   have aeN:∀ d,d ≠ b->g'.fo d=g.fo d:=fun d hd=>by
    rw [ly];funext c
    exact propext ⟨fun h=>h.elim (fun h=>absurd h.1 hd) (·.2),fun h=>.inr ⟨hd,h⟩⟩
   have hL':Later g w g' w3:=by rw [ly];exact⟨fun _ h=>h,fun _ _=>rfl,fun _ _=>rfl,fun _ _ h=>h,kZ⟩
   have hE':Ext A2 g w g' w3:={ hL' with
    size:=by rw [R6];exact zk
    aV:=fun c hc hA=>Nf c hc (fun h=>hA (FM c (KR c h hc).1).1) (fun e=>hA (by rw [e];exact k2))
    f_:=fun c q hq=>by rw [ly] at hq;exact .inl hq }
   have sub:∀ c,Ab c->c < w3.heap.size->B' c/\c ≠ b:=fun c hc kf=>by
    rw [Am]
    rw [ua] at hc
    rcases hc with hc|hc
    ·exact⟨.inl hc.1,hc.2⟩
    ·exact⟨.inr ⟨hc,kf⟩,by omega⟩
   have l5:LJ w0.heap.size A gs n T0 (kc j) j ps assign body f0 (aM so N) b g'.fz (g'.fo b) w3/\FL (LJ w0.heap.size A gs n T0 (kc j) j ps assign body f0 (aM so N)):=by
    refine⟨?_,LJ.ok⟩
    rw [KS]
    have xM:=hC.st u2
    have R7:=Nat.le_of_ble_eq_true hC.bn
    obtain⟨v1,v2⟩:=xM.free.move (w':=w3) (A':=fun c=>(B' c/\c ≠ b)\/w3.heap.size<=c) (g2.e_ B N (bX m)).fz (Nat.le_refl _) (fun c hc=>.inr hc) (fun c hc=>by
      rcases hc with hc|hc
      ·rw [Am] at hc
       rcases hc.1 with h|h
       ·exact hS.lo c (FM c h).1
       ·have:=hS.base.size;omega
      ·have h1:=hS.base.size;omega) (fun c hc au _=>⟨.inl (sub c hc au),rfl,fun _ h=>h⟩) (fun _ _ _=>rfl) (fun _ _ h=>h) (fun c q hq=>xM.cG c q hq)
    have j4:Ext (fun c=>Ab c\/c=b) (gb.BN Z) w g2 w3:=((x1.mono fun _ h=>.inl h).trans (g2:=g1) { y1 with size:=by rw [gZ];exact Nat.le_refl _,aV:=fun c _ hA=>gP (fun e=>hA (.inr e)),f_:=fun _ _ h=>.inl h }).trans
     ((x2.mono fun _ h=>.inl h).trans { u1 with size:=by rw [R6];exact Nat.le_refl _,aV:=fun c _ hA=>by rw [<-Ez];exact gP (fun e=>hA (.inr e)),f_:=fun _ _ h=>.inl h })
    have nG:∀ c,(Ab c\/c=b)->c < w3.heap.size->B' c:=fun c hc kf=>hc.elim (fun h=>(sub c h kf).1) fun e=>by rw [e,Am];exact .inl h2
    refine⟨g2.e_ B N (bX m),{ L with state:=kc j,pending:=j },v2,by rw [Am];exact .inl h2,fun c hc=>?_,⟨by rw [<-Ez];exact wM gu,rfl,rfl,R5,hL5,hL6,hL7⟩,?_,fun c q hq=>?_,fun c q hc hq=>?_,?_,fun c hc=>h9 c (by omega)⟩
    ·rw [Am] at hc
     rcases hc with hc|hc
     ·exact⟨(h3 c hc).1,by have:=(h3 c hc).2;omega⟩
     ·exact⟨h9 c hc.1,hc.2⟩
    ·have R8:=(h5.later m1).later j4.toLater
     exact⟨R8.size,fun t ht=>(R8.tm t ht).e_ R7 (BP t),R8.out,rfl,fun k hk=>by cases hk⟩
    ·have Ng:g2.fz c q:=hq
     have kf:=u2.cG c q Ng
     rw [ly]
     rcases j4.f_ c q Ng with h|h
     ·have h:Z c q:=h
      rw [hZ] at h
      rcases h with h|h
      ·exact (h6 c q h).imp id fun h=>by rw [Am];exact .inl h
      ·exact .inl h
     ·exact .inr (nG c h kf)
    ·rw [ly] at hq
     have:Z c q:=by rw [hZ];exact .inr hq
     exact j4.fz c q this
    ·have e0:∀ k,gs.al k->cW B (bX m) k=k:=fun k hk=>jo (hB k hk)
     refine⟨fun k hk=>⟨by have:=hB k hk;omega,?_⟩,fun k hk=>?_,fun k hk=>?_,fun c q hq=>j4.fz c q (by show Z c q;rw [hZ];exact .inl (h8.fz c q hq))⟩
     ·rw [e0 k hk];exact j4.al k (h8.al k hk)
     ·show g2.ob (cW B (bX m) k)=gs.ob k
      rw [e0 k hk,j4.ob k (h8.al k hk)];exact h8.ob k hk
     ·show g2.cp (cW B (bX m) k)=gs.cp k
      rw [e0 k hk,j4.cp k (h8.al k hk)];exact h8.cp k hk
   have key:∀ l r,(T.set k (some (.fo (LJ w0.heap.size A gs n T0 (kc j) j ps assign body f0 (aM so N))))).get l=some r->(l=k/\r=.fo (LJ w0.heap.size A gs n T0 (kc j) j ps assign body f0 (aM so N)))\/(l ≠ k/\T.get l=some r):=by
    intro l r hl
    have hl:bO T.get k (some (.fo (LJ w0.heap.size A gs n T0 (kc j) j ps assign body f0 (aM so N)))) l=some r:=hl
    by_cases e:l=k
    ·subst e;rw [aE] at hl;exact .inl ⟨rfl,(Option.some.inj hl).symm⟩
    ·rw [aK _ _ e] at hl;exact .inr ⟨e,hl⟩
   have KT:∀ l r,(T.set k (some (.fo (LJ w0.heap.size A gs n T0 (kc j) j ps assign body f0 (aM so N))))).get l=some r->∃ r',T.get l=some r':=fun l r hl=>(key l r hl).elim (fun e=>⟨.fo (LJ w0.heap.size A gs n T0 .ready none ps assign body f0 S),e.1.symm ▸ hT⟩) fun e=>⟨r,e.2⟩
   have BR:∀ i,g'.ob i=g.ob i:=fun i=>by rw [ly]
   have EA:∀ i,g'.al i=g.al i:=fun i=>by rw [ly]
   have An:g'.fz=g.fz:=by rw [ly]
   refine⟨_,g',rfl,.v,⟨u2.base,fun c hc=>hS.up c (by omega),hS.lo,fun i hi=>hS.al i (by rw [<-EA];exact hi),fun i o hi sa=>?_,fun i l o p hi hl ai al e=>?_,fun c q hq=>by rw [An] at hq;have:=hS.cG c q hq;omega,fun c q hc=>by rw [An];exact hS.mL c q hc,
    fun i J hi sa c hc=>?_,fun i J l o hi sa hl zl bG hc=>?_,fun i l J J' hi hl ai al=>?_⟩,hE'⟩
   ·rw [EA] at sa
    rcases key i o hi with ⟨rfl,rfl⟩|⟨bG,hi⟩
    ·rw [BR,xL]
     exact⟨k2,by omega,l5⟩
    ·obtain⟨q1,q2,q3⟩:=hS.cC i o hi sa
     have hib:g.ob i ≠ b:=fun e=>bG (hS.inj i k o _ hi hT sa bN (by rw [e,xL]))
     have hnA:¬ Ab (g.ob i):=fun h=>hS.jE k _ i o hT bN hi sa bG (by rw [xL,Al];exact (KR _ h q2).1)
     have nr:g'.cp i=g.cp i:=by rw [ly]
     rw [BR,nr]
     refine⟨q1,by omega,q3.later hL' (Nf _ q2 hnA hib) (fun q hq=>by rw [An] at hq;exact hq) fun J hJ=>?_⟩
     subst hJ
     exact absurd (hS.lP i k J _ hi hT sa bN) bG
   ·rw [EA] at ai al
    rw [BR,BR] at e
    obtain⟨_,gC⟩:=KT i o hi
    obtain⟨_,mM⟩:=KT l p hl
    exact hS.inj i l _ _ gC mM ai al e
   ·rw [EA] at sa
    rcases key i _ hi with ⟨rfl,_⟩|⟨bG,hi⟩
    ·rw [BR,xL,KS,Am] at hc
     rcases hc with hc|hc
     ·exact⟨(FM c hc).1,by have:=(FM c hc).2;omega⟩
     ·exact⟨hS.up c hc.1,hc.2⟩
    ·exact absurd (hS.lP i k J _ hi hT sa bN) bG
   ·rw [EA] at sa zl
    rcases key i _ hi with ⟨rfl,_⟩|⟨abb,hi⟩
    ·rw [BR,xL,KS,Am,BR] at hc
     obtain⟨_,mM⟩:=KT l o hl
     rcases hc with hc|hc
     ·exact hS.jE i _ l _ hT bN mM zl bG (by rw [xL,Al];exact hc)
     ·have:=(hS.cC l _ mM zl).2.1;omega
    ·exact absurd (hS.lP i k J _ hi hT sa bN) abb
   ·rw [EA] at ai al
    have to:∀ x J,(T.set k (some (.fo (LJ w0.heap.size A gs n T0 (kc j) j ps assign body f0 (aM so N))))).get x=some (.fo J)->g.al x->x=k:=fun x J hx ax=>(key x _ hx).elim (·.1) fun e=>hS.lP x k J _ e.2 hT ax bN
    rw [to i J hi ai,to l J' hl al]
  cases e2 with
  |normal=>obtain rfl:=Option.some.inj hj;exact⟨_,w3,jJ,post⟩
  |ret=>obtain rfl:=Option.some.inj hj;exact⟨_,w3,jJ,post⟩
  |exit id=>obtain rfl:=Option.some.inj hj;exact⟨_,w3,jJ,post⟩
  |_=>cases hj
theorem ub {g:Gh}{w:World}{f:Fn}{l m:List AV}{v:Value}(h:aJ g w (.fn f l m) v):∃ cs ds,v=.func f cs ds/\jm g w l cs/\jm g w m ds:=by
 cases h with
 |fn h1 h2 h3 h4=>exact⟨_,_,rfl,⟨h1,h3⟩,⟨h2,h4⟩⟩
theorem l6 {J:Nat->(Nat->Nat->Prop)->(Nat->Prop)->World->Prop}{k:Nat}{o:Ob}(h:(aM [(0,.fo J)] 1).get k=some o):k=0/\o=.fo J:=by
 have h:ix [(0,.fo J)] k=some o:=h
 have:=iR h
 simp only [List.mem_singleton,Prod.mk.injEq] at this
 exact this
structure I4 (P:Program) (w0:World) (n:Nat) (A:Nat->Prop) (g0:Gh) (α:AA) (S:ae) (a:Act) (w:World) (B:Nat) (fn:FuncId) (ps:Array Tmp) (assign body:Code) (f0:Nat->AV) (T:ae) (gs gi:Gh) (w1 w2:World) (b:Nat) (a1:Act):Prop where
 cX:{ a with defers:=[{ target:=.collected w.heap.size,args:=#[] }]++a.defers }=a1
 j4:Ext A g0 w gs w1
 Nh:∀ k,gs.al k->k < B
 Aj:bY gs w1 n ⟨α.tm,S.nx::α.df⟩ a1
 hb:w1.heap.size=b
 zk:w2.heap.size=b+1
 hold:∀ c,c < b->w2.heap[c]?=w1.heap[c]?
 BS:(Instr.enterLoop fn a.tmps ps assign body none).run P w=.ok (b,[{ target:=.collected w.heap.size,args:=#[] }]) w2
 ua:A b
 lo:∀ c,A c->w0.heap.size<=c
 Ni:St w0 A gi (aM [(0,.fo (LJ w0.heap.size A gs n a.tmps .ready none ps assign body f0 T))] 1) w2
 ob:gi.ob 0=b
 al:gi.al 0
 R9:∀ c q,gs.fz c q->gi.fz c q
 R_:∀ c q,gi.fz c q->gs.fz c q\/A c
 au:∀ c q,gs.fz c q->c < w1.heap.size
theorem I4.of {α:AA}{st0:List (Nat × AV)}{so0:List (Nat × Ob)}{A:Nat->Prop}{g0:Gh}{a:Act}{w:World}(hS:St w0 A g0 S w) (hA:bY g0 w n α a)
  (hC:Canon B N m ⟨α.tm,S.nx::α.df⟩ (S.new .df) st0 (S.nx::α.df) so0) (hB:S.nx+1<=B) (fn:FuncId):∃ gs gi w1 w2 b a1,I4 P w0 n A g0 α S a w B fn ps assign body (dX st0 []).tm (aM so0 N) gs gi w1 w2 b a1:=by
 obtain⟨j4,eV⟩:=hS.new (.deferred (some [])) .df 0 (fun J=>by simp) (fun hL=>dk)
 obtain⟨gs,Sa⟩:∃ gs,g0.new S.nx w.heap.size 0=gs:=⟨_,rfl⟩
 obtain⟨w1,qS⟩:∃ w1,w.alloc (.deferred (some []))=w1:=⟨_,rfl⟩
 rw [Sa,qS] at j4 eV
 have gB:gs.ob S.nx=w.heap.size:=by rw [<-Sa];exact aE _ _ _
 have bN:gs.al S.nx:=by rw [<-Sa];exact .inr rfl
 have Nh:∀ k,gs.al k->k < B:=fun k hk=>by
  have:=eV.al k hk
  have:k < S.nx+1:=this
  omega
 have Aj:bY gs w1 n ⟨α.tm,S.nx::α.df⟩ { a with defers:=({ target:=.collected w.heap.size,args:=#[] }:Deferred)::a.defers }:=by
  have h:=hA.later j4.toLater
  refine⟨h.size,h.tm,h.out,?_,fun k hk=>?_⟩
  ·show _=({ target:=.collected (gs.ob S.nx),args:=#[] }:Deferred)::_
   rw [gB,<-h.df]
  ·rcases List.mem_cons.1 hk with rfl|hk
   ·exact bN
   ·exact h.sb k hk
 obtain⟨a1,cX⟩:∃ a1:Act,{ a with defers:=({ target:=.collected w.heap.size,args:=#[] }:Deferred)::a.defers }=a1:=⟨_,rfl⟩
 rw [cX] at Aj
 have R7:=Nat.le_of_ble_eq_true hC.bn
 have qT:=hC.st eV
 have hAc:=hC.FN Aj
 obtain⟨gc,EB⟩:∃ gc,gs.e_ B N (bX m)=gc:=⟨_,rfl⟩
 have EC:Ext A gs w1 gc w1:=by rw [<-EB];exact (Ext.refl A gs w1).e_ R7 Nh
 rw [EB] at qT hAc
 obtain⟨L,BT⟩:∃ L:Loop,{ state:=.ready,pending:=none,fn,tmps:=a.tmps,params:=ps,assign,body,defers:=w.heap.size }=L:=⟨_,rfl⟩
 obtain⟨w2,xN⟩:∃ w2,w1.alloc (.loop L)=w2:=⟨_,rfl⟩
 obtain⟨b,hb⟩:∃ b,w1.heap.size=b:=⟨_,rfl⟩
 have zk:w2.heap.size=b+1:=by rw [<-xN,<-hb];exact size_alloc
 have hold:∀ c,c < b->w2.heap[c]?=w1.heap[c]?:=fun c hc=>by rw [<-xN];exact eT (by rw [hb];exact hc)
 have sQ:w2.heap[b]?=some (.loop L):=by rw [<-xN,<-hb];exact dk
 have BS:(Instr.enterLoop fn a.tmps ps assign body none).run P w=.ok (b,[{ target:=.collected w.heap.size,args:=#[] }]) w2:=by
  rw [<-xN,<-qS,<-hb,<-qS,<-BT]
  simp only [Instr.enterLoop,newObj,Sem.run_bind,Sem.run,Result.andThen_ok,Sem.run_pure]
  rfl
 obtain⟨Sb,qU⟩:=qT.free.move (w':=w2) (A':=A) gc.fz (by omega) (fun c hc=>qT.up c (by omega)) qT.lo (fun c hc au _=>⟨hc,hold c (by omega),fun _ h=>h⟩)
  (fun c q hq=>World.cell?_of_block (hold c (by rw [<-hb];exact qT.cG c q hq))) (fun _ _ h=>h) (fun c q hq=>by have:=qT.cG c q hq;omega)
 have qU:t_ w0.heap.size A gc (aM so0 N) w2:=qU
 have Sb:Later gc w1 gc w2:=Sb
 have Sc:Below w0.heap.size w0 w2:=by
  refine⟨?_,?_,?_,by have:=qT.base.size;omega,fun k hk=>(hold k (by have:=qT.base.size;omega)).trans (qT.base.block k hk)⟩
  ·rw [<-xN];exact qT.base.os
  ·rw [<-xN];exact qT.base.tape
  ·rw [<-xN];exact qT.base.output
 have ua:A b:=qT.up b (by omega)
 obtain⟨Bf,Al⟩:∃ Bf:Nat->Prop,Bf=fun c=>c=b\/(∃ k o,(aM so0 N).get k=some o/\gc.al k/\c=gc.ob k)\/∃ k J,(aM so0 N).get k=some (.fo J)/\gc.al k/\gc.fo (gc.ob k) c:=⟨_,rfl⟩
 have KU:∀ c,Bf c->A c/\c < w2.heap.size:=fun c hc=>by
  rw [Al] at hc
  rcases hc with rfl|hc
  ·exact⟨ua,by omega⟩
  ·exact qU.Z8 hc
 have abc:Bf b:=by rw [Al];exact .inl rfl
 have hLJ:LJ w0.heap.size A gs n a.tmps .ready none ps assign body (dX st0 []).tm (aM so0 N) b gc.fz Bf w2:=by
  obtain⟨v1,v2⟩:=qU.move (w':=w2) (A':=fun c=>(Bf c/\c ≠ b)\/w2.heap.size<=c) gc.fz (Nat.le_refl _) (fun c hc=>.inr hc) (fun c hc=>hc.elim (fun h=>qU.lo c (KU c h.1).1) fun h=>qU.lo c (qU.up c h))
   (fun c hc au h=>⟨.inl ⟨by rw [Al];exact .inr h,fun e=>by
    have:=qT.free.Z8 h
    omega⟩,rfl,fun _ h=>h⟩) (fun _ _ _=>rfl) (fun _ _ h=>h) qU.cG
  refine⟨gc,L,v2,abc,KU,⟨sQ,by rw [<-BT],by rw [<-BT],by rw [<-BT],by rw [<-BT],by rw [<-BT],by rw [<-BT]⟩,?_,fun c q hq=>.inl hq,fun c q _ hq=>hq,⟨EC.al,EC.ob,EC.cp,EC.fz⟩,fun c hc=>qU.up c hc⟩
  have h:=hAc.later Sb
  have h1:=h.size
  have h2:=h.tm
  rw [<-cX] at h1 h2
  exact⟨h1,h2,h.out,rfl,fun k hk=>by cases hk⟩
 obtain⟨gi,Ao⟩:∃ gi:Gh,gi=⟨fun _=>b,fun _=>0,fun k=>k=0,gc.fz,fun _=>Bf⟩:=⟨_,rfl⟩
 obtain⟨J0,hJ0⟩:∃ J0,LJ w0.heap.size A gs n a.tmps .ready none ps assign body (dX st0 []).tm (aM so0 N)=J0:=⟨_,rfl⟩
 have Ni:St w0 A gi (aM [(0,.fo J0)] 1) w2:=by
  have e1:∀ k,gi.ob k=b:=fun k=>by rw [Ao]
  have e2:∀ k,gi.fo k=Bf:=fun k=>by rw [Ao]
  have e3:gi.fz=gc.fz:=by rw [Ao]
  have e4:∀ k,gi.al k->k=0:=fun k hk=>by rw [Ao] at hk;exact hk
  refine⟨Sc,qU.up,qU.lo,fun k hk=>by rw [e4 k hk];exact Nat.one_pos,fun k o hk ha=>?_,fun i k o p hi hk _ _ _=>(l6 hi).1.trans (l6 hk).1.symm,fun c q hq=>qU.cG c q (by rw [<-e3];exact hq),fun c q hc=>by rw [e3];exact qU.mL c q hc,
   fun k J hk ha c hc=>KU c (by rw [e2] at hc;exact hc),fun k J i o hk _ hi _ bG=>absurd ((l6 hi).1.trans (l6 hk).1.symm) bG,fun i k J J' hi hk _ _=>(l6 hi).1.trans (l6 hk).1.symm⟩
  obtain⟨rfl,rfl⟩:=l6 hk
  rw [e1]
  refine⟨ua,by omega,?_⟩
  show J0 b gi.fz (gi.fo b) w2/\FL J0
  rw [e2,e3,<-hJ0]
  exact⟨hLJ,LJ.ok⟩
 rw [<-hJ0] at Ni
 exact⟨gs,gi,w1,w2,b,a1,cX,j4,Nh,Aj,hb,zk,hold,BS,ua,qU.lo,Ni,by rw [Ao],by rw [Ao],fun c q hq=>by rw [Ao];exact EC.fz c q hq,fun c q hq=>by rw [Ao] at hq;exact EC.f_ c q hq,fun c q hq=>eV.cG c q hq⟩
theorem I4.out {α:AA}{st0:List (Nat × AV)}{so1:List (Nat × Ob)}{j:Option Code}{A:Nat->Prop}{g0:Gh}{a:Act}{w:World}{fn:FuncId}{T S1:ae}{gs gi I5:Gh}{w1 w2 w3:World}{b:Nat}{a1:Act}
  (h:I4 P w0 n A g0 α S a w B fn ps assign body (dX st0 []).tm T gs gi w1 w2 b a1) (BQ:∀ c q,gs.fz c q->c < w1.heap.size)
  (KV:S1.get 0=some (.fo (LJ w0.heap.size A gs n a.tmps (kc j) j ps assign body (dX st0 []).tm (aM so1 N)))) (oZ:St w0 A I5 S1 w3) (o3:Ext A gi w2 I5 w3) :
  ∃ w4,(Instr.endLoop b).run P w3=.ok j w4/\∀ ex,k_ w0 n A g0 w ex (dX st0 (S.nx::α.df)) (aM so1 N) ex a1 w4:=by
 have Sd:=h.al
 have mj:I5.ob 0=b:=(o3.ob 0 Sd).trans h.ob
 obtain⟨_,kf,⟨gb,L3,p1,p2,p3,⟨q1,q2,q3,q4,q5,q6,q7⟩,p5,p6,p7,p8,p9⟩,_⟩:=oZ.cC 0 _ KV (o3.al 0 Sd)
 rw [mj] at p1 p2 p3 q1 p6 p7 kf
 obtain⟨B3,hB3⟩:∃ B3,I5.fo b=B3:=⟨_,rfl⟩
 rw [hB3] at p1 p2 p3 p6 p7
 obtain⟨w4,v9⟩:∃ w4,World.rec w3 b { L3 with state:=.exhausted }=w4:=⟨_,rfl⟩
 have abd:w4.heap.size=w3.heap.size:=by rw [<-v9];exact gZ
 have jJ:(Instr.endLoop b).run P w3=.ok j w4:=by
  have:(L3.state == .busy)=false:=by rw [q2];cases j<;>rfl
  rw [<-v9]
  simp only [Instr.endLoop,Sem.run_bind,run_getLoop q1,Result.andThen_ok,this,Bool.false_eq_true,if_false,sP q1,Sem.run_pure,q3]
 obtain⟨z1,z2⟩:=p1.move (w':=w4) (A':=A) gb.fz (by omega) (fun c hc=>p9 c (by omega)) h.lo (fun c hc au h=>by
   have hc:=hc.resolve_right (by omega)
   exact⟨(p3 c hc.1).1,by rw [<-v9];exact gP hc.2,fun _ h=>h⟩) (fun c q _=>by rw [<-v9];exact wN q1 c q) (fun _ _ h=>h) (fun c q hq=>by rw [abd];exact p1.cG c q hq)
 have z2:t_ w0.heap.size A gb (aM so1 N) w4:=z2
 have I2:w0.heap.size<=b:=h.lo b h.ua
 have Se:Below w0.heap.size w0 w4:=by
  refine⟨?_,?_,?_,by have:=oZ.base.size;omega,fun k hk=>?_⟩
  ·rw [<-v9];exact oZ.base.os
  ·rw [<-v9];exact oZ.base.tape
  ·rw [<-v9];exact oZ.base.output
  ·rw [<-v9];exact (gP (by omega)).trans (oZ.base.block k hk)
 have KW:Ext A g0 w gb w4:=by
  refine h.j4.trans ⟨⟨p8.al,p8.ob,p8.cp,p8.fz,fun c q hq=>?_⟩,by have:=o3.size;have:=h.zk;have:=h.hb;omega,fun c hc hA'=>?_,fun c q hq=>?_⟩
  ·rw [<-v9,wN q1,o3.cell c q (h.R9 c q hq)]
   exact World.cell?_of_block (h.hold c (by rw [<-h.hb];exact BQ c q hq))
  ·have:=h.zk;have:=h.hb
   rw [<-v9,gP (fun e=>hA' (by rw [e];exact h.ua)),o3.aV c (by omega) hA',h.hold c (by omega)]
  ·rcases p6 c q hq with h1|h1
   ·rcases o3.f_ c q h1 with h2|h2
    ·exact h.R_ c q h2
    ·exact .inr h2
   ·exact .inr (p3 c h1).1
 have hAf:bY gb w4 n (dX st0 (S.nx::α.df)) a1:=by
  have h':=p5.later (z1:Later gb w3 gb w4)
  have e1:a1.tmps=a.tmps:=by rw [<-h.cX]
  refine⟨by rw [e1];exact h'.size,fun t ht=>by rw [e1];exact h'.tm t ht,h'.out,?_,fun k hk=>?_⟩
  ·show a1.defers=(S.nx::α.df).map _
   rw [h.Aj.df]
   exact List.map_congr_left fun k hk=>by rw [p8.ob k (h.Aj.sb k hk)]
  ·exact p8.al k (h.Aj.sb k hk)
 exact⟨w4,jJ,fun ex=>⟨rfl,gb,z2.st Se,hAf,KW⟩⟩
theorem cu.range {α:AA}{g:Operand}{gid:FuncId}{first cap:List AV}{st0:List (Nat × AV)}{so0 so1:List (Nat × Ob)}{j:Option Code}
  (hf:α.ev g=.fn (.func gid) first cap) (Sf:∀ a ∈ first,Pure a) (Sg:∀ a ∈ cap,Pure a)
  (hC:Canon B N m ⟨α.tm,S.nx::α.df⟩ (S.new .df) st0 (S.nx::α.df) so0) (hB:S.nx+1<=B) (hj:r_ ex=some j)
  (hI:∀ (A:Nat->Prop) (gs:Gh) (T0:Array Value),(∀ k,gs.al k->k < B)->∃ r S1,bc P w0 gid (first++[.yl 0]++cap) (aM [(0,.fo (LJ w0.heap.size A gs n T0 .ready none ps assign body (dX st0 []).tm (aM so0 N)))] 1) r S1 /\
   S1.get 0=some (.fo (LJ w0.heap.size A gs n T0 (kc j) j ps assign body (dX st0 []).tm (aM so1 N)))) :
  cu P w0 false n (.rangeFunc g ps assign body) α S ex (dX st0 (S.nx::α.df)) (aM so1 N):=by
 intro F mm A g0 a w hF hR hS hA
 have nt:F.round=none:=by
  cases h:F.round with
  |none=>rfl
  |some l=>rw [h] at hR;cases hR
 refine wpIn_rangeFunc fun fn BH=>?_
 obtain⟨gs,gi,w1,w2,b,a1,h⟩:=I4.of (P:=P) (ps:=ps) (assign:=assign) (body:=body) hS hA hC hB fn
 obtain⟨r,S1,bI,KV⟩:=hI A gs a.tmps h.Nh
 have Sh:=hA.ev g
 rw [hf] at Sh
 obtain⟨cs,ds,hev,Ap,Nj⟩:=ub Sh
 have toI:∀ {l:List AV}{xs:Array Value},(∀ a ∈ l,Pure a)->jm g0 w l xs->jm gi w2 l xs:=fun hp h1=>⟨h1.1,fun i a x ha hx=>aJ.pure (g:=g0) (fun c q hq=>h.R9 c q (h.j4.fz c q hq)) (fun c q hq=>by
   have au:=hS.cG c q hq
   have:=h.j4.size
   rw [<-h.j4.cell c q hq]
   exact World.cell?_of_block (h.hold c (by rw [<-h.hb];omega))) (h1.2 i a x ha hx) (hp a (List.mem_of_getElem? ha))⟩
 obtain⟨ya,Si⟩:∃ ya:Array Value,ya=#[.func (.yield b) #[] #[]]:=⟨_,rfl⟩
 have Wm:jm gi w2 (first++[.yl 0]++cap) (cs++ya++ds):=by
  refine fF (fF (toI Sf Ap) ⟨by rw [Si];rfl,fun i a x ha hx=>?_⟩) (toI Sg Nj)
  match i with
  |0 =>
   rw [Si] at hx
   simp at ha hx
   subst ha hx
   have:=aJ.yl (g:=gi) (w:=w2) (k:=0) h.al
   rw [h.ob] at this
   exact this
  |i+1=>simp at ha
 have dz:(resolve a.eval (rangeCall g b) 0).run P w2=.ok { target:=.fn (.func gid) ds,args:=cs++ya } w2:=by
  rw [Si]
  have e1:(rangeCall g b).args.map a.eval=#[.func (.yield b) #[] #[]]:=by simp [rangeCall,Act.eval]
  simp only [resolve,e1,hev,Deferred.ofValue]
  rfl
 refine⟨b,_,w2,_,w2,gid,cs++ya++ds,w2,by rw [nt];exact h.BS,dz,fun f' _=>hF.1 f',bI.1 _ w2,fun hd=>(by rw [hF.2.1] at hd;cases hd),(bI.2 F (mm - 1) A gi _ w2 hF h.Ni Wm).mono ?_⟩
 rintro e w3 ⟨v,I5,rfl,hr3,oZ,o3⟩
 obtain⟨w4,jJ,xO⟩:=h.out (j:=j) h.au KV oZ o3
 rw [h.cX]
 refine⟨j,w4,jJ,?_⟩
 have xO:=xO ex
 cases ex with
 |normal=>obtain rfl:=Option.some.inj hj;exact xO
 |ret=>obtain rfl:=Option.some.inj hj;exact wpIn_ret xO
 |exit id=>obtain rfl:=Option.some.inj hj;exact wpIn_exit xO
 |_=>cases hj
end
abbrev lz:=Nat->(Nat->Nat->Prop)->(Nat->Prop)->World->Prop
inductive Ys (P:Program) (w0:World):lz->List (List AV)->Bool->lz->Prop where
 |nil (J:lz):Ys P w0 J [] true J
 |cons {J J1 J':lz}{x:List AV}{xs:List (List AV)}{b:Bool}(h:∀ (T:ae) (k:Nat),T.get k=some (.fo J)->ov P w0 k x T (.v (.bool true)) (T.set k (some (.fo J1)))) (t:Ys P w0 J1 xs b J'):Ys P w0 J (x::xs) b J'
 |stop {J J':lz}{x:List AV}{xs:List (List AV)}(h:∀ (T:ae) (k:Nat),T.get k=some (.fo J)->ov P w0 k x T (.v (.bool false)) (T.set k (some (.fo J')))):Ys P w0 J (x::xs) false J'
def Iter (P:Program) (w0:World) (gid:FuncId) (first cap:List AV) (xs:List (List AV)):Prop :=
 ∀ (J:lz) (b:Bool) (J':lz),Ys P w0 J xs b J'->∃ r S1,bc P w0 gid (first++[.yl 0]++cap) (aM [(0,.fo J)] 1) r S1/\S1.get 0=some (.fo J')
section
variable {P:Program}{w0:World}
theorem Ys.split {xs ys:List (List AV)}{b:Bool}{J J':lz}(h:Ys P w0 J (xs++ys) b J'):(b=false/\Ys P w0 J xs false J')\/∃ J1,Ys P w0 J xs true J1/\Ys P w0 J1 ys b J':=by
 induction xs generalizing J with
 |nil=>exact .inr ⟨J,.nil J,h⟩
 |cons x xs ih =>
  cases h with
  |cons h t =>
   rcases ih t with ⟨h1,h2⟩|⟨J1,h1,h2⟩
   ·exact .inl ⟨h1,.cons h h2⟩
   ·exact .inr ⟨J1,.cons h h1,h2⟩
  |stop h=>exact .inl ⟨rfl,.stop h⟩
theorem Ys.one {x:List AV}{b:Bool}{J J':lz}(h:Ys P w0 J [x] b J'):∀ (T:ae) (k:Nat),T.get k=some (.fo J)->ov P w0 k x T (.v (.bool b)) (T.set k (some (.fo J'))):=by
 cases h with
 |cons h t=>cases t;exact h
 |stop h=>exact h
theorem Ys.Sj {b:Bool}{J J':lz}(h:Ys P w0 J [] b J'):b=true/\J'=J:=by cases h;exact⟨rfl,rfl⟩
end
section
variable {P:Program}{w0:World}{α:AA}{S S':ae}{r:AV}
theorem ad.yl {f:QO}{aZ9:List QO}{k:Nat}{args:List AV}{b:Bool}{J1:Ob}(h:f.ev α.tm=.yl k) (ha:aZ9.map (·.ev α.tm)=args) (hr:ov P w0 k args S (.v (.bool b)) (S.set k (some J1))):ad P w0 false (.call f aZ9) α S (.v (.bool b)) (S.set k (some J1)):=by
 intro n o jg
 obtain⟨c,u,ho,hu,rfl,rfl⟩:=l7 jg
 rw [ml] at ha
 rw [aR] at h
 subst ha
 exact zm ho hu h hr
end
def Sk:QC->Option (Bool × List QI)
 |.skip=>some (false,[])
 |.bD dr l=>some (dr,l)
 |_=>none
theorem wO {B:Nat}:∀ {l:List (Nat × AV)},(∀ p ∈ l,dH B p.2)->∀ t,dH B (jk (fun _=>.u) l t)
 |[],_,_=>.u
 |p::l,h,t=>by
  show dH B (bO (jk (fun _=>.u) l) p.1 p.2 t)
  by_cases e:t=p.1
  ·rw [e,aE];exact h p (by simp)
  ·rw [aK _ _ e];exact wO (fun q hq=>h q (by simp [hq])) t
section
variable {P:Program}{w0:World}{n:Nat}{α aA:AA}{S S':ae}{Q:Exit->AA->ae->Prop}{ex:Exit}{K:List iC}
def Sl {σ T:Type}(P:Program) (w0:World) (n B N:Nat) (st0:List (Nat × AV)) (ds:List Nat) (so:σ->List (Nat × Ob)) (I:List T->σ->Prop) (Q:Exit->AA->ae->Prop) (K:List iC) (rest:List T):Exit->AA->ae->Prop :=
 fun ex α S=>match ex with
  |.normal=>∃ s' m,I rest s'/\Canon B N m α S [] [] (so s')
  |.ret=>∃ so' m,Canon B N m α S [] [] so'/\ab P w0 false n Q (.out .ret K) (dX st0 ds) (aM so' N)
  |.exit id=>∃ so' m,Canon B N m α S [] [] so'/\ab P w0 false n Q (.out (.exit id) K) (dX st0 ds) (aM so' N)
  |_=>False
theorem ab.range {σ T:Type}{x:QO}{ps:List Nat}{qa qb:QC}{dr:Bool}{l:List QI}{gid:FuncId}{first cap:List AV}(enc:T->List AV) (L:List T) (B N:Nat) (m0:List (Nat × Nat)) (st0:List (Nat × AV)) (so:σ->List (Nat × Ob)) (I:List T->σ->Prop) (s0:σ)
  (hx:x.ev α.tm=.fn (.func gid) first cap) (Sf:∀ a ∈ first,Pure a) (Sg:∀ a ∈ cap,Pure a) (Aq:Iter P w0 gid first cap (L.map enc)) (hq:Sk qa=some (dr,l))
  (h0:I L s0) (hB:Nat.ble (S.nx+1) B=true) (hk:∀ p ∈ st0,dH B p.2) (Ey:ps.all (Nat.blt · n)=true) (hen:∀ x,(enc x).length=ps.length/\∀ a ∈ enc x,Pure a)
  (hC:Canon B N m0 ⟨α.tm,S.nx::α.df⟩ (S.new .df) st0 (S.nx::α.df) (so s0))
  (Wn:∀ (x:T) (rest:List T) (s:σ),I (x::rest) s->ab P w0 true n (Sl P w0 n B N st0 (S.nx::α.df) so I Q K rest) (.bD dr l [.seq qb]) ⟨qQ (jk (fun _=>.u) st0) (ps.zip (enc x)),[]⟩ (aM (so s) N))
  (jJ:∀ s,I [] s->ab P w0 false n Q (.out .normal K) (dX st0 (S.nx::α.df)) (aM (so s) N)):ab P w0 false n Q (.run (.sR x ps qa qb) K) α S:=by
 intro c hc hd
 obtain⟨y,pt,c1,c2,rfl,rfl,rfl,jq,ga⟩:=I6 hc
 simp only [cH,Bool.and_eq_true] at hd
 rw [aR] at hx
 have BP:∀ t,dH B ((dX st0 []).tm t):=fun t=>wO hk t
 have abe:∀ t ∈ pt,t < n:=fun t ht=>by
  have:=List.all_eq_true.1 Ey t (by simpa using ht)
  exact dR this
 have abf:∀ (R:AA->ae->Prop) (E:List PanicEntry->AA->ae->Prop) (β:AA) (T:ae),(∀ ch α S,¬ E ch α S)->ea P w0 n dr l R E β T->∃ bK bZ,cu P w0 true n c1 β T .normal bK bZ/\R bK bZ:=by
  intro R E β T hE h
  unfold Sk at hq
  split at hq
  ·injection hq with hq;injection hq with h1 h2
   subst h1 h2
   obtain⟨bK,bZ,h3,h4⟩:=(h [] [] rfl 0 rfl).resolve_right fun ⟨ch,aA,S',_,h6⟩=>hE _ _ _ h6
   refine⟨bK,bZ,?_,h4⟩
   intro F m A g a w hF hR hS hA
   exact (pc.1 jq).wp (h3 F m A g a w (k_ w0 n A g w .normal bK bZ) hF hS hA fun a' w' g' h1 h2 h3=>⟨rfl,g',h1,h2,h3⟩)
  ·injection hq with hq;injection hq with h1 h2
   subst h1 h2
   rename_i dr' l'
   obtain⟨id,ops,rfl,h3,nu⟩:=BU jq
   have h4:=h _ _ h3
   cases dr' with
   |false =>
    obtain⟨aA,S',h5,h6⟩:=(h4 0 rfl).resolve_right fun ⟨ch,aA,S',_,h6⟩=>hE _ _ _ h6
    rw [Array.length_toList,<-List.range_eq_range'] at h5
    exact⟨aA,S',cu.region h5,h6⟩
   |true =>
    obtain⟨aA,S',h5,h6⟩:=h4 0 rfl
    rw [Array.length_toList,<-List.range_eq_range'] at h5
    have d_:=hd.1
    simp only [cH,Bool.and_eq_true] at d_
    exact⟨aA,S',cu.draw d_.1 ((Bool.and_eq_true _ _).mp (nu rfl)).1 h5,h6⟩
  ·cases hq
 have key:∀ (L:List T) (s:σ),I L s->∃ ex j so',r_ ex=some j/\ab P w0 false n Q (.out ex K) (dX st0 (S.nx::α.df)) (aM so' N) /\
   ∀ (A:Nat->Prop) (gs:Gh) (T0:Array Value),(∀ k,gs.al k->k < B)->Ys P w0 (LJ w0.heap.size A gs n T0 .ready none pt c1 c2 (dX st0 []).tm (aM (so s) N)) (L.map enc) j.isNone (LJ w0.heap.size A gs n T0 (kc j) j pt c1 c2 (dX st0 []).tm (aM so' N)):=by
  intro L
  induction L with
  |nil=>exact fun s hs=>⟨.normal,none,so s,rfl,jJ s hs,fun A gs T0 _=>.nil _⟩
  |cons x rest ih =>
   intro s hs
   have h1:=Wn x rest s hs
   obtain⟨bK,bZ,h2,h3⟩:=abf _ _ _ _ (fun ch α S h=>h) h1
   obtain⟨ex,vz,zj,h4,h5⟩:Wp P w0 true n c2 _ bK bZ:=h3 c2 ga hd.2
   have rn:∀ {j:Option Code}{so':List (Nat × Ob)}{m:List (Nat × Nat)},r_ ex=some j->Canon B N m vz zj [] [] so'->∀ (A:Nat->Prop) (gs:Gh) (T0:Array Value),(∀ k,gs.al k->k < B)->∀ (T:ae) (k:Nat),T.get k=some (.fo (LJ w0.heap.size A gs n T0 .ready none pt c1 c2 (dX st0 []).tm (aM (so s) N))) ->
     ov P w0 k (enc x) T (.v (.bool j.isNone)) (T.set k (some (.fo (LJ w0.heap.size A gs n T0 (kc j) j pt c1 c2 (dX st0 []).tm (aM so' N))))):=fun hj hC A gs T0 hB T k hT =>
    ov.Z_ h2 h4 hC hj (by rw [(hen x).1,Array.length_toList]) (hen x).2 abe BP hB hT
   cases ex with
   |normal =>
    obtain⟨s',m,h6,h7⟩:=h5
    obtain⟨ex,j,so',k1,k2,k3⟩:=ih s' h6
    exact⟨ex,j,so',k1,k2,fun A gs T0 hB=>.cons (rn rfl h7 A gs T0 hB) (k3 A gs T0 hB)⟩
   |ret =>
    obtain⟨so',m,h6,h7⟩:=h5
    exact⟨.ret,_,so',rfl,h7,fun A gs T0 hB=>.stop (rn rfl h6 A gs T0 hB)⟩
   |exit id =>
    obtain⟨so',m,h6,h7⟩:=h5
    exact⟨.exit id,_,so',rfl,h7,fun A gs T0 hB=>.stop (rn rfl h6 A gs T0 hB)⟩
   |_=>exact h5.elim
 obtain⟨ex,j,so',k1,k2,k3⟩:=key L s0 h0
 refine⟨ex,_,_,cu.range (ex:=ex) (so1:=so') hx Sf Sg hC (Nat.le_of_ble_eq_true hB) k1 (fun A gs T0 hB=>Aq _ _ _ (k3 A gs T0 hB)),k2⟩
end
section
variable {P:Program}{w0:World}{rd:Bool}{n B:Nat}{α aA:AA}{S S':ae}{Q:Exit->AA->ae->Prop}{r:AV}{i:QI}{l:List QI}{K:List iC}{V:List (Nat × Nat)}{lg:List (List Nat × List Nat × Bool)}{rs:List Nat}{d:Dt}{q:dm}
theorem ab.BV (hw:cj α.tm i.g=some true) (h:cB P w0 B i.q α S r d) (k:ab P w0 rd n Q (.dJ B V (lg++[d.ns]) rs l K) (cD i.d α r) (dQ S d.W d.m)):ab P w0 rd n Q (.dJ B V lg rs (i::l) K) α S :=
 fun fp hB=>lH.op hB hw h (k fp (by rw [ec];exact Nat.le_trans hB (Nat.le_add_right _ _)))
def isB:dm->Bool
 |.bin ..|.conv ..|.pd ..|.neg _|.qV ..|.ow ..|.sS ..|.l8 ..|.slice ..|.len ..|.min ..|.max ..|.call ..|.mv ..|.pick ..|.build ..|.rows ..|.not _|.vA ..|.field ..|.extract ..|.BW ..|.vB _=>true
 |_=>false
theorem cB.pure (h:∀ T,ad P w0 true q α T r T):cB P w0 B q α S r ⟨[],[],false⟩:=by
 refine fun n o hr=>⟨fun _=>rfl,(show kE S [] from fun p hp=>by cases hp),fun T _ _ _=>?_⟩
 rw [show dQ T [] false=T from cK]
 exact (h T n o hr).1
theorem ab.qW (hw:cj α.tm i.g=some true) (h:∀ T,ad P w0 true i.q α T r T) (k:ab P w0 rd n Q (.dJ B V (lg++[([],[],false)]) rs l K) (cD i.d α r) S):ab P w0 rd n Q (.dJ B V lg rs (i::l) K) α S :=
 ab.BV hw (cB.pure h) (by rw [show dQ S [] false=S from cK];exact k)
theorem ab.abg {ik:IntKind}{e:Int}(hw:cj α.tm i.g=some true) (h:∀ T,ad P w0 true i.q α T (.v (.int ik e)) T) (k:∀ d,d=e->ab P w0 rd n Q (.dJ B V (lg++[([],[],false)]) rs l K) (cD i.d α (.v (.int ik d))) S):ab P w0 rd n Q (.dJ B V lg rs (i::l) K) α S:=ab.qW hw h (k e rfl)
def Cv (w0:World) (n:Nat) (α:AA) (S:ae) (aA:AA) (S':ae):Prop :=
 ∀ (A:Nat->Prop) (g:Gh) (a:Act) (w:World),St w0 A g S w->bY g w n α a->∃ g',St w0 A g' S' w/\bY g' w n aA a/\Ext A g w g' w
theorem cu.cv {c:Code}{ex:Exit}{bK:AA}{bZ:ae}(h:Cv w0 n α S aA S') (k:cu P w0 rd n c aA S' ex bK bZ):cu P w0 rd n c α S ex bK bZ:=by
 intro F m A g a w hF hR hS hA
 obtain⟨g',h1,h2,h3⟩:=h A g a w hS hA
 exact wpIn_mono (k F m A g' a w hF hR h1 h2) fun e a w hq=>k_.ext h3 hq
theorem ab.cv {c:QC}(h:Cv w0 n α S aA S') (k:ab P w0 rd n Q (.run c K) aA S'):ab P w0 rd n Q (.run c K) α S:=by
 intro c0 hc hd
 obtain⟨ex,bK,bZ,h1,h2⟩:=k c0 hc hd
 exact⟨ex,bK,bZ,h1.cv h,h2⟩
theorem ab.Sm (h:Cv w0 n α S aA S') (k:ab P w0 rd n Q (.bD false l K) aA S'):ab P w0 rd n Q (.bD false l K) α S:=by
 intro ops rest hr j hj
 refine (k ops rest hr j hj).imp (fun ⟨bK,bZ,h1,h2⟩=>⟨bK,bZ,fun F m A g a w R hF hS hA hR=>?_,h2⟩) fun ⟨ch,bK,bZ,h1,h2⟩=>⟨ch,bK,bZ,fun F m A g a w R hF hS hA hR=>?_,h2⟩
 ·obtain⟨g',k1,k2,k3⟩:=h A g a w hS hA
  exact h1 F m A g' a w R hF k1 k2 fun a' w' sc q1 q2 q3=>hR a' w' sc q1 q2 (k3.trans q3)
 ·obtain⟨g',k1,k2,k3⟩:=h A g a w hS hA
  exact h1 F m A g' a w R hF k1 k2 fun a' w' sc q1 q2 q3=>hR a' w' sc q1 q2 (k3.trans q3)
theorem ab.cvO {b:QC}(h:Cv w0 n α S aA S') (k:ab P w0 rd n Q (.out .normal (.seq b::K)) aA S'):ab P w0 rd n Q (.out .normal (.seq b::K)) α S:=ab.cv (c:=b) h k
theorem Cv.freeze {t k sz fz m:Nat}{rows:List (List AV)}{ex:Bool}{a:AV}(hk:S.get k=some (.arr sz rows fz ex)) (ht:α.tm t=a) (ha:a=.gr k sz m\/∃ c,a=.ob k sz 0 m c) (hm:m=rows.length) (oX:fz<=m) :
  Cv w0 n α S ⟨bO α.tm t (.sl false rows),α.df⟩ (S.set k none):=by
 subst hm
 intro A g q w hS hA
 have abh:∀ {g':Gh}{o:Option Ob},St w0 A g' (S.set k o) w->St w0 A g' (S.set k none) w:=fun {_ o} h=>h.forget (Nat.le_refl _) fun j p hj _=>by
  have hj:bO S.get k none j=some p:=hj
  by_cases e:j=k
  ·subst e;rw [aE] at hj;cases hj
  ·rw [aK _ _ e] at hj
   show bO S.get k o j=some p
   rw [aK _ _ e]
   exact hj
 have put:∀ {g':Gh},Later g w g' w->(t < n->aJ g' w (.sl false rows) (q.tmps.getD t undef))->bY g' w n ⟨bO α.tm t (.sl false rows),α.df⟩ q:=by
  intro g' hL hr
  have h1:=hA.later hL
  refine⟨h1.size,fun s hs=>?_,fun s hs=>?_,h1.df,h1.sb⟩
  ·show aJ g' w (bO α.tm t _ s) _
   by_cases e:s=t
   ·subst e;rw [aE];exact hr hs
   ·rw [aK _ _ e];exact h1.tm s hs
  ·show bO α.tm t _ s=.u
   by_cases e:s=t
   ·subst e
    have h2:=hA.out s hs
    rw [ht] at h2
    rcases ha with h|⟨c,h⟩<;>(rw [h] at h2;cases h2)
   ·rw [aK _ _ e];exact h1.out s hs
 by_cases au:t < n
 ·have hr:=hA.tm t au
  rw [ht] at hr
  by_cases bN:g.al k
  ·obtain⟨h1,h2⟩:=hS.freeze hk bN oX (by omega)
   refine⟨_,abh h2,put h1.toLater fun _=>?_,h1⟩
   have Sn:=hr.later h1.toLater
   obtain⟨k2,k3,cs,ty,p1,p2,p3,p4,p5,p6,p7⟩:=h2.cC k (.arr sz rows rows.length ex) (aE _ _ _) (h1.al k bN)
   have key:∀ c,rows.length<=c->aJ (g.I1 (g.ob k) (rows.length*sz)) w (.sl false rows) (.slice (some ⟨g.ob k,0,none⟩) rows.length c):=by
    intro c hc
    by_cases hn:rows=[]
    ·subst hn;exact .nil (fun h=>by cases h)
    ·refine .sl (sz:=sz) (val:=fun i j=>cs.getD (i*sz+j) undef) hn (fun h=>by cases h) (by omega) (fun i row hi=>(p5 i row hi).1) (fun i j row a hi hj=>?_) (fun i j row a hi hj=>?_)
     ·obtain⟨q1,q2⟩:=p5 i row hi
      obtain⟨x,hx,dw⟩:=q2 j a hj
      have tM:j < sz:=by rw [<-q1];exact (List.getElem?_eq_some_iff.1 hj).1
      have hi1:=(List.getElem?_eq_some_iff.1 hi).1
      refine⟨.inr ⟨rfl,?_⟩,?_⟩
      ·rw [Nat.zero_add];exact jr hi1 tM
      ·rw [Nat.zero_add]
       rw [cell_of_row w (g.ob k) _ cs ty (0,0) p1,hx]
       simp [Array.getD_eq_getD_getElem?,hx]
     ·obtain⟨q1,q2⟩:=p5 i row hi
      obtain⟨x,hx,dw⟩:=q2 j a hj
      simp only [Array.getD_eq_getD_getElem?,hx,Option.getD_some]
      exact dw
   obtain⟨v,hv⟩:∃ v,q.tmps.getD t undef=v:=⟨_,rfl⟩
   rw [hv] at hr ⊢
   rcases ha with rfl|⟨c,rfl⟩
   ·rcases pP hr with ⟨h,A',rfl⟩|⟨jh,c,rfl,hx,hle⟩
    ·have:rows=[]:=List.length_eq_zero_iff.1 h
     subst this
     exact .nil (fun h=>by cases h)
    ·exact key _ hle
   ·cases hr with
    |ob jh hc hp hx hle=>rw [Nat.zero_mul];exact key _ hle
  ·refine⟨g,hS.forget (Nat.le_refl _) fun j p hj _=>?_,put (Later.refl g w) fun _=>?_,Ext.refl ..⟩
   ·have hj:bO S.get k none j=some p:=hj
    by_cases e:j=k
    ·subst e;rw [aE] at hj;cases hj
    ·rwa [aK _ _ e] at hj
   ·obtain⟨v,hv⟩:∃ v,q.tmps.getD t undef=v:=⟨_,rfl⟩
    rw [hv] at hr ⊢
    rcases ha with rfl|⟨c,rfl⟩
    ·rcases pP hr with ⟨h,A',rfl⟩|⟨jh,c,rfl,hx,hle⟩
     ·have:rows=[]:=List.length_eq_zero_iff.1 h
      subst this
      exact .nil (fun h=>by cases h)
     ·exact absurd jh bN
    ·cases hr with
     |ob jh hc hp hx hle=>exact absurd jh bN
 ·refine⟨g,hS.forget (Nat.le_refl _) fun j p hj _=>?_,put (Later.refl g w) fun h=>absurd h au,Ext.refl ..⟩
  have hj:bO S.get k none j=some p:=hj
  by_cases e:j=k
  ·subst e;rw [aE] at hj;cases hj
  ·rwa [aK _ _ e] at hj
def Rv (w0:World) (r:AV) (S:ae) (r':AV) (S':ae):Prop:=∀ (A:Nat->Prop) (g0 g:Gh) (So w:World) (v:Value),St w0 A g S w->aJ g w r v->∃ g',St w0 A g' S' w/\aJ g' w r' v/\Ext A g w g' w
theorem ad.rv {r':AV}{S1:ae}(h:ad P w0 false q α S r S') (k:Rv w0 r S' r' S1):ad P w0 false q α S r' S1:=by
 intro n o hr F m A g a w nx R hF hS hA hn
 refine h n o hr F m A g a w nx R hF hS hA fun v w' g' h1 h2 h3=>?_
 obtain⟨g2,k1,k2,k3⟩:=k A g g' w w' v h2 h1
 exact hn v w' g2 k2 k1 (h3.trans k3)
theorem bY.slot {g:Gh}{w:World}{a:Act}{t:Nat}{b:AV}(h:bY g w n α a) (ht:α.tm t ≠ .u) (hr:aJ g w b (a.tmps.getD t undef)):bY g w n ⟨bO α.tm t b,α.df⟩ a:=by
 have au:t < n:=by
  rcases Nat.lt_or_ge t n with h1|h1
  ·exact h1
  ·exact absurd (h.out t h1) ht
 refine⟨h.size,fun s hs=>?_,fun s hs=>?_,h.df,h.sb⟩
 ·show aJ g w (bO α.tm t b s) _
  by_cases e:s=t
  ·subst e;rw [aE];exact hr
  ·rw [aK _ _ e];exact h.tm s hs
 ·show bO α.tm t b s=.u
  rw [aK _ _ (by omega)];exact h.out s hs
theorem BX {t k sz by_ len:Nat}{ex:Bool}{b:QO}{rows more:List (List AV)}{x:List AV}{o:Oper}(ho:res P.toTables o.op=some (.append sz by_ (.t t) b)) (h1:α.tm t=.gr k sz len) (hk:S.get k=some (.arr sz rows 0 ex)) (hn:len=rows.length)
  (hb:∀ c,b.ev (bO α.tm t c)=b.ev α.tm) (hm:dh S (b.ev α.tm)=some (x::more)) (g_:dh (S.set k none) (b.ev α.tm)=some (x::more)) (h3:∀ row ∈ x::more,row.length=sz/\row.all cn=true) (h4:(len+(x::more).length)*by_<=35184372088832) :
  ew P w0 n o α S (.gr S.nx sz (len+(x::more).length)) ((S.set k none).new (.arr sz (rows++x::more) 0 false)):=by
 intro F mm A g a w nx R hF hS hA o4
 have au:t < n:=by
  rcases Nat.lt_or_ge t n with h|h
  ·exact h
  ·have:=hA.out t h;rw [h1] at this;cases this
 have hr:=hA.tm t au
 rw [h1] at hr
 obtain⟨v,hv⟩:∃ v,a.tmps.getD t undef=v:=⟨_,rfl⟩
 have bG:α.tm t ≠ .u:=by rw [h1];intro h;cases h
 rw [hv] at hr
 rcases pP hr with ⟨h,A',rfl⟩|⟨jh,c,rfl,hx,hle⟩
 ·have qX:rows=[]:=List.length_eq_zero_iff.1 (by omega)
  subst qX
  have BY:bY g w n ⟨bO α.tm t (.sl true []),α.df⟩ a:=hA.slot bG (by rw [hv];exact .nil fun _=>rfl)
  have lA:St w0 A g (S.set k none) w:=hS.forget (Nat.le_refl _) fun j p hj _=>by
   have hj:bO S.get k none j=some p:=hj
   by_cases e:j=k
   ·subst e;rw [aE] at hj;cases hj
   ·rwa [aK _ _ e] at hj
  have h5:=ad.zn (P:=P) (w0:=w0) (dr:=false) (α:=⟨bO α.tm t (.sl true []),α.df⟩) (S:=S.set k none) (sz:=sz) (by_:=by_) (a:=.t t) (b:=b) (rows:=[]) (aE _ _ _) (by rw [hb];exact g_) (by simp) (fun row hr=>(h3 row hr).1) (by subst h;simpa using h4) n o ho
  refine h5 F mm A g a w nx R hF lA BY fun v w' g' k1 k2 k3=>o4 v w' g' ?_ k2 k3
  subst h
  cases k1 with
  |ob q1 q2 q3 q4 q5=>rw [Nat.zero_mul];exact .gr q1 (by have h:=q4 rfl;rw [Nat.zero_add] at h;exact h) q5
 ·have BY:bY g w n ⟨bO α.tm t (.ob k sz 0 len none),α.df⟩ a:=hA.slot bG (by
   rw [hv]
   have:=aJ.ob (g:=g) (w:=w) (k:=k) (sz:=sz) (off:=0) (len:=len) (c:=c) (cx:=none) jh (fun m h=>by cases h) (by omega) (fun _=>by omega) hle
   rwa [Nat.zero_mul] at this)
  have h5:=ad.FO (P:=P) (w0:=w0) (dr:=false) (α:=⟨bO α.tm t (.ob k sz 0 len none),α.df⟩) (S:=S) (sz:=sz) (by_:=by_) (a:=.t t) (b:=b) (k:=k) (fz:=0) (ex:=ex) (rows:=rows) (aE _ _ _) hk (by rw [hb];exact hm) (Nat.zero_le _) (by omega) h3 h4 n o ho
  rw [List.take_of_length_le (by omega)] at h5
  refine h5 F mm A g a w nx R hF hS BY fun v w' g' k1 k2 k3=>o4 v w' g' ?_ k2 k3
  cases k1 with
  |ob q1 q2 q3 q4 q5=>rw [Nat.zero_mul];exact .gr q1 (by have:=q4 rfl;omega) q5
theorem ad.FP {t k sz by_ len:Nat}{ex:Bool}{b:QO}{rows more:List (List AV)}{x:List AV}(h1:α.tm t=.gr k sz len) (hk:S.get k=some (.arr sz rows 0 ex)) (hn:len=rows.length) (hb:∀ c,b.ev (bO α.tm t c)=b.ev α.tm) (hm:dh S (b.ev α.tm)=some (x::more)) (g_:dh (S.set k none) (b.ev α.tm)=some (x::more))
  (h3:∀ row ∈ x::more,row.length=sz/\row.all cn=true) (h4:(len+(x::more).length)*by_<=35184372088832):ad P w0 false (.append sz by_ (.t t) b) α S (.gr S.nx sz (len+(x::more).length)) ((S.set k none).new (.arr sz (rows++x::more) 0 false)) :=
 fun n o ho=>BX ho h1 hk hn hb hm g_ h3 h4
section
variable {ρ:Hd}{T:Type}{f:T->List AV}{acc:List T}{x:T}
theorem ab.app {dd:Option Nat}{gg:Option (Nat × Bool)}{t:Nat}{b:QO}{sz by_ k len:Nat}{ex:Bool}(hw:cj α.tm gg=some true) (h1:α.tm t=.gr k sz len) (hk:S.get k=some (.arr sz (ρ.h (List.map f) acc) 0 ex)) (hn:len=acc.length) (fL:∀ c,b.ev (bO α.tm t c)=b.ev α.tm)
  (hb:dh S (b.ev α.tm)=some [f x]) (e9:dh (S.set k none) (b.ev α.tm)=some [f x]) (hl:(f x).length=sz) (hc:(f x).all cn=true) (hy:(len+1)*by_<=35184372088832)
  (kk:∀ dK cU,dK=acc++[x]->cU=dK.length->ab P w0 rd n Q (.bD false l K) (cD dd α (.gr S.nx sz cU)) ((S.set k none).new (.arr sz (ρ.h (List.map f) dK) 0 false))):ab P w0 rd n Q (.bD false (⟨dd,gg,.append sz by_ (.t t) b⟩::l) K) α S:=by
 have hlen:(ρ.h (List.map f) acc).length=acc.length:=af
 have h:=kk _ _ rfl rfl
 have e:ρ.h (List.map f) acc++[f x]=ρ.h (List.map f) (acc++[x]):=by rw [ρ.eq,ρ.eq,List.map_append];rfl
 rw [<-e,show (acc++[x]).length=len+[f x].length by simp;omega] at h
 exact ab.op (i:=⟨dd,gg,.append sz by_ (.t t) b⟩) hw (ad.FP h1 hk (by omega) fL hb e9 (by simpa using ⟨hl,by simpa using hc⟩) (by simpa using hy)) h
theorem aU.grow {S:ae}{k sz len:Nat}{ex:Bool}(hk:S.get k=some (.arr sz (ρ.h (List.map f) acc) 0 ex)) (hn:len=acc.length):aU S (.gr k sz len) (b8 ρ f false acc):=by
 rw [dx]
 rw [ρ.eq] at hk
 refine .gr hk (by simp;omega) (by simp [hn]) (fun i row bB h1 h2=>?_) (fun i j row bB a a' h1 h2 h3 h4=>?_)
 ·rw [h2] at h1
  rw [Option.some.inj h1]
 ·rw [h2] at h1
  rw [Option.some.inj h1,h3] at h4
  rw [Option.some.inj h4]
  exact .refl _
end
end
end Go.Proofs.YtbofilglphfceaaGreat
