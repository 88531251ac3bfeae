import Derived.Test.YtbofilglphfceaaGreatD17
namespace Go.Proofs.YtbofilglphfceaaGreat
set_option linter.unusedVariables false
set_option linter.unusedSimpArgs false
open Go.RowKit
structure oE (z:Nat) (A:Nat->Prop) (g:Gh) (S:U) (w:World):Prop where
 up:∀ b,w.heap.size<=b->A b
 lo:∀ b,A b->z<=b
 al:∀ k,g.al k->k < S.nx
 bE:∀ k o,S.get k=some o->g.al k->A (g.ob k)/\g.ob k < w.heap.size/\cN g w (g.ob k) (g.cp k) o
 inj:∀ j k o p,S.get j=some o->S.get k=some p->g.al j->g.al k->g.ob j=g.ob k->j=k
 bM:∀ b o,g.fz b o->b < w.heap.size
 j7:∀ b o,b < z->g.fz b o
 eM:∀ k J,S.get k=some (.fo J)->g.al k->∀ c,g.fo (g.ob k) c->A c/\c < w.heap.size
 fW:∀ k J j o,S.get k=some (.fo J)->g.al k->S.get j=some o->g.al j->j ≠ k->¬ g.fo (g.ob k) (g.ob j)
 iQ:∀ j k J J',S.get j=some (.fo J)->S.get k=some (.fo J')->g.al j->g.al k->j=k
def Gh.uR (g:Gh) (Z:Nat->Nat->Prop):Gh:=⟨g.ob,g.cp,g.al,Z,g.fo⟩
section
variable {w0:World}{z:Nat}{A A':Nat->Prop}{g:Gh}{S:U}{w w':World}
theorem St.free (h:St w0 A g S w):oE w0.heap.size A g S w:=⟨h.up,h.lo,h.al,h.bE,h.inj,h.bM,h.j7,h.eM,h.fW,h.iQ⟩
theorem oE.st (h:oE w0.heap.size A g S w) (hb:Below w0.heap.size w0 w):St w0 A g S w:=⟨hb,h.up,h.lo,h.al,h.bE,h.inj,h.bM,h.j7,h.eM,h.fW,h.iQ⟩
theorem oE.move (h:oE z A g S w) (Z:Nat->Nat->Prop) (hs:w.heap.size<=w'.heap.size) (up:∀ b,w'.heap.size<=b->A' b) (lo:∀ b,A' b->z<=b)
  (hB:∀ c,A c->c < w.heap.size->((∃ k o,S.get k=some o/\g.al k/\c=g.ob k)\/∃ k J,S.get k=some (.fo J)/\g.al k/\g.fo (g.ob k) c)->A' c/\w'.heap[c]?=w.heap[c]?/\∀ q,Z c q->g.fz c q)
  (hc:∀ b q,g.fz b q->w'.cell? ⟨b,q,none⟩=w.cell? ⟨b,q,none⟩) (hz:∀ b q,g.fz b q->Z b q) (Sm:∀ b q,Z b q->b < w'.heap.size):Later g w (g.uR Z) w'/\oE z A' (g.uR Z) S w':=by
 have hL:Later g w (g.uR Z) w':=⟨fun _ h=>h,fun _ _=>rfl,fun _ _=>rfl,hz,hc⟩
 refine⟨hL,up,lo,h.al,fun k o hk ha=>?_,h.inj,Sm,fun b q hb=>hz b q (h.j7 b q hb),fun k J hk ha c hc=>?_,h.fW,h.iQ⟩
 ·obtain⟨h1,h2,h3⟩:=h.bE k o hk ha
  obtain⟨h4,h5,h6⟩:=hB _ h1 h2 (.inl ⟨k,o,hk,ha,rfl⟩)
  refine⟨h4,Nat.lt_of_lt_of_le h2 hs,h3.later hL h5 h6 fun J hJ=>⟨rfl,hs,fun c hc=>?_,fun c q hc hq=>?_⟩⟩
  ·subst hJ
   obtain⟨k1,k2⟩:=h.eM k J hk ha c hc
   exact (hB c k1 k2 (.inr ⟨k,J,hk,ha,hc⟩)).2.1
  ·subst hJ
   obtain⟨k1,k2⟩:=h.eM k J hk ha c hc
   exact (hB c k1 k2 (.inr ⟨k,J,hk,ha,hc⟩)).2.2 q hq
 ·obtain⟨k1,k2⟩:=h.eM k J hk ha c hc
  exact⟨(hB c k1 k2 (.inr ⟨k,J,hk,ha,hc⟩)).1,Nat.lt_of_lt_of_le k2 hs⟩
theorem oE.O_ (h:oE z A g S w) {c:Nat}(hc:(∃ k o,S.get k=some o/\g.al k/\c=g.ob k)\/∃ k J,S.get k=some (.fo J)/\g.al k/\g.fo (g.ob k) c):A c/\c < w.heap.size:=by
 rcases hc with ⟨k,o,h1,h2,rfl⟩|⟨k,J,h1,h2,h3⟩
 ·exact⟨(h.bE k o h1 h2).1,(h.bE k o h1 h2).2.1⟩
 ·exact h.eM k J h1 h2 c h3
end
structure GL (gs gb:Gh):Prop where
 al:∀ k,gs.al k->gb.al k
 ob:∀ k,gs.al k->gb.ob k=gs.ob k
 cp:∀ k,gs.al k->gb.cp k=gs.cp k
 fz:∀ b q,gs.fz b q->gb.fz b q
def LJ (z:Nat) (A:Nat->Prop) (gs:Gh) (n:Nat) (T0:Array Value) (st:LoopState) (n0:Option Code) (ps:Array Tmp) (assign body:Code) (f0:Nat->AV) (S:U):Nat->(Nat->Nat->Prop)->(Nat->Prop)->World->Prop :=
 fun b Z B w=>∃ (gb:Gh) (L:Loop),oE z (fun c=>(B c/\c ≠ b)\/w.heap.size<=c) gb S w/\B b/\(∀ c,B c->A c/\c < w.heap.size) /\
  (w.heap[b]?=some (.loop L)/\L.state=st/\L.pending=n0/\L.params=ps/\L.assign=assign/\L.body=body/\L.tmps=T0)/\aX gb w n ⟨f0,[]⟩ { tmps:=T0,defers:=[] } /\
  (∀ c q,gb.fz c q->Z c q\/B c)/\(∀ c q,B c->Z c q->gb.fz c q)/\GL gs gb/\∀ c,w.heap.size<=c->A c
section
variable {z:Nat}{A:Nat->Prop}{gs:Gh}{n:Nat}{T0:Array Value}{st:LoopState}{n0:Option Code}{ps:Array Tmp}{assign body:Code}{f0:Nat->AV}{S:U}
theorem LJ.ok:yh (LJ z A gs n T0 st n0 ps assign body f0 S):=by
 rintro b Z Z' B w w' ⟨gb,L,h1,h2,h3,h4,h5,h6,h7,h8,h9⟩ hZ Sn DL gZ a7
 have hc:∀ c q,gb.fz c q->w'.cell? ⟨c,q,none⟩=w.cell? ⟨c,q,none⟩:=fun c q hq=>(h6 c q hq).elim (gZ c q) fun hB=>World.cell?_of_block (DL c hB)
 have Pa:∀ c,((B c/\c ≠ b)\/w.heap.size<=c)->c < w.heap.size->B c/\c ≠ b:=fun c hc au=>hc.resolve_right (by omega)
 obtain⟨k1,k2⟩:=h1.move (w':=w') (A':=fun c=>(B c/\c ≠ b)\/w'.heap.size<=c) gb.fz a7 (fun c hc=>.inr hc) (fun c hc=>h1.lo c (hc.imp id fun h=>Nat.le_trans a7 h))
  (fun c hA au _=>⟨.inl (Pa c hA au),DL c (Pa c hA au).1,fun _ h=>h⟩) hc (fun _ _ h=>h) (fun c q hq=>Nat.lt_of_lt_of_le (h1.bM c q hq) a7)
 exact⟨gb,L,k2,h2,fun c hc=>⟨(h3 c hc).1,Nat.lt_of_lt_of_le (h3 c hc).2 a7⟩,⟨(DL b h2).trans h4.1,h4.2⟩,h5.later k1,fun c q hq=>(h6 c q hq).imp (hZ c q) id,fun c q hB hq=>h7 c q hB (Sn c q hB hq),h8,fun c hc=>h9 c (Nat.le_trans a7 hc)⟩
end
def nq (f:Nat->AV):List (Nat × AV)->Nat->AV
 |[]=>f
 |p::l=>nq (a6 f p.1 p.2) l
section
variable {P:Program}{w0:World}{n:Nat}{T0:Array Value}{ps:Array Tmp}{assign body:Code}{f0:Nat->AV}{S bQ yC:U}{bD uv:AA}{ex:Exit}{x:List AV}{B N:Nat}{m:List (Nat × Nat)}{so:List (Nat × Ob)}
theorem uS {g:Gh}{w:World}:∀ {l:List (Nat × AV)}{ys:List (Nat × Value)}{f:Nat->AV}{T:Array Value},aX g w n ⟨f,[]⟩ { tmps:=T,defers:=[] }->l.map (·.1)=ys.map (·.1)->(∀ p ∈ l,p.1 < n) ->
  (∀ (i:Nat) (p:Nat × AV) (y:Nat × Value),l[i]?=some p->ys[i]?=some y->ao g w p.2 y.2)->aX g w n ⟨nq f l,[]⟩ { tmps:=ys.foldl (fun T (t,a)=>T.setIfInBounds t a) T,defers:=[] }
 |[],[],f,T,h,_,_,_=>h
 |p::l,y::ys,f,T,h,hl,hn,hr=>by
  simp only [List.map_cons,List.cons.injEq] at hl
  have h1:aX g w n ⟨a6 f p.1 p.2,[]⟩ { tmps:=T.setIfInBounds p.1 y.2,defers:=[] }:=h.put (hn p (by simp)) (hr 0 p y rfl rfl)
  have h2:aX g w n ⟨a6 f p.1 p.2,[]⟩ { tmps:=T.setIfInBounds y.1 y.2,defers:=[] }:=by rw [<-hl.1];exact h1
  rw [nq,List.foldl_cons]
  exact uS h2 hl.2 (fun q hq=>hn q (by simp [hq])) fun i q v h3 h4=>hr (i+1) q v (by simpa using h3) (by simpa using h4)
 |[],y::ys,f,T,h,hl,_,_=>by simp at hl
 |p::l,[],f,T,h,hl,_,_=>by simp at hl
def rF:Exit->Option (Option Code)
 |.normal=>some none
 |.ret=>some (some .ret)
 |.exit id=>some (some (.exit id))
 |_=>none
def il (j:Option Code):LoopState:=match j with|none=>.ready|some _=>.done
theorem run_getLoop {w:World}{b:Nat}{L:Loop}(h:w.heap[b]?=some (.loop L)):(Instr.getLoop b).run P w=.ok L w:=by
 simp [Instr.getLoop,getObj,Sem.run,h]
def World.rec (w:World) (b:Nat) (L:Loop):World:={ w with heap:=w.heap.setIfInBounds b (.loop L) }
theorem eF {w:World}{b:Nat}{L:Loop}:(World.rec w b L).heap.size=w.heap.size:=by simp [World.rec]
theorem ez {w:World}{b c:Nat}{L:Loop}(h:c ≠ b):(World.rec w b L).heap[c]?=w.heap[c]?:=by
 simp only [World.rec,Array.getElem?_setIfInBounds]
 rw [if_neg (Ne.symm h)]
theorem qC {w:World}{b:Nat}{L:Loop}(h:b < w.heap.size):(World.rec w b L).heap[b]?=some (.loop L):=by simp [World.rec,Array.getElem?_setIfInBounds,h]
theorem qD {w:World}{b:Nat}{L L':Loop}(h:w.heap[b]?=some (.loop L')) (c q:Nat):(World.rec w b L).cell? ⟨c,q,none⟩=w.cell? ⟨c,q,none⟩:=by
 by_cases e:c=b
 ·subst e
  have au:c < w.heap.size:=by
   rcases Nat.lt_or_ge c w.heap.size with h1|h1
   ·exact h1
   ·rw [Array.getElem?_eq_none h1] at h;cases h
  simp [World.cell?,qC au,h]
 ·exact World.cell?_of_block (ez e)
theorem nr {w:World}{b:Nat}{L L':Loop}(h:w.heap[b]?=some (.loop L')):(setObj b (.loop L)).run P w=.ok () (World.rec w b L):=by
 simp [setObj,Sem.run,h,World.rec]
theorem Ext.mono {A A':Nat->Prop}{g g':Gh}{w w':World}(h:Ext A g w g' w') (hs:∀ b,A b->A' b):Ext A' g w g' w' :=
 { h.toLater with size:=h.size,bR:=fun b hb hA=>h.bR b hb fun h=>hA (hs b h),eu:=fun b q hq=>(h.eu b q hq).imp id (hs b) }
theorem St.IF {A:Nat->Prop}{g:Gh}{w:World}(h:St w0 A g S w) {b:Nat}{L L':Loop}(hb:w.heap[b]?=some (.loop L')) (hA:¬ A b) (h0:w0.heap.size<=b):Later g w g (World.rec w b L)/\St w0 A g S (World.rec w b L):=by
 have au:b < w.heap.size:=by
  rcases Nat.lt_or_ge b w.heap.size with h1|h1
  ·exact h1
  ·rw [Array.getElem?_eq_none h1] at hb;cases hb
 obtain⟨h1,h2⟩:=h.free.move (w':=World.rec w b L) (A':=A) g.fz (by rw [eF];exact Nat.le_refl _) (fun c hc=>h.up c (by rw [eF] at hc;exact hc)) h.lo (fun c hc _ _=>⟨hc,ez (fun e=>hA (by rw [<-e];exact hc)),fun _ h=>h⟩)
  (fun c q _=>qD hb c q) (fun _ _ h=>h) (fun c q hq=>by rw [eF];exact h.bM c q hq)
 exact⟨h1,h2.st ⟨h.base.os,h.base.tape,h.base.output,by rw [eF];exact h.base.size,fun k hk=>(ez (by omega)).trans (h.base.block k hk)⟩⟩
theorem oF.So (ha:bA P w0 true n assign ⟨nq f0 (ps.toList.zip x),[]⟩ S .normal bD bQ) (hb:bA P w0 true n body bD bQ ex uv yC) (hC:Canon B N m uv yC [] [] so) {j:Option Code}(hj:rF ex=some j)
  (hx:x.length=ps.size) (hp:∀ a ∈ x,Pure a) (FO:∀ t ∈ ps,t < n) (Co:∀ t,da B (f0 t)) {A:Nat->Prop}{gs:Gh}(hB:∀ k,gs.al k->k < B)
  {T:U}{k:Nat}(hT:T.get k=some (.fo (LJ w0.heap.size A gs n T0 .ready none ps assign body f0 S))) :
  oF P w0 k x T (.v (.bool j.isNone)) (T.set k (some (.fo (LJ w0.heap.size A gs n T0 (il j) j ps assign body f0 (bu so N))))):=by
 intro F mm A2 g bz w hF hS aY hA
 obtain⟨k2,k3,⟨gb,L,h1,h2,h3,⟨l4,IG,Un,IH,Pb,Pc,Pd⟩,h5,h6,h7,h8,h9⟩,_⟩:=hS.bE k _ hT aY
 obtain⟨b,rG⟩:∃ b,g.ob k=b:=⟨_,rfl⟩
 rw [rG] at k2 k3 h1 h2 h3 l4 h6 h7
 obtain⟨Bf,tA⟩:∃ Bf,g.fo b=Bf:=⟨_,rfl⟩
 rw [tA] at h1 h2 h3 h6 h7
 have Cp:w0.heap.size<=b:=hS.lo b k2
 have au:b < w.heap.size:=k3
 have yD:∀ c,Bf c->A2 c/\c < w.heap.size:=fun c hc=>hS.eM k _ hT aY c (by rw [rG,tA];exact hc)
 obtain⟨Z,hZ⟩:∃ Z:Nat->Nat->Prop,Z=fun c q=>gb.fz c q\/g.fz c q:=⟨_,rfl⟩
 obtain⟨Ab,oG⟩:∃ Ab:Nat->Prop,Ab=fun c=>(Bf c/\c ≠ b)\/w.heap.size<=c:=⟨_,rfl⟩
 rw [<-oG] at h1
 have DM:∀ c,Ab c->c < w.heap.size->Bf c/\c ≠ b:=fun c hc au=>by rw [oG] at hc;exact hc.resolve_right (by omega)
 have FP:¬ Ab b:=by rw [oG];rintro (h|h);exact h.2 rfl;omega
 obtain⟨m1,m2⟩:=h1.move (w':=w) (A':=Ab) Z (Nat.le_refl _) h1.up h1.lo (fun c hc au _=>⟨hc,rfl,fun q hq=>by
   rw [hZ] at hq
   exact hq.elim id fun h=>h7 c q (DM c hc au).1 h⟩) (fun _ _ _=>rfl) (fun _ _ h=>by rw [hZ];exact .inl h) (fun c q hq=>by
   rw [hZ] at hq
   exact hq.elim (h1.bM c q) (hS.bM c q))
 have cz:=m2.st hS.base
 have Uf:(gb.uR Z).fz=Z:=rfl
 have Sp:aX (gb.uR Z) w n ⟨nq f0 (ps.toList.zip x),[]⟩ { tmps:=(ps.toList.zip bz.toList).foldl (fun T (t,a)=>T.setIfInBounds t a) T0,defers:=[] }:=by
  refine uS (h5.later m1) ?_ (fun p hp=>FO _ (by simpa using (List.of_mem_zip hp).1)) (fun i p y II hy=>?_)
  ·have e1:bz.toList.length=x.length:=by rw [Array.length_toList];exact hA.1
   rw [List.map_fst_zip (by rw [Array.length_toList];omega),List.map_fst_zip (by rw [e1,Array.length_toList];omega)]
  ·rw [List.getElem?_zip_eq_some] at II hy
   have hr:=hA.2 i p.2 y.2 II.2 (by rw [<-Array.getElem?_toList];exact hy.2)
   exact ao.pure (g:=g) (fun c q hq=>by show Z c q;rw [hZ];exact .inr hq) (fun _ _ _=>rfl) hr (hp _ (List.mem_of_getElem? II.2))
 have aH:bz.size=L.params.size:=by rw [hA.1,hx,IH]
 refine⟨b,L.fn,(ps.toList.zip bz.toList).foldl (fun T (t,a)=>T.setIfInBounds t a) T0,assign,body,?_,?_⟩
 ·rw [rG]
  simp only [Instr.yield,Sem.run_bind,run_getLoop l4,Result.andThen_ok,aH,ne_eq,not_true_eq_false,if_false,Sem.run_pure,Pb,Pc,Pd,IH]
  congr 3
  rw [<-Array.foldl_toList,Array.toList_zip]
 ·have Pe:fM (F.inRound b):=hF.inRound b
  have Pf:(F.inRound b).round.isSome=true:=rfl
  refine roundIn_of_wpIn (hF.1 _) ?_
  refine wpIn_mono (ha (F.inRound b) mm Ab _ _ w Pe Pf cz Sp) ?_
  rintro e1 a1 w1 ⟨rfl,g1,s1,r1,x1⟩
  have dJ:w1.heap[b]?=some (.loop L):=(x1.bR b au FP).trans l4
  have uT:b < w1.heap.size:=Nat.lt_of_lt_of_le au x1.size
  refine⟨World.rec w1 b { L with state:=.busy },?_,?_⟩
  ·simp only [Instr.beginRound,Sem.run_bind,run_getLoop dJ,Result.andThen_ok,nr dJ,IG,Sem.run_pure]
  obtain⟨y1,y2⟩:=s1.IF (L:={ L with state:=.busy }) dJ FP Cp
  refine wpIn_mono (hb (F.inRound b) mm Ab g1 a1 _ Pe Pf y2 (r1.later y1)) ?_
  rintro e2 a2 w2 ⟨rfl,g2,s2,r2,x2⟩
  have dE:w2.heap[b]?=some (.loop { L with state:=.busy }):=(x2.bR b (by rw [eF];exact uT) FP).trans (qC uT)
  have qE:b < w2.heap.size:=Nat.lt_of_lt_of_le (by rw [eF];exact uT) x2.size
  have sB:w.heap.size<=w2.heap.size:=Nat.le_trans x1.size (by have:=x2.size;rw [eF] at this;exact this)
  obtain⟨w3,w_⟩:∃ w3,World.rec w2 b { L with state:=il j,pending:=j }=w3:=⟨_,rfl⟩
  obtain⟨u1,u2⟩:=s2.IF (L:={ L with state:=il j,pending:=j }) dE FP Cp
  rw [w_] at u1 u2
  have IJ:w3.heap.size=w2.heap.size:=by rw [<-w_];exact eF
  have gQ:(Instr.endRound b j).run P w2=.ok (.bool j.isNone) w3:=by
   rw [<-w_]
   cases j<;>simp only [Instr.endRound,Sem.run_bind,run_getLoop dE,Result.andThen_ok,Sem.run_pure,nr dE]<;>rfl
  have post:∃ v g',Ending.returned (.bool j.isNone)=.returned v/\ao g' w3 (.v (.bool j.isNone)) v/\St w0 A2 g' (T.set k (some (.fo (LJ w0.heap.size A gs n T0 (il j) j ps assign body f0 (bu so N))))) w3/\Ext A2 g w g' w3:=by
   have gZ:∀ c q,g.fz c q->w3.cell? ⟨c,q,none⟩=w.cell? ⟨c,q,none⟩:=fun c q hq=>by
    have FQ:(gb.uR Z).fz c q:=by show Z c q;rw [hZ];exact .inr hq
    rw [u1.cell c q (x2.fz c q (y1.fz c q (x1.fz c q FQ))),x2.cell c q (y1.fz c q (x1.fz c q FQ)),y1.cell c q (x1.fz c q FQ),x1.cell c q FQ]
   have FR:∀ c,c < w.heap.size->¬ Ab c->c ≠ b->w3.heap[c]?=w.heap[c]?:=fun c hc hA aM=>by
    rw [<-w_,ez aM,x2.bR c (by rw [eF];exact Nat.lt_of_lt_of_le hc x1.size) hA,ez aM,x1.bR c hc hA]
   obtain⟨B',tB⟩:∃ B':Nat->Prop,B'=fun c=>Bf c\/(w.heap.size<=c/\c < w3.heap.size):=⟨_,rfl⟩
   obtain⟨g',hU⟩:∃ g':Gh,g'=⟨g.ob,g.cp,g.al,g.fz,fun d c=>(d=b/\B' c)\/(d ≠ b/\g.fo d c)⟩:=⟨_,rfl⟩
   have DN:g'.fo b=B':=by
    rw [hU];funext c
    exact propext ⟨fun h=>h.elim (·.2) fun h=>absurd rfl h.1,fun h=>.inl ⟨rfl,h⟩⟩
   have T_:∀ d,d ≠ b->g'.fo d=g.fo d:=fun d hd=>by
    rw [hU];funext c
    exact propext ⟨fun h=>h.elim (fun h=>absurd h.1 hd) (·.2),fun h=>.inr ⟨hd,h⟩⟩
   have Ph:Later g w g' w3:=by rw [hU];exact⟨fun _ h=>h,fun _ _=>rfl,fun _ _=>rfl,fun _ _ h=>h,gZ⟩
   have Sq:Ext A2 g w g' w3:={ Ph with
    size:=by rw [IJ];exact sB
    bR:=fun c hc hA=>FR c hc (fun h=>hA (yD c (DM c h hc).1).1) (fun e=>hA (by rw [e];exact k2))
    eu:=fun c q hq=>by rw [hU] at hq;exact .inl hq }
   have sub:∀ c,Ab c->c < w3.heap.size->B' c/\c ≠ b:=fun c hc nt=>by
    rw [tB]
    rw [oG] at hc
    rcases hc with hc|hc
    ·exact⟨.inl hc.1,hc.2⟩
    ·exact⟨.inr ⟨hc,nt⟩,by omega⟩
   have iI:LJ w0.heap.size A gs n T0 (il j) j ps assign body f0 (bu so N) b g'.fz (g'.fo b) w3/\yh (LJ w0.heap.size A gs n T0 (il j) j ps assign body f0 (bu so N)):=by
    refine⟨?_,LJ.ok⟩
    rw [DN]
    have xb:=hC.st u2
    have IK:=Nat.le_of_ble_eq_true hC.bn
    obtain⟨v1,v2⟩:=xb.free.move (w':=w3) (A':=fun c=>(B' c/\c ≠ b)\/w3.heap.size<=c) (g2.dw B N (bh m)).fz (Nat.le_refl _) (fun c hc=>.inr hc) (fun c hc=>by
      rcases hc with hc|hc
      ·rw [tB] at hc
       rcases hc.1 with h|h
       ·exact hS.lo c (yD c h).1
       ·have:=hS.base.size;omega
      ·have h1:=hS.base.size;omega) (fun c hc au _=>⟨.inl (sub c hc au),rfl,fun _ h=>h⟩) (fun _ _ _=>rfl) (fun _ _ h=>h) (fun c q hq=>xb.bM c q hq)
    have jl:Ext (fun c=>Ab c\/c=b) (gb.uR Z) w g2 w3:=((x1.mono fun _ h=>.inl h).trans (g2:=g1) { y1 with size:=by rw [eF];exact Nat.le_refl _,bR:=fun c _ hA=>ez (fun e=>hA (.inr e)),eu:=fun _ _ h=>.inl h }).trans
     ((x2.mono fun _ h=>.inl h).trans { u1 with size:=by rw [IJ];exact Nat.le_refl _,bR:=fun c _ hA=>by rw [<-w_];exact ez (fun e=>hA (.inr e)),eu:=fun _ _ h=>.inl h })
    have ll:∀ c,(Ab c\/c=b)->c < w3.heap.size->B' c:=fun c hc nt=>hc.elim (fun h=>(sub c h nt).1) fun e=>by rw [e,tB];exact .inl h2
    refine⟨g2.dw B N (bh m),{ L with state:=il j,pending:=j },v2,by rw [tB];exact .inl h2,fun c hc=>?_,⟨by rw [<-w_];exact qC qE,rfl,rfl,IH,Pb,Pc,Pd⟩,?_,fun c q hq=>?_,fun c q hc hq=>?_,?_,fun c hc=>h9 c (by omega)⟩
    ·rw [tB] at hc
     rcases hc with hc|hc
     ·exact⟨(h3 c hc).1,by have:=(h3 c hc).2;omega⟩
     ·exact⟨h9 c hc.1,hc.2⟩
    ·have IL:=(h5.later m1).later jl.toLater
     exact⟨IL.size,fun t ht=>(IL.tm t ht).dw IK (Co t),IL.out,rfl,fun k hk=>by cases hk⟩
    ·have FT:g2.fz c q:=hq
     have nt:=u2.bM c q FT
     rw [hU]
     rcases jl.eu c q FT with h|h
     ·have h:Z c q:=h
      rw [hZ] at h
      rcases h with h|h
      ·exact (h6 c q h).imp id fun h=>by rw [tB];exact .inl h
      ·exact .inl h
     ·exact .inr (ll c h nt)
    ·rw [hU] at hq
     have:Z c q:=by rw [hZ];exact .inr hq
     exact jl.fz c q this
    ·have e0:∀ k,gs.al k->b9 B (bh m) k=k:=fun k hk=>ft (hB k hk)
     refine⟨fun k hk=>⟨by have:=hB k hk;omega,?_⟩,fun k hk=>?_,fun k hk=>?_,fun c q hq=>jl.fz c q (by show Z c q;rw [hZ];exact .inl (h8.fz c q hq))⟩
     ·rw [e0 k hk];exact jl.al k (h8.al k hk)
     ·show g2.ob (b9 B (bh m) k)=gs.ob k
      rw [e0 k hk,jl.ob k (h8.al k hk)];exact h8.ob k hk
     ·show g2.cp (b9 B (bh m) k)=gs.cp k
      rw [e0 k hk,jl.cp k (h8.al k hk)];exact h8.cp k hk
   have key:∀ l r,(T.set k (some (.fo (LJ w0.heap.size A gs n T0 (il j) j ps assign body f0 (bu so N))))).get l=some r->(l=k/\r=.fo (LJ w0.heap.size A gs n T0 (il j) j ps assign body f0 (bu so N)))\/(l ≠ k/\T.get l=some r):=by
    intro l r hl
    have hl:a6 T.get k (some (.fo (LJ w0.heap.size A gs n T0 (il j) j ps assign body f0 (bu so N)))) l=some r:=hl
    by_cases e:l=k
    ·subst e;rw [ah] at hl;exact .inl ⟨rfl,(Option.some.inj hl).symm⟩
    ·rw [aw _ _ e] at hl;exact .inr ⟨e,hl⟩
   have DO:∀ l r,(T.set k (some (.fo (LJ w0.heap.size A gs n T0 (il j) j ps assign body f0 (bu so N))))).get l=some r->∃ r',T.get l=some r':=fun l r hl=>(key l r hl).elim (fun e=>⟨.fo (LJ w0.heap.size A gs n T0 .ready none ps assign body f0 S),e.1.symm ▸ hT⟩) fun e=>⟨r,e.2⟩
   have uU:∀ i,g'.ob i=g.ob i:=fun i=>by rw [hU]
   have xc:∀ i,g'.al i=g.al i:=fun i=>by rw [hU]
   have tC:g'.fz=g.fz:=by rw [hU]
   refine⟨_,g',rfl,.v,⟨u2.base,fun c hc=>hS.up c (by omega),hS.lo,fun i hi=>hS.al i (by rw [<-xc];exact hi),fun i o hi mF=>?_,fun i l o p hi hl ai al e=>?_,fun c q hq=>by rw [tC] at hq;have:=hS.bM c q hq;omega,fun c q hc=>by rw [tC];exact hS.j7 c q hc,
    fun i J hi mF c hc=>?_,fun i J l o hi mF hl sC aM hc=>?_,fun i l J J' hi hl ai al=>?_⟩,Sq⟩
   ·rw [xc] at mF
    rcases key i o hi with ⟨rfl,rfl⟩|⟨aM,hi⟩
    ·rw [uU,rG]
     exact⟨k2,by omega,iI⟩
    ·obtain⟨q1,q2,q3⟩:=hS.bE i o hi mF
     have Sr:g.ob i ≠ b:=fun e=>aM (hS.inj i k o _ hi hT mF aY (by rw [e,rG]))
     have Ss:¬ Ab (g.ob i):=fun h=>hS.fW k _ i o hT aY hi mF aM (by rw [rG,tA];exact (DM _ h q2).1)
     have lB:g'.cp i=g.cp i:=by rw [hU]
     rw [uU,lB]
     refine⟨q1,by omega,q3.later Ph (FR _ q2 Ss Sr) (fun q hq=>by rw [tC] at hq;exact hq) fun J hJ=>?_⟩
     subst hJ
     exact absurd (hS.iQ i k J _ hi hT mF aY) aM
   ·rw [xc] at ai al
    rw [uU,uU] at e
    obtain⟨_,dD⟩:=DO i o hi
    obtain⟨_,jh⟩:=DO l p hl
    exact hS.inj i l _ _ dD jh ai al e
   ·rw [xc] at mF
    rcases key i _ hi with ⟨rfl,_⟩|⟨aM,hi⟩
    ·rw [uU,rG,DN,tB] at hc
     rcases hc with hc|hc
     ·exact⟨(yD c hc).1,by have:=(yD c hc).2;omega⟩
     ·exact⟨hS.up c hc.1,hc.2⟩
    ·exact absurd (hS.iQ i k J _ hi hT mF aY) aM
   ·rw [xc] at mF sC
    rcases key i _ hi with ⟨rfl,_⟩|⟨Qa,hi⟩
    ·rw [uU,rG,DN,tB,uU] at hc
     obtain⟨_,jh⟩:=DO l o hl
     rcases hc with hc|hc
     ·exact hS.fW i _ l _ hT aY jh sC aM (by rw [rG,tA];exact hc)
     ·have:=(hS.bE l _ jh sC).2.1;omega
    ·exact absurd (hS.iQ i k J _ hi hT mF aY) Qa
   ·rw [xc] at ai al
    have to:∀ x J,(T.set k (some (.fo (LJ w0.heap.size A gs n T0 (il j) j ps assign body f0 (bu so N))))).get x=some (.fo J)->g.al x->x=k:=fun x J hx ax=>(key x _ hx).elim (·.1) fun e=>hS.iQ x k J _ e.2 hT ax aY
    rw [to i J hi ai,to l J' hl al]
  cases e2 with
  |normal=>obtain rfl:=Option.some.inj hj;exact⟨_,w3,gQ,post⟩
  |ret=>obtain rfl:=Option.some.inj hj;exact⟨_,w3,gQ,post⟩
  |exit id=>obtain rfl:=Option.some.inj hj;exact⟨_,w3,gQ,post⟩
  |_=>cases hj
theorem Cq {g:Gh}{w:World}{f:Fn}{l m:List AV}{v:Value}(h:ao g w (.fn f l m) v):∃ cs ds,v=.func f cs ds/\ia g w l cs/\ia g w m ds:=by
 cases h with
 |fn h1 h2 h3 h4=>exact⟨_,_,rfl,⟨h1,h3⟩,⟨h2,h4⟩⟩
theorem iJ {J:Nat->(Nat->Nat->Prop)->(Nat->Prop)->World->Prop}{k:Nat}{o:Ob}(h:(bu [(0,.fo J)] 1).get k=some o):k=0/\o=.fo J:=by
 have h:fj [(0,.fo J)] k=some o:=h
 have:=gP h
 simp only [List.mem_singleton,Prod.mk.injEq] at this
 exact this
structure Cr (P:Program) (w0:World) (n:Nat) (A:Nat->Prop) (g0:Gh) (α:AA) (S:U) (a:Act) (w:World) (B:Nat) (fn:FuncId) (ps:Array Tmp) (assign body:Code) (f0:Nat->AV) (T:U) (gs gi:Gh) (w1 w2:World) (b:Nat) (a1:Act):Prop where
 ec:{ a with defers:=[{ target:=.collected w.heap.size,args:=#[] }]++a.defers }=a1
 jl:Ext A g0 w gs w1
 FU:∀ k,gs.al k->k < B
 tD:aX gs w1 n ⟨α.tm,S.nx::α.df⟩ a1
 hb:w1.heap.size=b
 sB:w2.heap.size=b+1
 hold:∀ c,c < b->w2.heap[c]?=w1.heap[c]?
 uV:(Instr.enterLoop fn a.tmps ps assign body none).run P w=.ok (b,[{ target:=.collected w.heap.size,args:=#[] }]) w2
 oG:A b
 lo:∀ c,A c->w0.heap.size<=c
 FV:St w0 A gi (bu [(0,.fo (LJ w0.heap.size A gs n a.tmps .ready none ps assign body f0 T))] 1) w2
 ob:gi.ob 0=b
 al:gi.al 0
 IM:∀ c q,gs.fz c q->gi.fz c q
 IN:∀ c q,gi.fz c q->gs.fz c q\/A c
 au:∀ c q,gs.fz c q->c < w1.heap.size
theorem Cr.of {α:AA}{st0:List (Nat × AV)}{so0:List (Nat × Ob)}{A:Nat->Prop}{g0:Gh}{a:Act}{w:World}(hS:St w0 A g0 S w) (hA:aX g0 w n α a)
  (hC:Canon B N m ⟨α.tm,S.nx::α.df⟩ (S.new .df) st0 (S.nx::α.df) so0) (hB:S.nx+1<=B) (fn:FuncId):∃ gs gi w1 w2 b a1,Cr P w0 n A g0 α S a w B fn ps assign body (eh st0 []).tm (bu so0 N) gs gi w1 w2 b a1:=by
 obtain⟨jl,dF⟩:=hS.new (.deferred (some [])) .df 0 (fun J=>by simp) (fun hL=>bZ)
 obtain⟨gs,tE⟩:∃ gs,g0.new S.nx w.heap.size 0=gs:=⟨_,rfl⟩
 obtain⟨w1,tF⟩:∃ w1,w.alloc (.deferred (some []))=w1:=⟨_,rfl⟩
 rw [tE,tF] at jl dF
 have gE:gs.ob S.nx=w.heap.size:=by rw [<-tE];exact ah _ _ _
 have aY:gs.al S.nx:=by rw [<-tE];exact .inr rfl
 have FU:∀ k,gs.al k->k < B:=fun k hk=>by
  have:=dF.al k hk
  have:k < S.nx+1:=this
  omega
 have tD:aX gs w1 n ⟨α.tm,S.nx::α.df⟩ { a with defers:=({ target:=.collected w.heap.size,args:=#[] }:Deferred)::a.defers }:=by
  have h:=hA.later jl.toLater
  refine⟨h.size,h.tm,h.out,?_,fun k hk=>?_⟩
  ·show _=({ target:=.collected (gs.ob S.nx),args:=#[] }:Deferred)::_
   rw [gE,<-h.df]
  ·rcases List.mem_cons.1 hk with rfl|hk
   ·exact aY
   ·exact h.nU k hk
 obtain⟨a1,ec⟩:∃ a1:Act,{ a with defers:=({ target:=.collected w.heap.size,args:=#[] }:Deferred)::a.defers }=a1:=⟨_,rfl⟩
 rw [ec] at tD
 have IK:=Nat.le_of_ble_eq_true hC.bn
 have l5:=hC.st dF
 have Pj:=hC.DH tD
 obtain⟨gc,xd⟩:∃ gc,gs.dw B N (bh m)=gc:=⟨_,rfl⟩
 have xe:Ext A gs w1 gc w1:=by rw [<-xd];exact (Ext.refl A gs w1).dw IK FU
 rw [xd] at l5 Pj
 obtain⟨L,uW⟩:∃ L:Loop,{ state:=.ready,pending:=none,fn,tmps:=a.tmps,params:=ps,assign,body,defers:=w.heap.size }=L:=⟨_,rfl⟩
 obtain⟨w2,rH⟩:∃ w2,w1.alloc (.loop L)=w2:=⟨_,rfl⟩
 obtain⟨b,hb⟩:∃ b,w1.heap.size=b:=⟨_,rfl⟩
 have sB:w2.heap.size=b+1:=by rw [<-rH,<-hb];exact size_alloc
 have hold:∀ c,c < b->w2.heap[c]?=w1.heap[c]?:=fun c hc=>by rw [<-rH];exact dh (by rw [hb];exact hc)
 have m_:w2.heap[b]?=some (.loop L):=by rw [<-rH,<-hb];exact bZ
 have uV:(Instr.enterLoop fn a.tmps ps assign body none).run P w=.ok (b,[{ target:=.collected w.heap.size,args:=#[] }]) w2:=by
  rw [<-rH,<-tF,<-hb,<-tF,<-uW]
  simp only [Instr.enterLoop,newObj,Sem.run_bind,Sem.run,Result.andThen_ok,Sem.run_pure]
  rfl
 obtain⟨IP,l6⟩:=l5.free.move (w':=w2) (A':=A) gc.fz (by omega) (fun c hc=>l5.up c (by omega)) l5.lo (fun c hc au _=>⟨hc,hold c (by omega),fun _ h=>h⟩)
  (fun c q hq=>World.cell?_of_block (hold c (by rw [<-hb];exact l5.bM c q hq))) (fun _ _ h=>h) (fun c q hq=>by have:=l5.bM c q hq;omega)
 have l6:oE w0.heap.size A gc (bu so0 N) w2:=l6
 have IP:Later gc w1 gc w2:=IP
 have IQ:Below w0.heap.size w0 w2:=by
  refine⟨?_,?_,?_,by have:=l5.base.size;omega,fun k hk=>(hold k (by have:=l5.base.size;omega)).trans (l5.base.block k hk)⟩
  ·rw [<-rH];exact l5.base.os
  ·rw [<-rH];exact l5.base.tape
  ·rw [<-rH];exact l5.base.output
 have oG:A b:=l5.up b (by omega)
 obtain⟨Bf,tA⟩:∃ Bf:Nat->Prop,Bf=fun c=>c=b\/(∃ k o,(bu so0 N).get k=some o/\gc.al k/\c=gc.ob k)\/∃ k J,(bu so0 N).get k=some (.fo J)/\gc.al k/\gc.fo (gc.ob k) c:=⟨_,rfl⟩
 have DP:∀ c,Bf c->A c/\c < w2.heap.size:=fun c hc=>by
  rw [tA] at hc
  rcases hc with rfl|hc
  ·exact⟨oG,by omega⟩
  ·exact l6.O_ hc
 have Qb:Bf b:=by rw [tA];exact .inl rfl
 have Su:LJ w0.heap.size A gs n a.tmps .ready none ps assign body (eh st0 []).tm (bu so0 N) b gc.fz Bf w2:=by
  obtain⟨v1,v2⟩:=l6.move (w':=w2) (A':=fun c=>(Bf c/\c ≠ b)\/w2.heap.size<=c) gc.fz (Nat.le_refl _) (fun c hc=>.inr hc) (fun c hc=>hc.elim (fun h=>l6.lo c (DP c h.1).1) fun h=>l6.lo c (l6.up c h))
   (fun c hc au h=>⟨.inl ⟨by rw [tA];exact .inr h,fun e=>by
    have:=l5.free.O_ h
    omega⟩,rfl,fun _ h=>h⟩) (fun _ _ _=>rfl) (fun _ _ h=>h) l6.bM
  refine⟨gc,L,v2,Qb,DP,⟨m_,by rw [<-uW],by rw [<-uW],by rw [<-uW],by rw [<-uW],by rw [<-uW],by rw [<-uW]⟩,?_,fun c q hq=>.inl hq,fun c q _ hq=>hq,⟨xe.al,xe.ob,xe.cp,xe.fz⟩,fun c hc=>l6.up c hc⟩
  have h:=Pj.later IP
  have h1:=h.size
  have h2:=h.tm
  rw [<-ec] at h1 h2
  exact⟨h1,h2,h.out,rfl,fun k hk=>by cases hk⟩
 obtain⟨gi,tG⟩:∃ gi:Gh,gi=⟨fun _=>b,fun _=>0,fun k=>k=0,gc.fz,fun _=>Bf⟩:=⟨_,rfl⟩
 obtain⟨J0,Pk⟩:∃ J0,LJ w0.heap.size A gs n a.tmps .ready none ps assign body (eh st0 []).tm (bu so0 N)=J0:=⟨_,rfl⟩
 have FV:St w0 A gi (bu [(0,.fo J0)] 1) w2:=by
  have e1:∀ k,gi.ob k=b:=fun k=>by rw [tG]
  have e2:∀ k,gi.fo k=Bf:=fun k=>by rw [tG]
  have e3:gi.fz=gc.fz:=by rw [tG]
  have e4:∀ k,gi.al k->k=0:=fun k hk=>by rw [tG] at hk;exact hk
  refine⟨IQ,l6.up,l6.lo,fun k hk=>by rw [e4 k hk];exact Nat.one_pos,fun k o hk ha=>?_,fun i k o p hi hk _ _ _=>(iJ hi).1.trans (iJ hk).1.symm,fun c q hq=>l6.bM c q (by rw [<-e3];exact hq),fun c q hc=>by rw [e3];exact l6.j7 c q hc,
   fun k J hk ha c hc=>DP c (by rw [e2] at hc;exact hc),fun k J i o hk _ hi _ aM=>absurd ((iJ hi).1.trans (iJ hk).1.symm) aM,fun i k J J' hi hk _ _=>(iJ hi).1.trans (iJ hk).1.symm⟩
  obtain⟨rfl,rfl⟩:=iJ hk
  rw [e1]
  refine⟨oG,by omega,?_⟩
  show J0 b gi.fz (gi.fo b) w2/\yh J0
  rw [e2,e3,<-Pk]
  exact⟨Su,LJ.ok⟩
 rw [<-Pk] at FV
 exact⟨gs,gi,w1,w2,b,a1,ec,jl,FU,tD,hb,sB,hold,uV,oG,l6.lo,FV,by rw [tG],by rw [tG],fun c q hq=>by rw [tG];exact xe.fz c q hq,fun c q hq=>by rw [tG] at hq;exact xe.eu c q hq,fun c q hq=>dF.bM c q hq⟩
theorem Cr.out {α:AA}{st0:List (Nat × AV)}{so1:List (Nat × Ob)}{j:Option Code}{A:Nat->Prop}{g0:Gh}{a:Act}{w:World}{fn:FuncId}{T S1:U}{gs gi Cs:Gh}{w1 w2 w3:World}{b:Nat}{a1:Act}
  (h:Cr P w0 n A g0 α S a w B fn ps assign body (eh st0 []).tm T gs gi w1 w2 b a1) (uT:∀ c q,gs.fz c q->c < w1.heap.size)
  (DQ:S1.get 0=some (.fo (LJ w0.heap.size A gs n a.tmps (il j) j ps assign body (eh st0 []).tm (bu so1 N)))) (oH:St w0 A Cs S1 w3) (pV:Ext A gi w2 Cs w3) :
  ∃ w4,(Instr.endLoop b).run P w3=.ok j w4/\∀ ex,iD w0 n A g0 w ex (eh st0 (S.nx::α.df)) (bu so1 N) ex a1 w4:=by
 have IS:=h.al
 have iW:Cs.ob 0=b:=(pV.ob 0 IS).trans h.ob
 obtain⟨_,nt,⟨gb,L3,p1,p2,p3,⟨q1,q2,q3,q4,q5,q6,q7⟩,p5,p6,p7,p8,p9⟩,_⟩:=oH.bE 0 _ DQ (pV.al 0 IS)
 rw [iW] at p1 p2 p3 q1 p6 p7 nt
 obtain⟨B3,Sv⟩:∃ B3,Cs.fo b=B3:=⟨_,rfl⟩
 rw [Sv] at p1 p2 p3 p6 p7
 obtain⟨w4,pW⟩:∃ w4,World.rec w3 b { L3 with state:=.exhausted }=w4:=⟨_,rfl⟩
 have Qc:w4.heap.size=w3.heap.size:=by rw [<-pW];exact eF
 have gQ:(Instr.endLoop b).run P w3=.ok j w4:=by
  have:(L3.state == .busy)=false:=by rw [q2];cases j<;>rfl
  rw [<-pW]
  simp only [Instr.endLoop,Sem.run_bind,run_getLoop q1,Result.andThen_ok,this,Bool.false_eq_true,if_false,nr q1,Sem.run_pure,q3]
 obtain⟨z1,z2⟩:=p1.move (w':=w4) (A':=A) gb.fz (by omega) (fun c hc=>p9 c (by omega)) h.lo (fun c hc au h=>by
   have hc:=hc.resolve_right (by omega)
   exact⟨(p3 c hc.1).1,by rw [<-pW];exact ez hc.2,fun _ h=>h⟩) (fun c q _=>by rw [<-pW];exact qD q1 c q) (fun _ _ h=>h) (fun c q hq=>by rw [Qc];exact p1.bM c q hq)
 have z2:oE w0.heap.size A gb (bu so1 N) w4:=z2
 have Cp:w0.heap.size<=b:=h.lo b h.oG
 have IT:Below w0.heap.size w0 w4:=by
  refine⟨?_,?_,?_,by have:=oH.base.size;omega,fun k hk=>?_⟩
  ·rw [<-pW];exact oH.base.os
  ·rw [<-pW];exact oH.base.tape
  ·rw [<-pW];exact oH.base.output
  ·rw [<-pW];exact (ez (by omega)).trans (oH.base.block k hk)
 have DR:Ext A g0 w gb w4:=by
  refine h.jl.trans ⟨⟨p8.al,p8.ob,p8.cp,p8.fz,fun c q hq=>?_⟩,by have:=pV.size;have:=h.sB;have:=h.hb;omega,fun c hc Pl=>?_,fun c q hq=>?_⟩
  ·rw [<-pW,qD q1,pV.cell c q (h.IM c q hq)]
   exact World.cell?_of_block (h.hold c (by rw [<-h.hb];exact uT c q hq))
  ·have:=h.sB;have:=h.hb
   rw [<-pW,ez (fun e=>Pl (by rw [e];exact h.oG)),pV.bR c (by omega) Pl,h.hold c (by omega)]
  ·rcases p6 c q hq with h1|h1
   ·rcases pV.eu c q h1 with h2|h2
    ·exact h.IN c q h2
    ·exact .inr h2
   ·exact .inr (p3 c h1).1
 have Sw:aX gb w4 n (eh st0 (S.nx::α.df)) a1:=by
  have h':=p5.later (z1:Later gb w3 gb w4)
  have e1:a1.tmps=a.tmps:=by rw [<-h.ec]
  refine⟨by rw [e1];exact h'.size,fun t ht=>by rw [e1];exact h'.tm t ht,h'.out,?_,fun k hk=>?_⟩
  ·show a1.defers=(S.nx::α.df).map _
   rw [h.tD.df]
   exact List.map_congr_left fun k hk=>by rw [p8.ob k (h.tD.nU k hk)]
  ·exact p8.al k (h.tD.nU k hk)
 exact⟨w4,gQ,fun ex=>⟨rfl,gb,z2.st IT,Sw,DR⟩⟩
theorem bA.range {α:AA}{g:Operand}{gid:FuncId}{first cap:List AV}{st0:List (Nat × AV)}{so0 so1:List (Nat × Ob)}{j:Option Code}
  (hf:α.ev g=.fn (.func gid) first cap) (Sx:∀ a ∈ first,Pure a) (Sy:∀ a ∈ cap,Pure a)
  (hC:Canon B N m ⟨α.tm,S.nx::α.df⟩ (S.new .df) st0 (S.nx::α.df) so0) (hB:S.nx+1<=B) (hj:rF ex=some j)
  (hI:∀ (A:Nat->Prop) (gs:Gh) (T0:Array Value),(∀ k,gs.al k->k < B)->∃ r S1,aR P w0 gid (first++[.yl 0]++cap) (bu [(0,.fo (LJ w0.heap.size A gs n T0 .ready none ps assign body (eh st0 []).tm (bu so0 N)))] 1) r S1 /\
   S1.get 0=some (.fo (LJ w0.heap.size A gs n T0 (il j) j ps assign body (eh st0 []).tm (bu so1 N)))) :
  bA P w0 false n (.rangeFunc g ps assign body) α S ex (eh st0 (S.nx::α.df)) (bu so1 N):=by
 intro F mm A g0 a w hF hR hS hA
 have jB:F.round=none:=by
  cases h:F.round with
  |none=>rfl
  |some l=>rw [h] at hR;cases hR
 refine wpIn_rangeFunc fun fn uX=>?_
 obtain⟨gs,gi,w1,w2,b,a1,h⟩:=Cr.of (P:=P) (ps:=ps) (assign:=assign) (body:=body) hS hA hC hB fn
 obtain⟨r,S1,dg,DQ⟩:=hI A gs a.tmps h.FU
 have IU:=hA.ev g
 rw [hf] at IU
 obtain⟨cs,ds,Sz,tu,FW⟩:=Cq IU
 have toI:∀ {l:List AV}{xs:Array Value},(∀ a ∈ l,Pure a)->ia g0 w l xs->ia gi w2 l xs:=fun hp h1=>⟨h1.1,fun i a x ha hx=>ao.pure (g:=g0) (fun c q hq=>h.IM c q (h.jl.fz c q hq)) (fun c q hq=>by
   have au:=hS.bM c q hq
   have:=h.jl.size
   rw [<-h.jl.cell c q hq]
   exact World.cell?_of_block (h.hold c (by rw [<-h.hb];omega))) (h1.2 i a x ha hx) (hp a (List.mem_of_getElem? ha))⟩
 obtain⟨ya,IV⟩:∃ ya:Array Value,ya=#[.func (.yield b) #[] #[]]:=⟨_,rfl⟩
 have Le:ia gi w2 (first++[.yl 0]++cap) (cs++ya++ds):=by
  refine iu (iu (toI Sx tu) ⟨by rw [IV];rfl,fun i a x ha hx=>?_⟩) (toI Sy FW)
  match i with
  |0 =>
   rw [IV] at hx
   simp at ha hx
   subst ha hx
   have:=ao.yl (g:=gi) (w:=w2) (k:=0) h.al
   rw [h.ob] at this
   exact this
  |i+1=>simp at ha
 have iK:(resolve a.eval (rangeCall g b) 0).run P w2=.ok { target:=.fn (.func gid) ds,args:=cs++ya } w2:=by
  rw [IV]
  have e1:(rangeCall g b).args.map a.eval=#[.func (.yield b) #[] #[]]:=by simp [rangeCall,Act.eval]
  simp only [resolve,e1,Sz,Deferred.ofValue]
  rfl
 refine⟨b,_,w2,_,w2,gid,cs++ya++ds,w2,by rw [jB];exact h.uV,iK,fun f' _=>hF.1 f',dg.1 _ w2,fun hd=>(by rw [hF.2.1] at hd;cases hd),(dg.2 F (mm - 1) A gi _ w2 hF h.FV Le).mono ?_⟩
 rintro e w3 ⟨v,Cs,rfl,Uo,oH,pV⟩
 obtain⟨w4,gQ,rI⟩:=h.out (j:=j) h.au DQ oH pV
 rw [h.ec]
 refine⟨j,w4,gQ,?_⟩
 have rI:=rI ex
 cases ex with
 |normal=>obtain rfl:=Option.some.inj hj;exact rI
 |ret=>obtain rfl:=Option.some.inj hj;exact wpIn_ret rI
 |exit id=>obtain rfl:=Option.some.inj hj;exact wpIn_exit rI
 |_=>cases hj
end
end Go.Proofs.YtbofilglphfceaaGreat
