import Derived.Test.YtgphljokbodciaaGreatS8
namespace Go.Proofs.YtgphljokbodciaaGreat
set_option linter.unusedVariables false
set_option linter.unusedSimpArgs false
open Go.RowKit
structure wo (z:Nat) (A:Nat->Prop) (g:Gh) (S:ae) (w:World):Prop where
 up:∀ b,w.heap.size<=b->A b
 lo:∀ b,A b->z<=b
 al:∀ k,g.al k->k < S.nx
 cH:∀ k o,S.get k=some o->g.al k->A (g.ob k)/\g.ob k < w.heap.size/\dF g w (g.ob k) (g.cp k) o
 inj:∀ j k o p,S.get j=some o->S.get k=some p->g.al j->g.al k->g.ob j=g.ob k->j=k
 cK:∀ b o,g.fz b o->b < w.heap.size
 nn:∀ b o,b < z->g.fz b o
 iD:∀ k J,S.get k=some (.fo J)->g.al k->∀ c,g.fo (g.ob k) c->A c/\c < w.heap.size
 j2:∀ k J j o,S.get k=some (.fo J)->g.al k->S.get j=some o->g.al j->j ≠ k->¬ g.fo (g.ob k) (g.ob j)
 me:∀ j k J J',S.get j=some (.fo J)->S.get k=some (.fo J')->g.al j->g.al k->j=k
def Gh.EJ (g:Gh) (Z:Nat->Nat->Prop):Gh:=⟨g.ob,g.cp,g.al,Z,g.fo⟩
section
variable {w0:World}{z:Nat}{A A':Nat->Prop}{g:Gh}{S:ae}{w w':World}
theorem St.free (h:St w0 A g S w):wo w0.heap.size A g S w:=⟨h.up,h.lo,h.al,h.cH,h.inj,h.cK,h.nn,h.iD,h.j2,h.me⟩
theorem wo.st (h:wo w0.heap.size A g S w) (hb:Below w0.heap.size w0 w):St w0 A g S w:=⟨hb,h.up,h.lo,h.al,h.cH,h.inj,h.cK,h.nn,h.iD,h.j2,h.me⟩
theorem wo.move (h:wo z A g S w) (Z:Nat->Nat->Prop) (hs:w.heap.size<=w'.heap.size) (up:∀ b,w'.heap.size<=b->A' b) (lo:∀ b,A' b->z<=b)
  (hB:∀ c,A c->c < w.heap.size->((∃ k o,S.get k=some o/\g.al k/\c=g.ob k)\/∃ k J,S.get k=some (.fo J)/\g.al k/\g.fo (g.ob k) c)->A' c/\w'.heap[c]?=w.heap[c]?/\∀ q,Z c q->g.fz c q)
  (hc:∀ b q,g.fz b q->w'.cell? ⟨b,q,none⟩=w.cell? ⟨b,q,none⟩) (hz:∀ b q,g.fz b q->Z b q) (zlt:∀ b q,Z b q->b < w'.heap.size):Later g w (g.EJ Z) w'/\wo z A' (g.EJ Z) S w':=by
 have hL:Later g w (g.EJ Z) w':=⟨fun _ h=>h,fun _ _=>rfl,fun _ _=>rfl,hz,hc⟩
 refine⟨hL,up,lo,h.al,fun k o hk ha=>?_,h.inj,zlt,fun b q hb=>hz b q (h.nn b q hb),fun k J hk ha c hc=>?_,h.j2,h.me⟩
 ·obtain⟨h1,h2,h3⟩:=h.cH k o hk ha
  obtain⟨h4,h5,h6⟩:=hB _ h1 h2 (.inl ⟨k,o,hk,ha,rfl⟩)
  refine⟨h4,Nat.lt_of_lt_of_le h2 hs,h3.later hL h5 h6 fun J hJ=>⟨rfl,hs,fun c hc=>?_,fun c q hc hq=>?_⟩⟩
  ·subst hJ
   obtain⟨k1,k2⟩:=h.iD k J hk ha c hc
   exact (hB c k1 k2 (.inr ⟨k,J,hk,ha,hc⟩)).2.1
  ·subst hJ
   obtain⟨k1,k2⟩:=h.iD k J hk ha c hc
   exact (hB c k1 k2 (.inr ⟨k,J,hk,ha,hc⟩)).2.2 q hq
 ·obtain⟨k1,k2⟩:=h.iD k J hk ha c hc
  exact⟨(hB c k1 k2 (.inr ⟨k,J,hk,ha,hc⟩)).1,Nat.lt_of_lt_of_le k2 hs⟩
theorem wo.inA (h:wo z A g S w) {c:Nat}(hc:(∃ k o,S.get k=some o/\g.al k/\c=g.ob k)\/∃ k J,S.get k=some (.fo J)/\g.al k/\g.fo (g.ob k) c):A c/\c < w.heap.size:=by
 rcases hc with ⟨k,o,h1,h2,rfl⟩|⟨k,J,h1,h2,h3⟩
 ·exact⟨(h.cH k o h1 h2).1,(h.cH k o h1 h2).2.1⟩
 ·exact h.iD k J h1 h2 c h3
end
structure GL (gs gb:Gh):Prop where
 al:∀ k,gs.al k->gb.al k
 ob:∀ k,gs.al k->gb.ob k=gs.ob k
 cp:∀ k,gs.al k->gb.cp k=gs.cp k
 fz:∀ b q,gs.fz b q->gb.fz b q
def LJ (z:Nat) (A:Nat->Prop) (gs:Gh) (n:Nat) (T0:Array Value) (st:LoopState) (tI:Option Code) (ps:Array Tmp) (assign body:Code) (f0:Nat->AV) (S:ae):Nat->(Nat->Nat->Prop)->(Nat->Prop)->World->Prop :=
 fun b Z B w=>∃ (gb:Gh) (L:Loop),wo z (fun c=>(B c/\c ≠ b)\/w.heap.size<=c) gb S w/\B b/\(∀ c,B c->A c/\c < w.heap.size) /\
  (w.heap[b]?=some (.loop L)/\L.state=st/\L.pending=tI/\L.params=ps/\L.assign=assign/\L.body=body/\L.tmps=T0)/\b7 gb w n ⟨f0,[]⟩ { tmps:=T0,defers:=[] } /\
  (∀ c q,gb.fz c q->Z c q\/B c)/\(∀ c q,B c->Z c q->gb.fz c q)/\GL gs gb/\∀ c,w.heap.size<=c->A c
section
variable {z:Nat}{A:Nat->Prop}{gs:Gh}{n:Nat}{T0:Array Value}{st:LoopState}{tI:Option Code}{ps:Array Tmp}{assign body:Code}{f0:Nat->AV}{S:ae}
theorem LJ.ok:GU (LJ z A gs n T0 st tI ps assign body f0 S):=by
 rintro b Z Z' B w w' ⟨gb,L,h1,h2,h3,h4,h5,h6,h7,h8,h9⟩ hZ hZB AL lN bI
 have hc:∀ c q,gb.fz c q->w'.cell? ⟨c,q,none⟩=w.cell? ⟨c,q,none⟩:=fun c q hq=>(h6 c q hq).elim (lN c q) fun hB=>World.cell?_of_block (AL c hB)
 have inB:∀ c,((B c/\c ≠ b)\/w.heap.size<=c)->c < w.heap.size->B c/\c ≠ b:=fun c hc au=>hc.resolve_right (by omega)
 obtain⟨k1,k2⟩:=h1.move (w':=w') (A':=fun c=>(B c/\c ≠ b)\/w'.heap.size<=c) gb.fz bI (fun c hc=>.inr hc) (fun c hc=>h1.lo c (hc.imp id fun h=>Nat.le_trans bI h))
  (fun c hA au _=>⟨.inl (inB c hA au),AL c (inB c hA au).1,fun _ h=>h⟩) hc (fun _ _ h=>h) (fun c q hq=>Nat.lt_of_lt_of_le (h1.cK c q hq) bI)
 exact⟨gb,L,k2,h2,fun c hc=>⟨(h3 c hc).1,Nat.lt_of_lt_of_le (h3 c hc).2 bI⟩,⟨(AL b h2).trans h4.1,h4.2⟩,h5.later k1,fun c q hq=>(h6 c q hq).imp (hZ c q) id,fun c q hB hq=>h7 c q hB (hZB c q hB hq),h8,fun c hc=>h9 c (Nat.le_trans bI hc)⟩
end
def r9 (f:Nat->AV):List (Nat × AV)->Nat->AV
 |[]=>f
 |p::l=>r9 (bP f p.1 p.2) l
section
variable {P:Program}{w0:World}{n:Nat}{T0:Array Value}{ps:Array Tmp}{assign body:Code}{f0:Nat->AV}{S bZ AR:ae}{bN wO:AA}{ex:Exit}{x:List AV}{B N:Nat}{m:List (Nat × Nat)}{so:List (Nat × Ob)}
theorem EK {g:Gh}{w:World}:∀ {l:List (Nat × AV)}{ys:List (Nat × Value)}{f:Nat->AV}{T:Array Value},b7 g w n ⟨f,[]⟩ { tmps:=T,defers:=[] }->l.map (·.1)=ys.map (·.1)->(∀ p ∈ l,p.1 < n) ->
  (∀ (i:Nat) (p:Nat × AV) (y:Nat × Value),l[i]?=some p->ys[i]?=some y->aL g w p.2 y.2)->b7 g w n ⟨r9 f l,[]⟩ { tmps:=ys.foldl (fun T (t,a)=>T.setIfInBounds t a) T,defers:=[] }
 |[],[],f,T,h,_,_,_=>h
 |p::l,y::ys,f,T,h,hl,hn,hr=>by
  simp only [List.map_cons,List.cons.injEq] at hl
  have h1:b7 g w n ⟨bP f p.1 p.2,[]⟩ { tmps:=T.setIfInBounds p.1 y.2,defers:=[] }:=h.put (hn p (by simp)) (hr 0 p y rfl rfl)
  have h2:b7 g w n ⟨bP f p.1 p.2,[]⟩ { tmps:=T.setIfInBounds y.1 y.2,defers:=[] }:=by rw [<-hl.1];exact h1
  rw [r9,List.foldl_cons]
  exact EK h2 hl.2 (fun q hq=>hn q (by simp [hq])) fun i q v h3 h4=>hr (i+1) q v (by simpa using h3) (by simpa using h4)
 |[],y::ys,f,T,h,hl,_,_=>by simp at hl
 |p::l,[],f,T,h,hl,_,_=>by simp at hl
def tx:Exit->Option (Option Code)
 |.normal=>some none
 |.ret=>some (some .ret)
 |.exit id=>some (some (.exit id))
 |_=>none
def kW (j:Option Code):LoopState:=match j with|none=>.ready|some _=>.done
theorem run_getLoop {w:World}{b:Nat}{L:Loop}(h:w.heap[b]?=some (.loop L)):(Instr.getLoop b).run P w=.ok L w:=by
 simp [Instr.getLoop,getObj,Sem.run,h]
def World.rec (w:World) (b:Nat) (L:Loop):World:={ w with heap:=w.heap.setIfInBounds b (.loop L) }
theorem iR {w:World}{b:Nat}{L:Loop}:(World.rec w b L).heap.size=w.heap.size:=by simp [World.rec]
theorem iy {w:World}{b c:Nat}{L:Loop}(h:c ≠ b):(World.rec w b L).heap[c]?=w.heap[c]?:=by
 simp only [World.rec,Array.getElem?_setIfInBounds]
 rw [if_neg (Ne.symm h)]
theorem yB {w:World}{b:Nat}{L:Loop}(h:b < w.heap.size):(World.rec w b L).heap[b]?=some (.loop L):=by simp [World.rec,Array.getElem?_setIfInBounds,h]
theorem yC {w:World}{b:Nat}{L L':Loop}(h:w.heap[b]?=some (.loop L')) (c q:Nat):(World.rec w b L).cell? ⟨c,q,none⟩=w.cell? ⟨c,q,none⟩:=by
 by_cases e:c=b
 ·subst e
  have au:c < w.heap.size:=by
   rcases Nat.lt_or_ge c w.heap.size with h1|h1
   ·exact h1
   ·rw [Array.getElem?_eq_none h1] at h;cases h
  simp [World.cell?,yB au,h]
 ·exact World.cell?_of_block (iy e)
theorem uJ {w:World}{b:Nat}{L L':Loop}(h:w.heap[b]?=some (.loop L')):(setObj b (.loop L)).run P w=.ok () (World.rec w b L):=by
 simp [setObj,Sem.run,h,World.rec]
theorem Ext.mono {A A':Nat->Prop}{g g':Gh}{w w':World}(h:Ext A g w g' w') (hs:∀ b,A b->A' b):Ext A' g w g' w' :=
 { h.toLater with size:=h.size,aT:=fun b hb hA=>h.aT b hb fun h=>hA (hs b h),gH:=fun b q hq=>(h.gH b q hq).imp id (hs b) }
theorem St.YG {A:Nat->Prop}{g:Gh}{w:World}(h:St w0 A g S w) {b:Nat}{L L':Loop}(hb:w.heap[b]?=some (.loop L')) (hA:¬ A b) (h0:w0.heap.size<=b):Later g w g (World.rec w b L)/\St w0 A g S (World.rec w b L):=by
 have au:b < w.heap.size:=by
  rcases Nat.lt_or_ge b w.heap.size with h1|h1
  ·exact h1
  ·rw [Array.getElem?_eq_none h1] at hb;cases hb
 obtain⟨h1,h2⟩:=h.free.move (w':=World.rec w b L) (A':=A) g.fz (by rw [iR];exact Nat.le_refl _) (fun c hc=>h.up c (by rw [iR] at hc;exact hc)) h.lo (fun c hc _ _=>⟨hc,iy (fun e=>hA (by rw [<-e];exact hc)),fun _ h=>h⟩)
  (fun c q _=>yC hb c q) (fun _ _ h=>h) (fun c q hq=>by rw [iR];exact h.cK c q hq)
 exact⟨h1,h2.st ⟨h.base.os,h.base.tape,h.base.output,by rw [iR];exact h.base.size,fun k hk=>(iy (by omega)).trans (h.base.block k hk)⟩⟩
theorem nz.rnd (ha:cy P w0 true n assign ⟨r9 f0 (ps.toList.zip x),[]⟩ S .normal bN bZ) (hb:cy P w0 true n body bN bZ ex wO AR) (hC:Canon B N m wO AR [] [] so) {j:Option Code}(hj:tx ex=some j)
  (hx:x.length=ps.size) (hp:∀ a ∈ x,Pure a) (Gb:∀ t ∈ ps,t < n) (DD:∀ t,cD B (f0 t)) {A:Nat->Prop}{gs:Gh}(hB:∀ k,gs.al k->k < B)
  {T:ae}{k:Nat}(hT:T.get k=some (.fo (LJ w0.heap.size A gs n T0 .ready none ps assign body f0 S))) :
  nz P w0 k x T (.v (.bool j.isNone)) (T.set k (some (.fo (LJ w0.heap.size A gs n T0 (kW j) j ps assign body f0 (aE so N))))):=by
 intro F mm A2 g bO w hF hS bG hA
 obtain⟨k2,k3,⟨gb,L,h1,h2,h3,⟨su,WX,hL3,YH,hL5,hL6,hL7⟩,h5,h6,h7,h8,h9⟩,_⟩:=hS.cH k _ hT bG
 obtain⟨b,z3⟩:∃ b,g.ob k=b:=⟨_,rfl⟩
 rw [z3] at k2 k3 h1 h2 h3 su h6 h7
 obtain⟨Bf,B_⟩:∃ Bf,g.fo b=Bf:=⟨_,rfl⟩
 rw [B_] at h1 h2 h3 h6 h7
 have Ej:w0.heap.size<=b:=hS.lo b k2
 have au:b < w.heap.size:=k3
 have Kp:∀ c,Bf c->A2 c/\c < w.heap.size:=fun c hc=>hS.iD k _ hT bG c (by rw [z3,B_];exact hc)
 obtain⟨Z,hZ⟩:∃ Z:Nat->Nat->Prop,Z=fun c q=>gb.fz c q\/g.fz c q:=⟨_,rfl⟩
 obtain⟨Ab,wq⟩:∃ Ab:Nat->Prop,Ab=fun c=>(Bf c/\c ≠ b)\/w.heap.size<=c:=⟨_,rfl⟩
 rw [<-wq] at h1
 have OU:∀ c,Ab c->c < w.heap.size->Bf c/\c ≠ b:=fun c hc au=>by rw [wq] at hc;exact hc.resolve_right (by omega)
 have Tg:¬ Ab b:=by rw [wq];rintro (h|h);exact h.2 rfl;omega
 obtain⟨m1,m2⟩:=h1.move (w':=w) (A':=Ab) Z (Nat.le_refl _) h1.up h1.lo (fun c hc au _=>⟨hc,rfl,fun q hq=>by
   rw [hZ] at hq
   exact hq.elim id fun h=>h7 c q (OU c hc au).1 h⟩) (fun _ _ _=>rfl) (fun _ _ h=>by rw [hZ];exact .inl h) (fun c q hq=>by
   rw [hZ] at hq
   exact hq.elim (h1.cK c q) (hS.cK c q))
 have cZ:=m2.st hS.base
 have aiL:(gb.EJ Z).fz=Z:=rfl
 have hAR:b7 (gb.EJ Z) w n ⟨r9 f0 (ps.toList.zip x),[]⟩ { tmps:=(ps.toList.zip bO.toList).foldl (fun T (t,a)=>T.setIfInBounds t a) T0,defers:=[] }:=by
  refine EK (h5.later m1) ?_ (fun p hp=>Gb _ (by simpa using (List.of_mem_zip hp).1)) (fun i p y K0 hy=>?_)
  ·have e1:bO.toList.length=x.length:=by rw [Array.length_toList];exact hA.1
   rw [List.map_fst_zip (by rw [Array.length_toList];omega),List.map_fst_zip (by rw [e1,Array.length_toList];omega)]
  ·rw [List.getElem?_zip_eq_some] at K0 hy
   have hr:=hA.2 i p.2 y.2 K0.2 (by rw [<-Array.getElem?_toList];exact hy.2)
   exact aL.pure (g:=g) (fun c q hq=>by show Z c q;rw [hZ];exact .inr hq) (fun _ _ _=>rfl) hr (hp _ (List.mem_of_getElem? K0.2))
 have bD:bO.size=L.params.size:=by rw [hA.1,hx,YH]
 refine⟨b,L.fn,(ps.toList.zip bO.toList).foldl (fun T (t,a)=>T.setIfInBounds t a) T0,assign,body,?_,?_⟩
 ·rw [z3]
  simp only [Instr.yield,Sem.run_bind,run_getLoop su,Result.andThen_ok,bD,ne_eq,not_true_eq_false,if_false,Sem.run_pure,hL5,hL6,hL7,YH]
  congr 3
  rw [<-Array.foldl_toList,Array.toList_zip]
 ·have hF':iF (F.inRound b):=hF.inRound b
  have hR':(F.inRound b).round.isSome=true:=rfl
  refine roundIn_of_wpIn (hF.1 _) ?_
  refine wpIn_mono (ha (F.inRound b) mm Ab _ _ w hF' hR' cZ hAR) ?_
  rintro e1 a1 w1 ⟨rfl,g1,s1,r1,x1⟩
  have fc:w1.heap[b]?=some (.loop L):=(x1.aT b au Tg).trans su
  have EL:b < w1.heap.size:=Nat.lt_of_lt_of_le au x1.size
  refine⟨World.rec w1 b { L with state:=.busy },?_,?_⟩
  ·simp only [Instr.beginRound,Sem.run_bind,run_getLoop fc,Result.andThen_ok,uJ fc,WX,Sem.run_pure]
  obtain⟨y1,y2⟩:=s1.YG (L:={ L with state:=.busy }) fc Tg Ej
  refine wpIn_mono (hb (F.inRound b) mm Ab g1 a1 _ hF' hR' y2 (r1.later y1)) ?_
  rintro e2 a2 w2 ⟨rfl,g2,s2,r2,x2⟩
  have ft:w2.heap[b]?=some (.loop { L with state:=.busy }):=(x2.aT b (by rw [iR];exact EL) Tg).trans (yB EL)
  have iM:b < w2.heap.size:=Nat.lt_of_lt_of_le (by rw [iR];exact EL) x2.size
  have A4:w.heap.size<=w2.heap.size:=Nat.le_trans x1.size (by have:=x2.size;rw [iR] at this;exact this)
  obtain⟨w3,GO⟩:∃ w3,World.rec w2 b { L with state:=kW j,pending:=j }=w3:=⟨_,rfl⟩
  obtain⟨u1,u2⟩:=s2.YG (L:={ L with state:=kW j,pending:=j }) ft Tg Ej
  rw [GO] at u1 u2
  have YI:w3.heap.size=w2.heap.size:=by rw [<-GO];exact iR
  have kC:(Instr.endRound b j).run P w2=.ok (.bool j.isNone) w3:=by
   rw [<-GO]
   cases j<;>simp only [Instr.endRound,Sem.run_bind,run_getLoop ft,Result.andThen_ok,Sem.run_pure,uJ ft]<;>rfl
  have post:∃ v g',Ending.returned (.bool j.isNone)=.returned v/\aL g' w3 (.v (.bool j.isNone)) v/\St w0 A2 g' (T.set k (some (.fo (LJ w0.heap.size A gs n T0 (kW j) j ps assign body f0 (aE so N))))) w3/\Ext A2 g w g' w3:=by
   have lN:∀ c q,g.fz c q->w3.cell? ⟨c,q,none⟩=w.cell? ⟨c,q,none⟩:=fun c q hq=>by
    have Th:(gb.EJ Z).fz c q:=by show Z c q;rw [hZ];exact .inr hq
    rw [u1.cell c q (x2.fz c q (y1.fz c q (x1.fz c q Th))),x2.cell c q (y1.fz c q (x1.fz c q Th)),y1.cell c q (x1.fz c q Th),x1.cell c q Th]
   have Ti:∀ c,c < w.heap.size->¬ Ab c->c ≠ b->w3.heap[c]?=w.heap[c]?:=fun c hc hA bH=>by
    rw [<-GO,iy bH,x2.aT c (by rw [iR];exact Nat.lt_of_lt_of_le hc x1.size) hA,iy bH,x1.aT c hc hA]
   obtain⟨B',Ca⟩:∃ B':Nat->Prop,B'=fun c=>Bf c\/(w.heap.size<=c/\c < w3.heap.size):=⟨_,rfl⟩
   obtain⟨g',l3⟩:∃ g':Gh,g'=⟨g.ob,g.cp,g.al,g.fz,fun d c=>(d=b/\B' c)\/(d ≠ b/\g.fo d c)⟩:=⟨_,rfl⟩
   have OV:g'.fo b=B':=by
    rw [l3];funext c
    exact propext ⟨fun h=>h.elim (·.2) fun h=>absurd rfl h.1,fun h=>.inl ⟨rfl,h⟩⟩
   have aiD:∀ d,d ≠ b->g'.fo d=g.fo d:=fun d hd=>by
    rw [l3];funext c
    exact propext ⟨fun h=>h.elim (fun h=>absurd h.1 hd) (·.2),fun h=>.inr ⟨hd,h⟩⟩
   have hL':Later g w g' w3:=by rw [l3];exact⟨fun _ h=>h,fun _ _=>rfl,fun _ _=>rfl,fun _ _ h=>h,lN⟩
   have hE':Ext A2 g w g' w3:={ hL' with
    size:=by rw [YI];exact A4
    aT:=fun c hc hA=>Ti c hc (fun h=>hA (Kp c (OU c h hc).1).1) (fun e=>hA (by rw [e];exact k2))
    gH:=fun c q hq=>by rw [l3] at hq;exact .inl hq }
   have sub:∀ c,Ab c->c < w3.heap.size->B' c/\c ≠ b:=fun c hc kU=>by
    rw [Ca]
    rw [wq] at hc
    rcases hc with hc|hc
    ·exact⟨.inl hc.1,hc.2⟩
    ·exact⟨.inr ⟨hc,kU⟩,by omega⟩
   have mM:LJ w0.heap.size A gs n T0 (kW j) j ps assign body f0 (aE so N) b g'.fz (g'.fo b) w3/\GU (LJ w0.heap.size A gs n T0 (kW j) j ps assign body f0 (aE so N)):=by
    refine⟨?_,LJ.ok⟩
    rw [OV]
    have zl:=hC.st u2
    have YJ:=Nat.le_of_ble_eq_true hC.bn
    obtain⟨v1,v2⟩:=zl.free.move (w':=w3) (A':=fun c=>(B' c/\c ≠ b)\/w3.heap.size<=c) (g2.e8 B N (bX m)).fz (Nat.le_refl _) (fun c hc=>.inr hc) (fun c hc=>by
      rcases hc with hc|hc
      ·rw [Ca] at hc
       rcases hc.1 with h|h
       ·exact hS.lo c (Kp c h).1
       ·have:=hS.base.size;omega
      ·have h1:=hS.base.size;omega) (fun c hc au _=>⟨.inl (sub c hc au),rfl,fun _ h=>h⟩) (fun _ _ _=>rfl) (fun _ _ h=>h) (fun c q hq=>zl.cK c q hq)
    have kK:Ext (fun c=>Ab c\/c=b) (gb.EJ Z) w g2 w3:=((x1.mono fun _ h=>.inl h).trans (g2:=g1) { y1 with size:=by rw [iR];exact Nat.le_refl _,aT:=fun c _ hA=>iy (fun e=>hA (.inr e)),gH:=fun _ _ h=>.inl h }).trans
     ((x2.mono fun _ h=>.inl h).trans { u1 with size:=by rw [YI];exact Nat.le_refl _,aT:=fun c _ hA=>by rw [<-GO];exact iy (fun e=>hA (.inr e)),gH:=fun _ _ h=>.inl h })
    have qC:∀ c,(Ab c\/c=b)->c < w3.heap.size->B' c:=fun c hc kU=>hc.elim (fun h=>(sub c h kU).1) fun e=>by rw [e,Ca];exact .inl h2
    refine⟨g2.e8 B N (bX m),{ L with state:=kW j,pending:=j },v2,by rw [Ca];exact .inl h2,fun c hc=>?_,⟨by rw [<-GO];exact yB iM,rfl,rfl,YH,hL5,hL6,hL7⟩,?_,fun c q hq=>?_,fun c q hc hq=>?_,?_,fun c hc=>h9 c (by omega)⟩
    ·rw [Ca] at hc
     rcases hc with hc|hc
     ·exact⟨(h3 c hc).1,by have:=(h3 c hc).2;omega⟩
     ·exact⟨h9 c hc.1,hc.2⟩
    ·have YK:=(h5.later m1).later kK.toLater
     exact⟨YK.size,fun t ht=>(YK.tm t ht).e8 YJ (DD t),YK.out,rfl,fun k hk=>by cases hk⟩
    ·have QM:g2.fz c q:=hq
     have kU:=u2.cK c q QM
     rw [l3]
     rcases kK.gH c q QM with h|h
     ·have h:Z c q:=h
      rw [hZ] at h
      rcases h with h|h
      ·exact (h6 c q h).imp id fun h=>by rw [Ca];exact .inl h
      ·exact .inl h
     ·exact .inr (qC c h kU)
    ·rw [l3] at hq
     have:Z c q:=by rw [hZ];exact .inr hq
     exact kK.fz c q this
    ·have e0:∀ k,gs.al k->dm B (bX m) k=k:=fun k hk=>jW (hB k hk)
     refine⟨fun k hk=>⟨by have:=hB k hk;omega,?_⟩,fun k hk=>?_,fun k hk=>?_,fun c q hq=>kK.fz c q (by show Z c q;rw [hZ];exact .inl (h8.fz c q hq))⟩
     ·rw [e0 k hk];exact kK.al k (h8.al k hk)
     ·show g2.ob (dm B (bX m) k)=gs.ob k
      rw [e0 k hk,kK.ob k (h8.al k hk)];exact h8.ob k hk
     ·show g2.cp (dm B (bX m) k)=gs.cp k
      rw [e0 k hk,kK.cp k (h8.al k hk)];exact h8.cp k hk
   have key:∀ l r,(T.set k (some (.fo (LJ w0.heap.size A gs n T0 (kW j) j ps assign body f0 (aE so N))))).get l=some r->(l=k/\r=.fo (LJ w0.heap.size A gs n T0 (kW j) j ps assign body f0 (aE so N)))\/(l ≠ k/\T.get l=some r):=by
    intro l r hl
    have hl:bP T.get k (some (.fo (LJ w0.heap.size A gs n T0 (kW j) j ps assign body f0 (aE so N)))) l=some r:=hl
    by_cases e:l=k
    ·subst e;rw [aG] at hl;exact .inl ⟨rfl,(Option.some.inj hl).symm⟩
    ·rw [aN _ _ e] at hl;exact .inr ⟨e,hl⟩
   have OW:∀ l r,(T.set k (some (.fo (LJ w0.heap.size A gs n T0 (kW j) j ps assign body f0 (aE so N))))).get l=some r->∃ r',T.get l=some r':=fun l r hl=>(key l r hl).elim (fun e=>⟨.fo (LJ w0.heap.size A gs n T0 .ready none ps assign body f0 S),e.1.symm ▸ hT⟩) fun e=>⟨r,e.2⟩
   have EM:∀ i,g'.ob i=g.ob i:=fun i=>by rw [l3]
   have GQ:∀ i,g'.al i=g.al i:=fun i=>by rw [l3]
   have Bq:g'.fz=g.fz:=by rw [l3]
   refine⟨_,g',rfl,.v,⟨u2.base,fun c hc=>hS.up c (by omega),hS.lo,fun i hi=>hS.al i (by rw [<-GQ];exact hi),fun i o hi tH=>?_,fun i l o p hi hl ai al e=>?_,fun c q hq=>by rw [Bq] at hq;have:=hS.cK c q hq;omega,fun c q hc=>by rw [Bq];exact hS.nn c q hc,
    fun i J hi tH c hc=>?_,fun i J l o hi tH hl Aj bH hc=>?_,fun i l J J' hi hl ai al=>?_⟩,hE'⟩
   ·rw [GQ] at tH
    rcases key i o hi with ⟨rfl,rfl⟩|⟨bH,hi⟩
    ·rw [EM,z3]
     exact⟨k2,by omega,mM⟩
    ·obtain⟨q1,q2,q3⟩:=hS.cH i o hi tH
     have hib:g.ob i ≠ b:=fun e=>bH (hS.inj i k o _ hi hT tH bG (by rw [e,z3]))
     have hnA:¬ Ab (g.ob i):=fun h=>hS.j2 k _ i o hT bG hi tH bH (by rw [z3,B_];exact (OU _ h q2).1)
     have m8:g'.cp i=g.cp i:=by rw [l3]
     rw [EM,m8]
     refine⟨q1,by omega,q3.later hL' (Ti _ q2 hnA hib) (fun q hq=>by rw [Bq] at hq;exact hq) fun J hJ=>?_⟩
     subst hJ
     exact absurd (hS.me i k J _ hi hT tH bG) bH
   ·rw [GQ] at ai al
    rw [EM,EM] at e
    obtain⟨_,gY⟩:=OW i o hi
    obtain⟨_,nB⟩:=OW l p hl
    exact hS.inj i l _ _ gY nB ai al e
   ·rw [GQ] at tH
    rcases key i _ hi with ⟨rfl,_⟩|⟨bH,hi⟩
    ·rw [EM,z3,OV,Ca] at hc
     rcases hc with hc|hc
     ·exact⟨(Kp c hc).1,by have:=(Kp c hc).2;omega⟩
     ·exact⟨hS.up c hc.1,hc.2⟩
    ·exact absurd (hS.me i k J _ hi hT tH bG) bH
   ·rw [GQ] at tH Aj
    rcases key i _ hi with ⟨rfl,_⟩|⟨agC,hi⟩
    ·rw [EM,z3,OV,Ca,EM] at hc
     obtain⟨_,nB⟩:=OW l o hl
     rcases hc with hc|hc
     ·exact hS.j2 i _ l _ hT bG nB Aj bH (by rw [z3,B_];exact hc)
     ·have:=(hS.cH l _ nB Aj).2.1;omega
    ·exact absurd (hS.me i k J _ hi hT tH bG) agC
   ·rw [GQ] at ai al
    have to:∀ x J,(T.set k (some (.fo (LJ w0.heap.size A gs n T0 (kW j) j ps assign body f0 (aE so N))))).get x=some (.fo J)->g.al x->x=k:=fun x J hx ax=>(key x _ hx).elim (·.1) fun e=>hS.me x k J _ e.2 hT ax bG
    rw [to i J hi ai,to l J' hl al]
  cases e2 with
  |normal=>obtain rfl:=Option.some.inj hj;exact⟨_,w3,kC,post⟩
  |ret=>obtain rfl:=Option.some.inj hj;exact⟨_,w3,kC,post⟩
  |exit id=>obtain rfl:=Option.some.inj hj;exact⟨_,w3,kC,post⟩
  |_=>cases hj
theorem uY {g:Gh}{w:World}{f:Fn}{l m:List AV}{v:Value}(h:aL g w (.fn f l m) v):∃ cs ds,v=.func f cs ds/\jL g w l cs/\jL g w m ds:=by
 cases h with
 |fn h1 h2 h3 h4=>exact⟨_,_,rfl,⟨h1,h3⟩,⟨h2,h4⟩⟩
theorem mU {J:Nat->(Nat->Nat->Prop)->(Nat->Prop)->World->Prop}{k:Nat}{o:Ob}(h:(aE [(0,.fo J)] 1).get k=some o):k=0/\o=.fo J:=by
 have h:iS [(0,.fo J)] k=some o:=h
 have:=jq h
 simp only [List.mem_singleton,Prod.mk.injEq] at this
 exact this
structure Mm (P:Program) (w0:World) (n:Nat) (A:Nat->Prop) (g0:Gh) (α:AA) (S:ae) (a:Act) (w:World) (B:Nat) (fn:FuncId) (ps:Array Tmp) (assign body:Code) (f0:Nat->AV) (T:ae) (gs gi:Gh) (w1 w2:World) (b:Nat) (a1:Act):Prop where
 db:{ a with defers:=[{ target:=.collected w.heap.size,args:=#[] }]++a.defers }=a1
 kK:Ext A g0 w gs w1
 Tk:∀ k,gs.al k->k < B
 Cb:b7 gs w1 n ⟨α.tm,S.nx::α.df⟩ a1
 hb:w1.heap.size=b
 A4:w2.heap.size=b+1
 hold:∀ c,c < b->w2.heap[c]?=w1.heap[c]?
 EN:(Instr.enterLoop fn a.tmps ps assign body none).run P w=.ok (b,[{ target:=.collected w.heap.size,args:=#[] }]) w2
 wq:A b
 lo:∀ c,A c->w0.heap.size<=c
 Tl:St w0 A gi (aE [(0,.fo (LJ w0.heap.size A gs n a.tmps .ready none ps assign body f0 T))] 1) w2
 ob:gi.ob 0=b
 al:gi.al 0
 WW:∀ c q,gs.fz c q->gi.fz c q
 Wb:∀ c q,gi.fz c q->gs.fz c q\/A c
 au:∀ c q,gs.fz c q->c < w1.heap.size
theorem Mm.of {α:AA}{st0:List (Nat × AV)}{so0:List (Nat × Ob)}{A:Nat->Prop}{g0:Gh}{a:Act}{w:World}(hS:St w0 A g0 S w) (hA:b7 g0 w n α a)
  (hC:Canon B N m ⟨α.tm,S.nx::α.df⟩ (S.new .df) st0 (S.nx::α.df) so0) (hB:S.nx+1<=B) (fn:FuncId):∃ gs gi w1 w2 b a1,Mm P w0 n A g0 α S a w B fn ps assign body (d_ st0 []).tm (aE so0 N) gs gi w1 w2 b a1:=by
 obtain⟨kK,fm⟩:=hS.new (.deferred (some [])) .df 0 (fun J=>by simp) (fun hL=>dy)
 obtain⟨gs,YL⟩:∃ gs,g0.new S.nx w.heap.size 0=gs:=⟨_,rfl⟩
 obtain⟨w1,se⟩:∃ w1,w.alloc (.deferred (some []))=w1:=⟨_,rfl⟩
 rw [YL,se] at kK fm
 have gU:gs.ob S.nx=w.heap.size:=by rw [<-YL];exact aG _ _ _
 have bG:gs.al S.nx:=by rw [<-YL];exact .inr rfl
 have Tk:∀ k,gs.al k->k < B:=fun k hk=>by
  have:=fm.al k hk
  have:k < S.nx+1:=this
  omega
 have Cb:b7 gs w1 n ⟨α.tm,S.nx::α.df⟩ { a with defers:=({ target:=.collected w.heap.size,args:=#[] }:Deferred)::a.defers }:=by
  have h:=hA.later kK.toLater
  refine⟨h.size,h.tm,h.out,?_,fun k hk=>?_⟩
  ·show _=({ target:=.collected (gs.ob S.nx),args:=#[] }:Deferred)::_
   rw [gU,<-h.df]
  ·rcases List.mem_cons.1 hk with rfl|hk
   ·exact bG
   ·exact h.sZ k hk
 obtain⟨a1,db⟩:∃ a1:Act,{ a with defers:=({ target:=.collected w.heap.size,args:=#[] }:Deferred)::a.defers }=a1:=⟨_,rfl⟩
 rw [db] at Cb
 have YJ:=Nat.le_of_ble_eq_true hC.bn
 have sJ:=hC.st fm
 have hAc:=hC.GY Cb
 obtain⟨gc,Gc⟩:∃ gc,gs.e8 B N (bX m)=gc:=⟨_,rfl⟩
 have GR:Ext A gs w1 gc w1:=by rw [<-Gc];exact (Ext.refl A gs w1).e8 YJ Tk
 rw [Gc] at sJ hAc
 obtain⟨L,EO⟩:∃ L:Loop,{ state:=.ready,pending:=none,fn,tmps:=a.tmps,params:=ps,assign,body,defers:=w.heap.size }=L:=⟨_,rfl⟩
 obtain⟨w2,zO⟩:∃ w2,w1.alloc (.loop L)=w2:=⟨_,rfl⟩
 obtain⟨b,hb⟩:∃ b,w1.heap.size=b:=⟨_,rfl⟩
 have A4:w2.heap.size=b+1:=by rw [<-zO,<-hb];exact size_alloc
 have hold:∀ c,c < b->w2.heap[c]?=w1.heap[c]?:=fun c hc=>by rw [<-zO];exact eY (by rw [hb];exact hc)
 have uv:w2.heap[b]?=some (.loop L):=by rw [<-zO,<-hb];exact dy
 have EN:(Instr.enterLoop fn a.tmps ps assign body none).run P w=.ok (b,[{ target:=.collected w.heap.size,args:=#[] }]) w2:=by
  rw [<-zO,<-se,<-hb,<-se,<-EO]
  simp only [Instr.enterLoop,newObj,Sem.run_bind,Sem.run,Result.andThen_ok,Sem.run_pure]
  rfl
 obtain⟨YN,sK⟩:=sJ.free.move (w':=w2) (A':=A) gc.fz (by omega) (fun c hc=>sJ.up c (by omega)) sJ.lo (fun c hc au _=>⟨hc,hold c (by omega),fun _ h=>h⟩)
  (fun c q hq=>World.cell?_of_block (hold c (by rw [<-hb];exact sJ.cK c q hq))) (fun _ _ h=>h) (fun c q hq=>by have:=sJ.cK c q hq;omega)
 have sK:wo w0.heap.size A gc (aE so0 N) w2:=sK
 have YN:Later gc w1 gc w2:=YN
 have YO:Below w0.heap.size w0 w2:=by
  refine⟨?_,?_,?_,by have:=sJ.base.size;omega,fun k hk=>(hold k (by have:=sJ.base.size;omega)).trans (sJ.base.block k hk)⟩
  ·rw [<-zO];exact sJ.base.os
  ·rw [<-zO];exact sJ.base.tape
  ·rw [<-zO];exact sJ.base.output
 have wq:A b:=sJ.up b (by omega)
 obtain⟨Bf,B_⟩:∃ Bf:Nat->Prop,Bf=fun c=>c=b\/(∃ k o,(aE so0 N).get k=some o/\gc.al k/\c=gc.ob k)\/∃ k J,(aE so0 N).get k=some (.fo J)/\gc.al k/\gc.fo (gc.ob k) c:=⟨_,rfl⟩
 have OX:∀ c,Bf c->A c/\c < w2.heap.size:=fun c hc=>by
  rw [B_] at hc
  rcases hc with rfl|hc
  ·exact⟨wq,by omega⟩
  ·exact sK.inA hc
 have agD:Bf b:=by rw [B_];exact .inl rfl
 have hLJ:LJ w0.heap.size A gs n a.tmps .ready none ps assign body (d_ st0 []).tm (aE so0 N) b gc.fz Bf w2:=by
  obtain⟨v1,v2⟩:=sK.move (w':=w2) (A':=fun c=>(Bf c/\c ≠ b)\/w2.heap.size<=c) gc.fz (Nat.le_refl _) (fun c hc=>.inr hc) (fun c hc=>hc.elim (fun h=>sK.lo c (OX c h.1).1) fun h=>sK.lo c (sK.up c h))
   (fun c hc au h=>⟨.inl ⟨by rw [B_];exact .inr h,fun e=>by
    have:=sJ.free.inA h
    omega⟩,rfl,fun _ h=>h⟩) (fun _ _ _=>rfl) (fun _ _ h=>h) sK.cK
  refine⟨gc,L,v2,agD,OX,⟨uv,by rw [<-EO],by rw [<-EO],by rw [<-EO],by rw [<-EO],by rw [<-EO],by rw [<-EO]⟩,?_,fun c q hq=>.inl hq,fun c q _ hq=>hq,⟨GR.al,GR.ob,GR.cp,GR.fz⟩,fun c hc=>sK.up c hc⟩
  have h:=hAc.later YN
  have h1:=h.size
  have h2:=h.tm
  rw [<-db] at h1 h2
  exact⟨h1,h2,h.out,rfl,fun k hk=>by cases hk⟩
 obtain⟨gi,Cc⟩:∃ gi:Gh,gi=⟨fun _=>b,fun _=>0,fun k=>k=0,gc.fz,fun _=>Bf⟩:=⟨_,rfl⟩
 obtain⟨J0,hJ0⟩:∃ J0,LJ w0.heap.size A gs n a.tmps .ready none ps assign body (d_ st0 []).tm (aE so0 N)=J0:=⟨_,rfl⟩
 have Tl:St w0 A gi (aE [(0,.fo J0)] 1) w2:=by
  have e1:∀ k,gi.ob k=b:=fun k=>by rw [Cc]
  have e2:∀ k,gi.fo k=Bf:=fun k=>by rw [Cc]
  have e3:gi.fz=gc.fz:=by rw [Cc]
  have e4:∀ k,gi.al k->k=0:=fun k hk=>by rw [Cc] at hk;exact hk
  refine⟨YO,sK.up,sK.lo,fun k hk=>by rw [e4 k hk];exact Nat.one_pos,fun k o hk ha=>?_,fun i k o p hi hk _ _ _=>(mU hi).1.trans (mU hk).1.symm,fun c q hq=>sK.cK c q (by rw [<-e3];exact hq),fun c q hc=>by rw [e3];exact sK.nn c q hc,
   fun k J hk ha c hc=>OX c (by rw [e2] at hc;exact hc),fun k J i o hk _ hi _ bH=>absurd ((mU hi).1.trans (mU hk).1.symm) bH,fun i k J J' hi hk _ _=>(mU hi).1.trans (mU hk).1.symm⟩
  obtain⟨rfl,rfl⟩:=mU hk
  rw [e1]
  refine⟨wq,by omega,?_⟩
  show J0 b gi.fz (gi.fo b) w2/\GU J0
  rw [e2,e3,<-hJ0]
  exact⟨hLJ,LJ.ok⟩
 rw [<-hJ0] at Tl
 exact⟨gs,gi,w1,w2,b,a1,db,kK,Tk,Cb,hb,A4,hold,EN,wq,sK.lo,Tl,by rw [Cc],by rw [Cc],fun c q hq=>by rw [Cc];exact GR.fz c q hq,fun c q hq=>by rw [Cc] at hq;exact GR.gH c q hq,fun c q hq=>fm.cK c q hq⟩
theorem Mm.out {α:AA}{st0:List (Nat × AV)}{so1:List (Nat × Ob)}{j:Option Code}{A:Nat->Prop}{g0:Gh}{a:Act}{w:World}{fn:FuncId}{T S1:ae}{gs gi Mn:Gh}{w1 w2 w3:World}{b:Nat}{a1:Act}
  (h:Mm P w0 n A g0 α S a w B fn ps assign body (d_ st0 []).tm T gs gi w1 w2 b a1) (EL:∀ c q,gs.fz c q->c < w1.heap.size)
  (OY:S1.get 0=some (.fo (LJ w0.heap.size A gs n a.tmps (kW j) j ps assign body (d_ st0 []).tm (aE so1 N)))) (pN:St w0 A Mn S1 w3) (pM:Ext A gi w2 Mn w3) :
  ∃ w4,(Instr.endLoop b).run P w3=.ok j w4/\∀ ex,lR w0 n A g0 w ex (d_ st0 (S.nx::α.df)) (aE so1 N) ex a1 w4:=by
 have YP:=h.al
 have mY:Mn.ob 0=b:=(pM.ob 0 YP).trans h.ob
 obtain⟨_,kU,⟨gb,L3,p1,p2,p3,⟨q1,q2,q3,q4,q5,q6,q7⟩,p5,p6,p7,p8,p9⟩,_⟩:=pN.cH 0 _ OY (pM.al 0 YP)
 rw [mY] at p1 p2 p3 q1 p6 p7 kU
 obtain⟨B3,hB3⟩:∃ B3,Mn.fo b=B3:=⟨_,rfl⟩
 rw [hB3] at p1 p2 p3 p6 p7
 obtain⟨w4,xH⟩:∃ w4,World.rec w3 b { L3 with state:=.exhausted }=w4:=⟨_,rfl⟩
 have agE:w4.heap.size=w3.heap.size:=by rw [<-xH];exact iR
 have kC:(Instr.endLoop b).run P w3=.ok j w4:=by
  have:(L3.state == .busy)=false:=by rw [q2];cases j<;>rfl
  rw [<-xH]
  simp only [Instr.endLoop,Sem.run_bind,run_getLoop q1,Result.andThen_ok,this,Bool.false_eq_true,if_false,uJ q1,Sem.run_pure,q3]
 obtain⟨z1,z2⟩:=p1.move (w':=w4) (A':=A) gb.fz (by omega) (fun c hc=>p9 c (by omega)) h.lo (fun c hc au h=>by
   have hc:=hc.resolve_right (by omega)
   exact⟨(p3 c hc.1).1,by rw [<-xH];exact iy hc.2,fun _ h=>h⟩) (fun c q _=>by rw [<-xH];exact yC q1 c q) (fun _ _ h=>h) (fun c q hq=>by rw [agE];exact p1.cK c q hq)
 have z2:wo w0.heap.size A gb (aE so1 N) w4:=z2
 have Ej:w0.heap.size<=b:=h.lo b h.wq
 have YQ:Below w0.heap.size w0 w4:=by
  refine⟨?_,?_,?_,by have:=pN.base.size;omega,fun k hk=>?_⟩
  ·rw [<-xH];exact pN.base.os
  ·rw [<-xH];exact pN.base.tape
  ·rw [<-xH];exact pN.base.output
  ·rw [<-xH];exact (iy (by omega)).trans (pN.base.block k hk)
 have OJ:Ext A g0 w gb w4:=by
  refine h.kK.trans ⟨⟨p8.al,p8.ob,p8.cp,p8.fz,fun c q hq=>?_⟩,by have:=pM.size;have:=h.A4;have:=h.hb;omega,fun c hc hA'=>?_,fun c q hq=>?_⟩
  ·rw [<-xH,yC q1,pM.cell c q (h.WW c q hq)]
   exact World.cell?_of_block (h.hold c (by rw [<-h.hb];exact EL c q hq))
  ·have:=h.A4;have:=h.hb
   rw [<-xH,iy (fun e=>hA' (by rw [e];exact h.wq)),pM.aT c (by omega) hA',h.hold c (by omega)]
  ·rcases p6 c q hq with h1|h1
   ·rcases pM.gH c q h1 with h2|h2
    ·exact h.Wb c q h2
    ·exact .inr h2
   ·exact .inr (p3 c h1).1
 have hAf:b7 gb w4 n (d_ st0 (S.nx::α.df)) a1:=by
  have h':=p5.later (z1:Later gb w3 gb w4)
  have e1:a1.tmps=a.tmps:=by rw [<-h.db]
  refine⟨by rw [e1];exact h'.size,fun t ht=>by rw [e1];exact h'.tm t ht,h'.out,?_,fun k hk=>?_⟩
  ·show a1.defers=(DE.ob S.nx::α.df).map _
   rw [h.Cb.df]
   exact List.map_congr_left fun k hk=>(vg (p8.ob _ (h.Cb.sZ k hk))).symm
  ·exact p8.al _ (h.Cb.sZ k hk)
 exact⟨w4,kC,fun ex=>⟨rfl,gb,z2.st YQ,hAf,OJ⟩⟩
theorem cy.range {α:AA}{g:Operand}{gid:FuncId}{first cap:List AV}{st0:List (Nat × AV)}{so0 so1:List (Nat × Ob)}{j:Option Code}
  (hf:α.ev g=.fn (.func gid) first cap) (YR:∀ a ∈ first,Pure a) (YS:∀ a ∈ cap,Pure a)
  (hC:Canon B N m ⟨α.tm,S.nx::α.df⟩ (S.new .df) st0 (S.nx::α.df) so0) (hB:S.nx+1<=B) (hj:tx ex=some j)
  (hI:∀ (A:Nat->Prop) (gs:Gh) (T0:Array Value),(∀ k,gs.al k->k < B)->∃ r S1,aV P w0 gid (first++[.yl 0]++cap) (aE [(0,.fo (LJ w0.heap.size A gs n T0 .ready none ps assign body (d_ st0 []).tm (aE so0 N)))] 1) r S1 /\
   S1.get 0=some (.fo (LJ w0.heap.size A gs n T0 (kW j) j ps assign body (d_ st0 []).tm (aE so1 N)))) :
  cy P w0 false n (.rangeFunc g ps assign body) α S ex (d_ st0 (S.nx::α.df)) (aE so1 N):=by
 intro F mm A g0 a w hF hR hS hA
 have n0:F.round=none:=by
  cases h:F.round with
  |none=>rfl
  |some l=>rw [h] at hR;cases hR
 refine wpIn_rangeFunc fun fn D4=>?_
 obtain⟨gs,gi,w1,w2,b,a1,h⟩:=Mm.of (P:=P) (ps:=ps) (assign:=assign) (body:=body) hS hA hC hB fn
 obtain⟨r,S1,bL,OY⟩:=hI A gs a.tmps h.Tk
 have YT:=hA.ev g
 rw [hf] at YT
 obtain⟨cs,ds,hev,BM,RE⟩:=uY YT
 have toI:∀ {l:List AV}{xs:Array Value},(∀ a ∈ l,Pure a)->jL g0 w l xs->jL gi w2 l xs:=fun hp h1=>⟨h1.1,fun i a x ha hx=>aL.pure (g:=g0) (fun c q hq=>h.WW c q (h.kK.fz c q hq)) (fun c q hq=>by
   have au:=hS.cK c q hq
   have:=h.kK.size
   rw [<-h.kK.cell c q hq]
   exact World.cell?_of_block (h.hold c (by rw [<-h.hb];omega))) (h1.2 i a x ha hx) (hp a (List.mem_of_getElem? ha))⟩
 obtain⟨ya,YU⟩:∃ ya:Array Value,ya=#[.func (.yield b) #[] #[]]:=⟨_,rfl⟩
 have aek:jL gi w2 (first++[.yl 0]++cap) (cs++ya++ds):=by
  refine fY (fY (toI YR BM) ⟨by rw [YU];rfl,fun i a x ha hx=>?_⟩) (toI YS RE)
  match i with
  |0 =>
   rw [YU] at hx
   simp at ha hx
   subst ha hx
   have:=aL.yl (g:=gi) (w:=w2) (k:=0) h.al
   rw [h.ob] at this
   exact this
  |i+1=>simp at ha
 have dG:(resolve a.eval (rangeCall g b) 0).run P w2=.ok { target:=.fn (.func gid) ds,args:=cs++ya } w2:=by
  rw [YU]
  have e1:(rangeCall g b).args.map a.eval=#[.func (.yield b) #[] #[]]:=by simp [rangeCall,Act.eval]
  simp only [resolve,e1,hev,Deferred.ofValue]
  rfl
 refine⟨b,_,w2,_,w2,gid,cs++ya++ds,w2,by rw [n0];exact h.EN,dG,fun f' _=>hF.1 f',bL.1 _ w2,fun hd=>(by rw [hF.2.1] at hd;cases hd),(bL.2 F (mm - 1) A gi _ w2 hF h.Tl aek).mono ?_⟩
 rintro e w3 ⟨v,Mn,rfl,hr3,pN,pM⟩
 obtain⟨w4,kC,z4⟩:=h.out (j:=j) h.au OY pN pM
 rw [h.db]
 refine⟨j,w4,kC,?_⟩
 have z4:=z4 ex
 cases ex with
 |normal=>obtain rfl:=Option.some.inj hj;exact z4
 |ret=>obtain rfl:=Option.some.inj hj;exact wpIn_ret z4
 |exit id=>obtain rfl:=Option.some.inj hj;exact wpIn_exit z4
 |_=>cases hj
end
abbrev iX:=Nat->(Nat->Nat->Prop)->(Nat->Prop)->World->Prop
inductive Ys (P:Program) (w0:World):iX->List (List AV)->Bool->iX->Prop where
 |nil (J:iX):Ys P w0 J [] true J
 |cons {J J1 J':iX}{x:List AV}{xs:List (List AV)}{b:Bool}(h:∀ (T:ae) (k:Nat),T.get k=some (.fo J)->nz P w0 k x T (.v (.bool true)) (T.set k (some (.fo J1)))) (t:Ys P w0 J1 xs b J'):Ys P w0 J (x::xs) b J'
 |stop {J J':iX}{x:List AV}{xs:List (List AV)}(h:∀ (T:ae) (k:Nat),T.get k=some (.fo J)->nz P w0 k x T (.v (.bool false)) (T.set k (some (.fo J')))):Ys P w0 J (x::xs) false J'
def Iter (P:Program) (w0:World) (gid:FuncId) (first cap:List AV) (xs:List (List AV)):Prop :=
 ∀ (J:iX) (b:Bool) (J':iX),Ys P w0 J xs b J'->∃ r S1,aV P w0 gid (first++[.yl 0]++cap) (aE [(0,.fo J)] 1) r S1/\S1.get 0=some (.fo J')
section
variable {P:Program}{w0:World}
theorem Ys.split {xs ys:List (List AV)}{b:Bool}{J J':iX}(h:Ys P w0 J (xs++ys) b J'):(b=false/\Ys P w0 J xs false J')\/∃ J1,Ys P w0 J xs true J1/\Ys P w0 J1 ys b J':=by
 induction xs generalizing J with
 |nil=>exact .inr ⟨J,.nil J,h⟩
 |cons x xs ih =>
  cases h with
  |cons h t =>
   rcases ih t with ⟨h1,h2⟩|⟨J1,h1,h2⟩
   ·exact .inl ⟨h1,.cons h h2⟩
   ·exact .inr ⟨J1,.cons h h1,h2⟩
  |stop h=>exact .inl ⟨rfl,.stop h⟩
theorem Ys.one {x:List AV}{b:Bool}{J J':iX}(h:Ys P w0 J [x] b J'):∀ (T:ae) (k:Nat),T.get k=some (.fo J)->nz P w0 k x T (.v (.bool b)) (T.set k (some (.fo J'))):=by
 cases h with
 |cons h t=>cases t;exact h
 |stop h=>exact h
theorem Ys.head {x:List AV}{xs:List (List AV)}{b:Bool}{J J':iX}(h:Ys P w0 J (x::xs) b J'):∃ d J1,(∀ (T:ae) (k:Nat),T.get k=some (.fo J)->nz P w0 k x T (.v (.bool d)) (T.set k (some (.fo J1))))/\((d=true/\Ys P w0 J1 xs b J')\/(d=false/\b=false/\J1=J')):=by
 cases h with
 |cons h t=>exact⟨true,_,h,.inl ⟨rfl,t⟩⟩
 |stop h=>exact⟨false,_,h,.inr ⟨rfl,rfl,rfl⟩⟩
theorem Ys.He {b:Bool}{J J':iX}(h:Ys P w0 J [] b J'):b=true/\J'=J:=by cases h;exact⟨rfl,rfl⟩
end
section
variable {P:Program}{w0:World}{α:AA}{S S':ae}{r:AV}
theorem ad.yl {f:QO}{aZ9:List QO}{k:Nat}{args:List AV}{b:Bool}{J1:Ob}(h:f.ev α.tm=.yl k) (ha:aZ9.map (·.ev α.tm)=args) (hr:nz P w0 k args S (.v (.bool b)) (S.set k (some J1))):ad P w0 false (.call f aZ9) α S (.v (.bool b)) (S.set k (some J1)):=by
 intro n o iZ
 obtain⟨c,u,ho,hu,rfl,rfl⟩:=lj iZ
 rw [lO] at ha
 rw [aU] at h
 subst ha
 exact wE ho hu h hr
end
def YV:QC->Option (Bool × List QI)
 |.skip=>some (false,[])
 |.bz dr l=>some (dr,l)
 |_=>none
theorem yj {B:Nat}:∀ {l:List (Nat × AV)},(∀ p ∈ l,cD B p.2)->∀ t,cD B (jK (fun _=>.u) l t)
 |[],_,_=>.u
 |p::l,h,t=>by
  show cD B (bP (jK (fun _=>.u) l) p.1 p.2 t)
  by_cases e:t=p.1
  ·rw [e,aG];exact h p (by simp)
  ·rw [aN _ _ e];exact yj (fun q hq=>h q (by simp [hq])) t
section
variable {P:Program}{w0:World}{n:Nat}{α aB:AA}{S S':ae}{Q:Exit->AA->ae->Prop}{ex:Exit}{K:List iq}
def Vs {σ T:Type}(P:Program) (w0:World) (n B N:Nat) (st0:List (Nat × AV)) (ds:List DE) (so:σ->List (Nat × Ob)) (I:List T->σ->Prop) (Q:Exit->AA->ae->Prop) (K:List iq) (rest:List T):Exit->AA->ae->Prop :=
 fun ex α S=>match ex with
  |.normal=>∃ s' m,I rest s'/\Canon B N m α S [] [] (so s')
  |.ret=>∃ so' m,Canon B N m α S [] [] so'/\ab P w0 false n Q (.out .ret K) (d_ st0 ds) (aE so' N)
  |.exit id=>∃ so' m,Canon B N m α S [] [] so'/\ab P w0 false n Q (.out (.exit id) K) (d_ st0 ds) (aE so' N)
  |_=>False
theorem ab.range {σ T:Type}{x:QO}{ps:List Nat}{qa qb:QC}{dr:Bool}{l:List QI}{gid:FuncId}{first cap:List AV}(enc:T->List AV) (L:List T) (B N:Nat) (m0:List (Nat × Nat)) (st0:List (Nat × AV)) (so:σ->List (Nat × Ob)) (I:List T->σ->Prop) (s0:σ)
  (hx:x.ev α.tm=.fn (.func gid) first cap) (YR:∀ a ∈ first,Pure a) (YS:∀ a ∈ cap,Pure a) (Bg:Iter P w0 gid first cap (L.map enc)) (hq:YV qa=some (dr,l))
  (h0:I L s0) (hB:Nat.ble (S.nx+1) B=true) (hk:∀ p ∈ st0,cD B p.2) (Gb:ps.all (Nat.blt · n)=true) (hen:∀ x,(enc x).length=ps.length/\∀ a ∈ enc x,Pure a)
  (hC:Canon B N m0 ⟨α.tm,S.nx::α.df⟩ (S.new .df) st0 (S.nx::α.df) (so s0))
  (ael:∀ (x:T) (rest:List T) (s:σ),I (x::rest) s->ab P w0 true n (Vs P w0 n B N st0 (S.nx::α.df) so I Q K rest) (.bz dr l [.seq qb]) ⟨r9 (jK (fun _=>.u) st0) (ps.zip (enc x)),[]⟩ (aE (so s) N))
  (kC:∀ s,I [] s->ab P w0 false n Q (.out .normal K) (d_ st0 (S.nx::α.df)) (aE (so s) N)):ab P w0 false n Q (.run (.uj x ps qa qb) K) α S:=by
 intro c hc hd
 obtain⟨y,pt,c1,c2,rfl,rfl,rfl,jX,gK⟩:=Ml hc
 simp only [cM,Bool.and_eq_true] at hd
 rw [aU] at hx
 have DD:∀ t,cD B ((d_ st0 []).tm t):=fun t=>yj hk t
 have agF:∀ t ∈ pt,t < n:=fun t ht=>by
  have:=List.all_eq_true.1 Gb t (by simpa using ht)
  exact dZ this
 have agG:∀ (R:AA->ae->Prop) (E:List PanicEntry->AA->ae->Prop) (β:AA) (T:ae),(∀ ch α S,¬ E ch α S)->eg P w0 n dr l R E β T->∃ bN bZ,cy P w0 true n c1 β T .normal bN bZ/\R bN bZ:=by
  intro R E β T hE h
  unfold YV at hq
  split at hq
  ·injection hq with hq;injection hq with h1 h2
   subst h1 h2
   obtain⟨bN,bZ,h3,h4⟩:=(h [] [] rfl 0 rfl).resolve_right fun ⟨ch,aB,S',_,h6⟩=>hE _ _ _ h6
   refine⟨bN,bZ,?_,h4⟩
   intro F m A g a w hF hR hS hA
   exact (qm.1 jX).wp (h3 F m A g a w (lR w0 n A g w .normal bN bZ) hF hS hA fun a' w' g' h1 h2 h3=>⟨rfl,g',h1,h2,h3⟩)
  ·injection hq with hq;injection hq with h1 h2
   subst h1 h2
   rename_i dr' l'
   obtain⟨id,ops,rfl,h3,od⟩:=EH jX
   have h4:=h _ _ h3
   cases dr' with
   |false =>
    obtain⟨aB,S',h5,h6⟩:=(h4 0 rfl).resolve_right fun ⟨ch,aB,S',_,h6⟩=>hE _ _ _ h6
    rw [Array.length_toList,<-List.range_eq_range'] at h5
    exact⟨aB,S',cy.region h5,h6⟩
   |true =>
    obtain⟨aB,S',h5,h6⟩:=h4 0 rfl
    rw [Array.length_toList,<-List.range_eq_range'] at h5
    have dT:=hd.1
    simp only [cM,Bool.and_eq_true] at dT
    exact⟨aB,S',cy.draw dT.1 ((Bool.and_eq_true _ _).mp (od rfl)).1 h5,h6⟩
  ·cases hq
 have key:∀ (L:List T) (s:σ),I L s->∃ ex j so',tx ex=some j/\ab P w0 false n Q (.out ex K) (d_ st0 (S.nx::α.df)) (aE so' N) /\
   ∀ (A:Nat->Prop) (gs:Gh) (T0:Array Value),(∀ k,gs.al k->k < B)->Ys P w0 (LJ w0.heap.size A gs n T0 .ready none pt c1 c2 (d_ st0 []).tm (aE (so s) N)) (L.map enc) j.isNone (LJ w0.heap.size A gs n T0 (kW j) j pt c1 c2 (d_ st0 []).tm (aE so' N)):=by
  intro L
  induction L with
  |nil=>exact fun s hs=>⟨.normal,none,so s,rfl,kC s hs,fun A gs T0 _=>.nil _⟩
  |cons x rest ih =>
   intro s hs
   have h1:=ael x rest s hs
   obtain⟨bN,bZ,h2,h3⟩:=agG _ _ _ _ (fun ch α S h=>h) h1
   obtain⟨ex,wO,AR,h4,h5⟩:Wp P w0 true n c2 _ bN bZ:=h3 c2 gK hd.2
   have rn:∀ {j:Option Code}{so':List (Nat × Ob)}{m:List (Nat × Nat)},tx ex=some j->Canon B N m wO AR [] [] so'->∀ (A:Nat->Prop) (gs:Gh) (T0:Array Value),(∀ k,gs.al k->k < B)->∀ (T:ae) (k:Nat),T.get k=some (.fo (LJ w0.heap.size A gs n T0 .ready none pt c1 c2 (d_ st0 []).tm (aE (so s) N))) ->
     nz P w0 k (enc x) T (.v (.bool j.isNone)) (T.set k (some (.fo (LJ w0.heap.size A gs n T0 (kW j) j pt c1 c2 (d_ st0 []).tm (aE so' N))))):=fun hj hC A gs T0 hB T k hT =>
    nz.rnd h2 h4 hC hj (by rw [(hen x).1,Array.length_toList]) (hen x).2 agF DD hB hT
   cases ex with
   |normal =>
    obtain⟨s',m,h6,h7⟩:=h5
    obtain⟨ex,j,so',k1,k2,k3⟩:=ih s' h6
    exact⟨ex,j,so',k1,k2,fun A gs T0 hB=>.cons (rn rfl h7 A gs T0 hB) (k3 A gs T0 hB)⟩
   |ret =>
    obtain⟨so',m,h6,h7⟩:=h5
    exact⟨.ret,_,so',rfl,h7,fun A gs T0 hB=>.stop (rn rfl h6 A gs T0 hB)⟩
   |exit id =>
    obtain⟨so',m,h6,h7⟩:=h5
    exact⟨.exit id,_,so',rfl,h7,fun A gs T0 hB=>.stop (rn rfl h6 A gs T0 hB)⟩
   |_=>exact h5.elim
 obtain⟨ex,j,so',k1,k2,k3⟩:=key L s0 h0
 refine⟨ex,_,_,cy.range (ex:=ex) (so1:=so') hx YR YS hC (Nat.le_of_ble_eq_true hB) k1 (fun A gs T0 hB=>Bg _ _ _ (k3 A gs T0 hB)),k2⟩
end
section
variable {P:Program}{w0:World}{rd:Bool}{n B:Nat}{α aB:AA}{S S':ae}{Q:Exit->AA->ae->Prop}{r:AV}{i:QI}{l:List QI}{K:List iq}{V:List (Nat × Nat)}{lg:List (List Nat × List Nat × Bool)}{rs:List Nat}{d:Dt}{q:dz}
theorem ab.vq (hw:cb α.tm i.g=some true) (h:cj P w0 B i.q α S r d) (k:ab P w0 rd n Q (.dM B V (lg++[d.ns]) rs l K) (cG i.d α r) (dQ S d.W d.m)):ab P w0 rd n Q (.dM B V lg rs (i::l) K) α S :=
 fun fD hB=>md.op hB hw h (k fD (by rw [dW];exact Nat.le_trans hB (Nat.le_add_right _ _)))
def isB:dz->Bool
 |.bin ..|.conv ..|.qf ..|.neg _|.r_ ..|.o6 ..|.vv ..|.mK ..|.slice ..|.len ..|.min ..|.max ..|.call ..|.mv ..|.pick ..|.build ..|.rows ..|.not _|.wK ..|.field ..|.extract ..|.DW ..|.wL _=>true
 |_=>false
theorem cj.pure (h:∀ T,ad P w0 true q α T r T):cj P w0 B q α S r ⟨[],[],false⟩:=by
 refine fun n o hr=>⟨fun _=>rfl,(show lr S [] from fun p hp=>by cases hp),fun T _ _ _=>?_⟩
 rw [show dQ T [] false=T from cO]
 exact (h T n o hr).1
theorem ab.og (hw:cb α.tm i.g=some true) (h:∀ T,ad P w0 true i.q α T r T) (k:ab P w0 rd n Q (.dM B V (lg++[([],[],false)]) rs l K) (cG i.d α r) S):ab P w0 rd n Q (.dM B V lg rs (i::l) K) α S :=
 ab.vq hw (cj.pure h) (by rw [show dQ S [] false=S from cO];exact k)
theorem ab.WV {ik:IntKind}{e:Int}(hw:cb α.tm i.g=some true) (h:∀ T,ad P w0 true i.q α T (.v (.int ik e)) T) (k:∀ d,d=e->ab P w0 rd n Q (.dM B V (lg++[([],[],false)]) rs l K) (cG i.d α (.v (.int ik d))) S):ab P w0 rd n Q (.dM B V lg rs (i::l) K) α S:=ab.og hw h (k e rfl)
def Cv (w0:World) (n:Nat) (α:AA) (S:ae) (aB:AA) (S':ae):Prop :=
 ∀ (A:Nat->Prop) (g:Gh) (a:Act) (w:World),St w0 A g S w->b7 g w n α a->∃ g',St w0 A g' S' w/\b7 g' w n aB a/\Ext A g w g' w
theorem cy.cv {c:Code}{ex:Exit}{bN:AA}{bZ:ae}(h:Cv w0 n α S aB S') (k:cy P w0 rd n c aB S' ex bN bZ):cy P w0 rd n c α S ex bN bZ:=by
 intro F m A g a w hF hR hS hA
 obtain⟨g',h1,h2,h3⟩:=h A g a w hS hA
 exact wpIn_mono (k F m A g' a w hF hR h1 h2) fun e a w hq=>lR.ext h3 hq
theorem ab.cv {c:QC}(h:Cv w0 n α S aB S') (k:ab P w0 rd n Q (.run c K) aB S'):ab P w0 rd n Q (.run c K) α S:=by
 intro c0 hc hd
 obtain⟨ex,bN,bZ,h1,h2⟩:=k c0 hc hd
 exact⟨ex,bN,bZ,h1.cv h,h2⟩
theorem ab.VL (h:Cv w0 n α S aB S') (k:ab P w0 rd n Q (.bz false l K) aB S'):ab P w0 rd n Q (.bz false l K) α S:=by
 intro ops rest hr j hj
 refine (k ops rest hr j hj).imp (fun ⟨bN,bZ,h1,h2⟩=>⟨bN,bZ,fun F m A g a w R hF hS hA hR=>?_,h2⟩) fun ⟨ch,bN,bZ,h1,h2⟩=>⟨ch,bN,bZ,fun F m A g a w R hF hS hA hR=>?_,h2⟩
 ·obtain⟨g',k1,k2,k3⟩:=h A g a w hS hA
  exact h1 F m A g' a w R hF k1 k2 fun a' w' tn q1 q2 q3=>hR a' w' tn q1 q2 (k3.trans q3)
 ·obtain⟨g',k1,k2,k3⟩:=h A g a w hS hA
  exact h1 F m A g' a w R hF k1 k2 fun a' w' tn q1 q2 q3=>hR a' w' tn q1 q2 (k3.trans q3)
theorem ab.cvO {b:QC}(h:Cv w0 n α S aB S') (k:ab P w0 rd n Q (.out .normal (.seq b::K)) aB S'):ab P w0 rd n Q (.out .normal (.seq b::K)) α S:=ab.cv (c:=b) h k
theorem Cv.freeze {t k sz fz m:Nat}{rows:List (List AV)}{ex:Bool}{a:AV}(hk:S.get k=some (.arr sz rows fz ex)) (ht:α.tm t=a) (ha:a=.gr k sz m\/∃ c,a=.ob k sz 0 m c) (hm:m=rows.length) (pL:fz<=m) :
  Cv w0 n α S ⟨bP α.tm t (.sl false rows),α.df⟩ (S.set k none):=by
 subst hm
 intro A g q w hS hA
 have agH:∀ {g':Gh}{o:Option Ob},St w0 A g' (S.set k o) w->St w0 A g' (S.set k none) w:=fun {_ o} h=>h.forget (Nat.le_refl _) fun j p hj _=>by
  have hj:bP S.get k none j=some p:=hj
  by_cases e:j=k
  ·subst e;rw [aG] at hj;cases hj
  ·rw [aN _ _ e] at hj
   show bP S.get k o j=some p
   rw [aN _ _ e]
   exact hj
 have put:∀ {g':Gh},Later g w g' w->(t < n->aL g' w (.sl false rows) (q.tmps.getD t undef))->b7 g' w n ⟨bP α.tm t (.sl false rows),α.df⟩ q:=by
  intro g' hL hr
  have h1:=hA.later hL
  refine⟨h1.size,fun s hs=>?_,fun s hs=>?_,h1.df,h1.sZ⟩
  ·show aL g' w (bP α.tm t _ s) _
   by_cases e:s=t
   ·subst e;rw [aG];exact hr hs
   ·rw [aN _ _ e];exact h1.tm s hs
  ·show bP α.tm t _ s=.u
   by_cases e:s=t
   ·subst e
    have h2:=hA.out s hs
    rw [ht] at h2
    rcases ha with h|⟨c,h⟩<;>(rw [h] at h2;cases h2)
   ·rw [aN _ _ e];exact h1.out s hs
 by_cases au:t < n
 ·have hr:=hA.tm t au
  rw [ht] at hr
  by_cases bG:g.al k
  ·obtain⟨h1,h2⟩:=hS.freeze hk bG pL (by omega)
   refine⟨_,agH h2,put h1.toLater fun _=>?_,h1⟩
   have Ws:=hr.later h1.toLater
   obtain⟨k2,k3,cs,ty,p1,p2,p3,p4,p5,p6,p7⟩:=h2.cH k (.arr sz rows rows.length ex) (aG _ _ _) (h1.al k bG)
   have key:∀ c,rows.length<=c->aL (g.Ks (g.ob k) (rows.length*sz)) w (.sl false rows) (.slice (some ⟨g.ob k,0,none⟩) rows.length c):=by
    intro c hc
    by_cases hn:rows=[]
    ·subst hn;exact .nil (fun h=>by cases h)
    ·refine .sl (sz:=sz) (val:=fun i j=>cs.getD (i*sz+j) undef) hn (fun h=>by cases h) (by omega) (fun i row hi=>(p5 i row hi).1) (fun i j row a hi hj=>?_) (fun i j row a hi hj=>?_)
     ·obtain⟨q1,q2⟩:=p5 i row hi
      obtain⟨x,hx,dO⟩:=q2 j a hj
      have uQ:j < sz:=by rw [<-q1];exact (List.getElem?_eq_some_iff.1 hj).1
      have hi1:=(List.getElem?_eq_some_iff.1 hi).1
      refine⟨.inr ⟨rfl,?_⟩,?_⟩
      ·rw [Nat.zero_add];exact jQ hi1 uQ
      ·rw [Nat.zero_add]
       rw [cell_of_row w (g.ob k) _ cs ty (0,0) p1,hx]
       simp [Array.getD_eq_getD_getElem?,hx]
     ·obtain⟨q1,q2⟩:=p5 i row hi
      obtain⟨x,hx,dO⟩:=q2 j a hj
      simp only [Array.getD_eq_getD_getElem?,hx,Option.getD_some]
      exact dO
   obtain⟨v,hv⟩:∃ v,q.tmps.getD t undef=v:=⟨_,rfl⟩
   rw [hv] at hr ⊢
   rcases ha with rfl|⟨c,rfl⟩
   ·rcases qP hr with ⟨h,A',rfl⟩|⟨ir,c,rfl,hx,hle⟩
    ·have:rows=[]:=List.length_eq_zero_iff.1 h
     subst this
     exact .nil (fun h=>by cases h)
    ·exact key _ hle
   ·cases hr with
    |ob ir hc hp hx hle=>rw [Nat.zero_mul];exact key _ hle
  ·refine⟨g,hS.forget (Nat.le_refl _) fun j p hj _=>?_,put (Later.refl g w) fun _=>?_,Ext.refl ..⟩
   ·have hj:bP S.get k none j=some p:=hj
    by_cases e:j=k
    ·subst e;rw [aG] at hj;cases hj
    ·rwa [aN _ _ e] at hj
   ·obtain⟨v,hv⟩:∃ v,q.tmps.getD t undef=v:=⟨_,rfl⟩
    rw [hv] at hr ⊢
    rcases ha with rfl|⟨c,rfl⟩
    ·rcases qP hr with ⟨h,A',rfl⟩|⟨ir,c,rfl,hx,hle⟩
     ·have:rows=[]:=List.length_eq_zero_iff.1 h
      subst this
      exact .nil (fun h=>by cases h)
     ·exact absurd ir bG
    ·cases hr with
     |ob ir hc hp hx hle=>exact absurd ir bG
 ·refine⟨g,hS.forget (Nat.le_refl _) fun j p hj _=>?_,put (Later.refl g w) fun h=>absurd h au,Ext.refl ..⟩
  have hj:bP S.get k none j=some p:=hj
  by_cases e:j=k
  ·subst e;rw [aG] at hj;cases hj
  ·rwa [aN _ _ e] at hj
def Rv (w0:World) (r:AV) (S:ae) (r':AV) (S':ae):Prop:=∀ (A:Nat->Prop) (g0 g:Gh) (VR w:World) (v:Value),St w0 A g S w->aL g w r v->∃ g',St w0 A g' S' w/\aL g' w r' v/\Ext A g w g' w
theorem ad.rv {r':AV}{S1:ae}(h:ad P w0 false q α S r S') (k:Rv w0 r S' r' S1):ad P w0 false q α S r' S1:=by
 intro n o hr F m A g a w nx R hF hS hA hn
 refine h n o hr F m A g a w nx R hF hS hA fun v w' g' h1 h2 h3=>?_
 obtain⟨g2,k1,k2,k3⟩:=k A g g' w w' v h2 h1
 exact hn v w' g2 k2 k1 (h3.trans k3)
theorem b7.slot {g:Gh}{w:World}{a:Act}{t:Nat}{b:AV}(h:b7 g w n α a) (ht:α.tm t ≠ .u) (hr:aL g w b (a.tmps.getD t undef)):b7 g w n ⟨bP α.tm t b,α.df⟩ a:=by
 have au:t < n:=by
  rcases Nat.lt_or_ge t n with h1|h1
  ·exact h1
  ·exact absurd (h.out t h1) ht
 refine⟨h.size,fun s hs=>?_,fun s hs=>?_,h.df,h.sZ⟩
 ·show aL g w (bP α.tm t b s) _
  by_cases e:s=t
  ·subst e;rw [aG];exact hr
  ·rw [aN _ _ e];exact h.tm s hs
 ·show bP α.tm t b s=.u
  rw [aN _ _ (by omega)];exact h.out s hs
theorem C_ {t k sz by_ len:Nat}{ex:Bool}{b:QO}{rows more:List (List AV)}{x:List AV}{o:Oper}(ho:res P.toTables o.op=some (.append sz by_ (.t t) b)) (h1:α.tm t=.gr k sz len) (hk:S.get k=some (.arr sz rows 0 ex)) (hn:len=rows.length)
  (hb:∀ c,b.ev (bP α.tm t c)=b.ev α.tm) (hm:dv S (b.ev α.tm)=some (x::more)) (g7:dv (S.set k none) (b.ev α.tm)=some (x::more)) (h3:∀ row ∈ x::more,row.length=sz/\row.all cn=true) (h4:(len+(x::more).length)*by_<=35184372088832) :
  eB P w0 n o α S (.gr S.nx sz (len+(x::more).length)) ((S.set k none).new (.arr sz (rows++x::more) 0 false)):=by
 intro F mm A g a w nx R hF hS hA pI
 have au:t < n:=by
  rcases Nat.lt_or_ge t n with h|h
  ·exact h
  ·have:=hA.out t h;rw [h1] at this;cases this
 have hr:=hA.tm t au
 rw [h1] at hr
 obtain⟨v,hv⟩:∃ v,a.tmps.getD t undef=v:=⟨_,rfl⟩
 have bH:α.tm t ≠ .u:=by rw [h1];intro h;cases h
 rw [hv] at hr
 rcases qP hr with ⟨h,A',rfl⟩|⟨ir,c,rfl,hx,hle⟩
 ·have sc:rows=[]:=List.length_eq_zero_iff.1 (by omega)
  subst sc
  have C8:b7 g w n ⟨bP α.tm t (.sl true []),α.df⟩ a:=hA.slot bH (by rw [hv];exact .nil fun _=>rfl)
  have l8:St w0 A g (S.set k none) w:=hS.forget (Nat.le_refl _) fun j p hj _=>by
   have hj:bP S.get k none j=some p:=hj
   by_cases e:j=k
   ·subst e;rw [aG] at hj;cases hj
   ·rwa [aN _ _ e] at hj
  have h5:=ad.Ai (P:=P) (w0:=w0) (dr:=false) (α:=⟨bP α.tm t (.sl true []),α.df⟩) (S:=S.set k none) (sz:=sz) (by_:=by_) (a:=.t t) (b:=b) (rows:=[]) (aG _ _ _) (by rw [hb];exact g7) (by simp) (fun row hr=>(h3 row hr).1) (by subst h;simpa using h4) n o ho
  refine h5 F mm A g a w nx R hF l8 C8 fun v w' g' k1 k2 k3=>pI v w' g' ?_ k2 k3
  subst h
  cases k1 with
  |ob q1 q2 q3 q4 q5=>rw [Nat.zero_mul];exact .gr q1 (by have h:=q4 rfl;rw [Nat.zero_add] at h;exact h) q5
 ·have C8:b7 g w n ⟨bP α.tm t (.ob k sz 0 len none),α.df⟩ a:=hA.slot bH (by
   rw [hv]
   have:=aL.ob (g:=g) (w:=w) (k:=k) (sz:=sz) (off:=0) (len:=len) (c:=c) (cx:=none) ir (fun m h=>by cases h) (by omega) (fun _=>by omega) hle
   rwa [Nat.zero_mul] at this)
  have h5:=ad.Hc (P:=P) (w0:=w0) (dr:=false) (α:=⟨bP α.tm t (.ob k sz 0 len none),α.df⟩) (S:=S) (sz:=sz) (by_:=by_) (a:=.t t) (b:=b) (k:=k) (fz:=0) (ex:=ex) (rows:=rows) (aG _ _ _) hk (by rw [hb];exact hm) (Nat.zero_le _) (by omega) h3 h4 n o ho
  rw [List.take_of_length_le (by omega)] at h5
  refine h5 F mm A g a w nx R hF hS C8 fun v w' g' k1 k2 k3=>pI v w' g' ?_ k2 k3
  cases k1 with
  |ob q1 q2 q3 q4 q5=>rw [Nat.zero_mul];exact .gr q1 (by have:=q4 rfl;omega) q5
theorem ad.Hb {t k sz by_ len:Nat}{ex:Bool}{b:QO}{rows more:List (List AV)}{x:List AV}(h1:α.tm t=.gr k sz len) (hk:S.get k=some (.arr sz rows 0 ex)) (hn:len=rows.length) (hb:∀ c,b.ev (bP α.tm t c)=b.ev α.tm) (hm:dv S (b.ev α.tm)=some (x::more)) (g7:dv (S.set k none) (b.ev α.tm)=some (x::more))
  (h3:∀ row ∈ x::more,row.length=sz/\row.all cn=true) (h4:(len+(x::more).length)*by_<=35184372088832):ad P w0 false (.append sz by_ (.t t) b) α S (.gr S.nx sz (len+(x::more).length)) ((S.set k none).new (.arr sz (rows++x::more) 0 false)) :=
 fun n o ho=>C_ ho h1 hk hn hb hm g7 h3 h4
section
variable {ρ:Hd}{T:Type}{f:T->List AV}{acc:List T}{x:T}
theorem ab.app {dd:Option Nat}{gg:Option (Nat × Bool)}{t:Nat}{b:QO}{sz by_ k len:Nat}{ex:Bool}(hw:cb α.tm gg=some true) (h1:α.tm t=.gr k sz len) (hk:S.get k=some (.arr sz (ρ.h (List.map f) acc) 0 ex)) (hn:len=acc.length) (gj:∀ c,b.ev (bP α.tm t c)=b.ev α.tm)
  (hb:dv S (b.ev α.tm)=some [f x]) (ft:dv (S.set k none) (b.ev α.tm)=some [f x]) (hl:(f x).length=sz) (hc:(f x).all cn=true) (hy:(len+1)*by_<=35184372088832)
  (kk:∀ dx cF,dx=acc++[x]->cF=dx.length->ab P w0 rd n Q (.bz false l K) (cG dd α (.gr S.nx sz cF)) ((S.set k none).new (.arr sz (ρ.h (List.map f) dx) 0 false))):ab P w0 rd n Q (.bz false (⟨dd,gg,.append sz by_ (.t t) b⟩::l) K) α S:=by
 have hlen:(ρ.h (List.map f) acc).length=acc.length:=af
 have h:=kk _ _ rfl rfl
 have e:ρ.h (List.map f) acc++[f x]=ρ.h (List.map f) (acc++[x]):=by rw [ρ.eq,ρ.eq,List.map_append];rfl
 rw [<-e,show (acc++[x]).length=len+[f x].length by simp;omega] at h
 exact ab.op (i:=⟨dd,gg,.append sz by_ (.t t) b⟩) hw (ad.Hb h1 hk (by omega) gj hb ft (by simpa using ⟨hl,by simpa using hc⟩) (by simpa using hy)) h
theorem aX.grow {S:ae}{k sz len:Nat}{ex:Bool}(hk:S.get k=some (.arr sz (ρ.h (List.map f) acc) 0 ex)) (hn:len=acc.length):aX S (.gr k sz len) (bY ρ f false acc):=by
 rw [dE]
 rw [ρ.eq] at hk
 refine .gr hk (by simp;omega) (by simp [hn]) (fun i row bA h1 h2=>?_) (fun i j row bA a a' h1 h2 h3 h4=>?_)
 ·rw [h2] at h1
  rw [Option.some.inj h1]
 ·rw [h2] at h1
  rw [Option.some.inj h1,h3] at h4
  rw [Option.some.inj h4]
  exact .refl _
end
end
end Go.Proofs.YtgphljokbodciaaGreat
