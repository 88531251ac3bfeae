import Derived.Test.YtgjfgekaclobaaaGreatCm17
namespace Go.Proofs.YtgjfgekaclobaaaGreat
set_option linter.unusedVariables false
set_option linter.unusedSimpArgs false
open Go.RowKit
structure s8 (z:Nat) (A:Nat->Prop) (g:Gh) (S:aa) (w:World):Prop where
 up:∀ b,w.heap.size<=b->A b
 lo:∀ b,A b->z<=b
 al:∀ k,g.al k->k < S.nx
 bj:∀ k o,S.get k=some o->g.al k->A (g.ob k)/\g.ob k < w.heap.size/\cH g w (g.ob k) (g.cp k) o
 inj:∀ j k o p,S.get j=some o->S.get k=some p->g.al j->g.al k->g.ob j=g.ob k->j=k
 bM:∀ b o,g.fz b o->b < w.heap.size
 lM:∀ b o,b < z->g.fz b o
 fp:∀ k J,S.get k=some (.fo J)->g.al k->∀ c,g.fo (g.ob k) c->A c/\c < w.heap.size
 iF:∀ k J j o,S.get k=some (.fo J)->g.al k->S.get j=some o->g.al j->j ≠ k->¬ g.fo (g.ob k) (g.ob j)
 kD:∀ j k J J',S.get j=some (.fo J)->S.get k=some (.fo J')->g.al j->g.al k->j=k
def Gh.Bc (g:Gh) (Z:Nat->Nat->Prop):Gh:=⟨g.ob,g.cp,g.al,Z,g.fo⟩
section
variable {w0:World}{z:Nat}{A A':Nat->Prop}{g:Gh}{S:aa}{w w':World}
theorem St.free (h:St w0 A g S w):s8 w0.heap.size A g S w:=⟨h.up,h.lo,h.al,h.bj,h.inj,h.bM,h.lM,h.fp,h.iF,h.kD⟩
theorem s8.st (h:s8 w0.heap.size A g S w) (hb:Below w0.heap.size w0 w):St w0 A g S w:=⟨hb,h.up,h.lo,h.al,h.bj,h.inj,h.bM,h.lM,h.fp,h.iF,h.kD⟩
theorem s8.move (h:s8 z A g S w) (Z:Nat->Nat->Prop) (hs:w.heap.size<=w'.heap.size) (up:∀ b,w'.heap.size<=b->A' b) (lo:∀ b,A' b->z<=b)
  (hB:∀ c,A c->c < w.heap.size->((∃ k o,S.get k=some o/\g.al k/\c=g.ob k)\/∃ k J,S.get k=some (.fo J)/\g.al k/\g.fo (g.ob k) c)->A' c/\w'.heap[c]?=w.heap[c]?/\∀ q,Z c q->g.fz c q)
  (hc:∀ b q,g.fz b q->w'.cell? ⟨b,q,none⟩=w.cell? ⟨b,q,none⟩) (hz:∀ b q,g.fz b q->Z b q) (zlt:∀ b q,Z b q->b < w'.heap.size):Later g w (g.Bc Z) w'/\s8 z A' (g.Bc Z) S w':=by
 have hL:Later g w (g.Bc Z) w':=⟨fun _ h=>h,fun _ _=>rfl,fun _ _=>rfl,hz,hc⟩
 refine⟨hL,up,lo,h.al,fun k o hk ha=>?_,h.inj,zlt,fun b q hb=>hz b q (h.lM b q hb),fun k J hk ha c hc=>?_,h.iF,h.kD⟩
 ·obtain⟨h1,h2,h3⟩:=h.bj k o hk ha
  obtain⟨h4,h5,h6⟩:=hB _ h1 h2 (.inl ⟨k,o,hk,ha,rfl⟩)
  refine⟨h4,Nat.lt_of_lt_of_le h2 hs,h3.later hL h5 h6 fun J hJ=>⟨rfl,hs,fun c hc=>?_,fun c q hc hq=>?_⟩⟩
  ·subst hJ
   obtain⟨k1,k2⟩:=h.fp k J hk ha c hc
   exact (hB c k1 k2 (.inr ⟨k,J,hk,ha,hc⟩)).2.1
  ·subst hJ
   obtain⟨k1,k2⟩:=h.fp k J hk ha c hc
   exact (hB c k1 k2 (.inr ⟨k,J,hk,ha,hc⟩)).2.2 q hq
 ·obtain⟨k1,k2⟩:=h.fp k J hk ha c hc
  exact⟨(hB c k1 k2 (.inr ⟨k,J,hk,ha,hc⟩)).1,Nat.lt_of_lt_of_le k2 hs⟩
theorem s8.Y6 (h:s8 z A g S w) {c:Nat}(hc:(∃ k o,S.get k=some o/\g.al k/\c=g.ob k)\/∃ k J,S.get k=some (.fo J)/\g.al k/\g.fo (g.ob k) c):A c/\c < w.heap.size:=by
 rcases hc with ⟨k,o,h1,h2,rfl⟩|⟨k,J,h1,h2,h3⟩
 ·exact⟨(h.bj k o h1 h2).1,(h.bj k o h1 h2).2.1⟩
 ·exact h.fp k J h1 h2 c h3
end
structure GL (gs gb:Gh):Prop where
 al:∀ k,gs.al k->gb.al k
 ob:∀ k,gs.al k->gb.ob k=gs.ob k
 cp:∀ k,gs.al k->gb.cp k=gs.cp k
 fz:∀ b q,gs.fz b q->gb.fz b q
def LJ (z:Nat) (A:Nat->Prop) (gs:Gh) (n:Nat) (T0:Array Value) (st:LoopState) (jO:Option Code) (ps:Array Tmp) (assign body:Code) (f0:Nat->AV) (S:aa):Nat->(Nat->Nat->Prop)->(Nat->Prop)->World->Prop :=
 fun b Z B w=>∃ (gb:Gh) (L:Loop),s8 z (fun c=>(B c/\c ≠ b)\/w.heap.size<=c) gb S w/\B b/\(∀ c,B c->A c/\c < w.heap.size) /\
  (w.heap[b]?=some (.loop L)/\L.state=st/\L.pending=jO/\L.params=ps/\L.assign=assign/\L.body=body/\L.tmps=T0)/\bf gb w n ⟨f0,[]⟩ { tmps:=T0,defers:=[] } /\
  (∀ c q,gb.fz c q->Z c q\/B c)/\(∀ c q,B c->Z c q->gb.fz c q)/\GL gs gb/\∀ c,w.heap.size<=c->A c
section
variable {z:Nat}{A:Nat->Prop}{gs:Gh}{n:Nat}{T0:Array Value}{st:LoopState}{jO:Option Code}{ps:Array Tmp}{assign body:Code}{f0:Nat->AV}{S:aa}
theorem LJ.ok:ET (LJ z A gs n T0 st jO ps assign body f0 S):=by
 rintro b Z Z' B w w' ⟨gb,L,h1,h2,h3,h4,h5,h6,h7,h8,h9⟩ hZ hZB Be je aZ
 have hc:∀ c q,gb.fz c q->w'.cell? ⟨c,q,none⟩=w.cell? ⟨c,q,none⟩:=fun c q hq=>(h6 c q hq).elim (je c q) fun hB=>World.cell?_of_block (Be c hB)
 have Y7:∀ c,((B c/\c ≠ b)\/w.heap.size<=c)->c < w.heap.size->B c/\c ≠ b:=fun c hc aB=>hc.resolve_right (by omega)
 obtain⟨k1,k2⟩:=h1.move (w':=w') (A':=fun c=>(B c/\c ≠ b)\/w'.heap.size<=c) gb.fz aZ (fun c hc=>.inr hc) (fun c hc=>h1.lo c (hc.imp id fun h=>Nat.le_trans aZ h))
  (fun c hA aB _=>⟨.inl (Y7 c hA aB),Be c (Y7 c hA aB).1,fun _ h=>h⟩) hc (fun _ _ h=>h) (fun c q hq=>Nat.lt_of_lt_of_le (h1.bM c q hq) aZ)
 exact⟨gb,L,k2,h2,fun c hc=>⟨(h3 c hc).1,Nat.lt_of_lt_of_le (h3 c hc).2 aZ⟩,⟨(Be b h2).trans h4.1,h4.2⟩,h5.later k1,fun c q hq=>(h6 c q hq).imp (hZ c q) id,fun c q hB hq=>h7 c q hB (hZB c q hB hq),h8,fun c hc=>h9 c (Nat.le_trans aZ hc)⟩
end
def rB (f:Nat->AV):List (Nat × AV)->Nat->AV
 |[]=>f
 |p::l=>rB (aX f p.1 p.2) l
section
variable {P:Program}{w0:World}{n:Nat}{T0:Array Value}{ps:Array Tmp}{assign body:Code}{f0:Nat->AV}{S bR E9:aa}{bG AI:AA}{ex:Exit}{x:List AV}{B N:Nat}{m:List (Nat × Nat)}{so:List (Nat × Ob)}
theorem Bg {g:Gh}{w:World}:∀ {l:List (Nat × AV)}{ys:List (Nat × Value)}{f:Nat->AV}{T:Array Value},bf g w n ⟨f,[]⟩ { tmps:=T,defers:=[] }->l.map (·.1)=ys.map (·.1)->(∀ p ∈ l,p.1 < n) ->
  (∀ (i:Nat) (p:Nat × AV) (y:Nat × Value),l[i]?=some p->ys[i]?=some y->aA g w p.2 y.2)->bf g w n ⟨rB f l,[]⟩ { tmps:=ys.foldl (fun T (t,a)=>T.setIfInBounds t a) T,defers:=[] }
 |[],[],f,T,h,_,_,_=>h
 |p::l,y::ys,f,T,h,hl,hn,hr=>by
  simp only [List.map_cons,List.cons.injEq] at hl
  have h1:bf g w n ⟨aX f p.1 p.2,[]⟩ { tmps:=T.setIfInBounds p.1 y.2,defers:=[] }:=h.put (hn p (by simp)) (hr 0 p y rfl rfl)
  have h2:bf g w n ⟨aX f p.1 p.2,[]⟩ { tmps:=T.setIfInBounds y.1 y.2,defers:=[] }:=by rw [<-hl.1];exact h1
  rw [rB,List.foldl_cons]
  exact Bg h2 hl.2 (fun q hq=>hn q (by simp [hq])) fun i q v h3 h4=>hr (i+1) q v (by simpa using h3) (by simpa using h4)
 |[],y::ys,f,T,h,hl,_,_=>by simp at hl
 |p::l,[],f,T,h,hl,_,_=>by simp at hl
def xo:Exit->Option (Option Code)
 |.normal=>some none
 |.ret=>some (some .ret)
 |.exit id=>some (some (.exit id))
 |_=>none
def kS (j:Option Code):LoopState:=match j with|none=>.ready|some _=>.done
theorem run_getLoop {w:World}{b:Nat}{L:Loop}(h:w.heap[b]?=some (.loop L)):(Instr.getLoop b).run P w=.ok L w:=by
 simp [Instr.getLoop,getObj,Sem.run,h]
def World.rec (w:World) (b:Nat) (L:Loop):World:={ w with heap:=w.heap.setIfInBounds b (.loop L) }
theorem gx {w:World}{b:Nat}{L:Loop}:(World.rec w b L).heap.size=w.heap.size:=by simp [World.rec]
theorem gn {w:World}{b c:Nat}{L:Loop}(h:c ≠ b):(World.rec w b L).heap[c]?=w.heap[c]?:=by
 simp only [World.rec,Array.getElem?_setIfInBounds]
 rw [if_neg (Ne.symm h)]
theorem v7 {w:World}{b:Nat}{L:Loop}(h:b < w.heap.size):(World.rec w b L).heap[b]?=some (.loop L):=by simp [World.rec,Array.getElem?_setIfInBounds,h]
theorem v8 {w:World}{b:Nat}{L L':Loop}(h:w.heap[b]?=some (.loop L')) (c q:Nat):(World.rec w b L).cell? ⟨c,q,none⟩=w.cell? ⟨c,q,none⟩:=by
 by_cases e:c=b
 ·subst e
  have aB:c < w.heap.size:=by
   rcases Nat.lt_or_ge c w.heap.size with h1|h1
   ·exact h1
   ·rw [Array.getElem?_eq_none h1] at h;cases h
  simp [World.cell?,v7 aB,h]
 ·exact World.cell?_of_block (gn e)
theorem rC {w:World}{b:Nat}{L L':Loop}(h:w.heap[b]?=some (.loop L')):(setObj b (.loop L)).run P w=.ok () (World.rec w b L):=by
 simp [setObj,Sem.run,h,World.rec]
theorem Ext.mono {A A':Nat->Prop}{g g':Gh}{w w':World}(h:Ext A g w g' w') (hs:∀ b,A b->A' b):Ext A' g w g' w' :=
 { h.toLater with size:=h.size,cD:=fun b hb hA=>h.cD b hb fun h=>hA (hs b h),eW:=fun b q hq=>(h.eW b q hq).imp id (hs b) }
theorem St.RV {A:Nat->Prop}{g:Gh}{w:World}(h:St w0 A g S w) {b:Nat}{L L':Loop}(hb:w.heap[b]?=some (.loop L')) (hA:¬ A b) (h0:w0.heap.size<=b):Later g w g (World.rec w b L)/\St w0 A g S (World.rec w b L):=by
 have aB:b < w.heap.size:=by
  rcases Nat.lt_or_ge b w.heap.size with h1|h1
  ·exact h1
  ·rw [Array.getElem?_eq_none h1] at hb;cases hb
 obtain⟨h1,h2⟩:=h.free.move (w':=World.rec w b L) (A':=A) g.fz (by rw [gx];exact Nat.le_refl _) (fun c hc=>h.up c (by rw [gx] at hc;exact hc)) h.lo (fun c hc _ _=>⟨hc,gn (fun e=>hA (by rw [<-e];exact hc)),fun _ h=>h⟩)
  (fun c q _=>v8 hb c q) (fun _ _ h=>h) (fun c q hq=>by rw [gx];exact h.bM c q hq)
 exact⟨h1,h2.st ⟨h.base.os,h.base.tape,h.base.output,by rw [gx];exact h.base.size,fun k hk=>(gn (by omega)).trans (h.base.block k hk)⟩⟩
theorem s9.rnd (ha:bI P w0 true n assign ⟨rB f0 (ps.toList.zip x),[]⟩ S .normal bG bR) (hb:bI P w0 true n body bG bR ex AI E9) (hC:Canon B N m AI E9 [] [] so) {j:Option Code}(hj:xo ex=some j)
  (hx:x.length=ps.size) (hp:∀ a ∈ x,Pure a) (Bh:∀ t ∈ ps,t < n) (I8:∀ t,cC B (f0 t)) {A:Nat->Prop}{gs:Gh}(hB:∀ k,gs.al k->k < B)
  {T:aa}{k:Nat}(hT:T.get k=some (.fo (LJ w0.heap.size A gs n T0 .ready none ps assign body f0 S))) :
  s9 P w0 k x T (.v (.bool j.isNone)) (T.set k (some (.fo (LJ w0.heap.size A gs n T0 (kS j) j ps assign body f0 (au so N))))):=by
 intro F mm A2 g aV w hF hS aH hA
 obtain⟨k2,k3,⟨gb,L,h1,h2,h3,⟨pj,I9,Y8,RW,Y9,Y_,Za⟩,h5,h6,h7,h8,h9⟩,_⟩:=hS.bj k _ hT aH
 obtain⟨b,xp⟩:∃ b,g.ob k=b:=⟨_,rfl⟩
 rw [xp] at k2 k3 h1 h2 h3 pj h6 h7
 obtain⟨Bf,zy⟩:∃ Bf,g.fo b=Bf:=⟨_,rfl⟩
 rw [zy] at h1 h2 h3 h6 h7
 have I_:w0.heap.size<=b:=hS.lo b k2
 have aB:b < w.heap.size:=k3
 have E_:∀ c,Bf c->A2 c/\c < w.heap.size:=fun c hc=>hS.fp k _ hT aH c (by rw [xp,zy];exact hc)
 obtain⟨Z,hZ⟩:∃ Z:Nat->Nat->Prop,Z=fun c q=>gb.fz c q\/g.fz c q:=⟨_,rfl⟩
 obtain⟨Ab,s_⟩:∃ Ab:Nat->Prop,Ab=fun c=>(Bf c/\c ≠ b)\/w.heap.size<=c:=⟨_,rfl⟩
 rw [<-s_] at h1
 have KS:∀ c,Ab c->c < w.heap.size->Bf c/\c ≠ b:=fun c hc aB=>by rw [s_] at hc;exact hc.resolve_right (by omega)
 have Ja:¬ Ab b:=by rw [s_];rintro (h|h);exact h.2 rfl;omega
 obtain⟨m1,m2⟩:=h1.move (w':=w) (A':=Ab) Z (Nat.le_refl _) h1.up h1.lo (fun c hc aB _=>⟨hc,rfl,fun q hq=>by
   rw [hZ] at hq
   exact hq.elim id fun h=>h7 c q (KS c hc aB).1 h⟩) (fun _ _ _=>rfl) (fun _ _ h=>by rw [hZ];exact .inl h) (fun c q hq=>by
   rw [hZ] at hq
   exact hq.elim (h1.bM c q) (hS.bM c q))
 have b_:=m2.st hS.base
 have aek:(gb.Bc Z).fz=Z:=rfl
 have zz:bf (gb.Bc Z) w n ⟨rB f0 (ps.toList.zip x),[]⟩ { tmps:=(ps.toList.zip aV.toList).foldl (fun T (t,a)=>T.setIfInBounds t a) T0,defers:=[] }:=by
  refine Bg (h5.later m1) ?_ (fun p hp=>Bh _ (by simpa using (List.of_mem_zip hp).1)) (fun i p y Jb hy=>?_)
  ·have e1:aV.toList.length=x.length:=by rw [Array.length_toList];exact hA.1
   rw [List.map_fst_zip (by rw [Array.length_toList];omega),List.map_fst_zip (by rw [e1,Array.length_toList];omega)]
  ·rw [List.getElem?_zip_eq_some] at Jb hy
   have hr:=hA.2 i p.2 y.2 Jb.2 (by rw [<-Array.getElem?_toList];exact hy.2)
   exact aA.pure (g:=g) (fun c q hq=>by show Z c q;rw [hZ];exact .inr hq) (fun _ _ _=>rfl) hr (hp _ (List.mem_of_getElem? Jb.2))
 have aT:aV.size=L.params.size:=by rw [hA.1,hx,RW]
 refine⟨b,L.fn,(ps.toList.zip aV.toList).foldl (fun T (t,a)=>T.setIfInBounds t a) T0,assign,body,?_,?_⟩
 ·rw [xp]
  simp only [Instr.yield,Sem.run_bind,run_getLoop pj,Result.andThen_ok,aT,ne_eq,not_true_eq_false,if_false,Sem.run_pure,Y9,Y_,Za,RW]
  congr 3
  rw [<-Array.foldl_toList,Array.toList_zip]
 ·have DN:fZ (F.inRound b):=hF.inRound b
  have DO:(F.inRound b).round.isSome=true:=rfl
  refine roundIn_of_wpIn (hF.1 _) ?_
  refine wpIn_mono (ha (F.inRound b) mm Ab _ _ w DN DO b_ zz) ?_
  rintro e1 a1 w1 ⟨rfl,g1,s1,r1,x1⟩
  have fA:w1.heap[b]?=some (.loop L):=(x1.cD b aB Ja).trans pj
  have Bi:b < w1.heap.size:=Nat.lt_of_lt_of_le aB x1.size
  refine⟨World.rec w1 b { L with state:=.busy },?_,?_⟩
  ·simp only [Instr.beginRound,Sem.run_bind,run_getLoop fA,Result.andThen_ok,rC fA,I9,Sem.run_pure]
  obtain⟨y1,y2⟩:=s1.RV (L:={ L with state:=.busy }) fA Ja I_
  refine wpIn_mono (hb (F.inRound b) mm Ab g1 a1 _ DN DO y2 (r1.later y1)) ?_
  rintro e2 a2 w2 ⟨rfl,g2,s2,r2,x2⟩
  have dF:w2.heap[b]?=some (.loop { L with state:=.busy }):=(x2.cD b (by rw [gx];exact Bi) Ja).trans (v7 Bi)
  have RX:b < w2.heap.size:=Nat.lt_of_lt_of_le (by rw [gx];exact Bi) x2.size
  have yE:w.heap.size<=w2.heap.size:=Nat.le_trans x1.size (by have:=x2.size;rw [gx] at this;exact this)
  obtain⟨w3,DP⟩:∃ w3,World.rec w2 b { L with state:=kS j,pending:=j }=w3:=⟨_,rfl⟩
  obtain⟨u1,u2⟩:=s2.RV (L:={ L with state:=kS j,pending:=j }) dF Ja I_
  rw [DP] at u1 u2
  have RY:w3.heap.size=w2.heap.size:=by rw [<-DP];exact gx
  have j9:(Instr.endRound b j).run P w2=.ok (.bool j.isNone) w3:=by
   rw [<-DP]
   cases j<;>simp only [Instr.endRound,Sem.run_bind,run_getLoop dF,Result.andThen_ok,Sem.run_pure,rC dF]<;>rfl
  have post:∃ v g',Ending.returned (.bool j.isNone)=.returned v/\aA g' w3 (.v (.bool j.isNone)) v/\St w0 A2 g' (T.set k (some (.fo (LJ w0.heap.size A gs n T0 (kS j) j ps assign body f0 (au so N))))) w3/\Ext A2 g w g' w3:=by
   have je:∀ c q,g.fz c q->w3.cell? ⟨c,q,none⟩=w.cell? ⟨c,q,none⟩:=fun c q hq=>by
    have Nx:(gb.Bc Z).fz c q:=by show Z c q;rw [hZ];exact .inr hq
    rw [u1.cell c q (x2.fz c q (y1.fz c q (x1.fz c q Nx))),x2.cell c q (y1.fz c q (x1.fz c q Nx)),y1.cell c q (x1.fz c q Nx),x1.cell c q Nx]
   have Ny:∀ c,c < w.heap.size->¬ Ab c->c ≠ b->w3.heap[c]?=w.heap[c]?:=fun c hc hA aP=>by
    rw [<-DP,gn aP,x2.cD c (by rw [gx];exact Nat.lt_of_lt_of_le hc x1.size) hA,gn aP,x1.cD c hc hA]
   obtain⟨B',zA⟩:∃ B':Nat->Prop,B'=fun c=>Bf c\/(w.heap.size<=c/\c < w3.heap.size):=⟨_,rfl⟩
   obtain⟨g',kK⟩:∃ g':Gh,g'=⟨g.ob,g.cp,g.al,g.fz,fun d c=>(d=b/\B' c)\/(d ≠ b/\g.fo d c)⟩:=⟨_,rfl⟩
   have KT:g'.fo b=B':=by
    rw [kK];funext c
    exact propext ⟨fun h=>h.elim (·.2) fun h=>absurd rfl h.1,fun h=>.inl ⟨rfl,h⟩⟩
   have aef:∀ d,d ≠ b->g'.fo d=g.fo d:=fun d hd=>by
    rw [kK];funext c
    exact propext ⟨fun h=>h.elim (fun h=>absurd h.1 hd) (·.2),fun h=>.inr ⟨hd,h⟩⟩
   have Zb:Later g w g' w3:=by rw [kK];exact⟨fun _ h=>h,fun _ _=>rfl,fun _ _=>rfl,fun _ _ h=>h,je⟩
   have hE':Ext A2 g w g' w3:={ Zb with
    size:=by rw [RY];exact yE
    cD:=fun c hc hA=>Ny c hc (fun h=>hA (E_ c (KS c h hc).1).1) (fun e=>hA (by rw [e];exact k2))
    eW:=fun c q hq=>by rw [kK] at hq;exact .inl hq }
   have sub:∀ c,Ab c->c < w3.heap.size->B' c/\c ≠ b:=fun c hc v_=>by
    rw [zA]
    rw [s_] at hc
    rcases hc with hc|hc
    ·exact⟨.inl hc.1,hc.2⟩
    ·exact⟨.inr ⟨hc,v_⟩,by omega⟩
   have lF:LJ w0.heap.size A gs n T0 (kS j) j ps assign body f0 (au so N) b g'.fz (g'.fo b) w3/\ET (LJ w0.heap.size A gs n T0 (kS j) j ps assign body f0 (au so N)):=by
    refine⟨?_,LJ.ok⟩
    rw [KT]
    have DQ:=hC.st u2
    have RZ:=Nat.le_of_ble_eq_true hC.bn
    obtain⟨v1,v2⟩:=DQ.free.move (w':=w3) (A':=fun c=>(B' c/\c ≠ b)\/w3.heap.size<=c) (g2.eE B N (aN m)).fz (Nat.le_refl _) (fun c hc=>.inr hc) (fun c hc=>by
      rcases hc with hc|hc
      ·rw [zA] at hc
       rcases hc.1 with h|h
       ·exact hS.lo c (E_ c h).1
       ·have:=hS.base.size;omega
      ·have h1:=hS.base.size;omega) (fun c hc aB _=>⟨.inl (sub c hc aB),rfl,fun _ h=>h⟩) (fun _ _ _=>rfl) (fun _ _ h=>h) (fun c q hq=>DQ.bM c q hq)
    have ld:Ext (fun c=>Ab c\/c=b) (gb.Bc Z) w g2 w3:=((x1.mono fun _ h=>.inl h).trans (g2:=g1) { y1 with size:=by rw [gx];exact Nat.le_refl _,cD:=fun c _ hA=>gn (fun e=>hA (.inr e)),eW:=fun _ _ h=>.inl h }).trans
     ((x2.mono fun _ h=>.inl h).trans { u1 with size:=by rw [RY];exact Nat.le_refl _,cD:=fun c _ hA=>by rw [<-DP];exact gn (fun e=>hA (.inr e)),eW:=fun _ _ h=>.inl h })
    have mO:∀ c,(Ab c\/c=b)->c < w3.heap.size->B' c:=fun c hc v_=>hc.elim (fun h=>(sub c h v_).1) fun e=>by rw [e,zA];exact .inl h2
    refine⟨g2.eE B N (aN m),{ L with state:=kS j,pending:=j },v2,by rw [zA];exact .inl h2,fun c hc=>?_,⟨by rw [<-DP];exact v7 RX,rfl,rfl,RW,Y9,Y_,Za⟩,?_,fun c q hq=>?_,fun c q hc hq=>?_,?_,fun c hc=>h9 c (by omega)⟩
    ·rw [zA] at hc
     rcases hc with hc|hc
     ·exact⟨(h3 c hc).1,by have:=(h3 c hc).2;omega⟩
     ·exact⟨h9 c hc.1,hc.2⟩
    ·have R0:=(h5.later m1).later ld.toLater
     exact⟨R0.size,fun t ht=>(R0.tm t ht).eE RZ (I8 t),R0.out,rfl,fun k hk=>by cases hk⟩
    ·have po:g2.fz c q:=hq
     have v_:=u2.bM c q po
     rw [kK]
     rcases ld.eW c q po with h|h
     ·have h:Z c q:=h
      rw [hZ] at h
      rcases h with h|h
      ·exact (h6 c q h).imp id fun h=>by rw [zA];exact .inl h
      ·exact .inl h
     ·exact .inr (mO c h v_)
    ·rw [kK] at hq
     have:Z c q:=by rw [hZ];exact .inr hq
     exact ld.fz c q this
    ·have e0:∀ k,gs.al k->cF B (aN m) k=k:=fun k hk=>iP (hB k hk)
     refine⟨fun k hk=>⟨by have:=hB k hk;omega,?_⟩,fun k hk=>?_,fun k hk=>?_,fun c q hq=>ld.fz c q (by show Z c q;rw [hZ];exact .inl (h8.fz c q hq))⟩
     ·rw [e0 k hk];exact ld.al k (h8.al k hk)
     ·show g2.ob (cF B (aN m) k)=gs.ob k
      rw [e0 k hk,ld.ob k (h8.al k hk)];exact h8.ob k hk
     ·show g2.cp (cF B (aN m) k)=gs.cp k
      rw [e0 k hk,ld.cp k (h8.al k hk)];exact h8.cp k hk
   have key:∀ l r,(T.set k (some (.fo (LJ w0.heap.size A gs n T0 (kS j) j ps assign body f0 (au so N))))).get l=some r->(l=k/\r=.fo (LJ w0.heap.size A gs n T0 (kS j) j ps assign body f0 (au so N)))\/(l ≠ k/\T.get l=some r):=by
    intro l r hl
    have hl:aX T.get k (some (.fo (LJ w0.heap.size A gs n T0 (kS j) j ps assign body f0 (au so N)))) l=some r:=hl
    by_cases e:l=k
    ·subst e;rw [ah] at hl;exact .inl ⟨rfl,(Option.some.inj hl).symm⟩
    ·rw [aq _ _ e] at hl;exact .inr ⟨e,hl⟩
   have KU:∀ l r,(T.set k (some (.fo (LJ w0.heap.size A gs n T0 (kS j) j ps assign body f0 (au so N))))).get l=some r->∃ r',T.get l=some r':=fun l r hl=>(key l r hl).elim (fun e=>⟨.fo (LJ w0.heap.size A gs n T0 .ready none ps assign body f0 S),e.1.symm ▸ hT⟩) fun e=>⟨r,e.2⟩
   have Bj:∀ i,g'.ob i=g.ob i:=fun i=>by rw [kK]
   have DR:∀ i,g'.al i=g.al i:=fun i=>by rw [kK]
   have pv:g'.fz=g.fz:=by rw [kK]
   refine⟨_,g',rfl,.v,⟨u2.base,fun c hc=>hS.up c (by omega),hS.lo,fun i hi=>hS.al i (by rw [<-DR];exact hi),fun i o hi jX=>?_,fun i l o p hi hl ai al e=>?_,fun c q hq=>by rw [pv] at hq;have:=hS.bM c q hq;omega,fun c q hc=>by rw [pv];exact hS.lM c q hc,
    fun i J hi jX c hc=>?_,fun i J l o hi jX hl p_ aP hc=>?_,fun i l J J' hi hl ai al=>?_⟩,hE'⟩
   ·rw [DR] at jX
    rcases key i o hi with ⟨rfl,rfl⟩|⟨aP,hi⟩
    ·rw [Bj,xp]
     exact⟨k2,by omega,lF⟩
    ·obtain⟨q1,q2,q3⟩:=hS.bj i o hi jX
     have hib:g.ob i ≠ b:=fun e=>aP (hS.inj i k o _ hi hT jX aH (by rw [e,xp]))
     have hnA:¬ Ab (g.ob i):=fun h=>hS.iF k _ i o hT aH hi jX aP (by rw [xp,zy];exact (KS _ h q2).1)
     have mI:g'.cp i=g.cp i:=by rw [kK]
     rw [Bj,mI]
     refine⟨q1,by omega,q3.later Zb (Ny _ q2 hnA hib) (fun q hq=>by rw [pv] at hq;exact hq) fun J hJ=>?_⟩
     subst hJ
     exact absurd (hS.kD i k J _ hi hT jX aH) aP
   ·rw [DR] at ai al
    rw [Bj,Bj] at e
    obtain⟨_,eL⟩:=KU i o hi
    obtain⟨_,jT⟩:=KU l p hl
    exact hS.inj i l _ _ eL jT ai al e
   ·rw [DR] at jX
    rcases key i _ hi with ⟨rfl,_⟩|⟨aP,hi⟩
    ·rw [Bj,xp,KT,zA] at hc
     rcases hc with hc|hc
     ·exact⟨(E_ c hc).1,by have:=(E_ c hc).2;omega⟩
     ·exact⟨hS.up c hc.1,hc.2⟩
    ·exact absurd (hS.kD i k J _ hi hT jX aH) aP
   ·rw [DR] at jX p_
    rcases key i _ hi with ⟨rfl,_⟩|⟨KV,hi⟩
    ·rw [Bj,xp,KT,zA,Bj] at hc
     obtain⟨_,jT⟩:=KU l o hl
     rcases hc with hc|hc
     ·exact hS.iF i _ l _ hT aH jT p_ aP (by rw [xp,zy];exact hc)
     ·have:=(hS.bj l _ jT p_).2.1;omega
    ·exact absurd (hS.kD i k J _ hi hT jX aH) KV
   ·rw [DR] at ai al
    have to:∀ x J,(T.set k (some (.fo (LJ w0.heap.size A gs n T0 (kS j) j ps assign body f0 (au so N))))).get x=some (.fo J)->g.al x->x=k:=fun x J hx ax=>(key x _ hx).elim (·.1) fun e=>hS.kD x k J _ e.2 hT ax aH
    rw [to i J hi ai,to l J' hl al]
  cases e2 with
  |normal=>obtain rfl:=Option.some.inj hj;exact⟨_,w3,j9,post⟩
  |ret=>obtain rfl:=Option.some.inj hj;exact⟨_,w3,j9,post⟩
  |exit id=>obtain rfl:=Option.some.inj hj;exact⟨_,w3,j9,post⟩
  |_=>cases hj
theorem xq {g:Gh}{w:World}{f:Fn}{l m:List AV}{v:Value}(h:aA g w (.fn f l m) v):∃ cs ds,v=.func f cs ds/\jd g w l cs/\jd g w m ds:=by
 cases h with
 |fn h1 h2 h3 h4=>exact⟨_,_,rfl,⟨h1,h3⟩,⟨h2,h4⟩⟩
theorem lG {J:Nat->(Nat->Nat->Prop)->(Nat->Prop)->World->Prop}{k:Nat}{o:Ob}(h:(au [(0,.fo J)] 1).get k=some o):k=0/\o=.fo J:=by
 have h:cM [(0,.fo J)] k=some o:=h
 have:=dY h
 simp only [List.mem_singleton,Prod.mk.injEq] at this
 exact this
structure Jc (P:Program) (w0:World) (n:Nat) (A:Nat->Prop) (g0:Gh) (α:AA) (S:aa) (a:Act) (w:World) (B:Nat) (fn:FuncId) (ps:Array Tmp) (assign body:Code) (f0:Nat->AV) (T:aa) (gs gi:Gh) (w1 w2:World) (b:Nat) (a1:Act):Prop where
 fU:{ a with defers:=[{ target:=.collected w.heap.size,args:=#[] }]++a.defers }=a1
 ld:Ext A g0 w gs w1
 Nz:∀ k,gs.al k->k < B
 tc:bf gs w1 n ⟨α.tm,S.nx::α.df⟩ a1
 hb:w1.heap.size=b
 yE:w2.heap.size=b+1
 hold:∀ c,c < b->w2.heap[c]?=w1.heap[c]?
 td:(Instr.enterLoop fn a.tmps ps assign body none).run P w=.ok (b,[{ target:=.collected w.heap.size,args:=#[] }]) w2
 s_:A b
 lo:∀ c,A c->w0.heap.size<=c
 NA:St w0 A gi (au [(0,.fo (LJ w0.heap.size A gs n a.tmps .ready none ps assign body f0 T))] 1) w2
 ob:gi.ob 0=b
 al:gi.al 0
 R1:∀ c q,gs.fz c q->gi.fz c q
 Jd:∀ c q,gi.fz c q->gs.fz c q\/A c
 aB:∀ c q,gs.fz c q->c < w1.heap.size
theorem Jc.of {α:AA}{st0:List (Nat × AV)}{so0:List (Nat × Ob)}{A:Nat->Prop}{g0:Gh}{a:Act}{w:World}(hS:St w0 A g0 S w) (hA:bf g0 w n α a)
  (hC:Canon B N m ⟨α.tm,S.nx::α.df⟩ (S.new .df) st0 (S.nx::α.df) so0) (hB:S.nx+1<=B) (fn:FuncId):∃ gs gi w1 w2 b a1,Jc P w0 n A g0 α S a w B fn ps assign body (f_ st0 []).tm (au so0 N) gs gi w1 w2 b a1:=by
 obtain⟨ld,er⟩:=hS.new (.deferred (some [])) .df 0 (fun J=>by simp) (fun hL=>ct)
 obtain⟨gs,R2⟩:∃ gs,g0.new S.nx w.heap.size 0=gs:=⟨_,rfl⟩
 obtain⟨w1,zB⟩:∃ w1,w.alloc (.deferred (some []))=w1:=⟨_,rfl⟩
 rw [R2,zB] at ld er
 have gK:gs.ob S.nx=w.heap.size:=by rw [<-R2];exact ah _ _ _
 have aH:gs.al S.nx:=by rw [<-R2];exact .inr rfl
 have Nz:∀ k,gs.al k->k < B:=fun k hk=>by
  have:=er.al k hk
  have:k < S.nx+1:=this
  omega
 have tc:bf gs w1 n ⟨α.tm,S.nx::α.df⟩ { a with defers:=({ target:=.collected w.heap.size,args:=#[] }:Deferred)::a.defers }:=by
  have h:=hA.later ld.toLater
  refine⟨h.size,h.tm,h.out,?_,fun k hk=>?_⟩
  ·show _=({ target:=.collected (gs.ob S.nx),args:=#[] }:Deferred)::_
   rw [gK,<-h.df]
  ·rcases List.mem_cons.1 hk with rfl|hk
   ·exact aH
   ·exact h.oN k hk
 obtain⟨a1,fU⟩:∃ a1:Act,{ a with defers:=({ target:=.collected w.heap.size,args:=#[] }:Deferred)::a.defers }=a1:=⟨_,rfl⟩
 rw [fU] at tc
 have RZ:=Nat.le_of_ble_eq_true hC.bn
 have pw:=hC.st er
 have Zc:=hC.KM tc
 obtain⟨gc,DS⟩:∃ gc,gs.eE B N (aN m)=gc:=⟨_,rfl⟩
 have DT:Ext A gs w1 gc w1:=by rw [<-DS];exact (Ext.refl A gs w1).eE RZ Nz
 rw [DS] at pw Zc
 obtain⟨L,Bl⟩:∃ L:Loop,{ state:=.ready,pending:=none,fn,tmps:=a.tmps,params:=ps,assign,body,defers:=w.heap.size }=L:=⟨_,rfl⟩
 obtain⟨w2,xr⟩:∃ w2,w1.alloc (.loop L)=w2:=⟨_,rfl⟩
 obtain⟨b,hb⟩:∃ b,w1.heap.size=b:=⟨_,rfl⟩
 have yE:w2.heap.size=b+1:=by rw [<-xr,<-hb];exact size_alloc
 have hold:∀ c,c < b->w2.heap[c]?=w1.heap[c]?:=fun c hc=>by rw [<-xr];exact ep (by rw [hb];exact hc)
 have om:w2.heap[b]?=some (.loop L):=by rw [<-xr,<-hb];exact ct
 have td:(Instr.enterLoop fn a.tmps ps assign body none).run P w=.ok (b,[{ target:=.collected w.heap.size,args:=#[] }]) w2:=by
  rw [<-xr,<-zB,<-hb,<-zB,<-Bl]
  simp only [Instr.enterLoop,newObj,Sem.run_bind,Sem.run,Result.andThen_ok,Sem.run_pure]
  rfl
 obtain⟨R3,px⟩:=pw.free.move (w':=w2) (A':=A) gc.fz (by omega) (fun c hc=>pw.up c (by omega)) pw.lo (fun c hc aB _=>⟨hc,hold c (by omega),fun _ h=>h⟩)
  (fun c q hq=>World.cell?_of_block (hold c (by rw [<-hb];exact pw.bM c q hq))) (fun _ _ h=>h) (fun c q hq=>by have:=pw.bM c q hq;omega)
 have px:s8 w0.heap.size A gc (au so0 N) w2:=px
 have R3:Later gc w1 gc w2:=R3
 have R4:Below w0.heap.size w0 w2:=by
  refine⟨?_,?_,?_,by have:=pw.base.size;omega,fun k hk=>(hold k (by have:=pw.base.size;omega)).trans (pw.base.block k hk)⟩
  ·rw [<-xr];exact pw.base.os
  ·rw [<-xr];exact pw.base.tape
  ·rw [<-xr];exact pw.base.output
 have s_:A b:=pw.up b (by omega)
 obtain⟨Bf,zy⟩:∃ Bf:Nat->Prop,Bf=fun c=>c=b\/(∃ k o,(au so0 N).get k=some o/\gc.al k/\c=gc.ob k)\/∃ k J,(au so0 N).get k=some (.fo J)/\gc.al k/\gc.fo (gc.ob k) c:=⟨_,rfl⟩
 have KW:∀ c,Bf c->A c/\c < w2.heap.size:=fun c hc=>by
  rw [zy] at hc
  rcases hc with rfl|hc
  ·exact⟨s_,by omega⟩
  ·exact px.Y6 hc
 have aak:Bf b:=by rw [zy];exact .inl rfl
 have hLJ:LJ w0.heap.size A gs n a.tmps .ready none ps assign body (f_ st0 []).tm (au so0 N) b gc.fz Bf w2:=by
  obtain⟨v1,v2⟩:=px.move (w':=w2) (A':=fun c=>(Bf c/\c ≠ b)\/w2.heap.size<=c) gc.fz (Nat.le_refl _) (fun c hc=>.inr hc) (fun c hc=>hc.elim (fun h=>px.lo c (KW c h.1).1) fun h=>px.lo c (px.up c h))
   (fun c hc aB h=>⟨.inl ⟨by rw [zy];exact .inr h,fun e=>by
    have:=pw.free.Y6 h
    omega⟩,rfl,fun _ h=>h⟩) (fun _ _ _=>rfl) (fun _ _ h=>h) px.bM
  refine⟨gc,L,v2,aak,KW,⟨om,by rw [<-Bl],by rw [<-Bl],by rw [<-Bl],by rw [<-Bl],by rw [<-Bl],by rw [<-Bl]⟩,?_,fun c q hq=>.inl hq,fun c q _ hq=>hq,⟨DT.al,DT.ob,DT.cp,DT.fz⟩,fun c hc=>px.up c hc⟩
  have h:=Zc.later R3
  have h1:=h.size
  have h2:=h.tm
  rw [<-fU] at h1 h2
  exact⟨h1,h2,h.out,rfl,fun k hk=>by cases hk⟩
 obtain⟨gi,zC⟩:∃ gi:Gh,gi=⟨fun _=>b,fun _=>0,fun k=>k=0,gc.fz,fun _=>Bf⟩:=⟨_,rfl⟩
 obtain⟨J0,Zd⟩:∃ J0,LJ w0.heap.size A gs n a.tmps .ready none ps assign body (f_ st0 []).tm (au so0 N)=J0:=⟨_,rfl⟩
 have NA:St w0 A gi (au [(0,.fo J0)] 1) w2:=by
  have e1:∀ k,gi.ob k=b:=fun k=>by rw [zC]
  have e2:∀ k,gi.fo k=Bf:=fun k=>by rw [zC]
  have e3:gi.fz=gc.fz:=by rw [zC]
  have e4:∀ k,gi.al k->k=0:=fun k hk=>by rw [zC] at hk;exact hk
  refine⟨R4,px.up,px.lo,fun k hk=>by rw [e4 k hk];exact Nat.one_pos,fun k o hk ha=>?_,fun i k o p hi hk _ _ _=>(lG hi).1.trans (lG hk).1.symm,fun c q hq=>px.bM c q (by rw [<-e3];exact hq),fun c q hc=>by rw [e3];exact px.lM c q hc,
   fun k J hk ha c hc=>KW c (by rw [e2] at hc;exact hc),fun k J i o hk _ hi _ aP=>absurd ((lG hi).1.trans (lG hk).1.symm) aP,fun i k J J' hi hk _ _=>(lG hi).1.trans (lG hk).1.symm⟩
  obtain⟨rfl,rfl⟩:=lG hk
  rw [e1]
  refine⟨s_,by omega,?_⟩
  show J0 b gi.fz (gi.fo b) w2/\ET J0
  rw [e2,e3,<-Zd]
  exact⟨hLJ,LJ.ok⟩
 rw [<-Zd] at NA
 exact⟨gs,gi,w1,w2,b,a1,fU,ld,Nz,tc,hb,yE,hold,td,s_,px.lo,NA,by rw [zC],by rw [zC],fun c q hq=>by rw [zC];exact DT.fz c q hq,fun c q hq=>by rw [zC] at hq;exact DT.eW c q hq,fun c q hq=>er.bM c q hq⟩
theorem Jc.out {α:AA}{st0:List (Nat × AV)}{so1:List (Nat × Ob)}{j:Option Code}{A:Nat->Prop}{g0:Gh}{a:Act}{w:World}{fn:FuncId}{T S1:aa}{gs gi Je:Gh}{w1 w2 w3:World}{b:Nat}{a1:Act}
  (h:Jc P w0 n A g0 α S a w B fn ps assign body (f_ st0 []).tm T gs gi w1 w2 b a1) (Bi:∀ c q,gs.fz c q->c < w1.heap.size)
  (KX:S1.get 0=some (.fo (LJ w0.heap.size A gs n a.tmps (kS j) j ps assign body (f_ st0 []).tm (au so1 N)))) (te:St w0 A Je S1 w3) (vp:Ext A gi w2 Je w3) :
  ∃ w4,(Instr.endLoop b).run P w3=.ok j w4/\∀ ex,lz w0 n A g0 w ex (f_ st0 (S.nx::α.df)) (au so1 N) ex a1 w4:=by
 have R5:=h.al
 have oQ:Je.ob 0=b:=(vp.ob 0 R5).trans h.ob
 obtain⟨_,v_,⟨gb,L3,p1,p2,p3,⟨q1,q2,q3,q4,q5,q6,q7⟩,p5,p6,p7,p8,p9⟩,_⟩:=te.bj 0 _ KX (vp.al 0 R5)
 rw [oQ] at p1 p2 p3 q1 p6 p7 v_
 obtain⟨B3,hB3⟩:∃ B3,Je.fo b=B3:=⟨_,rfl⟩
 rw [hB3] at p1 p2 p3 p6 p7
 obtain⟨w4,vq⟩:∃ w4,World.rec w3 b { L3 with state:=.exhausted }=w4:=⟨_,rfl⟩
 have aal:w4.heap.size=w3.heap.size:=by rw [<-vq];exact gx
 have j9:(Instr.endLoop b).run P w3=.ok j w4:=by
  have:(L3.state == .busy)=false:=by rw [q2];cases j<;>rfl
  rw [<-vq]
  simp only [Instr.endLoop,Sem.run_bind,run_getLoop q1,Result.andThen_ok,this,Bool.false_eq_true,if_false,rC q1,Sem.run_pure,q3]
 obtain⟨z1,z2⟩:=p1.move (w':=w4) (A':=A) gb.fz (by omega) (fun c hc=>p9 c (by omega)) h.lo (fun c hc aB h=>by
   have hc:=hc.resolve_right (by omega)
   exact⟨(p3 c hc.1).1,by rw [<-vq];exact gn hc.2,fun _ h=>h⟩) (fun c q _=>by rw [<-vq];exact v8 q1 c q) (fun _ _ h=>h) (fun c q hq=>by rw [aal];exact p1.bM c q hq)
 have z2:s8 w0.heap.size A gb (au so1 N) w4:=z2
 have I_:w0.heap.size<=b:=h.lo b h.s_
 have R6:Below w0.heap.size w0 w4:=by
  refine⟨?_,?_,?_,by have:=te.base.size;omega,fun k hk=>?_⟩
  ·rw [<-vq];exact te.base.os
  ·rw [<-vq];exact te.base.tape
  ·rw [<-vq];exact te.base.output
  ·rw [<-vq];exact (gn (by omega)).trans (te.base.block k hk)
 have KY:Ext A g0 w gb w4:=by
  refine h.ld.trans ⟨⟨p8.al,p8.ob,p8.cp,p8.fz,fun c q hq=>?_⟩,by have:=vp.size;have:=h.yE;have:=h.hb;omega,fun c hc NB=>?_,fun c q hq=>?_⟩
  ·rw [<-vq,v8 q1,vp.cell c q (h.R1 c q hq)]
   exact World.cell?_of_block (h.hold c (by rw [<-h.hb];exact Bi c q hq))
  ·have:=h.yE;have:=h.hb
   rw [<-vq,gn (fun e=>NB (by rw [e];exact h.s_)),vp.cD c (by omega) NB,h.hold c (by omega)]
  ·rcases p6 c q hq with h1|h1
   ·rcases vp.eW c q h1 with h2|h2
    ·exact h.Jd c q h2
    ·exact .inr h2
   ·exact .inr (p3 c h1).1
 have hAf:bf gb w4 n (f_ st0 (S.nx::α.df)) a1:=by
  have h':=p5.later (z1:Later gb w3 gb w4)
  have e1:a1.tmps=a.tmps:=by rw [<-h.fU]
  refine⟨by rw [e1];exact h'.size,fun t ht=>by rw [e1];exact h'.tm t ht,h'.out,?_,fun k hk=>?_⟩
  ·show a1.defers=(DE.ob S.nx::α.df).map _
   rw [h.tc.df]
   exact List.map_congr_left fun k hk=>(s6 (p8.ob _ (h.tc.oN k hk))).symm
  ·exact p8.al _ (h.tc.oN k hk)
 exact⟨w4,j9,fun ex=>⟨rfl,gb,z2.st R6,hAf,KY⟩⟩
theorem bI.range {α:AA}{g:Operand}{gid:FuncId}{first cap:List AV}{st0:List (Nat × AV)}{so0 so1:List (Nat × Ob)}{j:Option Code}
  (hf:α.ev g=.fn (.func gid) first cap) (hpf:∀ a ∈ first,Pure a) (hpc:∀ a ∈ cap,Pure a)
  (hC:Canon B N m ⟨α.tm,S.nx::α.df⟩ (S.new .df) st0 (S.nx::α.df) so0) (hB:S.nx+1<=B) (hj:xo ex=some j)
  (hI:∀ (A:Nat->Prop) (gs:Gh) (T0:Array Value),(∀ k,gs.al k->k < B)->∃ r S1,aE P w0 gid (first++[.yl 0]++cap) (au [(0,.fo (LJ w0.heap.size A gs n T0 .ready none ps assign body (f_ st0 []).tm (au so0 N)))] 1) r S1 /\
   S1.get 0=some (.fo (LJ w0.heap.size A gs n T0 (kS j) j ps assign body (f_ st0 []).tm (au so1 N)))) :
  bI P w0 false n (.rangeFunc g ps assign body) α S ex (f_ st0 (S.nx::α.df)) (au so1 N):=by
 intro F mm A g0 a w hF hR hS hA
 have jv:F.round=none:=by
  cases h:F.round with
  |none=>rfl
  |some l=>rw [h] at hR;cases hR
 refine wpIn_rangeFunc fun fn tf=>?_
 obtain⟨gs,gi,w1,w2,b,a1,h⟩:=Jc.of (P:=P) (ps:=ps) (assign:=assign) (body:=body) hS hA hC hB fn
 obtain⟨r,S1,cA,KX⟩:=hI A gs a.tmps h.Nz
 have R7:=hA.ev g
 rw [hf] at R7
 obtain⟨cs,ds,hev,vn,NC⟩:=xq R7
 have toI:∀ {l:List AV}{xs:Array Value},(∀ a ∈ l,Pure a)->jd g0 w l xs->jd gi w2 l xs:=fun hp h1=>⟨h1.1,fun i a x ha hx=>aA.pure (g:=g0) (fun c q hq=>h.R1 c q (h.ld.fz c q hq)) (fun c q hq=>by
   have aB:=hS.bM c q hq
   have:=h.ld.size
   rw [<-h.ld.cell c q hq]
   exact World.cell?_of_block (h.hold c (by rw [<-h.hb];omega))) (h1.2 i a x ha hx) (hp a (List.mem_of_getElem? ha))⟩
 obtain⟨ya,R8⟩:∃ ya:Array Value,ya=#[.func (.yield b) #[] #[]]:=⟨_,rfl⟩
 have UC:jd gi w2 (first++[.yl 0]++cap) (cs++ya++ds):=by
  refine iA (iA (toI hpf vn) ⟨by rw [R8];rfl,fun i a x ha hx=>?_⟩) (toI hpc NC)
  match i with
  |0 =>
   rw [R8] at hx
   simp at ha hx
   subst ha hx
   have:=aA.yl (g:=gi) (w:=w2) (k:=0) h.al
   rw [h.ob] at this
   exact this
  |i+1=>simp at ha
 have ga:(resolve a.eval (rangeCall g b) 0).run P w2=.ok { target:=.fn (.func gid) ds,args:=cs++ya } w2:=by
  rw [R8]
  have e1:(rangeCall g b).args.map a.eval=#[.func (.yield b) #[] #[]]:=by simp [rangeCall,Act.eval]
  simp only [resolve,e1,hev,Deferred.ofValue]
  rfl
 refine⟨b,_,w2,_,w2,gid,cs++ya++ds,w2,by rw [jv];exact h.td,ga,fun f' _=>hF.1 f',cA.1 _ w2,fun hd=>(by rw [hF.2.1] at hd;cases hd),(cA.2 F (mm - 1) A gi _ w2 hF h.NA UC).mono ?_⟩
 rintro e w3 ⟨v,Je,rfl,hr3,te,vp⟩
 obtain⟨w4,j9,xu⟩:=h.out (j:=j) h.aB KX te vp
 rw [h.fU]
 refine⟨j,w4,j9,?_⟩
 have xu:=xu ex
 cases ex with
 |normal=>obtain rfl:=Option.some.inj hj;exact xu
 |ret=>obtain rfl:=Option.some.inj hj;exact wpIn_ret xu
 |exit id=>obtain rfl:=Option.some.inj hj;exact wpIn_exit xu
 |_=>cases hj
end
end Go.Proofs.YtgjfgekaclobaaaGreat
