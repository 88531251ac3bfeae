import Derived.Test.YtbpabjmnhggajaaGreatOs11
namespace Go.Proofs.YtbpabjmnhggajaaGreat
set_option linter.unusedVariables false
set_option linter.unusedSimpArgs false
open Go.RowKit
structure yF (z:Nat) (A:Nat->Prop) (g:Gh) (S:ae) (w:World):Prop where
 up:∀ b,w.heap.size<=b->A b
 lo:∀ b,A b->z<=b
 al:∀ k,g.al k->k < S.nx
 bT:∀ k o,S.get k=some o->g.al k->A (g.ob k)/\g.ob k < w.heap.size/\dJ g w (g.ob k) (g.cp k) o
 inj:∀ j k o p,S.get j=some o->S.get k=some p->g.al j->g.al k->g.ob j=g.ob k->j=k
 cK:∀ b o,g.fz b o->b < w.heap.size
 oT:∀ b o,b < z->g.fz b o
 iE:∀ k J,S.get k=some (.fo J)->g.al k->∀ c,g.fo (g.ob k) c->A c/\c < w.heap.size
 kL:∀ k J j o,S.get k=some (.fo J)->g.al k->S.get j=some o->g.al j->j ≠ k->¬ g.fo (g.ob k) (g.ob j)
 mQ:∀ j k J J',S.get j=some (.fo J)->S.get k=some (.fo J')->g.al j->g.al k->j=k
def Gh.HE (g:Gh) (Z:Nat->Nat->Prop):Gh:=⟨g.ob,g.cp,g.al,Z,g.fo⟩
section
variable {w0:World}{z:Nat}{A A':Nat->Prop}{g:Gh}{S:ae}{w w':World}
theorem St.free (h:St w0 A g S w):yF w0.heap.size A g S w:=⟨h.up,h.lo,h.al,h.bT,h.inj,h.cK,h.oT,h.iE,h.kL,h.mQ⟩
theorem yF.st (h:yF w0.heap.size A g S w) (hb:Below w0.heap.size w0 w):St w0 A g S w:=⟨hb,h.up,h.lo,h.al,h.bT,h.inj,h.cK,h.oT,h.iE,h.kL,h.mQ⟩
theorem yF.move (h:yF z A g S w) (Z:Nat->Nat->Prop) (hs:w.heap.size<=w'.heap.size) (up:∀ b,w'.heap.size<=b->A' b) (lo:∀ b,A' b->z<=b)
  (hB:∀ c,A c->c < w.heap.size->((∃ k o,S.get k=some o/\g.al k/\c=g.ob k)\/∃ k J,S.get k=some (.fo J)/\g.al k/\g.fo (g.ob k) c)->A' c/\w'.heap[c]?=w.heap[c]?/\∀ q,Z c q->g.fz c q)
  (hc:∀ b q,g.fz b q->w'.cell? ⟨b,q,none⟩=w.cell? ⟨b,q,none⟩) (hz:∀ b q,g.fz b q->Z b q) (zlt:∀ b q,Z b q->b < w'.heap.size):Later g w (g.HE Z) w'/\yF z A' (g.HE Z) S w':=by
 have hL:Later g w (g.HE Z) w':=⟨fun _ h=>h,fun _ _=>rfl,fun _ _=>rfl,hz,hc⟩;refine⟨hL,up,lo,h.al,fun k o hk ha=>?_,h.inj,zlt,fun b q hb=>hz b q (h.oT b q hb),fun k J hk ha c hc=>?_,h.kL,h.mQ⟩
 ·obtain⟨h1,h2,h3⟩:=h.bT k o hk ha;obtain⟨h4,h5,h6⟩:=hB _ h1 h2 (.inl ⟨k,o,hk,ha,rfl⟩);refine⟨h4,Nat.lt_of_lt_of_le h2 hs,h3.later hL h5 h6 fun J hJ=>⟨rfl,hs,fun c hc=>?_,fun c q hc hq=>?_⟩⟩
  ·subst hJ;obtain⟨k1,k2⟩:=h.iE k J hk ha c hc;exact (hB c k1 k2 (.inr ⟨k,J,hk,ha,hc⟩)).2.1
  ·subst hJ;obtain⟨k1,k2⟩:=h.iE k J hk ha c hc;exact (hB c k1 k2 (.inr ⟨k,J,hk,ha,hc⟩)).2.2 q hq
 ·obtain⟨k1,k2⟩:=h.iE k J hk ha c hc;exact⟨(hB c k1 k2 (.inr ⟨k,J,hk,ha,hc⟩)).1,Nat.lt_of_lt_of_le k2 hs⟩
theorem yF.inA (h:yF z A g S w) {c:Nat}(hc:(∃ k o,S.get k=some o/\g.al k/\c=g.ob k)\/∃ k J,S.get k=some (.fo J)/\g.al k/\g.fo (g.ob k) c):A c/\c < w.heap.size:=by
 rcases hc with ⟨k,o,h1,h2,rfl⟩|⟨k,J,h1,h2,h3⟩
 ·exact⟨(h.bT k o h1 h2).1,(h.bT k o h1 h2).2.1⟩
 ·exact h.iE k J h1 h2 c h3
end
structure GL (gs gb:Gh):Prop where
 al:∀ k,gs.al k->gb.al k
 ob:∀ k,gs.al k->gb.ob k=gs.ob k
 cp:∀ k,gs.al k->gb.cp k=gs.cp k
 fz:∀ b q,gs.fz b q->gb.fz b q
def LJ (z:Nat) (A:Nat->Prop) (gs:Gh) (n:Nat) (T0:Array Value) (st:LoopState) (mP:Option Code) (ps:Array Tmp) (assign body:Code) (f0:Nat->AV) (S:ae):Nat->(Nat->Nat->Prop)->(Nat->Prop)->World->Prop :=
 fun b Z B w=>∃ (gb:Gh) (L:Loop),yF z (fun c=>(B c/\c ≠ b)\/w.heap.size<=c) gb S w/\B b/\(∀ c,B c->A c/\c < w.heap.size) /\
  (w.heap[b]?=some (.loop L)/\L.state=st/\L.pending=mP/\L.params=ps/\L.assign=assign/\L.body=body/\L.tmps=T0)/\bR gb w n ⟨f0,[]⟩ { tmps:=T0,defers:=[] } /\
  (∀ c q,gb.fz c q->Z c q\/B c)/\(∀ c q,B c->Z c q->gb.fz c q)/\GL gs gb/\∀ c,w.heap.size<=c->A c
section
variable {z:Nat}{A:Nat->Prop}{gs:Gh}{n:Nat}{T0:Array Value}{st:LoopState}{mP:Option Code}{ps:Array Tmp}{assign body:Code}{f0:Nat->AV}{S:ae}
theorem LJ.ok:MA (LJ z A gs n T0 st mP ps assign body f0 S):=by
 rintro b Z Z' B w w' ⟨gb,L,h1,h2,h3,h4,h5,h6,h7,h8,h9⟩ hZ hZB yG lS bS;have hc:∀ c q,gb.fz c q->w'.cell? ⟨c,q,none⟩=w.cell? ⟨c,q,none⟩:=fun c q hq=>(h6 c q hq).elim (lS c q) fun hB=>World.cell?_of_block (yG c hB);have inB:∀ c,((B c/\c ≠ b)\/w.heap.size<=c)->c < w.heap.size->B c/\c ≠ b:=fun c hc aA=>hc.resolve_right (by omega)
 obtain⟨k1,k2⟩:=h1.move (w':=w') (A':=fun c=>(B c/\c ≠ b)\/w'.heap.size<=c) gb.fz bS (fun c hc=>.inr hc) (fun c hc=>h1.lo c (hc.imp id fun h=>Nat.le_trans bS h))
  (fun c hA aA _=>⟨.inl (inB c hA aA),yG c (inB c hA aA).1,fun _ h=>h⟩) hc (fun _ _ h=>h) (fun c q hq=>Nat.lt_of_lt_of_le (h1.cK c q hq) bS)
 exact⟨gb,L,k2,h2,fun c hc=>⟨(h3 c hc).1,Nat.lt_of_lt_of_le (h3 c hc).2 bS⟩,⟨(yG b h2).trans h4.1,h4.2⟩,h5.later k1,fun c q hq=>(h6 c q hq).imp (hZ c q) id,fun c q hB hq=>h7 c q hB (hZB c q hB hq),h8,fun c hc=>h9 c (Nat.le_trans bS hc)⟩
end
def uu (f:Nat->AV):List (Nat × AV)->Nat->AV
 |[]=>f
 |p::l=>uu (a7 f p.1 p.2) l
section
variable {P:Program}{w0:World}{n:Nat}{T0:Array Value}{ps:Array Tmp}{assign body:Code}{f0:Nat->AV}{S bW Ev:ae}{bF AG:AA}{ex:Exit}{x:List AV}{B N:Nat}{m:List (Nat × Nat)}{so:List (Nat × Ob)}
theorem HF {g:Gh}{w:World}:∀ {l:List (Nat × AV)}{ys:List (Nat × Value)}{f:Nat->AV}{T:Array Value},bR g w n ⟨f,[]⟩ { tmps:=T,defers:=[] }->l.map (·.1)=ys.map (·.1)->(∀ p ∈ l,p.1 < n) ->
  (∀ (i:Nat) (p:Nat × AV) (y:Nat × Value),l[i]?=some p->ys[i]?=some y->aF g w p.2 y.2)->bR g w n ⟨uu f l,[]⟩ { tmps:=ys.foldl (fun T (t,a)=>T.setIfInBounds t a) T,defers:=[] }
 |[],[],f,T,h,_,_,_=>h
 |p::l,y::ys,f,T,h,hl,hn,hr=>by
  simp only[List.map_cons,List.cons.injEq] at hl;have h1:bR g w n ⟨a7 f p.1 p.2,[]⟩ { tmps:=T.setIfInBounds p.1 y.2,defers:=[] }:=h.put (hn p (by simp)) (hr 0 p y rfl rfl);have h2:bR g w n ⟨a7 f p.1 p.2,[]⟩ { tmps:=T.setIfInBounds y.1 y.2,defers:=[] }:=by grind
  rw[uu,List.foldl_cons];exact HF h2 hl.2 (fun q hq=>hn q (by grind)) fun i q v h3 h4=>hr (i+1) q v (by grind) (by grind)
 |[],y::ys,f,T,h,hl,_,_=>by grind
 |p::l,[],f,T,h,hl,_,_=>by grind
def vL:Exit->Option (Option Code)
 |.normal=>some none
 |.ret=>some (some .ret)
 |.exit id=>some (some (.exit id))
 |_=>none
def mB (j:Option Code):LoopState:=match j with|none=>.ready|some _=>.done
theorem run_getLoop {w:World}{b:Nat}{L:Loop}(h:w.heap[b]?=some (.loop L)):(Instr.getLoop b).run P w=.ok L w:=by
 simp[Instr.getLoop,getObj,Sem.run,h]
def World.rec (w:World) (b:Nat) (L:Loop):World:={ w with heap:=w.heap.setIfInBounds b (.loop L) }
theorem jy {w:World}{b:Nat}{L:Loop}:(World.rec w b L).heap.size=w.heap.size:=by simp[World.rec]
theorem jn {w:World}{b c:Nat}{L:Loop}(h:c ≠ b):(World.rec w b L).heap[c]?=w.heap[c]?:=by grind[World.rec]
theorem BZ {w:World}{b:Nat}{L:Loop}(h:b < w.heap.size):(World.rec w b L).heap[b]?=some (.loop L):=by grind[World.rec]
theorem B0 {w:World}{b:Nat}{L L':Loop}(h:w.heap[b]?=some (.loop L')) (c q:Nat):(World.rec w b L).cell? ⟨c,q,none⟩=w.cell? ⟨c,q,none⟩:=by
 by_cases e:c=b
 ·subst e;have aA:c < w.heap.size:=by grind
  simp[World.cell?,BZ aA,h]
 ·exact World.cell?_of_block (jn e)
theorem wL {w:World}{b:Nat}{L L':Loop}(h:w.heap[b]?=some (.loop L')):(setObj b (.loop L)).run P w=.ok () (World.rec w b L):=by
 simp[setObj,Sem.run,h,World.rec]
theorem Ext.mono {A A':Nat->Prop}{g g':Gh}{w w':World}(h:Ext A g w g' w') (hs:∀ b,A b->A' b):Ext A' g w g' w' :=
 { h.toLater with size:=h.size,aU:=fun b hb hA=>h.aU b hb fun h=>hA (hs b h),h_:=fun b q hq=>(h.h_ b q hq).imp id (hs b) }
theorem St.Yb {A:Nat->Prop}{g:Gh}{w:World}(h:St w0 A g S w) {b:Nat}{L L':Loop}(hb:w.heap[b]?=some (.loop L')) (hA:¬ A b) (h0:w0.heap.size<=b):Later g w g (World.rec w b L)/\St w0 A g S (World.rec w b L):=by
 have aA:b < w.heap.size:=by grind
 obtain⟨h1,h2⟩:=h.free.move (w':=World.rec w b L) (A':=A) g.fz (by grind[jy]) (fun c hc=>h.up c (by grind[jy])) h.lo (fun c hc _ _=>⟨hc,jn (fun e=>hA (by grind)),fun _ h=>h⟩)
  (fun c q _=>B0 hb c q) (fun _ _ h=>h) (fun c q hq=>by rw[jy];exact h.cK c q hq)
 exact⟨h1,h2.st ⟨h.base.os,h.base.tape,h.base.output,by grind[jy],fun k hk=>(jn (by omega)).trans (h.base.block k hk)⟩⟩
theorem qU.rnd (ha:cC P w0 true n assign ⟨uu f0 (ps.toList.zip x),[]⟩ S .normal bF bW) (hb:cC P w0 true n body bF bW ex AG Ev) (hC:Canon B N m AG Ev [] [] so) {j:Option Code}(hj:vL ex=some j)
  (hx:x.length=ps.size) (hp:∀ a ∈ x,Pure a) (CR:∀ t ∈ ps,t < n) (yH:∀ t,dz B (f0 t)) {A:Nat->Prop}{gs:Gh}(hB:∀ k,gs.al k->k < B)
  {T:ae}{k:Nat}(hT:T.get k=some (.fo (LJ w0.heap.size A gs n T0 .ready none ps assign body f0 S))) :
  qU P w0 k x T (.v (.bool j.isNone)) (T.set k (some (.fo (LJ w0.heap.size A gs n T0 (mB j) j ps assign body f0 (aq so N))))):=by
 intro F mm A2 g args' w hF hS aK hA;obtain⟨k2,k3,⟨gb,L,h1,h2,h3,⟨CS,OT,hL3,Yc,hL5,hL6,hL7⟩,h5,h6,h7,h8,h9⟩,_⟩:=hS.bT k _ hT aK;obtain⟨b,OU⟩:∃ b,g.ob k=b:=⟨_,rfl⟩;rw[OU] at k2 k3 h1 h2 h3 CS h6 h7;obtain⟨Bf,Yd⟩:∃ Bf,g.fo b=Bf:=⟨_,rfl⟩;rw[Yd] at h1 h2 h3 h6 h7;have OV:w0.heap.size<=b:=hS.lo b k2;have aA:b < w.heap.size:=k3;have Ye:∀ c,Bf c->A2 c/\c < w.heap.size:=fun c hc=>hS.iE k _ hT aK c (by grind);obtain⟨Z,hZ⟩:∃ Z:Nat->Nat->Prop,Z=fun c q=>gb.fz c q\/g.fz c q:=⟨_,rfl⟩;obtain⟨Ab,K5⟩:∃ Ab:Nat->Prop,Ab=fun c=>(Bf c/\c ≠ b)\/w.heap.size<=c:=⟨_,rfl⟩;rw[<-K5] at h1;have agP:∀ c,Ab c->c < w.heap.size->Bf c/\c ≠ b:=fun c hc aA=>by grind
 have CT:¬ Ab b:=by grind
 obtain⟨m1,m2⟩:=h1.move (w':=w) (A':=Ab) Z (Nat.le_refl _) h1.up h1.lo (fun c hc aA _=>⟨hc,rfl,fun q hq=>by grind⟩) (fun _ _ _=>rfl) (fun _ _ h=>by grind) (fun c q hq=>by
   rw[hZ] at hq;exact hq.elim (h1.cK c q) (hS.cK c q))
 have cZ:=m2.st hS.base;have amb:(gb.HE Z).fz=Z:=rfl;have Fv:bR (gb.HE Z) w n ⟨uu f0 (ps.toList.zip x),[]⟩ { tmps:=(ps.toList.zip args'.toList).foldl (fun T (t,a)=>T.setIfInBounds t a) T0,defers:=[] }:=by
  refine HF (h5.later m1) ?_ (fun p hp=>CR _ (by simpa using (List.of_mem_zip hp).1)) (fun i p y UP hy=>?_)
  ·have e1:args'.toList.length=x.length:=by rw[Array.length_toList];exact hA.1
   rw[List.map_fst_zip (by grind),List.map_fst_zip (by grind)]
  ·rw[List.getElem?_zip_eq_some] at UP hy;have hr:=hA.2 i p.2 y.2 UP.2 (by grind);exact aF.pure (g:=g) (fun c q hq=>by grind) (fun _ _ _=>rfl) hr (hp _ (List.mem_of_getElem? UP.2))
 have bj:args'.size=L.params.size:=by rw[hA.1,hx,Yc]
 refine⟨b,L.fn,(ps.toList.zip args'.toList).foldl (fun T (t,a)=>T.setIfInBounds t a) T0,assign,body,?_,?_⟩
 ·rw[OU];simp only[Instr.yield,Sem.run_bind,run_getLoop CS,Result.andThen_ok,bj,ne_eq,not_true_eq_false,if_false,Sem.run_pure,hL5,hL6,hL7,Yc];congr 3;rw[<-Array.foldl_toList,Array.toList_zip]
 ·have K6:ir (F.inRound b):=hF.inRound b;have Fw:(F.inRound b).round.isSome=true:=rfl;refine roundIn_of_wpIn (hF.1 _) ?_;refine wpIn_mono (ha (F.inRound b) mm Ab _ _ w K6 Fw cZ Fv) ?_;rintro e1 a1 w1 ⟨rfl,g1,s1,r1,x1⟩;have b8:w1.heap[b]?=some (.loop L):=(x1.aU b aA CT).trans CS;have RW:b < w1.heap.size:=Nat.lt_of_lt_of_le aA x1.size;refine⟨World.rec w1 b { L with state:=.busy },?_,?_⟩
  ·simp only[Instr.beginRound,Sem.run_bind,run_getLoop b8,Result.andThen_ok,wL b8,OT,Sem.run_pure]
  obtain⟨y1,y2⟩:=s1.Yb (L:={ L with state:=.busy }) b8 CT OV;refine wpIn_mono (hb (F.inRound b) mm Ab g1 a1 _ K6 Fw y2 (r1.later y1)) ?_;rintro e2 a2 w2 ⟨rfl,g2,s2,r2,x2⟩;have cy:w2.heap[b]?=some (.loop { L with state:=.busy }):=(x2.aU b (by grind[jy]) CT).trans (BZ RW);have Ew:b < w2.heap.size:=Nat.lt_of_lt_of_le (by grind[jy]) x2.size;have HG:w.heap.size<=w2.heap.size:=Nat.le_trans x1.size (by have:=x2.size;rw[jy] at this;exact this);obtain⟨w3,Yf⟩:∃ w3,World.rec w2 b { L with state:=mB j,pending:=j }=w3:=⟨_,rfl⟩;obtain⟨u1,u2⟩:=s2.Yb (L:={ L with state:=mB j,pending:=j }) cy CT OV;rw[Yf] at u1 u2;have amc:w3.heap.size=w2.heap.size:=by grind[jy]
  have rH:(Instr.endRound b j).run P w2=.ok (.bool j.isNone) w3:=by
   rw[<-Yf];cases j<;>simp only[Instr.endRound,Sem.run_bind,run_getLoop cy,Result.andThen_ok,Sem.run_pure,wL cy]<;>rfl
  have post:∃ v g',Ending.returned (.bool j.isNone)=.returned v/\aF g' w3 (.v (.bool j.isNone)) v/\St w0 A2 g' (T.set k (some (.fo (LJ w0.heap.size A gs n T0 (mB j) j ps assign body f0 (aq so N))))) w3/\Ext A2 g w g' w3:=by
   have lS:∀ c q,g.fz c q->w3.cell? ⟨c,q,none⟩=w.cell? ⟨c,q,none⟩:=fun c q hq=>by
    have UQ:(gb.HE Z).fz c q:=by grind
    rw[u1.cell c q (x2.fz c q (y1.fz c q (x1.fz c q UQ))),x2.cell c q (y1.fz c q (x1.fz c q UQ)),y1.cell c q (x1.fz c q UQ),x1.cell c q UQ]
   have UR:∀ c,c < w.heap.size->¬ Ab c->c ≠ b->w3.heap[c]?=w.heap[c]?:=fun c hc hA bU=>by
    rw[<-Yf,jn bU,x2.aU c (by rw[jy];exact Nat.lt_of_lt_of_le hc x1.size) hA,jn bU,x1.aU c hc hA]
   obtain⟨B',Yg⟩:∃ B':Nat->Prop,B'=fun c=>Bf c\/(w.heap.size<=c/\c < w3.heap.size):=⟨_,rfl⟩;obtain⟨g',pf⟩:∃ g':Gh,g'=⟨g.ob,g.cp,g.al,g.fz,fun d c=>(d=b/\B' c)\/(d ≠ b/\g.fo d c)⟩:=⟨_,rfl⟩;have RX:g'.fo b=B':=by
    rw[pf];funext c;exact propext ⟨fun h=>h.elim (·.2) fun h=>absurd rfl h.1,fun h=>.inl ⟨rfl,h⟩⟩
   have al6:∀ d,d ≠ b->g'.fo d=g.fo d:=fun d hd=>by
    rw[pf];funext c;exact propext ⟨fun h=>h.elim (fun h=>absurd h.1 hd) (·.2),fun h=>.inr ⟨hd,h⟩⟩
   have hL':Later g w g' w3:=by rw[pf];exact⟨fun _ h=>h,fun _ _=>rfl,fun _ _=>rfl,fun _ _ h=>h,lS⟩
   have hE':Ext A2 g w g' w3:={ hL' with
    size:=by grind
    aU:=fun c hc hA=>UR c hc (fun h=>hA (Ye c (agP c h hc).1).1) (fun e=>hA (by grind))
    h_:=fun c q hq=>by rw[pf] at hq;exact .inl hq }
   have sub:∀ c,Ab c->c < w3.heap.size->B' c/\c ≠ b:=fun c hc Ex=>by grind
   have oH:LJ w0.heap.size A gs n T0 (mB j) j ps assign body f0 (aq so N) b g'.fz (g'.fo b) w3/\MA (LJ w0.heap.size A gs n T0 (mB j) j ps assign body f0 (aq so N)):=by
    refine⟨?_,LJ.ok⟩;rw[RX];have CU:=hC.st u2;have Yh:=Nat.le_of_ble_eq_true hC.bn;obtain⟨v1,v2⟩:=CU.free.move (w':=w3) (A':=fun c=>(B' c/\c ≠ b)\/w3.heap.size<=c) (g2.fX B N (aJ m)).fz (Nat.le_refl _) (fun c hc=>.inr hc) (fun c hc=>by
      rcases hc with hc|hc
      ·rw[Yg] at hc;rcases hc.1 with h|h
       ·exact hS.lo c (Ye c h).1
       ·grind
      ·have h1:=hS.base.size;omega) (fun c hc aA _=>⟨.inl (sub c hc aA),rfl,fun _ h=>h⟩) (fun _ _ _=>rfl) (fun _ _ h=>h) (fun c q hq=>CU.cK c q hq)
    have lq:Ext (fun c=>Ab c\/c=b) (gb.HE Z) w g2 w3:=((x1.mono fun _ h=>.inl h).trans (g2:=g1) { y1 with size:=by grind[jy],aU:=fun c _ hA=>jn (fun e=>hA (.inr e)),h_:=fun _ _ h=>.inl h }).trans
     ((x2.mono fun _ h=>.inl h).trans { u1 with size:=by grind,aU:=fun c _ hA=>by grind[jn],h_:=fun _ _ h=>.inl h })
    have rI:∀ c,(Ab c\/c=b)->c < w3.heap.size->B' c:=fun c hc Ex=>hc.elim (fun h=>(sub c h Ex).1) fun e=>by grind
    refine⟨g2.fX B N (aJ m),{ L with state:=mB j,pending:=j },v2,by grind,fun c hc=>?_,⟨by grind[BZ],rfl,rfl,Yc,hL5,hL6,hL7⟩,?_,fun c q hq=>?_,fun c q hc hq=>?_,?_,fun c hc=>h9 c (by omega)⟩
    ·grind
    ·have Yi:=(h5.later m1).later lq.toLater;exact⟨Yi.size,fun t ht=>(Yi.tm t ht).fX Yh (yH t),Yi.out,rfl,fun k hk=>by grind⟩
    ·have CV:g2.fz c q:=hq;have Ex:=u2.cK c q CV;rw[pf];rcases lq.h_ c q CV with h|h
     ·grind
     ·grind
    ·rw[pf] at hq;have:Z c q:=by grind
     exact lq.fz c q this
    ·have e0:∀ k,gs.al k->dE B (aJ m) k=k:=fun k hk=>lh (hB k hk);refine⟨fun k hk=>⟨by grind,?_⟩,fun k hk=>?_,fun k hk=>?_,fun c q hq=>lq.fz c q (by show Z c q;rw[hZ];exact .inl (h8.fz c q hq))⟩
     ·rw[e0 k hk];exact lq.al k (h8.al k hk)
     ·show g2.ob (dE B (aJ m) k)=gs.ob k;rw[e0 k hk,lq.ob k (h8.al k hk)];exact h8.ob k hk
     ·show g2.cp (dE B (aJ m) k)=gs.cp k;rw[e0 k hk,lq.cp k (h8.al k hk)];exact h8.cp k hk
   have key:∀ l r,(T.set k (some (.fo (LJ w0.heap.size A gs n T0 (mB j) j ps assign body f0 (aq so N))))).get l=some r->(l=k/\r=.fo (LJ w0.heap.size A gs n T0 (mB j) j ps assign body f0 (aq so N)))\/(l ≠ k/\T.get l=some r):=by
    intro l r hl;have hl:a7 T.get k (some (.fo (LJ w0.heap.size A gs n T0 (mB j) j ps assign body f0 (aq so N)))) l=some r:=hl;by_cases e:l=k
    ·grind[az]
    ·grind[aD]
   have RY:∀ l r,(T.set k (some (.fo (LJ w0.heap.size A gs n T0 (mB j) j ps assign body f0 (aq so N))))).get l=some r->∃ r',T.get l=some r':=fun l r hl=>(key l r hl).elim (fun e=>⟨.fo (LJ w0.heap.size A gs n T0 .ready none ps assign body f0 S),e.1.symm ▸ hT⟩) fun e=>⟨r,e.2⟩;have HH:∀ i,g'.ob i=g.ob i:=fun i=>by rw[pf]
   have OW:∀ i,g'.al i=g.al i:=fun i=>by rw[pf]
   have vM:g'.fz=g.fz:=by grind
   refine⟨_,g',rfl,.v,⟨u2.base,fun c hc=>hS.up c (by omega),hS.lo,fun i hi=>hS.al i (by grind),fun i o hi mV=>?_,fun i l o p hi hl ai al e=>?_,fun c q hq=>by rw[vM] at hq;have:=hS.cK c q hq;omega,fun c q hc=>by rw[vM];exact hS.oT c q hc,
    fun i J hi mV c hc=>?_,fun i J l o hi mV hl vo bU hc=>?_,fun i l J J' hi hl ai al=>?_⟩,hE'⟩
   ·rw[OW] at mV;rcases key i o hi with ⟨rfl,rfl⟩|⟨bU,hi⟩
    ·rw[HH,OU];exact⟨k2,by omega,oH⟩
    ·obtain⟨q1,q2,q3⟩:=hS.bT i o hi mV;have hib:g.ob i ≠ b:=fun e=>bU (hS.inj i k o _ hi hT mV aK (by grind));have hnA:¬ Ab (g.ob i):=fun h=>hS.kL k _ i o hT aK hi mV bU (by grind);have cw:g'.cp i=g.cp i:=by rw[pf]
     rw[HH,cw];refine⟨q1,by omega,q3.later hL' (UR _ q2 hnA hib) (fun q hq=>by grind) fun J hJ=>?_⟩;subst hJ;exact absurd (hS.mQ i k J _ hi hT mV aK) bU
   ·rw[OW] at ai al;rw[HH,HH] at e;obtain⟨_,jV⟩:=RY i o hi;obtain⟨_,nI⟩:=RY l p hl;exact hS.inj i l _ _ jV nI ai al e
   ·rw[OW] at mV;rcases key i _ hi with ⟨rfl,_⟩|⟨bU,hi⟩
    ·rw[HH,OU,RX,Yg] at hc;rcases hc with hc|hc
     ·grind
     ·exact⟨hS.up c hc.1,hc.2⟩
    ·exact absurd (hS.mQ i k J _ hi hT mV aK) bU
   ·rw[OW] at mV vo;rcases key i _ hi with ⟨rfl,_⟩|⟨RZ,hi⟩
    ·rw[HH,OU,RX,Yg,HH] at hc;obtain⟨_,nI⟩:=RY l o hl;rcases hc with hc|hc
     ·exact hS.kL i _ l _ hT aK nI vo bU (by grind)
     ·have:=(hS.bT l _ nI vo).2.1;omega
    ·exact absurd (hS.mQ i k J _ hi hT mV aK) RZ
   ·rw[OW] at ai al;have to:∀ x J,(T.set k (some (.fo (LJ w0.heap.size A gs n T0 (mB j) j ps assign body f0 (aq so N))))).get x=some (.fo J)->g.al x->x=k:=fun x J hx ax=>(key x _ hx).elim (·.1) fun e=>hS.mQ x k J _ e.2 hT ax aK;rw[to i J hi ai,to l J' hl al]
  cases e2 with
  |normal=>obtain rfl:=oJ_ hj;exact⟨_,w3,rH,post⟩
  |ret=>obtain rfl:=oJ_ hj;exact⟨_,w3,rH,post⟩
  |exit id=>obtain rfl:=oJ_ hj;exact⟨_,w3,rH,post⟩
  |_=>cases hj
theorem vN {g:Gh}{w:World}{f:Fn}{l m:List AV}{v:Value}(h:aF g w (.fn f l m) v):∃ cs ds,v=.func f cs ds/\jc g w l cs/\jc g w m ds:=by
 cases h with
 |fn h1 h2 h3 h4=>exact⟨_,_,rfl,⟨h1,h3⟩,⟨h2,h4⟩⟩
theorem oI {J:Nat->(Nat->Nat->Prop)->(Nat->Prop)->World->Prop}{k:Nat}{o:Ob}(h:(aq [(0,.fo J)] 1).get k=some o):k=0/\o=.fo J:=by
 have h:dL [(0,.fo J)] k=some o:=h;have:=fg h;simp only[List.mem_singleton,pI_] at this;exact this
structure OX (P:Program) (w0:World) (n:Nat) (A:Nat->Prop) (g0:Gh) (α:AA) (S:ae) (a:Act) (w:World) (B:Nat) (fn:FuncId) (ps:Array Tmp) (assign body:Code) (f0:Nat->AV) (T:ae) (gs gi:Gh) (w1 w2:World) (b:Nat) (a1:Act):Prop where
 ia:{ a with defers:=[{ target:=.collected w.heap.size,args:=#[] }]++a.defers }=a1
 lq:Ext A g0 w gs w1
 US:∀ k,gs.al k->k < B
 yI:bR gs w1 n ⟨α.tm,S.nx::α.df⟩ a1
 hb:w1.heap.size=b
 HG:w2.heap.size=b+1
 hold:∀ c,c < b->w2.heap[c]?=w1.heap[c]?
 yJ:(Instr.enterLoop fn a.tmps ps assign body none).run P w=.ok (b,[{ target:=.collected w.heap.size,args:=#[] }]) w2
 K5:A b
 lo:∀ c,A c->w0.heap.size<=c
 UT:St w0 A gi (aq [(0,.fo (LJ w0.heap.size A gs n a.tmps .ready none ps assign body f0 T))] 1) w2
 ob:gi.ob 0=b
 al:gi.al 0
 Yj:∀ c q,gs.fz c q->gi.fz c q
 OY:∀ c q,gi.fz c q->gs.fz c q\/A c
 aA:∀ c q,gs.fz c q->c < w1.heap.size
theorem OX.of {α:AA}{st0:List (Nat × AV)}{so0:List (Nat × Ob)}{A:Nat->Prop}{g0:Gh}{a:Act}{w:World}(hS:St w0 A g0 S w) (hA:bR g0 w n α a)
  (hC:Canon B N m ⟨α.tm,S.nx::α.df⟩ (S.new .df) st0 (S.nx::α.df) so0) (hB:S.nx+1<=B) (fn:FuncId):∃ gs gi w1 w2 b a1,OX P w0 n A g0 α S a w B fn ps assign body (eJ st0 []).tm (aq so0 N) gs gi w1 w2 b a1:=by
 obtain⟨lq,fJ⟩:=hS.new (.deferred (some [])) .df 0 (fun J=>by simp) (fun hL=>dw);obtain⟨gs,K7⟩:∃ gs,g0.new S.nx w.heap.size 0=gs:=⟨_,rfl⟩;obtain⟨w1,vO⟩:∃ w1,w.alloc (.deferred (some []))=w1:=⟨_,rfl⟩;rw[K7,vO] at lq fJ;have jm:gs.ob S.nx=w.heap.size:=by rw[<-K7];exact az _ _ _
 have aK:gs.al S.nx:=by rw[<-K7];exact .inr rfl
 have US:∀ k,gs.al k->k < B:=fun k hk=>by
  have:=fJ.al k hk;have:k < S.nx+1:=this;omega
 have yI:bR gs w1 n ⟨α.tm,S.nx::α.df⟩ { a with defers:=({ target:=.collected w.heap.size,args:=#[] }:Deferred)::a.defers }:=by
  have h:=hA.later lq.toLater;refine⟨h.size,h.tm,h.out,?_,fun k hk=>?_⟩
  ·show _=({ target:=.collected (gs.ob S.nx),args:=#[] }:Deferred)::_;rw[jm,<-h.df]
  ·rcases List.mem_cons.1 hk with rfl|hk
   ·exact aK
   ·exact h.rY k hk
 obtain⟨a1,ia⟩:∃ a1:Act,{ a with defers:=({ target:=.collected w.heap.size,args:=#[] }:Deferred)::a.defers }=a1:=⟨_,rfl⟩;rw[ia] at yI;have Yh:=Nat.le_of_ble_eq_true hC.bn;have uv:=hC.st fJ;have hAc:=hC.MF yI;obtain⟨gc,K8⟩:∃ gc,gs.fX B N (aJ m)=gc:=⟨_,rfl⟩;have K9:Ext A gs w1 gc w1:=by rw[<-K8];exact (Ext.refl A gs w1).fX Yh US
 rw[K8] at uv hAc;obtain⟨L,hLd⟩:∃ L:Loop,{ state:=.ready,pending:=none,fn,tmps:=a.tmps,params:=ps,assign,body,defers:=w.heap.size }=L:=⟨_,rfl⟩;obtain⟨w2,OZ⟩:∃ w2,w1.alloc (.loop L)=w2:=⟨_,rfl⟩;obtain⟨b,hb⟩:∃ b,w1.heap.size=b:=⟨_,rfl⟩;have HG:w2.heap.size=b+1:=by grind[size_alloc]
 have hold:∀ c,c < b->w2.heap[c]?=w1.heap[c]?:=fun c hc=>by grind[fW]
 have uw:w2.heap[b]?=some (.loop L):=by grind[dw]
 have yJ:(Instr.enterLoop fn a.tmps ps assign body none).run P w=.ok (b,[{ target:=.collected w.heap.size,args:=#[] }]) w2:=by
  rw[<-OZ,<-vO,<-hb,<-vO,<-hLd];simp only[Instr.enterLoop,newObj,Sem.run_bind,Sem.run,Result.andThen_ok,Sem.run_pure]
  rfl
 obtain⟨Yk,ux⟩:=uv.free.move (w':=w2) (A':=A) gc.fz (by omega) (fun c hc=>uv.up c (by omega)) uv.lo (fun c hc aA _=>⟨hc,hold c (by omega),fun _ h=>h⟩)
  (fun c q hq=>World.cell?_of_block (hold c (by rw[<-hb];exact uv.cK c q hq))) (fun _ _ h=>h) (fun c q hq=>by have:=uv.cK c q hq;omega)
 have ux:yF w0.heap.size A gc (aq so0 N) w2:=ux;have Yk:Later gc w1 gc w2:=Yk;have Yl:Below w0.heap.size w0 w2:=by
  refine⟨?_,?_,?_,by have:=uv.base.size;omega,fun k hk=>(hold k (by have:=uv.base.size;omega)).trans (uv.base.block k hk)⟩
  ·rw[<-OZ];exact uv.base.os
  ·rw[<-OZ];exact uv.base.tape
  ·rw[<-OZ];exact uv.base.output
 have K5:A b:=uv.up b (by omega);obtain⟨Bf,Yd⟩:∃ Bf:Nat->Prop,Bf=fun c=>c=b\/(∃ k o,(aq so0 N).get k=some o/\gc.al k/\c=gc.ob k)\/∃ k J,(aq so0 N).get k=some (.fo J)/\gc.al k/\gc.fo (gc.ob k) c:=⟨_,rfl⟩;have R0:∀ c,Bf c->A c/\c < w2.heap.size:=fun c hc=>by
  rw[Yd] at hc;rcases hc with rfl|hc
  ·grind
  ·exact ux.inA hc
 have agQ:Bf b:=by grind
 have hLJ:LJ w0.heap.size A gs n a.tmps .ready none ps assign body (eJ st0 []).tm (aq so0 N) b gc.fz Bf w2:=by
  obtain⟨v1,v2⟩:=ux.move (w':=w2) (A':=fun c=>(Bf c/\c ≠ b)\/w2.heap.size<=c) gc.fz (Nat.le_refl _) (fun c hc=>.inr hc) (fun c hc=>hc.elim (fun h=>ux.lo c (R0 c h.1).1) fun h=>ux.lo c (ux.up c h))
   (fun c hc aA h=>⟨.inl ⟨by grind,fun e=>by
    have:=uv.free.inA h;omega⟩,rfl,fun _ h=>h⟩) (fun _ _ _=>rfl) (fun _ _ h=>h) ux.cK
  refine⟨gc,L,v2,agQ,R0,⟨uw,by grind,by grind,by grind,by grind,by grind,by grind⟩,?_,fun c q hq=>.inl hq,fun c q _ hq=>hq,⟨K9.al,K9.ob,K9.cp,K9.fz⟩,fun c hc=>ux.up c hc⟩;have h:=hAc.later Yk;have h1:=h.size;have h2:=h.tm;rw[<-ia] at h1 h2;exact⟨h1,h2,h.out,rfl,fun k hk=>by grind⟩
 obtain⟨gi,HI⟩:∃ gi:Gh,gi=⟨fun _=>b,fun _=>0,fun k=>k=0,gc.fz,fun _=>Bf⟩:=⟨_,rfl⟩;obtain⟨J0,hJ0⟩:∃ J0,LJ w0.heap.size A gs n a.tmps .ready none ps assign body (eJ st0 []).tm (aq so0 N)=J0:=⟨_,rfl⟩;have UT:St w0 A gi (aq [(0,.fo J0)] 1) w2:=by
  have e1:∀ k,gi.ob k=b:=fun k=>by rw[HI]
  have e2:∀ k,gi.fo k=Bf:=fun k=>by rw[HI]
  have e3:gi.fz=gc.fz:=by grind
  have e4:∀ k,gi.al k->k=0:=fun k hk=>by rw[HI] at hk;exact hk
  refine⟨Yl,ux.up,ux.lo,fun k hk=>by rw[e4 k hk];exact Nat.one_pos,fun k o hk ha=>?_,fun i k o p hi hk _ _ _=>(oI hi).1.trans (oI hk).1.symm,fun c q hq=>ux.cK c q (by grind),fun c q hc=>by rw[e3];exact ux.oT c q hc,
   fun k J hk ha c hc=>R0 c (by grind),fun k J i o hk _ hi _ bU=>absurd ((oI hi).1.trans (oI hk).1.symm) bU,fun i k J J' hi hk _ _=>(oI hi).1.trans (oI hk).1.symm⟩
  obtain⟨rfl,rfl⟩:=oI hk;rw[e1];refine⟨K5,by omega,?_⟩;show J0 b gi.fz (gi.fo b) w2/\MA J0;rw[e2,e3,<-hJ0];exact⟨hLJ,LJ.ok⟩
 rw[<-hJ0] at UT;exact⟨gs,gi,w1,w2,b,a1,ia,lq,US,yI,hb,HG,hold,yJ,K5,ux.lo,UT,by rw[HI],by rw[HI],fun c q hq=>by rw[HI];exact K9.fz c q hq,fun c q hq=>by rw[HI] at hq;exact K9.h_ c q hq,fun c q hq=>fJ.cK c q hq⟩
theorem OX.out {α:AA}{st0:List (Nat × AV)}{so1:List (Nat × Ob)}{j:Option Code}{A:Nat->Prop}{g0:Gh}{a:Act}{w:World}{fn:FuncId}{T S1:ae}{gs gi O0:Gh}{w1 w2 w3:World}{b:Nat}{a1:Act}
  (h:OX P w0 n A g0 α S a w B fn ps assign body (eJ st0 []).tm T gs gi w1 w2 b a1) (RW:∀ c q,gs.fz c q->c < w1.heap.size)
  (R1:S1.get 0=some (.fo (LJ w0.heap.size A gs n a.tmps (mB j) j ps assign body (eJ st0 []).tm (aq so1 N)))) (tf:St w0 A O0 S1 w3) (rZ:Ext A gi w2 O0 w3) :
  ∃ w4,(Instr.endLoop b).run P w3=.ok j w4/\∀ ex,nv w0 n A g0 w ex (eJ st0 (S.nx::α.df)) (aq so1 N) ex a1 w4:=by
 have MJ:=h.al;have jo:O0.ob 0=b:=(rZ.ob 0 MJ).trans h.ob;obtain⟨_,Ex,⟨gb,L3,p1,p2,p3,⟨q1,q2,q3,q4,q5,q6,q7⟩,p5,p6,p7,p8,p9⟩,_⟩:=tf.bT 0 _ R1 (rZ.al 0 MJ);rw[jo] at p1 p2 p3 q1 p6 p7 Ex;obtain⟨B3,hB3⟩:∃ B3,O0.fo b=B3:=⟨_,rfl⟩;rw[hB3] at p1 p2 p3 p6 p7;obtain⟨w4,HJ⟩:∃ w4,World.rec w3 b { L3 with state:=.exhausted }=w4:=⟨_,rfl⟩;have agR:w4.heap.size=w3.heap.size:=by grind[jy]
 have rH:(Instr.endLoop b).run P w3=.ok j w4:=by
  have:(L3.state == .busy)=false:=by rw[q2];cases j<;>rfl
  rw[<-HJ];simp only[Instr.endLoop,Sem.run_bind,run_getLoop q1,Result.andThen_ok,this,Bool.false_eq_true,if_false,wL q1,Sem.run_pure,q3]
 obtain⟨z1,z2⟩:=p1.move (w':=w4) (A':=A) gb.fz (by omega) (fun c hc=>p9 c (by omega)) h.lo (fun c hc aA h=>by grind[jn]) (fun c q _=>by grind[B0]) (fun _ _ h=>h) (fun c q hq=>by rw[agR];exact p1.cK c q hq);have z2:yF w0.heap.size A gb (aq so1 N) w4:=z2;have OV:w0.heap.size<=b:=h.lo b h.K5;have Ym:Below w0.heap.size w0 w4:=by
  refine⟨?_,?_,?_,by grind,fun k hk=>?_⟩
  ·rw[<-HJ];exact tf.base.os
  ·rw[<-HJ];exact tf.base.tape
  ·rw[<-HJ];exact tf.base.output
  ·rw[<-HJ];exact (jn (by omega)).trans (tf.base.block k hk)
 have R2:Ext A g0 w gb w4:=by
  refine h.lq.trans ⟨⟨p8.al,p8.ob,p8.cp,p8.fz,fun c q hq=>?_⟩,by have:=rZ.size;have:=h.HG;have:=h.hb;omega,fun c hc UU=>?_,fun c q hq=>?_⟩
  ·rw[<-HJ,B0 q1,rZ.cell c q (h.Yj c q hq)];exact World.cell?_of_block (h.hold c (by rw[<-h.hb];exact RW c q hq))
  ·have:=h.HG;have:=h.hb;rw[<-HJ,jn (fun e=>UU (by grind)),rZ.aU c (by omega) UU,h.hold c (by omega)]
  ·rcases p6 c q hq with h1|h1
   ·rcases rZ.h_ c q h1 with h2|h2
    ·exact h.OY c q h2
    ·grind
   ·grind
 have hAf:bR gb w4 n (eJ st0 (S.nx::α.df)) a1:=by
  have h':=p5.later (z1:Later gb w3 gb w4);have e1:a1.tmps=a.tmps:=by rw[<-h.ia]
  refine⟨by rw[e1];exact h'.size,fun t ht=>by rw[e1];exact h'.tm t ht,h'.out,?_,fun k hk=>?_⟩
  ·show a1.defers=(DE.ob S.nx::α.df).map _;rw[h.yI.df];exact List.map_congr_left fun k hk=>(yC (p8.ob _ (h.yI.rY k hk))).symm
  ·exact p8.al _ (h.yI.rY k hk)
 exact⟨w4,rH,fun ex=>⟨rfl,gb,z2.st Ym,hAf,R2⟩⟩
theorem cC.range {α:AA}{g:Operand}{gid:FuncId}{first cap:List AV}{st0:List (Nat × AV)}{so0 so1:List (Nat × Ob)}{j:Option Code}
  (hf:α.ev g=.fn (.func gid) first cap) (Yn:∀ a ∈ first,Pure a) (Yo:∀ a ∈ cap,Pure a)
  (hC:Canon B N m ⟨α.tm,S.nx::α.df⟩ (S.new .df) st0 (S.nx::α.df) so0) (hB:S.nx+1<=B) (hj:vL ex=some j)
  (hI:∀ (A:Nat->Prop) (gs:Gh) (T0:Array Value),(∀ k,gs.al k->k < B)->∃ r S1,aC P w0 gid (first++[.yl 0]++cap) (aq [(0,.fo (LJ w0.heap.size A gs n T0 .ready none ps assign body (eJ st0 []).tm (aq so0 N)))] 1) r S1 /\
   S1.get 0=some (.fo (LJ w0.heap.size A gs n T0 (mB j) j ps assign body (eJ st0 []).tm (aq so1 N)))) :
  cC P w0 false n (.rangeFunc g ps assign body) α S ex (eJ st0 (S.nx::α.df)) (aq so1 N):=by
 intro F mm A g0 a w hF hR hS hA;have kO:F.round=none:=by
  cases h:F.round with
  |none=>rfl
  |some l=>rw[h] at hR;cases hR
 refine wpIn_rangeFunc fun fn CW=>?_;obtain⟨gs,gi,w1,w2,b,a1,h⟩:=OX.of (P:=P) (ps:=ps) (assign:=assign) (body:=body) hS hA hC hB fn;obtain⟨r,S1,bH,R1⟩:=hI A gs a.tmps h.US;have Yp:=hA.ev g;rw[hf] at Yp;obtain⟨cs,ds,hev,Bg,Yq⟩:=vN Yp;have toI:∀ {l:List AV}{xs:Array Value},(∀ a ∈ l,Pure a)->jc g0 w l xs->jc gi w2 l xs:=fun hp h1=>⟨h1.1,fun i a x ha hx=>aF.pure (g:=g0) (fun c q hq=>h.Yj c q (h.lq.fz c q hq)) (fun c q hq=>by
   have aA:=hS.cK c q hq;have:=h.lq.size;rw[<-h.lq.cell c q hq];exact World.cell?_of_block (h.hold c (by rw[<-h.hb];omega))) (h1.2 i a x ha hx) (hp a (List.mem_of_getElem? ha))⟩
 obtain⟨ya,hya⟩:∃ ya:Array Value,ya=#[.func (.yield b) #[] #[]]:=⟨_,rfl⟩;have ab7:jc gi w2 (first++[.yl 0]++cap) (cs++ya++ds):=by
  refine il (il (toI Yn Bg) ⟨by grind,fun i a x ha hx=>?_⟩) (toI Yo Yq)
  match i with
  |0 =>
   rw[hya] at hx;simp at ha hx;subst ha hx;have:=aF.yl (g:=gi) (w:=w2) (k:=0) h.al;rw[h.ob] at this;exact this
  |i+1=>simp at ha
 have jd:(resolve a.eval (rangeCall g b) 0).run P w2=.ok { target:=.fn (.func gid) ds,args:=cs++ya } w2:=by
  rw[hya];have e1:(rangeCall g b).args.map a.eval=#[.func (.yield b) #[] #[]]:=by simp[rangeCall,Act.eval]
  simp only[resolve,e1,hev,Deferred.ofValue]
  rfl
 refine⟨b,_,w2,_,w2,gid,cs++ya++ds,w2,by rw[kO];exact h.yJ,jd,fun f' _=>hF.1 f',bH.1 _ w2,fun hd=>(by rw[hF.2.1] at hd;cases hd),(bH.2 F (mm - 1) A gi _ w2 hF h.UT ab7).mono ?_⟩;rintro e w3 ⟨v,O0,rfl,hr3,tf,rZ⟩;obtain⟨w4,rH,CX⟩:=h.out (j:=j) h.aA R1 tf rZ;rw[h.ia];refine⟨j,w4,rH,?_⟩;have CX:=CX ex;cases ex with
 |normal=>obtain rfl:=oJ_ hj;exact CX
 |ret=>obtain rfl:=oJ_ hj;exact wpIn_ret CX
 |exit id=>obtain rfl:=oJ_ hj;exact wpIn_exit CX
 |_=>cases hj
end
end Go.Proofs.YtbpabjmnhggajaaGreat
