import Derived.Test.YtbofilglphfceaaGreatD7
namespace Go.Proofs.YtbofilglphfceaaGreat
set_option linter.unusedVariables false
set_option linter.unusedSimpArgs false
open Go.RowKit
section
variable {P:Program}{w0:World}{rd:Bool}{n:Nat}{α:AA}{S S':U}{r:AV}
def iH (args:List AV) (t:Nat):AV:=(args[t]?).getD .u
theorem B6 {g:Gh}{w:World}{args:List AV}{bz:Array Value}(h:ia g w args bz) (hn:args.length<=n):aX g w n ⟨iH args,[]⟩ { tmps:=bz++Array.replicate (n - bz.size) undef,defers:=[] }:=by
 refine⟨by simp [h.1];omega,fun t ht=>?_,fun t ht=>?_,rfl,fun k hk=>by cases hk⟩
 ·show ao g w (iH args t) _
  unfold iH
  by_cases c:t < args.length
  ·have h1:=List.getElem?_eq_getElem c
   have c':t < bz.size:=by rw [h.1];exact c
   rw [h1,Array.getD_eq_getD_getElem?,Array.getElem?_append_left c',Array.getElem?_eq_getElem c']
   exact h.2 t _ _ h1 (Array.getElem?_eq_getElem c')
  ·rw [List.getElem?_eq_none (by omega)]
   exact .u
 ·show iH args t=.u
  unfold iH
  rw [List.getElem?_eq_none (by omega)]
  rfl
theorem St.take {A:Nat->Prop}{g:Gh}{w:World}{k:Nat}(hS:St w0 A g S w) (hk:S.get k=some .df) (ha:g.al k) :
  ∃ w',(Instr.takeDeferred (g.ob k)).run P w=.ok [] w'/\Ext A g w g w'/\St w0 A g (S.set k none) w':=by
 obtain⟨k2,k3,k4⟩:=hS.bE k _ hk ha
 have k4:w.heap[g.ob k]?=some (.deferred (some [])):=k4
 obtain⟨w',jI⟩:∃ w':World,w'={ w with heap:=w.heap.setIfInBounds (g.ob k) (.deferred none) }:=⟨_,rfl⟩
 have bm:(Instr.takeDeferred (g.ob k)).run P w=.ok [] w':=by
  rw [jI]
  simp [Instr.takeDeferred,getObj,setObj,Sem.run,k4]
 have a7:w'.heap.size=w.heap.size:=by rw [jI];simp
 have nQ:∀ b,b ≠ g.ob k->w'.heap[b]?=w.heap[b]?:=by
  intro b hb
  rw [jI]
  simp only [Array.getElem?_setIfInBounds]
  rw [if_neg (Ne.symm hb)]
 have gZ:∀ b q,w'.cell? ⟨b,q,none⟩=w.cell? ⟨b,q,none⟩:=by
  intro b q
  by_cases e:b=g.ob k
  ·subst e
   have h1:w'.heap[g.ob k]?=some (.deferred none):=by
    rw [jI]
    simp [Array.getElem?_setIfInBounds,k3]
   simp [World.cell?,h1,k4]
  ·exact World.cell?_of_block (nQ b e)
 have hL:Later g w g w':=⟨fun _ h=>h,fun _ _=>rfl,fun _ _=>rfl,fun _ _ h=>h,fun b q _=>gZ b q⟩
 have hE:Ext A g w g w':={ hL with size:=by rw [a7];exact Nat.le_refl _,bR:=fun b hb hA=>nQ b (fun e=>hA (by rw [e];exact k2)),eu:=fun _ _ h=>.inl h }
 have key:∀ j p,(S.set k none).get j=some p->j ≠ k/\S.get j=some p:=by
  intro j p hj
  have hj:a6 S.get k none j=some p:=hj
  by_cases e:j=k
  ·subst e;rw [ah] at hj;cases hj
  ·rw [aw _ _ e] at hj;exact⟨e,hj⟩
 refine⟨w',bm,hE,hS.next hE (by rw [jI]) (by rw [jI]) (by rw [jI]) hS.al (fun j p hj aj=>?_) (fun i j p q hi hj ai aj e=>hS.inj i j p q (key i p hi).2 (key j q hj).2 ai aj e) (fun b q hf=>by rw [a7];exact hS.bM b q hf) rfl (fun j J hj aj=>⟨(key j _ hj).2,aj⟩) (fun j p hj aj=>.inr ⟨j,p,aj,(key j p hj).2,rfl,.inl rfl⟩)⟩
 obtain⟨aM,hj⟩:=key j p hj
 obtain⟨h2,h3,h4⟩:=hS.bE j p hj aj
 exact⟨h2,by rw [a7];exact h3,h4.later hL (nQ _ (fun e=>aM (hS.inj j k p _ hj hk aj ha e))) (fun _ h=>h) fun J hJ=>⟨rfl,by rw [a7];exact Nat.le_refl _,fun c hc=>nQ c fun e=>hS.fW j J k _ (by rw [<-hJ];exact hj) aj hk ha (fun e'=>aM e'.symm) (by rw [<-e];exact hc),fun _ _ _ h=>h⟩⟩
theorem uk {F:Fence}{m:Nat}{A:Nat->Prop}{fn:Func}{tmps:Array Value}{R:Ending->World->Prop}:∀ (ks:List Nat) {S:U}{g:Gh}{w:World},St w0 A g S w->oz S ks=true->(∀ k ∈ ks,g.al k) ->
  (∀ w',St w0 A g (eK S ks) w'->Ext A g w g w'->∃ v,(results fn tmps).run P w'=.ok v w'/\R (.returned v) w')->LeavesInM F m P fn tmps R (ks.map fun k=>({ target:=.collected (g.ob k),args:=#[] }:Deferred)) .returning w
 |[],S,g,w,hS,_,_,h=>h w hS (Ext.refl ..)
 |k::ks,S,g,w,hS,hd,ha,h=>by
  simp only [oz] at hd
  split at hd
  ·rename_i hk
   obtain⟨w',h1,h2,h3⟩:=hS.take (P:=P) hk (ha k (by simp))
   exact⟨by simp,.inl ⟨g.ob k,w',rfl,h1,uk ks h3 hd (fun j hj=>ha j (by simp [hj])) fun mG h4 h5=>h mG h4 (h2.trans h5)⟩⟩
  ·cases hd
theorem aR.of_wp {f:FuncId}{fn:Func}{c:Code}{args:List AV}{R:AV->U->Prop}(hf:P.funcs[f]?=some fn) (hb:fn.body=some c) (hc:∀ (xs:Array Value) (w:World),(callFunc f xs).run P w=.ok (.enter f xs) w)
  (hn:fn.ntmps=n) (aH:args.length<=n) (h:∃ ex af S',bA P w0 false n c ⟨iH args,[]⟩ S ex af S'/\uO P fn.results R ex af S'):∃ r S',aR P w0 f args S r S'/\R r S':=by
 obtain⟨ex,af,S1,R5,gQ⟩:=h
 have DR:oz S1 af.df=true/\∃ r,qA P fn.results af (eK S1 af.df)=some r/\R r (eK S1 af.df)/\(ex=.normal\/ex=.ret):=by
  unfold uO at gQ
  split at gQ
  ·split at gQ
   ·rename_i h1 h2;exact⟨h1,_,h2,gQ,.inl rfl⟩
   ·exact gQ.elim
  ·split at gQ
   ·rename_i h1 h2;exact⟨h1,_,h2,gQ,.inr rfl⟩
   ·exact gQ.elim
  ·exact gQ.elim
 obtain⟨T1,r,hr,hR,hex⟩:=DR
 refine⟨r,eK S1 af.df,⟨hc,fun F m A g bz w hF hS hA=>?_⟩,hR⟩
 have key:CallsIn F.plain m P f bz w fun e w'=>∃ v g',e=.returned v/\ao g' w' r v/\St w0 A g' (eK S1 af.df) w'/\Ext A g w g' w':=by
  refine callsIn_of_wp_marks hf hb (hF.1 f) ?_ rfl
  rw [hn]
  refine wpIn_mono (R5 F.plain m A g _ w hF.plain rfl hS (B6 hA aH)) ?_
  rintro ex' a' w' ⟨rfl,g',h1,h2,h3⟩
  have hl:LeavesInM F.plain m P fn a'.tmps (fun e w'=>∃ v g',e=.returned v/\ao g' w' r v/\St w0 A g' (eK S1 af.df) w'/\Ext A g w g' w') a'.defers .returning w':=by
   rw [h2.df]
   refine uk af.df h1 T1 h2.nU fun mG h4 h5=>?_
   obtain⟨v,h6,h7⟩:=B5 h4 (h2.later h5.toLater) hr
   exact⟨v,h6,v,g',rfl,h7,h4,h3.trans h5⟩
  rcases hex with rfl|rfl
  ·exact hl
  ·exact hl
 exact key
inductive bG (S:U):AV->AV->Prop where
 |refl (a:AV):bG S a a
 |agg {l l':List AV}(hl:l.length=l'.length) (h:∀ (i:Nat) (a a':AV),l[i]?=some a->l'[i]?=some a'->bG S a a'):bG S (.agg l) (.agg l')
 |aL {l l':List AV}(hl:l.length=l'.length) (h:∀ (i:Nat) (a a':AV),l[i]?=some a->l'[i]?=some a'->bG S a a'):bG S (.aL l) (.aL l')
 |ob {k sz off len:Nat}{cx:Option Nat}{rows bF:List (List AV)}{fz:Nat}{ex:Bool}(hk:S.get k=some (.arr sz rows fz ex)) (hlen:off+len<=rows.length) (hl:bF.length=len)
   (h1:∀ (i:Nat) (row aG:List AV),rows[off+i]?=some row->bF[i]?=some aG->row.length=aG.length)
   (h:∀ (i j:Nat) (row aG:List AV) (a a':AV),rows[off+i]?=some row->bF[i]?=some aG->row[j]?=some a->aG[j]?=some a'->bG S a a'):bG S (.ob k sz off len cx) (.sl false bF)
 |pt {k sz i j:Nat}{rows:List (List AV)}{row aG:List AV}{fz:Nat}{ex:Bool}(hk:S.get k=some (.arr sz rows fz ex)) (hi:rows[i]?=some row) (hl:aG.length+j<=row.length)
   (h:∀ (q:Nat) (a a':AV),row[j+q]?=some a->aG[q]?=some a'->bG S a a'):bG S (.pt k sz i j) (.ip aG)
 |fn {f:Fn}{l l' m m':List AV}(hl:l.length=l'.length) (hm:m.length=m'.length) (h1:∀ (i:Nat) (a a':AV),l[i]?=some a->l'[i]?=some a'->bG S a a') (h2:∀ (i:Nat) (a a':AV),m[i]?=some a->m'[i]?=some a'->bG S a a'):bG S (.fn f l m) (.fn f l' m')
 |sl {ex:Bool}{rows bF:List (List AV)}(hl:rows.length=bF.length) (h1:∀ (i:Nat) (row aG:List AV),rows[i]?=some row->bF[i]?=some aG->row.length=aG.length)
   (h:∀ (i j:Nat) (row aG:List AV) (a a':AV),rows[i]?=some row->bF[i]?=some aG->row[j]?=some a->aG[j]?=some a'->bG S a a'):bG S (.sl ex rows) (.sl false bF)
 |ip {cs cs':List AV}(hl:cs'.length<=cs.length) (h:∀ (j:Nat) (a a':AV),cs[j]?=some a->cs'[j]?=some a'->bG S a a'):bG S (.ip cs) (.ip cs')
 |gr {k sz len:Nat}{rows bF:List (List AV)}{fz:Nat}{ex:Bool}(hk:S.get k=some (.arr sz rows fz ex)) (hlen:len<=rows.length) (hl:bF.length=len)
   (h1:∀ (i:Nat) (row aG:List AV),rows[i]?=some row->bF[i]?=some aG->row.length=aG.length)
   (h:∀ (i j:Nat) (row aG:List AV) (a a':AV),rows[i]?=some row->bF[i]?=some aG->row[j]?=some a->aG[j]?=some a'->bG S a a'):bG S (.gr k sz len) (.sl false bF)
theorem oI {g:Gh}{w:World}{k sz m:Nat}{v:Value}(h:ao g w (.gr k sz m) v):(m=0/\∃ A,v=.slice A 0 0)\/(g.al k/\∃ c,v=.slice (some ⟨g.ob k,0,none⟩) m c/\c=g.cp k/\m<=c):=by
 cases h with
 |im=>exact .inl ⟨rfl,_,rfl⟩
 |gr hk hx hle=>exact .inr ⟨hk,_,rfl,hx,hle⟩
def Gh.still (g:Gh) (S:U):Gh:=⟨g.ob,g.cp,g.al,fun b q=>g.fz b q\/∃ k sz rows fz ex,S.get k=some (.arr sz rows fz ex)/\g.al k/\b=g.ob k/\q < rows.length*sz,g.fo⟩
theorem bG.rep {A:Nat->Prop}{g:Gh}{w:World}(hS:St w0 A g S w) {a a':AV}(hf:bG S a a'):∀ {v:Value},ao g w a v->ao (g.still S) w a' v:=by
 have hL:Later g w (g.still S) w:=⟨fun _ h=>h,fun _ _=>rfl,fun _ _=>rfl,fun _ _ h=>.inl h,fun _ _ _=>rfl⟩
 induction hf with
 |refl a=>exact fun h=>h.later hL
 |@agg l l' hl h ih =>
  intro v hr
  obtain⟨cs,rfl,h1,h2⟩:=sY hr
  refine .agg (h1.trans hl) (fun i a' x bU hx=>?_)
  have hi:i < l.length:=by rw [hl];exact (List.getElem?_eq_some_iff.1 bU).1
  exact ih i _ a' (List.getElem?_eq_getElem hi) bU (h2 i _ x (List.getElem?_eq_getElem hi) hx)
 |@aL l l' hl h ih =>
  intro v hr
  cases hr with
  |aL h1 h2 =>
   refine .aL (h1.trans hl) (fun i a' x bU hx=>?_)
   have hi:i < l.length:=by rw [hl];exact (List.getElem?_eq_some_iff.1 bU).1
   exact ih i _ a' (List.getElem?_eq_getElem hi) bU (h2 i _ x (List.getElem?_eq_getElem hi) hx)
 |@ob k sz off len cx rows bF fz ex hk hlen hl h1 h ih =>
  intro v hr
  obtain⟨c,rfl,aY,_,_,_,hle⟩:=dx hr
  obtain⟨k2,k3,cs,ty,p1,p2,p3,p4,p5,p6,p7⟩:=hS.bE k _ hk aY
  subst hl
  have dW:∀ (i:Nat) (aG:List AV),bF[i]?=some aG->∃ row,rows[off+i]?=some row/\row.length=sz/\aG.length=sz:=by
   intro i aG hi
   have au:off+i < rows.length:=by have:=(List.getElem?_eq_some_iff.1 hi).1;omega
   have e:=List.getElem?_eq_getElem au
   have e2:=(p5 _ _ e).1
   exact⟨_,e,e2,by rw [<-h1 i _ aG e hi];exact e2⟩
  by_cases hn:bF=[]
  ·subst hn
   exact .nil (fun h=>by cases h)
  ·refine .sl (sz:=sz) (val:=fun i j=>cs.getD ((off+i)*sz+j) undef) hn (fun h=>by cases h) hle (fun i aG hi=>(dW i aG hi).choose_spec.2.2) (fun i j aG a' hi hj=>?_) (fun i j aG a' hi hj=>?_)
   ·obtain⟨row,e1,e2,e3⟩:=dW i aG hi
    have qq:j < sz:=by rw [<-e3];exact (List.getElem?_eq_some_iff.1 hj).1
    have dQ:=List.getElem?_eq_getElem (show j < row.length by omega)
    obtain⟨x,hx,dC⟩:=(p5 _ _ e1).2 j _ dQ
    have e4:off*sz+(i*sz+j)=(off+i)*sz+j:=by rw [Nat.add_mul];omega
    refine⟨.inr ⟨k,sz,rows,fz,ex,hk,aY,rfl,?_⟩,?_⟩
    ·rw [e4];exact fD (List.getElem?_eq_some_iff.1 e1).1 qq
    ·rw [cell_of_row _ _ _ cs ty (0,0) p1,e4,hx]
     simp [Array.getD_eq_getD_getElem?,hx]
   ·obtain⟨row,e1,e2,e3⟩:=dW i aG hi
    have qq:j < sz:=by rw [<-e3];exact (List.getElem?_eq_some_iff.1 hj).1
    have dQ:=List.getElem?_eq_getElem (show j < row.length by omega)
    obtain⟨x,hx,dC⟩:=(p5 _ _ e1).2 j _ dQ
    simp only [Array.getD_eq_getD_getElem?,hx,Option.getD_some]
    exact ih i j row aG _ a' e1 hi dQ hj dC
 |@gr k sz len rows bF fz ex hk hlen hl h1 h ih =>
  intro v hr
  subst hl
  rcases oI hr with ⟨h0,A',rfl⟩|⟨aY,c,rfl,_,hle⟩
  ·have:bF=[]:=List.length_eq_zero_iff.1 h0
   subst this
   exact .nil (fun h=>by cases h)
  ·obtain⟨k2,k3,cs,ty,p1,p2,p3,p4,p5,p6,p7⟩:=hS.bE k _ hk aY
   have dW:∀ (i:Nat) (aG:List AV),bF[i]?=some aG->∃ row,rows[i]?=some row/\row.length=sz/\aG.length=sz:=by
    intro i aG hi
    have au:i < rows.length:=by have:=(List.getElem?_eq_some_iff.1 hi).1;omega
    have e:=List.getElem?_eq_getElem au
    have e2:=(p5 _ _ e).1
    exact⟨_,e,e2,by rw [<-h1 i _ aG e hi];exact e2⟩
   by_cases hn:bF=[]
   ·subst hn
    exact .nil (fun h=>by cases h)
   ·refine .sl (sz:=sz) (val:=fun i j=>cs.getD (i*sz+j) undef) hn (fun h=>by cases h) hle (fun i aG hi=>(dW i aG hi).choose_spec.2.2) (fun i j aG a' hi hj=>?_) (fun i j aG a' hi hj=>?_)
    ·obtain⟨row,e1,e2,e3⟩:=dW i aG hi
     have qq:j < sz:=by rw [<-e3];exact (List.getElem?_eq_some_iff.1 hj).1
     have dQ:=List.getElem?_eq_getElem (show j < row.length by omega)
     obtain⟨x,hx,dC⟩:=(p5 _ _ e1).2 j _ dQ
     refine⟨.inr ⟨k,sz,rows,fz,ex,hk,aY,rfl,?_⟩,?_⟩
     ·rw [Nat.zero_add];exact fD (List.getElem?_eq_some_iff.1 e1).1 qq
     ·rw [Nat.zero_add,cell_of_row w (g.ob k) _ cs ty (0,0) p1,hx]
      simp [Array.getD_eq_getD_getElem?,hx]
    ·obtain⟨row,e1,e2,e3⟩:=dW i aG hi
     have qq:j < sz:=by rw [<-e3];exact (List.getElem?_eq_some_iff.1 hj).1
     have dQ:=List.getElem?_eq_getElem (show j < row.length by omega)
     obtain⟨x,hx,dC⟩:=(p5 _ _ e1).2 j _ dQ
     simp only [Array.getD_eq_getD_getElem?,hx,Option.getD_some]
     exact ih i j row aG _ a' e1 hi dQ hj dC
 |@pt k sz i j rows row aG fz ex hk hi hl h ih =>
  intro v hr
  cases hr with
  |pt aY =>
   obtain⟨k2,k3,cs,ty,p1,p2,p3,p4,p5,p6,p7⟩:=hS.bE k _ hk aY
   obtain⟨q1,q2⟩:=p5 i row hi
   have pU:∀ (q:Nat) (a':AV),aG[q]?=some a'->∃ x,cs[i*sz+(j+q)]?=some x/\ao (g.still S) w a' x:=by
    intro q a' bU
    have hq:=(List.getElem?_eq_some_iff.1 bU).1
    have e1:row[j+q]?=some (row[j+q]'(by omega)):=List.getElem?_eq_getElem (by omega)
    obtain⟨x,hx,dC⟩:=q2 _ _ e1
    exact⟨x,hx,ih q _ a' e1 bU dC⟩
   have au:i < rows.length:=(List.getElem?_eq_some_iff.1 hi).1
   refine .ip (val:=fun q=>cs.getD (i*sz+(j+q)) undef) (fun q a' bU=>?_) (fun q a' bU=>?_)
   ·obtain⟨x,hx,_⟩:=pU q a' bU
    have hq:=(List.getElem?_eq_some_iff.1 bU).1
    refine⟨.inr ⟨k,sz,rows,fz,ex,hk,aY,rfl,?_⟩,?_⟩
    ·rw [Nat.add_assoc];exact fD au (by omega)
    ·rw [cell_of_row _ _ _ cs ty (0,0) p1,Nat.add_assoc,hx]
     simp [Array.getD_eq_getD_getElem?,hx]
   ·obtain⟨x,hx,dC⟩:=pU q a' bU
    simp only [Array.getD_eq_getD_getElem?,hx,Option.getD_some]
    exact dC
 |@fn f l l' m m' hl hm h1 h2 Iy Iz =>
  intro v hr
  cases hr with
  |fn p1 p2 p3 p4 =>
   refine .fn (p1.trans hl) (p2.trans hm) (fun i a' x bU hx=>?_) (fun i a' x bU hx=>?_)
   ·have hi:i < l.length:=by rw [hl];exact (List.getElem?_eq_some_iff.1 bU).1
    exact Iy i _ a' (List.getElem?_eq_getElem hi) bU (p3 i _ x (List.getElem?_eq_getElem hi) hx)
   ·have hi:i < m.length:=by rw [hm];exact (List.getElem?_eq_some_iff.1 bU).1
    exact Iz i _ a' (List.getElem?_eq_getElem hi) bU (p4 i _ x (List.getElem?_eq_getElem hi) hx)
 |@sl ex rows bF hl h1 h ih =>
  intro v hr
  cases hr with
  |nil hc =>
   have:bF=[]:=List.length_eq_zero_iff.1 (by rw [<-hl];rfl)
   subst this
   exact .nil (fun h=>by cases h)
  |@sl _ _ b o sz c val hn hc hle T4 p pr =>
   have dW:∀ (i:Nat) (aG:List AV),bF[i]?=some aG->∃ row,rows[i]?=some row/\row.length=sz/\row.length=aG.length:=by
    intro i aG hi
    have au:i < rows.length:=by rw [hl];exact (List.getElem?_eq_some_iff.1 hi).1
    have e:=List.getElem?_eq_getElem au
    exact⟨_,e,T4 i _ e,h1 i _ aG e hi⟩
   rw [hl]
   refine .sl (sz:=sz) (val:=val) (fun e=>hn (List.length_eq_zero_iff.1 (by rw [hl,e];rfl))) (fun h=>by cases h) (by rw [<-hl];exact hle) (fun i aG hi=>?_) (fun i j aG a' hi hj=>?_) (fun i j aG a' hi hj=>?_)
   ·obtain⟨row,e1,e2,e3⟩:=dW i aG hi
    omega
   ·obtain⟨row,e1,e2,e3⟩:=dW i aG hi
    have qq:j < row.length:=by rw [e3];exact (List.getElem?_eq_some_iff.1 hj).1
    obtain⟨q1,q2⟩:=p i j row _ e1 (List.getElem?_eq_getElem qq)
    exact⟨.inl q1,q2⟩
   ·obtain⟨row,e1,e2,e3⟩:=dW i aG hi
    have qq:j < row.length:=by rw [e3];exact (List.getElem?_eq_some_iff.1 hj).1
    exact ih i j row aG _ a' e1 hi (List.getElem?_eq_getElem qq) hj (pr i j row _ e1 (List.getElem?_eq_getElem qq))
 |@ip cs cs' hl h ih =>
  intro v hr
  cases hr with
  |@ip _ b o val p pr =>
   have dW:∀ (i:Nat) (a':AV),cs'[i]?=some a'->∃ a,cs[i]?=some a:=fun i a' hi=>⟨_,List.getElem?_eq_getElem (Nat.lt_of_lt_of_le (List.getElem?_eq_some_iff.1 hi).1 hl)⟩
   refine .ip (val:=val) (fun i a' hi=>?_) (fun i a' hi=>?_)
   ·obtain⟨a,ha⟩:=dW i a' hi
    exact⟨.inl (p i a ha).1,(p i a ha).2⟩
   ·obtain⟨a,ha⟩:=dW i a' hi
    exact ih i a a' ha hi (pr i a ha)
theorem ag.of_wp {f:FuncId}{fn:Func}{c:Code}{args:List AV}(hf:P.funcs[f]?=some fn) (hb:fn.body=some c) (hc:∀ (xs:Array Value) (w:World),(callFunc f xs).run P w=.ok (.enter f xs) w)
  (hn:fn.ntmps=n) (aH:args.length<=n) (hp:Pure r) (h:∃ ex af S',bA P w0 false n c ⟨iH args,[]⟩ U.none_ ex af S'/\uO P fn.results (fun r' S=>bG S r' r) ex af S'):ag P w0 f args r:=by
 obtain⟨r',S',h1,h2⟩:=aR.of_wp hf hb hc hn aH h
 refine⟨hp,U.none_,h1.1,fun F m A g bz w hF hS hA=>(h1.2 F m A g bz w hF hS hA).mono ?_⟩
 rintro e w' ⟨v,g',rfl,h3,h4,h5⟩
 have hk:∀ b q,(g'.still S').fz b q->g.fz b q\/A b:=by
  rintro b q (hq|⟨k,sz,rows,fz,ex,hk,aY,rfl,hq⟩)
  ·exact h5.eu b q hq
  ·exact .inr (h4.bE k _ hk aY).1
 have hr:=h2.rep h4 h3
 obtain⟨g2,Dv⟩:∃ g2:Gh,g2=⟨g.ob,g.cp,fun _=>False,(g'.still S').fz,g.fo⟩:=⟨_,rfl⟩
 have qZ:∀ k,¬ g.al k:=fun k hk=>absurd (hS.al k hk) (Nat.not_lt_zero k)
 have hL:Later g w g2 w':=by
  rw [Dv]
  exact⟨fun k hk=>qZ k hk,fun _ _=>rfl,fun _ _=>rfl,fun b q hq=>.inl (h5.fz b q hq),h5.cell⟩
 refine⟨v,g2,rfl,?_,?_,{ hL with size:=h5.size,bR:=h5.bR,eu:=by rw [Dv];exact hk }⟩
 ·rw [Dv]
  exact ao.pure (g:=g'.still S') (g':=⟨g.ob,g.cp,fun _=>False,(g'.still S').fz,g.fo⟩) (fun _ _ h=>h) (fun _ _ _=>rfl) hr hp
 ·have e0:∀ k o,¬ U.none_.get k=some o:=fun k o h=>by simp [U.none_] at h
  refine⟨h4.base,h4.up,h4.lo,fun k hk=>?_,fun k o hk=>absurd hk (e0 k o),fun j k o p hj=>absurd hj (e0 j o),?_,fun b q hb=>hL.fz b q (hS.j7 b q hb),fun k J hk=>absurd hk (e0 k _),fun k J j o hk=>absurd hk (e0 k _),fun j k J J' hj=>absurd hj (e0 j _)⟩
  ·rw [Dv] at hk
   exact hk.elim
  ·rw [Dv]
   rintro b q (hq|⟨k,sz,rows,fz,ex,hk,aY,rfl,hq⟩)
   ·exact h4.bM b q hq
   ·exact (h4.bE k _ hk aY).2.1
theorem St.inner {A:Nat->Prop}{g:Gh}{w:World}(hS:St w0 A g S w) (fz:Nat->Nat->Prop) (h1:∀ b q,g.fz b q->fz b q) (h2:∀ b q,fz b q->b < w.heap.size):St w0 (fun b=>w.heap.size<=b) ⟨g.ob,g.cp,fun _=>False,fz,g.fo⟩ U.none_ w :=
 have e0:∀ k o,¬ U.none_.get k=some o:=fun k o h=>by simp [U.none_] at h
 ⟨hS.base,fun b hb=>hb,fun b hb=>Nat.le_trans hS.base.size hb,fun k hk=>hk.elim,fun k o hk=>absurd hk (e0 k o),fun j k o p hj=>absurd hj (e0 j o),h2,fun b q hb=>h1 b q (hS.j7 b q hb),fun k J hk=>absurd hk (e0 k _),fun k J j o hk=>absurd hk (e0 k _),fun j k J J' hj=>absurd hj (e0 j _)⟩
theorem St.outer {A:Nat->Prop}{g g1:Gh}{w w':World}{fz:Nat->Nat->Prop}(hS:St w0 A g S w) (h1:∀ b q,g.fz b q->fz b q) (h2:∀ b q,fz b q->b < w.heap.size) (dF:St w0 (fun b=>w.heap.size<=b) g1 S' w') (hE:Ext (fun b=>w.heap.size<=b) ⟨g.ob,g.cp,fun _=>False,fz,g.fo⟩ w g1 w') :
  Ext A g w ⟨g.ob,g.cp,g.al,fun b q=>g.fz b q\/(w.heap.size<=b/\g1.fz b q),g.fo⟩ w'/\St w0 A ⟨g.ob,g.cp,g.al,fun b q=>g.fz b q\/(w.heap.size<=b/\g1.fz b q),g.fo⟩ S w':=by
 have hold:∀ b,b < w.heap.size->w'.heap[b]?=w.heap[b]?:=fun b hb=>hE.bR b hb (by omega)
 have hL:Later g w ⟨g.ob,g.cp,g.al,fun b q=>g.fz b q\/(w.heap.size<=b/\g1.fz b q),g.fo⟩ w':=⟨fun _ h=>h,fun _ _=>rfl,fun _ _=>rfl,fun _ _ h=>.inl h,fun b q hq=>World.cell?_of_block (hold b (hS.bM b q hq))⟩
 have vS:Ext A g w ⟨g.ob,g.cp,g.al,fun b q=>g.fz b q\/(w.heap.size<=b/\g1.fz b q),g.fo⟩ w':={ hL with size:=hE.size,bR:=fun b hb _=>hold b hb,eu:=fun b q hq=>hq.elim .inl fun h=>.inr (hS.up b h.1) }
 refine⟨vS,⟨dF.base,fun b hb=>hS.up b (Nat.le_trans hE.size hb),hS.lo,hS.al,fun k o hk ha=>?_,hS.inj,fun b q hq=>?_,fun b q hb=>.inl (hS.j7 b q hb),fun k J hk ha c hc=>⟨(hS.eM k J hk ha c hc).1,Nat.lt_of_lt_of_le (hS.eM k J hk ha c hc).2 hE.size⟩,hS.fW,hS.iQ⟩⟩
 ·obtain⟨k2,k3,k4⟩:=hS.bE k o hk ha
  exact⟨k2,Nat.lt_of_lt_of_le k3 hE.size,k4.later hL (hold _ k3) (fun q hq=>hq.elim id fun h=>absurd h.1 (by show ¬ w.heap.size<=g.ob k;omega)) fun J hJ=>⟨rfl,hE.size,fun c hc=>hold c (hS.eM k J (by rw [<-hJ];exact hk) ha c hc).2,fun c q hc hq=>hq.elim id fun h=>absurd h.1 (by have:=(hS.eM k J (by rw [<-hJ];exact hk) ha c hc).2;omega)⟩⟩
 ·rcases hq with hq|hq
  ·exact Nat.lt_of_lt_of_le (hS.bM b q hq) hE.size
  ·exact dF.bM b q hq.2
inductive mq:AV->Prop where
 |v {x:Value}:mq (.v x)
 |aL {l:List AV}(h:∀ a ∈ l,mq a):mq (.aL l)
 |agg {l:List AV}(h:∀ a ∈ l,mq a):mq (.agg l)
theorem ao.R6 {g g':Gh}{w w':World}{a:AV}(hs:mq a):∀ {x:Value},ao g w a x->ao g' w' a x:=by
 induction hs with
 |v=>intro x h;cases h;exact .v
 |aL hl ih=>intro x h;cases h with|aL h1 h2=>exact .aL h1 fun i a y ha hy=>ih _ (List.mem_of_getElem? ha) (h2 i a y ha hy)
 |agg hl ih=>intro x h;cases h with|agg h1 h2=>exact .agg h1 fun i a y ha hy=>ih _ (List.mem_of_getElem? ha) (h2 i a y ha hy)
theorem ag.tj {f:FuncId}{args:List AV}(h:ag P w0 f args r) (hp:∀ a ∈ args,Pure a) (S:U):aR P w0 f args S r S:=by
 obtain⟨PW,S1,h1,h2⟩:=h
 refine⟨h1,fun F m A g bz w hF hS hA=>(h2 F m _ _ bz w hF (hS.inner g.fz (fun _ _ h=>h) hS.bM) ⟨hA.1,fun i a x ha hx=>ao.pure (g:=g) (g':=⟨g.ob,g.cp,fun _=>False,g.fz,g.fo⟩) (fun _ _ h=>h) (fun _ _ _=>rfl) (hA.2 i a x ha hx) (hp a (List.mem_of_getElem? ha))⟩).mono ?_⟩
 rintro e w' ⟨v,g1,rfl,h3,h4,h5⟩
 obtain⟨hE,cz⟩:=hS.outer (fun _ _ h=>h) hS.bM h4 h5
 refine⟨v,_,rfl,?_,cz,hE⟩
 refine ao.pure (g:=g1) (fun b q hq=>?_) (fun _ _ _=>rfl) h3 PW
 rcases h5.eu b q hq with h|h
 ·exact .inl h
 ·exact .inr ⟨h,hq⟩
theorem ag.P1 {f:FuncId}{args ff:List AV}(h:ag P w0 f args r) (hp:∀ a ∈ args,Pure a) (hs:mq r) (S:U) (hl:ff.length=args.length) (hf:∀ (i:Nat) (a0 a:AV),ff[i]?=some a0->args[i]?=some a->bG S a0 a):aR P w0 f ff S r S:=by
 obtain⟨PW,S1,h1,h2⟩:=h
 refine⟨h1,fun F m A g bz w hF hS hA=>?_⟩
 have au:∀ b q,(g.still S).fz b q->b < w.heap.size:=by
  rintro b q (hq|⟨k,sz,rows,fz,ex,hk,aY,rfl,hq⟩)
  ·exact hS.bM b q hq
  ·exact (hS.bE k _ hk aY).2.1
 refine (h2 F m _ _ bz w hF (hS.inner (g.still S).fz (fun _ _ h=>.inl h) au) ⟨hA.1.trans hl,fun i a x ha hx=>?_⟩).mono ?_
 ·have hi:i < ff.length:=by rw [hl];exact (List.getElem?_eq_some_iff.1 ha).1
  have PX:=List.getElem?_eq_getElem hi
  exact ao.pure (g:=g.still S) (g':=⟨g.ob,g.cp,fun _=>False,(g.still S).fz,g.fo⟩) (fun _ _ h=>h) (fun _ _ _=>rfl) ((hf i _ a PX ha).rep hS (hA.2 i _ x PX hx)) (hp a (List.mem_of_getElem? ha))
 ·rintro e w' ⟨v,g1,rfl,h3,h4,h5⟩
  obtain⟨hE,cz⟩:=hS.outer (fun _ _ h=>.inl h) au h4 h5
  exact⟨v,_,rfl,h3.R6 hs,cz,hE⟩
end
end Go.Proofs.YtbofilglphfceaaGreat
