import Derived.Test.YtgjfgekaclobaaaGreatCm7
namespace Go.Proofs.YtgjfgekaclobaaaGreat
set_option linter.unusedVariables false
set_option linter.unusedSimpArgs false
open Go.RowKit
section
variable {P:Program}{w0:World}{rd:Bool}{n:Nat}{α:AA}{S S':aa}{r:AV}
def j7 (args:List AV) (t:Nat):AV:=(args[t]?).getD .u
theorem xR {g:Gh}{w:World}{args:List AV}{aV:Array Value}(h:jd g w args aV) (hn:args.length<=n):bf g w n ⟨j7 args,[]⟩ { tmps:=aV++Array.replicate (n - aV.size) undef,defers:=[] }:=by
 refine⟨by simp [h.1];omega,fun t ht=>?_,fun t ht=>?_,rfl,fun k hk=>by cases hk⟩
 ·show aA g w (j7 args t) _
  unfold j7
  by_cases c:t < args.length
  ·have h1:=List.getElem?_eq_getElem c
   have c':t < aV.size:=by rw [h.1];exact c
   rw [h1,Array.getD_eq_getD_getElem?,Array.getElem?_append_left c',Array.getElem?_eq_getElem c']
   exact h.2 t _ _ h1 (Array.getElem?_eq_getElem c')
  ·rw [List.getElem?_eq_none (by omega)]
   exact .u
 ·show j7 args t=.u
  unfold j7
  rw [List.getElem?_eq_none (by omega)]
  rfl
theorem St.take {A:Nat->Prop}{g:Gh}{w:World}{k:Nat}(hS:St w0 A g S w) (hk:S.get k=some .df) (ha:g.al k) :
  ∃ w',(Instr.takeDeferred (g.ob k)).run P w=.ok [] w'/\Ext A g w g w'/\St w0 A g (S.set k none) w':=by
 obtain⟨k2,k3,k4⟩:=hS.bj k _ hk ha
 have k4:w.heap[g.ob k]?=some (.deferred (some [])):=k4
 obtain⟨w',jK⟩:∃ w':World,w'={ w with heap:=w.heap.setIfInBounds (g.ob k) (.deferred none) }:=⟨_,rfl⟩
 have bw:(Instr.takeDeferred (g.ob k)).run P w=.ok [] w':=by
  rw [jK]
  simp [Instr.takeDeferred,getObj,setObj,Sem.run,k4]
 have aZ:w'.heap.size=w.heap.size:=by rw [jK];simp
 have sf:∀ b,b ≠ g.ob k->w'.heap[b]?=w.heap[b]?:=by
  intro b hb
  rw [jK]
  simp only [Array.getElem?_setIfInBounds]
  rw [if_neg (Ne.symm hb)]
 have je:∀ b q,w'.cell? ⟨b,q,none⟩=w.cell? ⟨b,q,none⟩:=by
  intro b q
  by_cases e:b=g.ob k
  ·subst e
   have h1:w'.heap[g.ob k]?=some (.deferred none):=by
    rw [jK]
    simp [Array.getElem?_setIfInBounds,k3]
   simp [World.cell?,h1,k4]
  ·exact World.cell?_of_block (sf b e)
 have hL:Later g w g w':=⟨fun _ h=>h,fun _ _=>rfl,fun _ _=>rfl,fun _ _ h=>h,fun b q _=>je b q⟩
 have hE:Ext A g w g w':={ hL with size:=by rw [aZ];exact Nat.le_refl _,cD:=fun b hb hA=>sf b (fun e=>hA (by rw [e];exact k2)),eW:=fun _ _ h=>.inl h }
 have key:∀ j p,(S.set k none).get j=some p->j ≠ k/\S.get j=some p:=by
  intro j p hj
  have hj:aX S.get k none j=some p:=hj
  by_cases e:j=k
  ·subst e;rw [ah] at hj;cases hj
  ·rw [aq _ _ e] at hj;exact⟨e,hj⟩
 refine⟨w',bw,hE,hS.next hE (by rw [jK]) (by rw [jK]) (by rw [jK]) hS.al (fun j p hj aj=>?_) (fun i j p q hi hj ai aj e=>hS.inj i j p q (key i p hi).2 (key j q hj).2 ai aj e) (fun b q hf=>by rw [aZ];exact hS.bM b q hf) rfl (fun j J hj aj=>⟨(key j _ hj).2,aj⟩) (fun j p hj aj=>.inr ⟨j,p,aj,(key j p hj).2,rfl,.inl rfl⟩)⟩
 obtain⟨aP,hj⟩:=key j p hj
 obtain⟨h2,h3,h4⟩:=hS.bj j p hj aj
 exact⟨h2,by rw [aZ];exact h3,h4.later hL (sf _ (fun e=>aP (hS.inj j k p _ hj hk aj ha e))) (fun _ h=>h) fun J hJ=>⟨rfl,by rw [aZ];exact Nat.le_refl _,fun c hc=>sf c fun e=>hS.iF j J k _ (by rw [<-hJ];exact hj) aj hk ha (fun e'=>aP e'.symm) (by rw [<-e];exact hc),fun _ _ _ h=>h⟩⟩
theorem AD {F:Fence}{m:Nat}{A:Nat->Prop}{fn:Func}{tmps:Array Value}{R:Ending->World->Prop}:∀ (ks:List DE) {S:aa}{g:Gh}{w:World},St w0 A g S w->sZ S ks=true->(∀ d ∈ ks,g.al d.k) ->
  (∀ w',St w0 A g (gH S ks) w'->Ext A g w g w'->∃ v,(results fn tmps).run P w'=.ok v w'/\R (.returned v) w')->LeavesInM F m P fn tmps R (ks.map (Bq g.ob)) .returning w
 |[],S,g,w,hS,_,_,h=>h w hS (Ext.refl ..)
 |.del _ _ _::ks,S,g,w,hS,hd,ha,h=>by cases hd
 |.ob k::ks,S,g,w,hS,hd,ha,h=>by
  simp only [sZ] at hd
  split at hd
  ·rename_i hk
   obtain⟨w',h1,h2,h3⟩:=hS.take (P:=P) hk (ha (.ob k) (by simp))
   exact⟨by simp,.inl ⟨g.ob k,w',rfl,h1,AD ks h3 hd (fun j hj=>ha j (by simp [hj])) fun iY h4 h5=>h iY h4 (h2.trans h5)⟩⟩
  ·cases hd
theorem aE.of_wp {f:FuncId}{fn:Func}{c:Code}{args:List AV}{R:AV->aa->Prop}(hf:P.funcs[f]?=some fn) (hb:fn.body=some c) (hc:∀ (xs:Array Value) (w:World),(callFunc f xs).run P w=.ok (.enter f xs) w)
  (hn:fn.ntmps=n) (aT:args.length<=n) (h:∃ ex ag S',bI P w0 false n c ⟨j7 args,[]⟩ S ex ag S'/\A8 P fn.results R ex ag S'):∃ r S',aE P w0 f args S r S'/\R r S':=by
 obtain⟨ex,ag,S1,yP,j9⟩:=h
 have KY:sZ S1 ag.df=true/\∃ r,rz P fn.results ag (gH S1 ag.df)=some r/\R r (gH S1 ag.df)/\(ex=.normal\/ex=.ret):=by
  unfold A8 at j9
  split at j9
  ·split at j9
   ·rename_i h1 h2;exact⟨h1,_,h2,j9,.inl rfl⟩
   ·exact j9.elim
  ·split at j9
   ·rename_i h1 h2;exact⟨h1,_,h2,j9,.inr rfl⟩
   ·exact j9.elim
  ·exact j9.elim
 obtain⟨hdf,r,hr,hR,hex⟩:=KY
 refine⟨r,gH S1 ag.df,⟨hc,fun F m A g aV w hF hS hA=>?_⟩,hR⟩
 have key:CallsIn F.plain m P f aV w fun e w'=>∃ v g',e=.returned v/\aA g' w' r v/\St w0 A g' (gH S1 ag.df) w'/\Ext A g w g' w':=by
  refine callsIn_of_wp_marks hf hb (hF.1 f) ?_ rfl
  rw [hn]
  refine wpIn_mono (yP F.plain m A g _ w hF.plain rfl hS (xR hA aT)) ?_
  rintro ex' a' w' ⟨rfl,g',h1,h2,h3⟩
  have hl:LeavesInM F.plain m P fn a'.tmps (fun e w'=>∃ v g',e=.returned v/\aA g' w' r v/\St w0 A g' (gH S1 ag.df) w'/\Ext A g w g' w') a'.defers .returning w':=by
   rw [h2.df]
   refine AD ag.df h1 hdf h2.oN fun iY h4 h5=>?_
   obtain⟨v,h6,h7⟩:=xS h4 (h2.later h5.toLater) hr
   exact⟨v,h6,v,g',rfl,h7,h4,h3.trans h5⟩
  rcases hex with rfl|rfl
  ·exact hl
  ·exact hl
 exact key
inductive bX (S:aa):AV->AV->Prop where
 |refl (a:AV):bX S a a
 |agg {l l':List AV}(hl:l.length=l'.length) (h:∀ (i:Nat) (a a':AV),l[i]?=some a->l'[i]?=some a'->bX S a a'):bX S (.agg l) (.agg l')
 |aC {l l':List AV}(hl:l.length=l'.length) (h:∀ (i:Nat) (a a':AV),l[i]?=some a->l'[i]?=some a'->bX S a a'):bX S (.aC l) (.aC l')
 |ob {k sz off len:Nat}{cx:Option Nat}{rows bV:List (List AV)}{fz:Nat}{ex:Bool}(hk:S.get k=some (.arr sz rows fz ex)) (hlen:off+len<=rows.length) (hl:bV.length=len)
   (h1:∀ (i:Nat) (row aM:List AV),rows[off+i]?=some row->bV[i]?=some aM->row.length=aM.length)
   (h:∀ (i j:Nat) (row aM:List AV) (a a':AV),rows[off+i]?=some row->bV[i]?=some aM->row[j]?=some a->aM[j]?=some a'->bX S a a'):bX S (.ob k sz off len cx) (.sl false bV)
 |pt {k sz i j:Nat}{rows:List (List AV)}{row aM:List AV}{fz:Nat}{ex:Bool}(hk:S.get k=some (.arr sz rows fz ex)) (hi:rows[i]?=some row) (hl:aM.length+j<=row.length)
   (h:∀ (q:Nat) (a a':AV),row[j+q]?=some a->aM[q]?=some a'->bX S a a'):bX S (.pt k sz i j) (.ip aM)
 |fn {f:Fn}{l l' m m':List AV}(hl:l.length=l'.length) (hm:m.length=m'.length) (h1:∀ (i:Nat) (a a':AV),l[i]?=some a->l'[i]?=some a'->bX S a a') (h2:∀ (i:Nat) (a a':AV),m[i]?=some a->m'[i]?=some a'->bX S a a'):bX S (.fn f l m) (.fn f l' m')
 |sl {ex:Bool}{rows bV:List (List AV)}(hl:rows.length=bV.length) (h1:∀ (i:Nat) (row aM:List AV),rows[i]?=some row->bV[i]?=some aM->row.length=aM.length)
   (h:∀ (i j:Nat) (row aM:List AV) (a a':AV),rows[i]?=some row->bV[i]?=some aM->row[j]?=some a->aM[j]?=some a'->bX S a a'):bX S (.sl ex rows) (.sl false bV)
 |ip {cs cs':List AV}(hl:cs'.length<=cs.length) (h:∀ (j:Nat) (a a':AV),cs[j]?=some a->cs'[j]?=some a'->bX S a a'):bX S (.ip cs) (.ip cs')
 |gr {k sz len:Nat}{rows bV:List (List AV)}{fz:Nat}{ex:Bool}(hk:S.get k=some (.arr sz rows fz ex)) (hlen:len<=rows.length) (hl:bV.length=len)
   (h1:∀ (i:Nat) (row aM:List AV),rows[i]?=some row->bV[i]?=some aM->row.length=aM.length)
   (h:∀ (i j:Nat) (row aM:List AV) (a a':AV),rows[i]?=some row->bV[i]?=some aM->row[j]?=some a->aM[j]?=some a'->bX S a a'):bX S (.gr k sz len) (.sl false bV)
theorem me {g:Gh}{w:World}{k sz m:Nat}{v:Value}(h:aA g w (.gr k sz m) v):(m=0/\∃ A,v=.slice A 0 0)\/(g.al k/\∃ c,v=.slice (some ⟨g.ob k,0,none⟩) m c/\c=g.cp k/\m<=c):=by
 cases h with
 |ia=>exact .inl ⟨rfl,_,rfl⟩
 |gr hk hx hle=>exact .inr ⟨hk,_,rfl,hx,hle⟩
def Gh.still (g:Gh) (S:aa):Gh:=⟨g.ob,g.cp,g.al,fun b q=>g.fz b q\/∃ k sz rows fz ex,S.get k=some (.arr sz rows fz ex)/\g.al k/\b=g.ob k/\q < rows.length*sz,g.fo⟩
theorem bX.rep {A:Nat->Prop}{g:Gh}{w:World}(hS:St w0 A g S w) {a a':AV}(hf:bX S a a'):∀ {v:Value},aA g w a v->aA (g.still S) w a' v:=by
 have hL:Later g w (g.still S) w:=⟨fun _ h=>h,fun _ _=>rfl,fun _ _=>rfl,fun _ _ h=>.inl h,fun _ _ _=>rfl⟩
 induction hf with
 |refl a=>exact fun h=>h.later hL
 |@agg l l' hl h ih =>
  intro v hr
  obtain⟨cs,rfl,h1,h2⟩:=yX hr
  refine .agg (h1.trans hl) (fun i a' x bL hx=>?_)
  have hi:i < l.length:=by rw [hl];exact (List.getElem?_eq_some_iff.1 bL).1
  exact ih i _ a' (List.getElem?_eq_getElem hi) bL (h2 i _ x (List.getElem?_eq_getElem hi) hx)
 |@aC l l' hl h ih =>
  intro v hr
  cases hr with
  |aC h1 h2 =>
   refine .aC (h1.trans hl) (fun i a' x bL hx=>?_)
   have hi:i < l.length:=by rw [hl];exact (List.getElem?_eq_some_iff.1 bL).1
   exact ih i _ a' (List.getElem?_eq_getElem hi) bL (h2 i _ x (List.getElem?_eq_getElem hi) hx)
 |@ob k sz off len cx rows bV fz ex hk hlen hl h1 h ih =>
  intro v hr
  obtain⟨c,rfl,aH,_,_,_,hle⟩:=fj hr
  obtain⟨k2,k3,cs,ty,p1,p2,p3,p4,p5,p6,p7⟩:=hS.bj k _ hk aH
  subst hl
  have eU:∀ (i:Nat) (aM:List AV),bV[i]?=some aM->∃ row,rows[off+i]?=some row/\row.length=sz/\aM.length=sz:=by
   intro i aM hi
   have aB:off+i < rows.length:=by have:=(List.getElem?_eq_some_iff.1 hi).1;omega
   have e:=List.getElem?_eq_getElem aB
   have e2:=(p5 _ _ e).1
   exact⟨_,e,e2,by rw [<-h1 i _ aM e hi];exact e2⟩
  by_cases hn:bV=[]
  ·subst hn
   exact .nil (fun h=>by cases h)
  ·refine .sl (sz:=sz) (val:=fun i j=>cs.getD ((off+i)*sz+j) undef) hn (fun h=>by cases h) hle (fun i aM hi=>(eU i aM hi).choose_spec.2.2) (fun i j aM a' hi hj=>?_) (fun i j aM a' hi hj=>?_)
   ·obtain⟨row,e1,e2,e3⟩:=eU i aM hi
    have qy:j < sz:=by rw [<-e3];exact (List.getElem?_eq_some_iff.1 hj).1
    have dK:=List.getElem?_eq_getElem (show j < row.length by omega)
    obtain⟨x,hx,cK⟩:=(p5 _ _ e1).2 j _ dK
    have e4:off*sz+(i*sz+j)=(off+i)*sz+j:=by rw [Nat.add_mul];omega
    refine⟨.inr ⟨k,sz,rows,fz,ex,hk,aH,rfl,?_⟩,?_⟩
    ·rw [e4];exact iT (List.getElem?_eq_some_iff.1 e1).1 qy
    ·rw [cell_of_row _ _ _ cs ty (0,0) p1,e4,hx]
     simp [Array.getD_eq_getD_getElem?,hx]
   ·obtain⟨row,e1,e2,e3⟩:=eU i aM hi
    have qy:j < sz:=by rw [<-e3];exact (List.getElem?_eq_some_iff.1 hj).1
    have dK:=List.getElem?_eq_getElem (show j < row.length by omega)
    obtain⟨x,hx,cK⟩:=(p5 _ _ e1).2 j _ dK
    simp only [Array.getD_eq_getD_getElem?,hx,Option.getD_some]
    exact ih i j row aM _ a' e1 hi dK hj cK
 |@gr k sz len rows bV fz ex hk hlen hl h1 h ih =>
  intro v hr
  subst hl
  rcases me hr with ⟨h0,A',rfl⟩|⟨aH,c,rfl,_,hle⟩
  ·have:bV=[]:=List.length_eq_zero_iff.1 h0
   subst this
   exact .nil (fun h=>by cases h)
  ·obtain⟨k2,k3,cs,ty,p1,p2,p3,p4,p5,p6,p7⟩:=hS.bj k _ hk aH
   have eU:∀ (i:Nat) (aM:List AV),bV[i]?=some aM->∃ row,rows[i]?=some row/\row.length=sz/\aM.length=sz:=by
    intro i aM hi
    have aB:i < rows.length:=by have:=(List.getElem?_eq_some_iff.1 hi).1;omega
    have e:=List.getElem?_eq_getElem aB
    have e2:=(p5 _ _ e).1
    exact⟨_,e,e2,by rw [<-h1 i _ aM e hi];exact e2⟩
   by_cases hn:bV=[]
   ·subst hn
    exact .nil (fun h=>by cases h)
   ·refine .sl (sz:=sz) (val:=fun i j=>cs.getD (i*sz+j) undef) hn (fun h=>by cases h) hle (fun i aM hi=>(eU i aM hi).choose_spec.2.2) (fun i j aM a' hi hj=>?_) (fun i j aM a' hi hj=>?_)
    ·obtain⟨row,e1,e2,e3⟩:=eU i aM hi
     have qy:j < sz:=by rw [<-e3];exact (List.getElem?_eq_some_iff.1 hj).1
     have dK:=List.getElem?_eq_getElem (show j < row.length by omega)
     obtain⟨x,hx,cK⟩:=(p5 _ _ e1).2 j _ dK
     refine⟨.inr ⟨k,sz,rows,fz,ex,hk,aH,rfl,?_⟩,?_⟩
     ·rw [Nat.zero_add];exact iT (List.getElem?_eq_some_iff.1 e1).1 qy
     ·rw [Nat.zero_add,cell_of_row w (g.ob k) _ cs ty (0,0) p1,hx]
      simp [Array.getD_eq_getD_getElem?,hx]
    ·obtain⟨row,e1,e2,e3⟩:=eU i aM hi
     have qy:j < sz:=by rw [<-e3];exact (List.getElem?_eq_some_iff.1 hj).1
     have dK:=List.getElem?_eq_getElem (show j < row.length by omega)
     obtain⟨x,hx,cK⟩:=(p5 _ _ e1).2 j _ dK
     simp only [Array.getD_eq_getD_getElem?,hx,Option.getD_some]
     exact ih i j row aM _ a' e1 hi dK hj cK
 |@pt k sz i j rows row aM fz ex hk hi hl h ih =>
  intro v hr
  cases hr with
  |pt aH =>
   obtain⟨k2,k3,cs,ty,p1,p2,p3,p4,p5,p6,p7⟩:=hS.bj k _ hk aH
   obtain⟨q1,q2⟩:=p5 i row hi
   have pf:∀ (q:Nat) (a':AV),aM[q]?=some a'->∃ x,cs[i*sz+(j+q)]?=some x/\aA (g.still S) w a' x:=by
    intro q a' bL
    have hq:=(List.getElem?_eq_some_iff.1 bL).1
    have e1:row[j+q]?=some (row[j+q]'(by omega)):=List.getElem?_eq_getElem (by omega)
    obtain⟨x,hx,cK⟩:=q2 _ _ e1
    exact⟨x,hx,ih q _ a' e1 bL cK⟩
   have aB:i < rows.length:=(List.getElem?_eq_some_iff.1 hi).1
   refine .ip (val:=fun q=>cs.getD (i*sz+(j+q)) undef) (fun q a' bL=>?_) (fun q a' bL=>?_)
   ·obtain⟨x,hx,_⟩:=pf q a' bL
    have hq:=(List.getElem?_eq_some_iff.1 bL).1
    refine⟨.inr ⟨k,sz,rows,fz,ex,hk,aH,rfl,?_⟩,?_⟩
    ·rw [Nat.add_assoc];exact iT aB (by omega)
    ·rw [cell_of_row _ _ _ cs ty (0,0) p1,Nat.add_assoc,hx]
     simp [Array.getD_eq_getD_getElem?,hx]
   ·obtain⟨x,hx,cK⟩:=pf q a' bL
    simp only [Array.getD_eq_getD_getElem?,hx,Option.getD_some]
    exact cK
 |@fn f l l' m m' hl hm h1 h2 I5 I6 =>
  intro v hr
  cases hr with
  |fn p1 p2 p3 p4 =>
   refine .fn (p1.trans hl) (p2.trans hm) (fun i a' x bL hx=>?_) (fun i a' x bL hx=>?_)
   ·have hi:i < l.length:=by rw [hl];exact (List.getElem?_eq_some_iff.1 bL).1
    exact I5 i _ a' (List.getElem?_eq_getElem hi) bL (p3 i _ x (List.getElem?_eq_getElem hi) hx)
   ·have hi:i < m.length:=by rw [hm];exact (List.getElem?_eq_some_iff.1 bL).1
    exact I6 i _ a' (List.getElem?_eq_getElem hi) bL (p4 i _ x (List.getElem?_eq_getElem hi) hx)
 |@sl ex rows bV hl h1 h ih =>
  intro v hr
  cases hr with
  |nil hc =>
   have:bV=[]:=List.length_eq_zero_iff.1 (by rw [<-hl];rfl)
   subst this
   exact .nil (fun h=>by cases h)
  |@sl _ _ b o sz c val hn hc hle ZX p pr =>
   have eU:∀ (i:Nat) (aM:List AV),bV[i]?=some aM->∃ row,rows[i]?=some row/\row.length=sz/\row.length=aM.length:=by
    intro i aM hi
    have aB:i < rows.length:=by rw [hl];exact (List.getElem?_eq_some_iff.1 hi).1
    have e:=List.getElem?_eq_getElem aB
    exact⟨_,e,ZX i _ e,h1 i _ aM e hi⟩
   rw [hl]
   refine .sl (sz:=sz) (val:=val) (fun e=>hn (List.length_eq_zero_iff.1 (by rw [hl,e];rfl))) (fun h=>by cases h) (by rw [<-hl];exact hle) (fun i aM hi=>?_) (fun i j aM a' hi hj=>?_) (fun i j aM a' hi hj=>?_)
   ·obtain⟨row,e1,e2,e3⟩:=eU i aM hi
    omega
   ·obtain⟨row,e1,e2,e3⟩:=eU i aM hi
    have qy:j < row.length:=by rw [e3];exact (List.getElem?_eq_some_iff.1 hj).1
    obtain⟨q1,q2⟩:=p i j row _ e1 (List.getElem?_eq_getElem qy)
    exact⟨.inl q1,q2⟩
   ·obtain⟨row,e1,e2,e3⟩:=eU i aM hi
    have qy:j < row.length:=by rw [e3];exact (List.getElem?_eq_some_iff.1 hj).1
    exact ih i j row aM _ a' e1 hi (List.getElem?_eq_getElem qy) hj (pr i j row _ e1 (List.getElem?_eq_getElem qy))
 |@ip cs cs' hl h ih =>
  intro v hr
  cases hr with
  |@ip _ b o val p pr =>
   have eU:∀ (i:Nat) (a':AV),cs'[i]?=some a'->∃ a,cs[i]?=some a:=fun i a' hi=>⟨_,List.getElem?_eq_getElem (Nat.lt_of_lt_of_le (List.getElem?_eq_some_iff.1 hi).1 hl)⟩
   refine .ip (val:=val) (fun i a' hi=>?_) (fun i a' hi=>?_)
   ·obtain⟨a,ha⟩:=eU i a' hi
    exact⟨.inl (p i a ha).1,(p i a ha).2⟩
   ·obtain⟨a,ha⟩:=eU i a' hi
    exact ih i a a' ha hi (pr i a ha)
theorem av.of_wp {f:FuncId}{fn:Func}{c:Code}{args:List AV}(hf:P.funcs[f]?=some fn) (hb:fn.body=some c) (hc:∀ (xs:Array Value) (w:World),(callFunc f xs).run P w=.ok (.enter f xs) w)
  (hn:fn.ntmps=n) (aT:args.length<=n) (hp:Pure r) (h:∃ ex ag S',bI P w0 false n c ⟨j7 args,[]⟩ aa.none_ ex ag S'/\A8 P fn.results (fun r' S=>bX S r' r) ex ag S'):av P w0 f args r:=by
 obtain⟨r',S',h1,h2⟩:=aE.of_wp hf hb hc hn aT h
 refine⟨hp,aa.none_,h1.1,fun F m A g aV w hF hS hA=>(h1.2 F m A g aV w hF hS hA).mono ?_⟩
 rintro e w' ⟨v,g',rfl,h3,h4,h5⟩
 have hk:∀ b q,(g'.still S').fz b q->g.fz b q\/A b:=by
  rintro b q (hq|⟨k,sz,rows,fz,ex,hk,aH,rfl,hq⟩)
  ·exact h5.eW b q hq
  ·exact .inr (h4.bj k _ hk aH).1
 have hr:=h2.rep h4 h3
 obtain⟨g2,tF⟩:∃ g2:Gh,g2=⟨g.ob,g.cp,fun _=>False,(g'.still S').fz,g.fo⟩:=⟨_,rfl⟩
 have sD:∀ k,¬ g.al k:=fun k hk=>absurd (hS.al k hk) (Nat.not_lt_zero k)
 have hL:Later g w g2 w':=by
  rw [tF]
  exact⟨fun k hk=>sD k hk,fun _ _=>rfl,fun _ _=>rfl,fun b q hq=>.inl (h5.fz b q hq),h5.cell⟩
 refine⟨v,g2,rfl,?_,?_,{ hL with size:=h5.size,cD:=h5.cD,eW:=by rw [tF];exact hk }⟩
 ·rw [tF]
  exact aA.pure (g:=g'.still S') (g':=⟨g.ob,g.cp,fun _=>False,(g'.still S').fz,g.fo⟩) (fun _ _ h=>h) (fun _ _ _=>rfl) hr hp
 ·have e0:∀ k o,¬ aa.none_.get k=some o:=fun k o h=>by simp [aa.none_] at h
  refine⟨h4.base,h4.up,h4.lo,fun k hk=>?_,fun k o hk=>absurd hk (e0 k o),fun j k o p hj=>absurd hj (e0 j o),?_,fun b q hb=>hL.fz b q (hS.lM b q hb),fun k J hk=>absurd hk (e0 k _),fun k J j o hk=>absurd hk (e0 k _),fun j k J J' hj=>absurd hj (e0 j _)⟩
  ·rw [tF] at hk
   exact hk.elim
  ·rw [tF]
   rintro b q (hq|⟨k,sz,rows,fz,ex,hk,aH,rfl,hq⟩)
   ·exact h4.bM b q hq
   ·exact (h4.bj k _ hk aH).2.1
theorem St.inner {A:Nat->Prop}{g:Gh}{w:World}(hS:St w0 A g S w) (fz:Nat->Nat->Prop) (h1:∀ b q,g.fz b q->fz b q) (h2:∀ b q,fz b q->b < w.heap.size):St w0 (fun b=>w.heap.size<=b) ⟨g.ob,g.cp,fun _=>False,fz,g.fo⟩ aa.none_ w :=
 have e0:∀ k o,¬ aa.none_.get k=some o:=fun k o h=>by simp [aa.none_] at h
 ⟨hS.base,fun b hb=>hb,fun b hb=>Nat.le_trans hS.base.size hb,fun k hk=>hk.elim,fun k o hk=>absurd hk (e0 k o),fun j k o p hj=>absurd hj (e0 j o),h2,fun b q hb=>h1 b q (hS.lM b q hb),fun k J hk=>absurd hk (e0 k _),fun k J j o hk=>absurd hk (e0 k _),fun j k J J' hj=>absurd hj (e0 j _)⟩
theorem St.outer {A:Nat->Prop}{g g1:Gh}{w w':World}{fz:Nat->Nat->Prop}(hS:St w0 A g S w) (h1:∀ b q,g.fz b q->fz b q) (h2:∀ b q,fz b q->b < w.heap.size) (er:St w0 (fun b=>w.heap.size<=b) g1 S' w') (hE:Ext (fun b=>w.heap.size<=b) ⟨g.ob,g.cp,fun _=>False,fz,g.fo⟩ w g1 w') :
  Ext A g w ⟨g.ob,g.cp,g.al,fun b q=>g.fz b q\/(w.heap.size<=b/\g1.fz b q),g.fo⟩ w'/\St w0 A ⟨g.ob,g.cp,g.al,fun b q=>g.fz b q\/(w.heap.size<=b/\g1.fz b q),g.fo⟩ S w':=by
 have hold:∀ b,b < w.heap.size->w'.heap[b]?=w.heap[b]?:=fun b hb=>hE.cD b hb (by omega)
 have hL:Later g w ⟨g.ob,g.cp,g.al,fun b q=>g.fz b q\/(w.heap.size<=b/\g1.fz b q),g.fo⟩ w':=⟨fun _ h=>h,fun _ _=>rfl,fun _ _=>rfl,fun _ _ h=>.inl h,fun b q hq=>World.cell?_of_block (hold b (hS.bM b q hq))⟩
 have yd:Ext A g w ⟨g.ob,g.cp,g.al,fun b q=>g.fz b q\/(w.heap.size<=b/\g1.fz b q),g.fo⟩ w':={ hL with size:=hE.size,cD:=fun b hb _=>hold b hb,eW:=fun b q hq=>hq.elim .inl fun h=>.inr (hS.up b h.1) }
 refine⟨yd,⟨er.base,fun b hb=>hS.up b (Nat.le_trans hE.size hb),hS.lo,hS.al,fun k o hk ha=>?_,hS.inj,fun b q hq=>?_,fun b q hb=>.inl (hS.lM b q hb),fun k J hk ha c hc=>⟨(hS.fp k J hk ha c hc).1,Nat.lt_of_lt_of_le (hS.fp k J hk ha c hc).2 hE.size⟩,hS.iF,hS.kD⟩⟩
 ·obtain⟨k2,k3,k4⟩:=hS.bj k o hk ha
  exact⟨k2,Nat.lt_of_lt_of_le k3 hE.size,k4.later hL (hold _ k3) (fun q hq=>hq.elim id fun h=>absurd h.1 (by show ¬ w.heap.size<=g.ob k;omega)) fun J hJ=>⟨rfl,hE.size,fun c hc=>hold c (hS.fp k J (by rw [<-hJ];exact hk) ha c hc).2,fun c q hc hq=>hq.elim id fun h=>absurd h.1 (by have:=(hS.fp k J (by rw [<-hJ];exact hk) ha c hc).2;omega)⟩⟩
 ·rcases hq with hq|hq
  ·exact Nat.lt_of_lt_of_le (hS.bM b q hq) hE.size
  ·exact er.bM b q hq.2
inductive pV:AV->Prop where
 |v {x:Value}:pV (.v x)
 |aC {l:List AV}(h:∀ a ∈ l,pV a):pV (.aC l)
 |agg {l:List AV}(h:∀ a ∈ l,pV a):pV (.agg l)
theorem aA.abT {g g':Gh}{w w':World}{a:AV}(hs:pV a):∀ {x:Value},aA g w a x->aA g' w' a x:=by
 induction hs with
 |v=>intro x h;cases h;exact .v
 |aC hl ih=>intro x h;cases h with|aC h1 h2=>exact .aC h1 fun i a y ha hy=>ih _ (List.mem_of_getElem? ha) (h2 i a y ha hy)
 |agg hl ih=>intro x h;cases h with|agg h1 h2=>exact .agg h1 fun i a y ha hy=>ih _ (List.mem_of_getElem? ha) (h2 i a y ha hy)
theorem av.w8 {f:FuncId}{args:List AV}(h:av P w0 f args r) (hp:∀ a ∈ args,Pure a) (S:aa):aE P w0 f args S r S:=by
 obtain⟨hpr,S1,h1,h2⟩:=h
 refine⟨h1,fun F m A g aV w hF hS hA=>(h2 F m _ _ aV w hF (hS.inner g.fz (fun _ _ h=>h) hS.bM) ⟨hA.1,fun i a x ha hx=>aA.pure (g:=g) (g':=⟨g.ob,g.cp,fun _=>False,g.fz,g.fo⟩) (fun _ _ h=>h) (fun _ _ _=>rfl) (hA.2 i a x ha hx) (hp a (List.mem_of_getElem? ha))⟩).mono ?_⟩
 rintro e w' ⟨v,g1,rfl,h3,h4,h5⟩
 obtain⟨hE,b_⟩:=hS.outer (fun _ _ h=>h) hS.bM h4 h5
 refine⟨v,_,rfl,?_,b_,hE⟩
 refine aA.pure (g:=g1) (fun b q hq=>?_) (fun _ _ _=>rfl) h3 hpr
 rcases h5.eW b q hq with h|h
 ·exact .inl h
 ·exact .inr ⟨h,hq⟩
theorem av.aae {f:FuncId}{args iH:List AV}(h:av P w0 f args r) (hp:∀ a ∈ args,Pure a) (hs:pV r) (S:aa) (hl:iH.length=args.length) (hf:∀ (i:Nat) (a0 a:AV),iH[i]?=some a0->args[i]?=some a->bX S a0 a):aE P w0 f iH S r S:=by
 obtain⟨hpr,S1,h1,h2⟩:=h
 refine⟨h1,fun F m A g aV w hF hS hA=>?_⟩
 have aB:∀ b q,(g.still S).fz b q->b < w.heap.size:=by
  rintro b q (hq|⟨k,sz,rows,fz,ex,hk,aH,rfl,hq⟩)
  ·exact hS.bM b q hq
  ·exact (hS.bj k _ hk aH).2.1
 refine (h2 F m _ _ aV w hF (hS.inner (g.still S).fz (fun _ _ h=>.inl h) aB) ⟨hA.1.trans hl,fun i a x ha hx=>?_⟩).mono ?_
 ·have hi:i < iH.length:=by rw [hl];exact (List.getElem?_eq_some_iff.1 ha).1
  have OR:=List.getElem?_eq_getElem hi
  exact aA.pure (g:=g.still S) (g':=⟨g.ob,g.cp,fun _=>False,(g.still S).fz,g.fo⟩) (fun _ _ h=>h) (fun _ _ _=>rfl) ((hf i _ a OR ha).rep hS (hA.2 i _ x OR hx)) (hp a (List.mem_of_getElem? ha))
 ·rintro e w' ⟨v,g1,rfl,h3,h4,h5⟩
  obtain⟨hE,b_⟩:=hS.outer (fun _ _ h=>.inl h) aB h4 h5
  exact⟨v,_,rfl,h3.abT hs,b_,hE⟩
end
end Go.Proofs.YtgjfgekaclobaaaGreat
