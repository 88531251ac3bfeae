import Derived.Orders
import Derived.Test.YtgjfgekaclobaaaGreatCa5
namespace Go.Proofs.YtgjfgekaclobaaaGreat
set_option linter.unusedVariables false
set_option linter.unusedSimpArgs false
open Go.RowKit
section
variable {P:Program}{w0:World}{rd:Bool}{n:Nat}{α:AA}{S S':ad}{r:AV}
def j_ (args:List AV) (t:Nat):AV:=(args[t]?).getD .u
theorem vh {g:Gh}{w:World}{args:List AV}{aQ:Array Value}(h:iP g w args aQ) (hn:args.length<=n):bN g w n ⟨j_ args,[]⟩ { tmps:=aQ++Array.replicate (n - aQ.size) undef,defers:=[] }:=by
 refine⟨by simp [h.1];omega,fun t ht=>?_,fun t ht=>?_,rfl,fun k hk=>by cases hk⟩
 ·show aH g w (j_ args t) _
  unfold j_
  by_cases c:t < args.length
  ·have h1:=List.getElem?_eq_getElem c
   have c':t < aQ.size:=by rw [h.1];exact c
   rw [h1,Array.getD_eq_getD_getElem?,Array.getElem?_append_left c',Array.getElem?_eq_getElem c']
   exact h.2 t _ _ h1 (Array.getElem?_eq_getElem c')
  ·rw [List.getElem?_eq_none (by omega)]
   exact .u
 ·show j_ args t=.u
  unfold j_
  rw [List.getElem?_eq_none (by omega)]
  rfl
theorem St.take {A:Nat->Prop}{g:Gh}{w:World}{k:Nat}(hS:St w0 A g S w) (hk:S.get k=some .df) (ha:g.al k) :
  ∃ w',(Instr.takeDeferred (g.ob k)).run P w=.ok [] w'/\Ext A g w g w'/\St w0 A g (S.set k none) w':=by
 obtain⟨k2,k3,k4⟩:=hS.bR k _ hk ha
 have k4:w.heap[g.ob k]?=some (.deferred (some [])):=k4
 obtain⟨w',lR⟩:∃ w':World,w'={ w with heap:=w.heap.setIfInBounds (g.ob k) (.deferred none) }:=⟨_,rfl⟩
 have bY:(Instr.takeDeferred (g.ob k)).run P w=.ok [] w':=by
  rw [lR]
  simp [Instr.takeDeferred,getObj,setObj,Sem.run,k4]
 have bh:w'.heap.size=w.heap.size:=by rw [lR];simp
 have vP:∀ b,b ≠ g.ob k->w'.heap[b]?=w.heap[b]?:=by
  intro b hb
  rw [lR]
  simp only [Array.getElem?_setIfInBounds]
  rw [if_neg (Ne.symm hb)]
 have kI:∀ b q,w'.cell? ⟨b,q,none⟩=w.cell? ⟨b,q,none⟩:=by
  intro b q
  by_cases e:b=g.ob k
  ·subst e
   have h1:w'.heap[g.ob k]?=some (.deferred none):=by
    rw [lR]
    simp [Array.getElem?_setIfInBounds,k3]
   simp [World.cell?,h1,k4]
  ·exact World.cell?_of_block (vP b e)
 have hL:Later g w g w':=⟨fun _ h=>h,fun _ _=>rfl,fun _ _=>rfl,fun _ _ h=>h,fun b q _=>kI b q⟩
 have hE:Ext A g w g w':={ hL with size:=by rw [bh];exact Nat.le_refl _,a7:=fun b hb hA=>vP b (fun e=>hA (by rw [e];exact k2)),gF:=fun _ _ h=>.inl h }
 have key:∀ j p,(S.set k none).get j=some p->j ≠ k/\S.get j=some p:=by
  intro j p hj
  have hj:a8 S.get k none j=some p:=hj
  by_cases e:j=k
  ·subst e;rw [aq] at hj;cases hj
  ·rw [aC _ _ e] at hj;exact⟨e,hj⟩
 refine⟨w',bY,hE,hS.next hE (by rw [lR]) (by rw [lR]) (by rw [lR]) hS.al (fun j p hj aj=>?_) (fun i j p q hi hj ai aj e=>hS.inj i j p q (key i p hi).2 (key j q hj).2 ai aj e) (fun b q hf=>by rw [bh];exact hS.cC b q hf) rfl (fun j J hj aj=>⟨(key j _ hj).2,aj⟩) (fun j p hj aj=>.inr ⟨j,p,aj,(key j p hj).2,rfl,.inl rfl⟩)⟩
 obtain⟨a_,hj⟩:=key j p hj
 obtain⟨h2,h3,h4⟩:=hS.bR j p hj aj
 exact⟨h2,by rw [bh];exact h3,h4.later hL (vP _ (fun e=>a_ (hS.inj j k p _ hj hk aj ha e))) (fun _ h=>h) fun J hJ=>⟨rfl,by rw [bh];exact Nat.le_refl _,fun c hc=>vP c fun e=>hS.jW j J k _ (by rw [<-hJ];exact hj) aj hk ha (fun e'=>a_ e'.symm) (by rw [<-e];exact hc),fun _ _ _ h=>h⟩⟩
theorem EK {F:Fence}{m:Nat}{A:Nat->Prop}{fn:Func}{tmps:Array Value}{R:Ending->World->Prop}:∀ (ks:List DE) {S:ad}{g:Gh}{w:World},St w0 A g S w->wE S ks=true->(∀ d ∈ ks,g.al d.k) ->
  (∀ w',St w0 A g (jr S ks) w'->Ext A g w g w'->∃ v,(results fn tmps).run P w'=.ok v w'/\R (.returned v) w')->LeavesInM F m P fn tmps R (ks.map (FP g.ob)) .returning w
 |[],S,g,w,hS,_,_,h=>h w hS (Ext.refl ..)
 |.del _ _ _::ks,S,g,w,hS,hd,ha,h=>by cases hd
 |.ob k::ks,S,g,w,hS,hd,ha,h=>by
  simp only [wE] at hd
  split at hd
  ·rename_i hk
   obtain⟨w',h1,h2,h3⟩:=hS.take (P:=P) hk (ha (.ob k) (by simp))
   exact⟨by simp,.inl ⟨g.ob k,w',rfl,h1,EK ks h3 hd (fun j hj=>ha j (by simp [hj])) fun jX h4 h5=>h jX h4 (h2.trans h5)⟩⟩
  ·cases hd
theorem aK.of_wp {f:FuncId}{fn:Func}{c:Code}{args:List AV}{R:AV->ad->Prop}(hf:P.funcs[f]?=some fn) (hb:fn.body=some c) (hc:∀ (xs:Array Value) (w:World),(callFunc f xs).run P w=.ok (.enter f xs) w)
  (hn:fn.ntmps=n) (aY:args.length<=n) (h:∃ ex aw S',cu P w0 false n c ⟨j_ args,[]⟩ S ex aw S'/\Fh P fn.results R ex aw S'):∃ r S',aK P w0 f args S r S'/\R r S':=by
 obtain⟨ex,aw,S1,CS,kM⟩:=h
 have QB:wE S1 aw.df=true/\∃ r,uW P fn.results aw (jr S1 aw.df)=some r/\R r (jr S1 aw.df)/\(ex=.normal\/ex=.ret):=by
  unfold Fh at kM
  split at kM
  ·split at kM
   ·rename_i h1 h2;exact⟨h1,_,h2,kM,.inl rfl⟩
   ·exact kM.elim
  ·split at kM
   ·rename_i h1 h2;exact⟨h1,_,h2,kM,.inr rfl⟩
   ·exact kM.elim
  ·exact kM.elim
 obtain⟨hdf,r,hr,hR,hex⟩:=QB
 refine⟨r,jr S1 aw.df,⟨hc,fun F m A g aQ w hF hS hA=>?_⟩,hR⟩
 have key:CallsIn F.plain m P f aQ w fun e w'=>∃ v g',e=.returned v/\aH g' w' r v/\St w0 A g' (jr S1 aw.df) w'/\Ext A g w g' w':=by
  refine callsIn_of_wp_marks hf hb (hF.1 f) ?_ rfl
  rw [hn]
  refine wpIn_mono (CS F.plain m A g _ w hF.plain rfl hS (vh hA aY)) ?_
  rintro ex' a' w' ⟨rfl,g',h1,h2,h3⟩
  have hl:LeavesInM F.plain m P fn a'.tmps (fun e w'=>∃ v g',e=.returned v/\aH g' w' r v/\St w0 A g' (jr S1 aw.df) w'/\Ext A g w g' w') a'.defers .returning w':=by
   rw [h2.df]
   refine EK aw.df h1 hdf h2.rI fun jX h4 h5=>?_
   obtain⟨v,h6,h7⟩:=Bz h4 (h2.later h5.toLater) hr
   exact⟨v,h6,v,g',rfl,h7,h4,h3.trans h5⟩
  rcases hex with rfl|rfl
  ·exact hl
  ·exact hl
 exact key
inductive bp (S:ad):AV->AV->Prop where
 |refl (a:AV):bp S a a
 |agg {l l':List AV}(hl:l.length=l'.length) (h:∀ (i:Nat) (a a':AV),l[i]?=some a->l'[i]?=some a'->bp S a a'):bp S (.agg l) (.agg l')
 |aE {l l':List AV}(hl:l.length=l'.length) (h:∀ (i:Nat) (a a':AV),l[i]?=some a->l'[i]?=some a'->bp S a a'):bp S (.aE l) (.aE l')
 |ob {k sz off len:Nat}{cx:Option Nat}{rows cJ:List (List AV)}{fz:Nat}{ex:Bool}(hk:S.get k=some (.arr sz rows fz ex)) (hlen:off+len<=rows.length) (hl:cJ.length=len)
   (h1:∀ (i:Nat) (row aV:List AV),rows[off+i]?=some row->cJ[i]?=some aV->row.length=aV.length)
   (h:∀ (i j:Nat) (row aV:List AV) (a a':AV),rows[off+i]?=some row->cJ[i]?=some aV->row[j]?=some a->aV[j]?=some a'->bp S a a'):bp S (.ob k sz off len cx) (.sl false cJ)
 |pt {k sz i j:Nat}{rows:List (List AV)}{row aV:List AV}{fz:Nat}{ex:Bool}(hk:S.get k=some (.arr sz rows fz ex)) (hi:rows[i]?=some row) (hl:aV.length+j<=row.length)
   (h:∀ (q:Nat) (a a':AV),row[j+q]?=some a->aV[q]?=some a'->bp S a a'):bp S (.pt k sz i j) (.ip aV)
 |fn {f:Fn}{l l' m m':List AV}(hl:l.length=l'.length) (hm:m.length=m'.length) (h1:∀ (i:Nat) (a a':AV),l[i]?=some a->l'[i]?=some a'->bp S a a') (h2:∀ (i:Nat) (a a':AV),m[i]?=some a->m'[i]?=some a'->bp S a a'):bp S (.fn f l m) (.fn f l' m')
 |sl {ex:Bool}{rows cJ:List (List AV)}(hl:rows.length=cJ.length) (h1:∀ (i:Nat) (row aV:List AV),rows[i]?=some row->cJ[i]?=some aV->row.length=aV.length)
   (h:∀ (i j:Nat) (row aV:List AV) (a a':AV),rows[i]?=some row->cJ[i]?=some aV->row[j]?=some a->aV[j]?=some a'->bp S a a'):bp S (.sl ex rows) (.sl false cJ)
 |ip {cs cs':List AV}(hl:cs'.length<=cs.length) (h:∀ (j:Nat) (a a':AV),cs[j]?=some a->cs'[j]?=some a'->bp S a a'):bp S (.ip cs) (.ip cs')
 |gr {k sz len:Nat}{rows cJ:List (List AV)}{fz:Nat}{ex:Bool}(hk:S.get k=some (.arr sz rows fz ex)) (hlen:len<=rows.length) (hl:cJ.length=len)
   (h1:∀ (i:Nat) (row aV:List AV),rows[i]?=some row->cJ[i]?=some aV->row.length=aV.length)
   (h:∀ (i j:Nat) (row aV:List AV) (a a':AV),rows[i]?=some row->cJ[i]?=some aV->row[j]?=some a->aV[j]?=some a'->bp S a a'):bp S (.gr k sz len) (.sl false cJ)
theorem ot {g:Gh}{w:World}{k sz m:Nat}{v:Value}(h:aH g w (.gr k sz m) v):(m=0/\∃ A,v=.slice A 0 0)\/(g.al k/\∃ c,v=.slice (some ⟨g.ob k,0,none⟩) m c/\c=g.cp k/\m<=c):=by
 cases h with
 |ja=>exact .inl ⟨rfl,_,rfl⟩
 |gr hk hx hle=>exact .inr ⟨hk,_,rfl,hx,hle⟩
def Gh.still (g:Gh) (S:ad):Gh:=⟨g.ob,g.cp,g.al,fun b q=>g.fz b q\/∃ k sz rows fz ex,S.get k=some (.arr sz rows fz ex)/\g.al k/\b=g.ob k/\q < rows.length*sz,g.fo⟩
theorem bp.rep {A:Nat->Prop}{g:Gh}{w:World}(hS:St w0 A g S w) {a a':AV}(hf:bp S a a'):∀ {v:Value},aH g w a v->aH (g.still S) w a' v:=by
 have hL:Later g w (g.still S) w:=⟨fun _ h=>h,fun _ _=>rfl,fun _ _=>rfl,fun _ _ h=>.inl h,fun _ _ _=>rfl⟩
 induction hf with
 |refl a=>exact fun h=>h.later hL
 |@agg l l' hl h ih =>
  intro v hr
  obtain⟨cs,rfl,h1,h2⟩:=CT hr
  refine .agg (h1.trans hl) (fun i a' x cz hx=>?_)
  have hi:i < l.length:=by rw [hl];exact (List.getElem?_eq_some_iff.1 cz).1
  exact ih i _ a' (List.getElem?_eq_getElem hi) cz (h2 i _ x (List.getElem?_eq_getElem hi) hx)
 |@aE l l' hl h ih =>
  intro v hr
  cases hr with
  |aE h1 h2 =>
   refine .aE (h1.trans hl) (fun i a' x cz hx=>?_)
   have hi:i < l.length:=by rw [hl];exact (List.getElem?_eq_some_iff.1 cz).1
   exact ih i _ a' (List.getElem?_eq_getElem hi) cz (h2 i _ x (List.getElem?_eq_getElem hi) hx)
 |@ob k sz off len cx rows cJ fz ex hk hlen hl h1 h ih =>
  intro v hr
  obtain⟨c,rfl,aO,_,_,_,hle⟩:=h_ hr
  obtain⟨k2,k3,cs,ty,p1,p2,p3,p4,p5,p6,p7⟩:=hS.bR k _ hk aO
  subst hl
  have gA:∀ (i:Nat) (aV:List AV),cJ[i]?=some aV->∃ row,rows[off+i]?=some row/\row.length=sz/\aV.length=sz:=by
   intro i aV hi
   have aA:off+i < rows.length:=by have:=(List.getElem?_eq_some_iff.1 hi).1;omega
   have e:=List.getElem?_eq_getElem aA
   have e2:=(p5 _ _ e).1
   exact⟨_,e,e2,by rw [<-h1 i _ aV e hi];exact e2⟩
  by_cases hn:cJ=[]
  ·subst hn
   exact .nil (fun h=>by cases h)
  ·refine .sl (sz:=sz) (val:=fun i j=>cs.getD ((off+i)*sz+j) undef) hn (fun h=>by cases h) hle (fun i aV hi=>(gA i aV hi).choose_spec.2.2) (fun i j aV a' hi hj=>?_) (fun i j aV a' hi hj=>?_)
   ·obtain⟨row,e1,e2,e3⟩:=gA i aV hi
    have sL:j < sz:=by rw [<-e3];exact (List.getElem?_eq_some_iff.1 hj).1
    have eN:=List.getElem?_eq_getElem (show j < row.length by omega)
    obtain⟨x,hx,dH⟩:=(p5 _ _ e1).2 j _ eN
    have e4:off*sz+(i*sz+j)=(off+i)*sz+j:=by rw [Nat.add_mul];omega
    refine⟨.inr ⟨k,sz,rows,fz,ex,hk,aO,rfl,?_⟩,?_⟩
    ·rw [e4];exact kr (List.getElem?_eq_some_iff.1 e1).1 sL
    ·rw [cell_of_row _ _ _ cs ty (0,0) p1,e4,hx]
     simp [Array.getD_eq_getD_getElem?,hx]
   ·obtain⟨row,e1,e2,e3⟩:=gA i aV hi
    have sL:j < sz:=by rw [<-e3];exact (List.getElem?_eq_some_iff.1 hj).1
    have eN:=List.getElem?_eq_getElem (show j < row.length by omega)
    obtain⟨x,hx,dH⟩:=(p5 _ _ e1).2 j _ eN
    simp only [Array.getD_eq_getD_getElem?,hx,Option.getD_some]
    exact ih i j row aV _ a' e1 hi eN hj dH
 |@gr k sz len rows cJ fz ex hk hlen hl h1 h ih =>
  intro v hr
  subst hl
  rcases ot hr with ⟨h0,A',rfl⟩|⟨aO,c,rfl,_,hle⟩
  ·have:cJ=[]:=List.length_eq_zero_iff.1 h0
   subst this
   exact .nil (fun h=>by cases h)
  ·obtain⟨k2,k3,cs,ty,p1,p2,p3,p4,p5,p6,p7⟩:=hS.bR k _ hk aO
   have gA:∀ (i:Nat) (aV:List AV),cJ[i]?=some aV->∃ row,rows[i]?=some row/\row.length=sz/\aV.length=sz:=by
    intro i aV hi
    have aA:i < rows.length:=by have:=(List.getElem?_eq_some_iff.1 hi).1;omega
    have e:=List.getElem?_eq_getElem aA
    have e2:=(p5 _ _ e).1
    exact⟨_,e,e2,by rw [<-h1 i _ aV e hi];exact e2⟩
   by_cases hn:cJ=[]
   ·subst hn
    exact .nil (fun h=>by cases h)
   ·refine .sl (sz:=sz) (val:=fun i j=>cs.getD (i*sz+j) undef) hn (fun h=>by cases h) hle (fun i aV hi=>(gA i aV hi).choose_spec.2.2) (fun i j aV a' hi hj=>?_) (fun i j aV a' hi hj=>?_)
    ·obtain⟨row,e1,e2,e3⟩:=gA i aV hi
     have sL:j < sz:=by rw [<-e3];exact (List.getElem?_eq_some_iff.1 hj).1
     have eN:=List.getElem?_eq_getElem (show j < row.length by omega)
     obtain⟨x,hx,dH⟩:=(p5 _ _ e1).2 j _ eN
     refine⟨.inr ⟨k,sz,rows,fz,ex,hk,aO,rfl,?_⟩,?_⟩
     ·rw [Nat.zero_add];exact kr (List.getElem?_eq_some_iff.1 e1).1 sL
     ·rw [Nat.zero_add,cell_of_row w (g.ob k) _ cs ty (0,0) p1,hx]
      simp [Array.getD_eq_getD_getElem?,hx]
    ·obtain⟨row,e1,e2,e3⟩:=gA i aV hi
     have sL:j < sz:=by rw [<-e3];exact (List.getElem?_eq_some_iff.1 hj).1
     have eN:=List.getElem?_eq_getElem (show j < row.length by omega)
     obtain⟨x,hx,dH⟩:=(p5 _ _ e1).2 j _ eN
     simp only [Array.getD_eq_getD_getElem?,hx,Option.getD_some]
     exact ih i j row aV _ a' e1 hi eN hj dH
 |@pt k sz i j rows row aV fz ex hk hi hl h ih =>
  intro v hr
  cases hr with
  |pt aO =>
   obtain⟨k2,k3,cs,ty,p1,p2,p3,p4,p5,p6,p7⟩:=hS.bR k _ hk aO
   obtain⟨q1,q2⟩:=p5 i row hi
   have l4:∀ (q:Nat) (a':AV),aV[q]?=some a'->∃ x,cs[i*sz+(j+q)]?=some x/\aH (g.still S) w a' x:=by
    intro q a' cz
    have hq:=(List.getElem?_eq_some_iff.1 cz).1
    have e1:row[j+q]?=some (row[j+q]'(by omega)):=List.getElem?_eq_getElem (by omega)
    obtain⟨x,hx,dH⟩:=q2 _ _ e1
    exact⟨x,hx,ih q _ a' e1 cz dH⟩
   have aA:i < rows.length:=(List.getElem?_eq_some_iff.1 hi).1
   refine .ip (val:=fun q=>cs.getD (i*sz+(j+q)) undef) (fun q a' cz=>?_) (fun q a' cz=>?_)
   ·obtain⟨x,hx,_⟩:=l4 q a' cz
    have hq:=(List.getElem?_eq_some_iff.1 cz).1
    refine⟨.inr ⟨k,sz,rows,fz,ex,hk,aO,rfl,?_⟩,?_⟩
    ·rw [Nat.add_assoc];exact kr aA (by omega)
    ·rw [cell_of_row _ _ _ cs ty (0,0) p1,Nat.add_assoc,hx]
     simp [Array.getD_eq_getD_getElem?,hx]
   ·obtain⟨x,hx,dH⟩:=l4 q a' cz
    simp only [Array.getD_eq_getD_getElem?,hx,Option.getD_some]
    exact dH
 |@fn f l l' m m' hl hm h1 h2 N6 Fj =>
  intro v hr
  cases hr with
  |fn p1 p2 p3 p4 =>
   refine .fn (p1.trans hl) (p2.trans hm) (fun i a' x cz hx=>?_) (fun i a' x cz hx=>?_)
   ·have hi:i < l.length:=by rw [hl];exact (List.getElem?_eq_some_iff.1 cz).1
    exact N6 i _ a' (List.getElem?_eq_getElem hi) cz (p3 i _ x (List.getElem?_eq_getElem hi) hx)
   ·have hi:i < m.length:=by rw [hm];exact (List.getElem?_eq_some_iff.1 cz).1
    exact Fj i _ a' (List.getElem?_eq_getElem hi) cz (p4 i _ x (List.getElem?_eq_getElem hi) hx)
 |@sl ex rows cJ hl h1 h ih =>
  intro v hr
  cases hr with
  |nil hc =>
   have:cJ=[]:=List.length_eq_zero_iff.1 (by rw [<-hl];rfl)
   subst this
   exact .nil (fun h=>by cases h)
  |@sl _ _ b o sz c val hn hc hle hll p pr =>
   have gA:∀ (i:Nat) (aV:List AV),cJ[i]?=some aV->∃ row,rows[i]?=some row/\row.length=sz/\row.length=aV.length:=by
    intro i aV hi
    have aA:i < rows.length:=by rw [hl];exact (List.getElem?_eq_some_iff.1 hi).1
    have e:=List.getElem?_eq_getElem aA
    exact⟨_,e,hll i _ e,h1 i _ aV e hi⟩
   rw [hl]
   refine .sl (sz:=sz) (val:=val) (fun e=>hn (List.length_eq_zero_iff.1 (by rw [hl,e];rfl))) (fun h=>by cases h) (by rw [<-hl];exact hle) (fun i aV hi=>?_) (fun i j aV a' hi hj=>?_) (fun i j aV a' hi hj=>?_)
   ·obtain⟨row,e1,e2,e3⟩:=gA i aV hi
    omega
   ·obtain⟨row,e1,e2,e3⟩:=gA i aV hi
    have sL:j < row.length:=by rw [e3];exact (List.getElem?_eq_some_iff.1 hj).1
    obtain⟨q1,q2⟩:=p i j row _ e1 (List.getElem?_eq_getElem sL)
    exact⟨.inl q1,q2⟩
   ·obtain⟨row,e1,e2,e3⟩:=gA i aV hi
    have sL:j < row.length:=by rw [e3];exact (List.getElem?_eq_some_iff.1 hj).1
    exact ih i j row aV _ a' e1 hi (List.getElem?_eq_getElem sL) hj (pr i j row _ e1 (List.getElem?_eq_getElem sL))
 |@ip cs cs' hl h ih =>
  intro v hr
  cases hr with
  |@ip _ b o val p pr =>
   have gA:∀ (i:Nat) (a':AV),cs'[i]?=some a'->∃ a,cs[i]?=some a:=fun i a' hi=>⟨_,List.getElem?_eq_getElem (Nat.lt_of_lt_of_le (List.getElem?_eq_some_iff.1 hi).1 hl)⟩
   refine .ip (val:=val) (fun i a' hi=>?_) (fun i a' hi=>?_)
   ·obtain⟨a,ha⟩:=gA i a' hi
    exact⟨.inl (p i a ha).1,(p i a ha).2⟩
   ·obtain⟨a,ha⟩:=gA i a' hi
    exact ih i a a' ha hi (pr i a ha)
theorem ah.of_wp {f:FuncId}{fn:Func}{c:Code}{args:List AV}(hf:P.funcs[f]?=some fn) (hb:fn.body=some c) (hc:∀ (xs:Array Value) (w:World),(callFunc f xs).run P w=.ok (.enter f xs) w)
  (hn:fn.ntmps=n) (aY:args.length<=n) (hp:Pure r) (h:∃ ex aw S',cu P w0 false n c ⟨j_ args,[]⟩ ad.none_ ex aw S'/\Fh P fn.results (fun r' S=>bp S r' r) ex aw S'):ah P w0 f args r:=by
 obtain⟨r',S',h1,h2⟩:=aK.of_wp hf hb hc hn aY h
 refine⟨hp,ad.none_,h1.1,fun F m A g aQ w hF hS hA=>(h1.2 F m A g aQ w hF hS hA).mono ?_⟩
 rintro e w' ⟨v,g',rfl,h3,h4,h5⟩
 have hk:∀ b q,(g'.still S').fz b q->g.fz b q\/A b:=by
  rintro b q (hq|⟨k,sz,rows,fz,ex,hk,aO,rfl,hq⟩)
  ·exact h5.gF b q hq
  ·exact .inr (h4.bR k _ hk aO).1
 have hr:=h2.rep h4 h3
 obtain⟨g2,ug⟩:∃ g2:Gh,g2=⟨g.ob,g.cp,fun _=>False,(g'.still S').fz,g.fo⟩:=⟨_,rfl⟩
 have wi:∀ k,¬ g.al k:=fun k hk=>absurd (hS.al k hk) (Nat.not_lt_zero k)
 have hL:Later g w g2 w':=by
  rw [ug]
  exact⟨fun k hk=>wi k hk,fun _ _=>rfl,fun _ _=>rfl,fun b q hq=>.inl (h5.fz b q hq),h5.cell⟩
 refine⟨v,g2,rfl,?_,?_,{ hL with size:=h5.size,a7:=h5.a7,gF:=by rw [ug];exact hk }⟩
 ·rw [ug]
  exact aH.pure (g:=g'.still S') (g':=⟨g.ob,g.cp,fun _=>False,(g'.still S').fz,g.fo⟩) (fun _ _ h=>h) (fun _ _ _=>rfl) hr hp
 ·have e0:∀ k o,¬ ad.none_.get k=some o:=fun k o h=>by simp [ad.none_] at h
  refine⟨h4.base,h4.up,h4.lo,fun k hk=>?_,fun k o hk=>absurd hk (e0 k o),fun j k o p hj=>absurd hj (e0 j o),?_,fun b q hb=>hL.fz b q (hS.nS b q hb),fun k J hk=>absurd hk (e0 k _),fun k J j o hk=>absurd hk (e0 k _),fun j k J J' hj=>absurd hj (e0 j _)⟩
  ·rw [ug] at hk
   exact hk.elim
  ·rw [ug]
   rintro b q (hq|⟨k,sz,rows,fz,ex,hk,aO,rfl,hq⟩)
   ·exact h4.cC b q hq
   ·exact (h4.bR k _ hk aO).2.1
theorem St.inner {A:Nat->Prop}{g:Gh}{w:World}(hS:St w0 A g S w) (fz:Nat->Nat->Prop) (h1:∀ b q,g.fz b q->fz b q) (h2:∀ b q,fz b q->b < w.heap.size):St w0 (fun b=>w.heap.size<=b) ⟨g.ob,g.cp,fun _=>False,fz,g.fo⟩ ad.none_ w :=
 have e0:∀ k o,¬ ad.none_.get k=some o:=fun k o h=>by simp [ad.none_] at h
 ⟨hS.base,fun b hb=>hb,fun b hb=>Nat.le_trans hS.base.size hb,fun k hk=>hk.elim,fun k o hk=>absurd hk (e0 k o),fun j k o p hj=>absurd hj (e0 j o),h2,fun b q hb=>h1 b q (hS.nS b q hb),fun k J hk=>absurd hk (e0 k _),fun k J j o hk=>absurd hk (e0 k _),fun j k J J' hj=>absurd hj (e0 j _)⟩
theorem St.outer {A:Nat->Prop}{g g1:Gh}{w w':World}{fz:Nat->Nat->Prop}(hS:St w0 A g S w) (h1:∀ b q,g.fz b q->fz b q) (h2:∀ b q,fz b q->b < w.heap.size) (eT:St w0 (fun b=>w.heap.size<=b) g1 S' w') (hE:Ext (fun b=>w.heap.size<=b) ⟨g.ob,g.cp,fun _=>False,fz,g.fo⟩ w g1 w') :
  Ext A g w ⟨g.ob,g.cp,g.al,fun b q=>g.fz b q\/(w.heap.size<=b/\g1.fz b q),g.fo⟩ w'/\St w0 A ⟨g.ob,g.cp,g.al,fun b q=>g.fz b q\/(w.heap.size<=b/\g1.fz b q),g.fo⟩ S w':=by
 have hold:∀ b,b < w.heap.size->w'.heap[b]?=w.heap[b]?:=fun b hb=>hE.a7 b hb (by omega)
 have hL:Later g w ⟨g.ob,g.cp,g.al,fun b q=>g.fz b q\/(w.heap.size<=b/\g1.fz b q),g.fo⟩ w':=⟨fun _ h=>h,fun _ _=>rfl,fun _ _=>rfl,fun _ _ h=>.inl h,fun b q hq=>World.cell?_of_block (hold b (hS.cC b q hq))⟩
 have pQ:Ext A g w ⟨g.ob,g.cp,g.al,fun b q=>g.fz b q\/(w.heap.size<=b/\g1.fz b q),g.fo⟩ w':={ hL with size:=hE.size,a7:=fun b hb _=>hold b hb,gF:=fun b q hq=>hq.elim .inl fun h=>.inr (hS.up b h.1) }
 refine⟨pQ,⟨eT.base,fun b hb=>hS.up b (Nat.le_trans hE.size hb),hS.lo,hS.al,fun k o hk ha=>?_,hS.inj,fun b q hq=>?_,fun b q hb=>.inl (hS.nS b q hb),fun k J hk ha c hc=>⟨(hS.ic k J hk ha c hc).1,Nat.lt_of_lt_of_le (hS.ic k J hk ha c hc).2 hE.size⟩,hS.jW,hS.lV⟩⟩
 ·obtain⟨k2,k3,k4⟩:=hS.bR k o hk ha
  exact⟨k2,Nat.lt_of_lt_of_le k3 hE.size,k4.later hL (hold _ k3) (fun q hq=>hq.elim id fun h=>absurd h.1 (by show ¬ w.heap.size<=g.ob k;omega)) fun J hJ=>⟨rfl,hE.size,fun c hc=>hold c (hS.ic k J (by rw [<-hJ];exact hk) ha c hc).2,fun c q hc hq=>hq.elim id fun h=>absurd h.1 (by have:=(hS.ic k J (by rw [<-hJ];exact hk) ha c hc).2;omega)⟩⟩
 ·rcases hq with hq|hq
  ·exact Nat.lt_of_lt_of_le (hS.cC b q hq) hE.size
  ·exact eT.cC b q hq.2
inductive rH:AV->Prop where
 |v {x:Value}:rH (.v x)
 |aE {l:List AV}(h:∀ a ∈ l,rH a):rH (.aE l)
 |agg {l:List AV}(h:∀ a ∈ l,rH a):rH (.agg l)
theorem aH.alz {g g':Gh}{w w':World}{a:AV}(hs:rH a):∀ {x:Value},aH g w a x->aH g' w' a x:=by
 induction hs with
 |v=>intro x h;cases h;exact .v
 |aE hl ih=>intro x h;cases h with|aE h1 h2=>exact .aE h1 fun i a y ha hy=>ih _ (List.mem_of_getElem? ha) (h2 i a y ha hy)
 |agg hl ih=>intro x h;cases h with|agg h1 h2=>exact .agg h1 fun i a y ha hy=>ih _ (List.mem_of_getElem? ha) (h2 i a y ha hy)
theorem ah.A3 {f:FuncId}{args:List AV}(h:ah P w0 f args r) (hp:∀ a ∈ args,Pure a) (S:ad):aK P w0 f args S r S:=by
 obtain⟨xG,S1,h1,h2⟩:=h
 refine⟨h1,fun F m A g aQ w hF hS hA=>(h2 F m _ _ aQ w hF (hS.inner g.fz (fun _ _ h=>h) hS.cC) ⟨hA.1,fun i a x ha hx=>aH.pure (g:=g) (g':=⟨g.ob,g.cp,fun _=>False,g.fz,g.fo⟩) (fun _ _ h=>h) (fun _ _ _=>rfl) (hA.2 i a x ha hx) (hp a (List.mem_of_getElem? ha))⟩).mono ?_⟩
 rintro e w' ⟨v,g1,rfl,h3,h4,h5⟩
 obtain⟨hE,cQ⟩:=hS.outer (fun _ _ h=>h) hS.cC h4 h5
 refine⟨v,_,rfl,?_,cQ,hE⟩
 refine aH.pure (g:=g1) (fun b q hq=>?_) (fun _ _ _=>rfl) h3 xG
 rcases h5.gF b q hq with h|h
 ·exact .inl h
 ·exact .inr ⟨h,hq⟩
theorem ah.QU {f:FuncId}{args ec:List AV}(h:ah P w0 f args r) (hp:∀ a ∈ args,Pure a) (hs:rH r) (S:ad) (hl:ec.length=args.length) (hf:∀ (i:Nat) (a0 a:AV),ec[i]?=some a0->args[i]?=some a->bp S a0 a):aK P w0 f ec S r S:=by
 obtain⟨xG,S1,h1,h2⟩:=h
 refine⟨h1,fun F m A g aQ w hF hS hA=>?_⟩
 have aA:∀ b q,(g.still S).fz b q->b < w.heap.size:=by
  rintro b q (hq|⟨k,sz,rows,fz,ex,hk,aO,rfl,hq⟩)
  ·exact hS.cC b q hq
  ·exact (hS.bR k _ hk aO).2.1
 refine (h2 F m _ _ aQ w hF (hS.inner (g.still S).fz (fun _ _ h=>.inl h) aA) ⟨hA.1.trans hl,fun i a x ha hx=>?_⟩).mono ?_
 ·have hi:i < ec.length:=by rw [hl];exact (List.getElem?_eq_some_iff.1 ha).1
  have FO:=List.getElem?_eq_getElem hi
  exact aH.pure (g:=g.still S) (g':=⟨g.ob,g.cp,fun _=>False,(g.still S).fz,g.fo⟩) (fun _ _ h=>h) (fun _ _ _=>rfl) ((hf i _ a FO ha).rep hS (hA.2 i _ x FO hx)) (hp a (List.mem_of_getElem? ha))
 ·rintro e w' ⟨v,g1,rfl,h3,h4,h5⟩
  obtain⟨hE,cQ⟩:=hS.outer (fun _ _ h=>.inl h) aA h4 h5
  exact⟨v,_,rfl,h3.alz hs,cQ,hE⟩
end
section
variable {P:Program}{w0:World}{n:Nat}{o:Oper}{α β:AA}{S S':ad}{r:AV}
theorem qv {γ δ:Type}{l:Array γ}{f g:γ->δ}(h:∀ x ∈ l,f x=g x):l.toList.map f=l.toList.map g:=List.map_congr_left fun x hx=>h x (by simpa using hx)
theorem P7 {op:Op}{K:AV->ad->Prop}(h:∀ x ∈ op.operands,α.ev x=β.ev x) (H:aX P w0 op α S K):aX P w0 op β S K:=by
 cases op with
 |move x=>simp only [aX,aZ] at H ⊢;rw [<-h x (by simp [Op.operands])];exact H
 |assign x=>simp only [aX,aZ] at H ⊢;rw [<-h x (by simp [Op.operands])];exact H
 |pick c a b=>simp only [aX,aZ] at H ⊢;rw [<-h c (by simp [Op.operands]),<-h a (by simp [Op.operands]),<-h b (by simp [Op.operands])];exact H
 |alloc e=>exact H
 |box e x=>simp only [aX,aZ] at H ⊢;rw [<-h x (by simp [Op.operands])];exact H
 |build t parts =>
  simp only [aX,aZ] at H ⊢
  have e:(parts.toList.map fun (i,x)=>(i,α.ev x))=parts.toList.map fun (i,x)=>(i,β.ev x):=List.map_congr_left fun p hp=>by
   have:=h p.2 (by simp only [Op.operands,List.mem_toArray,List.mem_map];exact⟨p,hp,rfl⟩)
   show (p.1,α.ev p.2)=(p.1,β.ev p.2)
   rw [this]
  rw [<-e]
  exact H
 |buildSlice t len parts =>
  simp only [aX,aZ] at H ⊢
  have e:(parts.toList.map fun (i,x)=>(i,α.ev x))=parts.toList.map fun (i,x)=>(i,β.ev x):=List.map_congr_left fun p hp=>by
   have:=h p.2 (by simp only [Op.operands,List.mem_toArray,List.mem_map];exact⟨p,hp,rfl⟩)
   show (p.1,α.ev p.2)=(p.1,β.ev p.2)
   rw [this]
  rw [<-e]
  exact H
 |load t x=>simp only [aX,aZ] at H ⊢;rw [<-h x (by simp [Op.operands])];exact H
 |store t x b=>simp only [aX,aZ] at H ⊢;rw [<-h x (by simp [Op.operands]),<-h b (by simp [Op.operands])];exact H
 |binOp op t x y ty=>simp only [aX,aZ] at H ⊢;rw [<-h x (by simp [Op.operands]),<-h y (by simp [Op.operands])];exact H
 |unOp op t x=>simp only [aX,aZ] at H ⊢;rw [<-h x (by simp [Op.operands])];exact H
 |convert src dst x=>simp only [aX,aZ] at H ⊢;rw [<-h x (by simp [Op.operands])];exact H
 |fieldAddr s x f=>simp only [aX,aZ] at H ⊢;rw [<-h x (by simp [Op.operands])];exact H
 |field t x f=>simp only [aX,aZ] at H ⊢;rw [<-h x (by simp [Op.operands])];exact H
 |indexAddr t x i=>simp only [aX,aZ] at H ⊢;rw [<-h x (by simp [Op.operands]),<-h i (by simp [Op.operands])];exact H
 |index t x i=>simp only [aX,aZ] at H ⊢;rw [<-h x (by simp [Op.operands]),<-h i (by simp [Op.operands])];exact H
 |slice t x lo hi mx =>
  simp only [aX,aZ] at H ⊢
  have e:∀ z:Option Operand,(∀ y ∈ z,y ∈ (Op.slice t x lo hi mx).operands)->z.map α.ev=z.map β.ev:=by
   intro z hz
   cases z with
   |none=>rfl
   |some y=>simp only [Option.map_some];rw [h y (hz y rfl)]
  rw [<-h x (by simp [Op.operands]),<-e lo (fun y hy=>by simp [Op.operands];simp at hy;simp [hy]),<-e hi (fun y hy=>by simp [Op.operands];simp at hy;simp [hy]),<-e mx (fun y hy=>by simp [Op.operands];simp at hy;simp [hy])]
  exact H
 |extract x i=>simp only [aX,aZ] at H ⊢;rw [<-h x (by simp [Op.operands])];exact H
 |makeFunc f first cap =>
  simp only [aX,aZ] at H ⊢
  rw [<-qv (l:=first) fun x hx=>h x (by simp [Op.operands,hx]),<-qv (l:=cap) fun x hx=>h x (by simp [Op.operands,hx])]
  exact H
 |nilCheck x=>simp only [aX,aZ] at H ⊢;rw [<-h x (by simp [Op.operands])];exact H
 |makeSlice t l c=>simp only [aX,aZ] at H ⊢;rw [<-h l (by simp [Op.operands]),<-h c (by simp [Op.operands])];exact H
 |range t x=>simp only [aX,aZ] at H ⊢;rw [<-h x (by simp [Op.operands])];exact H
 |next x b=>simp only [aX,aZ] at H ⊢;rw [<-h x (by simp [Op.operands])];exact H
 |call c =>
  have e:c.args.toList.map α.ev=c.args.toList.map β.ev:=qv fun x hx=>h x (by simp [Op.operands,Call.operands,hx])
  simp only [aX,aZ] at H ⊢
  split at H
  ·rename_i f hc
   rw [<-e,<-h f (by simp [Op.operands,Call.operands,hc])]
   exact H
  ·rw [<-e]
   exact H
  ·exact H.elim
 |_=>exact H.elim
def lX:Op->Bool
 |.move _|.assign _|.pick ..|.build ..|.buildSlice ..|.binOp ..|.unOp ..|.convert ..|.fieldAddr ..|.field ..|.indexAddr ..|.index ..|.slice ..|.extract ..|.makeFunc ..|.nilCheck _=>true
 |.call c=>match c.callee with|.builtin .len|.builtin .min|.builtin .max=>true|_=>false
 |_=>false
def wv:Op->Bool
 |.load ..=>false
 |.call c=>match c.callee with|.value _=>false|.builtin .len|.builtin .min|.builtin .max=>false|_=>true
 |o=>!lX o
theorem acq {t:Bool}{X Y:Prop}(h:br t X Y):(t=true/\X)\/(t=false/\Y):=by cases t;exact .inr ⟨rfl,h⟩;exact .inl ⟨rfl,h⟩
def rB (r:AV) (S:ad) (r':AV) (S':ad):Prop:=r'=r/\S'=S
theorem TE {op:Op}{K:AV->ad->Prop}(hp:lX op=true) (h:aX P w0 op α S K):∃ r,K r S/\∀ S',aX P w0 op α S' (rB r S'):=by
 cases op with
 |move x=>exact⟨_,h,fun S'=>⟨rfl,rfl⟩⟩
 |assign x=>exact⟨_,h,fun S'=>⟨rfl,rfl⟩⟩
 |pick c a b =>
  simp only [aX,aZ] at h ⊢
  split at h
  ·rcases acq h with ⟨rfl,h⟩|⟨rfl,h⟩
   ·exact⟨_,h,fun S'=>⟨rfl,rfl⟩⟩
   ·exact⟨_,h,fun S'=>⟨rfl,rfl⟩⟩
  ·exact h.elim
 |build t parts =>
  simp only [aX,aZ] at h ⊢
  split at h
  ·exact⟨_,h,fun S'=>⟨rfl,rfl⟩⟩
  ·exact h.elim
 |buildSlice t len parts =>
  simp only [aX,aZ] at h ⊢
  split at h
  ·split at h
   ·split at h
    ·split at h
     ·exact⟨_,h,fun S'=>⟨rfl,rfl⟩⟩
     ·exact h.elim
    ·exact h.elim
   ·exact h.elim
  ·exact h.elim
 |binOp op t x y ty =>
  simp only [aX,aZ] at h ⊢
  split at h
  ·split at h
   ·split at h
    ·obtain⟨d,hd,hK⟩:=h
     exact⟨_,hK,fun S'=>⟨d,hd,⟨rfl,rfl⟩⟩⟩
    ·exact h.elim
   ·split at h
    ·exact⟨_,h.out,fun S'=>rG.mk ⟨rfl,rfl⟩⟩
    ·exact h.elim
  ·split at h
   ·exact⟨_,h.2,fun S'=>⟨h.1,⟨rfl,rfl⟩⟩⟩
   ·split at h
    ·exact⟨_,h.out,fun S'=>rG.mk ⟨rfl,rfl⟩⟩
    ·exact h.elim
  ·split at h
   ·exact⟨_,h.out,fun S'=>rG.mk ⟨rfl,rfl⟩⟩
   ·exact h.elim
  ·exact h.elim
 |unOp op t x =>
  simp only [aX,aZ] at h ⊢
  split at h
  ·exact⟨_,h,fun S'=>⟨rfl,rfl⟩⟩
  ·obtain⟨d,hd,hK⟩:=h
   exact⟨_,hK,fun S'=>⟨d,hd,⟨rfl,rfl⟩⟩⟩
  ·exact h.elim
 |convert src dst x =>
  simp only [aX,aZ] at h ⊢
  split at h
  ·obtain⟨d,hd,hK⟩:=h
   exact⟨_,hK,fun S'=>⟨d,hd,⟨rfl,rfl⟩⟩⟩
  ·exact⟨_,h,fun S'=>⟨rfl,rfl⟩⟩
  ·exact h.elim
 |fieldAddr s x f =>
  simp only [aX,aZ] at h ⊢
  split at h
  ·split at h
   ·split at h
    ·split at h
     ·exact⟨_,h,fun S'=>⟨rfl,rfl⟩⟩
     ·exact⟨_,h,fun S'=>⟨rfl,rfl⟩⟩
     ·exact h.elim
    ·exact h.elim
   ·exact h.elim
  ·exact h.elim
 |field t x f =>
  simp only [aX,aZ] at h ⊢
  split at h
  ·split at h
   ·split at h
    ·split at h
     ·exact⟨_,h,fun S'=>⟨rfl,rfl⟩⟩
     ·exact h.elim
    ·exact h.elim
   ·exact h.elim
  ·exact h.elim
 |indexAddr t x i =>
  simp only [aX,aZ] at h ⊢
  split at h
  ·split at h
   ·split at h
    ·exact⟨_,h.2,fun S'=>⟨h.1,⟨rfl,rfl⟩⟩⟩
    ·exact h.elim
   ·exact h.elim
  ·exact⟨_,h.2.2.2,fun S'=>⟨h.1,h.2.1,h.2.2.1,⟨rfl,rfl⟩⟩⟩
  ·split at h
   ·exact⟨_,h.2.2,fun S'=>⟨h.1,h.2.1,⟨rfl,rfl⟩⟩⟩
   ·exact h.elim
  ·split at h
   ·exact⟨_,h.2.2,fun S'=>⟨h.1,h.2.1,⟨rfl,rfl⟩⟩⟩
   ·exact h.elim
  ·exact h.elim
 |index t x i =>
  simp only [aX,aZ] at h ⊢
  split at h
  ·split at h
   ·exact⟨_,h,fun S'=>⟨rfl,rfl⟩⟩
   ·exact h.elim
  ·split at h
   ·split at h
    ·exact⟨_,h.2.2,fun S'=>⟨h.1,h.2.1,⟨rfl,rfl⟩⟩⟩
    ·exact h.elim
   ·exact h.elim
  ·exact h.elim
 |slice t x lo hi mx =>
  simp only [aX,kZ] at h ⊢
  split at h
  ·split at h
   ·exact⟨_,h.2.2.2,fun S'=>⟨h.1,h.2.1,h.2.2.1,⟨rfl,rfl⟩⟩⟩
   ·exact h.elim
  ·split at h
   ·exact⟨_,h.2.2.2.2.2,fun S'=>⟨h.1,h.2.1,h.2.2.1,h.2.2.2.1,h.2.2.2.2.1,⟨rfl,rfl⟩⟩⟩
   ·exact h.elim
  ·split at h
   ·exact⟨_,h.2.2.2.2.2.2,fun S'=>⟨h.1,h.2.1,h.2.2.1,h.2.2.2.1,h.2.2.2.2.1,h.2.2.2.2.2.1,⟨rfl,rfl⟩⟩⟩
   ·exact h.elim
  ·split at h
   ·exact⟨_,h.2.2.2,fun S'=>⟨h.1,h.2.1,h.2.2.1,⟨rfl,rfl⟩⟩⟩
   ·rename_i e kd l hh hu zQ uF
    obtain⟨h1,h2,h3,h4,h5,h6⟩:=h
    by_cases c:l=hh
    ·exact⟨_,h5 c,fun S'=>⟨h1,h2,h3,h4,fun _=>⟨rfl,rfl⟩,fun c'=>absurd c (by omega)⟩⟩
    ·exact⟨_,h6 (by omega),fun S'=>⟨h1,h2,h3,h4,fun c'=>absurd c' c,fun _=>⟨rfl,rfl⟩⟩⟩
   ·exact h.elim
  ·split at h
   ·exact⟨_,h.2.2.2.2.2,fun S'=>⟨h.1,h.2.1,h.2.2.1,h.2.2.2.1,h.2.2.2.2.1,⟨rfl,rfl⟩⟩⟩
   ·exact h.elim
  ·exact h.elim
 |extract x i =>
  simp only [aX,aZ] at h ⊢
  split at h
  ·split at h
   ·exact⟨_,h,fun S'=>⟨rfl,rfl⟩⟩
   ·exact h.elim
  ·exact h.elim
 |makeFunc f first cap=>exact⟨_,h,fun S'=>⟨rfl,rfl⟩⟩
 |nilCheck x =>
  simp only [aX,aZ] at h ⊢
  split at h
  ·exact⟨_,h,fun S'=>⟨rfl,rfl⟩⟩
  ·exact⟨_,h,fun S'=>⟨rfl,rfl⟩⟩
  ·exact h.elim
 |call c =>
  simp only [lX] at hp
  simp only [aX,aZ] at h ⊢
  split at h
  ·rename_i f hc
   rw [hc] at hp
   cases hp
  ·rename_i b hc
   rw [hc] at hp
   simp only [lZ,aZ] at h ⊢
   split at h
   ·split at h
    ·split at h
     ·exact⟨_,h,fun S'=>⟨rfl,rfl⟩⟩
     ·exact h.elim
    ·exact h.elim
   ·cases hp
   ·split at h
    ·split at h
     ·exact⟨_,h,fun S'=>⟨rfl,rfl⟩⟩
     ·exact h.elim
    ·exact h.elim
   ·split at h
    ·split at h
     ·exact⟨_,h,fun S'=>⟨rfl,rfl⟩⟩
     ·exact h.elim
    ·exact h.elim
   ·exact h.elim
  ·exact h.elim
 |_=>cases hp
def AA.only (α:AA) (ts:List Tmp):AA:=⟨fun t=>if ts.contains t then α.tm t else .u,α.df⟩
theorem ew {ts:List Tmp}{x:Operand}(h:∀ t,x=.tmp t->t ∈ ts):(α.only ts).ev x=α.ev x:=by
 cases x with
 |tmp t =>
  show (if ts.contains t then α.tm t else .u)=α.tm t
  rw [if_pos (by simpa using h t rfl)]
 |_=>rfl
theorem bN.only {g:Gh}{w:World}{a:Act}(h:bN g w n α a) (ts:List Tmp):bN g w n (α.only ts) a:=by
 refine⟨h.size,fun t ht=>?_,fun t ht=>?_,h.df,h.rI⟩
 ·show aH g w (if ts.contains t then α.tm t else .u) _
  split
  ·exact h.tm t ht
  ·exact .u
 ·show (if ts.contains t then α.tm t else .u)=.u
  rw [h.out t ht]
  split<;>rfl
end
section
variable {P:Program}{w0:World}{n:Nat}{o:Oper}{α β:AA}{S S':ad}{r:AV}{ops:Array Oper}
def cB (o:Oper):List Tmp:=o.op.operands.toList.filterMap fun|.tmp t=>some t|_=>none
theorem ee {t:Tmp}(h:Operand.tmp t ∈ o.op.operands):t ∈ cB o:=by
 unfold cB
 rw [List.mem_filterMap]
 exact⟨.tmp t,by simpa using h,rfl⟩
theorem p_ {t:Tmp}(h:t ∈ cB o):t ∈ o.looksAt ops:=List.mem_append.2 (.inl h)
def GS (P:Program) (w0:World) (n:Nat) (ops:Array Oper) (i:Nat) (α:AA) (S:ad) (α1:AA) (S1:ad):Prop :=
 ∃ o,ops[i]?=some o/\(match o.dst with|some d=>Nat.blt d n|none=>true)=true /\
  ((∃ (j:Nat) (want:Bool) (b:Option Bool),o.guard=some (j,want)/\nU ops α j=some b/\b ≠ some want/\α1=α.put o.dst (.v undef)/\S1=S) \/
   ((o.guard=none\/∃ j want,o.guard=some (j,want)/\nU ops α j=some (some want))/\∃ r,α1=α.put o.dst r/\ef P w0 n o (α.only (cB o)) S r S1 /\
      (lX o.op=true->S1=S/\∀ S,ef P w0 n o (α.only (cB o)) S r S)/\(wv o.op=false->S1=S)))
theorem P8 {d:Option Tmp}{a:AV}{t:Tmp}(h:∀ e,d=some e->t ≠ e):(α.put d a).tm t=α.tm t:=by
 cases d with
 |none=>rfl
 |some e=>exact aC _ _ (h e rfl)
theorem acr {d:Option Tmp}{a:AV}:(α.put d a).df=α.df:=by cases d<;>rfl
theorem mw {d:Option Tmp}{a:AV}{ts:List Tmp}(h:∀ e,d=some e->e ∉ ts):(α.put d a).only ts=α.only ts:=by
 unfold AA.only
 rw [acr]
 congr 1
 funext t
 by_cases c:ts.contains t=true
 ·rw [if_pos c,if_pos c]
  exact P8 fun e he e2=>h e he (by rw [<-e2];simpa using c)
 ·rw [if_neg c,if_neg c]
theorem mq {d:Option Tmp}{a:AV}{j:Nat}(h:∀ e,d=some e->(ops[j]?).bind (·.dst) ≠ some e):nU ops (α.put d a) j=nU ops α j:=by
 unfold nU
 split
 ·rename_i t ht
  rw [P8 fun e he e2=>h e he (by rw [ht,e2])]
 ·rfl
theorem put_comm {d e:Option Tmp}{a b:AV}(h:∀ t,d=some t->e ≠ some t):(α.put d a).put e b=(α.put e b).put d a:=by
 cases d with
 |none=>rfl
 |some d =>
  cases e with
  |none=>rfl
  |some e =>
   have a_:e ≠ d:=fun he=>h d rfl (by rw [he])
   show (⟨a8 (a8 α.tm d a) e b,α.df⟩:AA)=⟨a8 (a8 α.tm e b) d a,α.df⟩
   congr 1
   funext t
   by_cases c1:t=e
   ·subst c1;rw [aq,aC _ _ a_,aq]
   ·rw [aC _ _ c1]
    by_cases c2:t=d
    ·subst c2;rw [aq,aq]
    ·rw [aC _ _ c2,aC _ _ c2,aC _ _ c1]
def NM (x y:Oper):Bool:=lX x.op || lX y.op || (!wv x.op && !wv y.op)
theorem GS.frame {i:Nat}{α1:AA}{S1:ad}{d:Option Tmp}{a:AV}(h:GS P w0 n ops i α S α1 S1) (hd:∀ o,ops[i]?=some o->∀ e,d=some e->e ∉ o.looksAt ops/\o.dst ≠ some e):GS P w0 n ops i (α.put d a) S (α1.put d a) S1:=by
 obtain⟨o,hi,hn,h⟩:=h
 have h1:∀ e,d=some e->e ∉ cB o:=fun e he hm=>(hd o hi e he).1 (p_ hm)
 have h2:∀ j want,o.guard=some (j,want)->∀ e,d=some e->(ops[j]?).bind (·.dst) ≠ some e:=by
  intro j want hg e he h3
  refine (hd o hi e he).1 (List.mem_append.2 (.inr ?_))
  rw [hg]
  simp only
  rw [h3]
  simp
 have hc:∀ x,(α.put o.dst x).put d a=(α.put d a).put o.dst x:=fun x=>(put_comm fun t ht e=>(hd o hi t ht).2 e).symm
 refine⟨o,hi,hn,?_⟩
 rcases h with ⟨j,want,b,hg,hy,a_,rfl,rfl⟩|⟨hg,r,rfl,h3,h4,h5⟩
 ·exact .inl ⟨j,want,b,hg,by rw [mq (h2 j want hg)];exact hy,a_,hc _,rfl⟩
 ·refine .inr ⟨?_,r,hc _,by rw [mw h1];exact h3,by rw [mw h1];exact h4,h5⟩
  rcases hg with hg|⟨j,want,hg,hy⟩
  ·exact .inl hg
  ·exact .inr ⟨j,want,hg,by rw [mq (h2 j want hg)];exact hy⟩
theorem GS.shape {i:Nat}{α1:AA}{S1:ad}(h:GS P w0 n ops i α S α1 S1):∃ o a,ops[i]?=some o/\α1=α.put o.dst a/\(wv o.op=false->S1=S)/\(lX o.op=true->S1=S):=by
 obtain⟨o,hi,hn,h⟩:=h
 rcases h with ⟨j,want,b,hg,hy,a_,rfl,rfl⟩|⟨hg,r,rfl,h3,h4,h5⟩
 ·exact⟨o,_,hi,rfl,fun _=>rfl,fun _=>rfl⟩
 ·exact⟨o,r,hi,rfl,h5,fun hp=>(h4 hp).1⟩
theorem GS.anyS {i:Nat}{α1:AA}{S1 T:ad}(h:GS P w0 n ops i α S α1 S1) (hp:∀ o,ops[i]?=some o->lX o.op=true):GS P w0 n ops i α T α1 T:=by
 obtain⟨o,hi,hn,h⟩:=h
 refine⟨o,hi,hn,?_⟩
 rcases h with ⟨j,want,b,hg,hy,a_,h1,h2⟩|⟨hg,r,h1,h3,h4,h5⟩
 ·exact .inl ⟨j,want,b,hg,hy,a_,h1,rfl⟩
 ·have h6:=(h4 (hp o hi)).2
  exact .inr ⟨hg,r,h1,h6 T,fun _=>⟨rfl,h6⟩,fun _=>rfl⟩
theorem GS.swap {i j:Nat}{oi oj:Oper}{α1 mW:AA}{S1 S2:ad}(hi:ops[i]?=some oi) (hj:ops[j]?=some oj) (qG:oi.apart ops oj=true) (hc:NM oi oj=true) (h:GS P w0 n ops i α S α1 S1) (k:GS P w0 n ops j α1 S1 mW S2) :
  ∃ sg x_,GS P w0 n ops j α S sg x_/\GS P w0 n ops i sg x_ mW S2:=by
 obtain⟨e1,e2,e3⟩:=Oper.apart_spec qG
 obtain⟨mY,a,fA,rfl,hwi,Pv⟩:=h.shape
 obtain rfl:mY=oi:=by rw [hi] at fA;exact (oJ_ fA).symm
 obtain⟨oZ,b,gp,rfl,hwj,hpj⟩:=k.shape
 obtain rfl:oZ=oj:=by rw [hj] at gp;exact (oJ_ gp).symm
 have kj:∀ T T2,GS P w0 n ops j (α.put mY.dst a) T ((α.put mY.dst a).put oZ.dst b) T2->GS P w0 n ops j α T (α.put oZ.dst b) T2:=by
  intro T T2 hk
  obtain⟨o,ho,hn,hk⟩:=hk
  obtain rfl:o=oZ:=by rw [hj] at ho;exact (oJ_ ho).symm
  have h1:∀ e,mY.dst=some e->e ∉ cB o:=fun e he hm=>e1 e he (p_ hm)
  have h2:∀ q want,o.guard=some (q,want)->∀ e,mY.dst=some e->(ops[q]?).bind (·.dst) ≠ some e:=by
   intro q want hg e he h3
   refine e1 e he (List.mem_append.2 (.inr ?_))
   rw [hg]
   simp only
   rw [h3]
   simp
  have inj:∀ x y:AV,(α.put mY.dst a).put o.dst x=(α.put mY.dst a).put o.dst y->α.put o.dst x=α.put o.dst y:=by
   intro x y jG
   cases oD:o.dst with
   |none=>rfl
   |some d =>
    rw [oD] at jG
    have:x=y:=by
     have h3:=congrArg (fun z:AA=>z.tm d) jG
     simpa [AA.put,aq] using h3
    rw [this]
  refine⟨o,ho,hn,?_⟩
  rcases hk with ⟨q,want,c,hg,hy,a_,h3,h4⟩|⟨hg,r,h3,h4,h5,h6⟩
  ·exact .inl ⟨q,want,c,hg,by rw [<-mq (h2 q want hg)];exact hy,a_,inj _ _ h3,h4⟩
  ·rw [mw h1] at h4 h5
   refine .inr ⟨?_,r,inj _ _ h3,h4,h5,h6⟩
   rcases hg with hg|⟨q,want,hg,hy⟩
   ·exact .inl hg
   ·exact .inr ⟨q,want,hg,by rw [<-mq (h2 q want hg)];exact hy⟩
 have ki:∀ T T2,GS P w0 n ops i α T (α.put mY.dst a) T2->GS P w0 n ops i (α.put oZ.dst b) T ((α.put mY.dst a).put oZ.dst b) T2:=fun T T2 h'=>h'.frame fun o ho e he=>by
  obtain rfl:o=mY:=by rw [hi] at ho;exact (oJ_ ho).symm
  exact⟨e3 e he,fun h3=>e2 e h3 he⟩
 simp only [NM,Bool.or_eq_true,Bool.and_eq_true,Bool.not_eq_true'] at hc
 rcases hc with (hp|hp)|⟨sI,Bc⟩
 ·
  have eT:=Pv hp
  subst eT
  exact⟨_,S2,kj _ _ k,ki _ _ (h.anyS (fun o ho=>by rw [hi] at ho;rw [<-oJ_ ho];exact hp))⟩
 ·have ld:=hpj hp
  subst ld
  exact⟨_,S,kj _ _ (k.anyS (T:=S) (fun o ho=>by rw [hj] at ho;rw [<-oJ_ ho];exact hp)),ki _ _ h⟩
 ·have h1:=hwi sI
  have h2:=hwj Bc
  subst h1 h2
  exact⟨_,_,kj _ _ k,ki _ _ h⟩
inductive o4 (P:Program) (w0:World) (n:Nat) (ops:Array Oper):List Nat->AA->ad->AA->ad->Prop where
 |nil (α:AA) (S:ad):o4 P w0 n ops [] α S α S
 |cons {i:Nat}{rest:List Nat}{α α1 aw:AA}{S S1 S':ad}(h:GS P w0 n ops i α S α1 S1) (t:o4 P w0 n ops rest α1 S1 aw S'):o4 P w0 n ops (i::rest) α S aw S'
def sA (ops:Array Oper) (i j:Nat):Bool :=
 match ops[i]?,ops[j]? with
 |some oi,some oj=>oi.apart ops oj && NM oi oj
 |_,_=>false
theorem o4.front {j:Nat}:∀ {C1 C2:List Nat}{α aw:AA}{S S':ad},(∀ x ∈ C1,sA ops x j=true)->o4 P w0 n ops (C1++j::C2) α S aw S'->o4 P w0 n ops (j::(C1++C2)) α S aw S'
 |[],C2,α,aw,S,S',_,h=>h
 |x::C1,C2,α,aw,S,S',hx,h=>by
  cases h with
  |@cons _ _ _ α1 _ _ S1 _ h t =>
   have t':=o4.front (fun y hy=>hx y (by simp [hy])) t
   cases t' with
   |@cons _ _ _ mW _ _ S2 _ k t2 =>
    have hp:=hx x (by simp)
    unfold sA at hp
    split at hp
    ·rename_i oi oj hi hj
     simp only [Bool.and_eq_true] at hp
     obtain⟨sg,x_,h1,h2⟩:=h.swap hi hj hp.1 hp.2 k
     exact .cons h1 (.cons h2 t2)
    ·cases hp
theorem o4.perm:∀ {L C:List Nat}{α aw:AA}{S S':ad},C.Pairwise (· < ·)->L.Pairwise (fun y x=>x < y->sA ops x y=true)->(∀ x,x ∈ L ↔ x ∈ C)->L.Nodup->o4 P w0 n ops C α S aw S'->o4 P w0 n ops L α S aw S'
 |[],C,α,aw,S,S',_,_,hm,_,h=>by
  have:C=[]:=by
   cases C with
   |nil=>rfl
   |cons x C=>have:=(hm x).2 (by simp);cases this
  subst this
  exact h
 |y::L,C,α,aw,S,S',hC,hL,hm,hn,h=>by
  obtain⟨C1,C2,rfl⟩:=List.append_of_mem ((hm y).1 (by simp))
  rw [List.pairwise_cons] at hL
  rw [List.nodup_cons] at hn
  rw [List.pairwise_append,List.pairwise_cons] at hC
  obtain⟨p1,⟨p2,p3⟩,p4⟩:=hC
  have iM:∀ x ∈ C1,x < y:=fun x hx=>p4 x hx y (by simp)
  have cg:∀ x ∈ C2,y < x:=p2
  have fp:∀ x,x ∈ L ↔ x ∈ C1++C2:=by
   intro x
   have h0:=hm x
   simp only [List.mem_cons,List.mem_append] at h0 ⊢
   constructor
   ·intro hx
    rcases h0.1 (.inr hx) with h1|h1|h1
    ·exact .inl h1
    ·subst h1;exact absurd hx hn.1
    ·exact .inr h1
   ·intro hx
    have a_:x ≠ y:=by
     rintro rfl
     rcases hx with hx|hx
     ·exact absurd (iM x hx) (Nat.lt_irrefl _)
     ·exact absurd (cg x hx) (Nat.lt_irrefl _)
    rcases h0.2 (hx.elim .inl fun h=>.inr (.inr h)) with h1|h1
    ·exact absurd h1 a_
    ·exact h1
  have hf:=o4.front (fun x hx=>hL.1 x ((fp x).2 (by simp [hx])) (iM x hx)) h
  cases hf with
  |cons h1 h2 =>
   refine .cons h1 (o4.perm (L:=L) ?_ hL.2 fp hn.2 h2)
   rw [List.pairwise_append]
   exact⟨p1,p3,fun a ha b hb=>p4 a ha b (by simp [hb])⟩
theorem o4.yb:∀ {L:List Nat}{α aw:AA}{S S':ad},o4 P w0 n ops L α S aw S'->qd P w0 n ops L α S aw S'
 |[],_,_,_,_,.nil α S=>fun F m A g a w Q hF hS hA hQ=>hQ a w g hS hA (Ext.refl ..)
 |i::rest,α,aw,S,S',.cons (α1:=α1) (S1:=S1) h t=>by
  have ih:=o4.yb t
  obtain⟨o,hi,hd,h⟩:=h
  rcases h with ⟨j,want,b,hg,hy,a_,rfl,rfl⟩|⟨hg,r,rfl,h3,_,_⟩
  ·intro F m A g a w Q hF hS hA hQ
   have Dy:¬ Region.wanted o (yielded ops a.tmps)=true:=by simp [Region.wanted,hg,oe hA hy,a_]
   simp only [wpOpsIn,hi]
   rw [if_neg Dy]
   exact⟨fun f _=>hF.1 f,ih F m A g _ w Q hF hS (j9 hA hd .v) hQ⟩
  ·intro F m A g a w Q hF hS hA hQ
   have hw:Region.wanted o (yielded ops a.tmps)=true:=by
    rcases hg with hg|⟨j,want,hg,hy⟩
    ·simp [Region.wanted,hg]
    ·simp [Region.wanted,hg,oe hA hy]
   simp only [wpOpsIn,hi]
   rw [if_pos hw]
   refine⟨fun f _=>hF.1 f,h3 F m A g a w _ Q hF hS (hA.only _) fun v w' g' hr eR hE=>?_⟩
   exact ih F m A g' _ w' Q hF eR (j9 (hA.later hE.toLater) hd hr) fun a' jX tO h1 h2 h3=>hQ a' jX tO h1 h2 (hE.trans h3)
end
end Go.Proofs.YtgjfgekaclobaaaGreat
