import Derived.Orders
import Derived.Test.YtgphljokbodciaaGreatS4
namespace Go.Proofs.YtgphljokbodciaaGreat
set_option linter.unusedVariables false
set_option linter.unusedSimpArgs false
open Go.RowKit
section
variable {P:Program}{w0:World}{rd:Bool}{n:Nat}{α:AA}{S S':ae}{r:AV}
def kP (args:List AV) (t:Nat):AV:=(args[t]?).getD .u
theorem yG {g:Gh}{w:World}{args:List AV}{bO:Array Value}(h:jL g w args bO) (hn:args.length<=n):b7 g w n ⟨kP args,[]⟩ { tmps:=bO++Array.replicate (n - bO.size) undef,defers:=[] }:=by
 refine⟨by simp [h.1];omega,fun t ht=>?_,fun t ht=>?_,rfl,fun k hk=>by cases hk⟩
 ·show aL g w (kP args t) _
  unfold kP
  by_cases c:t < args.length
  ·have h1:=List.getElem?_eq_getElem c
   have c':t < bO.size:=by rw [h.1];exact c
   rw [h1,Array.getD_eq_getD_getElem?,Array.getElem?_append_left c',Array.getElem?_eq_getElem c']
   exact h.2 t _ _ h1 (Array.getElem?_eq_getElem c')
  ·rw [List.getElem?_eq_none (by omega)]
   exact .u
 ·show kP args t=.u
  unfold kP
  rw [List.getElem?_eq_none (by omega)]
  rfl
theorem St.take {A:Nat->Prop}{g:Gh}{w:World}{k:Nat}(hS:St w0 A g S w) (hk:S.get k=some .df) (ha:g.al k) :
  ∃ w',(Instr.takeDeferred (g.ob k)).run P w=.ok [] w'/\Ext A g w g w'/\St w0 A g (S.set k none) w':=by
 obtain⟨k2,k3,k4⟩:=hS.cH k _ hk ha
 have k4:w.heap[g.ob k]?=some (.deferred (some [])):=k4
 obtain⟨w',om⟩:∃ w':World,w'={ w with heap:=w.heap.setIfInBounds (g.ob k) (.deferred none) }:=⟨_,rfl⟩
 have cu:(Instr.takeDeferred (g.ob k)).run P w=.ok [] w':=by
  rw [om]
  simp [Instr.takeDeferred,getObj,setObj,Sem.run,k4]
 have bI:w'.heap.size=w.heap.size:=by rw [om];simp
 have uu:∀ b,b ≠ g.ob k->w'.heap[b]?=w.heap[b]?:=by
  intro b hb
  rw [om]
  simp only [Array.getElem?_setIfInBounds]
  rw [if_neg (Ne.symm hb)]
 have lN:∀ b q,w'.cell? ⟨b,q,none⟩=w.cell? ⟨b,q,none⟩:=by
  intro b q
  by_cases e:b=g.ob k
  ·subst e
   have h1:w'.heap[g.ob k]?=some (.deferred none):=by
    rw [om]
    simp [Array.getElem?_setIfInBounds,k3]
   simp [World.cell?,h1,k4]
  ·exact World.cell?_of_block (uu b e)
 have hL:Later g w g w':=⟨fun _ h=>h,fun _ _=>rfl,fun _ _=>rfl,fun _ _ h=>h,fun b q _=>lN b q⟩
 have hE:Ext A g w g w':={ hL with size:=by rw [bI];exact Nat.le_refl _,aT:=fun b hb hA=>uu b (fun e=>hA (by rw [e];exact k2)),gH:=fun _ _ h=>.inl h }
 have key:∀ j p,(S.set k none).get j=some p->j ≠ k/\S.get j=some p:=by
  intro j p hj
  have hj:bP S.get k none j=some p:=hj
  by_cases e:j=k
  ·subst e;rw [aG] at hj;cases hj
  ·rw [aN _ _ e] at hj;exact⟨e,hj⟩
 refine⟨w',cu,hE,hS.next hE (by rw [om]) (by rw [om]) (by rw [om]) hS.al (fun j p hj aj=>?_) (fun i j p q hi hj ai aj e=>hS.inj i j p q (key i p hi).2 (key j q hj).2 ai aj e) (fun b q hf=>by rw [bI];exact hS.cK b q hf) rfl (fun j J hj aj=>⟨(key j _ hj).2,aj⟩) (fun j p hj aj=>.inr ⟨j,p,aj,(key j p hj).2,rfl,.inl rfl⟩)⟩
 obtain⟨bH,hj⟩:=key j p hj
 obtain⟨h2,h3,h4⟩:=hS.cH j p hj aj
 exact⟨h2,by rw [bI];exact h3,h4.later hL (uu _ (fun e=>bH (hS.inj j k p _ hj hk aj ha e))) (fun _ h=>h) fun J hJ=>⟨rfl,by rw [bI];exact Nat.le_refl _,fun c hc=>uu c fun e=>hS.j2 j J k _ (by rw [<-hJ];exact hj) aj hk ha (fun e'=>bH e'.symm) (by rw [<-e];exact hc),fun _ _ _ h=>h⟩⟩
theorem BX {F:Fence}{m:Nat}{A:Nat->Prop}{fn:Func}{tmps:Array Value}{R:Ending->World->Prop}:∀ (ks:List DE) {S:ae}{g:Gh}{w:World},St w0 A g S w->vT S ks=true->(∀ d ∈ ks,g.al d.k) ->
  (∀ w',St w0 A g (iV S ks) w'->Ext A g w g w'->∃ v,(results fn tmps).run P w'=.ok v w'/\R (.returned v) w')->LeavesInM F m P fn tmps R (ks.map (FE g.ob)) .returning w
 |[],S,g,w,hS,_,_,h=>h w hS (Ext.refl ..)
 |.del _ _ _::ks,S,g,w,hS,hd,ha,h=>by cases hd
 |.ob k::ks,S,g,w,hS,hd,ha,h=>by
  simp only [vT] at hd
  split at hd
  ·rename_i hk
   obtain⟨w',h1,h2,h3⟩:=hS.take (P:=P) hk (ha (.ob k) (by simp))
   exact⟨by simp,.inl ⟨g.ob k,w',rfl,h1,BX ks h3 hd (fun j hj=>ha j (by simp [hj])) fun rB h4 h5=>h rB h4 (h2.trans h5)⟩⟩
  ·cases hd
theorem aV.of_wp {f:FuncId}{fn:Func}{c:Code}{args:List AV}{R:AV->ae->Prop}(hf:P.funcs[f]?=some fn) (hb:fn.body=some c) (hc:∀ (xs:Array Value) (w:World),(callFunc f xs).run P w=.ok (.enter f xs) w)
  (hn:fn.ntmps=n) (bD:args.length<=n) (h:∃ ex aB S',cy P w0 false n c ⟨kP args,[]⟩ S ex aB S'/\Ek P fn.results R ex aB S'):∃ r S',aV P w0 f args S r S'/\R r S':=by
 obtain⟨ex,aB,S1,agn,kC⟩:=h
 have OJ:vT S1 aB.df=true/\∃ r,yw P fn.results aB (iV S1 aB.df)=some r/\R r (iV S1 aB.df)/\(ex=.normal\/ex=.ret):=by
  unfold Ek at kC
  split at kC
  ·split at kC
   ·rename_i h1 h2;exact⟨h1,_,h2,kC,.inl rfl⟩
   ·exact kC.elim
  ·split at kC
   ·rename_i h1 h2;exact⟨h1,_,h2,kC,.inr rfl⟩
   ·exact kC.elim
  ·exact kC.elim
 obtain⟨hdf,r,hr,hR,hex⟩:=OJ
 refine⟨r,iV S1 aB.df,⟨hc,fun F m A g bO w hF hS hA=>?_⟩,hR⟩
 have key:CallsIn F.plain m P f bO w fun e w'=>∃ v g',e=.returned v/\aL g' w' r v/\St w0 A g' (iV S1 aB.df) w'/\Ext A g w g' w':=by
  refine callsIn_of_wp_marks hf hb (hF.1 f) ?_ rfl
  rw [hn]
  refine wpIn_mono (agn F.plain m A g _ w hF.plain rfl hS (yG hA bD)) ?_
  rintro ex' a' w' ⟨rfl,g',h1,h2,h3⟩
  have hl:LeavesInM F.plain m P fn a'.tmps (fun e w'=>∃ v g',e=.returned v/\aL g' w' r v/\St w0 A g' (iV S1 aB.df) w'/\Ext A g w g' w') a'.defers .returning w':=by
   rw [h2.df]
   refine BX aB.df h1 hdf h2.sZ fun rB h4 h5=>?_
   obtain⟨v,h6,h7⟩:=J8 h4 (h2.later h5.toLater) hr
   exact⟨v,h6,v,g',rfl,h7,h4,h3.trans h5⟩
  rcases hex with rfl|rfl
  ·exact hl
  ·exact hl
 exact key
inductive aX (S:ae):AV->AV->Prop where
 |refl (a:AV):aX S a a
 |agg {l l':List AV}(hl:l.length=l'.length) (h:∀ (i:Nat) (a a':AV),l[i]?=some a->l'[i]?=some a'->aX S a a'):aX S (.agg l) (.agg l')
 |bc {l l':List AV}(hl:l.length=l'.length) (h:∀ (i:Nat) (a a':AV),l[i]?=some a->l'[i]?=some a'->aX S a a'):aX S (.bc l) (.bc l')
 |ob {k sz off len:Nat}{cx:Option Nat}{rows cL:List (List AV)}{fz:Nat}{ex:Bool}(hk:S.get k=some (.arr sz rows fz ex)) (hlen:off+len<=rows.length) (hl:cL.length=len)
   (h1:∀ (i:Nat) (row bA:List AV),rows[off+i]?=some row->cL[i]?=some bA->row.length=bA.length)
   (h:∀ (i j:Nat) (row bA:List AV) (a a':AV),rows[off+i]?=some row->cL[i]?=some bA->row[j]?=some a->bA[j]?=some a'->aX S a a'):aX S (.ob k sz off len cx) (.sl false cL)
 |pt {k sz i j:Nat}{rows:List (List AV)}{row bA:List AV}{fz:Nat}{ex:Bool}(hk:S.get k=some (.arr sz rows fz ex)) (hi:rows[i]?=some row) (hl:bA.length+j<=row.length)
   (h:∀ (q:Nat) (a a':AV),row[j+q]?=some a->bA[q]?=some a'->aX S a a'):aX S (.pt k sz i j) (.ip bA)
 |fn {f:Fn}{l l' m m':List AV}(hl:l.length=l'.length) (hm:m.length=m'.length) (h1:∀ (i:Nat) (a a':AV),l[i]?=some a->l'[i]?=some a'->aX S a a') (h2:∀ (i:Nat) (a a':AV),m[i]?=some a->m'[i]?=some a'->aX S a a'):aX S (.fn f l m) (.fn f l' m')
 |sl {ex:Bool}{rows cL:List (List AV)}(hl:rows.length=cL.length) (h1:∀ (i:Nat) (row bA:List AV),rows[i]?=some row->cL[i]?=some bA->row.length=bA.length)
   (h:∀ (i j:Nat) (row bA:List AV) (a a':AV),rows[i]?=some row->cL[i]?=some bA->row[j]?=some a->bA[j]?=some a'->aX S a a'):aX S (.sl ex rows) (.sl false cL)
 |ip {cs cs':List AV}(hl:cs'.length<=cs.length) (h:∀ (j:Nat) (a a':AV),cs[j]?=some a->cs'[j]?=some a'->aX S a a'):aX S (.ip cs) (.ip cs')
 |gr {k sz len:Nat}{rows cL:List (List AV)}{fz:Nat}{ex:Bool}(hk:S.get k=some (.arr sz rows fz ex)) (hlen:len<=rows.length) (hl:cL.length=len)
   (h1:∀ (i:Nat) (row bA:List AV),rows[i]?=some row->cL[i]?=some bA->row.length=bA.length)
   (h:∀ (i j:Nat) (row bA:List AV) (a a':AV),rows[i]?=some row->cL[i]?=some bA->row[j]?=some a->bA[j]?=some a'->aX S a a'):aX S (.gr k sz len) (.sl false cL)
theorem qP {g:Gh}{w:World}{k sz m:Nat}{v:Value}(h:aL g w (.gr k sz m) v):(m=0/\∃ A,v=.slice A 0 0)\/(g.al k/\∃ c,v=.slice (some ⟨g.ob k,0,none⟩) m c/\c=g.cp k/\m<=c):=by
 cases h with
 |iW=>exact .inl ⟨rfl,_,rfl⟩
 |gr hk hx hle=>exact .inr ⟨hk,_,rfl,hx,hle⟩
def Gh.still (g:Gh) (S:ae):Gh:=⟨g.ob,g.cp,g.al,fun b q=>g.fz b q\/∃ k sz rows fz ex,S.get k=some (.arr sz rows fz ex)/\g.al k/\b=g.ob k/\q < rows.length*sz,g.fo⟩
theorem aX.rep {A:Nat->Prop}{g:Gh}{w:World}(hS:St w0 A g S w) {a a':AV}(hf:aX S a a'):∀ {v:Value},aL g w a v->aL (g.still S) w a' v:=by
 have hL:Later g w (g.still S) w:=⟨fun _ h=>h,fun _ _=>rfl,fun _ _=>rfl,fun _ _ h=>.inl h,fun _ _ _=>rfl⟩
 induction hf with
 |refl a=>exact fun h=>h.later hL
 |@agg l l' hl h ih =>
  intro v hr
  obtain⟨cs,rfl,h1,h2⟩:=AF hr
  refine .agg (h1.trans hl) (fun i a' x cC hx=>?_)
  have hi:i < l.length:=by rw [hl];exact (List.getElem?_eq_some_iff.1 cC).1
  exact ih i _ a' (List.getElem?_eq_getElem hi) cC (h2 i _ x (List.getElem?_eq_getElem hi) hx)
 |@bc l l' hl h ih =>
  intro v hr
  cases hr with
  |bc h1 h2 =>
   refine .bc (h1.trans hl) (fun i a' x cC hx=>?_)
   have hi:i < l.length:=by rw [hl];exact (List.getElem?_eq_some_iff.1 cC).1
   exact ih i _ a' (List.getElem?_eq_getElem hi) cC (h2 i _ x (List.getElem?_eq_getElem hi) hx)
 |@ob k sz off len cx rows cL fz ex hk hlen hl h1 h ih =>
  intro v hr
  obtain⟨c,rfl,bG,_,_,_,hle⟩:=gA hr
  obtain⟨k2,k3,cs,ty,p1,p2,p3,p4,p5,p6,p7⟩:=hS.cH k _ hk bG
  subst hl
  have iJ:∀ (i:Nat) (bA:List AV),cL[i]?=some bA->∃ row,rows[off+i]?=some row/\row.length=sz/\bA.length=sz:=by
   intro i bA hi
   have au:off+i < rows.length:=by have:=(List.getElem?_eq_some_iff.1 hi).1;omega
   have e:=List.getElem?_eq_getElem au
   have e2:=(p5 _ _ e).1
   exact⟨_,e,e2,by rw [<-h1 i _ bA e hi];exact e2⟩
  by_cases hn:cL=[]
  ·subst hn
   exact .nil (fun h=>by cases h)
  ·refine .sl (sz:=sz) (val:=fun i j=>cs.getD ((off+i)*sz+j) undef) hn (fun h=>by cases h) hle (fun i bA hi=>(iJ i bA hi).choose_spec.2.2) (fun i j bA a' hi hj=>?_) (fun i j bA a' hi hj=>?_)
   ·obtain⟨row,e1,e2,e3⟩:=iJ i bA hi
    have uQ:j < sz:=by rw [<-e3];exact (List.getElem?_eq_some_iff.1 hj).1
    have iE:=List.getElem?_eq_getElem (show j < row.length by omega)
    obtain⟨x,hx,dO⟩:=(p5 _ _ e1).2 j _ iE
    have e4:off*sz+(i*sz+j)=(off+i)*sz+j:=by rw [Nat.add_mul];omega
    refine⟨.inr ⟨k,sz,rows,fz,ex,hk,bG,rfl,?_⟩,?_⟩
    ·rw [e4];exact jQ (List.getElem?_eq_some_iff.1 e1).1 uQ
    ·rw [cell_of_row _ _ _ cs ty (0,0) p1,e4,hx]
     simp [Array.getD_eq_getD_getElem?,hx]
   ·obtain⟨row,e1,e2,e3⟩:=iJ i bA hi
    have uQ:j < sz:=by rw [<-e3];exact (List.getElem?_eq_some_iff.1 hj).1
    have iE:=List.getElem?_eq_getElem (show j < row.length by omega)
    obtain⟨x,hx,dO⟩:=(p5 _ _ e1).2 j _ iE
    simp only [Array.getD_eq_getD_getElem?,hx,Option.getD_some]
    exact ih i j row bA _ a' e1 hi iE hj dO
 |@gr k sz len rows cL fz ex hk hlen hl h1 h ih =>
  intro v hr
  subst hl
  rcases qP hr with ⟨h0,A',rfl⟩|⟨bG,c,rfl,_,hle⟩
  ·have:cL=[]:=List.length_eq_zero_iff.1 h0
   subst this
   exact .nil (fun h=>by cases h)
  ·obtain⟨k2,k3,cs,ty,p1,p2,p3,p4,p5,p6,p7⟩:=hS.cH k _ hk bG
   have iJ:∀ (i:Nat) (bA:List AV),cL[i]?=some bA->∃ row,rows[i]?=some row/\row.length=sz/\bA.length=sz:=by
    intro i bA hi
    have au:i < rows.length:=by have:=(List.getElem?_eq_some_iff.1 hi).1;omega
    have e:=List.getElem?_eq_getElem au
    have e2:=(p5 _ _ e).1
    exact⟨_,e,e2,by rw [<-h1 i _ bA e hi];exact e2⟩
   by_cases hn:cL=[]
   ·subst hn
    exact .nil (fun h=>by cases h)
   ·refine .sl (sz:=sz) (val:=fun i j=>cs.getD (i*sz+j) undef) hn (fun h=>by cases h) hle (fun i bA hi=>(iJ i bA hi).choose_spec.2.2) (fun i j bA a' hi hj=>?_) (fun i j bA a' hi hj=>?_)
    ·obtain⟨row,e1,e2,e3⟩:=iJ i bA hi
     have uQ:j < sz:=by rw [<-e3];exact (List.getElem?_eq_some_iff.1 hj).1
     have iE:=List.getElem?_eq_getElem (show j < row.length by omega)
     obtain⟨x,hx,dO⟩:=(p5 _ _ e1).2 j _ iE
     refine⟨.inr ⟨k,sz,rows,fz,ex,hk,bG,rfl,?_⟩,?_⟩
     ·rw [Nat.zero_add];exact jQ (List.getElem?_eq_some_iff.1 e1).1 uQ
     ·rw [Nat.zero_add,cell_of_row w (g.ob k) _ cs ty (0,0) p1,hx]
      simp [Array.getD_eq_getD_getElem?,hx]
    ·obtain⟨row,e1,e2,e3⟩:=iJ i bA hi
     have uQ:j < sz:=by rw [<-e3];exact (List.getElem?_eq_some_iff.1 hj).1
     have iE:=List.getElem?_eq_getElem (show j < row.length by omega)
     obtain⟨x,hx,dO⟩:=(p5 _ _ e1).2 j _ iE
     simp only [Array.getD_eq_getD_getElem?,hx,Option.getD_some]
     exact ih i j row bA _ a' e1 hi iE hj dO
 |@pt k sz i j rows row bA fz ex hk hi hl h ih =>
  intro v hr
  cases hr with
  |pt bG =>
   obtain⟨k2,k3,cs,ty,p1,p2,p3,p4,p5,p6,p7⟩:=hS.cH k _ hk bG
   obtain⟨q1,q2⟩:=p5 i row hi
   have xf:∀ (q:Nat) (a':AV),bA[q]?=some a'->∃ x,cs[i*sz+(j+q)]?=some x/\aL (g.still S) w a' x:=by
    intro q a' cC
    have hq:=(List.getElem?_eq_some_iff.1 cC).1
    have e1:row[j+q]?=some (row[j+q]'(by omega)):=List.getElem?_eq_getElem (by omega)
    obtain⟨x,hx,dO⟩:=q2 _ _ e1
    exact⟨x,hx,ih q _ a' e1 cC dO⟩
   have au:i < rows.length:=(List.getElem?_eq_some_iff.1 hi).1
   refine .ip (val:=fun q=>cs.getD (i*sz+(j+q)) undef) (fun q a' cC=>?_) (fun q a' cC=>?_)
   ·obtain⟨x,hx,_⟩:=xf q a' cC
    have hq:=(List.getElem?_eq_some_iff.1 cC).1
    refine⟨.inr ⟨k,sz,rows,fz,ex,hk,bG,rfl,?_⟩,?_⟩
    ·rw [Nat.add_assoc];exact jQ au (by omega)
    ·rw [cell_of_row _ _ _ cs ty (0,0) p1,Nat.add_assoc,hx]
     simp [Array.getD_eq_getD_getElem?,hx]
   ·obtain⟨x,hx,dO⟩:=xf q a' cC
    simp only [Array.getD_eq_getD_getElem?,hx,Option.getD_some]
    exact dO
 |@fn f l l' m m' hl hm h1 h2 Dq yY =>
  intro v hr
  cases hr with
  |fn p1 p2 p3 p4 =>
   refine .fn (p1.trans hl) (p2.trans hm) (fun i a' x cC hx=>?_) (fun i a' x cC hx=>?_)
   ·have hi:i < l.length:=by rw [hl];exact (List.getElem?_eq_some_iff.1 cC).1
    exact Dq i _ a' (List.getElem?_eq_getElem hi) cC (p3 i _ x (List.getElem?_eq_getElem hi) hx)
   ·have hi:i < m.length:=by rw [hm];exact (List.getElem?_eq_some_iff.1 cC).1
    exact yY i _ a' (List.getElem?_eq_getElem hi) cC (p4 i _ x (List.getElem?_eq_getElem hi) hx)
 |@sl ex rows cL hl h1 h ih =>
  intro v hr
  cases hr with
  |nil hc =>
   have:cL=[]:=List.length_eq_zero_iff.1 (by rw [<-hl];rfl)
   subst this
   exact .nil (fun h=>by cases h)
  |@sl _ _ b o sz c val hn hc hle hll p pr =>
   have iJ:∀ (i:Nat) (bA:List AV),cL[i]?=some bA->∃ row,rows[i]?=some row/\row.length=sz/\row.length=bA.length:=by
    intro i bA hi
    have au:i < rows.length:=by rw [hl];exact (List.getElem?_eq_some_iff.1 hi).1
    have e:=List.getElem?_eq_getElem au
    exact⟨_,e,hll i _ e,h1 i _ bA e hi⟩
   rw [hl]
   refine .sl (sz:=sz) (val:=val) (fun e=>hn (List.length_eq_zero_iff.1 (by rw [hl,e];rfl))) (fun h=>by cases h) (by rw [<-hl];exact hle) (fun i bA hi=>?_) (fun i j bA a' hi hj=>?_) (fun i j bA a' hi hj=>?_)
   ·obtain⟨row,e1,e2,e3⟩:=iJ i bA hi
    omega
   ·obtain⟨row,e1,e2,e3⟩:=iJ i bA hi
    have uQ:j < row.length:=by rw [e3];exact (List.getElem?_eq_some_iff.1 hj).1
    obtain⟨q1,q2⟩:=p i j row _ e1 (List.getElem?_eq_getElem uQ)
    exact⟨.inl q1,q2⟩
   ·obtain⟨row,e1,e2,e3⟩:=iJ i bA hi
    have uQ:j < row.length:=by rw [e3];exact (List.getElem?_eq_some_iff.1 hj).1
    exact ih i j row bA _ a' e1 hi (List.getElem?_eq_getElem uQ) hj (pr i j row _ e1 (List.getElem?_eq_getElem uQ))
 |@ip cs cs' hl h ih =>
  intro v hr
  cases hr with
  |@ip _ b o val p pr =>
   have iJ:∀ (i:Nat) (a':AV),cs'[i]?=some a'->∃ a,cs[i]?=some a:=fun i a' hi=>⟨_,List.getElem?_eq_getElem (Nat.lt_of_lt_of_le (List.getElem?_eq_some_iff.1 hi).1 hl)⟩
   refine .ip (val:=val) (fun i a' hi=>?_) (fun i a' hi=>?_)
   ·obtain⟨a,ha⟩:=iJ i a' hi
    exact⟨.inl (p i a ha).1,(p i a ha).2⟩
   ·obtain⟨a,ha⟩:=iJ i a' hi
    exact ih i a a' ha hi (pr i a ha)
theorem ah.of_wp {f:FuncId}{fn:Func}{c:Code}{args:List AV}(hf:P.funcs[f]?=some fn) (hb:fn.body=some c) (hc:∀ (xs:Array Value) (w:World),(callFunc f xs).run P w=.ok (.enter f xs) w)
  (hn:fn.ntmps=n) (bD:args.length<=n) (hp:Pure r) (h:∃ ex aB S',cy P w0 false n c ⟨kP args,[]⟩ ae.none_ ex aB S'/\Ek P fn.results (fun r' S=>aX S r' r) ex aB S'):ah P w0 f args r:=by
 obtain⟨r',S',h1,h2⟩:=aV.of_wp hf hb hc hn bD h
 refine⟨hp,ae.none_,h1.1,fun F m A g bO w hF hS hA=>(h1.2 F m A g bO w hF hS hA).mono ?_⟩
 rintro e w' ⟨v,g',rfl,h3,h4,h5⟩
 have hk:∀ b q,(g'.still S').fz b q->g.fz b q\/A b:=by
  rintro b q (hq|⟨k,sz,rows,fz,ex,hk,bG,rfl,hq⟩)
  ·exact h5.gH b q hq
  ·exact .inr (h4.cH k _ hk bG).1
 have hr:=h2.rep h4 h3
 obtain⟨g2,vp⟩:∃ g2:Gh,g2=⟨g.ob,g.cp,fun _=>False,(g'.still S').fz,g.fo⟩:=⟨_,rfl⟩
 have uR:∀ k,¬ g.al k:=fun k hk=>absurd (hS.al k hk) (Nat.not_lt_zero k)
 have hL:Later g w g2 w':=by
  rw [vp]
  exact⟨fun k hk=>uR k hk,fun _ _=>rfl,fun _ _=>rfl,fun b q hq=>.inl (h5.fz b q hq),h5.cell⟩
 refine⟨v,g2,rfl,?_,?_,{ hL with size:=h5.size,aT:=h5.aT,gH:=by rw [vp];exact hk }⟩
 ·rw [vp]
  exact aL.pure (g:=g'.still S') (g':=⟨g.ob,g.cp,fun _=>False,(g'.still S').fz,g.fo⟩) (fun _ _ h=>h) (fun _ _ _=>rfl) hr hp
 ·have e0:∀ k o,¬ ae.none_.get k=some o:=fun k o h=>by simp [ae.none_] at h
  refine⟨h4.base,h4.up,h4.lo,fun k hk=>?_,fun k o hk=>absurd hk (e0 k o),fun j k o p hj=>absurd hj (e0 j o),?_,fun b q hb=>hL.fz b q (hS.nn b q hb),fun k J hk=>absurd hk (e0 k _),fun k J j o hk=>absurd hk (e0 k _),fun j k J J' hj=>absurd hj (e0 j _)⟩
  ·rw [vp] at hk
   exact hk.elim
  ·rw [vp]
   rintro b q (hq|⟨k,sz,rows,fz,ex,hk,bG,rfl,hq⟩)
   ·exact h4.cK b q hq
   ·exact (h4.cH k _ hk bG).2.1
theorem St.inner {A:Nat->Prop}{g:Gh}{w:World}(hS:St w0 A g S w) (fz:Nat->Nat->Prop) (h1:∀ b q,g.fz b q->fz b q) (h2:∀ b q,fz b q->b < w.heap.size):St w0 (fun b=>w.heap.size<=b) ⟨g.ob,g.cp,fun _=>False,fz,g.fo⟩ ae.none_ w :=
 have e0:∀ k o,¬ ae.none_.get k=some o:=fun k o h=>by simp [ae.none_] at h
 ⟨hS.base,fun b hb=>hb,fun b hb=>Nat.le_trans hS.base.size hb,fun k hk=>hk.elim,fun k o hk=>absurd hk (e0 k o),fun j k o p hj=>absurd hj (e0 j o),h2,fun b q hb=>h1 b q (hS.nn b q hb),fun k J hk=>absurd hk (e0 k _),fun k J j o hk=>absurd hk (e0 k _),fun j k J J' hj=>absurd hj (e0 j _)⟩
theorem St.outer {A:Nat->Prop}{g g1:Gh}{w w':World}{fz:Nat->Nat->Prop}(hS:St w0 A g S w) (h1:∀ b q,g.fz b q->fz b q) (h2:∀ b q,fz b q->b < w.heap.size) (fm:St w0 (fun b=>w.heap.size<=b) g1 S' w') (hE:Ext (fun b=>w.heap.size<=b) ⟨g.ob,g.cp,fun _=>False,fz,g.fo⟩ w g1 w') :
  Ext A g w ⟨g.ob,g.cp,g.al,fun b q=>g.fz b q\/(w.heap.size<=b/\g1.fz b q),g.fo⟩ w'/\St w0 A ⟨g.ob,g.cp,g.al,fun b q=>g.fz b q\/(w.heap.size<=b/\g1.fz b q),g.fo⟩ S w':=by
 have hold:∀ b,b < w.heap.size->w'.heap[b]?=w.heap[b]?:=fun b hb=>hE.aT b hb (by omega)
 have hL:Later g w ⟨g.ob,g.cp,g.al,fun b q=>g.fz b q\/(w.heap.size<=b/\g1.fz b q),g.fo⟩ w':=⟨fun _ h=>h,fun _ _=>rfl,fun _ _=>rfl,fun _ _ h=>.inl h,fun b q hq=>World.cell?_of_block (hold b (hS.cK b q hq))⟩
 have rC:Ext A g w ⟨g.ob,g.cp,g.al,fun b q=>g.fz b q\/(w.heap.size<=b/\g1.fz b q),g.fo⟩ w':={ hL with size:=hE.size,aT:=fun b hb _=>hold b hb,gH:=fun b q hq=>hq.elim .inl fun h=>.inr (hS.up b h.1) }
 refine⟨rC,⟨fm.base,fun b hb=>hS.up b (Nat.le_trans hE.size hb),hS.lo,hS.al,fun k o hk ha=>?_,hS.inj,fun b q hq=>?_,fun b q hb=>.inl (hS.nn b q hb),fun k J hk ha c hc=>⟨(hS.iD k J hk ha c hc).1,Nat.lt_of_lt_of_le (hS.iD k J hk ha c hc).2 hE.size⟩,hS.j2,hS.me⟩⟩
 ·obtain⟨k2,k3,k4⟩:=hS.cH k o hk ha
  exact⟨k2,Nat.lt_of_lt_of_le k3 hE.size,k4.later hL (hold _ k3) (fun q hq=>hq.elim id fun h=>absurd h.1 (by show ¬ w.heap.size<=g.ob k;omega)) fun J hJ=>⟨rfl,hE.size,fun c hc=>hold c (hS.iD k J (by rw [<-hJ];exact hk) ha c hc).2,fun c q hc hq=>hq.elim id fun h=>absurd h.1 (by have:=(hS.iD k J (by rw [<-hJ];exact hk) ha c hc).2;omega)⟩⟩
 ·rcases hq with hq|hq
  ·exact Nat.lt_of_lt_of_le (hS.cK b q hq) hE.size
  ·exact fm.cK b q hq.2
inductive qH:AV->Prop where
 |v {x:Value}:qH (.v x)
 |bc {l:List AV}(h:∀ a ∈ l,qH a):qH (.bc l)
 |agg {l:List AV}(h:∀ a ∈ l,qH a):qH (.agg l)
theorem aL.ago {g g':Gh}{w w':World}{a:AV}(hs:qH a):∀ {x:Value},aL g w a x->aL g' w' a x:=by
 induction hs with
 |v=>intro x h;cases h;exact .v
 |bc hl ih=>intro x h;cases h with|bc h1 h2=>exact .bc h1 fun i a y ha hy=>ih _ (List.mem_of_getElem? ha) (h2 i a y ha hy)
 |agg hl ih=>intro x h;cases h with|agg h1 h2=>exact .agg h1 fun i a y ha hy=>ih _ (List.mem_of_getElem? ha) (h2 i a y ha hy)
theorem ah.A7 {f:FuncId}{args:List AV}(h:ah P w0 f args r) (hp:∀ a ∈ args,Pure a) (S:ae):aV P w0 f args S r S:=by
 obtain⟨ju,S1,h1,h2⟩:=h
 refine⟨h1,fun F m A g bO w hF hS hA=>(h2 F m _ _ bO w hF (hS.inner g.fz (fun _ _ h=>h) hS.cK) ⟨hA.1,fun i a x ha hx=>aL.pure (g:=g) (g':=⟨g.ob,g.cp,fun _=>False,g.fz,g.fo⟩) (fun _ _ h=>h) (fun _ _ _=>rfl) (hA.2 i a x ha hx) (hp a (List.mem_of_getElem? ha))⟩).mono ?_⟩
 rintro e w' ⟨v,g1,rfl,h3,h4,h5⟩
 obtain⟨hE,cZ⟩:=hS.outer (fun _ _ h=>h) hS.cK h4 h5
 refine⟨v,_,rfl,?_,cZ,hE⟩
 refine aL.pure (g:=g1) (fun b q hq=>?_) (fun _ _ _=>rfl) h3 ju
 rcases h5.gH b q hq with h|h
 ·exact .inl h
 ·exact .inr ⟨h,hq⟩
theorem ah.Ms {f:FuncId}{args dN:List AV}(h:ah P w0 f args r) (hp:∀ a ∈ args,Pure a) (hs:qH r) (S:ae) (hl:dN.length=args.length) (hf:∀ (i:Nat) (a0 a:AV),dN[i]?=some a0->args[i]?=some a->aX S a0 a):aV P w0 f dN S r S:=by
 obtain⟨ju,S1,h1,h2⟩:=h
 refine⟨h1,fun F m A g bO w hF hS hA=>?_⟩
 have au:∀ b q,(g.still S).fz b q->b < w.heap.size:=by
  rintro b q (hq|⟨k,sz,rows,fz,ex,hk,bG,rfl,hq⟩)
  ·exact hS.cK b q hq
  ·exact (hS.cH k _ hk bG).2.1
 refine (h2 F m _ _ bO w hF (hS.inner (g.still S).fz (fun _ _ h=>.inl h) au) ⟨hA.1.trans hl,fun i a x ha hx=>?_⟩).mono ?_
 ·have hi:i < dN.length:=by rw [hl];exact (List.getElem?_eq_some_iff.1 ha).1
  have yF:=List.getElem?_eq_getElem hi
  exact aL.pure (g:=g.still S) (g':=⟨g.ob,g.cp,fun _=>False,(g.still S).fz,g.fo⟩) (fun _ _ h=>h) (fun _ _ _=>rfl) ((hf i _ a yF ha).rep hS (hA.2 i _ x yF hx)) (hp a (List.mem_of_getElem? ha))
 ·rintro e w' ⟨v,g1,rfl,h3,h4,h5⟩
  obtain⟨hE,cZ⟩:=hS.outer (fun _ _ h=>.inl h) au h4 h5
  exact⟨v,_,rfl,h3.ago hs,cZ,hE⟩
end
section
variable {P:Program}{w0:World}{n:Nat}{o:Oper}{α β:AA}{S S':ae}{r:AV}
theorem pH {γ δ:Type}{l:Array γ}{f g:γ->δ}(h:∀ x ∈ l,f x=g x):l.toList.map f=l.toList.map g:=List.map_congr_left fun x hx=>h x (by simpa using hx)
theorem L0 {op:Op}{K:AV->ae->Prop}(h:∀ x ∈ op.operands,α.ev x=β.ev x) (H:bm P w0 op α S K):bm P w0 op β S K:=by
 cases op with
 |move x=>simp only [bm,bp] at H ⊢;rw [<-h x (by simp [Op.operands])];exact H
 |assign x=>simp only [bm,bp] at H ⊢;rw [<-h x (by simp [Op.operands])];exact H
 |pick c a b=>simp only [bm,bp] at H ⊢;rw [<-h c (by simp [Op.operands]),<-h a (by simp [Op.operands]),<-h b (by simp [Op.operands])];exact H
 |alloc e=>exact H
 |box e x=>simp only [bm,bp] at H ⊢;rw [<-h x (by simp [Op.operands])];exact H
 |build t parts =>
  simp only [bm,bp] at H ⊢
  have e:(parts.toList.map fun (i,x)=>(i,α.ev x))=parts.toList.map fun (i,x)=>(i,β.ev x):=List.map_congr_left fun p hp=>by
   have:=h p.2 (by simp only [Op.operands,List.mem_toArray,List.mem_map];exact⟨p,hp,rfl⟩)
   show (p.1,α.ev p.2)=(p.1,β.ev p.2)
   rw [this]
  rw [<-e]
  exact H
 |buildSlice t len parts =>
  simp only [bm,bp] at H ⊢
  have e:(parts.toList.map fun (i,x)=>(i,α.ev x))=parts.toList.map fun (i,x)=>(i,β.ev x):=List.map_congr_left fun p hp=>by
   have:=h p.2 (by simp only [Op.operands,List.mem_toArray,List.mem_map];exact⟨p,hp,rfl⟩)
   show (p.1,α.ev p.2)=(p.1,β.ev p.2)
   rw [this]
  rw [<-e]
  exact H
 |load t x=>simp only [bm,bp] at H ⊢;rw [<-h x (by simp [Op.operands])];exact H
 |store t x b=>simp only [bm,bp] at H ⊢;rw [<-h x (by simp [Op.operands]),<-h b (by simp [Op.operands])];exact H
 |binOp op t x y ty=>simp only [bm,bp] at H ⊢;rw [<-h x (by simp [Op.operands]),<-h y (by simp [Op.operands])];exact H
 |unOp op t x=>simp only [bm,bp] at H ⊢;rw [<-h x (by simp [Op.operands])];exact H
 |convert src dst x=>simp only [bm,bp] at H ⊢;rw [<-h x (by simp [Op.operands])];exact H
 |fieldAddr s x f=>simp only [bm,bp] at H ⊢;rw [<-h x (by simp [Op.operands])];exact H
 |field t x f=>simp only [bm,bp] at H ⊢;rw [<-h x (by simp [Op.operands])];exact H
 |indexAddr t x i=>simp only [bm,bp] at H ⊢;rw [<-h x (by simp [Op.operands]),<-h i (by simp [Op.operands])];exact H
 |index t x i=>simp only [bm,bp] at H ⊢;rw [<-h x (by simp [Op.operands]),<-h i (by simp [Op.operands])];exact H
 |slice t x lo hi mx =>
  simp only [bm,bp] at H ⊢
  have e:∀ z:Option Operand,(∀ y ∈ z,y ∈ (Op.slice t x lo hi mx).operands)->z.map α.ev=z.map β.ev:=by
   intro z hz
   cases z with
   |none=>rfl
   |some y=>simp only [Option.map_some];rw [h y (hz y rfl)]
  rw [<-h x (by simp [Op.operands]),<-e lo (fun y hy=>by simp [Op.operands];simp at hy;simp [hy]),<-e hi (fun y hy=>by simp [Op.operands];simp at hy;simp [hy]),<-e mx (fun y hy=>by simp [Op.operands];simp at hy;simp [hy])]
  exact H
 |extract x i=>simp only [bm,bp] at H ⊢;rw [<-h x (by simp [Op.operands])];exact H
 |makeFunc f first cap =>
  simp only [bm,bp] at H ⊢
  rw [<-pH (l:=first) fun x hx=>h x (by simp [Op.operands,hx]),<-pH (l:=cap) fun x hx=>h x (by simp [Op.operands,hx])]
  exact H
 |nilCheck x=>simp only [bm,bp] at H ⊢;rw [<-h x (by simp [Op.operands])];exact H
 |makeSlice t l c=>simp only [bm,bp] at H ⊢;rw [<-h l (by simp [Op.operands]),<-h c (by simp [Op.operands])];exact H
 |range t x=>simp only [bm,bp] at H ⊢;rw [<-h x (by simp [Op.operands])];exact H
 |next x b=>simp only [bm,bp] at H ⊢;rw [<-h x (by simp [Op.operands])];exact H
 |call c =>
  have e:c.args.toList.map α.ev=c.args.toList.map β.ev:=pH fun x hx=>h x (by simp [Op.operands,Call.operands,hx])
  simp only [bm,bp] at H ⊢
  split at H
  ·rename_i f hc
   rw [<-e,<-h f (by simp [Op.operands,Call.operands,hc])]
   exact H
  ·rw [<-e]
   exact H
  ·exact H.elim
 |_=>exact H.elim
def jt:Op->Bool
 |.move _|.assign _|.pick ..|.build ..|.buildSlice ..|.binOp ..|.unOp ..|.convert ..|.fieldAddr ..|.field ..|.indexAddr ..|.index ..|.slice ..|.extract ..|.makeFunc ..|.nilCheck _=>true
 |.call c=>match c.callee with|.builtin .len|.builtin .min|.builtin .max=>true|_=>false
 |_=>false
def xB:Op->Bool
 |.load ..=>false
 |.call c=>match c.callee with|.value _=>false|.builtin .len|.builtin .min|.builtin .max=>false|_=>true
 |o=>!jt o
theorem X2 {t:Bool}{X Y:Prop}(h:br t X Y):(t=true/\X)\/(t=false/\Y):=by cases t;exact .inr ⟨rfl,h⟩;exact .inl ⟨rfl,h⟩
def qQ (r:AV) (S:ae) (r':AV) (S':ae):Prop:=r'=r/\S'=S
theorem S0 {op:Op}{K:AV->ae->Prop}(hp:jt op=true) (h:bm P w0 op α S K):∃ r,K r S/\∀ S',bm P w0 op α S' (qQ r S'):=by
 cases op with
 |move x=>exact⟨_,h,fun S'=>⟨rfl,rfl⟩⟩
 |assign x=>exact⟨_,h,fun S'=>⟨rfl,rfl⟩⟩
 |pick c a b =>
  simp only [bm,bp] at h ⊢
  split at h
  ·rcases X2 h with ⟨rfl,h⟩|⟨rfl,h⟩
   ·exact⟨_,h,fun S'=>⟨rfl,rfl⟩⟩
   ·exact⟨_,h,fun S'=>⟨rfl,rfl⟩⟩
  ·exact h.elim
 |build t parts =>
  simp only [bm,bp] at h ⊢
  split at h
  ·exact⟨_,h,fun S'=>⟨rfl,rfl⟩⟩
  ·exact h.elim
 |buildSlice t len parts =>
  simp only [bm,bp] at h ⊢
  split at h
  ·split at h
   ·split at h
    ·split at h
     ·exact⟨_,h,fun S'=>⟨rfl,rfl⟩⟩
     ·exact h.elim
    ·exact h.elim
   ·exact h.elim
  ·exact h.elim
 |binOp op t x y ty =>
  simp only [bm,bp] at h ⊢
  split at h
  ·split at h
   ·split at h
    ·obtain⟨d,hd,hK⟩:=h
     exact⟨_,hK,fun S'=>⟨d,hd,⟨rfl,rfl⟩⟩⟩
    ·exact h.elim
   ·split at h
    ·exact⟨_,h.out,fun S'=>qT.mk ⟨rfl,rfl⟩⟩
    ·exact h.elim
  ·split at h
   ·exact⟨_,h.2,fun S'=>⟨h.1,⟨rfl,rfl⟩⟩⟩
   ·split at h
    ·exact⟨_,h.out,fun S'=>qT.mk ⟨rfl,rfl⟩⟩
    ·exact h.elim
  ·split at h
   ·exact⟨_,h.out,fun S'=>qT.mk ⟨rfl,rfl⟩⟩
   ·exact h.elim
  ·exact h.elim
 |unOp op t x =>
  simp only [bm,bp] at h ⊢
  split at h
  ·exact⟨_,h,fun S'=>⟨rfl,rfl⟩⟩
  ·obtain⟨d,hd,hK⟩:=h
   exact⟨_,hK,fun S'=>⟨d,hd,⟨rfl,rfl⟩⟩⟩
  ·exact h.elim
 |convert src dst x =>
  simp only [bm,bp] at h ⊢
  split at h
  ·obtain⟨d,hd,hK⟩:=h
   exact⟨_,hK,fun S'=>⟨d,hd,⟨rfl,rfl⟩⟩⟩
  ·exact⟨_,h,fun S'=>⟨rfl,rfl⟩⟩
  ·exact h.elim
 |fieldAddr s x f =>
  simp only [bm,bp] at h ⊢
  split at h
  ·split at h
   ·split at h
    ·split at h
     ·exact⟨_,h,fun S'=>⟨rfl,rfl⟩⟩
     ·exact⟨_,h,fun S'=>⟨rfl,rfl⟩⟩
     ·exact h.elim
    ·exact h.elim
   ·exact h.elim
  ·exact h.elim
 |field t x f =>
  simp only [bm,bp] at h ⊢
  split at h
  ·split at h
   ·split at h
    ·split at h
     ·exact⟨_,h,fun S'=>⟨rfl,rfl⟩⟩
     ·exact h.elim
    ·exact h.elim
   ·exact h.elim
  ·exact h.elim
 |indexAddr t x i =>
  simp only [bm,bp] at h ⊢
  split at h
  ·split at h
   ·split at h
    ·exact⟨_,h.2,fun S'=>⟨h.1,⟨rfl,rfl⟩⟩⟩
    ·exact h.elim
   ·exact h.elim
  ·exact⟨_,h.2.2.2,fun S'=>⟨h.1,h.2.1,h.2.2.1,⟨rfl,rfl⟩⟩⟩
  ·split at h
   ·exact⟨_,h.2.2,fun S'=>⟨h.1,h.2.1,⟨rfl,rfl⟩⟩⟩
   ·exact h.elim
  ·split at h
   ·exact⟨_,h.2.2,fun S'=>⟨h.1,h.2.1,⟨rfl,rfl⟩⟩⟩
   ·exact h.elim
  ·exact h.elim
 |index t x i =>
  simp only [bm,bp] at h ⊢
  split at h
  ·split at h
   ·exact⟨_,h,fun S'=>⟨rfl,rfl⟩⟩
   ·exact h.elim
  ·split at h
   ·split at h
    ·exact⟨_,h.2.2,fun S'=>⟨h.1,h.2.1,⟨rfl,rfl⟩⟩⟩
    ·exact h.elim
   ·exact h.elim
  ·exact h.elim
 |slice t x lo hi mx =>
  simp only [bm,jO] at h ⊢
  split at h
  ·split at h
   ·exact⟨_,h.2.2.2,fun S'=>⟨h.1,h.2.1,h.2.2.1,⟨rfl,rfl⟩⟩⟩
   ·exact h.elim
  ·split at h
   ·exact⟨_,h.2.2.2.2.2,fun S'=>⟨h.1,h.2.1,h.2.2.1,h.2.2.2.1,h.2.2.2.2.1,⟨rfl,rfl⟩⟩⟩
   ·exact h.elim
  ·split at h
   ·exact⟨_,h.2.2.2.2.2.2,fun S'=>⟨h.1,h.2.1,h.2.2.1,h.2.2.2.1,h.2.2.2.2.1,h.2.2.2.2.2.1,⟨rfl,rfl⟩⟩⟩
   ·exact h.elim
  ·split at h
   ·exact⟨_,h.2.2.2,fun S'=>⟨h.1,h.2.1,h.2.2.1,⟨rfl,rfl⟩⟩⟩
   ·rename_i e kd l hh hu Eh tj
    obtain⟨h1,h2,h3,h4,h5,h6⟩:=h
    by_cases c:l=hh
    ·exact⟨_,h5 c,fun S'=>⟨h1,h2,h3,h4,fun _=>⟨rfl,rfl⟩,fun c'=>absurd c (by omega)⟩⟩
    ·exact⟨_,h6 (by omega),fun S'=>⟨h1,h2,h3,h4,fun c'=>absurd c' c,fun _=>⟨rfl,rfl⟩⟩⟩
   ·exact h.elim
  ·split at h
   ·exact⟨_,h.2.2.2.2.2,fun S'=>⟨h.1,h.2.1,h.2.2.1,h.2.2.2.1,h.2.2.2.2.1,⟨rfl,rfl⟩⟩⟩
   ·exact h.elim
  ·exact h.elim
 |extract x i =>
  simp only [bm,bp] at h ⊢
  split at h
  ·split at h
   ·exact⟨_,h,fun S'=>⟨rfl,rfl⟩⟩
   ·exact h.elim
  ·exact h.elim
 |makeFunc f first cap=>exact⟨_,h,fun S'=>⟨rfl,rfl⟩⟩
 |nilCheck x =>
  simp only [bm,bp] at h ⊢
  split at h
  ·exact⟨_,h,fun S'=>⟨rfl,rfl⟩⟩
  ·exact⟨_,h,fun S'=>⟨rfl,rfl⟩⟩
  ·exact h.elim
 |call c =>
  simp only [jt] at hp
  simp only [bm,bp] at h ⊢
  split at h
  ·rename_i f hc
   rw [hc] at hp
   cases hp
  ·rename_i b hc
   rw [hc] at hp
   simp only [lu,bp] at h ⊢
   split at h
   ·split at h
    ·split at h
     ·exact⟨_,h,fun S'=>⟨rfl,rfl⟩⟩
     ·exact h.elim
    ·exact h.elim
   ·cases hp
   ·split at h
    ·split at h
     ·exact⟨_,h,fun S'=>⟨rfl,rfl⟩⟩
     ·exact h.elim
    ·exact h.elim
   ·split at h
    ·split at h
     ·exact⟨_,h,fun S'=>⟨rfl,rfl⟩⟩
     ·exact h.elim
    ·exact h.elim
   ·exact h.elim
  ·exact h.elim
 |_=>cases hp
def AA.only (α:AA) (ts:List Tmp):AA:=⟨fun t=>if ts.contains t then α.tm t else .u,α.df⟩
theorem jl {ts:List Tmp}{x:Operand}(h:∀ t,x=.tmp t->t ∈ ts):(α.only ts).ev x=α.ev x:=by
 cases x with
 |tmp t =>
  show (if ts.contains t then α.tm t else .u)=α.tm t
  rw [if_pos (by simpa using h t rfl)]
 |_=>rfl
theorem b7.only {g:Gh}{w:World}{a:Act}(h:b7 g w n α a) (ts:List Tmp):b7 g w n (α.only ts) a:=by
 refine⟨h.size,fun t ht=>?_,fun t ht=>?_,h.df,h.sZ⟩
 ·show aL g w (if ts.contains t then α.tm t else .u) _
  split
  ·exact h.tm t ht
  ·exact .u
 ·show (if ts.contains t then α.tm t else .u)=.u
  rw [h.out t ht]
  split<;>rfl
end
section
variable {P:Program}{w0:World}{n:Nat}{o:Oper}{α β:AA}{S S':ae}{r:AV}{ops:Array Oper}
def dg (o:Oper):List Tmp:=o.op.operands.toList.filterMap fun|.tmp t=>some t|_=>none
theorem iA {t:Tmp}(h:Operand.tmp t ∈ o.op.operands):t ∈ dg o:=by
 unfold dg
 rw [List.mem_filterMap]
 exact⟨.tmp t,by simpa using h,rfl⟩
theorem o8 {t:Tmp}(h:t ∈ dg o):t ∈ o.looksAt ops:=List.mem_append.2 (.inl h)
def GS (P:Program) (w0:World) (n:Nat) (ops:Array Oper) (i:Nat) (α:AA) (S:ae) (α1:AA) (S1:ae):Prop :=
 ∃ o,ops[i]?=some o/\(match o.dst with|some d=>Nat.blt d n|none=>true)=true /\
  ((∃ (j:Nat) (want:Bool) (b:Option Bool),o.guard=some (j,want)/\m6 ops α j=some b/\b ≠ some want/\α1=α.put o.dst (.v undef)/\S1=S) \/
   ((o.guard=none\/∃ j want,o.guard=some (j,want)/\m6 ops α j=some (some want))/\∃ r,α1=α.put o.dst r/\eB P w0 n o (α.only (dg o)) S r S1 /\
      (jt o.op=true->S1=S/\∀ S,eB P w0 n o (α.only (dg o)) S r S)/\(xB o.op=false->S1=S)))
theorem L4 {d:Option Tmp}{a:AV}{t:Tmp}(h:∀ e,d=some e->t ≠ e):(α.put d a).tm t=α.tm t:=by
 cases d with
 |none=>rfl
 |some e=>exact aN _ _ (h e rfl)
theorem X3 {d:Option Tmp}{a:AV}:(α.put d a).df=α.df:=by cases d<;>rfl
theorem lE {d:Option Tmp}{a:AV}{ts:List Tmp}(h:∀ e,d=some e->e ∉ ts):(α.put d a).only ts=α.only ts:=by
 unfold AA.only
 rw [X3]
 congr 1
 funext t
 by_cases c:ts.contains t=true
 ·rw [if_pos c,if_pos c]
  exact L4 fun e he e2=>h e he (by rw [<-e2];simpa using c)
 ·rw [if_neg c,if_neg c]
theorem lC {d:Option Tmp}{a:AV}{j:Nat}(h:∀ e,d=some e->(ops[j]?).bind (·.dst) ≠ some e):m6 ops (α.put d a) j=m6 ops α j:=by
 unfold m6
 split
 ·rename_i t ht
  rw [L4 fun e he e2=>h e he (by rw [ht,e2])]
 ·rfl
theorem put_comm {d e:Option Tmp}{a b:AV}(h:∀ t,d=some t->e ≠ some t):(α.put d a).put e b=(α.put e b).put d a:=by
 cases d with
 |none=>rfl
 |some d =>
  cases e with
  |none=>rfl
  |some e =>
   have bH:e ≠ d:=fun he=>h d rfl (by rw [he])
   show (⟨bP (bP α.tm d a) e b,α.df⟩:AA)=⟨bP (bP α.tm e b) d a,α.df⟩
   congr 1
   funext t
   by_cases c1:t=e
   ·subst c1;rw [aG,aN _ _ bH,aG]
   ·rw [aN _ _ c1]
    by_cases c2:t=d
    ·subst c2;rw [aG,aG]
    ·rw [aN _ _ c2,aN _ _ c2,aN _ _ c1]
def Kf (x y:Oper):Bool:=jt x.op || jt y.op || (!xB x.op && !xB y.op)
theorem GS.frame {i:Nat}{α1:AA}{S1:ae}{d:Option Tmp}{a:AV}(h:GS P w0 n ops i α S α1 S1) (hd:∀ o,ops[i]?=some o->∀ e,d=some e->e ∉ o.looksAt ops/\o.dst ≠ some e):GS P w0 n ops i (α.put d a) S (α1.put d a) S1:=by
 obtain⟨o,hi,hn,h⟩:=h
 have h1:∀ e,d=some e->e ∉ dg o:=fun e he hm=>(hd o hi e he).1 (o8 hm)
 have h2:∀ j want,o.guard=some (j,want)->∀ e,d=some e->(ops[j]?).bind (·.dst) ≠ some e:=by
  intro j want hg e he h3
  refine (hd o hi e he).1 (List.mem_append.2 (.inr ?_))
  rw [hg]
  simp only
  rw [h3]
  simp
 have hc:∀ x,(α.put o.dst x).put d a=(α.put d a).put o.dst x:=fun x=>(put_comm fun t ht e=>(hd o hi t ht).2 e).symm
 refine⟨o,hi,hn,?_⟩
 rcases h with ⟨j,want,b,hg,hy,bH,rfl,rfl⟩|⟨hg,r,rfl,h3,h4,h5⟩
 ·exact .inl ⟨j,want,b,hg,by rw [lC (h2 j want hg)];exact hy,bH,hc _,rfl⟩
 ·refine .inr ⟨?_,r,hc _,by rw [lE h1];exact h3,by rw [lE h1];exact h4,h5⟩
  rcases hg with hg|⟨j,want,hg,hy⟩
  ·exact .inl hg
  ·exact .inr ⟨j,want,hg,by rw [lC (h2 j want hg)];exact hy⟩
theorem GS.shape {i:Nat}{α1:AA}{S1:ae}(h:GS P w0 n ops i α S α1 S1):∃ o a,ops[i]?=some o/\α1=α.put o.dst a/\(xB o.op=false->S1=S)/\(jt o.op=true->S1=S):=by
 obtain⟨o,hi,hn,h⟩:=h
 rcases h with ⟨j,want,b,hg,hy,bH,rfl,rfl⟩|⟨hg,r,rfl,h3,h4,h5⟩
 ·exact⟨o,_,hi,rfl,fun _=>rfl,fun _=>rfl⟩
 ·exact⟨o,r,hi,rfl,h5,fun hp=>(h4 hp).1⟩
theorem GS.anyS {i:Nat}{α1:AA}{S1 T:ae}(h:GS P w0 n ops i α S α1 S1) (hp:∀ o,ops[i]?=some o->jt o.op=true):GS P w0 n ops i α T α1 T:=by
 obtain⟨o,hi,hn,h⟩:=h
 refine⟨o,hi,hn,?_⟩
 rcases h with ⟨j,want,b,hg,hy,bH,h1,h2⟩|⟨hg,r,h1,h3,h4,h5⟩
 ·exact .inl ⟨j,want,b,hg,hy,bH,h1,rfl⟩
 ·have h6:=(h4 (hp o hi)).2
  exact .inr ⟨hg,r,h1,h6 T,fun _=>⟨rfl,h6⟩,fun _=>rfl⟩
theorem GS.swap {i j:Nat}{oi oj:Oper}{α1 sb:AA}{S1 S2:ae}(hi:ops[i]?=some oi) (hj:ops[j]?=some oj) (kJ:oi.apart ops oj=true) (hc:Kf oi oj=true) (h:GS P w0 n ops i α S α1 S1) (k:GS P w0 n ops j α1 S1 sb S2) :
  ∃ rA vG,GS P w0 n ops j α S rA vG/\GS P w0 n ops i rA vG sb S2:=by
 obtain⟨e1,e2,e3⟩:=Oper.apart_spec kJ
 obtain⟨l7,a,gY,rfl,hwi,Le⟩:=h.shape
 obtain rfl:l7=oi:=by rw [hi] at gY;exact (Option.some.inj gY).symm
 obtain⟨oa,b,lZ,rfl,hwj,hpj⟩:=k.shape
 obtain rfl:oa=oj:=by rw [hj] at lZ;exact (Option.some.inj lZ).symm
 have kj:∀ T T2,GS P w0 n ops j (α.put l7.dst a) T ((α.put l7.dst a).put oa.dst b) T2->GS P w0 n ops j α T (α.put oa.dst b) T2:=by
  intro T T2 hk
  obtain⟨o,ho,hn,hk⟩:=hk
  obtain rfl:o=oa:=by rw [hj] at ho;exact (Option.some.inj ho).symm
  have h1:∀ e,l7.dst=some e->e ∉ dg o:=fun e he hm=>e1 e he (o8 hm)
  have h2:∀ q want,o.guard=some (q,want)->∀ e,l7.dst=some e->(ops[q]?).bind (·.dst) ≠ some e:=by
   intro q want hg e he h3
   refine e1 e he (List.mem_append.2 (.inr ?_))
   rw [hg]
   simp only
   rw [h3]
   simp
  have inj:∀ x y:AV,(α.put l7.dst a).put o.dst x=(α.put l7.dst a).put o.dst y->α.put o.dst x=α.put o.dst y:=by
   intro x y na
   cases n_:o.dst with
   |none=>rfl
   |some d =>
    rw [n_] at na
    have:x=y:=by
     have h3:=congrArg (fun z:AA=>z.tm d) na
     simpa [AA.put,aG] using h3
    rw [this]
  refine⟨o,ho,hn,?_⟩
  rcases hk with ⟨q,want,c,hg,hy,bH,h3,h4⟩|⟨hg,r,h3,h4,h5,h6⟩
  ·exact .inl ⟨q,want,c,hg,by rw [<-lC (h2 q want hg)];exact hy,bH,inj _ _ h3,h4⟩
  ·rw [lE h1] at h4 h5
   refine .inr ⟨?_,r,inj _ _ h3,h4,h5,h6⟩
   rcases hg with hg|⟨q,want,hg,hy⟩
   ·exact .inl hg
   ·exact .inr ⟨q,want,hg,by rw [<-lC (h2 q want hg)];exact hy⟩
 have ki:∀ T T2,GS P w0 n ops i α T (α.put l7.dst a) T2->GS P w0 n ops i (α.put oa.dst b) T ((α.put l7.dst a).put oa.dst b) T2:=fun T T2 h'=>h'.frame fun o ho e he=>by
  obtain rfl:o=l7:=by rw [hi] at ho;exact (Option.some.inj ho).symm
  exact⟨e3 e he,fun h3=>e2 e h3 he⟩
 simp only [Kf,Bool.or_eq_true,Bool.and_eq_true,Bool.not_eq_true'] at hc
 rcases hc with (hp|hp)|⟨se,zO⟩
 ·
  have fm:=Le hp
  subst fm
  exact⟨_,S2,kj _ _ k,ki _ _ (h.anyS (fun o ho=>by rw [hi] at ho;rw [<-Option.some.inj ho];exact hp))⟩
 ·have l8:=hpj hp
  subst l8
  exact⟨_,S,kj _ _ (k.anyS (T:=S) (fun o ho=>by rw [hj] at ho;rw [<-Option.some.inj ho];exact hp)),ki _ _ h⟩
 ·have h1:=hwi se
  have h2:=hwj zO
  subst h1 h2
  exact⟨_,_,kj _ _ k,ki _ _ h⟩
inductive oq (P:Program) (w0:World) (n:Nat) (ops:Array Oper):List Nat->AA->ae->AA->ae->Prop where
 |nil (α:AA) (S:ae):oq P w0 n ops [] α S α S
 |cons {i:Nat}{rest:List Nat}{α α1 aB:AA}{S S1 S':ae}(h:GS P w0 n ops i α S α1 S1) (t:oq P w0 n ops rest α1 S1 aB S'):oq P w0 n ops (i::rest) α S aB S'
def rR (ops:Array Oper) (i j:Nat):Bool :=
 match ops[i]?,ops[j]? with
 |some oi,some oj=>oi.apart ops oj && Kf oi oj
 |_,_=>false
theorem oq.front {j:Nat}:∀ {C1 C2:List Nat}{α aB:AA}{S S':ae},(∀ x ∈ C1,rR ops x j=true)->oq P w0 n ops (C1++j::C2) α S aB S'->oq P w0 n ops (j::(C1++C2)) α S aB S'
 |[],C2,α,aB,S,S',_,h=>h
 |x::C1,C2,α,aB,S,S',hx,h=>by
  cases h with
  |@cons _ _ _ α1 _ _ S1 _ h t =>
   have t':=oq.front (fun y hy=>hx y (by simp [hy])) t
   cases t' with
   |@cons _ _ _ sb _ _ S2 _ k t2 =>
    have hp:=hx x (by simp)
    unfold rR at hp
    split at hp
    ·rename_i oi oj hi hj
     simp only [Bool.and_eq_true] at hp
     obtain⟨rA,vG,h1,h2⟩:=h.swap hi hj hp.1 hp.2 k
     exact .cons h1 (.cons h2 t2)
    ·cases hp
theorem oq.perm:∀ {L C:List Nat}{α aB:AA}{S S':ae},C.Pairwise (· < ·)->L.Pairwise (fun y x=>x < y->rR ops x y=true)->(∀ x,x ∈ L ↔ x ∈ C)->L.Nodup->oq P w0 n ops C α S aB S'->oq P w0 n ops L α S aB S'
 |[],C,α,aB,S,S',_,_,hm,_,h=>by
  have:C=[]:=by
   cases C with
   |nil=>rfl
   |cons x C=>have:=(hm x).2 (by simp);cases this
  subst this
  exact h
 |y::L,C,α,aB,S,S',hC,hL,hm,hn,h=>by
  obtain⟨C1,C2,rfl⟩:=List.append_of_mem ((hm y).1 (by simp))
  rw [List.pairwise_cons] at hL
  rw [List.nodup_cons] at hn
  rw [List.pairwise_append,List.pairwise_cons] at hC
  obtain⟨p1,⟨p2,p3⟩,p4⟩:=hC
  have fO:∀ x ∈ C1,x < y:=fun x hx=>p4 x hx y (by simp)
  have aQ:∀ x ∈ C2,y < x:=p2
  have eR:∀ x,x ∈ L ↔ x ∈ C1++C2:=by
   intro x
   have h0:=hm x
   simp only [List.mem_cons,List.mem_append] at h0 ⊢
   constructor
   ·intro hx
    rcases h0.1 (.inr hx) with h1|h1|h1
    ·exact .inl h1
    ·subst h1;exact absurd hx hn.1
    ·exact .inr h1
   ·intro hx
    have bH:x ≠ y:=by
     rintro rfl
     rcases hx with hx|hx
     ·exact absurd (fO x hx) (Nat.lt_irrefl _)
     ·exact absurd (aQ x hx) (Nat.lt_irrefl _)
    rcases h0.2 (hx.elim .inl fun h=>.inr (.inr h)) with h1|h1
    ·exact absurd h1 bH
    ·exact h1
  have hf:=oq.front (fun x hx=>hL.1 x ((eR x).2 (by simp [hx])) (fO x hx)) h
  cases hf with
  |cons h1 h2 =>
   refine .cons h1 (oq.perm (L:=L) ?_ hL.2 eR hn.2 h2)
   rw [List.pairwise_append]
   exact⟨p1,p3,fun a ha b hb=>p4 a ha b (by simp [hb])⟩
theorem oq.vH:∀ {L:List Nat}{α aB:AA}{S S':ae},oq P w0 n ops L α S aB S'->pB P w0 n ops L α S aB S'
 |[],_,_,_,_,.nil α S=>fun F m A g a w Q hF hS hA hQ=>hQ a w g hS hA (Ext.refl ..)
 |i::rest,α,aB,S,S',.cons (α1:=α1) (S1:=S1) h t=>by
  have ih:=oq.vH t
  obtain⟨o,hi,hd,h⟩:=h
  rcases h with ⟨j,want,b,hg,hy,bH,rfl,rfl⟩|⟨hg,r,rfl,h3,_,_⟩
  ·intro F m A g a w Q hF hS hA hQ
   have Bv:¬ Region.wanted o (yielded ops a.tmps)=true:=by simp [Region.wanted,hg,nK hA hy,bH]
   simp only [wpOpsIn,hi]
   rw [if_neg Bv]
   exact⟨fun f _=>hF.1 f,ih F m A g _ w Q hF hS (kN hA hd .v) hQ⟩
  ·intro F m A g a w Q hF hS hA hQ
   have hw:Region.wanted o (yielded ops a.tmps)=true:=by
    rcases hg with hg|⟨j,want,hg,hy⟩
    ·simp [Region.wanted,hg]
    ·simp [Region.wanted,hg,nK hA hy]
   simp only [wpOpsIn,hi]
   rw [if_pos hw]
   refine⟨fun f _=>hF.1 f,h3 F m A g a w _ Q hF hS (hA.only _) fun v w' g' hr iu hE=>?_⟩
   exact ih F m A g' _ w' Q hF iu (kN (hA.later hE.toLater) hd hr) fun a' rB tn h1 h2 h3=>hQ a' rB tn h1 h2 (hE.trans h3)
end
end Go.Proofs.YtgphljokbodciaaGreat
