import Derived.Orders
import Derived.Test.YtbpabjmnhggajaaGreatOs5
namespace Go.Proofs.YtbpabjmnhggajaaGreat
set_option linter.unusedVariables false
set_option linter.unusedSimpArgs false
open Go.RowKit
section
variable {P:Program}{w0:World}{rd:Bool}{n:Nat}{α:AA}{S S':ae}{r:AV}
def kG (args:List AV) (t:Nat):AV:=(args[t]?).getD .u
theorem w8 {g:Gh}{w:World}{args:List AV}{args':Array Value}(h:jc g w args args') (hn:args.length<=n):bR g w n ⟨kG args,[]⟩ { tmps:=args'++Array.replicate (n - args'.size) undef,defers:=[] }:=by
 refine⟨by simp[h.1];omega,fun t ht=>?_,fun t ht=>?_,rfl,fun k hk=>by grind⟩
 ·show aF g w (kG args t) _;unfold kG;by_cases c:t < args.length
  ·have h1:=List.getElem?_eq_getElem c;have c':t < args'.size:=by rw[h.1];exact c
   rw[h1,Array.getD_eq_getD_getElem?,Array.getElem?_append_left c',Array.getElem?_eq_getElem c'];exact h.2 t _ _ h1 (Array.getElem?_eq_getElem c')
  ·rw[List.getElem?_eq_none (by omega)];exact .u
 ·grind[kG]
theorem St.take {A:Nat->Prop}{g:Gh}{w:World}{k:Nat}(hS:St w0 A g S w) (hk:S.get k=some .df) (ha:g.al k) :
  ∃ w',(Instr.takeDeferred (g.ob k)).run P w=.ok [] w'/\Ext A g w g w'/\St w0 A g (S.set k none) w':=by
 obtain⟨k2,k3,k4⟩:=hS.bT k _ hk ha;have k4:w.heap[g.ob k]?=some (.deferred (some [])):=k4;obtain⟨w',yW⟩:∃ w':World,w'={ w with heap:=w.heap.setIfInBounds (g.ob k) (.deferred none) }:=⟨_,rfl⟩;have bZ:(Instr.takeDeferred (g.ob k)).run P w=.ok [] w':=by
  rw[yW];simp[Instr.takeDeferred,getObj,setObj,Sem.run,k4]
 have bS:w'.heap.size=w.heap.size:=by grind
 have xI:∀ b,b ≠ g.ob k->w'.heap[b]?=w.heap[b]?:=by grind
 have lS:∀ b q,w'.cell? ⟨b,q,none⟩=w.cell? ⟨b,q,none⟩:=by
  intro b q;by_cases e:b=g.ob k
  ·subst e;have h1:w'.heap[g.ob k]?=some (.deferred none):=by grind
   simp[World.cell?,h1,k4]
  ·exact World.cell?_of_block (xI b e)
 have hL:Later g w g w':=⟨fun _ h=>h,fun _ _=>rfl,fun _ _=>rfl,fun _ _ h=>h,fun b q _=>lS b q⟩;have hE:Ext A g w g w':={ hL with size:=by grind,aU:=fun b hb hA=>xI b (fun e=>hA (by grind)),h_:=fun _ _ h=>.inl h };have key:∀ j p,(S.set k none).get j=some p->j ≠ k/\S.get j=some p:=by
  intro j p hj;have hj:a7 S.get k none j=some p:=hj;by_cases e:j=k
  ·grind[az]
  ·grind[aD]
 refine⟨w',bZ,hE,hS.next hE (by grind) (by grind) (by grind) hS.al (fun j p hj aj=>?_) (fun i j p q hi hj ai aj e=>hS.inj i j p q (key i p hi).2 (key j q hj).2 ai aj e) (fun b q hf=>by rw[bS];exact hS.cK b q hf) rfl (fun j J hj aj=>⟨(key j _ hj).2,aj⟩) (fun j p hj aj=>.inr ⟨j,p,aj,(key j p hj).2,rfl,.inl rfl⟩)⟩;obtain⟨bU,hj⟩:=key j p hj;obtain⟨h2,h3,h4⟩:=hS.bT j p hj aj;exact⟨h2,by grind,h4.later hL (xI _ (fun e=>bU (hS.inj j k p _ hj hk aj ha e))) (fun _ h=>h) fun J hJ=>⟨rfl,by grind,fun c hc=>xI c fun e=>hS.kL j J k _ (by grind) aj hk ha (fun e'=>bU e'.symm) (by grind),fun _ _ _ h=>h⟩⟩
theorem G7 {F:Fence}{m:Nat}{A:Nat->Prop}{fn:Func}{tmps:Array Value}{R:Ending->World->Prop}:∀ (ks:List DE) {S:ae}{g:Gh}{w:World},St w0 A g S w->yx S ks=true->(∀ d ∈ ks,g.al d.k) ->
  (∀ w',St w0 A g (jS S ks) w'->Ext A g w g w'->∃ v,(results fn tmps).run P w'=.ok v w'/\R (.returned v) w')->LeavesInM F m P fn tmps R (ks.map (H3 g.ob)) .returning w
 |[],S,g,w,hS,_,_,h=>h w hS (Ext.refl ..)
 |.del _ _ _::ks,S,g,w,hS,hd,ha,h=>by cases hd
 |.ob k::ks,S,g,w,hS,hd,ha,h=>by
  simp only[yx] at hd;split at hd
  ·rename_i hk;obtain⟨w',h1,h2,h3⟩:=hS.take (P:=P) hk (ha (.ob k) (by simp));exact⟨by simp,.inl ⟨g.ob k,w',rfl,h1,G7 ks h3 hd (fun j hj=>ha j (by grind)) fun kR h4 h5=>h kR h4 (h2.trans h5)⟩⟩
  ·grind
theorem aC.of_wp {f:FuncId}{fn:Func}{c:Code}{args:List AV}{R:AV->ae->Prop}(hf:P.funcs[f]?=some fn) (hb:fn.body=some c) (hc:∀ (xs:Array Value) (w:World),(callFunc f xs).run P w=.ok (.enter f xs) w)
  (hn:fn.ntmps=n) (bj:args.length<=n) (h:∃ ex au S',cC P w0 false n c ⟨kG args,[]⟩ S ex au S'/\Hz P fn.results R ex au S'):∃ r S',aC P w0 f args S r S'/\R r S':=by
 obtain⟨ex,au,S1,ES,rH⟩:=h;have R2:yx S1 au.df=true/\∃ r,yA P fn.results au (jS S1 au.df)=some r/\R r (jS S1 au.df)/\(ex=.normal\/ex=.ret):=by
  unfold Hz at rH;split at rH
  ·grind
  ·grind
  ·grind
 obtain⟨hdf,r,hr,hR,hex⟩:=R2;refine⟨r,jS S1 au.df,⟨hc,fun F m A g args' w hF hS hA=>?_⟩,hR⟩;have key:CallsIn F.plain m P f args' w fun e w'=>∃ v g',e=.returned v/\aF g' w' r v/\St w0 A g' (jS S1 au.df) w'/\Ext A g w g' w':=by
  refine callsIn_of_wp_marks hf hb (hF.1 f) ?_ rfl;rw[hn];refine wpIn_mono (ES F.plain m A g _ w hF.plain rfl hS (w8 hA bj)) ?_;rintro ex' a' w' ⟨rfl,g',h1,h2,h3⟩;have hl:LeavesInM F.plain m P fn a'.tmps (fun e w'=>∃ v g',e=.returned v/\aF g' w' r v/\St w0 A g' (jS S1 au.df) w'/\Ext A g w g' w') a'.defers .returning w':=by
   rw[h2.df];refine G7 au.df h1 hdf h2.rY fun kR h4 h5=>?_;obtain⟨v,h6,h7⟩:=Dp h4 (h2.later h5.toLater) hr;exact⟨v,h6,v,g',rfl,h7,h4,h3.trans h5⟩
  rcases hex with rfl|rfl
  ·exact hl
  ·exact hl
 exact key
inductive aR (S:ae):AV->AV->Prop where
 |refl (a:AV):aR S a a
 |agg {l l':List AV}(hl:l.length=l'.length) (h:∀ (i:Nat) (a a':AV),l[i]?=some a->l'[i]?=some a'->aR S a a'):aR S (.agg l) (.agg l')
 |aG {l l':List AV}(hl:l.length=l'.length) (h:∀ (i:Nat) (a a':AV),l[i]?=some a->l'[i]?=some a'->aR S a a'):aR S (.aG l) (.aG l')
 |ob {k sz off len:Nat}{cx:Option Nat}{rows cV:List (List AV)}{fz:Nat}{ex:Bool}(hk:S.get k=some (.arr sz rows fz ex)) (hlen:off+len<=rows.length) (hl:cV.length=len)
   (h1:∀ (i:Nat) (row bw:List AV),rows[off+i]?=some row->cV[i]?=some bw->row.length=bw.length)
   (h:∀ (i j:Nat) (row bw:List AV) (a a':AV),rows[off+i]?=some row->cV[i]?=some bw->row[j]?=some a->bw[j]?=some a'->aR S a a'):aR S (.ob k sz off len cx) (.sl false cV)
 |pt {k sz i j:Nat}{rows:List (List AV)}{row bw:List AV}{fz:Nat}{ex:Bool}(hk:S.get k=some (.arr sz rows fz ex)) (hi:rows[i]?=some row) (hl:bw.length+j<=row.length)
   (h:∀ (q:Nat) (a a':AV),row[j+q]?=some a->bw[q]?=some a'->aR S a a'):aR S (.pt k sz i j) (.ip bw)
 |fn {f:Fn}{l l' m m':List AV}(hl:l.length=l'.length) (hm:m.length=m'.length) (h1:∀ (i:Nat) (a a':AV),l[i]?=some a->l'[i]?=some a'->aR S a a') (h2:∀ (i:Nat) (a a':AV),m[i]?=some a->m'[i]?=some a'->aR S a a'):aR S (.fn f l m) (.fn f l' m')
 |sl {ex:Bool}{rows cV:List (List AV)}(hl:rows.length=cV.length) (h1:∀ (i:Nat) (row bw:List AV),rows[i]?=some row->cV[i]?=some bw->row.length=bw.length)
   (h:∀ (i j:Nat) (row bw:List AV) (a a':AV),rows[i]?=some row->cV[i]?=some bw->row[j]?=some a->bw[j]?=some a'->aR S a a'):aR S (.sl ex rows) (.sl false cV)
 |ip {cs cs':List AV}(hl:cs'.length<=cs.length) (h:∀ (j:Nat) (a a':AV),cs[j]?=some a->cs'[j]?=some a'->aR S a a'):aR S (.ip cs) (.ip cs')
 |gr {k sz len:Nat}{rows cV:List (List AV)}{fz:Nat}{ex:Bool}(hk:S.get k=some (.arr sz rows fz ex)) (hlen:len<=rows.length) (hl:cV.length=len)
   (h1:∀ (i:Nat) (row bw:List AV),rows[i]?=some row->cV[i]?=some bw->row.length=bw.length)
   (h:∀ (i j:Nat) (row bw:List AV) (a a':AV),rows[i]?=some row->cV[i]?=some bw->row[j]?=some a->bw[j]?=some a'->aR S a a'):aR S (.gr k sz len) (.sl false cV)
theorem pj {g:Gh}{w:World}{k sz m:Nat}{v:Value}(h:aF g w (.gr k sz m) v):(m=0/\∃ A,v=.slice A 0 0)\/(g.al k/\∃ c,v=.slice (some ⟨g.ob k,0,none⟩) m c/\c=g.cp k/\m<=c):=by
 cases h with
 |jw=>exact .inl ⟨rfl,_,rfl⟩
 |gr hk hx hle=>exact .inr ⟨hk,_,rfl,hx,hle⟩
def Gh.still (g:Gh) (S:ae):Gh:=⟨g.ob,g.cp,g.al,fun b q=>g.fz b q\/∃ k sz rows fz ex,S.get k=some (.arr sz rows fz ex)/\g.al k/\b=g.ob k/\q < rows.length*sz,g.fo⟩
theorem aR.rep {A:Nat->Prop}{g:Gh}{w:World}(hS:St w0 A g S w) {a a':AV}(hf:aR S a a'):∀ {v:Value},aF g w a v->aF (g.still S) w a' v:=by
 have hL:Later g w (g.still S) w:=⟨fun _ h=>h,fun _ _=>rfl,fun _ _=>rfl,fun _ _ h=>.inl h,fun _ _ _=>rfl⟩
 induction hf with
 |refl a=>exact fun h=>h.later hL
 |@agg l l' hl h ih =>
  intro v hr;obtain⟨cs,rfl,h1,h2⟩:=EU hr;refine .agg (h1.trans hl) (fun i a' x cM hx=>?_);have hi:i < l.length:=by grind
  exact ih i _ a' (List.getElem?_eq_getElem hi) cM (h2 i _ x (List.getElem?_eq_getElem hi) hx)
 |@aG l l' hl h ih =>
  intro v hr;cases hr with
  |aG h1 h2 =>
   refine .aG (h1.trans hl) (fun i a' x cM hx=>?_);have hi:i < l.length:=by grind
   exact ih i _ a' (List.getElem?_eq_getElem hi) cM (h2 i _ x (List.getElem?_eq_getElem hi) hx)
 |@ob k sz off len cx rows cV fz ex hk hlen hl h1 h ih =>
  intro v hr;obtain⟨c,rfl,aK,_,_,_,hle⟩:=iy hr;obtain⟨k2,k3,cs,ty,p1,p2,p3,p4,p5,p6,p7⟩:=hS.bT k _ hk aK;subst hl;have je:∀ (i:Nat) (bw:List AV),cV[i]?=some bw->∃ row,rows[off+i]?=some row/\row.length=sz/\bw.length=sz:=by grind
  by_cases hn:cV=[]
  ·subst hn;exact .nil (fun h=>by grind)
  ·refine .sl (sz:=sz) (val:=fun i j=>cs.getD ((off+i)*sz+j) undef) hn (fun h=>by grind) hle (fun i bw hi=>(je i bw hi).choose_spec.2.2) (fun i j bw a' hi hj=>?_) (fun i j bw a' hi hj=>?_)
   ·obtain⟨row,e1,e2,e3⟩:=je i bw hi;have Bl:j < sz:=by grind
    have fc:=List.getElem?_eq_getElem (show j < row.length by omega);obtain⟨x,hx,dR⟩:=(p5 _ _ e1).2 j _ fc;have e4:off*sz+(i*sz+j)=(off+i)*sz+j:=by grind
    refine⟨.inr ⟨k,sz,rows,fz,ex,hk,aK,rfl,?_⟩,?_⟩
    ·rw[e4];exact mf (List.getElem?_eq_some_iff.1 e1).1 Bl
    ·rw[cell_of_row _ _ _ cs ty (0,0) p1,e4,hx];simp[Array.getD_eq_getD_getElem?,hx]
   ·obtain⟨row,e1,e2,e3⟩:=je i bw hi;have Bl:j < sz:=by grind
    have fc:=List.getElem?_eq_getElem (show j < row.length by omega);obtain⟨x,hx,dR⟩:=(p5 _ _ e1).2 j _ fc;simp only[Array.getD_eq_getD_getElem?,hx,Option.getD_some];exact ih i j row bw _ a' e1 hi fc hj dR
 |@gr k sz len rows cV fz ex hk hlen hl h1 h ih =>
  intro v hr;subst hl;rcases pj hr with ⟨h0,A',rfl⟩|⟨aK,c,rfl,_,hle⟩
  ·have:cV=[]:=List.length_eq_zero_iff.1 h0;subst this;exact .nil (fun h=>by grind)
  ·obtain⟨k2,k3,cs,ty,p1,p2,p3,p4,p5,p6,p7⟩:=hS.bT k _ hk aK;have je:∀ (i:Nat) (bw:List AV),cV[i]?=some bw->∃ row,rows[i]?=some row/\row.length=sz/\bw.length=sz:=by grind
   by_cases hn:cV=[]
   ·subst hn;exact .nil (fun h=>by grind)
   ·refine .sl (sz:=sz) (val:=fun i j=>cs.getD (i*sz+j) undef) hn (fun h=>by grind) hle (fun i bw hi=>(je i bw hi).choose_spec.2.2) (fun i j bw a' hi hj=>?_) (fun i j bw a' hi hj=>?_)
    ·obtain⟨row,e1,e2,e3⟩:=je i bw hi;have Bl:j < sz:=by grind
     have fc:=List.getElem?_eq_getElem (show j < row.length by omega);obtain⟨x,hx,dR⟩:=(p5 _ _ e1).2 j _ fc;refine⟨.inr ⟨k,sz,rows,fz,ex,hk,aK,rfl,?_⟩,?_⟩
     ·rw[Nat.zero_add];exact mf (List.getElem?_eq_some_iff.1 e1).1 Bl
     ·rw[Nat.zero_add,cell_of_row w (g.ob k) _ cs ty (0,0) p1,hx];simp[Array.getD_eq_getD_getElem?,hx]
    ·obtain⟨row,e1,e2,e3⟩:=je i bw hi;have Bl:j < sz:=by grind
     have fc:=List.getElem?_eq_getElem (show j < row.length by omega);obtain⟨x,hx,dR⟩:=(p5 _ _ e1).2 j _ fc;simp only[Array.getD_eq_getD_getElem?,hx,Option.getD_some];exact ih i j row bw _ a' e1 hi fc hj dR
 |@pt k sz i j rows row bw fz ex hk hi hl h ih =>
  intro v hr;cases hr with
  |pt aK =>
   obtain⟨k2,k3,cs,ty,p1,p2,p3,p4,p5,p6,p7⟩:=hS.bT k _ hk aK;obtain⟨q1,q2⟩:=p5 i row hi;have iH:∀ (q:Nat) (a':AV),bw[q]?=some a'->∃ x,cs[i*sz+(j+q)]?=some x/\aF (g.still S) w a' x:=by
    intro q a' cM;have hq:=(List.getElem?_eq_some_iff.1 cM).1;have e1:row[j+q]?=some (row[j+q]'(by omega)):=List.getElem?_eq_getElem (by omega);obtain⟨x,hx,dR⟩:=q2 _ _ e1;exact⟨x,hx,ih q _ a' e1 cM dR⟩
   have aA:i < rows.length:=(List.getElem?_eq_some_iff.1 hi).1;refine .ip (val:=fun q=>cs.getD (i*sz+(j+q)) undef) (fun q a' cM=>?_) (fun q a' cM=>?_)
   ·obtain⟨x,hx,_⟩:=iH q a' cM;have hq:=(List.getElem?_eq_some_iff.1 cM).1;refine⟨.inr ⟨k,sz,rows,fz,ex,hk,aK,rfl,?_⟩,?_⟩
    ·rw[Nat.add_assoc];exact mf aA (by omega)
    ·rw[cell_of_row _ _ _ cs ty (0,0) p1,Nat.add_assoc,hx];simp[Array.getD_eq_getD_getElem?,hx]
   ·obtain⟨x,hx,dR⟩:=iH q a' cM;simp only[Array.getD_eq_getD_getElem?,hx,Option.getD_some];exact dR
 |@fn f l l' m m' hl hm h1 h2 OR HA =>
  intro v hr;cases hr with
  |fn p1 p2 p3 p4 =>
   refine .fn (p1.trans hl) (p2.trans hm) (fun i a' x cM hx=>?_) (fun i a' x cM hx=>?_)
   ·have hi:i < l.length:=by grind
    exact OR i _ a' (List.getElem?_eq_getElem hi) cM (p3 i _ x (List.getElem?_eq_getElem hi) hx)
   ·have hi:i < m.length:=by grind
    exact HA i _ a' (List.getElem?_eq_getElem hi) cM (p4 i _ x (List.getElem?_eq_getElem hi) hx)
 |@sl ex rows cV hl h1 h ih =>
  intro v hr;cases hr with
  |nil hc =>
   have:cV=[]:=List.length_eq_zero_iff.1 (by grind);subst this;exact .nil (fun h=>by grind)
  |@sl _ _ b o sz c val hn hc hle hll p pr =>
   have je:∀ (i:Nat) (bw:List AV),cV[i]?=some bw->∃ row,rows[i]?=some row/\row.length=sz/\row.length=bw.length:=by grind
   rw[hl];refine .sl (sz:=sz) (val:=val) (fun e=>hn (List.length_eq_zero_iff.1 (by grind))) (fun h=>by grind) (by grind) (fun i bw hi=>?_) (fun i j bw a' hi hj=>?_) (fun i j bw a' hi hj=>?_)
   ·grind
   ·obtain⟨row,e1,e2,e3⟩:=je i bw hi;have Bl:j < row.length:=by grind
    obtain⟨q1,q2⟩:=p i j row _ e1 (List.getElem?_eq_getElem Bl);exact⟨.inl q1,q2⟩
   ·grind
 |@ip cs cs' hl h ih =>
  intro v hr;cases hr with
  |@ip _ b o val p pr =>
   have je:∀ (i:Nat) (a':AV),cs'[i]?=some a'->∃ a,cs[i]?=some a:=fun i a' hi=>⟨_,List.getElem?_eq_getElem (Nat.lt_of_lt_of_le (List.getElem?_eq_some_iff.1 hi).1 hl)⟩;refine .ip (val:=val) (fun i a' hi=>?_) (fun i a' hi=>?_)
   ·obtain⟨a,ha⟩:=je i a' hi;exact⟨.inl (p i a ha).1,(p i a ha).2⟩
   ·grind
theorem ah.of_wp {f:FuncId}{fn:Func}{c:Code}{args:List AV}(hf:P.funcs[f]?=some fn) (hb:fn.body=some c) (hc:∀ (xs:Array Value) (w:World),(callFunc f xs).run P w=.ok (.enter f xs) w)
  (hn:fn.ntmps=n) (bj:args.length<=n) (hp:Pure r) (h:∃ ex au S',cC P w0 false n c ⟨kG args,[]⟩ ae.none_ ex au S'/\Hz P fn.results (fun r' S=>aR S r' r) ex au S'):ah P w0 f args r:=by
 obtain⟨r',S',h1,h2⟩:=aC.of_wp hf hb hc hn bj h;refine⟨hp,ae.none_,h1.1,fun F m A g args' w hF hS hA=>(h1.2 F m A g args' w hF hS hA).mono ?_⟩;rintro e w' ⟨v,g',rfl,h3,h4,h5⟩;have hk:∀ b q,(g'.still S').fz b q->g.fz b q\/A b:=by
  rintro b q (hq|⟨k,sz,rows,fz,ex,hk,aK,rfl,hq⟩)
  ·exact h5.h_ b q hq
  ·exact .inr (h4.bT k _ hk aK).1
 have hr:=h2.rep h4 h3;obtain⟨g2,q_⟩:∃ g2:Gh,g2=⟨g.ob,g.cp,fun _=>False,(g'.still S').fz,g.fo⟩:=⟨_,rfl⟩;have uq:∀ k,¬ g.al k:=fun k hk=>absurd (hS.al k hk) (Nat.not_lt_zero k);have hL:Later g w g2 w':=by
  rw[q_];exact⟨fun k hk=>uq k hk,fun _ _=>rfl,fun _ _=>rfl,fun b q hq=>.inl (h5.fz b q hq),h5.cell⟩
 refine⟨v,g2,rfl,?_,?_,{ hL with size:=h5.size,aU:=h5.aU,h_:=by rw[q_];exact hk }⟩
 ·rw[q_];exact aF.pure (g:=g'.still S') (g':=⟨g.ob,g.cp,fun _=>False,(g'.still S').fz,g.fo⟩) (fun _ _ h=>h) (fun _ _ _=>rfl) hr hp
 ·have e0:∀ k o,¬ ae.none_.get k=some o:=fun k o h=>by simp[ae.none_] at h
  refine⟨h4.base,h4.up,h4.lo,fun k hk=>?_,fun k o hk=>absurd hk (e0 k o),fun j k o p hj=>absurd hj (e0 j o),?_,fun b q hb=>hL.fz b q (hS.oT b q hb),fun k J hk=>absurd hk (e0 k _),fun k J j o hk=>absurd hk (e0 k _),fun j k J J' hj=>absurd hj (e0 j _)⟩
  ·rw[q_] at hk;exact hk.elim
  ·rw[q_];rintro b q (hq|⟨k,sz,rows,fz,ex,hk,aK,rfl,hq⟩)
   ·exact h4.cK b q hq
   ·exact (h4.bT k _ hk aK).2.1
theorem St.inner {A:Nat->Prop}{g:Gh}{w:World}(hS:St w0 A g S w) (fz:Nat->Nat->Prop) (h1:∀ b q,g.fz b q->fz b q) (h2:∀ b q,fz b q->b < w.heap.size):St w0 (fun b=>w.heap.size<=b) ⟨g.ob,g.cp,fun _=>False,fz,g.fo⟩ ae.none_ w :=
 have e0:∀ k o,¬ ae.none_.get k=some o:=fun k o h=>by simp[ae.none_] at h
 ⟨hS.base,fun b hb=>hb,fun b hb=>Nat.le_trans hS.base.size hb,fun k hk=>hk.elim,fun k o hk=>absurd hk (e0 k o),fun j k o p hj=>absurd hj (e0 j o),h2,fun b q hb=>h1 b q (hS.oT b q hb),fun k J hk=>absurd hk (e0 k _),fun k J j o hk=>absurd hk (e0 k _),fun j k J J' hj=>absurd hj (e0 j _)⟩
theorem St.outer {A:Nat->Prop}{g g1:Gh}{w w':World}{fz:Nat->Nat->Prop}(hS:St w0 A g S w) (h1:∀ b q,g.fz b q->fz b q) (h2:∀ b q,fz b q->b < w.heap.size) (fJ:St w0 (fun b=>w.heap.size<=b) g1 S' w') (hE:Ext (fun b=>w.heap.size<=b) ⟨g.ob,g.cp,fun _=>False,fz,g.fo⟩ w g1 w') :
  Ext A g w ⟨g.ob,g.cp,g.al,fun b q=>g.fz b q\/(w.heap.size<=b/\g1.fz b q),g.fo⟩ w'/\St w0 A ⟨g.ob,g.cp,g.al,fun b q=>g.fz b q\/(w.heap.size<=b/\g1.fz b q),g.fo⟩ S w':=by
 have hold:∀ b,b < w.heap.size->w'.heap[b]?=w.heap[b]?:=fun b hb=>hE.aU b hb (by omega);have hL:Later g w ⟨g.ob,g.cp,g.al,fun b q=>g.fz b q\/(w.heap.size<=b/\g1.fz b q),g.fo⟩ w':=⟨fun _ h=>h,fun _ _=>rfl,fun _ _=>rfl,fun _ _ h=>.inl h,fun b q hq=>World.cell?_of_block (hold b (hS.cK b q hq))⟩;have rb:Ext A g w ⟨g.ob,g.cp,g.al,fun b q=>g.fz b q\/(w.heap.size<=b/\g1.fz b q),g.fo⟩ w':={ hL with size:=hE.size,aU:=fun b hb _=>hold b hb,h_:=fun b q hq=>hq.elim .inl fun h=>.inr (hS.up b h.1) };refine⟨rb,⟨fJ.base,fun b hb=>hS.up b (Nat.le_trans hE.size hb),hS.lo,hS.al,fun k o hk ha=>?_,hS.inj,fun b q hq=>?_,fun b q hb=>.inl (hS.oT b q hb),fun k J hk ha c hc=>⟨(hS.iE k J hk ha c hc).1,Nat.lt_of_lt_of_le (hS.iE k J hk ha c hc).2 hE.size⟩,hS.kL,hS.mQ⟩⟩
 ·obtain⟨k2,k3,k4⟩:=hS.bT k o hk ha;exact⟨k2,Nat.lt_of_lt_of_le k3 hE.size,k4.later hL (hold _ k3) (fun q hq=>hq.elim id fun h=>absurd h.1 (by grind)) fun J hJ=>⟨rfl,hE.size,fun c hc=>hold c (hS.iE k J (by grind) ha c hc).2,fun c q hc hq=>hq.elim id fun h=>absurd h.1 (by have:=(hS.iE k J (by grind) ha c hc).2;omega)⟩⟩
 ·rcases hq with hq|hq
  ·grind
  ·exact fJ.cK b q hq.2
inductive s_:AV->Prop where
 |v {x:Value}:s_ (.v x)
 |aG {l:List AV}(h:∀ a ∈ l,s_ a):s_ (.aG l)
 |agg {l:List AV}(h:∀ a ∈ l,s_ a):s_ (.agg l)
theorem aF.aju {g g':Gh}{w w':World}{a:AV}(hs:s_ a):∀ {x:Value},aF g w a x->aF g' w' a x:=by
 induction hs with
 |v=>intro x h;cases h;exact .v
 |aG hl ih=>intro x h;cases h with|aG h1 h2=>exact .aG h1 fun i a y ha hy=>ih _ (List.mem_of_getElem? ha) (h2 i a y ha hy)
 |agg hl ih=>intro x h;cases h with|agg h1 h2=>exact .agg h1 fun i a y ha hy=>ih _ (List.mem_of_getElem? ha) (h2 i a y ha hy)
theorem ah.CL {f:FuncId}{args:List AV}(h:ah P w0 f args r) (hp:∀ a ∈ args,Pure a) (S:ae):aC P w0 f args S r S:=by
 obtain⟨IJ,S1,h1,h2⟩:=h;refine⟨h1,fun F m A g args' w hF hS hA=>(h2 F m _ _ args' w hF (hS.inner g.fz (fun _ _ h=>h) hS.cK) ⟨hA.1,fun i a x ha hx=>aF.pure (g:=g) (g':=⟨g.ob,g.cp,fun _=>False,g.fz,g.fo⟩) (fun _ _ h=>h) (fun _ _ _=>rfl) (hA.2 i a x ha hx) (hp a (List.mem_of_getElem? ha))⟩).mono ?_⟩;rintro e w' ⟨v,g1,rfl,h3,h4,h5⟩;obtain⟨hE,cZ⟩:=hS.outer (fun _ _ h=>h) hS.cK h4 h5;refine⟨v,_,rfl,?_,cZ,hE⟩;refine aF.pure (g:=g1) (fun b q hq=>?_) (fun _ _ _=>rfl) h3 IJ;rcases h5.h_ b q hq with h|h
 ·grind
 ·grind
theorem ah.Sk {f:FuncId}{args eF:List AV}(h:ah P w0 f args r) (hp:∀ a ∈ args,Pure a) (hs:s_ r) (S:ae) (hl:eF.length=args.length) (hf:∀ (i:Nat) (a0 a:AV),eF[i]?=some a0->args[i]?=some a->aR S a0 a):aC P w0 f eF S r S:=by
 obtain⟨IJ,S1,h1,h2⟩:=h;refine⟨h1,fun F m A g args' w hF hS hA=>?_⟩;have aA:∀ b q,(g.still S).fz b q->b < w.heap.size:=by
  rintro b q (hq|⟨k,sz,rows,fz,ex,hk,aK,rfl,hq⟩)
  ·exact hS.cK b q hq
  ·exact (hS.bT k _ hk aK).2.1
 refine (h2 F m _ _ args' w hF (hS.inner (g.still S).fz (fun _ _ h=>.inl h) aA) ⟨hA.1.trans hl,fun i a x ha hx=>?_⟩).mono ?_
 ·have hi:i < eF.length:=by grind
  have Lo:=List.getElem?_eq_getElem hi;exact aF.pure (g:=g.still S) (g':=⟨g.ob,g.cp,fun _=>False,(g.still S).fz,g.fo⟩) (fun _ _ h=>h) (fun _ _ _=>rfl) ((hf i _ a Lo ha).rep hS (hA.2 i _ x Lo hx)) (hp a (List.mem_of_getElem? ha))
 ·rintro e w' ⟨v,g1,rfl,h3,h4,h5⟩;obtain⟨hE,cZ⟩:=hS.outer (fun _ _ h=>.inl h) aA h4 h5;exact⟨v,_,rfl,h3.aju hs,cZ,hE⟩
end
section
variable {P:Program}{w0:World}{n:Nat}{o:Oper}{α β:AA}{S S':ae}{r:AV}
theorem rX {γ δ:Type}{l:Array γ}{f g:γ->δ}(h:∀ x ∈ l,f x=g x):l.toList.map f=l.toList.map g:=List.map_congr_left fun x hx=>h x (by grind)
theorem RF {op:Op}{K:AV->ae->Prop}(h:∀ x ∈ op.operands,α.ev x=β.ev x) (H:a8 P w0 op α S K):a8 P w0 op β S K:=by
 cases op with
 |move x=>simp only[a8,bc] at H ⊢;rw[<-h x (by simp[Op.operands])];exact H
 |assign x=>simp only[a8,bc] at H ⊢;rw[<-h x (by simp[Op.operands])];exact H
 |pick c a b=>simp only[a8,bc] at H ⊢;rw[<-h c (by simp[Op.operands]),<-h a (by simp[Op.operands]),<-h b (by simp[Op.operands])];exact H
 |alloc e=>exact H
 |box e x=>simp only[a8,bc] at H ⊢;rw[<-h x (by simp[Op.operands])];exact H
 |build t parts =>
  simp only[a8,bc] at H ⊢;have e:(parts.toList.map fun (i,x)=>(i,α.ev x))=parts.toList.map fun (i,x)=>(i,β.ev x):=List.map_congr_left fun p hp=>by
   have:=h p.2 (by simp only[Op.operands,List.mem_toArray,List.mem_map];exact⟨p,hp,rfl⟩);show (p.1,α.ev p.2)=(p.1,β.ev p.2);rw[this]
  rw[<-e];exact H
 |buildSlice t len parts =>
  simp only[a8,bc] at H ⊢;have e:(parts.toList.map fun (i,x)=>(i,α.ev x))=parts.toList.map fun (i,x)=>(i,β.ev x):=List.map_congr_left fun p hp=>by
   have:=h p.2 (by simp only[Op.operands,List.mem_toArray,List.mem_map];exact⟨p,hp,rfl⟩);show (p.1,α.ev p.2)=(p.1,β.ev p.2);rw[this]
  rw[<-e];exact H
 |load t x=>simp only[a8,bc] at H ⊢;rw[<-h x (by simp[Op.operands])];exact H
 |store t x b=>simp only[a8,bc] at H ⊢;rw[<-h x (by simp[Op.operands]),<-h b (by simp[Op.operands])];exact H
 |binOp op t x y ty=>simp only[a8,bc] at H ⊢;rw[<-h x (by simp[Op.operands]),<-h y (by simp[Op.operands])];exact H
 |unOp op t x=>simp only[a8,bc] at H ⊢;rw[<-h x (by simp[Op.operands])];exact H
 |convert src dst x=>simp only[a8,bc] at H ⊢;rw[<-h x (by simp[Op.operands])];exact H
 |fieldAddr s x f=>simp only[a8,bc] at H ⊢;rw[<-h x (by simp[Op.operands])];exact H
 |field t x f=>simp only[a8,bc] at H ⊢;rw[<-h x (by simp[Op.operands])];exact H
 |indexAddr t x i=>simp only[a8,bc] at H ⊢;rw[<-h x (by simp[Op.operands]),<-h i (by simp[Op.operands])];exact H
 |index t x i=>simp only[a8,bc] at H ⊢;rw[<-h x (by simp[Op.operands]),<-h i (by simp[Op.operands])];exact H
 |slice t x lo hi mx =>
  simp only[a8,bc] at H ⊢;have e:∀ z:Option Operand,(∀ y ∈ z,y ∈ (Op.slice t x lo hi mx).operands)->z.map α.ev=z.map β.ev:=by
   intro z hz;cases z with
   |none=>rfl
   |some y=>simp only[Option.map_some];rw[h y (hz y rfl)]
  rw[<-h x (by simp[Op.operands]),<-e lo (fun y hy=>by simp[Op.operands];simp at hy;simp[hy]),<-e hi (fun y hy=>by simp[Op.operands];simp at hy;simp[hy]),<-e mx (fun y hy=>by simp[Op.operands];simp at hy;simp[hy])];exact H
 |extract x i=>simp only[a8,bc] at H ⊢;rw[<-h x (by simp[Op.operands])];exact H
 |makeFunc f first cap =>
  simp only[a8,bc] at H ⊢;rw[<-rX (l:=first) fun x hx=>h x (by simp[Op.operands,hx]),<-rX (l:=cap) fun x hx=>h x (by simp[Op.operands,hx])];exact H
 |nilCheck x=>simp only[a8,bc] at H ⊢;rw[<-h x (by simp[Op.operands])];exact H
 |makeSlice t l c=>simp only[a8,bc] at H ⊢;rw[<-h l (by simp[Op.operands]),<-h c (by simp[Op.operands])];exact H
 |range t x=>simp only[a8,bc] at H ⊢;rw[<-h x (by simp[Op.operands])];exact H
 |next x b=>simp only[a8,bc] at H ⊢;rw[<-h x (by simp[Op.operands])];exact H
 |call c =>
  have e:c.args.toList.map α.ev=c.args.toList.map β.ev:=rX fun x hx=>h x (by simp[Op.operands,Call.operands,hx]);simp only[a8,bc] at H ⊢;split at H
  ·rename_i f hc;rw[<-e,<-h f (by simp[Op.operands,Call.operands,hc])];exact H
  ·grind
  ·grind
 |_=>exact H.elim
def m_:Op->Bool
 |.move _|.assign _|.pick ..|.build ..|.buildSlice ..|.binOp ..|.unOp ..|.convert ..|.fieldAddr ..|.field ..|.indexAddr ..|.index ..|.slice ..|.extract ..|.makeFunc ..|.nilCheck _=>true
 |.call c=>match c.callee with|.builtin .len|.builtin .min|.builtin .max=>true|_=>false
 |_=>false
def zL:Op->Bool
 |.load ..=>false
 |.call c=>match c.callee with|.value _=>false|.builtin .len|.builtin .min|.builtin .max=>false|_=>true
 |o=>!m_ o
theorem abY {t:Bool}{X Y:Prop}(h:br t X Y):(t=true/\X)\/(t=false/\Y):=by cases t;exact .inr ⟨rfl,h⟩;exact .inl ⟨rfl,h⟩
def td (r:AV) (S:ae) (r':AV) (S':ae):Prop:=r'=r/\S'=S
theorem Wn {op:Op}{K:AV->ae->Prop}(hp:m_ op=true) (h:a8 P w0 op α S K):∃ r,K r S/\∀ S',a8 P w0 op α S' (td r S'):=by
 cases op with
 |move x=>exact⟨_,h,fun S'=>⟨rfl,rfl⟩⟩
 |assign x=>exact⟨_,h,fun S'=>⟨rfl,rfl⟩⟩
 |pick c a b =>
  simp only[a8,bc] at h ⊢;split at h
  ·rcases abY h with ⟨rfl,h⟩|⟨rfl,h⟩
   ·exact⟨_,h,fun S'=>⟨rfl,rfl⟩⟩
   ·exact⟨_,h,fun S'=>⟨rfl,rfl⟩⟩
  ·grind
 |build t parts =>
  simp only[a8,bc] at h ⊢;split at h
  ·exact⟨_,h,fun S'=>⟨rfl,rfl⟩⟩
  ·grind
 |buildSlice t len parts =>
  simp only[a8,bc] at h ⊢;split at h
  ·split at h
   ·split at h
    ·split at h
     ·exact⟨_,h,fun S'=>⟨rfl,rfl⟩⟩
     ·grind
    ·grind
   ·grind
  ·grind
 |binOp op t x y ty =>
  simp only[a8,bc] at h ⊢;split at h
  ·split at h
   ·split at h
    ·obtain⟨d,hd,hK⟩:=h;exact⟨_,hK,fun S'=>⟨d,hd,⟨rfl,rfl⟩⟩⟩
    ·grind
   ·split at h
    ·exact⟨_,h.out,fun S'=>s8.mk ⟨rfl,rfl⟩⟩
    ·grind
  ·split at h
   ·exact⟨_,h.2,fun S'=>⟨h.1,⟨rfl,rfl⟩⟩⟩
   ·split at h
    ·exact⟨_,h.out,fun S'=>s8.mk ⟨rfl,rfl⟩⟩
    ·grind
  ·split at h
   ·exact⟨_,h.out,fun S'=>s8.mk ⟨rfl,rfl⟩⟩
   ·grind
  ·grind
 |unOp op t x =>
  simp only[a8,bc] at h ⊢;split at h
  ·exact⟨_,h,fun S'=>⟨rfl,rfl⟩⟩
  ·obtain⟨d,hd,hK⟩:=h;exact⟨_,hK,fun S'=>⟨d,hd,⟨rfl,rfl⟩⟩⟩
  ·grind
 |convert src dst x =>
  simp only[a8,bc] at h ⊢;split at h
  ·obtain⟨d,hd,hK⟩:=h;exact⟨_,hK,fun S'=>⟨d,hd,⟨rfl,rfl⟩⟩⟩
  ·exact⟨_,h,fun S'=>⟨rfl,rfl⟩⟩
  ·grind
 |fieldAddr s x f =>
  simp only[a8,bc] at h ⊢;split at h
  ·split at h
   ·split at h
    ·split at h
     ·exact⟨_,h,fun S'=>⟨rfl,rfl⟩⟩
     ·exact⟨_,h,fun S'=>⟨rfl,rfl⟩⟩
     ·grind
    ·grind
   ·grind
  ·grind
 |field t x f =>
  simp only[a8,bc] at h ⊢;split at h
  ·split at h
   ·split at h
    ·split at h
     ·exact⟨_,h,fun S'=>⟨rfl,rfl⟩⟩
     ·grind
    ·grind
   ·grind
  ·grind
 |indexAddr t x i =>
  simp only[a8,bc] at h ⊢;split at h
  ·split at h
   ·split at h
    ·exact⟨_,h.2,fun S'=>⟨h.1,⟨rfl,rfl⟩⟩⟩
    ·grind
   ·grind
  ·exact⟨_,h.2.2.2,fun S'=>⟨h.1,h.2.1,h.2.2.1,⟨rfl,rfl⟩⟩⟩
  ·split at h
   ·exact⟨_,h.2.2,fun S'=>⟨h.1,h.2.1,⟨rfl,rfl⟩⟩⟩
   ·grind
  ·split at h
   ·exact⟨_,h.2.2,fun S'=>⟨h.1,h.2.1,⟨rfl,rfl⟩⟩⟩
   ·grind
  ·grind
 |index t x i =>
  simp only[a8,bc] at h ⊢;split at h
  ·split at h
   ·exact⟨_,h,fun S'=>⟨rfl,rfl⟩⟩
   ·grind
  ·split at h
   ·split at h
    ·exact⟨_,h.2.2,fun S'=>⟨h.1,h.2.1,⟨rfl,rfl⟩⟩⟩
    ·grind
   ·grind
  ·grind
 |slice t x lo hi mx =>
  simp only[a8,ln] at h ⊢;split at h
  ·split at h
   ·exact⟨_,h.2.2.2,fun S'=>⟨h.1,h.2.1,h.2.2.1,⟨rfl,rfl⟩⟩⟩
   ·grind
  ·split at h
   ·exact⟨_,h.2.2.2.2.2,fun S'=>⟨h.1,h.2.1,h.2.2.1,h.2.2.2.1,h.2.2.2.2.1,⟨rfl,rfl⟩⟩⟩
   ·grind
  ·split at h
   ·exact⟨_,h.2.2.2.2.2.2,fun S'=>⟨h.1,h.2.1,h.2.2.1,h.2.2.2.1,h.2.2.2.2.1,h.2.2.2.2.2.1,⟨rfl,rfl⟩⟩⟩
   ·grind
  ·split at h
   ·exact⟨_,h.2.2.2,fun S'=>⟨h.1,h.2.1,h.2.2.1,⟨rfl,rfl⟩⟩⟩
   ·rename_i e kd l hh hu wB wo;obtain⟨h1,h2,h3,h4,h5,h6⟩:=h;by_cases c:l=hh
    ·exact⟨_,h5 c,fun S'=>⟨h1,h2,h3,h4,fun _=>⟨rfl,rfl⟩,fun c'=>absurd c (by omega)⟩⟩
    ·exact⟨_,h6 (by omega),fun S'=>⟨h1,h2,h3,h4,fun c'=>absurd c' c,fun _=>⟨rfl,rfl⟩⟩⟩
   ·grind
  ·split at h
   ·exact⟨_,h.2.2.2.2.2,fun S'=>⟨h.1,h.2.1,h.2.2.1,h.2.2.2.1,h.2.2.2.2.1,⟨rfl,rfl⟩⟩⟩
   ·grind
  ·grind
 |extract x i =>
  simp only[a8,bc] at h ⊢;split at h
  ·split at h
   ·exact⟨_,h,fun S'=>⟨rfl,rfl⟩⟩
   ·grind
  ·grind
 |makeFunc f first cap=>exact⟨_,h,fun S'=>⟨rfl,rfl⟩⟩
 |nilCheck x =>
  simp only[a8,bc] at h ⊢;split at h
  ·exact⟨_,h,fun S'=>⟨rfl,rfl⟩⟩
  ·exact⟨_,h,fun S'=>⟨rfl,rfl⟩⟩
  ·grind
 |call c =>
  simp only[m_] at hp;simp only[a8,bc] at h ⊢;split at h
  ·grind
  ·rename_i b hc;rw[hc] at hp;simp only[mR,bc] at h ⊢;split at h
   ·split at h
    ·split at h
     ·exact⟨_,h,fun S'=>⟨rfl,rfl⟩⟩
     ·grind
    ·grind
   ·grind
   ·split at h
    ·split at h
     ·exact⟨_,h,fun S'=>⟨rfl,rfl⟩⟩
     ·grind
    ·grind
   ·split at h
    ·split at h
     ·exact⟨_,h,fun S'=>⟨rfl,rfl⟩⟩
     ·grind
    ·grind
   ·grind
  ·grind
 |_=>cases hp
def AA.only (α:AA) (ts:List Tmp):AA:=⟨fun t=>if ts.contains t then α.tm t else .u,α.df⟩
theorem eH {ts:List Tmp}{x:Operand}(h:∀ t,x=.tmp t->t ∈ ts):(α.only ts).ev x=α.ev x:=by
 cases x with
 |tmp t =>
  show (if ts.contains t then α.tm t else .u)=α.tm t;rw[if_pos (by grind)]
 |_=>rfl
theorem bR.only {g:Gh}{w:World}{a:Act}(h:bR g w n α a) (ts:List Tmp):bR g w n (α.only ts) a:=by
 refine⟨h.size,fun t ht=>?_,fun t ht=>?_,h.df,h.rY⟩
 ·show aF g w (if ts.contains t then α.tm t else .u) _;split
  ·exact h.tm t ht
  ·exact .u
 ·show (if ts.contains t then α.tm t else .u)=.u;rw[h.out t ht];split<;>rfl
end
section
variable {P:Program}{w0:World}{n:Nat}{o:Oper}{α β:AA}{S S':ae}{r:AV}{ops:Array Oper}
def cG (o:Oper):List Tmp:=o.op.operands.toList.filterMap fun|.tmp t=>some t|_=>none
theorem en {t:Tmp}(h:Operand.tmp t ∈ o.op.operands):t ∈ cG o:=by
 unfold cG;rw[List.mem_filterMap];exact⟨.tmp t,by grind,rfl⟩
theorem rq {t:Tmp}(h:t ∈ cG o):t ∈ o.looksAt ops:=List.mem_append.2 (.inl h)
def GS (P:Program) (w0:World) (n:Nat) (ops:Array Oper) (i:Nat) (α:AA) (S:ae) (α1:AA) (S1:ae):Prop :=
 ∃ o,ops[i]?=some o/\(match o.dst with|some d=>Nat.blt d n|none=>true)=true /\
  ((∃ (j:Nat) (want:Bool) (b:Option Bool),o.guard=some (j,want)/\oX ops α j=some b/\b ≠ some want/\α1=α.put o.dst (.v undef)/\S1=S) \/
   ((o.guard=none\/∃ j want,o.guard=some (j,want)/\oX ops α j=some (some want))/\∃ r,α1=α.put o.dst r/\ez P w0 n o (α.only (cG o)) S r S1 /\
      (m_ o.op=true->S1=S/\∀ S,ez P w0 n o (α.only (cG o)) S r S)/\(zL o.op=false->S1=S)))
theorem RG {d:Option Tmp}{a:AV}{t:Tmp}(h:∀ e,d=some e->t ≠ e):(α.put d a).tm t=α.tm t:=by
 cases d with
 |none=>rfl
 |some e=>exact aD _ _ (h e rfl)
theorem abZ {d:Option Tmp}{a:AV}:(α.put d a).df=α.df:=by cases d<;>rfl
theorem oS {d:Option Tmp}{a:AV}{ts:List Tmp}(h:∀ e,d=some e->e ∉ ts):(α.put d a).only ts=α.only ts:=by grind[AA.only,abZ,RG]
theorem nf {d:Option Tmp}{a:AV}{j:Nat}(h:∀ e,d=some e->(ops[j]?).bind (·.dst) ≠ some e):oX ops (α.put d a) j=oX ops α j:=by grind[oX,RG]
theorem put_comm {d e:Option Tmp}{a b:AV}(h:∀ t,d=some t->e ≠ some t):(α.put d a).put e b=(α.put e b).put d a:=by
 cases d with
 |none=>rfl
 |some d =>
  cases e with
  |none=>rfl
  |some e =>
   have bU:e ≠ d:=fun he=>h d rfl (by grind);show (⟨a7 (a7 α.tm d a) e b,α.df⟩:AA)=⟨a7 (a7 α.tm e b) d a,α.df⟩;congr 1;funext t;by_cases c1:t=e
   ·grind[az,aD]
   ·grind[aD,az]
def OK (x y:Oper):Bool:=m_ x.op || m_ y.op || (!zL x.op && !zL y.op)
theorem GS.frame {i:Nat}{α1:AA}{S1:ae}{d:Option Tmp}{a:AV}(h:GS P w0 n ops i α S α1 S1) (hd:∀ o,ops[i]?=some o->∀ e,d=some e->e ∉ o.looksAt ops/\o.dst ≠ some e):GS P w0 n ops i (α.put d a) S (α1.put d a) S1:=by
 obtain⟨o,hi,hn,h⟩:=h;have h1:∀ e,d=some e->e ∉ cG o:=fun e he hm=>(hd o hi e he).1 (rq hm);have h2:∀ j want,o.guard=some (j,want)->∀ e,d=some e->(ops[j]?).bind (·.dst) ≠ some e:=by
  intro j want hg e he h3;refine (hd o hi e he).1 (List.mem_append.2 (.inr ?_));rw[hg];simp only;rw[h3];simp
 have hc:∀ x,(α.put o.dst x).put d a=(α.put d a).put o.dst x:=fun x=>(put_comm fun t ht e=>(hd o hi t ht).2 e).symm;refine⟨o,hi,hn,?_⟩;rcases h with ⟨j,want,b,hg,hy,bU,rfl,rfl⟩|⟨hg,r,rfl,h3,h4,h5⟩
 ·grind[nf]
 ·grind[oS,nf]
theorem GS.shape {i:Nat}{α1:AA}{S1:ae}(h:GS P w0 n ops i α S α1 S1):∃ o a,ops[i]?=some o/\α1=α.put o.dst a/\(zL o.op=false->S1=S)/\(m_ o.op=true->S1=S):=by
 obtain⟨o,hi,hn,h⟩:=h;rcases h with ⟨j,want,b,hg,hy,bU,rfl,rfl⟩|⟨hg,r,rfl,h3,h4,h5⟩
 ·grind
 ·grind
theorem GS.anyS {i:Nat}{α1:AA}{S1 T:ae}(h:GS P w0 n ops i α S α1 S1) (hp:∀ o,ops[i]?=some o->m_ o.op=true):GS P w0 n ops i α T α1 T:=by
 obtain⟨o,hi,hn,h⟩:=h;refine⟨o,hi,hn,?_⟩;rcases h with ⟨j,want,b,hg,hy,bU,h1,h2⟩|⟨hg,r,h1,h3,h4,h5⟩
 ·grind
 ·grind
theorem GS.swap {i j:Nat}{oi oj:Oper}{α1 nO:AA}{S1 S2:ae}(hi:ops[i]?=some oi) (hj:ops[j]?=some oj) (ot:oi.apart ops oj=true) (hc:OK oi oj=true) (h:GS P w0 n ops i α S α1 S1) (k:GS P w0 n ops j α1 S1 nO S2) :
  ∃ tZ zU,GS P w0 n ops j α S tZ zU/\GS P w0 n ops i tZ zU nO S2:=by
 obtain⟨e1,e2,e3⟩:=Oper.apart_spec ot;obtain⟨o7,a,jV,rfl,hwi,Qr⟩:=h.shape;obtain rfl:o7=oi:=by grind
 obtain⟨qk,b,lx,rfl,hwj,hpj⟩:=k.shape;obtain rfl:qk=oj:=by grind
 have kj:∀ T T2,GS P w0 n ops j (α.put o7.dst a) T ((α.put o7.dst a).put qk.dst b) T2->GS P w0 n ops j α T (α.put qk.dst b) T2:=by
  intro T T2 hk;obtain⟨o,ho,hn,hk⟩:=hk;obtain rfl:o=qk:=by grind
  have h1:∀ e,o7.dst=some e->e ∉ cG o:=fun e he hm=>e1 e he (rq hm);have h2:∀ q want,o.guard=some (q,want)->∀ e,o7.dst=some e->(ops[q]?).bind (·.dst) ≠ some e:=by
   intro q want hg e he h3;refine e1 e he (List.mem_append.2 (.inr ?_));rw[hg];simp only;rw[h3];simp
  have inj:∀ x y:AV,(α.put o7.dst a).put o.dst x=(α.put o7.dst a).put o.dst y->α.put o.dst x=α.put o.dst y:=by
   intro x y kr;cases tI:o.dst with
   |none=>rfl
   |some d =>
    rw[tI] at kr;have:x=y:=by
     have h3:=congrArg (fun z:AA=>z.tm d) kr;simpa[AA.put,az] using h3
    rw[this]
  refine⟨o,ho,hn,?_⟩;rcases hk with ⟨q,want,c,hg,hy,bU,h3,h4⟩|⟨hg,r,h3,h4,h5,h6⟩
  ·grind[nf]
  ·grind[oS,nf]
 have ki:∀ T T2,GS P w0 n ops i α T (α.put o7.dst a) T2->GS P w0 n ops i (α.put qk.dst b) T ((α.put o7.dst a).put qk.dst b) T2:=fun T T2 h'=>h'.frame fun o ho e he=>by grind
 simp only[OK,Bool.or_eq_true,Bool.and_eq_true,Bool.not_eq_true'] at hc;rcases hc with (hp|hp)|⟨vO,OZ⟩
 ·
  have fJ:=Qr hp;subst fJ;exact⟨_,S2,kj _ _ k,ki _ _ (h.anyS (fun o ho=>by grind))⟩
 ·have mM:=hpj hp;subst mM;exact⟨_,S,kj _ _ (k.anyS (T:=S) (fun o ho=>by grind)),ki _ _ h⟩
 ·grind
inductive ql (P:Program) (w0:World) (n:Nat) (ops:Array Oper):List Nat->AA->ae->AA->ae->Prop where
 |nil (α:AA) (S:ae):ql P w0 n ops [] α S α S
 |cons {i:Nat}{rest:List Nat}{α α1 au:AA}{S S1 S':ae}(h:GS P w0 n ops i α S α1 S1) (t:ql P w0 n ops rest α1 S1 au S'):ql P w0 n ops (i::rest) α S au S'
def um (ops:Array Oper) (i j:Nat):Bool :=
 match ops[i]?,ops[j]? with
 |some oi,some oj=>oi.apart ops oj && OK oi oj
 |_,_=>false
theorem ql.front {j:Nat}:∀ {C1 C2:List Nat}{α au:AA}{S S':ae},(∀ x ∈ C1,um ops x j=true)->ql P w0 n ops (C1++j::C2) α S au S'->ql P w0 n ops (j::(C1++C2)) α S au S'
 |[],C2,α,au,S,S',_,h=>h
 |x::C1,C2,α,au,S,S',hx,h=>by
  cases h with
  |@cons _ _ _ α1 _ _ S1 _ h t =>
   have t':=ql.front (fun y hy=>hx y (by grind)) t;cases t' with
   |@cons _ _ _ nO _ _ S2 _ k t2 =>
    have hp:=hx x (by simp);unfold um at hp;split at hp
    ·rename_i oi oj hi hj;simp only[Bool.and_eq_true] at hp;obtain⟨tZ,zU,h1,h2⟩:=h.swap hi hj hp.1 hp.2 k;exact .cons h1 (.cons h2 t2)
    ·grind
theorem ql.perm:∀ {L C:List Nat}{α au:AA}{S S':ae},C.Pairwise (· < ·)->L.Pairwise (fun y x=>x < y->um ops x y=true)->(∀ x,x ∈ L ↔ x ∈ C)->L.Nodup->ql P w0 n ops C α S au S'->ql P w0 n ops L α S au S'
 |[],C,α,au,S,S',_,_,hm,_,h=>by
  have:C=[]:=by
   cases C with
   |nil=>rfl
   |cons x C=>have:=(hm x).2 (by simp);cases this
  subst this;exact h
 |y::L,C,α,au,S,S',hC,hL,hm,hn,h=>by
  obtain⟨C1,C2,rfl⟩:=List.append_of_mem ((hm y).1 (by simp));rw[List.pairwise_cons] at hL;rw[List.nodup_cons] at hn;rw[List.pairwise_append,List.pairwise_cons] at hC;obtain⟨p1,⟨p2,p3⟩,p4⟩:=hC;have lQ:∀ x ∈ C1,x < y:=fun x hx=>p4 x hx y (by simp);have bK:∀ x ∈ C2,y < x:=p2;have fG:∀ x,x ∈ L ↔ x ∈ C1++C2:=by grind
  have hf:=ql.front (fun x hx=>hL.1 x ((fG x).2 (by grind)) (lQ x hx)) h;cases hf with
  |cons h1 h2 =>
   refine .cons h1 (ql.perm (L:=L) ?_ hL.2 fG hn.2 h2);rw[List.pairwise_append];exact⟨p1,p3,fun a ha b hb=>p4 a ha b (by grind)⟩
theorem ql.zV:∀ {L:List Nat}{α au:AA}{S S':ae},ql P w0 n ops L α S au S'->rT P w0 n ops L α S au S'
 |[],_,_,_,_,.nil α S=>fun F m A g a w Q hF hS hA hQ=>hQ a w g hS hA (Ext.refl ..)
 |i::rest,α,au,S,S',.cons (α1:=α1) (S1:=S1) h t=>by
  have ih:=ql.zV t;obtain⟨o,hi,hd,h⟩:=h;rcases h with ⟨j,want,b,hg,hy,bU,rfl,rfl⟩|⟨hg,r,rfl,h3,_,_⟩
  ·intro F m A g a w Q hF hS hA hQ;have Gu:¬ Region.wanted o (yielded ops a.tmps)=true:=by simp[Region.wanted,hg,pW hA hy,bU]
   simp only[wpOpsIn,hi];rw[if_neg Gu];exact⟨fun f _=>hF.1 f,ih F m A g _ w Q hF hS (lE hA hd .v) hQ⟩
  ·intro F m A g a w Q hF hS hA hQ;have hw:Region.wanted o (yielded ops a.tmps)=true:=by
    rcases hg with hg|⟨j,want,hg,hy⟩
    ·simp[Region.wanted,hg]
    ·simp[Region.wanted,hg,pW hA hy]
   simp only[wpOpsIn,hi];rw[if_pos hw];refine⟨fun f _=>hF.1 f,h3 F m A g a w _ Q hF hS (hA.only _) fun v w' g' hr fk hE=>?_⟩;exact ih F m A g' _ w' Q hF fk (lE (hA.later hE.toLater) hd hr) fun a' kR vP h1 h2 h3=>hQ a' kR vP h1 h2 (hE.trans h3)
end
end Go.Proofs.YtbpabjmnhggajaaGreat
