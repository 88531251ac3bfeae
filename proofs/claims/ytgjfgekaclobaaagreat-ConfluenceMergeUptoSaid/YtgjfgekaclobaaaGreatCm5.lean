import Derived.Test.YtgjfgekaclobaaaGreatCm4
namespace Go.Proofs.YtgjfgekaclobaaaGreat
set_option linter.unusedVariables false
set_option linter.unusedSimpArgs false
open Go.RowKit
section
variable {P:Program}{w0:World}{n:Nat}{o:Oper}{α:AA}{S S':aa}{r:AV}
theorem CV {rows:List (List AV)}{sz:Nat}(h:∀ r ∈ rows,r.length=sz):rows.flatten.length=rows.length*sz:=by
 induction rows with
 |nil=>simp
 |cons r rs ih =>
  rw [List.flatten_cons,List.length_append,ih (fun x hx=>h x (by simp [hx])),h r (by simp),List.length_cons,Nat.add_mul,Nat.one_mul,Nat.add_comm]
theorem CW {sz j:Nat}:∀ {rows:List (List AV)}{i:Nat}{row:List AV},(∀ r ∈ rows,r.length=sz)->rows[i]?=some row->j < sz->rows.flatten[i*sz+j]?=row[j]?
 |[],i,row,_,hi,_=>by simp at hi
 |r::rs,0,row,h,hi,hj=>by
  simp at hi
  subst hi
  rw [List.flatten_cons,List.getElem?_append_left (by rw [h r (by simp)];omega)]
  simp
 |r::rs,i+1,row,h,hi,hj=>by
  simp at hi
  have hr:=h r (by simp)
  rw [List.flatten_cons,List.getElem?_append_right (by rw [hr,Nat.add_mul];omega),hr,show (i+1)*sz+j - sz=i*sz+j by rw [Nat.add_mul];omega]
  exact CW (fun x hx=>h x (by simp [hx])) hi hj
theorem CX {sz:Nat}:∀ {rows:List (List AV)}{q:Nat}{a:AV},(∀ r ∈ rows,r.length=sz)->rows.flatten[q]?=some a->∃ i j row,rows[i]?=some row/\row[j]?=some a/\q=i*sz+j
 |[],q,a,_,hq=>by simp at hq
 |r::rs,q,a,h,hq=>by
  have hr:=h r (by simp)
  by_cases c:q < sz
  ·rw [List.flatten_cons,List.getElem?_append_left (by omega)] at hq
   exact⟨0,q,r,rfl,hq,by omega⟩
  ·rw [List.flatten_cons,List.getElem?_append_right (by omega),hr] at hq
   obtain⟨i,j,row,h1,h2,h3⟩:=CX (fun x hx=>h x (by simp [hx])) hq
   exact⟨i+1,j,row,h1,h2,by rw [Nat.add_mul];omega⟩
def Src (g:Gh) (w:World) (sz:Nat) (rows:List (List AV)) (a:Addr) (news:List Value):Prop :=
 news.length=rows.length*sz/\(∀ j u,news[j]?=some u->w.cell? (a.add j)=some u)/\∀ (i:Nat) (row:List AV),rows[i]?=some row->∀ (j:Nat) (a:AV),row[j]?=some a->∃ x,news[i*sz+j]?=some x/\aA g w a x
theorem mC {g:Gh}{w:World}{sz b q:Nat}{rows:List (List AV)}(hl:∀ r ∈ rows,r.length=sz) (h:∀ (i j:Nat) (row:List AV) (a:AV),rows[i]?=some row->row[j]?=some a->∃ x,w.cell? ⟨b,q+(i*sz+j),none⟩=some x/\aA g w a x) :
  ∃ news,Src g w sz rows ⟨b,q,none⟩ news:=by
 obtain⟨cs,h1,h2,h3⟩:=Cells.list (g:=g) (w:=w) (b:=b) (row:=rows.flatten) (o:=q) (fun p a ha=>by
  obtain⟨i,j,row,hi,hj,e⟩:=CX hl ha
  rw [e]
  exact h i j row a hi hj)
 refine⟨cs,h1.trans (CV hl),fun j u hu=>by rw [dV];exact h2 j u hu,fun i row hi j a ha=>?_⟩
 have hj:j < sz:=by rw [<-hl row (List.mem_of_getElem? hi)];exact (List.getElem?_eq_some_iff.1 ha).1
 have hf:=CW hl hi hj
 have aB:i*sz+j < cs.length:=by rw [h1,CV hl];exact iT (List.getElem?_eq_some_iff.1 hi).1 hj
 exact⟨cs[i*sz+j],List.getElem?_eq_getElem aB,h3 _ a _ (hf.trans ha) (List.getElem?_eq_getElem aB)⟩
theorem fj {g:Gh}{w:World}{k sz off len:Nat}{cx:Option Nat}{v:Value}(h:aA g w (.ob k sz off len cx) v):∃ c,v=.slice (some ⟨g.ob k,off*sz,none⟩) len c/\g.al k/\(∀ m,cx=some m->c=m)/\off+c<=g.cp k/\(cx=none->off+c=g.cp k)/\len<=c:=by
 cases h with
 |ob hk hc hp hx hle=>exact⟨_,rfl,hk,hc,hp,hx,hle⟩
theorem nQ {β:Type}{rows:List β}{off len i:Nat}{row:β}(h:((rows.drop off).take len)[i]?=some row):i < len/\rows[off+i]?=some row:=by
 rw [List.getElem?_take] at h
 split at h
 ·rename_i hi
  rw [List.getElem?_drop] at h
  exact⟨hi,h⟩
 ·cases h
theorem kC {A:Nat->Prop}{g:Gh}{w:World}{a:AV}{v:Value}{rows:List (List AV)}{sz:Nat}(hS:St w0 A g S w) (h:rowsOf S a=some rows) (hr:aA g w a v) (hn:rows ≠ []) (hl:∀ r ∈ rows,r.length=sz) (hlen:kQ a=some rows.length) :
  ∃ b q c news,v=.slice (some ⟨b,q,none⟩) rows.length c/\rows.length<=c/\Src g w sz rows ⟨b,q,none⟩ news:=by
 unfold rowsOf at h
 split at h
 ·rename_i ex bV
  obtain rfl:=Option.some.inj h
  cases hr with
  |nil=>exact absurd rfl hn
  |@sl _ _ b q sz' c val Ek hc hle jT h1 h2 =>
   have e:sz'=sz:=by
    obtain⟨r0,rs,rfl⟩:=List.exists_cons_of_ne_nil hn
    have h3:=jT 0 r0 rfl
    have h4:=hl r0 (by simp)
    omega
   subst e
   obtain⟨news,hs⟩:=mC (g:=g) (w:=w) (b:=b) (q:=q) hl (fun i j row a hi hj=>⟨_,(h1 i j row a hi hj).2,h2 i j row a hi hj⟩)
   exact⟨b,q,c,news,rfl,hle,hs⟩
 ·rename_i k sz' off len cx
  split at h
  ·rename_i ew bV fz ex hk
   split at h
   ·rename_i aZ
    have aZ:=Nat.eq_of_beq_eq_true aZ
    subst aZ
    obtain rfl:=Option.some.inj h
    obtain⟨c,rfl,aH,hc,hp,hx,hle⟩:=fj hr
    obtain⟨k2,k3,cs,ty,h1,h2,h3,h4,h5,h6,h7⟩:=hS.bj k _ hk aH
    have e:sz'=sz:=by
     obtain⟨r0,rs,e0⟩:=List.exists_cons_of_ne_nil hn
     have h8:((bV.drop off).take len)[0]?=some r0:=by rw [e0];rfl
     have h9:=(h5 _ r0 (nQ h8).2).1
     have DL:=hl r0 (by rw [e0];simp)
     omega
    subst e
    obtain⟨news,hs⟩:=mC (g:=g) (w:=w) (b:=g.ob k) (q:=off*sz') hl (fun i j row a hi hj=>by
     obtain⟨x,mH,iN⟩:=(h5 _ row (nQ hi).2).2 j a hj
     refine⟨x,?_,iN⟩
     rw [cell_of_row _ _ _ cs ty (0,0) h1,<-mH,Nat.add_mul,Nat.add_assoc])
    have e2:len=((bV.drop off).take len).length:=by simpa [kQ] using hlen
    exact⟨_,_,c,news,by rw [<-e2],by rw [<-e2];exact hle,hs⟩
   ·cases h
  ·cases h
 ·cases h
theorem mq {g:Gh}{w:World}{a:AV}{v:Value}(hlen:kQ a=some 0) (h:rowsOf S a=some []) (hr:aA g w a v):∃ B c,v=.slice B 0 c:=by
 rcases Cl hlen hr with ⟨B,c,e⟩|⟨s,e,_⟩
 ·exact⟨B,c,e⟩
 ·rw [e] at hr
  cases hr with
  |v=>simp [rowsOf] at h
  |u=>simp [rowsOf] at h
theorem mu {t t2 ty e e2:TypeId}{w:World}{x y:Value}(ht:P.underlying t=some (.slice e)) (dQ:P.underlying t2=some (.slice e2)):(Builtin.append_ #[t,t2] ty #[x,y]).run P w=(Builtin.append_ #[t,t] ty #[x,y]).run P w:=by
 simp only [Builtin.append_,List.getElem?_toArray,List.getElem?_cons_zero,List.getElem?_cons_succ,Sem.run_bind,run_underlying ht,run_underlying dQ,Result.andThen_ok]
 cases x<;>first|rfl|simp only [Sem.run_bind,run_underlying ht,run_underlying dQ,Result.andThen_ok,Sem.run_pure]
theorem oX (w:World) (t ty e lj:TypeId) (i:TypeInfo) (ht:P.underlying t=some (.slice e)) (hi:P.info? e=some i)
  (g q wY sCap:Nat) (cur:Array Value) (hg:w.heap[g]?=some (.cells cur lj (0,0)))
  (a:Addr) (m c:Nat) (news:List Value) (hl:news.length=m*i.size) (ou:∀ j u,news[j]?=some u->w.cell? (a.add j)=some u) (h1:∀ u ∈ news,u.oneCell'=true)
  (iM:wY+m<=sCap) (dD:q+wY*i.size+news.length<=cur.size) :
  (Builtin.append_ #[t,t] ty #[.slice (some ⟨g,q,none⟩) wY sCap,.slice (some a) m c]).run P w =
   .ok (.slice (some ⟨g,q,none⟩) (wY+m) sCap) (w.setRow g (cur.toList.take (q+wY*i.size)++news++cur.toList.drop (q+wY*i.size+news.length)).toArray):=by
 have hf:=run_firstCells_some (P:=P) w i.size m a m c news hl ou
 have jS:=run_storeCells_at P g (q+wY*i.size) lj news 0 cur w hg (by simpa using dD) h1
 simp only [Nat.add_zero] at jS
 simp [Builtin.append_,run_underlying ht,sizeOf,typeInfo,hi,Builtin.lenOf,iM,hf,dV,jS]
theorem vM {g:Gh}{w:World}{sz:Nat}{b b2:Addr}{rows more:List (List AV)}{fm news:List Value}{rest:Array Value}(h1:Src g w sz rows b fm) (h2:Src g w sz more b2 news) (hl:∀ r ∈ rows,r.length=sz) (kI:∀ r ∈ more,r.length=sz) :
  ∀ (i:Nat) (row:List AV),(rows++more)[i]?=some row->row.length=sz/\∀ (j:Nat) (a:AV),row[j]?=some a->∃ x,(fm.toArray++news.toArray++rest)[i*sz+j]?=some x/\aA g w a x:=by
 intro i row hi
 refine⟨?_,fun j a ha=>?_⟩
 ·have:=List.mem_of_getElem? hi
  rcases List.mem_append.1 this with h|h
  ·exact hl _ h
  ·exact kI _ h
 ·have hj:∀ hm:row.length=sz,j < sz:=fun hm=>by rw [<-hm];exact (List.getElem?_eq_some_iff.1 ha).1
  by_cases c:i < rows.length
  ·rw [List.getElem?_append_left c] at hi
   obtain⟨x,hx,hr⟩:=h1.2.2 i row hi j a ha
   refine⟨x,?_,hr⟩
   have aB:=(List.getElem?_eq_some_iff.1 hx).1
   rw [Array.append_assoc,Array.getElem?_append_left (by simpa using aB)]
   simpa using hx
  ·rw [List.getElem?_append_right (by omega)] at hi
   obtain⟨x,hx,hr⟩:=h2.2.2 _ row hi j a ha
   refine⟨x,?_,hr⟩
   have aB:=(List.getElem?_eq_some_iff.1 hx).1
   have e:i*sz=rows.length*sz+(i - rows.length)*sz:=by rw [<-Nat.add_mul];congr 1;omega
   rw [Array.getElem?_append_left (by simp [h1.1];omega),Array.getElem?_append_right (by simp [h1.1];omega)]
   simp only [List.size_toArray,h1.1,List.getElem?_toArray]
   rw [show i*sz+j - rows.length*sz=(i - rows.length)*sz+j by omega]
   exact hx
theorem r8 {A:Nat->Prop}{g:Gh}{w:World}{t t2 ty e e2:TypeId}{z:Value}{sz by_:Nat}(hS:St w0 A g S w) (ht:P.underlying t=some (.slice e)) (dQ:P.underlying t2=some (.slice e2)) (hz:b8 P e=some z) (hs:bZ P e=some sz) (ja:fe P e=some by_) (jN:z.cells.size=sz)
  {rows more:List (List AV)}{B:Option Addr}{sCap:Nat}{b2 q2 c2:Nat}{news:List Value}(hold:(B=none/\rows=[]/\sCap=0)\/∃ b fm,B=some b/\Src g w sz rows b fm) (lF:Src g w sz more ⟨b2,q2,none⟩ news) (hl:∀ r ∈ rows,r.length=sz) (kI:∀ r ∈ more,r.length=sz)
  (hn:more ≠ []) (hg:sCap < rows.length+more.length) (dD:(rows.length+more.length)*by_<=35184372088832) (mK:0 < by_) :
  ∃ v w' g',(Builtin.append_ #[t,t2] ty #[.slice B rows.length sCap,.slice (some ⟨b2,q2,none⟩) more.length c2]).run P w=.ok v w'/\aA g' w' (.ob S.nx sz 0 (rows.length+more.length) none) v/\St w0 A g' (S.new (.arr sz (rows++more) 0 false)) w'/\Ext A g w g' w':=by
 obtain⟨i,hi,aZ⟩:=gz hs
 have nV:i.zero=some z:=by unfold b8 at hz;rw [hi] at hz;simpa using hz
 have vE:i.bytes=by_:=by unfold fe at ja;rw [hi] at ja;simpa using ja
 have dz:0 < more.length:=List.length_pos_iff.2 hn
 have hmul:rows.length+more.length<=35184372088832:=Nat.le_trans (Nat.le_mul_of_pos_right _ mK) dD
 have tY:=grownCap_ge w (rows.length+more.length) sCap e
 obtain⟨fm,py,bw⟩:∃ fm:List Value,(∀ rest,∀ (i:Nat) (row:List AV),(rows++more)[i]?=some row->row.length=sz/\∀ (j:Nat) (a:AV),row[j]?=some a->∃ x,(fm.toArray++news.toArray++rest)[i*sz+j]?=some x/\aA g w a x) /\
   (fm.length=rows.length*sz/\(Builtin.append_ #[t,t] ty #[.slice B rows.length sCap,.slice (some ⟨b2,q2,none⟩) more.length c2]).run P w =
   .ok (.slice (some ⟨w.heap.size,0,none⟩) (rows.length+more.length) (grownCap w (rows.length+more.length) sCap e)) (w.drew.alloc (.cells (fm.toArray++news.toArray++Builtin.zeroCells z.cells (grownCap w (rows.length+more.length) sCap e - (rows.length+more.length))) e))):=by
  rcases hold with ⟨rfl,rfl,rfl⟩|⟨b,fm,rfl,ho⟩
  ·refine⟨[],fun rest=>vM (b:=⟨0,0,none⟩) ⟨by simp,fun j u hu=>by simp at hu,fun i row hi=>by simp at hi⟩ lF hl kI,by simp,?_⟩
   have:=run_append_nil (P:=P) w t ty e i z ht hi nV ⟨b2,q2,none⟩ more.length c2 news (by rw [lF.1,aZ]) lF.2.1 dz (by omega) (by rw [vE];simp at dD;omega)
   simpa using this
  ·refine⟨fm,fun rest=>vM ho lF hl kI,ho.1,?_⟩
   have S0:=Go.Room.nextslicecap_le' hg
   exact run_append_grow (P:=P) w t ty e i z ht hi nV b rows.length sCap fm (by rw [ho.1,aZ]) ho.2.1 ⟨b2,q2,none⟩ more.length c2 news (by rw [lF.1,aZ]) lF.2.1 hg (by omega)
    (Nat.le_trans (Nat.mul_le_mul_right _ S0) (by rw [vE,Nat.mul_assoc];omega))
 obtain⟨hlen,bw⟩:=bw
 obtain⟨Ov,JV⟩:=hS.drew
 have oW:∀ q,¬ g.fz w.heap.size q:=fun q hf=>absurd (hS.bM _ _ hf) (Nat.lt_irrefl _)
 obtain⟨hE,b_⟩:=JV.new (.cells (fm.toArray++news.toArray++Builtin.zeroCells z.cells (grownCap w (rows.length+more.length) sCap e - (rows.length+more.length))) e) (.arr sz (rows++more) 0 false) (grownCap w (rows.length+more.length) sCap e) (fun J=>by simp) (fun hL=>by
  refine⟨_,e,ct,?_,by simpa using tY,fun h=>by simp at h,fun i row hr=>⟨(py #[] i row hr).1,fun j a ha=>?_⟩,Nat.zero_le _,fun q=>⟨fun h=>absurd h (oW q),fun h=>by simp at h⟩⟩
  ·simp only [Array.size_append,List.size_toArray,hlen,lF.1,size_zeroCells,jN]
   rw [<-Nat.add_mul,<-Nat.add_mul]
   congr 1
   omega
  ·obtain⟨x,hx,cK⟩:=(py _ i row hr).2 j a ha
   exact⟨x,hx,(cK.later Ov.toLater).later hL⟩)
 refine⟨_,_,_,(mu ht dQ).trans bw,?_,b_,Ov.trans hE⟩
 have:=aA.ob (g:=g.new S.nx w.drew.heap.size (grownCap w (rows.length+more.length) sCap e)) (w:=w.drew.alloc (.cells (fm.toArray++news.toArray++Builtin.zeroCells z.cells (grownCap w (rows.length+more.length) sCap e - (rows.length+more.length))) e))
  (k:=S.nx) (sz:=sz) (off:=0) (len:=rows.length+more.length) (c:=grownCap w (rows.length+more.length) sCap e) (cx:=none) (.inr rfl) (fun m h=>by cases h) (by rw [Nat.zero_add];exact Nat.le_of_eq (ah _ _ _).symm) (fun _=>by rw [Nat.zero_add];exact (ah _ _ _).symm) tY
 rw [show (g.new S.nx w.drew.heap.size (grownCap w (rows.length+more.length) sCap e)).ob S.nx=w.heap.size from ah _ _ _,Nat.zero_mul] at this
 exact this
theorem St.rename {A:Nat->Prop}{g:Gh}{w:World}{k:Nat}{ob:Ob}(hS:St w0 A g S w) (hk:S.get k=some ob) (ha:g.al k) (qp:∀ J,ob ≠ .fo J):Ext A g w (g.new S.nx (g.ob k) (g.cp k)) w/\St w0 A (g.new S.nx (g.ob k) (g.cp k)) ((S.set k none).new ob) w:=by
 have aP:∀ j,g.al j->j ≠ S.nx:=fun j hj e=>absurd (hS.al j hj) (by omega)
 have jP:∀ j,g.al j->(g.new S.nx (g.ob k) (g.cp k)).ob j=g.ob j:=fun j hj=>aq _ _ (aP j hj)
 have AU:∀ j,g.al j->(g.new S.nx (g.ob k) (g.cp k)).cp j=g.cp j:=fun j hj=>aq _ _ (aP j hj)
 have e1:(g.new S.nx (g.ob k) (g.cp k)).ob S.nx=g.ob k:=ah _ _ _
 have e2:(g.new S.nx (g.ob k) (g.cp k)).cp S.nx=g.cp k:=ah _ _ _
 have hL:Later g w (g.new S.nx (g.ob k) (g.cp k)) w:=⟨fun j hj=>.inl hj,jP,AU,fun _ _ h=>h,fun _ _ _=>rfl⟩
 have hE:Ext A g w (g.new S.nx (g.ob k) (g.cp k)) w:={ hL with size:=Nat.le_refl _,cD:=fun _ _ _=>rfl,eW:=fun _ _ h=>.inl h }
 have key:∀ j p,((S.set k none).new ob).get j=some p->(j=S.nx/\p=ob)\/(j ≠ S.nx/\j ≠ k/\S.get j=some p):=by
  intro j p hj
  have hj:aX (aX S.get k none) S.nx (some ob) j=some p:=hj
  by_cases c:j=S.nx
  ·subst c
   rw [ah] at hj
   exact .inl ⟨rfl,(Option.some.inj hj).symm⟩
  ·rw [aq _ _ c] at hj
   by_cases d:j=k
   ·subst d
    rw [ah] at hj
    cases hj
   ·rw [aq _ _ d] at hj
    exact .inr ⟨c,d,hj⟩
 obtain⟨k2,k3,k4⟩:=hS.bj k ob hk ha
 refine⟨hE,hS.next hE rfl rfl rfl (fun j hj=>hj.elim (fun h=>Nat.lt_succ_of_lt (hS.al j h)) fun e=>by rw [e];exact Nat.lt_succ_self _) (fun j p hj aj=>?_) (fun i j p q hi hj ai aj e=>?_) hS.bM rfl (fun j J hj aj=>(key j _ hj).elim (fun e=>absurd e.2.symm (qp J)) fun e=>⟨e.2.2,aj.resolve_right e.1⟩) (fun j p hj aj=>.inr ((key j p hj).elim (fun e=>⟨k,ob,ha,hk,by rw [e.1];exact e1,.inr qp⟩) fun e=>⟨j,p,aj.resolve_right e.1,e.2.2,jP j (aj.resolve_right e.1),.inl rfl⟩))⟩
 ·rcases key j p hj with ⟨rfl,rfl⟩|⟨c,d,eJ⟩
  ·rw [e1,e2]
   exact⟨k2,k3,k4.later hL rfl (fun _ h=>h) fun J hJ=>absurd hJ (qp J)⟩
  ·have yh:g.al j:=aj.resolve_right c
   obtain⟨h2,h3,h4⟩:=hS.bj j p eJ yh
   rw [jP j yh,AU j yh]
   exact⟨h2,h3,h4.later hL rfl (fun _ h=>h) fun _ _=>⟨rfl,Nat.le_refl _,fun _ _=>rfl,fun _ _ _ h=>h⟩⟩
 ·rcases key i p hi with ⟨rfl,rfl⟩|⟨c,d,eL⟩<;>rcases key j q hj with ⟨rfl,rfl⟩|⟨c',d',eJ⟩
  ·rfl
  ·have yh:g.al j:=aj.resolve_right c'
   rw [e1,jP j yh] at e
   exact absurd (hS.inj k j _ q hk eJ ha yh e) (Ne.symm d')
  ·have Kj:g.al i:=ai.resolve_right c
   rw [e1,jP i Kj] at e
   exact absurd (hS.inj i k p _ eL hk Kj ha e) d
  ·have Kj:g.al i:=ai.resolve_right c
   have yh:g.al j:=aj.resolve_right c'
   rw [jP i Kj,jP j yh] at e
   exact hS.inj i j p q eL eJ Kj yh e
end
section
variable {P:Program}{w0:World}{n:Nat}{o:Oper}{α:AA}{S S':aa}{r:AV}
theorem wL {g:Gh}{w:World}{sz b q:Nat}{more:List (List AV)}{news:List Value}(h:Src g w sz more ⟨b,q,none⟩ news) (hc:∀ row ∈ more,row.length=sz/\row.all bl=true):∀ u ∈ news,u.oneCell'=true:=by
 intro u hu
 obtain⟨p,hp⟩:=List.getElem?_of_mem hu
 have aB:=(List.getElem?_eq_some_iff.1 hp).1
 rw [h.1] at aB
 have aZ:0 < sz:=by
  rcases Nat.eq_zero_or_pos sz with e|e
  ·rw [e] at aB;simp at aB
  ·exact e
 have hi:p / sz < more.length:=Nat.div_lt_of_lt_mul (by rw [Nat.mul_comm];exact aB)
 have hj:p % sz < sz:=Nat.mod_lt _ aZ
 have eU:=List.getElem?_eq_getElem hi
 obtain⟨hl,jQ⟩:=hc _ (List.getElem_mem hi)
 have eJ:p % sz < (more[p / sz]).length:=by omega
 have ha:=List.getElem?_eq_getElem eJ
 obtain⟨x,hx,hr⟩:=h.2.2 _ _ eU _ _ ha
 rw [Nat.div_add_mod' p sz,hp] at hx
 obtain rfl:=Option.some.inj hx
 exact ot (List.all_eq_true.1 jQ _ (List.getElem_mem eJ)) hr
theorem CY {A:Nat->Prop}{g:Gh}{w:World}{t t2 ty e e2:TypeId}{sz k len c b2 q2 c2:Nat}{rows more:List (List AV)}{fz:Nat}{ex:Bool}{news:List Value}(hS:St w0 A g S w) (ht:P.underlying t=some (.slice e)) (dQ:P.underlying t2=some (.slice e2)) (hs:bZ P e=some sz)
  (hk:S.get k=some (.arr sz rows fz ex)) (ha:g.al k) (mI:c=g.cp k) (Jg:len<=c) (nY:fz<=len) (hlen:len<=rows.length) (lF:Src g w sz more ⟨b2,q2,none⟩ news) (kI:∀ row ∈ more,row.length=sz/\row.all bl=true) (iM:len+more.length<=c) :
  ∃ v w' g',(Builtin.append_ #[t,t2] ty #[.slice (some ⟨g.ob k,0,none⟩) len c,.slice (some ⟨b2,q2,none⟩) more.length c2]).run P w=.ok v w'/\aA g' w' (.ob S.nx sz 0 (len+more.length) none) v/\St w0 A g' ((S.set k none).new (.arr sz (rows.take len++more) fz false)) w'/\Ext A g w g' w':=by
 obtain⟨i,hi,aZ⟩:=gz hs
 obtain⟨k2,k3,cs,lj,h1,h2,h3,h4,h5,h6,h7⟩:=hS.bj k _ hk ha
 have hm:len*sz+more.length*sz<=g.cp k*sz:=by rw [<-Nat.add_mul];exact Nat.mul_le_mul_right sz (by omega)
 have dD:0+len*i.size+news.length<=cs.size:=by rw [lF.1,h2,aZ];omega
 have bw:=oX (P:=P) w t ty e lj i ht hi (g.ob k) 0 len c cs h1 ⟨b2,q2,none⟩ more.length c2 news (by rw [lF.1,aZ]) lF.2.1 (wL lF kI) iM dD
 simp only [Nat.zero_add,aZ] at bw dD
 obtain⟨cs',mV⟩:∃ cs',cs'=(cs.toList.take (len*sz)++news++cs.toList.drop (len*sz+news.length)).toArray:=⟨_,rfl⟩
 rw [<-mV] at bw
 have gA:∀ q,cs'[q]?=if q < len*sz then cs[q]? else if q < len*sz+news.length then news[q - len*sz]? else cs[q]?:=by
  intro q
  rw [mV,List.getElem?_toArray,oB _ _ _ (by simpa using dD)]
  simp only [Array.getElem?_toList]
 have uT:cs'.size=cs.size:=by
  rw [mV]
  simp
  omega
 have Sb:len*sz<=rows.length*sz:=Nat.mul_le_mul_right sz hlen
 obtain⟨hE,b_⟩:=hS.row hk ha h1 (cs':=cs') (ob:=.arr sz (rows.take len++more) fz false) (fun J=>⟨by simp,by simp⟩) (fun q hq=>by
  rw [gA]
  rw [if_pos (Nat.lt_of_lt_of_le ((h7 q).1 hq) (Nat.mul_le_mul_right sz nY))]) (fun hL=>by
  refine⟨cs',lj,setRow_heap w _ cs cs' lj (0,0) h1,uT.trans h2,by simp;omega,fun h=>by simp at h,fun i row hr=>?_,by simp;omega,h7⟩
  ·by_cases c1:i < len
   ·rw [List.getElem?_append_left (by simp;omega),List.getElem?_take,if_pos c1] at hr
    refine⟨(h5 i row hr).1,fun j a bL=>?_⟩
    obtain⟨x,hx,cK⟩:=(h5 i row hr).2 j a bL
    have hj:j < sz:=by rw [<-(h5 i row hr).1];exact (List.getElem?_eq_some_iff.1 bL).1
    exact⟨x,by rw [gA,if_pos (iT c1 hj)];exact hx,cK.later hL⟩
   ·rw [List.getElem?_append_right (by simp;omega)] at hr
    have e1:min len rows.length=len:=by omega
    simp only [List.length_take,e1] at hr
    have eX:=(kI row (List.mem_of_getElem? hr)).1
    refine⟨eX,fun j a bL=>?_⟩
    obtain⟨x,hx,cK⟩:=lF.2.2 _ row hr j a bL
    have aB:=(List.getElem?_eq_some_iff.1 hx).1
    have e:i*sz=len*sz+(i - len)*sz:=by rw [<-Nat.add_mul];congr 1;omega
    exact⟨x,by rw [gA,if_neg (by omega),if_pos (by omega),show i*sz+j - len*sz=(i - len)*sz+j by omega];exact hx,cK.later hL⟩)
 have eY:(S.set k (some (.arr sz (rows.take len++more) fz false))).get k=some (.arr sz (rows.take len++more) fz false):=ah _ _ _
 obtain⟨yd,TK⟩:=b_.rename eY ha (fun J=>by simp)
 have e:((S.set k (some (.arr sz (rows.take len++more) fz false))).set k none).new (.arr sz (rows.take len++more) fz false)=(S.set k none).new (.arr sz (rows.take len++more) fz false):=by
  have:aX (aX S.get k (some (.arr sz (rows.take len++more) fz false))) k none=aX S.get k none:=by
   funext j
   by_cases c:j=k
   ·subst c;rw [ah,ah]
   ·rw [aq _ _ c,aq _ _ c,aq _ _ c]
  simp only [aa.set,aa.new,this]
 rw [e] at TK
 refine⟨_,_,_,(mu ht dQ).trans bw,?_,TK,hE.trans yd⟩
 have:=aA.ob (g:=g.new S.nx (g.ob k) (g.cp k)) (w:=w.setRow (g.ob k) cs') (k:=S.nx) (sz:=sz) (off:=0) (len:=len+more.length) (c:=c) (cx:=none) (.inr rfl) (fun m h=>by cases h)
  (by rw [Nat.zero_add,mI];exact Nat.le_of_eq (ah _ _ _).symm) (fun _=>by rw [Nat.zero_add,mI];exact (ah _ _ _).symm) iM
 rw [show (g.new S.nx (g.ob k) (g.cp k)).ob S.nx=g.ob k from ah _ _ _,Nat.zero_mul] at this
 exact this
theorem qj {t t2 ty e e2:TypeId}{w:World}{B C:Option Addr}{m c c2:Nat}{sz:Nat}(ht:P.underlying t=some (.slice e)) (dQ:P.underlying t2=some (.slice e2)) (hs:bZ P e=some sz) (hle:m<=c) :
  (Builtin.append_ #[t,t2] ty #[.slice B m c,.slice C 0 c2]).run P w=.ok (.slice B m c) w:=by
 rw [mu ht dQ]
 have hf:(Builtin.firstCells sz 0 (.slice C 0 c2)).run P w=.ok #[] w:=by
  cases C with
  |none=>simp [Builtin.firstCells]
  |some b=>simpa using run_firstCells_some (P:=P) (w:=w) sz 0 b 0 c2 [] (by simp) (fun j v h=>by simp at h)
 cases B<;>simp [Builtin.append_,run_underlying ht,bF hs,Builtin.lenOf,hle,hf,storeCells]
theorem mz {g:Gh}{w:World}{ex:Bool}{rows:List (List AV)}{v:Value}(h:aA g w (.sl ex rows) v):∃ B c,v=.slice B rows.length c/\rows.length<=c/\(ex=true->c=rows.length):=by
 cases h with
 |nil hc=>exact⟨_,_,rfl,Nat.zero_le _,hc⟩
 |sl hn hc hle hl h hr=>exact⟨_,_,rfl,hle,hc⟩
theorem DA {c:Call}{t t2 e e2:TypeId}{x y:Operand}{a b:AV}{more:List (List AV)}{z:Value}{sz:Nat}{K:AV->aa->Prop}(ho:o.op=.call c) (hc:c.callee=.builtin .append) (eO:c.argTypes=#[t,t2]) (aT:c.args=#[x,y])
  (hx:α.ev x=a) (hy:α.ev y=b) (ht:P.underlying t=some (.slice e)) (dQ:P.underlying t2=some (.slice e2)) (hm:rowsOf S b=some more) (hlen:kQ b=some more.length) (hz:b8 P e=some z) (hs:bZ P e=some sz) (jN:z.cells.size=sz) (h:g8 P e K S more a) :
  ∃ r S',aI P w0 n o α S r S'/\K r S':=by
 have bw:∀ (q:Act) (w:World),(execOp q.eval o).run P w=((Builtin.append_ #[t,t2] o.type #[q.eval x,q.eval y]).run P w).andThen fun v w'=>.ok (.value v) w':=by
  intro q w
  simp [execOp,ho,resolve,hc,eO,aT,invoke,builtin]
 have same:∀ {r:AV}{m cc:Nat},more=[]->α.ev x=r->(∀ (g:Gh) (w:World) (v:Value),aA g w r v->∃ B m cc,v=.slice B m cc/\m<=cc)->aI P w0 n o α S r S:=by
  intro r m cc S3 DG hr
  refine aI.quiet fun A g q w hS hA=>?_
  have h1:=hA.ev x
  have h2:=hA.ev y
  rw [DG] at h1
  rw [hy] at h2
  subst S3
  obtain⟨B,c1,e1⟩:=mq (S:=S) hlen hm h2
  obtain⟨B',m',ZE,e2,hle⟩:=hr g w _ h1
  refine⟨q.eval x,?_,h1⟩
  rw [bw,e1,e2,qj ht dQ hs hle]
  rfl
 unfold g8 at h
 split at h
 ·rename_i rows
  split at h
  ·exact⟨_,_,same (m:=0) (cc:=0) rfl hx (fun g w v hr=>let ⟨B,c,e,hle,_⟩:=mz hr;⟨B,_,c,e,hle⟩),h⟩
  ·rename_i m1 ms
   split at h
   ·rename_i sz' by_ eg ja
    split at h
    ·rename_i hb
     obtain⟨hl,kI,dD,hK⟩:=h
     have e0:sz'=sz:=by rw [hs] at eg;exact (Option.some.inj eg).symm
     subst e0
     refine⟨_,_,?_,hK⟩
     intro A g q w hS hA
     have h1:=hA.ev x
     have h2:=hA.ev y
     rw [hx] at h1
     rw [hy] at h2
     obtain⟨b2,q2,c2,news,e2,Fj,iU⟩:=kC hS hm h2 (by simp) kI hlen
     obtain⟨B,cc,e1,aep,kM⟩:=mz h1
     have Z3:=kM rfl
     have hold:(B=none/\rows=[]/\cc=0)\/∃ b fm,B=some b/\Src g w sz' rows b fm:=by
      by_cases pQ:rows=[]
      ·subst pQ
       cases B with
       |none=>exact .inl ⟨rfl,rfl,by simpa using Z3⟩
       |some bb=>exact .inr ⟨bb,[],rfl,by simp,fun j u hu=>by simp at hu,fun i row hi=>by simp at hi⟩
      ·obtain⟨b,q,c',fm,e3,_,Jl⟩:=kC (a:=.sl true rows) hS rfl h1 pQ hl rfl
       rw [e1] at e3
       injection e3 with e4
       exact .inr ⟨_,fm,e4,Jl⟩
     obtain⟨v,w',g',hr,h3,h4,h5⟩:=r8 (ty:=o.type) (c2:=c2) hS ht dQ hz hs ja jN hold iU hl kI (by simp) (by rw [Z3];simp) dD (Nat.lt_of_lt_of_le Nat.zero_lt_one (Nat.le_of_ble_eq_true hb))
     refine⟨v,w',g',.inl ?_,h3,h4,h5⟩
     rw [bw,e1,e2,hr]
     rfl
    ·exact h.elim
   ·exact h.elim
 ·rename_i k szk len
  unfold aL at h
  split at h
  ·rename_i TL MZ
   obtain⟨sz',rows,fz,ex⟩:=TL
   have hk:=xv MZ
   dsimp only at h
   split at h
   ·exact⟨_,_,same (m:=0) (cc:=0) rfl hx (fun g w v hr=>let ⟨c,e,_,_,_,_,hle⟩:=fj hr;⟨_,_,c,e,hle⟩),h⟩
   ·rename_i m1 ms
    split at h
    ·rename_i ew by_ eg ja
     split at h
     ·rename_i hb
      simp only [Bool.and_eq_true] at hb
      obtain⟨⟨fA,dF⟩,oQ⟩:=hb
      have fA:=Nat.eq_of_beq_eq_true fA
      have dF:=Nat.eq_of_beq_eq_true dF
      have e0:ew=sz:=by rw [hs] at eg;exact (Option.some.inj eg).symm
      subst fA dF e0
      obtain⟨nY,Z4,kI,dD,hK⟩:=h
      refine⟨_,_,?_,hK⟩
      intro A g q w hS hA
      have h1:=hA.ev x
      have h2:=hA.ev y
      rw [hx] at h1
      rw [hy] at h2
      obtain⟨b2,q2,c2,news,e2,Fj,iU⟩:=kC hS hm h2 (by simp) (fun r hr=>(kI r hr).1) hlen
      obtain⟨cc,e1,aH,_,mI,kM,Jg⟩:=fj h1
      have kM:=kM rfl
      simp only [Nat.zero_add] at kM mI
      simp only [Nat.zero_mul] at e1
      by_cases iM:len+(m1::ms).length<=cc
      ·obtain⟨v,w',g',hr,h3,h4,h5⟩:=CY (ty:=o.type) (c2:=c2) hS ht dQ hs hk aH kM Jg nY Z4 iU kI iM
       refine⟨v,w',g',.inl ?_,h3,h4,h5⟩
       rw [bw,e1,e2,hr]
       rfl
      ·obtain⟨k2,k3,cs,lj,p1,p2,p3,p4,p5,p6,p7⟩:=hS.bj k _ hk aH
       have tC:(rows.take len).length=len:=by simp;omega
       have hl:∀ r ∈ rows.take len,r.length=ew:=by
        intro r hr
        obtain⟨i,hi⟩:=List.getElem?_of_mem (List.mem_of_mem_take hr)
        exact (p5 i r hi).1
       have hold:∃ fm,Src g w ew (rows.take len) ⟨g.ob k,0,none⟩ fm:=by
        refine mC hl (fun i j row a hi hj=>?_)
        rw [List.getElem?_take] at hi
        split at hi
        ·obtain⟨u,hu,TM⟩:=(p5 i row hi).2 j a hj
         exact⟨u,by rw [cell_of_row _ _ _ cs lj (0,0) p1,Nat.zero_add];exact hu,TM⟩
        ·cases hi
       obtain⟨fm,hold⟩:=hold
       have er:St w0 A g (S.set k none) w:=hS.forget (Nat.le_refl _) (fun j p hj ha=>by
        have hj:aX S.get k none j=some p:=hj
        by_cases c:j=k
        ·subst c;rw [ah] at hj;cases hj
        ·rwa [aq _ _ c] at hj)
       have CZ:=r8 (ty:=o.type) (c2:=c2) (sCap:=cc) er ht dQ hz hs ja jN (rows:=rows.take len) (more:=m1::ms) (B:=some ⟨g.ob k,0,none⟩) (news:=news) (.inr ⟨_,fm,rfl,hold⟩) iU hl (fun r hr=>(kI r hr).1) (by simp) (by rw [tC];omega) (by rw [tC];exact dD)
        (Nat.lt_of_lt_of_le Nat.zero_lt_one (Nat.le_of_ble_eq_true oQ))
       rw [tC] at CZ
       obtain⟨v,w',g',hr,h3,h4,h5⟩:=CZ
       have p_:g'.al S.nx:=by
        obtain⟨_,_,aH,_⟩:=fj h3
        exact aH
       obtain⟨Z5,hS6⟩:=h4.freeze (k:=S.nx) (ah _ _ _) p_ (m:=fz) (Nat.zero_le _) (by simp;omega)
       refine⟨v,w',_,.inl ?_,h3.later Z5.toLater,?_,h5.trans Z5⟩
       ·rw [bw,e1,e2,hr]
        rfl
       ·have e:((((S.set k none).new (.arr ew (rows.take len++m1::ms) 0 false)).set S.nx (some (.arr ew (rows.take len++m1::ms) fz false))))=(S.set k none).new (.arr ew (rows.take len++m1::ms) fz false):=by
         have:∀ (f:Nat->Option Ob) (a b:Option Ob),aX (aX f S.nx a) S.nx b=aX f S.nx b:=by
          intro f a b
          funext j
          by_cases c:j=S.nx
          ·subst c;rw [ah,ah]
          ·rw [aq _ _ c,aq _ _ c,aq _ _ c]
         simp only [aa.set,aa.new,this]
        rw [<-e]
        exact hS6
     ·exact h.elim
    ·exact h.elim
  ·exact h.elim
 ·rename_i k szk off len cc0
  unfold aL at h
  split at h
  ·rename_i TL MZ
   obtain⟨sz',rows,fz,ex⟩:=TL
   have hk:=xv MZ
   dsimp only at h
   split at h
   ·exact⟨_,_,same (m:=0) (cc:=0) rfl hx (fun g w v hr=>let ⟨c,e,_,_,_,_,hle⟩:=fj hr;⟨_,_,c,e,hle⟩),h⟩
   ·rename_i m1 ms
    split at h
    ·rename_i ew by_ eg ja
     split at h
     ·rename_i hb
      simp only [Bool.and_eq_true] at hb
      obtain⟨⟨fA,dF⟩,oQ⟩:=hb
      have fA:=Nat.eq_of_beq_eq_true fA
      have dF:=Nat.eq_of_beq_eq_true dF
      have e0:ew=sz:=by rw [hs] at eg;exact (Option.some.inj eg).symm
      subst fA dF e0
      obtain⟨nZ,Z4,kI,dD,hK⟩:=h
      refine⟨_,_,?_,hK⟩
      intro A g q w hS hA
      have h1:=hA.ev x
      have h2:=hA.ev y
      rw [hx] at h1
      rw [hy] at h2
      obtain⟨b2,q2,c2,news,e2,Fj,iU⟩:=kC hS hm h2 (by simp) kI hlen
      obtain⟨cc,e1,aH,vG,mI,kM,Jg⟩:=fj h1
      have vG:=vG _ rfl
      obtain⟨k2,k3,cs,lj,p1,p2,p3,p4,p5,p6,p7⟩:=hS.bj k _ hk aH
      have tC:((rows.drop off).take len).length=len:=by simp;omega
      have hl:∀ r ∈ (rows.drop off).take len,r.length=ew:=by
       intro r hr
       obtain⟨i,hi⟩:=List.getElem?_of_mem (List.mem_of_mem_drop (List.mem_of_mem_take hr))
       exact (p5 i r hi).1
      have hold:∃ fm,Src g w ew ((rows.drop off).take len) ⟨g.ob k,off*ew,none⟩ fm:=by
       refine mC hl (fun i j row a hi hj=>?_)
       obtain⟨u,hu,TM⟩:=(p5 _ row (nQ hi).2).2 j a hj
       exact⟨u,by rw [cell_of_row _ _ _ cs lj (0,0) p1,<-hu,Nat.add_mul,Nat.add_assoc],TM⟩
      obtain⟨fm,hold⟩:=hold
      have CZ:=r8 (ty:=o.type) (c2:=c2) (sCap:=cc) hS ht dQ hz hs ja jN (rows:=(rows.drop off).take len) (more:=m1::ms) (B:=some ⟨g.ob k,off*ew,none⟩) (news:=news) (.inr ⟨_,fm,rfl,hold⟩) iU hl kI (by simp) (by rw [tC];simp;omega) (by rw [tC];exact dD)
       (Nat.lt_of_lt_of_le Nat.zero_lt_one (Nat.le_of_ble_eq_true oQ))
      rw [tC] at CZ
      obtain⟨v,w',g',hr,h3,h4,h5⟩:=CZ
      refine⟨v,w',g',.inl ?_,h3,h4,h5⟩
      rw [bw,e1,e2,hr]
      rfl
     ·exact h.elim
    ·exact h.elim
  ·exact h.elim
 ·exact h.elim
end
end Go.Proofs.YtgjfgekaclobaaaGreat
