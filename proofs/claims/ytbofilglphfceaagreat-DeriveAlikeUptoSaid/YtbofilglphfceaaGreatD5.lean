import Derived.Test.YtbofilglphfceaaGreatD4
namespace Go.Proofs.YtbofilglphfceaaGreat
set_option linter.unusedVariables false
set_option linter.unusedSimpArgs false
open Go.RowKit
section
variable {P:Program}{w0:World}{n:Nat}{o:Oper}{α:AA}{S S':U}{r:AV}
theorem wc {rows:List (List AV)}{sz:Nat}(h:∀ r ∈ rows,r.length=sz):rows.flatten.length=rows.length*sz:=by
 induction rows with
 |nil=>simp
 |cons r rs ih =>
  rw [List.flatten_cons,List.length_append,ih (fun x hx=>h x (by simp [hx])),h r (by simp),List.length_cons,Nat.add_mul,Nat.one_mul,Nat.add_comm]
theorem we {sz j:Nat}:∀ {rows:List (List AV)}{i:Nat}{row:List AV},(∀ r ∈ rows,r.length=sz)->rows[i]?=some row->j < sz->rows.flatten[i*sz+j]?=row[j]?
 |[],i,row,_,hi,_=>by simp at hi
 |r::rs,0,row,h,hi,hj=>by
  simp at hi
  subst hi
  rw [List.flatten_cons,List.getElem?_append_left (by rw [h r (by simp)];omega)]
  simp
 |r::rs,i+1,row,h,hi,hj=>by
  simp at hi
  have hr:=h r (by simp)
  rw [List.flatten_cons,List.getElem?_append_right (by rw [hr,Nat.add_mul];omega),hr,show (i+1)*sz+j - sz=i*sz+j by rw [Nat.add_mul];omega]
  exact we (fun x hx=>h x (by simp [hx])) hi hj
theorem wg {sz:Nat}:∀ {rows:List (List AV)}{q:Nat}{a:AV},(∀ r ∈ rows,r.length=sz)->rows.flatten[q]?=some a->∃ i j row,rows[i]?=some row/\row[j]?=some a/\q=i*sz+j
 |[],q,a,_,hq=>by simp at hq
 |r::rs,q,a,h,hq=>by
  have hr:=h r (by simp)
  by_cases c:q < sz
  ·rw [List.flatten_cons,List.getElem?_append_left (by omega)] at hq
   exact⟨0,q,r,rfl,hq,by omega⟩
  ·rw [List.flatten_cons,List.getElem?_append_right (by omega),hr] at hq
   obtain⟨i,j,row,h1,h2,h3⟩:=wg (fun x hx=>h x (by simp [hx])) hq
   exact⟨i+1,j,row,h1,h2,by rw [Nat.add_mul];omega⟩
def Src (g:Gh) (w:World) (sz:Nat) (rows:List (List AV)) (a:Addr) (news:List Value):Prop :=
 news.length=rows.length*sz/\(∀ j u,news[j]?=some u->w.cell? (a.add j)=some u)/\∀ (i:Nat) (row:List AV),rows[i]?=some row->∀ (j:Nat) (a:AV),row[j]?=some a->∃ x,news[i*sz+j]?=some x/\ao g w a x
theorem jv {g:Gh}{w:World}{sz b q:Nat}{rows:List (List AV)}(hl:∀ r ∈ rows,r.length=sz) (h:∀ (i j:Nat) (row:List AV) (a:AV),rows[i]?=some row->row[j]?=some a->∃ x,w.cell? ⟨b,q+(i*sz+j),none⟩=some x/\ao g w a x) :
  ∃ news,Src g w sz rows ⟨b,q,none⟩ news:=by
 obtain⟨cs,h1,h2,h3⟩:=Cells.list (g:=g) (w:=w) (b:=b) (row:=rows.flatten) (o:=q) (fun p a ha=>by
  obtain⟨i,j,row,hi,hj,e⟩:=wg hl ha
  rw [e]
  exact h i j row a hi hj)
 refine⟨cs,h1.trans (wc hl),fun j u hu=>by rw [dB];exact h2 j u hu,fun i row hi j a ha=>?_⟩
 have hj:j < sz:=by rw [<-hl row (List.mem_of_getElem? hi)];exact (List.getElem?_eq_some_iff.1 ha).1
 have hf:=we hl hi hj
 have au:i*sz+j < cs.length:=by rw [h1,wc hl];exact fD (List.getElem?_eq_some_iff.1 hi).1 hj
 exact⟨cs[i*sz+j],List.getElem?_eq_getElem au,h3 _ a _ (hf.trans ha) (List.getElem?_eq_getElem au)⟩
theorem dx {g:Gh}{w:World}{k sz off len:Nat}{cx:Option Nat}{v:Value}(h:ao g w (.ob k sz off len cx) v):∃ c,v=.slice (some ⟨g.ob k,off*sz,none⟩) len c/\g.al k/\(∀ m,cx=some m->c=m)/\off+c<=g.cp k/\(cx=none->off+c=g.cp k)/\len<=c:=by
 cases h with
 |ob hk hc hp hx hle=>exact⟨_,rfl,hk,hc,hp,hx,hle⟩
theorem kF {β:Type}{rows:List β}{off len i:Nat}{row:β}(h:((rows.drop off).take len)[i]?=some row):i < len/\rows[off+i]?=some row:=by
 rw [List.getElem?_take] at h
 split at h
 ·rename_i hi
  rw [List.getElem?_drop] at h
  exact⟨hi,h⟩
 ·cases h
theorem fR {A:Nat->Prop}{g:Gh}{w:World}{a:AV}{v:Value}{rows:List (List AV)}{sz:Nat}(hS:St w0 A g S w) (h:rowsOf S a=some rows) (hr:ao g w a v) (hn:rows ≠ []) (hl:∀ r ∈ rows,r.length=sz) (hlen:ig a=some rows.length) :
  ∃ b q c news,v=.slice (some ⟨b,q,none⟩) rows.length c/\rows.length<=c/\Src g w sz rows ⟨b,q,none⟩ news:=by
 unfold rowsOf at h
 split at h
 ·rename_i ex bF
  obtain rfl:=Option.some.inj h
  cases hr with
  |nil=>exact absurd rfl hn
  |@sl _ _ b q sz' c val Jy hc hle jh h1 h2 =>
   have e:sz'=sz:=by
    obtain⟨r0,rs,rfl⟩:=List.exists_cons_of_ne_nil hn
    have h3:=jh 0 r0 rfl
    have h4:=hl r0 (by simp)
    omega
   subst e
   obtain⟨news,hs⟩:=jv (g:=g) (w:=w) (b:=b) (q:=q) hl (fun i j row a hi hj=>⟨_,(h1 i j row a hi hj).2,h2 i j row a hi hj⟩)
   exact⟨b,q,c,news,rfl,hle,hs⟩
 ·rename_i k sz' off len cx
  split at h
  ·rename_i dK bF fz ex hk
   split at h
   ·rename_i a7
    have a7:=Nat.eq_of_beq_eq_true a7
    subst a7
    obtain rfl:=Option.some.inj h
    obtain⟨c,rfl,aY,hc,hp,hx,hle⟩:=dx hr
    obtain⟨k2,k3,cs,ty,h1,h2,h3,h4,h5,h6,h7⟩:=hS.bE k _ hk aY
    have e:sz'=sz:=by
     obtain⟨r0,rs,e0⟩:=List.exists_cons_of_ne_nil hn
     have h8:((bF.drop off).take len)[0]?=some r0:=by rw [e0];rfl
     have h9:=(h5 _ r0 (kF h8).2).1
     have FL:=hl r0 (by rw [e0];simp)
     omega
    subst e
    obtain⟨news,hs⟩:=jv (g:=g) (w:=w) (b:=g.ob k) (q:=off*sz') hl (fun i j row a hi hj=>by
     obtain⟨x,dR,bI⟩:=(h5 _ row (kF hi).2).2 j a hj
     refine⟨x,?_,bI⟩
     rw [cell_of_row _ _ _ cs ty (0,0) h1,<-dR,Nat.add_mul,Nat.add_assoc])
    have e2:len=((bF.drop off).take len).length:=by simpa [ig] using hlen
    exact⟨_,_,c,news,by rw [<-e2],by rw [<-e2];exact hle,hs⟩
   ·cases h
  ·cases h
 ·cases h
theorem jm {g:Gh}{w:World}{a:AV}{v:Value}(hlen:ig a=some 0) (h:rowsOf S a=some []) (hr:ao g w a v):∃ B c,v=.slice B 0 c:=by
 rcases vZ hlen hr with ⟨B,c,e⟩|⟨s,e,_⟩
 ·exact⟨B,c,e⟩
 ·rw [e] at hr
  cases hr with
  |v=>simp [rowsOf] at h
  |u=>simp [rowsOf] at h
theorem gV {t t2 ty e e2:TypeId}{w:World}{x y:Value}(ht:P.underlying t=some (.slice e)) (cR:P.underlying t2=some (.slice e2)):(Builtin.append_ #[t,t2] ty #[x,y]).run P w=(Builtin.append_ #[t,t] ty #[x,y]).run P w:=by
 simp only [Builtin.append_,List.getElem?_toArray,List.getElem?_cons_zero,List.getElem?_cons_succ,Sem.run_bind,run_underlying ht,run_underlying cR,Result.andThen_ok]
 cases x<;>first|rfl|simp only [Sem.run_bind,run_underlying ht,run_underlying cR,Result.andThen_ok,Sem.run_pure]
theorem iL (w:World) (t ty e gT:TypeId) (i:TypeInfo) (ht:P.underlying t=some (.slice e)) (hi:P.info? e=some i)
  (g q qW sCap:Nat) (cur:Array Value) (hg:w.heap[g]?=some (.cells cur gT (0,0)))
  (a:Addr) (m c:Nat) (news:List Value) (hl:news.length=m*i.size) (kV:∀ j u,news[j]?=some u->w.cell? (a.add j)=some u) (h1:∀ u ∈ news,u.oneCell'=true)
  (iE:qW+m<=sCap) (cy:q+qW*i.size+news.length<=cur.size) :
  (Builtin.append_ #[t,t] ty #[.slice (some ⟨g,q,none⟩) qW sCap,.slice (some a) m c]).run P w =
   .ok (.slice (some ⟨g,q,none⟩) (qW+m) sCap) (w.setRow g (cur.toList.take (q+qW*i.size)++news++cur.toList.drop (q+qW*i.size+news.length)).toArray):=by
 have hf:=run_firstCells_some (P:=P) w i.size m a m c news hl kV
 have j9:=run_storeCells_at P g (q+qW*i.size) gT news 0 cur w hg (by simpa using cy) h1
 simp only [Nat.add_zero] at j9
 simp [Builtin.append_,run_underlying ht,sizeOf,typeInfo,hi,Builtin.lenOf,iE,hf,dB,j9]
theorem qm {g:Gh}{w:World}{sz:Nat}{b b2:Addr}{rows more:List (List AV)}{dP news:List Value}{rest:Array Value}(h1:Src g w sz rows b dP) (h2:Src g w sz more b2 news) (hl:∀ r ∈ rows,r.length=sz) (eD:∀ r ∈ more,r.length=sz) :
  ∀ (i:Nat) (row:List AV),(rows++more)[i]?=some row->row.length=sz/\∀ (j:Nat) (a:AV),row[j]?=some a->∃ x,(dP.toArray++news.toArray++rest)[i*sz+j]?=some x/\ao g w a x:=by
 intro i row hi
 refine⟨?_,fun j a ha=>?_⟩
 ·have:=List.mem_of_getElem? hi
  rcases List.mem_append.1 this with h|h
  ·exact hl _ h
  ·exact eD _ h
 ·have hj:∀ hm:row.length=sz,j < sz:=fun hm=>by rw [<-hm];exact (List.getElem?_eq_some_iff.1 ha).1
  by_cases c:i < rows.length
  ·rw [List.getElem?_append_left c] at hi
   obtain⟨x,hx,hr⟩:=h1.2.2 i row hi j a ha
   refine⟨x,?_,hr⟩
   have au:=(List.getElem?_eq_some_iff.1 hx).1
   rw [Array.append_assoc,Array.getElem?_append_left (by simpa using au)]
   simpa using hx
  ·rw [List.getElem?_append_right (by omega)] at hi
   obtain⟨x,hx,hr⟩:=h2.2.2 _ row hi j a ha
   refine⟨x,?_,hr⟩
   have au:=(List.getElem?_eq_some_iff.1 hx).1
   have e:i*sz=rows.length*sz+(i - rows.length)*sz:=by rw [<-Nat.add_mul];congr 1;omega
   rw [Array.getElem?_append_left (by simp [h1.1];omega),Array.getElem?_append_right (by simp [h1.1];omega)]
   simp only [List.size_toArray,h1.1,List.getElem?_toArray]
   rw [show i*sz+j - rows.length*sz=(i - rows.length)*sz+j by omega]
   exact hx
theorem nO {A:Nat->Prop}{g:Gh}{w:World}{t t2 ty e e2:TypeId}{z:Value}{sz by_:Nat}(hS:St w0 A g S w) (ht:P.underlying t=some (.slice e)) (cR:P.underlying t2=some (.slice e2)) (hz:bY P e=some z) (hs:bV P e=some sz) (eH:dk P e=some by_) (fe:z.cells.size=sz)
  {rows more:List (List AV)}{B:Option Addr}{sCap:Nat}{b2 q2 c2:Nat}{news:List Value}(hold:(B=none/\rows=[]/\sCap=0)\/∃ b dP,B=some b/\Src g w sz rows b dP) (iI:Src g w sz more ⟨b2,q2,none⟩ news) (hl:∀ r ∈ rows,r.length=sz) (eD:∀ r ∈ more,r.length=sz)
  (hn:more ≠ []) (hg:sCap < rows.length+more.length) (cy:(rows.length+more.length)*by_<=35184372088832) (eG:0 < by_) :
  ∃ v w' g',(Builtin.append_ #[t,t2] ty #[.slice B rows.length sCap,.slice (some ⟨b2,q2,none⟩) more.length c2]).run P w=.ok v w'/\ao g' w' (.ob S.nx sz 0 (rows.length+more.length) none) v/\St w0 A g' (S.new (.arr sz (rows++more) 0 false)) w'/\Ext A g w g' w':=by
 obtain⟨i,hi,a7⟩:=dy hs
 have jy:i.zero=some z:=by unfold bY at hz;rw [hi] at hz;simpa using hz
 have pY:i.bytes=by_:=by unfold dk at eH;rw [hi] at eH;simpa using eH
 have GF:0 < more.length:=List.length_pos_iff.2 hn
 have hmul:rows.length+more.length<=35184372088832:=Nat.le_trans (Nat.le_mul_of_pos_right _ eG) cy
 have o4:=grownCap_ge w (rows.length+more.length) sCap e
 obtain⟨dP,l7,bm⟩:∃ dP:List Value,(∀ rest,∀ (i:Nat) (row:List AV),(rows++more)[i]?=some row->row.length=sz/\∀ (j:Nat) (a:AV),row[j]?=some a->∃ x,(dP.toArray++news.toArray++rest)[i*sz+j]?=some x/\ao g w a x) /\
   (dP.length=rows.length*sz/\(Builtin.append_ #[t,t] ty #[.slice B rows.length sCap,.slice (some ⟨b2,q2,none⟩) more.length c2]).run P w =
   .ok (.slice (some ⟨w.heap.size,0,none⟩) (rows.length+more.length) (grownCap w (rows.length+more.length) sCap e)) (w.drew.alloc (.cells (dP.toArray++news.toArray++Builtin.zeroCells z.cells (grownCap w (rows.length+more.length) sCap e - (rows.length+more.length))) e))):=by
  rcases hold with ⟨rfl,rfl,rfl⟩|⟨b,dP,rfl,ho⟩
  ·refine⟨[],fun rest=>qm (b:=⟨0,0,none⟩) ⟨by simp,fun j u hu=>by simp at hu,fun i row hi=>by simp at hi⟩ iI hl eD,by simp,?_⟩
   have:=run_append_nil (P:=P) w t ty e i z ht hi jy ⟨b2,q2,none⟩ more.length c2 news (by rw [iI.1,a7]) iI.2.1 GF (by omega) (by rw [pY];simp at cy;omega)
   simpa using this
  ·refine⟨dP,fun rest=>qm ho iI hl eD,ho.1,?_⟩
   have JK:=Go.Room.nextslicecap_le' hg
   exact run_append_grow (P:=P) w t ty e i z ht hi jy b rows.length sCap dP (by rw [ho.1,a7]) ho.2.1 ⟨b2,q2,none⟩ more.length c2 news (by rw [iI.1,a7]) iI.2.1 hg (by omega)
    (Nat.le_trans (Nat.mul_le_mul_right _ JK) (by rw [pY,Nat.mul_assoc];omega))
 obtain⟨hlen,bm⟩:=bm
 obtain⟨GG,JL⟩:=hS.drew
 have jn:∀ q,¬ g.fz w.heap.size q:=fun q hf=>absurd (hS.bM _ _ hf) (Nat.lt_irrefl _)
 obtain⟨hE,cz⟩:=JL.new (.cells (dP.toArray++news.toArray++Builtin.zeroCells z.cells (grownCap w (rows.length+more.length) sCap e - (rows.length+more.length))) e) (.arr sz (rows++more) 0 false) (grownCap w (rows.length+more.length) sCap e) (fun J=>by simp) (fun hL=>by
  refine⟨_,e,bZ,?_,by simpa using o4,fun h=>by simp at h,fun i row hr=>⟨(l7 #[] i row hr).1,fun j a ha=>?_⟩,Nat.zero_le _,fun q=>⟨fun h=>absurd h (jn q),fun h=>by simp at h⟩⟩
  ·simp only [Array.size_append,List.size_toArray,hlen,iI.1,size_zeroCells,fe]
   rw [<-Nat.add_mul,<-Nat.add_mul]
   congr 1
   omega
  ·obtain⟨x,hx,dC⟩:=(l7 _ i row hr).2 j a ha
   exact⟨x,hx,(dC.later GG.toLater).later hL⟩)
 refine⟨_,_,_,(gV ht cR).trans bm,?_,cz,GG.trans hE⟩
 have:=ao.ob (g:=g.new S.nx w.drew.heap.size (grownCap w (rows.length+more.length) sCap e)) (w:=w.drew.alloc (.cells (dP.toArray++news.toArray++Builtin.zeroCells z.cells (grownCap w (rows.length+more.length) sCap e - (rows.length+more.length))) e))
  (k:=S.nx) (sz:=sz) (off:=0) (len:=rows.length+more.length) (c:=grownCap w (rows.length+more.length) sCap e) (cx:=none) (.inr rfl) (fun m h=>by cases h) (by rw [Nat.zero_add];exact Nat.le_of_eq (ah _ _ _).symm) (fun _=>by rw [Nat.zero_add];exact (ah _ _ _).symm) o4
 rw [show (g.new S.nx w.drew.heap.size (grownCap w (rows.length+more.length) sCap e)).ob S.nx=w.heap.size from ah _ _ _,Nat.zero_mul] at this
 exact this
theorem St.rename {A:Nat->Prop}{g:Gh}{w:World}{k:Nat}{ob:Ob}(hS:St w0 A g S w) (hk:S.get k=some ob) (ha:g.al k) (n_:∀ J,ob ≠ .fo J):Ext A g w (g.new S.nx (g.ob k) (g.cp k)) w/\St w0 A (g.new S.nx (g.ob k) (g.cp k)) ((S.set k none).new ob) w:=by
 have aM:∀ j,g.al j->j ≠ S.nx:=fun j hj e=>absurd (hS.al j hj) (by omega)
 have gF:∀ j,g.al j->(g.new S.nx (g.ob k) (g.cp k)).ob j=g.ob j:=fun j hj=>aw _ _ (aM j hj)
 have uC:∀ j,g.al j->(g.new S.nx (g.ob k) (g.cp k)).cp j=g.cp j:=fun j hj=>aw _ _ (aM j hj)
 have e1:(g.new S.nx (g.ob k) (g.cp k)).ob S.nx=g.ob k:=ah _ _ _
 have e2:(g.new S.nx (g.ob k) (g.cp k)).cp S.nx=g.cp k:=ah _ _ _
 have hL:Later g w (g.new S.nx (g.ob k) (g.cp k)) w:=⟨fun j hj=>.inl hj,gF,uC,fun _ _ h=>h,fun _ _ _=>rfl⟩
 have hE:Ext A g w (g.new S.nx (g.ob k) (g.cp k)) w:={ hL with size:=Nat.le_refl _,bR:=fun _ _ _=>rfl,eu:=fun _ _ h=>.inl h }
 have key:∀ j p,((S.set k none).new ob).get j=some p->(j=S.nx/\p=ob)\/(j ≠ S.nx/\j ≠ k/\S.get j=some p):=by
  intro j p hj
  have hj:a6 (a6 S.get k none) S.nx (some ob) j=some p:=hj
  by_cases c:j=S.nx
  ·subst c
   rw [ah] at hj
   exact .inl ⟨rfl,(Option.some.inj hj).symm⟩
  ·rw [aw _ _ c] at hj
   by_cases d:j=k
   ·subst d
    rw [ah] at hj
    cases hj
   ·rw [aw _ _ d] at hj
    exact .inr ⟨c,d,hj⟩
 obtain⟨k2,k3,k4⟩:=hS.bE k ob hk ha
 refine⟨hE,hS.next hE rfl rfl rfl (fun j hj=>hj.elim (fun h=>Nat.lt_succ_of_lt (hS.al j h)) fun e=>by rw [e];exact Nat.lt_succ_self _) (fun j p hj aj=>?_) (fun i j p q hi hj ai aj e=>?_) hS.bM rfl (fun j J hj aj=>(key j _ hj).elim (fun e=>absurd e.2.symm (n_ J)) fun e=>⟨e.2.2,aj.resolve_right e.1⟩) (fun j p hj aj=>.inr ((key j p hj).elim (fun e=>⟨k,ob,ha,hk,by rw [e.1];exact e1,.inr n_⟩) fun e=>⟨j,p,aj.resolve_right e.1,e.2.2,gF j (aj.resolve_right e.1),.inl rfl⟩))⟩
 ·rcases key j p hj with ⟨rfl,rfl⟩|⟨c,d,hO⟩
  ·rw [e1,e2]
   exact⟨k2,k3,k4.later hL rfl (fun _ h=>h) fun J hJ=>absurd hJ (n_ J)⟩
  ·have sg:g.al j:=aj.resolve_right c
   obtain⟨h2,h3,h4⟩:=hS.bE j p hO sg
   rw [gF j sg,uC j sg]
   exact⟨h2,h3,h4.later hL rfl (fun _ h=>h) fun _ _=>⟨rfl,Nat.le_refl _,fun _ _=>rfl,fun _ _ _ h=>h⟩⟩
 ·rcases key i p hi with ⟨rfl,rfl⟩|⟨c,d,dD⟩<;>rcases key j q hj with ⟨rfl,rfl⟩|⟨c',d',hO⟩
  ·rfl
  ·have sg:g.al j:=aj.resolve_right c'
   rw [e1,gF j sg] at e
   exact absurd (hS.inj k j _ q hk hO ha sg e) (Ne.symm d')
  ·have Dp:g.al i:=ai.resolve_right c
   rw [e1,gF i Dp] at e
   exact absurd (hS.inj i k p _ dD hk Dp ha e) d
  ·have Dp:g.al i:=ai.resolve_right c
   have sg:g.al j:=aj.resolve_right c'
   rw [gF i Dp,gF j sg] at e
   exact hS.inj i j p q dD hO Dp sg e
end
section
variable {P:Program}{w0:World}{n:Nat}{o:Oper}{α:AA}{S S':U}{r:AV}
theorem nz {g:Gh}{w:World}{sz b q:Nat}{more:List (List AV)}{news:List Value}(h:Src g w sz more ⟨b,q,none⟩ news) (hc:∀ row ∈ more,row.length=sz/\row.all bp=true):∀ u ∈ news,u.oneCell'=true:=by
 intro u hu
 obtain⟨p,hp⟩:=List.getElem?_of_mem hu
 have au:=(List.getElem?_eq_some_iff.1 hp).1
 rw [h.1] at au
 have a7:0 < sz:=by
  rcases Nat.eq_zero_or_pos sz with e|e
  ·rw [e] at au;simp at au
  ·exact e
 have hi:p / sz < more.length:=Nat.div_lt_of_lt_mul (by rw [Nat.mul_comm];exact au)
 have hj:p % sz < sz:=Nat.mod_lt _ a7
 have dW:=List.getElem?_eq_getElem hi
 obtain⟨hl,gG⟩:=hc _ (List.getElem_mem hi)
 have hO:p % sz < (more[p / sz]).length:=by omega
 have ha:=List.getElem?_eq_getElem hO
 obtain⟨x,hx,hr⟩:=h.2.2 _ _ dW _ _ ha
 rw [Nat.div_add_mod' p sz,hp] at hx
 obtain rfl:=Option.some.inj hx
 exact kY (List.all_eq_true.1 gG _ (List.getElem_mem hO)) hr
theorem wh {A:Nat->Prop}{g:Gh}{w:World}{t t2 ty e e2:TypeId}{sz k len c b2 q2 c2:Nat}{rows more:List (List AV)}{fz:Nat}{ex:Bool}{news:List Value}(hS:St w0 A g S w) (ht:P.underlying t=some (.slice e)) (cR:P.underlying t2=some (.slice e2)) (hs:bV P e=some sz)
  (hk:S.get k=some (.arr sz rows fz ex)) (ha:g.al k) (lB:c=g.cp k) (CL:len<=c) (oM:fz<=len) (hlen:len<=rows.length) (iI:Src g w sz more ⟨b2,q2,none⟩ news) (eD:∀ row ∈ more,row.length=sz/\row.all bp=true) (iE:len+more.length<=c) :
  ∃ v w' g',(Builtin.append_ #[t,t2] ty #[.slice (some ⟨g.ob k,0,none⟩) len c,.slice (some ⟨b2,q2,none⟩) more.length c2]).run P w=.ok v w'/\ao g' w' (.ob S.nx sz 0 (len+more.length) none) v/\St w0 A g' ((S.set k none).new (.arr sz (rows.take len++more) fz false)) w'/\Ext A g w g' w':=by
 obtain⟨i,hi,a7⟩:=dy hs
 obtain⟨k2,k3,cs,gT,h1,h2,h3,h4,h5,h6,h7⟩:=hS.bE k _ hk ha
 have hm:len*sz+more.length*sz<=g.cp k*sz:=by rw [<-Nat.add_mul];exact Nat.mul_le_mul_right sz (by omega)
 have cy:0+len*i.size+news.length<=cs.size:=by rw [iI.1,h2,a7];omega
 have bm:=iL (P:=P) w t ty e gT i ht hi (g.ob k) 0 len c cs h1 ⟨b2,q2,none⟩ more.length c2 news (by rw [iI.1,a7]) iI.2.1 (nz iI eD) iE cy
 simp only [Nat.zero_add,a7] at bm cy
 obtain⟨cs',jQ⟩:∃ cs',cs'=(cs.toList.take (len*sz)++news++cs.toList.drop (len*sz+news.length)).toArray:=⟨_,rfl⟩
 rw [<-jQ] at bm
 have fQ:∀ q,cs'[q]?=if q < len*sz then cs[q]? else if q < len*sz+news.length then news[q - len*sz]? else cs[q]?:=by
  intro q
  rw [jQ,List.getElem?_toArray,lh _ _ _ (by simpa using cy)]
  simp only [Array.getElem?_toList]
 have yL:cs'.size=cs.size:=by
  rw [jQ]
  simp
  omega
 have Jt:len*sz<=rows.length*sz:=Nat.mul_le_mul_right sz hlen
 obtain⟨hE,cz⟩:=hS.row hk ha h1 (cs':=cs') (ob:=.arr sz (rows.take len++more) fz false) (fun J=>⟨by simp,by simp⟩) (fun q hq=>by
  rw [fQ]
  rw [if_pos (Nat.lt_of_lt_of_le ((h7 q).1 hq) (Nat.mul_le_mul_right sz oM))]) (fun hL=>by
  refine⟨cs',gT,setRow_heap w _ cs cs' gT (0,0) h1,yL.trans h2,by simp;omega,fun h=>by simp at h,fun i row hr=>?_,by simp;omega,h7⟩
  ·by_cases c1:i < len
   ·rw [List.getElem?_append_left (by simp;omega),List.getElem?_take,if_pos c1] at hr
    refine⟨(h5 i row hr).1,fun j a bU=>?_⟩
    obtain⟨x,hx,dC⟩:=(h5 i row hr).2 j a bU
    have hj:j < sz:=by rw [<-(h5 i row hr).1];exact (List.getElem?_eq_some_iff.1 bU).1
    exact⟨x,by rw [fQ,if_pos (fD c1 hj)];exact hx,dC.later hL⟩
   ·rw [List.getElem?_append_right (by simp;omega)] at hr
    have e1:min len rows.length=len:=by omega
    simp only [List.length_take,e1] at hr
    have eC:=(eD row (List.mem_of_getElem? hr)).1
    refine⟨eC,fun j a bU=>?_⟩
    obtain⟨x,hx,dC⟩:=iI.2.2 _ row hr j a bU
    have au:=(List.getElem?_eq_some_iff.1 hx).1
    have e:i*sz=len*sz+(i - len)*sz:=by rw [<-Nat.add_mul];congr 1;omega
    exact⟨x,by rw [fQ,if_neg (by omega),if_pos (by omega),show i*sz+j - len*sz=(i - len)*sz+j by omega];exact hx,dC.later hL⟩)
 have kK:(S.set k (some (.arr sz (rows.take len++more) fz false))).get k=some (.arr sz (rows.take len++more) fz false):=ah _ _ _
 obtain⟨vS,KQ⟩:=cz.rename kK ha (fun J=>by simp)
 have e:((S.set k (some (.arr sz (rows.take len++more) fz false))).set k none).new (.arr sz (rows.take len++more) fz false)=(S.set k none).new (.arr sz (rows.take len++more) fz false):=by
  have:a6 (a6 S.get k (some (.arr sz (rows.take len++more) fz false))) k none=a6 S.get k none:=by
   funext j
   by_cases c:j=k
   ·subst c;rw [ah,ah]
   ·rw [aw _ _ c,aw _ _ c,aw _ _ c]
  simp only [U.set,U.new,this]
 rw [e] at KQ
 refine⟨_,_,_,(gV ht cR).trans bm,?_,KQ,hE.trans vS⟩
 have:=ao.ob (g:=g.new S.nx (g.ob k) (g.cp k)) (w:=w.setRow (g.ob k) cs') (k:=S.nx) (sz:=sz) (off:=0) (len:=len+more.length) (c:=c) (cx:=none) (.inr rfl) (fun m h=>by cases h)
  (by rw [Nat.zero_add,lB];exact Nat.le_of_eq (ah _ _ _).symm) (fun _=>by rw [Nat.zero_add,lB];exact (ah _ _ _).symm) iE
 rw [show (g.new S.nx (g.ob k) (g.cp k)).ob S.nx=g.ob k from ah _ _ _,Nat.zero_mul] at this
 exact this
theorem mC {t t2 ty e e2:TypeId}{w:World}{B C:Option Addr}{m c c2:Nat}{sz:Nat}(ht:P.underlying t=some (.slice e)) (cR:P.underlying t2=some (.slice e2)) (hs:bV P e=some sz) (hle:m<=c) :
  (Builtin.append_ #[t,t2] ty #[.slice B m c,.slice C 0 c2]).run P w=.ok (.slice B m c) w:=by
 rw [gV ht cR]
 have hf:(Builtin.firstCells sz 0 (.slice C 0 c2)).run P w=.ok #[] w:=by
  cases C with
  |none=>simp [Builtin.firstCells]
  |some b=>simpa using run_firstCells_some (P:=P) (w:=w) sz 0 b 0 c2 [] (by simp) (fun j v h=>by simp at h)
 cases B<;>simp [Builtin.append_,run_underlying ht,bJ hs,Builtin.lenOf,hle,hf,storeCells]
theorem jq {g:Gh}{w:World}{ex:Bool}{rows:List (List AV)}{v:Value}(h:ao g w (.sl ex rows) v):∃ B c,v=.slice B rows.length c/\rows.length<=c/\(ex=true->c=rows.length):=by
 cases h with
 |nil hc=>exact⟨_,_,rfl,Nat.zero_le _,hc⟩
 |sl hn hc hle hl h hr=>exact⟨_,_,rfl,hle,hc⟩
theorem wT {c:Call}{t t2 e e2:TypeId}{x y:Operand}{a b:AV}{more:List (List AV)}{z:Value}{sz:Nat}{K:AV->U->Prop}(ho:o.op=.call c) (hc:c.callee=.builtin .append) (cV:c.argTypes=#[t,t2]) (aH:c.args=#[x,y])
  (hx:α.ev x=a) (hy:α.ev y=b) (ht:P.underlying t=some (.slice e)) (cR:P.underlying t2=some (.slice e2)) (hm:rowsOf S b=some more) (hlen:ig b=some more.length) (hz:bY P e=some z) (hs:bV P e=some sz) (fe:z.cells.size=sz) (h:eV P e K S more a) :
  ∃ r S',aC P w0 n o α S r S'/\K r S':=by
 have bm:∀ (q:Act) (w:World),(execOp q.eval o).run P w=((Builtin.append_ #[t,t2] o.type #[q.eval x,q.eval y]).run P w).andThen fun v w'=>.ok (.value v) w':=by
  intro q w
  simp [execOp,ho,resolve,hc,cV,aH,invoke,builtin]
 have same:∀ {r:AV}{m cc:Nat},more=[]->α.ev x=r->(∀ (g:Gh) (w:World) (v:Value),ao g w r v->∃ B m cc,v=.slice B m cc/\m<=cc)->aC P w0 n o α S r S:=by
  intro r m cc CU wY hr
  refine aC.quiet fun A g q w hS hA=>?_
  have h1:=hA.ev x
  have h2:=hA.ev y
  rw [wY] at h1
  rw [hy] at h2
  subst CU
  obtain⟨B,c1,e1⟩:=jm (S:=S) hlen hm h2
  obtain⟨B',m',Pw,e2,hle⟩:=hr g w _ h1
  refine⟨q.eval x,?_,h1⟩
  rw [bm,e1,e2,mC ht cR hs hle]
  rfl
 unfold eV at h
 split at h
 ·rename_i rows
  split at h
  ·exact⟨_,_,same (m:=0) (cc:=0) rfl hx (fun g w v hr=>let ⟨B,c,e,hle,_⟩:=jq hr;⟨B,_,c,e,hle⟩),h⟩
  ·rename_i m1 ms
   split at h
   ·rename_i sz' by_ pT eH
    split at h
    ·rename_i hb
     obtain⟨hl,eD,cy,hK⟩:=h
     have e0:sz'=sz:=by rw [hs] at pT;exact (Option.some.inj pT).symm
     subst e0
     refine⟨_,_,?_,hK⟩
     intro A g q w hS hA
     have h1:=hA.ev x
     have h2:=hA.ev y
     rw [hx] at h1
     rw [hy] at h2
     obtain⟨b2,q2,c2,news,e2,vj,dz⟩:=fR hS hm h2 (by simp) eD hlen
     obtain⟨B,cc,e1,Uh,gU⟩:=jq h1
     have PM:=gU rfl
     have hold:(B=none/\rows=[]/\cc=0)\/∃ b dP,B=some b/\Src g w sz' rows b dP:=by
      by_cases qi:rows=[]
      ·subst qi
       cases B with
       |none=>exact .inl ⟨rfl,rfl,by simpa using PM⟩
       |some bb=>exact .inr ⟨bb,[],rfl,by simp,fun j u hu=>by simp at hu,fun i row hi=>by simp at hi⟩
      ·obtain⟨b,q,c',dP,e3,_,TL⟩:=fR (a:=.sl true rows) hS rfl h1 qi hl rfl
       rw [e1] at e3
       injection e3 with e4
       exact .inr ⟨_,dP,e4,TL⟩
     obtain⟨v,w',g',hr,h3,h4,h5⟩:=nO (ty:=o.type) (c2:=c2) hS ht cR hz hs eH fe hold dz hl eD (by simp) (by rw [PM];simp) cy (Nat.lt_of_lt_of_le Nat.zero_lt_one (Nat.le_of_ble_eq_true hb))
     refine⟨v,w',g',.inl ?_,h3,h4,h5⟩
     rw [bm,e1,e2,hr]
     rfl
    ·exact h.elim
   ·exact h.elim
 ·rename_i k TM len
  unfold aD at h
  split at h
  ·rename_i KR Fs
   obtain⟨sz',rows,fz,ex⟩:=KR
   have hk:=rK Fs
   dsimp only at h
   split at h
   ·exact⟨_,_,same (m:=0) (cc:=0) rfl hx (fun g w v hr=>let ⟨c,e,_,_,_,_,hle⟩:=dx hr;⟨_,_,c,e,hle⟩),h⟩
   ·rename_i m1 ms
    split at h
    ·rename_i dK by_ pT eH
     split at h
     ·rename_i hb
      simp only [Bool.and_eq_true] at hb
      obtain⟨⟨dJ,dE⟩,iW⟩:=hb
      have dJ:=Nat.eq_of_beq_eq_true dJ
      have dE:=Nat.eq_of_beq_eq_true dE
      have e0:dK=sz:=by rw [hs] at pT;exact (Option.some.inj pT).symm
      subst dJ dE e0
      obtain⟨oM,PN,eD,cy,hK⟩:=h
      refine⟨_,_,?_,hK⟩
      intro A g q w hS hA
      have h1:=hA.ev x
      have h2:=hA.ev y
      rw [hx] at h1
      rw [hy] at h2
      obtain⟨b2,q2,c2,news,e2,vj,dz⟩:=fR hS hm h2 (by simp) (fun r hr=>(eD r hr).1) hlen
      obtain⟨cc,e1,aY,_,lB,gU,CL⟩:=dx h1
      have gU:=gU rfl
      simp only [Nat.zero_add] at gU lB
      simp only [Nat.zero_mul] at e1
      by_cases iE:len+(m1::ms).length<=cc
      ·obtain⟨v,w',g',hr,h3,h4,h5⟩:=wh (ty:=o.type) (c2:=c2) hS ht cR hs hk aY gU CL oM PN dz eD iE
       refine⟨v,w',g',.inl ?_,h3,h4,h5⟩
       rw [bm,e1,e2,hr]
       rfl
      ·obtain⟨k2,k3,cs,gT,p1,p2,p3,p4,p5,p6,p7⟩:=hS.bE k _ hk aY
       have wi:(rows.take len).length=len:=by simp;omega
       have hl:∀ r ∈ rows.take len,r.length=dK:=by
        intro r hr
        obtain⟨i,hi⟩:=List.getElem?_of_mem (List.mem_of_mem_take hr)
        exact (p5 i r hi).1
       have hold:∃ dP,Src g w dK (rows.take len) ⟨g.ob k,0,none⟩ dP:=by
        refine jv hl (fun i j row a hi hj=>?_)
        rw [List.getElem?_take] at hi
        split at hi
        ·obtain⟨u,hu,KS⟩:=(p5 i row hi).2 j a hj
         exact⟨u,by rw [cell_of_row _ _ _ cs gT (0,0) p1,Nat.zero_add];exact hu,KS⟩
        ·cases hi
       obtain⟨dP,hold⟩:=hold
       have dF:St w0 A g (S.set k none) w:=hS.forget (Nat.le_refl _) (fun j p hj ha=>by
        have hj:a6 S.get k none j=some p:=hj
        by_cases c:j=k
        ·subst c;rw [ah] at hj;cases hj
        ·rwa [aw _ _ c] at hj)
       have wj:=nO (ty:=o.type) (c2:=c2) (sCap:=cc) dF ht cR hz hs eH fe (rows:=rows.take len) (more:=m1::ms) (B:=some ⟨g.ob k,0,none⟩) (news:=news) (.inr ⟨_,dP,rfl,hold⟩) dz hl (fun r hr=>(eD r hr).1) (by simp) (by rw [wi];omega) (by rw [wi];exact cy)
        (Nat.lt_of_lt_of_le Nat.zero_lt_one (Nat.le_of_ble_eq_true iW))
       rw [wi] at wj
       obtain⟨v,w',g',hr,h3,h4,h5⟩:=wj
       have sC:g'.al S.nx:=by
        obtain⟨_,_,aY,_⟩:=dx h3
        exact aY
       obtain⟨PO,TN⟩:=h4.freeze (k:=S.nx) (ah _ _ _) sC (m:=fz) (Nat.zero_le _) (by simp;omega)
       refine⟨v,w',_,.inl ?_,h3.later PO.toLater,?_,h5.trans PO⟩
       ·rw [bm,e1,e2,hr]
        rfl
       ·have e:((((S.set k none).new (.arr dK (rows.take len++m1::ms) 0 false)).set S.nx (some (.arr dK (rows.take len++m1::ms) fz false))))=(S.set k none).new (.arr dK (rows.take len++m1::ms) fz false):=by
         have:∀ (f:Nat->Option Ob) (a b:Option Ob),a6 (a6 f S.nx a) S.nx b=a6 f S.nx b:=by
          intro f a b
          funext j
          by_cases c:j=S.nx
          ·subst c;rw [ah,ah]
          ·rw [aw _ _ c,aw _ _ c,aw _ _ c]
         simp only [U.set,U.new,this]
        rw [<-e]
        exact TN
     ·exact h.elim
    ·exact h.elim
  ·exact h.elim
 ·rename_i k TM off len UA
  unfold aD at h
  split at h
  ·rename_i KR Fs
   obtain⟨sz',rows,fz,ex⟩:=KR
   have hk:=rK Fs
   dsimp only at h
   split at h
   ·exact⟨_,_,same (m:=0) (cc:=0) rfl hx (fun g w v hr=>let ⟨c,e,_,_,_,_,hle⟩:=dx hr;⟨_,_,c,e,hle⟩),h⟩
   ·rename_i m1 ms
    split at h
    ·rename_i dK by_ pT eH
     split at h
     ·rename_i hb
      simp only [Bool.and_eq_true] at hb
      obtain⟨⟨dJ,dE⟩,iW⟩:=hb
      have dJ:=Nat.eq_of_beq_eq_true dJ
      have dE:=Nat.eq_of_beq_eq_true dE
      have e0:dK=sz:=by rw [hs] at pT;exact (Option.some.inj pT).symm
      subst dJ dE e0
      obtain⟨Pr,PN,eD,cy,hK⟩:=h
      refine⟨_,_,?_,hK⟩
      intro A g q w hS hA
      have h1:=hA.ev x
      have h2:=hA.ev y
      rw [hx] at h1
      rw [hy] at h2
      obtain⟨b2,q2,c2,news,e2,vj,dz⟩:=fR hS hm h2 (by simp) eD hlen
      obtain⟨cc,e1,aY,qe,lB,gU,CL⟩:=dx h1
      have qe:=qe _ rfl
      obtain⟨k2,k3,cs,gT,p1,p2,p3,p4,p5,p6,p7⟩:=hS.bE k _ hk aY
      have wi:((rows.drop off).take len).length=len:=by simp;omega
      have hl:∀ r ∈ (rows.drop off).take len,r.length=dK:=by
       intro r hr
       obtain⟨i,hi⟩:=List.getElem?_of_mem (List.mem_of_mem_drop (List.mem_of_mem_take hr))
       exact (p5 i r hi).1
      have hold:∃ dP,Src g w dK ((rows.drop off).take len) ⟨g.ob k,off*dK,none⟩ dP:=by
       refine jv hl (fun i j row a hi hj=>?_)
       obtain⟨u,hu,KS⟩:=(p5 _ row (kF hi).2).2 j a hj
       exact⟨u,by rw [cell_of_row _ _ _ cs gT (0,0) p1,<-hu,Nat.add_mul,Nat.add_assoc],KS⟩
      obtain⟨dP,hold⟩:=hold
      have wj:=nO (ty:=o.type) (c2:=c2) (sCap:=cc) hS ht cR hz hs eH fe (rows:=(rows.drop off).take len) (more:=m1::ms) (B:=some ⟨g.ob k,off*dK,none⟩) (news:=news) (.inr ⟨_,dP,rfl,hold⟩) dz hl eD (by simp) (by rw [wi];simp;omega) (by rw [wi];exact cy)
       (Nat.lt_of_lt_of_le Nat.zero_lt_one (Nat.le_of_ble_eq_true iW))
      rw [wi] at wj
      obtain⟨v,w',g',hr,h3,h4,h5⟩:=wj
      refine⟨v,w',g',.inl ?_,h3,h4,h5⟩
      rw [bm,e1,e2,hr]
      rfl
     ·exact h.elim
    ·exact h.elim
  ·exact h.elim
 ·exact h.elim
end
end Go.Proofs.YtbofilglphfceaaGreat
