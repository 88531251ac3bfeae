import Derived.Test.YtgjfgekaclobaaaGreatCa3
namespace Go.Proofs.YtgjfgekaclobaaaGreat
set_option linter.unusedVariables false
set_option linter.unusedSimpArgs false
open Go.RowKit
section
variable {P:Program}{w0:World}{n:Nat}{o:Oper}{α:AA}{S S':ad}{r:AV}
theorem GX {rows:List (List AV)}{sz:Nat}(h:∀ r ∈ rows,r.length=sz):rows.flatten.length=rows.length*sz:=by
 induction rows with
 |nil=>simp
 |cons r rs ih =>
  rw [List.flatten_cons,List.length_append,ih (fun x hx=>h x (by simp [hx])),h r (by simp),List.length_cons,Nat.add_mul,Nat.one_mul,Nat.add_comm]
theorem GY {sz j:Nat}:∀ {rows:List (List AV)}{i:Nat}{row:List AV},(∀ r ∈ rows,r.length=sz)->rows[i]?=some row->j < sz->rows.flatten[i*sz+j]?=row[j]?
 |[],i,row,_,hi,_=>by simp at hi
 |r::rs,0,row,h,hi,hj=>by
  simp at hi
  subst hi
  rw [List.flatten_cons,List.getElem?_append_left (by rw [h r (by simp)];omega)]
  simp
 |r::rs,i+1,row,h,hi,hj=>by
  simp at hi
  have hr:=h r (by simp)
  rw [List.flatten_cons,List.getElem?_append_right (by rw [hr,Nat.add_mul];omega),hr,show (i+1)*sz+j - sz=i*sz+j by rw [Nat.add_mul];omega]
  exact GY (fun x hx=>h x (by simp [hx])) hi hj
theorem GZ {sz:Nat}:∀ {rows:List (List AV)}{q:Nat}{a:AV},(∀ r ∈ rows,r.length=sz)->rows.flatten[q]?=some a->∃ i j row,rows[i]?=some row/\row[j]?=some a/\q=i*sz+j
 |[],q,a,_,hq=>by simp at hq
 |r::rs,q,a,h,hq=>by
  have hr:=h r (by simp)
  by_cases c:q < sz
  ·rw [List.flatten_cons,List.getElem?_append_left (by omega)] at hq
   exact⟨0,q,r,rfl,hq,by omega⟩
  ·rw [List.flatten_cons,List.getElem?_append_right (by omega),hr] at hq
   obtain⟨i,j,row,h1,h2,h3⟩:=GZ (fun x hx=>h x (by simp [hx])) hq
   exact⟨i+1,j,row,h1,h2,by rw [Nat.add_mul];omega⟩
def Src (g:Gh) (w:World) (sz:Nat) (rows:List (List AV)) (a:Addr) (news:List Value):Prop :=
 news.length=rows.length*sz/\(∀ j u,news[j]?=some u->w.cell? (a.add j)=some u)/\∀ (i:Nat) (row:List AV),rows[i]?=some row->∀ (j:Nat) (a:AV),row[j]?=some a->∃ x,news[i*sz+j]?=some x/\aH g w a x
theorem oN {g:Gh}{w:World}{sz b q:Nat}{rows:List (List AV)}(hl:∀ r ∈ rows,r.length=sz) (h:∀ (i j:Nat) (row:List AV) (a:AV),rows[i]?=some row->row[j]?=some a->∃ x,w.cell? ⟨b,q+(i*sz+j),none⟩=some x/\aH g w a x) :
  ∃ news,Src g w sz rows ⟨b,q,none⟩ news:=by
 obtain⟨cs,h1,h2,h3⟩:=Cells.list (g:=g) (w:=w) (b:=b) (row:=rows.flatten) (o:=q) (fun p a ha=>by
  obtain⟨i,j,row,hi,hj,e⟩:=GZ hl ha
  rw [e]
  exact h i j row a hi hj)
 refine⟨cs,h1.trans (GX hl),fun j u hu=>by rw [fh];exact h2 j u hu,fun i row hi j a ha=>?_⟩
 have hj:j < sz:=by rw [<-hl row (List.mem_of_getElem? hi)];exact (List.getElem?_eq_some_iff.1 ha).1
 have hf:=GY hl hi hj
 have aA:i*sz+j < cs.length:=by rw [h1,GX hl];exact kr (List.getElem?_eq_some_iff.1 hi).1 hj
 exact⟨cs[i*sz+j],List.getElem?_eq_getElem aA,h3 _ a _ (hf.trans ha) (List.getElem?_eq_getElem aA)⟩
theorem h_ {g:Gh}{w:World}{k sz off len:Nat}{cx:Option Nat}{v:Value}(h:aH g w (.ob k sz off len cx) v):∃ c,v=.slice (some ⟨g.ob k,off*sz,none⟩) len c/\g.al k/\(∀ m,cx=some m->c=m)/\off+c<=g.cp k/\(cx=none->off+c=g.cp k)/\len<=c:=by
 cases h with
 |ob hk hc hp hx hle=>exact⟨_,rfl,hk,hc,hp,hx,hle⟩
theorem qp {β:Type}{rows:List β}{off len i:Nat}{row:β}(h:((rows.drop off).take len)[i]?=some row):i < len/\rows[off+i]?=some row:=by
 rw [List.getElem?_take] at h
 split at h
 ·rename_i hi
  rw [List.getElem?_drop] at h
  exact⟨hi,h⟩
 ·cases h
theorem mN {A:Nat->Prop}{g:Gh}{w:World}{a:AV}{v:Value}{rows:List (List AV)}{sz:Nat}(hS:St w0 A g S w) (h:rowsOf S a=some rows) (hr:aH g w a v) (hn:rows ≠ []) (hl:∀ r ∈ rows,r.length=sz) (hlen:m7 a=some rows.length) :
  ∃ b q c news,v=.slice (some ⟨b,q,none⟩) rows.length c/\rows.length<=c/\Src g w sz rows ⟨b,q,none⟩ news:=by
 unfold rowsOf at h
 split at h
 ·rename_i ex cJ
  obtain rfl:=oJ_ h
  cases hr with
  |nil=>exact absurd rfl hn
  |@sl _ _ b q sz' c val IN hc hle l8 h1 h2 =>
   have e:sz'=sz:=by
    obtain⟨r0,rs,rfl⟩:=List.exists_cons_of_ne_nil hn
    have h3:=l8 0 r0 rfl
    have h4:=hl r0 (by simp)
    omega
   subst e
   obtain⟨news,hs⟩:=oN (g:=g) (w:=w) (b:=b) (q:=q) hl (fun i j row a hi hj=>⟨_,(h1 i j row a hi hj).2,h2 i j row a hi hj⟩)
   exact⟨b,q,c,news,rfl,hle,hs⟩
 ·rename_i k sz' off len cx
  split at h
  ·rename_i fN cJ fz ex hk
   split at h
   ·rename_i bh
    have bh:=Nat.eq_of_beq_eq_true bh
    subst bh
    obtain rfl:=oJ_ h
    obtain⟨c,rfl,aO,hc,hp,hx,hle⟩:=h_ hr
    obtain⟨k2,k3,cs,ty,h1,h2,h3,h4,h5,h6,h7⟩:=hS.bR k _ hk aO
    have e:sz'=sz:=by
     obtain⟨r0,rs,e0⟩:=List.exists_cons_of_ne_nil hn
     have h8:((cJ.drop off).take len)[0]?=some r0:=by rw [e0];rfl
     have h9:=(h5 _ r0 (qp h8).2).1
     have Io:=hl r0 (by rw [e0];simp)
     omega
    subst e
    obtain⟨news,hs⟩:=oN (g:=g) (w:=w) (b:=g.ob k) (q:=off*sz') hl (fun i j row a hi hj=>by
     obtain⟨x,iM,cg⟩:=(h5 _ row (qp hi).2).2 j a hj
     refine⟨x,?_,cg⟩
     rw [cell_of_row _ _ _ cs ty (0,0) h1,<-iM,Nat.add_mul,Nat.add_assoc])
    have e2:len=((cJ.drop off).take len).length:=by simpa [m7] using hlen
    exact⟨_,_,c,news,by rw [<-e2],by rw [<-e2];exact hle,hs⟩
   ·cases h
  ·cases h
 ·cases h
theorem oE {g:Gh}{w:World}{a:AV}{v:Value}(hlen:m7 a=some 0) (h:rowsOf S a=some []) (hr:aH g w a v):∃ B c,v=.slice B 0 c:=by
 rcases Gd hlen hr with ⟨B,c,e⟩|⟨s,e,_⟩
 ·exact⟨B,c,e⟩
 ·rw [e] at hr
  cases hr with
  |v=>simp [rowsOf] at h
  |u=>simp [rowsOf] at h
theorem oF {t t2 ty e e2:TypeId}{w:World}{x y:Value}(ht:P.underlying t=some (.slice e)) (eX:P.underlying t2=some (.slice e2)):(Builtin.append_ #[t,t2] ty #[x,y]).run P w=(Builtin.append_ #[t,t] ty #[x,y]).run P w:=by
 simp only [Builtin.append_,List.getElem?_toArray,List.getElem?_cons_zero,List.getElem?_cons_succ,Sem.run_bind,run_underlying ht,run_underlying eX,Result.andThen_ok]
 cases x<;>first|rfl|simp only [Sem.run_bind,run_underlying ht,run_underlying eX,Result.andThen_ok,Sem.run_pure]
theorem r7 (w:World) (t ty e nj:TypeId) (i:TypeInfo) (ht:P.underlying t=some (.slice e)) (hi:P.info? e=some i)
  (g q AH sCap:Nat) (cur:Array Value) (hg:w.heap[g]?=some (.cells cur nj (0,0)))
  (a:Addr) (m c:Nat) (news:List Value) (hl:news.length=m*i.size) (qU:∀ j u,news[j]?=some u->w.cell? (a.add j)=some u) (h1:∀ u ∈ news,u.oneCell'=true)
  (j8:AH+m<=sCap) (ep:q+AH*i.size+news.length<=cur.size) :
  (Builtin.append_ #[t,t] ty #[.slice (some ⟨g,q,none⟩) AH sCap,.slice (some a) m c]).run P w =
   .ok (.slice (some ⟨g,q,none⟩) (AH+m) sCap) (w.setRow g (cur.toList.take (q+AH*i.size)++news++cur.toList.drop (q+AH*i.size+news.length)).toArray):=by
 have hf:=run_firstCells_some (P:=P) w i.size m a m c news hl qU
 have lr:=run_storeCells_at P g (q+AH*i.size) nj news 0 cur w hg (by simpa using ep) h1
 simp only [Nat.add_zero] at lr
 simp [Builtin.append_,run_underlying ht,sizeOf,typeInfo,hi,Builtin.lenOf,j8,hf,fh,lr]
theorem zI {g:Gh}{w:World}{sz:Nat}{b b2:Addr}{rows more:List (List AV)}{ib news:List Value}{rest:Array Value}(h1:Src g w sz rows b ib) (h2:Src g w sz more b2 news) (hl:∀ r ∈ rows,r.length=sz) (mO:∀ r ∈ more,r.length=sz) :
  ∀ (i:Nat) (row:List AV),(rows++more)[i]?=some row->row.length=sz/\∀ (j:Nat) (a:AV),row[j]?=some a->∃ x,(ib.toArray++news.toArray++rest)[i*sz+j]?=some x/\aH g w a x:=by
 intro i row hi
 refine⟨?_,fun j a ha=>?_⟩
 ·have:=List.mem_of_getElem? hi
  rcases List.mem_append.1 this with h|h
  ·exact hl _ h
  ·exact mO _ h
 ·have hj:∀ hm:row.length=sz,j < sz:=fun hm=>by rw [<-hm];exact (List.getElem?_eq_some_iff.1 ha).1
  by_cases c:i < rows.length
  ·rw [List.getElem?_append_left c] at hi
   obtain⟨x,hx,hr⟩:=h1.2.2 i row hi j a ha
   refine⟨x,?_,hr⟩
   have aA:=(List.getElem?_eq_some_iff.1 hx).1
   rw [Array.append_assoc,Array.getElem?_append_left (by simpa using aA)]
   simpa using hx
  ·rw [List.getElem?_append_right (by omega)] at hi
   obtain⟨x,hx,hr⟩:=h2.2.2 _ row hi j a ha
   refine⟨x,?_,hr⟩
   have aA:=(List.getElem?_eq_some_iff.1 hx).1
   have e:i*sz=rows.length*sz+(i - rows.length)*sz:=by rw [<-Nat.add_mul];congr 1;omega
   rw [Array.getElem?_append_left (by simp [h1.1];omega),Array.getElem?_append_right (by simp [h1.1];omega)]
   simp only [List.size_toArray,h1.1,List.getElem?_toArray]
   rw [show i*sz+j - rows.length*sz=(i - rows.length)*sz+j by omega]
   exact hx
theorem vF {A:Nat->Prop}{g:Gh}{w:World}{t t2 ty e e2:TypeId}{z:Value}{sz by_:Nat}(hS:St w0 A g S w) (ht:P.underlying t=some (.slice e)) (eX:P.underlying t2=some (.slice e2)) (hz:cU P e=some z) (hs:cP P e=some sz) (jn:gV P e=some by_) (lT:z.cells.size=sz)
  {rows more:List (List AV)}{B:Option Addr}{sCap:Nat}{b2 q2 c2:Nat}{news:List Value}(hold:(B=none/\rows=[]/\sCap=0)\/∃ b ib,B=some b/\Src g w sz rows b ib) (nG:Src g w sz more ⟨b2,q2,none⟩ news) (hl:∀ r ∈ rows,r.length=sz) (mO:∀ r ∈ more,r.length=sz)
  (hn:more ≠ []) (hg:sCap < rows.length+more.length) (ep:(rows.length+more.length)*by_<=35184372088832) (ku:0 < by_) :
  ∃ v w' g',(Builtin.append_ #[t,t2] ty #[.slice B rows.length sCap,.slice (some ⟨b2,q2,none⟩) more.length c2]).run P w=.ok v w'/\aH g' w' (.ob S.nx sz 0 (rows.length+more.length) none) v/\St w0 A g' (S.new (.arr sz (rows++more) 0 false)) w'/\Ext A g w g' w':=by
 obtain⟨i,hi,bh⟩:=ji hs
 have qB:i.zero=some z:=by unfold cU at hz;rw [hi] at hz;simpa using hz
 have zx:i.bytes=by_:=by unfold gV at jn;rw [hi] at jn;simpa using jn
 have eF:0 < more.length:=List.length_pos_iff.2 hn
 have hmul:rows.length+more.length<=35184372088832:=Nat.le_trans (Nat.le_mul_of_pos_right _ ku) ep
 have x8:=grownCap_ge w (rows.length+more.length) sCap e
 obtain⟨ib,sM,bY⟩:∃ ib:List Value,(∀ rest,∀ (i:Nat) (row:List AV),(rows++more)[i]?=some row->row.length=sz/\∀ (j:Nat) (a:AV),row[j]?=some a->∃ x,(ib.toArray++news.toArray++rest)[i*sz+j]?=some x/\aH g w a x) /\
   (ib.length=rows.length*sz/\(Builtin.append_ #[t,t] ty #[.slice B rows.length sCap,.slice (some ⟨b2,q2,none⟩) more.length c2]).run P w =
   .ok (.slice (some ⟨w.heap.size,0,none⟩) (rows.length+more.length) (grownCap w (rows.length+more.length) sCap e)) (w.drew.alloc (.cells (ib.toArray++news.toArray++Builtin.zeroCells z.cells (grownCap w (rows.length+more.length) sCap e - (rows.length+more.length))) e))):=by
  rcases hold with ⟨rfl,rfl,rfl⟩|⟨b,ib,rfl,ho⟩
  ·refine⟨[],fun rest=>zI (b:=⟨0,0,none⟩) ⟨by simp,fun j u hu=>by simp at hu,fun i row hi=>by simp at hi⟩ nG hl mO,by simp,?_⟩
   have:=run_append_nil (P:=P) w t ty e i z ht hi qB ⟨b2,q2,none⟩ more.length c2 news (by rw [nG.1,bh]) nG.2.1 eF (by omega) (by rw [zx];simp at ep;omega)
   simpa using this
  ·refine⟨ib,fun rest=>zI ho nG hl mO,ho.1,?_⟩
   have hns:=Go.Room.nextslicecap_le' hg
   exact run_append_grow (P:=P) w t ty e i z ht hi qB b rows.length sCap ib (by rw [ho.1,bh]) ho.2.1 ⟨b2,q2,none⟩ more.length c2 news (by rw [nG.1,bh]) nG.2.1 hg (by omega)
    (Nat.le_trans (Nat.mul_le_mul_right _ hns) (by rw [zx,Nat.mul_assoc];omega))
 obtain⟨hlen,bY⟩:=bY
 obtain⟨Vo,O9⟩:=hS.drew
 have r6:∀ q,¬ g.fz w.heap.size q:=fun q hf=>absurd (hS.cC _ _ hf) (Nat.lt_irrefl _)
 obtain⟨hE,cQ⟩:=O9.new (.cells (ib.toArray++news.toArray++Builtin.zeroCells z.cells (grownCap w (rows.length+more.length) sCap e - (rows.length+more.length))) e) (.arr sz (rows++more) 0 false) (grownCap w (rows.length+more.length) sCap e) (fun J=>by simp) (fun hL=>by
  refine⟨_,e,c_,?_,by simpa using x8,fun h=>by simp at h,fun i row hr=>⟨(sM #[] i row hr).1,fun j a ha=>?_⟩,Nat.zero_le _,fun q=>⟨fun h=>absurd h (r6 q),fun h=>by simp at h⟩⟩
  ·simp only [Array.size_append,List.size_toArray,hlen,nG.1,size_zeroCells,lT]
   rw [<-Nat.add_mul,<-Nat.add_mul]
   congr 1
   omega
  ·obtain⟨x,hx,dH⟩:=(sM _ i row hr).2 j a ha
   exact⟨x,hx,(dH.later Vo.toLater).later hL⟩)
 refine⟨_,_,_,(oF ht eX).trans bY,?_,cQ,Vo.trans hE⟩
 have:=aH.ob (g:=g.new S.nx w.drew.heap.size (grownCap w (rows.length+more.length) sCap e)) (w:=w.drew.alloc (.cells (ib.toArray++news.toArray++Builtin.zeroCells z.cells (grownCap w (rows.length+more.length) sCap e - (rows.length+more.length))) e))
  (k:=S.nx) (sz:=sz) (off:=0) (len:=rows.length+more.length) (c:=grownCap w (rows.length+more.length) sCap e) (cx:=none) (.inr rfl) (fun m h=>by cases h) (by rw [Nat.zero_add];exact Nat.le_of_eq (aq _ _ _).symm) (fun _=>by rw [Nat.zero_add];exact (aq _ _ _).symm) x8
 rw [show (g.new S.nx w.drew.heap.size (grownCap w (rows.length+more.length) sCap e)).ob S.nx=w.heap.size from aq _ _ _,Nat.zero_mul] at this
 exact this
theorem St.rename {A:Nat->Prop}{g:Gh}{w:World}{k:Nat}{ob:Ob}(hS:St w0 A g S w) (hk:S.get k=some ob) (ha:g.al k) (tN:∀ J,ob ≠ .fo J):Ext A g w (g.new S.nx (g.ob k) (g.cp k)) w/\St w0 A (g.new S.nx (g.ob k) (g.cp k)) ((S.set k none).new ob) w:=by
 have a_:∀ j,g.al j->j ≠ S.nx:=fun j hj e=>absurd (hS.al j hj) (by omega)
 have jO:∀ j,g.al j->(g.new S.nx (g.ob k) (g.cp k)).ob j=g.ob j:=fun j hj=>aC _ _ (a_ j hj)
 have Fb:∀ j,g.al j->(g.new S.nx (g.ob k) (g.cp k)).cp j=g.cp j:=fun j hj=>aC _ _ (a_ j hj)
 have e1:(g.new S.nx (g.ob k) (g.cp k)).ob S.nx=g.ob k:=aq _ _ _
 have e2:(g.new S.nx (g.ob k) (g.cp k)).cp S.nx=g.cp k:=aq _ _ _
 have hL:Later g w (g.new S.nx (g.ob k) (g.cp k)) w:=⟨fun j hj=>.inl hj,jO,Fb,fun _ _ h=>h,fun _ _ _=>rfl⟩
 have hE:Ext A g w (g.new S.nx (g.ob k) (g.cp k)) w:={ hL with size:=Nat.le_refl _,a7:=fun _ _ _=>rfl,gF:=fun _ _ h=>.inl h }
 have key:∀ j p,((S.set k none).new ob).get j=some p->(j=S.nx/\p=ob)\/(j ≠ S.nx/\j ≠ k/\S.get j=some p):=by
  intro j p hj
  have hj:a8 (a8 S.get k none) S.nx (some ob) j=some p:=hj
  by_cases c:j=S.nx
  ·subst c
   rw [aq] at hj
   exact .inl ⟨rfl,(oJ_ hj).symm⟩
  ·rw [aC _ _ c] at hj
   by_cases d:j=k
   ·subst d
    rw [aq] at hj
    cases hj
   ·rw [aC _ _ d] at hj
    exact .inr ⟨c,d,hj⟩
 obtain⟨k2,k3,k4⟩:=hS.bR k ob hk ha
 refine⟨hE,hS.next hE rfl rfl rfl (fun j hj=>hj.elim (fun h=>Nat.lt_succ_of_lt (hS.al j h)) fun e=>by rw [e];exact Nat.lt_succ_self _) (fun j p hj aj=>?_) (fun i j p q hi hj ai aj e=>?_) hS.cC rfl (fun j J hj aj=>(key j _ hj).elim (fun e=>absurd e.2.symm (tN J)) fun e=>⟨e.2.2,aj.resolve_right e.1⟩) (fun j p hj aj=>.inr ((key j p hj).elim (fun e=>⟨k,ob,ha,hk,by rw [e.1];exact e1,.inr tN⟩) fun e=>⟨j,p,aj.resolve_right e.1,e.2.2,jO j (aj.resolve_right e.1),.inl rfl⟩))⟩
 ·rcases key j p hj with ⟨rfl,rfl⟩|⟨c,d,gp⟩
  ·rw [e1,e2]
   exact⟨k2,k3,k4.later hL rfl (fun _ h=>h) fun J hJ=>absurd hJ (tN J)⟩
  ·have B0:g.al j:=aj.resolve_right c
   obtain⟨h2,h3,h4⟩:=hS.bR j p gp B0
   rw [jO j B0,Fb j B0]
   exact⟨h2,h3,h4.later hL rfl (fun _ h=>h) fun _ _=>⟨rfl,Nat.le_refl _,fun _ _=>rfl,fun _ _ _ h=>h⟩⟩
 ·rcases key i p hi with ⟨rfl,rfl⟩|⟨c,d,fA⟩<;>rcases key j q hj with ⟨rfl,rfl⟩|⟨c',d',gp⟩
  ·rfl
  ·have B0:g.al j:=aj.resolve_right c'
   rw [e1,jO j B0] at e
   exact absurd (hS.inj k j _ q hk gp ha B0 e) (Ne.symm d')
  ·have Pr:g.al i:=ai.resolve_right c
   rw [e1,jO i Pr] at e
   exact absurd (hS.inj i k p _ fA hk Pr ha e) d
  ·have Pr:g.al i:=ai.resolve_right c
   have B0:g.al j:=aj.resolve_right c'
   rw [jO i Pr,jO j B0] at e
   exact hS.inj i j p q fA gp Pr B0 e
end
section
variable {P:Program}{w0:World}{n:Nat}{o:Oper}{α:AA}{S S':ad}{r:AV}
theorem Aq {g:Gh}{w:World}{sz b q:Nat}{more:List (List AV)}{news:List Value}(h:Src g w sz more ⟨b,q,none⟩ news) (hc:∀ row ∈ more,row.length=sz/\row.all bQ=true):∀ u ∈ news,u.oneCell'=true:=by
 intro u hu
 obtain⟨p,hp⟩:=List.getElem?_of_mem hu
 have aA:=(List.getElem?_eq_some_iff.1 hp).1
 rw [h.1] at aA
 have bh:0 < sz:=by
  rcases Nat.eq_zero_or_pos sz with e|e
  ·rw [e] at aA;simp at aA
  ·exact e
 have hi:p / sz < more.length:=Nat.div_lt_of_lt_mul (by rw [Nat.mul_comm];exact aA)
 have hj:p % sz < sz:=Nat.mod_lt _ bh
 have gA:=List.getElem?_eq_getElem hi
 obtain⟨hl,me⟩:=hc _ (List.getElem_mem hi)
 have gp:p % sz < (more[p / sz]).length:=by omega
 have ha:=List.getElem?_eq_getElem gp
 obtain⟨x,hx,hr⟩:=h.2.2 _ _ gA _ _ ha
 rw [Nat.div_add_mod' p sz,hp] at hx
 obtain rfl:=oJ_ hx
 exact qQ (List.all_eq_true.1 me _ (List.getElem_mem gp)) hr
theorem G0 {A:Nat->Prop}{g:Gh}{w:World}{t t2 ty e e2:TypeId}{sz k len c b2 q2 c2:Nat}{rows more:List (List AV)}{fz:Nat}{ex:Bool}{news:List Value}(hS:St w0 A g S w) (ht:P.underlying t=some (.slice e)) (eX:P.underlying t2=some (.slice e2)) (hs:cP P e=some sz)
  (hk:S.get k=some (.arr sz rows fz ex)) (ha:g.al k) (eS:c=g.cp k) (Oe:len<=c) (qy:fz<=len) (hlen:len<=rows.length) (nG:Src g w sz more ⟨b2,q2,none⟩ news) (mO:∀ row ∈ more,row.length=sz/\row.all bQ=true) (j8:len+more.length<=c) :
  ∃ v w' g',(Builtin.append_ #[t,t2] ty #[.slice (some ⟨g.ob k,0,none⟩) len c,.slice (some ⟨b2,q2,none⟩) more.length c2]).run P w=.ok v w'/\aH g' w' (.ob S.nx sz 0 (len+more.length) none) v/\St w0 A g' ((S.set k none).new (.arr sz (rows.take len++more) fz false)) w'/\Ext A g w g' w':=by
 obtain⟨i,hi,bh⟩:=ji hs
 obtain⟨k2,k3,cs,nj,h1,h2,h3,h4,h5,h6,h7⟩:=hS.bR k _ hk ha
 have hm:len*sz+more.length*sz<=g.cp k*sz:=by rw [<-Nat.add_mul];exact Nat.mul_le_mul_right sz (by omega)
 have ep:0+len*i.size+news.length<=cs.size:=by rw [nG.1,h2,bh];omega
 have bY:=r7 (P:=P) w t ty e nj i ht hi (g.ob k) 0 len c cs h1 ⟨b2,q2,none⟩ more.length c2 news (by rw [nG.1,bh]) nG.2.1 (Aq nG mO) j8 ep
 simp only [Nat.zero_add,bh] at bY ep
 obtain⟨cs',o_⟩:∃ cs',cs'=(cs.toList.take (len*sz)++news++cs.toList.drop (len*sz+news.length)).toArray:=⟨_,rfl⟩
 rw [<-o_] at bY
 have jj:∀ q,cs'[q]?=if q < len*sz then cs[q]? else if q < len*sz+news.length then news[q - len*sz]? else cs[q]?:=by
  intro q
  rw [o_,List.getElem?_toArray,rf _ _ _ (by simpa using ep)]
  simp only [Array.getElem?_toList]
 have yU:cs'.size=cs.size:=by
  rw [o_]
  simp
  omega
 have Zs:len*sz<=rows.length*sz:=Nat.mul_le_mul_right sz hlen
 obtain⟨hE,cQ⟩:=hS.row hk ha h1 (cs':=cs') (ob:=.arr sz (rows.take len++more) fz false) (fun J=>⟨by simp,by simp⟩) (fun q hq=>by
  rw [jj]
  rw [if_pos (Nat.lt_of_lt_of_le ((h7 q).1 hq) (Nat.mul_le_mul_right sz qy))]) (fun hL=>by
  refine⟨cs',nj,setRow_heap w _ cs cs' nj (0,0) h1,yU.trans h2,by simp;omega,fun h=>by simp at h,fun i row hr=>?_,by simp;omega,h7⟩
  ·by_cases c1:i < len
   ·rw [List.getElem?_append_left (by simp;omega),List.getElem?_take,if_pos c1] at hr
    refine⟨(h5 i row hr).1,fun j a cz=>?_⟩
    obtain⟨x,hx,dH⟩:=(h5 i row hr).2 j a cz
    have hj:j < sz:=by rw [<-(h5 i row hr).1];exact (List.getElem?_eq_some_iff.1 cz).1
    exact⟨x,by rw [jj,if_pos (kr c1 hj)];exact hx,dH.later hL⟩
   ·rw [List.getElem?_append_right (by simp;omega)] at hr
    have e1:min len rows.length=len:=by omega
    simp only [List.length_take,e1] at hr
    have fE:=(mO row (List.mem_of_getElem? hr)).1
    refine⟨fE,fun j a cz=>?_⟩
    obtain⟨x,hx,dH⟩:=nG.2.2 _ row hr j a cz
    have aA:=(List.getElem?_eq_some_iff.1 hx).1
    have e:i*sz=len*sz+(i - len)*sz:=by rw [<-Nat.add_mul];congr 1;omega
    exact⟨x,by rw [jj,if_neg (by omega),if_pos (by omega),show i*sz+j - len*sz=(i - len)*sz+j by omega];exact hx,dH.later hL⟩)
 have fy:(S.set k (some (.arr sz (rows.take len++more) fz false))).get k=some (.arr sz (rows.take len++more) fz false):=aq _ _ _
 obtain⟨pQ,abf⟩:=cQ.rename fy ha (fun J=>by simp)
 have e:((S.set k (some (.arr sz (rows.take len++more) fz false))).set k none).new (.arr sz (rows.take len++more) fz false)=(S.set k none).new (.arr sz (rows.take len++more) fz false):=by
  have:a8 (a8 S.get k (some (.arr sz (rows.take len++more) fz false))) k none=a8 S.get k none:=by
   funext j
   by_cases c:j=k
   ·subst c;rw [aq,aq]
   ·rw [aC _ _ c,aC _ _ c,aC _ _ c]
  simp only [ad.set,ad.new,this]
 rw [e] at abf
 refine⟨_,_,_,(oF ht eX).trans bY,?_,abf,hE.trans pQ⟩
 have:=aH.ob (g:=g.new S.nx (g.ob k) (g.cp k)) (w:=w.setRow (g.ob k) cs') (k:=S.nx) (sz:=sz) (off:=0) (len:=len+more.length) (c:=c) (cx:=none) (.inr rfl) (fun m h=>by cases h)
  (by rw [Nat.zero_add,eS];exact Nat.le_of_eq (aq _ _ _).symm) (fun _=>by rw [Nat.zero_add,eS];exact (aq _ _ _).symm) j8
 rw [show (g.new S.nx (g.ob k) (g.cp k)).ob S.nx=g.ob k from aq _ _ _,Nat.zero_mul] at this
 exact this
theorem tK {t t2 ty e e2:TypeId}{w:World}{B C:Option Addr}{m c c2:Nat}{sz:Nat}(ht:P.underlying t=some (.slice e)) (eX:P.underlying t2=some (.slice e2)) (hs:cP P e=some sz) (hle:m<=c) :
  (Builtin.append_ #[t,t2] ty #[.slice B m c,.slice C 0 c2]).run P w=.ok (.slice B m c) w:=by
 rw [oF ht eX]
 have hf:(Builtin.firstCells sz 0 (.slice C 0 c2)).run P w=.ok #[] w:=by
  cases C with
  |none=>simp [Builtin.firstCells]
  |some b=>simpa using run_firstCells_some (P:=P) (w:=w) sz 0 b 0 c2 [] (by simp) (fun j v h=>by simp at h)
 cases B<;>simp [Builtin.append_,run_underlying ht,cA hs,Builtin.lenOf,hle,hf,storeCells]
theorem oM {g:Gh}{w:World}{ex:Bool}{rows:List (List AV)}{v:Value}(h:aH g w (.sl ex rows) v):∃ B c,v=.slice B rows.length c/\rows.length<=c/\(ex=true->c=rows.length):=by
 cases h with
 |nil hc=>exact⟨_,_,rfl,Nat.zero_le _,hc⟩
 |sl hn hc hle hl h hr=>exact⟨_,_,rfl,hle,hc⟩
theorem H6 {c:Call}{t t2 e e2:TypeId}{x y:Operand}{a b:AV}{more:List (List AV)}{z:Value}{sz:Nat}{K:AV->ad->Prop}(ho:o.op=.call c) (hc:c.callee=.builtin .append) (fC:c.argTypes=#[t,t2]) (aY:c.args=#[x,y])
  (hx:α.ev x=a) (hy:α.ev y=b) (ht:P.underlying t=some (.slice e)) (eX:P.underlying t2=some (.slice e2)) (hm:rowsOf S b=some more) (hlen:m7 b=some more.length) (hz:cU P e=some z) (hs:cP P e=some sz) (lT:z.cells.size=sz) (h:jA P e K S more a) :
  ∃ r S',aS P w0 n o α S r S'/\K r S':=by
 have bY:∀ (q:Act) (w:World),(execOp q.eval o).run P w=((Builtin.append_ #[t,t2] o.type #[q.eval x,q.eval y]).run P w).andThen fun v w'=>.ok (.value v) w':=by
  intro q w
  simp [execOp,ho,resolve,hc,fC,aY,invoke,builtin]
 have same:∀ {r:AV}{m cc:Nat},more=[]->α.ev x=r->(∀ (g:Gh) (w:World) (v:Value),aH g w r v->∃ B m cc,v=.slice B m cc/\m<=cc)->aS P w0 n o α S r S:=by
  intro r m cc G1 Jj hr
  refine aS.quiet fun A g q w hS hA=>?_
  have h1:=hA.ev x
  have h2:=hA.ev y
  rw [Jj] at h1
  rw [hy] at h2
  subst G1
  obtain⟨B,c1,e1⟩:=oE (S:=S) hlen hm h2
  obtain⟨B',m',cc',e2,hle⟩:=hr g w _ h1
  refine⟨q.eval x,?_,h1⟩
  rw [bY,e1,e2,tK ht eX hs hle]
  rfl
 unfold jA at h
 split at h
 ·rename_i rows
  split at h
  ·exact⟨_,_,same (m:=0) (cc:=0) rfl hx (fun g w v hr=>let ⟨B,c,e,hle,_⟩:=oM hr;⟨B,_,c,e,hle⟩),h⟩
  ·rename_i m1 ms
   split at h
   ·rename_i sz' by_ eD jn
    split at h
    ·rename_i hb
     obtain⟨hl,mO,ep,hK⟩:=h
     have e0:sz'=sz:=by rw [hs] at eD;exact (oJ_ eD).symm
     subst e0
     refine⟨_,_,?_,hK⟩
     intro A g q w hS hA
     have h1:=hA.ev x
     have h2:=hA.ev y
     rw [hx] at h1
     rw [hy] at h2
     obtain⟨b2,q2,c2,news,e2,Kc,ky⟩:=mN hS hm h2 (by simp) mO hlen
     obtain⟨B,cc,e1,an6,jw⟩:=oM h1
     have hcc:=jw rfl
     have hold:(B=none/\rows=[]/\cc=0)\/∃ b ib,B=some b/\Src g w sz' rows b ib:=by
      by_cases lB:rows=[]
      ·subst lB
       cases B with
       |none=>exact .inl ⟨rfl,rfl,by simpa using hcc⟩
       |some bb=>exact .inr ⟨bb,[],rfl,by simp,fun j u hu=>by simp at hu,fun i row hi=>by simp at hi⟩
      ·obtain⟨b,q,c',ib,e3,_,Ol⟩:=mN (a:=.sl true rows) hS rfl h1 lB hl rfl
       rw [e1] at e3
       injection e3 with e4
       exact .inr ⟨_,ib,e4,Ol⟩
     obtain⟨v,w',g',hr,h3,h4,h5⟩:=vF (ty:=o.type) (c2:=c2) hS ht eX hz hs jn lT hold ky hl mO (by simp) (by rw [hcc];simp) ep (Nat.lt_of_lt_of_le Nat.zero_lt_one (Nat.le_of_ble_eq_true hb))
     refine⟨v,w',g',.inl ?_,h3,h4,h5⟩
     rw [bY,e1,e2,hr]
     rfl
    ·exact h.elim
   ·exact h.elim
 ·rename_i k szk len
  unfold aZ at h
  split at h
  ·rename_i ob0 RX
   obtain⟨sz',rows,fz,ex⟩:=ob0
   have hk:=Bo RX
   dsimp only at h
   split at h
   ·exact⟨_,_,same (m:=0) (cc:=0) rfl hx (fun g w v hr=>let ⟨c,e,_,_,_,_,hle⟩:=h_ hr;⟨_,_,c,e,hle⟩),h⟩
   ·rename_i m1 ms
    split at h
    ·rename_i fN by_ eD jn
     split at h
     ·rename_i hb
      simp only [Bool.and_eq_true] at hb
      obtain⟨⟨eB,eg⟩,oq⟩:=hb
      have eB:=Nat.eq_of_beq_eq_true eB
      have eg:=Nat.eq_of_beq_eq_true eg
      have e0:fN=sz:=by rw [hs] at eD;exact (oJ_ eD).symm
      subst eB eg e0
      obtain⟨qy,hlr,mO,ep,hK⟩:=h
      refine⟨_,_,?_,hK⟩
      intro A g q w hS hA
      have h1:=hA.ev x
      have h2:=hA.ev y
      rw [hx] at h1
      rw [hy] at h2
      obtain⟨b2,q2,c2,news,e2,Kc,ky⟩:=mN hS hm h2 (by simp) (fun r hr=>(mO r hr).1) hlen
      obtain⟨cc,e1,aO,_,eS,jw,Oe⟩:=h_ h1
      have jw:=jw rfl
      simp only [Nat.zero_add] at jw eS
      simp only [Nat.zero_mul] at e1
      by_cases j8:len+(m1::ms).length<=cc
      ·obtain⟨v,w',g',hr,h3,h4,h5⟩:=G0 (ty:=o.type) (c2:=c2) hS ht eX hs hk aO jw Oe qy hlr ky mO j8
       refine⟨v,w',g',.inl ?_,h3,h4,h5⟩
       rw [bY,e1,e2,hr]
       rfl
      ·obtain⟨k2,k3,cs,nj,p1,p2,p3,p4,p5,p6,p7⟩:=hS.bR k _ hk aO
       have tX:(rows.take len).length=len:=by simp;omega
       have hl:∀ r ∈ rows.take len,r.length=fN:=by
        intro r hr
        obtain⟨i,hi⟩:=List.getElem?_of_mem (List.mem_of_mem_take hr)
        exact (p5 i r hi).1
       have hold:∃ ib,Src g w fN (rows.take len) ⟨g.ob k,0,none⟩ ib:=by
        refine oN hl (fun i j row a hi hj=>?_)
        rw [List.getElem?_take] at hi
        split at hi
        ·obtain⟨u,hu,hru⟩:=(p5 i row hi).2 j a hj
         exact⟨u,by rw [cell_of_row _ _ _ cs nj (0,0) p1,Nat.zero_add];exact hu,hru⟩
        ·cases hi
       obtain⟨ib,hold⟩:=hold
       have eT:St w0 A g (S.set k none) w:=hS.forget (Nat.le_refl _) (fun j p hj ha=>by
        have hj:a8 S.get k none j=some p:=hj
        by_cases c:j=k
        ·subst c;rw [aq] at hj;cases hj
        ·rwa [aC _ _ c] at hj)
       have G2:=vF (ty:=o.type) (c2:=c2) (sCap:=cc) eT ht eX hz hs jn lT (rows:=rows.take len) (more:=m1::ms) (B:=some ⟨g.ob k,0,none⟩) (news:=news) (.inr ⟨_,ib,rfl,hold⟩) ky hl (fun r hr=>(mO r hr).1) (by simp) (by rw [tX];omega) (by rw [tX];exact ep)
        (Nat.lt_of_lt_of_le Nat.zero_lt_one (Nat.le_of_ble_eq_true oq))
       rw [tX] at G2
       obtain⟨v,w',g',hr,h3,h4,h5⟩:=G2
       have tv:g'.al S.nx:=by
        obtain⟨_,_,aO,_⟩:=h_ h3
        exact aO
       obtain⟨hE6,hS6⟩:=h4.freeze (k:=S.nx) (aq _ _ _) tv (m:=fz) (Nat.zero_le _) (by simp;omega)
       refine⟨v,w',_,.inl ?_,h3.later hE6.toLater,?_,h5.trans hE6⟩
       ·rw [bY,e1,e2,hr]
        rfl
       ·have e:((((S.set k none).new (.arr fN (rows.take len++m1::ms) 0 false)).set S.nx (some (.arr fN (rows.take len++m1::ms) fz false))))=(S.set k none).new (.arr fN (rows.take len++m1::ms) fz false):=by
         have:∀ (f:Nat->Option Ob) (a b:Option Ob),a8 (a8 f S.nx a) S.nx b=a8 f S.nx b:=by
          intro f a b
          funext j
          by_cases c:j=S.nx
          ·subst c;rw [aq,aq]
          ·rw [aC _ _ c,aC _ _ c,aC _ _ c]
         simp only [ad.set,ad.new,this]
        rw [<-e]
        exact hS6
     ·exact h.elim
    ·exact h.elim
  ·exact h.elim
 ·rename_i k szk off len cc0
  unfold aZ at h
  split at h
  ·rename_i ob0 RX
   obtain⟨sz',rows,fz,ex⟩:=ob0
   have hk:=Bo RX
   dsimp only at h
   split at h
   ·exact⟨_,_,same (m:=0) (cc:=0) rfl hx (fun g w v hr=>let ⟨c,e,_,_,_,_,hle⟩:=h_ hr;⟨_,_,c,e,hle⟩),h⟩
   ·rename_i m1 ms
    split at h
    ·rename_i fN by_ eD jn
     split at h
     ·rename_i hb
      simp only [Bool.and_eq_true] at hb
      obtain⟨⟨eB,eg⟩,oq⟩:=hb
      have eB:=Nat.eq_of_beq_eq_true eB
      have eg:=Nat.eq_of_beq_eq_true eg
      have e0:fN=sz:=by rw [hs] at eD;exact (oJ_ eD).symm
      subst eB eg e0
      obtain⟨lf,hlr,mO,ep,hK⟩:=h
      refine⟨_,_,?_,hK⟩
      intro A g q w hS hA
      have h1:=hA.ev x
      have h2:=hA.ev y
      rw [hx] at h1
      rw [hy] at h2
      obtain⟨b2,q2,c2,news,e2,Kc,ky⟩:=mN hS hm h2 (by simp) mO hlen
      obtain⟨cc,e1,aO,uv,eS,jw,Oe⟩:=h_ h1
      have uv:=uv _ rfl
      obtain⟨k2,k3,cs,nj,p1,p2,p3,p4,p5,p6,p7⟩:=hS.bR k _ hk aO
      have tX:((rows.drop off).take len).length=len:=by simp;omega
      have hl:∀ r ∈ (rows.drop off).take len,r.length=fN:=by
       intro r hr
       obtain⟨i,hi⟩:=List.getElem?_of_mem (List.mem_of_mem_drop (List.mem_of_mem_take hr))
       exact (p5 i r hi).1
      have hold:∃ ib,Src g w fN ((rows.drop off).take len) ⟨g.ob k,off*fN,none⟩ ib:=by
       refine oN hl (fun i j row a hi hj=>?_)
       obtain⟨u,hu,hru⟩:=(p5 _ row (qp hi).2).2 j a hj
       exact⟨u,by rw [cell_of_row _ _ _ cs nj (0,0) p1,<-hu,Nat.add_mul,Nat.add_assoc],hru⟩
      obtain⟨ib,hold⟩:=hold
      have G2:=vF (ty:=o.type) (c2:=c2) (sCap:=cc) hS ht eX hz hs jn lT (rows:=(rows.drop off).take len) (more:=m1::ms) (B:=some ⟨g.ob k,off*fN,none⟩) (news:=news) (.inr ⟨_,ib,rfl,hold⟩) ky hl mO (by simp) (by rw [tX];simp;omega) (by rw [tX];exact ep)
       (Nat.lt_of_lt_of_le Nat.zero_lt_one (Nat.le_of_ble_eq_true oq))
      rw [tX] at G2
      obtain⟨v,w',g',hr,h3,h4,h5⟩:=G2
      refine⟨v,w',g',.inl ?_,h3,h4,h5⟩
      rw [bY,e1,e2,hr]
      rfl
     ·exact h.elim
    ·exact h.elim
  ·exact h.elim
 ·exact h.elim
end
end Go.Proofs.YtgjfgekaclobaaaGreat
