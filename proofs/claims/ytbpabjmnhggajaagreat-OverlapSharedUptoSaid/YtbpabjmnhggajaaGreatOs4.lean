import Derived.Test.YtbpabjmnhggajaaGreatOs3
namespace Go.Proofs.YtbpabjmnhggajaaGreat
set_option linter.unusedVariables false
set_option linter.unusedSimpArgs false
open Go.RowKit
section
variable {P:Program}{w0:World}{n:Nat}{o:Oper}{α:AA}{S S':ae}{r:AV}
theorem Tu {rows:List (List AV)}{sz:Nat}(h:∀ r ∈ rows,r.length=sz):rows.flatten.length=rows.length*sz:=by
 induction rows with
 |nil=>simp
 |cons r rs ih =>
  rw[List.flatten_cons,List.length_append,ih (fun x hx=>h x (by grind)),h r (by simp),List.length_cons,Nat.add_mul,Nat.one_mul,Nat.add_comm]
theorem Jj {sz j:Nat}:∀ {rows:List (List AV)}{i:Nat}{row:List AV},(∀ r ∈ rows,r.length=sz)->rows[i]?=some row->j < sz->rows.flatten[i*sz+j]?=row[j]?
 |[],i,row,_,hi,_=>by grind
 |r::rs,0,row,h,hi,hj=>by grind
 |r::rs,i+1,row,h,hi,hj=>by
  simp at hi;have hr:=h r (by simp);rw[List.flatten_cons,List.getElem?_append_right (by grind),hr,show (i+1)*sz+j - sz=i*sz+j by grind];exact Jj (fun x hx=>h x (by grind)) hi hj
theorem Jk {sz:Nat}:∀ {rows:List (List AV)}{q:Nat}{a:AV},(∀ r ∈ rows,r.length=sz)->rows.flatten[q]?=some a->∃ i j row,rows[i]?=some row/\row[j]?=some a/\q=i*sz+j
 |[],q,a,_,hq=>by grind
 |r::rs,q,a,h,hq=>by
  have hr:=h r (by simp);by_cases c:q < sz
  ·rw[List.flatten_cons,List.getElem?_append_left (by omega)] at hq;exact⟨0,q,r,rfl,hq,by omega⟩
  ·rw[List.flatten_cons,List.getElem?_append_right (by omega),hr] at hq;obtain⟨i,j,row,h1,h2,h3⟩:=Jk (fun x hx=>h x (by grind)) hq;exact⟨i+1,j,row,h1,h2,by grind⟩
def Src (g:Gh) (w:World) (sz:Nat) (rows:List (List AV)) (a:Addr) (news:List Value):Prop :=
 news.length=rows.length*sz/\(∀ j u,news[j]?=some u->w.cell? (a.add j)=some u)/\∀ (i:Nat) (row:List AV),rows[i]?=some row->∀ (j:Nat) (a:AV),row[j]?=some a->∃ x,news[i*sz+j]?=some x/\aF g w a x
theorem pU {g:Gh}{w:World}{sz b q:Nat}{rows:List (List AV)}(hl:∀ r ∈ rows,r.length=sz) (h:∀ (i j:Nat) (row:List AV) (a:AV),rows[i]?=some row->row[j]?=some a->∃ x,w.cell? ⟨b,q+(i*sz+j),none⟩=some x/\aF g w a x) :
  ∃ news,Src g w sz rows ⟨b,q,none⟩ news:=by
 obtain⟨cs,h1,h2,h3⟩:=Cells.list (g:=g) (w:=w) (b:=b) (row:=rows.flatten) (o:=q) (fun p a ha=>by
  obtain⟨i,j,row,hi,hj,e⟩:=Jk hl ha;rw[e];exact h i j row a hi hj)
 refine⟨cs,h1.trans (Tu hl),fun j u hu=>by grind[fF],fun i row hi j a ha=>?_⟩;have hj:j < sz:=by grind
 have hf:=Jj hl hi hj;have aA:i*sz+j < cs.length:=by grind
 exact⟨cs[i*sz+j],List.getElem?_eq_getElem aA,h3 _ a _ (hf.trans ha) (List.getElem?_eq_getElem aA)⟩
theorem iy {g:Gh}{w:World}{k sz off len:Nat}{cx:Option Nat}{v:Value}(h:aF g w (.ob k sz off len cx) v):∃ c,v=.slice (some ⟨g.ob k,off*sz,none⟩) len c/\g.al k/\(∀ m,cx=some m->c=m)/\off+c<=g.cp k/\(cx=none->off+c=g.cp k)/\len<=c:=by
 cases h with
 |ob hk hc hp hx hle=>exact⟨_,rfl,hk,hc,hp,hx,hle⟩
theorem rR {β:Type}{rows:List β}{off len i:Nat}{row:β}(h:((rows.drop off).take len)[i]?=some row):i < len/\rows[off+i]?=some row:=by grind
theorem nD {A:Nat->Prop}{g:Gh}{w:World}{a:AV}{v:Value}{rows:List (List AV)}{sz:Nat}(hS:St w0 A g S w) (h:rowsOf S a=some rows) (hr:aF g w a v) (hn:rows ≠ []) (hl:∀ r ∈ rows,r.length=sz) (hlen:nR a=some rows.length) :
  ∃ b q c news,v=.slice (some ⟨b,q,none⟩) rows.length c/\rows.length<=c/\Src g w sz rows ⟨b,q,none⟩ news:=by
 unfold rowsOf at h;split at h
 ·rename_i ex cV;obtain rfl:=oJ_ h;cases hr with
  |nil=>exact absurd rfl hn
  |@sl _ _ b q sz' c val y7 hc hle nI h1 h2 =>
   have e:sz'=sz:=by
    obtain⟨r0,rs,rfl⟩:=List.exists_cons_of_ne_nil hn;have h3:=nI 0 r0 rfl;have h4:=hl r0 (by simp);omega
   subst e;obtain⟨news,hs⟩:=pU (g:=g) (w:=w) (b:=b) (q:=q) hl (fun i j row a hi hj=>⟨_,(h1 i j row a hi hj).2,h2 i j row a hi hj⟩);exact⟨b,q,c,news,rfl,hle,hs⟩
 ·rename_i k sz' off len cx;split at h
  ·rename_i gw cV fz ex hk;split at h
   ·rename_i bS;have bS:=Nat.eq_of_beq_eq_true bS;subst bS;obtain rfl:=oJ_ h;obtain⟨c,rfl,aK,hc,hp,hx,hle⟩:=iy hr;obtain⟨k2,k3,cs,ty,h1,h2,h3,h4,h5,h6,h7⟩:=hS.bT k _ hk aK;have e:sz'=sz:=by
     obtain⟨r0,rs,e0⟩:=List.exists_cons_of_ne_nil hn;have h8:((cV.drop off).take len)[0]?=some r0:=by grind
     have h9:=(h5 _ r0 (rR h8).2).1;have K3:=hl r0 (by grind);omega
    subst e;obtain⟨news,hs⟩:=pU (g:=g) (w:=w) (b:=g.ob k) (q:=off*sz') hl (fun i j row a hi hj=>by
     obtain⟨x,lQ,bK⟩:=(h5 _ row (rR hi).2).2 j a hj;refine⟨x,?_,bK⟩;rw[cell_of_row _ _ _ cs ty (0,0) h1,<-lQ,Nat.add_mul,Nat.add_assoc])
    have e2:len=((cV.drop off).take len).length:=by grind[nR]
    exact⟨_,_,c,news,by grind,by grind,hs⟩
   ·grind
  ·grind
 ·grind
theorem pF {g:Gh}{w:World}{a:AV}{v:Value}(hlen:nR a=some 0) (h:rowsOf S a=some []) (hr:aF g w a v):∃ B c,v=.slice B 0 c:=by
 rcases Iz hlen hr with ⟨B,c,e⟩|⟨s,e,_⟩
 ·grind
 ·rw[e] at hr;cases hr with
  |v=>simp[rowsOf] at h
  |u=>simp[rowsOf] at h
theorem pI {t t2 ty e e2:TypeId}{w:World}{x y:Value}(ht:P.underlying t=some (.slice e)) (fS:P.underlying t2=some (.slice e2)):(Builtin.append_ #[t,t2] ty #[x,y]).run P w=(Builtin.append_ #[t,t] ty #[x,y]).run P w:=by
 simp only[Builtin.append_,List.getElem?_toArray,List.getElem?_cons_zero,List.getElem?_cons_succ,Sem.run_bind,run_underlying ht,run_underlying fS,Result.andThen_ok];cases x<;>first|rfl|simp only[Sem.run_bind,run_underlying ht,run_underlying fS,Result.andThen_ok,Sem.run_pure]
theorem tG (w:World) (t ty e n_:TypeId) (i:TypeInfo) (ht:P.underlying t=some (.slice e)) (hi:P.info? e=some i)
  (g q Cq sCap:Nat) (cur:Array Value) (hg:w.heap[g]?=some (.cells cur n_ (0,0)))
  (a:Addr) (m c:Nat) (news:List Value) (hl:news.length=m*i.size) (sJ:∀ j u,news[j]?=some u->w.cell? (a.add j)=some u) (h1:∀ u ∈ news,u.oneCell'=true)
  (kY:Cq+m<=sCap) (j9:q+Cq*i.size+news.length<=cur.size) :
  (Builtin.append_ #[t,t] ty #[.slice (some ⟨g,q,none⟩) Cq sCap,.slice (some a) m c]).run P w =
   .ok (.slice (some ⟨g,q,none⟩) (Cq+m) sCap) (w.setRow g (cur.toList.take (q+Cq*i.size)++news++cur.toList.drop (q+Cq*i.size+news.length)).toArray):=by
 have hf:=run_firstCells_some (P:=P) w i.size m a m c news hl sJ;have mj:=run_storeCells_at P g (q+Cq*i.size) n_ news 0 cur w hg (by grind) h1;simp only[Nat.add_zero] at mj;simp[Builtin.append_,run_underlying ht,sizeOf,typeInfo,hi,Builtin.lenOf,kY,hf,fF,mj]
theorem BM {g:Gh}{w:World}{sz:Nat}{b b2:Addr}{rows more:List (List AV)}{iB news:List Value}{rest:Array Value}(h1:Src g w sz rows b iB) (h2:Src g w sz more b2 news) (hl:∀ r ∈ rows,r.length=sz) (lj:∀ r ∈ more,r.length=sz) :
  ∀ (i:Nat) (row:List AV),(rows++more)[i]?=some row->row.length=sz/\∀ (j:Nat) (a:AV),row[j]?=some a->∃ x,(iB.toArray++news.toArray++rest)[i*sz+j]?=some x/\aF g w a x:=by
 intro i row hi;refine⟨?_,fun j a ha=>?_⟩
 ·grind
 ·have hj:∀ hm:row.length=sz,j < sz:=fun hm=>by grind
  by_cases c:i < rows.length
  ·rw[List.getElem?_append_left c] at hi;obtain⟨x,hx,hr⟩:=h1.2.2 i row hi j a ha;refine⟨x,?_,hr⟩;have aA:=(List.getElem?_eq_some_iff.1 hx).1;rw[Array.append_assoc,Array.getElem?_append_left (by grind)];simpa using hx
  ·rw[List.getElem?_append_right (by omega)] at hi;obtain⟨x,hx,hr⟩:=h2.2.2 _ row hi j a ha;refine⟨x,?_,hr⟩;have aA:=(List.getElem?_eq_some_iff.1 hx).1;have e:i*sz=rows.length*sz+(i - rows.length)*sz:=by rw[<-Nat.add_mul];congr 1;omega
   rw[Array.getElem?_append_left (by simp[h1.1];omega),Array.getElem?_append_right (by simp[h1.1];omega)];simp only[List.size_toArray,h1.1,List.getElem?_toArray];rw[show i*sz+j - rows.length*sz=(i - rows.length)*sz+j by omega];exact hx
theorem xu {A:Nat->Prop}{g:Gh}{w:World}{t t2 ty e e2:TypeId}{z:Value}{sz by_:Nat}(hS:St w0 A g S w) (ht:P.underlying t=some (.slice e)) (fS:P.underlying t2=some (.slice e2)) (hz:de P e=some z) (hs:cY P e=some sz) (pG:iu P e=some by_) (pH:z.cells.size=sz)
  {rows more:List (List AV)}{B:Option Addr}{sCap:Nat}{b2 q2 c2:Nat}{news:List Value}(hold:(B=none/\rows=[]/\sCap=0)\/∃ b iB,B=some b/\Src g w sz rows b iB) (oH:Src g w sz more ⟨b2,q2,none⟩ news) (hl:∀ r ∈ rows,r.length=sz) (lj:∀ r ∈ more,r.length=sz)
  (hn:more ≠ []) (hg:sCap < rows.length+more.length) (j9:(rows.length+more.length)*by_<=35184372088832) (iK:0 < by_) :
  ∃ v w' g',(Builtin.append_ #[t,t2] ty #[.slice B rows.length sCap,.slice (some ⟨b2,q2,none⟩) more.length c2]).run P w=.ok v w'/\aF g' w' (.ob S.nx sz 0 (rows.length+more.length) none) v/\St w0 A g' (S.new (.arr sz (rows++more) 0 false)) w'/\Ext A g w g' w':=by
 obtain⟨i,hi,bS⟩:=jG hs;have nZ:i.zero=some z:=by grind[de]
 have PF:i.bytes=by_:=by grind[iu]
 have fj:0 < more.length:=List.length_pos_iff.2 hn;have hmul:rows.length+more.length<=35184372088832:=Nat.le_trans (Nat.le_mul_of_pos_right _ iK) j9;have Jl:=grownCap_ge w (rows.length+more.length) sCap e
 obtain⟨iB,uy,bZ⟩:∃ iB:List Value,(∀ rest,∀ (i:Nat) (row:List AV),(rows++more)[i]?=some row->row.length=sz/\∀ (j:Nat) (a:AV),row[j]?=some a->∃ x,(iB.toArray++news.toArray++rest)[i*sz+j]?=some x/\aF g w a x) /\
   (iB.length=rows.length*sz/\(Builtin.append_ #[t,t] ty #[.slice B rows.length sCap,.slice (some ⟨b2,q2,none⟩) more.length c2]).run P w =
   .ok (.slice (some ⟨w.heap.size,0,none⟩) (rows.length+more.length) (grownCap w (rows.length+more.length) sCap e)) (w.drew.alloc (.cells (iB.toArray++news.toArray++Builtin.zeroCells z.cells (grownCap w (rows.length+more.length) sCap e - (rows.length+more.length))) e))):=by
  rcases hold with ⟨rfl,rfl,rfl⟩|⟨b,iB,rfl,ho⟩
  ·refine⟨[],fun rest=>BM (b:=⟨0,0,none⟩) ⟨by simp,fun j u hu=>by grind,fun i row hi=>by grind⟩ oH hl lj,by simp,?_⟩;have:=run_append_nil (P:=P) w t ty e i z ht hi nZ ⟨b2,q2,none⟩ more.length c2 news (by rw[oH.1,bS]) oH.2.1 fj (by omega) (by grind);simpa using this
  ·refine⟨iB,fun rest=>BM ho oH hl lj,ho.1,?_⟩;have hns:=Go.Room.nextslicecap_le' hg
   exact run_append_grow (P:=P) w t ty e i z ht hi nZ b rows.length sCap iB (by rw[ho.1,bS]) ho.2.1 ⟨b2,q2,none⟩ more.length c2 news (by rw[oH.1,bS]) oH.2.1 hg (by omega)
    (Nat.le_trans (Nat.mul_le_mul_right _ hns) (by grind))
 obtain⟨hlen,bZ⟩:=bZ;obtain⟨VD,Qe⟩:=hS.drew;have tF:∀ q,¬ g.fz w.heap.size q:=fun q hf=>absurd (hS.cK _ _ hf) (Nat.lt_irrefl _);obtain⟨hE,cZ⟩:=Qe.new (.cells (iB.toArray++news.toArray++Builtin.zeroCells z.cells (grownCap w (rows.length+more.length) sCap e - (rows.length+more.length))) e) (.arr sz (rows++more) 0 false) (grownCap w (rows.length+more.length) sCap e) (fun J=>by simp) (fun hL=>by
  refine⟨_,e,dw,?_,by grind,fun h=>by grind,fun i row hr=>⟨(uy #[] i row hr).1,fun j a ha=>?_⟩,Nat.zero_le _,fun q=>⟨fun h=>absurd h (tF q),fun h=>by grind⟩⟩
  ·simp only[Array.size_append,List.size_toArray,hlen,oH.1,size_zeroCells,pH];rw[<-Nat.add_mul,<-Nat.add_mul];congr 1;omega
  ·obtain⟨x,hx,dR⟩:=(uy _ i row hr).2 j a ha;exact⟨x,hx,(dR.later VD.toLater).later hL⟩)
 refine⟨_,_,_,(pI ht fS).trans bZ,?_,cZ,VD.trans hE⟩
 have:=aF.ob (g:=g.new S.nx w.drew.heap.size (grownCap w (rows.length+more.length) sCap e)) (w:=w.drew.alloc (.cells (iB.toArray++news.toArray++Builtin.zeroCells z.cells (grownCap w (rows.length+more.length) sCap e - (rows.length+more.length))) e))
  (k:=S.nx) (sz:=sz) (off:=0) (len:=rows.length+more.length) (c:=grownCap w (rows.length+more.length) sCap e) (cx:=none) (.inr rfl) (fun m h=>by grind) (by rw[Nat.zero_add];exact Nat.le_of_eq (az _ _ _).symm) (fun _=>by rw[Nat.zero_add];exact (az _ _ _).symm) Jl
 rw[show (g.new S.nx w.drew.heap.size (grownCap w (rows.length+more.length) sCap e)).ob S.nx=w.heap.size from az _ _ _,Nat.zero_mul] at this;exact this
theorem St.rename {A:Nat->Prop}{g:Gh}{w:World}{k:Nat}{ob:Ob}(hS:St w0 A g S w) (hk:S.get k=some ob) (ha:g.al k) (yu:∀ J,ob ≠ .fo J):Ext A g w (g.new S.nx (g.ob k) (g.cp k)) w/\St w0 A (g.new S.nx (g.ob k) (g.cp k)) ((S.set k none).new ob) w:=by
 have bU:∀ j,g.al j->j ≠ S.nx:=fun j hj e=>absurd (hS.al j hj) (by omega);have lf:∀ j,g.al j->(g.new S.nx (g.ob k) (g.cp k)).ob j=g.ob j:=fun j hj=>aD _ _ (bU j hj);have Hu:∀ j,g.al j->(g.new S.nx (g.ob k) (g.cp k)).cp j=g.cp j:=fun j hj=>aD _ _ (bU j hj);have e1:(g.new S.nx (g.ob k) (g.cp k)).ob S.nx=g.ob k:=az _ _ _;have e2:(g.new S.nx (g.ob k) (g.cp k)).cp S.nx=g.cp k:=az _ _ _;have hL:Later g w (g.new S.nx (g.ob k) (g.cp k)) w:=⟨fun j hj=>.inl hj,lf,Hu,fun _ _ h=>h,fun _ _ _=>rfl⟩;have hE:Ext A g w (g.new S.nx (g.ob k) (g.cp k)) w:={ hL with size:=Nat.le_refl _,aU:=fun _ _ _=>rfl,h_:=fun _ _ h=>.inl h };have key:∀ j p,((S.set k none).new ob).get j=some p->(j=S.nx/\p=ob)\/(j ≠ S.nx/\j ≠ k/\S.get j=some p):=by
  intro j p hj;have hj:a7 (a7 S.get k none) S.nx (some ob) j=some p:=hj;by_cases c:j=S.nx
  ·grind[az]
  ·grind[aD,az]
 obtain⟨k2,k3,k4⟩:=hS.bT k ob hk ha;refine⟨hE,hS.next hE rfl rfl rfl (fun j hj=>hj.elim (fun h=>Nat.lt_succ_of_lt (hS.al j h)) fun e=>by rw[e];exact Nat.lt_succ_self _) (fun j p hj aj=>?_) (fun i j p q hi hj ai aj e=>?_) hS.cK rfl (fun j J hj aj=>(key j _ hj).elim (fun e=>absurd e.2.symm (yu J)) fun e=>⟨e.2.2,aj.resolve_right e.1⟩) (fun j p hj aj=>.inr ((key j p hj).elim (fun e=>⟨k,ob,ha,hk,by grind,.inr yu⟩) fun e=>⟨j,p,aj.resolve_right e.1,e.2.2,lf j (aj.resolve_right e.1),.inl rfl⟩))⟩
 ·rcases key j p hj with ⟨rfl,rfl⟩|⟨c,d,lx⟩
  ·rw[e1,e2];exact⟨k2,k3,k4.later hL rfl (fun _ h=>h) fun J hJ=>absurd hJ (yu J)⟩
  ·have DP:g.al j:=aj.resolve_right c;obtain⟨h2,h3,h4⟩:=hS.bT j p lx DP;rw[lf j DP,Hu j DP];exact⟨h2,h3,h4.later hL rfl (fun _ h=>h) fun _ _=>⟨rfl,Nat.le_refl _,fun _ _=>rfl,fun _ _ _ h=>h⟩⟩
 ·rcases key i p hi with ⟨rfl,rfl⟩|⟨c,d,jV⟩<;>rcases key j q hj with ⟨rfl,rfl⟩|⟨c',d',lx⟩
  ·rfl
  ·have DP:g.al j:=aj.resolve_right c';rw[e1,lf j DP] at e;exact absurd (hS.inj k j _ q hk lx ha DP e) (Ne.symm d')
  ·have Qf:g.al i:=ai.resolve_right c;rw[e1,lf i Qf] at e;exact absurd (hS.inj i k p _ jV hk Qf ha e) d
  ·have Qf:g.al i:=ai.resolve_right c;have DP:g.al j:=aj.resolve_right c';rw[lf i Qf,lf j DP] at e;exact hS.inj i j p q jV lx Qf DP e
end
section
variable {P:Program}{w0:World}{n:Nat}{o:Oper}{α:AA}{S S':ae}{r:AV}
theorem Ch {g:Gh}{w:World}{sz b q:Nat}{more:List (List AV)}{news:List Value}(h:Src g w sz more ⟨b,q,none⟩ news) (hc:∀ row ∈ more,row.length=sz/\row.all bO=true):∀ u ∈ news,u.oneCell'=true:=by
 intro u hu;obtain⟨p,hp⟩:=List.getElem?_of_mem hu;have aA:=(List.getElem?_eq_some_iff.1 hp).1;rw[h.1] at aA;have bS:0 < sz:=by grind
 have hi:p / sz < more.length:=Nat.div_lt_of_lt_mul (by grind);have hj:p % sz < sz:=Nat.mod_lt _ bS;have je:=List.getElem?_eq_getElem hi;obtain⟨hl,mZ⟩:=hc _ (List.getElem_mem hi);have lx:p % sz < (more[p / sz]).length:=by omega
 have ha:=List.getElem?_eq_getElem lx;obtain⟨x,hx,hr⟩:=h.2.2 _ _ je _ _ ha;rw[Nat.div_add_mod' p sz,hp] at hx;obtain rfl:=oJ_ hx;exact sH (List.all_eq_true.1 mZ _ (List.getElem_mem lx)) hr
theorem Jm {A:Nat->Prop}{g:Gh}{w:World}{t t2 ty e e2:TypeId}{sz k len c b2 q2 c2:Nat}{rows more:List (List AV)}{fz:Nat}{ex:Bool}{news:List Value}(hS:St w0 A g S w) (ht:P.underlying t=some (.slice e)) (fS:P.underlying t2=some (.slice e2)) (hs:cY P e=some sz)
  (hk:S.get k=some (.arr sz rows fz ex)) (ha:g.al k) (cw:c=g.cp k) (UW:len<=c) (Bj:fz<=len) (hlen:len<=rows.length) (oH:Src g w sz more ⟨b2,q2,none⟩ news) (lj:∀ row ∈ more,row.length=sz/\row.all bO=true) (kY:len+more.length<=c) :
  ∃ v w' g',(Builtin.append_ #[t,t2] ty #[.slice (some ⟨g.ob k,0,none⟩) len c,.slice (some ⟨b2,q2,none⟩) more.length c2]).run P w=.ok v w'/\aF g' w' (.ob S.nx sz 0 (len+more.length) none) v/\St w0 A g' ((S.set k none).new (.arr sz (rows.take len++more) fz false)) w'/\Ext A g w g' w':=by
 obtain⟨i,hi,bS⟩:=jG hs;obtain⟨k2,k3,cs,n_,h1,h2,h3,h4,h5,h6,h7⟩:=hS.bT k _ hk ha;have hm:len*sz+more.length*sz<=g.cp k*sz:=by rw[<-Nat.add_mul];exact Nat.mul_le_mul_right sz (by omega)
 have j9:0+len*i.size+news.length<=cs.size:=by rw[oH.1,h2,bS];omega
 have bZ:=tG (P:=P) w t ty e n_ i ht hi (g.ob k) 0 len c cs h1 ⟨b2,q2,none⟩ more.length c2 news (by rw[oH.1,bS]) oH.2.1 (Ch oH lj) kY j9;simp only[Nat.zero_add,bS] at bZ j9;obtain⟨cs',yK⟩:∃ cs',cs'=(cs.toList.take (len*sz)++news++cs.toList.drop (len*sz+news.length)).toArray:=⟨_,rfl⟩;rw[<-yK] at bZ;have m7:∀ q,cs'[q]?=if q < len*sz then cs[q]? else if q < len*sz+news.length then news[q - len*sz]? else cs[q]?:=by grind
 have Hg:cs'.size=cs.size:=by grind
 have hlm:len*sz<=rows.length*sz:=Nat.mul_le_mul_right sz hlen;obtain⟨hE,cZ⟩:=hS.row hk ha h1 (cs':=cs') (ob:=.arr sz (rows.take len++more) fz false) (fun J=>⟨by simp,by simp⟩) (fun q hq=>by
  rw[m7];rw[if_pos (Nat.lt_of_lt_of_le ((h7 q).1 hq) (Nat.mul_le_mul_right sz Bj))]) (fun hL=>by
  refine⟨cs',n_,setRow_heap w _ cs cs' n_ (0,0) h1,Hg.trans h2,by grind,fun h=>by grind,fun i row hr=>?_,by grind,h7⟩
  ·by_cases c1:i < len
   ·rw[List.getElem?_append_left (by grind),List.getElem?_take,if_pos c1] at hr;refine⟨(h5 i row hr).1,fun j a cM=>?_⟩;obtain⟨x,hx,dR⟩:=(h5 i row hr).2 j a cM;have hj:j < sz:=by grind
    exact⟨x,by grind[mf],dR.later hL⟩
   ·rw[List.getElem?_append_right (by grind)] at hr;have e1:min len rows.length=len:=by omega
    simp only[List.length_take,e1] at hr;have jH:=(lj row (List.mem_of_getElem? hr)).1;refine⟨jH,fun j a cM=>?_⟩;obtain⟨x,hx,dR⟩:=oH.2.2 _ row hr j a cM;have aA:=(List.getElem?_eq_some_iff.1 hx).1;have e:i*sz=len*sz+(i - len)*sz:=by rw[<-Nat.add_mul];congr 1;omega
    exact⟨x,by grind,dR.later hL⟩)
 have gT:(S.set k (some (.arr sz (rows.take len++more) fz false))).get k=some (.arr sz (rows.take len++more) fz false):=az _ _ _;obtain⟨rb,aas⟩:=cZ.rename gT ha (fun J=>by simp);have e:((S.set k (some (.arr sz (rows.take len++more) fz false))).set k none).new (.arr sz (rows.take len++more) fz false)=(S.set k none).new (.arr sz (rows.take len++more) fz false):=by
  have:a7 (a7 S.get k (some (.arr sz (rows.take len++more) fz false))) k none=a7 S.get k none:=by grind[az,aD]
  simp only[ae.set,ae.new,this]
 rw[e] at aas;refine⟨_,_,_,(pI ht fS).trans bZ,?_,aas,hE.trans rb⟩
 have:=aF.ob (g:=g.new S.nx (g.ob k) (g.cp k)) (w:=w.setRow (g.ob k) cs') (k:=S.nx) (sz:=sz) (off:=0) (len:=len+more.length) (c:=c) (cx:=none) (.inr rfl) (fun m h=>by grind)
  (by rw[Nat.zero_add,cw];exact Nat.le_of_eq (az _ _ _).symm) (fun _=>by rw[Nat.zero_add,cw];exact (az _ _ _).symm) kY
 rw[show (g.new S.nx (g.ob k) (g.cp k)).ob S.nx=g.ob k from az _ _ _,Nat.zero_mul] at this;exact this
theorem vE {t t2 ty e e2:TypeId}{w:World}{B C:Option Addr}{m c c2:Nat}{sz:Nat}(ht:P.underlying t=some (.slice e)) (fS:P.underlying t2=some (.slice e2)) (hs:cY P e=some sz) (hle:m<=c) :
  (Builtin.append_ #[t,t2] ty #[.slice B m c,.slice C 0 c2]).run P w=.ok (.slice B m c) w:=by
 rw[pI ht fS];have hf:(Builtin.firstCells sz 0 (.slice C 0 c2)).run P w=.ok #[] w:=by
  cases C with
  |none=>simp[Builtin.firstCells]
  |some b=>simpa using run_firstCells_some (P:=P) (w:=w) sz 0 b 0 c2 [] (by simp) (fun j v h=>by grind)
 cases B<;>simp[Builtin.append_,run_underlying ht,ct hs,Builtin.lenOf,hle,hf,storeCells]
theorem om {g:Gh}{w:World}{ex:Bool}{rows:List (List AV)}{v:Value}(h:aF g w (.sl ex rows) v):∃ B c,v=.slice B rows.length c/\rows.length<=c/\(ex=true->c=rows.length):=by
 cases h with
 |nil hc=>exact⟨_,_,rfl,Nat.zero_le _,hc⟩
 |sl hn hc hle hl h hr=>exact⟨_,_,rfl,hle,hc⟩
theorem KQ {c:Call}{t t2 e e2:TypeId}{x y:Operand}{a b:AV}{more:List (List AV)}{z:Value}{sz:Nat}{K:AV->ae->Prop}(ho:o.op=.call c) (hc:c.callee=.builtin .append) (gG:c.argTypes=#[t,t2]) (bj:c.args=#[x,y])
  (hx:α.ev x=a) (hy:α.ev y=b) (ht:P.underlying t=some (.slice e)) (fS:P.underlying t2=some (.slice e2)) (hm:rowsOf S b=some more) (hlen:nR b=some more.length) (hz:de P e=some z) (hs:cY P e=some sz) (pH:z.cells.size=sz) (h:j_ P e K S more a) :
  ∃ r S',aQ P w0 n o α S r S'/\K r S':=by
 have bZ:∀ (q:Act) (w:World),(execOp q.eval o).run P w=((Builtin.append_ #[t,t2] o.type #[q.eval x,q.eval y]).run P w).andThen fun v w'=>.ok (.value v) w':=by
  intro q w;simp[execOp,ho,resolve,hc,gG,bj,invoke,builtin]
 have same:∀ {r:AV}{m cc:Nat},more=[]->α.ev x=r->(∀ (g:Gh) (w:World) (v:Value),aF g w r v->∃ B m cc,v=.slice B m cc/\m<=cc)->aQ P w0 n o α S r S:=by
  intro r m cc DQ LX hr;refine aQ.quiet fun A g q w hS hA=>?_;have h1:=hA.ev x;have h2:=hA.ev y;rw[LX] at h1;rw[hy] at h2;subst DQ;obtain⟨B,c1,e1⟩:=pF (S:=S) hlen hm h2;obtain⟨B',m',cc',e2,hle⟩:=hr g w _ h1;refine⟨q.eval x,?_,h1⟩;rw[bZ,e1,e2,vE ht fS hs hle]
  rfl
 unfold j_ at h;split at h
 ·rename_i rows;split at h
  ·exact⟨_,_,same (m:=0) (cc:=0) rfl hx (fun g w v hr=>let ⟨B,c,e,hle,_⟩:=om hr;⟨B,_,c,e,hle⟩),h⟩
  ·rename_i m1 ms;split at h
   ·rename_i sz' by_ iG pG;split at h
    ·rename_i hb;obtain⟨hl,lj,j9,hK⟩:=h;have e0:sz'=sz:=by grind
     subst e0;refine⟨_,_,?_,hK⟩;intro A g q w hS hA;have h1:=hA.ev x;have h2:=hA.ev y;rw[hx] at h1;rw[hy] at h2;obtain⟨b2,q2,c2,news,e2,M1,ly⟩:=nD hS hm h2 (by simp) lj hlen;obtain⟨B,cc,e1,ami,i_⟩:=om h1;have VE:=i_ rfl;have hold:(B=none/\rows=[]/\cc=0)\/∃ b iB,B=some b/\Src g w sz' rows b iB:=by
      by_cases DN:rows=[]
      ·subst DN;cases B with
       |none=>exact .inl ⟨rfl,rfl,by grind⟩
       |some bb=>exact .inr ⟨bb,[],rfl,by simp,fun j u hu=>by grind,fun i row hi=>by grind⟩
      ·obtain⟨b,q,c',iB,e3,_,FD⟩:=nD (a:=.sl true rows) hS rfl h1 DN hl rfl;rw[e1] at e3;injection e3 with e4;exact .inr ⟨_,iB,e4,FD⟩
     obtain⟨v,w',g',hr,h3,h4,h5⟩:=xu (ty:=o.type) (c2:=c2) hS ht fS hz hs pG pH hold ly hl lj (by simp) (by grind) j9 (Nat.lt_of_lt_of_le Nat.zero_lt_one (Nat.le_of_ble_eq_true hb));refine⟨v,w',g',.inl ?_,h3,h4,h5⟩;rw[bZ,e1,e2,hr]
     rfl
    ·grind
   ·grind
 ·rename_i k szk len;unfold bc at h;split at h
  ·rename_i ob0 Tv;obtain⟨sz',rows,fz,ex⟩:=ob0;have hk:=C9 Tv;dsimp only at h;split at h
   ·exact⟨_,_,same (m:=0) (cc:=0) rfl hx (fun g w v hr=>let ⟨c,e,_,_,_,_,hle⟩:=iy hr;⟨_,_,c,e,hle⟩),h⟩
   ·rename_i m1 ms;split at h
    ·rename_i gw by_ iG pG;split at h
     ·rename_i hb;simp only[Bool.and_eq_true] at hb;obtain⟨⟨b8,cy⟩,jo⟩:=hb;have b8:=Nat.eq_of_beq_eq_true b8;have cy:=Nat.eq_of_beq_eq_true cy;have e0:gw=sz:=by grind
      subst b8 cy e0;obtain⟨Bj,hlr,lj,j9,hK⟩:=h;refine⟨_,_,?_,hK⟩;intro A g q w hS hA;have h1:=hA.ev x;have h2:=hA.ev y;rw[hx] at h1;rw[hy] at h2;obtain⟨b2,q2,c2,news,e2,M1,ly⟩:=nD hS hm h2 (by simp) (fun r hr=>(lj r hr).1) hlen;obtain⟨cc,e1,aK,_,cw,i_,UW⟩:=iy h1;have i_:=i_ rfl;simp only[Nat.zero_add] at i_ cw;simp only[Nat.zero_mul] at e1;by_cases kY:len+(m1::ms).length<=cc
      ·obtain⟨v,w',g',hr,h3,h4,h5⟩:=Jm (ty:=o.type) (c2:=c2) hS ht fS hs hk aK i_ UW Bj hlr ly lj kY;refine⟨v,w',g',.inl ?_,h3,h4,h5⟩;rw[bZ,e1,e2,hr]
       rfl
      ·obtain⟨k2,k3,cs,n_,p1,p2,p3,p4,p5,p6,p7⟩:=hS.bT k _ hk aK;have r7:(rows.take len).length=len:=by grind
       have hl:∀ r ∈ rows.take len,r.length=gw:=by
        intro r hr;obtain⟨i,hi⟩:=List.getElem?_of_mem (List.mem_of_mem_take hr);exact (p5 i r hi).1
       have hold:∃ iB,Src g w gw (rows.take len) ⟨g.ob k,0,none⟩ iB:=by
        refine pU hl (fun i j row a hi hj=>?_);rw[List.getElem?_take] at hi;split at hi
        ·obtain⟨u,hu,hru⟩:=(p5 i row hi).2 j a hj;exact⟨u,by rw[cell_of_row _ _ _ cs n_ (0,0) p1,Nat.zero_add];exact hu,hru⟩
        ·grind
       obtain⟨iB,hold⟩:=hold;have fJ:St w0 A g (S.set k none) w:=hS.forget (Nat.le_refl _) (fun j p hj ha=>by
        have hj:a7 S.get k none j=some p:=hj;by_cases c:j=k
        ·grind[az]
        ·rwa [aD _ _ c] at hj)
       have Jn:=xu (ty:=o.type) (c2:=c2) (sCap:=cc) fJ ht fS hz hs pG pH (rows:=rows.take len) (more:=m1::ms) (B:=some ⟨g.ob k,0,none⟩) (news:=news) (.inr ⟨_,iB,rfl,hold⟩) ly hl (fun r hr=>(lj r hr).1) (by simp) (by grind) (by grind)
        (Nat.lt_of_lt_of_le Nat.zero_lt_one (Nat.le_of_ble_eq_true jo))
       rw[r7] at Jn;obtain⟨v,w',g',hr,h3,h4,h5⟩:=Jn;have vo:g'.al S.nx:=by
        obtain⟨_,_,aK,_⟩:=iy h3;exact aK
       obtain⟨hE6,hS6⟩:=h4.freeze (k:=S.nx) (az _ _ _) vo (m:=fz) (Nat.zero_le _) (by grind);refine⟨v,w',_,.inl ?_,h3.later hE6.toLater,?_,h5.trans hE6⟩
       ·rw[bZ,e1,e2,hr]
        rfl
       ·have e:((((S.set k none).new (.arr gw (rows.take len++m1::ms) 0 false)).set S.nx (some (.arr gw (rows.take len++m1::ms) fz false))))=(S.set k none).new (.arr gw (rows.take len++m1::ms) fz false):=by
         have:∀ (f:Nat->Option Ob) (a b:Option Ob),a7 (a7 f S.nx a) S.nx b=a7 f S.nx b:=by grind[az,aD]
         simp only[ae.set,ae.new,this]
        rw[<-e];exact hS6
     ·grind
    ·grind
  ·grind
 ·rename_i k szk off len cc0;unfold bc at h;split at h
  ·rename_i ob0 Tv;obtain⟨sz',rows,fz,ex⟩:=ob0;have hk:=C9 Tv;dsimp only at h;split at h
   ·exact⟨_,_,same (m:=0) (cc:=0) rfl hx (fun g w v hr=>let ⟨c,e,_,_,_,_,hle⟩:=iy hr;⟨_,_,c,e,hle⟩),h⟩
   ·rename_i m1 ms;split at h
    ·rename_i gw by_ iG pG;split at h
     ·rename_i hb;simp only[Bool.and_eq_true] at hb;obtain⟨⟨b8,cy⟩,jo⟩:=hb;have b8:=Nat.eq_of_beq_eq_true b8;have cy:=Nat.eq_of_beq_eq_true cy;have e0:gw=sz:=by grind
      subst b8 cy e0;obtain⟨jz,hlr,lj,j9,hK⟩:=h;refine⟨_,_,?_,hK⟩;intro A g q w hS hA;have h1:=hA.ev x;have h2:=hA.ev y;rw[hx] at h1;rw[hy] at h2;obtain⟨b2,q2,c2,news,e2,M1,ly⟩:=nD hS hm h2 (by simp) lj hlen;obtain⟨cc,e1,aK,u0,cw,i_,UW⟩:=iy h1;have u0:=u0 _ rfl;obtain⟨k2,k3,cs,n_,p1,p2,p3,p4,p5,p6,p7⟩:=hS.bT k _ hk aK;have r7:((rows.drop off).take len).length=len:=by grind
      have hl:∀ r ∈ (rows.drop off).take len,r.length=gw:=by
       intro r hr;obtain⟨i,hi⟩:=List.getElem?_of_mem (List.mem_of_mem_drop (List.mem_of_mem_take hr));exact (p5 i r hi).1
      have hold:∃ iB,Src g w gw ((rows.drop off).take len) ⟨g.ob k,off*gw,none⟩ iB:=by
       refine pU hl (fun i j row a hi hj=>?_);obtain⟨u,hu,hru⟩:=(p5 _ row (rR hi).2).2 j a hj;exact⟨u,by rw[cell_of_row _ _ _ cs n_ (0,0) p1,<-hu,Nat.add_mul,Nat.add_assoc],hru⟩
      obtain⟨iB,hold⟩:=hold
      have Jn:=xu (ty:=o.type) (c2:=c2) (sCap:=cc) hS ht fS hz hs pG pH (rows:=(rows.drop off).take len) (more:=m1::ms) (B:=some ⟨g.ob k,off*gw,none⟩) (news:=news) (.inr ⟨_,iB,rfl,hold⟩) ly hl lj (by simp) (by grind) (by grind)
       (Nat.lt_of_lt_of_le Nat.zero_lt_one (Nat.le_of_ble_eq_true jo))
      rw[r7] at Jn;obtain⟨v,w',g',hr,h3,h4,h5⟩:=Jn;refine⟨v,w',g',.inl ?_,h3,h4,h5⟩;rw[bZ,e1,e2,hr]
      rfl
     ·grind
    ·grind
  ·grind
 ·grind
end
end Go.Proofs.YtbpabjmnhggajaaGreat
