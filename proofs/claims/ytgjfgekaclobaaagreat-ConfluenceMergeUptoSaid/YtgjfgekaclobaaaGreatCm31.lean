import Derived.Laws.CopyRow
import Derived.Test.YtgjfgekaclobaaaGreatCm29
namespace Go.Proofs.YtgjfgekaclobaaaGreat
set_option linter.unusedVariables false
set_option linter.unusedSimpArgs false
open Go.RowKit
section
variable {P:Program}{w0:World}{n:Nat}{o:Oper}{α:AA}{S S':aa}{r:AV}
theorem St.yN {A:Nat->Prop}{g:Gh}{w:World}{k sz fz p:Nat}{rows more:List (List AV)}{ex:Bool}{cs:Array Value}{ty:TypeId}{news:List Value}(hS:St w0 A g S w) (hk:S.get k=some (.arr sz rows fz ex)) (ha:g.al k) (hc:w.heap[g.ob k]?=some (.cells cs ty (0,0)))
  (hl:∀ r ∈ more,r.length=sz) (hn:news.length=more.length*sz) (hr:∀ (i:Nat) (row:List AV) (j:Nat) (a:AV),more[i]?=some row->row[j]?=some a->∃ x,news[i*sz+j]?=some x/\aA g w a x) (hp:p+more.length<=rows.length) (hf:fz<=p) :
  Ext A g w g (w.setRow (g.ob k) (cs.toList.take (p*sz)++news++cs.toList.drop (p*sz+news.length)).toArray)/\St w0 A g (S.set k (some (.arr sz (rows.take p++more++rows.drop (p+more.length)) fz ex))) (w.setRow (g.ob k) (cs.toList.take (p*sz)++news++cs.toList.drop (p*sz+news.length)).toArray):=by
 obtain⟨k2,k3,tK,lj,h1,h2,h3,h4,h5,h6,h7⟩:=hS.bj k _ hk ha
 obtain⟨rfl,rfl⟩:tK=cs/\lj=ty:=by
  rw [hc] at h1
  simp only [Option.some.injEq,Obj.cells.injEq] at h1
  exact⟨h1.1.symm,h1.2.1.symm⟩
 have hm:p*sz+more.length*sz<=g.cp k*sz:=by rw [<-Nat.add_mul];exact Nat.mul_le_mul_right sz (by omega)
 have dD:p*sz+news.length<=tK.toList.length:=by
  have e:=Array.length_toList (xs:=tK)
  rw [hn,e,h2];exact hm
 obtain⟨cs',mV⟩:∃ cs',cs'=(tK.toList.take (p*sz)++news++tK.toList.drop (p*sz+news.length)).toArray:=⟨_,rfl⟩
 rw [<-mV]
 have gA:∀ q,cs'[q]?=if q < p*sz then tK[q]? else if q < p*sz+news.length then news[q - p*sz]? else tK[q]?:=by
  intro q
  rw [mV,List.getElem?_toArray,oB _ _ _ dD]
  simp only [Array.getElem?_toList]
 have uT:cs'.size=tK.size:=by
  rw [mV]
  simp at dD ⊢
  omega
 have eX:(rows.take p++more++rows.drop (p+more.length)).length=rows.length:=by simp;omega
 exact hS.row hk ha h1 (cs':=cs') (ob:=.arr sz (rows.take p++more++rows.drop (p+more.length)) fz ex) (fun J=>⟨by simp,by simp⟩) (fun q hq=>by
  have:=(h7 q).1 hq
  rw [gA,if_pos (Nat.lt_of_lt_of_le this (Nat.mul_le_mul_right sz hf))]) (fun hL=>by
  refine⟨cs',lj,setRow_heap w _ tK cs' lj (0,0) h1,uT.trans h2,by rw [eX];exact h3,fun h=>by rw [eX];exact h4 h,fun i row hi=>?_,by rw [eX];exact h6,h7⟩
  rw [oB _ _ _ hp] at hi
  split at hi
  ·rename_i c1
   refine⟨(h5 i row hi).1,fun j a bL=>?_⟩
   obtain⟨x,hx,cK⟩:=(h5 i row hi).2 j a bL
   have hj:j < sz:=by rw [<-(h5 i row hi).1];exact (List.getElem?_eq_some_iff.1 bL).1
   exact⟨x,by rw [gA,if_pos (iT c1 hj)];exact hx,cK.later hL⟩
  ·rename_i c1
   split at hi
   ·rename_i c2
    have eX:=hl row (List.mem_of_getElem? hi)
    refine⟨eX,fun j a bL=>?_⟩
    obtain⟨x,hx,cK⟩:=hr _ row j a hi bL
    have aB:=(List.getElem?_eq_some_iff.1 hx).1
    have e:i*sz=p*sz+(i - p)*sz:=by rw [<-Nat.add_mul];congr 1;omega
    exact⟨x,by rw [gA,if_neg (by omega),if_pos (by omega),show i*sz+j - p*sz=(i - p)*sz+j by omega];exact hx,cK.later hL⟩
   ·rename_i c2
    refine⟨(h5 i row hi).1,fun j a bL=>?_⟩
    obtain⟨x,hx,cK⟩:=(h5 i row hi).2 j a bL
    have e:p*sz+news.length<=i*sz:=by rw [hn,<-Nat.add_mul];exact Nat.mul_le_mul_right sz (by omega)
    exact⟨x,by rw [gA,if_neg (by omega),if_neg (by omega)];exact hx,cK.later hL⟩)
theorem kg {t e:TypeId}(h:eu P t=some e):P.underlying t=some (.slice e):=by
 unfold eu at h
 split at h
 ·obtain rfl:=Option.some.inj h;assumption
 ·cases h
theorem wK {sz:Nat}{a b:QO}{o:Op}(h:res P.toTables o=some (.copy sz a b)):∃ c t t2 u v e e2,o=.call c/\c.callee=.builtin .copy/\c.argTypes=#[t,t2]/\c.args=#[u,v]/\a=qo u/\b=qo v/\eu P t=some e/\eu P t2=some e2/\bZ P e=some sz:=by
 cases o<;>simp only [res,ic,cL] at h<;>(repeat' split at h)<;>(try cases h)
 exact⟨_,_,_,_,_,_,_,rfl,by assumption,by rw [<-Array.toArray_toList (xs:=Call.argTypes _)];congr,by rw [<-Array.toArray_toList (xs:=Call.args _)];congr,rfl,rfl,by assumption,by assumption,by assumption⟩
theorem zV (w:World) (t t2 ty e:TypeId) (i:TypeInfo) (ht:P.underlying t=some (.slice e)) (hi:P.info? e=some i) (d a:Option Addr) (dl dc c:Nat):(Builtin.copy_ #[t,t2] ty #[.slice d dl dc,.slice a 0 c]).run P w=.ok (goInt 0) w:=by
 have hl:∀ (x:Addr),(loadCells x 0).run P w=.ok #[] w:=fun x=>by simpa using run_loadCells_list (P:=P) w x [] (by simp)
 cases d<;>cases a<;>simp [Builtin.copy_,run_underlying ht,Builtin.lenOf,Builtin.firstCells,sizeOf,typeInfo,hi,storeCells,hl]
theorem JD (w:World) (t t2 ty e lj:TypeId) (i:TypeInfo) (ht:P.underlying t=some (.slice e)) (hi:P.info? e=some i) (g q dl dc:Nat) (cur:Array Value) (hg:w.heap[g]?=some (.cells cur lj (0,0)))
  (a:Addr) (m c:Nat) (news:List Value) (hl:news.length=m*i.size) (ou:∀ j u,news[j]?=some u->w.cell? (a.add j)=some u) (h1:∀ u ∈ news,u.oneCell'=true) (hle:m<=dl) (dD:q+news.length<=cur.size) :
  (Builtin.copy_ #[t,t2] ty #[.slice (some ⟨g,q,none⟩) dl dc,.slice (some a) m c]).run P w=.ok (goInt m) (w.setRow g (cur.toList.take q++news++cur.toList.drop (q+news.length)).toArray):=by
 have hf:=run_firstCells_some (P:=P) w i.size m a m c news hl ou
 have jS:=run_storeCells_at P g q lj news 0 cur w hg (by simpa using dD) h1
 simp only [Nat.add_zero] at jS
 have hn:Nat.min m dl=m:=Nat.min_eq_left hle
 simp [Builtin.copy_,run_underlying ht,sizeOf,typeInfo,hi,Builtin.lenOf,hn,hf,jS]
theorem ad.aay {sz k sz' off len:Nat}{cx:Option Nat}{a b:QO}(hx:a.ev α.tm=.ob k sz' off len cx) (hm:cI S (b.ev α.tm)=some []):ad P w0 false (.copy sz a b) α S (.v (.int .i64 0)) S:=ad.run fun n o hr=>by
 obtain⟨c,t,t2,u,v,e,e2,ho,hc,eO,aT,rfl,rfl,ht,dQ,hs⟩:=wK hr
 rw [aD] at hx hm
 obtain⟨hm,hlen⟩:=cG hm
 have ht:=kg ht
 obtain⟨i,hi,aZ⟩:=gz hs
 intro A g q w hS hA
 have g1:=hA.ev u
 have g2:=hA.ev v
 rw [hx] at g1
 obtain⟨cc,e1,_⟩:=fj g1
 obtain⟨B,c2,e3⟩:=mq (by simpa using hlen) hm g2
 refine⟨_,_,g,.inl ?_,.v,hS,.refl _ _ _⟩
 have bw:(execOp q.eval o).run P w=((Builtin.copy_ #[t,t2] o.type #[q.eval u,q.eval v]).run P w).andThen fun v w'=>.ok (.value v) w':=by
  simp [execOp,ho,resolve,hc,eO,aT,invoke,builtin]
 rw [bw,e1,e3,zV w t t2 o.type e i ht hi]
 rfl
theorem ad.aaz {dr:Bool}{sz:Nat}{e1 e2:Bool}{a b:QO}(hx:a.ev α.tm=.sl e1 []) (hy:b.ev α.tm=.sl e2 []):ad P w0 dr (.copy sz a b) α S (.v (.int .i64 0)) S:=by
 have key:∀ (α:AA) (S:aa) (n:Nat) (o:Oper) (c:Call) (t t2:TypeId) (u v:Operand) (e:TypeId),o.op=.call c->c.callee=.builtin .copy->c.argTypes=#[t,t2]->c.args=#[u,v]->eu P t=some e->bZ P e=some sz->α.ev u=.sl e1 []->α.ev v=.sl e2 []->aI P w0 n o α S (.v (.int .i64 0)) S:=by
  intro α S n o c t t2 u v e ho hc eO aT ht hs hx hy
  have ht:=kg ht
  obtain⟨i,hi,aZ⟩:=gz hs
  intro A g q w hS hA
  have g1:=hA.ev u
  have g2:=hA.ev v
  rw [hx] at g1
  rw [hy] at g2
  obtain⟨B1,c1,f1⟩:=mq (S:=aa.none_) rfl rfl g1
  obtain⟨B2,c2,f2⟩:=mq (S:=aa.none_) rfl rfl g2
  refine⟨_,_,g,.inl ?_,.v,hS,.refl _ _ _⟩
  have bw:(execOp q.eval o).run P w=((Builtin.copy_ #[t,t2] o.type #[q.eval u,q.eval v]).run P w).andThen fun v w'=>.ok (.value v) w':=by
   simp [execOp,ho,resolve,hc,eO,aT,invoke,builtin]
  rw [bw,f1,f2,zV w t t2 o.type e i ht hi]
  rfl
 have go:∀ (n:Nat) (o:Oper),res P.toTables o.op=some (.copy sz a b)->de P w0 n o (α.only (bU o)) S (.v (.int .i64 0)) S/\(∀ T,de P w0 n o (α.only (bU o)) T (.v (.int .i64 0)) T)/\de P w0 n o α S (.v (.int .i64 0)) S:=by
  intro n o hr
  obtain⟨c,t,t2,u,v,e,Zt,ho,hc,eO,aT,rfl,rfl,ht,dQ,hs⟩:=wK hr
  rw [aD] at hx hy
  have e:∀ z ∈ [u,v],(α.only (bU o)).ev z=α.ev z:=fun z hz=>dM fun t ht=>dA (by rw [ho];simp only [Op.operands,Call.operands,aT,<-ht];simp at hz ⊢;rcases hz with rfl|rfl<;>simp)
  have hd:∀ c,o.op ≠ .defer c:=fun c e=>by rw [ho] at e;cases e
  exact⟨(key _ _ n o c t t2 u v _ ho hc eO aT ht hs (by rw [e u (by simp)];exact hx) (by rw [e v (by simp)];exact hy)).ops hd,fun T=>(key _ _ n o c t t2 u v _ ho hc eO aT ht hs (by rw [e u (by simp)];exact hx) (by rw [e v (by simp)];exact hy)).ops hd,(key _ _ n o c t t2 u v _ ho hc eO aT ht hs hx hy).ops hd⟩
 cases dr with
 |false=>exact fun n o hr=>(go n o hr).2.2
 |true=>exact fun n o hr=>⟨(go n o hr).1,fun _=>⟨rfl,(go n o hr).2.1⟩,fun _=>rfl⟩
theorem ad.cpy {sz k off len fz:Nat}{cx:Option Nat}{a b:QO}{rows more:List (List AV)}{x:List AV}{ex:Bool}(hx:a.ev α.tm=.ob k sz off len cx) (hk:S.get k=some (.arr sz rows fz ex)) (hm:cI S (b.ev α.tm)=some (x::more)) (hle:(x::more).length<=len) (jv:off+len<=rows.length) (hf:fz<=off)
  (h3:∀ row ∈ x::more,row.length=sz/\row.all bl=true):ad P w0 false (.copy sz a b) α S (.v (.int .i64 (x::more).length)) (S.set k (some (.arr sz (rows.take off++(x::more)++rows.drop (off+(x::more).length)) fz ex))):=ad.run fun n o hr=>by
 obtain⟨c,t,t2,u,v,e,e2,ho,hc,eO,aT,rfl,rfl,ht,dQ,hs⟩:=wK hr
 rw [aD] at hx hm
 obtain⟨hm,hlen⟩:=cG hm
 have ht:=kg ht
 obtain⟨i,hi,aZ⟩:=gz hs
 intro A g q w hS hA
 have g1:=hA.ev u
 have g2:=hA.ev v
 rw [hx] at g1
 obtain⟨cc,e1,aH,_,_,_,_⟩:=fj g1
 obtain⟨b2,q2,c2,news,e3,Fj,iU⟩:=kC hS hm g2 (by simp) (fun r hr=>(h3 r hr).1) hlen
 obtain⟨k2,k3,cs,lj,p1,p2,p3,p4,p5,p6,p7⟩:=hS.bj k _ hk aH
 have zD:off*sz+(x::more).length*sz<=g.cp k*sz:=by rw [<-Nat.add_mul];exact Nat.mul_le_mul_right sz (by omega)
 have dD:off*sz+news.length<=cs.size:=by rw [iU.1,p2];omega
 have bw:=JD (P:=P) w t t2 o.type e lj i ht hi (g.ob k) (off*sz) len cc cs p1 ⟨b2,q2,none⟩ (x::more).length c2 news (by rw [iU.1,aZ]) iU.2.1 (wL iU h3) hle dD
 obtain⟨hE,b_⟩:=hS.yN (p:=off) (more:=x::more) (news:=news) hk aH p1 (fun r hr=>(h3 r hr).1) iU.1 (fun i row j a hi ha=>iU.2.2 i row hi j a ha) (by omega) hf
 refine⟨_,_,g,.inl ?_,.v,b_,hE⟩
 have hx:(execOp q.eval o).run P w=((Builtin.copy_ #[t,t2] o.type #[q.eval u,q.eval v]).run P w).andThen fun v w'=>.ok (.value v) w':=by
  simp [execOp,ho,resolve,hc,eO,aT,invoke,builtin]
 rw [hx,e1,e3,bw]
 rfl
theorem Dl {t e:TypeId}{l c:Operand}{z:Value}{sz by_:Nat}{ka kb:IntKind}{a b:Int}(ho:o.op=.makeSlice t l c) (ht:P.underlying t=some (.slice e)) (hz:b8 P e=some z) (hs:bZ P e=some sz) (ja:fe P e=some by_)
  (jN:z.cells.size=sz) (hs0:0 < sz) (hl:α.ev l=.v (.int ka a)) (hc:α.ev c=.v (.int kb b)) (h1:0<=a) (h0:a<=b) (h2:b*by_<=35184372088832) (h3:b<=9223372036854775807) :
  aI P w0 n o α S (.ob S.nx sz 0 a.toNat none) (S.new (.arr sz (List.replicate b.toNat (z.cells.toList.map a8)) 0 true)):=by
 intro A g q w hS hA
 obtain⟨i,hi,aZ⟩:=gz hs
 have nV:i.zero=some z:=by unfold b8 at hz;rw [hi] at hz;simpa using hz
 have vE:i.bytes=by_:=by unfold fe at ja;rw [hi] at ja;simpa using ja
 have eX:=hA.ev l
 have xN:=hA.ev c
 rw [hl] at eX
 rw [hc] at xN
 have eX:=bg eX
 have xN:=bg xN
 have bw:=run_make (P:=P) w t e i z ht hi nV ka kb a b h1 h0 (by rw [vE,Int.mul_comm];omega) h3
 have oW:∀ q,¬ g.fz w.heap.size q:=fun q hf=>absurd (hS.bM _ _ hf) (Nat.lt_irrefl _)
 obtain⟨hE,b_⟩:=hS.new (.cells (madeCells z.cells (b.toNat*i.size)) e) (.arr sz (List.replicate b.toNat (z.cells.toList.map a8)) 0 true) b.toNat (fun J=>by simp) (fun hL=>by
  refine⟨_,e,ct,?_,by simp,fun _=>by simp,fun m row hr=>?_,Nat.zero_le _,fun q=>⟨fun h=>absurd h (oW q),fun h=>by simp at h⟩⟩
  ·rw [size_madeCells,aZ]
  ·obtain⟨eL,rfl⟩:=List.getElem?_eq_some_iff.1 hr
   simp only [List.length_replicate] at eL
   simp only [List.getElem_replicate]
   refine⟨by simp [jN],fun j b' hj=>?_⟩
   simp only [List.getElem?_map,Option.map_eq_some_iff] at hj
   obtain⟨y,hy,rfl⟩:=hj
   have sF:j < sz:=by
    have:=(List.getElem?_eq_some_iff.1 hy).1
    simp at this
    omega
   refine⟨y,?_,iZ y⟩
   have aB:m*sz+j < b.toNat*sz:=iT eL sF
   have dK:j < z.cells.size:=by omega
   have e1:(m*sz+j) % z.cells.size=j:=by
    rw [jN,Nat.mul_comm,Nat.mul_add_mod]
    exact Nat.mod_eq_of_lt sF
   have e2:(madeCells z.cells (b.toNat*i.size))[m*sz+j]?=some (z.cells[(m*sz+j) % z.cells.size]!):=by
    unfold madeCells
    rw [Array.getElem?_map,Array.getElem?_range,if_pos (by rw [aZ];exact aB)]
    rfl
   rw [e2,e1,getElem!_pos z.cells j dK,<-hy,Array.getElem?_toList,Array.getElem?_eq_getElem dK])
 refine⟨.slice (some ⟨w.heap.size,0,none⟩) a.toNat b.toNat,_,_,.inl ?_,?_,b_,hE⟩
 ·simp only [execOp,ho,eX,xN,Sem.run_bind,bw]
  rfl
 ·have:=aA.ob (g:=g.new S.nx w.heap.size b.toNat) (w:=w.alloc (.cells (madeCells z.cells (b.toNat*i.size)) e)) (k:=S.nx) (sz:=sz) (off:=0) (len:=a.toNat) (c:=b.toNat) (cx:=none) (.inr rfl) (fun m h=>by cases h)
   (by rw [Nat.zero_add];exact Nat.le_of_eq (ah _ _ _).symm) (fun _=>by rw [Nat.zero_add];exact (ah _ _ _).symm) (by omega)
  rw [show (g.new S.nx w.heap.size b.toNat).ob S.nx=w.heap.size from ah _ _ _,Nat.zero_mul] at this
  exact this
theorem ad.aaA {z:List AV}{by_:Nat}{l c:QO}{k k':IntKind}{a b:Int}(h1:l.ev α.tm=.v (.int k a)) (h2:c.ev α.tm=.v (.int k' b)) (h3:0<=a) (h4:a<=b) (h5:b*by_<=35184372088832) (h6:b<=9223372036854775807) :
  ad P w0 false (.g7 z by_ l c) α S (.ob S.nx z.length 0 a.toNat none) (S.new (.arr z.length (List.replicate b.toNat z) 0 true)):=ad.run fun n o hr=>by
 obtain⟨t,u,v,e,zv,sz,ho,rfl,rfl,e1,e2,e3,e4,rfl,e5,e6⟩:=DM hr
 have hz:(zv.cells.toList.map a8).length=sz:=by rw [<-Nat.eq_of_beq_eq_true e5];simp
 rw [aD] at h1 h2
 rw [hz]
 exact Dl ho (kg e1) e2 e3 e4 (Nat.eq_of_beq_eq_true e5) (Nat.le_of_ble_eq_true e6) h1 h2 h3 h4 h5 h6
theorem ad.aaB {sz by_ k fz len:Nat}{ex:Bool}{a b:QO}{rows more:List (List AV)}{x:List AV}(h1:a.ev α.tm=.ob k sz 0 len none) (hk:S.get k=some (.arr sz rows fz ex)) (hm:cI S (b.ev α.tm)=some (x::more)) (h0:fz<=len) (h2:len+(x::more).length<=rows.length)
  (h3:∀ row ∈ x::more,row.length=sz/\row.all bl=true) :
  ad P w0 false (.append sz by_ a b) α S (.ob k sz 0 (len+(x::more).length) none) (S.set k (some (.arr sz (rows.take len++(x::more)++rows.drop (len+(x::more).length)) fz ex))):=ad.run fun n o hr=>by
 obtain⟨c,t,t2,u,v,e,e2,z,ho,hc,eO,aT,rfl,rfl,ht,dQ,hz,hs,ja,jN,Zu⟩:=kA hr
 rw [aD] at h1 hm
 obtain⟨hm,hlen⟩:=cG hm
 have eO:c.argTypes=#[t,t2]:=by rw [<-Array.toArray_toList (xs:=c.argTypes),eO]
 have aT:c.args=#[u,v]:=by rw [<-Array.toArray_toList (xs:=c.args),aT]
 have ht:=kg ht
 have dQ:=kg dQ
 intro A g q w hS hA
 have g1:=hA.ev u
 have g2:=hA.ev v
 rw [h1] at g1
 obtain⟨cc,e1,aH,kM,mI,Zv,hle⟩:=fj g1
 obtain⟨b2,q2,c2,news,e3,Fj,iU⟩:=kC hS hm g2 (by simp) (fun r hr=>(h3 r hr).1) hlen
 obtain⟨k2,k3,cs,lj,p1,p2,p3,p4,p5,p6,p7⟩:=hS.bj k _ hk aH
 obtain⟨i,hi,aZ⟩:=gz hs
 have R_:=Zv rfl
 have iM:len+(x::more).length<=cc:=by omega
 have zD:len*sz+(x::more).length*sz<=g.cp k*sz:=by rw [<-Nat.add_mul];exact Nat.mul_le_mul_right sz (by omega)
 have dD:0+len*i.size+news.length<=cs.size:=by rw [iU.1,p2,aZ];omega
 have bw:=oX (P:=P) w t o.type e lj i ht hi (g.ob k) 0 len cc cs p1 ⟨b2,q2,none⟩ (x::more).length c2 news (by rw [iU.1,aZ]) iU.2.1 (wL iU h3) iM dD
 simp only [Nat.zero_add,aZ] at bw dD
 obtain⟨hE,b_⟩:=hS.yN (p:=len) (more:=x::more) (news:=news) hk aH p1 (fun r hr=>(h3 r hr).1) iU.1 (fun i row j a hi ha=>iU.2.2 i row hi j a ha) h2 h0
 refine⟨.slice (some ⟨g.ob k,0,none⟩) (len+(x::more).length) cc,_,g,.inl ?_,?_,b_,hE⟩
 ·have hx:(execOp q.eval o).run P w=((Builtin.append_ #[t,t2] o.type #[q.eval u,q.eval v]).run P w).andThen fun v w'=>.ok (.value v) w':=by
   simp [execOp,ho,resolve,hc,eO,aT,invoke,builtin]
  rw [hx,e1,e3,mu ht dQ,Nat.zero_mul,bw]
  rfl
 ·have:=aA.ob (g:=g) (w:=w.setRow (g.ob k) (cs.toList.take (len*sz)++news++cs.toList.drop (len*sz+news.length)).toArray) (k:=k) (sz:=sz) (off:=0) (len:=len+(x::more).length) (c:=cc) (cx:=none) aH (fun m h=>by cases h) mI Zv iM
  rw [Nat.zero_mul] at this
  exact this
end
section
variable {P:Program}{w0:World}{n:Nat}{o:Oper}{α:AA}{S S':aa}{r:AV}
theorem St.uU {A:Nat->Prop}{g:Gh}{w:World}{k:Nat}{ob:Ob}{es':List (Value × AV)}{entries entries':Array MapEntry}{clock:Nat}(hS:St w0 A g S w) (hk:S.get k=some ob) (qp:∀ J,ob ≠ .fo J) (ha:g.al k) (hm:w.heap[g.ob k]?=some (.map entries clock))
  (aZ:entries'.size=es'.length) (he:∀ (i:Nat) (k:Value) (a:AV),es'[i]?=some (k,a)->∃ e:MapEntry,entries'[i]?=some e/\e.key=k/\aA g w a e.val) (hb:∀ (i:Nat) (e:MapEntry),entries'[i]?=some e->e.born=i) :
  ∃ w',(setObj (g.ob k) (.map entries' entries'.size)).run P w=.ok () w'/\St w0 A g (S.set k (some (.mb es'))) w'/\Ext A g w g w':=by
 have aB:=(hS.bj k _ hk ha).2.1
 have om:({ w with heap:=w.heap.setIfInBounds (g.ob k) (.map entries' entries'.size) }:World).heap[g.ob k]?=some (.map entries' entries'.size):=by simp [Array.getElem?_setIfInBounds,aB]
 obtain⟨h1,h2⟩:=hS.putObj (ob:=.mb es') hk ha (fun J=>⟨qp J,by simp⟩) (x':=.map entries' entries'.size) rfl (fun q=>by simp only [World.cell?,om,hm]) (fun hL sW=>⟨entries',sW,aZ,fun i key a hi=>by
  obtain⟨e,q1,q2,q3⟩:=he i key a hi
  exact⟨e,q1,q2,q3.later hL⟩,hb⟩)
 exact⟨_,by simp [setObj,Sem.run,hm],h2,h1⟩
theorem Fk {t:TypeId}(ho:o.op=.makeMap t none):aI P w0 n o α S (.mp S.nx) (S.new (.mb [])):=by
 intro A g q w hS hA
 obtain⟨h1,h2⟩:=hS.new (.map #[] 0) (.mb []) 0 (fun J=>by simp) (fun hL=>⟨#[],ct,rfl,(fun i k a h=>by simp at h),fun i e h=>by simp at h⟩)
 have hr:=aA.mp (g:=g.new S.nx w.heap.size 0) (w:=w.alloc (.map #[] 0)) (k:=S.nx) (.inr rfl)
 rw [show (g.new S.nx w.heap.size 0).ob S.nx=w.heap.size from ah _ _ _] at hr
 refine⟨_,_,_,.inl ?_,hr,h2,h1⟩
 simp [execOp,ho,Instr.makeMap,newObj,Sem.run]
theorem ad.xO:ad P w0 false (.ft none) α S (.mp S.nx) (S.new (.mb [])):=ad.run fun n o hr=>by
 obtain⟨t,y,kt,et,ho,hy,hu⟩:=tg hr
 cases y with
 |some y=>cases hy
 |none=>exact Fk ho
theorem ad.mw {z:AV}{c:Bool}{x i:QO}{k:Nat}{es:List (Value × AV)}{m:Int}(hx:x.ev α.tm=.mp k) (hS:S.get k=some (.mb es)) (hk:ji es) (hi:i.ev α.tm=.v (.int .i64 m)) :
  ad P w0 false (.look z c x i) α S (match lu es m with|some a=>(if c then .aC [a,.v (.bool true)] else a)|none=>(if c then .aC [z,.v (.bool false)] else z)) S:=ad.run fun n o hr=>by
 obtain⟨t,u,v,kt,et,kk,zv,ho,rfl,rfl,h1,h2,h3,rfl⟩:=wc hr
 rw [aD] at hx hi
 exact sQ ho h1 h2 h3 hx (fun A g w b_ aH=>by
  obtain⟨_,_,entries,q1,q2,q3,_⟩:=b_.bj k _ hS aH
  exact⟨entries,_,q1,q2,q3⟩) hk hi
theorem JE {t kt et:TypeId}{kk:IntKind}{x i y:Operand}{k:Nat}{es:List (Value × AV)}{m:Int}{b:AV}(ho:o.op=.mapUpdate t x i y) (ht:P.underlying t=some (.map kt et)) (kY:P.underlying kt=some (.int kk))
  (hx:α.ev x=.mp k) (hS:S.get k=some (.mb es)) (hk:ji es) (hi:α.ev i=.v (bC m)) (hy:α.ev y=b):aI P w0 n o α S (.v undef) (S.set k (some (.mb (pX es m b)))):=by
 intro A g q w b_ hA
 have h1:=hA.ev x
 have h2:=hA.ev i
 have h3:=hA.ev y
 rw [hx] at h1
 rw [hi] at h2
 rw [hy] at h3
 obtain⟨e1,aH⟩:=kX h1
 have e2:=bg h2
 obtain⟨v,hv⟩:∃ v,q.eval y=v:=⟨_,rfl⟩
 rw [hv] at h3
 obtain⟨_,_,entries,p1,p2,p3,p4⟩:=b_.bj k _ hS aH
 have hf:=sP p2 p3 hk (kk:=kk) m
 unfold pX
 cases hj:fJ es m with
 |none =>
  rw [hj] at hf
  obtain⟨w',q1,q2,q3⟩:=b_.uU (P:=P) hS (fun J=>by simp) aH p1 (entries':=entries.push { key:=bC m,val:=v,born:=entries.size }) (es':=es++[(bC m,b)]) (by simp [p2]) (fun i key a hi=>by
   by_cases c:i < es.length
   ·rw [List.getElem?_append_left c] at hi
    obtain⟨e,r1,r2,r3⟩:=p3 i key a hi
    exact⟨e,by rw [Array.getElem?_push_lt (by omega)];rw [Array.getElem?_eq_getElem (by omega)] at r1;exact r1,r2,r3⟩
   ·rw [List.getElem?_append_right (by omega)] at hi
    have AZ:i=es.length:=by
     have:=(List.getElem?_eq_some_iff.1 hi).1
     simp at this;omega
    subst AZ
    simp at hi
    obtain⟨rfl,rfl⟩:=hi
    exact⟨{ key:=bC m,val:=v,born:=entries.size },by rw [<-p2];simp,rfl,h3⟩) (fun i e he=>by
   rw [Array.getElem?_push] at he
   split at he
   ·rename_i e';rw [<-Option.some.inj he,e']
   ·exact p4 i e he)
  refine⟨undef,w',g,.inr ⟨?_,rfl⟩,.v,q2,q3⟩
  simp only [Array.size_push] at q1
  simp only [execOp,ho,e1,e2,hv,Instr.mapUpdate,Sem.run_bind,run_underlying ht,Result.andThen_ok,dg p1,run_checkKey kY,run_findKey kY hf,q1,Sem.run_pure]
 |some j =>
  obtain⟨a,ha⟩:=oz hk hj
  obtain⟨e,r1,r2,r3⟩:=p3 j _ a ha
  rw [hj] at hf
  simp only [r1,Option.map_some] at hf
  have eJ:j < entries.size:=(Array.getElem?_eq_some_iff.1 r1).1
  obtain⟨w',q1,q2,q3⟩:=b_.uU (P:=P) hS (fun J=>by simp) aH p1 (entries':=entries.modify j fun e=>{ e with key:=bC m,val:=v }) (es':=es.set j (bC m,b)) (by simp [p2]) (fun i key a' hi=>by
   rw [List.getElem?_set] at hi
   by_cases c:j=i
   ·subst c
    rw [if_pos rfl,if_pos (by omega)] at hi
    simp only [Option.some.injEq,Prod.mk.injEq] at hi
    obtain⟨rfl,rfl⟩:=hi
    exact⟨{ e with key:=bC m,val:=v },by rw [Array.getElem?_modify,if_pos rfl,r1];rfl,rfl,h3⟩
   ·rw [if_neg c] at hi
    obtain⟨e',s1,s2,s3⟩:=p3 i key a' hi
    exact⟨e',by rw [Array.getElem?_modify,if_neg c];exact s1,s2,s3⟩) (fun i e' he=>by
   rw [Array.getElem?_modify] at he
   split at he
   ·rename_i c
    subst c
    rw [r1] at he
    obtain rfl:=Option.some.inj he
    exact p4 j e r1
   ·exact p4 i e' he)
  refine⟨undef,w',g,.inr ⟨?_,rfl⟩,.v,q2,q3⟩
  have jS:(Instr.keyThatStays (((entries[j]?).map (·.key)).getD (bC m)) (bC m)).run P w=.ok (bC m) w:=by
   rw [r1]
   simp [Instr.keyThatStays,r2,Instr.sameBits,bC]
  simp only [Array.size_modify] at q1
  simp only [execOp,ho,e1,e2,hv,Instr.mapUpdate,Sem.run_bind,run_underlying ht,Result.andThen_ok,dg p1,run_checkKey kY,run_findKey kY hf,jS,q1,Sem.run_pure]
theorem ad.pL {x i b:QO}{k:Nat}{es:List (Value × AV)}{m:Int}{a:AV}(hx:x.ev α.tm=.mp k) (hS:S.get k=some (.mb es)) (hk:ji es) (hi:i.ev α.tm=.v (.int .i64 m)) (hb:b.ev α.tm=a) :
  ad P w0 false (.gQ x i b) α S (.v undef) (S.set k (some (.mb (pX es m a)))):=ad.run fun n o hr=>by
 obtain⟨t,u,v,y,kt,et,kk,ho,rfl,rfl,rfl,h1,h2⟩:=we hr
 rw [aD] at hx hi hb
 exact JE ho h1 h2 hx hS hk hi hb
theorem Ls {o:Op}{z:AV}{x i:QO}(h:res P.toTables o=some (.rb z x i)):∃ t u v kt et kk zv,o=.mapEntry t u v/\x=qo u/\i=qo v/\P.underlying t=some (.map kt et)/\P.underlying kt=some (.int kk)/\b8 P et=some zv/\z=lift zv:=by
 cases o with
 |mapEntry t u v =>
  simp only [res,a7,eK] at h
  split at h
  ·rename_i kt et hu
   split at h
   ·rename_i kk zv hk hz
    simp only [Option.some.injEq,cB.rb.injEq] at h
    obtain⟨rfl,rfl,rfl⟩:=h
    exact⟨_,_,_,_,_,_,_,rfl,rfl,rfl,hu,hk,hz,rfl⟩
   all_goals cases h
  ·cases h
 |_ =>
  simp only [res] at h
  repeat' split at h
  all_goals cases h
theorem Lt {o:Op}{x i b:QO}(h:res P.toTables o=some (.re x i b)):∃ t u v y,o=.entryStore t u v y/\x=qo u/\i=qo v/\b=qo y:=by
 cases o with
 |entryStore t u v y =>
  simp only [res,a7] at h
  split at h
  ·split at h
   ·simp only [Option.some.injEq,cB.re.injEq] at h
    obtain⟨rfl,rfl,rfl⟩:=h
    exact⟨_,_,_,_,rfl,rfl,rfl,rfl⟩
   all_goals cases h
  ·cases h
 |_ =>
  simp only [res] at h
  repeat' split at h
  all_goals cases h
theorem Lu {t kt et:TypeId}{kk:IntKind}{u v:Operand}{zv:Value}{k:Nat}{es:List (Value × AV)}{m:Int}(ho:o.op=.mapEntry t u v) (ht:P.underlying t=some (.map kt et)) (kY:P.underlying kt=some (.int kk)) (hz:b8 P et=some zv)
  (hx:α.ev u=.mp k) (hS:S.get k=some (.mb es)) (hk:ji es) (hi:α.ev v=.v (.int .i64 m)) (hn:lu es m=none) :
  aI P w0 n o α S (.aC [lift zv,.v (.int .i64 es.length)]) (S.set k (some (.mb (es++[(bC m,lift zv)])))):=by
 intro A g q w b_ hA
 have h1:=hA.ev u
 have h2:=hA.ev v
 rw [hx] at h1
 rw [hi] at h2
 obtain⟨e1,aH⟩:=kX h1
 have e2:=bg h2
 obtain⟨_,_,entries,p1,p2,p3,p4⟩:=b_.bj k _ hS aH
 have hf:=sP p2 p3 hk (kk:=kk) m
 have hj:fJ es m=none:=by
  unfold lu at hn
  cases hj:fJ es m with
  |none=>rfl
  |some j =>
   obtain⟨a,ha⟩:=oz hk hj
   rw [hj] at hn
   simp [ha] at hn
 rw [hj] at hf
 obtain⟨w',q1,q2,q3⟩:=b_.uU (P:=P) hS (fun J=>by simp) aH p1 (entries':=entries.push { key:=bC m,val:=zv,born:=entries.size }) (es':=es++[(bC m,lift zv)]) (by simp [p2]) (fun i key a hi=>by
  by_cases c:i < es.length
  ·rw [List.getElem?_append_left c] at hi
   obtain⟨e,r1,r2,r3⟩:=p3 i key a hi
   exact⟨e,by rw [Array.getElem?_push_lt (by omega)];rw [Array.getElem?_eq_getElem (by omega)] at r1;exact r1,r2,r3⟩
  ·rw [List.getElem?_append_right (by omega)] at hi
   have AZ:i=es.length:=by
    have:=(List.getElem?_eq_some_iff.1 hi).1
    simp at this;omega
   subst AZ
   simp at hi
   obtain⟨rfl,rfl⟩:=hi
   exact⟨{ key:=bC m,val:=zv,born:=entries.size },by rw [<-p2];simp,rfl,oG zv⟩) (fun i e he=>by
  rw [Array.getElem?_push] at he
  split at he
  ·rename_i e';rw [<-Option.some.inj he,e']
  ·exact p4 i e he)
 refine⟨.tuple #[zv,goInt entries.size],w',g,.inl ?_,?_,q2,q3⟩
 ·simp only [Array.size_push] at q1
  have hck:(Instr.checkKey false 10000 kt (bC m)).run P w=.ok () w:=run_checkKey kY false m
  have hfk:(Instr.findKey kt (bC m) entries.toList).run P w=.ok none w:=run_findKey kY hf
  have e2:q.eval v=bC m:=e2
  simp only [execOp,ho,e1,e2,Instr.mapEntry,Sem.run_bind,run_underlying ht,Result.andThen_ok,dg p1,hck,hfk,iX hz,q1,Sem.run_pure]
 ·refine .aC rfl fun i a x ha hx=>?_
  match i with
  |0=>simp at ha hx;subst ha hx;exact oG zv
  |1=>simp at ha hx;subst ha hx;rw [p2];exact .v
  |i+2=>simp at ha
theorem a_.rb {B:Nat}{z:AV}{x i:QO}{k:Nat}{es:List (Value × AV)}{m:Int}(hx:x.ev α.tm=.mp k) (hS:S.get k=some (.mb es)) (hk:ji es) (hi:i.ev α.tm=.v (.int .i64 m)) (hn:lu es m=none) :
  a_ P w0 B (.rb z x i) α S (.aC [z,.v (.int .i64 es.length)]) ⟨[(k,.mb es)],[(k,some (.mb (es++[(bC m,z)])))],false⟩:=by
 intro n o hr
 obtain⟨t,u,v,kt,et,kk,zv,ho,rfl,rfl,ht,kY,hz,rfl⟩:=Ls hr
 rw [aD] at hx hi
 refine⟨fun hp=>(by rw [ho] at hp;cases hp),(show fu S [(k,.mb es)] from fun p hp=>by simp only [List.mem_singleton] at hp;subst hp;exact hS),fun T _ hT _=>?_⟩
 have e:∀ z ∈ [u,v],(α.only (bU o)).ev z=α.ev z:=fun z hz=>dM fun t ht=>dA (by rw [ho];simp [Op.operands,<-ht];simpa using hz)
 have e1:cJ T [(k,some (.mb (es++[(bC m,lift zv)])))] false=T.set k (some (.mb (es++[(bC m,lift zv)]))):=by cases T;rfl
 rw [e1]
 exact (Lu ho ht kY hz (by rw [e u (by simp)];exact hx) (hT (k,_) (by simp)) hk (by rw [e v (by simp)];exact hi) hn).ops fun c e=>by rw [ho] at e;cases e
theorem Lv {t:TypeId}{u v y:Operand}{k j:Nat}{es:List (Value × AV)}{a:AV}{p:Value × AV}(ho:o.op=.entryStore t u v y) (hx:α.ev u=.mp k) (hS:S.get k=some (.mb es)) (hi:α.ev v=.v (.int .i64 j)) (hb:α.ev y=a) (hj:es[j]?=some p) :
  aI P w0 n o α S (.v undef) (S.set k (some (.mb (es.set j (p.1,a))))):=by
 intro A g q w b_ hA
 have h1:=hA.ev u
 have h2:=hA.ev v
 have h3:=hA.ev y
 rw [hx] at h1
 rw [hi] at h2
 rw [hb] at h3
 obtain⟨e1,aH⟩:=kX h1
 have e2:=bg h2
 obtain⟨vy,hv⟩:∃ v,q.eval y=v:=⟨_,rfl⟩
 rw [hv] at h3
 obtain⟨_,_,entries,p1,p2,p3,p4⟩:=b_.bj k _ hS aH
 obtain⟨pk,pa⟩:=p
 obtain⟨e,r1,r2,r3⟩:=p3 j pk pa hj
 have eJ:j < entries.size:=(Array.getElem?_eq_some_iff.1 r1).1
 have hfi:entries.findIdx? (fun e=>(e.born:Int) == (j:Int))=some j:=by
  rw [Array.findIdx?_eq_some_iff_getElem]
  refine⟨eJ,?_,fun i hi=>?_⟩
  ·have:=p4 j _ (Array.getElem?_eq_getElem eJ)
   simp [this]
  ·have:=p4 i _ (Array.getElem?_eq_getElem (by omega))
   simp [this]
   omega
 obtain⟨w',q1,q2,q3⟩:=b_.uU (P:=P) hS (fun J=>by simp) aH p1 (entries':=entries.modify j fun e=>{ e with val:=vy }) (es':=es.set j (pk,a)) (by simp [p2]) (fun i key a' hi=>by
  rw [List.getElem?_set] at hi
  by_cases c:j=i
  ·subst c
   rw [if_pos rfl,if_pos (by omega)] at hi
   simp only [Option.some.injEq,Prod.mk.injEq] at hi
   obtain⟨rfl,rfl⟩:=hi
   exact⟨{ e with val:=vy },by rw [Array.getElem?_modify,if_pos rfl,r1];rfl,r2,h3⟩
  ·rw [if_neg c] at hi
   obtain⟨e',s1,s2,s3⟩:=p3 i key a' hi
   exact⟨e',by rw [Array.getElem?_modify,if_neg c];exact s1,s2,s3⟩) (fun i e' he=>by
  rw [Array.getElem?_modify] at he
  split at he
  ·rename_i c
   subst c
   rw [r1] at he
   obtain rfl:=Option.some.inj he
   exact p4 j e r1
  ·exact p4 i e' he)
 refine⟨undef,w',g,.inr ⟨?_,rfl⟩,.v,q2,q3⟩
 simp only [Array.size_modify] at q1
 simp only [execOp,ho,e1,e2,hv,Instr.entryStore,Sem.run_bind,Sem.run_pure,Result.andThen_ok,dg p1,asInt,asIntOf,hfi,q1]
theorem a_.re {B:Nat}{x i b:QO}{k j:Nat}{es:List (Value × AV)}{a:AV}{p:Value × AV}(hx:x.ev α.tm=.mp k) (hS:S.get k=some (.mb es)) (hi:i.ev α.tm=.v (.int .i64 j)) (hb:b.ev α.tm=a) (hj:es[j]?=some p) :
  a_ P w0 B (.re x i b) α S (.v undef) ⟨[(k,.mb es)],[(k,some (.mb (es.set j (p.1,a))))],false⟩:=by
 intro n o hr
 obtain⟨t,u,v,y,ho,rfl,rfl,rfl⟩:=Lt hr
 rw [aD] at hx hi hb
 refine⟨fun hp=>(by rw [ho] at hp;cases hp),(show fu S [(k,.mb es)] from fun p hp=>by simp only [List.mem_singleton] at hp;subst hp;exact hS),fun T _ hT _=>?_⟩
 have e:∀ z ∈ [u,v,y],(α.only (bU o)).ev z=α.ev z:=fun z hz=>dM fun t ht=>dA (by rw [ho];simp [Op.operands,<-ht];simpa using hz)
 have e1:cJ T [(k,some (.mb (es.set j (p.1,a))))] false=T.set k (some (.mb (es.set j (p.1,a)))):=by cases T;rfl
 rw [e1]
 exact (Lv ho (by rw [e u (by simp)];exact hx) (hT (k,_) (by simp)) (by rw [e v (by simp)];exact hi) (by rw [e y (by simp)];exact hb) hj).ops fun c e=>by rw [ho] at e;cases e
end
section
variable {P:Program}{w0:World}{rd:Bool}{n B:Nat}{α:AA}{S S':aa}{Q:Exit->AA->aa->Prop}{r:AV}{l:List QI}{K:List ig}
variable {ρ:Hd}{T:Type}{f:T->AV}{kv:List (Int × T)}
theorem ab.xO {d:Option Nat}{g:Option (Nat × Bool)}(ρ:Hd) (f:T->AV) (hw:bB α.tm g=some true) (k1:∀ kv:List (Int × T),kv=[]->ab P w0 rd n Q (.aR false l K) (bJ d α (.mp S.nx)) (S.new (.mb (ρ.h (cu f) kv)))):ab P w0 rd n Q (.aR false (⟨d,g,.ft none⟩::l) K) α S:=by
 have h:=k1 [] rfl
 rw [ρ.eq] at h
 exact ab.op (i:=⟨d,g,.ft none⟩) hw ad.xO h
theorem ab.mw {d:Option Nat}{g:Option (Nat × Bool)}{z:AV}{c:Bool}{x i:QO}{k:Nat}{m:Int}(hw:bB α.tm g=some true) (hx:x.ev α.tm=.mp k) (hS:S.get k=some (.mb (ρ.h (cu f) kv))) (hi:i.ev α.tm=.v (.int .i64 m))
  (k1:∀ v,ao kv m=some v->ab P w0 rd n Q (.aR false l K) (bJ d α (if c then .aC [f v,.v (.bool true)] else f v)) S) (k2:ao kv m=none->ab P w0 rd n Q (.aR false l K) (bJ d α (if c then .aC [z,.v (.bool false)] else z)) S) :
  ab P w0 rd n Q (.aR false (⟨d,g,.look z c x i⟩::l) K) α S:=by
 have h:=ad.mw (P:=P) (w0:=w0) (z:=z) (c:=c) hx hS (by rw [ρ.eq];exact lS) hi
 rw [ρ.eq,pz] at h
 refine ab.op (i:=⟨d,g,.look z c x i⟩) hw h ?_
 cases hl:ao kv m with
 |some v=>exact k1 v hl
 |none=>exact k2 hl
theorem ab.pL {d:Option Nat}{g:Option (Nat × Bool)}{x i b:QO}{k:Nat}{m:Int}{v:T}(hw:bB α.tm g=some true) (hx:x.ev α.tm=.mp k) (hS:S.get k=some (.mb (ρ.h (cu f) kv))) (hi:i.ev α.tm=.v (.int .i64 m)) (hb:b.ev α.tm=f v)
  (k1:∀ pA,pA=ee kv m v->ab P w0 rd n Q (.aR false l K) (bJ d α (.v undef)) (S.set k (some (.mb (ρ.h (cu f) pA))))):ab P w0 rd n Q (.aR false (⟨d,g,.gQ x i b⟩::l) K) α S:=by
 have h:=ad.pL (P:=P) (w0:=w0) hx hS (by rw [ρ.eq];exact lS) hi hb
 rw [ρ.eq,wb,<-ρ.eq (cu f)] at h
 exact ab.op (i:=⟨d,g,.gQ x i b⟩) hw h (k1 _ rfl)
theorem ab.Oj {V:List (Nat × Nat)}{lg:List (List Nat × List Nat × Bool)}{rs:List Nat}{d:Option Nat}{g:Option (Nat × Bool)}{z:AV}{x i:QO}{k:Nat}{m:Int}{z0:T}(hw:bB α.tm g=some true) (hx:x.ev α.tm=.mp k) (hS:S.get k=some (.mb (ρ.h (cu f) kv))) (hi:i.ev α.tm=.v (.int .i64 m)) (hz:f z0=z) (hn:ao kv m=none)
  (k1:∀ pA (j:Int),pA=kv++[(m,z0)]->j=kv.length->ab P w0 rd n Q (.dh B V (lg++[([k],[k],false)]) rs l K) (bJ d α (.aC [z,.v (.int .i64 j)])) (cJ S [(k,some (.mb (ρ.h (cu f) pA)))] false)):ab P w0 rd n Q (.dh B V lg rs (⟨d,g,.rb z x i⟩::l) K) α S:=by
 have h:=a_.rb (P:=P) (w0:=w0) (B:=B) (z:=z) hx hS (by rw [ρ.eq];exact lS) hi (by rw [ρ.eq,pz,hn];rfl)
 have k2:=k1 _ _ rfl rfl
 have e:ρ.h (cu f) kv++[(bC m,z)]=ρ.h (cu f) (kv++[(m,z0)]):=by rw [ρ.eq,ρ.eq];simp [cu,hz]
 have e2:(ρ.h (cu f) kv).length=kv.length:=by rw [ρ.eq];simp [cu]
 rw [e,e2] at h
 exact ab.mJ (i:=⟨d,g,.rb z x i⟩) hw h k2
theorem ab.Ol {V:List (Nat × Nat)}{lg:List (List Nat × List Nat × Bool)}{rs:List Nat}{d:Option Nat}{g:Option (Nat × Bool)}{x i b:QO}{k:Nat}{m j:Int}{v z0:T}{vF:List (Int × T)}(hw:bB α.tm g=some true) (hx:x.ev α.tm=.mp k) (hS:S.get k=some (.mb (ρ.h (cu f) kv))) (hi:i.ev α.tm=.v (.int .i64 j)) (hb:b.ev α.tm=f v) (oY:kv=vF++[(m,z0)]) (hj:j=vF.length)
  (k1:∀ pA,pA=vF++[(m,v)]->ab P w0 rd n Q (.dh B V (lg++[([k],[k],false)]) rs l K) (bJ d α (.v undef)) (cJ S [(k,some (.mb (ρ.h (cu f) pA)))] false)):ab P w0 rd n Q (.dh B V lg rs (⟨d,g,.re x i b⟩::l) K) α S:=by
 subst oY hj
 have hl:(cu f vF).length=vF.length:=by simp [cu]
 have e:cu f (vF++[(m,z0)])=cu f vF++[(bC m,f z0)]:=by simp [cu]
 have h:=a_.re (P:=P) (w0:=w0) (B:=B) (p:=(bC m,f z0)) hx hS hi hb (by rw [ρ.eq,e,<-hl];simp)
 have k2:=k1 _ rfl
 have e2:(ρ.h (cu f) (vF++[(m,z0)])).set vF.length (bC m,f v)=ρ.h (cu f) (vF++[(m,v)]):=by
  rw [ρ.eq,ρ.eq,e,<-hl,List.set_append_right _ _ (Nat.le_refl _)]
  simp [cu]
 rw [e2] at h
 exact ab.mJ (i:=⟨d,g,.re x i b⟩) hw h k2
end
end Go.Proofs.YtgjfgekaclobaaaGreat
