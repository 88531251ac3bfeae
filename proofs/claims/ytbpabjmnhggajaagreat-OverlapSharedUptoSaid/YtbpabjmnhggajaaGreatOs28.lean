import Derived.Test.YtbpabjmnhggajaaGreatOs27
namespace Go.Proofs.YtbpabjmnhggajaaGreat
set_option linter.unusedVariables false
set_option linter.unusedSimpArgs false
open Go.RowKit
section
set_option maxRecDepth 100000
attribute [local irreducible] ah aC af ad
def Bd.ok (x:Bd):Prop:=x.t.ok/\dX x.t<=1099511627776
def SN:Tm:=⟨0,0,⟨#[]⟩,[]⟩
def iM (b:List Bd) (v:Int):Tm × Bool:=match b.find? fun x=>x.v == v with|some x=>(x.t,true)|none=>(SN,false)
theorem SO {S:ae}{ρ:Hd}:aR S (.agg [.v (.int .i64 0),.v (.int .i64 0),.v (.string ⟨#[]⟩),.sl true []]) (tm ρ SN):=by
 refine .agg rfl fun i a a' h1 h2=>?_
 match i,h1,h2 with
 |0,h1,h2=>obtain rfl:=oJ_ h1;obtain rfl:=oJ_ h2;exact .refl _
 |1,h1,h2=>obtain rfl:=oJ_ h1;obtain rfl:=oJ_ h2;exact .refl _
 |2,h1,h2=>obtain rfl:=oJ_ h1;obtain rfl:=oJ_ h2;exact .refl _
 |3,h1,h2 =>
  obtain rfl:=oJ_ h1;obtain rfl:=oJ_ h2;rw[SN,tl,bQ];exact aR.wk
theorem WX {S:ae}{a a':AV}{b:Bool}(h:aR S a a'):aR S (.aG [a,.v (.bool b)]) (.aG [a',.v (.bool b)]):=by
 refine .aG rfl fun i x x' h1 h2=>?_
 match i,h1,h2 with
 |0,h1,h2=>obtain rfl:=oJ_ h1;obtain rfl:=oJ_ h2;exact h
 |1,h1,h2=>obtain rfl:=oJ_ h1;obtain rfl:=oJ_ h2;exact .refl _
end
section
set_option maxRecDepth 100000
attribute [local irreducible] ah aC af ad
theorem M4 (x:Tm):(lZ x).length<=dX x:=by
 refine Tm.ind (p:=fun x=>(lZ x).length<=dX x) ?_ x;intro k i n a ih;have key:∀ l:List Tm,(∀ y ∈ l,(lZ y).length<=dX y)->(cN l).length<=bL l:=by
  intro l
  induction l with
  |nil=>intro _;simp[cN,bL]
  |cons y l HA =>
   intro h;rw[cN,bL,List.length_append];have h1:=h y (by simp);have h2:=HA fun z hz=>h z (by grind);omega
 have hk:=key a ih;rw[lZ,dX];split
 ·grind
 ·grind
theorem qP:∀ l:List Tm,(cN l).length<=bL l
 |[]=>by simp[cN,bL]
 |x::l=>by
  rw[cN,bL,List.length_append];have h1:=M4 x;have h2:=qP l;omega
theorem Dm (l:List Tm):(varsOf l).length<=bL l:=Nat.le_trans (ze _ _) (qP l)
section
variable {w0:World}{ρ:Hd}
def ZA (x:Gl):Prop:=vU x.a/\x.n.size<=1099511627776
theorem WY {a:List Tm}(h:vU a):(cN a).length<=1099511627776:=Nat.le_trans (qP a) h.2
end
end
section
variable {P:Program}{w0:World}{n:Nat}{o:Oper}{α:AA}{S S':ae}{r:AV}
theorem St.AW {A:Nat->Prop}{g:Gh}{w:World}{k:Nat}{ob:Ob}{es':List (Value × AV)}{entries entries':Array MapEntry}{clock:Nat}(hS:St w0 A g S w) (hk:S.get k=some ob) (yu:∀ J,ob ≠ .fo J) (ha:g.al k) (hm:w.heap[g.ob k]?=some (.map entries clock))
  (bS:entries'.size=es'.length) (he:∀ (i:Nat) (k:Value) (a:AV),es'[i]?=some (k,a)->∃ e:MapEntry,entries'[i]?=some e/\e.key=k/\aF g w a e.val) (hb:∀ (i:Nat) (e:MapEntry),entries'[i]?=some e->e.born=i) :
  ∃ w',(setObj (g.ob k) (.map entries' entries'.size)).run P w=.ok () w'/\St w0 A g (S.set k (some (.mb es'))) w'/\Ext A g w g w':=by
 have aA:=(hS.bT k _ hk ha).2.1;have uw:({ w with heap:=w.heap.setIfInBounds (g.ob k) (.map entries' entries'.size) }:World).heap[g.ob k]?=some (.map entries' entries'.size):=by grind
 obtain⟨h1,h2⟩:=hS.putObj (ob:=.mb es') hk ha (fun J=>⟨yu J,by simp⟩) (x':=.map entries' entries'.size) rfl (fun q=>by simp only[World.cell?,uw,hm]) (fun hL Bm=>⟨entries',Bm,bS,fun i key a hi=>by
  obtain⟨e,q1,q2,q3⟩:=he i key a hi;exact⟨e,q1,q2,q3.later hL⟩,hb⟩)
 exact⟨_,by simp[setObj,Sem.run,hm],h2,h1⟩
theorem M5 {t:TypeId}(ho:o.op=.makeMap t none):aQ P w0 n o α S (.mp S.nx) (S.new (.mb [])):=by
 intro A g q w hS hA;obtain⟨h1,h2⟩:=hS.new (.map #[] 0) (.mb []) 0 (fun J=>by simp) (fun hL=>⟨#[],dw,rfl,(fun i k a h=>by grind),fun i e h=>by grind⟩);have hr:=aF.mp (g:=g.new S.nx w.heap.size 0) (w:=w.alloc (.map #[] 0)) (k:=S.nx) (.inr rfl);rw[show (g.new S.nx w.heap.size 0).ob S.nx=w.heap.size from az _ _ _] at hr;refine⟨_,_,_,.inl ?_,hr,h2,h1⟩;simp[execOp,ho,Instr.makeMap,newObj,Sem.run]
theorem af.Dn:af P w0 false (.gj none) α S (.mp S.nx) (S.new (.mb [])):=af.run fun n o hr=>by
 obtain⟨t,y,kt,et,ho,hy,hu⟩:=yM hr;cases y with
 |some y=>cases hy
 |none=>exact M5 ho
theorem af.iM {z:AV}{c:Bool}{x i:QO}{k:Nat}{es:List (Value × AV)}{m:Int}(hx:x.ev α.tm=.mp k) (hS:S.get k=some (.mb es)) (hk:lU es) (hi:i.ev α.tm=.v (.int .i64 m)) :
  af P w0 false (.look z c x i) α S (match oy es m with|some a=>(if c then .aG [a,.v (.bool true)] else a)|none=>(if c then .aG [z,.v (.bool false)] else z)) S:=af.run fun n o hr=>by
 obtain⟨t,u,v,kt,et,kk,zv,ho,rfl,rfl,h1,h2,h3,rfl⟩:=B6 hr;rw[aI] at hx hi;exact zm ho h1 h2 h3 hx (fun A g w cZ aK=>by
  obtain⟨_,_,entries,q1,q2,q3,_⟩:=cZ.bT k _ hS aK;exact⟨entries,_,q1,q2,q3⟩) hk hi
theorem PI {t kt et:TypeId}{kk:IntKind}{x i y:Operand}{k:Nat}{es:List (Value × AV)}{m:Int}{b:AV}(ho:o.op=.mapUpdate t x i y) (ht:P.underlying t=some (.map kt et)) (oa:P.underlying kt=some (.int kk))
  (hx:α.ev x=.mp k) (hS:S.get k=some (.mb es)) (hk:lU es) (hi:α.ev i=.v (cE m)) (hy:α.ev y=b):aQ P w0 n o α S (.v undef) (S.set k (some (.mb (vp es m b)))):=by
 intro A g q w cZ hA;have h1:=hA.ev x;have h2:=hA.ev i;have h3:=hA.ev y;rw[hx] at h1;rw[hi] at h2;rw[hy] at h3;obtain⟨e1,aK⟩:=n0 h1;have e2:=bI h2;obtain⟨v,hv⟩:∃ v,q.eval y=v:=⟨_,rfl⟩;rw[hv] at h3;obtain⟨_,_,entries,p1,p2,p3,p4⟩:=cZ.bT k _ hS aK;have hf:=zn p2 p3 hk (kk:=kk) m;unfold vp;cases hj:jB es m with
 |none =>
  rw[hj] at hf;obtain⟨w',q1,q2,q3⟩:=cZ.AW (P:=P) hS (fun J=>by simp) aK p1 (entries':=entries.push { key:=cE m,val:=v,born:=entries.size }) (es':=es++[(cE m,b)]) (by simp[p2]) (fun i key a hi=>by
   by_cases c:i < es.length
   ·rw[List.getElem?_append_left c] at hi;obtain⟨e,r1,r2,r3⟩:=p3 i key a hi;exact⟨e,by grind,r2,r3⟩
   ·rw[List.getElem?_append_right (by omega)] at hi;have Ic:i=es.length:=by
     have:=(List.getElem?_eq_some_iff.1 hi).1;simp at this;omega
    subst Ic;simp at hi;obtain⟨rfl,rfl⟩:=hi;exact⟨{ key:=cE m,val:=v,born:=entries.size },by rw[<-p2];simp,rfl,h3⟩) (fun i e he=>by
   rw[Array.getElem?_push] at he;split at he
   ·rename_i e';rw[<-oJ_ he,e']
   ·exact p4 i e he)
  refine⟨undef,w',g,.inr ⟨?_,rfl⟩,.v,q2,q3⟩;simp only[Array.size_push] at q1;simp only[execOp,ho,e1,e2,hv,Instr.mapUpdate,Sem.run_bind,run_underlying ht,Result.andThen_ok,eM p1,run_checkKey oa,run_findKey oa hf,q1,Sem.run_pure]
 |some j =>
  obtain⟨a,ha⟩:=sY hk hj;obtain⟨e,r1,r2,r3⟩:=p3 j _ a ha;rw[hj] at hf;simp only[r1,Option.map_some] at hf;have lx:j < entries.size:=(Array.getElem?_eq_some_iff.1 r1).1;obtain⟨w',q1,q2,q3⟩:=cZ.AW (P:=P) hS (fun J=>by simp) aK p1 (entries':=entries.modify j fun e=>{ e with key:=cE m,val:=v }) (es':=es.set j (cE m,b)) (by simp[p2]) (fun i key a' hi=>by grind[cE]) (fun i e' he=>by
   rw[Array.getElem?_modify] at he;split at he
   ·rename_i c;subst c;rw[r1] at he;obtain rfl:=oJ_ he;exact p4 j e r1
   ·exact p4 i e' he)
  refine⟨undef,w',g,.inr ⟨?_,rfl⟩,.v,q2,q3⟩;have mj:(Instr.keyThatStays (((entries[j]?).map (·.key)).getD (cE m)) (cE m)).run P w=.ok (cE m) w:=by
   rw[r1];simp[Instr.keyThatStays,r2,Instr.sameBits,cE]
  simp only[Array.size_modify] at q1;simp only[execOp,ho,e1,e2,hv,Instr.mapUpdate,Sem.run_bind,run_underlying ht,Result.andThen_ok,eM p1,run_checkKey oa,run_findKey oa hf,mj,q1,Sem.run_pure]
theorem af.uO {x i b:QO}{k:Nat}{es:List (Value × AV)}{m:Int}{a:AV}(hx:x.ev α.tm=.mp k) (hS:S.get k=some (.mb es)) (hk:lU es) (hi:i.ev α.tm=.v (.int .i64 m)) (hb:b.ev α.tm=a) :
  af P w0 false (.j7 x i b) α S (.v undef) (S.set k (some (.mb (vp es m a)))):=af.run fun n o hr=>by
 obtain⟨t,u,v,y,kt,et,kk,ho,rfl,rfl,rfl,h1,h2⟩:=B7 hr;rw[aI] at hx hi hb;exact PI ho h1 h2 hx hS hk hi hb
theorem SP {o:Op}{z:AV}{x i:QO}(h:res P.toTables o=some (.zo z x i)):∃ t u v kt et kk zv,o=.mapEntry t u v/\x=qo u/\i=qo v/\P.underlying t=some (.map kt et)/\P.underlying kt=some (.int kk)/\de P et=some zv/\z=lift zv:=by
 cases o with
 |mapEntry t u v =>
  simp only[res,bE,gU] at h;split at h
  ·grind
  ·grind
 |_ =>
  simp only[res] at h
  repeat' split at h
  all_goals cases h
theorem SQ {o:Op}{x i b:QO}(h:res P.toTables o=some (.zp x i b)):∃ t u v y,o=.entryStore t u v y/\x=qo u/\i=qo v/\b=qo y:=by
 cases o with
 |entryStore t u v y =>
  simp only[res,bE] at h;split at h
  ·grind
  ·grind
 |_ =>
  simp only[res] at h
  repeat' split at h
  all_goals cases h
theorem SR {t kt et:TypeId}{kk:IntKind}{u v:Operand}{zv:Value}{k:Nat}{es:List (Value × AV)}{m:Int}(ho:o.op=.mapEntry t u v) (ht:P.underlying t=some (.map kt et)) (oa:P.underlying kt=some (.int kk)) (hz:de P et=some zv)
  (hx:α.ev u=.mp k) (hS:S.get k=some (.mb es)) (hk:lU es) (hi:α.ev v=.v (.int .i64 m)) (hn:oy es m=none) :
  aQ P w0 n o α S (.aG [lift zv,.v (.int .i64 es.length)]) (S.set k (some (.mb (es++[(cE m,lift zv)])))):=by
 intro A g q w cZ hA;have h1:=hA.ev u;have h2:=hA.ev v;rw[hx] at h1;rw[hi] at h2;obtain⟨e1,aK⟩:=n0 h1;have e2:=bI h2;obtain⟨_,_,entries,p1,p2,p3,p4⟩:=cZ.bT k _ hS aK;have hf:=zn p2 p3 hk (kk:=kk) m;have hj:jB es m=none:=by
  unfold oy at hn;cases hj:jB es m with
  |none=>rfl
  |some j =>
   obtain⟨a,ha⟩:=sY hk hj;rw[hj] at hn;simp[ha] at hn
 rw[hj] at hf;obtain⟨w',q1,q2,q3⟩:=cZ.AW (P:=P) hS (fun J=>by simp) aK p1 (entries':=entries.push { key:=cE m,val:=zv,born:=entries.size }) (es':=es++[(cE m,lift zv)]) (by simp[p2]) (fun i key a hi=>by
  by_cases c:i < es.length
  ·rw[List.getElem?_append_left c] at hi;obtain⟨e,r1,r2,r3⟩:=p3 i key a hi;exact⟨e,by grind,r2,r3⟩
  ·rw[List.getElem?_append_right (by omega)] at hi;have Ic:i=es.length:=by
    have:=(List.getElem?_eq_some_iff.1 hi).1;simp at this;omega
   subst Ic;simp at hi;obtain⟨rfl,rfl⟩:=hi;exact⟨{ key:=cE m,val:=zv,born:=entries.size },by rw[<-p2];simp,rfl,tu zv⟩) (fun i e he=>by
  rw[Array.getElem?_push] at he;split at he
  ·rename_i e';rw[<-oJ_ he,e']
  ·exact p4 i e he)
 refine⟨.tuple #[zv,goInt entries.size],w',g,.inl ?_,?_,q2,q3⟩
 ·simp only[Array.size_push] at q1;have hck:(Instr.checkKey false 10000 kt (cE m)).run P w=.ok () w:=run_checkKey oa false m;have hfk:(Instr.findKey kt (cE m) entries.toList).run P w=.ok none w:=run_findKey oa hf;have e2:q.eval v=cE m:=e2;simp only[execOp,ho,e1,e2,Instr.mapEntry,Sem.run_bind,run_underlying ht,Result.andThen_ok,eM p1,hck,hfk,lN hz,q1,Sem.run_pure]
 ·refine .aG rfl fun i a x ha hx=>?_
  match i with
  |0=>simp at ha hx;subst ha hx;exact tu zv
  |1=>simp at ha hx;subst ha hx;rw[p2];exact .v
  |i+2=>simp at ha
theorem a6.zo {B:Nat}{z:AV}{x i:QO}{k:Nat}{es:List (Value × AV)}{m:Int}(hx:x.ev α.tm=.mp k) (hS:S.get k=some (.mb es)) (hk:lU es) (hi:i.ev α.tm=.v (.int .i64 m)) (hn:oy es m=none) :
  a6 P w0 B (.zo z x i) α S (.aG [z,.v (.int .i64 es.length)]) ⟨[(k,.mb es)],[(k,some (.mb (es++[(cE m,z)])))],false⟩:=by
 intro n o hr;obtain⟨t,u,v,kt,et,kk,zv,ho,rfl,rfl,ht,oa,hz,rfl⟩:=SP hr;rw[aI] at hx hi;refine⟨fun hp=>(by rw[ho] at hp;cases hp),(show fC S [(k,.mb es)] from fun p hp=>by grind),fun T _ hT _=>?_⟩;have e:∀ z ∈ [u,v],(α.only (cG o)).ev z=α.ev z:=fun z hz=>eH fun t ht=>en (by rw[ho];simp[Op.operands,<-ht];simpa using hz);have e1:dm T [(k,some (.mb (es++[(cE m,lift zv)])))] false=T.set k (some (.mb (es++[(cE m,lift zv)]))):=by cases T;rfl
 rw[e1];exact (SR ho ht oa hz (by grind) (hT (k,_) (by simp)) hk (by grind) hn).ops fun c e=>by grind
theorem SS {t:TypeId}{u v y:Operand}{k j:Nat}{es:List (Value × AV)}{a:AV}{p:Value × AV}(ho:o.op=.entryStore t u v y) (hx:α.ev u=.mp k) (hS:S.get k=some (.mb es)) (hi:α.ev v=.v (.int .i64 j)) (hb:α.ev y=a) (hj:es[j]?=some p) :
  aQ P w0 n o α S (.v undef) (S.set k (some (.mb (es.set j (p.1,a))))):=by
 intro A g q w cZ hA;have h1:=hA.ev u;have h2:=hA.ev v;have h3:=hA.ev y;rw[hx] at h1;rw[hi] at h2;rw[hb] at h3;obtain⟨e1,aK⟩:=n0 h1;have e2:=bI h2;obtain⟨vy,hv⟩:∃ v,q.eval y=v:=⟨_,rfl⟩;rw[hv] at h3;obtain⟨_,_,entries,p1,p2,p3,p4⟩:=cZ.bT k _ hS aK;obtain⟨pk,pa⟩:=p;obtain⟨e,r1,r2,r3⟩:=p3 j pk pa hj;have lx:j < entries.size:=(Array.getElem?_eq_some_iff.1 r1).1;have hfi:entries.findIdx? (fun e=>(e.born:Int) == (j:Int))=some j:=by
  rw[Array.findIdx?_eq_some_iff_getElem];refine⟨lx,?_,fun i hi=>?_⟩
  ·have:=p4 j _ (Array.getElem?_eq_getElem lx);simp[this]
  ·have:=p4 i _ (Array.getElem?_eq_getElem (by omega));simp[this];omega
 obtain⟨w',q1,q2,q3⟩:=cZ.AW (P:=P) hS (fun J=>by simp) aK p1 (entries':=entries.modify j fun e=>{ e with val:=vy }) (es':=es.set j (pk,a)) (by simp[p2]) (fun i key a' hi=>by
  rw[List.getElem?_set] at hi;by_cases c:j=i
  ·grind
  ·rw[if_neg c] at hi;obtain⟨e',s1,s2,s3⟩:=p3 i key a' hi;exact⟨e',by grind,s2,s3⟩) (fun i e' he=>by
  rw[Array.getElem?_modify] at he;split at he
  ·rename_i c;subst c;rw[r1] at he;obtain rfl:=oJ_ he;exact p4 j e r1
  ·exact p4 i e' he)
 refine⟨undef,w',g,.inr ⟨?_,rfl⟩,.v,q2,q3⟩;simp only[Array.size_modify] at q1;simp only[execOp,ho,e1,e2,hv,Instr.entryStore,Sem.run_bind,Sem.run_pure,Result.andThen_ok,eM p1,asInt,asIntOf,hfi,q1]
theorem a6.zp {B:Nat}{x i b:QO}{k j:Nat}{es:List (Value × AV)}{a:AV}{p:Value × AV}(hx:x.ev α.tm=.mp k) (hS:S.get k=some (.mb es)) (hi:i.ev α.tm=.v (.int .i64 j)) (hb:b.ev α.tm=a) (hj:es[j]?=some p) :
  a6 P w0 B (.zp x i b) α S (.v undef) ⟨[(k,.mb es)],[(k,some (.mb (es.set j (p.1,a))))],false⟩:=by
 intro n o hr;obtain⟨t,u,v,y,ho,rfl,rfl,rfl⟩:=SQ hr;rw[aI] at hx hi hb;refine⟨fun hp=>(by rw[ho] at hp;cases hp),(show fC S [(k,.mb es)] from fun p hp=>by grind),fun T _ hT _=>?_⟩;have e:∀ z ∈ [u,v,y],(α.only (cG o)).ev z=α.ev z:=fun z hz=>eH fun t ht=>en (by rw[ho];simp[Op.operands,<-ht];simpa using hz);have e1:dm T [(k,some (.mb (es.set j (p.1,a))))] false=T.set k (some (.mb (es.set j (p.1,a)))):=by cases T;rfl
 rw[e1];exact (SS ho (by grind) (hT (k,_) (by simp)) (by grind) (by grind) hj).ops fun c e=>by grind
end
section
variable {P:Program}{w0:World}{rd:Bool}{n B:Nat}{α:AA}{S S':ae}{Q:Exit->AA->ae->Prop}{r:AV}{l:List QI}{K:List ff}
variable {ρ:Hd}{T:Type}{f:T->AV}{kv:List (Int × T)}
theorem ad.Dn {d:Option Nat}{g:Option (Nat × Bool)}(ρ:Hd) (f:T->AV) (hw:bm α.tm g=some true) (k1:∀ kv:List (Int × T),kv=[]->ad P w0 rd n Q (.aN false l K) (bC d α (.mp S.nx)) (S.new (.mb (ρ.h (dh f) kv)))):ad P w0 rd n Q (.aN false (⟨d,g,.gj none⟩::l) K) α S:=by
 have h:=k1 [] rfl;rw[ρ.eq] at h;exact ad.op (i:=⟨d,g,.gj none⟩) hw af.Dn h
theorem ad.iM {d:Option Nat}{g:Option (Nat × Bool)}{z:AV}{c:Bool}{x i:QO}{k:Nat}{m:Int}(hw:bm α.tm g=some true) (hx:x.ev α.tm=.mp k) (hS:S.get k=some (.mb (ρ.h (dh f) kv))) (hi:i.ev α.tm=.v (.int .i64 m))
  (k1:∀ v,aB kv m=some v->ad P w0 rd n Q (.aN false l K) (bC d α (if c then .aG [f v,.v (.bool true)] else f v)) S) (k2:aB kv m=none->ad P w0 rd n Q (.aN false l K) (bC d α (if c then .aG [z,.v (.bool false)] else z)) S) :
  ad P w0 rd n Q (.aN false (⟨d,g,.look z c x i⟩::l) K) α S:=by
 have h:=af.iM (P:=P) (w0:=w0) (z:=z) (c:=c) hx hS (by rw[ρ.eq];exact oV) hi;rw[ρ.eq,uz] at h;refine ad.op (i:=⟨d,g,.look z c x i⟩) hw h ?_;cases hl:aB kv m with
 |some v=>exact k1 v hl
 |none=>exact k2 hl
theorem ad.uO {d:Option Nat}{g:Option (Nat × Bool)}{x i b:QO}{k:Nat}{m:Int}{v:T}(hw:bm α.tm g=some true) (hx:x.ev α.tm=.mp k) (hS:S.get k=some (.mb (ρ.h (dh f) kv))) (hi:i.ev α.tm=.v (.int .i64 m)) (hb:b.ev α.tm=f v)
  (k1:∀ r5,r5=fl kv m v->ad P w0 rd n Q (.aN false l K) (bC d α (.v undef)) (S.set k (some (.mb (ρ.h (dh f) r5))))):ad P w0 rd n Q (.aN false (⟨d,g,.j7 x i b⟩::l) K) α S:=by
 have h:=af.uO (P:=P) (w0:=w0) hx hS (by rw[ρ.eq];exact oV) hi hb;rw[ρ.eq,B5,<-ρ.eq (dh f)] at h;exact ad.op (i:=⟨d,g,.j7 x i b⟩) hw h (k1 _ rfl)
theorem ad.Vh {V:List (Nat × Nat)}{lg:List (List Nat × List Nat × Bool)}{rs:List Nat}{d:Option Nat}{g:Option (Nat × Bool)}{z:AV}{x i:QO}{k:Nat}{m:Int}{z0:T}(hw:bm α.tm g=some true) (hx:x.ev α.tm=.mp k) (hS:S.get k=some (.mb (ρ.h (dh f) kv))) (hi:i.ev α.tm=.v (.int .i64 m)) (hz:f z0=z) (hn:aB kv m=none)
  (k1:∀ r5 (j:Int),r5=kv++[(m,z0)]->j=kv.length->ad P w0 rd n Q (.dN B V (lg++[([k],[k],false)]) rs l K) (bC d α (.aG [z,.v (.int .i64 j)])) (dm S [(k,some (.mb (ρ.h (dh f) r5)))] false)):ad P w0 rd n Q (.dN B V lg rs (⟨d,g,.zo z x i⟩::l) K) α S:=by
 have h:=a6.zo (P:=P) (w0:=w0) (B:=B) (z:=z) hx hS (by rw[ρ.eq];exact oV) hi (by rw[ρ.eq,uz,hn];rfl);have k2:=k1 _ _ rfl rfl;have e:ρ.h (dh f) kv++[(cE m,z)]=ρ.h (dh f) (kv++[(m,z0)]):=by rw[ρ.eq,ρ.eq];simp[dh,hz]
 have e2:(ρ.h (dh f) kv).length=kv.length:=by rw[ρ.eq];simp[dh]
 rw[e,e2] at h;exact ad.iJ (i:=⟨d,g,.zo z x i⟩) hw h k2
theorem ad.Vi {V:List (Nat × Nat)}{lg:List (List Nat × List Nat × Bool)}{rs:List Nat}{d:Option Nat}{g:Option (Nat × Bool)}{x i b:QO}{k:Nat}{m j:Int}{v z0:T}{BA:List (Int × T)}(hw:bm α.tm g=some true) (hx:x.ev α.tm=.mp k) (hS:S.get k=some (.mb (ρ.h (dh f) kv))) (hi:i.ev α.tm=.v (.int .i64 j)) (hb:b.ev α.tm=f v) (mn:kv=BA++[(m,z0)]) (hj:j=BA.length)
  (k1:∀ r5,r5=BA++[(m,v)]->ad P w0 rd n Q (.dN B V (lg++[([k],[k],false)]) rs l K) (bC d α (.v undef)) (dm S [(k,some (.mb (ρ.h (dh f) r5)))] false)):ad P w0 rd n Q (.dN B V lg rs (⟨d,g,.zp x i b⟩::l) K) α S:=by
 subst mn hj;have hl:(dh f BA).length=BA.length:=by simp[dh]
 have e:dh f (BA++[(m,z0)])=dh f BA++[(cE m,f z0)]:=by simp[dh]
 have h:=a6.zp (P:=P) (w0:=w0) (B:=B) (p:=(cE m,f z0)) hx hS hi hb (by rw[ρ.eq,e,<-hl];simp);have k2:=k1 _ rfl;have e2:(ρ.h (dh f) (BA++[(m,z0)])).set BA.length (cE m,f v)=ρ.h (dh f) (BA++[(m,v)]):=by
  rw[ρ.eq,ρ.eq,e,<-hl,List.set_append_right _ _ (Nat.le_refl _)];simp[dh]
 rw[e2] at h;exact ad.iJ (i:=⟨d,g,.zp x i b⟩) hw h k2
end
section
variable {P:Program}{w0:World}{n:Nat}{α:AA}{S S':ae}{r:AV}
def M6 (P:Program) (t:Target):Prop:=∃ (dy:Array TypeId) (ty:TypeId) (cs:Array Bool) (mt kt et:TypeId) (kk:IntKind),t=.builtin .delete dy ty cs/\dy[0]?=some mt/\P.underlying mt=some (.map kt et)/\P.underlying kt=some (.int kk)
theorem PJ {A:Nat->Prop}{g:Gh}{w:World}{t:Target}{k:Nat}{es:List (Value × AV)}{m:Int}(hS:St w0 A g S w) (ht:M6 P t) (hk:S.get k=some (.mp es)) (hi:lU es) (ha:g.al k) :
  ∃ w',(invoke t #[.map (some (g.ob k)),.int .i64 m]).run P w=.ok (.value (.tuple #[])) w'/\St w0 A g (S.set k (some (.mp (EP es m)))) w'/\Ext A g w g w':=by
 obtain⟨dy,ty,cs,mt,kt,et,kk,rfl,h0,h1,h2⟩:=ht;obtain⟨_,_,entries,clock,p1,p2,p3⟩:=hS.bT k _ hk ha;have hf:=zn p2 p3 hi (kk:=kk) m;have h2':∀ b,(Instr.checkKey b 10000 kt (.int .i64 m)).run P w=.ok () w:=fun b=>run_checkKey h2 b m;unfold EP;cases hj:jB es m with
 |none =>
  rw[hj] at hf;obtain⟨w',q1,q2,q3⟩:=hS.vY (P:=P) hk ha p1 (entries':=entries) (clock':=clock) (es':=es) p2 p3;refine⟨w',?_,q2,q3⟩;have zq:(Instr.findKey kt (.int .i64 m) entries.toList).run P w=.ok none w:=run_findKey h2 hf;simp[invoke,builtin,Builtin.delete_,h0,Sem.run_bind,run_underlying h1,eM p1,h2',zq,q1]
 |some j =>
  obtain⟨a,ZB⟩:=sY hi hj;obtain⟨e,r1,r2,r3⟩:=p3 j _ a ZB;rw[hj] at hf;simp only[r1,Option.map_some] at hf;have lx:j < entries.size:=(Array.getElem?_eq_some_iff.1 r1).1;have her:entries.eraseIdxIfInBounds j=entries.eraseIdx j lx:=by simp[Array.eraseIdxIfInBounds,lx]
  obtain⟨w',q1,q2,q3⟩:=hS.vY (P:=P) hk ha p1 (entries':=entries.eraseIdxIfInBounds j) (clock':=clock) (es':=es.eraseIdx j) (by
   rw[her,Array.size_eraseIdx,List.length_eraseIdx,if_pos (by omega),p2]) (fun i key a' jV=>by
   rw[List.getElem?_eraseIdx] at jV;rw[her,Array.getElem?_eraseIdx];split at jV
   ·rename_i c;rw[if_pos c];exact p3 i key a' jV
   ·rename_i c;rw[if_neg c];exact p3 (i+1) key a' jV)
  refine⟨w',?_,q2,q3⟩;have zq:(Instr.findKey kt (.int .i64 m) entries.toList).run P w=.ok (some (j,e.val)) w:=run_findKey h2 hf;simp[invoke,builtin,Builtin.delete_,h0,Sem.run_bind,run_underlying h1,eM p1,h2',zq,q1]
theorem KF {fr:Frame}{cs:List Frame}{w w':World}{d:Deferred}{ds:List Deferred}{b:Builtin}{dy:Array TypeId}{ty:TypeId}{consts:Array Bool}{v:Value}(hm:fr.mode ≠ .run) (hd:fr.defers=d::ds) (ht:d.target=.builtin b dy ty consts)
  (hi:(invoke d.target d.args).run P w=.ok (.value v) w'):step P (lone fr cs w)=.next (lone { fr with defers:=ds } cs w'):=by
 obtain⟨t,a⟩:=d;simp only at ht hi;subst ht;refine step_lone_go ?_;cases M7:fr.mode with
 |run=>exact absurd M7 hm
 |returning=>simp[stepG,unwind,callDeferred,M7,hd,Sem.runT_eq,hi,GStep.bare_after]
 |panicking chain=>simp[stepG,unwind,callDeferred,M7,hd,Sem.runT_eq,hi,GStep.bare_after]
def v8 (F:Fence) (n:Nat) (P:Program) (fn:Func) (tmps:Array Value) (R:Ending->World->Prop):List Deferred->World->Prop
 |[],w=>LeavesIn F n P fn tmps R [] .returning w
 |d::ds,w=>∃ w',((∃ r,d.target=.collected r/\(Instr.takeDeferred r).run P w=.ok [] w')\/(∃ b dy ty cs v,d.target=.builtin b dy ty cs/\(invoke d.target d.args).run P w=.ok (.value v) w'))/\v8 F n P fn tmps R ds w'
theorem x7 {F:Fence}{n:Nat}{fn:Func}{tmps:Array Value}{R:Ending->World->Prop}:∀ (ds:List Deferred) (w:World) (fr:Frame) (cs:List Frame),fr.mode=.returning->fr.defers=ds->fr.tmps=tmps->P.funcs[fr.fn]?=some fn->fr.kind=.normal->F.fn fr.fn->F.room (cs.length+1+n) ->
  v8 F n P fn tmps R ds w->∃ e w' zr,R e w'/\ComesIn (Machine.fenced P F) P (lone fr cs w) (lone zr cs w') e/\zr.fn=fr.fn/\zr.leaving P w' e:=by
 intro ds
 induction ds with
 |nil=>exact fun w fr cs hu hd ht hf hk hb kY h=>leaves_stepsIn [] .returning w fr cs hu hd ht hf hk hb kY h
 |cons d ds ih =>
  intro w fr cs hu hd ht hf hk hb kY h;obtain⟨w',h,oA⟩:=h;have bZ:fr.mode ≠ .run:=by grind
  rcases h with ⟨r,Ip,ac1⟩|⟨b,dy,ty,consts,v,Ip,hinv⟩
  ·have h1:=step_collected (cs:=cs) bZ hd Ip ac1;have i1:(lone fr cs w).fenced P F:=fenced_out hb kY bZ hd (fun g hg=>by rw[Ip] at hg;simp[Target.leads] at hg);obtain⟨e',kR,zr,Fw,iG,SU,nI⟩:=ih w' { fr with defers:=[]++ds } cs hu rfl ht hf hk hb kY oA;exact⟨e',kR,zr,Fw,ComesIn.of_steps (.one i1 h1) iG,SU,nI⟩
  ·have h1:=KF (cs:=cs) bZ hd Ip hinv;have i1:(lone fr cs w).fenced P F:=fenced_out hb kY bZ hd (fun g hg=>by rw[Ip] at hg;simp[Target.leads] at hg);obtain⟨e',kR,zr,Fw,iG,SU,nI⟩:=ih w' { fr with defers:=ds } cs hu rfl ht hf hk hb kY oA;exact⟨e',kR,zr,Fw,ComesIn.of_steps (.one i1 h1) iG,SU,nI⟩
def PK (F:Fence) (n:Nat) (P:Program) (fn:Func) (R:Ending->World->Prop):Exit->Act->World->Prop
 |.normal,a,w|.ret,a,w=>v8 F n P fn a.tmps R a.defers w
 |_,_,_=>False
theorem ER {F:Fence}{n:Nat}{f:FuncId}{fn:Func}{c:Code}{args:Array Value}{w:World}{R:Ending->World->Prop}
  (hf:P.funcs[f]?=some fn) (hb:fn.body=some c) (hF:F.fn f)
  (h:c.wpIn F n P (PK F n P fn R) { tmps:=args++Array.replicate (fn.ntmps - args.size) undef,defers:=[] } w) (kO:F.round=none:=by rfl):CallsIn F n P f args w R:=by
 refine⟨hF,fun cs hr=>?_⟩
 let b:Frame:={ (default:Frame) with fn:=f,kind:=.normal,roundOf:=none }
 have yJ:Frame.enter P f args .normal =
   b.atR { tmps:=args++Array.replicate (fn.ntmps - args.size) undef,defers:=[] } [.code c]:=by
  simp[Frame.enter,Frame.atR,hf,hb,b]
 obtain⟨e,a',w',hq,ll⟩:=h b [] cs kO.symm hF hr;rw[<-yJ] at ll;cases e with
 |normal =>
  obtain⟨e',kR,zr,hR,hs,CW,hl⟩:=x7 a'.defers w' { b.atR a' [] with mode:=.returning } cs rfl rfl rfl hf rfl hF hr hq;exact⟨e',kR,zr,hR,ComesIn.of_steps (StepsIn.trans ll (.one (fenced_calm (fr:=b.atR a' []) hF hr rfl) (stepR_end rfl))) hs,CW,hl⟩
 |ret =>
  obtain⟨todo,ac2⟩:=ll.1 rfl;obtain⟨e',kR,zr,hR,hs,CW,hl⟩:=x7 a'.defers w' { b.atR a' todo with mode:=.returning } cs rfl rfl rfl hf rfl hF hr hq;exact⟨e',kR,zr,hR,ComesIn.of_steps ac2 hs,CW,hl⟩
 |panic chain=>exact hq.elim
 |exit id=>exact hq.elim
 |goto l=>exact hq.elim
 |outgrown=>exact hq.elim
inductive v_ (P:Program):ae->List DE->ae->Prop
 |nil {S:ae}:v_ P S [] S
 |ob {S S':ae}{k:Nat}{ks:List DE}(hk:S.get k=some .df) (h:v_ P (S.set k none) ks S'):v_ P S (.ob k::ks) S'
 |del {S S':ae}{t:Target}{k:Nat}{i:Int}{ks:List DE}{es:List (Value × AV)}(ht:M6 P t) (hk:S.get k=some (.mp es)) (he:lU es) (h:v_ P (S.set k (some (.mp (EP es i)))) ks S'):v_ P S (.del t k i::ks) S'
theorem PL {F:Fence}{m:Nat}{A:Nat->Prop}{fn:Func}{tmps:Array Value}{R:Ending->World->Prop}{ks:List DE}{S S':ae}(hL:v_ P S ks S'):∀ {g:Gh}{w:World},St w0 A g S w->(∀ d ∈ ks,g.al d.k) ->
  (∀ w',St w0 A g S' w'->Ext A g w g w'->∃ v,(results fn tmps).run P w'=.ok v w'/\R (.returned v) w')->v8 F m P fn tmps R (ks.map (H3 g.ob)) w:=by
 induction hL with
 |nil=>exact fun hS _ h=>h _ hS (Ext.refl ..)
 |ob hk _ ih =>
  intro g w hS ha h;obtain⟨w',h1,h2,h3⟩:=hS.take (P:=P) hk (ha _ (.head _));exact⟨w',.inl ⟨_,rfl,h1⟩,ih h3 (fun d hd=>ha d (.tail _ hd)) fun kR h4 h5=>h kR h4 (h2.trans h5)⟩
 |@del S S' t k i ks es ht hk he _ ih =>
  intro g w hS ha h;obtain⟨w',h1,h2,h3⟩:=PJ (m:=i) hS ht hk he (ha _ (.head _));obtain⟨dy,ty,cs,mt,kt,et,kk,rfl,_⟩:=ht;exact⟨w',.inr ⟨_,_,_,_,_,rfl,h1⟩,ih h2 (fun d hd=>ha d (.tail _ hd)) fun kR h4 h5=>h kR h4 (h3.trans h5)⟩
def SV (P:Program) (qs:List QR) (R:AV->ae->Prop) (ex:Exit) (α:AA) (S:ae):Prop :=
 CK ex=true/\∃ S' r,v_ P S α.df S'/\(match mJ α.tm S' qs with|some [a]=>some a|some l=>some (.aG l)|none=>none)=some r/\R r S'
theorem mK.ahk {f:FuncId}{q:QC × List QR}{args:List AV}{R:AV->ae->Prop}(F:mK P f q n) (bj:args.length<=n) (h:ad P w0 false n (SV P q.2 R) (.run q.1 []) ⟨kG args,[]⟩ S):∃ r S',aC P w0 f args S r S'/\R r S':=by
 obtain⟨fn,c,hf,hb,hn,hr,hq,hd,hc⟩:=F.out;obtain⟨ex,au,S1,ES,he,S',r,hL,jd,hR⟩:=h c hq hd;have ac3:yA P fn.results au S'=some r:=by grind[yA,Hx]
 refine⟨r,S',⟨hc,fun F m A g args' w hF hS hA=>?_⟩,hR⟩;have key:CallsIn F.plain m P f args' w fun e w'=>∃ v g',e=.returned v/\aF g' w' r v/\St w0 A g' S' w'/\Ext A g w g' w':=by
  refine ER hf hb (hF.1 f) ?_ rfl;rw[hn];refine wpIn_mono (ES F.plain m A g _ w hF.plain rfl hS (w8 hA bj)) ?_;rintro ex' a' w' ⟨rfl,g',h1,h2,h3⟩;have hl:v8 F.plain m P fn a'.tmps (fun e w'=>∃ v g',e=.returned v/\aF g' w' r v/\St w0 A g' S' w'/\Ext A g w g' w') a'.defers w':=by
   rw[h2.df];refine PL hL h1 h2.rY fun kR h4 h5=>?_;obtain⟨v,h6,h7⟩:=Dp h4 (h2.later h5.toLater) ac3;exact⟨v,h6,v,g',rfl,h7,h4,h3.trans h5⟩
  cases ex' with
  |normal=>exact hl
  |ret=>exact hl
  |_=>cases he
 exact key
theorem mK.ac4 {f:FuncId}{args:List AV}{r':AV}{q:QC × List QR}(B N:Nat) (so:List (Nat × Ob)) (F:mK P f q n) (bj:args.length<=n) (hn:Nat.ble S.nx B=true) (hb:Nat.ble B N=true)
  (h:ad P w0 false n (SV P q.2 fun r S'=>∃ m,ij B m N r r'/\fY B m N S' so/\nu B m (so.map (·.1))=true) (.run q.1 []) ⟨kG args,[]⟩ S):aC P w0 f args S r' (aq so N):=by
 obtain⟨r,S',h1,m,h2,h3,h4⟩:=mK.ahk F bj h;exact h1.canon hn h2 h3 h4 hb
end
end Go.Proofs.YtbpabjmnhggajaaGreat
