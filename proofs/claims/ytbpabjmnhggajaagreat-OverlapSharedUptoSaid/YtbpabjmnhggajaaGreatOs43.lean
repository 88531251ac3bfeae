import Derived.Test.YtbpabjmnhggajaaGreatOs42
namespace Go.Proofs.YtbpabjmnhggajaaGreat
set_option linter.unusedVariables false
set_option linter.unusedSimpArgs false
open Go.RowKit
def cB (T:Tables) (n:Nat):Code->Option QC
 |.skip=>some .skip
 |.label _=>some .skip
 |.region _ ops dr=>match mH T n ops.toList ops.toList with
  |some l=>match dr with
   |false=>some (.aN false l)
   |true=>match qG ops with
    |true=>some (.dN (xw ops) l)
    |false=>none
  |none=>none
 |.seq a b=>match cB T n a,cB T n b with
  |some a',some b'=>some (.seq a' b')
  |_,_=>none
 |.cond c a b=>match cB T n a,cB T n b with
  |some a',some b'=>some (.cond (qo c) a' b')
  |_,_=>none
 |.block id a=>match cB T n a with
  |some a'=>some (.block id a')
  |none=>none
 |.scope a=>match cB T n a with
  |some a'=>some (.scope a')
  |none=>none
 |.loop a=>match cB T n a with
  |some a'=>some (.loop a')
  |none=>none
 |.exit id=>some (.exit id)
 |.ret=>some .ret
 |.rangeFunc f ps a b=>match cB T n a,cB T n b with
  |some a',some b'=>some (.wM (qo f) ps.toList a' b')
  |_,_=>none
 |c=>some (.raw c)
def inV (i:Nat):List (Nat × Nat)->Bool
 |[]=>false
 |p::V=>match Nat.beq p.1 i with
  |true=>true
  |false=>match Nat.beq p.2 i with|true=>true|false=>inV i V
def Gz (x y:List Nat × List Nat × Bool):Bool:=match Gs x,Gs y with
 |none,none=>dj x y
 |some l,none=>Gr y l
 |none,some l=>Gr x l
 |some _,some _=>false
def TG (V:List (Nat × Nat)) (lg:List (List Nat × List Nat × Bool)):Bool:=V.all fun p=>Gz (zZ lg p.1) (zZ lg p.2)
def Dt.ok (d:Dt):Prop:=Gs d.ns=none
theorem aaH {d e:Dt × Option qj}(h1:d.2=none->d.1.ok) (h2:e.2=none->e.1.ok) (h:Gz (u_ d) (u_ e)=true):E9 d e:=by
 obtain⟨d,x⟩:=d;obtain⟨e,y⟩:=e;cases x with
 |none =>
  have q1:Gs d.ns=none:=h1 rfl;cases y with
  |none =>
   have q2:Gs e.ns=none:=h2 rfl;simp only[Gz,u_,q1,q2] at h;exact h
  |some l =>
   have h:Gz d.ns (l.1::l.2,[],true)=true:=h;unfold Gz at h;rw[q1] at h;exact h
 |some l =>
  cases y with
  |none =>
   have q2:Gs e.ns=none:=h2 rfl;have h:Gz (l.1::l.2,[],true) e.ns=true:=h;unfold Gz at h;rw[q2] at h;exact h
  |some l'=>simp only[Gz,u_,Gs] at h;cases h
section
variable (P:Program) (w0:World) (rd:Bool) (n:Nat)
def jY (b:QC) (Q:Exit->AA->ae->Prop) (α:AA) (S:ae):Prop:=∀ c,cB P.toTables n c=some b->cU P c=true->Wp P w0 rd n c Q α S
def jO (Q:Exit->AA->ae->Prop):List ff->Exit->AA->ae->Prop
 |[]=>Q
 |.seq b::K=>fun ex α S=>match ex with|.normal=>jY P w0 rd n b (jO Q K) α S|e=>jO Q K e α S
 |.qe id::K=>fun ex α S=>match ex with|.exit j=>(match Nat.beq j id with|true=>jO Q K .normal α S|false=>jO Q K (.exit j) α S)|e=>jO Q K e α S
 |.yN::K=>fun ex α S=>match ex with|.goto _=>False|e=>jO Q K e α S
def z6 (B:Nat) (V:List (Nat × Nat)) (lg:List (List Nat × List Nat × Bool)) (l:List QI) (Q:AA->ae->Prop) (α:AA) (S:ae):Prop :=
 ∀ ops:List Oper,mH P.toTables n ops (ops.drop lg.length)=some l->xw ops.toArray=V->∃ (D:Nat->Dt × Option qj) (au:AA) (S':ae),ji P w0 n ops.toArray B D (List.range' lg.length l.length) α S au S' /\
  TG V (lg++(List.range' lg.length l.length).map fun i=>u_ (D i))=true/\(∀ i ∈ List.range' lg.length l.length,(D i).2=none->(D i).1.ok)/\Q au S'
def cu (Q:Exit->AA->ae->Prop):QF->AA->ae->Prop
 |.run c K,α,S=>jY P w0 rd n c (jO P w0 rd n Q K) α S
 |.out ex K,α,S=>jO P w0 rd n Q K ex α S
 |.aN dr l K,α,S=>match dr with
  |false=>eX P w0 n false l (fun α S=>jO P w0 rd n Q K .normal α S) (fun ch α S=>jO P w0 rd n Q K (.panic ch) α S) α S
  |true=>False
 |.dN B V lg rs l K,α,S=>(∀ k ∈ rs,k < B)->B<=S.nx->z6 P w0 n B V lg l (fun α S=>jO P w0 rd n Q K .normal α S) α S
end
section
variable {P:Program}{w0:World}{rd:Bool}{n:Nat}{α au:AA}{S S':ae}{Q Q':Exit->AA->ae->Prop}{ex:Exit}{r:AV}{i:QI}{l:List QI}{R:AA->ae->Prop}
theorem GC {c:Code}{dr:Bool}(h:cB P.toTables n c=some (.aN dr l)):∃ id ops,c=.region id ops false/\dr=false/\mH P.toTables n ops.toList ops.toList=some l:=by
 cases c<;>simp only[cB] at h<;>(repeat' split at h)<;>(try cases h)
 ·grind
theorem Qs {c:Code}{V:List (Nat × Nat)}(h:cB P.toTables n c=some (.dN V l)):∃ id ops,c=.region id ops true/\mH P.toTables n ops.toList ops.toList=some l/\qG ops=true/\V=xw ops:=by
 cases c<;>simp only[cB] at h<;>(repeat' split at h)<;>(try cases h)
 ·grind
theorem GD {c:Code}{a b:QC}(h:cB P.toTables n c=some (.seq a b)):∃ c1 c2,c=.seq c1 c2/\cB P.toTables n c1=some a/\cB P.toTables n c2=some b:=by
 cases c<;>simp only[cB] at h<;>(repeat' split at h)<;>(try cases h)
 ·grind
theorem NP {c:Code}{x:QO}{a b:QC}(h:cB P.toTables n c=some (.cond x a b)):∃ y c1 c2,c=.cond y c1 c2/\qo y=x/\cB P.toTables n c1=some a/\cB P.toTables n c2=some b:=by
 cases c<;>simp only[cB] at h<;>(repeat' split at h)<;>(try cases h)
 ·grind
theorem KR {c:Code}{id:Nat}{a:QC}(h:cB P.toTables n c=some (.block id a)):∃ c1,c=.block id c1/\cB P.toTables n c1=some a:=by
 cases c<;>simp only[cB] at h<;>(repeat' split at h)<;>(try cases h)
 ·grind
theorem KS {c:Code}{a:QC}(h:cB P.toTables n c=some (.scope a)):∃ c1,c=.scope c1/\cB P.toTables n c1=some a:=by
 cases c<;>simp only[cB] at h<;>(repeat' split at h)<;>(try cases h)
 ·grind
theorem NQ {c:Code}{a:QC}(h:cB P.toTables n c=some (.loop a)):∃ c1,c=.loop c1/\cB P.toTables n c1=some a:=by
 cases c<;>simp only[cB] at h<;>(repeat' split at h)<;>(try cases h)
 ·grind
theorem NR {c:Code}{x:QO}{ps:List Nat}{a b:QC}(h:cB P.toTables n c=some (.wM x ps a b)):∃ y pt c1 c2,c=.rangeFunc y pt c1 c2/\qo y=x/\pt.toList=ps/\cB P.toTables n c1=some a/\cB P.toTables n c2=some b:=by
 cases c<;>simp only[cB] at h<;>(repeat' split at h)<;>(try cases h)
 ·grind
theorem qS {c:Code}:(cB P.toTables n c=some .skip->Pn c)/\(cB P.toTables n c=some .ret->c=.ret)/\∀ id,cB P.toTables n c=some (.exit id)->c=.exit id:=by
 refine⟨fun h=>?_,fun h=>?_,fun id h=>?_⟩
 all_goals
  cases c<;>simp only[cB] at h<;>(repeat' split at h)<;>(try cases h)<;>first|rfl|exact .inl rfl|exact .inr ⟨_,rfl⟩
theorem jY.seq {a b:QC}(h:jY P w0 rd n a (fun ex α S=>match ex with|.normal=>jY P w0 rd n b Q α S|e=>Q e α S) α S):jY P w0 rd n (.seq a b) Q α S:=by
 intro c hc hd;obtain⟨c1,c2,rfl,h1,h2⟩:=GD hc;simp only[cU,Bool.and_eq_true] at hd;refine Wp.seq ?_;obtain⟨ex,bF,bW,h3,h4⟩:=h c1 h1 hd.1;refine⟨ex,bF,bW,h3,?_⟩;cases ex with
 |normal=>exact h4 c2 h2 hd.2
 |_=>exact h4
theorem jY.cond {x:QO}{a b:QC}{t:Bool}(hx:x.ev α.tm=.v (.bool t)) (h:jY P w0 rd n (if t then a else b) Q α S):jY P w0 rd n (.cond x a b) Q α S:=by
 intro c hc hd;obtain⟨y,c1,c2,rfl,rfl,h1,h2⟩:=NP hc;simp only[cU,Bool.and_eq_true] at hd;refine Wp.cond (by rw[VP];exact hx) ?_;cases t with
 |true=>exact h c1 h1 hd.1
 |false=>exact h c2 h2 hd.2
theorem jY.scope {a:QC}(h:jY P w0 rd n a (fun ex α S=>match ex with|.goto _=>False|e=>Q e α S) α S):jY P w0 rd n (.scope a) Q α S:=by
 intro c hc hd;obtain⟨c1,rfl,h1⟩:=KS hc;obtain⟨ex,bF,bW,h2,h3⟩:=h c1 h1 hd;cases ex with
 |goto l=>exact h3.elim
 |_=>exact⟨_,bF,bW,cC.scope h2 (fun l e=>by grind),h3⟩
theorem jY.block {id:Nat}{a:QC}(h:jY P w0 rd n a (fun ex α S=>match ex with|.exit j=>(match Nat.beq j id with|true=>Q .normal α S|false=>Q (.exit j) α S)|e=>Q e α S) α S):jY P w0 rd n (.block id a) Q α S:=by
 intro c hc hd;obtain⟨c1,rfl,h1⟩:=KR hc;exact Wp.block (h c1 h1 hd)
theorem jY.aN (h:eX P w0 n false l (fun α S=>Q .normal α S) (fun ch α S=>Q (.panic ch) α S) α S):jY P w0 rd n (.aN false l) Q α S:=by
 intro c hc hd;obtain⟨id,ops,rfl,_,h1⟩:=GC hc;rcases h _ _ h1 0 rfl with ⟨au,S',h3,h4⟩|⟨ch,au,S',h3,h4⟩
 ·rw[Array.length_toList,<-List.range_eq_range'] at h3;exact⟨_,au,S',cC.region h3,h4⟩
 ·rw[Array.length_toList,<-List.range_eq_range'] at h3;exact⟨.panic ch,au,S',fun F m A g a w hF hR hS hA=>wpIn_region (h3 F m A g a w _ hF hS hA fun a' w' g' q1 q2 q3=>⟨rfl,g',q1,q2,q3⟩),h4⟩
theorem JA {ops:List Oper}:∀ {rest:List Oper}{l:List QI},mH P.toTables n ops rest=some l->l.length=rest.length
 |[],l,h=>by obtain rfl:=oJ_ h;rfl
 |o::rest,l,h=>by
  cases l with
  |nil =>
   exfalso;simp only[mH] at h;split at h
   ·grind
   ·grind
  |cons i l =>
   obtain⟨o',mN,e,h3,_⟩:=ng (α:=⟨fun _=>.u,[]⟩) h;injection e with e1 e2;subst e1 e2;simp[JA h3]
theorem JB {ops:Array Oper}{m:List Nat}:∀ {k:Nat}{q:Nat × Nat},q ∈ vc ops m k->q.1 < k/\q.2 < k
 |0,q,h=>by cases h
 |k+1,q,h=>by
  simp only[vc,List.mem_append,List.mem_map,List.mem_filter,List.mem_range] at h;rcases h with ⟨x,⟨hx,_⟩,rfl⟩|h
  ·grind
  ·have:=JB h;omega
theorem jY.dN {V:List (Nat × Nat)}(h:(∀ k ∈ iX l S.nx,k < S.nx+(iX l S.nx).length)->S.nx+(iX l S.nx).length<=(xy S l).nx->z6 P w0 n (S.nx+(iX l S.nx).length) V [] l (fun α S=>Q .normal α S) α (xy S l)):jY P w0 rd n (.dN V l) Q α S:=by
 intro c hc hd;obtain⟨id,ops,rfl,h1,h2,rfl⟩:=Qs hc;simp only[cU,Bool.and_eq_true] at hd;have hl:l.length=ops.size:=by rw[JA h1];simp
 obtain⟨D,au,S',h3,h4,h6,h5⟩:=h (fun k hk=>(t_ hk).2) (by cases S;exact Nat.le_refl _) ops.toList h1 rfl;simp only[List.length_nil,hl,List.nil_append] at h3 h4 h6;rw[<-List.range_eq_range'] at h3 h4 h6;refine⟨.normal,au,S',fun F m A g a w hF hR hS hA=>?_,h5⟩;refine cC.adt hd.1 h2 (fun p hp=>?_) h3 F m A g a w hF hR (hS.rsv l) hA;obtain⟨k1,k2⟩:=JB (List.mem_filter.1 hp).1;have get:∀ i,i < ops.size->zZ ((List.range ops.size).map fun i=>u_ (D i)) i=u_ (D i):=fun i hi=>by grind[zZ]
 have h7:=List.all_eq_true.1 h4 p hp;rw[get _ k1,get _ k2] at h7;exact aaH (h6 _ (List.mem_range.2 k1)) (h6 _ (List.mem_range.2 k2)) h7
theorem jY.done {a:QC}(hd:∀ c,cB P.toTables n c=some a->Wp P w0 rd n c Q α S):jY P w0 rd n a Q α S:=fun c hc _=>hd c hc
variable {K:List ff}
theorem cu.skip (h:cu P w0 rd n Q (.out .normal K) α S):cu P w0 rd n Q (.run .skip K) α S:=jY.done fun c hc=>Wp.of (cC.skip (qS.1 hc)) h
theorem cu.exit_ {id:Nat}(h:cu P w0 rd n Q (.out (.exit id) K) α S):cu P w0 rd n Q (.run (.exit id) K) α S:=jY.done fun c hc=>by rw[qS.2.2 _ hc];exact Wp.of (cC.exit_ _) h
theorem cu.ahV (h:cu P w0 rd n Q (.out .ret K) α S):cu P w0 rd n Q (.run .ret K) α S:=jY.done fun c hc=>by rw[qS.2.1 hc];exact Wp.of cC.ret h
theorem cu.seq {a b:QC}(h:cu P w0 rd n Q (.run a (.seq b::K)) α S):cu P w0 rd n Q (.run (.seq a b) K) α S:=jY.seq h
theorem cu.cond {x:QO}{a b:QC}{t:Bool}(hx:x.ev α.tm=.v (.bool t)) (h:cu P w0 rd n Q (.run (if t then a else b) K) α S):cu P w0 rd n Q (.run (.cond x a b) K) α S:=jY.cond hx h
theorem cu.scope {a:QC}(h:cu P w0 rd n Q (.run a (.yN::K)) α S):cu P w0 rd n Q (.run (.scope a) K) α S:=jY.scope h
theorem cu.block {id:Nat}{a:QC}(h:cu P w0 rd n Q (.run a (.qe id::K)) α S):cu P w0 rd n Q (.run (.block id a) K) α S:=jY.block h
theorem cu.aN (h:cu P w0 rd n Q (.aN false l K) α S):cu P w0 rd n Q (.run (.aN false l) K) α S:=jY.aN h
theorem cu.dN {V:List (Nat × Nat)}(h:cu P w0 rd n Q (.dN (S.nx+(iX l S.nx).length) V [] (iX l S.nx) l K) α (xy S l)):cu P w0 rd n Q (.run (.dN V l) K) α S:=jY.dN fun h1 h2=>h h1 h2
theorem cu.fin (h:cu P w0 rd n Q (.out .normal K) α S):cu P w0 rd n Q (.aN false [] K) α S:=by
 show eX P w0 n false [] _ _ α S;exact eX.nil h
theorem cu.op (hw:bm α.tm i.g=some true) (h:af P w0 false i.q α S r S') (k:cu P w0 rd n Q (.aN false l K) (bC i.d α r) S'):cu P w0 rd n Q (.aN false (i::l) K) α S:=by
 show eX P w0 n false (i::l) _ _ α S;exact eX.op hw h k
theorem cu.no (hw:bm α.tm i.g=some false) (k:cu P w0 rd n Q (.aN false l K) (bC i.d α (.v undef)) S):cu P w0 rd n Q (.aN false (i::l) K) α S:=by
 show eX P w0 n false (i::l) _ _ α S;exact eX.skip hw k
theorem cu.cv {c:QC}(h:Cv w0 n α S au S') (k:cu P w0 rd n Q (.run c K) au S'):cu P w0 rd n Q (.run c K) α S:=by
 intro c0 hc hd;obtain⟨ex,bF,bW,h1,h2⟩:=k c0 hc hd;exact⟨ex,bF,bW,h1.cv h,h2⟩
theorem ji.congr {ops:Array Oper}{B:Nat}{D D':Nat->Dt × Option qj}:∀ {L:List Nat}{α au:AA}{S S':ae},(∀ i ∈ L,D i=D' i)->ji P w0 n ops B D L α S au S'->ji P w0 n ops B D' L α S au S'
 |[],_,_,_,_,_,.nil ..=>.nil ..
 |i::rest,_,_,_,_,he,.cons h t=>.cons (by grind) (t.congr fun j hj=>he j (by grind))
theorem z6.step {B:Nat}{V:List (Nat × Nat)}{lg:List (List Nat × List Nat × Bool)}{d:Dt × Option qj}{α1:AA}{S1:ae}(hx:d.2=none->d.1.ok)
  (hg:∀ ops o rest,ops.drop lg.length=o::rest->oz n o.dst=true->o.dst=i.d->res P.toTables o.op=some i.q->(∀ b,bm α.tm i.g=some b->iQ ops α o=some b)->Jy P w0 n ops.toArray B lg.length d α S α1 S1)
  (k:z6 P w0 n B V (lg++[u_ d]) l R α1 S1):z6 P w0 n B V lg (i::l) R α S:=by
 intro ops hr hV;obtain⟨o,rest,h1,h2,h3,h4,h5,h6⟩:=ng (α:=α) hr;obtain⟨h7,h8⟩:=nh h1;obtain⟨D,au,S',k1,k2,k4,k3⟩:=k ops (by grind) hV;simp only[List.length_append,List.length_singleton] at k1 k2 k4;refine⟨fun i=>if i=lg.length then d else D i,au,S',?_,?_,?_,k3⟩
 ·rw[List.length_cons,List.range'_succ];refine .cons (by grind) (k1.congr fun i hi=>?_);have:=(List.mem_range'_1.1 hi).1;rw[if_neg (by omega)]
 ·rw[List.length_cons,List.range'_succ,List.map_cons];simp only[if_pos];have e:((List.range' (lg.length+1) l.length).map fun i=>u_ (if i=lg.length then d else D i))=(List.range' (lg.length+1) l.length).map fun i=>u_ (D i):=List.map_congr_left fun i hi=>by grind
  rw[e];rw[List.append_assoc] at k2;exact k2
 ·grind
theorem cu.iJ {B:Nat}{V:List (Nat × Nat)}{lg:List (List Nat × List Nat × Bool)}{rs:List Nat}{d:Dt}(hw:bm α.tm i.g=some true) (jA:d.ok) (h:a6 P w0 B i.q α S r d) (k:cu P w0 rd n Q (.dN B V (lg++[d.ns]) rs l K) (bC i.d α r) (dm S d.W d.m)):cu P w0 rd n Q (.dN B V lg rs (i::l) K) α S:=by
 intro mL hB;refine z6.step (d:=(d,none)) (fun _=>jA) (fun ops o rest h1 h2 h3 h4 h5=>?_) (k mL (by grind[dT]));obtain⟨k1,k2,k3⟩:=h n o h4;exact⟨o,(nh h1).1,h2,k1,hB,k2,rfl,.inr ⟨(DX (h5 _ hw)).1 rfl,r,by rw[qH,<-h3];cases o.dst<;>rfl,fun T hb ht hm=>k3 T hb ht hm⟩⟩
theorem cu.dno {B:Nat}{V:List (Nat × Nat)}{lg:List (List Nat × List Nat × Bool)}{rs:List Nat}(hw:bm α.tm i.g=some false) (k:cu P w0 rd n Q (.dN B V (lg++[([],[],false)]) rs l K) (bC i.d α (.v undef)) S):cu P w0 rd n Q (.dN B V lg rs (i::l) K) α S:=by
 intro mL hB;refine z6.step (d:=(.none_,none)) (fun _=>rfl) (fun ops o rest h1 h2 h3 h4 h5=>?_) (k mL hB);obtain⟨j,want,c,e1,e2,e3⟩:=(DX (h5 _ hw)).2 rfl;exact⟨o,(nh h1).1,h2,fun _=>rfl,hB,(show fC S [] from fun p hp=>by grind),cQ.symm,.inl ⟨j,want,c,e1,e2,e3,by rw[qH,<-h3];cases o.dst<;>rfl,rfl⟩⟩
def JC:ee->Bool
 |.mv _|.pick ..|.build ..|.rows ..|.bin ..|.eqs ..|.not _|.neg _|.conv ..|.sD _|.TH _|.AH ..|.field ..|.ox ..|.ph ..|.yv ..|.oJ ..|.slice ..|.extract ..|.HL ..|.AI _|.len ..|.min ..|.max ..=>true
 |_=>false
theorem Xq {o:Op}{q:ee}(h:res P.toTables o=some q) (hq:JC q=false):oP o=false:=by
 refine sX ?_;cases o<;>simp only[res] at h<;>(repeat' split at h)<;>(try cases h)<;>first|rfl|(cases hq;done)|(simp only[m_, *])
def ou:ee->List QO
 |.mv x|.box x|.not x|.neg x|.conv _ x|.sD x|.AH _ x|.field _ _ x|.yD x|.sE x|.AI x|.TH x|.y9 x|.EK _ x|.wj _ x|.rp x|.cap x|.extract x _|.len _ x|.load _ x=>[x]
 |.store _ a b|.bin _ _ a b|.ox _ a b|.ph _ _ a b|.yv a b|.oJ _ _ _ a b|.append _ _ a b|.min a b|.max a b|.look _ _ a b|.eqs _ a b|.del a b|.copy _ a b|.fP _ _ _ a b|.zo _ a b|.iI _ _ a b|.E8 _ _ a b=>[a,b]
 |.pick a b c|.j7 a b c|.oD _ a b c|.zp a b c=>[a,b,c]
 |.slice _ x a b c=>[x]++a.toList++b.toList++c.toList
 |.call f aZ9=>f::aZ9
 |.gj x=>x.toList
 |_=>[]
def DY:List QO->List Nat
 |[]=>[]
 |.t n::l=>n::DY l
 |.c _::l=>DY l
theorem Fe {t:Nat}:∀ {l:List QO},t ∈ DY l->QO.t t ∈ l
 |[],h=>by cases h
 |.t n::l,h=>by
  rcases List.mem_cons.1 h with rfl|h
  ·grind
  ·exact List.mem_cons_of_mem _ (Fe h)
 |.c a::l,h=>List.mem_cons_of_mem _ (Fe (l:=l) h)
theorem TI {o:Op}{q:ee}(hq:JC q=false) (h:res P.toTables o=some q):∀ x ∈ ou q,∃ y ∈ o.operands,x=qo y:=by
 have arr:∀ {c:Call}{x:Operand},x ∈ c.args.toList->x ∈ c.operands:=fun {c x} hx=>by
  have:=Array.mem_toList_iff.1 hx;unfold Call.operands;split<;>simp[this]
 have opt:∀ {z:Option Operand}{x:QO},x ∈ (z.map qo).toList->∃ y,z=some y/\x=qo y:=by
  intro z x hx;cases z with
  |none=>simp at hx
  |some y=>simp at hx;exact⟨y,rfl,hx⟩
 cases o with
 |call c =>
  simp only[res] at h;intro x hx;split at h
  ·rename_i f hf;obtain rfl:=oJ_ h;simp only[ou,List.mem_cons,List.mem_map] at hx;rcases hx with rfl|⟨y,hy,rfl⟩
   ·exact⟨f,by show f ∈ c.operands;simp[Call.operands,hf],rfl⟩
   ·exact⟨y,arr hy,rfl⟩
  ·have key:∀ {u v:Operand},c.args.toList=[u,v]->∀ y,y=u\/y=v->y ∈ c.operands:=fun e y hy=>arr (by rw[e];simpa using hy);have ahW:∀ {u:Operand},c.args.toList=[u]->u ∈ c.operands:=fun e=>arr (by rw[e];simp)
   repeat' split at h
   all_goals first
    |cases h;done
    |(obtain rfl:=oJ_ h
      simp only[ou,List.mem_cons,List.not_mem_nil,or_false] at hx
      first
       |(rcases hx with rfl|rfl
         exact⟨_,key (by assumption) _ (.inl rfl),rfl⟩;exact⟨_,key (by assumption) _ (.inr rfl),rfl⟩)
       |subst hx;exact⟨_,ahW (by assumption),rfl⟩
       |fail "call")
    |fail "callall"
  ·cases h
 |makeMap t r =>
  simp only[res] at h;split at h
  ·obtain rfl:=oJ_ h;intro x hx;obtain⟨y,rfl,rfl⟩:=opt hx;exact⟨y,by simp[Op.operands],rfl⟩
  ·cases h
 |_ =>
  simp only[res] at h
  repeat' split at h
  all_goals first
   |cases h;done
   |(obtain rfl:=oJ_ h
     first
      |cases hq;done
      |intro x hx;cases hx;done
      |(intro x hx
        simp only[ou,List.mem_cons,List.not_mem_nil,or_false] at hx
        first
         |cases hx;done
         |subst hx;exact⟨_,by simp[Op.operands],rfl⟩
         |(rcases hx with rfl|rfl<;>exact⟨_,by simp[Op.operands],rfl⟩)
         |(rcases hx with rfl|rfl|rfl<;>exact⟨_,by simp[Op.operands],rfl⟩)
         |fail "ops")
      |fail "cs")
   |fail "all"
def A5 (L:List Nat) (f:Nat->AV):Nat->AV:=fun t=>match lC t L with|true=>f t|false=>.u
theorem Ct {k:Nat}:∀ {l:List Nat},lC k l=true->k ∈ l
 |[],h=>by cases h
 |j::l,h=>by
  simp only[lC] at h;split at h
  ·rename_i hb;rw[Nat.eq_of_beq_eq_true hb];exact List.mem_cons_self
  ·exact List.mem_cons_of_mem _ (Ct h)
theorem ez.Eo {o:Oper}{β:AA}(hw:∀ t,β.tm t=α.tm t\/β.tm t=.u) (hd:β.df=α.df) (h:ez P w0 n o β S r S'):ez P w0 n o α S r S':=by
 intro F m A g a w next R hF hS hA oC
 refine h F m A g a w next R hF hS ⟨hA.size,fun t ht=>?_,fun t ht=>?_,by rw[hd];exact hA.df,fun k hk=>hA.rY k (by grind)⟩ oC
 ·rcases hw t with e|e
  ·rw[e];exact hA.tm t ht
  ·rw[e];exact .u
 ·rcases hw t with e|e
  ·rw[e];exact hA.out t ht
  ·grind
theorem cu.xop {B:Nat}{V:List (Nat × Nat)}{lg:List (List Nat × List Nat × Bool)}{rs:List Nat}(hw:bm α.tm i.g=some true) (hp:JC i.q=false) (hn:S.nx<=S'.nx) {lw:qj}(hold:∀ k,L4 lw k=true->S'.get k=S.get k) (h:af P w0 false i.q ⟨A5 (DY (ou i.q)) α.tm,α.df⟩ S r S')
  (k:cu P w0 rd n Q (.dN B V (lg++[(lw.1::lw.2,[],true)]) rs l K) (bC i.d α r) S'):cu P w0 rd n Q (.dN B V lg rs (i::l) K) α S:=by
 intro mL hB;refine z6.step (d:=(.none_,some lw)) (fun e=>by grind) (fun ops o rest h1 h2 h3 h4 h5=>?_) (k mL (Nat.le_trans hB hn));have hi:=(nh h1).1;refine⟨o,hi,h2,by grind[rS,Xq],hB,hn,hold,(DX (h5 _ hw)).1 rfl,r,by rw[qH,<-h3];cases o.dst<;>rfl,?_⟩;refine ez.Eo (β:=⟨A5 (DY (ou i.q)) α.tm,α.df⟩) (fun t=>?_) rfl (h n o h4);show A5 (DY (ou i.q)) α.tm t=(α.only (cG o)).tm t\/A5 (DY (ou i.q)) α.tm t=.u;unfold A5;cases hm:lC t (DY (ou i.q)) with
 |false=>exact .inr rfl
 |true =>
  left;obtain⟨y,hy,e⟩:=TI hp h4 _ (Fe (Ct hm));have:t ∈ cG o:=by
   cases y with
   |tmp t' =>
    injection e with e;subst e;exact en hy
   |_=>cases e
  show α.tm t=if (cG o).contains t then α.tm t else .u
  rw[if_pos (by grind)]
theorem cu.ahX {B:Nat}{V:List (Nat × Nat)}{lg:List (List Nat × List Nat × Bool)}{rs:List Nat}(hc:TG V lg=true) (h:cu P w0 rd n Q (.out .normal K) α S):cu P w0 rd n Q (.dN B V lg rs [] K) α S:=by
 intro mL hB;exact fun ops _ _=>⟨fun _=>(.none_,none),α,S,.nil ..,by grind,fun i hi=>(by grind),h⟩
structure wu (P:Program) (f:FuncId) (q:QC × List QR) (n:Nat):Prop where
 out:∃ fn c,P.funcs[f]?=some fn/\fn.body=some c/\fn.ntmps=n/\vm P.toTables fn.results.toList=some q.2/\cB P.toTables n c=some q.1/\cU P c=true/\∀ (xs:Array Value) (w:World),(callFunc f xs).run P w=.ok (.enter f xs) w
def NS (T:Tables) (fn:Func):Option (QC × List QR):=match fn.body with
 |some c=>match cB T fn.ntmps c,vm T fn.results.toList with
  |some q,some qs=>some (q,qs)
  |_,_=>none
 |none=>none
theorem wu.of {f:FuncId}{q:QC × List QR}{fn:Func}{T:Tables}(hf:P.funcs[f]?=some fn) (hq:NS T fn=some q) (hT:P.toTables=T) (hn:fn.ntmps=n) (hd:AD P fn=true)
  (hc:∀ (xs:Array Value) (w:World),(callFunc f xs).run P w=.ok (.enter f xs) w):wu P f q n:=by
 subst hT;unfold NS at hq;unfold AD at hd;cases hb:fn.body with
 |none=>rw[hb] at hq;cases hq
 |some c =>
  rw[hb] at hq hd;simp only at hq;split at hq
  ·rename_i q1 qs h1 h2;obtain rfl:=oJ_ hq;exact⟨⟨fn,c,hf,hb,hn,h2,by grind,hd,hc⟩⟩
  ·grind
theorem cu.mono {Q':Exit->AA->ae->Prop}(hm:∀ ex α S,Q ex α S->Q' ex α S) {c:QC}(h:cu P w0 rd n Q (.run c []) α S):cu P w0 rd n Q' (.run c []) α S:=by
 intro c0 hc hd;obtain⟨ex,au,S',h1,h2⟩:=h c0 hc hd;exact⟨ex,au,S',h1,hm _ _ _ h2⟩
theorem wu.Ep {f:FuncId}{q:QC × List QR}{args:List AV}(F:wu P f q n) (bj:args.length<=n) (hp:Pure r) (h:cu P w0 false n (nS q.2 fun r' S=>aR S r' r) (.run q.1 []) ⟨kG args,[]⟩ ae.none_):ah P w0 f args r:=by
 obtain⟨fn,c,hf,hb,hn,hr,hq,hd,hc⟩:=F.out;exact ah.of_wp hf hb hc hn bj hp (cu.mono (fun ex α S=>yz hr) h c hq hd)
theorem wu.CL {f:FuncId}{q:QC × List QR}{args:List AV}{R:AV->ae->Prop}(F:wu P f q n) (bj:args.length<=n) (h:cu P w0 false n (nS q.2 R) (.run q.1 []) ⟨kG args,[]⟩ S):∃ r S',aC P w0 f args S r S'/\R r S':=by
 obtain⟨fn,c,hf,hb,hn,hr,hq,hd,hc⟩:=F.out;exact aC.of_wp hf hb hc hn bj (cu.mono (fun ex α S=>yz hr) h c hq hd)
end
structure Fr where
 t:Tr AV
 ds:List DE
def cI (F:Fr):AA:=⟨e_ F.t,F.ds⟩
inductive XR where
 |dn (ex:Exit) (F:Fr) (s:XS)
 |mr (cf:QF) (F:Fr) (s:XS)
 |no
abbrev Rec:=Bool->Nat->QF->Fr->XS->XR
structure Env where
 z7:Nat->Option ((QC × List QR) × Nat)
 ext:Nat->List AV->Option AV
 nat:Nat->List AV->Option Value
 JD:Nat->Option AV
 wm:Nat->Bool
 L6:Nat->Value->Bool
 keq:Value->Value->Bool
 seq:Nat->Value->Value->Option Bool
 sp:Nat->Option Nat
 fx:Nat->Bool
def Hm (s:XS):List DE->Option XS
 |[]=>some s
 |.del _ _ _::_=>none
 |.ob k::ks=>match (eW s).get k with
  |some .df=>Hm (lP s k none) ks
  |_=>none
def za (qs:List QR) (ex:Exit) (F:Fr) (s:XS):Option (AV × XS):=match CK ex,Hm s F.ds with
 |true,some s'=>match mJ (e_ F.t) (eW s') qs with
  |some [a]=>some (a,s')
  |some l=>some (.aG l,s')
  |none=>none
 |_,_=>none
def ylX (args:List AV) (s:XS):AV × XS:=match s.an with
 |0=>(.v (.bool false),⟨s.m,s.nx,s.lw,s.yk,0,(args,false)::s.lg⟩)
 |a+1=>(.v (.bool true),⟨s.m,s.nx,s.lw,s.yk,a,(args,true)::s.lg⟩)
def s0X:XS:=⟨.nil,0,0,none,0,[]⟩
def NT (E:Env) (rc:Rec) (g:Nat) (aZ9:List AV):Option AV:=match E.z7 g with
 |none=>none
 |some (c,n)=>match Nat.ble aZ9.length n,g_ (jU 60) aZ9 with
  |true,true=>match rc false n (.run c.1 []) ⟨sK aZ9 0 .nil,[]⟩ s0X with
   |.dn ex F s'=>match s'.lg,za c.2 ex F s' with
    |[],some (r,s2)=>match jU 60 r with
     |true=>some r
     |false=>iz (eW s2) 60 r
    |_,_=>none
   |_=>none
  |_,_=>none
def fcX (E:Env) (rc:Rec) (g:Nat) (aZ9:List AV):Option (Nat × Nat × List (List AV) × Nat × Bool):=match E.z7 g with
 |none=>none
 |some (c,n)=>match Nat.ble aZ9.length n,g_ (jU 60) aZ9 with
  |true,true=>match rc false n (.run c.1 []) ⟨sK aZ9 0 .nil,[]⟩ s0X with
   |.dn ex F s'=>match s'.lg,za c.2 ex F s' with
    |[],some (.ob k sz 0 len none,s2)=>match (eW s2).get k with
     |some (.arr sz' rows fz ex)=>match Nat.beq sz' sz && tM (jU 60) rows with
      |true=>some (sz,len,rows,fz,ex)
      |false=>none
     |_=>none
    |_,_=>none
   |_=>none
  |_,_=>none
def JE (E:Env) (rc:Rec) (g:Nat) (aZ9:List AV):Option AV:=match E.ext g aZ9 with
 |some r=>some r
 |none=>match E.JD g with
  |some v=>match aZ9 with
   |[.fn (.func h) first cap]=>match NT E rc h (first++cap) with
    |some (.aG [])=>some v
    |_=>none
   |_=>none
  |none=>NT E rc g aZ9
def NU:Nat->AV->Bool
 |0,_=>false
 |m+1,a=>match a with
  |.v _=>true
  |.aG l|.agg l=>g_ (NU m) l
  |_=>false
def zcX (E:Env) (rc:Rec) (g:Nat) (aZ9:List AV) (s:XS):Option AV:=match g_ (jU 60) aZ9 with
 |true=>JE E rc g aZ9
 |false=>match l4 (iz (eW s) 60) aZ9 with
  |some qi=>match JE E rc g qi with
   |some r=>match NU 9 r with
    |true=>some r
    |false=>none
   |none=>none
  |none=>none
def VQ (E:Env) (rc:Rec) (g:Nat) (aZ9:List AV) (s:XS):Option (AV × XS):=match E.z7 g with
 |none=>none
 |some (c,n)=>match Nat.ble aZ9.length n with
  |true=>match rc false n (.run c.1 []) ⟨sK aZ9 0 .nil,[]⟩ ⟨s.m,s.nx,s.nx,s.yk,s.an,s.lg⟩ with
   |.dn ex F s'=>za c.2 ex F s'
   |_=>none
  |false=>none
def Qt (s:XS) (kb:Nat):XS:=match eB s.yk kb,(eW s).get kb with
 |false,some (.arr sz [.ob k sz' 0 m none::cs] fz ex)=>match eB s.yk k,Nat.beq kb k,(eW s).get k with
  |false,false,some (.arr gw rows Gy ex')=>match Nat.beq sz' gw && Nat.beq m rows.length with
   |true=>lP (lP s k (some (.arr gw rows rows.length ex'))) kb (some (.arr sz [.sl false rows::cs] fz ex))
   |false=>s
  |_,_,_=>s
 |_,_=>s
def L7 (E:Env) (g:Nat) (s:XS):XS:=match E.sp g with
 |some kb=>Qt s kb
 |none=>s
def fxX (E:Env) (g:Nat) (aZ9:List AV) (s:XS):Option (AV × XS):=match E.fx g with
 |true=>match IZ s aZ9 with
  |some (qi,s1)=>match E.ext g qi with
   |some r=>some (r,s1)
   |none=>none
  |none=>none
 |false=>none
def AP (E:Env) (rc:Rec) (fw:Bool) (fv:AV) (args:List AV) (s:XS):Option (AV × XS):=match fv with
 |.yl k=>match eB s.yk k with
  |true=>match IZ s args with
   |some (args',s1)=>some (ylX args' s1)
   |none=>none
  |false=>none
 |fv=>match dW fv args with
  |none=>none
  |some (g,aZ9)=>match E.nat g aZ9 with
   |some v=>match fv with
    |.v _=>some (.v v,s)
    |_=>none
   |none=>match (match E.wm g || fw with|true=>E.ext g aZ9|false=>zcX E rc g aZ9 s) with
    |some r=>some (r,s)
    |none=>match fxX E g aZ9 s with
     |some q=>some q
     |none=>match VQ E rc g aZ9 (L7 E g s) with
      |some (r,s')=>some (r,⟨s'.m,s'.nx,Nat.min (L7 E g s).lw s'.lw,s'.yk,s'.an,s'.lg⟩)
      |none=>none
def Qu (E:Env) (q:ee) (f:Nat->AV):Option AV:=match q with
 |.eqs t x y=>match toV (x.ev f),toV (y.ev f) with
  |some a,some b=>match E.seq t a b with
   |some e=>some (.v (.bool e))
   |none=>none
  |_,_=>none
 |_=>none
def JF (E:Env) (kt:Nat):List (Value × AV)->Bool
 |[]=>true
 |p::l=>match E.L6 kt p.1 with|true=>JF E kt l|false=>false
def JG (E:Env) (rc:Rec) (fw:Bool) (q:ee) (f:Nat->AV) (s:XS):Option (AV × XS):=match q with
 |.call g aZ9=>AP E rc fw (g.ev f) (aZ9.map (·.ev f)) s
 |.append sz by_ a b=>match Ns sz by_ s (a.ev f) (b.ev f) with
  |some r=>some r
  |none=>match a.ev f,dF (eW s) (b.ev f) with
   |.sl ex rows,some []=>some (.sl ex rows,s)
   |.sl ex rows,none=>match b.ev f with
    |.v (.slice _ 0 _)=>some (.sl ex rows,s)
    |_=>none
   |_,_=>none
 |.fP kt z c x i=>match x.ev f,toV (i.ev f) with
  |.mp k,some v=>match (eW s).get k with
   |some (.mp es)=>match E.L6 kt v && JF E kt es with
    |true=>some ((match fP (E.keq v) es with|some a=>(if c then .aG [a,.v (.bool true)] else a)|none=>(if c then .aG [z,.v (.bool false)] else z)),s)
    |false=>none
   |_=>none
  |_,_=>none
 |.oD kt x i b=>match x.ev f,toV (i.ev f) with
  |.mp k,some v=>match (eW s).get k with
   |some (.mp es)=>match E.L6 kt v && JF E kt es,mG (E.keq v) es with
    |true,none=>some (.v undef,lP s k (some (.mp (es++[(v,b.ev f)]))))
    |_,_=>none
   |_=>none
  |_,_=>none
 |q=>match Qu E q f with
  |some r=>some (r,s)
  |none=>tW false q f s
def VR (E:Env) (rc:Rec) (fw:Bool) (q:ee) (f:Nat->AV) (s:XS):Option (AV × XS):=match Jx q f s with
 |some r=>some r
 |none=>JG E rc fw q f s
def NV (body:Fr->XS->XR):Nat->Fr->XS->Option (Exit × Fr × XS)
 |0,_,_=>none
 |k+1,F,s=>match body F s with
  |.dn ex F' s'=>match ex with
   |.normal=>NV body k F' s'
   |e=>some (e,F',s')
  |_=>none
def aW (s:XS) (W:List (Nat × Option Ob)) (m:Bool):Option XS:=match W,m with
 |[],false=>some s
 |[(k,o)],false=>match eB s.yk k with
  |false=>some (lP s k o)
  |true=>none
 |[(k,some o)],true=>match Nat.beq k s.nx && !eB s.yk s.nx with
  |true=>some (mo s o)
  |false=>none
 |[(k,some o),(j,none)],true=>match Nat.beq k s.nx && !eB s.yk s.nx && !eB s.yk j with
  |true=>some (mo (lP s j none) o)
  |false=>none
 |_,_=>none
def NW (s:XS):List Nat->Option XS
 |[]=>some s
 |k::ks=>match NW s ks with
  |some s'=>match eB s'.yk k with
   |false=>some (lP s' k (some .un))
   |true=>none
  |none=>none
def Ff (d:Option Nat):List QI->Bool
 |[]=>false
 |i::l=>match i.q,d with
  |.append _ _ (.t t) _,some d=>match Nat.beq t d with|true=>true|false=>Ff (some d) l
  |_,d=>Ff d l
def VS (E:Env) (rc:Rec) (fr:Bool) (q:ee) (f:Nat->AV) (s:XS) (rs:List Nat):Option (AV × (List Nat × List Nat × Bool) × List Nat × XS):=match tR true q f with
 |some r=>some (r,([],[],false),rs,s)
 |none=>match Qu E q f with
  |some r=>some (r,([],[],false),rs,s)
  |none=>match q with
   |.call g aZ9=>match dW (g.ev f) (aZ9.map (·.ev f)) with
    |some (h,aZ9)=>match (match fr,eB s.yk s.nx with|true,false=>fcX E rc h aZ9|_,_=>none) with
     |some (sz,len,rows,fz,ex)=>some (.ob s.nx sz 0 len none,([],[s.nx],true),rs,mo s (.arr sz rows fz ex))
     |none=>match JE E rc h aZ9 with
      |some r=>some (r,([],[],false),rs,s)
      |none=>none
    |none=>none
   |.append sz by_ a b=>match Tw sz by_ s (a.ev f) (b.ev f) with
    |some (r,d)=>match aW s d.W d.m with
     |some s'=>some (r,d.ns,rs,s')
     |none=>none
    |none=>none
   |q=>match dq q f (eW s) rs with
    |some (r,d,o8)=>match aW s d.W d.m with
     |some s'=>some (r,d.ns,o8,s')
     |none=>none
    |none=>none
def TJ:QC->Option (Option (List QI) × List QI)
 |.skip=>some (none,[])
 |.aN false l=>some (none,l)
 |.seq (.aN false a) (.aN false l)=>some (some a,l)
 |_=>none
def NY (rc:Rec) (n:Nat) (qa qb:QC) (F:Fr) (s:XS):XR:=match TJ qa with
 |some (none,l)=>rc true n (.aN false l [.seq qb]) F s
 |some (some a,l)=>match rc true n (.aN false a []) F s with
  |.dn .normal F1 s1=>match Nat.beq s1.lg.length s.lg.length with
   |true=>rc true n (.aN false l [.seq qb]) F1 s1
   |false=>.no
  |_=>.no
 |none=>.no
def z8 (rc:Rec) (n B N:Nat) (qa:QC) (qb:QC) (ps:List Nat) (t:Tr AV):List (List AV × Bool)->XS->Option (Exit × XS)
 |[],s=>some (.normal,s)
 |(x,b)::rest,s=>match Nat.beq x.length ps.length && g_ (jU 60) x with
  |true=>match NY rc n qa qb ⟨AT t (ps.zip x),[]⟩ s with
   |.dn ex F s2=>match F.ds,Vw B N s2 with
    |[],some s3=>match ex,b,rest with
     |.normal,true,rest=>z8 rc n B N qa qb ps t rest s3
     |.ret,false,[]=>some (.ret,s3)
     |.exit id,false,[]=>some (.exit id,s3)
     |_,_,_=>none
    |_,_=>none
   |_=>none
  |false=>none
def aaL (rc:Rec) (n B N:Nat) (qa:QC) (qb:QC) (ps:List Nat) (t:Tr AV):List (List AV × Bool)->XS->Nat->Option Nat
 |[],s,i=>none
 |(x,b)::rest,s,i=>match NY rc n qa qb ⟨AT t (ps.zip x),[]⟩ s with
  |.dn ex F s2=>match ex with
   |.normal=>match Vw B N s2 with
    |some s3=>aaL rc n B N qa qb ps t rest s3 (i+1)
    |none=>none
   |_=>some i
  |_=>none
def NZ (E:Env) (rc:Rec) (g:Nat) (aZ9:List AV) (an:Nat):Option (List (List AV × Bool)):=match VQ E rc g aZ9 ⟨.nil,1,1,some 0,an,[]⟩ with
 |some (_,s)=>some s.lg.reverse
 |none=>none
def N0 (B:Nat):List (Nat × AV)->Bool
 |[]=>true
 |p::l=>match vD B 60 p.2 with|true=>N0 B l|false=>false
def N4 (B:Nat) (s:XS):List (Nat × Option Ob)->Bool
 |[]=>true
 |p::l=>match Nat.blt p.1 B && (match p.2 with|some o=>Tk B o|none=>true) with|true=>N4 B s l|false=>false
def TK (rc:Rec) (E:Env) (gid:Nat) (aZ9:List AV) (R:List (List AV × Bool)->Option (Exit × XS)) (C:List (List AV × Bool)->Option Nat):Option (Exit × XS):=match NZ E rc gid aZ9 1000000 with
 |some lg=>match R lg with
  |some q=>some q
  |none=>match C lg with
   |some i=>match NZ E rc gid aZ9 i with
    |some lg=>R lg
    |none=>none
   |none=>none
 |none=>none
def TL (E:Env) (rc:Rec) (n:Nat) (a:AV) (ps:List Nat) (qa qb:QC) (F:Fr) (s:XS):Option (Exit × Fr × XS):=match a with
 |.fn (.func gid) first cap =>
  match g_ (jU 60) first && g_ (jU 60) cap && ps.all (Nat.blt · n) && !eB s.yk s.nx && F.ds.all (fun d=>Nat.blt d.k (s.nx+1)) && N0 (s.nx+1) (toLk F.t) && N4 (s.nx+1) s (toLk (mo s .df).m) && nu (s.nx+1) [] (DL (mo s .df)) && (match s.yk with|some k=>Nat.blt k (s.nx+1)|none=>true) with
  |true =>
   match TK rc E gid (first++[.yl 0]++cap) (fun lg=>z8 rc n (s.nx+1) (s.nx+41) qa qb ps F.t lg ⟨(mo s .df).m,s.nx+41,0,s.yk,s.an,s.lg⟩) (fun lg=>aaL rc n (s.nx+1) (s.nx+41) qa qb ps F.t lg ⟨(mo s .df).m,s.nx+41,0,s.yk,s.an,s.lg⟩ 0) with
   |some (ex,s')=>some (ex,⟨F.t,s.nx::F.ds⟩,s')
   |none=>none
  |false=>none
 |_=>none
def TM (x:QO) (F:Fr) (s:XS):Option (Fr × XS):=match x with
 |.t t=>match e_ F.t t with
  |.fn f first cap=>match g_ (jU 60) first && g_ (jU 60) cap with
   |true=>none
   |false=>match IZ s [.fn f first cap] with
    |some ([a],s')=>some (⟨put F.t t a,F.ds⟩,s')
    |_=>none
  |_=>none
 |_=>none
def JH (s s':XS):Nat:=match Nat.beq s'.lg.length s.lg.length with|true=>s'.lw|false=>0
def VT (s s':XS):List Nat:=match Nat.beq s'.lg.length s.lg.length with
 |true=>(DL s).filter fun k=>match eB s.yk k with|true=>false|false=>TE (fb s k) (fb s' k)
 |false=>[]
def mI (E:Env) (rc:Rec) (rd:Bool) (n:Nat):QF->Fr->XS->XR
 |.run c K,F,s=>match c with
  |.skip=>.mr (.out .normal K) F s
  |.aN true l=>.no
  |.aN false l=>.mr (.aN false l K) F s
  |.dN V l=>match NW s (iX l s.nx) with
   |some s'=>.mr (.dN (s.nx+(iX l s.nx).length) V [] (iX l s.nx) l K) F ⟨s'.m,s.nx+(iX l s.nx).length,s'.lw,s'.yk,s'.an,s'.lg⟩
   |none=>.no
  |.seq a c=>.mr (.run a (.seq c::K)) F s
  |.cond x a c=>match x.ev (e_ F.t) with
   |.v (.bool true)=>.mr (.run a K) F s
   |.v (.bool false)=>.mr (.run c K) F s
   |_=>.no
  |.block id c=>.mr (.run c (.qe id::K)) F s
  |.scope c=>.mr (.run c (.yN::K)) F s
  |.loop c=>match NV (fun F s=>rc rd n (.run c []) F s) 400 F s with
   |some (ex,F',s')=>.mr (.out ex K) F' s'
   |none=>.no
  |.exit id=>.mr (.out (.exit id) K) F s
  |.ret=>.mr (.out .ret K) F s
  |.wM x ps a c=>match TM x F s with
   |some (F',s')=>.mr (.run (.wM x ps a c) K) F' s'
   |none=>match rd,TL E rc n (x.ev (e_ F.t)) ps a c F s with
    |false,some (ex,F',s')=>.mr (.out ex K) F' s'
    |_,_=>.no
  |_=>.no
 |.out ex K,F,s=>match K with
  |[]=>.dn ex F s
  |.seq c::K=>match ex with
   |.normal=>.mr (.run c K) F s
   |e=>.mr (.out e K) F s
  |.qe id::K=>match ex with
   |.exit j=>match Nat.beq j id with
    |true=>.mr (.out .normal K) F s
    |false=>.mr (.out (.exit j) K) F s
   |e=>.mr (.out e K) F s
  |.yN::K=>match ex with
   |.goto _=>.no
   |e=>.mr (.out e K) F s
 |.aN true l K,F,s=>.no
 |.aN false l K,F,s=>match l with
  |[]=>.mr (.out .normal K) F s
  |i::l=>match bm (e_ F.t) i.g with
   |some true=>match VR E rc (Ff i.d l) i.q (e_ F.t) s with
    |some (r,s')=>.mr (.aN false l K) ⟨xf i.d F.t r,F.ds⟩ s'
    |none=>.no
   |some false=>.mr (.aN false l K) ⟨xf i.d F.t (.v undef),F.ds⟩ s
   |none=>.no
 |.dN B V lg rs l K,F,s=>match l with
  |[]=>match TG V lg with
   |true=>.mr (.out .normal K) F s
   |false=>.no
  |i::l=>match bm (e_ F.t) i.g with
   |some true=>match (match JC i.q || inV lg.length V with|true=>VS E rc (Ff i.d l) i.q (e_ F.t) s rs|false=>none) with
    |some (r,ns,o8,s')=>match Gs ns with
     |none=>.mr (.dN B V (lg++[ns]) o8 l K) ⟨xf i.d F.t r,F.ds⟩ s'
     |some _=>.no
    |none=>match JC i.q with
     |true=>.no
     |false=>match VR E rc (Ff i.d l) i.q (A5 (DY (ou i.q)) (e_ F.t)) ⟨s.m,s.nx,s.nx,s.yk,s.an,s.lg⟩ with
      |some (r,s')=>.mr (.dN B V (lg++[(JH s s'::VT s s',[],true)]) rs l K) ⟨xf i.d F.t r,F.ds⟩ ⟨s'.m,s'.nx,Nat.min s.lw s'.lw,s'.yk,s'.an,s'.lg⟩
      |none=>.no
   |some false=>.mr (.dN B V (lg++[([],[],false)]) rs l K) ⟨xf i.d F.t (.v undef),F.ds⟩ s
   |none=>.no
def Qv (f:QF->Fr->XS->XR):Nat->QF->Fr->XS->XR
 |0,c,t,s=>f c t s
 |k+1,c,t,s=>match Qv f k c t s with
  |.mr c t s=>Qv f k c t s
  |r=>r
def N5 (E:Env):Nat->Rec
 |0=>fun _ _ _ _ _=>.no
 |m+1=>fun rd n c F s=>Qv (mI E (N5 E m) rd n) 14 c F s
end Go.Proofs.YtbpabjmnhggajaaGreat
