import Derived.Test.YtbofilglphfceaaGreatQ40
import Derived.Test.YtbofilglphfceaaGreatQ41
namespace Go.Proofs.YtbofilglphfceaaGreat
set_option linter.unusedVariables false
set_option linter.unusedSimpArgs false
open Go.RowKit
section
variable {P:Program}{w0:World}{n:Nat}{o:Oper}{α:AA}{S S':ae}{r:AV}
theorem yR (w:World) (t t2 ty e:TypeId) (i:TypeInfo) (z:Value) {kk k:IntKind}(ht:P.underlying t=some (.slice e)) (eZ:P.underlying t2=some (.int kk)) (hi:P.info? e=some i) (hz:i.zero=some z) (B:Option Addr) (n:Nat) (hs:0 < i.size)
  (h0:0 < n) (h63:(n:Int)<=9223372036854775807) (h48:n*i.bytes<=281474976710656) :
  (Builtin.append_ #[t,t2] ty #[.slice B 0 0,.int k n]).run P w =
   .ok (.slice (some ⟨w.heap.size,0,none⟩) n (grownCap w n 0 e)) (w.drew.alloc (.cells (Builtin.zeroCells z.cells n++Builtin.zeroCells z.cells (grownCap w n 0 e - n)) e)):=by
 have hn:n ≠ 0:=by omega
 have Uf:i.size ≠ 0:=by omega
 have aci:¬ (9223372036854775807 < (n:Int)):=by omega
 have acj:¬ (281474976710656 < Builtin.nextslicecap n 0*i.bytes):=by rw [nextslicecap_zero h0];omega
 have hw:IntKind.i64.wrap (n:Int)=n:=by rw [IntKind.wrap_i64];omega
 have ack:¬ (n:Int) < 0:=by omega
 have acm:¬ (281474976710656 < (n:Int)*i.bytes):=by
  intro h
  have:(281474976710656:Int) < ((n*i.bytes:Nat):Int):=by rw [Int.natCast_mul];exact h
  omega
 have BP:∀ w:World,(Builtin.firstCells i.size 0 (.slice B 0 0)).run P w=.ok #[] w:=fun w=>by
  cases B with
  |none=>simp [Builtin.firstCells]
  |some b=>simpa using run_firstCells_some (P:=P) (w:=w) i.size 0 b 0 0 [] (by simp) (fun j v h=>by simp at h)
 simp [Builtin.append_,run_underlying ht,run_underlying eZ,sizeOf,typeInfo,zeroValue,hi,hz,asInt,asIntOf,hw,ack,acm,hn,Uf,aci,acj,Question.forced,BP,newRow,grownCap]
 intro h
 rcases Nat.mul_eq_zero.1 h with h|h
 ·omega
 ·omega
theorem Mn {z:List AV}{by_:Nat}{a b:QO}{o:Op}(h:res P.toTables o=some (.zW z by_ a b)):∃ c t t2 u v e kk zv sz,o=.call c/\c.callee=.builtin .append/\c.argTypes=#[t,t2]/\c.args=#[u,v]/\a=qo u/\b=qo v/\P.underlying t=some (.slice e)/\P.underlying t2=some (.int kk)/\c_ P e=some zv /\
  cQ P e=some sz/\fN P e=some by_/\zv.cells.size=sz/\0 < by_/\z=zv.cells.toList.map bV:=by
 have two:∀ {β:Type}{x y:β}{l:Array β},l.toList=[x,y]->l=#[x,y]:=fun {β x y l} h=>by rw [<-Array.toArray_toList (xs:=l),h]
 cases o<;>simp only [res,b9,dY,j7,gD,jz] at h<;>(repeat' split at h)<;>(try cases h)
 rename_i hb
 simp only [Bool.and_eq_true] at hb
 exact⟨_,_,_,_,_,_,_,_,_,rfl,by assumption,two (by assumption),two (by assumption),rfl,rfl,kN (by assumption),by assumption,by assumption,by assumption,by assumption,Nat.eq_of_beq_eq_true hb.1,dR hb.2,rfl⟩
theorem ad.YG {z:List AV}{by_:Nat}{a b:QO}{k:IntKind}{m:Int}(h1:a.ev α.tm=.sl true []) (h2:b.ev α.tm=.v (.int k m)) (h0:0 < m) (h4:m*by_<=35184372088832) (hz:0 < z.length) :
  ad P w0 false (.zW z by_ a b) α S (.ob S.nx z.length 0 m.toNat none) (S.new (.arr z.length (List.replicate m.toNat z) 0 false)):=ad.run fun n o hr=>by
 obtain⟨c,t,t2,u,v,e,kk,zv,sz,ho,hc,fe,bA,rfl,rfl,ht,eZ,Kf,hs,jH,kB,fL,rfl⟩:=Mn hr
 have hzl:(zv.cells.toList.map bV).length=sz:=by simp [kB]
 rw [hzl] at hz ⊢
 rw [aR] at h1 h2
 intro A g q w hS hA
 have g1:=hA.ev u
 have g2:=hA.ev v
 rw [h1] at g1
 rw [h2] at g2
 obtain⟨B,cc,e1,_,lE⟩:=m7 g1
 have wi:cc=0:=by simpa using lE rfl
 subst wi
 have e2:=ca g2
 obtain⟨i,hi,bH⟩:=ic hs
 have o6:i.zero=some zv:=by unfold c_ at Kf;rw [hi] at Kf;simpa using Kf
 have AH:i.bytes=by_:=by unfold fN at jH;rw [hi] at jH;simpa using jH
 obtain⟨m',rfl⟩:∃ m':Nat,m=m':=⟨m.toNat,by omega⟩
 have kO:0 < m':=by omega
 have h4':m'*by_<=35184372088832:=by
  have:((m'*by_:Nat):Int)<=35184372088832:=by rw [Int.natCast_mul];exact h4
  omega
 have hmul:m'<=35184372088832:=Nat.le_trans (Nat.le_mul_of_pos_right _ fL) h4'
 have cr:=yR (P:=P) w t t2 o.type e i zv (k:=k) ht eZ hi o6 B m' (by omega) kO (by omega) (by rw [AH];omega)
 have uO:=grownCap_ge w m' 0 e
 obtain⟨Pf,Ug⟩:=hS.drew
 have qv:∀ q,¬ g.fz w.heap.size q:=fun q hf=>absurd (hS.cG _ _ hf) (Nat.lt_irrefl _)
 obtain⟨hE,dg⟩:=Ug.new (.cells (Builtin.zeroCells zv.cells m'++Builtin.zeroCells zv.cells (grownCap w m' 0 e - m')) e) (.arr sz (List.replicate m' (zv.cells.toList.map bV)) 0 false) (grownCap w m' 0 e) (fun J=>by simp) (fun hL=>by
  refine⟨_,e,dk,?_,by simpa using uO,fun h=>by simp at h,fun p row hr=>?_,Nat.zero_le _,fun q=>⟨fun h=>absurd h (qv q),fun h=>by simp at h⟩⟩
  ·simp only [Array.size_append,size_zeroCells,kB]
   rw [<-Nat.add_mul]
   congr 1
   omega
  ·obtain⟨gC,rfl⟩:=List.getElem?_eq_some_iff.1 hr
   simp only [List.length_replicate] at gC
   simp only [List.getElem_replicate]
   refine⟨hzl,fun j b' hj=>?_⟩
   simp only [List.getElem?_map,Option.map_eq_some_iff] at hj
   obtain⟨y,hy,rfl⟩:=hj
   have va:j < sz:=by
    have:=(List.getElem?_eq_some_iff.1 hy).1
    simp at this
    omega
   refine⟨y,?_,jF y⟩
   have au:p*sz+j < m'*sz:=jr gC va
   have gY:j < zv.cells.size:=by omega
   have e3:(p*sz+j) % zv.cells.size=j:=by
    rw [kB,Nat.mul_comm,Nat.mul_add_mod]
    exact Nat.mod_eq_of_lt va
   rw [Array.getElem?_append_left (by rw [size_zeroCells,kB];exact au)]
   unfold Builtin.zeroCells
   rw [Array.getElem?_map,Array.getElem?_range,if_pos (by rw [kB];exact au)]
   simp only [Option.map_some,e3]
   rw [getElem!_pos zv.cells j gY,<-hy,Array.getElem?_toList,Array.getElem?_eq_getElem gY])
 have hx:(execOp q.eval o).run P w=.ok (.value (.slice (some ⟨w.heap.size,0,none⟩) m' (grownCap w m' 0 e))) (w.drew.alloc (.cells (Builtin.zeroCells zv.cells m'++Builtin.zeroCells zv.cells (grownCap w m' 0 e - m')) e)):=by
  have hx:(execOp q.eval o).run P w=((Builtin.append_ #[t,t2] o.type #[q.eval u,q.eval v]).run P w).andThen fun v w'=>.ok (.value v) w':=by
   simp [execOp,ho,resolve,hc,fe,bA,invoke,builtin]
  rw [hx,e1,e2]
  simp only [List.length_nil]
  rw [cr]
  rfl
 refine⟨_,_,_,.inl hx,?_,dg,Pf.trans hE⟩
 have:=aJ.ob (g:=g.new S.nx w.drew.heap.size (grownCap w m' 0 e)) (w:=w.drew.alloc (.cells (Builtin.zeroCells zv.cells m'++Builtin.zeroCells zv.cells (grownCap w m' 0 e - m')) e))
  (k:=S.nx) (sz:=sz) (off:=0) (len:=m') (c:=grownCap w m' 0 e) (cx:=none) (.inr rfl) (fun m h=>by cases h) (by rw [Nat.zero_add];exact Nat.le_of_eq (aE _ _ _).symm) (fun _=>by rw [Nat.zero_add];exact (aE _ _ _).symm) uO
 rw [show (g.new S.nx w.drew.heap.size (grownCap w m' 0 e)).ob S.nx=w.heap.size from aE _ _ _,Nat.zero_mul] at this
 exact this
theorem Rw {a:QO}{o:Op}(h:res P.toTables o=some (.cap a)):∃ c t u e,o=.call c/\c.callee=.builtin .cap/\c.argTypes=#[t]/\c.args=#[u]/\a=qo u/\P.underlying t=some (.slice e):=by
 cases o<;>simp only [res,b9] at h<;>(repeat' split at h)<;>(try cases h)
 exact⟨_,_,_,_,rfl,by assumption,toList_one (by assumption),toList_one (by assumption),rfl,by assumption⟩
def Mo:AV->Option Nat
 |.sl true rows=>some rows.length
 |.ob _ _ _ _ (some c)=>some c
 |_=>none
theorem ad.cap {x:QO}{m:Nat}(hx:Mo (x.ev α.tm)=some m):ad P w0 false (.cap x) α S (.v (.int .i64 m)) S:=ad.run fun n o hr=>by
 obtain⟨c,t,u,e,ho,hc,fe,bA,rfl,hu⟩:=Rw hr
 rw [aR] at hx
 refine bf.quiet fun A g q w hS hA=>?_
 have h1:=hA.ev u
 have key:∃ B l,q.eval u=.slice B l m:=by
  unfold Mo at hx
  split at hx
  ·rename_i rows e1
   rw [e1] at h1
   obtain rfl:=Option.some.inj hx
   obtain⟨B,cc,e2,_,lE⟩:=m7 h1
   rw [lE rfl] at e2
   exact⟨_,_,e2⟩
  ·rename_i k sz off len c' e1
   rw [e1] at h1
   obtain rfl:=Option.some.inj hx
   obtain⟨cc,e2,_,lE,_⟩:=fV h1
   rw [lE _ rfl] at e2
   exact⟨_,_,e2⟩
  ·cases hx
 obtain⟨B,l,e2⟩:=key
 refine⟨_,?_,.v⟩
 simp [execOp,ho,resolve,hc,fe,bA,invoke,builtin,e2,Builtin.cap_,run_underlying hu,goInt]
end
def G3 (q:dm) (f:Nat->AV) (s:XS):Option (AV × XS):=match q with
 |.zW z by_ a b=>match a.ev f,b.ev f with
  |.sl true [],.v (.int _ m)=>match decide (0 < m/\m*by_<=35184372088832) && Nat.blt 0 z.length && !dZ s.yk s.nx with
   |true=>some (.ob s.nx z.length 0 m.toNat none,j5 s (.arr z.length (List.replicate m.toNat z) 0 false))
   |false=>none
  |_,_=>none
 |.cap x=>match Mo (x.ev f) with
  |some m=>some (.v (.int .i64 m),s)
  |none=>none
 |q=>Dq q f s
section
variable {P:Program}{w0:World}{s s':XS}{r:AV}
theorem G4 {q:dm}{f:Nat->AV}{df:List Nat}(h:G3 q f s=some (r,s')):(∀ J,ad P w0 false q ⟨f,df⟩ (den J s) r (den J s'))/\dU s s'/\s'.lg=s.lg:=by
 cases q with
 |zW z by_ a b =>
  simp only [G3] at h
  split at h
  ·rename_i k m ha hb
   split at h
   ·rename_i hc
    simp only [Bool.and_eq_true,Bool.not_eq_true'] at hc
    obtain⟨⟨h1,h2⟩,h3⟩:=hc
    have h1:=of_decide_eq_true h1
    simp only [Option.some.injEq,Prod.mk.injEq] at h
    obtain⟨rfl,rfl⟩:=h
    refine⟨fun J=>?_,.nw,rfl⟩
    rw [iq h3]
    exact ad.YG ha hb h1.1 h1.2 (dR h2)
   ·cases h
  ·cases h
 |cap x =>
  simp only [G3] at h
  split at h
  ·rename_i m hm
   simp only [Option.some.injEq,Prod.mk.injEq] at h
   obtain⟨rfl,rfl⟩:=h
   exact⟨fun J=>ad.cap hm,.refl _,rfl⟩
  ·cases h
 |_=>exact Kg h
end
section
variable {P:Program}{w0:World}{n B:Nat}{α aA:AA}{S S':ae}{r:AV}{ops:Array Oper}{D:Nat->Dt × Option Nat}
def Dr (P:Program) (w0:World) (n:Nat) (ops:Array Oper) (B:Nat) (i:Nat) (d:Dt × Option Nat) (α:AA) (S:ae) (α1:AA) (S1:ae):Prop:=match d.2 with
 |none=>lW P w0 n ops B i d.1 α S α1 S1
 |some l=>∃ o,ops[i]?=some o/\(match o.dst with|some d=>Nat.blt d n|none=>true)=true/\oV ops i=false/\B<=S.nx/\S.nx<=S1.nx/\(∀ k,k < l->S1.get k=S.get k) /\
   (o.guard=none\/∃ j want,o.guard=some (j,want)/\mR ops α j=some (some want))/\∃ r,α1=α.put o.dst r/\ew P w0 n o (α.only (dp o)) S r S1
def AS (x:List Nat × List Nat × Bool) (l:Nat):Bool:=match x with
 |(F,[],false)=>F.all (Nat.blt · l)
 |_=>false
def wC (d:Dt × Option Nat):List Nat × List Nat × Bool:=match d.2 with
 |none=>d.1.ns
 |some l=>([l],[],true)
def AT (x:List Nat × List Nat × Bool):Option Nat:=match x with
 |([l],[],true)=>some l
 |_=>none
def zX (d e:Dt × Option Nat):Prop:=match d.2,e.2 with
 |none,none=>dj d.1.ns e.1.ns=true
 |some l,none=>AS e.1.ns l=true
 |none,some l=>AS d.1.ns l=true
 |some _,some _=>False
theorem zY {d:Dt}{l:Nat}{T T':ae}(h:AS d.ns l=true) (ht:∀ k,k < l->T'.get k=T.get k) (ha:kE T d.F):kE T' d.F/\d.W=[]/\d.m=false:=by
 obtain⟨F,W,m⟩:=d
 unfold AS Dt.ns at h
 cases W with
 |cons=>cases h
 |nil =>
  cases m with
  |true=>cases h
  |false =>
   refine⟨fun p hp=>?_,rfl,rfl⟩
   have:=List.all_eq_true.1 h p.1 (List.mem_map.2 ⟨p,hp,rfl⟩)
   rw [ht _ (dR this)]
   exact ha p hp
theorem AU {oi oj:Oper}(h:∀ d,oi.dst=some d->d ∉ oj.looksAt ops):(∀ e,oi.dst=some e->e ∉ dp oj)/\∀ q want,oj.guard=some (q,want)->∀ e,oi.dst=some e->(ops[q]?).bind (·.dst) ≠ some e:=by
 refine⟨fun e he hm=>h e he (oI hm),fun q want hg e he h3=>h e he (List.mem_append.2 (.inr ?_))⟩
 rw [hg]
 simp only
 rw [h3]
 simp
theorem zZ {o:Oper}{d:Option Tmp}{a:AV}(h2:∀ q want,o.guard=some (q,want)->∀ e,d=some e->(ops[q]?).bind (·.dst) ≠ some e) :
  (o.guard=none\/∃ j want,o.guard=some (j,want)/\mR ops (α.put d a) j=some (some want)) ↔ (o.guard=none\/∃ j want,o.guard=some (j,want)/\mR ops α j=some (some want)):=by
 constructor
 ·rintro (hg|⟨q,want,hg,hy⟩)
  ·exact .inl hg
  ·exact .inr ⟨q,want,hg,by rw [<-kT (h2 q want hg)];exact hy⟩
 ·rintro (hg|⟨q,want,hg,hy⟩)
  ·exact .inl hg
  ·exact .inr ⟨q,want,hg,by rw [kT (h2 q want hg)];exact hy⟩
theorem Dr.swap {i j:Nat}{di kU:Dt × Option Nat}{oi oj:Oper}{α1 rA:AA}{S1 S2:ae}(hi:ops[i]?=some oi) (hj:ops[j]?=some oj) (kD:oi.apart ops oj=true)
  (hd:zX di kU) (h:Dr P w0 n ops B i di α S α1 S1) (k:Dr P w0 n ops B j kU α1 S1 rA S2) :
  ∃ qH ve,Dr P w0 n ops B j kU α S qH ve/\Dr P w0 n ops B i di qH ve rA S2:=by
 obtain⟨di,xi⟩:=di
 obtain⟨kU,xj⟩:=kU
 obtain⟨e1,e2,e3⟩:=Oper.apart_spec kD
 obtain⟨l1,l2⟩:=AU e1
 obtain⟨m1,m2⟩:=AU e3
 have bG:∀ t,oj.dst=some t->oi.dst ≠ some t:=fun t ht h'=>e2 t h' ht
 cases xi with
 |none =>
  cases xj with
  |none=>exact lW.swap hi hj kD hd h k
  |some l =>
   have hd:AS di.ns l=true:=hd
   have h:lW P w0 n ops B i di α S α1 S1:=h
   obtain⟨lG,a,gC,yS,wD,eV,hB⟩:=h.shape
   obtain rfl:lG=oi:=by rw [hi] at gC;exact (Option.some.inj gC).symm
   obtain⟨_,hW,hM⟩:=zY hd (T:=S) (T':=S) (fun _ _=>rfl) wD
   have eV:S1=S:=by rw [eV,hW,hM];exact cK
   subst eV
   obtain⟨o,ho,hn,Kh,PS,o4,hold,hg,r,Mp,bz⟩:=k
   obtain rfl:o=oj:=by rw [hj] at ho;exact (Option.some.inj ho).symm
   subst yS
   rw [kV l1] at bz
   rw [zZ l2] at hg
   refine⟨α.put o.dst r,S2,⟨o,hj,hn,Kh,PS,o4,hold,hg,r,rfl,bz⟩,?_⟩
   obtain⟨z0,_,_⟩:=zY hd (T:=S1) (T':=S2) hold wD
   have h1:=(h.anyS (T:=S2) (Nat.le_trans PS o4) z0 (fun e=>by rw [hM] at e;cases e)).frame (d:=o.dst) (a:=r) fun o2 rf e he=>by
    obtain rfl:o2=lG:=by rw [hi] at rf;exact (Option.some.inj rf).symm
    exact⟨e3 e he,fun h3=>e2 e h3 he⟩
   rw [show dQ S2 di.W di.m=S2 by rw [hW,hM];exact cK] at h1
   rw [Mp]
   exact h1
 |some l =>
  cases xj with
  |some l'=>exact hd.elim
  |none =>
   have hd:AS kU.ns l=true:=hd
   obtain⟨o,ho,hn,Kh,hB,o4,hold,hg,a,yS,bz⟩:=h
   obtain rfl:o=oi:=by rw [hi] at ho;exact (Option.some.inj ho).symm
   subst yS
   have k:lW P w0 n ops B j kU (α.put o.dst a) S1 rA S2:=k
   obtain⟨nB,b,lC,Mp,wD,lA,_⟩:=k.shape
   obtain rfl:nB=oj:=by rw [hj] at lC;exact (Option.some.inj lC).symm
   obtain⟨z0,hW,hM⟩:=zY hd (T:=S1) (T':=S) (fun k hk=>(hold k hk).symm) wD
   have lA:S2=S1:=by rw [lA,hW,hM];exact cK
   subst lA Mp
   have kj:lW P w0 n ops B j kU α S (α.put nB.dst b) S:=by
    obtain⟨o2,rf,sr,dN,q0,q1,q2,hk⟩:=k.anyS (T:=S) hB z0 (fun e=>by rw [hM] at e;cases e)
    obtain rfl:o2=nB:=by rw [hj] at rf;exact (Option.some.inj rf).symm
    have inj:∀ x y:AV,(α.put o.dst a).put o2.dst x=(α.put o.dst a).put o2.dst y->α.put o2.dst x=α.put o2.dst y:=by
     intro x y mD
     cases eK:o2.dst with
     |none=>rfl
     |some d =>
      rw [eK] at mD
      have:x=y:=by
       have h3:=congrArg (fun z:AA=>z.tm d) mD
       simpa [AA.put,aE] using h3
      rw [this]
    refine⟨o2,hj,sr,dN,hB,z0,by rw [hW,hM];exact cK.symm,?_⟩
    rcases hk with ⟨q,want,c,hg,hy,bG,h3,h4⟩|⟨hg,r,h3,h4⟩
    ·exact .inl ⟨q,want,c,hg,by rw [<-kT (l2 q want hg)];exact hy,bG,inj _ _ h3,h4⟩
    ·rw [kV l1] at h4
     exact .inr ⟨(zZ l2).1 hg,r,inj _ _ h3,h4⟩
   refine⟨α.put nB.dst b,S,kj,⟨o,hi,hn,Kh,hB,o4,hold,(zZ m2).2 hg,a,?_,by rw [kV m1];exact bz⟩⟩
   exact put_comm fun t ht e=>bG t e ht
inductive gM (P:Program) (w0:World) (n:Nat) (ops:Array Oper) (B:Nat) (D:Nat->Dt × Option Nat):List Nat->AA->ae->AA->ae->Prop where
 |nil (α:AA) (S:ae):gM P w0 n ops B D [] α S α S
 |cons {i:Nat}{rest:List Nat}{α α1 aA:AA}{S S1 S':ae}(h:Dr P w0 n ops B i (D i) α S α1 S1) (t:gM P w0 n ops B D rest α1 S1 aA S'):gM P w0 n ops B D (i::rest) α S aA S'
def Vs (ops:Array Oper) (D:Nat->Dt × Option Nat) (i j:Nat):Prop:=∃ oi oj,ops[i]?=some oi/\ops[j]?=some oj/\oi.apart ops oj=true/\zX (D i) (D j)
theorem gM.front {j:Nat}:∀ {C1 C2:List Nat}{α aA:AA}{S S':ae},(∀ x ∈ C1,Vs ops D x j)->gM P w0 n ops B D (C1++j::C2) α S aA S'->gM P w0 n ops B D (j::(C1++C2)) α S aA S'
 |[],C2,α,aA,S,S',_,h=>h
 |x::C1,C2,α,aA,S,S',hx,h=>by
  cases h with
  |@cons _ _ _ α1 _ _ S1 _ h t =>
   have t':=gM.front (fun y hy=>hx y (by simp [hy])) t
   cases t' with
   |@cons _ _ _ rA _ _ S2 _ k t2 =>
    obtain⟨oi,oj,hi,hj,h1,h2⟩:=hx x (by simp)
    obtain⟨qH,ve,h3,h4⟩:=h.swap hi hj h1 h2 k
    exact .cons h3 (.cons h4 t2)
theorem gM.perm:∀ {L C:List Nat}{α aA:AA}{S S':ae},C.Pairwise (· < ·)->L.Pairwise (fun y x=>x < y->Vs ops D x y)->(∀ x,x ∈ L ↔ x ∈ C)->L.Nodup->gM P w0 n ops B D C α S aA S'->gM P w0 n ops B D L α S aA S'
 |[],C,α,aA,S,S',_,_,hm,_,h=>by
  have:C=[]:=by
   cases C with
   |nil=>rfl
   |cons x C=>have:=(hm x).2 (by simp);cases this
  subst this
  exact h
 |y::L,C,α,aA,S,S',hC,hL,hm,hn,h=>by
  obtain⟨C1,C2,rfl⟩:=List.append_of_mem ((hm y).1 (by simp))
  rw [List.pairwise_cons] at hL
  rw [List.nodup_cons] at hn
  rw [List.pairwise_append,List.pairwise_cons] at hC
  obtain⟨p1,⟨p2,p3⟩,p4⟩:=hC
  have gT:∀ x ∈ C1,x < y:=fun x hx=>p4 x hx y (by simp)
  have aO:∀ x ∈ C2,y < x:=p2
  have eI:∀ x,x ∈ L ↔ x ∈ C1++C2:=by
   intro x
   have h0:=hm x
   simp only [List.mem_cons,List.mem_append] at h0 ⊢
   constructor
   ·intro hx
    rcases h0.1 (.inr hx) with h1|h1|h1
    ·exact .inl h1
    ·subst h1;exact absurd hx hn.1
    ·exact .inr h1
   ·intro hx
    have bG:x ≠ y:=by
     rintro rfl
     rcases hx with hx|hx
     ·exact absurd (gT x hx) (Nat.lt_irrefl _)
     ·exact absurd (aO x hx) (Nat.lt_irrefl _)
    rcases h0.2 (hx.elim .inl fun h=>.inr (.inr h)) with h1|h1
    ·exact absurd h1 bG
    ·exact h1
  have hf:=gM.front (fun x hx=>hL.1 x ((eI x).2 (by simp [hx])) (gT x hx)) h
  cases hf with
  |cons h1 h2 =>
   refine .cons h1 (gM.perm (L:=L) ?_ hL.2 eI hn.2 h2)
   rw [List.pairwise_append]
   exact⟨p1,p3,fun a ha b hb=>p4 a ha b (by simp [hb])⟩
theorem gM.vf:∀ {L:List Nat}{α aA:AA}{S S':ae},gM P w0 n ops B D L α S aA S'->qD P w0 n ops L α S aA S'
 |[],_,_,_,_,.nil α S=>fun F m A g a w Q hF hS hA hQ=>hQ a w g hS hA (Ext.refl ..)
 |i::rest,α,aA,S,S',.cons (α1:=α1) (S1:=S1) h t=>by
  have ih:=gM.vf t
  obtain⟨d,hd⟩:∃ d,D i=d:=⟨_,rfl⟩
  rw [hd] at h
  obtain⟨d,x⟩:=d
  have run:∀ {o:Oper}{r:AV},ops[i]?=some o->(match o.dst with|some d=>Nat.blt d n|none=>true)=true->(o.guard=none\/∃ j want,o.guard=some (j,want)/\mR ops α j=some (some want))->α1=α.put o.dst r->ew P w0 n o (α.only (dp o)) S r S1->qD P w0 n ops (i::rest) α S aA S':=by
   intro o r hi z3 hg yS h4
   subst yS
   intro F m A g a w Q hF hS hA hQ
   have hw:Region.wanted o (yielded ops a.tmps)=true:=by
    rcases hg with hg|⟨j,want,hg,hy⟩
    ·simp [Region.wanted,hg]
    ·simp [Region.wanted,hg,oH hA hy]
   simp only [wpOpsIn,hi]
   rw [if_pos hw]
   refine⟨fun f _=>hF.1 f,h4 F m A g a w _ Q hF hS (hA.only _) fun v w' g' hr gR hE=>?_⟩
   exact ih F m A g' _ w' Q hF gR (j_ (hA.later hE.toLater) z3 hr) fun a' qz sc h1 h2 h3=>hQ a' qz sc h1 h2 (hE.trans h3)
  cases x with
  |some l =>
   obtain⟨o,hi,z3,_,_,_,_,hg,r,yS,bz⟩:=h
   exact run hi z3 hg yS bz
  |none =>
   obtain⟨o,hi,z3,hp,hB,wD,eV,h⟩:=h
   rcases h with ⟨j,want,b,hg,hy,bG,rfl,uV⟩|⟨hg,r,yS,h3⟩
   ·have e:S1=S:=by rw [eV,uV];exact cK
    subst e
    intro F m A g a w Q hF hS hA hQ
    have AW:¬ Region.wanted o (yielded ops a.tmps)=true:=by simp [Region.wanted,hg,oH hA hy,bG]
    simp only [wpOpsIn,hi]
    rw [if_neg AW]
    exact⟨fun f _=>hF.1 f,ih F m A g _ w Q hF hS (j_ hA z3 .v) hQ⟩
   ·have h4:=h3 S hB wD (fun _=>rfl)
    rw [<-eV] at h4
    exact run hi z3 hg yS h4
theorem gM.yT:∀ {L:List Nat}{α aA:AA}{S S':ae},gM P w0 n ops B D L α S aA S'->∀ i ∈ L,oV ops i=true->(D i).2=none/\(D i).1=.none_
 |_,_,_,_,_,.nil ..,i,hi,_=>by cases hi
 |_,_,_,_,_,.cons (i:=j) h t,i,hi,hp=>by
  rcases List.mem_cons.1 hi with rfl|hi
  ·obtain⟨d,hd⟩:∃ d,D i=d:=⟨_,rfl⟩
   rw [hd] at h ⊢
   obtain⟨d,x⟩:=d
   cases x with
   |none =>
    obtain⟨o,h1,_,h2,_⟩:=h
    simp only [oV,h1] at hp
    exact⟨rfl,h2 hp⟩
   |some l =>
    obtain⟨o,h1,_,h2,_⟩:=h
    rw [h2] at hp
    cases hp
  ·exact gM.yT t i hi hp
theorem cu.YH {rd:Bool}{id:Nat}(hm:P.follows .mixedOrders=true) (nu:n0 ops=true) (hv:∀ p ∈ tw ops,zX (D p.1) (D p.2)) (h:gM P w0 n ops B D (List.range ops.size) α S aA S'):cu P w0 rd n (.region id ops true) α S .normal aA S':=by
 intro F m A g a w hF hR hS hA
 simp only [n0,Bool.and_eq_true] at nu
 obtain⟨he,hp⟩:=nu
 refine wpIn_region_draw fun t=>?_
 simp only [Region.schedule,hm,Bool.true_or,if_true]
 have hd:tx ops (Array.replicate ops.size false):=⟨by simp,fun y x hy=>by
  simp only [Array.getD_eq_getD_getElem?,Array.getElem?_replicate] at hy
  split at hy<;>simp at hy⟩
 obtain⟨f1,f2,f3,f4⟩:=nb he ops.size t _ hd
 have kK:∀ x,x ∈ Region.linearise .any ops t ↔ x ∈ List.range ops.size:=by
  intro x
  refine⟨fun hx=>by simpa using (f1 x hx).1,fun hx=>?_⟩
  have hx:x < ops.size:=by simpa using hx
  by_cases c:x ∈ Region.linearise .any ops t
  ·exact c
  ·exfalso
   have hl:=f4 ⟨x,hx,by simp [Array.getD_eq_getD_getElem?,Array.getElem?_replicate,hx],c⟩
   have nG:(x::Region.linearise.go .any ops ops.size t (Array.replicate ops.size false) []).Nodup:=by
    rw [List.nodup_cons];exact⟨c,f2⟩
   have hlen:=vg (x::Region.linearise.go .any ops ops.size t (Array.replicate ops.size false) []) nG ops.size (fun y hy=>by
    rcases List.mem_cons.1 hy with rfl|hy
    ·exact hx
    ·exact (f1 y hy).1)
   rw [List.length_cons,hl] at hlen
   omega
 have hL:(Region.linearise .any ops t).Pairwise (fun y x=>x < y->Vs ops D x y):=by
  refine List.Pairwise.imp_of_mem ?_ f3
  intro y x hy hx hb mD
  have eI:=vh (ops:=ops) (f1 y hy).1 mD hb
  have kD:=List.all_eq_true.1 hp _ eI
  unfold Vt at kD
  split at kD
  ·rename_i oi oj hi hj
   refine⟨oi,oj,hi,hj,kD,?_⟩
   have E8:x ∈ List.range ops.size:=(kK x).1 hx
   have PT:y ∈ List.range ops.size:=(kK y).1 hy
   have Vu:∀ {d e:Dt × Option Nat},d.2=none->d.1=.none_->zX d e:=fun {d e} h1 h2=>by
    obtain⟨d,x⟩:=d
    obtain⟨e,y⟩:=e
    simp only at h1 h2
    subst h1 h2
    cases y with
    |none=>exact AX
    |some l=>rfl
   have Vv:∀ {d e:Dt × Option Nat},e.2=none->e.1=.none_->zX d e:=fun {d e} h1 h2=>by
    obtain⟨d,x⟩:=d
    obtain⟨e,y⟩:=e
    simp only at h1 h2
    subst h1 h2
    cases x with
    |none=>exact AY
    |some l=>rfl
   cases Fu:oV ops x with
   |true=>exact Vu (h.yT x E8 Fu).1 (h.yT x E8 Fu).2
   |false =>
    cases Fv:oV ops y with
    |true=>exact Vv (h.yT y PT Fv).1 (h.yT y PT Fv).2
    |false=>exact hv (x,y) (List.mem_filter.2 ⟨eI,by simp [Fu,Fv]⟩)
  ·cases kD
 have hC:(List.range ops.size).Pairwise (· < ·):=List.pairwise_lt_range
 obtain⟨hE,eV⟩:=hS.drew
 have eV:St w0 A g S { w with drawn:=w.drawn+1 }:=eV
 refine (gM.perm hC hL kK f2 h).vf F m A g a _ _ hF eV (hA.later hE.toLater) fun a' w' g' h1 h2 h3=>⟨rfl,g',h1,h2,hE.trans h3⟩
end
section
set_option maxRecDepth 100000
attribute [local irreducible] ah bc ad ab
def Vw:CF Tryz.f69:=⟨_,by conv=>lhs;cbv⟩
theorem acn:aH Tryz.prog 69 Vw.1 Tryz.f69.ntmps:=aQ Tryz.func69 Vw.2 Tryz.call69
def rB:List Nat:=[0,4,3,2,7,11,22]
def Vx:CF Tryz.f94:=⟨_,by conv=>lhs;cbv⟩
theorem aco:aH Tryz.prog 94 Vx.1 Tryz.f94.ntmps:=aQ Tryz.func94 Vx.2 Tryz.call94
def tS:List Nat:=[3,0,2,7,16]
def Vy:CF Tryz.f17:=⟨_,by conv=>lhs;cbv⟩
theorem acp:aH Tryz.prog 17 Vy.1 Tryz.f17.ntmps:=aQ Tryz.func17 Vy.2 Tryz.call17
def rC:List Nat:=[0,5,4,1,9,13,22]
def pA (l:List Tm):Bool:=decide (l.length<=8) && decide (bj l<=60)
theorem wE (a b:List Tm):bj (a++b)=bj a+bj b:=by
 induction a with
 |nil=>simp [bj]
 |cons x a ih=>rw [List.cons_append,bj,bj,ih];omega
section
variable {w0:World}{ρ:Hd}
theorem Ds (l:List Tm) (hl:l.length<=1099511627776) (hz:bj l<=1099511627776):ah Tryz.prog w0 69 [tl ρ l] (.v (.bool (pA l))):=by
 obtain⟨R,hR⟩:∃ R,R=pA l:=⟨_,rfl⟩
 rw [<-hR]
 unfold pA at hR
 refine acn.aG (by simp [Tryz.ntmps69]) (.v) ?_
 refine gq rB ?_
 repeat' (first
  |(refine bq (fun hb=>?_) (fun hb=>?_)<;>(try simp only [aq] at hb)<;>(first|refine gq rB ?_))
  |(refine aB fun m hm=>?_;(try rw [af] at hm);refine gq rB ?_)
  |(refine fq ?_))
 ·rw [hR,decide_eq_false (by omega)];exact aC rfl
 rw [decide_eq_true (by omega),Bool.true_and] at hR
 refine ab.aP (σ:=Int × Int) 0 0 [] (fun p=>[(0,tl ρ l),(3,.v (.int .i64 p.2)),(4,.v (.int .i64 p.1))]) [] (fun _=>[]) (fun p=>∃ k:Nat,p.1=k/\k<=l.length/\p.2=bj (l.take k)/\p.2<=60) (fun p=>l.length - p.1.toNat) (0,0) ⟨0,rfl,by simp,rfl,by simp⟩ rfl cq ?_
 rintro⟨i,c⟩ ⟨k,hi,hk,hp,hc⟩
 simp only at hi hp hc
 refine gq rB ?_
 by_cases au:k < l.length
 ·obtain⟨x,hx,aO⟩:=az au
  have ht:bj (l.take (k+1))=bj (l.take k)+cM x:=by
   rw [List.take_add_one,hx,wE]
   simp [bj]
  have hle:bj (l.take (k+1))<=bj l:=by
   have:=wE (l.take (k+1)) (l.drop (k+1))
   rw [List.take_append_drop] at this
   omega
  have hS:=vG (w0:=w0) (ρ:=ρ) _ x (Nat.le_refl _) (by omega)
  obtain⟨z,EN⟩:∃ z,z=cM x:=⟨_,rfl⟩
  rw [<-EN] at ht hS
  obtain⟨z1,Tb⟩:∃ z:Int,z=(cM x:Nat):=⟨_,rfl⟩
  clear aO
  have gn:=ba (ρ:=ρ) x
  obtain⟨xk,xi,xn,xa⟩:=x
  repeat' (first
   |(refine ab.op rfl (ad.ind rfl rfl (ft (l:=l) hi hx) fu) ?_;refine gq rB ?_)
   |(refine ab.int rfl (ad.ag rfl hS ⟨gn,trivial⟩) fun _ _=>?_;refine gq rB ?_)
   |(refine bq (fun hb=>?_) (fun hb=>?_)<;>(try simp only [aq] at hb)<;>(first|refine gq rB ?_))
   |(refine aB fun m hm=>?_;(try rw [af] at hm);refine gq rB ?_)
   |(refine aS fun _ _=>?_;refine gq rB ?_)
   |(refine ab.ao ?_;refine gq rB ?_)
   |(refine ab.bJ ?_;refine gq rB ?_)
   |(refine fq ?_))
  all_goals first
   |(exfalso;omega)
   |(rw [hR,decide_eq_false (by omega)];exact aC rfl)
   |(refine ab.aL (σ:=Int × Int) (_,_) [] ?_ ?_ cq
     ·exact⟨k+1,by simp only;omega,by omega,by simp only;omega,by simp only;omega⟩
     ·simp only;omega)
 ·have YI:l.take k=l:=List.take_of_length_le (by omega)
  rw [YI] at hp
  repeat' (first
   |(refine bq (fun hb=>?_) (fun hb=>?_)<;>(try simp only [aq] at hb)<;>(first|refine gq rB ?_))
   |(refine aB fun m hm=>?_;(try rw [af] at hm);refine gq rB ?_)
   |(refine ab.ao ?_;refine gq rB ?_)
   |(refine fq ?_))
  all_goals first
   |(exfalso;omega)
   |(rw [hR,decide_eq_true (by omega)];exact aC rfl)
end
end
end Go.Proofs.YtbofilglphfceaaGreat
