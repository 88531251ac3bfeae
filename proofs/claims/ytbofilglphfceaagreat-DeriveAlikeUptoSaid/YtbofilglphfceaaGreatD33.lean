import Derived.Test.YtbofilglphfceaaGreatD32
namespace Go.Proofs.YtbofilglphfceaaGreat
set_option linter.unusedVariables false
set_option linter.unusedSimpArgs false
open Go.RowKit
section
variable {P:Program}{w0:World}{n:Nat}{o:Oper}{α:AA}{S S':U}{r:AV}
theorem rZ (w:World) (t t2 ty e:TypeId) (i:TypeInfo) (z:Value) {kk k:IntKind}(ht:P.underlying t=some (.slice e)) (cR:P.underlying t2=some (.int kk)) (hi:P.info? e=some i) (hz:i.zero=some z) (B:Option Addr) (n:Nat) (hs:0 < i.size)
  (h0:0 < n) (Ut:(n:Int)<=9223372036854775807) (Uu:n*i.bytes<=281474976710656) :
  (Builtin.append_ #[t,t2] ty #[.slice B 0 0,.int k n]).run P w =
   .ok (.slice (some ⟨w.heap.size,0,none⟩) n (grownCap w n 0 e)) (w.drew.alloc (.cells (Builtin.zeroCells z.cells n++Builtin.zeroCells z.cells (grownCap w n 0 e - n)) e)):=by
 have hn:n ≠ 0:=by omega
 have JK:i.size ≠ 0:=by omega
 have QE:¬ (9223372036854775807 < (n:Int)):=by omega
 have QG:¬ (281474976710656 < Builtin.nextslicecap n 0*i.bytes):=by rw [nextslicecap_zero h0];omega
 have hw:IntKind.i64.wrap (n:Int)=n:=by rw [IntKind.wrap_i64];omega
 have QH:¬ (n:Int) < 0:=by omega
 have QJ:¬ (281474976710656 < (n:Int)*i.bytes):=by
  intro h
  have:(281474976710656:Int) < ((n*i.bytes:Nat):Int):=by rw [Int.natCast_mul];exact h
  omega
 have Co:∀ w:World,(Builtin.firstCells i.size 0 (.slice B 0 0)).run P w=.ok #[] w:=fun w=>by
  cases B with
  |none=>simp [Builtin.firstCells]
  |some b=>simpa using run_firstCells_some (P:=P) (w:=w) i.size 0 b 0 0 [] (by simp) (fun j v h=>by simp at h)
 simp [Builtin.append_,run_underlying ht,run_underlying cR,sizeOf,typeInfo,zeroValue,hi,hz,asInt,asIntOf,hw,QH,QJ,hn,JK,QE,QG,Question.forced,Co,newRow,grownCap]
 intro h
 rcases Nat.mul_eq_zero.1 h with h|h
 ·omega
 ·omega
theorem El {z:List AV}{by_:Nat}{a b:QO}{o:Op}(h:res P.toTables o=some (.sr z by_ a b)):∃ c t t2 u v e kk zv sz,o=.call c/\c.callee=.builtin .append/\c.argTypes=#[t,t2]/\c.args=#[u,v]/\a=qo u/\b=qo v/\P.underlying t=some (.slice e)/\P.underlying t2=some (.int kk)/\bY P e=some zv /\
  bV P e=some sz/\dk P e=some by_/\zv.cells.size=sz/\0 < by_/\z=zv.cells.toList.map aO:=by
 have two:∀ {β:Type}{x y:β}{l:Array β},l.toList=[x,y]->l=#[x,y]:=fun {β x y l} h=>by rw [<-Array.toArray_toList (xs:=l),h]
 cases o<;>simp only [res,aZ,cA,fX,dX,fp] at h<;>(repeat' split at h)<;>(try cases h)
 rename_i hb
 simp only [Bool.and_eq_true] at hb
 exact⟨_,_,_,_,_,_,_,_,_,rfl,by assumption,two (by assumption),two (by assumption),rfl,rfl,eA (by assumption),by assumption,by assumption,by assumption,by assumption,Nat.eq_of_beq_eq_true hb.1,dI hb.2,rfl⟩
theorem aa.LS {z:List AV}{by_:Nat}{a b:QO}{k:IntKind}{m:Int}(h1:a.ev α.tm=.sl true []) (h2:b.ev α.tm=.v (.int k m)) (h0:0 < m) (h4:m*by_<=35184372088832) (hz:0 < z.length) :
  aa P w0 false (.sr z by_ a b) α S (.ob S.nx z.length 0 m.toNat none) (S.new (.arr z.length (List.replicate m.toNat z) 0 false)):=aa.run fun n o hr=>by
 obtain⟨c,t,t2,u,v,e,kk,zv,sz,ho,hc,cV,aH,rfl,rfl,ht,cR,CS,hs,eH,fe,eG,rfl⟩:=El hr
 have Px:(zv.cells.toList.map aO).length=sz:=by simp [fe]
 rw [Px] at hz ⊢
 rw [ay] at h1 h2
 intro A g q w hS hA
 have g1:=hA.ev u
 have g2:=hA.ev v
 rw [h1] at g1
 rw [h2] at g2
 obtain⟨B,cc,e1,_,gU⟩:=jq g1
 have qe:cc=0:=by simpa using gU rfl
 subst qe
 have e2:=a_ g2
 obtain⟨i,hi,a7⟩:=dy hs
 have jy:i.zero=some zv:=by unfold bY at CS;rw [hi] at CS;simpa using CS
 have pY:i.bytes=by_:=by unfold dk at eH;rw [hi] at eH;simpa using eH
 obtain⟨m',rfl⟩:∃ m':Nat,m=m':=⟨m.toNat,by omega⟩
 have CU:0 < m':=by omega
 have SR:m'*by_<=35184372088832:=by
  have:((m'*by_:Nat):Int)<=35184372088832:=by rw [Int.natCast_mul];exact h4
  omega
 have hmul:m'<=35184372088832:=Nat.le_trans (Nat.le_mul_of_pos_right _ eG) SR
 have bm:=rZ (P:=P) w t t2 o.type e i zv (k:=k) ht cR hi jy B m' (by omega) CU (by omega) (by rw [pY];omega)
 have o4:=grownCap_ge w m' 0 e
 obtain⟨GG,JL⟩:=hS.drew
 have jn:∀ q,¬ g.fz w.heap.size q:=fun q hf=>absurd (hS.bM _ _ hf) (Nat.lt_irrefl _)
 obtain⟨hE,cz⟩:=JL.new (.cells (Builtin.zeroCells zv.cells m'++Builtin.zeroCells zv.cells (grownCap w m' 0 e - m')) e) (.arr sz (List.replicate m' (zv.cells.toList.map aO)) 0 false) (grownCap w m' 0 e) (fun J=>by simp) (fun hL=>by
  refine⟨_,e,bZ,?_,by simpa using o4,fun h=>by simp at h,fun p row hr=>?_,Nat.zero_le _,fun q=>⟨fun h=>absurd h (jn q),fun h=>by simp at h⟩⟩
  ·simp only [Array.size_append,size_zeroCells,fe]
   rw [<-Nat.add_mul]
   congr 1
   omega
  ·obtain⟨dD,rfl⟩:=List.getElem?_eq_some_iff.1 hr
   simp only [List.length_replicate] at dD
   simp only [List.getElem_replicate]
   refine⟨Px,fun j b' hj=>?_⟩
   simp only [List.getElem?_map,Option.map_eq_some_iff] at hj
   obtain⟨y,hy,rfl⟩:=hj
   have lW:j < sz:=by
    have:=(List.getElem?_eq_some_iff.1 hy).1
    simp at this
    omega
   refine⟨y,?_,eZ y⟩
   have au:p*sz+j < m'*sz:=fD dD lW
   have dQ:j < zv.cells.size:=by omega
   have e3:(p*sz+j) % zv.cells.size=j:=by
    rw [fe,Nat.mul_comm,Nat.mul_add_mod]
    exact Nat.mod_eq_of_lt lW
   rw [Array.getElem?_append_left (by rw [size_zeroCells,fe];exact au)]
   unfold Builtin.zeroCells
   rw [Array.getElem?_map,Array.getElem?_range,if_pos (by rw [fe];exact au)]
   simp only [Option.map_some,e3]
   rw [getElem!_pos zv.cells j dQ,<-hy,Array.getElem?_toList,Array.getElem?_eq_getElem dQ])
 have hx:(execOp q.eval o).run P w=.ok (.value (.slice (some ⟨w.heap.size,0,none⟩) m' (grownCap w m' 0 e))) (w.drew.alloc (.cells (Builtin.zeroCells zv.cells m'++Builtin.zeroCells zv.cells (grownCap w m' 0 e - m')) e)):=by
  have hx:(execOp q.eval o).run P w=((Builtin.append_ #[t,t2] o.type #[q.eval u,q.eval v]).run P w).andThen fun v w'=>.ok (.value v) w':=by
   simp [execOp,ho,resolve,hc,cV,aH,invoke,builtin]
  rw [hx,e1,e2]
  simp only [List.length_nil]
  rw [bm]
  rfl
 refine⟨_,_,_,.inl hx,?_,cz,GG.trans hE⟩
 have:=ao.ob (g:=g.new S.nx w.drew.heap.size (grownCap w m' 0 e)) (w:=w.drew.alloc (.cells (Builtin.zeroCells zv.cells m'++Builtin.zeroCells zv.cells (grownCap w m' 0 e - m')) e))
  (k:=S.nx) (sz:=sz) (off:=0) (len:=m') (c:=grownCap w m' 0 e) (cx:=none) (.inr rfl) (fun m h=>by cases h) (by rw [Nat.zero_add];exact Nat.le_of_eq (ah _ _ _).symm) (fun _=>by rw [Nat.zero_add];exact (ah _ _ _).symm) o4
 rw [show (g.new S.nx w.drew.heap.size (grownCap w m' 0 e)).ob S.nx=w.heap.size from ah _ _ _,Nat.zero_mul] at this
 exact this
theorem HQ {a:QO}{o:Op}(h:res P.toTables o=some (.cap a)):∃ c t u e,o=.call c/\c.callee=.builtin .cap/\c.argTypes=#[t]/\c.args=#[u]/\a=qo u/\P.underlying t=some (.slice e):=by
 cases o<;>simp only [res,aZ] at h<;>(repeat' split at h)<;>(try cases h)
 exact⟨_,_,_,_,rfl,by assumption,toList_one (by assumption),toList_one (by assumption),rfl,by assumption⟩
def Em:AV->Option Nat
 |.sl true rows=>some rows.length
 |.ob _ _ _ _ (some c)=>some c
 |_=>none
theorem aa.cap {x:QO}{m:Nat}(hx:Em (x.ev α.tm)=some m):aa P w0 false (.cap x) α S (.v (.int .i64 m)) S:=aa.run fun n o hr=>by
 obtain⟨c,t,u,e,ho,hc,cV,aH,rfl,hu⟩:=HQ hr
 rw [ay] at hx
 refine aC.quiet fun A g q w hS hA=>?_
 have h1:=hA.ev u
 have key:∃ B l,q.eval u=.slice B l m:=by
  unfold Em at hx
  split at hx
  ·rename_i rows e1
   rw [e1] at h1
   obtain rfl:=Option.some.inj hx
   obtain⟨B,cc,e2,_,gU⟩:=jq h1
   rw [gU rfl] at e2
   exact⟨_,_,e2⟩
  ·rename_i k sz off len c' e1
   rw [e1] at h1
   obtain rfl:=Option.some.inj hx
   obtain⟨cc,e2,_,gU,_⟩:=dx h1
   rw [gU _ rfl] at e2
   exact⟨_,_,e2⟩
  ·cases hx
 obtain⟨B,l,e2⟩:=key
 refine⟨_,?_,.v⟩
 simp [execOp,ho,resolve,hc,cV,aH,invoke,builtin,e2,Builtin.cap_,run_underlying hu,goInt]
end
def y3 (q:cj) (f:Nat->AV) (s:XS):Option (AV × XS):=match q with
 |.sr z by_ a b=>match a.ev f,b.ev f with
  |.sl true [],.v (.int _ m)=>match decide (0 < m/\m*by_<=35184372088832) && Nat.blt 0 z.length && !cI s.yk s.nx with
   |true=>some (.ob s.nx z.length 0 m.toNat none,gj s (.arr z.length (List.replicate m.toNat z) 0 false))
   |false=>none
  |_,_=>none
 |.cap x=>match Em (x.ev f) with
  |some m=>some (.v (.int .i64 m),s)
  |none=>none
 |q=>vx q f s
section
variable {P:Program}{w0:World}{s s':XS}{r:AV}
theorem y4 {q:cj}{f:Nat->AV}{df:List Nat}(h:y3 q f s=some (r,s')):(∀ J,aa P w0 false q ⟨f,df⟩ (den J s) r (den J s'))/\cE s s'/\s'.lg=s.lg:=by
 cases q with
 |sr z by_ a b =>
  simp only [y3] at h
  split at h
  ·rename_i k m ha hb
   split at h
   ·rename_i hc
    simp only [Bool.and_eq_true,Bool.not_eq_true'] at hc
    obtain⟨⟨h1,h2⟩,h3⟩:=hc
    have h1:=of_decide_eq_true h1
    simp only [Option.some.injEq,Prod.mk.injEq] at h
    obtain⟨rfl,rfl⟩:=h
    refine⟨fun J=>?_,.nw,rfl⟩
    rw [eI h3]
    exact aa.LS ha hb h1.1 h1.2 (dI h2)
   ·cases h
  ·cases h
 |cap x =>
  simp only [y3] at h
  split at h
  ·rename_i m hm
   simp only [Option.some.injEq,Prod.mk.injEq] at h
   obtain⟨rfl,rfl⟩:=h
   exact⟨fun J=>aa.cap hm,.refl _,rfl⟩
  ·cases h
 |_=>exact CT h
end
section
variable {P:Program}{w0:World}{n B:Nat}{α af:AA}{S S':U}{r:AV}{ops:Array Oper}{D:Nat->Dt × Option Nat}
def vy (P:Program) (w0:World) (n:Nat) (ops:Array Oper) (B:Nat) (i:Nat) (d:Dt × Option Nat) (α:AA) (S:U) (α1:AA) (S1:U):Prop:=match d.2 with
 |none=>ir P w0 n ops B i d.1 α S α1 S1
 |some l=>∃ o,ops[i]?=some o/\(match o.dst with|some d=>Nat.blt d n|none=>true)=true/\kA ops i=false/\B<=S.nx/\S.nx<=S1.nx/\(∀ k,k < l->S1.get k=S.get k) /\
   (o.guard=none\/∃ j want,o.guard=some (j,want)/\je ops α j=some (some want))/\∃ r,α1=α.put o.dst r/\cP P w0 n o (α.only (cb o)) S r S1
def tU (x:List Nat × List Nat × Bool) (l:Nat):Bool:=match x with
 |(F,[],false)=>F.all (Nat.blt · l)
 |_=>false
def qf (d:Dt × Option Nat):List Nat × List Nat × Bool:=match d.2 with
 |none=>d.1.ns
 |some l=>([l],[],true)
def tV (x:List Nat × List Nat × Bool):Option Nat:=match x with
 |([l],[],true)=>some l
 |_=>none
def sP (d e:Dt × Option Nat):Prop:=match d.2,e.2 with
 |none,none=>dj d.1.ns e.1.ns=true
 |some l,none=>tU e.1.ns l=true
 |none,some l=>tU d.1.ns l=true
 |some _,some _=>False
theorem sQ {d:Dt}{l:Nat}{T T':U}(h:tU d.ns l=true) (ht:∀ k,k < l->T'.get k=T.get k) (ha:gJ T d.F):gJ T' d.F/\d.W=[]/\d.m=false:=by
 obtain⟨F,W,m⟩:=d
 unfold tU Dt.ns at h
 cases W with
 |cons=>cases h
 |nil =>
  cases m with
  |true=>cases h
  |false =>
   refine⟨fun p hp=>?_,rfl,rfl⟩
   have:=List.all_eq_true.1 h p.1 (List.mem_map.2 ⟨p,hp,rfl⟩)
   rw [ht _ (dI this)]
   exact ha p hp
theorem tW {oi oj:Oper}(h:∀ d,oi.dst=some d->d ∉ oj.looksAt ops):(∀ e,oi.dst=some e->e ∉ cb oj)/\∀ q want,oj.guard=some (q,want)->∀ e,oi.dst=some e->(ops[q]?).bind (·.dst) ≠ some e:=by
 refine⟨fun e he hm=>h e he (kg hm),fun q want hg e he h3=>h e he (List.mem_append.2 (.inr ?_))⟩
 rw [hg]
 simp only
 rw [h3]
 simp
theorem sR {o:Oper}{d:Option Tmp}{a:AV}(h2:∀ q want,o.guard=some (q,want)->∀ e,d=some e->(ops[q]?).bind (·.dst) ≠ some e) :
  (o.guard=none\/∃ j want,o.guard=some (j,want)/\je ops (α.put d a) j=some (some want)) ↔ (o.guard=none\/∃ j want,o.guard=some (j,want)/\je ops α j=some (some want)):=by
 constructor
 ·rintro (hg|⟨q,want,hg,hy⟩)
  ·exact .inl hg
  ·exact .inr ⟨q,want,hg,by rw [<-gK (h2 q want hg)];exact hy⟩
 ·rintro (hg|⟨q,want,hg,hy⟩)
  ·exact .inl hg
  ·exact .inr ⟨q,want,hg,by rw [gK (h2 q want hg)];exact hy⟩
theorem vy.swap {i j:Nat}{di gM:Dt × Option Nat}{oi oj:Oper}{α1 lY:AA}{S1 S2:U}(hi:ops[i]?=some oi) (hj:ops[j]?=some oj) (fc:oi.apart ops oj=true)
  (hd:sP di gM) (h:vy P w0 n ops B i di α S α1 S1) (k:vy P w0 n ops B j gM α1 S1 lY S2) :
  ∃ lr ov,vy P w0 n ops B j gM α S lr ov/\vy P w0 n ops B i di lr ov lY S2:=by
 obtain⟨di,xi⟩:=di
 obtain⟨gM,xj⟩:=gM
 obtain⟨e1,e2,e3⟩:=Oper.apart_spec fc
 obtain⟨l1,l2⟩:=tW e1
 obtain⟨m1,m2⟩:=tW e3
 have aM:∀ t,oj.dst=some t->oi.dst ≠ some t:=fun t ht h'=>e2 t h' ht
 cases xi with
 |none =>
  cases xj with
  |none=>exact ir.swap hi hj fc hd h k
  |some l =>
   have hd:tU di.ns l=true:=hd
   have h:ir P w0 n ops B i di α S α1 S1:=h
   obtain⟨hP,a,dD,r5,pS,dF,hB⟩:=h.shape
   obtain rfl:hP=oi:=by rw [hi] at dD;exact (Option.some.inj dD).symm
   obtain⟨_,hW,hM⟩:=sQ hd (T:=S) (T':=S) (fun _ _=>rfl) pS
   have dF:S1=S:=by rw [dF,hW,hM];exact bH
   subst dF
   obtain⟨o,ho,hn,CV,GH,kL,hold,hg,r,En,aF⟩:=k
   obtain rfl:o=oj:=by rw [hj] at ho;exact (Option.some.inj ho).symm
   subst r5
   rw [gL l1] at aF
   rw [sR l2] at hg
   refine⟨α.put o.dst r,S2,⟨o,hj,hn,CV,GH,kL,hold,hg,r,rfl,aF⟩,?_⟩
   obtain⟨ss,_,_⟩:=sQ hd (T:=S1) (T':=S2) hold pS
   have h1:=(h.anyS (T:=S2) (Nat.le_trans GH kL) ss (fun e=>by rw [hM] at e;cases e)).frame (d:=o.dst) (a:=r) fun o2 rk e he=>by
    obtain rfl:o2=hP:=by rw [hi] at rk;exact (Option.some.inj rk).symm
    exact⟨e3 e he,fun h3=>e2 e h3 he⟩
   rw [show cD S2 di.W di.m=S2 by rw [hW,hM];exact bH] at h1
   rw [En]
   exact h1
 |some l =>
  cases xj with
  |some l'=>exact hd.elim
  |none =>
   have hd:tU gM.ns l=true:=hd
   obtain⟨o,ho,hn,CV,hB,kL,hold,hg,a,r5,aF⟩:=h
   obtain rfl:o=oi:=by rw [hi] at ho;exact (Option.some.inj ho).symm
   subst r5
   have k:ir P w0 n ops B j gM (α.put o.dst a) S1 lY S2:=k
   obtain⟨jz,b,hO,En,pS,km,_⟩:=k.shape
   obtain rfl:jz=oj:=by rw [hj] at hO;exact (Option.some.inj hO).symm
   obtain⟨ss,hW,hM⟩:=sQ hd (T:=S1) (T':=S) (fun k hk=>(hold k hk).symm) pS
   have km:S2=S1:=by rw [km,hW,hM];exact bH
   subst km En
   have kj:ir P w0 n ops B j gM α S (α.put jz.dst b) S:=by
    obtain⟨o2,rk,SS,jD,q0,q1,q2,hk⟩:=k.anyS (T:=S) hB ss (fun e=>by rw [hM] at e;cases e)
    obtain rfl:o2=jz:=by rw [hj] at rk;exact (Option.some.inj rk).symm
    have inj:∀ x y:AV,(α.put o.dst a).put o2.dst x=(α.put o.dst a).put o2.dst y->α.put o2.dst x=α.put o2.dst y:=by
     intro x y iS
     cases gY:o2.dst with
     |none=>rfl
     |some d =>
      rw [gY] at iS
      have:x=y:=by
       have h3:=congrArg (fun z:AA=>z.tm d) iS
       simpa [AA.put,ah] using h3
      rw [this]
    refine⟨o2,hj,SS,jD,hB,ss,by rw [hW,hM];exact bH.symm,?_⟩
    rcases hk with ⟨q,want,c,hg,hy,aM,h3,h4⟩|⟨hg,r,h3,h4⟩
    ·exact .inl ⟨q,want,c,hg,by rw [<-gK (l2 q want hg)];exact hy,aM,inj _ _ h3,h4⟩
    ·rw [gL l1] at h4
     exact .inr ⟨(sR l2).1 hg,r,inj _ _ h3,h4⟩
   refine⟨α.put jz.dst b,S,kj,⟨o,hi,hn,CV,hB,kL,hold,(sR m2).2 hg,a,?_,by rw [gL m1];exact aF⟩⟩
   exact put_comm fun t ht e=>aM t e ht
inductive er (P:Program) (w0:World) (n:Nat) (ops:Array Oper) (B:Nat) (D:Nat->Dt × Option Nat):List Nat->AA->U->AA->U->Prop where
 |nil (α:AA) (S:U):er P w0 n ops B D [] α S α S
 |cons {i:Nat}{rest:List Nat}{α α1 af:AA}{S S1 S':U}(h:vy P w0 n ops B i (D i) α S α1 S1) (t:er P w0 n ops B D rest α1 S1 af S'):er P w0 n ops B D (i::rest) α S af S'
def JM (ops:Array Oper) (D:Nat->Dt × Option Nat) (i j:Nat):Prop:=∃ oi oj,ops[i]?=some oi/\ops[j]?=some oj/\oi.apart ops oj=true/\sP (D i) (D j)
theorem er.front {j:Nat}:∀ {C1 C2:List Nat}{α af:AA}{S S':U},(∀ x ∈ C1,JM ops D x j)->er P w0 n ops B D (C1++j::C2) α S af S'->er P w0 n ops B D (j::(C1++C2)) α S af S'
 |[],C2,α,af,S,S',_,h=>h
 |x::C1,C2,α,af,S,S',hx,h=>by
  cases h with
  |@cons _ _ _ α1 _ _ S1 _ h t =>
   have t':=er.front (fun y hy=>hx y (by simp [hy])) t
   cases t' with
   |@cons _ _ _ lY _ _ S2 _ k t2 =>
    obtain⟨oi,oj,hi,hj,h1,h2⟩:=hx x (by simp)
    obtain⟨lr,ov,h3,h4⟩:=h.swap hi hj h1 h2 k
    exact .cons h3 (.cons h4 t2)
theorem er.perm:∀ {L C:List Nat}{α af:AA}{S S':U},C.Pairwise (· < ·)->L.Pairwise (fun y x=>x < y->JM ops D x y)->(∀ x,x ∈ L ↔ x ∈ C)->L.Nodup->er P w0 n ops B D C α S af S'->er P w0 n ops B D L α S af S'
 |[],C,α,af,S,S',_,_,hm,_,h=>by
  have:C=[]:=by
   cases C with
   |nil=>rfl
   |cons x C=>have:=(hm x).2 (by simp);cases this
  subst this
  exact h
 |y::L,C,α,af,S,S',hC,hL,hm,hn,h=>by
  obtain⟨C1,C2,rfl⟩:=List.append_of_mem ((hm y).1 (by simp))
  rw [List.pairwise_cons] at hL
  rw [List.nodup_cons] at hn
  rw [List.pairwise_append,List.pairwise_cons] at hC
  obtain⟨p1,⟨p2,p3⟩,p4⟩:=hC
  have dR:∀ x ∈ C1,x < y:=fun x hx=>p4 x hx y (by simp)
  have bI:∀ x ∈ C2,y < x:=p2
  have fK:∀ x,x ∈ L ↔ x ∈ C1++C2:=by
   intro x
   have h0:=hm x
   simp only [List.mem_cons,List.mem_append] at h0 ⊢
   constructor
   ·intro hx
    rcases h0.1 (.inr hx) with h1|h1|h1
    ·exact .inl h1
    ·subst h1;exact absurd hx hn.1
    ·exact .inr h1
   ·intro hx
    have aM:x ≠ y:=by
     rintro rfl
     rcases hx with hx|hx
     ·exact absurd (dR x hx) (Nat.lt_irrefl _)
     ·exact absurd (bI x hx) (Nat.lt_irrefl _)
    rcases h0.2 (hx.elim .inl fun h=>.inr (.inr h)) with h1|h1
    ·exact absurd h1 aM
    ·exact h1
  have hf:=er.front (fun x hx=>hL.1 x ((fK x).2 (by simp [hx])) (dR x hx)) h
  cases hf with
  |cons h1 h2 =>
   refine .cons h1 (er.perm (L:=L) ?_ hL.2 fK hn.2 h2)
   rw [List.pairwise_append]
   exact⟨p1,p3,fun a ha b hb=>p4 a ha b (by simp [hb])⟩
theorem er.oe:∀ {L:List Nat}{α af:AA}{S S':U},er P w0 n ops B D L α S af S'->lq P w0 n ops L α S af S'
 |[],_,_,_,_,.nil α S=>fun F m A g a w Q hF hS hA hQ=>hQ a w g hS hA (Ext.refl ..)
 |i::rest,α,af,S,S',.cons (α1:=α1) (S1:=S1) h t=>by
  have ih:=er.oe t
  obtain⟨d,hd⟩:∃ d,D i=d:=⟨_,rfl⟩
  rw [hd] at h
  obtain⟨d,x⟩:=d
  have run:∀ {o:Oper}{r:AV},ops[i]?=some o->(match o.dst with|some d=>Nat.blt d n|none=>true)=true->(o.guard=none\/∃ j want,o.guard=some (j,want)/\je ops α j=some (some want))->α1=α.put o.dst r->cP P w0 n o (α.only (cb o)) S r S1->lq P w0 n ops (i::rest) α S af S':=by
   intro o r hi sS hg r5 h4
   subst r5
   intro F m A g a w Q hF hS hA hQ
   have hw:Region.wanted o (yielded ops a.tmps)=true:=by
    rcases hg with hg|⟨j,want,hg,hy⟩
    ·simp [Region.wanted,hg]
    ·simp [Region.wanted,hg,kh hA hy]
   simp only [wpOpsIn,hi]
   rw [if_pos hw]
   refine⟨fun f _=>hF.1 f,h4 F m A g a w _ Q hF hS (hA.only _) fun v w' g' hr ew hE=>?_⟩
   exact ih F m A g' _ w' Q hF ew (gu (hA.later hE.toLater) sS hr) fun a' mG rm h1 h2 h3=>hQ a' mG rm h1 h2 (hE.trans h3)
  cases x with
  |some l =>
   obtain⟨o,hi,sS,_,_,_,_,hg,r,r5,aF⟩:=h
   exact run hi sS hg r5 aF
  |none =>
   obtain⟨o,hi,sS,hp,hB,pS,dF,h⟩:=h
   rcases h with ⟨j,want,b,hg,hy,aM,rfl,Is⟩|⟨hg,r,r5,h3⟩
   ·have e:S1=S:=by rw [dF,Is];exact bH
    subst e
    intro F m A g a w Q hF hS hA hQ
    have tp:¬ Region.wanted o (yielded ops a.tmps)=true:=by simp [Region.wanted,hg,kh hA hy,aM]
    simp only [wpOpsIn,hi]
    rw [if_neg tp]
    exact⟨fun f _=>hF.1 f,ih F m A g _ w Q hF hS (gu hA sS .v) hQ⟩
   ·have h4:=h3 S hB pS (fun _=>rfl)
    rw [<-dF] at h4
    exact run hi sS hg r5 h4
theorem er.rp:∀ {L:List Nat}{α af:AA}{S S':U},er P w0 n ops B D L α S af S'->∀ i ∈ L,kA ops i=true->(D i).2=none/\(D i).1=.none_
 |_,_,_,_,_,.nil ..,i,hi,_=>by cases hi
 |_,_,_,_,_,.cons (i:=j) h t,i,hi,hp=>by
  rcases List.mem_cons.1 hi with rfl|hi
  ·obtain⟨d,hd⟩:∃ d,D i=d:=⟨_,rfl⟩
   rw [hd] at h ⊢
   obtain⟨d,x⟩:=d
   cases x with
   |none =>
    obtain⟨o,h1,_,h2,_⟩:=h
    simp only [kA,h1] at hp
    exact⟨rfl,h2 hp⟩
   |some l =>
    obtain⟨o,h1,_,h2,_⟩:=h
    rw [h2] at hp
    cases hp
  ·exact er.rp t i hi hp
theorem bA.LU {rd:Bool}{id:Nat}(hm:P.follows .mixedOrders=true) (kH:jL ops=true) (hv:∀ p ∈ nc ops,sP (D p.1) (D p.2)) (h:er P w0 n ops B D (List.range ops.size) α S af S'):bA P w0 rd n (.region id ops true) α S .normal af S':=by
 intro F m A g a w hF hR hS hA
 simp only [jL,Bool.and_eq_true] at kH
 obtain⟨he,hp⟩:=kH
 refine wpIn_region_draw fun t=>?_
 simp only [Region.schedule,hm,Bool.true_or,if_true]
 have hd:m6 ops (Array.replicate ops.size false):=⟨by simp,fun y x hy=>by
  simp only [Array.getD_eq_getD_getElem?,Array.getElem?_replicate] at hy
  split at hy<;>simp at hy⟩
 obtain⟨f1,f2,f3,f4⟩:=jc he ops.size t _ hd
 have gG:∀ x,x ∈ Region.linearise .any ops t ↔ x ∈ List.range ops.size:=by
  intro x
  refine⟨fun hx=>by simpa using (f1 x hx).1,fun hx=>?_⟩
  have hx:x < ops.size:=by simpa using hx
  by_cases c:x ∈ Region.linearise .any ops t
  ·exact c
  ·exfalso
   have hl:=f4 ⟨x,hx,by simp [Array.getD_eq_getD_getElem?,Array.getElem?_replicate,hx],c⟩
   have ll:(x::Region.linearise.go .any ops ops.size t (Array.replicate ops.size false) []).Nodup:=by
    rw [List.nodup_cons];exact⟨c,f2⟩
   have hlen:=od (x::Region.linearise.go .any ops ops.size t (Array.replicate ops.size false) []) ll ops.size (fun y hy=>by
    rcases List.mem_cons.1 hy with rfl|hy
    ·exact hx
    ·exact (f1 y hy).1)
   rw [List.length_cons,hl] at hlen
   omega
 have hL:(Region.linearise .any ops t).Pairwise (fun y x=>x < y->JM ops D x y):=by
  refine List.Pairwise.imp_of_mem ?_ f3
  intro y x hy hx hb iS
  have fK:=ow (ops:=ops) (f1 y hy).1 iS hb
  have fc:=List.all_eq_true.1 hp _ fK
  unfold Iu at fc
  split at fc
  ·rename_i oi oj hi hj
   refine⟨oi,oj,hi,hj,fc,?_⟩
   have wY:x ∈ List.range ops.size:=(gG x).1 hx
   have FF:y ∈ List.range ops.size:=(gG y).1 hy
   have JN:∀ {d e:Dt × Option Nat},d.2=none->d.1=.none_->sP d e:=fun {d e} h1 h2=>by
    obtain⟨d,x⟩:=d
    obtain⟨e,y⟩:=e
    simp only at h1 h2
    subst h1 h2
    cases y with
    |none=>exact tq
    |some l=>rfl
   have JO:∀ {d e:Dt × Option Nat},e.2=none->e.1=.none_->sP d e:=fun {d e} h1 h2=>by
    obtain⟨d,x⟩:=d
    obtain⟨e,y⟩:=e
    simp only at h1 h2
    subst h1 h2
    cases x with
    |none=>exact tr
    |some l=>rfl
   cases wZ:kA ops x with
   |true=>exact JN (h.rp x wY wZ).1 (h.rp x wY wZ).2
   |false =>
    cases w5:kA ops y with
    |true=>exact JO (h.rp y FF w5).1 (h.rp y FF w5).2
    |false=>exact hv (x,y) (List.mem_filter.2 ⟨fK,by simp [wZ,w5]⟩)
  ·cases fc
 have hC:(List.range ops.size).Pairwise (· < ·):=List.pairwise_lt_range
 obtain⟨hE,dF⟩:=hS.drew
 have dF:St w0 A g S { w with drawn:=w.drawn+1 }:=dF
 refine (er.perm hC hL gG f2 h).oe F m A g a _ _ hF dF (hA.later hE.toLater) fun a' w' g' h1 h2 h3=>⟨rfl,g',h1,h2,hE.trans h3⟩
end
end Go.Proofs.YtbofilglphfceaaGreat
