import Derived.Test.YtbpabjmnhggajaaGreatOs41
namespace Go.Proofs.YtbpabjmnhggajaaGreat
set_option linter.unusedVariables false
set_option linter.unusedSimpArgs false
open Go.RowKit
section
variable {P:Program}{w0:World}{n:Nat}{o:Oper}{α:AA}{S S':ae}{r:AV}
theorem DV (w:World) (t t2 ty e:TypeId) (i:TypeInfo) (z:Value) {kk k:IntKind}(ht:P.underlying t=some (.slice e)) (fS:P.underlying t2=some (.int kk)) (hi:P.info? e=some i) (hz:i.zero=some z) (B:Option Addr) (n:Nat) (hs:0 < i.size)
  (h0:0 < n) (h63:(n:Int)<=9223372036854775807) (h48:n*i.bytes<=281474976710656) :
  (Builtin.append_ #[t,t2] ty #[.slice B 0 0,.int k n]).run P w =
   .ok (.slice (some ⟨w.heap.size,0,none⟩) n (grownCap w n 0 e)) (w.drew.alloc (.cells (Builtin.zeroCells z.cells n++Builtin.zeroCells z.cells (grownCap w n 0 e - n)) e)):=by
 have hn:n ≠ 0:=by omega
 have hns:i.size ≠ 0:=by omega
 have ahR:¬ (9223372036854775807 < (n:Int)):=by omega
 have ahS:¬ (281474976710656 < Builtin.nextslicecap n 0*i.bytes):=by rw[nextslicecap_zero h0];omega
 have hw:IntKind.i64.wrap (n:Int)=n:=by rw[IntKind.wrap_i64];omega
 have ahT:¬ (n:Int) < 0:=by omega
 have ahU:¬ (281474976710656 < (n:Int)*i.bytes):=by grind
 have yH:∀ w:World,(Builtin.firstCells i.size 0 (.slice B 0 0)).run P w=.ok #[] w:=fun w=>by
  cases B with
  |none=>simp[Builtin.firstCells]
  |some b=>simpa using run_firstCells_some (P:=P) (w:=w) i.size 0 b 0 0 [] (by simp) (fun j v h=>by grind)
 simp[Builtin.append_,run_underlying ht,run_underlying fS,sizeOf,typeInfo,zeroValue,hi,hz,asInt,asIntOf,hw,ahT,ahU,hn,hns,ahR,ahS,Question.forced,yH,newRow,grownCap];intro h;rcases Nat.mul_eq_zero.1 h with h|h
 ·omega
 ·omega
theorem Tz {z:List AV}{by_:Nat}{a b:QO}{o:Op}(h:res P.toTables o=some (.E8 z by_ a b)):∃ c t t2 u v e kk zv sz,o=.call c/\c.callee=.builtin .append/\c.argTypes=#[t,t2]/\c.args=#[u,v]/\a=qo u/\b=qo v/\P.underlying t=some (.slice e)/\P.underlying t2=some (.int kk)/\de P e=some zv /\
  cY P e=some sz/\iu P e=some by_/\zv.cells.size=sz/\0 < by_/\z=zv.cells.toList.map bJ:=by
 have two:∀ {β:Type}{x y:β}{l:Array β},l.toList=[x,y]->l=#[x,y]:=fun {β x y l} h=>by grind
 cases o<;>simp only[res,bE,dS,me,gU,kh] at h<;>(repeat' split at h)<;>(try cases h)
 rename_i hb;simp only[Bool.and_eq_true] at hb;exact⟨_,_,_,_,_,_,_,_,_,rfl,by grind,two (by assumption),two (by grind),rfl,rfl,na (by assumption),by assumption,by grind,by grind,by grind,Nat.eq_of_beq_eq_true hb.1,dM hb.2,rfl⟩
theorem af.VJ {z:List AV}{by_:Nat}{a b:QO}{k:IntKind}{m:Int}(h1:a.ev α.tm=.sl true []) (h2:b.ev α.tm=.v (.int k m)) (h0:0 < m) (h4:m*by_<=35184372088832) (hz:0 < z.length) :
  af P w0 false (.E8 z by_ a b) α S (.ob S.nx z.length 0 m.toNat none) (S.new (.arr z.length (List.replicate m.toNat z) 0 false)):=af.run fun n o hr=>by
 obtain⟨c,t,t2,u,v,e,kk,zv,sz,ho,hc,gG,bj,rfl,rfl,ht,fS,hzv,hs,pG,pH,iK,rfl⟩:=Tz hr;have zT:(zv.cells.toList.map bJ).length=sz:=by grind
 rw[zT] at hz ⊢;rw[aI] at h1 h2;intro A g q w hS hA;have g1:=hA.ev u;have g2:=hA.ev v;rw[h1] at g1;rw[h2] at g2;obtain⟨B,cc,e1,_,i_⟩:=om g1;have u0:cc=0:=by grind
 subst u0;have e2:=bI g2;obtain⟨i,hi,bS⟩:=jG hs;have nZ:i.zero=some zv:=by grind[de]
 have PF:i.bytes=by_:=by grind[iu]
 obtain⟨m',rfl⟩:∃ m':Nat,m=m':=⟨m.toNat,by omega⟩;have DQ:0 < m':=by omega
 have h4':m'*by_<=35184372088832:=by grind
 have hmul:m'<=35184372088832:=Nat.le_trans (Nat.le_mul_of_pos_right _ iK) h4';have bZ:=DV (P:=P) w t t2 o.type e i zv (k:=k) ht fS hi nZ B m' (by omega) DQ (by omega) (by grind);have Jl:=grownCap_ge w m' 0 e;obtain⟨VD,Qe⟩:=hS.drew;have tF:∀ q,¬ g.fz w.heap.size q:=fun q hf=>absurd (hS.cK _ _ hf) (Nat.lt_irrefl _);obtain⟨hE,cZ⟩:=Qe.new (.cells (Builtin.zeroCells zv.cells m'++Builtin.zeroCells zv.cells (grownCap w m' 0 e - m')) e) (.arr sz (List.replicate m' (zv.cells.toList.map bJ)) 0 false) (grownCap w m' 0 e) (fun J=>by simp) (fun hL=>by
  refine⟨_,e,dw,?_,by grind,fun h=>by grind,fun p row hr=>?_,Nat.zero_le _,fun q=>⟨fun h=>absurd h (tF q),fun h=>by grind⟩⟩
  ·simp only[Array.size_append,size_zeroCells,pH];rw[<-Nat.add_mul];congr 1;omega
  ·obtain⟨jV,rfl⟩:=List.getElem?_eq_some_iff.1 hr;simp only[List.length_replicate] at jV;simp only[List.getElem_replicate];refine⟨zT,fun j b' hj=>?_⟩;simp only[List.getElem?_map,Option.map_eq_some_iff] at hj;obtain⟨y,hy,rfl⟩:=hj;have Dj:j < sz:=by grind
   refine⟨y,?_,lM y⟩;have aA:p*sz+j < m'*sz:=mf jV Dj;have fc:j < zv.cells.size:=by omega
   have e3:(p*sz+j) % zv.cells.size=j:=by
    rw[pH,Nat.mul_comm,Nat.mul_add_mod];exact Nat.mod_eq_of_lt Dj
   rw[Array.getElem?_append_left (by rw[size_zeroCells,pH];exact aA)];unfold Builtin.zeroCells;rw[Array.getElem?_map,Array.getElem?_range,if_pos (by grind)];simp only[Option.map_some,e3];rw[getElem!_pos zv.cells j fc,<-hy,Array.getElem?_toList,Array.getElem?_eq_getElem fc])
 have hx:(execOp q.eval o).run P w=.ok (.value (.slice (some ⟨w.heap.size,0,none⟩) m' (grownCap w m' 0 e))) (w.drew.alloc (.cells (Builtin.zeroCells zv.cells m'++Builtin.zeroCells zv.cells (grownCap w m' 0 e - m')) e)):=by
  have hx:(execOp q.eval o).run P w=((Builtin.append_ #[t,t2] o.type #[q.eval u,q.eval v]).run P w).andThen fun v w'=>.ok (.value v) w':=by
   simp[execOp,ho,resolve,hc,gG,bj,invoke,builtin]
  rw[hx,e1,e2];simp only[List.length_nil];rw[bZ]
  rfl
 refine⟨_,_,_,.inl hx,?_,cZ,VD.trans hE⟩
 have:=aF.ob (g:=g.new S.nx w.drew.heap.size (grownCap w m' 0 e)) (w:=w.drew.alloc (.cells (Builtin.zeroCells zv.cells m'++Builtin.zeroCells zv.cells (grownCap w m' 0 e - m')) e))
  (k:=S.nx) (sz:=sz) (off:=0) (len:=m') (c:=grownCap w m' 0 e) (cx:=none) (.inr rfl) (fun m h=>by grind) (by rw[Nat.zero_add];exact Nat.le_of_eq (az _ _ _).symm) (fun _=>by rw[Nat.zero_add];exact (az _ _ _).symm) Jl
 rw[show (g.new S.nx w.drew.heap.size (grownCap w m' 0 e)).ob S.nx=w.heap.size from az _ _ _,Nat.zero_mul] at this;exact this
theorem Xl {a:QO}{o:Op}(h:res P.toTables o=some (.cap a)):∃ c t u e,o=.call c/\c.callee=.builtin .cap/\c.argTypes=#[t]/\c.args=#[u]/\a=qo u/\P.underlying t=some (.slice e):=by
 cases o<;>simp only[res,bE] at h<;>(repeat' split at h)<;>(try cases h)
 exact⟨_,_,_,_,rfl,by grind,toList_one (by assumption),toList_one (by grind),rfl,by assumption⟩
def TA:AV->Option Nat
 |.sl true rows=>some rows.length
 |.ob _ _ _ _ (some c)=>some c
 |_=>none
theorem af.cap {x:QO}{m:Nat}(hx:TA (x.ev α.tm)=some m):af P w0 false (.cap x) α S (.v (.int .i64 m)) S:=af.run fun n o hr=>by
 obtain⟨c,t,u,e,ho,hc,gG,bj,rfl,hu⟩:=Xl hr;rw[aI] at hx;refine aQ.quiet fun A g q w hS hA=>?_;have h1:=hA.ev u;have key:∃ B l,q.eval u=.slice B l m:=by
  unfold TA at hx;split at hx
  ·grind[om]
  ·grind[iy]
  ·grind
 obtain⟨B,l,e2⟩:=key;refine⟨_,?_,.v⟩;simp[execOp,ho,resolve,hc,gG,bj,invoke,builtin,e2,Builtin.cap_,run_underlying hu,goInt]
theorem NK {a:QO}{o:Op}(h:res P.toTables o=some (.rp a)):∃ c t u kt et,o=.call c/\c.callee=.builtin .clear/\c.argTypes=#[t]/\c.args=#[u]/\a=qo u/\P.underlying t=some (.map kt et):=by
 cases o<;>simp only[res,bE] at h<;>(repeat' split at h)<;>(try cases h)
 exact⟨_,_,_,_,_,rfl,by grind,toList_one (by assumption),toList_one (by grind),rfl,by assumption⟩
theorem af.rp {x:QO}{k:Nat}{es:List (Value × AV)}(hx:x.ev α.tm=.mp k) (hk:S.get k=some (.mp es)):af P w0 false (.rp x) α S (.aG []) (S.set k (some (.mp []))):=af.run fun n o hr=>by
 obtain⟨c,t,u,kt,et,ho,hc,gG,bj,rfl,hu⟩:=NK hr;rw[aI] at hx;intro A g q w hS hA;have h1:=hA.ev u;rw[hx] at h1;obtain⟨e1,aK⟩:=n0 h1;obtain⟨_,_,entries,clock,p1,p2,p3⟩:=hS.bT k _ hk aK;obtain⟨w',q1,q2,q3⟩:=hS.vY (P:=P) hk aK p1 (entries':=#[]) (clock':=clock) (es':=[]) rfl (fun i key a h=>by grind);refine⟨.tuple #[],w',g,.inl ?_,.aG rfl (fun i a x h=>by grind),q2,q3⟩;simp[execOp,ho,resolve,hc,gG,bj,invoke,builtin,e1,Builtin.clear_,run_underlying hu,eM p1,q1]
end
def Jx (q:ee) (f:Nat->AV) (s:XS):Option (AV × XS):=match q with
 |.E8 z by_ a b=>match a.ev f,b.ev f with
  |.sl true [],.v (.int _ m)=>match decide (0 < m/\m*by_<=35184372088832) && Nat.blt 0 z.length && !eB s.yk s.nx with
   |true=>some (.ob s.nx z.length 0 m.toNat none,mo s (.arr z.length (List.replicate m.toNat z) 0 false))
   |false=>none
  |_,_=>none
 |.cap x=>match TA (x.ev f) with
  |some m=>some (.v (.int .i64 m),s)
  |none=>none
 |.rp x=>match x.ev f with
  |.mp k=>match (eW s).get k with
   |some (.mp es)=>some (.aG [],lP s k (some (.mp [])))
   |_=>none
  |_=>none
 |q=>Ju q f s
section
variable {P:Program}{w0:World}{s s':XS}{r:AV}
theorem NL {q:ee}{f:Nat->AV}{df:List DE}(h:Jx q f s=some (r,s')):(∀ J,af P w0 false q ⟨f,df⟩ (den J s) r (den J s'))/\eC s s'/\s'.lg=s.lg:=by
 cases q with
 |E8 z by_ a b =>
  simp only[Jx] at h;split at h
  ·rename_i k m ha hb;split at h
   ·rename_i hc;simp only[Bool.and_eq_true,Bool.not_eq_true'] at hc;obtain⟨⟨h1,h2⟩,h3⟩:=hc;have h1:=of_decide_eq_true h1;simp only[oI_,pI_] at h;obtain⟨rfl,rfl⟩:=h;refine⟨fun J=>?_,.nw,rfl⟩;rw[jK h3];exact af.VJ ha hb h1.1 h1.2 (dM h2)
   ·grind
  ·grind
 |cap x =>
  simp only[Jx] at h;split at h
  ·rename_i m hm;simp only[oI_,pI_] at h;obtain⟨rfl,rfl⟩:=h;exact⟨fun J=>af.cap hm,.refl _,rfl⟩
  ·grind
 |rp x =>
  simp only[Jx] at h;split at h
  ·rename_i k hx;split at h
   ·rename_i es hk;simp only[oI_,pI_] at h;obtain⟨rfl,rfl⟩:=h;refine⟨fun J=>?_,.wr,rfl⟩;obtain⟨dV,dP⟩:=dB (J:=J) hk;rw[jJ dP];exact af.rp hx dV
   ·grind
  ·grind
 |_=>exact Qp h
end
abbrev qj:=Nat × List Nat
def NM:List Nat->Nat->Bool
 |[],_=>false
 |a::l,k=>match Nat.beq a k with|true=>true|false=>NM l k
def L4 (l:qj) (k:Nat):Bool:=match Nat.blt k l.1 with|true=>true|false=>NM l.2 k
section
variable {P:Program}{w0:World}{n B:Nat}{α au:AA}{S S':ae}{r:AV}{ops:Array Oper}{D:Nat->Dt × Option qj}
def Jy (P:Program) (w0:World) (n:Nat) (ops:Array Oper) (B:Nat) (i:Nat) (d:Dt × Option qj) (α:AA) (S:ae) (α1:AA) (S1:ae):Prop:=match d.2 with
 |none=>oq P w0 n ops B i d.1 α S α1 S1
 |some l=>∃ o,ops[i]?=some o/\(match o.dst with|some d=>Nat.blt d n|none=>true)=true/\rS ops i=false/\B<=S.nx/\S.nx<=S1.nx/\(∀ k,L4 l k=true->S1.get k=S.get k) /\
   (o.guard=none\/∃ j want,o.guard=some (j,want)/\oX ops α j=some (some want))/\∃ r,α1=α.put o.dst r/\ez P w0 n o (α.only (cG o)) S r S1
def Gr (x:List Nat × List Nat × Bool) (l:qj):Bool:=match x with
 |(F,[],false)=>F.all (L4 l ·)
 |_=>false
def u_ (d:Dt × Option qj):List Nat × List Nat × Bool:=match d.2 with
 |none=>d.1.ns
 |some l=>(l.1::l.2,[],true)
def Gs (x:List Nat × List Nat × Bool):Option qj:=match x with
 |(a::u,[],true)=>some (a,u)
 |_=>none
def E9 (d e:Dt × Option qj):Prop:=match d.2,e.2 with
 |none,none=>dj d.1.ns e.1.ns=true
 |some l,none=>Gr e.1.ns l=true
 |none,some l=>Gr d.1.ns l=true
 |some _,some _=>False
theorem E_ {d:Dt}{l:qj}{T T':ae}(h:Gr d.ns l=true) (ht:∀ k,L4 l k=true->T'.get k=T.get k) (ha:fC T d.F):fC T' d.F/\d.W=[]/\d.m=false:=by
 obtain⟨F,W,m⟩:=d;unfold Gr Dt.ns at h;cases W with
 |cons=>cases h
 |nil =>
  cases m with
  |true=>cases h
  |false =>
   refine⟨fun p hp=>?_,rfl,rfl⟩;have:=List.all_eq_true.1 h p.1 (List.mem_map.2 ⟨p,hp,rfl⟩);rw[ht _ this];exact ha p hp
theorem Gt {oi oj:Oper}(h:∀ d,oi.dst=some d->d ∉ oj.looksAt ops):(∀ e,oi.dst=some e->e ∉ cG oj)/\∀ q want,oj.guard=some (q,want)->∀ e,oi.dst=some e->(ops[q]?).bind (·.dst) ≠ some e:=by
 refine⟨fun e he hm=>h e he (rq hm),fun q want hg e he h3=>h e he (List.mem_append.2 (.inr ?_))⟩;rw[hg];simp only;rw[h3];simp
theorem Fa {o:Oper}{d:Option Tmp}{a:AV}(h2:∀ q want,o.guard=some (q,want)->∀ e,d=some e->(ops[q]?).bind (·.dst) ≠ some e) :
  (o.guard=none\/∃ j want,o.guard=some (j,want)/\oX ops (α.put d a) j=some (some want)) ↔ (o.guard=none\/∃ j want,o.guard=some (j,want)/\oX ops α j=some (some want)):=by
 constructor
 ·grind[nf]
 ·grind[nf]
theorem Jy.swap {i j:Nat}{di nN:Dt × Option qj}{oi oj:Oper}{α1 nO:AA}{S1 S2:ae}(hi:ops[i]?=some oi) (hj:ops[j]?=some oj) (ot:oi.apart ops oj=true)
  (hd:E9 di nN) (h:Jy P w0 n ops B i di α S α1 S1) (k:Jy P w0 n ops B j nN α1 S1 nO S2) :
  ∃ tZ zU,Jy P w0 n ops B j nN α S tZ zU/\Jy P w0 n ops B i di tZ zU nO S2:=by
 obtain⟨di,xi⟩:=di;obtain⟨nN,xj⟩:=nN;obtain⟨e1,e2,e3⟩:=Oper.apart_spec ot;obtain⟨l1,l2⟩:=Gt e1;obtain⟨m1,m2⟩:=Gt e3;have bU:∀ t,oj.dst=some t->oi.dst ≠ some t:=fun t ht h'=>e2 t h' ht;cases xi with
 |none =>
  cases xj with
  |none=>exact oq.swap hi hj ot hd h k
  |some l =>
   have hd:Gr di.ns l=true:=hd;have h:oq P w0 n ops B i di α S α1 S1:=h;obtain⟨o7,a,jV,BP,x_,fJ,hB⟩:=h.shape;obtain rfl:o7=oi:=by grind
   obtain⟨_,hW,hM⟩:=E_ hd (T:=S) (T':=S) (fun _ _=>rfl) x_;have fJ:S1=S:=by grind[cQ]
   subst fJ;obtain⟨o,ho,hn,Qr,VK,nY,hold,hg,r,TB,bl⟩:=k;obtain rfl:o=oj:=by grind
   subst BP;rw[oS l1] at bl;rw[Fa l2] at hg;refine⟨α.put o.dst r,S2,⟨o,hj,hn,Qr,VK,nY,hold,hg,r,rfl,bl⟩,?_⟩;obtain⟨Fb,_,_⟩:=E_ hd (T:=S1) (T':=S2) hold x_;have h1:=(h.anyS (T:=S2) (Nat.le_trans VK nY) Fb (fun e=>by grind)).frame (d:=o.dst) (a:=r) fun o2 tI e he=>by grind
   rw[show dm S2 di.W di.m=S2 by grind[cQ]] at h1;rw[TB];exact h1
 |some l =>
  cases xj with
  |some l'=>exact hd.elim
  |none =>
   have hd:Gr nN.ns l=true:=hd;obtain⟨o,ho,hn,Qr,hB,nY,hold,hg,a,BP,bl⟩:=h;obtain rfl:o=oi:=by grind
   subst BP;have k:oq P w0 n ops B j nN (α.put o.dst a) S1 nO S2:=k;obtain⟨qk,b,lx,TB,x_,mM,_⟩:=k.shape;obtain rfl:qk=oj:=by grind
   obtain⟨Fb,hW,hM⟩:=E_ hd (T:=S1) (T':=S) (fun k hk=>(hold k hk).symm) x_;have mM:S2=S1:=by grind[cQ]
   subst mM TB;have kj:oq P w0 n ops B j nN α S (α.put qk.dst b) S:=by
    obtain⟨o2,tI,jb,fU,q0,q1,q2,hk⟩:=k.anyS (T:=S) hB Fb (fun e=>by grind);obtain rfl:o2=qk:=by grind
    have inj:∀ x y:AV,(α.put o.dst a).put o2.dst x=(α.put o.dst a).put o2.dst y->α.put o2.dst x=α.put o2.dst y:=by
     intro x y kr;cases jq:o2.dst with
     |none=>rfl
     |some d =>
      rw[jq] at kr;have:x=y:=by
       have h3:=congrArg (fun z:AA=>z.tm d) kr;simpa[AA.put,az] using h3
      rw[this]
    refine⟨o2,hj,jb,fU,hB,Fb,by rw[hW,hM];exact cQ.symm,?_⟩;rcases hk with ⟨q,want,c,hg,hy,bU,h3,h4⟩|⟨hg,r,h3,h4⟩
    ·grind[nf]
    ·rw[oS l1] at h4;exact .inr ⟨(Fa l2).1 hg,r,inj _ _ h3,h4⟩
   refine⟨α.put qk.dst b,S,kj,⟨o,hi,hn,Qr,hB,nY,hold,(Fa m2).2 hg,a,?_,by grind[oS]⟩⟩;exact put_comm fun t ht e=>bU t e ht
inductive ji (P:Program) (w0:World) (n:Nat) (ops:Array Oper) (B:Nat) (D:Nat->Dt × Option qj):List Nat->AA->ae->AA->ae->Prop where
 |nil (α:AA) (S:ae):ji P w0 n ops B D [] α S α S
 |cons {i:Nat}{rest:List Nat}{α α1 au:AA}{S S1 S':ae}(h:Jy P w0 n ops B i (D i) α S α1 S1) (t:ji P w0 n ops B D rest α1 S1 au S'):ji P w0 n ops B D (i::rest) α S au S'
def okX (ops:Array Oper) (D:Nat->Dt × Option qj) (i j:Nat):Prop:=∃ oi oj,ops[i]?=some oi/\ops[j]?=some oj/\oi.apart ops oj=true/\E9 (D i) (D j)
theorem ji.front {j:Nat}:∀ {C1 C2:List Nat}{α au:AA}{S S':ae},(∀ x ∈ C1,okX ops D x j)->ji P w0 n ops B D (C1++j::C2) α S au S'->ji P w0 n ops B D (j::(C1++C2)) α S au S'
 |[],C2,α,au,S,S',_,h=>h
 |x::C1,C2,α,au,S,S',hx,h=>by
  cases h with
  |@cons _ _ _ α1 _ _ S1 _ h t =>
   have t':=ji.front (fun y hy=>hx y (by grind)) t;cases t' with
   |@cons _ _ _ nO _ _ S2 _ k t2 =>
    obtain⟨oi,oj,hi,hj,h1,h2⟩:=hx x (by simp);obtain⟨tZ,zU,h3,h4⟩:=h.swap hi hj h1 h2 k;exact .cons h3 (.cons h4 t2)
theorem ji.perm:∀ {L C:List Nat}{α au:AA}{S S':ae},C.Pairwise (· < ·)->L.Pairwise (fun y x=>x < y->okX ops D x y)->(∀ x,x ∈ L ↔ x ∈ C)->L.Nodup->ji P w0 n ops B D C α S au S'->ji P w0 n ops B D L α S au S'
 |[],C,α,au,S,S',_,_,hm,_,h=>by
  have:C=[]:=by
   cases C with
   |nil=>rfl
   |cons x C=>have:=(hm x).2 (by simp);cases this
  subst this;exact h
 |y::L,C,α,au,S,S',hC,hL,hm,hn,h=>by
  obtain⟨C1,C2,rfl⟩:=List.append_of_mem ((hm y).1 (by simp));rw[List.pairwise_cons] at hL;rw[List.nodup_cons] at hn;rw[List.pairwise_append,List.pairwise_cons] at hC;obtain⟨p1,⟨p2,p3⟩,p4⟩:=hC;have lQ:∀ x ∈ C1,x < y:=fun x hx=>p4 x hx y (by simp);have bK:∀ x ∈ C2,y < x:=p2;have fG:∀ x,x ∈ L ↔ x ∈ C1++C2:=by grind
  have hf:=ji.front (fun x hx=>hL.1 x ((fG x).2 (by grind)) (lQ x hx)) h;cases hf with
  |cons h1 h2 =>
   refine .cons h1 (ji.perm (L:=L) ?_ hL.2 fG hn.2 h2);rw[List.pairwise_append];exact⟨p1,p3,fun a ha b hb=>p4 a ha b (by grind)⟩
theorem ji.zV:∀ {L:List Nat}{α au:AA}{S S':ae},ji P w0 n ops B D L α S au S'->rT P w0 n ops L α S au S'
 |[],_,_,_,_,.nil α S=>fun F m A g a w Q hF hS hA hQ=>hQ a w g hS hA (Ext.refl ..)
 |i::rest,α,au,S,S',.cons (α1:=α1) (S1:=S1) h t=>by
  have ih:=ji.zV t;obtain⟨d,hd⟩:∃ d,D i=d:=⟨_,rfl⟩;rw[hd] at h;obtain⟨d,x⟩:=d;have run:∀ {o:Oper}{r:AV},ops[i]?=some o->(match o.dst with|some d=>Nat.blt d n|none=>true)=true->(o.guard=none\/∃ j want,o.guard=some (j,want)/\oX ops α j=some (some want))->α1=α.put o.dst r->ez P w0 n o (α.only (cG o)) S r S1->rT P w0 n ops (i::rest) α S au S':=by
   intro o r hi Jz hg BP h4;subst BP;intro F m A g a w Q hF hS hA hQ;have hw:Region.wanted o (yielded ops a.tmps)=true:=by
    rcases hg with hg|⟨j,want,hg,hy⟩
    ·simp[Region.wanted,hg]
    ·simp[Region.wanted,hg,pW hA hy]
   simp only[wpOpsIn,hi];rw[if_pos hw];refine⟨fun f _=>hF.1 f,h4 F m A g a w _ Q hF hS (hA.only _) fun v w' g' hr fk hE=>?_⟩;exact ih F m A g' _ w' Q hF fk (lE (hA.later hE.toLater) Jz hr) fun a' kR vP h1 h2 h3=>hQ a' kR vP h1 h2 (hE.trans h3)
  cases x with
  |some l =>
   obtain⟨o,hi,Jz,_,_,_,_,hg,r,BP,bl⟩:=h;exact run hi Jz hg BP bl
  |none =>
   obtain⟨o,hi,Jz,hp,hB,x_,fJ,h⟩:=h;rcases h with ⟨j,want,b,hg,hy,bU,rfl,Gf⟩|⟨hg,r,BP,h3⟩
   ·have e:S1=S:=by rw[fJ,Gf];exact cQ
    subst e;intro F m A g a w Q hF hS hA hQ;have Gu:¬ Region.wanted o (yielded ops a.tmps)=true:=by simp[Region.wanted,hg,pW hA hy,bU]
    simp only[wpOpsIn,hi];rw[if_neg Gu];exact⟨fun f _=>hF.1 f,ih F m A g _ w Q hF hS (lE hA Jz .v) hQ⟩
   ·grind
theorem ji.DW:∀ {L:List Nat}{α au:AA}{S S':ae},ji P w0 n ops B D L α S au S'->∀ i ∈ L,rS ops i=true->(D i).2=none/\(D i).1=.none_
 |_,_,_,_,_,.nil ..,i,hi,_=>by grind
 |_,_,_,_,_,.cons (i:=j) h t,i,hi,hp=>by
  rcases List.mem_cons.1 hi with rfl|hi
  ·obtain⟨d,hd⟩:∃ d,D i=d:=⟨_,rfl⟩;rw[hd] at h ⊢;obtain⟨d,x⟩:=d;cases x with
   |none =>
    obtain⟨o,h1,_,h2,_⟩:=h;simp only[rS,h1] at hp;exact⟨rfl,h2 hp⟩
   |some l =>
    obtain⟨o,h1,_,h2,_⟩:=h;rw[h2] at hp;cases hp
  ·exact ji.DW t i hi hp
theorem cC.adt {rd:Bool}{id:Nat}(hm:P.follows .mixedOrders=true) (jA:qG ops=true) (hv:∀ p ∈ xw ops,E9 (D p.1) (D p.2)) (h:ji P w0 n ops B D (List.range ops.size) α S au S'):cC P w0 rd n (.region id ops true) α S .normal au S':=by
 intro F m A g a w hF hR hS hA;simp only[qG,Bool.and_eq_true] at jA;obtain⟨he,hp⟩:=jA;refine wpIn_region_draw fun t=>?_;simp only[Region.schedule,hm,Bool.true_or,if_true];have hd:xx ops (Array.replicate ops.size false):=⟨by simp,fun y x hy=>by
  simp only[Array.getD_eq_getD_getElem?,Array.getElem?_replicate] at hy;split at hy<;>simp at hy⟩
 obtain⟨f1,f2,f3,f4⟩:=pX he ops.size t _ hd;have mZ:∀ x,x ∈ Region.linearise .any ops t ↔ x ∈ List.range ops.size:=by
  intro x;refine⟨fun hx=>by simpa using (f1 x hx).1,fun hx=>?_⟩;have hx:x < ops.size:=by grind
  by_cases c:x ∈ Region.linearise .any ops t
  ·grind
  ·exfalso;have hl:=f4 ⟨x,hx,by simp[Array.getD_eq_getD_getElem?,Array.getElem?_replicate,hx],c⟩;have rI:(x::Region.linearise.go .any ops ops.size t (Array.replicate ops.size false) []).Nodup:=by
    rw[List.nodup_cons];exact⟨c,f2⟩
   have hlen:=zW (x::Region.linearise.go .any ops ops.size t (Array.replicate ops.size false) []) rI ops.size (fun y hy=>by grind);rw[List.length_cons,hl] at hlen;omega
 have hL:(Region.linearise .any ops t).Pairwise (fun y x=>x < y->okX ops D x y):=by
  refine List.Pairwise.imp_of_mem ?_ f3;intro y x hy hx hb kr;have fG:=zX (ops:=ops) (f1 y hy).1 kr hb;have ot:=List.all_eq_true.1 hp _ fG;unfold apB at ot;split at ot
  ·rename_i oi oj hi hj;refine⟨oi,oj,hi,hj,ot,?_⟩;have LX:x ∈ List.range ops.size:=(mZ x).1 hx;have VL:y ∈ List.range ops.size:=(mZ y).1 hy;have aaE:∀ {d e:Dt × Option qj},d.2=none->d.1=.none_->E9 d e:=fun {d e} h1 h2=>by
    obtain⟨d,x⟩:=d;obtain⟨e,y⟩:=e;simp only at h1 h2;subst h1 h2;cases y with
    |none=>exact Gv
    |some l=>rfl
   have aaF:∀ {d e:Dt × Option qj},e.2=none->e.1=.none_->E9 d e:=fun {d e} h1 h2=>by
    obtain⟨d,x⟩:=d;obtain⟨e,y⟩:=e;simp only at h1 h2;subst h1 h2;cases x with
    |none=>exact Gw
    |some l=>rfl
   cases VM:rS ops x with
   |true=>exact aaE (h.DW x LX VM).1 (h.DW x LX VM).2
   |false =>
    cases VN:rS ops y with
    |true=>exact aaF (h.DW y VL VN).1 (h.DW y VL VN).2
    |false=>exact hv (x,y) (List.mem_filter.2 ⟨fG,by grind⟩)
  ·grind
 have hC:(List.range ops.size).Pairwise (· < ·):=List.pairwise_lt_range;obtain⟨hE,fJ⟩:=hS.drew;have fJ:St w0 A g S { w with drawn:=w.drawn+1 }:=fJ;refine (ji.perm hC hL mZ f2 h).zV F m A g a _ _ hF fJ (hA.later hE.toLater) fun a' w' g' h1 h2 h3=>⟨rfl,g',h1,h2,hE.trans h3⟩
end
def NN:List UInt8->List UInt8->Bool
 |[],[]=>true
 |a::l,b::m=>match Nat.beq a.toNat b.toNat with|true=>NN l m|false=>false
 |_,_=>false
theorem L5:∀ {a b:List UInt8},NN a b=true->a=b
 |[],[],_=>rfl
 |[],_::_,h=>by cases h
 |_::_,[],h=>by cases h
 |a::l,b::m,h=>by
  unfold NN at h;split at h
  ·rename_i e;rw[UInt8.toNat_inj.1 (Nat.eq_of_beq_eq_true e),L5 h]
  ·grind
def NO:Bool->Bool->Bool
 |true,true=>true
 |false,false=>true
 |_,_=>false
theorem Fc:∀ {a b:Bool},NO a b=true->a=b
 |true,true,_=>rfl
 |false,false,_=>rfl
def TD:Value->Value->Bool
 |.int .i64 a,.int .i64 b=>decide (a=b)
 |.bool a,.bool b=>NO a b
 |.string a,.string b=>NN a.data.toList b.data.toList
 |_,_=>false
theorem Xm {a b:Value}(h:TD a b=true):a=b:=by
 unfold TD at h;split at h
 ·grind
 ·rw[Fc h]
 ·rename_i a b;have h:=L5 h;congr 1;cases a;cases b;simp only[ByteArray.mk.injEq];exact Array.toList_inj.1 h
 ·grind
def zY {α:Type}(f:α->α->Bool):List α->List α->Bool
 |[],[]=>true
 |a::l,b::m=>match f a b with|true=>zY f l m|false=>false
 |_,_=>false
theorem s6 {α:Type}{f:α->α->Bool}(hf:∀ a b,f a b=true->a=b):∀ {l m:List α},zY f l m=true->l=m
 |[],[],_=>rfl
 |[],_::_,h=>by cases h
 |_::_,[],h=>by cases h
 |a::l,b::m,h=>by
  unfold zY at h;split at h
  ·rename_i e;rw[hf _ _ e,s6 hf h]
  ·grind
def aaG:Option Nat->Option Nat->Bool
 |none,none=>true
 |some a,some b=>Nat.beq a b
 |_,_=>false
theorem Xn:∀ {a b:Option Nat},aaG a b=true->a=b
 |none,none,_=>rfl
 |some a,some b,h=>by rw[Nat.eq_of_beq_eq_true h]
 |none,some _,h=>by cases h
 |some _,none,h=>by cases h
def Cs:Nat->AV->AV->Bool
 |0,_,_=>false
 |m+1,a,b=>match a,b with
  |.v x,.v y=>TD x y
  |.sl e r,.sl e' r'=>NO e e' && zY (zY (Cs m)) r r'
  |.agg l,.agg l'=>zY (Cs m) l l'
  |.ob k z o n c,.ob k' z' o' n' c'=>Nat.beq k k' && Nat.beq z z' && Nat.beq o o' && Nat.beq n n' && aaG c c'
  |.pt k z o n,.pt k' z' o' n'=>Nat.beq k k' && Nat.beq z z' && Nat.beq o o' && Nat.beq n n'
  |_,_=>false
theorem wq:∀ {m:Nat}(a b:AV),Cs m a b=true->a=b
 |0,_,_,h=>by cases h
 |m+1,a,b,h=>by
  unfold Cs at h;split at h
  ·rw[Xm h]
  ·simp only[Bool.and_eq_true] at h;rw[Fc h.1,s6 (fun _ _=>s6 wq) h.2]
  ·rw[s6 wq h]
  ·simp only[Bool.and_eq_true] at h;obtain⟨⟨⟨⟨h1,h2⟩,h3⟩,h4⟩,h5⟩:=h;rw[Nat.eq_of_beq_eq_true h1,Nat.eq_of_beq_eq_true h2,Nat.eq_of_beq_eq_true h3,Nat.eq_of_beq_eq_true h4,Xn h5]
  ·simp only[Bool.and_eq_true] at h;obtain⟨⟨⟨h1,h2⟩,h3⟩,h4⟩:=h;rw[Nat.eq_of_beq_eq_true h1,Nat.eq_of_beq_eq_true h2,Nat.eq_of_beq_eq_true h3,Nat.eq_of_beq_eq_true h4]
  ·grind
def TE:Option Ob->Option Ob->Bool
 |some (.arr z r f e),some (.arr z' r' f' e')=>Nat.beq z z' && zY (zY (Cs 9)) r r' && Nat.beq f f' && NO e e'
 |_,_=>false
theorem Xo {a b:Option Ob}(h:TE a b=true):a=b:=by
 unfold TE at h;split at h
 ·simp only[Bool.and_eq_true] at h;obtain⟨⟨⟨h1,h2⟩,h3⟩,h4⟩:=h;rw[Nat.eq_of_beq_eq_true h1,s6 (fun _ _=>s6 wq) h2,Nat.eq_of_beq_eq_true h3,Fc h4]
 ·grind
section
variable {P:Program}{w0:World}{n:Nat}{α:AA}{S S' N:ae}{r:AV}
theorem St.Xp {A:Nat->Prop}{g:Gh}{w:World}{k m fz:Nat}{rows:List (List AV)}{ex:Bool}(hS:St w0 A g S w) (hk:S.get k=some (.arr m rows fz ex)) :
  Ext A g w (g.still (ae.none_.set k (some (.arr m rows fz ex)))) w/\St w0 A (g.still (ae.none_.set k (some (.arr m rows fz ex)))) (S.set k (some (.arr m rows rows.length ex))) w:=by
 obtain⟨N,hN⟩:∃ N:ae,N=ae.none_.set k (some (.arr m rows fz ex)):=⟨_,rfl⟩;rw[<-hN];have I8:∀ j o,N.get j=some o->j=k/\o=.arr m rows fz ex:=fun j o hj=>by
  rw[hN] at hj;have hj:a7 (fun _=>none) k (some (Ob.arr m rows fz ex)) j=some o:=hj;by_cases e:j=k
  ·grind[az]
  ·grind[aD]
 have Gx:N.get k=some (.arr m rows fz ex):=by
  rw[hN];exact az _ _ _
 have vM:∀ b q,(g.still N).fz b q ↔ (g.fz b q\/∃ k sz rows fz ex,N.get k=some (.arr sz rows fz ex)/\g.al k/\b=g.ob k/\q < rows.length*sz):=fun b q=>Iff.rfl;have hL:Later g w (g.still N) w:=⟨fun _ h=>h,fun _ _=>rfl,fun _ _=>rfl,fun b q h=>.inl h,fun _ _ _=>rfl⟩;have h':∀ j o,(S.set k (some (.arr m rows rows.length ex))).get j=some o->(j=k/\o=.arr m rows rows.length ex)\/(j ≠ k/\S.get j=some o):=fun j o hj=>by
  have hj:a7 S.get k (some (.arr m rows rows.length ex)) j=some o:=hj;by_cases e:j=k
  ·grind[az]
  ·grind[aD]
 have any:∀ j o,(S.set k (some (.arr m rows rows.length ex))).get j=some o->∃ o0,S.get j=some o0/\∀ J,o=.fo J->o0=.fo J:=fun j o hj=>by grind
 have OY:∀ j o q,j ≠ k->S.get j=some o->g.al j->(g.still N).fz (g.ob j) q->g.fz (g.ob j) q:=fun j o q bU hj ha hq=>by
  rcases (vM _ q).1 hq with hq|⟨i,sz,VO,f,e,hi,aK,he,_⟩
  ·grind
  ·obtain⟨rfl,kM⟩:=I8 i _ hi;exact absurd (hS.inj j i _ _ hj hk ha aK he) bU
 refine⟨{ hL with size:=Nat.le_refl _,aU:=fun _ _ _=>rfl,h_:=fun b q hq=>?_ },⟨hS.base,hS.up,hS.lo,fun j hj=>hS.al j hj,fun j o hj ha=>?_,fun i j o p hi hj ai aj e=>?_,fun b q hq=>?_,fun b q hb=>.inl (hS.oT b q hb),
  fun j J hj ha c hc=>?_,fun j J i o hj ha hi ai bU hc=>?_,fun i j J J' hi hj ai aj=>?_⟩⟩
 ·rcases (vM b q).1 hq with hq|⟨i,sz,VO,f,e,hi,aK,rfl,_⟩
  ·grind
  ·obtain⟨rfl,_⟩:=I8 i _ hi;exact .inr (hS.bT i _ hk aK).1
 ·have cM:g.al j:=ha;rcases h' j o hj with ⟨rfl,rfl⟩|⟨bU,fc⟩
  ·obtain⟨k2,k3,cs,ty,p1,p2,p3,p4,p5,p6,p7⟩:=hS.bT j _ hk cM;refine⟨k2,k3,cs,ty,p1,p2,p3,p4,fun i row hi=>?_,Nat.le_refl _,fun q=>⟨fun hq=>?_,fun hq=>.inr ⟨j,m,rows,fz,ex,Gx,cM,rfl,hq⟩⟩⟩
   ·obtain⟨q1,q2⟩:=p5 i row hi;refine⟨q1,fun p a hp=>?_⟩;obtain⟨x,hx,hr⟩:=q2 p a hp;exact⟨x,hx,hr.later hL⟩
   ·rcases (vM _ q).1 hq with hq|⟨i,sz,VO,f,e,hi,aK,he,aA⟩
    ·exact Nat.lt_of_lt_of_le ((p7 q).1 hq) (Nat.mul_le_mul_right _ p6)
    ·grind
  ·obtain⟨k2,k3,k4⟩:=hS.bT j o fc cM;refine⟨k2,k3,k4.later hL rfl (fun q hq=>OY j o q bU fc cM hq) fun J hJ=>⟨rfl,Nat.le_refl _,fun _ _=>rfl,fun c q hc hq=>?_⟩⟩;rcases (vM c q).1 hq with hq|⟨i,sz,VO,f,e,hi,aK,rfl,_⟩
   ·grind
   ·obtain⟨rfl,_⟩:=I8 i _ hi;subst hJ;exact absurd hc (hS.kL j J i _ fc cM hk aK fun e=>bU e.symm)
 ·obtain⟨o0,e1,_⟩:=any i o hi;obtain⟨p0,e2,_⟩:=any j p hj;exact hS.inj i j _ _ e1 e2 ai aj e
 ·rcases (vM b q).1 hq with hq|⟨i,sz,VO,f,e,hi,aK,rfl,_⟩
  ·exact hS.cK b q hq
  ·obtain⟨rfl,_⟩:=I8 i _ hi;exact (hS.bT i _ hk aK).2.1
 ·obtain⟨o0,e1,e2⟩:=any j _ hj;rw[e2 J rfl] at e1;exact hS.iE j J e1 ha c hc
 ·obtain⟨o0,e1,e2⟩:=any j _ hj;rw[e2 J rfl] at e1;obtain⟨p0,e3,_⟩:=any i _ hi;exact hS.kL j J i _ e1 ha e3 ai bU hc
 ·obtain⟨o0,e1,e2⟩:=any i _ hi;rw[e2 J rfl] at e1;obtain⟨p0,e3,e4⟩:=any j _ hj;rw[e4 J' rfl] at e3;exact hS.mQ i j J J' e1 e3 ai aj
theorem St.share {A:Nat->Prop}{g:Gh}{w:World}{kb k sz sz' fz Gy m:Nat}{cs:List AV}{rows:List (List AV)}{ex ex':Bool}(hS:St w0 A g S w) (hb:S.get kb=some (.arr sz [.ob k sz' 0 m none::cs] fz ex)) (hk:S.get k=some (.arr sz' rows Gy ex')) (bU:kb ≠ k) (hm:m=rows.length) :
  ∃ g',Ext A g w g' w/\St w0 A g' ((S.set k (some (.arr sz' rows rows.length ex'))).set kb (some (.arr sz [.sl false rows::cs] fz ex))) w:=by
 obtain⟨hE,fk⟩:=hS.Xp hk;refine⟨_,hE,?_⟩;have hF:aR (ae.none_.set k (some (.arr sz' rows Gy ex'))) (.ob k sz' 0 m none) (.sl false rows):=.ob (az _ _ _) (by omega) hm.symm (fun i row bw h1 h2=>by grind) fun i j row bw a a' h1 h2 h3 h4=>by
  rw[Nat.zero_add,h2] at h1;obtain rfl:=oJ_ h1;rw[h3] at h4;obtain rfl:=oJ_ h4;exact .refl _
 obtain⟨N,hN⟩:∃ N:ae,N=ae.none_.set k (some (.arr sz' rows Gy ex')):=⟨_,rfl⟩;rw[<-hN] at hF fk ⊢;have Vv:St w0 A g ⟨N.get,S.nx⟩ w:=hS.forget (Nat.le_refl _) fun j p hj _=>by
  rw[hN] at hj;have hj:a7 (fun _=>none) k (some (Ob.arr sz' rows Gy ex')) j=some p:=hj;by_cases e:j=k
  ·grind[az]
  ·grind[aD]
 have K6:aR ⟨N.get,S.nx⟩ (.ob k sz' 0 m none) (.sl false rows):=hF.mono (S:=N) (T:=⟨N.get,S.nx⟩) fun _ _ _ _ _ h=>h;refine fk.Eo (Nat.le_refl _) fun i o' hi ha=>?_;have hi:a7 (S.set k (some (.arr sz' rows rows.length ex'))).get kb (some (.arr sz [.sl false rows::cs] fz ex)) i=some o':=hi;by_cases e:i=kb
 ·subst e;rw[az] at hi;obtain rfl:=oJ_ hi;have m7:(S.set k (some (.arr sz' rows rows.length ex'))).get i=some (.arr sz [.ob k sz' 0 m none::cs] fz ex):=by
   show a7 S.get k _ i=_;rw[aD _ _ bU];exact hb
  refine⟨_,m7,fun h=>?_,fun J h=>by grind⟩;obtain⟨cs2,ty,h1,h2,h3,h4,h5,h6,h7⟩:=h;have cM:g.al i:=ha;obtain⟨_,_,By,ty0,b1,b2,b3,b4,b5,b6,b7⟩:=hS.bT i _ hb cM;have e1:w.heap[g.ob i]?=some (.cells cs2 ty (0,0)):=h1;rw[e1] at b1;simp only[oI_,Obj.cells.injEq] at b1;obtain⟨rfl,rfl,_⟩:=b1;refine⟨cs2,ty,h1,h2,h3,h4,fun r bw hr=>?_,h6,h7⟩;cases r with
  |succ r=>simp at hr
  |zero =>
   simp only[List.getElem?_cons_zero,oI_] at hr;subst hr;obtain⟨q1,q2⟩:=h5 0 _ rfl;refine⟨q1,fun p a hp=>?_⟩;cases p with
   |zero =>
    simp only[List.getElem?_cons_zero,oI_] at hp;subst hp;obtain⟨x,hx,dR⟩:=(b5 0 _ rfl).2 0 _ rfl;exact⟨x,hx,K6.rep Vv dR⟩
   |succ p=>exact q2 (p+1) a hp
 ·grind[aD]
theorem aC.share {f:FuncId}{args:List AV}{kb k sz sz' fz Gy m:Nat}{cs:List AV}{rows:List (List AV)}{ex ex':Bool}(hb:S.get kb=some (.arr sz [.ob k sz' 0 m none::cs] fz ex)) (hk:S.get k=some (.arr sz' rows Gy ex')) (bU:kb ≠ k) (hm:m=rows.length)
  (h:aC P w0 f args ((S.set k (some (.arr sz' rows rows.length ex'))).set kb (some (.arr sz [.sl false rows::cs] fz ex))) r S'):aC P w0 f args S r S':=by
 refine⟨h.1,fun F q A g args' w hF hS hA=>?_⟩;obtain⟨g1,hE,fJ⟩:=hS.share hb hk bU hm;refine (h.2 F q A g1 args' w hF fJ ⟨hA.1,fun i a x h1 h2=>(hA.2 i a x h1 h2).later hE.toLater⟩).mono ?_;rintro e w' ⟨v,g',rfl,h1,h2,h3⟩;exact⟨v,g',rfl,h1,h2,hE.trans h3⟩
theorem aC.BJ {f:FuncId}{args args':List AV}{Qa:ae}(hN:∀ k o,N.get k=some o->S.get k=some o) (hx:S.nx<=S'.nx) (h':∀ k o,S'.get k=some o->S.get k=some o/\N.get k=none) (hf:eY N args args') (h:aC P w0 f args' S' r Qa):aC P w0 f args S r Qa:=by
 refine⟨h.1,fun F m A g xs w hF hS hA=>?_⟩;obtain⟨hE,fk⟩:=hS.BJ hN hx h';have oQ:jc (g.still N) w args' xs:=by
  refine⟨hA.1.trans hf.len,fun i a x ha hx=>?_⟩;have hi:i < args.length:=by rw[hf.len];exact (List.getElem?_eq_some_iff.1 ha).1
  have h0:=List.getElem?_eq_getElem hi;have zF:St w0 A g ⟨N.get,S.nx⟩ w:=hS.forget (Nat.le_refl _) fun j p hj _=>hN j p hj;have hr:=(hf.at i _ a h0 ha);exact (hr.mono (S:=N) (T:=⟨N.get,S.nx⟩) fun _ _ _ _ _ h=>h).rep zF (hA.2 i _ x h0 hx)
 refine (h.2 F m A (g.still N) xs w hF fk oQ).mono ?_;rintro e w' ⟨v,g',rfl,k1,k2,k3⟩;exact⟨v,g',rfl,k1,k2,hE.trans k3⟩
end
end Go.Proofs.YtbpabjmnhggajaaGreat
