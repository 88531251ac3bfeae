import Derived.Lib.AppendZerosOnto
import Derived.Lib.Overlaps
import Derived.Test.YtbdcmpknicjopaaGreatTp30
namespace Go.Proofs.YtbdcmpknicjopaaGreat
set_option linter.all false
set_option maxRecDepth 100000
open Go.RowKit Proofs.Tryz
variable{A:Type}{K:List gw}{M c0 m n off sz:Nat}{O:Hd}{P:Program}{Q Q':Exit->AA->ah->Prop}{R:AA->ah->Prop}{S S':ah}{U aE:AA}{Y:World}{a b f hi lo x:QO}{bs:List QO}{c:QC}{cf:QF}{d dd:Option Nat}{dr:Bool}{e:List Bd}{g:FuncId}{gg:Option (Nat×Bool)}{ik:IntKind}{j:Int}{l:List QI}{o:Oper}{q:QC×List QR}{r:AV}{z:List AV}
variable{ex:Bool}{rows src:List (List AV)}{args:List AV}{i:Nat}
def tz(T:Tables)(n:Nat):Code->Option QC
 |.skip=>some .skip|.label _=>some .skip|.region _ g dr=>match vD T n g.toList g.toList with
  |some l=>match dr with|false=>some (.bj false l)|true=>match HN g with|true=>some (.kC (KW g) l)|false=>none
  |none=>none
 |.seq a b=>match tz T n a,tz T n b with|some d,some e=>some (.seq d e)|_,_=>none
 |.cond c a b=>match tz T n a,tz T n b with|some d,some e=>some (.cond (qo c) d e)|_,_=>none
 |.block id a=>match tz T n a with|some d=>some (.block id d)|none=>none
 |.scope a=>match tz T n a with|some d=>some (.scope d)|none=>none
 |.loop a=>match tz T n a with|some d=>some (.loop d)|none=>none
 |.exit id=>some (.exit id)|.ret=>some .ret|.rangeFunc f h a b=>match tz T n a,tz T n b with|some d,some e=>some (.RQ (qo f) h.toList d e)|_,_=>none
 |c=>some (.raw c)
def okE(x y:List Nat×List Nat×Bool):Bool:=match isX x,isX y with|none,none=>dj x y|some l,none=>rdr y l|none,some l=>rdr x l|some _,some _=>false
def atN(V:List (Nat×Nat))(lg:List (List Nat×List Nat×Bool)):Bool:=V.all λp=>okE (Mj lg p.1) (Mj lg p.2)
def Dt.ok(d:Dt):Prop:=isX d.ns=none
section
variable(P:Program)(Y:World)(rd:Bool)(n:Nat)
def QWx(b:QC)(Q:Exit->AA->ah->Prop)(U:AA)(S:ah):Prop:=∀c,tz P.toTables n c=some b->gL P c=true->Wp P Y rd n c Q U S
def rD(Q:Exit->AA->ah->Prop):List gw->Exit->AA->ah->Prop
 |[]=>Q|.seq b::K=>λex U S=>match ex with|.normal=>QWx P Y rd n b (rD Q K) U S|e=>rD Q K e U S
 |.A5 id::K=>λex U S=>match ex with|.exit j=>(match Nat.beq j id with|true=>rD Q K .normal U S|false=>rD Q K (.exit j) U S)|e=>rD Q K e U S
 |.RT::K=>λex U S=>match ex with|.goto _=>False|e=>rD Q K e U S
def Wy(B:Nat)(V:List (Nat×Nat))(lg:List (List Nat×List Nat×Bool))(l:List QI)(Q:AA->ah->Prop)(U:AA)(S:ah):Prop :=∀b:List Oper,vD P.toTables n b (b.drop lg.length)=some l->KW b.toArray=V->∃(a:Nat->Dt×Option IE) (aE:AA) (S':ah),Jt P Y n b.toArray B a (List.range' lg.length l.length) U S aE S' /\atN V (lg++(List.range' lg.length l.length).map λi=>EI (a i))=true/\(∀i∈List.range' lg.length l.length,(a i).2=none->(a i).1.ok)/\Q aE S'
def wpX(Q:Exit->AA->ah->Prop):QF->AA->ah->Prop
 |.run c K,U,S=>QWx P Y rd n c (rD P Y rd n Q K) U S|.out ex K,U,S=>rD P Y rd n Q K ex U S|.bj dr l K,U,S=>match dr with|false=>lq P Y n false l (λU S=>rD P Y rd n Q K .normal U S) (λa U S=>rD P Y rd n Q K (.panic a) U S) U S|true=>False
 |.kC B V lg b l K,U,S=>(∀k∈b,k<B)->B<=S.nx->Wy P Y n B V lg l (λU S=>rD P Y rd n Q K .normal U S) U S
end
section
variable{rd:Bool}{ex:Exit}{i:QI}
theorem wpX.op(a:bC U.tm i.g=some true)(h:D P Y false i.q U S r S')(k:wpX P Y rd n Q (.bj false l K) (bU i.d U r) S'):wpX P Y rd n Q (.bj false (i::l) K) U S:=by exact lq.op a h k
def Jt.congr{LU:Array Oper}{B:Nat}{a b:Nat->Dt×Option IE}:∀{L:List Nat}{U aE:AA}{S S':ah},(∀i∈L,a i=b i)->Jt P Y n LU B a L U S aE S'->Jt P Y n LU B b L U S aE S'|[],_,_,_,_,_,.nil ..=>.nil ..|i::d,_,_,_,_,c,.cons h t=>.cons X (t.congr λj e=>c j X)
theorem Wy.step{B:Nat}{V:List (Nat×Nat)}{lg:List (List Nat×List Nat×Bool)}{d:Dt×Option IE}{α1:AA}{S1:ah}(p:d.2=none->d.1.ok)(q:∀LU o f,LU.drop lg.length=o::f->tj n o.dst=true->o.dst=i.d->res P.toTables o.op=some i.q->(∀b,bC U.tm i.g=some b->mj LU U o=some b)->GSX P Y n LU.toArray B lg.length d U S α1 S1)(k:Wy P Y n B V (lg++[EI d]) l R α1 S1):Wy P Y n B V lg (i::l) R U S:=by intro LU h j;let⟨o,f,m,r,s,t,u,v⟩:=uC (U:=U) h;let⟨w,x⟩:=Be m;let⟨a,aE,S',g,c,k4,k3⟩:=k LU X j;simp only[av_,bf_]at g c k4;refine⟨λi=>if i=lg.length then d else a i,aE,S',?_,?_,?_,k3⟩;rw[aC_,cU_];refine .cons X (g.congr λi hi=>?_);have:=(List.mem_range'_1.1 hi).1;rw[if_neg Z];rw[aC_,cU_,aH_];simp only[if_pos];have e:((List.range' (lg.length+1) l.length).map λi=>EI (if i=lg.length then d else a i))=(List.range' (lg.length+1) l.length).map λi=>EI (a i):=aQ_ λi hi=>X;rw[e];rw[bn_]at c;exact c;grind
structure QFx(P:Program)(f:FuncId)(q:QC×List QR)(n:Nat):Prop where out:∃fn c,P.funcs[f]?=some fn/\fn.body=some c/\fn.ntmps=n/\BQ P.toTables fn.results.toList=some q.2/\tz P.toTables n c=some q.1/\gL P c=true/\∀(xs:Array Value)(w:World),(callFunc f xs).run P w=.ok (.enter f xs) w
def ae0(T:Tables)(fn:Func):Option (QC×List QR):=match fn.body with
 |some c=>match tz T fn.ntmps c,BQ T fn.results.toList with|some q,some a=>some (q,a)|_,_=>none
 |none=>none
theorem QFx.of{f:FuncId}{q:QC×List QR}{fn:Func}{T:Tables}(e:P.funcs[f]?=some fn)(a:ae0 T fn=some q)(g:P.toTables=T)(h:fn.ntmps=n)(b:KX P fn=true)(i:∀(xs:Array Value) (w:World),(callFunc f xs).run P w=.ok (.enter f xs) w):QFx P f q n:=by subst g;unfold ae0 at a;unfold KX at b;cases d:fn.body with|none=>rw[d]at a;cases a|some c =>rw[d]at a b;simp only at a;split at a;rename_i q1 k l j;cases oJ_ a;exact⟨⟨fn,c,e,d,h,j,X,b,i⟩⟩;grind
end
theorem D.atO(M:x.ev U.tm=.sl true [])(v:hi.ev U.tm=.v (.int ik 0)):D P Y false (.slice (.sl m) x none (some hi) none) U S (.sl true []) S:=D.run λn o N=>by
 obtain⟨t,u,y,z,C,Q,rfl,d,E,f,⟨b,_⟩|⟨e,T,b,i,F⟩⟩:=Cx N;grind;injection b with b;subst b;have f:C=none:=by cases C with|none=>rfl|some _=>cases f
 subst f;have d:y=none:=by cases y with|none=>rfl|some _=>cases d
 subst d;obtain⟨a,rfl,rfl⟩:∃a,z=some a/\hi=qo a:=by cases z with|none=>cases E|some a=>exact⟨a,rfl,oJ_ E⟩
 rw[aT]at M v;refine a_.quiet λA g q w V j=>?_;have G:=j.ev u;rw[show U.ev u=_ from ‹U.ev u=_›]at G;let⟨B,c,J,_,W⟩:=vc G;cases(X:c=0);have K:=j.ev a;rw[show U.ev a=_ from ‹U.ev a=_›]at K;have e2:=cA K;have p:=lF (P:=P) (isSl:=true) (len:=0) (cap:=0) (w:=w) (lo:=none) (hi:=some a) (l:=0) (h:=0) j rfl (by simp[mn,v]) Z Z Z;simp only[bt_,aK_,co_]at p;have r:∃s,(Instr.slice t (q.eval u) (Option.map q.eval none) (Option.map q.eval (some a)) (Option.map q.eval none)).run P w=.ok (.slice s 0 0) w:=by cases B with|none=>exact⟨none,by simp[Instr.slice,J,run_underlying i,p,cW F]⟩|some B=>exact⟨some B,by simp[Instr.slice,J,run_underlying i,p,cW F]⟩
 let⟨s,r⟩:=r;have R:(execOp q.eval o).run P w=.ok (.value (.slice s 0 0)) w:=by simp only[execOp,Q,Sem.run_bind,r_ i λk e h=>X,r,Result.andThen_ok];rfl
 exact⟨_,R,.nil λ_=>rfl⟩
theorem D.acz{k len:Nat}{cx:Option Nat}(a:x.ev U.tm=.ob k sz off len cx)(b:m=sz)(c:hi.ev U.tm=.v (.int ik j))(h0:0<=j)(h1:j<=len):D P Y dr (.slice (.sl m) x none (some hi) none) U S (.ob k sz off j.toNat cx) S:=D.Qr λt h=>by rcases h with⟨h,_⟩|⟨e,g,h,d,f⟩;grind;injection h with h;subst h b;simp only[a,bt_,aK_,c,qd,d,mn];exact⟨f,h0,h1,rfl,rfl⟩
theorem D.atP{k len:Nat}{lo hi:Option QO}{l h:Int}(a:x.ev U.tm=.ob k sz off len (some c0))(d:m=sz)(y:tP U.tm lo 0=some l)(z:tP U.tm hi len=some h)(h0:0<=l)(h1:l<h)(h2:h<=c0):D P Y false (.slice (.sl m) x lo hi none) U S (.ob k sz (off+l.toNat) (h.toNat-l.toNat) (some (c0-l.toNat))) S:=D.run λn o B=>by
 obtain⟨t,u,C,E,j,F,rfl,rfl,rfl,f,⟨b,_⟩|⟨e,V,b,p,G⟩⟩:=Cx B;grind;injection b with b;subst b d;have f:j=none:=by cases j with|none=>rfl|some _=>cases f
 subst f;rw[aT]at a;refine a_.quiet λA g q w W r=>?_;have a:=r.ev u;rw[show U.ev u=_ from ‹U.ev u=_›]at a;let⟨c,s,J,K,L,mF,i⟩:=j_ a;have M:c=c0:=K _ rfl;rw[M]at s L i;have N:=lF (P:=P) (isSl:=true) (len:=len) (cap:=c0) (w:=w) r (uy y) (uy z) h0 Z Z;have Q:¬c0=l.toNat:=Z;have R:(Instr.slice t (q.eval u) (C.map q.eval) (E.map q.eval) (Option.map q.eval none)).run P w=.ok (.slice (some ⟨g.ob k,(off+l.toNat)*m,none⟩) (h.toNat-l.toNat) (c0-l.toNat)) w:=by simp[Instr.slice,s,run_underlying p,N,cW G,Q,iy,aL_]
 have T:(execOp q.eval o).run P w=.ok (.value (.slice (some ⟨g.ob k,(off+l.toNat)*m,none⟩) (h.toNat-l.toNat) (c0-l.toNat))) w:=by simp only[execOp,F,Sem.run_bind,r_ p λk e h=>X,R,Result.andThen_ok];rfl
 exact⟨_,T,.ob J (λm d=>oJ_ d) Z (λh=>X) Z⟩
theorem D.Wz{LQ k len fz:Nat}(h1:a.ev U.tm=.ob k sz off len (some c0))(hk:S.get k=some (.arr sz rows fz ex))(h2:b.ev U.tm=.v (.int ik m))(h0:0<m)(Q:c0<len+m)(jX:off+len<=rows.length)(h4:(len+m)*LQ<=35184372088832)(hz:z.length=sz)(MZ:0<sz):D P Y false (.L_ z LQ a b) U S (.ob S.nx sz 0 (len+m) none) (S.new (.arr sz ((rows.drop off).take len++List.replicate m z) 0 false)):=D.run λn o l=>by
 obtain⟨c,t,t2,u,v,e,kk,f,d,ho,hc,nk,cF,rfl,rfl,ht,iU,hzv,hs,AM,L,R,rfl⟩:=Q_ l;have ID:(f.cells.toList.map b9).length=sz:=hz;have M:d=sz:=X;subst M;rw[aT]at h1 h2;intro A g q w T V;have W:=V.ev u;have g2:=V.ev v;rw[h1]at W;rw[h2]at g2;let⟨cc,e1,aR,mF,AD,_,N⟩:=j_ W;have EF:cc=c0:=mF _ rfl;rw[EF]at e1 N AD;have e2:=cA g2;let⟨i,hi,bT⟩:=oo hs;have uJ:i.zero=some f:=by grind[eu]
 have AN:i.bytes=LQ:=by grind[kQ]
 let⟨T6,MX⟩:=T.drew;let⟨k2,k3,F,ty,p1,p2,p3,p4,p5,p6,p7⟩:=MX.cX k _ hk aR;have sF:(off+len)*d<=F.size:=by rw[p2];exact aT_ _ Z
 let⟨r,holds⟩:=aq ((F.toList.drop (off*d)).take (len*d));have B:r.length=len*d:=X;have qw:∀j,j<len*d->r[j]?=F[off*d+j]?:=λj s=>X;have hold:(Builtin.firstCells i.size len (.slice (some ⟨g.ob k,off*d,none⟩) len c0)).run P w.drew=.ok r.toArray w.drew:=by refine run_firstCells_some (P:=P) w.drew i.size len _ len c0 r X λj x s=>?_;have G:j<len*d:=X;rw[qw j G]at s;rw[iy,cell_of_row w.drew _ _ F ty (0,0) p1];exact s
 have axN:1<=LQ:=R;have hmul:len+m<=35184372088832:=aA_ (cu_ _ R) h4;have hmb:m*LQ<=(len+m)*LQ:=aT_ _ Z;have Yw:Builtin.nextslicecap (len+m) c0*i.bytes<=281474976710656:=by rw[AN];have h5:=nextslicecap_le Q;calc Builtin.nextslicecap (len+m) c0*LQ<=2*(len+m)*LQ:=aT_ _ h5
   _=2*((len+m)*LQ):=Nat.mul_assoc _ _ _
   _<=281474976710656:=Z
 have dB:=Lib.run_append_grow_zeros (P:=P) w t t2 o.type e i f ik kk ht iU hi uJ (some ⟨g.ob k,off*d,none⟩) len c0 r hold m h0 Z Q Z X Yw;let⟨C,hC⟩:=aq (grownCap w (len+m) c0 e);have FT:len+m<=C:=by rw[hC];exact grownCap_ge w (len+m) c0 e
 rw[<-hC]at dB;have va:∀q,¬g.fz w.heap.size q:=λq hf=>absurd (T.dL _ _ hf) (bU_ _);let⟨hE,dF⟩:=MX.new (.cells (r.toArray++Builtin.zeroCells f.cells m++Builtin.zeroCells f.cells (C-(len+m))) e) (.arr d ((rows.drop off).take len++List.replicate m (f.cells.toList.map b9)) 0 false) C (λJ=>aB) (λhL=>by
  refine⟨_,e,eg,?_,X,λh=>X,λp row l=>?_,aF_ _,λq=>⟨λh=>absurd h (va q),λh=>X⟩⟩;simp only[cP_,size_zeroCells,L,bB_,B];rw[<-aL_,<-aL_];congr 1;omega;have jE:((rows.drop off).take len).length=len:=X;by_cases hp:p<len;rw[bj_ Z]at l;let⟨_,l⟩:=tv l;let⟨q1,q2⟩:=p5 _ _ l;refine⟨q1,λj a s=>?_⟩;let⟨x,E,eI⟩:=q2 j a s;have K:j<d:=X;have G:p*d+j<len*d:=nj hp K;refine⟨x,?_,eI.later hL⟩;rw[bS_ X,bS_ X,cs_,qw _ G,<-E,aL_,bL_];rw[bv_ Z,jE]at l;obtain⟨lW,rfl⟩:=aB_.1 l;simp only[bA_]at lW;simp only[cQ_];refine⟨ID,λj b' s=>?_⟩;simp only[aY_,bb_]at s;obtain⟨y,hy,rfl⟩:=s;have K:j<d:=X;refine⟨y,?_,nQ y⟩;have G:(p-len)*d+j<m*d:=nj lW K;have iT:j<f.cells.size:=Z;have e3:((p-len)*d+j)%f.cells.size=j:=by rw[L,bX_,cd_];exact ce_ K
  have e4:p*d+j=len*d+((p-len)*d+j):=by rw[<-bL_,<-aL_];congr 2;omega
  rw[e4,bS_ (by simp only[cP_,bB_,B,size_zeroCells,L];omega),do_ X,bB_,B,Nat.add_sub_cancel_left];unfold Builtin.zeroCells;rw[bW_,cc_,if_pos X];simp only[aK_,e3];rw[getElem!_pos f.cells j iT,<-hy,bh_,aM_ iT]);have E:(execOp q.eval o).run P w=.ok (.value (.slice (some ⟨w.heap.size,0,none⟩) (len+m) C)) (w.drew.alloc (.cells (r.toArray++Builtin.zeroCells f.cells m++Builtin.zeroCells f.cells (C-(len+m))) e)):=by
  have E:(execOp q.eval o).run P w=((Builtin.append_ #[t,t2] o.type #[q.eval u,q.eval v]).run P w).andThen λv w'=>.ok (.value v) w':=by simp[execOp,ho,resolve,hc,nk,cF,invoke,builtin]
  rw[E,e1,e2,dB];rfl
 refine⟨_,_,_,.inl E,?_,dF,T6.trans hE⟩;have:=aO.ob (g:=g.new S.nx w.drew.heap.size C) (w:=w.drew.alloc (.cells (r.toArray++Builtin.zeroCells f.cells m++Builtin.zeroCells f.cells (C-(len+m))) e)) (sz:=d) (off:=0) (len:=len+m) (cx:=none) (.inr rfl) (λm h=>X) (by rw[aG_];exact bY_ (aG _ _ _).symm) (λ_=>by rw[aG_];exact(aG _ _ _).symm) FT;rw[show(g.new S.nx w.drew.heap.size C).ob S.nx=w.heap.size from aG _ _ _,bd_]at this;exact this
theorem D.ae1{k len:Nat}{cx:Option Nat}{l:Nat}(a:x.ev U.tm=.ob k sz off len cx)(n:m=sz)(b:lo.ev U.tm=.v (.int ik j))(c:j=l)(h0:l<len):D P Y dr (.slice (.sl m) x (some lo) none none) U S (.ob k sz (off+l) (len-l) (cx.map (·-l))) S:=D.Qr λt h=>by rcases h with⟨h,_⟩|⟨e,o,h,d,f⟩;grind;injection h with h;subst h;subst c;rw[a];simp only[aK_,bt_,b,qd,d,f,mn];refine⟨X,Z,Z,Z,λp=>Z,λ_=>?_⟩;have g:(l:Int).toNat=l:=Z;have i:(len:Int).toNat=len:=Z;rw[g,i];exact⟨rfl,rfl⟩
theorem ZB(w:World)(t t2 ty e d:TypeId)(i:TypeInfo)(h:P.underlying t=some (.slice e))(hi:P.info? e=some i)(g q dl dc:Nat)(b:Array Value)(k:w.heap[g]?=some (.cells b d (0,0)))(a:Addr)(m c n:Nat)(JF:List Value)(l:Nat.min m dl=n)(o:JF.length=n*i.size)(p:∀j u,JF[j]?=some u->w.cell? (a.add j)=some u)(h1:∀u∈JF,u.oneCell'=true)(s:q+JF.length<=b.size):(Builtin.copy_ #[t,t2] ty #[.slice (some ⟨g,q,none⟩) dl dc,.slice (some a) m c]).run P w=.ok (goInt n) (w.setRow g (b.toList.take q++JF++b.toList.drop (q+JF.length)).toArray):=by have r:=run_firstCells_some (P:=P) w i.size n a m c JF o p;have f:=run_storeCells_at P g q d JF 0 b w k X h1;simp only[bz_]at f;simp[Builtin.copy_,run_underlying h,sizeOf,typeInfo,hi,Builtin.lenOf,l,r,f]
theorem RU{o:Oper}{k len fz:Nat}{cx:Option Nat}(d:res P.toTables o.op=some (.copy sz a b))(l:a.ev U.tm=.ob k sz off len cx)(F:S.get k=some (.arr sz rows fz ex))(m:iB S (b.ev U.tm)=some src)(h0:0<src.length)(jX:off+len<=rows.length)(hf:fz<=off)(h3:∀row∈src,row.length=sz)(G:∀row∈src.take (Nat.min src.length len),row.all db=true):a_ P Y n o U S (.v (.int .i64 (Nat.min src.length len:Nat))) (S.set k (some (.arr sz (rows.take off++src.take (Nat.min src.length len)++rows.drop (off+Nat.min src.length len)) fz ex))):=by
 obtain⟨c,t,t2,u,v,e,e2,ho,hc,nk,cF,rfl,rfl,s,iU,hs⟩:=Je d;rw[aT]at l m;let⟨m,GL⟩:=jV m;have s:=xc s;let⟨i,hi,bT⟩:=oo hs;have dh:src≠[]:=λh=>X;intro A g q w y J;have K:=J.ev u;have g2:=J.ev v;rw[l]at K;let⟨cc,e1,L,_,_,_,_⟩:=j_ K;let⟨M,Q,c2,f,e3,P5,z⟩:=rU y m g2 dh h3 GL;let⟨k2,k3,R,sZ,T,p2,p3,p4,p5,p6,p7⟩:=y.cX k _ F L;let⟨N,V⟩:=aq (Nat.min src.length len);rw[<-V]at G⊢;have vp:N<=src.length:=X;have oa:N<=len:=X;have dJ:(f.take (N*sz)).length=N*sz:=by rw[bc_,z.1];exact cI_ (aT_ _ vp)
 have iL:off*sz+N*sz<=g.cp k*sz:=by rw[<-aL_];exact aT_ sz Z
 have jy:off*sz+(f.take (N*sz)).length<=R.size:=X;have B_:(src.take N).length=N:=X;have B:Src g w sz (src.take N) ⟨M,Q,none⟩ (f.take (N*sz)):=by refine⟨X,λj u C=>?_,λi row hi j a E=>?_⟩;rw[bK_]at C;split at C;exact z.2.1 j u C;grind;rw[bK_]at hi;split at hi;rename_i au;let⟨x,l,eI⟩:=z.2.2 i row hi j a E;exact⟨x,by grind[nj],eI⟩;grind
 have dB:=ZB w t t2 o.type e sZ i s hi (g.ob k) (off*sz) len cc R T ⟨M,Q,none⟩ src.length c2 N (f.take (N*sz)) V.symm X B.2.1 (Jb B λrow d=>⟨h3 row (bC_ d),G row d⟩) jy;let⟨hE,W⟩:=y.LV (p:=off) (FJ:=src.take N) (JF:=f.take (N*sz)) F L T (λr d=>h3 r (bC_ d)) X (λi row j a hi E=>B.2.2 i row hi j a E) X hf;rw[B_]at W;refine⟨_,_,g,.inl ?_,.v,W,hE⟩;have l:(execOp q.eval o).run P w=((Builtin.copy_ #[t,t2] o.type #[q.eval u,q.eval v]).run P w).andThen λv w'=>.ok (.value v) w':=by simp[execOp,ho,resolve,hc,nk,cF,invoke,builtin]
 rw[l,e1,e3,dB];rfl
theorem D.Mk{k len fz:Nat}{cx:Option Nat}(p:a.ev U.tm=.ob k sz off len cx)(g:S.get k=some (.arr sz rows fz ex))(q:iB S (b.ev U.tm)=some src)(h0:0<src.length)(h:off+len<=rows.length)(i:fz<=off)(h3:∀row∈src,row.length=sz)(j:∀row∈src.take (Nat.min src.length len),row.all db=true):D P Y dr (.copy sz a b) U S (.v (.int .i64 (Nat.min src.length len:Nat))) (S.set k (some (.arr sz (rows.take off++src.take (Nat.min src.length len)++rows.drop (off+Nat.min src.length len)) fz ex))):=by cases dr with|false =>intro n o d;let⟨c,t,t2,u,v,e,r,l,_⟩:=Je d;exact(RU d p g q h0 h i h3 j).ops λc e=>X|true =>
  intro n o d;let⟨c,t,t2,u,v,e,r,l,y,A,s,B,C,_⟩:=Je d;have e:∀z∈[u,v],(U.only (dS o)).ev z=U.ev z:=λz m=>gI λt w=>gJ (by rw[l];simp only[Op.operands,Call.operands,s,<-w];simp at m⊢;rcases m with rfl|rfl<;>simp);have x:a.ev (U.only (dS o)).tm=.ob k sz off len cx:=by grind[aT]
  have f:iB S (b.ev (U.only (dS o)).tm)=some src:=by grind[aT]
  exact⟨(RU d x g f h0 h i h3 j).ops λc e=>X,λE=>by grind[qf],λF=>by grind[EH]⟩
theorem Cv.apz{t k:Nat}(q:S.get k=some (.arr sz rows 0 true))(r:U.tm t=.ob k sz 0 m (some c0))(G:c0=rows.length)(K:m<=rows.length):Cv Y n U S ⟨bJ U.tm t (.gr k sz m),U.df⟩ (S.set k (some (.arr sz (rows.take m) 0 false))):=by
 intro A g a w u b;refine⟨g,u.OM (ad_ _) λj B l L=>?_,⟨b.size,λs d=>?_,λs d=>?_,b.df,b.yb⟩,Ext.refl A g w⟩;have l:bJ S.get k (some (.arr sz (rows.take m) 0 false)) j=some B:=l;by_cases e:j=k;subst e;rw[aG]at l;cases oJ_ l;refine⟨_,q,λh=>?_,λJ h=>X⟩;let⟨x,y,f,o,M,N,P,Q,C⟩:=h;refine⟨x,y,f,o,X,λh=>X,λi row hi=>?_,aF_ _,C⟩;rw[bK_]at hi;split at hi;grind;grind;grind[aN];show aO g w (bJ U.tm t _ s) _;by_cases e:s=t;subst e;rw[aG];have f:=b.tm s d;rw[r]at f;generalize a.tmps.getD s undef=v at f⊢;cases f with|ob z E R T p =>rename_i c;have V:c=c0:=E _ rfl;let⟨_,_,x,y,W,p2,p3,F,_⟩:=u.cX k _ q z;have:=F rfl;rw[bd_];exact .gr z Z p
 rw[aN _ _ e];exact b.tm s d;show bJ U.tm t _ s=.u;by_cases e:s=t;subst e;have o:=b.out s d;rw[r]at o;cases o;rw[aN _ _ e];exact b.out s d
section
variable{rd:Bool}
theorem D.atS{k len:Nat}(d:x.ev U.tm=.gr k sz len)(E:m=sz)(F:lo.ev U.tm=.v (.int ik j))(G:j=i)(h0:i<=len)(h1:0<len):D P Y false (.slice (.sl m) x (some lo) none none) U S .u S:=D.run λn o J=>by
 obtain⟨t,u,f,p,s,K,rfl,L,M,N,⟨a,_⟩|⟨e,m',a,y,Q⟩⟩:=Cx J;grind;injection a with a;subst a E G;have R:p=none:=by cases p with|none=>rfl|some _=>cases M
 have T:s=none:=by cases s with|none=>rfl|some _=>cases N
 subst R T;obtain⟨v,rfl,rfl⟩:∃v,f=some v/\lo=qo v:=by cases f with|none=>cases L|some v=>exact⟨v,rfl,X⟩
 rw[aT]at d F;refine a_.quiet λA g q w hS z=>?_;have B:=z.ev u;rw[d]at B;let⟨aR,c,V,hc,W⟩:=(sU B).resolve_left λh=>Z;have hb:=lF (P:=P) (isSl:=true) (len:=len) (cap:=c) (w:=w) z (lo:=some v) (hi:=none) (l:=i) (h:=len) (by grind[mn]) rfl Z Z Z;have b:∃r,(Instr.slice t (q.eval u) ((some v).map q.eval) (Option.map q.eval none) (Option.map q.eval none)).run P w=.ok r w:=⟨_,by have vL:(Instr.sliceBounds true len c (Option.map q.eval (some v)) (Option.map q.eval none) (Option.map q.eval none)).run P w=_:=hb;simp only[Instr.slice,V,Sem.run_bind,run_underlying y,Result.andThen_ok,vL,cW Q,Sem.run_pure];rfl⟩;let⟨r,b⟩:=b;have DY:(execOp q.eval o).run P w=.ok (.value r) w:=by simp only[execOp,K,Sem.run_bind,r_ y λk e h=>X,b,Result.andThen_ok];rfl
 exact⟨_,DY,.u⟩
def H.ZC{k len:Nat}(c:bC U.tm gg=some true)(d:x.ev U.tm=.ob k sz off len none)(e:m=sz)(f:lo.ev U.tm=.v (.int ik j))(g:j=i)(h0:i<len)(kk:∀a b,a=off+i->b=len-i->H P Y rd n Q (.bj dr l K) (bU dd U (.ob k sz a b none)) S):H P Y rd n Q (.bj dr (⟨dd,gg,.slice (.sl m) x (some lo) none none⟩::l) K) U S :=H.op (i:=⟨dd,gg,.slice (.sl m) x (some lo) none none⟩) c (D.ae1 d e f g h0) (kk _ _ rfl rfl)
def H.CT{k len:Nat}(c:bC U.tm gg=some true)(d:x.ev U.tm=.ob k sz off len (some c0))(e:m=sz)(f:lo.ev U.tm=.v (.int ik j))(g:j=i)(h0:i<len)(kk:∀a b c',a=off+i->b=len-i->c'=c0-i->H P Y rd n Q (.bj dr l K) (bU dd U (.ob k sz a b (some c'))) S):H P Y rd n Q (.bj dr (⟨dd,gg,.slice (.sl m) x (some lo) none none⟩::l) K) U S :=H.op (i:=⟨dd,gg,.slice (.sl m) x (some lo) none none⟩) c (D.ae1 d e f g h0) (kk _ _ _ rfl rfl rfl)
theorem H.apA{k len:Nat}{cx:Option Nat}(a:bC U.tm gg=some true)(b:x.ev U.tm=.ob k sz off len cx)(c:m=sz)(d:hi.ev U.tm=.v (.int ik j))(e:j=i)(h0:i<=len)(kk:H P Y rd n Q (.bj dr l K) (bU dd U (.ob k sz off i cx)) S):H P Y rd n Q (.bj dr (⟨dd,gg,.slice (.sl m) x none (some hi) none⟩::l) K) U S:=by have h:=D.acz (P:=P) (Y:=Y) (dr:=dr) (S:=S) b c d Z Z;rw[show j.toNat=i by omega]at h;exact H.op (i:=⟨dd,gg,.slice (.sl m) x none (some hi) none⟩) a h kk
theorem H.apC{k len:Nat}(a:bC U.tm gg=some true)(b:x.ev U.tm=.ob k sz 0 len (some c0))(c:m=sz)(d:hi.ev U.tm=.v (.int ik j))(e:j=i)(h0:0<i)(h1:i<=c0)(kk:H P Y rd n Q (.bj false l K) (bU dd U (.ob k sz 0 i (some c0))) S):H P Y rd n Q (.bj false (⟨dd,gg,.slice (.sl m) x none (some hi) none⟩::l) K) U S:=by have h:=D.atP (P:=P) (Y:=Y) (S:=S) (lo:=none) (hi:=some hi) (l:=0) (h:=j) b c rfl (by grind[tP]) (bp_ _) Z Z;rw[show(0:Int).toNat=0 from rfl,bz_,Nat.sub_zero,Nat.sub_zero,show j.toNat=i by omega]at h;exact H.op (i:=⟨dd,gg,.slice (.sl m) x none (some hi) none⟩) a h kk
theorem H.Wz{LQ k len fz:Nat}(e:bC U.tm gg=some true)(h1:a.ev U.tm=.ob k sz off len (some c0))(f:S.get k=some (.arr sz rows fz ex))(h2:b.ev U.tm=.v (.int ik j))(g:j=m)(h0:0<m)(h:c0<len+m)(o:off+len<=rows.length)(h4:(len+m)*LQ<=35184372088832)(p:z.length=sz)(q:0<sz)(kk:∀c d,c=(rows.drop off).take len++List.replicate m z->d=len+m->H P Y rd n Q (.bj false l K) (bU dd U (.ob S.nx sz 0 d none)) (S.new (.arr sz c 0 false))):H P Y rd n Q (.bj false (⟨dd,gg,.L_ z LQ a b⟩::l) K) U S:=by subst g;exact H.op (i:=⟨dd,gg,.L_ z LQ a b⟩) e (D.Wz h1 f h2 h0 h o h4 p q) (kk _ _ rfl rfl)
def H.Mk{k len fz:Nat}{cx:Option Nat}(e:bC U.tm gg=some true)(f:a.ev U.tm=.ob k sz off len cx)(g:S.get k=some (.arr sz rows fz ex))(h:iB S (b.ev U.tm)=some src)(h0:0<src.length)(j:off+len<=rows.length)(m:fz<=off)(h3:∀row∈src,row.length=sz)(o:∀row∈src.take (Nat.min src.length len),row.all db=true)(kk:∀d (c:Int),d=rows.take off++src.take (Nat.min src.length len)++rows.drop (off+Nat.min src.length len)->H P Y rd n Q (.bj dr l K) (bU dd U (.v (.int .i64 c))) (S.set k (some (.arr sz d fz ex)))):H P Y rd n Q (.bj dr (⟨dd,gg,.copy sz a b⟩::l) K) U S :=H.op (i:=⟨dd,gg,.copy sz a b⟩) e (D.Mk f g h h0 j m h3 o) (kk _ _ rfl)
theorem Nx{k len fz:Nat}{cx:Option Nat}(a:S.get k=some (.arr sz rows fz ex))(h:off+len<=rows.length):iB S (.ob k sz off len cx)=some ((rows.drop off).take len):=by have e:((rows.drop off).take len).length=len:=X;unfold iB;simp only[rowsOf,a,qT,e,bE_]
end
theorem ag8{E R2 R3 R4:List A}{r z:A}{j:Nat}(c:j<E.length)(h2:R2=E.take j++List.replicate (E.length+1-j) z)(h3:R3=R2.take j++[r]++R2.drop (j+1))(h4:R4=R3.take (j+1)++E.drop j++R3.drop (j+1+(E.length-j))):R4=E.take j++[r]++E.drop j:=by have d:(E.take j).length=j:=X;have e:R2.length=E.length+1:=X;have f:R2.take j=E.take j:=X;have g:R3.length=E.length+1:=X;have a:R3.take (j+1)=E.take j++[r]:=X;have b:R3.drop (j+1+(E.length-j))=[]:=aR_ Z;rw[h4,a,b,aI_]
theorem acA{R R2 R3:List A}{r:A}{j n:Nat}(e:j<n)(f:n+1<=R.length)(h2:R2=R.take (j+1)++(R.drop j).take (n-j)++R.drop (j+1+(n-j)))(h3:R3=R2.take j++[r]++R2.drop (j+1)):R3.take (n+1)=(R.take n).take j++[r]++(R.take n).drop j:=by
 have g:(R.take (j+1)).length=j+1:=X;have h:((R.drop j).take (n-j)).length=n-j:=X;have a:R2.take j=R.take j:=X;have b:R2.drop (j+1)=(R.drop j).take (n-j)++R.drop (j+1+(n-j)):=X;have i:(R.take j).length=j:=X;have c:(R.take n).take j=R.take j:=X;have d:(R.take n).drop j=(R.drop j).take (n-j):=by rw[List.drop_take]
 rw[h3,a,b,c,d,<-bn_,dW_ X,aX_ X]
theorem zw9{P:Program}(w:World)(tS tR e:TypeId)(ht:P.underlying tS=some (.slice e))(size:Nat)(hz:∀w,(Go.sizeOf e).run P w=.ok size w)(a b:Addr)(la ca lb cb:Nat)(dh:a.block≠b.block)(tA tB:TypeId)(kA kB:Nat)(Nr:w.shape? a.block=some (tA,kA))(Zl:w.shape? b.block=some (tB,kB))(hkB:kB≠0)(hkA:kA≠0)(hfb:w.frozen? b=false)(Y7:w.frozen? {block:=b.block,off:=kB }=false):(Extern.SlicesOverlaps.overlaps #[tS,tS] #[tR] #[.slice (some a) la ca,.slice (some b) lb cb]).run P w=.ok (.bool false) w:=by
 have tf:(a.block !=b.block)=true:=X;have atT:(a.block==b.block)=false:=X;change Sem.run P (α:=Value) (do
  let some t:=(#[tS,tS]:Array TypeId)[0]?|stuck "slices.overlaps: no parameter types"
  let .slice elem <-underlying t|stuck "slices.overlaps: slice type expected"
  let size <-sizeOf elem match(some a:Option Addr),(some b:Option Addr) with|some a,some b =>if la=0\/lb=0\/size=0 then pure (Value.bool false)else if a.block !=b.block&&(<-frozen a)&&(<-frozen b) then unsupported .addressObserved else do
    if a.block !=b.block then do noView a;noView b if<-mayBeOne a b then return Value.bool ((<-choose (.extern "sameAddr.stringBytes" 2))==1)
    pure (Value.bool (a.block==b.block&&a.off<b.off+lb*size&&b.off<a.off+la*size))|_,_=>pure (Value.bool false)) w=_;by_cases h0:la=0\/lb=0\/size=0;simp[run_underlying ht,hz,h0];cases kB with|zero=>exact absurd rfl hkB|succ kB =>cases kA with|zero=>exact absurd rfl hkA|succ kA =>cases Ex:w.frozen? a<;>cases yc:w.frozen? {block:=a.block,off:=kA+1 }<;>simp[run_underlying ht,hz,h0,tf,atT,frozen,noView,viewAt,mayBeOne,stringish,shape,Sem.run,Nr,Zl,hfb,Y7,Ex,yc]
section
variable{rd:Bool}
theorem D.atU{f:QO}{aZ9:List QO}{k l d s:Nat}{r:AV}{t:List AV}{m:List (List AV)}{z:Bool}{B:Option Nat}(h:f.ev U.tm=.v (.func (.func g) #[] #[]))(i:aZ9.map (·.ev U.tm)=[.sl ex ((r::t)::rows),.ob k l d s B])(eT:S.get k=some (.arr l m 0 z))(h1:0<m.length)(h2:0<l)(hx:∀(w:World) (a b:Addr) (la ca lb cb:Nat) (tA tB:TypeId) (N C:Nat),a.block≠b.block->w.shape? a.block=some (tA,N)->w.shape? b.block=some (tB,C)->C≠0->N≠0->w.frozen? b=false->w.frozen? {block:=b.block,off:=C }=false->(callFunc g #[.slice (some a) la ca,.slice (some b) lb cb]).run P w=.ok (.value (.bool false)) w):D P Y false (.call f aZ9) U S (.v (.bool false)) S:=by
 refine D.run λn o hr=>?_;obtain⟨c,u,ho,hu,rfl,rfl⟩:=mq hr;rw[jG]at i;rw[aT]at h;refine a_.quiet λA E q w hS F=>?_;have Q:=F.ev u;rw[h]at Q;have e2:=cA Q;let⟨x,y,R⟩:∃x y,c.args.toList=[x,y]:=by generalize c.args.toList=L at i;match L,i with|[],h=>simp at h|[_],h=>simp at h|[x,y],_=>exact⟨x,y,rfl⟩|_::_::_::_,h=>simp at h
 rw[R]at i;simp only[aH_,aV_,List.cons.injEq,and_true]at i;have f1:=F.ev x;have f2:=F.ev y;rw[i.1]at f1;rw[i.2]at f2;let⟨T,e4,G,_⟩:=j_ f2;let⟨_,_,p,J,j,r2,r3,r4,r5,r6,r7⟩:=hS.cX k _ eT G;generalize hv:q.eval x=v at f1;cases f1 with|sl hn hc hle hl nO uV =>
  rename_i b o sz V val;let⟨yc,W⟩:=nO 0 0 _ r rfl rfl;have hb:b≠E.ob k:=λe=>X;let⟨K,M,fzA,Cy,Fk⟩:∃cs ty fz,w.heap[b]?=some (.cells cs ty fz)/\cs.size≠0:=by unfold World.cell? at W;split at W;grind;grind
  have e5:c.args.map q.eval=#[.slice (some ⟨b,o,none⟩) ((r::t)::rows).length V,.slice (some ⟨E.ob k,d*l,none⟩) s T]:=by apply Array.toList_inj.1;rw[bV_,R];simp only[aH_,aV_,hv,e4]
  have E9:0<p.size:=by rw[r2];exact Nat.mul_pos Z h2
  have CF:=hx w ⟨b,o,none⟩ ⟨E.ob k,d*l,none⟩ ((r::t)::rows).length V s T M J K.size p.size hb (by simp[World.shape?,Cy]) (by simp[World.shape?,j]) Z Fk (by simp[World.frozen?,j]) (by simp[World.frozen?,j]);rw[aC_]at CF e5;refine⟨.bool false,?_,.v⟩;simp[execOp,ho,hu,e2,e5,CF,resolve,invoke,Deferred.ofValue]
end
section
attribute [local irreducible] ao aF D H
def atV:=aC func84 call84
def ES:List Nat:=[5,0,4,1,9,3,18]
def atW:=aC func37 call37
def jg:List Nat:=[19,6,16,17,20,18,25,5,14,15,0,7,37,41,46,57,1,22,68,21,24,80,23,86,2,3,99,4,108]
theorem jv.ins(h:jv M e){x:Bd}(c:cO x.t<=M):jv M (nf e x):=λb a=>by rcases zl.1 a with rfl|a;grind;exact h b a
mutual theorem acC{M:Nat}:∀(p t:Tm)(e e':List Bd),jv M e->cO t<=M->qB p t e=some e'->jv M e' |⟨k,i,n,a⟩,t,e,e',c,g,h=>by rw[qB]at h;split at h;split at h;exact GY a t.a e e' c (by grind[fJ]) h;grind;split at h;split at h;grind;cases oJ_ h;exact c.ins g;grind;theorem GY{M:Nat}:∀(a b:List Tm)(e e':List Bd),jv M e->bE b<=M->jr a b e=some e'->jv M e'|[],b,e,e',c,d,h=>by grind[jr]|x::a,[],e,e',c,d,h=>by grind[jr]|x::a,y::b,e,e',c,d,h=>by rw[jr]at h;rw[bE]at d;split at h;grind;rename_i f j;exact GY a b f e' (acC x y e f c Z j) Z h;end
theorem RW{x y:At}{e':List Bd}(b:gk e)(hs:jv M e)(a:KR M y)(h:nq x y e=some e'):gk e'/\jv M e'/\e'.length<=e.length+bE x.a:=by unfold nq at h;split at h;let⟨c,d⟩:=Jm x.a y.a e e' b a.1 h;exact⟨c,GY x.a y.a e e' hs a.2.1 h,d⟩;grind
theorem apD(l:List Fi)(f:Fi)(u:l.length<=1099511627776)(b:∀x∈l,x.ids.length<=1099511627776)(j:f.ids.length<=1099511627776):ab Y 84 [ky O l,fi O f] (.v (.bool (DI l f))):=by
 have n:∀x∈l,ab Y 151 [fi O x,fi O f] (iv (oY x f)):=λx h=>Ye x f (b x h) j;let⟨R,d⟩:=aq (DI l f);rw[<-d];unfold DI at d;let⟨e,fi⟩:=f;clear b j;refine st atV ES .v ?_;refine bD 1 1 [] (λi=>[(0,ky O l),(3,.pt 0 2 0 0),(5,.v (.int .i64 i))]) [] (λ_=>[(0,.arr 2 [H9 O ⟨e,fi⟩] 0 true)]) l.length (λk=>R=(l.drop k).any λx=>oY x ⟨e,fi⟩==0) (by simpa using d) λi k hi v a=>?_;clear d;refine I ES ?_;by_cases r:k<l.length
 ·let⟨x,b,s⟩:=aA r;rw[s,bI_]at a;have o:=n x (aZ b);let⟨c,p⟩:=aq (oY x ⟨e,fi⟩);rw[<-p]at o a;let⟨w,q⟩:=aq ((l.drop (k+1)).any λx=>oY x ⟨e,fi⟩==0);rw[<-q]at a;let⟨y,z⟩:=x;clear n p;repeat' first|refine og ES (D.bh hi b) ?_|refine ig ES (pl o) λ_ _=>?_|refine cg ES (λg=>?_) λg=>?_|refine lg ES λm t=>?_|refine ag ES λ_ _=>?_|refine xG ES ?_|refine rG ES ?_|refine fq ?_
  all_goals first|refine aK ?_;rw[a];simp_all;done|exact cB _ [] (k+1) (by rw[a,<-q];simp_all)
 ·skip;repeat' first|refine cg ES (λg=>?_) λg=>?_|refine lg ES λm t=>?_|refine xG ES ?_|refine fq ?_
  all_goals first|omega|rw[a,aq_ Z];exact aK rfl
structure KY(r:Rl):Prop where
 hn:(r.aQ++r.rem).length<=1000000ha:∀x∈r.aQ++r.rem,KR 200 x
 gn:r.guard.length<=1000000ga:∀g∈r.guard,mW 200 g/\oU g.a
 bn:r.body.length<=1000000ba:∀g∈r.body,mW 200 g/\oU g.a
 v0:0<=r.vars
 v1:r.vars<=1099511627776
structure KZ(s:c_):Prop where
 sn:s.store.length<=1000000sa:∀x∈s.store,KR 200 ⟨x.n,x.a⟩bn:s.binds.length<=1000000bo:gk s.binds
 bs:jv 200 s.binds
 kn:s.known.length<=1000000ka:∀g∈s.known,mW 200 g
 fn:s.bf.length<=1000000fa:∀x∈s.bf,x.ids.length<=1000000f0:0<=s.fresh
 f1:s.fresh<=1099511627776
theorem ag9{O:Hd}:aI S (.sl true []) (a8 O []):=by rw[a8,bF];exact aI.wk
theorem RX{l:List Int}{x:Int}:(l.take i).contains x=true↔∃j,j<i/\l[j]?=some x:=by rw[bR_,dv_];constructor;grind;rintro⟨j,a,h⟩;exact⟨j,X⟩
theorem apE(p:Pg)(s:c_)(k:Nat)(m:Int)(r:Rl)(a:List Int)(mG:m=k)(W:p.rs[k]?=some r)(n:KY r)(hs:KZ s)(D_:a.length<=1000000):ab Y 37 [pg O p,kS O s.store,a8 O s.binds,er O s.known,ky O s.bf,iv m,aY O aV false a] (vx O (Jh s r m a)):=by
 have hh:=FA (Y:=Y) (O:=O) r (by have:=n.hn;rw[av_]at this;omega);have qM:=TH (Y:=Y) (O:=O) r (by have:=n.hn;rw[av_]at this;omega);have z:=apD (Y:=Y) (O:=O) s.bf ⟨m,a⟩ (by have:=hs.fn;omega) λx hx=>by have:=hs.fa x hx;omega (by simp only;omega);have TS:=λi=>XP (Y:=Y) (O:=O) s.store i (by have:=hs.sn;omega);have Ex:∀i,KR 200 (j6 s.store i).1:=λi=>by unfold j6;cases L:s.store.find? λx=>x.id==i with|none=>exact⟨by rw[dR];trivial,by simp only[bE];omega,aD⟩|some x=>exact hs.sa x (cq_ L)
 let⟨u,RY⟩:=aq (r.aQ++r.rem);have M:∀x∈u,KR 200 x:=by rw[RY];exact n.ha
 have hHn:u.length<=1000000:=by rw[RY];exact n.hn
 have E:∀(e:List Bd),gk e->jv 200 e->e.length<=200000000->∀g∈r.guard,ab Y 38 [a8 O e,iv 0,gl O g] (gl O (jZ e 0 g))/\ab Y 82 [a8 O s.binds,er O s.known,gl O (jZ e 0 g)] (iv (s_ s.binds s.known (jZ e 0 g))):=λe h1 A h3 g hg =>⟨Tb Z aD aD g (aA_ (n.ga g hg).1.2.1 aD) (n.ga g hg).2,alb _ _ _ (by have:=hs.bn;omega) (by have:=hs.kn;omega) hs.bs hs.bo (((n.ga g hg).1.ins A h1 aD).mono aD) λk W=>(hs.ka k W).mono aD⟩;let⟨R,d⟩:=aq (Jh s r m a);rw[<-d];unfold Jh l_ LZ at d;rw[<-RY]at hh d;let⟨pd,pr⟩:=p;let⟨sg,P,G,sf,J,sn,RZ,sfl⟩:=s;let⟨rn,rk,rr,rg,rb,rv⟩:=r;simp only at z TS Ex E d W qM;let⟨PE,Q⟩:=aq rr.isEmpty;rw[<-Q]at qM d;let⟨HF,S⟩:=aq (DI sf ⟨m,a⟩);rw[<-S]at z d;have hgn:=n.gn;simp only at hgn;clear Q S hs n RY;refine st atW jg (rq _) ?_;refine og jg (D.bh mG W) ?_;apply bk jg hh;refine lg jg λq1 sw=>?_;refine lg jg λq2 um=>?_;refine cn (λbS=>?_) λbS=>?_;refine I jg ?_;rw[if_neg Z]at d;refine fq ?_;rw[d];exact mw;have GL:a.length=u.length:=Z;rw[if_pos GL]at d;let⟨zzO,hO⟩:=aq (zU P u a [] []);rw[<-hO]at d;refine I jg ?_;refine H.cv (Cv.Qy (t:=18) (a':=a8 O []) (N:=ah.none_) (λk o h=>by cases h) (ad_ _) (λk o h=>⟨h,rfl⟩) (λh=>by cases show AV.sl true []=AV.u from h) ag9) ?_;refine cC (τ:=List Bd) 2 2 [] (λp=>[(1,kS O P),(2,a8 O G),(3,er O J),(4,ky O sf),(5,.v (.int .i64 m)),(6,aY O aV false a),(16,.pt 1 6 0 0),(17,fI O u),(18,a8 O p.2),(19,.v (.int .i64 p.1))]) [] (λ_=>[(1,.arr 6 [lY O ⟨rn,rk,rr,rg,rb,rv⟩] 0 true)]) u.length (λi p=>gk p.2/\jv 200 p.2/\p.2.length<=200*i/\zzO=zU P (u.drop i) (a.drop i) (a.take i) p.2) [] ⟨(λb h=>by cases h),(λb h=>by cases h),aB,by simpa using hO⟩ ?_;rintro ii i e jR Zc⟨nB,CU,Kf,f⟩;simp only at jR nB CU Kf f;clear hO;refine I jg ?_;refine lg jg λq3 yf=>?_;refine cn (λbY=>?_) λbY=>?_;rotate_left
 ·rw[aR_ Z,zU]at f;rw[f]at d;simp only at d;have E:=E e nB CU Z;clear TS Ex hh M;refine I jg ?_;refine xG jg ?_;refine bD 2 2 [] (λp=>[(2,a8 O G),(3,er O J),(4,ky O sf),(5,.v (.int .i64 m)),(6,aY O aV false a),(16,.pt 1 6 0 0),(18,a8 O e),(25,.v (.int .i64 p))]) [] (λ_=>[(1,.arr 6 [lY O ⟨rn,rk,rr,rg,rb,rv⟩] 0 true)]) rg.length (λg=>R=if(!(PE&&HF)&&(rg.drop g).all λg=>decide (s_ G J (jZ e 0 g)=1))=true then some e else none) (by simpa using d) λgi g K0 AU w=>?_;clear d;refine I jg ?_;refine lg jg λq4 II=>?_;by_cases au:g<rg.length
  ·let⟨y,K,d_⟩:=aA au;let⟨T,dG⟩:=E y (aZ K);rw[d_,aJ_]at w;let⟨V,hY⟩:=aq (jZ e 0 y);rw[<-hY]at T dG w;let⟨c,hc⟩:=aq (s_ G J V);rw[<-hc]at dG w;let⟨RS,pv⟩:=aq ((rg.drop (g+1)).all λg=>decide (s_ G J (jZ e 0 g)=1));rw[<-pv]at w;let⟨yo,yn,ya⟩:=y;let⟨Yo,Yn,Ya⟩:=V;clear hY hc E;repeat' first|refine og jg (D.bh K0 K) ?_|apply bk jg T|refine ig jg (pl dG) λ_ _=>?_|refine cg jg (λhb=>?_) λhb=>?_|refine ag jg λ_ _=>?_|refine xG jg ?_|refine rG jg ?_|refine fq ?_
   all_goals first|omega|have T:¬c=1:=Z;have h:R=none:=X;rw[h];exact mw|have T:c=1:=Z;exact cB _ [] (g+1) (by rw[w,<-pv,decide_eq_true T];simp)
  ·rw[aR_ Z,bl_,bG_]at w;repeat' first|refine bg jg (pl qM) (λ_=>?_) λ_=>?_|refine bg jg (pl z) (λ_=>?_) λ_=>?_|refine cg jg (λhb=>?_) λhb=>?_|refine xG jg ?_|refine fq ?_
   all_goals first
    |omega
    |(have h:R=none:=by rw[w];simp_all
      rw[h];exact mw)
    |(have h:R=some e:=by rw[w];simp_all
      rw[h];exact .refl _)
 let⟨⟨hn,ha⟩,hx,aP⟩:=aA (l:=u) (k:=i) Z;let⟨x,K,d_⟩:=aA (l:=a) (k:=i) Z;rw[aP,d_,zU]at f;clear E;refine I jg ?_;refine bD 2 2 [] (λp=>[(1,kS O P),(2,a8 O G),(3,er O J),(4,ky O sf),(5,.v (.int .i64 m)),(6,aY O aV false a),(16,.pt 1 6 0 0),(17,fI O u),(18,a8 O e),(19,.v (.int .i64 ii)),(20,.v (.int .i64 p))]) [] (λ_=>[(1,.arr 6 [lY O ⟨rn,rk,rr,rg,rb,rv⟩] 0 true)]) i (λj=>∀q,q<j->a[q]?≠some x) (λq h=>Z) λji j CP hjl pc=>?_;refine I jg ?_;refine cn (λgp=>?_) λgp=>?_
 ·let⟨y,B⟩:∃y,a[j]?=some y:=⟨_,aw_ Z⟩;refine I jg ?_;refine og jg (D.bh CP B) ?_;refine og jg (D.bh jR K) ?_;refine cn (λmh=>?_) λmh=>?_
  ·rw[if_pos (RX.2 ⟨j,Z,by rw[B,mh]⟩)]at f;refine I jg ?_;repeat refine rG jg ?_
   refine fq ?_;have h:R=none:=by rw[d,f]
   rw[h];exact mw
  refine I jg ?_;refine ag jg λi4 EG=>?_;exact cB i4 [] (j+1) λq h A=>by by_cases e:q=j;subst e;rw[B]at A;exact mh (oJ_ A);exact pc q Z A
 rw[if_neg λh=>by let⟨q,h1,A⟩:=RX.1 h;exact pc q Z A]at f;have L:=TS x;have v:=Ex x;let⟨⟨⟨fn,fa⟩,fb⟩,hF⟩:∃F,F=j6 P x:=⟨_,rfl⟩;rw[<-hF]at L v f;simp only at L v f;have C:=M _ (aZ hx);have YU:=aj6 (Y:=Y) (O:=O) ⟨hn,ha⟩ ⟨fn,fa⟩ e (by have:=C.2.1;omega) nB (C.ok aD) (v.ok aD);have nD:=λe'=>RW (e':=e') (x:=⟨hn,ha⟩) nB CU v;let⟨o,ho⟩:=aq (nq ⟨hn,ha⟩ ⟨fn,fa⟩ e);rw[<-ho]at YU f;simp only[<-ho]at nD;let⟨e',b',iY,he',vL⟩:=yY (O:=O) o;rw[iY]at YU;clear TS Ex hF ho;refine I jg ?_;refine xG jg ?_;refine og jg (D.bh jR K) ?_;refine H.op rfl (pl L) ?_;cases fb with
 |false =>
  rw[if_neg aB]at f;refine I jg ?_;repeat refine rG jg ?_
  refine fq ?_;have h:R=none:=by rw[d,f]
  rw[h];exact mw|true =>rw[if_pos rfl]at f;refine I jg ?_;refine og jg (D.bh jR hx) ?_;refine H.op rfl (pl YU) ?_;cases o with
 |none =>
  cases(vL:b'=false);refine I jg ?_;repeat refine rG jg ?_
  refine fq ?_;have h:R=none:=by rw[d,f]
  rw[h];exact mw|some e1 =>cases(vL:b'=true);cases(he'.symm:e1=e');let⟨a1,a2,a3⟩:=nD _ rfl;have atX:=C.2.1;simp only at a3 atX f;refine I jg ?_;refine ag jg λi4 EG=>?_;exact bN (i4,e1) [] (i+1) ⟨a1,a2,by simp only;omega,by rw[f,cb_,K];rfl⟩
def apF:=aC func259 call259
def Ag:List Nat:=[8,0,4,1,7,9,5,3,17]
def atY:=aC func73 call73
def g73:List Nat:=[4]
def acE(O:Hd)(k:Int)(a:List Int)(e:List Bd):List AV:=[iv k,aY O aV false a,a8 O e]
def chv(O:Hd)(k:Int)(a:List Int)(e:List Bd):AV:=.agg (acE O k a e)
theorem ZD{O:Hd}(k:Int)(b:List Int)(e:List Bd):∀a∈acE O k b e,Pure a:=by simp[acE,bZ,bI,Pure.v,iv]
def acF{O:Hd}(k:Int)(a:List Int)(e:List Bd):Pure (chv O k a e):=.agg (ZD k a e)
theorem ali(l:List Fi)(f:Fi)(t:l.length<=1099511627776)(a:∀x∈l,x.ids.length<=1099511627776)(j:f.ids.length<=1099511627776):ab Y 259 [ky O l,fi O f] (.v (.bool (DI l f))):=by
 have n:∀x∈l,ab Y 124 [fi O x,fi O f] (iv (oY x f)):=λx h=>Yc x f (a x h) j;let⟨R,e⟩:=aq (DI l f);rw[<-e];unfold DI at e;let⟨d,fi⟩:=f;clear a j;refine st apF Ag .v ?_;refine lg Ag λm u=>?_;refine bD 1 1 [] (λi=>[(0,ky O l),(3,.pt 0 2 0 0),(7,.v (.int .i64 m)),(8,.v (.int .i64 i))]) [] (λ_=>[(0,.arr 2 [H9 O ⟨d,fi⟩] 0 true)]) l.length (λk=>R=(l.drop k).any λx=>oY x ⟨d,fi⟩==0) X λi k hi v b=>?_;clear e;refine I Ag ?_;by_cases q:k<l.length
 ·let⟨x,a,r⟩:=aA q;rw[r,bI_]at b;have o:=n x (aZ a);let⟨c,p⟩:=aq (oY x ⟨d,fi⟩);rw[<-p]at o b;let⟨w,s⟩:=aq ((l.drop (k+1)).any λx=>oY x ⟨d,fi⟩==0);rw[<-s]at b;let⟨y,z⟩:=x;clear n p;repeat' first|refine og Ag (D.bh hi a) ?_|refine ig Ag (pl o) λ_ _=>?_|refine cg Ag (λg=>?_) λg=>?_|refine ag Ag λ_ _=>?_|refine xG Ag ?_|refine rG Ag ?_|refine fq ?_
  all_goals first|refine aK ?_;rw[b];simp_all;done|exact cB _ [] (k+1) X
 ·skip;repeat' first|refine cg Ag (λg=>?_) λg=>?_|refine xG Ag ?_|refine fq ?_
  all_goals first|omega|rw[b,aq_ Z];exact aK rfl
theorem ag_(i d:Int):ab Y 73 [iv i,iv d] (.v (.bool true)):=by
 refine st atY g73 .v ?_;repeat' first|refine fq ?_
 exact aK rfl
end
def gA:List Nat:=List.range 120
section
variable{rd:Bool}{y:Option (Nat×Bool)}{args:List AV}
def ZE(P:Program)(Y:World)(rd:Bool)(n:Nat)(Q:Exit->AA->ah->Prop)(c:QC)(K:List gw)(U:AA)(S:ah):Prop :=∀a,comp P.toTables n a=some c->gL P a=true->∃ex aE S',Bw P Y rd n a U S ex aE S'/\eF P Y rd n Q K ex aE S'
def R0(P:Program)(Y:World)(rd:Bool)(n:Nat)(Q:Exit->AA->ah->Prop)(c:QC)(K:List gw):Exit->AA->ah->Prop :=λex U S=>match ex with|.normal=>ZE P Y rd n Q c K U S|e=>H P Y rd n Q (.out e K) U S
theorem ZE.round(h:H P Y rd n (R0 P Y rd n Q c K) (.run c []) U S):ZE P Y rd n Q c K U S:=by intro a b d;let⟨ex,g,i,e,f⟩:Wp P Y rd n a (R0 P Y rd n Q c K) U S:=h a b d;cases ex with|normal =>let⟨ex,aE,S',j,k⟩:=f a b d;exact⟨ex,aE,S',Bw.step e j,k⟩|_=>exact⟨_,g,i,Bw.done e aB,f⟩
theorem H.ae6(h:H P Y rd n (R0 P Y rd n Q c K) (.run c []) U S):H P Y rd n Q (.run (.loop c) K) U S:=by intro c0 a b;obtain⟨d,rfl,e⟩:=Ny a;let⟨ex,aE,S',f,g⟩:=ZE.round h d e b;exact⟨ex,aE,S',ep.loop f,g⟩
def H.Bg(h:H P Y rd n (R0 P Y rd n Q c K) (.run c []) U S):H P Y rd n (R0 P Y rd n Q c K) (.out .normal []) U S:=ZE.round h
def H.ae7{id:Nat}(h:H P Y rd n Q (.out (.exit id) K) U S):H P Y rd n (R0 P Y rd n Q c K) (.out (.exit id) []) U S:=h
def H.atZ(h:H P Y rd n Q (.out .ret K) U S):H P Y rd n (R0 P Y rd n Q c K) (.out .ret []) U S:=h
end
class FN(g:FuncId) where
 f:Func
 q:FQ g f
section
variable{rd:Bool}{y:Option (Nat×Bool)}{args:List AV}
theorem inl(h:fk (f.ev U.tm) (bs.map (·.ev U.tm))=some (g,args))[x:FN g]{aE:AA}{S':ah}(k:H prog Y false x.f.ntmps (vE x.q.1.2 λr S'=>H prog Y rd n Q (.bj false l K) (bU d U r) S') cf aE S')(a:args.length<=x.f.ntmps:=by exact ay_ rfl)(e:nI gA 400 (.run x.q.1.1 []) ⟨pO args,[]⟩ S=(cf,aE,S'):=by conv=>lhs;cbv)(b:bC U.tm y=some true:=by rfl):H prog Y rd n Q (.bj false (⟨d,y,.call f bs⟩::l) K) U S:=by let⟨r,S',c,i⟩:=qg.Rw x.q.2 a (H.xy gA 400 e k);exact H.op b (D.call h c λe=>nomatch e) i
end
theorem kw{P:Prop}(h:P:=by repeat' first|exact trivial|refine⟨?_,?_⟩;first|exact .aJ .v|exact .aJ (Pure.bu (lE (m:=60) rfl))|exact .aJ (.mp (by decide))|exact .aJ (.pt (by decide))|exact .aJ (.yl (by decide))|exact .o9 rfl rfl):P:=h
theorem oz{P:Prop}(h:P:=by repeat' first|exact trivial|refine⟨?_,?_⟩;first|exact .inr rfl|refine .inl ⟨_,rfl,?_⟩;first|exact .same trivial|exact .same (List.forall_mem_nil _)|exact .arr ⟨kw,trivial⟩):P:=h
theorem rn{p:Prop}(h:p:=by repeat' first|refine H.ae6 ?_;refine I gA ?_|refine og gA (D.bit rfl) ?_|refine og gA (D.len rfl) ?_|refine og gA (D.ind rfl rfl rfl (by first|decide|simp)) ?_|refine og gA (D.yA rfl rfl rfl (by decide) (by decide)) ?_|refine og gA (D.nil rfl rfl) ?_|refine og gA (D.Ol rfl rfl) ?_|refine og gA (D.Ly rfl rfl) ?_|refine og gA (D.Po rfl rfl (by first|decide|simp) (by first|decide|simp) (by first|decide|simp)) ?_|refine og gA (D.acG rfl rfl rfl (by decide) (by decide) (by decide) (by decide)) ?_|refine og gA (D.max (k:=.i64) (a:=0) (b:=0) rfl rfl) ?_|refine og gA (D.at0 rfl rfl rfl rfl rfl (by decide) (by decide)) ?_|refine og gA (D.acz rfl rfl rfl (by decide) (by decide)) ?_|refine og gA (D.at1 rfl rfl rfl rfl) ?_|refine og gA (D.ato rfl rfl rfl rfl rfl (by decide) (by decide) (by decide)) ?_|refine og gA (D.akd rfl rfl rfl rfl (by decide) (by decide) (by decide)) ?_|refine og gA (D.alj (O:=.plain) (f:=XA .plain) (LR:=[]) rfl rfl rfl rfl λ_=>rfl) ?_|refine og gA (pl at2) ?_|refine og gA (pl apG) ?_|refine og gA (pl apH) ?_|refine og gA (pl apJ) ?_|refine og gA (pl apK) ?_|refine og gA (pl apL) ?_|refine H.eK rfl (λT=>pl at3) ?_;refine I gA ?_|refine H.eK rfl (λT=>D.ind rfl rfl rfl (by first|decide|simp)) ?_;refine I gA ?_|refine og gA (D.Vy rfl rfl rfl) ?_|refine inl rfl ?_|refine H.ae7 ?_;refine I gA ?_|refine fq ?_;refine I gA ?_|refine fq ?_;first|exact .refl _|exact aI.at4 (O:=.plain) rfl rfl|exact aI.grow (O:=.plain) rfl rfl|exact(yI (m:=60) rfl).1|exact⟨[],.aJ .v,oz,rfl⟩|exact⟨[],.aJ (Pure.bu (lE (m:=60) rfl)),oz,rfl⟩):p:=h
theorem py{p:Prop}(h:p:=by exact lE (m:=60) rfl):p:=h
theorem px{Y:World}{r:AV}[x:FN g]{U:AA}(a:Pure r:=by exact py)(b:args.length<=x.f.ntmps:=by exact ay_ rfl)(e:nI gA 400 (.run x.q.1.1 []) ⟨pO args,[]⟩ ah.none_=(cf,U,S):=by conv=>lhs;cbv)(k:H prog Y false x.f.ntmps (vE x.q.1.2 λc S=>aI S c r) cf U S:=by exact rn):ab Y g args r:=st x.q gA a k b e
theorem cx{Y:World}{r:AV}{so so':List (Nat×Ob)}{N:Nat}[x:FN g]{U:AA}(a:args.length<=x.f.ntmps:=by exact ay_ rfl)(b:Nat.ble N N=true:=by rfl)(c:Nat.ble N M=true:=by rfl)(e:nI gA 400 (.run x.q.1.1 []) ⟨pO args,[]⟩ (aw so N)=(cf,U,S):=by conv=>lhs;cbv)(k:H prog Y false x.f.ntmps (vE x.q.1.2 λd S=>∃m,lC N m M d r/\gH N m M S so'/\tu N m (so'.map (·.1))=true) cf U S:=by exact rn):aF prog Y g args (aw so N) r (aw so' M):=sc N M x.q (H.xy gA 400 e k) a b c
section
attribute [local irreducible] ao aF D H
def at5:=aC func41 call41
def Bh:List Nat:=[0,4,3,2,7,11,22]
def at6:=aC func40 call40
def ET:List Nat:=[3,0,2,7,16]
def at7:=aC func20 call20
def Bi:List Nat:=[0,5,4,1,9,13,22]
def yN(l:List Tm):Bool:=decide (l.length<=8)&&decide (bt l<=60)
theorem IJ(a b:List Tm):bt (a++b)=bt a+bt b:=by induction a with|nil=>simp[bt]|cons x a c=>rw[aP_,bt,bt,c];omega
theorem R1(l:List Tm)(t:l.length<=1099511627776)(u:bt l<=1099511627776):ab Y 41 [tl O l] (.v (.bool (yN l))):=by
 let⟨R,a⟩:=aq (yN l);rw[<-a];unfold yN at a;refine st at5 Bh .v ?_;repeat' first|refine cg Bh (λb=>?_) λb=>?_|refine lg Bh λm e=>?_|refine fq ?_
 grind[aK];rw[decide_eq_true Z,az_]at a;refine cC (τ:=Int) 0 0 [] (λp=>[(0,tl O l),(3,.v (.int .i64 p.2)),(4,.v (.int .i64 p.1))]) [] (λ_=>[]) l.length (λk p=>p.2=bt (l.take k)/\p.2<=60) 0 ⟨rfl,aB⟩ ?_;rintro i k c hi w⟨f,h⟩;simp only at hi f h;refine I Bh ?_;by_cases j:k<l.length
 ·let⟨x,n,o⟩:=aA j;have q:bt (l.take (k+1))=bt (l.take k)+dm x:=by grind[IJ,bt]
  have r:bt (l.take (k+1))<=bt l:=by have:=IJ (l.take (k+1)) (l.drop (k+1));rw[du_]at this;omega
  have g:=Hp (Y:=Y) (O:=O) _ x (ad_ _) Z;let⟨z,s⟩:=aq (dm x);rw[<-s]at q g;let⟨y,A⟩:∃z:Int,z=(dm x:Nat):=⟨_,rfl⟩;clear o;have B:=bH (O:=O) x;let⟨C,E,F,G⟩:=x;repeat' first|refine og Bh (D.ind rfl rfl (cD (l:=l) hi n) cE) ?_|refine ig Bh (pl g) λ_ _=>?_|refine cg Bh (λb=>?_) λb=>?_|refine lg Bh λm e=>?_|refine ag Bh λ_ _=>?_|refine xG Bh ?_|refine rG Bh ?_|refine fq ?_
  all_goals first|omega|rw[a,decide_eq_false Z];exact aK rfl|refine H.bK (_,_) [] ?_ ?_ cq;grind;simp only;omega
 ·have d:l.take k=l:=aX_ Z;rw[d]at f;repeat' first|refine cg Bh (λb=>?_) λb=>?_|refine lg Bh λm e=>?_|refine xG Bh ?_|refine fq ?_
  all_goals first|omega|rw[a,decide_eq_true Z];exact aK rfl
end
end Go.Proofs.YtbdcmpknicjopaaGreat
