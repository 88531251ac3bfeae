import Derived.Carry
import Derived.Deep.DeepHandedRow
import Derived.Lib.AppendZerosOnto
import Derived.Lib.LaidTab
import Derived.Lib.Overlaps
import Derived.OpenShut
import Derived.ProofKit
import Derived.Test.YtbdcmpknicjopaaGreatRows
import Derived.Test.YtbdcmpknicjopaaGreatTo29
namespace Go.Proofs.YtbdcmpknicjopaaGreat
set_option linter.all false
set_option maxRecDepth 100000
open Go.RowKit Proofs.Tryz
variable{A T zzH:Type}{B MO c0 m n off sz:Nat}{J J':zz9}{K:List iu}{MQ:Array Oper}{O:Hd}{P:Program}{Q Q':Exit->AA->ao->Prop}{R:AA->ao->Prop}{S S':ao}{U:World}{Y aI:AA}{a b hi lo x:QO}{aZ9:List QO}{dd:Option Nat}{dr:Bool}{env:List Bd}{fr j:Int}{gg:Option (Nat×Bool)}{ik:IntKind}{l:List QI}{o:Oper}{r:AV}{s s':XS}{z:List AV}{MP ys:List T}{enc:TypeId×Value->zzH}
variable{ex:Bool}{rows src:List (List AV)}{args:List AV}{i:Nat}{f:Tm->Tm}
section
open Go.ChangeShapes Go.WideShapes Go.ChangeAt Go.RowKit
theorem Fw(c:laidOutB P=true){W e:World}(f:Below W.heap.size W e):∀{a:List TypeId}{vs:List Value}{ds:List (DataW zzH)}{ps:List MemPlace},(∀t∈a,P.readableRec t=true/\t<P.types.size)->DataW.TrodAll enc P W 0 (λ_=>true) true a vs ds ps->(∀x∈ps,x.block<W.heap.size) ->DataW.TrodAll enc P e 0 (λb=>decide (b<W.heap.size)) true a vs ds ps|[],vs,ds,ps,_,h,_=>by obtain⟨rfl,rfl,rfl⟩:=trodAll_nil h;exact trodAll_mk0|t::a,vs,ds,ps,g,h,i=>by obtain⟨v,j,d,k,p,q,rfl,rfl,rfl,l,m⟩:=trodAll_cons h;let⟨n,o⟩:=g t aE;exact trodAll_cons_mk (Below.trod c n o l f λx r=>i x Z) (Fw c f (λt s=>g t Z) m λx r=>i x Z)
theorem adQ{f:Func}{s:ChangeSpec}{W d:World}{args:Array Value}{ds:List (DataW zzH)}{before:List MemPlace}{e:TypeId}(n:laidOutB P=true)(o:∀t∈f.params.toList,P.readableRec t=true/\t<P.types.size)(a:s.vars=[])(l:f.resultTypes=#[e])(c:P.underlying e=some .bool)(g:s.fn zzH (ds++[])={results:=[.lit (.bool true)],args:=ds })(i:DataW.Whole enc P f.params.toList s.vars false W args.toList ds [] before)(m:Below W.heap.size W d):s.post enc P f false true false false W args (.bool true) d:=by have b:=i;obtain⟨p,q,r,j,rfl,u,v⟩:=i;rw[a]at j;obtain⟨_,rfl⟩:=trodVars_none j;have w:∀x∈p,x.block<W.heap.size:=λx k=>b.lt x Z;refine⟨ds,[],p++[],[],p,[],b,?_,?_,?_,World.keptBut_mono (λx k=>⟨k,.inr (.inl Z)⟩) (m.frame (·∈p++[])),λh=>Z⟩;rw[g,l];exact trodAll_mk1 (shut_bool c true);grind[Fw];rw[g,a];rfl
theorem own:ownKnob prog.godebug=none:=by kernel_rfl
noncomputable def HB(os:Os):World:=World.holding prog os ⟨#[],#[],[]⟩
theorem ars{g:Gh}{w:World}{a b:AV}{x y:Value}(h:aT g w a x)(k:aT g w b y):nI g w [a,b] #[x,y]:=⟨rfl,λi c z d e=>Z⟩
end
def pJ{T:Type}(f:T->List AV)(z:List AV)(m:Nat)(l:List T):List (List AV):=l.map f++List.replicate (m-l.length) z
section
variable{rd:Bool}{f:T->List AV}
theorem adR{l:List T}(h:l.length<=m):(pJ f z m l).length=m:=by grind[pJ]
theorem I.avV{i:Int}(O:Hd)(f:T->List AV)(c:bJ Y.tm gg=some true)(h1:a.ev Y.tm=.v (.int .i64 0))(h2:b.ev Y.tm=.v (.int .i64 i))(hi:i=m)(hs:z.length=sz)(d:m*MO<=35184372088832)(h6:m<=9223372036854775807)(kk:∀MP:List T,MP=[]->I P U rd n Q (.bp false l K) (bX dd Y (.ob S.nx sz 0 0 none)) (S.new (.arr sz (O.h (pJ f z m) MP) 0 true))):I P U rd n Q (.bp false (⟨dd,gg,.sy z MO a b⟩::l) K) Y S:=by have h:=kk [] rfl;rw[O.eq]at h;subst hs hi;exact I.op (i:=⟨dd,gg,.sy z MO a b⟩) c (by simpa[pJ] using D.akL (P:=P) (U:=U) (z:=z) (MO:=MO) (S:=S) h1 h2 X X X X) (by grind[pJ])
theorem amz{Y:Type}{g:Nat->Y}{k:Nat}{o:Y}(h:g k=o):bK g k o=g:=by grind[aK,aR]
theorem I.amA{k len:Nat}{ex':Bool}(p:bJ Y.tm gg=some true)(h1:a.ev Y.tm=.ob k sz 0 len none)(c:S.get k=some (.arr sz (O.h (pJ f z m) MP) 0 ex))(q:len=MP.length)(d:b.ev Y.tm=aQ O f ex' ys)(u:∀x,(f x).length=sz)(v:∀x,(f x).all dv=true)(w:MP.length+ys.length<=m)(kk:∀j r,j=MP++ys->r=j.length->I P U rd n Q (.bp false l K) (bX dd Y (.ob k sz 0 r none)) (S.set k (some (.arr sz (O.h (pJ f z m) j) 0 ex)))):I P U rd n Q (.bp false (⟨dd,gg,.append sz MO a b⟩::l) K) Y S:=by rw[bN]at d;have h:=kk _ _ rfl rfl;rw[O.eq]at h c;cases ys with
 |nil =>
  rw[aI_]at h;have e:S.set k (some (.arr sz (pJ f z m MP) 0 ex))=S:=by cases S with|mk g x=>show(⟨bK g k _,x⟩:ao)=⟨g,x⟩;rw[amz c]
  rw[e]at h;subst q;exact I.op (i:=⟨dd,gg,.append sz MO a b⟩) p (D.WB h1 c (by rw[d];exact jt)) h|cons y ys =>
  have A:=adR (f:=f) (z:=z) (show MP.length<=m by omega);have B:(f y::List.map f ys).length=(y::ys).length:=aE;have o:=D.avc (P:=P) (U:=U) (MO:=MO) (x:=f y) (GL:=List.map f ys) h1 c (by rw[d];exact jt) (aF_ _) Z λrow E=>Z;have F:(pJ f z m MP).take len=MP.map f:=by grind[pJ]
  have G:(pJ f z m MP).drop (len+(f y::List.map f ys).length)=List.replicate (m-(MP++y::ys).length) z:=by rw[pJ,q,List.drop_append,ar_ aE,aS_,List.drop_replicate];congr 1;simp;omega
  have s:(pJ f z m MP).take len++f y::List.map f ys++(pJ f z m MP).drop (len+(f y::List.map f ys).length)=pJ f z m (MP++y::ys):=by grind[pJ]
  rw[s]at o;have t:len+(f y::List.map f ys).length=(MP++y::ys).length:=Z;rw[t]at o;exact I.op (i:=⟨dd,gg,.append sz MO a b⟩) p o h
theorem aL.avW{k len:Nat}(c:S.get k=some (.arr sz (O.h (pJ f z m) MP) 0 ex))(n:len=MP.length):aL S (.ob k sz 0 len none) (aQ O f false MP):=by
 rw[bN];rw[O.eq]at c;have key:∀i row,(MP.map f)[i]?=some row->(pJ f z m MP)[i]?=some row:=λi row h=>by unfold pJ;rw[bj_ (aC_.1 h).1];exact h
 refine .ob c (by simp[pJ];omega) Z (λi row g b d=>?_) λi j row g a o b d l e=>?_;grind;rw[aJ_,key i _ d]at b;rw[oJ_ b,l]at e;rw[oJ_ e];exact .refl _
theorem bj.yl{f:QO}{k:Nat}{b:Bool}{J e:eU}(h:f.ev Y.tm=.yl k)(i:aZ9.map (·.ev Y.tm)=args)(A:S.get k=some (.fo J))(j:∀(T:ao) (k:Nat),T.get k=some (.fo J)->FE P U k args T (.v (.bool b)) (T.set k (some (.fo e)))):bj P U B (.call f aZ9) Y S (.v (.bool b)) ⟨[(k,.fo J)],[(k,some (.fo e))],false⟩:=by
 intro n o l;let⟨c,u,m,a,r,d⟩:=my l;refine⟨λs=>by grind[sY,qw],λp s=>Z,λT _ v _=>?_⟩;have w:T.get k=some (.fo J):=v _ List.mem_cons_self;have g:∀q∈(.call c:Op).operands,(Y.only (d_ o)).ev q=Y.ev q:=λq x=>h_ λt C=>ic Z;have y:(Y.only (d_ o)).ev u=.yl k:=by rw[g u (show u∈c.operands by simp[Call.operands,a]),<-h,r,aY]
 have z:c.args.toList.map (Y.only (d_ o)).ev=args:=by rw[<-i,d,jQ];exact aQ_ λq x=>g q (show q∈c.operands by simp[Call.operands,a];exact .inr Z)
 rw[ij];exact Na m a y (by rw[z];exact j T k w)
end
theorem zv9(w:World)(t t2 ty e:TypeId)(i:TypeInfo)(z:Value){kk k:IntKind}(g:P.underlying t=some (.slice e))(l:P.underlying t2=some (.int kk))(hi:P.info? e=some i)(m:i.zero=some z)(B:Option Addr)(n:Nat)(hs:0<i.size)(h0:0<n)(o:(n:Int)<=9223372036854775807)(p:n*i.bytes<=281474976710656):(Builtin.append_ #[t,t2] ty #[.slice B 0 0,.int k n]).run P w =.ok (.slice (some ⟨w.heap.size,0,none⟩) n (grownCap w n 0 e)) (w.drew.alloc (.cells (Builtin.zeroCells z.cells n++Builtin.zeroCells z.cells (grownCap w n 0 e-n)) e)):=by
 have q:n≠0:=X;have r:i.size≠0:=X;have a:¬9223372036854775807<(n:Int):=X;have c:¬281474976710656<Builtin.nextslicecap n 0*i.bytes:=by rw[nextslicecap_zero h0];omega
 have s:IntKind.i64.wrap (n:Int)=n:=by rw[IntKind.wrap_i64];omega
 have d:¬(n:Int)<0:=X;have f:¬281474976710656<(n:Int)*i.bytes:=Z;have u:∀w:World,(Builtin.firstCells i.size 0 (.slice B 0 0)).run P w=.ok #[] w:=λw=>by cases B with|none=>simp[Builtin.firstCells]|some b=>simpa using run_firstCells_some (P:=P) (w:=w) i.size 0 b 0 0 [] aE λj v h=>Z
 simp[Builtin.append_,run_underlying g,run_underlying l,sizeOf,typeInfo,zeroValue,hi,m,asInt,asIntOf,s,d,f,q,r,a,c,Question.forced,u,newRow,grownCap];intro h;rcases Nat.mul_eq_zero.1 h with h|h;omega;omega
theorem SW{o:Op}(h:res P.toTables o=some (.Nf z MO a b)):∃c t t2 u v e kk f sz,o=.call c/\c.callee=.builtin .append/\c.argTypes=#[t,t2]/\c.args=#[u,v]/\a=qo u/\b=qo v/\P.underlying t=some (.slice e)/\P.underlying t2=some (.int kk)/\eL P e=some f /\eR P e=some sz/\k_ P e=some MO/\f.cells.size=sz/\0<MO/\z=f.cells.toList.map cT:=by have d:∀{g:Type}{x y:g}{l:Array g},l.toList=[x,y]->l=#[x,y]:=λ{g x y l}h=>Z;cases o<;>simp only[res,cU,gR,qB,lS,om]at h<;>(repeat' split at h)<;>(try cases h);rename_i i;simp only[aw_]at i;exact⟨_,_,_,_,_,_,_,_,_,rfl,Z,d (by assumption),d Z,rfl,rfl,xN (by assumption),by assumption,Z,Z,Z,aT_ i.1,nn i.2,rfl⟩
theorem D.art{k:IntKind}{m:Int}(h1:a.ev Y.tm=.sl true [])(h2:b.ev Y.tm=.v (.int k m))(h0:0<m)(h4:m*MO<=35184372088832)(R:0<z.length):D P U false (.Nf z MO a b) Y S (.ob S.nx z.length 0 m.toNat none) (S.new (.arr z.length (List.replicate m.toNat z) 0 false)):=D.run λn o l=>by
 obtain⟨c,t,t2,u,v,e,kk,f,sz,T,V,W,cP,rfl,rfl,ht,jf,hzv,hs,vB,r,ku,rfl⟩:=SW l;have C:(f.cells.toList.map cT).length=sz:=Z;rw[C]at R⊢;rw[aY]at h1 h2;intro A g q w E F;have G:=F.ev u;have K:=F.ev v;rw[h1]at G;rw[h2]at K;let⟨B,cc,e1,_,jg⟩:=vE G;have Al:cc=0:=Z;subst Al;have e2:=cF K;let⟨i,hi,bZ⟩:=oB hs;have u5:i.zero=some f:=by grind[eL]
 have Bx:i.bytes=MO:=by grind[k_]
 obtain⟨d,rfl⟩:∃d:Nat,m=d:=⟨m.toNat,X⟩;have oR:0<d:=X;have s:d*MO<=35184372088832:=Z;have hmul:d<=35184372088832:=aD_ (cz_ _ ku) s;have dQ:=zv9 (P:=P) w t t2 o.type e i f (k:=k) ht jf hi u5 B d X oR X Z;have GH:=grownCap_ge w d 0 e;let⟨U6,NY⟩:=E.drew;have vD:∀q,¬g.fz w.heap.size q:=λq hf=>absurd (E.dU _ _ hf) (bX_ _);let⟨hE,dR⟩:=NY.new (.cells (Builtin.zeroCells f.cells d++Builtin.zeroCells f.cells (grownCap w d 0 e-d)) e) (.arr sz (List.replicate d (f.cells.toList.map cT)) 0 false) (grownCap w d 0 e) (λJ=>aE) (λhL=>by
  refine⟨_,e,eB,?_,Z,λh=>Z,λp row l=>?_,aF_ _,λq=>⟨λh=>absurd h (vD q),λh=>Z⟩⟩;simp only[cU_,size_zeroCells,r];rw[<-aR_];congr 1;omega;obtain⟨L,rfl⟩:=aC_.1 l;simp only[bS_]at L;simp only[cV_];refine⟨C,λj b' M=>?_⟩;simp only[bc_,bh_]at M;obtain⟨y,hy,rfl⟩:=M;have N:j<sz:=Z;refine⟨y,?_,qZ y⟩;have az:p*sz+j<d*sz:=oe L N;have Q:j<f.cells.size:=X;have e3:(p*sz+j)%f.cells.size=j:=by rw[r,cv_,cw_];exact cx_ N
  rw[bW_ (by rw[size_zeroCells,r];exact az)];unfold Builtin.zeroCells;rw[cf_,cu_,if_pos Z];simp only[aN_,e3];rw[getElem!_pos f.cells j Q,<-hy,bq_,aM_ Q]);have x:(execOp q.eval o).run P w=.ok (.value (.slice (some ⟨w.heap.size,0,none⟩) d (grownCap w d 0 e))) (w.drew.alloc (.cells (Builtin.zeroCells f.cells d++Builtin.zeroCells f.cells (grownCap w d 0 e-d)) e)):=by
  have x:(execOp q.eval o).run P w=((Builtin.append_ #[t,t2] o.type #[q.eval u,q.eval v]).run P w).andThen λv w'=>.ok (.value v) w':=by simp[execOp,T,resolve,V,W,cP,invoke,builtin]
  rw[x,e1,e2];simp only[bd_];rw[dQ];rfl
 refine⟨_,_,_,.inl x,?_,dR,U6.trans hE⟩;have:=aT.ob (g:=g.new S.nx w.drew.heap.size (grownCap w d 0 e)) (w:=w.drew.alloc (.cells (Builtin.zeroCells f.cells d++Builtin.zeroCells f.cells (grownCap w d 0 e-d)) e)) (k:=S.nx) (sz:=sz) (off:=0) (len:=d) (c:=grownCap w d 0 e) (cx:=none) (.inr rfl) (λm h=>Z) (by rw[aJ_];exact bZ_ (aK _ _ _).symm) (λ_=>by rw[aJ_];exact(aK _ _ _).symm) GH;rw[show(g.new S.nx w.drew.heap.size (grownCap w d 0 e)).ob S.nx=w.heap.size from aK _ _ _,be_]at this;exact this
theorem aix{o:Op}(h:res P.toTables o=some (.cap a)):∃c t u e,o=.call c/\c.callee=.builtin .cap/\c.argTypes=#[t]/\c.args=#[u]/\a=qo u/\P.underlying t=some (.slice e):=by cases o<;>simp only[res,cU]at h<;>(repeat' split at h)<;>(try cases h);exact⟨_,_,_,_,rfl,Z,toList_one (by assumption),toList_one Z,rfl,by assumption⟩
def amC:AV->Option Nat|.sl true rows=>some rows.length|.ob _ _ _ _ (some c)=>some c|_=>none
theorem D.cap(a:amC (x.ev Y.tm)=some m):D P U false (.cap x) Y S (.v (.int .i64 m)) S:=D.run λn o b=>by
 obtain⟨c,t,u,e,d,f,h,i,rfl,j⟩:=aix b;rw[aY]at a;refine bt.quiet λA g q w r k=>?_;have s:=k.ev u;have key:∃B l,q.eval u=.slice B l m:=by unfold amC at a;split at a;grind[vE];grind[lX];grind
 let⟨B,l,p⟩:=key;refine⟨_,?_,.v⟩;simp[execOp,d,resolve,f,h,i,invoke,builtin,p,Builtin.cap_,run_underlying j,goInt]
abbrev JB:=Nat×List Nat
def amD:List Nat->Nat->Bool|[],_=>false|a::l,k=>match Nat.beq a k with|true=>true|false=>amD l k
def inK(l:JB)(k:Nat):Bool:=match Nat.blt k l.1 with|true=>true|false=>amD l.2 k
section
variable{zzD:Nat->Dt×Option JB}
def GSX(P:Program)(U:World)(n:Nat)(MQ:Array Oper)(B:Nat)(i:Nat)(d:Dt×Option JB)(Y:AA)(S:ao)(α1:AA)(S1:ao):Prop:=match d.2 with|none=>yc P U n MQ B i d.1 Y S α1 S1|some l=>∃o,MQ[i]?=some o/\(match o.dst with|some d=>Nat.blt d n|none=>true)=true/\Kv MQ i=false/\B<=S.nx/\S.nx<=S1.nx/\(∀k,inK l k=true->S1.get k=S.get k) /\(o.guard=none\/∃j a,o.guard=some (j,a)/\xB MQ Y j=some (some a))/\∃r,α1=Y.put o.dst r/\jZ P U n o (Y.only (d_ o)) S r S1
def rdr(x:List Nat×List Nat×Bool)(l:JB):Bool:=match x with|(F,[],false)=>F.all (inK l ·)|_=>false
def Ff(d:Dt×Option JB):List Nat×List Nat×Bool:=match d.2 with|none=>d.1.ns|some l=>(l.1::l.2,[],true)
def isX(x:List Nat×List Nat×Bool):Option JB:=match x with|(a::u,[],true)=>some (a,u)|_=>none
inductive Kw(P:Program)(U:World)(n:Nat)(MQ:Array Oper)(B:Nat)(zzD:Nat->Dt×Option JB):List Nat->AA->ao->AA->ao->Prop where|nil (Y:AA) (S:ao):Kw P U n MQ B zzD [] Y S Y S|cons {i:Nat}{FJ:List Nat}{Y α1 aI:AA}{S S1 S':ao}(h:GSX P U n MQ B i (zzD i) Y S α1 S1) (t:Kw P U n MQ B zzD FJ α1 S1 aI S'):Kw P U n MQ B zzD (i::FJ) Y S aI S'
end
def tX(T:Tables)(n:Nat):Code->Option QC
 |.skip=>some .skip|.label _=>some .skip|.region _ MQ dr=>match ux T n MQ.toList MQ.toList with
  |some l=>match dr with|false=>some (.bp false l)|true=>match IJ MQ with|true=>some (.kM (LX MQ) l)|false=>none
  |none=>none
 |.seq a b=>match tX T n a,tX T n b with|some d,some e=>some (.seq d e)|_,_=>none
 |.cond c a b=>match tX T n a,tX T n b with|some d,some e=>some (.cond (qo c) d e)|_,_=>none
 |.block id a=>match tX T n a with|some d=>some (.block id d)|none=>none
 |.scope a=>match tX T n a with|some d=>some (.scope d)|none=>none
 |.loop a=>match tX T n a with|some d=>some (.loop d)|none=>none
 |.exit id=>some (.exit id)|.ret=>some .ret|.rangeFunc f g a b=>match tX T n a,tX T n b with|some d,some e=>some (.XC (qo f) g.toList d e)|_,_=>none
 |c=>some (.raw c)
def okE(x y:List Nat×List Nat×Bool):Bool:=match isX x,isX y with|none,none=>dj x y|some l,none=>rdr y l|none,some l=>rdr x l|some _,some _=>false
def av2(V:List (Nat×Nat))(lg:List (List Nat×List Nat×Bool)):Bool:=V.all λp=>okE (Ng lg p.1) (Ng lg p.2)
def Dt.ok(d:Dt):Prop:=isX d.ns=none
section
variable(P:Program)(U:World)(rd:Bool)(n:Nat)
def QWx(b:QC)(Q:Exit->AA->ao->Prop)(Y:AA)(S:ao):Prop:=∀c,tX P.toTables n c=some b->im P c=true->Wp P U rd n c Q Y S
def rR(Q:Exit->AA->ao->Prop):List iu->Exit->AA->ao->Prop
 |[]=>Q|.seq b::K=>λex Y S=>match ex with|.normal=>QWx P U rd n b (rR Q K) Y S|e=>rR Q K e Y S
 |.BM id::K=>λex Y S=>match ex with|.exit j=>(match Nat.beq j id with|true=>rR Q K .normal Y S|false=>rR Q K (.exit j) Y S)|e=>rR Q K e Y S
 |.SX::K=>λex Y S=>match ex with|.goto _=>False|e=>rR Q K e Y S
def XD(B:Nat)(V:List (Nat×Nat))(lg:List (List Nat×List Nat×Bool))(l:List QI)(Q:AA->ao->Prop)(Y:AA)(S:ao):Prop :=∀MQ:List Oper,ux P.toTables n MQ (MQ.drop lg.length)=some l->LX MQ.toArray=V->∃(zzD:Nat->Dt×Option JB) (aI:AA) (S':ao),Kw P U n MQ.toArray B zzD (List.range' lg.length l.length) Y S aI S' /\av2 V (lg++(List.range' lg.length l.length).map λi=>Ff (zzD i))=true/\(∀i∈List.range' lg.length l.length,(zzD i).2=none->(zzD i).1.ok)/\Q aI S'
def wpX(Q:Exit->AA->ao->Prop):QF->AA->ao->Prop
 |.run c K,Y,S=>QWx P U rd n c (rR P U rd n Q K) Y S|.out ex K,Y,S=>rR P U rd n Q K ex Y S|.bp dr l K,Y,S=>match dr with|false=>lz P U n false l (λY S=>rR P U rd n Q K .normal Y S) (λa Y S=>rR P U rd n Q K (.panic a) Y S) Y S|true=>False
 |.kM B V lg b l K,Y,S=>(∀k∈b,k<B)->B<=S.nx->XD P U n B V lg l (λY S=>rR P U rd n Q K .normal Y S) Y S
end
section
variable{rd:Bool}{ex:Exit}{i:QI}
theorem wpX.op(a:bJ Y.tm i.g=some true)(h:D P U false i.q Y S r S')(k:wpX P U rd n Q (.bp false l K) (bX i.d Y r) S'):wpX P U rd n Q (.bp false (i::l) K) Y S:=by exact lz.op a h k
def Kw.congr{MQ:Array Oper}{zzD a:Nat->Dt×Option JB}:∀{L:List Nat}{Y aI:AA}{S S':ao},(∀i∈L,zzD i=a i)->Kw P U n MQ B zzD L Y S aI S'->Kw P U n MQ B a L Y S aI S'|[],_,_,_,_,_,.nil ..=>.nil ..|i::c,_,_,_,_,b,.cons h t=>.cons Z (t.congr λj d=>b j Z)
theorem XD.step{V:List (Nat×Nat)}{lg:List (List Nat×List Nat×Bool)}{d:Dt×Option JB}{α1:AA}{S1:ao}(m:d.2=none->d.1.ok)(p:∀MQ o c,MQ.drop lg.length=o::c->tN n o.dst=true->o.dst=i.d->res P.toTables o.op=some i.q->(∀b,bJ Y.tm i.g=some b->mq MQ Y o=some b)->GSX P U n MQ.toArray B lg.length d Y S α1 S1)(k:XD P U n B V (lg++[Ff d]) l R α1 S1):XD P U n B V lg (i::l) R Y S:=by intro MQ g h;let⟨o,c,j,q,r,s,t,u⟩:=uV (Y:=Y) g;let⟨v,w⟩:=BV j;let⟨zzD,aI,S',f,a,k4,k3⟩:=k MQ Z h;simp only[ay_,bf_]at f a k4;refine⟨λi=>if i=lg.length then d else zzD i,aI,S',?_,?_,?_,k3⟩;rw[aH_,cZ_];refine .cons Z (f.congr λi hi=>?_);have:=(List.mem_range'_1.1 hi).1;rw[if_neg X];rw[aH_,cZ_,aK_];simp only[if_pos];have e:((List.range' (lg.length+1) l.length).map λi=>Ff (if i=lg.length then d else zzD i))=(List.range' (lg.length+1) l.length).map λi=>Ff (zzD i):=aQ_ λi hi=>Z;rw[e];rw[bt_]at a;exact a;grind
structure QFx(P:Program)(f:FuncId)(q:QC×List QR)(n:Nat):Prop where out:∃fn c,P.funcs[f]?=some fn/\fn.body=some c/\fn.ntmps=n/\AR P.toTables fn.results.toList=some q.2/\tX P.toTables n c=some q.1/\im P c=true/\∀(xs:Array Value)(w:World),(callFunc f xs).run P w=.ok (.enter f xs) w
def agw(T:Tables)(fn:Func):Option (QC×List QR):=match fn.body with
 |some c=>match tX T fn.ntmps c,AR T fn.results.toList with|some q,some a=>some (q,a)|_,_=>none
 |none=>none
theorem QFx.of{f:FuncId}{q:QC×List QR}{fn:Func}{T:Tables}(e:P.funcs[f]?=some fn)(a:agw T fn=some q)(g:P.toTables=T)(h:fn.ntmps=n)(b:LY P fn=true)(i:∀(xs:Array Value) (w:World),(callFunc f xs).run P w=.ok (.enter f xs) w):QFx P f q n:=by subst g;unfold agw at a;unfold LY at b;cases d:fn.body with|none=>rw[d]at a;cases a|some c =>rw[d]at a b;simp only at a;split at a;rename_i q1 k l j;cases oJ_ a;exact⟨⟨fn,c,e,d,h,j,Z,b,i⟩⟩;grind
end
structure Fr where
 t:Tr AV
 ds:List DE
inductive XR where|dn (ex:Exit) (F:Fr) (s:XS)|mr (cf:QF) (F:Fr) (s:XS)|no
abbrev Rec:=Bool->Nat->QF->Fr->XS->XR
structure Env where
 tab:Nat->Option ((QC×List QR)×Nat)ext:Nat->List AV->Option AV
 nat:Nat->List AV->Option Value
 cau:Nat->Option AV
 wm:Nat->Bool
 kok:Nat->Value->Bool
 keq:Value->Value->Bool
 seq:Nat->Value->Value->Option Bool
 sp:Nat->Option Nat
 fx:Nat->Bool
section
variable{E:Env}{rc:Rec}
theorem aq.emp{g:Nat}{r:AV}(h:∀A c,aq P U g [.v (.slice A 0 c)] r):aq P U g [.sl ex []] r:=by
 have j:∀A c,∀a∈[AV.v (.slice A 0 c)],Pure a:=λA c a d=>by simp only[ae_]at d;subst d;exact .v
 refine⟨(h none 0).1,ao.none_,((h none 0).QU (j _ _) ao.none_).1,λF m A g b w n o k=>?_⟩;have p:b.size=1:=k.1;obtain⟨v,rfl⟩:∃v,b=#[v]:=by let⟨l⟩:=b;match l,p with|[x],_=>exact⟨x,rfl⟩
 have q:=k.2 0 _ v rfl rfl;let⟨B,c,e,_,_⟩:=vE q;subst e;refine((h B c).QU (j _ _) ao.none_).2 F m A g _ w n o ⟨rfl,λi a x d f=>?_⟩;match i,d,f with|0,d,f =>cases oJ_ d;cases oJ_ f;exact .v
end
section
attribute [local irreducible] aq aG D I
def XE:=aD func164 call164
def HC:=[0,2,4]
def aru:=aD func327 call327
def amG:=[3,0,2,1]
def arv:=aD func306 call306
def XH:=[4,0,6,5,1,3,11]
def arw:=aD func267 call267
def XI:=[3,4,8,0,1,9,6,18,5,20]
def agx:=aD func234 call234
def kW:=[5,11,6,4,1,10,12,0]
def arx:=aD func171 call171
def amH:=[3,4,1,0]
def IK(l:List Tm):jm B (.arr sz (O.h (List.map (jG O)) l) 0 ex):=jP λx _ a b=>ur x a b
theorem SY(l:List Tm):∀row∈O.h (List.map (jG O)) l,∀a∈row,Pure a:=by rw[O.eq];intro row b a c;obtain⟨x,_,rfl⟩:=aE_.1 b;exact ur x a c
theorem XJ(A:Option Addr)(c:Nat):ad U 164 [.v (.slice A 0 c)] (.sl true []):=by cases A with|none =>refine st XE HC (.sl λr h=>Z) ?_;refine I.op rfl (D.nil (b:=true) rfl rfl) ?_;refine H HC ?_;refine fq ?_;exact .refl _|some A =>refine st XE HC (.sl λr h=>Z) ?_;refine I.op rfl (D.nil (b:=false) rfl rfl) ?_;refine H HC ?_;refine I.op rfl (D.D5 rfl rfl) ?_;refine H HC ?_;refine fq ?_;exact .refl _
theorem S0:ad U 164 [tl O []] (tl O []):=by
 have h:ad U 164 [tl O []] (.sl true []):=by rw[tl,bN];exact aq.emp XJ
 exact aq.fz h (λS=>M4) (cQ _)
theorem S3(x:Tm)(l:List Tm)(c:(x::l).length<=100000000000):aG prog U 164 [tl O (x::l)] (aw [] 0) (.gr 0 4 (x::l).length) (aw [(0,.arr 4 (O.h (List.map (jG O)) (x::l)) 0 false)] 1):=by
 let⟨R,a⟩:=au (x::l);have d:Am (aQ O (jG O) false R)=some false:=by rw[a,bN];rfl
 rw[<-a]at c⊢;rw[<-M3];refine sc 0 1 XE ?_;refine H HC ?_;refine og HC (D.nil d rfl) ?_;refine I.pZ (f:=jG O) (ys:=R) rfl rfl rfl (λ_=>rfl) X λMP len e b=>?_;have b:len=R.length:=Z;subst e;rw[<-b];refine H HC ?_;refine fq ?_;exact⟨[(0,0)],.jz rfl rfl,⟨.inl ⟨_,rfl,.same (IK _)⟩,trivial⟩,rfl⟩
theorem aiy(x:Bd)(v:Int):ad U 327 [bd O x,.ip [iv v]] (.v (.bool (x.v==v))):=by
 let⟨i,k,j,n,a⟩:=x;refine st aru amG .v ?_;repeat' first|refine cg amG (λb=>?_) λb=>?_|refine fq ?_
 all_goals refine aO ?_;simp_all
theorem ary(x:Bd)(v:Int):zW prog U (.fn (.func 327) [] [.ip [iv v]]) [bd O x] (x.v==v):=⟨_,_,rfl,⟨uO x,.ip λb a=>by cases ae_.1 a;exact .v,trivial⟩,aiy x v⟩
theorem aiz(b:List Bd)(v:Int)(m:b.length<=1099511627776):ad U 306 [a_ O b,iv v] (.aM [tm O (gG b v).1,.v (.bool (gG b v).2)]):=by
 have f:Pure (.fn (.func 327) [] [.ip [iv v]]):=.fn (λa c=>Z) λa c=>by cases ae_.1 c;exact .ip λb e=>by cases ae_.1 e;exact .v
 have g:=ajH (U:=U) (O:=O) (λx=>x.v==v) b _ [] _ m f λx _=>ary x v;have h:=DS (λx:Bd=>x.v==v) b 0;have n:=CJ (λx:Bd=>x.v==v) b 0;let⟨j,i⟩:=au (de (λx:Bd=>x.v==v) b 0);rw[<-i]at g h n;let⟨R,d⟩:=au (gG b v);rw[<-d];unfold gG at d;clear i;refine st arv XH (.aM λa c=>by simp only[al_,aB_,or_false]at c;rcases c with rfl|rfl;exact bM _;exact .v) ?_;repeat' first|refine ig XH (D.tU rfl g ⟨bH _,f,trivial⟩ .v ⟨.refl _,aL.fns trivial ⟨aL.box (cs:=[iv v]) (cs':=[iv v]) rfl ⟨.refl _,trivial⟩,trivial⟩,trivial⟩) λ_ _=>?_|refine cg XH (λe=>?_) λe=>?_|refine fq ?_
 grind[zu,Qp];let⟨q,⟨t,u,w,y,z⟩,A,p,r⟩:=h X;rw[r]at d;subst d;refine og XH (D.ind rfl rfl (du (l:=b) (k:=q) X p) (cJ λ_=>rfl)) ?_;refine fq ?_;exact aL.of_eq rfl
theorem HD(a:List Tm)(g:a.length<=100000000000)(o:∀x∈a,ad U 267 [a_ O env,tm O x] (tm O (f x))):ad U 234 [a_ O env,tl O a] (tl O (a.map f)):=by cases a with
 |nil =>
  have c:=S0 (U:=U) (O:=O);refine st agx kW (cQ _) ?_;repeat' first|refine I.op rfl (pl c) ?_;refine H kW ?_|refine bq (λb=>?_) λb=>?_<;>(try simp only[bT]at b)<;>(first|exact dV b|refine H kW ?_)|refine b9 λm d=>?_;(try rw[aA]at d);refine H kW ?_|refine cN λ_ _=>?_;refine H kW ?_|refine iJ λ_ _=>?_;refine H kW ?_|refine I.str rfl (D.cat rfl rfl (by assumption)) λ_ _=>?_;refine H kW ?_|refine xG kW ?_|refine rG kW ?_|refine fq ?_
  refine I.eH (σ:=Int) 0 0 [] (λp=>[(5,tl O []),(10,.v (.int .i64 m)),(11,.v (.int .i64 p))]) [] (λ_=>[]) (λp=>p=0) (λp=>0) 0 rfl rfl cq ?_;rintro i rfl;refine H kW ?_;repeat' first|refine bq (λb=>?_) λb=>?_<;>(try simp only[bT]at b)<;>(first|exact dV b|refine H kW ?_)|refine b9 λm d=>?_;(try rw[aA]at d);refine H kW ?_|refine cN λ_ _=>?_;refine H kW ?_|refine iJ λ_ _=>?_;refine H kW ?_|refine I.str rfl (D.cat rfl rfl (by assumption)) λ_ _=>?_;refine H kW ?_|refine xG kW ?_|refine rG kW ?_|refine fq ?_
  all_goals first|exfalso;simp only[bd_]at d;omega|exact .refl _
 |cons x0 q =>have c:=S3 (U:=U) (O:=O) x0 q g;let⟨a,r⟩:=au (x0::q);rw[<-r]at c g o⊢;clear r;let⟨R,z⟩:=au (a.map f);rw[<-z];let⟨A,B⟩:=au a.length;rw[<-B]at c;refine st agx kW (cQ _) ?_;refine I.op rfl (D.ja [] [(0,some (.arr 4 (O.h (List.map (jG O)) a) 0 false))] c rfl ⟨.pure (cQ _),trivial⟩ (.gr rfl) trivial ⟨⟨0,_,rfl,rfl,.pure (SY _)⟩,trivial⟩) ?_;refine H kW ?_;refine I.int rfl (D.kS rfl) λm d=>?_;refine H kW ?_;refine cW (τ:=List Tm) 1 1 [] (λp=>[(0,a_ O env),(5,.gr 0 4 A),(10,.v (.int .i64 m)),(11,.v (.int .i64 p.1))]) [] (λp=>[(0,.arr 4 (O.h (List.map (jG O)) p.2) 0 false)]) a.length (λk p=>p.2.length=a.length/\p.2=(a.take k).map f++a.drop k) a ⟨rfl,aE⟩ ?_;rintro i k e hi N⟨C,s⟩;simp only at hi C s;refine H kW ?_;refine bq (λt=>?_) λt=>?_<;>(try simp only[bT]at t);rotate_left;refine H kW ?_;refine xG kW ?_;refine I.fin (by conv=>lhs;cbv) ?_;have h:R=e:=Z;rw[h,<-M3];exact aL.grow rfl X;let⟨x,u,E⟩:=aC (l:=a) (k:=k) X;have F:e[k]?=some x:=Z;have P:k<a.length:=X;have v:=o x (aZ u);let⟨j,w⟩:=au (f x);rw[<-w]at v;let⟨Q,S,T,V⟩:=x;have n:=c_ (O:=O) (f:=jG O) F;rw[jG]at n;simp only at n;refine H kW ?_;refine I.op rfl (D.ew rfl rfl hi X) ?_;refine I.op rfl (D.iE rfl rfl n rfl) ?_;refine H kW ?_;refine I.op rfl (pl v) ?_;refine H kW ?_;refine I.op rfl (D.ew rfl rfl hi X) ?_;refine I.Gj (f:=jG O) (y:=j) rfl rfl rfl rfl rfl (λ_=>rfl) rfl X λG J=>?_;refine H kW ?_;refine cN λK W=>?_;refine H kW ?_;refine I.bu (K,G) [] ⟨k+1,Z,X,Z,?_⟩ ?_ cz;simp only;have g:((a.take k).map f).length=k:=Z;rw[J,s,ce_ _ _ X,g,bL_,E,cM_,bP_,u,ba_,w];simp;grind
theorem aaJ(q:env.length<=1099511627776)(n:Nat):∀x:Tm,cL x<=n->n<=100000000000->ad U 267 [a_ O env,tm O x] (tm O (fT env x)):=by induction n with|zero=>intro x h;have:=ff x;omega|succ n o =>
  intro x p r;rw[ff]at p;have s:=oK x.a;have j:=HD (U:=U) (O:=O) (f:=fT env) (env:=env) x.a X λy t=>o y (by have:=jx y t;omega) X;have e:=aiz (U:=U) (O:=O) env x.i q;let⟨d,l⟩:=Ot env x.i;let⟨R,c⟩:=au (fT env x);rw[<-c];let⟨k,i,m,a⟩:=x;rw[fT,rq]at c;simp only at j e d l c;clear o p r s;let⟨A,v⟩:=au (a.map (fT env));rw[<-v]at j c;let⟨⟨⟨B,C,un,E⟩,b⟩,w⟩:∃L,L=gG env i:=⟨_,rfl⟩;rw[<-w]at e d l;simp only at e d l;refine st arw XI (bM _) ?_;repeat' first|apply bh XI j|refine I.op rfl (pl e) ?_;cases b<;>refine H XI ?_|refine cg XI (λz=>?_) λz=>?_|refine fq ?_
  all_goals clear j e
  all_goals first
   |(have h:R=⟨k,i,m,A⟩:=by rw[c,if_neg X,if_pos X]
     rw[h];exact .refl _)
   |(have h:R=⟨k,i,m,a⟩:=by rw[c,if_neg X,if_neg X]
     rw[h];exact .refl _)|cases g:mM env i with
     |none =>
      have h:R=⟨k,i,m,a⟩:=by rw[c,if_pos X,g]
      first|rw[h];exact .refl _|rw[g]at d;cases d
     |some u =>
      have h:R=u:=by rw[c,if_pos X,g]
      first|rw[h,<-l u g];exact .refl _|rw[g]at d;cases d
def S4(a:env.length<=1099511627776)(x:Tm)(b:cL x<=100000000000):ad U 267 [a_ O env,tm O x] (tm O (fT env x)):=aaJ a _ x (aj_ _) b
theorem OD(c:env.length<=1099511627776)(g:Gl)(e:bC g.a<=100000000000):ad U 171 [a_ O env,gl O g] (gl O (gM env g)):=by
 have b:=HD (U:=U) (O:=O) (f:=fT env) (env:=env) g.a (by grind[oK]) λy h=>S4 c y (by have:=jx y h;omega);rw[gM];let⟨o,n,a⟩:=g;simp only at b⊢;let⟨A,d⟩:=au (a.map (fT env));rw[<-d]at b⊢;clear d e c;refine st arx amH (kJ _) ?_;repeat' first|apply bh amH b|refine fq ?_
 exact .refl _
end
theorem Cv.amI{t k:Nat}(r:S.get k=some (.arr sz rows 0 ex))(p:Y.tm t=.ob k sz 0 m none)(F:m<=rows.length):Cv U n Y S ⟨bK Y.tm t (.gr k sz m),Y.df⟩ (S.set k (some (.arr sz (rows.take m) 0 false))):=by
 intro A g a w u b;refine⟨g,u.PG (aj_ _) λj q c G=>?_,⟨b.size,λs d=>?_,λs d=>?_,b.df,b.yN⟩,Ext.refl A g w⟩;have c:bK S.get k (some (.arr sz (rows.take m) 0 false)) j=some q:=c;by_cases e:j=k;subst e;rw[aK]at c;cases oJ_ c;refine⟨_,r,λh=>?_,λJ h=>by cases h⟩;let⟨x,y,f,l,K,L,z,M,B⟩:=h;refine⟨x,y,f,l,by rw[aV_];omega,(λh=>by cases h),λi row hi=>?_,aF_ _,B⟩;rw[bJ_]at hi;split at hi;exact z i row hi;cases hi;rw[aR _ _ e]at c;exact⟨q,c,λh=>h,λJ h=>h⟩;show aT g w (bK Y.tm t _ s) _;by_cases e:s=t;subst e;rw[aK];have f:=b.tm s d;rw[p]at f;generalize a.tmps.getD s undef=v at f⊢;cases f with|ob C N P E o =>rw[be_];exact .gr C (by have:=E rfl;omega) o
 rw[aR _ _ e];exact b.tm s d;show bK Y.tm t _ s=.u;by_cases e:s=t;subst e;have l:=b.out s d;rw[p]at l;cases l;rw[aR _ _ e];exact b.out s d
theorem aG.amJ{f:FuncId}{r:AV}{k len:Nat}(C:S.get k=some (.arr sz rows 0 false))(h0:0<len)(Fa:len=rows.length)(h:∀(c:Nat) (d:List (List AV)),rows.length+d.length=c->(∀row∈d,row.length=sz/\∀a∈row,∃x,a=.v x)->aG P U f (.ob k sz 0 len (some c)::args) (S.set k (some (.arr sz (rows++d) 0 true))) r S'):aG P U f (.gr k sz len::args) S r S':=by refine⟨(h rows.length [] aE λrow p=>by cases p).1,λF m A g b w R E s=>?_⟩;let⟨v0,G⟩:∃v,b[0]?=some v:=⟨_,aM_ (by rw[s.1];simp)⟩;have K:=s.2 0 _ v0 rfl G;generalize T:v0=v at K;cases K with|lM=>omega|gr L hx u =>
  rename_i c;let⟨_,_,V⟩:=E.dh k _ C L;let⟨t,W,h1,M,h3,h4,h5,h6,h7⟩:=V;let⟨d,y⟩:∃d:List (List AV),d=(List.range (g.cp k-rows.length)).map λi=>(List.range sz).map λj=>AV.v (t.getD ((rows.length+i)*sz+j) undef):=⟨_,rfl⟩;have Hf:rows.length+d.length=c:=by rw[y,bk_,cN_];omega
  refine(h c d Hf λrow p=>?_).2 F m A g b w R (E.PG (aj_ _) λj N l o=>?_) ⟨by rw[s.1];rfl,λi a x hi z=>?_⟩;rw[y]at p;obtain⟨i,_,rfl⟩:=aE_.1 p;refine⟨aE,λa o=>?_⟩;obtain⟨j,_,rfl⟩:=aE_.1 o;exact⟨_,rfl⟩;have l:bK S.get k (some (.arr sz (rows++d) 0 true)) j=some N:=l;by_cases e:j=k;subst e;rw[aK]at l;cases oJ_ l;refine⟨_,C,λ_=>?_,λJ h=>by cases h⟩;refine⟨t,W,h1,M,by rw[ay_];omega,λ_=>by rw[ay_];omega,λi row hi=>?_,aF_ _,h7⟩;by_cases B:i<rows.length;rw[bj_ B]at hi;exact h5 i row hi;rw[br_ X,y,bc_]at hi;obtain⟨i',mF,rfl⟩:=bh_.1 hi;obtain⟨az,rfl⟩:=aC_.1 mF;rw[cN_]at az;refine⟨aE,λq a o=>?_⟩;rw[bc_]at o;obtain⟨q',F_,rfl⟩:=bh_.1 o;obtain⟨jK,rfl⟩:=aC_.1 F_;rw[cN_]at jK;simp only[List.getElem_range];rw[show rows.length+(i-rows.length)=i by omega];have Q:i*sz+q<t.size:=by rw[M];have:(i+1)*sz<=g.cp j*sz:=aZ_ _ X;rw[aR_,bQ_]at this;omega
  refine⟨t[i*sz+q],aM_ Q,?_⟩;rw[bg_,aM_ Q];exact .v;rw[aR _ _ e]at l;exact⟨N,l,λh=>h,λJ h=>h⟩;cases i with|zero =>simp only[cy_]at hi;cases oJ_ hi;rw[G]at z;cases oJ_ z;have:=aT.ob (g:=g) (w:=w) (k:=k) (sz:=sz) (off:=0) (len:=len) (c:=c) (cx:=some c) L (λn h=>oJ_ h) X (λh=>by cases h) u;rw[be_]at this;rw[T];exact this|succ i=>exact s.2 (i+1) a x (by simpa using hi) z
theorem D.Pn{len n:Nat}{i:QO}{k p q:Nat}(h1:x.ev Y.tm=.pt k sz p q)(h2:i.ev Y.tm=.v (.int ik j))(h3:j=m)(h4:m<len):D P U dr (.Lq len n x i) Y S (.pt k sz p (q+m*n)) S:=by have:=D.qS (P:=P) (U:=U) (Y:=Y) (S:=S) (dr:=dr) (len:=len) (n:=n) h1 h2 X X;rw[show j.toNat=m by omega]at this;exact this
theorem I.wU{σ T:Type}{N:Nat}{Q:Exit->AA->ao->Prop}{K:List iu}{b:List (Nat×AV)}{ds:List DE}{so:σ->List (Nat×Ob)}{a:List T->σ->Prop}{c:List T}(so':List (Nat×Ob))(m:List (Nat×Nat))(hC:Canon B N m Y S [] [] so')(h:I P U false n Q (.out .ret K) (jW b ds) (aw so' N)):I P U true n (ab6 P U n B N b ds so a Q K c) (.out .ret []) Y S:=⟨so',m,hC,h⟩
theorem D.av3(M:x.ev Y.tm=.sl true [])(v:hi.ev Y.tm=.v (.int ik 0)):D P U false (.slice (.sl m) x none (some hi) none) Y S (.sl true []) S:=D.run λn o N=>by
 obtain⟨t,u,y,z,C,Q,rfl,d,E,f,⟨b,_⟩|⟨e,T,b,i,F⟩⟩:=Iw N;grind;injection b with b;subst b;have f:C=none:=by cases C with|none=>rfl|some _=>cases f
 subst f;have d:y=none:=by cases y with|none=>rfl|some _=>cases d
 subst d;obtain⟨a,rfl,rfl⟩:∃a,z=some a/\hi=qo a:=by cases z with|none=>cases E|some a=>exact⟨a,rfl,oJ_ E⟩
 rw[aY]at M v;refine bt.quiet λA g q w V j=>?_;have G:=j.ev u;rw[show Y.ev u=_ from ‹Y.ev u=_›]at G;let⟨B,c,J,_,W⟩:=vE G;cases(Z:c=0);have K:=j.ev a;rw[show Y.ev a=_ from ‹Y.ev a=_›]at K;have e2:=cF K;have p:=mP (P:=P) (isSl:=true) (len:=0) (cap:=0) (w:=w) (lo:=none) (hi:=some a) (l:=0) (h:=0) j rfl (by simp[nj,v]) X X X;simp only[bw_,aN_,co_]at p;have r:∃s,(Instr.slice t (q.eval u) (Option.map q.eval none) (Option.map q.eval (some a)) (Option.map q.eval none)).run P w=.ok (.slice s 0 0) w:=by cases B with|none=>exact⟨none,by simp[Instr.slice,J,run_underlying i,p,dk F]⟩|some B=>exact⟨some B,by simp[Instr.slice,J,run_underlying i,p,dk F]⟩
 let⟨s,r⟩:=r;have R:(execOp q.eval o).run P w=.ok (.value (.slice s 0 0)) w:=by simp only[execOp,Q,Sem.run_bind,vQ i λk e h=>Z,r,Result.andThen_ok];rfl
 exact⟨_,R,.nil λ_=>rfl⟩
theorem D.amK{k len:Nat}{cx:Option Nat}(a:x.ev Y.tm=.ob k sz off len cx)(b:m=sz)(c:hi.ev Y.tm=.v (.int ik j))(h0:0<=j)(h1:j<=len):D P U dr (.slice (.sl m) x none (some hi) none) Y S (.ob k sz off j.toNat cx) S:=D.acZ λt h=>by rcases h with⟨h,_⟩|⟨e,g,h,d,f⟩;grind;injection h with h;subst h b;simp only[a,bw_,aN_,c,th,d,nj];exact⟨f,h0,h1,rfl,rfl⟩
theorem D.av4{k len:Nat}{lo hi:Option QO}{l h:Int}(a:x.ev Y.tm=.ob k sz off len (some c0))(d:m=sz)(y:xc Y.tm lo 0=some l)(z:xc Y.tm hi len=some h)(h0:0<=l)(h1:l<h)(h2:h<=c0):D P U false (.slice (.sl m) x lo hi none) Y S (.ob k sz (off+l.toNat) (h.toNat-l.toNat) (some (c0-l.toNat))) S:=D.run λn o B=>by
 obtain⟨t,u,C,E,j,F,rfl,rfl,rfl,f,⟨b,_⟩|⟨e,V,b,p,G⟩⟩:=Iw B;grind;injection b with b;subst b d;have f:j=none:=by cases j with|none=>rfl|some _=>cases f
 subst f;rw[aY]at a;refine bt.quiet λA g q w W r=>?_;have a:=r.ev u;rw[show Y.ev u=_ from ‹Y.ev u=_›]at a;let⟨c,s,J,K,L,jg,i⟩:=lX a;have M:c=c0:=K _ rfl;rw[M]at s L i;have N:=mP (P:=P) (isSl:=true) (len:=len) (cap:=c0) (w:=w) r (zC y) (zC z) h0 X X;have Q:¬c0=l.toNat:=X;have R:(Instr.slice t (q.eval u) (C.map q.eval) (E.map q.eval) (Option.map q.eval none)).run P w=.ok (.slice (some ⟨g.ob k,(off+l.toNat)*m,none⟩) (h.toNat-l.toNat) (c0-l.toNat)) w:=by simp[Instr.slice,s,run_underlying p,N,dk G,Q,jk,aR_]
 have T:(execOp q.eval o).run P w=.ok (.value (.slice (some ⟨g.ob k,(off+l.toNat)*m,none⟩) (h.toNat-l.toNat) (c0-l.toNat))) w:=by simp only[execOp,F,Sem.run_bind,vQ p λk e h=>Z,R,Result.andThen_ok];rfl
 exact⟨_,T,.ob J (λm d=>oJ_ d) X (λh=>Z) X⟩
theorem D.XL{k len fz:Nat}(h1:a.ev Y.tm=.ob k sz off len (some c0))(hk:S.get k=some (.arr sz rows fz ex))(h2:b.ev Y.tm=.v (.int ik m))(h0:0<m)(Q:c0<len+m)(jF:off+len<=rows.length)(h4:(len+m)*MO<=35184372088832)(hz:z.length=sz)(N0:0<sz):D P U false (.Nf z MO a b) Y S (.ob S.nx sz 0 (len+m) none) (S.new (.arr sz ((rows.drop off).take len++List.replicate m z) 0 false)):=D.run λn o l=>by
 obtain⟨c,t,t2,u,v,e,kk,f,d,ho,hc,oh,cP,rfl,rfl,ht,jf,hzv,hs,vB,L,R,rfl⟩:=SW l;have Fv:(f.cells.toList.map cT).length=sz:=hz;have M:d=sz:=Z;subst M;rw[aY]at h1 h2;intro A g q w T V;have W:=V.ev u;have g2:=V.ev v;rw[h1]at W;rw[h2]at g2;let⟨cc,e1,aV,jg,dy,_,N⟩:=lX W;have E_:cc=c0:=jg _ rfl;rw[E_]at e1 N dy;have e2:=cF g2;let⟨i,hi,bZ⟩:=oB hs;have u5:i.zero=some f:=by grind[eL]
 have Bx:i.bytes=MO:=by grind[k_]
 let⟨U6,NY⟩:=T.drew;let⟨k2,k3,F,ty,p1,p2,p3,p4,p5,p6,p7⟩:=NY.dh k _ hk aV;have pU:(off+len)*d<=F.size:=by rw[p2];exact aZ_ _ X
 let⟨r,holds⟩:=au ((F.toList.drop (off*d)).take (len*d));have B:r.length=len*d:=Z;have rh:∀j,j<len*d->r[j]?=F[off*d+j]?:=λj s=>Z;have hold:(Builtin.firstCells i.size len (.slice (some ⟨g.ob k,off*d,none⟩) len c0)).run P w.drew=.ok r.toArray w.drew:=by refine run_firstCells_some (P:=P) w.drew i.size len _ len c0 r Z λj x s=>?_;have G:j<len*d:=Z;rw[rh j G]at s;rw[jk,cell_of_row w.drew _ _ F ty (0,0) p1];exact s
 have azR:1<=MO:=R;have hmul:len+m<=35184372088832:=aD_ (cz_ _ R) h4;have hmb:m*MO<=(len+m)*MO:=aZ_ _ X;have Zw:Builtin.nextslicecap (len+m) c0*i.bytes<=281474976710656:=by rw[Bx];have h5:=nextslicecap_le Q;calc Builtin.nextslicecap (len+m) c0*MO<=2*(len+m)*MO:=aZ_ _ h5
   _=2*((len+m)*MO):=Nat.mul_assoc _ _ _
   _<=281474976710656:=X
 have dQ:=Lib.run_append_grow_zeros (P:=P) w t t2 o.type e i f ik kk ht jf hi u5 (some ⟨g.ob k,off*d,none⟩) len c0 r hold m h0 X Q X Z Zw;let⟨C,hC⟩:=au (grownCap w (len+m) c0 e);have GH:len+m<=C:=by rw[hC];exact grownCap_ge w (len+m) c0 e
 rw[<-hC]at dQ;have vD:∀q,¬g.fz w.heap.size q:=λq hf=>absurd (T.dU _ _ hf) (bX_ _);let⟨hE,dR⟩:=NY.new (.cells (r.toArray++Builtin.zeroCells f.cells m++Builtin.zeroCells f.cells (C-(len+m))) e) (.arr d ((rows.drop off).take len++List.replicate m (f.cells.toList.map cT)) 0 false) C (λJ=>aE) (λhL=>by
  refine⟨_,e,eB,?_,Z,λh=>Z,λp row l=>?_,aF_ _,λq=>⟨λh=>absurd h (vD q),λh=>Z⟩⟩;simp only[cU_,size_zeroCells,L,bv_,B];rw[<-aR_,<-aR_];congr 1;omega;have jN:((rows.drop off).take len).length=len:=Z;by_cases hp:p<len;rw[bj_ X]at l;let⟨_,l⟩:=tW l;let⟨q1,q2⟩:=p5 _ _ l;refine⟨q1,λj a s=>?_⟩;let⟨x,E,eQ⟩:=q2 j a s;have K:j<d:=Z;have G:p*d+j<len*d:=oe hp K;refine⟨x,?_,eQ.later hL⟩;rw[bW_ Z,bW_ Z,ct_,rh _ G,<-E,aR_,bK_];rw[br_ X,jN]at l;obtain⟨mF,rfl⟩:=aC_.1 l;simp only[bS_]at mF;simp only[cV_];refine⟨Fv,λj b' s=>?_⟩;simp only[bc_,bh_]at s;obtain⟨y,hy,rfl⟩:=s;have K:j<d:=Z;refine⟨y,?_,qZ y⟩;have G:(p-len)*d+j<m*d:=oe mF K;have je:j<f.cells.size:=X;have e3:((p-len)*d+j)%f.cells.size=j:=by rw[L,cv_,cw_];exact cx_ K
  have e4:p*d+j=len*d+((p-len)*d+j):=by rw[<-bK_,<-aR_];congr 2;omega
  rw[e4,bW_ (by simp only[cU_,bv_,B,size_zeroCells,L];omega),dr_ Z,bv_,B,Nat.add_sub_cancel_left];unfold Builtin.zeroCells;rw[cf_,cu_,if_pos Z];simp only[aN_,e3];rw[getElem!_pos f.cells j je,<-hy,bq_,aM_ je]);have E:(execOp q.eval o).run P w=.ok (.value (.slice (some ⟨w.heap.size,0,none⟩) (len+m) C)) (w.drew.alloc (.cells (r.toArray++Builtin.zeroCells f.cells m++Builtin.zeroCells f.cells (C-(len+m))) e)):=by
  have E:(execOp q.eval o).run P w=((Builtin.append_ #[t,t2] o.type #[q.eval u,q.eval v]).run P w).andThen λv w'=>.ok (.value v) w':=by simp[execOp,ho,resolve,hc,oh,cP,invoke,builtin]
  rw[E,e1,e2,dQ];rfl
 refine⟨_,_,_,.inl E,?_,dR,U6.trans hE⟩;have:=aT.ob (g:=g.new S.nx w.drew.heap.size C) (w:=w.drew.alloc (.cells (r.toArray++Builtin.zeroCells f.cells m++Builtin.zeroCells f.cells (C-(len+m))) e)) (sz:=d) (off:=0) (len:=len+m) (cx:=none) (.inr rfl) (λm h=>Z) (by rw[aJ_];exact bZ_ (aK _ _ _).symm) (λ_=>by rw[aJ_];exact(aK _ _ _).symm) GH;rw[show(g.new S.nx w.drew.heap.size C).ob S.nx=w.heap.size from aK _ _ _,be_]at this;exact this
theorem D.agy{k len:Nat}{cx:Option Nat}{l:Nat}(a:x.ev Y.tm=.ob k sz off len cx)(n:m=sz)(b:lo.ev Y.tm=.v (.int ik j))(c:j=l)(h0:l<len):D P U dr (.slice (.sl m) x (some lo) none none) Y S (.ob k sz (off+l) (len-l) (cx.map (·-l))) S:=D.acZ λt h=>by rcases h with⟨h,_⟩|⟨e,o,h,d,f⟩;grind;injection h with h;subst h;subst c;rw[a];simp only[aN_,bw_,b,th,d,f,nj];refine⟨Z,X,X,X,λp=>X,λ_=>?_⟩;have g:(l:Int).toNat=l:=X;have i:(len:Int).toNat=len:=X;rw[g,i];exact⟨rfl,rfl⟩
theorem aaK(w:World)(t t2 ty e d:TypeId)(i:TypeInfo)(h:P.underlying t=some (.slice e))(hi:P.info? e=some i)(g q dl dc:Nat)(b:Array Value)(k:w.heap[g]?=some (.cells b d (0,0)))(a:Addr)(m c n:Nat)(Ky:List Value)(l:Nat.min m dl=n)(o:Ky.length=n*i.size)(p:∀j u,Ky[j]?=some u->w.cell? (a.add j)=some u)(h1:∀u∈Ky,u.oneCell'=true)(s:q+Ky.length<=b.size):(Builtin.copy_ #[t,t2] ty #[.slice (some ⟨g,q,none⟩) dl dc,.slice (some a) m c]).run P w=.ok (goInt n) (w.setRow g (b.toList.take q++Ky++b.toList.drop (q+Ky.length)).toArray):=by have r:=run_firstCells_some (P:=P) w i.size n a m c Ky o p;have f:=run_storeCells_at P g q d Ky 0 b w k Z h1;simp only[bE_]at f;simp[Builtin.copy_,run_underlying h,sizeOf,typeInfo,hi,Builtin.lenOf,l,r,f]
theorem S5{o:Oper}{k len fz:Nat}{cx:Option Nat}(d:res P.toTables o.op=some (.copy sz a b))(l:a.ev Y.tm=.ob k sz off len cx)(F:S.get k=some (.arr sz rows fz ex))(m:iN S (b.ev Y.tm)=some src)(h0:0<src.length)(jF:off+len<=rows.length)(hf:fz<=off)(h3:∀row∈src,row.length=sz)(G:∀row∈src.take (Nat.min src.length len),row.all dv=true):bt P U n o Y S (.v (.int .i64 (Nat.min src.length len:Nat))) (S.set k (some (.arr sz (rows.take off++src.take (Nat.min src.length len)++rows.drop (off+Nat.min src.length len)) fz ex))):=by
 obtain⟨c,t,t2,u,v,e,e2,ho,hc,oh,cP,rfl,rfl,s,jf,hs⟩:=J_ d;rw[aY]at l m;let⟨m,Hf⟩:=kf m;have s:=xN s;let⟨i,hi,bZ⟩:=oB hs;have dH:src≠[]:=λh=>Z;intro A g q w y J;have K:=J.ev u;have g2:=J.ev v;rw[l]at K;let⟨cc,e1,L,_,_,_,_⟩:=lX K;let⟨M,Q,c2,f,e3,Ra,z⟩:=sC y m g2 dH h3 Hf;let⟨k2,k3,R,tE,T,p2,p3,p4,p5,p6,p7⟩:=y.dh k _ F L;let⟨N,V⟩:=au (Nat.min src.length len);rw[<-V]at G⊢;have vP:N<=src.length:=Z;have oc:N<=len:=Z;have ee:(f.take (N*sz)).length=N*sz:=by rw[aV_,z.1];exact cO_ (aZ_ _ vP)
 have iW:off*sz+N*sz<=g.cp k*sz:=by rw[<-aR_];exact aZ_ sz X
 have kp:off*sz+(f.take (N*sz)).length<=R.size:=Z;have CV:(src.take N).length=N:=Z;have B:Src g w sz (src.take N) ⟨M,Q,none⟩ (f.take (N*sz)):=by refine⟨Z,λj u C=>?_,λi row hi j a E=>?_⟩;rw[bJ_]at C;split at C;exact z.2.1 j u C;grind;rw[bJ_]at hi;split at hi;rename_i az;let⟨x,l,eQ⟩:=z.2.2 i row hi j a E;exact⟨x,by grind[oe],eQ⟩;grind
 have dQ:=aaK w t t2 o.type e tE i s hi (g.ob k) (off*sz) len cc R T ⟨M,Q,none⟩ src.length c2 N (f.take (N*sz)) V.symm Z B.2.1 (J9 B λrow d=>⟨h3 row (bA_ d),G row d⟩) kp;let⟨hE,W⟩:=y.U8 (p:=off) (GL:=src.take N) (Ky:=f.take (N*sz)) F L T (λr d=>h3 r (bA_ d)) Z (λi row j a hi E=>B.2.2 i row hi j a E) Z hf;rw[CV]at W;refine⟨_,_,g,.inl ?_,.v,W,hE⟩;have l:(execOp q.eval o).run P w=((Builtin.copy_ #[t,t2] o.type #[q.eval u,q.eval v]).run P w).andThen λv w'=>.ok (.value v) w':=by simp[execOp,ho,resolve,hc,oh,cP,invoke,builtin]
 rw[l,e1,e3,dQ];rfl
theorem D.Ni{k len fz:Nat}{cx:Option Nat}(p:a.ev Y.tm=.ob k sz off len cx)(g:S.get k=some (.arr sz rows fz ex))(q:iN S (b.ev Y.tm)=some src)(h0:0<src.length)(h:off+len<=rows.length)(i:fz<=off)(h3:∀row∈src,row.length=sz)(j:∀row∈src.take (Nat.min src.length len),row.all dv=true):D P U dr (.copy sz a b) Y S (.v (.int .i64 (Nat.min src.length len:Nat))) (S.set k (some (.arr sz (rows.take off++src.take (Nat.min src.length len)++rows.drop (off+Nat.min src.length len)) fz ex))):=by cases dr with|false =>intro n o d;let⟨c,t,t2,u,v,e,r,l,_⟩:=J_ d;exact(S5 d p g q h0 h i h3 j).ops λc e=>Z|true =>
  intro n o d;let⟨c,t,t2,u,v,e,r,l,y,A,s,B,C,_⟩:=J_ d;have e:∀z∈[u,v],(Y.only (d_ o)).ev z=Y.ev z:=λz m=>h_ λt w=>ic (by rw[l];simp only[Op.operands,Call.operands,s,<-w];simp at m⊢;rcases m with rfl|rfl<;>simp);have x:a.ev (Y.only (d_ o)).tm=.ob k sz off len cx:=by grind[aY]
  have f:iN S (b.ev (Y.only (d_ o)).tm)=some src:=by grind[aY]
  exact⟨(S5 d x g f h0 h i h3 j).ops λc e=>Z,λE=>by grind[qw],λF=>by grind[Fe]⟩
theorem Cv.arz{t k:Nat}(q:S.get k=some (.arr sz rows 0 true))(r:Y.tm t=.ob k sz 0 m (some c0))(G:c0=rows.length)(K:m<=rows.length):Cv U n Y S ⟨bK Y.tm t (.gr k sz m),Y.df⟩ (S.set k (some (.arr sz (rows.take m) 0 false))):=by
 intro A g a w u b;refine⟨g,u.PG (aj_ _) λj B l L=>?_,⟨b.size,λs d=>?_,λs d=>?_,b.df,b.yN⟩,Ext.refl A g w⟩;have l:bK S.get k (some (.arr sz (rows.take m) 0 false)) j=some B:=l;by_cases e:j=k;subst e;rw[aK]at l;cases oJ_ l;refine⟨_,q,λh=>?_,λJ h=>Z⟩;let⟨x,y,f,o,M,N,P,Q,C⟩:=h;refine⟨x,y,f,o,Z,λh=>Z,λi row hi=>?_,aF_ _,C⟩;rw[bJ_]at hi;split at hi;grind;grind;grind[aR];show aT g w (bK Y.tm t _ s) _;by_cases e:s=t;subst e;rw[aK];have f:=b.tm s d;rw[r]at f;generalize a.tmps.getD s undef=v at f⊢;cases f with|ob z E R T p =>rename_i c;have V:c=c0:=E _ rfl;let⟨_,_,x,y,W,p2,p3,F,_⟩:=u.dh k _ q z;have:=F rfl;rw[be_];exact .gr z X p
 rw[aR _ _ e];exact b.tm s d;show bK Y.tm t _ s=.u;by_cases e:s=t;subst e;have o:=b.out s d;rw[r]at o;cases o;rw[aR _ _ e];exact b.out s d
section
variable{rd:Bool}
theorem D.av6{k len:Nat}(d:x.ev Y.tm=.gr k sz len)(E:m=sz)(F:lo.ev Y.tm=.v (.int ik j))(G:j=i)(h0:i<=len)(h1:0<len):D P U false (.slice (.sl m) x (some lo) none none) Y S .u S:=D.run λn o J=>by
 obtain⟨t,u,f,p,s,K,rfl,L,M,N,⟨a,_⟩|⟨e,m',a,y,Q⟩⟩:=Iw J;grind;injection a with a;subst a E G;have R:p=none:=by cases p with|none=>rfl|some _=>cases M
 have T:s=none:=by cases s with|none=>rfl|some _=>cases N
 subst R T;obtain⟨v,rfl,rfl⟩:∃v,f=some v/\lo=qo v:=by cases f with|none=>cases L|some v=>exact⟨v,rfl,Z⟩
 rw[aY]at d F;refine bt.quiet λA g q w hS z=>?_;have B:=z.ev u;rw[d]at B;let⟨aV,c,V,hc,W⟩:=(tr B).resolve_left λh=>X;have hb:=mP (P:=P) (isSl:=true) (len:=len) (cap:=c) (w:=w) z (lo:=some v) (hi:=none) (l:=i) (h:=len) (by grind[nj]) rfl X X X;have b:∃r,(Instr.slice t (q.eval u) ((some v).map q.eval) (Option.map q.eval none) (Option.map q.eval none)).run P w=.ok r w:=⟨_,by have wh:(Instr.sliceBounds true len c (Option.map q.eval (some v)) (Option.map q.eval none) (Option.map q.eval none)).run P w=_:=hb;simp only[Instr.slice,V,Sem.run_bind,run_underlying y,Result.andThen_ok,wh,dk Q,Sem.run_pure];rfl⟩;let⟨r,b⟩:=b;have LZ:(execOp q.eval o).run P w=.ok (.value r) w:=by simp only[execOp,K,Sem.run_bind,vQ y λk e h=>Z,b,Result.andThen_ok];rfl
 exact⟨_,LZ,.u⟩
def I.aaL{k len:Nat}(c:bJ Y.tm gg=some true)(d:x.ev Y.tm=.ob k sz off len none)(e:m=sz)(f:lo.ev Y.tm=.v (.int ik j))(g:j=i)(h0:i<len)(kk:∀a b,a=off+i->b=len-i->I P U rd n Q (.bp dr l K) (bX dd Y (.ob k sz a b none)) S):I P U rd n Q (.bp dr (⟨dd,gg,.slice (.sl m) x (some lo) none none⟩::l) K) Y S :=I.op (i:=⟨dd,gg,.slice (.sl m) x (some lo) none none⟩) c (D.agy d e f g h0) (kk _ _ rfl rfl)
def I.Dl{k len:Nat}(c:bJ Y.tm gg=some true)(d:x.ev Y.tm=.ob k sz off len (some c0))(e:m=sz)(f:lo.ev Y.tm=.v (.int ik j))(g:j=i)(h0:i<len)(kk:∀a b c',a=off+i->b=len-i->c'=c0-i->I P U rd n Q (.bp dr l K) (bX dd Y (.ob k sz a b (some c'))) S):I P U rd n Q (.bp dr (⟨dd,gg,.slice (.sl m) x (some lo) none none⟩::l) K) Y S :=I.op (i:=⟨dd,gg,.slice (.sl m) x (some lo) none none⟩) c (D.agy d e f g h0) (kk _ _ _ rfl rfl rfl)
theorem I.arA{k len:Nat}{cx:Option Nat}(a:bJ Y.tm gg=some true)(b:x.ev Y.tm=.ob k sz off len cx)(c:m=sz)(d:hi.ev Y.tm=.v (.int ik j))(e:j=i)(h0:i<=len)(kk:I P U rd n Q (.bp dr l K) (bX dd Y (.ob k sz off i cx)) S):I P U rd n Q (.bp dr (⟨dd,gg,.slice (.sl m) x none (some hi) none⟩::l) K) Y S:=by have h:=D.amK (P:=P) (U:=U) (dr:=dr) (S:=S) b c d X X;rw[show j.toNat=i by omega]at h;exact I.op (i:=⟨dd,gg,.slice (.sl m) x none (some hi) none⟩) a h kk
theorem I.arB{k len:Nat}(a:bJ Y.tm gg=some true)(b:x.ev Y.tm=.ob k sz 0 len (some c0))(c:m=sz)(d:hi.ev Y.tm=.v (.int ik j))(e:j=i)(h0:0<i)(h1:i<=c0)(kk:I P U rd n Q (.bp false l K) (bX dd Y (.ob k sz 0 i (some c0))) S):I P U rd n Q (.bp false (⟨dd,gg,.slice (.sl m) x none (some hi) none⟩::l) K) Y S:=by have h:=D.av4 (P:=P) (U:=U) (S:=S) (lo:=none) (hi:=some hi) (l:=0) (h:=j) b c rfl (by grind[xc]) (bs_ _) X X;rw[show(0:Int).toNat=0 from rfl,bE_,Nat.sub_zero,Nat.sub_zero,show j.toNat=i by omega]at h;exact I.op (i:=⟨dd,gg,.slice (.sl m) x none (some hi) none⟩) a h kk
theorem I.XL{k len fz:Nat}(e:bJ Y.tm gg=some true)(h1:a.ev Y.tm=.ob k sz off len (some c0))(f:S.get k=some (.arr sz rows fz ex))(h2:b.ev Y.tm=.v (.int ik j))(g:j=m)(h0:0<m)(h:c0<len+m)(o:off+len<=rows.length)(h4:(len+m)*MO<=35184372088832)(p:z.length=sz)(q:0<sz)(kk:∀c d,c=(rows.drop off).take len++List.replicate m z->d=len+m->I P U rd n Q (.bp false l K) (bX dd Y (.ob S.nx sz 0 d none)) (S.new (.arr sz c 0 false))):I P U rd n Q (.bp false (⟨dd,gg,.Nf z MO a b⟩::l) K) Y S:=by subst g;exact I.op (i:=⟨dd,gg,.Nf z MO a b⟩) e (D.XL h1 f h2 h0 h o h4 p q) (kk _ _ rfl rfl)
def I.Ni{k len fz:Nat}{cx:Option Nat}(e:bJ Y.tm gg=some true)(f:a.ev Y.tm=.ob k sz off len cx)(g:S.get k=some (.arr sz rows fz ex))(h:iN S (b.ev Y.tm)=some src)(h0:0<src.length)(j:off+len<=rows.length)(m:fz<=off)(h3:∀row∈src,row.length=sz)(o:∀row∈src.take (Nat.min src.length len),row.all dv=true)(kk:∀d (c:Int),d=rows.take off++src.take (Nat.min src.length len)++rows.drop (off+Nat.min src.length len)->I P U rd n Q (.bp dr l K) (bX dd Y (.v (.int .i64 c))) (S.set k (some (.arr sz d fz ex)))):I P U rd n Q (.bp dr (⟨dd,gg,.copy sz a b⟩::l) K) Y S :=I.op (i:=⟨dd,gg,.copy sz a b⟩) e (D.Ni f g h h0 j m h3 o) (kk _ _ rfl)
theorem OE{k len fz:Nat}{cx:Option Nat}(a:S.get k=some (.arr sz rows fz ex))(h:off+len<=rows.length):iN S (.ob k sz off len cx)=some ((rows.drop off).take len):=by have e:((rows.drop off).take len).length=len:=Z;unfold iN;simp only[rowsOf,a,q8,e,bD_]
end
theorem aiA{E R2 R3 R4:List A}{r z:A}{j:Nat}(c:j<E.length)(h2:R2=E.take j++List.replicate (E.length+1-j) z)(h3:R3=R2.take j++[r]++R2.drop (j+1))(h4:R4=R3.take (j+1)++E.drop j++R3.drop (j+1+(E.length-j))):R4=E.take j++[r]++E.drop j:=by have d:(E.take j).length=j:=Z;have e:R2.length=E.length+1:=Z;have f:R2.take j=E.take j:=Z;have g:R3.length=E.length+1:=Z;have a:R3.take (j+1)=E.take j++[r]:=Z;have b:R3.drop (j+1+(E.length-j))=[]:=aP_ X;rw[h4,a,b,aI_]
theorem adS{R R2 R3:List A}{r:A}{j n:Nat}(e:j<n)(f:n+1<=R.length)(h2:R2=R.take (j+1)++(R.drop j).take (n-j)++R.drop (j+1+(n-j)))(h3:R3=R2.take j++[r]++R2.drop (j+1)):R3.take (n+1)=(R.take n).take j++[r]++(R.take n).drop j:=by
 have g:(R.take (j+1)).length=j+1:=Z;have h:((R.drop j).take (n-j)).length=n-j:=Z;have a:R2.take j=R.take j:=Z;have b:R2.drop (j+1)=(R.drop j).take (n-j)++R.drop (j+1+(n-j)):=Z;have i:(R.take j).length=j:=Z;have c:(R.take n).take j=R.take j:=Z;have d:(R.take n).drop j=(R.drop j).take (n-j):=by rw[List.drop_take]
 rw[h3,a,b,c,d,<-bt_,dV_ Z,aW_ Z]
theorem zw9{P:Program}(w:World)(tS tR e:TypeId)(ht:P.underlying tS=some (.slice e))(size:Nat)(hz:∀w,(Go.sizeOf e).run P w=.ok size w)(a b:Addr)(la ca lb cb:Nat)(dH:a.block≠b.block)(tA tB:TypeId)(kA kB:Nat)(Oo:w.shape? a.block=some (tA,kA))(hsb:w.shape? b.block=some (tB,kB))(hkB:kB≠0)(hkA:kA≠0)(hfb:w.frozen? b=false)(hfe:w.frozen? {block:=b.block,off:=kB }=false):(Extern.SlicesOverlaps.overlaps #[tS,tS] #[tR] #[.slice (some a) la ca,.slice (some b) lb cb]).run P w=.ok (.bool false) w:=by
 have tK:(a.block !=b.block)=true:=Z;have av7:(a.block==b.block)=false:=Z;change Sem.run P (α:=Value) (do
  let some t:=(#[tS,tS]:Array TypeId)[0]?|stuck "slices.overlaps: no parameter types"
  let .slice elem <-underlying t|stuck "slices.overlaps: slice type expected"
  let size <-sizeOf elem match(some a:Option Addr),(some b:Option Addr) with|some a,some b =>if la=0\/lb=0\/size=0 then pure (Value.bool false)else if a.block !=b.block&&(<-frozen a)&&(<-frozen b) then unsupported .addressObserved else do
    if a.block !=b.block then do noView a;noView b if<-mayBeOne a b then return Value.bool ((<-choose (.extern "sameAddr.stringBytes" 2))==1)
    pure (Value.bool (a.block==b.block&&a.off<b.off+lb*size&&b.off<a.off+la*size))|_,_=>pure (Value.bool false)) w=_;by_cases h0:la=0\/lb=0\/size=0;simp[run_underlying ht,hz,h0];cases kB with|zero=>exact absurd rfl hkB|succ kB =>cases kA with|zero=>exact absurd rfl hkA|succ kA =>cases Jn:w.frozen? a<;>cases yQ:w.frozen? {block:=a.block,off:=kA+1 }<;>simp[run_underlying ht,hz,h0,tK,av7,frozen,noView,viewAt,mayBeOne,stringish,shape,Sem.run,Oo,hsb,hfb,hfe,Jn,yQ]
section
variable{rd:Bool}
theorem D.av8{f:QO}{g:FuncId}{k l d r:Nat}{r0:AV}{s:List AV}{m:List (List AV)}{t:Bool}{z:Option Nat}(h:f.ev Y.tm=.v (.func (.func g) #[] #[]))(i:aZ9.map (·.ev Y.tm)=[.sl ex ((r0::s)::rows),.ob k l d r z])(eF:S.get k=some (.arr l m 0 t))(h1:0<m.length)(h2:0<l)(hx:∀(w:World) (a b:Addr) (la ca lb cb:Nat) (tA tB:TypeId) (M B:Nat),a.block≠b.block->w.shape? a.block=some (tA,M)->w.shape? b.block=some (tB,B)->B≠0->M≠0->w.frozen? b=false->w.frozen? {block:=b.block,off:=B }=false->(callFunc g #[.slice (some a) la ca,.slice (some b) lb cb]).run P w=.ok (.value (.bool false)) w):D P U false (.call f aZ9) Y S (.v (.bool false)) S:=by
 refine D.run λn o hr=>?_;obtain⟨c,u,ho,hu,rfl,rfl⟩:=my hr;rw[jQ]at i;rw[aY]at h;refine bt.quiet λA C q w hS E=>?_;have N:=E.ev u;rw[h]at N;have e2:=cF N;let⟨x,y,Q⟩:∃x y,c.args.toList=[x,y]:=by generalize c.args.toList=L at i;match L,i with|[],h=>simp at h|[_],h=>simp at h|[x,y],_=>exact⟨x,y,rfl⟩|_::_::_::_,h=>simp at h
 rw[Q]at i;simp only[aK_,aY_,List.cons.injEq,and_true]at i;have f1:=E.ev x;have f2:=E.ev y;rw[i.1]at f1;rw[i.2]at f2;let⟨R,e4,F,_⟩:=lX f2;let⟨_,_,p,G,j,r2,r3,r4,r5,r6,r7⟩:=hS.dh k _ eF F;generalize hv:q.eval x=v at f1;cases f1 with|sl hn hc hle hl pW vi =>
  rename_i b o sz T val;let⟨yQ,V⟩:=pW 0 0 _ r0 rfl rfl;have hb:b≠C.ob k:=λe=>Z;let⟨J,K,fzA,yW,F9⟩:∃W ty fz,w.heap[b]?=some (.cells W ty fz)/\W.size≠0:=by unfold World.cell? at V;split at V;grind;grind
  have e5:c.args.map q.eval=#[.slice (some ⟨b,o,none⟩) ((r0::s)::rows).length T,.slice (some ⟨C.ob k,d*l,none⟩) r R]:=by apply Array.toList_inj.1;rw[bY_,Q];simp only[aK_,aY_,hv,e4]
  have FM:0<p.size:=by rw[r2];exact Nat.mul_pos X h2
  have Dk:=hx w ⟨b,o,none⟩ ⟨C.ob k,d*l,none⟩ ((r0::s)::rows).length T r R K G J.size p.size hb (by simp[World.shape?,yW]) (by simp[World.shape?,j]) X F9 (by simp[World.frozen?,j]) (by simp[World.frozen?,j]);rw[aH_]at Dk e5;refine⟨.bool false,?_,.v⟩;simp[execOp,ho,hu,e2,e5,Dk,resolve,invoke,Deferred.ofValue]
end
section
attribute [local irreducible] aq aG D I
def arC:=aD func309 call309
def amM:=[3,0,2,1]
def arD:=aD func271 call271
def amN:=[4,1,0,3]
def arE:=aD func146 call146
def AS:=[12,7,6,2,11,13,10,0,1,9]
def arF:=aD func209 call209
def Cu:=[5,6,1,8,11,0,7,2,12,19,9,46,52,57]
def av9:=aD func79 call79
def g79:=[5,6,2,0,1]
theorem aiB(x:Bd)(v:Int):ad U 309 [bd O x,.ip [iv v]] (.v (.bool (x.v==v))):=by
 let⟨i,k,j,n,a⟩:=x;refine st arC amM .v ?_;repeat' first|refine cg amM (λb=>?_) λb=>?_|refine fq ?_
 all_goals refine aO ?_;simp_all
theorem VR(b:List Bd)(v:Int)(h:b.length<=1099511627776):ad U 271 [a_ O b,iv v] (iv (wW b v)):=by
 have d:Pure (.fn (.func 309) [] [.ip [iv v]]):=.fn (λa e=>Z) λa e=>by cases ae_.1 e;exact .ip λb c=>by cases ae_.1 c;exact .v
 have f:=Qh (U:=U) (O:=O) (λx=>x.v==v) b _ [] _ h d λx _=>⟨_,_,rfl,⟨uO x,.ip λb c=>by cases ae_.1 c;exact .v,trivial⟩,aiB x v⟩;unfold wW;let⟨j,g⟩:=au (de (λx:Bd=>x.v==v) b 0);rw[<-g]at f⊢;clear g;refine st arD amN .v ?_;repeat' first|refine ig amN (D.tU rfl f ⟨bH _,d,trivial⟩ .v ⟨.refl _,aL.fns trivial ⟨aL.box (cs:=[iv v]) (cs':=[iv v]) rfl ⟨.refl _,trivial⟩,trivial⟩,trivial⟩) λ_ _=>?_|refine fq ?_
 all_goals refine dA ?_;omega
theorem JC(a:List Tm)(v:a.length<=100000000000)(n:∀x∈a,ad U 209 [a_ O env,iv fr,tm O x] (tm O (f x))):ad U 146 [a_ O env,iv fr,tl O a] (tl O (a.map f)):=by
 let⟨R,g⟩:=au (a.map f);rw[<-g];refine st arE AS (cQ _) ?_;refine lg AS λm w=>?_;refine cW (τ:=List Tm×Nat) 0 1 [] (λp=>[(0,a_ O env),(1,.v (.int .i64 fr)),(7,.gr 0 4 p.2.2),(10,tl O a),(11,.v (.int .i64 m)),(12,.v (.int .i64 p.1))]) [] (λp=>[(0,.arr 4 (O.h (List.map (jG O)) p.2.1) 0 false)]) a.length (λk p=>R=p.2.1++(a.drop k).map f/\p.2.2=p.2.1.length/\p.2.1.length=k) ([],0) ⟨Z,rfl,rfl⟩ ?_;rintro i k⟨MP,len⟩hi z⟨b,c,o⟩;simp only at hi b c o;clear g;refine H AS ?_;by_cases q:k<a.length
 ·let⟨x,h,r⟩:=aC q;have j:=n x (aZ h);rw[r,aK_]at b;let⟨d,s⟩:=au (f x);rw[<-s]at j b;let⟨A,B,C,E⟩:=x;repeat' first|refine og AS (D.ind rfl rfl (cG (l:=a) hi h) cH) ?_|apply bh AS j|refine I.app (x:=d) (f:=jG O) rfl rfl rfl c (λ_=>rfl) rfl rfl rfl rfl X λs' t F G=>?_;refine H AS ?_|refine cg AS (λe=>?_) λe=>?_|refine ag AS λ_ _=>?_|refine xG AS ?_|refine fq ?_
  all_goals first|omega|refine I.bu (_,s',t) [(0,2)] ?_ ?_ (by exact⟨sq,rfl,⟨.inl ⟨_,rfl,.same (jP λx _ a u=>ur x a u)⟩,trivial⟩,rfl,rfl,rfl⟩);grind;simp only;omega
 ·skip;repeat' first|refine cg AS (λe=>?_) λe=>?_|refine xG AS ?_|refine fq ?_
  all_goals first|omega|rw[b,ar_ X,aY_,aI_,<-M3];exact aL.grow rfl c
theorem adU(F:env.length<=1099511627776)(h0:0<=fr)(h1:fr<=1099511627776)(n:Nat):∀x:Tm,cL x<=n->n<=100000000000->tp x->ad U 209 [a_ O env,iv fr,tm O x] (tm O (lr env fr x)):=by induction n with|zero=>intro x h;have:=ff x;omega|succ n v =>
  intro x w G o;rw[ff]at w;have J:=oK x.a;have d:=JC (U:=U) (O:=O) (f:=lr env fr) (env:=env) (fr:=fr) x.a X λy z=>v y (by have:=jx y z;omega) X ((af9 o).mem y z);have p:=VR (U:=U) (O:=O) env x.i F;have e:=Ef env x.i;have g:=Ix env x.i;let⟨j,B⟩:=au (wW env x.i);rw[<-B]at p e g;have r:=af_ o;have m:=Xb (U:=U) (O:=O) (fr+x.i);have t:=alP (U:=U) (O:=O) x.i;let⟨R,c⟩:=au (lr env fr x);rw[<-c];let⟨k,i,u,a⟩:=x;rw[lr,pO]at c;simp only at d p e g m t c r;clear v w G o B J;let⟨A,K⟩:=au (a.map (lr env fr));rw[<-K]at d c;have C:=alQ (U:=U) (O:=O) u A;let⟨s,L⟩:=au (fr+i);rw[<-L]at m c;refine st arF Cu (bM _) ?_;repeat' first|refine ig Cu (pl p) λ_ _=>?_|apply bh Cu d|apply bh Cu C|apply bh Cu t|refine I.int rfl (D.y7 (a:=i) (b:=fr) rfl rfl rfl X X) λE Q=>?_;obtain rfl:E=s:=X;refine H Cu ?_;apply bh Cu m|refine cg Cu (λM=>?_) λM=>?_|refine ag Cu λ_ _=>?_|refine fq ?_
  all_goals clear d t m C
  all_goals first
   |omega
   |(have h:R=⟨2,0,u,A⟩:=by rw[c,if_neg X,if_neg X,if_pos X]
     rw[h];exact .refl _)
   |(have h0:mM env i=none:=g X;have h:R=vr E:=by rw[c,if_pos X,h0];rfl
     rw[h];exact .refl _)
   |(have h:R=Xe i:=by rw[c,if_neg X,if_pos X];rfl
     rw[h];exact .refl _)
   |(have h:R=⟨k,i,u,a⟩:=by rw[c,if_neg X,if_neg X,if_neg X]
     rw[h];exact .refl _)|skip
  let⟨q,⟨S,T,V,W,xa⟩,e1,N,P⟩:=e X;rw[if_pos X,P]at c;simp only at c;clear e g;refine og Cu (D.ind rfl rfl (du (l:=env) (k:=q) X N) (cJ λ_=>rfl)) ?_;repeat' first|refine fq ?_
  all_goals rw[c];exact .refl _
def aiC(a:env.length<=1099511627776)(h0:0<=fr)(h1:fr<=1099511627776)(x:Tm)(b:cL x<=100000000000)(c:tp x):ad U 209 [a_ O env,iv fr,tm O x] (tm O (lr env fr x)):=adU a h0 h1 _ x (aj_ _) b c
theorem S7(c:env.length<=1099511627776)(h0:0<=fr)(h1:fr<=1099511627776)(g:Gl)(i:bC g.a<=100000000000)(d:pe g.a):ad U 79 [a_ O env,iv fr,gl O g] (gl O (gL env fr g)):=by
 have b:=JC (U:=U) (O:=O) (f:=lr env fr) (env:=env) (fr:=fr) g.a (by grind[oK]) λy e=>aiC c h0 h1 y (by have:=jx y e;omega) (d.mem y e);rw[gL];let⟨o,n,a⟩:=g;simp only at b⊢;let⟨A,h⟩:=au (a.map (lr env fr));rw[<-h]at b⊢;clear h d i c;refine st av9 g79 (kJ _) ?_;repeat' first|apply bh g79 b|refine fq ?_
 exact .refl _
theorem XN(x:Int):Wk (.sl ex [[iv x]]) (aQ O aH false [x]):=by grind[bN,aH,Wk.sl]
theorem agA(x y:Int):Wk (.sl ex [[iv x],[iv y]]) (aQ O aH false [x,y]):=by grind[bN,aH,Wk.sl]
theorem S8(n:ByteArray)(a b:Int)(g:FuncId)(p e:Int)(q:ad U 325 [.v (.string n)] (.v (.func (.func g) #[] #[])))(f:iQ a=true->iQ b=true->ad U g [iv a,iv b] (mR (p,e))):ad U 305 [.v (.string n),iv a,iv b] (mR (if !(iQ a&&iQ b) then(0,5) else if e=0 then if iQ p then(p,0) else(0,5) else(0,e))):=by
 have h:=aaz (U:=U) (O:=.plain) a b;have i:=SG (U:=U) (O:=.plain) p;let⟨R,d⟩:=au (if !(iQ a&&iQ b) then((0:Int),(5:Int)) else if e=0 then if iQ p then(p,0) else(0,5) else(0,e));rw[<-d];let⟨A,j⟩:=au (iQ a);let⟨B,k⟩:=au (iQ b);let⟨C,r⟩:=au (iQ p);rw[<-j,<-k]at d h;rw[<-j]at f;rw[<-k]at f;rw[<-r]at i d;clear j k r;let⟨u,l⟩:=au (A&&B);rw[<-l]at h d;rw[mR]at f;refine st ago lZ (kR _) ?_;refine I.op rfl (pl q) ?_;refine H lZ ?_;refine I.op rfl (D.Sg (b:=false) rfl rfl) ?_;refine H lZ ?_;refine I.bif rfl (D.qu rfl h ⟨a8 _,trivial⟩ ⟨agA a b,trivial⟩) (λc=>?_) λc=>?_<;>refine H lZ ?_;rotate_left;refine fq ?_;exact jR Z;subst c;have o:=dW_.1 l.symm;have s:=f o.1 o.2;rw[if_neg aE]at d;clear f;refine I.op rfl (pl s) ?_;refine H lZ ?_;repeat' first|refine I.bif rfl (D.qu rfl i ⟨a8 _,trivial⟩ ⟨XN p,trivial⟩) (λc=>?_) λc=>?_<;>refine H lZ ?_|refine bq (λc=>?_) λc=>?_<;>(try simp only[bT]at c)<;>(first|exact dV c|refine H lZ ?_)|refine b9 λm t=>?_;(try rw[aA]at t);refine H lZ ?_|refine cN λ_ _=>?_;refine H lZ ?_|refine iJ λ_ _=>?_;refine H lZ ?_|refine I.str rfl (D.cat rfl rfl (by assumption)) λ_ _=>?_;refine H lZ ?_|refine xG lZ ?_|refine rG lZ ?_|refine fq ?_
 all_goals clear s i h q l o
 all_goals refine jR ?_;rw[d];simp_all;done
theorem aaM(n:ByteArray)(a b:Int)(g q:FuncId)(p e:Int)(r:ad U 325 [.v (.string n)] (.fn (.func g) [] [.ip [BS q]]))(f:iQ a=true->iQ b=true->ad U g [iv a,iv b,.ip [BS q]] (mR (p,e))):ad U 305 [.v (.string n),iv a,iv b] (mR (if !(iQ a&&iQ b) then(0,5) else if e=0 then if iQ p then(p,0) else(0,5) else(0,e))):=by
 have h:=aaz (U:=U) (O:=.plain) a b;have i:=SG (U:=U) (O:=.plain) p;let⟨R,d⟩:=au (if !(iQ a&&iQ b) then((0:Int),(5:Int)) else if e=0 then if iQ p then(p,0) else(0,5) else(0,e));rw[<-d];let⟨A,j⟩:=au (iQ a);let⟨B,k⟩:=au (iQ b);let⟨C,s⟩:=au (iQ p);rw[<-j,<-k]at d h;rw[<-j]at f;rw[<-k]at f;rw[<-s]at i d;clear j k s;let⟨v,l⟩:=au (A&&B);rw[<-l]at h d;rw[mR]at f;refine st ago lZ (kR _) ?_;refine I.op rfl (pl r) ?_;refine H lZ ?_;refine I.op rfl (D.Sg (b:=false) rfl rfl) ?_;refine H lZ ?_;refine I.bif rfl (D.qu rfl h ⟨a8 _,trivial⟩ ⟨agA a b,trivial⟩) (λc=>?_) λc=>?_<;>refine H lZ ?_;rotate_left;refine fq ?_;exact jR Z;subst c;have o:=dW_.1 l.symm;have t:=f o.1 o.2;rw[if_neg aE]at d;clear f;refine I.op rfl (pl t) ?_;refine H lZ ?_;repeat' first|refine I.bif rfl (D.qu rfl i ⟨a8 _,trivial⟩ ⟨XN p,trivial⟩) (λc=>?_) λc=>?_<;>refine H lZ ?_|refine bq (λc=>?_) λc=>?_<;>(try simp only[bT]at c)<;>(first|exact dV c|refine H lZ ?_)|refine b9 λm u=>?_;(try rw[aA]at u);refine H lZ ?_|refine cN λ_ _=>?_;refine H lZ ?_|refine iJ λ_ _=>?_;refine H lZ ?_|refine I.str rfl (D.cat rfl rfl (by assumption)) λ_ _=>?_;refine H lZ ?_|refine xG lZ ?_|refine rG lZ ?_|refine fq ?_
 all_goals clear t i h r l o
 all_goals refine jR ?_;rw[d];simp_all;done
theorem aiD(n:ByteArray)(a b:Int)(o:eZ n=true):ad U 305 [.v (.string n),iv a,iv b] (mR (Oh n a b)):=by
 have e:=agq (U:=U) n;have j:∀x y:Int,iQ x=true->iQ y=true->-2147483648<=x/\x<=2147483648/\-2147483648<=y/\y<=2147483648:=λx y c d=>⟨(w9.1 c).1,(w9.1 c).2,(w9.1 d).1,(w9.1 d).2⟩;have m:n.toList=[43]\/n.toList=[45]\/n.toList=[42]\/n.toList=[47]\/n.toList=[37]:=by grind[eZ,Ov]
 unfold LR at e;unfold Oh Og;simp only[Ov]at e;rcases m with h|h|h|h|h<;>simp only[h]at e⊢;exact S8 n a b _ _ _ e λc d=>by grind[amr]
 exact S8 n a b _ _ _ e λc d=>by grind[ais]
 exact S8 n a b _ _ _ e λc d=>by grind[ait]
 exact aaM n a b _ _ _ _ e λc d=>by let⟨f,g,k,l⟩:=j a b c d;exact aaA _ a b _ λi=>LQ a b i f g
 exact aaM n a b _ _ _ _ e λc d=>by let⟨f,g,k,l⟩:=j a b c d;exact aaA _ a b _ λi=>arq a b i f g k l
theorem aiE(n:ByteArray):MZ (LR n)=some ! eZ n:=by
 unfold LR;by_cases h:eZ n=true;rw[h];have b:n.toList=[43]\/n.toList=[45]\/n.toList=[42]\/n.toList=[47]\/n.toList=[37]:=by grind[eZ,Ov]
 simp only[Ov];rcases b with h|h|h|h|h<;>simp only[h]<;>rfl;have a:=h;unfold eZ at a;simp only[cD_,beq_iff_eq,not_or]at a;let⟨⟨⟨⟨c,d⟩,e⟩,f⟩,g⟩:=a;rw[if_neg c,if_neg d,if_neg e,if_neg f,if_neg g,di_.2 h];rfl
theorem amO(x:Tm):ad U 304 [tm O x] (.v (.bool (decide (x.k=2)&&decide (x.a.length=2)&&eZ x.n))):=by
 have d:=agq (U:=U) x.n;have j:=SI x.n;have g:=aiE x.n;let⟨e,o⟩:=au (eZ x.n);rw[<-o]at g⊢;clear o;let⟨F,p⟩:=au (LR x.n);rw[<-p]at d j g;have key:(∃f l m,F=.fn f l m/\e=true)\/(∃f a b,F=.v (.func f a b)/\e=true)\/F=.v .nilFunc/\e=false:=by unfold MZ at g;split at g;grind;grind;grind;grind
 clear p g j;let⟨k,i,n,a⟩:=x;simp only at d⊢;rcases key with⟨f,l,m,rfl,rfl⟩|⟨f,l,m,rfl,rfl⟩|⟨rfl,rfl⟩
 ·skip;refine st Xr jV .v ?_;repeat' first|refine I.op rfl (pl d) ?_;refine H jV ?_|refine I.op rfl (D.Sg (b:=false) rfl rfl) ?_;refine H jV ?_|refine bq (λc=>?_) λc=>?_<;>(try simp only[bT]at c)<;>(first|exact dV c|refine H jV ?_)|refine b9 λm h=>?_;(try rw[aA]at h);refine H jV ?_|refine cN λ_ _=>?_;refine H jV ?_|refine iJ λ_ _=>?_;refine H jV ?_|refine I.str rfl (D.cat rfl rfl (by assumption)) λ_ _=>?_;refine H jV ?_|refine xG jV ?_|refine rG jV ?_|refine fq ?_
  all_goals clear d;refine aO ?_;simp_all<;>omega
 ·skip;refine st Xr jV .v ?_;repeat' first|refine I.op rfl (pl d) ?_;refine H jV ?_|refine I.op rfl (D.Sg (b:=false) rfl rfl) ?_;refine H jV ?_|refine bq (λc=>?_) λc=>?_<;>(try simp only[bT]at c)<;>(first|exact dV c|refine H jV ?_)|refine b9 λm h=>?_;(try rw[aA]at h);refine H jV ?_|refine cN λ_ _=>?_;refine H jV ?_|refine iJ λ_ _=>?_;refine H jV ?_|refine I.str rfl (D.cat rfl rfl (by assumption)) λ_ _=>?_;refine H jV ?_|refine xG jV ?_|refine rG jV ?_|refine fq ?_
  all_goals clear d;refine aO ?_;simp_all<;>omega
 ·skip;refine st Xr jV .v ?_;repeat' first|refine I.op rfl (pl d) ?_;refine H jV ?_|refine I.op rfl (D.Sg (b:=true) rfl rfl) ?_;refine H jV ?_|refine bq (λc=>?_) λc=>?_<;>(try simp only[bT]at c)<;>(first|exact dV c|refine H jV ?_)|refine b9 λm h=>?_;(try rw[aA]at h);refine H jV ?_|refine cN λ_ _=>?_;refine H jV ?_|refine iJ λ_ _=>?_;refine H jV ?_|refine I.str rfl (D.cat rfl rfl (by assumption)) λ_ _=>?_;refine H jV ?_|refine xG jV ?_|refine rG jV ?_|refine fq ?_
  all_goals clear d;refine aO ?_;simp_all<;>omega
def av_:=aD func41 call41
def BW:=[0,4,3,2,7,11,22]
def awa:=aD func40 call40
def Fx:=[3,0,2,7,16]
def awb:=aD func20 call20
def BX:=[0,5,4,1,9,13,22]
def zl(l:List Tm):Bool:=decide (l.length<=8)&&decide (bF l<=60)
theorem JD(a b:List Tm):bF (a++b)=bF a+bF b:=by induction a with|nil=>simp[bF]|cons x a c=>rw[aX_,bF,bF,c];omega
theorem S9(l:List Tm)(t:l.length<=1099511627776)(u:bF l<=1099511627776):ad U 41 [tl O l] (.v (.bool (zl l))):=by
 let⟨R,a⟩:=au (zl l);rw[<-a];unfold zl at a;refine st av_ BW .v ?_;repeat' first|refine cg BW (λb=>?_) λb=>?_|refine lg BW λm e=>?_|refine fq ?_
 grind[aO];rw[decide_eq_true X,az_]at a;refine cW (τ:=Int) 0 0 [] (λp=>[(0,tl O l),(3,.v (.int .i64 p.2)),(4,.v (.int .i64 p.1))]) [] (λ_=>[]) l.length (λk p=>p.2=bF (l.take k)/\p.2<=60) 0 ⟨rfl,aE⟩ ?_;rintro i k c hi w⟨f,h⟩;simp only at hi f h;refine H BW ?_;by_cases j:k<l.length
 ·let⟨x,n,o⟩:=aC j;have q:bF (l.take (k+1))=bF (l.take k)+dD x:=by grind[JD,bF]
  have r:bF (l.take (k+1))<=bF l:=by have:=JD (l.take (k+1)) (l.drop (k+1));rw[dw_]at this;omega
  have g:=Ih (U:=U) (O:=O) _ x (aj_ _) X;let⟨z,s⟩:=au (dD x);rw[<-s]at q g;let⟨y,A⟩:∃z:Int,z=(dD x:Nat):=⟨_,rfl⟩;clear o;have B:=bM (O:=O) x;let⟨C,E,F,G⟩:=x;repeat' first|refine og BW (D.ind rfl rfl (cG (l:=l) hi n) cH) ?_|refine ig BW (pl g) λ_ _=>?_|refine cg BW (λb=>?_) λb=>?_|refine lg BW λm e=>?_|refine ag BW λ_ _=>?_|refine xG BW ?_|refine rG BW ?_|refine fq ?_
  all_goals first|omega|rw[a,decide_eq_false X];exact aO rfl|refine I.bu (_,_) [] ?_ ?_ cq;grind;simp only;omega
 ·have d:l.take k=l:=aW_ X;rw[d]at f;repeat' first|refine cg BW (λb=>?_) λb=>?_|refine lg BW λm e=>?_|refine xG BW ?_|refine fq ?_
  all_goals first|omega|rw[a,decide_eq_true X];exact aO rfl
def arH:=aD func163 call163
def adV:=[1,0,3,21]
def awc:=aD func93 call93
def g93:=[2,0,1]
def arI:=aD func165 call165
def XO:=[2,4,6,1,0,7,14]
def amP:=aD func96 call96
def yd:=[5,11,6,4,0,10,12,1]
def byI(k n:Int):Int:=if 0<k/\IntKind.i64.wrap (9223372036854775807-k)<n\/k<0/\n<IntKind.i64.wrap (-9223372036854775808-k) then n else IntKind.i64.wrap (n+k)
mutual def Dm(k:Int):Tm->Tm|⟨b,i,n,a⟩=>if b=1 then⟨b,byI k i,n,a⟩ else if b=2 then⟨b,i,n,S_ k a⟩ else⟨b,i,n,a⟩def S_(k:Int):List Tm->List Tm|[]=>[]|x::l=>Dm k x::S_ k l end
theorem Ta(k:Int):∀l,S_ k l=l.map (Dm k)|[]=>by rw[S_];rfl|x::l=>by rw[S_,Ta k l];rfl
theorem HG:∀l:List Tm,l.length<=bC l|[]=>by grind|x::l=>by have:=HG l;have h:=ff x;rw[bC,aH_];omega
theorem xd(k:Int):Pure (.fn (.func 163) [] [.ip [iv k]]):=.fn λa c=>by grind λa c=>by obtain rfl:=ae_.1 c;exact .ip λb d=>by obtain rfl:=ae_.1 d;exact .v
theorem arJ(k n:Int):ad U 163 [iv n,.ip [iv k]] (iv (byI k n)):=by
 obtain⟨R,a⟩:∃R,R=byI k n:=⟨_,rfl⟩;rw[<-a];unfold byI at a;refine st arH adV .v ?_;repeat' first|refine ig adV (D.ari rfl rfl rfl) λ_ _=>?_|refine cg adV (λb=>?_) λb=>?_|refine fq ?_
 all_goals refine dA ?_;rw[a];split<;>omega
theorem awd(k:Int):ad U 93 [iv k] (.fn (.func 163) [] [.ip [iv k]]):=by
 refine st awc g93 (xd k) ?_;repeat' first|refine fq ?_
 exact aL.fns trivial ⟨aL.box (cs:=[iv k]) (cs':=[iv k]) rfl ⟨.refl _,trivial⟩,trivial⟩
theorem OF{k:Int}(a:List Tm)(e:a.length<=100000000000)(o:∀x∈a,ad U 165 [tm O x,.fn (.func 163) [] [.ip [iv k]]] (tm O (f x))):ad U 96 [tl O a,.fn (.func 163) [] [.ip [iv k]]] (tl O (a.map f)):=by have P:=xd k;cases a with
 |nil =>
  have c:=S0 (U:=U) (O:=O);refine st amP yd (cQ _) ?_;repeat' first|apply bh yd c|refine lg yd λm q=>?_
  refine I.eH (σ:=Int) 0 0 [] (λp=>[(5,tl O []),(10,.v (.int .i64 m)),(11,.v (.int .i64 p))]) [] (λ_=>[]) (λp=>p=0) (λp=>0) 0 rfl rfl cq ?_;rintro i rfl;refine H yd ?_;repeat' first|refine cg yd (λA=>?_) λA=>?_|refine I.gp ?_;refine H yd ?_|refine fq ?_
  all_goals first|exfalso;simp only[bd_]at q;omega|exact .refl _
 |cons x0 s =>
 have c:=S3 (U:=U) (O:=O) x0 s e;obtain⟨a,t⟩:∃a,a=x0::s:=⟨_,rfl⟩;rw[<-t]at c e o⊢;clear t;obtain⟨R,B⟩:∃R,R=a.map f:=⟨_,rfl⟩;rw[<-B];obtain⟨C,E⟩:∃n,n=a.length:=⟨_,rfl⟩;rw[<-E]at c;refine st amP yd (cQ _) ?_;refine og yd (D.ja [] [(0,some (.arr 4 (O.h (List.map (jG O)) a) 0 false))] c rfl ⟨.pure (cQ _),trivial⟩ (.gr rfl) trivial ⟨⟨0,_,rfl,rfl,.pure (SY _)⟩,trivial⟩) ?_;refine ig yd (D.kS rfl) λm q=>?_;refine I.eH (σ:=Int×List Tm) 1 1 [] (λp=>[(1,.fn (.func 163) [] [.ip [iv k]]),(5,.gr 0 4 C),(10,.v (.int .i64 m)),(11,.v (.int .i64 p.1))]) [] (λp=>[(0,.arr 4 (O.h (List.map (jG O)) p.2) 0 false)]) (λp=>∃j:Nat,p.1=j/\j<=a.length/\p.2.length=a.length/\p.2=(a.take j).map f++a.drop j) (λp=>a.length-p.1.toNat) (0,a) ⟨0,rfl,by simp,rfl,by simp⟩ rfl (by exact⟨sq,rfl,⟨.inl ⟨_,rfl,.same (IK _)⟩,trivial⟩,rfl,rfl,rfl⟩) ?_;rintro⟨i,d⟩ ⟨j,hi,Q,F,u⟩;simp only at hi F u;refine H yd ?_;refine cn (λG=>?_) λG=>?_;rotate_left;refine H yd ?_;refine I.gp ?_;refine H yd ?_;refine fq ?_;have h:R=d:=by grind
 rw[h,<-M3];exact aL.grow rfl (by omega);obtain⟨x,v,J⟩:=aC (l:=a) (k:=j) (by omega);have K:d[j]?=some x:=by grind
 have S:j<a.length:=by omega
 have w:=o x (aZ v);obtain⟨b,z⟩:∃b,b=f x:=⟨_,rfl⟩;rw[<-z]at w;obtain⟨T,V,W,xa⟩:=x;have g:=c_ (O:=O) (f:=jG O) K;rw[jG]at g;simp only at g;refine H yd ?_;refine I.op rfl (D.ew rfl rfl hi (by omega)) ?_;refine og yd (D.iE rfl rfl g rfl) ?_;apply bh yd w;refine I.op rfl (D.ew rfl rfl hi (by omega)) ?_;refine I.Gj (f:=jG O) (y:=b) rfl rfl rfl rfl rfl (λ_=>rfl) rfl (by omega) λL M=>?_;refine H yd ?_;refine ag yd λN eu=>?_;refine I.bu (σ:=Int×List Tm) (N,L) [] ⟨j+1,by grind,by omega,by grind,?_⟩ ?_ (by exact⟨sq,rfl,⟨.inl ⟨_,rfl,.same (IK _)⟩,trivial⟩,rfl,rfl,rfl⟩);simp only;have e:((a.take j).map f).length=j:=by grind
 rw[M,u,ce_ _ _ (by omega),e,bL_,J,cM_,bP_,v,ba_,z];simp;grind
theorem aaO(k:Int)(n:Nat):∀x:Tm,cL x<=n->n<=100000000000->ad U 165 [tm O x,.fn (.func 163) [] [.ip [iv k]]] (tm O (Dm k x)):=by induction n with|zero=>intro x h;have:=ff x;omega|succ n j =>
  intro x l m;rw[ff]at l;have o:=HG x.a;have t:=xd k;have c:=OF (U:=U) (O:=O) (f:=Dm k) (k:=k) x.a (by omega) λy p=>j y (by have:=jx y p;omega) (by omega);have d:=arJ (U:=U) k x.i;obtain⟨R,b⟩:∃R,R=Dm k x:=⟨_,rfl⟩;rw[<-b];obtain⟨e,i,g,a⟩:=x;rw[Dm,Ta]at b;simp only at c d b;clear j l m o;obtain⟨A,q⟩:∃A,A=a.map (Dm k):=⟨_,rfl⟩;rw[<-q]at c b;obtain⟨B,r⟩:∃B,B=byI k i:=⟨_,rfl⟩;rw[<-r]at d b;refine st arI XO (bM _) ?_;repeat' first|apply bh XO c|apply bh XO d|refine cg XO (λs=>?_) λs=>?_|refine fq ?_
  all_goals clear c d
  all_goals first
   |(have h:R=⟨e,B,g,a⟩:=by rw[b,if_pos (by omega)]
     rw[h];exact .refl _)
   |(have h:R=⟨e,i,g,A⟩:=by rw[b,if_neg (by omega),if_pos (by omega)]
     rw[h];exact .refl _)
   |(have h:R=⟨e,i,g,a⟩:=by rw[b,if_neg (by omega),if_neg (by omega)]
     rw[h];exact .refl _)
def adW(k:Int)(x:Tm)(a:cL x<=100000000000):ad U 165 [tm O x,.fn (.func 163) [] [.ip [iv k]]] (tm O (Dm k x)):=aaO k _ x (aj_ _) a
theorem OG(k:Int)(a:List Tm)(c:bC a<=100000000000):ad U 96 [tl O a,.fn (.func 163) [] [.ip [iv k]]] (tl O (a.map (Dm k))) :=OF a (by grind[HG]) λy b=>adW k y (by have:=jx y b;omega)
end
end Go.Proofs.YtbdcmpknicjopaaGreat
