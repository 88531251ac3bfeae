import Derived.Test.YtbdcmpknicjopaaGreatTb29
namespace Go.Proofs.YtbdcmpknicjopaaGreat
set_option linter.all false
set_option maxRecDepth 100000
open Go.RowKit Proofs.Tryz
variable{B i j m n nl ul:Nat}{Nd:aT}{O:Hd}{P:Program}{S T:ah}{U:AA}{Y:World}{a:List Tm}{cl:List Nat}{ex:Bool}{f:FuncId}{ms:List (Int×Int)}{r:AV}{so:List (Nat×Ob)}
variable{N:aT}
namespace TheoryBodies
open Go.ChangeShapes Go.WideShapes Go.ChangeAt Go.RowKit
theorem k0:Rows.theoryBodiesUptoRow.wf (OpenSpec.ofChange (Rows.OpenSpec.upto Rows.theoryBodiesSpec).bare)=true:=by kernel_rfl
theorem k3:(Tryz.f5.params.all (prog.readableRec ·))=true:=by kernel_rfl
theorem k4:namedTie prog Rows.theoryBodiesUptoRow.named (Rows.OpenSpec.upto Rows.theoryBodiesSpec).bare.vars=true:=by kernel_rfl
theorem k5:(Rows.theoryBodiesUptoRow.stops==[])=true:=by kernel_rfl
theorem k6:(prog.stops==[])=true:=by kernel_rfl
theorem k7:(Rows.theoryBodiesUptoRow.knobs==[])=true:=by kernel_rfl
theorem k8:(prog.stopKnobs==[])=true:=by kernel_rfl
theorem k9:(Rows.theoryBodiesUptoRow.inPlace==prog.inPlace 5)=true:=by kernel_rfl
theorem k10:(Rows.theoryBodiesUptoRow.unfollowed==prog.unfollowed 5)=true:=by kernel_rfl
theorem k11:(Rows.theoryBodiesUptoRow.recurses==prog.recurses 5)=true:=by kernel_rfl
theorem k12:(Rows.theoryBodiesUptoRow.named==prog.varsNamed 5)=true:=by kernel_rfl
theorem k13:((Rows.theoryBodiesUptoRow.maps==(Tryz.f5.params.toList++(Rows.OpenSpec.upto Rows.theoryBodiesSpec).bare.plain.varTypes prog).any (prog.mapsRec ·)))=true:=by kernel_rfl
theorem k14:((Rows.theoryBodiesUptoRow.ifaces==(Tryz.f5.params.toList++(Rows.OpenSpec.upto Rows.theoryBodiesSpec).bare.plain.varTypes prog).any (prog.ifacesRec ·)))=true:=by kernel_rfl
theorem k15:(Rows.theoryBodiesUptoRow.mapsOut==prog.mapsAmong Tryz.f5.resultTypes.toList)=true:=by kernel_rfl
theorem k16:((Rows.theoryBodiesUptoRow.loops==(Tryz.f5.params.toList++(Rows.OpenSpec.upto Rows.theoryBodiesSpec).bare.plain.varTypes prog).any (prog.loopsFrom ·)))=true:=by kernel_rfl
theorem k17:((Rows.theoryBodiesUptoRow.wideKeys==(Tryz.f5.params.toList++(Rows.OpenSpec.upto Rows.theoryBodiesSpec).bare.plain.varTypes prog++Tryz.f5.resultTypes.toList).any (prog.wideKeysFrom ·)))=true:=by kernel_rfl
theorem k18:((Rows.OpenSpec.upto Rows.theoryBodiesSpec).bare.vars.all (prog.varReadable ·))=true:=by kernel_rfl
theorem k19:Tryz.f5.resultTypes.all (λt=>prog.readableRec t&&decide (t<prog.types.size))=true:=by kernel_rfl
theorem k20:((Rows.theoryBodiesUptoRow.ifacesOut==Tryz.f5.resultTypes.toList.any (prog.ifacesRec ·)))=true:=by kernel_rfl
theorem k21:((Rows.theoryBodiesUptoRow.loopsOut==Tryz.f5.resultTypes.toList.any (prog.loopsFrom ·)))=true:=by kernel_rfl
theorem k22:(Rows.theoryBodiesUptoRow.plainKeys==prog.plainKeys)=true:=by kernel_rfl
theorem k23:Rows.theoryBodiesUptoRow.shortTexts.isNone=true:=by kernel_rfl
theorem k26:(Rows.theoryBodiesUptoRow.lifted==prog.liftsFinal)=true:=by kernel_rfl
theorem k27:(prog.make==some Rows.theoryBodiesUptoRow.make)=true:=by kernel_rfl
theorem k28:(Rows.theoryBodiesUptoRow.kinds==if Rows.theoryBodiesUptoRow.domain.isEmpty then[] else Tryz.f5.params.toList.map λt=>match prog.underlying t with|some (.int k)=>some k|_=>none)=true:=by kernel_rfl
theorem k29:(Rows.theoryBodiesUptoRow.pinned==Rows.theoryBodiesUptoRow.pinnedBy)=true:=by kernel_rfl
theorem k30:((Rows.theoryBodiesUptoRow.veiled==(Tryz.f5.params.toList++(Rows.OpenSpec.upto Rows.theoryBodiesSpec).bare.plain.varTypes prog++Tryz.f5.resultTypes.toList).any (prog.veiledRec ·)))=true:=by kernel_rfl
theorem k31:Rows.theoryBodiesUptoRow.veiledFits prog Tryz.f5.params.toList (Tryz.f5.params.toList++(Rows.OpenSpec.upto Rows.theoryBodiesSpec).bare.plain.varTypes prog++Tryz.f5.resultTypes.toList)=true:=by kernel_rfl
end TheoryBodies
section
attribute [local irreducible] ao aF D H
def aqx:=aD func310 call310
def alX:List Nat:=[0,2]
def aqy:=aD func311 call311
def alY:List Nat:=[0,2]
def aqz:=aD func329 call329
def Sy:List Nat:=[1,0,4,6,12]
def af2:=aD func312 call312
def vO:List Nat:=[2,1,0,20,8,6,7,11,19,33,38,43,22,27,50]
def af3:=aD func277 call277
def vP:List Nat:=[1,9,5,7,2,3,0,10,15,18,34,44,55,4,6]
def mX(p:Int×Int):AV:=.aJ [iv p.1,iv p.2]
def kR(p:Int×Int):Pure (mX p):=.aJ (wO .v .v)
theorem jQ{a b:Int}{p:Int×Int}(h:p=(a,b)):aH S (.aJ [.v (.int .i64 a),.v (.int .i64 b)]) (mX p):=by subst h;exact .refl _
theorem Pa(x:Int):ab Y 310 [iv x] (.v (.bool (iM x))):=by
 refine st aqx alX .v ?_;repeat' first|refine cg alX (λa=>?_) λa=>?_|refine fq ?_
 all_goals refine aL ?_;unfold iM;simp_all;try omega
theorem af4(s:ByteArray):ab Y 311 [.v (.string s)] (.v (.bool (eR s))):=by
 refine st aqy alY .v ?_;repeat' first|refine cg alY (λa=>?_) λa=>?_|refine fq ?_
 all_goals refine aH.of_eq ?_;simp_all[eR]
theorem ahY(a b:Int)(g:b≠0)(h1:-2147483648<=a)(h2:a<=2147483648)(h3:-2147483648<=b)(h4:b<=2147483648):ab Y 329 [iv a,iv b] (iv (a.fdiv b)):=by
 let⟨R,d⟩:=aq (a.fdiv b);rw[<-d];have c:(0-a).fdiv (0-b)=a.fdiv b:=by rw[dh_,dh_];exact Int.neg_fdiv_neg a b
 refine st aqz Sy .v ?_;repeat' first|refine H.int rfl (D.alG rfl rfl X X X) λq e=>?_;have h:=qbd e X X;refine Z Sy ?_|refine ig Sy (D.aqi rfl X X) λ_ _=>?_|refine cg Sy (λf=>?_) λf=>?_|refine ag Sy λ_ _=>?_|refine fq ?_
 all_goals first|subst_vars;refine dx ?_;rw[<-c];exact fl1 X X|subst_vars;refine dx ?_;exact fl1 X X|subst_vars;refine dx ?_;rw[<-c,dh_ (Int.tdiv _ _)];exact fl2 X X|subst_vars;refine dx ?_;rw[dh_ (Int.tdiv _ _)];exact fl2 X X
theorem adx(n:ByteArray)(a b:Int)(r:eR n=true):ab Y 312 [.v (.string n),iv a,iv b] (mX (Oa n a b)):=by
 have e:=af4 (Y:=Y) n;rw[r]at e;have f:=Pa (Y:=Y) a;have g:=Pa (Y:=Y) b;have j:=wT (n:=a);have k:=wT (n:=b);let⟨A,l⟩:=aq (iM a);let⟨B,m⟩:=aq (iM b);rw[<-l]at f j;rw[<-m]at g k;have s:∀x,ab Y 310 [iv x] (.v (.bool (iM x))):=λx=>Pa x;let⟨R,c⟩:=aq (Oa n a b);rw[<-c];unfold Oa at c;rw[<-l,<-m]at c;clear l m;by_cases w:A=true/\B=true;rotate_left
 ·rw[if_pos I]at c;refine st af2 vO (kR _) ?_;repeat' first|refine bg vO (pl e) (λ_=>?_) λ_=>?_|refine bg vO (pl f) (λ_=>?_) λ_=>?_|refine bg vO (pl g) (λ_=>?_) λ_=>?_|refine cg vO (λo=>?_) λo=>?_|refine fq ?_
  all_goals first|exact jQ c|exfalso;simp_all
 obtain⟨rfl,rfl⟩:=w;let⟨t,u⟩:=j.1 rfl;let⟨y,z⟩:=k.1 rfl;clear j k;rw[if_neg aC]at c;let⟨F,i⟩:=aq (a.fdiv b);have v:b≠0->ab Y 329 [iv a,iv b] (iv F):=λh=>by rw[i];exact ahY a b h t u y z
 have p:b≠0->-2147483649<=F/\F<=2147483648:=λh=>by rw[i];exact Vu h t u
 let⟨P,d⟩:=aq (N_ n a b);rw[<-d]at c;rw[alI,<-i]at d;clear i;have E:n.toList=[43]\/n.toList=[45]\/n.toList=[42]\/n.toList=[47]\/n.toList=[37]:=by grind[eR,Oh]
 clear r;simp only[Oh]at d;have fin:∀x,P=(x,0)->∀{S:ah},(iM x=true->aH S (.aJ [.v (.int .i64 x),.v (.int .i64 0)]) (mX R))/\(iM x=false->aH S (.aJ [.v (.int .i64 0),.v (.int .i64 5)]) (mX R)):=λx G S=>by grind[jQ]
 refine st af2 vO (kR _) ?_;repeat' first|refine bg vO (pl e) (λ_=>?_) λ_=>?_|refine bg vO (pl f) (λ_=>?_) λ_=>?_|refine bg vO (pl g) (λ_=>?_) λ_=>?_|refine H.int rfl (D.adk rfl rfl X X X X) λq C=>?_;have J:=mbd C X X X X;refine Z vO ?_|apply a8 vO (v I)|refine bg vO (pl (s _)) (λ_=>?_) λ_=>?_|refine cg vO (λo=>?_) λo=>?_|refine ag vO λ_ _=>?_|refine fq ?_
 all_goals clear e f g s v p
 all_goals try simp only[Oh]at*
 all_goals first|refine(fin _ ?_).1 I;clear fin c;rw[d];simp_all;done|refine(fin _ ?_).2 I;clear fin c;rw[d];simp_all;done|refine jQ ?_;clear fin;rw[c,d];simp_all;done
theorem ahZ(n:Nat):∀x:Tm,cP x<=n->ab Y 277 [tm O x] (mX (pD x)):=by induction n with|zero=>intro x h;have:=fL x;omega|succ m r =>
  intro x d;rw[fL]at d;let⟨R,b⟩:=aq (pD x);rw[<-b];let⟨k,i,n,a⟩:=x;rw[pD]at b;simp only at d;have s:=Pa (Y:=Y) i;have g:=af4 (Y:=Y) n;let⟨E,A⟩:=aq (iM i);let⟨z,t⟩:=aq (eR n);rw[<-A]at s b;rw[<-t]at g b;by_cases B:k=2/\a.length=2/\z=true;rotate_left
  ·clear r d t;refine st af3 vP (kR _) ?_;repeat' first|refine bg vP (pl s) (λ_=>?_) λ_=>?_|refine bg vP (pl g) (λ_=>?_) λ_=>?_|refine cg vP (λw=>?_) λw=>?_|refine lg vP λm F=>?_|refine fq ?_
   all_goals clear s g
   all_goals first|refine jQ ?_;rw[b];simp_all;done|exfalso;apply B;refine⟨X,X,I⟩
  obtain⟨rfl,C,rfl⟩:=B;rw[if_neg X,if_neg X,if_pos ⟨rfl,C,rfl⟩]at b;match a,C with
  |[x,y],_ =>
  simp only[bG]at d;have j:=r x X;have o:=r y X;have c:=λp q=>adx (Y:=Y) n p q t.symm;clear r d t A;simp only[acX]at b;let⟨⟨p,e⟩,G⟩:∃P,P=pD x:=⟨_,rfl⟩;let⟨⟨q,f⟩,J⟩:∃Q,Q=pD y:=⟨_,rfl⟩;rw[<-G]at j b;rw[<-J]at o b;simp only at b;have c:=c p q;let⟨⟨u,v⟩,K⟩:∃V,V=Oa n p q:=⟨_,rfl⟩;rw[<-K]at c b;rw[mX]at j o c;simp only at j o c;refine st af3 vP (kR _) ?_;repeat' first|refine bg vP (pl g) (λ_=>?_) λ_=>?_|refine og vP (D.ind rfl rfl (cD (l:=[x,y]) (k:=0) rfl rfl) cE) ?_|refine og vP (D.ind rfl rfl (cD (l:=[x,y]) (k:=1) rfl rfl) cE) ?_|apply a8 vP j|apply a8 vP o|apply a8 vP c|exact dF w|refine cg vP (λw=>?_) λw=>?_|refine lg vP λm F=>?_|refine fq ?_
  all_goals clear s g j o c
  all_goals first|exfalso;simp_all;done|refine jQ ?_;rw[b];simp_all;done
def aau(x:Tm):ab Y 277 [tm O x] (mX (pD x)):=ahZ _ x (aa_ _)
end
theorem VD{G:Nat->Option Ob}:∀{W:List (Nat×Option Ob)},(∀p∈W,G p.1=p.2)->eH G W=G|[],_=>rfl|p::W,h=>by rw[eH,VD λq a=>h q I];funext j;by_cases e:j=p.1;grind[aG];rw[aP _ _ e]
section
variable{args:List AV}{N:Nat}
theorem bm.Pb{fq:QO}{b:List QO}(x:aF P Y f args (aw so N) r (aw so N))(h:fp (fq.ev U.tm) (b.map (·.ev U.tm))=some (f,args))(y:N<=B)(hs:B_ so N)(z:iI S so)(A:∀j,j<N->∃o,fJ so j=some o)(C:∀a∈args,eE N a)(E:eE N r):bm P Y B (.call fq b) U S r ⟨so,[],false⟩:=by
 intro n o i;let⟨c,u,L,l,F,d⟩:=mC i;refine⟨λm=>by grind[sV,qv],z,λT G s M=>?_⟩;have v:∀q∈(.call c:Op).operands,(U.only (dW o)).ev q=U.ev q:=λq J=>gL λt Q=>gM I;have K:fp (fq.ev (U.only (dW o)).tm) (b.map (·.ev (U.only (dW o)).tm))=some (f,args):=by rw[<-h,F,d,aU,aU,jL,jL,v u (show u∈c.operands by simp[Call.operands,l])];congr 1;exact aQ_ λq J=>v q (show q∈c.operands by simp[Call.operands,l];exact .inr I)
 have k:=(D.call (dr:=false) K (x.here (T:=T) (az_ y G) hs (λj o g=>s (j,o) (fW g)) hs C E false) λe=>I) n o i;have e:ff T (wl so N) false=T:=by rw[gQ,VD];rw[y8];rfl;intro p m;obtain⟨j,g,rfl⟩:=aB_.1 m;let⟨ob,w⟩:=A j (aU_.1 g);simp only;rw[w];exact s (j,ob) (fW w)
 rw[e]at k;rw[gQ];exact k
end
section
attribute [local irreducible] ao aF D H
def aqA:=aD func347 call347
def uh:List Nat:=[5,0,4,12,1,34]
def aqB:=aD func348 call348
def Ch:List Nat:=[6,0,5,4,13,1,51]
def rU(O:Hd)(x:Tm×List Nat):List AV:=[iv x.1.k,iv x.1.i,.v (.string x.1.n),aY O dz false x.2]
def jd(O:Hd)(N:aT):Ob:=.arr 4 (O.h (List.map (rU O)) N) 0 false
def BE(i j nl ul:Nat):Ob:=.arr 2 [[.gr i 4 nl,.gr j 1 ul]] 0 true
def rO(nl ul:Nat):Ob:=.arr 2 [[.gr 1 4 nl,.gr 2 1 ul]] 0 true
def rX(O:Hd)(nl ul:Nat)(N:aT)(cl:List Nat):List (Nat×Ob):=[(0,rO nl ul),(1,jd O N),(2,cU O cl)]
theorem vQ(h:2<B):kH B (rO nl ul):=λrow c a b=>by cases ak_.1 c;simp only[ae_,aw_,or_false]at b;rcases b with rfl|rfl;exact .gr X;exact .gr X
theorem Kb(x:Tm×List Nat):∀a∈rU O x,Pure a:=by intro a b;simp only[rU,ae_,aw_,or_false]at b;rcases b with rfl|rfl|rfl|rfl;exact .v;exact .v;exact .v;exact ew λx _ a b=>by cases ak_.1 b;exact .v
theorem Ez(N:aT):∀row∈O.h (List.map (rU O)) N,∀a∈row,Pure a:=by rw[O.eq];intro row b a c;obtain⟨x,_,rfl⟩:=aB_.1 b;exact Kb x a c
theorem pH(N:aT):kH B (jd O N):=λrow b a c=>Pure.bu (Ez N row b a c)
theorem iA(h:2<B):B_ (rX O nl ul N cl) B:=⟨λj o a=>by unfold rX at a;have:=fW a;simp only[ae_,pI_,aw_,or_false]at this;rcases this with⟨rfl,rfl⟩|⟨rfl,rfl⟩|⟨rfl,rfl⟩;grind[vQ,rO];grind[pH,jd];exact⟨X,f_ _,λJ=>by simp[cU]⟩⟩
theorem VE:∀p∈rX O nl ul N cl,fJ (rX O nl ul N cl) p.1=some p.2:=by intro p a;unfold rX at a⊢;simp only[ae_,aw_,or_false]at a;rcases a with rfl|rfl|rfl<;>rfl
theorem Ax(h0:T.get 0=some (rO nl ul):=by rfl)(h1:T.get 1=some (jd O N):=by rfl)(h2:T.get 2=some (cU O cl):=by rfl):iI T (rX O nl ul N cl):=by intro p a;unfold rX at a;simp only[ae_,aw_,or_false]at a;rcases a with rfl|rfl|rfl<;>assumption
theorem Dj(h0:T.get 0=some (rO nl ul):=by rfl)(h1:T.get 1=some (jd O N):=by rfl)(h2:T.get 2=some (cU O cl):=by rfl):∀j o,fJ (rX O nl ul N cl) j=some o->T.get j=some o:=λj o a=>Ax (h0:=h0) (h1:=h1) (h2:=h2) (j,o) (fW a)
theorem rC{M N:Nat}(a:2<M:=by decide)(h0:S.get (fh M (aX []) 0)=some (rO nl ul):=by rfl)(h1:S.get (fh M (aX []) 1)=some (jd O Nd):=by rfl)(h2:S.get (fh M (aX []) 2)=some (cU O cl):=by rfl):gK M [] N S (rX O nl ul Nd cl) :=⟨.inl ⟨_,h0,.same (vQ a)⟩,.inl ⟨_,h1,.same (pH _)⟩,.inl ⟨_,h2,.same (f_ _)⟩,trivial⟩
theorem tD{a:AV}{N:Nat}(h:0<N)(d:Pure a):∀b∈[AV.pt 0 2 0 0,a],eE N b:=by intro b c;simp only[ae_,aw_,or_false]at c;rcases c with rfl|rfl;exact .pt h;exact Pure.bu d
theorem alZ{a c:AV}{N:Nat}(h:0<N)(e:Pure a)(f:Pure c):∀b∈[AV.pt 0 2 0 0,a,c],eE N b:=by intro b d;simp only[ae_,aw_,or_false]at d;rcases d with rfl|rfl|rfl;exact .pt h;exact Pure.bu e;exact Pure.bu f
theorem Lu:∀j,j<3->∃o,fJ (rX O nl ul N cl) j=some o:=λj a=>by rcases show j=0\/j=1\/j=2 by omega with rfl|rfl|rfl<;>exact⟨_,rfl⟩
def wi:Option Nat->Int|none=>-1|some s=>s
theorem vR{t:Tm}{l:List Nat}(h:N[i]?=some (t,l)):tn N i=t/\ks N i=l:=by grind[tn,ks]
theorem mw{z:Nat}(h:cl[i]?=some z):cA cl i=z:=by grind[cA]
theorem y9(h:i<n):(List.range n).drop i=i::(List.range n).drop (i+1):=by have a:(List.range n)[i]?=some i:=List.getElem?_range h;let⟨b,c⟩:=aA_.1 a;rw[bN_ b,c]
theorem Dk(C:Nat)(B:nl=N.length)(E:ul=nl)(F:cl.length=ul)(G:nl<=1099511627776):aF prog Y 347 [.pt 0 2 0 0,iv C] (aw (rX O nl ul N cl) 3) (iv (wi (cZ N cl C))) (aw (rX O nl ul N cl) 3):=by let⟨r,d⟩:=aq (wi (cZ N cl C));rw[<-d];unfold cZ at d;let⟨g,s⟩:∃g:Int,g=C:=⟨_,rfl⟩;rw[<-s];refine sc 3 3 aqA ?_;unfold rX;refine Z uh ?_;refine bE 3 3 [] (λp=>[(0,.pt 0 2 0 0),(1,iv g),(5,iv p)]) [] (λp=>[(0,rO nl ul),(1,jd O N),(2,cU O cl)]) nl (λi=>r=wi (((List.range nl).drop i).find? λi=>decide (cA cl i=C)&&decide ((tn N i).k≠1))) I λii i j J a=>?_;clear d;refine Z uh ?_;refine ig uh (D.nt rfl) λe K=>?_;refine cn (λu=>?_) λu=>?_;have b:i<nl:=X;have v:i<ul:=X;let⟨z,m⟩:∃z,cl[i]?=some z:=⟨_,av_ X⟩;let⟨⟨t,L⟩,n⟩:∃x,N[i]?=some x:=⟨_,av_ X⟩;have c:=dv (O:=O) (f:=rU O) n;rw[rU]at c;simp only at c;rw[y9 b,cl_,mw m,(vR n).1]at a;let⟨M,P,Q,R⟩:=t;simp only at a c;let⟨o,w⟩:∃o:Int,o=z:=⟨_,rfl⟩;have q:=dv (O:=O) (f:=dz) m;rw[dz,<-w]at q;refine Z uh ?_;refine H.op rfl (D.eT rfl rfl j v) ?_;refine og uh (D.iQ rfl rfl q rfl) ?_;refine cn (λy=>?_) λy=>?_;rw[decide_eq_true (show z=C by omega),ay_]at a;refine Z uh ?_;refine H.op rfl (D.eT rfl rfl j b) ?_;refine H.op rfl (D.quiet rfl) ?_;refine og uh (D.iQ rfl rfl c rfl) ?_;refine cn (λk=>?_) λk=>?_;rw[decide_eq_true k]at a;simp only[wi]at a;subst a;rw[<-j];refine Z uh ?_;refine rG uh ?_;refine fq ?_;exact⟨[],.aK .v,rC,rfl⟩;rw[decide_eq_false λh=>h k]at a;simp only at a;refine Z uh ?_;refine ag uh λl A=>?_;exact cw l [] (i+1) a;rw[decide_eq_false (show¬z=C by omega),br_]at a;simp only at a;refine Z uh ?_;refine ag uh λl A=>?_;exact cw l [] (i+1) a;have b:i=nl:=X;rw[b,aO_ I,List.find?_nil,wi]at a;subst a;refine Z uh ?_;refine xG uh ?_;refine fq ?_;exact⟨[],.aK .v,rC,rfl⟩
theorem VF(C:Nat)(o:nl=N.length)(A:ul=nl)(B:cl.length=ul)(j:nl<=1099511627776):aF prog Y 348 [.pt 0 2 0 0,iv C] (aw (rX O nl ul N cl) 3) (iv (fy N cl C)) (aw (rX O nl ul N cl) 3):=by
 let⟨r,b⟩:=aq (fy N cl C);rw[<-b];unfold fy at b;rw[<-o]at b;let⟨g,q⟩:∃g:Int,g=C:=⟨_,rfl⟩;rw[<-q];refine sc 3 3 aqB ?_;unfold rX;refine Z Ch ?_;refine cr (τ:=Int) 3 3 [] (λp=>[(0,.pt 0 2 0 0),(1,iv g),(5,iv p.2),(6,iv p.1)]) [] (λp=>[(0,rO nl ul),(1,jd O N),(2,cU O cl)]) nl (λi p=>r=CX N cl C ((List.range nl).drop i) p.2) (-1) I ?_;rintro ii i v h F a;simp only at h a;clear b;refine Z Ch ?_;refine ig Ch (D.nt rfl) λe G=>?_;refine cn (λs=>?_) λs=>?_
 ·have c:i<nl:=X;have u:i<ul:=X;let⟨z,k⟩:∃z,cl[i]?=some z:=⟨_,av_ X⟩;let⟨⟨t,J⟩,l⟩:∃x,N[i]?=some x:=⟨_,av_ X⟩;have d:=dv (O:=O) (f:=rU O) l;rw[rU]at d;simp only at d;rw[y9 c,CX,mw k,(vR l).1]at a;let⟨K,w,L,M⟩:=t;simp only at a d;let⟨m,y⟩:∃m:Int,m=z:=⟨_,rfl⟩;have n:=dv (O:=O) (f:=dz) k;rw[dz,<-y]at n;refine Z Ch ?_;repeat' first|refine H.op rfl (D.eT rfl rfl h u) ?_;refine og Ch (D.iQ rfl rfl n rfl) ?_|refine H.op rfl (D.eT rfl rfl h c) ?_;refine H.op rfl (D.quiet rfl) ?_;refine og Ch (D.iQ rfl rfl d rfl) ?_|refine cg Ch (λj=>?_) λj=>?_|refine ag Ch λ_ _=>?_
  all_goals first|rw[if_pos (by refine⟨X,I,?_⟩;first|exact .inl I|exact .inr I)]at a;refine H.bO (_,w) [] ?_ ?_ cz;grind;simp only;omega|rw[if_neg I]at a;refine H.bO (_,v) [] ?_ ?_ cz;grind;simp only;omega
 have c:i=nl:=X;rw[c,aO_ I,CX]at a;subst a;refine Z Ch ?_;refine xG Ch ?_;refine fq ?_;exact⟨[],.aK .v,rC,rfl⟩
def aqC:=aD func344 call344
def fD:List Nat:=[0,3,5,7,6,4,1,10,17,41,54]
theorem Ot:∀(N:aT)(l:List Tm)(x:Tm),(cu N (l++[x])).1=(b_ (cu N l).1 x).1/\(cu N (l++[x])).2=(cu N l).2++[(b_ (cu N l).1 x).2]|N,[],x=>by grind[cu]|N,y::l,x=>by simp only[aP_,cu];let⟨a,b⟩:=Ot (b_ N y).1 l x;exact⟨a,I⟩
theorem Hl:∀(N:aT)(l:List Tm),(cu N l).2.length=l.length|N,[]=>rfl|N,x::l=>by rw[cu];simp only[aC_];rw[Hl]
def qF(cl:List Nat)(n m:Nat):List Nat:=cl++List.range' n (m-n)
theorem Kc(cl:List Nat)(n:Nat):qF cl n n=cl:=by grind[qF]
theorem uQ(h:cl.length=n)(a:n<=m):(qF cl n m).length=m:=by grind[qF]
theorem BF{q:Nat}(h:n<=m)(k:m<=q):qF (qF cl n m) m q=qF cl n q:=by unfold qF;rw[bn_];congr 1;have:=List.range'_append (s:=n) (m:=m-n) (n:=q-m) (step:=1);rw[bx_,show n+(m-n)=m by omega]at this;rw[this];congr 1;omega
theorem Sz(h:n<=m):qF cl n m++[m]=qF cl n (m+1):=by
 have:=BF (cl:=cl) h (show m<=m+1 by omega);rw[<-this];conv=>rhs;unfold qF
 congr 1;rw[show m+1-m=1 by omega];rfl
def rY(O:Hd)(nl ul:Nat)(N:aT)(cl:List Nat):List (Nat×Ob):=[(0,BE 3 4 nl ul),(3,jd O N),(4,cU O cl)]
def rZ(O:Hd)(i j nl ul:Nat)(N:aT)(cl:List Nat):List (Nat×Ob):=[(0,BE i j nl ul),(i,jd O N),(j,cU O cl)]
def rW(O:Hd)(a i j nl ul:Nat)(N:aT)(cl:List Nat):List (Nat×Option Ob):=[(0,some (BE (a+3) (a+4) nl ul)),(i,none),(j,none),(a,none),(a+1,none),(a+2,none),(a+3,some (jd O N)),(a+4,some (cU O cl))]
theorem Hm(h0:T.get 0=some (BE i j nl ul):=by rfl)(h1:T.get i=some (jd O N):=by rfl)(h2:T.get j=some (cU O cl):=by rfl):iI T (rZ O i j nl ul N cl):=by intro p a;unfold rZ at a;simp only[ae_,aw_,or_false]at a;rcases a with rfl|rfl|rfl<;>assumption
theorem rZN(h:iI T (rZ O i j nl ul N cl)):kY (aX [(1,i),(2,j)]) 3 T (rX O nl ul N cl):=by have a:T.get 0=some (BE i j nl ul):=h (0,BE i j nl ul) (by simp[rZ]);have b:T.get i=some (jd O N):=h (i,jd O N) (by simp[rZ]);have c:T.get j=some (cU O cl):=h (j,cU O cl) (by simp[rZ]);exact⟨⟨_,a,.row ⟨.gr rfl rfl,.gr rfl rfl,trivial⟩⟩,⟨_,b,.pure (Ez _)⟩,⟨_,c,.pure (qj _)⟩,trivial⟩
def rWB{a:Nat}:iB (dV (aX [(1,i),(2,j)]) 3 a) (rY O nl ul N cl) (rW O a i j nl ul N cl) :=⟨⟨0,_,rfl,rfl,.row ⟨.gr rfl,.gr rfl,trivial⟩⟩,⟨3,_,rfl,rfl,.pure (Ez _)⟩,⟨4,_,rfl,rfl,.pure (qj _)⟩,trivial⟩
theorem rCY(h0:S.get 0=some (BE i j nl ul):=by rfl)(h1:S.get i=some (jd O Nd):=by rfl)(h2:S.get j=some (cU O cl):=by rfl):gK 3 [(3,i),(4,j)] 5 S (rY O nl ul Nd cl) :=⟨.inl ⟨_,h0,.arr (by exact⟨⟨.jI rfl rfl,.jI rfl rfl,trivial⟩,trivial⟩)⟩,.inl ⟨_,h1,.same (pH _)⟩,.inl ⟨_,h2,.same (f_ _)⟩,trivial⟩
theorem wV(c:fT N)(d:sQ N)(e:fe a)(f:lA a)(m:Nat):fT (cu N (a.take m)).1/\sQ (cu N (a.take m)).1/\N.length<=(cu N (a.take m)).1.length/\(cu N (a.take m)).1.length<=N.length+bG (a.take m):=by let⟨b,_,_⟩:=Kd N (a.take m) c (N6 e m);let⟨g,h⟩:=DS N (a.take m) d (N7 f m);exact⟨b.g,g,b.le,h⟩
theorem SA{y:Tm}(g:fT N)(h:sQ N)(b:fe a)(d:lA a)(f:a[m]?=some y):eY y/\kN y/\(cu N (a.take m)).1.length+cP y<=N.length+bG a/\(cu N (a.take (m+1))).1=(b_ (cu N (a.take m)).1 y).1/\(cu N (a.take (m+1))).2=(cu N (a.take m)).2++[(b_ (cu N (a.take m)).1 y).2]/\(cu N (a.take m)).1.length<=(b_ (cu N (a.take m)).1 y).1.length:=by let⟨i,n,o,p⟩:=wV g h b d m;have c:=am_ f;have e:=Ie f;let⟨q1,j⟩:=Ot N (a.take m) y;have k:=GU a (m+1);rw[e,Qd]at k;rw[e];let⟨l,_,_⟩:=sy (cu N (a.take m)).1 y i (b.mem y c);exact⟨b.mem y c,d.mem y c,X,q1,j,l.le⟩
theorem VG(sz:Nat):∀(N:aT)(cl:List Nat)(t:Tm),cP t<=sz->fT N->sQ N->eY t->kN t->cl.length=N.length->N.length+cP t<=100000000000 ->aF prog Y 344 [.pt 0 2 0 0,tm O t] (aw (rX O N.length N.length N cl) 3) (iv (b_ N t).2) (aw (rY O (b_ N t).1.length (b_ N t).1.length (b_ N t).1 (qF cl N.length (b_ N t).1.length)) 5):=by induction sz with|zero=>intro N cl t h;exfalso;let⟨k,i,n,a⟩:=t;rw[cP]at h;omega|succ sz ih =>
  rintro N cl⟨k,i,n,a⟩bS G J hw ha iR hB;rw[kN]at ha;have K:fe a:=by rw[eY]at hw;split at hw;rw[hw.2,fe];trivial;exact hw.1
  have L:lA a:=ha.2.2;rw[cP]at bS hB;let⟨N',b⟩:=aq (b_ N ⟨k,i,n,a⟩).1;let⟨res,r⟩:=aq (b_ N ⟨k,i,n,a⟩).2;rw[<-b,<-r];rw[b_]at b r;let⟨nl,dL⟩:=aq N.length;let⟨n2,eC⟩:=aq N'.length;let⟨dw,Ke⟩:=aq (qF cl nl n2);rw[<-dL,<-eC,<-Ke];have hle:∀m,N.length<=(cu N (a.take m)).1.length:=λm=>(wV G J K L m).2.2.1;have FJ:∀{x:aT},x=(cu N a).1->N'=x++[(⟨k,i,n,a⟩,(cu N a).2)]->n2=x.length+1/\nl<=x.length:=λ{x}h1 h2=>by have:=hle a.length;rw[aW_ (aa_ _),<-h1]at this;exact⟨by rw[eC,h2,ar_,be_],X⟩
  let⟨ki,mM⟩:∃ki:Int,ki=k:=⟨_,rfl⟩;refine sc 3 5 aqC ?_;unfold rX;refine Z fD ?_;refine cn (λhb=>?_) λhb=>?_
  ·subst hb;simp only[if_true]at b r;refine Z fD ?_;refine bE 4 4 [] (λp=>[(0,.pt 0 2 0 0),(3,.pt 3 4 0 0),(4,iv 0),(5,iv p)]) [] (λp=>[(0,rO nl nl),(1,jd O N),(2,cU O cl),(3,.arr 4 [ld O ⟨1,i,n,a⟩] 0 true)]) nl (λj=>oC N i=((N.drop j).findIdx? λx=>x.1.k==1&&x.1.i==i).map (·+j)) (by rw[bC_];show _=Option.map (λx=>x+0) (oC N i);cases oC N i<;>rfl) λjj j VH MZ v=>?_;refine Z fD ?_;refine ig fD (D.nt rfl) λe he=>?_;refine cn (λbK=>?_) λbK=>?_
   ·have na:j<nl:=X;let⟨⟨t,kl⟩,hNj,hNd⟩:=aA (show j<N.length by omega);have F:=dv (O:=O) (f:=rU O) hNj;rw[rU]at F;simp only at F;rw[hNd,List.findIdx?_cons]at v;let⟨tk,ti,Ja,ta⟩:=t;simp only at v F;refine Z fD ?_;repeat' first|refine H.op rfl (D.eT rfl rfl VH na) ?_;refine H.op rfl (D.quiet rfl) ?_;refine og fD (D.iQ rfl rfl F rfl) ?_|refine cg fD (λhb=>?_) λhb=>?_|refine ag fD λ_ _=>?_|refine rG fD ?_|refine fq ?_
    all_goals first
     |(have hc:(tk==1&&ti==i)=true:=by rw[as_,beq_iff_eq,beq_iff_eq];exact⟨I,I⟩
       rw[hc]at v;simp only[if_true,aK_,aH_]at v;rw[v]at b r;simp only at b r;subst b r;rw[<-dL]at eC;subst eC;rw[Kc]at Ke;subst Ke;rw[<-VH];exact⟨[(3,1),(4,2)],.aK .v,rCY,rfl⟩)
     |(have hc:(tk==1&&ti==i)=false:=by first|rw[show(tk==1)=false by rw[beq_eq_false_iff_ne];assumption];rfl|rw[show(ti==i)=false by rw[beq_eq_false_iff_ne];assumption,bO_]
       rw[hc]at v;simp only[bw_,if_false,Option.map_map]at v;refine H.bO _ [] ?_ ?_ cz;refine⟨j+1,X,X,?_⟩;rw[v];congr 1;funext x;simp only[Function.comp];omega;omega)
   have na:j=N.length:=X;rw[na,aO_ (aa_ _)]at v;simp only[List.findIdx?_nil,bs_]at v;rw[v]at b r;simp only at b r;refine Z fD ?_;refine xG fD ?_;refine cr (τ:=aT×List Nat×List Nat×Nat×Nat) 5 8 [(5,1),(6,2)] (λp=>[(0,.pt 0 2 0 0),(3,.pt 3 4 0 0),(4,iv 0),(6,.pt 4 4 0 0),(7,iv p.1)]) [] (λp=>[(0,BE 5 6 p.2.2.2.2.2 p.2.2.2.2.2),(5,jd O p.2.1),(6,cU O p.2.2.1),(3,.arr 4 [ld O ⟨1,i,n,a⟩] 0 true),(4,.arr 4 [[iv 1,iv i,.v (.string n),.gr 7 1 p.2.2.2.2.1]] 0 true),(7,.arr 1 (O.h (List.map dz) p.2.2.2.1) 0 false)]) a.length (λm p=>p.2.1=(cu N (a.take m)).1/\p.2.2.1=qF cl nl p.2.1.length/\p.2.2.2.1=(cu N (a.take m)).2/\p.2.2.2.2.1=p.2.2.2.1.length/\p.2.2.2.2.2=p.2.1.length) (N,cl,[],0,nl) ⟨by simp[cu],by simp only;rw[dL,Kc],by simp[cu],rfl,dL⟩ ?_;rintro mi m⟨A,M,rl,kl,d⟩hm Eg⟨g,s,u,B,o⟩;simp only at hm Eg g s u B o;refine Z fD ?_;refine lg fD λq hq=>?_;refine cn (λbK=>?_) λbK=>?_;have P:m<a.length:=X;let⟨y,Q⟩:∃y,a[m]?=some y:=⟨_,av_ P⟩;let⟨e1,C,e3,R⟩:=wV G J K L m;let⟨e5,S,e7,V,E,w⟩:=SA G J K L Q;rw[<-g]at e1 C e3 R e7 V E w;rw[<-u]at E;have ey:cP y<=bG a:=lC y (am_ Q);have c:=ih A M y X e1 C e5 S (by rw[s];exact uQ X X) X;let⟨W,om⟩:=aq (b_ A y).1;let⟨F,v8⟩:=aq (b_ A y).2;rw[<-om]at c V w;rw[<-v8]at c E;let⟨z,jb⟩:=aq W.length;let⟨c2,dI⟩:=aq (qF M d z);rw[<-o,<-jb,<-dI]at c;have ady:c2=qF cl nl z:=by rw[dI,s,<-o];exact BF X X
   have RD:kl<=6:=by rw[B,u,Hl,bb_];omega
   clear om v8;refine Z fD ?_;refine H.eM rfl (λT=>D.ind rfl rfl (cD (l:=a) hm Q) cE) ?_;refine Z fD ?_;refine H.gG rfl (bm.mo [(1,5),(2,6)] (rZ O 5 6 d d A M) (rW O 8 5 6 z z W c2) c rfl ⟨.pt rfl rfl,.pure (bI y),trivial⟩ (.pure .v) Hm (λT hT=>rZN hT) rWB) ?_;refine Z fD ?_;refine H.Lf F (f:=dz) rfl rfl rfl B (λ_=>rfl) rfl rfl rfl X λRE RF RG J3=>?_;refine Z fD ?_;refine ag fD λi3 dU=>?_;exact bP (i3,W,c2,RE,RF,z) [(5,11),(6,12),(7,24)] (m+1) ⟨V.symm,by simp only;rw[ady,jb],by simp only;rw[RG,E],J3,jb⟩;have P:m=a.length:=X;rw[P,aW_ (aa_ _)]at g u;rw[<-g,<-u]at b;rw[<-g]at r;let⟨g1,g2⟩:=FJ g (by rw[b,u]);have S:=(wV G J K L a.length).2.2.2;rw[aW_ (aa_ _),<-g]at S;refine Z fD ?_;refine H.lQ ?_;refine H.yu (H.C9 (Cv.Rs (kb:=4) (k:=7) (j:=3) (m:=kl) rfl rfl aC rfl (by rw[az];exact B)) ?_);refine Z fD ?_;refine H.iT ((⟨1,i,n,a⟩:Tm),rl) (f:=rU O) rfl rfl rfl o (λ_=>rfl) rfl rfl rfl X λN3 n3 RH nJ=>?_;have SB:n3=d+1:=by rw[nJ,RH,ar_,be_,<-o]
   refine Z fD ?_;refine ig fD (D.nt rfl) λe he=>?_;refine ag fD λC wa=>?_;refine H.iT d (f:=dz) rfl rfl rfl (by rw[s,uQ X X];exact o) (λ_=>rfl) (by rw[dz,show C=(d:Int) by omega];rfl) rfl rfl X λc3 m3 zZ KR=>?_;refine Z fD ?_;refine ig fD (D.nt rfl) λe3 he3=>?_;refine ag fD λR he4=>?_;refine fq ?_;cases(show N3=N' by rw[RH,b]);obtain rfl:n3=n2:=by rw[eC,nJ]
   obtain rfl:m3=n3:=by rw[KR,zZ,ar_,s,uQ X X];simp;omega
   obtain rfl:c3=dw:=by rw[zZ,Ke,s,<-o,Sz X,show d+1=m3 by omega]
   obtain rfl:R=(res:Int):=by rw[r];omega
   exact⟨[(3,8),(4,9)],.aK .v,rCY,rfl⟩
  rw[if_neg hb]at b r;simp only at b r;refine Z fD ?_;refine cr (τ:=aT×List Nat×List Nat×Nat×Nat) 5 8 [(5,1),(6,2)] (λp=>[(0,.pt 0 2 0 0),(3,.pt 3 4 0 0),(4,iv 0),(6,.pt 4 4 0 0),(7,iv p.1)]) [] (λp=>[(0,BE 5 6 p.2.2.2.2.2 p.2.2.2.2.2),(5,jd O p.2.1),(6,cU O p.2.2.1),(3,.arr 4 [ld O ⟨k,i,n,a⟩] 0 true),(4,.arr 4 [[iv k,iv i,.v (.string n),.gr 7 1 p.2.2.2.2.1]] 0 true),(7,.arr 1 (O.h (List.map dz) p.2.2.2.1) 0 false)]) a.length (λm p=>p.2.1=(cu N (a.take m)).1/\p.2.2.1=qF cl nl p.2.1.length/\p.2.2.2.1=(cu N (a.take m)).2/\p.2.2.2.2.1=p.2.2.2.1.length/\p.2.2.2.2.2=p.2.1.length) (N,cl,[],0,nl) ⟨by simp[cu],by simp only;rw[dL,Kc],by simp[cu],rfl,dL⟩ ?_;rintro mi m⟨A,M,rl,kl,d⟩hm Eg⟨g,s,u,B,o⟩;simp only at hm Eg g s u B o;refine Z fD ?_;refine lg fD λq hq=>?_;refine cn (λbK=>?_) λbK=>?_;have P:m<a.length:=X;let⟨y,Q⟩:∃y,a[m]?=some y:=⟨_,av_ P⟩;let⟨e1,C,e3,R⟩:=wV G J K L m;let⟨e5,S,e7,V,E,w⟩:=SA G J K L Q;rw[<-g]at e1 C e3 R e7 V E w;rw[<-u]at E;have ey:cP y<=bG a:=lC y (am_ Q);have c:=ih A M y X e1 C e5 S (by rw[s];exact uQ X X) X;let⟨W,om⟩:=aq (b_ A y).1;let⟨F,v8⟩:=aq (b_ A y).2;rw[<-om]at c V w;rw[<-v8]at c E;let⟨z,jb⟩:=aq W.length;let⟨c2,dI⟩:=aq (qF M d z);rw[<-o,<-jb,<-dI]at c;have ady:c2=qF cl nl z:=by rw[dI,s,<-o];exact BF X X
  have RD:kl<=6:=by rw[B,u,Hl,bb_];omega
  clear om v8;refine Z fD ?_;refine H.eM rfl (λT=>D.ind rfl rfl (cD (l:=a) hm Q) cE) ?_;refine Z fD ?_;refine H.gG rfl (bm.mo [(1,5),(2,6)] (rZ O 5 6 d d A M) (rW O 8 5 6 z z W c2) c rfl ⟨.pt rfl rfl,.pure (bI y),trivial⟩ (.pure .v) Hm (λT hT=>rZN hT) rWB) ?_;refine Z fD ?_;refine H.Lf F (f:=dz) rfl rfl rfl B (λ_=>rfl) rfl rfl rfl X λRE RF RG J3=>?_;refine Z fD ?_;refine ag fD λi3 dU=>?_;exact bP (i3,W,c2,RE,RF,z) [(5,11),(6,12),(7,24)] (m+1) ⟨V.symm,by simp only;rw[ady,jb],by simp only;rw[RG,E],J3,jb⟩;have P:m=a.length:=X;rw[P,aW_ (aa_ _)]at g u;rw[<-g,<-u]at b;rw[<-g]at r;let⟨g1,g2⟩:=FJ g (by rw[b,u]);have S:=(wV G J K L a.length).2.2.2;rw[aW_ (aa_ _),<-g]at S;refine Z fD ?_;refine H.lQ ?_;refine H.yu (H.C9 (Cv.Rs (kb:=4) (k:=7) (j:=3) (m:=kl) rfl rfl aC rfl (by rw[az];exact B)) ?_);refine Z fD ?_;refine H.iT ((⟨k,i,n,a⟩:Tm),rl) (f:=rU O) rfl rfl rfl o (λ_=>rfl) rfl rfl rfl X λN3 n3 RH nJ=>?_;have SB:n3=d+1:=by rw[nJ,RH,ar_,be_,<-o]
  refine Z fD ?_;refine ig fD (D.nt rfl) λe he=>?_;refine ag fD λC wa=>?_;refine H.iT d (f:=dz) rfl rfl rfl (by rw[s,uQ X X];exact o) (λ_=>rfl) (by rw[dz,show C=(d:Int) by omega];rfl) rfl rfl X λc3 m3 zZ KR=>?_;refine Z fD ?_;refine ig fD (D.nt rfl) λe3 he3=>?_;refine ag fD λR he4=>?_;refine fq ?_;cases(show N3=N' by rw[RH,b]);obtain rfl:n3=n2:=by rw[eC,nJ]
  obtain rfl:m3=n3:=by rw[KR,zZ,ar_,s,uQ X X];simp;omega
  obtain rfl:c3=dw:=by rw[zZ,Ke,s,<-o,Sz X,show d+1=m3 by omega]
  obtain rfl:R=(res:Int):=by rw[r];omega
  exact⟨[(3,8),(4,9)],.aK .v,rCY,rfl⟩
def aqD:=aD func345 call345
def eW:List Nat:=[0,12,13,11,14,7,8,9,10,6,1,2,31,44,55,68,110,115,130]
theorem adz{f:Nat->Nat}{z:Nat}(h:cl[i]?=some z):((cl.take i).map f++cl.drop i).set i (f z)=(cl.take (i+1)).map f++cl.drop (i+1)/\(f z=z->(cl.take i).map f++cl.drop i=(cl.take (i+1)).map f++cl.drop (i+1))/\((cl.take i).map f++cl.drop i)[i]?=some z:=by
 let⟨a,b⟩:=aA_.1 h;have c:cl.drop i=z::cl.drop (i+1):=by rw[bN_ a,b]
 have d:cl.take (i+1)=cl.take i++[z]:=Ie h;have g:((cl.take i).map f).length=i:=I;refine⟨?_,λe=>?_,?_⟩;rw[c,da_ _ _ X,g,cx_,List.set_cons_zero,d,aZ_];simp;grind;grind
theorem adA{a b:List Nat}{x y:Nat}(c:a[j]?=some x)(d:b[j]?=some y):(a.zip b).drop j=(x,y)::(a.zip b).drop (j+1):=by grind[G1]
theorem Lv{f:List Nat->Nat->Nat->Option (Bool×List Nat)}(d:∀{cl a b r c},f cl a b=some (r,c)->c.length=cl.length):∀{l:List (Nat×Nat)}{cl c:List Nat}{r:Bool},rH f l cl=some (r,c)->c.length=cl.length|[],cl,c,r,h=>by grind[rH]|p::l,cl,c,r,h=>by rw[rH]at h;split at h;grind;grind;rename_i g e;rw[Lv d h,d e]
theorem y_{N:aT}:∀{m:Nat}{cl c:List Nat}{a b:Nat}{r:Bool},lx N m cl a b=some (r,c)->c.length=cl.length
 |0,_,_,_,_,_,h=>by cases h|m+1,cl,c,a,b,r,h=>by
  have d:∀x y,(DW cl x y).length=cl.length:=λx y=>by grind[DW]
  rw[lx]at h;split at h;split at h;grind;split at h;split at h;rw[Lv y_ h,d];grind;grind;grind
theorem al1(hN:CE N)(dL:nl=N.length)(tz:nl<=100000000000):∀(m:Nat){cl n:List Nat}{a b:Nat}{r:Bool},cl.length=nl->lx N m cl a b=some (r,n) ->aF prog Y 345 [.pt 0 2 0 0,iv a,iv b] (aw (rX O nl nl N cl) 3) (.v (.bool r)) (aw (rX O nl nl N n) 3):=by intro m;induction m with|zero=>intro cl n a b r _ h;cases h|succ m ih =>
  intro cl n a b r iR h;have Ke:=y_ h;rw[lx]at h;split at h;rotate_left;grind;rename_i uF;let⟨k,Hi⟩:∃z,cl[a]?=some z:=⟨_,av_ X⟩;let⟨B,G⟩:∃z,cl[b]?=some z:=⟨_,av_ X⟩;rw[mw Hi,mw G]at h;have ra:=dv (O:=O) (f:=dz) Hi;have rb:=dv (O:=O) (f:=dz) G;have sa:=Dk (Y:=Y) (O:=O) (N:=N) (cl:=cl) k dL rfl iR X;have sb:=Dk (Y:=Y) (O:=O) (N:=N) (cl:=cl) B dL rfl iR X;let⟨ai,pV⟩:∃ai:Int,ai=a:=⟨_,rfl⟩;let⟨bi,Vi⟩:∃bi:Int,bi=b:=⟨_,rfl⟩;let⟨xi,GQ⟩:∃xi:Int,xi=k:=⟨_,rfl⟩;let⟨yi,GR⟩:∃yi:Int,yi=B:=⟨_,rfl⟩;have eg:a<nl:=X;have bK:b<nl:=X;rw[dz,<-GQ]at ra;rw[dz,<-GR]at rb;rw[<-GQ]at sa;rw[<-GR]at sb;rw[<-pV,<-Vi];refine sc 3 3 aqD ?_;unfold rX;refine Z eW ?_;refine H.op rfl (D.eT rfl rfl pV eg) ?_;refine og eW (D.iQ rfl rfl ra rfl) ?_;refine H.op rfl (D.eT rfl rfl Vi bK) ?_;refine og eW (D.iQ rfl rfl rb rfl) ?_;refine cn (λb9=>?_) λb9=>?_;rw[if_pos X]at h;simp only[oI_,pI_]at h;obtain⟨rfl,rfl⟩:=h;refine Z eW ?_;refine fq ?_;exact⟨[],.aK .v,rC,rfl⟩;rw[if_neg X]at h;let⟨si,C⟩:=aq (wi (cZ N cl k));let⟨ti,E⟩:=aq (wi (cZ N cl B));rw[<-C]at sa;rw[<-E]at sb;let⟨f,hf⟩:∃f:Nat->Nat,f=λz=>if z=B then k else z:=⟨_,rfl⟩;let⟨c2,dI⟩:=aq (DW cl k B);have J:c2=cl.map f:=by rw[dI,hf];rfl
  have ayX:c2.length=nl:=I;rw[<-dI]at h;refine Z eW ?_;refine og eW (D.jA sa rfl (ax_ rfl) (iA aC) Dj (iA aC) (tD aC .v) .v) ?_;refine og eW (D.jA sb rfl (ax_ rfl) (iA aC) Dj (iA aC) (tD aC .v) .v) ?_;refine cr (τ:=List Nat) 3 3 [] (λp=>[(0,.pt 0 2 0 0),(7,iv xi),(8,iv yi),(9,iv si),(10,iv ti),(11,iv p.1)]) [] (λp=>[(0,rO nl nl),(1,jd O N),(2,cU O p.2)]) nl (λi p=>p.2.length=nl/\p.2=(cl.take i).map f++cl.drop i) cl ⟨iR,aB⟩ ?_;rintro ii i c1 jY yq⟨o,S⟩;simp only at jY o S;refine Z eW ?_;refine ig eW (D.nt rfl) λe he=>?_;refine cn (λK=>?_) λK=>?_;have V:i<nl:=X;let⟨z,hz⟩:∃z,cl[i]?=some z:=⟨_,av_ X⟩;let⟨q1,q2,q3⟩:=adz (f:=f) hz;rw[<-S]at q1 q2 q3;have rz:=dv (O:=O) (f:=dz) q3;let⟨zi,xU⟩:∃zi:Int,zi=z:=⟨_,rfl⟩;rw[dz,<-xU]at rz;refine Z eW ?_;refine H.op rfl (D.eT rfl rfl jY V) ?_;refine og eW (D.iQ rfl rfl rz rfl) ?_;refine cn (λL=>?_) λL=>?_;have yF:f z=k:=I;rw[yF]at q1;refine Z eW ?_;refine H.op rfl (D.eT rfl rfl jY V) ?_;refine H.JG (f:=dz) (y:=k) rfl rfl rfl (by rw[dz,<-GQ];rfl) rfl (λ_=>rfl) rfl X λu hu=>?_;refine Z eW ?_;refine ag eW λM dU=>?_;exact bP (M,u) [] (i+1) ⟨I,I⟩;have yF:f z=z:=I;refine Z eW ?_;refine ag eW λM dU=>?_;exact bP (M,c1) [] (i+1) ⟨o,I⟩;have V:i=cl.length:=X;rw[V,aW_ (aa_ _),aO_ (aa_ _),aG_,<-J]at S;subst S;clear dI J;refine Z eW ?_;refine xG eW ?_;cases On:cZ N cl k with|none =>rw[On]at h C;simp only[oI_,pI_]at h;obtain⟨rfl,rfl⟩:=h;rw[wi]at C;refine cn (λK=>?_) λK=>?_;rotate_left;grind;refine Z eW ?_;refine fq ?_;exact⟨[],.aK .v,rC,rfl⟩|some s =>rw[On]at h C;rw[wi]at C;refine cn (λK=>?_) λK=>?_;grind;refine Z eW ?_;cases q:cZ N cl B with|none =>rw[q]at h E;simp only[oI_,pI_]at h;obtain⟨rfl,rfl⟩:=h;rw[wi]at E;refine cn (λL=>?_) λL=>?_;rotate_left;grind;refine Z eW ?_;refine fq ?_;exact⟨[],.aK .v,rC,rfl⟩|some t =>
    rw[q]at h E;rw[wi]at E;simp only at h;refine cn (λL=>?_) λL=>?_;grind;have fX:s<nl:=by grind[cZ]
    have Fk:t<nl:=by grind[cZ]
    let⟨⟨P,d⟩,W⟩:∃x,N[s]?=some x:=⟨_,av_ X⟩;let⟨⟨Q,l⟩,om⟩:∃x,N[t]?=some x:=⟨_,av_ X⟩;have g1:=hN _ _ _ W;have g2:=hN _ _ _ om;have v:=dv (O:=O) (f:=rU O) W;have r2:=dv (O:=O) (f:=rU O) om;rw[Qr,(vR W).1,(vR W).2,(vR om).1,(vR om).2]at h;have p1:=Kb (O:=O) (P,d);have p2:=Kb (O:=O) (Q,l);let⟨k1,i1,n1,a1⟩:=P;let⟨k2,i2,n2,a2⟩:=Q;rw[rU]at v r2 p1 p2;simp only at v r2 p1 p2 h g1 g2;clear On q;refine Z eW ?_;refine H.eM rfl (λT=>D.eT rfl rfl C fX) ?_;refine H.gG rfl (bm.iQ rfl rfl v rfl) ?_;refine Z eW ?_;refine H.eM rfl (λT=>D.eT rfl rfl E Fk) ?_;refine H.gG rfl (bm.iQ rfl rfl r2 rfl) ?_;refine Z eW ?_;refine cn (λhk=>?_) λhk=>?_;have R:(k1==k2)=false:=I;rw[R]at h;simp only[br_,bw_,if_false,oI_,pI_]at h;obtain⟨rfl,rfl⟩:=h;refine Z eW ?_;refine fq ?_;exact⟨[],.aK .v,rC,rfl⟩;have R:(k1==k2)=true:=I;rw[R]at h;refine Z eW ?_;refine cn (λeX=>?_) λeX=>?_;have R:(i1==i2)=false:=I;rw[R]at h;simp only[bO_,br_,bw_,if_false,oI_,pI_]at h;obtain⟨rfl,rfl⟩:=h;refine Z eW ?_;refine fq ?_;exact⟨[],.aK .v,rC,rfl⟩;have e1:(i1==i2)=true:=I;rw[e1]at h;refine Z eW ?_;refine cn (λCQ=>?_) λCQ=>?_;rw[decide_eq_false CQ]at h;simp only[bO_,br_,bw_,if_false,oI_,pI_]at h;obtain⟨rfl,rfl⟩:=h;refine Z eW ?_;refine fq ?_;exact⟨[],.aK .v,rC,rfl⟩;rw[decide_eq_true CQ]at h;refine Z eW ?_;refine lg eW λq1 qy=>?_;refine lg eW λq2 tj=>?_;refine cn (λU0=>?_) λU0=>?_;rw[decide_eq_false (show¬d.length=l.length by omega)]at h;simp only[bO_,bw_,if_false,oI_,pI_]at h;obtain⟨rfl,rfl⟩:=h;refine Z eW ?_;refine fq ?_;exact⟨[],.aK .v,rC,rfl⟩;have Q1:d.length=l.length:=X;rw[decide_eq_true Q1]at h;simp only[bF_,if_true]at h;have Fa:Pure (aY O dz false d):=p1 _ aB;have cM:Pure (aY O dz false l):=p2 _ aB;refine Z eW ?_;refine cr (τ:=List Nat) 5 5 [] (λp=>[(0,.pt 0 2 0 0),(12,.pt 3 4 0 0),(13,.pt 4 4 0 0),(14,iv p.1)]) [] (λp=>[(0,rO nl nl),(1,jd O N),(2,cU O p.2),(3,.arr 4 [rU O (⟨k1,i1,n1,a1⟩,d)] 0 true),(4,.arr 4 [rU O (⟨k2,i2,n2,a2⟩,l)] 0 true)]) d.length (λj p=>p.2.length=nl/\rH (lx N m) ((d.zip l).drop j) p.2=some (r,n)) c1 ⟨o,I⟩ ?_;rintro jj j c3 VH MZ⟨w,g⟩;simp only at VH w g;clear h;refine Z eW ?_;refine lg eW λq3 xI=>?_;refine cn (λrf=>?_) λrf=>?_;let⟨x,hx⟩:∃x,d[j]?=some x:=⟨_,av_ X⟩;let⟨y,hy⟩:∃y,l[j]?=some y:=⟨_,av_ X⟩;rw[adA hx hy,rH]at g;simp only at g;let⟨r1',F,A,qW⟩:∃v F,lx N m c3 x y=some (v,F)/\(v=false/\r=false/\n=F\/v=true/\rH (lx N m) ((d.zip l).drop (j+1)) F=some (r,n)):=I;have c:=ih w A;have ave:F.length=nl:=by rw[y_ A,w]
    clear g A;refine Z eW ?_;refine H.eM rfl (λT=>D.bh VH hx) ?_;refine Z eW ?_;refine H.eM rfl (λT=>D.bh VH hy) ?_;refine Z eW ?_;refine H.gG rfl (bm.jA false c rfl (.inl aC) (iA aC) Ax VE (iA aC) (alZ aC .v .v) .v) ?_;rcases qW with⟨rfl,rfl,rfl⟩|⟨rfl,g⟩;refine Z eW ?_;refine rG eW ?_;refine fq ?_;exact⟨[],.aK .v,rC,rfl⟩;refine Z eW ?_;refine ag eW λM dU=>?_;exact bP (M,F) [] (j+1) ⟨ave,g⟩;have na:j=d.length:=X;rw[aO_ I,rH]at g;simp only[oI_,pI_]at g;obtain⟨rfl,rfl⟩:=g;refine Z eW ?_;refine xG eW ?_;refine fq ?_;exact⟨[],.aK .v,rC,rfl⟩
def aqE:=aD func346 call346
def cB:List Nat:=[0,5,11,6,4,8,9,10,13,14,12,2,3,27,38,42,50,65,84,128,7,137]
def uR(q:Int×Int):List AV:=[iv q.1,iv q.2]
def Lw(O:Hd)(ms:List (Int×Int)):Ob:=.arr 2 (O.h (List.map uR) ms) 0 true
def Pc(O:Hd):Option (List (Int×Int))->AV|none=>.aJ [.sl true [],.v (.bool false)]|some ms=>.aJ [aY O uR false ms,.v (.bool true)]
def SC(q:Int×Int):∀a∈uR q,Pure a:=wO .v .v
theorem Lx(r:Option (List (Int×Int))):Pure (Pc O r):=by cases r with|none=>exact .aJ (wO (.sl λr a=>by cases a) .v)|some ms=>exact .aJ (wO (ew λx _=>SC x) .v)
theorem VI(ms:List (Int×Int)):kH B (Lw O ms):=by show∀row∈O.h (List.map uR) ms,∀a∈row,eE B a;rw[O.eq];intro row b a c;obtain⟨x,_,rfl⟩:=aB_.1 b;exact Pure.bu (SC x a c)
theorem Hn{M:Nat}(a:3<M:=by decide)(h0:S.get (fh M (aX []) 0)=some (rO nl ul):=by rfl)(h1:S.get (fh M (aX []) 1)=some (jd O Nd):=by rfl)(h2:S.get (fh M (aX []) 2)=some (cU O cl):=by rfl)(h3:S.get (fh M (aX []) 3)=some (Lw O ms):=by rfl):gK M [] M S [(0,rO nl ul),(1,jd O Nd),(2,cU O cl),(3,Lw O ms)] :=⟨.inl ⟨_,h0,.same (vQ X)⟩,.inl ⟨_,h1,.same (pH _)⟩,.inl ⟨_,h2,.same (f_ _)⟩,.inl ⟨_,h3,.same (VI _)⟩,trivial⟩
theorem mC5{a b:Int}(h0:S.get 0=some (rO nl ul):=by rfl)(h1:S.get 1=some (jd O Nd):=by rfl)(h2:S.get 2=some (cU O cl):=by rfl)(h3:S.get 3=some (Lw O ms):=by rfl)(h4:S.get 4=some (.arr 2 [[iv a,iv b]] 0 true):=by rfl):gK 5 [] 5 S [(0,rO nl ul),(1,jd O Nd),(2,cU O cl),(3,Lw O ms),(4,.arr 2 [[iv a,iv b]] 0 true)] :=⟨.inl ⟨_,h0,.same (vQ aC)⟩,.inl ⟨_,h1,.same (pH _)⟩,.inl ⟨_,h2,.same (f_ _)⟩,.inl ⟨_,h3,.same (VI _)⟩,.inl ⟨_,h4,.same Ij⟩,trivial⟩
def SD(ms:List (Int×Int)):Prop:=∀i,(0<=(fk ms i).1/\(fk ms i).1<=201)/\0<=(fk ms i).2/\(fk ms i).2<=21
theorem SD.set(h:SD ms){C:Nat}{q:Int×Int}(hC:C<ms.length)(a:(0<=q.1/\q.1<=201)/\0<=q.2/\q.2<=21):SD (ms.set C q):=λi=>by rw[JW hC];split;exact a;exact h i
theorem SE(n i:Nat):fk (List.replicate n (0,0)) i=(0,0):=by unfold fk;rw[do_];split<;>rfl
theorem Kf(h:i<ms.length):ms[i]?=some (fk ms i):=by unfold fk;rw[av_ h];rfl
theorem Xw{fu:Nat}{r:Option (List (Int×Int))}(hG:fT N)(hN:CE N)(dL:nl=N.length)(tz:nl<=100000000000)(iR:cl.length=nl)(hc:∀i,i<nl->cA cl i<nl)(h:ud N cl fu (List.replicate N.length (0,0),lB (cA cl) (List.replicate N.length (0,0)) N.length)=some r):aF prog Y 346 [.pt 0 2 0 0] (aw (rX O nl nl N cl) 3) (Pc O r) (aw (rX O nl nl N cl) 3):=by
 rw[<-dL]at h;have v7:=Lx (O:=O) r;refine sc 3 3 aqE ?_;unfold rX;refine Z cB ?_;refine ig cB (D.nt rfl) λe he=>?_;refine H.mks (m:=nl) O uR (0,0) rfl rfl rfl he rfl X X λms0 Xx=>?_;refine Z cB ?_;have zS:∀n,n<=nl->(lB (cA cl) (List.replicate nl (0,0)) n:Int)<=n/\(0:Int)<=lB (cA cl) (List.replicate nl (0,0)) n:=by intro n;induction n with|zero=>intro _;exact⟨bp_ _,bp_ _⟩|succ n ih =>intro hn;have:=ih X;rw[lB];split<;>omega
 refine cr (τ:=Int) 4 4 [] (λp=>[(0,.pt 0 2 0 0),(4,.ob 3 2 0 nl none),(5,iv p.2),(6,iv p.1)]) [] (λp=>[(0,rO nl nl),(1,jd O N),(2,cU O cl),(3,Lw O ms0)]) nl (λi p=>p.2=lB (cA cl) (List.replicate nl (0,0)) i) 0 rfl (hC:=by exact⟨sq,rfl,Hn,rfl,rfl,rfl⟩) ?_;rintro ii i lf jY yq VJ;simp only at jY VJ;refine Z cB ?_;refine ig cB (D.nt rfl) λe1 he1=>?_;refine cn (λbK=>?_) λbK=>?_;have iz:i<nl:=X;let⟨z,hz⟩:∃z,cl[i]?=some z:=⟨_,av_ X⟩;have rz:=dv (O:=O) (f:=dz) hz;let⟨zi,Q⟩:∃zi:Int,zi=z:=⟨_,rfl⟩;rw[dz,<-Q]at rz;have Vc:=zS i X;have hn:(lB (cA cl) (List.replicate nl (0,0)) (i+1):Int)=lf+if z=i then 1 else 0:=by rw[lB,mw hz,SE,VJ];by_cases e:z=i;rw[if_pos ⟨e,aB⟩,if_pos e];omega;rw[if_neg λh=>e h.1,if_neg e];omega
 refine Z cB ?_;refine H.op rfl (D.eT rfl rfl jY iz) ?_;refine og cB (D.iQ rfl rfl rz rfl) ?_;refine cn (λb9=>?_) λb9=>?_;rw[if_pos X]at hn;refine Z cB ?_;refine ag cB λR dK=>?_;refine ag cB λo F=>?_;exact bP (o,R) [] (i+1) (by simp only;omega) (hC:=by exact⟨sq,rfl,Hn,rfl,rfl,rfl⟩);rw[if_neg X]at hn;refine Z cB ?_;refine ag cB λo F=>?_;exact bP (o,lf) [] (i+1) (by simp only;omega) (hC:=by exact⟨sq,rfl,Hn,rfl,rfl,rfl⟩);have iz:i=nl:=X;rw[iz]at VJ;rw[<-VJ,<-Xx]at h;have Vc:=zS nl (aa_ _);rw[<-VJ]at Vc;refine Z cB ?_;refine xG cB ?_;refine H.ic (σ:=Int×List (Int×Int)×Nat) 4 4 [] (λp=>[(0,.pt 0 2 0 0),(4,.ob 3 2 0 nl none),(5,iv p.1)]) [] (λp=>[(0,rO nl nl),(1,jd O N),(2,cU O cl),(3,Lw O p.2.1)]) (λp=>p.1<=nl/\p.2.1.length=nl/\SD p.2.1/\ud N cl p.2.2 (p.2.1,p.1)=some r) (λp=>p.2.2) (lf,ms0,fu) ⟨Vc.1,by rw[Xx,bA_],by rw[Xx];intro j;rw[SE];decide,h⟩ rfl (by exact⟨sq,rfl,Hn,rfl,rfl,rfl⟩) ?_;rintro⟨l1,S,V⟩ ⟨jP,W,al6,A⟩;simp only at jP W al6 A;clear h VJ Vc Xx;cases V with|zero=>cases A|succ V =>
  rw[ud,<-dL]at A;simp only at A;refine Z cB ?_;refine cn (λb9=>?_) λb9=>?_;rotate_left;rw[if_neg X]at A;cases oJ_ A;refine Z cB ?_;refine H.lQ ?_;refine H.yu (H.C9 (Cv.freeze (t:=4) (k:=3) (rows:=O.h (List.map uR) S) (fz:=0) (ex:=true) rfl rfl (.inr ⟨_,rfl⟩) (by rw[az];exact W.symm) (aE_ _)) ?_);refine Z cB ?_;refine fq ?_;exact⟨[],.aK (Pure.bu v7),rC,rfl⟩;rw[if_pos X]at A;let⟨tot,MM⟩:=aq (qg N cl (List.range nl) (S,l1));rw[<-MM]at A;refine Z cB ?_;refine cr (τ:=List (Int×Int)×Int) 4 4 [] (λp=>[(0,.pt 0 2 0 0),(4,.ob 3 2 0 nl none),(5,iv p.2.2),(7,iv l1),(8,iv p.1)]) [] (λp=>[(0,rO nl nl),(1,jd O N),(2,cU O cl),(3,Lw O p.2.1)]) nl (λi p=>p.2.1.length=nl/\SD p.2.1/\l1-i<=p.2.2/\p.2.2<=l1/\qg N cl ((List.range nl).drop i) (p.2.1,p.2.2)=tot) (S,l1) ⟨W,al6,aB,bp_ _,by simpa using MM.symm⟩ (hC:=by exact⟨sq,rfl,Hn,rfl,rfl,rfl⟩) ?_;rintro ci c⟨B,R⟩A8 ayY⟨Kg,K,avf,Hp,g⟩;simp only at A8 Kg K avf Hp g;clear MM;refine Z cB ?_;refine ig cB (D.nt rfl) λe3 he3=>?_;refine cn (λgu=>?_) λgu=>?_;rotate_left;have fR:c=nl:=X;rw[fR,aO_ (by rw[cH_];omega),qg]at g;subst g;simp only at A;refine Z cB ?_;refine xG cB ?_;refine cn (λmq=>?_) λmq=>?_;rw[if_pos X]at A;cases oJ_ A;refine Z cB ?_;refine rG cB ?_;refine fq ?_;exact⟨[],.aK (Pure.bu v7),rC,rfl⟩;rw[if_neg X]at A;refine Z cB ?_;refine H.bO (R,B,V) [] ⟨by simp only;omega,Kg,K,A⟩ ?_ (by exact⟨sq,rfl,Hn,rfl,rfl,rfl⟩);exact bl_ _;have fR:c<nl:=X;let⟨z,hz⟩:∃z,cl[c]?=some z:=⟨_,av_ X⟩;have Cn:z<nl:=by have:=hc c fR;rw[mw hz]at this;exact this
  have rz:=dv (O:=O) (f:=dz) hz;let⟨zi,Q⟩:∃zi:Int,zi=z:=⟨_,rfl⟩;rw[dz,<-Q]at rz;rw[y9 fR,qg,Bq]at g;simp only at g;rw[mw hz]at g;have rm:=dv (O:=O) (f:=uR) (Kf (ms:=B) (i:=z) X);let⟨⟨v1,v2⟩,hv⟩:∃q,q=fk B z:=⟨_,rfl⟩;rw[<-hv]at g rm;rw[uR]at rm;simp only at g rm;have rmz:(O.h (List.map uR) B)[0+z]?=some [iv v1,iv v2]:=by rw[aH_];exact rm
  refine Z cB ?_;refine H.op rfl (D.eT rfl rfl A8 fR) ?_;refine og cB (D.iQ rfl rfl rz rfl) ?_;refine H.op rfl (D.Qh rfl rfl Q Cn) ?_;refine H.op rfl (D.quiet rfl) ?_;refine og cB (D.iQ rfl rfl rmz rfl) ?_;refine cn (λmq=>?_) λmq=>?_;rw[if_pos X]at g;refine Z cB ?_;refine ag cB λo F=>?_;exact bP (o,B,R) [] (c+1) ⟨Kg,K,by simp only;omega,Hp,g⟩ (hC:=by exact⟨sq,rfl,Hn,rfl,rfl,rfl⟩);rw[if_neg X]at g;have sa:=Dk (Y:=Y) (O:=O) (N:=N) (cl:=cl) z dL rfl iR X;rw[<-Q]at sa;let⟨ki,mM⟩:=aq (wi (cZ N cl z));rw[<-mM]at sa;let⟨w,E⟩:=aq (qR N cl z);rw[<-E]at g;let⟨res,cQ⟩:=aq (nD cl B w true (1,1));rw[<-cQ]at g;have SF:ki=-1/\w=[]\/∃(s:Nat) (t:Tm),ki=s/\N[s]?=some (t,w):=by unfold qR at E;cases G:cZ N cl z with|none =>rw[G]at mM E;exact .inl ⟨mM,E⟩|some s =>
    rw[G]at mM E;have fX:s<N.length:=by unfold cZ at G;have:=cb_ G;rwa[aU_]at this
    let⟨⟨t,l⟩,Dm⟩:∃x,N[s]?=some x:=⟨_,av_ fX⟩;simp only at E;rw[(vR Dm).2]at E;exact .inr ⟨s,t,mM,by rw[E];exact Dm⟩
  have RD:w.length<=6:=by rcases SF with⟨_,rfl⟩|⟨s,t,_,Dm⟩;simp;exact(hN _ _ _ Dm).1
  have Rk:∀j∈w,j<nl:=by rw[E,dL];intro j hj;unfold qR at hj;cases G:cZ N cl z with|none=>rw[G]at hj;cases hj|some s =>
    rw[G]at hj;have fX:s<N.length:=by unfold cZ at G;have:=cb_ G;rwa[aU_]at this
    exact cE_ (hG.lt s fX j hj) fX
  clear E mM;refine Z cB ?_;refine og cB (D.jA sa rfl (ax_ rfl) (iA aC) Dj (iA aC) (tD aC .v) .v) ?_;refine cr (τ:=Bool×Int×Int) 5 5 [] (λp=>[(0,.pt 0 2 0 0),(4,.ob 3 2 0 nl none),(5,iv R),(7,iv l1),(8,iv ci),(9,iv zi),(10,iv ki),(11,.pt 4 2 0 0),(12,.v (.bool p.2.1)),(13,iv p.1)]) [] (λp=>[(0,rO nl nl),(1,jd O N),(2,cU O cl),(3,Lw O B),(4,.arr 2 [[iv p.2.2.1,iv p.2.2.2]] 0 true)]) w.length (λj p=>((0<=p.2.2.1/\p.2.2.1<=201)/\0<=p.2.2.2/\p.2.2.2<=21)/\nD cl B (w.drop j) p.2.1 p.2.2=res) (true,(1,1)) ⟨by simp only;decide,by simpa using cQ.symm⟩ (hC:=by exact⟨sq,rfl,mC5,rfl,rfl,rfl⟩) ?_;rintro ji j⟨d,⟨x1,L⟩⟩Dn MZ⟨⟨⟨b1,b2⟩,b3,b4⟩,v⟩;simp only at Dn v b1 b2 b3 b4;clear cQ;refine Z cB ?_;refine cn (λrf=>?_) λrf=>?_;rotate_left;have I2:w=[]:=by rcases SF with⟨_,h⟩|⟨s,t,h,_⟩;exact h;omega
  have na:j=w.length:=by rw[I2]at MZ⊢;simpa using MZ
  rw[na,aO_ (aa_ _),nD]at v;rw[<-v]at g;simp only at g;refine Z cB ?_;refine H.lQ ?_;cases d with|false =>rw[if_neg aC]at g;refine Z cB ?_;refine ag cB λo F=>?_;exact bP (o,B,R) [] (c+1) ⟨Kg,K,by simp only;omega,Hp,g⟩ (hC:=by exact⟨sq,rfl,Hn,rfl,rfl,rfl⟩)|true =>rw[if_pos rfl]at g;refine Z cB ?_;refine H.op rfl (D.Qh rfl rfl Q Cn) ?_;refine H.JG (f:=uR) (y:=(x1,L)) rfl rfl rfl rfl rfl (λ_=>rfl) rfl X λu J=>?_;rw[aH_]at J;refine Z cB ?_;refine ag cB λl3 Sq=>?_;refine ag cB λo F=>?_;exact bP (o,u,l3) [] (c+1) ⟨by simp only;rw[J,bq_];exact Kg,by simp only;rw[J];exact K.set X ⟨⟨b1,b2⟩,b3,b4⟩,by simp only;omega,by simp only;omega,by simp only;rw[J,Sq];exact g⟩ (hC:=by exact⟨sq,rfl,Hn,rfl,rfl,rfl⟩)
  let⟨s,t,VK,Dm⟩:=SF.resolve_left (by rintro⟨h,_⟩;omega);have fX:s<nl:=by rw[dL];exact(aA_.1 Dm).1
  have rs:=dv (O:=O) (f:=rU O) Dm;rw[rU]at rs;let⟨tk,ti,Ja,ta⟩:=t;simp only at rs;have NI:Pure (aY O dz false w):=ew λx _ a ha=>by cases ak_.1 ha;exact .v
  refine Z cB ?_;refine H.op rfl (D.eT rfl rfl VK fX) ?_;refine H.op rfl (D.quiet rfl) ?_;refine og cB (D.iQ rfl rfl rs rfl) ?_;refine lg cB λq hq=>?_;refine cn (λSG=>?_) λSG=>?_;rotate_left;skip;have na:j=w.length:=X;rw[na,aO_ (aa_ _),nD]at v;rw[<-v]at g;simp only at g;refine Z cB ?_;refine H.lQ ?_;cases d with|false =>rw[if_neg aC]at g;refine Z cB ?_;refine ag cB λo F=>?_;exact bP (o,B,R) [] (c+1) ⟨Kg,K,by simp only;omega,Hp,g⟩ (hC:=by exact⟨sq,rfl,Hn,rfl,rfl,rfl⟩)|true =>rw[if_pos rfl]at g;refine Z cB ?_;refine H.op rfl (D.Qh rfl rfl Q Cn) ?_;refine H.JG (f:=uR) (y:=(x1,L)) rfl rfl rfl rfl rfl (λ_=>rfl) rfl X λu J=>?_;rw[aH_]at J;refine Z cB ?_;refine ag cB λl3 Sq=>?_;refine ag cB λo F=>?_;exact bP (o,u,l3) [] (c+1) ⟨by simp only;rw[J,bq_];exact Kg,by simp only;rw[J];exact K.set X ⟨⟨b1,b2⟩,b3,b4⟩,by simp only;omega,by simp only;omega,by simp only;rw[J,Sq];exact g⟩ (hC:=by exact⟨sq,rfl,Hn,rfl,rfl,rfl⟩)
  let⟨x,hx⟩:∃x,w[j]?=some x:=⟨_,av_ X⟩;have m_:x<nl:=Rk x (am_ hx);let⟨y,hy⟩:∃y,cl[x]?=some y:=⟨_,av_ X⟩;have ll:y<nl:=by have:=hc x m_;rw[mw hy]at this;exact this
  let⟨xa,xb⟩:=aA_.1 hx;rw[bN_ xa,xb,nD,mw hy]at v;have ry:=dv (O:=O) (f:=dz) hy;let⟨yi,GR⟩:∃yi:Int,yi=y:=⟨_,rfl⟩;rw[dz,<-GR]at ry;have hw0:=K y;have rw0:=dv (O:=O) (f:=uR) (Kf (ms:=B) (i:=y) X);let⟨⟨w1,w2⟩,hw⟩:∃q,q=fk B y:=⟨_,rfl⟩;rw[<-hw]at v rw0 hw0;simp only at v hw0;let⟨⟨v1',v2'⟩,v3',v4'⟩:=hw0;have rwz:(O.h (List.map uR) B)[0+y]?=some [iv w1,iv w2]:=by rw[aH_];exact rw0
  let⟨xi,GQ⟩:∃xi:Int,xi=x:=⟨_,rfl⟩;have oc:idx (O.h (List.map dz) w) ji=some [iv xi]:=by rw[eZ (l:=w) Dn hx,dz,GQ]
  refine Z cB ?_;refine H.eM rfl (λT=>D.eT rfl rfl VK fX) ?_;refine H.eM rfl (λT=>D.quiet rfl) ?_;refine H.gG rfl (bm.iQ rfl rfl rs rfl) ?_;refine Z cB ?_;refine H.eM rfl (λT=>D.ind rfl rfl oc (ec λ_=>rfl)) ?_;refine Z cB ?_;refine H.eM rfl (λT=>D.eT rfl rfl GQ m_) ?_;refine H.gG rfl (bm.iQ rfl rfl ry rfl) ?_;refine Z cB ?_;refine H.eM rfl (λT=>D.Qh rfl rfl GR ll) ?_;refine H.gG rfl (bm.iQ rfl rfl rwz rfl) ?_;refine Z cB ?_;cases d with|false =>rw[br_]at v;refine Z cB ?_;refine ag cB λa1 eg=>?_;refine ig cB (D.min (k:=.i64) (a:=a1) (b:=201) rfl rfl) λM fF=>?_;refine ag cB λa3 fH=>?_;refine ig cB (D.max (k:=.i64) (a:=L) (b:=a3) rfl rfl) λa4 ha4=>?_;refine ig cB (D.min (k:=.i64) (a:=a4) (b:=21) rfl rfl) λP ha5=>?_;refine ag cB λo F=>?_;have e1:M=min (x1+w1) 201:=X;have e2:P=min (max L (w2+1)) 21:=X;exact bP (o,false,(M,P)) [] (j+1) ⟨⟨⟨by simp only;omega,by simp only;omega⟩,by simp only;omega,by simp only;omega⟩,by simp only;rw[e1,e2];exact v⟩ (hC:=by exact⟨sq,rfl,mC5,rfl,rfl,rfl⟩)|true =>rw[ay_]at v;refine Z cB ?_;refine cn (λhb7=>?_) λhb7=>?_;rw[decide_eq_true (show 0<w1 by omega)]at v;refine Z cB ?_;refine ag cB λa1 eg=>?_;refine ig cB (D.min (k:=.i64) (a:=a1) (b:=201) rfl rfl) λM fF=>?_;refine ag cB λa3 fH=>?_;refine ig cB (D.max (k:=.i64) (a:=L) (b:=a3) rfl rfl) λa4 ha4=>?_;refine ig cB (D.min (k:=.i64) (a:=a4) (b:=21) rfl rfl) λP ha5=>?_;refine ag cB λo F=>?_;have e1:M=min (x1+w1) 201:=X;have e2:P=min (max L (w2+1)) 21:=X;exact bP (o,true,(M,P)) [] (j+1) ⟨⟨⟨by simp only;omega,by simp only;omega⟩,by simp only;omega,by simp only;omega⟩,by simp only;rw[e1,e2];exact v⟩ (hC:=by exact⟨sq,rfl,mC5,rfl,rfl,rfl⟩);rw[decide_eq_false (show¬0<w1 by omega)]at v;refine Z cB ?_;refine ag cB λa1 eg=>?_;refine ig cB (D.min (k:=.i64) (a:=a1) (b:=201) rfl rfl) λM fF=>?_;refine ag cB λa3 fH=>?_;refine ig cB (D.max (k:=.i64) (a:=L) (b:=a3) rfl rfl) λa4 ha4=>?_;refine ig cB (D.min (k:=.i64) (a:=a4) (b:=21) rfl rfl) λP ha5=>?_;refine ag cB λo F=>?_;have e1:M=min (x1+w1) 201:=X;have e2:P=min (max L (w2+1)) 21:=X;exact bP (o,false,(M,P)) [] (j+1) ⟨⟨⟨by simp only;omega,by simp only;omega⟩,by simp only;omega,by simp only;omega⟩,by simp only;rw[e1,e2];exact v⟩ (hC:=by exact⟨sq,rfl,mC5,rfl,rfl,rfl⟩)
def aqF:=aD func349 call349
def pI:List Nat:=[0,5,4,7,6,1,12,52]
def zT:Ob:=.arr 4 [[iv 0,iv 0,.v (.string ⟨#[]⟩),.sl true []]] 0 true
theorem al8:kH B zT:=λrow b a c=>by cases ak_.1 b;simp only[ae_,aw_,or_false]at c;rcases c with rfl|rfl|rfl|rfl;exact .v;exact .v;exact .v;exact .sl λr b=>I
theorem ah0(l:List Tm):kH B (.arr 4 (O.h (List.map mn) l) 0 false):=by show∀row∈O.h (List.map mn) l,∀a∈row,eE B a;rw[O.eq];intro row b a c;obtain⟨x,_,rfl⟩:=aB_.1 b;exact Pure.bu (Ad x a c)
theorem tC{q:Nat}{k i:Int}{n:ByteArray}{Mx:List Tm}(h0:S.get 0=some (rO nl ul):=by rfl)(h1:S.get 1=some (jd O Nd):=by rfl)(h2:S.get 2=some (cU O cl):=by rfl)(h3:S.get 3=some zT:=by rfl)(h4:S.get 4=some (.arr 4 [[iv k,iv i,.v (.string n),.gr j 4 q]] 0 true):=by rfl)(h5:S.get j=some (.arr 4 (O.h (List.map mn) Mx) 0 false):=by rfl):gK 5 [(5,j)] 6 S [(0,rO nl ul),(1,jd O Nd),(2,cU O cl),(3,zT),(4,.arr 4 [[iv k,iv i,.v (.string n),.gr 5 4 q]] 0 true),(5,.arr 4 (O.h (List.map mn) Mx) 0 false)] :=⟨.inl ⟨_,h0,.same (vQ aC)⟩,.inl ⟨_,h1,.same (pH _)⟩,.inl ⟨_,h2,.same (f_ _)⟩,.inl ⟨_,h3,.same al8⟩,.inl ⟨_,h4,.arr (by exact⟨⟨.aK .v,.aK .v,.aK .v,.jI rfl rfl,trivial⟩,trivial⟩)⟩,.inl ⟨_,h5,.same (ah0 _)⟩,trivial⟩
theorem ah1{v:Int}:aH S (.agg [iv 1,iv v,.v (.string ⟨#[]⟩),.sl true []]) (tm O (vr v)):=by unfold tm ld vr;refine .agg rfl λi a d b c=>?_;match i with|0=>rw[<-oJ_ b,<-oJ_ c];exact .refl _|1=>rw[<-oJ_ b,<-oJ_ c];exact .refl _|2=>rw[<-oJ_ b,<-oJ_ c];exact .refl _|3 =>rw[<-oJ_ b,<-oJ_ c,tl,bF];exact aH.wk|i+4=>simp at b
theorem al9(hG:fT N)(hN:CE N)(E:nl=N.length)(tz:nl<=100000000000)(F:cl.length=nl):∀(m:Nat)(C:Nat),ix N (cA cl) (cZ N cl) m C ->aF prog Y 349 [.pt 0 2 0 0,iv C] (aw (rX O nl nl N cl) 3) (tm O (TF N (cA cl) (cZ N cl) (fy N cl) m C)) (aw (rX O nl nl N cl) 3):=by intro m;induction m with|zero=>intro C h;exact h.elim|succ m ih =>intro C G;have v:=Dk (Y:=Y) (O:=O) (N:=N) (cl:=cl) C E rfl F X;have sl:=VF (Y:=Y) (O:=O) (N:=N) (cl:=cl) C E rfl F X;let⟨R,b⟩:=aq (TF N (cA cl) (cZ N cl) (fy N cl) (m+1) C);rw[<-b];rw[TF]at b;let⟨ci,A8⟩:∃ci:Int,ci=C:=⟨_,rfl⟩;rw[<-A8]at v sl⊢;let⟨lv,J⟩:=aq (fy N cl C);rw[<-J]at sl;let⟨ki,d⟩:=aq (wi (cZ N cl C));rw[<-d]at v;have K:=bI (O:=O) R;refine sc 3 3 aqF ?_;unfold rX;refine Z pI ?_;refine og pI (D.jA v rfl (ax_ rfl) (iA aC) Dj (iA aC) (tD aC .v) .v) ?_;cases r:cZ N cl C with|none =>rw[r]at b d;simp only[<-J]at b;rw[wi]at d;refine cn (λw=>?_) λw=>?_;rotate_left;grind;refine Z pI ?_;refine H.op rfl (D.jA sl rfl (ax_ rfl) (iA aC) Dj (iA aC) (tD aC .v) .v) ?_;refine H.op rfl (D.quiet rfl) ?_;refine H.Cz (Cv.Rq (t:=16) (a':=tm O R) (N:=ah.none_) (λk o h=>by cases h) (aa_ _) (λk o h=>⟨h,rfl⟩) (λh=>by cases show AV.agg [iv 1,iv lv,.v (.string ⟨#[]⟩),.sl true []]=AV.u from h) (by rw[b];exact ah1)) ?_;refine Z pI ?_;refine fq ?_;exact⟨[],.aK (Pure.bu K),rC,rfl⟩|some s =>
   rw[r]at b d;rw[wi]at d;simp only at b;have z:=G s r;have i:s<nl:=by grind[cZ]
   let⟨⟨t,e⟩,l⟩:∃x,N[s]?=some x:=⟨_,av_ X⟩;rw[(vR l).2]at z b;rw[(vR l).1]at b;have RD:=(hN _ _ _ l).1;have Rk:∀j∈e,j<nl:=by intro j hj;have:=hG.lt s X j (by rw[(vR l).2];exact hj);omega
   have g:=dv (O:=O) (f:=rU O) l;rw[rU]at g;let⟨tk,ti,Ja,ta⟩:=t;simp only at g b;have NI:Pure (aY O dz false e):=ew λx _ a ha=>by cases ak_.1 ha;exact .v
   refine cn (λw=>?_) λw=>?_;grind;clear r G;refine Z pI ?_;refine H.eM rfl (λT=>D.eT rfl rfl d i) ?_;refine H.eM rfl (λT=>D.quiet rfl) ?_;refine H.gG rfl (bm.iQ rfl rfl g rfl) ?_;refine Z pI ?_;refine H.eM rfl (λT=>D.eT rfl rfl d i) ?_;refine H.eM rfl (λT=>D.quiet rfl) ?_;refine H.gG rfl (bm.iQ rfl rfl g rfl) ?_;refine Z pI ?_;refine H.eM rfl (λT=>D.eT rfl rfl d i) ?_;refine H.eM rfl (λT=>D.quiet rfl) ?_;refine H.gG rfl (bm.iQ rfl rfl g rfl) ?_;refine Z pI ?_;refine cr (τ:=List Tm×Nat) 5 6 [] (λp=>[(0,.pt 0 2 0 0),(4,.pt 3 4 0 0),(5,iv ki),(6,.pt 4 4 0 0),(7,iv p.1)]) [] (λp=>[(0,rO nl nl),(1,jd O N),(2,cU O cl),(3,zT),(4,.arr 4 [[iv tk,iv ti,.v (.string Ja),.gr 5 4 p.2.2]] 0 true),(5,.arr 4 (O.h (List.map mn) p.2.1) 0 false)]) e.length (λj p=>p.2.2=p.2.1.length/\p.2.1=(e.take j).map λx=>TF N (cA cl) (cZ N cl) (fy N cl) m (cA cl x)) ([],0) ⟨rfl,aB⟩ ?_;rintro ji j⟨Mx,L⟩Dn MZ⟨M,u⟩;simp only at Dn M u;refine Z pI ?_;refine H.op rfl (D.eT rfl rfl d i) ?_;refine H.op rfl (D.quiet rfl) ?_;refine og pI (D.iQ rfl rfl g rfl) ?_;refine lg pI λq hq=>?_;refine cn (λb9=>?_) λb9=>?_;let⟨x,P⟩:∃x,e[j]?=some x:=⟨_,av_ X⟩;have m_:x<nl:=Rk x (am_ P);let⟨y,Q⟩:∃y,cl[x]?=some y:=⟨_,av_ X⟩;have S:=dv (O:=O) (f:=dz) Q;let⟨V,W⟩:∃V:Int,V=y:=⟨_,rfl⟩;rw[dz,<-W]at S;let⟨A,GQ⟩:∃A:Int,A=x:=⟨_,rfl⟩;have oc:idx (O.h (List.map dz) e) ji=some [iv A]:=by grind[eZ,dz]
   have c:=ih y (by grind[mw]);have ny:TF N (cA cl) (cZ N cl) (fy N cl) m (cA cl x)=TF N (cA cl) (cZ N cl) (fy N cl) m y:=by rw[mw Q]
   have CG:(e.take (j+1)).map (λx=>TF N (cA cl) (cZ N cl) (fy N cl) m (cA cl x))=Mx++[TF N (cA cl) (cZ N cl) (fy N cl) m y]:=by rw[Ie P,aZ_,<-u,<-ny];rfl
   let⟨B,n⟩:=aq (TF N (cA cl) (cZ N cl) (fy N cl) m y);rw[<-n]at c CG;rw[<-W]at c;have ayZ:L<=6:=I;clear n ny;refine Z pI ?_;refine H.eM rfl (λT=>D.eT rfl rfl d i) ?_;refine H.eM rfl (λT=>D.quiet rfl) ?_;refine H.gG rfl (bm.iQ rfl rfl g rfl) ?_;refine Z pI ?_;refine H.eM rfl (λT=>D.ind rfl rfl oc (ec λ_=>rfl)) ?_;refine Z pI ?_;refine H.eM rfl (λT=>D.eT rfl rfl GQ m_) ?_;refine H.gG rfl (bm.iQ rfl rfl S rfl) ?_;refine Z pI ?_;refine H.gG rfl (bm.jA false c rfl (.inl aC) (iA aC) Ax VE (iA aC) (tD aC .v) (Pure.bu (bI B))) ?_;refine Z pI ?_;refine H.Lf B (f:=mn) rfl rfl rfl M (λ_=>rfl) (by rw[qY (O:=O)];rfl) (zk B) (by rw[qY (O:=O)];rfl) X λdC vY K5 yb=>?_;refine Z pI ?_;refine ag pI λi3 dU=>?_;exact bP (i3,dC,vY) [(5,6)] (j+1) ⟨yb,I⟩ (hC:=by exact⟨sq,rfl,tC,rfl,rfl,rfl⟩);have na:j=e.length:=X;rw[na,aW_ (aa_ _)]at u;rw[<-u]at b;subst b;refine Z pI ?_;refine H.lQ ?_;refine H.yu (H.C9 (Cv.Rs (kb:=4) (k:=5) (j:=3) (m:=L) rfl rfl aC rfl (by grind[az])) ?_);refine Z pI ?_;refine fq ?_;exact⟨[],.aK (Pure.bu K),rC,rfl⟩
def Pd:=aD func262 call262
def Ay:List Nat:=[0,2,4]
def ah2{sz:Nat}(l:List Bd):kH B (.arr sz (O.h (List.map (bR O)) l) 0 ex):=kG λx _ a b=>mG x a b
theorem Xy(A:Option Addr)(c:Nat):ab Y 262 [.v (.slice A 0 c)] (.sl true []):=by cases A with|none =>refine st Pd Ay (.sl λr h=>I) ?_;refine og Ay (D.nil (b:=true) rfl rfl) ?_;refine fq ?_;exact .refl _|some A =>refine st Pd Ay (.sl λr h=>I) ?_;refine og Ay (D.nil (b:=false) rfl rfl) ?_;refine og Ay (D.O0 rfl rfl) ?_;refine fq ?_;exact .refl _
theorem SI:ab Y 262 [bf O []] (.sl true []):=by rw[bf,bF];exact ao.emp Xy
theorem adE(x:Bd)(l:List Bd)(c:(x::l).length<=100000000000):aF prog Y 262 [bf O (x::l)] (aw [] 0) (.gr 0 5 (x::l).length) (aw [(0,.arr 5 (O.h (List.map (bR O)) (x::l)) 0 false)] 1):=by
 let⟨R,a⟩:=aq (x::l);have d:F5 (bf O R)=some false:=by rw[a,bf,bF];rfl
 rw[<-a]at c⊢;refine sc 0 1 Pd ?_;refine Z Ay ?_;refine og Ay (D.nil d rfl) ?_;refine H.su (f:=bR O) (ys:=R) rfl rfl rfl (λ_=>rfl) X λh len e b=>?_;have b:len=R.length:=I;subst e;rw[<-b];refine Z Ay ?_;refine fq ?_;exact⟨[(0,0)],.jI rfl rfl,⟨.inl ⟨_,rfl,.same (ah2 _)⟩,trivial⟩,rfl⟩
def af8:=aD func301 call301
def fV:List Nat:=[11,3,27,0,6,2,10,12,9,5,20,26,28,25,8]
def BG(O:Hd)(x:List (Tm×Tm)):List AV:=[we O x]
theorem SJ(L:List (List (Tm×Tm))):Pure (aY O (BG O) true L):=ew λx _ a b=>by cases ak_.1 b;exact oI x
theorem Ou{T:Type}{L:List (List T)}{k:Nat}{x:List T}(h:L[k]?=some x):(L.take (k+1)).flatten=(L.take k).flatten++x:=by rw[ca_,h,dX_];simp
theorem ah3{T:Type}(L:List (List T))(k:Nat):(L.take k).flatten.length<=L.flatten.length:=by
 conv=>rhs;rw[<-dv_ k L,dX_,ar_]
 omega
theorem adF(l:List (Tm×Tm)):∀row∈O.h (List.map (De O)) l,∀a∈row,Pure a:=by rw[O.eq];intro row b a c;obtain⟨x,_,rfl⟩:=aB_.1 b;exact As x a c
theorem ah4:ab Y 324 [.sl true [],iv 0] (.sl true []):=by let⟨n,g⟩:∃n:Int,n=0:=⟨_,rfl⟩;rw[<-g];refine st af0 qp (.sl λr h=>I) ?_;refine bq (λa=>?_) λa=>?_<;>(try simp only[bY]at a);grind;refine Z qp ?_;refine H.int rfl (D.cap (m:=0) rfl) λc i=>?_;refine Z qp ?_;refine b8 λq b=>?_;have b:q=0:=b;refine Z qp ?_;refine cG λd j=>?_;refine Z qp ?_;refine cG λe k=>?_;refine Z qp ?_;refine bq (λf=>?_) λf=>?_<;>(try simp only[bY]at f);grind;refine Z qp ?_;refine fq ?_;exact .refl _
theorem adG(L:List (List (Tm×Tm)))(J:L.length<=1000)(b:L.flatten=[]):ab Y 301 [aY O (BG O) true L] (we O []):=by
 have v:=ah4 (Y:=Y);have w:=SJ (O:=O) L;have a:∀x∈L,x=[]:=λx a=>by rw[List.flatten_eq_nil_iff]at b;exact b x a
 clear b;refine st af8 fV (oI _) ?_;refine b8 λm A=>?_;rw[az]at A;refine Z fV ?_;refine cr (τ:=Int) 0 0 [] (λp=>[(0,aY O (BG O) true L),(9,aY O (BG O) true L),(3,.v (.int .i64 p.2)),(10,.v (.int .i64 m)),(11,.v (.int .i64 p.1))]) [] (λp=>[]) L.length (λk p=>p.2=0) 0 rfl ?_;rintro i k z e M g;simp only at e g;refine Z fV ?_;refine bq (λj=>?_) λj=>?_<;>(try simp only[bY]at j);rotate_left;·refine Z fV ?_;refine H.lQ ?_;rw[g];refine Z fV ?_;refine H.op rfl (D.bM rfl v ⟨.sl λr h=>I,.v,trivial⟩) ?_;refine Z fV ?_;refine b8 λB C=>?_;rw[az]at C;refine Z fV ?_;refine H.ic (σ:=Int) 0 0 [] (λp=>[(25,aY O (BG O) true L),(6,.sl true []),(26,.v (.int .i64 B)),(27,.v (.int .i64 p))]) [] (λp=>[]) (λp=>∃k:Nat,p=k/\k<=L.length) (λp=>L.length-p.toNat) 0 ⟨0,rfl,aB⟩ rfl cz ?_;rintro P⟨n,E,Q⟩;refine Z fV ?_;refine bq (λo=>?_) λo=>?_<;>(try simp only[bY]at o);rotate_left;refine Z fV ?_;refine xG fV ?_;refine fq ?_;rw[we,bF];exact aH.wk;let⟨y,s,R⟩:=aA (l:=L) (k:=n) X;cases a y (aW s);refine Z fV ?_;refine H.op rfl (D.ind rfl rfl (eZ (l:=L) E s) (ec (f:=BG O) (m:=1) λ_=>rfl)) ?_;refine Z fV ?_;refine H.op rfl (D.Mh rfl (by show iH _ (we O [])=some [];rw[we,bF];exact jk)) ?_;refine Z fV ?_;refine cG λc F=>?_;refine Z fV ?_;refine H.bO c [] ⟨n+1,X,X⟩ ?_ cz;omega
 let⟨x,t,S⟩:=aA (l:=L) (k:=k) X;cases a x (aW t);refine Z fV ?_;refine H.op rfl (D.ind rfl rfl (eZ (l:=L) e t) (ec (f:=BG O) (m:=1) λ_=>rfl)) ?_;refine Z fV ?_;refine b8 λq d=>?_;rw[az]at d;have d:q=0:=d;refine Z fV ?_;refine cG λG T=>?_;refine Z fV ?_;refine bq (λu=>?_) λu=>?_<;>(try simp only[bY]at u);grind;refine Z fV ?_;refine cG λc F=>?_;refine Z fV ?_;exact bP (c,G) [] (k+1) I
theorem adH(L:List (List (Tm×Tm)))(hl:L.length<=1000)(h0:0<L.flatten.length)(h1:L.flatten.length<=100000000000):ab Y 301 [aY O (BG O) true L] (we O L.flatten):=by
 let⟨R,B⟩:=aq L.flatten;have a:∀k,(L.take k).flatten.length<=L.flatten.length:=ah3 L;rw[<-B]at h0 h1 a⊢;have g:=ahU (Y:=Y) (O:=O) R.length X X;let⟨n,C⟩:∃n:Int,n=R.length:=⟨_,rfl⟩;rw[<-C]at g;have E:=SJ (O:=O) L;refine st af8 fV (oI _) ?_;refine b8 λm F=>?_;rw[az]at F;refine Z fV ?_;refine cr (τ:=Int) 0 0 [] (λp=>[(0,aY O (BG O) true L),(9,aY O (BG O) true L),(3,.v (.int .i64 p.2)),(10,.v (.int .i64 m)),(11,.v (.int .i64 p.1))]) [] (λp=>[]) L.length (λk p=>p.2=(L.take k).flatten.length) 0 aB ?_;rintro i k z j hk J;simp only at j J;refine Z fV ?_;refine bq (λo=>?_) λo=>?_<;>(try simp only[bY]at o);rotate_left;·refine Z fV ?_;refine H.lQ ?_;cases(I:z=n);refine Z fV ?_;refine H.op rfl (D.mo [] [(0,some (.arr 8 (O.h (List.map (De O)) []) 0 false))] g rfl ⟨.pure (.sl λr h=>I),.pure .v,trivial⟩ (.gr rfl) trivial ⟨⟨0,_,rfl,rfl,.pure (adF _)⟩,trivial⟩) ?_;refine Z fV ?_;refine b8 λK M=>?_;rw[az]at M;refine Z fV ?_;refine cr (τ:=List (Tm×Tm)×Nat) 1 2 [(1,0)] (λp=>[(25,aY O (BG O) true L),(6,.gr 1 8 p.2.2),(26,.v (.int .i64 K)),(27,.v (.int .i64 p.1))]) [] (λp=>[(1,.arr 8 (O.h (List.map (De O)) p.2.1) 0 false)]) L.length (λk p=>p.2.1=(L.take k).flatten/\p.2.2=p.2.1.length) ([],0) ⟨aB,rfl⟩ ?_;rintro i2 b⟨N,len⟩s eX⟨t,c⟩;simp only at s t c;refine Z fV ?_;refine bq (λu=>?_) λu=>?_<;>(try simp only[bY]at u);rotate_left;refine Z fV ?_;refine xG fV ?_;refine fq ?_;cases(I:N=R);exact aH.grow rfl c;let⟨y,v,dR⟩:=aA (l:=L) (k:=b) X;have d:=a (b+1);rw[Ou v,ar_,<-t]at d;refine Z fV ?_;refine H.op rfl (D.ind rfl rfl (eZ (l:=L) s v) (ec (f:=BG O) (m:=1) λ_=>rfl)) ?_;refine Z fV ?_;refine H.yd (f:=De O) (ys:=y) rfl rfl rfl c (λ_=>rfl) rfl (λ_=>rfl) (λ_=>rfl) X λP Q h3 S=>?_;refine Z fV ?_;refine cG λe T=>?_;refine Z fV ?_;exact bP (e,P,Q) [(1,2)] (b+1) ⟨I,S⟩
 let⟨x,w,aO⟩:=aA (l:=L) (k:=k) X;have d:=a (k+1);rw[Ou w,ar_]at d;refine Z fV ?_;refine H.op rfl (D.ind rfl rfl (eZ (l:=L) j w) (ec (f:=BG O) (m:=1) λ_=>rfl)) ?_;refine Z fV ?_;refine b8 λq V=>?_;rw[az]at V;refine Z fV ?_;refine cG λW Nk=>?_;refine Z fV ?_;refine bq (λA=>?_) λA=>?_<;>(try simp only[bY]at A);grind;refine Z fV ?_;refine cG λe T=>?_;refine Z fV ?_;exact bP (e,W) [] (k+1) I
theorem adI(a b:List (Tm×Tm))(h:(a++b).length<=100000000000):ab Y 301 [.sl true [[we O a],[we O b]]] (we O (a++b)):=by
 have e:(.sl true [[we O a],[we O b]]:AV)=aY O (BG O) true [a,b]:=by rw[bF];rfl
 have c:[a,b].flatten=a++b:=aB;rw[e];by_cases d:(a++b).length=0;grind[adG];grind[adH]
def aqG:=aD func303 call303
def Cj:List Nat:=[7,4,2,0,6,8,5,16]
def aqH:=aD func338 call338
def ama:List Nat:=[4,5,0,1]
def aqI:=aD func339 call339
def amb:List Nat:=[4,5,0,1]
def aqJ:=aD func340 call340
def amc:List Nat:=[4,5,0,1]
def aqK:=aD func343 call343
def Xz:List Nat:=[0,1,4]
def aqL:=aD func342 call342
def SL:List Nat:=[0,1,5,4,19]
def aqM:=aD func367 call367
def adJ:List Nat:=[1,5,6,8,2,0]
def aqN:=aD func341 call341
def avg:List Nat:=[2,0,1]
def aqO:=aD func325 call325
def XA:List Nat:=[3,2,0,4,6,8,10,13]
def af_:=aD func305 call305
def l8:List Nat:=[10,8,1,2,9,6,7,0,14,19,34,36]
def XC:=aD func304 call304
def jT:List Nat:=[1,2,0]
def aga:=aD func266 call266
def jK:List Nat:=[1,32,4,5,7,2,3,0,8,12,24,28,33,45,6]
theorem Ov(l:List Int)(j:l.length<=1099511627776):ab Y 303 [aY O aR false l] (.v (.bool (l.all iM))):=by
 let⟨R,b⟩:=aq (l.all iM);rw[<-b];refine st aqG Cj .v ?_;repeat' first|refine lg Cj λm n=>?_
 refine bE 0 0 [] (λi=>[(5,aY O aR false l),(6,.v (.int .i64 m)),(7,.v (.int .i64 i))]) [] (λ_=>[]) l.length (λk=>R=(l.drop k).all iM) (by simpa using b) λi k e o a=>?_;clear b;refine Z Cj ?_;by_cases f:k<l.length
 ·let⟨x,g,h⟩:=aA f;rw[h,aJ_]at a;let⟨p,d⟩:=aq ((l.drop (k+1)).all iM);rw[<-d]at a;repeat' first|refine og Cj (D.bh e g) ?_|refine cg Cj (λc=>?_) λc=>?_|refine ag Cj λ_ _=>?_|refine xG Cj ?_|refine rG Cj ?_|refine fq ?_
  all_goals first|refine aL ?_;rw[a];unfold iM;simp_all;omega|omega|exact cw _ [] (k+1) (by rw[a,<-d,wT.2 X,ay_])
 ·skip;repeat' first|refine cg Cj (λc=>?_) λc=>?_|refine xG Cj ?_|refine fq ?_
  all_goals first|omega|rw[a,al_ X];exact aL rfl
theorem SM(x:Int):ab Y 303 [aY O aR false [x]] (.v (.bool (iM x))):=by have:=Ov (Y:=Y) (O:=O) [x] aB;simpa using this
theorem aaz(x y:Int):ab Y 303 [aY O aR false [x,y]] (.v (.bool (iM x&&iM y))):=by have:=Ov (Y:=Y) (O:=O) [x,y] aB;simpa using this
theorem amd(a b:Int)(h1:-2147483648<=a)(h2:a<=2147483648)(h3:-2147483648<=b)(h4:b<=2147483648):ab Y 338 [iv a,iv b] (mX (a+b,0)):=by
 refine st aqH ama (kR _) ?_;repeat' first|refine ag ama λ_ _=>?_|refine fq ?_
 all_goals refine jQ ?_;simp_all
theorem ah5(a b:Int)(h1:-2147483648<=a)(h2:a<=2147483648)(h3:-2147483648<=b)(h4:b<=2147483648):ab Y 339 [iv a,iv b] (mX (a-b,0)):=by
 refine st aqI amb (kR _) ?_;repeat' first|refine ag amb λ_ _=>?_|refine fq ?_
 all_goals refine jQ ?_;simp_all
theorem ah6(a b:Int)(h1:-2147483648<=a)(h2:a<=2147483648)(h3:-2147483648<=b)(h4:b<=2147483648):ab Y 340 [iv a,iv b] (mX (a*b,0)):=by
 refine st aqJ amc (kR _) ?_;repeat' first|refine H.int rfl (D.adk rfl rfl X X X X) λq c=>?_;have d:=mbd c X X X X;refine Z amc ?_|refine fq ?_
 all_goals refine jQ ?_;simp_all
theorem Ly(a b:Int)(f:b≠0)(h1:-2147483648<=a)(h2:a<=2147483648):ab Y 342 [iv a,iv b] (iv (a.fdiv b)):=by
 let⟨R,c⟩:=aq (a.fdiv b);rw[<-c];rw[afU f]at c;have d:decide (a<0)≠decide (b<0)↔a<0/\¬b<0\/¬a<0/\b<0:=by by_cases h1:a<0<;>by_cases h2:b<0<;>simp[h1,h2]
 simp only[d]at c;clear d;refine st aqL SL .v ?_;repeat' first|refine H.int rfl (D.alG rfl rfl X X X) λq g=>?_;have h:=qbd g X X;refine Z SL ?_|refine ig SL (D.au4 rfl rfl X) λr i=>?_|exact dF e|refine cg SL (λe=>?_) λe=>?_|refine ag SL λ_ _=>?_|refine fq ?_
 all_goals refine dx ?_;subst_vars;split<;>omega
theorem aqP(a b:Int)(d:b≠0)(h1:-2147483648<=a)(h2:a<=2147483648)(h3:-2147483648<=b)(h4:b<=2147483648):ab Y 343 [iv a,iv b] (iv (a-a.fdiv b*b)):=by
 have c:=Ly (Y:=Y) a b d h1 h2;have e:=Vu d h1 h2;let⟨F,f⟩:=aq (a.fdiv b);rw[<-f]at c e⊢;refine st aqK Xz .v ?_;repeat' first|apply a8 Xz c|refine H.int rfl (D.adk rfl rfl X X X X) λq c=>?_;have g:=mbd c X X X X;refine Z Xz ?_|refine ag Xz λ_ _=>?_|refine fq ?_
 all_goals refine dx ?_;simp_all
def BH(f:FuncId):AV:=.v (.func (.func f) #[] #[])
theorem Ow(q:FuncId):ab Y 341 [BH q] (.fn (.func 367) [] [.ip [BH q]]):=by
 refine st aqN avg (.fn (λa c=>by cases c) λa c=>by cases ak_.1 c;exact .ip λb d=>by cases ak_.1 d;exact .v) ?_;repeat' first|refine fq ?_
 refine aH.fns ?_ ?_;exact trivial;exact⟨aH.box (cs:=[BH q]) (cs':=[BH q]) rfl ⟨.refl _,trivial⟩,trivial⟩
def Lz(n:ByteArray):AV:=if n.toList=(⟨⟨[43]⟩⟩:ByteArray).toList then BH 338 else if n.toList=(⟨⟨[45]⟩⟩:ByteArray).toList then BH 339 else if n.toList=(⟨⟨[42]⟩⟩:ByteArray).toList then BH 340 else if n.toList=(⟨⟨[47]⟩⟩:ByteArray).toList then .fn (.func 367) [] [.ip [BH 342]] else if n.toList=(⟨⟨[37]⟩⟩:ByteArray).toList then .fn (.func 367) [] [.ip [BH 343]] else .v .nilFunc
theorem SN(n:ByteArray):Pure (Lz n):=by
 have h:∀q,Pure (.fn (.func 367) [] [.ip [BH q]]):=λq=>.fn (λa c=>by cases c) λa c=>by cases ak_.1 c;exact .ip λb d=>by cases ak_.1 d;exact .v
 unfold Lz;repeat' split
 all_goals first|exact h _|exact .v
theorem agb(n:ByteArray):ab Y 325 [.v (.string n)] (Lz n):=by
 have c:=Ow (Y:=Y) 342;have d:=Ow (Y:=Y) 343;have a:=SN n;let⟨R,b⟩:=aq (Lz n);rw[<-b]at a⊢;unfold Lz at b;refine st aqO XA a ?_;repeat' first|apply a8 XA c|apply a8 XA d|refine cg XA (λe=>?_) λe=>?_|refine fq ?_
 all_goals clear c d a
 all_goals refine aH.of_eq ?_;rw[b];simp_all[BH];done
theorem aaA(q:FuncId)(a b r:Int)(d:b≠0->ab Y q [iv a,iv b] (iv r)):ab Y 367 [iv a,iv b,.ip [BH q]] (mX (if b=0 then(0,12) else(r,0))):=by
 let⟨R,c⟩:=aq (if b=0 then((0:Int),(12:Int)) else(r,0));rw[<-c];refine st aqM adJ (kR _) ?_;repeat' first|apply a8 adJ (d (by assumption))|refine cg adJ (λe=>?_) λe=>?_|refine fq ?_
 all_goals refine jQ ?_;rw[c];simp_all
theorem XD(x:Int):Wk (.sl ex [[iv x]]) (aY O aR false [x]):=by grind[bF,aR,Wk.sl]
theorem agc(x y:Int):Wk (.sl ex [[iv x],[iv y]]) (aY O aR false [x,y]):=by grind[bF,aR,Wk.sl]
theorem SO(n:ByteArray)(a b:Int)(g:FuncId)(p e:Int)(q:ab Y 325 [.v (.string n)] (.v (.func (.func g) #[] #[])))(f:iM a=true->iM b=true->ab Y g [iv a,iv b] (mX (p,e))):ab Y 305 [.v (.string n),iv a,iv b] (mX (if !(iM a&&iM b) then(0,5) else if e=0 then if iM p then(p,0) else(0,5) else(0,e))):=by
 have h:=aaz (Y:=Y) (O:=.plain) a b;have i:=SM (Y:=Y) (O:=.plain) p;let⟨R,d⟩:=aq (if !(iM a&&iM b) then((0:Int),(5:Int)) else if e=0 then if iM p then(p,0) else(0,5) else(0,e));rw[<-d];let⟨A,j⟩:=aq (iM a);let⟨B,k⟩:=aq (iM b);let⟨C,r⟩:=aq (iM p);rw[<-j,<-k]at d h;rw[<-j]at f;rw[<-k]at f;rw[<-r]at i d;clear j k r;let⟨u,l⟩:=aq (A&&B);rw[<-l]at h d;rw[mX]at f;refine st af_ l8 (kR _) ?_;refine H.op rfl (pl q) ?_;refine Z l8 ?_;refine H.op rfl (D.RV (b:=false) rfl rfl) ?_;refine Z l8 ?_;refine H.bif rfl (D.jN rfl h ⟨bJ _,trivial⟩ ⟨agc a b,trivial⟩) (λc=>?_) λc=>?_<;>refine Z l8 ?_;rotate_left;refine fq ?_;exact jQ I;subst c;have o:=dY_.1 l.symm;have s:=f o.1 o.2;rw[if_neg aB]at d;clear f;refine H.op rfl (pl s) ?_;refine Z l8 ?_;repeat' first|refine H.bif rfl (D.jN rfl i ⟨bJ _,trivial⟩ ⟨XD p,trivial⟩) (λc=>?_) λc=>?_<;>refine Z l8 ?_|refine bq (λc=>?_) λc=>?_<;>(try simp only[bY]at c)<;>(first|exact dF c|refine Z l8 ?_)|refine b8 λm t=>?_;(try rw[az]at t);refine Z l8 ?_|refine cG λ_ _=>?_;refine Z l8 ?_|refine gT λ_ _=>?_;refine Z l8 ?_|refine H.str rfl (D.cat rfl rfl (by assumption)) λ_ _=>?_;refine Z l8 ?_|refine xG l8 ?_|refine rG l8 ?_|refine fq ?_
 all_goals clear s i h q l o
 all_goals refine jQ ?_;rw[d];simp_all;done
theorem aaB(n:ByteArray)(a b:Int)(g q:FuncId)(p e:Int)(r:ab Y 325 [.v (.string n)] (.fn (.func g) [] [.ip [BH q]]))(f:iM a=true->iM b=true->ab Y g [iv a,iv b,.ip [BH q]] (mX (p,e))):ab Y 305 [.v (.string n),iv a,iv b] (mX (if !(iM a&&iM b) then(0,5) else if e=0 then if iM p then(p,0) else(0,5) else(0,e))):=by
 have h:=aaz (Y:=Y) (O:=.plain) a b;have i:=SM (Y:=Y) (O:=.plain) p;let⟨R,d⟩:=aq (if !(iM a&&iM b) then((0:Int),(5:Int)) else if e=0 then if iM p then(p,0) else(0,5) else(0,e));rw[<-d];let⟨A,j⟩:=aq (iM a);let⟨B,k⟩:=aq (iM b);let⟨C,s⟩:=aq (iM p);rw[<-j,<-k]at d h;rw[<-j]at f;rw[<-k]at f;rw[<-s]at i d;clear j k s;let⟨v,l⟩:=aq (A&&B);rw[<-l]at h d;rw[mX]at f;refine st af_ l8 (kR _) ?_;refine H.op rfl (pl r) ?_;refine Z l8 ?_;refine H.op rfl (D.RV (b:=false) rfl rfl) ?_;refine Z l8 ?_;refine H.bif rfl (D.jN rfl h ⟨bJ _,trivial⟩ ⟨agc a b,trivial⟩) (λc=>?_) λc=>?_<;>refine Z l8 ?_;rotate_left;refine fq ?_;exact jQ I;subst c;have o:=dY_.1 l.symm;have t:=f o.1 o.2;rw[if_neg aB]at d;clear f;refine H.op rfl (pl t) ?_;refine Z l8 ?_;repeat' first|refine H.bif rfl (D.jN rfl i ⟨bJ _,trivial⟩ ⟨XD p,trivial⟩) (λc=>?_) λc=>?_<;>refine Z l8 ?_|refine bq (λc=>?_) λc=>?_<;>(try simp only[bY]at c)<;>(first|exact dF c|refine Z l8 ?_)|refine b8 λm u=>?_;(try rw[az]at u);refine Z l8 ?_|refine cG λ_ _=>?_;refine Z l8 ?_|refine gT λ_ _=>?_;refine Z l8 ?_|refine H.str rfl (D.cat rfl rfl (by assumption)) λ_ _=>?_;refine Z l8 ?_|refine xG l8 ?_|refine rG l8 ?_|refine fq ?_
 all_goals clear t i h r l o
 all_goals refine jQ ?_;rw[d];simp_all;done
theorem ah7(n:ByteArray)(a b:Int)(o:eR n=true):ab Y 305 [.v (.string n),iv a,iv b] (mX (Oa n a b)):=by
 have e:=agb (Y:=Y) n;have j:∀x y:Int,iM x=true->iM y=true->-2147483648<=x/\x<=2147483648/\-2147483648<=y/\y<=2147483648:=λx y c d=>⟨(wT.1 c).1,(wT.1 c).2,(wT.1 d).1,(wT.1 d).2⟩;have m:n.toList=[43]\/n.toList=[45]\/n.toList=[42]\/n.toList=[47]\/n.toList=[37]:=by grind[eR,Oh]
 unfold Lz at e;unfold Oa N_;simp only[Oh]at e;rcases m with h|h|h|h|h<;>simp only[h]at e⊢;exact SO n a b _ _ _ e λc d=>by grind[amd]
 exact SO n a b _ _ _ e λc d=>by grind[ah5]
 exact SO n a b _ _ _ e λc d=>by grind[ah6]
 exact aaB n a b _ _ _ _ e λc d=>by let⟨f,g,k,l⟩:=j a b c d;exact aaA _ a b _ λi=>Ly a b i f g
 exact aaB n a b _ _ _ _ e λc d=>by let⟨f,g,k,l⟩:=j a b c d;exact aaA _ a b _ λi=>aqP a b i f g k l
theorem ah8(n:ByteArray):MJ (Lz n)=some ! eR n:=by
 unfold Lz;by_cases h:eR n=true;rw[h];have b:n.toList=[43]\/n.toList=[45]\/n.toList=[42]\/n.toList=[47]\/n.toList=[37]:=by grind[eR,Oh]
 simp only[Oh];rcases b with h|h|h|h|h<;>simp only[h]<;>rfl;have a:=h;unfold eR at a;simp only[cf_,beq_iff_eq,not_or]at a;let⟨⟨⟨⟨c,d⟩,e⟩,f⟩,g⟩:=a;rw[if_neg c,if_neg d,if_neg e,if_neg f,if_neg g,co_.2 h];rfl
theorem ame(x:Tm):ab Y 304 [tm O x] (.v (.bool (decide (x.k=2)&&decide (x.a.length=2)&&eR x.n))):=by
 have d:=agb (Y:=Y) x.n;have j:=SN x.n;have g:=ah8 x.n;let⟨e,o⟩:=aq (eR x.n);rw[<-o]at g⊢;clear o;let⟨F,p⟩:=aq (Lz x.n);rw[<-p]at d j g;have key:(∃f l m,F=.fn f l m/\e=true)\/(∃f a b,F=.v (.func f a b)/\e=true)\/F=.v .nilFunc/\e=false:=by unfold MJ at g;split at g;grind;grind;grind;grind
 clear p g j;let⟨k,i,n,a⟩:=x;simp only at d⊢;rcases key with⟨f,l,m,rfl,rfl⟩|⟨f,l,m,rfl,rfl⟩|⟨rfl,rfl⟩
 ·skip;refine st XC jT .v ?_;repeat' first|refine H.op rfl (pl d) ?_;refine Z jT ?_|refine H.op rfl (D.RV (b:=false) rfl rfl) ?_;refine Z jT ?_|refine bq (λc=>?_) λc=>?_<;>(try simp only[bY]at c)<;>(first|exact dF c|refine Z jT ?_)|refine b8 λm h=>?_;(try rw[az]at h);refine Z jT ?_|refine cG λ_ _=>?_;refine Z jT ?_|refine gT λ_ _=>?_;refine Z jT ?_|refine H.str rfl (D.cat rfl rfl (by assumption)) λ_ _=>?_;refine Z jT ?_|refine xG jT ?_|refine rG jT ?_|refine fq ?_
  all_goals clear d;refine aL ?_;simp_all<;>omega
 ·skip;refine st XC jT .v ?_;repeat' first|refine H.op rfl (pl d) ?_;refine Z jT ?_|refine H.op rfl (D.RV (b:=false) rfl rfl) ?_;refine Z jT ?_|refine bq (λc=>?_) λc=>?_<;>(try simp only[bY]at c)<;>(first|exact dF c|refine Z jT ?_)|refine b8 λm h=>?_;(try rw[az]at h);refine Z jT ?_|refine cG λ_ _=>?_;refine Z jT ?_|refine gT λ_ _=>?_;refine Z jT ?_|refine H.str rfl (D.cat rfl rfl (by assumption)) λ_ _=>?_;refine Z jT ?_|refine xG jT ?_|refine rG jT ?_|refine fq ?_
  all_goals clear d;refine aL ?_;simp_all<;>omega
 ·skip;refine st XC jT .v ?_;repeat' first|refine H.op rfl (pl d) ?_;refine Z jT ?_|refine H.op rfl (D.RV (b:=true) rfl rfl) ?_;refine Z jT ?_|refine bq (λc=>?_) λc=>?_<;>(try simp only[bY]at c)<;>(first|exact dF c|refine Z jT ?_)|refine b8 λm h=>?_;(try rw[az]at h);refine Z jT ?_|refine cG λ_ _=>?_;refine Z jT ?_|refine gT λ_ _=>?_;refine Z jT ?_|refine H.str rfl (D.cat rfl rfl (by assumption)) λ_ _=>?_;refine Z jT ?_|refine xG jT ?_|refine rG jT ?_|refine fq ?_
  all_goals clear d;refine aL ?_;simp_all<;>omega
end
end Go.Proofs.YtbdcmpknicjopaaGreat
