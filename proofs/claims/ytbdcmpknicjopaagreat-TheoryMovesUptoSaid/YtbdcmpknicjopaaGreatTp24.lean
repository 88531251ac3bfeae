import Derived.Test.YtbdcmpknicjopaaGreatTp23
namespace Go.Proofs.YtbdcmpknicjopaaGreat
set_option linter.all false
set_option maxRecDepth 100000
open Go.RowKit Proofs.Tryz
variable{O:Hd}{P:Program}{S S':ah}{U:AA}{Y:World}{b dr:Bool}{hi lo mx:Option QO}{n:Nat}{r:AV}{x:QO}
variable{o:Oper}
section
attribute [local irreducible] ao aF D H
def as6:=aC func27 call27
def n_:List Nat:=[3,8,7,2,4,0,1,6,27,40,45,68,73,104]
def Hz(p:Pg)(s:c_)(x:Gl):Bool:=zz p.ds x&&je (varsOf x.a) s.fresh s.binds
def Cu(s:c_)(x:Gl):Bool:=de x&&(decide (5<=x.op)&&je (varsOf x.a) s.fresh s.binds)
def F3(p:Pg)(s:c_):Bool:=decide ((vk p).2=0)&&(decide (s.goals.length<=1000)&&(decide (s.known.length<=500)&&(yW p s.store s.binds s.bf s.next s.fresh&&(s.goals.all (Hz p s)&&s.known.all (Cu s)))))
set_option maxHeartbeats 4000000 in theorem YM(p:Pg)(s:c_)(t:Cs p)(hs:Iv s)(C:∀r∈p.rs,M4 r):ab Y 27 [pg O p,uM O s] (.v (.bool (F3 p s))):=by
 have y:=abB (Y:=Y) (O:=O) p t C;have z:=abE (Y:=Y) (O:=O) p s.store s.binds s.bf s.next s.fresh t.ds t.rs (λr hr=>(C r hr).h) hs.st hs.bl hs.fl hs.sx hs.bx hs.fx;have jh:=m8 (O:=O) p;have e:∀x∈s.goals,_:=λx b=>aga (Y:=Y) (O:=O) p x t.ds (hs.gx x b);have f:∀x∈s.goals,_:=λx b=>TQ (Y:=Y) (O:=O) x s.fresh s.binds hs.bl (hs.gx x b);have g:∀x∈s.known,_:=λx b=>TQ (Y:=Y) (O:=O) x s.fresh s.binds hs.bl (hs.kx x b);have h:∀x∈s.known,_:=λx b=>zc (Y:=Y) (O:=O) x (hs.kx x b).1 (hs.kx x b).2;have AU:=hs.gl;have ir:=hs.kl;let⟨R,d⟩:=aq (F3 p s);rw[<-d];unfold F3 at d;let⟨⟨c1,S⟩,T⟩:∃c,c=vk p:=⟨_,rfl⟩;rw[<-T]at y d;dsimp only at y d;let⟨A,V⟩:=aq (yW p s.store s.binds s.bf s.next s.fresh);rw[<-V]at z d;let⟨W,l⟩:=aq (Hz p s);let⟨E,J⟩:=aq (Cu s);rw[<-l,<-J]at d;have YH:∀x,W x=(zz p.ds x&&je (varsOf x.a) s.fresh s.binds):=λx=>by rw[l,Hz]
 have u:∀x,E x=(de x&&(decide (5<=x.op)&&je (varsOf x.a) s.fresh s.binds)):=λx=>by rw[J,Cu]
 clear V T hs t C l J;let⟨K,rs⟩:=p;let⟨goals,store,B,bf,i,next,fresh,failed⟩:=s;dsimp only at z e f g h AU ir YH u d;refine st as6 n_ .v ?_;repeat' first|apply bk n_ y|refine bg n_ (pl z) (λ_=>?_) λ_=>?_|refine cg n_ (λj=>?_) λj=>?_|refine lg n_ λm hm=>?_|refine fq ?_
 all_goals first|refine aK ?_;rw[d,decide_eq_false (show¬S=0 by omega)];rfl|refine aK ?_;rw[d,decide_eq_false (show¬goals.length<=1000 by omega)];simp;done|refine aK ?_;rw[d,decide_eq_false (show¬i.length<=500 by omega)];simp;done|refine aK ?_;rw[d,show A=false by grind];simp;done|skip
 rw[decide_eq_true (show S=0 by omega),decide_eq_true (show goals.length<=1000 by omega),decide_eq_true (show i.length<=500 by omega),show A=true by grind]at d;simp only[az_]at d;clear y z;let⟨T2,L⟩:=aq (i.all E);rw[<-L]at d;refine bD 2 2 [] (λq=>[(2,.pt 0 2 0 0),(3,.pt 1 8 0 0),(7,.v (.int .i64 q))]) [] (λ_=>[(0,.arr 2 [jk O ⟨K,rs⟩] 0 true),(1,.arr 8 [qe O ⟨goals,store,B,bf,i,next,fresh,failed⟩] 0 true)]) goals.length (λk=>R=((goals.drop k).all W&&T2)) X λq k hi hk a=>?_;clear d;refine I n_ ?_;by_cases au:k<goals.length
 ·let⟨x,b,M⟩:=aA au;have hP:=e x (aZ b);have v:=f x (aZ b);rw[M,aJ_,cp_,YH]at a;let⟨P,n⟩:=aq (zz K x);let⟨F,o⟩:=aq (je (varsOf x.a) fresh B);rw[<-n,<-o]at a;rw[<-n]at hP;rw[<-o]at v;clear n o e f g h;have vO:=jH (O:=O) x;let⟨N,xn,xa⟩:=x;refine H.int rfl (D.len rfl) λm0 w=>?_;rw[az]at w;refine I n_ ?_;repeat' first|refine og n_ (D.bh hi b) ?_|refine bg n_ (pl hP) (λ_=>?_) λ_=>?_|refine bg n_ (pl v) (λ_=>?_) λ_=>?_|refine cg n_ (λj=>?_) λj=>?_|refine ag n_ λ_ _=>?_|refine xG n_ ?_|refine rG n_ ?_|refine fq ?_
  all_goals first|omega|refine aK ?_;rw[a,show P=false by grind];rfl|refine aK ?_;rw[a,show F=false by grind];simp;done|rw[show P=true by grind,show F=true by grind,az_,az_]at a;exact cB _ [] (k+1) a
 rw[aq_ Z,bl_,az_,L]at a;clear L e f;refine H.int rfl (D.len rfl) λm0 w=>?_;rw[az]at w;refine I n_ ?_;repeat' first|refine cg n_ (λj=>?_) λj=>?_|refine xG n_ ?_
 all_goals first|omega|skip
 refine H.g5 (σ:=Int) 2 2 [] (λq=>[(2,.pt 0 2 0 0),(3,.pt 1 8 0 0),(8,.v (.int .i64 q))]) [] (λ_=>[(0,.arr 2 [jk O ⟨K,rs⟩] 0 true),(1,.arr 8 [qe O ⟨goals,store,B,bf,i,next,fresh,failed⟩] 0 true)]) (λq=>∃k:Nat,q=k/\k<=i.length/\R=(i.drop k).all E) (λq=>i.length-q.toNat) 0 ⟨0,rfl,aB,X⟩ rfl cz ?_;clear a;rintro q2⟨k2,ij,eT,a⟩;refine I n_ ?_;by_cases j9:k2<i.length
 ·let⟨x,b,M⟩:=aA j9;have hG:=h x (aZ b);have v:=g x (aZ b);rw[M,aJ_,u]at a;let⟨G,Q⟩:=aq (de x);let⟨F,o⟩:=aq (je (varsOf x.a) fresh B);rw[<-Q,<-o]at a;rw[<-Q]at hG;rw[<-o]at v;clear Q o g h;have vO:=jH (O:=O) x;let⟨N,xn,xa⟩:=x;dsimp only at a;refine H.int rfl (D.len rfl) λm0 w=>?_;rw[az]at w;refine I n_ ?_;repeat' first|refine og n_ (D.bh ij b) ?_|refine bg n_ (pl hG) (λ_=>?_) λ_=>?_|refine bg n_ (pl v) (λ_=>?_) λ_=>?_|refine cg n_ (λj=>?_) λj=>?_|refine ag n_ λ_ _=>?_|refine xG n_ ?_|refine rG n_ ?_|refine fq ?_
  all_goals first|omega|refine aK ?_;rw[a,show G=false by grind];rfl|refine aK ?_;rw[a,decide_eq_false (show¬5<=N by omega)];simp;done|refine aK ?_;rw[a,show F=false by grind];simp;done|rw[show G=true by grind,decide_eq_true (show 5<=N by omega),show F=true by grind,az_,az_,az_]at a;exact cB _ [] (k2+1) a
 rw[aq_ Z,bl_]at a;repeat' first|refine cg n_ (λj=>?_) λj=>?_|refine lg n_ λm hm=>?_|refine xG n_ ?_|refine fq ?_
 all_goals first|omega|rw[a];exact aK rfl
end
theorem YN{o:Int}(h:o<0\/12<o):arity o=-1:=by grind[arity]
theorem M6{x:Gl}(h:de x=true):0<=x.op/\x.op<=12:=by grind[de,YN]
theorem agx(p:Pg)(s:c_)(x:Gl):wO p s x=Hz p s x:=by unfold wO Hz zz;cases a:de x with|false=>rfl|true =>have b:=M6 a;rw[az_,az_,Bool.and_comm];congr 1;unfold g8;rw[bH_];by_cases c:x.op=0;grind;grind
theorem agy(p:Pg)(s:c_)(x:Im):AT p s x=AX p s.next s.fresh s.binds x:=by grind[AT,AX,je]
theorem abF(s:c_)(x:Gl):vi s x=Cu s x:=by unfold vi Cu nr;cases a:de x with|false=>simp|true =>have b:=M6 a;rw[decide_eq_true b.2,bG_,bG_,az_]
theorem agz(p:Pg)(s:c_)(x:Fi)(h:0<=x.tG):AI p s x=yH p s.store x:=by unfold AI yH;rw[decide_eq_true h,az_];cases p.rs[x.tG.toNat]? with|none=>rfl|some r =>simp only;cases a:r.rem with|nil=>simp|cons y l=>rfl
theorem bind_eq(s:c_)(x:Bd)(h:uT s.binds=true)(c:x∈s.binds):Dx s x=AY s.fresh s.binds x:=by unfold Dx AY je;have a:=aZ_.1 (aZ_.1 h x c);congr 1;generalize varsOf [x.t]=b at a;induction b with|nil=>rfl|cons v b d =>have e:=a v aB;rw[bI_,aJ_,<-d λy f=>a y X,e,bG_,Bool.not_or];congr 1;rw[bH_];simp
theorem all_congr{T:Type}{f g:T->Bool}:∀{l:List T},(∀x∈l,f x=g x)->l.all f=l.all g|[],_=>rfl|x::l,h=>X
theorem YO(p:Pg)(s:c_):eY p s=F3 p s:=by grind[eY,F3,yW,FZ,abC,all_congr,agx,agy,abF,m7,k_,uT,agz,FY,bind_eq,vk,nL,Hz,AX,Cu,yH,AY]
theorem mu{U:Type}{μ:U->Nat}:∀{l:List U}{x:U},x∈l->μ x<=eR μ l|y::l,x,h=>by rw[eR];rcases al_.1 h with rfl|h;omega;have:=mu (μ:=μ) h;omega
theorem iE{U:Type}{μ:U->Nat}(h:∀x,1<=μ x):∀l:List U,l.length<=eR μ l|[]=>ad_ _|x::l=>by have a:=h x;have b:=iE h l;rw[eR,aC_];omega
theorem zQ{U:Type}{μ:U->Nat}:∀a b:List U,eR μ (a++b)=eR μ a+eR μ b|[],b=>by rw[aO_,eR];omega|x::a,b=>by rw[aP_,eR,eR,zQ a b];omega
theorem ajG(x:Tm):5<=mT x:=by let⟨k,i,n,a⟩:=x;rw[mT];omega
theorem Uh(l:List Tm):l.length<=t_ l:=by rw[<-mY];exact iE λx=>by have:=ajG x;omega l
mutual theorem aeq:∀(N:Nat)(x:Tm),N<=1099511627776->mT x<=N->x.ok|N,⟨k,i,n,a⟩,b,h=>by rw[mT]at h;have:=Uh a;rw[Tm.ok,Qk];exact⟨Z,Z,Ks N a b Z⟩;theorem Ks:∀(N:Nat)(l:List Tm),N<=1099511627776->t_ l<=N->dR l|N,[],_,_=>by rw[dR];trivial|N,x::l,b,h=>by rw[t_]at h;rw[dR];exact⟨aeq N x b Z,Ks N l b Z⟩;end
mutual theorem Ui:∀x:Tm,dm x<=mT x|⟨k,i,n,a⟩=>by have:=wj a;rw[dm,mT];split<;>omega;theorem wj:∀l:List Tm,bt l<=t_ l|[]=>by rw[bt,t_];exact ad_ _|x::l=>by have:=Ui x;have:=wj l;rw[bt,t_];omega;end
def Ql{l:List Tm}(h:t_ l<=1099511627776):pD l:=⟨Ks _ l (ad_ _) h,aA_ (wj l) h⟩
theorem Kt{x:Gl}(h:uL x<=1099511627776):Fu x:=by unfold uL at h;exact⟨Ql Z,Z⟩
theorem HA(x:At):1<=qW x:=by unfold qW;omega
theorem yX(x:Gl):1<=uL x:=by unfold uL;omega
theorem YP:∀l:List At,t_ (gj l)<=eR qW l|[]=>ad_ _|x::l=>by have h:=YP l;rw[show gj (x::l)=x.a++gj l from rfl,<-mY,zQ,mY,mY,eR,qW];omega
theorem YQ:∀l:List Gl,t_ (nG l)<=eR uL l|[]=>ad_ _|x::l=>by have h:=YQ l;rw[show nG (x::l)=x.a++nG l from rfl,<-mY,zQ,mY,mY,eR,uL];omega
theorem VZ:∀l:List At,(Ez l).length<=eR qW l|[]=>ad_ _|x::l=>by have h:=VZ l;have a:=uU x.a;have b:=wj x.a;rw[show Ez (x::l)=varsOf x.a++Ez l from rfl,av_,eR,qW];omega
theorem V0:∀l:List Gl,(Ch l).length<=eR uL l|[]=>ad_ _|x::l=>by have h:=V0 l;have a:=uU x.a;have b:=wj x.a;rw[show Ch (x::l)=varsOf x.a++Ch l from rfl,av_,eR,uL];omega
theorem ajH{r:Rl}(h:Eu r<=1048576):Co r:=by
 have c:=iE HA r.aQ;have d:=iE HA r.rem;have e:=iE yX r.guard;have f:=iE yX r.body;have g:=VZ r.aQ;have i:=VZ r.rem;have j:=V0 r.guard;have k:=V0 r.body;unfold Eu at h;have at_:∀x:At,qW x<=1048576->pD x.a/\x.n.size<=1099511627776:=λx a=>by unfold qW at a;exact⟨Ql Z,Z⟩
 refine⟨Z,Z,Z,Z,Z,λx a=>at_ x ?_,λx a=>at_ x ?_,λx a=>Kt ?_,λx a=>Kt ?_,?_,?_⟩;have:=mu (μ:=qW) a;omega;have:=mu (μ:=qW) a;omega;have:=mu (μ:=uL) a;omega;have:=mu (μ:=uL) a;omega;rw[u6,show Il [r.aQ,r.rem]=Ez r.aQ++(Ez r.rem++[]) from rfl,aI_,av_];omega;rw[AL,show sY [r.guard,r.body]=Ch r.guard++(Ch r.body++[]) from rfl,aI_,av_];omega
theorem ajI{r:Rl}(h:Eu r<=1048576):M4 r:=by
 have c:=iE HA r.aQ;have d:=iE HA r.rem;have e:=iE yX r.guard;have f:=iE yX r.body;unfold Eu at h;have a:=YP (r.aQ++r.rem);have b:=YQ (r.guard++r.body);rw[zQ]at a b;have k3:t_ (gj (r.aQ++r.rem)++nG (r.guard++r.body))<=1048576:=by rw[<-mY,zQ,mY,mY];omega
 have k4:=Uh (gj (r.aQ++r.rem)++nG (r.guard++r.body));have k5:=wJ (gj (r.aQ++r.rem)++nG (r.guard++r.body));have k6:=wj (gj (r.aQ++r.rem)++nG (r.guard++r.body));exact⟨Z,Z,Z,Ks _ _ (ad_ _) Z,Z⟩
theorem ajJ{p:Pg}(h:Xy p<=1048576):Cs p/\∀r∈p.rs,M4 r:=by
 have c:=iE (μ:=MF) λx=>by unfold MF;omega p.ds;have f:=iE (μ:=Eu) λx=>by unfold Eu;omega p.rs;unfold Xy at h;have a:∀r∈p.rs,Eu r<=1048576:=λr a=>by have:=mu (μ:=Eu) a;omega
 refine⟨⟨Z,Z,λd e=>?_,λr h=>ajH (a r h)⟩,λr h=>ajI (a r h)⟩;have:=mu (μ:=MF) e;unfold MF at this c h;omega
theorem ajK{s:c_}(h:O5 s<=1048576):Iv s:=by have e:=iE yX s.goals;have f:=iE (μ:=MB) λx=>by unfold MB;omega s.store;have g:=iE (μ:=MC) λx=>by unfold MC;omega s.binds;have i:=iE (μ:=MD) λx=>by unfold MD;omega s.bf;have j:=iE yX s.known;unfold O5 at h;refine⟨Z,Z,Z,Z,Z,λx a=>Kt ?_,λx a=>?_,λx a=>?_,λx a=>?_,λx a=>Kt ?_⟩;have:=mu (μ:=uL) a;omega;have c:=mu (μ:=MB) a;have d:MB x=x.n.size+t_ x.a+5:=rfl;exact⟨Ql Z,Z⟩;have c:=mu (μ:=MC) a;have d:MC x=mT x.t+2:=rfl;have k:=Ui x.t;exact⟨aeq _ _ (ad_ _) Z,Z⟩;have c:=mu (μ:=MD) a;have d:MD x=x.ids.length+3:=rfl;show x.ids.length<=1099511627776;omega;have:=mu (μ:=uL) a;omega
section
attribute [local irreducible] ao aF D H
end
theorem YR(a:Int):jz a a=0:=by grind[jz]
theorem Qm:∀l:List UInt8,Op.bytesLess l l=false|[]=>rfl|x::l=>by simp only[Op.bytesLess];have:=Qm l;simp[this]
theorem YS(a:ByteArray):zR a a=0:=by grind[zR,Qm]
def iF(n:Int):Bool:=decide (-2147483648<=n)&&decide (n<=2147483648)
def M7(n:ByteArray)(a b:Int):Int×Int :=if n.toList=[43] then(a+b,0) else if n.toList=[45] then(a-b,0) else if n.toList=[42] then(a*b,0) else if b=0 then(0,12) else if n.toList=[47] then(a.fdiv b,0) else(a-a.fdiv b*b,0)
def M8(n:ByteArray)(a b:Int):Int×Int:=if !(iF a&&iF b) then(0,5) else if(M7 n a b).2=0 then if iF (M7 n a b).1 then((M7 n a b).1,0) else(0,5) else(0,(M7 n a b).2)
mutual def o8:Tm->Int×Int|⟨k,i,n,a⟩=>if k=1 then(0,17) else if k=0 then if iF i then(i,0) else(0,5) else if k=2/\a.length=2/\eP n=true then abG n a else(0,11)def abG(n:ByteArray):List Tm->Int×Int|[]=>(0,11)|x::l=>match l with|[]=>(0,11)|y::_=>match o8 x with|(p,e)=>if e=0 then match o8 y with|(q,f)=>if f=0 then M8 n p q else(0,f) else(0,e)end
mutual def oA:Tm->Bool|⟨k,i,n,a⟩=>if k=0\/k=1 then true else decide (k=2)&&(eP n&&(decide (a.length=2)&&Oj a))def Oj:List Tm->Bool|[]=>true|x::l=>oA x&&Oj l end
def sO(t:Tm):Bool:=(varsOf [t]).isEmpty
def V1(op x y:Int):Bool:=if op=7 then decide (x<y) else if op=8 then decide (x<=y) else if op=9 then decide (x=y) else decide (x≠y)
def pS(b:Bool):Int:=if b then 1 else 2
def wP(op:Int)(a b:Tm):Int:=if !oA a ||!oA b then 2 else if !sO a ||!sO b then 0 else if(o8 a).2=0/\(o8 b).2=0 then pS (V1 op (o8 a).1 (o8 b).1) else 2
def kO(g:Gl):Bool:=nr g.op&&de g
noncomputable def abH(a b:Tm):Bool:=decide ((ou iX [(a,b)]).2=0\/(ou iX [(a,b)]).2=6)
noncomputable def Qn(op:Int):List Tm->Int|[]=>0|a::l=>if op=11 then if a.k=1 then 0 else pS (decide (a.k=0)) else if op=12 then if sO a then 1 else 0 else match l with|[]=>0|b::_=>if op=5\/op=6 then if fe a b=0 then pS (decide (op=5)) else if abH a b then 0 else pS (decide (op=6)) else wP op a b
noncomputable def nn(g:Gl):Int:=if kO g then Qn g.op g.a else pS (decide (g.op=1)&&de g)
noncomputable def s_(b:List Bd)(a:List Gl)(g:Gl):Int:=if kO (gy b g)&&a.any λk=>nt (gy b k) (gy b g) then 1 else nn (gy b g)
theorem HB{a b:Int}:jz a b=0↔a=b:=⟨FC,λh=>by grind[YR]⟩
theorem LX{a b:Int}:fZ a b=0↔a=0/\b=0:=by grind[fZ]
theorem ajL{a b:ByteArray}:zR a b=0↔a.toList=b.toList:=by constructor;grind[zR];intro h;have:=YS a;unfold zR at this⊢;rw[<-h];exact this
theorem ajM{x y:Tm}:fe x y=0↔iQ x.k=iQ y.k/\if iQ x.k=0\/iQ x.k=1 then x.i=y.i else if iQ x.k=2 then x.a.length=y.a.length/\x.n.toList=y.n.toList/\jt x.a y.a=0 else x.k=y.k/\x.i=y.i/\x.n.toList=y.n.toList:=by let⟨k,i,n,a⟩:=x;rw[fe,LX,HB];simp only;refine and_congr ck_ ?_;split;exact HB;grind[LX,HB,ajL]
mutual theorem agA:∀(x y:Tm),fe x y=0->fe y x=0 |⟨k,i,n,a⟩,y,h=>by rw[ajM]at h⊢;simp only at h⊢;let⟨e,d⟩:=h;refine⟨e.symm,?_⟩;rw[e]at d;split;grind;rename_i c;rw[if_neg c]at d;split;rename_i f;rw[if_pos f]at d;exact⟨d.1.symm,d.2.1.symm,DG a y.a d.2.2⟩;grind;theorem DG:∀(a b:List Tm),jt a b=0->jt b a=0|[],[],h=>h|[],y::b,h=>by grind[jt,HB]|x::a,[],h=>by grind[jt]|x::a,y::b,h=>by rw[jt,LX]at h⊢;exact⟨agA x y h.1,DG a b h.2⟩;end
theorem abI(x y:Gl):nt x y=nt y x:=by
 have key:∀x y:Gl,nt x y=true->nt y x=true:=λx y h=>by grind[nt,DG]
 rw[bH_];exact⟨key x y,key y x⟩
inductive Tr(U:Type) where|nil|nd (l:Tr U) (v:Option U) (r:Tr U)
def Qo{U:Type}:Nat->Tr U->Nat->U->Tr U
 |0,t,_,_=>t|m+1,.nil,k,a=>match Nat.beq k 0 with|true=>.nd .nil (some a) .nil|false=>match Nat.beq (k%2) 1 with|true=>.nd (Qo m .nil (k/2) a) none .nil|false=>.nd .nil none (Qo m .nil (k/2-1) a)
 |m+1,.nd l v r,k,a=>match Nat.beq k 0 with|true=>.nd l (some a) r|false=>match Nat.beq (k%2) 1 with|true=>.nd (Qo m l (k/2) a) v r|false=>.nd l v (Qo m r (k/2-1) a)
def put{U:Type}(t:Tr U)(k:Nat)(a:U):Tr U:=Qo (k+1) t k a
abbrev zy9:=Nat->(Nat->Nat->Prop)->(Nat->Prop)->World->Prop
structure XS where
 m:Tr (Option Ob)nx:Nat
 lw:Nat
 yk:Option Nat
 an:Nat
 lg:List (List AV×Bool)
def wo(F:AV->Option AV):List AV->Option (List AV)|[]=>some []|a::l=>match F a with
  |some b=>match wo F l with|some c=>some (b::c)|none=>none
  |none=>none
def F4(F:AV->Option AV):List (List AV)->Option (List (List AV))|[]=>some []|a::l=>match wo F a with
  |some b=>match F4 F l with|some c=>some (b::c)|none=>none
  |none=>none
def nH(S:ah):Nat->AV->Option AV|0,_=>none|m+1,a=>match a with
  |.v x=>some (.v x)|.agg l=>match wo (nH S m) l with|some b=>some (.agg b)|none=>none
  |.aL l=>match wo (nH S m) l with|some b=>some (.aL b)|none=>none
  |.sl _ rows=>match F4 (nH S m) rows with|some b=>some (.sl false b)|none=>none
  |.ip g=>match wo (nH S m) g with|some b=>some (.ip b)|none=>none
  |.fn f l c=>match wo (nH S m) l,wo (nH S m) c with|some b,some h=>some (.fn f b h)|_,_=>none
  |.ob k e off len _=>match S.get k with
   |some (.arr d rows _ _)=>match Nat.beq d e&&Nat.ble (off+len) rows.length with
    |true=>match F4 (nH S m) ((rows.drop off).take len) with|some b=>some (.sl false b)|none=>none
    |false=>none
   |_=>none
  |.gr k e len=>match S.get k with
   |some (.arr d rows _ _)=>match Nat.beq d e&&Nat.ble len rows.length with
    |true=>match F4 (nH S m) (rows.take len) with|some b=>some (.sl false b)|none=>none
    |false=>none
   |_=>none
  |.pt k e i j=>match S.get k with
   |some (.arr d rows _ _)=>match Nat.beq d e with
    |true=>match rows[i]? with
     |some row=>match Nat.ble j row.length with
      |true=>match wo (nH S m) (row.drop j) with|some b=>some (.ip b)|none=>none
      |false=>none
     |none=>none
    |false=>none
   |_=>none
  |_=>none
def BF(F:AV->Bool):List AV->Bool|[]=>true|a::l=>match F a with|true=>BF F l|false=>false
def V4(F:AV->Bool):List (List AV)->Bool|[]=>true|a::l=>match BF F a with|true=>V4 F l|false=>false
def DH:Nat->AV->Bool|0,_=>false|m+1,a=>match a with
  |.v _=>true|.agg l|.aL l|.ip l=>BF (DH m) l|.sl _ rows=>V4 (DH m) rows|.fn _ l c=>match BF (DH m) l with|true=>BF (DH m) c|false=>false
  |_=>false
theorem q8{F:AV->Bool}:∀{l:List AV},BF F l=true->∀a∈l,F a=true|[],_,a,h=>X|b::l,c,a,h=>by simp only[BF]at c;split at c;rename_i d;rcases al_.1 h with rfl|h;grind;exact q8 c a h;grind
theorem Qp{F:AV->Bool}:∀{l:List (List AV)},V4 F l=true->∀r∈l,∀a∈r,F a=true|[],_,a,h=>X|b::l,c,a,h=>by simp only[V4]at c;split at c;rename_i d;rcases al_.1 h with rfl|h;exact q8 d;exact Qp c a h;grind
theorem lE:∀{m:Nat}{a:AV},DH m a=true->Pure a|0,a,h=>by cases h|m+1,a,h=>by cases a with|v x=>exact .v|agg l=>exact .agg λa b=>lE (q8 h a b)|aL l=>exact .aL λa b=>lE (q8 h a b)|ip l=>exact .ip λa b=>lE (q8 h a b)|sl g rows=>exact .sl λr d a b=>lE (Qp h r d a b)|fn f l c =>simp only[DH]at h;split at h;rename_i e;exact .fn (λa b=>lE (q8 e a b)) λa b=>lE (q8 h a b);grind|_=>cases h
theorem Qq{m:Nat}:∀{l:List AV},BF (DH m) l=true->ja l|[],_=>trivial|a::l,h=>by simp only[BF]at h;split at h;rename_i b;exact⟨lE b,Qq h⟩;grind
theorem HC{F:AV->Option AV}:∀{l c:List AV},wo F l=some c->l.length=c.length/\∀(i:Nat)(a a':AV),l[i]?=some a->c[i]?=some a'->F a=some a'
 |[],c,h=>by cases oJ_ h;exact⟨rfl,λi a a' h=>X⟩|b::l,c,h=>by
  simp only[wo]at h;split at h;rename_i k f;split at h;rename_i m g;cases oJ_ h;let⟨n,j⟩:=HC g;refine⟨X,λi a a' d e=>?_⟩;cases i with|zero=>simp at d e;subst d e;exact f|succ i=>simp at d e;exact j i a a' d e
  grind;grind
theorem Cw{F:AV->Option AV}:∀{l c:List (List AV)},F4 F l=some c->l.length=c.length/\∀(i:Nat)(a a':List AV),l[i]?=some a->c[i]?=some a'->wo F a=some a'
 |[],c,h=>by cases oJ_ h;exact⟨rfl,λi a a' h=>X⟩|b::l,c,h=>by
  simp only[F4]at h;split at h;rename_i k f;split at h;rename_i m g;cases oJ_ h;let⟨n,j⟩:=Cw g;refine⟨X,λi a a' d e=>?_⟩;cases i with|zero=>simp at d e;subst d e;exact f|succ i=>simp at d e;exact j i a a' d e
  grind;grind
theorem yI:∀{m:Nat}{a a':AV},nH S m a=some a'->aI S a a'/\Pure a'
 |0,a,a',h=>by cases h|m+1,a,a',h=>by
  have u:∀{l g:List AV},wo (nH S m) l=some g->∀b∈g,Pure b:=λ{l g}d b s=>by let⟨o,n⟩:=HC d;let⟨i,hi⟩:=cv_ s;have E:i<l.length:=X;exact(yI (n i _ b (aw_ E) hi)).2
  have bh:∀{l g:List AV},wo (nH S m) l=some g->l.length=g.length/\∀(i:Nat)(a a':AV),l[i]?=some a->g[i]?=some a'->aI S a a':=λd=>⟨(HC d).1,λi a a' o n=>(yI ((HC d).2 i a a' o n)).1⟩;have w:∀{l g:List (List AV)},F4 (nH S m) l=some g->∀r∈g,∀b∈r,Pure b:=λ{l g}d r P=>by let⟨o,n⟩:=Cw d;let⟨i,hi⟩:=cv_ P;have E:i<l.length:=X;exact u (n i _ r (aw_ E) hi)
  have atR:∀{l g:List (List AV)},F4 (nH S m) l=some g->l.length=g.length/\(∀(i:Nat)(r t:List AV),l[i]?=some r->g[i]?=some t->r.length=t.length) /\∀(i j:Nat)(r t:List AV)(a a':AV),l[i]?=some r->g[i]?=some t->r[j]?=some a->t[j]?=some a'->aI S a a':=λd =>⟨(Cw d).1,λi r t o n=>(bh ((Cw d).2 i r t o n)).1,λi j r t a a' o n y z=>(bh ((Cw d).2 i r t o n)).2 j a a' y z⟩;cases a with|v x=>cases oJ_ h;exact⟨.refl _,.v⟩|agg l =>simp only[nH]at h;split at h;rename_i g d;cases oJ_ h;exact⟨.agg (bh d).1 (bh d).2,.agg (u d)⟩;grind|aL l =>simp only[nH]at h;split at h;rename_i g d;cases oJ_ h;exact⟨.aL (bh d).1 (bh d).2,.aL (u d)⟩;grind|ip l =>simp only[nH]at h;split at h;rename_i g d;cases oJ_ h;exact⟨.ip (bY_ (bh d).1.symm) (bh d).2,.ip (u d)⟩;grind|sl F rows =>simp only[nH]at h;split at h;rename_i g d;cases oJ_ h;exact⟨.sl (atR d).1 (atR d).2.1 (atR d).2.2,.sl (w d)⟩;grind|fn f l c =>simp only[nH]at h;split at h;rename_i g Q d G;cases oJ_ h;exact⟨.fn (bh d).1 (bh G).1 (bh d).2 (bh G).2,.fn (u d) (u G)⟩;grind|ob k M off len cx =>simp only[nH]at h;split at h;rename_i A rows fz F B;split at h;rename_i s;simp only[au_]at s;have e:=aS_ s.1;have J:=ay_ s.2;subst e;split at h;rename_i g d;cases oJ_ h;let⟨q1,C,K⟩:=atR d;have L:g.length=len:=X;have get:∀(i:Nat)(row p:List AV),rows[off+i]?=some row->g[i]?=some p->((rows.drop off).take len)[i]?=some row:=λi row p o n=>X;exact⟨.ob B J L (λi row p o n=>C i row p (get i row p o n) n) λi j row p a a' o n y z=>K i j row p a a' (get i row p o n) n y z,.sl (w d)⟩;grind;grind;grind|gr k M len =>simp only[nH]at h;split at h;rename_i A rows fz F B;split at h;rename_i s;simp only[au_]at s;have e:=aS_ s.1;have J:=ay_ s.2;subst e;split at h;rename_i g d;cases oJ_ h;let⟨q1,C,K⟩:=atR d;have L:g.length=len:=X;have get:∀(i:Nat)(row p:List AV),rows[i]?=some row->g[i]?=some p->(rows.take len)[i]?=some row:=λi row p o n=>X;exact⟨.gr B J L (λi row p o n=>C i row p (get i row p o n) n) λi j row p a a' o n y z=>K i j row p a a' (get i row p o n) n y z,.sl (w d)⟩;grind;grind;grind|pt k M i j =>simp only[nH]at h;split at h;rename_i A rows fz F B;split at h;rename_i s;have e:=aS_ s;subst e;split at h;rename_i row hi;split at h;rename_i N;have N:=ay_ N;split at h;rename_i g d;cases oJ_ h;let⟨q1,C⟩:=bh d;simp at q1;exact⟨.pt B hi Z λq a a' o n=>C q a a' X n,.ip (u d)⟩;grind;grind;grind;grind;grind|_=>cases h
theorem aI.mono{S T:ah}(h:∀k sz rows fz ex,S.get k=some (.arr sz rows fz ex)->T.get k=some (.arr sz rows fz ex)){a a':AV}(j:aI S a a'):aI T a a':=by induction j with|refl a=>exact .refl a|agg g h b=>exact .agg g b|aL g h b=>exact .aL g b|ob f c d e i b=>exact .ob (h _ _ _ _ _ f) c d e b|pt f c d e b=>exact .pt (h _ _ _ _ _ f) c d b|fn c d e i l m=>exact .fn c d l m|sl c d e b=>exact .sl c d b|ip c d b=>exact .ip c b|gr f c d e i b=>exact .gr (h _ _ _ _ _ f) c d e b
section
variable{o:Op}
theorem Cx{k:SK}(h:res P.toTables o=some (.slice k x lo hi mx)):∃t u a h1 b,o=.slice t u a h1 b/\x=qo u/\lo=a.map qo/\hi=h1.map qo/\mx=b.map qo /\(k=.str/\P.underlying t=some .string\/∃e m,k=.sl m/\P.underlying t=some (.slice e)/\eJ P e=some m):=by cases o with|slice t u a h1 b =>simp only[res,cM,gE]at h;split at h;grind;grind;grind|_ =>
  simp only[res]at h;repeat' split at h
  all_goals cases h
theorem D.Qr{k:SK}{r:AV}(h:∀t,(k=.str/\P.underlying t=some .string\/∃e m,k=.sl m/\P.underlying t=some (.slice e)/\eJ P e=some m) ->qd P t (B2 r S) S (x.ev U.tm) (lo.map (·.ev U.tm)) (hi.map (·.ev U.tm)) (mx.map (·.ev U.tm))):D P Y dr (.slice k x lo hi mx) U S r S:=by
 refine D.of rfl λo a=>?_;obtain⟨t,u,c,d,f,rfl,rfl,rfl,rfl,rfl,b⟩:=Cx a;have h:=h t b;have e:∀z:Option Operand,(z.map qo).map (·.ev U.tm)=z.map U.ev:=λz=>by cases z with|none=>rfl|some z=>simp[aT]
 rw[e,e,e,aT]at h;exact h
theorem D.V5{len n:Nat}{i:QO}{k sz p q:Nat}{b:IntKind}{j:Int}(h1:x.ev U.tm=.pt k sz p q)(h2:i.ev U.tm=.v (.int b j))(h3:0<=j)(h4:j<len):D P Y dr (.Ku len n x i) U S (.pt k sz p (q+j.toNat*n)) S:=by refine D.of rfl λo a=>?_;cases o<;>simp only[res,cM,gE]at a<;>(repeat' split at a)<;>(try cases a);rw[aT]at h1 h2;simp only[bV,h1,h2,‹P.underlying _=_›,‹eJ P _=_›];exact⟨h3,h4,rfl,rfl⟩
end
theorem Kv{F:Fence}{m:Nat}{A:Nat->Prop}{g:Gh}{a:Act}{w:World}{LU:Array Oper}{Q:Exit->Act->World->Prop}{i:Nat}{b:List Nat}{r:AV}{S':ah}(c:ml F)(l:St Y A g S w)(e:cN g w n U a)(hi:LU[i]?=some o)(p:o.guard=none)(q:(match o.dst with|some d=>Nat.blt d n|none=>true)=true)(h:jO P Y n o U S r S')(k:∀(a':Act) (w':World) (g':Gh),St Y A g' S' w'->cN g' w' n (U.put o.dst r) a'->Ext A g w g' w'->wpOpsIn F m P LU Q b a' w'):wpOpsIn F m P LU Q (i::b) a w:=by simp only[wpOpsIn,hi];rw[if_pos (by simp[Region.wanted,p])];exact⟨λf _=>c.1 f,h F m A g a w _ Q c l e λv w' g' s t j=>k _ _ _ t (r8 (e.later j.toLater) q s) j⟩
theorem YT(a:res P.toTables o.op=some (.mv x)):jO P Y n o U S (x.ev U.tm) S:=by have h:D P Y false (.mv x) U S (x.ev U.tm) S:=D.quiet rfl;exact h n o a
theorem H.ajN{Q:Exit->AA->ah->Prop}{K:List gw}{id:Nat}{j p:Oper}{q1 E:QO}{d1 d2:Nat}{c:Call}{x i:Operand}{k:Nat}{m:Int}{mt s G:TypeId}{kk:IntKind}(T:j.guard=none)(g2:p.guard=none)(V:j.dst=some d1)(W:p.dst=some d2)(b1:Nat.blt d1 n=true)(b2:Nat.blt d2 n=true)(r1:res P.toTables j.op=some (.mv q1))(r2:res P.toTables p.op=some (.mv E))(ho:o.op=.defer c)(hc:c.callee=.builtin .delete)(YU:c.argTypes[0]?=some mt)(hu:P.underlying mt=some (.map s G))(hk:P.underlying s=some (.int kk))(ha:c.args=#[x,i])(hg:o.guard=none)(r:o.dst=none){q:AA}(u:q=(U.put (some d1) (q1.ev U.tm)).put (some d2) (E.ev (U.put (some d1) (q1.ev U.tm)).tm))(J:(qo x).ev q.tm=.mp k)(hi:(qo i).ev q.tm=.v (.int .i64 m))(h:∀t,VH P t->H P Y false n Q (.out .normal K) ⟨q.tm,.del t k m::q.df⟩ S):H P Y false n Q (.run (.raw (.region id #[j,p,o] false)) K) U S:=by
 intro c0 zD _;cases abK zD;rw[aT]at J hi;let⟨b,sF⟩:∃b:Array Bool,(c.args.map λ|.const _=>true|_=>false)=b:=⟨_,rfl⟩;refine⟨.normal,_,S,λF mm A g0 a0 w0' v L MX Ki=>?_,h (.builtin .delete c.argTypes o.type b) ⟨_,_,_,mt,s,G,kk,rfl,YU,hu,hk⟩⟩;have jX:F.round=none:=by cases hr:F.round with|none=>rfl|some l=>rw[hr]at L;cases L
 refine wpIn_region ?_;rw[show List.range (#[j,p,o]:Array Oper).size=[0,1,2] from rfl];refine Kv v MX Ki (o:=j) rfl T X (YT r1) λa1 w1 gh1 oF M qN=>?_;rw[V]at M;refine Kv v oF M (o:=p) rfl g2 X (YT r2) λa w g hS e Cl=>?_;rw[W,<-u]at e;have hE:=qN.trans Cl;have N:=e.ev x;have R:=e.ev i;rw[J]at N;rw[hi]at R;let⟨y,aR⟩:=uO N;have z:=cA R;have cP:(resolve a.eval c o.type).run P w=.ok {target:=.builtin .delete c.argTypes o.type b,args:=#[.map (some (g.ob k)),.int .i64 m] } w:=by rw[<-sF];simp[resolve,hc,ha,y,z];cases x<;>cases i<;>exact⟨rfl,rfl⟩
 have B:cN g w n ⟨q.tm,.del (.builtin .delete c.argTypes o.type b) k m::q.df⟩ {a with defers:=({target:=.builtin .delete c.argTypes o.type b,args:=#[.map (some (g.ob k)),.int .i64 m] }:Deferred)::a.defers }:=by refine⟨e.size,e.tm,e.out,?_,λd r=>?_⟩;show _=({target:=.builtin .delete c.argTypes o.type b,args:=#[.map (some (g.ob k)),.int .i64 m] }:Deferred)::_;rw[<-e.df];rcases al_.1 r with rfl|r;exact aR;exact e.yb d r
 have Kn:(#[j,p,o]:Array Oper)[2]?=some o:=rfl;simp only[wpOpsIn,Kn];rw[if_pos (by simp[Region.wanted,hg])];refine⟨λf _=>v.1 f,?_⟩;have C:(o.semAt F.round a.eval).run P w=.ok (.defer {target:=.builtin .delete c.argTypes o.type b,args:=#[.map (some (g.ob k)),.int .i64 m] }) w:=by rw[jX];simp[Oper.semAt,execOp,ho,Sem.run_bind,cP]
 rw[C];simp[Oper.uponIn,r];exact⟨rfl,g,hS,B,hE⟩
theorem YV{v:Value}(h:lift v=.v .nilFunc):v=.nilFunc:=by
 have a:∀v,b9 v=.v .nilFunc->v=.nilFunc:=by intro v h;unfold b9 at h;split at h;grind;grind
 cases v with|agg b=>cases h|_=>exact a _ h
theorem agB{u:Operand}(h:.c (.v .nilFunc)=qo u):u=.const .nilFunc:=by cases u with|const v =>injection h with h;rw[YV h.symm]|_=>cases h
theorem Qs{o:Op}{op:BinOp}(h:res P.toTables o=some (.bin op .f x (.c (.v .nilFunc)))):∃t u s a b c,o=.binOp op t u (.const .nilFunc) s/\x=qo u/\P.underlying t=some (.func a b c):=by cases o with|binOp d t u v s =>simp only[res,cM]at h;split at h;grind;grind;rename_i a b c e;simp only[oI_,nV.bin.injEq]at h;obtain⟨rfl,_,rfl,f⟩:=h;rw[agB f.symm];exact⟨_,_,_,_,_,_,rfl,rfl,e⟩;grind;grind;grind|_ =>
  simp only[res]at h;repeat' split at h
  all_goals cases h
def LY:AV->Option Bool|.fn ..=>some false|.v (.func ..)=>some false|.v .nilFunc=>some true|_=>none
theorem abL{g:Gh}{w:World}{a:AV}{x:Value}(h:LY a=some b)(c:aO g w a x):b=true/\x=.nilFunc\/b=false/\∃f p q,x=.func f p q:=by
 unfold LY at h;split at h;cases c with|fn=>cases oJ_ h;exact .inr ⟨rfl,_,_,_,rfl⟩
 cases c with|v=>cases oJ_ h;exact .inr ⟨rfl,_,_,_,rfl⟩
 cases c with|v=>cases oJ_ h;exact .inl ⟨rfl,rfl⟩
 grind
theorem vn(w:World)(d:Nat){t:TypeId}{a b c}(h:P.underlying t=some (.func a b c)):(Op.equalIn (d+1) t .nilFunc .nilFunc).run P w=.ok true w/\∀f p q,(Op.equalIn (d+1) t (.func f p q) .nilFunc).run P w=.ok false w:=by refine⟨?_,λf p q=>?_⟩<;>simp[Op.equalIn,run_underlying h]
theorem zz9(w:World){t:TypeId}{a b c}(h:P.underlying t=some (.func a b c))(x:Value):(x=.nilFunc->(Op.equal t x .nilFunc).run P w=.ok true w)/\∀f p q,x=.func f p q->(Op.equal t x .nilFunc).run P w=.ok false w :=⟨λe=>by subst e;exact(vn w 9999 h).1,λf p q e=>by subst e;exact(vn w 9999 h).2 f p q⟩
theorem Qt{op:BinOp}{d:Bool}{n:Nat}(m:res P.toTables o.op=some (.bin op .f x (.c (.v .nilFunc))))(β:AA)(i:LY (x.ev β.tm)=some b)(j:VG op b=some d):jO P Y n o β S (.v (.bool d)) S:=by obtain⟨t,u,s,y,z,B,k,rfl,r⟩:=Qs m;rw[aT]at i;refine a_.ops (a_.quiet λA g c w C v=>⟨.bool d,?_,.v⟩) λc e=>X;have l:c.eval (.const .nilFunc)=.nilFunc:=rfl;have a:=zz9 w r (c.eval u);rcases abL i (v.ev u) with⟨rfl,h⟩|⟨rfl,f,p,q,h⟩;have a:=a.1 h;rw[h]at a;cases op<;>cases j<;>simp[execOp,k,h,eqGuard,l,binOp,a];have a:=a.2 f p q h;rw[h]at a;cases op<;>cases j<;>simp[execOp,k,h,eqGuard,l,binOp,a]
theorem D.Qu{dr:Bool}{op:BinOp}{d:Bool}(g:LY (x.ev U.tm)=some b)(c:VG op b=some d):D P Y dr (.bin op .f x (.c (.v .nilFunc))) U S (.v (.bool d)) S:=by cases dr with|false=>exactλn o a=>Qt a U g c|true =>intro n o a;let⟨t,u,s,_,_,_,h,i,_⟩:=Qs a;have key:∀z∈o.op.operands,(U.only (dS o)).ev z=U.ev z:=λz j=>gI λt e=>gJ X;have k:(U.only (dS o)).ev u=U.ev u:=key u (by rw[h];simp[Op.operands]);have f:∀T,jO P Y n o (U.only (dS o)) T (.v (.bool d)) T:=λT=>Qt a _ (by grind[aT]) c;exact⟨f S,λ_=>⟨rfl,f⟩,λ_=>rfl⟩
section
attribute [local irreducible] ao aF D H
end
end Go.Proofs.YtbdcmpknicjopaaGreat
