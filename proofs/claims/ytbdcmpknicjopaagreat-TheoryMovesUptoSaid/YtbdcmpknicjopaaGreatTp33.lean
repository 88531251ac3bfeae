import Derived.Test.YtbdcmpknicjopaaGreatTp32
namespace Go.Proofs.YtbdcmpknicjopaaGreat
set_option linter.all false
set_option maxRecDepth 100000
open Go.RowKit Proofs.Tryz
variable{B n q:Nat}{F a2:AV}{J:iA}{LO:Int}{O:Hd}{P:Program}{Q:Exit->AA->ah->Prop}{S:ah}{U:AA}{V:List (Nat×Nat)}{W:List Int}{Y:World}{dr ex:Bool}{ds:List Dc}{hs:List At}{l:List QI}{r:Rl}{rs:List Nat}{s:c_}
variable{K:List (Nat×Option Ob)}{T:ah}
section
attribute [local irreducible] ao aF D H
def K7:=aC func300 call300
def pw:List Nat:=[3,0,10,7,4,5,6,1,11,19,37,62]
def ap4:=aC func261 call261
def x8:List Nat:=[1,0,4,5,11,8,22,6,7]
def afi:=aC func202 call202
def Ed:List Nat:=[4,5,6,7,1,2,21,0]
def prv(O:Hd)(p:Tm×Tm):AV:=.agg (CK O p)
def Sb(O:Hd)(E:List Bd)(L:List (Tm×Tm))(B:Bool):AV:=.aL [a8 O E,vS O L,.v (.bool B)]
def xz(E:List Bd)(L:List (Tm×Tm))(B:Bool):Pure (Sb O E L B):=.aL (WT (bI _) (oC _) .v)
theorem Oy{a a' c c':AV}{b:Bool}(h:aI S a a')(k:aI S c c'):aI S (.aL [a,c,.v (.bool b)]) (.aL [a',c',.v (.bool b)]):=by refine .aL rfl λi x f d e=>?_;match i,d,e with|0,d,e=>cases oJ_ d;cases oJ_ e;exact h|1,d,e=>cases oJ_ d;cases oJ_ e;exact k|2,d,e=>cases oJ_ d;cases oJ_ e;exact .refl _
theorem Ee:aI S (.sl true []) (vS O []):=by rw[vS,bF];exact aI.wk
theorem NJ:aI S (.sl true []) (a8 O []):=by rw[a8,bF];exact aI.wk
def Mm(p:Tm×Tm):Prop:=p.1.ok/\p.2.ok
theorem Sc:∀{a b:List Tm},dR a->dR b->∀q∈a.zip b,Mm q|[],b,_,_,q,h=>by rw[dx_]at h;cases h|x::a,[],_,_,q,h=>by rw[List.zip_nil_right]at h;cases h|x::a,y::b,c,d,q,h=>by rw[dR]at c d;rw[cY_]at h;rcases al_.1 h with rfl|h;exact⟨c.1,d.1⟩;exact Sc c.2 d.2 q h
theorem UY{t:Tm}(h:t.ok):dR t.a:=by let⟨k,i,n,a⟩:=t;rw[Tm.ok]at h;exact h.2.2
theorem ZM{e:List Bd}{p:Tm×Tm}(c:gk e)(a:Mm p):gk (gG e p).1/\(∀q∈(gG e p).2.1,Mm q)/\(gG e p).1.length+oT (gG e p).2.1<=e.length+cO p.1:=by unfold gG;have:=fJ p.1;split;split;grind[oT];exact⟨c.ins a.2,λq h=>X,by grind[oT,IX]⟩;split;split;have d:=Hs p.1.a p.2.a;exact⟨c,Sc (UY a.1) (UY a.2),X⟩;exact⟨λb h=>X,λq h=>X,by grind[oT]⟩;grind[oT]
theorem UZ:∀l:List (Tm×Tm),l.length<=oT l|[]=>aF_ _|p::l=>by rw[oT,aC_];have:=UZ l;have:=fJ p.1;omega
theorem ZN(p:Tm×Tm)(l:List (Tm×Tm))(e:List Bd):qC (p::l) e=match gG e p with|(e',m,true)=>qC (m++l) e'|(_,_,false)=>none:=by grind[qC,XI,gG,O_]
theorem acY(e:List Bd)(b:e.length<=100000000000):ab Y 262 [a8 O e] (a8 O e):=by cases e with|nil=>exact R5.Iy (λS=>NJ) (bI _)|cons x l =>
  let⟨R,a⟩:=aq (x::l);have c:FD (a8 O R)=some false:=by rw[a,a8,bF];rfl
  rw[<-a]at b⊢;refine st Ow Ah (bI _) ?_;refine og Ah (D.nil c rfl) ?_;refine H.rP (f:=bP O) (ys:=R) rfl rfl rfl (λ_=>rfl) Z λLR len d g=>?_;refine I Ah ?_;refine fq ?_;cases(d:LR=R);exact aI.grow rfl g
theorem alz(e:List Bd)(i:Int)(n:ByteArray)(a:List Tm)(t:Tm)(u:e.length<=10000000000)(m:gk e)(h2:t.ok):ab Y 300 [a8 O e,prv O (⟨1,i,n,a⟩,t)] (Sb O (gG e (⟨1,i,n,a⟩,t)).1 (gG e (⟨1,i,n,a⟩,t)).2.1 (gG e (⟨1,i,n,a⟩,t)).2.2):=by
 let⟨⟨E,L,B⟩,b⟩:∃R,R=gG e (⟨1,i,n,a⟩,t):=⟨_,rfl⟩;rw[<-b];unfold gG at b;rw[if_pos rfl]at b;simp only at b⊢;have o:=UD (Y:=Y) (O:=O) e i Z;have g:=DO e i;have h:=HD e i;let⟨j,p⟩:=aq (wv e i);rw[<-p]at o g h;have c:=WI (Y:=Y) (O:=O) e ⟨i,t⟩ u;clear p;by_cases v:0<=j
 ·let⟨q,x,C,w,d⟩:=g v;rw[d]at b;simp only[pI_]at b;obtain⟨rfl,rfl,r⟩:=b;have hs:=Sd (Y:=Y) (O:=O) x.t t (m.EI d) h2;rw[<-r]at hs;clear r d c h g m h2;let⟨F,G,J,K,M⟩:=x;let⟨y,z,tn,A⟩:=t;refine st K7 pw (xz _ _ _) ?_;repeat' first|refine ig pw (pl o) λ_ _=>?_|refine og pw (D.ind rfl rfl (fm (l:=E) (k:=q) Z w) (ec λ_=>rfl)) ?_|apply bk pw hs|exact dy f|refine cg pw (λf=>?_) λf=>?_|refine fq ?_
  all_goals first|omega|exact Oy (.refl _) Ee
 ·rw[h Z]at b;simp only[pI_]at b;obtain⟨s,rfl,rfl⟩:=b;rw[<-s]at c;clear s g h m h2;let⟨y,z,tn,A⟩:=t;refine st K7 pw (xz _ _ _) ?_;repeat' first|refine ig pw (pl o) λ_ _=>?_|apply bk pw c|exact dy f|refine cg pw (λf=>?_) λf=>?_|refine fq ?_
  all_goals first|omega|exact Oy (.refl _) Ee
theorem alB(e:List Bd)(i:Int)(n:ByteArray)(a:List Tm)(t:Tm)(j:a.length<=100000000000):ab Y 300 [a8 O e,prv O (⟨2,i,n,a⟩,t)] (Sb O (gG e (⟨2,i,n,a⟩,t)).1 (gG e (⟨2,i,n,a⟩,t)).2.1 (gG e (⟨2,i,n,a⟩,t)).2.2):=by
 let⟨⟨E,L,B⟩,b⟩:∃R,R=gG e (⟨2,i,n,a⟩,t):=⟨_,rfl⟩;rw[<-b];unfold gG at b;rw[if_neg (show¬(2:Int)=1 by decide),if_pos rfl]at b;simp only at b⊢;have c:=Rf (Y:=Y) (O:=O) a t.a j;let⟨k,q,tn,l⟩:=t;simp only at b c;by_cases f:k=2/\tn.toList=n.toList/\a.length=l.length
 ·rw[if_pos f]at b;simp only[pI_]at b;obtain⟨rfl,h,rfl⟩:=b;let⟨o,r,p⟩:=f;have c:=c p;rw[<-h]at c;subst o;clear h;refine st K7 pw (xz _ _ _) ?_;repeat' first|refine cr λm g=>?_;rw[az]at g;refine I pw ?_|apply bk pw c|exact dy d|refine cg pw (λd=>?_) λd=>?_|refine fq ?_
  all_goals first|omega|exfalso;simp_all;done|exact .refl _
 ·rw[if_neg f]at b;simp only[pI_]at b;obtain⟨rfl,rfl,rfl⟩:=b;clear c;refine st K7 pw (xz _ _ _) ?_;repeat' first|refine cr λm g=>?_;rw[az]at g;refine I pw ?_|exact dy d|refine cg pw (λd=>?_) λd=>?_|refine fq ?_
  all_goals first|exact Oy NJ Ee|exfalso;simp_all;omega
theorem alC(e:List Bd)(k i:Int)(n:ByteArray)(a:List Tm)(t:Tm)(h1:¬k=1)(h2:¬k=2)(c:(⟨k,i,n,a⟩:Tm).ok)(d:t.ok):ab Y 300 [a8 O e,prv O (⟨k,i,n,a⟩,t)] (Sb O (gG e (⟨k,i,n,a⟩,t)).1 (gG e (⟨k,i,n,a⟩,t)).2.1 (gG e (⟨k,i,n,a⟩,t)).2.2):=by
 let⟨⟨E,L,B⟩,b⟩:∃R,R=gG e (⟨k,i,n,a⟩,t):=⟨_,rfl⟩;rw[<-b];unfold gG at b;rw[if_neg h1,if_neg h2]at b;simp only[pI_]at b⊢;obtain⟨rfl,rfl,f⟩:=b;have hs:=Sd (Y:=Y) (O:=O) _ t c d;rw[<-f]at hs;clear f c d;let⟨h,j,tn,l⟩:=t;refine st K7 pw (xz _ _ _) ?_;repeat' first|apply bk pw hs|refine cg pw (λg=>?_) λg=>?_|refine lg pw λm o=>?_|refine fq ?_
 all_goals first|omega|exact Oy (.refl _) Ee
theorem alD(e:List Bd)(p:Tm×Tm)(d:e.length<=10000000000)(f:gk e)(b:Mm p)(h:cO p.1<=100000000000):ab Y 300 [a8 O e,prv O p] (Sb O (gG e p).1 (gG e p).2.1 (gG e p).2.2):=by let⟨⟨k,i,n,a⟩,t⟩:=p;by_cases c:k=1;subst c;exact alz e i n a t d f b.2;by_cases g:k=2;grind[alB,fJ,CS];exact alC e k i n a t c g b.1 b.2
theorem alE(e:List Bd)(l:List (Tm×Tm))(s:e.length+oT l<=10000000000)(t:gk e)(u:∀q∈l,Mm q):ab Y 261 [a8 O e,vS O l] (vx O (qC l e)):=by let⟨R,g⟩:=aq (qC l e);rw[<-g];have P:=oC (O:=O) l;refine st ap4 x8 (rq _) ?_;refine H.g5 (σ:=List Bd×List (Tm×Tm)) 0 0 [] (λp=>[(0,a8 O p.1),(1,vS O p.2)]) [] (λp=>[]) (λp=>R=qC p.2 p.1/\p.1.length+oT p.2<=10000000000/\gk p.1/\∀q∈p.2,Mm q) (λp=>oT p.2) (e,l) ⟨g,s,t,u⟩ rfl cz ?_;rintro⟨f,m⟩ ⟨d,v,h,b⟩;simp only at d v h b;clear g s t u;refine I x8 ?_;refine lg x8 λc S=>?_;cases m with|nil =>refine cn (λi=>?_) λi=>?_;grind;refine I x8 ?_;refine xG x8 ?_;refine fq ?_;rw[d];exact .refl _|cons p m =>refine cn (λi=>?_) λi=>?_;rotate_left;grind;rw[oT]at v;have j:=alD (Y:=Y) (O:=O) f p Z h (b p aB) Z;have w:=aaY f p;let⟨q1,x,y⟩:=ZM h (b p aB);rw[ZN]at d;let⟨⟨E,L,B⟩,z⟩:∃R,R=gG f p:=⟨_,rfl⟩;rw[<-z]at j w q1 x y d;simp only at j w q1 x y d;clear z;have A:=acU (Y:=Y) (O:=O) L m (by grind[UZ]);let⟨M,n⟩:=aq (L++m);let⟨W,G⟩:=aq (p::m);have o:W[0]?=some p:=X;have r:W.drop 1=m:=X;have J:1<=W.length:=X;rw[<-n]at A;have K:=oC (O:=O) M;rw[<-G];have N:=z8 (O:=O) p;let⟨⟨T,V,pn,pa⟩,⟨tk,ti,tn,ta⟩⟩:=p;refine I x8 ?_;refine og x8 (D.ind rfl rfl (fm (l:=W) (k:=0) rfl o) (ec λ_=>rfl)) ?_;refine H.op rfl (D.bO rfl j ⟨bI _,.agg N,trivial⟩) ?_;cases B with|false =>refine I x8 ?_;refine rG x8 ?_;refine fq ?_;rw[d];exact mw|true =>refine I x8 ?_;refine H.op rfl (D.DS rfl rfl (λ_=>rfl) aD Z) ?_;rw[show(1:Int).toNat=1 from rfl,r];refine I x8 ?_;refine H.op rfl (D.bO rfl A ⟨.sl λrow C a F=>by simp only[al_,ax_,or_false]at C;rcases C with rfl|rfl;cases ar_.1 F;exact oC _;cases ar_.1 F;exact oC _,trivial⟩) ?_;refine I x8 ?_;refine H.bK (E,M) [] ⟨X,by grind[Lw],q1,λq hq=>?_⟩ ?_ cz;grind;grind[Lw,oT]
theorem ahj(e:List Bd)(x y:At)(t:e.length+bE x.a<=10000000000)(l:gk e)(o:x.ok)(p:y.ok):ab Y 202 [a8 O e,at_ O x,at_ O y] (vx O (nq x y e)):=by
 have h:=acY (Y:=Y) (O:=O) e Z;have d:=Rf (Y:=Y) (O:=O) x.a y.a (by grind[CS]);have f:=alE (Y:=Y) (O:=O) e (x.a.zip y.a) (by grind[Hs]) l (Sc o.2 p.2);let⟨R,c⟩:=aq (nq x y e);rw[<-c];unfold nq at c;rw[Fb]at c;let⟨i,q⟩:=aq (x.a.zip y.a);rw[<-q]at d f c;let⟨Q,r⟩:=aq (qC i e);rw[<-r]at f c;let⟨z,A,s,u,v⟩:=yY (O:=O) Q;rw[s]at f;clear q r t l o p;let⟨n,a⟩:=x;let⟨w,b⟩:=y;simp only at d c;by_cases g:n.toList=w.toList/\a.length=b.length
 ·rw[if_pos g]at c;have d:=d g.2;let⟨B,C⟩:=g;refine st afi Ed (rq _) ?_;repeat' first|refine cr λm j=>?_;rw[az]at j;refine I Ed ?_|apply bk Ed h|apply bk Ed d|refine og Ed (D.bO rfl f ⟨bI _,oC _,trivial⟩) ?_|refine cg Ed (λk=>?_) λk=>?_|refine fq ?_
  all_goals clear h d f
  all_goals first|omega|exfalso;simp_all;done|rw[c,s];exact .refl _
 ·rw[if_neg g]at c;subst c;clear h d f;refine st afi Ed (rq _) ?_;repeat' first|refine cr λm j=>?_;rw[az]at j;refine I Ed ?_|refine cg Ed (λk=>?_) λk=>?_|refine fq ?_
  all_goals first|exact mw|exfalso;simp_all;omega
theorem WU(x:Int):Wk (.sl ex [[iv x]]) (aY O aV false [x]):=by grind[bF,aV,Wk.sl]
theorem afl(x y:Int):Wk (.sl ex [[iv x],[iv y]]) (aY O aV false [x,y]):=by grind[bF,aV,Wk.sl]
theorem Se(n:ByteArray)(a b:Int)(g:FuncId)(p e:Int)(q:ab Y 325 [.v (.string n)] (.v (.func (.func g) #[] #[])))(f:iF a=true->iF b=true->ab Y g [iv a,iv b] (mM (p,e))):ab Y 305 [.v (.string n),iv a,iv b] (mM (if !(iF a&&iF b) then(0,5) else if e=0 then if iF p then(p,0) else(0,5) else(0,e))):=by
 have h:=ZG (Y:=Y) (O:=.plain) a b;have i:=R9 (Y:=Y) (O:=.plain) p;let⟨R,d⟩:=aq (if !(iF a&&iF b) then((0:Int),(5:Int)) else if e=0 then if iF p then(p,0) else(0,5) else(0,e));rw[<-d];let⟨A,j⟩:=aq (iF a);let⟨B,k⟩:=aq (iF b);let⟨C,r⟩:=aq (iF p);rw[<-j,<-k]at d h;rw[<-j]at f;rw[<-k]at f;rw[<-r]at i d;clear j k r;let⟨u,l⟩:=aq (A&&B);rw[<-l]at h d;rw[mM]at f;refine st afe lQ (kG _) ?_;refine H.op rfl (pl q) ?_;refine I lQ ?_;refine H.op rfl (D.Qu (b:=false) rfl rfl) ?_;refine I lQ ?_;refine H.bif rfl (D.jF rfl h ⟨bZ _,trivial⟩ ⟨afl a b,trivial⟩) (λc=>?_) λc=>?_<;>refine I lQ ?_;rotate_left;refine fq ?_;exact jJ X;subst c;have o:=ea_.1 l.symm;have s:=f o.1 o.2;rw[if_neg aB]at d;clear f;refine H.op rfl (pl s) ?_;refine I lQ ?_;repeat' first|refine H.bif rfl (D.jF rfl i ⟨bZ _,trivial⟩ ⟨WU p,trivial⟩) (λc=>?_) λc=>?_<;>refine I lQ ?_|refine bq (λc=>?_) λc=>?_<;>(try simp only[bW]at c)<;>(first|exact dy c|refine I lQ ?_)|refine cr λm t=>?_;(try rw[az]at t);refine I lQ ?_|refine cK λ_ _=>?_;refine I lQ ?_|refine im λ_ _=>?_;refine I lQ ?_|refine H.str rfl (D.cat rfl rfl (by assumption)) λ_ _=>?_;refine I lQ ?_|refine xG lQ ?_|refine rG lQ ?_|refine fq ?_
 all_goals clear s i h q l o
 all_goals refine jJ ?_;rw[d];simp_all;done
theorem ZO(n:ByteArray)(a b:Int)(g q:FuncId)(p e:Int)(r:ab Y 325 [.v (.string n)] (.fn (.func g) [] [.ip [Bl q]]))(f:iF a=true->iF b=true->ab Y g [iv a,iv b,.ip [Bl q]] (mM (p,e))):ab Y 305 [.v (.string n),iv a,iv b] (mM (if !(iF a&&iF b) then(0,5) else if e=0 then if iF p then(p,0) else(0,5) else(0,e))):=by
 have h:=ZG (Y:=Y) (O:=.plain) a b;have i:=R9 (Y:=Y) (O:=.plain) p;let⟨R,d⟩:=aq (if !(iF a&&iF b) then((0:Int),(5:Int)) else if e=0 then if iF p then(p,0) else(0,5) else(0,e));rw[<-d];let⟨A,j⟩:=aq (iF a);let⟨B,k⟩:=aq (iF b);let⟨C,s⟩:=aq (iF p);rw[<-j,<-k]at d h;rw[<-j]at f;rw[<-k]at f;rw[<-s]at i d;clear j k s;let⟨v,l⟩:=aq (A&&B);rw[<-l]at h d;rw[mM]at f;refine st afe lQ (kG _) ?_;refine H.op rfl (pl r) ?_;refine I lQ ?_;refine H.op rfl (D.Qu (b:=false) rfl rfl) ?_;refine I lQ ?_;refine H.bif rfl (D.jF rfl h ⟨bZ _,trivial⟩ ⟨afl a b,trivial⟩) (λc=>?_) λc=>?_<;>refine I lQ ?_;rotate_left;refine fq ?_;exact jJ X;subst c;have o:=ea_.1 l.symm;have t:=f o.1 o.2;rw[if_neg aB]at d;clear f;refine H.op rfl (pl t) ?_;refine I lQ ?_;repeat' first|refine H.bif rfl (D.jF rfl i ⟨bZ _,trivial⟩ ⟨WU p,trivial⟩) (λc=>?_) λc=>?_<;>refine I lQ ?_|refine bq (λc=>?_) λc=>?_<;>(try simp only[bW]at c)<;>(first|exact dy c|refine I lQ ?_)|refine cr λm u=>?_;(try rw[az]at u);refine I lQ ?_|refine cK λ_ _=>?_;refine I lQ ?_|refine im λ_ _=>?_;refine I lQ ?_|refine H.str rfl (D.cat rfl rfl (by assumption)) λ_ _=>?_;refine I lQ ?_|refine xG lQ ?_|refine rG lQ ?_|refine fq ?_
 all_goals clear t i h r l o
 all_goals refine jJ ?_;rw[d];simp_all;done
theorem ahk(n:ByteArray)(a b:Int)(o:eP n=true):ab Y 305 [.v (.string n),iv a,iv b] (mM (M8 n a b)):=by
 have e:=afg (Y:=Y) n;have j:∀x y:Int,iF x=true->iF y=true->-2147483648<=x/\x<=2147483648/\-2147483648<=y/\y<=2147483648:=λx y c d=>⟨(wu.1 c).1,(wu.1 c).2,(wu.1 d).1,(wu.1 d).2⟩;have m:n.toList=[43]\/n.toList=[45]\/n.toList=[42]\/n.toList=[47]\/n.toList=[37]:=by grind[eP,Nf]
 unfold K4 at e;unfold M8 M7;simp only[Nf]at e;rcases m with h|h|h|h|h<;>simp only[h]at e⊢;exact Se n a b _ _ _ e λc d=>by grind[aly]
 exact Se n a b _ _ _ e λc d=>by grind[ahh]
 exact Se n a b _ _ _ e λc d=>by grind[ahi]
 exact ZO n a b _ _ _ _ e λc d=>by let⟨f,g,k,l⟩:=j a b c d;exact ZH _ a b _ λi=>K3 a b i f g
 exact ZO n a b _ _ _ _ e λc d=>by let⟨f,g,k,l⟩:=j a b c d;exact ZH _ a b _ λi=>ap3 a b i f g k l
theorem ahl(n:ByteArray):LY (K4 n)=some ! eP n:=by
 unfold K4;by_cases h:eP n=true;rw[h];have b:n.toList=[43]\/n.toList=[45]\/n.toList=[42]\/n.toList=[47]\/n.toList=[37]:=by grind[eP,Nf]
 simp only[Nf];rcases b with h|h|h|h|h<;>simp only[h]<;>rfl;have a:=h;unfold eP at a;simp only[cf_,beq_iff_eq,not_or]at a;let⟨⟨⟨⟨c,a2⟩,d⟩,e⟩,f⟩:=a;rw[if_neg c,if_neg a2,if_neg d,if_neg e,if_neg f,cn_.2 h];rfl
theorem alH(x:Tm):ab Y 304 [tm O x] (.v (.bool (decide (x.k=2)&&decide (x.a.length=2)&&eP x.n))):=by
 have d:=afg (Y:=Y) x.n;have j:=R_ x.n;have g:=ahl x.n;let⟨e,o⟩:=aq (eP x.n);rw[<-o]at g⊢;clear o;let⟨F,p⟩:=aq (K4 x.n);rw[<-p]at d j g;have key:(∃f l m,F=.fn f l m/\e=true)\/(∃f a b,F=.v (.func f a b)/\e=true)\/F=.v .nilFunc/\e=false:=by unfold LY at g;split at g;grind;grind;grind;grind
 clear p g j;let⟨k,i,n,a⟩:=x;simp only at d⊢;rcases key with⟨f,l,m,rfl,rfl⟩|⟨f,l,m,rfl,rfl⟩|⟨rfl,rfl⟩
 ·skip;refine st WL jM .v ?_;repeat' first|refine H.op rfl (pl d) ?_;refine I jM ?_|refine H.op rfl (D.Qu (b:=false) rfl rfl) ?_;refine I jM ?_|refine bq (λc=>?_) λc=>?_<;>(try simp only[bW]at c)<;>(first|exact dy c|refine I jM ?_)|refine cr λm h=>?_;(try rw[az]at h);refine I jM ?_|refine cK λ_ _=>?_;refine I jM ?_|refine im λ_ _=>?_;refine I jM ?_|refine H.str rfl (D.cat rfl rfl (by assumption)) λ_ _=>?_;refine I jM ?_|refine xG jM ?_|refine rG jM ?_|refine fq ?_
  all_goals clear d;refine aK ?_;simp_all<;>omega
 ·skip;refine st WL jM .v ?_;repeat' first|refine H.op rfl (pl d) ?_;refine I jM ?_|refine H.op rfl (D.Qu (b:=false) rfl rfl) ?_;refine I jM ?_|refine bq (λc=>?_) λc=>?_<;>(try simp only[bW]at c)<;>(first|exact dy c|refine I jM ?_)|refine cr λm h=>?_;(try rw[az]at h);refine I jM ?_|refine cK λ_ _=>?_;refine I jM ?_|refine im λ_ _=>?_;refine I jM ?_|refine H.str rfl (D.cat rfl rfl (by assumption)) λ_ _=>?_;refine I jM ?_|refine xG jM ?_|refine rG jM ?_|refine fq ?_
  all_goals clear d;refine aK ?_;simp_all<;>omega
 ·skip;refine st WL jM .v ?_;repeat' first|refine H.op rfl (pl d) ?_;refine I jM ?_|refine H.op rfl (D.Qu (b:=true) rfl rfl) ?_;refine I jM ?_|refine bq (λc=>?_) λc=>?_<;>(try simp only[bW]at c)<;>(first|exact dy c|refine I jM ?_)|refine cr λm h=>?_;(try rw[az]at h);refine I jM ?_|refine cK λ_ _=>?_;refine I jM ?_|refine im λ_ _=>?_;refine I jM ?_|refine H.str rfl (D.cat rfl rfl (by assumption)) λ_ _=>?_;refine I jM ?_|refine xG jM ?_|refine rG jM ?_|refine fq ?_
  all_goals clear d;refine aK ?_;simp_all<;>omega
def ap5:=aC func238 call238
def Sf:List Nat:=[2,0,1,5]
def afm:=aC func321 call321
def x9:List Nat:=[1,4,5,2,0,8]
def afn:=aC func237 call237
def alI:List Nat:=[2,0,3]
theorem alJ(x:Tm):sO x=(aX [x]).isEmpty:=by unfold sO varsOf;cases aX [x] with|nil=>rfl|cons a l=>rw[bQ,if_neg aB];rfl
theorem xA(b:Bool):ab Y 237 [.v (.bool b)] (iv (pS b)):=by
 cases b
 ·skip;refine st afn alI .v ?_;repeat' first|refine fq ?_
  exact dx rfl
 ·skip;refine st afn alI .v ?_;repeat' first|refine fq ?_
  exact dx rfl
theorem ZP(n:Nat):∀x:Tm,cO x<=n->ab Y 321 [tm O x] (.v (.bool (oA x))):=by induction n with|zero=>intro x h;have:=fJ x;omega|succ m d =>
  intro x c;rw[fJ]at c;let⟨R,b⟩:=aq (oA x);rw[<-b];let⟨k,i,n,a⟩:=x;rw[oA]at b;simp only at c;have e:=JW (Y:=Y) n;let⟨t,o⟩:=aq (eP n);rw[<-o]at e b;clear o;by_cases u:a.length=2;rotate_left
  ·clear d c;have v:R=if k=0\/k=1 then true else false:=X;clear b;refine st afm x9 .v ?_;repeat' first|refine bg x9 (pl e) (λ_=>?_) λ_=>?_|refine cg x9 (λf=>?_) λf=>?_|refine lg x9 λm w=>?_|refine fq ?_
   all_goals first|omega|refine aK ?_;rw[v];simp_all;done
  match a,u with
  |[x,y],_ =>
  simp only[bE]at c;have g:=d x Z;have j:=d y Z;clear d c;simp only[Oj]at b;let⟨p,r⟩:=aq (oA x);let⟨q,s⟩:=aq (oA y);rw[<-r]at g b;rw[<-s]at j b;clear r s;refine st afm x9 .v ?_;repeat' first|refine bg x9 (pl e) (λ_=>?_) λ_=>?_|refine og x9 (D.ind rfl rfl (cD (l:=[x,y]) (k:=0) rfl rfl) cE) ?_|refine og x9 (D.ind rfl rfl (cD (l:=[x,y]) (k:=1) rfl rfl) cE) ?_|refine bg x9 (pl g) (λ_=>?_) λ_=>?_|refine bg x9 (pl j) (λ_=>?_) λ_=>?_|refine cg x9 (λf=>?_) λf=>?_|refine lg x9 λm w=>?_|refine fq ?_
  all_goals clear e g j
  all_goals refine aK ?_;rw[b];simp_all;done
def Sg(x:Tm):ab Y 321 [tm O x] (.v (.bool (oA x))):=ZP _ x (ad_ _)
theorem JH(x:Tm)(d:Bb x):ab Y 238 [tm O x] (.v (.bool (sO x))):=by have j:=JZ (Y:=Y) (O:=O) [x];have e:=TB (Y:=Y) (O:=O) [x] aB ⟨d.1,trivial⟩;rw[alJ];let⟨V,f⟩:=aq (aX [x]);rw[<-f]at e⊢;let⟨R,l⟩:=aq V.isEmpty;rw[<-l];clear f d;let⟨k,i,n,a⟩:=x;refine st ap5 Sf .v ?_;refine og Sf (D.jF rfl j ⟨cZ _,trivial⟩ ⟨XQ (O:=O) ⟨k,i,n,a⟩,trivial⟩) ?_;refine H.range (σ:=Unit) aV V 3 3 [] [(2,.pt 1 1 0 0)] (λ_=>[(1,.arr 1 [[.v (.bool false)]] 0 true),(2,.df)]) (λg _=>g=V) () rfl (λa c=>X) (λa c=>by cases ar_.1 c;exact .ip λb m=>by cases ar_.1 m;exact cZ _) e rfl rfl rfl (by intro p h;simp only[al_,ax_,or_false]at h;rcases h with rfl;exact .pt aD) rfl (λx=>⟨rfl,λa c=>by cases ar_.1 c;exact .v⟩) cz ?_ ?_;rintro y g _ o;refine I Sf ?_;refine H.vz [(1,.arr 1 [[.v (.bool false)]] 0 true),(2,.df)] [] cz ?_;refine I Sf ?_;refine fq ?_;exact aK X;rintro _ o;refine I Sf ?_;refine fq ?_;exact aK X
theorem acZ(n:Nat):∀x:Tm,cO x<=n->ab Y 266 [tm O x] (mM (o8 x)):=by induction n with|zero=>intro x h;have:=fJ x;omega|succ m z =>
  intro x r;rw[fJ]at r;have c:=alH (Y:=Y) (O:=O) x;have A:=R9 (Y:=Y) (O:=O) x.i;let⟨R,b⟩:=aq (o8 x);rw[<-b];let⟨k,i,n,a⟩:=x;rw[o8]at b;simp only at r c A;let⟨G,L⟩:=aq (iF i);rw[<-L]at A b;by_cases B:k=2/\a.length=2/\eP n=true;rotate_left
  ·rw[show(decide (k=2)&&decide (a.length=2)&&eP n)=false by cases h:decide (k=2)&&decide (a.length=2)&&eP n with|false=>rfl|true=>rw[au_,au_,decide_eq_true_eq,decide_eq_true_eq]at h;exact absurd ⟨h.1.1,h.1.2,h.2⟩ B]at c;have IK:R=if k=1 then(0,17) else if k=0 then if G=true then(i,0) else(0,5) else(0,11):=by rw[b,if_neg B]
   clear z r b B;refine st aff jD (kG _) ?_;repeat' first|refine bg jD (D.jF rfl A ⟨bZ _,trivial⟩ ⟨WU i,trivial⟩) (λd=>?_) λd=>?_|apply bk jD c|refine cg jD (λd=>?_) λd=>?_|refine fq ?_
   all_goals clear A c
   all_goals refine jJ ?_;rw[IK];simp_all;done
  obtain⟨rfl,M,C⟩:=B;rw[if_neg Z,if_neg Z,if_pos ⟨rfl,M,C⟩]at b;match a,M with
  |[x,y],_ =>
  rw[C]at c;simp only[bE]at r;have E:=z x Z;have F:=z y Z;have o:=λp q=>ahk (Y:=Y) n p q C;clear z r L C;simp only[abG]at b;let⟨⟨u,e⟩,N⟩:∃P,P=o8 x:=⟨_,rfl⟩;let⟨⟨v,f⟩,S⟩:∃Q,Q=o8 y:=⟨_,rfl⟩;rw[<-N]at E b;rw[<-S]at F b;simp only at b;have o:=o u v;let⟨⟨g,h⟩,T⟩:∃V,V=M8 n u v:=⟨_,rfl⟩;rw[<-T]at o b;rw[mM]at E F o;simp only at E F o;clear N S T;refine st aff jD (kG _) ?_;repeat' first|refine og jD (D.bO rfl c (by exact⟨bH ⟨2,i,n,[x,y]⟩,trivial⟩)) ?_|exact dy d|refine cg jD (λd=>?_) λd=>?_
  all_goals first|skip
  refine H.g5 (σ:=Int×Int×Int) 2 2 [] (λp=>[(1,.pt 0 4 0 0),(4,.pt 1 2 0 0),(32,.v (.int .i64 p.1))]) [] (λp=>[(0,.arr 4 [kR O ⟨2,i,n,[x,y]⟩] 0 true),(1,.arr 2 [[iv p.2.1,iv p.2.2]] 0 true)]) (λp=>p.1=0\/p.1=1/\p.2.1=u/\e=0\/p.1=2/\p.2.1=u/\p.2.2=v/\e=0/\f=0) (λp=>2-p.1.toNat) (0,0,0) (.inl rfl) rfl cz ?_;rintro⟨j,c0,c1⟩ s;simp only at s;rcases s with s|⟨s,J,W⟩|⟨s,J,fQ,W,hf⟩
  ·skip;refine I jD ?_;refine cn (λt=>?_) λt=>?_;rotate_left;omega;refine I jD ?_;refine og jD (D.ind rfl rfl (cD (l:=[x,y]) (k:=0) Z rfl) cE) ?_;apply bk jD E;refine cn (λw=>?_) λw=>?_
   ·refine I jD ?_;repeat refine rG jD ?_
    refine fq ?_;refine jJ ?_;rw[b];simp_all
   refine I jD ?_;refine og jD (D.Oo (m:=0) rfl rfl Z aD) ?_;refine ag jD λK dU=>?_;refine H.bK (K,u,c1) [] ?_ ?_ cz;exact .inr (.inl ⟨by simp only;omega,rfl,w⟩);simp only;omega
  ·skip;refine I jD ?_;refine cn (λt=>?_) λt=>?_;rotate_left;omega;refine I jD ?_;refine og jD (D.ind rfl rfl (cD (l:=[x,y]) (k:=1) Z rfl) cE) ?_;apply bk jD F;refine cn (λw=>?_) λw=>?_
   ·refine I jD ?_;repeat refine rG jD ?_
    refine fq ?_;refine jJ ?_;rw[b];simp_all
   refine I jD ?_;refine og jD (D.Oo (m:=1) rfl rfl Z aD) ?_;refine ag jD λK dU=>?_;refine H.bK (K,c0,v) [] ?_ ?_ cz;exact .inr (.inr ⟨by simp only;omega,J,rfl,W,w⟩);simp only;omega
  ·skip;refine I jD ?_;refine cn (λt=>?_) λt=>?_;omega;refine I jD ?_;refine H.lG ?_;subst J fQ;refine I jD ?_;repeat' first|refine og jD (D.Oo (m:=0) rfl rfl rfl aD) ?_|refine og jD (D.Oo (m:=1) rfl rfl rfl aD) ?_|apply bk jD o|refine fq ?_
   all_goals refine jJ ?_;rw[b];simp_all
def U0(x:Tm):ab Y 266 [tm O x] (mM (o8 x)):=acZ _ x (ad_ _)
def ap6:=aC func294 call294
def Ef:List Nat:=[2,3,4,5,6,0,1,9,18,7,8]
def ap7:=aC func241 call241
def WV:List Nat:=[7,8,20,9,6,1,2,4,5,18,0,21,27,33]
def ap8:=aC func236 call236
def ac0:List Nat:=[1,2,0]
def WW:=aC func172 call172
def pA:List Nat:=[1,3,21,35,4,2,0,7,22,26,31,34,41,50]
def ap9:=aC func260 call260
def rH:List Nat:=[5,16,0,6,2,13,1,15,17,14,8,24]
def yO(a b:Tm):Int×Int×Int:=if !oA a ||!oA b then(0,0,2) else if !sO a ||!sO b then(0,0,0) else((o8 a).1,(o8 b).1,pS (decide ((o8 a).2=0)&&decide ((o8 b).2=0)))
def WX(p:Int×Int×Int):AV:=.aL [iv p.1,iv p.2.1,iv p.2.2]
def ZQ(p:Int×Int×Int):Pure (WX p):=.aL (WT .v .v .v)
theorem ahm{a b c:Int}{p:Int×Int×Int}(h:p=(a,b,c)):aI S (.aL [.v (.int .i64 a),.v (.int .i64 b),.v (.int .i64 c)]) (WX p):=by subst h;exact .refl _
theorem WY(op:Int)(a b:Tm):wP op a b=if(yO a b).2.2=1 then pS (V1 op (yO a b).1 (yO a b).2.1) else(yO a b).2.2:=by grind[wP,yO,o8,pS]
theorem ZR(a b:Tm)(m:Bb a)(h:Bb b):ab Y 294 [tm O a,tm O b] (WX (yO a b)):=by
 have i:=Sg (Y:=Y) (O:=O) a;have j:=Sg (Y:=Y) (O:=O) b;have k:=JH (Y:=Y) (O:=O) a m;have l:=JH (Y:=Y) (O:=O) b h;have d:=U0 (Y:=Y) (O:=O) a;have g:=U0 (Y:=Y) (O:=O) b;let⟨R,c⟩:=aq (yO a b);rw[<-c];unfold yO at c;let⟨v,n⟩:=aq (oA a);let⟨w,o⟩:=aq (oA b);let⟨GA,r⟩:=aq (sO a);let⟨GB,s⟩:=aq (sO b);let⟨⟨p,e⟩,t⟩:∃x,x=o8 a:=⟨_,rfl⟩;let⟨⟨q,f⟩,u⟩:∃x,x=o8 b:=⟨_,rfl⟩;rw[<-n]at i c;rw[<-o]at j c;rw[<-r]at k c;rw[<-s]at l c;rw[<-t]at d c;rw[<-u]at g c;rw[mM]at d g;simp only at d g c;clear n o r s t u m h;refine st ap6 Ef (ZQ _) ?_;repeat' first|refine bg Ef (pl i) (λ_=>?_) λ_=>?_|refine bg Ef (pl j) (λ_=>?_) λ_=>?_|refine bg Ef (pl k) (λ_=>?_) λ_=>?_|refine bg Ef (pl l) (λ_=>?_) λ_=>?_|apply bk Ef d|apply bk Ef g|apply bk Ef (xA _)|refine cg Ef (λh=>?_) λh=>?_|refine fq ?_
 all_goals clear i j k l d g
 all_goals refine ahm ?_;rw[c];simp_all[pS];done
theorem WZ(op:Int)(a b:Tm)(f:Bb a)(e:Bb b):ab Y 241 [iv op,tm O a,tm O b] (iv (wP op a b)):=by
 have d:=ZR (Y:=Y) (O:=O) a b f e;let⟨R,c⟩:=aq (wP op a b);rw[<-c];rw[WY]at c;let⟨⟨x,y,s⟩,g⟩:∃V,V=yO a b:=⟨_,rfl⟩;rw[<-g]at d c;rw[WX]at d;simp only at d c;clear g f e;unfold V1 at c;refine st ap7 WV .v ?_;repeat' first|apply bk WV d|apply bk WV (xA _)|refine cg WV (λe=>?_) λe=>?_|refine fq ?_
 all_goals clear d
 all_goals refine dx ?_;rw[c];simp_all[pS];done
theorem HP(g:Gl)(c:mW 100000000000 g):ab Y 236 [gl O g] (.v (.bool (kO g))):=by
 have d:=BX (Y:=Y) (O:=O) g (c.ok aD) c.2.2;let⟨R,b⟩:=aq (kO g);rw[<-b];unfold kO nr at b;let⟨G,e⟩:=aq (de g);rw[<-e]at d b;let⟨o,n,a⟩:=g;simp only at b;clear c e;refine st ap8 ac0 .v ?_;repeat' first|refine bg ac0 (pl d) (λ_=>?_) λ_=>?_|refine cg ac0 (λf=>?_) λf=>?_|refine fq ?_
 all_goals clear d
 all_goals refine aK ?_;rw[b];simp_all<;>omega
theorem alK(g:Gl)(c:mW 100000000000 g)(f:kO g=false):ab Y 172 [gl O g] (iv (nn g)):=by
 have d:=HP (Y:=Y) (O:=O) g c;have e:=BX (Y:=Y) (O:=O) g (c.ok aD) c.2.2;let⟨R,b⟩:=aq (nn g);rw[<-b];unfold nn at b;rw[if_neg X]at b;rw[f]at d;let⟨G,h⟩:=aq (de g);rw[<-h]at e b;let⟨o,n,a⟩:=g;simp only at b;clear c h f;refine st WW pA .v ?_;repeat' first|apply bk pA d|refine bg pA (pl e) (λ_=>?_) λ_=>?_|apply bk pA (xA _)|refine cg pA (λi=>?_) λi=>?_|refine fq ?_
 all_goals clear d e
 all_goals refine dx ?_;rw[b];simp_all[pS];done
theorem alL(op:Int)(n:ByteArray)(x:Tm)(b:mW 100000000000 ⟨op,n,[x]⟩)(c:kO ⟨op,n,[x]⟩=true)(p:op=11\/op=12):ab Y 172 [gl O ⟨op,n,[x]⟩] (iv (nn ⟨op,n,[x]⟩)):=by
 have d:=HP (Y:=Y) (O:=O) _ b;have f:Bb x:=⟨b.1.mem x aB,by have:=b.2.1;simp only[bE]at this;omega⟩;have e:=JH (Y:=Y) (O:=O) x f;let⟨R,a⟩:=aq (nn ⟨op,n,[x]⟩);rw[<-a];unfold nn at a;rw[if_pos c]at a;simp only[Qn]at a;rw[c]at d;let⟨G,g⟩:=aq (sO x);rw[<-g]at e a;let⟨h,i,j,m⟩:=x;simp only at a;clear b g c f;refine st WW pA .v ?_;repeat' first|apply bk pA d|refine og pA (D.ind rfl rfl (cD (l:=[⟨h,i,j,m⟩]) (k:=0) rfl rfl) cE) ?_|refine bg pA (pl e) (λ_=>?_) λ_=>?_|apply bk pA (xA _)|refine cg pA (λo=>?_) λo=>?_|refine fq ?_
 all_goals clear d e
 all_goals first|omega|refine dx ?_;rw[a];simp_all[pS];done
theorem alM(op:Int)(n:ByteArray)(x y:Tm)(e:mW 100000000000 ⟨op,n,[x,y]⟩)(i:kO ⟨op,n,[x,y]⟩=true)(s:op≠11/\op≠12):ab Y 172 [gl O ⟨op,n,[x,y]⟩] (iv (nn ⟨op,n,[x,y]⟩)):=by
 have j:=HP (Y:=Y) (O:=O) _ e;have J:=e.2.1;simp only[bE]at J;have f:Bb x:=⟨e.1.mem x aB,Z⟩;have g:Bb y:=⟨e.1.mem y aB,Z⟩;have m:=Sd (Y:=Y) (O:=O) x y f.1 g.1;have h:=zm9 (Y:=Y) (O:=O) (a:=x) (b:=y) f.1 g.1;have o:de ⟨op,n,[x,y]⟩=true:=by grind[kO]
 rw[KS (wQ o x aB) (wQ o y aB)]at h;have p:=WZ (Y:=Y) (O:=O) op x y f g;let⟨R,d⟩:=aq (nn ⟨op,n,[x,y]⟩);rw[<-d];unfold nn at d;rw[if_pos i]at d;simp only[Qn]at d;rw[if_neg s.1,if_neg s.2]at d;rw[i]at j;let⟨q,r⟩:=aq (abH x y);rw[<-r]at d;rw[show decide ((ou iX [(x,y)]).2=0\/(ou iX [(x,y)]).2=6)=q from r.symm]at h;let⟨V,t⟩:=aq (wP op x y);rw[<-t]at p d;let⟨c,u⟩:=aq (fe x y==0);rw[<-u]at m;have v:fe x y=0↔c=true:=X;simp only[v]at d;clear e r t u v i f g o;let⟨w,z,A,B⟩:=x;let⟨C,E,F,G⟩:=y;refine st WW pA .v ?_;repeat' first|apply bk pA j|refine og pA (D.ind rfl rfl (cD (l:=[⟨w,z,A,B⟩,⟨C,E,F,G⟩]) (k:=0) rfl rfl) cE) ?_|refine og pA (D.ind rfl rfl (cD (l:=[⟨w,z,A,B⟩,⟨C,E,F,G⟩]) (k:=1) rfl rfl) cE) ?_|refine bg pA (pl m) (λ_=>?_) λ_=>?_|refine bg pA (pl h) (λ_=>?_) λ_=>?_|apply bk pA p|apply bk pA (xA _)|refine cg pA (λK=>?_) λK=>?_|refine fq ?_
 all_goals clear j m h p
 all_goals first|omega|refine dx ?_;rw[d];simp_all[pS];done
theorem ahn(g:Gl)(f:mW 100000000000 g):ab Y 172 [gl O g] (iv (nn g)):=by cases d:kO g with|false=>exact alK g f d|true =>
  have e:=d;unfold kO nr at e;rw[au_,au_,decide_eq_true_eq,decide_eq_true_eq]at e;have b:=KT e.2 Z;let⟨op,n,a⟩:=g;simp only at b e;unfold arity at b;by_cases c:op=11\/op=12;rw[if_neg Z,if_pos c]at b;match a,b with|[x],_=>exact alL op n x f d c
  rw[if_neg Z,if_neg c,if_pos Z]at b;match a,b with|[x,y],_=>exact alM op n x y f d ⟨λh=>c (.inl h),λh=>c (.inr h)⟩
theorem ap_(b:List Bd)(kn:List Gl)(g:Gl)(d:b.length<=1099511627776)(N:kn.length<=1099511627776)(t:jv 200 b)(u:gk b)(v:mW 100000000 g)(l:∀k∈kn,mW 100000000 k):ab Y 260 [a8 O b,er O kn,gl O g] (iv (s_ b kn g)):=by have n:=NC (Y:=Y) (O:=O) d g (aA_ v.2.1 aD);have o:mW 100000000000 (gy b g):=(v.app t u aD).mono aD;have h:=HP (Y:=Y) (O:=O) _ o;have f:=ahn (Y:=Y) (O:=O) _ o;have p:∀k∈kn,ab Y 171 [a8 O b,gl O k] (gl O (gy b k))/\ab Y 299 [gl O (gy b k),gl O (gy b g)] (.v (.bool (nt (gy b k) (gy b g)))):=λk z =>⟨NC d k (aA_ (l k z).2.1 aD),aho _ _ ((((l k z).app t u aD).mono (by decide:_<=100000000000)).ok aD) (o.ok aD)⟩;let⟨R,a⟩:=aq (s_ b kn g);rw[<-a];unfold s_ at a;let⟨G,w⟩:=aq (gy b g);rw[<-w]at n h f a;simp only[<-w]at p;let⟨T,A⟩:=aq (kO G);let⟨W,B⟩:=aq (nn G);rw[<-A]at h a;rw[<-B]at f a;clear t u v l o w A B d;let⟨Go,q,r⟩:=G;let⟨go,P,Q⟩:=g;refine st ap9 rH .v ?_;apply bk rH n;refine H.op rfl (pl h) ?_;cases T with|false =>rw[bs_,if_neg aB]at a;refine I rH ?_;apply bk rH f;refine fq ?_;exact dx a.symm|true =>
 rw[az_]at a;refine I rH ?_;refine lg rH λm S=>?_;refine bD 1 1 [] (λi=>[(0,a8 O b),(5,.pt 0 3 0 0),(14,er O kn),(15,.v (.int .i64 m)),(16,.v (.int .i64 i))]) [] (λ_=>[(0,.arr 3 [MG O ⟨Go,q,r⟩] 0 true)]) kn.length (λk=>R=if((kn.drop k).any λk=>nt (gy b k) ⟨Go,q,r⟩)=true then 1 else W) X λi k J l e=>?_;clear a;refine I rH ?_;by_cases K:k<kn.length
 ·let⟨y,C,L⟩:=aA K;let⟨x,s⟩:=p y (aZ C);rw[L,bI_]at e;let⟨j,E⟩:=aq (gy b y);rw[<-E]at x s e;let⟨c,F⟩:=aq (nt j ⟨Go,q,r⟩);rw[<-F]at s e;let⟨V,M⟩:=aq ((kn.drop (k+1)).any λk=>nt (gy b k) ⟨Go,q,r⟩);rw[<-M]at e;let⟨yo,yn,ya⟩:=y;let⟨Yo,Yn,Ya⟩:=j;clear E F;repeat' first|refine og rH (D.bh J C) ?_|apply bk rH x|refine bg rH (pl s) (λ_=>?_) λ_=>?_|refine cg rH (λd=>?_) λd=>?_|refine ag rH λ_ _=>?_|refine xG rH ?_|refine rG rH ?_|refine fq ?_
  all_goals clear h f x s n p
  all_goals first|refine dx ?_;rw[e];simp_all;done|omega|exact cB _ [] (k+1) X
 ·skip;repeat' first|apply bk rH f|refine cg rH (λd=>?_) λd=>?_|refine xG rH ?_|refine fq ?_
  all_goals clear h f n p
  all_goals first|omega|rw[aq_ Z,dh_,if_neg aB]at e;exact dx e.symm
def aqa:=aC func201 call201
def gV:List Nat:=[0,34,6,1,27,33,35,32,2,8,57]
def xR(O:Hd)(s:c_)(r:Rl)(k:Int)(hs:List At)(F:AV):List AV:=[er O s.goals,kS O s.store,a8 O s.binds,ky O s.bf,er O s.known,iv s.next,iv s.fresh,.v (.bool s.failed),.v (.string r.n),fI O r.aQ,fI O r.rem,er O r.guard,er O r.body,iv r.vars,iv k,fI O hs,F,.yl 0]
def xO(O:Hd)(s:c_)(r:Rl)(k:Int)(hs:List At)(F:AV):Ob:=.arr 18 [xR O s r k hs F] 0 true
theorem Sh{k:Int}{hs:List At}{F:AV}(c:Pure F){B:Nat}(e:1<=B):kp B (xO O s r k hs F):=λrow d a b=>by cases ar_.1 d;simp only[xR,al_,ax_,or_false]at b;rcases b with rfl|rfl|rfl|rfl|rfl|rfl|rfl|rfl|rfl|rfl|rfl|rfl|rfl|rfl|rfl|rfl|rfl|rfl;exact(a7 _).bu;exact(dQ _).bu;exact(bI _).bu;exact(eN _).bu;exact(a7 _).bu;exact .v;exact .v;exact .v;exact .v;exact(cQ _).bu;exact(cQ _).bu;exact(a7 _).bu;exact(a7 _).bu;exact .v;exact .v;exact(cQ _).bu;exact c.bu;exact .yl Z
set_option maxHeartbeats 1000000 in theorem Tg(s:c_)(r:Rl)(LO:Int)(hs:List At)(y:Nat)(fs cs:List AV)(J:iA)(iI:Pure (.fn (.func y) fs cs))(e:List Int)(env:List Bd)(o:KZ s)(z:KY r)(D_:e.length<=1000000)(T:env.length<=1099511627776)(V:gk env)(W:jv 200 env):aF prog Y 201 [.pt 1 18 0 0,aY O aV false e,a8 O env] (aw [(0,.fo J),(1,xO O s r LO hs (.fn (.func y) fs cs))] 2) (.v (.bool (l_ s r LO s.fresh e env))) (aw [(0,.fo J),(1,xO O s r LO hs (.fn (.func y) fs cs))] 2):=by
 have u:=Sh (O:=O) (s:=s) (r:=r) (k:=LO) (hs:=hs) iI (B:=2) aD;have A:=TG (Y:=Y) (O:=O) r (by have:=z.hn;rw[av_]at this;omega);have v:=ali (Y:=Y) (O:=O) s.bf ⟨LO,e⟩ (by have:=o.fn;omega) λx f=>by have:=o.fa x f;omega (by simp only;omega);have w:∀g∈r.guard,ab Y 79 [a8 O env,iv s.fresh,gl O g] (gl O (jZ env s.fresh g))/\ab Y 260 [a8 O s.binds,er O s.known,gl O (jZ env s.fresh g)] (iv (s_ s.binds s.known (jZ env s.fresh g))):=λg N =>⟨ab3 T o.f0 o.f1 g (aA_ (z.ga g N).1.2.1 aD) (z.ga g N).2,ap_ s.binds s.known _ (by have:=o.bn;omega) (by have:=o.kn;omega) o.bs o.bo (((z.ga g N).1.ins W V aD).mono aD) λx f=>(o.ka x f).mono aD⟩;have AU:=z.gn;let⟨R,c⟩:=aq (l_ s r LO s.fresh e env);rw[<-c];unfold l_ LZ at c;let⟨b1,P⟩:=aq r.rem.isEmpty;let⟨b2,Q⟩:=aq (DI s.bf ⟨LO,e⟩);rw[<-P,<-Q]at c;rw[<-P]at A;rw[<-Q]at v;clear P Q o z D_ T V W;let⟨goals,store,h,S,j,next,fresh,failed⟩:=s;let⟨rn,K,L,rg,M,rv⟩:=r;dsimp only at v w AU c;have zE:=lh (O:=O) ⟨rn,K,L,rg,M,rv⟩;refine sc 2 2 aqa ?_;refine I gV ?_;cases b1<;>cases b2;all_goals refine H.op rfl (pl A) ?_
 all_goals refine I gV ?_
 rotate_left 2
 ·apply bk gV v;simp only[bs_,bN_,cJ_,az_]at c;refine lg gV λm hm=>?_;refine bD 2 2 [] (λi=>[(0,.pt 1 18 0 0),(2,a8 O env),(32,er O rg),(33,.v (.int .i64 m)),(34,.v (.int .i64 i))]) [] (λ_=>[(0,.fo J),(1,xO O ⟨goals,store,h,S,j,next,fresh,failed⟩ ⟨rn,K,L,rg,M,rv⟩ LO hs (.fn (.func y) fs cs))]) rg.length (λk=>R=(rg.drop k).all λg=>decide (s_ h j (jZ env fresh g)=1)) (by simpa using c) λi k E hk a=>?_;clear c;refine I gV ?_;by_cases F:k<rg.length
  ·let⟨x,f,G⟩:=aA F;let⟨l,d⟩:=w x (aZ f);rw[G,aJ_]at a;let⟨b,p⟩:=aq (jZ env fresh x);rw[<-p]at l d a;let⟨C,q⟩:=aq (s_ h j b);rw[<-q]at d a;let⟨RS,t⟩:=aq ((rg.drop (k+1)).all λg=>decide (s_ h j (jZ env fresh g)=1));rw[<-t]at a;let⟨xo,xn,xa⟩:=x;let⟨Xo,Xn,Xa⟩:=b;clear p q w A v;repeat' first|refine og gV (D.bh E f) ?_|apply bk gV l|refine ig gV (pl d) λ_ _=>?_|refine cg gV (λn=>?_) λn=>?_|refine ag gV λ_ _=>?_|refine xG gV ?_|refine rG gV ?_|refine fq ?_
   all_goals clear l d
   all_goals first|omega|cases(show R=false by rw[a,decide_eq_false Z,bs_]);exact⟨[],.aJ .v,⟨.inl ⟨_,rfl,.same trivial⟩,.inl ⟨_,rfl,.same u⟩,trivial⟩,rfl⟩|exact cB _ [] (k+1) (by rw[a,decide_eq_true Z,az_,<-t])
  ·skip;repeat' first|refine cg gV (λn=>?_) λn=>?_|refine xG gV ?_|refine fq ?_
   all_goals first|omega|cases(show R=true by rw[a,aq_ Z,bl_]);exact⟨[],.aJ .v,⟨.inl ⟨_,rfl,.same trivial⟩,.inl ⟨_,rfl,.same u⟩,trivial⟩,rfl⟩
 apply bk gV v;refine fq ?_;simp only[cV_,cS_,bs_]at c;subst c;exact⟨[],.aJ .v,⟨.inl ⟨_,rfl,.same trivial⟩,.inl ⟨_,rfl,.same u⟩,trivial⟩,rfl⟩
 ·skip;simp only[bs_,bN_,cJ_,az_]at c;refine lg gV λm hm=>?_;refine bD 2 2 [] (λi=>[(0,.pt 1 18 0 0),(2,a8 O env),(32,er O rg),(33,.v (.int .i64 m)),(34,.v (.int .i64 i))]) [] (λ_=>[(0,.fo J),(1,xO O ⟨goals,store,h,S,j,next,fresh,failed⟩ ⟨rn,K,L,rg,M,rv⟩ LO hs (.fn (.func y) fs cs))]) rg.length (λk=>R=(rg.drop k).all λg=>decide (s_ h j (jZ env fresh g)=1)) (by simpa using c) λi k E hk a=>?_;clear c;refine I gV ?_;by_cases F:k<rg.length
  ·let⟨x,f,G⟩:=aA F;let⟨l,d⟩:=w x (aZ f);rw[G,aJ_]at a;let⟨b,p⟩:=aq (jZ env fresh x);rw[<-p]at l d a;let⟨C,q⟩:=aq (s_ h j b);rw[<-q]at d a;let⟨RS,t⟩:=aq ((rg.drop (k+1)).all λg=>decide (s_ h j (jZ env fresh g)=1));rw[<-t]at a;let⟨xo,xn,xa⟩:=x;let⟨Xo,Xn,Xa⟩:=b;clear p q w A v;repeat' first|refine og gV (D.bh E f) ?_|apply bk gV l|refine ig gV (pl d) λ_ _=>?_|refine cg gV (λn=>?_) λn=>?_|refine ag gV λ_ _=>?_|refine xG gV ?_|refine rG gV ?_|refine fq ?_
   all_goals clear l d
   all_goals first|omega|cases(show R=false by rw[a,decide_eq_false Z,bs_]);exact⟨[],.aJ .v,⟨.inl ⟨_,rfl,.same trivial⟩,.inl ⟨_,rfl,.same u⟩,trivial⟩,rfl⟩|exact cB _ [] (k+1) (by rw[a,decide_eq_true Z,az_,<-t])
  ·skip;repeat' first|refine cg gV (λn=>?_) λn=>?_|refine xG gV ?_|refine fq ?_
   all_goals first|omega|cases(show R=true by rw[a,aq_ Z,bl_]);exact⟨[],.aJ .v,⟨.inl ⟨_,rfl,.same trivial⟩,.inl ⟨_,rfl,.same u⟩,trivial⟩,rfl⟩
 ·skip;simp only[bs_,bN_,cJ_,az_]at c;refine lg gV λm hm=>?_;refine bD 2 2 [] (λi=>[(0,.pt 1 18 0 0),(2,a8 O env),(32,er O rg),(33,.v (.int .i64 m)),(34,.v (.int .i64 i))]) [] (λ_=>[(0,.fo J),(1,xO O ⟨goals,store,h,S,j,next,fresh,failed⟩ ⟨rn,K,L,rg,M,rv⟩ LO hs (.fn (.func y) fs cs))]) rg.length (λk=>R=(rg.drop k).all λg=>decide (s_ h j (jZ env fresh g)=1)) (by simpa using c) λi k E hk a=>?_;clear c;refine I gV ?_;by_cases F:k<rg.length
  ·let⟨x,f,G⟩:=aA F;let⟨l,d⟩:=w x (aZ f);rw[G,aJ_]at a;let⟨b,p⟩:=aq (jZ env fresh x);rw[<-p]at l d a;let⟨C,q⟩:=aq (s_ h j b);rw[<-q]at d a;let⟨RS,t⟩:=aq ((rg.drop (k+1)).all λg=>decide (s_ h j (jZ env fresh g)=1));rw[<-t]at a;let⟨xo,xn,xa⟩:=x;let⟨Xo,Xn,Xa⟩:=b;clear p q w A v;repeat' first|refine og gV (D.bh E f) ?_|apply bk gV l|refine ig gV (pl d) λ_ _=>?_|refine cg gV (λn=>?_) λn=>?_|refine ag gV λ_ _=>?_|refine xG gV ?_|refine rG gV ?_|refine fq ?_
   all_goals clear l d
   all_goals first|omega|cases(show R=false by rw[a,decide_eq_false Z,bs_]);exact⟨[],.aJ .v,⟨.inl ⟨_,rfl,.same trivial⟩,.inl ⟨_,rfl,.same u⟩,trivial⟩,rfl⟩|exact cB _ [] (k+1) (by rw[a,decide_eq_true Z,az_,<-t])
  ·skip;repeat' first|refine cg gV (λn=>?_) λn=>?_|refine xG gV ?_|refine fq ?_
   all_goals first|omega|cases(show R=true by rw[a,aq_ Z,bl_]);exact⟨[],.aJ .v,⟨.inl ⟨_,rfl,.same trivial⟩,.inl ⟨_,rfl,.same u⟩,trivial⟩,rfl⟩
def W0:=aC func100 call100
def G2:List Nat:=[0,2,4]
def afo:=aC func135 call135
def iR:List Nat:=[0,1,7,9,2,44,6,20,24,43,45,42,62,11,10,91]
theorem ZS(b:Pure F)(a:iC T [(0,.fo J),(1,xO O s r LO hs F)]):kP (aW []) 2 T [(0,.fo J),(1,xO O s r LO hs F)]:=by have c:=a (0,.fo J) aB;have d:=a (1,xO O s r LO hs F) aB;exact⟨⟨_,c,.fo⟩,⟨_,d,.row ⟨.pure (a7 _),.pure (dQ _),.pure (bI _),.pure (eN _),.pure (a7 _),.pure .v,.pure .v,.pure .v,.pure .v,.pure (cQ _),.pure (cQ _),.pure (a7 _),.pure (a7 _),.pure .v,.pure .v,.pure (cQ _),.pure b,.yl rfl rfl,trivial⟩⟩,trivial⟩
def ZT{a:Nat}(b:Pure F)(c:ix (dP (aW []) 2 a) [(0,.fo J),(1,xO O s r LO hs F)] K):ix (dP (aW []) 2 a) [(0,.fo J),(1,xO O s r LO hs F)] ((0,some (.fo J))::(1,some (xO O s r LO hs F))::K) :=⟨⟨0,_,rfl,rfl,.fo⟩,⟨1,_,rfl,rfl,.row ⟨.pure (a7 _),.pure (dQ _),.pure (bI _),.pure (eN _),.pure (a7 _),.pure .v,.pure .v,.pure .v,.pure .v,.pure (cQ _),.pure (cQ _),.pure (a7 _),.pure (a7 _),.pure .v,.pure .v,.pure (cQ _),.pure b,.yl rfl,trivial⟩⟩,c⟩
theorem afp{b:AV}(a:iC T [(0,.fo J),(1,xO O s r LO hs F)]):Hy Y T [.pt 1 18 0 0,b,a2] 2 [] :=Hy.cell (i:=0) (q:=17) (j0:=0) rfl (a (1,xO O s r LO hs F) aB) rfl (a (0,.fo J) aB) aD rfl
theorem y0{i j:Nat}{a b:Ob}(h1:S.get i=some a)(h2:S.get j=some b):iC S [(i,a),(j,b)]:=by intro p c;simp only[al_,ax_,or_false]at c;rcases c with rfl|rfl<;>assumption
theorem ac1(A:Option Addr)(c:Nat):ab Y 100 [.v (.slice A 0 c)] (.sl true []):=by cases A with|none =>refine st W0 G2 (.sl λr h=>X) ?_;refine og G2 (D.nil rfl rfl) ?_;refine fq ?_;exact .refl _|some A =>refine st W0 G2 (.sl λr h=>X) ?_;refine og G2 (D.nil rfl rfl) ?_;refine og G2 (D.Ol rfl rfl) ?_;refine fq ?_;exact .refl _
theorem NK:aI S (.sl true []) (aY O aV false []):=by rw[bF];exact aI.wk
theorem ac2(e:List Int)(b:e.length<=100000000000):ab Y 100 [aY O aV false e] (aY O aV false e):=by cases e with
 |nil =>
  have h:ab Y 100 [aY O aV false []] (.sl true []):=by rw[bF];exact ao.emp ac1
  exact h.Iy (λS=>NK) (bZ _)|cons x l =>
  let⟨R,a⟩:=aq (x::l);have c:FD (aY O aV false R)=some false:=by rw[a,bF];rfl
  rw[<-a]at b⊢;refine st W0 G2 (bZ _) ?_;refine og G2 (D.nil c rfl) ?_;refine H.rP (ys:=R) rfl rfl rfl (λ_=>rfl) Z λLR len d f=>?_;refine I G2 ?_;refine fq ?_;cases(d:LR=R);exact aI.grow rfl f
section
variable{rd:Bool}{K:List gw}{lg:List (List Nat×List Nat×Bool)}{T:Type}{f:T->List AV}{LR:List T}
theorem D.alj{m:Nat}{x hi b:QO}{c a:IntKind}{j:Int}(h1:x.ev U.tm=aY O f ex LR)(h2:hi.ev U.tm=.v (.int c j))(h3:b.ev U.tm=.v (.int a j))(k:j=LR.length)(d:∀x,(f x).length=m):D P Y dr (.slice (.sl m) x none (some hi) (some b)) U S (aY O f true LR) S:=D.Qr λt h=>by obtain⟨h,_⟩|⟨e,l,h,g,hs⟩:=h;grind;injection h with h;subst h;rw[aY]at h1;have n:(O.h (List.map f) LR).length=LR.length:=az;simp only[h1,h2,h3,bt_,aK_,qd,g,mn];refine⟨λrow i=>by rw[hs,ec (m:=m) d row i],X,bp_ _,Z,trivial,Z,?_,rfl⟩;rw[show j.toNat=LR.length by omega,aX_ Z];rfl
theorem bm.iW{sz LQ:Nat}{a b:QO}{rows FJ:List (List AV)}{x:List AV}(d:a.ev U.tm=.sl true rows)(f:b.ev U.tm=.sl ex (x::FJ))(h2:∀row∈rows,row.length=sz)(h3:∀row∈x::FJ,row.length=sz)(h4:(rows.length+(x::FJ).length)*LQ<=35184372088832):bm P Y B (.append sz LQ a b) U S (.ob S.nx sz 0 (rows.length+(x::FJ).length) none) ⟨[],[(S.nx,some (.arr sz (rows++x::FJ) 0 false))],true⟩ :=bm.append f (λp c=>X) λT _ g e z i hs h c=>by rw[d];simp only[qt,hs,h,c];refine⟨h2,h3,h4,?_,?_⟩;grind;rw[gK];simp only[eE,<-g rfl];rfl
theorem H.aqb{c:Option Nat}{e:Option (Nat×Bool)}{a b:QO}{sz LQ:Nat}{ex':Bool}(y:T)(m:bC U.tm e=some true)(h1:a.ev U.tm=aY O f true LR)(p:b.ev U.tm=.sl ex' [f y])(A:∀x,(f x).length=sz)(C:(LR.length+1)*LQ<=35184372088832)(kk:∀g k,g=LR++[y]->k=g.length->H P Y rd n Q (.kC B V (lg++[([],[S.nx],true)]) rs l K) (bU c U (.gr S.nx sz k)) (eX S [(S.nx,some (.arr sz (O.h (List.map f) g) 0 false))] true)):H P Y rd n Q (.kC B V lg rs (⟨c,e,.append sz LQ a b⟩::l) K) U S:=by rw[bF]at h1;have h:=kk _ _ rfl rfl;rw[O.eq,ba_,aH_,aV_]at h;have q:=bm.iW (P:=P) (Y:=Y) (B:=B) (S:=S) (sz:=sz) (LQ:=LQ) (x:=f y) (FJ:=[]) h1 p (λrow j=>X) (λrow j=>X) X;refine H.gD (i:=⟨c,e,.append sz LQ a b⟩) (d:=⟨[],[(S.nx,some (.arr sz (List.map f LR++[f y]) 0 false))],true⟩) m ?_ h;intro n o j;let⟨r,s,t⟩:=q n o j;refine⟨r,s,λT u v w=>?_⟩;have z:=(t T u v w).rv (Rv.aa6 (Y:=Y));simpa using z
end
theorem U1(d:Pure F)(i:2<q)(b:iC T [(0,.fo J),(1,xO O s r LO hs F),(q,.arr 1 (O.h (List.map aV) W) 0 false)]):kP (aW [(2,q)]) 3 T [(0,.fo J),(1,xO O s r LO hs F),(2,.arr 1 (O.h (List.map aV) W) 0 false)]:=by have e:=b (0,.fo J) aB;have f:=b (1,xO O s r LO hs F) aB;have g:=b (q,.arr 1 (O.h (List.map aV) W) 0 false) aB;exact⟨⟨_,e,.fo⟩,⟨_,f,.row ⟨.pure (a7 _),.pure (dQ _),.pure (bI _),.pure (eN _),.pure (a7 _),.pure .v,.pure .v,.pure .v,.pure .v,.pure (cQ _),.pure (cQ _),.pure (a7 _),.pure (a7 _),.pure .v,.pure .v,.pure (cQ _),.pure d,.yl rfl rfl,trivial⟩⟩,⟨_,g,.pure λrow c a h=>by rw[O.eq]at c;obtain⟨x,_,rfl⟩:=aD_.1 c;cases ar_.1 h;exact .v⟩,trivial⟩
def U2{a:Nat}(b:Pure F)(c:ix (dP (aW [(2,q)]) 3 a) [(0,.fo J),(1,xO O s r LO hs F)] K):ix (dP (aW [(2,q)]) 3 a) [(0,.fo J),(1,xO O s r LO hs F)] ((0,some (.fo J))::(1,some (xO O s r LO hs F))::K) :=⟨⟨0,_,rfl,rfl,.fo⟩,⟨1,_,rfl,rfl,.row ⟨.pure (a7 _),.pure (dQ _),.pure (bI _),.pure (eN _),.pure (a7 _),.pure .v,.pure .v,.pure .v,.pure .v,.pure (cQ _),.pure (cQ _),.pure (a7 _),.pure (a7 _),.pure .v,.pure .v,.pure (cQ _),.pure b,.yl rfl,trivial⟩⟩,c⟩
theorem ZU{b:AV}(a:iC T [(0,.fo J),(1,xO O s r LO hs F),(q,.arr 1 (O.h (List.map aV) W) 0 false)]):Hy Y T [.pt 1 18 0 0,b,a2] 3 [(2,q)] :=Hy.cell (i:=0) (q:=17) (j0:=0) rfl (a (1,xO O s r LO hs F) aB) rfl (a (0,.fo J) aB) aD rfl
theorem NL{i j k:Nat}{a b c:Ob}(h1:S.get i=some a)(h2:S.get j=some b)(h3:S.get k=some c):iC S [(i,a),(j,b),(k,c)]:=by intro p d;simp only[al_,ax_,or_false]at d;rcases d with rfl|rfl|rfl<;>assumption
theorem ZV{P:Program}{f:FuncId}{c:AV}{b:iA}(g:Pure F)(n:Pure a2)(p:Pure c)(h:aF P Y f [.pt 1 18 0 0,aY O aV false W,a2] (aw [(0,.fo J),(1,xO O s r LO hs F)] 2) c (aw [(0,.fo b),(1,xO O s r LO hs F)] 2)):aF P Y f [.pt 1 18 0 0,.gr 2 1 W.length,a2] (aw [(0,.fo J),(1,xO O s r LO hs F),(2,.arr 1 (O.h (List.map aV) W) 0 false)] 3) c (aw [(0,.fo b),(1,xO O s r LO hs F)] 5):=by
 have i:=aF.Wx (m:=[]) (T:=aw [(0,.fo J),(1,xO O s r LO hs F)] 3) (to:=[(0,some (.fo b)),(1,some (xO O s r LO hs F)),(3,none),(4,none)]) (PZ:=[.pt 1 18 0 0,aY O aV false W,a2]) (r₀:=c) (e:=2) h ⟨.pt rfl rfl,.pure (bZ _),.pure n,trivial⟩ (.pure p) rfl rfl (ZS g (y0 rfl rfl)) rfl (ZT g trivial) rfl rfl (afp (y0 rfl rfl)) (ad_ _);have e:(⟨eE (aw [(0,.fo J),(1,xO O s r LO hs F)] 3).get [(0,some (.fo b)),(1,some (xO O s r LO hs F)),(3,none),(4,none)],(aw [(0,.fo J),(1,xO O s r LO hs F)] 3).nx+2⟩:ah)=aw [(0,.fo b),(1,xO O s r LO hs F)] 5:=by
  have l:eE (aw [(0,.fo J),(1,xO O s r LO hs F)] 3).get [(0,some (.fo b)),(1,some (xO O s r LO hs F)),(3,none),(4,none)]=fH [(0,.fo b),(1,xO O s r LO hs F)]:=by funext k;match k with|0=>rfl|1=>rfl|2=>rfl|3=>rfl|4=>rfl|k+5=>rfl
  unfold aw at l⊢;rw[l]
 rw[e]at i;refine aF.Iy (args':=[.pt 1 18 0 0,aY O aV false W,a2]) (N:=ah.none_.set 2 (some (.arr 1 (O.h (List.map aV) W) 0 false))) (S':=aw [(0,.fo J),(1,xO O s r LO hs F)] 3) (λk o a=>?_) (ad_ _) (λk o a=>?_) ⟨.refl _,?_,.refl _,trivial⟩ i;have a:bJ ah.none_.get 2 (some (.arr 1 (O.h (List.map aV) W) 0 false)) k=some o:=a;by_cases e:k=2;subst e;rw[aG]at a;exact a;rw[aN _ _ e]at a;cases a;match k,a with|0,a=>exact⟨a,rfl⟩|1,a=>exact⟨a,rfl⟩|k+2,a=>cases a
 exact aI.grow rfl rfl
set_option maxHeartbeats 1000000 in theorem aqc(s:c_)(r:Rl)(LO:Int)(hs:List At)(e:Nat)(cs:List AV)(F:ja cs)(d:List Int)(env:List Bd)(J q:iA)(b:Bool)(t:KZ s)(u:KY r)(v:d.length<=1000000)(M:d.length=hs.length)(w:env.length<=1099511627776)(x:gk env)(y:jv 200 env)(p:Ys prog Y J ((if l_ s r LO s.fresh d env then[(d,env)] else[]).map λc=>[chv O LO c.1 c.2]) b q):aF prog Y 135 [.pt 1 18 0 0,aY O aV false d,a8 O env] (aw [(0,.fo J),(1,xO O s r LO hs (.fn (.func e) [] cs))] 2) (.v (.bool b)) (aw [(0,.fo q),(1,xO O s r LO hs (.fn (.func e) [] cs))] 2):=by have f:Pure (.fn (.func e) [] cs):=.fn (λa z=>X) λa z=>F.all a z;have A:=Sh (O:=O) (s:=s) (r:=r) (k:=LO) (hs:=hs) f (B:=2) aD;have C:=Tg (Y:=Y) (O:=O) s r LO hs e [] cs J f d env t u v w x y;have G:=ac2 (Y:=Y) (O:=O) d Z;let⟨R,E⟩:=aq (l_ s r LO s.fresh d env);rw[<-E]at C p;clear E t u v w x y;let⟨goals,store,g,h,i,next,fresh,failed⟩:=s;let⟨rn,j,l,rg,o,rv⟩:=r;refine sc 2 2 afo ?_;refine I iR ?_;refine lg iR λm N=>?_;refine lg iR λn P=>?_;refine cn (λK=>?_) λK=>?_;rotate_left;grind;refine I iR ?_;refine H.op rfl (D.KV [] [(0,some (.fo J)),(1,some (xO O ⟨goals,store,g,h,i,next,fresh,failed⟩ ⟨rn,j,l,rg,o,rv⟩ LO hs (.fn (.func e) [] cs))),(2,none),(3,none)] C rfl ⟨.pt rfl rfl,.pure (bZ _),.pure (bI _),trivial⟩ (.pure .v) (ZS (O:=O) (s:=⟨goals,store,g,h,i,next,fresh,failed⟩) (r:=⟨rn,j,l,rg,o,rv⟩) (LO:=LO) (hs:=hs) f (y0 rfl rfl)) (ZT (O:=O) (s:=⟨goals,store,g,h,i,next,fresh,failed⟩) (r:=⟨rn,j,l,rg,o,rv⟩) (LO:=LO) (hs:=hs) f trivial) (afp (O:=O) (s:=⟨goals,store,g,h,i,next,fresh,failed⟩) (r:=⟨rn,j,l,rg,o,rv⟩) (LO:=LO) (hs:=hs) (y0 rfl rfl))) ?_;cases R with|false =>obtain⟨rfl,rfl⟩:=p.O9;refine I iR ?_;refine fq ?_;exact⟨[],.aJ .v,⟨.inl ⟨_,rfl,.same trivial⟩,.inl ⟨_,rfl,.same A⟩,trivial⟩,rfl⟩|true =>have L:=Ys.one p;refine I iR ?_;refine H.eK rfl (λT=>pl G) ?_;refine I iR ?_;refine H.gD rfl (bm.yl rfl rfl rfl L) ?_;refine I iR ?_;refine fq ?_;exact⟨[],.aJ .v,⟨.inl ⟨_,rfl,.same trivial⟩,.inl ⟨_,rfl,.same A⟩,trivial⟩,rfl⟩
noncomputable def itC(s:c_)(r:Rl)(LO:Int)(b:Nat->Int->Bool)(h:At)(c:List At)(a:List Int)(env:List Bd)(x:Im):List (List Int×List Bd) :=if a.contains x.id ||!b a.length x.id then[] else match nq h ⟨x.n,x.a⟩ env with|none=>[]|some e=>vo s.store (l_ s r LO s.fresh) b c (a++[x.id]) e
def Si(O:Hd)(LO:Int)(l:List (List Int×List Bd)):List (List AV):=l.map λc=>[chv O LO c.1 c.2]
set_option maxHeartbeats 2000000 in theorem aqd(s:c_)(r:Rl)(LO:Int)(hs:List At)(o:Nat)(cs:List AV)(sF:ja cs)(d:Nat->Int->Bool)(jy:∀(n:Nat) (k i:Int),k=n->n<hs.length->ab Y o (iv k::iv i::cs) (.v (.bool (d n i))))(h:At)(F5:List At)(c:List Int)(env:List Bd)(J C:iA)(b:Bool)(fF:KZ s)(D_:c.length<=1000000)(hl:c.length<hs.length)(hh:hs[c.length]?=some h)(ZW:KR 200 h)(he:env.length<=1000000000)(nB:gk env)(hsl:hs.length<=1000000)(ih:∀(x:Im) (e:List Bd) (J C:iA) (b:Bool),x∈s.store->nq h ⟨x.n,x.a⟩ env=some e->Ys prog Y J (Si O LO (vo s.store (l_ s r LO s.fresh) d F5 (c++[x.id]) e)) b C ->aF prog Y 135 [.pt 1 18 0 0,aY O aV false (c++[x.id]),a8 O e] (aw [(0,.fo J),(1,xO O s r LO hs (.fn (.func o) [] cs))] 2) (.v (.bool b)) (aw [(0,.fo C),(1,xO O s r LO hs (.fn (.func o) [] cs))] 2))(hY:Ys prog Y J (Si O LO (s.store.flatMap (itC s r LO d h F5 c env))) b C):aF prog Y 135 [.pt 1 18 0 0,aY O aV false c,a8 O env] (aw [(0,.fo J),(1,xO O s r LO hs (.fn (.func o) [] cs))] 2) (.v (.bool b)) (aw [(0,.fo C),(1,xO O s r LO hs (.fn (.func o) [] cs))] 2):=by
 have E:Pure (.fn (.func o) [] cs):=.fn (λa ha=>X) λa ha=>sF.all a ha;have rE:=Sh (O:=O) (s:=s) (r:=r) (k:=LO) (hs:=hs) E (B:=2) aD;have M0:=λi=>Pl (Y:=Y) (O:=O) c i Z;have F:=λ(x:Im) (hx:x∈s.store)=>ahj (Y:=Y) (O:=O) env h ⟨x.n,x.a⟩ (by have:=ZW.2.1;omega) nB (ZW.ok aD) ((fF.sa x hx).ok aD);have J9:=fF.sn;let⟨IC,G⟩:=aq (itC s r LO d h F5 c env);have K:∀x,IC x=if c.contains x.id ||!d c.length x.id then[] else match nq h ⟨x.n,x.a⟩ env with|none=>[]|some e=>vo s.store (l_ s r LO s.fresh) d F5 (c++[x.id]) e:=λx=>by rw[G];rfl
 rw[<-G]at hY;let⟨RC,hRC⟩:∃RC:List Int->List Bd->List (List Int×List Bd),RC=vo s.store (l_ s r LO s.fresh) d F5:=⟨_,rfl⟩;simp only[<-hRC]at K ih;clear G hRC fF nB;let⟨goals,store,q,t,u,next,fresh,failed⟩:=s;let⟨rn,v,w,rg,y,rv⟩:=r;let⟨FV,hda⟩:=h;dsimp only at F J9 hY ih;refine sc 2 2 afo ?_;refine I iR ?_;refine lg iR λkq L=>?_;refine lg iR λn hn=>?_;refine cn (λhb=>?_) λhb=>?_;grind;clear hb;refine I iR ?_;refine lg iR λm hm=>?_;refine cC (τ:=iA) 2 2 [] (λp=>[(0,.pt 1 18 0 0),(1,aY O aV false c),(2,a8 O env),(7,.v (.int .i64 kq)),(42,kS O store),(43,.v (.int .i64 m)),(44,.v (.int .i64 p.1))]) [] (λp=>[(0,.fo p.2),(1,xO O ⟨goals,store,q,t,u,next,fresh,failed⟩ ⟨rn,v,w,rg,y,rv⟩ LO hs (.fn (.func o) [] cs))]) store.length (λz p=>Ys prog Y p.2 (Si O LO ((store.drop z).flatMap IC)) b C) J X ?_;rintro i z Jc hz ID g;simp only at hz g;clear hY;refine I iR ?_;refine cn (λbS=>?_) λbS=>?_;rotate_left;rw[aR_ Z,bu_,Si,aV_]at g;obtain⟨rfl,rfl⟩:=g.O9;refine I iR ?_;refine xG iR ?_;refine fq ?_;exact⟨[],.aJ .v,⟨.inl ⟨_,rfl,.same trivial⟩,.inl ⟨_,rfl,.same rE⟩,trivial⟩,rfl⟩;let⟨x,hx,aP⟩:=aA (l:=store) (k:=z) Z;have FR:=aZ hx;have j:=K x;have N:=F x FR;have mF:=M0 x.id;have V:=λ(k:Int) hk=>jy c.length k x.id hk hl;have P:=λe=>ih x e;rw[aP,aW_,Si,ba_]at g;let⟨xi,xn,xa⟩:=x;dsimp only at j N mF V P;clear K F M0 jy ih;refine I iR ?_;refine og iR (D.bh hz hx) ?_;let⟨c1,A⟩:=aq (c.contains xi);let⟨c2,dG⟩:=aq (d c.length xi);rw[<-A,<-dG]at j;rw[<-A]at mF;have V:=V kq L;rw[<-dG]at V;refine H.eK rfl (λT=>pl mF) ?_;cases c1 with|true =>simp only[cy_,if_true]at j;refine I iR ?_;rw[j,aV_,aO_]at g;refine ag iR λQ dU=>?_;exact bN (Q,Jc) [] (z+1) g|false =>refine I iR ?_;refine H.eK rfl (λT=>D.bO rfl V ⟨.v,.v,sF⟩) ?_;cases c2 with|false =>simp only[cJ_,cF_,if_true]at j;refine I iR ?_;rw[j,aV_,aO_]at g;refine ag iR λQ dU=>?_;exact bN (Q,Jc) [] (z+1) g|true =>simp only[cS_,Bool.or_false,if_false,bw_]at j;refine I iR ?_;refine og iR (D.bh L hh) ?_;let⟨M,hM⟩:=aq (nq ⟨FV,hda⟩ ⟨xn,xa⟩ env);rw[<-hM]at j N;cases M with|none =>simp only[vx,Option.getD_none,Option.isSome_none]at N j;apply bk iR N;rw[j,aV_,aO_]at g;refine ag iR λQ dU=>?_;exact bN (Q,Jc) [] (z+1) g|some e =>simp only[vx,bO_,Option.isSome_some]at N j;refine H.op rfl (pl N) ?_;have R:=λJ1 J2 b1=>P e J1 J2 b1 FR hM.symm;rw[j]at g;clear P j N hM mF V;let⟨W,hW⟩:=aq (c++[xi]);rw[<-hW]at R g;have hWl:W.length=c.length+1:=X;refine I iR ?_;refine H.eK rfl (λT=>D.alj rfl rfl rfl L λ_=>rfl) ?_;refine I iR ?_;refine H.aqb (O:=O) (f:=aV) xi rfl rfl rfl (λ_=>rfl) Z λdH ff uX l8=>?_;rw[<-hW]at uX;subst uX;refine I iR ?_;rcases g.split with⟨rfl,ZX⟩|⟨J1,ZX,hY2⟩;have A:=ZV E (bI e) .v (R _ _ _ ZX);rw[<-l8]at A;refine H.gD rfl (bm.KV [(2,3)] [(0,.fo Jc),(1,xO O ⟨goals,store,q,t,u,next,fresh,failed⟩ ⟨rn,v,w,rg,y,rv⟩ LO hs (.fn (.func o) [] cs)),(3,.arr 1 (O.h (List.map aV) dH) 0 false)] [(0,some (.fo C)),(1,some (xO O ⟨goals,store,q,t,u,next,fresh,failed⟩ ⟨rn,v,w,rg,y,rv⟩ LO hs (.fn (.func o) [] cs))),(3,none),(4,none),(5,none),(6,none),(7,none),(8,none)] A rfl ⟨.pt rfl rfl,.gr rfl rfl,.pure (bI _),trivial⟩ (.pure .v) (NL rfl rfl rfl) (λT S=>U1 (O:=O) (s:=⟨goals,store,q,t,u,next,fresh,failed⟩) (r:=⟨rn,v,w,rg,y,rv⟩) (LO:=LO) (hs:=hs) E aD S) (U2 (O:=O) (s:=⟨goals,store,q,t,u,next,fresh,failed⟩) (r:=⟨rn,v,w,rg,y,rv⟩) (LO:=LO) (hs:=hs) E trivial) λT S=>ZU (O:=O) (s:=⟨goals,store,q,t,u,next,fresh,failed⟩) (r:=⟨rn,v,w,rg,y,rv⟩) (LO:=LO) (hs:=hs) S) ?_;refine I iR ?_;refine rG iR ?_;refine fq ?_;exact⟨[],.aJ .v,⟨.inl ⟨_,rfl,.same trivial⟩,.inl ⟨_,rfl,.same rE⟩,trivial⟩,rfl⟩;have A:=ZV E (bI e) .v (R _ _ _ ZX);rw[<-l8]at A;refine H.gD rfl (bm.KV [(2,3)] [(0,.fo Jc),(1,xO O ⟨goals,store,q,t,u,next,fresh,failed⟩ ⟨rn,v,w,rg,y,rv⟩ LO hs (.fn (.func o) [] cs)),(3,.arr 1 (O.h (List.map aV) dH) 0 false)] [(0,some (.fo J1)),(1,some (xO O ⟨goals,store,q,t,u,next,fresh,failed⟩ ⟨rn,v,w,rg,y,rv⟩ LO hs (.fn (.func o) [] cs))),(3,none),(4,none),(5,none),(6,none),(7,none),(8,none)] A rfl ⟨.pt rfl rfl,.gr rfl rfl,.pure (bI _),trivial⟩ (.pure .v) (NL rfl rfl rfl) (λT S=>U1 (O:=O) (s:=⟨goals,store,q,t,u,next,fresh,failed⟩) (r:=⟨rn,v,w,rg,y,rv⟩) (LO:=LO) (hs:=hs) E aD S) (U2 (O:=O) (s:=⟨goals,store,q,t,u,next,fresh,failed⟩) (r:=⟨rn,v,w,rg,y,rv⟩) (LO:=LO) (hs:=hs) E trivial) λT S=>ZU (O:=O) (s:=⟨goals,store,q,t,u,next,fresh,failed⟩) (r:=⟨rn,v,w,rg,y,rv⟩) (LO:=LO) (hs:=hs) S) ?_;refine I iR ?_;refine ag iR λQ dU=>?_;exact bN (Q,J1) [] (z+1) hY2
theorem ZY(s:c_)(r:Rl)(LO:Int)(hs:List At)(f:Nat)(cs:List AV)(p:ja cs)(c:Nat->Int->Bool)(u:∀(n:Nat) (k i:Int),k=n->n<hs.length->ab Y f (iv k::iv i::cs) (.v (.bool (c n i))))(m:KZ s)(v:KY r)(j:hs.length<=1000000)(w:∀h∈hs,KR 200 h):∀(d:List At)(a:List Int)(env:List Bd)(J g:iA)(b:Bool),hs.drop a.length=d->a.length<=hs.length->gk env->jv 200 env->env.length+200*d.length<=1000000000->Ys prog Y J (Si O LO (vo s.store (l_ s r LO s.fresh) c d a env)) b g ->aF prog Y 135 [.pt 1 18 0 0,aY O aV false a,a8 O env] (aw [(0,.fo J),(1,xO O s r LO hs (.fn (.func f) [] cs))] 2) (.v (.bool b)) (aw [(0,.fo g),(1,xO O s r LO hs (.fn (.func f) [] cs))] 2)
 |[],a,env,J,g,b,y,q,o,t,z,l=>by have P:hs.length<=a.length:=List.drop_eq_nil_iff.1 y;rw[vo]at l;exact aqc s r LO hs f cs p a env J g b m v Z Z Z o t l|h::d,a,env,J,g,b,y,q,o,t,z,l=>by
  have C:a.length<hs.length:=X;have A:hs[a.length]?=some h:=by have:(hs.drop a.length)[0]?=some h:=X;rw[cL_,bz_]at this;exact this
  have Q:hs.drop (a.length+1)=d:=by have:(hs.drop a.length).drop 1=d:=X;rw[List.drop_drop]at this;exact this
  have B:=w h (as_ A);rw[aC_]at z;refine aqd s r LO hs f cs p c u h d a env J g b m Z C A B Z o j (λx e E F G K L M=>?_) ?_;let⟨q1,N,R⟩:=RW o t (m.sa x K) L;have:=B.2.1;exact ZY s r LO hs f cs p c u m v j w d (a++[x.id]) e E F G X X q1 N Z M;rw[vo]at l;exact l
def auh:=aC func49 call49
def g49:List Nat:=[1,2,0]
def aui:=aC func25 call25
def ZZ:List Nat:=[1,3,2,0]
theorem ahp(r:Rl)(h:r.aQ.length+r.rem.length<=549755813888):ab Y 49 [rl O r] (iv ((r.aQ.length+r.rem.length:Nat):Int)):=by
 let⟨n,a,c,g,b,v⟩:=r;dsimp only at h⊢;let⟨R,d⟩:∃R:Int,R=((a.length+c.length:Nat):Int):=⟨_,rfl⟩;rw[<-d];refine st auh g49 .v ?_;repeat' first|refine lg g49 λm e=>?_|refine ag g49 λ_ _=>?_|refine fq ?_
 all_goals subst_vars;exact dx Z
theorem ac4(r:Rl)(h:r.aQ.length+r.rem.length<=549755813888):ab Y 25 [rl O r] (fI O (r.aQ++r.rem)):=by
 have a:=ahp (Y:=Y) (O:=O) r h;have i:=lh (O:=O) r;let⟨n,c,d,g,b,v⟩:=r;dsimp only at h a⊢;let⟨R,j⟩:=aq (c++d);rw[<-j];let⟨N,k⟩:=aq (c.length+d.length);rw[<-k]at a;let⟨M,e⟩:∃M:Int,M=(N:Int):=⟨_,rfl⟩;rw[<-e]at a;refine st aui ZZ (cQ _) ?_;repeat' first|refine og ZZ (D.bO rfl a ⟨i,trivial⟩) ?_
 refine H.atq (m:=N) O (atR O) rfl rfl rfl e rfl Z Z λLR s=>?_;refine I ZZ ?_;refine H.akg (f:=atR O) (ys:=c) rfl rfl rfl X rfl (λ_=>rfl) (λ_=>rfl) X λt u w o=>?_;refine I ZZ ?_;refine H.akg (f:=atR O) (ys:=d) rfl rfl rfl o rfl (λ_=>rfl) (λ_=>rfl) X λp x y q=>?_;refine I ZZ ?_;refine fq ?_;cases(X:p=R);exact aI.atr rfl q
end
section
def g6:List Nat:=[3,4,0,1,2]
def lR:List Nat:=[0,1,2,7,8,9,6,22,26,36,40,49,53,62]
attribute [local irreducible] ao aF D H
def Oz(x:Bd):Bool:=decide (dm x.t<=60)
def K8(x:Fi):Bool:=decide (x.ids.length<=8)
def CX(P0:List Im)(b:List Bd)(f:List Fi):Bool:=decide (P0.length<=9)&&(decide (b.length<=20)&&(decide (f.length<=30)&&(P0.all WR&&(b.all Oz&&f.all K8))))
set_option maxHeartbeats 2000000 in theorem ahq(P0:List Im)(b:List Bd)(f:List Fi)(Q:P0.length<=1099511627776)(S:b.length<=1099511627776)(T:f.length<=1099511627776)(l:∀x∈P0,x.ok)(u:∀x∈b,x.ok)(v:∀x∈f,x.ok):ab Y 21 [kS O P0,a8 O b,ky O f] (.v (.bool (CX P0 b f))):=by
 let⟨R,d⟩:=aq (CX P0 b f);rw[<-d];unfold CX at d;refine st auf lR .v ?_;repeat' first|refine cg lR (λc=>?_) λc=>?_|refine lg lR λm h=>?_|refine fq ?_
 all_goals first|rw[d,decide_eq_false (show¬P0.length<=9 by omega)];exact aK rfl|refine aK ?_;rw[d,decide_eq_false (show¬b.length<=20 by omega)];simp;done|refine aK ?_;rw[d,decide_eq_false (show¬f.length<=30 by omega)];simp;done|skip
 rw[decide_eq_true (show P0.length<=9 by omega),decide_eq_true (show b.length<=20 by omega),decide_eq_true (show f.length<=30 by omega)]at d;simp only[az_]at d;let⟨w,n⟩:=aq (b.all Oz&&f.all K8);rw[<-n]at d;refine bD 0 0 [] (λq=>[(0,kS O P0),(1,a8 O b),(2,ky O f),(7,.v (.int .i64 q))]) [] (λ_=>[]) P0.length (λk=>R=((P0.drop k).all WR&&w)) X λq k y V a=>?_;clear d;refine I lR ?_;by_cases A:k<P0.length
 ·let⟨x,e,i⟩:=aA A;have g:=l x (aZ e);have p:=R1 (Y:=Y) (O:=O) x.a g.1.len g.1.2;rw[i,aJ_,WR,cp_]at a;let⟨B,C⟩:=aq (yN x.a);rw[<-C]at a p;let⟨E,F,G⟩:=x;repeat' first|refine og lR (D.bh y e) ?_|refine bg lR (pl p) (λ_=>?_) λ_=>?_|refine cg lR (λc=>?_) λc=>?_|refine lg lR λm h=>?_|refine ag lR λ_ _=>?_|refine xG lR ?_|refine rG lR ?_|refine fq ?_
  all_goals first|omega|rw[a,show B=false by grind];exact aK rfl|rw[show B=true by grind,az_]at a;exact cB _ [] (k+1) a
 rw[aq_ Z,bl_,az_,n]at a;clear n;repeat' first|refine cg lR (λc=>?_) λc=>?_|refine lg lR λm h=>?_|refine xG lR ?_
 all_goals first|omega|skip
 let⟨J,o⟩:=aq (f.all K8);rw[<-o]at a;refine H.g5 (σ:=Int) 0 0 [] (λq=>[(1,a8 O b),(2,ky O f),(8,.v (.int .i64 q))]) [] (λ_=>[]) (λq=>∃k:Nat,q=k/\k<=b.length/\R=((b.drop k).all Oz&&J)) (λq=>b.length-q.toNat) 0 ⟨0,rfl,aB,X⟩ rfl cq ?_;clear a;rintro W⟨r,L,eT,a⟩;refine I lR ?_;by_cases M:r<b.length
 ·let⟨x,e,i⟩:=aA M;have g:=u x (aZ e);have s:=Hp (Y:=Y) (O:=O) _ x.t (ad_ _) g.2;rw[i,aJ_,Oz,cp_]at a;let⟨z,t⟩:=aq (dm x.t);rw[<-t]at a s;have vO:=bH (O:=O) x.t;clear t;let⟨xv,xk,E,F,G⟩:=x;repeat' first|refine og lR (D.bh L e) ?_|refine ig lR (pl s) λ_ _=>?_|refine cg lR (λc=>?_) λc=>?_|refine lg lR λm h=>?_|refine ag lR λ_ _=>?_|refine xG lR ?_|refine rG lR ?_|refine fq ?_
  all_goals first|omega|rw[a,decide_eq_false (show¬z<=60 by omega)];exact aK rfl|rw[decide_eq_true (show z<=60 by omega),az_]at a;exact cB _ [] (r+1) a
 rw[aq_ Z,bl_,az_,o]at a;clear o;repeat' first|refine cg lR (λc=>?_) λc=>?_|refine lg lR λm h=>?_|refine xG lR ?_
 all_goals first|omega|skip
 refine H.g5 (σ:=Int) 0 0 [] (λq=>[(2,ky O f),(9,.v (.int .i64 q))]) [] (λ_=>[]) (λq=>∃k:Nat,q=k/\k<=f.length/\R=(f.drop k).all K8) (λq=>f.length-q.toNat) 0 ⟨0,rfl,aB,X⟩ rfl cq ?_;clear a;rintro q3⟨k3,N,Cm,a⟩;refine I lR ?_;by_cases P:k3<f.length
 ·let⟨x,e,i⟩:=aA P;have g:=v x (aZ e);unfold Fi.ok at g;rw[i,aJ_,K8]at a;let⟨xr,j⟩:=x;dsimp only at a g;repeat' first|refine og lR (D.bh N e) ?_|refine cg lR (λc=>?_) λc=>?_|refine lg lR λm h=>?_|refine ag lR λ_ _=>?_|refine xG lR ?_|refine rG lR ?_|refine fq ?_
  all_goals first|omega|rw[a,decide_eq_false (show¬j.length<=8 by omega)];exact aK rfl|rw[decide_eq_true (show j.length<=8 by omega),az_]at a;exact cB _ [] (k3+1) a
 rw[aq_ Z,bl_]at a;repeat' first|refine cg lR (λc=>?_) λc=>?_|refine lg lR λm h=>?_|refine xG lR ?_|refine fq ?_
 all_goals first|omega|rw[a];exact aK rfl
def CY(p:Pg)(s:c_):Bool:=HO p&&(decide ((s.goals.length:Int)<=10)&&s.goals.all wR&&(Ai s.known&&CX s.store s.binds s.bf))
theorem ahr(p:Pg)(s:c_)(j:Cs p)(hs:Iv s):ab Y 6 [pg O p,uM O s] (.v (.bool (CY p s))):=by
 have k:=WS (Y:=Y) (O:=O) p j;have b:=Ec (Y:=Y) (O:=O) s.goals 10 hs.gl λy c=>(hs.gx y c).1;have d:=Ec (Y:=Y) (O:=O) s.known 6 hs.kl λy c=>(hs.kx y c).1;have e:=ahq (Y:=Y) (O:=O) s.store s.binds s.bf hs.st hs.bl hs.fl hs.sx hs.bx hs.fx;have q:=m8 (O:=O) p;let⟨R,a⟩:=aq (CY p s);rw[<-a];unfold CY Ai at a;let⟨l,f⟩:=aq (HO p);let⟨m,g⟩:=aq (decide ((s.goals.length:Int)<=10)&&s.goals.all wR);let⟨n,h⟩:=aq (decide ((s.known.length:Int)<=6)&&s.known.all wR);let⟨o,i⟩:=aq (CX s.store s.binds s.bf);rw[<-f,<-g,<-h,<-i]at a;rw[<-f]at k;rw[<-g]at b;rw[<-h]at d;rw[<-i]at e;clear f g h i hs j;let⟨ds,rs⟩:=p;let⟨goals,store,r,t,u,next,fresh,failed⟩:=s;dsimp only at b d e;refine st qf6 g6 .v ?_;repeat' first|refine bg g6 (pl k) (λ_=>?_) λ_=>?_|refine bg g6 (pl b) (λ_=>?_) λ_=>?_|refine bg g6 (pl d) (λ_=>?_) λ_=>?_|refine bg g6 (pl e) (λ_=>?_) λ_=>?_|refine fq ?_
 all_goals first|refine aK ?_;rw[a,show l=false by grind];rfl|refine aK ?_;rw[a,show m=false by grind];simp;done|refine aK ?_;rw[a,show n=false by grind];simp;done|refine aK ?_;rw[a,show o=false by grind];simp;done|refine aK ?_;rw[a,show l=true by grind,show m=true by grind,show n=true by grind,show o=true by grind];rfl
end
theorem W1(h:oK ds r=0)(c:Co r):CA r:=by
 let⟨⟨m,d,e,f,n⟩,_,i⟩:=NI h;have j:∀x∈r.aQ++r.rem,eW x.a:=λx a=>by rcases aN_.1 a with a|a;exact(se (d x a) (c.kx x a).1.1).1;exact(se (e x a) (c.rx x a).1.1).1
 have b:∀g∈r.guard,eW g.a:=λg b=>(sj (f g b) (c.gx g b).1.1).1;refine⟨j,b,λg o v p=>?_⟩;have k:v∈sY [r.guard]:=by grind[sY,Ch,Eb]
 have:=i v k;unfold u6 Il Ez at this;rw[aW_,aW_,bu_,aI_]at this;rcases aN_.1 this with l|l;grind[Eb];grind[Eb]
theorem alU(h:oK ds r=0)(a:Co r):KY r:=by let⟨⟨d,i,j,e,f⟩,⟨n,l,m,k⟩,_⟩:=NI h;unfold Cn at d;simp only[au_,decide_eq_true_eq]at d;have o:=a.av;have b:=a.gv;rw[av_]at k;exact⟨X,λx c=>by rcases aN_.1 c with c|c;exact⟨(a.kx x c).1.1,(se (i x c) (a.kx x c).1.1).2.2.2.2,(a.kx x c).2⟩;exact⟨(a.rx x c).1.1,(se (j x c) (a.rx x c).1.1).2.2.2.2,(a.rx x c).2⟩,by omega,λg b=>⟨⟨(a.gx g b).1.1,(sj (e g b) (a.gx g b).1.1).2.2.2.2,(a.gx g b).2⟩,(sj (e g b) (a.gx g b).1.1).2.2.2.1⟩,by omega,λg b=>⟨⟨(a.bx g b).1.1,(sj (f g b) (a.bx g b).1.1).2.2.2.2,(a.bx g b).2⟩,(sj (f g b) (a.bx g b).1.1).2.2.2.1⟩,Z,Z⟩
theorem Bn{T:Type}{ok:T->Bool}{lt:T->T->Bool}:∀{l:List T}{pr:Option T},kW ok lt pr l=true->∀x∈l,ok x=true|[],_,_,x,a=>X|y::l,pr,h,x,a=>by rw[jT,au_,au_]at h;rcases al_.1 a with rfl|a;grind;exact Bn h.2 x a
theorem Sj:∀{l:List Im}{p:Im},kW Dl Dm (some p) l=true->∀x∈l,p.id<x.id
 |[],_,_,x,a=>X|y::l,p,h,x,a=>by
  rw[jT,au_,au_]at h;have b:p.id<y.id:=by grind[Ay,Dm]
  rcases al_.1 a with rfl|a;grind;have:=Sj h.2 x a;omega
theorem Sk:∀{l:List Im}{pr:Option Im},kW Dl Dm pr l=true->Na l|[],_,_=>by unfold Na;simp|y::l,pr,h=>by rw[jT,au_,au_]at h;have:=Sk h.2;unfold Na at this⊢;rw[aH_,bQ_];refine⟨λa=>?_,this⟩;let⟨x,b,e⟩:=aD_.1 a;have:=Sj h.2 x b;omega
structure U3(p:Pg)(s:c_):Prop where
 st:KZ s
 ru:∀r∈p.rs,KY r
 cl:∀r∈p.rs,CA r
 nd:Na s.store
 s5:s.store.length<=500g1:s.goals.length<=1000gr:∀g∈s.goals,de g=true
 kr:∀g∈s.known,de g=true
 sr:∀x∈s.store,fp ⟨x.n,x.a⟩=true
 bc:m7 s.binds=true
 fc:k_ s.bf=true
theorem K9{p:Pg}(h:eY p s=true)(q:Cs p)(hs:Iv s)(v:s.binds.length<=1000000):U3 p s:=by
 unfold eY at h;simp only[au_,decide_eq_true_eq]at h;let⟨l,t,w,e,u,f,y,z,A,c⟩:=h;have l:=WQ l;unfold FZ at t;simp only[au_,decide_eq_true_eq]at t;have m:=w;unfold nL at m;rw[au_,decide_eq_true_eq]at m;have d:=e;unfold m7 at d;rw[au_]at d;have n:=u;unfold k_ at n;rw[au_,decide_eq_true_eq]at n;have i:∀x∈s.store,fp ⟨x.n,x.a⟩=true:=λx a=>by have:=Bn m.2 x a;unfold Dl at this;rw[au_]at this;exact this.2
 have j:∀x∈s.known,de x=true:=λx a=>by grind[vi]
 have o:∀b∈s.binds,0<=b.v/\b.v<=1048576/\cI b.t=true:=λb c=>by have:=Bn d.1 b c;unfold LG at this;simp only[au_,decide_eq_true_eq]at this;exact⟨this.1.1,this.1.2,this.2⟩
 refine⟨⟨Z,λx a=>⟨(hs.sx x a).1.1,(se (i x a) (hs.sx x a).1.1).2.2.2.2,(hs.sx x a).2⟩,v,λb c=>(hs.bx b c).1,λb c=>(xh (o b c).2.2 (hs.bx b c).1).2.2.2.2,by omega,λg f=>⟨(hs.kx g f).1.1,(sj (j g f) (hs.kx g f).1.1).2.2.2.2,(hs.kx g f).2⟩,Z,λx a=>?_,Z,Z⟩,λr k=>alU (l r k) (q.rr r k),λr k=>W1 (l r k) (q.rr r k),Sk m.2,Z,Z,λg B=>?_,j,i,e,u⟩;have:=Bn n.2 x a;unfold tH at this;simp only[au_,decide_eq_true_eq]at this;omega;grind[wO]
theorem Z0{p:Pg}(h:CY p s=true):(∀r∈p.rs,(r.aQ++r.rem).length<=3)/\s.binds.length<=20/\s.store.length<=9/\p.rs.length<=8/\s.goals.length<=10/\s.bf.length<=30/\s.known.length<=6:=by unfold CY HO CX Ai at h;simp only[au_,decide_eq_true_eq]at h;let⟨⟨f,g,a⟩,⟨i,j⟩,⟨k,l⟩,m,n,o,b,c,d⟩:=h;refine⟨λr e=>?_,Z,Z,Z,Z,Z,Z⟩;have:=aZ_.1 a r e;unfold K6 at this;simp only[au_,decide_eq_true_eq]at this;rw[av_];exact this.2.2.1
end Go.Proofs.YtbdcmpknicjopaaGreat
