import Derived.Test.YtbdcmpknicjopaaGreatTb26
namespace Go.Proofs.YtbdcmpknicjopaaGreat
set_option linter.all false
set_option maxRecDepth 100000
open Go.RowKit Proofs.Tryz
variable{B MB N m n nl off sz ul:Nat}{K:List gE}{Nd:aT}{O:Hd}{P:Program}{Q:Exit->AA->ah->Prop}{S S':ah}{T:Type}{U:AA}{Y:World}{a b fr i:Int}{dd:Option Nat}{e env:List Bd}{ex:Bool}{gg:Option (Nat×Bool)}{ids:List Int}{ik kk:IntKind}{kn:KN}{l:List QI}{ls sh vs:List (Int×Int)}{o:Oper}{s:cH}{t:Tm}{up:List Nat}{x:QO}{z:List AV}{Mx ys:List T}{f:T->List AV}
variable{busy:List (Int×Unit)}{rows:List (List AV)}{r:Rl}
theorem G3(a:Int):jG a a=0:=by grind[jG]
theorem RW:∀l:List UInt8,Op.bytesLess l l=false|[]=>rfl|x::l=>by simp only[Op.bytesLess];have:=RW l;simp[this]
theorem N9(a:ByteArray):Ao a a=0:=by grind[Ao,RW]
mutual theorem Z1:∀t:Tm,eU t t=0|⟨k,i,n,a⟩=>by have h:=Eh a;rw[eU];simp only[G3,N9,h,fS,if_true];split<;>first|rfl|split<;>rfl;theorem Eh:∀l:List Tm,iC l l=0|[]=>by rw[iC];exact G3 0|x::l=>by rw[iC,Z1 x,Eh l];rfl;end
theorem RX{T:Type}{p:T->T->Bool}(h:∀x,p x x=true):∀l,IK p l l=true|[]=>rfl|x::l=>by rw[IK,h x,RX h l];rfl
def iM(n:Int):Bool:=decide (-2147483648<=n)&&decide (n<=2147483648)
def N_(n:ByteArray)(a b:Int):Int×Int :=if n.toList=[43] then(a+b,0) else if n.toList=[45] then(a-b,0) else if n.toList=[42] then(a*b,0) else if b=0 then(0,12) else if n.toList=[47] then(a.fdiv b,0) else(a-a.fdiv b*b,0)
def Oa(n:ByteArray)(a b:Int):Int×Int:=if !(iM a&&iM b) then(0,5) else if(N_ n a b).2=0 then if iM (N_ n a b).1 then((N_ n a b).1,0) else(0,5) else(0,(N_ n a b).2)
mutual def pD:Tm->Int×Int|⟨k,i,n,a⟩=>if k=1 then(0,17) else if k=0 then if iM i then(i,0) else(0,5) else if k=2/\a.length=2/\eR n=true then acX n a else(0,11)def acX(n:ByteArray):List Tm->Int×Int|[]=>(0,11)|x::l=>match l with|[]=>(0,11)|y::_=>match pD x with|(p,e)=>if e=0 then match pD y with|(q,f)=>if f=0 then Oa n p q else(0,f) else(0,e)end
mutual def oH:Tm->Bool|⟨k,i,n,a⟩=>if k=0\/k=1 then true else decide (k=2)&&(eR n&&(decide (a.length=2)&&O7 a))def O7:List Tm->Bool|[]=>true|x::l=>oH x&&O7 l end
def s8(t:Tm):Bool:=(varsOf [t]).isEmpty
def W7(op x y:Int):Bool:=if op=7 then decide (x<y) else if op=8 then decide (x<=y) else if op=9 then decide (x=y) else decide (x≠y)
def qk(b:Bool):Int:=if b then 1 else 2
def xe(op:Int)(a b:Tm):Int:=if !oH a ||!oH b then 2 else if !s8 a ||!s8 b then 0 else if(pD a).2=0/\(pD b).2=0 then qk (W7 op (pD a).1 (pD b).1) else 2
def kZ(g:Gl):Bool:=nC g.op&&de g
noncomputable def acY(a b:Tm):Bool:=decide ((oF je [(a,b)]).2=0\/(oF je [(a,b)]).2=6)
noncomputable def RY(op:Int):List Tm->Int|[]=>0|a::l=>if op=11 then if a.k=1 then 0 else qk (decide (a.k=0)) else if op=12 then if s8 a then 1 else 0 else match l with|[]=>0|b::_=>if op=5\/op=6 then if eU a b=0 then qk (decide (op=5)) else if acY a b then 0 else qk (decide (op=6)) else xe op a b
noncomputable def nz(g:Gl):Int:=if kZ g then RY g.op g.a else qk (decide (g.op=1)&&de g)
noncomputable def tw(b:List Bd)(a:List Gl)(g:Gl):Int:=if kZ (gD b g)&&a.any λk=>kC (gD b k) (gD b g) then 1 else nz (gD b g)
theorem Ih:jG a b=0↔a=b:=⟨F3,λh=>by grind[G3]⟩
theorem MK:fS a b=0↔a=0/\b=0:=by grind[fS]
theorem ak3{a b:ByteArray}:Ao a b=0↔a.toList=b.toList:=by constructor;grind[Ao];intro h;have:=N9 a;unfold Ao at this⊢;rw[<-h];exact this
theorem ak4{x y:Tm}:eU x y=0↔iY x.k=iY y.k/\if iY x.k=0\/iY x.k=1 then x.i=y.i else if iY x.k=2 then x.a.length=y.a.length/\x.n.toList=y.n.toList/\iC x.a y.a=0 else x.k=y.k/\x.i=y.i/\x.n.toList=y.n.toList:=by let⟨k,i,n,a⟩:=x;rw[eU,MK,Ih];simp only;refine and_congr ck_ ?_;split;exact Ih;grind[MK,Ih,ak3]
mutual theorem ahE:∀(x y:Tm),eU x y=0->eU y x=0 |⟨k,i,n,a⟩,y,h=>by rw[ak4]at h⊢;simp only at h⊢;let⟨e,d⟩:=h;refine⟨e.symm,?_⟩;rw[e]at d;split;grind;rename_i c;rw[if_neg c]at d;split;rename_i f;rw[if_pos f]at d;exact⟨d.1.symm,d.2.1.symm,Ei a y.a d.2.2⟩;grind;theorem Ei:∀(a b:List Tm),iC a b=0->iC b a=0|[],[],h=>h|[],y::b,h=>by grind[iC,Ih]|x::a,[],h=>by grind[iC]|x::a,y::b,h=>by rw[iC,MK]at h⊢;exact⟨ahE x y h.1,Ei a b h.2⟩;end
theorem acZ(x y:Gl):kC x y=kC y x:=by
 have key:∀x y:Gl,kC x y=true->kC y x=true:=λx y h=>by grind[kC,Ei]
 rw[bG_];exact⟨key x y,key y x⟩
def mW(h x:At)(e:List Bd):Option (List Bd):=if h.n.toList=x.n.toList/\h.a.length=x.a.length then jz h.a x.a e else none
noncomputable def ML(s:cH)(env:List Bd)(fr:Int)(a:List Gl):Bool:=a.all λg=>decide (tw s.binds s.known (gz env fr g)=1)
def Ej(l:List Fi)(f:Fi):Bool:=l.any λx=>pf x f==0
noncomputable def kD(s:cH)(r:Rl)(k fr:Int)(ids:List Int)(env:List Bd):Bool:=!(r.rem.isEmpty&&Ej s.a7 ⟨k,ids⟩)&&ML s env fr r.guard
def rh(st:List Im)(perm:List Int->List Bd->Bool)(a:Nat->Int->Bool):List At->List Int->List Bd->List (List Int×List Bd)|[],ids,env=>if perm ids env then[(ids,env)] else[]|h::b,ids,env=>st.flatMap λx=>if ids.contains x.id ||!a ids.length x.id then[] else match mW h ⟨x.n,x.a⟩ env with|none=>[]|some e=>rh st perm a b (ids++[x.id]) e
def ql(st:List Im):List At->List Int->List Int->List Bd->Option (List Bd)|[],_,_,e=>some e|_::_,[],_,_=>none|h::a,i::b,pre,e=>if pre.contains i then none else if(jl st i).2 then match mW h (jl st i).1 e with|none=>none|some c=>ql st a b (pre++[i]) c else none
noncomputable def qm(s:cH)(r:Rl)(k:Int)(ids:List Int):Option (List Bd):=if ids.length=(r.aQ++r.rem).length then match ql s.store (r.aQ++r.rem) ids [] [] with|none=>none|some e=>if kD s r k 0 ids e then some e else none else none
def sE(h:At)(x:Im):Bool:=x.n.toList==h.n.toList&&decide (x.a.length=h.a.length)
def nE(st:List Im)(h:At)(L:List (List Int)):List (List Int):=L.flatMap λl=>(st.filter (sE h)).map λx=>l++[x.id]
def jo(st:List Im):List At->List (List Int)->List (List Int)|[],L=>L|h::a,L=>jo st a (nE st h L)
noncomputable def C6(s:cH)(r:Rl)(k:Int):List (List Int):=(jo s.store (r.aQ++r.rem) [[]]).filter λids=>(qm s r k ids).isSome
theorem Oc(st:List Im):∀(hs:List At)(A B:List (List Int)),jo st hs (A++B)=jo st hs A++jo st hs B|[],A,B=>rfl|h::hs,A,B=>by rw[jo,jo,jo,nE,List.flatMap_append,Oc st hs];rfl
theorem Od(st:List Im):∀hs:List At,jo st hs []=[]|[]=>rfl|h::hs=>by rw[jo,nE,bt_,Od st hs]
theorem Ek(st:List Im)(hs:List At){T:Type}(f:T->List Int):∀l:List T,jo st hs (l.map f)=l.flatMap λx=>jo st hs [f x]|[]=>by grind[Od]|x::l=>by rw[aF_,show f x::l.map f=[f x]++l.map f from rfl,Oc,Ek st hs f l,aV_]
theorem xQ(st:List Im):∀(hs:List At)(pre l:List Int),l∈jo st hs [pre]->∃t,l=pre++t/\t.length=hs.length|[],pre,l,h=>by rw[jo,ak_]at h;exact⟨[],I,rfl⟩|b::hs,pre,l,h=>by rw[jo,nE,aV_,bt_,aG_,Ek]at h;let⟨x,_,a⟩:=dA_.1 h;let⟨t,c,d⟩:=xQ st hs _ l a;exact⟨x.id::t,I,I⟩
def C7(st:List Im):Prop:=(st.map (·.id)).Nodup
theorem ac0{st:List Im}(h:C7 st){x:Im}(a:x∈st):jl st x.id=(⟨x.n,x.a⟩,true):=by
 unfold jl;have:st.find? λy=>y.id==x.id=some x:=by induction st with|nil=>cases a|cons y st b =>unfold C7 at h;rw[aF_,bM_]at h;rw[cl_];rcases ae_.1 a with rfl|a;simp;have c:(y.id==x.id)=false:=I;rw[c];exact b h.2 a
 rw[this]
theorem I_{A B:Type}(p:B->Bool)(f:A->List B):∀l:List A,(l.flatMap f).filter p=l.flatMap λx=>(f x).filter p|[]=>rfl|x::l=>by rw[aV_,List.filter_append,I_ p f l,aV_]
theorem RZ{A B C:Type}(g:B->C)(f:A->List B):∀l:List A,(l.flatMap f).map g=l.flatMap λx=>(f x).map g|[]=>rfl|x::l=>by rw[aV_,aZ_,RZ g f l,aV_]
theorem Ca{A B:Type}(p:A->Bool)(f:A->List B):∀l:List A,(l.filter p).flatMap f=l.flatMap λx=>if p x then f x else[]|[]=>rfl|x::l=>by rw[cj_,aV_];split;rename_i h;rw[aV_,Ca p f l];rename_i h;rw[Ca p f l,aL_]
theorem El{A B:Type}{f g:A->List B}:∀{l:List A},(∀x∈l,f x=g x)->l.flatMap f=l.flatMap g|[],_=>rfl|x::l,h=>by rw[aV_,aV_,h x aB,El λy a=>h y I]
theorem yp{A:Type}{p q:A->Bool}:∀{l:List A},(∀x∈l,p x=q x)->l.filter p=l.filter q|[],_=>rfl|x::l,h=>by rw[cj_,cj_,h x aB,yp λy a=>h y I]
theorem Z2{h:At}{x:Im}(a:sE h x=false):mW h ⟨x.n,x.a⟩ e=none:=by grind[mW,sE]
def Em(st:List Im)(perm:List Int->List Bd->Bool)(hs:List At)(pre:List Int)(env:List Bd)(l:List Int):Bool:=match ql st hs (l.drop pre.length) pre env with|none=>false|some e=>perm l e
theorem Vp{st:List Im}(b:C7 st)(perm:List Int->List Bd->Bool):∀(hs:List At)(pre:List Int)(env:List Bd),(rh st perm (λ_ _=>true) hs pre env).map (·.1)=(jo st hs [pre]).filter (Em st perm hs pre env)
 |[],pre,env=>by grind[rh,jo,Em,ql]|h::hs,pre,env=>by
  rw[rh,RZ,jo,nE,aV_,bt_,aG_,Ek,I_,Ca];refine El λx d=>?_;have f:=ac0 b d;by_cases g:sE h x=true;rw[if_pos g];by_cases c:pre.contains x.id=true;rw[if_pos I,aR_];symm;rw[List.filter_eq_nil_iff];intro l a;obtain⟨t,rfl,i⟩:=xQ st hs _ l a;unfold Em;rw[bn_,dB_,ds_,ql,if_pos c];simp;rw[if_neg I];have key:∀l∈jo st hs [pre++[x.id]],Em st perm (h::hs) pre env l=match mW h ⟨x.n,x.a⟩ env with|none=>false|some e=>Em st perm hs (pre++[x.id]) e l:=λl a=>by obtain⟨t,rfl,i⟩:=xQ st hs _ l a;unfold Em;rw[dB_,bn_,dB_,ds_,ql,if_neg c,f,if_pos rfl];simp only;cases mW h ⟨x.n,x.a⟩ env with|none=>rfl|some e=>rfl
  rw[yp key];cases mW h ⟨x.n,x.a⟩ env with|none=>simp|some e=>exact Vp b perm hs (pre++[x.id]) e
  grind[Z2]
theorem ac1{st:List Im}(a:C7 st){B:Type}(f:Im->List B)(i:Int)(b:∀x∈st,x.id≠i->f x=[]):st.flatMap f=match st.find? λx=>x.id==i with|some x=>f x|none=>[]:=by induction st with|nil=>rfl|cons y st d =>
  unfold C7 at a;rw[aF_,bM_]at a;rw[aV_,cl_];by_cases e:y.id=i;have:(y.id==i)=true:=I;rw[this];simp only;have g:st.flatMap f=[]:=by rw[List.flatMap_eq_nil_iff];intro x c;refine b x I λh=>a.1 ?_;rw[e,<-h];exact aB_.2 ⟨x,c,rfl⟩
  rw[g,aG_];have:(y.id==i)=false:=I;rw[this,b y aB e,aL_];exact d a.2 λx c=>b x I
theorem Vq{st:List Im}(a:C7 st)(perm:List Int->List Bd->Bool)(ids:List Int):∀(hs:List At)(pre t:List Int)(env:List Bd),ids=pre++t->t.length=hs.length ->rh st perm (λk id=>decide (ids[k]?=some id)) hs pre env=match ql st hs t pre env with|none=>[]|some e=>if perm ids e then[(ids,e)] else[]
 |[],pre,t,env,b,c=>by grind[rh,ql]|h::hs,pre,[],env,b,c=>I|h::hs,pre,i::t,env,b,c=>by have d:ids[pre.length]?=some i:=I;rw[rh,ac1 a _ i λx f g=>I,ql];unfold jl;cases f:st.find? λx=>x.id==i with|none =>simp only;by_cases j:pre.contains i=true;grind;grind|some x =>have e:x.id=i:=I;simp only;rw[d,e];have:decide (some i=some i)=true:=aB;rw[this,cy_,Bool.or_false];split;rfl;simp only[if_true];cases mW h ⟨x.n,x.a⟩ env with|none=>rfl|some e=>exact Vq a perm ids hs (pre++[i]) t e I I
mutual theorem ahF{env:List Bd}{fr d:Int}:∀(t:Tm),eY t->(∀v,pc v t->sU env v)->ly env fr t=ly env d t
 |⟨k,i,n,a⟩,b,h=>by
  rw[ly,ly];by_cases c:k=1;rw[if_pos c,if_pos c];have:=Nn.2 (h i (by grind[pc]));cases f:mQ env i with|none=>rw[f]at this;cases this|some u=>rfl
  rw[if_neg c,if_neg c];rw[eY,if_neg c]at b;rw[J5 a b.1 λv e=>h v (by grind[pc])];theorem J5{env:List Bd}{fr d:Int}:∀(l:List Tm),fe l->(∀v,jg v l->sU env v)->n4 env fr l=n4 env d l|[],_,_=>by rw[n4,n4]|x::l,b,h=>by rw[fe]at b;rw[n4,n4,ahF x b.1 λv e=>h v (by grind[jg]),J5 l b.2 λv e=>h v (by grind[jg])];end
theorem Z3{h x:At}{e':List Bd}(a:fe h.a)(b:mW h x e=some e'):(∀v,sU e v->sU e' v)/\∀v,jg v h.a->sU e' v:=by grind[mW,DI]
theorem J6{st:List Im}{perm:List Int->List Bd->Bool}{a:Nat->Int->Bool}{q:List Int->List Bd->Bool}:∀(hs:List At)(pre:List Int)(e:List Bd),(∀h∈hs,fe h.a) ->(∀ids e',(∀v,sU e v->sU e' v)->(∀v,(∃h∈hs,jg v h.a)->sU e' v)->perm ids e'=q ids e')->rh st perm a hs pre e=rh st q a hs pre e|[],pre,e,_,h=>by grind[rh]|x::hs,pre,e,c,h=>by rw[rh,rh];refine El λy k=>?_;split;rfl;cases f:mW x ⟨y.n,y.a⟩ e with|none=>rfl|some g =>let⟨i,l⟩:=Z3 (c x aB) f;refine J6 hs _ g (λz b=>c z I) λids e' j m=>h ids e' (λv d=>j v (i v d)) λv ⟨z,b,d⟩=>?_;rcases ae_.1 b with rfl|b;grind;grind
def wR(r:Rl):Prop:=(∀h∈r.aQ++r.rem,fe h.a)/\(∀g∈r.guard,fe g.a)/\∀g∈r.guard,∀v,jg v g.a->∃h∈r.aQ++r.rem,jg v h.a
theorem ak5{a:Int}(b:wR r)(d:∀v,(∃h∈r.aQ++r.rem,jg v h.a)->sU e v):ML s e fr r.guard=ML s e a r.guard:=by
 unfold ML;refine all_congr λg c=>?_;have:gz e fr g=gz e a g:=by unfold gz;rw[<-pQ,<-pQ,J5 g.a (b.2.1 g c) λv f=>d v (b.2.2 g c v f)]
 rw[this]
theorem Vr{k a:Int}(b:wR r)(c:∀v,(∃h∈r.aQ++r.rem,jg v h.a)->sU e v):kD s r k fr ids e=kD s r k a ids e:=by grind[kD,ak5]
theorem W8{k:Int}(b:C7 s.store)(a:wR r):(rh s.store (kD s r k s.fresh) (λ_ _=>true) (r.aQ++r.rem) [] []).map (·.1)=C6 s r k:=by rw[J6 (q:=kD s r k 0) _ _ _ a.1 λids g _ c=>Vr a c,Vp b];unfold C6;refine yp λl d=>?_;let⟨t,e,f⟩:=xQ _ _ _ l d;rw[aL_]at e;subst e;unfold Em qm;rw[if_pos f,bg_,bC_];cases ql s.store (r.aQ++r.rem) l [] [] with|none=>rfl|some e=>simp only;cases kD s r k 0 l e<;>rfl
theorem Z4{k:Int}(c:C7 s.store)(a:wR r)(b:ids.length=(r.aQ++r.rem).length):rh s.store (kD s r k s.fresh) (λk id=>decide (ids[k]?=some id)) (r.aQ++r.rem) [] []=match qm s r k ids with|none=>[]|some e=>[(ids,e)]:=by rw[J6 (q:=kD s r k 0) _ _ _ a.1 λids f _ d=>Vr a d,Vq c _ ids _ [] ids [] rfl b];unfold qm;rw[if_pos b];cases ql s.store (r.aQ++r.rem) ids [] [] with|none=>rfl|some e=>simp only;split<;>rfl
theorem Lj{F:Fence}{A:Nat->Prop}{g:Gh}{a:Act}{w:World}{Mz:Array Oper}{Q:Exit->Act->World->Prop}{i:Nat}{b:List Nat}{r:AV}{S':ah}(c:my F)(l:St Y A g S w)(e:cO g w n U a)(hi:Mz[i]?=some o)(p:o.guard=none)(q:(match o.dst with|some d=>Nat.blt d n|none=>true)=true)(h:jV P Y n o U S r S')(k:∀(a':Act) (w':World) (g':Gh),St Y A g' S' w'->cO g' w' n (U.put o.dst r) a'->Ext A g w g' w'->wpOpsIn F m P Mz Q b a' w'):wpOpsIn F m P Mz Q (i::b) a w:=by simp only[wpOpsIn,hi];rw[if_pos (by simp[Region.wanted,p])];exact⟨λf _=>c.1 f,h F m A g a w _ Q c l e λv w' g' s t j=>k _ _ _ t (sF (e.later j.toLater) q s) j⟩
theorem Z5(a:res P.toTables o.op=some (.mv x)):jV P Y n o U S (x.ev U.tm) S:=by have h:D P Y false (.mv x) U S (x.ev U.tm) S:=D.quiet rfl;exact h n o a
theorem H.ak6{id:Nat}{j p:Oper}{q1 E:QO}{d1 d2:Nat}{c:Call}{x i:Operand}{k:Nat}{m:Int}{mt s G:TypeId}(T:j.guard=none)(g2:p.guard=none)(V:j.dst=some d1)(W:p.dst=some d2)(b1:Nat.blt d1 n=true)(b2:Nat.blt d2 n=true)(r1:res P.toTables j.op=some (.mv q1))(r2:res P.toTables p.op=some (.mv E))(ho:o.op=.defer c)(hc:c.callee=.builtin .delete)(Z6:c.argTypes[0]?=some mt)(hu:P.underlying mt=some (.map s G))(hk:P.underlying s=some (.int kk))(ha:c.args=#[x,i])(hg:o.guard=none)(r:o.dst=none){q:AA}(u:q=(U.put (some d1) (q1.ev U.tm)).put (some d2) (E.ev (U.put (some d1) (q1.ev U.tm)).tm))(J:(qo x).ev q.tm=.mp k)(hi:(qo i).ev q.tm=.v (.int .i64 m))(h:∀t,WE P t->H P Y false n Q (.out .normal K) ⟨q.tm,.del t k m::q.df⟩ S):H P Y false n Q (.run (.raw (.region id #[j,p,o] false)) K) U S:=by
 intro c0 zS _;cases ac2 zS;rw[aU]at J hi;let⟨b,pW⟩:∃b:Array Bool,(c.args.map λ|.const _=>true|_=>false)=b:=⟨_,rfl⟩;refine⟨.normal,_,S,λF mm A g0 a0 w0' v L NM K4=>?_,h (.builtin .delete c.argTypes o.type b) ⟨_,_,_,mt,s,G,kk,rfl,Z6,hu,hk⟩⟩;have j_:F.round=none:=by cases hr:F.round with|none=>rfl|some l=>rw[hr]at L;cases L
 refine wpIn_region ?_;rw[show List.range (#[j,p,o]:Array Oper).size=[0,1,2] from rfl];refine Lj v NM K4 (o:=j) rfl T I (Z5 r1) λa1 w1 gh1 oO M qZ=>?_;rw[V]at M;refine Lj v oO M (o:=p) rfl g2 I (Z5 r2) λa w g hS e CP=>?_;rw[W,<-u]at e;have hE:=qZ.trans CP;have N:=e.ev x;have R:=e.ev i;rw[J]at N;rw[hi]at R;let⟨y,aS⟩:=u5 N;have z:=cC R;have cQ:(resolve a.eval c o.type).run P w=.ok {target:=.builtin .delete c.argTypes o.type b,args:=#[.map (some (g.ob k)),.int .i64 m] } w:=by rw[<-pW];simp[resolve,hc,ha,y,z];cases x<;>cases i<;>exact⟨rfl,rfl⟩
 have B:cO g w n ⟨q.tm,.del (.builtin .delete c.argTypes o.type b) k m::q.df⟩ {a with defers:=({target:=.builtin .delete c.argTypes o.type b,args:=#[.map (some (g.ob k)),.int .i64 m] }:Deferred)::a.defers }:=by refine⟨e.size,e.tm,e.out,?_,λd r=>?_⟩;show _=({target:=.builtin .delete c.argTypes o.type b,args:=#[.map (some (g.ob k)),.int .i64 m] }:Deferred)::_;rw[<-e.df];rcases ae_.1 r with rfl|r;exact aS;exact e.yE d r
 have K6:(#[j,p,o]:Array Oper)[2]?=some o:=rfl;simp only[wpOpsIn,K6];rw[if_pos (by simp[Region.wanted,hg])];refine⟨λf _=>v.1 f,?_⟩;have C:(o.semAt F.round a.eval).run P w=.ok (.defer {target:=.builtin .delete c.argTypes o.type b,args:=#[.map (some (g.ob k)),.int .i64 m] }) w:=by rw[j_];simp[Oper.semAt,execOp,ho,Sem.run_bind,cQ]
 rw[C];simp[Oper.uponIn,r];exact⟨rfl,g,hS,B,hE⟩
section
attribute [local irreducible] ao aF D H
def apZ:=aD func288 call288
def kT:List Nat:=[0,1,10,6,2,56,15,7,9,26,8,30,12,46,11,55,57,54,14,16,70]
def ub(_:Unit):AV:=.v (.bool true)
def Fj(O:Hd)(busy:List (Int×Unit)):Ob:=.mp (O.h (dX ub) busy)
def G4:Option (Int×Int)->AV|some q=>.aJ [I7 q,.v (.bool true)]|none=>.aJ [I7 (0,0),.v (.bool false)]
theorem R0{T:Type}{f:T->AV}:∀{l:List (Int×T)}{i:Int}{v:T},aI l i=none->nu (dX f (l++[(i,v)])) i=some l.length|[],i,v,_=>by simp[dX,nu,dD]|p::l,i,v,h=>by rw[aI]at h;by_cases e:p.1=i;grind;rw[if_neg e]at h;have a:=R0 (f:=f) (v:=v) h;have b:dX f (p::l++[(i,v)])=(dD p.1,f p.2)::dX f (l++[(i,v)]):=rfl;rw[b,nu,a];simp[dD,e]
theorem ac3{T:Type}{f:T->AV}{l:List (Int×T)}{v:T}(h:aI l i=none):Mw (dX f (l++[(i,v)])) i=dX f l:=by
 unfold Mw;rw[R0 h];have:dX f (l++[(i,v)])=dX f l++[(dD i,f v)]:=by simp[dX]
 rw[this,show l.length=(dX f l).length by simp[dX]];show(dX f l++[(dD i,f v)]).eraseIdx (dX f l).length=dX f l;rw[List.eraseIdx_append_of_length_le (aa_ _),cx_];simp
theorem Z7{Y:World}{rd:Bool}{n:Nat}{b:List QR}{R:AV->ah->Prop}{U:AA}{S':ah}{r:AV}(c:CK P S U.df S')(d:(match yX U.tm S' b with|some [a]=>some a|some l=>some (.aJ l)|none=>none)=some r)(k:R r S'):H P Y rd n (acm P b R) (.out .ret []) U S:=by simp only[H,eI];exact⟨rfl,S',r,c,d,k⟩
theorem CK.ac4{t:Target}{k:Nat}{a:List (Int×Unit)}(c:WE P t)(b:aI busy i=none)(d:a=g9 busy i ())(f:S.get k=some (.mp (O.h (dX ub) a))):CK P S [.del t k i] (S.set k (some (Fj O busy))):=by
 subst d;have e:Mw (O.h (dX ub) (g9 busy i ())) i=O.h (dX ub) busy:=by rw[O.eq,O.eq,AU b,ac3 b]
 refine .del c f (by rw[O.eq];exact uD) ?_;rw[e];exact .nil
def Cb(kn:KN):Prop:=∀C p,aI kn C=some p->(0<=p.1/\p.1<=201)/\0<=p.2/\p.2<=21
theorem Cb.ins{r:Int}{q:Int×Int}(h:Cb kn)(b:(0<=q.1/\q.1<=201)/\0<=q.2/\q.2<=21):Cb (g9 kn r q):=λC p a=>by rw[c_]at a;split at a;grind;exact h C p a
theorem En{N:aT}{sh:List (Int×Int)}:∀(m:Nat){busy:List (Int×Unit)}{r:Nat}{up b:List Nat}{kn d:KN}{o:Option (Int×Int)},oR N sh m busy r up kn=some (o,b,d)->Cb kn->Cb d/\b.length=up.length/\∀q,o=some q->(0<=q.1/\q.1<=201)/\0<=q.2/\q.2<=21
 |0,_,_,_,_,_,_,_,h,_=>by cases h|m+1,busy,r,up,b,kn,d,o,h,a=>by
  have key:∀(l:List Nat){busy:List (Int×Unit)}{up b:List Nat}{kn d:KN}{q:Int×Int}{o:Option (Int×Int)},tJ (oR N sh m busy) l up kn q=some (o,b,d)->Cb kn->(0<=q.1/\q.1<=201)/\0<=q.2/\q.2<=21->Cb d/\b.length=up.length/\∀q,o=some q->(0<=q.1/\q.1<=201)/\0<=q.2/\q.2<=21:=by intro l;induction l with|nil =>intro busy up b kn d q o h a n;simp only[tJ,oI_,pI_]at h;obtain⟨rfl,rfl,rfl⟩:=h;exact⟨a,rfl,λg e=>I⟩|cons x l v =>intro busy up b kn d q o h a n;rw[tJ]at h;split at h;grind;rename_i u c w;have A:=kQ w;split at h;grind;rename_i y s f;let⟨t,z,_⟩:=En m f a;simp only[oI_,pI_]at h;obtain⟨rfl,rfl,rfl⟩:=h;exact⟨t,X,λg e=>I⟩;rename_i p y s f;let⟨t,z,k3⟩:=En m f a;have k4:=k3 p rfl;let⟨i,k,j⟩:=v h t ⟨⟨I,by simp only;omega⟩,by simp only;omega,by simp only;omega⟩;exact⟨i,X,j⟩
  rw[oR]at h;split at h;rename_i q n;simp only[oI_,pI_]at h;obtain⟨rfl,rfl,rfl⟩:=h;exact⟨a,rfl,λg e=>by cases oJ_ e;exact a _ _ n⟩;split at h;simp only[oI_,pI_]at h;obtain⟨rfl,rfl,rfl⟩:=h;exact⟨a,rfl,λg e=>by cases e⟩;split at h;simp only[oI_,pI_]at h;obtain⟨rfl,rfl,rfl⟩:=h;exact⟨a.ins aC,rfl,λg e=>by cases oJ_ e;decide⟩;split at h;split at h;cases h;split at h;cases h;rename_i u s f;let⟨i,k,j⟩:=key _ f a aC;simp only[oI_,pI_]at h;obtain⟨rfl,rfl,rfl⟩:=h;exact⟨i,k,λg e=>by cases e⟩;rename_i q u s f;let⟨i,k,j⟩:=key _ f a aC;simp only[oI_,pI_]at h;obtain⟨rfl,rfl,rfl⟩:=h;exact⟨i.ins (j q rfl),k,λg e=>by cases oJ_ e;exact j q rfl⟩;cases h
theorem R1(a:S.get 7=some (Fj O busy):=by rfl)(h0:S.get 0=some (gO nl ul):=by rfl)(h1:S.get 1=some (gV O Nd):=by rfl)(h2:S.get 2=some (cI O vs):=by rfl)(h3:S.get 3=some (cU O up):=by rfl)(h4:S.get 4=some (g7 O sh):=by rfl)(h5:S.get 5=some (cI O ls):=by rfl)(h6:S.get 6=some (g8 O kn):=by rfl):gK 8 [] N S (gX O nl ul Nd vs up sh ls kn++[(7,Fj O busy)]) :=⟨.inl ⟨_,h0,.same (rN X)⟩,.inl ⟨_,h1,.same (nW _)⟩,.inl ⟨_,h2,.same (e_ _)⟩,.inl ⟨_,h3,.same (f_ _)⟩,.inl ⟨_,h4,.same (nj _)⟩,.inl ⟨_,h5,.same (e_ _)⟩,.inl ⟨_,h6,.same (nk _)⟩,.inl ⟨_,a,.same λe b=>Pure.bu (fZ (λ_=>.v) busy e b)⟩,trivial⟩
def gB(O:Hd)(nl ul:Nat)(N:aT)(vs:List (Int×Int))(up:List Nat)(sh ls:List (Int×Int))(kn:KN)(busy:List (Int×Unit)):List (Nat×Ob):=gX O nl ul N vs up sh ls kn++[(7,Fj O busy)]
theorem Ii{N:aT}(h:7<B):B_ (gB O nl ul N vs up sh ls kn busy) B:=⟨λj o b=>by
 have a:=fW b;unfold gB at a;rcases aN_.1 a with a|a;have c:fJ (gX O nl ul N vs up sh ls kn) j=some o:=by have:=MG (O:=O) (nl:=nl) (ul:=ul) (N:=N) (vs:=vs) (up:=up) (sh:=sh) (ls:=ls) (kn:=kn) (j,o) a;exact this
 exact(en X).get j o c;simp only[ae_,pI_,aw_,or_false]at a;obtain⟨rfl,rfl⟩:=a;exact⟨h,λe d=>Pure.bu (fZ (λ_=>.v) busy e d),λJ=>by simp[Fj]⟩⟩
theorem Z8{N:aT}{T:ah}(c:T.get 7=some (Fj O busy):=by rfl)(h0:T.get 0=some (gO nl ul):=by rfl)(h1:T.get 1=some (gV O N):=by rfl)(h2:T.get 2=some (cI O vs):=by rfl)(h3:T.get 3=some (cU O up):=by rfl)(h4:T.get 4=some (g7 O sh):=by rfl)(h5:T.get 5=some (cI O ls):=by rfl)(h6:T.get 6=some (g8 O kn):=by rfl):∀j o,fJ (gB O nl ul N vs up sh ls kn busy) j=some o->T.get j=some o:=λj o b=>by have a:=fW b;unfold gB at a;rcases aN_.1 a with a|a;exact Ld (h0:=h0) (h1:=h1) (h2:=h2) (h3:=h3) (h4:=h4) (h5:=h5) (h6:=h6) (j,o) a;grind
theorem Z9{a:AV}(h:7<N)(d:Pure a):∀b∈[AV.pt 0 6 0 0,a,.mp 7],eE N b:=by intro b c;simp only[ae_,aw_,or_false]at c;rcases c with rfl|rfl|rfl;exact .pt X;exact Pure.bu d;exact .mp h
theorem Ij:kH B (.arr 2 [[iv a,iv b]] 0 true):=λrow d x c=>by cases ak_.1 d;simp only[ae_,aw_,or_false]at c;rcases c with rfl|rfl<;>exact .v
theorem ak7(c:S.get 8=some (.arr 2 [[iv 0,iv 0]] 0 true):=by rfl)(d:S.get 10=some (.arr 2 [[iv a,iv b]] 0 true):=by rfl)(f:S.get 7=some (Fj O busy):=by rfl)(h0:S.get 0=some (gO nl ul):=by rfl)(h1:S.get 1=some (gV O Nd):=by rfl)(h2:S.get 2=some (cI O vs):=by rfl)(h3:S.get 3=some (cU O up):=by rfl)(h4:S.get 4=some (g7 O sh):=by rfl)(h5:S.get 5=some (cI O ls):=by rfl)(h6:S.get 6=some (g8 O kn):=by rfl):gK 11 [] N S [(0,gO nl ul),(1,gV O Nd),(2,cI O vs),(3,cU O up),(4,g7 O sh),(5,cI O ls),(6,g8 O kn),(7,Fj O busy),(8,.arr 2 [[iv 0,iv 0]] 0 true),(10,.arr 2 [[iv a,iv b]] 0 true)] :=⟨.inl ⟨_,h0,.same (rN X)⟩,.inl ⟨_,h1,.same (nW _)⟩,.inl ⟨_,h2,.same (e_ _)⟩,.inl ⟨_,h3,.same (f_ _)⟩,.inl ⟨_,h4,.same (nj _)⟩,.inl ⟨_,h5,.same (e_ _)⟩,.inl ⟨_,h6,.same (nk _)⟩,.inl ⟨_,f,.same λe g=>Pure.bu (fZ (λ_=>.v) busy e g)⟩,.inl ⟨_,c,.same Ij⟩,.inl ⟨_,d,.same Ij⟩,trivial⟩
theorem rQ(o:Option (Int×Int)):Pure (G4 o):=by cases o<;>(refine .aJ λa b=>?_)<;>simp only[ae_,aw_,or_false]at b<;>rcases b with rfl|rfl<;>first|exact Al _|exact .v
theorem ak8{N:aT}(hN:CE N)(L:nl=N.length)(pR:ul<=1099511627776):∀(m:Nat){busy:List (Int×Unit)}{r:Nat}{up B:List Nat}{kn C:KN}{o:Option (Int×Int)},up.length=ul->Cb kn->oR N sh m busy r up kn=some (o,B,C) ->aF prog Y 288 [.pt 0 6 0 0,iv r,.mp 7] (aw (gX O nl ul N vs up sh ls kn++[(7,Fj O busy)]) 8) (G4 o) (aw (gX O nl ul N vs B sh ls C++[(7,Fj O busy)]) 8):=by intro m;induction m with|zero=>intro busy r up B kn C o _ _ h;cases h|succ m ih =>
  intro busy r up B kn C o hu hk h;rw[oR]at h;let⟨E,Uo⟩:∃E:Int,E=r:=⟨_,rfl⟩;rw[<-Uo]at h⊢;refine qz.aph 8 8 _ apZ.2 (by simp[ntmps288]) rfl rfl ?_;unfold gX;refine Z kT ?_;refine H.look (O:=O) (f:=I7) (kv:=kn) rfl rfl rfl rfl (λq M=>?_) λM=>?_;rw[M]at h;simp only[oI_,pI_]at h;obtain⟨rfl,rfl,rfl⟩:=h;refine Z kT ?_;exact Z7 .nil rfl ⟨[],.aK (Pure.bu (rQ (some q))),R1,rfl⟩;rw[M]at h;simp only at h;refine Z kT ?_;refine H.look (O:=O) (f:=ub) (kv:=busy) rfl rfl rfl rfl (λb g=>?_) λg=>?_;rw[g]at h;simp only[oI_,pI_]at h;obtain⟨rfl,rfl,rfl⟩:=h;refine Z kT ?_;exact Z7 .nil rfl ⟨[],.aK (Pure.bu (rQ none)),R1,rfl⟩;rw[g]at h;simp only at h;refine Z kT ?_;refine H.ph (O:=O) (f:=ub) (kv:=busy) (v:=()) rfl rfl rfl rfl rfl λd F=>?_;refine Z kT ?_;refine H.ak6 rfl rfl rfl rfl rfl rfl rfl rfl rfl rfl rfl rfl rfl rfl rfl rfl rfl rfl rfl λt P=>?_;refine Z kT ?_;refine H.look (O:=O) (f:=iv) (kv:=sh) rfl rfl rfl rfl (λk Q=>?_) λQ=>?_
  ·rw[Q]at h;simp only at h;split at h;rotate_left;cases h;rename_i h00;let⟨N4,F_⟩:∃n:Nat,n=k.toNat:=⟨_,rfl⟩;rw[<-F_]at h;split at h;cases h;rename_i t0 l R;have q2:k=(N4:Int):=X;have g2:=hN _ _ _ R;have i2:N4<nl:=by rw[L];exact(aA_.1 R).1
   have S:=dv (O:=O) (f:=yJ O) R;rw[yJ]at S;simp only at S;have hpu:Pure (aY O dz false l):=ew λx _ a ha=>by cases ak_.1 ha;exact .v
   rw[<-F]at h;let⟨T,MM⟩:=aq (tJ (oR N sh m d) l up kn (1,1));rw[<-MM]at h;refine Z kT ?_;refine H.op rfl (D.eT rfl rfl q2 i2) ?_;refine H.op rfl (D.quiet rfl) ?_;refine og kT (D.iQ rfl rfl S rfl) ?_;refine H.int rfl (D.len rfl) λq FL=>?_;rw[az]at FL;refine Z kT ?_;refine cr (τ:=List Nat×KN×Int×Int) 11 11 [] (λp=>[(0,.pt 0 6 0 0),(1,iv E),(2,.mp 7),(6,.pt 8 2 0 0),(7,.v (.bool false)),(10,.pt 10 2 0 0),(54,aY O dz false l),(55,iv q),(56,iv p.1)]) [.del t 7 E] (λp=>[(0,gO nl ul),(1,gV O N),(2,cI O vs),(3,cU O p.2.1),(4,g7 O sh),(5,cI O ls),(6,g8 O p.2.2.1),(7,Fj O d),(8,.arr 2 [[iv 0,iv 0]] 0 true),(10,.arr 2 [[iv p.2.2.2.1,iv p.2.2.2.2]] 0 true)]) l.length (λi p=>p.2.1.length=ul/\Cb p.2.2.1/\((0<=p.2.2.2.1/\p.2.2.2.1<=201)/\0<=p.2.2.2.2/\p.2.2.2.2<=21)/\tJ (oR N sh m d) (l.drop i) p.2.1 p.2.2.1 p.2.2.2=T) (up,kn,(1,1)) ⟨hu,hk,by simp only;decide,by simpa using MM.symm⟩ (hC:=by exact⟨sq,rfl,ak7,rfl,rfl,rfl⟩) ?_;rintro ii i⟨kK,u,⟨V,G⟩⟩jY yq⟨W,mI,⟨⟨b1,b2⟩,b3,b4⟩,c⟩;simp only at jY yq W mI b1 b2 b3 b4 c;refine Z kT ?_;refine cn (λb9=>?_) λb9=>?_;have iz:i<l.length:=X;let⟨x,hx⟩:∃x,l[i]?=some x:=⟨_,av_ iz⟩;let⟨xa,xb⟩:=aA_.1 hx;rw[bN_ xa,xb,tJ]at c;split at c;subst c;cases h;rename_i J cl hr;have c1:=C4 (Y:=Y) (O:=O) (s:=⟨N,vs,⟨kK,sh,ls⟩⟩) (kn:=u) (by simp only;omega) hr;have ou:J.length=ul:=by rw[kQ hr,W]
   simp only at c1;rw[<-ky L W,<-ky L ou]at c1;refine Z kT ?_;refine og kT (D.bh jY hx) ?_;refine H.op rfl (D.jA c1 rfl (ax_ rfl) (en aC) qD (en aC) (vJ aC .v) .v) ?_;let⟨y,z,K,A⟩:∃y z K,oR N sh m d cl J u=some (y,z,K):=by cases A:oR N sh m d cl J u with|none=>rw[A]at c;simp only at c;subst c;cases h|some w=>exact⟨w.1,w.2.1,w.2.2,rfl⟩
   rw[A]at c;let⟨k3,l3,p3⟩:=En m A mI;have c2:aF prog Y 288 [.pt 0 6 0 0,iv cl,.mp 7] (aw (gB O nl ul N vs J sh ls u d) 8) (G4 y) (aw (gB O nl ul N vs z sh ls K d) 8):=ih ou mI A;have Bv:z.length=ul:=X;refine Z kT ?_;refine H.op rfl (D.jA c2 rfl (ax_ rfl) (Ii aC) Z8 (Ii aC) (Z9 aC .v) (Pure.bu (rQ y))) ?_;cases y with|none =>simp only at c;subst c;simp only[oI_,pI_]at h;obtain⟨rfl,rfl,rfl⟩:=h;rw[G4];refine Z kT ?_;refine rG kT ?_;exact Z7 (CK.ac4 P g F rfl) rfl ⟨[],.aK (Pure.bu (rQ none)),R1,rfl⟩|some pq =>let⟨q3,q4⟩:=pq;let⟨⟨d1,d2⟩,d3,d4⟩:=p3 _ rfl;simp only at c d1 d2 d3 d4;rw[G4];refine Z kT ?_;refine ag kT λa1 eg=>?_;refine ig kT (D.min (k:=.i64) (a:=a1) (b:=201) rfl rfl) λa2 fF=>?_;refine ag kT λa3 fH=>?_;refine ig kT (D.max (k:=.i64) (a:=G) (b:=a3) rfl rfl) λa4 ha4=>?_;refine ig kT (D.min (k:=.i64) (a:=a4) (b:=21) rfl rfl) λa5 ha5=>?_;refine ag kT λi3 dU=>?_;have e1:a2=min (V+q3) 201:=X;have e2:a5=min (max G (q4+1)) 21:=X;exact bP (i3,z,K,(a2,a5)) [] (i+1) ⟨Bv,k3,⟨⟨by simp only;omega,by simp only;omega⟩,by simp only;omega,by simp only;omega⟩,by rw[e1,e2];exact c⟩ (hC:=by exact⟨sq,rfl,ak7,rfl,rfl,rfl⟩)
   have iz:i=l.length:=X;rw[iz,aO_ (aa_ _),tJ]at c;subst c;simp only[oI_,pI_]at h;obtain⟨rfl,rfl,rfl⟩:=h;refine Z kT ?_;refine xG kT ?_;refine H.KK (O:=O) (f:=I7) (kv:=u) (v:=(V,G)) rfl rfl rfl rfl rfl λQf e=>?_;rw[<-e];refine Z kT ?_;exact Z7 (CK.ac4 P g F rfl) rfl ⟨[],.aK (Pure.bu (rQ (some (V,G)))),R1,rfl⟩
  rw[Q]at h;simp only[oI_,pI_]at h;obtain⟨rfl,rfl,rfl⟩:=h;refine Z kT ?_;refine H.KK (O:=O) (f:=I7) (kv:=kn) (v:=((1:Int),(1:Int))) rfl rfl rfl rfl rfl λQf e=>?_;rw[<-e];refine Z kT ?_;exact Z7 (CK.ac4 P g F rfl) rfl ⟨[],.aK (Pure.bu (rQ (some (1,1)))),R1,rfl⟩
def ap0:=aD func272 call272
def auF:List Nat:=[2,0]
def afO:=aD func291 call291
def mE:List Nat:=[0,7,4,55,1,5,8,6,21,40,54,56,53,9,10]
theorem Z_{v:Int}:aH S (.agg [.v (.int .i64 1),.v (.int .i64 v),.v (.string ⟨#[]⟩),.sl true []]) (tm O (vr v)):=by refine .agg rfl λi a d b c=>?_;match i,b,c with|0,b,c=>cases oJ_ b;cases oJ_ c;exact .refl _|1,b,c=>cases oJ_ b;cases oJ_ c;exact .refl _|2,b,c=>cases oJ_ b;cases oJ_ c;exact .refl _|3,b,c =>cases oJ_ b;cases oJ_ c;rw[vr,tl,bF];exact aH.wk
def Aq:Option Tm->List AV|none=>[iv 0,iv 0,.v (.string ⟨#[]⟩),.sl true []]|some x=>mn x
theorem ahG(x:Option Tm):(Aq x).length=4:=by cases x with|none=>rfl|some x=>exact zk x
theorem ahH(l:List Tm):List.map Aq (l.map some)=List.map mn l:=by rw[bj_];rfl
theorem gX7(h0:S.get 0=some (gO nl ul):=by rfl)(h1:S.get 1=some (gV O Nd):=by rfl)(h2:S.get 2=some (cI O vs):=by rfl)(h3:S.get 3=some (cU O up):=by rfl)(h4:S.get 4=some (g7 O sh):=by rfl)(h5:S.get 5=some (cI O ls):=by rfl)(h6:S.get 6=some (g8 O kn):=by rfl):gK 7 [] N S (gX O nl ul Nd vs up sh ls kn):=gC h0 h1 h2 h3 h4 h5 h6
theorem R5{f:Nat->List Nat->Option (Tm×List Nat)}(c:∀r u t d,f r u=some (t,d)->d.length=u.length):∀(l:List Nat){up a:List Nat}{b:List Tm},B1 f l up=some (b,a)->a.length=up.length/\b.length=l.length|[],up,a,b,h=>by grind[B1]|x::l,up,a,b,h=>by rw[B1]at h;split at h;grind;rename_i u r e;have k:=kQ e;split at h;grind;rename_i t m g;have n:=c _ _ _ _ g;split at h;grind;rename_i i o j;let⟨p,q⟩:=R5 c l j;simp only[oI_,pI_]at h;obtain⟨rfl,rfl⟩:=h;exact⟨X,I⟩
theorem Eo{N:aT}{sh ls:List (Int×Int)}:∀(m:Nat)(r:Nat)(up:List Nat)(t:Tm)(a:List Nat),B2 N sh ls m r up=some (t,a)->a.length=up.length|0,_,_,_,_,h=>by cases h|m+1,r,up,t,a,h=>by rw[B2]at h;split at h;grind;split at h;split at h;grind;split at h;split at h;grind;split at h;grind;rename_i b;have:=(R5 (Eo m) _ b).1;simp only[oI_,pI_]at h;obtain⟨rfl,rfl⟩:=h;exact this;grind;grind
theorem H.yu{Y:World}{rd:Bool}{n:Nat}{U:AA}{id:Nat}{b:QC}(h:H P Y rd n Q (.out .normal (.seq b::K)) U S):H P Y rd n Q (.out (.exit id) (.Bw id::.seq b::K)) U S:=by simp only[H,eI,bD_]at h⊢;exact h
theorem R6(x:Option Tm):∀a∈Aq x,eE B a:=by intro a b;cases x with|some x=>exact Pure.bu (Ad x a b)|none =>simp only[Aq,ae_,aw_,or_false]at b;rcases b with rfl|rfl|rfl|rfl<;>first|exact .v|exact zn
theorem ahI(b:List (Option Tm)):kH B (.arr 4 (O.h (List.map Aq) b) 0 ex):=by show∀row∈O.h (List.map Aq) b,∀a∈row,eE B a;rw[O.eq];intro row c a d;obtain⟨x,_,rfl⟩:=aB_.1 c;exact R6 x a d
theorem alb{b:List (Option Tm)}(e:S.get 7=some (.arr 4 [Aq none] 0 true):=by rfl)(f:S.get 8=some (.arr 4 [ld O t] 0 true):=by rfl)(g:S.get 9=some (.arr 4 (O.h (List.map Aq) b) 0 true):=by rfl)(h0:S.get 0=some (gO nl ul):=by rfl)(h1:S.get 1=some (gV O Nd):=by rfl)(h2:S.get 2=some (cI O vs):=by rfl)(h3:S.get 3=some (cU O up):=by rfl)(h4:S.get 4=some (g7 O sh):=by rfl)(h5:S.get 5=some (cI O ls):=by rfl)(h6:S.get 6=some (g8 O kn):=by rfl):gK 10 [] N S [(0,gO nl ul),(1,gV O Nd),(2,cI O vs),(3,cU O up),(4,g7 O sh),(5,cI O ls),(6,g8 O kn),(7,.arr 4 [Aq none] 0 true),(8,.arr 4 [ld O t] 0 true),(9,.arr 4 (O.h (List.map Aq) b) 0 true)] :=⟨.inl ⟨_,h0,.same (rN X)⟩,.inl ⟨_,h1,.same (nW _)⟩,.inl ⟨_,h2,.same (e_ _)⟩,.inl ⟨_,h3,.same (f_ _)⟩,.inl ⟨_,h4,.same (nj _)⟩,.inl ⟨_,h5,.same (e_ _)⟩,.inl ⟨_,h6,.same (nk _)⟩,.inl ⟨_,e,.same λrow c a d=>by cases ak_.1 c;exact R6 none a d⟩,.inl ⟨_,f,.same λrow c a d=>by grind[Pure.bu,ue]⟩,.inl ⟨_,g,.same (ahI _)⟩,trivial⟩
theorem W9(v:Int):ab Y 272 [iv v] (tm O (vr v)):=by
 refine st ap0 auF (bI _) ?_;repeat' first|refine fq ?_
 exact Z_
theorem R7{N:aT}(hN:CE N)(dL:nl=N.length)(pR:ul<=1099511627776):∀(m:Nat){r:Nat}{up B:List Nat}{t:Tm},up.length=ul->B2 N sh ls m r up=some (t,B) ->aF prog Y 291 [.pt 0 6 0 0,iv r] (aw (gX O nl ul N vs up sh ls kn) 7) (tm O t) (aw (gX O nl ul N vs B sh ls kn) 7):=by intro m;induction m with|zero=>intro r up B t _ h;cases h|succ m ih =>
  intro r up B t hu h;rw[B2]at h;let⟨J,Uo⟩:∃J:Int,J=r:=⟨_,rfl⟩;rw[<-Uo]at h⊢;split at h;rename_i j;simp only[oI_,pI_]at h;obtain⟨rfl,rfl⟩:=h;refine sc 7 7 afO ?_;unfold gX;refine Z mE ?_;refine H.look (O:=O) (f:=iv) (kv:=sh) rfl rfl rfl rfl (λk o=>?_) λo=>?_;grind;let⟨C,b⟩:=aq ((aI ls J).getD 0);rw[<-b];refine Z mE ?_;refine H.gj (O:=O) (f:=iv) (kv:=ls) rfl rfl rfl rfl (λv K=>?_) λK=>?_;rw[K]at b;obtain rfl:C=v:=b;refine Z mE ?_;apply a8 mE (W9 (O:=O) C);refine fq ?_;exact⟨[],.aK (Pure.bu (bI (vr C))),gX7,rfl⟩;rw[K]at b;cases(b:C=0);refine Z mE ?_;apply a8 mE (W9 (O:=O) 0);refine fq ?_;exact⟨[],.aK (Pure.bu (bI (vr 0))),gX7,rfl⟩
  ·rename_i k j;split at h;rotate_left;grind;rename_i h00;let⟨N4,F_⟩:∃n:Nat,n=k.toNat:=⟨_,rfl⟩;rw[<-F_]at h;split at h;grind;rename_i t0 l Vs;split at h;rotate_left;grind;rename_i L;have q2:k=(N4:Int):=X;have g2:=hN _ _ _ Vs;have i2:N4<nl:=I;have E:=dv (O:=O) (f:=yJ O) Vs;let⟨M,P,Q,R⟩:=t0;rw[yJ]at E;simp only at E L g2 h;have hpu:Pure (aY O dz false l):=ew λx _ a ha=>by cases ak_.1 ha;exact .v
   refine sc 7 7 afO ?_;unfold gX;refine Z mE ?_;refine H.look (O:=O) (f:=iv) (kv:=sh) rfl rfl rfl rfl (λk2 o=>?_) λo=>?_;rotate_left;grind;rw[j]at o;cases oJ_ o;refine Z mE ?_;refine H.op rfl (D.eT rfl rfl q2 i2) ?_;refine H.op rfl (D.quiet rfl) ?_;refine og mE (D.iQ rfl rfl E rfl) ?_;refine lg mE λq1 qy=>?_;refine cn (λbK=>?_) λbK=>?_;rw[if_pos X]at h;simp only[oI_,pI_]at h;obtain⟨rfl,rfl⟩:=h;refine Z mE ?_;refine fq ?_;exact⟨[],.aK (Pure.bu (bI ⟨M,P,Q,R⟩)),gX7,rfl⟩;rw[if_neg X]at h;split at h;grind;rename_i g u hex;simp only[oI_,pI_]at h;obtain⟨rfl,rfl⟩:=h;refine Z mE ?_;refine lg mE λq3 xI=>?_;let⟨F,S⟩:=aq R.length;rw[<-S]at xI;refine H.mks (m:=F) O Aq none rfl rfl rfl xI rfl X X λT V=>?_;refine Z mE ?_;refine H.op rfl (D.eT rfl rfl q2 i2) ?_;refine H.op rfl (D.quiet rfl) ?_;refine og mE (D.iQ rfl rfl E rfl) ?_;refine H.int rfl (D.len rfl) λq FL=>?_;rw[az]at FL;refine Z mE ?_;have aS:F=l.length:=X;rw[aS]at V;refine cr (τ:=List Nat×List (Option Tm)) 10 10 [] (λp=>[(0,.pt 0 6 0 0),(4,.pt 7 4 0 0),(7,.pt 8 4 0 0),(8,.ob 9 4 0 F none),(53,aY O dz false l),(54,iv q),(55,iv p.1)]) [] (λp=>[(0,gO nl ul),(1,gV O N),(2,cI O vs),(3,cU O p.2.1),(4,g7 O sh),(5,cI O ls),(6,g8 O kn),(7,.arr 4 [Aq none] 0 true),(8,.arr 4 [ld O ⟨M,P,Q,R⟩] 0 true),(9,.arr 4 (O.h (List.map Aq) p.2.2) 0 true)]) l.length (λi p=>p.2.1.length=ul/\∃d W:List Tm,d.length=i/\p.2.2=d.map some++List.replicate (l.length-i) none/\B1 (B2 N sh ls m) (l.drop i) p.2.1=some (W,u)/\d++W=g) (up,T) ⟨hu,[],g,rfl,I,I,rfl⟩ (hC:=by exact⟨sq,rfl,alb,rfl,rfl,rfl⟩) ?_;rintro ii i⟨kK,w⟩jY yq⟨lH,d,W,hd,W3,c,z⟩;simp only at jY yq lH W3 c;refine Z mE ?_;refine cn (λb9=>?_) λb9=>?_;have G:i<l.length:=X;let⟨x,hx⟩:∃x,l[i]?=some x:=⟨_,av_ G⟩;let⟨xa,xb⟩:=aA_.1 hx;rw[bN_ xa,xb,B1]at c;split at c;grind;rename_i u2 cl hr;split at c;grind;rename_i A u3 hxt;split at c;grind;rename_i ts1 u4 jP;simp only[oI_,pI_]at c;obtain⟨rfl,rfl⟩:=c;have c1:=C4 (Y:=Y) (O:=O) (s:=⟨N,vs,⟨kK,sh,ls⟩⟩) (kn:=kn) I hr;have ou:u2.length=ul:=by rw[kQ hr,lH]
   have Bv:u3.length=ul:=by grind[Eo]
   simp only at c1;rw[<-ky dL lH,<-ky dL ou]at c1;have c2:=ih ou hxt;have hml:w.length=l.length:=I;refine Z mE ?_;refine og mE (D.bh jY hx) ?_;refine og mE (D.jA c1 rfl (ax_ rfl) (en aC) qD (en aC) (vJ aC .v) .v) ?_;refine og mE (D.jA c2 rfl (ax_ rfl) (en aC) qD (en aC) (vJ aC .v) (Pure.bu (bI A))) ?_;refine H.op rfl (D.Qh rfl rfl jY X) ?_;refine H.JG (f:=Aq) (y:=some A) rfl rfl rfl (qY A).symm (by show(mn A).all db=true;rw[qY (O:=O)];rfl) ahG rfl X λauH ap2=>?_;refine Z mE ?_;refine ag mE λi3 dU=>?_;refine H.bO (i3,u3,auH) [] ⟨i+1,I,X,Bv,d++[A],ts1,I,?_,jP,I⟩ ?_ (by exact⟨sq,rfl,alb,rfl,rfl,rfl⟩);have e:l.length-i=l.length-(i+1)+1:=X;simp only;rw[ap2,W3,e,List.replicate_succ,da_ _ _ I];simp[hd];grind;have G:i=l.length:=X;rw[G,aO_ (aa_ _),B1]at c;simp only[oI_,pI_]at c;obtain⟨rfl,rfl⟩:=c;rw[aG_]at z;have hme:O.h (List.map Aq) w=O.h (List.map mn) g:=by rw[O.eq,O.eq,W3,G,cx_,List.replicate_zero,aG_,ahH,z]
   have hmn:F=(O.h (List.map mn) g).length:=by grind[az]
   refine Z mE ?_;refine H.lQ ?_;refine H.yu (H.C9 (Cv.freeze (t:=8) (k:=9) (rows:=O.h (List.map mn) g) (by rw[<-hme];rfl) rfl (.inr ⟨_,rfl⟩) hmn (aE_ _)) ?_);refine Z mE ?_;refine fq ?_;exact⟨[],.aK (Pure.bu (bI ⟨M,P,Q,g⟩)),gX7,rfl⟩
def ap3:=aD func147 call147
def rR:List Nat:=[9,2,1,8,0,6,7,14,21]
def ap4:=aD func210 call210
def G5:List Nat:=[4,5,0,8,6,7,1,2,11,21,32,36,43,57]
def auI:=aD func81 call81
def g81:List Nat:=[4,5,6,7,1,2,12,0]
def vM(O:Hd)(o:Option (List Bd)):AV:=.aJ [bf O (o.getD []),.v (.bool o.isSome)]
def rS(o:Option (List Bd)):Pure (vM O o):=.aJ (wO (bC _) .v)
theorem mF:aH S (.aJ [.sl true [],.v (.bool false)]) (vM O none):=by refine zf ?_;rw[Option.getD,bf,bF];exact aH.wk
def wS(o:Option (List Bd)):∃e b,vM O o=.aJ [bf O e,.v (.bool b)]/\e=o.getD []/\b=o.isSome:=⟨_,_,rfl,rfl,rfl⟩
theorem Vt(a c:List Tm)(e:List Bd)(ha:a.length<=1099511627776)(q8:c.length<=1099511627776)(A:fA e)(L:e.length+bG a<=100000000000)(g:dS c)(M:∀x∈a,∀(t:Tm) (e:List Bd),e.length+cP x<=100000000000->fA e->t.ok->ab Y 210 [bf O e,tm O x,tm O t] (vM O (qM x t e))):ab Y 147 [bf O e,tl O a,tl O c] (vM O (if a.length=c.length then jz a c e else none)):=by
 let⟨R,j⟩:=aq (if a.length=c.length then jz a c e else none);rw[<-j];refine st ap3 rR (rS _) ?_;repeat' first|refine cg rR (λq=>?_) λq=>?_|refine lg rR λm N=>?_|refine fq ?_
 rw[if_neg X]at j;subst j;exact mF;have P:a.length=c.length:=X;rw[if_pos P]at j;refine cr (τ:=List Bd×Bool) 0 0 [] (λp=>[(0,bf O p.2.1),(1,tl O a),(2,tl O c),(8,.v (.bool p.2.2)),(9,.v (.int .i64 p.1))]) [] (λ_=>[]) c.length (λk p=>fA p.2.1/\p.2.1.length+bG (a.drop k)<=100000000000/\(p.2.2=true->R=jz (a.drop k) (c.drop k) p.2.1)/\(p.2.2=false->R=none/\p.2.1=[])) (e,true) ⟨A,I,λ_=>I,λh=>I⟩ ?_;rintro i k⟨f,ok⟩u hk⟨d,B,r,s⟩;simp only at u d B r s;clear j A L;cases ok with
 |false =>
  let⟨v,C⟩:=s rfl;subst v C;clear r s;refine Z rR ?_;repeat' first|refine cg rR (λq=>?_) λq=>?_|refine lg rR λm N=>?_|refine xG rR ?_|refine fq ?_
  all_goals exact .refl _|true =>
 have n:=r rfl;clear r s;refine Z rR ?_;refine lg rR λq1 qy=>?_;refine cn (λQ=>?_) λQ=>?_;rotate_left;refine Z rR ?_;refine xG rR ?_;refine fq ?_;rw[n,al_ X,jz];exact .refl _;refine Z rR ?_;let⟨x,E,F⟩:=aA (l:=a) (k:=k) X;let⟨y,w,S⟩:=aA (l:=c) (k:=k) X;rw[F,S,jz]at n;rw[F,bG]at B;have z:=M x (aW E) y f X d (g.mem y (aW w));have G:=Vg x y f;let⟨o,T⟩:=aq (qM x y f);rw[<-T]at z n G;let⟨V,W,hr,J,K⟩:=wS (O:=O) o;rw[hr]at z;refine Z rR ?_;refine og rR (D.ind rfl rfl (cD (l:=a) u E) cE) ?_;refine og rR (D.ind rfl rfl (cD (l:=c) u w) cE) ?_;apply a8 rR z;refine ag rR λi4 Fc=>?_;refine H.bO (i4,V,W) [] ?_ ?_ cq;refine⟨k+1,I,X,?_⟩;simp only;cases o with|none =>subst J K;exact⟨λb q=>I,I,λh=>I,λ_=>⟨n,rfl⟩⟩|some f2 =>let⟨v,C⟩:=G f2 d (g.mem y (aW w)) rfl;subst J K;exact⟨v,I,λ_=>n,λh=>I⟩
 grind
theorem ahJ(n:Nat):∀(p t:Tm)(e:List Bd),cP p<=n->e.length+cP p<=100000000000->fA e->p.ok->t.ok->ab Y 210 [bf O e,tm O p,tm O t] (vM O (qM p t e)):=by induction n with|zero=>intro p t e h;have:=fL p;omega|succ n P =>
  intro p t e S T y V z;have A:=MN (Y:=Y) (O:=O) p t V z;let⟨B,W,C⟩:=V.out;let⟨E,jc,F⟩:=z.out;rw[fL]at S T;have o:=Vt (Y:=Y) (O:=O) p.a t.a e B E y X F λx hx t2 G h1 h2 h3=>P x t2 G (by have:=lC x hx;omega) h1 h2 (C.mem x hx) h3;have r:=Vh (Y:=Y) (O:=O) e p.i X;have s:=acN (Y:=Y) (O:=O) e ⟨p.i,t⟩ X;have u:=D_ e p.i;have v:=Ib e p.i;let⟨j,hj⟩:=aq (wK e p.i);rw[<-hj]at r u v;let⟨R,b⟩:=aq (qM p t e);rw[<-b];let⟨k,i,w,a⟩:=p;let⟨f,g,tn,d⟩:=t;rw[qM]at b;simp only at o r s u v B W C E jc F b;clear P S T B W C E jc F hj;let⟨Q,hQ⟩:=aq (if a.length=d.length then jz a d e else none);rw[<-hQ]at o;let⟨ls,lb,Bg,ald,hlb⟩:=wS (O:=O) Q;rw[Bg]at o;let⟨G,wa⟩:=aq (nr e ⟨i,⟨f,g,tn,d⟩⟩);rw[<-wa]at s b;let⟨c,J⟩:=aq (eU ⟨k,i,w,a⟩ ⟨f,g,tn,d⟩==0);rw[<-J]at A;have m:eU ⟨k,i,w,a⟩ ⟨f,g,tn,d⟩=0↔c=true:=by rw[J,beq_iff_eq]
  simp only[m]at b;simp only[show(tn.toList=w.toList)=(w.toList=tn.toList) from propext eq_comm]at b;clear J m;refine st ap4 G5 (rS _) ?_;repeat' first|apply a8 G5 o|refine bg G5 (pl A) (λ_=>?_) λ_=>?_|refine ig G5 (pl r) λ_ _=>?_|apply a8 G5 s|refine cg G5 (λhb=>?_) λhb=>?_|refine fq ?_
  all_goals clear o s r A
  all_goals first
   |(have h:R=none:=by rw[b];simp_all
     rw[h];exact mF)
   |(have h:R=Q:=by rw[b,hQ];simp_all
     rw[h,Bg];exact .refl _)
   |(have h:R=some e:=by rw[b];simp_all
     rw[h];exact .refl _)
   |(have h0:mQ e i=none:=v X;have h:R=some G:=by rw[b,if_neg X,if_pos X,h0]
     rw[h];exact .refl _)|skip
  let⟨q,⟨xv,K,L,M,N⟩,e1,e4,e3⟩:=u X;have hs:=MN (Y:=Y) (O:=O) ⟨K,L,M,N⟩ ⟨f,g,tn,d⟩ (y.Ff e3) z;rw[if_neg X,if_pos X,e3]at b;simp only at b;let⟨c2,m⟩:=aq (eU ⟨K,L,M,N⟩ ⟨f,g,tn,d⟩==0);rw[<-m]at hs;have zZ:eU ⟨K,L,M,N⟩ ⟨f,g,tn,d⟩=0↔c2=true:=by rw[m,beq_iff_eq]
  simp only[zZ]at b;clear m zZ u v y;refine og G5 (D.ind rfl rfl (eZ (l:=e) (k:=q) X e4) (ec λ_=>rfl)) ?_;repeat' first|refine bg G5 (pl hs) (λ_=>?_) λ_=>?_|refine fq ?_
  all_goals first
   |(have h:R=none:=by rw[b];simp_all
     rw[h];exact mF)
   |(have h:R=some e:=by rw[b];simp_all
     rw[h];exact .refl _)
def ahK(p t:Tm)(e:List Bd)(a:e.length+cP p<=100000000000)(b:fA e)(c:p.ok)(d:t.ok):ab Y 210 [bf O e,tm O p,tm O t] (vM O (qM p t e)):=ahJ _ p t e (aa_ _) a b c d
theorem ale(x y:At)(e:List Bd)(i:e.length+bG x.a<=100000000000)(j:fA e)(d:x.ok)(f:y.ok):ab Y 81 [bf O e,at_ O x,at_ O y] (vM O (mW x y e)):=by
 have b:=Vt (Y:=Y) (O:=O) x.a y.a e d.1 f.1 j i f.2 λz m t o p q r=>ahK z t o p q (d.2.mem z m) r;let⟨n,a⟩:=x;let⟨s,g⟩:=y;let⟨R,c⟩:=aq (mW ⟨n,a⟩ ⟨s,g⟩ e);rw[<-c];rw[mW]at c;simp only at b c;let⟨Q,k⟩:=aq (if a.length=g.length then jz a g e else none);rw[<-k]at b;let⟨ls,A,l,u,v⟩:=wS (O:=O) Q;rw[l]at b;clear i j d f;refine st auI g81 (rS _) ?_;repeat' first|apply a8 g81 b|refine cg g81 (λw=>?_) λw=>?_|refine fq ?_
 all_goals clear b
 all_goals first
  |(have h:R=none:=by rw[c];simp_all
    rw[h];exact mF)
  |(have h:R=Q:=by rw[c,k];simp_all
    rw[h,l];exact .refl _)
def ap5:=aD func220 call220
def auJ:List Nat:=[2,0]
def ap6:=aD func221 call221
def auK:List Nat:=[2,0]
def ap7:=aD func268 call268
def auL:List Nat:=[2,0]
def ap8:=aD func273 call273
def auM:List Nat:=[4,0,1]
def ap9:=aD func219 call219
def ac6:List Nat:=[0,1,5,4]
def auN:=aD func85 call85
def Fl:List Nat:=[8,2,7,6,12,0,1]
def ap_:=aD func152 call152
def Ep:List Nat:=[5,6,9,0,1,7,2,10,20,27,36,45]
def auO:=aD func38 call38
def g38:List Nat:=[5,6,2,0,1]
theorem R9(l:List Tm):aY O (ld O) false l=tl O l:=by rw[tl,bF,bF,show ld O=mn from funext λx=>(qY x).symm]
theorem aae{k:Int}{n:ByteArray}{a:List Tm}{b:AV}(h:aH S b (tl O a)):aH S (.agg [.v (.int .i64 k),.v (.int .i64 i),.v (.string n),b]) (tm O ⟨k,i,n,a⟩):=by refine .agg rfl λi a e c d=>?_;match i,c,d with|0,c,d=>cases oJ_ c;cases oJ_ d;exact .refl _|1,c,d=>cases oJ_ c;cases oJ_ d;exact .refl _|2,c,d=>cases oJ_ c;cases oJ_ d;exact .refl _|3,c,d=>cases oJ_ c;cases oJ_ d;exact h
theorem MO:aH S (.sl true []) (tl O []):=by rw[tl,bF];exact aH.wk
theorem qn:∀l:List Tm,l.length<=bG l|[]=>aE_ _|x::l=>by rw[bG,aC_];have:=qn l;have:=fL x;omega
theorem afQ(h:td t):pb t.a:=by let⟨k,i,n,a⟩:=t;rw[td]at h;exact h.2
theorem afR(h:td t):t.k=1->0<=t.i/\t.i<=1099511627776:=by let⟨k,i,n,a⟩:=t;rw[td]at h;exact h.1
def W_(i:Int):Tm:=⟨0,i,⟨#[]⟩,[]⟩
theorem alf(v:Int):ab Y 220 [iv v] (tm O (vr v)):=by
 refine st ap5 auJ (bI _) ?_;repeat' first|refine fq ?_
 exact Z_
theorem alg(v:Int):ab Y 221 [iv v] (tm O (W_ v)):=by
 refine st ap6 auK (bI _) ?_;repeat' first|refine fq ?_
 exact aae MO
theorem alh(v:Int):ab Y 268 [iv v] (tm O (W_ v)):=by
 refine st ap7 auL (bI _) ?_;repeat' first|refine fq ?_
 exact aae MO
theorem ali(n:ByteArray)(a:List Tm):ab Y 273 [.v (.string n),tl O a] (tm O ⟨2,0,n,a⟩):=by
 refine st ap8 auM (bI _) ?_;repeat' first|refine fq ?_
 exact .refl _
theorem ac7(f v:Int)(c:0<=f)(d:0<=v)(a:f<=4611686018427387903)(e:v<=4611686018427387903):ab Y 219 [iv f,iv v] (.v (.bool false)):=by
 refine st ap9 ac6 .v ?_;repeat' first|refine cg ac6 (λb=>?_) λb=>?_|refine ag ac6 λ_ _=>?_|refine fq ?_
 all_goals first|omega|exact aL rfl
theorem Jb{f:Tm->Tm}(a:List Tm)(z:a.length<=100000000000)(o:∀x∈a,ab Y 152 [bf O env,iv fr,tm O x] (tm O (f x))):ab Y 85 [bf O env,iv fr,tl O a] (tl O (a.map f)):=by
 let⟨R,g⟩:=aq (a.map f);rw[<-g];refine st auN Fl (c9 _) ?_;refine cr (τ:=List Tm×Nat) 0 1 [] (λp=>[(0,bf O env),(1,.v (.int .i64 fr)),(2,tl O a),(7,.gr 0 4 p.2.2),(8,.v (.int .i64 p.1))]) [] (λp=>[(0,.arr 4 (O.h (List.map (ld O)) p.2.1) 0 false)]) a.length (λk p=>R=p.2.1++(a.drop k).map f/\p.2.2=p.2.1.length/\p.2.1.length=k) ([],0) ⟨I,rfl,rfl⟩ ?_;rintro i k⟨Mx,len⟩h B⟨b,c,q⟩;simp only at h b c q;clear g;refine Z Fl ?_;by_cases r:k<a.length
 ·let⟨x,j,s⟩:=aA r;have n:=o x (aW j);rw[s,aF_]at b;let⟨d,t⟩:=aq (f x);rw[<-t]at n b;repeat' first|refine og Fl (D.ind rfl rfl (cD (l:=a) h j) cE) ?_|apply a8 Fl n|refine H.app (x:=d) (f:=ld O) rfl rfl rfl c (λ_=>rfl) rfl rfl rfl rfl X λu v C E=>?_;refine Z Fl ?_|refine cg Fl (λe=>?_) λe=>?_|refine lg Fl λm w=>?_|refine ag Fl λ_ _=>?_|refine xG Fl ?_|refine fq ?_
  all_goals first|omega|refine H.bO (_,u,v) [(0,1)] ?_ ?_ (by exact⟨sq,rfl,⟨.inl ⟨_,rfl,.same (kG λx _ a y=>ue x a y)⟩,trivial⟩,rfl,rfl,rfl⟩);grind;simp only;omega
 ·skip;repeat' first|refine cg Fl (λe=>?_) λe=>?_|refine lg Fl λm w=>?_|refine xG Fl ?_|refine fq ?_
  all_goals first|omega|rw[b,al_ X,aR_,aG_,<-R9];exact aH.grow rfl c
theorem Ud(E:env.length<=1099511627776)(h0:0<=fr)(h1:fr<=1099511627776)(n:Nat):∀x:Tm,cP x<=n->n<=100000000000->td x->ab Y 152 [bf O env,iv fr,tm O x] (tm O (ly env fr x)):=by induction n with|zero=>intro x h;have:=fL x;omega|succ n u =>
  intro x v F p;rw[fL]at v;have G:=qn x.a;have d:=Jb (Y:=Y) (O:=O) (f:=ly env fr) (env:=env) (fr:=fr) x.a X λy w=>u y (by have:=lC y w;omega) X ((afQ p).mem y w);have e:=Vh (Y:=Y) (O:=O) env x.i E;have g:=D_ env x.i;have m:=Ib env x.i;let⟨j,z⟩:=aq (wK env x.i);rw[<-z]at e g m;have c:=afR p;have r:=λh:x.k=1=>ac7 (Y:=Y) fr x.i h0 (c h).1 X (by have:=(c h).2;omega);have o:=alf (Y:=Y) (O:=O) (fr+x.i);have t:=alg (Y:=Y) (O:=O) x.i;let⟨R,b⟩:=aq (ly env fr x);rw[<-b];let⟨k,i,B,a⟩:=x;rw[ly,pQ]at b;simp only at d e g m r o t b c;clear u v F p z G;let⟨A,J⟩:=aq (a.map (ly env fr));rw[<-J]at d b;let⟨s,K⟩:=aq (fr+i);rw[<-K]at o b;refine st ap_ Ep (bI _) ?_;repeat' first|apply a8 Ep d|refine ig Ep (pl e) λ_ _=>?_|apply a8 Ep (r (by assumption))|apply a8 Ep t|refine cG λC P=>?_;obtain rfl:C=s:=X;refine Z Ep ?_;apply a8 Ep o|refine cg Ep (λL=>?_) λL=>?_|refine fq ?_
  all_goals clear d e r t o
  all_goals first
   |(have h:R=⟨2,0,B,A⟩:=by rw[b,if_neg X,if_neg X,if_pos X]
     rw[h];exact .refl _)
   |(have h0:mQ env i=none:=m X;have h:R=vr C:=by rw[b,if_pos X,h0];rfl
     rw[h];exact .refl _)
   |(have h:R=W_ i:=by rw[b,if_neg X,if_pos X];rfl
     rw[h];exact .refl _)
   |(have h:R=⟨k,i,B,a⟩:=by rw[b,if_neg X,if_neg X,if_neg X]
     rw[h];exact .refl _)|skip
  let⟨q,⟨Q,S,T,V,W⟩,e1,M,N⟩:=g X;rw[if_pos X,N]at b;simp only at b;clear g m;refine og Ep (D.ind rfl rfl (eZ (l:=env) (k:=q) X M) (ec λ_=>rfl)) ?_;repeat' first|refine fq ?_
  all_goals rw[b];exact .refl _
def Xb(a:env.length<=1099511627776)(h0:0<=fr)(h1:fr<=1099511627776)(x:Tm)(b:cP x<=100000000000)(c:td x):ab Y 152 [bf O env,iv fr,tm O x] (tm O (ly env fr x)):=Ud a h0 h1 _ x (aa_ _) b c
theorem Jd(c:env.length<=1099511627776)(h0:0<=fr)(h1:fr<=1099511627776)(g:Gl)(i:bG g.a<=100000000000)(d:pb g.a):ab Y 38 [bf O env,iv fr,gl O g] (gl O (gz env fr g)):=by
 have b:=Jb (Y:=Y) (O:=O) (f:=ly env fr) (env:=env) (fr:=fr) g.a (by grind[qn]) λy e=>Xb c h0 h1 y (by have:=lC y e;omega) (d.mem y e);rw[gz];let⟨o,n,a⟩:=g;simp only at b⊢;let⟨A,h⟩:=aq (a.map (ly env fr));rw[<-h]at b⊢;clear h d i c;refine st auO g38 (iX _) ?_;repeat' first|apply a8 g38 b|refine fq ?_
 exact .refl _
end
section
variable{r:AV}
theorem D.at5{k len:Nat}{lo hi:Option QO}{l h:Int}{fz:Nat}(a:x.ev U.tm=.ob k sz off len none)(v:S.get k=some (.arr sz rows fz ex))(f:m=sz)(y:ug U.tm lo 0=some l)(z:ug U.tm hi len=some h)(h0:0<=l)(h1:l<h)(h2:off+h<=rows.length):D P Y false (.slice (.sl m) x lo hi none) U S (.ob k sz (off+l.toNat) (h.toNat-l.toNat) none) S:=D.run λn o B=>by
 obtain⟨t,u,C,E,i,F,rfl,rfl,rfl,d,⟨b,_⟩|⟨e,V,b,j,G⟩⟩:=C3 B;grind;injection b with b;subst b f;have d:i=none:=by cases i with|none=>rfl|some _=>cases d
 subst d;rw[aU]at a;refine bj.quiet λA g q w J p=>?_;have a:=p.ev u;rw[show U.ev u=_ from ‹U.ev u=_›]at a;let⟨c,K,r,W,hp,L,M⟩:=kp a;let⟨_,_,cs,ty,p1,p2,p3,_⟩:=J.cY k _ v r;have mV:=L rfl;have N:=lP (P:=P) (isSl:=true) (len:=len) (cap:=c) (w:=w) p (uO y) (uO z) h0 X X;have Q:¬c=l.toNat:=X;have R:(Instr.slice t (q.eval u) (C.map q.eval) (E.map q.eval) (Option.map q.eval none)).run P w=.ok (.slice (some ⟨g.ob k,(off+l.toNat)*m,none⟩) (h.toNat-l.toNat) (c-l.toNat)) w:=by simp[Instr.slice,K,run_underlying j,N,cX G,Q,iE,aM_]
 have T:(execOp q.eval o).run P w=.ok (.value (.slice (some ⟨g.ob k,(off+l.toNat)*m,none⟩) (h.toNat-l.toNat) (c-l.toNat))) w:=by simp only[execOp,F,Sem.run_bind,sD j λk e h=>I,R,Result.andThen_ok];rfl
 exact⟨_,T,.ob r (λm f=>I) X (λ_=>X) X⟩
theorem Xc{a:QO}{o:Op}(h:res P.toTables o=some (.Sa z a)):∃c t u e b,o=.call c/\c.callee=.builtin .clear/\c.argTypes=#[t]/\c.args=#[u]/\a=qo u/\P.underlying t=some (.slice e)/\eB P e=some b/\z=b.cells.toList.map cd:=by cases o<;>simp only[res,cN,lr]at h<;>(repeat' split at h)<;>(try cases h);exact⟨_,_,_,_,_,rfl,I,toList_one (by assumption),toList_one I,rfl,by assumption,I,rfl⟩
theorem D.ajY{k len fz:Nat}{cx:Option Nat}(G:x.ev U.tm=.ob k sz off len cx)(J:S.get k=some (.arr sz rows fz ex))(hz:z.length=sz)(mO:B6 db z=true)(hp:off+len<=rows.length)(hf:fz<=off)(h0:0<len):D P Y false (.Sa z x) U S (.aJ []) (S.set k (some (.arr sz (rows.take off++List.replicate len z++rows.drop (off+len)) fz ex))):=D.run λn o K=>by
 obtain⟨c,t,u,e,b,ho,hc,ny,cF,rfl,hu,B,rfl⟩:=Xc K;rw[aU]at G;intro A g q w L hA;have M:=hA.ev u;rw[G]at M;let⟨cc,C,N,_,_,_,hle⟩:=kp M;let⟨k2,k3,Q,ty,R,p2,p3,p4,p5,p6,p7⟩:=L.cY k _ J N;have T:b.cells.size=sz:=I;let⟨d,m⟩:=aq (Builtin.zeroCells b.cells len).toList;have V:d.length=(List.replicate len (b.cells.toList.map cd)).length*sz:=by rw[m,bm_,size_zeroCells,bA_,T]
 have qJ:∀i j,i<len->j<sz->∀v,b.cells[j]?=some v->d[i*sz+j]?=some v:=by
  intro i j y s v f;have au:i*sz+j<len*sz:=nw y s;have C:(i*sz+j)%b.cells.size=j:=by rw[T,bW_,cd_];exact ce_ s
  rw[m,bf_];unfold Builtin.zeroCells;rw[bV_,cc_,if_pos I];simp only[aK_,C];rw[getElem!_pos b.cells j X,<-f,aI_ X]
 let⟨hE,W⟩:=L.MC (p:=off) (G2:=List.replicate len (b.cells.toList.map cd)) (J9:=d) J N R (λr K=>I) V λi row j a y ha=>by grind[nY] I hf;rw[bA_]at W;have E:∀v∈d,v.oneCell'=true:=by intro v f;rw[m]at f;have f:=cD_.1 f;unfold Builtin.zeroCells at f;obtain⟨i,y,rfl⟩:=Array.mem_map.1 f;have mf:=Array.mem_range.1 y;have bS:0<b.cells.size:=I;have s:i%b.cells.size<b.cells.size:=Nat.mod_lt _ bS;rw[getElem!_pos b.cells _ s];have hm:cd b.cells[i%b.cells.size]∈b.cells.toList.map cd:=aB_.2 ⟨_,cD_.2 (Array.getElem_mem s),rfl⟩;exact yS (g:=g) (w:=w) (rK mO _ hm) (nY _)
 have jF:off*sz+0+d.length<=Q.size:=by rw[V,bA_,p2,bz_,<-aM_];exact aT_ sz X
 have F:=run_storeCells_at (P:=P) (g.ob k) (off*sz) ty d 0 Q w R jF E;rw[bz_]at F;refine⟨.tuple #[],_,g,.inl ?_,.aJ rfl λi a x h=>I,W,hE⟩;have dB:(execOp q.eval o).run P w=((Builtin.clear_ #[t] o.type #[q.eval u]).run P w).andThen λv w'=>.ok (.value v) w':=by simp[execOp,ho,resolve,hc,ny,cF,invoke,builtin]
 rw[dB,C];obtain⟨cV,rfl⟩:∃l,len=l+1:=⟨len-1,X⟩;rw[m]at F;simp[Builtin.clear_,run_underlying hu,pP B,F,m]
theorem zv9(w:World)(t t2 ty e:TypeId)(i:TypeInfo)(z:Value){k:IntKind}(g:P.underlying t=some (.slice e))(l:P.underlying t2=some (.int kk))(hi:P.info? e=some i)(m:i.zero=some z)(B:Option Addr)(n:Nat)(hs:0<i.size)(h0:0<n)(o:(n:Int)<=9223372036854775807)(p:n*i.bytes<=281474976710656):(Builtin.append_ #[t,t2] ty #[.slice B 0 0,.int k n]).run P w =.ok (.slice (some ⟨w.heap.size,0,none⟩) n (grownCap w n 0 e)) (w.drew.alloc (.cells (Builtin.zeroCells z.cells n++Builtin.zeroCells z.cells (grownCap w n 0 e-n)) e)):=by
 have q:n≠0:=X;have r:i.size≠0:=X;have a:¬9223372036854775807<(n:Int):=X;have c:¬281474976710656<Builtin.nextslicecap n 0*i.bytes:=by rw[nextslicecap_zero h0];omega
 have s:IntKind.i64.wrap (n:Int)=n:=by rw[IntKind.wrap_i64];omega
 have d:¬(n:Int)<0:=X;have f:¬281474976710656<(n:Int)*i.bytes:=I;have u:∀w:World,(Builtin.firstCells i.size 0 (.slice B 0 0)).run P w=.ok #[] w:=λw=>by cases B with|none=>simp[Builtin.firstCells]|some b=>simpa using run_firstCells_some (P:=P) (w:=w) i.size 0 b 0 0 [] aB λj v h=>I
 simp[Builtin.append_,run_underlying g,run_underlying l,sizeOf,typeInfo,zeroValue,hi,m,asInt,asIntOf,s,d,f,q,r,a,c,Question.forced,u,newRow,grownCap];intro h;rcases Nat.mul_eq_zero.1 h with h|h;omega;omega
theorem Sb{a b:QO}{o:Op}(h:res P.toTables o=some (.MP z MB a b)):∃c t t2 u v e kk f sz,o=.call c/\c.callee=.builtin .append/\c.argTypes=#[t,t2]/\c.args=#[u,v]/\a=qo u/\b=qo v/\P.underlying t=some (.slice e)/\P.underlying t2=some (.int kk)/\eB P e=some f /\eL P e=some sz/\k_ P e=some MB/\f.cells.size=sz/\0<MB/\z=f.cells.toList.map cd:=by have d:∀{g:Type}{x y:g}{l:Array g},l.toList=[x,y]->l=#[x,y]:=λ{g x y l}h=>I;cases o<;>simp only[res,cN,gH,qE,lr,oo]at h<;>(repeat' split at h)<;>(try cases h);rename_i i;simp only[as_]at i;exact⟨_,_,_,_,_,_,_,_,_,rfl,I,d (by assumption),d I,rfl,rfl,xL (by assumption),by assumption,I,I,I,aS_ i.1,nq i.2,rfl⟩
theorem D.aqa{a b:QO}{k:IntKind}{m:Int}(h1:a.ev U.tm=.sl true [])(h2:b.ev U.tm=.v (.int k m))(h0:0<m)(h4:m*MB<=35184372088832)(R:0<z.length):D P Y false (.MP z MB a b) U S (.ob S.nx z.length 0 m.toNat none) (S.new (.arr z.length (List.replicate m.toNat z) 0 false)):=D.run λn o l=>by
 obtain⟨c,t,t2,u,v,e,kk,f,sz,T,V,W,cF,rfl,rfl,ht,jc,hzv,hs,Bb,r,lq,rfl⟩:=Sb l;have C:(f.cells.toList.map cd).length=sz:=I;rw[C]at R⊢;rw[aU]at h1 h2;intro A g q w E F;have G:=F.ev u;have K:=F.ev v;rw[h1]at G;rw[h2]at K;let⟨B,cc,e1,_,mL⟩:=vu G;have zS:cc=0:=I;subst zS;have e2:=cC K;let⟨i,hi,bS⟩:=oA hs;have uY:i.zero=some f:=by grind[eB]
 have Bc:i.bytes=MB:=by grind[k_]
 obtain⟨d,rfl⟩:∃d:Nat,m=d:=⟨m.toNat,X⟩;have q8:0<d:=X;have s:d*MB<=35184372088832:=I;have hmul:d<=35184372088832:=az_ (cu_ _ lq) s;have dB:=zv9 (P:=P) w t t2 o.type e i f (k:=k) ht jc hi uY B d X q8 X I;have Gs:=grownCap_ge w d 0 e;let⟨UY,NM⟩:=E.drew;have vt:∀q,¬g.fz w.heap.size q:=λq hf=>absurd (E.dN _ _ hf) (bT_ _);let⟨hE,dG⟩:=NM.new (.cells (Builtin.zeroCells f.cells d++Builtin.zeroCells f.cells (grownCap w d 0 e-d)) e) (.arr sz (List.replicate d (f.cells.toList.map cd)) 0 false) (grownCap w d 0 e) (λJ=>aB) (λhL=>by
  refine⟨_,e,ep,?_,I,λh=>I,λp row l=>?_,aE_ _,λq=>⟨λh=>absurd h (vt q),λh=>I⟩⟩;simp only[cR_,size_zeroCells,r];rw[<-aM_];congr 1;omega;obtain⟨L,rfl⟩:=aA_.1 l;simp only[bA_]at L;simp only[cS_];refine⟨C,λj b' M=>?_⟩;simp only[aX_,ba_]at M;obtain⟨y,hy,rfl⟩:=M;have N:j<sz:=I;refine⟨y,?_,nY y⟩;have au:p*sz+j<d*sz:=nw L N;have Q:j<f.cells.size:=X;have e3:(p*sz+j)%f.cells.size=j:=by rw[r,bW_,cd_];exact ce_ N
  rw[bR_ (by rw[size_zeroCells,r];exact au)];unfold Builtin.zeroCells;rw[bV_,cc_,if_pos I];simp only[aK_,e3];rw[getElem!_pos f.cells j Q,<-hy,bf_,aI_ Q]);have x:(execOp q.eval o).run P w=.ok (.value (.slice (some ⟨w.heap.size,0,none⟩) d (grownCap w d 0 e))) (w.drew.alloc (.cells (Builtin.zeroCells f.cells d++Builtin.zeroCells f.cells (grownCap w d 0 e-d)) e)):=by
  have x:(execOp q.eval o).run P w=((Builtin.append_ #[t,t2] o.type #[q.eval u,q.eval v]).run P w).andThen λv w'=>.ok (.value v) w':=by simp[execOp,T,resolve,V,W,cF,invoke,builtin]
  rw[x,e1,e2];simp only[bg_];rw[dB];rfl
 refine⟨_,_,_,.inl x,?_,dG,UY.trans hE⟩;have:=aN.ob (g:=g.new S.nx w.drew.heap.size (grownCap w d 0 e)) (w:=w.drew.alloc (.cells (Builtin.zeroCells f.cells d++Builtin.zeroCells f.cells (grownCap w d 0 e-d)) e)) (k:=S.nx) (sz:=sz) (off:=0) (len:=d) (c:=grownCap w d 0 e) (cx:=none) (.inr rfl) (λm h=>I) (by rw[aH_];exact bX_ (aG _ _ _).symm) (λ_=>by rw[aH_];exact(aG _ _ _).symm) Gs;rw[show(g.new S.nx w.drew.heap.size (grownCap w d 0 e)).ob S.nx=w.heap.size from aG _ _ _,bc_]at this;exact this
theorem ahL{a:QO}{o:Op}(h:res P.toTables o=some (.cap a)):∃c t u e,o=.call c/\c.callee=.builtin .cap/\c.argTypes=#[t]/\c.args=#[u]/\a=qo u/\P.underlying t=some (.slice e):=by cases o<;>simp only[res,cN]at h<;>(repeat' split at h)<;>(try cases h);exact⟨_,_,_,_,rfl,I,toList_one (by assumption),toList_one I,rfl,by assumption⟩
def alm:AV->Option Nat|.sl true rows=>some rows.length|.ob _ _ _ _ (some c)=>some c|_=>none
theorem D.cap(a:alm (x.ev U.tm)=some m):D P Y false (.cap x) U S (.v (.int .i64 m)) S:=D.run λn o b=>by
 obtain⟨c,t,u,e,d,f,h,i,rfl,j⟩:=ahL b;rw[aU]at a;refine bj.quiet λA g q w r k=>?_;have s:=k.ev u;have key:∃B l,q.eval u=.slice B l m:=by unfold alm at a;split at a;grind[vu];grind[kp];grind
 let⟨B,l,p⟩:=key;refine⟨_,?_,.v⟩;simp[execOp,d,resolve,f,h,i,invoke,builtin,p,Builtin.cap_,run_underlying j,goInt]
end
def pF{T:Type}(f:T->List AV)(z:List AV)(m:Nat)(l:List T):List (List AV):=l.map f++List.replicate (m-l.length) z
section
variable{rd:Bool}
theorem ac8{l:List T}(h:l.length<=m):(pF f z m l).length=m:=by grind[pF]
theorem H.auU{a b:QO}(O:Hd)(f:T->List AV)(c:bD U.tm gg=some true)(h1:a.ev U.tm=.v (.int .i64 0))(h2:b.ev U.tm=.v (.int .i64 i))(hi:i=m)(hs:z.length=sz)(d:m*MB<=35184372088832)(h6:m<=9223372036854775807)(kk:∀Mx:List T,Mx=[]->H P Y rd n Q (.bk false l K) (bW dd U (.ob S.nx sz 0 0 none)) (S.new (.arr sz (O.h (pF f z m) Mx) 0 true))):H P Y rd n Q (.bk false (⟨dd,gg,.sw z MB a b⟩::l) K) U S:=by have h:=kk [] rfl;rw[O.eq]at h;subst hs hi;exact H.op (i:=⟨dd,gg,.sw z MB a b⟩) c (by simpa[pF] using D.akl (P:=P) (Y:=Y) (z:=z) (MB:=MB) (S:=S) h1 h2 X X X X) (by grind[pF])
theorem alo{U:Type}{g:Nat->U}{k:Nat}{o:U}(h:g k=o):bL g k o=g:=by grind[aG,aP]
theorem H.alp{k len:Nat}{ex':Bool}{a b:QO}(p:bD U.tm gg=some true)(h1:a.ev U.tm=.ob k sz 0 len none)(c:S.get k=some (.arr sz (O.h (pF f z m) Mx) 0 ex))(q:len=Mx.length)(d:b.ev U.tm=aY O f ex' ys)(u:∀x,(f x).length=sz)(v:∀x,(f x).all db=true)(w:Mx.length+ys.length<=m)(kk:∀j r,j=Mx++ys->r=j.length->H P Y rd n Q (.bk false l K) (bW dd U (.ob k sz 0 r none)) (S.set k (some (.arr sz (O.h (pF f z m) j) 0 ex)))):H P Y rd n Q (.bk false (⟨dd,gg,.append sz MB a b⟩::l) K) U S:=by rw[bF]at d;have h:=kk _ _ rfl rfl;rw[O.eq]at h c;cases ys with
 |nil =>
  rw[aG_]at h;have e:S.set k (some (.arr sz (pF f z m Mx) 0 ex))=S:=by cases S with|mk g x=>show(⟨bL g k _,x⟩:ah)=⟨g,x⟩;rw[alo c]
  rw[e]at h;subst q;exact H.op (i:=⟨dd,gg,.append sz MB a b⟩) p (D.Wu h1 c (by rw[d];exact jk)) h|cons y ys =>
  have A:=ac8 (f:=f) (z:=z) (show Mx.length<=m by omega);have B:(f y::List.map f ys).length=(y::ys).length:=aB;have o:=D.auo (P:=P) (Y:=Y) (MB:=MB) (x:=f y) (G2:=List.map f ys) h1 c (by rw[d];exact jk) (aE_ _) I λrow E=>I;have F:(pF f z m Mx).take len=Mx.map f:=by grind[pF]
  have G:(pF f z m Mx).drop (len+(f y::List.map f ys).length)=List.replicate (m-(Mx++y::ys).length) z:=by rw[pF,q,List.drop_append,al_ aB,aL_,List.drop_replicate];congr 1;simp;omega
  have s:(pF f z m Mx).take len++f y::List.map f ys++(pF f z m Mx).drop (len+(f y::List.map f ys).length)=pF f z m (Mx++y::ys):=by grind[pF]
  rw[s]at o;have t:len+(f y::List.map f ys).length=(Mx++y::ys).length:=I;rw[t]at o;exact H.op (i:=⟨dd,gg,.append sz MB a b⟩) p o h
theorem aH.auV{k len:Nat}(c:S.get k=some (.arr sz (O.h (pF f z m) Mx) 0 ex))(n:len=Mx.length):aH S (.ob k sz 0 len none) (aY O f false Mx):=by
 rw[bF];rw[O.eq]at c;have key:∀i row,(Mx.map f)[i]?=some row->(pF f z m Mx)[i]?=some row:=λi row h=>by unfold pF;rw[bi_ (aA_.1 h).1];exact h
 refine .ob c (by simp[pF];omega) I (λi row g b d=>?_) λi j row g a o b d l e=>?_;grind;rw[aH_,key i _ d]at b;rw[oJ_ b,l]at e;rw[oJ_ e];exact .refl _
theorem bm.yl{f:QO}{aZ9:List QO}{k:Nat}{args:List AV}{b:Bool}{J e:iG}(h:f.ev U.tm=.yl k)(i:aZ9.map (·.ev U.tm)=args)(A:S.get k=some (.fo J))(j:∀(T:ah) (k:Nat),T.get k=some (.fo J)->EV P Y k args T (.v (.bool b)) (T.set k (some (.fo e)))):bm P Y B (.call f aZ9) U S (.v (.bool b)) ⟨[(k,.fo J)],[(k,some (.fo e))],false⟩:=by
 intro n o l;let⟨c,u,m,a,r,d⟩:=mC l;refine⟨λs=>by grind[sV,qv],λp s=>I,λT _ v _=>?_⟩;have w:T.get k=some (.fo J):=v _ List.mem_cons_self;have g:∀q∈(.call c:Op).operands,(U.only (dW o)).ev q=U.ev q:=λq x=>gL λt C=>gM I;have y:(U.only (dW o)).ev u=.yl k:=by rw[g u (show u∈c.operands by simp[Call.operands,a]),<-h,r,aU]
 have z:c.args.toList.map (U.only (dW o)).ev=args:=by rw[<-i,d,jL];exact aQ_ λq x=>g q (show q∈c.operands by simp[Call.operands,a];exact .inr I)
 rw[gQ];exact MQ m a y (by rw[z];exact j T k w)
end
section
variable{r:AV}
theorem D.auW{hi:QO}(M:x.ev U.tm=.sl true [])(v:hi.ev U.tm=.v (.int ik 0)):D P Y false (.slice (.sl m) x none (some hi) none) U S (.sl true []) S:=D.run λn o N=>by
 obtain⟨t,u,y,z,C,Q,rfl,d,E,f,⟨b,_⟩|⟨e,T,b,i,F⟩⟩:=C3 N;grind;injection b with b;subst b;have f:C=none:=by cases C with|none=>rfl|some _=>cases f
 subst f;have d:y=none:=by cases y with|none=>rfl|some _=>cases d
 subst d;obtain⟨a,rfl,rfl⟩:∃a,z=some a/\hi=qo a:=by cases z with|none=>cases E|some a=>exact⟨a,rfl,oJ_ E⟩
 rw[aU]at M v;refine bj.quiet λA g q w V j=>?_;have G:=j.ev u;rw[show U.ev u=_ from ‹U.ev u=_›]at G;let⟨B,c,J,_,W⟩:=vu G;cases(I:c=0);have K:=j.ev a;rw[show U.ev a=_ from ‹U.ev a=_›]at K;have e2:=cC K;have p:=lP (P:=P) (isSl:=true) (len:=0) (cap:=0) (w:=w) (lo:=none) (hi:=some a) (l:=0) (h:=0) j rfl (by simp[mz,v]) X X X;simp only[bs_,aK_,cp_]at p;have r:∃s,(Instr.slice t (q.eval u) (Option.map q.eval none) (Option.map q.eval (some a)) (Option.map q.eval none)).run P w=.ok (.slice s 0 0) w:=by cases B with|none=>exact⟨none,by simp[Instr.slice,J,run_underlying i,p,cX F]⟩|some B=>exact⟨some B,by simp[Instr.slice,J,run_underlying i,p,cX F]⟩
 let⟨s,r⟩:=r;have R:(execOp q.eval o).run P w=.ok (.value (.slice s 0 0)) w:=by simp only[execOp,Q,Sem.run_bind,sD i λk e h=>I,r,Result.andThen_ok];rfl
 exact⟨_,R,.nil λ_=>rfl⟩
theorem D.acp{dr:Bool}{k len:Nat}{cx:Option Nat}{hi:QO}{j:Int}(a:x.ev U.tm=.ob k sz off len cx)(b:m=sz)(c:hi.ev U.tm=.v (.int ik j))(h0:0<=j)(h1:j<=len):D P Y dr (.slice (.sl m) x none (some hi) none) U S (.ob k sz off j.toNat cx) S:=D.Rt λt h=>by rcases h with⟨h,_⟩|⟨e,g,h,d,f⟩;grind;injection h with h;subst h b;simp only[a,bs_,aK_,c,qu,d,mz];exact⟨f,h0,h1,rfl,rfl⟩
end
section
attribute [local irreducible] ao aF D H
theorem Ue(a b:List Gl)(z:a.length<=1099511627776)(A:b.length<=1099511627776)(f:∀x∈a,zO x)(s:∀x∈b,zO x):ab Y 18 [dJ O a,dJ O b] (.v (.bool (IK kC a b))):=by
 let⟨R,h⟩:=aq (IK kC a b);rw[<-h];refine st auu Aj .v ?_;repeat' first|refine cg Aj (λe=>?_) λe=>?_|refine lg Aj λm j=>?_|refine fq ?_
 grind[YI,aL];have t:a.length=b.length:=X;refine bE 0 0 [] (λi=>[(0,dJ O a),(1,dJ O b),(5,.v (.int .i64 i))]) [] (λ_=>[]) a.length (λk=>R=IK kC (a.drop k) (b.drop k)) I λi k n C c=>?_;clear h;refine Z Aj ?_;by_cases u:k<a.length
 ·let⟨x,o,v⟩:=aA u;let⟨y,p,w⟩:=aA (l:=b) (k:=k) X;have g:=f x (aW o);have d:=s y (aW p);rw[v,w,IK]at c;have E:=iX (O:=O) x;have hyp:=iX (O:=O) y;have q:=Sc (Y:=Y) (O:=O) x y ⟨g.1.len,g.1.1⟩ ⟨d.1.len,d.1.1⟩;let⟨B,r⟩:=aq (kC x y);rw[<-r]at c q;clear r g d;let⟨F,G,J⟩:=x;let⟨K,L,M⟩:=y;repeat' first|refine og Aj (D.bh n o) ?_|refine og Aj (D.bh n p) ?_|refine bg Aj (pl q) (λ_=>?_) λ_=>?_|refine cg Aj (λe=>?_) λe=>?_|refine lg Aj λm j=>?_|refine ag Aj λ_ _=>?_|refine xG Aj ?_|refine rG Aj ?_|refine fq ?_
  all_goals first|omega|rw[c,show B=false by grind];exact aL rfl|rw[show B=true by grind,ay_]at c;exact cw _ [] (k+1) c
 ·rw[al_ X,al_ X,IK]at c;repeat' first|refine cg Aj (λe=>?_) λe=>?_|refine lg Aj λm j=>?_|refine xG Aj ?_|refine fq ?_
  all_goals first|omega|rw[c];exact aL rfl
end
end Go.Proofs.YtbdcmpknicjopaaGreat
