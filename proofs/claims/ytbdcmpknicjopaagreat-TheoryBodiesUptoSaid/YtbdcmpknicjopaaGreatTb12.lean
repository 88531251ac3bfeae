import Derived.Laws.StructEq
import Derived.Test.YtbdcmpknicjopaaGreatTb11
namespace Go.Proofs.YtbdcmpknicjopaaGreat
set_option linter.all false
set_option maxRecDepth 100000
open Go.RowKit Proofs.Tryz
variable{B MB N kt n sz t:Nat}{E:List (Tm×Tm)}{G2:List (List AV)}{K:List gE}{O:Hd}{P:Program}{Q:Exit->AA->ah->Prop}{S S':ah}{T:Type}{U aE:AA}{Y:World}{a b i x:QO}{ch:List PanicEntry}{dr ex ex':Bool}{ds:List DE}{es:List (Value×AV)}{m zzD:List (Nat×Nat)}{o:Oper}{r r':AV}{v:Value}{Mx ys:List T}{f:T->List AV}
variable{rows:List (List AV)}{args:List AV}{l:List Nat}{c:Value->Bool}
section
attribute [local irreducible] ao aF D H
def aoc:=aD func251 call251
def zC:List Nat:=[5,0,4,9,1,17]
def aod:=aD func217 call217
def ai3:List Nat:=[0,1,4,5,9]
theorem ai4(l:List Int)(v:Int)(h:l.length<=1099511627776):ab Y 251 [aY O aR false l,iv v] (.v (.bool (l.contains v))):=by
 refine st aoc zC .v ?_;refine bE 0 0 [] (λi=>[(0,aY O aR false l),(1,.v (.int .i64 v)),(5,.v (.int .i64 i))]) [] (λ_=>[]) l.length (λk=>l.contains v=(l.drop k).contains v) aB λi k c j a=>?_;refine Z zC ?_;by_cases d:k<l.length
 ·let⟨x,e,f⟩:=aA d;rw[f,cY_]at a;repeat' first|refine og zC (D.bh c e) ?_|refine cg zC (λb=>?_) λb=>?_|refine lg zC λm g=>?_|refine ag zC λ_ _=>?_|refine xG zC ?_|refine rG zC ?_|refine fq ?_
  all_goals first|refine H.bO _ [] ?_ ?_ cq;grind;omega|refine aL ?_;rw[a];simp;left;omega|omega
 ·skip;repeat' first|refine cg zC (λb=>?_) λb=>?_|refine lg zC λm g=>?_|refine xG zC ?_|refine fq ?_
  all_goals first|omega|rw[a,al_ X];exact aL rfl
theorem Ut(a b:Int):ab Y 217 [iv a,iv b] (iv (jG a b)):=by
 refine st aod ai3 .v ?_;repeat' first|refine cg ai3 (λc=>?_) λc=>?_|refine fq ?_
 all_goals refine aH.of_eq ?_;simp only[jG,iv];(repeat' split)<;>first|rfl|omega
def aoe:=aD func108 call108
def zD:List Nat:=[7,0,6,11,1,2,29]
def jh(l:List Dc)(n:ByteArray)(a:Int):Bool:=l.any λd=>d.n.toList==n.toList&&d.ar==a
theorem yV(l:List Dc)(n:ByteArray)(a:Int)(p:l.length<=1099511627776):ab Y 108 [h_ O l,.v (.string n),iv a] (.v (.bool (jh l n a))):=by
 unfold jh;let⟨R,e⟩:=aq (l.any λd=>d.n.toList==n.toList&&d.ar==a);rw[<-e];refine st aoe zD .v ?_;refine bE 0 0 [] (λi=>[(0,h_ O l),(1,.v (.string n)),(2,.v (.int .i64 a)),(7,.v (.int .i64 i))]) [] (λ_=>[]) l.length (λk=>R=(l.drop k).any λd=>d.n.toList==n.toList&&d.ar==a) I λi k f q b=>?_;clear e;refine Z zD ?_;by_cases g:k<l.length
 ·let⟨x,h,j⟩:=aA g;rw[j,bH_]at b;repeat' first|refine og zD (D.bh f h) ?_|refine cg zD (λc=>?_) λc=>?_|refine lg zD λm o=>?_|refine ag zD λ_ _=>?_|refine xG zD ?_|refine rG zD ?_|refine fq ?_
  all_goals first|refine aL ?_;rw[b];simp_all;done|refine H.bO _ [] ?_ ?_ cq;grind;omega
 ·skip;repeat' first|refine cg zD (λc=>?_) λc=>?_|refine lg zD λm o=>?_|refine xG zD ?_|refine fq ?_
  all_goals first|omega|rw[b,al_ X];exact aL rfl
end
def zE(P:Program)(Y:World)(F:AV)(xs:List AV)(b:Bool):Prop:=∃gid args,fp F xs=some (gid,args)/\iU args/\ao P Y gid args (.v (.bool b))
theorem D.No{P:Program}{Y:World}{U:AA}{S:ah}{dr:Bool}{f:QO}{a:List QO}{F:AV}{l:List AV}{b:Bool}(c:f.ev U.tm=F)(d:a.map (·.ev U.tm)=l)(h:zE P Y F l b):D P Y dr (.call f a) U S (.v (.bool b)) S:=by let⟨gid,args,e,g,i⟩:=h;subst c d;exact D.bM e i g
def dc(x:Dc):AV:=.agg (YH x)
def Me(x:Dc):Pure (dc x):=.agg (PO x)
def dp{T:Type}(p:T->Bool):List T->Nat->Int|[],_=>-1|x::l,k=>if p x then k else dp p l (k+1)
theorem tT{T:Type}(p:T->Bool):∀(l:List T)(k:Nat),decide (0<=dp p l k)=l.any p|[],_=>rfl|x::l,k=>by rw[dp,bH_];split;grind;rw[tT p l];simp_all
def IK{T:Type}(p:T->T->Bool):List T->List T->Bool|[],[]=>true|x::a,y::b=>p x y&&IK p a b|_,_=>false
theorem YI{T:Type}{p:T->T->Bool}:∀{a b:List T},a.length≠b.length->IK p a b=false|[],[],h=>absurd rfl h|[],_::_,_=>rfl|_::_,[],_=>rfl|x::a,y::b,h=>by rw[IK,YI I];simp
def H.PQ{σ T:Type}{B N:Nat}{d:List (Nat×AV)}{ds:List DE}{so:σ->List (Nat×Ob)}{a:List T->σ->Prop}{c:List T}(b:σ)(m:List (Nat×Nat))(e:a c b)(hC:Canon B N m U S [] [] (so b)):H P Y true n (PR P Y n B N d ds so a Q K c) (.out .normal []) U S:=⟨b,m,e,hC⟩
section
attribute [local irreducible] ao aF D H
def aeO:=aD func200 call200
def iq:List Nat:=[8,0,5,4,7,9,1,16]
def aof:=aD func198 call198
def zF:List Nat:=[8,0,5,4,7,9,1,16]
def aog:=aD func326 call326
def zG:List Nat:=[8,0,5,4,7,9,1,16]
def aoh:=aD func282 call282
def zH:List Nat:=[8,0,5,4,7,9,1,16]
def aeP:=aD func132 call132
def Mf:List Nat:=[4,0,1]
def aoi:=aD func227 call227
def abU:List Nat:=[4,0,1]
theorem ai5(p:Int->Bool)(l:List Int)(gid:FuncId)(fs cs:List AV)(n:l.length<=1099511627776)(o:Pure (.fn (.func gid) fs cs))(h:∀x∈l,zE prog Y (.fn (.func gid) fs cs) [iv x] (p x)):ab Y 200 [aY O aR false l,.fn (.func gid) fs cs] (iv (dp p l 0)):=by
 let⟨R,c⟩:=aq (dp p l 0);rw[<-c];refine st aeO iq .v ?_;repeat' first|refine lg iq λm q=>?_
 refine bE 0 0 [] (λi=>[(0,aY O aR false l),(1,.fn (.func gid) fs cs),(7,.v (.int .i64 m)),(8,.v (.int .i64 i))]) [] (λ_=>[]) l.length (λk=>R=dp p (l.drop k) k) I λi k e r a=>?_;clear c;refine Z iq ?_;by_cases f:k<l.length
 ·let⟨x,d,g⟩:=aA f;rw[g,dp]at a;have j:=h x (aW d);repeat' first|refine og iq (D.bh e d) ?_|refine bg iq (D.No rfl rfl j) (λ_=>?_) λ_=>?_|refine cg iq (λb=>?_) λb=>?_|refine ag iq λ_ _=>?_|refine xG iq ?_|refine rG iq ?_|refine fq ?_
  all_goals first|rw[if_pos I]at a;refine dx ?_;omega|rw[if_neg I]at a;refine H.bO _ [] ?_ ?_ cz;grind;omega|omega
 ·skip;repeat' first|refine cg iq (λb=>?_) λb=>?_|refine xG iq ?_|refine fq ?_
  all_goals first|omega|rw[a,al_ X];exact dx rfl
theorem ai6(p:Im->Bool)(l:List Im)(gid:FuncId)(fs cs:List AV)(n:l.length<=1099511627776)(o:Pure (.fn (.func gid) fs cs))(h:∀x∈l,zE prog Y (.fn (.func gid) fs cs) [it O x] (p x)):ab Y 198 [lj O l,.fn (.func gid) fs cs] (iv (dp p l 0)):=by
 let⟨R,c⟩:=aq (dp p l 0);rw[<-c];refine st aof zF .v ?_;repeat' first|refine lg zF λm q=>?_
 refine bE 0 0 [] (λi=>[(0,lj O l),(1,.fn (.func gid) fs cs),(7,.v (.int .i64 m)),(8,.v (.int .i64 i))]) [] (λ_=>[]) l.length (λk=>R=dp p (l.drop k) k) I λi k e r a=>?_;clear c;refine Z zF ?_;by_cases f:k<l.length
 ·let⟨x,d,g⟩:=aA f;rw[g,dp]at a;have j:=h x (aW d);repeat' first|refine og zF (D.bh e d) ?_|refine bg zF (D.No rfl rfl j) (λ_=>?_) λ_=>?_|refine cg zF (λb=>?_) λb=>?_|refine ag zF λ_ _=>?_|refine xG zF ?_|refine rG zF ?_|refine fq ?_
  all_goals first|rw[if_pos I]at a;refine dx ?_;omega|rw[if_neg I]at a;refine H.bO _ [] ?_ ?_ cz;grind;omega|omega
 ·skip;repeat' first|refine cg zF (λb=>?_) λb=>?_|refine xG zF ?_|refine fq ?_
  all_goals first|omega|rw[a,al_ X];exact dx rfl
theorem ai7(p:Bd->Bool)(l:List Bd)(gid:FuncId)(fs cs:List AV)(n:l.length<=1099511627776)(o:Pure (.fn (.func gid) fs cs))(h:∀x∈l,zE prog Y (.fn (.func gid) fs cs) [bd O x] (p x)):ab Y 326 [bf O l,.fn (.func gid) fs cs] (iv (dp p l 0)):=by
 let⟨R,c⟩:=aq (dp p l 0);rw[<-c];refine st aog zG .v ?_;repeat' first|refine lg zG λm q=>?_
 refine bE 0 0 [] (λi=>[(0,bf O l),(1,.fn (.func gid) fs cs),(7,.v (.int .i64 m)),(8,.v (.int .i64 i))]) [] (λ_=>[]) l.length (λk=>R=dp p (l.drop k) k) I λi k e r a=>?_;clear c;refine Z zG ?_;by_cases f:k<l.length
 ·let⟨x,d,g⟩:=aA f;rw[g,dp]at a;have j:=h x (aW d);repeat' first|refine og zG (D.bh e d) ?_|refine bg zG (D.No rfl rfl j) (λ_=>?_) λ_=>?_|refine cg zG (λb=>?_) λb=>?_|refine ag zG λ_ _=>?_|refine xG zG ?_|refine rG zG ?_|refine fq ?_
  all_goals first|rw[if_pos I]at a;refine dx ?_;omega|rw[if_neg I]at a;refine H.bO _ [] ?_ ?_ cz;grind;omega|omega
 ·skip;repeat' first|refine cg zG (λb=>?_) λb=>?_|refine xG zG ?_|refine fq ?_
  all_goals first|omega|rw[a,al_ X];exact dx rfl
theorem ai8(p:Dc->Bool)(l:List Dc)(gid:FuncId)(fs cs:List AV)(n:l.length<=1099511627776)(o:Pure (.fn (.func gid) fs cs))(h:∀x∈l,zE prog Y (.fn (.func gid) fs cs) [dc x] (p x)):ab Y 282 [h_ O l,.fn (.func gid) fs cs] (iv (dp p l 0)):=by
 let⟨R,c⟩:=aq (dp p l 0);rw[<-c];refine st aoh zH .v ?_;repeat' first|refine lg zH λm q=>?_
 refine bE 0 0 [] (λi=>[(0,h_ O l),(1,.fn (.func gid) fs cs),(7,.v (.int .i64 m)),(8,.v (.int .i64 i))]) [] (λ_=>[]) l.length (λk=>R=dp p (l.drop k) k) I λi k e r a=>?_;clear c;refine Z zH ?_;by_cases f:k<l.length
 ·let⟨x,d,g⟩:=aA f;rw[g,dp]at a;have j:=h x (aW d);repeat' first|refine og zH (D.bh e d) ?_|refine bg zH (D.No rfl rfl j) (λ_=>?_) λ_=>?_|refine cg zH (λb=>?_) λb=>?_|refine ag zH λ_ _=>?_|refine xG zH ?_|refine rG zH ?_|refine fq ?_
  all_goals first|rw[if_pos I]at a;refine dx ?_;omega|rw[if_neg I]at a;refine H.bO _ [] ?_ ?_ cz;grind;omega|omega
 ·skip;repeat' first|refine cg zH (λb=>?_) λb=>?_|refine xG zH ?_|refine fq ?_
  all_goals first|omega|rw[a,al_ X];exact dx rfl
theorem ai9(p:Int->Bool)(l:List Int)(gid:FuncId)(fs cs:List AV)(d:l.length<=1099511627776)(a:Pure (.fn (.func gid) fs cs))(h:∀x∈l,zE prog Y (.fn (.func gid) fs cs) [iv x] (p x)):ab Y 132 [aY O aR false l,.fn (.func gid) fs cs] (.v (.bool (l.any p))):=by
 have b:=ai5 (Y:=Y) (O:=O) p l gid fs cs d a h;have c:=tT p l 0;let⟨j,e⟩:=aq (dp p l 0);rw[<-e]at b c;refine st aeP Mf .v ?_;repeat' first|refine ig Mf (D.bM rfl b ⟨bJ _,a,trivial⟩) λ_ _=>?_|refine cg Mf (λf=>?_) λf=>?_|refine fq ?_
 all_goals subst_vars;refine aL ?_;rw[<-c];simp_all
theorem ai_(p:Dc->Bool)(l:List Dc)(gid:FuncId)(fs cs:List AV)(d:l.length<=1099511627776)(a:Pure (.fn (.func gid) fs cs))(h:∀x∈l,zE prog Y (.fn (.func gid) fs cs) [dc x] (p x)):ab Y 227 [h_ O l,.fn (.func gid) fs cs] (.v (.bool (l.any p))):=by
 have b:=ai8 (Y:=Y) (O:=O) p l gid fs cs d a h;have c:=tT p l 0;let⟨j,e⟩:=aq (dp p l 0);rw[<-e]at b c;refine st aoi abU .v ?_;repeat' first|refine ig abU (D.bM rfl b ⟨eN _,a,trivial⟩) λ_ _=>?_|refine cg abU (λf=>?_) λf=>?_|refine fq ?_
 all_goals subst_vars;refine aL ?_;rw[<-c];simp_all
end
theorem Uu{o:Op}{y:QO}(h:res P.toTables o=some (.eqs t x y)):∃u v s,o=.binOp .eql t u v s/\x=qo u/\y=qo v:=by cases o with|binOp a b u v s =>simp only[res]at h;split at h;grind;grind;grind;grind;split at h;simp only[oI_,n_.eqs.injEq]at h;obtain⟨rfl,rfl,rfl⟩:=h;exact⟨_,_,_,rfl,rfl,rfl⟩;grind;grind|_ =>
  simp only[res]at h;repeat' split at h
  all_goals cases h
def EqS(P:Program)(t:Nat)(a b:Value)(e:Bool):Prop:=(∃c ys,a=.agg c/\b=.agg ys)/\P.eqGuardType P.depth t=false/\∀w,(binOp .eql t a b).run P w=.ok (.bool e) w
theorem Uv{y:QO}{a b:Value}{e:Bool}(h:EqS P t a b e){n:Nat}{o:Oper}(j:res P.toTables o.op=some (.eqs t x y))(β:AA)(d:toV (x.ev β.tm)=some a)(f:toV (y.ev β.tm)=some b):jV P Y n o β S (.v (.bool e)) S:=by
 obtain⟨u,v,s,k,rfl,rfl⟩:=Uu j;rw[aU]at d f;refine bj.ops (bj.quiet λA g c w B i=>⟨.bool e,?_,.v⟩) λc e=>I;have l:=Cs (i.ev u) d;have m:=Cs (i.ev v) f;obtain⟨⟨p,ys,rfl,rfl⟩,q,r⟩:=h;have z:(eqGuard .eql t u v (.agg p) (.agg ys)).run P w=.ok () w:=by simp[eqGuard,q]
 simp only[execOp,k,l,m,Sem.run_bind,z,Result.andThen_ok,r w,Sem.run_pure]
theorem D.eqs{dr:Bool}{y:QO}{a b:Value}{e:Bool}(g:toV (x.ev U.tm)=some a)(i:toV (y.ev U.tm)=some b)(h:EqS P t a b e):D P Y dr (.eqs t x y) U S (.v (.bool e)) S:=by cases dr with|false=>exactλn o c=>Uv h c U g i|true =>intro n o c;let⟨u,v,s,d,j,k⟩:=Uu c;have key:∀z∈o.op.operands,(U.only (dW o)).ev z=U.ev z:=λz l=>gL λt e=>gM I;have m:(U.only (dW o)).ev u=U.ev u:=key u (by rw[d];simp[Op.operands]);have p:(U.only (dW o)).ev v=U.ev v:=key v (by rw[d];simp[Op.operands]);have f:∀T,jV P Y n o (U.only (dW o)) T (.v (.bool e)) T:=λT=>Uv h c _ (by grind[aU]) (by grind[aU]);exact⟨f S,λ_=>⟨rfl,f⟩,λ_=>rfl⟩
section
attribute [local irreducible] ao aF D H
def aoj:=aD func255 call255
def fj:List Nat:=[2,17,1,4,0,9,16,18,15,6,24]
def aok:=aD func254 call254
def tU:List Nat:=[6,1,5,7,3,0,15]
def aol:=aD func192 call192
def atD:List Nat:=[2,0,1]
def aom:=aD func191 call191
def FH:List Nat:=[5,3,4,2,0,7,8,12]
def aon:=aD func122 call122
def abV:List Nat:=[2,0,1]
def aoo:=aD func129 call129
def abW:List Nat:=[2,0,1]
def aop:=aD func127 call127
def abX:List Nat:=[2,0,1]
mutual def eF:Tm->List Int|⟨k,i,n,a⟩=>if k=1 then[i] else if k=2 then aZ a else[]def aZ:List Tm->List Int|[]=>[]|x::l=>eF x++aZ l end
def bT(s:List Int):List Int->List Int|[]=>[]|x::l=>if s.contains x then bT s l else x::bT (s++[x]) l
theorem jZ{a:List Tm}{k:Nat}{y:Tm}(h:a.drop k=y::a.drop (k+1)):aZ (a.drop k)=eF y++aZ (a.drop (k+1)):=by rw[h,aZ]
theorem H3{J:iG}(h0:aX m 0=0):∀k a,fJ [(0,.fo J)] k=some (.fo a)->∃j,j<1/\aX m j=k:=λk a h=>by have:=fW h;simp at this;exact⟨0,X,I⟩
theorem YJ{f:Nat->Option Ob}{d:Nat}{a:Option Ob}(h:∀k J,f k=some (.fo J)->∃j,j<1/\aX m j=k)(b:(∀J,a≠some (.fo J))\/aX m 0=d):∀k J,bL f d a k=some (.fo J)->∃j,j<1/\aX m j=k:=λk J c=>by grind[aG,aP]
theorem YK(x:Tm):∀(J:iG)(b:Bool)(e:iG),x.ok->Ys prog Y J ((eF x).map aR) b e ->aF prog Y 255 [tm O x,.yl 0] (aw [(0,.fo J)] 1) (.v (.bool b)) (aw [(0,.fo e)] 1):=by
 refine Tm.ind (p:=λx=>∀(J:iG)(b:Bool)(e:iG),x.ok->Ys prog Y J ((eF x).map aR) b e ->aF prog Y 255 [tm O x,.yl 0] (aw [(0,.fo J)] 1) (.v (.bool b)) (aw [(0,.fo e)] 1)) ?_ x;intro k i n a A J b e E d;let⟨F,G,v⟩:=E.out;dsimp only at F G v;have s:=aiU (Y:=Y) (O:=O) ⟨k,i,n,a⟩;rw[qK]at s;dsimp only at s;refine sc 1 1 aoj ?_;refine Z fj ?_;rw[eF]at d;by_cases t:k=1
 ·subst t;have o:=d.one;repeat' first|refine H.op rfl (D.yl rfl rfl (o _ 0 rfl)) ?_;refine Z fj ?_|refine bq (λc=>?_) λc=>?_<;>(try simp only[bY]at c)<;>(first|exact dF c|refine Z fj ?_)|refine b8 λm f=>?_;(try rw[az]at f);refine Z fj ?_|refine cG λ_ _=>?_;refine Z fj ?_|refine gT λ_ _=>?_;refine Z fj ?_|refine H.str rfl (D.cat rfl rfl (by assumption)) λ_ _=>?_;refine Z fj ?_|refine xG fj ?_|refine rG fj ?_|refine fq ?_
  exact⟨[],.aK .v,⟨.inl ⟨_,rfl,.same trivial⟩,trivial⟩,rfl⟩
 rw[if_neg t]at d;let⟨g,q⟩:=aq (if k=2 then a else[]);rw[<-q]at s;have B:Ys prog Y J ((aZ g).map aR) b e:=by rw[q];split at d;rw[if_pos I];exact d;rw[if_neg I,aZ];exact d
 have P:g.length<=1099511627776:=by rw[q];split;omega;simp
 have u:∀y∈g,y∈a:=by intro y d;rw[q]at d;split at d;exact d;cases d
 clear d q;repeat' first|refine H.op rfl (pl s) ?_;refine Z fj ?_|refine bq (λc=>?_) λc=>?_<;>(try simp only[bY]at c)<;>(first|exact dF c|refine Z fj ?_)|refine b8 λm f=>?_;(try rw[az]at f);refine Z fj ?_|refine cG λ_ _=>?_;refine Z fj ?_|refine gT λ_ _=>?_;refine Z fj ?_|refine H.str rfl (D.cat rfl rfl (by assumption)) λ_ _=>?_;refine Z fj ?_|refine xG fj ?_|refine rG fj ?_|refine fq ?_
 exact absurd (by assumption) t;refine cr (τ:=iG) 2 2 [] (λp=>[(1,.yl 0),(15,tl O g),(16,.v (.int .i64 m)),(17,.v (.int .i64 p.1))]) [] (λp=>[(0,.fo p.2)]) g.length (λk p=>Ys prog Y p.2 ((aZ (g.drop k)).map aR) b e) J (by simpa using B) ?_;rintro i k J w t r;simp only at w r;clear B;refine Z fj ?_;by_cases K:k<g.length
 ·let⟨y,j,L⟩:=aA K;rw[jZ L,aZ_]at r;rcases r.split with⟨M,o⟩|⟨C,o,N⟩
  ·subst M;have z:=A y (u y (aW j)) _ _ _ (v.mem y (u y (aW j))) o;repeat' first|refine H.op rfl (D.ind rfl rfl (cD (l:=g) w j) cE) ?_;refine Z fj ?_|refine H.op rfl (D.n0 (m:=[(0,0)]) (to:=[(0,some (.fo e))]) z rfl ⟨Rn.pure (bI _),Rn.yl rfl rfl,trivial⟩ (Rb.pure .v) rfl rfl ⟨⟨_,rfl,lU.fo⟩,trivial⟩ ⟨⟨0,_,rfl,rfl,m7.fo⟩,trivial⟩ rfl (by repeat first|exact jf rfl|refine o8 ?_ rfl) (.inl (by repeat first|exact H3 rfl|refine YJ ?_ (.inl λJ h=>I)))) ?_;refine Z fj ?_|refine bq (λc=>?_) λc=>?_<;>(try simp only[bY]at c)<;>(first|exact dF c|refine Z fj ?_)|refine b8 λm f=>?_;(try rw[az]at f);refine Z fj ?_|refine cG λ_ _=>?_;refine Z fj ?_|refine gT λ_ _=>?_;refine Z fj ?_|refine H.str rfl (D.cat rfl rfl (by assumption)) λ_ _=>?_;refine Z fj ?_|refine xG fj ?_|refine rG fj ?_|refine fq ?_
   all_goals first|exact⟨[],.aK .v,⟨.inl ⟨_,rfl,.same trivial⟩,trivial⟩,rfl⟩|omega
  ·have z:=A y (u y (aW j)) _ _ _ (v.mem y (u y (aW j))) o;repeat' first|refine H.op rfl (D.ind rfl rfl (cD (l:=g) w j) cE) ?_;refine Z fj ?_|refine H.op rfl (D.n0 (m:=[(0,0)]) (to:=[(0,some (.fo C))]) z rfl ⟨Rn.pure (bI _),Rn.yl rfl rfl,trivial⟩ (Rb.pure .v) rfl rfl ⟨⟨_,rfl,lU.fo⟩,trivial⟩ ⟨⟨0,_,rfl,rfl,m7.fo⟩,trivial⟩ rfl (by repeat first|exact jf rfl|refine o8 ?_ rfl) (.inl (by repeat first|exact H3 rfl|refine YJ ?_ (.inl λJ h=>by cases h)))) ?_;refine Z fj ?_|refine bq (λc=>?_) λc=>?_<;>(try simp only[bY]at c)<;>(first|exact dF c|refine Z fj ?_)|refine b8 λm f=>?_;(try rw[az]at f);refine Z fj ?_|refine cG λ_ _=>?_;refine Z fj ?_|refine gT λ_ _=>?_;refine Z fj ?_|refine H.str rfl (D.cat rfl rfl (by assumption)) λ_ _=>?_;refine Z fj ?_|refine xG fj ?_|refine rG fj ?_|refine fq ?_
   all_goals first|omega|exact bP (_,C) [] (k+1) N
 ·rw[al_ X,aZ]at r;obtain⟨rfl,rfl⟩:=r.PT;repeat' first|refine bq (λc=>?_) λc=>?_<;>(try simp only[bY]at c)<;>(first|exact dF c|refine Z fj ?_)|refine b8 λm f=>?_;(try rw[az]at f);refine Z fj ?_|refine cG λ_ _=>?_;refine Z fj ?_|refine gT λ_ _=>?_;refine Z fj ?_|refine H.str rfl (D.cat rfl rfl (by assumption)) λ_ _=>?_;refine Z fj ?_|refine xG fj ?_|refine rG fj ?_|refine fq ?_
  all_goals first|omega|exact⟨[],.aK .v,⟨.inl ⟨_,rfl,.same trivial⟩,trivial⟩,rfl⟩
theorem Uw(l:List Tm)(x:l.length<=1099511627776)(o:dS l):Iter prog Y 254 [] [.ip [tl O l]] ((aZ l).map aR):=by
 intro J b g q;refine⟨.aJ [],aw [(0,.fo g)] 1,?_,rfl⟩;refine sc 1 1 aok ?_;refine Z tU ?_;repeat' first|refine lg tU λm z=>?_
 refine cr (τ:=iG) 1 1 [] (λp=>[(0,.yl 0),(1,.ip [tl O l]),(5,.v (.int .i64 m)),(6,.v (.int .i64 p.1))]) [] (λp=>[(0,.fo p.2)]) l.length (λk p=>Ys prog Y p.2 ((aZ (l.drop k)).map aR) b g) J (by simpa using q) (hC:=⟨⟨.aK rfl (.yl aC),.aK rfl (Pure.bu (.ip λa c=>by cases ak_.1 c;exact c9 _)),.aK rfl .v,.aK rfl .v,trivial⟩,rfl,⟨.inl ⟨_,rfl,.same trivial⟩,trivial⟩,rfl,rfl,rfl⟩) ?_;rintro i k J h B d;simp only at h d;clear q;refine Z tU ?_;by_cases t:k<l.length
 ·let⟨y,f,u⟩:=aA t;rw[jZ u,aZ_]at d;rcases d.split with⟨v,j⟩|⟨r,j,w⟩
  ·subst v;have n:=YK (O:=O) y _ _ _ (o.mem y (aW f)) j;repeat' first|refine og tU (D.ind rfl rfl (cD (l:=l) h f) cE) ?_|refine og tU (D.n0 (m:=[(0,0)]) (to:=[(0,some (.fo g))]) n rfl ⟨Rn.pure (bI _),Rn.yl rfl rfl,trivial⟩ (Rb.pure .v) rfl rfl ⟨⟨_,rfl,lU.fo⟩,trivial⟩ ⟨⟨0,_,rfl,rfl,m7.fo⟩,trivial⟩ rfl (by repeat first|exact jf rfl) (.inl (by repeat first|exact H3 rfl))) ?_|refine cg tU (λe=>?_) λe=>?_|refine xG tU ?_|refine rG tU ?_|refine fq ?_
   all_goals first|exact⟨[],.aK (.aJ λa c=>by cases c),⟨.inl ⟨_,rfl,.same trivial⟩,trivial⟩,rfl⟩|omega
  ·have n:=YK (O:=O) y _ _ _ (o.mem y (aW f)) j;repeat' first|refine og tU (D.ind rfl rfl (cD (l:=l) h f) cE) ?_|refine og tU (D.n0 (m:=[(0,0)]) (to:=[(0,some (.fo r))]) n rfl ⟨Rn.pure (bI _),Rn.yl rfl rfl,trivial⟩ (Rb.pure .v) rfl rfl ⟨⟨_,rfl,lU.fo⟩,trivial⟩ ⟨⟨0,_,rfl,rfl,m7.fo⟩,trivial⟩ rfl (by repeat first|exact jf rfl) (.inl (by repeat first|exact H3 rfl))) ?_|refine cg tU (λe=>?_) λe=>?_|refine ag tU λ_ _=>?_|refine xG tU ?_|refine fq ?_
   all_goals first|omega|exact bP (_,r) [] (k+1) w (hC:=⟨⟨.aK rfl (.yl aC),.aK rfl (Pure.bu (.ip λa c=>by cases ak_.1 c;exact c9 _)),.aK rfl .v,.aK rfl .v,trivial⟩,rfl,⟨.inl ⟨_,rfl,.same trivial⟩,trivial⟩,rfl,rfl,rfl⟩)
 ·rw[al_ X,aZ]at d;obtain⟨rfl,rfl⟩:=d.PT;repeat' first|refine cg tU (λe=>?_) λe=>?_|refine xG tU ?_|refine fq ?_
  all_goals first|omega|exact⟨[],.aK (.aJ λa c=>by cases c),⟨.inl ⟨_,rfl,.same trivial⟩,trivial⟩,rfl⟩
theorem KD(l:List Tm):ab Y 192 [tl O l] (.fn (.func 254) [] [.ip [tl O l]]):=by
 refine st aol atD (.fn (λa c=>I) λa c=>by cases ak_.1 c;exact .ip λb e=>by grind[c9]) ?_;repeat' first|refine fq ?_
 refine aH.fns ?_ ?_;exact trivial;exact⟨aH.box (cs:=[tl O l]) (cs':=[tl O l]) rfl ⟨.refl _,trivial⟩,trivial⟩
end
section
variable{rd:Bool}{l:List QI}
theorem FI{k len:Nat}{o:Oper}(x:res P.toTables o.op=some (.append sz MB (.t t) b))(h1:U.tm t=.gr k sz len)(J:S.get k=some (.arr sz rows 0 ex))(Q:len=rows.length)(T:∀c,b.ev (bL U.tm t c)=b.ev U.tm)(V:iH S (b.ev U.tm)=some []):jV P Y n o U S (.gr k sz len) S:=by
 intro F y A g a w z R B C d E;have K:t<n:=by rcases bE_ t n with h|h;grind;have:=d.out t h;rw[h1]at this;cases this
 have e:=d.tm t K;rw[h1]at e;let⟨v,f⟩:∃v,a.tmps.getD t undef=v:=⟨_,rfl⟩;have G:U.tm t≠.u:=I;rw[f]at e;rcases te e with⟨h,W,rfl⟩|⟨L,c,rfl,hx,i⟩;have j:cO g w n ⟨bL U.tm t (.sl true []),U.df⟩ a:=d.slot G (by rw[f];exact .nil λ_=>rfl);have l:=D.Mh (P:=P) (Y:=Y) (dr:=false) (U:=⟨bL U.tm t (.sl true []),U.df⟩) (S:=S) (sz:=sz) (MB:=MB) (a:=.t t) (b:=b) (rows:=[]) (aG _ _ _) I n o x;refine l F y A g a w z R B C j λv p q r s k3=>E v p q ?_ s k3;subst h;cases r with|nil u=>cases u rfl;exact .lR|sl u=>exact absurd rfl u
 have j:cO g w n ⟨bL U.tm t (.ob k sz 0 len none),U.df⟩ a:=d.slot G (by rw[f];have:=aN.ob (g:=g) (w:=w) (k:=k) (sz:=sz) (off:=0) (len:=len) (c:=c) (cx:=none) L (λm h=>I) X (λ_=>X) i;rwa[bc_]at this);have l:=D.Wu (P:=P) (Y:=Y) (dr:=false) (U:=⟨bL U.tm t (.ob k sz 0 len none),U.df⟩) (S:=S) (sz:=sz) (MB:=MB) (a:=.t t) (b:=b) (k:=k) (fz:=0) (ex:=ex) (rows:=rows) (sz':=sz) (aG _ _ _) J I n o x;refine l F y A g a w z R B C j λv p q r s k3=>E v p q ?_ s k3;cases r with|ob q1 q2 q3 q4 N=>rw[bc_];exact .gr q1 I N
theorem jk{S:ah}{l:List (List AV)}:iH S (.sl ex l)=some l:=by simp[iH,rowsOf,rq]
theorem H.abY{a:Option Nat}{d:Option (Nat×Bool)}{k len:Nat}(m:bD U.tm d=some true)(h1:U.tm t=.gr k sz len)(p:S.get k=some (.arr sz (O.h (List.map f) Mx) 0 ex))(z:len=Mx.length)(q:∀c,b.ev (bL U.tm t c)=b.ev U.tm)(g:b.ev U.tm=aY O f ex' ys)(s:∀x,(f x).length=sz)(u:∀x,(f x).all db=true)(A:(len+ys.length)*MB<=35184372088832)(k0:ys=[]->H P Y rd n Q (.bk false l K) (bW a U (.gr k sz len)) S)(kk:∀j r,ys≠[]->j=Mx++ys->r=j.length->H P Y rd n Q (.bk false l K) (bW a U (.gr S.nx sz r)) ((S.set k none).new (.arr sz (O.h (List.map f) j) 0 false))):H P Y rd n Q (.bk false (⟨a,d,.append sz MB (.t t) b⟩::l) K) U S:=by have B:(O.h (List.map f) Mx).length=Mx.length:=az;rw[bF]at g;cases ys with|nil =>exact H.op (i:=⟨a,d,.append sz MB (.t t) b⟩) m (λn o v=>FI v h1 p X q (by rw[g];exact jk)) (k0 rfl)|cons y ys =>
  have h:=kk _ _ aB rfl rfl;have e:O.h (List.map f) Mx++List.map f (y::ys)=O.h (List.map f) (Mx++y::ys):=by rw[O.eq,O.eq,aZ_]
  rw[<-e,show(Mx++y::ys).length=len+(f y::List.map f ys).length by grind]at h;refine H.op (i:=⟨a,d,.append sz MB (.t t) b⟩) m (D.gD h1 p X q (by rw[g];exact jk) (by rw[g];exact jk) (λrow w=>?_) I) h;obtain⟨x,_,rfl⟩:=aB_.1 (show row∈List.map f (y::ys) from w);exact⟨s x,u x⟩
theorem zd{o:Op}(h:res P.toTables o=some (.append sz MB a b)):qv o=false:=by grind[sj,qv]
theorem bm.append{d:Dt}(f:b.ev U.tm=.sl ex G2)(j:iI S d.F)(h:∀T,iI T d.F->(d.m=true->T.nx=S.nx)->∀e z,eB P e=some z->eL P e=some sz->k_ P e=some MB->Nat.blt 0 MB=true->qG P e (Ct r (ff T d.W d.m)) T G2 (a.ev U.tm)):bm P Y B (.append sz MB a b) U S r d:=by refine bm.Np λo C E=>by grind[Cu,zd] j λT k l o m=>?_;obtain⟨c,t,t2,u,v,e,F,z,rfl,n,p,q,rfl,rfl,s,w,g,i,x,y,A⟩:=sj m;rw[aU]at f;have h:=h T k l e z g i x A;rw[aU]at h;simp only[bX,n,rB,p,q,aF_,aR_,s,w,g,i,y];rw[f];exact bQ.mk (a:=G2) rfl ⟨rfl,h⟩
theorem bm.Mh(c:a.ev U.tm=.sl true rows)(d:b.ev U.tm=.sl ex []):bm P Y B (.append sz MB a b) U S (.sl true rows) ⟨[],[],false⟩ :=bm.append d (λp f=>I) λT _ _ e z _ _ _ _=>by rw[c];exact⟨rfl,by rw[lV]⟩
theorem bm.PV{x:List AV}(d:a.ev U.tm=.sl true [])(f:b.ev U.tm=.sl ex (x::G2))(h3:∀row∈x::G2,row.length=sz)(h4:(x::G2).length*MB<=35184372088832):bm P Y B (.append sz MB a b) U S (.ob S.nx sz 0 (x::G2).length none) ⟨[],[(S.nx,some (.arr sz (x::G2) 0 false))],true⟩ :=bm.append f (λp c=>I) λT _ g e z k i j c=>by rw[d];simp only[qG,i,j,c];refine⟨λ_ h=>I,h3,I,?_,?_⟩;grind;rw[gQ];simp only[eH,<-g rfl];rfl
theorem bm.gD{k len:Nat}{x:List AV}(a:U.tm t=.gr k sz len)(E:S.get k=some (.arr sz rows 0 ex))(i:len=rows.length)(F:∀c,b.ev (bL U.tm t c)=b.ev U.tm)(d:b.ev U.tm=.sl ex' (x::G2))(h3:∀row∈x::G2,row.length=sz/\row.all db=true)(h4:(len+(x::G2).length)*MB<=35184372088832):bm P Y B (.append sz MB (.t t) b) U S (.gr S.nx sz (len+(x::G2).length)) ⟨[(k,.arr sz rows 0 ex)],[(S.nx,some (.arr sz (rows++x::G2) 0 false)),(k,none)],true⟩:=by
 intro n o f;refine⟨λj=>by grind[Cu,zd],show iI S _ fromλp j=>I,λT _ l m=>?_⟩;have e:∀y:QO,y=.t t\/y=b->y.ev (U.only (dW o)).tm=y.ev U.tm:=by let⟨c,t1,t2,u,v,e,G,z,r,w,J,h3,h4,K,_⟩:=sj f;intro y L;have:∃q∈[u,v],y=qo q:=I;obtain⟨q,M,rfl⟩:=this;rw[aU,aU];refine gL λt A=>gM ?_;rw[r,<-A];have:q∈c.args:=cD_.1 I;show q∈c.operands;simp[Call.operands,this,w]
 have C:(U.only (dW o)).tm t=.gr k sz len:=(e (.t t) (.inl rfl)).trans a;have N:=e b (.inr rfl);have key:∀c,b.ev (bL (U.only (dW o)).tm t c)=b.ev (U.only (dW o)).tm:=by intro c;cases b with|t s =>by_cases g:s=t;exfalso;subst g;rw[show(QO.t s).ev U.tm=U.tm s from rfl,a]at d;cases d;exact aP _ _ g|_=>rfl
 have h:=PW (P:=P) (Y:=Y) (n:=n) (U:=U.only (dW o)) (S:=T) (k:=k) (sz:=sz) (MB:=MB) (len:=len) (ex:=ex) (b:=b) (rows:=rows) (G2:=G2) (x:=x) f C (l (k,.arr sz rows 0 ex) aB) i key (by grind[jk]) (by grind[jk]) h3 h4;rw[gQ,<-m rfl];exact h
theorem bm.aoq{k len:Nat}(a:U.tm t=.gr k sz len)(x:S.get k=some (.arr sz rows 0 ex))(h:len=rows.length)(A:∀c,b.ev (bL U.tm t c)=b.ev U.tm)(d:b.ev U.tm=.sl ex' []):bm P Y B (.append sz MB (.t t) b) U S (.gr k sz len) ⟨[(k,.arr sz rows 0 ex)],[],false⟩:=by
 intro n o f;refine⟨λi=>by grind[Cu,zd],show iI S _ fromλp i=>I,λT _ j C=>?_⟩;have e:∀y:QO,y=.t t\/y=b->y.ev (U.only (dW o)).tm=y.ev U.tm:=by let⟨c,t1,t2,u,v,e,E,z,l,m,F,G,J,K,_⟩:=sj f;intro y L;have:∃q∈[u,v],y=qo q:=I;obtain⟨q,M,rfl⟩:=this;rw[aU,aU];refine gL λt r=>gM ?_;rw[l,<-r];have:q∈c.args:=cD_.1 I;show q∈c.operands;simp[Call.operands,this,m]
 have w:(U.only (dW o)).tm t=.gr k sz len:=(e (.t t) (.inl rfl)).trans a;have N:=e b (.inr rfl);have key:∀c,b.ev (bL (U.only (dW o)).tm t c)=b.ev (U.only (dW o)).tm:=by intro c;cases b with|t s =>by_cases g:s=t;exfalso;subst g;rw[show(QO.t s).ev U.tm=U.tm s from rfl,a]at d;cases d;exact aP _ _ g|_=>rfl
 rw[show ff T [] false=T from lV];exact FI f w (j (k,.arr sz rows 0 ex) aB) h key (by grind[jk])
theorem bm.aor{f:QO}{aZ9:List QO}{g:FuncId}{QY:List AV}{r₀:AV}{so':List (Nat×Ob)}{ob:Ob}(G:aF P Y g args (aw [] 0) r (aw so' 1))(h:fp (f.ev U.tm) (aZ9.map (·.ev U.tm))=some (g,QY))(J:zI (aX []) 0 QY args)(l:Rb (dV (aX []) 0 S.nx) r r₀)(s:iB (dV (aX []) 0 S.nx) so' [(S.nx,some ob)])(K:BZ so'=true):bm P Y B (.call f aZ9) U S r₀ ⟨[],[(S.nx,some ob)],true⟩:=by
 intro n o x;let⟨c,u,ho,y,L,d⟩:=mC x;refine⟨λM=>by grind[sV,qv],show iI S [] fromλp M=>I,λT _ _ Q=>?_⟩;have e:T.nx=S.nx:=Q rfl;have z:∀q∈(.call c:Op).operands,(U.only (dW o)).ev q=U.ev q:=λq V=>gL λt ht=>gM I;have W:fp (f.ev (U.only (dW o)).tm) (aZ9.map (·.ev (U.only (dW o)).tm))=some (g,QY):=by rw[<-h,L,d,aU,aU,jL,jL,z u (show u∈c.operands by simp[Call.operands,y])];congr 1;exact aQ_ λq V=>z q (show q∈c.operands by simp[Call.operands,y];exact .inr I)
 rw[<-e]at l s⊢;intro F mm A C a w nx R hF hS hA pe;let i:ah:=⟨λk=>if k<T.nx then T.get k else none,T.nx⟩;have lG:St Y A C i w:=hS.forget (aa_ _) λj p b _=>I;have hc:=D.n0 (P:=P) (Y:=Y) (U:=U.only (dW o)) (T:=i) (m:=[]) (N:=0) (N':=1) (so:=[]) (so':=so') (to:=[(T.nx,some ob)]) (f:=f) (aZ9:=aZ9) G W J l rfl rfl trivial s rfl (λk p hk=>I) (.inr K) n o x;refine hc F mm A C a w nx R hF lG hA λv w' g' k1 E k3=>pe v w' g' k1 ?_ k3;rw[gQ];refine E.forget (aa_ _) λj p b aS=>?_;have yb:j<T.nx+1:=E.al j aS;have b:bL T.get T.nx (some ob) j=some p:=b;show bL i.get T.nx (some ob) j=some p;by_cases ej:j=T.nx;grind[aG];rw[aP _ _ ej]at b⊢;show(if j<T.nx then T.get j else none)=some p;rw[if_pos X];exact b
end
def rD(c:Value->Bool):List (Value×AV)->Option Nat|[]=>none|p::es=>if c p.1 then some 0 else(rD c es).map (·+1)
structure Mj(P:Program)(kt:Nat)(v:Value)(es:List (Value×AV))(c:Value->Bool):Prop where
 chk:∀b w,(Instr.checkKey b 10000 kt v).run P w=.ok () w
 str:∃fs,P.underlying kt=some (.struct fs)eq:∀p∈es,∀w,(Op.equal kt v p.1).run P w=.ok (c p.1) w
theorem Ux{c:Value->Bool}:∀{es:List (Value×AV)}{j:Nat},rD c es=some j->∃k a,es[j]?=some (k,a)/\c k=true|[],j,h=>by cases h|p::es,j,h=>by rw[rD]at h;split at h;grind;cases b:rD c es with|none=>rw[b]at h;cases h|some e =>rw[b]at h;cases oJ_ h;let⟨k,a,f,d⟩:=Ux b;exact⟨k,a,I,d⟩
theorem Nq{kt:Nat}{v:Value}{c:Value->Bool}{w:World}:∀{es:List (Value×AV)}{L:List MapEntry}{o:Nat},(∀p∈es,∀w,(Op.equal kt v p.1).run P w=.ok (c p.1) w)->L.length=es.length ->(∀(j:Nat)(k:Value)(a:AV)(e:MapEntry),es[j]?=some (k,a)->L[j]?=some e->e.key=k) ->(Instr.findAsking kt v L o).run P w=.ok (match rD c es with|some j=>L[j]?.map λe=>(j+o,e.val)|none=>none) w
 |[],[],o,_,_,_=>rfl|p::es,e::L,o,d,f,h=>by have b:e.key=p.1:=h 0 p.1 p.2 e rfl rfl;have g:=Nq (w:=w) (es:=es) (L:=L) (o:=o+1) (λq l=>d q I) I λj k a i m n=>h (j+1) k a i I I;simp only[Instr.findAsking,Sem.run_bind,b,d p aB w,Result.andThen_ok,rD];cases r:c p.1 with|true=>simp[Sem.run_pure]|false =>simp only[if_false,bw_,g];congr 1;cases rD c es with|none=>rfl|some j=>simp only[aK_,cQ_];congr 1;funext x;congr 1;omega
 |[],_::_,_,_,f,_=>I|_::_,[],_,_,f,_=>I
theorem Mj.find(h:Mj P kt v es c){g:Gh}{w:World}{entries:Array MapEntry}(m:entries.size=es.length)(n:∀(i:Nat) (k:Value) (a:AV),es[i]?=some (k,a)->∃e:MapEntry,entries[i]?=some e/\e.key=k/\aN g w a e.val):(Instr.findKey kt v entries.toList).run P w=.ok (match rD c es with|some j=>entries[j]?.map λe=>(j,e.val)|none=>none) w:=by let⟨l,d⟩:=h.str;have b:=Nq (P:=P) (w:=w) (es:=es) (L:=entries.toList) (o:=0) h.eq I λj k a e p q=>I;simp only[bf_,bz_]at b;simp only[Instr.findKey,Sem.run_bind,run_underlying d,Result.andThen_ok];cases f:entries.toList with|nil =>rw[f]at b;simp only[Instr.findNow,Sem.run_pure];simp only[Instr.findAsking,Sem.run_pure]at b;exact b|cons e L =>
  rw[<-f];have:Instr.findNow (.struct l) v entries.toList 0=none:=by rw[f];simp[Instr.findNow,Instr.sameNow]
  rw[this];exact b
def mR(c:Value->Bool)(es:List (Value×AV)):Option AV:=match rD c es with|some j=>es[j]?.map (·.2)|none=>none
theorem YM{o:Op}{z:AV}{c:Bool}(h:res P.toTables o=some (.mR kt z c x i)):∃t u v b a,o=.lookup t u v c/\x=qo u/\i=qo v/\P.underlying t=some (.map kt b)/\eB P b=some a/\z=lift a:=by cases o with
 |lookup t u v j =>
  simp only[res,cN,lr]at h;split at h;·rename_i f b e;split at h;grind;rename_i _ _ a g d;simp only[oI_,n_.mR.injEq]at h;obtain⟨rfl,rfl,rfl,rfl,rfl⟩:=h;exact⟨_,_,_,_,_,rfl,rfl,rfl,e,d,rfl⟩;rename_i _ a g d;simp only[oI_,n_.mR.injEq]at h;obtain⟨rfl,rfl,rfl,rfl,rfl⟩:=h;exact⟨_,_,_,_,_,rfl,rfl,rfl,e,d,rfl⟩;all_goals cases h
  grind|_ =>
  simp only[res]at h;repeat' split at h
  all_goals cases h
theorem YN{o:Op}(h:res P.toTables o=some (.AT kt x i b)):∃t u v y a,o=.mapUpdate t u v y/\x=qo u/\i=qo v/\b=qo y/\P.underlying t=some (.map kt a):=by cases o with|mapUpdate t u v y =>simp only[res,cN]at h;split at h;grind;grind|_ =>
  simp only[res]at h;repeat' split at h
  all_goals cases h
theorem YO{t kt r:TypeId}{x i:Operand}{k:Nat}{z:Value}{m:AV}{cm:Bool}(s:o.op=.lookup t x i cm)(u:P.underlying t=some (.map kt r))(M:eB P r=some z)(d:U.ev x=.mp k)(N:S.get k=some (.mp es))(hi:toV (U.ev i)=some v)(l:Mj P kt v es c):bj P Y n o U S (match mR c es with|some a=>if cm then .aJ [a,.v (.bool true)] else a|none=>if cm then .aJ [lift z,.v (.bool false)] else lift z) S:=by
 refine bj.quiet λA g q w Q B=>?_;have C:=B.ev x;rw[d]at C;have E:=Cs (B.ev i) hi;let⟨F,R⟩:=u5 C;let⟨_,_,entries,clock,G,T,J⟩:=Q.cY k _ N R;have f:=l.find T J;have fin:∀(v:Value)(b:Bool)(a:AV),aN g w a v->aN g w (if cm then .aJ [a,.v (.bool b)] else a) (if cm then .tuple #[v,.bool b] else v):=by intro v b a K;cases cm with|false=>exact K|true =>refine .aJ rfl λi y x h d=>?_;match i with|0=>simp at h d;subst h d;exact K|1=>simp at h d;subst h d;exact .v|i+2=>simp at h
 unfold mR;cases p:rD c es with|none =>rw[p]at f;refine⟨_,?_,fin z false (lift z) (zu z)⟩;simp only[execOp,s,F,E,Instr.lookup,Sem.run_bind,run_underlying u,Result.andThen_ok,iV G,Sem.run_pure,l.chk,f,pP M]|some j =>let⟨W,a,L,_⟩:=Ux p;let⟨e,q1,q2,V⟩:=J j _ a L;rw[p]at f;simp only[q1,aK_]at f;simp only[L,aK_];refine⟨_,?_,fin e.val true a V⟩;simp only[execOp,s,F,E,Instr.lookup,Sem.run_bind,run_underlying u,Result.andThen_ok,iV G,Sem.run_pure,l.chk,f]
theorem D.mR{z:AV}{cm:Bool}{k:Nat}(b:x.ev U.tm=.mp k)(d:S.get k=some (.mp es))(hi:toV (i.ev U.tm)=some v)(e:Mj P kt v es c):D P Y false (.mR kt z cm x i) U S (match mR c es with|some a=>if cm then .aJ [a,.v (.bool true)] else a|none=>if cm then .aJ [z,.v (.bool false)] else z) S:=D.run λn o f=>by obtain⟨t,u,y,l,p,g,rfl,rfl,h,j,rfl⟩:=YM f;rw[aU]at b hi;exact YO (m:=.u) g h j b d hi e
theorem D.AT{k:Nat}{a:AV}(j:x.ev U.tm=.mp k)(l:S.get k=some (.mp es))(hi:toV (i.ev U.tm)=some v)(m:Mj P kt v es c)(G:rD c es=none)(p:b.ev U.tm=a):D P Y false (.AT kt x i b) U S (.v undef) (S.set k (some (.mp (es++[(v,a)])))):=D.run λn o J=>by obtain⟨t,u,y,r,et,K,rfl,rfl,rfl,L⟩:=YN J;rw[aU]at j hi p;intro A g q w s f;have z:=f.ev u;have h:=f.ev r;rw[j]at z;rw[p]at h;have M:=Cs (f.ev y) hi;let⟨N,B⟩:=u5 z;let⟨x,C⟩:∃x,q.eval r=x:=⟨_,rfl⟩;rw[C]at h;let⟨_,_,entries,clock,E,Q,R⟩:=s.cY k _ l B;have F:=m.find Q R;rw[G]at F;let⟨T,q1,V,W⟩:=s.FM (P:=P) l B E (entries':=entries.push {key:=v,val:=x,born:=clock }) (clock':=clock+1) (es':=es++[(v,a)]) I (λi key a' hi=>by by_cases c:i<es.length;grind;rw[bu_ X]at hi;have PX:i=es.length:=I;subst PX;simp at hi;obtain⟨rfl,rfl⟩:=hi;exact⟨{key:=v,val:=x,born:=clock },I,rfl,h⟩);refine⟨undef,T,g,.inr ⟨?_,rfl⟩,.v,V,W⟩;simp only[execOp,K,N,M,C,Instr.mapUpdate,Sem.run_bind,run_underlying L,Result.andThen_ok,iV E,m.chk,F,q1,Sem.run_pure]
section
variable{rd:Bool}
def H.DJ{σ:Type}{st:σ->List (Nat×AV)}{so:σ->List (Nat×Ob)}{a:σ->Prop}{μ:σ->Nat}{k:Nat}(h:H P Y rd n Q (.out (.panic ch) K) U S):H P Y rd n (E0 P Y rd n B N st ds so a μ Q K k) (.out (.panic ch) []) U S:=h
end
theorem ao.zJ{f:FuncId}(h1:aF P Y f args ah.none_ r' S')(h2:aH S' r' r)(B:Pure r):ao P Y f args r:=by
 refine⟨B,ah.none_,h1.1,λF m A g c w E x G=>(h1.2 F m A g c w E x G).mono ?_⟩;rintro e K⟨v,l,rfl,L,d,n⟩;have a:∀b q,(l.still S').fz b q->g.fz b q\/A b:=by rintro b q(i|⟨k,sz,rows,fz,ex,a,y,rfl,i⟩);exact n.lS b q i;exact .inr (d.cY k _ a y).1
 have M:=h2.rep d L;let⟨u,s⟩:∃u:Gh,u=⟨g.ob,g.cp,λ_=>False,(l.still S').fz,g.fo⟩:=⟨_,rfl⟩;have N:∀k,¬g.al k:=λk a=>absurd (x.al k a) (Nat.not_lt_zero k);have C:Later g w u K:=by rw[s];exact⟨λk a=>N k a,λ_ _=>rfl,λ_ _=>rfl,λb q i=>.inl (n.fz b q i),n.cell⟩
 refine⟨v,u,rfl,?_,?_,{C with size:=n.size,aQ:=n.aQ,lS:=by rw[s];exact a }⟩;rw[s];exact aN.pure (g:=l.still S') (g':=⟨g.ob,g.cp,λ_=>False,(l.still S').fz,g.fo⟩) (λ_ _ h=>h) (λ_ _ _=>rfl) M B;have t:∀k o,¬ah.none_.get k=some o:=λk o h=>by simp[ah.none_]at h
 refine⟨d.base,d.up,d.lo,λk a=>?_,λk o a=>absurd a (t k o),λj k o p z=>absurd z (t j o),?_,λb q Q=>C.fz b q (x.uv b q Q),λk J a=>absurd a (t k _),λk J j o a=>absurd a (t k _),λj k J T z=>absurd z (t j _)⟩;rw[s]at a;exact a.elim;rw[s];rintro b q(i|⟨k,sz,rows,fz,ex,a,y,rfl,i⟩);exact d.dN b q i;exact(d.cY k _ a y).2.1
section
attribute [local irreducible] ao aF D H
def atE:=aD func60 call60
def qw:List Nat:=[9,4,0,8,10,7,1,6,16]
def atF:=aD func62 call62
def qx:List Nat:=[9,4,0,8,10,7,1,6,16]
def atG:=aD func65 call65
def FO:List Nat:=[9,4,0,8,10,7,1,6,16]
def atH:=aD func67 call67
def FP:List Nat:=[9,4,0,8,10,7,1,6,16]
theorem aos(p:Fi->Bool)(l:List Fi)(gid:FuncId)(fs cs:List AV)(n:l.length<=1099511627776)(o:Pure (.fn (.func gid) fs cs))(h:∀x∈l,zE prog Y (.fn (.func gid) fs cs) [fi O x] (p x)):ab Y 65 [kJ O l,.fn (.func gid) fs cs] (.v (.bool (l.all p))):=by
 let⟨R,c⟩:=aq (l.all p);rw[<-c];refine st atG FO .v ?_;repeat' first|refine lg FO λm q=>?_
 refine bE 0 0 [] (λi=>[(1,.fn (.func gid) fs cs),(7,kJ O l),(8,.v (.int .i64 m)),(9,.v (.int .i64 i))]) [] (λ_=>[]) l.length (λk=>R=(l.drop k).all p) I λi k e r a=>?_;clear c;refine Z FO ?_;by_cases f:k<l.length
 ·let⟨x,d,g⟩:=aA f;rw[g,aJ_]at a;have j:=h x (aW d);repeat' first|refine og FO (D.bh e d) ?_|refine bg FO (D.No rfl rfl j) (λ_=>?_) λ_=>?_|refine cg FO (λb=>?_) λb=>?_|refine ag FO λ_ _=>?_|refine xG FO ?_|refine rG FO ?_|refine fq ?_
  all_goals first|refine aL ?_;rw[a];simp_all;done|refine H.bO _ [] ?_ ?_ cz;grind;omega
 ·skip;repeat' first|refine cg FO (λb=>?_) λb=>?_|refine xG FO ?_|refine fq ?_
  all_goals first|omega|rw[a,al_ X];exact aL rfl
theorem aot(p:Bd->Bool)(l:List Bd)(gid:FuncId)(fs cs:List AV)(n:l.length<=1099511627776)(o:Pure (.fn (.func gid) fs cs))(h:∀x∈l,zE prog Y (.fn (.func gid) fs cs) [bd O x] (p x)):ab Y 67 [bf O l,.fn (.func gid) fs cs] (.v (.bool (l.all p))):=by
 let⟨R,c⟩:=aq (l.all p);rw[<-c];refine st atH FP .v ?_;repeat' first|refine lg FP λm q=>?_
 refine bE 0 0 [] (λi=>[(1,.fn (.func gid) fs cs),(7,bf O l),(8,.v (.int .i64 m)),(9,.v (.int .i64 i))]) [] (λ_=>[]) l.length (λk=>R=(l.drop k).all p) I λi k e r a=>?_;clear c;refine Z FP ?_;by_cases f:k<l.length
 ·let⟨x,d,g⟩:=aA f;rw[g,aJ_]at a;have j:=h x (aW d);repeat' first|refine og FP (D.bh e d) ?_|refine bg FP (D.No rfl rfl j) (λ_=>?_) λ_=>?_|refine cg FP (λb=>?_) λb=>?_|refine ag FP λ_ _=>?_|refine xG FP ?_|refine rG FP ?_|refine fq ?_
  all_goals first|refine aL ?_;rw[a];simp_all;done|refine H.bO _ [] ?_ ?_ cz;grind;omega
 ·skip;repeat' first|refine cg FP (λb=>?_) λb=>?_|refine xG FP ?_|refine fq ?_
  all_goals first|omega|rw[a,al_ X];exact aL rfl
end
structure PS where
 N:aT
 vs:List (Int×Int)js:JS
def kf(s:PS)(t:Tm)(l:List Nat):PS :=⟨s.N++[(t,l)],if t.k=1 then g9 s.vs t.i s.N.length else s.vs,⟨s.js.up++[s.N.length],if t.k=1 then s.js.sh else g9 s.js.sh s.N.length s.N.length,if t.k=1 then g9 s.js.ls s.N.length t.i else s.js.ls⟩⟩
mutual def cy:PS->Tm->PS×Nat|s,⟨k,i,n,a⟩=>match if k=1 then aI s.vs i else none with|some j=>(s,j.toNat)|none=>(kf (dY s a).1 ⟨k,i,n,a⟩ (dY s a).2,(dY s a).1.N.length)def dY:PS->List Tm->PS×List Nat|s,[]=>(s,[])|s,x::l=>((dY (cy s x).1 l).1,(cy s x).2::(dY (cy s x).1 l).2)end
structure sW(s:PS):Prop where
 vs:∀v,aI s.vs v=(oC s.N v).map Int.ofNat
 up:s.js.up.length=s.N.length
 nd:(s.vs.map (·.1)).Nodup
theorem xp{T:Type}:∀{l:List (Int×T)}{i:Int},i∈l.map (·.1)↔∃v,aI l i=some v|[],i=>by simp[aI]|p::l,i=>by rw[aF_,ae_,aI];by_cases e:p.1=i;rw[if_pos e];simp[e];rw[if_neg e,<-xp];simp[Ne.symm e]
theorem AU{T:Type}:∀{l:List (Int×T)}{i:Int}{v:T},aI l i=none->g9 l i v=l++[(i,v)]|[],_,_,_=>rfl|p::l,i,v,h=>by rw[aI]at h;rw[g9];by_cases e:p.1=i;rw[if_pos e]at h;cases h;rw[if_neg e]at h;rw[if_neg e,AU h];rfl
structure Grown(s s':PS):Prop where
 le:s.N.length<=s'.N.length
 upl:s'.js.up.length=s.js.up.length+(s'.N.length-s.N.length)kK:∀i,i<s.js.up.length->cA s'.js.up i=cA s.js.up i
 rE:∀i,s.js.up.length<=i->cA s'.js.up i=i
 oa:∀C:Nat,C<s.N.length->aI s'.js.sh C=aI s.js.sh C
 xq:∀C:Nat,s.N.length<=C->C<s'.N.length->aI s'.js.sh C=if(tn s'.N C).k=1 then aI s.js.sh C else some (C:Int)Cw:(∀C i,aI s.js.sh C=some i->0<=i)->∀C i,aI s'.js.sh C=some i->0<=i
 nH:∀C:Nat,C<s.N.length->aI s'.js.ls C=aI s.js.ls C
 xu:∀C:Nat,s.N.length<=C->C<s'.N.length->aI s'.js.ls C=if(tn s'.N C).k=1 then some (tn s'.N C).i else aI s.js.ls C
 KE:∀C:Nat,s'.N.length<=C->aI s'.js.sh C=aI s.js.sh C
 FR:∀C:Nat,s'.N.length<=C->aI s'.js.ls C=aI s.js.ls C
 pre:∀i,i<s.N.length->s'.N[i]?=s.N[i]?
theorem Uy{up:List Nat}{i:Nat}(h:up.length<=i):cA up i=i:=by unfold cA;rw[dr_ h];rfl
theorem Grown.refl(s:PS):Grown s s:=⟨aa_ _,X,λ_ _=>rfl,λi h=>Uy h,λ_ _=>rfl,λC a b=>X,λh=>h,λ_ _=>rfl,λC a b=>X,λ_ _=>rfl,λ_ _=>rfl,λ_ _=>rfl⟩
theorem Grown.trans{s t u:PS}(h:Grown s t)(k:Grown t u):Grown s u:=by have g:=h.le;have k0:=k.le;have j:=h.upl;have l:=k.upl;refine⟨X,X,λi b=>(k.kK i X).trans (h.kK i b),λi b=>?_,λC a=>(k.oa C X).trans (h.oa C a),λC c d=>?_,λf=>k.Cw (h.Cw f),λC a=>(k.nH C X).trans (h.nH C a),λC c d=>?_,λC a=>(k.KE C a).trans (h.KE C X),λC a=>(k.FR C a).trans (h.FR C X),λi b=>(k.pre i X).trans (h.pre i b)⟩;by_cases e:i<t.js.up.length;rw[k.kK i e,h.rE i b];exact k.rE i X;by_cases e:C<t.N.length;rw[k.oa C e,h.xq C c e,(fM k.pre e).1];rw[k.xq C X d,h.KE C X];by_cases e:C<t.N.length;rw[k.nH C e,h.xu C c e,(fM k.pre e).1];rw[k.xu C X d,h.FR C X]
theorem KF{s:PS}(g:sW s)(t:Tm)(l:List Nat):Grown s (kf s t l):=by
 have j:=g.up;have c:∀i,i<s.N.length->(s.N++[(t,l)])[i]?=s.N[i]?:=λi b=>bi_ b;refine⟨by simp[kf],by simp[kf],λi b=>?_,λi b=>?_,λC a=>?_,λC k d=>?_,λf C i=>?_,λC a=>?_,λC k d=>?_,λC a=>?_,λC a=>?_,c⟩;simp only[kf,cA];rw[bi_ b];simp only[kf];by_cases e:i=s.js.up.length;subst e;unfold cA;rw[bu_ (aa_ _)];simp[j];exact Uy (by simp;omega);simp only[kf];split;rfl;rw[c_,if_neg X];have e:C=s.N.length:=by simp[kf]at d;omega
 subst e;simp only[kf,ng.1];split;rfl;rw[c_,if_pos rfl];simp only[kf];split;exact f C i;rw[c_];split;intro h;cases oJ_ h;omega;exact f C i;simp only[kf];split;rw[c_,if_neg X];rfl;have e:C=s.N.length:=by simp[kf]at d;omega
 subst e;simp only[kf,ng.1];split;rw[c_,if_pos rfl];rfl;simp only[kf]at a⊢;rw[ar_,be_]at a;split;rfl;rw[c_,if_neg X];simp only[kf]at a⊢;rw[ar_,be_]at a;split;rw[c_,if_neg X];rfl
theorem YP{N:aT}{t:Tm}{v:Int}(h:t.k=1->oC N t.i=none):oC (N++[(t,l)]) v=if t.k=1/\t.i=v then some N.length else oC N v:=by unfold oC;rw[List.findIdx?_append];cases a:List.findIdx? (λx=>x.1.k==1&&x.1.i==v) N with|some j =>rw[if_neg];rfl;rintro⟨c,rfl⟩;have:=h c;unfold oC at this;rw[this]at a;cases a|none =>
  by_cases e:t.k=1/\t.i=v;rw[if_pos e];simp[e.1,e.2];rw[if_neg e];have:(t.k==1&&t.i==v)=false:=by rw[dt_];by_cases b:t.k=1;exact .inr (by simpa usingλd=>e ⟨b,d⟩);exact .inl (by simpa using b)
  simp[this]
theorem Nr{s:PS}(c:sW s){t:Tm}(h:t.k=1->oC s.N t.i=none):sW (kf s t l):=by
 refine⟨λv=>?_,by simp[kf,c.up],?_⟩;rotate_left;simp only[kf];split;rename_i e;have f:aI s.vs t.i=none:=by rw[c.vs,h e];rfl
 rw[AU f,aZ_,List.nodup_append];refine⟨c.nd,aB,λa g b i d=>?_⟩;simp only[aF_,aR_,ak_]at i;rw[d,i,xp]at g;let⟨x,j⟩:=g;rw[f]at j;cases j;exact c.nd;simp only[kf];rw[YP h];by_cases e:t.k=1;rw[if_pos e,c_];by_cases d:t.i=v;rw[if_pos d,if_pos ⟨e,d⟩];rfl;rw[if_neg d,if_neg λh=>d h.2];exact c.vs v;rw[if_neg e,if_neg λh=>e h.1];exact c.vs v
mutual theorem uA:∀(s:PS)(t:Tm),sW s->eY t->(cy s t).1.N=(b_ s.N t).1/\(cy s t).2=(b_ s.N t).2/\sW (cy s t).1/\Grown s (cy s t).1
 |s,⟨k,i,n,a⟩,b,c=>by
  rw[cy,b_];by_cases d:k=1;subst d;rw[eY,if_pos rfl]at c;obtain⟨rfl,rfl⟩:=c;simp only[if_true,b.vs];cases o:oC s.N i with|some j=>exact⟨rfl,aB,b,.refl s⟩|none =>simp only[bs_,dY,cu];exact⟨by simp[kf],aB,Nr b λ_=>o,KF b _ _⟩
  simp only[if_neg d];rw[eY,if_neg d]at c;let⟨f,h,g,m⟩:=JA s a b c.1;refine⟨by simp only[kf,f,h],by rw[f],Nr g λe=>absurd e d,m.trans (KF g _ _)⟩;theorem JA:∀(s:PS)(l:List Tm),sW s->fe l->(dY s l).1.N=(cu s.N l).1/\(dY s l).2=(cu s.N l).2/\sW (dY s l).1/\Grown s (dY s l).1|s,[],b,_=>by rw[dY,cu];exact⟨rfl,rfl,b,.refl s⟩|s,x::l,b,c=>by rw[fe]at c;let⟨f,h,g,m⟩:=uA s x b c.1;let⟨p,q,k3,k4⟩:=JA (cy s x).1 l g c.2;rw[dY,cu];simp only[p,q,f,h];exact⟨trivial,trivial,k3,m.trans k4⟩;end
section
variable{c:Nat->Nat}
theorem rF.grow{s f:PS}(h:rF E s.N zzD c [] s.js)(G:∀p∈zzD,p.1<s.N.length/\p.2<s.N.length)(m:yc s.N f.N)(a:Grown s f){x y:Nat}(J:x<f.N.length)(K:y<f.N.length)(L:(tn f.N x,tn f.N y)∈E):rF E f.N ((x,y)::zzD) (λi=>if i<s.N.length then c i else i) [(x,y)] f.js:=by
 let⟨M,q⟩:=h.uf;have T:=h.len;have V:=a.upl;have N:=a.le;have A:∀i,i<s.N.length->c i<s.N.length:=λi b=>by have:=(q.rt i X).2;omega
 have r:∀j C,C<s.N.length->(if j<s.N.length then c j else j)=C->j<s.N.length/\c j=C:=λj C k e=>by split at e;exact⟨by assumption,e⟩;omega
 have t:∀j C,s.N.length<=C->(if j<s.N.length then c j else j)=C->j=C:=λj C k e=>by split at e;rename_i P;have:=A j P;omega;exact e
 refine⟨h.gi.grow G m.g m.le m.pre (λi b=>⟨if_pos b,A i b⟩) (λi b=>if_neg X) J K L,⟨M,?_⟩,X,a.Cw h.pos,λC k e=>?_,λC k e=>?_,λC k=>by rw[a.KE C k];exact h.YR C X,λC k=>by rw[a.FR C k];exact h.frl C X⟩;refine⟨λi b=>?_,λi b=>?_,λi b=>?_,λi b e=>?_,λi b e=>?_⟩;by_cases e:i<s.N.length;rw[a.kK i X];have:=q.lt i X;omega;rw[a.rE i X];exact b;by_cases e:i<s.N.length;simp only[if_pos e];rw[a.kK _ (by have:=A i e;omega)];have:=q.rt i X;exact⟨this.1,X⟩;simp only[if_neg e];exact⟨a.rE i X,b⟩;by_cases e:i<s.N.length;rw[a.kK i X];have:=q.lt i X;simp only[if_pos e];rw[if_pos X];exact q.st i X;rw[a.rE i X];by_cases d:i<s.N.length;rw[a.kK i X]at e;simp only[if_pos d];exact q.fx i X e;simp only[if_neg d];by_cases d:i<s.N.length;rw[a.kK i X]at e⊢;exact q.ht i X e;exact absurd (a.rE i X) e;by_cases d:C<s.N.length;simp only[if_pos d]at e;have n:=h.Cw C d e;show jM _ _ _ (dk f.js.sh C);have Q:dk f.js.sh C=dk s.js.sh C:=by unfold dk;rw[a.oa C d]
 rw[Q];cases w:dk s.js.sh C with|some i =>rw[w]at n;let⟨u,B,F⟩:=n;exact⟨X,by simp only[if_pos u];exact B,by rw[(fM m.pre u).1];exact F⟩|none =>rw[w]at n;intro i b l;let⟨o,z⟩:=r i C d l;rw[(fM m.pre o).1];exact n i o z
 show jM _ _ _ (dk f.js.sh C);unfold dk;rw[a.xq C X k];by_cases g:(tn f.N C).k=1;rw[if_pos g];rw[h.YR C X];intro i b l;rw[t i C X l];exact g;rw[if_neg g];exact⟨by simpa using k,by simp only[dq_];exact if_neg d,by simpa using g⟩;by_cases d:C<s.N.length;simp only[if_pos d]at e;have n:=h.aY C d e;show w6 _ _ _ (aI f.js.ls (C:Int));rw[a.nH C d];cases w:aI s.js.ls (C:Int) with|some v =>rw[w]at n;let⟨⟨j,u,B,F,R⟩,S⟩:=n;refine⟨⟨j,X,by simp only[if_pos u];exact B,by rw[(fM m.pre u).1];exact F,by rw[(fM m.pre u).1];exact R⟩,λi b l g=>?_⟩;let⟨o,z⟩:=r i C d l;rw[(fM m.pre o).1]at g⊢;exact S i o z g|none =>rw[w]at n;intro i b l;let⟨o,z⟩:=r i C d l;rw[(fM m.pre o).1];exact n i o z
 show w6 _ _ _ (aI f.js.ls (C:Int));rw[a.xu C X k];by_cases g:(tn f.N C).k=1;rw[if_pos g];refine⟨⟨C,k,if_neg d,g,rfl⟩,λi b l _=>?_⟩;rw[t i C X l];exact bp_ _;rw[if_neg g,h.frl C X];intro i b l;rw[t i C X l];exact g
end
section
attribute [local irreducible] ao aF D H
def aou:=aD func308 call308
def zK:List Nat:=[8,0,5,4,7,9,1,16]
theorem PY(p:Bd->Bool)(l:List Bd)(gid:FuncId)(fs cs:List AV)(n:l.length<=1099511627776)(o:Pure (.fn (.func gid) fs cs))(h:∀x∈l,zE prog Y (.fn (.func gid) fs cs) [bd O x] (p x)):ab Y 308 [bf O l,.fn (.func gid) fs cs] (iv (dp p l 0)):=by
 let⟨R,c⟩:=aq (dp p l 0);rw[<-c];refine st aou zK .v ?_;repeat' first|refine lg zK λm q=>?_
 refine bE 0 0 [] (λi=>[(0,bf O l),(1,.fn (.func gid) fs cs),(7,.v (.int .i64 m)),(8,.v (.int .i64 i))]) [] (λ_=>[]) l.length (λk=>R=dp p (l.drop k) k) I λi k e r a=>?_;clear c;refine Z zK ?_;by_cases f:k<l.length
 ·let⟨x,d,g⟩:=aA f;rw[g,dp]at a;have j:=h x (aW d);repeat' first|refine og zK (D.bh e d) ?_|refine bg zK (D.No rfl rfl j) (λ_=>?_) λ_=>?_|refine cg zK (λb=>?_) λb=>?_|refine ag zK λ_ _=>?_|refine xG zK ?_|refine rG zK ?_|refine fq ?_
  all_goals first|rw[if_pos I]at a;refine dx ?_;omega|rw[if_neg I]at a;refine H.bO _ [] ?_ ?_ cz;grind;omega|omega
 ·skip;repeat' first|refine cg zK (λb=>?_) λb=>?_|refine xG zK ?_|refine fq ?_
  all_goals first|omega|rw[a,al_ X];exact dx rfl
end
end Go.Proofs.YtbdcmpknicjopaaGreat
