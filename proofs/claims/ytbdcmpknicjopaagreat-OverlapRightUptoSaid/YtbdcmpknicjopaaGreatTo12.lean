import Derived.JoinedCond
import Derived.Laws.StructEq
import Derived.ProofKit
import Derived.Test.YtbdcmpknicjopaaGreatRows
import Derived.Test.YtbdcmpknicjopaaGreatTo11
namespace Go.Proofs.YtbdcmpknicjopaaGreat
set_option linter.all false
set_option maxRecDepth 100000
open Go.RowKit Proofs.Tryz
variable{E:List (Tm×Tm)}{K:List iu}{N:aW}{O:Hd}{P:Program}{Q:Exit->AA->ao->Prop}{S:ao}{U:World}{Y:AA}{c:Nat->Nat}{cl:List Nat}{m zzD:List (Nat×Nat)}{n t:Nat}{x:QO}
section
open Go.ChangeShapes Go.WideShapes Go.ChangeAt Go.RowKit
theorem laidOut:laidOutB prog=true:=by kernel_rfl
theorem T6:mapsRowed prog=true:=by kernel_rfl
theorem ahu:prog.stopsHeard=true:=by kernel_rfl
theorem ahv:prog.mayEnter=true:=by kernel_rfl
theorem gF{a b:Bool}(h:a=true)(k:b=true):(a&&b)=true:=by rw[h,k];rfl
end
section
attribute [local irreducible] aq aG D I
def aoP:=aD func125 call125
def P_:=[1,6,15,18,2,0,7,3,4]
def UI(x:Tm)(a:x.ok):ad U 121 [tm O x] (.v (.bool (cB x))):=ab1 KR x a
def Ii(x:At)(a:x.ok)(b:x.n.size<=1099511627776):ad U 120 [at_ O x] (.v (.bool (fw x))):=ab2 KR x a b
theorem CF(x:Gl)(t:x.ok)(r:x.n.size<=1099511627776):ad U 125 [gl O x] (.v (.bool (dw x))):=by
 let⟨o,n,a⟩:=x;let⟨g,d⟩:=t;dsimp only at g d r;have i:=Ii (U:=U) (O:=O) ⟨n,a⟩ ⟨g,d⟩ r;have e:=CB (U:=U) (O:=O) (a:=a) 20 (λy u v j w=>⟨(kK y _ _ j).1,(kK y _ _ j).2,Mt (O:=O) KR y 20 v (d.mem y u) j w X X⟩) g 200 X X;have f:=NG a;let⟨⟨b,z⟩,s⟩:∃p,p=dK a 20 200:=⟨_,rfl⟩;rw[<-s]at e f;simp only at e f;let⟨A,k⟩:=au (fw ⟨n,a⟩);rw[<-k]at i;let⟨R,c⟩:=au (dw ⟨o,n,a⟩);rw[<-c];rw[dw]at c;simp only at c;rw[<-k,<-f]at c;clear f s k d;refine st aoP P_ .v ?_;repeat' first|refine bg P_ (pl i) (λ_=>?_) λ_=>?_|refine bg P_ (D.nZ (m:=[(0,1)]) (to:=[(1,some (jY z))]) e rfl ⟨Rn.pt rfl rfl,Rn.pure (cQ _),Rn.pure .v,trivial⟩ (Rb.pure .v) rfl rfl ⟨⟨_,rfl,lO.pure (mw _)⟩,trivial⟩ ⟨⟨0,_,rfl,rfl,mW.pure (mw _)⟩,trivial⟩ rfl (by repeat first|exactλ_ _ h=>Z|refine o_ ?_ rfl) (.inr rfl)) (λl=>?_) λl=>?_|refine cg P_ (λl=>?_) λl=>?_|refine lg P_ λm B=>?_|refine fq ?_
 all_goals clear i e;refine aO ?_;rw[c];clear c
 all_goals first|rw[if_pos X];simp_all;done|(rw[if_neg X];let⟨C,q⟩:=au (arity o);rw[<-q];unfold arity at q;(repeat' split at q)<;>first|omega|simp_all<;>(intros;omega))|rw[if_neg X,decide_eq_false (show¬arity o=(a.length:Int) by unfold arity;(repeat' split)<;>omega)];simp;done
def aoQ:=aD func251 call251
def zU:=[5,0,4,9,1,17]
def aoR:=aD func217 call217
def ajD:=[0,1,4,5,9]
theorem ajE(l:List Int)(v:Int)(h:l.length<=1099511627776):ad U 251 [aQ O aH false l,iv v] (.v (.bool (l.contains v))):=by
 refine st aoQ zU .v ?_;refine bL 0 0 [] (λi=>[(0,aQ O aH false l),(1,.v (.int .i64 v)),(5,.v (.int .i64 i))]) [] (λ_=>[]) l.length (λk=>l.contains v=(l.drop k).contains v) aE λi k c j a=>?_;refine H zU ?_;by_cases d:k<l.length
 ·let⟨x,e,f⟩:=aC d;rw[f,db_]at a;repeat' first|refine og zU (D.bw c e) ?_|refine cg zU (λb=>?_) λb=>?_|refine lg zU λm g=>?_|refine ag zU λ_ _=>?_|refine xG zU ?_|refine rG zU ?_|refine fq ?_
  all_goals first|refine I.bu _ [] ?_ ?_ cq;grind;omega|refine aO ?_;rw[a];simp;left;omega|omega
 ·skip;repeat' first|refine cg zU (λb=>?_) λb=>?_|refine lg zU λm g=>?_|refine xG zU ?_|refine fq ?_
  all_goals first|omega|rw[a,ar_ X];exact aO rfl
theorem UJ(a b:Int):ad U 217 [iv a,iv b] (iv (jy a b)):=by
 refine st aoR ajD .v ?_;repeat' first|refine cg ajD (λc=>?_) λc=>?_|refine fq ?_
 all_goals refine aL.of_eq ?_;simp only[jy,iv];(repeat' split)<;>first|rfl|omega
def aoS:=aD func108 call108
def zV:=[7,0,6,11,1,2,29]
def jo(l:List Dc)(n:ByteArray)(a:Int):Bool:=l.any λd=>d.n.toList==n.toList&&d.ar==a
theorem y8(l:List Dc)(n:ByteArray)(a:Int)(p:l.length<=1099511627776):ad U 108 [ir O l,.v (.string n),iv a] (.v (.bool (jo l n a))):=by
 unfold jo;let⟨R,e⟩:=au (l.any λd=>d.n.toList==n.toList&&d.ar==a);rw[<-e];refine st aoS zV .v ?_;refine bL 0 0 [] (λi=>[(0,ir O l),(1,.v (.string n)),(2,.v (.int .i64 a)),(7,.v (.int .i64 i))]) [] (λ_=>[]) l.length (λk=>R=(l.drop k).any λd=>d.n.toList==n.toList&&d.ar==a) Z λi k f q b=>?_;clear e;refine H zV ?_;by_cases g:k<l.length
 ·let⟨x,h,j⟩:=aC g;rw[j,bH_]at b;repeat' first|refine og zV (D.bw f h) ?_|refine cg zV (λc=>?_) λc=>?_|refine lg zV λm o=>?_|refine ag zV λ_ _=>?_|refine xG zV ?_|refine rG zV ?_|refine fq ?_
  all_goals first|refine aO ?_;rw[b];simp_all;done|refine I.bu _ [] ?_ ?_ cq;grind;omega
 ·skip;repeat' first|refine cg zV (λc=>?_) λc=>?_|refine lg zV λm o=>?_|refine xG zV ?_|refine fq ?_
  all_goals first|omega|rw[b,ar_ X];exact aO rfl
end
def zW(P:Program)(U:World)(F:AV)(xs:List AV)(b:Bool):Prop:=∃gid args,fO F xs=some (gid,args)/\iZ args/\aq P U gid args (.v (.bool b))
theorem D.NJ{P:Program}{U:World}{Y:AA}{S:ao}{dr:Bool}{f:QO}{a:List QO}{F:AV}{l:List AV}{b:Bool}(c:f.ev Y.tm=F)(d:a.map (·.ev Y.tm)=l)(h:zW P U F l b):D P U dr (.call f a) Y S (.v (.bool b)) S:=by let⟨gid,args,e,g,i⟩:=h;subst c d;exact D.bU e i g
def dc(x:Dc):AV:=.agg (YN x)
def Mx(x:Dc):Pure (dc x):=.agg (Qb x)
def de{T:Type}(p:T->Bool):List T->Nat->Int|[],_=>-1|x::l,k=>if p x then k else de p l (k+1)
theorem tZ{T:Type}(p:T->Bool):∀(l:List T)(k:Nat),decide (0<=de p l k)=l.any p|[],_=>rfl|x::l,k=>by rw[de,bH_];split;grind;rw[tZ p l];simp_all
def I.Wz{σ T:Type}{B N:Nat}{d:List (Nat×AV)}{ds:List DE}{so:σ->List (Nat×Ob)}{a:List T->σ->Prop}{c:List T}(b:σ)(m:List (Nat×Nat))(e:a c b)(hC:Canon B N m Y S [] [] (so b)):I P U true n (ab6 P U n B N d ds so a Q K c) (.out .normal []) Y S:=⟨b,m,e,hC⟩
section
attribute [local irreducible] aq aG D I
def afc:=aD func200 call200
def iG:=[8,0,5,4,7,9,1,16]
def aoT:=aD func198 call198
def zX:=[8,0,5,4,7,9,1,16]
def aoU:=aD func326 call326
def zY:=[8,0,5,4,7,9,1,16]
def aoV:=aD func282 call282
def zZ:=[8,0,5,4,7,9,1,16]
def afd:=aD func132 call132
def My:=[4,0,1]
def aoW:=aD func227 call227
def ab7:=[4,0,1]
theorem ajF(p:Int->Bool)(l:List Int)(gid:FuncId)(fs cs:List AV)(n:l.length<=1099511627776)(o:Pure (.fn (.func gid) fs cs))(h:∀x∈l,zW prog U (.fn (.func gid) fs cs) [iv x] (p x)):ad U 200 [aQ O aH false l,.fn (.func gid) fs cs] (iv (de p l 0)):=by
 let⟨R,c⟩:=au (de p l 0);rw[<-c];refine st afc iG .v ?_;repeat' first|refine lg iG λm q=>?_
 refine bL 0 0 [] (λi=>[(0,aQ O aH false l),(1,.fn (.func gid) fs cs),(7,.v (.int .i64 m)),(8,.v (.int .i64 i))]) [] (λ_=>[]) l.length (λk=>R=de p (l.drop k) k) Z λi k e r a=>?_;clear c;refine H iG ?_;by_cases f:k<l.length
 ·let⟨x,d,g⟩:=aC f;rw[g,de]at a;have j:=h x (aZ d);repeat' first|refine og iG (D.bw e d) ?_|refine bg iG (D.NJ rfl rfl j) (λ_=>?_) λ_=>?_|refine cg iG (λb=>?_) λb=>?_|refine ag iG λ_ _=>?_|refine xG iG ?_|refine rG iG ?_|refine fq ?_
  all_goals first|rw[if_pos Z]at a;refine dA ?_;omega|rw[if_neg Z]at a;refine I.bu _ [] ?_ ?_ cz;grind;omega|omega
 ·skip;repeat' first|refine cg iG (λb=>?_) λb=>?_|refine xG iG ?_|refine fq ?_
  all_goals first|omega|rw[a,ar_ X];exact dA rfl
theorem ajG(p:Im->Bool)(l:List Im)(gid:FuncId)(fs cs:List AV)(n:l.length<=1099511627776)(o:Pure (.fn (.func gid) fs cs))(h:∀x∈l,zW prog U (.fn (.func gid) fs cs) [it O x] (p x)):ad U 198 [mH O l,.fn (.func gid) fs cs] (iv (de p l 0)):=by
 let⟨R,c⟩:=au (de p l 0);rw[<-c];refine st aoT zX .v ?_;repeat' first|refine lg zX λm q=>?_
 refine bL 0 0 [] (λi=>[(0,mH O l),(1,.fn (.func gid) fs cs),(7,.v (.int .i64 m)),(8,.v (.int .i64 i))]) [] (λ_=>[]) l.length (λk=>R=de p (l.drop k) k) Z λi k e r a=>?_;clear c;refine H zX ?_;by_cases f:k<l.length
 ·let⟨x,d,g⟩:=aC f;rw[g,de]at a;have j:=h x (aZ d);repeat' first|refine og zX (D.bw e d) ?_|refine bg zX (D.NJ rfl rfl j) (λ_=>?_) λ_=>?_|refine cg zX (λb=>?_) λb=>?_|refine ag zX λ_ _=>?_|refine xG zX ?_|refine rG zX ?_|refine fq ?_
  all_goals first|rw[if_pos Z]at a;refine dA ?_;omega|rw[if_neg Z]at a;refine I.bu _ [] ?_ ?_ cz;grind;omega|omega
 ·skip;repeat' first|refine cg zX (λb=>?_) λb=>?_|refine xG zX ?_|refine fq ?_
  all_goals first|omega|rw[a,ar_ X];exact dA rfl
theorem ajH(p:Bd->Bool)(l:List Bd)(gid:FuncId)(fs cs:List AV)(n:l.length<=1099511627776)(o:Pure (.fn (.func gid) fs cs))(h:∀x∈l,zW prog U (.fn (.func gid) fs cs) [bd O x] (p x)):ad U 326 [a_ O l,.fn (.func gid) fs cs] (iv (de p l 0)):=by
 let⟨R,c⟩:=au (de p l 0);rw[<-c];refine st aoU zY .v ?_;repeat' first|refine lg zY λm q=>?_
 refine bL 0 0 [] (λi=>[(0,a_ O l),(1,.fn (.func gid) fs cs),(7,.v (.int .i64 m)),(8,.v (.int .i64 i))]) [] (λ_=>[]) l.length (λk=>R=de p (l.drop k) k) Z λi k e r a=>?_;clear c;refine H zY ?_;by_cases f:k<l.length
 ·let⟨x,d,g⟩:=aC f;rw[g,de]at a;have j:=h x (aZ d);repeat' first|refine og zY (D.bw e d) ?_|refine bg zY (D.NJ rfl rfl j) (λ_=>?_) λ_=>?_|refine cg zY (λb=>?_) λb=>?_|refine ag zY λ_ _=>?_|refine xG zY ?_|refine rG zY ?_|refine fq ?_
  all_goals first|rw[if_pos Z]at a;refine dA ?_;omega|rw[if_neg Z]at a;refine I.bu _ [] ?_ ?_ cz;grind;omega|omega
 ·skip;repeat' first|refine cg zY (λb=>?_) λb=>?_|refine xG zY ?_|refine fq ?_
  all_goals first|omega|rw[a,ar_ X];exact dA rfl
theorem ajI(p:Dc->Bool)(l:List Dc)(gid:FuncId)(fs cs:List AV)(n:l.length<=1099511627776)(o:Pure (.fn (.func gid) fs cs))(h:∀x∈l,zW prog U (.fn (.func gid) fs cs) [dc x] (p x)):ad U 282 [ir O l,.fn (.func gid) fs cs] (iv (de p l 0)):=by
 let⟨R,c⟩:=au (de p l 0);rw[<-c];refine st aoV zZ .v ?_;repeat' first|refine lg zZ λm q=>?_
 refine bL 0 0 [] (λi=>[(0,ir O l),(1,.fn (.func gid) fs cs),(7,.v (.int .i64 m)),(8,.v (.int .i64 i))]) [] (λ_=>[]) l.length (λk=>R=de p (l.drop k) k) Z λi k e r a=>?_;clear c;refine H zZ ?_;by_cases f:k<l.length
 ·let⟨x,d,g⟩:=aC f;rw[g,de]at a;have j:=h x (aZ d);repeat' first|refine og zZ (D.bw e d) ?_|refine bg zZ (D.NJ rfl rfl j) (λ_=>?_) λ_=>?_|refine cg zZ (λb=>?_) λb=>?_|refine ag zZ λ_ _=>?_|refine xG zZ ?_|refine rG zZ ?_|refine fq ?_
  all_goals first|rw[if_pos Z]at a;refine dA ?_;omega|rw[if_neg Z]at a;refine I.bu _ [] ?_ ?_ cz;grind;omega|omega
 ·skip;repeat' first|refine cg zZ (λb=>?_) λb=>?_|refine xG zZ ?_|refine fq ?_
  all_goals first|omega|rw[a,ar_ X];exact dA rfl
theorem ajJ(p:Int->Bool)(l:List Int)(gid:FuncId)(fs cs:List AV)(d:l.length<=1099511627776)(a:Pure (.fn (.func gid) fs cs))(h:∀x∈l,zW prog U (.fn (.func gid) fs cs) [iv x] (p x)):ad U 132 [aQ O aH false l,.fn (.func gid) fs cs] (.v (.bool (l.any p))):=by
 have b:=ajF (U:=U) (O:=O) p l gid fs cs d a h;have c:=tZ p l 0;let⟨j,e⟩:=au (de p l 0);rw[<-e]at b c;refine st afd My .v ?_;repeat' first|refine ig My (D.bU rfl b ⟨a8 _,a,trivial⟩) λ_ _=>?_|refine cg My (λf=>?_) λf=>?_|refine fq ?_
 all_goals subst_vars;refine aO ?_;rw[<-c];simp_all
theorem ajK(p:Dc->Bool)(l:List Dc)(gid:FuncId)(fs cs:List AV)(d:l.length<=1099511627776)(a:Pure (.fn (.func gid) fs cs))(h:∀x∈l,zW prog U (.fn (.func gid) fs cs) [dc x] (p x)):ad U 227 [ir O l,.fn (.func gid) fs cs] (.v (.bool (l.any p))):=by
 have b:=ajI (U:=U) (O:=O) p l gid fs cs d a h;have c:=tZ p l 0;let⟨j,e⟩:=au (de p l 0);rw[<-e]at b c;refine st aoW ab7 .v ?_;repeat' first|refine ig ab7 (D.bU rfl b ⟨eM _,a,trivial⟩) λ_ _=>?_|refine cg ab7 (λf=>?_) λf=>?_|refine fq ?_
 all_goals subst_vars;refine aO ?_;rw[<-c];simp_all
end
theorem UK{o:Op}{y:QO}(h:res P.toTables o=some (.eqs t x y)):∃u v s,o=.binOp .eql t u v s/\x=qo u/\y=qo v:=by cases o with|binOp a b u v s =>simp only[res]at h;split at h;grind;grind;grind;grind;split at h;simp only[oI_,n0.eqs.injEq]at h;obtain⟨rfl,rfl,rfl⟩:=h;exact⟨_,_,_,rfl,rfl,rfl⟩;grind;grind|_ =>
  simp only[res]at h;repeat' split at h
  all_goals cases h
def EqS(P:Program)(t:Nat)(a b:Value)(e:Bool):Prop:=(∃c d,a=.agg c/\b=.agg d)/\P.eqGuardType P.depth t=false/\∀w,(binOp .eql t a b).run P w=.ok (.bool e) w
theorem UL{y:QO}{a b:Value}{e:Bool}(h:EqS P t a b e){o:Oper}(j:res P.toTables o.op=some (.eqs t x y))(β:AA)(d:toV (x.ev β.tm)=some a)(f:toV (y.ev β.tm)=some b):jZ P U n o β S (.v (.bool e)) S:=by
 obtain⟨u,v,s,k,rfl,rfl⟩:=UK j;rw[aY]at d f;refine bt.ops (bt.quiet λA g c w C i=>⟨.bool e,?_,.v⟩) λc e=>Z;have l:=CH (i.ev u) d;have m:=CH (i.ev v) f;obtain⟨⟨p,q,rfl,rfl⟩,r,z⟩:=h;have B:(eqGuard .eql t u v (.agg p) (.agg q)).run P w=.ok () w:=by simp[eqGuard,r]
 simp only[execOp,k,l,m,Sem.run_bind,B,Result.andThen_ok,z w,Sem.run_pure]
theorem D.eqs{dr:Bool}{y:QO}{a b:Value}{e:Bool}(g:toV (x.ev Y.tm)=some a)(i:toV (y.ev Y.tm)=some b)(h:EqS P t a b e):D P U dr (.eqs t x y) Y S (.v (.bool e)) S:=by cases dr with|false=>exactλn o c=>UL h c Y g i|true =>intro n o c;let⟨u,v,s,d,j,k⟩:=UK c;have key:∀z∈o.op.operands,(Y.only (d_ o)).ev z=Y.ev z:=λz l=>h_ λt e=>ic Z;have m:(Y.only (d_ o)).ev u=Y.ev u:=key u (by rw[d];simp[Op.operands]);have p:(Y.only (d_ o)).ev v=Y.ev v:=key v (by rw[d];simp[Op.operands]);have f:∀T,jZ P U n o (Y.only (d_ o)) T (.v (.bool e)) T:=λT=>UL h c _ (by grind[aY]) (by grind[aY]);exact⟨f S,λ_=>⟨rfl,f⟩,λ_=>rfl⟩
section
attribute [local irreducible] aq aG D I
def aoX:=aD func255 call255
def fI:=[2,17,1,4,0,9,16,18,15,6,24]
def aoY:=aD func254 call254
def t_:=[6,1,5,7,3,0,15]
def aoZ:=aD func192 call192
def auA:=[2,0,1]
def ao0:=aD func191 call191
def FW:=[5,3,4,2,0,7,8,12]
def ao1:=aD func122 call122
def ab8:=[2,0,1]
def ao2:=aD func129 call129
def ab9:=[2,0,1]
def ao3:=aD func127 call127
def ab_:=[2,0,1]
mutual def eN:Tm->List Int|⟨k,i,n,a⟩=>if k=1 then[i] else if k=2 then a7 a else[]def a7:List Tm->List Int|[]=>[]|x::l=>eN x++a7 l end
def bV(s:List Int):List Int->List Int|[]=>[]|x::l=>if s.contains x then bV s l else x::bV (s++[x]) l
theorem j9{a:List Tm}{k:Nat}{y:Tm}(h:a.drop k=y::a.drop (k+1)):a7 (a.drop k)=eN y++a7 (a.drop (k+1)):=by rw[h,a7]
theorem Ij{J:eU}(h0:aU m 0=0):∀k a,fN [(0,.fo J)] k=some (.fo a)->∃j,j<1/\aU m j=k:=λk a h=>by have:=gy h;simp at this;exact⟨0,X,Z⟩
theorem YO{f:Nat->Option Ob}{d:Nat}{a:Option Ob}(h:∀k J,f k=some (.fo J)->∃j,j<1/\aU m j=k)(b:(∀J,a≠some (.fo J))\/aU m 0=d):∀k J,bK f d a k=some (.fo J)->∃j,j<1/\aU m j=k:=λk J c=>by grind[aK,aR]
theorem YP(x:Tm):∀(J:eU)(b:Bool)(e:eU),x.ok->Ys prog U J ((eN x).map aH) b e ->aG prog U 255 [tm O x,.yl 0] (aw [(0,.fo J)] 1) (.v (.bool b)) (aw [(0,.fo e)] 1):=by
 refine Tm.ind (p:=λx=>∀(J:eU)(b:Bool)(e:eU),x.ok->Ys prog U J ((eN x).map aH) b e ->aG prog U 255 [tm O x,.yl 0] (aw [(0,.fo J)] 1) (.v (.bool b)) (aw [(0,.fo e)] 1)) ?_ x;intro k i n a A J b e E d;let⟨F,G,v⟩:=E.out;dsimp only at F G v;have s:=ajn (U:=U) (O:=O) ⟨k,i,n,a⟩;rw[qH]at s;dsimp only at s;refine sc 1 1 aoX ?_;refine H fI ?_;rw[eN]at d;by_cases t:k=1
 ·subst t;have o:=d.one;repeat' first|refine I.op rfl (D.yl rfl rfl (o _ 0 rfl)) ?_;refine H fI ?_|refine bq (λc=>?_) λc=>?_<;>(try simp only[bT]at c)<;>(first|exact dV c|refine H fI ?_)|refine b9 λm f=>?_;(try rw[aA]at f);refine H fI ?_|refine cN λ_ _=>?_;refine H fI ?_|refine iJ λ_ _=>?_;refine H fI ?_|refine I.str rfl (D.cat rfl rfl (by assumption)) λ_ _=>?_;refine H fI ?_|refine xG fI ?_|refine rG fI ?_|refine fq ?_
  exact⟨[],.aF .v,⟨.inl ⟨_,rfl,.same trivial⟩,trivial⟩,rfl⟩
 rw[if_neg t]at d;let⟨g,q⟩:=au (if k=2 then a else[]);rw[<-q]at s;have B:Ys prog U J ((a7 g).map aH) b e:=by rw[q];split at d;rw[if_pos Z];exact d;rw[if_neg Z,a7];exact d
 have P:g.length<=1099511627776:=by rw[q];split;omega;simp
 have u:∀y∈g,y∈a:=by intro y d;rw[q]at d;split at d;exact d;cases d
 clear d q;repeat' first|refine I.op rfl (pl s) ?_;refine H fI ?_|refine bq (λc=>?_) λc=>?_<;>(try simp only[bT]at c)<;>(first|exact dV c|refine H fI ?_)|refine b9 λm f=>?_;(try rw[aA]at f);refine H fI ?_|refine cN λ_ _=>?_;refine H fI ?_|refine iJ λ_ _=>?_;refine H fI ?_|refine I.str rfl (D.cat rfl rfl (by assumption)) λ_ _=>?_;refine H fI ?_|refine xG fI ?_|refine rG fI ?_|refine fq ?_
 exact absurd (by assumption) t;refine cW (τ:=eU) 2 2 [] (λp=>[(1,.yl 0),(15,tl O g),(16,.v (.int .i64 m)),(17,.v (.int .i64 p.1))]) [] (λp=>[(0,.fo p.2)]) g.length (λk p=>Ys prog U p.2 ((a7 (g.drop k)).map aH) b e) J (by simpa using B) ?_;rintro i k J w t r;simp only at w r;clear B;refine H fI ?_;by_cases K:k<g.length
 ·let⟨y,j,L⟩:=aC K;rw[j9 L,ba_]at r;rcases r.split with⟨M,o⟩|⟨C,o,N⟩
  ·subst M;have z:=A y (u y (aZ j)) _ _ _ (v.mem y (u y (aZ j))) o;repeat' first|refine I.op rfl (D.ind rfl rfl (cG (l:=g) w j) cH) ?_;refine H fI ?_|refine I.op rfl (D.nZ (m:=[(0,0)]) (to:=[(0,some (.fo e))]) z rfl ⟨Rn.pure (bM _),Rn.yl rfl rfl,trivial⟩ (Rb.pure .v) rfl rfl ⟨⟨_,rfl,lO.fo⟩,trivial⟩ ⟨⟨0,_,rfl,rfl,mW.fo⟩,trivial⟩ rfl (by repeat first|exact jn rfl|refine o_ ?_ rfl) (.inl (by repeat first|exact Ij rfl|refine YO ?_ (.inl λJ h=>Z)))) ?_;refine H fI ?_|refine bq (λc=>?_) λc=>?_<;>(try simp only[bT]at c)<;>(first|exact dV c|refine H fI ?_)|refine b9 λm f=>?_;(try rw[aA]at f);refine H fI ?_|refine cN λ_ _=>?_;refine H fI ?_|refine iJ λ_ _=>?_;refine H fI ?_|refine I.str rfl (D.cat rfl rfl (by assumption)) λ_ _=>?_;refine H fI ?_|refine xG fI ?_|refine rG fI ?_|refine fq ?_
   all_goals first|exact⟨[],.aF .v,⟨.inl ⟨_,rfl,.same trivial⟩,trivial⟩,rfl⟩|omega
  ·have z:=A y (u y (aZ j)) _ _ _ (v.mem y (u y (aZ j))) o;repeat' first|refine I.op rfl (D.ind rfl rfl (cG (l:=g) w j) cH) ?_;refine H fI ?_|refine I.op rfl (D.nZ (m:=[(0,0)]) (to:=[(0,some (.fo C))]) z rfl ⟨Rn.pure (bM _),Rn.yl rfl rfl,trivial⟩ (Rb.pure .v) rfl rfl ⟨⟨_,rfl,lO.fo⟩,trivial⟩ ⟨⟨0,_,rfl,rfl,mW.fo⟩,trivial⟩ rfl (by repeat first|exact jn rfl|refine o_ ?_ rfl) (.inl (by repeat first|exact Ij rfl|refine YO ?_ (.inl λJ h=>by cases h)))) ?_;refine H fI ?_|refine bq (λc=>?_) λc=>?_<;>(try simp only[bT]at c)<;>(first|exact dV c|refine H fI ?_)|refine b9 λm f=>?_;(try rw[aA]at f);refine H fI ?_|refine cN λ_ _=>?_;refine H fI ?_|refine iJ λ_ _=>?_;refine H fI ?_|refine I.str rfl (D.cat rfl rfl (by assumption)) λ_ _=>?_;refine H fI ?_|refine xG fI ?_|refine rG fI ?_|refine fq ?_
   all_goals first|omega|exact cO (_,C) [] (k+1) N
 ·rw[ar_ X,a7]at r;obtain⟨rfl,rfl⟩:=r.Mz;repeat' first|refine bq (λc=>?_) λc=>?_<;>(try simp only[bT]at c)<;>(first|exact dV c|refine H fI ?_)|refine b9 λm f=>?_;(try rw[aA]at f);refine H fI ?_|refine cN λ_ _=>?_;refine H fI ?_|refine iJ λ_ _=>?_;refine H fI ?_|refine I.str rfl (D.cat rfl rfl (by assumption)) λ_ _=>?_;refine H fI ?_|refine xG fI ?_|refine rG fI ?_|refine fq ?_
  all_goals first|omega|exact⟨[],.aF .v,⟨.inl ⟨_,rfl,.same trivial⟩,trivial⟩,rfl⟩
theorem UM(l:List Tm)(x:l.length<=1099511627776)(o:dO l):Iter prog U 254 [] [.ip [tl O l]] ((a7 l).map aH):=by
 intro J b g q;refine⟨.aM [],aw [(0,.fo g)] 1,?_,rfl⟩;refine sc 1 1 aoY ?_;refine H t_ ?_;repeat' first|refine lg t_ λm z=>?_
 refine cW (τ:=eU) 1 1 [] (λp=>[(0,.yl 0),(1,.ip [tl O l]),(5,.v (.int .i64 m)),(6,.v (.int .i64 p.1))]) [] (λp=>[(0,.fo p.2)]) l.length (λk p=>Ys prog U p.2 ((a7 (l.drop k)).map aH) b g) J (by simpa using q) (hC:=⟨⟨.aF rfl (.yl aJ),.aF rfl (Pure.bm (.ip λa c=>by cases ae_.1 c;exact cQ _)),.aF rfl .v,.aF rfl .v,trivial⟩,rfl,⟨.inl ⟨_,rfl,.same trivial⟩,trivial⟩,rfl,rfl,rfl⟩) ?_;rintro i k J h B d;simp only at h d;clear q;refine H t_ ?_;by_cases t:k<l.length
 ·let⟨y,f,u⟩:=aC t;rw[j9 u,ba_]at d;rcases d.split with⟨v,j⟩|⟨r,j,w⟩
  ·subst v;have n:=YP (O:=O) y _ _ _ (o.mem y (aZ f)) j;repeat' first|refine og t_ (D.ind rfl rfl (cG (l:=l) h f) cH) ?_|refine og t_ (D.nZ (m:=[(0,0)]) (to:=[(0,some (.fo g))]) n rfl ⟨Rn.pure (bM _),Rn.yl rfl rfl,trivial⟩ (Rb.pure .v) rfl rfl ⟨⟨_,rfl,lO.fo⟩,trivial⟩ ⟨⟨0,_,rfl,rfl,mW.fo⟩,trivial⟩ rfl (by repeat first|exact jn rfl) (.inl (by repeat first|exact Ij rfl))) ?_|refine cg t_ (λe=>?_) λe=>?_|refine xG t_ ?_|refine rG t_ ?_|refine fq ?_
   all_goals first|exact⟨[],.aF (.aM λa c=>by cases c),⟨.inl ⟨_,rfl,.same trivial⟩,trivial⟩,rfl⟩|omega
  ·have n:=YP (O:=O) y _ _ _ (o.mem y (aZ f)) j;repeat' first|refine og t_ (D.ind rfl rfl (cG (l:=l) h f) cH) ?_|refine og t_ (D.nZ (m:=[(0,0)]) (to:=[(0,some (.fo r))]) n rfl ⟨Rn.pure (bM _),Rn.yl rfl rfl,trivial⟩ (Rb.pure .v) rfl rfl ⟨⟨_,rfl,lO.fo⟩,trivial⟩ ⟨⟨0,_,rfl,rfl,mW.fo⟩,trivial⟩ rfl (by repeat first|exact jn rfl) (.inl (by repeat first|exact Ij rfl))) ?_|refine cg t_ (λe=>?_) λe=>?_|refine ag t_ λ_ _=>?_|refine xG t_ ?_|refine fq ?_
   all_goals first|omega|exact cO (_,r) [] (k+1) w (hC:=⟨⟨.aF rfl (.yl aJ),.aF rfl (Pure.bm (.ip λa c=>by cases ae_.1 c;exact cQ _)),.aF rfl .v,.aF rfl .v,trivial⟩,rfl,⟨.inl ⟨_,rfl,.same trivial⟩,trivial⟩,rfl,rfl,rfl⟩)
 ·rw[ar_ X,a7]at d;obtain⟨rfl,rfl⟩:=d.Mz;repeat' first|refine cg t_ (λe=>?_) λe=>?_|refine xG t_ ?_|refine fq ?_
  all_goals first|omega|exact⟨[],.aF (.aM λa c=>by cases c),⟨.inl ⟨_,rfl,.same trivial⟩,trivial⟩,rfl⟩
theorem KV(l:List Tm):ad U 192 [tl O l] (.fn (.func 254) [] [.ip [tl O l]]):=by
 refine st aoZ auA (.fn (λa c=>Z) λa c=>by cases ae_.1 c;exact .ip λb e=>by grind[cQ]) ?_;repeat' first|refine fq ?_
 refine aL.fns ?_ ?_;exact trivial;exact⟨aL.box (cs:=[tl O l]) (cs':=[tl O l]) rfl ⟨.refl _,trivial⟩,trivial⟩
def auB:=aD func60 call60
def qq:=[9,4,0,8,10,7,1,6,16]
def auC:=aD func62 call62
def qt:=[9,4,0,8,10,7,1,6,16]
def auD:=aD func65 call65
def FX:=[9,4,0,8,10,7,1,6,16]
def auE:=aD func67 call67
def FY:=[9,4,0,8,10,7,1,6,16]
theorem ao4(p:Fi->Bool)(l:List Fi)(gid:FuncId)(fs cs:List AV)(n:l.length<=1099511627776)(o:Pure (.fn (.func gid) fs cs))(h:∀x∈l,zW prog U (.fn (.func gid) fs cs) [fi O x] (p x)):ad U 65 [mX O l,.fn (.func gid) fs cs] (.v (.bool (l.all p))):=by
 let⟨R,c⟩:=au (l.all p);rw[<-c];refine st auD FX .v ?_;repeat' first|refine lg FX λm q=>?_
 refine bL 0 0 [] (λi=>[(1,.fn (.func gid) fs cs),(7,mX O l),(8,.v (.int .i64 m)),(9,.v (.int .i64 i))]) [] (λ_=>[]) l.length (λk=>R=(l.drop k).all p) Z λi k e r a=>?_;clear c;refine H FX ?_;by_cases f:k<l.length
 ·let⟨x,d,g⟩:=aC f;rw[g,aL_]at a;have j:=h x (aZ d);repeat' first|refine og FX (D.bw e d) ?_|refine bg FX (D.NJ rfl rfl j) (λ_=>?_) λ_=>?_|refine cg FX (λb=>?_) λb=>?_|refine ag FX λ_ _=>?_|refine xG FX ?_|refine rG FX ?_|refine fq ?_
  all_goals first|refine aO ?_;rw[a];simp_all;done|refine I.bu _ [] ?_ ?_ cz;grind;omega
 ·skip;repeat' first|refine cg FX (λb=>?_) λb=>?_|refine xG FX ?_|refine fq ?_
  all_goals first|omega|rw[a,ar_ X];exact aO rfl
theorem ao5(p:Bd->Bool)(l:List Bd)(gid:FuncId)(fs cs:List AV)(n:l.length<=1099511627776)(o:Pure (.fn (.func gid) fs cs))(h:∀x∈l,zW prog U (.fn (.func gid) fs cs) [bd O x] (p x)):ad U 67 [a_ O l,.fn (.func gid) fs cs] (.v (.bool (l.all p))):=by
 let⟨R,c⟩:=au (l.all p);rw[<-c];refine st auE FY .v ?_;repeat' first|refine lg FY λm q=>?_
 refine bL 0 0 [] (λi=>[(1,.fn (.func gid) fs cs),(7,a_ O l),(8,.v (.int .i64 m)),(9,.v (.int .i64 i))]) [] (λ_=>[]) l.length (λk=>R=(l.drop k).all p) Z λi k e r a=>?_;clear c;refine H FY ?_;by_cases f:k<l.length
 ·let⟨x,d,g⟩:=aC f;rw[g,aL_]at a;have j:=h x (aZ d);repeat' first|refine og FY (D.bw e d) ?_|refine bg FY (D.NJ rfl rfl j) (λ_=>?_) λ_=>?_|refine cg FY (λb=>?_) λb=>?_|refine ag FY λ_ _=>?_|refine xG FY ?_|refine rG FY ?_|refine fq ?_
  all_goals first|refine aO ?_;rw[a];simp_all;done|refine I.bu _ [] ?_ ?_ cz;grind;omega
 ·skip;repeat' first|refine cg FY (λb=>?_) λb=>?_|refine xG FY ?_|refine fq ?_
  all_goals first|omega|rw[a,ar_ X];exact aO rfl
end
def mM(env:List Bd)(v:Int):Option Tm:=(env.find? λb=>b.v==v).map (·.t)
def nq:List Bd->Bd->List Bd|[],b=>[b]|x::l,b=>if b.v<x.v then b::x::l else x::nq l b
mutual def qK:Tm->Tm->List Bd->Option (List Bd)|⟨k,i,n,a⟩,t,e=>if k=2 then if t.k=2/\t.n.toList=n.toList/\a.length=t.a.length then jC a t.a e else none else if k=1 then match mM e i with|some u=>if fJ u t=0 then some e else none|none=>some (nq e ⟨i,t⟩) else if fJ ⟨k,i,n,a⟩ t=0 then some e else none def jC:List Tm->List Tm->List Bd->Option (List Bd)|[],_,e=>some e|x::l,m,e=>match m with|[]=>some e|y::m=>match qK x y e with|none=>none|some b=>jC l m b end
def qL:List (Tm×Tm)->List Bd->Option (List Bd)|[],e=>some e|p::l,e=>match qK p.1 p.2 e with|none=>none|some a=>qL l a
theorem FZ:∀(a b:List Tm)(e:List Bd),jC a b e=qL (a.zip b) e|[],b,e=>by rw[jC,dz_,qL]|x::a,[],e=>by rw[jC,List.zip_nil_right,qL]|x::a,y::b,e=>by rw[jC,dc_,qL];cases qK x y e with|none=>rfl|some c=>exact FZ a b c
theorem Qc:∀(l m:List (Tm×Tm))(e:List Bd),qL (l++m) e=match qL l e with|none=>none|some e'=>qL m e'
 |[],m,e=>rfl|p::l,m,e=>by rw[aX_,qL,qL];cases qK p.1 p.2 e with|none=>rfl|some e'=>exact Qc l m e'
def gV(e:List Bd)(p:Tm×Tm):List Bd×List (Tm×Tm)×Bool :=if p.1.k=1 then match mM e p.1.i with|some u=>(e,[],fJ u p.2==0)|none=>(nq e ⟨p.1.i,p.2⟩,[],true) else if p.1.k=2 then if p.2.k=2/\p.2.n.toList=p.1.n.toList/\p.1.a.length=p.2.a.length then(e,p.1.a.zip p.2.a,true) else([],[],false) else(e,[],fJ p.1 p.2==0)
theorem YR(e:List Bd)(p:Tm×Tm):qK p.1 p.2 e=match gV e p with|(e',l,true)=>qL l e'|(_,_,false)=>none:=by
 let⟨⟨k,i,n,a⟩,t⟩:=p;unfold gV;simp only;rw[qK];by_cases d:k=1;rw[if_pos d,if_neg X,if_pos d];cases mM e i with|none=>rfl|some u =>
  simp only;by_cases b:fJ u t=0;rw[if_pos b,b];rfl;rw[if_neg b];have:(fJ u t==0)=false:=by simpa using b
  rw[this]
 rw[if_neg d,if_neg d];by_cases b:k=2;rw[if_pos b,if_pos b];by_cases c:t.k=2/\t.n.toList=n.toList/\a.length=t.a.length;rw[if_pos c,if_pos c,FZ];rw[if_neg c,if_neg c];rw[if_neg b,if_neg b];by_cases c:fJ ⟨k,i,n,a⟩ t=0;rw[if_pos c,c];rfl;rw[if_neg c];have:(fJ ⟨k,i,n,a⟩ t==0)=false:=by simpa using c
 rw[this]
def pc:List (Tm×Tm)->Nat|[]=>0|p::l=>cL p.1+pc l
theorem MA:∀l m:List (Tm×Tm),pc (l++m)=pc l+pc m|[],m=>by simp[pc]|p::l,m=>by rw[aX_,pc,pc,MA l m];omega
theorem Ik:∀a b:List Tm,pc (a.zip b)<=bC a|[],b=>by simp[pc]|x::a,[]=>by simp[pc]|x::a,y::b=>by rw[dc_,pc,bC];have:=Ik a b;simp only;omega
theorem ff(t:Tm):cL t=1+bC t.a:=by let⟨k,i,n,a⟩:=t;rw[cL];simp only;omega
theorem aca(e:List Bd)(p:Tm×Tm):pc (gV e p).2.1<cL p.1:=by unfold gV;rw[ff];split;split<;>(simp only[pc];omega);split;split;have:=Ik p.1.a p.2.a;simp only;omega;simp only[pc];omega;simp only[pc];omega
mutual def lr(env:List Bd)(fr:Int):Tm->Tm|⟨k,i,n,a⟩=>if k=1 then match mM env i with|some u=>u|none=>⟨1,fr+i,⟨#[]⟩,[]⟩ else if k=0 then⟨0,i,⟨#[]⟩,[]⟩ else if k=2 then⟨2,0,n,n_ env fr a⟩ else⟨k,i,n,a⟩def n_(env:List Bd)(fr:Int):List Tm->List Tm|[]=>[]|x::l=>lr env fr x::n_ env fr l end
theorem pO(env:List Bd)(fr:Int):∀l,n_ env fr l=l.map (lr env fr)|[]=>by rw[n_];rfl|x::l=>by rw[n_,pO env fr l];rfl
def gL(env:List Bd)(fr:Int)(g:Gl):Gl:=⟨g.op,g.n,g.a.map (lr env fr)⟩
mutual def tp:Tm->Prop|⟨k,i,n,a⟩=>(k=1->0<=i/\i<=1099511627776)/\pe a def pe:List Tm->Prop|[]=>True|x::l=>tp x/\pe l end
theorem pe.mem:∀{l:List Tm},pe l->∀x∈l,tp x|y::l,h,x,a=>by rw[pe]at h;rcases al_.1 a with rfl|a;exact h.1;exact h.2.mem x a
mutual def fT(b:List Bd):Tm->Tm|⟨k,i,n,a⟩=>if k=1 then match mM b i with|some u=>u|none=>⟨k,i,n,a⟩ else if k=2 then⟨k,i,n,vd b a⟩ else⟨k,i,n,a⟩def vd(b:List Bd):List Tm->List Tm|[]=>[]|x::l=>fT b x::vd b l end
theorem rq(b:List Bd):∀l,vd b l=l.map (fT b)|[]=>by rw[vd];rfl|x::l=>by rw[vd,rq b l];rfl
def gM(b:List Bd)(g:Gl):Gl:=⟨g.op,g.n,g.a.map (fT b)⟩
theorem z8{x y:Bd}:∀{l:List Bd},y∈nq l x↔y=x\/y∈l|[]=>by rw[nq];simp|z::l=>by rw[nq];split;simp;rw[al_,z8,al_];constructor;rintro(h|h|h);exact .inr (.inl h);exact .inl h;exact .inr (.inr h);rintro(h|h|h);exact .inr (.inl h);exact .inl h;exact .inr (.inr h)
theorem JT(x:Bd):∀l:List Bd,(nq l x).length=l.length+1|[]=>rfl|y::l=>by rw[nq];split;rfl;rw[aH_,JT x l,aH_]
theorem NK{env:List Bd}{v:Int}:(mM env v).isSome=true↔∃b∈env,b.v=v:=by unfold mM;rw[Option.isSome_map,List.find?_isSome];simp
def sX(env:List Bd)(v:Int):Prop:=∃b∈env,b.v=v
mutual theorem YS:∀(p t:Tm)(e e':List Bd),e_ p->qK p t e=some e'->(∀v,sX e v->sX e' v)/\∀v,nK v p->sX e' v |⟨k,i,n,a⟩,t,e,e',d,h=>by rw[qK]at h;rw[e_]at d;split at h;rename_i f;rw[if_neg X]at d;split at h;rename_i m;let⟨j,o⟩:=DP a t.a e e' d.1 m.2.2 h;exact⟨j,λv c=>o v (by rw[nK,if_neg X]at c;exact c)⟩;cases h;rename_i q;split at h;rename_i f;split at h;rename_i u r;split at h;cases oJ_ h;refine⟨λv c=>c,λv c=>?_⟩;rw[nK,if_pos f]at c;subst c;exact NK.1 (by rw[r];rfl);cases h;cases oJ_ h;refine⟨λv ⟨b,s,g⟩=>⟨b,z8.2 (.inr s),g⟩,λv c=>?_⟩;rw[nK,if_pos f]at c;exact⟨_,z8.2 (.inl rfl),c⟩;rename_i f;split at h;cases oJ_ h;rw[if_neg f]at d;refine⟨λv c=>c,λv c=>?_⟩;rw[nK,if_neg f,d.2.resolve_left q,jq]at c;exact c.elim;cases h;theorem DP:∀(a b:List Tm)(e e':List Bd),fy a->a.length=b.length->jC a b e=some e'->(∀v,sX e v->sX e' v)/\∀v,jq v a->sX e' v|[],b,e,e',_,_,h=>by rw[jC]at h;cases oJ_ h;exact⟨λv c=>c,λv c=>by rw[jq]at c;exact c.elim⟩|x::a,[],e,e',_,l,h=>by cases l|x::a,y::b,e,e',d,l,h=>by rw[jC]at h;rw[fy]at d;split at h;cases h;rename_i g j;let⟨w,z⟩:=YS x y e g d.1 j;let⟨q1,A⟩:=DP a b g e' d.2 (by simpa using l) h;refine⟨λv c=>q1 v (w v c),λv c=>?_⟩;rw[jq]at c;rcases c with c|c;exact q1 v (z v c);exact A v c;end
section
attribute [local irreducible] aq aG D I
def ao6:=aD func314 call314
def z_:=[8,0,5,4,7,9,1,16]
def ao7:=aD func283 call283
def acb:=[4,0,1]
def ao8:=aD func284 call284
def ajN:=[2,0,1]
def ao9:=aD func229 call229
def ajO:=[2,0]
theorem ajP(p:Tm->Bool)(l:List Tm)(gid:FuncId)(fs cs:List AV)(n:l.length<=1099511627776)(o:Pure (.fn (.func gid) fs cs))(h:∀x∈l,zW prog U (.fn (.func gid) fs cs) [tm O x] (p x)):ad U 314 [tl O l,.fn (.func gid) fs cs] (iv (de p l 0)):=by
 let⟨R,c⟩:=au (de p l 0);rw[<-c];refine st ao6 z_ .v ?_;repeat' first|refine lg z_ λm q=>?_
 refine bL 0 0 [] (λi=>[(0,tl O l),(1,.fn (.func gid) fs cs),(7,.v (.int .i64 m)),(8,.v (.int .i64 i))]) [] (λ_=>[]) l.length (λk=>R=de p (l.drop k) k) Z λi k e r a=>?_;clear c;refine H z_ ?_;by_cases f:k<l.length
 ·let⟨x,d,g⟩:=aC f;rw[g,de]at a;have j:=h x (aZ d);repeat' first|refine og z_ (D.ind rfl rfl (cG (l:=l) e d) cH) ?_|refine bg z_ (D.NJ rfl rfl j) (λ_=>?_) λ_=>?_|refine cg z_ (λb=>?_) λb=>?_|refine ag z_ λ_ _=>?_|refine xG z_ ?_|refine rG z_ ?_|refine fq ?_
  all_goals first|rw[if_pos Z]at a;refine dA ?_;omega|rw[if_neg Z]at a;refine I.bu _ [] ?_ ?_ cz;grind;omega|omega
 ·skip;repeat' first|refine cg z_ (λb=>?_) λb=>?_|refine xG z_ ?_|refine fq ?_
  all_goals first|omega|rw[a,ar_ X];exact dA rfl
theorem ajQ(p:Tm->Bool)(l:List Tm)(gid:FuncId)(fs cs:List AV)(c:l.length<=1099511627776)(d:Pure (.fn (.func gid) fs cs))(h:∀x∈l,zW prog U (.fn (.func gid) fs cs) [tm O x] (p x)):ad U 283 [tl O l,.fn (.func gid) fs cs] (.v (.bool (l.any p))):=by
 have a:=ajP (U:=U) (O:=O) p l gid fs cs c d h;have b:=tZ p l 0;let⟨j,e⟩:=au (de p l 0);rw[<-e]at a b;refine st ao7 acb .v ?_;repeat' first|refine ig acb (pl a) λ_ _=>?_|refine cg acb (λf=>?_) λf=>?_|refine fq ?_
 all_goals subst_vars;refine aO ?_;rw[<-b];simp_all
theorem ajR{f:FuncId}:Wk (.v (.func (.func f) #[] #[])) (.fn (.func f) [] []):=λg w x b=>by cases cF b;exact .fn rfl rfl (λi a y h=>Z) λi a y h=>Z
theorem YT(x:Tm)(a:x.ok):ad U 284 [tm O x] (.v (.bool ! cB x)):=by
 have h:=UI (U:=U) (O:=O) x a;let⟨R,b⟩:=au (cB x);rw[<-b]at h⊢;refine st ao8 ajN .v ?_;repeat' first|refine bg ajN (pl h) (λ_=>?_) λ_=>?_|refine fq ?_
 all_goals refine aO ?_;simp_all
def ahw(x:Tm)(a:x.ok):zW prog U (.fn (.func 284) [] []) [tm O x] ! cB x:=⟨_,_,rfl,⟨bM x,trivial⟩,YT x a⟩
theorem Qd(l:List Tm)(c:l.length<=1099511627776)(d:∀x∈l,x.ok):ad U 229 [tl O l] (.v (.bool ! l.any λx=>! cB x)):=by
 let⟨R,e⟩:=au (l.any λx=>! cB x);have b:=ajQ (U:=U) (O:=O) (λx=>! cB x) l 284 [] [] c (.fn (λa h=>Z) λa h=>Z) λx f=>ahw x (d x f);rw[<-e]at b⊢;refine st ao9 ajO .v ?_;repeat' first|refine bg ajO (D.qu rfl b ⟨cQ _,.fn (λa h=>Z) λa h=>Z,trivial⟩ ⟨.refl _,ajR,trivial⟩) (λ_=>?_) λ_=>?_|refine fq ?_
 all_goals refine aO ?_;simp_all
end
structure CI(cl:List Nat)(c:Nat->Nat)(n:Nat):Prop where
 len:cl.length=n
 at_:∀i,i<n->cD cl i=c i
 cc:∀i,i<n->c i<n/\c (c i)=c i
def db(N:aW)(cl:List Nat)(C:Nat):Option Nat:=(List.range N.length).find? λi=>decide (cD cl i=C)&&decide ((tn N i).k≠1)
theorem F0{N:aW}(h:CI cl c N.length)(C:Nat):jO N c C (db N cl C):=by unfold db;cases b:(List.range N.length).find? λi=>decide (cD cl i=C)&&decide ((tn N i).k≠1) with|none =>intro i d e;have:=List.find?_eq_none.1 b i (aU_.2 d);rw[h.at_ i d]at this;simpa[e] using this|some s =>have a:=List.find?_some b;have f:=aU_.1 (cd_ b);rw[h.at_ s f]at a;simp only[aw_,decide_eq_true_eq]at a;exact⟨f,a.1,a.2⟩
def rA(f:List Nat->Nat->Nat->Option (Bool×List Nat)):List (Nat×Nat)->List Nat->Option (Bool×List Nat)|[],cl=>some (true,cl)|p::l,cl=>match f cl p.1 p.2 with|none=>none|some (false,a)=>some (false,a)|some (true,a)=>rA f l a
def Qe(N:aW)(i k:Nat):Bool:=(tn N i).k==(tn N k).k&&(tn N i).i==(tn N k).i&&decide ((tn N i).n.toList=(tn N k).n.toList)&&decide ((ks N i).length=(ks N k).length)
def DQ(cl:List Nat)(x y:Nat):List Nat:=cl.map λz=>if z=y then x else z
def lh(N:aW):Nat->List Nat->Nat->Nat->Option (Bool×List Nat)|0,_,_,_=>none|m+1,cl,a,b=>if a<N.length/\b<N.length then if cD cl a=cD cl b then some (true,cl) else match db N cl (cD cl a),db N cl (cD cl b) with|some i,some k=>if Qe N i k then rA (lh N m) ((ks N i).zip (ks N k)) (DQ cl (cD cl a) (cD cl b)) else some (false,DQ cl (cD cl a) (cD cl b))|_,_=>some (true,DQ cl (cD cl a) (cD cl b)) else none
theorem WA{b:Nat}(a:c b=b)(h:b<n):0<iM c n:=by have:=Be (c:=c) (d:=λi=>i+1) (λi e=>X) a X n h;omega
theorem CI.merge(h:CI cl c n){a b:Nat}(f:c a=a)(g:a<n)(j:a≠b):CI (DQ cl a b) (iV c a b) n:=by refine⟨by unfold DQ;rw[bk_];exact h.len,λi d=>?_,λi d=>?_⟩;have k:=h.at_ i d;have l:=KW (up:=cl) (i:=i) (by rw[h.len];exact d);unfold cD DQ iV;rw[bc_,l,<-k];rfl;unfold iV;split;rw[f,if_neg j];exact⟨g,rfl⟩;rename_i e;rw[(h.cc i d).2,if_neg e];exact⟨(h.cc i d).1,rfl⟩
theorem acd:∀(d:Nat){cl:List Nat}{c:Nat->Nat}{a b:Nat}{P:List (Nat×Nat)},CI cl c N.length->jU E N zzD c ((a,b)::P)->iM c N.length<=d ->∃r l,lh N (d+1) cl a b=some (r,l)/\(r=true->∃c',CI l c' N.length/\jU E N zzD c' P/\iM c' N.length<=iM c N.length)/\(r=false->¬∃f,yP E f):=by intro d;induction d with|zero =>intro cl c a b P g j B;let⟨m,_,_⟩:=j.pV _ (.head _);have:=WA (g.cc a m).2 (g.cc a m).1;omega|succ d ih =>
  intro cl c a b P g j B;let⟨m,C,uE⟩:=j.pV _ (.head _);simp only at m C uE;rw[lh,if_pos ⟨m,C⟩,g.at_ a m,g.at_ b C];by_cases e:c a=c b;rw[if_pos e];exact⟨true,cl,rfl,λ_=>⟨c,g,j.pop e,aj_ _⟩,λh=>by cases h⟩;rw[if_neg e];let⟨la,ca⟩:=g.cc a m;let⟨lb,cb⟩:=g.cc b C;have n:=F0 g (c a);have o:=F0 g (c b);have q:=g.merge (b:=c b) ca la e;have az:iM (iV c (c a) (c b)) N.length<iM c N.length:=by refine Be (λi=>KX e ca) cb (λG=>?_) _ lb;unfold iV at G;rw[cb,if_pos rfl]at G;exact e G
  have simple:∀{x y:Option Nat},jO N c (c a) x->jO N c (c b) y->pf N x y=[]->(∀s t,x=some s->y=some t->alike (tn N s) (tn N t))->jU E N zzD (iV c (c a) (c b)) P:=λ{x y}hx hy hn F=>by have:=j.merge hx hy F;rwa[hn,aS_]at this
  cases ea:db N cl (c a) with|none =>rw[ea]at n;exact⟨true,_,rfl,λ_=>⟨_,q,simple n o rfl (λs t h=>by cases h),Nat.le_of_lt az⟩,λh=>by cases h⟩|some i =>rw[ea]at n;cases eb:db N cl (c b) with|none =>rw[eb]at o;exact⟨true,_,rfl,λ_=>⟨_,q,simple n o rfl (λs t _ h=>by cases h),Nat.le_of_lt az⟩,λh=>by cases h⟩|some k =>
    rw[eb]at o;let⟨J,u,v⟩:=n;let⟨K,w,z⟩:=o;have F:Qe N i k=true↔alike (tn N i) (tn N k):=by rw[<-DR];unfold Qe tq;rw[nY j.g J,nY j.g K]
    simp only;cases L:Qe N i k with|false=>exact⟨false,_,rfl,λh=>(by cases h),λ_=>j.afi (s:=i) (t:=k) ⟨J,u,v⟩ ⟨K,w,z⟩ λh=>by rw[F.2 h]at L;cases L⟩|true =>
     rw[if_pos rfl];have A:=j.merge (sa:=some i) (sb:=some k) ⟨J,u,v⟩ ⟨K,w,z⟩ (λs t h1 h2=>by rw[<-oJ_ h1,<-oJ_ h2];exact F.1 L);have A:jU E N zzD (iV c (c a) (c b)) ((ks N i).zip (ks N k)++P):=A;have key:∀(Q:List (Nat×Nat)){cl:List Nat}{c:Nat->Nat},CI cl c N.length->jU E N zzD c (Q++P)->iM c N.length<=d ->∃r l,rA (lh N (d+1)) Q cl=some (r,l)/\(r=true->∃c',CI l c' N.length/\jU E N zzD c' P/\iM c' N.length<=iM c N.length)/\(r=false->¬∃f,yP E f):=by intro Q;induction Q with|nil=>intro cl c g j B;exact⟨true,cl,rfl,λ_=>⟨c,g,j,aj_ _⟩,λh=>by cases h⟩|cons p Q M =>intro cl c g j B;let⟨x,y⟩:=p;let⟨r,l,k1,k2,k3⟩:=ih g j B;rw[rA];simp only[k1];cases r with|false=>exact⟨false,l,rfl,λh=>(by cases h),k3⟩|true =>let⟨c',q,A,hn⟩:=k2 rfl;let⟨r,rD,R,S,T⟩:=M q A X;exact⟨r,rD,R,λh=>let⟨V,q1,W,q3⟩:=S h;⟨V,q1,W,X⟩,T⟩
     let⟨r,l,R,S,T⟩:=key _ q A X;exact⟨r,l,R,λh=>let⟨V,q1,W,q3⟩:=S h;⟨V,q1,W,X⟩,T⟩
inductive wK:List (Tm×Tm)->aW->List Nat->Bool->aW->List Nat->Prop|nil {N:aW}{cl:List Nat}:wK [] N cl true N cl|no {a b:Tm}{l:List (Tm×Tm)}{N:aW}{cl dB:List Nat}{m:Nat}(h:lh (cu (cu N a).1 b).1 m (cl++List.range' N.length ((cu (cu N a).1 b).1.length-N.length)) (cu N a).2 (cu (cu N a).1 b).2=some (false,dB)) :wK ((a,b)::l) N cl false (cu (cu N a).1 b).1 dB|go {a b:Tm}{l:List (Tm×Tm)}{N N':aW}{cl dB rD:List Nat}{m:Nat}{r:Bool}(h:lh (cu (cu N a).1 b).1 m (cl++List.range' N.length ((cu (cu N a).1 b).1.length-N.length)) (cu N a).2 (cu (cu N a).1 b).2=some (true,dB))(k:wK l (cu (cu N a).1 b).1 dB r N' rD):wK ((a,b)::l) N cl r N' rD
mutual def ve:Tm->Prop|⟨k,i,n,a⟩=>(k=1->0<=i)/\tQ a def tQ:List Tm->Prop|[]=>True|x::l=>ve x/\tQ l end
def Ce(N:aW):Prop:=∀i,i<N.length->(tn N i).k=1->0<=(tn N i).i
theorem Ce.push{N:aW}(h:Ce N){t:Tm}{l:List Nat}(c:t.k=1->0<=t.i):Ce (N++[(t,l)]):=by
 intro i b a;by_cases e:i<N.length;have d:∀i,i<N.length->(N++[(t,l)])[i]?=N[i]?:=λi b=>bj_ b;rw[(fY d e).1]at a⊢;exact h i e a;have:i=N.length:=by rw[ay_,bf_]at b;omega
 subst this;rw[nb.1]at a⊢;exact c a
mutual theorem JU:∀(N:aW)(t:Tm),Ce N->ve t->Ce (cu N t).1|N,⟨k,i,n,a⟩,h,b=>by rw[ve]at b;rw[cu];split;exact h;exact(NL N a h b.2).push b.1;theorem NL:∀(N:aW)(l:List Tm),Ce N->tQ l->Ce (cy N l).1|N,[],h,_=>by rw[cy];exact h|N,x::l,h,b=>by rw[tQ]at b;rw[cy];exact NL _ l (JU N x h b.1) b.2;end
theorem ahx{m:Nat}(h:cl.length=n)(i:Nat):cD (cl++List.range' n m) i=if i<n then cD cl i else i:=by unfold cD;by_cases e:i<n;rw[if_pos e,bj_ X];rw[if_neg e,br_ X,h];by_cases a:i-n<m;rw[List.getElem?_range' a];simp;omega;rw[cC_ (by simp;omega)];rfl
theorem UN{E:List (Tm×Tm)}:∀(l:List (Tm×Tm))(done:List (Tm×Tm))(N:aW)(cl:List Nat)(zzD:List (Nat×Nat))(c:Nat->Nat),(∀e∈l,e∈E/\(e_ e.1/\ve e.1)/\e_ e.2/\ve e.2)->jU E N zzD c []->CI cl c N.length->Ce N->(∀p∈zzD,p.1<N.length/\p.2<N.length) ->(∀e∈done,∃p∈zzD,p.1<N.length/\p.2<N.length/\tn N p.1=e.1/\tn N p.2=e.2) ->∃b N' g,wK l N cl b N' g/\(b=false->¬∃f,yP E f)/\(b=true->∃w c',jU E N' w c' []/\CI g c' N'.length/\Ce N'/\∀e∈done++l,∃p∈w,p.1<N'.length/\p.2<N'.length/\tn N' p.1=e.1/\tn N' p.2=e.2)
 |[],done,N,cl,zzD,c,_,z,q,J,K,L=>⟨true,N,cl,.nil,λh=>(by cases h),λ_=>⟨zzD,c,z,q,J,by rw[aI_];exact L⟩⟩|(a,b)::l,done,N,cl,zzD,c,A,z,q,J,K,L=>by
  let⟨e1,⟨w1,o1⟩,w2,o2⟩:=A (a,b) aE;simp only at w1 w2 o1 o2;let⟨M,P,x3⟩:=sj N a z.g w1;let⟨B,s,C⟩:=sj (cu N a).1 b M.g w2;have t:=JU _ b (JU N a J o1) o2;have F:tn (cu (cu N a).1 b).1 (cu N a).2=a:=by rw[B.tn P,x3]
  have u:(cu N a).2<(cu (cu N a).1 b).1.length:=aG_ P B.le;have k:yw N (cu (cu N a).1 b).1:=M.trans B;have key:∀{r:Bool}{N':aW}{j:List Nat}{d:aW}{x y:Nat},d=(cu (cu N a).1 b).1->x=(cu N a).2->y=(cu (cu N a).1 b).2 ->(∃m,lh d m (cl++List.range' N.length (d.length-N.length)) x y=some (false,j)/\r=false/\N'=d)\/(∃m g,lh d m (cl++List.range' N.length (d.length-N.length)) x y=some (true,g)/\wK l d g r N' j)->wK ((a,b)::l) N cl r N' j:=by rintro r N' j d x y rfl rfl rfl(⟨m,h,rfl,rfl⟩|⟨m,g,h,n⟩);exact .no h;exact .go h n
  let⟨d,Q⟩:=au (cu (cu N a).1 b).1;let⟨x,R⟩:=au (cu N a).2;let⟨y,S⟩:=au (cu (cu N a).1 b).2;have key:∀{r:Bool}{N':aW}{j:List Nat},(∃m,lh d m (cl++List.range' N.length (d.length-N.length)) x y=some (false,j)/\r=false/\N'=d)\/(∃m g,lh d m (cl++List.range' N.length (d.length-N.length)) x y=some (true,g)/\wK l d g r N' j)->wK ((a,b)::l) N cl r N' j:=λh=>key Q R S h;rw[<-Q]at t F u k s C;rw[<-R]at F u;rw[<-S]at s C;clear Q R S B M P x3;have g:∀i,i<N.length->c i<N.length:=λi o=>(q.cc i o).1;have mf:=z.grow (N':=d) (c':=λi=>if i<N.length then c i else i) K k.g k.le k.pre (λi o=>⟨if_pos o,g i o⟩) (λi o=>if_neg X) u s (by rw[F,C];exact e1);have we:CI (cl++List.range' N.length (d.length-N.length)) (λi=>if i<N.length then c i else i) d.length:=by have hle:=k.le;refine⟨by rw[ay_,List.length_range',q.len];omega,λi o=>?_,λi o=>?_⟩;rw[ahx q.len];by_cases e:i<N.length;simp only[if_pos e];exact q.at_ i e;simp only[if_neg e];by_cases e:i<N.length;simp only[if_pos e,if_pos (g i e)];exact⟨by have:=g i e;omega,(q.cc i e).2⟩;simp only[if_neg e];exact⟨o,trivial⟩
  let⟨r,j,j1,j2,j3⟩:=acd _ we mf (aj_ _);cases r with|false=>exact⟨false,_,_,key (.inl ⟨_,j1,rfl,rfl⟩),λ_=>j3 rfl,λh=>by cases h⟩|true =>let⟨c',nW,oa,_⟩:=j2 rfl;let⟨r,N',T,k1,k2,k3⟩:=UN l (done++[(a,b)]) d j ((x,y)::zzD) c' (λe h=>A e (by simp[h])) oa nW t (λp V=>by rcases al_.1 V with rfl|V;exact⟨u,s⟩;let⟨v,n⟩:=K p V;have:=k.le;exact⟨aG_ v this,aG_ n this⟩) (λe h=>by rcases aO_.1 h with h|h;let⟨p,v,n,G,W,h5⟩:=L e h;have:=k.le;exact⟨p,by simp[v],aG_ n this,aG_ G this,by rw[k.tn n];exact W,by rw[k.tn G];exact h5⟩;cases ae_.1 h;exact⟨(x,y),aE,u,s,F,C⟩);exact⟨r,N',T,key (.inr ⟨_,j,j1,k1⟩),k2,λe=>by let⟨w,c',v,n,G,W⟩:=k3 e;exact⟨w,c',v,n,G,λe A=>W e (by simpa using A)⟩⟩
section
attribute [local irreducible] aq aG D I
def ao_:=aD func308 call308
def Aa:=[8,0,5,4,7,9,1,16]
theorem Qh(p:Bd->Bool)(l:List Bd)(gid:FuncId)(fs cs:List AV)(n:l.length<=1099511627776)(o:Pure (.fn (.func gid) fs cs))(h:∀x∈l,zW prog U (.fn (.func gid) fs cs) [bd O x] (p x)):ad U 308 [a_ O l,.fn (.func gid) fs cs] (iv (de p l 0)):=by
 let⟨R,c⟩:=au (de p l 0);rw[<-c];refine st ao_ Aa .v ?_;repeat' first|refine lg Aa λm q=>?_
 refine bL 0 0 [] (λi=>[(0,a_ O l),(1,.fn (.func gid) fs cs),(7,.v (.int .i64 m)),(8,.v (.int .i64 i))]) [] (λ_=>[]) l.length (λk=>R=de p (l.drop k) k) Z λi k e r a=>?_;clear c;refine H Aa ?_;by_cases f:k<l.length
 ·let⟨x,d,g⟩:=aC f;rw[g,de]at a;have j:=h x (aZ d);repeat' first|refine og Aa (D.bw e d) ?_|refine bg Aa (D.NJ rfl rfl j) (λ_=>?_) λ_=>?_|refine cg Aa (λb=>?_) λb=>?_|refine ag Aa λ_ _=>?_|refine xG Aa ?_|refine rG Aa ?_|refine fq ?_
  all_goals first|rw[if_pos Z]at a;refine dA ?_;omega|rw[if_neg Z]at a;refine I.bu _ [] ?_ ?_ cz;grind;omega|omega
 ·skip;repeat' first|refine cg Aa (λb=>?_) λb=>?_|refine xG Aa ?_|refine fq ?_
  all_goals first|omega|rw[a,ar_ X];exact dA rfl
end
end Go.Proofs.YtbdcmpknicjopaaGreat
