import Derived.JoinedCond
import Derived.Laws.StructEq
import Derived.ProofKit
import Derived.Test.YtbdcmpknicjopaaGreatProg
import Derived.Test.YtbdcmpknicjopaaGreatRows
import Derived.Test.YtbdcmpknicjopaaGreatTp11
namespace Go.Proofs.YtbdcmpknicjopaaGreat
set_option linter.all false
set_option maxRecDepth 100000
open Go.RowKit Proofs.Tryz
variable{K:List gw}{N:aS}{O:Hd}{P:Program}{Q:Exit->AA->ah->Prop}{S:ah}{U:AA}{Y w:World}{b0 n t:Nat}{c h:Nat->Nat}{lo:Nat->Int}{ls:List (Int×Int)}{m:List (Nat×Nat)}{ps:List MemPlace}{r:Reach}{sp:Nat->Bool}{v:Value}{x:QO}{zzH:Type}{d:DataW zzH}{enc:TypeId×Value->zzH}
mutual def mT:Tm->Nat|⟨k,i,n,a⟩=>n.size+t_ a+5def t_:List Tm->Nat|[]=>0|x::l=>mT x+t_ l end
theorem mY:∀l,eR mT l=t_ l|[]=>by rw[t_];rfl|x::l=>by rw[t_,eR,mY l]
theorem O4{U:Type}:∀l:List U,eR (λ_=>1) l=l.length|[]=>rfl|x::l=>by rw[eR,O4 l,aC_];omega
def qW(x:At):Nat:=x.n.size+t_ x.a+3
def uL(x:Gl):Nat:=x.n.size+t_ x.a+4
def MB(x:Im):Nat:=x.n.size+t_ x.a+5
def MC(x:Bd):Nat:=mT x.t+2
def MD(x:Fi):Nat:=x.ids.length+3
def MF(x:Dc):Nat:=x.n.size+3
def Eu(x:Rl):Nat:=x.n.size+eR qW x.aQ+eR qW x.rem+eR uL x.guard+eR uL x.body+7
def Xy(x:Pg):Nat:=eR MF x.ds+eR Eu x.rs+3
def O5(x:c_):Nat:=eR uL x.goals+eR MB x.store+eR MC x.binds+eR MD x.bf+eR uL x.known+9
theorem adM:∀n,b_ prog n 58 4 lX mT:=by intro n;induction n with|zero=>intro zzH enc w sp held m g;omega|succ n l =>intro zzH enc w sp held m g A d B h;obtain⟨k,f,rfl,o,C,c⟩:=b_.fields underlying58 h;have p:=lK (xs:=f);rw[o]at p;let⟨q,b0,_,r⟩:=b_.part (i:=0) (n:=k+1) (b_.int underlying3) Z (by kernel_rfl) Z (c 0 3 0 rfl);let⟨s,E,_,t⟩:=b_.part (i:=1) (n:=k+1) (b_.int underlying3) Z (by kernel_rfl) Z (c 1 3 1 rfl);let⟨u,F,_,x⟩:=b_.part (i:=2) (n:=k+1) (b_.str underlying9) Z (by kernel_rfl) Z (c 2 9 2 rfl);let⟨y,G,_,z⟩:=b_.part (i:=3) (b_.slice underlying56 (by kernel_rfl) aD l) Z (by kernel_rfl) Z (c 3 56 3 rfl);refine⟨⟨q,s,u,y⟩,?_,by rw[qK (O:=.plain)];rfl,λj a v b e=>?_⟩;grind[mT,mY,nU];rw[qK (O:=.plain)]at b;match j with|0=>exact r 0 a v b e|1=>exact t 0 a v b e|2=>exact x 0 a v b e|3=>exact z 0 a v b e|j+4=>cases b
theorem adN(n:Nat):b_ prog n 56 1 (λl=>[tl .plain l]) λl=>t_ l+1:=by have h:=(b_.slice underlying56 (by kernel_rfl) aD (adM n)).less (bJ_ n);simp only[mY]at h;exact h
theorem afY(n:Nat):b_ prog n 33 1 (λl=>[aY .plain aV false l]) λl=>l.length+1:=by have h:=(b_.slice underlying33 (by kernel_rfl) aD (b_.int (n:=n) underlying3)).less (bJ_ n);simp only[O4]at h;exact h
theorem adO(n:Nat):b_ prog n 62 2 (atR .plain) qW:=by intro zzH enc w sp held m s t d u h;obtain⟨k,c,rfl,g,x,e⟩:=b_.fields underlying62 h;have l:=lK (xs:=c);rw[g]at l;let⟨o,b0,_,p⟩:=b_.part (i:=0) (n:=k+1) (b_.str underlying9) Z (by kernel_rfl) Z (e 0 9 0 rfl);let⟨q,y,_,r⟩:=b_.part (i:=1) (n:=k+1) (adN (k+1)) Z (by kernel_rfl) Z (e 1 56 1 rfl);refine⟨⟨o,q⟩,?_,rfl,λj a v b f=>?_⟩;grind[nU,qW];match j with|0=>exact p 0 a v b f|1=>exact r 0 a v b f|j+2=>cases b
theorem Xz(n:Nat):b_ prog n 63 1 (λl=>[fI .plain l]) λl=>eR qW l+1:=(b_.slice underlying63 (by kernel_rfl) aD (adO n)).less (bJ_ n)
theorem ang(n:Nat):b_ prog n 65 3 (MG .plain) uL:=by intro zzH enc w sp held m u x d y h;obtain⟨k,f,rfl,g,z,c⟩:=b_.fields underlying65 h;have l:=lK (xs:=f);rw[g]at l;let⟨o,b0,_,p⟩:=b_.part (i:=0) (n:=k+1) (b_.int underlying3) Z (by kernel_rfl) Z (c 0 3 0 rfl);let⟨q,A,_,r⟩:=b_.part (i:=1) (n:=k+1) (b_.str underlying9) Z (by kernel_rfl) Z (c 1 9 1 rfl);let⟨s,B,_,t⟩:=b_.part (i:=2) (n:=k+1) (adN (k+1)) Z (by kernel_rfl) Z (c 2 56 2 rfl);refine⟨⟨o,q,s⟩,?_,rfl,λj a v b e=>?_⟩;grind[nU,uL,qW];match j with|0=>exact p 0 a v b e|1=>exact r 0 a v b e|2=>exact t 0 a v b e|j+3=>cases b
theorem JX(n:Nat):b_ prog n 26 1 (λl=>[er .plain l]) λl=>eR uL l+1:=(b_.slice underlying26 (by kernel_rfl) aD (ang n)).less (bJ_ n)
theorem anh(n:Nat):b_ prog n 75 3 (XA .plain) MB:=by intro zzH enc w sp held m s t d u h;obtain⟨k,e,rfl,o,x,f⟩:=b_.fields underlying75 h;have p:=lK (xs:=e);rw[o]at p;let⟨q,b0,_,r⟩:=b_.part (i:=0) (n:=k+1) (b_.int underlying3) Z (by kernel_rfl) Z (f 0 3 0 rfl);let⟨g,y,_,l⟩:=b_.part (i:=1) (n:=k+1) (adO (k+1)) Z (by kernel_rfl) Z (f 1 62 1 rfl);refine⟨⟨q,g.n,g.a⟩,?_,rfl,λj a v b c=>?_⟩;grind[nU,MB,qW];match j with|0=>exact r 0 a v b c|1=>exact l 0 a v b c|2=>exact l 1 a v b c|j+3=>cases b
theorem ah8(n:Nat):b_ prog n 27 1 (λl=>[kS .plain l]) λl=>eR MB l+1:=(b_.slice underlying27 (by kernel_rfl) aD (anh n)).less (bJ_ n)
theorem ani(n:Nat):b_ prog n 102 5 (bP .plain) MC:=by intro zzH enc w sp held m t u d x h;obtain⟨k,l,rfl,p,y,o⟩:=b_.fields underlying102 h;have q:=lK (xs:=l);rw[p]at q;let⟨r,b0,_,s⟩:=b_.part (i:=0) (n:=k+1) (b_.int underlying3) Z (by kernel_rfl) Z (o 0 3 0 rfl);let⟨g,z,_,c⟩:=b_.part (i:=1) (n:=k+1) (adM (k+1)) Z (by kernel_rfl) Z (o 1 58 1 rfl);refine⟨⟨r,g⟩,?_,rfl,λj a v b f=>?_⟩;grind[nU,MC,qW];have e:lX g=kR .plain g:=qK g;rw[e]at c;match j with|0=>exact s 0 a v b f|1=>exact c 0 a v b f|2=>exact c 1 a v b f|3=>exact c 2 a v b f|4=>exact c 3 a v b f|j+5=>cases b
theorem ah9(n:Nat):b_ prog n 29 1 (λl=>[a8 .plain l]) λl=>eR MC l+1:=(b_.slice underlying29 (by kernel_rfl) aD (ani n)).less (bJ_ n)
theorem anj(n:Nat):b_ prog n 104 2 (H9 .plain) MD:=by intro zzH enc w sp held m s t d u h;obtain⟨k,c,rfl,g,x,e⟩:=b_.fields underlying104 h;have l:=lK (xs:=c);rw[g]at l;let⟨o,b0,_,p⟩:=b_.part (i:=0) (n:=k+1) (b_.int underlying3) Z (by kernel_rfl) Z (e 0 3 0 rfl);let⟨q,y,_,r⟩:=b_.part (i:=1) (n:=k+1) (afY (k+1)) Z (by kernel_rfl) Z (e 1 33 1 rfl);refine⟨⟨o,q⟩,?_,rfl,λj a v b f=>?_⟩;grind[nU,MD,qW];match j with|0=>exact p 0 a v b f|1=>exact r 0 a v b f|j+2=>cases b
theorem ah_(n:Nat):b_ prog n 30 1 (λl=>[ky .plain l]) λl=>eR MD l+1:=(b_.slice underlying30 (by kernel_rfl) aD (anj n)).less (bJ_ n)
theorem ank(n:Nat):b_ prog n 60 2 XC MF:=by intro zzH enc w sp held m s t d u h;obtain⟨k,c,rfl,g,x,e⟩:=b_.fields underlying60 h;have l:=lK (xs:=c);rw[g]at l;let⟨o,b0,_,p⟩:=b_.part (i:=0) (n:=k+1) (b_.str underlying9) Z (by kernel_rfl) Z (e 0 9 0 rfl);let⟨q,y,_,r⟩:=b_.part (i:=1) (n:=k+1) (b_.int underlying3) Z (by kernel_rfl) Z (e 1 3 1 rfl);refine⟨⟨o,q⟩,?_,rfl,λj a v b f=>?_⟩;grind[nU,MF,qW];match j with|0=>exact p 0 a v b f|1=>exact r 0 a v b f|j+2=>cases b
theorem aia(n:Nat):b_ prog n 22 1 (λl=>[g7 .plain l]) λl=>eR MF l+1:=(b_.slice underlying22 (by kernel_rfl) aD (ank n)).less (bJ_ n)
theorem anl(n:Nat):b_ prog n 67 6 (lY .plain) Eu:=by intro zzH enc w sp held m C E d F h;obtain⟨k,f,rfl,g,G,c⟩:=b_.fields underlying67 h;have l:=lK (xs:=f);rw[g]at l;let⟨o,b0,_,p⟩:=b_.part (i:=0) (n:=k+1) (b_.str underlying9) Z (by kernel_rfl) Z (c 0 9 0 rfl);let⟨q,J,_,r⟩:=b_.part (i:=1) (n:=k+1) (Xz (k+1)) Z (by kernel_rfl) Z (c 1 63 1 rfl);let⟨s,K,_,t⟩:=b_.part (i:=2) (n:=k+1) (Xz (k+1)) Z (by kernel_rfl) Z (c 2 63 2 rfl);let⟨u,L,_,x⟩:=b_.part (i:=3) (n:=k+1) (JX (k+1)) Z (by kernel_rfl) Z (c 3 26 3 rfl);let⟨y,M,_,z⟩:=b_.part (i:=4) (n:=k+1) (JX (k+1)) Z (by kernel_rfl) Z (c 4 26 4 rfl);let⟨A,N,_,B⟩:=b_.part (i:=5) (n:=k+1) (b_.int underlying3) Z (by kernel_rfl) Z (c 5 3 5 rfl);refine⟨⟨o,q,s,u,y,A⟩,?_,rfl,λj a v b e=>?_⟩;grind[nU,Eu,qW];match j with|0=>exact p 0 a v b e|1=>exact r 0 a v b e|2=>exact t 0 a v b e|3=>exact x 0 a v b e|4=>exact z 0 a v b e|5=>exact B 0 a v b e|j+6=>cases b
theorem aib(n:Nat):b_ prog n 23 1 (λl=>[Ty .plain l]) λl=>eR Eu l+1:=(b_.slice underlying23 (by kernel_rfl) aD (anl n)).less (bJ_ n)
theorem anm(n:Nat):b_ prog n 25 2 (jk .plain) Xy:=by intro zzH enc w sp held m s t d u h;obtain⟨k,c,rfl,g,x,e⟩:=b_.fields underlying25 h;have l:=lK (xs:=c);rw[g]at l;let⟨o,b0,_,p⟩:=b_.part (i:=0) (n:=k+1) (aia (k+1)) Z (by kernel_rfl) Z (e 0 22 0 rfl);let⟨q,y,_,r⟩:=b_.part (i:=1) (n:=k+1) (aib (k+1)) Z (by kernel_rfl) Z (e 1 23 1 rfl);refine⟨⟨o,q⟩,?_,rfl,λj a v b f=>?_⟩;grind[nU,Xy,qW];match j with|0=>exact p 0 a v b f|1=>exact r 0 a v b f|j+2=>cases b
theorem aic(n:Nat):b_ prog n 32 8 (qe .plain) O5:=by intro zzH enc w sp held m K L d M h;obtain⟨k,f,rfl,l,o,c⟩:=b_.fields underlying32 h;have g:=lK (xs:=f);rw[l]at g;let⟨p,b0,_,q⟩:=b_.part (i:=0) (n:=k+1) (JX (k+1)) Z (by kernel_rfl) Z (c 0 26 0 rfl);let⟨r,N,_,s⟩:=b_.part (i:=1) (n:=k+1) (ah8 (k+1)) Z (by kernel_rfl) Z (c 1 27 1 rfl);let⟨t,P,_,u⟩:=b_.part (i:=2) (n:=k+1) (ah9 (k+1)) Z (by kernel_rfl) Z (c 2 29 2 rfl);let⟨x,Q,_,y⟩:=b_.part (i:=3) (n:=k+1) (ah_ (k+1)) Z (by kernel_rfl) Z (c 3 30 3 rfl);let⟨z,R,_,A⟩:=b_.part (i:=4) (n:=k+1) (JX (k+1)) Z (by kernel_rfl) Z (c 4 26 4 rfl);let⟨B,S,_,C⟩:=b_.part (i:=5) (n:=k+1) (b_.int underlying3) Z (by kernel_rfl) Z (c 5 3 5 rfl);let⟨E,T,_,F⟩:=b_.part (i:=6) (n:=k+1) (b_.int underlying3) Z (by kernel_rfl) Z (c 6 3 6 rfl);let⟨G,V,_,J⟩:=b_.part (i:=7) (n:=k+1) (b_.bool underlying4) Z (by kernel_rfl) Z (c 7 4 7 rfl);refine⟨⟨p,r,t,x,z,B,E,G⟩,?_,rfl,λj a v b e=>?_⟩;rw[o,<-g];simp only[bB_,aC_,bi_,nU,Nat.reduceAdd,O5,qW]at*;omega;match j with|0=>exact q 0 a v b e|1=>exact s 0 a v b e|2=>exact u 0 a v b e|3=>exact y 0 a v b e|4=>exact A 0 a v b e|5=>exact C 0 a v b e|6=>exact F 0 a v b e|7=>exact J 0 a v b e|j+8=>cases b
theorem JY{w:World}{r:Reach}{b0:Nat}{t:TypeId}{v:Value}{fs:Array Field}(a:P.underlying t=some (.struct fs))(h:Value.okWide P w r b0 t v):∃cs,v=.agg cs/\cs.size=P.cellsOf t:=by unfold Value.okWide at h;rw[a]at h;let⟨cs,e,b,_⟩:=h;exact⟨cs,e,b⟩
section
variable{held:Bool}
theorem aid(b:Value.okWide prog w r b0 25 v)(h:DataW.Trod enc prog w 0 sp held 25 v d ps):∃x:Pg,Xy x<=Rows.uptoBulk d/\aO (g0 w) w (pg .plain x) v:=by let⟨fuel,c⟩:=h;obtain⟨e,rfl,f⟩:=JY underlying25 b;have g:e.size=2:=f.trans (by kernel_rfl);let⟨x,j,_,k⟩:=anm (fuel+1) zzH enc w sp held fuel Z _ _ (by rw[bo_];exact g) c;refine⟨x,j,.agg X λi a y l m=>k i a y l ?_⟩;rw[<-m];exact bh_
theorem afZ(b:Value.okWide prog w r b0 32 v)(h:DataW.Trod enc prog w 0 sp held 32 v d ps):∃x:c_,O5 x<=Rows.uptoBulk d/\aO (g0 w) w (uM .plain x) v:=by let⟨fuel,c⟩:=h;obtain⟨e,rfl,f⟩:=JY underlying32 b;have g:e.size=8:=f.trans (by kernel_rfl);let⟨x,j,_,k⟩:=aic (fuel+1) zzH enc w sp held fuel Z _ _ (by rw[bo_];exact g) c;refine⟨x,j,.agg X λi a y l m=>k i a y l ?_⟩;rw[<-m];exact bh_
end
section
open Go.ChangeShapes Go.WideShapes Go.ChangeAt Go.RowKit
theorem laidOut:laidOutB prog=true:=by kernel_rfl
theorem SS:mapsRowed prog=true:=by kernel_rfl
theorem af0:prog.stopsHeard=true:=by kernel_rfl
theorem af1:prog.mayEnter=true:=by kernel_rfl
theorem fY{a b:Bool}(h:a=true)(k:b=true):(a&&b)=true:=by rw[h,k];rfl
end
section
attribute [local irreducible] ao aF D H
def ann:=aC func108 call108
def zf:List Nat:=[7,0,6,11,1,2,29]
def i_(l:List Dc)(n:ByteArray)(a:Int):Bool:=l.any λd=>d.n.toList==n.toList&&d.ar==a
theorem yB(l:List Dc)(n:ByteArray)(a:Int)(p:l.length<=1099511627776):ab Y 108 [g7 O l,.v (.string n),iv a] (.v (.bool (i_ l n a))):=by
 unfold i_;let⟨R,e⟩:=aq (l.any λd=>d.n.toList==n.toList&&d.ar==a);rw[<-e];refine st ann zf .v ?_;refine bD 0 0 [] (λi=>[(0,g7 O l),(1,.v (.string n)),(2,.v (.int .i64 a)),(7,.v (.int .i64 i))]) [] (λ_=>[]) l.length (λk=>R=(l.drop k).any λd=>d.n.toList==n.toList&&d.ar==a) X λi k f q b=>?_;clear e;refine I zf ?_;by_cases g:k<l.length
 ·let⟨x,h,j⟩:=aA g;rw[j,bI_]at b;repeat' first|refine og zf (D.bh f h) ?_|refine cg zf (λc=>?_) λc=>?_|refine lg zf λm o=>?_|refine ag zf λ_ _=>?_|refine xG zf ?_|refine rG zf ?_|refine fq ?_
  all_goals first|refine aK ?_;rw[b];simp_all;done|refine H.bK _ [] ?_ ?_ cq;grind;omega
 ·skip;repeat' first|refine cg zf (λc=>?_) λc=>?_|refine lg zf λm o=>?_|refine xG zf ?_|refine fq ?_
  all_goals first|omega|rw[b,aq_ Z];exact aK rfl
end
def zg(P:Program)(Y:World)(F:AV)(xs:List AV)(b:Bool):Prop:=∃gid args,fk F xs=some (gid,args)/\ja args/\ao P Y gid args (.v (.bool b))
theorem D.MH{Y:World}{U:AA}{S:ah}{dr:Bool}{f:QO}{a:List QO}{F:AV}{l:List AV}{b:Bool}(c:f.ev U.tm=F)(d:a.map (·.ev U.tm)=l)(h:zg P Y F l b):D P Y dr (.call f a) U S (.v (.bool b)) S:=by let⟨gid,args,e,g,i⟩:=h;subst c d;exact D.bO e i g
def dc(x:Dc):AV:=.agg (XC x)
def Lu(x:Dc):Pure (dc x):=.agg (O6 x)
def dp{T:Type}(p:T->Bool):List T->Nat->Int|[],_=>-1|x::l,k=>if p x then k else dp p l (k+1)
theorem tE{T:Type}(p:T->Bool):∀(l:List T)(k:Nat),decide (0<=dp p l k)=l.any p|[],_=>rfl|x::l,k=>by rw[dp,bI_];split;grind;rw[tE p l];simp_all
def H.O7{σ T:Type}{B N:Nat}{d:List (Nat×AV)}{ds:List DE}{so:σ->List (Nat×Ob)}{a:List T->σ->Prop}{c:List T}(b:σ)(m:List (Nat×Nat))(e:a c b)(hC:Canon B N m U S [] [] (so b)):H P Y true n (O8 P Y n B N d ds so a Q K c) (.out .normal []) U S:=⟨b,m,e,hC⟩
section
attribute [local irreducible] ao aF D H
def adP:=aC func200 call200
def g_:List Nat:=[8,0,5,4,7,9,1,16]
def ano:=aC func198 call198
def zh:List Nat:=[8,0,5,4,7,9,1,16]
def anp:=aC func326 call326
def zj:List Nat:=[8,0,5,4,7,9,1,16]
def anq:=aC func282 call282
def zk:List Nat:=[8,0,5,4,7,9,1,16]
def adQ:=aC func132 call132
def Lv:List Nat:=[4,0,1]
def anr:=aC func227 call227
def aaU:List Nat:=[4,0,1]
theorem aie(p:Int->Bool)(l:List Int)(gid:FuncId)(fs cs:List AV)(n:l.length<=1099511627776)(o:Pure (.fn (.func gid) fs cs))(h:∀x∈l,zg prog Y (.fn (.func gid) fs cs) [iv x] (p x)):ab Y 200 [aY O aV false l,.fn (.func gid) fs cs] (iv (dp p l 0)):=by
 let⟨R,c⟩:=aq (dp p l 0);rw[<-c];refine st adP g_ .v ?_;repeat' first|refine lg g_ λm q=>?_
 refine bD 0 0 [] (λi=>[(0,aY O aV false l),(1,.fn (.func gid) fs cs),(7,.v (.int .i64 m)),(8,.v (.int .i64 i))]) [] (λ_=>[]) l.length (λk=>R=dp p (l.drop k) k) X λi k e r a=>?_;clear c;refine I g_ ?_;by_cases f:k<l.length
 ·let⟨x,d,g⟩:=aA f;rw[g,dp]at a;have j:=h x (aZ d);repeat' first|refine og g_ (D.bh e d) ?_|refine bg g_ (D.MH rfl rfl j) (λ_=>?_) λ_=>?_|refine cg g_ (λb=>?_) λb=>?_|refine ag g_ λ_ _=>?_|refine xG g_ ?_|refine rG g_ ?_|refine fq ?_
  all_goals first|rw[if_pos X]at a;refine dx ?_;omega|rw[if_neg X]at a;refine H.bK _ [] ?_ ?_ cz;grind;omega|omega
 ·skip;repeat' first|refine cg g_ (λb=>?_) λb=>?_|refine xG g_ ?_|refine fq ?_
  all_goals first|omega|rw[a,aq_ Z];exact dx rfl
theorem aif(p:Im->Bool)(l:List Im)(gid:FuncId)(fs cs:List AV)(n:l.length<=1099511627776)(o:Pure (.fn (.func gid) fs cs))(h:∀x∈l,zg prog Y (.fn (.func gid) fs cs) [it O x] (p x)):ab Y 198 [kS O l,.fn (.func gid) fs cs] (iv (dp p l 0)):=by
 let⟨R,c⟩:=aq (dp p l 0);rw[<-c];refine st ano zh .v ?_;repeat' first|refine lg zh λm q=>?_
 refine bD 0 0 [] (λi=>[(0,kS O l),(1,.fn (.func gid) fs cs),(7,.v (.int .i64 m)),(8,.v (.int .i64 i))]) [] (λ_=>[]) l.length (λk=>R=dp p (l.drop k) k) X λi k e r a=>?_;clear c;refine I zh ?_;by_cases f:k<l.length
 ·let⟨x,d,g⟩:=aA f;rw[g,dp]at a;have j:=h x (aZ d);repeat' first|refine og zh (D.bh e d) ?_|refine bg zh (D.MH rfl rfl j) (λ_=>?_) λ_=>?_|refine cg zh (λb=>?_) λb=>?_|refine ag zh λ_ _=>?_|refine xG zh ?_|refine rG zh ?_|refine fq ?_
  all_goals first|rw[if_pos X]at a;refine dx ?_;omega|rw[if_neg X]at a;refine H.bK _ [] ?_ ?_ cz;grind;omega|omega
 ·skip;repeat' first|refine cg zh (λb=>?_) λb=>?_|refine xG zh ?_|refine fq ?_
  all_goals first|omega|rw[a,aq_ Z];exact dx rfl
theorem aih(p:Bd->Bool)(l:List Bd)(gid:FuncId)(fs cs:List AV)(n:l.length<=1099511627776)(o:Pure (.fn (.func gid) fs cs))(h:∀x∈l,zg prog Y (.fn (.func gid) fs cs) [bd O x] (p x)):ab Y 326 [a8 O l,.fn (.func gid) fs cs] (iv (dp p l 0)):=by
 let⟨R,c⟩:=aq (dp p l 0);rw[<-c];refine st anp zj .v ?_;repeat' first|refine lg zj λm q=>?_
 refine bD 0 0 [] (λi=>[(0,a8 O l),(1,.fn (.func gid) fs cs),(7,.v (.int .i64 m)),(8,.v (.int .i64 i))]) [] (λ_=>[]) l.length (λk=>R=dp p (l.drop k) k) X λi k e r a=>?_;clear c;refine I zj ?_;by_cases f:k<l.length
 ·let⟨x,d,g⟩:=aA f;rw[g,dp]at a;have j:=h x (aZ d);repeat' first|refine og zj (D.bh e d) ?_|refine bg zj (D.MH rfl rfl j) (λ_=>?_) λ_=>?_|refine cg zj (λb=>?_) λb=>?_|refine ag zj λ_ _=>?_|refine xG zj ?_|refine rG zj ?_|refine fq ?_
  all_goals first|rw[if_pos X]at a;refine dx ?_;omega|rw[if_neg X]at a;refine H.bK _ [] ?_ ?_ cz;grind;omega|omega
 ·skip;repeat' first|refine cg zj (λb=>?_) λb=>?_|refine xG zj ?_|refine fq ?_
  all_goals first|omega|rw[a,aq_ Z];exact dx rfl
theorem aii(p:Dc->Bool)(l:List Dc)(gid:FuncId)(fs cs:List AV)(n:l.length<=1099511627776)(o:Pure (.fn (.func gid) fs cs))(h:∀x∈l,zg prog Y (.fn (.func gid) fs cs) [dc x] (p x)):ab Y 282 [g7 O l,.fn (.func gid) fs cs] (iv (dp p l 0)):=by
 let⟨R,c⟩:=aq (dp p l 0);rw[<-c];refine st anq zk .v ?_;repeat' first|refine lg zk λm q=>?_
 refine bD 0 0 [] (λi=>[(0,g7 O l),(1,.fn (.func gid) fs cs),(7,.v (.int .i64 m)),(8,.v (.int .i64 i))]) [] (λ_=>[]) l.length (λk=>R=dp p (l.drop k) k) X λi k e r a=>?_;clear c;refine I zk ?_;by_cases f:k<l.length
 ·let⟨x,d,g⟩:=aA f;rw[g,dp]at a;have j:=h x (aZ d);repeat' first|refine og zk (D.bh e d) ?_|refine bg zk (D.MH rfl rfl j) (λ_=>?_) λ_=>?_|refine cg zk (λb=>?_) λb=>?_|refine ag zk λ_ _=>?_|refine xG zk ?_|refine rG zk ?_|refine fq ?_
  all_goals first|rw[if_pos X]at a;refine dx ?_;omega|rw[if_neg X]at a;refine H.bK _ [] ?_ ?_ cz;grind;omega|omega
 ·skip;repeat' first|refine cg zk (λb=>?_) λb=>?_|refine xG zk ?_|refine fq ?_
  all_goals first|omega|rw[a,aq_ Z];exact dx rfl
theorem aij(p:Int->Bool)(l:List Int)(gid:FuncId)(fs cs:List AV)(d:l.length<=1099511627776)(a:Pure (.fn (.func gid) fs cs))(h:∀x∈l,zg prog Y (.fn (.func gid) fs cs) [iv x] (p x)):ab Y 132 [aY O aV false l,.fn (.func gid) fs cs] (.v (.bool (l.any p))):=by
 have b:=aie (Y:=Y) (O:=O) p l gid fs cs d a h;have c:=tE p l 0;let⟨j,e⟩:=aq (dp p l 0);rw[<-e]at b c;refine st adQ Lv .v ?_;repeat' first|refine ig Lv (D.bO rfl b ⟨bZ _,a,trivial⟩) λ_ _=>?_|refine cg Lv (λf=>?_) λf=>?_|refine fq ?_
 all_goals subst_vars;refine aK ?_;rw[<-c];simp_all
theorem aik(p:Dc->Bool)(l:List Dc)(gid:FuncId)(fs cs:List AV)(d:l.length<=1099511627776)(a:Pure (.fn (.func gid) fs cs))(h:∀x∈l,zg prog Y (.fn (.func gid) fs cs) [dc x] (p x)):ab Y 227 [g7 O l,.fn (.func gid) fs cs] (.v (.bool (l.any p))):=by
 have b:=aii (Y:=Y) (O:=O) p l gid fs cs d a h;have c:=tE p l 0;let⟨j,e⟩:=aq (dp p l 0);rw[<-e]at b c;refine st anr aaU .v ?_;repeat' first|refine ig aaU (D.bO rfl b ⟨eL _,a,trivial⟩) λ_ _=>?_|refine cg aaU (λf=>?_) λf=>?_|refine fq ?_
 all_goals subst_vars;refine aK ?_;rw[<-c];simp_all
end
theorem Tz{o:Op}{y:QO}(h:res P.toTables o=some (.eqs t x y)):∃u v s,o=.binOp .eql t u v s/\x=qo u/\y=qo v:=by cases o with|binOp a b u v s =>simp only[res]at h;split at h;grind;grind;grind;grind;split at h;simp only[oI_,nV.eqs.injEq]at h;obtain⟨rfl,rfl,rfl⟩:=h;exact⟨_,_,_,rfl,rfl,rfl⟩;grind;grind|_ =>
  simp only[res]at h;repeat' split at h
  all_goals cases h
def EqS(P:Program)(t:Nat)(a b:Value)(e:Bool):Prop:=(∃c d,a=.agg c/\b=.agg d)/\P.eqGuardType P.depth t=false/\∀w,(binOp .eql t a b).run P w=.ok (.bool e) w
theorem TA{y:QO}{a b:Value}{e:Bool}(h:EqS P t a b e){n:Nat}{o:Oper}(j:res P.toTables o.op=some (.eqs t x y))(β:AA)(d:toV (x.ev β.tm)=some a)(f:toV (y.ev β.tm)=some b):jO P Y n o β S (.v (.bool e)) S:=by
 obtain⟨u,v,s,k,rfl,rfl⟩:=Tz j;rw[aT]at d f;refine a_.ops (a_.quiet λA g c w C i=>⟨.bool e,?_,.v⟩) λc e=>X;have l:=BZ (i.ev u) d;have m:=BZ (i.ev v) f;obtain⟨⟨p,q,rfl,rfl⟩,r,z⟩:=h;have B:(eqGuard .eql t u v (.agg p) (.agg q)).run P w=.ok () w:=by simp[eqGuard,r]
 simp only[execOp,k,l,m,Sem.run_bind,B,Result.andThen_ok,z w,Sem.run_pure]
theorem D.eqs{dr:Bool}{y:QO}{a b:Value}{e:Bool}(g:toV (x.ev U.tm)=some a)(i:toV (y.ev U.tm)=some b)(h:EqS P t a b e):D P Y dr (.eqs t x y) U S (.v (.bool e)) S:=by cases dr with|false=>exactλn o c=>TA h c U g i|true =>intro n o c;let⟨u,v,s,d,j,k⟩:=Tz c;have key:∀z∈o.op.operands,(U.only (dS o)).ev z=U.ev z:=λz l=>gI λt e=>gJ X;have m:(U.only (dS o)).ev u=U.ev u:=key u (by rw[d];simp[Op.operands]);have p:(U.only (dS o)).ev v=U.ev v:=key v (by rw[d];simp[Op.operands]);have f:∀T,jO P Y n o (U.only (dS o)) T (.v (.bool e)) T:=λT=>TA h c _ (by grind[aT]) (by grind[aT]);exact⟨f S,λ_=>⟨rfl,f⟩,λ_=>rfl⟩
section
attribute [local irreducible] ao aF D H
def ans:=aC func255 call255
def e_:List Nat:=[2,17,1,4,0,9,16,18,15,6,24]
def ant:=aC func254 call254
def tF:List Nat:=[6,1,5,7,3,0,15]
def anu:=aC func192 call192
def ast:List Nat:=[2,0,1]
def anv:=aC func191 call191
def Fa:List Nat:=[5,3,4,2,0,7,8,12]
def anw:=aC func122 call122
def aaV:List Nat:=[2,0,1]
def anx:=aC func129 call129
def aaW:List Nat:=[2,0,1]
def anz:=aC func127 call127
def aaX:List Nat:=[2,0,1]
mutual def eD:Tm->List Int|⟨k,i,n,a⟩=>if k=1 then[i] else if k=2 then aX a else[]def aX:List Tm->List Int|[]=>[]|x::l=>eD x++aX l end
def bQ(s:List Int):List Int->List Int|[]=>[]|x::l=>if s.contains x then bQ s l else x::bQ (s++[x]) l
theorem jS{a:List Tm}{k:Nat}{y:Tm}(h:a.drop k=y::a.drop (k+1)):aX (a.drop k)=eD y++aX (a.drop (k+1)):=by rw[h,aX]
theorem Hr{J:iA}(h0:aW m 0=0):∀k a,fH [(0,.fo J)] k=some (.fo a)->∃j,j<1/\aW m j=k:=λk a h=>by have:=fT h;simp at this;exact⟨0,Z,X⟩
theorem XD{f:Nat->Option Ob}{d:Nat}{a:Option Ob}(h:∀k J,f k=some (.fo J)->∃j,j<1/\aW m j=k)(b:(∀J,a≠some (.fo J))\/aW m 0=d):∀k J,bJ f d a k=some (.fo J)->∃j,j<1/\aW m j=k:=λk J c=>by grind[aG,aN]
theorem XE(x:Tm):∀(J:iA)(b:Bool)(e:iA),x.ok->Ys prog Y J ((eD x).map aV) b e ->aF prog Y 255 [tm O x,.yl 0] (aw [(0,.fo J)] 1) (.v (.bool b)) (aw [(0,.fo e)] 1):=by
 refine Tm.ind (p:=λx=>∀(J:iA)(b:Bool)(e:iA),x.ok->Ys prog Y J ((eD x).map aV) b e ->aF prog Y 255 [tm O x,.yl 0] (aw [(0,.fo J)] 1) (.v (.bool b)) (aw [(0,.fo e)] 1)) ?_ x;intro k i n a A J b e E d;let⟨F,G,v⟩:=E.out;dsimp only at F G v;have s:=ahX (Y:=Y) (O:=O) ⟨k,i,n,a⟩;rw[qz]at s;dsimp only at s;refine sc 1 1 ans ?_;refine I e_ ?_;rw[eD]at d;by_cases t:k=1
 ·subst t;have o:=d.one;repeat' first|refine H.op rfl (D.yl rfl rfl (o _ 0 rfl)) ?_;refine I e_ ?_|refine bq (λc=>?_) λc=>?_<;>(try simp only[bW]at c)<;>(first|exact dy c|refine I e_ ?_)|refine cr λm f=>?_;(try rw[az]at f);refine I e_ ?_|refine cK λ_ _=>?_;refine I e_ ?_|refine im λ_ _=>?_;refine I e_ ?_|refine H.str rfl (D.cat rfl rfl (by assumption)) λ_ _=>?_;refine I e_ ?_|refine xG e_ ?_|refine rG e_ ?_|refine fq ?_
  exact⟨[],.aJ .v,⟨.inl ⟨_,rfl,.same trivial⟩,trivial⟩,rfl⟩
 rw[if_neg t]at d;let⟨g,q⟩:=aq (if k=2 then a else[]);rw[<-q]at s;have B:Ys prog Y J ((aX g).map aV) b e:=by rw[q];split at d;rw[if_pos X];exact d;rw[if_neg X,aX];exact d
 have P:g.length<=1099511627776:=by rw[q];split;omega;simp
 have u:∀y∈g,y∈a:=by intro y d;rw[q]at d;split at d;exact d;cases d
 clear d q;repeat' first|refine H.op rfl (pl s) ?_;refine I e_ ?_|refine bq (λc=>?_) λc=>?_<;>(try simp only[bW]at c)<;>(first|exact dy c|refine I e_ ?_)|refine cr λm f=>?_;(try rw[az]at f);refine I e_ ?_|refine cK λ_ _=>?_;refine I e_ ?_|refine im λ_ _=>?_;refine I e_ ?_|refine H.str rfl (D.cat rfl rfl (by assumption)) λ_ _=>?_;refine I e_ ?_|refine xG e_ ?_|refine rG e_ ?_|refine fq ?_
 exact absurd (by assumption) t;refine cC (τ:=iA) 2 2 [] (λp=>[(1,.yl 0),(15,tl O g),(16,.v (.int .i64 m)),(17,.v (.int .i64 p.1))]) [] (λp=>[(0,.fo p.2)]) g.length (λk p=>Ys prog Y p.2 ((aX (g.drop k)).map aV) b e) J (by simpa using B) ?_;rintro i k J w t r;simp only at w r;clear B;refine I e_ ?_;by_cases K:k<g.length
 ·let⟨y,j,L⟩:=aA K;rw[jS L,ba_]at r;rcases r.split with⟨M,o⟩|⟨C,o,N⟩
  ·subst M;have z:=A y (u y (aZ j)) _ _ _ (v.mem y (u y (aZ j))) o;repeat' first|refine H.op rfl (D.ind rfl rfl (cD (l:=g) w j) cE) ?_;refine I e_ ?_|refine H.op rfl (D.nS (m:=[(0,0)]) (to:=[(0,some (.fo e))]) z rfl ⟨Rn.pure (bH _),Rn.yl rfl rfl,trivial⟩ (Rb.pure .v) rfl rfl ⟨⟨_,rfl,lJ.fo⟩,trivial⟩ ⟨⟨0,_,rfl,rfl,mP.fo⟩,trivial⟩ rfl (by repeat first|exact iZ rfl|refine oR ?_ rfl) (.inl (by repeat first|exact Hr rfl|refine XD ?_ (.inl λJ h=>X)))) ?_;refine I e_ ?_|refine bq (λc=>?_) λc=>?_<;>(try simp only[bW]at c)<;>(first|exact dy c|refine I e_ ?_)|refine cr λm f=>?_;(try rw[az]at f);refine I e_ ?_|refine cK λ_ _=>?_;refine I e_ ?_|refine im λ_ _=>?_;refine I e_ ?_|refine H.str rfl (D.cat rfl rfl (by assumption)) λ_ _=>?_;refine I e_ ?_|refine xG e_ ?_|refine rG e_ ?_|refine fq ?_
   all_goals first|exact⟨[],.aJ .v,⟨.inl ⟨_,rfl,.same trivial⟩,trivial⟩,rfl⟩|omega
  ·have z:=A y (u y (aZ j)) _ _ _ (v.mem y (u y (aZ j))) o;repeat' first|refine H.op rfl (D.ind rfl rfl (cD (l:=g) w j) cE) ?_;refine I e_ ?_|refine H.op rfl (D.nS (m:=[(0,0)]) (to:=[(0,some (.fo C))]) z rfl ⟨Rn.pure (bH _),Rn.yl rfl rfl,trivial⟩ (Rb.pure .v) rfl rfl ⟨⟨_,rfl,lJ.fo⟩,trivial⟩ ⟨⟨0,_,rfl,rfl,mP.fo⟩,trivial⟩ rfl (by repeat first|exact iZ rfl|refine oR ?_ rfl) (.inl (by repeat first|exact Hr rfl|refine XD ?_ (.inl λJ h=>by cases h)))) ?_;refine I e_ ?_|refine bq (λc=>?_) λc=>?_<;>(try simp only[bW]at c)<;>(first|exact dy c|refine I e_ ?_)|refine cr λm f=>?_;(try rw[az]at f);refine I e_ ?_|refine cK λ_ _=>?_;refine I e_ ?_|refine im λ_ _=>?_;refine I e_ ?_|refine H.str rfl (D.cat rfl rfl (by assumption)) λ_ _=>?_;refine I e_ ?_|refine xG e_ ?_|refine rG e_ ?_|refine fq ?_
   all_goals first|omega|exact bN (_,C) [] (k+1) N
 ·rw[aq_ Z,aX]at r;obtain⟨rfl,rfl⟩:=r.O9;repeat' first|refine bq (λc=>?_) λc=>?_<;>(try simp only[bW]at c)<;>(first|exact dy c|refine I e_ ?_)|refine cr λm f=>?_;(try rw[az]at f);refine I e_ ?_|refine cK λ_ _=>?_;refine I e_ ?_|refine im λ_ _=>?_;refine I e_ ?_|refine H.str rfl (D.cat rfl rfl (by assumption)) λ_ _=>?_;refine I e_ ?_|refine xG e_ ?_|refine rG e_ ?_|refine fq ?_
  all_goals first|omega|exact⟨[],.aJ .v,⟨.inl ⟨_,rfl,.same trivial⟩,trivial⟩,rfl⟩
theorem TB(l:List Tm)(x:l.length<=1099511627776)(o:dR l):Iter prog Y 254 [] [.ip [tl O l]] ((aX l).map aV):=by
 intro J b g q;refine⟨.aL [],aw [(0,.fo g)] 1,?_,rfl⟩;refine sc 1 1 ant ?_;refine I tF ?_;repeat' first|refine lg tF λm z=>?_
 refine cC (τ:=iA) 1 1 [] (λp=>[(0,.yl 0),(1,.ip [tl O l]),(5,.v (.int .i64 m)),(6,.v (.int .i64 p.1))]) [] (λp=>[(0,.fo p.2)]) l.length (λk p=>Ys prog Y p.2 ((aX (l.drop k)).map aV) b g) J (by simpa using q) (hC:=⟨⟨.aJ rfl (.yl aD),.aJ rfl (Pure.bu (.ip λa c=>by cases ar_.1 c;exact cZ _)),.aJ rfl .v,.aJ rfl .v,trivial⟩,rfl,⟨.inl ⟨_,rfl,.same trivial⟩,trivial⟩,rfl,rfl,rfl⟩) ?_;rintro i k J h B d;simp only at h d;clear q;refine I tF ?_;by_cases t:k<l.length
 ·let⟨y,f,u⟩:=aA t;rw[jS u,ba_]at d;rcases d.split with⟨v,j⟩|⟨r,j,w⟩
  ·subst v;have n:=XE (O:=O) y _ _ _ (o.mem y (aZ f)) j;repeat' first|refine og tF (D.ind rfl rfl (cD (l:=l) h f) cE) ?_|refine og tF (D.nS (m:=[(0,0)]) (to:=[(0,some (.fo g))]) n rfl ⟨Rn.pure (bH _),Rn.yl rfl rfl,trivial⟩ (Rb.pure .v) rfl rfl ⟨⟨_,rfl,lJ.fo⟩,trivial⟩ ⟨⟨0,_,rfl,rfl,mP.fo⟩,trivial⟩ rfl (by repeat first|exact iZ rfl) (.inl (by repeat first|exact Hr rfl))) ?_|refine cg tF (λe=>?_) λe=>?_|refine xG tF ?_|refine rG tF ?_|refine fq ?_
   all_goals first|exact⟨[],.aJ (.aL λa c=>by cases c),⟨.inl ⟨_,rfl,.same trivial⟩,trivial⟩,rfl⟩|omega
  ·have n:=XE (O:=O) y _ _ _ (o.mem y (aZ f)) j;repeat' first|refine og tF (D.ind rfl rfl (cD (l:=l) h f) cE) ?_|refine og tF (D.nS (m:=[(0,0)]) (to:=[(0,some (.fo r))]) n rfl ⟨Rn.pure (bH _),Rn.yl rfl rfl,trivial⟩ (Rb.pure .v) rfl rfl ⟨⟨_,rfl,lJ.fo⟩,trivial⟩ ⟨⟨0,_,rfl,rfl,mP.fo⟩,trivial⟩ rfl (by repeat first|exact iZ rfl) (.inl (by repeat first|exact Hr rfl))) ?_|refine cg tF (λe=>?_) λe=>?_|refine ag tF λ_ _=>?_|refine xG tF ?_|refine fq ?_
   all_goals first|omega|exact bN (_,r) [] (k+1) w (hC:=⟨⟨.aJ rfl (.yl aD),.aJ rfl (Pure.bu (.ip λa c=>by cases ar_.1 c;exact cZ _)),.aJ rfl .v,.aJ rfl .v,trivial⟩,rfl,⟨.inl ⟨_,rfl,.same trivial⟩,trivial⟩,rfl,rfl,rfl⟩)
 ·rw[aq_ Z,aX]at d;obtain⟨rfl,rfl⟩:=d.O9;repeat' first|refine cg tF (λe=>?_) λe=>?_|refine xG tF ?_|refine fq ?_
  all_goals first|omega|exact⟨[],.aJ (.aL λa c=>by cases c),⟨.inl ⟨_,rfl,.same trivial⟩,trivial⟩,rfl⟩
theorem JZ(l:List Tm):ab Y 192 [tl O l] (.fn (.func 254) [] [.ip [tl O l]]):=by
 refine st anu ast (.fn (λa c=>X) λa c=>by cases ar_.1 c;exact .ip λb e=>by grind[cZ]) ?_;repeat' first|refine fq ?_
 refine aI.fns ?_ ?_;exact trivial;exact⟨aI.box (cs:=[tl O l]) (cs':=[tl O l]) rfl ⟨.refl _,trivial⟩,trivial⟩
end
def mI(env:List Bd)(v:Int):Option Tm:=(env.find? λb=>b.v==v).map (·.t)
def nf:List Bd->Bd->List Bd|[],b=>[b]|x::l,b=>if b.v<x.v then b::x::l else x::nf l b
mutual def qB:Tm->Tm->List Bd->Option (List Bd)|⟨k,i,n,a⟩,t,e=>if k=2 then if t.k=2/\t.n.toList=n.toList/\a.length=t.a.length then jr a t.a e else none else if k=1 then match mI e i with|some u=>if fe u t=0 then some e else none|none=>some (nf e ⟨i,t⟩) else if fe ⟨k,i,n,a⟩ t=0 then some e else none def jr:List Tm->List Tm->List Bd->Option (List Bd)|[],_,e=>some e|x::l,m,e=>match m with|[]=>some e|y::m=>match qB x y e with|none=>none|some b=>jr l m b end
def qC:List (Tm×Tm)->List Bd->Option (List Bd)|[],e=>some e|p::l,e=>match qB p.1 p.2 e with|none=>none|some a=>qC l a
theorem Fb:∀(a b:List Tm)(e:List Bd),jr a b e=qC (a.zip b) e|[],b,e=>by rw[jr,dx_,qC]|x::a,[],e=>by rw[jr,List.zip_nil_right,qC]|x::a,y::b,e=>by rw[jr,cY_,qC];cases qB x y e with|none=>rfl|some c=>exact Fb a b c
theorem O_:∀(l m:List (Tm×Tm))(e:List Bd),qC (l++m) e=match qC l e with|none=>none|some e'=>qC m e'
 |[],m,e=>rfl|p::l,m,e=>by rw[aP_,qC,qC];cases qB p.1 p.2 e with|none=>rfl|some e'=>exact O_ l m e'
def gG(e:List Bd)(p:Tm×Tm):List Bd×List (Tm×Tm)×Bool :=if p.1.k=1 then match mI e p.1.i with|some u=>(e,[],fe u p.2==0)|none=>(nf e ⟨p.1.i,p.2⟩,[],true) else if p.1.k=2 then if p.2.k=2/\p.2.n.toList=p.1.n.toList/\p.1.a.length=p.2.a.length then(e,p.1.a.zip p.2.a,true) else([],[],false) else(e,[],fe p.1 p.2==0)
theorem XI(e:List Bd)(p:Tm×Tm):qB p.1 p.2 e=match gG e p with|(e',l,true)=>qC l e'|(_,_,false)=>none:=by
 let⟨⟨k,i,n,a⟩,t⟩:=p;unfold gG;simp only;rw[qB];by_cases d:k=1;rw[if_pos d,if_neg Z,if_pos d];cases mI e i with|none=>rfl|some u =>
  simp only;by_cases b:fe u t=0;rw[if_pos b,b];rfl;rw[if_neg b];have:(fe u t==0)=false:=by simpa using b
  rw[this]
 rw[if_neg d,if_neg d];by_cases b:k=2;rw[if_pos b,if_pos b];by_cases c:t.k=2/\t.n.toList=n.toList/\a.length=t.a.length;rw[if_pos c,if_pos c,Fb];rw[if_neg c,if_neg c];rw[if_neg b,if_neg b];by_cases c:fe ⟨k,i,n,a⟩ t=0;rw[if_pos c,c];rfl;rw[if_neg c];have:(fe ⟨k,i,n,a⟩ t==0)=false:=by simpa using c
 rw[this]
def oT:List (Tm×Tm)->Nat|[]=>0|p::l=>cO p.1+oT l
theorem Lw:∀l m:List (Tm×Tm),oT (l++m)=oT l+oT m|[],m=>by simp[oT]|p::l,m=>by rw[aP_,oT,oT,Lw l m];omega
theorem Hs:∀a b:List Tm,oT (a.zip b)<=bE a|[],b=>by simp[oT]|x::a,[]=>by simp[oT]|x::a,y::b=>by rw[cY_,oT,bE];have:=Hs a b;simp only;omega
theorem fJ(t:Tm):cO t=1+bE t.a:=by let⟨k,i,n,a⟩:=t;rw[cO];simp only;omega
theorem aaY(e:List Bd)(p:Tm×Tm):oT (gG e p).2.1<cO p.1:=by unfold gG;rw[fJ];split;split<;>(simp only[oT];omega);split;split;have:=Hs p.1.a p.2.a;simp only;omega;simp only[oT];omega;simp only[oT];omega
mutual def kZ(env:List Bd)(fr:Int):Tm->Tm|⟨k,i,n,a⟩=>if k=1 then match mI env i with|some u=>u|none=>⟨1,fr+i,⟨#[]⟩,[]⟩ else if k=0 then⟨0,i,⟨#[]⟩,[]⟩ else if k=2 then⟨2,0,n,nW env fr a⟩ else⟨k,i,n,a⟩def nW(env:List Bd)(fr:Int):List Tm->List Tm|[]=>[]|x::l=>kZ env fr x::nW env fr l end
theorem pE(env:List Bd)(fr:Int):∀l,nW env fr l=l.map (kZ env fr)|[]=>by rw[nW];rfl|x::l=>by rw[nW,pE env fr l];rfl
def jZ(env:List Bd)(fr:Int)(g:Gl):Gl:=⟨g.op,g.n,g.a.map (kZ env fr)⟩
mutual def sT:Tm->Prop|⟨k,i,n,a⟩=>(k=1->0<=i/\i<=1099511627776)/\oU a def oU:List Tm->Prop|[]=>True|x::l=>sT x/\oU l end
theorem oU.mem:∀{l:List Tm},oU l->∀x∈l,sT x|y::l,h,x,a=>by rw[oU]at h;rcases al_.1 a with rfl|a;exact h.1;exact h.2.mem x a
mutual def iW(b:List Bd):Tm->Tm|⟨k,i,n,a⟩=>if k=1 then match mI b i with|some u=>u|none=>⟨k,i,n,a⟩ else if k=2 then⟨k,i,n,uN b a⟩ else⟨k,i,n,a⟩def uN(b:List Bd):List Tm->List Tm|[]=>[]|x::l=>iW b x::uN b l end
theorem uc(b:List Bd):∀l,uN b l=l.map (iW b)|[]=>by rw[uN];rfl|x::l=>by rw[uN,uc b l];rfl
def gy(b:List Bd)(g:Gl):Gl:=⟨g.op,g.n,g.a.map (iW b)⟩
theorem zl{x y:Bd}:∀{l:List Bd},y∈nf l x↔y=x\/y∈l|[]=>by rw[nf];simp|z::l=>by rw[nf];split;simp;rw[al_,zl,al_];constructor;rintro(h|h|h);exact .inr (.inl h);exact .inl h;exact .inr (.inr h);rintro(h|h|h);exact .inr (.inl h);exact .inl h;exact .inr (.inr h)
theorem IX(x:Bd):∀l:List Bd,(nf l x).length=l.length+1|[]=>rfl|y::l=>by rw[nf];split;rfl;rw[aC_,IX x l,aC_]
theorem MJ{env:List Bd}{v:Int}:(mI env v).isSome=true↔∃b∈env,b.v=v:=by unfold mI;rw[Option.isSome_map,List.find?_isSome];simp
def sH(env:List Bd)(v:Int):Prop:=∃b∈env,b.v=v
mutual theorem XJ:∀(p t:Tm)(e e':List Bd),eU p->qB p t e=some e'->(∀v,sH e v->sH e' v)/\∀v,oV v p->sH e' v |⟨k,i,n,a⟩,t,e,e',d,h=>by rw[qB]at h;rw[eU]at d;split at h;rename_i f;rw[if_neg Z]at d;split at h;rename_i m;let⟨j,o⟩:=Dg a t.a e e' d.1 m.2.2 h;exact⟨j,λv c=>o v (by rw[oV,if_neg Z]at c;exact c)⟩;cases h;rename_i q;split at h;rename_i f;split at h;rename_i u r;split at h;cases oJ_ h;refine⟨λv c=>c,λv c=>?_⟩;rw[oV,if_pos f]at c;subst c;exact MJ.1 (by rw[r];rfl);cases h;cases oJ_ h;refine⟨λv ⟨b,s,g⟩=>⟨b,zl.2 (.inr s),g⟩,λv c=>?_⟩;rw[oV,if_pos f]at c;exact⟨_,zl.2 (.inl rfl),c⟩;rename_i f;split at h;cases oJ_ h;rw[if_neg f]at d;refine⟨λv c=>c,λv c=>?_⟩;rw[oV,if_neg f,d.2.resolve_left q,jb]at c;exact c.elim;cases h;theorem Dg:∀(a b:List Tm)(e e':List Bd),eW a->a.length=b.length->jr a b e=some e'->(∀v,sH e v->sH e' v)/\∀v,jb v a->sH e' v|[],b,e,e',_,_,h=>by rw[jr]at h;cases oJ_ h;exact⟨λv c=>c,λv c=>by rw[jb]at c;exact c.elim⟩|x::a,[],e,e',_,l,h=>by cases l|x::a,y::b,e,e',d,l,h=>by rw[jr]at h;rw[eW]at d;split at h;cases h;rename_i g j;let⟨w,z⟩:=XJ x y e g d.1 j;let⟨q1,A⟩:=Dg a b g e' d.2 (by simpa using l) h;refine⟨λv c=>q1 v (w v c),λv c=>?_⟩;rw[jb]at c;rcases c with c|c;exact q1 v (z v c);exact A v c;end
abbrev KN:=List (Int×Int×Int)
noncomputable def tp(f:Nat->List Nat->KN->Option (Option (Int×Int)×List Nat×KN)):List Nat->List Nat->KN->Int×Int->Option (Option (Int×Int)×List Nat×KN)|[],up,a,q=>some (some q,up,a)|x::l,up,a,q=>match lB up x with|none=>none|some (u,r)=>match f r u a with|none=>none|some (none,b,c)=>some (none,b,c)|some (some p,b,c)=>tp f l b c (min (q.1+p.1) 201,min (max q.2 (p.2+1)) 21)
noncomputable def oI(N:aS)(sh:List (Int×Int)):Nat->List (Int×Unit)->Nat->List Nat->KN->Option (Option (Int×Int)×List Nat×KN)|0,_,_,_,_=>none|m+1,busy,r,up,a=>match aH a (r:Int) with|some q=>some (some q,up,a)|none=>match aH busy (r:Int) with|some _=>some (none,up,a)|none=>match aH sh (r:Int) with|none=>some (some (1,1),up,gU a r (1,1))|some k=>if 0<=k then match N[k.toNat]? with|none=>none|some (_,l)=>match tp (oI N sh m (gU busy r ())) l up a (1,1) with|none=>none|some (none,u,b)=>some (none,u,b)|some (some q,u,b)=>some (some q,u,gU b r q) else none
mutual def H_:Tm->Nat|⟨k,i,n,a⟩=>zm a+1def zm:List Tm->Nat|[]=>0|x::l=>max (H_ x) (zm l)end
def qD(t:Tm):Int×Int:=(min (cO t:Int) 201,min (H_ t:Int) 21)
def iq(N:aS)(c:Nat->Nat)(sh:Nat->Option Nat):Nat->Nat->Prop|0,_=>False|m+1,C=>∀s,sh C=some s->∀j∈ks N s,iq N c sh m (c j)
section
variable{sh:Nat->Option Nat}
def iq.succ:∀{m C:Nat},iq N c sh m C->iq N c sh (m+1) C|0,_,h=>h.elim|m+1,C,h=>λs a j b=>(h s a j b).succ
theorem iq.le{m a C:Nat}(h:iq N c sh m C)(b:m<=a):iq N c sh a C:=by induction b with|refl=>exact h|step _ d=>exact d.succ
theorem Ar:∀{m a C:Nat},iq N c sh m C->m<=a->TF N c sh lo a C=TF N c sh lo m C|0,_,_,h,_=>h.elim|m+1,0,_,_,h=>Z|m+1,a+1,C,h,d=>by rw[TF,TF];cases e:sh C with|none=>rfl|some s =>simp only[Tm.mk.injEq,true_and];exact aQ_ λj b=>Ar (h s e j b) Z
theorem Pa{p:Nat->Prop}:∀(n:Nat),p n->∃m,p m/\∀k,k<m->¬p k:=by intro n;induction n using Nat.strongRecOn with|ind n a =>intro h;by_cases b:∃k,k<n/\p k;grind;grind
end
def tq(busy:List (Int×Unit)):Nat->Nat|0=>0|n+1=>tq busy n+if aH busy (n:Int)=none then 1 else 0
theorem Pb{b b':List (Int×Unit)}(h:∀i,aH b' i=none->aH b i=none):∀n,tq b' n<=tq b n|0=>ad_ _|n+1=>by have:=Pb h n;rw[tq,tq];by_cases e:aH b' (n:Int)=none;grind;grind
theorem IY{b b':List (Int×Unit)}(h:∀i,aH b' i=none->aH b i=none){r:Nat}(a:aH b (r:Int)=none)(c:aH b' (r:Int)≠none):∀n,r<n->tq b' n<tq b n|0,d=>Z|n+1,d=>by rw[tq,tq];by_cases e:r=n;subst e;have:=Pb h r;rw[if_pos a,if_neg c];omega;have:=IY h a c n Z;by_cases e:aH b' (n:Int)=none;grind;grind
theorem MK(b:List (Int×Unit)):∀n,tq b n<=n|0=>ad_ _|n+1=>by have:=MK b n;rw[tq];split<;>omega
section
variable{sh:List (Int×Int)}
def Fc(N:aS)(c:Nat->Nat)(sh:List (Int×Int))(lo:Nat->Int)(kn:KN):Prop:=∀(C:Nat) q,aH kn (C:Int)=some q->∃m,iq N c (dk sh) m C/\q=qD (TF N c (dk sh) lo m C)
structure Lx(N:aS)(c:Nat->Nat)(sh:List (Int×Int)):Prop where
 pos:∀C i,aH sh C=some i->0<=i
 at_:∀C,C<N.length->c C=C->∀s,dk sh C=some s->s<N.length/\c s=C/\(tn N s).k≠1kid:∀i,i<N.length->∀j∈ks N i,j<N.length
def RkC(N:aS)(c:Nat->Nat)(sh:List (Int×Int))(a:Nat->Nat):Prop:=∀C,C<N.length->c C=C->∀s,dk sh C=some s->∀j∈ks N s,a (c j)<a C
theorem Pc(l:List Tm)(x:Tm):bE (l++[x])=bE l+cO x:=by induction l with|nil=>simp[bE]|cons y l a=>rw[aP_,bE,bE,a];omega
theorem TD(k i:Int)(n:ByteArray)(a:List Tm):qD ⟨k,i,n,a⟩=(min (1+bE a:Int) 201,min (max 1 (zm a+1:Int)) 21):=by grind[qD,cO,H_]
theorem af2(P:Lx N c sh):∀(d:Nat)(busy:List (Int×Unit))(r:Nat)(up:List Nat)(kn:KN),tq busy N.length<=d->UF up c h->up.length=N.length->r<N.length->c r=r->Fc N c sh lo kn ->∃res y f,oI N sh (d+1) busy r up kn=some (res,y,f)/\UF y c h/\y.length=N.length/\Fc N c sh lo f/\(∀C q,aH kn C=some q->aH f C=some q)/\(∀q,res=some q->aH f (r:Int)=some q) /\(res=none->∀a,RkC N c sh a->∃b:Nat,b<N.length/\aH busy (b:Int)≠none/\a b<=a r):=by intro d;induction d with
 |zero =>intro busy r up kn hd g u z Q o;rw[oI];cases R:aH kn (r:Int) with|some q=>exact⟨some q,up,kn,rfl,g,u,o,λ_ _ h=>h,λp t=>X,λh=>X⟩|none =>cases F:aH busy (r:Int) with|some _=>exact⟨none,up,kn,rfl,g,u,o,λ_ _ h=>h,λp t=>X,λ_ a _=>⟨r,z,X,ad_ _⟩⟩|none =>exfalso;have:=IY (b:=busy) (b':=gU busy (r:Int) ()) (r:=r) λi v=>by grind[c9] F (by grind[c9]) N.length z;omega
 |succ d ih =>intro busy r up kn hd g u z Q o;rw[oI];cases R:aH kn (r:Int) with|some q=>exact⟨some q,up,kn,rfl,g,u,o,λ_ _ h=>h,λp t=>X,λh=>X⟩|none =>cases F:aH busy (r:Int) with|some _=>exact⟨none,up,kn,rfl,g,u,o,λ_ _ h=>h,λp t=>X,λ_ a _=>⟨r,z,X,ad_ _⟩⟩|none =>
    have G:=IY (b:=busy) (b':=gU busy (r:Int) ()) (r:=r) λi v=>by grind[c9] F (by grind[c9]) N.length z;have XL:∀{f:KN}{q:Int×Int}{m:Nat},Fc N c sh lo f->iq N c (dk sh) m r->q=qD (TF N c (dk sh) lo m r)->Fc N c sh lo (gU f r q):=by intro f q m S hW n C p t;rw[c9]at t;split at t;rename_i e;have e:r=C:=Z;subst e;cases oJ_ t;exact⟨m,hW,n⟩;exact S C p t
    have Pd:∀{f:KN}{q:Int×Int},(∀C p,aH kn C=some p->aH f C=some p)->∀C p,aH kn C=some p->aH (gU f r q) C=some p:=by grind[c9]
    cases e3:aH sh (r:Int) with|none =>
     have f3:dk sh r=none:=by grind[dk]
     refine⟨some (1,1),up,_,rfl,g,u,XL (m:=1) o (λs hs=>X) ?_,Pd λ_ _ h=>h,λq n=>by grind[c9],λh=>by cases h⟩;rw[TF,f3];simp only[qD,vr,cO,bE,H_,zm];rfl|some k =>
     have f3:dk sh r=some k.toNat:=by grind[dk]
     let⟨s1,s2,s3⟩:=P.at_ r z Q _ f3;simp only[if_pos (P.pos _ _ e3),yQ s1];have key:∀(l:List Nat)(up:List Nat)(kn:KN)(A B:Int),1<=A->1<=B->(∀j∈l,j<N.length)->UF up c h->up.length=N.length->Fc N c sh lo kn ->∃res y f,tp (oI N sh (d+1) (gU busy r ())) l up kn (min A 201,min B 21)=some (res,y,f)/\UF y c h/\y.length=N.length/\Fc N c sh lo f/\(∀C q,aH kn C=some q->aH f C=some q) /\(∀q,res=some q->∃M,(∀j∈l,iq N c (dk sh) M (c j))/\q=(min (A+bE (l.map λj=>TF N c (dk sh) lo M (c j))) 201,min (max B (zm (l.map λj=>TF N c (dk sh) lo M (c j))+1)) 21)) /\(res=none->∀a,RkC N c sh a->(∀j∈l,a (c j)<a r)->∃b:Nat,b<N.length/\aH busy (b:Int)≠none/\a b<=a r):=by intro l;induction l with|nil =>intro up kn A B hA hB _ g u o;refine⟨_,up,kn,by rw[tp],g,u,o,λ_ _ h=>h,λq n=>⟨0,λj w=>X,?_⟩,λh=>by cases h⟩;rw[<-oJ_ n];simp[bE,zm];omega|cons j l T =>
       intro up kn A B hA hB w g u o;have ML:=w j aB;let⟨J,r1,Ia,l1⟩:=g.lB (k:=j) Z;have cj:c j<N.length:=by have:=(g.rt j Z).2;omega
       let⟨res,u2,Pe,m1,As,l2,V,J3,W,aaZ⟩:=ih (gU busy r ()) (c j) J kn Z Ia Z cj (g.cc Z) o;rw[tp,r1];simp only[m1];cases res with|none =>refine⟨none,u2,Pe,rfl,As,l2,V,J3,λq n=>X,λ_ a E G=>?_⟩;let⟨b,b1,b2,b3⟩:=aaZ rfl a E;have h4:=G j aB;refine⟨b,b1,λe=>b2 ?_,Z⟩;rw[c9,if_neg];grind;intro e5;have e5:r=b:=Z;rw[e5]at h4;omega|some p =>
        let⟨x,Y,t⟩:=V _ _ (W p rfl);have sw:(min (min A 201+p.1) 201,min (max (min B 21) (p.2+1)) 21)=(min (A+cO (TF N c (dk sh) lo x (c j))) 201,min (max B (H_ (TF N c (dk sh) lo x (c j))+1)) 21):=by rw[t];simp only[qD,pI_];omega
        simp only[sw];let⟨res,u3,B0,K,L,k3,k4,k5,k6,k7⟩:=T u2 Pe (A+cO (TF N c (dk sh) lo x (c j))) (max B (H_ (TF N c (dk sh) lo x (c j))+1)) Z Z (λi v=>w i X) As l2 V;refine⟨res,u3,B0,K,L,k3,k4,λC q n=>k5 C q (J3 C q n),λq n=>?_,λe a E G=>k7 e a E λi v=>G i X⟩;let⟨M,hM,n⟩:=k6 q n;have R:TF N c (dk sh) lo (max M x) (c j)=TF N c (dk sh) lo x (c j):=Ar Y (cl_ _ _);have F:(l.map λj=>TF N c (dk sh) lo (max M x) (c j))=l.map λj=>TF N c (dk sh) lo M (c j):=aQ_ λi v=>Ar (hM i v) (cm_ _ _);refine⟨max M x,λi v=>?_,?_⟩;rcases al_.1 v with rfl|v;exact Y.le (cl_ _ _);exact(hM i v).le (cm_ _ _);rw[n,aH_,R,F,bE,zm];congr 1<;>omega
     let⟨res,J,sy,K,L,k3,k4,k5,k6,k7⟩:=key (ks N k.toNat) up kn 1 1 Z Z (λj w=>P.kid _ s1 j w) g u o;have e0:((min 1 201,min 1 21):Int×Int)=(1,1):=rfl;rw[e0]at K;rw[K];cases res with|none=>exact⟨none,J,sy,rfl,L,k3,k4,k5,λq n=>X,λ_ a E=>k7 rfl a E λj w=>E r z Q _ f3 j w⟩|some q =>let⟨M,hM,n⟩:=k6 q rfl;refine⟨some q,J,_,rfl,L,k3,XL (m:=M+1) k4 (λs hs j w=>?_) ?_,Pd k5,λp t=>by grind[c9],λh=>X⟩;grind;grind[TF,TD]
end
noncomputable def Au(N:aS)(sh:List (Int×Int)):List Nat->List Nat->KN->Option (Bool×List Nat×KN)|[],up,a=>some (true,up,a)|k::l,up,a=>match lB up k with|none=>none|some (u,r)=>match oI N sh (N.length+1) [] r u a with|none=>none|some (none,b,c)=>some (false,b,c)|some (some _,b,c)=>Au N sh l b c
section
variable{sh:List (Int×Int)}
theorem Pf(r:Lx N c sh):∀(l:List Nat)(up:List Nat)(kn:KN),(∀j∈l,j<N.length)->UF up c h->up.length=N.length->Fc N c sh lo kn ->∃b f d,Au N sh l up kn=some (b,f,d)/\UF f c h/\f.length=N.length/\Fc N c sh lo d/\(∀C q,aH kn C=some q->aH d C=some q)/\(b=true->∀j∈l,∃q,aH d (c j:Int)=some q)/\(b=false->¬∃g,RkC N c sh g)
 |[],up,kn,_,a,s,m=>⟨true,up,kn,rfl,a,s,m,λ_ _ h=>h,λ_ j n=>X,λh=>X⟩|k::l,up,kn,n,a,s,m=>by
  have S:=n k aB;let⟨z,A,B,T⟩:=a.lB (k:=k) Z;have E:c k<N.length:=by have:=(a.rt k Z).2;omega
  let⟨res,t,u,F,v,w,x,y,G,o⟩:=af2 r N.length [] (c k) z kn (MK _ _) B Z E (a.cc Z) m;rw[Au,A];simp only[F];cases res with|none =>refine⟨false,t,u,rfl,v,w,x,y,λh=>X,λ_ ⟨g,J⟩=>?_⟩;let⟨b,_,K,_⟩:=o rfl g J;exact K rfl|some q =>let⟨b,L,M,P,Q,k3,k4,k5,k6,k7⟩:=Pf r l t u (λi p=>n i X) v w x;refine⟨b,L,M,P,Q,k3,k4,λC q R=>k5 C q (y C q R),λe i p=>?_,k7⟩;rcases al_.1 p with rfl|p;grind;grind
end
noncomputable def By(f:Nat->List Nat->Option (Tm×List Nat)):List Nat->List Nat->Option (List Tm×List Nat)|[],up=>some ([],up)|x::l,up=>match lB up x with|none=>none|some (u,r)=>match f r u with|none=>none|some (t,b)=>match By f l b with|none=>none|some (c,a)=>some (t::c,a)
noncomputable def Bz(N:aS)(sh ls:List (Int×Int)):Nat->Nat->List Nat->Option (Tm×List Nat)|0,_,_=>none|m+1,r,up=>match aH sh (r:Int) with|none=>some (vr ((aH ls (r:Int)).getD 0),up)|some k=>if 0<=k then match N[k.toNat]? with|none=>none|some (t,l)=>if l.length=t.a.length then if t.a.length=0 then some (t,up) else match By (Bz N sh ls m) l up with|none=>none|some (a,u)=>some (⟨t.k,t.i,t.n,a⟩,u) else none else none
noncomputable def zo(N:aS)(sh ls vs:List (Int×Int))(kn:KN)(m:Nat):List Int->List Nat->List Bd->Option (Option (List Bd))|[],_,a=>some (some a)|v::l,up,a=>match aH vs v with|none=>none|some k=>if 0<=k then match lB up k.toNat with|none=>none|some (u,r)=>if aH sh (r:Int)=none/\(aH ls (r:Int)).getD 0=v then zo N sh ls vs kn m l u a else if 200<((aH kn (r:Int)).getD (0,0)).1\/20<((aH kn (r:Int)).getD (0,0)).2 then some none else match Bz N sh ls m r u with|none=>none|some (t,b)=>zo N sh ls vs kn m l b (a++[⟨v,t⟩]) else none
section
variable{sh:List (Int×Int)}
def Av(ls:List (Int×Int))(C:Nat):Int:=(aH ls (C:Int)).getD 0
theorem XN(g:fR N)(p:Lx N c sh):∀(m r:Nat)(up:List Nat),iq N c (dk sh) m r->UF up c h->up.length=N.length->r<N.length->c r=r ->∃e,Bz N sh ls m r up=some (TF N c (dk sh) (Av ls) m r,e)/\UF e c h/\e.length=N.length|0,_,_,h,_,_,_,_=>h.elim|m+1,r,up,y,d,f,z,A=>by rw[Bz,TF];cases B:aH sh (r:Int) with
  |none =>
   have f3:dk sh r=none:=by grind[dk]
   rw[f3];exact⟨up,rfl,d,f⟩|some k =>
   have f3:dk sh r=some k.toNat:=by grind[dk]
   let⟨q,S,T⟩:=p.at_ r z A _ f3;rw[f3];simp only[if_pos (p.pos _ _ B),yQ q,if_pos (nX g q)];by_cases s:(tn N k.toNat).a.length=0;rw[if_pos s];have C:ks N k.toNat=[]:=bP_.1 (by grind[nX]);rw[C];refine⟨up,?_,d,f⟩;have v:(tn N k.toNat).a=[]:=bP_.1 s;congr 2;generalize tn N k.toNat=t at v;let⟨a,b,n,l⟩:=t;simp only at v;subst v;rfl;rw[if_neg s];have key:∀(l:List Nat)(up:List Nat),(∀j∈l,j<N.length/\iq N c (dk sh) m (c j))->UF up c h->up.length=N.length->∃e,By (Bz N sh ls m) l up=some (l.map λj=>TF N c (dk sh) (Av ls) m (c j),e)/\UF e c h/\e.length=N.length:=by intro l;induction l with|nil=>intro up _ d f;exact⟨up,rfl,d,f⟩|cons j l w =>
     intro up o d f;let⟨V,E⟩:=o j aB;let⟨F,W,G,l1⟩:=d.lB (k:=j) Z;have J:c j<N.length:=by have:=(d.rt j Z).2;omega
     let⟨K,m2,L,M⟩:=XN g p m (c j) F E G Z J (d.cc Z);let⟨P,m3,x,Q⟩:=w K (λi hi=>o i X) L M;exact⟨P,by grind[By],x,Q⟩
   let⟨u,k1,R,k3⟩:=key (ks N k.toNat) up (λj o=>⟨p.kid _ q j o,y _ f3 j o⟩) d f;exact⟨u,X,R,k3⟩
def iX(t:Tm):Bool:=decide (200<cO t\/20<H_ t)
theorem TE{t:Tm}:200<(qD t).1\/20<(qD t).2↔iX t=true:=by grind[qD,iX]
end
section
attribute [local irreducible] ao aF D H
def anA:=aC func314 call314
def zp:List Nat:=[8,0,5,4,7,9,1,16]
def anB:=aC func283 call283
def aa0:List Nat:=[4,0,1]
def anC:=aC func284 call284
def aip:List Nat:=[2,0,1]
def anD:=aC func229 call229
def aiq:List Nat:=[2,0]
theorem air(p:Tm->Bool)(l:List Tm)(gid:FuncId)(fs cs:List AV)(n:l.length<=1099511627776)(o:Pure (.fn (.func gid) fs cs))(h:∀x∈l,zg prog Y (.fn (.func gid) fs cs) [tm O x] (p x)):ab Y 314 [tl O l,.fn (.func gid) fs cs] (iv (dp p l 0)):=by
 let⟨R,c⟩:=aq (dp p l 0);rw[<-c];refine st anA zp .v ?_;repeat' first|refine lg zp λm q=>?_
 refine bD 0 0 [] (λi=>[(0,tl O l),(1,.fn (.func gid) fs cs),(7,.v (.int .i64 m)),(8,.v (.int .i64 i))]) [] (λ_=>[]) l.length (λk=>R=dp p (l.drop k) k) X λi k e r a=>?_;clear c;refine I zp ?_;by_cases f:k<l.length
 ·let⟨x,d,g⟩:=aA f;rw[g,dp]at a;have j:=h x (aZ d);repeat' first|refine og zp (D.ind rfl rfl (cD (l:=l) e d) cE) ?_|refine bg zp (D.MH rfl rfl j) (λ_=>?_) λ_=>?_|refine cg zp (λb=>?_) λb=>?_|refine ag zp λ_ _=>?_|refine xG zp ?_|refine rG zp ?_|refine fq ?_
  all_goals first|rw[if_pos X]at a;refine dx ?_;omega|rw[if_neg X]at a;refine H.bK _ [] ?_ ?_ cz;grind;omega|omega
 ·skip;repeat' first|refine cg zp (λb=>?_) λb=>?_|refine xG zp ?_|refine fq ?_
  all_goals first|omega|rw[a,aq_ Z];exact dx rfl
theorem ais(p:Tm->Bool)(l:List Tm)(gid:FuncId)(fs cs:List AV)(c:l.length<=1099511627776)(d:Pure (.fn (.func gid) fs cs))(h:∀x∈l,zg prog Y (.fn (.func gid) fs cs) [tm O x] (p x)):ab Y 283 [tl O l,.fn (.func gid) fs cs] (.v (.bool (l.any p))):=by
 have a:=air (Y:=Y) (O:=O) p l gid fs cs c d h;have b:=tE p l 0;let⟨j,e⟩:=aq (dp p l 0);rw[<-e]at a b;refine st anB aa0 .v ?_;repeat' first|refine ig aa0 (pl a) λ_ _=>?_|refine cg aa0 (λf=>?_) λf=>?_|refine fq ?_
 all_goals subst_vars;refine aK ?_;rw[<-b];simp_all
theorem ait{f:FuncId}:Wk (.v (.func (.func f) #[] #[])) (.fn (.func f) [] []):=λg w x b=>by cases cA b;exact .fn rfl rfl (λi a y h=>X) λi a y h=>X
theorem XO(x:Tm)(a:x.ok):ab Y 284 [tm O x] (.v (.bool ! cI x)):=by
 have h:=Tw (Y:=Y) (O:=O) x a;let⟨R,b⟩:=aq (cI x);rw[<-b]at h⊢;refine st anC aip .v ?_;repeat' first|refine bg aip (pl h) (λ_=>?_) λ_=>?_|refine fq ?_
 all_goals refine aK ?_;simp_all
def af3(x:Tm)(a:x.ok):zg prog Y (.fn (.func 284) [] []) [tm O x] ! cI x:=⟨_,_,rfl,⟨bH x,trivial⟩,XO x a⟩
theorem Ph(l:List Tm)(c:l.length<=1099511627776)(d:∀x∈l,x.ok):ab Y 229 [tl O l] (.v (.bool ! l.any λx=>! cI x)):=by
 let⟨R,e⟩:=aq (l.any λx=>! cI x);have b:=ais (Y:=Y) (O:=O) (λx=>! cI x) l 284 [] [] c (.fn (λa h=>X) λa h=>X) λx f=>af3 x (d x f);rw[<-e]at b⊢;refine st anD aiq .v ?_;repeat' first|refine bg aiq (D.jF rfl b ⟨cZ _,.fn (λa h=>X) λa h=>X,trivial⟩ ⟨.refl _,ait,trivial⟩) (λ_=>?_) λ_=>?_|refine fq ?_
 all_goals refine aK ?_;simp_all
def anE:=aC func308 call308
def zq:List Nat:=[8,0,5,4,7,9,1,16]
theorem Pj(p:Bd->Bool)(l:List Bd)(gid:FuncId)(fs cs:List AV)(n:l.length<=1099511627776)(o:Pure (.fn (.func gid) fs cs))(h:∀x∈l,zg prog Y (.fn (.func gid) fs cs) [bd O x] (p x)):ab Y 308 [a8 O l,.fn (.func gid) fs cs] (iv (dp p l 0)):=by
 let⟨R,c⟩:=aq (dp p l 0);rw[<-c];refine st anE zq .v ?_;repeat' first|refine lg zq λm q=>?_
 refine bD 0 0 [] (λi=>[(0,a8 O l),(1,.fn (.func gid) fs cs),(7,.v (.int .i64 m)),(8,.v (.int .i64 i))]) [] (λ_=>[]) l.length (λk=>R=dp p (l.drop k) k) X λi k e r a=>?_;clear c;refine I zq ?_;by_cases f:k<l.length
 ·let⟨x,d,g⟩:=aA f;rw[g,dp]at a;have j:=h x (aZ d);repeat' first|refine og zq (D.bh e d) ?_|refine bg zq (D.MH rfl rfl j) (λ_=>?_) λ_=>?_|refine cg zq (λb=>?_) λb=>?_|refine ag zq λ_ _=>?_|refine xG zq ?_|refine rG zq ?_|refine fq ?_
  all_goals first|rw[if_pos X]at a;refine dx ?_;omega|rw[if_neg X]at a;refine H.bK _ [] ?_ ?_ cz;grind;omega|omega
 ·skip;repeat' first|refine cg zq (λb=>?_) λb=>?_|refine xG zq ?_|refine fq ?_
  all_goals first|omega|rw[a,aq_ Z];exact dx rfl
end
end Go.Proofs.YtbdcmpknicjopaaGreat
