import Derived.Laws.Cover3
import Derived.Test.YtbdcmpknicjopaaGreatTo15
namespace Go.Proofs.YtbdcmpknicjopaaGreat
set_option linter.all false
set_option maxRecDepth 100000
open Go.RowKit Proofs.Tryz
variable{K:List iu}{O:Hd}{P:Program}{Q:Exit->AA->ao->Prop}{S:ao}{T:Type}{U:World}{Y:AA}{b dr ex:Bool}{dd:Option Nat}{gg:Option (Nat×Bool)}{i m n sz:Nat}{l:List QI}{x:QO}{f:T->List AV}
variable{rows:List (List AV)}
section
attribute [local irreducible] aq aG D I
def apz:=aD func179 call179
def acm:=[1,2,0]
def apA:=aD func180 call180
def acn:=[1,2,0]
def auN:=aD func50 call50
def g50:=[3,1,2,0]
def apC:=aD func247 call247
def wN:=[5,4,3,2,0,1,11]
def apD:=aD func181 call181
def mO:=[5,3,7,1,4,6,2,0,13,28]
theorem Ip(r:Rl)(h:r.aP.length+r.rem.length<=549755813888):ad U 179 [rl O r] (dW O (r.aP++r.rem)):=by let⟨n,a,c,g,b,v⟩:=r;dsimp only at h⊢;let⟨R,d⟩:=au (a++c);rw[<-d];refine st apz acm (bP _) ?_;refine I.O5 (f:=atR O) (ys:=a) rfl rfl rfl (λ_=>rfl) X λl len m i=>?_;refine H acm ?_;refine I.WC (f:=atR O) (ys:=c) rfl rfl rfl i (λ_=>rfl) rfl (λ_=>rfl) (λ_=>rfl) Z λj o p k=>?_;refine H acm ?_;refine fq ?_;cases(Z:j=R);exact aL.grow rfl k
theorem MG(r:Rl)(h:r.guard.length+r.body.length<=549755813888):ad U 180 [rl O r] (dI O (r.guard++r.body)):=by let⟨n,j,k,g,b,v⟩:=r;dsimp only at h⊢;let⟨R,a⟩:=au (g++b);rw[<-a];refine st apA acn (a6 _) ?_;refine I.O5 (f:=sQ O) (ys:=g) rfl rfl rfl (λ_=>rfl) X λl len m d=>?_;refine H acn ?_;refine I.WC (f:=sQ O) (ys:=b) rfl rfl rfl d (λ_=>rfl) rfl (λ_=>rfl) (λ_=>rfl) Z λe o p i=>?_;refine H acn ?_;refine fq ?_;cases(Z:e=R);exact aL.grow rfl i
theorem Gg(r:Rl)(h:r.aP.length+r.rem.length<=549755813888):ad U 50 [rl O r] (dW O (r.aP++r.rem)):=by let⟨n,a,c,g,b,v⟩:=r;dsimp only at h⊢;let⟨R,d⟩:=au (a++c);rw[<-d];refine st auN g50 (bP _) ?_;refine I.pZ (f:=atR O) (ys:=a) rfl rfl rfl (λ_=>rfl) X λl len m i=>?_;refine H g50 ?_;refine I.vh (f:=atR O) (ys:=c) rfl rfl rfl i (λ_=>rfl) rfl (λ_=>rfl) (λ_=>rfl) Z λj o p k=>?_;refine H g50 ?_;refine fq ?_;cases(Z:j=R);exact aL.grow rfl k
def apE:=aD func195 call195
def f_:=[11,1,0,5,8,4,10,12,9,19,6,7,28,35]
def apF:=aD func124 call124
def MH:=[2,3,5,4,0,1,21]
def apG:=aD func151 call151
def gj:=[6,2,3,5,4,0,1,13,36]
def apH:=aD func123 call123
def wO:=[1,28,4,2,0,24,27,29,26,3,42]
def apJ:=aD func185 call185
def auO:=aD func59 call59
def uH:=[0,3,9,2,6,8,10,34]
def apK:=aD func112 call112
def D0:List Int->List Int->Int|x::a,y::b=>fP (jy x y) (D0 a b)|_,_=>0
theorem UX:∀{a b:List Int},a.length=b.length->tT a b=D0 a b|[],[],_=>rfl|[],_::_,h=>Z|_::_,[],h=>Z|x::a,y::b,h=>by rw[tT,D0,UX Z]
theorem ahD{a b:Int}(h:a≠b):jy a b≠0:=λe=>h (Gi e)
theorem aco{a b:Int}(h:¬a=0):fP a b=a:=if_neg h
theorem ahE(x y:Fi):po x y=fP (fP (jy x.ud y.ud) (jy x.ids.length y.ids.length)) (D0 x.ids y.ids):=by grind[po,jy,UX,fP,ahD]
theorem ahF(a b:List Int)(r:a.length<=1099511627776)(s:b.length<=1099511627776):ad U 195 [aQ O aH false a,aQ O aH false b] (iv (tT a b)):=by
 let⟨R,g⟩:=au (tT a b);rw[<-g];refine st apE f_ .v ?_;repeat' first|refine bq (λc=>?_) λc=>?_<;>(try simp only[bT]at c)<;>(first|exact dV c|refine H f_ ?_)|refine b9 λm e=>?_;(try rw[aA]at e);refine H f_ ?_|refine cN λ_ _=>?_;refine H f_ ?_|refine iJ λ_ _=>?_;refine H f_ ?_|refine I.str rfl (D.cat rfl rfl (by assumption)) λ_ _=>?_;refine H f_ ?_|refine xG f_ ?_|refine rG f_ ?_|refine fq ?_
 refine bL 0 0 [] (λi=>[(0,aQ O aH false a),(1,aQ O aH false b),(9,aQ O aH false a),(10,.v (.int .i64 m)),(11,.v (.int .i64 i))]) [] (λ_=>[]) a.length (λk=>k<=b.length/\R=tT (a.drop k) (b.drop k)) (by simpa using g) λi k h t d=>?_;clear g;refine H f_ ?_;by_cases p:k<a.length
 ·let⟨q,d⟩:=d;let⟨x,l,n⟩:=aC p;by_cases f:k<b.length
  ·let⟨y,o,j⟩:=aC f;rw[n,j,tT,fP]at d;repeat' first|refine I.op rfl (D.bw h l) ?_;refine H f_ ?_|refine I.op rfl (D.bw h o) ?_;refine H f_ ?_|refine I.int rfl (D.bU rfl (Qy _ _) ⟨.v,.v,trivial⟩) λ_ _=>?_;refine H f_ ?_|refine bq (λc=>?_) λc=>?_<;>(try simp only[bT]at c)<;>(first|exact dV c|refine H f_ ?_)|refine b9 λm e=>?_;(try rw[aA]at e);refine H f_ ?_|refine cN λ_ _=>?_;refine H f_ ?_|refine iJ λ_ _=>?_;refine H f_ ?_|refine I.str rfl (D.cat rfl rfl (by assumption)) λ_ _=>?_;refine H f_ ?_|refine xG f_ ?_|refine rG f_ ?_|refine fq ?_
   all_goals first|omega|subst_vars;rw[if_neg Z];exact dA rfl|subst_vars;rw[if_pos Z]at*;exact cw _ [] (k+1) (by first|exact⟨X,rfl⟩|exact⟨X,by assumption⟩)
  ·rw[n,show b.drop k=[] from ar_ X,tT]at d;repeat' first|refine I.op rfl (D.bw h l) ?_;refine H f_ ?_|refine bq (λc=>?_) λc=>?_<;>(try simp only[bT]at c)<;>(first|exact dV c|refine H f_ ?_)|refine b9 λm e=>?_;(try rw[aA]at e);refine H f_ ?_|refine cN λ_ _=>?_;refine H f_ ?_|refine iJ λ_ _=>?_;refine H f_ ?_|refine I.str rfl (D.cat rfl rfl (by assumption)) λ_ _=>?_;refine H f_ ?_|refine xG f_ ?_|refine rG f_ ?_|refine fq ?_
   all_goals first|omega|subst_vars;exact dA rfl
 ·let⟨q,d⟩:=d;rw[ar_ X]at d;by_cases f:k<b.length
  ·let⟨y,o,j⟩:=aC f;rw[j,tT]at d;repeat' first|refine bq (λc=>?_) λc=>?_<;>(try simp only[bT]at c)<;>(first|exact dV c|refine H f_ ?_)|refine b9 λm e=>?_;(try rw[aA]at e);refine H f_ ?_|refine cN λ_ _=>?_;refine H f_ ?_|refine iJ λ_ _=>?_;refine H f_ ?_|refine I.str rfl (D.cat rfl rfl (by assumption)) λ_ _=>?_;refine H f_ ?_|refine xG f_ ?_|refine rG f_ ?_|refine fq ?_
   all_goals first|omega|rw[d];exact dA rfl
  ·rw[ar_ X,tT]at d;repeat' first|refine bq (λc=>?_) λc=>?_<;>(try simp only[bT]at c)<;>(first|exact dV c|refine H f_ ?_)|refine b9 λm e=>?_;(try rw[aA]at e);refine H f_ ?_|refine cN λ_ _=>?_;refine H f_ ?_|refine iJ λ_ _=>?_;refine H f_ ?_|refine I.str rfl (D.cat rfl rfl (by assumption)) λ_ _=>?_;refine H f_ ?_|refine xG f_ ?_|refine rG f_ ?_|refine fq ?_
   all_goals first|omega|rw[d];exact dA rfl
theorem Y8(x y:Fi)(d:x.ids.length<=1099511627776)(e:y.ids.length<=1099511627776):ad U 124 [fi O x,fi O y] (iv (po x y)):=by
 let⟨g,b⟩:=x;let⟨h,c⟩:=y;dsimp only at d e;have f:=ahF (U:=U) (O:=O) b c d e;let⟨R,a⟩:=au (po ⟨g,b⟩ ⟨h,c⟩);rw[<-a];unfold po at a;dsimp only at a;let⟨C,i⟩:=au (tT b c);rw[<-i]at f a;refine st apF MH .v ?_;repeat' first|refine ig MH (D.bU rfl (Qy _ _) ⟨.v,.v,trivial⟩) λ_ _=>?_|refine ig MH (D.qu rfl (apL _ _) ⟨a8 _,trivial⟩ ⟨Wk.sl,trivial⟩) λ_ _=>?_|refine og MH (D.bU rfl f ⟨a8 _,a8 _,trivial⟩) ?_|refine cg MH (λj=>?_) λj=>?_|refine lg MH λm k=>?_|refine fq ?_
 all_goals subst_vars;refine dA ?_;simp only[fP,Bj]at*;(repeat' split)<;>first|rfl|simp_all;done 
theorem Y_(x y:Fi)(s:x.ids.length<=1099511627776)(t:y.ids.length<=1099511627776):ad U 151 [fi O x,fi O y] (iv (po x y)):=by
 have l:=ahE x y;let⟨R,j⟩:=au (po x y);rw[<-j]at l⊢;clear j;let⟨n,f⟩:=x;let⟨o,g⟩:=y;dsimp only at s t l;refine st apG gj .v ?_;repeat' first|refine I.int rfl (D.bU rfl (UJ _ _) ⟨.v,.v,trivial⟩) λ_ _=>?_;refine H gj ?_|refine bq (λb=>?_) λb=>?_<;>(try simp only[bT]at b)<;>(first|exact dV b|refine H gj ?_)|refine b9 λm d=>?_;(try rw[aA]at d);refine H gj ?_|refine cN λ_ _=>?_;refine H gj ?_|refine iJ λ_ _=>?_;refine H gj ?_|refine I.str rfl (D.cat rfl rfl (by assumption)) λ_ _=>?_;refine H gj ?_|refine xG gj ?_|refine rG gj ?_|refine fq ?_
 all_goals
  rename_i r u;have j:R=fP r (D0 f g):=by subst_vars;first|rw[show jy n o=0 by grind];rfl|rw[aco (a:=jy n o) Z]
  clear l u;refine cW (τ:=Int) 2 2 [] (λp=>[(2,.pt 0 2 0 0),(3,.pt 1 2 0 0),(5,.v (.int .i64 p.2)),(6,.v (.int .i64 p.1))]) [] (λ_=>[(0,.arr 2 [I9 O ⟨n,f⟩] 0 true),(1,.arr 2 [I9 O ⟨o,g⟩] 0 true)]) f.length (λk p=>k<=g.length/\R=fP p.2 (D0 (f.drop k) (g.drop k))) r ⟨aE,Z⟩ ?_;rintro i k c q G⟨J,e⟩;simp only at q e;clear j;refine H gj ?_;by_cases v:k<f.length
  ·by_cases w:k<g.length
   ·let⟨x,z,A⟩:=aC v;let⟨y,B,C⟩:=aC w;rw[A,C,D0]at e;by_cases E:c=0
    ·subst E;simp only[fP,if_true]at e;repeat' first|refine I.op rfl (D.bw q z) ?_;refine H gj ?_|refine I.op rfl (D.bw q B) ?_;refine H gj ?_|refine I.int rfl (D.bU rfl (UJ _ _) ⟨.v,.v,trivial⟩) λ_ _=>?_;refine H gj ?_|refine bq (λb=>?_) λb=>?_<;>(try simp only[bT]at b)<;>(first|exact dV b|refine H gj ?_)|refine b9 λm d=>?_;(try rw[aA]at d);refine H gj ?_|refine cN λ_ _=>?_;refine H gj ?_|refine iJ λ_ _=>?_;refine H gj ?_|refine I.str rfl (D.cat rfl rfl (by assumption)) λ_ _=>?_;refine H gj ?_|refine xG gj ?_|refine rG gj ?_|refine fq ?_
     all_goals first|omega|refine I.bu (_,_) [] ?_ ?_ cz;exact⟨k+1,Z,X,X,by subst_vars;rfl⟩;simp only;omega
    ·have h:R=c:=by grind[fP]
     clear e;repeat' first|refine bq (λb=>?_) λb=>?_<;>(try simp only[bT]at b)<;>(first|exact dV b|refine H gj ?_)|refine b9 λm d=>?_;(try rw[aA]at d);refine H gj ?_|refine cN λ_ _=>?_;refine H gj ?_|refine iJ λ_ _=>?_;refine H gj ?_|refine I.str rfl (D.cat rfl rfl (by assumption)) λ_ _=>?_;refine H gj ?_|refine xG gj ?_|refine rG gj ?_|refine fq ?_
     all_goals first|omega|rw[h];exact dA rfl
   ·have h:R=c:=by grind[D0,fP]
    clear e;repeat' first|refine bq (λb=>?_) λb=>?_<;>(try simp only[bT]at b)<;>(first|exact dV b|refine H gj ?_)|refine b9 λm d=>?_;(try rw[aA]at d);refine H gj ?_|refine cN λ_ _=>?_;refine H gj ?_|refine iJ λ_ _=>?_;refine H gj ?_|refine I.str rfl (D.cat rfl rfl (by assumption)) λ_ _=>?_;refine H gj ?_|refine xG gj ?_|refine rG gj ?_|refine fq ?_
    all_goals first|omega|rw[h];exact dA rfl
  ·have h:R=c:=by grind[D0,fP]
   clear e;repeat' first|refine bq (λb=>?_) λb=>?_<;>(try simp only[bT]at b)<;>(first|exact dV b|refine H gj ?_)|refine b9 λm d=>?_;(try rw[aA]at d);refine H gj ?_|refine cN λ_ _=>?_;refine H gj ?_|refine iJ λ_ _=>?_;refine H gj ?_|refine I.str rfl (D.cat rfl rfl (by assumption)) λ_ _=>?_;refine H gj ?_|refine xG gj ?_|refine rG gj ?_|refine fq ?_
   all_goals first|omega|rw[h];exact dA rfl
end
section
def ug:=[1,3,2,0,23,28,48]
attribute [local irreducible] aq aG D I
def Fi.ok(f:Fi):Prop:=f.ids.length<=1099511627776
theorem K4{r:Int}{l:List Int}(h:0<=r/\r<40/\1<=(l.length:Int)/\(l.length:Int)<=4):ue ⟨r,l⟩=vg [] l:=by grind[ue]
theorem JY{r:Int}{l:List Int}(h:r<0\/40<=r\/(l.length:Int)<1\/4<(l.length:Int)):ue ⟨r,l⟩=false:=by grind[ue]
theorem acq(f:Fi)(h:f.ok):ad U 123 [fi O f] (.v (.bool (ue f))):=by
 let⟨r,l⟩:=f;have y:l.length<=1099511627776:=h;have c:=@K4 r l;have d:=@JY r l;let⟨R,g⟩:=au (ue ⟨r,l⟩);rw[<-g]at c d⊢;clear g;refine st apH wO .v ?_;repeat' first|refine cg wO (λb=>?_) λb=>?_|refine lg wO λm z=>?_|refine fq ?_
 all_goals first|exact aO (d X).symm|skip
 have j:R=vg [] l:=c X;clear c d;refine bL 1 1 [] (λi=>[(1,.pt 0 2 0 0),(26,aQ O aH false l),(27,.v (.int .i64 m)),(28,.v (.int .i64 i))]) [] (λ_=>[(0,.arr 2 [I9 O ⟨r,l⟩] 0 true)]) l.length (λk=>R=vg (l.take k) (l.drop k)) Z λi k n A a=>?_;clear j;refine H wO ?_;by_cases o:k<l.length
 ·let⟨x,p,s⟩:=aC o;rw[s,vg]at a;have t:l.take k++[x]=l.take (k+1):=Z;rw[t]at a;have e:=F5 (U:=U) (O:=O) (l.take k) x Z;let⟨B,u⟩:=au ((l.take k).contains x);rw[<-u]at e a;let⟨q,v⟩:=au (l.take k);rw[<-v]at e;repeat' first|refine og wO (D.bw n p) ?_|refine I.gen (aQ O aH false) rfl (D.Ck rfl rfl rfl (λ_=>rfl) aJ X X) λw C=>?_;cases(Z:w=q);refine H wO ?_|refine bg wO (pl e) (λ_=>?_) λ_=>?_|refine cg wO (λb=>?_) λb=>?_|refine ag wO λ_ _=>?_|refine xG wO ?_|refine rG wO ?_|refine fq ?_
  all_goals first|omega|refine aO ?_;rw[a,decide_eq_false (show¬1<=x by omega)];rfl|refine aO ?_;rw[a,show B=true by grind];simp;done|exact cw _ [] (k+1) Z
 ·skip;repeat' first|refine cg wO (λb=>?_) λb=>?_|refine xG wO ?_|refine fq ?_
  all_goals first|omega|rw[a,ar_ X,vg];exact aO rfl
theorem ahG(f:Fi)(j:f.ok):ad U 185 [fi O f] (.v (.bool (ue f))):=by
 let⟨r,l⟩:=f;have z:l.length<=1099511627776:=j;have c:=@K4 r l;have d:=@JY r l;let⟨R,g⟩:=au (ue ⟨r,l⟩);rw[<-g]at c d⊢;clear g;refine st apJ ug .v ?_;repeat' first|refine cg ug (λb=>?_) λb=>?_|refine lg ug λm h=>?_|refine fq ?_
 all_goals first|exact aO (d X).symm|skip
 have n:R=vg [] l:=c X;clear c d;refine bL 1 1 [] (λi=>[(1,.pt 0 2 0 0),(3,.v (.int .i64 i))]) [] (λ_=>[(0,.arr 2 [I9 O ⟨r,l⟩] 0 true)]) l.length (λk=>R=vg (l.take k) (l.drop k)) Z λi k o A a=>?_;clear n;refine H ug ?_;by_cases p:k<l.length
 ·let⟨x,s,t⟩:=aC p;rw[t,vg]at a;have u:l.take k++[x]=l.take (k+1):=Z;rw[u]at a;have e:=ajE (U:=U) (O:=O) (l.take k) x Z;let⟨B,v⟩:=au ((l.take k).contains x);rw[<-v]at e a;let⟨q,w⟩:=au (l.take k);rw[<-w]at e;repeat' first|refine og ug (D.bw o s) ?_|refine I.gen (aQ O aH false) rfl (D.Ck rfl rfl rfl (λ_=>rfl) aJ X X) λy C=>?_;cases(Z:y=q);refine H ug ?_|refine bg ug (pl e) (λ_=>?_) λ_=>?_|refine cg ug (λb=>?_) λb=>?_|refine lg ug λm h=>?_|refine ag ug λ_ _=>?_|refine xG ug ?_|refine rG ug ?_|refine fq ?_
  all_goals first|omega|refine aO ?_;rw[a,decide_eq_false (show¬1<=x by omega)];rfl|refine aO ?_;rw[a,show B=true by grind];simp;done|exact cw _ [] (k+1) Z
 ·skip;repeat' first|refine cg ug (λb=>?_) λb=>?_|refine lg ug λm h=>?_|refine xG ug ?_|refine fq ?_
  all_goals first|omega|rw[a,ar_ X,vg];exact aO rfl
end
theorem acr{v:Value}(h:lift v=.sl true []):v=.slice none 0 0:=by
 have a:∀v,cT v=.sl true []->v=.slice none 0 0:=by grind[cT]
 cases v with|agg b=>cases h|_=>exact a _ h
theorem akb{u:Operand}(h:.c (.sl true [])=qo u):u=.const (.slice none 0 0):=by cases u with|const v =>injection h with h;rw[acr h.symm]|_=>cases h
theorem UY{o:Op}{op:BinOp}(h:res P.toTables o=some (.bin op .s x (.c (.sl true [])))):∃t u s e,o=.binOp op t u (.const (.slice none 0 0)) s/\x=qo u/\P.underlying t=some (.slice e):=by cases o with|binOp a t u v s =>simp only[res,cU]at h;split at h;grind;rename_i e b;simp only[oI_,n0.bin.injEq]at h;obtain⟨rfl,_,rfl,c⟩:=h;rw[akb c.symm];exact⟨_,_,_,_,rfl,rfl,b⟩;grind;grind;grind;grind|_ =>
  simp only[res]at h;repeat' split at h
  all_goals cases h
def Am:AV->Option Bool|.sl _ (_::_)=>some false|.ob ..=>some false|.gr _ _ (_+1)=>some false|.v (.slice A _ _)=>some A.isNone|_=>none
theorem acs{g:Gh}{w:World}{a:AV}{x:Value}(h:Am a=some b)(d:aT g w a x):∃A l c,x=.slice A l c/\A.isNone=b:=by
 unfold Am at h;split at h;cases d with|sl=>cases oJ_ h;exact⟨_,_,_,rfl,rfl⟩
 cases d with|ob=>cases oJ_ h;exact⟨_,_,_,rfl,rfl⟩
 cases d with|gr=>cases oJ_ h;exact⟨_,_,_,rfl,rfl⟩
 cases d with|v=>cases oJ_ h;exact⟨_,_,_,rfl,rfl⟩
 grind
def WG(op:BinOp)(b:Bool):Option Bool:=match op with|.eql=>some b|.neq=>some !b|_=>none
theorem UZ{op:BinOp}{d:Bool}{n:Nat}{o:Oper}(k:res P.toTables o.op=some (.bin op .s x (.c (.sl true []))))(β:AA)(a:Am (x.ev β.tm)=some b)(m:WG op b=some d):jZ P U n o β S (.v (.bool d)) S:=by obtain⟨t,u,s,e,f,rfl,h⟩:=UY k;rw[aY]at a;refine bt.ops (bt.quiet λA g c w q p=>⟨.bool d,?_,.v⟩) λc e=>Z;obtain⟨B,l,cc,i,rfl⟩:=acs a (p.ev u);have j:c.eval (.const (.slice none 0 0))=.slice none 0 0:=rfl;cases op<;>cases m;simp[execOp,f,i,eqGuard,j,binOp,run_equal_slice_nil w t e B l cc h];simp[execOp,f,i,eqGuard,j,binOp,run_equal_slice_nil w t e B l cc h]
theorem D.nil{dr:Bool}{op:BinOp}{d:Bool}(g:Am (x.ev Y.tm)=some b)(c:WG op b=some d):D P U dr (.bin op .s x (.c (.sl true []))) Y S (.v (.bool d)) S:=by cases dr with|false=>exactλn o a=>UZ a Y g c|true =>intro n o a;let⟨t,u,s,e,h,i,_⟩:=UY a;have key:∀z∈o.op.operands,(Y.only (d_ o)).ev z=Y.ev z:=λz j=>h_ λt e=>ic Z;have k:(Y.only (d_ o)).ev u=Y.ev u:=key u (by rw[h];simp[Op.operands]);have f:∀T,jZ P U n o (Y.only (d_ o)) T (.v (.bool d)) T:=λT=>UZ a _ (by grind[aY]) c;exact⟨f S,λ_=>⟨rfl,f⟩,λ_=>rfl⟩
section
variable{rd:Bool}
theorem c_{a:List T}{x:T}(h:a[i]?=some x):(O.h (List.map f) a)[i]?=some (f x):=by rw[O.eq,bc_,h];rfl
theorem I.mks{MO:Nat}{a b:QO}{i:Int}(O:Hd)(f:T->List AV)(x0:T)(d:bJ Y.tm gg=some true)(h1:a.ev Y.tm=.v (.int .i64 i))(h2:b.ev Y.tm=.v (.int .i64 i))(hi:i=m)(hs:(f x0).length=sz)(e:m*MO<=35184372088832)(h6:m<=9223372036854775807)(kk:∀c,c=List.replicate m x0->I P U rd n Q (.bp dr l K) (bX dd Y (.ob S.nx sz 0 m none)) (S.new (.arr sz (O.h (List.map f) c) 0 true))):I P U rd n Q (.bp dr (⟨dd,gg,.sy (f x0) MO a b⟩::l) K) Y S:=by have h:=kk _ rfl;rw[O.eq,List.map_replicate]at h;subst hs hi;exact I.op (i:=⟨dd,gg,.sy (f x0) MO a b⟩) d (by simpa using D.mks (P:=P) (U:=U) (dr:=dr) (z:=f x0) (MO:=MO) (S:=S) h1 h2 X rfl X X) h
theorem D.Qz{p:Nat}{i:QO}{k off len:Nat}{cx:Option Nat}{a:IntKind}{j:Int}(h1:x.ev Y.tm=.ob k m off len cx)(h2:i.ev Y.tm=.v (.int a j))(b:j=p)(h4:p<len):D P U dr (.y9 m x i) Y S (.pt k m (off+p) 0) S:=by subst b;exact D.auP h1 h2 X X
theorem D.iE{k:LK}{b j fz:Nat}{row:List AV}{a:AV}(c:x.ev Y.tm=.pt b sz i j)(d:S.get b=some (.arr sz rows fz ex))(hi:rows[i]?=some row)(e:xF k row j=some a):D P U dr (.load k x) Y S a S :=D.quiet (by simp only[oO,c,xJ,d,bD_,hi,e])
theorem D.akc{n:Nat}{b:QO}{k j:Nat}{row:List AV}(d:x.ev Y.tm=.pt k sz i j)(h:S.get k=some (.arr sz rows 0 ex))(e:(bB (b.ev Y.tm)).all dv=true)(f:n=(bB (b.ev Y.tm)).length)(hi:rows[i]?=some row)(g:j+(bB (b.ev Y.tm)).length<=row.length):D P U dr (.store n x b) Y S (.v undef) (S.set k (some (.arr sz (rows.set i (sU row j (bB (b.ev Y.tm)))) 0 ex))):=by refine D.of rfl λo c=>?_;cases o<;>simp only[res,gR]at c<;>(repeat' split at c)<;>(try cases c);rename_i l;rw[aY]at d e f g⊢;simp only[b8,d];refine bR.mk (a:=_) ?_ ⟨rfl,rfl⟩;simp only[uZ,h,l,e,f,bD_,cj_,hi,cc_ g]
theorem I.Gj{b:QO}{k:Nat}{a:List T}{y:T}(g:bJ Y.tm gg=some true)(j:x.ev Y.tm=.pt k sz i 0)(o:S.get k=some (.arr sz (O.h (List.map f) a) 0 ex))(p:bB (b.ev Y.tm)=f y)(r:(f y).all dv=true)(c:∀x,(f x).length=sz)(s:m=sz)(hi:i<a.length)(kk:∀d,d=a.set i y->I P U rd n Q (.bp dr l K) (bX dd Y (.v undef)) (S.set k (some (.arr sz (O.h (List.map f) d) 0 ex)))):I P U rd n Q (.bp dr (⟨dd,gg,.store m x b⟩::l) K) Y S:=by
 have h:=kk _ rfl;have q:(O.h (List.map f) a)[i]?=some (f a[i]):=c_ (ax_ hi);have e:(O.h (List.map f) a).set i (sU (f a[i]) 0 (bB (b.ev Y.tm)))=O.h (List.map f) (a.set i y):=by rw[p,O.eq,O.eq,List.map_set];congr 1;unfold sU;rw[c,c,bD_];rfl
 rw[<-e]at h;exact I.op (i:=⟨dd,gg,.store m x b⟩) g (D.akc j o Z Z q Z) h
end
end Go.Proofs.YtbdcmpknicjopaaGreat
