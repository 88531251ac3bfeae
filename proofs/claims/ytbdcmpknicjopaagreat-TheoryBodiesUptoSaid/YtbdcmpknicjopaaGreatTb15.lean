import Derived.Laws.Cover3
import Derived.Test.YtbdcmpknicjopaaGreatTb14
namespace Go.Proofs.YtbdcmpknicjopaaGreat
set_option linter.all false
set_option maxRecDepth 100000
open Go.RowKit Proofs.Tryz
variable{K:List gE}{N:aT}{O:Hd}{P:Program}{Q:Exit->AA->ah->Prop}{S:ah}{T:Type}{U:AA}{Y:World}{b dr ex:Bool}{c h:Nat->Nat}{dd:Option Nat}{gg:Option (Nat×Bool)}{i m n sz:Nat}{l:List QI}{lo:Nat->Int}{ls:List (Int×Int)}{x:QO}{f:T->List AV}
variable{rows:List (List AV)}
section
attribute [local irreducible] ao aF D H
def aoS:=aD func179 call179
def ab7:List Nat:=[1,2,0]
def aoT:=aD func180 call180
def ab8:List Nat:=[1,2,0]
def atT:=aD func50 call50
def g50:List Nat:=[3,1,2,0]
def aoU:=aD func247 call247
def wB:List Nat:=[5,4,3,2,0,1,11]
def aoV:=aD func181 call181
def mU:List Nat:=[5,3,7,1,4,6,2,0,13,28]
theorem H6(r:Rl)(h:r.aQ.length+r.rem.length<=549755813888):ab Y 179 [rl O r] (fI O (r.aQ++r.rem)):=by let⟨n,a,c,g,b,v⟩:=r;dsimp only at h⊢;let⟨R,d⟩:=aq (a++c);rw[<-d];refine st aoS ab7 (cR _) ?_;refine H.aeT (f:=atR O) (ys:=a) rfl rfl rfl (λ_=>rfl) X λl len m i=>?_;refine Z ab7 ?_;refine H.Ww (f:=atR O) (ys:=c) rfl rfl rfl i (λ_=>rfl) rfl (λ_=>rfl) (λ_=>rfl) I λj o p k=>?_;refine Z ab7 ?_;refine fq ?_;cases(I:j=R);exact aH.grow rfl k
theorem Mn(r:Rl)(h:r.guard.length+r.body.length<=549755813888):ab Y 180 [rl O r] (dJ O (r.guard++r.body)):=by let⟨n,j,k,g,b,v⟩:=r;dsimp only at h⊢;let⟨R,a⟩:=aq (g++b);rw[<-a];refine st aoT ab8 (a6 _) ?_;refine H.aeT (f:=E2 O) (ys:=g) rfl rfl rfl (λ_=>rfl) X λl len m d=>?_;refine Z ab8 ?_;refine H.Ww (f:=E2 O) (ys:=b) rfl rfl rfl d (λ_=>rfl) rfl (λ_=>rfl) (λ_=>rfl) I λe o p i=>?_;refine Z ab8 ?_;refine fq ?_;cases(I:e=R);exact aH.grow rfl i
theorem F0(r:Rl)(h:r.aQ.length+r.rem.length<=549755813888):ab Y 50 [rl O r] (fI O (r.aQ++r.rem)):=by let⟨n,a,c,g,b,v⟩:=r;dsimp only at h⊢;let⟨R,d⟩:=aq (a++c);rw[<-d];refine st atT g50 (cR _) ?_;refine H.su (f:=atR O) (ys:=a) rfl rfl rfl (λ_=>rfl) X λl len m i=>?_;refine Z g50 ?_;refine H.yd (f:=atR O) (ys:=c) rfl rfl rfl i (λ_=>rfl) rfl (λ_=>rfl) (λ_=>rfl) I λj o p k=>?_;refine Z g50 ?_;refine fq ?_;cases(I:j=R);exact aH.grow rfl k
def aoW:=aD func195 call195
def fN:List Nat:=[11,1,0,5,8,4,10,12,9,19,6,7,28,35]
def aoX:=aD func124 call124
def Mo:List Nat:=[2,3,5,4,0,1,21]
def aoY:=aD func151 call151
def fO:List Nat:=[6,2,3,5,4,0,1,13,36]
def aoZ:=aD func123 call123
def wC:List Nat:=[1,28,4,2,0,24,27,29,26,3,42]
def ao0:=aD func185 call185
def atU:=aD func59 call59
def uE:List Nat:=[0,3,9,2,6,8,10,34]
def ao1:=aD func112 call112
def DR:List Int->List Int->Int|x::a,y::b=>fS (jG x y) (DR a b)|_,_=>0
theorem UI:∀{a b:List Int},a.length=b.length->tH a b=DR a b|[],[],_=>rfl|[],_::_,h=>I|_::_,[],h=>I|x::a,y::b,h=>by rw[tH,DR,UI I]
theorem ag4{a b:Int}(h:a≠b):jG a b≠0:=λe=>h (F3 e)
theorem ab9{a b:Int}(h:¬a=0):fS a b=a:=if_neg h
theorem ag5(x y:Fi):pf x y=fS (fS (jG x.tV y.tV) (jG x.ids.length y.ids.length)) (DR x.ids y.ids):=by grind[pf,jG,UI,fS,ag4]
theorem ag6(a b:List Int)(r:a.length<=1099511627776)(s:b.length<=1099511627776):ab Y 195 [aY O aR false a,aY O aR false b] (iv (tH a b)):=by
 let⟨R,g⟩:=aq (tH a b);rw[<-g];refine st aoW fN .v ?_;repeat' first|refine bq (λc=>?_) λc=>?_<;>(try simp only[bY]at c)<;>(first|exact dF c|refine Z fN ?_)|refine b8 λm e=>?_;(try rw[az]at e);refine Z fN ?_|refine cG λ_ _=>?_;refine Z fN ?_|refine gT λ_ _=>?_;refine Z fN ?_|refine H.str rfl (D.cat rfl rfl (by assumption)) λ_ _=>?_;refine Z fN ?_|refine xG fN ?_|refine rG fN ?_|refine fq ?_
 refine bE 0 0 [] (λi=>[(0,aY O aR false a),(1,aY O aR false b),(9,aY O aR false a),(10,.v (.int .i64 m)),(11,.v (.int .i64 i))]) [] (λ_=>[]) a.length (λk=>k<=b.length/\R=tH (a.drop k) (b.drop k)) (by simpa using g) λi k h t d=>?_;clear g;refine Z fN ?_;by_cases p:k<a.length
 ·let⟨q,d⟩:=d;let⟨x,l,n⟩:=aA p;by_cases f:k<b.length
  ·let⟨y,o,j⟩:=aA f;rw[n,j,tH,fS]at d;repeat' first|refine H.op rfl (D.bh h l) ?_;refine Z fN ?_|refine H.op rfl (D.bh h o) ?_;refine Z fN ?_|refine H.int rfl (D.bM rfl (Qa _ _) ⟨.v,.v,trivial⟩) λ_ _=>?_;refine Z fN ?_|refine bq (λc=>?_) λc=>?_<;>(try simp only[bY]at c)<;>(first|exact dF c|refine Z fN ?_)|refine b8 λm e=>?_;(try rw[az]at e);refine Z fN ?_|refine cG λ_ _=>?_;refine Z fN ?_|refine gT λ_ _=>?_;refine Z fN ?_|refine H.str rfl (D.cat rfl rfl (by assumption)) λ_ _=>?_;refine Z fN ?_|refine xG fN ?_|refine rG fN ?_|refine fq ?_
   all_goals first|omega|subst_vars;rw[if_neg I];exact dx rfl|subst_vars;rw[if_pos I]at*;exact cw _ [] (k+1) (by first|exact⟨X,rfl⟩|exact⟨X,by assumption⟩)
  ·rw[n,show b.drop k=[] from al_ X,tH]at d;repeat' first|refine H.op rfl (D.bh h l) ?_;refine Z fN ?_|refine bq (λc=>?_) λc=>?_<;>(try simp only[bY]at c)<;>(first|exact dF c|refine Z fN ?_)|refine b8 λm e=>?_;(try rw[az]at e);refine Z fN ?_|refine cG λ_ _=>?_;refine Z fN ?_|refine gT λ_ _=>?_;refine Z fN ?_|refine H.str rfl (D.cat rfl rfl (by assumption)) λ_ _=>?_;refine Z fN ?_|refine xG fN ?_|refine rG fN ?_|refine fq ?_
   all_goals first|omega|subst_vars;exact dx rfl
 ·let⟨q,d⟩:=d;rw[al_ X]at d;by_cases f:k<b.length
  ·let⟨y,o,j⟩:=aA f;rw[j,tH]at d;repeat' first|refine bq (λc=>?_) λc=>?_<;>(try simp only[bY]at c)<;>(first|exact dF c|refine Z fN ?_)|refine b8 λm e=>?_;(try rw[az]at e);refine Z fN ?_|refine cG λ_ _=>?_;refine Z fN ?_|refine gT λ_ _=>?_;refine Z fN ?_|refine H.str rfl (D.cat rfl rfl (by assumption)) λ_ _=>?_;refine Z fN ?_|refine xG fN ?_|refine rG fN ?_|refine fq ?_
   all_goals first|omega|rw[d];exact dx rfl
  ·rw[al_ X,tH]at d;repeat' first|refine bq (λc=>?_) λc=>?_<;>(try simp only[bY]at c)<;>(first|exact dF c|refine Z fN ?_)|refine b8 λm e=>?_;(try rw[az]at e);refine Z fN ?_|refine cG λ_ _=>?_;refine Z fN ?_|refine gT λ_ _=>?_;refine Z fN ?_|refine H.str rfl (D.cat rfl rfl (by assumption)) λ_ _=>?_;refine Z fN ?_|refine xG fN ?_|refine rG fN ?_|refine fq ?_
   all_goals first|omega|rw[d];exact dx rfl
theorem Y3(x y:Fi)(d:x.ids.length<=1099511627776)(e:y.ids.length<=1099511627776):ab Y 124 [fi O x,fi O y] (iv (pf x y)):=by
 let⟨g,b⟩:=x;let⟨h,c⟩:=y;dsimp only at d e;have f:=ag6 (Y:=Y) (O:=O) b c d e;let⟨R,a⟩:=aq (pf ⟨g,b⟩ ⟨h,c⟩);rw[<-a];unfold pf at a;dsimp only at a;let⟨C,i⟩:=aq (tH b c);rw[<-i]at f a;refine st aoX Mo .v ?_;repeat' first|refine ig Mo (D.bM rfl (Qa _ _) ⟨.v,.v,trivial⟩) λ_ _=>?_|refine ig Mo (D.jN rfl (ao2 _ _) ⟨bJ _,trivial⟩ ⟨Wk.sl,trivial⟩) λ_ _=>?_|refine og Mo (D.bM rfl f ⟨bJ _,bJ _,trivial⟩) ?_|refine cg Mo (λj=>?_) λj=>?_|refine lg Mo λm k=>?_|refine fq ?_
 all_goals subst_vars;refine dx ?_;simp only[fS,CB]at*;(repeat' split)<;>first|rfl|simp_all;done 
theorem Y5(x y:Fi)(s:x.ids.length<=1099511627776)(t:y.ids.length<=1099511627776):ab Y 151 [fi O x,fi O y] (iv (pf x y)):=by
 have l:=ag5 x y;let⟨R,j⟩:=aq (pf x y);rw[<-j]at l⊢;clear j;let⟨n,f⟩:=x;let⟨o,g⟩:=y;dsimp only at s t l;refine st aoY fO .v ?_;repeat' first|refine H.int rfl (D.bM rfl (Ut _ _) ⟨.v,.v,trivial⟩) λ_ _=>?_;refine Z fO ?_|refine bq (λb=>?_) λb=>?_<;>(try simp only[bY]at b)<;>(first|exact dF b|refine Z fO ?_)|refine b8 λm d=>?_;(try rw[az]at d);refine Z fO ?_|refine cG λ_ _=>?_;refine Z fO ?_|refine gT λ_ _=>?_;refine Z fO ?_|refine H.str rfl (D.cat rfl rfl (by assumption)) λ_ _=>?_;refine Z fO ?_|refine xG fO ?_|refine rG fO ?_|refine fq ?_
 all_goals
  rename_i r u;have j:R=fS r (DR f g):=by subst_vars;first|rw[show jG n o=0 by grind];rfl|rw[ab9 (a:=jG n o) I]
  clear l u;refine cr (τ:=Int) 2 2 [] (λp=>[(2,.pt 0 2 0 0),(3,.pt 1 2 0 0),(5,.v (.int .i64 p.2)),(6,.v (.int .i64 p.1))]) [] (λ_=>[(0,.arr 2 [IM O ⟨n,f⟩] 0 true),(1,.arr 2 [IM O ⟨o,g⟩] 0 true)]) f.length (λk p=>k<=g.length/\R=fS p.2 (DR (f.drop k) (g.drop k))) r ⟨aB,I⟩ ?_;rintro i k c q G⟨J,e⟩;simp only at q e;clear j;refine Z fO ?_;by_cases v:k<f.length
  ·by_cases w:k<g.length
   ·let⟨x,z,A⟩:=aA v;let⟨y,B,C⟩:=aA w;rw[A,C,DR]at e;by_cases E:c=0
    ·subst E;simp only[fS,if_true]at e;repeat' first|refine H.op rfl (D.bh q z) ?_;refine Z fO ?_|refine H.op rfl (D.bh q B) ?_;refine Z fO ?_|refine H.int rfl (D.bM rfl (Ut _ _) ⟨.v,.v,trivial⟩) λ_ _=>?_;refine Z fO ?_|refine bq (λb=>?_) λb=>?_<;>(try simp only[bY]at b)<;>(first|exact dF b|refine Z fO ?_)|refine b8 λm d=>?_;(try rw[az]at d);refine Z fO ?_|refine cG λ_ _=>?_;refine Z fO ?_|refine gT λ_ _=>?_;refine Z fO ?_|refine H.str rfl (D.cat rfl rfl (by assumption)) λ_ _=>?_;refine Z fO ?_|refine xG fO ?_|refine rG fO ?_|refine fq ?_
     all_goals first|omega|refine H.bO (_,_) [] ?_ ?_ cz;exact⟨k+1,I,X,X,by subst_vars;rfl⟩;simp only;omega
    ·have h:R=c:=by grind[fS]
     clear e;repeat' first|refine bq (λb=>?_) λb=>?_<;>(try simp only[bY]at b)<;>(first|exact dF b|refine Z fO ?_)|refine b8 λm d=>?_;(try rw[az]at d);refine Z fO ?_|refine cG λ_ _=>?_;refine Z fO ?_|refine gT λ_ _=>?_;refine Z fO ?_|refine H.str rfl (D.cat rfl rfl (by assumption)) λ_ _=>?_;refine Z fO ?_|refine xG fO ?_|refine rG fO ?_|refine fq ?_
     all_goals first|omega|rw[h];exact dx rfl
   ·have h:R=c:=by grind[DR,fS]
    clear e;repeat' first|refine bq (λb=>?_) λb=>?_<;>(try simp only[bY]at b)<;>(first|exact dF b|refine Z fO ?_)|refine b8 λm d=>?_;(try rw[az]at d);refine Z fO ?_|refine cG λ_ _=>?_;refine Z fO ?_|refine gT λ_ _=>?_;refine Z fO ?_|refine H.str rfl (D.cat rfl rfl (by assumption)) λ_ _=>?_;refine Z fO ?_|refine xG fO ?_|refine rG fO ?_|refine fq ?_
    all_goals first|omega|rw[h];exact dx rfl
  ·have h:R=c:=by grind[DR,fS]
   clear e;repeat' first|refine bq (λb=>?_) λb=>?_<;>(try simp only[bY]at b)<;>(first|exact dF b|refine Z fO ?_)|refine b8 λm d=>?_;(try rw[az]at d);refine Z fO ?_|refine cG λ_ _=>?_;refine Z fO ?_|refine gT λ_ _=>?_;refine Z fO ?_|refine H.str rfl (D.cat rfl rfl (by assumption)) λ_ _=>?_;refine Z fO ?_|refine xG fO ?_|refine rG fO ?_|refine fq ?_
   all_goals first|omega|rw[h];exact dx rfl
end
abbrev KN:=List (Int×Int×Int)
noncomputable def tJ(f:Nat->List Nat->KN->Option (Option (Int×Int)×List Nat×KN)):List Nat->List Nat->KN->Int×Int->Option (Option (Int×Int)×List Nat×KN)|[],up,a,q=>some (some q,up,a)|x::l,up,a,q=>match lL up x with|none=>none|some (u,r)=>match f r u a with|none=>none|some (none,b,c)=>some (none,b,c)|some (some p,b,c)=>tJ f l b c (min (q.1+p.1) 201,min (max q.2 (p.2+1)) 21)
noncomputable def oR(N:aT)(sh:List (Int×Int)):Nat->List (Int×Unit)->Nat->List Nat->KN->Option (Option (Int×Int)×List Nat×KN)|0,_,_,_,_=>none|m+1,busy,r,up,a=>match aI a (r:Int) with|some q=>some (some q,up,a)|none=>match aI busy (r:Int) with|some _=>some (none,up,a)|none=>match aI sh (r:Int) with|none=>some (some (1,1),up,g9 a r (1,1))|some k=>if 0<=k then match N[k.toNat]? with|none=>none|some (_,l)=>match tJ (oR N sh m (g9 busy r ())) l up a (1,1) with|none=>none|some (none,u,b)=>some (none,u,b)|some (some q,u,b)=>some (some q,u,g9 b r q) else none
mutual def IN:Tm->Nat|⟨k,i,n,a⟩=>zU a+1def zU:List Tm->Nat|[]=>0|x::l=>max (IN x) (zU l)end
def qQ(t:Tm):Int×Int:=(min (cP t:Int) 201,min (IN t:Int) 21)
def ix(N:aT)(c:Nat->Nat)(sh:Nat->Option Nat):Nat->Nat->Prop|0,_=>False|m+1,C=>∀s,sh C=some s->∀j∈ks N s,ix N c sh m (c j)
section
variable{sh:Nat->Option Nat}
def ix.succ:∀{m C:Nat},ix N c sh m C->ix N c sh (m+1) C|0,_,h=>h.elim|m+1,C,h=>λs a j b=>(h s a j b).succ
theorem ix.le{a C:Nat}(h:ix N c sh m C)(b:m<=a):ix N c sh a C:=by induction b with|refl=>exact h|step _ d=>exact d.succ
theorem AX:∀{m a C:Nat},ix N c sh m C->m<=a->TF N c sh lo a C=TF N c sh lo m C|0,_,_,h,_=>h.elim|m+1,0,_,_,h=>X|m+1,a+1,C,h,d=>by rw[TF,TF];cases e:sh C with|none=>rfl|some s =>simp only[Tm.mk.injEq,true_and];exact aQ_ λj b=>AX (h s e j b) X
theorem Qb{p:Nat->Prop}:∀(n:Nat),p n->∃m,p m/\∀k,k<m->¬p k:=by intro n;induction n using Nat.strongRecOn with|ind n a =>intro h;by_cases b:∃k,k<n/\p k;grind;grind
end
def tK(busy:List (Int×Unit)):Nat->Nat|0=>0|n+1=>tK busy n+if aI busy (n:Int)=none then 1 else 0
theorem Qc{b b':List (Int×Unit)}(h:∀i,aI b' i=none->aI b i=none):∀n,tK b' n<=tK b n|0=>aa_ _|n+1=>by have:=Qc h n;rw[tK,tK];by_cases e:aI b' (n:Int)=none;grind;grind
theorem JF{b b':List (Int×Unit)}(h:∀i,aI b' i=none->aI b i=none){r:Nat}(a:aI b (r:Int)=none)(c:aI b' (r:Int)≠none):∀n,r<n->tK b' n<tK b n|0,d=>X|n+1,d=>by rw[tK,tK];by_cases e:r=n;subst e;have:=Qc h r;rw[if_pos a,if_neg c];omega;have:=JF h a c n X;by_cases e:aI b' (n:Int)=none;grind;grind
theorem Nt(b:List (Int×Unit)):∀n,tK b n<=n|0=>aa_ _|n+1=>by have:=Nt b n;rw[tK];split<;>omega
section
variable{sh:List (Int×Int)}
def F4(N:aT)(c:Nat->Nat)(sh:List (Int×Int))(lo:Nat->Int)(kn:KN):Prop:=∀(C:Nat) q,aI kn (C:Int)=some q->∃m,ix N c (dk sh) m C/\q=qQ (TF N c (dk sh) lo m C)
structure Mp(N:aT)(c:Nat->Nat)(sh:List (Int×Int)):Prop where
 pos:∀C i,aI sh C=some i->0<=i
 at_:∀C,C<N.length->c C=C->∀s,dk sh C=some s->s<N.length/\c s=C/\(tn N s).k≠1kid:∀i,i<N.length->∀j∈ks N i,j<N.length
def RkC(N:aT)(c:Nat->Nat)(sh:List (Int×Int))(a:Nat->Nat):Prop:=∀C,C<N.length->c C=C->∀s,dk sh C=some s->∀j∈ks N s,a (c j)<a C
theorem Qd(l:List Tm)(x:Tm):bG (l++[x])=bG l+cP x:=by induction l with|nil=>simp[bG]|cons y l a=>rw[aP_,bG,bG,a];omega
theorem UJ(k i:Int)(n:ByteArray)(a:List Tm):qQ ⟨k,i,n,a⟩=(min (1+bG a:Int) 201,min (max 1 (zU a+1:Int)) 21):=by grind[qQ,cP,IN]
theorem ag7(P:Mp N c sh):∀(d:Nat)(busy:List (Int×Unit))(r:Nat)(up:List Nat)(kn:KN),tK busy N.length<=d->UF up c h->up.length=N.length->r<N.length->c r=r->F4 N c sh lo kn ->∃res y f,oR N sh (d+1) busy r up kn=some (res,y,f)/\UF y c h/\y.length=N.length/\F4 N c sh lo f/\(∀C q,aI kn C=some q->aI f C=some q)/\(∀q,res=some q->aI f (r:Int)=some q) /\(res=none->∀a,RkC N c sh a->∃b:Nat,b<N.length/\aI busy (b:Int)≠none/\a b<=a r):=by intro d;induction d with
 |zero =>intro busy r up kn hd g u z Q o;rw[oR];cases R:aI kn (r:Int) with|some q=>exact⟨some q,up,kn,rfl,g,u,o,λ_ _ h=>h,λp t=>I,λh=>I⟩|none =>cases F:aI busy (r:Int) with|some _=>exact⟨none,up,kn,rfl,g,u,o,λ_ _ h=>h,λp t=>I,λ_ a _=>⟨r,z,I,aa_ _⟩⟩|none =>exfalso;have:=JF (b:=busy) (b':=g9 busy (r:Int) ()) (r:=r) λi v=>by grind[c_] F (by grind[c_]) N.length z;omega
 |succ d ih =>intro busy r up kn hd g u z Q o;rw[oR];cases R:aI kn (r:Int) with|some q=>exact⟨some q,up,kn,rfl,g,u,o,λ_ _ h=>h,λp t=>I,λh=>I⟩|none =>cases F:aI busy (r:Int) with|some _=>exact⟨none,up,kn,rfl,g,u,o,λ_ _ h=>h,λp t=>I,λ_ a _=>⟨r,z,I,aa_ _⟩⟩|none =>
    have G:=JF (b:=busy) (b':=g9 busy (r:Int) ()) (r:=r) λi v=>by grind[c_] F (by grind[c_]) N.length z;have Y6:∀{f:KN}{q:Int×Int}{m:Nat},F4 N c sh lo f->ix N c (dk sh) m r->q=qQ (TF N c (dk sh) lo m r)->F4 N c sh lo (g9 f r q):=by intro f q m S hW n C p t;rw[c_]at t;split at t;rename_i e;have e:r=C:=X;subst e;cases oJ_ t;exact⟨m,hW,n⟩;exact S C p t
    have Qe:∀{f:KN}{q:Int×Int},(∀C p,aI kn C=some p->aI f C=some p)->∀C p,aI kn C=some p->aI (g9 f r q) C=some p:=by grind[c_]
    cases e3:aI sh (r:Int) with|none =>
     have f3:dk sh r=none:=by grind[dk]
     refine⟨some (1,1),up,_,rfl,g,u,Y6 (m:=1) o (λs hs=>I) ?_,Qe λ_ _ h=>h,λq n=>by grind[c_],λh=>by cases h⟩;rw[TF,f3];simp only[qQ,vr,cP,bG,IN,zU];rfl|some k =>
     have f3:dk sh r=some k.toNat:=by grind[dk]
     let⟨s1,s2,s3⟩:=P.at_ r z Q _ f3;simp only[if_pos (P.pos _ _ e3),zg s1];have key:∀(l:List Nat)(up:List Nat)(kn:KN)(A B:Int),1<=A->1<=B->(∀j∈l,j<N.length)->UF up c h->up.length=N.length->F4 N c sh lo kn ->∃res y f,tJ (oR N sh (d+1) (g9 busy r ())) l up kn (min A 201,min B 21)=some (res,y,f)/\UF y c h/\y.length=N.length/\F4 N c sh lo f/\(∀C q,aI kn C=some q->aI f C=some q) /\(∀q,res=some q->∃M,(∀j∈l,ix N c (dk sh) M (c j))/\q=(min (A+bG (l.map λj=>TF N c (dk sh) lo M (c j))) 201,min (max B (zU (l.map λj=>TF N c (dk sh) lo M (c j))+1)) 21)) /\(res=none->∀a,RkC N c sh a->(∀j∈l,a (c j)<a r)->∃b:Nat,b<N.length/\aI busy (b:Int)≠none/\a b<=a r):=by intro l;induction l with|nil =>intro up kn A B hA hB _ g u o;refine⟨_,up,kn,by rw[tJ],g,u,o,λ_ _ h=>h,λq n=>⟨0,λj w=>I,?_⟩,λh=>by cases h⟩;rw[<-oJ_ n];simp[bG,zU];omega|cons j l T =>
       intro up kn A B hA hB w g u o;have Nu:=w j aB;let⟨J,r1,IP,l1⟩:=g.lL (k:=j) X;have cj:c j<N.length:=by have:=(g.rt j X).2;omega
       let⟨res,u2,Qf,m1,AY,l2,V,KM,W,aca⟩:=ih (g9 busy r ()) (c j) J kn X IP X cj (g.cc X) o;rw[tJ,r1];simp only[m1];cases res with|none =>refine⟨none,u2,Qf,rfl,AY,l2,V,KM,λq n=>I,λ_ a E G=>?_⟩;let⟨b,b1,b2,b3⟩:=aca rfl a E;have h4:=G j aB;refine⟨b,b1,λe=>b2 ?_,X⟩;rw[c_,if_neg];grind;intro e5;have e5:r=b:=X;rw[e5]at h4;omega|some p =>
        let⟨x,Y,t⟩:=V _ _ (W p rfl);have qy:(min (min A 201+p.1) 201,min (max (min B 21) (p.2+1)) 21)=(min (A+cP (TF N c (dk sh) lo x (c j))) 201,min (max B (IN (TF N c (dk sh) lo x (c j))+1)) 21):=by rw[t];simp only[qQ,pI_];omega
        simp only[qy];let⟨res,u3,CC,K,L,k3,k4,k5,k6,k7⟩:=T u2 Qf (A+cP (TF N c (dk sh) lo x (c j))) (max B (IN (TF N c (dk sh) lo x (c j))+1)) X X (λi v=>w i I) AY l2 V;refine⟨res,u3,CC,K,L,k3,k4,λC q n=>k5 C q (KM C q n),λq n=>?_,λe a E G=>k7 e a E λi v=>G i I⟩;let⟨M,hM,n⟩:=k6 q n;have R:TF N c (dk sh) lo (max M x) (c j)=TF N c (dk sh) lo x (c j):=AX Y (cm_ _ _);have F:(l.map λj=>TF N c (dk sh) lo (max M x) (c j))=l.map λj=>TF N c (dk sh) lo M (c j):=aQ_ λi v=>AX (hM i v) (cn_ _ _);refine⟨max M x,λi v=>?_,?_⟩;rcases ae_.1 v with rfl|v;exact Y.le (cm_ _ _);exact(hM i v).le (cn_ _ _);rw[n,aF_,R,F,bG,zU];congr 1<;>omega
     let⟨res,J,sP,K,L,k3,k4,k5,k6,k7⟩:=key (ks N k.toNat) up kn 1 1 X X (λj w=>P.kid _ s1 j w) g u o;have e0:((min 1 201,min 1 21):Int×Int)=(1,1):=rfl;rw[e0]at K;rw[K];cases res with|none=>exact⟨none,J,sP,rfl,L,k3,k4,k5,λq n=>I,λ_ a E=>k7 rfl a E λj w=>E r z Q _ f3 j w⟩|some q =>let⟨M,hM,n⟩:=k6 q rfl;refine⟨some q,J,_,rfl,L,k3,Y6 (m:=M+1) k4 (λs hs j w=>?_) ?_,Qe k5,λp t=>by grind[c_],λh=>I⟩;grind;grind[TF,UJ]
end
noncomputable def AZ(N:aT)(sh:List (Int×Int)):List Nat->List Nat->KN->Option (Bool×List Nat×KN)|[],up,a=>some (true,up,a)|k::l,up,a=>match lL up k with|none=>none|some (u,r)=>match oR N sh (N.length+1) [] r u a with|none=>none|some (none,b,c)=>some (false,b,c)|some (some _,b,c)=>AZ N sh l b c
section
variable{sh:List (Int×Int)}
theorem Qg(r:Mp N c sh):∀(l:List Nat)(up:List Nat)(kn:KN),(∀j∈l,j<N.length)->UF up c h->up.length=N.length->F4 N c sh lo kn ->∃b f d,AZ N sh l up kn=some (b,f,d)/\UF f c h/\f.length=N.length/\F4 N c sh lo d/\(∀C q,aI kn C=some q->aI d C=some q)/\(b=true->∀j∈l,∃q,aI d (c j:Int)=some q)/\(b=false->¬∃g,RkC N c sh g)
 |[],up,kn,_,a,s,m=>⟨true,up,kn,rfl,a,s,m,λ_ _ h=>h,λ_ j n=>I,λh=>I⟩|k::l,up,kn,n,a,s,m=>by
  have S:=n k aB;let⟨z,A,B,T⟩:=a.lL (k:=k) X;have E:c k<N.length:=by have:=(a.rt k X).2;omega
  let⟨res,t,u,F,v,w,x,y,G,o⟩:=ag7 r N.length [] (c k) z kn (Nt _ _) B X E (a.cc X) m;rw[AZ,A];simp only[F];cases res with|none =>refine⟨false,t,u,rfl,v,w,x,y,λh=>I,λ_ ⟨g,J⟩=>?_⟩;let⟨b,_,K,_⟩:=o rfl g J;exact K rfl|some q =>let⟨b,L,M,P,Q,k3,k4,k5,k6,k7⟩:=Qg r l t u (λi p=>n i I) v w x;refine⟨b,L,M,P,Q,k3,k4,λC q R=>k5 C q (y C q R),λe i p=>?_,k7⟩;rcases ae_.1 p with rfl|p;grind;grind
end
noncomputable def B1(f:Nat->List Nat->Option (Tm×List Nat)):List Nat->List Nat->Option (List Tm×List Nat)|[],up=>some ([],up)|x::l,up=>match lL up x with|none=>none|some (u,r)=>match f r u with|none=>none|some (t,b)=>match B1 f l b with|none=>none|some (c,a)=>some (t::c,a)
noncomputable def B2(N:aT)(sh ls:List (Int×Int)):Nat->Nat->List Nat->Option (Tm×List Nat)|0,_,_=>none|m+1,r,up=>match aI sh (r:Int) with|none=>some (vr ((aI ls (r:Int)).getD 0),up)|some k=>if 0<=k then match N[k.toNat]? with|none=>none|some (t,l)=>if l.length=t.a.length then if t.a.length=0 then some (t,up) else match B1 (B2 N sh ls m) l up with|none=>none|some (a,u)=>some (⟨t.k,t.i,t.n,a⟩,u) else none else none
noncomputable def zW(N:aT)(sh ls vs:List (Int×Int))(kn:KN)(m:Nat):List Int->List Nat->List Bd->Option (Option (List Bd))|[],_,a=>some (some a)|v::l,up,a=>match aI vs v with|none=>none|some k=>if 0<=k then match lL up k.toNat with|none=>none|some (u,r)=>if aI sh (r:Int)=none/\(aI ls (r:Int)).getD 0=v then zW N sh ls vs kn m l u a else if 200<((aI kn (r:Int)).getD (0,0)).1\/20<((aI kn (r:Int)).getD (0,0)).2 then some none else match B2 N sh ls m r u with|none=>none|some (t,b)=>zW N sh ls vs kn m l b (a++[⟨v,t⟩]) else none
section
variable{sh:List (Int×Int)}
def A0(ls:List (Int×Int))(C:Nat):Int:=(aI ls (C:Int)).getD 0
theorem Y7(g:fT N)(p:Mp N c sh):∀(m r:Nat)(up:List Nat),ix N c (dk sh) m r->UF up c h->up.length=N.length->r<N.length->c r=r ->∃e,B2 N sh ls m r up=some (TF N c (dk sh) (A0 ls) m r,e)/\UF e c h/\e.length=N.length|0,_,_,h,_,_,_,_=>h.elim|m+1,r,up,y,d,f,z,A=>by rw[B2,TF];cases B:aI sh (r:Int) with
  |none =>
   have f3:dk sh r=none:=by grind[dk]
   rw[f3];exact⟨up,rfl,d,f⟩|some k =>
   have f3:dk sh r=some k.toNat:=by grind[dk]
   let⟨q,S,T⟩:=p.at_ r z A _ f3;rw[f3];simp only[if_pos (p.pos _ _ B),zg q,if_pos (oh g q)];by_cases s:(tn N k.toNat).a.length=0;rw[if_pos s];have C:ks N k.toNat=[]:=bP_.1 (by grind[oh]);rw[C];refine⟨up,?_,d,f⟩;have v:(tn N k.toNat).a=[]:=bP_.1 s;congr 2;generalize tn N k.toNat=t at v;let⟨a,b,n,l⟩:=t;simp only at v;subst v;rfl;rw[if_neg s];have key:∀(l:List Nat)(up:List Nat),(∀j∈l,j<N.length/\ix N c (dk sh) m (c j))->UF up c h->up.length=N.length->∃e,B1 (B2 N sh ls m) l up=some (l.map λj=>TF N c (dk sh) (A0 ls) m (c j),e)/\UF e c h/\e.length=N.length:=by intro l;induction l with|nil=>intro up _ d f;exact⟨up,rfl,d,f⟩|cons j l w =>
     intro up o d f;let⟨V,E⟩:=o j aB;let⟨F,W,G,l1⟩:=d.lL (k:=j) X;have J:c j<N.length:=by have:=(d.rt j X).2;omega
     let⟨K,m2,L,M⟩:=Y7 g p m (c j) F E G X J (d.cc X);let⟨P,m3,x,Q⟩:=w K (λi hi=>o i I) L M;exact⟨P,by grind[B1],x,Q⟩
   let⟨u,k1,R,k3⟩:=key (ks N k.toNat) up (λj o=>⟨p.kid _ q j o,y _ f3 j o⟩) d f;exact⟨u,I,R,k3⟩
def je(t:Tm):Bool:=decide (200<cP t\/20<IN t)
theorem UK{t:Tm}:200<(qQ t).1\/20<(qQ t).2↔je t=true:=by grind[qQ,je]
end
theorem acb{v:Value}(h:lift v=.sl true []):v=.slice none 0 0:=by
 have a:∀v,cd v=.sl true []->v=.slice none 0 0:=by grind[cd]
 cases v with|agg b=>cases h|_=>exact a _ h
theorem ajz{u:Operand}(h:.c (.sl true [])=qo u):u=.const (.slice none 0 0):=by cases u with|const v =>injection h with h;rw[acb h.symm]|_=>cases h
theorem UL{o:Op}{op:BinOp}(h:res P.toTables o=some (.bin op .s x (.c (.sl true [])))):∃t u s e,o=.binOp op t u (.const (.slice none 0 0)) s/\x=qo u/\P.underlying t=some (.slice e):=by cases o with|binOp a t u v s =>simp only[res,cN]at h;split at h;grind;rename_i e b;simp only[oI_,n_.bin.injEq]at h;obtain⟨rfl,_,rfl,c⟩:=h;rw[ajz c.symm];exact⟨_,_,_,_,rfl,rfl,b⟩;grind;grind;grind;grind|_ =>
  simp only[res]at h;repeat' split at h
  all_goals cases h
def F5:AV->Option Bool|.sl _ (_::_)=>some false|.ob ..=>some false|.gr _ _ (_+1)=>some false|.v (.slice A _ _)=>some A.isNone|_=>none
theorem acd{g:Gh}{w:World}{a:AV}{x:Value}(h:F5 a=some b)(d:aN g w a x):∃A l c,x=.slice A l c/\A.isNone=b:=by
 unfold F5 at h;split at h;cases d with|sl=>cases oJ_ h;exact⟨_,_,_,rfl,rfl⟩
 cases d with|ob=>cases oJ_ h;exact⟨_,_,_,rfl,rfl⟩
 cases d with|gr=>cases oJ_ h;exact⟨_,_,_,rfl,rfl⟩
 cases d with|v=>cases oJ_ h;exact⟨_,_,_,rfl,rfl⟩
 grind
def Wy(op:BinOp)(b:Bool):Option Bool:=match op with|.eql=>some b|.neq=>some !b|_=>none
theorem UM{op:BinOp}{d:Bool}{n:Nat}{o:Oper}(k:res P.toTables o.op=some (.bin op .s x (.c (.sl true []))))(β:AA)(a:F5 (x.ev β.tm)=some b)(m:Wy op b=some d):jV P Y n o β S (.v (.bool d)) S:=by obtain⟨t,u,s,e,f,rfl,h⟩:=UL k;rw[aU]at a;refine bj.ops (bj.quiet λA g c w q p=>⟨.bool d,?_,.v⟩) λc e=>I;obtain⟨B,l,cc,i,rfl⟩:=acd a (p.ev u);have j:c.eval (.const (.slice none 0 0))=.slice none 0 0:=rfl;cases op<;>cases m;simp[execOp,f,i,eqGuard,j,binOp,run_equal_slice_nil w t e B l cc h];simp[execOp,f,i,eqGuard,j,binOp,run_equal_slice_nil w t e B l cc h]
theorem D.nil{dr:Bool}{op:BinOp}{d:Bool}(g:F5 (x.ev U.tm)=some b)(c:Wy op b=some d):D P Y dr (.bin op .s x (.c (.sl true []))) U S (.v (.bool d)) S:=by cases dr with|false=>exactλn o a=>UM a U g c|true =>intro n o a;let⟨t,u,s,e,h,i,_⟩:=UL a;have key:∀z∈o.op.operands,(U.only (dW o)).ev z=U.ev z:=λz j=>gL λt e=>gM I;have k:(U.only (dW o)).ev u=U.ev u:=key u (by rw[h];simp[Op.operands]);have f:∀T,jV P Y n o (U.only (dW o)) T (.v (.bool d)) T:=λT=>UM a _ (by grind[aU]) c;exact⟨f S,λ_=>⟨rfl,f⟩,λ_=>rfl⟩
section
variable{rd:Bool}
theorem dv{a:List T}{x:T}(h:a[i]?=some x):(O.h (List.map f) a)[i]?=some (f x):=by rw[O.eq,aX_,h];rfl
theorem H.mks{MB:Nat}{a b:QO}{i:Int}(O:Hd)(f:T->List AV)(c:T)(e:bD U.tm gg=some true)(h1:a.ev U.tm=.v (.int .i64 i))(h2:b.ev U.tm=.v (.int .i64 i))(hi:i=m)(hs:(f c).length=sz)(g:m*MB<=35184372088832)(h6:m<=9223372036854775807)(kk:∀d,d=List.replicate m c->H P Y rd n Q (.bk dr l K) (bW dd U (.ob S.nx sz 0 m none)) (S.new (.arr sz (O.h (List.map f) d) 0 true))):H P Y rd n Q (.bk dr (⟨dd,gg,.sw (f c) MB a b⟩::l) K) U S:=by have h:=kk _ rfl;rw[O.eq,List.map_replicate]at h;subst hs hi;exact H.op (i:=⟨dd,gg,.sw (f c) MB a b⟩) e (by simpa using D.mks (P:=P) (Y:=Y) (dr:=dr) (z:=f c) (MB:=MB) (S:=S) h1 h2 X rfl X X) h
theorem D.Qh{p:Nat}{i:QO}{k off len:Nat}{cx:Option Nat}{a:IntKind}{j:Int}(h1:x.ev U.tm=.ob k m off len cx)(h2:i.ev U.tm=.v (.int a j))(b:j=p)(h4:p<len):D P Y dr (.yW m x i) U S (.pt k m (off+p) 0) S:=by subst b;exact D.atV h1 h2 X X
theorem D.iQ{k:LK}{b j fz:Nat}{row:List AV}{a:AV}(c:x.ev U.tm=.pt b sz i j)(d:S.get b=some (.arr sz rows fz ex))(hi:rows[i]?=some row)(e:xy k row j=some a):D P Y dr (.load k x) U S a S :=D.quiet (by simp only[oM,c,xz,d,bD_,hi,e])
theorem D.atW{n:Nat}{b:QO}{k j:Nat}{row:List AV}(d:x.ev U.tm=.pt k sz i j)(h:S.get k=some (.arr sz rows 0 ex))(e:(bp (b.ev U.tm)).all db=true)(f:n=(bp (b.ev U.tm)).length)(hi:rows[i]?=some row)(g:j+(bp (b.ev U.tm)).length<=row.length):D P Y dr (.store n x b) U S (.v undef) (S.set k (some (.arr sz (rows.set i (uV row j (bp (b.ev U.tm)))) 0 ex))):=by refine D.of rfl λo c=>?_;cases o<;>simp only[res,gH]at c<;>(repeat' split at c)<;>(try cases c);rename_i l;rw[aU]at d e f g⊢;simp only[bX,d];refine bQ.mk (a:=_) ?_ ⟨rfl,rfl⟩;simp only[uW,h,l,e,f,bD_,cW_,hi,bZ_ g]
theorem H.JG{b:QO}{k:Nat}{a:List T}{y:T}(g:bD U.tm gg=some true)(j:x.ev U.tm=.pt k sz i 0)(o:S.get k=some (.arr sz (O.h (List.map f) a) 0 ex))(p:bp (b.ev U.tm)=f y)(r:(f y).all db=true)(d:∀x,(f x).length=sz)(s:m=sz)(hi:i<a.length)(kk:∀c,c=a.set i y->H P Y rd n Q (.bk dr l K) (bW dd U (.v undef)) (S.set k (some (.arr sz (O.h (List.map f) c) 0 ex)))):H P Y rd n Q (.bk dr (⟨dd,gg,.store m x b⟩::l) K) U S:=by
 have h:=kk _ rfl;have q:(O.h (List.map f) a)[i]?=some (f a[i]):=dv (av_ hi);have e:(O.h (List.map f) a).set i (uV (f a[i]) 0 (bp (b.ev U.tm)))=O.h (List.map f) (a.set i y):=by rw[p,O.eq,O.eq,List.map_set];congr 1;unfold uV;rw[d,d,bD_];rfl
 rw[<-e]at h;exact H.op (i:=⟨dd,gg,.store m x b⟩) g (D.atW j o I I q I) h
end
end Go.Proofs.YtbdcmpknicjopaaGreat
