import Derived.Test.YtbdcmpknicjopaaGreatTo8
namespace Go.Proofs.YtbdcmpknicjopaaGreat
set_option linter.all false
set_option maxRecDepth 100000
open Go.RowKit Proofs.Tryz
variable{B N n q:Nat}{K:List iu}{O:Hd}{Q:Exit->AA->ao->Prop}{R:AV->ao->Prop}{S S' S1 S2:ao}{T:Type}{U:World}{Y Ym aI:AA}{a b:List Tm}{aZ9 bs:List QO}{args0:List AV}{c:Nat->Nat}{cf cf1 cf2:QF}{ch:List PanicEntry}{d:Option Nat}{dr e:Bool}{ds:List DE}{ex:Exit}{g:FuncId}{i:QI}{ik:IntKind}{qs:List QR}{r:AV}{v:Value}{x:QO}{zzD:List (Nat×Nat)}
variable{f:FuncId}{args:List AV}{l:List Nat}{E:List PanicEntry->ao->Prop}{P:Prop}
theorem mK(d:1<=B):jm B (.arr 1 [[.yl 0]] 0 true):=λrow b a c=>by cases ae_.1 b;cases ae_.1 c;exact .yl X
theorem pq(h:P:=by first|exact .v|exact a8 _|exact cQ _|exact bP _|exact a6 _|exact bH _|exact dY _|exact fm _|exact eM _|exact oH _|exact bM _|exact ph _|exact kJ _|exact zr _|exact uO _|exact C4 _|exact fQ _|exact lx _|exact nv _|assumption|fail):P:=h
theorem kz(h:P:=by repeat' first|exact trivial|refine⟨?_,?_⟩;first|exact .aF .v|exact .lM|exact .jz rfl rfl|exact .pf rfl rfl|exact .vS rfl rfl|exact .aF (.pt (by decide))|exact .aF (.gr (by decide))|exact .aF (.mp (by decide))|exact .aF zz|exact .aF (Pure.bm pq)|exact .aF .u|exact .aF (.ip λb a=>(by assumption:∀b∈_,Pure b) b a |>.bm)):P:=h
theorem cz(h:P:=by
 refine⟨?_,rfl,?_,rfl,rfl,rfl⟩;·repeat' first|exact trivial|refine⟨?_,?_⟩;first|exact .aF rfl .v|exact .aF rfl (.pt (by decide))|exact .lM rfl|exact .jz rfl rfl|exact .pf rfl rfl|exact .vS rfl rfl|exact .new rfl rfl|exact .aF rfl (.gr (by decide))|exact .aF rfl (.mp (by decide))|exact .aF rfl (.ob (by decide))|exact .aF rfl (.yl (by decide))|exact .aF rfl zz|exact .aF rfl (Pure.bm pq)|exact .aF rfl .u|exact .aF rfl (aiU (by decide))
 ·repeat' first|exact trivial|refine⟨?_,?_⟩;first|exact .inr rfl|refine .inl ⟨_,rfl,?_⟩;first|exact .same trivial|exact .same uc|exact .same (by assumption)|exact .same ahO|exact .same Il|exact .same ID|exact .same (gE _)|exact .same (ft _)|exact .same (pE _)|exact .same (nV _)|exact .same (nh _)|exact .same (ng _)|exact .same (pb _)|exact .same (IK _)|exact .same (c _)|exact .same (rJ (by omega))|exact .same (vT (by decide))|exact .same (mK (by decide))|exact .same (jP λx _=>xl x)|exact .same (jP λx _=>AW x)|exact .same (jP λx _=>Tv x)|exact .same (jP λx _ a b=>AT x a b)|exact .arr ⟨kz,trivial⟩|exact .same (se λa b=>by obtain rfl:=ae_.1 b;exact pq)):P:=h
theorem pz(h:P:=by first|(repeat' first|exact trivial|refine⟨?_,?_⟩;exact pq);done|exact QL (m:=60) rfl):P:=h
section
variable{P:Program}{rd:Bool}{y:Option (Nat×Bool)}{l:List QI}{f:QO}{args:List AV}
theorem pl(a:aq P U g args r)(h:fO (f.ev Y.tm) (bs.map (·.ev Y.tm))=some (g,args):=by rfl)(b:iZ args:=by exact pz):D P U dr (.call f bs) Y S r S:=D.bU h a b
theorem bh(G:List Nat)(a:aq P U g args r)(k:I P U rd n Q cf aI S1)(h:fO (f.ev Y.tm) (bs.map (·.ev Y.tm))=some (g,args):=by rfl)(b:iZ args:=by exact pz)(c:bJ Y.tm y=some true:=by rfl)(e:nN G 400 (.bp dr l K) (bX d Y r) S=(cf,aI,S1):=by conv=>lhs;cbv):I P U rd n Q (.bp dr (⟨d,y,.call f bs⟩::l) K) Y S:=I.op c (D.bU h a b) (I.wi G 400 e k)
end
section
variable{P:Program}{rd:Bool}{l:List QI}
theorem og(G:List Nat)(h:D P U dr i.q Y S r S')(k:I P U rd n Q cf aI S1)(a:bJ Y.tm i.g=some true:=by rfl)(g:nN G 400 (.bp dr l K) (bX i.d Y r) S'=(cf,aI,S1):=by conv=>lhs;cbv):I P U rd n Q (.bp dr (i::l) K) Y S:=I.op a h (I.wi G 400 g k)
theorem bg(G:List Nat)(h:D P U dr i.q Y S (.v (.bool e)) S')(a:e=true->I P U rd n Q cf1 aI S1)(b:e=false->I P U rd n Q cf2 Ym S2)(c:bJ Y.tm i.g=some true:=by rfl)(d:nN G 400 (.bp dr l K) (bX i.d Y (.v (.bool true))) S'=(cf1,aI,S1):=by conv=>lhs;cbv)(g2:nN G 400 (.bp dr l K) (bX i.d Y (.v (.bool false))) S'=(cf2,Ym,S2):=by conv=>lhs;cbv):I P U rd n Q (.bp dr (i::l) K) Y S:=I.bif c h (λe=>I.wi G 400 d (a e)) λe=>I.wi G 400 g2 (b e)
theorem cg(G:List Nat){a b:Prop}(c:a->I P U rd n Q cf1 aI S1)(d:b->I P U rd n Q cf2 Ym S2)(f:bJ Y.tm i.g=some true:=by rfl)(h:D P U dr i.q Y S (.v (.bool e)) S':=by exact D.bit rfl)(q1:(e=true)=a:=by conv=>lhs;(try simp only[bT]))(g:(e=false)=b:=by conv=>lhs;(try simp only[bT]))(j:nN G 400 (.bp dr l K) (bX i.d Y (.v (.bool true))) S'=(cf1,aI,S1):=by conv=>lhs;cbv)(g2:nN G 400 (.bp dr l K) (bX i.d Y (.v (.bool false))) S'=(cf2,Ym,S2):=by conv=>lhs;cbv):I P U rd n Q (.bp dr (i::l) K) Y S:=I.bif f h (λe=>I.wi G 400 j (c (q1 ▸ e))) λe=>I.wi G 400 g2 (d (g ▸ e))
theorem cn{a b:Prop}(c:a->I P U rd n Q (.bp dr l K) (bX i.d Y (.v (.bool true))) S')(d:b->I P U rd n Q (.bp dr l K) (bX i.d Y (.v (.bool false))) S')(f:bJ Y.tm i.g=some true:=by rfl)(h:D P U dr i.q Y S (.v (.bool e)) S':=by exact D.bit rfl)(q1:(e=true)=a:=by conv=>lhs;(try simp only[bT]))(g:(e=false)=b:=by conv=>lhs;(try simp only[bT])):I P U rd n Q (.bp dr (i::l) K) Y S:=I.bif f h (λe=>c (q1 ▸ e)) λe=>d (g ▸ e)
theorem ig(G:List Nat){e:Int}{cf:Int->QF}{aI:Int->AA}{S1:Int->ao}(h:D P U dr i.q Y S (.v (.int ik e)) S')(k:∀d,d=e->I P U rd n Q (cf d) (aI d) (S1 d))(a:bJ Y.tm i.g=some true:=by rfl)(g:∀d,nN G 400 (.bp dr l K) (bX i.d Y (.v (.int ik d))) S'=(cf d,aI d,S1 d):=by intro d;conv=>lhs;cbv):I P U rd n Q (.bp dr (i::l) K) Y S:=I.int a h λd e=>I.wi G 400 (g d) (k d e)
theorem lg(G:List Nat){e f:Int}{cf:Int->QF}{aI:Int->AA}{S1:Int->ao}(k:∀d,d=f->I P U rd n Q (cf d) (aI d) (S1 d))(a:bJ Y.tm i.g=some true:=by rfl)(h:D P U dr i.q Y S (.v (.int ik e)) S':=by exact D.len rfl)(q:e=f:=by conv=>lhs;(try rw[aA]))(g:∀d,nN G 400 (.bp dr l K) (bX i.d Y (.v (.int ik d))) S'=(cf d,aI d,S1 d):=by intro d;conv=>lhs;cbv):I P U rd n Q (.bp dr (i::l) K) Y S:=I.int a h λd e=>I.wi G 400 (g d) (k d (q ▸ e))
theorem ag(G:List Nat){e:Int}{cf:Int->QF}{aI:Int->AA}{S1:Int->ao}(k:∀d,d=e->I P U rd n Q (cf d) (aI d) (S1 d))(a:bJ Y.tm i.g=some true:=by rfl)(h:D P U dr i.q Y S (.v (.int ik e)) S':=by exact D.y7 rfl rfl rfl (by omega) (by omega))(g:∀d,nN G 400 (.bp dr l K) (bX i.d Y (.v (.int ik d))) S'=(cf d,aI d,S1 d):=by intro d;conv=>lhs;cbv):I P U rd n Q (.bp dr (i::l) K) Y S:=I.int a h λd e=>I.wi G 400 (g d) (k d e)
theorem xG{σ:Type}{st:σ->List (Nat×AV)}{so:σ->List (Nat×Ob)}{a:σ->Prop}{μ:σ->Nat}{k id:Nat}(G:List Nat)(c:I P U rd n Q cf aI S1)(h:nN G 400 (.out (.exit id) K) Y S=(cf,aI,S1):=by conv=>lhs;cbv):I P U rd n (E1 P U rd n B N st ds so a μ Q K k) (.out (.exit id) []) Y S:=I.gp (I.wi G 400 h c)
theorem rG{σ:Type}{st:σ->List (Nat×AV)}{so:σ->List (Nat×Ob)}{a:σ->Prop}{μ:σ->Nat}{k:Nat}(G:List Nat)(c:I P U rd n Q cf aI S1)(h:nN G 400 (.out .ret K) Y S=(cf,aI,S1):=by conv=>lhs;cbv):I P U rd n (E1 P U rd n B N st ds so a μ Q K k) (.out .ret []) Y S:=I.HK (I.wi G 400 h c)
theorem D.bw{l:List T}{f:T->List AV}{O:Hd}{ex:Bool}{m:Nat}{i:QO}{k:IntKind}{j:Int}{y:T}(hi:j=(q:Int))(a:l[q]?=some y)(h1:x.ev Y.tm=.sl ex (O.h (List.map f) l):=by rfl)(h2:i.ev Y.tm=.v (.int k j):=by rfl)(h4:∀x,(f x).length=m:=by exactλ_=>rfl):D P U dr (.y9 m x i) Y S (.ip (f y)) S:=D.ind h1 h2 (du hi a) (cJ h4)
theorem bL{c:QC}(B N:Nat)(m:List (Nat×Nat))(st:Int->List (Nat×AV))(ds:List DE)(so:Int->List (Nat×Ob))(z:Nat)(J:Nat->Prop)(h0:J 0)(h:∀(i:Int) (k:Nat),i=k->k<=z->J k->I P U rd n (E1 P U rd n B N st ds so (λi=>∃k:Nat,i=k/\k<=z/\J k) (λi=>z-i.toNat) Q K (z-i.toNat)) (.run c []) (jW (st i) ds) (aw (so i) N))(a:Nat.ble S.nx B=true:=by rfl)(hC:Canon B N m Y S (st 0) ds (so 0):=by exact cz):I P U rd n Q (.run (.loop c) K) Y S :=I.eH (σ:=Int) B N m st ds so (λi=>∃k:Nat,i=k/\k<=z/\J k) (λi=>z-i.toNat) 0 ⟨0,rfl,aF_ _,h0⟩ a hC λi ⟨k,b,d,e⟩=>h i k b d e
theorem cw{z:Nat}{st:Int->List (Nat×AV)}{so:Int->List (Nat×Ob)}{J:Nat->Prop}(s:Int)(m:List (Nat×Nat))(k:Nat)(a:J k)(hC:Canon B N m Y S (st s) ds (so s):=by exact cz)(hi:s=k:=by omega)(b:k<=z:=by omega)(c:z-s.toNat<q:=by omega):I P U rd n (E1 P U rd n B N st ds so (λi=>∃k:Nat,i=k/\k<=z/\J k) (λi=>z-i.toNat) Q K q) (.out .normal []) Y S:=I.bu s m ⟨k,hi,b,a⟩ c hC
theorem cW{τ:Type}{c:QC}(B N:Nat)(m:List (Nat×Nat))(st:Int×τ->List (Nat×AV))(ds:List DE)(so:Int×τ->List (Nat×Ob))(z:Nat)(J:Nat->Int×τ->Prop)(t0:τ)(h0:J 0 (0,t0))(h:∀(i:Int) (k:Nat) (t:τ),i=k->k<=z->J k (i,t)->I P U rd n (E1 P U rd n B N st ds so (λp=>∃k:Nat,p.1=k/\k<=z/\J k p) (λp=>z-p.1.toNat) Q K (z-i.toNat)) (.run c []) (jW (st (i,t)) ds) (aw (so (i,t)) N))(a:Nat.ble S.nx B=true:=by rfl)(hC:Canon B N m Y S (st (0,t0)) ds (so (0,t0)):=by exact cz):I P U rd n Q (.run (.loop c) K) Y S :=I.eH (σ:=Int×τ) B N m st ds so (λp=>∃k:Nat,p.1=k/\k<=z/\J k p) (λp=>z-p.1.toNat) (0,t0) ⟨0,rfl,aF_ _,h0⟩ a hC λ(i,t) ⟨k,b,d,e⟩=>h i k t b d e
theorem cO{τ:Type}{z:Nat}{st:Int×τ->List (Nat×AV)}{so:Int×τ->List (Nat×Ob)}{J:Nat->Int×τ->Prop}(s:Int×τ)(m:List (Nat×Nat))(k:Nat)(a:J k s)(hC:Canon B N m Y S (st s) ds (so s):=by exact cz)(hi:s.1=k:=by first|omega|simp only;omega)(b:k<=z:=by omega)(c:z-s.1.toNat<q:=by first|omega|simp only;omega):I P U rd n (E1 P U rd n B N st ds so (λp=>∃k:Nat,p.1=k/\k<=z/\J k p) (λp=>z-p.1.toNat) Q K q) (.out .normal []) Y S:=I.bu s m ⟨k,hi,b,a⟩ c hC
end
section
attribute [local irreducible] aq aG D I
def aC{l:List T}{k:Nat}(h:k<l.length):∃x,l[k]?=some x/\l.drop k=x::l.drop (k+1):=⟨l[k],ax_ h,bM_ h⟩
def aZ{l:List T}{k:Nat}{x:T}(h:l[k]?=some x):x∈l:=as_ h
theorem Gi{a b:Int}(h:jy a b=0):a=b:=by grind[jy]
theorem asw(x y z:Int):ad U 193 [aQ .plain aH false [x,y,z]] (iv (Bj [x,y,z])):=an4 [x,y,z] (by simp[RB])
theorem abv:jv [] []=0:=by simp[jv,jy]
theorem Wj(h:∀x∈a,∀y,x.ok->y.ok->ad U 292 [tm O x,tm O y] (iv (fJ x y)))(j:dO a)(n:dO b)(r:a.length<=1099511627776)(s:a.length=b.length):ad U 320 [tl O a,tl O b] (iv (jv a b)):=by
 refine st ass yM .v ?_;repeat' first|refine lg yM λm t=>?_
 refine bL 0 0 [] (λi=>[(0,tl O a),(1,tl O b),(8,.v (.int .i64 m)),(9,.v (.int .i64 i))]) [] (λ_=>[]) a.length (λk=>jv a b=jv (a.drop k) (b.drop k)) aE λi k e u f=>?_;refine H yM ?_;by_cases o:k<a.length
 ·let⟨x,c,p⟩:=aC o;let⟨y,g,q⟩:=aC (show k<b.length by omega);rw[p,q,jv,fP]at f;repeat' first|refine og yM (D.ind rfl rfl (cG (l:=a) e c) cH) ?_|refine og yM (D.ind rfl rfl (cG (l:=b) e g) cH) ?_|refine ig yM (pl (h x (aZ c) y (j.mem x (aZ c)) (n.mem y (aZ g)))) λ_ _=>?_|refine cg yM (λd=>?_) λd=>?_|refine ag yM λ_ _=>?_|refine xG yM ?_|refine rG yM ?_|refine fq ?_
  grind[dA];subst_vars;rw[if_pos Z]at f;refine I.bu _ [] ?_ ?_ cq;grind;omega;omega
 ·skip;repeat' first|refine cg yM (λd=>?_) λd=>?_|refine xG yM ?_|refine fq ?_
  omega;grind[abv,dA]
theorem OX(x y:Tm)(c:x.ok)(d:y.ok):ad U 292 [tm O x,tm O y] (iv (fJ x y)):=by
 revert y c d;refine Tm.ind (p:=λx=>∀y:Tm,x.ok->y.ok->ad U 292 [tm O x,tm O y] (iv (fJ x y))) ?_ x;intro k i n a h y c d;let⟨e,j,f⟩:=c.out;let⟨l,o,g⟩:=d.out;let⟨s,t,u,q⟩:=y;dsimp only at e j f l o g;rw[fJ];dsimp only;refine st asr H6 .v ?_;repeat' first|refine ig H6 (pl (an0 _)) λ_ _=>?_|refine ig H6 (pl (Qy _ _)) λ_ _=>?_|refine ig H6 (pl (an3 _ _)) λ_ _=>?_|refine ig H6 (pl (Wj (a:=a) (b:=q) h f g e (by grind[Gi]))) λ_ _=>?_|refine ig H6 (D.qu rfl (asw _ _ _) ⟨a8 _,trivial⟩ ⟨Wk.sl,trivial⟩) λ_ _=>?_|refine cg H6 (λr=>?_) λr=>?_|refine lg H6 λm v=>?_|refine fq ?_
 all_goals subst_vars;refine dA ?_;simp only[fP,Bj];(repeat' split)<;>first|rfl|omega
def asx:=aD func239 call239
def aeO:=[4,0,1,2,3]
def asy:=aD func299 call299
def Yp:=[2,3,4,0,1]
def asz:=aD func215 call215
def aeP:=[4,0,1,2,3]
def awO:=aD func86 call86
def g86:=[4,0,1]
def asA:=aD func295 call295
def Ns:=[2,3,5,4,0,1,12,21]
def asB:=aD func242 call242
def aeQ:=[4,0,1,2,3]
def awP:=aD func39 call39
def g39:=[2,3,4,0,1]
def Yq(x y:At):Int:=fP (yA x.n y.n) (fP (jy x.a.length y.a.length) (jv x.a y.a))
def nA(x y:Gl):Bool:=x.op==y.op&&x.n.toList==y.n.toList&&decide ((x.a.length:Int)=y.a.length)&&jv x.a y.a==0
theorem abw:∀(a b:List Tm)(k:Nat),a.length<=k\/b.length<=k->k<=a.length->k<=b.length->jv (a.drop k) (b.drop k)=jy a.length b.length:=by
 intro a b k h e f;rcases bF_ k a.length with c|c;·let⟨x,g,d⟩:=aC c;rw[d,ar_ (show b.length<=k by omega),jv];unfold jy;(repeat' split)<;>first|rfl|omega
 grind[jv,jy]
theorem TU(n:∀x∈a,∀y,x.ok->y.ok->ad U 222 [tm O x,tm O y] (iv (fJ x y)))(o:dO a)(p:dO b)(u:a.length<=1099511627776)(v:b.length<=1099511627776):ad U 153 [tl O a,tl O b] (iv (jv a b)):=by
 refine st ast nR .v ?_;repeat' first|exact dV c|refine cg nR (λc=>?_) λc=>?_|refine lg nR λm f=>?_|refine ag nR λ_ _=>?_|refine iJ λ_ _=>?_;refine H nR ?_|refine I.str rfl (D.cat rfl rfl Z) λ_ _=>?_;refine H nR ?_|refine xG nR ?_|refine rG nR ?_|refine fq ?_
 refine bL 0 0 [] (λi=>[(0,tl O a),(1,tl O b),(5,.v (.int .i64 i))]) [] (λ_=>[]) a.length (λk=>k<=b.length/\jv a b=jv (a.drop k) (b.drop k)) ⟨aE,aE⟩ λi k g q ⟨r,d⟩=>?_;refine H nR ?_;by_cases h:k<a.length/\k<b.length
 ·let⟨x,e,s⟩:=aC h.1;let⟨y,j,t⟩:=aC h.2;rw[s,t,jv,fP]at d;repeat' first|refine og nR (D.ind rfl rfl (cG (l:=a) g e) cH) ?_|refine og nR (D.ind rfl rfl (cG (l:=b) g j) cH) ?_|refine ig nR (pl (n x (aZ e) y (o.mem x (aZ e)) (p.mem y (aZ j)))) λ_ _=>?_|refine ig nR (pl (A4 _ _)) λ_ _=>?_|refine cg nR (λc=>?_) λc=>?_|refine lg nR λm f=>?_|refine ag nR λ_ _=>?_|refine xG nR ?_|refine rG nR ?_|refine fq ?_
  all_goals first|omega|subst_vars;rw[if_neg X]at d;exact dA d.symm|subst_vars;rw[if_pos X]at d;refine I.bu _ [] ?_ ?_ cq;grind;omega
 ·skip;repeat' first|refine ig nR (pl (A4 _ _)) λ_ _=>?_|refine cg nR (λc=>?_) λc=>?_|refine lg nR λm f=>?_|refine xG nR ?_|refine fq ?_
  all_goals first|omega|rw[abw a b k X q r]at d;subst_vars;exact dA d.symm
theorem Yr(k i b c:Int)(n d:ByteArray)(a a':List Tm)(j:∀x∈a,∀y:Tm,x.ok->y.ok->ad U 222 [tm O x,tm O y] (iv (fJ x y)))(l:a.length<=1099511627776)(m:dO a)(o:a'.length<=1099511627776)(p:dO a')(e:jb k=0):ad U 222 [tm O ⟨k,i,n,a⟩,tm O ⟨b,c,d,a'⟩] (iv (fJ ⟨k,i,n,a⟩ ⟨b,c,d,a'⟩)):=by
 have g:ad U 279 [tm O ⟨k,i,n,a⟩] (iv 0):=by rw[<-e];exact uY _
 have h:ad U 279 [tm O ⟨b,c,d,a'⟩] (iv (jb b)):=uY _;rw[fJ,e];dsimp only;refine st PC mU .v ?_;repeat' first|apply bh mU g|refine ig mU (pl h) λ_ _=>?_|refine ig mU (pl (A4 _ _)) λ_ _=>?_|exact dV f|refine cg mU (λf=>?_) λf=>?_|refine fq ?_
 all_goals subst_vars;refine dA ?_;simp only[fP,Bj,true_or,or_true,if_true];(repeat' split)<;>first|rfl|omega
theorem Yt(k i b c:Int)(n d:ByteArray)(a a':List Tm)(j:∀x∈a,∀y:Tm,x.ok->y.ok->ad U 222 [tm O x,tm O y] (iv (fJ x y)))(l:a.length<=1099511627776)(m:dO a)(o:a'.length<=1099511627776)(p:dO a')(e:jb k=1):ad U 222 [tm O ⟨k,i,n,a⟩,tm O ⟨b,c,d,a'⟩] (iv (fJ ⟨k,i,n,a⟩ ⟨b,c,d,a'⟩)):=by
 have g:ad U 279 [tm O ⟨k,i,n,a⟩] (iv 1):=by rw[<-e];exact uY _
 have h:ad U 279 [tm O ⟨b,c,d,a'⟩] (iv (jb b)):=uY _;rw[fJ,e];dsimp only;refine st PC mU .v ?_;repeat' first|apply bh mU g|refine ig mU (pl h) λ_ _=>?_|refine ig mU (pl (A4 _ _)) λ_ _=>?_|exact dV f|refine cg mU (λf=>?_) λf=>?_|refine fq ?_
 all_goals subst_vars;refine dA ?_;simp only[fP,Bj,true_or,or_true,if_true];(repeat' split)<;>first|rfl|omega
theorem Yu(k i c d:Int)(n e:ByteArray)(a a':List Tm)(h:∀x∈a,∀y:Tm,x.ok->y.ok->ad U 222 [tm O x,tm O y] (iv (fJ x y)))(j:a.length<=1099511627776)(l:dO a)(o:a'.length<=1099511627776)(p:dO a')(f:jb k=2):ad U 222 [tm O ⟨k,i,n,a⟩,tm O ⟨c,d,e,a'⟩] (iv (fJ ⟨k,i,n,a⟩ ⟨c,d,e,a'⟩)):=by
 have q:ad U 279 [tm O ⟨k,i,n,a⟩] (iv 2):=by rw[<-f];exact uY _
 have r:ad U 279 [tm O ⟨c,d,e,a'⟩] (iv (jb c)):=uY _;rw[fJ,f];dsimp only;refine st PC mU .v ?_;repeat' first|apply bh mU q|refine ig mU (pl r) λ_ _=>?_|refine ig mU (pl (A4 _ _)) λ_ _=>?_|refine ig mU (pl (Nq _ _)) λ_ _=>?_|refine ig mU (pl (TU (a:=a) (b:=a') h l p j o)) λ_ _=>?_|exact dV g|refine cg mU (λg=>?_) λg=>?_|refine lg mU λm s=>?_|refine fq ?_
 all_goals subst_vars;refine dA ?_;simp only[fP,Bj,true_or,or_true,if_true];(repeat' split)<;>first|rfl|omega
theorem Yv(k i b c:Int)(n d:ByteArray)(a a':List Tm)(j:∀x∈a,∀y:Tm,x.ok->y.ok->ad U 222 [tm O x,tm O y] (iv (fJ x y)))(l:a.length<=1099511627776)(m:dO a)(o:a'.length<=1099511627776)(p:dO a')(e:jb k=3):ad U 222 [tm O ⟨k,i,n,a⟩,tm O ⟨b,c,d,a'⟩] (iv (fJ ⟨k,i,n,a⟩ ⟨b,c,d,a'⟩)):=by
 have g:ad U 279 [tm O ⟨k,i,n,a⟩] (iv 3):=by rw[<-e];exact uY _
 have h:ad U 279 [tm O ⟨b,c,d,a'⟩] (iv (jb b)):=uY _;rw[fJ,e];dsimp only;refine st PC mU .v ?_;repeat' first|apply bh mU g|refine ig mU (pl h) λ_ _=>?_|refine ig mU (pl (A4 _ _)) λ_ _=>?_|refine ig mU (pl (Nq _ _)) λ_ _=>?_|exact dV f|refine cg mU (λf=>?_) λf=>?_|refine fq ?_
 all_goals subst_vars;refine dA ?_;simp only[fP,Bj,true_or,or_true,if_true];(repeat' split)<;>first|rfl|omega
theorem aeR(k:Int):jb k=0\/jb k=1\/jb k=2\/jb k=3:=by grind[jb]
theorem Mj(x y:Tm)(b:x.ok)(c:y.ok):ad U 222 [tm O x,tm O y] (iv (fJ x y)):=by revert y b c;refine Tm.ind (p:=λx=>∀y:Tm,x.ok->y.ok->ad U 222 [tm O x,tm O y] (iv (fJ x y))) ?_ x;intro k i n a d y b c;let⟨e,f,g⟩:=b.out;let⟨j,l,m⟩:=c.out;let⟨o,q,r,s⟩:=y;rcases aeR k with h|h|h|h;grind[Yr];grind[Yt];grind[Yu];grind[Yv]
def an_(a b:List Tm)(c:dO a)(d:dO b)(e:a.length<=1099511627776)(f:a.length=b.length):ad U 320 [tl O a,tl O b] (iv (jv a b)):=Wj (λx _ y g h=>OX x y g h) c d e f
def Wl(a b:List Tm)(c:dO a)(d:dO b)(e:a.length<=1099511627776)(f:b.length<=1099511627776):ad U 153 [tl O a,tl O b] (iv (jv a b)):=TU (λx _ y g h=>Mj x y g h) c d e f
theorem Ti(x y:Tm)(a:x.ok)(b:y.ok):ad U 239 [tm O x,tm O y] (.v (.bool (fJ x y==0))):=by
 refine st asx aeO .v ?_;repeat' first|refine ig aeO (pl (OX (O:=O) x y a b)) λ_ _=>?_|refine cg aeO (λc=>?_) λc=>?_|refine fq ?_
 all_goals refine aL.of_eq ?_;simp_all
theorem M1(x y:Tm)(a:x.ok)(b:y.ok):ad U 215 [tm O x,tm O y] (.v (.bool (fJ x y==0))):=by
 refine st asz aeP .v ?_;repeat' first|refine ig aeP (pl (Mj (O:=O) x y a b)) λ_ _=>?_|refine cg aeP (λc=>?_) λc=>?_|refine fq ?_
 all_goals refine aL.of_eq ?_;simp_all
theorem abx(a b:List Tm)(c:dO a)(d:dO b)(e:a.length<=1099511627776)(f:b.length<=1099511627776):ad U 86 [tl O a,tl O b] (.v (.bool (jv a b==0))):=by
 refine st awO g86 .v ?_;repeat' first|refine ig g86 (pl (Wl a b c d e f)) λ_ _=>?_|refine cg g86 (λg=>?_) λg=>?_|refine fq ?_
 all_goals refine aL.of_eq ?_;simp_all
def At.ok(x:At):Prop:=x.a.length<=1099511627776/\dO x.a
def Gl.ok(x:Gl):Prop:=x.a.length<=1099511627776/\dO x.a
theorem apL(x y:Int):ad U 193 [aQ .plain aH false [x,y]] (iv (Bj [x,y])):=an4 [x,y] (by simp[RB])
theorem Us(x y:At)(f:x.ok)(g:y.ok):ad U 295 [at_ O x,at_ O y] (iv (Yq x y)):=by
 let⟨b,c⟩:=f;let⟨d,e⟩:=g;let⟨n,a⟩:=x;let⟨j,h⟩:=y;dsimp only at b c d e;rw[Yq];dsimp only;refine st asA Ns .v ?_;repeat' first|refine ig Ns (pl (A4 _ _)) λ_ _=>?_|refine ig Ns (pl (Nq _ _)) λ_ _=>?_|refine ig Ns (pl (Wl a h c e b d)) λ_ _=>?_|refine cg Ns (λi=>?_) λi=>?_|refine lg Ns λm k=>?_|refine fq ?_
 all_goals subst_vars;refine dA ?_;simp only[fP,Bj,true_or,or_true,if_true];(repeat' split)<;>first|rfl|omega
theorem aeS(x y:At)(a:x.ok)(b:y.ok):ad U 242 [at_ O x,at_ O y] (.v (.bool (Yq x y==0))):=by
 refine st asB aeQ .v ?_;repeat' first|refine ig aeQ (pl (Us (O:=O) x y a b)) λ_ _=>?_|refine cg aeQ (λc=>?_) λc=>?_|refine fq ?_
 all_goals refine aL.of_eq ?_;simp_all
theorem aiI(x y:Gl)(e:x.ok)(f:y.ok):ad U 299 [gl O x,gl O y] (.v (.bool (nA x y))):=by
 let⟨b,c⟩:=e;let⟨g,d⟩:=f;let⟨o,n,a⟩:=x;let⟨j,k,h⟩:=y;dsimp only at b c g d;rw[nA];dsimp only;refine st asy Yp .v ?_;repeat' first|refine ig Yp (pl (an_ a h c d b X)) λ_ _=>?_|refine cg Yp (λi=>?_) λi=>?_|refine lg Yp λm l=>?_|refine fq ?_
 all_goals refine aL.of_eq ?_;subst_vars;simp_all
theorem adL(x y:Gl)(f:x.ok)(g:y.ok):ad U 39 [gl O x,gl O y] (.v (.bool (nA x y))):=by
 let⟨b,c⟩:=f;let⟨d,e⟩:=g;let⟨o,n,a⟩:=x;let⟨j,k,h⟩:=y;dsimp only at b c d e;rw[nA];dsimp only;refine st awP g39 .v ?_;repeat' first|refine bg g39 (pl (abx a h c e b d)) (λ_=>?_) λ_=>?_|refine cg g39 (λi=>?_) λi=>?_|refine lg g39 λm l=>?_|refine fq ?_
 all_goals refine aL.of_eq ?_;subst_vars;simp_all
end
section
variable{P:Program}
theorem D.ext{f:QO}{xs:List Value}(h:f.ev Y.tm=.v (.func (.func g) #[] #[]))(e:aZ9.map (·.ev Y.tm)=xs.map .v)(i:∀w:World,(callFunc g xs.toArray).run P w=.ok (.value v) w):D P U false (.call f aZ9) Y S (.v v) S:=by
 refine D.run λn o j=>?_;obtain⟨c,u,k,m,rfl,rfl⟩:=my j;rw[jQ]at e;rw[aY]at h;refine bt.quiet λA C q w E a=>?_;have b:=a.ev u;rw[h]at b;have p:=cF b;have key:∀(l:List Operand)(xs:List Value),l.map Y.ev=xs.map AV.v->l.map q.eval=xs:=by intro l;induction l with
  |nil =>intro xs h;cases xs with|nil=>rfl|cons x xs=>cases h
  |cons y l r =>intro xs h;cases xs with|nil=>cases h|cons x xs =>rw[aK_,aK_]at h;injection h with s t;have d:=a.ev y;rw[s]at d;rw[aK_,cF d,r xs t]
 have z:c.args.map q.eval=xs.toArray:=Z;refine⟨v,?_,.v⟩;have B:=i w;simp[execOp,k,m,p,z,B,resolve,invoke,Deferred.ofValue]
end
def H_(P:Program)(U:World)(f:FuncId)(args:List AV)(S:ao)(ch:List PanicEntry)(S':ao):Prop :=(∀(b:Array Value)(w:World),(callFunc f b).run P w=.ok (.enter f b) w) /\∀(F:Fence)(m:Nat)(A:Nat->Prop)(g:Gh)(a:Array Value)(w:World),mu F->St U A g S w->nI g w args a ->CallsIn F m P f a w λe c=>∃d,e=.panicked ch/\St U A d S' c/\Ext A g w d c
def za(P:Program)(U:World)(f:FuncId)(args:List AV)(ch:List PanicEntry):Prop:=∃S',H_ P U f args ao.none_ ch S'
section
variable{P:Program}{rd:Bool}{l:List QI}
theorem za.adP(h:za P U f args ch)(r:∀a∈args,Pure a)(S:ao)(s:args0.length=args.length)(t:∀(i:Nat) (a0 a:AV),args0[i]?=some a0->args[i]?=some a->aL S a0 a):H_ P U f args0 S ch S:=by
 let⟨S1,u,v⟩:=h;refine⟨u,λF m A g c w y d j=>?_⟩;have l:∀b q,(g.still S).fz b q->b<w.heap.size:=by rintro b q(n|⟨k,M,rows,fz,ex,z,B,rfl,n⟩);exact d.dU b q n;exact(d.dh k _ z B).2.1
 refine(v F m _ _ c w y (d.inner (g.still S).fz (λ_ _ h=>.inl h) l) ⟨j.1.trans s,λi a x o C=>?_⟩).mono ?_;have E:i<args0.length:=Z;have p:=ax_ E;exact aT.pure (g:=g.still S) (g':=⟨g.ob,g.cp,λ_=>False,(g.still S).fz,g.fo⟩) (λ_ _ h=>h) (λ_ _ _=>rfl) ((t i _ a p o).rep d (j.2 i _ x p C)) (r a (as_ o));rintro e Q⟨R,rfl,G,J⟩;let⟨K,L⟩:=d.outer (λ_ _ h=>.inl h) l G J;exact⟨_,rfl,L,K⟩
def za.QX(h:za P U f args ch)(b:iZ args){S:ao}(a:jl S args0 args):H_ P U f args0 S ch S:=h.adP b.all S a.len a.at
theorem aeT{o:Oper}{c:Call}{f:Operand}{b:FuncId}(k:o.op=.call c)(l:c.callee=.value f)(p:∀(A:Nat->Prop) (g:Gh) (a:Act) (w:World),St U A g S w->cR g w n Y a->∃first cap,a.eval f=.func (.func b) first cap/\nI g w args (first++c.args.map a.eval++cap))(h:H_ P U b args S ch S'):OpP P U n o Y S ch S':=by
 intro F m A g a w next Q d i q r;rw[Oper.semAt_eq _ _ _ λB e=>Z];let⟨first,cap,s,t⟩:=p A g a w i q;have u:(execOp a.eval o).run P w=.ok (.enter b (first++c.args.map a.eval++cap)) w:=by simp only[execOp,k,resolve,l,s,Deferred.ofValue,Sem.run_bind,Sem.run_pure,Result.andThen_ok,invoke];exact h.1 _ w
 rw[u,Oper.uponIn_enter];refine⟨λj=>(by rw[d.2.1]at j;cases j),(h.2 F (m-1) A g _ w d i t).mono ?_⟩;rintro e v⟨x,rfl,y,z⟩;exact r v x y z
theorem An.call{f:QO}(h:fO (f.ev Y.tm) (aZ9.map (·.ev Y.tm))=some (g,args))(k:H_ P U g args S ch S'):An P U (.call f aZ9) Y S ch S':=by intro n o l;obtain⟨c,u,m,p,rfl,rfl⟩:=my l;rw[jQ,aY]at h;unfold fO at h;refine aeT m p (λA C a w E d=>?_) k;have b:=d.ev u;split at h;rename_i q x y e;split at h;rename_i F G;injection h with h;injection h with i j;subst i j;rw[e]at b;have r:x=#[]:=Z;have s:y=#[]:=Z;subst r s;refine⟨#[],#[],cF b,?_⟩;rw[Array.empty_append,Array.append_empty];exact um d c.args;grind;rename_i q x y e;injection h with h;injection h with i j;subst i j;rw[e]at b;let⟨t,ds,v,z,B⟩:=Gy b;exact⟨t,ds,v,m9 (m9 z (um d c.args)) B⟩;grind
def An.bU{f:QO}(h:fO (f.ev Y.tm) (aZ9.map (·.ev Y.tm))=some (g,args0))(a:za P U g args ch)(b:iZ args)(c:jl S args0 args):An P U (.call f aZ9) Y S ch S:=An.call h (a.QX b c)
def I.I_(a:bJ Y.tm i.g=some true)(h:An P U i.q Y S ch S')(k:I P U rd n Q (.out (.panic ch) K) Y S'):I P U rd n Q (.bp false (i::l) K) Y S:=lz.I_ a h k
def toV:AV->Option Value
 |.v x=>some x|.agg l=>match toVs l with|some cs=>some (.agg cs.toArray)|none=>none
 |_=>none where toVs:List AV->Option (List Value)|[]=>some []|a::l=>match toV a,toVs l with|some x,some cs=>some (x::cs)|_,_=>none
theorem toVs_at:∀{l:List AV}{cs:List Value},toV.toVs l=some cs->cs.length=l.length/\∀(i:Nat)(a:AV),l[i]?=some a->∃x,cs[i]?=some x/\toV a=some x
 |[],cs,h=>by simp only[toV.toVs,oI_]at h;subst h;exact⟨rfl,λi a h=>Z⟩|a::l,cs,h=>by
  simp only[toV.toVs]at h;split at h;rename_i x d e f;cases oJ_ h;let⟨j,g⟩:=toVs_at f;refine⟨Z,λi b c=>?_⟩;cases i with|zero=>simp at c;subst c;exact⟨x,rfl,e⟩|succ i=>simp at c;simpa using g i b c
  grind
theorem CH{g:Gh}{w:World}{a:AV}{y:Value}(d:aT g w a y):∀{x:Value},toV a=some x->y=x:=by induction d with|v=>intro x h;simp only[toV,oI_]at h;exact h|@agg l q r h e =>intro x b;simp only[toV]at b;split at b;rename_i f j;cases oJ_ b;let⟨s,k⟩:=toVs_at j;congr 1;apply Array.ext;grind;intro i m t;have c:i<l.length:=Z;let⟨x,n,o⟩:=k i _ (ax_ c);have p:=e i _ _ (ax_ c) (aM_ m) o;rw[p];have:=aC_.1 n;simp[<-this.2];grind|_=>intro x h;simp[toV]at h
theorem aeU{o:Op}{t:Nat}(h:res P.toTables o=some (.QG t x)):∃u,o=.makeInterface t u/\x=qo u:=by cases o with|makeInterface c u =>simp only[res,oI_]at h;injection h with a b;subst a;exact⟨u,rfl,b.symm⟩|_ =>
  simp only[res]at h;repeat' split at h
  all_goals cases h
def isIf(T:Tables)(t:TypeId):Bool:=match jc T t with|some (.interface _)=>true|some _=>false|none=>true
theorem D.QG{t:Nat}(f:toV (x.ev Y.tm)=some v)(b:isIf P.toTables t=false):D P U false (.QG t x) Y S (.v (.iface t v)) S:=by refine D.run λn o h=>?_;obtain⟨u,i,rfl⟩:=aeU h;rw[aY]at f;refine bt.quiet λA g a w l j=>⟨.iface t v,?_,.v⟩;have e:=CH (j.ev u) f;unfold isIf at b;rw[cU]at b;simp only[execOp,i,e,Instr.makeInterface];cases c:P.underlying t with|none=>rw[c]at b;cases b|some d =>
  have k:(underlying t).run P w=.ok d w:=by simp[underlying,c]
  rw[c]at b;cases d<;>simp_all
theorem ai5{o:Op}(h:res P.toTables o=some (.I_ x)):∃u,o=.panic u/\x=qo u:=by cases o with|panic u =>simp only[res,oI_]at h;injection h with a;exact⟨u,rfl,a.symm⟩|_ =>
  simp only[res]at h;repeat' split at h
  all_goals cases h
theorem An.I_{t:TypeId}(b:x.ev Y.tm=.v (.iface t v)):An P U (.I_ x) Y S [{v:=.iface t v,recovered:=false }] S:=by
 intro n o c;obtain⟨u,d,rfl⟩:=ai5 c;rw[aY]at b;intro F m A g a w next Q k f h i;rw[Oper.semAt_eq _ _ _ λl e=>Z];have e:=h.ev u;rw[b]at e;have e:=cF e;have j:(execOp a.eval o).run P w=.halt (.panic (.iface t v)) w:=by simp[execOp,d,e,Instr.panic,goPanic]
 rw[j,Oper.uponIn_panic];exact i w g f (Ext.refl ..)
def Gu(qs:List QR)(R:AV->ao->Prop)(E:List PanicEntry->ao->Prop)(ex:Exit)(Y:AA)(S:ao):Prop:=match ex with|.panic ch=>Y.df=[]/\E ch S|ex=>vp qs R ex Y S
theorem I.akm(a:O7 ex=true)(h:MM qs ex Y S=some (r,S'))(k:R r S'):I P U rd n (Gu qs R E) (.out ex []) Y S:=by show Gu qs R E ex Y S;cases ex<;>first|exact⟨r,S',h,k⟩|cases a
def I.akl(a:Y.df=[])(k:E ch S):I P U rd n (Gu qs R E) (.out (.panic ch) []) Y S:=⟨a,k⟩
theorem H_.aoa{fn:Func}{c:Code}(k:P.funcs[f]?=some fn)(l:fn.body=some c)(o:∀(xs:Array Value) (w:World),(callFunc f xs).run P w=.ok (.enter f xs) w)(p:fn.ntmps=n)(q:args.length<=n)(r:aI.df=[])(h:eE P U false n c ⟨qc args,[]⟩ S (.panic ch) aI S'):H_ P U f args S ch S':=by
 refine⟨o,λF m A g a w i s t=>?_⟩;have key:CallsIn F.plain m P f a w λe b=>∃d,e=.panicked ch/\St U A d S' b/\Ext A g w d b:=by refine callsIn_of_wp_marks k l (i.1 f) ?_ rfl;rw[p];refine wpIn_mono (h F.plain m A g _ w i.plain rfl s (D4 t q)) ?_;rintro u j b⟨rfl,d,v,x,y⟩;show LeavesInM F.plain m P fn j.tmps _ j.defers (.panicking ch) b;rw[x.df,r];exact⟨d,rfl,v,y⟩
 exact key
theorem qx.afs{q:QC×List QR}{b:Bool}(F:qx P f q n)(i:args.length<=n)(p:Pure r)(h:I P U false n (Gu q.2 (λa S=>b=true/\aL S a r) λd S=>b=false/\d=ch) (.run q.1 []) ⟨qc args,[]⟩ ao.none_):(b=true->aq P U f args r)/\(b=false->za P U f args ch):=by
 let⟨fn,c,j,k,l,s,t,u,m⟩:=F.out;let⟨ex,aI,S',o,g⟩:=h c t u;have g:Gu q.2 (λa S=>b=true/\aL S a r) (λd S=>b=false/\d=ch) ex aI S':=g;have nrm:vp q.2 (λa S=>b=true/\aL S a r) ex aI S'->(b=true->aq P U f args r)/\(b=false->za P U f args ch):=λv=>by let⟨a,S1,w,x,y⟩:=v;have z:vp q.2 (λa S=>aL S a r) ex aI S':=⟨a,S1,w,y⟩;exact⟨λ_=>aq.of_wp j k m l i p ⟨ex,aI,S',o,TD s z⟩,λe=>absurd (x.symm.trans e) aE⟩
 cases ex with|panic d =>obtain⟨A,B,rfl⟩:=g;exact⟨λe=>absurd (B.symm.trans e) aE,λ_=>⟨S',H_.aoa j k m l i A o⟩⟩|_=>exact nrm g
def O6(P:Program)(U:World)(f:FuncId)(args:List AV)(b:Bool)(r:AV)(ch:List PanicEntry):Prop:=(b=true->aq P U f args r)/\(b=false->za P U f args ch)
theorem I.afv{b:Bool}{d:Option Nat}{gd:Option (Nat×Bool)}{f:QO}(a:bJ Y.tm gd=some true)(h:fO (f.ev Y.tm) (aZ9.map (·.ev Y.tm))=some (g,args0))(c:O6 P U g args b r ch)(e:iZ args)(hs:Ct r)(i:jl S args0 args)(j:b=true->I P U rd n Q (.bp false l K) (bX d Y r) S)(k:b=false->I P U rd n Q (.out (.panic ch) K) Y S):I P U rd n Q (.bp false (⟨d,gd,.call f aZ9⟩::l) K) Y S:=by cases b with|true=>exact I.op a (D.tU h (c.1 rfl) e hs i) (j rfl)|false=>exact I.I_ a (An.bU h (c.2 rfl) e i) (k rfl)
end
structure PS where
 N:aW
 vs:List (Int×Int)js:JS
def kG(s:PS)(t:Tm)(l:List Nat):PS :=⟨s.N++[(t,l)],if t.k=1 then iA s.vs t.i s.N.length else s.vs,⟨s.js.up++[s.N.length],if t.k=1 then s.js.sh else iA s.js.sh s.N.length s.N.length,if t.k=1 then iA s.js.ls s.N.length t.i else s.js.ls⟩⟩
mutual def cC:PS->Tm->PS×Nat|s,⟨k,i,n,a⟩=>match if k=1 then aN s.vs i else none with|some j=>(s,j.toNat)|none=>(kG (eh s a).1 ⟨k,i,n,a⟩ (eh s a).2,(eh s a).1.N.length)def eh:PS->List Tm->PS×List Nat|s,[]=>(s,[])|s,x::l=>((eh (cC s x).1 l).1,(cC s x).2::(eh (cC s x).1 l).2)end
structure sW(s:PS):Prop where
 vs:∀v,aN s.vs v=(oD s.N v).map Int.ofNat
 up:s.js.up.length=s.N.length
 nd:(s.vs.map (·.1)).Nodup
theorem xE{T:Type}:∀{l:List (Int×T)}{i:Int},i∈l.map (·.1)↔∃v,aN l i=some v|[],i=>by simp[aN]|p::l,i=>by rw[aK_,al_,aN];by_cases e:p.1=i;rw[if_pos e];simp[e];rw[if_neg e,<-xE];simp[Ne.symm e]
theorem BL{T:Type}:∀{l:List (Int×T)}{i:Int}{v:T},aN l i=none->iA l i v=l++[(i,v)]|[],_,_,_=>rfl|p::l,i,v,h=>by rw[aN]at h;rw[iA];by_cases e:p.1=i;rw[if_pos e]at h;cases h;rw[if_neg e]at h;rw[if_neg e,BL h];rfl
structure Grown(s s':PS):Prop where
 le:s.N.length<=s'.N.length
 upl:s'.js.up.length=s.js.up.length+(s'.N.length-s.N.length)kQ:∀i,i<s.js.up.length->cD s'.js.up i=cD s.js.up i
 rK:∀i,s.js.up.length<=i->cD s'.js.up i=i
 ou:∀C:Nat,C<s.N.length->aN s'.js.sh C=aN s.js.sh C
 xY:∀C:Nat,s.N.length<=C->C<s'.N.length->aN s'.js.sh C=if(tn s'.N C).k=1 then aN s.js.sh C else some (C:Int)CD:(∀C i,aN s.js.sh C=some i->0<=i)->∀C i,aN s'.js.sh C=some i->0<=i
 nG:∀C:Nat,C<s.N.length->aN s'.js.ls C=aN s.js.ls C
 xZ:∀C:Nat,s.N.length<=C->C<s'.N.length->aN s'.js.ls C=if(tn s'.N C).k=1 then some (tn s'.N C).i else aN s.js.ls C
 Lx:∀C:Nat,s'.N.length<=C->aN s'.js.sh C=aN s.js.sh C
 G7:∀C:Nat,s'.N.length<=C->aN s'.js.ls C=aN s.js.ls C
 pre:∀i,i<s.N.length->s'.N[i]?=s.N[i]?
theorem Wm{up:List Nat}{i:Nat}(h:up.length<=i):cD up i=i:=by unfold cD;rw[cC_ h];rfl
theorem Grown.refl(s:PS):Grown s s:=⟨aj_ _,X,λ_ _=>rfl,λi h=>Wm h,λ_ _=>rfl,λC a b=>X,λh=>h,λ_ _=>rfl,λC a b=>X,λ_ _=>rfl,λ_ _=>rfl,λ_ _=>rfl⟩
theorem Grown.trans{s t u:PS}(h:Grown s t)(k:Grown t u):Grown s u:=by have g:=h.le;have k0:=k.le;have j:=h.upl;have l:=k.upl;refine⟨X,X,λi b=>(k.kQ i X).trans (h.kQ i b),λi b=>?_,λC a=>(k.ou C X).trans (h.ou C a),λC c d=>?_,λf=>k.CD (h.CD f),λC a=>(k.nG C X).trans (h.nG C a),λC c d=>?_,λC a=>(k.Lx C a).trans (h.Lx C X),λC a=>(k.G7 C a).trans (h.G7 C X),λi b=>(k.pre i X).trans (h.pre i b)⟩;by_cases e:i<t.js.up.length;rw[k.kQ i e,h.rK i b];exact k.rK i X;by_cases e:C<t.N.length;rw[k.ou C e,h.xY C c e,(fY k.pre e).1];rw[k.xY C X d,h.Lx C X];by_cases e:C<t.N.length;rw[k.nG C e,h.xZ C c e,(fY k.pre e).1];rw[k.xZ C X d,h.G7 C X]
theorem Mk{s:PS}(g:sW s)(t:Tm)(l:List Nat):Grown s (kG s t l):=by
 have j:=g.up;have c:∀i,i<s.N.length->(s.N++[(t,l)])[i]?=s.N[i]?:=λi b=>bj_ b;refine⟨by simp[kG],by simp[kG],λi b=>?_,λi b=>?_,λC a=>?_,λC k d=>?_,λf C i=>?_,λC a=>?_,λC k d=>?_,λC a=>?_,λC a=>?_,c⟩;simp only[kG,cD];rw[bj_ b];simp only[kG];by_cases e:i=s.js.up.length;subst e;unfold cD;rw[br_ (aj_ _)];simp[j];exact Wm (by simp;omega);simp only[kG];split;rfl;rw[dm,if_neg X];have e:C=s.N.length:=by simp[kG]at d;omega
 subst e;simp only[kG,nb.1];split;rfl;rw[dm,if_pos rfl];simp only[kG];split;exact f C i;rw[dm];split;intro h;cases oJ_ h;omega;exact f C i;simp only[kG];split;rw[dm,if_neg X];rfl;have e:C=s.N.length:=by simp[kG]at d;omega
 subst e;simp only[kG,nb.1];split;rw[dm,if_pos rfl];rfl;simp only[kG]at a⊢;rw[ay_,bf_]at a;split;rfl;rw[dm,if_neg X];simp only[kG]at a⊢;rw[ay_,bf_]at a;split;rw[dm,if_neg X];rfl
theorem aby{N:aW}{t:Tm}{v:Int}(h:t.k=1->oD N t.i=none):oD (N++[(t,l)]) v=if t.k=1/\t.i=v then some N.length else oD N v:=by unfold oD;rw[List.findIdx?_append];cases a:List.findIdx? (λx=>x.1.k==1&&x.1.i==v) N with|some j =>rw[if_neg];rfl;rintro⟨c,rfl⟩;have:=h c;unfold oD at this;rw[this]at a;cases a|none =>
  by_cases e:t.k=1/\t.i=v;rw[if_pos e];simp[e.1,e.2];rw[if_neg e];have:(t.k==1&&t.i==v)=false:=by rw[du_];by_cases b:t.k=1;exact .inr (by simpa usingλd=>e ⟨b,d⟩);exact .inl (by simpa using b)
  simp[this]
theorem OY{s:PS}(c:sW s){t:Tm}(h:t.k=1->oD s.N t.i=none):sW (kG s t l):=by
 refine⟨λv=>?_,by simp[kG,c.up],?_⟩;rotate_left;simp only[kG];split;rename_i e;have f:aN s.vs t.i=none:=by rw[c.vs,h e];rfl
 rw[BL f,ba_,List.nodup_append];refine⟨c.nd,aE,λa g b i d=>?_⟩;simp only[aK_,aY_,ae_]at i;rw[d,i,xE]at g;let⟨x,j⟩:=g;rw[f]at j;cases j;exact c.nd;simp only[kG];rw[aby h];by_cases e:t.k=1;rw[if_pos e,dm];by_cases d:t.i=v;rw[if_pos d,if_pos ⟨e,d⟩];rfl;rw[if_neg d,if_neg λh=>d h.2];exact c.vs v;rw[if_neg e,if_neg λh=>e h.1];exact c.vs v
mutual theorem uD:∀(s:PS)(t:Tm),sW s->e_ t->(cC s t).1.N=(cu s.N t).1/\(cC s t).2=(cu s.N t).2/\sW (cC s t).1/\Grown s (cC s t).1
 |s,⟨k,i,n,a⟩,b,c=>by
  rw[cC,cu];by_cases d:k=1;subst d;rw[e_,if_pos rfl]at c;obtain⟨rfl,rfl⟩:=c;simp only[if_true,b.vs];cases o:oD s.N i with|some j=>exact⟨rfl,aE,b,.refl s⟩|none =>simp only[bw_,eh,cy];exact⟨by simp[kG],aE,OY b λ_=>o,Mk b _ _⟩
  simp only[if_neg d];rw[e_,if_neg d]at c;let⟨f,h,g,m⟩:=Kg s a b c.1;refine⟨by simp only[kG,f,h],by rw[f],OY g λe=>absurd e d,m.trans (Mk g _ _)⟩;theorem Kg:∀(s:PS)(l:List Tm),sW s->fy l->(eh s l).1.N=(cy s.N l).1/\(eh s l).2=(cy s.N l).2/\sW (eh s l).1/\Grown s (eh s l).1|s,[],b,_=>by rw[eh,cy];exact⟨rfl,rfl,b,.refl s⟩|s,x::l,b,c=>by rw[fy]at c;let⟨f,h,g,m⟩:=uD s x b c.1;let⟨p,q,k3,k4⟩:=Kg (cC s x).1 l g c.2;rw[eh,cy];simp only[p,q,f,h];exact⟨trivial,trivial,k3,m.trans k4⟩;end
section
variable{E:List (Tm×Tm)}
theorem rp.grow{s f:PS}(h:rp E s.N zzD c [] s.js)(G:∀p∈zzD,p.1<s.N.length/\p.2<s.N.length)(m:yw s.N f.N)(a:Grown s f){x y:Nat}(J:x<f.N.length)(K:y<f.N.length)(L:(tn f.N x,tn f.N y)∈E):rp E f.N ((x,y)::zzD) (λi=>if i<s.N.length then c i else i) [(x,y)] f.js:=by
 let⟨M,q⟩:=h.uf;have T:=h.len;have V:=a.upl;have N:=a.le;have A:∀i,i<s.N.length->c i<s.N.length:=λi b=>by have:=(q.rt i X).2;omega
 have r:∀j C,C<s.N.length->(if j<s.N.length then c j else j)=C->j<s.N.length/\c j=C:=λj C k e=>by split at e;exact⟨by assumption,e⟩;omega
 have t:∀j C,s.N.length<=C->(if j<s.N.length then c j else j)=C->j=C:=λj C k e=>by split at e;rename_i P;have:=A j P;omega;exact e
 refine⟨h.gi.grow G m.g m.le m.pre (λi b=>⟨if_pos b,A i b⟩) (λi b=>if_neg X) J K L,⟨M,?_⟩,X,a.CD h.pos,λC k e=>?_,λC k e=>?_,λC k=>by rw[a.Lx C k];exact h.frs C X,λC k=>by rw[a.G7 C k];exact h.frl C X⟩;refine⟨λi b=>?_,λi b=>?_,λi b=>?_,λi b e=>?_,λi b e=>?_⟩;by_cases e:i<s.N.length;rw[a.kQ i X];have:=q.lt i X;omega;rw[a.rK i X];exact b;by_cases e:i<s.N.length;simp only[if_pos e];rw[a.kQ _ (by have:=A i e;omega)];have:=q.rt i X;exact⟨this.1,X⟩;simp only[if_neg e];exact⟨a.rK i X,b⟩;by_cases e:i<s.N.length;rw[a.kQ i X];have:=q.lt i X;simp only[if_pos e];rw[if_pos X];exact q.st i X;rw[a.rK i X];by_cases d:i<s.N.length;rw[a.kQ i X]at e;simp only[if_pos d];exact q.fx i X e;simp only[if_neg d];by_cases d:i<s.N.length;rw[a.kQ i X]at e⊢;exact q.ht i X e;exact absurd (a.rK i X) e;by_cases d:C<s.N.length;simp only[if_pos d]at e;have n:=h.CD C d e;show jO _ _ _ (dx f.js.sh C);have Q:dx f.js.sh C=dx s.js.sh C:=by unfold dx;rw[a.ou C d]
 rw[Q];cases w:dx s.js.sh C with|some i =>rw[w]at n;let⟨u,B,F⟩:=n;exact⟨X,by simp only[if_pos u];exact B,by rw[(fY m.pre u).1];exact F⟩|none =>rw[w]at n;intro i b l;let⟨o,z⟩:=r i C d l;rw[(fY m.pre o).1];exact n i o z
 show jO _ _ _ (dx f.js.sh C);unfold dx;rw[a.xY C X k];by_cases g:(tn f.N C).k=1;rw[if_pos g];rw[h.frs C X];intro i b l;rw[t i C X l];exact g;rw[if_neg g];exact⟨by simpa using k,by simp only[ds_];exact if_neg d,by simpa using g⟩;by_cases d:C<s.N.length;simp only[if_pos d]at e;have n:=h.aQ C d e;show xA _ _ _ (aN f.js.ls (C:Int));rw[a.nG C d];cases w:aN s.js.ls (C:Int) with|some v =>rw[w]at n;let⟨⟨j,u,B,F,R⟩,S⟩:=n;refine⟨⟨j,X,by simp only[if_pos u];exact B,by rw[(fY m.pre u).1];exact F,by rw[(fY m.pre u).1];exact R⟩,λi b l g=>?_⟩;let⟨o,z⟩:=r i C d l;rw[(fY m.pre o).1]at g⊢;exact S i o z g|none =>rw[w]at n;intro i b l;let⟨o,z⟩:=r i C d l;rw[(fY m.pre o).1];exact n i o z
 show xA _ _ _ (aN f.js.ls (C:Int));rw[a.xZ C X k];by_cases g:(tn f.N C).k=1;rw[if_pos g];refine⟨⟨C,k,if_neg d,g,rfl⟩,λi b l _=>?_⟩;rw[t i C X l];exact bs_ _;rw[if_neg g,h.frl C X];intro i b l;rw[t i C X l];exact g
end
end Go.Proofs.YtbdcmpknicjopaaGreat
