import Derived.Test.YtbdcmpknicjopaaGreatTp8
namespace Go.Proofs.YtbdcmpknicjopaaGreat
set_option linter.all false
set_option maxRecDepth 100000
open Go.RowKit Proofs.Tryz
variable{B N n q:Nat}{K:List gw}{O:Hd}{Q:Exit->AA->ah->Prop}{R:AV->ah->Prop}{S S' S1 S2:ah}{T:Type}{U Xe aE:AA}{Y:World}{a b:List Tm}{aZ9 bs:List QO}{args0:List AV}{c:Nat->Nat}{cf cf1 cf2:QF}{ch:List PanicEntry}{d:Option Nat}{dr e:Bool}{ds:List DE}{ex:Exit}{g:FuncId}{i:QI}{ik:IntKind}{qs:List QR}{r:AV}{v:Value}{x:QO}{zzD:List (Nat×Nat)}
variable{f:FuncId}{args:List AV}{l:List Nat}{E:List PanicEntry->ah->Prop}{P:Prop}
theorem aam(d:1<=B):kp B (.arr 1 [[.yl 0]] 0 true):=λrow b a c=>by cases ar_.1 b;cases ar_.1 c;exact .yl Z
theorem pq(h:P:=by first|exact .v|exact bZ _|exact cZ _|exact cQ _|exact a7 _|exact bI _|exact dQ _|exact eN _|exact eL _|exact pP _|exact bH _|exact ud _|exact jH _|exact yR _|exact uu _|exact Ct _|exact lh _|exact m8 _|exact qc _|assumption|fail):P:=h
theorem kz(h:P:=by repeat' first|exact trivial|refine⟨?_,?_⟩;first|exact .aJ .v|exact .lH|exact .jB rfl rfl|exact .o9 rfl rfl|exact .vA rfl rfl|exact .aJ (.pt (by decide))|exact .aJ (.gr (by decide))|exact .aJ (.mp (by decide))|exact .aJ yZ|exact .aJ (Pure.bu pq)|exact .aJ .u|exact .aJ (.ip λb a=>(by assumption:∀b∈_,Pure b) b a |>.bu)):P:=h
theorem cz(h:P:=by
 refine⟨?_,rfl,?_,rfl,rfl,rfl⟩;·repeat' first|exact trivial|refine⟨?_,?_⟩;first|exact .aJ rfl .v|exact .aJ rfl (.pt (by decide))|exact .lH rfl|exact .jB rfl rfl|exact .o9 rfl rfl|exact .vA rfl rfl|exact .new rfl rfl|exact .aJ rfl (.gr (by decide))|exact .aJ rfl (.mp (by decide))|exact .aJ rfl (.ob (by decide))|exact .aJ rfl (.yl (by decide))|exact .aJ rfl yZ|exact .aJ rfl (Pure.bu pq)|exact .aJ rfl .u|exact .aJ rfl (c (by decide))
 ·repeat' first|exact trivial|refine⟨?_,?_⟩;first|exact .inr rfl|refine .inl ⟨_,rfl,?_⟩;first|exact .same trivial|exact .same v_|exact .same (by assumption)|exact .same ago|exact .same Ht|exact .same HJ|exact .same (fX _)|exact .same (eV _)|exact .same (pf _)|exact .same (nM _)|exact .same (m_ _)|exact .same (m9 _)|exact .same (oS _)|exact .same (UU _)|exact .same (d _)|exact .same (rf (by omega))|exact .same (vB (by decide))|exact .same (aam (by decide))|exact .same (ko λx _=>JO x)|exact .same (ko λx _=>JN x)|exact .same (ko λx _=>e x)|exact .same (ko λx _ a b=>z8 x a b)|exact .arr ⟨kz,trivial⟩|exact .same (Tu λa b=>by obtain rfl:=ar_.1 b;exact pq)):P:=h
theorem pz(h:P:=by first|(repeat' first|exact trivial|refine⟨?_,?_⟩;exact pq);done|exact Qq (m:=60) rfl):P:=h
section
variable{P:Program}{rd:Bool}{y:Option (Nat×Bool)}{l:List QI}{f:QO}{args:List AV}
theorem pl(a:ao P Y g args r)(h:fk (f.ev U.tm) (bs.map (·.ev U.tm))=some (g,args):=by rfl)(b:ja args:=by exact pz):D P Y dr (.call f bs) U S r S:=D.bO h a b
theorem bk(G:List Nat)(a:ao P Y g args r)(k:H P Y rd n Q cf aE S1)(h:fk (f.ev U.tm) (bs.map (·.ev U.tm))=some (g,args):=by rfl)(b:ja args:=by exact pz)(c:bC U.tm y=some true:=by rfl)(e:nI G 400 (.bj dr l K) (bU d U r) S=(cf,aE,S1):=by conv=>lhs;cbv):H P Y rd n Q (.bj dr (⟨d,y,.call f bs⟩::l) K) U S:=H.op c (D.bO h a b) (H.xy G 400 e k)
end
section
variable{P:Program}{rd:Bool}{l:List QI}
theorem og(G:List Nat)(h:D P Y dr i.q U S r S')(k:H P Y rd n Q cf aE S1)(a:bC U.tm i.g=some true:=by rfl)(g:nI G 400 (.bj dr l K) (bU i.d U r) S'=(cf,aE,S1):=by conv=>lhs;cbv):H P Y rd n Q (.bj dr (i::l) K) U S:=H.op a h (H.xy G 400 g k)
theorem bg(G:List Nat)(h:D P Y dr i.q U S (.v (.bool e)) S')(a:e=true->H P Y rd n Q cf1 aE S1)(b:e=false->H P Y rd n Q cf2 Xe S2)(c:bC U.tm i.g=some true:=by rfl)(d:nI G 400 (.bj dr l K) (bU i.d U (.v (.bool true))) S'=(cf1,aE,S1):=by conv=>lhs;cbv)(g2:nI G 400 (.bj dr l K) (bU i.d U (.v (.bool false))) S'=(cf2,Xe,S2):=by conv=>lhs;cbv):H P Y rd n Q (.bj dr (i::l) K) U S:=H.bif c h (λe=>H.xy G 400 d (a e)) λe=>H.xy G 400 g2 (b e)
theorem cg(G:List Nat){a b:Prop}(c:a->H P Y rd n Q cf1 aE S1)(d:b->H P Y rd n Q cf2 Xe S2)(f:bC U.tm i.g=some true:=by rfl)(h:D P Y dr i.q U S (.v (.bool e)) S':=by exact D.bit rfl)(q1:(e=true)=a:=by conv=>lhs;(try simp only[bW]))(g:(e=false)=b:=by conv=>lhs;(try simp only[bW]))(j:nI G 400 (.bj dr l K) (bU i.d U (.v (.bool true))) S'=(cf1,aE,S1):=by conv=>lhs;cbv)(g2:nI G 400 (.bj dr l K) (bU i.d U (.v (.bool false))) S'=(cf2,Xe,S2):=by conv=>lhs;cbv):H P Y rd n Q (.bj dr (i::l) K) U S:=H.bif f h (λe=>H.xy G 400 j (c (q1 ▸ e))) λe=>H.xy G 400 g2 (d (g ▸ e))
theorem cn{a b:Prop}(c:a->H P Y rd n Q (.bj dr l K) (bU i.d U (.v (.bool true))) S')(d:b->H P Y rd n Q (.bj dr l K) (bU i.d U (.v (.bool false))) S')(f:bC U.tm i.g=some true:=by rfl)(h:D P Y dr i.q U S (.v (.bool e)) S':=by exact D.bit rfl)(q1:(e=true)=a:=by conv=>lhs;(try simp only[bW]))(g:(e=false)=b:=by conv=>lhs;(try simp only[bW])):H P Y rd n Q (.bj dr (i::l) K) U S:=H.bif f h (λe=>c (q1 ▸ e)) λe=>d (g ▸ e)
theorem ig(G:List Nat){e:Int}{cf:Int->QF}{aE:Int->AA}{S1:Int->ah}(h:D P Y dr i.q U S (.v (.int ik e)) S')(k:∀d,d=e->H P Y rd n Q (cf d) (aE d) (S1 d))(a:bC U.tm i.g=some true:=by rfl)(g:∀d,nI G 400 (.bj dr l K) (bU i.d U (.v (.int ik d))) S'=(cf d,aE d,S1 d):=by intro d;conv=>lhs;cbv):H P Y rd n Q (.bj dr (i::l) K) U S:=H.int a h λd e=>H.xy G 400 (g d) (k d e)
theorem lg(G:List Nat){e f:Int}{cf:Int->QF}{aE:Int->AA}{S1:Int->ah}(k:∀d,d=f->H P Y rd n Q (cf d) (aE d) (S1 d))(a:bC U.tm i.g=some true:=by rfl)(h:D P Y dr i.q U S (.v (.int ik e)) S':=by exact D.len rfl)(q:e=f:=by conv=>lhs;(try rw[az]))(g:∀d,nI G 400 (.bj dr l K) (bU i.d U (.v (.int ik d))) S'=(cf d,aE d,S1 d):=by intro d;conv=>lhs;cbv):H P Y rd n Q (.bj dr (i::l) K) U S:=H.int a h λd e=>H.xy G 400 (g d) (k d (q ▸ e))
theorem ag(G:List Nat){e:Int}{cf:Int->QF}{aE:Int->AA}{S1:Int->ah}(k:∀d,d=e->H P Y rd n Q (cf d) (aE d) (S1 d))(a:bC U.tm i.g=some true:=by rfl)(h:D P Y dr i.q U S (.v (.int ik e)) S':=by exact D.yA rfl rfl rfl (by omega) (by omega))(g:∀d,nI G 400 (.bj dr l K) (bU i.d U (.v (.int ik d))) S'=(cf d,aE d,S1 d):=by intro d;conv=>lhs;cbv):H P Y rd n Q (.bj dr (i::l) K) U S:=H.int a h λd e=>H.xy G 400 (g d) (k d e)
theorem xG{σ:Type}{st:σ->List (Nat×AV)}{so:σ->List (Nat×Ob)}{a:σ->Prop}{μ:σ->Nat}{k id:Nat}(G:List Nat)(c:H P Y rd n Q cf aE S1)(h:nI G 400 (.out (.exit id) K) U S=(cf,aE,S1):=by conv=>lhs;cbv):H P Y rd n (Ev P Y rd n B N st ds so a μ Q K k) (.out (.exit id) []) U S:=H.lG (H.xy G 400 h c)
theorem rG{σ:Type}{st:σ->List (Nat×AV)}{so:σ->List (Nat×Ob)}{a:σ->Prop}{μ:σ->Nat}{k:Nat}(G:List Nat)(c:H P Y rd n Q cf aE S1)(h:nI G 400 (.out .ret K) U S=(cf,aE,S1):=by conv=>lhs;cbv):H P Y rd n (Ev P Y rd n B N st ds so a μ Q K k) (.out .ret []) U S:=H.al3 (H.xy G 400 h c)
theorem D.bh{l:List T}{f:T->List AV}{O:Hd}{ex:Bool}{m:Nat}{i:QO}{k:IntKind}{j:Int}{y:T}(hi:j=(q:Int))(a:l[q]?=some y)(h1:x.ev U.tm=.sl ex (O.h (List.map f) l):=by rfl)(h2:i.ev U.tm=.v (.int k j):=by rfl)(h4:∀x,(f x).length=m:=by exactλ_=>rfl):D P Y dr (.yJ m x i) U S (.ip (f y)) S:=D.ind h1 h2 (fm hi a) (ec h4)
theorem bD{c:QC}(B N:Nat)(m:List (Nat×Nat))(st:Int->List (Nat×AV))(ds:List DE)(so:Int->List (Nat×Ob))(z:Nat)(J:Nat->Prop)(h0:J 0)(h:∀(i:Int) (k:Nat),i=k->k<=z->J k->H P Y rd n (Ev P Y rd n B N st ds so (λi=>∃k:Nat,i=k/\k<=z/\J k) (λi=>z-i.toNat) Q K (z-i.toNat)) (.run c []) (jn (st i) ds) (aw (so i) N))(a:Nat.ble S.nx B=true:=by rfl)(hC:Canon B N m U S (st 0) ds (so 0):=by exact cz):H P Y rd n Q (.run (.loop c) K) U S :=H.g5 (σ:=Int) B N m st ds so (λi=>∃k:Nat,i=k/\k<=z/\J k) (λi=>z-i.toNat) 0 ⟨0,rfl,aF_ _,h0⟩ a hC λi ⟨k,b,d,e⟩=>h i k b d e
theorem cB{z:Nat}{st:Int->List (Nat×AV)}{so:Int->List (Nat×Ob)}{J:Nat->Prop}(s:Int)(m:List (Nat×Nat))(k:Nat)(a:J k)(hC:Canon B N m U S (st s) ds (so s):=by exact cz)(hi:s=k:=by omega)(b:k<=z:=by omega)(c:z-s.toNat<q:=by omega):H P Y rd n (Ev P Y rd n B N st ds so (λi=>∃k:Nat,i=k/\k<=z/\J k) (λi=>z-i.toNat) Q K q) (.out .normal []) U S:=H.bK s m ⟨k,hi,b,a⟩ c hC
theorem cC{τ:Type}{c:QC}(B N:Nat)(m:List (Nat×Nat))(st:Int×τ->List (Nat×AV))(ds:List DE)(so:Int×τ->List (Nat×Ob))(z:Nat)(J:Nat->Int×τ->Prop)(t0:τ)(h0:J 0 (0,t0))(h:∀(i:Int) (k:Nat) (t:τ),i=k->k<=z->J k (i,t)->H P Y rd n (Ev P Y rd n B N st ds so (λp=>∃k:Nat,p.1=k/\k<=z/\J k p) (λp=>z-p.1.toNat) Q K (z-i.toNat)) (.run c []) (jn (st (i,t)) ds) (aw (so (i,t)) N))(a:Nat.ble S.nx B=true:=by rfl)(hC:Canon B N m U S (st (0,t0)) ds (so (0,t0)):=by exact cz):H P Y rd n Q (.run (.loop c) K) U S :=H.g5 (σ:=Int×τ) B N m st ds so (λp=>∃k:Nat,p.1=k/\k<=z/\J k p) (λp=>z-p.1.toNat) (0,t0) ⟨0,rfl,aF_ _,h0⟩ a hC λ(i,t) ⟨k,b,d,e⟩=>h i k t b d e
theorem bN{τ:Type}{z:Nat}{st:Int×τ->List (Nat×AV)}{so:Int×τ->List (Nat×Ob)}{J:Nat->Int×τ->Prop}(s:Int×τ)(m:List (Nat×Nat))(k:Nat)(a:J k s)(hC:Canon B N m U S (st s) ds (so s):=by exact cz)(hi:s.1=k:=by first|omega|simp only;omega)(b:k<=z:=by omega)(c:z-s.1.toNat<q:=by first|omega|simp only;omega):H P Y rd n (Ev P Y rd n B N st ds so (λp=>∃k:Nat,p.1=k/\k<=z/\J k p) (λp=>z-p.1.toNat) Q K q) (.out .normal []) U S:=H.bK s m ⟨k,hi,b,a⟩ c hC
end
section
attribute [local irreducible] ao aF D H
def aA{l:List T}{k:Nat}(h:k<l.length):∃x,l[k]?=some x/\l.drop k=x::l.drop (k+1):=⟨l[k],aw_ h,bM_ h⟩
def aZ{l:List T}{k:Nat}{x:T}(h:l[k]?=some x):x∈l:=as_ h
theorem FC{a b:Int}(h:jz a b=0):a=b:=by grind[jz]
theorem aqA(x y z:Int):ab Y 193 [aY .plain aV false [x,y,z]] (iv (Cc [x,y,z])):=amv [x,y,z] (by simp[Qk])
theorem aan:jt [] []=0:=by simp[jt,jz]
theorem Vg(h:∀x∈a,∀y,x.ok->y.ok->ab Y 292 [tm O x,tm O y] (iv (fe x y)))(j:dR a)(n:dR b)(r:a.length<=1099511627776)(s:a.length=b.length):ab Y 320 [tl O a,tl O b] (iv (jt a b)):=by
 refine st aqw x_ .v ?_;repeat' first|refine lg x_ λm t=>?_
 refine bD 0 0 [] (λi=>[(0,tl O a),(1,tl O b),(8,.v (.int .i64 m)),(9,.v (.int .i64 i))]) [] (λ_=>[]) a.length (λk=>jt a b=jt (a.drop k) (b.drop k)) aB λi k e u f=>?_;refine I x_ ?_;by_cases o:k<a.length
 ·let⟨x,c,p⟩:=aA o;let⟨y,g,q⟩:=aA (show k<b.length by omega);rw[p,q,jt,fZ]at f;repeat' first|refine og x_ (D.ind rfl rfl (cD (l:=a) e c) cE) ?_|refine og x_ (D.ind rfl rfl (cD (l:=b) e g) cE) ?_|refine ig x_ (pl (h x (aZ c) y (j.mem x (aZ c)) (n.mem y (aZ g)))) λ_ _=>?_|refine cg x_ (λd=>?_) λd=>?_|refine ag x_ λ_ _=>?_|refine xG x_ ?_|refine rG x_ ?_|refine fq ?_
  grind[dx];subst_vars;rw[if_pos X]at f;refine H.bK _ [] ?_ ?_ cq;grind;omega;omega
 ·skip;repeat' first|refine cg x_ (λd=>?_) λd=>?_|refine xG x_ ?_|refine fq ?_
  omega;grind[aan,dx]
theorem N0(x y:Tm)(c:x.ok)(d:y.ok):ab Y 292 [tm O x,tm O y] (iv (fe x y)):=by
 revert y c d;refine Tm.ind (p:=λx=>∀y:Tm,x.ok->y.ok->ab Y 292 [tm O x,tm O y] (iv (fe x y))) ?_ x;intro k i n a h y c d;let⟨e,j,f⟩:=c.out;let⟨l,o,g⟩:=d.out;let⟨s,t,u,q⟩:=y;dsimp only at e j f l o g;rw[fe];dsimp only;refine st aqv Hc .v ?_;repeat' first|refine ig Hc (pl (amr _)) λ_ _=>?_|refine ig Hc (pl (PK _ _)) λ_ _=>?_|refine ig Hc (pl (amu _ _)) λ_ _=>?_|refine ig Hc (pl (Vg (a:=a) (b:=q) h f g e (by grind[FC]))) λ_ _=>?_|refine ig Hc (D.jF rfl (aqA _ _ _) ⟨bZ _,trivial⟩ ⟨Wk.sl,trivial⟩) λ_ _=>?_|refine cg Hc (λr=>?_) λr=>?_|refine lg Hc λm v=>?_|refine fq ?_
 all_goals subst_vars;refine dx ?_;simp only[fZ,Cc];(repeat' split)<;>first|rfl|omega
def aqB:=aC func239 call239
def adq:List Nat:=[4,0,1,2,3]
def aqC:=aC func299 call299
def Xf:List Nat:=[2,3,4,0,1]
def aqD:=aC func215 call215
def adr:List Nat:=[4,0,1,2,3]
def auF:=aC func86 call86
def g86:List Nat:=[4,0,1]
def auG:=aC func39 call39
def g39:List Nat:=[2,3,4,0,1]
def nt(x y:Gl):Bool:=x.op==y.op&&x.n.toList==y.n.toList&&decide ((x.a.length:Int)=y.a.length)&&jt x.a y.a==0
theorem aao:∀(a b:List Tm)(k:Nat),a.length<=k\/b.length<=k->k<=a.length->k<=b.length->jt (a.drop k) (b.drop k)=jz a.length b.length:=by
 intro a b k h e f;rcases bF_ k a.length with c|c;·let⟨x,g,d⟩:=aA c;rw[d,aq_ (show b.length<=k by omega),jt];unfold jz;(repeat' split)<;>first|rfl|omega
 grind[jt,jz]
theorem SL(n:∀x∈a,∀y,x.ok->y.ok->ab Y 222 [tm O x,tm O y] (iv (fe x y)))(o:dR a)(p:dR b)(u:a.length<=1099511627776)(v:b.length<=1099511627776):ab Y 153 [tl O a,tl O b] (iv (jt a b)):=by
 refine st aqx nJ .v ?_;repeat' first|exact dy c|refine cg nJ (λc=>?_) λc=>?_|refine lg nJ λm f=>?_|refine ag nJ λ_ _=>?_|refine im λ_ _=>?_;refine I nJ ?_|refine H.str rfl (D.cat rfl rfl X) λ_ _=>?_;refine I nJ ?_|refine xG nJ ?_|refine rG nJ ?_|refine fq ?_
 refine bD 0 0 [] (λi=>[(0,tl O a),(1,tl O b),(5,.v (.int .i64 i))]) [] (λ_=>[]) a.length (λk=>k<=b.length/\jt a b=jt (a.drop k) (b.drop k)) ⟨aB,aB⟩ λi k g q ⟨r,d⟩=>?_;refine I nJ ?_;by_cases h:k<a.length/\k<b.length
 ·let⟨x,e,s⟩:=aA h.1;let⟨y,j,t⟩:=aA h.2;rw[s,t,jt,fZ]at d;repeat' first|refine og nJ (D.ind rfl rfl (cD (l:=a) g e) cE) ?_|refine og nJ (D.ind rfl rfl (cD (l:=b) g j) cE) ?_|refine ig nJ (pl (n x (aZ e) y (o.mem x (aZ e)) (p.mem y (aZ j)))) λ_ _=>?_|refine ig nJ (pl (C4 _ _)) λ_ _=>?_|refine cg nJ (λc=>?_) λc=>?_|refine lg nJ λm f=>?_|refine ag nJ λ_ _=>?_|refine xG nJ ?_|refine rG nJ ?_|refine fq ?_
  all_goals first|omega|subst_vars;rw[if_neg Z]at d;exact dx d.symm|subst_vars;rw[if_pos Z]at d;refine H.bK _ [] ?_ ?_ cq;grind;omega
 ·skip;repeat' first|refine ig nJ (pl (C4 _ _)) λ_ _=>?_|refine cg nJ (λc=>?_) λc=>?_|refine lg nJ λm f=>?_|refine xG nJ ?_|refine fq ?_
  all_goals first|omega|rw[aao a b k Z q r]at d;subst_vars;exact dx d.symm
theorem Xg(k i b c:Int)(n d:ByteArray)(a a':List Tm)(j:∀x∈a,∀y:Tm,x.ok->y.ok->ab Y 222 [tm O x,tm O y] (iv (fe x y)))(l:a.length<=1099511627776)(m:dR a)(o:a'.length<=1099511627776)(p:dR a')(e:iQ k=0):ab Y 222 [tm O ⟨k,i,n,a⟩,tm O ⟨b,c,d,a'⟩] (iv (fe ⟨k,i,n,a⟩ ⟨b,c,d,a'⟩)):=by
 have g:ab Y 279 [tm O ⟨k,i,n,a⟩] (iv 0):=by rw[<-e];exact uE _
 have h:ab Y 279 [tm O ⟨b,c,d,a'⟩] (iv (iQ b)):=uE _;rw[fe,e];dsimp only;refine st OH mO .v ?_;repeat' first|apply bk mO g|refine ig mO (pl h) λ_ _=>?_|refine ig mO (pl (C4 _ _)) λ_ _=>?_|exact dy f|refine cg mO (λf=>?_) λf=>?_|refine fq ?_
 all_goals subst_vars;refine dx ?_;simp only[fZ,Cc,true_or,or_true,if_true];(repeat' split)<;>first|rfl|omega
theorem Xh(k i b c:Int)(n d:ByteArray)(a a':List Tm)(j:∀x∈a,∀y:Tm,x.ok->y.ok->ab Y 222 [tm O x,tm O y] (iv (fe x y)))(l:a.length<=1099511627776)(m:dR a)(o:a'.length<=1099511627776)(p:dR a')(e:iQ k=1):ab Y 222 [tm O ⟨k,i,n,a⟩,tm O ⟨b,c,d,a'⟩] (iv (fe ⟨k,i,n,a⟩ ⟨b,c,d,a'⟩)):=by
 have g:ab Y 279 [tm O ⟨k,i,n,a⟩] (iv 1):=by rw[<-e];exact uE _
 have h:ab Y 279 [tm O ⟨b,c,d,a'⟩] (iv (iQ b)):=uE _;rw[fe,e];dsimp only;refine st OH mO .v ?_;repeat' first|apply bk mO g|refine ig mO (pl h) λ_ _=>?_|refine ig mO (pl (C4 _ _)) λ_ _=>?_|exact dy f|refine cg mO (λf=>?_) λf=>?_|refine fq ?_
 all_goals subst_vars;refine dx ?_;simp only[fZ,Cc,true_or,or_true,if_true];(repeat' split)<;>first|rfl|omega
theorem Xi(k i c d:Int)(n e:ByteArray)(a a':List Tm)(h:∀x∈a,∀y:Tm,x.ok->y.ok->ab Y 222 [tm O x,tm O y] (iv (fe x y)))(j:a.length<=1099511627776)(l:dR a)(o:a'.length<=1099511627776)(p:dR a')(f:iQ k=2):ab Y 222 [tm O ⟨k,i,n,a⟩,tm O ⟨c,d,e,a'⟩] (iv (fe ⟨k,i,n,a⟩ ⟨c,d,e,a'⟩)):=by
 have q:ab Y 279 [tm O ⟨k,i,n,a⟩] (iv 2):=by rw[<-f];exact uE _
 have r:ab Y 279 [tm O ⟨c,d,e,a'⟩] (iv (iQ c)):=uE _;rw[fe,f];dsimp only;refine st OH mO .v ?_;repeat' first|apply bk mO q|refine ig mO (pl r) λ_ _=>?_|refine ig mO (pl (C4 _ _)) λ_ _=>?_|refine ig mO (pl (Vb _ _)) λ_ _=>?_|refine ig mO (pl (SL (a:=a) (b:=a') h l p j o)) λ_ _=>?_|exact dy g|refine cg mO (λg=>?_) λg=>?_|refine lg mO λm s=>?_|refine fq ?_
 all_goals subst_vars;refine dx ?_;simp only[fZ,Cc,true_or,or_true,if_true];(repeat' split)<;>first|rfl|omega
theorem Xj(k i b c:Int)(n d:ByteArray)(a a':List Tm)(j:∀x∈a,∀y:Tm,x.ok->y.ok->ab Y 222 [tm O x,tm O y] (iv (fe x y)))(l:a.length<=1099511627776)(m:dR a)(o:a'.length<=1099511627776)(p:dR a')(e:iQ k=3):ab Y 222 [tm O ⟨k,i,n,a⟩,tm O ⟨b,c,d,a'⟩] (iv (fe ⟨k,i,n,a⟩ ⟨b,c,d,a'⟩)):=by
 have g:ab Y 279 [tm O ⟨k,i,n,a⟩] (iv 3):=by rw[<-e];exact uE _
 have h:ab Y 279 [tm O ⟨b,c,d,a'⟩] (iv (iQ b)):=uE _;rw[fe,e];dsimp only;refine st OH mO .v ?_;repeat' first|apply bk mO g|refine ig mO (pl h) λ_ _=>?_|refine ig mO (pl (C4 _ _)) λ_ _=>?_|refine ig mO (pl (Vb _ _)) λ_ _=>?_|exact dy f|refine cg mO (λf=>?_) λf=>?_|refine fq ?_
 all_goals subst_vars;refine dx ?_;simp only[fZ,Cc,true_or,or_true,if_true];(repeat' split)<;>first|rfl|omega
theorem ads(k:Int):iQ k=0\/iQ k=1\/iQ k=2\/iQ k=3:=by grind[iQ]
theorem Li(x y:Tm)(b:x.ok)(c:y.ok):ab Y 222 [tm O x,tm O y] (iv (fe x y)):=by revert y b c;refine Tm.ind (p:=λx=>∀y:Tm,x.ok->y.ok->ab Y 222 [tm O x,tm O y] (iv (fe x y))) ?_ x;intro k i n a d y b c;let⟨e,f,g⟩:=b.out;let⟨j,l,m⟩:=c.out;let⟨o,q,r,s⟩:=y;rcases ads k with h|h|h|h;grind[Xg];grind[Xh];grind[Xi];grind[Xj]
def amB(a b:List Tm)(c:dR a)(d:dR b)(e:a.length<=1099511627776)(f:a.length=b.length):ab Y 320 [tl O a,tl O b] (iv (jt a b)):=Vg (λx _ y g h=>N0 x y g h) c d e f
def ahC(a b:List Tm)(c:dR a)(d:dR b)(e:a.length<=1099511627776)(f:b.length<=1099511627776):ab Y 153 [tl O a,tl O b] (iv (jt a b)):=SL (λx _ y g h=>Li x y g h) c d e f
theorem Sd(x y:Tm)(a:x.ok)(b:y.ok):ab Y 239 [tm O x,tm O y] (.v (.bool (fe x y==0))):=by
 refine st aqB adq .v ?_;repeat' first|refine ig adq (pl (N0 (O:=O) x y a b)) λ_ _=>?_|refine cg adq (λc=>?_) λc=>?_|refine fq ?_
 all_goals refine aI.of_eq ?_;simp_all
theorem L6(x y:Tm)(a:x.ok)(b:y.ok):ab Y 215 [tm O x,tm O y] (.v (.bool (fe x y==0))):=by
 refine st aqD adr .v ?_;repeat' first|refine ig adr (pl (Li (O:=O) x y a b)) λ_ _=>?_|refine cg adr (λc=>?_) λc=>?_|refine fq ?_
 all_goals refine aI.of_eq ?_;simp_all
theorem aap(a b:List Tm)(c:dR a)(d:dR b)(e:a.length<=1099511627776)(f:b.length<=1099511627776):ab Y 86 [tl O a,tl O b] (.v (.bool (jt a b==0))):=by
 refine st auF g86 .v ?_;repeat' first|refine ig g86 (pl (ahC a b c d e f)) λ_ _=>?_|refine cg g86 (λg=>?_) λg=>?_|refine fq ?_
 all_goals refine aI.of_eq ?_;simp_all
def At.ok(x:At):Prop:=x.a.length<=1099511627776/\dR x.a
def Gl.ok(x:Gl):Prop:=x.a.length<=1099511627776/\dR x.a
theorem aoh(x y:Int):ab Y 193 [aY .plain aV false [x,y]] (iv (Cc [x,y])):=amv [x,y] (by simp[Qk])
theorem aho(x y:Gl)(e:x.ok)(f:y.ok):ab Y 299 [gl O x,gl O y] (.v (.bool (nt x y))):=by
 let⟨b,c⟩:=e;let⟨g,d⟩:=f;let⟨o,n,a⟩:=x;let⟨j,k,h⟩:=y;dsimp only at b c g d;rw[nt];dsimp only;refine st aqC Xf .v ?_;repeat' first|refine ig Xf (pl (amB a h c d b Z)) λ_ _=>?_|refine cg Xf (λi=>?_) λi=>?_|refine lg Xf λm l=>?_|refine fq ?_
 all_goals refine aI.of_eq ?_;subst_vars;simp_all
theorem acy(x y:Gl)(f:x.ok)(g:y.ok):ab Y 39 [gl O x,gl O y] (.v (.bool (nt x y))):=by
 let⟨b,c⟩:=f;let⟨d,e⟩:=g;let⟨o,n,a⟩:=x;let⟨j,k,h⟩:=y;dsimp only at b c d e;rw[nt];dsimp only;refine st auG g39 .v ?_;repeat' first|refine bg g39 (pl (aap a h c e b d)) (λ_=>?_) λ_=>?_|refine cg g39 (λi=>?_) λi=>?_|refine lg g39 λm l=>?_|refine fq ?_
 all_goals refine aI.of_eq ?_;subst_vars;simp_all
end
section
variable{P:Program}
theorem D.ext{f:QO}{xs:List Value}(h:f.ev U.tm=.v (.func (.func g) #[] #[]))(e:aZ9.map (·.ev U.tm)=xs.map .v)(i:∀w:World,(callFunc g xs.toArray).run P w=.ok (.value v) w):D P Y false (.call f aZ9) U S (.v v) S:=by
 refine D.run λn o j=>?_;obtain⟨c,u,k,m,rfl,rfl⟩:=mq j;rw[jG]at e;rw[aT]at h;refine a_.quiet λA C q w E a=>?_;have b:=a.ev u;rw[h]at b;have p:=cA b;have key:∀(l:List Operand)(xs:List Value),l.map U.ev=xs.map AV.v->l.map q.eval=xs:=by intro l;induction l with
  |nil =>intro xs h;cases xs with|nil=>rfl|cons x xs=>cases h
  |cons y l r =>intro xs h;cases xs with|nil=>cases h|cons x xs =>rw[aH_,aH_]at h;injection h with s t;have d:=a.ev y;rw[s]at d;rw[aH_,cA d,r xs t]
 have z:c.args.map q.eval=xs.toArray:=X;refine⟨v,?_,.v⟩;have B:=i w;simp[execOp,k,m,p,z,B,resolve,invoke,Deferred.ofValue]
end
def Hh(P:Program)(Y:World)(f:FuncId)(args:List AV)(S:ah)(ch:List PanicEntry)(S':ah):Prop :=(∀(b:Array Value)(w:World),(callFunc f b).run P w=.ok (.enter f b) w) /\∀(F:Fence)(m:Nat)(A:Nat->Prop)(g:Gh)(a:Array Value)(w:World),ml F->St Y A g S w->nC g w args a ->CallsIn F m P f a w λe c=>∃d,e=.panicked ch/\St Y A d S' c/\Ext A g w d c
def yD(P:Program)(Y:World)(f:FuncId)(args:List AV)(ch:List PanicEntry):Prop:=∃S',Hh P Y f args ah.none_ ch S'
section
variable{P:Program}{rd:Bool}{l:List QI}
theorem yD.acd(h:yD P Y f args ch)(s:∀a∈args,Pure a)(S:ah)(t:args0.length=args.length)(u:∀(i:Nat) (j a:AV),args0[i]?=some j->args[i]?=some a->aI S j a):Hh P Y f args0 S ch S:=by
 let⟨S1,v,y⟩:=h;refine⟨v,λF m A g c w z d l=>?_⟩;have n:∀b q,(g.still S).fz b q->b<w.heap.size:=by rintro b q(o|⟨k,N,rows,fz,ex,B,C,rfl,o⟩);exact d.dL b q o;exact(d.cX k _ B C).2.1
 refine(y F m _ _ c w z (d.inner (g.still S).fz (λ_ _ h=>.inl h) n) ⟨l.1.trans t,λi a x p E=>?_⟩).mono ?_;have G:i<args0.length:=X;have r:=aw_ G;exact aO.pure (g:=g.still S) (g':=⟨g.ob,g.cp,λ_=>False,(g.still S).fz,g.fo⟩) (λ_ _ h=>h) (λ_ _ _=>rfl) ((u i _ a r p).rep d (l.2 i _ x r E)) (s a (as_ p));rintro e R⟨T,rfl,J,K⟩;let⟨L,M⟩:=d.outer (λ_ _ h=>.inl h) n J K;exact⟨_,rfl,M,L⟩
def yD.PT(h:yD P Y f args ch)(b:ja args){S:ah}(a:iP S args0 args):Hh P Y f args0 S ch S:=h.acd b.all S a.len a.at
theorem adt{o:Oper}{c:Call}{f:Operand}{b:FuncId}(k:o.op=.call c)(l:c.callee=.value f)(p:∀(A:Nat->Prop) (g:Gh) (a:Act) (w:World),St Y A g S w->cN g w n U a->∃first cap,a.eval f=.func (.func b) first cap/\nC g w args (first++c.args.map a.eval++cap))(h:Hh P Y b args S ch S'):OpP P Y n o U S ch S':=by
 intro F m A g a w next Q d i q r;rw[Oper.semAt_eq _ _ _ λB e=>X];let⟨first,cap,s,t⟩:=p A g a w i q;have u:(execOp a.eval o).run P w=.ok (.enter b (first++c.args.map a.eval++cap)) w:=by simp only[execOp,k,resolve,l,s,Deferred.ofValue,Sem.run_bind,Sem.run_pure,Result.andThen_ok,invoke];exact h.1 _ w
 rw[u,Oper.uponIn_enter];refine⟨λj=>(by rw[d.2.1]at j;cases j),(h.2 F (m-1) A g _ w d i t).mono ?_⟩;rintro e v⟨x,rfl,y,z⟩;exact r v x y z
theorem zC.call{f:QO}(h:fk (f.ev U.tm) (aZ9.map (·.ev U.tm))=some (g,args))(k:Hh P Y g args S ch S'):zC P Y (.call f aZ9) U S ch S':=by intro n o l;obtain⟨c,u,m,p,rfl,rfl⟩:=mq l;rw[jG,aT]at h;unfold fk at h;refine adt m p (λA C a w E d=>?_) k;have b:=d.ev u;split at h;rename_i q x y e;split at h;rename_i F G;injection h with h;injection h with i j;subst i j;rw[e]at b;have r:x=#[]:=X;have s:y=#[]:=X;subst r s;refine⟨#[],#[],cA b,?_⟩;rw[Array.empty_append,Array.append_empty];exact tK d c.args;grind;rename_i q x y e;injection h with h;injection h with i j;subst i j;rw[e]at b;let⟨t,ds,v,z,B⟩:=FM b;exact⟨t,ds,v,mV (mV z (tK d c.args)) B⟩;grind
def zC.bO{f:QO}(h:fk (f.ev U.tm) (aZ9.map (·.ev U.tm))=some (g,args0))(a:yD P Y g args ch)(b:ja args)(c:iP S args0 args):zC P Y (.call f aZ9) U S ch S:=zC.call h (a.PT b c)
def H.Ie(a:bC U.tm i.g=some true)(h:zC P Y i.q U S ch S')(k:H P Y rd n Q (.out (.panic ch) K) U S'):H P Y rd n Q (.bj false (i::l) K) U S:=lq.Ie a h k
def toV:AV->Option Value
 |.v x=>some x|.agg l=>match toVs l with|some cs=>some (.agg cs.toArray)|none=>none
 |_=>none where toVs:List AV->Option (List Value)|[]=>some []|a::l=>match toV a,toVs l with|some x,some cs=>some (x::cs)|_,_=>none
theorem toVs_at:∀{l:List AV}{cs:List Value},toV.toVs l=some cs->cs.length=l.length/\∀(i:Nat)(a:AV),l[i]?=some a->∃x,cs[i]?=some x/\toV a=some x
 |[],cs,h=>by simp only[toV.toVs,oI_]at h;subst h;exact⟨rfl,λi a h=>X⟩|a::l,cs,h=>by
  simp only[toV.toVs]at h;split at h;rename_i x d e f;cases oJ_ h;let⟨j,g⟩:=toVs_at f;refine⟨X,λi b c=>?_⟩;cases i with|zero=>simp at c;subst c;exact⟨x,rfl,e⟩|succ i=>simp at c;simpa using g i b c
  grind
theorem BZ{g:Gh}{w:World}{a:AV}{y:Value}(d:aO g w a y):∀{x:Value},toV a=some x->y=x:=by induction d with|v=>intro x h;simp only[toV,oI_]at h;exact h|@agg l q r h e =>intro x b;simp only[toV]at b;split at b;rename_i f j;cases oJ_ b;let⟨s,k⟩:=toVs_at j;congr 1;apply Array.ext;grind;intro i m t;have c:i<l.length:=X;let⟨x,n,o⟩:=k i _ (aw_ c);have p:=e i _ _ (aw_ c) (aM_ m) o;rw[p];have:=aB_.1 n;simp[<-this.2];grind|_=>intro x h;simp[toV]at h
theorem adu{o:Op}{t:Nat}(h:res P.toTables o=some (.PG t x)):∃u,o=.makeInterface t u/\x=qo u:=by cases o with|makeInterface c u =>simp only[res,oI_]at h;injection h with a b;subst a;exact⟨u,rfl,b.symm⟩|_ =>
  simp only[res]at h;repeat' split at h
  all_goals cases h
def isIf(T:Tables)(t:TypeId):Bool:=match iS T t with|some (.interface _)=>true|some _=>false|none=>true
theorem D.PG{t:Nat}(f:toV (x.ev U.tm)=some v)(b:isIf P.toTables t=false):D P Y false (.PG t x) U S (.v (.iface t v)) S:=by refine D.run λn o h=>?_;obtain⟨u,i,rfl⟩:=adu h;rw[aT]at f;refine a_.quiet λA g a w l j=>⟨.iface t v,?_,.v⟩;have e:=BZ (j.ev u) f;unfold isIf at b;rw[cM]at b;simp only[execOp,i,e,Instr.makeInterface];cases c:P.underlying t with|none=>rw[c]at b;cases b|some d =>
  have k:(underlying t).run P w=.ok d w:=by simp[underlying,c]
  rw[c]at b;cases d<;>simp_all
theorem ahD{o:Op}(h:res P.toTables o=some (.Ie x)):∃u,o=.panic u/\x=qo u:=by cases o with|panic u =>simp only[res,oI_]at h;injection h with a;exact⟨u,rfl,a.symm⟩|_ =>
  simp only[res]at h;repeat' split at h
  all_goals cases h
theorem zC.Ie{t:TypeId}(b:x.ev U.tm=.v (.iface t v)):zC P Y (.Ie x) U S [{v:=.iface t v,recovered:=false }] S:=by
 intro n o c;obtain⟨u,d,rfl⟩:=ahD c;rw[aT]at b;intro F m A g a w next Q k f h i;rw[Oper.semAt_eq _ _ _ λl e=>X];have e:=h.ev u;rw[b]at e;have e:=cA e;have j:(execOp a.eval o).run P w=.halt (.panic (.iface t v)) w:=by simp[execOp,d,e,Instr.panic,goPanic]
 rw[j,Oper.uponIn_panic];exact i w g f (Ext.refl ..)
def FB(qs:List QR)(R:AV->ah->Prop)(E:List PanicEntry->ah->Prop)(ex:Exit)(U:AA)(S:ah):Prop:=match ex with|.panic ch=>U.df=[]/\E ch S|ex=>vE qs R ex U S
theorem H.aiV(a:Oe ex=true)(h:LI qs ex U S=some (r,S'))(k:R r S'):H P Y rd n (FB qs R E) (.out ex []) U S:=by show FB qs R E ex U S;cases ex<;>first|exact⟨r,S',h,k⟩|cases a
def H.aiU(a:U.df=[])(k:E ch S):H P Y rd n (FB qs R E) (.out (.panic ch) []) U S:=⟨a,k⟩
theorem Hh.amC{fn:Func}{c:Code}(k:P.funcs[f]?=some fn)(l:fn.body=some c)(o:∀(xs:Array Value) (w:World),(callFunc f xs).run P w=.ok (.enter f xs) w)(p:fn.ntmps=n)(q:args.length<=n)(r:aE.df=[])(h:ep P Y false n c ⟨pO args,[]⟩ S (.panic ch) aE S'):Hh P Y f args S ch S':=by
 refine⟨o,λF m A g a w i s t=>?_⟩;have key:CallsIn F.plain m P f a w λe b=>∃d,e=.panicked ch/\St Y A d S' b/\Ext A g w d b:=by refine callsIn_of_wp_marks k l (i.1 f) ?_ rfl;rw[p];refine wpIn_mono (h F.plain m A g _ w i.plain rfl s (Dy t q)) ?_;rintro u j b⟨rfl,d,v,x,y⟩;show LeavesInM F.plain m P fn j.tmps _ j.defers (.panicking ch) b;rw[x.df,r];exact⟨d,rfl,v,y⟩
 exact key
theorem qg.ad1{q:QC×List QR}{b:Bool}(F:qg P f q n)(i:args.length<=n)(p:Pure r)(h:H P Y false n (FB q.2 (λa S=>b=true/\aI S a r) λd S=>b=false/\d=ch) (.run q.1 []) ⟨pO args,[]⟩ ah.none_):(b=true->ao P Y f args r)/\(b=false->yD P Y f args ch):=by
 let⟨fn,c,j,k,l,s,t,u,m⟩:=F.out;let⟨ex,aE,S',o,g⟩:=h c t u;have g:FB q.2 (λa S=>b=true/\aI S a r) (λd S=>b=false/\d=ch) ex aE S':=g;have nrm:vE q.2 (λa S=>b=true/\aI S a r) ex aE S'->(b=true->ao P Y f args r)/\(b=false->yD P Y f args ch):=λv=>by let⟨a,S1,w,x,y⟩:=v;have z:vE q.2 (λa S=>aI S a r) ex aE S':=⟨a,S1,w,y⟩;exact⟨λ_=>ao.of_wp j k m l i p ⟨ex,aE,S',o,Ss s z⟩,λe=>absurd (x.symm.trans e) aB⟩
 cases ex with|panic d =>obtain⟨A,B,rfl⟩:=g;exact⟨λe=>absurd (B.symm.trans e) aB,λ_=>⟨S',Hh.amC j k m l i A o⟩⟩|_=>exact nrm g
def Oc(P:Program)(Y:World)(f:FuncId)(args:List AV)(b:Bool)(r:AV)(ch:List PanicEntry):Prop:=(b=true->ao P Y f args r)/\(b=false->yD P Y f args ch)
theorem H.ad2{b:Bool}{d:Option Nat}{gd:Option (Nat×Bool)}{f:QO}(a:bC U.tm gd=some true)(h:fk (f.ev U.tm) (aZ9.map (·.ev U.tm))=some (g,args0))(c:Oc P Y g args b r ch)(e:ja args)(hs:BP r)(i:iP S args0 args)(j:b=true->H P Y rd n Q (.bj false l K) (bU d U r) S)(k:b=false->H P Y rd n Q (.out (.panic ch) K) U S):H P Y rd n Q (.bj false (⟨d,gd,.call f aZ9⟩::l) K) U S:=by cases b with|true=>exact H.op a (D.tt h (c.1 rfl) e hs i) (j rfl)|false=>exact H.Ie a (zC.bO h (c.2 rfl) e i) (k rfl)
end
structure PS where
 N:aS
 vs:List (Int×Int)js:JS
def kg(s:PS)(t:Tm)(l:List Nat):PS :=⟨s.N++[(t,l)],if t.k=1 then gU s.vs t.i s.N.length else s.vs,⟨s.js.up++[s.N.length],if t.k=1 then s.js.sh else gU s.js.sh s.N.length s.N.length,if t.k=1 then gU s.js.ls s.N.length t.i else s.js.ls⟩⟩
mutual def cu:PS->Tm->PS×Nat|s,⟨k,i,n,a⟩=>match if k=1 then aH s.vs i else none with|some j=>(s,j.toNat)|none=>(kg (dW s a).1 ⟨k,i,n,a⟩ (dW s a).2,(dW s a).1.N.length)def dW:PS->List Tm->PS×List Nat|s,[]=>(s,[])|s,x::l=>((dW (cu s x).1 l).1,(cu s x).2::(dW (cu s x).1 l).2)end
structure sJ(s:PS):Prop where
 vs:∀v,aH s.vs v=(ov s.N v).map Int.ofNat
 up:s.js.up.length=s.N.length
 nd:(s.vs.map (·.1)).Nodup
theorem wZ{T:Type}:∀{l:List (Int×T)}{i:Int},i∈l.map (·.1)↔∃v,aH l i=some v|[],i=>by simp[aH]|p::l,i=>by rw[aH_,al_,aH];by_cases e:p.1=i;rw[if_pos e];simp[e];rw[if_neg e,<-wZ];simp[Ne.symm e]
theorem A4{T:Type}:∀{l:List (Int×T)}{i:Int}{v:T},aH l i=none->gU l i v=l++[(i,v)]|[],_,_,_=>rfl|p::l,i,v,h=>by rw[aH]at h;rw[gU];by_cases e:p.1=i;rw[if_pos e]at h;cases h;rw[if_neg e]at h;rw[if_neg e,A4 h];rfl
structure Grown(s s':PS):Prop where
 le:s.N.length<=s'.N.length
 upl:s'.js.up.length=s.js.up.length+(s'.N.length-s.N.length)kF:∀i,i<s.js.up.length->cw s'.js.up i=cw s.js.up i
 rj:∀i,s.js.up.length<=i->cw s'.js.up i=i
 oe:∀C:Nat,C<s.N.length->aH s'.js.sh C=aH s.js.sh C
 xm:∀C:Nat,s.N.length<=C->C<s'.N.length->aH s'.js.sh C=if(tn s'.N C).k=1 then aH s.js.sh C else some (C:Int)B8:(∀C i,aH s.js.sh C=some i->0<=i)->∀C i,aH s'.js.sh C=some i->0<=i
 nA:∀C:Nat,C<s.N.length->aH s'.js.ls C=aH s.js.ls C
 xp:∀C:Nat,s.N.length<=C->C<s'.N.length->aH s'.js.ls C=if(tn s'.N C).k=1 then some (tn s'.N C).i else aH s.js.ls C
 KJ:∀C:Nat,s'.N.length<=C->aH s'.js.sh C=aH s.js.sh C
 Gf:∀C:Nat,s'.N.length<=C->aH s'.js.ls C=aH s.js.ls C
 pre:∀i,i<s.N.length->s'.N[i]?=s.N[i]?
theorem Vh{up:List Nat}{i:Nat}(h:up.length<=i):cw up i=i:=by unfold cw;rw[dq_ h];rfl
theorem Grown.refl(s:PS):Grown s s:=⟨ad_ _,Z,λ_ _=>rfl,λi h=>Vh h,λ_ _=>rfl,λC a b=>Z,λh=>h,λ_ _=>rfl,λC a b=>Z,λ_ _=>rfl,λ_ _=>rfl,λ_ _=>rfl⟩
theorem Grown.trans{s t u:PS}(h:Grown s t)(k:Grown t u):Grown s u:=by have g:=h.le;have k0:=k.le;have j:=h.upl;have l:=k.upl;refine⟨Z,Z,λi b=>(k.kF i Z).trans (h.kF i b),λi b=>?_,λC a=>(k.oe C Z).trans (h.oe C a),λC c d=>?_,λf=>k.B8 (h.B8 f),λC a=>(k.nA C Z).trans (h.nA C a),λC c d=>?_,λC a=>(k.KJ C a).trans (h.KJ C Z),λC a=>(k.Gf C a).trans (h.Gf C Z),λi b=>(k.pre i Z).trans (h.pre i b)⟩;by_cases e:i<t.js.up.length;rw[k.kF i e,h.rj i b];exact k.rj i Z;by_cases e:C<t.N.length;rw[k.oe C e,h.xm C c e,(fL k.pre e).1];rw[k.xm C Z d,h.KJ C Z];by_cases e:C<t.N.length;rw[k.nA C e,h.xp C c e,(fL k.pre e).1];rw[k.xp C Z d,h.Gf C Z]
theorem Lj{s:PS}(g:sJ s)(t:Tm)(l:List Nat):Grown s (kg s t l):=by
 have j:=g.up;have c:∀i,i<s.N.length->(s.N++[(t,l)])[i]?=s.N[i]?:=λi b=>bj_ b;refine⟨by simp[kg],by simp[kg],λi b=>?_,λi b=>?_,λC a=>?_,λC k d=>?_,λf C i=>?_,λC a=>?_,λC k d=>?_,λC a=>?_,λC a=>?_,c⟩;simp only[kg,cw];rw[bj_ b];simp only[kg];by_cases e:i=s.js.up.length;subst e;unfold cw;rw[bv_ (ad_ _)];simp[j];exact Vh (by simp;omega);simp only[kg];split;rfl;rw[c9,if_neg Z];have e:C=s.N.length:=by simp[kg]at d;omega
 subst e;simp only[kg,mZ.1];split;rfl;rw[c9,if_pos rfl];simp only[kg];split;exact f C i;rw[c9];split;intro h;cases oJ_ h;omega;exact f C i;simp only[kg];split;rw[c9,if_neg Z];rfl;have e:C=s.N.length:=by simp[kg]at d;omega
 subst e;simp only[kg,mZ.1];split;rw[c9,if_pos rfl];rfl;simp only[kg]at a⊢;rw[av_,bf_]at a;split;rfl;rw[c9,if_neg Z];simp only[kg]at a⊢;rw[av_,bf_]at a;split;rw[c9,if_neg Z];rfl
theorem aaq{N:aS}{t:Tm}{v:Int}(h:t.k=1->ov N t.i=none):ov (N++[(t,l)]) v=if t.k=1/\t.i=v then some N.length else ov N v:=by unfold ov;rw[List.findIdx?_append];cases a:List.findIdx? (λx=>x.1.k==1&&x.1.i==v) N with|some j =>rw[if_neg];rfl;rintro⟨c,rfl⟩;have:=h c;unfold ov at this;rw[this]at a;cases a|none =>
  by_cases e:t.k=1/\t.i=v;rw[if_pos e];simp[e.1,e.2];rw[if_neg e];have:(t.k==1&&t.i==v)=false:=by rw[ds_];by_cases b:t.k=1;exact .inr (by simpa usingλd=>e ⟨b,d⟩);exact .inl (by simpa using b)
  simp[this]
theorem N4{s:PS}(c:sJ s){t:Tm}(h:t.k=1->ov s.N t.i=none):sJ (kg s t l):=by
 refine⟨λv=>?_,by simp[kg,c.up],?_⟩;rotate_left;simp only[kg];split;rename_i e;have f:aH s.vs t.i=none:=by rw[c.vs,h e];rfl
 rw[A4 f,ba_,List.nodup_append];refine⟨c.nd,aB,λa g b i d=>?_⟩;simp only[aH_,aV_,ar_]at i;rw[d,i,wZ]at g;let⟨x,j⟩:=g;rw[f]at j;cases j;exact c.nd;simp only[kg];rw[aaq h];by_cases e:t.k=1;rw[if_pos e,c9];by_cases d:t.i=v;rw[if_pos d,if_pos ⟨e,d⟩];rfl;rw[if_neg d,if_neg λh=>d h.2];exact c.vs v;rw[if_neg e,if_neg λh=>e h.1];exact c.vs v
mutual theorem ue:∀(s:PS)(t:Tm),sJ s->eU t->(cu s t).1.N=(b8 s.N t).1/\(cu s t).2=(b8 s.N t).2/\sJ (cu s t).1/\Grown s (cu s t).1
 |s,⟨k,i,n,a⟩,b,c=>by
  rw[cu,b8];by_cases d:k=1;subst d;rw[eU,if_pos rfl]at c;obtain⟨rfl,rfl⟩:=c;simp only[if_true,b.vs];cases o:ov s.N i with|some j=>exact⟨rfl,aB,b,.refl s⟩|none =>simp only[bt_,dW,cd];exact⟨by simp[kg],aB,N4 b λ_=>o,Lj b _ _⟩
  simp only[if_neg d];rw[eU,if_neg d]at c;let⟨f,h,g,m⟩:=Jo s a b c.1;refine⟨by simp only[kg,f,h],by rw[f],N4 g λe=>absurd e d,m.trans (Lj g _ _)⟩;theorem Jo:∀(s:PS)(l:List Tm),sJ s->eW l->(dW s l).1.N=(cd s.N l).1/\(dW s l).2=(cd s.N l).2/\sJ (dW s l).1/\Grown s (dW s l).1|s,[],b,_=>by rw[dW,cd];exact⟨rfl,rfl,b,.refl s⟩|s,x::l,b,c=>by rw[eW]at c;let⟨f,h,g,m⟩:=ue s x b c.1;let⟨p,q,k3,k4⟩:=Jo (cu s x).1 l g c.2;rw[dW,cd];simp only[p,q,f,h];exact⟨trivial,trivial,k3,m.trans k4⟩;end
section
variable{E:List (Tm×Tm)}
theorem qY.grow{s f:PS}(h:qY E s.N zzD c [] s.js)(G:∀p∈zzD,p.1<s.N.length/\p.2<s.N.length)(m:xJ s.N f.N)(a:Grown s f){x y:Nat}(J:x<f.N.length)(K:y<f.N.length)(L:(tn f.N x,tn f.N y)∈E):qY E f.N ((x,y)::zzD) (λi=>if i<s.N.length then c i else i) [(x,y)] f.js:=by
 let⟨M,q⟩:=h.uf;have T:=h.len;have V:=a.upl;have N:=a.le;have A:∀i,i<s.N.length->c i<s.N.length:=λi b=>by have:=(q.rt i Z).2;omega
 have r:∀j C,C<s.N.length->(if j<s.N.length then c j else j)=C->j<s.N.length/\c j=C:=λj C k e=>by split at e;exact⟨by assumption,e⟩;omega
 have t:∀j C,s.N.length<=C->(if j<s.N.length then c j else j)=C->j=C:=λj C k e=>by split at e;rename_i P;have:=A j P;omega;exact e
 refine⟨h.gi.grow G m.g m.le m.pre (λi b=>⟨if_pos b,A i b⟩) (λi b=>if_neg Z) J K L,⟨M,?_⟩,Z,a.B8 h.pos,λC k e=>?_,λC k e=>?_,λC k=>by rw[a.KJ C k];exact h.ZI C Z,λC k=>by rw[a.Gf C k];exact h.frl C Z⟩;refine⟨λi b=>?_,λi b=>?_,λi b=>?_,λi b e=>?_,λi b e=>?_⟩;by_cases e:i<s.N.length;rw[a.kF i Z];have:=q.lt i Z;omega;rw[a.rj i Z];exact b;by_cases e:i<s.N.length;simp only[if_pos e];rw[a.kF _ (by have:=A i e;omega)];have:=q.rt i Z;exact⟨this.1,Z⟩;simp only[if_neg e];exact⟨a.rj i Z,b⟩;by_cases e:i<s.N.length;rw[a.kF i Z];have:=q.lt i Z;simp only[if_pos e];rw[if_pos Z];exact q.st i Z;rw[a.rj i Z];by_cases d:i<s.N.length;rw[a.kF i Z]at e;simp only[if_pos d];exact q.fx i Z e;simp only[if_neg d];by_cases d:i<s.N.length;rw[a.kF i Z]at e⊢;exact q.ht i Z e;exact absurd (a.rj i Z) e;by_cases d:C<s.N.length;simp only[if_pos d]at e;have n:=h.B8 C d e;show jI _ _ _ (dk f.js.sh C);have Q:dk f.js.sh C=dk s.js.sh C:=by unfold dk;rw[a.oe C d]
 rw[Q];cases w:dk s.js.sh C with|some i =>rw[w]at n;let⟨u,B,F⟩:=n;exact⟨Z,by simp only[if_pos u];exact B,by rw[(fL m.pre u).1];exact F⟩|none =>rw[w]at n;intro i b l;let⟨o,z⟩:=r i C d l;rw[(fL m.pre o).1];exact n i o z
 show jI _ _ _ (dk f.js.sh C);unfold dk;rw[a.xm C Z k];by_cases g:(tn f.N C).k=1;rw[if_pos g];rw[h.ZI C Z];intro i b l;rw[t i C Z l];exact g;rw[if_neg g];exact⟨by simpa using k,by simp only[dp_];exact if_neg d,by simpa using g⟩;by_cases d:C<s.N.length;simp only[if_pos d]at e;have n:=h.aY C d e;show wT _ _ _ (aH f.js.ls (C:Int));rw[a.nA C d];cases w:aH s.js.ls (C:Int) with|some v =>rw[w]at n;let⟨⟨j,u,B,F,R⟩,S⟩:=n;refine⟨⟨j,Z,by simp only[if_pos u];exact B,by rw[(fL m.pre u).1];exact F,by rw[(fL m.pre u).1];exact R⟩,λi b l g=>?_⟩;let⟨o,z⟩:=r i C d l;rw[(fL m.pre o).1]at g⊢;exact S i o z g|none =>rw[w]at n;intro i b l;let⟨o,z⟩:=r i C d l;rw[(fL m.pre o).1];exact n i o z
 show wT _ _ _ (aH f.js.ls (C:Int));rw[a.xp C Z k];by_cases g:(tn f.N C).k=1;rw[if_pos g];refine⟨⟨C,k,if_neg d,g,rfl⟩,λi b l _=>?_⟩;rw[t i C Z l];exact bp_ _;rw[if_neg g,h.frl C Z];intro i b l;rw[t i C Z l];exact g
end
end Go.Proofs.YtbdcmpknicjopaaGreat
