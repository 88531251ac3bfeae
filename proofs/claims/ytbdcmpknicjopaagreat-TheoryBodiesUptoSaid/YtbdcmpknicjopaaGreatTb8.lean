import Derived.Test.YtbdcmpknicjopaaGreatProg
import Derived.Test.YtbdcmpknicjopaaGreatTb7
namespace Go.Proofs.YtbdcmpknicjopaaGreat
set_option linter.all false
set_option maxRecDepth 100000
open Go.RowKit Proofs.Tryz
variable{B C a b j m n q x:Nat}{E:List (Tm×Tm)}{K:List gE}{O:Hd}{ON:Tm->Bool}{P' ps zzD:List (Nat×Nat)}{Q:Exit->AA->ah->Prop}{R:AV->ah->Prop}{S S' S1 S2:ah}{U Yf aE:AA}{Y:World}{aZ9 bs:List QO}{args0:List AV}{c c' h:Nat->Nat}{cf cf1 cf2:QF}{ch:List PanicEntry}{d:Option Nat}{dr e:Bool}{ds:List DE}{ex:Exit}{g:FuncId}{ik:IntKind}{lo:Nat->Int}{qs:List QR}{sh:Nat->Option Nat}{t:Tm}{up:List Nat}{v:Value}
variable{f:FuncId}{s:Int->Tm}{args:List AV}{l:List Int}{r:List Nat×Nat}{N i:Nat}{P:Prop}{T:Type}
section
attribute [local irreducible] ao aF D H
def Rm:Nat:=1099511627776
mutual def Tm.ok:Tm->Prop|⟨k,i,n,a⟩=>a.length<=Rm/\n.size<=Rm/\dS a def dS:List Tm->Prop|[]=>True|x::l=>x.ok/\dS l end
theorem dS.mem:∀{l:List Tm},dS l->∀x∈l,x.ok|[],_,x,h=>I|y::l,a,x,h=>by rw[dS]at a;rcases ae_.1 h with rfl|h;grind;exact a.2.mem x h
theorem Tm.ok.out(h:t.ok):t.a.length<=1099511627776/\t.n.size<=1099511627776/\dS t.a:=by let⟨k,i,n,a⟩:=t;rw[Tm.ok]at h;exact h
def arp:=aD func318 call318
def anj:List Nat:=[3,2,0,4,6,8]
def arq:=aD func279 call279
def ank:List Nat:=[4,2,0,1,5,7,9]
def ars:=aD func223 call223
def anl:List Nat:=[0,1,4,5,9]
def art:=aD func280 call280
def anm:List Nat:=[0,1,4,5,9]
def aru:=aD func256 call256
def ann:List Nat:=[0,2]
def arv:=aD func334 call334
def ano:List Nat:=[0,2]
def arw:=aD func194 call194
def aek:List Nat:=[0,1,6,4,5,11,12,13,16,19]
def arx:=aD func319 call319
def ael:List Nat:=[0,1,6,4,5,11,12,13,16,19]
def ary:=aD func193 call193
def Ck:List Nat:=[8,5,3,2,0,7,9,6,14]
def arz:=aD func292 call292
def HM:List Nat:=[2,3,20,5,21,6,7,4,0,1,16,29,39,47]
def arA:=aD func320 call320
def yD:List Nat:=[9,0,5,6,4,8,10,1,22]
def Po:=aD func222 call222
def mZ:List Nat:=[2,3,5,15,16,4,0,1,12,24,34,41,54,61]
def arB:=aD func153 call153
def nR:List Nat:=[5,0,1,6,4,16,29]
def iY(k:Int):Int:=if k=1 then 0 else if k=0 then 1 else if k=2 then 2 else 3
def jG(a b:Int):Int:=if a<b then-1 else if b<a then 1 else 0
def Ao(a b:ByteArray):Int:=if Op.bytesLess a.toList b.toList then-1 else if Op.bytesLess a.toList b.toList||a.toList==b.toList then 0 else 1
def CB:List Int->Int|[]=>0|x::l=>if x=0 then CB l else x
def fS(a b:Int):Int:=if a=0 then b else a
mutual def eU:Tm->Tm->Int|⟨k,i,n,a⟩,y=>fS (jG (iY k) (iY y.k)) (if iY k=0\/iY k=1 then jG i y.i else if iY k=2 then fS (jG a.length y.a.length) (fS (Ao n y.n) (iC a y.a)) else fS (jG k y.k) (fS (jG i y.i) (Ao n y.n)))def iC:List Tm->List Tm->Int|[],m=>jG 0 m.length|x::l,[]=>1|x::l,y::m=>fS (eU x y) (iC l m)end
theorem anp(k:Int):ab Y 318 [iv k] (iv (iY k)):=by
 refine st arp anj .v ?_;repeat' first|refine bq (λa=>?_) λa=>?_<;>(try simp only[bY]at a)<;>(first|refine Z anj ?_)|refine fq ?_
 all_goals refine aH.of_eq ?_;simp_all[iY,iv]
theorem uU(x:Tm):ab Y 279 [tm O x] (iv (iY x.k)):=by
 let⟨k,i,n,a⟩:=x;refine st arq ank .v ?_;repeat' first|refine bq (λb=>?_) λb=>?_<;>(try simp only[bY]at b)<;>(first|refine Z ank ?_)|refine fq ?_
 all_goals refine aH.of_eq ?_;simp_all[iY,iv]
theorem Dv(a b:Int):ab Y 223 [iv a,iv b] (iv (jG a b)):=by
 refine st ars anl .v ?_;repeat' first|refine bq (λc=>?_) λc=>?_<;>(try simp only[bY]at c)<;>(first|refine Z anl ?_)|refine fq ?_
 all_goals refine aH.of_eq ?_;simp only[jG,iv];(repeat' split)<;>first|rfl|omega
theorem V7(a b:ByteArray):ab Y 280 [.v (.string a),.v (.string b)] (iv (Ao a b)):=by
 refine st art anm .v ?_;repeat' first|refine bq (λc=>?_) λc=>?_<;>(try simp only[bY]at c)<;>(first|refine Z anm ?_)|refine fq ?_
 all_goals refine aH.of_eq ?_;simp_all[Ao,iv]
theorem anq(a:Int):ab Y 256 [iv a] (.v (.bool false)):=by
 refine st aru ann .v ?_;repeat' first|refine bq (λb=>?_) λb=>?_<;>(try simp only[bY]at b)<;>(first|exact dF b|refine Z ann ?_)|refine fq ?_
 all_goals refine aH.of_eq ?_;simp_all
theorem anr(a:ByteArray):ab Y 334 [.v (.string a)] (.v (.bool false)):=by
 refine st arv ano .v ?_;repeat' first|refine bq (λb=>?_) λb=>?_<;>(try simp only[bY]at b)<;>(first|exact dF b|refine Z ano ?_)|refine fq ?_
 all_goals refine aH.of_eq ?_;simp_all
theorem Qa(a b:Int):ab Y 194 [iv a,iv b] (iv (jG a b)):=by
 refine st arw aek .v ?_;repeat' first|refine H.op rfl (D.bM rfl (anq _) ⟨.v,trivial⟩) ?_;refine Z aek ?_|refine bq (λc=>?_) λc=>?_<;>(try simp only[bY]at c)<;>(first|refine Z aek ?_)|refine fq ?_
 all_goals refine aH.of_eq ?_;simp only[jG,iv];(repeat' split)<;>first|rfl|omega
theorem ans(a b:ByteArray):ab Y 319 [.v (.string a),.v (.string b)] (iv (Ao a b)):=by
 refine st arx ael .v ?_;repeat' first|refine H.op rfl (D.bM rfl (anr _) ⟨.v,trivial⟩) ?_;refine Z ael ?_|refine bq (λc=>?_) λc=>?_<;>(try simp only[bY]at c)<;>(first|refine Z ael ?_)|refine fq ?_
 all_goals refine aH.of_eq ?_;simp_all[Ao,iv]
theorem dx{S:ah}{a b:Int}(h:a=b):aH S (.v (.int .i64 a)) (iv b):=by subst h;exact aH.refl _
theorem aL{S:ah}{a b:Bool}(h:a=b):aH S (.v (.bool a)) (.v (.bool b)):=by subst h;exact aH.refl _
theorem ant(l:List Int)(d:l.length<=Rm):ab Y 193 [aY O aR false l] (iv (CB l)):=by
 rw[Rm]at d;refine st ary Ck .v ?_;repeat' first|refine b8 λm e=>?_;(try rw[az]at e);refine Z Ck ?_
 refine H.ic (σ:=Int) 0 0 [] (λi=>[(3,.v (.int .i64 0)),(6,aY O aR false l),(7,.v (.int .i64 m)),(8,.v (.int .i64 i))]) [] (λ_=>[]) (λi=>∃k:Nat,i=k/\k<=l.length/\CB l=CB (l.drop k)) (λi=>l.length-i.toNat) 0 ⟨0,rfl,aB,aB⟩ rfl cq ?_;rintro i⟨k,g,n,b⟩;refine Z Ck ?_;by_cases c:k<l.length
 ·let⟨x,h,j⟩:∃x,l[k]?=some x/\l.drop k=x::l.drop (k+1):=⟨l[k],av_ c,bN_ c⟩;rw[j,CB]at b;repeat' first|refine H.op rfl (D.ind rfl rfl (eZ (l:=l) g h) (ec λ_=>rfl)) ?_;refine Z Ck ?_|refine bq (λa=>?_) λa=>?_<;>(try simp only[bY]at a)<;>(first|refine Z Ck ?_)|refine cG λ_ _=>?_;refine Z Ck ?_|refine xG Ck ?_|refine H.am1 ?_;refine Z Ck ?_|refine fq ?_
  grind[dx];rw[if_pos I]at b;refine H.bO (σ:=Int) _ [] ?_ ?_ cq;grind;omega;omega
 ·skip;repeat' first|refine bq (λa=>?_) λa=>?_<;>(try simp only[bY]at a)<;>(first|refine Z Ck ?_)|refine H.lQ ?_;refine Z Ck ?_|refine fq ?_
  omega;rw[b,al_ (by omega)];exact dx rfl
end
theorem abj(d:1<=B):kH B (.arr 1 [[.yl 0]] 0 true):=λrow b a c=>by cases ak_.1 b;cases ak_.1 c;exact .yl X
theorem pq(h:P:=by first|exact .v|exact bJ _|exact c9 _|exact cR _|exact a6 _|exact bC _|exact dH _|exact eu _|exact eN _|exact qd _|exact bI _|exact uB _|exact iX _|exact ze _|exact uJ _|exact CW _|exact jr _|exact jO _|exact lE _|assumption|fail):P:=h
theorem kz(h:P:=by repeat' first|exact trivial|refine⟨?_,?_⟩;first|exact .aK .v|exact .lR|exact .jI rfl rfl|exact .pj rfl rfl|exact .vK rfl rfl|exact .aK (.pt (by decide))|exact .aK (.gr (by decide))|exact .aK (.mp (by decide))|exact .aK zn|exact .aK (Pure.bu pq)|exact .aK .u|exact .aK (.ip λb a=>(by assumption:∀b∈_,Pure b) b a |>.bu)):P:=h
theorem cz(h:P:=by
 refine⟨?_,rfl,?_,rfl,rfl,rfl⟩;·repeat' first|exact trivial|refine⟨?_,?_⟩;first|exact .aK rfl .v|exact .aK rfl (.pt (by decide))|exact .lR rfl|exact .jI rfl rfl|exact .pj rfl rfl|exact .vK rfl rfl|exact .new rfl rfl|exact .aK rfl (.gr (by decide))|exact .aK rfl (.mp (by decide))|exact .aK rfl (.ob (by decide))|exact .aK rfl (.yl (by decide))|exact .aK rfl zn|exact .aK rfl (Pure.bu pq)|exact .aK rfl .u|exact .aK rfl (c (by decide))
 ·repeat' first|exact trivial|refine⟨?_,?_⟩;first|exact .inr rfl|refine .inl ⟨_,rfl,?_⟩;first|exact .same trivial|exact .same wv|exact .same (by assumption)|exact .same ahl|exact .same H4|exact .same Ij|exact .same (f_ _)|exact .same (e_ _)|exact .same (pH _)|exact .same (nW _)|exact .same (nk _)|exact .same (nj _)|exact .same (o9 _)|exact .same (Vv _)|exact .same (d _)|exact .same (rN (by omega))|exact .same (vQ (by decide))|exact .same (abj (by decide))|exact .same (kG λx _=>Ku x)|exact .same (kG λx _=>Kt x)|exact .same (kG λx _=>e x)|exact .same (kG λx _ a b=>As x a b)|exact .arr ⟨kz,trivial⟩|exact .same (Uq λa b=>by obtain rfl:=ak_.1 b;exact pq)):P:=h
theorem pz(h:P:=by first|(repeat' first|exact trivial|refine⟨?_,?_⟩;exact pq);done|exact QD (m:=60) rfl):P:=h
section
variable{P:Program}{rd:Bool}{y:Option (Nat×Bool)}{l:List QI}{r:AV}{f:QO}{args:List AV}
theorem pl(a:ao P Y g args r)(h:fp (f.ev U.tm) (bs.map (·.ev U.tm))=some (g,args):=by rfl)(b:iU args:=by exact pz):D P Y dr (.call f bs) U S r S:=D.bM h a b
theorem a8(G:List Nat)(a:ao P Y g args r)(k:H P Y rd n Q cf aE S1)(h:fp (f.ev U.tm) (bs.map (·.ev U.tm))=some (g,args):=by rfl)(b:iU args:=by exact pz)(c:bD U.tm y=some true:=by rfl)(e:nO G 400 (.bk dr l K) (bW d U r) S=(cf,aE,S1):=by conv=>lhs;cbv):H P Y rd n Q (.bk dr (⟨d,y,.call f bs⟩::l) K) U S:=H.op c (D.bM h a b) (H.xE G 400 e k)
end
section
variable{P:Program}{rd:Bool}{i:QI}{l:List QI}{r:AV}
theorem og(G:List Nat)(h:D P Y dr i.q U S r S')(k:H P Y rd n Q cf aE S1)(a:bD U.tm i.g=some true:=by rfl)(g:nO G 400 (.bk dr l K) (bW i.d U r) S'=(cf,aE,S1):=by conv=>lhs;cbv):H P Y rd n Q (.bk dr (i::l) K) U S:=H.op a h (H.xE G 400 g k)
theorem bg(G:List Nat)(h:D P Y dr i.q U S (.v (.bool e)) S')(a:e=true->H P Y rd n Q cf1 aE S1)(b:e=false->H P Y rd n Q cf2 Yf S2)(c:bD U.tm i.g=some true:=by rfl)(d:nO G 400 (.bk dr l K) (bW i.d U (.v (.bool true))) S'=(cf1,aE,S1):=by conv=>lhs;cbv)(g2:nO G 400 (.bk dr l K) (bW i.d U (.v (.bool false))) S'=(cf2,Yf,S2):=by conv=>lhs;cbv):H P Y rd n Q (.bk dr (i::l) K) U S:=H.bif c h (λe=>H.xE G 400 d (a e)) λe=>H.xE G 400 g2 (b e)
theorem cg(G:List Nat){a b:Prop}(c:a->H P Y rd n Q cf1 aE S1)(d:b->H P Y rd n Q cf2 Yf S2)(f:bD U.tm i.g=some true:=by rfl)(h:D P Y dr i.q U S (.v (.bool e)) S':=by exact D.bit rfl)(q1:(e=true)=a:=by conv=>lhs;(try simp only[bY]))(g:(e=false)=b:=by conv=>lhs;(try simp only[bY]))(j:nO G 400 (.bk dr l K) (bW i.d U (.v (.bool true))) S'=(cf1,aE,S1):=by conv=>lhs;cbv)(g2:nO G 400 (.bk dr l K) (bW i.d U (.v (.bool false))) S'=(cf2,Yf,S2):=by conv=>lhs;cbv):H P Y rd n Q (.bk dr (i::l) K) U S:=H.bif f h (λe=>H.xE G 400 j (c (q1 ▸ e))) λe=>H.xE G 400 g2 (d (g ▸ e))
theorem cn{a b:Prop}(c:a->H P Y rd n Q (.bk dr l K) (bW i.d U (.v (.bool true))) S')(d:b->H P Y rd n Q (.bk dr l K) (bW i.d U (.v (.bool false))) S')(f:bD U.tm i.g=some true:=by rfl)(h:D P Y dr i.q U S (.v (.bool e)) S':=by exact D.bit rfl)(q1:(e=true)=a:=by conv=>lhs;(try simp only[bY]))(g:(e=false)=b:=by conv=>lhs;(try simp only[bY])):H P Y rd n Q (.bk dr (i::l) K) U S:=H.bif f h (λe=>c (q1 ▸ e)) λe=>d (g ▸ e)
theorem ig(G:List Nat){e:Int}{cf:Int->QF}{aE:Int->AA}{S1:Int->ah}(h:D P Y dr i.q U S (.v (.int ik e)) S')(k:∀d,d=e->H P Y rd n Q (cf d) (aE d) (S1 d))(a:bD U.tm i.g=some true:=by rfl)(g:∀d,nO G 400 (.bk dr l K) (bW i.d U (.v (.int ik d))) S'=(cf d,aE d,S1 d):=by intro d;conv=>lhs;cbv):H P Y rd n Q (.bk dr (i::l) K) U S:=H.int a h λd e=>H.xE G 400 (g d) (k d e)
theorem lg(G:List Nat){e f:Int}{cf:Int->QF}{aE:Int->AA}{S1:Int->ah}(k:∀d,d=f->H P Y rd n Q (cf d) (aE d) (S1 d))(a:bD U.tm i.g=some true:=by rfl)(h:D P Y dr i.q U S (.v (.int ik e)) S':=by exact D.len rfl)(q:e=f:=by conv=>lhs;(try rw[az]))(g:∀d,nO G 400 (.bk dr l K) (bW i.d U (.v (.int ik d))) S'=(cf d,aE d,S1 d):=by intro d;conv=>lhs;cbv):H P Y rd n Q (.bk dr (i::l) K) U S:=H.int a h λd e=>H.xE G 400 (g d) (k d (q ▸ e))
theorem ag(G:List Nat){e:Int}{cf:Int->QF}{aE:Int->AA}{S1:Int->ah}(k:∀d,d=e->H P Y rd n Q (cf d) (aE d) (S1 d))(a:bD U.tm i.g=some true:=by rfl)(h:D P Y dr i.q U S (.v (.int ik e)) S':=by exact D.yU rfl rfl rfl (by omega) (by omega))(g:∀d,nO G 400 (.bk dr l K) (bW i.d U (.v (.int ik d))) S'=(cf d,aE d,S1 d):=by intro d;conv=>lhs;cbv):H P Y rd n Q (.bk dr (i::l) K) U S:=H.int a h λd e=>H.xE G 400 (g d) (k d e)
theorem xG{σ:Type}{st:σ->List (Nat×AV)}{so:σ->List (Nat×Ob)}{a:σ->Prop}{μ:σ->Nat}{k id:Nat}(G:List Nat)(c:H P Y rd n Q cf aE S1)(h:nO G 400 (.out (.exit id) K) U S=(cf,aE,S1):=by conv=>lhs;cbv):H P Y rd n (E0 P Y rd n B N st ds so a μ Q K k) (.out (.exit id) []) U S:=H.lQ (H.xE G 400 h c)
theorem rG{σ:Type}{st:σ->List (Nat×AV)}{so:σ->List (Nat×Ob)}{a:σ->Prop}{μ:σ->Nat}{k:Nat}(G:List Nat)(c:H P Y rd n Q cf aE S1)(h:nO G 400 (.out .ret K) U S=(cf,aE,S1):=by conv=>lhs;cbv):H P Y rd n (E0 P Y rd n B N st ds so a μ Q K k) (.out .ret []) U S:=H.am1 (H.xE G 400 h c)
theorem D.bh{l:List T}{f:T->List AV}{O:Hd}{ex:Bool}{x i:QO}{k:IntKind}{j:Int}{y:T}(hi:j=(q:Int))(a:l[q]?=some y)(h1:x.ev U.tm=.sl ex (O.h (List.map f) l):=by rfl)(h2:i.ev U.tm=.v (.int k j):=by rfl)(h4:∀x,(f x).length=m:=by exactλ_=>rfl):D P Y dr (.yW m x i) U S (.ip (f y)) S:=D.ind h1 h2 (eZ hi a) (ec h4)
theorem bE{c:QC}(B N:Nat)(m:List (Nat×Nat))(st:Int->List (Nat×AV))(ds:List DE)(so:Int->List (Nat×Ob))(z:Nat)(J:Nat->Prop)(h0:J 0)(h:∀(i:Int) (k:Nat),i=k->k<=z->J k->H P Y rd n (E0 P Y rd n B N st ds so (λi=>∃k:Nat,i=k/\k<=z/\J k) (λi=>z-i.toNat) Q K (z-i.toNat)) (.run c []) (jw (st i) ds) (aw (so i) N))(a:Nat.ble S.nx B=true:=by rfl)(hC:Canon B N m U S (st 0) ds (so 0):=by exact cz):H P Y rd n Q (.run (.loop c) K) U S :=H.ic (σ:=Int) B N m st ds so (λi=>∃k:Nat,i=k/\k<=z/\J k) (λi=>z-i.toNat) 0 ⟨0,rfl,aE_ _,h0⟩ a hC λi ⟨k,b,d,e⟩=>h i k b d e
theorem cw{z:Nat}{st:Int->List (Nat×AV)}{so:Int->List (Nat×Ob)}{J:Nat->Prop}(s:Int)(m:List (Nat×Nat))(k:Nat)(a:J k)(hC:Canon B N m U S (st s) ds (so s):=by exact cz)(hi:s=k:=by omega)(b:k<=z:=by omega)(c:z-s.toNat<q:=by omega):H P Y rd n (E0 P Y rd n B N st ds so (λi=>∃k:Nat,i=k/\k<=z/\J k) (λi=>z-i.toNat) Q K q) (.out .normal []) U S:=H.bO s m ⟨k,hi,b,a⟩ c hC
theorem cr{τ:Type}{c:QC}(B N:Nat)(m:List (Nat×Nat))(st:Int×τ->List (Nat×AV))(ds:List DE)(so:Int×τ->List (Nat×Ob))(z:Nat)(J:Nat->Int×τ->Prop)(t0:τ)(h0:J 0 (0,t0))(h:∀(i:Int) (k:Nat) (t:τ),i=k->k<=z->J k (i,t)->H P Y rd n (E0 P Y rd n B N st ds so (λp=>∃k:Nat,p.1=k/\k<=z/\J k p) (λp=>z-p.1.toNat) Q K (z-i.toNat)) (.run c []) (jw (st (i,t)) ds) (aw (so (i,t)) N))(a:Nat.ble S.nx B=true:=by rfl)(hC:Canon B N m U S (st (0,t0)) ds (so (0,t0)):=by exact cz):H P Y rd n Q (.run (.loop c) K) U S :=H.ic (σ:=Int×τ) B N m st ds so (λp=>∃k:Nat,p.1=k/\k<=z/\J k p) (λp=>z-p.1.toNat) (0,t0) ⟨0,rfl,aE_ _,h0⟩ a hC λ(i,t) ⟨k,b,d,e⟩=>h i k t b d e
theorem bP{τ:Type}{z:Nat}{st:Int×τ->List (Nat×AV)}{so:Int×τ->List (Nat×Ob)}{J:Nat->Int×τ->Prop}(s:Int×τ)(m:List (Nat×Nat))(k:Nat)(a:J k s)(hC:Canon B N m U S (st s) ds (so s):=by exact cz)(hi:s.1=k:=by first|omega|simp only;omega)(b:k<=z:=by omega)(c:z-s.1.toNat<q:=by first|omega|simp only;omega):H P Y rd n (E0 P Y rd n B N st ds so (λp=>∃k:Nat,p.1=k/\k<=z/\J k p) (λp=>z-p.1.toNat) Q K q) (.out .normal []) U S:=H.bO s m ⟨k,hi,b,a⟩ c hC
end
section
attribute [local irreducible] ao aF D H
def aA{l:List T}{k:Nat}(h:k<l.length):∃x,l[k]?=some x/\l.drop k=x::l.drop (k+1):=⟨l[k],av_ h,bN_ h⟩
def aW{l:List T}{k:Nat}{x:T}(h:l[k]?=some x):x∈l:=am_ h
theorem F3{a b:Int}(h:jG a b=0):a=b:=by grind[jG]
theorem arC(x y z:Int):ab Y 193 [aY .plain aR false [x,y,z]] (iv (CB [x,y,z])):=ant [x,y,z] (by simp[Rm])
theorem abk:iC [] []=0:=by simp[iC,jG]
theorem V8{a b:List Tm}(h:∀x∈a,∀y,x.ok->y.ok->ab Y 292 [tm O x,tm O y] (iv (eU x y)))(j:dS a)(n:dS b)(r:a.length<=1099511627776)(s:a.length=b.length):ab Y 320 [tl O a,tl O b] (iv (iC a b)):=by
 refine st arA yD .v ?_;repeat' first|refine lg yD λm t=>?_
 refine bE 0 0 [] (λi=>[(0,tl O a),(1,tl O b),(8,.v (.int .i64 m)),(9,.v (.int .i64 i))]) [] (λ_=>[]) a.length (λk=>iC a b=iC (a.drop k) (b.drop k)) aB λi k e u f=>?_;refine Z yD ?_;by_cases o:k<a.length
 ·let⟨x,c,p⟩:=aA o;let⟨y,g,q⟩:=aA (show k<b.length by omega);rw[p,q,iC,fS]at f;repeat' first|refine og yD (D.ind rfl rfl (cD (l:=a) e c) cE) ?_|refine og yD (D.ind rfl rfl (cD (l:=b) e g) cE) ?_|refine ig yD (pl (h x (aW c) y (j.mem x (aW c)) (n.mem y (aW g)))) λ_ _=>?_|refine cg yD (λd=>?_) λd=>?_|refine ag yD λ_ _=>?_|refine xG yD ?_|refine rG yD ?_|refine fq ?_
  grind[dx];subst_vars;rw[if_pos I]at f;refine H.bO _ [] ?_ ?_ cq;grind;omega;omega
 ·skip;repeat' first|refine cg yD (λd=>?_) λd=>?_|refine xG yD ?_|refine fq ?_
  omega;grind[abk,dx]
theorem OJ(x y:Tm)(c:x.ok)(d:y.ok):ab Y 292 [tm O x,tm O y] (iv (eU x y)):=by
 revert y c d;refine Tm.ind (p:=λx=>∀y:Tm,x.ok->y.ok->ab Y 292 [tm O x,tm O y] (iv (eU x y))) ?_ x;intro k i n a h y c d;let⟨e,j,f⟩:=c.out;let⟨l,o,g⟩:=d.out;let⟨s,t,u,q⟩:=y;dsimp only at e j f l o g;rw[eU];dsimp only;refine st arz HM .v ?_;repeat' first|refine ig HM (pl (anp _)) λ_ _=>?_|refine ig HM (pl (Qa _ _)) λ_ _=>?_|refine ig HM (pl (ans _ _)) λ_ _=>?_|refine ig HM (pl (V8 (a:=a) (b:=q) h f g e (by grind[F3]))) λ_ _=>?_|refine ig HM (D.jN rfl (arC _ _ _) ⟨bJ _,trivial⟩ ⟨Wk.sl,trivial⟩) λ_ _=>?_|refine cg HM (λr=>?_) λr=>?_|refine lg HM λm v=>?_|refine fq ?_
 all_goals subst_vars;refine dx ?_;simp only[fS,CB];(repeat' split)<;>first|rfl|omega
end
section
variable{P:Program}
theorem D.ext{f:QO}{xs:List Value}(h:f.ev U.tm=.v (.func (.func g) #[] #[]))(e:aZ9.map (·.ev U.tm)=xs.map .v)(i:∀w:World,(callFunc g xs.toArray).run P w=.ok (.value v) w):D P Y false (.call f aZ9) U S (.v v) S:=by
 refine D.run λn o j=>?_;obtain⟨c,u,k,m,rfl,rfl⟩:=mC j;rw[jL]at e;rw[aU]at h;refine bj.quiet λA C q w E a=>?_;have b:=a.ev u;rw[h]at b;have p:=cC b;have key:∀(l:List Operand)(xs:List Value),l.map U.ev=xs.map AV.v->l.map q.eval=xs:=by intro l;induction l with
  |nil =>intro xs h;cases xs with|nil=>rfl|cons x xs=>cases h
  |cons y l r =>intro xs h;cases xs with|nil=>cases h|cons x xs =>rw[aF_,aF_]at h;injection h with s t;have d:=a.ev y;rw[s]at d;rw[aF_,cC d,r xs t]
 have z:c.args.map q.eval=xs.toArray:=I;refine⟨v,?_,.v⟩;have B:=i w;simp[execOp,k,m,p,z,B,resolve,invoke,Deferred.ofValue]
end
def HN(P:Program)(Y:World)(f:FuncId)(args:List AV)(S:ah)(ch:List PanicEntry)(S':ah):Prop :=(∀(b:Array Value)(w:World),(callFunc f b).run P w=.ok (.enter f b) w) /\∀(F:Fence)(m:Nat)(A:Nat->Prop)(g:Gh)(a:Array Value)(w:World),my F->St Y A g S w->nL g w args a ->CallsIn F m P f a w λe c=>∃d,e=.panicked ch/\St Y A d S' c/\Ext A g w d c
def yZ(P:Program)(Y:World)(f:FuncId)(args:List AV)(ch:List PanicEntry):Prop:=∃S',HN P Y f args ah.none_ ch S'
section
variable{P:Program}{rd:Bool}{r:AV}{i:QI}{l:List QI}
theorem yZ.adw(h:yZ P Y f args ch)(s:∀a∈args,Pure a)(S:ah)(t:args0.length=args.length)(u:∀(i:Nat) (j a:AV),args0[i]?=some j->args[i]?=some a->aH S j a):HN P Y f args0 S ch S:=by
 let⟨S1,v,y⟩:=h;refine⟨v,λF m A g c w z d l=>?_⟩;have n:∀b q,(g.still S).fz b q->b<w.heap.size:=by rintro b q(o|⟨k,N,rows,fz,ex,B,C,rfl,o⟩);exact d.dN b q o;exact(d.cY k _ B C).2.1
 refine(y F m _ _ c w z (d.inner (g.still S).fz (λ_ _ h=>.inl h) n) ⟨l.1.trans t,λi a x p E=>?_⟩).mono ?_;have G:i<args0.length:=I;have r:=av_ G;exact aN.pure (g:=g.still S) (g':=⟨g.ob,g.cp,λ_=>False,(g.still S).fz,g.fo⟩) (λ_ _ h=>h) (λ_ _ _=>rfl) ((u i _ a r p).rep d (l.2 i _ x r E)) (s a (am_ p));rintro e R⟨T,rfl,J,K⟩;let⟨L,M⟩:=d.outer (λ_ _ h=>.inl h) n J K;exact⟨_,rfl,M,L⟩
def yZ.QM(h:yZ P Y f args ch)(b:iU args){S:ah}(a:iW S args0 args):HN P Y f args0 S ch S:=h.adw b.all S a.len a.at
theorem aem{o:Oper}{c:Call}{f:Operand}{b:FuncId}(k:o.op=.call c)(l:c.callee=.value f)(p:∀(A:Nat->Prop) (g:Gh) (a:Act) (w:World),St Y A g S w->cO g w n U a->∃first cap,a.eval f=.func (.func b) first cap/\nL g w args (first++c.args.map a.eval++cap))(h:HN P Y b args S ch S'):OpP P Y n o U S ch S':=by
 intro F m A g a w next Q d i q r;rw[Oper.semAt_eq _ _ _ λc' e=>I];let⟨first,cap,s,t⟩:=p A g a w i q;have u:(execOp a.eval o).run P w=.ok (.enter b (first++c.args.map a.eval++cap)) w:=by simp only[execOp,k,resolve,l,s,Deferred.ofValue,Sem.run_bind,Sem.run_pure,Result.andThen_ok,invoke];exact h.1 _ w
 rw[u,Oper.uponIn_enter];refine⟨λj=>(by rw[d.2.1]at j;cases j),(h.2 F (m-1) A g _ w d i t).mono ?_⟩;rintro e v⟨x,rfl,y,z⟩;exact r v x y z
theorem zY.call{f:QO}(h:fp (f.ev U.tm) (aZ9.map (·.ev U.tm))=some (g,args))(k:HN P Y g args S ch S'):zY P Y (.call f aZ9) U S ch S':=by intro n o l;obtain⟨c,u,m,p,rfl,rfl⟩:=mC l;rw[jL,aU]at h;unfold fp at h;refine aem m p (λA C a w E d=>?_) k;have b:=d.ev u;split at h;rename_i q x y e;split at h;rename_i F G;injection h with h;injection h with i j;subst i j;rw[e]at b;have r:x=#[]:=I;have s:y=#[]:=I;subst r s;refine⟨#[],#[],cC b,?_⟩;rw[Array.empty_append,Array.append_empty];exact tZ d c.args;grind;rename_i q x y e;injection h with h;injection h with i j;subst i j;rw[e]at b;let⟨t,ds,v,z,B⟩:=Gq b;exact⟨t,ds,v,nb (nb z (tZ d c.args)) B⟩;grind
def zY.bM{f:QO}(h:fp (f.ev U.tm) (aZ9.map (·.ev U.tm))=some (g,args0))(a:yZ P Y g args ch)(b:iU args)(c:iW S args0 args):zY P Y (.call f aZ9) U S ch S:=zY.call h (a.QM b c)
def H.IS(a:bD U.tm i.g=some true)(h:zY P Y i.q U S ch S')(k:H P Y rd n Q (.out (.panic ch) K) U S'):H P Y rd n Q (.bk false (i::l) K) U S:=lD.IS a h k
def toV:AV->Option Value
 |.v x=>some x|.agg l=>match toVs l with|some cs=>some (.agg cs.toArray)|none=>none
 |_=>none where toVs:List AV->Option (List Value)|[]=>some []|a::l=>match toV a,toVs l with|some x,some cs=>some (x::cs)|_,_=>none
theorem toVs_at:∀{l:List AV}{cs:List Value},toV.toVs l=some cs->cs.length=l.length/\∀(i:Nat)(a:AV),l[i]?=some a->∃x,cs[i]?=some x/\toV a=some x
 |[],cs,h=>by simp only[toV.toVs,oI_]at h;subst h;exact⟨rfl,λi a h=>I⟩|a::l,cs,h=>by
  simp only[toV.toVs]at h;split at h;rename_i x d e f;cases oJ_ h;let⟨j,g⟩:=toVs_at f;refine⟨I,λi b c=>?_⟩;cases i with|zero=>simp at c;subst c;exact⟨x,rfl,e⟩|succ i=>simp at c;simpa using g i b c
  grind
theorem Cs{g:Gh}{w:World}{a:AV}{y:Value}(d:aN g w a y):∀{x:Value},toV a=some x->y=x:=by induction d with|v=>intro x h;simp only[toV,oI_]at h;exact h|@agg l q r h e =>intro x b;simp only[toV]at b;split at b;rename_i f j;cases oJ_ b;let⟨s,k⟩:=toVs_at j;congr 1;apply Array.ext;grind;intro i m t;have c:i<l.length:=I;let⟨x,n,o⟩:=k i _ (av_ c);have p:=e i _ _ (av_ c) (aI_ m) o;rw[p];have:=aA_.1 n;simp[<-this.2];grind|_=>intro x h;simp[toV]at h
theorem aen{o:Op}{t:Nat}{x:QO}(h:res P.toTables o=some (.Qw t x)):∃u,o=.makeInterface t u/\x=qo u:=by cases o with|makeInterface c u =>simp only[res,oI_]at h;injection h with a b;subst a;exact⟨u,rfl,b.symm⟩|_ =>
  simp only[res]at h;repeat' split at h
  all_goals cases h
def isIf(T:Tables)(t:TypeId):Bool:=match i_ T t with|some (.interface _)=>true|some _=>false|none=>true
theorem D.Qw{t:Nat}{x:QO}(f:toV (x.ev U.tm)=some v)(b:isIf P.toTables t=false):D P Y false (.Qw t x) U S (.v (.iface t v)) S:=by refine D.run λn o h=>?_;obtain⟨u,i,rfl⟩:=aen h;rw[aU]at f;refine bj.quiet λA g a w l j=>⟨.iface t v,?_,.v⟩;have e:=Cs (j.ev u) f;unfold isIf at b;rw[cN]at b;simp only[execOp,i,e,Instr.makeInterface];cases c:P.underlying t with|none=>rw[c]at b;cases b|some d =>
  have k:(underlying t).run P w=.ok d w:=by simp[underlying,c]
  rw[c]at b;cases d<;>simp_all
theorem aiw{o:Op}{x:QO}(h:res P.toTables o=some (.IS x)):∃u,o=.panic u/\x=qo u:=by cases o with|panic u =>simp only[res,oI_]at h;injection h with a;exact⟨u,rfl,a.symm⟩|_ =>
  simp only[res]at h;repeat' split at h
  all_goals cases h
theorem zY.IS{x:QO}{t:TypeId}(b:x.ev U.tm=.v (.iface t v)):zY P Y (.IS x) U S [{v:=.iface t v,recovered:=false }] S:=by
 intro n o c;obtain⟨u,d,rfl⟩:=aiw c;rw[aU]at b;intro F m A g a w next Q k f h i;rw[Oper.semAt_eq _ _ _ λc' e=>I];have e:=h.ev u;rw[b]at e;have e:=cC e;have j:(execOp a.eval o).run P w=.halt (.panic (.iface t v)) w:=by simp[execOp,d,e,Instr.panic,goPanic]
 rw[j,Oper.uponIn_panic];exact i w g f (Ext.refl ..)
def Ge(qs:List QR)(R:AV->ah->Prop)(E:List PanicEntry->ah->Prop)(ex:Exit)(U:AA)(S:ah):Prop:=match ex with|.panic ch=>U.df=[]/\E ch S|ex=>vm qs R ex U S
theorem H.ajR{E:List PanicEntry->ah->Prop}(a:OZ ex=true)(h:Mu qs ex U S=some (r,S'))(k:R r S'):H P Y rd n (Ge qs R E) (.out ex []) U S:=by show Ge qs R E ex U S;cases ex<;>first|exact⟨r,S',h,k⟩|cases a
def H.ajQ{E:List PanicEntry->ah->Prop}(a:U.df=[])(k:E ch S):H P Y rd n (Ge qs R E) (.out (.panic ch) []) U S:=⟨a,k⟩
theorem HN.anu{fn:Func}{c:Code}(k:P.funcs[f]?=some fn)(l:fn.body=some c)(o:∀(xs:Array Value) (w:World),(callFunc f xs).run P w=.ok (.enter f xs) w)(p:fn.ntmps=n)(q:args.length<=n)(r:aE.df=[])(h:ez P Y false n c ⟨qc args,[]⟩ S (.panic ch) aE S'):HN P Y f args S ch S':=by
 refine⟨o,λF m A g a w i s t=>?_⟩;have key:CallsIn F.plain m P f a w λe b=>∃d,e=.panicked ch/\St Y A d S' b/\Ext A g w d b:=by refine callsIn_of_wp_marks k l (i.1 f) ?_ rfl;rw[p];refine wpIn_mono (h F.plain m A g _ w i.plain rfl s (D1 t q)) ?_;rintro u j b⟨rfl,d,v,x,y⟩;show LeavesInM F.plain m P fn j.tmps _ j.defers (.panicking ch) b;rw[x.df,r];exact⟨d,rfl,v,y⟩
 exact key
theorem qz.afa{q:QC×List QR}{b:Bool}(F:qz P f q n)(i:args.length<=n)(p:Pure r)(h:H P Y false n (Ge q.2 (λa S=>b=true/\aH S a r) λd S=>b=false/\d=ch) (.run q.1 []) ⟨qc args,[]⟩ ah.none_):(b=true->ao P Y f args r)/\(b=false->yZ P Y f args ch):=by
 let⟨fn,c,j,k,l,s,t,u,m⟩:=F.out;let⟨ex,aE,S',o,g⟩:=h c t u;have g:Ge q.2 (λa S=>b=true/\aH S a r) (λd S=>b=false/\d=ch) ex aE S':=g;have nrm:vm q.2 (λa S=>b=true/\aH S a r) ex aE S'->(b=true->ao P Y f args r)/\(b=false->yZ P Y f args ch):=λv=>by let⟨a,S1,w,x,y⟩:=v;have z:vm q.2 (λa S=>aH S a r) ex aE S':=⟨a,S1,w,y⟩;exact⟨λ_=>ao.of_wp j k m l i p ⟨ex,aE,S',o,Tq s z⟩,λe=>absurd (x.symm.trans e) aB⟩
 cases ex with|panic d =>obtain⟨A,B,rfl⟩:=g;exact⟨λe=>absurd (B.symm.trans e) aB,λ_=>⟨S',HN.anu j k m l i A o⟩⟩|_=>exact nrm g
def OX(P:Program)(Y:World)(f:FuncId)(args:List AV)(b:Bool)(r:AV)(ch:List PanicEntry):Prop:=(b=true->ao P Y f args r)/\(b=false->yZ P Y f args ch)
theorem H.afb{b:Bool}{d:Option Nat}{gd:Option (Nat×Bool)}{f:QO}(a:bD U.tm gd=some true)(h:fp (f.ev U.tm) (aZ9.map (·.ev U.tm))=some (g,args0))(c:OX P Y g args b r ch)(e:iU args)(hs:Cg r)(i:iW S args0 args)(j:b=true->H P Y rd n Q (.bk false l K) (bW d U r) S)(k:b=false->H P Y rd n Q (.out (.panic ch) K) U S):H P Y rd n Q (.bk false (⟨d,gd,.call f aZ9⟩::l) K) U S:=by cases b with|true=>exact H.op a (D.tI h (c.1 rfl) e hs i) (j rfl)|false=>exact H.IS a (zY.bM h (c.2 rfl) e i) (k rfl)
end
instance:Inhabited Tm:=⟨⟨0,0,⟨#[]⟩,[]⟩⟩
theorem Zn{a b:ByteArray}:a.toList=b.toList↔a=b:=⟨λh=>by rw[ByteArray.toList_eq,ByteArray.toList_eq]at h;cases a;cases b;simp only[ByteArray.mk.injEq];exact Array.toList_inj.1 h,λh=>h ▸ rfl⟩
def vr(v:Int):Tm:=⟨1,v,⟨#[]⟩,[]⟩
mutual def mH(f:Int->Tm):Tm->Tm|⟨k,i,n,a⟩=>if k=1 then f i else⟨k,i,n,BU f a⟩def BU(f:Int->Tm):List Tm->List Tm|[]=>[]|x::l=>mH f x::BU f l end
theorem aix(f:Int->Tm)(v:Int):mH f (vr v)=f v:=by grind[vr,mH]
theorem OK(f:Int->Tm):∀l,BU f l=l.map (mH f)|[]=>by rw[BU];rfl|x::l=>by rw[BU,OK f l];rfl
mutual def pc(v:Int):Tm->Prop|⟨k,i,n,a⟩=>if k=1 then i=v else jg v a def jg(v:Int):List Tm->Prop|[]=>False|x::l=>pc v x\/jg v l end
mutual def eY:Tm->Prop|⟨k,i,n,a⟩=>if k=1 then n=⟨#[]⟩/\a=[] else fe a/\(k=2\/a=[])def fe:List Tm->Prop|[]=>True|x::l=>eY x/\fe l end
theorem fe.mem:∀{l:List Tm},fe l->∀x∈l,eY x|y::l,h,x,a=>by rw[fe]at h;rcases ae_.1 a with rfl|a;grind;exact h.2.mem x a
theorem MH:∀{l:List Tm},(∀x∈l,eY x)->fe l|[],_=>by rw[fe];trivial|y::l,h=>by rw[fe];exact⟨h y aB,MH λx a=>h x I⟩
theorem OL{v:Int}:∀{l:List Tm},jg v l↔∃x∈l,pc v x|[]=>by rw[jg];simp|y::l=>by rw[jg,OL];simp
theorem TE(h:eY t)(b:t.k=1):t=vr t.i:=by let⟨k,i,n,a⟩:=t;obtain rfl:k=1:=b;rw[eY,if_pos rfl]at h;obtain⟨rfl,rfl⟩:=h;rfl
mutual theorem V9{f:Int->Tm}:∀{t:Tm},eY t->(∀w,pc w t->f w=vr w)->mH f t=t|⟨k,i,n,a⟩,h,b=>by rw[mH];split;rename_i c;rw[b i (by grind[pc])];exact(TE h c).symm;rename_i c;rw[eY,if_neg c]at h;rw[TG h.1 λw d=>b w (by grind[pc])];theorem TG{f:Int->Tm}:∀{l:List Tm},fe l->(∀w,jg w l->f w=vr w)->BU f l=l|[],_,_=>by rw[BU]|x::l,h,b=>by rw[fe]at h;rw[BU,V9 h.1 λw d=>b w (by grind[jg]),TG h.2 λw d=>b w (by grind[jg])];end
def yG(E:List (Tm×Tm))(f:Int->Tm):Prop:=∀e∈E,mH f e.1=mH f e.2
structure HO(E:List (Tm×Tm))(s:Int->Tm):Prop where
 wf:∀v,eY (s v)idem:∀v w,pc w (s v)->s w=vr w
 low:∀v w,s v=vr w->w<=v
 V_:yG E s
 gen:∀f,yG E f->∀v,f v=mH f (s v)
theorem HO.uniq{t:Int->Tm}(hs:HO E s)(c:HO E t):s=t:=by
 have key:∀{f g:Int->Tm},HO E f->HO E g->∀v,f v=vr v->g v=vr v:=by
  intro f g j d v l;have b:=d.gen f j.V_ v;rw[l]at b;have m:(g v).k=1:=by have h:=d.wf v;generalize g v=t at b h;let⟨k,i,n,a⟩:=t;rw[mH]at b;split at b;grind;injection b with b;exact b.symm
  have e:=TE (d.wf v) m;generalize(g v).i=w at e;rw[e,aix]at b;have o:=j.low _ _ b.symm;have p:=d.low _ _ e;rw[e,show w=v by omega]
 funext v;rw[hs.gen s hs.V_ v];have b:=c.gen s hs.V_ v;rw[<-hs.gen s hs.V_ v,b];exact V9 (c.wf v) λw h=>key c hs w (c.idem v w h)
abbrev aT:=List (Tm×List Nat)
def tn(N:aT)(i:Nat):Tm:=(N[i]?.getD default).1
def ks(N:aT)(i:Nat):List Nat:=(N[i]?.getD default).2
structure fT(N:aT):Prop where
 lt:∀i,i<N.length->∀j∈ks N i,j<i
 args:∀i,i<N.length->(tn N i).a=(ks N i).map (tn N)wf:∀i,i<N.length->eY (tn N i)one:∀i j,i<N.length->j<N.length->(tn N i).k=1->(tn N j).k=1->(tn N i).i=(tn N j).i->i=j
def Sound(E:List (Tm×Tm))(N:aT)(i j:Nat):Prop:=∀f,yG E f->mH f (tn N i)=mH f (tn N j)
def alike(s t:Tm):Prop:=s.k=t.k/\s.i=t.i/\s.n=t.n/\s.a.length=t.a.length
structure vg(E:List (Tm×Tm))(N:aT)(c:Nat->Nat):Prop where
 g:fT N
 sound:∀i j,i<N.length->j<N.length->c i=c j->Sound E N i j
 eqs:∀e∈E,∃i j,i<N.length/\j<N.length/\tn N i=e.1/\tn N j=e.2/\c i=c j
 al:∀i j,i<N.length->j<N.length->c i=c j->(tn N i).k≠1->(tn N j).k≠1->alike (tn N i) (tn N j)/\(ks N i).map c=(ks N j).map c
structure DT(N:aT)(c:Nat->Nat)(T:Nat->Tm):Prop where shaped:∀i,i<N.length->(tn N i).k≠1->T (c i)=⟨(tn N i).k,(tn N i).i,(tn N i).n,(ks N i).map λj=>T (c j)⟩plain:∀i,i<N.length->(∀j,j<N.length->c j=c i->(tn N j).k=1)->∃j,j<N.length/\c j=c i/\T (c i)=vr (tn N j).i/\∀j',j'<N.length->c j'=c i->(tn N j).i<=(tn N j').i
theorem xZ{f:Int->Tm}(h:t.k≠1):mH f t=⟨t.k,t.i,t.n,t.a.map (mH f)⟩:=by let⟨k,i,n,a⟩:=t;rw[mH,if_neg h,OK]
theorem TH{f:Int->Tm}(h:t.k=1):mH f t=f t.i:=by let⟨k,i,n,a⟩:=t;rw[mH,if_pos h]
theorem anv{N:aT}(h:Sound E N i j)(hi:(tn N i).k≠1)(a:(tn N j).k≠1)(b:¬alike (tn N i) (tn N j)):¬∃f,yG E f:=by rintro⟨f,c⟩;have:=h f c;rw[xZ hi,xZ a]at this;injection this with d e g k;exact b ⟨d,e,g,by simpa using congrArg List.length k⟩
theorem Yg{N:aT}(g:fT N)(d:i<N.length)(e:j<N.length)(h:Sound E N i j)(hi:(tn N i).k≠1)(k:(tn N j).k≠1){p:Nat}(m:(ks N i)[p]?=some a)(n:(ks N j)[p]?=some b):Sound E N a b:=by intro f o;have:=h f o;rw[xZ hi,xZ k]at this;injection this with q r s c;rw[g.args i d,g.args j e]at c;have:=congrArg (λl=>l[p]?) c;simpa[m,n] using this
mutual def cP:Tm->Nat|⟨k,i,n,a⟩=>bG a+1def bG:List Tm->Nat|[]=>0|x::l=>cP x+bG l end
theorem lC:∀{l:List Tm},∀x∈l,cP x<=bG l|y::l,x,h=>by rw[bG];rcases ae_.1 h with rfl|h;omega;have:=lC x h;omega
def vh(N:aT)(c:Nat->Nat)(r:Nat->Nat):Prop:=∀i,i<N.length->(tn N i).k≠1->∀j∈ks N i,r (c j)<r (c i)
theorem Nw{N:aT}(g:fT N)(hs:∀i j,i<N.length->j<N.length->c i=c j->Sound E N i j)(h:∃f,yG E f):∃r,vh N c r:=by
 let⟨f,k⟩:=h;have key:∀C,∃n,∀i,i<N.length->c i=C->cP (mH f (tn N i))=n:=by intro C;by_cases b:∃i,i<N.length/\c i=C;let⟨i,a,b⟩:=b;exact⟨_,λj d e=>by rw[hs j i d a (e.trans b.symm) f k]⟩;exact⟨0,λi a e=>absurd ⟨i,a,e⟩ b⟩
 refine⟨λC=>(key C).choose,λi a m j d=>?_⟩;have o:=g.lt i a j d;show(key (c j)).choose<(key (c i)).choose;rw[<-(key (c i)).choose_spec i a rfl,<-(key (c j)).choose_spec j X rfl,xZ m,cP];have:=lC (l:=(tn N i).a.map (mH f)) (mH f (tn N j)) (by rw[g.args i a,bj_];exact aB_.2 ⟨j,d,rfl⟩);omega
section
variable{N:aT}{T:Nat->Tm}{r:Nat->Nat}
theorem OM(hC:vg E N c)(g:DT N c T)(n:vh N c r){f:Int->Tm}(k:yG E f):∀(m i:Nat),r (c i)<m->i<N.length->mH f (tn N i)=mH f (T (c i))|0,i,h,_=>X|m+1,i,h,l=>by by_cases b:∀j,j<N.length->c j=c i->(tn N j).k=1;let⟨j,a,d,o,_⟩:=g.plain i l b;rw[o,hC.sound i j l a d.symm f k,TH (b j a d),vr,mH,if_pos rfl];let⟨j,a,d,e⟩:∃j,j<N.length/\c j=c i/\(tn N j).k≠1:=I;rw[<-d,g.shaped j a e,hC.sound i j l a d.symm f k,xZ e,xZ (t:=⟨_,_,_,_⟩) e,hC.g.args j a];simp only[bj_,Tm.mk.injEq,true_and];refine aQ_ λp b=>?_;have q:=hC.g.lt j a p b;have s:=n j a e p b;exact OM hC g n k m p I X
theorem HP(hC:vg E N c)(b:DT N c T){f:Int->Tm}(e:∀i,i<N.length->(tn N i).k=1->f (tn N i).i=T (c i)):∀(m i:Nat),i<m->i<N.length->mH f (tn N i)=T (c i)|0,i,h,_=>X|m+1,i,h,a=>by by_cases d:(tn N i).k=1;grind[TH];rw[xZ d,b.shaped i a d,hC.g.args i a];simp only[bj_,Tm.mk.injEq,true_and];refine aQ_ λp g=>?_;have j:=hC.g.lt i a p g;exact HP hC b e m p X X
theorem Kv(hC:vg E N c)(o:DT N c T)(u:vh N c r):∀(m i:Nat),r (c i)<m->i<N.length->eY (T (c i))/\∀w,pc w (T (c i))->∃j,j<N.length/\(tn N j).k=1/\(tn N j).i=w/\T (c j)=vr w|0,i,h,_=>X|m+1,i,h,v=>by by_cases d:∀j,j<N.length->c j=c i->(tn N j).k=1;let⟨j,b,g,y,_⟩:=o.plain i v d;rw[y];refine⟨by grind[vr,eY],λw q=>?_⟩;rw[vr,pc,if_pos rfl]at q;exact⟨j,b,d j b g,q,I⟩;let⟨j,b,g,f⟩:∃j,j<N.length/\c j=c i/\(tn N j).k≠1:=I;have z:∀p∈ks N j,_:=λp d=>Kv hC o u m p (by have:=u j b f p d;rw[g]at this;omega) (by have:=hC.g.lt j b p d;omega);rw[<-g,o.shaped j b f,eY,if_neg f];refine⟨⟨MH λx A=>?_,?_⟩,λw q=>?_⟩;grind;have s:=hC.g.wf j b;have l:=hC.g.args j b;generalize tn N j=t at s l f;let⟨k,B,n,a⟩:=t;rw[eY,if_neg f]at s;refine s.2.imp_right λe=>?_;simp only at l;rw[e]at l;rw[List.map_eq_nil_iff.1 l.symm];rfl;grind[pc,OL]
open Classical in noncomputable def IQ(N:aT)(c:Nat->Nat)(T:Nat->Tm)(v:Int):Tm:=if h:∃i,i<N.length/\(tn N i).k=1/\(tn N i).i=v then T (c h.choose) else vr v
theorem CF(g:fT N)(hi:i<N.length)(a:(tn N i).k=1):IQ N c T (tn N i).i=T (c i):=by unfold IQ;have h:∃j,j<N.length/\(tn N j).k=1/\(tn N j).i=(tn N i).i:=⟨i,hi,a,rfl⟩;rw[dif_pos h,g.one _ _ h.choose_spec.1 hi h.choose_spec.2.1 a h.choose_spec.2.2]
theorem JK{v:Int}(h:¬∃i,i<N.length/\(tn N i).k=1/\(tn N i).i=v):IQ N c T v=vr v:=by grind[IQ]
theorem Qm(hC:vg E N c)(d:DT N c T)(n:vh N c r):HO E (IQ N c T):=by
 have l:∀v,(∃i,i<N.length/\(tn N i).k=1/\(tn N i).i=v/\IQ N c T v=T (c i))\/IQ N c T v=vr v:=λv=>by by_cases h:∃i,i<N.length/\(tn N i).k=1/\(tn N i).i=v;obtain⟨i,a,b,rfl⟩:=h;exact .inl ⟨i,a,b,rfl,CF hC.g a b⟩;grind[JK]
 refine⟨λv=>?_,λv w g=>?_,λv w g=>?_,λe q=>?_,λf s v=>?_⟩;rcases l v with⟨i,a,b,o,e⟩|e;rw[e];exact(Kv hC d n _ i (bl_ _) a).1;grind[vr,eY];rcases l v with⟨i,a,b,o,e⟩|e;rw[e]at g;obtain⟨j,k,b,rfl,d⟩:=(Kv hC d n _ i (bl_ _) a).2 w g;rw[CF hC.g k b,d];grind[vr,pc];rcases l v with⟨i,a,b,rfl,e⟩|e;rw[e]at g;by_cases t:∀j,j<N.length->c j=c i->(tn N j).k=1;let⟨j,k,m,u,x⟩:=d.plain i a t;rw[u,vr,vr,Tm.mk.injEq]at g;rw[<-g.2.1];exact x i a rfl;let⟨j,k,m,b⟩:∃j,j<N.length/\c j=c i/\(tn N j).k≠1:=I;rw[<-m,d.shaped j k b,vr,Tm.mk.injEq]at g;exact absurd g.1 b;grind[vr];let⟨i,j,a,k,y,z,m⟩:=hC.eqs e q;have p:∀i,i<N.length->(tn N i).k=1->IQ N c T (tn N i).i=T (c i):=λi a b=>CF hC.g a b;rw[<-y,<-z,HP hC d p _ i (bl_ _) a,HP hC d p _ j (bl_ _) k,m];rcases l v with⟨i,a,b,rfl,e⟩|e;rw[e,<-OM hC d n s _ i (bl_ _) a,TH b];grind[vr,mH]
end
def Rel(c:Nat->Nat)(P:List (Nat×Nat))(i j:Nat):Prop:=∀d:Nat->Nat,(∀x y,c x=c y->d x=d y)->(∀p∈P,d p.1=d p.2)->d i=d j
structure jS(E:List (Tm×Tm))(N:aT)(zzD:List (Nat×Nat))(c:Nat->Nat)(P:List (Nat×Nat)):Prop where
 g:fT N
 sound:∀i j,i<N.length->j<N.length->c i=c j->Sound E N i j
 pX:∀p∈P,p.1<N.length/\p.2<N.length/\Sound E N p.1 p.2eqs:∀p∈zzD,Rel c P p.1 p.2al:∀i j,i<N.length->j<N.length->c i=c j->(tn N i).k≠1->(tn N j).k≠1->alike (tn N i) (tn N j)/\∀q a b:Nat,(ks N i)[q]?=some a->(ks N j)[q]?=some b->Rel c P a b
def alike.refl(t:Tm):alike t t:=⟨rfl,rfl,rfl,rfl⟩
def alike.symm{s:Tm}(h:alike s t):alike t s:=⟨h.1.symm,h.2.1.symm,h.2.2.1.symm,h.2.2.2.symm⟩
def alike.trans{s u:Tm}(h:alike s t)(k:alike t u):alike s u:=⟨h.1.trans k.1,h.2.1.trans k.2.1,h.2.2.1.trans k.2.2.1,h.2.2.2.trans k.2.2.2⟩
section
variable{N:aT}{P:List (Nat×Nat)}
def Rel.mono(h:Rel c P i j)(a:∀d:Nat->Nat,(∀x y,c' x=c' y->d x=d y)->(∀p∈P',d p.1=d p.2)->(∀x y,c x=c y->d x=d y)/\∀p∈P,d p.1=d p.2):Rel c' P' i j:=λd b e=>h d (a d b e).1 (a d b e).2
theorem jS.mono(h:jS E N zzD c P)(f:∀p∈P',p.1<N.length/\p.2<N.length/\Sound E N p.1 p.2)(o:∀d:Nat->Nat,(∀x y,c x=c y->d x=d y)->(∀p∈P',d p.1=d p.2)->∀p∈P,d p.1=d p.2):jS E N zzD c P':=by have key:∀{i j},Rel c P i j->Rel c P' i j:=λh=>h.mono λd g r=>⟨g,o d g r⟩;exact⟨h.g,h.sound,f,λp f=>key (h.eqs p f),λi j k l e m n=>⟨(h.al i j k l e m n).1,λq a b s t=>key ((h.al i j k l e m n).2 q a b s t)⟩⟩
def jS.perm(h:jS E N zzD c P)(b:∀p,p∈P'↔p∈P):jS E N zzD c P':=h.mono (λp a=>h.pX p ((b p).1 a)) λd _ e p a=>e p ((b p).2 a)
theorem jS.pop{y:Nat}(h:jS E N zzD c ((x,y)::P))(e:c x=c y):jS E N zzD c P:=h.mono (λp a=>h.pX p (.tail _ a)) λd a b p f=>I
def iS(c:Nat->Nat)(a b:Nat)(i:Nat):Nat:=if c i=b then a else c i
def Pp(N:aT)(i j:Nat):List (Nat×Nat):=(ks N i).zip (ks N j)
def pj(N:aT):Option Nat->Option Nat->List (Nat×Nat)|some s,some t=>Pp N s t|_,_=>[]
theorem aiy{U β:Type}{l:List U}{m:List β}{a:U}{b:β}(c:l[q]?=some a)(d:m[q]?=some b):(a,b)∈l.zip m:=dw_.2 ⟨q,I⟩
def jM(N:aT)(c:Nat->Nat)(C:Nat):Option Nat->Prop|none=>∀i,i<N.length->c i=C->(tn N i).k=1|some s=>s<N.length/\c s=C/\(tn N s).k≠1
theorem oh(g:fT N)(hi:i<N.length):(ks N i).length=(tn N i).a.length:=by rw[g.args i hi,bo_]
theorem aeo{y:Nat}{d:Nat->Nat}(h1:∀u v,iS c (c x) (c y) u=iS c (c x) (c y) v->d u=d v):(∀u v,c u=c v->d u=d v)/\d x=d y:=by grind[iS]
theorem abl{y:Nat}(hs:∀i j,i<N.length->j<N.length->c i=c j->Sound E N i j)(l:x<N.length)(b:y<N.length)(n:Sound E N x y):∀i j,i<N.length->j<N.length->iS c (c x) (c y) i=iS c (c x) (c y) j->Sound E N i j:=by intro i j d g e f a;have m:=n f a;unfold iS at e;split at e;rename_i h;split at e;rename_i k;rw[hs i y d b h f a,hs j y g b k f a];rw[hs i y d b h f a,<-m,hs x j l g e f a];rename_i h;split at e;rename_i k;rw[hs i x d l e f a,m,hs y j b g k.symm f a];exact hs i j d g e f a
theorem jS.merge{y:Nat}(h:jS E N zzD c ((x,y)::P)){sa sb:Option Nat}(k:jM N c (c x) sa)(l:jM N c (c y) sb)(aS:∀s t,sa=some s->sb=some t->alike (tn N s) (tn N t)):jS E N zzD (iS c (c x) (c y)) (pj N sa sb++P):=by
 let⟨hx,hy,pG⟩:=h.pX _ (.head _);have hs:=abl h.sound hx hy pG;let⟨Q,K⟩:=aq (pj N sa sb);rw[<-K];have F:∀s t,sa=some s->sb=some t->Q=Pp N s t:=λs t e1 e2=>by rw[K,e1,e2];rfl
 have key:∀{i j},Rel c ((x,y)::P) i j->Rel (iS c (c x) (c y)) (Q++P) i j:=λhr=>hr.mono λd m n=>by let⟨r,A⟩:=aeo m;refine⟨r,λp g=>?_⟩;rcases ae_.1 g with rfl|g;grind;grind
 have S:∀i j,i<N.length->j<N.length->c i=c x->c j=c y->(tn N i).k≠1->(tn N j).k≠1->alike (tn N i) (tn N j)/\∀q a b:Nat,(ks N i)[q]?=some a->(ks N j)[q]?=some b->Rel (iS c (c x) (c y)) (Q++P) a b:=by intro i j o u L M v w;cases sa with|none=>exact absurd (k i o L) v|some s =>cases sb with|none=>exact absurd (l j u M) w|some t =>
    let⟨z,T,V⟩:=k;let⟨B,W,R8⟩:=l;let⟨a1,a2⟩:=h.al i s o z (L.trans T.symm) v V;let⟨b1,b2⟩:=h.al t j B u (W.trans M.symm) R8 w;have R:=aS s t rfl rfl;refine⟨(a1.trans R).trans b1,λq a b G VC=>?_⟩;have l1:q<(ks N i).length:=(aA_.1 G).1;have l2:(ks N i).length=(ks N s).length:=by rw[oh h.g o,oh h.g z,a1.2.2.2]
    have l3:(ks N s).length=(ks N t).length:=by rw[oh h.g z,oh h.g B,R.2.2.2]
    have On:(ks N s)[q]?=some ((ks N s)[q]'X):=av_ _;have J:(ks N t)[q]?=some ((ks N t)[q]'X):=av_ _;intro d m n;refine(key (a2 q _ _ G On) d m n).trans (Eq.trans ?_ (key (b2 q _ _ J VC) d m n));have:=aiy On J;exact n _ (List.mem_append_left _ (by rw[F s t rfl rfl];exact this))
 have ayw:∀i j,i<N.length->j<N.length->c i=c y->c j=c x->(tn N i).k≠1->(tn N j).k≠1->alike (tn N i) (tn N j)/\∀q a b:Nat,(ks N i)[q]?=some a->(ks N j)[q]?=some b->Rel (iS c (c x) (c y)) (Q++P) a b:=λi j o u L M v w=>by let⟨m,n⟩:=S j i u o M L w v;exact⟨m.symm,λq a b k l d r A=>(n q b a l k d r A).symm⟩
 refine⟨h.g,hs,λp g=>?_,λp g=>key (h.eqs p g),λi j o u e v w=>?_⟩;rcases aN_.1 g with g|g;cases sa with|none=>rw[K]at g;cases sb<;>cases g|some s =>cases sb with|none=>rw[K]at g;cases g|some t =>
   let⟨z,T,V⟩:=k;let⟨B,W,R8⟩:=l;rw[F s t rfl rfl]at g;let⟨q,C⟩:=dw_.1 g;unfold Pp at C;let⟨p1,p2⟩:=p;rw[cC_]at C;have R:Sound E N s t:=λf hf=>by rw[h.sound s x z hx T f hf,pG f hf,h.sound y t hy B W.symm f hf]
   have m1:=h.g.lt s z p1 (am_ C.1);have m2:=h.g.lt t B p2 (am_ C.2);exact⟨I,I,Yg h.g z B R V R8 C.1 C.2⟩
 exact h.pX p (.tail _ g);unfold iS at e;split at e;rename_i m;split at e;rename_i n;let⟨r,A⟩:=h.al i j o u (m.trans n.symm) v w;exact⟨r,λq a b k l=>key (A q a b k l)⟩;grind;rename_i m;split at e;grind;let⟨r,A⟩:=h.al i j o u e v w;exact⟨r,λq a b k l=>key (A q a b k l)⟩
theorem jS.ae6{y:Nat}(h:jS E N zzD c ((x,y)::P)){s t:Nat}(a:jM N c (c x) (some s))(b:jM N c (c y) (some t))(e:¬alike (tn N s) (tn N t)):¬∃f,yG E f:=by let⟨g,i,k⟩:=h.pX _ (.head _);exact anv (N:=N) (j:=t) λf d=>by rw[h.sound s x a.1 g a.2.1 f d,k f d,h.sound y t i b.1 b.2.1.symm f d] a.2.2 b.2.2 e
theorem jS.closed(h:jS E N zzD c [])(g:∀e∈E,∃p∈zzD,p.1<N.length/\p.2<N.length/\tn N p.1=e.1/\tn N p.2=e.2):vg E N c:=by
 have key:∀{i j},Rel c [] i j->c i=c j:=λh=>h c (λ_ _ e=>e) λp a=>I;refine⟨h.g,h.sound,λe k=>?_,λi j b d e m n=>?_⟩;let⟨p,a,o,r,s,t⟩:=g e k;exact⟨p.1,p.2,o,r,s,t,key (h.eqs p a)⟩;let⟨f,u⟩:=h.al i j b d e m n;refine⟨f,dx_ λq=>?_⟩;rw[aX_,aX_];have l:(ks N i).length=(ks N j).length:=by rw[oh h.g b,oh h.g d,f.2.2.2]
 by_cases v:q<(ks N i).length;grind;grind
end
section
variable{N N':aT}
theorem fM(a:∀i,i<N.length->N'[i]?=N[i]?)(hi:i<N.length):tn N' i=tn N i/\ks N' i=ks N i:=by grind[tn,ks]
theorem jS.grow(h:jS E N zzD c [])(v:∀p∈zzD,p.1<N.length/\p.2<N.length)(g':fT N')(K:N.length<=N'.length)(l:∀i,i<N.length->N'[i]?=N[i]?)(w:∀i,i<N.length->c' i=c i/\c i<N.length)(L:∀i,N.length<=i->c' i=i){y:Nat}(B:x<N'.length)(C:y<N'.length)(F:(tn N' x,tn N' y)∈E):jS E N' ((x,y)::zzD) c' [(x,y)]:=by have key:∀{i j P},i<N.length->j<N.length->Rel c [] i j->Rel c' P i j:=λn o h d g _=>g _ _ (by rw[(w _ n).1,(w _ o).1];exact h c (λ_ _ e=>e) λp l=>I);have r:∀i j,i<N'.length->j<N'.length->c' i=c' j->i=j\/i<N.length/\j<N.length/\c i=c j:=I;refine⟨g',λi j n o e=>?_,λp m=>?_,λp m=>?_,λi j n o e z A=>?_⟩;rcases r i j n o e with rfl|⟨g,k,e⟩;exactλf _=>rfl;intro f u;rw[(fM l g).1,(fM l k).1];exact h.sound i j g k e f u;cases ak_.1 m;exact⟨B,C,λf u=>u _ F⟩;rcases ae_.1 m with rfl|m;exactλd _ k=>k _ (.head _);exact key (v p m).1 (v p m).2 (h.eqs p m);rcases r i j n o e with rfl|⟨g,k,e⟩;refine⟨.refl _,λq a b t s d _ _=>?_⟩;rw[t]at s;exact congrArg d (oJ_ s);rw[(fM l g).1]at z⊢;rw[(fM l k).1]at A⊢;rw[(fM l g).2,(fM l k).2];let⟨G,J⟩:=h.al i j g k e z A;refine⟨G,λq a b t s=>key ?_ ?_ (J q a b t s)⟩;have:=h.g.lt i g a (am_ t);omega;have:=h.g.lt j k b (am_ s);omega
end
def xA:List Int->Prop|[]=>True|x::l=>(∀y∈l,x<y)/\xA l
theorem J4:∀{l m:List Int},xA l->xA m->(∀x,x∈l↔x∈m)->l=m
 |[],[],_,_,_=>rfl|[],y::m,_,_,h=>by have:=(h y).2 aB;cases this|x::l,[],_,_,h=>by have:=(h x).1 aB;cases this|x::l,y::m,c,d,h=>by
  have e:x=y:=by have a:=(h x).1 aB;have b:=(h y).2 aB;rcases ae_.1 a with a|a;grind;rcases ae_.1 b with b|b;grind;have:=c.1 y b;have:=d.1 x a;omega
  subst e;refine congrArg _ (J4 c.2 d.2 λz=>⟨λf=>?_,λf=>?_⟩);rcases ae_.1 ((h z).1 I) with rfl|g;exact absurd (c.1 _ f) X;grind;rcases ae_.1 ((h z).2 I) with rfl|g;exact absurd (d.1 _ f) X;grind
theorem DU{p:Int->Bool}:∀{l:List Int},xA l->xA (l.filter p)|[],_=>trivial|x::l,h=>by rw[cj_];split;exact⟨λy a=>h.1 y (bS_.1 a).1,DU h.2⟩;exact DU h.2
structure Gc(E:List (Tm×Tm))(s:Int->Tm)(l:List Int):Prop where
 c:HO E s
 a:xA l
 m:∀v,v∈l↔s v≠vr v
theorem Gc.uniq{c:List (Tm×Tm)}{b:Int->Tm}{d:List Int}(h:Gc E s l)(a:Gc c b d)(e:∀f,yG E f↔yG c f):s=b/\l=d:=by have c':HO E b:=⟨a.c.wf,a.c.idem,a.c.low,(e _).2 a.c.V_,λf g=>a.c.gen f ((e f).1 g)⟩;cases h.c.uniq c';exact⟨rfl,J4 h.a a.a λv=>(h.m v).trans (a.m v).symm⟩
def WA(ON:Tm->Bool)(s:Int->Tm)(l:List Int):List Bd×Int:=if l.any λv=>ON (s v) then([],6) else(l.map λv=>⟨v,s v⟩,0)
open Classical in noncomputable def oF(ON:Tm->Bool)(E:List (Tm×Tm)):List Bd×Int:=if h:∃p:(Int->Tm)×List Int,Gc E p.1 p.2 then WA ON h.choose.1 h.choose.2 else([],13)
theorem Nz(h:Gc E s l):oF ON E=WA ON s l:=by have a:∃p:(Int->Tm)×List Int,Gc E p.1 p.2:=⟨(s,l),h⟩;unfold oF;rw[dif_pos a];let⟨b,c⟩:=a.choose_spec.uniq h λf=>ck_;rw[b,c]
theorem A6(h:¬∃f,yG E f):oF ON E=([],13):=by unfold oF;rw[dif_neg λ⟨p,a⟩=>h ⟨_,a.c.V_⟩]
def oC(N:aT)(v:Int):Option Nat:=N.findIdx? λx=>x.1.k==1&&x.1.i==v
mutual def b_:aT->Tm->aT×Nat|N,⟨k,i,n,a⟩=>match if k=1 then oC N i else none with|some j=>(N,j)|none=>((cu N a).1++[(⟨k,i,n,a⟩,(cu N a).2)],(cu N a).1.length)def cu:aT->List Tm->aT×List Nat|N,[]=>(N,[])|N,x::l=>((cu (b_ N x).1 l).1,(b_ N x).2::(cu (b_ N x).1 l).2)end
structure yc(N N':aT):Prop where
 g:fT N'
 le:N.length<=N'.length
 pre:∀i,i<N.length->N'[i]?=N[i]?
theorem yc.trans{A B C:aT}(h:yc A B)(k:yc B C):yc A C:=⟨k.g,az_ h.le k.le,λi a=>(k.pre i (by have:=h.le;omega)).trans (h.pre i a)⟩
theorem yc.tn{A B:aT}(h:yc A B)(hi:i<A.length):tn B i=tn A i:=(fM h.pre hi).1
theorem Gb{N:aT}{v:Int}(h:oC N v=some j):j<N.length/\(tn N j).k=1/\(tn N j).i=v:=by unfold oC at h;let⟨a,b,_⟩:=List.findIdx?_eq_some_iff_getElem.1 h;simp only[as_,beq_iff_eq]at b;unfold tn;rw[av_ a];exact⟨a,b⟩
theorem Ny{N:aT}{v:Int}(h:oC N v=none):∀j,j<N.length->(tn N j).k=1->(tn N j).i≠v:=by grind[oC,tn]
theorem ng{N:aT}{x:Tm×List Nat}:tn (N++[x]) N.length=x.1/\ks (N++[x]) N.length=x.2:=by unfold tn ks;simp
theorem TI{N:aT}{d:List Nat}(g:fT N)(h1:∀j∈d,j<N.length)(h2:t.a=d.map (tn N))(h3:eY t)(h4:t.k=1->∀j,j<N.length->(tn N j).k=1->(tn N j).i≠t.i):yc N (N++[(t,d)]):=by have c:∀i,i<N.length->(N++[(t,d)])[i]?=N[i]?:=λi a=>bi_ a;have n:∀l:List Nat,(∀j∈l,j<N.length)->l.map (tn (N++[(t,d)]))=l.map (tn N):=λl o=>aQ_ λj b=>(fM c (o j b)).1;have m:∀i,i<(N++[(t,d)]).length->i<N.length\/i=N.length:=λi a=>I;refine⟨⟨λi a j b=>?_,λi a=>?_,λi a=>?_,λi j a b f k e=>?_⟩,I,c⟩;rcases m i a with h|rfl;rw[(fM c h).2]at b;exact g.lt i h j b;rw[ng.2]at b;exact h1 j b;rcases m i a with h|rfl;rw[(fM c h).1,(fM c h).2,n _ λj b=>by have:=g.lt i h j b;omega];exact g.args i h;rw[ng.1,ng.2,n _ h1];exact h2;rcases m i a with h|rfl;rw[(fM c h).1];exact g.wf i h;rw[ng.1];exact h3;rcases m i a with a|rfl<;>rcases m j b with b|rfl;rw[(fM c a).1]at f e;rw[(fM c b).1]at k e;exact g.one i j a b f k e;rw[(fM c a).1]at f e;rw[ng.1]at k e;exact absurd e (h4 k i a f);rw[(fM c b).1]at k e;rw[ng.1]at f e;exact absurd e.symm (h4 f j b k);rfl
mutual theorem sy:∀(N:aT)(t:Tm),fT N->eY t->yc N (b_ N t).1/\(b_ N t).2<(b_ N t).1.length/\tn (b_ N t).1 (b_ N t).2=t
 |N,⟨k,i,n,a⟩,g,c=>by
  rw[b_];by_cases d:k=1;rw[if_pos d];have f:=c;rw[eY,if_pos d]at f;obtain⟨rfl,rfl⟩:=f;subst d;cases q:oC N i with|some j =>let⟨b,h,m⟩:=Gb q;refine⟨⟨g,aa_ _,λ_ _=>rfl⟩,b,?_⟩;rw[TE (g.wf j b) h,m,vr]|none =>refine⟨?_,?_,?_⟩;grind[cu,TI,Ny];grind;simp only[cu];exact ng.1
  rw[if_neg d];have f:=c;rw[eY,if_neg d]at f;let⟨b,h,m⟩:=Kd N a g f.1;refine⟨b.trans (TI b.g h m.symm c λe=>absurd e d),?_,?_⟩;simp;exact ng.1;theorem Kd:∀(N:aT)(l:List Tm),fT N->fe l->yc N (cu N l).1/\(∀j∈(cu N l).2,j<(cu N l).1.length)/\(cu N l).2.map (tn (cu N l).1)=l|N,[],g,_=>by rw[cu];exact⟨⟨g,aa_ _,λ_ _=>rfl⟩,λj o=>I,rfl⟩|N,x::l,g,c=>by rw[fe]at c;let⟨b,h,m⟩:=sy N x g c.1;let⟨p,r,k3⟩:=Kd (b_ N x).1 l b.g c.2;rw[cu];refine⟨b.trans p,λj o=>?_,?_⟩;rcases ae_.1 o with rfl|o;have:=p.le;simp only;omega;grind;simp only[aF_,k3,p.tn h,m];end
def TF(N:aT)(c:Nat->Nat)(sh:Nat->Option Nat)(lo:Nat->Int):Nat->Nat->Tm|0,_=>default|m+1,C=>match sh C with|none=>vr (lo C)|some s=>⟨(tn N s).k,(tn N s).i,(tn N s).n,(ks N s).map λj=>TF N c sh lo m (c j)⟩
section
variable{N:aT}{r:Nat->Nat}
theorem Wb(hC:fT N)(hs:∀C s,sh C=some s->s<N.length/\c s=C/\(tn N s).k≠1)(b:vh N c r):∀(m a C:Nat),r C<m->r C<a->TF N c sh lo m C=TF N c sh lo a C|0,_,C,h,_=>X|m+1,0,C,_,h=>X|m+1,a+1,C,h,k=>by rw[TF,TF];cases e:sh C with|none=>rfl|some s =>let⟨d,f,g⟩:=hs C s e;simp only[Tm.mk.injEq,true_and];refine aQ_ λj i=>?_;have:=b s d g j i;rw[f]at this;exact Wb hC hs b m a (c j) X X
def TC(N:aT)(c:Nat->Nat)(sh:Nat->Option Nat)(lo:Nat->Int)(r:Nat->Nat)(C:Nat):Tm:=TF N c sh lo (r C+1) C
theorem aiz(hC:fT N)(hs:∀C s,sh C=some s->s<N.length/\c s=C/\(tn N s).k≠1)(a:vh N c r){s:Nat}(e:sh C=some s):TC N c sh lo r C=⟨(tn N s).k,(tn N s).i,(tn N s).n,(ks N s).map λj=>TC N c sh lo r (c j)⟩:=by let⟨b,d,f⟩:=hs C s e;rw[TC,TF,e];simp only[Tm.mk.injEq,true_and];refine aQ_ λj g=>?_;have:=a s b f j g;rw[d]at this;exact Wb hC hs a _ _ (c j) X X
theorem aiA(e:sh C=none):TC N c sh lo r C=vr (lo C):=by rw[TC,TF,e]
theorem Qk(hC:vg E N c)(hs:∀C s,sh C=some s->s<N.length/\c s=C/\(tn N s).k≠1)(m:vh N c r)(n:∀i,i<N.length->sh (c i)=none->∀j,j<N.length->c j=c i->(tn N j).k=1)(o:∀i,i<N.length->sh (c i)=none->∃j,j<N.length/\c j=c i/\lo (c i)=(tn N j).i/\∀g,g<N.length->c g=c i->(tn N j).i<=(tn N g).i):DT N c (TC N c sh lo r):=by
 refine⟨λi a h=>?_,λi a p=>?_⟩;cases e:sh (c i) with|none=>exact absurd (n i a e i a rfl) h|some s =>
  let⟨b,d,f⟩:=hs _ s e;let⟨⟨q,t,u,x⟩,v⟩:=hC.al i s a b d.symm h f;rw[aiz hC.g hs m e,q,t,u];have k:∀l:List Nat,l.map (λj=>TC N c sh lo r (c j))=(l.map c).map (TC N c sh lo r):=λl=>by rw[bj_];rfl
  rw[k,k,v]
 cases e:sh (c i) with|none =>let⟨j,b,d,f,w⟩:=o i a e;exact⟨j,b,d,by rw[aiA e,f],w⟩|some s =>let⟨b,d,f⟩:=hs _ s e;exact absurd (p s b d) f
end
def ku:Nat->List Nat->Nat->Option (List Nat×Nat)|0,_,_=>none|m+1,up,k=>match up[k]? with|none=>none|some p=>if p=k then some (up,k) else match up[p]? with|none=>none|some q=>ku m (up.set k q) q
theorem LV:∀{m:Nat}{up:List Nat}{k:Nat}{r:List Nat×Nat},ku m up k=some r->ku (m+1) up k=some r|0,_,_,_,h=>by cases h|m+1,up,k,r,h=>by rw[ku]at h;rw[ku];split at h;grind;rename_i p a;split at h;grind;rename_i e;split at h;grind;rename_i q b;simp only[a,if_neg e,b];exact LV h
theorem aep{a:Nat}{k:Nat}(h:ku m up k=some r)(b:m<=a):ku a up k=some r:=by induction b with|refl=>exact h|step _ c=>exact LV c
theorem abm{b:Nat}{k:Nat}{a:List Nat×Nat}(h:ku m up k=some r)(c:ku b up k=some a):r=a:=by grind[aep]
open Classical in noncomputable def lL(up:List Nat)(k:Nat):Option (List Nat×Nat):=if h:∃p:Nat×List Nat×Nat,ku p.1 up k=some p.2 then some h.choose.2 else none
theorem aeq{k:Nat}(h:ku m up k=some r):lL up k=some r:=by have a:∃p:Nat×List Nat×Nat,ku p.1 up k=some p.2:=⟨(m,r),h⟩;unfold lL;rw[dif_pos a,abm a.choose_spec h]
theorem Ef{k:Nat}(h:lL up k=some r):∃m,ku m up k=some r:=by unfold lL at h;split at h;grind;grind
def cA(up:List Nat)(i:Nat):Nat:=up[i]?.getD i
structure UF(up:List Nat)(c h:Nat->Nat):Prop where
 lt:∀i,i<up.length->cA up i<up.length
 rt:∀i,i<up.length->cA up (c i)=c i/\c i<up.length
 st:∀i,i<up.length->c (cA up i)=c i
 fx:∀i,i<up.length->cA up i=i->c i=i
 ht:∀i,i<up.length->cA up i≠i->h (cA up i)<h i
theorem KT(hi:i<up.length):up[i]?=some (cA up i):=by grind[cA]
theorem qH{k v:Nat}(a:k<up.length)(i:Nat):cA (up.set k v) i=if i=k then v else cA up i:=by grind[cA]
theorem UF.cc(a:UF up c h)(hi:i<up.length):c (c i)=c i:=a.fx _ (a.rt i hi).2 (a.rt i hi).1
theorem UF.half(a:UF up c h){k:Nat}(d:k<up.length):UF (up.set k (cA up (cA up k))) c h:=by
 have g:=a.lt k d;have p:=a.lt _ g;refine⟨λi b=>?_,λi b=>?_,λi b=>?_,λi b e=>?_,λi b e=>?_⟩;all_goals rw[bq_]at b
 rw[qH d,bq_];split;grind;exact a.lt i b;rw[qH d,bq_];let⟨q,n⟩:=a.rt i b;refine⟨?_,n⟩;split;grind;grind;rw[qH d];split;rename_i e;subst e;rw[a.st _ g,a.st _ b];exact a.st i b;rw[qH d]at e;split at e;rename_i f;subst f;by_cases j:cA up i=i;exact a.fx i b j;have o:=a.ht i b j;by_cases l:cA up (cA up i)=cA up i;grind;have m:=a.ht _ g l;rw[e]at m;omega;exact a.fx i b e;rw[qH d]at e⊢;split at e;rename_i f;rw[if_pos f];subst f;by_cases j:cA up i=i;grind;have o:=a.ht i b j;by_cases l:cA up (cA up i)=cA up i;grind;have m:=a.ht _ g l;omega;rename_i f;rw[if_neg f];exact a.ht i b e
theorem UF.root{c h:Nat->Nat}:∀(a:Nat){up:List Nat}{k:Nat},UF up c h->k<up.length->h k<a->∃m f,ku m up k=some (f,c k)/\UF f c h/\f.length=up.length
 |0,_,_,_,_,i=>X|a+1,up,k,b,d,i=>by
  by_cases e:cA up k=k;refine⟨1,up,?_,b,rfl⟩;rw[ku,KT d];simp only[if_pos e,b.fx k d e];have g:=b.lt k d;have p:=b.lt _ g;have q:=b.ht k d e;have j:h (cA up (cA up k))<a:=by by_cases l:cA up (cA up k)=cA up k;grind;have:=b.ht _ g l;omega
  let⟨m,f,n,o,r⟩:=UF.root a (b.half d) I j;refine⟨m+1,f,?_,o,I⟩;rw[ku,KT d];simp only[if_neg e,KT g,n,b.st _ g,b.st _ d]
theorem UF.lL(b:UF up c h){k:Nat}(d:k<up.length):∃a,lL up k=some (a,c k)/\UF a c h/\a.length=up.length:=by let⟨m,a,e,f,g⟩:=UF.root _ b d (bl_ _);exact⟨a,aeq e,f,g⟩
theorem UF.merge(f:UF up c h)(k:a<up.length)(g:b<up.length)(l:c a=a)(m:c b=b)(n:a≠b):UF (up.set b a) (iS c a b) λi=>if c i=b then h i+h a+1 else h i:=by
 have o:cA up a=a:=by have:=(f.rt a k).1;rwa[l]at this
 refine⟨λi d=>?_,λi d=>?_,λi d=>?_,λi d e=>?_,λi d e=>?_⟩;all_goals rw[bq_]at d
 rw[qH g,bq_];split;grind;exact f.lt i d;rw[qH g,bq_];by_cases e:c i=b;grind[iS];rw[show iS c a b i=c i from if_neg e,if_neg e];exact f.rt i d;rw[qH g];unfold iS;split;grind;rw[f.st i d];rw[qH g]at e;unfold iS;split at e;grind;rename_i j;have:=f.fx i d e;rw[this,if_neg j];rw[qH g]at e⊢;split at e;grind;rename_i j;have:=f.ht i d e;simp only[if_neg j,f.st i d];split<;>omega
def dk(sh:List (Int×Int))(C:Nat):Option Nat:=(aI sh (C:Int)).map Int.toNat
def tp(s t:Tm):Bool:=s.k==t.k&&s.i==t.i&&decide (s.n.toList=t.n.toList)&&decide (s.a.length=t.a.length)
def pA(sh:List (Int×Int))(a b:Nat):List (Int×Int):=match aI sh (b:Int) with|some k=>(match aI sh (a:Int) with|some _=>sh|none=>g9 sh a k)|none=>sh
def ot(ls:List (Int×Int))(a b:Nat):List (Int×Int):=match aI ls (b:Int) with|some v=>(match aI ls (a:Int) with|some w=>if v<w then g9 ls a v else ls|none=>g9 ls a v)|none=>ls
structure JS where
 up:List Nat
 sh:List (Int×Int)ls:List (Int×Int)
noncomputable def jR(N:aT):Nat->List (Nat×Nat)->JS->Option (Bool×JS)|0,_,_=>none|m+1,ps,s=>if 1099511627776<ps.length then none else match ps.getLast? with|none=>some (true,s)|some p=>match lL s.up p.1 with|none=>none|some (e,a)=>match lL e p.2 with|none=>none|some (c,b)=>if a=b then jR N m ps.dropLast ⟨c,s.sh,s.ls⟩ else match aI s.sh (a:Int),aI s.sh (b:Int) with
     |some i,some k=>match N[i.toNat]?,N[k.toNat]? with|some (t,l),some (f,d)=>if 0<=i/\0<=k then if tp t f then if l.length=d.length then jR N m (ps.dropLast++l.zip d) ⟨c.set b a,pA s.sh a b,ot s.ls a b⟩ else none else some (false,⟨c,s.sh,s.ls⟩) else none|_,_=>none
     |_,_=>jR N m ps.dropLast ⟨c.set b a,pA s.sh a b,ot s.ls a b⟩
def w6(N:aT)(c:Nat->Nat)(C:Nat):Option Int->Prop|none=>∀j,j<N.length->c j=C->(tn N j).k≠1|some v=>(∃j,j<N.length/\c j=C/\(tn N j).k=1/\(tn N j).i=v)/\∀j,j<N.length->c j=C->(tn N j).k=1->v<=(tn N j).i
structure rF(E:List (Tm×Tm))(N:aT)(zzD:List (Nat×Nat))(c:Nat->Nat)(ps:List (Nat×Nat))(s:JS):Prop where
 gi:jS E N zzD c ps
 uf:∃h,UF s.up c h
 len:s.up.length=N.length
 pos:∀C i,aI s.sh C=some i->0<=i
 Cw:∀C,C<N.length->c C=C->jM N c C (dk s.sh C)aY:∀C,C<N.length->c C=C->w6 N c C (aI s.ls (C:Int))YR:∀C:Nat,N.length<=C->aI s.sh (C:Int)=none
 frl:∀C:Nat,N.length<=C->aI s.ls (C:Int)=none
def iJ(c:Nat->Nat):Nat->Nat|0=>0|n+1=>iJ c n+if c n=n then 1 else 0
theorem OO{c d:Nat->Nat}(h:∀i,d i=i->c i=i):∀n,iJ d n<=iJ c n|0=>aa_ _|n+1=>by have:=OO h n;rw[iJ,iJ];by_cases e:d n=n;grind;grind
theorem A7{c d:Nat->Nat}(h:∀i,d i=i->c i=i){b:Nat}(a:c b=b)(f:d b≠b):∀n,b<n->iJ d n<iJ c n|0,g=>X|n+1,g=>by rw[iJ,iJ];by_cases e:b=n;subst e;have:=OO h b;rw[if_pos a,if_neg f];omega;have:=A7 h a f n X;by_cases e:d n=n;grind;grind
theorem KP(c:Nat->Nat):∀n,iJ c n<=n|0=>aa_ _|n+1=>by have:=KP c n;rw[iJ];split<;>omega
theorem DX{s:Tm}:tp s t=true↔alike s t:=by grind[Zn,tp,alike]
theorem KU(d:a≠b)(e:c a=a):iS c a b i=i->c i=i:=by grind[iS]
theorem zg{N:aT}(hi:i<N.length):N[i]?=some (tn N i,ks N i):=by grind[tn,ks]
def orS:Option Nat->Option Nat->Option Nat|some i,_=>some i|none,y=>y
def Na:Option Int->Option Int->Option Int|some w,some v=>some (if v<w then v else w)|some w,none=>some w|none,x=>x
theorem anw{sh:List (Int×Int)}(hC:C≠b)(f:a≠b):dk (pA sh a b) C=if C=a then orS (dk sh a) (dk sh b) else dk sh C:=by
 unfold dk pA;by_cases e:C=a;subst e;rw[if_pos rfl];cases d:aI sh (b:Int) with|none=>cases c:aI sh (C:Int)<;>simp[c,orS]|some k =>cases c:aI sh (C:Int) with|none=>simp[c_,orS]|some i=>simp[c,orS]
 rw[if_neg e];cases d:aI sh (b:Int) with|none=>rfl|some k =>cases c:aI sh (a:Int) with|none=>simp only[c_];rw[if_neg X]|some i=>rfl
theorem arE{ls:List (Int×Int)}(hC:C≠b)(f:a≠b):aI (ot ls a b) (C:Int)=if C=a then Na (aI ls (a:Int)) (aI ls (b:Int)) else aI ls (C:Int):=by
 unfold ot;by_cases e:C=a;subst e;rw[if_pos rfl];cases d:aI ls (b:Int) with|none=>cases c:aI ls (C:Int)<;>simp[c,Na]|some k =>cases c:aI ls (C:Int) with|none=>simp[c_,Na]|some i =>simp only[Na];split;grind[c_];grind
 rw[if_neg e];cases d:aI ls (b:Int) with|none=>rfl|some k =>cases c:aI ls (a:Int) with|none=>simp only[c_];rw[if_neg X]|some i =>split;grind[c_];rfl
theorem jM.merge{N:aT}{x y:Option Nat}(h:jM N c a x)(j:jM N c b y)(l:a≠b):jM N (iS c a b) a (orS x y):=by cases x with|some i =>let⟨d,f,g⟩:=h;refine⟨d,?_,g⟩;unfold iS;rw[f,if_neg l]|none =>cases y with|some i =>let⟨d,f,g⟩:=j;refine⟨d,?_,g⟩;unfold iS;rw[f,if_pos rfl]|none =>intro i k e;unfold iS at e;split at e;rename_i m;exact j i k m;exact h i k e
theorem w6.merge{N:aT}{x y:Option Int}(k:w6 N c a x)(h:w6 N c b y)(A:a≠b):w6 N (iS c a b) a (Na x y):=by
 have p:∀j,c j=a->iS c a b j=a:=λj e=>by grind[iS]
 have mb:∀j,c j=b->iS c a b j=a:=λj e=>by grind[iS]
 have f:∀j,iS c a b j=a->c j=a\/c j=b:=λj e=>by grind[iS]
 cases x with
 |some w =>let⟨⟨j,r,s,t,u⟩,B⟩:=k;cases y with|some v =>let⟨⟨i,l,m,n,o⟩,z⟩:=h;simp only[Na];split;refine⟨⟨i,l,mb i m,n,o⟩,λq d e g=>?_⟩;rcases f q e with e|e;grind;grind;refine⟨⟨j,r,p j s,t,u⟩,λq d e g=>?_⟩;rcases f q e with e|e;grind;grind|none =>refine⟨⟨j,r,p j s,t,u⟩,λq d e g=>?_⟩;rcases f q e with e|e;grind;exact absurd g (h q d e)
 |none =>cases y with|some v =>let⟨⟨i,l,m,n,o⟩,z⟩:=h;refine⟨⟨i,l,mb i m,n,o⟩,λq d e g=>?_⟩;rcases f q e with e|e;exact absurd g (k q d e);grind|none =>intro q d e;rcases f q e with e|e;exact k q d e;exact h q d e
theorem HQ(hC:C≠a)(d:C≠b)(j:Nat):iS c a b j=C↔c j=C:=by grind[iS]
theorem jM.other{N:aT}(hC:C≠a)(d:C≠b){x:Option Nat}(h:jM N c C x):jM N (iS c a b) C x:=by cases x with|some i=>exact⟨h.1,(HQ hC d i).2 h.2.1,h.2.2⟩|none=>exactλi f e=>h i f ((HQ hC d i).1 e)
theorem w6.other{N:aT}(hC:C≠a)(d:C≠b){x:Option Int}(h:w6 N c C x):w6 N (iS c a b) C x:=by cases x with|some v =>let⟨⟨j,f,g,k,l⟩,m⟩:=h;exact⟨⟨j,f,(HQ hC d j).2 g,k,l⟩,λq n e=>m q n ((HQ hC d q).1 e)⟩|none=>exactλi o e=>h i o ((HQ hC d i).1 e)
section
variable{N:aT}{s:JS}
theorem rF.merge{y:Nat}{P':List (Nat×Nat)}(h:rF E N zzD c (ps++[(x,y)]) s)(q:a=c x)(r:b=c y)(l:a≠b)(K:∀p,p∈P'↔p∈pj N (dk s.sh a) (dk s.sh b)++ps)(L:∀i j,dk s.sh a=some i->dk s.sh b=some j->alike (tn N i) (tn N j)){u:List Nat}(M:∃h,UF u c h)(w:u.length=N.length):rF E N zzD (iS c a b) P' ⟨u.set b a,pA s.sh a b,ot s.ls a b⟩:=by
 let⟨R,S,_⟩:=h.gi.pX (x,y) aB;let⟨T,n⟩:=M;have z:a<N.length:=by rw[q,<-w];exact(n.rt x X).2
 have A:b<N.length:=by rw[r,<-w];exact(n.rt y X).2
 have o:c a=a:=by rw[q];exact n.cc X
 have t:c b=b:=by rw[r];exact n.cc X
 have B:=h.Cw a z o;have F:=h.Cw b A t;have P:jS E N zzD c ((x,y)::ps):=h.gi.perm λp=>I;have G:=P.merge (sa:=dk s.sh a) (sb:=dk s.sh b) I I L;rw[<-q,<-r]at G;refine⟨G.perm K,⟨_,n.merge X X o t l⟩,I,λC i d=>?_,λC m e=>?_,λC m e=>?_,λC m=>?_,λC m=>?_⟩;unfold pA at d;cases v:aI s.sh (b:Int) with|none=>rw[v]at d;exact h.pos C i d|some k =>rw[v]at d;cases J:aI s.sh (a:Int) with|some j=>rw[J]at d;exact h.pos C i d|none =>rw[J]at d;simp only[c_]at d;split at d;cases oJ_ d;exact h.pos _ _ v;exact h.pos C i d
 have f:C≠b:=λg=>by grind[iS]
 rw[anw f l];split;rename_i g;subst g;exact B.merge F l;rename_i g;exact(h.Cw C m (KU l o e)).other g f;have f:C≠b:=λg=>by grind[iS]
 rw[arE f l];split;rename_i g;subst g;exact(h.aY C z o).merge (h.aY b A t) l;rename_i g;exact(h.aY C m (KU l o e)).other g f;have Q:=h.YR C m;unfold pA;split;grind[c_];grind;have Q:=h.frl C m;unfold ot;split;grind[c_];grind
theorem GO{U:Type}:∀(l:List U),l=[]\/∃a x,l=a++[x]|[]=>.inl rfl|x::l=>.inr (by rcases GO l with rfl|⟨a,y,rfl⟩;exact⟨[],x,rfl⟩;exact⟨x::a,y,rfl⟩)
theorem ag8{K:Nat}(hK:∀i,i<N.length->(ks N i).length<=K)(n m:Nat):∀{c:Nat->Nat}{ps:List (Nat×Nat)}{s:JS},iJ c N.length=n->ps.length=m->m+K*n<=1099511627776->rF E N zzD c ps s ->∃f b d,jR N f ps s=some (b,d)/\(b=true->∃c',rF E N zzD c' [] d)/\(b=false->¬∃f,yG E f):=by induction n using Nat.strongRecOn generalizing m with|ind n g =>induction m with|zero =>intro c ps s B C hX h;cases bP_.1 C;exact⟨1,true,s,rfl,λ_=>⟨c,h⟩,λe=>I⟩|succ m F =>
   intro c ps s B C hX h;rcases GO ps with rfl|⟨a,p,rfl⟩;grind;rw[ar_,be_]at C;let⟨x,y⟩:=p;let⟨hx,hy,pG⟩:=h.gi.pX (x,y) aB;simp only at hx hy pG;let⟨T,v⟩:=h.uf;have hl:=h.len;let⟨u1,r1,IP,l1⟩:=v.lL (k:=x) X;let⟨o,r2,V,l2⟩:=IP.lL (k:=y) X;have W:jS E N zzD c ((x,y)::a):=h.gi.perm λp=>I;have e0:∀f,jR N (f+1) (a++[(x,y)]) s=if c x=c y then jR N f a ⟨o,s.sh,s.ls⟩ else match aI s.sh (c x:Int),aI s.sh (c y:Int) with
    |some i,some k=>match N[i.toNat]?,N[k.toNat]? with|some (t,l),some (t',l')=>if 0<=i/\0<=k then if tp t t' then if l.length=l'.length then jR N f (a++l.zip l') ⟨o.set (c y) (c x),pA s.sh (c x) (c y),ot s.ls (c x) (c y)⟩ else none else some (false,⟨o,s.sh,s.ls⟩) else none|_,_=>none
    |_,_=>jR N f a ⟨o.set (c y) (c x),pA s.sh (c x) (c y),ot s.ls (c x) (c y)⟩:=λf=>by rw[jR,if_neg I];simp only[List.getLast?_append,List.getLast?_singleton,Option.some_or,r1,r2,dN_]
   by_cases e:c x=c y;have q:rF E N zzD c a ⟨o,s.sh,s.ls⟩:=⟨W.pop e,⟨T,V⟩,I,h.pos,h.Cw,h.aY,h.YR,h.frl⟩;let⟨f,b,d,w,r⟩:=F B X X q;exact⟨f+1,b,d,I,r⟩;have la:c x<N.length:=by have:=(v.rt x X).2;omega
   have lb:c y<N.length:=by have:=(v.rt y X).2;omega
   have ca:c (c x)=c x:=v.cc X;have G:c (c y)=c y:=v.cc X;have sa:=h.Cw _ la ca;have sb:=h.Cw _ lb G;have z:iJ (iS c (c x) (c y)) N.length<n:=by rw[<-B];refine A7 (λi=>KU e ca) G (λJ=>?_) _ lb;unfold iS at J;rw[G,if_pos rfl]at J;exact e J
   have hmul:K*iJ (iS c (c x) (c y)) N.length+K<=K*n:=by rw[<-Nat.mul_succ];exact dO_ K z
   have u:∃h,UF o c h:=⟨T,V⟩;cases e1:aI s.sh (c x:Int) with|none =>
    have f1:dk s.sh (c x)=none:=by grind[dk]
    have q:=h.merge rfl rfl e (P':=a) λp=>by grind[pj] (λi j hi=>I) u X;let⟨f,b,d,w,r⟩:=g _ z a.length rfl rfl X q;exact⟨f+1,b,d,I,r⟩|some i =>cases e2:aI s.sh (c y:Int) with
    |none =>
     have f1:dk s.sh (c y)=none:=by grind[dk]
     have q:=h.merge rfl rfl e (P':=a) λp=>by grind[dk,pj] (λi j _ hj=>I) u X;let⟨f,b,d,w,r⟩:=g _ z a.length rfl rfl X q;exact⟨f+1,b,d,I,r⟩|some k =>
     have f1:dk s.sh (c x)=some i.toNat:=by grind[dk]
     have f2:dk s.sh (c y)=some k.toNat:=by grind[dk]
     rw[f1]at sa;rw[f2]at sb;let⟨L,M,P⟩:=sa;let⟨Q,R,S⟩:=sb;have hp:0<=i/\0<=k:=⟨h.pos _ _ e1,h.pos _ _ e2⟩;cases A:tp (tn N i.toNat) (tn N k.toNat) with|false =>refine⟨1,false,⟨o,s.sh,s.ls⟩,?_,λe=>I,λ_=>?_⟩;grind[zg];exact W.ae6 (s:=i.toNat) (t:=k.toNat) ⟨L,M,P⟩ ⟨Q,R,S⟩ λh=>by rw[DX.2 h]at A;cases A|true =>
      have aS:=DX.1 A;have GL:(ks N i.toNat).length=(ks N k.toNat).length:=by rw[oh h.gi.g L,oh h.gi.g Q,aS.2.2.2]
      have q:=h.merge rfl rfl e (P':=a++(ks N i.toNat).zip (ks N k.toNat)) λp=>by grind[pj,Pp] (λi' j' hi hj=>I) u X;let⟨f,b,d,w,r⟩:=g _ z _ rfl rfl I q;refine⟨f+1,b,d,?_,r⟩;rw[e0,if_neg e,e1,e2];simp only[zg L,zg Q,if_pos hp,A,if_true,if_pos GL];exact w
end
end Go.Proofs.YtbdcmpknicjopaaGreat
