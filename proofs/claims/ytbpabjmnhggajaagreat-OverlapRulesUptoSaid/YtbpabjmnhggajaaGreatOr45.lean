import Derived.Test.YtbpabjmnhggajaaGreatOr44
namespace Go.Proofs.YtbpabjmnhggajaaGreat
set_option linter.all false
set_option maxRecDepth 100000
open Go.RowKit
variable {ρ:Hd}{ms:List (Int × Int)}{cl:List Nat}{nl:Nat}
section
attribute [local irreducible] ah aG ae ad
def anV:FQ 75 Tryz.f75:=aF Tryz.func75 Tryz.call75
def g75:List Nat:=[1,0,3,21]
def anW:FQ 33 Tryz.f33:=aF Tryz.func33 Tryz.call33
def g33:List Nat:=[2,0,1]
def anX:FQ 77 Tryz.f77:=aF Tryz.func77 Tryz.call77
def g77:List Nat:=[2,4,6,1,0,7,14]
def agc:FQ 36 Tryz.f36:=aF Tryz.func36 Tryz.call36
def u0:List Nat:=[5,11,6,4,0,10,12,1]
def HV (k n:Int):Int:=if (0 < k/\IntKind.i64.wrap (9223372036854775807 - k) < n)\/(k < 0/\n < IntKind.i64.wrap (-9223372036854775808 - k)) then n else IntKind.i64.wrap (n+k)
mutual
def mU (k:Int):Tm->Tm
 |⟨b,i,n,a⟩=>if b=1 then ⟨b,HV k i,n,a⟩ else if b=2 then ⟨b,i,n,Bv k a⟩ else ⟨b,i,n,a⟩
def Bv (k:Int):List Tm->List Tm
 |[]=>[]
 |x::l=>mU k x::Bv k l
end
theorem rh (k:Int):∀l,Bv k l=l.map (mU k)
 |[]=>by rw[Bv];rfl
 |x::l=>by rw[Bv,rh k l];rfl
theorem DP:∀l:List Tm,l.length<=bp l
 |[]=>by grind
 |x::l=>by
  have:=DP l;have h:=iO x;rw[bp,aw_];omega
theorem um (k:Int):Pure (.fn (.func 75) [] [.ip [iv k]]):=.fn (λa c=>by grind) λa c=>by obtain rfl:=ae_.1 c;exact .ip λb d=>by obtain rfl:=ae_.1 d;exact .v
section
variable {w0:World}{ρ:Hd}
theorem ajP (k n:Int):ah Tryz.prog w0 75 [iv n,.ip [iv k]] (iv (HV k n)):=by
 obtain⟨R,a⟩:∃R,R=HV k n:=⟨_,rfl⟩;rw[<-a];unfold HV at a;refine st anV g75 .v ?_
 repeat' (first
  |refine ig g75 (ae.ari rfl rfl rfl) λ_ _=>?_
  |refine cg g75 (λb=>?_) λb=>?_
  |(refine fq ?_))
 all_goals (refine dP ?_;rw[a];split<;>omega)
theorem anY (k:Int):ah Tryz.prog w0 33 [iv k] (.fn (.func 75) [] [.ip [iv k]]):=by
 refine st anW g33 ((um k)) ?_
 repeat' (first
  |(refine fq ?_))
 exact aP.fns trivial ⟨aP.box (cs:=[iv k]) (cs':=[iv k]) rfl ⟨.refl _,trivial⟩,trivial⟩
theorem Ki {f:Tm->Tm}{k:Int}(a:List Tm) (d:a.length<=100000000000) (o:∀x ∈ a,ah Tryz.prog w0 77 [tm ρ x,.fn (.func 75) [] [.ip [iv k]]] (tm ρ (f x))) :
  ah Tryz.prog w0 36 [tl ρ a,.fn (.func 75) [] [.ip [iv k]]] (tl ρ (a.map f)):=by
 have L:=um k;cases a with
 |nil =>
  have b:=Of (w0:=w0) (ρ:=ρ);refine st agc u0 ((cG _)) ?_
  repeat' (first
   |(apply bK u0 b)
   |refine lg u0 λm q=>?_
   )
  refine ad.aK (σ:=Int) 0 0 [] (λp=>[(5,tl ρ []),(10,.v (.int .i64 m)),(11,.v (.int .i64 p))]) [] (λ_=>[]) (λp=>p=0) (λp=>0) 0 rfl rfl cq ?_;rintro i rfl;refine gq u0 ?_
  repeat' (first
   |refine cg u0 (λA=>?_) λA=>?_
   |refine ad.ao ?_;refine gq u0 ?_
   |(refine fq ?_))
  all_goals first
   |exfalso;simp only[aN_]at q;omega
   |exact .refl _
 |cons x0 s =>
 have b:=Og (w0:=w0) (ρ:=ρ) x0 s d;obtain⟨a,t⟩:∃a,a=x0::s:=⟨_,rfl⟩;rw[<-t]at b d o ⊢;clear t;obtain⟨R,B⟩:∃R,R=a.map f:=⟨_,rfl⟩;rw[<-B];obtain⟨C,D⟩:∃n,n=a.length:=⟨_,rfl⟩;rw[<-D]at b;refine st agc u0 ((cG _)) ?_;refine og u0 (ae.jK [] [(0,some (.arr 4 (ρ.h (List.map (je ρ)) a) 0 false))] b rfl ⟨.pure (cG _),trivial⟩ (.gr rfl) trivial ⟨⟨0,_,rfl,rfl,.pure (Oe _)⟩,trivial⟩) ?_;refine ig u0 (ae.iz rfl) λm q=>?_
 refine ad.aK (σ:=Int × List Tm) 1 1 [] (λp=>[(1,.fn (.func 75) [] [.ip [iv k]]),(5,.gr 0 4 C),(10,.v (.int .i64 m)),(11,.v (.int .i64 p.1))]) [] (λp=>[(0,.arr 4 (ρ.h (List.map (je ρ)) p.2) 0 false)])
  (λp=>∃j:Nat,p.1=j/\j<=a.length/\p.2.length=a.length/\p.2=(a.take j).map f++a.drop j) (λp=>a.length - p.1.toNat) (0,a) ⟨0,rfl,by simp,rfl,by simp⟩ rfl (by exact⟨sq,rfl,⟨.inl ⟨_,rfl,.same (Ee _)⟩,trivial⟩,rfl,rfl,rfl⟩) ?_
 rintro⟨i,c⟩ ⟨j,e,M,E,u⟩;simp only at e E u;refine gq u0 ?_;refine cn (λF=>?_) λF=>?_;rotate_left
 ·refine gq u0 ?_;refine ad.ao ?_;refine gq u0 ?_;refine fq ?_;have h:R=c:=by grind
  rw[h,<-NU];exact aP.grow rfl (by omega)
 obtain⟨x,v,G⟩:=aD (l:=a) (k:=j) (by omega);have H:c[j]?=some x:=by grind
 have N:j < a.length:=by omega
 have w:=o x (bM v);obtain⟨X,z⟩:∃X,X=f x:=⟨_,rfl⟩;rw[<-z]at w;obtain⟨O,P,Q,S⟩:=x;have g:=bW (ρ:=ρ) (f:=je ρ) H;rw[je]at g;simp only at g;refine gq u0 ?_;refine ad.op rfl (ae.dg rfl rfl e (by omega)) ?_;refine og u0 (ae.fk rfl rfl g rfl) ?_;apply bK u0 w;refine ad.op rfl (ae.dg rfl rfl e (by omega)) ?_;refine ad.Dj (f:=je ρ) (y:=X) rfl rfl rfl rfl rfl (λ_=>rfl) rfl (by omega) (λI J=>?_);refine gq u0 ?_;refine ag u0 λK T=>?_;refine ad.az (σ:=Int × List Tm) (K,I) [] ⟨j+1,by grind,by omega,by grind,?_⟩ ?_ (by exact⟨sq,rfl,⟨.inl ⟨_,rfl,.same (Ee _)⟩,trivial⟩,rfl,rfl,rfl⟩)
 ·simp only;have d:((a.take j).map f).length=j:=by grind
  rw[J,u,bC_ _ _ (by omega),d,bk_,G,bW_,bF_,v,aM_,z];simp
 ·grind
theorem Vw (k:Int) (n:Nat):∀x:Tm,cR x<=n->n<=100000000000->ah Tryz.prog w0 77 [tm ρ x,.fn (.func 75) [] [.ip [iv k]]] (tm ρ (mU k x)):=by
 induction n with
 |zero=>intro x h;have:=iO x;omega
 |succ n j =>
  intro x l m;rw[iO]at l;have o:=DP x.a;have t:=um k;have c:=Ki (w0:=w0) (ρ:=ρ) (f:=mU k) (k:=k) x.a (by omega) λy p=>j y (by have:=iw y p;omega) (by omega);have d:=ajP (w0:=w0) k x.i;obtain⟨R,b⟩:∃R,R=mU k x:=⟨_,rfl⟩;rw[<-b];obtain⟨e,i,g,a⟩:=x;rw[mU,rh]at b;simp only at c d b;clear j l m o;obtain⟨A,q⟩:∃A,A=a.map (mU k):=⟨_,rfl⟩;rw[<-q]at c b;obtain⟨B,r⟩:∃B,B=HV k i:=⟨_,rfl⟩;rw[<-r]at d b;refine st anX g77 ((bQ _)) ?_
  repeat' (first
   |(apply bK g77 c)
   |(apply bK g77 d)
   |refine cg g77 (λs=>?_) λs=>?_
   |(refine fq ?_))
  all_goals clear c d
  all_goals first
   |(have h:R=⟨e,B,g,a⟩:=by rw[b,if_pos (by omega)]
     rw[h];exact .refl _)
   |(have h:R=⟨e,i,g,A⟩:=by rw[b,if_neg (by omega),if_pos (by omega)]
     rw[h];exact .refl _)
   |(have h:R=⟨e,i,g,a⟩:=by rw[b,if_neg (by omega),if_neg (by omega)]
     rw[h];exact .refl _)
theorem YC (k:Int) (x:Tm) (a:cR x<=100000000000):ah Tryz.prog w0 77 [tm ρ x,.fn (.func 75) [] [.ip [iv k]]] (tm ρ (mU k x)):=Vw k _ x (ac_ _) a
theorem Kj (k:Int) (a:List Tm) (c:bp a<=100000000000):ah Tryz.prog w0 36 [tl ρ a,.fn (.func 75) [] [.ip [iv k]]] (tl ρ (a.map (mU k))) :=
 Ki a (by grind[DP]) λy b=>YC k y (by have:=iw y b;omega)
end
end
section
attribute [local irreducible] ah aG ae ad
def ajQ:FQ 160 Tryz.f160:=aF Tryz.func160 Tryz.call160
def bV:List Nat:=[0,5,11,6,4,8,9,10,13,14,12,2,3,27,38,42,50,65,84,128,7,137]
def rP (q:Int × Int):List AV:=[iv q.1,iv q.2]
def HW (ρ:Hd) (ms:List (Int × Int)):Ob:=.arr 2 (ρ.h (List.map rP) ms) 0 true
def K9 (ρ:Hd):Option (List (Int × Int))->AV
 |none=>.aL [.sl true [],.v (.bool false)]
 |some ms=>.aL [aR ρ rP false ms,.v (.bool true)]
theorem Oi (q:Int × Int):∀a ∈ rP q,Pure a:=vk .v .v
theorem HX (r:Option (List (Int × Int))):Pure (K9 ρ r):=by
 cases r with
 |none=>exact .aL (vk (.sl λr a=>by cases a) .v)
 |some ms=>exact .aL (vk (dT λx _=>Oi x) .v)
theorem Q8 {B:Nat}(ms:List (Int × Int)):h_ B (HW ρ ms):=by
 show ∀row ∈ ρ.h (List.map rP) ms,∀a ∈ row,ec B a;rw[ρ.eq];intro row b a c;obtain⟨x,_,rfl⟩:=av_.1 b;exact Pure.bm (Oi x a c)
theorem DQ {M:Nat}{S:af}{ul:Nat}{a:aS}(b:3 < M:=by decide) (h0:S.get (eM M (aU []) 0)=some (rO nl ul):=by rfl) (h1:S.get (eM M (aU []) 1)=some (ij ρ a):=by rfl) (h2:S.get (eM M (aU []) 2)=some (cI ρ cl):=by rfl) (h3:S.get (eM M (aU []) 3)=some (HW ρ ms):=by rfl):fO M [] M S [(0,rO nl ul),(1,ij ρ a),(2,cI ρ cl),(3,HW ρ ms)] :=
 ⟨.inl ⟨_,h0,.same (sw (by omega))⟩,.inl ⟨_,h1,.same (nj _)⟩,.inl ⟨_,h2,.same (fy _)⟩,.inl ⟨_,h3,.same (Q8 _)⟩,trivial⟩
theorem mC5 {S:af}{ul:Nat}{c:aS}{a b:Int}(h0:S.get 0=some (rO nl ul):=by rfl) (h1:S.get 1=some (ij ρ c):=by rfl) (h2:S.get 2=some (cI ρ cl):=by rfl) (h3:S.get 3=some (HW ρ ms):=by rfl) (h4:S.get 4=some (.arr 2 [[iv a,iv b]] 0 true):=by rfl):fO 5 [] 5 S [(0,rO nl ul),(1,ij ρ c),(2,cI ρ cl),(3,HW ρ ms),(4,.arr 2 [[iv a,iv b]] 0 true)] :=
 ⟨.inl ⟨_,h0,.same (sw (by decide))⟩,.inl ⟨_,h1,.same (nj _)⟩,.inl ⟨_,h2,.same (fy _)⟩,.inl ⟨_,h3,.same (Q8 _)⟩,.inl ⟨_,h4,.same Ed⟩,trivial⟩
def Oj (ms:List (Int × Int)):Prop:=∀i,(0<=(eR ms i).1/\(eR ms i).1<=201)/\0<=(eR ms i).2/\(eR ms i).2<=21
theorem Oj.set (h:Oj ms) {C:Nat}{q:Int × Int}(a:C < ms.length) (b:(0<=q.1/\q.1<=201)/\0<=q.2/\q.2<=21):Oj (ms.set C q):=λi=>by
 rw[F0 a];split
 ·exact b
 ·exact h i
theorem Ol (n i:Nat):eR (List.replicate n (0,0)) i=(0,0):=by
 unfold eR;rw[cU_];split<;>rfl
theorem Gb {i:Nat}(h:i < ms.length):ms[i]?=some (eR ms i):=by unfold eR;rw[ai_ h];rfl
section
variable {w0:World}{ρ:Hd}
theorem S5 {N:aS}{fu:Nat}{r:Option (List (Int × Int))}(hG:fj N) (hN:zW N) (dB:nl=N.length) (r9:nl<=100000000000) (eZ:cl.length=nl) (hc:∀i,i < nl->bT cl i < nl) (h:uc N cl fu (List.replicate N.length (0,0),jW (bT cl) (List.replicate N.length (0,0)) N.length)=some r) :
  aG Tryz.prog w0 160 [.pt 0 2 0 0] (aq (rX ρ nl nl N cl) 3) (K9 ρ r) (aq (rX ρ nl nl N cl) 3):=by
 rw[<-dB]at h;have yG:=HX (ρ:=ρ) r;refine sc 3 3 ajQ ?_;unfold rX;refine gq bV ?_;refine ig bV (ae.iz rfl) λe he=>?_;refine ad.Zx (m:=nl) ρ rP (0,0) rfl rfl rfl he rfl (by omega) (by omega) λms0 S6=>?_;refine gq bV ?_;have xh:∀n,n<=nl->(jW (bT cl) (List.replicate nl (0,0)) n:Int)<=n/\(0:Int)<=jW (bT cl) (List.replicate nl (0,0)) n:=by
  intro n
  induction n with
  |zero=>intro _;exact⟨bf_ _,bf_ _⟩
  |succ n ih =>
   intro hn;have:=ih (by omega);rw[jW];split<;>omega
 refine ad.aK (σ:=Int × Int) 4 4 [] (λp=>[(0,.pt 0 2 0 0),(4,.ob 3 2 0 nl none),(5,iv p.2),(6,iv p.1)]) [] (λp=>[(0,rO nl nl),(1,ij ρ N),(2,cI ρ cl),(3,HW ρ ms0)])
  (λp=>∃i:Nat,p.1=i/\i<=nl/\p.2=jW (bT cl) (List.replicate nl (0,0)) i) (λp=>nl - p.1.toNat) (0,0) ⟨0,rfl,by simp,rfl⟩ rfl (by exact⟨sq,rfl,DQ,rfl,rfl,rfl⟩) ?_
 rintro⟨ii,lf⟩ ⟨i,l5,vB,V⟩;simp only at l5 V;refine gq bV ?_;refine ig bV (ae.iz rfl) λW he1=>?_;refine cn (λaZ=>?_) λaZ=>?_
 ·have ir:i < nl:=by omega
  obtain⟨z,X⟩:∃z,cl[i]?=some z:=⟨_,ai_ (by omega)⟩;have rz:=bW (ρ:=ρ) (f:=c8) X;obtain⟨Y,L⟩:∃Y:Int,Y=z:=⟨_,rfl⟩;rw[c8,<-L]at rz;have yJ:=xh i (by omega);have hn:(jW (bT cl) (List.replicate nl (0,0)) (i+1):Int)=lf+if z=i then 1 else 0:=by
   rw[jW,kV X,Ol,V];by_cases e:z=i
   ·rw[if_pos ⟨e,by simp⟩,if_pos e];omega
   ·rw[if_neg (λh=>e h.1),if_neg e];omega
  refine gq bV ?_;refine ad.op rfl (ae.dg rfl rfl l5 ir) ?_;refine og bV (ae.fk rfl rfl rz rfl) ?_;refine cn (λbf=>?_) λbf=>?_
  ·rw[if_pos (by omega)]at hn;refine gq bV ?_;refine ag bV λM ee=>?_;refine ag bV λo E=>?_;refine ad.az (σ:=Int × Int) (o,M) [] ⟨i+1,by simp only;omega,by omega,by simp only;omega⟩ ?_ (by exact⟨sq,rfl,DQ,rfl,rfl,rfl⟩);simp only;omega
  ·rw[if_neg (by omega)]at hn;refine gq bV ?_;refine ag bV λo E=>?_;refine ad.az (σ:=Int × Int) (o,lf) [] ⟨i+1,by simp only;omega,by omega,by simp only;omega⟩ ?_ (by exact⟨sq,rfl,DQ,rfl,rfl,rfl⟩);simp only;omega
 have ir:i=nl:=by omega
 rw[ir]at V;rw[<-V,<-S6]at h;have yJ:=xh nl (ac_ _);rw[<-V]at yJ;refine gq bV ?_;refine ad.ao ?_;refine gq bV ?_
 refine ad.aK (σ:=Int × List (Int × Int) × Nat) 4 4 [] (λp=>[(0,.pt 0 2 0 0),(4,.ob 3 2 0 nl none),(5,iv p.1)]) [] (λp=>[(0,rO nl nl),(1,ij ρ N),(2,cI ρ cl),(3,HW ρ p.2.1)])
  (λp=>p.1<=nl/\p.2.1.length=nl/\Oj p.2.1/\uc N cl p.2.2 (p.2.1,p.1)=some r) (λp=>p.2.2) (lf,ms0,fu) ⟨yJ.1,by rw[S6,bH_],by rw[S6];intro j;rw[Ol];decide,h⟩ rfl (by exact⟨sq,rfl,DQ,rfl,rfl,rfl⟩) ?_
 rintro⟨Z,O,P⟩ ⟨iD,YD,agh,B⟩;simp only at iD YD agh B;clear h V yJ S6;cases P with
 |zero=>cases B
 |succ P =>
  rw[uc,<-dB]at B;simp only at B;refine gq bV ?_;refine cn (λbf=>?_) λbf=>?_;rotate_left
  ·rw[if_neg (by omega)]at B;obtain rfl:=oJ_ B;refine gq bV ?_;refine ad.ao ?_;refine ad.xI (ad.BS (Cv.freeze (t:=4) (k:=3) (rows:=ρ.h (List.map rP) O) (fz:=0) (ex:=true) rfl rfl (.inr ⟨_,rfl⟩) (by rw[au];exact YD.symm) (ax_ _)) ?_);refine gq bV ?_;refine fq ?_;exact⟨[],.aC (Pure.bm yG),rC,rfl⟩
  rw[if_pos (by omega)]at B;obtain⟨Vm,I9⟩:∃t,t=nQ N cl (List.range nl) (O,Z):=⟨_,rfl⟩;rw[<-I9]at B;refine gq bV ?_
  refine ad.aK (σ:=Int × List (Int × Int) × Int) 4 4 [] (λp=>[(0,.pt 0 2 0 0),(4,.ob 3 2 0 nl none),(5,iv p.2.2),(7,iv Z),(8,iv p.1)]) [] (λp=>[(0,rO nl nl),(1,ij ρ N),(2,cI ρ cl),(3,HW ρ p.2.1)])
   (λp=>∃i:Nat,p.1=i/\i<=nl/\p.2.1.length=nl/\Oj p.2.1/\Z - i<=p.2.2/\p.2.2<=Z/\nQ N cl ((List.range nl).drop i) (p.2.1,p.2.2)=Vm) (λp=>nl - p.1.toNat) (0,O,Z) ⟨0,rfl,by simp,YD,agh,by simp,bf_ _,by simpa using I9.symm⟩ rfl (by exact⟨sq,rfl,DQ,rfl,rfl,rfl⟩) ?_
  rintro⟨ci,C,M⟩ ⟨c,yB,arK,Q,H,anZ,S7,g⟩;simp only at yB Q H anZ S7 g;clear I9;refine gq bV ?_;refine ig bV (ae.iz rfl) λe3 he3=>?_;refine cn (λdQ=>?_) λdQ=>?_;rotate_left
  ·have jO:c=nl:=by omega
   rw[jO,aA_ (by rw[List.length_range];omega),nQ]at g;subst g;simp only at B;refine gq bV ?_;refine ad.ao ?_;refine gq bV ?_;refine cn (λkL=>?_) λkL=>?_
   ·rw[if_pos (by omega)]at B;obtain rfl:=oJ_ B;refine gq bV ?_;refine ad.bh ?_;refine gq bV ?_;refine fq ?_;exact⟨[],.aC (Pure.bm yG),rC,rfl⟩
   ·rw[if_neg (by omega)]at B;refine gq bV ?_;refine ad.az (σ:=Int × List (Int × Int) × Nat) (M,C,P) [] ⟨by simp only;omega,Q,H,B⟩ ?_ (by exact⟨sq,rfl,DQ,rfl,rfl,rfl⟩);exact aX_ _
  have jO:c < nl:=by omega
  obtain⟨z,X⟩:∃z,cl[c]?=some z:=⟨_,ai_ (by omega)⟩;have Jq:z < nl:=by have:=hc c jO;rw[kV X]at this;exact this
  have rz:=bW (ρ:=ρ) (f:=c8) X;obtain⟨Y,L⟩:∃Y:Int,Y=z:=⟨_,rfl⟩;rw[c8,<-L]at rz;rw[wo jO,nQ,yI]at g;simp only at g;rw[kV X]at g;have rm:=bW (ρ:=ρ) (f:=rP) (Gb (ms:=C) (i:=z) (by omega));obtain⟨⟨v1,v2⟩,hv⟩:∃q,q=eR C z:=⟨_,rfl⟩;rw[<-hv]at g rm;rw[rP]at rm;simp only at g rm;have rmz:(ρ.h (List.map rP) C)[0+z]?=some [iv v1,iv v2]:=by rw[aD_];exact rm
  refine gq bV ?_;refine ad.op rfl (ae.dg rfl rfl yB jO) ?_;refine og bV (ae.fk rfl rfl rz rfl) ?_;refine ad.op rfl (ae.Nm rfl rfl L Jq) ?_;refine ad.op rfl (ae.quiet rfl) ?_;refine og bV (ae.fk rfl rfl rmz rfl) ?_;refine cn (λkL=>?_) λkL=>?_
  ·rw[if_pos (by omega)]at g;refine gq bV ?_;refine ag bV λo E=>?_;refine ad.az (σ:=Int × List (Int × Int) × Int) (o,C,M) [] ⟨c+1,by simp only;omega,by omega,Q,H,by simp only;omega,S7,g⟩ ?_ (by exact⟨sq,rfl,DQ,rfl,rfl,rfl⟩);simp only;omega
  rw[if_neg (by omega)]at g;have sa:=Al (w0:=w0) (ρ:=ρ) (N:=N) (cl:=cl) z dB rfl eZ (by omega);rw[<-L]at sa;obtain⟨ki,nF⟩:∃k,k=tG (cM N cl z):=⟨_,rfl⟩;rw[<-nF]at sa;obtain⟨v,D⟩:∃l,l=oK N cl z:=⟨_,rfl⟩;rw[<-D]at g;obtain⟨res,cX⟩:∃x,x=mc cl C v true (1,1):=⟨_,rfl⟩;rw[<-cX]at g;have Om:(ki=-1/\v=[])\/∃(s:Nat) (t:Tm),ki=s/\N[s]?=some (t,v):=by
   unfold oK at D;cases F:cM N cl z with
   |none =>
    rw[F]at nF D;exact .inl ⟨nF,D⟩
   |some s =>
    rw[F]at nF D;have R:s < N.length:=by
     unfold cM at F;have:=cl_ F
     rwa [aI_]at this
    obtain⟨⟨t,l⟩,S⟩:∃x,N[s]?=some x:=⟨_,ai_ R⟩;simp only at D;rw[(tc S).2]at D;exact .inr ⟨s,t,nF,by rw[D];exact S⟩
  have Nx:v.length<=6:=by
   rcases Om with ⟨_,rfl⟩|⟨s,t,_,S⟩
   ·simp
   ·exact (hN _ _ _ S).1
  have Nh:∀j ∈ v,j < nl:=by
   rw[D,dB];intro j hj;unfold oK at hj;cases F:cM N cl z with
   |none=>rw[F]at hj;cases hj
   |some s =>
    rw[F]at hj;have R:s < N.length:=by
     unfold cM at F;have:=cl_ F
     rwa [aI_]at this
    exact cj_ (hG.lt s R j hj) R
  clear D nF;refine gq bV ?_;refine og bV (ae.iA sa rfl (aq_ rfl) (gz (by decide)) (Ak) (gz (by decide)) (qy (by decide) .v) .v) ?_
  refine ad.aK (σ:=Int × Bool × (Int × Int)) 5 5 [] (λp=>[(0,.pt 0 2 0 0),(4,.ob 3 2 0 nl none),(5,iv M),(7,iv Z),(8,iv ci),(9,iv Y),(10,iv ki),(11,.pt 4 2 0 0),(12,.v (.bool p.2.1)),(13,iv p.1)]) [] (λp=>[(0,rO nl nl),(1,ij ρ N),(2,cI ρ cl),(3,HW ρ C),(4,.arr 2 [[iv p.2.2.1,iv p.2.2.2]] 0 true)])
   (λp=>∃j:Nat,p.1=j/\j<=v.length/\((0<=p.2.2.1/\p.2.2.1<=201)/\0<=p.2.2.2/\p.2.2.2<=21)/\mc cl C (v.drop j) p.2.1 p.2.2=res) (λp=>v.length - p.1.toNat) (0,true,(1,1)) ⟨0,rfl,by simp,by simp only;decide,by simpa using cX.symm⟩ rfl (by exact⟨sq,rfl,mC5,rfl,rfl,rfl⟩) ?_
  rintro⟨ji,d,⟨x1,I⟩⟩ ⟨j,DS,Jb,⟨⟨b1,b2⟩,b3,b4⟩,w⟩;simp only at DS w b1 b2 b3 b4;clear cX;refine gq bV ?_;refine cn (λmg=>?_) λmg=>?_;rotate_left
  ·have hl0:v=[]:=by
    rcases Om with ⟨_,h⟩|⟨s,t,h,_⟩
    ·exact h
    ·exfalso;omega
   have lK:j=v.length:=by rw[hl0]at Jb ⊢;simpa using Jb
   rw[lK,aA_ (ac_ _),mc]at w;rw[<-w]at g;simp only at g;refine gq bV ?_;refine ad.ao ?_;cases d with
   |false =>
    rw[if_neg (by decide)]at g;refine gq bV ?_;refine ag bV λo E=>?_;refine ad.az (σ:=Int × List (Int × Int) × Int) (o,C,M) [] ⟨c+1,by simp only;omega,by omega,Q,H,by simp only;omega,S7,g⟩ ?_ (by exact⟨sq,rfl,DQ,rfl,rfl,rfl⟩);simp only;omega
   |true =>
    rw[if_pos rfl]at g;refine gq bV ?_;refine ad.op rfl (ae.Nm rfl rfl L Jq) ?_;refine ad.Dj (f:=rP) (y:=(x1,I)) rfl rfl rfl rfl rfl (λ_=>rfl) rfl (by omega) (λu G=>?_);rw[aD_]at G;refine gq bV ?_;refine ag bV λl3 Vx=>?_;refine ag bV λo E=>?_;refine ad.az (σ:=Int × List (Int × Int) × Int) (o,u,l3) [] ⟨c+1,by simp only;omega,by omega,by simp only;rw[G,aV_];exact Q,by simp only;rw[G];exact H.set (by omega) ⟨⟨b1,b2⟩,b3,b4⟩,by simp only;omega,by simp only;omega,by simp only;rw[G,Vx];exact g⟩ ?_ (by exact⟨sq,rfl,DQ,rfl,rfl,rfl⟩);simp only;omega
  obtain⟨s,t,Q_,S⟩:=Om.resolve_left (by rintro⟨h,_⟩;omega);have R:s < nl:=by rw[dB];exact (ar_.1 S).1
  have rs:=bW (ρ:=ρ) (f:=pw ρ) S;rw[pw]at rs;obtain⟨tk,ti,Fa,ta⟩:=t;simp only at rs;have QP:Pure (aR ρ c8 false v):=dT λx _ a ha=>by
   obtain rfl:=ae_.1 ha;exact .v
  refine gq bV ?_;refine ad.op rfl (ae.dg rfl rfl Q_ R) ?_;refine ad.op rfl (ae.quiet rfl) ?_;refine og bV (ae.fk rfl rfl rs rfl) ?_;refine lg bV λq hq=>?_;refine cn (λxN=>?_) λxN=>?_;rotate_left
  ·skip;have lK:j=v.length:=by omega
   rw[lK,aA_ (ac_ _),mc]at w;rw[<-w]at g;simp only at g;refine gq bV ?_;refine ad.ao ?_;cases d with
   |false =>
    rw[if_neg (by decide)]at g;refine gq bV ?_;refine ag bV λo E=>?_;refine ad.az (σ:=Int × List (Int × Int) × Int) (o,C,M) [] ⟨c+1,by simp only;omega,by omega,Q,H,by simp only;omega,S7,g⟩ ?_ (by exact⟨sq,rfl,DQ,rfl,rfl,rfl⟩);simp only;omega
   |true =>
    rw[if_pos rfl]at g;refine gq bV ?_;refine ad.op rfl (ae.Nm rfl rfl L Jq) ?_;refine ad.Dj (f:=rP) (y:=(x1,I)) rfl rfl rfl rfl rfl (λ_=>rfl) rfl (by omega) (λu G=>?_);rw[aD_]at G;refine gq bV ?_;refine ag bV λl3 Vx=>?_;refine ag bV λo E=>?_;refine ad.az (σ:=Int × List (Int × Int) × Int) (o,u,l3) [] ⟨c+1,by simp only;omega,by omega,by simp only;rw[G,aV_];exact Q,by simp only;rw[G];exact H.set (by omega) ⟨⟨b1,b2⟩,b3,b4⟩,by simp only;omega,by simp only;omega,by simp only;rw[G,Vx];exact g⟩ ?_ (by exact⟨sq,rfl,DQ,rfl,rfl,rfl⟩);simp only;omega
  obtain⟨x,hx⟩:∃x,v[j]?=some x:=⟨_,ai_ (by omega)⟩;have mQ:x < nl:=Nh x (aa_ hx);obtain⟨y,hy⟩:∃y,cl[x]?=some y:=⟨_,ai_ (by omega)⟩;have jQ:y < nl:=by have:=hc x mQ;rw[kV hy]at this;exact this
  obtain⟨xa,xb⟩:=ar_.1 hx;rw[bq_ xa,xb,mc,kV hy]at w;have ry:=bW (ρ:=ρ) (f:=c8) hy;obtain⟨yi,Dp⟩:∃yi:Int,yi=y:=⟨_,rfl⟩;rw[c8,<-Dp]at ry;have U:=H y;have rw0:=bW (ρ:=ρ) (f:=rP) (Gb (ms:=C) (i:=y) (by omega));obtain⟨⟨w1,w2⟩,hw⟩:∃q,q=eR C y:=⟨_,rfl⟩;rw[<-hw]at w rw0 U;simp only at w U;obtain⟨⟨v1',v2'⟩,v3',v4'⟩:=U;have rwz:(ρ.h (List.map rP) C)[0+y]?=some [iv w1,iv w2]:=by rw[aD_];exact rw0
  obtain⟨xi,Dn⟩:∃xi:Int,xi=x:=⟨_,rfl⟩;have pY:idx (ρ.h (List.map c8) v) ji=some [iv xi]:=by rw[aB (l:=v) DS hx,c8,Dn]
  refine gq bV ?_;refine ad.cP rfl (λT=>ae.dg rfl rfl Q_ R) ?_;refine ad.cP rfl (λT=>ae.quiet rfl) ?_;refine ad.eW rfl (a_.fk rfl rfl rs rfl) ?_;refine gq bV ?_;refine ad.cP rfl (λT=>ae.ind rfl rfl pY (aA λ_=>rfl)) ?_;refine gq bV ?_;refine ad.cP rfl (λT=>ae.dg rfl rfl Dn mQ) ?_;refine ad.eW rfl (a_.fk rfl rfl ry rfl) ?_;refine gq bV ?_;refine ad.cP rfl (λT=>ae.Nm rfl rfl Dp jQ) ?_;refine ad.eW rfl (a_.fk rfl rfl rwz rfl) ?_;refine gq bV ?_;cases d with
  |false =>
   rw[bv_]at w;refine gq bV ?_;refine ag bV λa1 dD=>?_;refine ig bV (ae.min (k:=.i64) (a:=a1) (b:=201) rfl rfl) λJ eO=>?_;refine ag bV λa3 fc=>?_;refine ig bV (ae.max (k:=.i64) (a:=I) (b:=a3) rfl rfl) λa4 ha4=>?_;refine ig bV (ae.min (k:=.i64) (a:=a4) (b:=21) rfl rfl) λK NY=>?_;refine ag bV λo E=>?_;have W:J=min (x1+w1) 201:=by omega
   have e2:K=min (max I (w2+1)) 21:=by omega
   refine ad.az (σ:=Int × Bool × (Int × Int)) (o,false,(J,K)) [] ⟨j+1,by simp only;omega,by omega,⟨⟨by simp only;omega,by simp only;omega⟩,by simp only;omega,by simp only;omega⟩,by simp only;rw[W,e2];exact w⟩ ?_ (by exact⟨sq,rfl,mC5,rfl,rfl,rfl⟩);simp only;omega
  |true =>
   rw[aL_]at w;refine gq bV ?_;refine cn (λyQ=>?_) λyQ=>?_
   ·rw[decide_eq_true (show 0 < w1 by omega)]at w;refine gq bV ?_;refine ag bV λa1 dD=>?_;refine ig bV (ae.min (k:=.i64) (a:=a1) (b:=201) rfl rfl) λJ eO=>?_;refine ag bV λa3 fc=>?_;refine ig bV (ae.max (k:=.i64) (a:=I) (b:=a3) rfl rfl) λa4 ha4=>?_;refine ig bV (ae.min (k:=.i64) (a:=a4) (b:=21) rfl rfl) λK NY=>?_;refine ag bV λo E=>?_;have W:J=min (x1+w1) 201:=by omega
    have e2:K=min (max I (w2+1)) 21:=by omega
    refine ad.az (σ:=Int × Bool × (Int × Int)) (o,true,(J,K)) [] ⟨j+1,by simp only;omega,by omega,⟨⟨by simp only;omega,by simp only;omega⟩,by simp only;omega,by simp only;omega⟩,by simp only;rw[W,e2];exact w⟩ ?_ (by exact⟨sq,rfl,mC5,rfl,rfl,rfl⟩);simp only;omega
   ·rw[decide_eq_false (show ¬ 0 < w1 by omega)]at w;refine gq bV ?_;refine ag bV λa1 dD=>?_;refine ig bV (ae.min (k:=.i64) (a:=a1) (b:=201) rfl rfl) λJ eO=>?_;refine ag bV λa3 fc=>?_;refine ig bV (ae.max (k:=.i64) (a:=I) (b:=a3) rfl rfl) λa4 ha4=>?_;refine ig bV (ae.min (k:=.i64) (a:=a4) (b:=21) rfl rfl) λK NY=>?_;refine ag bV λo E=>?_;have W:J=min (x1+w1) 201:=by omega
    have e2:K=min (max I (w2+1)) 21:=by omega
    refine ad.az (σ:=Int × Bool × (Int × Int)) (o,false,(J,K)) [] ⟨j+1,by simp only;omega,by omega,⟨⟨by simp only;omega,by simp only;omega⟩,by simp only;omega,by simp only;omega⟩,by simp only;rw[W,e2];exact w⟩ ?_ (by exact⟨sq,rfl,mC5,rfl,rfl,rfl⟩);simp only;omega
end
end
end Go.Proofs.YtbpabjmnhggajaaGreat
