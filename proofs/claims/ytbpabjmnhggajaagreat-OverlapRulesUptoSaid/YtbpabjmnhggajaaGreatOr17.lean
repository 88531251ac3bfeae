import Derived.Test.YtbpabjmnhggajaaGreatOr16
namespace Go.Proofs.YtbpabjmnhggajaaGreat
set_option linter.all false
set_option maxRecDepth 100000
open Go.RowKit
section
attribute [local irreducible] ah aG ae ad
def ah0:FQ 109 Tryz.f109:=aF Tryz.func109 Tryz.call109
def adS:List Nat:=[1,2,0,5]
def ah1:FQ 259 Tryz.f259:=aF Tryz.func259 Tryz.call259
def adT:List Nat:=[1,2,0,5]
def amx:FQ 60 Tryz.f60:=aF Tryz.func60 Tryz.call60
def BU:List Nat:=[5,4,3,2,0,1,11]
def ah2:FQ 157 Tryz.f157:=aF Tryz.func157 Tryz.call157
def sA:List Nat:=[5,4,3,2,0,1,11]
def ah3:FQ 245 Tryz.f245:=aF Tryz.func245 Tryz.call245
def wW:List Nat:=[5,0,4,9,1,17]
def amy:FQ 98 Tryz.f98:=aF Tryz.func98 Tryz.call98
def g98:List Nat:=[0,2,3,10,17]
def oG (x:Tm):List Tm:=if x.k=2 then x.a else []
mutual
def cY:Tm->Nat
 |⟨k,i,n,a⟩=>if k=2 then 1+bw a else 1
def bw:List Tm->Nat
 |[]=>0
 |x::l=>cY x+bw l
end
mutual
def oH:Tm->Nat
 |⟨k,i,n,a⟩=>if k=2 then 1+kg a else 1
def kg:List Tm->Nat
 |[]=>0
 |x::l=>max (oH x) (kg l)
end
theorem AR (x:Tm):cY x=1+bw (oG x):=by
 obtain⟨k,i,n,a⟩:=x;rw[cY,oG];split<;>rfl
theorem IA (x:Tm):oH x=1+kg (oG x):=by
 obtain⟨k,i,n,a⟩:=x;rw[oH,oG];split<;>rfl
theorem rA (x:Tm):1<=cY x:=by rw[AR];omega
theorem abv:∀x:Tm,oH x<=cY x:=by
 refine Tm.ind ?_;intro k i n a c;have key:∀l:List Tm,(∀x ∈ l,oH x<=cY x)->kg l<=bw l:=by
  intro l
  induction l with
  |nil=>intro _;exact ac_ 0
  |cons x l b =>
   intro h;have d:=h x (by simp);have e:=b (λy f=>h y (by grind));rw[kg,bw];omega
 rw[oH,cY];split
 ·grind
 ·grind
theorem zc:∀(l:List Tm) (k:Nat),bw (l.drop k)<=bw l
 |[],k=>by simp
 |x::l,0=>by simp
 |x::l,k+1=>by
  rw[List.drop_succ_cons,bw];have:=zc l k;omega
theorem vZ:∀l:List Tm,l.length<=bw l
 |[]=>ac_ 0
 |x::l=>by
  have:=vZ l;have:=rA x;rw[bw,aw_];omega
section
variable {w0:World}{ρ:Hd}
theorem IB (x:Tm):ah Tryz.prog w0 109 [tm ρ x] (tl ρ (oG x)):=by
 obtain⟨k,i,n,a⟩:=x;refine st ah0 adS ((cG _)) ?_
 repeat' (first
  |refine cg adS (λb=>?_) λb=>?_
  |(refine fq ?_))
 ·rw[oG,if_pos b];exact aP.of_eq rfl
 ·grind[oG,tl,bX,aP.wk]
theorem adU (x:Tm):ah Tryz.prog w0 259 [tm ρ x] (tl ρ (oG x)):=by
 obtain⟨k,i,n,a⟩:=x;refine st ah1 adT ((cG _)) ?_
 repeat' (first
  |refine cg adT (λb=>?_) λb=>?_
  |(refine fq ?_))
 ·rw[oG,if_pos b];exact aP.of_eq rfl
 ·grind[oG,tl,bX,aP.wk]
theorem adV (l:List Int) (v:Int) (j:l.length<=1099511627776):ah Tryz.prog w0 245 [aR ρ aI false l,iv v] (.v (.bool (l.contains v))):=by
 refine st ah3 wW .v ?_
 refine ad.aK (σ:=Int) 0 0 [] (λi=>[(0,aR ρ aI false l),(1,.v (.int .i64 v)),(5,.v (.int .i64 i))]) [] (λ_=>[])
  (λi=>∃k:Nat,i=k/\k<=l.length/\l.contains v=(l.drop k).contains v) (λi=>l.length - i.toNat) 0 ⟨0,rfl,by simp,by simp⟩ rfl cq ?_
 rintro i ⟨k,d,n,a⟩;refine gq wW ?_;by_cases e:k < l.length
 ·obtain⟨x,f,g⟩:=aD e;rw[g,cE_]at a
  repeat' (first
   |refine og wW (ae.ind rfl rfl (aB (l:=l) d f) (aA λ_=>rfl)) ?_
   |refine cg wW (λb=>?_) λb=>?_
   |refine lg wW λm h=>?_
   |refine ag wW λ_ _=>?_
   |refine ad.ao ?_;refine gq wW ?_
   |refine ad.bh ?_;refine gq wW ?_
   |(refine fq ?_))
  all_goals first
   |(refine ad.az (σ:=Int) _ [] ?_ ?_ cq
     ·grind
     ·omega)
   |refine bY ?_;rw[a];simp;left;omega
   |exfalso;omega
 ·skip
  repeat' (first
   |refine cg wW (λb=>?_) λb=>?_
   |refine lg wW λm h=>?_
   |refine ad.ao ?_;refine gq wW ?_
   |(refine fq ?_))
  all_goals first
   |exfalso;omega
   |rw[a,ak_ (by omega)];exact bY rfl
theorem abw (o:Int):ah Tryz.prog w0 98 [iv o] (iv (if o=1\/o=2 then 0 else if o=11\/o=12 then 1 else if o > 2/\o < 11 then 2 else -1)):=by
 refine st amy g98 .v ?_
 repeat' (first
  |refine cg g98 (λa=>?_) λa=>?_
  |(refine fq ?_))
 all_goals (refine dP ?_;(repeat' split)<;>first|rfl|omega)
theorem IC (n:Nat):∀x:Tm,cY x<=n->n<=1099511627776->ah Tryz.prog w0 60 [tm ρ x] (iv (cY x)):=by
 induction n with
 |zero=>intro x h;have:=rA x;omega
 |succ n e =>
  intro x z B;have f:=AR x;have g:=vZ (oG x);obtain⟨A,j⟩:∃A,A=oG x:=⟨_,rfl⟩;rw[<-j]at f g;have o:ah Tryz.prog w0 109 [tm ρ x] (tl ρ A):=by grind[IB]
  refine st amx BU .v ?_
  repeat' (first
   |(apply bK BU o)
   )
  refine ad.aK (σ:=Int × Int) 1 1 [] (λp=>[(3,.v (.int .i64 p.2)),(4,tl ρ A),(5,.v (.int .i64 p.1))]) [] (λ_=>[])
   (λp=>∃k:Nat,p.1=k/\k<=A.length/\0<=p.2/\p.2+bw (A.drop k)=cY x) (λp=>A.length - p.1.toNat) (0,1) ⟨0,rfl,by simp,by simp,by grind⟩ rfl cq ?_
  rintro⟨i,c⟩ ⟨k,d,C,r,a⟩;simp only at d r a;refine gq BU ?_;by_cases s:k < A.length
  ·obtain⟨y,t,u⟩:=aD s;have v:=zc A k;rw[u,bw]at a v;have D:=rA y
   repeat' (first
    |refine og BU (ae.ind rfl rfl (cC (l:=A) d t) cD) ?_
    |refine ig BU (pl (e y (by omega) (by omega))) λ_ _=>?_
    |refine cg BU (λb=>?_) λb=>?_
    |refine lg BU λm w=>?_
    |refine ag BU λ_ _=>?_
    |refine ad.ao ?_;refine gq BU ?_
    |(refine fq ?_))
   all_goals first
    |exfalso;omega
    |(refine ad.az (σ:=Int × Int) (_,_) [] ?_ ?_ cq
      ·grind
      ·simp only;omega)
  ·skip
   repeat' (first
    |refine cg BU (λb=>?_) λb=>?_
    |refine lg BU λm w=>?_
    |refine ad.ao ?_;refine gq BU ?_
    |(refine fq ?_))
   all_goals first
    |exfalso;omega
    |rw[ak_ (by omega),bw]at a;exact dP (by omega)
end
end
section
attribute [local irreducible] ah aG ae ad
def ah4:FQ 208 Tryz.f208:=aF Tryz.func208 Tryz.call208
def adW:List Nat:=[0,2]
def ah5:FQ 156 Tryz.f156:=aF Tryz.func156 Tryz.call156
def qj:List Nat:=[1,6,4,2,0,7,28,49,3,78,83,92]
def amz:FQ 94 Tryz.f94:=aF Tryz.func94 Tryz.call94
def T9:List Nat:=[1,2,0]
def amA:FQ 97 Tryz.f97:=aF Tryz.func97 Tryz.call97
def zA:List Nat:=[4,0,3,2,8,16]
def amB:FQ 55 Tryz.f55:=aF Tryz.func55 Tryz.call55
def T_:List Nat:=[1,2,0]
def amC:FQ 57 Tryz.f57:=aF Tryz.func57 Tryz.call57
def PW:List Nat:=[1,2,0,5]
def eB (s:ByteArray):Bool:=s.toList == ((⟨#[43]⟩:ByteArray)).toList || s.toList == ((⟨#[45]⟩:ByteArray)).toList || s.toList == ((⟨#[42]⟩:ByteArray)).toList || s.toList == ((⟨#[47]⟩:ByteArray)).toList || s.toList == ((⟨#[37]⟩:ByteArray)).toList
def vm (n:ByteArray) (a:List Tm):Bool:=n.toList == (⟨#[]⟩:ByteArray).toList && a.isEmpty
mutual
def kh:Tm->Bool
 |⟨k,i,n,a⟩=>if k=0 then decide (-2147483648<=i) && decide (i<=2147483648) && vm n a else if k=1 then decide (0<=i) && decide (i<=1048576) && vm n a
  else if k=2 then i == 0 && (eB n && a.length == 2 || mC n && decide (a.length<=6)) && jI a else false
def jI:List Tm->Bool
 |[]=>true
 |x::l=>kh x && jI l
end
def cd (x:Tm):Bool:=kh x && decide (cY x<=200) && decide (oH x<=20)
def mw (l:List Tm):Bool:=l.all cd && decide (bw l<=200)
theorem mu {B sz fz:Nat}{row:List AV}{ex:Bool}(h:∀a ∈ row,Pure a):h_ B (.arr sz [row] fz ex):=λr b a c=>by
 obtain rfl:=ae_.1 b;exact (h a c).bm
section
variable {w0:World}{ρ:Hd}
theorem W4 (n:Nat):∀x:Tm,cY x<=n->n<=1099511627776->ah Tryz.prog w0 157 [tm ρ x] (iv (oH x)):=by
 induction n with
 |zero=>intro x h;have:=rA x;omega
 |succ n f =>
  intro x C D;have g:=AR x;have j:=IA x;have o:=vZ (oG x);have q:=abv x;obtain⟨A,r⟩:∃A,A=oG x:=⟨_,rfl⟩;rw[<-r]at g o j;have s:ah Tryz.prog w0 109 [tm ρ x] (tl ρ A):=by grind[IB]
  refine st ah2 sA .v ?_
  repeat' (first
   |(apply bK sA s)
   )
  refine ad.aK (σ:=Int × Int) 1 1 [] (λp=>[(3,.v (.int .i64 p.2)),(4,tl ρ A),(5,.v (.int .i64 p.1))]) [] (λ_=>[])
   (λp=>∃k:Nat,p.1=k/\k<=A.length/\0<=p.2/\max p.2 (kg (A.drop k):Int)=kg A) (λp=>A.length - p.1.toNat) (0,0) ⟨0,rfl,by simp,by simp,by simp⟩ rfl cq ?_
  rintro⟨i,c⟩ ⟨k,d,E,u,a⟩;simp only at d u a;refine gq sA ?_;by_cases v:k < A.length
  ·obtain⟨y,w,e⟩:=aD v;have z:=zc A k;rw[e,kg]at a;rw[e,bw]at z;have F:=rA y
   repeat' (first
    |refine og sA (ae.ind rfl rfl (cC (l:=A) d w) cD) ?_
    |refine ig sA (pl (f y (by omega) (by omega))) λ_ _=>?_
    |refine ig sA (ae.max rfl rfl) λ_ _=>?_
    |refine cg sA (λb=>?_) λb=>?_
    |refine lg sA λm B=>?_
    |refine ag sA λ_ _=>?_
    |refine ad.ao ?_;refine gq sA ?_
    |(refine fq ?_))
   all_goals first
    |exfalso;omega
    |(refine ad.az (σ:=Int × Int) (_,_) [] ?_ ?_ cq
      ·exact⟨k+1,by grind,by omega,by grind,by grind⟩
      ·simp only;omega)
  ·skip
   repeat' (first
    |refine cg sA (λb=>?_) λb=>?_
    |refine lg sA λm B=>?_
    |refine ag sA λ_ _=>?_
    |refine ad.ao ?_;refine gq sA ?_
    |(refine fq ?_))
   all_goals first
    |exfalso;omega
    |rw[ak_ (by omega),kg]at a;exact dP (by omega)
theorem PX (s:ByteArray):ah Tryz.prog w0 208 [.v (.string s)] (.v (.bool (eB s))):=by
 refine st ah4 adW .v ?_
 repeat' (first
  |refine cg adW (λa=>?_) λa=>?_
  |(refine fq ?_))
 all_goals (refine aP.of_eq ?_;simp_all[eB])
theorem adX (x:Tm) (d:x.ok):ah Tryz.prog w0 156 [tm ρ x] (.v (.bool (kh x))):=by
 revert d;refine Tm.ind (p:=λx=>x.ok->ah Tryz.prog w0 156 [tm ρ x] (.v (.bool (kh x)))) ?_ x;intro k i n a s d;obtain⟨v,t,h⟩:=d.out;dsimp only at v t h;rw[kh];have e:a.isEmpty=decide ((a.length:Int)=0):=by
  cases a with
  |nil=>rfl
  |cons x l=>simp;omega
 rw[vm,e];have f:(a.length == 2)=decide ((a.length:Int)=2):=by grind
 have g:decide (a.length<=6)=decide ((a.length:Int)<=6):=decide_eq_decide.2 (by omega);rw[f,g];obtain⟨V,b⟩:∃V,V=kh ⟨k,i,n,a⟩:=⟨_,rfl⟩;rw[kh,vm,e,f,g]at b;rw[<-b];refine st ah5 qj .v ?_
 repeat' (first
  |refine bg qj (pl (PX _)) (λ_=>?_) λ_=>?_
  |refine bg qj (pl (AQ _ t)) (λ_=>?_) λ_=>?_
  |refine cg qj (λc=>?_) λc=>?_
  |refine lg qj λm u=>?_
  |(refine fq ?_))
 all_goals try (refine bY ?_;rw[b];clear s d h e f g b;subst_vars;simp_all<;>(intros;omega))
 all_goals
  have D:V=jI a:=by grind
  clear b e f g
  refine ad.aK (σ:=Int) 1 1 [] (λj=>[(1,.pt 0 4 0 0),(4,.v (.int .i64 j))]) [] (λ_=>[(0,.arr 4 [je ρ ⟨k,i,n,a⟩] 0 true)])
   (λj=>∃q:Nat,j=q/\q<=a.length/\V=jI (a.drop q)) (λj=>a.length - j.toNat) 0 ⟨0,rfl,by simp,by grind⟩ rfl
   cz ?_
  rintro j ⟨q,z,E,o⟩;refine gq qj ?_;by_cases A:q < a.length
  ·obtain⟨y,r,B⟩:=aD A;rw[B,jI]at o;have C:=s y (bM r) (h.mem y (bM r))
   repeat' (first
    |refine og qj (ae.ind rfl rfl (cC (l:=a) z r) cD) ?_
    |refine bg qj (pl C) (λ_=>?_) λ_=>?_
    |refine cg qj (λc=>?_) λc=>?_
    |refine lg qj λm u=>?_
    |refine ag qj λ_ _=>?_
    |refine ad.ao ?_;refine gq qj ?_
    |refine ad.bh ?_;refine gq qj ?_
    |(refine fq ?_))
   all_goals first
    |(refine ad.az (σ:=Int) _ [] ?_ ?_ cz
      ·grind
      ·omega)
    |refine bY ?_;rw[o];simp_all;done
  ·skip
   repeat' (first
    |refine cg qj (λc=>?_) λc=>?_
    |refine lg qj λm u=>?_
    |refine ad.ao ?_;refine gq qj ?_
    |(refine fq ?_))
   all_goals first
    |exfalso;omega
    |rw[o,ak_ (by omega),jI];exact bY rfl
end
end
end Go.Proofs.YtbpabjmnhggajaaGreat
