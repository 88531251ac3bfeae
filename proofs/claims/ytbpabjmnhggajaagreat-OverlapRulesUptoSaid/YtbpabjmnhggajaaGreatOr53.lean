import Derived.Test.YtbpabjmnhggajaaGreatOr52
namespace Go.Proofs.YtbpabjmnhggajaaGreat
set_option linter.all false
set_option maxRecDepth 100000
open Go.RowKit
variable {u:List Bd}{s:List Im × Bool}
section
attribute [local irreducible] ah aG ae ad
def aha:FQ 21 Tryz.f21:=aF Tryz.func21 Tryz.call21
def iR:List Nat:=[9,2,0,1,7,10,8,6,16,22,59]
def Gu (ρ:Hd) (l:List Int):List AV:=[aR ρ aI false l]
def OQ (ρ:Hd) (L:List (List Int)):AV:=aR ρ (Gu ρ) false L
def BI (f:At) (G:List Int->List (List Int)) (l:List Int) (T:List At):Nat->List (List Int)
 |0=>G (l++[-1])++nG f G l T 0
 |z+1=>nG f G l (T.drop z) z
section
variable {w0:World}{ρ:Hd}
theorem KA (l:List Int):∀a ∈ Gu ρ l,Pure a:=λa b=>by obtain rfl:=ae_.1 b;exact bt _
theorem Gv (L:List (List Int)):Pure (OQ ρ L):=dT λx _ a b=>KA x a b
theorem abm {B sz:Nat}{ex:Bool}(L:List (List Int)):h_ B (.arr sz (ρ.h (List.map (Gu ρ)) L) 0 ex):=jS λx _ a b=>KA x a b
theorem ahb (a b:List At) (l:List Int) (h:l.length=a.length):ah Tryz.prog w0 21 [cL ρ a,cL ρ b,aR ρ aI false l] (OQ ρ [l]):=by
 refine st aha iR ((Gv _)) ?_;refine bS λm c=>?_;rw[au]at c;refine gq iR ?_;refine bS λf d=>?_;rw[au]at d;refine gq iR ?_;refine cn (λe=>?_) λe=>?_;rotate_left
 ·grind
 refine gq iR ?_;refine fq ?_;rw[OQ,bX];exact aP.wk
theorem ahc (a b:List At) (l:List Int) (f:At) (fs:List At) (v:a[l.length]?=some f) (ha:a.length<=4) (W:b.length<=4) (B9:fs.length<=4) (A:∀x:Int,ah Tryz.prog w0 21 [cL ρ a,cL ρ b,aR ρ aI false (l++[x])] (OQ ρ (eS b fs (l++[x])))):ah Tryz.prog w0 21 [cL ρ a,cL ρ b,aR ρ aI false l] (OQ ρ (eS b (f::fs) l)):=by
 have Z:l.length < a.length:=(ar_.1 v).1;have j:∀n:Int,_:=λn=>ag6 (w0:=w0) (ρ:=ρ) l n (by omega);have h:=uv W (f::fs) l;have Q:5 ^ (f::fs).length<=3125:=ay_ (cN_ (by decide) (show (f::fs).length<=5 by grind)) (by decide);obtain⟨G,B⟩:∃G,G=eS b fs:=⟨_,rfl⟩;obtain⟨R,C⟩:∃R,R=eS b (f::fs) l:=⟨_,rfl⟩;rw[<-C]at h ⊢;rw[eS,<-B]at C;rw[<-B]at A;clear B;have h:R.length<=3125:=ay_ h Q;clear Q;obtain⟨q,hq⟩:∃q,q=l.length:=⟨_,rfl⟩;rw[<-hq]at v Z;obtain⟨fn,o⟩:=f;refine st aha iR ((Gv _)) ?_;refine bS λm hm=>?_;rw[au]at hm;refine gq iR ?_;refine bS λm2 eI=>?_;rw[au]at eI;refine gq iR ?_;refine cn (λaZ=>?_) λaZ=>?_
 ·grind
 refine gq iR ?_
 refine ad.aK (σ:=Int × List (List Int) × Nat) 0 1 [] (λs=>[(0,cL ρ a),(1,cL ρ b),(2,aR ρ aI false l),(7,iv m),(8,.gr 0 1 s.2.2),(9,iv s.1)]) [] (λs=>[(0,.arr 1 (ρ.h (List.map (Gu ρ)) s.2.1) 0 false)])
  (λs=>∃z:Nat,s.1=(z:Int) - 1/\z<=b.length+1/\R=s.2.1++BI ⟨fn,o⟩ G l b z/\s.2.2=s.2.1.length) (λs=>b.length+1 - (s.1+1).toNat) (-1,[],0) ⟨0,by simp,by omega,by grind[BI],rfl⟩ rfl cz ?_
 rintro⟨n,acc,len⟩ ⟨z,S,tD,d,i⟩;simp only at S d i;clear C;refine gq iR ?_;refine bS λm3 uP=>?_;rw[au]at uP;refine gq iR ?_;refine cn (λT=>?_) λT=>?_;rotate_left
 ·obtain rfl:z=b.length+1:=by omega
  rw[BI,aA_ (ac_ _),nG,aB_]at d;subst d;refine gq iR ?_;refine ad.ao ?_;refine gq iR ?_;refine fq ?_;exact aP.grow rfl i
 match z with
 |0 =>
  obtain rfl:n=-1:=by grind
  rw[BI]at d;obtain⟨X,D⟩:∃X,X=BI ⟨fn,o⟩ G l b 1:=⟨_,rfl⟩;rw[show nG ⟨fn,o⟩ G l b 0=X from D.symm ▸ rfl]at d;have g:=A (-1);obtain⟨Y,w⟩:∃Y,Y=G (l++[-1]):=⟨_,rfl⟩;rw[<-w]at d g;have E:=congrArg List.length d;rw[af_,af_]at E;refine gq iR ?_;refine cn (λF=>?_) λF=>?_
  ·grind
  refine gq iR ?_;refine ad.qF (f:=aI) (ys:=l) rfl rfl rfl (λ_=>rfl) (by omega) (λa1 n1 I J=>?_);refine gq iR ?_;refine ad.app (x:=-1) (f:=aI) rfl rfl rfl J (λ_=>rfl) rfl rfl rfl rfl (by grind) λa2 n2 r K=>?_;rw[I]at r;rw[<-r]at g;refine gq iR ?_;refine ad.uC (Cv.freeze (t:=70) rfl rfl (.inl rfl) (K.trans (au (ρ:=ρ) (f:=aI)).symm) (ax_ _)) ?_;apply bK iR g;refine ad.qm (f:=Gu ρ) (ys:=Y) rfl rfl rfl i (λ_=>rfl) rfl (λ_=>rfl) (λ_=>rfl) (by omega) λL M fc N=>?_;refine gq iR ?_;refine ag iR λe y=>?_;refine ad.az (σ:=Int × List (List Int) × Nat) (e,L,M) [(0,3)] ⟨0+1,by grind,by omega,by grind,N⟩ ?_ cz;simp only;omega
 |k+1 =>
  rw[BI]at d;obtain⟨x,U,aV⟩:=aD (l:=b) (k:=k) (by omega);rw[aV,nG]at d;obtain⟨X,D⟩:∃X,X=BI ⟨fn,o⟩ G l b (k+2):=⟨_,rfl⟩;rw[show nG ⟨fn,o⟩ G l (b.drop (k+1)) (k+1)=X from D.symm ▸ rfl]at d;have u:n=(k:Int):=by omega
  subst u;have j:=j (k:Int);have g:=A (k:Int);obtain⟨Y,w⟩:∃Y,Y=G (l++[(k:Int)]):=⟨_,rfl⟩;rw[<-w]at d g;obtain⟨c,V⟩:∃c,c=l.contains (k:Int):=⟨_,rfl⟩;rw[<-V]at d j;obtain⟨n,u⟩:∃n:Int,n=(k:Int):=⟨_,rfl⟩;rw[<-u]at j g S T ⊢;obtain⟨xn,xa⟩:=x;unfold Bw at d;simp only at d;clear V w;refine gq iR ?_;refine cn (λF=>?_) λF=>?_;rotate_left
  ·grind
  refine gq iR ?_;refine ad.op rfl (pl j) ?_;cases c with
  |true =>
   rw[if_neg (by simp),aK_]at d;refine gq iR ?_;refine ag iR λe y=>?_;refine ad.az (σ:=Int × List (List Int) × Nat) (e,acc,len) [] ⟨k+2,by grind,by omega,by grind,i⟩ ?_ cz;simp only;omega
  |false =>
  refine gq iR ?_;refine og iR (ae.ind rfl rfl (aB (l:=a) (by omega) v) (aA λ_=>rfl)) ?_;refine og iR (ae.ind rfl rfl (aB (l:=b) u U) (aA λ_=>rfl)) ?_;refine cn (λkL=>?_) λkL=>?_
  ·rw[if_neg (by grind),aK_]at d;refine gq iR ?_;refine ag iR λe y=>?_;refine ad.az (σ:=Int × List (List Int) × Nat) (e,acc,len) [] ⟨k+2,by grind,by omega,by grind,i⟩ ?_ cz;simp only;omega
  refine gq iR ?_;refine og iR (ae.ind rfl rfl (aB (l:=a) (by omega) v) (aA λ_=>rfl)) ?_;refine bS λq5 O=>?_;rw[au]at O;refine gq iR ?_;refine og iR (ae.ind rfl rfl (aB (l:=b) u U) (aA λ_=>rfl)) ?_;refine bS λq6 P=>?_;rw[au]at P;refine gq iR ?_;refine cn (λmg=>?_) λmg=>?_
  ·rw[if_neg (by grind),aK_]at d;refine gq iR ?_;refine ag iR λe y=>?_;refine ad.az (σ:=Int × List (List Int) × Nat) (e,acc,len) [] ⟨k+2,by grind,by omega,by grind,i⟩ ?_ cz;simp only;omega
  rw[if_pos (by grind)]at d;have E:=congrArg List.length d;rw[af_,af_]at E;refine gq iR ?_;refine ad.qF (f:=aI) (ys:=l) rfl rfl rfl (λ_=>rfl) (by omega) (λa1 n1 I J=>?_);refine gq iR ?_;refine ad.app (x:=n) (f:=aI) rfl rfl rfl J (λ_=>rfl) rfl rfl rfl rfl (by grind) λa2 n2 r K=>?_;rw[I]at r;rw[<-r]at g;refine gq iR ?_;refine ad.uC (Cv.freeze (t:=70) rfl rfl (.inl rfl) (K.trans (au (ρ:=ρ) (f:=aI)).symm) (ax_ _)) ?_;apply bK iR g;refine ad.qm (f:=Gu ρ) (ys:=Y) rfl rfl rfl i (λ_=>rfl) rfl (λ_=>rfl) (λ_=>rfl) (by omega) λL M fc N=>?_;refine gq iR ?_;refine ag iR λe y=>?_;refine ad.az (σ:=Int × List (List Int) × Nat) (e,L,M) [(0,3)] ⟨(k+1)+1,by grind,by omega,by grind,N⟩ ?_ cz;simp only;omega
theorem Wl (a b:List At) (d:a.length<=4) (e:b.length<=4):∀(fs:List At) (l:List Int),a.drop l.length=fs->l.length<=a.length->ah Tryz.prog w0 21 [cL ρ a,cL ρ b,aR ρ aI false l] (OQ ρ (eS b fs l))
 |[],l,c,h=>by
  rw[eS];exact ahb a b l (by have:=dD_.1 c;omega)
 |f::fs,l,c,h=>by
  have g:a[l.length]?=some f:=by
   have:(a.drop l.length)[0]?=some f:=by grind
   rwa [bY_,bs_]at this
  have j:=(ar_.1 g).1;have i:=congrArg List.length c;rw[cn_,aw_]at i;refine ahc a b l f fs g d e (by omega) λx=>Wl a b d e fs _ ?_ (by grind);have:(a.drop l.length).drop 1=fs:=by grind
  rw[da_]at this;rw[af_];exact this
end
theorem acV {k:Int}{f h:At}:Bw f (ou k h)=Bw f h:=by unfold Bw ou;simp
theorem Wm {k:Int}{f:At}{G:List Int->List (List Int)}{l:List Int}:∀(t:List At) (n:Nat),nG f G l (t.map (ou k)) n=nG f G l t n
 |[],n=>rfl
 |h::t,n=>by rw[aC_,nG,nG,acV,Wm t]
theorem RB {k:Int}{T:List At}:∀(fs:List At) (l:List Int),eS (T.map (ou k)) fs l=eS T fs l
 |[],l=>by rw[eS,eS]
 |f::fs,l=>by
  have e:eS (T.map (ou k)) fs=eS T fs:=funext λl=>RB fs l;rw[eS,eS,e,Wm]
end
section
attribute [local irreducible] ah aG ae ad
def akm:FQ 246 Tryz.f246:=aF Tryz.func246 Tryz.call246
def Zh:List Nat:=[1,0,4,22]
def akn:FQ 207 Tryz.f207:=aF Tryz.func207 Tryz.call207
def TD:List Nat:=[2,4,6,1,0,7,14]
def ako:FQ 155 Tryz.f155:=aF Tryz.func155 Tryz.call155
def vH:List Nat:=[6,0,5,4,10,1]
def aop:FQ 92 Tryz.f92:=aF Tryz.func92 Tryz.call92
def D1:List Nat:=[6,0,5,4,10,1]
def aoq:FQ 93 Tryz.f93:=aF Tryz.func93 Tryz.call93
def Cd:List Nat:=[6,0,5,4,10,1]
def aor:FQ 52 Tryz.f52:=aF Tryz.func52 Tryz.call52
def Wn:List Nat:=[2,1,4,0]
def aos:FQ 54 Tryz.f54:=aF Tryz.func54 Tryz.call54
def g54:List Nat:=[4,3,1,0]
section
variable {w0:World}{ρ:Hd}
theorem akp (k n:Int):ah Tryz.prog w0 246 [iv n,iv k] (iv (HV k n)):=by
 obtain⟨R,a⟩:∃R,R=HV k n:=⟨_,rfl⟩;rw[<-a];unfold HV at a;refine st akm Zh .v ?_
 repeat' (first
  |refine ig Zh (ae.ari rfl rfl rfl) λ_ _=>?_
  |refine cg Zh (λb=>?_) λb=>?_
  |(refine fq ?_))
 all_goals (refine dP ?_;rw[a];split<;>omega)
theorem Wo {k:Int}(a:List Tm) (y:a.length<=100000000000) (n:∀x ∈ a,ah Tryz.prog w0 207 [tm ρ x,iv k] (tm ρ (mU k x))) :
  ah Tryz.prog w0 155 [tl ρ a,iv k] (tl ρ (a.map (mU k))):=by
 obtain⟨R,e⟩:∃R,R=a.map (mU k):=⟨_,rfl⟩;rw[<-e];refine st ako vH ((cG _)) ?_
 refine ad.aK (σ:=Int × List Tm × Nat) 0 1 [] (λp=>[(0,tl ρ a),(1,iv k),(5,.gr 0 4 p.2.2),(6,.v (.int .i64 p.1))]) [] (λp=>[(0,.arr 4 (ρ.h (List.map (je ρ)) p.2.1) 0 false)])
  (λp=>∃z:Nat,p.1=z/\z<=a.length/\R=p.2.1++(a.drop z).map (mU k)/\p.2.2=p.2.1.length/\p.2.1.length=z) (λp=>a.length - p.1.toNat) (0,[],0) ⟨0,rfl,by simp,by grind,rfl,rfl⟩ rfl cz ?_
 rintro⟨i,acc,len⟩ ⟨z,g,A,b,c,q⟩;simp only at g b c q;clear e;refine gq vH ?_;by_cases r:z < a.length
 ·obtain⟨x,h,s⟩:=aD r;have j:=n x (bM h);rw[s,aC_]at b;obtain⟨X,t⟩:∃X,X=mU k x:=⟨_,rfl⟩;rw[<-t]at j b
  repeat' (first
   |refine og vH (ae.ind rfl rfl (cC (l:=a) g h) cD) ?_
   |(apply bK vH j)
   |(refine ad.app (x:=X) (f:=je ρ) rfl rfl rfl c (λ_=>rfl) rfl rfl rfl rfl (by omega) λu v B C=>?_;refine gq vH ?_)
   |refine cg vH (λd=>?_) λd=>?_
   |refine lg vH λm w=>?_
   |refine ag vH λ_ _=>?_
   |refine ad.ao ?_;refine gq vH ?_
   |(refine fq ?_))
  all_goals first
   |exfalso;omega
   |(refine ad.az (σ:=Int × List Tm × Nat) (_,u,v) [(0,1)] ?_ ?_ cz
     ·grind
     ·simp only;omega)
 ·skip
  repeat' (first
   |refine cg vH (λd=>?_) λd=>?_
   |refine lg vH λm w=>?_
   |refine ad.ao ?_;refine gq vH ?_
   |(refine fq ?_))
  all_goals first
   |exfalso;omega
   |rw[b,ak_ (by omega),bg_,aB_,<-NU];exact aP.grow rfl c
theorem akq (k:Int) (n:Nat):∀x:Tm,cR x<=n->n<=100000000000->ah Tryz.prog w0 207 [tm ρ x,iv k] (tm ρ (mU k x)):=by
 induction n with
 |zero=>intro x h;have:=iO x;omega
 |succ n g =>
  intro x j l;rw[iO]at j;have m:=my x.a;have c:=Wo (w0:=w0) (ρ:=ρ) (k:=k) x.a (by omega) λy o=>g y (by have:=iw y o;omega) (by omega);have d:=akp (w0:=w0) k x.i;obtain⟨R,b⟩:∃R,R=mU k x:=⟨_,rfl⟩;rw[<-b];obtain⟨e,i,f,a⟩:=x;rw[mU,rh]at b;simp only at c d b;clear g j l m;obtain⟨A,p⟩:∃A,A=a.map (mU k):=⟨_,rfl⟩;rw[<-p]at c b;obtain⟨B,q⟩:∃B,B=HV k i:=⟨_,rfl⟩;rw[<-q]at d b;refine st akn TD ((bQ _)) ?_
  repeat' (first
   |(apply bK TD c)
   |(apply bK TD d)
   |refine cg TD (λr=>?_) λr=>?_
   |(refine fq ?_))
  all_goals clear c d
  all_goals first
   |(have h:R=⟨e,B,f,a⟩:=by rw[b,if_pos (by omega)]
     rw[h];exact .refl _)
   |(have h:R=⟨e,i,f,A⟩:=by rw[b,if_neg (by omega),if_pos (by omega)]
     rw[h];exact .refl _)
   |(have h:R=⟨e,i,f,a⟩:=by rw[b,if_neg (by omega),if_neg (by omega)]
     rw[h];exact .refl _)
theorem OR (k:Int) (a:List Tm) (c:bp a<=100000000000):ah Tryz.prog w0 155 [tl ρ a,iv k] (tl ρ (a.map (mU k))) :=
 Wo a (by grind[my]) λy b=>akq k _ y (ac_ _) (by have:=iw y b;omega)
theorem OS {env:List Bd}(c:env.length<=1099511627776) (g:At) (e:bp g.a<=100000000000):ah Tryz.prog w0 54 [eg ρ env,at_ ρ g] (at_ ρ (te env g)):=by
 have b:=DJ (w0:=w0) (ρ:=ρ) (f:=dU env) (env:=env) g.a (by grind[q_]) λy h=>Q6 c y (by have:=iw y h;omega);rw[te];obtain⟨n,a⟩:=g;simp only at b ⊢;obtain⟨A,d⟩:∃A,A=a.map (dU env):=⟨_,rfl⟩;rw[<-d]at b ⊢;clear d e c;refine st aos g54 ((lN _)) ?_
 repeat' (first
  |(apply bK g54 b)
  |(refine fq ?_))
 exact .refl _
theorem Wq (k:Int) (a:List At) (D:a.length<=100000000000) (j:∀x ∈ a,bp x.a<=100000000000):ah Tryz.prog w0 92 [cL ρ a,iv k] (cL ρ (a.map (ou k))):=by
 obtain⟨R,h⟩:∃R,R=a.map (ou k):=⟨_,rfl⟩;rw[<-h];refine st aop D1 ((dk _)) ?_
 refine ad.aK (σ:=Int × List At × Nat) 0 1 [] (λp=>[(0,cL ρ a),(1,iv k),(5,.gr 0 2 p.2.2),(6,.v (.int .i64 p.1))]) [] (λp=>[(0,.arr 2 (ρ.h (List.map (atR ρ)) p.2.1) 0 false)])
  (λp=>∃z:Nat,p.1=z/\z<=a.length/\R=p.2.1++(a.drop z).map (ou k)/\p.2.2=p.2.1.length/\p.2.1.length=z) (λp=>a.length - p.1.toNat) (0,[],0) ⟨0,rfl,by simp,by grind,rfl,rfl⟩ rfl cz ?_
 rintro⟨i,acc,len⟩ ⟨z,c,E,b,d,o⟩;simp only at c b d o;clear h;refine gq D1 ?_;refine bS λm q=>?_;rw[au]at q;refine gq D1 ?_;refine cn (λr=>?_) λr=>?_;rotate_left
 ·rw[ak_ (by omega),bg_,aB_]at b;subst b;refine gq D1 ?_;refine ad.ao ?_;refine gq D1 ?_;refine fq ?_;exact aP.grow rfl d
 obtain⟨x,e,s⟩:=aD (l:=a) (k:=z) (by omega);have g:=OR (w0:=w0) (ρ:=ρ) k x.a (j x (bM e));rw[s,aC_,ou]at b;obtain⟨t,u⟩:=x;simp only at g b;obtain⟨X,v⟩:∃X,X=u.map (mU k):=⟨_,rfl⟩;rw[<-v]at g b;refine gq D1 ?_;refine og D1 (ae.ind rfl rfl (aB (l:=a) c e) (aA λ_=>rfl)) ?_;refine og D1 (ae.ind rfl rfl (aB (l:=a) c e) (aA λ_=>rfl)) ?_;apply bK D1 g;refine ad.dU (f:=atR ρ) (⟨t,X⟩:At) rfl rfl rfl d (λ_=>rfl) rfl rfl rfl (by omega) (λw y F A=>?_);refine gq D1 ?_;refine ag D1 λB G=>?_;refine ad.az (σ:=Int × List At × Nat) (B,w,y) [(0,1)] ⟨z+1,by grind,by omega,by grind,A,by grind⟩ ?_ (by exact⟨sq,rfl,⟨.inl ⟨_,rfl,.same (jS λx _ a C=>wQ x a C)⟩,trivial⟩,rfl,rfl,rfl⟩);simp only;omega
theorem Wr (k:Int) (a:List Gl) (D:a.length<=100000000000) (j:∀x ∈ a,bp x.a<=100000000000):ah Tryz.prog w0 93 [cE ρ a,iv k] (cE ρ (a.map (rQ k))):=by
 obtain⟨R,h⟩:∃R,R=a.map (rQ k):=⟨_,rfl⟩;rw[<-h];refine st aoq Cd ((dM _)) ?_
 refine ad.aK (σ:=Int × List Gl × Nat) 0 1 [] (λp=>[(0,cE ρ a),(1,iv k),(5,.gr 0 3 p.2.2),(6,.v (.int .i64 p.1))]) [] (λp=>[(0,.arr 3 (ρ.h (List.map (jf ρ)) p.2.1) 0 false)])
  (λp=>∃z:Nat,p.1=z/\z<=a.length/\R=p.2.1++(a.drop z).map (rQ k)/\p.2.2=p.2.1.length/\p.2.1.length=z) (λp=>a.length - p.1.toNat) (0,[],0) ⟨0,rfl,by simp,by grind,rfl,rfl⟩ rfl cz ?_
 rintro⟨i,acc,len⟩ ⟨z,c,E,b,e,o⟩;simp only at c b e o;clear h;refine gq Cd ?_;refine bS λm q=>?_;rw[au]at q;refine gq Cd ?_;refine cn (λr=>?_) λr=>?_;rotate_left
 ·rw[ak_ (by omega),bg_,aB_]at b;subst b;refine gq Cd ?_;refine ad.ao ?_;refine gq Cd ?_;refine fq ?_;exact aP.grow rfl e
 obtain⟨x,d,s⟩:=aD (l:=a) (k:=z) (by omega);have g:=OR (w0:=w0) (ρ:=ρ) k x.a (j x (bM d));rw[s,aC_,rQ]at b;obtain⟨t,u,v⟩:=x;simp only at g b;obtain⟨X,w⟩:∃X,X=v.map (mU k):=⟨_,rfl⟩;rw[<-w]at g b;refine gq Cd ?_;refine og Cd (ae.ind rfl rfl (aB (l:=a) c d) (aA λ_=>rfl)) ?_;refine og Cd (ae.ind rfl rfl (aB (l:=a) c d) (aA λ_=>rfl)) ?_;refine og Cd (ae.ind rfl rfl (aB (l:=a) c d) (aA λ_=>rfl)) ?_;apply bK Cd g;refine ad.dU (f:=jf ρ) (⟨t,u,X⟩:Gl) rfl rfl rfl e (λ_=>rfl) rfl rfl rfl (by omega) (λy A F B=>?_);refine gq Cd ?_;refine ag Cd λC G=>?_;refine ad.az (σ:=Int × List Gl × Nat) (C,y,A) [(0,1)] ⟨z+1,by grind,by omega,by grind,B,by grind⟩ ?_ cz;simp only;omega
theorem Px (k:Int) (r:Rl) (h1:r.aM.length<=100000000000) (h2:r.rem.length<=100000000000) (h3:r.guard.length<=100000000000) (h4:r.body.length<=100000000000) (i:∀x ∈ r.aM,bp x.a<=100000000000) (j:∀x ∈ r.rem,bp x.a<=100000000000) (l:∀x ∈ r.guard,bp x.a<=100000000000) (m:∀x ∈ r.body,bp x.a<=100000000000) :
  ah Tryz.prog w0 52 [rl ρ r,iv k] (rl ρ (nW k r)):=by
 have a:=Wq (w0:=w0) (ρ:=ρ) k r.aM h1 i;have c:=Wq (w0:=w0) (ρ:=ρ) k r.rem h2 j;have k3:=Wr (w0:=w0) (ρ:=ρ) k r.guard h3 l;have k4:=Wr (w0:=w0) (ρ:=ρ) k r.body h4 m;unfold nW;obtain⟨n,o,p,g,b,v⟩:=r;simp only at a c k3 k4 ⊢;obtain⟨q,d⟩:∃x,x=o.map (ou k):=⟨_,rfl⟩;obtain⟨s,e⟩:∃x,x=p.map (ou k):=⟨_,rfl⟩;obtain⟨t,f⟩:∃x,x=g.map (rQ k):=⟨_,rfl⟩;obtain⟨u,h⟩:∃x,x=b.map (rQ k):=⟨_,rfl⟩;rw[<-d]at a ⊢;rw[<-e]at c ⊢;rw[<-f]at k3 ⊢;rw[<-h]at k4 ⊢;clear d e f h;refine st aor Wn ((fQ _)) ?_;apply bK Wn a;apply bK Wn c;apply bK Wn k3;apply bK Wn k4;refine fq ?_;exact .refl _
end
end
def rI (x:Im):Bool:=fH ⟨x.n,x.a⟩
theorem OT {a:At}(h:s.2=s.1.all rI):(nz u s a).2=(nz u s a).1.all rI:=by rw[nz];simp[h,rI,te]
theorem OU {u:List Bd}:∀(F:List At) (s:List Im × Bool),s.2=s.1.all rI->(jX u F s).2=(jX u F s).1.all rI
 |[],s,h=>h
 |f::F,s,h=>by rw[jX];exact OU F _ (OT h)
theorem Gw {u:List Bd}{l:List Int}:∀(T:List At) (m:Nat) (s:List Im × Bool) (H:List Int),s.2=s.1.all rI->(jE u l T m s H).1.2=(jE u l T m s H).1.1.all rI
 |[],m,s,H,h=>h
 |b::T,m,s,H,h=>by
  rw[jE];split
  ·exact Gw T _ _ _ h
  ·exact Gw T _ _ _ (OT h)
def wv (k:Int):List Int->Int->Int->Int
 |[],_,r=>r
 |x::l,n,r=>wv k l (n+1) (if x=k then n else r)
theorem OV {k:Int}:∀{l:List Int}{n r:Int},k ∉ l->wv k l n r=r
 |[],n,r,_=>rfl
 |x::l,n,r,h=>by
  rw[ad_,not_or]at h;rw[wv,if_neg (λe=>h.1 e.symm),OV h.2]
theorem KC {k:Int}(a:k ≠ -1):∀{l:List Int}{n:Nat},(l.filter λm=>m != -1).Nodup->wv k l n (-1)=ew (λx=>k == x) l n
 |[],n,_=>rfl
 |x::l,n,h=>by
  rw[List.filter_cons]at h;rw[wv,ew];by_cases e:x=k
  ·subst e;rw[if_pos (by grind),bu_]at h;rw[if_pos rfl,if_pos (by simp),OV];exactλb=>h.1 (bB_.2 ⟨b,by grind⟩)
  ·have h:(l.filter λm=>m != -1).Nodup:=by grind
   rw[if_neg e,if_neg (by grind)];exact KC a (n:=n+1) h
noncomputable def tR:List Gl->List Gl->Option (List Gl)
 |[],a=>some a
 |g::G,a=>if kJ g=2 then none else if kJ g=0 then tR G (a++[g]) else tR G a
theorem Ez {u:List Bd}:∀{G kn:List Gl}{p:Bool},(G.all λg=>dE (im u g))=false->lE u G kn p=([],false,6)
 |[],kn,p,h=>by grind
 |g::G,kn,p,h=>by
  rw[aY_]at h;rw[lE];split
  ·rename_i a;rw[a,aL_]at h;split
   ·exact Ez h
   ·split
    ·exact Ez h
    ·exact Ez h
  ·rfl
theorem BJ {u:List Bd}:∀{G kn:List Gl}{p:Bool},(G.all λg=>dE (im u g))=true->(lE u G kn p).2.2=0/\(tR (G.map (im u)) kn=none->(lE u G kn p).2.1=false)/\((lE u G kn p).2.1=true->p=true)/\∀k,tR (G.map (im u)) kn=some k->lE u G kn p=(k,p,0)
 |[],kn,p,h=>⟨rfl,λh=>(by cases h),λh=>h,λk h=>by obtain rfl:=oJ_ h;rfl⟩
 |g::G,kn,p,h=>by
  rw[aY_,al_]at h;rw[lE,if_pos h.1,aC_,tR];split
  ·obtain⟨a,d,e,f⟩:=BJ (kn:=kn) (p:=false) h.2;have b:(lE u G kn false).2.1=false:=by grind
   exact⟨a,λ_=>b,λc=>(by grind),λk c=>(by grind)⟩
  ·split
   ·exact BJ h.2
   ·exact BJ h.2
section
attribute [local irreducible] ah aG ae ad
def aot:FQ 24 Tryz.f24:=aF Tryz.func24 Tryz.call24
def bJ:List Nat:=[20,26,8,17,3,21,27,22,24,28,4,1,11,12,13,14,19,18,23,25,2,15,16,231,9,10,0,53,60,85,88,97,127,133,141,144,178,189,202,219,224,232,235]
def RC (x:Im):Prop:=qf 40000 ⟨x.n,x.a⟩
theorem KD {a:At}(d:nX 200 u) (e:qW u) (c:qf 200 a) (h:∀x ∈ s.1,RC x):∀x ∈ (nz u s a).1,RC x:=λx b=>by
 rw[nz]at b;rcases az_.1 b with b|b
 ·exact h x b
 ·obtain rfl:=ae_.1 b;exact⟨by rw[<-mG];exact Ap e _ c.1,by rw[<-mG];exact ay_ (yS d (by decide) _) (aO_ 200 c.2.1),c.2.2⟩
theorem D2 {u:List Bd}(b:nX 200 u) (c:qW u):∀(F:List At) (s:List Im × Bool),(∀a ∈ F,qf 200 a)->(∀x ∈ s.1,RC x)->∀x ∈ (jX u F s).1,RC x
 |[],s,_,h=>h
 |f::F,s,d,h=>by rw[jX];exact D2 b c F _ (λa e=>d a (by simp[e])) (KD b c (d f (by simp)) h)
theorem y5 {u:List Bd}{l:List Int}(c:nX 200 u) (d:qW u):∀(T:List At) (m:Nat) (s:List Im × Bool) (H:List Int),(∀a ∈ T,qf 200 a)->(∀x ∈ s.1,RC x)->∀x ∈ (jE u l T m s H).1.1,RC x
 |[],m,s,H,_,h=>h
 |b::T,m,s,H,e,h=>by
  rw[jE];split
  ·exact y5 c d T _ _ _ (λa f=>e a (by simp[f])) h
  ·exact y5 c d T _ _ _ (λa f=>e a (by simp[f])) (KD c d (e b (by simp)) h)
def pB (ρ:Hd) (ds:List Dc) (a:List Rl) (b:ByteArray) (c d:List At) (ag e:List Gl) (f:Int) (cn:ByteArray) (g h:List At) (cg i:List Gl) (cv:Int) (l:List (Nat × Ob)):List (Nat × Ob):=(0,.arr 2 [[ft ρ ds,LM ρ a]] 0 true)::(1,.arr 12 [[iv 0,iv 0,.sl true [],.sl true [],.sl true [],.sl true [],.sl true [],iv 0,iv 0,.v (.bool false),.sl true [],.sl true []]] 0 true)::(2,.arr 6 [[.v (.string b),cL ρ c,cL ρ d,cE ρ ag,cE ρ e,iv f]] 0 true)::(3,.arr 6 [[.v (.string cn),cL ρ g,cL ρ h,cE ρ cg,cE ρ i,iv cv]] 0 true)::l
def pS (ρ:Hd) (i j:Int) (l:List Int) (f t:List At) (s:List (Nat × AV)):List (Nat × AV):=(1,iv i)::(2,iv j)::(3,aR ρ aI false l)::(4,.pt 0 2 0 0)::(8,.pt 1 12 0 0)::(11,.pt 2 6 0 0)::(12,.pt 3 6 0 0)::(13,cL ρ f)::(14,cL ρ t)::s
section
variable {w0:World}{ρ:Hd}
set_option maxHeartbeats 4000000 in
theorem ahe (p:Pg) (i j:Nat) (E H:Int) (hi:E=i) (hj:H=j) (a b:Rl) (rJ:p.rs[i]?=some a) (tJ:p.rs[j]?=some b) (hA:Ru a) (th:Ru b) (l:List Int)
  (hn:l.length=(a.aM++a.rem).length) (ho:yT ((nW a.vars b).aM++(nW a.vars b).rem) l) :
  ah Tryz.prog w0 24 [pg ρ p,iv E,iv H,aR ρ aI false l] (Kx ρ (nY (fE E H a b) l)):=by
 have hB:=th.sh a.vars;have MW:=th.hn;rw[af_]at MW
 have hS:=Px (w0:=w0) (ρ:=ρ) a.vars b (by omega) (by omega) (by have:=th.gn;omega) (by have:=th.bn;omega)
  (λx B=>by have:=(th.ha x (by simp[B])).2.1;omega) (λx B=>by have:=(th.ha x (by simp[B])).2.1;omega) (λx B=>by have:=(th.ga x B).2.1;omega) (λx B=>by have:=th.ba x B;omega)
 unfold fE;clear th MW;obtain⟨b',zH⟩:∃b',b'=nW a.vars b:=⟨_,rfl⟩;rw[<-zH]at hS hB ho ⊢;clear zH;have dC:=hA.hn;have cZ:=hB.hn;have Ky:=yE (w0:=w0) (ρ:=ρ) a (by rw[af_]at dC;omega);have Kz:=yE (w0:=w0) (ρ:=ρ) b' (by rw[af_]at cZ;omega);have E6:(a.guard++b'.guard).length<=1000:=by have:=hA.gn;have:=hB.gn;rw[af_];omega
 have hg:∀g ∈ a.guard++b'.guard,mJ 200 g:=λg hg=>(az_.1 hg).elim (hA.ga g) (hB.ga g);have lr:=hA.v;have uY:=hB.v;have sH:=hA.ha;have rL:=hB.ha;clear hA hB;obtain⟨f,BQ⟩:∃F,F=a.aM++a.rem:=⟨_,rfl⟩;obtain⟨t,ht0⟩:∃T,T=b'.aM++b'.rem:=⟨_,rfl⟩;rw[<-BQ]at Ky dC hn sH ⊢;rw[<-ht0]at Kz cZ rL ho ⊢;clear BQ ht0;have hf:f.length<=1000:=by omega
 have ht:t.length<=1000:=by omega
 have oo:∀x ∈ j9 f l,x.ok/\cY x<=1099511627776:=λx B=>by
  obtain⟨y,h1,h2⟩:=Ar B;exact⟨(sH y h1).1.mem x h2,by have:=(sH y h1).2.1;have:=iw x h2;have:=u5 x;omega⟩
 have jN:∀x ∈ l6 t l,x.ok/\cY x<=1099511627776:=λx B=>by
  obtain⟨y,h1,h2⟩:=As B;exact⟨(rL y h1).1.mem x h2,by have:=(rL y h1).2.1;have:=iw x h2;have:=u5 x;omega⟩
 have Av:=Gr (l:=j9 f l) (r:=l6 t l) (λx B=>(oo x B).1) (λx B=>(jN x B).1);have hU:(j9 f l).length<=100000000->(l6 t l).length<=100000000->_:=λh1 h2=>VM (w0:=w0) (ρ:=ρ) h1 h2 oo jN;have jx:(gL (j9 f l) (l6 t l)).1.length<=1099511627776:=by
  have:=Jh (l:=l) sH;have:=Av.2.2;omega
 clear oo jN;obtain⟨R,D⟩:∃R,R=nY ⟨E,H,a,b',f,t⟩ l:=⟨_,rfl⟩;rw[<-D];unfold nY at D;simp only at D;obtain⟨⟨u,e⟩,VK⟩:∃z,z=gL (j9 f l) (l6 t l):=⟨_,rfl⟩;rw[<-VK]at hU D jx Av;clear VK;obtain⟨Fj,xR,-⟩:=Av;simp only at D jx Fj xR;unfold xM at hU;simp only at hU;obtain⟨A,hA⟩:∃A,A=j9 f l:=⟨_,rfl⟩;obtain⟨C,hC⟩:∃C,C=l6 t l:=⟨_,rfl⟩;rw[<-hA,<-hC]at hU;have Hx:=o5 (ρ:=ρ) p;have Zd:=fQ (ρ:=ρ) b;have yG:=fQ (ρ:=ρ) a;have ag1:=fQ (ρ:=ρ) b';have RD:=aB (ρ:=ρ) (f:=iE ρ) (l:=p.rs) hi rJ;have OW:=aB (ρ:=ρ) (f:=iE ρ) (l:=p.rs) hj tJ;obtain⟨ds,rs⟩:=p;have ka:=tM (ρ:=ρ) a;have kb:=tM (ρ:=ρ) b';obtain⟨an,ak,ar,ag,ab,av⟩:=a;obtain⟨bn,bk,br,bg,bb,bv⟩:=b;obtain⟨cn,ck,cr,cg,cb,cv⟩:=b';simp only at D lr uY E6 hg RD OW rJ tJ;unfold od at Hx;unfold iE at ka kb;simp only at ka kb;refine st aot bJ ((OO _)) ?_;refine ad.cP rfl (λT=>ae.ind rfl rfl RD (aA λ_=>rfl)) ?_;refine gq bJ ?_;refine ad.cP rfl (λT=>ae.ind rfl rfl OW (aA λ_=>rfl)) ?_;refine gq bJ ?_;refine ad.cP rfl (λT=>ae.ind rfl rfl RD (aA λ_=>rfl)) ?_;refine gq bJ ?_;refine ad.cP rfl (λT=>ae.ez rfl hS ⟨Zd,.v,trivial⟩) ?_;refine gq bJ ?_;refine ad.op rfl (ae.ez rfl Ky ⟨yG,trivial⟩) ?_;refine gq bJ ?_;refine ad.op rfl (ae.ez rfl Kz ⟨ag1,trivial⟩) ?_;refine gq bJ ?_
 refine ad.aK (σ:=Int × (List Tm × Nat) × List Tm × Nat) 4 6 [] (λs=>(pS ρ E H l f t [(15,.gr 4 4 s.2.1.2),(16,.gr 5 4 s.2.2.2),(17,iv s.1)])) []
  (λs=>(pB ρ ds rs an ak ar ag ab av cn ck cr cg cb cv [(4,M1 ρ s.2.1.1),(5,M1 ρ s.2.2.1)]))
  (λp=>∃z:Nat,p.1=z/\z<=l.length/\A=p.2.1.1++j9 (f.drop z) (l.drop z)/\C=p.2.2.1++l6 t (l.drop z)/\p.2.1.2=p.2.1.1.length/\p.2.2.2=p.2.2.1.length/\p.2.1.1.length<=200*z/\p.2.2.1.length<=200*z) (λp=>l.length - p.1.toNat) (0,([],0),[],0) ⟨0,rfl,by omega,by simpa using hA,by simpa using hC,rfl,rfl,by simp,by simp⟩ rfl
  cz ?_
 rintro⟨i2,⟨a1,n1⟩,a2,n2⟩ ⟨z,hz,tD,qe,cV,ur,uu,dR,oN⟩;simp only at hz qe cV ur uu dR oN;clear hA hC;refine gq bJ ?_;refine bS λm hm=>?_;rw[au]at hm;refine gq bJ ?_;refine bq (λaZ=>?_) (λaZ=>?_)<;>(try simp only[bL]at aZ)
 rotate_left
 ·rw[aA_ (l:=l) (by omega),l6,aB_]at cV;have e0:j9 (f.drop z) []=[]:=by cases f.drop z<;>rfl
  rw[aA_ (l:=l) (by omega),e0,aB_]at qe;subst qe;subst cV;have hU:=hU (by omega) (by omega);clear e0;refine gq bJ ?_;refine ad.ao ?_;refine gq bJ ?_;refine ad.uC (Cv.freeze (t:=79) rfl rfl (.inl rfl) (ur.trans (au (ρ:=ρ) (f:=iN)).symm) (ax_ _)) ?_;refine ad.uC (Cv.freeze (t:=80) rfl rfl (.inl rfl) (uu.trans (au (ρ:=ρ) (f:=iN)).symm) (ax_ _)) ?_;refine ad.op rfl (ae.ez rfl hU ⟨cG _,cG _,trivial⟩) ?_;refine gq bJ ?_;refine bq (λP=>?_) (λP=>?_)<;>(try simp only[bL]at P)
  ·rw[if_neg (by omega),if_pos P]at D;refine gq bJ ?_;refine fq ?_;rw[D];exact qB
  rw[if_neg P]at D;refine gq bJ ?_;refine bq (λdQ=>?_) (λdQ=>?_)<;>(try simp only[bL]at dQ)
  ·rw[if_neg dQ]at D;refine gq bJ ?_;refine fq ?_;rw[D];exact qB
  rw[if_pos dQ]at D;clear hU dR oN ur uu aZ P;unfold Tb at D;simp only at D;obtain⟨s1,dR⟩:∃s,s=jX u f ([],true):=⟨_,rfl⟩;have aou:s1.1.length=f.length:=by rw[dR,Bx];simp
  have Zi:=D2 xR Fj f ([],true) sH (λx B=>by cases B);have Zj:=OU (u:=u) f ([],true) rfl;rw[<-dR]at D Zi Zj;refine gq bJ ?_
  refine ad.aK (σ:=Int × ((List Im × Bool) × Nat) × List Int × Nat) 7 9 [] (λp=>(pS ρ E H l f t [(18,eg ρ u),(20,.pt 6 12 0 0),(21,iv p.1)])) []
   (λp=>(pB ρ ds rs an ak ar ag ab av cn ck cr cg cb cv [(6,.arr 12 [[iv E,iv H,.sl true [],.gr 7 3 p.2.1.2,.sl true [],.sl true [],.sl true [],iv 0,iv 0,.v (.bool false),.gr 8 1 p.2.2.2,.sl true []]] 0 true),(7,.arr 3 (ρ.h (List.map (qt ρ)) p.2.1.1.1) 0 false),(8,.arr 1 (ρ.h (List.map aI) p.2.2.1) 0 false)]))
   (λp=>∃z:Nat,p.1=z/\z<=f.length/\s1=jX u (f.drop z) p.2.1.1/\p.2.1.1.1.length=z/\p.2.1.2=z/\p.2.2.1=upto z/\p.2.2.2=z) (λp=>f.length - p.1.toNat) (0,(([],true),0),[],0) ⟨0,rfl,by omega,by simpa using dR,rfl,rfl,rfl,rfl⟩ rfl
   cz ?_
  rintro⟨i2,⟨s2,n2⟩,g2,k2⟩ ⟨z2,Cy,arO,hp,iD,ee,nE,fe⟩;simp only at Cy hp iD ee nE fe;clear dR;refine gq bJ ?_;refine bS λm2 eI=>?_;rw[au]at eI;refine gq bJ ?_;refine bq (λkL=>?_) (λkL=>?_)<;>(try simp only[bL]at kL)
  rotate_left
  ·rw[aA_ (by omega),jX]at hp;obtain rfl:z2=f.length:=by omega
   subst hp;clear kL eI;refine gq bJ ?_;refine ad.ao ?_;refine gq bJ ?_;obtain⟨RT,Oy⟩:∃s,s=jE u l t 0 s1 []:=⟨_,rfl⟩;have RE:=y5 (l:=l) xR Fj t 0 s1 [] rL Zi;have Ws:=Gw (u:=u) (l:=l) t 0 s1 [] Zj;rw[<-Oy]at D RE Ws;clear Zi Zj
   refine ad.aK (σ:=Int × ((List Im × Bool) × Nat) × List Int × Nat) 9 11 [(9,7)] (λp=>(pS ρ E H l f t [(18,eg ρ u),(20,.pt 6 12 0 0),(22,iv p.1)])) []
    (λp=>(pB ρ ds rs an ak ar ag ab av cn ck cr cg cb cv [(6,.arr 12 [[iv E,iv H,.sl true [],.gr 9 3 p.2.1.2,.sl true [],.sl true [],.sl true [],iv 0,iv 0,.v (.bool false),.gr 8 1 k2,.gr 10 1 p.2.2.2]] 0 true),(8,.arr 1 (ρ.h (List.map aI) g2) 0 false),(9,.arr 3 (ρ.h (List.map (qt ρ)) p.2.1.1.1) 0 false),(10,.arr 1 (ρ.h (List.map aI) p.2.2.1) 0 false)]))
    (λp=>∃z:Nat,p.1=z/\z<=t.length/\RT=jE u l (t.drop z) z p.2.1.1 p.2.2.1/\p.2.1.1.1.length=p.2.1.2/\p.2.1.2<=1000+z/\p.2.2.1.length=z/\p.2.2.2=z) (λp=>t.length - p.1.toNat) (0,(s1,n2),[],0) ⟨0,rfl,by omega,Oy,by simp only;omega,by simp only;omega,rfl,rfl⟩ rfl
    cz ?_
   rintro⟨i4,⟨K,n4⟩,h4,k4⟩ ⟨y,hy,Qj,Q,H7,hn5,KE,xA⟩;simp only at hy Q H7 hn5 KE xA;clear Oy;refine gq bJ ?_;refine bS λm3 uP=>?_;rw[au]at uP;refine gq bJ ?_;refine bq (λmg=>?_) (λmg=>?_)<;>(try simp only[bL]at mg)
   rotate_left
   ·rw[aA_ (by omega),jE]at Q;subst Q;obtain rfl:y=t.length:=by omega
    simp only at D RE Ws;clear rL Qj mg uP aou;refine gq bJ ?_;refine ad.ao ?_;refine gq bJ ?_;obtain⟨ok,jZ⟩:∃o,o=K.2:=⟨_,rfl⟩;rw[<-jZ]at D Ws;clear jZ
    refine ad.aK (σ:=Int) 11 11 [] (λq=>(pS ρ E H l f t [(18,eg ρ u),(20,.pt 6 12 0 0),(25,iv q)])) [] (λ_=>(pB ρ ds rs an ak ar ag ab av cn ck cr cg cb cv [(6,.arr 12 [[iv E,iv H,.sl true [],.gr 9 3 n4,.sl true [],.sl true [],.sl true [],iv 0,iv 0,.v (.bool false),.gr 8 1 k2,.gr 10 1 k4]] 0 true),(8,.arr 1 (ρ.h (List.map aI) g2) 0 false),(9,.arr 3 (ρ.h (List.map (qt ρ)) K.1) 0 false),(10,.arr 1 (ρ.h (List.map aI) h4) 0 false)]))
     (λq=>∃z:Nat,q=z/\z<=K.1.length/\ok=(K.1.drop z).all rI) (λq=>K.1.length - q.toNat) 0 ⟨0,rfl,by omega,by simpa using Ws⟩ rfl
     cz ?_
    clear Ws;rintro q5 ⟨z5,hz5,arP,Ib⟩;refine gq bJ ?_;refine ad.int rfl (ae.iz rfl) λm5 hm5=>?_;refine gq bJ ?_;refine bq (λxN=>?_) (λxN=>?_)<;>(try simp only[bL]at xN)
    rotate_left
    ·rw[aA_ (by omega),dk_]at Ib;rw[if_pos Ib]at D;clear RE Ib;refine gq bJ ?_;refine ad.ao ?_;refine gq bJ ?_;refine ad.qF (f:=jf ρ) (ys:=ag) rfl rfl rfl (λ_=>rfl) (by rw[af_]at E6;omega) (λa5 r5 NY hr5=>?_);refine gq bJ ?_;refine ad.qm (f:=jf ρ) (ys:=cg) rfl rfl rfl hr5 (λ_=>rfl) rfl (λ_=>rfl) (λ_=>rfl) (by rw[hr5,NY];rw[af_]at E6;omega) (λS r6 ha6 hr6=>?_);rw[NY]at ha6;rw[<-ha6]at D E6 hg;clear NY hr5 ha6;refine gq bJ ?_;obtain⟨AL,hAL⟩:∃b,b=S.all λg=>dE (im u g):=⟨_,rfl⟩
     refine ad.aK (σ:=Int × List Gl) 13 14 [(13,12)] (λq=>(pS ρ E H l f t [(18,eg ρ u),(20,.pt 6 12 0 0),(26,.gr 13 3 r6),(27,iv q.1)])) [] (λq=>(pB ρ ds rs an ak ar ag ab av cn ck cr cg cb cv [(6,.arr 12 [[iv E,iv H,.sl true [],.gr 9 3 n4,.sl true [],.sl true [],.sl true [],iv 0,iv 0,.v (.bool false),.gr 8 1 k2,.gr 10 1 k4]] 0 true),(8,.arr 1 (ρ.h (List.map aI) g2) 0 false),(9,.arr 3 (ρ.h (List.map (qt ρ)) K.1) 0 false),(10,.arr 1 (ρ.h (List.map aI) h4) 0 false),(13,.arr 3 (ρ.h (List.map (jf ρ)) q.2) 0 false)]))
      (λq=>∃z:Nat,q.1=z/\z<=S.length/\q.2.length=S.length/\q.2=(S.take z).map (im u)++S.drop z/\AL=(S.drop z).all λg=>dE (im u g)) (λq=>S.length - q.1.toNat) (0,S) ⟨0,rfl,by omega,rfl,by simp,by simpa using hAL⟩ rfl
      cz ?_
     rintro⟨q6,J⟩ ⟨z6,hz6,arQ,eZ,yJ,aT⟩;simp only at hz6 eZ yJ aT;refine gq bJ ?_;refine ad.int rfl (ae.iz rfl) λm6 hm6=>?_;refine gq bJ ?_;refine bq (λyQ=>?_) (λyQ=>?_)<;>(try simp only[bL]at yQ)
     rotate_left
     ·rw[aA_ (by omega),dk_]at aT;rw[aA_ (by omega),aB_,aQ_ (by omega)]at yJ;obtain⟨g1,g2',g3,g4⟩:=BJ (u:=u) (G:=S) (kn:=[]) (p:=true) (hAL.symm.trans aT);have hD:∀g ∈ J,mJ 100000000000 g:=λg h=>by
       rw[yJ]at h;obtain⟨y,hy,rfl⟩:=av_.1 h;exact ((hg y hy).app xR Fj (by decide)).mono (by decide)
      rw[<-yJ]at g2' g4;clear yJ aT hAL hg;refine gq bJ ?_;refine ad.ao ?_;refine gq bJ ?_;obtain⟨V,hV⟩:∃v,v=tR J []:=⟨_,rfl⟩;rw[<-hV]at g2' g4
      refine ad.aK (σ:=Int × List Gl × Nat) 14 15 [] (λq=>(pS ρ E H l f t [(18,eg ρ u),(20,.pt 6 12 0 0),(26,.gr 13 3 r6),(28,iv q.1)])) [] (λq=>(pB ρ ds rs an ak ar ag ab av cn ck cr cg cb cv [(6,.arr 12 [[iv E,iv H,.sl true [],.gr 9 3 n4,.sl true [],.sl true [],.gr 14 3 q.2.2,iv 0,iv 0,.v (.bool false),.gr 8 1 k2,.gr 10 1 k4]] 0 true),(8,.arr 1 (ρ.h (List.map aI) g2) 0 false),(9,.arr 3 (ρ.h (List.map (qt ρ)) K.1) 0 false),(10,.arr 1 (ρ.h (List.map aI) h4) 0 false),(13,.arr 3 (ρ.h (List.map (jf ρ)) J) 0 false),(14,.arr 3 (ρ.h (List.map (jf ρ)) q.2.1) 0 false)]))
       (λq=>∃z:Nat,q.1=z/\z<=J.length/\V=tR (J.drop z) q.2.1/\q.2.2=q.2.1.length/\q.2.1.length<=z) (λq=>J.length - q.1.toNat) (0,[],0) ⟨0,rfl,by omega,by simpa using hV,rfl,by simp⟩ rfl
       cz ?_
      clear hV;rintro⟨q7,kn,kl⟩ ⟨z7,hz7,arR,U,gR,hkz⟩;simp only at hz7 U gR hkz;refine gq bJ ?_;refine ad.int rfl (ae.iz rfl) λm7 hm7=>?_;refine gq bJ ?_;refine bq (λRh=>?_) (λRh=>?_)<;>(try simp only[bL]at Rh)
      rotate_left
      ·rw[aA_ (by omega),tR]at U;rw[g4 kn U]at D;simp only at D;rw[if_neg (by decide)]at D;refine gq bJ ?_;refine ad.ao ?_;refine gq bJ ?_;refine ad.int rfl (ae.iz rfl) λm8 hm8=>?_;refine gq bJ ?_;refine cw (λd8 hd8=>?_);refine gq bJ ?_;refine cw (λd9 hd9=>?_);refine gq bJ ?_;refine fq ?_;rw[D];unfold Kx oV;simp only;rw[show ((K.1.length:Nat):Int)+1=d8 by omega,show av+cv=d9 by omega];refine .aL rfl (iq.at ⟨.agg rfl (iq.at ⟨.refl _,.refl _,kN,aP.grow rfl H7.symm,kN,kN,aP.grow rfl gR,.refl _,.refl _,.refl _,?_,aP.grow rfl (xA.trans KE.symm),trivial⟩),.refl _,.refl _,trivial⟩);rw[<-nE];exact aP.grow rfl (by rw[fe,nE,pC])
      obtain⟨x,B,N⟩:=aD (l:=J) (k:=z7) (by omega);have hte:=acN (w0:=w0) (ρ:=ρ) x (hD x (aa_ B));rw[N,tR]at U;obtain⟨c,hc⟩:∃c,c=kJ x:=⟨_,rfl⟩;rw[<-hc]at hte U;clear hc;obtain⟨xo,L,O⟩:=x;have Z:=bW (ρ:=ρ) (f:=jf ρ) B;rw[jf]at Z;simp only at Z;have ahj:z7 < r6:=by omega
      refine gq bJ ?_;refine ad.op rfl (ae.dg rfl rfl hz7 ahj) ?_;refine ad.op rfl (ae.fk rfl rfl Z rfl) ?_;refine gq bJ ?_;refine ad.op rfl (ae.ez rfl hte ⟨lO (ρ:=ρ) ⟨xo,L,O⟩,trivial⟩) ?_;refine gq bJ ?_;refine bq (λCa=>?_) (λCa=>?_)<;>(try simp only[bL]at Ca)
      ·rw[if_pos Ca]at U;have g5:=g2' U;obtain⟨⟨gk,gp,ge⟩,hG⟩:∃z,z=lE u S [] true:=⟨_,rfl⟩;rw[<-hG]at g1 g5 D;simp only at g1 g5 D;rw[if_pos (.inr g5),g1]at D;refine gq bJ ?_;refine ad.bh ?_;refine gq bJ ?_;refine fq ?_;rw[D];exact qB
      rw[if_neg Ca]at U;refine gq bJ ?_;refine bq (λTE=>?_) (λTE=>?_)<;>(try simp only[bL]at TE)
      rotate_left
      ·rw[if_neg TE]at U;refine gq bJ ?_;refine cw (λM OX=>?_);refine gq bJ ?_
       refine ad.az (σ:=Int × List Gl × Nat) (M,kn,kl) [] ⟨z7+1,by simp only;omega,by omega,U,gR,by simp only;omega⟩ ?_
        cz
       simp only;omega
      rw[if_pos TE]at U;refine gq bJ ?_;refine ad.op rfl (ae.dg rfl rfl hz7 ahj) ?_;refine ad.op rfl (ae.fk rfl rfl Z rfl) ?_;refine gq bJ ?_;refine ad.dU (f:=jf ρ) (⟨xo,L,O⟩:Gl) rfl rfl rfl gR (λ_=>rfl) rfl rfl rfl (by omega) (λHk kl2 I_ afr=>?_);refine gq bJ ?_;refine cw (λM OX=>?_);refine gq bJ ?_
      refine ad.az (σ:=Int × List Gl × Nat) (M,Hk,kl2) [(14,15)] ⟨z7+1,by simp only;omega,by omega,by simp only;rw[I_];exact U,afr,by simp only[I_,af_,bi_];omega⟩ ?_
       cz
      simp only;omega
     obtain⟨x,B,N⟩:=aD (l:=S) (k:=z6) (by omega);have kH:J[z6]?=some x:=by
      have hl:((S.take z6).map (im u)).length=z6:=by rw[aU_,aZ_];omega
      rw[yJ,be_ (by omega),hl,bk_,N];rfl
     have rS:=hg x (aa_ B);have OM:=rS.app xR Fj (by decide);have ly:=Yv (w0:=w0) (ρ:=ρ) jx x (by have:=rS.2.1;omega);have DY:=AS (w0:=w0) (ρ:=ρ) (im u x) (OM.nC (by decide)) OM.2.2;rw[N,aY_]at aT;obtain⟨Y,hY⟩:∃y,y=im u x:=⟨_,rfl⟩;rw[<-hY]at ly DY aT;obtain⟨c,hc⟩:∃c,c=dE Y:=⟨_,rfl⟩;rw[<-hc]at DY aT;clear hc OM rS;obtain⟨xo,L,O⟩:=x;have Z:=bW (ρ:=ρ) (f:=jf ρ) kH;rw[jf]at Z;simp only at Z;have Zk:z6 < r6:=by omega
     obtain⟨yo,yn,ya⟩:=Y;refine gq bJ ?_;refine ad.op rfl (ae.dg rfl rfl hz6 Zk) ?_;refine ad.op rfl (ae.fk rfl rfl Z rfl) ?_;refine gq bJ ?_;refine ad.op rfl (ae.ez rfl ly ⟨fA _,lO (ρ:=ρ) ⟨xo,L,O⟩,trivial⟩) ?_;refine gq bJ ?_;refine ad.op rfl (ae.dg rfl rfl hz6 Zk) ?_;refine ad.YG (f:=jf ρ) (y:=⟨yo,yn,ya⟩) rfl rfl rfl kH rfl rfl rfl (by exact ac_ _) (λzq pX=>?_);have hcy:zq[z6]?=some ⟨yo,yn,ya⟩:=by
      rw[pX,cQ_];exact (ar_.1 kH).1
     have ry:=bW (ρ:=ρ) (f:=jf ρ) hcy;rw[jf]at ry;simp only at ry;refine gq bJ ?_;refine ad.op rfl (ae.dg rfl rfl hz6 Zk) ?_;refine ad.op rfl (ae.fk rfl rfl ry rfl) ?_;refine gq bJ ?_;refine ad.op rfl (ae.ez rfl DY ⟨lO (ρ:=ρ) ⟨yo,yn,ya⟩,trivial⟩) ?_;cases c with
     |false =>
      rw[bv_]at aT;rw[Ez (hAL.symm.trans aT)]at D;simp only at D;rw[if_pos (.inl (by decide))]at D;refine gq bJ ?_;refine ad.bh ?_;refine gq bJ ?_;refine fq ?_;rw[D];exact qB
     |true =>
      rw[aL_]at aT;refine gq bJ ?_;refine cw (λM OX=>?_);refine gq bJ ?_
      refine ad.az (σ:=Int × List Gl) (M,zq) [] ⟨z6+1,by simp only;omega,by omega,by simp only;rw[pX,aV_];exact eZ,?_,aT⟩ ?_
       cz
      ·simp only;have hl:((S.take z6).map (im u)).length=z6:=by rw[aU_,aZ_];omega
       rw[pX,hY,yJ,bC_ _ _ (by omega),hl,bk_,N,bW_,bF_,B,aM_];simp
      ·simp only;omega
    obtain⟨x,B,N⟩:=aD (l:=K.1) (k:=z5) (by omega);have hxg:=RE x (aa_ B);have G9:=FA (w0:=w0) (ρ:=ρ) ⟨x.n,x.a⟩ ⟨hxg.1,by have:=td x.a;have:=hxg.2.1;simp only at this ⊢;omega⟩ hxg.2.2;rw[N,aY_,rI]at Ib;obtain⟨c,hc⟩:∃c,c=fH ⟨x.n,x.a⟩:=⟨_,rfl⟩;rw[<-hc]at Ib G9;clear hxg hc;obtain⟨xi,L,O⟩:=x;simp only at G9;have Z:=bW (ρ:=ρ) (f:=qt ρ) B;rw[qt]at Z;simp only at Z;refine gq bJ ?_;refine ad.op rfl (ae.dg rfl rfl hz5 (by omega)) ?_;refine ad.op rfl (ae.quiet rfl) ?_;refine ad.op rfl (ae.fk rfl rfl Z rfl) ?_;refine gq bJ ?_;refine ad.op rfl (ae.ez rfl G9 ⟨lN (ρ:=ρ) ⟨L,O⟩,trivial⟩) ?_;cases c with
    |false =>
     rw[bv_]at Ib;rw[if_neg (by rw[Ib];decide)]at D;refine gq bJ ?_;refine ad.bh ?_;refine gq bJ ?_;refine fq ?_;rw[D];exact qB
    |true =>
     rw[aL_]at Ib;refine gq bJ ?_;refine cw (λM OX=>?_);refine gq bJ ?_
     refine ad.az (σ:=Int) M [] ⟨z5+1,by omega,by omega,Ib⟩ ?_
      cz
     omega
   obtain⟨x,B,N⟩:=aD (l:=t) (k:=y) (by omega);rw[N,jE]at Q;have hW:=KC (k:=(y:Int)) (by omega) (n:=0) ho.2;rw[<-hW]at Q;clear hW;refine gq bJ ?_;obtain⟨W,hW⟩:∃w,w=wv (y:Int) l 0 (-1):=⟨_,rfl⟩;rw[show ((0:Nat):Int)=0 from rfl,<-hW]at Q
   refine ad.aK (σ:=Int × Int) 11 11 [] (λp=>(pS ρ E H l f t [(18,eg ρ u),(20,.pt 6 12 0 0),(22,iv i4),(23,iv p.2),(24,iv p.1)])) []
    (λp=>(pB ρ ds rs an ak ar ag ab av cn ck cr cg cb cv [(6,.arr 12 [[iv E,iv H,.sl true [],.gr 9 3 n4,.sl true [],.sl true [],.sl true [],iv 0,iv 0,.v (.bool false),.gr 8 1 k2,.gr 10 1 k4]] 0 true),(8,.arr 1 (ρ.h (List.map aI) g2) 0 false),(9,.arr 3 (ρ.h (List.map (qt ρ)) K.1) 0 false),(10,.arr 1 (ρ.h (List.map aI) h4) 0 false)]))
    (λp=>∃z:Nat,p.1=z/\z<=l.length/\W=wv (y:Int) (l.drop z) z p.2) (λp=>l.length - p.1.toNat) (0,-1) ⟨0,rfl,by omega,hW⟩ rfl
    cz ?_
   rintro⟨i5,w⟩ ⟨z3,Qm,arS,hw⟩;simp only at Qm hw;clear hW;refine gq bJ ?_;refine bS λm4 hm4=>?_;rw[au]at hm4;refine gq bJ ?_;refine bq (λxN=>?_) (λxN=>?_)<;>(try simp only[bL]at xN)
   rotate_left
   ·rw[aA_ (by omega),wv]at hw;subst hw;refine gq bJ ?_;refine ad.ao ?_;refine gq bJ ?_;refine bq (λyQ=>?_) (λyQ=>?_)<;>(try simp only[bL]at yQ)
    ·rw[if_neg (by omega)]at Q;have rS:=rL x (aa_ B);have ly:=OS (w0:=w0) (ρ:=ρ) jx x (by have:=rS.2.1;omega);obtain⟨s5,Rm⟩:∃s,s=nz u K x:=⟨_,rfl⟩;rw[<-Rm]at Q;obtain⟨L,O⟩:=x;have hs6:s5.1=K.1++[⟨((K.1.length:Nat):Int)+1,L,O.map (dU u)⟩]:=by rw[Rm,nz]
     rw[te]at ly;simp only at ly;obtain⟨Xa,hXa⟩:∃y,y=O.map (dU u):=⟨_,rfl⟩;rw[<-hXa]at ly hs6;clear Rm;refine gq bJ ?_;refine ad.int rfl (ae.iz rfl) λq5 hq5=>?_;refine gq bJ ?_;refine cw (λd hd=>?_);refine gq bJ ?_;refine ad.op rfl (ae.ind rfl rfl (aB (l:=t) hy B) (aA λ_=>rfl)) ?_;refine gq bJ ?_;refine ad.op rfl (ae.ez rfl ly ⟨fA _,lN (ρ:=ρ) ⟨L,O⟩,trivial⟩) ?_;refine gq bJ ?_;refine ad.dU (f:=qt ρ) (⟨d,L,Xa⟩:Im) rfl rfl rfl H7.symm (λ_=>rfl) rfl rfl rfl (by omega) (λI6 n6 hI6 hn6=>?_);refine gq bJ ?_;refine ad.op rfl (ae.iu rfl rfl (by decide) (by decide)) ?_;refine gq bJ ?_;refine ad.app (x:=q5) (f:=aI) rfl rfl rfl (xA.trans KE.symm) (λ_=>rfl) rfl rfl rfl rfl (by omega) λg6 k6 OY hk6=>?_;refine gq bJ ?_;refine ad.op rfl (ae.iu rfl rfl (by decide) (by decide)) ?_;refine gq bJ ?_;refine cw (λM OX=>?_);refine gq bJ ?_;rw[show ((K.1.length:Nat):Int)+1=d by omega,<-hI6]at hs6
     refine ad.az (σ:=Int × ((List Im × Bool) × Nat) × List Int × Nat) (M,((I6,s5.2),n6),g6,k6) [(9,11),(10,12)] ⟨y+1,by simp only;omega,by omega,by rw[OY,<-hs6,show q5=(K.1.length:Int) by omega];exact Q,by simp only;omega,by simp only[hn6,hI6,af_,H7];show n4+1<=_;omega,by simp only;rw[OY,af_,KE];rfl,by simp only;rw[hk6,OY,af_,KE];rfl⟩ ?_
      cz
     simp only;omega
    ·rw[if_pos (by omega)]at Q;refine gq bJ ?_;refine ad.op rfl (ae.iu rfl rfl (by decide) (by decide)) ?_;refine gq bJ ?_;refine ad.app (x:=W) (f:=aI) rfl rfl rfl (xA.trans KE.symm) (λ_=>rfl) rfl rfl rfl rfl (by omega) λg6 k6 OY hk6=>?_;refine gq bJ ?_;refine ad.op rfl (ae.iu rfl rfl (by decide) (by decide)) ?_;refine gq bJ ?_;refine cw (λM OX=>?_);refine gq bJ ?_
     refine ad.az (σ:=Int × ((List Im × Bool) × Nat) × List Int × Nat) (M,(K,n4),g6,k6) [(10,11)] ⟨y+1,by simp only;omega,by omega,by rw[OY];exact Q,H7,by simp only;omega,by simp only;rw[OY,af_,KE];rfl,by simp only;rw[hk6,OY,af_,KE];rfl⟩ ?_
      cz
     simp only;omega
   obtain⟨v,hv,hv2⟩:=aD (l:=l) (k:=z3) (by omega);rw[hv2,wv]at hw;refine gq bJ ?_;refine ad.op rfl (ae.ind rfl rfl (aB (l:=l) Qm hv) (aA λ_=>rfl)) ?_;refine gq bJ ?_;refine bq (λyQ=>?_) (λyQ=>?_)<;>(try simp only[bL]at yQ)
   ·rw[if_pos (by omega)]at hw;refine gq bJ ?_;refine cw (λM OX=>?_);refine gq bJ ?_
    refine ad.az (σ:=Int × Int) (M,i5) [] ⟨z3+1,by simp only;omega,by omega,by rw[Qm];exact hw⟩ ?_
     cz
    simp only;omega
   ·rw[if_neg (by omega)]at hw;refine gq bJ ?_;refine cw (λM OX=>?_);refine gq bJ ?_
    refine ad.az (σ:=Int × Int) (M,w) [] ⟨z3+1,by simp only;omega,by omega,hw⟩ ?_
     cz
    simp only;omega
  obtain⟨x,B,N⟩:=aD (l:=f) (k:=z2) (by omega);have rS:=sH x (aa_ B);have ly:=OS (w0:=w0) (ρ:=ρ) jx x (by have:=rS.2.1;omega);rw[N,jX,nz]at hp;obtain⟨X,hX⟩:∃X,X=te u x:=⟨_,rfl⟩;rw[<-hX]at ly hp;obtain⟨L,O⟩:=x;have Zy:X=⟨L,O.map (dU u)⟩:=hX;obtain⟨Xa,hXa⟩:∃y,y=O.map (dU u):=⟨_,rfl⟩;simp only at hp;rw[<-hXa]at Zy hp;subst Zy;clear hX;refine gq bJ ?_;refine cw (λd hd=>?_);refine gq bJ ?_;refine ad.op rfl (ae.ind rfl rfl (aB (l:=f) Cy B) (aA λ_=>rfl)) ?_;refine gq bJ ?_;refine ad.op rfl (ae.ez rfl ly ⟨fA _,lN (ρ:=ρ) ⟨L,O⟩,trivial⟩) ?_;refine gq bJ ?_;refine ad.dU (f:=qt ρ) (⟨d,L,Xa⟩:Im) rfl rfl rfl (ee.trans iD.symm) (λ_=>rfl) rfl rfl rfl (by omega) (λI3 n3 hI3 kT=>?_);refine gq bJ ?_;refine ad.op rfl (ae.iu rfl rfl (by decide) (by decide)) ?_;refine gq bJ ?_;refine ad.app (x:=i2) (f:=aI) rfl rfl rfl (by rw[fe,nE,pC]) (λ_=>rfl) rfl rfl rfl rfl (by omega) λg3 k3 hg3 vM=>?_;refine gq bJ ?_;refine ad.op rfl (ae.iu rfl rfl (by decide) (by decide)) ?_;refine gq bJ ?_;refine cw (λi3 de=>?_);refine gq bJ ?_;rw[show ((s2.1.length:Nat):Int)+1=d by omega,<-hI3]at hp
  refine ad.az (σ:=Int × ((List Im × Bool) × Nat) × List Int × Nat) (i3,((I3,s2.2 && fH ⟨L,Xa⟩),n3),g3,k3) [(7,9),(8,10)] ⟨z2+1,by simp only;omega,by omega,hp,by simp only[hI3,af_,iD];rfl,by simp only[kT,hI3,af_,iD];rfl,by simp only[hg3,nE,Cy];rfl,by simp only[vM,hg3,nE,af_,pC];rfl⟩ ?_
   cz
  simp only;omega
 clear hU;obtain⟨x,B,N⟩:=aD (l:=l) (k:=z) (by omega);obtain⟨y,hy,eN⟩:=aD (l:=f) (k:=z) (by omega);rw[N,eN,j9]at qe;rw[N,l6]at cV;have zX:=ho.1 x (aa_ B);have hy3:=(sH y (aa_ hy)).2.1;obtain⟨yn,ya⟩:=y;have hy4:=my ya;dsimp only at qe hy3;refine gq bJ ?_;refine ad.op rfl (ae.ind rfl rfl (aB (l:=l) hz B) (aA λ_=>rfl)) ?_;refine gq bJ ?_;refine bq (λP=>?_) (λP=>?_)<;>(try simp only[bL]at P)
 rotate_left
 ·have P:x=-1:=by rcases zX with h|⟨q,h,_⟩<;>omega
  rw[if_pos P,aK_]at qe cV;refine gq bJ ?_;refine cw (λi3 de=>?_);refine gq bJ ?_;refine ad.az (σ:=Int × (List Tm × Nat) × List Tm × Nat) (i3,(a1,n1),a2,n2) [] ⟨z+1,by simp only;omega,by omega,qe,cV,ur,uu,by simp only;omega,by simp only;omega⟩ ?_ cz;simp only;omega
 have P:x ≠ -1:=by omega
 rw[if_neg P]at qe cV;obtain⟨q,hxq,Q⟩:=zX.resolve_left P;obtain⟨v,hv⟩:∃u,t[q]?=some u:=⟨_,ai_ Q⟩;rw[show x.toNat=q by omega,hv]at cV;have hv3:=(rL v (aa_ hv)).2.1;obtain⟨vn,va⟩:=v;have hv4:=my va;dsimp only at cV hv3;refine gq bJ ?_;refine ad.op rfl (ae.ind rfl rfl (aB (l:=f) hz hy) (aA λ_=>rfl)) ?_;refine gq bJ ?_;refine ad.qm (f:=iN) (ys:=ya) rfl rfl rfl ur (λ_=>rfl) rfl ov qT (by omega) (λb1 k1 YV kD=>?_);refine gq bJ ?_;refine ad.op rfl (ae.ind rfl rfl (aB (l:=l) hz B) (aA λ_=>rfl)) ?_;refine gq bJ ?_;refine ad.op rfl (ae.ind rfl rfl (aB (l:=t) hxq hv) (aA λ_=>rfl)) ?_;refine gq bJ ?_;refine ad.qm (f:=iN) (ys:=va) rfl rfl rfl uu (λ_=>rfl) rfl ov qT (by omega) (λb2 k2 YW fe=>?_);refine gq bJ ?_;refine cw (λi3 de=>?_);refine gq bJ ?_;refine ad.az (σ:=Int × (List Tm × Nat) × List Tm × Nat) (i3,(b1,k1),b2,k2) [(4,6),(5,7)] ⟨z+1,by simp only;omega,by omega,by rw[qe,YV,bc_],by rw[cV,YW,bc_],kD,fe,by simp only[YV,af_];omega,by simp only[YW,af_];omega⟩ ?_ cz;simp only;omega
end
end
section
set_option maxHeartbeats 4000000
attribute [local irreducible] ah aG ae ad
noncomputable instance:FN 61:=⟨_,aF Tryz.func61 Tryz.call61⟩
noncomputable instance:FN 113:=⟨_,aF Tryz.func113 Tryz.call113⟩
noncomputable instance:FN 115:=⟨_,aF Tryz.func115 Tryz.call115⟩
noncomputable instance:FN 118:=⟨_,aF Tryz.func118 Tryz.call118⟩
noncomputable instance:FN 120:=⟨_,aF Tryz.func120 Tryz.call120⟩
noncomputable instance:FN 116:=⟨_,aF Tryz.func116 Tryz.call116⟩
noncomputable instance:FN 177:=⟨_,aF Tryz.func177 Tryz.call177⟩
noncomputable instance:FN 223:=⟨_,aF Tryz.func223 Tryz.call223⟩
noncomputable instance:FN 181:=⟨_,aF Tryz.func181 Tryz.call181⟩
noncomputable instance:FN 226:=⟨_,aF Tryz.func226 Tryz.call226⟩
theorem Ld:nC [vr 0]:=⟨by rw[dG,dG];exact⟨aa7 _,trivial⟩,by decide⟩
theorem aba (m:ByteArray) (h:m.size<=1099511627776):z_ (r0 m):=⟨(by decide:(0:Nat)<=1099511627776),(by decide:(0:Nat)<=1099511627776),(by decide:(1:Nat)<=1099511627776),(by decide:(0:Nat)<=1099511627776),(by decide:(1:Nat)<=1099511627776),(λx h=>nomatch h),(λx h=>by obtain rfl:=ae_.1 h;exact⟨Ld,by decide⟩),(λx h=>nomatch h),(λx a=>by obtain rfl:=ae_.1 a;exact⟨Ld,h⟩),aq_ (by kernel_rfl),aq_ (by kernel_rfl)⟩
theorem abb:Ac p0:=⟨by decide,by decide,by decide,λr a=>by
 rcases ad_.1 a with rfl|a
 ·exact aba _ (by decide)
 ·obtain rfl:=ae_.1 a;exact aba _ (by decide)⟩
def oC:Ob:=.arr 11 [od .plain p0++GQ .plain s0++[.mp 2]] 0 true
def so4:List (Nat × Ob):=[(0,.arr 2 [od .plain p0] 0 true),(1,.arr 8 [GQ .plain s0] 0 true),(2,.mp []),(3,oC)]
theorem koP {N:Nat}{c:List AV}{n:Nat}(h:∀a ∈ c,Pure a):h_ N (.arr n [c] 0 true)/\∀J,Ob.arr n [c] 0 true ≠ .fo J:=⟨λrow b a d=>by obtain rfl:=ae_.1 b;exact (h a d).bm,λJ h=>nomatch h⟩
theorem anp {T:af}(h0:T.get 0=some (.arr 2 [od .plain p0] 0 true)) (h1:T.get 1=some (.arr 8 [GQ .plain s0] 0 true)) (h2:T.get 2=some (.mp [])) (h3:T.get 3=some oC) (c:Nat.ble 4 T.nx=true):C3 so4 4 T:=by
 refine⟨aq_ c,λj o h=>?_,λj d=>?_⟩
 ·match j,h with
  |0,h=>obtain rfl:=oJ_ h;exact⟨by decide,h0,koP λa b=>o5 _ a b⟩
  |1,h=>obtain rfl:=oJ_ h;exact⟨by decide,h1,koP λa b=>Fx _ a b⟩
  |2,h=>obtain rfl:=oJ_ h;exact⟨by decide,h2,di_ _,λJ h=>nomatch h⟩
  |3,h =>
   obtain rfl:=oJ_ h;refine⟨by decide,h3,λrow e a b=>?_,λJ h=>nomatch h⟩;obtain rfl:=ae_.1 e;rcases az_.1 b with b|b
   ·rcases az_.1 b with b|b
    ·exact (o5 _ a b).bm
    ·exact (Fx _ a b).bm
   ·obtain rfl:=ae_.1 b;exact .mp (by decide)
  |j+4,h=>cases h
 ·match j,d with
  |0,_=>exact⟨_,rfl⟩
  |1,_=>exact⟨_,rfl⟩
  |2,_=>exact⟨_,rfl⟩
  |3,_=>exact⟨_,rfl⟩
theorem kl4:∀a ∈ [AV.pt 3 11 0 0,aR .plain aI false [0]],ec 4 a:=λa b=>by
 rcases ad_.1 b with rfl|b
 ·exact .pt (by decide)
 ·obtain rfl:=ae_.1 b;exact (bt _).bm
section
variable {w0:World}
theorem aaw:ah Tryz.prog w0 14 [pg .plain p0] (.aL [iv 0,iv 0]):=by
 have h:=IY (w0:=w0) (ρ:=.plain) p0 abb
 rwa [show fM p0=(0,0) by kernel_rfl]at h
theorem ajd:ah Tryz.prog w0 129 [at_ .plain a0] (aR .plain aI false [0]):=by
 have h:=Hg (w0:=w0) (ρ:=.plain) a0 (by decide) Ld.1 (by decide)
 rwa [show varsOf a0.a=[0] by kernel_rfl]at h
theorem aje:ah Tryz.prog w0 133 [ft .plain p0.ds,.v (.string ⟨#[112]⟩),iv 1] (.v (.bool true)):=by
 have h:=Hf (w0:=w0) (ρ:=.plain) p0.ds ⟨#[112]⟩ 1 (by decide)
 rwa [show l_ p0.ds ⟨#[112]⟩ 1=true by kernel_rfl]at h
theorem afu:aG Tryz.prog w0 177 [.pt 3 11 0 0,aR .plain aI false [0]] (aq so4 4) (.v (.bool true)) (aq so4 4):=cx
theorem ab9:ah Tryz.prog w0 61 [pg .plain p0,Jn .plain s0] (.v (.bool true)):=px
end
end
section
set_option maxHeartbeats 4000000
attribute [local irreducible] ah aG ae ad
noncomputable instance:FN 184:=⟨_,aF Tryz.func184 Tryz.call184⟩
noncomputable instance:FN 227:=⟨_,aF Tryz.func227 Tryz.call227⟩
noncomputable instance:FN 183:=⟨_,aF Tryz.func183 Tryz.call183⟩
noncomputable instance:FN 44:=⟨_,aF Tryz.func44 Tryz.call44⟩
noncomputable instance:FN 78:=⟨_,aF Tryz.func78 Tryz.call78⟩
section
variable {P:Program}{w0:World}{dr:Bool}{α:AA}{S:af}{ρ:Hd}{T:Type}{f:T->List AV}{acc:List T}
theorem ae.ant {m:Nat}{x hi b:QO}{c a:IntKind}{ex:Bool}{j:Int}(h1:x.ev α.tm=aR ρ f ex acc) (h2:hi.ev α.tm=.v (.int c j)) (h3:b.ev α.tm=.v (.int a j)) (l:j=acc.length) (d:∀x,(f x).length=m) :
  ae P w0 dr (.slice (.sl m) x none (some hi) (some b)) α S (aR ρ f true acc) S:=ae.afl λt h=>by
 obtain⟨h,_⟩|⟨e,n,h,g,i⟩:=h
 ·grind
 ·injection h with h;subst h;rw[aR]at h1;have o:(ρ.h (List.map f) acc).length=acc.length:=au;simp only[h1,h2,h3,bj_,aE_,r7,g,mK];refine⟨λrow k=>by rw[i,aA (m:=m) d row k],by grind,bf_ _,by omega,trivial,by omega,?_,rfl⟩;rw[show j.toNat=acc.length by omega,aQ_ (by omega)]
  rfl
end
def oX (k:Int) (m:ByteArray):Ob:=.arr 18 [GQ .plain s0++iE .plain (r0 m)++[iv k,cL .plain [a0],f0,.yl 0]] 0 true
def oI:Ob:=.arr 1 [[iv 1]] 0 false
def e0:AV:=eg .plain [⟨0,vr 0⟩]
theorem rz {P:Prop}(h:P:=by repeat' (first|exact trivial|(refine⟨?_,?_⟩;first|exact .pure (jo (m:=60) rfl)|exact .yl rfl rfl|exact .yl rfl|exact .pt rfl rfl|exact .ob rfl rfl))):P:=h
section
variable {w0:World}
theorem afw (m:ByteArray):ah Tryz.prog w0 179 [rl .plain (r0 m)] (.v (.bool false)):=abJ (r0 m) (by decide:(1:Nat)<=1099511627776)
theorem QV (m:ByteArray):ah Tryz.prog w0 16 [rl .plain (r0 m)] (cL .plain [a0]):=Ga (r0 m) (by decide:(1:Nat)<=549755813888)
theorem ab_:ah Tryz.prog w0 44 [.sl true [],iv 1] (.v (.bool false)):=px
theorem abc {k:Int}{m:ByteArray}{J a:fG}{b:Bool}(h:∀(T:af) (q:Nat),T.get q=some (.fo J)->BP Tryz.prog w0 q [c0 k] T (.v (.bool b)) (T.set q (some (.fo a)))) :
  aG Tryz.prog w0 184 [.pt 1 18 0 0,i0,e0] (aq [(0,.fo J),(1,oX k m)] 3) (.v (.bool b)) (aq [(0,.fo a),(1,oX k m)] 3):=cx
end
end
end Go.Proofs.YtbpabjmnhggajaaGreat
