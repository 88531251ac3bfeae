/- The law OverlapRules, for arguments of a size that a machine can hold. -/
import Derived.Test.YtbpabjmnhggajaaGreatOr53
namespace Go.Proofs.YtbpabjmnhggajaaGreat
set_option linter.all false
set_option maxRecDepth 100000
open Go.RowKit
section
attribute [local irreducible] ah aG ae ad
def qf8:FQ 8 Tryz.f8:=aF Tryz.func8 Tryz.call8
def g8:List Nat:=[3,1,2,12,11,15,10,6,7,0,9,38,55,66,80,14,82,13]
section
variable {w0:World}{ρ:Hd}
theorem TK (p:Pg) (i j:Int) (a:ah Tryz.prog w0 20 [pg ρ p] (.aL [iv (fM p).1,iv (fM p).2])) (h:¬ ((fM p).2=0/\0<=i/\i<=j/\j < p.rs.length)):ah Tryz.prog w0 8 [pg ρ p,iv i,iv j] (xU ρ ([],2)):=by
 obtain⟨⟨e,f⟩,b⟩:∃c,c=fM p:=⟨_,rfl⟩;rw[<-b]at a h;have g:=pN (ρ:=ρ) p;clear b;obtain⟨k,l⟩:=p;simp only at h a;refine st qf8 g8 ((BE _)) ?_
 repeat' (first
  |apply bK g8 a
  |refine cg g8 (λd=>?_) λd=>?_
  |refine lg g8 λm n=>?_
  |(refine fq ?_))
 all_goals first
  |exact Ay kN
  |exfalso;omega
theorem PA (p:Pg) (i j:Nat) (d g:Int) (hi:d=i) (K:g=j) (M:Ac p) (Az:ah Tryz.prog w0 20 [pg ρ p] (.aL [iv (fM p).1,iv (fM p).2])) (u:(fM p).2=0) (hij:i<=j) (a b:Rl) (A:p.rs[i]?=some a) (y:p.rs[j]?=some b) :
  ah Tryz.prog w0 8 [pg ρ p,iv d,iv g] (xU ρ (l7 (fE d g a b) (eS (fE d g a b).T (fE d g a b).F []) [])):=by
 have N:=Aw (pV u a (aa_ A)) (M.rr a (aa_ A));have O:=Aw (pV u b (aa_ y)) (M.rr b (aa_ y));have My:j < p.rs.length:=(ar_.1 y).1;obtain⟨⟨c1,c2⟩,lh⟩:∃c,c=fM p:=⟨_,rfl⟩;rw[<-lh]at Az u;simp only at u;subst u;clear lh M;have P:=N.hn;have cZ:=O.hn;have Ky:=yE (w0:=w0) (ρ:=ρ) a (by grind);have Kz:=yE (w0:=w0) (ρ:=ρ) b (by grind);have E:=Wl (w0:=w0) (ρ:=ρ) (a.aM++a.rem) (b.aM++b.rem) P cZ (a.aM++a.rem) [] rfl (ax_ _);have Q:(fE d g a b).T=(b.aM++b.rem).map (ou a.vars):=by unfold fE nW;simp
 have S:(fE d g a b).F=a.aM++a.rem:=rfl;have C:∀l ∈ eS (fE d g a b).T (fE d g a b).F [],yT (fE d g a b).T l/\l.length=(fE d g a b).F.length:=λl t=>by
  have:=Eu _ _ _ ⟨λm D=>(by grind),by simp⟩ t;exact⟨this.1,by grind⟩
 have eD:(eS (fE d g a b).T (fE d g a b).F []).length<=625:=by
  rw[Q,S];exact ay_ (uv (by grind) _ []) (ay_ (cN_ (by decide) P) (by decide))
 have G:=λl t v=>Pw (w0:=w0) (ρ:=ρ) p i j d g hi K a b A y l t v;have w:=λl v J=>ahe (w0:=w0) (ρ:=ρ) p i j d g hi K a b A y N O l v J;have eL:eS (fE d g a b).T (fE d g a b).F []=eS (b.aM++b.rem) (a.aM++a.rem) []:=by rw[Q,S,RB]
 rw[<-eL]at E;obtain⟨L,hL⟩:∃L,L=eS (fE d g a b).T (fE d g a b).F []:=⟨_,rfl⟩;rw[<-hL]at E C eD ⊢;have U:∀l ∈ L,l.length<=1000000:=λl t=>by grind
 clear hL eL Q N O P cZ;obtain⟨c,u⟩:∃c,c=fE d g a b:=⟨_,rfl⟩;have V:c.i=d:=by rw[u];rfl
 have W:c.j=g:=by rw[u];rfl
 have X:c.a.aM.length=a.aM.length:=by rw[u];rfl
 have Y:c.b.aM.length=b.aM.length:=by grind[fE,nW]
 have C:∀l ∈ L,l.length=(a.aM++a.rem).length/\yT ((nW a.vars b).aM++(nW a.vars b).rem) l/\(∀m ∈ l,-1<=m):=λl t=>⟨(C l t).2,(C l t).1,λm D=>by
  rcases (C l t).1.1 m D with h|⟨q,h,_⟩<;>omega⟩
 rw[<-u]at w ⊢;clear u S;obtain⟨F,hF⟩:∃F,F=a.aM++a.rem:=⟨_,rfl⟩;obtain⟨T,hT⟩:∃T,T=b.aM++b.rem:=⟨_,rfl⟩;rw[<-hF]at Ky E;rw[<-hT]at Kz E;obtain⟨R,hR⟩:∃R,R=l7 c L []:=⟨_,rfl⟩;rw[<-hR];have Z:(a.aM++a.rem).length<=4\/True:=.inr trivial;have EM:=pN (ρ:=ρ) p;have Hx:=o5 (ρ:=ρ) p;have yG:=fQ (ρ:=ρ) a;have Zd:=fQ (ρ:=ρ) b;have RD:=aB (ρ:=ρ) (f:=iE ρ) (l:=p.rs) hi A;have OW:=aB (ρ:=ρ) (f:=iE ρ) (l:=p.rs) K y;have hLm:=Gv (ρ:=ρ) L;clear hF hT A y Z;obtain⟨ds,rs⟩:=p;obtain⟨an,ak,ar,ag,ab,av⟩:=a;obtain⟨bn,bk,br,bg,bb,bv⟩:=b;simp only at RD OW My;have H:∀B,h_ B (.arr 2 [od ρ ⟨ds,rs⟩] 0 true):=λB=>mu Hx;unfold od at H;simp only at H;refine st qf8 g8 ((BE _)) ?_
 repeat' (first
  |refine ad.op rfl (pl Az) ?_;refine gq g8 ?_
  |refine ad.op rfl (ae.ind rfl rfl RD (aA λ_=>rfl)) ?_;refine gq g8 ?_
  |refine ad.op rfl (pl Ky) ?_;refine gq g8 ?_
  |refine ad.op rfl (ae.ind rfl rfl OW (aA λ_=>rfl)) ?_;refine gq g8 ?_
  |refine ad.op rfl (pl Kz) ?_;refine gq g8 ?_
  |refine bq (λhb=>?_) (λhb=>?_)<;>(try simp only[bL]at hb)<;>(first|exact absurd hb (by decide)|refine gq g8 ?_)
  |refine bS λm D=>?_;(try rw[au]at D);refine gq g8 ?_
  |(refine fq ?_))
 all_goals first
  |exfalso;omega
  |skip
 refine ad.op rfl (ae.oZ rfl E ⟨dk _,dk _,bt _,trivial⟩ ⟨Wk.refl _,Wk.refl _,Wk.nil,trivial⟩) ?_;refine gq g8 ?_;unfold OQ at hLm
 refine ad.aK (σ:=Int × List Pr × Nat) 1 2 [] (λs=>[(1,iv d),(2,iv g),(3,.pt 0 2 0 0),(10,.gr 1 12 s.2.2),(11,aR ρ (Gu ρ) false L),(12,iv s.1)]) [] (λs=>[(0,.arr 2 [[ft ρ ds,LM ρ rs]] 0 true),(1,.arr 12 (ρ.h (List.map (oV ρ)) s.2.1) 0 false)])
  (λs=>∃z:Nat,s.1=z/\z<=L.length/\R=l7 c (L.drop z) s.2.1/\s.2.2=s.2.1.length/\s.2.1.length<=z) (λs=>L.length - s.1.toNat) (0,[],0) ⟨0,rfl,by omega,by grind,rfl,by simp⟩ rfl
  cz ?_
 rintro⟨q,out,n⟩ ⟨z,hz,tD,r,v,GF⟩;simp only at hz r v GF;clear hR;refine gq g8 ?_;refine bS λm D=>?_;rw[au]at D;refine gq g8 ?_;refine bq (λaZ=>?_) (λaZ=>?_)<;>(try simp only[bL]at aZ)
 rotate_left
 ·rw[aA_ (by omega),l7]at r;refine gq g8 ?_;refine ad.ao ?_;refine gq g8 ?_;refine fq ?_;rw[r];exact Ay (aP.grow rfl v)
 obtain⟨l,t,ee⟩:=aD (l:=L) (k:=z) (by omega);obtain⟨k1,k2,k3⟩:=C l (aa_ t);have G:=G l (U l (aa_ t)) k3;have w:=w l k1 k2;rw[ee,l7,V,W,X,Y]at r;simp only at G w r;obtain⟨o,J⟩:∃o,o=H2 d g ak.length bk.length l:=⟨_,rfl⟩;rw[<-J]at G r;obtain⟨⟨x,ok,e⟩,hx⟩:∃z,z=nY c l:=⟨_,rfl⟩;rw[<-hx]at w r;clear J hx k1 k2 k3;obtain⟨xi,xj,⟨sg,ss,sb,sf,sk,sn,sr,sx⟩,x0,x1⟩:=x;unfold Kx oV at w;simp only at w r;have hll:Pure (aR ρ aI false l):=bt l;refine gq g8 ?_;refine ad.op rfl (ae.ind rfl rfl (aB (l:=L) hz t) (aA λ_=>rfl)) ?_;refine gq g8 ?_;refine ad.op rfl (pl G) ?_;cases o with
 |false =>
  rw[if_neg (by decide)]at r;refine gq g8 ?_;refine cw (λI de=>?_);refine gq g8 ?_;refine ad.az (σ:=Int × List Pr × Nat) (I,out,n) [] ⟨z+1,by grind,by omega,r,v,by grind⟩ ?_ cz;simp only;omega
 |true =>
 rw[if_pos rfl]at r;refine gq g8 ?_;refine ad.cP rfl (λT=>ae.ind rfl rfl (aB (l:=L) hz t) (aA λ_=>rfl)) ?_;refine gq g8 ?_;refine ad.cP rfl (λT=>pl w) ?_;refine gq g8 ?_;refine bq (λbf=>?_) (λbf=>?_)<;>(try simp only[bL]at bf)
 ·rw[if_pos bf]at r;refine gq g8 ?_;refine ad.bh ?_;refine gq g8 ?_;refine fq ?_;rw[r];exact Ay kN
 rw[if_neg (by grind)]at r;cases ok with
 |false =>
  rw[if_neg (by decide)]at r;refine gq g8 ?_;refine cw (λI de=>?_);refine gq g8 ?_;refine ad.az (σ:=Int × List Pr × Nat) (I,out,n) [] ⟨z+1,by grind,by omega,r,v,by grind⟩ ?_ cz;simp only;omega
 |true =>
 rw[if_pos rfl]at r;refine gq g8 ?_;refine ad.app (x:=(⟨xi,xj,⟨sg,ss,sb,sf,sk,sn,sr,sx⟩,x0,x1⟩:Pr)) (f:=oV ρ) rfl rfl rfl v (λ_=>rfl) rfl rfl rfl rfl (by omega) λZe n' h5 h6=>?_;rw[<-h5]at r;refine gq g8 ?_;refine cw (λI de=>?_);refine gq g8 ?_;refine ad.az (σ:=Int × List Pr × Nat) (I,Ze,n') [(1,3)] ⟨z+1,by grind,by omega,r,h6,by grind⟩ ?_ cz;simp only;omega
theorem Zs (p:Pg) (i j:Int) (a:Ac p) (b:∀r ∈ p.rs,JZ r):ah Tryz.prog w0 8 [pg ρ p,iv i,iv j] (xU ρ (pA p i j)):=by grind[XZ,X1,fM,pA,PA,Gt,TK]
end
end
section
attribute [local irreducible] ah aG ae ad
def aoC:FQ 25 Tryz.f25:=aF Tryz.func25 Tryz.call25
def gM:List Nat:=[5,2,3,6,4,0,1,26,28,41,48,65]
def qf9:FQ 9 Tryz.f9:=aF Tryz.func9 Tryz.call9
def g9:List Nat:=[0,13,1,5,4,10,12,14,25]
def qf3:FQ 3 Tryz.f3:=aF Tryz.func3 Tryz.call3
def g3:List Nat:=[3,1,2,6,0,13,7,9,8,10]
structure GC (x:Pr):Prop where
 st:sok x.st
 z0:x.h0.length<=1000
 z1:x.h1.length<=1000
section
variable {w0:World}{ρ:Hd}
theorem Zt (x:Pr) (u:GC x):ah Tryz.prog w0 25 [.agg (oV ρ x),.agg (oV ρ x)] (.v (.bool true)):=by
 have H:=afL (w0:=w0) (ρ:=ρ) x.st x.st u.st u.st;rw[SA]at H;have w:=wT (ρ:=ρ) x;have R:=wR (ρ:=ρ) x.st;obtain⟨b,c,⟨d,e,f,g,h,j,m,n⟩,x0,a⟩:=x;obtain⟨-,J,K⟩:=u;simp only at J K;have I:∀B,h_ B (.arr 12 [oV ρ ⟨b,c,⟨d,e,f,g,h,j,m,n⟩,x0,a⟩] 0 true):=λB=>mu w;unfold oV at w I ⊢;simp only at I w ⊢;refine st aoC gM .v ?_;refine cn (λL=>?_) λL=>?_
 ·grind
 refine gq gM ?_;refine cn (λM=>?_) λM=>?_
 ·grind
 refine gq gM ?_;apply bK gM H
 refine ad.aK (σ:=Int) 2 2 [] (λi=>[(2,.pt 0 12 0 0),(3,.pt 1 12 0 0),(5,iv i)]) [] (λ_=>[(0,.arr 12 [[iv b,iv c,cE ρ d,tu ρ e,eg ρ f,ye ρ g,cE ρ h,iv j,iv m,.v (.bool n),aR ρ aI false x0,aR ρ aI false a]] 0 true),(1,.arr 12 [[iv b,iv c,cE ρ d,tu ρ e,eg ρ f,ye ρ g,cE ρ h,iv j,iv m,.v (.bool n),aR ρ aI false x0,aR ρ aI false a]] 0 true)])
  (λi=>i=0\/i=1\/i=2) (λi=>2 - i.toNat) 0 (.inl rfl) rfl cz ?_
 rintro i (rfl|rfl|rfl)
 rotate_right
 ·refine gq gM ?_;refine cn (λr=>?_) λr=>?_
  ·grind
  refine gq gM ?_;refine ad.ao ?_;refine gq gM ?_;refine fq ?_;exact .refl _
 ·refine gq gM ?_;refine cn (λr=>?_) λr=>?_;rotate_left
  ·grind
  refine gq gM ?_;refine og gM (ae.iu rfl rfl (by decide) (by decide)) ?_;refine bS λN y=>?_;rw[au]at y;refine gq gM ?_;refine og gM (ae.iu rfl rfl (by decide) (by decide)) ?_;refine bS λO A=>?_;rw[au]at A;refine gq gM ?_;refine cn (λC=>?_) λC=>?_
  ·grind
  refine gq gM ?_
  refine ad.aK (σ:=Int) 2 2 [] (λq=>[(2,.pt 0 12 0 0),(3,.pt 1 12 0 0),(5,iv 0),(6,iv q)]) [] (λ_=>[(0,.arr 12 [[iv b,iv c,cE ρ d,tu ρ e,eg ρ f,ye ρ g,cE ρ h,iv j,iv m,.v (.bool n),aR ρ aI false x0,aR ρ aI false a]] 0 true),(1,.arr 12 [[iv b,iv c,cE ρ d,tu ρ e,eg ρ f,ye ρ g,cE ρ h,iv j,iv m,.v (.bool n),aR ρ aI false x0,aR ρ aI false a]] 0 true)])
   (λq=>∃z:Nat,q=z/\z<=x0.length) (λq=>x0.length - q.toNat) 0 ⟨0,rfl,by omega⟩ rfl cz ?_
  rintro q ⟨z,s,P⟩;refine gq gM ?_;refine og gM (ae.iu rfl rfl (by decide) (by decide)) ?_;refine bS λQ D=>?_;rw[au]at D;refine gq gM ?_;refine cn (λE=>?_) λE=>?_;rotate_left
  ·refine gq gM ?_;refine ad.ao ?_;refine gq gM ?_;refine ag gM λo F=>?_;obtain rfl:o=1:=by omega
   refine ad.az (σ:=Int) 1 [] (.inr (.inl rfl)) (by decide) cz
  obtain⟨v,t,-⟩:=aD (l:=x0) (k:=z) (by omega);refine gq gM ?_;refine og gM (ae.iu rfl rfl (by decide) (by decide)) ?_;refine og gM (ae.ind rfl rfl (aB (l:=x0) s t) (aA λ_=>rfl)) ?_;refine og gM (ae.iu rfl rfl (by decide) (by decide)) ?_;refine og gM (ae.ind rfl rfl (aB (l:=x0) s t) (aA λ_=>rfl)) ?_;refine cn (λG=>?_) λG=>?_
  ·grind
  refine gq gM ?_;refine ag gM λo F=>?_;refine ad.az (σ:=Int) o [] ⟨z+1,by omega,by omega⟩ (by omega) cz
 ·refine gq gM ?_;refine cn (λr=>?_) λr=>?_;rotate_left
  ·grind
  refine gq gM ?_;refine og gM (ae.iu rfl rfl (by decide) (by decide)) ?_;refine bS λN y=>?_;rw[au]at y;refine gq gM ?_;refine og gM (ae.iu rfl rfl (by decide) (by decide)) ?_;refine bS λO A=>?_;rw[au]at A;refine gq gM ?_;refine cn (λC=>?_) λC=>?_
  ·grind
  refine gq gM ?_
  refine ad.aK (σ:=Int) 2 2 [] (λq=>[(2,.pt 0 12 0 0),(3,.pt 1 12 0 0),(5,iv 1),(6,iv q)]) [] (λ_=>[(0,.arr 12 [[iv b,iv c,cE ρ d,tu ρ e,eg ρ f,ye ρ g,cE ρ h,iv j,iv m,.v (.bool n),aR ρ aI false x0,aR ρ aI false a]] 0 true),(1,.arr 12 [[iv b,iv c,cE ρ d,tu ρ e,eg ρ f,ye ρ g,cE ρ h,iv j,iv m,.v (.bool n),aR ρ aI false x0,aR ρ aI false a]] 0 true)])
   (λq=>∃z:Nat,q=z/\z<=a.length) (λq=>a.length - q.toNat) 0 ⟨0,rfl,by omega⟩ rfl cz ?_
  rintro q ⟨z,s,P⟩;refine gq gM ?_;refine og gM (ae.iu rfl rfl (by decide) (by decide)) ?_;refine bS λQ D=>?_;rw[au]at D;refine gq gM ?_;refine cn (λE=>?_) λE=>?_;rotate_left
  ·refine gq gM ?_;refine ad.ao ?_;refine gq gM ?_;refine ag gM λo F=>?_;obtain rfl:o=2:=by omega
   refine ad.az (σ:=Int) 2 [] (.inr (.inr rfl)) (by decide) cz
  obtain⟨v,t,-⟩:=aD (l:=a) (k:=z) (by omega);refine gq gM ?_;refine og gM (ae.iu rfl rfl (by decide) (by decide)) ?_;refine og gM (ae.ind rfl rfl (aB (l:=a) s t) (aA λ_=>rfl)) ?_;refine og gM (ae.iu rfl rfl (by decide) (by decide)) ?_;refine og gM (ae.ind rfl rfl (aB (l:=a) s t) (aA λ_=>rfl)) ?_;refine cn (λG=>?_) λG=>?_
  ·grind
  refine gq gM ?_;refine ag gM λo F=>?_;refine ad.az (σ:=Int) o [] ⟨z+1,by omega,by omega⟩ (by omega) cz
theorem KO (l:List Pr) (t:l.length<=1000000) (e:∀x ∈ l,GC x):ah Tryz.prog w0 9 [Fg ρ l,Fg ρ l] (.v (.bool true)):=by
 have f:=Gs (ρ:=ρ) l;unfold Fg at f ⊢;refine st qf9 g9 .v ?_;refine bS λm g=>?_;rw[au]at g;refine gq g9 ?_;refine bS λu h=>?_;rw[au]at h;refine gq g9 ?_;refine cn (λj=>?_) λj=>?_
 ·grind
 refine gq g9 ?_;refine bS λn o=>?_;rw[au]at o;refine gq g9 ?_;refine ad.aK (σ:=Int) 0 0 [] (λi=>[(0,aR ρ (oV ρ) false l),(1,aR ρ (oV ρ) false l),(12,iv n),(13,iv i)]) [] (λ_=>[]) (λq=>∃z:Nat,q=z/\z<=l.length) (λq=>l.length - q.toNat) 0 ⟨0,rfl,by omega⟩ rfl cz ?_;rintro q ⟨z,d,v⟩;refine gq g9 ?_;refine cn (λr=>?_) λr=>?_;rotate_left
 ·refine gq g9 ?_;refine ad.ao ?_;refine gq g9 ?_;refine fq ?_;exact .refl _
 obtain⟨x,a,-⟩:=aD (l:=l) (k:=z) (by omega);have c:=Zt (w0:=w0) (ρ:=ρ) x (e x (aa_ a));have b:=wT (ρ:=ρ) x;obtain⟨w,y,⟨A,B,C,D,E,F,G,H⟩,x0,I⟩:=x;unfold oV at c b;simp only at c b;refine gq g9 ?_;refine og g9 (ae.ind rfl rfl (aB (l:=l) d a) (aA λ_=>rfl)) ?_;refine og g9 (ae.ind rfl rfl (aB (l:=l) d a) (aA λ_=>rfl)) ?_;refine og g9 (ae.ez rfl c ⟨.agg b,.agg b,trivial⟩) ?_;refine ag g9 λs J=>?_;refine ad.az (σ:=Int) s [] ⟨z+1,by omega,by omega⟩ (by omega) cz
end
end
section
attribute [local irreducible] ah aG ae ad
theorem O4 {u:List Bd}:∀{G kn:List Gl}{p:Bool},∀x ∈ (lE u G kn p).1,x ∈ kn\/∃g ∈ G,x=im u g
 |[],kn,p,x,a=>.inl a
 |g::G,kn,p,x,a=>by
  have b:=λkn p h=>O4 (u:=u) (G:=G) (kn:=kn) (p:=p) x h;rw[lE]at a;split at a
  ·grind
  ·grind
theorem O5 {u:List Bd}:∀{G kn:List Gl}{p:Bool},(lE u G kn p).1.length<=kn.length+G.length
 |[],kn,p=>ac_ _
 |g::G,kn,p=>by
  have a:=λkn p=>O5 (u:=u) (G:=G) (kn:=kn) (p:=p);rw[lE,aw_];split
  ·grind
  ·simp
theorem ac2 {c:Oq}{l:List Int}(h1:c.F.length<=4) (h2:c.T.length<=4) (h3:∀x ∈ c.F,qf 200 x) (h4:∀x ∈ c.T,qf 200 x) (h5:∀g ∈ c.a.guard++c.b.guard,mJ 200 g) (h6:(c.a.guard++c.b.guard).length<=1000) (h:(nY c l).2.1=true):GC (nY c l).1:=by
 have n:=Gr (l:=j9 c.F l) (r:=l6 c.T l) (λx a=>by obtain⟨y,h1,h2⟩:=Ar a;exact (h3 y h1).1.mem x h2) (λx a=>by obtain⟨y,h1,h2⟩:=As a;exact (h4 y h1).1.mem x h2);unfold nY at h ⊢;split at h;rotate_left
 ·grind
 rename_i j;rw[if_pos j];obtain⟨b,d,-⟩:=n;obtain⟨u,k⟩:∃u,u=(gL (j9 c.F l) (l6 c.T l)).1:=⟨_,rfl⟩;rw[<-k]at h b d ⊢;clear k j;unfold Tb at h ⊢;split at h;rotate_left
 ·grind
 rename_i o;rw[if_pos o];have f:=λx=>O4 (u:=u) (G:=c.a.guard++c.b.guard) (kn:=[]) (p:=true) x;have i:=O5 (u:=u) (G:=c.a.guard++c.b.guard) (kn:=[]) (p:=true);have q:=y5 (l:=l) d b c.T 0 (jX u c.F ([],true)) [] h4 (D2 d b c.F ([],true) h3 (λx a=>by grind));obtain⟨K,A,B,k3,-⟩:=By (u:=u) (l:=l) c.T 0 (jX u c.F ([],true)) [];rw[Bx]at k3;obtain⟨⟨m,p,e⟩,s⟩:∃z,z=lE u (c.a.guard++c.b.guard) [] true:=⟨_,rfl⟩;rw[<-s]at h f i ⊢;simp only at h f i ⊢;split at h
 ·grind
 rename_i t;rw[if_neg t];simp only[aN_]at k3 i;refine⟨⟨by simp,by grind,by simp,by simp,by grind,λx a=>(by grind),λx a=>?_,λx a=>(by grind),λx a=>(by grind),λx a=>?_⟩,by grind[pC],by grind⟩
 ·have:=q x a;exact⟨⟨this.1,by have v:=this.2.1;have:=td x.a;simp only at v;omega⟩,this.2.2⟩
 ·rcases f x a with h|⟨g,w,rfl⟩
  ·grind
  ·have:=(h5 g w).app d b (by decide);exact⟨this.nC (by decide),this.2.2⟩
theorem RH {c:Oq}(d:∀l,(nY c l).2.1=true->GC (nY c l).1):∀(L:List (List Int)) (out:List Pr),(∀x ∈ out,GC x)->∀x ∈ (l7 c L out).1,GC x
 |[],out,b,x,a=>b x (by grind[l7])
 |l::L,out,b,x,a=>by
  have e:=λout h=>RH d L out h x;rw[l7]at a;split at a
  ·grind
  ·grind
theorem ac3 {p:Pg}{i j:Int}(f:Ac p):(∀x ∈ (pA p i j).1,GC x)/\(pA p i j).1.length<=1000:=by
 unfold pA;split;rotate_left
 ·grind
 rename_i k;split
 ·rename_i a b m n;have d:=Aw (pV k.1 a (aa_ m)) (f.rr a (aa_ m));have e:=(Aw (pV k.1 b (aa_ n)) (f.rr b (aa_ n))).sh a.vars;have o:(fE i j a b).F.length<=4:=d.hn;have q:(fE i j a b).T.length<=4:=e.hn;have r:=Ot (c:=fE i j a b) (eS (fE i j a b).T (fE i j a b).F []) [];have t:=ay_ (uv q (fE i j a b).F []) (ay_ (cN_ (by decide) o) (by decide:5 ^ 4<=625));rw[aN_]at r;exact⟨RH (λl h=>ac2 o q d.ha e.ha (λg s=>(az_.1 s).elim (d.ga g) (e.ga g)) (by have:=d.gn;have:=e.gn;rw[af_];show a.guard.length+(nW a.vars b).guard.length<=_;omega) h) _ _ (λx u=>by grind),by omega⟩
 ·grind
section
variable {w0:World}{ρ:Hd}
theorem Jj (p:Pg) (i j:Int) (a:Ac p) (n:∀r ∈ p.rs,JZ r) (g:ah Tryz.prog w0 6 [] (.v (.bool true))):ah Tryz.prog w0 3 [pg ρ p,iv i,iv j] (.v (.bool true)):=by
 have h:=TB (w0:=w0) (ρ:=ρ) p a;have b:=Rx (w0:=w0) (ρ:=ρ) p i j a;have c:=Zs (w0:=w0) (ρ:=ρ) p i j a n;have f:=ac3 (p:=p) (i:=i) (j:=j) a;have u:=pN (ρ:=ρ) p;obtain⟨⟨l,e⟩,k⟩:∃z,z=pA p i j:=⟨_,rfl⟩;rw[<-k]at b c f;obtain⟨o,d⟩:∃t,t=Lc p:=⟨_,rfl⟩;rw[<-d]at h;clear k d a;unfold xU at b c;simp only at b c f;have m:=KO (w0:=w0) (ρ:=ρ) l (by omega) f.1;have q:=Gs (ρ:=ρ) l;unfold Fg at b c m q;obtain⟨v,w⟩:=p;refine st qf3 g3 .v ?_;refine ad.op rfl (pl h) ?_;cases o with
 |false =>
  refine gq g3 ?_;refine og g3 (ae.ez rfl g trivial) ?_;refine fq ?_;exact .refl _
 |true =>
 refine gq g3 ?_;apply bK g3 b;apply bK g3 c;apply bK g3 m;refine cn (λs=>?_) λs=>?_;rotate_left
 ·grind
 refine gq g3 ?_;refine og g3 (ae.ez rfl g trivial) ?_;refine fq ?_;exact .refl _
end
end
section
set_option maxHeartbeats 4000000
attribute [local irreducible] ah aG ae ad
theorem Rn.ob {a:Nat->Nat}{M j k sz off len:Nat}{cx:Option Nat}(h:k=a j) (c:Nat.blt j M=true):Rn a M (.ob k sz off len cx) (.ob j sz off len cx):=λg w x d=>by
 subst h;cases d with
 |ob e f i l b=>exact .ob (g:=g.pre a M) (k:=j) ⟨lk c,e⟩ f i l b
section
variable {w0:World}{k:Int}{m:ByteArray}{J J':fG}{b:Bool}
theorem aky (h:aG Tryz.prog w0 184 [.pt 1 18 0 0,i0,e0] (aq [(0,.fo J),(1,oX k m)] 3) (.v (.bool b)) (aq [(0,.fo J'),(1,oX k m)] 3)) :
  aG Tryz.prog w0 184 [.pt 1 18 0 0,.ob 2 1 0 1 none,e0] (aq [(0,.fo J),(1,oX k m),(2,oI)] 3) (.v (.bool b)) (aq [(0,.fo J'),(1,oX k m)] 3):=by
 refine aG.J3 (args':=[.pt 1 18 0 0,i0,e0]) (N:=aq [(2,oI)] 3) (S':=aq [(0,.fo J),(1,oX k m)] 3) (λq o a=>?_) (ac_ _) (λq o a=>?_) ⟨.refl _,aP.ac6 (ρ:=.plain) (f:=aI) (acc:=[1]) rfl rfl,.refl _,trivial⟩ h
 ·match q,a with
  |2,a=>exact a
  |0,a=>cases a
  |1,a=>cases a
  |q+3,a=>cases a
 ·match q,a with
  |0,a=>exact⟨a,rfl⟩
  |1,a=>exact⟨a,rfl⟩
  |q+2,a=>cases a
theorem cy {B:Nat}{α:AA}{G:Nat->Option Ob}{f:QO}{c:List QO}(e:aG Tryz.prog w0 184 [.pt 1 18 0 0,i0,e0] (aq [(0,.fo J),(1,oX k m)] 3) (.v (.bool b)) (aq [(0,.fo J'),(1,oX k m)] 3))
  (h:eV (f.ev α.tm) (c.map (·.ev α.tm))=some (184,[.pt 2 18 0 0,.ob 4 1 0 1 none,e0]):=by rfl) (h0:G 0=some (.fo J):=by rfl) (h2:G 2=some (oX k m):=by rfl) (h4:G 4=some oI:=by rfl) :
  a_ Tryz.prog w0 B (.call f c) α ⟨G,5⟩ (.v (.bool b)) ⟨[(0,.fo J),(2,oX k m),(4,oI)],[(0,some (.fo J')),(2,some (oX k m)),(4,none),(5,none),(6,none),(7,none)],true⟩:=by
 refine a_.s9 [(1,2),(2,4)] _ _ (aky e) h ⟨.pt rfl rfl,.ob rfl rfl,.pure (fA _),trivial⟩ (.pure .v) (λp d=>?_) (λT a=>?_) ⟨⟨0,_,rfl,rfl,.fo⟩,⟨1,_,rfl,rfl,.row rz⟩,trivial⟩ λT a=>Hy.cell (i:=0) (q:=17) (j0:=0) rfl (a (2,oX k m) (by simp)) rfl (a (0,.fo J) (by simp)) (by decide) rfl
 ·simp only[ad_,as_,or_false]at d;rcases d with rfl|rfl|rfl<;>assumption
 ·exact⟨⟨_,a (0,.fo J) (by simp),.fo⟩,⟨_,a (2,oX k m) (by simp),.row rz⟩,⟨_,a (4,oI) (by simp),.row rz⟩,trivial⟩
end
def cp (c:Bool):List AV:=[.ip (od .plain p0),.ip [iv (bif c then 1 else 0)],.ip (GQ .plain s0),.ip [f0]]
section
variable {w0:World}
theorem ahx (c:Bool):Iter Tryz.prog w0 183 [] (cp c) [[c0 (bif c then 1 else 0)]]:=by
 intro J b J' a;refine⟨.aL [],aq [(0,.fo J')] 1,?_,rfl⟩;cases c
 ·have d:=abc (w0:=w0) (k:=0) (m:=⟨#[113]⟩) (Ys.one a);cases b<;>exact cx
 ·have d:=abc (w0:=w0) (k:=1) (m:=⟨#[114]⟩) (Ys.one a);cases b<;>exact cx
end
end
section
set_option maxHeartbeats 4000000
attribute [local irreducible] ah aG ae ad
noncomputable instance:FN 62:=⟨_,aF Tryz.func62 Tryz.call62⟩
noncomputable instance:FN 27:=⟨_,aF Tryz.func27 Tryz.call27⟩
noncomputable instance:FN 13:=⟨_,aF Tryz.func13 Tryz.call13⟩
def k0 (c:Bool):Int:=bif c then 1 else 0
section
variable {w0:World}
theorem ac4 (c:Bool):∀a ∈ cp c,Pure a:=by
 cases c<;>exact (AO (m:=60) rfl).all
theorem NH (c:Bool):ah Tryz.prog w0 62 [pg .plain p0,Jn .plain s0,.agg [iv 3,iv 0,iv (bif c then 1 else 0),i0]] (.aL [c0 (bif c then 1 else 0),.v (.bool true)]):=by
 have d:=ahx (w0:=w0) c;have b:=ac4 c;cases c <;>
 ·refine st FN.q gA py ?_
  repeat' (first
   |refine ad.op rfl (ae.bit rfl) ?_;refine gq gA ?_
   |refine ad.op rfl (ae.len rfl) ?_;refine gq gA ?_
   |refine ad.op rfl (ae.ind rfl rfl rfl (by decide)) ?_;refine gq gA ?_
   |refine ad.op rfl (pl (QV _)) ?_;refine gq gA ?_
   |refine ad.op rfl (pl acU) ?_;refine gq gA ?_
   |(refine ad.op rfl (pl (Wj _)) ?_;refine gq gA ?_))
  refine ad.range (σ:=Unit) (λ_:Unit=>[c0 _]) [()] 6 6 [] [(6,.pt 3 3 0 0),(7,.pt 4 1 0 0)] (λ_=>[(3,.arr 3 [[.v (.int .i64 0),.sl true [],.sl true []]] 0 true),(4,.arr 1 [[.v (.bool false)]] 0 true),(5,.df)]) (λrest _=>rest ≠ []) () rfl (λa e=>by cases e) b d rfl (by simp) rfl
   (by intro p b;simp only[ad_,as_,or_false]at b;rcases b with rfl|rfl<;>exact .pt (by decide)) rfl (λ_=>⟨rfl,(AO (m:=60) rfl).all⟩) ⟨sq,rfl,oz,rfl,rfl,rfl⟩ (λ_ rest _ _=>?_) λ_ h=>absurd rfl h
  refine gq gA ?_;refine ad.uc [(3,.arr 3 [[iv _,i0,e0]] 0 true),(4,.arr 1 [[.v (.bool true)]] 0 true),(5,.df)] [] ⟨trivial,rfl,oz,rfl,rfl,rfl⟩ ?_;refine gq gA ?_;exact rn
theorem QT (c:Bool):ah Tryz.prog w0 27 [pg .plain p0,Jn .plain s0,iv (bif c then 1 else 0),i0] (.aL [cE .plain [⟨0,bif c then ⟨#[114]⟩ else ⟨#[113]⟩,[vr 0]⟩],iv 3,.v (.bool true)]):=by
 cases c<;>exact px
def x0:Pr:=⟨0,1,s0,[0],[0]⟩
theorem aoD:ah Tryz.prog w0 13 [pg .plain p0,.agg (oV .plain x0)] (.v (.bool true)):=px
theorem aoE:ah Tryz.prog w0 13 [pg .plain p0,.agg [iv 0,iv 0,.sl true [],.sl true [],.sl true [],.sl true [],.sl true [],iv 0,iv 0,.v (.bool false),.sl true [],.sl true []]] (.v (.bool false)):=px
end
end
section
set_option maxHeartbeats 4000000
theorem pfz {P:Program}{w0:World}{g:FuncId}{args args':List AV}{r:AV}(h:ah P w0 g args' r) (a:iq af.none_ args args'):ah P w0 g args r:=by
 obtain⟨b,d,c⟩:=h;exact ah.zM (c.J3 (N:=af.none_) (λ_ _ h=>h) (ac_ _) (λk o h=>by cases h) a) (.refl _) b
def EG (T:Tables) (n:Nat):Code->Option QC
 |.region _ ops dr=>match qX T n ops.toList ops.toList with
  |some l=>some (.bc dr l)
  |none=>none
 |.seq a b=>match EG T n a,EG T n b with
  |some a,some b=>some (.seq a b)
  |_,_=>none
 |.ret=>some .ret
 |_=>none
def Jk (T:Tables):Code->Bool
 |.region _ ops true=>AF T ops
 |.seq a b=>Jk T a && Jk T b
 |_=>true
theorem GD {T:Tables}{n:Nat}:∀{c:Code}{q:QC},EG T n c=some q->Jk T c=true->comp T n c=some q
 |.region _ ops dr,q,h,d=>by
  rw[EG]at h;split at h
  ·rename_i l e;rw[comp,e];cases dr
   ·exact h
   ·rw[Jk]at d;simp only[d];exact h
  ·cases h
 |.seq a b,q,h,d=>by
  rw[Jk,al_]at d;rw[EG]at h;split at h
  ·rename_i i j f g;rw[comp,GD f d.1,GD g d.2];exact h
  ·cases h
 |.ret,q,h,d=>h
def abi (T:Tables) (fn:Func):Option (QC × List QR):=match fn.body with
 |some c=>match EG T fn.ntmps c,xJ T fn.results.toList with
  |some q,some a=>some (q,a)
  |_,_=>none
 |none=>none
def ahy (T:Tables) (fn:Func):Bool:=match fn.body with
 |some c=>Jk T c
 |none=>false
theorem Zu {T:Tables}{fn:Func}{q:QC × List QR}(h:abi T fn=some q) (d:ahy T fn=true):GR T fn=some q:=by
 unfold abi at h;unfold ahy at d;unfold GR;split at h
 ·rename_i c e;rw[e]at d ⊢;simp only at d ⊢;split at h
  ·rename_i a b f g;rw[GD f d,g];exact h
  ·cases h
 ·cases h
attribute [local irreducible] ah aG ae ad
noncomputable instance:FN 12:=⟨_,aF Tryz.func12 Tryz.call12⟩
noncomputable instance:FN 6:=⟨_,aF Tryz.func6 Tryz.call6 (Zu (by conv=>lhs;cbv) (by kernel_rfl))⟩
abbrev lT (l:List (List AV)):AV:=.sl true l
abbrev xT:AV:=lT [[iv 1,iv 0,.v (.string ⟨#[]⟩),lT []]]
abbrev nT (c:UInt8):AV:=.v (.string ⟨#[c]⟩)
abbrev rT (c:UInt8):List AV:=[.v (.string ⟨#[]⟩),lT [],lT [[nT 112,xT]],lT [],lT [[iv 0,nT c,xT]],iv 1]
abbrev pT:AV:=.agg [lT [[nT 112,iv 1],[nT 113,iv 1],[nT 114,iv 1]],lT [rT 113,rT 114]]
theorem Ij {l:List AV}:iq af.none_ (pT::l) (pg .plain p0::l):=⟨(we (m:=60) rfl).1,iq.refl _ _⟩
theorem aoF:nY (fE 0 1 (r0 ⟨#[113]⟩) (r0 ⟨#[114]⟩)) [0]=(x0,true,0):=by
 rw[nY,show j9 (fE 0 1 (r0 ⟨#[113]⟩) (r0 ⟨#[114]⟩)).F [0]=[vr 0] from rfl,show l6 (fE 0 1 (r0 ⟨#[113]⟩) (r0 ⟨#[114]⟩)).T [0]=[vr 1] from rfl,ag_]
 kernel_rfl
theorem aoG:pA p0 0 1=([x0],0):=by
 rw[pA,if_pos ⟨by kernel_rfl,by decide,by decide⟩];have e:eS (fE 0 1 (r0 ⟨#[113]⟩) (r0 ⟨#[114]⟩)).T (fE 0 1 (r0 ⟨#[113]⟩) (r0 ⟨#[114]⟩)).F []=[[-1],[0]]:=by kernel_rfl
 show l7 (fE 0 1 (r0 ⟨#[113]⟩) (r0 ⟨#[114]⟩)) (eS _ _ []) []=_;rw[e];rw[l7,if_neg (by decide),l7,if_pos (by decide),aoF]
 rfl
theorem aoH:pA p0 0 0=([],0):=by
 rw[pA,if_pos ⟨by kernel_rfl,by decide,by decide⟩]
 kernel_rfl
theorem aoI:pA p0 1 1=([],0):=by
 rw[pA,if_pos ⟨by kernel_rfl,by decide,by decide⟩]
 kernel_rfl
section
variable {w0:World}
theorem Li (i j:Int):ah Tryz.prog w0 7 [pT,iv i,iv j] (xU .plain (pA p0 i j)):=pfz (Rx p0 i j abb) Ij
theorem ajf:ah Tryz.prog w0 7 [pT,iv 0,iv 1] (xU .plain ([x0],0)):=by have h:=Li (w0:=w0) 0 1;rwa [aoG]at h
theorem ajg:ah Tryz.prog w0 7 [pT,iv 0,iv 0] (xU .plain ([],0)):=by have h:=Li (w0:=w0) 0 0;rwa [aoH]at h
theorem ajh:ah Tryz.prog w0 7 [pT,iv 1,iv 1] (xU .plain ([],0)):=by have h:=Li (w0:=w0) 1 1;rwa [aoI]at h
theorem aji:ah Tryz.prog w0 7 [pT,iv 1,iv 0] (xU .plain ([],2)):=by have h:=Li (w0:=w0) 1 0;rwa [Gt λh=>absurd h.2.2.1 (by decide)]at h
theorem anr:ah Tryz.prog w0 14 [pT] (.aL [iv 0,iv 0]):=pfz aaw Ij
theorem okT:ah Tryz.prog w0 13 [pT,.agg (oV .plain x0)] (.v (.bool true)):=pfz aoD Ij
theorem noT:ah Tryz.prog w0 13 [pT,.agg [iv 0,iv 0,.sl true [],.sl true [],.sl true [],.sl true [],.sl true [],iv 0,iv 0,.v (.bool false),.sl true [],.sl true []]] (.v (.bool false)):=pfz aoE Ij
theorem akz:sok s0:=⟨by decide,by decide,by decide,by decide,by decide,(λx h=>nomatch h),(λx h=>by obtain rfl:=ae_.1 h;exact⟨Ld,by decide⟩),(λx h=>nomatch h),(λx h=>nomatch h),(λx h=>nomatch h)⟩
theorem ajj:ah Tryz.prog w0 9 [Fg .plain [x0],Fg .plain [x0]] (.v (.bool true)):=KO [x0] (by decide) λx h=>by obtain rfl:=ae_.1 h;exact⟨akz,by decide,by decide⟩
theorem ans:ah Tryz.prog w0 12 [pT] (xU .plain ([x0],0)):=px
theorem aoJ:ah Tryz.prog w0 6 [] (.v (.bool true)):=px
end
end
namespace OverlapRules
open Go.ChangeShapes Go.WideShapes Go.ChangeAt Go.RowKit
open Go.ChangeMaps (open_string shut_string)
set_option maxRecDepth 100000 in
theorem Zv (H:Type) (enc:TypeId × Value->H) (W:World) (base:Nat) (args:Array Value) (ds d:List (DataW H)) (before:List MemPlace)
  (a:∀(j:Nat) t v,Tryz.f3.params[j]?=some t->args[j]?=some v->Value.okWide Tryz.prog W .any base t v)
  (f:DataW.Whole enc Tryz.prog Tryz.f3.params.toList Rows.overlapRulesSpec.vars false W args.toList ds d before) (i:Rows.uptoBulkAll (ds++d)<=1048576) :
  Calls Tryz.prog 3 args W λe g=>∃v,e=.returned v/\Rows.overlapRulesSpec.post enc Tryz.prog Tryz.f3 false true false false W args v g:=by
 have b:=f;obtain⟨p,q,c,k,rfl,F,G⟩:=f;obtain⟨rfl,rfl⟩:=trodVars_none k;have I:=c;rw[Tryz.params3]at c a;obtain⟨v0,l,d0,m,p0,J,K,rfl,rfl,n,r0⟩:=trodAll_cons c;obtain⟨v1,L,d1,o,M,q1,rfl,rfl,rfl,r,s⟩:=trodAll_cons r0;obtain⟨h,N,d2,u,O,P,rfl,rfl,rfl,w,x⟩:=trodAll_cons s;obtain⟨rfl,rfl,rfl⟩:=trodAll_nil x;obtain rfl:args=#[v0,v1,h]:=by cases args;simp_all
 simp only[aR_,aK_,Rows.uptoBulkAll]at i;obtain⟨x0,w0,e0⟩:=aek (a 0 25 v0 rfl rfl) n;obtain⟨y,z⟩:=Qb r (a 1 3 v1 rfl rfl);obtain⟨A,B⟩:=Qb w (a 2 3 h rfl rfl);have k0:=ag5 (p:=x0) (by omega);refine ((Jj (w0:=W) x0 y A k0.1 k0.2 aoJ).calls (akj e0 z B)).mono λe g ⟨C,D⟩=>?_;subst C;exact⟨_,rfl,Zf laidOut (by rw[Tryz.params3];simp only[ad_,as_,or_false];intro t E;rcases E with rfl|rfl|rfl<;>exact⟨by kernel_rfl,by decide +kernel⟩) rfl rfl Tryz.underlying4 rfl b D⟩
theorem Zw (os:Os):laidMet Tryz.prog Rows.overlapRulesUptoRow.laid ((DZ os).forCall (λ_ _=>0) ⟨#[],#[.agg #[.slice none 0 0,.slice none 0 0],.int .i64 0,.int .i64 0],[]⟩).memory :=
 laidMet_of_run' 8 (by kernel_rfl) (by kernel_rfl)
theorem reads (os:Os) {H:Type}(enc:TypeId × Value->H):∃a,DataW.whole enc Tryz.prog ((DZ os).forCall (λ_ _=>0) ⟨#[],#[.agg #[.slice none 0 0,.slice none 0 0],.int .i64 0,.int .i64 0],[]⟩).memory Tryz.f3.params.toList Rows.overlapRulesSpec.vars false ((#[.agg #[.slice none 0 0,.slice none 0 0],.int .i64 0,.int .i64 0]:Array Value)).toList 8=some ([.agg [.nil,.nil],.lit (.int .i64 0),.lit (.int .i64 0)],[],a) :=
 ⟨[],by kernel_rfl⟩
set_option maxRecDepth 100000 in
theorem lifted (os:Os) (started:os.Started) (H:Type) (enc:TypeId × Value->H) (F:Stop.Interp) :
  ReturnsInHanded {} Tryz.checked os 3 .any ((Rows.OpenSpec.upto Rows.overlapRulesSpec).preRow enc Tryz.prog Tryz.f3 Rows.overlapRulesUptoRow.domain false Rows.overlapRulesUptoRow.laid) (((Rows.OpenSpec.upto Rows.overlapRulesSpec).at F).post enc Tryz.prog Tryz.f3 false true false false):=by
 obtain⟨g,b⟩:=reads os enc
 refine returnsInHanded_of_row (C:=Tryz.checked) (s:=Rows.OpenSpec.upto Rows.overlapRulesSpec) own started (by kernel_rfl) Tryz.func3
  (witness_row_at (enc:=enc) (C:=Tryz.checked) false (DZ os) #[.agg #[.slice none 0 0,.slice none 0 0],.int .i64 0,.int .i64 0] rfl (by kernel_rfl) (by kernel_rfl) (by kernel_rfl)
   (OpenSpec.preRow_of_cond 8 b (by kernel_rfl) (λk a=>by obtain rfl:=oJ_ a;kernel_rfl) (by kernel_rfl) (Zw os))) ?_
 intro W base args c d before e f _ a _ _ _ _;exact Zv H enc W base args c d before e f (of_decide_eq_true (a _ rfl))
set_option maxRecDepth 100000 in
theorem closed:joinedFacts Tryz.prog 3 Tryz.f3 (Rows.OpenSpec.upto Rows.overlapRulesSpec).bare Rows.overlapRulesUptoRow=true:=by
 unfold joinedFacts;exact fF (fF (fF (fF (fF (fF (fF (fF (fF (fF (fF (fF (fF (fF (fF (fF (fF (fF (fF (fF (fF (fF (fF (fF (fF (fF (fF (fF (fF (fF (fF k0 laidOut) Pv) k3) k4) k5) k6) k7) k8) k9) k10) k11) k12) k13) k14) k15) k16) k17) k18) k19) k20) k21) k22) k23) acR) acS) k26) k27) k28) k29) k30) k31
theorem said:Rows.OverlapRulesUptoSaid :=
 OpenClaim.holds_of_cond 3 Tryz.f3 rfl rfl rfl rfl rfl rfl rfl ⟨rfl,rfl,rfl,rfl,rfl⟩ rfl rfl rfl rfl rfl (by kernel_rfl) Tryz.func3 closed
  (of_decide_eq_true (by kernel_rfl)) (by unfold Func.isWrapper;first|(rw[if_pos (by decide +kernel)];kernel_rfl)|(rw[if_neg (by decide +kernel)];exact⟨rfl,rfl⟩))
  (λos started H a _ F=>by rw[OpenClaim.pre_eq_preRow];exact lifted os started H a F)
end OverlapRules
end Go.Proofs.YtbpabjmnhggajaaGreat
