import Derived.Laws.Cover3
import Derived.RecoverIn
import Derived.TacticsIn
import Derived.TacticsInMore
import Derived.Test.YtbdcmpknicjopaaGreatTp15
namespace Go.Proofs.YtbdcmpknicjopaaGreat
set_option linter.all false
set_option maxRecDepth 100000
open Go.RowKit Proofs.Tryz
variable{E e:Int}{K:List gw}{O:Hd}{P:Program}{Q:Exit->AA->ah->Prop}{S S':ah}{U:AA}{Y:World}{b:Bool}{d:Option Nat}{ex:Exit}{jQ:List QO}{l:List QI}{n:Nat}{qs:List QR}{r:AV}{x:QO}
variable{args:List AV}
section
attribute [local irreducible] ao aF D H
def an4:=aC func179 call179
def abb:List Nat:=[1,2,0]
def an5:=aC func180 call180
def abc:List Nat:=[1,2,0]
def asC:=aC func50 call50
def g50:List Nat:=[3,1,2,0]
def an6:=aC func247 call247
def wc:List Nat:=[5,4,3,2,0,1,11]
def an7:=aC func181 call181
def mL:List Nat:=[5,3,7,1,4,6,2,0,13,28]
theorem Hw(r:Rl)(h:r.aQ.length+r.rem.length<=549755813888):ab Y 179 [rl O r] (fI O (r.aQ++r.rem)):=by let⟨n,a,c,g,b,v⟩:=r;dsimp only at h⊢;let⟨R,d⟩:=aq (a++c);rw[<-d];refine st an4 abb (cQ _) ?_;refine H.adV (f:=atR O) (ys:=a) rfl rfl rfl (λ_=>rfl) Z λl len m i=>?_;refine I abb ?_;refine H.VA (f:=atR O) (ys:=c) rfl rfl rfl i (λ_=>rfl) rfl (λ_=>rfl) (λ_=>rfl) X λj o p k=>?_;refine I abb ?_;refine fq ?_;cases(X:j=R);exact aI.grow rfl k
theorem LH(r:Rl)(h:r.guard.length+r.body.length<=549755813888):ab Y 180 [rl O r] (er O (r.guard++r.body)):=by let⟨n,j,k,g,b,v⟩:=r;dsimp only at h⊢;let⟨R,a⟩:=aq (g++b);rw[<-a];refine st an5 abc (a7 _) ?_;refine H.adV (f:=MG O) (ys:=g) rfl rfl rfl (λ_=>rfl) Z λl len m d=>?_;refine I abc ?_;refine H.VA (f:=MG O) (ys:=b) rfl rfl rfl d (λ_=>rfl) rfl (λ_=>rfl) (λ_=>rfl) X λe o p i=>?_;refine I abc ?_;refine fq ?_;cases(X:e=R);exact aI.grow rfl i
theorem FA(r:Rl)(h:r.aQ.length+r.rem.length<=549755813888):ab Y 50 [rl O r] (fI O (r.aQ++r.rem)):=by let⟨n,a,c,g,b,v⟩:=r;dsimp only at h⊢;let⟨R,d⟩:=aq (a++c);rw[<-d];refine st asC g50 (cQ _) ?_;refine H.rP (f:=atR O) (ys:=a) rfl rfl rfl (λ_=>rfl) Z λl len m i=>?_;refine I g50 ?_;refine H.xI (f:=atR O) (ys:=c) rfl rfl rfl i (λ_=>rfl) rfl (λ_=>rfl) (λ_=>rfl) X λj o p k=>?_;refine I g50 ?_;refine fq ?_;cases(X:j=R);exact aI.grow rfl k
def asD:=aC func90 call90
def g90:List Nat:=[0,5,1]
def VE(e:Int):Value:=.iface 212 (.agg #[.int .i64 e])
def rS(e:Int):List PanicEntry:=[{v:=VE e,recovered:=false }]
theorem aiT(b:Bool)(e:Int):Oc prog Y 90 [.v (.bool b),iv e] b (.aL []) (rS e):=by refine qg.ad1 asD.2 (by simp[ntmps90]) (.aL λa c=>X) ?_;cases b;refine I g90 ?_;refine og g90 (D.PG rfl (by kernel_rfl)) ?_;refine H.Ie rfl (zC.Ie rfl) ?_;refine I g90 ?_;exact H.aiU rfl ⟨rfl,rfl⟩;refine I g90 ?_;exact H.aiV rfl (by conv=>lhs;cbv) ⟨rfl,aI.of_eq rfl⟩
def Du(Y:World)(f:FuncId)(args:List AV)(E:Int):Prop:=Oc prog Y f args (decide (E=0)) (.aL []) (rS E)
section
variable{rd:Bool}
theorem Od{f:FuncId}{q:QC×List QR}(F:qg prog f q n)(b:args.length<=n)(h:H prog Y false n (FB q.2 (λc S=>decide (E=0)=true/\aI S c (.aL [])) λd S=>decide (E=0)=false/\d=rS E) (.run q.1 []) ⟨pO args,[]⟩ ah.none_):Du Y f args E :=qg.ad1 F b (.aL λa e=>X) h
def I7(a:Oe ex=true)(h:LI qs ex U S=some (.aL [],S'))(k:E=0):H prog Y rd n (FB qs (λb S=>decide (E=0)=true/\aI S b (.aL [])) λc S=>decide (E=0)=false/\c=rS E) (.out ex []) U S :=H.aiV a h ⟨decide_eq_true k,.refl _⟩
theorem sK(a:U.df=[])(d:decide (e=0)=false)(k:E=e):H prog Y rd n (FB qs (λb S=>decide (E=0)=true/\aI S b (.aL [])) λc S=>decide (E=0)=false/\c=rS E) (.out (.panic (rS e)) []) U S :=H.aiU a ⟨X,by rw[k]⟩
theorem H.uY{gd:Option (Nat×Bool)}{f:QO}(c:bC U.tm gd=some true)(h:fk (f.ev U.tm) (jQ.map (·.ev U.tm))=some (90,[.v (.bool b),.v (.int .i64 e)]))(g:b=true->H prog Y rd n Q (.bj false l K) (bU d U (.aL [])) S)(i:b=false->H prog Y rd n Q (.out (.panic (rS e)) K) U S):H prog Y rd n Q (.bj false (⟨d,gd,.call f jQ⟩::l) K) U S :=H.ad2 c h (aiT b e) ⟨.v,.v,trivial⟩ (.aL λa j=>X) (iP.refl _ _) g i
theorem H.uZ{gd:Option (Nat×Bool)}{f:QO}{g:FuncId}(b:bC U.tm gd=some true)(h:fk (f.ev U.tm) (jQ.map (·.ev U.tm))=some (g,args))(c:Du Y g args E)(e:ja args)(i:E=0->H prog Y rd n Q (.bj false l K) (bU d U (.aL [])) S)(j:¬E=0->H prog Y rd n Q (.out (.panic (rS E)) K) U S):H prog Y rd n Q (.bj false (⟨d,gd,.call f jQ⟩::l) K) U S :=H.ad2 b h c e (.aL λa k=>X) (iP.refl _ _) (λh=>i (of_decide_eq_true h)) λh=>j (of_decide_eq_false h)
end
def an8:=aC func162 call162
def aiW:List Nat:=[0,2]
def an9:=aC func228 call228
def aiX:List Nat:=[3,0,2,1]
def an_:=aC func160 call160
def VF:List Nat:=[0,4,1,6,2]
def aoa:=aC func161 call161
def xK:List Nat:=[8,5,1,7,9,6,14,0]
def nr(o:Int):Bool:=decide (5<=o)&&decide (o<=12)
def named(n:ByteArray)(d:Dc):Bool:=d.n.toList==n.toList
def rT(ds:List Dc)(n:ByteArray)(a:Int):Int:=if ds.any (named n) then if i_ ds n a then 0 else 9 else 7
def uZ(ds:List Dc)(g:Gl):Int:=if g.op=0 then rT ds g.n g.a.length else 0
def bw(e k:Int):Int:=if e=0 then k else e
theorem bX{k:Int}(h:e=0):bw e k=k:=by rw[bw,if_pos h]
theorem eB{k:Int}(h:¬e=0):bw e k=e:=by rw[bw,if_neg h]
def lO(ds:List Dc):List Gl->Int|[]=>0|g::l=>bw (uZ ds g) (lO ds l)
theorem X9(o:Int):ab Y 162 [iv o] (.v (.bool (nr o))):=by
 refine st an8 aiW .v ?_;repeat' first|refine cg aiW (λa=>?_) λa=>?_|refine fq ?_
 all_goals subst_vars;refine aK ?_;rw[nr,bH_];simp;omega
theorem agb(d:Dc)(n:ByteArray):ab Y 228 [dc d,.ip [.v (.string n)]] (.v (.bool (named n d))):=by
 let⟨dn,b⟩:=d;refine st an9 aiX .v ?_;repeat' first|refine cg aiX (λa=>?_) λa=>?_|refine fq ?_
 all_goals subst_vars;refine aK ?_;unfold named;simp_all
theorem TT(ds:List Dc)(n:ByteArray)(a:Int)(g:ds.length<=1099511627776):Du Y 160 [g7 O ds,.v (.string n),iv a] (rT ds n a):=by
 have h:Pure (.fn (.func 228) [] [.ip [.v (.string n)]]):=.fn (λa d=>by cases d) λa d=>by cases ar_.1 d;exact .ip λb c=>by cases ar_.1 c;exact .v
 have i:=aik (Y:=Y) (O:=O) (named n) ds _ [] _ g h λx _=>⟨_,_,rfl,⟨Lu x,.ip λb c=>by cases ar_.1 c;exact .v,trivial⟩,agb x n⟩;have j:=Di (Y:=Y) (O:=O) ds n a g;unfold rT;let⟨l,e⟩:=aq (ds.any (named n));let⟨m,f⟩:=aq (i_ ds n a);rw[<-e]at i;rw[<-f]at j;rw[<-e,<-f];clear e f;refine Od an_.2 (by simp[ntmps160]) ?_;refine I VF ?_;repeat' first|refine og VF (D.tt rfl i ⟨eL _,h,trivial⟩ .v ⟨.refl _,aI.fns trivial ⟨aI.box (cs:=[.v (.string n)]) (cs':=[.v (.string n)]) rfl ⟨.refl _,trivial⟩,trivial⟩,trivial⟩) ?_|refine og VF (D.bO rfl j ⟨eL _,.v,.v,trivial⟩) ?_|refine H.uY rfl rfl (λc=>?_) λc=>?_<;>(try simp only[bW]at c)<;>(first|refine I VF ?_)|refine I7 rfl (by conv=>lhs;cbv) ?_|refine sK rfl (by first|rfl) ?_
 all_goals subst_vars;simp
theorem TU(ds:List Dc)(l:List Gl)(u:ds.length<=1099511627776)(F:l.length<=1099511627776)(v:∀g∈l,g.a.length<=1099511627776):Du Y 161 [g7 O ds,er O l] (lO ds l):=by
 let⟨R,d⟩:=aq (lO ds l);rw[<-d];refine Od aoa.2 (by simp[ntmps161]) ?_;refine I xK ?_;repeat' first|refine lg xK λm p=>?_
 refine bD 0 0 [] (λi=>[(0,g7 O ds),(6,er O l),(7,.v (.int .i64 m)),(8,.v (.int .i64 i))]) [] (λ_=>[]) l.length (λk=>R=lO ds (l.drop k)) (by simpa using d) λi k w G b=>?_;clear d;refine I xK ?_;by_cases y:k<l.length
 ·let⟨x,r,z⟩:=aA y;rw[z,lO]at b;have A:=v x (as_ r);let⟨o,n,a⟩:=x;dsimp only at A;have f:=TT (Y:=Y) (O:=O) ds n a.length u;have c:uZ ds ⟨o,n,a⟩=if o=0 then rT ds n a.length else 0:=rfl;let⟨h,s⟩:=aq (rT ds n a.length);rw[<-s]at c f;let⟨C,t⟩:=aq (uZ ds ⟨o,n,a⟩);rw[<-t]at c b;let⟨q,B⟩:∃q:Int,q=a.length:=⟨_,rfl⟩;rw[<-B]at f;clear s t;repeat' first|refine og xK (D.bh w r) ?_|refine H.int rfl (D.len rfl) λm p=>?_;rw[az]at p;cases(Z:m=q);refine I xK ?_|refine H.uZ rfl rfl f (by repeat' first|exact trivial|refine⟨?_,?_⟩;first|exact .v|exact eL _) (λE=>?_) λE=>?_<;>refine I xK ?_|refine H.Dk ?_;refine I xK ?_|refine I7 rfl (by conv=>lhs;cbv) ?_|refine sK rfl (by first|exact decide_eq_false (by assumption)) ?_|refine cg xK (λj=>?_) λj=>?_|refine ag xK λ_ _=>?_|refine xG xK ?_
  all_goals first
   |omega
   |(have e:C=0:=by rw[c];simp_all
     rw[bX e]at b;exact cB _ [] (k+1) b)
   |(have e:C=h:=by rw[c];simp_all
     rw[eB Z]at b;rw[b,e])
 ·skip;repeat' first|refine I7 rfl (by conv=>lhs;cbv) ?_|refine cg xK (λj=>?_) λj=>?_|refine xG xK ?_
  all_goals first|omega|rw[b,aq_ Z];rfl
def asE:=aC func58 call58
def jm:List Nat:=[5,0,17,58,66,4,3,2,16,18,15,50,57,59,56,7,65,67,64,9,11,76]
def fU(_:Unit):AV:=.agg []
theorem tI{B:Nat}{O:Hd}{kv:List (Int×Unit)}:kp B (.mp (O.h (dT fU) kv)):=by rw[O.eq];intro e b;obtain⟨p,_,rfl⟩:=aD_.1 b;exact .agg λa c=>by cases c
def Dv(kv:List (Int×Unit))(v:Int):Bool:=(aH kv v).isSome
theorem PH(kv:List (Int×Unit))(i v:Int):Dv (gU kv i ()) v=(Dv kv v||i==v):=by unfold Dv;rw[c9];by_cases h:i=v;rw[if_pos h];simp[h];rw[if_neg h];simp[h]
theorem Yb(b:List Bd)(hl:b.length<=1099511627776)(T:∀x∈b,x.ok):ab Y 58 [a8 O b] (.v (.bool (m7 b))):=by
 let⟨R,g⟩:=aq (m7 b);rw[<-g];unfold m7 at g;let⟨AP,B⟩:=aq (uT b);rw[<-B]at g;refine st asE jm .v ?_;refine H.int rfl (D.len rfl) λm C=>?_;rw[az]at C;refine I jm ?_;refine H.PI O fU rfl rfl λAH W=>?_;refine I jm ?_;refine H.int rfl (D.len rfl) λm1 dg=>?_;rw[az]at dg;refine I jm ?_;refine H.g5 (σ:=Int×List (Int×Unit)) 1 1 [] (λp=>[(0,a8 O b),(3,.mp 0),(15,a8 O b),(16,.v (.int .i64 m1)),(17,.v (.int .i64 p.1))]) [] (λp=>[(0,.mp (O.h (dT fU) p.2))]) (λp=>∃(k:Nat) (E:Option Bd),p.1=k/\k<=b.length/\R=(kW LG Pz E (b.drop k)&&AP)/\B5 b k E/\∀v,Dv p.2 v=j8 (b.take k) v) (λp=>b.length-p.1.toNat) (0,AH) ⟨0,none,rfl,aB,by simpa using g,.inl ⟨rfl,rfl⟩,λv=>by rw[W];rfl⟩ rfl (by exact⟨sq,rfl,⟨.inl ⟨_,rfl,.same tI⟩,trivial⟩,rfl,rfl,rfl⟩) ?_;rintro⟨i,h⟩ ⟨k,E,F,eT,a,qM,n⟩;simp only at F n;clear g;refine I jm ?_;by_cases au:k<b.length
 ·let⟨x,e,G⟩:=aA au;let⟨J,K⟩:=T x (aZ e);have L:∀v,(j8 (b.take k) v||x.v==v)=j8 (b.take (k+1)) v:=λv=>by unfold j8;rw[cb_,e];simp
  rw[G,jT]at a;have f:=Tw (Y:=Y) (O:=O) x.t J;let⟨d,o,r,s,w⟩:=x;dsimp only at f L;rw[LG]at a;dsimp only at a;let⟨V,PC⟩:=aq (cI ⟨o,r,s,w⟩);rw[<-PC]at f a;rcases qM with⟨rfl,rfl⟩|⟨⟨yv,yk,yi,yn,ya⟩,hkp,hy,rfl⟩
  ·simp only[Ay,bG_]at a;repeat' first|refine og jm (D.bh F e) ?_|refine bg jm (D.bO rfl f ⟨bH (O:=O) ⟨o,r,s,w⟩,trivial⟩) (λ_=>?_) λ_=>?_|refine H.oW (v:=()) rfl rfl rfl rfl rfl λM N=>?_;refine I jm ?_|refine cg jm (λc=>?_) λc=>?_|refine lg jm λm C=>?_|refine ag jm λ_ _=>?_|refine xG jm ?_|refine rG jm ?_|refine fq ?_
   all_goals first|omega|refine aK ?_;rw[a,decide_eq_false (show¬0<=d by omega)];rfl|refine aK ?_;rw[a,decide_eq_false (show¬d<=1048576 by omega)];simp;done|refine aK ?_;rw[a,show V=false by assumption];simp;done|refine H.bK (_,M) [] ?_ ?_ (by exact⟨sq,rfl,⟨.inl ⟨_,rfl,.same tI⟩,trivial⟩,rfl,rfl,rfl⟩);refine⟨0+1,some _,by simp only;omega,Z,?_,jU e,λv=>by simp only;rw[N,PH,n,L]⟩;rw[a,show V=true by assumption,decide_eq_true (show 0<=d by omega),decide_eq_true (show d<=1048576 by omega)];rfl;simp only;omega
  ·simp only[Ay,Pz]at a;repeat' first|refine og jm (D.bh F e) ?_|refine og jm (D.ind rfl rfl (fm (l:=b) (k:=k-1) Z hy) (ec λ_=>rfl)) ?_|refine bg jm (D.bO rfl f ⟨bH (O:=O) ⟨o,r,s,w⟩,trivial⟩) (λ_=>?_) λ_=>?_|refine H.oW (v:=()) rfl rfl rfl rfl rfl λM N=>?_;refine I jm ?_|refine cg jm (λc=>?_) λc=>?_|refine lg jm λm C=>?_|refine ag jm λ_ _=>?_|refine xG jm ?_|refine rG jm ?_|refine fq ?_
   all_goals first|omega|refine aK ?_;rw[a,decide_eq_false (show¬0<=d by omega)];rfl|refine aK ?_;rw[a,decide_eq_false (show¬d<=1048576 by omega)];simp;done|refine aK ?_;rw[a,decide_eq_false (show¬yv<d by omega)];simp;done|refine aK ?_;rw[a,show V=false by assumption];simp;done|refine H.bK (_,M) [] ?_ ?_ (by exact⟨sq,rfl,⟨.inl ⟨_,rfl,.same tI⟩,trivial⟩,rfl,rfl,rfl⟩);refine⟨k+1,some _,by simp only;omega,Z,?_,jU e,λv=>by simp only;rw[N,PH,n,L]⟩;rw[a,show V=true by assumption,decide_eq_true (show 0<=d by omega),decide_eq_true (show d<=1048576 by omega),decide_eq_true (show yv<d by omega)];rfl;simp only;omega
 rw[aq_ Z,rN,az_,B,uT]at a;have Ca:∀v,Dv h v=j8 b v:=λv=>by rw[n,aX_ Z]
 clear B n W;repeat' first|refine H.int rfl (D.len rfl) λm2 iL=>?_;rw[az]at iL;refine I jm ?_|refine cg jm (λc=>?_) λc=>?_|refine xG jm ?_
 all_goals first|omega|skip
 refine bD 1 1 [] (λj=>[(3,.mp 0),(56,a8 O b),(57,.v (.int .i64 m2)),(58,.v (.int .i64 j))]) [] (λ_=>[(0,.mp (O.h (dT fU) h))]) b.length (λq=>R=(b.drop q).all λx=>(varsOf [x.t]).all λv=>!j8 b v) (by simpa using a) (hC:=by exact⟨sq,rfl,⟨.inl ⟨_,rfl,.same tI⟩,trivial⟩,rfl,rfl,rfl⟩) λj q hj hq y=>?_;clear a;refine I jm ?_;by_cases j9:q<b.length
 ·let⟨x,e,G⟩:=aA j9;let⟨J,K⟩:=T x (aZ e);rw[G,aJ_]at y;have Q:(aX [x.t]).length<=1099511627776:=by rw[aX,aX,aI_];exact aA_ (pL _) K
  have f:=XT (Y:=Y) (O:=O) x.t J (by first|exact aA_ (pL _) K);have wW:(varsOf [x.t]).length<=1099511627776:=aA_ (lL _ _) Q;let⟨A,mS⟩:=aq (varsOf [x.t]);rw[<-mS]at y f wW;let⟨d,o,r,s,w⟩:=x;repeat' first|refine og jm (D.bh hj e) ?_|refine og jm (D.bO rfl f ⟨bH (O:=O) ⟨o,r,s,w⟩,trivial⟩) ?_|refine H.int rfl (D.len rfl) λm3 Ii=>?_;rw[az]at Ii;refine I jm ?_|refine cg jm (λc=>?_) λc=>?_|refine xG jm ?_|refine fq ?_
  all_goals first|omega|skip
  refine bD 2 2 [] (λt=>[(3,.mp 0),(56,a8 O b),(57,.v (.int .i64 m2)),(58,.v (.int .i64 j)),(64,aY O aV false A),(65,.v (.int .i64 m3)),(66,.v (.int .i64 t))]) [] (λ_=>[(0,.mp (O.h (dT fU) h))]) A.length (λk=>R=(((A.drop k).all λv=>!j8 b v)&&(b.drop (q+1)).all λx=>(varsOf [x.t]).all λv=>!j8 b v)) (by simpa using y) (hC:=by exact⟨sq,rfl,⟨.inl ⟨_,rfl,.same tI⟩,trivial⟩,rfl,rfl,rfl⟩) λt k ht hk z=>?_;clear y;refine I jm ?_;by_cases sL:k<A.length
  ·let⟨v,hv,TP⟩:=aA sL;rw[TP,aJ_,<-Ca v]at z;repeat' first|refine og jm (D.bh ht hv) ?_|refine H.look rfl rfl rfl rfl (λu S=>?_) λS=>?_<;>refine I jm ?_|refine cg jm (λc=>?_) λc=>?_|refine ag jm λ_ _=>?_|refine xG jm ?_|refine rG jm ?_|refine fq ?_
   all_goals first|omega|refine aK ?_;rw[z,show Dv h v=true by rw[Dv,S];rfl];rfl|exact cB _ [] (k+1) (by rw[z,show Dv h v=false by rw[Dv,S];rfl];rfl) (hC:=by exact⟨sq,rfl,⟨.inl ⟨_,rfl,.same tI⟩,trivial⟩,rfl,rfl,rfl⟩)
  ·rw[aq_ Z,bl_,az_]at z;repeat' first|refine cg jm (λc=>?_) λc=>?_|refine ag jm λ_ _=>?_|refine xG jm ?_
   all_goals first|omega|exact cB _ [] (q+1) z (hC:=by exact⟨sq,rfl,⟨.inl ⟨_,rfl,.same tI⟩,trivial⟩,rfl,rfl,rfl⟩)
 ·skip;repeat' first|refine cg jm (λc=>?_) λc=>?_|refine xG jm ?_|refine fq ?_
  all_goals first|omega|rw[y,aq_ Z];exact aK rfl
def aob:=aC func195 call195
def fM:List Nat:=[11,1,0,5,8,4,10,12,9,19,6,7,28,35]
def aoc:=aC func124 call124
def LL:List Nat:=[2,3,5,4,0,1,21]
def aod:=aC func151 call151
def fN:List Nat:=[6,2,3,5,4,0,1,13,36]
def aoe:=aC func123 call123
def we:List Nat:=[1,28,4,2,0,24,27,29,26,3,42]
def aof:=aC func185 call185
def asF:=aC func59 call59
def uj:List Nat:=[0,3,9,2,6,8,10,34]
def aog:=aC func112 call112
def Dw:List Int->List Int->Int|x::a,y::b=>fZ (jz x y) (Dw a b)|_,_=>0
theorem TV:∀{a b:List Int},a.length=b.length->tr a b=Dw a b|[],[],_=>rfl|[],_::_,h=>X|_::_,[],h=>X|x::a,y::b,h=>by rw[tr,Dw,TV X]
theorem agc{a b:Int}(h:a≠b):jz a b≠0:=λe=>h (FC e)
theorem abd{a b:Int}(h:¬a=0):fZ a b=a:=if_neg h
theorem agd(x y:Fi):oY x y=fZ (fZ (jz x.tG y.tG) (jz x.ids.length y.ids.length)) (Dw x.ids y.ids):=by grind[oY,jz,TV,fZ,agc]
theorem age(a b:List Int)(r:a.length<=1099511627776)(s:b.length<=1099511627776):ab Y 195 [aY O aV false a,aY O aV false b] (iv (tr a b)):=by
 let⟨R,g⟩:=aq (tr a b);rw[<-g];refine st aob fM .v ?_;repeat' first|refine bq (λc=>?_) λc=>?_<;>(try simp only[bW]at c)<;>(first|exact dy c|refine I fM ?_)|refine cr λm e=>?_;(try rw[az]at e);refine I fM ?_|refine cK λ_ _=>?_;refine I fM ?_|refine im λ_ _=>?_;refine I fM ?_|refine H.str rfl (D.cat rfl rfl (by assumption)) λ_ _=>?_;refine I fM ?_|refine xG fM ?_|refine rG fM ?_|refine fq ?_
 refine bD 0 0 [] (λi=>[(0,aY O aV false a),(1,aY O aV false b),(9,aY O aV false a),(10,.v (.int .i64 m)),(11,.v (.int .i64 i))]) [] (λ_=>[]) a.length (λk=>k<=b.length/\R=tr (a.drop k) (b.drop k)) (by simpa using g) λi k h t d=>?_;clear g;refine I fM ?_;by_cases p:k<a.length
 ·let⟨q,d⟩:=d;let⟨x,l,n⟩:=aA p;by_cases f:k<b.length
  ·let⟨y,o,j⟩:=aA f;rw[n,j,tr,fZ]at d;repeat' first|refine H.op rfl (D.bh h l) ?_;refine I fM ?_|refine H.op rfl (D.bh h o) ?_;refine I fM ?_|refine H.int rfl (D.bO rfl (PK _ _) ⟨.v,.v,trivial⟩) λ_ _=>?_;refine I fM ?_|refine bq (λc=>?_) λc=>?_<;>(try simp only[bW]at c)<;>(first|exact dy c|refine I fM ?_)|refine cr λm e=>?_;(try rw[az]at e);refine I fM ?_|refine cK λ_ _=>?_;refine I fM ?_|refine im λ_ _=>?_;refine I fM ?_|refine H.str rfl (D.cat rfl rfl (by assumption)) λ_ _=>?_;refine I fM ?_|refine xG fM ?_|refine rG fM ?_|refine fq ?_
   all_goals first|omega|subst_vars;rw[if_neg X];exact dx rfl|subst_vars;rw[if_pos X]at*;exact cB _ [] (k+1) (by first|exact⟨Z,rfl⟩|exact⟨Z,by assumption⟩)
  ·rw[n,show b.drop k=[] from aq_ Z,tr]at d;repeat' first|refine H.op rfl (D.bh h l) ?_;refine I fM ?_|refine bq (λc=>?_) λc=>?_<;>(try simp only[bW]at c)<;>(first|exact dy c|refine I fM ?_)|refine cr λm e=>?_;(try rw[az]at e);refine I fM ?_|refine cK λ_ _=>?_;refine I fM ?_|refine im λ_ _=>?_;refine I fM ?_|refine H.str rfl (D.cat rfl rfl (by assumption)) λ_ _=>?_;refine I fM ?_|refine xG fM ?_|refine rG fM ?_|refine fq ?_
   all_goals first|omega|subst_vars;exact dx rfl
 ·let⟨q,d⟩:=d;rw[aq_ Z]at d;by_cases f:k<b.length
  ·let⟨y,o,j⟩:=aA f;rw[j,tr]at d;repeat' first|refine bq (λc=>?_) λc=>?_<;>(try simp only[bW]at c)<;>(first|exact dy c|refine I fM ?_)|refine cr λm e=>?_;(try rw[az]at e);refine I fM ?_|refine cK λ_ _=>?_;refine I fM ?_|refine im λ_ _=>?_;refine I fM ?_|refine H.str rfl (D.cat rfl rfl (by assumption)) λ_ _=>?_;refine I fM ?_|refine xG fM ?_|refine rG fM ?_|refine fq ?_
   all_goals first|omega|rw[d];exact dx rfl
  ·rw[aq_ Z,tr]at d;repeat' first|refine bq (λc=>?_) λc=>?_<;>(try simp only[bW]at c)<;>(first|exact dy c|refine I fM ?_)|refine cr λm e=>?_;(try rw[az]at e);refine I fM ?_|refine cK λ_ _=>?_;refine I fM ?_|refine im λ_ _=>?_;refine I fM ?_|refine H.str rfl (D.cat rfl rfl (by assumption)) λ_ _=>?_;refine I fM ?_|refine xG fM ?_|refine rG fM ?_|refine fq ?_
   all_goals first|omega|rw[d];exact dx rfl
theorem Yc(x y:Fi)(d:x.ids.length<=1099511627776)(e:y.ids.length<=1099511627776):ab Y 124 [fi O x,fi O y] (iv (oY x y)):=by
 let⟨g,b⟩:=x;let⟨h,c⟩:=y;dsimp only at d e;have f:=age (Y:=Y) (O:=O) b c d e;let⟨R,a⟩:=aq (oY ⟨g,b⟩ ⟨h,c⟩);rw[<-a];unfold oY at a;dsimp only at a;let⟨C,i⟩:=aq (tr b c);rw[<-i]at f a;refine st aoc LL .v ?_;repeat' first|refine ig LL (D.bO rfl (PK _ _) ⟨.v,.v,trivial⟩) λ_ _=>?_|refine ig LL (D.jF rfl (aoh _ _) ⟨bZ _,trivial⟩ ⟨Wk.sl,trivial⟩) λ_ _=>?_|refine og LL (D.bO rfl f ⟨bZ _,bZ _,trivial⟩) ?_|refine cg LL (λj=>?_) λj=>?_|refine lg LL λm k=>?_|refine fq ?_
 all_goals subst_vars;refine dx ?_;simp only[fZ,Cc]at*;(repeat' split)<;>first|rfl|simp_all;done 
theorem Ye(x y:Fi)(s:x.ids.length<=1099511627776)(t:y.ids.length<=1099511627776):ab Y 151 [fi O x,fi O y] (iv (oY x y)):=by
 have l:=agd x y;let⟨R,j⟩:=aq (oY x y);rw[<-j]at l⊢;clear j;let⟨n,f⟩:=x;let⟨o,g⟩:=y;dsimp only at s t l;refine st aod fN .v ?_;repeat' first|refine H.int rfl (D.bO rfl (Tx _ _) ⟨.v,.v,trivial⟩) λ_ _=>?_;refine I fN ?_|refine bq (λb=>?_) λb=>?_<;>(try simp only[bW]at b)<;>(first|exact dy b|refine I fN ?_)|refine cr λm d=>?_;(try rw[az]at d);refine I fN ?_|refine cK λ_ _=>?_;refine I fN ?_|refine im λ_ _=>?_;refine I fN ?_|refine H.str rfl (D.cat rfl rfl (by assumption)) λ_ _=>?_;refine I fN ?_|refine xG fN ?_|refine rG fN ?_|refine fq ?_
 all_goals
  rename_i r u;have j:R=fZ r (Dw f g):=by subst_vars;first|rw[show jz n o=0 by grind];rfl|rw[abd (a:=jz n o) X]
  clear l u;refine cC (τ:=Int) 2 2 [] (λp=>[(2,.pt 0 2 0 0),(3,.pt 1 2 0 0),(5,.v (.int .i64 p.2)),(6,.v (.int .i64 p.1))]) [] (λ_=>[(0,.arr 2 [H9 O ⟨n,f⟩] 0 true),(1,.arr 2 [H9 O ⟨o,g⟩] 0 true)]) f.length (λk p=>k<=g.length/\R=fZ p.2 (Dw (f.drop k) (g.drop k))) r ⟨aB,X⟩ ?_;rintro i k c q G⟨J,e⟩;simp only at q e;clear j;refine I fN ?_;by_cases v:k<f.length
  ·by_cases w:k<g.length
   ·let⟨x,z,A⟩:=aA v;let⟨y,B,C⟩:=aA w;rw[A,C,Dw]at e;by_cases E:c=0
    ·subst E;simp only[fZ,if_true]at e;repeat' first|refine H.op rfl (D.bh q z) ?_;refine I fN ?_|refine H.op rfl (D.bh q B) ?_;refine I fN ?_|refine H.int rfl (D.bO rfl (Tx _ _) ⟨.v,.v,trivial⟩) λ_ _=>?_;refine I fN ?_|refine bq (λb=>?_) λb=>?_<;>(try simp only[bW]at b)<;>(first|exact dy b|refine I fN ?_)|refine cr λm d=>?_;(try rw[az]at d);refine I fN ?_|refine cK λ_ _=>?_;refine I fN ?_|refine im λ_ _=>?_;refine I fN ?_|refine H.str rfl (D.cat rfl rfl (by assumption)) λ_ _=>?_;refine I fN ?_|refine xG fN ?_|refine rG fN ?_|refine fq ?_
     all_goals first|omega|refine H.bK (_,_) [] ?_ ?_ cz;exact⟨k+1,X,Z,Z,by subst_vars;rfl⟩;simp only;omega
    ·have h:R=c:=by grind[fZ]
     clear e;repeat' first|refine bq (λb=>?_) λb=>?_<;>(try simp only[bW]at b)<;>(first|exact dy b|refine I fN ?_)|refine cr λm d=>?_;(try rw[az]at d);refine I fN ?_|refine cK λ_ _=>?_;refine I fN ?_|refine im λ_ _=>?_;refine I fN ?_|refine H.str rfl (D.cat rfl rfl (by assumption)) λ_ _=>?_;refine I fN ?_|refine xG fN ?_|refine rG fN ?_|refine fq ?_
     all_goals first|omega|rw[h];exact dx rfl
   ·have h:R=c:=by grind[Dw,fZ]
    clear e;repeat' first|refine bq (λb=>?_) λb=>?_<;>(try simp only[bW]at b)<;>(first|exact dy b|refine I fN ?_)|refine cr λm d=>?_;(try rw[az]at d);refine I fN ?_|refine cK λ_ _=>?_;refine I fN ?_|refine im λ_ _=>?_;refine I fN ?_|refine H.str rfl (D.cat rfl rfl (by assumption)) λ_ _=>?_;refine I fN ?_|refine xG fN ?_|refine rG fN ?_|refine fq ?_
    all_goals first|omega|rw[h];exact dx rfl
  ·have h:R=c:=by grind[Dw,fZ]
   clear e;repeat' first|refine bq (λb=>?_) λb=>?_<;>(try simp only[bW]at b)<;>(first|exact dy b|refine I fN ?_)|refine cr λm d=>?_;(try rw[az]at d);refine I fN ?_|refine cK λ_ _=>?_;refine I fN ?_|refine im λ_ _=>?_;refine I fN ?_|refine H.str rfl (D.cat rfl rfl (by assumption)) λ_ _=>?_;refine I fN ?_|refine xG fN ?_|refine rG fN ?_|refine fq ?_
   all_goals first|omega|rw[h];exact dx rfl
end
section
def tJ:List Nat:=[1,3,2,0,23,28,48]
attribute [local irreducible] ao aF D H
def Fi.ok(f:Fi):Prop:=f.ids.length<=1099511627776
theorem Kc{r:Int}{l:List Int}(h:0<=r/\r<40/\1<=(l.length:Int)/\(l.length:Int)<=4):tH ⟨r,l⟩=uP [] l:=by grind[tH]
theorem I8{r:Int}{l:List Int}(h:r<0\/40<=r\/(l.length:Int)<1\/4<(l.length:Int)):tH ⟨r,l⟩=false:=by grind[tH]
theorem abf(f:Fi)(h:f.ok):ab Y 123 [fi O f] (.v (.bool (tH f))):=by
 let⟨r,l⟩:=f;have y:l.length<=1099511627776:=h;have c:=@Kc r l;have d:=@I8 r l;let⟨R,g⟩:=aq (tH ⟨r,l⟩);rw[<-g]at c d⊢;clear g;refine st aoe we .v ?_;repeat' first|refine cg we (λb=>?_) λb=>?_|refine lg we λm z=>?_|refine fq ?_
 all_goals first|exact aK (d Z).symm|skip
 have j:R=uP [] l:=c Z;clear c d;refine bD 1 1 [] (λi=>[(1,.pt 0 2 0 0),(26,aY O aV false l),(27,.v (.int .i64 m)),(28,.v (.int .i64 i))]) [] (λ_=>[(0,.arr 2 [H9 O ⟨r,l⟩] 0 true)]) l.length (λk=>R=uP (l.take k) (l.drop k)) X λi k n A a=>?_;clear j;refine I we ?_;by_cases o:k<l.length
 ·let⟨x,p,s⟩:=aA o;rw[s,uP]at a;have t:l.take k++[x]=l.take (k+1):=X;rw[t]at a;have e:=Pl (Y:=Y) (O:=O) (l.take k) x X;let⟨B,u⟩:=aq ((l.take k).contains x);rw[<-u]at e a;let⟨q,v⟩:=aq (l.take k);rw[<-v]at e;repeat' first|refine og we (D.bh n p) ?_|refine H.gen (aY O aV false) rfl (D.BC rfl rfl rfl (λ_=>rfl) aD Z Z) λw C=>?_;cases(X:w=q);refine I we ?_|refine bg we (pl e) (λ_=>?_) λ_=>?_|refine cg we (λb=>?_) λb=>?_|refine ag we λ_ _=>?_|refine xG we ?_|refine rG we ?_|refine fq ?_
  all_goals first|omega|refine aK ?_;rw[a,decide_eq_false (show¬1<=x by omega)];rfl|refine aK ?_;rw[a,show B=true by grind];simp;done|exact cB _ [] (k+1) X
 ·skip;repeat' first|refine cg we (λb=>?_) λb=>?_|refine xG we ?_|refine fq ?_
  all_goals first|omega|rw[a,aq_ Z,uP];exact aK rfl
theorem agf(f:Fi)(j:f.ok):ab Y 185 [fi O f] (.v (.bool (tH f))):=by
 let⟨r,l⟩:=f;have z:l.length<=1099511627776:=j;have c:=@Kc r l;have d:=@I8 r l;let⟨R,g⟩:=aq (tH ⟨r,l⟩);rw[<-g]at c d⊢;clear g;refine st aof tJ .v ?_;repeat' first|refine cg tJ (λb=>?_) λb=>?_|refine lg tJ λm h=>?_|refine fq ?_
 all_goals first|exact aK (d Z).symm|skip
 have n:R=uP [] l:=c Z;clear c d;refine bD 1 1 [] (λi=>[(1,.pt 0 2 0 0),(3,.v (.int .i64 i))]) [] (λ_=>[(0,.arr 2 [H9 O ⟨r,l⟩] 0 true)]) l.length (λk=>R=uP (l.take k) (l.drop k)) X λi k o A a=>?_;clear n;refine I tJ ?_;by_cases p:k<l.length
 ·let⟨x,s,t⟩:=aA p;rw[t,uP]at a;have u:l.take k++[x]=l.take (k+1):=X;rw[u]at a;have e:=ah7 (Y:=Y) (O:=O) (l.take k) x X;let⟨B,v⟩:=aq ((l.take k).contains x);rw[<-v]at e a;let⟨q,w⟩:=aq (l.take k);rw[<-w]at e;repeat' first|refine og tJ (D.bh o s) ?_|refine H.gen (aY O aV false) rfl (D.BC rfl rfl rfl (λ_=>rfl) aD Z Z) λy C=>?_;cases(X:y=q);refine I tJ ?_|refine bg tJ (pl e) (λ_=>?_) λ_=>?_|refine cg tJ (λb=>?_) λb=>?_|refine lg tJ λm h=>?_|refine ag tJ λ_ _=>?_|refine xG tJ ?_|refine rG tJ ?_|refine fq ?_
  all_goals first|omega|refine aK ?_;rw[a,decide_eq_false (show¬1<=x by omega)];rfl|refine aK ?_;rw[a,show B=true by grind];simp;done|exact cB _ [] (k+1) X
 ·skip;repeat' first|refine cg tJ (λb=>?_) λb=>?_|refine lg tJ λm h=>?_|refine xG tJ ?_|refine fq ?_
  all_goals first|omega|rw[a,aq_ Z,uP];exact aK rfl
end
theorem abg{v:Value}(h:lift v=.sl true []):v=.slice none 0 0:=by
 have a:∀v,b9 v=.sl true []->v=.slice none 0 0:=by grind[b9]
 cases v with|agg b=>cases h|_=>exact a _ h
theorem aiY{u:Operand}(h:.c (.sl true [])=qo u):u=.const (.slice none 0 0):=by cases u with|const v =>injection h with h;rw[abg h.symm]|_=>cases h
theorem TW{o:Op}{op:BinOp}(h:res P.toTables o=some (.bin op .s x (.c (.sl true [])))):∃t u s e,o=.binOp op t u (.const (.slice none 0 0)) s/\x=qo u/\P.underlying t=some (.slice e):=by cases o with|binOp a t u v s =>simp only[res,cM]at h;split at h;grind;rename_i e b;simp only[oI_,nV.bin.injEq]at h;obtain⟨rfl,_,rfl,c⟩:=h;rw[aiY c.symm];exact⟨_,_,_,_,rfl,rfl,b⟩;grind;grind;grind;grind|_ =>
  simp only[res]at h;repeat' split at h
  all_goals cases h
def FD:AV->Option Bool|.sl _ (_::_)=>some false|.ob ..=>some false|.gr _ _ (_+1)=>some false|.v (.slice A _ _)=>some A.isNone|_=>none
theorem abh{g:Gh}{w:World}{a:AV}{x:Value}(h:FD a=some b)(d:aO g w a x):∃A l c,x=.slice A l c/\A.isNone=b:=by
 unfold FD at h;split at h;cases d with|sl=>cases oJ_ h;exact⟨_,_,_,rfl,rfl⟩
 cases d with|ob=>cases oJ_ h;exact⟨_,_,_,rfl,rfl⟩
 cases d with|gr=>cases oJ_ h;exact⟨_,_,_,rfl,rfl⟩
 cases d with|v=>cases oJ_ h;exact⟨_,_,_,rfl,rfl⟩
 grind
def VG(op:BinOp)(b:Bool):Option Bool:=match op with|.eql=>some b|.neq=>some !b|_=>none
theorem TX{op:BinOp}{d:Bool}{n:Nat}{o:Oper}(k:res P.toTables o.op=some (.bin op .s x (.c (.sl true []))))(β:AA)(a:FD (x.ev β.tm)=some b)(m:VG op b=some d):jO P Y n o β S (.v (.bool d)) S:=by obtain⟨t,u,s,e,f,rfl,h⟩:=TW k;rw[aT]at a;refine a_.ops (a_.quiet λA g c w q p=>⟨.bool d,?_,.v⟩) λc e=>X;obtain⟨B,l,cc,i,rfl⟩:=abh a (p.ev u);have j:c.eval (.const (.slice none 0 0))=.slice none 0 0:=rfl;cases op<;>cases m;simp[execOp,f,i,eqGuard,j,binOp,run_equal_slice_nil w t e B l cc h];simp[execOp,f,i,eqGuard,j,binOp,run_equal_slice_nil w t e B l cc h]
theorem D.nil{dr:Bool}{op:BinOp}{d:Bool}(g:FD (x.ev U.tm)=some b)(c:VG op b=some d):D P Y dr (.bin op .s x (.c (.sl true []))) U S (.v (.bool d)) S:=by cases dr with|false=>exactλn o a=>TX a U g c|true =>intro n o a;let⟨t,u,s,e,h,i,_⟩:=TW a;have key:∀z∈o.op.operands,(U.only (dS o)).ev z=U.ev z:=λz j=>gI λt e=>gJ X;have k:(U.only (dS o)).ev u=U.ev u:=key u (by rw[h];simp[Op.operands]);have f:∀T,jO P Y n o (U.only (dS o)) T (.v (.bool d)) T:=λT=>TX a _ (by grind[aT]) c;exact⟨f S,λ_=>⟨rfl,f⟩,λ_=>rfl⟩
end Go.Proofs.YtbdcmpknicjopaaGreat
