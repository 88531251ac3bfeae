import Derived.Test.YtbpabjmnhggajaaGreatProg
import Derived.Test.YtbpabjmnhggajaaGreatOr21
namespace Go.Proofs.YtbpabjmnhggajaaGreat
set_option linter.all false
open Go.RowKit
variable {a z:AV}{tmps:Array Value}{dr ex ex':Bool}{R:Ending->World->Prop}{F:Fence}{f:FuncId}{m:Int}{kk:IntKind}{jM:List (Nat × AV)}{V:List (Nat × Nat)}{es:List (Value × AV)}{args:List AV}{ds:List DE}{rs:List Nat}{B N by_ sz:Nat}{A:Nat->Prop}{u v:Operand}{g gg:Option (Nat × Bool)}{d dd:Option Nat}{P:Program}{q:QC × List QR}{b i x:QO}{σ:Type}{t:TypeId}{p:Value × AV}{w:World}
section
set_option maxRecDepth 100000
mutual
def mT:Tm->Nat
 |⟨k,i,n,a⟩=>n.size+tw a+5
def tw:List Tm->Nat
 |[]=>0
 |x::l=>mT x+tw l
end
theorem lS:∀l,gF mT l=tw l
 |[]=>by rw[tw];rfl
 |x::l=>by rw[tw,gF,lS l]
def sJ (x:At):Nat:=x.n.size+tw x.a+3
def w9 (x:Gl):Nat:=x.n.size+tw x.a+4
def JG (x:Dc):Nat:=x.n.size+3
def BV (x:Rl):Nat:=x.n.size+gF sJ x.aM+gF sJ x.rem+gF w9 x.guard+gF w9 x.body+7
def Un (x:Pg):Nat:=gF JG x.ds+gF BV x.rs+3
theorem aih:∀n,dV Tryz.prog n 52 4 iN mT:=by
 intro n
 induction n with
 |zero=>intro H enc w sp held m g;omega
 |succ n l =>
  intro H enc w sp held m g z d A h;obtain⟨k,f,rfl,o,B,c⟩:=dV.fields Tryz.underlying52 h;have p:=o4 (xs:=f);rw[o]at p;obtain⟨x0,b0,_,q⟩:=dV.part (i:=0) (n:=k+1) (dV.int Tryz.underlying3) (by omega) (by kernel_rfl) (by omega) (c 0 3 0 rfl);obtain⟨r,C,_,s⟩:=dV.part (i:=1) (n:=k+1) (dV.int Tryz.underlying3) (by omega) (by kernel_rfl) (by omega) (c 1 3 1 rfl);obtain⟨t,D,_,u⟩:=dV.part (i:=2) (n:=k+1) (dV.str Tryz.underlying9) (by omega) (by kernel_rfl) (by omega) (c 2 9 2 rfl);obtain⟨x,E,_,y⟩:=dV.part (i:=3) (dV.slice Tryz.underlying50 (by kernel_rfl) (by decide) l) (by omega) (by kernel_rfl) (by omega) (c 3 50 3 rfl);refine⟨⟨x0,r,t,x⟩,?_,by rw[pM (ρ:=.plain)];rfl,λj a v b e=>?_⟩
  ·grind[mT,lS,pL]
  ·rw[pM (ρ:=.plain)]at b
   match j with
   |0=>exact q 0 a v b e
   |1=>exact s 0 a v b e
   |2=>exact u 0 a v b e
   |3=>exact y 0 a v b e
   |j+4=>cases b
theorem Z2 (n:Nat):dV Tryz.prog n 50 1 (λl=>[tl .plain l]) (λl=>tw l+1):=by
 have h:=(dV.slice Tryz.underlying50 (by kernel_rfl) (by decide) (aih n)).less (bL_ n);simp only[lS]at h;exact h
theorem aii (n:Nat):dV Tryz.prog n 56 2 (atR .plain) sJ:=by
 intro H enc w sp held m r s d t h;obtain⟨k,c,rfl,g,u,e⟩:=dV.fields Tryz.underlying56 h;have l:=o4 (xs:=c);rw[g]at l;obtain⟨x0,b0,_,o⟩:=dV.part (i:=0) (n:=k+1) (dV.str Tryz.underlying9) (by omega) (by kernel_rfl) (by omega) (e 0 9 0 rfl);obtain⟨p,x,_,q⟩:=dV.part (i:=1) (n:=k+1) (Z2 (k+1)) (by omega) (by kernel_rfl) (by omega) (e 1 50 1 rfl);refine⟨⟨x0,p⟩,?_,rfl,λj a v b f=>?_⟩
 ·grind[pL,sJ]
 ·match j with
  |0=>exact o 0 a v b f
  |1=>exact q 0 a v b f
  |j+2=>cases b
theorem Uo (n:Nat):dV Tryz.prog n 45 1 (λl=>[cL .plain l]) (λl=>gF sJ l+1):=(dV.slice Tryz.underlying45 (by kernel_rfl) (by decide) (aii n)).less (bL_ n)
theorem aij (n:Nat):dV Tryz.prog n 58 3 (jf .plain) w9:=by
 intro H enc w sp held m t u d x h;obtain⟨k,f,rfl,g,y,c⟩:=dV.fields Tryz.underlying58 h;have l:=o4 (xs:=f);rw[g]at l;obtain⟨x0,b0,_,o⟩:=dV.part (i:=0) (n:=k+1) (dV.int Tryz.underlying3) (by omega) (by kernel_rfl) (by omega) (c 0 3 0 rfl);obtain⟨p,z,_,q⟩:=dV.part (i:=1) (n:=k+1) (dV.str Tryz.underlying9) (by omega) (by kernel_rfl) (by omega) (c 1 9 1 rfl);obtain⟨r,A,_,s⟩:=dV.part (i:=2) (n:=k+1) (Z2 (k+1)) (by omega) (by kernel_rfl) (by omega) (c 2 50 2 rfl);refine⟨⟨x0,p,r⟩,?_,rfl,λj a v b e=>?_⟩
 ·grind[pL,w9,sJ]
 ·match j with
  |0=>exact o 0 a v b e
  |1=>exact q 0 a v b e
  |2=>exact s 0 a v b e
  |j+3=>cases b
theorem Up (n:Nat):dV Tryz.prog n 34 1 (λl=>[cE .plain l]) (λl=>gF w9 l+1):=(dV.slice Tryz.underlying34 (by kernel_rfl) (by decide) (aij n)).less (bL_ n)
theorem aik (n:Nat):dV Tryz.prog n 54 2 (TZ) JG:=by
 intro H enc w sp held m r s d t h;obtain⟨k,c,rfl,g,u,e⟩:=dV.fields Tryz.underlying54 h;have l:=o4 (xs:=c);rw[g]at l;obtain⟨x0,b0,_,o⟩:=dV.part (i:=0) (n:=k+1) (dV.str Tryz.underlying9) (by omega) (by kernel_rfl) (by omega) (e 0 9 0 rfl);obtain⟨p,x,_,q⟩:=dV.part (i:=1) (n:=k+1) (dV.int Tryz.underlying3) (by omega) (by kernel_rfl) (by omega) (e 1 3 1 rfl);refine⟨⟨x0,p⟩,?_,rfl,λj a v b f=>?_⟩
 ·grind[pL,JG,sJ]
 ·match j with
  |0=>exact o 0 a v b f
  |1=>exact q 0 a v b f
  |j+2=>cases b
theorem aei (n:Nat):dV Tryz.prog n 22 1 (λl=>[ft .plain l]) (λl=>gF JG l+1):=(dV.slice Tryz.underlying22 (by kernel_rfl) (by decide) (aik n)).less (bL_ n)
theorem ail (n:Nat):dV Tryz.prog n 47 6 (iE .plain) BV:=by
 intro H enc w sp held m B C d D h;obtain⟨k,f,rfl,g,E,c⟩:=dV.fields Tryz.underlying47 h;have l:=o4 (xs:=f);rw[g]at l;obtain⟨x0,b0,_,o⟩:=dV.part (i:=0) (n:=k+1) (dV.str Tryz.underlying9) (by omega) (by kernel_rfl) (by omega) (c 0 9 0 rfl);obtain⟨p,F,_,q⟩:=dV.part (i:=1) (n:=k+1) (Uo (k+1)) (by omega) (by kernel_rfl) (by omega) (c 1 45 1 rfl);obtain⟨r,G,_,s⟩:=dV.part (i:=2) (n:=k+1) (Uo (k+1)) (by omega) (by kernel_rfl) (by omega) (c 2 45 2 rfl);obtain⟨t,I,_,u⟩:=dV.part (i:=3) (n:=k+1) (Up (k+1)) (by omega) (by kernel_rfl) (by omega) (c 3 34 3 rfl);obtain⟨x,J,_,y⟩:=dV.part (i:=4) (n:=k+1) (Up (k+1)) (by omega) (by kernel_rfl) (by omega) (c 4 34 4 rfl);obtain⟨z,K,_,A⟩:=dV.part (i:=5) (n:=k+1) (dV.int Tryz.underlying3) (by omega) (by kernel_rfl) (by omega) (c 5 3 5 rfl);refine⟨⟨x0,p,r,t,x,z⟩,?_,rfl,λj a v b e=>?_⟩
 ·grind[pL,BV,sJ]
 ·match j with
  |0=>exact o 0 a v b e
  |1=>exact q 0 a v b e
  |2=>exact s 0 a v b e
  |3=>exact u 0 a v b e
  |4=>exact y 0 a v b e
  |5=>exact A 0 a v b e
  |j+6=>cases b
theorem aej (n:Nat):dV Tryz.prog n 23 1 (λl=>[LM .plain l]) (λl=>gF BV l+1):=(dV.slice Tryz.underlying23 (by kernel_rfl) (by decide) (ail n)).less (bL_ n)
theorem aim (n:Nat):dV Tryz.prog n 25 2 (od .plain) Un:=by
 intro H enc w sp held m r s d t h;obtain⟨k,c,rfl,g,u,e⟩:=dV.fields Tryz.underlying25 h;have l:=o4 (xs:=c);rw[g]at l;obtain⟨x0,b0,_,o⟩:=dV.part (i:=0) (n:=k+1) (aei (k+1)) (by omega) (by kernel_rfl) (by omega) (e 0 22 0 rfl);obtain⟨p,x,_,q⟩:=dV.part (i:=1) (n:=k+1) (aej (k+1)) (by omega) (by kernel_rfl) (by omega) (e 1 23 1 rfl);refine⟨⟨x0,p⟩,?_,rfl,λj a v b f=>?_⟩
 ·grind[pL,Un,sJ]
 ·match j with
  |0=>exact o 0 a v b f
  |1=>exact q 0 a v b f
  |j+2=>cases b
theorem Sb {r:Reach}{b0:Nat}{v:Value}{fs:Array Field}(a:P.underlying t=some (.struct fs)) (h:Value.okWide P w r b0 t v):∃cs,v=.agg cs/\cs.size=P.cellsOf t:=by
 unfold Value.okWide at h;rw[a]at h;obtain⟨cs,e,b,_⟩:=h;exact⟨cs,e,b⟩
section
variable {w:World}{r:Reach}{b0:Nat}{v:Value}{H:Type}{enc:TypeId × Value->H}{sp:Nat->Bool}{held:Bool}{d:DataW H}{ps:List MemPlace}
theorem aek (b:Value.okWide Tryz.prog w r b0 25 v) (h:DataW.Trod enc Tryz.prog w 0 sp held 25 v d ps):∃x:Pg,Un x<=Rows.uptoBulk d/\aN (g0 w) w (pg .plain x) v:=by
 obtain⟨fuel,c⟩:=h;obtain⟨e,rfl,f⟩:=Sb Tryz.underlying25 b;have g:e.size=2:=f.trans (by kernel_rfl);obtain⟨x,j,_,k⟩:=aim (fuel+1) H enc w sp held fuel (by omega) _ _ (by rw[bh_];exact g) c;refine⟨x,j,.agg (by grind) λi a y l m=>k i a y l ?_⟩;rw[<-m];exact bd_
theorem Qb (h:DataW.Trod enc Tryz.prog w 0 sp held 3 v d ps) (a:Value.okWide Tryz.prog w r b0 3 v):∃x:Int,aN (g0 w) w (iv x) v:=by
 unfold Value.okWide at a;rw[Tryz.underlying3]at a;cases v with
 |int k z=>obtain⟨rfl,_⟩:=a;exact⟨z,.v⟩
 |_=>cases a
end
end
def JH (P:Program) (w0:World) (F:AV) (xs:List AV) (b:Bool):Prop:=∃gid args,eV F xs=some (gid,args)/\kc args/\ah P w0 gid args (.v (.bool b))
theorem ae.fnB {w0:World}{α:AA}{S:af}{f:QO}{a:List QO}{F:AV}{l:List AV}{b:Bool}(c:f.ev α.tm=F) (d:a.map (·.ev α.tm)=l) (h:JH P w0 F l b):ae P w0 dr (.call f a) α S (.v (.bool b)) S:=by
 obtain⟨gid,args,e,g,i⟩:=h;subst c d;exact ae.ez e i g
def dc (x:Dc):AV:=.agg (TZ x)
theorem IL (x:Dc):Pure (dc x):=.agg (LP x)
def ew {T:Type}(p:T->Bool):List T->Nat->Int
 |[],_=>-1
 |x::l,k=>if p x then k else ew p l (k+1)
theorem w_ {T:Type}(p:T->Bool):∀(l:List T) (k:Nat),decide (0<=ew p l k)=l.any p
 |[],_=>rfl
 |x::l,k=>by
  rw[ew,bS_];split
  ·grind
  ·rw[w_ p l];simp_all
def kE {T:Type}(p:T->T->Bool):List T->List T->Bool
 |[],[]=>true
 |x::a,y::b=>p x y && kE p a b
 |_,_=>false
theorem CR {T:Type}{p:T->T->Bool}:∀{a b:List T},a.length ≠ b.length->kE p a b=false
 |[],[],h=>absurd rfl h
 |[],_::_,_=>rfl
 |_::_,[],_=>rfl
 |x::a,y::b,h=>by rw[kE,CR (by grind)];simp
section
variable {P:Program}{w0:World}{n:Nat}{α:AA}{S:af}{Q:Exit->AA->af->Prop}{K:List f_}
theorem ad.Mi {T:Type}{so:σ->List (Nat × Ob)}{I:List T->σ->Prop}{rest:List T}(a:σ) (m:List (Nat × Nat)) (b:I rest a) (c:Canon B N m α S [] [] (so a)):ad P w0 true n (RP P w0 n B N jM ds so I Q K rest) (.out .normal []) α S:=⟨a,m,b,c⟩
theorem ad.amI {T:Type}{so:σ->List (Nat × Ob)}{I:List T->σ->Prop}{rest:List T}(so':List (Nat × Ob)) (m:List (Nat × Nat)) (a:Canon B N m α S [] [] so') (h:ad P w0 false n Q (.out .ret K) (jd jM ds) (aq so' N)):ad P w0 true n (RP P w0 n B N jM ds so I Q K rest) (.out .ret []) α S:=⟨so',m,a,h⟩
end
section
variable {P:Program}{w0:World}{rd:Bool}{n B:Nat}{α:AA}{S S' S1:af}{Q:Exit->AA->af->Prop}{r r':AV}{l:List QI}{K:List f_}{o:Oper}{V:List (Nat × Nat)}{lg:List (List Nat × List Nat × Bool)}{rs:List Nat}
theorem iY.rv (h:iY P w0 n o α S r S') (k:Rv w0 r S' r' S1):iY P w0 n o α S r' S1:=by
 intro F m A g a w c R d e f i;refine h F m A g a w c R d e f λv b j l p q=>?_;obtain⟨s,t,u,k3⟩:=k A g j w b v p l;exact i v b s u t (q.trans k3)
theorem Rv.move {k len:Nat}{rows:List (List AV)}(D:S.get k=some (.arr sz rows 0 ex)):Rv w0 (.gr k sz len) S (.gr S.nx sz len) ((S.set k none).new (.arr sz rows 0 false)):=by
 intro A g0 g ZI w v f R;obtain⟨T,E⟩:∃T,T=(S.set k none).new (.arr sz rows 0 false):=⟨_,rfl⟩;obtain⟨m,s⟩:∃m:Gh,m=⟨bE g.ob S.nx (g.ob k),bE g.cp S.nx (g.cp k),λj=>g.al j\/(j=S.nx/\g.al k),g.fz,g.fo⟩:=⟨_,rfl⟩;have U:¬ g.al S.nx:=λh=>bK_ _ (f.al _ h);have t:∀j,j ≠ S.nx->m.ob j=g.ob j:=λj e=>by rw[s];exact aO _ _ e
 have y:∀j,j ≠ S.nx->m.cp j=g.cp j:=λj e=>by rw[s];exact aO _ _ e
 have z:m.ob S.nx=g.ob k:=by rw[s];exact aJ _ _ _
 have I:m.cp S.nx=g.cp k:=by rw[s];exact aJ _ _ _
 have n:∀j,m.al j->j ≠ S.nx->g.al j:=λj h e=>by
  rw[s]at h;rcases h with h|⟨h,_⟩
  ·grind
  ·grind
 have F:m.al S.nx->g.al k:=λh=>by
  rw[s]at h;rcases h with h|⟨_,h⟩
  ·grind
  ·grind
 have ne:∀j,g.al j->j ≠ S.nx:=λj h e=>U (e ▸ h);have O:Later g w m w:=⟨λj h=>by rw[s];exact .inl h,λj h=>t j (ne j h),λj h=>y j (ne j h),λb o h=>by rw[s];exact h,λ_ _ _=>rfl⟩;have V:m.fz=g.fz:=by grind
 have P:m.fo=g.fo:=by grind
 have W:T.get S.nx=some (.arr sz rows 0 false):=by rw[E];exact aJ _ _ _
 have r:∀j p,j ≠ S.nx->T.get j=some p->j ≠ k/\S.get j=some p:=by
  intro j p e h;rw[E]at h;have h:bE (S.set k none).get S.nx (some (.arr sz rows 0 false)) j=some p:=h;rw[aO _ _ e]at h;have h:bE S.get k none j=some p:=h;by_cases G:j=k
  ·grind[aJ]
  ·grind[aO]
 have H:∀j J,T.get j=some (.fo J)->j ≠ S.nx:=λj J h e=>by grind
 have X:Ext A g w m w:={ O with size:=ac_ _,aM:=λ_ _ _=>rfl,kr:=λb o h=>by grind};have B:∀{b cp:Nat}{o:Ob},eU g w b cp o->eU m w b cp o:=λh=>h.later O rfl (λq h=>by grind) λJ _=>⟨by grind,ac_ _,λ_ _=>rfl,λc q _ h=>by grind⟩;rw[<-E];refine⟨m,⟨f.base,f.up,f.lo,λj h=>?_,λj p d h=>?_,λi j p q x d u C e=>?_,λb q h=>f.dw b q (by grind),λb q h=>by rw[V];exact f.rp b q h,λj J d h=>?_,λj J i p d h x u e=>?_,λi j J Q x d u C=>?_⟩,?_,X⟩
 ·have e:T.nx=S.nx+1:=by rw[E];rfl
  rw[e];by_cases a:j=S.nx
  ·omega
  ·have:=f.al j (n j h a);omega
 ·by_cases a:j=S.nx
  ·subst a;rw[W]at d;obtain rfl:=oJ_ d;obtain⟨q1,K,L⟩:=f.cT k _ D (F h);rw[z,I];refine⟨q1,K,?_⟩;obtain⟨Y,Z,h1,h2,h3,h4,h5,h6,h7⟩:=B L;exact⟨Y,Z,h1,h2,h3,(λh=>by grind),h5,h6,h7⟩
  ·obtain⟨_,M⟩:=r j p a d;obtain⟨q1,K,L⟩:=f.cT j p M (n j h a);rw[t j a,y j a];exact⟨q1,K,B L⟩
 ·by_cases l:i=S.nx
  ·by_cases a:j=S.nx
   ·grind
   ·exfalso;subst l;obtain⟨G,M⟩:=r j q a d;rw[z,t j a]at e;exact G (f.inj k j _ q D M (F u) (n j C a) e).symm
  ·by_cases a:j=S.nx
   ·exfalso;subst a;obtain⟨G,iW⟩:=r i p l x;rw[z,t i l]at e;exact G (f.inj i k p _ iW D (n i u l) (F C) e)
   ·rw[t i l,t j a]at e;exact f.inj i j p q (r i p l x).2 (r j q a d).2 (n i u l) (n j C a) e
 ·have a:=H j J d;rw[t j a,P];exact f.kP j J (r j _ a d).2 (n j h a)
 ·have a:=H j J d;rw[t j a,P];by_cases l:i=S.nx
  ·subst l;rw[z];exact f.nb j J k _ (r j _ a d).2 (n j h a) D (F u) (r j _ a d).1.symm
  ·rw[t i l];exact f.nb j J i p (r j _ a d).2 (n j h a) (r i p l x).2 (n i u l) e
 ·have l:=H i J x;have a:=H j Q d;exact f.oW i j J Q (r i _ l x).2 (r j _ a d).2 (n i u l) (n j C a)
 ·rcases r_ R with ⟨h,A',rfl⟩|⟨jL,c,rfl,hx,N⟩
  ·subst h;exact .kO
  ·rw[<-z];refine .gr (by rw[s];exact .inr ⟨rfl,jL⟩) (by grind) N
theorem Rv.nil:Rv w0 (.sl true []) S (.gr S.nx sz 0) (S.new (.arr sz [] 0 false)):=by
 intro A g0 g y w v b o;obtain⟨f,r,s,t⟩:=(show ∃f,St w0 A f (S.new (.arr sz [] 0 false)) w/\aN f w (.gr S.nx sz 0) v/\Ext A g w f w from by
  have key:∀k p,(S.new (.arr sz [] 0 false)).get k=some p->g.al k->S.get k=some p:=λk p a c=>by
   have z:=b.al k c;have a:bE S.get S.nx (some (.arr sz [] 0 false)) k=some p:=a
   rwa [aO _ _ (by omega)]at a
  refine⟨g,⟨b.base,b.up,b.lo,λk a=>bX_ (b.al k a),λk p a c=>b.cT k p (key k p a c) c,λi j p q u h m d e=>b.inj i j p q (key i p u m) (key j q h d) m d e,b.dw,b.rp,
   λk J a c=>b.kP k J (key k _ a c) c,λk J j p a c h d=>b.nb k J j p (key k _ a c) c (key j p h d) d,λj k J x h a d n=>b.oW j k J x (key j _ h d) (key k _ a n) d n⟩,?_,Ext.refl ..⟩
  cases o with
  |nil l=>obtain rfl:=l rfl;exact .kO
  |sl l=>exact absurd rfl l)
 exact⟨f,r,s,t⟩
theorem Rv.aen {k len:Nat}:Rv w0 (.ob k sz 0 len none) S (.gr k sz len) S:=by
 intro A g0 g d w v a b;refine⟨g,a,?_,Ext.refl ..⟩;cases b with
 |ob q1 e f h c=>rw[aW_];exact .gr q1 (by grind) c
section
variable {ρ:Hd}{T:Type}{f:T->List AV}{acc ys:List T}
theorem ad.qm {t:Nat}{k len:Nat}(j:bG α.tm gg=some true) (h1:α.tm t=.gr k sz len) (e:S.get k=some (.arr sz (ρ.h (List.map f) acc) 0 ex)) (m:len=acc.length) (p:∀c,b.ev (bE α.tm t c)=b.ev α.tm)
  (g:b.ev α.tm=aR ρ f ex' ys) (r:∀x,(f x).length=sz) (s:∀x,(f x).all dh=true) (u:(len+ys.length)*by_<=35184372088832)
  (kk:∀a d,a=acc++ys->d=a.length->ad P w0 rd n Q (.bc false l K) (bP dd α (.gr S.nx sz d)) ((S.set k none).new (.arr sz (ρ.h (List.map f) a) 0 false))):ad P w0 rd n Q (.bc false (⟨dd,gg,.append sz by_ (.t t) b⟩::l) K) α S:=by
 have hlen:(ρ.h (List.map f) acc).length=acc.length:=au;by_cases q:ys=[]
 ·subst q;rw[bX]at g;have h:=kk acc len (by simp) m;exact ad.op (i:=⟨dd,gg,.append sz by_ (.t t) b⟩) j (λn o v=>(CO v h1 e (by omega) p (by rw[g];exact jv)).rv (Rv.move e)) h
 ·exact ad.Xm j h1 e m p g r s u (λh=>absurd h q) λa d _ w y=>kk a d w y
theorem ad.Sc {t:Nat}{k len:Nat}(m:bG α.tm gg=some true) (h1:α.tm t=.gr k sz len) (p:S.get k=some (.arr sz (ρ.h (List.map f) acc) 0 ex)) (v:len=acc.length) (q:∀c,b.ev (bE α.tm t c)=b.ev α.tm)
  (a:b.ev α.tm=aR ρ f ex' ys) (w:∀x,(f x).length=sz) (z:∀x,(f x).all dh=true) (H:(len+ys.length)*by_<=35184372088832)
  (kk:∀g r,g=acc++ys->r=g.length->ad P w0 rd n Q (.j6 B V (lg++[([k],[S.nx,k],true)]) rs l K) (bP dd α (.gr S.nx sz r)) (eP S [(S.nx,some (.arr sz (ρ.h (List.map f) g) 0 false)),(k,none)] true)):ad P w0 rd n Q (.j6 B V lg rs (⟨dd,gg,.append sz by_ (.t t) b⟩::l) K) α S:=by
 have hlen:(ρ.h (List.map f) acc).length=acc.length:=au;rw[bX]at a;cases ys with
 |nil =>
  have h:=kk acc len (by simp) v;refine ad.eW (i:=⟨dd,gg,.append sz by_ (.t t) b⟩) (d:=⟨[(k,.arr sz (ρ.h (List.map f) acc) 0 ex)],[(S.nx,some (.arr sz (ρ.h (List.map f) acc) 0 false)),(k,none)],true⟩) m ?_ h;have A:=a_.aie (P:=P) (w0:=w0) (B:=B) (by_:=by_) h1 p (by omega) q a;intro n o j;obtain⟨I,C,D⟩:=A n o j;refine⟨λJ=>(by grind[zL,wF]),C,λT E s F=>?_⟩;have u:=D T E s (λh=>by grind);rw[show eP T [] false=T from kB]at u;have G:=u.rv (Rv.move (w0:=w0) (len:=len) (s (k,.arr sz (ρ.h (List.map f) acc) 0 ex) (by simp)));rw[<-F rfl,gj];exact G
 |cons y ys =>
  have h:=kk _ _ rfl rfl;have e:ρ.h (List.map f) acc++List.map f (y::ys)=ρ.h (List.map f) (acc++y::ys):=by rw[ρ.eq,ρ.eq,aM_]
  rw[<-e,show (acc++y::ys).length=len+(f y::List.map f ys).length by grind]at h;refine ad.eW (i:=⟨dd,gg,.append sz by_ (.t t) b⟩) m (a_.im (x:=f y) (more:=List.map f ys) h1 p (by omega) q a (λrow j=>?_) (by grind)) h;obtain⟨x,_,rfl⟩:=av_.1 (show row ∈ List.map f (y::ys) from j);exact⟨w x,z x⟩
theorem ad.KZ {a:QO}(v:bG α.tm gg=some true) (h1:a.ev α.tm=.sl true [])
  (g:b.ev α.tm=aR ρ f ex' ys) (z:∀x,(f x).length=sz) (A:ys.length*by_<=35184372088832)
  (kk:∀j t,j=ys->t=j.length->ad P w0 rd n Q (.j6 B V (lg++[([],[S.nx],true)]) rs l K) (bP dd α (.gr S.nx sz t)) (eP S [(S.nx,some (.arr sz (ρ.h (List.map f) j) 0 false))] true)):ad P w0 rd n Q (.j6 B V lg rs (⟨dd,gg,.append sz by_ a b⟩::l) K) α S:=by
 rw[bX]at g;have h:=kk _ _ rfl rfl;rw[ρ.eq]at h;refine ad.eW (i:=⟨dd,gg,.append sz by_ a b⟩) (d:=⟨[],[(S.nx,some (.arr sz (List.map f ys) 0 false))],true⟩) v ?_ h;cases ys with
 |nil =>
  have k:=a_.Ik (P:=P) (w0:=w0) (B:=B) (S:=S) (sz:=sz) (by_:=by_) h1 g;intro n o c;obtain⟨u,m,p⟩:=k n o c;refine⟨λC=>(by grind[zL,wF]),m,λT q r s=>?_⟩;have e:=p T q r (λh=>by grind);rw[show eP T [] false=T from kB]at e;have w:=e.rv (Rv.nil (w0:=w0) (sz:=sz));rw[<-s rfl,gj];exact w
 |cons y ys =>
  have k:=a_.Il (P:=P) (w0:=w0) (B:=B) (S:=S) (sz:=sz) (by_:=by_) (x:=f y) (more:=List.map f ys) h1 g (λrow c=>by grind) (by grind);intro n o c;obtain⟨u,m,p⟩:=k n o c;refine⟨u,m,λT q r s=>?_⟩;have e:=(p T q r s).rv (Rv.aen (w0:=w0));simpa using e
theorem ad.qF {a:QO}(e:bG α.tm gg=some true) (h1:a.ev α.tm=.sl true [])
  (c:b.ev α.tm=aR ρ f ex' ys) (j:∀x,(f x).length=sz) (k:ys.length*by_<=35184372088832)
  (kk:∀d g,d=ys->g=d.length->ad P w0 rd n Q (.bc false l K) (bP dd α (.gr S.nx sz g)) (S.new (.arr sz (ρ.h (List.map f) d) 0 false))):ad P w0 rd n Q (.bc false (⟨dd,gg,.append sz by_ a b⟩::l) K) α S:=by
 rw[bX]at c;have h:=kk _ _ rfl rfl;rw[ρ.eq]at h;cases ys with
 |nil=>exact ad.op (i:=⟨dd,gg,.append sz by_ a b⟩) e ((ae.Ik h1 (by rw[c];exact jv)).rv Rv.nil) h
 |cons y ys =>
  refine ad.op (i:=⟨dd,gg,.append sz by_ a b⟩) e ((ae.Il (rows:=[]) (x:=f y) (more:=List.map f ys) h1 (by rw[c];exact jv) (λ_ h=>by grind) (λrow m=>by grind) (by grind)).rv Rv.aen) ?_;simpa using h
end
theorem ad.aeo {gd:Option (Nat × Bool)}{f:QO}{a:List QO}{g:FuncId}{args₀:List AV}{r₀:AV}{so':List (Nat × Ob)}{ob:Ob}(b:bG α.tm gd=some true) (c:aG P w0 g args (aq [] 0) r (aq so' 1)) (h:eV (f.ev α.tm) (a.map (·.ev α.tm))=some (g,args₀)) (e:wM (aU []) 0 args₀ args)
  (j:Rb (dz (aU []) 0 S.nx) r r₀) (k:gT (dz (aU []) 0 S.nx) so' [(S.nx,some ob)]) (m:za so'=true)
  (kk:ad P w0 rd n Q (.j6 B V (lg++[([],[S.nx],true)]) rs l K) (bP d α r₀) (eP S [(S.nx,some ob)] true)):ad P w0 rd n Q (.j6 B V lg rs (⟨d,gd,.call f a⟩::l) K) α S :=
 ad.eW (i:=⟨d,gd,.call f a⟩) b (a_.aif c h e j k m) kk
theorem ae.wL {len m:Nat}{k:LK}{l:List AV}{c:IntKind}{j:Int}(h1:x.ev α.tm=.agg l) (h2:i.ev α.tm=.v (.int c j)) (h3:uI k l (j.toNat*m)=some a) (h4:0<=j) (h5:j < len):ae P w0 dr (.wL len m k x i) α S a S:=by
 refine ae.of rfl λo b=>?_;cases o<;>simp only[res,cF,fX]at b<;>(repeat' split at b)<;>(try cases b)
 rw[aW]at h1 h2;rename_i e d;rw[<-CS d]at h3;simp only[bu, *];exact bC.mk rfl ⟨trivial,trivial,rfl,rfl⟩
theorem Qc {o:Op}(h:res P.toTables o=some (.len false x)):∃c t u e,o=.call c/\c.callee=.builtin .len/\c.argTypes=#[t]/\c.args=#[u]/\x=qo u/\P.underlying t=some (.slice e):=by
 cases o<;>simp only[res,cF]at h<;>(repeat' split at h)<;>(try cases h)
 rename_i c a t y b d e f;exact⟨_,_,_,_,rfl,by grind,toList_one (by assumption),toList_one (by grind),rfl,by assumption⟩
theorem Mj {o:Oper}{k len:Nat}(m:res P.toTables o.op=some (.len false x)) (β:AA) (h:x.ev β.tm=.gr k sz len):iY P w0 n o β S (.v (.int .i64 len)) S:=by
 obtain⟨c,t,u,e,b,d,f,i,rfl,j⟩:=Qc m;rw[aW]at h;refine a8.ops (a8.quiet λA g q w s p=>?_) λr e=>by grind
 have l:=p.ev u;rw[h]at l;refine⟨_,?_,.v⟩;rcases r_ l with ⟨rfl,v,a⟩|⟨_,r,a,_,_⟩
 ·simp[execOp,b,resolve,d,i,f,a,invoke,builtin,Builtin.len_,run_underlying j,goInt]
 ·simp[execOp,b,resolve,d,i,f,a,invoke,builtin,Builtin.len_,run_underlying j,goInt]
theorem ae.iz {k len:Nat}(h:x.ev α.tm=.gr k sz len):ae P w0 dr (.len false x) α S (.v (.int .i64 len)) S:=by
 cases dr with
 |false=>exactλn o a=>Mj a α h
 |true =>
  intro n o a;obtain⟨c,t,u,e,d,j,l,f,g,m⟩:=Qc a;have i:x.ev (α.only (dH o)).tm=.gr k sz len:=by
   rw[<-h,g,aW,aW];exact gm λt e=>gw (by rw[d,<-e];show u ∈ c.operands;simp[Call.operands,f])
  have b:∀T,iY P w0 n o (α.only (dH o)) T (.v (.int .i64 len)) T:=λT=>Mj a _ i;exact⟨b S,λ_=>⟨rfl,b⟩,λ_=>rfl⟩
theorem ad.amJ {st:σ->List (Nat × AV)}{so:σ->List (Nat × Ob)}{I:σ->Prop}{a:List PanicEntry}(h:ad P w0 rd n Q (.out (.panic a) K) α S):ad P w0 rd n (RW P w0 rd n B N st ds so I Q K) (.out (.panic a) []) α S:=h
end
section
variable {P:Program}{w0:World}{n:Nat}{o:Oper}{α:AA}{S S':af}{r:AV}
theorem St.Ej {g:Gh}{k:Nat}{ob:Ob}{es':List (Value × AV)}{entries entries':Array MapEntry}{clock:Nat}(b:St w0 A g S w) (c:S.get k=some ob) (h:∀J,ob ≠ .fo J) (d:g.al k) (f:w.heap[g.ob k]?=some (.map entries clock))
  (j:entries'.size=es'.length) (l:∀(i:Nat) (k:Value) (a:AV),es'[i]?=some (k,a)->∃e:MapEntry,entries'[i]?=some e/\e.key=k/\aN g w a e.val) (m:∀(i:Nat) (e:MapEntry),entries'[i]?=some e->e.born=i) :
  ∃w',(setObj (g.ob k) (.map entries' entries'.size)).run P w=.ok () w'/\St w0 A g (S.set k (some (.mb es'))) w'/\Ext A g w g w':=by
 have x:=(b.cT k _ c d).2.1;have n:({ w with heap:=w.heap.setIfInBounds (g.ob k) (.map entries' entries'.size) }:World).heap[g.ob k]?=some (.map entries' entries'.size):=by grind
 obtain⟨o,p⟩:=b.putObj (ob:=.mb es') c d (λJ=>⟨h J,by simp⟩) (x':=.map entries' entries'.size) rfl (λq=>by simp only[World.cell?,n,f]) (λr s=>⟨entries',s,j,λi key a t=>by
  obtain⟨e,q1,u,v⟩:=l i key a t;exact⟨e,q1,u,v.later r⟩,m⟩)
 exact⟨_,by simp[setObj,Sem.run,f],p,o⟩
theorem Sd (c:o.op=.makeMap t none):a8 P w0 n o α S (.mp S.nx) (S.new (.mb [])):=by
 intro A g q w d l;obtain⟨f,j⟩:=d.new (.map #[] 0) (.mb []) 0 (λJ=>by simp) (λm=>⟨#[],dZ,rfl,(λi k a h=>by grind),λi e h=>by grind⟩);have b:=aN.mp (g:=g.new S.nx w.heap.size 0) (w:=w.alloc (.map #[] 0)) (k:=S.nx) (.inr rfl);rw[show (g.new S.nx w.heap.size 0).ob S.nx=w.heap.size from aJ _ _ _]at b;refine⟨_,_,_,.inl ?_,b,j,f⟩;simp[execOp,c,Instr.makeMap,newObj,Sem.run]
theorem ae.Hb:ae P w0 false (.kQ none) α S (.mp S.nx) (S.new (.mb [])):=ae.run λn o a=>by
 obtain⟨t,y,d,e,b,c,f⟩:=Cs a;cases y with
 |some y=>cases c
 |none=>exact Sd b
theorem ae.g_ {c:Bool}{k:Nat}(b:x.ev α.tm=.mp k) (d:S.get k=some (.mb es)) (e:oB es) (hi:i.ev α.tm=.v (.int .i64 m)) :
  ae P w0 false (.look z c x i) α S (match se es m with|some a=>(if c then .aL [a,.v (.bool true)] else a)|none=>(if c then .aL [z,.v (.bool false)] else z)) S:=ae.run λn o f=>by
 obtain⟨t,u,v,B,C,kk,D,h,rfl,rfl,j,l,p,rfl⟩:=Fv f;rw[aW]at b hi;exact CT h j l p b (λA g w q r=>by
  obtain⟨_,_,entries,q1,s,y,_⟩:=q.cT k _ d r;exact⟨entries,_,q1,s,y⟩) e hi
theorem Ur {Q et:TypeId}{x i y:Operand}{k:Nat}{b:AV}(R:o.op=.mapUpdate t x i y) (T:P.underlying t=some (.map Q et)) (p:P.underlying Q=some (.int kk))
  (hx:α.ev x=.mp k) (u:S.get k=some (.mb es)) (U:oB es) (hi:α.ev i=.v (c_ m)) (hy:α.ev y=b):a8 P w0 n o α S (.v undef) (S.set k (some (.mb (AJ es m b)))):=by
 intro A g q w z B;have V:=B.ev x;have W:=B.ev i;have C:=B.ev y;rw[hx]at V;rw[hi]at W;rw[hy]at C;obtain⟨X,D⟩:=sI V;have Y:=b_ W;obtain⟨v,E⟩:∃v,q.eval y=v:=⟨_,rfl⟩;rw[E]at C;obtain⟨_,_,entries,r,s,F,G⟩:=z.cT k _ u D;have l:=CU s F U (kk:=kk) m;unfold AJ;cases H:lW es m with
 |none =>
  rw[H]at l;obtain⟨I,q1,K,L⟩:=z.Ej (P:=P) u (λJ=>by simp) D r (entries':=entries.push { key:=c_ m,val:=v,born:=entries.size }) (es':=es++[(c_ m,b)]) (by simp[s]) (λi key a hi=>by
   by_cases c:i < es.length
   ·rw[bb_ c]at hi;obtain⟨e,h,N,Z⟩:=F i key a hi;exact⟨e,by grind,N,Z⟩
   ·rw[be_ (by omega)]at hi;have Mh:i=es.length:=by
     have:=(ar_.1 hi).1;simp at this;omega
    subst Mh;simp at hi;obtain⟨rfl,rfl⟩:=hi;exact⟨{ key:=c_ m,val:=v,born:=entries.size },by rw[<-s];simp,rfl,C⟩) (λi e f=>by
   rw[dx_]at f;split at f
   ·rename_i O;rw[<-oJ_ f,O]
   ·exact G i e f)
  refine⟨undef,I,g,.inr ⟨?_,rfl⟩,.v,K,L⟩;simp only[Array.size_push]at q1;simp only[execOp,R,X,Y,E,Instr.mapUpdate,Sem.run_bind,run_underlying T,Result.andThen_ok,gV r,run_checkKey p,run_findKey p l,q1,Sem.run_pure]
 |some j =>
  obtain⟨a,ha⟩:=wG U H;obtain⟨e,h,N,Z⟩:=F j _ a ha;rw[H]at l;simp only[h,aE_]at l;have lX:j < entries.size:=(ce_.1 h).1;obtain⟨I,q1,K,L⟩:=z.Ej (P:=P) u (λJ=>by simp) D r (entries':=entries.modify j λe=>{ e with key:=c_ m,val:=v }) (es':=es.set j (c_ m,b)) (by simp[s]) (λi key a' hi=>by grind[c_]) (λi O f=>by
   rw[dy_]at f;split at f
   ·rename_i c;subst c;rw[h]at f;obtain rfl:=oJ_ f;exact G j e h
   ·exact G i O f)
  refine⟨undef,I,g,.inr ⟨?_,rfl⟩,.v,K,L⟩;have zD:(Instr.keyThatStays (((entries[j]?).map (·.key)).getD (c_ m)) (c_ m)).run P w=.ok (c_ m) w:=by
   rw[h];simp[Instr.keyThatStays,N,Instr.sameBits,c_]
  simp only[Array.size_modify]at q1;simp only[execOp,R,X,Y,E,Instr.mapUpdate,Sem.run_bind,run_underlying T,Result.andThen_ok,gV r,run_checkKey p,run_findKey p l,zD,q1,Sem.run_pure]
theorem ae.yu {k:Nat}(c:x.ev α.tm=.mp k) (e:S.get k=some (.mb es)) (f:oB es) (hi:i.ev α.tm=.v (.int .i64 m)) (d:b.ev α.tm=a) :
  ae P w0 false (.oD x i b) α S (.v undef) (S.set k (some (.mb (AJ es m a)))):=ae.run λn o g=>by
 obtain⟨t,u,v,y,p,q,kk,h,rfl,rfl,rfl,j,l⟩:=Fw g;rw[aW]at c hi d;exact Ur h j l c e f hi d
theorem Xn {o:Op}(h:res P.toTables o=some (.FI z x i)):∃t u v a b kk c,o=.mapEntry t u v/\x=qo u/\i=qo v/\P.underlying t=some (.map a b)/\P.underlying a=some (.int kk)/\d_ P b=some c/\z=lift c:=by
 cases o with
 |mapEntry t u v =>
  simp only[res,cF,ky]at h;split at h
  ·grind
  ·grind
 |_ =>
  simp only[res]at h
  repeat' split at h
  all_goals cases h
theorem Xo {o:Op}(h:res P.toTables o=some (.FK x i b)):∃t u v y,o=.entryStore t u v y/\x=qo u/\i=qo v/\b=qo y:=by
 cases o with
 |entryStore t u v y =>
  simp only[res,cF]at h;split at h
  ·grind
  ·grind
 |_ =>
  simp only[res]at h
  repeat' split at h
  all_goals cases h
theorem Xp {l D:TypeId}{b:Value}{k:Nat}(R:o.op=.mapEntry t u v) (T:P.underlying t=some (.map l D)) (E:P.underlying l=some (.int kk)) (U:d_ P D=some b)
  (f:α.ev u=.mp k) (F:S.get k=some (.mb es)) (G:oB es) (hi:α.ev v=.v (.int .i64 m)) (y:se es m=none) :
  a8 P w0 n o α S (.aL [lift b,.v (.int .i64 es.length)]) (S.set k (some (.mb (es++[(c_ m,lift b)])))):=by
 intro A g q w H I;have K:=I.ev u;have L:=I.ev v;rw[f]at K;rw[hi]at L;obtain⟨V,M⟩:=sI K;have z:=b_ L;obtain⟨_,_,entries,N,p,O,W⟩:=H.cT k _ F M;have Q:=CU p O G (kk:=kk) m;have r:lW es m=none:=by
  unfold se at y;cases r:lW es m with
  |none=>rfl
  |some j =>
   obtain⟨a,d⟩:=wG G r;rw[r]at y;simp[d]at y
 rw[r]at Q;obtain⟨X,q1,Y,Z⟩:=H.Ej (P:=P) F (λJ=>by simp) M N (entries':=entries.push { key:=c_ m,val:=b,born:=entries.size }) (es':=es++[(c_ m,lift b)]) (by simp[p]) (λi key a hi=>by
  by_cases c:i < es.length
  ·rw[bb_ c]at hi;obtain⟨e,r1,r2,r3⟩:=O i key a hi;exact⟨e,by grind,r2,r3⟩
  ·rw[be_ (by omega)]at hi;have Mh:i=es.length:=by
    have:=(ar_.1 hi).1;simp at this;omega
   subst Mh;simp at hi;obtain⟨rfl,rfl⟩:=hi;exact⟨{ key:=c_ m,val:=b,born:=entries.size },by rw[<-p];simp,rfl,wZ b⟩) (λi e s=>by
  rw[dx_]at s;split at s
  ·rename_i e';rw[<-oJ_ s,e']
  ·exact W i e s)
 refine⟨.tuple #[b,goInt entries.size],X,g,.inl ?_,?_,Y,Z⟩
 ·simp only[Array.size_push]at q1;have B:(Instr.checkKey false 10000 l (c_ m)).run P w=.ok () w:=run_checkKey E false m;have C:(Instr.findKey l (c_ m) entries.toList).run P w=.ok none w:=run_findKey E Q;have z:q.eval v=c_ m:=z;simp only[execOp,R,V,z,Instr.mapEntry,Sem.run_bind,run_underlying T,Result.andThen_ok,gV N,B,C,o8 U,q1,Sem.run_pure]
 ·refine .aL rfl λi a x d f=>?_
  match i with
  |0=>simp at d f;subst d f;exact wZ b
  |1=>simp at d f;subst d f;rw[p];exact .v
  |i+2=>simp at d
theorem a_.FI {k:Nat}(h:x.ev α.tm=.mp k) (y:S.get k=some (.mb es)) (j:oB es) (hi:i.ev α.tm=.v (.int .i64 m)) (l:se es m=none) :
  a_ P w0 B (.FI z x i) α S (.aL [z,.v (.int .i64 es.length)]) ⟨[(k,.mb es)],[(k,some (.mb (es++[(c_ m,z)])))],false⟩:=by
 intro n o q;obtain⟨t,u,v,A,C,kk,g,a,rfl,rfl,b,r,d,rfl⟩:=Xn q;rw[aW]at h hi;refine⟨λf=>(by rw[a]at f;cases f),(show iC S [(k,.mb es)] from λp f=>by grind),λT _ s _=>?_⟩;have e:∀z ∈ [u,v],(α.only (dH o)).ev z=α.ev z:=λz d=>gm λt b=>gw (by rw[a];simp[Op.operands,<-b];simpa using d);have w:eP T [(k,some (.mb (es++[(c_ m,lift g)])))] false=T.set k (some (.mb (es++[(c_ m,lift g)]))):=by cases T;rfl
 rw[w];exact (Xp a b r d (by grind) (s (k,_) (by simp)) j (by grind) l).ops λc e=>by grind
theorem Xq {y:Operand}{k j:Nat}(K:o.op=.entryStore t u v y) (L:α.ev u=.mp k) (s:S.get k=some (.mb es)) (hi:α.ev v=.v (.int .i64 j)) (M:α.ev y=a) (N:es[j]?=some p) :
  a8 P w0 n o α S (.v undef) (S.set k (some (.mb (es.set j (p.1,a))))):=by
 intro A g q w x h;have z:=h.ev u;have B:=h.ev v;have C:=h.ev y;rw[L]at z;rw[hi]at B;rw[M]at C;obtain⟨O,D⟩:=sI z;have Q:=b_ B;obtain⟨R,E⟩:∃v,q.eval y=v:=⟨_,rfl⟩;rw[E]at C;obtain⟨_,_,entries,F,T,G,f⟩:=x.cT k _ s D;obtain⟨H,U⟩:=p;obtain⟨e,l,r2,r3⟩:=G j H U N;have I:j < entries.size:=(ce_.1 l).1;have m:entries.findIdx? (λe=>(e.born:Int) == (j:Int))=some j:=by
  rw[Array.findIdx?_eq_some_iff_getElem];refine⟨I,?_,λi hi=>?_⟩
  ·have:=f j _ (aG_ I);simp[this]
  ·have:=f i _ (aG_ (by omega));simp[this];omega
 obtain⟨V,q1,W,X⟩:=x.Ej (P:=P) s (λJ=>by simp) D F (entries':=entries.modify j λe=>{ e with val:=R }) (es':=es.set j (H,a)) (by simp[T]) (λi key Z hi=>by
  rw[List.getElem?_set]at hi;by_cases c:j=i
  ·grind
  ·rw[if_neg c]at hi;obtain⟨r,s1,s2,s3⟩:=G i key Z hi;exact⟨r,by grind,s2,s3⟩) (λi r d=>by
  rw[dy_]at d;split at d
  ·rename_i c;subst c;rw[l]at d;obtain rfl:=oJ_ d;exact f j e l
  ·exact f i r d)
 refine⟨undef,V,g,.inr ⟨?_,rfl⟩,.v,W,X⟩;simp only[Array.size_modify]at q1;simp only[execOp,K,O,Q,E,Instr.entryStore,Sem.run_bind,Sem.run_pure,Result.andThen_ok,gV F,asInt,asIntOf,m,q1]
theorem a_.FK {k j:Nat}(g:x.ev α.tm=.mp k) (A:S.get k=some (.mb es)) (hi:i.ev α.tm=.v (.int .i64 j)) (h:b.ev α.tm=a) (l:es[j]?=some p) :
  a_ P w0 B (.FK x i b) α S (.v undef) ⟨[(k,.mb es)],[(k,some (.mb (es.set j (p.1,a))))],false⟩:=by
 intro n o m;obtain⟨t,u,v,y,d,rfl,rfl,rfl⟩:=Xo m;rw[aW]at g hi h;refine⟨λf=>(by rw[d]at f;cases f),(show iC S [(k,.mb es)] from λp f=>by grind),λT _ q _=>?_⟩;have e:∀z ∈ [u,v,y],(α.only (dH o)).ev z=α.ev z:=λz r=>gm λt s=>gw (by rw[d];simp[Op.operands,<-s];simpa using r);have w:eP T [(k,some (.mb (es.set j (p.1,a))))] false=T.set k (some (.mb (es.set j (p.1,a)))):=by cases T;rfl
 rw[w];exact (Xq d (by grind) (q (k,_) (by simp)) (by grind) (by grind) l).ops λc e=>by grind
end
section
variable {P:Program}{w0:World}{rd:Bool}{n B:Nat}{α:AA}{S S':af}{Q:Exit->AA->af->Prop}{r:AV}{l:List QI}{K:List f_}
variable {ρ:Hd}{T:Type}{f:T->AV}{kv:List (Int × T)}
theorem ad.Hb (ρ:Hd) (f:T->AV) (a:bG α.tm g=some true) (b:∀kv:List (Int × T),kv=[]->ad P w0 rd n Q (.bc false l K) (bP d α (.mp S.nx)) (S.new (.mb (ρ.h (dW f) kv)))):ad P w0 rd n Q (.bc false (⟨d,g,.kQ none⟩::l) K) α S:=by
 have h:=b [] rfl;rw[ρ.eq]at h;exact ad.op (i:=⟨d,g,.kQ none⟩) a ae.Hb h
theorem ad.g_ {c:Bool}{k:Nat}(b:bG α.tm g=some true) (e:x.ev α.tm=.mp k) (j:S.get k=some (.mb (ρ.h (dW f) kv))) (hi:i.ev α.tm=.v (.int .i64 m))
  (o:∀v,aH kv m=some v->ad P w0 rd n Q (.bc false l K) (bP d α (if c then .aL [f v,.v (.bool true)] else f v)) S) (p:aH kv m=none->ad P w0 rd n Q (.bc false l K) (bP d α (if c then .aL [z,.v (.bool false)] else z)) S) :
  ad P w0 rd n Q (.bc false (⟨d,g,.look z c x i⟩::l) K) α S:=by
 have h:=ae.g_ (P:=P) (w0:=w0) (z:=z) (c:=c) e j (by rw[ρ.eq];exact rq) hi;rw[ρ.eq,x_]at h;refine ad.op (i:=⟨d,g,.look z c x i⟩) b h ?_;cases a:aH kv m with
 |some v=>exact o v a
 |none=>exact p a
theorem ad.yu {k:Nat}{v:T}(c:bG α.tm g=some true) (e:x.ev α.tm=.mp k) (j:S.get k=some (.mb (ρ.h (dW f) kv))) (hi:i.ev α.tm=.v (.int .i64 m)) (o:b.ev α.tm=f v)
  (p:∀a,a=iy kv m v->ad P w0 rd n Q (.bc false l K) (bP d α (.v undef)) (S.set k (some (.mb (ρ.h (dW f) a))))):ad P w0 rd n Q (.bc false (⟨d,g,.oD x i b⟩::l) K) α S:=by
 have h:=ae.yu (P:=P) (w0:=w0) e j (by rw[ρ.eq];exact rq) hi o;rw[ρ.eq,Fu,<-ρ.eq (dW f)]at h;exact ad.op (i:=⟨d,g,.oD x i b⟩) c h (p _ rfl)
theorem ad.Z4 {lg:List (List Nat × List Nat × Bool)}{k:Nat}{z0:T}(b:bG α.tm g=some true) (c:x.ev α.tm=.mp k) (o:S.get k=some (.mb (ρ.h (dW f) kv))) (hi:i.ev α.tm=.v (.int .i64 m)) (p:f z0=z) (q:aH kv m=none)
  (r:∀a (j:Int),a=kv++[(m,z0)]->j=kv.length->ad P w0 rd n Q (.j6 B V (lg++[([k],[k],false)]) rs l K) (bP d α (.aL [z,.v (.int .i64 j)])) (eP S [(k,some (.mb (ρ.h (dW f) a)))] false)):ad P w0 rd n Q (.j6 B V lg rs (⟨d,g,.FI z x i⟩::l) K) α S:=by
 have h:=a_.FI (P:=P) (w0:=w0) (B:=B) (z:=z) c o (by rw[ρ.eq];exact rq) hi (by rw[ρ.eq,x_,q];rfl);have s:=r _ _ rfl rfl;have e:ρ.h (dW f) kv++[(c_ m,z)]=ρ.h (dW f) (kv++[(m,z0)]):=by rw[ρ.eq,ρ.eq];simp[dW,p]
 have t:(ρ.h (dW f) kv).length=kv.length:=by rw[ρ.eq];simp[dW]
 rw[e,t]at h;exact ad.eW (i:=⟨d,g,.FI z x i⟩) b h s
theorem ad.Z5 {lg:List (List Nat × List Nat × Bool)}{k:Nat}{j:Int}{v z0:T}{a:List (Int × T)}(q:bG α.tm g=some true) (r:x.ev α.tm=.mp k) (s:S.get k=some (.mb (ρ.h (dW f) kv))) (hi:i.ev α.tm=.v (.int .i64 j)) (t:b.ev α.tm=f v) (u:kv=a++[(m,z0)]) (w:j=a.length)
  (y:∀c,c=a++[(m,v)]->ad P w0 rd n Q (.j6 B V (lg++[([k],[k],false)]) rs l K) (bP d α (.v undef)) (eP S [(k,some (.mb (ρ.h (dW f) c)))] false)):ad P w0 rd n Q (.j6 B V lg rs (⟨d,g,.FK x i b⟩::l) K) α S:=by
 subst u w;have o:(dW f a).length=a.length:=by simp[dW]
 have e:dW f (a++[(m,z0)])=dW f a++[(c_ m,f z0)]:=by simp[dW]
 have h:=a_.FK (P:=P) (w0:=w0) (B:=B) (p:=(c_ m,f z0)) r s hi t (by rw[ρ.eq,e,<-o];simp);have z:=y _ rfl;have A:(ρ.h (dW f) (a++[(m,z0)])).set a.length (c_ m,f v)=ρ.h (dW f) (a++[(m,v)]):=by
  rw[ρ.eq,ρ.eq,e,<-o,bC_ _ _ (ac_ _)];simp[dW]
 rw[A]at h;exact ad.eW (i:=⟨d,g,.FK x i b⟩) q h z
end
section
variable {P:Program}{w0:World}{n:Nat}{α:AA}{S S':af}{r:AV}
def Se (P:Program) (t:Target):Prop:=∃(cL:Array TypeId) (b:TypeId) (c:Array Bool) (mt a d:TypeId) (kk:IntKind),t=.builtin .delete cL b c/\cL[0]?=some mt/\P.underlying mt=some (.map a d)/\P.underlying a=some (.int kk)
theorem Us {g:Gh}{t:Target}{k:Nat}(r:St w0 A g S w) (K:Se P t) (s:S.get k=some (.mp es)) (hi:oB es) (u:g.al k) :
  ∃w',(invoke t #[.map (some (g.ob k)),.int .i64 m]).run P w=.ok (.value (.tuple #[])) w'/\St w0 A g (S.set k (some (.mp (IM es m)))) w'/\Ext A g w g w':=by
 obtain⟨cL,M,N,mt,v,O,kk,rfl,F,G,x⟩:=K;obtain⟨_,_,entries,clock,p,y,h⟩:=r.cT k _ s u;have l:=CU y h hi (kk:=kk) m;have n:∀b,(Instr.checkKey b 10000 v (.int .i64 m)).run P w=.ok () w:=λb=>run_checkKey x b m;unfold IM;cases z:lW es m with
 |none =>
  rw[z]at l;obtain⟨w',q1,B,C⟩:=r.CQ (P:=P) s u p (entries':=entries) (clock':=clock) (es':=es) y h;refine⟨w',?_,B,C⟩;have E:(Instr.findKey v (.int .i64 m) entries.toList).run P w=.ok none w:=run_findKey x l;simp[invoke,builtin,Builtin.delete_,F,Sem.run_bind,run_underlying G,gV p,n,E,q1]
 |some j =>
  obtain⟨a,L⟩:=wG hi z;obtain⟨e,H,Q,R⟩:=h j _ a L;rw[z]at l;simp only[H,aE_]at l;have I:j < entries.size:=(ce_.1 H).1;have o:entries.eraseIdxIfInBounds j=entries.eraseIdx j I:=by simp[Array.eraseIdxIfInBounds,I]
  obtain⟨w',q1,B,C⟩:=r.CQ (P:=P) s u p (entries':=entries.eraseIdxIfInBounds j) (clock':=clock) (es':=es.eraseIdx j) (by
   rw[o,Array.size_eraseIdx,List.length_eraseIdx,if_pos (by omega),y]) (λi key J q=>by
   rw[List.getElem?_eraseIdx]at q;rw[o,Array.getElem?_eraseIdx];split at q
   ·rename_i c;rw[if_pos c];exact h i key J q
   ·rename_i c;rw[if_neg c];exact h (i+1) key J q)
  refine⟨w',?_,B,C⟩;have E:(Instr.findKey v (.int .i64 m) entries.toList).run P w=.ok (some (j,e.val)) w:=run_findKey x l;simp[invoke,builtin,Builtin.delete_,F,Sem.run_bind,run_underlying G,gV p,n,E,q1]
theorem O9 {fr:Frame}{cs:List Frame}{w':World}{d:Deferred}{ds:List Deferred}{b:Builtin}{cL:Array TypeId}{ty:TypeId}{c:Array Bool}{v:Value}(h:fr.mode ≠ .run) (f:fr.defers=d::ds) (g:d.target=.builtin b cL ty c)
  (hi:(invoke d.target d.args).run P w=.ok (.value v) w'):step P (lone fr cs w)=.next (lone { fr with defers:=ds } cs w'):=by
 obtain⟨t,a⟩:=d;simp only at g hi;subst g;refine step_lone_go ?_;cases e:fr.mode with
 |run=>exact absurd e h
 |returning=>simp[stepG,unwind,callDeferred,e,f,Sem.runT_eq,hi,GStep.bare_after]
 |panicking chain=>simp[stepG,unwind,callDeferred,e,f,Sem.runT_eq,hi,GStep.bare_after]
def zN (F:Fence) (n:Nat) (P:Program) (fn:Func) (tmps:Array Value) (R:Ending->World->Prop):List Deferred->World->Prop
 |[],w=>LeavesIn F n P fn tmps R [] .returning w
 |d::ds,w=>∃a,((∃r,d.target=.collected r/\(Instr.takeDeferred r).run P w=.ok [] a)\/(∃b cL c e v,d.target=.builtin b cL c e/\(invoke d.target d.args).run P w=.ok (.value v) a))/\zN F n P fn tmps R ds a
theorem BW {n:Nat}{fn:Func}:∀(ds:List Deferred) (w:World) (fr:Frame) (cs:List Frame),fr.mode=.returning->fr.defers=ds->fr.tmps=tmps->P.funcs[fr.fn]?=some fn->fr.kind=.normal->F.fn fr.fn->F.room (cs.length+1+n) ->
  zN F n P fn tmps R ds w->∃e w' a,R e w'/\ComesIn (Machine.fenced P F) P (lone fr cs w) (lone a cs w') e/\a.fn=fr.fn/\a.leaving P w' e:=by
 intro ds
 induction ds with
 |nil=>exactλw fr cs l c m o p f i h=>leaves_stepsIn [] .returning w fr cs l c m o p f i h
 |cons d ds E =>
  intro w fr cs l c m o p f i h;obtain⟨w',h,G⟩:=h;have q:fr.mode ≠ .run:=by grind
  rcases h with ⟨r,j,t⟩|⟨b,cL,H,s,v,j,hinv⟩
  ·have u:=step_collected (cs:=cs) q c j t;have x:(lone fr cs w).fenced P F:=fenced_out f i q c (λg k=>by rw[j]at k;simp[Target.leads]at k);obtain⟨y,z,a,A,B,C,D⟩:=E w' { fr with defers:=[]++ds } cs l rfl m o p f i G;exact⟨y,z,a,A,ComesIn.of_steps (.one x u) B,C,D⟩
  ·have u:=O9 (cs:=cs) q c j hinv;have x:(lone fr cs w).fenced P F:=fenced_out f i q c (λg k=>by rw[j]at k;simp[Target.leads]at k);obtain⟨y,z,a,A,B,C,D⟩:=E w' { fr with defers:=ds } cs l rfl m o p f i G;exact⟨y,z,a,A,ComesIn.of_steps (.one x u) B,C,D⟩
def Uu (F:Fence) (n:Nat) (P:Program) (fn:Func) (R:Ending->World->Prop):Exit->Act->World->Prop
 |.normal,a,w|.ret,a,w=>zN F n P fn a.tmps R a.defers w
 |_,_,_=>False
theorem IN {n:Nat}{fn:Func}{c:Code}{args:Array Value}
  (j:P.funcs[f]?=some fn) (y:fn.body=some c) (d:F.fn f)
  (h:c.wpIn F n P (Uu F n P fn R) { tmps:=args++Array.replicate (fn.ntmps - args.size) undef,defers:=[] } w) (z:F.round=none:=by rfl):CallsIn F n P f args w R:=by
 refine⟨d,λk i=>?_⟩
 let b:Frame:={ (default:Frame) with fn:=f,kind:=.normal,roundOf:=none }
 have A:Frame.enter P f args .normal =
   b.atR { tmps:=args++Array.replicate (fn.ntmps - args.size) undef,defers:=[] } [.code c]:=by
  simp[Frame.enter,Frame.atR,j,y,b]
 obtain⟨e,g,x,a,m⟩:=h b [] k z.symm d i;rw[<-A]at m;cases e with
 |normal =>
  obtain⟨o,p,q,r,s,t,u⟩:=BW g.defers x { b.atR g [] with mode:=.returning } k rfl rfl rfl j rfl d i a;exact⟨o,p,q,r,ComesIn.of_steps (StepsIn.trans m (.one (fenced_calm (fr:=b.atR g []) d i rfl) (stepR_end rfl))) s,t,u⟩
 |ret =>
  obtain⟨todo,v⟩:=m.1 rfl;obtain⟨o,p,q,r,s,t,u⟩:=BW g.defers x { b.atR g todo with mode:=.returning } k rfl rfl rfl j rfl d i a;exact⟨o,p,q,r,ComesIn.of_steps v s,t,u⟩
 |panic chain=>exact a.elim
 |exit id=>exact a.elim
 |goto l=>exact a.elim
 |outgrown=>exact a.elim
inductive zO (P:Program):af->List DE->af->Prop
 |nil {S:af}:zO P S [] S
 |ob {S S':af}{k:Nat}{ks:List DE}(hk:S.get k=some .df) (h:zO P (S.set k none) ks S'):zO P S (.ob k::ks) S'
 |del {S S':af}{t:Target}{k:Nat}{i:Int}{ks:List DE}{es:List (Value × AV)}(ht:Se P t) (hk:S.get k=some (.mp es)) (he:oB es) (h:zO P (S.set k (some (.mp (IM es i)))) ks S'):zO P S (.del t k i::ks) S'
theorem Uv {m:Nat}{fn:Func}{ks:List DE}{S S':af}(s:zO P S ks S'):∀{g:Gh}{w:World},St w0 A g S w->(∀d ∈ ks,g.al d.k) ->
  (∀w',St w0 A g S' w'->Ext A g w g w'->∃v,(results fn tmps).run P w'=.ok v w'/\R (.returned v) w')->zN F m P fn tmps R (ks.map (L_ g.ob)) w:=by
 induction s with
 |nil=>exactλa _ h=>h _ a (Ext.refl ..)
 |ob c _ e =>
  intro g w a b h;obtain⟨w',f,j,l⟩:=a.take (P:=P) c (b _ (.head _));exact⟨w',.inl ⟨_,rfl,f⟩,e l (λd n=>b d (.tail _ n)) λo p q=>h o p (j.trans q)⟩
 |@del S S' t k i ks es r c u _ e =>
  intro g w a b h;obtain⟨w',f,j,l⟩:=Us (m:=i) a r c u (b _ (.head _));obtain⟨cL,x,y,mt,z,B,kk,rfl,_⟩:=r;exact⟨w',.inr ⟨_,_,_,_,_,rfl,f⟩,e j (λd n=>b d (.tail _ n)) λo p q=>h o p (l.trans q)⟩
def Xs (P:Program) (b:List QR) (R:AV->af->Prop) (ex:Exit) (α:AA) (S:af):Prop :=
 KV ex=true/\∃S' r,zO P S α.df S'/\(match v_ α.tm S' b with|some [a]=>some a|some l=>some (.aL l)|none=>none)=some r/\R r S'
theorem oc.amK {R:AV->af->Prop}(F:oc P f q n) (t:args.length<=n) (h:ad P w0 false n (Xs P q.2 R) (.run q.1 []) ⟨nI args,[]⟩ S):∃r S',aG P w0 f args S r S'/\R r S':=by
 obtain⟨fn,c,u,x,y,Q,z,B,C⟩:=F.out;obtain⟨ex,D,S1,E,G,S',r,H,T,I⟩:=h c z B;have i:CX P fn.results D S'=some r:=by grind[CX,Ml]
 refine⟨r,S',⟨C,λF m A g d w k J K=>?_⟩,I⟩;have key:CallsIn F.plain m P f d w λe a=>∃v b,e=.returned v/\aN b a r v/\St w0 A b S' a/\Ext A g w b a:=by
  refine IN u x (k.1 f) ?_ rfl;rw[y];refine wpIn_mono (E F.plain m A g _ w k.plain rfl J (AT K t)) ?_;rintro ex' l a ⟨rfl,b,L,j,M⟩;have o:zN F.plain m P fn l.tmps (λe a=>∃v b,e=.returned v/\aN b a r v/\St w0 A b S' a/\Ext A g w b a) l.defers a:=by
   rw[j.df];refine Uv H L j.wK λU p s=>?_;obtain⟨v,N,O⟩:=Hc p (j.later s.toLater) i;exact⟨v,N,v,b,rfl,O,p,M.trans s⟩
  cases ex' with
  |normal=>exact o
  |ret=>exact o
  |_=>cases G
 exact key
theorem oc.aiq {r':AV}(B N:Nat) (so:List (Nat × Ob)) (F:oc P f q n) (a:args.length<=n) (b:Nat.ble S.nx B=true) (c:Nat.ble B N=true)
  (h:ad P w0 false n (Xs P q.2 λr S'=>∃m,kf B m N r r'/\fO B m N S' so/\qD B m (so.map (·.1))=true) (.run q.1 []) ⟨nI args,[]⟩ S):aG P w0 f args S r' (aq so N):=by
 obtain⟨r,S',d,m,e,g,i⟩:=oc.amK F a h;exact d.canon b e g i c
end
end Go.Proofs.YtbpabjmnhggajaaGreat
