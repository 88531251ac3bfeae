import Derived.Test.YtbpabjmnhggajaaGreatOr50
namespace Go.Proofs.YtbpabjmnhggajaaGreat
set_option linter.all false
set_option maxRecDepth 100000
open Go.RowKit
variable {e:Int}{E:List (Tm × Tm)}{S:af}
section
attribute [local irreducible] ah aG ae ad
def aoi:FQ 47 Tryz.f47:=aF Tryz.func47 Tryz.call47
def qA:List Nat:=[8,4,18,5,2,29,6,0,17,19,16,1,27,30,32]
def Tw (ρ:Hd) (r:List Gl × Bool × Int):AV:=.aL [cE ρ r.1,.v (.bool r.2.1),iv r.2.2]
section
variable {w0:World}{ρ:Hd}
theorem Za (r:List Gl × Bool × Int):Pure (Tw ρ r):=.aL (Iu (dM _) .v .v)
theorem V8 {a:AV}{b:Bool}{r:List Gl × Bool × Int}(h:r=(r.1,b,e)) (f:aP S a (cE ρ r.1)):aP S (.aL [a,.v (.bool b),.v (.int .i64 e)]) (Tw ρ r):=by
 rw[h];refine .aL rfl λi x g c d=>?_
 match i with
 |0 =>
  obtain rfl:=oJ_ c;obtain rfl:=oJ_ d;exact f
 |1 =>
  obtain rfl:=oJ_ c;obtain rfl:=oJ_ d;exact .refl _
 |2 =>
  obtain rfl:=oJ_ c;obtain rfl:=oJ_ d;exact .refl _
 |i+3=>simp at c
theorem Zb (p:Pg) (i j:Int) (a b:Rl) (f t:List At) (u:List Bd) (U:u.length<=1099511627776) (V:qW u) (W:nX 200 u) (X:(a.guard++b.guard).length<=1000) (E:∀g ∈ a.guard++b.guard,mJ 200 g) :
  ah Tryz.prog w0 47 [.agg (c7 ρ p i j a b f t),eg ρ u] (Tw ρ (lE u (a.guard++b.guard) [] true)):=by
 have h:=VQ (w0:=w0) (ρ:=ρ) a.guard b.guard (by omega);obtain⟨L,F⟩:∃L,L=a.guard++b.guard:=⟨_,rfl⟩;rw[<-F]at X E h ⊢;clear F;obtain⟨R,G⟩:∃R,R=lE u L [] true:=⟨_,rfl⟩;rw[<-G];have cU:=l8 (ρ:=ρ) p i j a b f t;obtain⟨ds,rs⟩:=p;obtain⟨an,ak,ar,ag,ab,av⟩:=a;obtain⟨bn,bk,br,bg,jr,bv⟩:=b;dsimp only at h;unfold c7;refine st aoi qA ((Za _)) ?_;refine ad.op rfl (ae.ez rfl h ⟨.sl λr H x q=>by
  simp only[ad_,as_,or_false]at H;rcases H with rfl|rfl<;>(obtain rfl:=ae_.1 q;exact dM _),trivial⟩) ?_
 refine gq qA ?_;refine bS λm Y=>?_;rw[au]at Y;refine gq qA ?_
 refine ad.aK (σ:=Int × (List Gl × Nat) × Bool) 1 2 [] (λp=>[(1,eg ρ u),(4,.gr 1 3 p.2.1.2),(5,.v (.bool p.2.2)),(16,cE ρ L),(17,.v (.int .i64 m)),(18,.v (.int .i64 p.1))]) [] (λp=>[(1,.arr 3 (ρ.h (List.map (jf ρ)) p.2.1.1) 0 false)])
  (λp=>∃z:Nat,p.1=z/\z<=L.length/\R=lE u (L.drop z) p.2.1.1 p.2.2/\p.2.1.2=p.2.1.1.length/\p.2.1.1.length<=z) (λp=>L.length - p.1.toNat) (0,([],0),true) ⟨0,rfl,by omega,by grind,rfl,by simp⟩ rfl cz ?_
 rintro⟨i2,⟨I,J⟩,K⟩ ⟨z,M,tD,e,n,Z⟩;simp only at M e n Z;clear G;refine gq qA ?_;refine bq (λN=>?_) (λN=>?_)<;>(try simp only[bL]at N)
 rotate_left
 ·rw[aA_ (by omega),lE]at e;refine gq qA ?_;refine ad.ao ?_;refine gq qA ?_;refine fq ?_;refine V8 (by grind) ?_;rw[e];exact aP.grow rfl n
 obtain⟨x,q,aV⟩:=aD (l:=L) (k:=z) (by omega);have s:=E x (aa_ q);have B:=s.app W V (by decide);have O:=Vu (w0:=w0) (ρ:=ρ) U x (by have:=s.2.1;omega);have C:=zJ (w0:=w0) (ρ:=ρ) (im u x) (B.ok (by decide)) s.2.2;have D:=acP (w0:=w0) (ρ:=ρ) (im u x) (B.mono (by decide));rw[aV,lE]at e;obtain⟨y,P⟩:∃y,y=im u x:=⟨_,rfl⟩;rw[<-P]at O C D e;obtain⟨c,Q⟩:∃c,c=dE y:=⟨_,rfl⟩;obtain⟨d,S⟩:∃d,d=kJ y:=⟨_,rfl⟩;rw[<-Q]at C e;rw[<-S]at D e;clear Q S P B s;obtain⟨xo,xn,xa⟩:=x;obtain⟨yo,yn,ya⟩:=y;refine gq qA ?_;refine ad.op rfl (ae.ind rfl rfl (aB (l:=L) M q) (aA λ_=>rfl)) ?_;refine gq qA ?_;refine ad.op rfl (pl O) ?_;refine gq qA ?_;refine ad.op rfl (pl C) ?_;cases c with
 |false =>
  rw[if_neg (by decide)]at e;refine gq qA ?_;refine ad.bh ?_;refine gq qA ?_;refine fq ?_;refine V8 (by grind) ?_;rw[e,cE,bX];exact aP.wk
 |true =>
 rw[if_pos rfl]at e;refine gq qA ?_;refine ad.op rfl (pl D) ?_;refine gq qA ?_;refine bq (λv=>?_) (λv=>?_)<;>(try simp only[bL]at v)
 ·rw[if_pos v]at e;refine gq qA ?_;refine cw (λo T=>?_);refine gq qA ?_;refine ad.az (σ:=Int × (List Gl × Nat) × Bool) (o,(I,J),false) [] ⟨z+1,by grind,by omega,e,n,by grind⟩ ?_ cz;simp only;omega
 rw[if_neg v]at e;refine gq qA ?_;refine bq (λw=>?_) (λw=>?_)<;>(try simp only[bL]at w)
 rotate_left
 ·rw[if_neg w]at e;refine gq qA ?_;refine cw (λo T=>?_);refine gq qA ?_;refine ad.az (σ:=Int × (List Gl × Nat) × Bool) (o,(I,J),K) [] ⟨z+1,by grind,by omega,e,n,by grind⟩ ?_ cz;simp only;omega
 rw[if_pos w]at e;refine gq qA ?_;refine ad.app (x:=(⟨yo,yn,ya⟩:Gl)) (f:=jf ρ) rfl rfl rfl n (λ_=>rfl) rfl rfl rfl rfl (by omega) λk3 n3 vM kT=>?_;rw[<-vM]at e;refine gq qA ?_;refine cw (λo T=>?_);refine gq qA ?_;refine ad.az (σ:=Int × (List Gl × Nat) × Bool) (o,(k3,n3),K) [(1,3)] ⟨z+1,by grind,by omega,e,kT,by grind⟩ ?_ cz;simp only;omega
end
end
mutual
def Kw:Tm->Tm
 |⟨k,i,n,a⟩=>⟨k,i,if n.size<=LQ then n else ⟨#[]⟩,Gq a⟩
def Gq:List Tm->List Tm
 |[]=>[]
 |x::l=>Kw x::Gq l
end
mutual
theorem ON (s:Int->Tm):∀t:Tm,t.ok->fI (λv=>Kw (s v)) t=Kw (fI s t)
 |⟨k,i,n,a⟩,h=>by
  rw[Tm.ok]at h;rw[fI,fI];split
  ·rfl
  ·rw[Kw,if_pos h.2.1,Rq s a h.2.2]
theorem Rq (s:Int->Tm):∀l:List Tm,dG l->jJ (λv=>Kw (s v)) l=Gq (jJ s l)
 |[],_=>by rw[jJ,jJ,Gq]
 |x::l,h=>by
  rw[dG]at h;rw[jJ,jJ,Gq,ON s x h.1,Rq s l h.2]
end
mutual
theorem aa5 (f:Int->Tm):∀t:Tm,eh t->Kw t=fI f t->cR t<=200->t.ok
 |⟨k,i,n,a⟩,h,e,b=>by
  rw[eh]at h;rw[cR]at b;rw[Tm.ok];by_cases c:k=1
  ·rw[if_pos c]at h;obtain⟨rfl,rfl⟩:=h;exact⟨by simp,by simp[ByteArray.size],by rw[dG];trivial⟩
  ·rw[if_neg c]at h;rw[Kw,fI,if_neg c]at e;injection e with _ _ d g;have j:=my a;refine⟨ay_ j (ay_ (by omega:bp a<=200) (by decide)),?_,V9 f a h.1 g (by omega)⟩;split at d
   ·grind
   ·rw[<-d];simp[ByteArray.size]
theorem V9 (f:Int->Tm):∀l:List Tm,gH l->Gq l=jJ f l->bp l<=200->dG l
 |[],_,_,_=>by rw[dG];trivial
 |x::l,h,e,b=>by
  rw[gH]at h;rw[bp]at b;rw[Gq,jJ]at e;injection e with m o;rw[dG];exact⟨aa5 f x h.1 m (by omega),V9 f l h.2 o (by omega)⟩
end
def V_ (E:List (Tm × Tm)):List Int:=E.flatMap λe=>dO e.1++dO e.2
theorem Rr:∀(E:List (Tm × Tm)),(∀e ∈ E,cR e.1<=200/\cR e.2<=200)->(V_ E).length<=400*E.length
 |[],_=>by simp[V_]
 |e::E,h=>by
  have b:=h e (by simp);have a:=Rr E λx c=>h x (by grind);have d:=yR e.1;have f:=yR e.2;unfold V_ at a ⊢;rw[bm_,af_,af_,aw_];omega
mutual
theorem Wa {f g:Int->Tm}:∀t:Tm,(∀w,mL w t->f w=g w)->fI f t=fI g t
 |⟨k,i,n,a⟩,h=>by
  rw[fI,fI];by_cases b:k=1
  ·grind[mL]
  ·rw[if_neg b,if_neg b,Rs a λw c=>h w (by grind[mL])]
theorem Rs {f g:Int->Tm}:∀l:List Tm,(∀w,nK w l->f w=g w)->jJ f l=jJ g l
 |[],_=>by rw[jJ,jJ]
 |x::l,h=>by rw[jJ,jJ,Wa x λw c=>h w (by grind[nK]),Rs l λw c=>h w (by grind[nK])]
end
theorem acQ {s:Int->Tm}(h:AU E s) (j:∀e ∈ E,eh e.1/\eh e.2) {v:Int}(l:v ∉ V_ E):s v=vr v:=by
 have m:∀e ∈ E,¬ mL v e.1/\¬ mL v e.2:=λe b=>by
  refine⟨λf=>l ?_,λf=>l ?_⟩
  ·exact cL_.2 ⟨e,b,az_.2 (.inl ((Dv _ (j e b).1).1 f))⟩
  ·exact cL_.2 ⟨e,b,az_.2 (.inr ((Dv _ (j e b).2).1 f))⟩
 have key:∀t,¬ mL v t->fI (λw=>if w=v then vr v else s w) t=fI s t:=λt c=>Wa t λw o=>by grind
 have d:=h.gen (λw=>if w=v then vr v else s w) (λe b=>by rw[key _ (m e b).1,key _ (m e b).2];exact h.Jt e b) v;simp only[if_pos]at d;obtain⟨w,g⟩:∃w,s v=vr w:=by
  obtain⟨t,c⟩:∃t,t=s v:=⟨_,rfl⟩;rw[<-c]at d;obtain⟨k,i,n,a⟩:=t;rw[fI]at d;by_cases p:k=1
  ·exact⟨i,by rw[<-c];exact GY (by rw[c];exact h.wf v) p⟩
  ·grind[vr]
 rw[g,wD]at d;have q:=h.idem v w (by grind[vr,mL]);by_cases e:w=v
 ·grind
 ·grind
theorem Wb:∀{l:List Int},tv l->l.Nodup
 |[],_=>.nil
 |x::l,h=>bu_.2 ⟨λa=>by have:=h.1 x a;omega,Wb h.2⟩
theorem Zc (d:∀e ∈ E,(e.1.ok/\eh e.1/\cR e.1<=200)/\e.2.ok/\eh e.2/\cR e.2<=200):qW (kX fL E).1/\nX 200 (kX fL E).1/\(kX fL E).1.length<=400*E.length:=by
 have q:qW ([]:List Bd)/\nX 200 []/\([]:List Bd).length<=400*E.length:=⟨λb f=>(by grind),λb f=>(by grind),ax_ _⟩;unfold kX;split;rotate_left
 ·grind
 rename_i h;have c:=h.choose_spec;obtain⟨s,i⟩:∃s,s=h.choose.1:=⟨_,rfl⟩;obtain⟨l,j⟩:∃l,l=h.choose.2:=⟨_,rfl⟩;rw[<-i,<-j]at c ⊢;clear i j;unfold IE;split
 ·grind
 rename_i f;have n:∀v ∈ l,cR (s v)<=200:=λv g=>by grind[cR,fL]
 have o:uD E λv=>Kw (s v):=λe a=>by
  have k:=d e a;rw[ON s e.1 k.1.1,ON s e.2 k.2.1,c.c.Jt e a]
 refine⟨λb f=>?_,λb f=>?_,?_⟩
 ·obtain⟨v,g,rfl⟩:=av_.1 f;exact aa5 _ (s v) (c.c.wf v) (c.c.gen _ o v) (n v g)
 ·grind
 ·rw[aU_];refine ay_ (Oa (Wb c.a) (m:=V_ E) λv g=>?_) (Rr E λe a=>⟨(d e a).1.2.2,(d e a).2.2.2⟩);exact ck_ λp=>(c.m v).1 g (acQ c.c (λe a=>⟨(d e a).1.2.1,(d e a).2.2.1⟩) p)
theorem Gr {l r:List Tm}(c:∀x ∈ l,x.ok) (d:∀x ∈ r,x.ok):qW (gL l r).1/\nX 200 (gL l r).1/\(gL l r).1.length<=400*l.length:=by
 have p:qW ([]:List Bd)/\nX 200 []/\([]:List Bd).length<=400*l.length:=⟨λb g=>(by grind),λb g=>(by grind),ax_ _⟩;unfold gL;split
 ·grind
 rename_i i;split
 ·grind
 rename_i j;split;rotate_left
 ·grind
 rename_i q;have k:(l.zip r).length=l.length:=by grind
 rw[<-k];refine Zc λe m=>?_;have a:=bR_ m;have n:cd e.1=true:=ck_ λh=>i (dh_.2 ⟨_,a.1,by grind⟩);have o:cd e.2=true:=ck_ λh=>j (dh_.2 ⟨_,a.2,by grind⟩);have q1:=rH n (c _ a.1);have f:=rH o (d _ a.2);exact⟨⟨c _ a.1,q1.1,q1.2.2.2.2⟩,d _ a.2,f.1,f.2.2.2.2⟩
section
attribute [local irreducible] ah aG ae ad
def aoj:FQ 19 Tryz.f19:=aF Tryz.func19 Tryz.call19
def ve:List Nat:=[2,8,4,1,7,9,5,6,0,21,23,35,12,50,11,13,10]
def oV (ρ:Hd) (x:Pr):List AV:=[iv x.i,iv x.j,cE ρ x.st.goals,tu ρ x.st.store,eg ρ x.st.binds,ye ρ x.st.su,cE ρ x.st.known,iv x.st.next,iv x.st.fresh,.v (.bool x.st.failed),aR ρ aI false x.h0,aR ρ aI false x.h1]
def Kx (ρ:Hd) (x:Pr × Bool × Int):AV:=.aL [.agg (oV ρ x.1),.v (.bool x.2.1),iv x.2.2]
section
variable {w0:World}{ρ:Hd}
theorem wT (x:Pr):∀a ∈ oV ρ x,Pure a:=by simp[oV,dM,qO,fA,tL,bt,Pure.v,iv]
theorem OO (x:Pr × Bool × Int):Pure (Kx ρ x):=.aL (Iu (.agg (wT _)) .v .v)
theorem kN {T:Type}{f:T->List AV}:aP S (.sl true []) (aR ρ f false []):=by rw[bX];exact aP.wk
theorem qB:aP S (.aL [.agg [iv 0,iv 0,.sl true [],.sl true [],.sl true [],.sl true [],.sl true [],iv 0,iv 0,.v (.bool false),.sl true [],.sl true []],.v (.bool false),iv e]) (Kx ρ (Rc,false,e)):=by
 have H:iq S [iv 0,iv 0,.sl true [],.sl true [],.sl true [],.sl true [],.sl true [],iv 0,iv 0,.v (.bool false),.sl true [],.sl true []] (oV ρ Rc):=⟨.refl _,.refl _,kN,kN,kN,kN,kN,.refl _,.refl _,.refl _,kN,kN,trivial⟩;have K:iq S [.agg [iv 0,iv 0,.sl true [],.sl true [],.sl true [],.sl true [],.sl true [],iv 0,iv 0,.v (.bool false),.sl true [],.sl true []],.v (.bool false),iv e] [.agg (oV ρ Rc),.v (.bool false),iv e]:=⟨.agg H.len H.at,.refl _,.refl _,trivial⟩;exact .aL K.len K.at
theorem agX {i j n v a b:Int}{I:List Im}{K:List Gl}{h0 h1:List Int}(c:n=a) (d:v=b):aP S (.aL [.agg [iv i,iv j,.sl true [],tu ρ I,.sl true [],.sl true [],cE ρ K,iv n,iv v,.v (.bool false),aR ρ aI false h0,aR ρ aI false h1],.v (.bool true),iv 0]) (Kx ρ (⟨i,j,⟨[],I,[],[],K,a,b,false⟩,h0,h1⟩,true,0)):=by
 subst c d;have H:iq S [iv i,iv j,.sl true [],tu ρ I,.sl true [],.sl true [],cE ρ K,iv n,iv v,.v (.bool false),aR ρ aI false h0,aR ρ aI false h1] (oV ρ ⟨i,j,⟨[],I,[],[],K,n,v,false⟩,h0,h1⟩):=⟨.refl _,.refl _,kN,.refl _,kN,kN,.refl _,.refl _,.refl _,.refl _,.refl _,.refl _,trivial⟩;have J:iq S [.agg [iv i,iv j,.sl true [],tu ρ I,.sl true [],.sl true [],cE ρ K,iv n,iv v,.v (.bool false),aR ρ aI false h0,aR ρ aI false h1],.v (.bool true),iv 0] [.agg (oV ρ ⟨i,j,⟨[],I,[],[],K,n,v,false⟩,h0,h1⟩),.v (.bool true),iv 0]:=⟨.agg H.len H.at,.refl _,.refl _,trivial⟩;exact .aL J.len J.at
theorem Jh:∀{F:List At}{l:List Int},(∀x ∈ F,qf 200 x)->(j9 F l).length<=200*F.length
 |[],_,_=>by simp[j9]
 |f::F,[],_=>by simp[j9]
 |f::F,m::l,h=>by
  have a:=Jh (F:=F) (l:=l) λx b=>h x (by grind);have c:=ay_ (my f.a) (h f (by simp)).2.1;rw[j9,af_,aw_];split
  ·grind
  ·omega
theorem Tx (p:Pg) (i j:Int) (a b:Rl) (f t:List At) (l:List Int) (J:f.length<=1000) (M:t.length<=1000) (N:l.length=f.length) (O:yT t l) (E:∀x ∈ f,qf 200 x) (F:∀x ∈ t,qf 200 x) (P:(a.guard++b.guard).length<=1000) (Q:∀g ∈ a.guard++b.guard,mJ 200 g) (S:(0<=a.vars/\a.vars<=1099511627776)/\0<=b.vars/\b.vars<=1099511627776) :
  ah Tryz.prog w0 19 [.agg (c7 ρ p i j a b f t),aR ρ aI false l] (Kx ρ (nY ⟨i,j,a,b,f,t⟩ l)):=by
 have n:=VJ (w0:=w0) (ρ:=ρ) p i j a b f t l J N O E F;have q:=Gr (l:=j9 f l) (r:=l6 t l) (λx G=>by obtain⟨y,n,o⟩:=Ar G;exact (E y n).1.mem x o) (λx G=>by obtain⟨y,n,o⟩:=As G;exact (F y n).1.mem x o);have A:(gL (j9 f l) (l6 t l)).1.length<=1099511627776:=by grind[Jh]
 obtain⟨R,c⟩:∃R,R=nY ⟨i,j,a,b,f,t⟩ l:=⟨_,rfl⟩;rw[<-c];unfold nY at c;simp only at c;obtain⟨⟨u,e⟩,K⟩:∃z,z=gL (j9 f l) (l6 t l):=⟨_,rfl⟩;rw[<-K]at n c A q;clear K;simp only at c A q;have o:=acF (w0:=w0) (ρ:=ρ) p i j a b f t l u J M (by omega) A q.1 q.2.1 E F;have B:=Zb (w0:=w0) (ρ:=ρ) p i j a b f t u A q.1 q.2.1 P Q;unfold Tb at c;obtain⟨z,C⟩:∃z,z=jE u l t 0 (jX u f ([],true)) []:=⟨_,rfl⟩;obtain⟨k,H⟩:∃k,k=lE u (a.guard++b.guard) [] true:=⟨_,rfl⟩;obtain⟨w,I⟩:∃w,w=upto f.length:=⟨_,rfl⟩;simp only at c;have T:z.1.1.length<=2000:=by
  obtain⟨_,_,_,h,_⟩:=By (u:=u) (l:=l) t 0 (jX u f ([],true)) [];rw[Bx]at h;simp only[aN_]at h;rw[C];omega
 rw[<-C,<-I]at o;rw[<-C,<-I,<-H]at c;rw[<-H]at B;clear C H I q A;have D:=l8 (ρ:=ρ) p i j a b f t;have L:Pure (aR ρ aI false l):=bt l;obtain⟨⟨U,ok⟩,Y⟩:=z;obtain⟨Z,V,ge⟩:=k;obtain⟨ds,rs⟩:=p;obtain⟨an,ak,ar,ag,ab,av⟩:=a;obtain⟨bn,bk,br,bg,jr,bv⟩:=b;simp only at c T S;unfold c7 at D n o B ⊢;unfold prA at o;unfold Tw at B;unfold xM at n;simp only at n o B;refine st aoj ve ((OO _)) ?_;refine og ve (ae.ez rfl n ⟨.agg D,L,trivial⟩) ?_;refine cn (λs=>?_) λs=>?_
 ·rw[if_neg s]at c;refine gq ve ?_;refine cn (λv=>?_) λv=>?_
  ·rw[if_pos v]at c;refine gq ve ?_;refine fq ?_;rw[c];exact qB
  ·rw[if_neg v]at c;refine gq ve ?_;refine fq ?_;rw[c];exact qB
 rw[if_pos s]at c;refine gq ve ?_;refine ad.op rfl (ae.ez rfl o ⟨.agg D,L,fA _,trivial⟩) ?_;cases ok with
 |false =>
  rw[if_neg (by decide)]at c;refine gq ve ?_;refine cn (λv=>?_) λv=>?_;rotate_left
  ·grind
  refine gq ve ?_;refine fq ?_;rw[c];exact qB
 |true =>
 rw[if_pos rfl]at c;refine gq ve ?_;refine cn (λv=>?_) λv=>?_
 ·grind
 refine gq ve ?_;refine og ve (ae.ez rfl B ⟨.agg D,fA _,trivial⟩) ?_;refine cn (λs=>?_) λs=>?_
 ·rw[if_pos (.inl s)]at c;refine gq ve ?_;refine fq ?_;rw[c];exact qB
 cases V with
 |false =>
  rw[if_pos (.inr rfl)]at c;refine gq ve ?_;refine fq ?_;rw[c,s];exact qB
 |true =>
 rw[if_neg (by grind)]at c;refine gq ve ?_;refine bS λm W=>?_;rw[au]at W;refine gq ve ?_;refine cw (λd hd=>?_);refine gq ve ?_;refine cw (λd2 X=>?_);refine gq ve ?_;refine fq ?_;rw[c];exact agX (by omega) X
end
end
section
attribute [local irreducible] ah aG ae ad
def qf7:FQ 7 Tryz.f7:=aF Tryz.func7 Tryz.call7
def g7:List Nat:=[10,3,1,6,7,2,11,12,15,0,9,38,69,70,74,83,14,85,13]
structure Ru (r:Rl):Prop where
 hn:(r.aM++r.rem).length<=4
 ha:∀x ∈ r.aM++r.rem,qf 200 x
 gn:r.guard.length<=12
 ga:∀g ∈ r.guard,mJ 200 g
 bn:r.body.length<=12
 ba:∀g ∈ r.body,bp g.a<=200
 v:0<=r.vars/\r.vars<=1099511627776
theorem Aw {ds:List Dc}{r:Rl}(h:nO ds r=0) (a:z_ r):Ru r:=by
 obtain⟨⟨d,e,f,i,j⟩,⟨n,l,m,k⟩,_⟩:=Vb h;unfold z8 at d;simp only[al_,decide_eq_true_eq]at d;have o:=a.av;have c:=a.gv;rw[af_]at k;exact⟨by grind,λx b=>by
   rcases az_.1 b with b|b
   ·exact⟨(a.kx x b).1.1,(Bp (e x b) (a.kx x b).1.1).2.2.2.2,(a.kx x b).2⟩
   ·exact⟨(a.rx x b).1.1,(Bp (f x b) (a.rx x b).1.1).2.2.2.2,(a.rx x b).2⟩,
  by omega,λg c=>⟨(a.gx g c).1.1,(HJ (i g c) (a.gx g c).1.1).2.2.2.2,(a.gx g c).2⟩,
  by omega,λg c=>(HJ (j g c) (a.bx g c).1.1).2.2.2.2,by omega,by omega⟩
mutual
theorem agY (k:Int):∀t:Tm,cR (mU k t)=cR t/\(t.ok->(mU k t).ok)
 |⟨d,i,n,a⟩=>by
  have e:=Ax k a;rw[mU];split
  ·grind[cR,Tm.ok]
  ·grind[cR,Tm.ok,rh]
theorem Ax (k:Int):∀l:List Tm,bp (Bv k l)=bp l/\(dG l->dG (Bv k l))
 |[]=>by grind[Bv]
 |x::l=>by
  have b:=agY k x;have c:=Ax k l;rw[Bv,bp,bp,dG,dG];exact⟨by grind,λh=>⟨b.2 h.1,c.2 h.2⟩⟩
end
theorem Ru.sh {r:Rl}(h:Ru r) (k:Int):Ru (nW k r):=by
 have d:∀x,qf 200 x->qf 200 (ou k x):=λx a=>by
  have:=Ax k x.a;rw[rh]at this;exact⟨this.2 a.1,by rw[ou,this.1];exact a.2.1,a.2.2⟩
 have e:∀x,mJ 200 x->mJ 200 (rQ k x):=λx a=>by
  have:=Ax k x.a;rw[rh]at this;exact⟨this.2 a.1,by rw[rQ,this.1];exact a.2.1,a.2.2⟩
 have f:=h.hn;unfold nW;refine⟨by grind,λx a=>?_,by simpa using h.gn,λg c=>?_,by simpa using h.bn,λg c=>?_,h.v⟩
 ·simp only[<-aM_]at a;obtain⟨y,b,rfl⟩:=av_.1 a;exact d y (h.ha y b)
 ·obtain⟨y,b,rfl⟩:=av_.1 c;exact e y (h.ga y b)
 ·obtain⟨y,b,rfl⟩:=av_.1 c;have:=Ax k y.a;rw[rh]at this;rw[rQ,this.1];exact h.ba y b
theorem Rw {f:At}{G:List Int->List (List Int)}{l:List Int}{B:Nat}(a:∀x,(G x).length<=B):∀(t:List At) (k:Nat),(nG f G l t k).length<=t.length*B
 |[],k=>by simp[nG]
 |h::t,k=>by
  have b:=Rw (f:=f) (l:=l) a t (k+1);rw[nG,af_,aw_,aJ_,br_];split
  ·grind
  ·grind
theorem uv {T:List At}(a:T.length<=4):∀(fs:List At) (l:List Int),(eS T fs l).length<=5 ^ fs.length
 |[],l=>by rw[eS];simp
 |f::fs,l=>by
  have b:=uv a fs (l++[-1]);have c:=Rw (f:=f) (l:=l) (uv a fs) T 0;have d:=aO_ (5 ^ fs.length) a;rw[eS,af_,aw_,Nat.pow_succ];omega
def Fg (ρ:Hd) (l:List Pr):AV:=aR ρ (oV ρ) false l
def xU (ρ:Hd) (x:List Pr × Int):AV:=.aL [Fg ρ x.1,iv x.2]
section
variable {w0:World}{ρ:Hd}
theorem Gs (l:List Pr):Pure (Fg ρ l):=dT λx _ a b=>wT x a b
theorem BE (x:List Pr × Int):Pure (xU ρ x):=.aL (vk (Gs _) .v)
theorem Ay {a:AV}{l:List Pr}(h:aP S a (Fg ρ l)):aP S (.aL [a,iv e]) (xU ρ (l,e)):=by
 have H:iq S [a,iv e] [Fg ρ l,iv e]:=⟨h,.refl _,trivial⟩;exact .aL H.len H.at
theorem Gt {p:Pg}{i j:Int}(h:¬ ((fM p).2=0/\0<=i/\i<=j/\j < p.rs.length)):pA p i j=([],2):=by grind[pA]
theorem Wc (p:Pg) (i j:Int) (b:Ac p) (h:¬ ((fM p).2=0/\0<=i/\i<=j/\j < p.rs.length)):ah Tryz.prog w0 7 [pg ρ p,iv i,iv j] (xU ρ ([],2)):=by
 have a:=IY (w0:=w0) (ρ:=ρ) p b;obtain⟨⟨f,g⟩,d⟩:∃c,c=fM p:=⟨_,rfl⟩;rw[<-d]at a h;have k:=pN (ρ:=ρ) p;clear d b;obtain⟨l,n⟩:=p;simp only at h a;refine st qf7 g7 ((BE _)) ?_
 repeat' (first
  |apply bK g7 a
  |refine cg g7 (λe=>?_) λe=>?_
  |refine lg g7 λm o=>?_
  |(refine fq ?_))
 all_goals first
  |exact Ay kN
  |exfalso;omega
theorem Ty (p:Pg) (i j:Nat) (k q:Int) (hi:k=i) (hj:q=j) (W:Ac p) (M:(fM p).2=0) (hij:i<=j) (a b:Rl) (N:p.rs[i]?=some a) (O:p.rs[j]?=some b) :
  ah Tryz.prog w0 7 [pg ρ p,iv k,iv q] (xU ρ (l7 (fE k q a b) (eS (fE k q a b).T (fE k q a b).F []) [])):=by
 have Az:=IY (w0:=w0) (ρ:=ρ) p W;have I:=Aw (pV M a (aa_ N)) (W.rr a (aa_ N));have u:=Aw (pV M b (aa_ O)) (W.rr b (aa_ O));have A:=u.sh a.vars;have My:j < p.rs.length:=(ar_.1 O).1;obtain⟨⟨c1,c2⟩,lh⟩:∃c,c=fM p:=⟨_,rfl⟩;rw[<-lh]at Az M;simp only at M;subst M;clear lh W;have MW:=u.hn;rw[af_]at MW
 have hS:=Pu (w0:=w0) (ρ:=ρ) a.vars b (by omega) (by omega) (by have:=u.gn;omega) (by have:=u.bn;omega)
  (λx v=>by have:=(u.ha x (by grind)).2.1;omega) (λx v=>by have:=(u.ha x (by grind)).2.1;omega) (λx v=>by have:=(u.ga x v).2.1;omega) (λx v=>by have:=u.ba x v;omega)
 unfold fE;simp only;clear u MW;obtain⟨t,zH⟩:∃t,t=nW a.vars b:=⟨_,rfl⟩;rw[<-zH]at hS A ⊢;clear zH;have dC:=I.hn;have cZ:=A.hn;have Ky:=Ga (w0:=w0) (ρ:=ρ) a (by grind);have Kz:=Ga (w0:=w0) (ρ:=ρ) t (by grind);have PH:(a.guard++t.guard).length<=1000:=by have:=I.gn;have:=A.gn;rw[af_];omega
 have P:∀g ∈ a.guard++t.guard,mJ 200 g:=λg hg=>(az_.1 hg).elim (I.ga g) (A.ga g);have lr:=I.v;have uY:=A.v;have B:=I.ha;have C:=A.ha;clear I A;obtain⟨F,hF⟩:∃F,F=a.aM++a.rem:=⟨_,rfl⟩;obtain⟨T,hT⟩:∃T,T=t.aM++t.rem:=⟨_,rfl⟩;rw[<-hF]at Ky dC B ⊢;rw[<-hT]at Kz cZ C ⊢;clear hF hT;have hL:=YS (w0:=w0) (ρ:=ρ) p k q a t F T;have hI:=YR (w0:=w0) (ρ:=ρ) p k q a t F T (by omega) (by omega);have J:=λl D=>Tg (w0:=w0) (ρ:=ρ) p k q a t F T l D;have w:=λl hn X=>Tx (w0:=w0) (ρ:=ρ) p k q a t F T l (by omega) (by omega) hn X B C PH P ⟨lr,uY⟩;have K:=l8 (ρ:=ρ) p k q a t F T;have EM:=pN (ρ:=ρ) p;have yG:=fQ (ρ:=ρ) a;have Zd:=fQ (ρ:=ρ) b;have ag1:=fQ (ρ:=ρ) t;have jZ:∀l ∈ eS T F [],yT T l/\l.length=F.length:=λl D=>by
  have:=Eu _ _ _ ⟨λm hm=>(by grind),by simp⟩ D;exact⟨this.1,by grind⟩
 have eD:(eS T F []).length<=625:=ay_ (uv cZ F []) (ay_ (cN_ (by decide) dC) (by decide));obtain⟨L,Q⟩:∃L,L=eS T F []:=⟨_,rfl⟩;rw[<-Q]at hI jZ eD ⊢;clear Q P PH B C;obtain⟨R,hR⟩:∃R,R=l7 ⟨k,q,a,t,F,T⟩ L []:=⟨_,rfl⟩;rw[<-hR];obtain⟨ds,S⟩:=p;simp only at N O My;unfold na at hI;obtain⟨Y,U,Z,ag,ab,av⟩:=a;obtain⟨bn,bk,br,bg,bb,bv⟩:=b;obtain⟨cn,V,cr,cg,cb,cv⟩:=t;refine st qf7 g7 ((BE _)) ?_
 repeat' (first
  |refine ad.op rfl (pl Az) ?_;refine gq g7 ?_
  |refine bq (λhb=>?_) (λhb=>?_)<;>(try simp only[bL]at hb)<;>(first|exact absurd hb (by decide)|refine gq g7 ?_)
  |refine bS λm hm=>?_;(try rw[au]at hm);refine gq g7 ?_
  |(refine fq ?_))
 all_goals first
  |exfalso;omega
  |skip
 refine ad.cP rfl (λT=>ae.ind rfl rfl (aB (l:=S) hi N) (aA λ_=>rfl)) ?_;refine gq g7 ?_;refine ad.cP rfl (λT=>ae.ind rfl rfl (aB (l:=S) hj O) (aA λ_=>rfl)) ?_;refine gq g7 ?_;refine ad.cP rfl (λT=>ae.ind rfl rfl (aB (l:=S) hi N) (aA λ_=>rfl)) ?_;refine gq g7 ?_;refine ad.cP rfl (λT=>pl hS) ?_;refine gq g7 ?_;refine ad.op rfl (pl Ky) ?_;refine gq g7 ?_;refine ad.op rfl (pl Kz) ?_;refine gq g7 ?_;refine ad.op rfl (ae.ez rfl hL ⟨.agg K,trivial⟩) ?_;refine gq g7 ?_;have k1:h_ 6 (.arr 1 [[.sl true []]] 0 true):=mu λa E=>by obtain rfl:=ae_.1 E;exact .sl λr h=>by grind
 have k2:h_ 6 (.arr 1 [[.v (.int .i64 0)]] 0 true):=mu λa E=>by obtain rfl:=ae_.1 E;exact .v
 have k3:h_ 6 (.arr 18 [(c7 ρ ⟨ds,S⟩ k q ⟨Y,U,Z,ag,ab,av⟩ ⟨cn,V,cr,cg,cb,cv⟩ F T)] 0 true):=mu K
 refine ad.range (σ:=List Pr × Nat) (λl:List Int=>[aR ρ aI false l]) L 6 7 [] [(6,.pt 1 1 0 0),(7,.pt 2 1 0 0),(10,.pt 3 18 0 0),(11,.pt 4 1 0 0)]
  (λs=>[(1,.arr 1 [[.sl true []]] 0 true),(2,.arr 1 [[.v (.int .i64 0)]] 0 true),(3,.arr 18 [(c7 ρ ⟨ds,S⟩ k q ⟨Y,U,Z,ag,ab,av⟩ ⟨cn,V,cr,cg,cb,cv⟩ F T)] 0 true),(4,.arr 1 [[.gr 6 12 s.2]] 0 true),(5,.df),(6,.arr 12 (ρ.h (List.map (oV ρ)) s.1) 0 false)])
  (λrest s=>(∀l ∈ rest,yT T l/\l.length=F.length)/\R=l7 ⟨k,q,⟨Y,U,Z,ag,ab,av⟩,⟨cn,V,cr,cg,cb,cv⟩,F,T⟩ rest s.1/\s.2=s.1.length/\s.1.length+rest.length<=625) ([],0) rfl (λa E=>by grind) (λa E=>by obtain rfl:=ae_.1 E;exact .ip K) hI rfl ⟨jZ,hR,rfl,by grind⟩ rfl
  (by intro p hp;simp only[ad_,as_,or_false]at hp;rcases hp with rfl|rfl|rfl|rfl<;>exact .pt (by decide)) rfl (λx=>⟨rfl,λa E=>by grind[bt]⟩)
  cz ?_ ?_
 ·rintro l rest ⟨out,n⟩ ⟨G,d,H,h4⟩;have D:=G l (by simp);have J:=J l (by omega);have w:=w l D.2 D.1;have G:∀y ∈ rest,yT T y/\y.length=F.length:=λy hy=>G y (by grind);rw[l7]at d;simp only at J w d H;simp only[aw_]at h4;obtain⟨o,X⟩:∃o,o=H2 k q U.length V.length l:=⟨_,rfl⟩;rw[<-X]at J d;obtain⟨⟨x,ok,e⟩,v⟩:∃z,z=nY ⟨k,q,⟨Y,U,Z,ag,ab,av⟩,⟨cn,V,cr,cg,cb,cv⟩,F,T⟩ l:=⟨_,rfl⟩;rw[<-v]at w d;clear X v D;obtain⟨xi,xj,⟨sg,ss,sb,sf,sk,sn,sr,sx⟩,x0,x1⟩:=x;unfold c7 at K J w ⊢;unfold Kx oV at w;simp only at w d;refine gq g7 ?_;refine ad.op rfl (ae.ez rfl J ⟨.agg K,bt _,trivial⟩) ?_;cases o with
  |false =>
   rw[if_neg (by decide)]at d;refine gq g7 ?_;exact ad.Mi (out,n) [] ⟨G,d,H,by grind⟩ cz
  |true =>
  rw[if_pos rfl]at d;refine gq g7 ?_;refine ad.op rfl (ae.ez rfl w ⟨.agg K,bt _,trivial⟩) ?_;refine gq g7 ?_;refine bq (λaZ=>?_) (λaZ=>?_)<;>(try simp only[bL]at aZ)
  ·rw[if_pos aZ]at d;refine gq g7 ?_;refine ad.amI [(1,.arr 1 [[.sl true []]] 0 true),(2,.arr 1 [[iv e]] 0 true),(5,.df)] [] cz ?_;refine gq g7 ?_;refine fq ?_;rw[d];exact Ay kN
  rw[if_neg (by grind)]at d;cases ok with
  |false =>
   rw[if_neg (by decide)]at d;refine gq g7 ?_;exact ad.Mi (out,n) [] ⟨G,d,H,by grind⟩ cz
  |true =>
  rw[if_pos rfl]at d;refine gq g7 ?_;refine ad.app (x:=(⟨xi,xj,⟨sg,ss,sb,sf,sk,sn,sr,sx⟩,x0,x1⟩:Pr)) (f:=oV ρ) rfl rfl rfl H (λ_=>rfl) rfl rfl rfl rfl (by omega) λZe n' h5 h6=>?_;rw[<-h5]at d;refine gq g7 ?_;exact ad.Mi (Ze,n') [(6,8)] ⟨G,d,h6,by grind⟩ cz
 ·rintro⟨out,n⟩ ⟨G,d,H,h4⟩;simp only at d H;rw[l7]at d;unfold c7;refine gq g7 ?_;refine fq ?_;rw[d];exact Ay (aP.grow rfl H)
theorem Rx (p:Pg) (i j:Int) (a:Ac p):ah Tryz.prog w0 7 [pg ρ p,iv i,iv j] (xU ρ (pA p i j)):=by grind[fM,pA,Ty,Gt,Wc]
end
end
section
attribute [local irreducible] ah aG ae ad
def aok:FQ 26 Tryz.f26:=aF Tryz.func26 Tryz.call26
def yY:List Nat:=[0,4,3,2,7,11,22]
def aol:FQ 10 Tryz.f10:=aF Tryz.func10 Tryz.call10
def Cb:List Nat:=[3,0,2,7,16]
def aom:FQ 11 Tryz.f11:=aF Tryz.func11 Tryz.call11
def yZ:List Nat:=[0,5,4,1,9,13,22]
def BF (l:List Tm):Bool:=decide (l.length<=8) && decide (bw l<=60)
theorem Fh (a b:List Tm):bw (a++b)=bw a+bw b:=by
 induction a with
 |nil=>simp[bw]
 |cons x a c=>rw[aR_,bw,bw,c];omega
section
variable {w0:World}{ρ:Hd}
theorem Wd (l:List Tm) (v:l.length<=1099511627776) (w:bw l<=1099511627776):ah Tryz.prog w0 26 [tl ρ l] (.v (.bool (BF l))):=by
 obtain⟨R,a⟩:∃R,R=BF l:=⟨_,rfl⟩;rw[<-a];unfold BF at a;refine st aok yY .v ?_
 repeat' (first
  |refine cg yY (λb=>?_) λb=>?_
  |refine lg yY λm e=>?_
  |(refine fq ?_))
 ·grind[bY]
 rw[decide_eq_true (by omega),aL_]at a;refine ad.aK (σ:=Int × Int) 0 0 [] (λp=>[(0,tl ρ l),(3,.v (.int .i64 p.2)),(4,.v (.int .i64 p.1))]) [] (λ_=>[]) (λp=>∃k:Nat,p.1=k/\k<=l.length/\p.2=bw (l.take k)/\p.2<=60) (λp=>l.length - p.1.toNat) (0,0) ⟨0,rfl,by simp,rfl,by simp⟩ rfl cq ?_;rintro⟨i,c⟩ ⟨k,f,y,g,n⟩;simp only at f g n;refine gq yY ?_;by_cases o:k < l.length
 ·obtain⟨x,q,r⟩:=aD o;have s:bw (l.take (k+1))=bw (l.take k)+cY x:=by grind[Fh,bw]
  have t:bw (l.take (k+1))<=bw l:=by
   have:=Fh (l.take (k+1)) (l.drop (k+1));rw[dc_]at this;omega
  have h:=IC (w0:=w0) (ρ:=ρ) _ x (ac_ _) (by omega);obtain⟨z,u⟩:∃z,z=cY x:=⟨_,rfl⟩;rw[<-u]at s h;obtain⟨A,B⟩:∃z:Int,z=(cY x:Nat):=⟨_,rfl⟩;clear r;have C:=bQ (ρ:=ρ) x;obtain⟨D,E,F,G⟩:=x
  repeat' (first
   |refine og yY (ae.ind rfl rfl (cC (l:=l) f q) cD) ?_
   |refine ig yY (pl h) λ_ _=>?_
   |refine cg yY (λb=>?_) λb=>?_
   |refine lg yY λm e=>?_
   |refine ag yY λ_ _=>?_
   |refine ad.ao ?_;refine gq yY ?_
   |refine ad.bh ?_;refine gq yY ?_
   |(refine fq ?_))
  all_goals first
   |exfalso;omega
   |rw[a,decide_eq_false (by omega)];exact bY rfl
   |(refine ad.az (σ:=Int × Int) (_,_) [] ?_ ?_ cq
     ·grind
     ·simp only;omega)
 ·have d:l.take k=l:=aQ_ (by omega);rw[d]at g
  repeat' (first
   |refine cg yY (λb=>?_) λb=>?_
   |refine lg yY λm e=>?_
   |refine ad.ao ?_;refine gq yY ?_
   |(refine fq ?_))
  all_goals first
   |exfalso;omega
   |rw[a,decide_eq_true (by omega)];exact bY rfl
end
end
section
attribute [local irreducible] ah aG ae ad
def qf5:FQ 5 Tryz.f5:=aF Tryz.func5 Tryz.call5
def g5:List Nat:=[4,1,3,2,0,14,19,58,80]
def y0 (x:At):Bool:=BF x.a
def BG (x:Gl):Bool:=BF x.a
section
variable {w0:World}{ρ:Hd}
theorem Ry (l:List At) (r:l.length<=1099511627776) (g:∀x ∈ l,nC x.a):ah Tryz.prog w0 10 [cL ρ l] (.v (.bool (l.all y0))):=by
 obtain⟨R,c⟩:∃R,R=l.all y0:=⟨_,rfl⟩;rw[<-c];refine st aol Cb .v ?_;refine ad.aK (σ:=Int) 0 0 [] (λi=>[(0,cL ρ l),(3,.v (.int .i64 i))]) [] (λ_=>[]) (λi=>∃k:Nat,i=k/\k<=l.length/\R=(l.drop k).all y0) (λi=>l.length - i.toNat) 0 ⟨0,rfl,by simp,by grind⟩ rfl cq ?_;rintro i ⟨k,j,s,a⟩;clear c;refine gq Cb ?_;by_cases n:k < l.length
 ·obtain⟨x,d,o⟩:=aD n;have e:=g x (bM d);have f:=Wd (w0:=w0) (ρ:=ρ) x.a e.len e.2;rw[o,aY_,y0]at a;obtain⟨B,p⟩:∃B,B=BF x.a:=⟨_,rfl⟩;rw[<-p]at a f;obtain⟨t,u⟩:=x
  repeat' (first
   |refine og Cb (ae.ind rfl rfl (aB (l:=l) j d) (aA λ_=>rfl)) ?_
   |refine bg Cb (pl f) (λ_=>?_) λ_=>?_
   |refine cg Cb (λb=>?_) λb=>?_
   |refine lg Cb λm q=>?_
   |refine ag Cb λ_ _=>?_
   |refine ad.ao ?_;refine gq Cb ?_
   |refine ad.bh ?_;refine gq Cb ?_
   |(refine fq ?_))
  all_goals first
   |exfalso;omega
   |rw[a,show B=false by grind];exact bY rfl
   |rw[show B=true by grind,aL_]at a;(refine ad.az (σ:=Int) _ [] ?_ ?_ cq<;>first|omega|exact⟨k+1,by omega,by omega,a⟩)
 ·skip
  repeat' (first
   |refine cg Cb (λb=>?_) λb=>?_
   |refine lg Cb λm q=>?_
   |refine ad.ao ?_;refine gq Cb ?_
   |(refine fq ?_))
  all_goals first
   |exfalso;omega
   |rw[a,ak_ (by omega)];exact bY rfl
theorem OP (l:List Gl) (n:Int) (s:l.length<=1099511627776) (h:∀x ∈ l,nC x.a):ah Tryz.prog w0 11 [cE ρ l,iv n] (.v (.bool (decide ((l.length:Int)<=n) && l.all BG))):=by
 obtain⟨R,c⟩:∃R,R=(decide ((l.length:Int)<=n) && l.all BG):=⟨_,rfl⟩;rw[<-c];refine st aom yZ .v ?_
 repeat' (first
  |refine cg yZ (λb=>?_) λb=>?_
  |refine lg yZ λm d=>?_
  |(refine fq ?_))
 ·grind[bY]
 rw[decide_eq_true (by omega),aL_]at c;refine ad.aK (σ:=Int) 0 0 [] (λi=>[(0,cE ρ l),(5,.v (.int .i64 i))]) [] (λ_=>[]) (λi=>∃k:Nat,i=k/\k<=l.length/\R=(l.drop k).all BG) (λi=>l.length - i.toNat) 0 ⟨0,rfl,by simp,by grind⟩ rfl cq ?_;rintro i ⟨k,o,t,a⟩;clear c;refine gq yZ ?_;by_cases p:k < l.length
 ·obtain⟨x,e,q⟩:=aD p;have f:=h x (bM e);have g:=Wd (w0:=w0) (ρ:=ρ) x.a f.len f.2;rw[q,aY_,BG]at a;obtain⟨B,r⟩:∃B,B=BF x.a:=⟨_,rfl⟩;rw[<-r]at a g;obtain⟨u,v,w⟩:=x
  repeat' (first
   |refine og yZ (ae.ind rfl rfl (aB (l:=l) o e) (aA λ_=>rfl)) ?_
   |refine bg yZ (pl g) (λ_=>?_) λ_=>?_
   |refine cg yZ (λb=>?_) λb=>?_
   |refine lg yZ λm d=>?_
   |refine ag yZ λ_ _=>?_
   |refine ad.ao ?_;refine gq yZ ?_
   |refine ad.bh ?_;refine gq yZ ?_
   |(refine fq ?_))
  all_goals first
   |exfalso;omega
   |rw[a,show B=false by grind];exact bY rfl
   |rw[show B=true by grind,aL_]at a;(refine ad.az (σ:=Int) _ [] ?_ ?_ cq<;>first|omega|exact⟨k+1,by omega,by omega,a⟩)
 ·skip
  repeat' (first
   |refine cg yZ (λb=>?_) λb=>?_
   |refine lg yZ λm d=>?_
   |refine ad.ao ?_;refine gq yZ ?_
   |(refine fq ?_))
  all_goals first
   |exfalso;omega
   |rw[a,ak_ (by omega)];exact bY rfl
end
end
end Go.Proofs.YtbpabjmnhggajaaGreat
