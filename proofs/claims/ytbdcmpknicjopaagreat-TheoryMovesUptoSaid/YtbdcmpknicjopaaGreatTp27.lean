import Derived.Test.YtbdcmpknicjopaaGreatTp26
namespace Go.Proofs.YtbdcmpknicjopaaGreat
set_option linter.all false
set_option maxRecDepth 100000
open Go.RowKit Proofs.Tryz
variable{B m n nl sz ul:Nat}{K:List gw}{O:Hd}{P:Program}{Q:Exit->AA->ah->Prop}{S S':ah}{T:Type}{U:AA}{Y:World}{a x:QO}{c:Nat->Nat}{cl up:List Nat}{dd:Option Nat}{env:List Bd}{ex:Bool}{fr:Int}{gg:Option (Nat×Bool)}{kn:KN}{l:List QI}{lo:Nat->Int}{ls sh vs:List (Int×Int)}{o:Oper}{r:AV}{t:Tm}{z:List AV}{LR ys:List T}{f:T->List AV}
variable{rows:List (List AV)}{args:List AV}{N:Nat}
section
attribute [local irreducible] ao aF D H
def aoV:=aC func147 call147
def rp:List Nat:=[9,2,1,8,0,6,7,14,21]
def aoW:=aC func210 call210
def Gj:List Nat:=[4,5,0,8,6,7,1,2,11,21,32,36,43,57]
def ate:=aC func81 call81
def g81:List Nat:=[4,5,6,7,1,2,12,0]
def vx(O:Hd)(o:Option (List Bd)):AV:=.aL [a8 O (o.getD []),.v (.bool o.isSome)]
def rq(o:Option (List Bd)):Pure (vx O o):=.aL (zX (bI _) .v)
theorem mw:aI S (.aL [.sl true [],.v (.bool false)]) (vx O none):=by refine LF ?_;rw[Option.getD,a8,bF];exact aI.wk
def yY(o:Option (List Bd)):∃e b,vx O o=.aL [a8 O e,.v (.bool b)]/\e=o.getD []/\b=o.isSome:=⟨_,_,rfl,rfl,rfl⟩
theorem Uy(a c:List Tm)(e:List Bd)(ha:a.length<=1099511627776)(qO:c.length<=1099511627776)(A:gk e)(L:e.length+bE a<=100000000000)(d:dR c)(M:∀x∈a,∀(t:Tm) (e:List Bd),e.length+cO x<=100000000000->gk e->t.ok->ab Y 210 [a8 O e,tm O x,tm O t] (vx O (qB x t e))):ab Y 147 [a8 O e,tl O a,tl O c] (vx O (if a.length=c.length then jr a c e else none)):=by
 let⟨R,g⟩:=aq (if a.length=c.length then jr a c e else none);rw[<-g];refine st aoV rp (rq _) ?_;repeat' first|refine cg rp (λn=>?_) λn=>?_|refine lg rp λm N=>?_|refine fq ?_
 rw[if_neg Z]at g;subst g;exact mw;have P:a.length=c.length:=Z;rw[if_pos P]at g;refine cC (τ:=List Bd×Bool) 0 0 [] (λp=>[(0,a8 O p.2.1),(1,tl O a),(2,tl O c),(8,.v (.bool p.2.2)),(9,.v (.int .i64 p.1))]) [] (λ_=>[]) c.length (λk p=>gk p.2.1/\p.2.1.length+bE (a.drop k)<=100000000000/\(p.2.2=true->R=jr (a.drop k) (c.drop k) p.2.1)/\(p.2.2=false->R=none/\p.2.1=[])) (e,true) ⟨A,X,λ_=>X,λh=>X⟩ ?_;rintro i k⟨f,ok⟩s hk⟨u,B,q,r⟩;simp only at s u B q r;clear g A L;cases ok with
 |false =>
  let⟨v,C⟩:=r rfl;subst v C;clear q r;refine I rp ?_;repeat' first|refine cg rp (λn=>?_) λn=>?_|refine lg rp λm N=>?_|refine xG rp ?_|refine fq ?_
  all_goals exact .refl _|true =>
 have j:=q rfl;clear q r;refine I rp ?_;refine lg rp λq1 sw=>?_;refine cn (λQ=>?_) λQ=>?_;rotate_left;refine I rp ?_;refine xG rp ?_;refine fq ?_;rw[j,aq_ Z,jr];exact .refl _;refine I rp ?_;let⟨x,E,F⟩:=aA (l:=a) (k:=k) Z;let⟨y,w,S⟩:=aA (l:=c) (k:=k) Z;rw[F,S,jr]at j;rw[F,bE]at B;have z:=M x (aZ E) y f Z u (d.mem y (aZ w));have G:=Un x y f;let⟨o,T⟩:=aq (qB x y f);rw[<-T]at z j G;let⟨V,W,hr,J,K⟩:=yY (O:=O) o;rw[hr]at z;refine I rp ?_;refine og rp (D.ind rfl rfl (cD (l:=a) s E) cE) ?_;refine og rp (D.ind rfl rfl (cD (l:=c) s w) cE) ?_;apply bk rp z;refine ag rp λi4 EG=>?_;refine H.bK (i4,V,W) [] ?_ ?_ cq;refine⟨k+1,X,Z,?_⟩;simp only;cases o with|none =>subst J K;exact⟨λb n=>X,X,λh=>X,λ_=>⟨j,rfl⟩⟩|some f2 =>let⟨v,C⟩:=G f2 u (d.mem y (aZ w)) rfl;subst J K;exact⟨v,X,λ_=>j,λh=>X⟩
 grind
theorem agM(n:Nat):∀(p t:Tm)(e:List Bd),cO p<=n->e.length+cO p<=100000000000->gk e->p.ok->t.ok->ab Y 210 [a8 O e,tm O p,tm O t] (vx O (qB p t e)):=by induction n with|zero=>intro p t e h;have:=fJ p;omega|succ n P =>
  intro p t e S T y V z;have A:=L6 (Y:=Y) (O:=O) p t V z;let⟨B,W,C⟩:=V.out;let⟨E,iU,F⟩:=z.out;rw[fJ]at S T;have o:=Uy (Y:=Y) (O:=O) p.a t.a e B E y Z F λx hx t2 G h1 h2 h3=>P x t2 G (by have:=lj x hx;omega) h1 h2 (C.mem x hx) h3;have r:=Uo (Y:=Y) (O:=O) e p.i Z;have s:=abQ (Y:=Y) (O:=O) e ⟨p.i,t⟩ Z;have u:=DO e p.i;have v:=HD e p.i;let⟨j,hj⟩:=aq (wv e p.i);rw[<-hj]at r u v;let⟨R,b⟩:=aq (qB p t e);rw[<-b];let⟨k,i,w,a⟩:=p;let⟨f,g,tn,d⟩:=t;rw[qB]at b;simp only at o r s u v B W C E iU F b;clear P S T B W C E iU F hj;let⟨Q,hQ⟩:=aq (if a.length=d.length then jr a d e else none);rw[<-hQ]at o;let⟨ls,lb,AQ,aj5,hlb⟩:=yY (O:=O) Q;rw[AQ]at o;let⟨G,vP⟩:=aq (nf e ⟨i,⟨f,g,tn,d⟩⟩);rw[<-vP]at s b;let⟨c,J⟩:=aq (fe ⟨k,i,w,a⟩ ⟨f,g,tn,d⟩==0);rw[<-J]at A;have m:fe ⟨k,i,w,a⟩ ⟨f,g,tn,d⟩=0↔c=true:=by rw[J,beq_iff_eq]
  simp only[m]at b;simp only[show(tn.toList=w.toList)=(w.toList=tn.toList) from propext eq_comm]at b;clear J m;refine st aoW Gj (rq _) ?_;repeat' first|apply bk Gj o|refine bg Gj (pl A) (λ_=>?_) λ_=>?_|refine ig Gj (pl r) λ_ _=>?_|apply bk Gj s|refine cg Gj (λhb=>?_) λhb=>?_|refine fq ?_
  all_goals clear o s r A
  all_goals first
   |(have h:R=none:=by rw[b];simp_all
     rw[h];exact mw)
   |(have h:R=Q:=by rw[b,hQ];simp_all
     rw[h,AQ];exact .refl _)
   |(have h:R=some e:=by rw[b];simp_all
     rw[h];exact .refl _)
   |(have h0:mI e i=none:=v Z;have h:R=some G:=by rw[b,if_neg Z,if_pos Z,h0]
     rw[h];exact .refl _)|skip
  let⟨q,⟨xv,K,L,M,N⟩,e1,e4,e3⟩:=u Z;have hs:=L6 (Y:=Y) (O:=O) ⟨K,L,M,N⟩ ⟨f,g,tn,d⟩ (y.EI e3) z;rw[if_neg Z,if_pos Z,e3]at b;simp only at b;let⟨c2,m⟩:=aq (fe ⟨K,L,M,N⟩ ⟨f,g,tn,d⟩==0);rw[<-m]at hs;have zF:fe ⟨K,L,M,N⟩ ⟨f,g,tn,d⟩=0↔c2=true:=by rw[m,beq_iff_eq]
  simp only[zF]at b;clear m zF u v y;refine og Gj (D.ind rfl rfl (fm (l:=e) (k:=q) Z e4) (ec λ_=>rfl)) ?_;repeat' first|refine bg Gj (pl hs) (λ_=>?_) λ_=>?_|refine fq ?_
  all_goals first
   |(have h:R=none:=by rw[b];simp_all
     rw[h];exact mw)
   |(have h:R=some e:=by rw[b];simp_all
     rw[h];exact .refl _)
def agN(p t:Tm)(e:List Bd)(a:e.length+cO p<=100000000000)(b:gk e)(c:p.ok)(d:t.ok):ab Y 210 [a8 O e,tm O p,tm O t] (vx O (qB p t e)):=agM _ p t e (ad_ _) a b c d
theorem aj6(x y:At)(e:List Bd)(i:e.length+bE x.a<=100000000000)(j:gk e)(d:x.ok)(f:y.ok):ab Y 81 [a8 O e,at_ O x,at_ O y] (vx O (nq x y e)):=by
 have b:=Uy (Y:=Y) (O:=O) x.a y.a e d.1 f.1 j i f.2 λz m t o p q r=>agN z t o p q (d.2.mem z m) r;let⟨n,a⟩:=x;let⟨s,g⟩:=y;let⟨R,c⟩:=aq (nq ⟨n,a⟩ ⟨s,g⟩ e);rw[<-c];rw[nq]at c;simp only at b c;let⟨Q,k⟩:=aq (if a.length=g.length then jr a g e else none);rw[<-k]at b;let⟨ls,A,l,u,v⟩:=yY (O:=O) Q;rw[l]at b;clear i j d f;refine st ate g81 (rq _) ?_;repeat' first|apply bk g81 b|refine cg g81 (λw=>?_) λw=>?_|refine fq ?_
 all_goals clear b
 all_goals first
  |(have h:R=none:=by rw[c];simp_all
    rw[h];exact mw)
  |(have h:R=Q:=by rw[c,k];simp_all
    rw[h,l];exact .refl _)
def aoX:=aC func272 call272
def atf:List Nat:=[2,0]
def aeJ:=aC func291 call291
def my:List Nat:=[0,7,4,55,1,5,8,6,21,40,54,56,53,9,10]
theorem Y8{v:Int}:aI S (.agg [.v (.int .i64 1),.v (.int .i64 v),.v (.string ⟨#[]⟩),.sl true []]) (tm O (vr v)):=by refine .agg rfl λi a d b c=>?_;match i,b,c with|0,b,c=>cases oJ_ b;cases oJ_ c;exact .refl _|1,b,c=>cases oJ_ b;cases oJ_ c;exact .refl _|2,b,c=>cases oJ_ b;cases oJ_ c;exact .refl _|3,b,c =>cases oJ_ b;cases oJ_ c;rw[vr,tl,bF];exact aI.wk
def zZ:Option Tm->List AV|none=>[iv 0,iv 0,.v (.string ⟨#[]⟩),.sl true []]|some x=>lX x
theorem agO(x:Option Tm):(zZ x).length=4:=by cases x with|none=>rfl|some x=>exact yV x
theorem agP(l:List Tm):List.map zZ (l.map some)=List.map lX l:=by rw[bk_];rfl
theorem gX7{a:aS}(h0:S.get 0=some (gO nl ul):=by rfl)(h1:S.get 1=some (gQ O a):=by rfl)(h2:S.get 2=some (cG O vs):=by rfl)(h3:S.get 3=some (cT O up):=by rfl)(h4:S.get 4=some (gR O sh):=by rfl)(h5:S.get 5=some (cG O ls):=by rfl)(h6:S.get 6=some (gT O kn):=by rfl):gH 7 [] N S (gX O nl ul a vs up sh ls kn):=gC h0 h1 h2 h3 h4 h5 h6
theorem QZ{f:Nat->List Nat->Option (Tm×List Nat)}(c:∀r u t d,f r u=some (t,d)->d.length=u.length):∀(l:List Nat){up a:List Nat}{b:List Tm},By f l up=some (b,a)->a.length=up.length/\b.length=l.length|[],up,a,b,h=>by grind[By]|x::l,up,a,b,h=>by rw[By]at h;split at h;grind;rename_i u r e;have k:=kE e;split at h;grind;rename_i t m g;have n:=c _ _ _ _ g;split at h;grind;rename_i i o j;let⟨p,q⟩:=QZ c l j;simp only[oI_,pI_]at h;obtain⟨rfl,rfl⟩:=h;exact⟨Z,X⟩
theorem DW{N:aS}{sh ls:List (Int×Int)}:∀(m:Nat)(r:Nat)(up:List Nat)(t:Tm)(a:List Nat),Bz N sh ls m r up=some (t,a)->a.length=up.length|0,_,_,_,_,h=>by cases h|m+1,r,up,t,a,h=>by rw[Bz]at h;split at h;grind;split at h;split at h;grind;split at h;split at h;grind;split at h;grind;rename_i b;have:=(QZ (DW m) _ b).1;simp only[oI_,pI_]at h;obtain⟨rfl,rfl⟩:=h;exact this;grind;grind
theorem H.xQ{P:Program}{Y:World}{rd:Bool}{n:Nat}{U:AA}{id:Nat}{b:QC}(h:H P Y rd n Q (.out .normal (.seq b::K)) U S):H P Y rd n Q (.out (.exit id) (.A5 id::.seq b::K)) U S:=by simp only[H,eF,bE_]at h⊢;exact h
theorem Q0(x:Option Tm):∀a∈zZ x,eC B a:=by intro a b;cases x with|some x=>exact Pure.bu (zL x a b)|none =>simp only[zZ,al_,ax_,or_false]at b;rcases b with rfl|rfl|rfl|rfl<;>first|exact .v|exact yZ
theorem agQ(b:List (Option Tm)):kp B (.arr 4 (O.h (List.map zZ) b) 0 ex):=by show∀row∈O.h (List.map zZ) b,∀a∈row,eC B a;rw[O.eq];intro row c a d;obtain⟨x,_,rfl⟩:=aD_.1 c;exact Q0 x a d
theorem aj7{c:aS}{b:List (Option Tm)}(f:S.get 7=some (.arr 4 [zZ none] 0 true):=by rfl)(g:S.get 8=some (.arr 4 [kR O t] 0 true):=by rfl)(h:S.get 9=some (.arr 4 (O.h (List.map zZ) b) 0 true):=by rfl)(h0:S.get 0=some (gO nl ul):=by rfl)(h1:S.get 1=some (gQ O c):=by rfl)(h2:S.get 2=some (cG O vs):=by rfl)(h3:S.get 3=some (cT O up):=by rfl)(h4:S.get 4=some (gR O sh):=by rfl)(h5:S.get 5=some (cG O ls):=by rfl)(h6:S.get 6=some (gT O kn):=by rfl):gH 10 [] N S [(0,gO nl ul),(1,gQ O c),(2,cG O vs),(3,cT O up),(4,gR O sh),(5,cG O ls),(6,gT O kn),(7,.arr 4 [zZ none] 0 true),(8,.arr 4 [kR O t] 0 true),(9,.arr 4 (O.h (List.map zZ) b) 0 true)] :=⟨.inl ⟨_,h0,.same (rf Z)⟩,.inl ⟨_,h1,.same (nM _)⟩,.inl ⟨_,h2,.same (eV _)⟩,.inl ⟨_,h3,.same (fX _)⟩,.inl ⟨_,h4,.same (m9 _)⟩,.inl ⟨_,h5,.same (eV _)⟩,.inl ⟨_,h6,.same (m_ _)⟩,.inl ⟨_,f,.same λrow d a e=>by cases ar_.1 d;exact Q0 none a e⟩,.inl ⟨_,g,.same λrow d a e=>by grind[Pure.bu,tO]⟩,.inl ⟨_,h,.same (agQ _)⟩,trivial⟩
theorem Wb(v:Int):ab Y 272 [iv v] (tm O (vr v)):=by
 refine st aoX atf (bH _) ?_;repeat' first|refine fq ?_
 exact Y8
theorem Q1{N:aS}(hN:B7 N)(dJ:nl=N.length)(pH:ul<=1099511627776):∀(m:Nat){r:Nat}{up B:List Nat}{t:Tm},up.length=ul->Bz N sh ls m r up=some (t,B) ->aF prog Y 291 [.pt 0 6 0 0,iv r] (aw (gX O nl ul N vs up sh ls kn) 7) (tm O t) (aw (gX O nl ul N vs B sh ls kn) 7):=by intro m;induction m with|zero=>intro r up B t _ h;cases h|succ m ih =>
  intro r up B t hu h;rw[Bz]at h;let⟨J,Tp⟩:∃J:Int,J=r:=⟨_,rfl⟩;rw[<-Tp]at h⊢;split at h;rename_i g;simp only[oI_,pI_]at h;obtain⟨rfl,rfl⟩:=h;refine sc 7 7 aeJ ?_;unfold gX;refine I my ?_;refine H.look (O:=O) (f:=iv) (kv:=sh) rfl rfl rfl rfl (λk j=>?_) λj=>?_;grind;let⟨C,o⟩:=aq ((aH ls J).getD 0);rw[<-o];refine I my ?_;refine H.f_ (O:=O) (f:=iv) (kv:=ls) rfl rfl rfl rfl (λv K=>?_) λK=>?_;rw[K]at o;obtain rfl:C=v:=o;refine I my ?_;apply bk my (Wb (O:=O) C);refine fq ?_;exact⟨[],.aJ (Pure.bu (bH (vr C))),gX7,rfl⟩;rw[K]at o;cases(o:C=0);refine I my ?_;apply bk my (Wb (O:=O) 0);refine fq ?_;exact⟨[],.aJ (Pure.bu (bH (vr 0))),gX7,rfl⟩
  ·rename_i k g;split at h;rotate_left;grind;rename_i h00;let⟨Ni,Fq⟩:∃n:Nat,n=k.toNat:=⟨_,rfl⟩;rw[<-Fq]at h;split at h;grind;rename_i t0 l Uz;split at h;rotate_left;grind;rename_i L;have q2:k=(Ni:Int):=Z;have g2:=hN _ _ _ Uz;have i2:Ni<nl:=X;have E:=dv (O:=O) (f:=yg O) Uz;let⟨M,P,Q,R⟩:=t0;rw[yg]at E;simp only at E L g2 h;have hpu:Pure (aY O dz false l):=en λx _ a ha=>by cases ar_.1 ha;exact .v
   refine sc 7 7 aeJ ?_;unfold gX;refine I my ?_;refine H.look (O:=O) (f:=iv) (kv:=sh) rfl rfl rfl rfl (λk2 j=>?_) λj=>?_;rotate_left;grind;rw[g]at j;cases oJ_ j;refine I my ?_;refine H.op rfl (D.eQ rfl rfl q2 i2) ?_;refine H.op rfl (D.quiet rfl) ?_;refine og my (D.iM rfl rfl E rfl) ?_;refine lg my λq1 sw=>?_;refine cn (λbS=>?_) λbS=>?_;rw[if_pos Z]at h;simp only[oI_,pI_]at h;obtain⟨rfl,rfl⟩:=h;refine I my ?_;refine fq ?_;exact⟨[],.aJ (Pure.bu (bH ⟨M,P,Q,R⟩)),gX7,rfl⟩;rw[if_neg Z]at h;split at h;grind;rename_i c u hex;simp only[oI_,pI_]at h;obtain⟨rfl,rfl⟩:=h;refine I my ?_;refine lg my λq3 yf=>?_;let⟨F,S⟩:=aq R.length;rw[<-S]at yf;refine H.mks (m:=F) O zZ none rfl rfl rfl yf rfl Z Z λT V=>?_;refine I my ?_;refine H.op rfl (D.eQ rfl rfl q2 i2) ?_;refine H.op rfl (D.quiet rfl) ?_;refine og my (D.iM rfl rfl E rfl) ?_;refine H.int rfl (D.len rfl) λq Fl=>?_;rw[az]at Fl;refine I my ?_;have aR:F=l.length:=Z;rw[aR]at V;refine cC (τ:=List Nat×List (Option Tm)) 10 10 [] (λp=>[(0,.pt 0 6 0 0),(4,.pt 7 4 0 0),(7,.pt 8 4 0 0),(8,.ob 9 4 0 F none),(53,aY O dz false l),(54,iv q),(55,iv p.1)]) [] (λp=>[(0,gO nl ul),(1,gQ O N),(2,cG O vs),(3,cT O p.2.1),(4,gR O sh),(5,cG O ls),(6,gT O kn),(7,.arr 4 [zZ none] 0 true),(8,.arr 4 [kR O ⟨M,P,Q,R⟩] 0 true),(9,.arr 4 (O.h (List.map zZ) p.2.2) 0 true)]) l.length (λi p=>p.2.1.length=ul/\∃d W:List Tm,d.length=i/\p.2.2=d.map some++List.replicate (l.length-i) none/\By (Bz N sh ls m) (l.drop i) p.2.1=some (W,u)/\d++W=c) (up,T) ⟨hu,[],c,rfl,X,X,rfl⟩ (hC:=by exact⟨sq,rfl,aj7,rfl,rfl,rfl⟩) ?_;rintro ii i⟨kF,w⟩jR xS⟨lx,d,W,hd,V9,b,z⟩;simp only at jR xS lx V9 b;refine I my ?_;refine cn (λbY=>?_) λbY=>?_;have G:i<l.length:=Z;let⟨x,hx⟩:∃x,l[i]?=some x:=⟨_,aw_ G⟩;let⟨xa,xb⟩:=aB_.1 hx;rw[bM_ xa,xb,By]at b;split at b;grind;rename_i u2 cl hr;split at b;grind;rename_i A u3 Y_;split at b;grind;rename_i ts1 u4 jE;simp only[oI_,pI_]at b;obtain⟨rfl,rfl⟩:=b;have c1:=CB (Y:=Y) (O:=O) (s:=⟨N,vs,⟨kF,sh,ls⟩⟩) (kn:=kn) X hr;have od:u2.length=ul:=by rw[kE hr,lx]
   have A3:u3.length=ul:=by grind[DW]
   simp only at c1;rw[<-kf dJ lx,<-kf dJ od]at c1;have c2:=ih od Y_;have KE:w.length=l.length:=X;refine I my ?_;refine og my (D.bh jR hx) ?_;refine og my (D.ju c1 rfl (ay_ rfl) (ee aD) qm (ee aD) (vt aD .v) .v) ?_;refine og my (D.ju c2 rfl (ay_ rfl) (ee aD) qm (ee aD) (vt aD .v) (Pure.bu (bH A))) ?_;refine H.op rfl (D.Qz rfl rfl jR Z) ?_;refine H.Jj (f:=zZ) (y:=some A) rfl rfl rfl (qK A).symm (by show(lX A).all db=true;rw[qK (O:=O)];rfl) agO rfl Z λath aoZ=>?_;refine I my ?_;refine ag my λi3 dU=>?_;refine H.bK (i3,u3,ath) [] ⟨i+1,X,Z,A3,d++[A],ts1,X,?_,jE,X⟩ ?_ (by exact⟨sq,rfl,aj7,rfl,rfl,rfl⟩);have e:l.length-i=l.length-(i+1)+1:=Z;simp only;rw[aoZ,V9,e,List.replicate_succ,cZ_ _ _ X];simp[hd];grind;have G:i=l.length:=Z;rw[G,aR_ (ad_ _),By]at b;simp only[oI_,pI_]at b;obtain⟨rfl,rfl⟩:=b;rw[aI_]at z;have hme:O.h (List.map zZ) w=O.h (List.map lX) c:=by rw[O.eq,O.eq,V9,G,cx_,List.replicate_zero,aI_,agP,z]
   have hmn:F=(O.h (List.map lX) c).length:=by grind[az]
   refine I my ?_;refine H.lG ?_;refine H.xQ (H.CE (Cv.freeze (t:=8) (k:=9) (rows:=O.h (List.map lX) c) (by rw[<-hme];rfl) rfl (.inr ⟨_,rfl⟩) hmn (aF_ _)) ?_);refine I my ?_;refine fq ?_;exact⟨[],.aJ (Pure.bu (bH ⟨M,P,Q,c⟩)),gX7,rfl⟩
def ao0:=aC func220 call220
def ati:List Nat:=[2,0]
def ao1:=aC func221 call221
def atj:List Nat:=[2,0]
def ao2:=aC func268 call268
def atk:List Nat:=[2,0]
def ao3:=aC func273 call273
def atl:List Nat:=[4,0,1]
def ao4:=aC func219 call219
def abT:List Nat:=[0,1,5,4]
def atm:=aC func85 call85
def EM:List Nat:=[8,2,7,6,12,0,1]
def ao5:=aC func152 call152
def DX:List Nat:=[5,6,9,0,1,7,2,10,20,27,36,45]
def atn:=aC func38 call38
def g38:List Nat:=[5,6,2,0,1]
theorem Q2(l:List Tm):aY O (kR O) false l=tl O l:=by rw[tl,bF,bF,show kR O=lX from funext λx=>(qK x).symm]
theorem Za{k i:Int}{n:ByteArray}{a:List Tm}{b:AV}(h:aI S b (tl O a)):aI S (.agg [.v (.int .i64 k),.v (.int .i64 i),.v (.string n),b]) (tm O ⟨k,i,n,a⟩):=by refine .agg rfl λi a e c d=>?_;match i,c,d with|0,c,d=>cases oJ_ c;cases oJ_ d;exact .refl _|1,c,d=>cases oJ_ c;cases oJ_ d;exact .refl _|2,c,d=>cases oJ_ c;cases oJ_ d;exact .refl _|3,c,d=>cases oJ_ c;cases oJ_ d;exact h
theorem L7:aI S (.sl true []) (tl O []):=by rw[tl,bF];exact aI.wk
theorem pW:∀l:List Tm,l.length<=bE l|[]=>aF_ _|x::l=>by rw[bE,aC_];have:=pW l;have:=fJ x;omega
theorem aeL(h:sT t):oU t.a:=by let⟨k,i,n,a⟩:=t;rw[sT]at h;exact h.2
theorem aeM(h:sT t):t.k=1->0<=t.i/\t.i<=1099511627776:=by let⟨k,i,n,a⟩:=t;rw[sT]at h;exact h.1
def Wc(i:Int):Tm:=⟨0,i,⟨#[]⟩,[]⟩
theorem aj9(v:Int):ab Y 220 [iv v] (tm O (vr v)):=by
 refine st ao0 ati (bH _) ?_;repeat' first|refine fq ?_
 exact Y8
theorem aj_(v:Int):ab Y 221 [iv v] (tm O (Wc v)):=by
 refine st ao1 atj (bH _) ?_;repeat' first|refine fq ?_
 exact Za L7
theorem aka(v:Int):ab Y 268 [iv v] (tm O (Wc v)):=by
 refine st ao2 atk (bH _) ?_;repeat' first|refine fq ?_
 exact Za L7
theorem akb(n:ByteArray)(a:List Tm):ab Y 273 [.v (.string n),tl O a] (tm O ⟨2,0,n,a⟩):=by
 refine st ao3 atl (bH _) ?_;repeat' first|refine fq ?_
 exact .refl _
theorem abU(f v:Int)(c:0<=f)(d:0<=v)(a:f<=4611686018427387903)(e:v<=4611686018427387903):ab Y 219 [iv f,iv v] (.v (.bool false)):=by
 refine st ao4 abT .v ?_;repeat' first|refine cg abT (λb=>?_) λb=>?_|refine ag abT λ_ _=>?_|refine fq ?_
 all_goals first|omega|exact aK rfl
theorem IB{f:Tm->Tm}(a:List Tm)(z:a.length<=100000000000)(o:∀x∈a,ab Y 152 [a8 O env,iv fr,tm O x] (tm O (f x))):ab Y 85 [a8 O env,iv fr,tl O a] (tl O (a.map f)):=by
 let⟨R,g⟩:=aq (a.map f);rw[<-g];refine st atm EM (cZ _) ?_;refine cC (τ:=List Tm×Nat) 0 1 [] (λp=>[(0,a8 O env),(1,.v (.int .i64 fr)),(2,tl O a),(7,.gr 0 4 p.2.2),(8,.v (.int .i64 p.1))]) [] (λp=>[(0,.arr 4 (O.h (List.map (kR O)) p.2.1) 0 false)]) a.length (λk p=>R=p.2.1++(a.drop k).map f/\p.2.2=p.2.1.length/\p.2.1.length=k) ([],0) ⟨X,rfl,rfl⟩ ?_;rintro i k⟨LR,len⟩h B⟨b,c,q⟩;simp only at h b c q;clear g;refine I EM ?_;by_cases r:k<a.length
 ·let⟨x,j,s⟩:=aA r;have n:=o x (aZ j);rw[s,aH_]at b;let⟨d,t⟩:=aq (f x);rw[<-t]at n b;repeat' first|refine og EM (D.ind rfl rfl (cD (l:=a) h j) cE) ?_|apply bk EM n|refine H.app (x:=d) (f:=kR O) rfl rfl rfl c (λ_=>rfl) rfl rfl rfl rfl Z λu v C E=>?_;refine I EM ?_|refine cg EM (λe=>?_) λe=>?_|refine lg EM λm w=>?_|refine ag EM λ_ _=>?_|refine xG EM ?_|refine fq ?_
  all_goals first|omega|refine H.bK (_,u,v) [(0,1)] ?_ ?_ (by exact⟨sq,rfl,⟨.inl ⟨_,rfl,.same (ko λx _ a y=>tO x a y)⟩,trivial⟩,rfl,rfl,rfl⟩);grind;simp only;omega
 ·skip;repeat' first|refine cg EM (λe=>?_) λe=>?_|refine lg EM λm w=>?_|refine xG EM ?_|refine fq ?_
  all_goals first|omega|rw[b,aq_ Z,aV_,aI_,<-Q2];exact aI.grow rfl c
theorem Ta(E:env.length<=1099511627776)(h0:0<=fr)(h1:fr<=1099511627776)(n:Nat):∀x:Tm,cO x<=n->n<=100000000000->sT x->ab Y 152 [a8 O env,iv fr,tm O x] (tm O (kZ env fr x)):=by induction n with|zero=>intro x h;have:=fJ x;omega|succ n u =>
  intro x v F o;rw[fJ]at v;have G:=pW x.a;have c:=IB (Y:=Y) (O:=O) (f:=kZ env fr) (env:=env) (fr:=fr) x.a Z λy w=>u y (by have:=lj y w;omega) Z ((aeL o).mem y w);have d:=Uo (Y:=Y) (O:=O) env x.i E;have e:=DO env x.i;have g:=HD env x.i;let⟨j,z⟩:=aq (wv env x.i);rw[<-z]at d e g;have p:=aeM o;have r:=λh:x.k=1=>abU (Y:=Y) fr x.i h0 (p h).1 Z (by have:=(p h).2;omega);have m:=aj9 (Y:=Y) (O:=O) (fr+x.i);have t:=aj_ (Y:=Y) (O:=O) x.i;let⟨R,b⟩:=aq (kZ env fr x);rw[<-b];let⟨k,i,B,a⟩:=x;rw[kZ,pE]at b;simp only at c d e g r m t b p;clear u v F o z G;let⟨A,J⟩:=aq (a.map (kZ env fr));rw[<-J]at c b;let⟨s,K⟩:=aq (fr+i);rw[<-K]at m b;refine st ao5 DX (bH _) ?_;repeat' first|apply bk DX c|refine ig DX (pl d) λ_ _=>?_|apply bk DX (r (by assumption))|apply bk DX t|refine cK λC P=>?_;obtain rfl:C=s:=Z;refine I DX ?_;apply bk DX m|refine cg DX (λL=>?_) λL=>?_|refine fq ?_
  all_goals clear c d r t m
  all_goals first
   |(have h:R=⟨2,0,B,A⟩:=by rw[b,if_neg Z,if_neg Z,if_pos Z]
     rw[h];exact .refl _)
   |(have h0:mI env i=none:=g Z;have h:R=vr C:=by rw[b,if_pos Z,h0];rfl
     rw[h];exact .refl _)
   |(have h:R=Wc i:=by rw[b,if_neg Z,if_pos Z];rfl
     rw[h];exact .refl _)
   |(have h:R=⟨k,i,B,a⟩:=by rw[b,if_neg Z,if_neg Z,if_neg Z]
     rw[h];exact .refl _)|skip
  let⟨q,⟨Q,S,T,V,W⟩,e1,M,N⟩:=e Z;rw[if_pos Z,N]at b;simp only at b;clear e g;refine og DX (D.ind rfl rfl (fm (l:=env) (k:=q) Z M) (ec λ_=>rfl)) ?_;repeat' first|refine fq ?_
  all_goals rw[b];exact .refl _
def Wd(a:env.length<=1099511627776)(h0:0<=fr)(h1:fr<=1099511627776)(x:Tm)(b:cO x<=100000000000)(c:sT x):ab Y 152 [a8 O env,iv fr,tm O x] (tm O (kZ env fr x)):=Ta a h0 h1 _ x (ad_ _) b c
theorem Tb(c:env.length<=1099511627776)(h0:0<=fr)(h1:fr<=1099511627776)(g:Gl)(i:bE g.a<=100000000000)(d:oU g.a):ab Y 38 [a8 O env,iv fr,gl O g] (gl O (jZ env fr g)):=by
 have b:=IB (Y:=Y) (O:=O) (f:=kZ env fr) (env:=env) (fr:=fr) g.a (by grind[pW]) λy e=>Wd c h0 h1 y (by have:=lj y e;omega) (d.mem y e);rw[jZ];let⟨o,n,a⟩:=g;simp only at b⊢;let⟨A,h⟩:=aq (a.map (kZ env fr));rw[<-h]at b⊢;clear h d i c;refine st atn g38 (jH _) ?_;repeat' first|apply bk g38 b|refine fq ?_
 exact .refl _
def ao6:=aC func275 call275
def We:List Nat:=[3,4,8,0,1,9,6,18,5,20]
def ao7:=aC func211 call211
def xT:List Nat:=[6,1,5,4,10,0]
def ao8:=aC func148 call148
def akc:List Nat:=[3,4,1,0]
theorem Nm(b:List Bd)(v:Int):(f_ b v).2=(mI b v).isSome/\∀u,mI b v=some u->(f_ b v).1=u:=by grind[f_,mI]
theorem Nn{f:Tm->Tm}(a:List Tm)(z:a.length<=100000000000)(o:∀x∈a,ab Y 275 [a8 O env,tm O x] (tm O (f x))):ab Y 211 [a8 O env,tl O a] (tl O (a.map f)):=by
 let⟨R,g⟩:=aq (a.map f);rw[<-g];refine st ao7 xT (cZ _) ?_;refine cC (τ:=List Tm×Nat) 0 1 [] (λp=>[(0,a8 O env),(1,tl O a),(5,.gr 0 4 p.2.2),(6,.v (.int .i64 p.1))]) [] (λp=>[(0,.arr 4 (O.h (List.map (kR O)) p.2.1) 0 false)]) a.length (λk p=>R=p.2.1++(a.drop k).map f/\p.2.2=p.2.1.length/\p.2.1.length=k) ([],0) ⟨X,rfl,rfl⟩ ?_;rintro i k⟨LR,len⟩h B⟨b,c,q⟩;simp only at h b c q;clear g;refine I xT ?_;by_cases r:k<a.length
 ·let⟨x,j,s⟩:=aA r;have n:=o x (aZ j);rw[s,aH_]at b;let⟨d,t⟩:=aq (f x);rw[<-t]at n b;repeat' first|refine og xT (D.ind rfl rfl (cD (l:=a) h j) cE) ?_|apply bk xT n|refine H.app (x:=d) (f:=kR O) rfl rfl rfl c (λ_=>rfl) rfl rfl rfl rfl Z λu v C E=>?_;refine I xT ?_|refine cg xT (λe=>?_) λe=>?_|refine lg xT λm w=>?_|refine ag xT λ_ _=>?_|refine xG xT ?_|refine fq ?_
  all_goals first|omega|refine H.bK (_,u,v) [(0,1)] ?_ ?_ (by exact⟨sq,rfl,⟨.inl ⟨_,rfl,.same (ko λx _ a y=>tO x a y)⟩,trivial⟩,rfl,rfl,rfl⟩);grind;simp only;omega
 ·skip;repeat' first|refine cg xT (λe=>?_) λe=>?_|refine lg xT λm w=>?_|refine xG xT ?_|refine fq ?_
  all_goals first|omega|rw[b,aq_ Z,aV_,aI_,<-Q2];exact aI.grow rfl c
theorem abV(q:env.length<=1099511627776)(n:Nat):∀x:Tm,cO x<=n->n<=100000000000->ab Y 275 [a8 O env,tm O x] (tm O (iW env x)):=by induction n with|zero=>intro x h;have:=fJ x;omega|succ n o =>
  intro x p r;rw[fJ]at p;have s:=pW x.a;have j:=Nn (Y:=Y) (O:=O) (f:=iW env) (env:=env) x.a Z λy t=>o y (by have:=lj y t;omega) Z;have e:=Py (Y:=Y) (O:=O) env x.i q;let⟨d,l⟩:=Nm env x.i;let⟨R,c⟩:=aq (iW env x);rw[<-c];let⟨k,i,m,a⟩:=x;rw[iW,uc]at c;simp only at j e d l c;clear o p r s;let⟨A,v⟩:=aq (a.map (iW env));rw[<-v]at j c;let⟨⟨⟨B,C,un,E⟩,b⟩,w⟩:∃L,L=f_ env i:=⟨_,rfl⟩;rw[<-w]at e d l;simp only at e d l;refine st ao6 We (bH _) ?_;repeat' first|apply bk We j|refine H.op rfl (pl e) ?_;cases b<;>refine I We ?_|refine cg We (λz=>?_) λz=>?_|refine fq ?_
  all_goals clear j e
  all_goals first
   |(have h:R=⟨k,i,m,A⟩:=by rw[c,if_neg Z,if_pos Z]
     rw[h];exact .refl _)
   |(have h:R=⟨k,i,m,a⟩:=by rw[c,if_neg Z,if_neg Z]
     rw[h];exact .refl _)|cases g:mI env i with
     |none =>
      have h:R=⟨k,i,m,a⟩:=by rw[c,if_pos Z,g]
      first|rw[h];exact .refl _|rw[g]at d;cases d
     |some u =>
      have h:R=u:=by rw[c,if_pos Z,g]
      first|rw[h,<-l u g];exact .refl _|rw[g]at d;cases d
def agR(a:env.length<=1099511627776)(x:Tm)(b:cO x<=100000000000):ab Y 275 [a8 O env,tm O x] (tm O (iW env x)):=abV a _ x (ad_ _) b
theorem Q4(c:env.length<=1099511627776)(g:Gl)(e:bE g.a<=100000000000):ab Y 148 [a8 O env,gl O g] (gl O (gy env g)):=by
 have b:=Nn (Y:=Y) (O:=O) (f:=iW env) (env:=env) g.a (by grind[pW]) λy h=>agR c y (by have:=lj y h;omega);rw[gy];let⟨o,n,a⟩:=g;simp only at b⊢;let⟨A,d⟩:=aq (a.map (iW env));rw[<-d]at b⊢;clear d e c;refine st ao8 akc (jH _) ?_;repeat' first|apply bk akc b|refine fq ?_
 exact .refl _
end
theorem D.ato{k off len:Nat}{lo hi:Option QO}{l h:Int}{fz:Nat}(a:x.ev U.tm=.ob k sz off len none)(v:S.get k=some (.arr sz rows fz ex))(f:m=sz)(y:tP U.tm lo 0=some l)(z:tP U.tm hi len=some h)(h0:0<=l)(h1:l<h)(h2:off+h<=rows.length):D P Y false (.slice (.sl m) x lo hi none) U S (.ob k sz (off+l.toNat) (h.toNat-l.toNat) none) S:=D.run λn o B=>by
 obtain⟨t,u,C,E,i,F,rfl,rfl,rfl,d,⟨b,_⟩|⟨e,V,b,j,G⟩⟩:=Cx B;grind;injection b with b;subst b f;have d:i=none:=by cases i with|none=>rfl|some _=>cases d
 subst d;rw[aT]at a;refine a_.quiet λA g q w J p=>?_;have a:=p.ev u;rw[show U.ev u=_ from ‹U.ev u=_›]at a;let⟨c,K,r,W,hp,L,M⟩:=j_ a;let⟨_,_,cs,ty,p1,p2,p3,_⟩:=J.cX k _ v r;have oy:=L rfl;have N:=lF (P:=P) (isSl:=true) (len:=len) (cap:=c) (w:=w) p (uy y) (uy z) h0 Z Z;have Q:¬c=l.toNat:=Z;have R:(Instr.slice t (q.eval u) (C.map q.eval) (E.map q.eval) (Option.map q.eval none)).run P w=.ok (.slice (some ⟨g.ob k,(off+l.toNat)*m,none⟩) (h.toNat-l.toNat) (c-l.toNat)) w:=by simp[Instr.slice,K,run_underlying j,N,cW G,Q,iy,aL_]
 have T:(execOp q.eval o).run P w=.ok (.value (.slice (some ⟨g.ob k,(off+l.toNat)*m,none⟩) (h.toNat-l.toNat) (c-l.toNat))) w:=by simp only[execOp,F,Sem.run_bind,r_ j λk e h=>X,R,Result.andThen_ok];rfl
 exact⟨_,T,.ob r (λm f=>X) Z (λ_=>Z) Z⟩
theorem Wf{o:Op}(h:res P.toTables o=some (.Q5 z a)):∃c t u e b,o=.call c/\c.callee=.builtin .clear/\c.argTypes=#[t]/\c.args=#[u]/\a=qo u/\P.underlying t=some (.slice e)/\eu P e=some b/\z=b.cells.toList.map b9:=by cases o<;>simp only[res,cM,kV]at h<;>(repeat' split at h)<;>(try cases h);exact⟨_,_,_,_,_,rfl,X,toList_one (by assumption),toList_one X,rfl,by assumption,X,rfl⟩
theorem D.akd{k off len fz:Nat}{cx:Option Nat}(G:x.ev U.tm=.ob k sz off len cx)(J:S.get k=some (.arr sz rows fz ex))(hz:z.length=sz)(nO:BF db z=true)(hp:off+len<=rows.length)(hf:fz<=off)(h0:0<len):D P Y false (.Q5 z x) U S (.aL []) (S.set k (some (.arr sz (rows.take off++List.replicate len z++rows.drop (off+len)) fz ex))):=D.run λn o K=>by
 obtain⟨c,t,u,e,b,ho,hc,nk,cF,rfl,hu,B,rfl⟩:=Wf K;rw[aT]at G;intro A g q w L hA;have M:=hA.ev u;rw[G]at M;let⟨cc,C,N,_,_,_,hle⟩:=j_ M;let⟨k2,k3,Q,ty,R,p2,p3,p4,p5,p6,p7⟩:=L.cX k _ J N;have T:b.cells.size=sz:=X;let⟨d,m⟩:=aq (Builtin.zeroCells b.cells len).toList;have V:d.length=(List.replicate len (b.cells.toList.map b9)).length*sz:=by rw[m,bo_,size_zeroCells,bA_,T]
 have qw:∀i j,i<len->j<sz->∀v,b.cells[j]?=some v->d[i*sz+j]?=some v:=by
  intro i j y s v f;have au:i*sz+j<len*sz:=nj y s;have C:(i*sz+j)%b.cells.size=j:=by rw[T,bX_,cd_];exact ce_ s
  rw[m,bh_];unfold Builtin.zeroCells;rw[bW_,cc_,if_pos X];simp only[aK_,C];rw[getElem!_pos b.cells j Z,<-f,aM_ Z]
 let⟨hE,W⟩:=L.LV (p:=off) (FJ:=List.replicate len (b.cells.toList.map b9)) (JF:=d) J N R (λr K=>X) V λi row j a y ha=>by grind[nQ] X hf;rw[bA_]at W;have E:∀v∈d,v.oneCell'=true:=by intro v f;rw[m]at f;have f:=cD_.1 f;unfold Builtin.zeroCells at f;obtain⟨i,y,rfl⟩:=Array.mem_map.1 f;have lW:=Array.mem_range.1 y;have bT:0<b.cells.size:=X;have s:i%b.cells.size<b.cells.size:=Nat.mod_lt _ bT;rw[getElem!_pos b.cells _ s];have hm:b9 b.cells[i%b.cells.size]∈b.cells.toList.map b9:=aD_.2 ⟨_,cD_.2 (Array.getElem_mem s),rfl⟩;exact yy (g:=g) (w:=w) (q8 nO _ hm) (nQ _)
 have jy:off*sz+0+d.length<=Q.size:=by rw[V,bA_,p2,bz_,<-aL_];exact aT_ sz Z
 have F:=run_storeCells_at (P:=P) (g.ob k) (off*sz) ty d 0 Q w R jy E;rw[bz_]at F;refine⟨.tuple #[],_,g,.inl ?_,.aL rfl λi a x h=>X,W,hE⟩;have dB:(execOp q.eval o).run P w=((Builtin.clear_ #[t] o.type #[q.eval u]).run P w).andThen λv w'=>.ok (.value v) w':=by simp[execOp,ho,resolve,hc,nk,cF,invoke,builtin]
 rw[dB,C];obtain⟨cU,rfl⟩:∃l,len=l+1:=⟨len-1,Z⟩;rw[m]at F;simp[Builtin.clear_,run_underlying hu,pC B,F,m]
def pe{T:Type}(f:T->List AV)(z:List AV)(m:Nat)(l:List T):List (List AV):=l.map f++List.replicate (m-l.length) z
section
variable{rd:Bool}
theorem abW{l:List T}(h:l.length<=m):(pe f z m l).length=m:=by grind[pe]
theorem H.atq{LQ:Nat}{b:QO}{i:Int}(O:Hd)(f:T->List AV)(c:bC U.tm gg=some true)(h1:a.ev U.tm=.v (.int .i64 0))(h2:b.ev U.tm=.v (.int .i64 i))(hi:i=m)(hs:z.length=sz)(d:m*LQ<=35184372088832)(h6:m<=9223372036854775807)(kk:∀LR:List T,LR=[]->H P Y rd n Q (.bj false l K) (bU dd U (.ob S.nx sz 0 0 none)) (S.new (.arr sz (O.h (pe f z m) LR) 0 true))):H P Y rd n Q (.bj false (⟨dd,gg,.rV z LQ a b⟩::l) K) U S:=by have h:=kk [] rfl;rw[O.eq]at h;subst hs hi;exact H.op (i:=⟨dd,gg,.rV z LQ a b⟩) c (by simpa[pe] using D.ajr (P:=P) (Y:=Y) (z:=z) (LQ:=LQ) (S:=S) h1 h2 Z Z Z Z) (by grind[pe])
theorem akf{U:Type}{g:Nat->U}{k:Nat}{o:U}(h:g k=o):bJ g k o=g:=by grind[aG,aN]
theorem H.akg{LQ k len:Nat}{ex':Bool}{b:QO}(p:bC U.tm gg=some true)(h1:a.ev U.tm=.ob k sz 0 len none)(c:S.get k=some (.arr sz (O.h (pe f z m) LR) 0 ex))(q:len=LR.length)(d:b.ev U.tm=aY O f ex' ys)(u:∀x,(f x).length=sz)(v:∀x,(f x).all db=true)(w:LR.length+ys.length<=m)(kk:∀j r,j=LR++ys->r=j.length->H P Y rd n Q (.bj false l K) (bU dd U (.ob k sz 0 r none)) (S.set k (some (.arr sz (O.h (pe f z m) j) 0 ex)))):H P Y rd n Q (.bj false (⟨dd,gg,.append sz LQ a b⟩::l) K) U S:=by rw[bF]at d;have h:=kk _ _ rfl rfl;rw[O.eq]at h c;cases ys with
 |nil =>
  rw[aI_]at h;have e:S.set k (some (.arr sz (pe f z m LR) 0 ex))=S:=by cases S with|mk g x=>show(⟨bJ g k _,x⟩:ah)=⟨g,x⟩;rw[akf c]
  rw[e]at h;subst q;exact H.op (i:=⟨dd,gg,.append sz LQ a b⟩) p (D.Vy h1 c (by rw[d];exact jd)) h|cons y ys =>
  have A:=abW (f:=f) (z:=z) (show LR.length<=m by omega);have B:(f y::List.map f ys).length=(y::ys).length:=aB;have o:=D.asZ (P:=P) (Y:=Y) (LQ:=LQ) (x:=f y) (FJ:=List.map f ys) h1 c (by rw[d];exact jd) (aF_ _) X λrow E=>X;have F:(pe f z m LR).take len=LR.map f:=by grind[pe]
  have G:(pe f z m LR).drop (len+(f y::List.map f ys).length)=List.replicate (m-(LR++y::ys).length) z:=by rw[pe,q,List.drop_append,aq_ aB,aO_,List.drop_replicate];congr 1;simp;omega
  have s:(pe f z m LR).take len++f y::List.map f ys++(pe f z m LR).drop (len+(f y::List.map f ys).length)=pe f z m (LR++y::ys):=by grind[pe]
  rw[s]at o;have t:len+(f y::List.map f ys).length=(LR++y::ys).length:=X;rw[t]at o;exact H.op (i:=⟨dd,gg,.append sz LQ a b⟩) p o h
theorem aI.atr{k len:Nat}(c:S.get k=some (.arr sz (O.h (pe f z m) LR) 0 ex))(n:len=LR.length):aI S (.ob k sz 0 len none) (aY O f false LR):=by
 rw[bF];rw[O.eq]at c;have key:∀i row,(LR.map f)[i]?=some row->(pe f z m LR)[i]?=some row:=λi row h=>by unfold pe;rw[bj_ (aB_.1 h).1];exact h
 refine .ob c (by simp[pe];omega) X (λi row g b d=>?_) λi j row g a o b d l e=>?_;grind;rw[aG_,key i _ d]at b;rw[oJ_ b,l]at e;rw[oJ_ e];exact .refl _
theorem bm.yl{f:QO}{aZ9:List QO}{k:Nat}{b:Bool}{J e:iA}(h:f.ev U.tm=.yl k)(i:aZ9.map (·.ev U.tm)=args)(A:S.get k=some (.fo J))(j:∀(T:ah) (k:Nat),T.get k=some (.fo J)->Er P Y k args T (.v (.bool b)) (T.set k (some (.fo e)))):bm P Y B (.call f aZ9) U S (.v (.bool b)) ⟨[(k,.fo J)],[(k,some (.fo e))],false⟩:=by
 intro n o l;let⟨c,u,m,a,r,d⟩:=mq l;refine⟨λs=>by grind[sI,qf],λp s=>X,λT _ v _=>?_⟩;have w:T.get k=some (.fo J):=v _ List.mem_cons_self;have g:∀q∈(.call c:Op).operands,(U.only (dS o)).ev q=U.ev q:=λq x=>gI λt C=>gJ X;have y:(U.only (dS o)).ev u=.yl k:=by rw[g u (show u∈c.operands by simp[Call.operands,a]),<-h,r,aT]
 have z:c.args.toList.map (U.only (dS o)).ev=args:=by rw[<-i,d,jG];exact aQ_ λq x=>g q (show q∈c.operands by simp[Call.operands,a];exact .inr X)
 rw[gK];exact L8 m a y (by rw[z];exact j T k w)
end
theorem Cv.akh{t k:Nat}(u:S.get k=some (.arr sz rows 0 ex))(q:U.tm t=.ob k sz 0 m none)(G:m<=rows.length):Cv Y n U S ⟨bJ U.tm t (.gr k sz m),U.df⟩ (S.set k (some (.arr sz (rows.take m) 0 false))):=by
 intro A g a w x b;refine⟨g,x.OM (ad_ _) λj r c K=>?_,⟨b.size,λs d=>?_,λs d=>?_,b.df,b.yb⟩,Ext.refl A g w⟩;have c:bJ S.get k (some (.arr sz (rows.take m) 0 false)) j=some r:=c;by_cases e:j=k;subst e;rw[aG]at c;cases oJ_ c;refine⟨_,u,λh=>?_,λJ h=>by cases h⟩;let⟨y,z,f,l,L,M,B,N,C⟩:=h;refine⟨y,z,f,l,by rw[bc_];omega,(λh=>by cases h),λi row o=>?_,aF_ _,C⟩;rw[bK_]at o;split at o;exact B i row o;cases o;rw[aN _ _ e]at c;exact⟨r,c,λh=>h,λJ h=>h⟩;show aO g w (bJ U.tm t _ s) _;by_cases e:s=t;subst e;rw[aG];have f:=b.tm s d;rw[q]at f;generalize a.tmps.getD s undef=v at f⊢;cases f with|ob E P Q F p =>rw[bd_];exact .gr E (by have:=F rfl;omega) p
 rw[aN _ _ e];exact b.tm s d;show bJ U.tm t _ s=.u;by_cases e:s=t;subst e;have l:=b.out s d;rw[q]at l;cases l;rw[aN _ _ e];exact b.out s d
theorem aF.aki{f:FuncId}{r:AV}{k len:Nat}(C:S.get k=some (.arr sz rows 0 false))(h0:0<len)(AQ:len=rows.length)(h:∀(c:Nat) (d:List (List AV)),rows.length+d.length=c->(∀row∈d,row.length=sz/\∀a∈row,∃x,a=.v x)->aF P Y f (.ob k sz 0 len (some c)::args) (S.set k (some (.arr sz (rows++d) 0 true))) r S'):aF P Y f (.gr k sz len::args) S r S':=by refine⟨(h rows.length [] aB λrow s=>by cases s).1,λF m A g b w R E t=>?_⟩;let⟨v0,G⟩:∃v,b[0]?=some v:=⟨_,aM_ (by rw[t.1];simp)⟩;have K:=t.2 0 _ v0 rfl G;generalize T:v0=v at K;cases K with|lH=>omega|gr L hx y =>
  rename_i c;let⟨_,_,V⟩:=E.cX k _ C L;let⟨u,W,h1,M,h3,h4,h5,h6,h7⟩:=V;let⟨d,z⟩:∃d:List (List AV),d=(List.range (g.cp k-rows.length)).map λi=>(List.range sz).map λj=>AV.v (u.getD ((rows.length+i)*sz+j) undef):=⟨_,rfl⟩;have GL:rows.length+d.length=c:=by rw[z,bq_,cH_];omega
  refine(h c d GL λrow s=>?_).2 F m A g b w R (E.OM (ad_ _) λj N o p=>?_) ⟨by rw[t.1];rfl,λi a x l B=>?_⟩;rw[z]at s;obtain⟨i,_,rfl⟩:=aD_.1 s;refine⟨aB,λa p=>?_⟩;obtain⟨j,_,rfl⟩:=aD_.1 p;exact⟨_,rfl⟩;have o:bJ S.get k (some (.arr sz (rows++d) 0 true)) j=some N:=o;by_cases e:j=k;subst e;rw[aG]at o;cases oJ_ o;refine⟨_,C,λ_=>?_,λJ h=>by cases h⟩;refine⟨u,W,h1,M,by rw[av_];omega,λ_=>by rw[av_];omega,λi row l=>?_,aF_ _,h7⟩;by_cases Zc:i<rows.length;rw[bj_ Zc]at l;exact h5 i row l;rw[bv_ Z,z,aY_]at l;obtain⟨i',lW,rfl⟩:=bb_.1 l;obtain⟨au,rfl⟩:=aB_.1 lW;rw[cH_]at au;refine⟨aB,λq a p=>?_⟩;rw[aY_]at p;obtain⟨q',Fl,rfl⟩:=bb_.1 p;obtain⟨j9,rfl⟩:=aB_.1 Fl;rw[cH_]at j9;simp only[List.getElem_range];rw[show rows.length+(i-rows.length)=i by omega];have Q:i*sz+q<u.size:=by rw[M];have:(i+1)*sz<=g.cp j*sz:=aT_ _ Z;rw[aL_,bx_]at this;omega
  refine⟨u[i*sz+q],aM_ Q,?_⟩;rw[be_,aM_ Q];exact .v;rw[aN _ _ e]at o;exact⟨N,o,λh=>h,λJ h=>h⟩;cases i with|zero =>simp only[ct_]at l;cases oJ_ l;rw[G]at B;cases oJ_ B;have:=aO.ob (g:=g) (w:=w) (k:=k) (sz:=sz) (off:=0) (len:=len) (c:=c) (cx:=some c) L (λn h=>oJ_ h) Z (λh=>by cases h) y;rw[bd_]at this;rw[T];exact this|succ i=>exact t.2 (i+1) a x (by simpa using l) B
theorem D.Oo{dr:Bool}{len n:Nat}{i:QO}{k p q:Nat}{a:IntKind}{j:Int}(h1:x.ev U.tm=.pt k sz p q)(h2:i.ev U.tm=.v (.int a j))(h3:j=m)(h4:m<len):D P Y dr (.Ku len n x i) U S (.pt k sz p (q+m*n)) S:=by have:=D.V5 (P:=P) (Y:=Y) (U:=U) (S:=S) (dr:=dr) (len:=len) (n:=n) h1 h2 Z Z;rw[show j.toNat=m by omega]at this;exact this
theorem H.vz{σ T:Type}{b:List (Nat×AV)}{ds:List DE}{so:σ->List (Nat×Ob)}{a:List T->σ->Prop}{c:List T}(so':List (Nat×Ob))(m:List (Nat×Nat))(hC:Canon B N m U S [] [] so')(h:H P Y false n Q (.out .ret K) (jn b ds) (aw so' N)):H P Y true n (O8 P Y n B N b ds so a Q K c) (.out .ret []) U S:=⟨so',m,hC,h⟩
def fh(ms:List (Int×Int))(i:Nat):Int×Int:=ms[i]?.getD (0,0)
def nv(cl:List Nat)(ms:List (Int×Int)):List Nat->Bool->Int×Int->Bool×Int×Int|[],d,x=>(d,x)|j::l,d,x=>nv cl ms l (d&&decide (0<(fh ms (cw cl j)).1)) (min (x.1+(fh ms (cw cl j)).1) 201,min (max x.2 ((fh ms (cw cl j)).2+1)) 21)
def qG(N:aS)(cl:List Nat)(C:Nat):List Nat:=match cY N cl C with|none=>[]|some s=>ks N s
def A6(N:aS)(cl:List Nat)(i:Nat)(p:List (Int×Int)×Int):List (Int×Int)×Int :=if 0<(fh p.1 (cw cl i)).1 then p else if(nv cl p.1 (qG N cl (cw cl i)) true (1,1)).1=true then(p.1.set (cw cl i) (nv cl p.1 (qG N cl (cw cl i)) true (1,1)).2,p.2-1) else p
def pX(N:aS)(cl:List Nat):List Nat->List (Int×Int)×Int->List (Int×Int)×Int|[],p=>p|i::l,p=>pX N cl l (A6 N cl i p)
def vz(N:aS)(cl:List Nat):Nat->List (Int×Int)×Int->Option (Option (List (Int×Int)))|0,_=>none|m+1,p=>if 0<p.2 then if(pX N cl (List.range N.length) p).2=p.2 then some none else vz N cl m (pX N cl (List.range N.length) p) else some (some p.1)
def ll(c:Nat->Nat)(ms:List (Int×Int)):Nat->Nat|0=>0|n+1=>ll c ms n+if c n=n/\¬0<(fh ms n).1 then 1 else 0
theorem Jq{ms:List (Int×Int)}{C:Nat}{q:Int×Int}(h:C<ms.length)(i:Nat):fh (ms.set C q) i=if i=C then q else fh ms i:=by grind[fh]
theorem Q6{c:Nat->Nat}{ms:List (Int×Int)}{C:Nat}{q:Int×Int}(a:C<ms.length)(b:c C=C)(h0:¬0<(fh ms C).1)(d:0<q.1):∀n,ll c (ms.set C q) n+(if C<n then 1 else 0)=ll c ms n|0=>by simp[ll]|n+1=>by have f:=Q6 a b h0 d n;rw[ll,ll,Jq a];by_cases e:n=C;grind;grind
theorem UA{c:Nat->Nat}{ms:List (Int×Int)}:∀n,0<ll c ms n->∃C,C<n/\c C=C/\¬0<(fh ms C).1|0,h=>by simp[ll]at h|n+1,h=>by rw[ll]at h;split at h;grind;obtain⟨C,b,a⟩:=UA n (by omega);exact⟨C,Z,a⟩
section
variable{N:aS}
structure MI(N:aS)(cl:List Nat)(c:Nat->Nat)(lo:Nat->Int)(p:List (Int×Int)×Int):Prop where
 len:p.1.length=N.length
 kn:∀C,C<N.length->c C=C->0<(fh p.1 C).1->∃m,iq N c (cY N cl) m C/\fh p.1 C=qD (TF N c (cY N cl) lo m C)left:p.2=ll c p.1 N.length
theorem Q7(f:CI cl c N.length){ms:List (Int×Int)}(n:∀C,C<N.length->c C=C->0<(fh ms C).1->∃m,iq N c (cY N cl) m C/\fh ms C=qD (TF N c (cY N cl) lo m C)):∀(l:List Nat)(d:Bool)(A B:Int),1<=A->1<=B->(∀j∈l,j<N.length) ->((nv cl ms l d (min A 201,min B 21)).1=true↔d=true/\∀j∈l,0<(fh ms (c j)).1) /\((∀j∈l,0<(fh ms (c j)).1)->∃M,(∀j∈l,iq N c (cY N cl) M (c j))/\(nv cl ms l d (min A 201,min B 21)).2=(min (A+bE (l.map λj=>TF N c (cY N cl) lo M (c j))) 201,min (max B (zm (l.map λj=>TF N c (cY N cl) lo M (c j))+1)) 21))
 |[],d,A,B,p,q,_=>by rw[nv];refine⟨aB,λ_=>⟨0,λj g=>X,?_⟩⟩;simp[bE,zm];omega|j::l,d,A,B,p,q,g=>by
  have h:=g j aB;rw[nv,f.at_ j h];by_cases e:0<(fh ms (c j)).1;let⟨a,Y,z⟩:=n (c j) (f.cc j h).1 (f.cc j h).2 e;have r:(min (min A 201+(fh ms (c j)).1) 201,min (max (min B 21) ((fh ms (c j)).2+1)) 21)=(min (A+cO (TF N c (cY N cl) lo a (c j))) 201,min (max B (H_ (TF N c (cY N cl) lo a (c j))+1)) 21):=by grind[qD]
  simp only[r];let⟨E,s⟩:=Q7 f n l (d&&decide (0<(fh ms (c j)).1)) (A+cO (TF N c (cY N cl) lo a (c j))) (max B (H_ (TF N c (cY N cl) lo a (c j))+1)) Z Z λi b=>g i X;refine⟨?_,λk=>?_⟩;grind;let⟨M,o,t⟩:=s λi b=>k i X;have u:TF N c (cY N cl) lo (max M a) (c j)=TF N c (cY N cl) lo a (c j):=Ar Y (cl_ _ _);have v:(l.map λj=>TF N c (cY N cl) lo (max M a) (c j))=l.map λj=>TF N c (cY N cl) lo M (c j):=aQ_ λi b=>Ar (o i b) (cm_ _ _);refine⟨max M a,λi b=>?_,?_⟩;rcases al_.1 b with rfl|b;exact Y.le (cl_ _ _);exact(o i b).le (cm_ _ _);rw[t,aH_,u,v,bE,zm];congr 1<;>omega;have w:∀(l:List Nat)(x:Int×Int),(nv cl ms l false x).1=false:=by intro l;induction l with|nil=>intro x;rfl|cons i l y=>intro x;rw[nv,bs_];exact y _
  refine⟨?_,λk=>absurd (k j aB) e⟩;simp only[decide_eq_false e,bN_,w];simp[e]
theorem Zd(g:fR N)(d:CI cl c N.length){C:Nat}:∀j∈qG N cl C,j<N.length:=by intro j a;unfold qG at a;have b:=F6 d C;cases e:cY N cl C with|none=>rw[e]at a;cases a|some s =>rw[e]at a b;exact cE_ (g.lt s b.1 j a) b.1
theorem abX(g:fR N)(a:CI cl c N.length){p:List (Int×Int)×Int}(b:MI N cl c lo p){i:Nat}(hi:i<N.length):MI N cl c lo (A6 N cl i p) /\(A6 N cl i p=p/\(¬0<(fh p.1 (c i)).1->∃j∈qG N cl (c i),¬0<(fh p.1 (c j)).1)\/(A6 N cl i p).2=p.2-1):=by
 let⟨ci,f⟩:=a.cc i hi;unfold A6;rw[a.at_ i hi];by_cases e:0<(fh p.1 (c i)).1;grind;rw[if_neg e];let⟨k,l⟩:=Q7 a b.kn (qG N cl (c i)) true 1 1 Z Z (Zd g a);have n:((min 1 201,min 1 21):Int×Int)=(1,1):=rfl;rw[n]at k l;by_cases m:(nv cl p.1 (qG N cl (c i)) true (1,1)).1=true;rw[if_pos m];let⟨M,o,r⟩:=l (k.1 m).2;have y:(nv cl p.1 (qG N cl (c i)) true (1,1)).2=qD (TF N c (cY N cl) lo (M+1) (c i)):=by rw[r,TF];unfold qG;cases z:cY N cl (c i) with|none=>simp[qD,vr,cO,bE,H_,zm]|some s=>simp only;rw[TD]
 have t:iq N c (cY N cl) (M+1) (c i):=λs A j B=>o j (by grind[qG]);have u:0<(nv cl p.1 (qG N cl (c i)) true (1,1)).2.1:=X;have E:=b.len;have h:=Q6 (c:=c) (ms:=p.1) (C:=c i) (q:=(nv cl p.1 (qG N cl (c i)) true (1,1)).2) Z f e u N.length;rw[if_pos ci]at h;refine⟨⟨X,λC v w d=>?_,?_⟩,.inr rfl⟩;simp only at d⊢;rw[Jq Z]at d⊢;by_cases x:C=c i;grind;rw[if_neg x]at d⊢;exact b.kn C v w d;simp only;rw[b.left];omega;grind
theorem UB(g:fR N)(d:CI cl c N.length):∀(l:List Nat){p:List (Int×Int)×Int},(∀i∈l,i<N.length)->MI N cl c lo p->MI N cl c lo (pX N cl l p)/\(pX N cl l p).2<=p.2 /\((pX N cl l p).2=p.2->pX N cl l p=p/\∀i∈l,¬0<(fh p.1 (c i)).1->∃j∈qG N cl (c i),¬0<(fh p.1 (c j)).1) |[],p,_,a=>⟨a,bp_ _,λ_=>⟨rfl,λi h=>X⟩⟩|i::l,p,e,a=>by let⟨f,b⟩:=abX g d a (e i aB);let⟨k,m,k3⟩:=UB g d l (λj n=>e j X) f;rw[pX];rcases b with⟨b,o⟩|b;grind;grind
theorem Ze(g:fR N)(a:CI cl c N.length):∀(d:Nat){p:List (Int×Int)×Int},p.2<=d->MI N cl c lo p->∃r,vz N cl (d+1) p=some r /\(r=none->¬∃o:Nat->Nat,∀C,C<N.length->c C=C->∀j∈qG N cl C,o (c j)<o C)/\∀ms,r=some ms->ms.length=N.length/\∀C,C<N.length->c C=C->∃m,iq N c (cY N cl) m C/\fh ms C=qD (TF N c (cY N cl) lo m C)
 |d,p,M,b=>by
  rw[vz];by_cases e:0<p.2;rw[if_pos e];let⟨y,P,k3⟩:=UB g a (List.range N.length) (λi z=>aU_.1 z) b;by_cases s:(pX N cl (List.range N.length) p).2=p.2;rw[if_pos s];refine⟨none,rfl,λ_ ⟨o,u⟩=>?_,λms h=>X⟩;let⟨_,v⟩:=k3 s;let⟨A,B,E,F⟩:=UA (c:=c) (ms:=p.1) N.length (by have:=b.left;omega);have key:∀(n C:Nat),o C<=n->C<N.length->c C=C->¬0<(fh p.1 C).1->False:=by intro n;induction n with|zero =>intro C G f k t;have:=v C (aU_.2 f);rw[k]at this;let⟨j,q,_⟩:=this t;have:=u C f k j q;omega|succ n w =>intro C G f k t;have:=v C (aU_.2 f);rw[k]at this;let⟨j,q,J⟩:=this t;have Q:=u C f k j q;have l:=Zd g a j q;exact w (c j) Z (a.cc j l).1 (a.cc j l).2 J
  exact key _ A (ad_ _) B E F;rw[if_neg s];cases d with|zero=>omega|succ d=>exact Ze g a d Z y
  rw[if_neg e];refine⟨some p.1,rfl,λh=>X,λms h=>?_⟩;cases oJ_ h;refine⟨b.len,λC x K=>b.kn C x K (dP_ λR=>?_)⟩;have L:∀n,C<n->0<ll c p.1 n:=by intro n;induction n with|zero=>intro h;omega|succ n w =>intro h;rw[ll];by_cases S:C=n;grind;grind
  have:=L _ x;have:=b.left;omega
end
def CG(N:aS)(cl:List Nat)(C:Nat):List Nat->Int->Int|[],v=>v|i::l,v=>CG N cl C l (if cw cl i=C/\(tn N i).k=1/\(v<0\/(tn N i).i<v) then(tn N i).i else v)
def fw(N:aS)(cl:List Nat)(C:Nat):Int:=CG N cl C (List.range N.length) (-1)
theorem Q8{N:aS}{cl:List Nat}{c:Nat->Nat}(a:CI cl c N.length)(b:BI N){C:Nat}:∀(l:List Nat)(v:Int),(∀i∈l,i<N.length)->-1<=v ->(CG N cl C l v=v\/∃i∈l,c i=C/\(tn N i).k=1/\(tn N i).i=CG N cl C l v)/\(0<=v->CG N cl C l v<=v)/\-1<=CG N cl C l v/\(∀i∈l,c i=C->(tn N i).k=1->0<=CG N cl C l v/\CG N cl C l v<=(tn N i).i)/\(0<=v->0<=CG N cl C l v) |[],v,_,d=>⟨.inl rfl,λ_=>bp_ _,d,λi f=>X,λh=>h⟩|i::l,v,g,d=>by have f:=g i aB;rw[CG,a.at_ i f];by_cases e:c i=C/\(tn N i).k=1/\(v<0\/(tn N i).i<v);rw[if_pos e];have p:=b i f e.2.1;obtain⟨q,o,k,r,m⟩:=Q8 a b l (tn N i).i (λj n=>g j X) (by omega);refine⟨.inr ?_,λu=>X,k,λj n s t=>?_,λ_=>m p⟩;grind;grind;rw[if_neg e];obtain⟨q,o,k,r,m⟩:=Q8 a b l v (λj n=>g j (by grind)) d;refine⟨?_,o,k,λj n s t=>?_,m⟩;grind;grind
def DZ:List Bd->Bd->List Bd|[],x=>[x]|y::l,x=>if y.v<x.v then y::DZ l x else x::y::l
def xU(N:aS)(cl:List Nat)(ms:List (Int×Int))(m:Nat):List Nat->List Bd->Option (List Bd)|[],LR=>some LR|i::l,LR=>if(tn N i).k≠1\/cY N cl (cw cl i)=none/\fw N cl (cw cl i)=(tn N i).i then xU N cl ms m l LR else if 200<(fh ms (cw cl i)).1\/20<(fh ms (cw cl i)).2 then none else xU N cl ms m l (DZ LR ⟨(tn N i).i,TF N (cw cl) (cY N cl) (fw N cl) m (cw cl i)⟩)
theorem Gp{σ:Int->Tm}{v:Int}:∀{l:List Int},wY l->v∉l->∃b,DZ (l.map λw=>⟨w,σ w⟩) ⟨v,σ v⟩=b.map (λw=>⟨w,σ w⟩)/\wY b/\∀w,w∈b↔w∈l\/w=v|[],_,_=>⟨[v],rfl,⟨λy g=>X,trivial⟩,λw=>aB⟩|y::l,h,c=>by simp only[al_,not_or]at c;rw[aH_,DZ];by_cases e:y<v;rw[if_pos e];let⟨b,i,d,f⟩:=Gp (σ:=σ) h.2 c.2;refine⟨y::b,X,⟨λz a=>?_,d⟩,λw=>?_⟩;rcases(f z).1 a with a|rfl;exact h.1 z a;grind;grind;rw[if_neg e];refine⟨v::y::l,rfl,⟨λz a=>?_,h⟩,λw=>?_⟩;rcases al_.1 a with rfl|a;omega;have:=h.1 z a;omega;grind
theorem CH{N:aS}{cl:List Nat}{c:Nat->Nat}{ms:List (Int×Int)}{M:Nat}{σ:Int->Tm}{p:Int->Bool}(g:fR N)(x:CI cl c N.length)(r:∀v,p v=true↔σ v≠vr v)(s:∀i,i<N.length->(tn N i).k=1->σ (tn N i).i=TF N (cw cl) (cY N cl) (fw N cl) M (cw cl i)/\fh ms (cw cl i)=qD (σ (tn N i).i)/\(cY N cl (cw cl i)=none/\fw N cl (cw cl i)=(tn N i).i↔σ (tn N i).i=vr (tn N i).i)):∀(l:List Nat)(L:List Int),(∀i∈l,i<N.length)->l.Nodup->wY L->(∀v∈L,∃i,i<N.length/\i∉l/\(tn N i).k=1/\(tn N i).i=v) ->∃f,wY f/\(∀v,v∈f↔v∈L\/∃i∈l,(tn N i).k=1/\(tn N i).i=v/\p v=true) /\xU N cl ms M l (L.map λv=>⟨v,σ v⟩)=if∃i∈l,(tn N i).k=1/\p (tn N i).i=true/\iX (σ (tn N i).i)=true then none else some (f.map λv=>⟨v,σ v⟩)
 |[],L,_,_,o,_=>⟨L,o,λv=>aB,by grind[xU]⟩|i::l,L,E,t,o,y=>by
  have F:=E i aB;rw[bQ_]at t;have z:∀j∈l,j<N.length:=λj k=>E j X;rw[xU];by_cases u:(tn N i).k=1;let⟨P,Q,G⟩:=s i F u;have R:=r (tn N i).i;by_cases e:σ (tn N i).i=vr (tn N i).i;rw[if_pos (.inr (G.2 e))];let⟨f,m,n,k3⟩:=CH g x r s l L z t.2 o λv q=>let⟨j,a,b,d⟩:=y v q;⟨j,a,λh=>b X,d⟩;refine⟨f,m,λv=>(n v).trans ?_,?_⟩;grind;rw[k3];have:(∃j∈l,(tn N j).k=1/\p (tn N j).i=true/\iX (σ (tn N j).i)=true)↔∃j∈i::l,(tn N j).k=1/\p (tn N j).i=true/\iX (σ (tn N j).i)=true:=⟨λ⟨j,k,h⟩=>⟨j,X,h⟩,λ⟨j,k,h⟩=>X⟩;simp only[this];rw[if_neg λh=>h.elim (λh=>h u) λh=>e (G.1 h),Q];have S:p (tn N i).i=true:=R.2 e;simp only[TE];by_cases A:iX (σ (tn N i).i)=true;have J:∀w:Option (List Bd),(none:Option (List Bd))=if∃j∈i::l,(tn N j).k=1/\p (tn N j).i=true/\iX (σ (tn N j).i)=true then none else w:=λw=>(if_pos ⟨i,aB,u,S,A⟩).symm;rw[if_pos A];let⟨f,m,n,k3⟩:=CH g x r s l L z t.2 o λv q=>let⟨j,a,b,d⟩:=y v q;⟨j,a,λh=>b X,d⟩;by_cases T:(tn N i).i∈f;refine⟨f,m,λv=>(n v).trans ?_,J _⟩;simp only[al_];refine⟨λh=>h.elim .inl λ⟨j,k,h⟩=>.inr ⟨j,.inr k,h⟩,λh=>?_⟩;rcases h with h|⟨j,rfl|k,h'⟩;grind;grind;grind;let⟨V,_,B,K⟩:=Gp (σ:=σ) m T;refine⟨V,B,λv=>(K v).trans ?_,J _⟩;rw[n];simp only[al_];refine⟨λh=>?_,λh=>?_⟩;grind;grind;rw[if_neg A,<-P];have C:(tn N i).i∉L:=λh=>by let⟨j,a,b,d1,d2⟩:=y _ h;have:=g.one j i a F d1 u d2;subst this;exact b aB
  let⟨W,q1,B,K⟩:=Gp (σ:=σ) o C;rw[q1];let⟨f,m,n,k3⟩:=CH g x r s l W z t.2 B λv q=>X;refine⟨f,m,λv=>(n v).trans ?_,?_⟩;grind;rw[k3];have:(∃j∈l,(tn N j).k=1/\p (tn N j).i=true/\iX (σ (tn N j).i)=true)↔∃j∈i::l,(tn N j).k=1/\p (tn N j).i=true/\iX (σ (tn N j).i)=true:=⟨λ⟨j,k,h⟩=>⟨j,X,h⟩,λ⟨j,k,h⟩=>X⟩;simp only[this];rw[if_pos (.inl u)];let⟨f,m,n,k3⟩:=CH g x r s l L z t.2 o λv q=>let⟨j,a,b,d⟩:=y v q;⟨j,a,λh=>b X,d⟩;refine⟨f,m,λv=>(n v).trans ?_,?_⟩;grind;rw[k3];have:(∃j∈l,(tn N j).k=1/\p (tn N j).i=true/\iX (σ (tn N j).i)=true)↔∃j∈i::l,(tn N j).k=1/\p (tn N j).i=true/\iX (σ (tn N j).i)=true:=⟨λ⟨j,k,h⟩=>⟨j,X,h⟩,λ⟨j,k,h⟩=>X⟩;simp only[this]
theorem akl{N:aS}{c c':Nat->Nat}{sh:Nat->Option Nat}{lo:Nat->Int}(g:fR N)(hs:∀C s,sh C=some s->s<N.length)(a:∀i,i<N.length->c' i=c i):∀(m C:Nat),TF N c' sh lo m C=TF N c sh lo m C|0,_=>rfl|m+1,C=>by rw[TF,TF];cases e:sh C with|none=>rfl|some s =>simp only[Tm.mk.injEq,true_and];refine aQ_ λj b=>?_;rw[a j (cE_ (g.lt s (hs C s e) j b) (hs C s e))];exact akl g hs a m _
theorem akm(E:List (Tm×Tm))(hw:∀e∈E,(eU e.1/\vq e.1)/\eU e.2/\vq e.2):∃b N cl,wq E [] [] b N cl/\(b=false->ou iX E=([],13)) /\(b=true->(∃c,CI cl c N.length)/\fR N/\∃r:Option (List (Int×Int)),(∃f,vz N cl f (List.replicate N.length (0,0),ll (cw cl) (List.replicate N.length (0,0)) N.length)=some r)/\(r=none->ou iX E=([],13)) /\∀ms,r=some ms->∃M,(∀i,i<N.length->iq N (cw cl) (cY N cl) M (cw cl i))/\ou iX E=match xU N cl ms M (List.range N.length) [] with|none=>([],6)|some o=>(o,0)):=by
 let⟨b,N,cl,q,z,h3⟩:=Ul (E:=E) E [] [] [] [] id (λe T=>⟨T,hw e T⟩) (qY.start (E:=E)).gi ⟨rfl,λi a=>(by cases a),λi a=>by cases a⟩ (λi a=>by cases a) (λp V=>by cases V) (λe T=>by cases T);refine⟨b,N,cl,q,λe=>Az (z e),λe=>?_⟩;let⟨zzD,c,u,g,hP,hD⟩:=h3 e;rw[aO_]at hD;have G:uR E N c:=u.closed hD;have UC:∀n,n<=N.length->∀ms,ll (cw cl) ms n=ll c ms n:=by intro n;induction n with|zero=>intro _ ms;rfl|succ n ih=>intro hn ms;rw[ll,ll,ih Z,g.at_ n Z]
 have hM0:MI N cl c (fw N cl) (List.replicate N.length (0,0),(ll c (List.replicate N.length (0,0)) N.length:Int)):=⟨aB,λC G e h0=>by simp only[fh,dn_]at h0;split at h0<;>simp at h0,rfl⟩;let⟨r,r1,r2,r3⟩:=Ze u.g g (ll c (List.replicate N.length (0,0)) N.length) (bp_ _) hM0;have B:∀C s,cY N cl C=some s->s<N.length/\c s=C/\(tn N s).k≠1:=λC s h=>by have:=F6 g C;rw[h]at this;exact this
 refine⟨⟨c,g⟩,u.g,r,⟨_,by rw[UC _ (ad_ _)];exact r1⟩,λe=>Az λhu=>r2 e ?_,λms e=>?_⟩;let⟨W,zn⟩:=MP u.g u.sound hu;refine⟨W,λC G e j d=>?_⟩;unfold qG at d;cases J:cY N cl C with|none=>rw[J]at d;cases d|some s =>rw[J]at d;let⟨s1,s2,s3⟩:=B C s J;have:=zn s s1 s3 j d;rwa[s2]at this
 let⟨KE,K⟩:=r3 ms e;have jl:∀i,i<N.length->c (c i)=c i/\c i<N.length:=λi a=>⟨(g.cc i a).2,(g.cc i a).1⟩;have H5:∀i,i<N.length->cY N cl (c i)=none->∀j,j<N.length->c j=c i->(tn N j).k=1:=λi a h j d e=>by have:=F6 g (c i);rw[h]at this;exact this j d e
 have hW:∀i,i<N.length->∃m,iq N c (cY N cl) m (c i):=λi a=>let⟨m,h,_⟩:=K (c i) (jl i a).2 (jl i a).1;⟨m,h⟩;have Q9:∀i,i<N.length->∀j∈ks N i,j<N.length:=λi a j d=>cE_ (u.g.lt i a j d) a;let⟨W,hr,X3⟩:∃r,uS N c r/\∀i,i<N.length->iq N c (cY N cl) (r (c i)) (c i):=by
  have A:∀C,∃m,(∃m,iq N c (cY N cl) m C)->iq N c (cY N cl) m C/\∀k,k<m->¬iq N c (cY N cl) k C:=λC=>by by_cases h:∃m,iq N c (cY N cl) m C;let⟨n,hn⟩:=h;let⟨m,q,z⟩:=Pa (p:=λm=>iq N c (cY N cl) m C) n hn;exact⟨m,λ_=>⟨q,z⟩⟩;exact⟨0,λh'=>absurd h' h⟩
  refine⟨λC=>(A C).choose,λi a l j d=>?_,λi a=>((A (c i)).choose_spec (hW i a)).1⟩;cases ht:cY N cl (c i) with|none=>exact absurd (H5 i a ht i a rfl) l|some t =>
   let⟨t1,t2,t3⟩:=B _ _ ht;have q:=((A (c i)).choose_spec (hW i a)).1;let⟨_,a2⟩:=G.al i t a t1 t2.symm l t3;have iT:c j∈(ks N t).map c:=by rw[<-a2];exact aD_.2 ⟨j,d,rfl⟩
   let⟨x,nw,e⟩:=aD_.1 iT;show(A (c j)).choose<(A (c i)).choose;generalize(A (c i)).choose=m at q;cases m with|zero=>exact q.elim|succ m =>have z:=q t ht x nw;rw[e]at z;have h3:=((A (c j)).choose_spec ⟨m,z⟩).2;exact Nat.lt_succ_of_le (di_ λh=>h3 m h z)
 let⟨M,hM⟩:=LC (sh:=cY N cl) N.length λi a=>⟨_,X3 i a⟩;have uz:∀i,i<N.length->cY N cl (c i)=none->∃j,j<N.length/\c j=c i/\fw N cl (c i)=(tn N j).i/\∀x,x<N.length->c x=c i->(tn N j).i<=(tn N x).i:=λi a h=>by have F:=H5 i a h;let⟨k1,_,_,k4,_⟩:=Q8 g hP (C:=c i) (List.range N.length) (-1) (λj d=>aU_.1 d) Z;have k5:=k4 i (aU_.2 a) rfl (F i a rfl);unfold fw;rcases k1 with k1|⟨j,j1,j2,j3,j4⟩;omega;refine⟨j,aU_.1 j1,j2,j4.symm,λx nw e=>?_⟩;rw[j4];exact(k4 x (aU_.2 nw) e (F x nw e)).2
 have TN:Dq N c (TC N c (cY N cl) (fw N cl) W):=Pt G B hr H5 uz;have Pu:=Pv G TN hr;have P:∀{m Q C:Nat},iq N c (cY N cl) m C->iq N c (cY N cl) Q C->TF N c (cY N cl) (fw N cl) m C=TF N c (cY N cl) (fw N cl) Q C:=λ{m Q C}h h'=>by rw[<-Ar h (cm_ m Q),Ar h' (cl_ m Q)]
 let⟨w,Pw⟩:=aq (Ib N c (TC N c (cY N cl) (fw N cl) W));have TO:∀i,i<N.length->(tn N i).k=1->∀m,iq N c (cY N cl) m (c i)->w (tn N i).i=TF N c (cY N cl) (fw N cl) m (c i):=λi a l m hm=>by rw[Pw,B9 u.g a l];unfold TC;exact P (X3 i a).succ hm
 rw[<-Pw]at Pu;let⟨p,V⟩:∃p:Int->Bool,∀v,p v=true↔w v≠vr v:=by classical exact⟨λv=>decide (w v≠vr v),λv=>decide_eq_true_iff⟩
 have hTc:∀m C,TF N (cw cl) (cY N cl) (fw N cl) m C=TF N c (cY N cl) (fw N cl) m C:=λm C=>akl u.g (λC s h=>(B C s h).1) g.at_ m C;have hWc:∀(m C:Nat),iq N c (cY N cl) m C->iq N (cw cl) (cY N cl) m C:=by intro m;induction m with|zero=>intro C h;exact h.elim|succ m ih =>intro C h s hs j d;rw[g.at_ j (Q9 s (B C s hs).1 j d)];exact ih _ (h s hs j d)
 refine⟨M,λi a=>by rw[g.at_ i a];exact hWc _ _ (hM i a),?_⟩;let⟨L,l1,l2,l3⟩:=CH (σ:=w) (M:=M) (p:=p) (ms:=ms) u.g g V (λi a l=>by rw[g.at_ i a,hTc];have q:=TO i a l M (hM i a);let⟨m,w1,w2⟩:=K (c i) (jl i a).2 (jl i a).1;refine⟨q,by rw[w2,q,P w1 (hM i a)],?_⟩;rw[q];have hMi:=hM i a;cases M with|zero=>exact hMi.elim|succ M =>rw[TF];cases J:cY N cl (c i) with|none=>simp[vr]|some s =>simp only[vr,Tm.mk.injEq];exact⟨(λh=>by cases h.1),λh=>absurd h.1 (B _ _ J).2.2⟩) (List.range N.length) [] (λi a=>aU_.1 a) List.nodup_range trivial (λv F=>by cases F);have hO:Ft E w L:=⟨Pu,l1,λv=>by rw[l2];refine⟨λh=>?_,λh=>.inr ?_⟩;rcases h with h|⟨i,a,l,R,h⟩;grind;grind;by_cases hx:∃i,i<N.length/\(tn N i).k=1/\(tn N i).i=v;let⟨i,a,l,R⟩:=hx;exact⟨i,aU_.2 a,l,R,(V v).2 h⟩;rw[Pw]at h;exact absurd (I1 hx) h⟩;rw[MS hO,VC];rw[aV_]at l3;rw[l3];have S:(L.any λv=>iX (w v))=true↔∃i∈List.range N.length,(tn N i).k=1/\p (tn N i).i=true/\iX (w (tn N i).i)=true:=by rw[List.any_eq_true];refine⟨λ⟨v,F,y⟩=>?_,λ⟨i,a,l,uw,y⟩=>⟨_,(l2 _).2 (.inr ⟨i,a,l,rfl,uw⟩),y⟩⟩;rcases(l2 v).1 F with h|⟨i,a,l,rfl,h⟩;cases h;exact⟨i,a,l,h,y⟩
 by_cases y:(L.any λv=>iX (w v))=true;rw[if_pos y,if_pos (S.1 y)];rw[if_neg y,if_neg λh=>y (S.2 h)]
end Go.Proofs.YtbdcmpknicjopaaGreat
