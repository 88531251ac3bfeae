import Derived.Test.YtbpabjmnhggajaaGreatOr48
namespace Go.Proofs.YtbpabjmnhggajaaGreat
set_option linter.all false
set_option maxRecDepth 100000
open Go.RowKit
variable {u:List Bd}{s:List Im × Bool}
section
attribute [local irreducible] ah aG ae ad
def aaQ:FQ 140 Tryz.f140:=aF Tryz.func140 Tryz.call140
def nZ:List Nat:=[0,1,4,6,16]
section
variable {w0:World}{ρ:Hd}
theorem acD (n:Int) (h0:0 < n) (h1:n<=100000000000):aG Tryz.prog w0 140 [.sl true [],iv n] (aq [] 0) (.gr 0 3 0) (aq [(0,.arr 3 (ρ.h (List.map (jf ρ)) []) 0 false)] 1):=by
 refine sc 0 1 aaQ ?_;refine gq nZ ?_;refine cn (λf=>?_) λf=>?_
 ·grind
 refine gq nZ ?_;refine ig nZ (ae.cap (m:=0) rfl) λc i=>?_;refine bS λq b=>?_;have b:q=0:=b;refine gq nZ ?_;refine ag nZ λd l=>?_;refine ag nZ λe o=>?_;refine cn (λg=>?_) λg=>?_;rotate_left
 ·grind
 refine gq nZ ?_;refine og nZ (ae.cap (m:=0) rfl) ?_;refine og nZ (ae.anu rfl rfl) ?_;refine og nZ (ae.ajp rfl rfl (by omega) (by omega) (by decide)) ?_;refine og nZ (ae.len rfl) ?_;refine ad.op rfl (ae.anv (j:=0) rfl rfl rfl (by decide) (by omega)) ?_;refine ad.uC (Cv.afM (ρ:=ρ) (jf ρ) (t:=25) (k:=0) rfl rfl) ?_;refine gq nZ ?_;refine fq ?_;exact⟨[(0,0)],.jT rfl rfl,⟨.inl ⟨_,rfl,.same (jS λx _ a h=>qN x a h)⟩,trivial⟩,rfl⟩
end
def agF:FQ 82 Tryz.f82:=aF Tryz.func82 Tryz.call82
def i_:List Nat:=[11,3,27,0,6,2,10,12,9,5,20,26,28,25,8]
def yU (ρ:Hd) (x:List Gl):List AV:=[cE ρ x]
theorem Ox {ρ:Hd}(L:List (List Gl)):Pure (aR ρ (yU ρ) true L):=dT λx _ a b=>by
 obtain rfl:=ae_.1 b;exact dM x
theorem H6 {T:Type}{L:List (List T)}{k:Nat}{x:List T}(h:L[k]?=some x):(L.take (k+1)).flatten=(L.take k).flatten++x:=by
 rw[bF_,h,dE_];simp
theorem Y1 {T:Type}(L:List (List T)) (k:Nat):(L.take k).flatten.length<=L.flatten.length:=by
 conv=>rhs;rw[<-dc_ k L,dE_,af_]
 omega
theorem Y2 {ρ:Hd}(l:List Gl):∀row ∈ ρ.h (List.map (jf ρ)) l,∀a ∈ row,Pure a:=by
 rw[ρ.eq];intro row b a c;obtain⟨x,_,rfl⟩:=av_.1 b;exact qN x a c
section
variable {w0:World}{ρ:Hd}
theorem acE:ah Tryz.prog w0 140 [.sl true [],iv 0] (.sl true []):=by
 obtain⟨n,b⟩:∃n:Int,n=0:=⟨_,rfl⟩;rw[<-b];refine st aaQ nZ ((.sl λr h=>by grind)) ?_;refine cn (λf=>?_) λf=>?_
 ·grind
 refine gq nZ ?_;refine ig nZ (ae.cap (m:=0) rfl) λc i=>?_;refine bS λq a=>?_;have a:q=0:=a;refine gq nZ ?_;refine ag nZ λd j=>?_;refine ag nZ λe k=>?_;refine cn (λg=>?_) λg=>?_
 ·grind
 refine gq nZ ?_;refine fq ?_;exact .refl _
theorem VN (L:List (List Gl)) (D:L.length<=1000) (b:L.flatten=[]):ah Tryz.prog w0 82 [aR ρ (yU ρ) true L] (cE ρ []):=by
 have r:=acE (w0:=w0);have s:=Ox (ρ:=ρ) L;have a:∀x ∈ L,x=[]:=λx a=>by rw[List.flatten_eq_nil_iff]at b;exact b x a
 clear b;refine st agF i_ ((dM _)) ?_;refine lg i_ λm E=>?_
 refine ad.aK (σ:=Int × Int) 0 0 [] (λp=>[(0,aR ρ (yU ρ) true L),(9,aR ρ (yU ρ) true L),(3,.v (.int .i64 p.2)),(10,.v (.int .i64 m)),(11,.v (.int .i64 p.1))]) [] (λp=>[])
  (λp=>∃k:Nat,p.1=k/\k<=L.length/\p.2=0) (λp=>L.length - p.1.toNat) (0,0) ⟨0,rfl,by simp,rfl⟩ rfl cz ?_
 rintro⟨i,z⟩ ⟨k,g,F,h⟩;simp only at g h;refine gq i_ ?_;refine cn (λt=>?_) λt=>?_;rotate_left
 ·refine gq i_ ?_;refine ad.ao ?_;rw[h];refine gq i_ ?_;apply bK i_ r;refine lg i_ λu G=>?_
  refine ad.aK (σ:=Int) 0 0 [] (λp=>[(25,aR ρ (yU ρ) true L),(6,.sl true []),(26,.v (.int .i64 u)),(27,.v (.int .i64 p))]) [] (λp=>[])
   (λp=>∃k:Nat,p=k/\k<=L.length) (λp=>L.length - p.toNat) 0 ⟨0,rfl,by simp⟩ rfl cz ?_
  rintro H ⟨j,v,I⟩;refine gq i_ ?_;refine cn (λw=>?_) λw=>?_;rotate_left
  ·refine gq i_ ?_;refine ad.ao ?_;refine gq i_ ?_;refine fq ?_;rw[cE,bX];exact aP.wk
  obtain⟨y,n,J⟩:=aD (l:=L) (k:=j) (by omega);obtain rfl:=a y (bM n);refine gq i_ ?_;refine og i_ (ae.ind rfl rfl (aB (l:=L) v n) (aA (f:=yU ρ) (m:=1) λ_=>rfl)) ?_;refine og i_ (ae.Ik rfl (by show kA _ (cE ρ [])=some [];rw[cE,bX];exact jv)) ?_;refine ag i_ λd A=>?_;refine ad.az (σ:=Int) d [] ⟨j+1,by omega,by omega⟩ ?_ cz;omega
 obtain⟨x,o,K⟩:=aD (l:=L) (k:=k) (by omega);obtain rfl:=a x (bM o);refine gq i_ ?_;refine og i_ (ae.ind rfl rfl (aB (l:=L) g o) (aA (f:=yU ρ) (m:=1) λ_=>rfl)) ?_;refine bS λq e=>?_;rw[au]at e;have e:q=0:=e;refine gq i_ ?_;refine ag i_ λB M=>?_;refine cn (λC=>?_) λC=>?_
 ·grind
 refine gq i_ ?_;refine ag i_ λd A=>?_;refine ad.az (σ:=Int × Int) (d,B) [] ⟨k+1,by grind,by omega,by grind⟩ ?_ cz;simp only;omega
theorem VP (L:List (List Gl)) (O:L.length<=1000) (h0:0 < L.flatten.length) (h1:L.flatten.length<=100000000000):ah Tryz.prog w0 82 [aR ρ (yU ρ) true L] (cE ρ L.flatten):=by
 obtain⟨R,A⟩:∃R,R=L.flatten:=⟨_,rfl⟩;have a:∀k,(L.take k).flatten.length<=L.flatten.length:=Y1 L;rw[<-A]at h0 h1 a ⊢;have o:=acD (w0:=w0) (ρ:=ρ) R.length (by omega) (by omega);obtain⟨n,B⟩:∃n:Int,n=R.length:=⟨_,rfl⟩;rw[<-B]at o;have C:=Ox (ρ:=ρ) L;refine st agF i_ ((dM _)) ?_;refine lg i_ λm P=>?_
 refine ad.aK (σ:=Int × Int) 0 0 [] (λp=>[(0,aR ρ (yU ρ) true L),(9,aR ρ (yU ρ) true L),(3,.v (.int .i64 p.2)),(10,.v (.int .i64 m)),(11,.v (.int .i64 p.1))]) [] (λp=>[])
  (λp=>∃k:Nat,p.1=k/\k<=L.length/\p.2=(L.take k).flatten.length) (λp=>L.length - p.1.toNat) (0,0) ⟨0,rfl,by simp,by simp⟩ rfl cz ?_
 rintro⟨i,z⟩ ⟨k,s,Q,D⟩;simp only at s D;refine gq i_ ?_;refine cn (λE=>?_) λE=>?_;rotate_left
 ·refine gq i_ ?_;refine ad.ao ?_;obtain rfl:z=n:=by grind
  refine gq i_ ?_;refine og i_ (ae.jK [] [(0,some (.arr 3 (ρ.h (List.map (jf ρ)) []) 0 false))] o rfl ⟨.pure (.sl λr h=>by grind),.pure .v,trivial⟩ (.gr rfl) trivial ⟨⟨0,_,rfl,rfl,.pure (Y2 _)⟩,trivial⟩) ?_;refine lg i_ λF S=>?_
  refine ad.aK (σ:=Int × List Gl × Nat) 1 2 [(1,0)] (λp=>[(25,aR ρ (yU ρ) true L),(6,.gr 1 3 p.2.2),(26,.v (.int .i64 F)),(27,.v (.int .i64 p.1))]) [] (λp=>[(1,.arr 3 (ρ.h (List.map (jf ρ)) p.2.1) 0 false)])
   (λp=>∃k:Nat,p.1=k/\k<=L.length/\p.2.1=(L.take k).flatten/\p.2.2=p.2.1.length) (λp=>L.length - p.1.toNat) (0,[],0) ⟨0,rfl,by simp,by simp,rfl⟩ rfl cz ?_
  rintro⟨T,c,len⟩ ⟨d,t,U,u,e⟩;simp only at t u e;refine gq i_ ?_;refine cn (λG=>?_) λG=>?_;rotate_left
  ·refine gq i_ ?_;refine ad.ao ?_;refine gq i_ ?_;refine fq ?_;obtain rfl:c=R:=by grind
   exact aP.grow rfl e
  obtain⟨y,v,V⟩:=aD (l:=L) (k:=d) (by omega);have g:=a (d+1);rw[H6 v,af_,<-u]at g;refine gq i_ ?_;refine og i_ (ae.ind rfl rfl (aB (l:=L) t v) (aA (f:=yU ρ) (m:=1) λ_=>rfl)) ?_;refine ad.qm (f:=jf ρ) (ys:=y) rfl rfl rfl e (λ_=>rfl) rfl (λ_=>rfl) (λ_=>rfl) (by omega) λH I X J=>?_;refine gq i_ ?_;refine ag i_ λj K=>?_;refine ad.az (σ:=Int × List Gl × Nat) (j,H,I) [(1,2)] ⟨d+1,by grind,by omega,by grind,J⟩ ?_ cz;simp only;omega
 obtain⟨x,w,Y⟩:=aD (l:=L) (k:=k) (by omega);have g:=a (k+1);rw[H6 w,af_]at g;refine gq i_ ?_;refine og i_ (ae.ind rfl rfl (aB (l:=L) s w) (aA (f:=yU ρ) (m:=1) λ_=>rfl)) ?_;refine lg i_ λq Z=>?_;refine ag i_ λM Cy=>?_;refine cn (λN=>?_) λN=>?_
 ·grind
 refine gq i_ ?_;refine ag i_ λj K=>?_;refine ad.az (σ:=Int × Int) (j,M) [] ⟨k+1,by grind,by omega,by grind⟩ ?_ cz;simp only;omega
theorem VQ (a b:List Gl) (h:(a++b).length<=100000000000):ah Tryz.prog w0 82 [.sl true [[cE ρ a],[cE ρ b]]] (cE ρ (a++b)):=by
 have e:(.sl true [[cE ρ a],[cE ρ b]]:AV)=aR ρ (yU ρ) true [a,b]:=by rw[bX];rfl
 have c:[a,b].flatten=a++b:=by simp
 rw[e];by_cases d:(a++b).length=0
 ·grind[VN]
 ·grind[VP]
end
end
section
attribute [local irreducible] ah aG ae ad
def aob:FQ 81 Tryz.f81:=aF Tryz.func81 Tryz.call81
def g81:List Nat:=[3,4,1,0]
def aoc:FQ 80 Tryz.f80:=aF Tryz.func80 Tryz.call80
def Kr:List Nat:=[4,3,5,0,1,11,2]
def aod:FQ 46 Tryz.f46:=aF Tryz.func46 Tryz.call46
def mh:List Nat:=[7,6,8,35,19,3,9,14,0,2,5,18,20,17,11,34,36,33,1,12,44,13]
section
variable {w0:World}{ρ:Hd}
theorem VR {env:List Bd}(c:env.length<=1099511627776) (g:At) (e:bp g.a<=100000000000):ah Tryz.prog w0 81 [eg ρ env,at_ ρ g] (at_ ρ (te env g)):=by
 have b:=DO (w0:=w0) (ρ:=ρ) (f:=dU env) (env:=env) g.a (by grind[q_]) λy h=>Oh c y (by have:=iw y h;omega);rw[te];obtain⟨n,a⟩:=g;simp only at b ⊢;obtain⟨A,d⟩:∃A,A=a.map (dU env):=⟨_,rfl⟩;rw[<-d]at b ⊢;clear d e c;refine st aob g81 ((lN _)) ?_
 repeat' (first
  |(apply bK g81 b)
  |(refine fq ?_))
 exact .refl _
def Gi (b:Bool):Int:=if b then 0 else 6
def VS (ρ:Hd) (u:List Bd) (s:List Im × Bool) (q n:Nat):List (Nat × Ob):=[(0,.arr 1 [[eg ρ u]] 0 true),(1,.arr 1 [[iv (Gi s.2)]] 0 true),(2,.arr 1 [[.gr q 3 n]] 0 true),(q,.arr 3 (ρ.h (List.map (qt ρ)) s.1) 0 false)]
theorem aaR (u:List Bd) (s:List Im × Bool) (n:Nat) (j:n=s.1.length) (t:s.1.length<=100000) (a:At) (v:u.length<=1099511627776) (e:bp a.a<=100000000000) (k:(te u a).ok) (g:a.n.size<=1099511627776) (h:Nat) (B:h=n+1) :
  aG Tryz.prog w0 80 [at_ ρ a,.pt 0 1 0 0,.pt 1 1 0 0,.pt 2 1 0 0] (aq (VS ρ u s 3 n) 4) (iv n) (aq (VS ρ u (nz u s a) 4 h) 5):=by
 have l:=VR (w0:=w0) (ρ:=ρ) v a e;have i:=zI (w0:=w0) (ρ:=ρ) (te u a) k g;unfold nz VS;obtain⟨I,ok⟩:=s;simp only at j t ⊢;have e0:(⟨((I.length:Nat):Int)+1,a.n,a.a.map (dU u)⟩:Im)=⟨((I.length:Nat):Int)+1,(te u a).n,(te u a).a⟩:=rfl;rw[e0];clear e0 k;obtain⟨b,p⟩:∃b,b=te u a:=⟨_,rfl⟩;rw[<-p]at l i ⊢;clear p;obtain⟨c,q⟩:∃c,c=fH b:=⟨_,rfl⟩;rw[<-q]at i ⊢;clear q;obtain⟨C,D⟩:=a;obtain⟨w,y⟩:=b;refine sc 4 5 aoc ?_;refine gq Kr ?_;apply bK Kr l;refine ad.op rfl (pl i) ?_;obtain⟨o,r⟩:∃o,o=(ok && c):=⟨_,rfl⟩;rw[<-r];cases c
 all_goals
  refine gq Kr ?_;refine ig Kr (ae.iz rfl) λm E=>?_;refine ag Kr λd F=>?_;refine ad.app (x:=(⟨d,w,y⟩:Im)) (f:=qt ρ) rfl rfl rfl j (λ_=>rfl) rfl rfl rfl rfl (by omega) λz len A hlen=>?_;refine gq Kr ?_;refine ig Kr (ae.iz rfl) λG H=>?_;have J:len=n+1:=by grind
  refine cw (λd2 K=>?_);obtain rfl:h=len:=by omega
  obtain rfl:d2=(n:Int):=by omega
  obtain rfl:d=((I.length:Nat):Int)+1:=by omega
  rw[<-A];subst r;refine gq Kr ?_;refine fq ?_
 ·rw[bJ_];exact⟨[(4,5)],.aC .v,⟨.inl ⟨_,rfl,.same (mu λa e=>by obtain rfl:=ae_.1 e;exact fA _)⟩,.inl ⟨_,rfl,.same (mu λa e=>by obtain rfl:=ae_.1 e;exact .v)⟩,.inl ⟨_,rfl,.arr (by exact⟨kq,trivial⟩)⟩,.inl ⟨_,rfl,.same (jS λx _=>tK x)⟩,trivial⟩,rfl⟩
 ·rw[cD_];exact⟨[(4,5)],.aC .v,⟨.inl ⟨_,rfl,.same (mu λa e=>by obtain rfl:=ae_.1 e;exact fA _)⟩,.inl ⟨_,rfl,.same (mu λa e=>by obtain rfl:=ae_.1 e;exact .v)⟩,.inl ⟨_,rfl,.arr (by exact⟨kq,trivial⟩)⟩,.inl ⟨_,rfl,.same (jS λx _=>tK x)⟩,trivial⟩,rfl⟩
def stS (ρ:Hd) (l:List Int) (f:List At) (m:Int) (a b c:Nat) (i:Int):List (Nat × AV):=[(1,aR ρ aI false l),(3,.pt 0 18 0 0),(6,.pt 2 1 0 0),(7,.pt 3 2 0 0),(8,.pt 4 1 0 0),(9,.fn (.func 80) [] [.pt 1 1 0 0,.pt 4 1 0 0,.pt 2 1 0 0]),(a,cL ρ f),(b,.v (.int .i64 m)),(c,.v (.int .i64 i))]
def stO (ρ:Hd) (C:List AV) (u:List Bd) (s:List Im × Bool) (n:Nat) (h:List Int) (k:Nat):List (Nat × Ob):=[(0,.arr 18 [C] 0 true),(1,.arr 1 [[eg ρ u]] 0 true),(2,.arr 1 [[.gr 5 3 n]] 0 true),(3,.arr 2 [[.gr 6 1 k,.sl true []]] 0 true),(4,.arr 1 [[iv (Gi s.2)]] 0 true),(5,.arr 3 (ρ.h (List.map (qt ρ)) s.1) 0 false),(6,.arr 1 (ρ.h (List.map aI) h) 0 false)]
theorem abj {B:Nat}(b:5<=B):ec B (.fn (.func 80) [] [.pt 1 1 0 0,.pt 4 1 0 0,.pt 2 1 0 0]):=by
 refine .fn (λa h=>by grind) λa h=>?_;simp only[ad_,as_,or_false]at h;rcases h with rfl|rfl|rfl<;>exact .pt (by omega)
def Bz (ρ:Hd) (u:List Bd) (s:List Im × Bool) (q n:Nat):List (Nat × Ob):=[(1,.arr 1 [[eg ρ u]] 0 true),(4,.arr 1 [[iv (Gi s.2)]] 0 true),(2,.arr 1 [[.gr q 3 n]] 0 true),(q,.arr 3 (ρ.h (List.map (qt ρ)) s.1) 0 false)]
def Y3 (ρ:Hd) (u:List Bd) (s:List Im × Bool) (q a n:Nat):List (Nat × Option Ob):=[(1,some (.arr 1 [[eg ρ u]] 0 true)),(4,some (.arr 1 [[iv (Gi s.2)]] 0 true)),(2,some (.arr 1 [[.gr (a+4) 3 n]] 0 true)),(q,none),(a,none),(a+1,none),(a+2,none),(a+3,none),(a+4,some (.arr 3 (ρ.h (List.map (qt ρ)) s.1) 0 false))]
theorem Ri (l:List Im):∀row ∈ ρ.h (List.map (qt ρ)) l,∀a ∈ row,Pure a:=by
 rw[ρ.eq];intro row b a c;obtain⟨x,_,rfl⟩:=av_.1 b;exact tK x a c
theorem Rj {q n:Nat}{T:af}(a:iC T (Bz ρ u s q n)):jF (aU [(0,1),(1,4),(2,2),(3,q)]) 4 T (VS ρ u s 3 n):=by
 have b:=a (1,.arr 1 [[eg ρ u]] 0 true) (by simp[Bz]);have c:=a (4,.arr 1 [[iv (Gi s.2)]] 0 true) (by simp[Bz]);have d:=a (2,.arr 1 [[.gr q 3 n]] 0 true) (by simp[Bz]);have e:=a (q,.arr 3 (ρ.h (List.map (qt ρ)) s.1) 0 false) (by simp[Bz]);exact⟨⟨_,b,.row ⟨.pure (fA _),trivial⟩⟩,⟨_,c,.row ⟨.pure .v,trivial⟩⟩,⟨_,d,.row ⟨.gr rfl rfl,trivial⟩⟩,⟨_,e,.pure (Ri s.1)⟩,trivial⟩
theorem Rk {q a n:Nat}:gT (dz (aU [(0,1),(1,4),(2,2),(3,q)]) 4 a) (VS ρ u s 4 n) (Y3 ρ u s q a n) :=
 ⟨⟨0,_,rfl,rfl,.row ⟨.pure (fA _),trivial⟩⟩,⟨1,_,rfl,rfl,.row ⟨.pure .v,trivial⟩⟩,⟨2,_,rfl,rfl,.row ⟨.gr rfl,trivial⟩⟩,⟨4,_,rfl,rfl,.pure (Ri s.1)⟩,trivial⟩
theorem qf.aaT {x:At}(h:qf 200 x) (c:nX 200 u) (a:qW u):(te u x).ok:=by
 have b:dG (x.a.map (dU u)):=by rw[<-mG];exact Ap a _ h.1
 refine⟨?_,b⟩;have d:=my x.a;have e:=h.2.1;show (x.a.map (dU u)).length<=_;rw[aU_];omega
def stP (ρ:Hd) (C:List AV) (u:List Bd) (s:List Im × Bool) (n:Nat) (g:List Int) (k:Nat) (h:List Int) (q:Nat):List (Nat × Ob):=[(0,.arr 18 [C] 0 true),(1,.arr 1 [[eg ρ u]] 0 true),(2,.arr 1 [[.gr 7 3 n]] 0 true),(3,.arr 2 [[.gr 6 1 k,.gr 8 1 q]] 0 true),(4,.arr 1 [[iv (Gi s.2)]] 0 true),(6,.arr 1 (ρ.h (List.map aI) g) 0 false),(7,.arr 3 (ρ.h (List.map (qt ρ)) s.1) 0 false),(8,.arr 1 (ρ.h (List.map aI) h) 0 false)]
def prA (ρ:Hd) (s:List Im × Bool) (h0 h1:List Int):AV:=.aL [tu ρ s.1,.agg [aR ρ aI false h0,aR ρ aI false h1],iv (Gi s.2)]
theorem Y4 (s:List Im × Bool) (h0 h1:List Int):Pure (prA ρ s h0 h1):=.aL (Iu (qO _) (.agg (vk (bt _) (bt _))) .v)
set_option maxHeartbeats 2000000 in
theorem acF (p:Pg) (i j:Int) (a b:Rl) (f t:List At) (l:List Int) (u:List Bd) (hf:f.length<=1000) (ht:t.length<=1000) (hl:l.length<=1000) (hu:u.length<=1099511627776) (jZ:qW u) (xR:nX 200 u) (sH:∀x ∈ f,qf 200 x) (rL:∀x ∈ t,qf 200 x) :
  ah Tryz.prog w0 46 [.agg (c7 ρ p i j a b f t),aR ρ aI false l,eg ρ u] (prA ρ (jE u l t 0 (jX u f ([],true)) []).1 (upto f.length) (jE u l t 0 (jX u f ([],true)) []).2):=by
 have cU:=l8 (ρ:=ρ) p i j a b f t;obtain⟨J,K⟩:=p;obtain⟨L,M,N,ag,O,P⟩:=a;obtain⟨Q,R,br,bg,S,U⟩:=b;have oe:∀B,h_ B (.arr 18 [c7 ρ ⟨J,K⟩ i j ⟨L,M,N,ag,O,P⟩ ⟨Q,R,br,bg,S,U⟩ f t] 0 true):=λB r hr a ha=>by
  obtain rfl:=ae_.1 hr;exact (cU a ha).bm
 clear cU;unfold c7 at oe ⊢;refine st aod mh ((Y4 _ _ _)) ?_;refine bS λm hm=>?_;rw[au]at hm;refine gq mh ?_;obtain⟨V,dR⟩:∃s,s=jX u f ([],true):=⟨_,rfl⟩;rw[<-dR];obtain⟨RT,W⟩:∃s,s=jE u l t 0 V []:=⟨_,rfl⟩;rw[<-W];have HD:True:=trivial
 refine ad.aK (σ:=Int × ((List Im × Bool) × Nat) × List Int × Nat) 5 7 [] (λp=>stS ρ l f m 17 18 19 p.1) [] (λp=>stO ρ (c7 ρ ⟨J,K⟩ i j ⟨L,M,N,ag,O,P⟩ ⟨Q,R,br,bg,S,U⟩ f t) u p.2.1.1 p.2.1.2 p.2.2.1 p.2.2.2)
  (λp=>∃z:Nat,p.1=z/\z<=f.length/\V=jX u (f.drop z) p.2.1.1/\p.2.1.1.1.length=z/\p.2.1.2=z/\p.2.2.1=upto z/\p.2.2.2=z) (λp=>f.length - p.1.toNat) (0,(([],true),0),[],0) ⟨0,rfl,by omega,by grind,rfl,rfl,rfl,rfl⟩ rfl
  cz ?_
 rintro⟨i2,⟨X,w⟩,g2,k2⟩ ⟨z,hz,tD,c,dC,cZ,A,Y⟩;simp only at hz c dC cZ A Y;clear dR;unfold stS stO c7;refine gq mh ?_;refine bq (λaZ=>?_) (λaZ=>?_)<;>(try simp only[bL]at aZ)
 rotate_left
 ·rw[aA_ (by omega),jX]at c;subst c;obtain rfl:z=f.length:=by omega
  clear sH HD;refine gq mh ?_;refine ad.ao ?_;refine gq mh ?_;refine bS λm2 eI=>?_;rw[au]at eI;refine gq mh ?_
  refine ad.aK (σ:=Int × ((List Im × Bool) × Nat) × List Int × Nat) 7 9 [(7,5)] (λp=>stS ρ l t m2 33 34 35 p.1) [] (λp=>stP ρ (c7 ρ ⟨J,K⟩ i j ⟨L,M,N,ag,O,P⟩ ⟨Q,R,br,bg,S,U⟩ f t) u p.2.1.1 p.2.1.2 g2 k2 p.2.2.1 p.2.2.2)
   (λp=>∃z:Nat,p.1=z/\z<=t.length/\RT=jE u l (t.drop z) z p.2.1.1 p.2.2.1/\p.2.1.1.1.length=p.2.1.2/\p.2.1.2<=1000+z/\p.2.2.1.length=z/\p.2.2.2=z) (λp=>t.length - p.1.toNat) (0,(V,w),[],0) ⟨0,rfl,by omega,W,by grind,by grind,rfl,rfl⟩ rfl
   cz ?_
  clear W;rintro⟨i4,⟨G,q⟩,g4,k4⟩ ⟨y,Z,Qj,g,H7,hn5,d,H⟩;simp only at Z g H7 hn5 d H;unfold stS stP c7;refine gq mh ?_;refine bq (λbf=>?_) (λbf=>?_)<;>(try simp only[bL]at bf)
  rotate_left
  ·rw[aA_ (by omega),jE]at g;subst g;refine gq mh ?_;refine ad.ao ?_;refine gq mh ?_;refine fq ?_;refine .aL rfl λi a a' h v=>?_
   match i with
   |0 =>
    obtain rfl:=oJ_ h;obtain rfl:=oJ_ v;exact aP.grow rfl H7.symm
   |1 =>
    obtain rfl:=oJ_ h;obtain rfl:=oJ_ v;refine .agg rfl λi a a' h v=>?_
    match i with
    |0 =>
     obtain rfl:=oJ_ h;obtain rfl:=oJ_ v;rw[<-A];exact aP.grow rfl (by rw[Y,A,pC])
    |1 =>
     obtain rfl:=oJ_ h;obtain rfl:=oJ_ v;exact aP.grow rfl (H.trans d.symm)
    |i+2=>simp at h
   |2 =>
    obtain rfl:=oJ_ h;obtain rfl:=oJ_ v;exact .refl _
   |i+3=>simp at h
  obtain⟨x,C,aV⟩:=aD (l:=t) (k:=y) (by omega);have n:=rL x (aa_ C);have D:=Z6 (w0:=w0) (ρ:=ρ) l i4 (by omega);have e:=λo w8=>aaR (w0:=w0) (ρ:=ρ) u G q (by omega) (by omega) x hu (by have:=n.2.1;omega) (qf.aaT n xR jZ) n.2.2 o w8;rw[aV,jE,<-Z]at g;obtain⟨kx,E⟩:∃k,k=ew (λx=>i4 == x) l 0:=⟨_,rfl⟩;rw[<-E]at g D;obtain⟨s5,Rm⟩:∃s,s=nz u G x:=⟨_,rfl⟩;rw[<-Rm]at g e;have hl5:s5.1.length=q+1:=by grind[nz]
  obtain⟨n5,aoe⟩:∃o,o=q+1:=⟨_,rfl⟩;have e:=e n5 aoe;clear Rm E;obtain⟨xn,xa⟩:=x;refine gq mh ?_;refine ad.op rfl (ae.ind rfl rfl (aB (l:=t) Z C) (aA λ_=>rfl)) ?_;refine gq mh ?_;refine ad.op rfl (pl D) ?_;refine gq mh ?_;refine bq (λI=>?_) (λI=>?_)<;>(try simp only[bL]at I)
  ·rw[if_pos I]at g;refine gq mh ?_;refine ad.op rfl (ae.iu rfl rfl (by decide) (by decide)) ?_;refine gq mh ?_;refine ad.app (x:=kx) (f:=aI) rfl rfl rfl (H.trans d.symm) (λ_=>rfl) rfl rfl rfl rfl (by omega) λg5 k5 hg5 hk5=>?_;refine gq mh ?_;refine ad.op rfl (ae.iu rfl rfl (by decide) (by decide)) ?_;refine gq mh ?_;refine cw (λi6 hi6=>?_);refine gq mh ?_
   refine ad.az (σ:=Int × ((List Im × Bool) × Nat) × List Int × Nat) (i6,(G,q),g5,k5) [(8,10)] ⟨y+1,by grind,by omega,by grind,H7,by grind,by grind,by grind⟩ ?_
    cz
   simp only;omega
  ·rw[if_neg I]at g;refine gq mh ?_;refine ad.cP rfl (λT=>ae.iu rfl rfl (by decide) (by decide)) ?_;refine gq mh ?_;refine ad.eW rfl (a_.jK [(0,1),(1,4),(2,2),(3,7)] (Bz ρ u G 7 q) (Y3 ρ u s5 7 10 n5) e rfl ⟨.pure (lN (ρ:=ρ) ⟨xn,xa⟩),.pt rfl rfl,.pt rfl rfl,.pt rfl rfl,trivial⟩ (.pure .v) (λp c=>by simp only[Bz,ad_,as_,or_false]at c;rcases c with rfl|rfl|rfl|rfl<;>rfl) (λT hT=>Rj hT) Rk) ?_;refine gq mh ?_;refine ad.wi (ρ:=ρ) (f:=aI) (acc:=g4) (q:Int) rfl rfl rfl (H.trans d.symm) (λ_=>rfl) rfl rfl rfl (by omega) λg5 k5 hg5 hk5=>?_;refine gq mh ?_;refine ad.cP rfl (λT=>ae.iu rfl rfl (by decide) (by decide)) ?_;refine gq mh ?_;refine cw (λi6 hi6=>?_);refine gq mh ?_
   refine ad.az (σ:=Int × ((List Im × Bool) × Nat) × List Int × Nat) (i6,(s5,n5),g5,k5) [(7,14),(8,26)] ⟨y+1,by grind,by omega,by grind,by grind,by grind,by grind,by grind⟩ ?_
    cz
   simp only;omega
 obtain⟨x,C,aV⟩:=aD (l:=f) (k:=z) (by omega);have n:=sH x (aa_ C);have e:=λo w8=>aaR (w0:=w0) (ρ:=ρ) u X w (by omega) (by omega) x hu (by have:=n.2.1;omega) (qf.aaT n xR jZ) n.2.2 o w8;rw[aV,jX]at c;obtain⟨s3,Jw⟩:∃s,s=nz u X x:=⟨_,rfl⟩;rw[<-Jw]at c e;have Vx:s3.1.length=z+1:=by grind[nz]
 obtain⟨n3,kT⟩:∃o,o=w+1:=⟨_,rfl⟩;have e:=e n3 kT;clear Jw;obtain⟨xn,xa⟩:=x;refine gq mh ?_;refine ad.op rfl (ae.ind rfl rfl (aB (l:=f) hz C) (aA λ_=>rfl)) ?_;refine gq mh ?_;refine ad.cP rfl (λT=>ae.iu rfl rfl (by decide) (by decide)) ?_;refine gq mh ?_;refine ad.eW rfl (a_.jK [(0,1),(1,4),(2,2),(3,5)] (Bz ρ u X 5 w) (Y3 ρ u s3 5 8 n3) e rfl ⟨.pure (lN (ρ:=ρ) ⟨xn,xa⟩),.pt rfl rfl,.pt rfl rfl,.pt rfl rfl,trivial⟩ (.pure .v) (λp c=>by simp only[Bz,ad_,as_,or_false]at c;rcases c with rfl|rfl|rfl|rfl<;>rfl) (λT hT=>Rj hT) Rk) ?_;refine gq mh ?_;refine ad.wi (ρ:=ρ) (f:=aI) (acc:=g2) (w:Int) rfl rfl rfl (by rw[Y,A,pC]) (λ_=>rfl) rfl rfl rfl (by omega) λg3 k3 hg3 vM=>?_;refine gq mh ?_;refine ad.cP rfl (λT=>ae.iu rfl rfl (by decide) (by decide)) ?_;refine gq mh ?_;refine cw (λi3 de=>?_);refine gq mh ?_
 refine ad.az (σ:=Int × ((List Im × Bool) × Nat) × List Int × Nat) (i3,(s3,n3),g3,k3) [(5,12),(6,24)] ⟨z+1,by grind,by omega,c,Vx,by grind,by simp only;rw[hg3,A,cZ];rfl,by grind[pC]⟩ ?_
  cz
 simp only;omega
end
end
section
attribute [local irreducible] ah aG ae ad
def aj3:FQ 266 Tryz.f266:=aF Tryz.func266 Tryz.call266
def zr:List Nat:=[7,4,2,0,6,8,5,16]
def aj4:FQ 295 Tryz.f295:=aF Tryz.func295 Tryz.call295
def agI:List Nat:=[4,5,0,1]
def aj5:FQ 296 Tryz.f296:=aF Tryz.func296 Tryz.call296
def agJ:List Nat:=[4,5,0,1]
def aj6:FQ 297 Tryz.f297:=aF Tryz.func297 Tryz.call297
def agK:List Nat:=[4,5,0,1]
def aj7:FQ 300 Tryz.f300:=aF Tryz.func300 Tryz.call300
def Th:List Nat:=[0,1,4]
def aj8:FQ 299 Tryz.f299:=aF Tryz.func299 Tryz.call299
def Oz:List Nat:=[0,1,5,4,19]
def aj9:FQ 308 Tryz.f308:=aF Tryz.func308 Tryz.call308
def Y5:List Nat:=[1,5,6,8,2,0]
def aj_:FQ 298 Tryz.f298:=aF Tryz.func298 Tryz.call298
def aof:List Nat:=[2,0,1]
def aka:FQ 286 Tryz.f286:=aF Tryz.func286 Tryz.call286
def Ti:List Nat:=[3,2,0,4,6,8,10,13]
def aaW:FQ 268 Tryz.f268:=aF Tryz.func268 Tryz.call268
def kM:List Nat:=[10,8,1,2,9,6,7,0,14,19,34,36]
def Tk:FQ 267 Tryz.f267:=aF Tryz.func267 Tryz.call267
def iV:List Nat:=[1,2,0]
def aaX:FQ 244 Tryz.f244:=aF Tryz.func244 Tryz.call244
def iL:List Nat:=[1,32,4,5,7,2,3,0,8,12,24,28,33,45,6]
section
variable {w0:World}{ρ:Hd}
theorem Ks (l:List Int) (o:l.length<=1099511627776):ah Tryz.prog w0 266 [aR ρ aI false l] (.v (.bool (l.all gJ))):=by
 obtain⟨R,c⟩:∃R,R=l.all gJ:=⟨_,rfl⟩;rw[<-c];refine st aj3 zr .v ?_
 repeat' (first
  |refine lg zr λm p=>?_
  )
 refine ad.aK (σ:=Int) 0 0 [] (λi=>[(5,aR ρ aI false l),(6,.v (.int .i64 m)),(7,.v (.int .i64 i))]) [] (λ_=>[]) (λi=>∃k:Nat,i=k/\k<=l.length/\R=(l.drop k).all gJ) (λi=>l.length - i.toNat) 0 ⟨0,rfl,by simp,by simpa using c⟩ rfl cq ?_;rintro i ⟨k,g,q,a⟩;clear c;refine gq zr ?_;by_cases h:k < l.length
 ·obtain⟨x,j,n⟩:=aD h;rw[n,aY_]at a;obtain⟨e,b⟩:∃e,e=(l.drop (k+1)).all gJ:=⟨_,rfl⟩;rw[<-b]at a
  repeat' (first
   |refine og zr (ae.ind rfl rfl (aB (l:=l) g j) (aA λ_=>rfl)) ?_
   |refine cg zr (λd=>?_) λd=>?_
   |refine ag zr λ_ _=>?_
   |refine ad.ao ?_;refine gq zr ?_
   |refine ad.bh ?_;refine gq zr ?_
   |(refine fq ?_))
  all_goals first
   |refine bY ?_;rw[a];unfold gJ;simp_all;omega
   |exfalso;omega
   |(refine ad.az (σ:=Int) _ [] ?_ ?_ cq<;>first|omega|exact⟨k+1,by omega,by omega,by rw[a,<-b,uq.2 (by omega),aL_]⟩)
 ·skip
  repeat' (first
   |refine cg zr (λd=>?_) λd=>?_
   |refine ad.ao ?_;refine gq zr ?_
   |(refine fq ?_))
  all_goals first
   |exfalso;omega
   |rw[a,ak_ (by omega)];exact bY rfl
theorem OA (x:Int):ah Tryz.prog w0 266 [aR ρ aI false [x]] (.v (.bool (gJ x))):=by
 have:=Ks (w0:=w0) (ρ:=ρ) [x] (by simp);simpa using this
theorem VT (x y:Int):ah Tryz.prog w0 266 [aR ρ aI false [x,y]] (.v (.bool (gJ x && gJ y))):=by
 have:=Ks (w0:=w0) (ρ:=ρ) [x,y] (by simp);simpa using this
theorem agL (a b:Int) (h1:-2147483648<=a) (h2:a<=2147483648) (h3:-2147483648<=b) (h4:b<=2147483648):ah Tryz.prog w0 295 [iv a,iv b] (lF (a+b,0)):=by
 refine st aj4 agI ((jA _)) ?_
 repeat' (first
  |refine ag agI λ_ _=>?_
  |(refine fq ?_))
 all_goals (refine iQ ?_;simp_all)
theorem acG (a b:Int) (h1:-2147483648<=a) (h2:a<=2147483648) (h3:-2147483648<=b) (h4:b<=2147483648):ah Tryz.prog w0 296 [iv a,iv b] (lF (a - b,0)):=by
 refine st aj5 agJ ((jA _)) ?_
 repeat' (first
  |refine ag agJ λ_ _=>?_
  |(refine fq ?_))
 all_goals (refine iQ ?_;simp_all)
theorem acH (a b:Int) (h1:-2147483648<=a) (h2:a<=2147483648) (h3:-2147483648<=b) (h4:b<=2147483648):ah Tryz.prog w0 297 [iv a,iv b] (lF (a*b,0)):=by
 refine st aj6 agK ((jA _)) ?_
 repeat' (first
  |(refine ad.int rfl (ae.YT rfl rfl (by omega) (by omega) (by omega) (by omega)) λq c=>?_;have d:=mbd c (by omega) (by omega) (by omega) (by omega);refine gq agK ?_)
  |(refine fq ?_))
 all_goals (refine iQ ?_;simp_all)
theorem H8 (a b:Int) (f:b ≠ 0) (h1:-2147483648<=a) (h2:a<=2147483648):ah Tryz.prog w0 299 [iv a,iv b] (iv (a.fdiv b)):=by
 obtain⟨R,c⟩:∃R,R=a.fdiv b:=⟨_,rfl⟩;rw[<-c];rw[aaL f]at c;have d:(decide (a < 0) ≠ decide (b < 0)) ↔ (a < 0/\¬ b < 0\/¬ a < 0/\b < 0):=by by_cases h1:a < 0<;>by_cases h2:b < 0<;>simp[h1,h2]
 simp only[d]at c;clear d;refine st aj8 Oz .v ?_
 repeat' (first
  |(refine ad.int rfl (ae.agq rfl rfl (by omega) (by omega) (by omega)) λq g=>?_;have h:=qbd g (by omega) (by omega);refine gq Oz ?_)
  |(refine ig Oz (ae.an5 rfl rfl (by omega)) λr i=>?_)
  |exact absurd e (by decide)
  |refine cg Oz (λe=>?_) λe=>?_
  |refine ag Oz λ_ _=>?_
  |(refine fq ?_))
 all_goals (refine dP ?_;subst_vars;split<;>omega)
theorem akb (a b:Int) (d:b ≠ 0) (h1:-2147483648<=a) (h2:a<=2147483648) (h3:-2147483648<=b) (h4:b<=2147483648):ah Tryz.prog w0 300 [iv a,iv b] (iv (a - a.fdiv b*b)):=by
 have c:=H8 (w0:=w0) a b d h1 h2;have e:=Rf d h1 h2;obtain⟨F,f⟩:∃F,F=a.fdiv b:=⟨_,rfl⟩;rw[<-f]at c e ⊢;refine st aj7 Th .v ?_
 repeat' (first
  |(apply bK Th c)
  |(refine ad.int rfl (ae.YT rfl rfl (by omega) (by omega) (by omega) (by omega)) λq c=>?_;have g:=mbd c (by omega) (by omega) (by omega) (by omega);refine gq Th ?_)
  |refine ag Th λ_ _=>?_
  |(refine fq ?_))
 all_goals (refine dP ?_;simp_all)
def yV (f:FuncId):AV:=.v (.func (.func f) #[] #[])
theorem Kt (q:FuncId):ah Tryz.prog w0 298 [yV q] (.fn (.func 308) [] [.ip [yV q]]):=by
 refine st aj_ aof ((.fn (λa c=>by cases c) λa c=>by obtain rfl:=ae_.1 c;exact .ip λb d=>by obtain rfl:=ae_.1 d;exact .v)) ?_
 repeat' (first
  |(refine fq ?_))
 refine aP.fns ?_ ?_
 ·exact trivial
 ·exact⟨aP.box (cs:=[yV q]) (cs':=[yV q]) rfl ⟨.refl _,trivial⟩,trivial⟩
def H9 (n:ByteArray):AV:=if n.toList=(⟨⟨[43]⟩⟩:ByteArray).toList then yV 295 else if n.toList=(⟨⟨[45]⟩⟩:ByteArray).toList then yV 296 else if n.toList=(⟨⟨[42]⟩⟩:ByteArray).toList then yV 297 else
 if n.toList=(⟨⟨[47]⟩⟩:ByteArray).toList then .fn (.func 308) [] [.ip [yV 299]] else if n.toList=(⟨⟨[37]⟩⟩:ByteArray).toList then .fn (.func 308) [] [.ip [yV 300]] else .v .nilFunc
theorem OB (n:ByteArray):Pure (H9 n):=by
 have h:∀q,Pure (.fn (.func 308) [] [.ip [yV q]]):=λq=>.fn (λa c=>by cases c) λa c=>by obtain rfl:=ae_.1 c;exact .ip λb d=>by obtain rfl:=ae_.1 d;exact .v
 unfold H9
 repeat' split
 all_goals first
  |exact h _
  |exact .v
theorem aaY (n:ByteArray):ah Tryz.prog w0 286 [.v (.string n)] (H9 n):=by
 have c:=Kt (w0:=w0) 299;have d:=Kt (w0:=w0) 300;have a:=OB n;obtain⟨R,b⟩:∃R,R=H9 n:=⟨_,rfl⟩;rw[<-b]at a ⊢;unfold H9 at b;refine st aka Ti a ?_
 repeat' (first
  |(apply bK Ti c)
  |(apply bK Ti d)
  |refine cg Ti (λe=>?_) λe=>?_
  |(refine fq ?_))
 all_goals clear c d a
 all_goals (refine aP.of_eq ?_;rw[b];simp_all[yV];done)
theorem VU (q:FuncId) (a b r:Int) (d:b ≠ 0->ah Tryz.prog w0 q [iv a,iv b] (iv r)):ah Tryz.prog w0 308 [iv a,iv b,.ip [yV q]] (lF (if b=0 then (0,12) else (r,0))):=by
 obtain⟨R,c⟩:∃R,R=(if b=0 then ((0:Int),(12:Int)) else (r,0)):=⟨_,rfl⟩;rw[<-c];refine st aj9 Y5 ((jA _)) ?_
 repeat' (first
  |(apply bK Y5 (d (by assumption)))
  |refine cg Y5 (λe=>?_) λe=>?_
  |(refine fq ?_))
 all_goals (refine iQ ?_;rw[c];simp_all)
end
end
end Go.Proofs.YtbpabjmnhggajaaGreat
