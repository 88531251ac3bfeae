import Derived.Test.YtbpabjmnhggajaaGreatOr47
namespace Go.Proofs.YtbpabjmnhggajaaGreat
set_option linter.all false
set_option maxRecDepth 100000
open Go.RowKit
variable {ex:Bool}{ρ:Hd}{rows:List (List AV)}{acc:List Bd}{cl:List Nat}{l r:List Tm}{i j nl ul:Nat}{a b:Tm}{Nd:aS}{S:af}
section
attribute [local irreducible] ah aG ae ad
def an6:FQ 18 Tryz.f18:=aF Tryz.func18 Tryz.call18
def DV:List Nat:=[2,16,8,6,7,5,4,0,1,15,17,14]
def an7:FQ 45 Tryz.f45:=aF Tryz.func45 Tryz.call45
def vU:List Nat:=[12,9,6,2,7,4,5,0,1,11,13,10,18,8]
section
variable {w0:World}{ρ:Hd}
theorem Tg (p:Pg) (i j:Int) (a b:Rl) (f t:List At) (l:List Int) (S:l.length<=1000000):ah Tryz.prog w0 18 [.agg (c7 ρ p i j a b f t),aR ρ aI false l] (.v (.bool (H2 i j a.aM.length b.aM.length l))):=by
 obtain⟨R,d⟩:∃R,R=H2 i j a.aM.length b.aM.length l:=⟨_,rfl⟩;rw[<-d];unfold H2 at d;have u:=l8 (ρ:=ρ) p i j a b f t;obtain⟨v,w⟩:=p;obtain⟨y,o,A,ag,B,C⟩:=a;obtain⟨D,q,br,bg,E,F⟩:=b;have c:h_ 1 (.arr 18 [c7 ρ ⟨v,w⟩ i j ⟨y,o,A,ag,B,C⟩ ⟨D,q,br,bg,E,F⟩ f t] 0 true):=λr L a M=>by
  obtain rfl:=ae_.1 L;exact (u a M).bm
 clear u;simp only at d;unfold c7 at c ⊢;refine st an6 DV .v ?_;refine ad.gen (λe:Bool=>.v (.bool e)) rfl (ae.bit rfl) λG s=>?_;have s:G=decide (i=j):=by grind
 rw[<-s]at d;clear s;refine gq DV ?_;refine bS λm H=>?_;rw[au]at H;refine gq DV ?_;refine ad.aK (σ:=Int × Bool × Bool) 1 1 [] (λp=>[(2,.pt 0 18 0 0),(5,.v (.bool p.2.1)),(6,.v (.bool p.2.2)),(14,aR ρ aI false l),(15,.v (.int .i64 m)),(16,.v (.int .i64 p.1))]) [] (λ_=>[(0,.arr 18 [c7 ρ ⟨v,w⟩ i j ⟨y,o,A,ag,B,C⟩ ⟨D,q,br,bg,E,F⟩ f t] 0 true)]) (λp=>∃z:Nat,p.1=z/\z<=l.length/\R=((p.2.1 || Km o.length q.length (l.drop z) z) && !(p.2.2 && Kn (l.drop z) z))) (λp=>l.length - p.1.toNat) (0,false,G) ⟨0,rfl,by omega,by grind⟩ rfl (by exact⟨sq,rfl,⟨.inl ⟨_,rfl,.same c⟩,trivial⟩,rfl,rfl,rfl⟩) ?_;rintro⟨T,I,J⟩ ⟨z,K,U,g⟩;simp only at K g;clear d;unfold c7;refine gq DV ?_;refine cn (λN=>?_) λN=>?_;rotate_left
 ·rw[aA_ (by omega),Km,Kn]at g;refine gq DV ?_;refine ad.ao ?_;cases I<;>cases J
  all_goals
   refine gq DV ?_
   repeat' (first
    |(refine fq ?_))
  all_goals (subst g;exact .refl _)
 obtain⟨x,O,P⟩:=aD (l:=l) (k:=z) (by omega);rw[P,Km,Kn]at g;refine gq DV ?_;refine ad.op rfl (ae.ind rfl rfl (aB (l:=l) K O) (aA λ_=>rfl)) ?_;cases I<;>cases J
 all_goals
  refine gq DV ?_
  repeat' (first
   |refine cg DV (λQ=>?_) λQ=>?_
   |refine lg DV λm H=>?_
   |refine cw λ_ _=>?_;refine gq DV ?_
   )
 all_goals (rename_i n V;first
  |refine ad.az (σ:=Int × Bool × Bool) (n,false,false) [] ⟨z+1,by grind,by omega,?_⟩ ?_ ⟨⟨.aC rfl (.pt (by decide)),.aC rfl .v,.aC rfl .v,.aC rfl (Pure.bm (bt _)),.aC rfl .v,.aC rfl .v,trivial⟩,rfl,⟨.inl ⟨_,rfl,.same c⟩,trivial⟩,rfl,rfl,rfl⟩
  |refine ad.az (σ:=Int × Bool × Bool) (n,false,true) [] ⟨z+1,by grind,by omega,?_⟩ ?_ ⟨⟨.aC rfl (.pt (by decide)),.aC rfl .v,.aC rfl .v,.aC rfl (Pure.bm (bt _)),.aC rfl .v,.aC rfl .v,trivial⟩,rfl,⟨.inl ⟨_,rfl,.same c⟩,trivial⟩,rfl,rfl,rfl⟩
  |refine ad.az (σ:=Int × Bool × Bool) (n,true,false) [] ⟨z+1,by grind,by omega,?_⟩ ?_ ⟨⟨.aC rfl (.pt (by decide)),.aC rfl .v,.aC rfl .v,.aC rfl (Pure.bm (bt _)),.aC rfl .v,.aC rfl .v,trivial⟩,rfl,⟨.inl ⟨_,rfl,.same c⟩,trivial⟩,rfl,rfl,rfl⟩
  |refine ad.az (σ:=Int × Bool × Bool) (n,true,true) [] ⟨z+1,by grind,by omega,?_⟩ ?_ ⟨⟨.aC rfl (.pt (by decide)),.aC rfl .v,.aC rfl .v,.aC rfl (Pure.bm (bt _)),.aC rfl .v,.aC rfl .v,trivial⟩,rfl,⟨.inl ⟨_,rfl,.same c⟩,trivial⟩,rfl,rfl,rfl⟩)
 all_goals first
  |simp only;omega
  |rw[g];grind
theorem Ar {x:Tm}:∀{F:List At}{l:List Int},x ∈ j9 F l->∃a ∈ F,x ∈ a.a
 |[],_,h=>by simp[j9]at h
 |f::F,[],h=>by simp[j9]at h
 |f::F,m::l,h=>by
  rw[j9,az_]at h;rcases h with h|h
  ·grind
  ·obtain⟨a,c,b⟩:=Ar h;exact⟨a,by grind,b⟩
theorem As {x:Tm}{T:List At}:∀{l:List Int},x ∈ l6 T l->∃a ∈ T,x ∈ a.a
 |[],h=>by simp[l6]at h
 |m::l,h=>by
  rw[l6,az_]at h;rcases h with h|h
  ·grind
  ·exact As h
theorem VJ (p:Pg) (i j:Int) (a b:Rl) (f t:List At) (l:List Int) (hf:f.length<=1000) (hn:l.length=f.length) (ho:yT t l) (G:∀x ∈ f,qf 200 x) (H:∀x ∈ t,qf 200 x):ah Tryz.prog w0 45 [.agg (c7 ρ p i j a b f t),aR ρ aI false l] (xM ρ (gL (j9 f l) (l6 t l))):=by
 have I:∀x ∈ j9 f l,x.ok:=λx e=>by
  obtain⟨y,h,n⟩:=Ar e;exact (G y h).1.mem x n
 have J:∀x ∈ l6 t l,x.ok:=λx e=>by
  obtain⟨y,h,n⟩:=As e;exact (H y h).1.mem x n
 have g:(j9 f l).length<=100000000->(l6 t l).length<=100000000->_:=λh n=>Vs (w0:=w0) (ρ:=ρ) h n I J;clear I J;obtain⟨U,K⟩:∃U,U=gL (j9 f l) (l6 t l):=⟨_,rfl⟩;rw[<-K]at g ⊢;clear K;obtain⟨A,L⟩:∃A,A=j9 f l:=⟨_,rfl⟩;obtain⟨C,M⟩:∃C,C=l6 t l:=⟨_,rfl⟩;rw[<-L,<-M]at g;have N:=l8 (ρ:=ρ) p i j a b f t;obtain⟨O,P⟩:=p;obtain⟨Q,R,S,ag,T,V⟩:=a;obtain⟨W,X,br,bg,Y,Z⟩:=b;have oe:h_ 1 (.arr 18 [c7 ρ ⟨O,P⟩ i j ⟨Q,R,S,ag,T,V⟩ ⟨W,X,br,bg,Y,Z⟩ f t] 0 true):=λr hr a ha=>by
  obtain rfl:=ae_.1 hr;exact (N a ha).bm
 clear N;unfold c7 at oe ⊢;refine st an7 vU ((fV _)) ?_;refine bS λm hm=>?_;rw[au]at hm;refine gq vU ?_
 refine ad.aK (σ:=Int × (List Tm × Nat) × List Tm × Nat) 1 3 [] (λp=>[(2,.pt 0 18 0 0),(6,.gr 1 4 p.2.1.2),(7,.gr 2 4 p.2.2.2),(10,aR ρ aI false l),(11,.v (.int .i64 m)),(12,.v (.int .i64 p.1))]) [] (λp=>[(0,.arr 18 [c7 ρ ⟨O,P⟩ i j ⟨Q,R,S,ag,T,V⟩ ⟨W,X,br,bg,Y,Z⟩ f t] 0 true),(1,M1 ρ p.2.1.1),(2,M1 ρ p.2.2.1)])
  (λp=>∃z:Nat,p.1=z/\z<=l.length/\A=p.2.1.1++j9 (f.drop z) (l.drop z)/\C=p.2.2.1++l6 t (l.drop z)/\p.2.1.2=p.2.1.1.length/\p.2.2.2=p.2.2.1.length/\p.2.1.1.length<=200*z/\p.2.2.1.length<=200*z) (λp=>l.length - p.1.toNat) (0,([],0),[],0) ⟨0,rfl,by omega,by grind,by grind,rfl,rfl,by simp,by simp⟩ rfl cz ?_
 rintro⟨i2,⟨a1,n1⟩,a2,n2⟩ ⟨z,w,tD,d,c,s,v,dR,oN⟩;simp only at w d c s v dR oN;clear L M;unfold c7;refine gq vU ?_;refine bq (λaZ=>?_) (λaZ=>?_)<;>(try simp only[bL]at aZ)
 rotate_left
 ·rw[aA_ (l:=l) (by omega),l6,aB_]at c;have e0:j9 (f.drop z) []=[]:=by cases f.drop z<;>rfl
  rw[aA_ (l:=l) (by omega),e0,aB_]at d;subst d;subst c;have g:=g (by omega) (by omega);refine gq vU ?_;refine ad.ao ?_;refine gq vU ?_;refine ad.uC (Cv.freeze (t:=36) rfl rfl (.inl rfl) (s.trans (au (ρ:=ρ) (f:=iN)).symm) (ax_ _)) ?_;refine ad.uC (Cv.freeze (t:=37) rfl rfl (.inl rfl) (v.trans (au (ρ:=ρ) (f:=iN)).symm) (ax_ _)) ?_;refine ad.op rfl (pl g) ?_;refine gq vU ?_;refine fq ?_;exact .refl _
 clear g;obtain⟨x,e,aV⟩:=aD (l:=l) (k:=z) (by omega);obtain⟨y,hy,eN⟩:=aD (l:=f) (k:=z) (by omega);rw[aV,eN,j9]at d;rw[aV,l6]at c;have zX:=ho.1 x (aa_ e);have B:=(G y (aa_ hy)).2.1;obtain⟨yn,ya⟩:=y;have hy4:=my ya;dsimp only at d B;refine gq vU ?_;refine ad.op rfl (ae.ind rfl rfl (aB (l:=l) w e) (aA λ_=>rfl)) ?_;refine gq vU ?_;refine bq (λo=>?_) (λo=>?_)<;>(try simp only[bL]at o)
 rotate_left
 ·rw[if_pos o,aK_]at d c;refine gq vU ?_;refine cw (λD de=>?_);refine gq vU ?_;refine ad.az (σ:=Int × (List Tm × Nat) × List Tm × Nat) (D,(a1,n1),a2,n2) [] ⟨z+1,by grind,by omega,d,c,s,v,by grind,by grind⟩ ?_ cz;simp only;omega
 rw[if_neg o]at d c;obtain⟨q,E,hq⟩:=zX.resolve_left o;obtain⟨u,F⟩:∃u,t[q]?=some u:=⟨_,ai_ hq⟩;rw[show x.toNat=q by omega,F]at c;have vS:=(H u (aa_ F)).2.1;obtain⟨un,ua⟩:=u;have hu4:=my ua;dsimp only at c vS;refine gq vU ?_;refine ad.op rfl (ae.ind rfl rfl (aB (l:=f) w hy) (aA λ_=>rfl)) ?_;refine gq vU ?_;refine ad.qm (f:=iN) (ys:=ya) rfl rfl rfl s (λ_=>rfl) rfl ov qT (by omega) (λb1 k1 YV kD=>?_);refine gq vU ?_;refine ad.op rfl (ae.ind rfl rfl (aB (l:=t) E F) (aA λ_=>rfl)) ?_;refine gq vU ?_;refine ad.qm (f:=iN) (ys:=ua) rfl rfl rfl v (λ_=>rfl) rfl ov qT (by omega) (λb2 k2 YW fe=>?_);refine gq vU ?_;refine cw (λD de=>?_);refine gq vU ?_;refine ad.az (σ:=Int × (List Tm × Nat) × List Tm × Nat) (D,(b1,k1),b2,k2) [(1,3),(2,4)] ⟨z+1,by grind,by omega,by grind,by grind,kD,fe,by grind,by grind⟩ ?_ cz;simp only;omega
end
end
section
attribute [local irreducible] ah aG ae ad
def an8:FQ 95 Tryz.f95:=aF Tryz.func95 Tryz.call95
def cu:List Nat:=[6,13,14,17,12,7,16,0,10,15,4,5,23,1,8,9,42,11,49,56,94,108,134]
theorem VL {N:aS}{p:List (Int × Int) × Int}:(yI N cl i p).1.length=p.1.length:=by grind[yI]
theorem Kq {N:aS}{cl:List Nat}:∀{l:List Nat}{p:List (Int × Int) × Int},(nQ N cl l p).1.length=p.1.length
 |[],p=>rfl
 |i::l,p=>by rw[nQ,Kq,VL]
theorem Ov {N:aS}{cl:List Nat}:∀{f:Nat}{p:List (Int × Int) × Int}{ms:List (Int × Int)},uc N cl f p=some (some ms)->ms.length=p.1.length
 |0,_,_,h=>by cases h
 |f+1,p,ms,h=>by
  rw[uc]at h;split at h
  ·split at h
   ·grind
   ·rw[Ov h,Kq]
  ·grind
theorem xO:∀(l:List Bd) (x:Bd) (k:Nat),k<=l.length->(∀i y,i < k->l[i]?=some y->y.v < x.v)->(∀y,l[k]?=some y->¬ y.v < x.v)->Bm l x=l.take k++[x]++l.drop k
 |[],x,k,c,_,_=>by
  obtain rfl:k=0:=by grind
  rfl
 |y::l,x,0,_,_,h=>by grind[Bm]
 |y::l,x,k+1,c,b,d=>by
  rw[Bm,if_pos (b 0 y (by omega) rfl),xO l x k (by grind) (λi z e a=>b (i+1) z (by omega) a) (λz a=>d z a)]
  rfl
def rWj (ρ:Hd) (a i j nl ul:Nat) (N:aS) (cl:List Nat):List (Nat × Option Ob):=[(0,some (yO i j nl ul)),(i,some (ij ρ N)),(j,some (cI ρ cl)),(a,none),(a+1,none),(a+2,none)]
theorem an9 {a:Nat}{N:aS}:gT (dz (aU [(1,i),(2,j)]) 3 a) (rX ρ nl ul N cl) (rWj ρ a i j nl ul N cl) :=
 ⟨⟨0,_,rfl,rfl,.row ⟨.gr rfl,.gr rfl,trivial⟩⟩,⟨1,_,rfl,rfl,.pure (Bu _)⟩,⟨2,_,rfl,rfl,.pure (nS _)⟩,trivial⟩
theorem sC1 (h0:S.get 0=some (yO i j nl ul):=by rfl) (h1:S.get i=some (ij ρ Nd):=by rfl) (h2:S.get j=some (cI ρ cl):=by rfl):fO 1 [(1,i),(2,j)] 3 S [(0,yO 1 2 nl ul),(1,ij ρ Nd),(2,cI ρ cl)] :=
 ⟨.inl ⟨_,h0,.arr (by exact⟨⟨.jT rfl rfl,.jT rfl rfl,trivial⟩,trivial⟩)⟩,.inl ⟨_,h1,.same (nj _)⟩,.inl ⟨_,h2,.same (fy _)⟩,trivial⟩
theorem sC0 (h0:S.get 0=some (.arr 2 [[.sl true [],.sl true []]] 0 true):=by rfl) (a:Nat.ble S.nx 1=true:=by rfl):fO 1 [] 3 S [(0,yO 1 2 0 0),(1,ij ρ []),(2,cI ρ [])] :=
 ⟨.inl ⟨_,h0,.arr (by exact⟨⟨.kO,.kO,trivial⟩,trivial⟩)⟩,.inr (by
  have:=aq_ a;exact cf_ (by show S.nx<=1;omega)),.inr (by
  have:=aq_ a;exact cf_ (by show S.nx<=2;omega)),trivial⟩
theorem sC3 (h0:S.get 0=some (rO nl ul):=by rfl) (h1:S.get 1=some (ij ρ Nd):=by rfl) (h2:S.get 2=some (cI ρ cl):=by rfl) (a:Nat.ble S.nx 3=true:=by rfl):fO 3 [] 4 S [(0,rO nl ul),(1,ij ρ Nd),(2,cI ρ cl),(3,.arr 5 (ρ.h (List.map (gG ρ)) []) 0 false)] :=
 ⟨.inl ⟨_,h0,.same (sw (by decide))⟩,.inl ⟨_,h1,.same (nj _)⟩,.inl ⟨_,h2,.same (fy _)⟩,.inr a,trivial⟩
theorem Je (h3:S.get j=some (.arr 5 (ρ.h (List.map (gG ρ)) acc) 0 false):=by rfl) (h0:S.get 0=some (rO nl ul):=by rfl) (h1:S.get 1=some (ij ρ Nd):=by rfl) (h2:S.get 2=some (cI ρ cl):=by rfl):fO 3 [(3,j)] 4 S [(0,rO nl ul),(1,ij ρ Nd),(2,cI ρ cl),(3,.arr 5 (ρ.h (List.map (gG ρ)) acc) 0 false)] :=
 ⟨.inl ⟨_,h0,.same (sw (by decide))⟩,.inl ⟨_,h1,.same (nj _)⟩,.inl ⟨_,h2,.same (fy _)⟩,.inl ⟨_,h3,.same (Ja _)⟩,trivial⟩
theorem sC5 {x:Bd}(h3:S.get 3=some (.arr 5 (ρ.h (List.map (gG ρ)) acc) 0 false):=by rfl) (h4:S.get 4=some (.arr 5 [gG ρ x] 0 true):=by rfl) (h0:S.get 0=some (rO nl ul):=by rfl) (h1:S.get 1=some (ij ρ Nd):=by rfl) (h2:S.get 2=some (cI ρ cl):=by rfl):fO 5 [] 5 S [(0,rO nl ul),(1,ij ρ Nd),(2,cI ρ cl),(3,.arr 5 (ρ.h (List.map (gG ρ)) acc) 0 false),(4,.arr 5 [gG ρ x] 0 true)] :=
 ⟨.inl ⟨_,h0,.same (sw (by decide))⟩,.inl ⟨_,h1,.same (nj _)⟩,.inl ⟨_,h2,.same (fy _)⟩,.inl ⟨_,h3,.same (Ja _)⟩,.inl ⟨_,h4,.same (λrow b a c=>by grind[Pure.bm,AM])⟩,trivial⟩
section
variable {w0:World}{ρ:Hd}
theorem Ev {b:Bool}{N':aS}{d:List Nat}{R:AV}(hl:l.length<=100000000) (hlen:l.length=r.length) (tE:∀x ∈ l,eh x/\jy x) (tF:∀x ∈ r,eh x/\jy x) (hB:xt (l.zip r)<=100000000000) (hA:tU (l.zip r) [] [] b N' d) (W:Pure R)
  (hf:b=false->R=.aL [.sl true [],iv 13]) (ht:b=true->∃fu q,(∃c,CI d c N'.length)/\uc N' d fu (List.replicate N'.length (0,0),jW (bT d) (List.replicate N'.length (0,0)) N'.length)=some q/\(q=none->R=.aL [.sl true [],iv 13]) /\
   ∀ms,q=some ms->∃M,(∀i,i < N'.length->gy N' (bT d) (cM N' d) M (bT d i))/\R=Yq ρ (vx N' d ms M (List.range N'.length) [])) :
  aG Tryz.prog w0 95 [tl ρ l,tl ρ r] (aq [] 0) R (aq [] 0):=by
 refine sc 0 0 an8 ?_;refine gq cu ?_
 refine ad.aK (σ:=Int × aS × List Nat × Nat) 1 3 [] (λp=>[(0,tl ρ l),(1,tl ρ r),(6,.pt 0 2 0 0),(7,iv p.1)]) [] (λp=>[(0,yO 1 2 p.2.2.2 p.2.2.2),(1,ij ρ p.2.1),(2,cI ρ p.2.2.1)])
  (λp=>∃i:Nat,p.1=i/\i<=l.length/\fj p.2.1/\qd p.2.1/\p.2.2.1.length=p.2.1.length/\p.2.2.2=p.2.1.length/\p.2.1.length+xt ((l.zip r).drop i)<=100000000000/\tU ((l.zip r).drop i) p.2.1 p.2.2.1 b N' d) (λp=>l.length - p.1.toNat)
  (0,[],[],0) ⟨0,rfl,by simp,C8,(λi hi=>by cases hi),rfl,rfl,by simpa using hB,by simpa using hA⟩ rfl (by exact⟨sq,rfl,sC0,rfl,rfl,rfl⟩) ?_
 rintro⟨ii,N,cl,nl⟩ ⟨i,l5,vB,hG,lu,eZ,X,bO,Z⟩;simp only at l5 hG lu eZ X bO Z;clear hA hB;refine gq cu ?_;refine lg cu λq1 tA=>?_;refine cn (λaZ=>?_) λaZ=>?_
 ·obtain⟨x,hx⟩:∃x,l[i]?=some x:=⟨_,ai_ (by omega)⟩;obtain⟨y,u⟩:∃y,r[i]?=some y:=⟨_,ai_ (by omega)⟩;have hd:=DC (ch_ (z:=(x,y)) |>.2 ⟨hx,u⟩);rw[hd]at bO Z;rw[xt]at bO;simp only at bO;obtain⟨wx,ax⟩:=tE x (aa_ hx);obtain⟨wy,ay⟩:=tF y (aa_ u);obtain⟨x1,_,_⟩:=pO N x hG wx;obtain⟨k1,k2⟩:=wH N x lu ax;have c1:=Q4 (w0:=w0) (ρ:=ρ) (cR x) N cl x (ac_ _) hG lu wx ax eZ (by omega);obtain⟨H,uU⟩:∃z,z=(bN N x).1:=⟨_,rfl⟩;obtain⟨r1,pd⟩:∃z,z=(bN N x).2:=⟨_,rfl⟩;rw[<-uU]at x1 k1 k2 c1;rw[<-pd]at c1;obtain⟨y1,_,_⟩:=pO H y x1.g wy;obtain⟨m1,m2⟩:=wH H y k1 ay;have amX:=x1.le;have an_:(ot cl N.length H.length).length=H.length:=rN eZ x1.le;have c2:=Q4 (w0:=w0) (ρ:=ρ) (cR y) H (ot cl N.length H.length) y (ac_ _) x1.g k1 wy ay an_ (by omega);obtain⟨S,mR⟩:∃z,z=(bN H y).1:=⟨_,rfl⟩;obtain⟨r2,zu⟩:∃z,z=(bN H y).2:=⟨_,rfl⟩;rw[<-mR]at y1 m1 m2 c2;rw[<-zu]at c2;have Sm:=y1.le;rw[yP x1.le y1.le]at c2;have agA:(ot cl N.length S.length).length=S.length:=rN eZ (by omega);have key:∃bb m ph,jR S m (ot cl N.length S.length) r1 r2=some (bb,ph)/\((bb=false/\b=false)\/(bb=true/\tU ((l.zip r).drop (i+1)) S ph b N' d)):=by
   rw[mR,zu,uU,pd];cases Z with
   |no h=>exact⟨false,_,_,h,.inl ⟨rfl,rfl⟩⟩
   |go h k=>exact⟨true,_,_,h,.inr ⟨rfl,k⟩⟩
  obtain⟨bb,m,ph,hj,BY⟩:=key;obtain⟨U,n⟩:∃z,z=H.length:=⟨_,rfl⟩;obtain⟨B,g⟩:∃z,z=S.length:=⟨_,rfl⟩;obtain⟨d1,uB⟩:∃z,z=ot cl N.length H.length:=⟨_,rfl⟩;obtain⟨d2,nD⟩:∃z,z=ot cl N.length S.length:=⟨_,rfl⟩;have arM:ph.length=B:=by rw[wq hj,agA,g]
  have c3:=af7 (w0:=w0) (ρ:=ρ) (zW.of y1.g m1) g (by omega) m (by rw[agA,g]) hj;rw[<-uB,<-n,<-X]at c1;rw[<-uB,<-nD,<-n,<-g]at c2;rw[<-nD]at c3;clear Z hj uU mR pd zu uB nD;refine gq cu ?_;refine og cu (ae.ind rfl rfl (cC (l:=l) l5 hx) cD) ?_;refine og cu (ae.jK [(1,1),(2,2)] (rW ρ 3 1 2 U U H d1) c1 rfl ⟨.pt rfl rfl,.pure (bQ x),trivial⟩ (.pure .v) (Vq DI) rWB) ?_;refine og cu (ae.ind rfl rfl (cC (l:=r) l5 u) cD) ?_;refine og cu (ae.jK [(1,6),(2,7)] (rW ρ 8 6 7 B B S d2) c2 rfl ⟨.pt rfl rfl,.pure (bQ y),trivial⟩ (.pure .v) (Vq DI) rWB) ?_;refine ad.op rfl (ae.jK [(1,11),(2,12)] (rWj ρ 13 11 12 B B S ph) c3 rfl ⟨.pt rfl rfl,.pure .v,.pure .v,trivial⟩ (.pure .v) (Vq DI) an9) ?_;rcases BY with ⟨rfl,hbf⟩|⟨rfl,hk⟩
  ·rw[hf hbf]at W ⊢;refine gq cu ?_;refine ad.bh ?_;refine gq cu ?_;refine fq ?_;exact⟨[],.aC (Pure.bm W),trivial,rfl⟩
  ·refine gq cu ?_;refine ag cu λC de=>?_;refine ad.az (σ:=Int × aS × List Nat × Nat) (C,S,ph,B) [(1,11),(2,12)] ⟨i+1,by simp only;omega,by omega,y1.g,m1,by simp only;omega,g,by simp only;omega,hk⟩ ?_ (by exact⟨sq,rfl,sC1,rfl,rfl,rfl⟩);simp only;omega
 have ir:i=l.length:=by omega
 rw[ir,aA_ (by rw[cm_];omega)]at Z;obtain⟨rfl,rfl,rfl⟩:b=true/\N'=N/\d=cl:=by cases Z;exact⟨rfl,rfl,rfl⟩
 obtain⟨fu,q,⟨cf,hCI⟩,YX,hq0,tA⟩:=ht rfl;clear hf ht Z;have hN:=zW.of hG lu;have r9:nl<=100000000000:=by omega
 have hc:∀i,i < nl->bT d i < nl:=λi hi=>by rw[hCI.at_ i (by omega)];have:=(hCI.cc i (by omega)).1;omega
 have cm:=S5 (w0:=w0) (ρ:=ρ) hG hN X r9 (by omega) hc YX;refine gq cu ?_;refine ad.ao ?_;refine gq cu ?_;refine ad.op rfl (ae.iA cm rfl (aq_ rfl) (gz (by decide)) (Ak) (gz (by decide)) (λb hb=>by obtain rfl:=ae_.1 hb;exact .pt (by decide)) (Pure.bm (HX q))) ?_;cases q with
 |none =>
  rw[hq0 rfl]at W ⊢;rw[K9];refine gq cu ?_;refine fq ?_;exact⟨[],.aC (Pure.bm W),trivial,rfl⟩
 |some ms =>
  obtain⟨M,hW,hRo⟩:=tA ms rfl;have hml:ms.length=nl:=by rw[Ov YX,bH_,X]
  have hpm:Pure (aR ρ rP false ms):=dT λx _=>Oi x;rw[<-X]at hRo hW;clear hq0 tA YX;obtain⟨o,ho⟩:∃o,o=vx N' d ms M (List.range nl) []:=⟨_,rfl⟩;rw[<-ho]at hRo;subst hRo;rw[K9];refine gq cu ?_
  refine ad.aK (σ:=Int × List Bd × Nat) 3 4 [] (λp=>[(6,.pt 0 2 0 0),(10,aR ρ rP false ms),(12,.gr 3 5 p.2.2),(13,iv p.1)]) [] (λp=>[(0,rO nl nl),(1,ij ρ N'),(2,cI ρ d),(3,.arr 5 (ρ.h (List.map (gG ρ)) p.2.1) 0 false)])
   (λp=>∃j:Nat,p.1=j/\j<=nl/\p.2.2=p.2.1.length/\p.2.1.length<=j/\vx N' d ms M ((List.range nl).drop j) p.2.1=o) (λp=>nl - p.1.toNat) (0,[],0) ⟨0,rfl,by simp,rfl,by simp,by simpa using ho.symm⟩ rfl (by exact⟨sq,rfl,sC3,rfl,rfl,rfl⟩) ?_
  rintro⟨ji,acc,al⟩ ⟨j,DS,Jb,Y,Ut,a⟩;simp only at DS Y Ut a;clear ho;refine gq cu ?_;refine ig cu (ae.iz rfl) λe he=>?_;refine cn (λbf=>?_) λbf=>?_;rotate_left
  ·have V:j=nl:=by omega
   rw[V,aA_ (by rw[List.length_range];omega),vx]at a;subst a;refine gq cu ?_;refine ad.ao ?_;refine ad.xI (ad.BS (Cv.freeze (t:=12) (k:=3) (rows:=ρ.h (List.map (gG ρ)) acc) (fz:=0) (ex:=false) rfl rfl (.inl rfl) (by rw[au];exact Y) (ax_ _)) ?_);refine gq cu ?_;refine fq ?_;exact⟨[],.aC (Pure.bm W),trivial,rfl⟩
  have V:j < nl:=by omega
  obtain⟨z,hz⟩:∃z,d[j]?=some z:=⟨_,ai_ (by omega)⟩;obtain⟨⟨t,kl⟩,hNj⟩:∃x,N'[j]?=some x:=⟨_,ai_ (by omega)⟩;have Jq:z < nl:=by have:=hc j V;rw[kV hz]at this;exact this
  have rz:=bW (ρ:=ρ) (f:=c8) hz;have rs:=bW (ρ:=ρ) (f:=pw ρ) hNj;rw[pw]at rs;rw[wo V,vx,kV hz,(tc hNj).1]at a;have hWz:=hW j V;rw[kV hz]at hWz;have sa:=Al (w0:=w0) (ρ:=ρ) (N:=N') (cl:=d) z X rfl (by omega) (by omega);have sl:=Q3 (w0:=w0) (ρ:=ρ) (N:=N') (cl:=d) z X rfl (by omega) (by omega);have ct:=agx (w0:=w0) (ρ:=ρ) hG hN X r9 (by omega) M z hWz;obtain⟨zi,uZ⟩:∃zi:Int,zi=z:=⟨_,rfl⟩;rw[c8,<-uZ]at rz;rw[<-uZ]at sa sl ct;have Rg:idx (ρ.h (List.map rP) ms) zi=some (rP (eR ms z)):=aB (l:=ms) uZ (Gb (by omega));obtain⟨⟨v1,v2⟩,hv⟩:∃q,q=eR ms z:=⟨_,rfl⟩;rw[<-hv,rP]at Rg;rw[<-hv]at a;obtain⟨tk,F,Fa,ta⟩:=t;simp only at rs a Rg;obtain⟨ki,nF⟩:∃k,k=tG (cM N' d z):=⟨_,rfl⟩;rw[<-nF]at sa;obtain⟨lv,Vp⟩:∃v,v=eX N' d z:=⟨_,rfl⟩;rw[<-Vp]at sl a;obtain⟨G,VH⟩:∃t,t=TF N' (bT d) (cM N' d) (eX N' d) M z:=⟨_,rfl⟩;rw[<-VH]at ct a;clear VH hWz;refine gq cu ?_;refine ad.op rfl (ae.dg rfl rfl DS V) ?_;refine og cu (ae.fk rfl rfl rz rfl) ?_;refine ad.cP rfl (λT=>ae.dg rfl rfl DS V) ?_;refine ad.cP rfl (λT=>ae.quiet rfl) ?_;refine ad.eW rfl (a_.fk rfl rfl rs rfl) ?_;refine gq cu ?_;refine ad.WM rfl (λT=>ae.bit rfl) (λdQ=>?_) (λdQ=>?_)<;>(try simp only[bL]at dQ)
  ·rw[if_pos (.inl dQ)]at a;refine gq cu ?_;refine ag cu λC de=>?_;refine ad.az (σ:=Int × List Bd × Nat) (C,acc,al) [(3,3)] ⟨j+1,by simp only;omega,by omega,Y,by simp only;omega,a⟩ ?_ (by exact⟨sq,rfl,Je,rfl,rfl,rfl⟩);simp only;omega
  refine gq cu ?_;refine ad.eW rfl (a_.K8 sa rfl (by decide) (gz (by decide)) (xL) HT (qy (by decide) .v) .v) ?_;refine gq cu ?_;refine ad.WM rfl (λT=>ae.bit rfl) (λkL=>?_) (λkL=>?_)<;>(try simp only[bL]at kL)
  ·have MA:cM N' d z=none:=by
    cases hs:cM N' d z with
    |none=>rfl
    |some s=>rw[hs,tG]at nF;exfalso;omega
   refine gq cu ?_;refine ad.eW rfl (a_.K8 sl rfl (by decide) (gz (by decide)) (xL) HT (qy (by decide) .v) .v) ?_;refine gq cu ?_;refine ad.cP rfl (λT=>ae.dg rfl rfl DS V) ?_;refine ad.cP rfl (λT=>ae.quiet rfl) ?_;refine ad.eW rfl (a_.fk rfl rfl rs rfl) ?_;refine gq cu ?_;refine ad.WM rfl (λT=>ae.bit rfl) (λmg=>?_) (λmg=>?_)<;>(try simp only[bL]at mg)
   ·rw[if_pos (.inr ⟨MA,mg⟩)]at a;refine gq cu ?_;refine ag cu λC de=>?_;refine ad.az (σ:=Int × List Bd × Nat) (C,acc,al) [(3,3)] ⟨j+1,by simp only;omega,by omega,Y,by simp only;omega,a⟩ ?_ (by exact⟨sq,rfl,Je,rfl,rfl,rfl⟩);simp only;omega
   ·rw[if_neg (by rintro (h|⟨_,h⟩);exact h dQ;exact mg h)]at a;refine gq cu ?_;refine og cu (ae.ind rfl rfl Rg (aA λ_=>rfl)) ?_;refine cn (λxN=>?_) λxN=>?_
    ·rw[if_pos (.inl (by omega))]at a;obtain rfl:o=none:=a.symm;refine gq cu ?_;refine ad.bh ?_;refine gq cu ?_;refine fq ?_;exact⟨[],.aC (Pure.bm W),trivial,rfl⟩
    refine gq cu ?_;refine og cu (ae.ind rfl rfl Rg (aA λ_=>rfl)) ?_;refine cn (λyQ=>?_) λyQ=>?_
    ·rw[if_pos (.inr (by omega))]at a;obtain rfl:o=none:=a.symm;refine gq cu ?_;refine ad.bh ?_;refine gq cu ?_;refine fq ?_;exact⟨[],.aC (Pure.bm W),trivial,rfl⟩
    rw[if_neg (by omega)]at a;refine gq cu ?_;refine ad.cP rfl (λT=>ae.dg rfl rfl DS V) ?_;refine ad.cP rfl (λT=>ae.quiet rfl) ?_;refine ad.eW rfl (a_.fk rfl rfl rs rfl) ?_;refine gq cu ?_;refine ad.eW rfl (a_.K8 ct rfl (by decide) (gz (by decide)) (xL) HT (qy (by decide) .v) (Pure.bm (bQ G))) ?_;refine gq cu ?_
    refine ad.aK (σ:=Int) 5 5 [] (λp=>[(6,.pt 0 2 0 0),(10,aR ρ rP false ms),(12,.gr 3 5 al),(13,iv ji),(15,.pt 4 5 0 0),(16,.sl true []),(17,iv p)]) [] (λ_=>[(0,rO nl nl),(1,ij ρ N'),(2,cI ρ d),(3,.arr 5 (ρ.h (List.map (gG ρ)) acc) 0 false),(4,.arr 5 [gG ρ ⟨F,G⟩] 0 true)])
     (λp=>∃k:Nat,p=k/\k<=acc.length/\∀i y,i < k->acc[i]?=some y->y.v < F) (λp=>acc.length - p.toNat) 0 ⟨0,rfl,by simp,λi y h=>by omega⟩ rfl (by exact⟨sq,rfl,sC5,rfl,rfl,rfl⟩) ?_
    rintro pi ⟨k,E7,gR,aw⟩;refine gq cu ?_;refine ig cu (ae.iz rfl) λe5 he5=>?_;refine cn (λRh=>?_) λRh=>?_;rotate_left
    ·skip;have Ge:=xO acc (⟨F,G⟩:Bd) k gR aw (λy u=>by have:=(ar_.1 u).1;omega);rw[Ge]at a;refine gq cu ?_;refine ad.ao ?_;refine ad.xI (ad.BS (Cv.freeze (t:=12) (k:=3) (rows:=ρ.h (List.map (gG ρ)) acc) (fz:=0) (ex:=false) rfl rfl (.inl rfl) (by rw[au];exact Y) (ax_ _)) ?_);refine gq cu ?_;refine ad.gen (eg ρ) rfl (ae.Io rfl rfl rfl (λ_=>rfl) (by decide) (by omega) (by omega)) (λw iD=>?_);have I:w=acc.take k:=by rw[iD,bV_,bw_];congr 1;omega
     have Gf:w.length=k:=by rw[I,aZ_];omega
     refine gq cu ?_;refine ad.qF (f:=gG ρ) (ys:=w) rfl rfl rfl (λ_=>rfl) (by omega) (λa1 U J n=>?_);have ur:U=k:=by rw[n,J,Gf]
     refine gq cu ?_;refine ad.app (x:=(⟨F,G⟩:Bd)) (f:=gG ρ) rfl rfl rfl n (λ_=>rfl) rfl rfl rfl rfl (by omega) (λa2 B K g=>?_);have uu:B=k+1:=by rw[g,K,af_,<-n,ur];rfl
     refine gq cu ?_;refine ad.gen (eg ρ) rfl (ae.KP rfl rfl (λ_=>rfl) (by omega) (by omega)) (λA ee=>?_);have L:A=acc.drop k:=by rw[ee];congr 1;omega
     have Gg:A.length=acc.length - k:=by rw[L,cn_]
     refine gq cu ?_;refine ad.qm (f:=gG ρ) (ys:=A) rfl rfl rfl g (λ_=>rfl) rfl (λ_=>rfl) (λ_=>rfl) (by omega) (λa3 O P Q=>?_);have N9:O=acc.length+1:=by rw[Q,P,af_,<-g,uu,Gg];omega
     refine gq cu ?_;refine ag cu λC de=>?_;refine ad.az (σ:=Int × List Bd × Nat) (C,a3,O) [(3,7)] ⟨j+1,by simp only;omega,by omega,Q,by simp only;omega,by simp only;rw[P,K,J,I,L];exact a⟩ ?_ (by exact⟨sq,rfl,Je,rfl,rfl,rfl⟩);simp only;omega
    obtain⟨⟨yv,yt⟩,u⟩:∃y,acc[k]?=some y:=⟨_,ai_ (by omega)⟩;have ry:=bW (ρ:=ρ) (f:=gG ρ) u;rw[gG]at ry;simp only at ry;have YY:k < al:=by omega
    refine gq cu ?_;refine ad.op rfl (ae.dg rfl rfl E7 YY) ?_;refine ad.op rfl (ae.quiet rfl) ?_;refine og cu (ae.fk rfl rfl ry rfl) ?_;refine cn (λCa=>?_) λCa=>?_
    ·refine gq cu ?_;refine ag cu λi4 hi4=>?_;refine ad.az (σ:=Int) i4 [] ⟨k+1,by omega,by omega,λi y h D=>by
      by_cases e:i=k
      ·subst e;rw[u]at D;obtain rfl:=oJ_ D;exact Ca
      ·exact aw i y (by omega) D⟩ ?_ (by exact⟨sq,rfl,sC5,rfl,rfl,rfl⟩)
     omega
    ·skip;have Ge:=xO acc (⟨F,G⟩:Bd) k gR aw (λy D=>by rw[u]at D;obtain rfl:=oJ_ D;exact Ca);rw[Ge]at a;refine gq cu ?_;refine ad.ao ?_;refine ad.xI (ad.BS (Cv.freeze (t:=12) (k:=3) (rows:=ρ.h (List.map (gG ρ)) acc) (fz:=0) (ex:=false) rfl rfl (.inl rfl) (by rw[au];exact Y) (ax_ _)) ?_);refine gq cu ?_;refine ad.gen (eg ρ) rfl (ae.Io rfl rfl rfl (λ_=>rfl) (by decide) (by omega) (by omega)) (λw iD=>?_);have I:w=acc.take k:=by rw[iD,bV_,bw_];congr 1;omega
     have Gf:w.length=k:=by rw[I,aZ_];omega
     refine gq cu ?_;refine ad.qF (f:=gG ρ) (ys:=w) rfl rfl rfl (λ_=>rfl) (by omega) (λa1 U J n=>?_);have ur:U=k:=by rw[n,J,Gf]
     refine gq cu ?_;refine ad.app (x:=(⟨F,G⟩:Bd)) (f:=gG ρ) rfl rfl rfl n (λ_=>rfl) rfl rfl rfl rfl (by omega) (λa2 B K g=>?_);have uu:B=k+1:=by rw[g,K,af_,<-n,ur];rfl
     refine gq cu ?_;refine ad.gen (eg ρ) rfl (ae.KP rfl rfl (λ_=>rfl) (by omega) (by omega)) (λA ee=>?_);have L:A=acc.drop k:=by rw[ee];congr 1;omega
     have Gg:A.length=acc.length - k:=by rw[L,cn_]
     refine gq cu ?_;refine ad.qm (f:=gG ρ) (ys:=A) rfl rfl rfl g (λ_=>rfl) rfl (λ_=>rfl) (λ_=>rfl) (by omega) (λa3 O P Q=>?_);have N9:O=acc.length+1:=by rw[Q,P,af_,<-g,uu,Gg];omega
     refine gq cu ?_;refine ag cu λC de=>?_;refine ad.az (σ:=Int × List Bd × Nat) (C,a3,O) [(3,7)] ⟨j+1,by simp only;omega,by omega,Q,by simp only;omega,by simp only;rw[P,K,J,I,L];exact a⟩ ?_ (by exact⟨sq,rfl,Je,rfl,rfl,rfl⟩);simp only;omega
  ·have MA:¬ cM N' d z=none:=λhs=>by rw[hs,tG]at nF;omega
   rw[if_neg (by rintro (h|⟨h,_⟩);exact h dQ;exact MA h)]at a;refine gq cu ?_;refine og cu (ae.ind rfl rfl Rg (aA λ_=>rfl)) ?_;refine cn (λxN=>?_) λxN=>?_
   ·rw[if_pos (.inl (by omega))]at a;obtain rfl:o=none:=a.symm;refine gq cu ?_;refine ad.bh ?_;refine gq cu ?_;refine fq ?_;exact⟨[],.aC (Pure.bm W),trivial,rfl⟩
   refine gq cu ?_;refine og cu (ae.ind rfl rfl Rg (aA λ_=>rfl)) ?_;refine cn (λyQ=>?_) λyQ=>?_
   ·rw[if_pos (.inr (by omega))]at a;obtain rfl:o=none:=a.symm;refine gq cu ?_;refine ad.bh ?_;refine gq cu ?_;refine fq ?_;exact⟨[],.aC (Pure.bm W),trivial,rfl⟩
   rw[if_neg (by omega)]at a;refine gq cu ?_;refine ad.cP rfl (λT=>ae.dg rfl rfl DS V) ?_;refine ad.cP rfl (λT=>ae.quiet rfl) ?_;refine ad.eW rfl (a_.fk rfl rfl rs rfl) ?_;refine gq cu ?_;refine ad.eW rfl (a_.K8 ct rfl (by decide) (gz (by decide)) (xL) HT (qy (by decide) .v) (Pure.bm (bQ G))) ?_;refine gq cu ?_
   refine ad.aK (σ:=Int) 5 5 [] (λp=>[(6,.pt 0 2 0 0),(10,aR ρ rP false ms),(12,.gr 3 5 al),(13,iv ji),(15,.pt 4 5 0 0),(16,.sl true []),(17,iv p)]) [] (λ_=>[(0,rO nl nl),(1,ij ρ N'),(2,cI ρ d),(3,.arr 5 (ρ.h (List.map (gG ρ)) acc) 0 false),(4,.arr 5 [gG ρ ⟨F,G⟩] 0 true)])
    (λp=>∃k:Nat,p=k/\k<=acc.length/\∀i y,i < k->acc[i]?=some y->y.v < F) (λp=>acc.length - p.toNat) 0 ⟨0,rfl,by simp,λi y h=>by omega⟩ rfl (by exact⟨sq,rfl,sC5,rfl,rfl,rfl⟩) ?_
   rintro pi ⟨k,E7,gR,aw⟩;refine gq cu ?_;refine ig cu (ae.iz rfl) λe5 he5=>?_;refine cn (λRh=>?_) λRh=>?_;rotate_left
   ·skip;have Ge:=xO acc (⟨F,G⟩:Bd) k gR aw (λy u=>by have:=(ar_.1 u).1;omega);rw[Ge]at a;refine gq cu ?_;refine ad.ao ?_;refine ad.xI (ad.BS (Cv.freeze (t:=12) (k:=3) (rows:=ρ.h (List.map (gG ρ)) acc) (fz:=0) (ex:=false) rfl rfl (.inl rfl) (by rw[au];exact Y) (ax_ _)) ?_);refine gq cu ?_;refine ad.gen (eg ρ) rfl (ae.Io rfl rfl rfl (λ_=>rfl) (by decide) (by omega) (by omega)) (λw iD=>?_);have I:w=acc.take k:=by rw[iD,bV_,bw_];congr 1;omega
    have Gf:w.length=k:=by rw[I,aZ_];omega
    refine gq cu ?_;refine ad.qF (f:=gG ρ) (ys:=w) rfl rfl rfl (λ_=>rfl) (by omega) (λa1 U J n=>?_);have ur:U=k:=by rw[n,J,Gf]
    refine gq cu ?_;refine ad.app (x:=(⟨F,G⟩:Bd)) (f:=gG ρ) rfl rfl rfl n (λ_=>rfl) rfl rfl rfl rfl (by omega) (λa2 B K g=>?_);have uu:B=k+1:=by rw[g,K,af_,<-n,ur];rfl
    refine gq cu ?_;refine ad.gen (eg ρ) rfl (ae.KP rfl rfl (λ_=>rfl) (by omega) (by omega)) (λA ee=>?_);have L:A=acc.drop k:=by rw[ee];congr 1;omega
    have Gg:A.length=acc.length - k:=by rw[L,cn_]
    refine gq cu ?_;refine ad.qm (f:=gG ρ) (ys:=A) rfl rfl rfl g (λ_=>rfl) rfl (λ_=>rfl) (λ_=>rfl) (by omega) (λa3 O P Q=>?_);have N9:O=acc.length+1:=by rw[Q,P,af_,<-g,uu,Gg];omega
    refine gq cu ?_;refine ag cu λC de=>?_;refine ad.az (σ:=Int × List Bd × Nat) (C,a3,O) [(3,7)] ⟨j+1,by simp only;omega,by omega,Q,by simp only;omega,by simp only;rw[P,K,J,I,L];exact a⟩ ?_ (by exact⟨sq,rfl,Je,rfl,rfl,rfl⟩);simp only;omega
   obtain⟨⟨yv,yt⟩,u⟩:∃y,acc[k]?=some y:=⟨_,ai_ (by omega)⟩;have ry:=bW (ρ:=ρ) (f:=gG ρ) u;rw[gG]at ry;simp only at ry;have YY:k < al:=by omega
   refine gq cu ?_;refine ad.op rfl (ae.dg rfl rfl E7 YY) ?_;refine ad.op rfl (ae.quiet rfl) ?_;refine og cu (ae.fk rfl rfl ry rfl) ?_;refine cn (λCa=>?_) λCa=>?_
   ·refine gq cu ?_;refine ag cu λi4 hi4=>?_;refine ad.az (σ:=Int) i4 [] ⟨k+1,by omega,by omega,λi y h D=>by
     by_cases e:i=k
     ·subst e;rw[u]at D;obtain rfl:=oJ_ D;exact Ca
     ·exact aw i y (by omega) D⟩ ?_ (by exact⟨sq,rfl,sC5,rfl,rfl,rfl⟩)
    omega
   ·skip;have Ge:=xO acc (⟨F,G⟩:Bd) k gR aw (λy D=>by rw[u]at D;obtain rfl:=oJ_ D;exact Ca);rw[Ge]at a;refine gq cu ?_;refine ad.ao ?_;refine ad.xI (ad.BS (Cv.freeze (t:=12) (k:=3) (rows:=ρ.h (List.map (gG ρ)) acc) (fz:=0) (ex:=false) rfl rfl (.inl rfl) (by rw[au];exact Y) (ax_ _)) ?_);refine gq cu ?_;refine ad.gen (eg ρ) rfl (ae.Io rfl rfl rfl (λ_=>rfl) (by decide) (by omega) (by omega)) (λw iD=>?_);have I:w=acc.take k:=by rw[iD,bV_,bw_];congr 1;omega
    have Gf:w.length=k:=by rw[I,aZ_];omega
    refine gq cu ?_;refine ad.qF (f:=gG ρ) (ys:=w) rfl rfl rfl (λ_=>rfl) (by omega) (λa1 U J n=>?_);have ur:U=k:=by rw[n,J,Gf]
    refine gq cu ?_;refine ad.app (x:=(⟨F,G⟩:Bd)) (f:=gG ρ) rfl rfl rfl n (λ_=>rfl) rfl rfl rfl rfl (by omega) (λa2 B K g=>?_);have uu:B=k+1:=by rw[g,K,af_,<-n,ur];rfl
    refine gq cu ?_;refine ad.gen (eg ρ) rfl (ae.KP rfl rfl (λ_=>rfl) (by omega) (by omega)) (λA ee=>?_);have L:A=acc.drop k:=by rw[ee];congr 1;omega
    have Gg:A.length=acc.length - k:=by rw[L,cn_]
    refine gq cu ?_;refine ad.qm (f:=gG ρ) (ys:=A) rfl rfl rfl g (λ_=>rfl) rfl (λ_=>rfl) (λ_=>rfl) (by omega) (λa3 O P Q=>?_);have N9:O=acc.length+1:=by rw[Q,P,af_,<-g,uu,Gg];omega
    refine gq cu ?_;refine ag cu λC de=>?_;refine ad.az (σ:=Int × List Bd × Nat) (C,a3,O) [(3,7)] ⟨j+1,by simp only;omega,by omega,Q,by simp only;omega,by simp only;rw[P,K,J,I,L];exact a⟩ ?_ (by exact⟨sq,rfl,Je,rfl,rfl,rfl⟩);simp only;omega
end
end
section
attribute [local irreducible] ah aG ae ad
def aoa:FQ 53 Tryz.f53:=aF Tryz.func53 Tryz.call53
def mX:List Nat:=[0,1,6,7,4,5,11,19,23,31,36]
def aj1:FQ 169 Tryz.f169:=aF Tryz.func169 Tryz.call169
def agD:List Nat:=[4,5,0,1,2,3]
def aj2:FQ 104 Tryz.f104:=aF Tryz.func104 Tryz.call104
def YZ:List Nat:=[6,4,0,1,2,3]
theorem Jf {cc c:Int}(h:ex=true/\rows=[]/\cc=c):aP S (.aL [.sl true [],iv c]) (.aL [.sl ex rows,iv cc]):=by
 obtain⟨rfl,rfl,rfl⟩:=h;exact .refl _
section
variable {w0:World}{ρ:Hd}
theorem H5 {cc:Int}(t:Pure (.aL [.sl ex rows,iv cc])) (G:l.length<=100000000) (H:r.length<=100000000)
  (q:∀x ∈ l,x.ok/\cY x<=1099511627776) (s:∀x ∈ r,x.ok/\cY x<=1099511627776)
  (h1:(l.any λx=>!(cd x))=true->ex=true/\rows=[]/\cc=2)
  (h2:(l.any λx=>!(cd x))=false->(r.any λx=>!(cd x))=true->ex=true/\rows=[]/\cc=2)
  (h3:(l.any λx=>!(cd x))=false->(r.any λx=>!(cd x))=false->l.length ≠ r.length->ex=true/\rows=[]/\cc=9)
  (h4:(l.any λx=>!(cd x))=false->(r.any λx=>!(cd x))=false->l.length=r.length->ah Tryz.prog w0 95 [tl ρ l,tl ρ r] (.aL [.sl ex rows,iv cc])) :
  ah Tryz.prog w0 53 [tl ρ l,tl ρ r] (.aL [.sl ex rows,iv cc]):=by
 obtain⟨u,e⟩:∃b,b=(l.any λx=>!(cd x)):=⟨_,rfl⟩;obtain⟨v,f⟩:∃b,b=(r.any λx=>!(cd x)):=⟨_,rfl⟩;rw[<-e]at h1 h2 h3 h4;rw[<-f]at h2 h3 h4;refine st aoa mX t ?_
 refine ad.aK (σ:=Int) 0 0 [] (λp=>[(0,tl ρ l),(1,tl ρ r),(6,.v (.int .i64 p))]) [] (λ_=>[])
  (λp=>∃k:Nat,p=k/\k<=l.length/\u=(l.drop k).any λx=>!(cd x)) (λp=>l.length - p.toNat) 0 ⟨0,rfl,by simp,by grind⟩ rfl cq ?_
 rintro i ⟨k,w,I,c⟩;clear e;refine gq mX ?_;by_cases z:k < l.length
 ·obtain⟨y,d,j⟩:=aD z;rw[j,bS_]at c;have g:=Fz (w0:=w0) (ρ:=ρ) y (q y (bM d)).1 (q y (bM d)).2;obtain⟨Y,n⟩:∃b,b=cd y:=⟨_,rfl⟩;rw[<-n]at g c
  repeat' (first
   |refine og mX (ae.ind rfl rfl (cC (l:=l) w d) cD) ?_
   |refine bg mX (pl g) (λ_=>?_) λ_=>?_
   |refine cg mX (λo=>?_) λo=>?_
   |refine lg mX λm A=>?_
   |refine ag mX λ_ _=>?_
   |refine ad.ao ?_;refine gq mX ?_
   |refine ad.bh ?_;refine gq mX ?_
   |(refine fq ?_))
  all_goals first
   |(refine ad.az (σ:=Int) _ [] ?_ ?_ cq
     ·grind
     ·omega)
   |exact Jf (h1 (by grind))
   |exfalso;omega
 rw[ak_ (by omega),List.any_nil]at c;subst c;refine lg mX λq1 B=>?_;refine bq (λa=>?_) (λa=>?_)<;>(try simp only[bL,au]at a)
 ·grind
 refine gq mX ?_;refine ad.ao ?_;refine gq mX ?_
 refine ad.aK (σ:=Int) 0 0 [] (λp=>[(0,tl ρ l),(1,tl ρ r),(7,.v (.int .i64 p))]) [] (λ_=>[])
  (λp=>∃k:Nat,p=k/\k<=r.length/\v=(r.drop k).any λx=>!(cd x)) (λp=>r.length - p.toNat) 0 ⟨0,rfl,by simp,by grind⟩ rfl cq ?_
 rintro J ⟨C,D,K,c⟩;clear f;refine gq mX ?_;by_cases E:C < r.length
 ·obtain⟨y,d,j⟩:=aD E;rw[j,bS_]at c;have g:=Fz (w0:=w0) (ρ:=ρ) y (s y (bM d)).1 (s y (bM d)).2;obtain⟨Y,n⟩:∃b,b=cd y:=⟨_,rfl⟩;rw[<-n]at g c
  repeat' (first
   |refine og mX (ae.ind rfl rfl (cC (l:=r) D d) cD) ?_
   |refine bg mX (pl g) (λ_=>?_) λ_=>?_
   |refine cg mX (λo=>?_) λo=>?_
   |refine lg mX λm A=>?_
   |refine ag mX λ_ _=>?_
   |refine ad.ao ?_;refine gq mX ?_
   |refine ad.bh ?_;refine gq mX ?_
   |(refine fq ?_))
  all_goals first
   |(refine ad.az (σ:=Int) _ [] ?_ ?_ cq
     ·grind
     ·omega)
   |exact Jf (h2 rfl (by grind))
   |exfalso;omega
 rw[ak_ (by omega),List.any_nil]at c;subst c;refine lg mX λq1 B=>?_;refine bq (λa=>?_) (λa=>?_)<;>(try simp only[bL,au]at a)
 ·grind
 refine gq mX ?_;refine ad.ao ?_;refine gq mX ?_;refine lg mX λL M=>?_;refine lg mX λN F=>?_;by_cases hlen:l.length=r.length
 ·have h4:=h4 rfl rfl hlen;refine bq (λa=>?_) (λa=>?_)<;>(try simp only[bL,au]at a)
  ·grind
  refine gq mX ?_;apply bK mX h4;refine fq ?_;exact .refl _
 ·refine bq (λa=>?_) (λa=>?_)<;>(try simp only[bL,au]at a)
  rotate_left
  ·grind
  refine gq mX ?_;refine fq ?_;exact Jf (h3 rfl rfl hlen)
theorem Y0 {cc:Int}(c:Pure (.aL [.sl ex rows,iv cc])) (h:ah Tryz.prog w0 53 [tl ρ [a],tl ρ [b]] (.aL [.sl ex rows,iv cc])):ah Tryz.prog w0 169 [tm ρ a,tm ρ b] (.aL [.sl ex rows,iv cc]):=by
 refine st aj1 agD c ?_;refine og agD (ae.oZ rfl h ⟨cG _,cG _,trivial⟩ ⟨Et a,Et b,trivial⟩) ?_;refine fq ?_;exact .refl _
theorem Ow {cc:Int}(h:ah Tryz.prog w0 169 [tm ρ a,tm ρ b] (.aL [.sl ex rows,iv cc])):ah Tryz.prog w0 104 [tm ρ a,tm ρ b] (.v (.bool (decide (cc=0\/cc=6)))):=by
 obtain⟨R,c⟩:∃R,R=decide (cc=0\/cc=6):=⟨_,rfl⟩;rw[<-c];refine st aj2 YZ .v ?_;apply bK YZ h
 repeat' (first
  |refine cg YZ (λd=>?_) λd=>?_
  |(refine fq ?_))
 all_goals (refine bY ?_;rw[c];simp_all)
theorem VM (g:l.length<=100000000) (I:r.length<=100000000) (B:∀x ∈ l,x.ok/\cY x<=1099511627776) (C:∀x ∈ r,x.ok/\cY x<=1099511627776):ah Tryz.prog w0 53 [tl ρ l,tl ρ r] (xM ρ (gL l r)):=by
 have E:∀c:Int,gL l r=([],c)->(∀{ex rows cc},(ex=true/\rows=[]/\cc=c)->Pure (.aL [.sl ex rows,iv cc])->ah Tryz.prog w0 53 [tl ρ l,tl ρ r] (.aL [.sl ex rows,iv cc]))->ah Tryz.prog w0 53 [tl ρ l,tl ρ r] (xM ρ (gL l r)):=λc h k=>by
  rw[h];exact ah.fz (k ⟨rfl,rfl,rfl⟩ (gK c)) (λS=>pW) (fV _)
 by_cases J:(l.any λx=>!(cd x))=true
 ·grind[gL,H5]
 by_cases K:(r.any λx=>!(cd x))=true
 ·grind[gL,H5]
 by_cases i:l.length=r.length;rotate_left
 ·grind[gL,H5]
 have v:gL l r=kX fL (l.zip r):=by grind[gL]
 have j:∀x ∈ l,eh x/\jy x/\sP x/\BZ x/\cR x<=200:=λx d=>rH (by grind) (B x d).1;have m:∀x ∈ r,eh x/\jy x/\sP x/\BZ x/\cR x<=200:=λx d=>rH (by grind) (C x d).1;have f:∀e ∈ l.zip r,e.1 ∈ l/\e.2 ∈ r:=λe a=>⟨(bR_ a).1,(bR_ a).2⟩;have p:xt (l.zip r)<=100000000000:=by
  have:=Oc (l.zip r) λe a=>⟨(j _ (f e a).1).2.2.2.2,(m _ (f e a).2).2.2.2.2⟩;rw[cm_]at this;omega
 have s:∀x ∈ l,eh x/\jy x:=λx d=>⟨(j x d).1,(j x d).2.1⟩;have t:∀x ∈ r,eh x/\jy x:=λx d=>⟨(m x d).1,(m x d).2.1⟩;have G:∀{ex rows cc},Pure (.aL [.sl ex rows,iv cc])->aG Tryz.prog w0 95 [tl ρ l,tl ρ r] (aq [] 0) (.aL [.sl ex rows,iv cc]) (aq [] 0)->ah Tryz.prog w0 53 [tl ρ l,tl ρ r] (.aL [.sl ex rows,iv cc]):=λD h =>
  H5 D g I B C (λh=>absurd h J) (λ_ h=>absurd h K) (λ_ _ h=>absurd i h) λ_ _ _=>ah.zM (S':=aq [] 0) h (.refl _) D
 obtain⟨b,N,cl,u,L,O⟩:=afj (l.zip r) (λe a=>⟨⟨(j _ (f e a).1).1,(j _ (f e a).1).2.2.1⟩,(m _ (f e a).2).1,(m _ (f e a).2).2.2.1⟩);cases b with
 |false =>
  have e:=L rfl;rw[v,e];exact ah.fz (G (gK 13) (Ev g i s t p u (gK 13) (λ_=>rfl) λh=>by grind)) (λS=>pW) (fV _)
 |true =>
  obtain⟨w,T,q,⟨y,z⟩,P,Q⟩:=O rfl;cases q with
  |none =>
   rw[v,P rfl];exact ah.fz (G (gK 13) (Ev g i s t p u (gK 13) (λ_=>rfl) λ_=>⟨y,none,w,z,λ_=>rfl,λn h=>by grind⟩)) (λS=>pW) (fV _)
  |some n =>
   obtain⟨M,F,a⟩:=Q n rfl;rw[v,a];cases H:vx N cl n M (List.range N.length) [] with
   |none =>
    exact ah.fz (G (gK 6) (Ev g i s t p u (gK 6) (λh=>by grind) λ_=>⟨y,some n,w,z,(λh=>by grind),λA h=>⟨M,F,by obtain rfl:=oJ_ h;rw[H];rfl⟩⟩)) (λS=>pW) (fV _)
   |some o =>
    exact G (fV (o,0)) (Ev g i s t p u (fV (o,0)) (λh=>by grind) λ_=>⟨y,some n,w,z,(λh=>by grind),λA h=>⟨M,F,by obtain rfl:=oJ_ h;rw[H];rfl⟩⟩)
theorem agE (d:a.ok/\cY a<=1099511627776) (e:b.ok/\cY b<=1099511627776):ah Tryz.prog w0 169 [tm ρ a,tm ρ b] (xM ρ (gL [a] [b])):=by
 have h:=VM (w0:=w0) (ρ:=ρ) (l:=[a]) (r:=[b]) (by simp) (by simp) (λx c=>by grind) (λx c=>by grind);exact Y0 (fV _) h
theorem acC (c:a.ok/\cY a<=1099511627776) (d:b.ok/\cY b<=1099511627776):ah Tryz.prog w0 104 [tm ρ a,tm ρ b] (.v (.bool (decide ((gL [a] [b]).2=0\/(gL [a] [b]).2=6)))):=Ow (agE c d)
end
end
end Go.Proofs.YtbpabjmnhggajaaGreat
