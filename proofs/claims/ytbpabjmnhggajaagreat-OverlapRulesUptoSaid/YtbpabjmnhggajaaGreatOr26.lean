import Derived.Test.YtbpabjmnhggajaaGreatOr24
namespace Go.Proofs.YtbpabjmnhggajaaGreat
set_option linter.all false
open Go.RowKit
section
set_option maxRecDepth 100000
attribute [local irreducible] ah aG ae ad
def aiJ:FQ 206 Tryz.f206:=aF Tryz.func206 Tryz.call206
def fJ:List Nat:=[3,0,6,5,4,1,16,27]
def aiK:FQ 148 Tryz.f148:=aF Tryz.func148 Tryz.call148
def xm:List Nat:=[4,0,3,2,8]
def aiL:FQ 165 Tryz.f165:=aF Tryz.func165 Tryz.call165
def aeE:List Nat:=[2,0,1]
def aiM:FQ 153 Tryz.f153:=aF Tryz.func153 Tryz.call153
def aeF:List Nat:=[2,0,1]
theorem lL:∀(l m s:List Int),bH s (l++m)=bH s l++bH (s++bH s l) m
 |[],m,s=>by simp[bH]
 |x::l,m,s=>by
  rw[aR_,bH,bH];split
  ·exact lL l m s
  ·rw[lL l m (s++[x])];simp
theorem Cv.abN {w0:World}{n:Nat}{α:AA}{S:af}(o:Ob):Cv w0 n α S α (S.new o):=by
 intro A g a w c r;have key:∀k p,(S.new o).get k=some p->g.al k->S.get k=some p:=λk p b d=>by
  have u:=c.al k d;have b:bE S.get S.nx (some o) k=some p:=b
  rwa [aO _ _ (by omega)]at b
 refine⟨g,⟨c.base,c.up,c.lo,λk b=>bX_ (c.al k b),λk p b d=>c.cT k p (key k p b d) d,λi j p q s h l f e=>c.inj i j p q (key i p s l) (key j q h f) l f e,c.dw,c.rp,
  λk J b d=>c.kP k J (key k _ b d) d,λk J j p b d h f=>c.nb k J j p (key k _ b d) d (key j p h f) f,λj k J t h b f m=>c.oW j k J t (key j _ h f) (key k _ b m) f m⟩,r,Ext.refl ..⟩
section
variable {w0:World}{ρ:Hd}
def qw (ρ:Hd) (acc:List Int):Ob:=.arr 1 (ρ.h (List.map aI) acc) 0 false
theorem kF {s:List Int}:∀row ∈ ρ.h (List.map aI) s,∀a ∈ row,Pure a:=by
 rw[ρ.eq];intro row b a c;obtain⟨x,_,rfl⟩:=av_.1 b;obtain rfl:=ae_.1 c;exact .v
theorem UE (x:Tm):∀(acc:List Int) (len:Nat),x.ok->len=acc.length->acc.length+(dO x).length<=1099511627776->∃o,o=(acc++bH acc (dO x)).length /\
  aG Tryz.prog w0 206 [.gr 0 1 len,tm ρ x] (aq [(0,qw ρ acc)] 1) (.gr 1 1 o) (aq [(1,qw ρ (acc++bH acc (dO x)))] 2):=by
 refine Tm.ind (p:=λx=>∀(acc:List Int) (len:Nat),x.ok->len=acc.length->acc.length+(dO x).length<=1099511627776->∃o,o=(acc++bH acc (dO x)).length /\
  aG Tryz.prog w0 206 [.gr 0 1 len,tm ρ x] (aq [(0,qw ρ acc)] 1) (.gr 1 1 o) (aq [(1,qw ρ (acc++bH acc (dO x)))] 2)) ?_ x
 intro G i n a P acc len hx hlen Q;obtain⟨dD,eO,M⟩:=hx.out;dsimp only at dD eO M;obtain⟨res,h⟩:∃res,res=acc++bH acc (dO ⟨G,i,n,a⟩):=⟨_,rfl⟩;obtain⟨o,oR⟩:∃o,o=res.length:=⟨_,rfl⟩;rw[<-h];refine⟨o,oR,?_⟩;have E:=IB (w0:=w0) (ρ:=ρ) ⟨G,i,n,a⟩;have R:=adV (w0:=w0) (ρ:=ρ) acc i (by omega);rw[oG]at E;dsimp only at E;rw[dO]at h Q;obtain⟨B,S⟩:∃B,B=acc.contains i:=⟨_,rfl⟩;rw[<-S]at R;obtain⟨b,s⟩:∃b,b=if G=2 then a else []:=⟨_,rfl⟩
 rw[<-s]at E;have hl:b.length<=1099511627776:=by
  rw[s];split
  ·omega
  ·simp
 have F:∀y ∈ b,y ∈ a:=by
  intro y N;rw[s]at N;split at N
  ·exact N
  ·cases N
 have O:(if G=2 then aY a else [])=aY b:=by rw[s];split<;>rfl
 refine sc 1 2 aiJ ?_;refine gq fJ ?_;by_cases T:G=1
 ·subst T;rw[if_pos rfl,bH,bH]at h;rw[if_pos rfl,bi_]at Q;rw[if_neg (by decide)]at s O;have U:aY b=[]:=by rw[s,aY]
  have Ql:(aY b).length=0:=by rw[U];rfl
  rw[<-S]at h;clear s O
  repeat' (first
   |refine bg fJ (ae.Eg rfl R ⟨bt _,.v,trivial⟩ .v ⟨aP.grow rfl hlen,.refl _,trivial⟩) (λ_=>?_) λ_=>?_
   |apply bK fJ E
   |exact absurd g (by decide)
   |refine cg fJ (λg=>?_) λg=>?_
   )
  ·rw[if_pos (by assumption)]at h;have t:res=acc++bH acc (aY b):=by rw[h,U,bH]
   refine ad.aK (σ:=Int × List Int × Nat) 3 4 [(3,0)] (λp=>[(0,.gr 3 1 p.2.2),(5,tl ρ b),(6,.v (.int .i64 p.1))]) [] (λp=>[(3,qw ρ p.2.1)])
    (λp=>∃k:Nat,p.1=k/\k<=b.length/\res=p.2.1++bH p.2.1 (aY (b.drop k))/\p.2.2=p.2.1.length/\p.2.1.length+(aY (b.drop k)).length<=1099511627776) (λp=>b.length - p.1.toNat) (0,acc,len)
    ⟨0,rfl,by simp,by simpa using t,by simp only;omega,by simp only[bw_];first|omega ⟩ rfl cz ?_
   rintro⟨j,d,u⟩ ⟨k,v,X,c,w,z⟩;simp only at v c w z;clear t h;refine gq fJ ?_;by_cases I:k < b.length
   ·obtain⟨y,q,A⟩:=aD I;rw[ja A,lL]at c;rw[ja A,af_]at z;obtain⟨J,C,D⟩:=P y (F y (bM q)) d u (M.mem y (F y (bM q))) w (by omega);have K:=mE (dO y) d;obtain⟨e,r⟩:∃e,e=d++bH d (dO y):=⟨_,rfl⟩;rw[<-bc_,<-r]at c;rw[<-r]at C D;have Y:e.length<=d.length+(dO y).length:=by rw[r,af_];omega
    repeat' (first
     |refine og fJ (ae.ind rfl rfl (cC (l:=b) v q) cD) ?_
     |(refine og fJ (ae.mY (m:=[(0,3)]) (to:=[(3,none),(5,some (qw ρ e))]) D rfl ⟨Rn.gr rfl rfl,Rn.pure (bQ _),trivial⟩ (Rb.gr rfl) rfl rfl ⟨⟨_,rfl,lj.pure kF⟩,trivial⟩ ⟨⟨1,_,rfl,rfl,me.pure kF⟩,trivial⟩ rfl (by repeat (first|exact kC rfl )) (.inr rfl)) ?_)
     |refine cg fJ (λg=>?_) λg=>?_
     |refine lg fJ λm L=>?_
     |refine ag fJ λ_ _=>?_
     |refine ad.ao ?_;refine gq fJ ?_
     |(refine fq ?_))
    all_goals first
     |exfalso;omega
     |(refine ad.az (σ:=Int × List Int × Nat) (_,e,J) [(3,5)] ?_ ?_ cz
       ·exact⟨k+1,by simp only;omega,by omega,c,C,by simp only;omega⟩
       ·simp only;omega)
   ·rw[ak_ (by omega),aY,bH,aB_]at c
    repeat' (first
     |refine cg fJ (λg=>?_) λg=>?_
     |refine lg fJ λm L=>?_
     |refine ad.ao ?_;refine gq fJ ?_
     |(refine fq ?_))
    all_goals first
     |exfalso;omega
     |skip
    subst c;obtain rfl:u=o:=by omega
    exact⟨[(1,3)],.jT rfl rfl,⟨.inl ⟨_,rfl,.same qP⟩,trivial⟩,rfl⟩
  ·rw[if_neg (by simp_all)]at h;refine ad.app (x:=i) (f:=aI) rfl rfl rfl hlen (λ_=>rfl) rfl rfl rfl rfl (by omega) λV W Z arB=>?_;refine gq fJ ?_
   repeat' (first
    |apply bK fJ E
    )
   have t:res=V++bH V (aY b):=by rw[h,Z,U,bH];simp[bH]
   refine ad.aK (σ:=Int × List Int × Nat) 3 4 [(3,2)] (λp=>[(0,.gr 3 1 p.2.2),(5,tl ρ b),(6,.v (.int .i64 p.1))]) [] (λp=>[(3,qw ρ p.2.1)])
    (λp=>∃k:Nat,p.1=k/\k<=b.length/\res=p.2.1++bH p.2.1 (aY (b.drop k))/\p.2.2=p.2.1.length/\p.2.1.length+(aY (b.drop k)).length<=1099511627776) (λp=>b.length - p.1.toNat) (0,V,W)
    ⟨0,rfl,by simp,by simpa using t,by simp only;omega,by simp only[bw_];first|(rw[Z];simp only[af_,bi_];omega)⟩ rfl cz ?_
   rintro⟨j,d,u⟩ ⟨k,v,X,c,w,z⟩;simp only at v c w z;clear t h;refine gq fJ ?_;by_cases I:k < b.length
   ·obtain⟨y,q,A⟩:=aD I;rw[ja A,lL]at c;rw[ja A,af_]at z;obtain⟨J,C,D⟩:=P y (F y (bM q)) d u (M.mem y (F y (bM q))) w (by omega);have K:=mE (dO y) d;obtain⟨e,r⟩:∃e,e=d++bH d (dO y):=⟨_,rfl⟩;rw[<-bc_,<-r]at c;rw[<-r]at C D;have Y:e.length<=d.length+(dO y).length:=by rw[r,af_];omega
    repeat' (first
     |refine og fJ (ae.ind rfl rfl (cC (l:=b) v q) cD) ?_
     |(refine og fJ (ae.mY (m:=[(0,3)]) (to:=[(3,none),(5,some (qw ρ e))]) D rfl ⟨Rn.gr rfl rfl,Rn.pure (bQ _),trivial⟩ (Rb.gr rfl) rfl rfl ⟨⟨_,rfl,lj.pure kF⟩,trivial⟩ ⟨⟨1,_,rfl,rfl,me.pure kF⟩,trivial⟩ rfl (by repeat (first|exact kC rfl )) (.inr rfl)) ?_)
     |refine cg fJ (λg=>?_) λg=>?_
     |refine lg fJ λm L=>?_
     |refine ag fJ λ_ _=>?_
     |refine ad.ao ?_;refine gq fJ ?_
     |(refine fq ?_))
    all_goals first
     |exfalso;omega
     |(refine ad.az (σ:=Int × List Int × Nat) (_,e,J) [(3,5)] ?_ ?_ cz
       ·exact⟨k+1,by simp only;omega,by omega,c,C,by simp only;omega⟩
       ·simp only;omega)
   ·rw[ak_ (by omega),aY,bH,aB_]at c
    repeat' (first
     |refine cg fJ (λg=>?_) λg=>?_
     |refine lg fJ λm L=>?_
     |refine ad.ao ?_;refine gq fJ ?_
     |(refine fq ?_))
    all_goals first
     |exfalso;omega
     |skip
    subst c;obtain rfl:u=o:=by omega
    exact⟨[(1,3)],.jT rfl rfl,⟨.inl ⟨_,rfl,.same qP⟩,trivial⟩,rfl⟩
 ·rw[if_neg T,O]at h Q;clear s O R S
  repeat' (first
   |apply bK fJ E
   |refine cg fJ (λg=>?_) λg=>?_
   )
  ·exact absurd (by assumption) T
  have t:res=acc++bH acc (aY b):=by exact h
  refine ad.aK (σ:=Int × List Int × Nat) 3 4 [(3,0)] (λp=>[(0,.gr 3 1 p.2.2),(5,tl ρ b),(6,.v (.int .i64 p.1))]) [] (λp=>[(3,qw ρ p.2.1)])
   (λp=>∃k:Nat,p.1=k/\k<=b.length/\res=p.2.1++bH p.2.1 (aY (b.drop k))/\p.2.2=p.2.1.length/\p.2.1.length+(aY (b.drop k)).length<=1099511627776) (λp=>b.length - p.1.toNat) (0,acc,len)
   ⟨0,rfl,by simp,by simpa using t,by simp only;omega,by simp only[bw_];first|omega ⟩ rfl cz ?_
  rintro⟨j,d,u⟩ ⟨k,v,X,c,w,z⟩;simp only at v c w z;clear t h;refine gq fJ ?_;by_cases I:k < b.length
  ·obtain⟨y,q,A⟩:=aD I;rw[ja A,lL]at c;rw[ja A,af_]at z;obtain⟨J,C,D⟩:=P y (F y (bM q)) d u (M.mem y (F y (bM q))) w (by omega);have K:=mE (dO y) d;obtain⟨e,r⟩:∃e,e=d++bH d (dO y):=⟨_,rfl⟩;rw[<-bc_,<-r]at c;rw[<-r]at C D;have Y:e.length<=d.length+(dO y).length:=by rw[r,af_];omega
   repeat' (first
    |refine og fJ (ae.ind rfl rfl (cC (l:=b) v q) cD) ?_
    |(refine og fJ (ae.mY (m:=[(0,3)]) (to:=[(3,none),(5,some (qw ρ e))]) D rfl ⟨Rn.gr rfl rfl,Rn.pure (bQ _),trivial⟩ (Rb.gr rfl) rfl rfl ⟨⟨_,rfl,lj.pure kF⟩,trivial⟩ ⟨⟨1,_,rfl,rfl,me.pure kF⟩,trivial⟩ rfl (by repeat (first|exact kC rfl )) (.inr rfl)) ?_)
    |refine cg fJ (λg=>?_) λg=>?_
    |refine lg fJ λm L=>?_
    |refine ag fJ λ_ _=>?_
    |refine ad.ao ?_;refine gq fJ ?_
    |(refine fq ?_))
   all_goals first
    |exfalso;omega
    |(refine ad.az (σ:=Int × List Int × Nat) (_,e,J) [(3,5)] ?_ ?_ cz
      ·exact⟨k+1,by simp only;omega,by omega,c,C,by simp only;omega⟩
      ·simp only;omega)
  ·rw[ak_ (by omega),aY,bH,aB_]at c
   repeat' (first
    |refine cg fJ (λg=>?_) λg=>?_
    |refine lg fJ λm L=>?_
    |refine ad.ao ?_;refine gq fJ ?_
    |(refine fq ?_))
   all_goals first
    |exfalso;omega
    |skip
   subst c;obtain rfl:u=o:=by omega
   exact⟨[(1,3)],.jT rfl rfl,⟨.inl ⟨_,rfl,.same qP⟩,trivial⟩,rfl⟩
theorem FO (l:List Tm) (B:l.length<=1099511627776) (s:dG l) (t:(aY l).length<=1099511627776):ah Tryz.prog w0 148 [tl ρ l] (aR ρ aI false (varsOf l)):=by
 obtain⟨res,d⟩:∃res,res=varsOf l:=⟨_,rfl⟩;rw[<-d];unfold varsOf at d;refine st aiK xm ((bt _)) ?_
 refine ad.aK (σ:=Int × List Int × Nat) 0 1 [] (λp=>[(0,tl ρ l),(3,.gr 0 1 p.2.2),(4,.v (.int .i64 p.1))]) [] (λp=>[(0,qw ρ p.2.1)])
  (λp=>∃k:Nat,p.1=k/\k<=l.length/\res=p.2.1++bH p.2.1 (aY (l.drop k))/\p.2.2=p.2.1.length/\p.2.1.length+(aY (l.drop k)).length<=1099511627776) (λp=>l.length - p.1.toNat) (0,[],0)
  ⟨0,rfl,by simp,by simpa using d,rfl,by simpa using t⟩ rfl cz ?_
 rintro⟨j,b,v⟩ ⟨k,h,C,a,e,i⟩;simp only at h a e i;clear d;refine gq xm ?_;by_cases w:k < l.length
 ·obtain⟨y,n,o⟩:=aD w;rw[ja o,lL]at a;rw[ja o,af_]at i;obtain⟨x,q,r⟩:=UE (w0:=w0) (ρ:=ρ) y b v (s.mem y (bM n)) e (by omega);have z:=mE (dO y) b;obtain⟨c,f⟩:∃c,c=b++bH b (dO y):=⟨_,rfl⟩;rw[<-bc_,<-f]at a;rw[<-f]at q r;have D:c.length<=b.length+(dO y).length:=by rw[f,af_];omega
  repeat' (first
   |refine og xm (ae.ind rfl rfl (cC (l:=l) h n) cD) ?_
   |(refine og xm (ae.mY (m:=[(0,0)]) (to:=[(0,none),(2,some (qw ρ c))]) r rfl ⟨Rn.gr rfl rfl,Rn.pure (bQ _),trivial⟩ (Rb.gr rfl) rfl rfl ⟨⟨_,rfl,lj.pure kF⟩,trivial⟩ ⟨⟨1,_,rfl,rfl,me.pure kF⟩,trivial⟩ rfl (by repeat (first|exact kC rfl )) (.inr rfl)) ?_)
   |refine cg xm (λg=>?_) λg=>?_
   |refine lg xm λm A=>?_
   |refine ag xm λ_ _=>?_
   |refine ad.ao ?_;refine gq xm ?_
   |(refine fq ?_))
  all_goals first
   |exfalso;omega
   |(refine ad.az (σ:=Int × List Int × Nat) (_,c,x) [(0,2)] ?_ ?_ cz
     ·exact⟨k+1,by simp only;omega,by omega,a,q,by simp only;omega⟩
     ·simp only;omega)
 ·rw[ak_ (by omega),aY,bH,aB_]at a
  repeat' (first
   |refine cg xm (λg=>?_) λg=>?_
   |refine lg xm λm A=>?_
   |refine ad.ao ?_;refine gq xm ?_
   |(refine fq ?_))
  all_goals first
   |exfalso;omega
   |skip
  subst a;exact aP.grow rfl e
theorem abO (x:Tm) (e:x.ok) (f:(dO x).length<=1099511627776):ah Tryz.prog w0 165 [tm ρ x] (aR ρ aI false (varsOf [x])):=by
 obtain⟨g,c,d⟩:=UE (w0:=w0) (ρ:=ρ) x [] 0 e rfl (by grind);obtain⟨res,b⟩:∃res,res=varsOf [x]:=⟨_,rfl⟩;rw[<-b];unfold varsOf at b;rw[aY,aY,aB_]at b;rw[aK_,<-b]at c d;obtain⟨k,i,n,a⟩:=x;refine st aiL aeE ((bt _)) ?_;refine ad.uC (Cv.abN (qw ρ [])) ?_;refine og aeE (ae.mY (m:=[(0,1)]) (to:=[(1,none),(3,some (qw ρ res))]) d rfl ⟨Rn.nil,Rn.pure (bQ (ρ:=ρ) ⟨k,i,n,a⟩),trivial⟩ (Rb.gr rfl) rfl rfl ⟨⟨_,rfl,lj.pure kF⟩,trivial⟩ ⟨⟨1,_,rfl,rfl,me.pure kF⟩,trivial⟩ rfl (by repeat (first|exact (λ_ _ h=>by grind)|refine rB ?_ rfl)) (.inr rfl)) ?_;refine fq ?_;exact aP.grow rfl c
theorem Si (x:Gl) (c:x.a.length<=1099511627776) (d:dG x.a) (e:(aY x.a).length<=1099511627776):ah Tryz.prog w0 153 [gl ρ x] (aR ρ aI false (varsOf x.a)):=by
 have b:=FO (w0:=w0) (ρ:=ρ) x.a c d e;obtain⟨o,n,a⟩:=x;dsimp only at b ⊢;obtain⟨R,f⟩:∃R,R=varsOf a:=⟨_,rfl⟩;rw[<-f]at b ⊢;refine st aiM aeF ((bt _)) ?_
 repeat' (first
  |apply bK aeF b
  |(refine fq ?_))
 exact aP.of_eq rfl
end
end
end Go.Proofs.YtbpabjmnhggajaaGreat
