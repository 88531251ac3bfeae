import Derived.Test.YtbpabjmnhggajaaGreatOr34
namespace Go.Proofs.YtbpabjmnhggajaaGreat
set_option linter.all false
set_option maxRecDepth 100000
open Go.RowKit
section
attribute [local irreducible] ah aG ae ad
def ang:FQ 50 Tryz.f50:=aF Tryz.func50 Tryz.call50
def iP:List Nat:=[3,5,10,7,8,9,6,4,1,34,38,46,50,58,64,72,77,86,0]
def QD (vs:List Int) (x:Int):Int:=cH (vs.contains x) 17
def M6 (vs:List Int) (x:Gl):Int:=aQ (QD vs) (varsOf x.a)
def SE (r:Rl):Int:=bj (aQ (M6 (varsOf (fC (r.aM++r.rem)))) r.guard) 0
def SF (r:Rl):Int:=bj (aQ Hv r.guard) (bj (aQ De r.body) (SE r))
def t_ (ds:List Dc) (r:Rl):Int:=bj (aQ (zZ ds) (r.aM++r.rem)) (bj (kG ds (r.guard++r.body)) (SF r))
structure JZ (r:Rl):Prop where
 h:r.aM.length+r.rem.length<=549755813888
 g:r.guard.length+r.body.length<=549755813888
 a:(fC (r.aM++r.rem)++mn (r.guard++r.body)).length<=549755813888
 k:dG (fC (r.aM++r.rem)++mn (r.guard++r.body))
 v:(aY (fC (r.aM++r.rem)++mn (r.guard++r.body))).length<=1099511627776
theorem M7:∀{a b:List Tm},dG (a++b)->dG a
 |[],_,_=>trivial
 |_::_,_,h=>⟨h.1,M7 h.2⟩
theorem Bj (a b:List Tm):aY (a++b)=aY a++aY b:=by
 induction a with
 |nil=>rfl
 |cons x a c=>rw[aR_,aY,aY,c,bc_]
section
variable {w0:World}{ρ:Hd}
theorem UZ (r:Rl) (h:JZ r):ah Tryz.prog w0 152 [rl ρ r] (aR ρ aI false (varsOf (fC (r.aM++r.rem))))/\(varsOf (fC (r.aM++r.rem))).length<=1099511627776:=by
 have a:=h.a;have b:=h.v;rw[af_]at a;rw[Bj,af_]at b;exact⟨SB r h.h (by omega) (M7 h.k) (by omega),ay_ (mE _ _) (by omega)⟩
set_option maxHeartbeats 4000000 in
theorem U0 (ds:List Dc) (r:Rl) (hd:ds.length<=1099511627776) (A:z_ r) (H:JZ r):ah Tryz.prog w0 91 [ft ρ ds,rl ρ r] (iv (t_ ds r)):=by
 have Q:=En (w0:=w0) (ρ:=ρ) r H.h;have R:=IZ (w0:=w0) (ρ:=ρ) r H.g;obtain⟨o,p⟩:=UZ (w0:=w0) (ρ:=ρ) r H;have uO:(r.aM++r.rem).length<=549755813888:=by rw[af_];exact H.h
 have M3:(r.guard++r.body).length<=549755813888:=by rw[af_];exact H.g
 have S:∀x ∈ r.aM++r.rem,nC x.a/\x.n.size<=1099511627776:=λx i=>by
  rcases az_.1 i with h|h
  ·exact A.kx x h
  ·exact A.rx x h
 have s:=ab2 (w0:=w0) (ρ:=ρ) ds (r.guard++r.body) hd (by omega) (λx i=>by
  rcases az_.1 i with h|h
  ·exact (A.gx x h).1.len
  ·exact (A.bx x h).1.len)
 have yG:=fQ (ρ:=ρ) r;have K:=A.gx;have E6:=A.g;have UN:=A.b;obtain⟨E,a⟩:∃E,E=t_ ds r:=⟨_,rfl⟩;rw[<-a];unfold t_ SF SE at a;clear H A;obtain⟨n,I,J,g,b,v⟩:=r;dsimp only at a Q R o p uO M3 S s K E6 UN;obtain⟨L,hL⟩:∃L,L=I++J:=⟨_,rfl⟩;rw[<-hL]at a Q o p uO S;obtain⟨M,hM⟩:∃M,M=g++b:=⟨_,rfl⟩;rw[<-hM]at a R M3 s;obtain⟨W,hW⟩:∃W,W=varsOf (fC L):=⟨_,rfl⟩;rw[<-hW]at a o p;obtain⟨U,B2⟩:∃F,F=kG ds M:=⟨_,rfl⟩;rw[<-B2]at a s;clear hL hM hW B2;obtain⟨T1,V⟩:∃T,T=bj U (bj (aQ Hv g) (bj (aQ De b) (bj (aQ (M6 W) g) 0))):=⟨_,rfl⟩;rw[<-V]at a;refine st anf eJ .v ?_
 repeat' (first
  |apply bK eJ Q
  )
 refine ad.aK (σ:=Int) 1 1 [] (λq=>[(0,ft ρ ds),(3,.pt 0 6 0 0),(5,cL ρ L),(6,.v (.int .i64 q))]) [] (λ_=>[(0,.arr 6 [iE ρ ⟨n,I,J,g,b,v⟩] 0 true)]) (λq=>∃k:Nat,q=k/\k<=L.length/\E=bj (aQ (zZ ds) (L.drop k)) T1) (λq=>L.length - q.toNat) 0 ⟨0,rfl,by simp,by grind⟩ rfl cz ?_;rintro q ⟨k,X,hk,a⟩;refine gq eJ ?_;by_cases Y:k < L.length
 ·obtain⟨x,i,D⟩:=aD Y;rw[D,aQ,cB]at a;have pY:=(S x (aa_ i)).1.len;obtain⟨F,c⟩:∃F,F=zZ ds x:=⟨_,rfl⟩;rw[<-c]at a;have N:=JY (w0:=w0) (ρ:=ρ) ds x.n x.a.length hd;rw[show oS ds x.n x.a.length=F from c.symm]at N;clear c;obtain⟨Z,O⟩:=x;dsimp only at N pY;obtain⟨q3,B1⟩:∃q:Int,q=O.length:=⟨_,rfl⟩;rw[<-B1]at N;refine ad.int rfl (ae.len rfl) λm0 xy=>?_;rw[au]at xy;refine gq eJ ?_
  repeat' (first
   |refine og eJ (ae.ind rfl rfl (aB (l:=L) X i) (aA λ_=>rfl)) ?_
   |refine ad.int rfl (ae.len rfl) λm w=>?_;rw[au]at w;obtain rfl:m=q3:=(by omega);refine gq eJ ?_
   |(refine ig eJ (pl N) λd nD=>?_)
   |refine cg eJ (λf=>?_) λf=>?_
   |refine ag eJ λ_ _=>?_
   |refine ad.ao ?_;refine gq eJ ?_
   |refine ad.bh ?_;refine gq eJ ?_
   |(refine fq ?_))
  all_goals first
   |exfalso;omega
   |(rw[bD (show F=0 by omega)]at a
     refine ad.az (σ:=Int) _ [] ?_ ?_ cz<;>first|omega|exact⟨k+1,by omega,by omega,a⟩)
   |rw[dx (show ¬ F=0 by omega)]at a;refine dP ?_;omega
 rw[ak_ (by omega),aQ,bD rfl,V]at a;clear V;refine ad.int rfl (ae.len rfl) λm0 xy=>?_;rw[au]at xy;refine gq eJ ?_
 repeat' (first
  |apply bK eJ R
  |(refine ig eJ (pl s) λd nD=>?_)
  |refine cg eJ (λf=>?_) λf=>?_
  |refine ad.ao ?_;refine gq eJ ?_
  |(refine fq ?_))
 all_goals first
  |exfalso;omega
  |rw[dx (show ¬ U=0 by omega)]at a;refine dP ?_;omega
  |skip
 rw[bD (show U=0 by omega)]at a;obtain⟨T2,B4⟩:∃T,T=bj (aQ De b) (bj (aQ (M6 W) g) 0):=⟨_,rfl⟩;rw[<-B4]at a;refine ad.aK (σ:=Int) 1 1 [] (λq=>[(3,.pt 0 6 0 0),(9,.v (.int .i64 q))]) [] (λ_=>[(0,.arr 6 [iE ρ ⟨n,I,J,g,b,v⟩] 0 true)]) (λq=>∃k:Nat,q=k/\k<=g.length/\E=bj (aQ Hv (g.drop k)) T2) (λq=>g.length - q.toNat) 0 ⟨0,rfl,by simp,by grind⟩ rfl cz ?_;rintro q ⟨k,X,hk,a⟩;refine gq eJ ?_;by_cases Y:k < g.length
 ·obtain⟨x,i,D⟩:=aD Y;rw[D,aQ,cB]at a;have G:=UY (w0:=w0) x.op;obtain⟨B,j⟩:∃B,B=nN x.op:=⟨_,rfl⟩;obtain⟨F,c⟩:∃F,F=Hv x:=⟨_,rfl⟩;rw[<-c]at a;rw[Hv,<-j]at c;rw[<-j]at G;clear j;obtain⟨P,Z,O⟩:=x;dsimp only at G c
  repeat' (first
   |refine og eJ (ae.ind rfl rfl (aB (l:=g) X i) (aA λ_=>rfl)) ?_
   |refine bg eJ (pl G) (λ_=>?_) λ_=>?_
   |refine cg eJ (λf=>?_) λf=>?_
   |refine lg eJ λm w=>?_
   |refine ag eJ λ_ _=>?_
   |refine ad.ao ?_;refine gq eJ ?_
   |refine ad.bh ?_;refine gq eJ ?_
   |(refine fq ?_))
  all_goals first
   |exfalso;omega
   |(have e:F=0:=by (first|(rw[c,show B=true by grind];rfl)|(rw[c,decide_eq_true (show P=1 by omega),cK_];rfl))
     rw[bD e]at a;refine ad.az (σ:=Int) _ [] ?_ ?_ cz<;>first|omega|exact⟨k+1,by omega,by omega,a⟩)
   |(have e:F=10:=by (rw[c,show B=false by grind,decide_eq_false (show ¬ P=1 by omega)];rfl)
     rw[dx (by omega)]at a;refine dP ?_;omega)
 rw[ak_ (by omega),aQ,bD rfl,B4]at a;clear B4
 repeat' (first
  |refine cg eJ (λf=>?_) λf=>?_
  |refine lg eJ λm w=>?_
  |refine ad.ao ?_;refine gq eJ ?_
  )
 all_goals first
  |exfalso;omega
  |skip
 obtain⟨T3,M_⟩:∃T,T=bj (aQ (M6 W) g) 0:=⟨_,rfl⟩;rw[<-M_]at a;refine ad.aK (σ:=Int) 1 1 [] (λq=>[(3,.pt 0 6 0 0),(10,.v (.int .i64 q))]) [] (λ_=>[(0,.arr 6 [iE ρ ⟨n,I,J,g,b,v⟩] 0 true)]) (λq=>∃k:Nat,q=k/\k<=b.length/\E=bj (aQ De (b.drop k)) T3) (λq=>b.length - q.toNat) 0 ⟨0,rfl,by simp,by grind⟩ rfl cz ?_;rintro q2 ⟨k2,iW,fe,a⟩;refine gq eJ ?_;by_cases oA:k2 < b.length
 ·obtain⟨x,i,D⟩:=aD oA;rw[D,aQ,cB]at a;have G:=UY (w0:=w0) x.op;obtain⟨B,j⟩:∃B,B=nN x.op:=⟨_,rfl⟩;obtain⟨F,c⟩:∃F,F=De x:=⟨_,rfl⟩;rw[<-c]at a;rw[De,<-j]at c;rw[<-j]at G;clear j;obtain⟨P,Z,O⟩:=x;dsimp only at G c
  repeat' (first
   |refine og eJ (ae.ind rfl rfl (aB (l:=b) iW i) (aA λ_=>rfl)) ?_
   |refine bg eJ (pl G) (λ_=>?_) λ_=>?_
   |refine cg eJ (λf=>?_) λf=>?_
   |refine lg eJ λm w=>?_
   |refine ag eJ λ_ _=>?_
   |refine ad.ao ?_;refine gq eJ ?_
   |refine ad.bh ?_;refine gq eJ ?_
   |(refine fq ?_))
  all_goals first
   |exfalso;omega
   |(have e:F=0:=by (rw[c,show B=false by grind];rfl)
     rw[bD e]at a;refine ad.az (σ:=Int) _ [] ?_ ?_ cz<;>first|omega|exact⟨k2+1,by omega,by omega,a⟩)
   |(have e:F=10:=by (rw[c,show B=true by grind];rfl)
     rw[dx (by omega)]at a;refine dP ?_;omega)
 rw[ak_ (by omega),aQ,bD rfl,M_]at a;clear M_
 repeat' (first
  |apply bK eJ o
  |refine cg eJ (λf=>?_) λf=>?_
  |refine lg eJ λm w=>?_
  |refine ad.ao ?_;refine gq eJ ?_
  )
 all_goals first
  |exfalso;omega
  |skip
 refine ad.aK (σ:=Int) 1 1 [] (λq=>[(3,.pt 0 6 0 0),(11,aR ρ aI false W),(12,.v (.int .i64 q))]) [] (λ_=>[(0,.arr 6 [iE ρ ⟨n,I,J,g,b,v⟩] 0 true)]) (λq=>∃k:Nat,q=k/\k<=g.length/\E=bj (aQ (M6 W) (g.drop k)) 0) (λq=>g.length - q.toNat) 0 ⟨0,rfl,by simp,by grind⟩ rfl cz ?_;rintro q3 ⟨k3,de,vM,a⟩;refine gq eJ ?_;by_cases y9:k3 < g.length
 ·obtain⟨x,i,D⟩:=aD y9;have z:=K x (aa_ i);have hV:=Si (w0:=w0) (ρ:=ρ) x z.1.len z.1.1 (Qr z.1);have Ql:=UK z.1;rw[D,aQ,cB,M6]at a;obtain⟨C,Na⟩:∃C,C=varsOf x.a:=⟨_,rfl⟩;rw[<-Na]at a hV Ql;have vP:=lO (ρ:=ρ) x;obtain⟨P,Z,O⟩:=x;obtain⟨T4,QE⟩:∃T,T=bj (aQ (M6 W) (g.drop (k3+1))) 0:=⟨_,rfl⟩;rw[<-QE]at a
  repeat' (first
   |refine og eJ (ae.ind rfl rfl (aB (l:=g) de i) (aA λ_=>rfl)) ?_
   |apply bK eJ hV
   |refine cg eJ (λf=>?_) λf=>?_
   |refine lg eJ λm w=>?_
   |refine ad.ao ?_;refine gq eJ ?_
   |(refine fq ?_))
  all_goals first
   |exfalso;omega
   |skip
  refine ad.aK (σ:=Int) 1 1 [] (λt=>[(3,.pt 0 6 0 0),(11,aR ρ aI false W),(12,.v (.int .i64 q3)),(13,aR ρ aI false C),(14,.v (.int .i64 t))]) [] (λ_=>[(0,.arr 6 [iE ρ ⟨n,I,J,g,b,v⟩] 0 true)]) (λt=>∃k:Nat,t=k/\k<=C.length/\E=bj (aQ (QD W) (C.drop k)) T4) (λt=>C.length - t.toNat) 0 ⟨0,rfl,by simp,by grind⟩ rfl cz ?_;rintro t ⟨k4,hi4,xA,a⟩;refine gq eJ ?_;by_cases anh:k4 < C.length
  ·obtain⟨y,hy,eN⟩:=aD anh;rw[eN,aQ,cB]at a;have hI:=ane (w0:=w0) (ρ:=ρ) W y p;obtain⟨B,j⟩:∃B,B=W.contains y:=⟨_,rfl⟩;obtain⟨F,c⟩:∃F,F=QD W y:=⟨_,rfl⟩;rw[<-c]at a;rw[QD,<-j]at c;rw[<-j]at hI;clear j
   repeat' (first
    |refine og eJ (ae.ind rfl rfl (aB (l:=C) hi4 hy) (aA λ_=>rfl)) ?_
    |refine bg eJ (pl hI) (λ_=>?_) λ_=>?_
    |refine cg eJ (λf=>?_) λf=>?_
    |refine lg eJ λm w=>?_
    |refine ag eJ λ_ _=>?_
    |refine ad.ao ?_;refine gq eJ ?_
    |refine ad.bh ?_;refine gq eJ ?_
    |(refine fq ?_))
   all_goals first
    |exfalso;omega
    |(have e:F=0:=by (rw[c,show B=true by grind];rfl)
      rw[bD e]at a;refine ad.az (σ:=Int) _ [] ?_ ?_ cz<;>first|omega|exact⟨k4+1,by omega,by omega,a⟩)
    |(have e:F=17:=by (rw[c,show B=false by grind];rfl)
      rw[dx (by omega)]at a;refine dP ?_;omega)
  rw[ak_ (by omega),aQ,bD rfl,QE]at a
  repeat' (first
   |refine cg eJ (λf=>?_) λf=>?_
   |refine lg eJ λm w=>?_
   |refine ag eJ λ_ _=>?_
   |refine ad.ao ?_;refine gq eJ ?_
   )
  all_goals first
   |exfalso;omega
   |(refine ad.az (σ:=Int) _ [] ?_ ?_ cz<;>first|omega|exact⟨k3+1,by omega,by omega,a⟩)
 rw[ak_ (by omega),aQ,bD rfl]at a
 repeat' (first
  |refine cg eJ (λf=>?_) λf=>?_
  |refine lg eJ λm w=>?_
  |refine ad.ao ?_;refine gq eJ ?_
  |(refine fq ?_))
 all_goals first
  |exfalso;omega
  |refine dP ?_;omega
end
end
section
attribute [local irreducible] ah aG ae ad
def Bl:List Int->Nat->Int
 |[],_=>0
 |v::l,k=>bj (cH (decide (v=k)) 2) (Bl l (k+1))
def xD (r:Rl):List Int:=varsOf (fC (r.aM++r.rem)++mn (r.guard++r.body))
def yH (ds:List Dc) (r:Rl):Int:=bj (cH (z8 r) 6) (bj (aQ vO (r.aM++r.rem)) (bj (aQ uN (r.guard++r.body)) (bj (Bl (xD r) 0) (bj (cH (decide (r.vars=(xD r).length)) 2) (bj (cH (r.n.toList == (⟨#[]⟩:ByteArray).toList || mC r.n) 7) (t_ ds r))))))
section
variable {w0:World}{ρ:Hd}
set_option maxHeartbeats 4000000 in
theorem ab3 (ds:List Dc) (r:Rl) (hd:ds.length<=1099511627776) (j:z_ r) (c:JZ r):ah Tryz.prog w0 50 [ft ρ ds,rl ρ r] (iv (yH ds r)):=by
 have G:=En (w0:=w0) (ρ:=ρ) r c.h;have H:=IZ (w0:=w0) (ρ:=ρ) r c.g;have I:=SC (w0:=w0) (ρ:=ρ) r c.h c.g c.a c.k c.v;have J:(xD r).length<=1099511627776:=ay_ (mE _ _) c.v;have W:=U0 (w0:=w0) (ρ:=ρ) ds r hd j c;have K:=AQ (w0:=w0) r.n j.n;have X:(r.aM++r.rem).length<=549755813888:=by rw[af_];exact c.h
 have Y:(r.guard++r.body).length<=549755813888:=by rw[af_];exact c.g
 have N:∀x ∈ r.aM++r.rem,nC x.a/\x.n.size<=1099511627776:=λx i=>by
  rcases az_.1 i with h|h
  ·exact j.kx x h
  ·exact j.rx x h
 have t:∀x ∈ r.guard++r.body,JP x:=λx i=>by
  rcases az_.1 i with h|h
  ·exact j.gx x h
  ·exact j.bx x h
 have yG:=fQ (ρ:=ρ) r;have E6:=j.g;have UN:=j.b;obtain⟨E,a⟩:∃E,E=yH ds r:=⟨_,rfl⟩;rw[<-a];unfold yH at a;rw[<-xD]at I;obtain⟨d,Z⟩:∃d,d=xD r:=⟨_,rfl⟩;rw[<-Z]at I J a;obtain⟨ME,y⟩:∃e,e=t_ ds r:=⟨_,rfl⟩;rw[<-y]at W a;clear c j Z y;obtain⟨n,o,p,g,b,v⟩:=r;dsimp only at a G H X Y N t E6 UN K;have O:z8 ⟨n,o,p,g,b,v⟩=(decide (0 < o.length+p.length) && decide (o.length+p.length<=4) && decide (g.length<=12) && decide (b.length<=12)):=rfl;have P:(o++p).length=o.length+p.length:=af_;obtain⟨L,hL⟩:∃L,L=o++p:=⟨_,rfl⟩;rw[<-hL]at a G X N P;obtain⟨M,hM⟩:∃M,M=g++b:=⟨_,rfl⟩;rw[<-hM]at a H Y t;clear hL hM;obtain⟨z,xB⟩:∃z,z=mC n:=⟨_,rfl⟩;rw[<-xB]at a K;obtain⟨ne,Q⟩:∃ne,ne=(n.toList == (⟨#[]⟩:ByteArray).toList):=⟨_,rfl⟩;rw[<-Q]at a;obtain⟨T3,R⟩:∃T,T=bj (cH (ne || z) 7) ME:=⟨_,rfl⟩;obtain⟨T2,S⟩:∃T,T=bj (Bl d 0) (bj (cH (decide (v=d.length)) 2) T3):=⟨_,rfl⟩;obtain⟨T1,U⟩:∃T,T=bj (aQ uN M) T2:=⟨_,rfl⟩;rw[<-R,<-S,<-U]at a;refine st ang iP .v ?_
 repeat' (first
  |apply bK iP G
  |apply bK iP H
  |refine cg iP (λf=>?_) λf=>?_
  |refine lg iP λm w=>?_
  |(refine fq ?_))
 all_goals first
  |rw[dx (by grind[cH])]at a;rw[a,O];refine dP ?_;simp[cH];omega
  |skip
 rw[bD (by rw[O];simp[cH];omega)]at a;clear O;refine ad.aK (σ:=Int) 1 1 [] (λq=>[(0,ft ρ ds),(3,.pt 0 6 0 0),(5,cL ρ L),(6,cE ρ M),(7,.v (.int .i64 q))]) [] (λ_=>[(0,.arr 6 [iE ρ ⟨n,o,p,g,b,v⟩] 0 true)]) (λq=>∃k:Nat,q=k/\k<=L.length/\E=bj (aQ vO (L.drop k)) T1) (λq=>L.length - q.toNat) 0 ⟨0,rfl,by simp,by simpa using a⟩ rfl cz ?_;rintro q ⟨k,hi,hk,a⟩;refine gq iP ?_;by_cases aw:k < L.length
 ·obtain⟨x,i,C⟩:=aD aw;rw[C,aQ,cB]at a;obtain⟨pj,uM⟩:=N x (aa_ i);have D:=FA (w0:=w0) (ρ:=ρ) x pj uM;obtain⟨B,u⟩:∃B,B=fH x:=⟨_,rfl⟩;obtain⟨F,s⟩:∃F,F=vO x:=⟨_,rfl⟩;rw[<-s]at a;rw[vO,<-u]at s;rw[<-u]at D;clear u;obtain⟨xn,xa⟩:=x
  repeat' (first
   |refine og iP (ae.ind rfl rfl (aB (l:=L) hi i) (aA λ_=>rfl)) ?_
   |refine bg iP (pl D) (λ_=>?_) λ_=>?_
   |refine cg iP (λf=>?_) λf=>?_
   |refine lg iP λm w=>?_
   |refine ag iP λ_ _=>?_
   |refine ad.ao ?_;refine gq iP ?_
   |refine ad.bh ?_;refine gq iP ?_
   |(refine fq ?_))
  all_goals first
   |exfalso;omega
   |(have e:F=0:=by (rw[s,show B=true by assumption];rfl)
     rw[bD e]at a;refine ad.az (σ:=Int) _ [] ?_ ?_ cz<;>first|omega|exact⟨k+1,by omega,by omega,a⟩)
   |(have e:F=2:=by (rw[s,show B=false by grind];rfl)
     rw[dx (by omega)]at a;refine dP ?_;omega)
 rw[ak_ (by omega),aQ,bD rfl,U]at a;clear U
 repeat' (first
  |refine cg iP (λf=>?_) λf=>?_
  |refine lg iP λm w=>?_
  |refine ad.ao ?_;refine gq iP ?_
  )
 all_goals first
  |exfalso;omega
  |skip
 refine ad.aK (σ:=Int) 1 1 [] (λq=>[(0,ft ρ ds),(3,.pt 0 6 0 0),(6,cE ρ M),(8,.v (.int .i64 q))]) [] (λ_=>[(0,.arr 6 [iE ρ ⟨n,o,p,g,b,v⟩] 0 true)]) (λq=>∃k:Nat,q=k/\k<=M.length/\E=bj (aQ uN (M.drop k)) T2) (λq=>M.length - q.toNat) 0 ⟨0,rfl,by simp,by simpa using a⟩ rfl cz ?_;rintro q2 ⟨k2,iW,fe,a⟩;refine gq iP ?_;by_cases oA:k2 < M.length
 ·obtain⟨x,i,C⟩:=aD oA;rw[C,aQ,cB]at a;have ox:=t x (aa_ i);have D:=AS (w0:=w0) (ρ:=ρ) x ox.1 ox.2;obtain⟨B,u⟩:∃B,B=dE x:=⟨_,rfl⟩;obtain⟨F,s⟩:∃F,F=uN x:=⟨_,rfl⟩;rw[<-s]at a;rw[uN,<-u]at s;rw[<-u]at D;clear u;have vP:=lO (ρ:=ρ) x;obtain⟨xo,xn,xa⟩:=x
  repeat' (first
   |refine og iP (ae.ind rfl rfl (aB (l:=M) iW i) (aA λ_=>rfl)) ?_
   |refine bg iP (pl D) (λ_=>?_) λ_=>?_
   |refine cg iP (λf=>?_) λf=>?_
   |refine lg iP λm w=>?_
   |refine ag iP λ_ _=>?_
   |refine ad.ao ?_;refine gq iP ?_
   |refine ad.bh ?_;refine gq iP ?_
   |(refine fq ?_))
  all_goals first
   |exfalso;omega
   |(have e:F=0:=by (rw[s,show B=true by assumption];rfl)
     rw[bD e]at a;refine ad.az (σ:=Int) _ [] ?_ ?_ cz<;>first|omega|exact⟨k2+1,by omega,by omega,a⟩)
   |(have e:F=2:=by (rw[s,show B=false by grind];rfl)
     rw[dx (by omega)]at a;refine dP ?_;omega)
 rw[ak_ (by omega),aQ,bD rfl,S]at a;clear S
 repeat' (first
  |apply bK iP I
  |refine cg iP (λf=>?_) λf=>?_
  |refine lg iP λm w=>?_
  |refine ad.ao ?_;refine gq iP ?_
  )
 all_goals first
  |exfalso;omega
  |skip
 obtain⟨T4,V⟩:∃T,T=bj (cH (decide (v=d.length)) 2) T3:=⟨_,rfl⟩;rw[<-V]at a;refine ad.aK (σ:=Int) 1 1 [] (λq=>[(0,ft ρ ds),(3,.pt 0 6 0 0),(9,aR ρ aI false d),(10,.v (.int .i64 q))]) [] (λ_=>[(0,.arr 6 [iE ρ ⟨n,o,p,g,b,v⟩] 0 true)]) (λq=>∃k:Nat,q=k/\k<=d.length/\E=bj (Bl (d.drop k) k) T4) (λq=>d.length - q.toNat) 0 ⟨0,rfl,by simp,by simpa using a⟩ rfl cz ?_;rintro q3 ⟨k3,de,vM,a⟩;refine gq iP ?_;by_cases y9:k3 < d.length
 ·obtain⟨x,i,C⟩:=aD y9;rw[C,Bl,cB]at a
  repeat' (first
   |refine og iP (ae.ind rfl rfl (aB (l:=d) de i) (aA λ_=>rfl)) ?_
   |refine cg iP (λf=>?_) λf=>?_
   |refine lg iP λm w=>?_
   |refine ag iP λ_ _=>?_
   |refine ad.ao ?_;refine gq iP ?_
   |refine ad.bh ?_;refine gq iP ?_
   |(refine fq ?_))
  all_goals first
   |exfalso;omega
   |(rw[decide_eq_true (show x=k3 by omega),show cH true 2=0 from rfl,bD rfl]at a
     refine ad.az (σ:=Int) _ [] ?_ ?_ cz<;>first|omega|exact⟨k3+1,by omega,by omega,a⟩)
   |rw[decide_eq_false (show ¬ x=k3 by omega),show cH false 2=2 from rfl,dx (by decide)]at a;refine dP ?_;omega
 rw[ak_ (by omega),Bl,bD rfl,V,R]at a;clear V R
 repeat' (first
  |refine ad.bif (e:=(n.toList != (⟨#[]⟩:ByteArray).toList)) rfl (ae.bit rfl) (λc=>?_) (λc=>?_)<;>refine gq iP ?_
  |refine bg iP (pl K) (λ_=>?_) λ_=>?_
  |apply bK iP W
  |refine cg iP (λf=>?_) λf=>?_
  |refine lg iP λm w=>?_
  |refine ad.ao ?_;refine gq iP ?_
  |(refine fq ?_))
 all_goals first
  |exfalso;omega
  |rw[decide_eq_false (show ¬ v=d.length by omega),show cH false 2=2 from rfl,dx (by decide)]at a;refine dP ?_;omega
  |skip
 all_goals rw[decide_eq_true (show v=d.length by omega),show cH true 2=0 from rfl,bD rfl]at a
 all_goals first
  |rw[show z=true by assumption,cK_,show cH true 7=0 from rfl,bD rfl]at a;rw[a];exact aP.of_eq rfl
  |rw[show z=false by assumption,show ne=false by (rw[Q];simpa using c)]at a;rw[a];exact aP.of_eq rfl
  |rw[show ne=true by (rw[Q];simpa using c),cA_,show cH true 7=0 from rfl,bD rfl]at a;rw[a];exact aP.of_eq rfl
end
end
end Go.Proofs.YtbpabjmnhggajaaGreat
