import Derived.Test.YtbpabjmnhggajaaGreatOr33
namespace Go.Proofs.YtbpabjmnhggajaaGreat
set_option linter.all false
set_option maxRecDepth 100000
open Go.RowKit
section
attribute [local irreducible] ah aG ae ad
def M1 (ρ:Hd) (acc:List Tm):Ob:=.arr 4 (ρ.h (List.map iN) acc) 0 false
def fC (l:List At):List Tm:=l.flatMap (·.a)
def mn (l:List Gl):List Tm:=l.flatMap (·.a)
section
variable {w0:World}{ρ:Hd}
theorem qT (x:Tm):(iN x).all dh=true:=by rw[pM (ρ:=.plain)];rfl
theorem abk {B sz fz:Nat}{s:List Tm}{ex:Bool}:h_ B (.arr sz (ρ.h (List.map iN) s) fz ex):=jS λx _ a b=>wO x a b
theorem SB (r:Rl) (h:r.aM.length+r.rem.length<=549755813888) (C:(fC (r.aM++r.rem)).length<=549755813888) (d:dG (fC (r.aM++r.rem))) (s:(aY (fC (r.aM++r.rem))).length<=1099511627776) :
  ah Tryz.prog w0 152 [rl ρ r] (aR ρ aI false (varsOf (fC (r.aM++r.rem)))):=by
 have u:=En (w0:=w0) (ρ:=ρ) r h;have e:=FO (w0:=w0) (ρ:=ρ) (fC (r.aM++r.rem)) (by omega) d s;have M:=fQ (ρ:=ρ) r;have D:(r.aM++r.rem).length<=549755813888:=by grind
 obtain⟨A,j⟩:∃A,A=fC (r.aM++r.rem):=⟨_,rfl⟩;rw[<-j]at e C ⊢;clear d s;obtain⟨L,w⟩:∃L,L=r.aM++r.rem:=⟨_,rfl⟩;rw[<-w]at j u D;clear w h;obtain⟨V,y⟩:∃V,V=varsOf A:=⟨_,rfl⟩;rw[<-y]at e ⊢;clear y;obtain⟨n,N,O,g,b,v⟩:=r;refine st aiU tX ((bt _)) ?_
 repeat' (first
  |apply bK tX u
  )
 refine ad.aK (σ:=Int × List Tm × Nat) 1 2 [] (λp=>[(3,.gr 1 4 p.2.2),(4,cL ρ L),(5,.v (.int .i64 p.1))]) [] (λp=>[(1,M1 ρ p.2.1)])
  (λp=>∃k:Nat,p.1=k/\k<=L.length/\A=p.2.1++fC (L.drop k)/\p.2.2=p.2.1.length) (λp=>L.length - p.1.toNat) (0,[],0) ⟨0,rfl,by simp,by grind,rfl⟩ rfl cz ?_
 rintro⟨i,o,len⟩ ⟨k,z,d,a,q⟩;simp only at z a q;clear j;refine gq tX ?_;by_cases F:k < L.length
 ·obtain⟨x,G,H⟩:=aD F;rw[H,fC,bm_,<-fC]at a;have I:o.length+x.a.length<=549755813888:=by grind
  obtain⟨P,Q⟩:=x;dsimp only at a I
  repeat' (first
   |refine og tX (ae.ind rfl rfl (aB (l:=L) z G) (aA λ_=>rfl)) ?_
   |(refine ad.qm (f:=iN) rfl rfl rfl q (λ_=>rfl) rfl ov qT (by omega) (λJ K R S=>?_);refine gq tX ?_)
   |refine cg tX (λc=>?_) λc=>?_
   |refine lg tX λm B=>?_
   |refine ag tX λ_ _=>?_
   |refine ad.ao ?_;refine gq tX ?_
   )
  all_goals first
   |exfalso;omega
   |(refine ad.az (σ:=Int × List Tm × Nat) (_,J,K) [(1,2)] ?_ ?_ cz
     ·grind
     ·simp only;omega)
 rw[ak_ (by omega),fC,bD_,aB_]at a;subst a;refine ad.int rfl (ae.len rfl) λm B=>?_;rw[au]at B;refine gq tX ?_;refine ad.bif rfl (ae.bit rfl) (λc=>?_) (λc=>?_)<;>(try simp only[decide_eq_true_eq,decide_eq_false_iff_not]at c)
 ·grind
 refine gq tX ?_;refine ad.ao ?_;refine gq tX ?_;refine ad.uC (Cv.freeze (t:=21) rfl rfl (.inl rfl) (q.trans (au (ρ:=ρ) (f:=iN)).symm) (ax_ _)) ?_;apply bK tX e;refine fq ?_;exact aP.of_eq rfl
end
end
section
attribute [local irreducible] ah aG ae ad
def aiV:FQ 149 Tryz.f149:=aF Tryz.func149 Tryz.call149
def qU:List Nat:=[8,0,1,6,12,21,2,25,7]
def aiW:FQ 150 Tryz.f150:=aF Tryz.func150 Tryz.call150
def tY:List Nat:=[5,1,6,4,10,18,0,33]
def aiX:FQ 151 Tryz.f151:=aF Tryz.func151 Tryz.call151
def afe:List Nat:=[0,2]
def aiY:FQ 154 Tryz.f154:=aF Tryz.func154 Tryz.call154
def xC:List Nat:=[5,0,4,9,1,17]
section
variable {w0:World}{ρ:Hd}
theorem SC (r:Rl) (h:r.aM.length+r.rem.length<=549755813888) (H:r.guard.length+r.body.length<=549755813888) (w:(fC (r.aM++r.rem)++mn (r.guard++r.body)).length<=549755813888) (s:dG (fC (r.aM++r.rem)++mn (r.guard++r.body))) (I:(aY (fC (r.aM++r.rem)++mn (r.guard++r.body))).length<=1099511627776) :
  ah Tryz.prog w0 90 [rl ρ r] (aR ρ aI false (varsOf (fC (r.aM++r.rem)++mn (r.guard++r.body)))):=by
 have J:=En (w0:=w0) (ρ:=ρ) r h;have K:=IZ (w0:=w0) (ρ:=ρ) r H;have a:=FO (w0:=w0) (ρ:=ρ) (fC (r.aM++r.rem)++mn (r.guard++r.body)) (by omega) s I;have yG:=fQ (ρ:=ρ) r;have U:(r.aM++r.rem).length<=549755813888:=by grind
 have W:(r.guard++r.body).length<=549755813888:=by grind
 clear s I h H;obtain⟨L,N⟩:∃L,L=r.aM++r.rem:=⟨_,rfl⟩;obtain⟨M,O⟩:∃M,M=r.guard++r.body:=⟨_,rfl⟩;rw[<-N]at J U a w ⊢;rw[<-O]at K W a w ⊢;clear N O;obtain⟨A,P⟩:∃A,A=fC L++mn M:=⟨_,rfl⟩;rw[<-P]at a w ⊢;obtain⟨V,Q⟩:∃V,V=varsOf A:=⟨_,rfl⟩;rw[<-Q]at a ⊢;clear Q;obtain⟨n,X,Y,g,b,v⟩:=r;refine st ana oT ((bt _)) ?_
 repeat' (first
  |apply bK oT J
  )
 refine ad.aK (σ:=Int × List Tm × Nat) 1 2 [] (λp=>[(1,.pt 0 6 0 0),(3,.gr 1 4 p.2.2),(4,cL ρ L),(5,.v (.int .i64 p.1))]) [] (λp=>[(0,.arr 6 [iE ρ ⟨n,X,Y,g,b,v⟩] 0 true),(1,M1 ρ p.2.1)])
  (λp=>∃k:Nat,p.1=k/\k<=L.length/\A=p.2.1++(fC (L.drop k)++mn M)/\p.2.2=p.2.1.length) (λp=>L.length - p.1.toNat) (0,[],0) ⟨0,rfl,by simp,by grind,rfl⟩ rfl cz ?_
 rintro⟨i,c,len⟩ ⟨k,z,s,d,u⟩;simp only at z d u;clear P;refine gq oT ?_;by_cases Z:k < L.length
 ·obtain⟨x,B,C⟩:=aD Z;rw[C,fC,bm_,<-fC]at d;have D:c.length+x.a.length<=549755813888:=by grind
  obtain⟨xn,xa⟩:=x;dsimp only at d D
  repeat' (first
   |refine og oT (ae.ind rfl rfl (aB (l:=L) z B) (aA λ_=>rfl)) ?_
   |(refine ad.qm (f:=iN) rfl rfl rfl u (λ_=>rfl) rfl ov qT (by omega) (λE F HC oR=>?_);refine gq oT ?_)
   |refine cg oT (λe=>?_) λe=>?_
   |refine lg oT λm R=>?_
   |refine ag oT λ_ _=>?_
   |refine ad.ao ?_;refine gq oT ?_
   )
  all_goals first
   |exfalso;omega
   |(refine ad.az (σ:=Int × List Tm × Nat) (_,E,F) [(1,2)] ?_ ?_ cz
     ·grind
     ·simp only;omega)
 rw[ak_ (by omega),fC,bD_,aK_]at d
 repeat' (first
  |apply bK oT K
  |refine cg oT (λe=>?_) λe=>?_
  |refine lg oT λm R=>?_
  |refine ad.ao ?_;refine gq oT ?_
  )
 all_goals first
  |exfalso;omega
  |skip
 refine ad.aK (σ:=Int × List Tm × Nat) 2 3 [(2,1)] (λp=>[(3,.gr 2 4 p.2.2),(6,cE ρ M),(7,.v (.int .i64 p.1))]) [] (λp=>[(2,M1 ρ p.2.1)])
  (λp=>∃k:Nat,p.1=k/\k<=M.length/\A=p.2.1++mn (M.drop k)/\p.2.2=p.2.1.length) (λp=>M.length - p.1.toNat) (0,c,len) ⟨0,rfl,by simp,by grind,u⟩ rfl cz ?_
 clear d u z s;rintro⟨j,dX,iU⟩ ⟨q,S,hq,o,G⟩;simp only at S o G;refine gq oT ?_;by_cases oA:q < M.length
 ·obtain⟨x,B,C⟩:=aD oA;rw[C,mn,bm_,<-mn]at o;have D:dX.length+x.a.length<=549755813888:=by grind
  obtain⟨xo,xn,xa⟩:=x;dsimp only at o D
  repeat' (first
   |refine og oT (ae.ind rfl rfl (aB (l:=M) S B) (aA λ_=>rfl)) ?_
   |(refine ad.qm (f:=iN) rfl rfl rfl G (λ_=>rfl) rfl ov qT (by omega) (λE F HC oR=>?_);refine gq oT ?_)
   |refine cg oT (λe=>?_) λe=>?_
   |refine lg oT λm R=>?_
   |refine ag oT λ_ _=>?_
   |refine ad.ao ?_;refine gq oT ?_
   )
  all_goals first
   |exfalso;omega
   |(refine ad.az (σ:=Int × List Tm × Nat) (_,E,F) [(2,3)] ?_ ?_ cz
     ·grind
     ·simp only;omega)
 rw[ak_ (by omega),mn,bD_,aB_]at o;subst o;refine ad.int rfl (ae.len rfl) λm2 eI=>?_;rw[au]at eI;refine gq oT ?_;refine ad.bif rfl (ae.bit rfl) (λT=>?_) (λT=>?_)<;>(try simp only[decide_eq_true_eq,decide_eq_false_iff_not]at T)
 ·grind
 refine gq oT ?_;refine ad.ao ?_;refine gq oT ?_;refine ad.uC (Cv.freeze (t:=38) rfl rfl (.inl rfl) (G.trans (au (ρ:=ρ) (f:=iN)).symm) (ax_ _)) ?_;apply bK oT a;refine fq ?_;exact aP.of_eq rfl
theorem UY (o:Int):ah Tryz.prog w0 151 [iv o] (.v (.bool (nN o))):=by
 refine st aiX afe .v ?_
 repeat' (first
  |refine cg afe (λa=>?_) λa=>?_
  |(refine fq ?_))
 all_goals (subst_vars;refine bY ?_;rw[nN,bI_];simp;omega)
theorem ane (l:List Int) (v:Int) (n:l.length<=1099511627776):ah Tryz.prog w0 154 [aR ρ aI false l,iv v] (.v (.bool (l.contains v))):=by
 obtain⟨R,b⟩:∃R,R=l.contains v:=⟨_,rfl⟩;rw[<-b];rw[<-CZ]at b;refine st aiY xC .v ?_;refine ad.aK (σ:=Int) 0 0 [] (λi=>[(0,aR ρ aI false l),(1,.v (.int .i64 v)),(5,.v (.int .i64 i))]) [] (λ_=>[]) (λi=>∃k:Nat,i=k/\k<=l.length/\R=(l.drop k).any λx=>v == x) (λi=>l.length - i.toNat) 0 ⟨0,rfl,by simp,by grind⟩ rfl cq ?_;rintro i ⟨k,e,o,a⟩;clear b;refine gq xC ?_;by_cases f:k < l.length
 ·obtain⟨x,g,h⟩:=aD f;rw[h,bS_]at a
  repeat' (first
   |refine og xC (ae.ind rfl rfl (aB (l:=l) e g) (aA λ_=>rfl)) ?_
   |refine cg xC (λc=>?_) λc=>?_
   |refine lg xC λm j=>?_
   |refine ag xC λ_ _=>?_
   |refine ad.ao ?_;refine gq xC ?_
   |refine ad.bh ?_;refine gq xC ?_
   |(refine fq ?_))
  all_goals first
   |exfalso;omega
   |rw[a,show (v == x)=true from beq_iff_eq.2 (by omega)];exact bY rfl
   |rw[show (v == x)=false from beq_eq_false_iff_ne.2 (by omega),cZ_]at a;(refine ad.az (σ:=Int) _ [] ?_ ?_ cq<;>first|omega|exact⟨k+1,by omega,by omega,a⟩)
 ·skip
  repeat' (first
   |refine cg xC (λc=>?_) λc=>?_
   |refine lg xC λm j=>?_
   |refine ad.ao ?_;refine gq xC ?_
   |(refine fq ?_))
  all_goals first
   |exfalso;omega
   |rw[a,ak_ (by omega)];exact bY rfl
end
end
section
attribute [local irreducible] ah aG ae ad
def anf:FQ 91 Tryz.f91:=aF Tryz.func91 Tryz.call91
def eJ:List Nat:=[3,6,9,5,10,12,14,0,7,8,13,4,1,20,37,44,50,69,74,83,90,102,11,111]
theorem XX (ds:List Dc) (n:ByteArray) (a:Int):oS ds n a=if l_ ds n a=true then 0 else if ds.any (named n)=true then 9 else 7:=by grind[oS,l_,named]
section
variable {w0:World}{ρ:Hd}
theorem JY (ds:List Dc) (n:ByteArray) (a:Int) (q:ds.length<=1099511627776):ah Tryz.prog w0 149 [ft ρ ds,.v (.string n),iv a] (iv (oS ds n a)):=by
 have e:=G_ (w0:=w0) (ρ:=ρ) ds n a q;rw[XX];obtain⟨r,g⟩:∃b,b=l_ ds n a:=⟨_,rfl⟩;rw[<-g]at e ⊢;clear g;obtain⟨z,h⟩:∃b,b=ds.any (named n):=⟨_,rfl⟩;rw[<-h];refine st aiV qU .v ?_
 refine ad.aK (σ:=Int × Int) 0 0 [] (λp=>[(0,ft ρ ds),(1,.v (.string n)),(2,.v (.int .i64 a)),(7,.v (.int .i64 p.2)),(8,.v (.int .i64 p.1))]) [] (λ_=>[])
  (λp=>∃k:Nat,p.1=k/\k<=ds.length/\p.2=if (ds.take k).any (named n)=true then 9 else 7) (λp=>ds.length - p.1.toNat) (0,7) ⟨0,rfl,by simp,rfl⟩ rfl cq ?_
 rintro⟨i,c⟩ ⟨k,j,A,d⟩;simp only at j d;refine gq qU ?_;by_cases t:k < ds.length
 ·obtain⟨x,u,B⟩:=aD t;have v:(ds.take (k+1)).any (named n)=((ds.take k).any (named n) || named n x):=by grind
  obtain⟨C,D⟩:=x;obtain⟨P,w⟩:∃P,P=(ds.take k).any (named n):=⟨_,rfl⟩;rw[<-w]at d v
  repeat' (first
   |refine og qU (ae.ind rfl rfl (aB (l:=ds) j u) (aA λ_=>rfl)) ?_
   |refine bg qU (ae.bit rfl) (λy=>?_) λy=>?_
   |refine lg qU λm o=>?_
   |refine ag qU λ_ _=>?_
   |refine ad.ao ?_;refine gq qU ?_
   )
  all_goals first
   |exfalso;simp only[decide_eq_true_eq,decide_eq_false_iff_not]at *;omega
   |(refine ad.az (σ:=Int × Int) (_,_) [] ?_ ?_ cq
     ·grind[named]
     ·simp only;omega)
 rw[aQ_ (by omega),<-h]at d;cases r
 ·skip
  repeat' (first
   |apply bK qU e
   |refine cg qU (λf=>?_) λf=>?_
   |refine lg qU λm o=>?_
   |refine ad.ao ?_;refine gq qU ?_
   |(refine fq ?_))
  all_goals first
   |exfalso;omega
   |rw[d];exact aP.of_eq rfl
 ·skip
  repeat' (first
   |apply bK qU e
   |refine cg qU (λf=>?_) λf=>?_
   |refine lg qU λm o=>?_
   |refine ad.ao ?_;refine gq qU ?_
   |(refine fq ?_))
  all_goals first
   |exfalso;omega
   |exact aP.of_eq rfl
theorem ab2 (ds:List Dc) (l:List Gl) (u:ds.length<=1099511627776) (G:l.length<=1099511627776) (v:∀g ∈ l,g.a.length<=1099511627776):ah Tryz.prog w0 150 [ft ρ ds,cE ρ l] (iv (kG ds l)):=by
 obtain⟨R,f⟩:∃R,R=kG ds l:=⟨_,rfl⟩;rw[<-f];refine st aiW tY .v ?_;refine ad.aK (σ:=Int) 0 0 [] (λi=>[(0,ft ρ ds),(1,cE ρ l),(5,.v (.int .i64 i))]) [] (λ_=>[]) (λi=>∃k:Nat,i=k/\k<=l.length/\R=kG ds (l.drop k)) (λi=>l.length - i.toNat) 0 ⟨0,rfl,by simp,by simpa using f⟩ rfl cq ?_;rintro i ⟨k,y,H,b⟩;clear f;refine gq tY ?_;by_cases z:k < l.length
 ·obtain⟨x,p,A⟩:=aD z;rw[A,kG]at b;have B:=v x (aa_ p);obtain⟨o,n,a⟩:=x;dsimp only at B;have h:=JY (w0:=w0) (ρ:=ρ) ds n a.length u;have c:qI ds ⟨o,n,a⟩=if o=0 then oS ds n a.length else 0:=rfl
  obtain⟨D,r⟩:∃D,D=oS ds n a.length:=⟨_,rfl⟩;rw[<-r]at c h;obtain⟨C,s⟩:∃C,C=qI ds ⟨o,n,a⟩:=⟨_,rfl⟩;rw[<-s]at c b;obtain⟨q,E⟩:∃q:Int,q=a.length:=⟨_,rfl⟩;rw[<-E]at h;clear r s;refine ad.int rfl (ae.len rfl) λI F=>?_;rw[au]at F;refine gq tY ?_
  repeat' (first
   |refine og tY (ae.ind rfl rfl (aB (l:=l) y p) (aA λ_=>rfl)) ?_
   |refine ad.int rfl (ae.len rfl) λm t=>?_;rw[au]at t;obtain rfl:m=q:=(by omega);refine gq tY ?_
   |(refine ig tY (pl h) λd J=>?_)
   |refine cg tY (λj=>?_) λj=>?_
   |refine ag tY λ_ _=>?_
   |refine ad.ao ?_;refine gq tY ?_
   |refine ad.bh ?_;refine gq tY ?_
   |(refine fq ?_))
  all_goals first
   |exfalso;omega
   |(have e:C=0:=by (rw[c];split<;>omega)
     rw[bD e]at b;(refine ad.az (σ:=Int) _ [] ?_ ?_ cq<;>first|omega|exact⟨k+1,by omega,by omega,b⟩))
   |(have e:C=D:=by (rw[c];split<;>omega)
     rw[dx (by omega)]at b;refine dP ?_;omega)
 ·skip
  repeat' (first
   |refine cg tY (λj=>?_) λj=>?_
   |refine lg tY λm t=>?_
   |refine ad.ao ?_;refine gq tY ?_
   |(refine fq ?_))
  all_goals first
   |exfalso;omega
   |rw[b,ak_ (by omega)];exact dP rfl
end
end
inductive Tr (α:Type) where
 |nil
 |nd (l:Tr α) (v:Option α) (r:Tr α)
def M4 {α:Type}:Nat->Tr α->Nat->α->Tr α
 |0,t,_,_=>t
 |m+1,.nil,k,a=>match Nat.beq k 0 with
  |true=>.nd .nil (some a) .nil
  |false=>match Nat.beq (k % 2) 1 with
   |true=>.nd (M4 m .nil (k / 2) a) none .nil
   |false=>.nd .nil none (M4 m .nil (k / 2 - 1) a)
 |m+1,.nd l v r,k,a=>match Nat.beq k 0 with
  |true=>.nd l (some a) r
  |false=>match Nat.beq (k % 2) 1 with
   |true=>.nd (M4 m l (k / 2) a) v r
   |false=>.nd l v (M4 m r (k / 2 - 1) a)
def put {α:Type}(t:Tr α) (k:Nat) (a:α):Tr α:=M4 (k+1) t k a
abbrev FJ:=Nat->(Nat->Nat->Prop)->(Nat->Prop)->World->Prop
structure XS where
 m:Tr (Option Ob)
 nx:Nat
 lw:Nat
 yk:Option Nat
 an:Nat
 lg:List (List AV × Bool)
def tZ (F:AV->Option AV):List AV->Option (List AV)
 |[]=>some []
 |a::l=>match F a with
  |some b=>match tZ F l with
   |some c=>some (b::c)
   |none=>none
  |none=>none
def Dg (F:AV->Option AV):List (List AV)->Option (List (List AV))
 |[]=>some []
 |a::l=>match tZ F a with
  |some b=>match Dg F l with
   |some c=>some (b::c)
   |none=>none
  |none=>none
def mo (S:af):Nat->AV->Option AV
 |0,_=>none
 |m+1,a=>match a with
  |.v x=>some (.v x)
  |.agg l=>match tZ (mo S m) l with|some b=>some (.agg b)|none=>none
  |.aL l=>match tZ (mo S m) l with|some b=>some (.aL b)|none=>none
  |.sl _ rows=>match Dg (mo S m) rows with|some b=>some (.sl false b)|none=>none
  |.ip g=>match tZ (mo S m) g with|some b=>some (.ip b)|none=>none
  |.fn f l c=>match tZ (mo S m) l,tZ (mo S m) c with|some b,some h=>some (.fn f b h)|_,_=>none
  |.ob k e off len _=>match S.get k with
   |some (.arr d rows _ _)=>match Nat.beq d e && Nat.ble (off+len) rows.length with
    |true=>match Dg (mo S m) ((rows.drop off).take len) with|some b=>some (.sl false b)|none=>none
    |false=>none
   |_=>none
  |.gr k e len=>match S.get k with
   |some (.arr d rows _ _)=>match Nat.beq d e && Nat.ble len rows.length with
    |true=>match Dg (mo S m) (rows.take len) with|some b=>some (.sl false b)|none=>none
    |false=>none
   |_=>none
  |.pt k e i j=>match S.get k with
   |some (.arr d rows _ _)=>match Nat.beq d e with
    |true=>match rows[i]? with
     |some row=>match Nat.ble j row.length with
      |true=>match tZ (mo S m) (row.drop j) with|some b=>some (.ip b)|none=>none
      |false=>none
     |none=>none
    |false=>none
   |_=>none
  |_=>none
def Bh (F:AV->Bool):List AV->Bool
 |[]=>true
 |a::l=>match F a with|true=>Bh F l|false=>false
def SD (F:AV->Bool):List (List AV)->Bool
 |[]=>true
 |a::l=>match Bh F a with|true=>SD F l|false=>false
def Bi:Nat->AV->Bool
 |0,_=>false
 |m+1,a=>match a with
  |.v _=>true
  |.agg l|.aL l|.ip l=>Bh (Bi m) l
  |.sl _ rows=>SD (Bi m) rows
  |.fn _ l c=>match Bh (Bi m) l with|true=>Bh (Bi m) c|false=>false
  |_=>false
theorem qV {F:AV->Bool}:∀{l:List AV},Bh F l=true->∀a ∈ l,F a=true
 |[],_,a,h=>by grind
 |b::l,c,a,h=>by
  simp only[Bh]at c;split at c
  ·rename_i d;rcases ad_.1 h with rfl|h
   ·grind
   ·exact qV c a h
  ·grind
theorem M5 {F:AV->Bool}:∀{l:List (List AV)},SD F l=true->∀r ∈ l,∀a ∈ r,F a=true
 |[],_,a,h=>by grind
 |b::l,c,a,h=>by
  simp only[SD]at c;split at c
  ·rename_i d;rcases ad_.1 h with rfl|h
   ·exact qV d
   ·exact M5 c a h
  ·grind
theorem jo:∀{m:Nat}{a:AV},Bi m a=true->Pure a
 |0,a,h=>by cases h
 |m+1,a,h=>by
  cases a with
  |v x=>exact .v
  |agg l=>exact .agg λa b=>jo (qV h a b)
  |aL l=>exact .aL λa b=>jo (qV h a b)
  |ip l=>exact .ip λa b=>jo (qV h a b)
  |sl g rows=>exact .sl λr d a b=>jo (M5 h r d a b)
  |fn f l c =>
   simp only[Bi]at h;split at h
   ·rename_i e;exact .fn (λa b=>jo (qV e a b)) (λa b=>jo (qV h a b))
   ·grind
  |_=>cases h
theorem AO {m:Nat}:∀{l:List AV},Bh (Bi m) l=true->kc l
 |[],_=>trivial
 |a::l,h=>by
  simp only[Bh]at h;split at h
  ·rename_i b;exact⟨jo b,AO h⟩
  ·grind
theorem Eo {F:AV->Option AV}:∀{l c:List AV},tZ F l=some c->l.length=c.length/\∀(i:Nat) (a a':AV),l[i]?=some a->c[i]?=some a'->F a=some a'
 |[],c,h=>by obtain rfl:=oJ_ h;exact⟨rfl,λi a a' h=>by grind⟩
 |b::l,c,h=>by
  simp only[tZ]at h;split at h
  ·rename_i k f;split at h
   ·rename_i m g;obtain rfl:=oJ_ h;obtain⟨n,j⟩:=Eo g;refine⟨by grind,λi a a' d e=>?_⟩;cases i with
    |zero=>simp at d e;subst d e;exact f
    |succ i=>simp at d e;exact j i a a' d e
   ·grind
  ·grind
theorem Ad {F:AV->Option AV}:∀{l c:List (List AV)},Dg F l=some c->l.length=c.length/\∀(i:Nat) (a a':List AV),l[i]?=some a->c[i]?=some a'->tZ F a=some a'
 |[],c,h=>by obtain rfl:=oJ_ h;exact⟨rfl,λi a a' h=>by grind⟩
 |b::l,c,h=>by
  simp only[Dg]at h;split at h
  ·rename_i k f;split at h
   ·rename_i m g;obtain rfl:=oJ_ h;obtain⟨n,j⟩:=Ad g;refine⟨by grind,λi a a' d e=>?_⟩;cases i with
    |zero=>simp at d e;subst d e;exact f
    |succ i=>simp at d e;exact j i a a' d e
   ·grind
  ·grind
section
variable {S:af}
theorem we:∀{m:Nat}{a a':AV},mo S m a=some a'->aP S a a'/\Pure a'
 |0,a,a',h=>by cases h
 |m+1,a,a',h=>by
  have w:∀{l g:List AV},tZ (mo S m) l=some g->∀b ∈ g,Pure b:=λ{l g} d b t=>by
   obtain⟨o,n⟩:=Eo d;obtain⟨i,y⟩:=cb_ t;have E:i < l.length:=by grind
   exact (we (n i _ b (ai_ E) y)).2
  have s:∀{l g:List AV},tZ (mo S m) l=some g->l.length=g.length/\∀(i:Nat) (a a':AV),l[i]?=some a->g[i]?=some a'->aP S a a':=λd=>⟨(Eo d).1,λi a a' o n=>(we ((Eo d).2 i a a' o n)).1⟩;have F:∀{l g:List (List AV)},Dg (mo S m) l=some g->∀r ∈ g,∀b ∈ r,Pure b:=λ{l g} d r M=>by
   obtain⟨o,n⟩:=Ad d;obtain⟨i,y⟩:=cb_ M;have E:i < l.length:=by grind
   exact w (n i _ r (ai_ E) y)
  have atR:∀{l g:List (List AV)},Dg (mo S m) l=some g->l.length=g.length/\(∀(i:Nat) (r u:List AV),l[i]?=some r->g[i]?=some u->r.length=u.length) /\
    ∀(i j:Nat) (r u:List AV) (a a':AV),l[i]?=some r->g[i]?=some u->r[j]?=some a->u[j]?=some a'->aP S a a':=λd =>
   ⟨(Ad d).1,λi r u o n=>(s ((Ad d).2 i r u o n)).1,λi j r u a a' o n z A=>(s ((Ad d).2 i r u o n)).2 j a a' z A⟩
  cases a with
  |v x=>obtain rfl:=oJ_ h;exact⟨.refl _,.v⟩
  |agg l =>
   simp only[mo]at h;split at h
   ·rename_i g d;obtain rfl:=oJ_ h;exact⟨.agg (s d).1 (s d).2,.agg (w d)⟩
   ·grind
  |aL l =>
   simp only[mo]at h;split at h
   ·rename_i g d;obtain rfl:=oJ_ h;exact⟨.aL (s d).1 (s d).2,.aL (w d)⟩
   ·grind
  |ip l =>
   simp only[mo]at h;split at h
   ·rename_i g d;obtain rfl:=oJ_ h;exact⟨.ip (bN_ (s d).1.symm) (s d).2,.ip (w d)⟩
   ·grind
  |sl G rows =>
   simp only[mo]at h;split at h
   ·rename_i g d;obtain rfl:=oJ_ h;exact⟨.sl (atR d).1 (atR d).2.1 (atR d).2.2,.sl (F d)⟩
   ·grind
  |fn f l c =>
   simp only[mo]at h;split at h
   ·rename_i g N d H;obtain rfl:=oJ_ h;exact⟨.fn (s d).1 (s H).1 (s d).2 (s H).2,.fn (w d) (w H)⟩
   ·grind
  |ob k K off len cx =>
   simp only[mo]at h;split at h
   ·rename_i B rows fz G C;split at h
    ·rename_i t;simp only[al_]at t;have e:=aH_ t.1;have I:=aq_ t.2;subst e;split at h
     ·rename_i g d;obtain rfl:=oJ_ h;obtain⟨q1,D,J⟩:=atR d;have hlen:g.length=len:=by grind
      have get:∀(i:Nat) (row p:List AV),rows[off+i]?=some row->g[i]?=some p->((rows.drop off).take len)[i]?=some row:=λi row p o n=>by grind
      exact⟨.ob C I hlen (λi row p o n=>D i row p (get i row p o n) n) (λi j row p a a' o n z A=>J i j row p a a' (get i row p o n) n z A),.sl (F d)⟩
     ·grind
    ·grind
   ·grind
  |gr k K len =>
   simp only[mo]at h;split at h
   ·rename_i B rows fz G C;split at h
    ·rename_i t;simp only[al_]at t;have e:=aH_ t.1;have I:=aq_ t.2;subst e;split at h
     ·rename_i g d;obtain rfl:=oJ_ h;obtain⟨q1,D,J⟩:=atR d;have hlen:g.length=len:=by grind
      have get:∀(i:Nat) (row p:List AV),rows[i]?=some row->g[i]?=some p->(rows.take len)[i]?=some row:=λi row p o n=>by grind
      exact⟨.gr C I hlen (λi row p o n=>D i row p (get i row p o n) n) (λi j row p a a' o n z A=>J i j row p a a' (get i row p o n) n z A),.sl (F d)⟩
     ·grind
    ·grind
   ·grind
  |pt k K i j =>
   simp only[mo]at h;split at h
   ·rename_i B rows fz G C;split at h
    ·rename_i t;have e:=aH_ t;subst e;split at h
     ·rename_i row y;split at h
      ·rename_i L;have L:=aq_ L;split at h
       ·rename_i g d;obtain rfl:=oJ_ h;obtain⟨q1,D⟩:=s d;simp at q1;exact⟨.pt C y (by omega) (λq a a' o n=>D q a a' (by grind) n),.ip (w d)⟩
       ·grind
      ·grind
     ·grind
    ·grind
   ·grind
  |_=>cases h
theorem aP.mono {S T:af}(h:∀k sz rows fz ex,S.get k=some (.arr sz rows fz ex)->T.get k=some (.arr sz rows fz ex)) {a a':AV}(j:aP S a a'):aP T a a':=by
 induction j with
 |refl a=>exact .refl a
 |agg g h b=>exact .agg g b
 |aL g h b=>exact .aL g b
 |ob f c d e i b=>exact .ob (h _ _ _ _ _ f) c d e b
 |pt f c d e b=>exact .pt (h _ _ _ _ _ f) c d b
 |fn c d e i l m=>exact .fn c d l m
 |sl c d e b=>exact .sl c d b
 |ip c d b=>exact .ip c b
 |gr f c d e i b=>exact .gr (h _ _ _ _ _ f) c d e b
end
end Go.Proofs.YtbpabjmnhggajaaGreat
