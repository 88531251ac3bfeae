import Derived.Test.YtbpabjmnhggajaaGreatOs29
namespace Go.Proofs.YtbpabjmnhggajaaGreat
set_option linter.unusedVariables false
set_option linter.unusedSimpArgs false
open Go.RowKit
section
set_option maxRecDepth 100000
attribute [local irreducible] ah aC af ad
def aho:FQ 70 Tryz.f70:=a_ Tryz.func70 Tryz.call70
def pL:List Nat:=[10,16,3,2,0,9,11,8,5,15,17,14,7]
def ahp:FQ 71 Tryz.f71:=a_ Tryz.func71 Tryz.call71
def pM:List Nat:=[10,16,3,2,0,9,11,8,5,15,17,14,7]
def BB (a:List Tm):Prop:=a.length<=1099511627776/\eV a/\(cN a).length<=1099511627776
section
variable {w0:World}{ρ:Hd}
theorem ahq (x:At) (h1:x.a.length<=1099511627776) (h2:eV x.a) (h3:(cN x.a).length<=1099511627776):ah Tryz.prog w0 129 [at_ ρ x] (aX ρ aP false (varsOf x.a)):=MZ x h1 h2 h3
theorem ahr (x:Gl) (h1:x.a.length<=1099511627776) (h2:eV x.a) (h3:(cN x.a).length<=1099511627776):ah Tryz.prog w0 130 [gl ρ x] (aX ρ aP false (varsOf x.a)):=MY x h1 h2 h3
end
def BC (l:List At):List Int:=l.flatMap fun x=>varsOf x.a
def F_ (L:List (List At)):List Int:=L.flatMap BC
def rowAt (ρ:Hd) (l:List At):List AV:=[dy ρ l]
section
variable {w0:World}{ρ:Hd}
theorem Ng (L:List (List At)):Pure (aX ρ (rowAt ρ) true L):=eR fun x _ a ha=>by
 obtain rfl:=List.mem_singleton.1 ha;exact b_ x
theorem ahs (L:List (List At)) (hl:L.length<=1099511627776) (hL:∀ l ∈ L,l.length<=1099511627776/\∀ x ∈ l,BB x.a) (R:List Int) (hR:R=F_ L) (hn:R.length<=1099511627776) :
  ∃ len,len=R.length/\aC Tryz.prog w0 70 [aX ρ (rowAt ρ) true L] (aq [] 0) (.gr 0 1 len) (aq [(0,Ij ρ R)] 1):=by
 refine⟨_,rfl,?_⟩;obtain⟨eK,xc⟩:∃ n,n=R.length:=⟨_,rfl⟩;rw[<-xc];have Vm:=Ng (ρ:=ρ) L;refine sc 0 1 aho ?_;refine gq pL ?_
 repeat' (first
  |refine lg pL fun m hm=>?_
  )
 refine ad.bu (σ:=Int × List Int × Nat) 0 1 [] (fun p=>[(3,.gr 0 1 p.2.2),(8,aX ρ (rowAt ρ) true L),(9,.v (.int .i64 m)),(10,.v (.int .i64 p.1))]) [] (fun p=>[(0,Ij ρ p.2.1)])
  (fun p=>∃ k:Nat,p.1=k/\k<=L.length/\R=p.2.1++F_ (L.drop k)/\p.2.2=p.2.1.length) (fun p=>L.length - p.1.toNat) (0,[],0) ⟨0,rfl,by simp,by simpa using hR,rfl⟩ rfl (by exact⟨sq,rfl,⟨.inr rfl,trivial⟩,rfl,rfl,rfl⟩) ?_
 rintro⟨j,acc,len⟩ ⟨k,hj,hk,hp,o3⟩;simp only at hj hp o3;clear hR;refine gq pL ?_;by_cases aA:k < L.length
 ·obtain⟨y,qg,px⟩:=bf aA;obtain⟨Pw,ZH⟩:=hL y (List.mem_of_getElem? qg);obtain⟨rest,oA⟩:∃ r,r=F_ (L.drop (k+1)):=⟨_,rfl⟩;rw[px,F_,List.flatMap_cons,<-F_,<-oA] at hp
  repeat' (first
   |refine og pL (af.ind rfl rfl (aY (l:=L) hj qg) (aZ fun _=>rfl)) ?_
   |refine ad.int rfl (af.len rfl) fun m2 gH=>?_;rw[aE] at gH;refine gq pL ?_
   |refine cg pL (fun hb=>?_) fun hb=>?_
   |refine ad.aH ?_;refine gq pL ?_
   |(refine fq ?_))
  all_goals first
   |exfalso;omega
   |skip
  refine ad.bu (σ:=Int × List Int × Nat) 1 2 [(1,0)] (fun p=>[(3,.gr 1 1 p.2.2),(8,aX ρ (rowAt ρ) true L),(9,.v (.int .i64 m)),(10,.v (.int .i64 j)),(14,dy ρ y),(15,.v (.int .i64 m2)),(16,.v (.int .i64 p.1))]) [] (fun p=>[(1,Ij ρ p.2.1)])
   (fun p=>∃ q:Nat,p.1=q/\q<=y.length/\R=p.2.1++(BC (y.drop q)++rest)/\p.2.2=p.2.1.length) (fun p=>y.length - p.1.toNat) (0,acc,len) ⟨0,rfl,by simp,by simpa using hp,o3⟩ rfl (by exact⟨sq,rfl,⟨.inl ⟨_,rfl,.same er⟩,trivial⟩,rfl,rfl,rfl⟩) ?_
  rintro⟨i,vA,xl⟩ ⟨q,hi,hq,fU,xm⟩;simp only at hi fU xm;clear hp o3;refine gq pL ?_;by_cases Ew:q < y.length
  ·obtain⟨x,lQ,bK⟩:=bf Ew;obtain⟨oc,tQ,ZI⟩:=ZH x (List.mem_of_getElem? lQ);have hV:=ahq (w0:=w0) (ρ:=ρ) x oc tQ ZI;rw[bK,BC,List.flatMap_cons,<-BC] at fU;obtain⟨V,PU⟩:∃ V,V=varsOf x.a:=⟨_,rfl⟩;rw[<-PU] at fU hV;have Du:vA.length+V.length<=1099511627776:=by
    have:=congrArg List.length fU;simp only[List.length_append] at this;omega
   clear PU;obtain⟨xn,xa⟩:=x
   repeat' (first
    |refine og pL (af.ind rfl rfl (aY (l:=y) hi lQ) (aZ fun _=>rfl)) ?_
    |refine og pL (af.aw rfl hV ⟨gF (ρ:=ρ) ⟨xn,xa⟩,trivial⟩) ?_
    |(refine ad.SC (f:=aP) rfl rfl rfl xm (fun _=>rfl) rfl (fun _=>rfl) (fun _=>rfl) (by omega) (fun PV=>?_) (fun IF Nh PV Hj Dv=>?_)<;>refine gq pL ?_)
    |refine cg pL (fun hb=>?_) fun hb=>?_
    |refine ag pL fun _ _=>?_
    |refine ad.aH ?_;refine gq pL ?_
    )
   all_goals first
    |exfalso;omega
    |(refine ad.aO (σ:=Int × List Int × Nat) (_,vA,xl) [(1,1)] ?_ ?_ (by exact⟨sq,rfl,⟨.inl ⟨_,rfl,.same er⟩,trivial⟩,rfl,rfl,rfl⟩)
      ·exact⟨q+1,by simp only;omega,by omega,by rw[fU,PV];rfl,xm⟩
      ·simp only;omega)
    |(refine ad.aO (σ:=Int × List Int × Nat) (_,IF,Nh) [(1,3)] ?_ ?_ (by exact⟨sq,rfl,⟨.inl ⟨_,rfl,.same er⟩,trivial⟩,rfl,rfl,rfl⟩)
      ·exact⟨q+1,by simp only;omega,by omega,by rw[fU,Hj];simp only[List.append_assoc],Dv⟩
      ·simp only;omega)
  ·rw[List.drop_eq_nil_of_le (by omega),BC,List.flatMap_nil,List.nil_append] at fU
   repeat' (first
    |refine cg pL (fun hb=>?_) fun hb=>?_
    |refine ag pL fun _ _=>?_
    |refine ad.aH ?_;refine gq pL ?_
    )
   all_goals first
    |exfalso;omega
    |(refine ad.aO (σ:=Int × List Int × Nat) (_,vA,xl) [(0,1)] ?_ ?_ (by exact⟨sq,rfl,⟨.inl ⟨_,rfl,.same er⟩,trivial⟩,rfl,rfl,rfl⟩)
      ·exact⟨k+1,by simp only;omega,by omega,by rw[fU,oA],xm⟩
      ·simp only;omega)
 ·rw[List.drop_eq_nil_of_le (by omega),F_,List.flatMap_nil,List.append_nil] at hp
  repeat' (first
   |refine cg pL (fun hb=>?_) fun hb=>?_
   |refine ad.aH ?_;refine gq pL ?_
   |(refine fq ?_))
  all_goals first
   |exfalso;omega
   |skip
  subst hp;obtain rfl:len=eK:=by omega
  exact⟨[(0,0)],.iR rfl rfl,⟨.inl ⟨_,rfl,.same er⟩,trivial⟩,rfl⟩
end
def BD (l:List Gl):List Int:=l.flatMap fun x=>varsOf x.a
def r9 (L:List (List Gl)):List Int:=L.flatMap BD
def Dw (ρ:Hd) (l:List Gl):List AV:=[cX ρ l]
section
variable {w0:World}{ρ:Hd}
theorem Ni (L:List (List Gl)):Pure (aX ρ (Dw ρ) true L):=eR fun x _ a ha=>by
 obtain rfl:=List.mem_singleton.1 ha;exact cL x
theorem aht (L:List (List Gl)) (hl:L.length<=1099511627776) (hL:∀ l ∈ L,l.length<=1099511627776/\∀ x ∈ l,BB x.a) (R:List Int) (hR:R=r9 L) (hn:R.length<=1099511627776) :
  ∃ len,len=R.length/\aC Tryz.prog w0 71 [aX ρ (Dw ρ) true L] (aq [] 0) (.gr 0 1 len) (aq [(0,Ij ρ R)] 1):=by
 refine⟨_,rfl,?_⟩;obtain⟨eK,xc⟩:∃ n,n=R.length:=⟨_,rfl⟩;rw[<-xc];have Vm:=Ni (ρ:=ρ) L;refine sc 0 1 ahp ?_;refine gq pM ?_
 repeat' (first
  |refine lg pM fun m hm=>?_
  )
 refine ad.bu (σ:=Int × List Int × Nat) 0 1 [] (fun p=>[(3,.gr 0 1 p.2.2),(8,aX ρ (Dw ρ) true L),(9,.v (.int .i64 m)),(10,.v (.int .i64 p.1))]) [] (fun p=>[(0,Ij ρ p.2.1)])
  (fun p=>∃ k:Nat,p.1=k/\k<=L.length/\R=p.2.1++r9 (L.drop k)/\p.2.2=p.2.1.length) (fun p=>L.length - p.1.toNat) (0,[],0) ⟨0,rfl,by simp,by simpa using hR,rfl⟩ rfl (by exact⟨sq,rfl,⟨.inr rfl,trivial⟩,rfl,rfl,rfl⟩) ?_
 rintro⟨j,acc,len⟩ ⟨k,hj,hk,hp,o3⟩;simp only at hj hp o3;clear hR;refine gq pM ?_;by_cases aA:k < L.length
 ·obtain⟨y,qg,px⟩:=bf aA;obtain⟨Pw,ZH⟩:=hL y (List.mem_of_getElem? qg);obtain⟨rest,oA⟩:∃ r,r=r9 (L.drop (k+1)):=⟨_,rfl⟩;rw[px,r9,List.flatMap_cons,<-r9,<-oA] at hp
  repeat' (first
   |refine og pM (af.ind rfl rfl (aY (l:=L) hj qg) (aZ fun _=>rfl)) ?_
   |refine ad.int rfl (af.len rfl) fun m2 gH=>?_;rw[aE] at gH;refine gq pM ?_
   |refine cg pM (fun hb=>?_) fun hb=>?_
   |refine ad.aH ?_;refine gq pM ?_
   |(refine fq ?_))
  all_goals first
   |exfalso;omega
   |skip
  refine ad.bu (σ:=Int × List Int × Nat) 1 2 [(1,0)] (fun p=>[(3,.gr 1 1 p.2.2),(8,aX ρ (Dw ρ) true L),(9,.v (.int .i64 m)),(10,.v (.int .i64 j)),(14,cX ρ y),(15,.v (.int .i64 m2)),(16,.v (.int .i64 p.1))]) [] (fun p=>[(1,Ij ρ p.2.1)])
   (fun p=>∃ q:Nat,p.1=q/\q<=y.length/\R=p.2.1++(BD (y.drop q)++rest)/\p.2.2=p.2.1.length) (fun p=>y.length - p.1.toNat) (0,acc,len) ⟨0,rfl,by simp,by simpa using hp,o3⟩ rfl (by exact⟨sq,rfl,⟨.inl ⟨_,rfl,.same er⟩,trivial⟩,rfl,rfl,rfl⟩) ?_
  rintro⟨i,vA,xl⟩ ⟨q,hi,hq,fU,xm⟩;simp only at hi fU xm;clear hp o3;refine gq pM ?_;by_cases Ew:q < y.length
  ·obtain⟨x,lQ,bK⟩:=bf Ew;obtain⟨oc,tQ,ZI⟩:=ZH x (List.mem_of_getElem? lQ);have hV:=ahr (w0:=w0) (ρ:=ρ) x oc tQ ZI;rw[bK,BD,List.flatMap_cons,<-BD] at fU;obtain⟨V,PU⟩:∃ V,V=varsOf x.a:=⟨_,rfl⟩;rw[<-PU] at fU hV;have Du:vA.length+V.length<=1099511627776:=by
    have:=congrArg List.length fU;simp only[List.length_append] at this;omega
   clear PU;obtain⟨xo,xn,xa⟩:=x
   repeat' (first
    |refine og pM (af.ind rfl rfl (aY (l:=y) hi lQ) (aZ fun _=>rfl)) ?_
    |refine og pM (af.aw rfl hV ⟨gV (ρ:=ρ) ⟨xo,xn,xa⟩,trivial⟩) ?_
    |(refine ad.SC (f:=aP) rfl rfl rfl xm (fun _=>rfl) rfl (fun _=>rfl) (fun _=>rfl) (by omega) (fun PV=>?_) (fun IF Nh PV Hj Dv=>?_)<;>refine gq pM ?_)
    |refine cg pM (fun hb=>?_) fun hb=>?_
    |refine ag pM fun _ _=>?_
    |refine ad.aH ?_;refine gq pM ?_
    )
   all_goals first
    |exfalso;omega
    |(refine ad.aO (σ:=Int × List Int × Nat) (_,vA,xl) [(1,1)] ?_ ?_ (by exact⟨sq,rfl,⟨.inl ⟨_,rfl,.same er⟩,trivial⟩,rfl,rfl,rfl⟩)
      ·exact⟨q+1,by simp only;omega,by omega,by rw[fU,PV];rfl,xm⟩
      ·simp only;omega)
    |(refine ad.aO (σ:=Int × List Int × Nat) (_,IF,Nh) [(1,3)] ?_ ?_ (by exact⟨sq,rfl,⟨.inl ⟨_,rfl,.same er⟩,trivial⟩,rfl,rfl,rfl⟩)
      ·exact⟨q+1,by simp only;omega,by omega,by rw[fU,Hj];simp only[List.append_assoc],Dv⟩
      ·simp only;omega)
  ·rw[List.drop_eq_nil_of_le (by omega),BD,List.flatMap_nil,List.nil_append] at fU
   repeat' (first
    |refine cg pM (fun hb=>?_) fun hb=>?_
    |refine ag pM fun _ _=>?_
    |refine ad.aH ?_;refine gq pM ?_
    )
   all_goals first
    |exfalso;omega
    |(refine ad.aO (σ:=Int × List Int × Nat) (_,vA,xl) [(0,1)] ?_ ?_ (by exact⟨sq,rfl,⟨.inl ⟨_,rfl,.same er⟩,trivial⟩,rfl,rfl,rfl⟩)
      ·exact⟨k+1,by simp only;omega,by omega,by rw[fU,oA],xm⟩
      ·simp only;omega)
 ·rw[List.drop_eq_nil_of_le (by omega),r9,List.flatMap_nil,List.append_nil] at hp
  repeat' (first
   |refine cg pM (fun hb=>?_) fun hb=>?_
   |refine ad.aH ?_;refine gq pM ?_
   |(refine fq ?_))
  all_goals first
   |exfalso;omega
   |skip
  subst hp;obtain rfl:len=eK:=by omega
  exact⟨[(0,0)],.iR rfl rfl,⟨.inl ⟨_,rfl,.same er⟩,trivial⟩,rfl⟩
theorem ZJ (L:List (List Gl)) (hl:L.length<=1099511627776) (hL:∀ l ∈ L,l.length<=1099511627776/\∀ x ∈ l,BB x.a) (hn:(r9 L).length<=1099511627776) :
  ah Tryz.prog w0 71 [aX ρ (Dw ρ) true L] (aX ρ aP false (r9 L)):=by
 obtain⟨len,h1,h2⟩:=aht (w0:=w0) (ρ:=ρ) L hl hL _ rfl hn;exact ah.Df h2 (aR.grow rfl h1) (bp _)
end
end
end Go.Proofs.YtbpabjmnhggajaaGreat
