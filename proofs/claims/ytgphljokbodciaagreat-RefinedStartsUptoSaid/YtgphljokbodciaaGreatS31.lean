import Derived.Test.YtgphljokbodciaaGreatS30
namespace Go.Proofs.YtgphljokbodciaaGreat
set_option linter.unusedVariables false
set_option linter.unusedSimpArgs false
open Go.RowKit
section
set_option maxRecDepth 100000
attribute [local irreducible] ah aV ad ab
def Rs:CF Tryz.f284:=⟨_,by conv=>lhs;cbv⟩
theorem aa1:aD Tryz.prog 284 Rs.1 Tryz.f284.ntmps:=aO Tryz.func284 Rs.2 Tryz.call284
def kz:List Nat:=[10,16,3,2,0,9,11,8,5,15,17,14,7]
def Rt:CF Tryz.f285:=⟨_,by conv=>lhs;cbv⟩
theorem aa2:aD Tryz.prog 285 Rt.1 Tryz.f285.ntmps:=aO Tryz.func285 Rt.2 Tryz.call285
def kA:List Nat:=[10,16,3,2,0,9,11,8,5,15,17,14,7]
def xm (a:List Tm):Prop:=a.length<=1099511627776/\er a/\(aY a).length<=1099511627776
section
variable {w0:World}{ρ:Hd}
theorem afU (x:At) (h1:x.a.length<=1099511627776) (h2:er x.a) (h3:(aY x.a).length<=1099511627776):ah Tryz.prog w0 251 [at_ ρ x] (bY ρ bJ false (varsOf x.a)):=yU x h1 h2 h3
theorem afV (x:Gl) (h1:x.a.length<=1099511627776) (h2:er x.a) (h3:(aY x.a).length<=1099511627776):ah Tryz.prog w0 247 [gl ρ x] (bY ρ bJ false (varsOf x.a)):=yT x h1 h2 h3
end
def uM (l:List At):List Int:=l.flatMap fun x=>varsOf x.a
def zj (L:List (List At)):List Int:=L.flatMap uM
def rowAt (ρ:Hd) (l:List At):List AV:=[eK ρ l]
section
variable {w0:World}{ρ:Hd}
theorem HQ (L:List (List At)):Pure (bY ρ (rowAt ρ) true L):=e9 fun x _ a ha=>by
 obtain rfl:=List.mem_singleton.1 ha
 exact fQ x
theorem afW (L:List (List At)) (hl:L.length<=1099511627776) (hL:∀ l ∈ L,l.length<=1099511627776/\∀ x ∈ l,xm x.a) (R:List Int) (hR:R=zj L) (hn:R.length<=1099511627776) :
  ∃ len,len=R.length/\aV Tryz.prog w0 284 [bY ρ (rowAt ρ) true L] (aE [] 0) (.gr 0 1 len) (aE [(0,mg ρ R)] 1):=by
 refine⟨_,rfl,?_⟩
 obtain⟨cF,fe⟩:∃ n,n=R.length:=⟨_,rfl⟩
 rw [<-fe]
 have hpu:=HQ (ρ:=ρ) L
 refine aD.dw 0 1 _ aa1 (by simp [Tryz.ntmps284]) rfl rfl ?_
 refine gq kz ?_
 repeat' (first
  |(refine az fun m hm=>?_;(try rw [af] at hm);refine gq kz ?_)
  )
 refine ab.aP (σ:=Int × List Int × Nat) 0 1 [] (fun p=>[(3,.gr 0 1 p.2.2),(8,bY ρ (rowAt ρ) true L),(9,.v (.int .i64 m)),(10,.v (.int .i64 p.1))]) [] (fun p=>[(0,mg ρ p.2.1)])
  (fun p=>∃ k:Nat,p.1=k/\k<=L.length/\R=p.2.1++zj (L.drop k)/\p.2.2=p.2.1.length) (fun p=>L.length - p.1.toNat) (0,[],0) ⟨0,rfl,by simp,by simpa using hR,rfl⟩ rfl (by exact⟨sq,rfl,⟨.inr rfl,trivial⟩,rfl,rfl,rfl⟩) ?_
 rintro⟨j,acc,len⟩ ⟨k,hj,hk,hp,fA⟩
 simp only at hj hp fA
 clear hR
 refine gq kz ?_
 by_cases au:k < L.length
 ·obtain⟨y,eC,cT⟩:=aA au
  obtain⟨hyl,WC⟩:=hL y (List.mem_of_getElem? eC)
  obtain⟨rest,kn⟩:∃ r,r=zj (L.drop (k+1)):=⟨_,rfl⟩
  rw [cT,zj,List.flatMap_cons,<-zj,<-kn] at hp
  repeat' (first
   |(refine ab.op rfl (ad.ind rfl rfl (ay (l:=L) hj eC) (aw fun _=>rfl)) ?_;refine gq kz ?_)
   |(refine ab.int rfl (ad.len rfl) fun m2 g7=>?_;rw [af] at g7;refine gq kz ?_)
   |(refine bq (fun hb=>?_) (fun hb=>?_)<;>(try simp only [aq] at hb)<;>(first|refine gq kz ?_))
   |(refine ab.ao ?_;refine gq kz ?_)
   |(refine fq ?_))
  all_goals first
   |(exfalso;omega)
   |skip
  refine ab.aP (σ:=Int × List Int × Nat) 1 2 [(1,0)] (fun p=>[(3,.gr 1 1 p.2.2),(8,bY ρ (rowAt ρ) true L),(9,.v (.int .i64 m)),(10,.v (.int .i64 j)),(14,eK ρ y),(15,.v (.int .i64 m2)),(16,.v (.int .i64 p.1))]) [] (fun p=>[(1,mg ρ p.2.1)])
   (fun p=>∃ q:Nat,p.1=q/\q<=y.length/\R=p.2.1++(uM (y.drop q)++rest)/\p.2.2=p.2.1.length) (fun p=>y.length - p.1.toNat) (0,acc,len) ⟨0,rfl,by simp,by simpa using hp,fA⟩ rfl (by exact⟨sq,rfl,⟨.inl ⟨_,rfl,.same cW⟩,trivial⟩,rfl,rfl,rfl⟩) ?_
  rintro⟨i,dk,gy⟩ ⟨q,hi,hq,ca,kT⟩
  simp only at hi ca kT
  clear hp fA
  refine gq kz ?_
  by_cases iM:q < y.length
  ·obtain⟨x,fO,aQ⟩:=aA iM
   obtain⟨lH,o9,WD⟩:=WC x (List.mem_of_getElem? fO)
   have hV:=afU (w0:=w0) (ρ:=ρ) x lH o9 WD
   rw [aQ,uM,List.flatMap_cons,<-uM] at ca
   obtain⟨V,Lp⟩:∃ V,V=varsOf x.a:=⟨_,rfl⟩
   rw [<-Lp] at ca hV
   have lV:dk.length+V.length<=1099511627776:=by
    have:=congrArg List.length ca
    simp only [List.length_append] at this
    omega
   clear Lp
   obtain⟨xn,xa⟩:=x
   repeat' (first
    |(refine ab.op rfl (ad.ind rfl rfl (ay (l:=y) hi fO) (aw fun _=>rfl)) ?_;refine gq kz ?_)
    |(refine ab.op rfl (ad.ag rfl hV ⟨cX (ρ:=ρ) ⟨xn,xa⟩,trivial⟩) ?_;refine gq kz ?_)
    |((refine ab.MW (f:=bJ) rfl rfl rfl kT (fun _=>rfl) rfl (fun _=>rfl) (fun _=>rfl) (by omega) (fun vN=>?_) (fun ff oA vN fZ gM=>?_)<;>refine gq kz ?_))
    |(refine bq (fun hb=>?_) (fun hb=>?_)<;>(try simp only [aq] at hb)<;>(first|refine gq kz ?_))
    |(refine aS fun _ _=>?_;refine gq kz ?_)
    |(refine ab.ao ?_;refine gq kz ?_)
    )
   all_goals first
    |(exfalso;omega)
    |(refine ab.aK (σ:=Int × List Int × Nat) (_,dk,gy) [(1,1)] ?_ ?_ (by exact⟨sq,rfl,⟨.inl ⟨_,rfl,.same cW⟩,trivial⟩,rfl,rfl,rfl⟩)
      ·exact⟨q+1,by simp only;omega,by omega,by rw [ca,vN];rfl,kT⟩
      ·simp only;omega)
    |(refine ab.aK (σ:=Int × List Int × Nat) (_,ff,oA) [(1,3)] ?_ ?_ (by exact⟨sq,rfl,⟨.inl ⟨_,rfl,.same cW⟩,trivial⟩,rfl,rfl,rfl⟩)
      ·exact⟨q+1,by simp only;omega,by omega,by rw [ca,fZ];simp only [List.append_assoc],gM⟩
      ·simp only;omega)
  ·rw [List.drop_eq_nil_of_le (by omega),uM,List.flatMap_nil,List.nil_append] at ca
   repeat' (first
    |(refine bq (fun hb=>?_) (fun hb=>?_)<;>(try simp only [aq] at hb)<;>(first|refine gq kz ?_))
    |(refine aS fun _ _=>?_;refine gq kz ?_)
    |(refine ab.ao ?_;refine gq kz ?_)
    )
   all_goals first
    |(exfalso;omega)
    |(refine ab.aK (σ:=Int × List Int × Nat) (_,dk,gy) [(0,1)] ?_ ?_ (by exact⟨sq,rfl,⟨.inl ⟨_,rfl,.same cW⟩,trivial⟩,rfl,rfl,rfl⟩)
      ·exact⟨k+1,by simp only;omega,by omega,by rw [ca,kn],kT⟩
      ·simp only;omega)
 ·rw [List.drop_eq_nil_of_le (by omega),zj,List.flatMap_nil,List.append_nil] at hp
  repeat' (first
   |(refine bq (fun hb=>?_) (fun hb=>?_)<;>(try simp only [aq] at hb)<;>(first|refine gq kz ?_))
   |(refine ab.ao ?_;refine gq kz ?_)
   |(refine fq ?_))
  all_goals first
   |(exfalso;omega)
   |skip
  subst hp
  obtain rfl:len=cF:=by omega
  exact⟨[(0,0)],.ll rfl rfl,⟨.inl ⟨_,rfl,.same cW⟩,trivial⟩,rfl⟩
end
def tr (l:List Gl):List Int:=l.flatMap fun x=>varsOf x.a
def oe (L:List (List Gl)):List Int:=L.flatMap tr
def zk (ρ:Hd) (l:List Gl):List AV:=[dC ρ l]
section
variable {w0:World}{ρ:Hd}
theorem HR (L:List (List Gl)):Pure (bY ρ (zk ρ) true L):=e9 fun x _ a ha=>by
 obtain rfl:=List.mem_singleton.1 ha
 exact cV x
theorem afX (L:List (List Gl)) (hl:L.length<=1099511627776) (hL:∀ l ∈ L,l.length<=1099511627776/\∀ x ∈ l,xm x.a) (R:List Int) (hR:R=oe L) (hn:R.length<=1099511627776) :
  ∃ len,len=R.length/\aV Tryz.prog w0 285 [bY ρ (zk ρ) true L] (aE [] 0) (.gr 0 1 len) (aE [(0,mg ρ R)] 1):=by
 refine⟨_,rfl,?_⟩
 obtain⟨cF,fe⟩:∃ n,n=R.length:=⟨_,rfl⟩
 rw [<-fe]
 have hpu:=HR (ρ:=ρ) L
 refine aD.dw 0 1 _ aa2 (by simp [Tryz.ntmps285]) rfl rfl ?_
 refine gq kA ?_
 repeat' (first
  |(refine az fun m hm=>?_;(try rw [af] at hm);refine gq kA ?_)
  )
 refine ab.aP (σ:=Int × List Int × Nat) 0 1 [] (fun p=>[(3,.gr 0 1 p.2.2),(8,bY ρ (zk ρ) true L),(9,.v (.int .i64 m)),(10,.v (.int .i64 p.1))]) [] (fun p=>[(0,mg ρ p.2.1)])
  (fun p=>∃ k:Nat,p.1=k/\k<=L.length/\R=p.2.1++oe (L.drop k)/\p.2.2=p.2.1.length) (fun p=>L.length - p.1.toNat) (0,[],0) ⟨0,rfl,by simp,by simpa using hR,rfl⟩ rfl (by exact⟨sq,rfl,⟨.inr rfl,trivial⟩,rfl,rfl,rfl⟩) ?_
 rintro⟨j,acc,len⟩ ⟨k,hj,hk,hp,fA⟩
 simp only at hj hp fA
 clear hR
 refine gq kA ?_
 by_cases au:k < L.length
 ·obtain⟨y,eC,cT⟩:=aA au
  obtain⟨hyl,WC⟩:=hL y (List.mem_of_getElem? eC)
  obtain⟨rest,kn⟩:∃ r,r=oe (L.drop (k+1)):=⟨_,rfl⟩
  rw [cT,oe,List.flatMap_cons,<-oe,<-kn] at hp
  repeat' (first
   |(refine ab.op rfl (ad.ind rfl rfl (ay (l:=L) hj eC) (aw fun _=>rfl)) ?_;refine gq kA ?_)
   |(refine ab.int rfl (ad.len rfl) fun m2 g7=>?_;rw [af] at g7;refine gq kA ?_)
   |(refine bq (fun hb=>?_) (fun hb=>?_)<;>(try simp only [aq] at hb)<;>(first|refine gq kA ?_))
   |(refine ab.ao ?_;refine gq kA ?_)
   |(refine fq ?_))
  all_goals first
   |(exfalso;omega)
   |skip
  refine ab.aP (σ:=Int × List Int × Nat) 1 2 [(1,0)] (fun p=>[(3,.gr 1 1 p.2.2),(8,bY ρ (zk ρ) true L),(9,.v (.int .i64 m)),(10,.v (.int .i64 j)),(14,dC ρ y),(15,.v (.int .i64 m2)),(16,.v (.int .i64 p.1))]) [] (fun p=>[(1,mg ρ p.2.1)])
   (fun p=>∃ q:Nat,p.1=q/\q<=y.length/\R=p.2.1++(tr (y.drop q)++rest)/\p.2.2=p.2.1.length) (fun p=>y.length - p.1.toNat) (0,acc,len) ⟨0,rfl,by simp,by simpa using hp,fA⟩ rfl (by exact⟨sq,rfl,⟨.inl ⟨_,rfl,.same cW⟩,trivial⟩,rfl,rfl,rfl⟩) ?_
  rintro⟨i,dk,gy⟩ ⟨q,hi,hq,ca,kT⟩
  simp only at hi ca kT
  clear hp fA
  refine gq kA ?_
  by_cases iM:q < y.length
  ·obtain⟨x,fO,aQ⟩:=aA iM
   obtain⟨lH,o9,WD⟩:=WC x (List.mem_of_getElem? fO)
   have hV:=afV (w0:=w0) (ρ:=ρ) x lH o9 WD
   rw [aQ,tr,List.flatMap_cons,<-tr] at ca
   obtain⟨V,Lp⟩:∃ V,V=varsOf x.a:=⟨_,rfl⟩
   rw [<-Lp] at ca hV
   have lV:dk.length+V.length<=1099511627776:=by
    have:=congrArg List.length ca
    simp only [List.length_append] at this
    omega
   clear Lp
   obtain⟨xo,xn,xa⟩:=x
   repeat' (first
    |(refine ab.op rfl (ad.ind rfl rfl (ay (l:=y) hi fO) (aw fun _=>rfl)) ?_;refine gq kA ?_)
    |(refine ab.op rfl (ad.ag rfl hV ⟨eE (ρ:=ρ) ⟨xo,xn,xa⟩,trivial⟩) ?_;refine gq kA ?_)
    |((refine ab.MW (f:=bJ) rfl rfl rfl kT (fun _=>rfl) rfl (fun _=>rfl) (fun _=>rfl) (by omega) (fun vN=>?_) (fun ff oA vN fZ gM=>?_)<;>refine gq kA ?_))
    |(refine bq (fun hb=>?_) (fun hb=>?_)<;>(try simp only [aq] at hb)<;>(first|refine gq kA ?_))
    |(refine aS fun _ _=>?_;refine gq kA ?_)
    |(refine ab.ao ?_;refine gq kA ?_)
    )
   all_goals first
    |(exfalso;omega)
    |(refine ab.aK (σ:=Int × List Int × Nat) (_,dk,gy) [(1,1)] ?_ ?_ (by exact⟨sq,rfl,⟨.inl ⟨_,rfl,.same cW⟩,trivial⟩,rfl,rfl,rfl⟩)
      ·exact⟨q+1,by simp only;omega,by omega,by rw [ca,vN];rfl,kT⟩
      ·simp only;omega)
    |(refine ab.aK (σ:=Int × List Int × Nat) (_,ff,oA) [(1,3)] ?_ ?_ (by exact⟨sq,rfl,⟨.inl ⟨_,rfl,.same cW⟩,trivial⟩,rfl,rfl,rfl⟩)
      ·exact⟨q+1,by simp only;omega,by omega,by rw [ca,fZ];simp only [List.append_assoc],gM⟩
      ·simp only;omega)
  ·rw [List.drop_eq_nil_of_le (by omega),tr,List.flatMap_nil,List.nil_append] at ca
   repeat' (first
    |(refine bq (fun hb=>?_) (fun hb=>?_)<;>(try simp only [aq] at hb)<;>(first|refine gq kA ?_))
    |(refine aS fun _ _=>?_;refine gq kA ?_)
    |(refine ab.ao ?_;refine gq kA ?_)
    )
   all_goals first
    |(exfalso;omega)
    |(refine ab.aK (σ:=Int × List Int × Nat) (_,dk,gy) [(0,1)] ?_ ?_ (by exact⟨sq,rfl,⟨.inl ⟨_,rfl,.same cW⟩,trivial⟩,rfl,rfl,rfl⟩)
      ·exact⟨k+1,by simp only;omega,by omega,by rw [ca,kn],kT⟩
      ·simp only;omega)
 ·rw [List.drop_eq_nil_of_le (by omega),oe,List.flatMap_nil,List.append_nil] at hp
  repeat' (first
   |(refine bq (fun hb=>?_) (fun hb=>?_)<;>(try simp only [aq] at hb)<;>(first|refine gq kA ?_))
   |(refine ab.ao ?_;refine gq kA ?_)
   |(refine fq ?_))
  all_goals first
   |(exfalso;omega)
   |skip
  subst hp
  obtain rfl:len=cF:=by omega
  exact⟨[(0,0)],.ll rfl rfl,⟨.inl ⟨_,rfl,.same cW⟩,trivial⟩,rfl⟩
theorem WE (L:List (List Gl)) (hl:L.length<=1099511627776) (hL:∀ l ∈ L,l.length<=1099511627776/\∀ x ∈ l,xm x.a) (hn:(oe L).length<=1099511627776) :
  ah Tryz.prog w0 285 [bY ρ (zk ρ) true L] (bY ρ bJ false (oe L)):=by
 obtain⟨len,h1,h2⟩:=afX (w0:=w0) (ρ:=ρ) L hl hL _ rfl hn
 exact ah.KV h2 (aX.grow rfl h1) (bR _)
end
end
end Go.Proofs.YtgphljokbodciaaGreat
