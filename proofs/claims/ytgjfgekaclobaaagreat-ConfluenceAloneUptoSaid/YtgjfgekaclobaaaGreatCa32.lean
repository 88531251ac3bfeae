import Derived.Test.YtgjfgekaclobaaaGreatCa31
namespace Go.Proofs.YtgjfgekaclobaaaGreat
set_option linter.unusedVariables false
set_option linter.unusedSimpArgs false
open Go.RowKit
section
set_option maxRecDepth 100000
attribute [local irreducible] ah aK ae aa
def UP:CF Tryz.f204:=⟨_,by conv=>lhs;cbv⟩
theorem adZ:aT Tryz.prog 204 UP.1 Tryz.f204.ntmps:=bX Tryz.func204 UP.2 Tryz.call204
def kS:List Nat:=[10,16,3,2,0,9,11,8,5,15,17,14,7]
def UQ:CF Tryz.f205:=⟨_,by conv=>lhs;cbv⟩
theorem ad0:aT Tryz.prog 205 UQ.1 Tryz.f205.ntmps:=bX Tryz.func205 UQ.2 Tryz.call205
def kT:List Nat:=[10,16,3,2,0,9,11,8,5,15,17,14,7]
def zz (a:List Tm):Prop:=a.length<=1099511627776/\mc a/\(dL a).length<=1099511627776
section
variable {w0:World}{ρ:Hd}
theorem aj1 (x:At) (h1:x.a.length<=1099511627776) (h2:mc x.a) (h3:(dL x.a).length<=1099511627776):ah Tryz.prog w0 143 [at_ ρ x] (cE ρ cM false (varsOf x.a)):=J9 x h1 h2 h3
theorem aj2 (x:Gl) (h1:x.a.length<=1099511627776) (h2:mc x.a) (h3:(dL x.a).length<=1099511627776):ah Tryz.prog w0 141 [gl ρ x] (cE ρ cM false (varsOf x.a)):=J8 x h1 h2 h3
end
def zA (l:List At):List Int:=l.flatMap fun x=>varsOf x.a
def D8 (L:List (List At)):List Int:=L.flatMap zA
def rowAt (ρ:Hd) (l:List At):List AV:=[dh ρ l]
section
variable {w0:World}{ρ:Hd}
theorem Ks (L:List (List At)):Pure (cE ρ (rowAt ρ) true L):=fg fun x _ a ha=>by
 obtain rfl:=List.mem_singleton.1 ha
 exact dy x
theorem aj3 (L:List (List At)) (hl:L.length<=1099511627776) (hL:∀ l ∈ L,l.length<=1099511627776/\∀ x ∈ l,zz x.a) (R:List Int) (hR:R=D8 L) (hn:R.length<=1099511627776) :
  ∃ len,len=R.length/\aK Tryz.prog w0 204 [cE ρ (rowAt ρ) true L] (au [] 0) (.gr 0 1 len) (au [(0,F3 ρ R)] 1):=by
 refine⟨_,rfl,?_⟩
 obtain⟨eU,vp⟩:∃ n,n=R.length:=⟨_,rfl⟩
 rw [<-vp]
 have UR:=Ks (ρ:=ρ) L
 refine aT.fM 0 1 _ adZ (by simp [Tryz.ntmps204]) rfl rfl ?_
 refine gq kS ?_
 repeat' (first
  |(refine bL fun m hm=>?_;(try rw [aF] at hm);refine gq kS ?_)
  )
 refine aa.bP (σ:=Int × List Int × Nat) 0 1 [] (fun p=>[(3,.gr 0 1 p.2.2),(8,cE ρ (rowAt ρ) true L),(9,.v (.int .i64 m)),(10,.v (.int .i64 p.1))]) [] (fun p=>[(0,F3 ρ p.2.1)])
  (fun p=>∃ k:Nat,p.1=k/\k<=L.length/\R=p.2.1++D8 (L.drop k)/\p.2.2=p.2.1.length) (fun p=>L.length - p.1.toNat) (0,[],0) ⟨0,rfl,by simp,by simpa using hR,rfl⟩ rfl (by exact⟨sq,rfl,⟨.inr rfl,trivial⟩,rfl,rfl,rfl⟩) ?_
 rintro⟨j,acc,len⟩ ⟨k,hj,hk,hp,sZ⟩
 simp only at hj hp sZ
 clear hR
 refine gq kS ?_
 by_cases aA:k < L.length
 ·obtain⟨y,oV,tZ⟩:=cd aA
  obtain⟨hyl,hyx⟩:=hL y (List.mem_of_getElem? oV)
  obtain⟨rest,nD⟩:∃ r,r=D8 (L.drop (k+1)):=⟨_,rfl⟩
  rw [tZ,D8,List.flatMap_cons,<-D8,<-nD] at hp
  repeat' (first
   |(refine aa.op rfl (ae.ind rfl rfl (bU (l:=L) hj oV) (bV fun _=>rfl)) ?_;refine gq kS ?_)
   |(refine aa.int rfl (ae.len rfl) fun m2 gH=>?_;rw [aF] at gH;refine gq kS ?_)
   |(refine bq (fun hb=>?_) (fun hb=>?_)<;>(try simp only [aM] at hb)<;>(first|refine gq kS ?_))
   |(refine aa.aR ?_;refine gq kS ?_)
   |(refine fq ?_))
  all_goals first
   |(exfalso;omega)
   |skip
  refine aa.bP (σ:=Int × List Int × Nat) 1 2 [(1,0)] (fun p=>[(3,.gr 1 1 p.2.2),(8,cE ρ (rowAt ρ) true L),(9,.v (.int .i64 m)),(10,.v (.int .i64 j)),(14,dh ρ y),(15,.v (.int .i64 m2)),(16,.v (.int .i64 p.1))]) [] (fun p=>[(1,F3 ρ p.2.1)])
   (fun p=>∃ q:Nat,p.1=q/\q<=y.length/\R=p.2.1++(zA (y.drop q)++rest)/\p.2.2=p.2.1.length) (fun p=>y.length - p.1.toNat) (0,acc,len) ⟨0,rfl,by simp,by simpa using hp,sZ⟩ rfl (by exact⟨sq,rfl,⟨.inl ⟨_,rfl,.same iF⟩,trivial⟩,rfl,rfl,rfl⟩) ?_
  rintro⟨i,xF,Av⟩ ⟨q,hi,hq,iN,vx⟩
  simp only at hi iN vx
  clear hp sZ
  refine gq kS ?_
  by_cases z7:q < y.length
  ·obtain⟨x,iM,cg⟩:=cd z7
   obtain⟨nk,r9,ox3⟩:=hyx x (List.mem_of_getElem? iM)
   have hV:=aj1 (w0:=w0) (ρ:=ρ) x nk r9 ox3
   rw [cg,zA,List.flatMap_cons,<-zA] at iN
   obtain⟨V,O0⟩:∃ V,V=varsOf x.a:=⟨_,rfl⟩
   rw [<-O0] at iN hV
   have BC:xF.length+V.length<=1099511627776:=by
    have:=congrArg List.length iN
    simp only [List.length_append] at this
    omega
   clear O0
   obtain⟨xn,xa⟩:=x
   repeat' (first
    |(refine aa.op rfl (ae.ind rfl rfl (bU (l:=y) hi iM) (bV fun _=>rfl)) ?_;refine gq kS ?_)
    |(refine aa.op rfl (ae.aL rfl hV ⟨mI (ρ:=ρ) ⟨xn,xa⟩,trivial⟩) ?_;refine gq kS ?_)
    |((refine aa.Z7 (f:=cM) rfl rfl rfl vx (fun _=>rfl) rfl (fun _=>rfl) (fun _=>rfl) (by omega) (fun O1=>?_) (fun Gf Kt O1 BD BE=>?_)<;>refine gq kS ?_))
    |(refine bq (fun hb=>?_) (fun hb=>?_)<;>(try simp only [aM] at hb)<;>(first|refine gq kS ?_))
    |(refine cr fun _ _=>?_;refine gq kS ?_)
    |(refine aa.aR ?_;refine gq kS ?_)
    )
   all_goals first
    |(exfalso;omega)
    |(refine aa.bm (σ:=Int × List Int × Nat) (_,xF,Av) [(1,1)] ?_ ?_ (by exact⟨sq,rfl,⟨.inl ⟨_,rfl,.same iF⟩,trivial⟩,rfl,rfl,rfl⟩)
      ·exact⟨q+1,by simp only;omega,by omega,by rw [iN,O1];rfl,vx⟩
      ·simp only;omega)
    |(refine aa.bm (σ:=Int × List Int × Nat) (_,Gf,Kt) [(1,3)] ?_ ?_ (by exact⟨sq,rfl,⟨.inl ⟨_,rfl,.same iF⟩,trivial⟩,rfl,rfl,rfl⟩)
      ·exact⟨q+1,by simp only;omega,by omega,by rw [iN,BD];simp only [List.append_assoc],BE⟩
      ·simp only;omega)
  ·rw [List.drop_eq_nil_of_le (by omega),zA,List.flatMap_nil,List.nil_append] at iN
   repeat' (first
    |(refine bq (fun hb=>?_) (fun hb=>?_)<;>(try simp only [aM] at hb)<;>(first|refine gq kS ?_))
    |(refine cr fun _ _=>?_;refine gq kS ?_)
    |(refine aa.aR ?_;refine gq kS ?_)
    )
   all_goals first
    |(exfalso;omega)
    |(refine aa.bm (σ:=Int × List Int × Nat) (_,xF,Av) [(0,1)] ?_ ?_ (by exact⟨sq,rfl,⟨.inl ⟨_,rfl,.same iF⟩,trivial⟩,rfl,rfl,rfl⟩)
      ·exact⟨k+1,by simp only;omega,by omega,by rw [iN,nD],vx⟩
      ·simp only;omega)
 ·rw [List.drop_eq_nil_of_le (by omega),D8,List.flatMap_nil,List.append_nil] at hp
  repeat' (first
   |(refine bq (fun hb=>?_) (fun hb=>?_)<;>(try simp only [aM] at hb)<;>(first|refine gq kS ?_))
   |(refine aa.aR ?_;refine gq kS ?_)
   |(refine fq ?_))
  all_goals first
   |(exfalso;omega)
   |skip
  subst hp
  obtain rfl:len=eU:=by omega
  exact⟨[(0,0)],.jc rfl rfl,⟨.inl ⟨_,rfl,.same iF⟩,trivial⟩,rfl⟩
end
def zB (l:List Gl):List Int:=l.flatMap fun x=>varsOf x.a
def r_ (L:List (List Gl)):List Int:=L.flatMap zB
def BF (ρ:Hd) (l:List Gl):List AV:=[eP ρ l]
section
variable {w0:World}{ρ:Hd}
theorem Ku (L:List (List Gl)):Pure (cE ρ (BF ρ) true L):=fg fun x _ a ha=>by
 obtain rfl:=List.mem_singleton.1 ha
 exact dz x
theorem aj4 (L:List (List Gl)) (hl:L.length<=1099511627776) (hL:∀ l ∈ L,l.length<=1099511627776/\∀ x ∈ l,zz x.a) (R:List Int) (hR:R=r_ L) (hn:R.length<=1099511627776) :
  ∃ len,len=R.length/\aK Tryz.prog w0 205 [cE ρ (BF ρ) true L] (au [] 0) (.gr 0 1 len) (au [(0,F3 ρ R)] 1):=by
 refine⟨_,rfl,?_⟩
 obtain⟨eU,vp⟩:∃ n,n=R.length:=⟨_,rfl⟩
 rw [<-vp]
 have UR:=Ku (ρ:=ρ) L
 refine aT.fM 0 1 _ ad0 (by simp [Tryz.ntmps205]) rfl rfl ?_
 refine gq kT ?_
 repeat' (first
  |(refine bL fun m hm=>?_;(try rw [aF] at hm);refine gq kT ?_)
  )
 refine aa.bP (σ:=Int × List Int × Nat) 0 1 [] (fun p=>[(3,.gr 0 1 p.2.2),(8,cE ρ (BF ρ) true L),(9,.v (.int .i64 m)),(10,.v (.int .i64 p.1))]) [] (fun p=>[(0,F3 ρ p.2.1)])
  (fun p=>∃ k:Nat,p.1=k/\k<=L.length/\R=p.2.1++r_ (L.drop k)/\p.2.2=p.2.1.length) (fun p=>L.length - p.1.toNat) (0,[],0) ⟨0,rfl,by simp,by simpa using hR,rfl⟩ rfl (by exact⟨sq,rfl,⟨.inr rfl,trivial⟩,rfl,rfl,rfl⟩) ?_
 rintro⟨j,acc,len⟩ ⟨k,hj,hk,hp,sZ⟩
 simp only at hj hp sZ
 clear hR
 refine gq kT ?_
 by_cases aA:k < L.length
 ·obtain⟨y,oV,tZ⟩:=cd aA
  obtain⟨hyl,hyx⟩:=hL y (List.mem_of_getElem? oV)
  obtain⟨rest,nD⟩:∃ r,r=r_ (L.drop (k+1)):=⟨_,rfl⟩
  rw [tZ,r_,List.flatMap_cons,<-r_,<-nD] at hp
  repeat' (first
   |(refine aa.op rfl (ae.ind rfl rfl (bU (l:=L) hj oV) (bV fun _=>rfl)) ?_;refine gq kT ?_)
   |(refine aa.int rfl (ae.len rfl) fun m2 gH=>?_;rw [aF] at gH;refine gq kT ?_)
   |(refine bq (fun hb=>?_) (fun hb=>?_)<;>(try simp only [aM] at hb)<;>(first|refine gq kT ?_))
   |(refine aa.aR ?_;refine gq kT ?_)
   |(refine fq ?_))
  all_goals first
   |(exfalso;omega)
   |skip
  refine aa.bP (σ:=Int × List Int × Nat) 1 2 [(1,0)] (fun p=>[(3,.gr 1 1 p.2.2),(8,cE ρ (BF ρ) true L),(9,.v (.int .i64 m)),(10,.v (.int .i64 j)),(14,eP ρ y),(15,.v (.int .i64 m2)),(16,.v (.int .i64 p.1))]) [] (fun p=>[(1,F3 ρ p.2.1)])
   (fun p=>∃ q:Nat,p.1=q/\q<=y.length/\R=p.2.1++(zB (y.drop q)++rest)/\p.2.2=p.2.1.length) (fun p=>y.length - p.1.toNat) (0,acc,len) ⟨0,rfl,by simp,by simpa using hp,sZ⟩ rfl (by exact⟨sq,rfl,⟨.inl ⟨_,rfl,.same iF⟩,trivial⟩,rfl,rfl,rfl⟩) ?_
  rintro⟨i,xF,Av⟩ ⟨q,hi,hq,iN,vx⟩
  simp only at hi iN vx
  clear hp sZ
  refine gq kT ?_
  by_cases z7:q < y.length
  ·obtain⟨x,iM,cg⟩:=cd z7
   obtain⟨nk,r9,ox3⟩:=hyx x (List.mem_of_getElem? iM)
   have hV:=aj2 (w0:=w0) (ρ:=ρ) x nk r9 ox3
   rw [cg,zB,List.flatMap_cons,<-zB] at iN
   obtain⟨V,O0⟩:∃ V,V=varsOf x.a:=⟨_,rfl⟩
   rw [<-O0] at iN hV
   have BC:xF.length+V.length<=1099511627776:=by
    have:=congrArg List.length iN
    simp only [List.length_append] at this
    omega
   clear O0
   obtain⟨xo,xn,xa⟩:=x
   repeat' (first
    |(refine aa.op rfl (ae.ind rfl rfl (bU (l:=y) hi iM) (bV fun _=>rfl)) ?_;refine gq kT ?_)
    |(refine aa.op rfl (ae.aL rfl hV ⟨q9 (ρ:=ρ) ⟨xo,xn,xa⟩,trivial⟩) ?_;refine gq kT ?_)
    |((refine aa.Z7 (f:=cM) rfl rfl rfl vx (fun _=>rfl) rfl (fun _=>rfl) (fun _=>rfl) (by omega) (fun O1=>?_) (fun Gf Kt O1 BD BE=>?_)<;>refine gq kT ?_))
    |(refine bq (fun hb=>?_) (fun hb=>?_)<;>(try simp only [aM] at hb)<;>(first|refine gq kT ?_))
    |(refine cr fun _ _=>?_;refine gq kT ?_)
    |(refine aa.aR ?_;refine gq kT ?_)
    )
   all_goals first
    |(exfalso;omega)
    |(refine aa.bm (σ:=Int × List Int × Nat) (_,xF,Av) [(1,1)] ?_ ?_ (by exact⟨sq,rfl,⟨.inl ⟨_,rfl,.same iF⟩,trivial⟩,rfl,rfl,rfl⟩)
      ·exact⟨q+1,by simp only;omega,by omega,by rw [iN,O1];rfl,vx⟩
      ·simp only;omega)
    |(refine aa.bm (σ:=Int × List Int × Nat) (_,Gf,Kt) [(1,3)] ?_ ?_ (by exact⟨sq,rfl,⟨.inl ⟨_,rfl,.same iF⟩,trivial⟩,rfl,rfl,rfl⟩)
      ·exact⟨q+1,by simp only;omega,by omega,by rw [iN,BD];simp only [List.append_assoc],BE⟩
      ·simp only;omega)
  ·rw [List.drop_eq_nil_of_le (by omega),zB,List.flatMap_nil,List.nil_append] at iN
   repeat' (first
    |(refine bq (fun hb=>?_) (fun hb=>?_)<;>(try simp only [aM] at hb)<;>(first|refine gq kT ?_))
    |(refine cr fun _ _=>?_;refine gq kT ?_)
    |(refine aa.aR ?_;refine gq kT ?_)
    )
   all_goals first
    |(exfalso;omega)
    |(refine aa.bm (σ:=Int × List Int × Nat) (_,xF,Av) [(0,1)] ?_ ?_ (by exact⟨sq,rfl,⟨.inl ⟨_,rfl,.same iF⟩,trivial⟩,rfl,rfl,rfl⟩)
      ·exact⟨k+1,by simp only;omega,by omega,by rw [iN,nD],vx⟩
      ·simp only;omega)
 ·rw [List.drop_eq_nil_of_le (by omega),r_,List.flatMap_nil,List.append_nil] at hp
  repeat' (first
   |(refine bq (fun hb=>?_) (fun hb=>?_)<;>(try simp only [aM] at hb)<;>(first|refine gq kT ?_))
   |(refine aa.aR ?_;refine gq kT ?_)
   |(refine fq ?_))
  all_goals first
   |(exfalso;omega)
   |skip
  subst hp
  obtain rfl:len=eU:=by omega
  exact⟨[(0,0)],.jc rfl rfl,⟨.inl ⟨_,rfl,.same iF⟩,trivial⟩,rfl⟩
theorem aax (L:List (List Gl)) (hl:L.length<=1099511627776) (hL:∀ l ∈ L,l.length<=1099511627776/\∀ x ∈ l,zz x.a) (hn:(r_ L).length<=1099511627776) :
  ah Tryz.prog w0 205 [cE ρ (BF ρ) true L] (cE ρ cM false (r_ L)):=by
 obtain⟨len,h1,h2⟩:=aj4 (w0:=w0) (ρ:=ρ) L hl hL _ rfl hn
 exact ah.xm h2 (bp.grow rfl h1) (gy _)
end
end
end Go.Proofs.YtgjfgekaclobaaaGreat
