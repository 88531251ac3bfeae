import Derived.Test.YtbofilglphfceaaGreatQ31
namespace Go.Proofs.YtbofilglphfceaaGreat
set_option linter.unusedVariables false
set_option linter.unusedSimpArgs false
open Go.RowKit
section
set_option maxRecDepth 100000
attribute [local irreducible] ah bc ad ab
def Ps:CF Tryz.f186:=⟨_,by conv=>lhs;cbv⟩
theorem Yk:aH Tryz.prog 186 Ps.1 Tryz.f186.ntmps:=aQ Tryz.func186 Ps.2 Tryz.call186
def j2:List Nat:=[10,16,3,2,0,9,11,8,5,15,17,14,7]
def Pt:CF Tryz.f187:=⟨_,by conv=>lhs;cbv⟩
theorem Yl:aH Tryz.prog 187 Pt.1 Tryz.f187.ntmps:=aQ Tryz.func187 Pt.2 Tryz.call187
def j3:List Nat:=[10,16,3,2,0,9,11,8,5,15,17,14,7]
def wx (a:List Tm):Prop:=a.length<=1099511627776/\eg a/\(aT a).length<=1099511627776
section
variable {w0:World}{ρ:Hd}
theorem abP (x:At) (h1:x.a.length<=1099511627776) (h2:eg x.a) (h3:(aT x.a).length<=1099511627776):ah Tryz.prog w0 115 [at_ ρ x] (b8 ρ bF false (varsOf x.a)):=yb x h1 h2 h3
theorem abQ (x:Gl) (h1:x.a.length<=1099511627776) (h2:eg x.a) (h3:(aT x.a).length<=1099511627776):ah Tryz.prog w0 112 [gl ρ x] (b8 ρ bF false (varsOf x.a)):=tc x h1 h2 h3
end
def tL (l:List At):List Int:=l.flatMap fun x=>varsOf x.a
def xJ (L:List (List At)):List Int:=L.flatMap tL
def rowAt (ρ:Hd) (l:List At):List AV:=[eO ρ l]
section
variable {w0:World}{ρ:Hd}
theorem Gv (L:List (List At)):Pure (b8 ρ (rowAt ρ) true L):=h_ fun x _ a ha=>by
 obtain rfl:=List.mem_singleton.1 ha
 exact gy x
theorem abR (L:List (List At)) (hl:L.length<=1099511627776) (hL:∀ l ∈ L,l.length<=1099511627776/\∀ x ∈ l,wx x.a) (R:List Int) (hR:R=xJ L) (hn:R.length<=1099511627776) :
  ∃ len,len=R.length/\bc Tryz.prog w0 186 [b8 ρ (rowAt ρ) true L] (aM [] 0) (.gr 0 1 len) (aM [(0,lQ ρ R)] 1):=by
 refine⟨_,rfl,?_⟩
 obtain⟨cU,lh⟩:∃ n,n=R.length:=⟨_,rfl⟩
 rw [<-lh]
 have hpu:=Gv (ρ:=ρ) L
 refine aH.jM 0 1 _ Yk (by simp [Tryz.ntmps186]) rfl rfl ?_
 refine gq j2 ?_
 repeat' (first
  |(refine aB fun m hm=>?_;(try rw [af] at hm);refine gq j2 ?_)
  )
 refine ab.aP (σ:=Int × List Int × Nat) 0 1 [] (fun p=>[(3,.gr 0 1 p.2.2),(8,b8 ρ (rowAt ρ) true L),(9,.v (.int .i64 m)),(10,.v (.int .i64 p.1))]) [] (fun p=>[(0,lQ ρ p.2.1)])
  (fun p=>∃ k:Nat,p.1=k/\k<=L.length/\R=p.2.1++xJ (L.drop k)/\p.2.2=p.2.1.length) (fun p=>L.length - p.1.toNat) (0,[],0) ⟨0,rfl,by simp,by simpa using hR,rfl⟩ rfl (by exact⟨sq,rfl,⟨.inr rfl,trivial⟩,rfl,rfl,rfl⟩) ?_
 rintro⟨j,acc,len⟩ ⟨k,hj,hk,hp,kL⟩
 simp only at hj hp kL
 clear hR
 refine gq j2 ?_
 by_cases au:k < L.length
 ·obtain⟨y,fP,cP⟩:=az au
  obtain⟨hyl,Uq⟩:=hL y (List.mem_of_getElem? fP)
  obtain⟨rest,pn⟩:∃ r,r=xJ (L.drop (k+1)):=⟨_,rfl⟩
  rw [cP,xJ,List.flatMap_cons,<-xJ,<-pn] at hp
  repeat' (first
   |(refine ab.op rfl (ad.ind rfl rfl (ay (l:=L) hj fP) (aw fun _=>rfl)) ?_;refine gq j2 ?_)
   |(refine ab.int rfl (ad.len rfl) fun m2 g_=>?_;rw [af] at g_;refine gq j2 ?_)
   |(refine bq (fun hb=>?_) (fun hb=>?_)<;>(try simp only [aq] at hb)<;>(first|refine gq j2 ?_))
   |(refine ab.ao ?_;refine gq j2 ?_)
   |(refine fq ?_))
  all_goals first
   |(exfalso;omega)
   |skip
  refine ab.aP (σ:=Int × List Int × Nat) 1 2 [(1,0)] (fun p=>[(3,.gr 1 1 p.2.2),(8,b8 ρ (rowAt ρ) true L),(9,.v (.int .i64 m)),(10,.v (.int .i64 j)),(14,eO ρ y),(15,.v (.int .i64 m2)),(16,.v (.int .i64 p.1))]) [] (fun p=>[(1,lQ ρ p.2.1)])
   (fun p=>∃ q:Nat,p.1=q/\q<=y.length/\R=p.2.1++(tL (y.drop q)++rest)/\p.2.2=p.2.1.length) (fun p=>y.length - p.1.toNat) (0,acc,len) ⟨0,rfl,by simp,by simpa using hp,kL⟩ rfl (by exact⟨sq,rfl,⟨.inl ⟨_,rfl,.same cV⟩,trivial⟩,rfl,rfl,rfl⟩) ?_
  rintro⟨i,dE,i_⟩ ⟨q,hi,hq,dN,nV⟩
  simp only at hi dN nV
  clear hp kL
  refine gq j2 ?_
  by_cases gu:q < y.length
  ·obtain⟨x,gT,aO⟩:=az gu
   obtain⟨kR,oA,Ur⟩:=Uq x (List.mem_of_getElem? gT)
   have hV:=abP (w0:=w0) (ρ:=ρ) x kR oA Ur
   rw [aO,tL,List.flatMap_cons,<-tL] at dN
   obtain⟨V,JW⟩:∃ V,V=varsOf x.a:=⟨_,rfl⟩
   rw [<-JW] at dN hV
   have py:dE.length+V.length<=1099511627776:=by
    have:=congrArg List.length dN
    simp only [List.length_append] at this
    omega
   clear JW
   obtain⟨xn,xa⟩:=x
   repeat' (first
    |(refine ab.op rfl (ad.ind rfl rfl (ay (l:=y) hi gT) (aw fun _=>rfl)) ?_;refine gq j2 ?_)
    |(refine ab.op rfl (ad.ag rfl hV ⟨de (ρ:=ρ) ⟨xn,xa⟩,trivial⟩) ?_;refine gq j2 ?_)
    |((refine ab.Lw (f:=bF) rfl rfl rfl nV (fun _=>rfl) rfl (fun _=>rfl) (fun _=>rfl) (by omega) (fun uR=>?_) (fun fC oS uR gJ iz=>?_)<;>refine gq j2 ?_))
    |(refine bq (fun hb=>?_) (fun hb=>?_)<;>(try simp only [aq] at hb)<;>(first|refine gq j2 ?_))
    |(refine aS fun _ _=>?_;refine gq j2 ?_)
    |(refine ab.ao ?_;refine gq j2 ?_)
    )
   all_goals first
    |(exfalso;omega)
    |(refine ab.aL (σ:=Int × List Int × Nat) (_,dE,i_) [(1,1)] ?_ ?_ (by exact⟨sq,rfl,⟨.inl ⟨_,rfl,.same cV⟩,trivial⟩,rfl,rfl,rfl⟩)
      ·exact⟨q+1,by simp only;omega,by omega,by rw [dN,uR];rfl,nV⟩
      ·simp only;omega)
    |(refine ab.aL (σ:=Int × List Int × Nat) (_,fC,oS) [(1,3)] ?_ ?_ (by exact⟨sq,rfl,⟨.inl ⟨_,rfl,.same cV⟩,trivial⟩,rfl,rfl,rfl⟩)
      ·exact⟨q+1,by simp only;omega,by omega,by rw [dN,gJ];simp only [List.append_assoc],iz⟩
      ·simp only;omega)
  ·rw [List.drop_eq_nil_of_le (by omega),tL,List.flatMap_nil,List.nil_append] at dN
   repeat' (first
    |(refine bq (fun hb=>?_) (fun hb=>?_)<;>(try simp only [aq] at hb)<;>(first|refine gq j2 ?_))
    |(refine aS fun _ _=>?_;refine gq j2 ?_)
    |(refine ab.ao ?_;refine gq j2 ?_)
    )
   all_goals first
    |(exfalso;omega)
    |(refine ab.aL (σ:=Int × List Int × Nat) (_,dE,i_) [(0,1)] ?_ ?_ (by exact⟨sq,rfl,⟨.inl ⟨_,rfl,.same cV⟩,trivial⟩,rfl,rfl,rfl⟩)
      ·exact⟨k+1,by simp only;omega,by omega,by rw [dN,pn],nV⟩
      ·simp only;omega)
 ·rw [List.drop_eq_nil_of_le (by omega),xJ,List.flatMap_nil,List.append_nil] at hp
  repeat' (first
   |(refine bq (fun hb=>?_) (fun hb=>?_)<;>(try simp only [aq] at hb)<;>(first|refine gq j2 ?_))
   |(refine ab.ao ?_;refine gq j2 ?_)
   |(refine fq ?_))
  all_goals first
   |(exfalso;omega)
   |skip
  subst hp
  obtain rfl:len=cU:=by omega
  exact⟨[(0,0)],.lI rfl rfl,⟨.inl ⟨_,rfl,.same cV⟩,trivial⟩,rfl⟩
end
def r7 (l:List Gl):List Int:=l.flatMap fun x=>varsOf x.a
def nn (L:List (List Gl)):List Int:=L.flatMap r7
def yy (ρ:Hd) (l:List Gl):List AV:=[cO ρ l]
section
variable {w0:World}{ρ:Hd}
theorem Gw (L:List (List Gl)):Pure (b8 ρ (yy ρ) true L):=h_ fun x _ a ha=>by
 obtain rfl:=List.mem_singleton.1 ha
 exact bw x
theorem abS (L:List (List Gl)) (hl:L.length<=1099511627776) (hL:∀ l ∈ L,l.length<=1099511627776/\∀ x ∈ l,wx x.a) (R:List Int) (hR:R=nn L) (hn:R.length<=1099511627776) :
  ∃ len,len=R.length/\bc Tryz.prog w0 187 [b8 ρ (yy ρ) true L] (aM [] 0) (.gr 0 1 len) (aM [(0,lQ ρ R)] 1):=by
 refine⟨_,rfl,?_⟩
 obtain⟨cU,lh⟩:∃ n,n=R.length:=⟨_,rfl⟩
 rw [<-lh]
 have hpu:=Gw (ρ:=ρ) L
 refine aH.jM 0 1 _ Yl (by simp [Tryz.ntmps187]) rfl rfl ?_
 refine gq j3 ?_
 repeat' (first
  |(refine aB fun m hm=>?_;(try rw [af] at hm);refine gq j3 ?_)
  )
 refine ab.aP (σ:=Int × List Int × Nat) 0 1 [] (fun p=>[(3,.gr 0 1 p.2.2),(8,b8 ρ (yy ρ) true L),(9,.v (.int .i64 m)),(10,.v (.int .i64 p.1))]) [] (fun p=>[(0,lQ ρ p.2.1)])
  (fun p=>∃ k:Nat,p.1=k/\k<=L.length/\R=p.2.1++nn (L.drop k)/\p.2.2=p.2.1.length) (fun p=>L.length - p.1.toNat) (0,[],0) ⟨0,rfl,by simp,by simpa using hR,rfl⟩ rfl (by exact⟨sq,rfl,⟨.inr rfl,trivial⟩,rfl,rfl,rfl⟩) ?_
 rintro⟨j,acc,len⟩ ⟨k,hj,hk,hp,kL⟩
 simp only at hj hp kL
 clear hR
 refine gq j3 ?_
 by_cases au:k < L.length
 ·obtain⟨y,fP,cP⟩:=az au
  obtain⟨hyl,Uq⟩:=hL y (List.mem_of_getElem? fP)
  obtain⟨rest,pn⟩:∃ r,r=nn (L.drop (k+1)):=⟨_,rfl⟩
  rw [cP,nn,List.flatMap_cons,<-nn,<-pn] at hp
  repeat' (first
   |(refine ab.op rfl (ad.ind rfl rfl (ay (l:=L) hj fP) (aw fun _=>rfl)) ?_;refine gq j3 ?_)
   |(refine ab.int rfl (ad.len rfl) fun m2 g_=>?_;rw [af] at g_;refine gq j3 ?_)
   |(refine bq (fun hb=>?_) (fun hb=>?_)<;>(try simp only [aq] at hb)<;>(first|refine gq j3 ?_))
   |(refine ab.ao ?_;refine gq j3 ?_)
   |(refine fq ?_))
  all_goals first
   |(exfalso;omega)
   |skip
  refine ab.aP (σ:=Int × List Int × Nat) 1 2 [(1,0)] (fun p=>[(3,.gr 1 1 p.2.2),(8,b8 ρ (yy ρ) true L),(9,.v (.int .i64 m)),(10,.v (.int .i64 j)),(14,cO ρ y),(15,.v (.int .i64 m2)),(16,.v (.int .i64 p.1))]) [] (fun p=>[(1,lQ ρ p.2.1)])
   (fun p=>∃ q:Nat,p.1=q/\q<=y.length/\R=p.2.1++(r7 (y.drop q)++rest)/\p.2.2=p.2.1.length) (fun p=>y.length - p.1.toNat) (0,acc,len) ⟨0,rfl,by simp,by simpa using hp,kL⟩ rfl (by exact⟨sq,rfl,⟨.inl ⟨_,rfl,.same cV⟩,trivial⟩,rfl,rfl,rfl⟩) ?_
  rintro⟨i,dE,i_⟩ ⟨q,hi,hq,dN,nV⟩
  simp only at hi dN nV
  clear hp kL
  refine gq j3 ?_
  by_cases gu:q < y.length
  ·obtain⟨x,gT,aO⟩:=az gu
   obtain⟨kR,oA,Ur⟩:=Uq x (List.mem_of_getElem? gT)
   have hV:=abQ (w0:=w0) (ρ:=ρ) x kR oA Ur
   rw [aO,r7,List.flatMap_cons,<-r7] at dN
   obtain⟨V,JW⟩:∃ V,V=varsOf x.a:=⟨_,rfl⟩
   rw [<-JW] at dN hV
   have py:dE.length+V.length<=1099511627776:=by
    have:=congrArg List.length dN
    simp only [List.length_append] at this
    omega
   clear JW
   obtain⟨xo,xn,xa⟩:=x
   repeat' (first
    |(refine ab.op rfl (ad.ind rfl rfl (ay (l:=y) hi gT) (aw fun _=>rfl)) ?_;refine gq j3 ?_)
    |(refine ab.op rfl (ad.ag rfl hV ⟨dy (ρ:=ρ) ⟨xo,xn,xa⟩,trivial⟩) ?_;refine gq j3 ?_)
    |((refine ab.Lw (f:=bF) rfl rfl rfl nV (fun _=>rfl) rfl (fun _=>rfl) (fun _=>rfl) (by omega) (fun uR=>?_) (fun fC oS uR gJ iz=>?_)<;>refine gq j3 ?_))
    |(refine bq (fun hb=>?_) (fun hb=>?_)<;>(try simp only [aq] at hb)<;>(first|refine gq j3 ?_))
    |(refine aS fun _ _=>?_;refine gq j3 ?_)
    |(refine ab.ao ?_;refine gq j3 ?_)
    )
   all_goals first
    |(exfalso;omega)
    |(refine ab.aL (σ:=Int × List Int × Nat) (_,dE,i_) [(1,1)] ?_ ?_ (by exact⟨sq,rfl,⟨.inl ⟨_,rfl,.same cV⟩,trivial⟩,rfl,rfl,rfl⟩)
      ·exact⟨q+1,by simp only;omega,by omega,by rw [dN,uR];rfl,nV⟩
      ·simp only;omega)
    |(refine ab.aL (σ:=Int × List Int × Nat) (_,fC,oS) [(1,3)] ?_ ?_ (by exact⟨sq,rfl,⟨.inl ⟨_,rfl,.same cV⟩,trivial⟩,rfl,rfl,rfl⟩)
      ·exact⟨q+1,by simp only;omega,by omega,by rw [dN,gJ];simp only [List.append_assoc],iz⟩
      ·simp only;omega)
  ·rw [List.drop_eq_nil_of_le (by omega),r7,List.flatMap_nil,List.nil_append] at dN
   repeat' (first
    |(refine bq (fun hb=>?_) (fun hb=>?_)<;>(try simp only [aq] at hb)<;>(first|refine gq j3 ?_))
    |(refine aS fun _ _=>?_;refine gq j3 ?_)
    |(refine ab.ao ?_;refine gq j3 ?_)
    )
   all_goals first
    |(exfalso;omega)
    |(refine ab.aL (σ:=Int × List Int × Nat) (_,dE,i_) [(0,1)] ?_ ?_ (by exact⟨sq,rfl,⟨.inl ⟨_,rfl,.same cV⟩,trivial⟩,rfl,rfl,rfl⟩)
      ·exact⟨k+1,by simp only;omega,by omega,by rw [dN,pn],nV⟩
      ·simp only;omega)
 ·rw [List.drop_eq_nil_of_le (by omega),nn,List.flatMap_nil,List.append_nil] at hp
  repeat' (first
   |(refine bq (fun hb=>?_) (fun hb=>?_)<;>(try simp only [aq] at hb)<;>(first|refine gq j3 ?_))
   |(refine ab.ao ?_;refine gq j3 ?_)
   |(refine fq ?_))
  all_goals first
   |(exfalso;omega)
   |skip
  subst hp
  obtain rfl:len=cU:=by omega
  exact⟨[(0,0)],.lI rfl rfl,⟨.inl ⟨_,rfl,.same cV⟩,trivial⟩,rfl⟩
theorem Us (L:List (List Gl)) (hl:L.length<=1099511627776) (hL:∀ l ∈ L,l.length<=1099511627776/\∀ x ∈ l,wx x.a) (hn:(nn L).length<=1099511627776) :
  ah Tryz.prog w0 187 [b8 ρ (yy ρ) true L] (b8 ρ bF false (nn L)):=by
 obtain⟨len,h1,h2⟩:=abS (w0:=w0) (ρ:=ρ) L hl hL _ rfl hn
 exact ah.CB h2 (aU.grow rfl h1) (bQ _)
end
end
end Go.Proofs.YtbofilglphfceaaGreat
