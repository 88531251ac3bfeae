import Derived.Test.YtgphljokbodciaaGreatS20
namespace Go.Proofs.YtgphljokbodciaaGreat
set_option linter.unusedVariables false
set_option linter.unusedSimpArgs false
open Go.RowKit
section
set_option maxRecDepth 100000
attribute [local irreducible] ah aV ad ab
def QA:CF Tryz.f369:=⟨_,by conv=>lhs;cbv⟩
theorem aak:aD Tryz.prog 369 QA.1 Tryz.f369.ntmps:=aO Tryz.func369 QA.2 Tryz.call369
def dL:List Nat:=[3,0,6,5,4,1,16,27]
def QB:CF Tryz.f368:=⟨_,by conv=>lhs;cbv⟩
theorem aal:aD Tryz.prog 368 QB.1 Tryz.f368.ntmps:=aO Tryz.func368 QB.2 Tryz.call368
def qZ:List Nat:=[4,0,3,2,8]
def QD:CF Tryz.f263:=⟨_,by conv=>lhs;cbv⟩
theorem aam:aD Tryz.prog 263 QD.1 Tryz.f263.ntmps:=aO Tryz.func263 QD.2 Tryz.call263
def VH:List Nat:=[2,0,1]
def QE:CF Tryz.f262:=⟨_,by conv=>lhs;cbv⟩
theorem aan:aD Tryz.prog 262 QE.1 Tryz.f262.ntmps:=aO Tryz.func262 QE.2 Tryz.call262
def VI:List Nat:=[2,0,1]
def QG:CF Tryz.f264:=⟨_,by conv=>lhs;cbv⟩
theorem aao:aD Tryz.prog 264 QG.1 Tryz.f264.ntmps:=aO Tryz.func264 QG.2 Tryz.call264
def VJ:List Nat:=[2,0,1]
theorem iw:∀ (l m s:List Int),bF s (l++m)=bF s l++bF (s++bF s l) m
 |[],m,s=>by simp [bF]
 |x::l,m,s=>by
  rw [List.cons_append,bF,bF]
  split
  ·exact iw l m s
  ·rw [iw l m (s++[x])];simp
theorem Cv.TP {w0:World}{n:Nat}{α:AA}{S:ae}(o:Ob):Cv w0 n α S α (S.new o):=by
 intro A g a w hS hA
 have key:∀ k p,(S.new o).get k=some p->g.al k->S.get k=some p:=fun k p hk ha=>by
  have au:=hS.al k ha
  have hk:bP S.get S.nx (some o) k=some p:=hk
  rwa [aN _ _ (by omega)] at hk
 refine⟨g,⟨hS.base,hS.up,hS.lo,fun k hk=>Nat.lt_succ_of_lt (hS.al k hk),fun k p hk ha=>hS.cH k p (key k p hk ha) ha,fun i j p q hi hj ai aj e=>hS.inj i j p q (key i p hi ai) (key j q hj aj) ai aj e,hS.cK,hS.nn,
  fun k J hk ha=>hS.iD k J (key k _ hk ha) ha,fun k J j p hk ha hj aj=>hS.j2 k J j p (key k _ hk ha) ha (key j p hj aj) aj,fun j k J J' hj hk aj ak=>hS.me j k J J' (key j _ hj aj) (key k _ hk ak) aj ak⟩,hA,Ext.refl ..⟩
section
variable {w0:World}{ρ:Hd}
def mg (ρ:Hd) (acc:List Int):Ob:=.arr 1 (ρ.h (List.map bJ) acc) 0 false
theorem gw {s:List Int}:∀ row ∈ ρ.h (List.map bJ) s,∀ a ∈ row,Pure a:=by
 rw [ρ.eq]
 intro row hr a ha
 obtain⟨x,_,rfl⟩:=List.mem_map.1 hr
 obtain rfl:=List.mem_singleton.1 ha
 exact .v
theorem KN (x:Tm):∀ (acc:List Int) (len:Nat),x.ok->len=acc.length->acc.length+(dh x).length<=1099511627776->∃ cF,cF=(acc++bF acc (dh x)).length /\
  aV Tryz.prog w0 369 [.gr 0 1 len,tm ρ x] (aE [(0,mg ρ acc)] 1) (.gr 1 1 cF) (aE [(1,mg ρ (acc++bF acc (dh x)))] 2):=by
 refine Tm.ind (p:=fun x=>∀ (acc:List Int) (len:Nat),x.ok->len=acc.length->acc.length+(dh x).length<=1099511627776->∃ cF,cF=(acc++bF acc (dh x)).length /\
  aV Tryz.prog w0 369 [.gr 0 1 len,tm ρ x] (aE [(0,mg ρ acc)] 1) (.gr 1 1 cF) (aE [(1,mg ρ (acc++bF acc (dh x)))] 2)) ?_ x
 intro kd i n a ih acc len hx hlen hn
 obtain⟨db,eH,eM⟩:=hx.out
 dsimp only at db eH eM
 obtain⟨res,dG⟩:∃ res,res=acc++bF acc (dh ⟨kd,i,n,a⟩):=⟨_,rfl⟩
 obtain⟨cF,fe⟩:∃ cF,cF=res.length:=⟨_,rfl⟩
 rw [<-dG]
 refine⟨cF,fe,?_⟩
 have hA:=Ac (w0:=w0) (ρ:=ρ) ⟨kd,i,n,a⟩
 have hH:=Vf (w0:=w0) (ρ:=ρ) acc i (by omega)
 rw [j_] at hA
 dsimp only at hA
 rw [dh] at dG hn
 obtain⟨B,hB⟩:∃ B,B=acc.contains i:=⟨_,rfl⟩
 rw [<-hB] at hH
 obtain⟨a',cC⟩:∃ a',a'=if kd=2 then a else []:=⟨_,rfl⟩
 rw [<-cC] at hA
 have hl:a'.length<=1099511627776:=by
  rw [cC]
  split
  ·omega
  ·simp
 have eR:∀ y ∈ a',y ∈ a:=by
  intro y hy
  rw [cC] at hy
  split at hy
  ·exact hy
  ·cases hy
 have QH:(if kd=2 then aY a else [])=aY a':=by rw [cC];split<;>rfl
 refine aD.dw 1 2 _ aak (by simp [Tryz.ntmps369]) rfl rfl ?_
 refine gq dL ?_
 by_cases hk:kd=1
 ·subst hk
  rw [if_pos rfl,bF,bF] at dG
  rw [if_pos rfl,List.length_singleton] at hn
  rw [if_neg (by decide)] at cC QH
  have VK:aY a'=[]:=by rw [cC,aY]
  have s9:(aY a').length=0:=by rw [VK];rfl
  rw [<-hB] at dG
  clear cC QH
  repeat' (first
   |(refine ab.bif rfl (ad.wv rfl hH ⟨bR _,.v,trivial⟩ .v ⟨aX.grow rfl hlen,.refl _,trivial⟩) (fun _=>?_) (fun _=>?_)<;>refine gq dL ?_)
   |(refine ab.op rfl (ad.ag rfl hA ⟨bf (ρ:=ρ) ⟨1,i,n,a⟩,trivial⟩) ?_;refine gq dL ?_)
   |(refine bq (fun hb=>?_) (fun hb=>?_)<;>(try simp only [aq] at hb)<;>(first|exact absurd hb (by decide)|refine gq dL ?_))
   )
  ·rw [if_pos (by assumption)] at dG
   have hR:res=acc++bF acc (aY a'):=by rw [dG,VK,bF]
   refine ab.aP (σ:=Int × List Int × Nat) 3 4 [(3,0)] (fun p=>[(0,.gr 3 1 p.2.2),(5,tl ρ a'),(6,.v (.int .i64 p.1))]) [] (fun p=>[(3,mg ρ p.2.1)])
    (fun p=>∃ k:Nat,p.1=k/\k<=a'.length/\res=p.2.1++bF p.2.1 (aY (a'.drop k))/\p.2.2=p.2.1.length/\p.2.1.length+(aY (a'.drop k)).length<=1099511627776) (fun p=>a'.length - p.1.toNat) (0,acc,len)
    ⟨0,rfl,by simp,by simpa using hR,by simp only;omega,by simp only [List.drop_zero];first|omega ⟩ rfl (by exact⟨sq,rfl,⟨.inl ⟨_,rfl,.same cW⟩,trivial⟩,rfl,rfl,rfl⟩) ?_
   rintro⟨j,dk,gy⟩ ⟨k,hj,dD,hp,ef,s_⟩
   simp only at hj hp ef s_
   clear hR dG
   refine gq dL ?_
   by_cases au:k < a'.length
   ·obtain⟨y,eC,cT⟩:=aA au
    rw [eW cT,iw] at hp
    rw [eW cT,List.length_append] at s_
    obtain⟨oA,gM,bL⟩:=ih y (eR y (aZ eC)) dk gy (eM.mem y (eR y (aZ eC))) ef (by omega)
    have hle:=gp (dh y) dk
    obtain⟨ff,fZ⟩:∃ ff,ff=dk++bF dk (dh y):=⟨_,rfl⟩
    rw [<-List.append_assoc,<-fZ] at hp
    rw [<-fZ] at gM bL
    have Nb:ff.length<=dk.length+(dh y).length:=by rw [fZ,List.length_append];omega
    repeat' (first
     |(refine ab.op rfl (ad.ind rfl rfl (fL (l:=a') hj eC) fM) ?_;refine gq dL ?_)
     |((refine ab.op rfl (ad.jJ (m:=[(0,3)]) (to:=[(3,none),(5,some (mg ρ ff))]) bL rfl ⟨Rn.gr rfl rfl,Rn.pure (bf _),trivial⟩ (Rb.gr rfl) rfl rfl ⟨⟨_,rfl,kF.pure gw⟩,trivial⟩ ⟨⟨1,_,rfl,rfl,kY.pure gw⟩,trivial⟩ rfl (by repeat (first|exact f_ rfl )) (.inr rfl)) ?_;refine gq dL ?_))
     |(refine bq (fun hb=>?_) (fun hb=>?_)<;>(try simp only [aq] at hb)<;>(first|refine gq dL ?_))
     |(refine az fun m hm=>?_;(try rw [af] at hm);refine gq dL ?_)
     |(refine aS fun _ _=>?_;refine gq dL ?_)
     |(refine ab.ao ?_;refine gq dL ?_)
     |(refine fq ?_))
    all_goals first
     |(exfalso;omega)
     |(refine ab.aK (σ:=Int × List Int × Nat) (_,ff,oA) [(3,5)] ?_ ?_ (by exact⟨sq,rfl,⟨.inl ⟨_,rfl,.same cW⟩,trivial⟩,rfl,rfl,rfl⟩)
       ·exact⟨k+1,by simp only;omega,by omega,hp,gM,by simp only;omega⟩
       ·simp only;omega)
   ·rw [List.drop_eq_nil_of_le (by omega),aY,bF,List.append_nil] at hp
    repeat' (first
     |(refine bq (fun hb=>?_) (fun hb=>?_)<;>(try simp only [aq] at hb)<;>(first|refine gq dL ?_))
     |(refine az fun m hm=>?_;(try rw [af] at hm);refine gq dL ?_)
     |(refine ab.ao ?_;refine gq dL ?_)
     |(refine fq ?_))
    all_goals first
     |(exfalso;omega)
     |skip
    subst hp
    obtain rfl:gy=cF:=by omega
    exact⟨[(1,3)],.ll rfl rfl,⟨.inl ⟨_,rfl,.same cW⟩,trivial⟩,rfl⟩
  ·rw [if_neg (by simp_all)] at dG
   refine ab.app (x:=i) (f:=bJ) rfl rfl rfl hlen (fun _=>rfl) rfl rfl rfl rfl (by omega) fun s' Hl iK aiB=>?_
   refine gq dL ?_
   repeat' (first
    |(refine ab.op rfl (ad.ag rfl hA ⟨bf (ρ:=ρ) ⟨1,i,n,a⟩,trivial⟩) ?_;refine gq dL ?_)
    )
   have hR:res=s'++bF s' (aY a'):=by rw [dG,iK,VK,bF];simp [bF]
   refine ab.aP (σ:=Int × List Int × Nat) 3 4 [(3,2)] (fun p=>[(0,.gr 3 1 p.2.2),(5,tl ρ a'),(6,.v (.int .i64 p.1))]) [] (fun p=>[(3,mg ρ p.2.1)])
    (fun p=>∃ k:Nat,p.1=k/\k<=a'.length/\res=p.2.1++bF p.2.1 (aY (a'.drop k))/\p.2.2=p.2.1.length/\p.2.1.length+(aY (a'.drop k)).length<=1099511627776) (fun p=>a'.length - p.1.toNat) (0,s',Hl)
    ⟨0,rfl,by simp,by simpa using hR,by simp only;omega,by simp only [List.drop_zero];first|(rw [iK];simp only [List.length_append,List.length_singleton];omega)⟩ rfl (by exact⟨sq,rfl,⟨.inl ⟨_,rfl,.same cW⟩,trivial⟩,rfl,rfl,rfl⟩) ?_
   rintro⟨j,dk,gy⟩ ⟨k,hj,dD,hp,ef,s_⟩
   simp only at hj hp ef s_
   clear hR dG
   refine gq dL ?_
   by_cases au:k < a'.length
   ·obtain⟨y,eC,cT⟩:=aA au
    rw [eW cT,iw] at hp
    rw [eW cT,List.length_append] at s_
    obtain⟨oA,gM,bL⟩:=ih y (eR y (aZ eC)) dk gy (eM.mem y (eR y (aZ eC))) ef (by omega)
    have hle:=gp (dh y) dk
    obtain⟨ff,fZ⟩:∃ ff,ff=dk++bF dk (dh y):=⟨_,rfl⟩
    rw [<-List.append_assoc,<-fZ] at hp
    rw [<-fZ] at gM bL
    have Nb:ff.length<=dk.length+(dh y).length:=by rw [fZ,List.length_append];omega
    repeat' (first
     |(refine ab.op rfl (ad.ind rfl rfl (fL (l:=a') hj eC) fM) ?_;refine gq dL ?_)
     |((refine ab.op rfl (ad.jJ (m:=[(0,3)]) (to:=[(3,none),(5,some (mg ρ ff))]) bL rfl ⟨Rn.gr rfl rfl,Rn.pure (bf _),trivial⟩ (Rb.gr rfl) rfl rfl ⟨⟨_,rfl,kF.pure gw⟩,trivial⟩ ⟨⟨1,_,rfl,rfl,kY.pure gw⟩,trivial⟩ rfl (by repeat (first|exact f_ rfl )) (.inr rfl)) ?_;refine gq dL ?_))
     |(refine bq (fun hb=>?_) (fun hb=>?_)<;>(try simp only [aq] at hb)<;>(first|refine gq dL ?_))
     |(refine az fun m hm=>?_;(try rw [af] at hm);refine gq dL ?_)
     |(refine aS fun _ _=>?_;refine gq dL ?_)
     |(refine ab.ao ?_;refine gq dL ?_)
     |(refine fq ?_))
    all_goals first
     |(exfalso;omega)
     |(refine ab.aK (σ:=Int × List Int × Nat) (_,ff,oA) [(3,5)] ?_ ?_ (by exact⟨sq,rfl,⟨.inl ⟨_,rfl,.same cW⟩,trivial⟩,rfl,rfl,rfl⟩)
       ·exact⟨k+1,by simp only;omega,by omega,hp,gM,by simp only;omega⟩
       ·simp only;omega)
   ·rw [List.drop_eq_nil_of_le (by omega),aY,bF,List.append_nil] at hp
    repeat' (first
     |(refine bq (fun hb=>?_) (fun hb=>?_)<;>(try simp only [aq] at hb)<;>(first|refine gq dL ?_))
     |(refine az fun m hm=>?_;(try rw [af] at hm);refine gq dL ?_)
     |(refine ab.ao ?_;refine gq dL ?_)
     |(refine fq ?_))
    all_goals first
     |(exfalso;omega)
     |skip
    subst hp
    obtain rfl:gy=cF:=by omega
    exact⟨[(1,3)],.ll rfl rfl,⟨.inl ⟨_,rfl,.same cW⟩,trivial⟩,rfl⟩
 ·rw [if_neg hk,QH] at dG hn
  clear cC QH hH hB
  repeat' (first
   |(refine ab.op rfl (ad.ag rfl hA ⟨bf (ρ:=ρ) ⟨kd,i,n,a⟩,trivial⟩) ?_;refine gq dL ?_)
   |(refine bq (fun hb=>?_) (fun hb=>?_)<;>(try simp only [aq] at hb)<;>(first|refine gq dL ?_))
   )
  ·exact absurd (by assumption) hk
  have hR:res=acc++bF acc (aY a'):=by exact dG
  refine ab.aP (σ:=Int × List Int × Nat) 3 4 [(3,0)] (fun p=>[(0,.gr 3 1 p.2.2),(5,tl ρ a'),(6,.v (.int .i64 p.1))]) [] (fun p=>[(3,mg ρ p.2.1)])
   (fun p=>∃ k:Nat,p.1=k/\k<=a'.length/\res=p.2.1++bF p.2.1 (aY (a'.drop k))/\p.2.2=p.2.1.length/\p.2.1.length+(aY (a'.drop k)).length<=1099511627776) (fun p=>a'.length - p.1.toNat) (0,acc,len)
   ⟨0,rfl,by simp,by simpa using hR,by simp only;omega,by simp only [List.drop_zero];first|omega ⟩ rfl (by exact⟨sq,rfl,⟨.inl ⟨_,rfl,.same cW⟩,trivial⟩,rfl,rfl,rfl⟩) ?_
  rintro⟨j,dk,gy⟩ ⟨k,hj,dD,hp,ef,s_⟩
  simp only at hj hp ef s_
  clear hR dG
  refine gq dL ?_
  by_cases au:k < a'.length
  ·obtain⟨y,eC,cT⟩:=aA au
   rw [eW cT,iw] at hp
   rw [eW cT,List.length_append] at s_
   obtain⟨oA,gM,bL⟩:=ih y (eR y (aZ eC)) dk gy (eM.mem y (eR y (aZ eC))) ef (by omega)
   have hle:=gp (dh y) dk
   obtain⟨ff,fZ⟩:∃ ff,ff=dk++bF dk (dh y):=⟨_,rfl⟩
   rw [<-List.append_assoc,<-fZ] at hp
   rw [<-fZ] at gM bL
   have Nb:ff.length<=dk.length+(dh y).length:=by rw [fZ,List.length_append];omega
   repeat' (first
    |(refine ab.op rfl (ad.ind rfl rfl (fL (l:=a') hj eC) fM) ?_;refine gq dL ?_)
    |((refine ab.op rfl (ad.jJ (m:=[(0,3)]) (to:=[(3,none),(5,some (mg ρ ff))]) bL rfl ⟨Rn.gr rfl rfl,Rn.pure (bf _),trivial⟩ (Rb.gr rfl) rfl rfl ⟨⟨_,rfl,kF.pure gw⟩,trivial⟩ ⟨⟨1,_,rfl,rfl,kY.pure gw⟩,trivial⟩ rfl (by repeat (first|exact f_ rfl )) (.inr rfl)) ?_;refine gq dL ?_))
    |(refine bq (fun hb=>?_) (fun hb=>?_)<;>(try simp only [aq] at hb)<;>(first|refine gq dL ?_))
    |(refine az fun m hm=>?_;(try rw [af] at hm);refine gq dL ?_)
    |(refine aS fun _ _=>?_;refine gq dL ?_)
    |(refine ab.ao ?_;refine gq dL ?_)
    |(refine fq ?_))
   all_goals first
    |(exfalso;omega)
    |(refine ab.aK (σ:=Int × List Int × Nat) (_,ff,oA) [(3,5)] ?_ ?_ (by exact⟨sq,rfl,⟨.inl ⟨_,rfl,.same cW⟩,trivial⟩,rfl,rfl,rfl⟩)
      ·exact⟨k+1,by simp only;omega,by omega,hp,gM,by simp only;omega⟩
      ·simp only;omega)
  ·rw [List.drop_eq_nil_of_le (by omega),aY,bF,List.append_nil] at hp
   repeat' (first
    |(refine bq (fun hb=>?_) (fun hb=>?_)<;>(try simp only [aq] at hb)<;>(first|refine gq dL ?_))
    |(refine az fun m hm=>?_;(try rw [af] at hm);refine gq dL ?_)
    |(refine ab.ao ?_;refine gq dL ?_)
    |(refine fq ?_))
   all_goals first
    |(exfalso;omega)
    |skip
   subst hp
   obtain rfl:gy=cF:=by omega
   exact⟨[(1,3)],.ll rfl rfl,⟨.inl ⟨_,rfl,.same cW⟩,trivial⟩,rfl⟩
theorem t_ (l:List Tm) (hl:l.length<=1099511627776) (ga:er l) (hn:(aY l).length<=1099511627776):ah Tryz.prog w0 368 [tl ρ l] (bY ρ bJ false (varsOf l)):=by
 obtain⟨res,dG⟩:∃ res,res=varsOf l:=⟨_,rfl⟩
 rw [<-dG]
 unfold varsOf at dG
 refine aal.aH (by simp [Tryz.ntmps368]) ((bR _)) ?_
 refine gq qZ ?_
 refine ab.aP (σ:=Int × List Int × Nat) 0 1 [] (fun p=>[(0,tl ρ l),(3,.gr 0 1 p.2.2),(4,.v (.int .i64 p.1))]) [] (fun p=>[(0,mg ρ p.2.1)])
  (fun p=>∃ k:Nat,p.1=k/\k<=l.length/\res=p.2.1++bF p.2.1 (aY (l.drop k))/\p.2.2=p.2.1.length/\p.2.1.length+(aY (l.drop k)).length<=1099511627776) (fun p=>l.length - p.1.toNat) (0,[],0)
  ⟨0,rfl,by simp,by simpa using dG,rfl,by simpa using hn⟩ rfl (by exact⟨sq,rfl,⟨.inr rfl,trivial⟩,rfl,rfl,rfl⟩) ?_
 rintro⟨j,dk,gy⟩ ⟨k,hj,dD,hp,ef,s_⟩
 simp only at hj hp ef s_
 clear dG
 refine gq qZ ?_
 by_cases au:k < l.length
 ·obtain⟨y,eC,cT⟩:=aA au
  rw [eW cT,iw] at hp
  rw [eW cT,List.length_append] at s_
  obtain⟨oA,gM,bL⟩:=KN (w0:=w0) (ρ:=ρ) y dk gy (ga.mem y (aZ eC)) ef (by omega)
  have hle:=gp (dh y) dk
  obtain⟨ff,fZ⟩:∃ ff,ff=dk++bF dk (dh y):=⟨_,rfl⟩
  rw [<-List.append_assoc,<-fZ] at hp
  rw [<-fZ] at gM bL
  have Nb:ff.length<=dk.length+(dh y).length:=by rw [fZ,List.length_append];omega
  repeat' (first
   |(refine ab.op rfl (ad.ind rfl rfl (fL (l:=l) hj eC) fM) ?_;refine gq qZ ?_)
   |((refine ab.op rfl (ad.jJ (m:=[(0,0)]) (to:=[(0,none),(2,some (mg ρ ff))]) bL rfl ⟨Rn.gr rfl rfl,Rn.pure (bf _),trivial⟩ (Rb.gr rfl) rfl rfl ⟨⟨_,rfl,kF.pure gw⟩,trivial⟩ ⟨⟨1,_,rfl,rfl,kY.pure gw⟩,trivial⟩ rfl (by repeat (first|exact f_ rfl )) (.inr rfl)) ?_;refine gq qZ ?_))
   |(refine bq (fun hb=>?_) (fun hb=>?_)<;>(try simp only [aq] at hb)<;>(first|refine gq qZ ?_))
   |(refine az fun m hm=>?_;(try rw [af] at hm);refine gq qZ ?_)
   |(refine aS fun _ _=>?_;refine gq qZ ?_)
   |(refine ab.ao ?_;refine gq qZ ?_)
   |(refine fq ?_))
  all_goals first
   |(exfalso;omega)
   |(refine ab.aK (σ:=Int × List Int × Nat) (_,ff,oA) [(0,2)] ?_ ?_ (by exact⟨sq,rfl,⟨.inl ⟨_,rfl,.same cW⟩,trivial⟩,rfl,rfl,rfl⟩)
     ·exact⟨k+1,by simp only;omega,by omega,hp,gM,by simp only;omega⟩
     ·simp only;omega)
 ·rw [List.drop_eq_nil_of_le (by omega),aY,bF,List.append_nil] at hp
  repeat' (first
   |(refine bq (fun hb=>?_) (fun hb=>?_)<;>(try simp only [aq] at hb)<;>(first|refine gq qZ ?_))
   |(refine az fun m hm=>?_;(try rw [af] at hm);refine gq qZ ?_)
   |(refine ab.ao ?_;refine gq qZ ?_)
   |(refine fq ?_))
  all_goals first
   |(exfalso;omega)
   |skip
  subst hp
  exact aX.grow rfl ef
theorem FI (x:Tm) (hx:x.ok) (hn:(dh x).length<=1099511627776):ah Tryz.prog w0 263 [tm ρ x] (bY ρ bJ false (varsOf [x])):=by
 obtain⟨oA,gM,bL⟩:=KN (w0:=w0) (ρ:=ρ) x [] 0 hx rfl (by simpa using hn)
 obtain⟨res,dG⟩:∃ res,res=varsOf [x]:=⟨_,rfl⟩
 rw [<-dG]
 unfold varsOf at dG
 rw [aY,aY,List.append_nil] at dG
 rw [List.nil_append,<-dG] at gM bL
 obtain⟨k,i,n,a⟩:=x
 refine aam.aH (by simp [Tryz.ntmps263]) ((bR _)) ?_
 refine gq VH ?_
 refine ab.VL (Cv.TP (mg ρ [])) ?_
 refine ab.op rfl (ad.jJ (m:=[(0,1)]) (to:=[(1,none),(3,some (mg ρ res))]) bL rfl ⟨Rn.nil,Rn.pure (bf (ρ:=ρ) ⟨k,i,n,a⟩),trivial⟩ (Rb.gr rfl) rfl rfl ⟨⟨_,rfl,kF.pure gw⟩,trivial⟩ ⟨⟨1,_,rfl,rfl,kY.pure gw⟩,trivial⟩ rfl (by repeat (first|exact (fun _ _ h=>by cases h)|refine m4 ?_ rfl)) (.inr rfl)) ?_
 refine gq VH ?_
 refine ab.fin (by conv=>lhs;cbv) ?_
 exact aX.grow rfl gM
theorem Hm (x:At) (hl:x.a.length<=1099511627776) (hk:er x.a) (hv:(aY x.a).length<=1099511627776):ah Tryz.prog w0 262 [at_ ρ x] (bY ρ bJ false (varsOf x.a)):=by
 have h1:=t_ (w0:=w0) (ρ:=ρ) x.a hl hk hv
 obtain⟨n,a⟩:=x
 dsimp only at h1 ⊢
 obtain⟨R,hR⟩:∃ R,R=varsOf a:=⟨_,rfl⟩
 rw [<-hR] at h1 ⊢
 refine aan.aH (by simp [Tryz.ntmps262]) ((bR _)) ?_
 refine gq VI ?_
 repeat' (first
  |(refine ab.op rfl (ad.ag rfl h1 ⟨bB _,trivial⟩) ?_;refine gq VI ?_)
  |(refine fq ?_))
 exact aX.of_eq rfl
theorem yW (x:Gl) (hl:x.a.length<=1099511627776) (hk:er x.a) (hv:(aY x.a).length<=1099511627776):ah Tryz.prog w0 264 [gl ρ x] (bY ρ bJ false (varsOf x.a)):=by
 have h1:=t_ (w0:=w0) (ρ:=ρ) x.a hl hk hv
 obtain⟨o,n,a⟩:=x
 dsimp only at h1 ⊢
 obtain⟨R,hR⟩:∃ R,R=varsOf a:=⟨_,rfl⟩
 rw [<-hR] at h1 ⊢
 refine aao.aH (by simp [Tryz.ntmps264]) ((bR _)) ?_
 refine gq VJ ?_
 repeat' (first
  |(refine ab.op rfl (ad.ag rfl h1 ⟨bB _,trivial⟩) ?_;refine gq VJ ?_)
  |(refine fq ?_))
 exact aX.of_eq rfl
end
end
end Go.Proofs.YtgphljokbodciaaGreat
