import Derived.Test.YtbofilglphfceaaGreatQ21
namespace Go.Proofs.YtbofilglphfceaaGreat
set_option linter.unusedVariables false
set_option linter.unusedSimpArgs false
open Go.RowKit
section
set_option maxRecDepth 100000
attribute [local irreducible] ah bc ad ab
def ON:CF Tryz.f216:=⟨_,by conv=>lhs;cbv⟩
theorem Xz:aH Tryz.prog 216 ON.1 Tryz.f216.ntmps:=aQ Tryz.func216 ON.2 Tryz.call216
def dM:List Nat:=[3,0,6,5,4,1,16,27]
def OO:CF Tryz.f215:=⟨_,by conv=>lhs;cbv⟩
theorem XA:aH Tryz.prog 215 OO.1 Tryz.f215.ntmps:=aQ Tryz.func215 OO.2 Tryz.call215
def qi:List Nat:=[4,0,3,2,8]
def OP:CF Tryz.f128:=⟨_,by conv=>lhs;cbv⟩
theorem XC:aH Tryz.prog 128 OP.1 Tryz.f128.ntmps:=aQ Tryz.func128 OP.2 Tryz.call128
def TP:List Nat:=[2,0,1]
def OQ:CF Tryz.f127:=⟨_,by conv=>lhs;cbv⟩
theorem XD:aH Tryz.prog 127 OQ.1 Tryz.f127.ntmps:=aQ Tryz.func127 OQ.2 Tryz.call127
def TQ:List Nat:=[2,0,1]
def OR:CF Tryz.f132:=⟨_,by conv=>lhs;cbv⟩
theorem XE:aH Tryz.prog 132 OR.1 Tryz.f132.ntmps:=aQ Tryz.func132 OR.2 Tryz.call132
def TR:List Nat:=[2,0,1]
theorem gS:∀ (l m s:List Int),bE s (l++m)=bE s l++bE (s++bE s l) m
 |[],m,s=>by simp [bE]
 |x::l,m,s=>by
  rw [List.cons_append,bE,bE]
  split
  ·exact gS l m s
  ·rw [gS l m (s++[x])];simp
theorem Cv.Q1 {w0:World}{n:Nat}{α:AA}{S:ae}(o:Ob):Cv w0 n α S α (S.new o):=by
 intro A g a w hS hA
 have key:∀ k p,(S.new o).get k=some p->g.al k->S.get k=some p:=fun k p hk ha=>by
  have au:=hS.al k ha
  have hk:bO S.get S.nx (some o) k=some p:=hk
  rwa [aK _ _ (by omega)] at hk
 refine⟨g,⟨hS.base,hS.up,hS.lo,fun k hk=>Nat.lt_succ_of_lt (hS.al k hk),fun k p hk ha=>hS.cC k p (key k p hk ha) ha,fun i j p q hi hj ai aj e=>hS.inj i j p q (key i p hi ai) (key j q hj aj) ai aj e,hS.cG,hS.mL,
  fun k J hk ha=>hS.gX k J (key k _ hk ha) ha,fun k J j p hk ha hj aj=>hS.jE k J j p (key k _ hk ha) ha (key j p hj aj) aj,fun j k J J' hj hk aj ak=>hS.lP j k J J' (key j _ hj aj) (key k _ hk ak) aj ak⟩,hA,Ext.refl ..⟩
section
variable {w0:World}{ρ:Hd}
def lQ (ρ:Hd) (acc:List Int):Ob:=.arr 1 (ρ.h (List.map bF) acc) 0 false
theorem fR {s:List Int}:∀ row ∈ ρ.h (List.map bF) s,∀ a ∈ row,Pure a:=by
 rw [ρ.eq]
 intro row hr a ha
 obtain⟨x,_,rfl⟩:=List.mem_map.1 hr
 obtain rfl:=List.mem_singleton.1 ha
 exact .v
theorem Jw (x:Tm):∀ (acc:List Int) (len:Nat),x.ok->len=acc.length->acc.length+(cY x).length<=1099511627776->∃ cU,cU=(acc++bE acc (cY x)).length /\
  bc Tryz.prog w0 216 [.gr 0 1 len,tm ρ x] (aM [(0,lQ ρ acc)] 1) (.gr 1 1 cU) (aM [(1,lQ ρ (acc++bE acc (cY x)))] 2):=by
 refine Tm.ind (p:=fun x=>∀ (acc:List Int) (len:Nat),x.ok->len=acc.length->acc.length+(cY x).length<=1099511627776->∃ cU,cU=(acc++bE acc (cY x)).length /\
  bc Tryz.prog w0 216 [.gr 0 1 len,tm ρ x] (aM [(0,lQ ρ acc)] 1) (.gr 1 1 cU) (aM [(1,lQ ρ (acc++bE acc (cY x)))] 2)) ?_ x
 intro kd i n a ih acc len hx hlen hn
 obtain⟨cX,ey,eD⟩:=hx.out
 dsimp only at cX ey eD
 obtain⟨res,dz⟩:∃ res,res=acc++bE acc (cY ⟨kd,i,n,a⟩):=⟨_,rfl⟩
 obtain⟨cU,lh⟩:∃ cU,cU=res.length:=⟨_,rfl⟩
 rw [<-dz]
 refine⟨cU,lh,?_⟩
 have hA:=zx (w0:=w0) (ρ:=ρ) ⟨kd,i,n,a⟩
 have hH:=S8 (w0:=w0) (ρ:=ρ) acc i (by omega)
 rw [jP] at hA
 dsimp only at hA
 rw [cY] at dz hn
 obtain⟨B,hB⟩:∃ B,B=acc.contains i:=⟨_,rfl⟩
 rw [<-hB] at hH
 obtain⟨a',cA⟩:∃ a',a'=if kd=2 then a else []:=⟨_,rfl⟩
 rw [<-cA] at hA
 have hl:a'.length<=1099511627776:=by
  rw [cA]
  split
  ·omega
  ·simp
 have eI:∀ y ∈ a',y ∈ a:=by
  intro y hy
  rw [cA] at hy
  split at hy
  ·exact hy
  ·cases hy
 have OS:(if kd=2 then aT a else [])=aT a':=by rw [cA];split<;>rfl
 refine aH.jM 1 2 _ Xz (by simp [Tryz.ntmps216]) rfl rfl ?_
 refine gq dM ?_
 by_cases hk:kd=1
 ·subst hk
  rw [if_pos rfl,bE,bE] at dz
  rw [if_pos rfl,List.length_singleton] at hn
  rw [if_neg (by decide)] at cA OS
  have TS:aT a'=[]:=by rw [cA,aT]
  have sn:(aT a').length=0:=by rw [TS];rfl
  rw [<-hB] at dz
  clear cA OS
  repeat' (first
   |(refine ab.a_ rfl (ad.pf rfl hH ⟨bQ _,.v,trivial⟩ .v ⟨aU.grow rfl hlen,.refl _,trivial⟩) (fun _=>?_) (fun _=>?_)<;>refine gq dM ?_)
   |(refine ab.op rfl (ad.ag rfl hA ⟨ba (ρ:=ρ) ⟨1,i,n,a⟩,trivial⟩) ?_;refine gq dM ?_)
   |(refine bq (fun hb=>?_) (fun hb=>?_)<;>(try simp only [aq] at hb)<;>(first|exact absurd hb (by decide)|refine gq dM ?_))
   )
  ·rw [if_pos (by assumption)] at dz
   have hR:res=acc++bE acc (aT a'):=by rw [dz,TS,bE]
   refine ab.aP (σ:=Int × List Int × Nat) 3 4 [(3,0)] (fun p=>[(0,.gr 3 1 p.2.2),(5,tl ρ a'),(6,.v (.int .i64 p.1))]) [] (fun p=>[(3,lQ ρ p.2.1)])
    (fun p=>∃ k:Nat,p.1=k/\k<=a'.length/\res=p.2.1++bE p.2.1 (aT (a'.drop k))/\p.2.2=p.2.1.length/\p.2.1.length+(aT (a'.drop k)).length<=1099511627776) (fun p=>a'.length - p.1.toNat) (0,acc,len)
    ⟨0,rfl,by simp,by simpa using hR,by simp only;omega,by simp only [List.drop_zero];first|omega ⟩ rfl (by exact⟨sq,rfl,⟨.inl ⟨_,rfl,.same cV⟩,trivial⟩,rfl,rfl,rfl⟩) ?_
   rintro⟨j,dE,i_⟩ ⟨k,hj,dS,hp,eP,sr⟩
   simp only at hj hp eP sr
   clear hR dz
   refine gq dM ?_
   by_cases au:k < a'.length
   ·obtain⟨y,fP,cP⟩:=az au
    rw [eR cP,gS] at hp
    rw [eR cP,List.length_append] at sr
    obtain⟨oS,iz,bI⟩:=ih y (eI y (aY fP)) dE i_ (eD.mem y (eI y (aY fP))) eP (by omega)
    have hle:=fQ (cY y) dE
    obtain⟨fC,gJ⟩:∃ fC,fC=dE++bE dE (cY y):=⟨_,rfl⟩
    rw [<-List.append_assoc,<-gJ] at hp
    rw [<-gJ] at iz bI
    have LB:fC.length<=dE.length+(cY y).length:=by rw [gJ,List.length_append];omega
    repeat' (first
     |(refine ab.op rfl (ad.ind rfl rfl (ft (l:=a') hj fP) fu) ?_;refine gq dM ?_)
     |((refine ab.op rfl (ad.iS (m:=[(0,3)]) (to:=[(3,none),(5,some (lQ ρ fC))]) bI rfl ⟨Rn.gr rfl rfl,Rn.pure (ba _),trivial⟩ (Rb.gr rfl) rfl rfl ⟨⟨_,rfl,hO.pure fR⟩,trivial⟩ ⟨⟨1,_,rfl,rfl,iD.pure fR⟩,trivial⟩ rfl (by repeat (first|exact ep rfl )) (.inr rfl)) ?_;refine gq dM ?_))
     |(refine bq (fun hb=>?_) (fun hb=>?_)<;>(try simp only [aq] at hb)<;>(first|refine gq dM ?_))
     |(refine aB fun m hm=>?_;(try rw [af] at hm);refine gq dM ?_)
     |(refine aS fun _ _=>?_;refine gq dM ?_)
     |(refine ab.ao ?_;refine gq dM ?_)
     |(refine fq ?_))
    all_goals first
     |(exfalso;omega)
     |(refine ab.aL (σ:=Int × List Int × Nat) (_,fC,oS) [(3,5)] ?_ ?_ (by exact⟨sq,rfl,⟨.inl ⟨_,rfl,.same cV⟩,trivial⟩,rfl,rfl,rfl⟩)
       ·exact⟨k+1,by simp only;omega,by omega,hp,iz,by simp only;omega⟩
       ·simp only;omega)
   ·rw [List.drop_eq_nil_of_le (by omega),aT,bE,List.append_nil] at hp
    repeat' (first
     |(refine bq (fun hb=>?_) (fun hb=>?_)<;>(try simp only [aq] at hb)<;>(first|refine gq dM ?_))
     |(refine aB fun m hm=>?_;(try rw [af] at hm);refine gq dM ?_)
     |(refine ab.ao ?_;refine gq dM ?_)
     |(refine fq ?_))
    all_goals first
     |(exfalso;omega)
     |skip
    subst hp
    obtain rfl:i_=cU:=by omega
    exact⟨[(1,3)],.lI rfl rfl,⟨.inl ⟨_,rfl,.same cV⟩,trivial⟩,rfl⟩
  ·rw [if_neg (by simp_all)] at dz
   refine ab.app (x:=i) (f:=bF) rfl rfl rfl hlen (fun _=>rfl) rfl rfl rfl rfl (by omega) fun s' Gb mV aeP=>?_
   refine gq dM ?_
   repeat' (first
    |(refine ab.op rfl (ad.ag rfl hA ⟨ba (ρ:=ρ) ⟨1,i,n,a⟩,trivial⟩) ?_;refine gq dM ?_)
    )
   have hR:res=s'++bE s' (aT a'):=by rw [dz,mV,TS,bE];simp [bE]
   refine ab.aP (σ:=Int × List Int × Nat) 3 4 [(3,2)] (fun p=>[(0,.gr 3 1 p.2.2),(5,tl ρ a'),(6,.v (.int .i64 p.1))]) [] (fun p=>[(3,lQ ρ p.2.1)])
    (fun p=>∃ k:Nat,p.1=k/\k<=a'.length/\res=p.2.1++bE p.2.1 (aT (a'.drop k))/\p.2.2=p.2.1.length/\p.2.1.length+(aT (a'.drop k)).length<=1099511627776) (fun p=>a'.length - p.1.toNat) (0,s',Gb)
    ⟨0,rfl,by simp,by simpa using hR,by simp only;omega,by simp only [List.drop_zero];first|(rw [mV];simp only [List.length_append,List.length_singleton];omega)⟩ rfl (by exact⟨sq,rfl,⟨.inl ⟨_,rfl,.same cV⟩,trivial⟩,rfl,rfl,rfl⟩) ?_
   rintro⟨j,dE,i_⟩ ⟨k,hj,dS,hp,eP,sr⟩
   simp only at hj hp eP sr
   clear hR dz
   refine gq dM ?_
   by_cases au:k < a'.length
   ·obtain⟨y,fP,cP⟩:=az au
    rw [eR cP,gS] at hp
    rw [eR cP,List.length_append] at sr
    obtain⟨oS,iz,bI⟩:=ih y (eI y (aY fP)) dE i_ (eD.mem y (eI y (aY fP))) eP (by omega)
    have hle:=fQ (cY y) dE
    obtain⟨fC,gJ⟩:∃ fC,fC=dE++bE dE (cY y):=⟨_,rfl⟩
    rw [<-List.append_assoc,<-gJ] at hp
    rw [<-gJ] at iz bI
    have LB:fC.length<=dE.length+(cY y).length:=by rw [gJ,List.length_append];omega
    repeat' (first
     |(refine ab.op rfl (ad.ind rfl rfl (ft (l:=a') hj fP) fu) ?_;refine gq dM ?_)
     |((refine ab.op rfl (ad.iS (m:=[(0,3)]) (to:=[(3,none),(5,some (lQ ρ fC))]) bI rfl ⟨Rn.gr rfl rfl,Rn.pure (ba _),trivial⟩ (Rb.gr rfl) rfl rfl ⟨⟨_,rfl,hO.pure fR⟩,trivial⟩ ⟨⟨1,_,rfl,rfl,iD.pure fR⟩,trivial⟩ rfl (by repeat (first|exact ep rfl )) (.inr rfl)) ?_;refine gq dM ?_))
     |(refine bq (fun hb=>?_) (fun hb=>?_)<;>(try simp only [aq] at hb)<;>(first|refine gq dM ?_))
     |(refine aB fun m hm=>?_;(try rw [af] at hm);refine gq dM ?_)
     |(refine aS fun _ _=>?_;refine gq dM ?_)
     |(refine ab.ao ?_;refine gq dM ?_)
     |(refine fq ?_))
    all_goals first
     |(exfalso;omega)
     |(refine ab.aL (σ:=Int × List Int × Nat) (_,fC,oS) [(3,5)] ?_ ?_ (by exact⟨sq,rfl,⟨.inl ⟨_,rfl,.same cV⟩,trivial⟩,rfl,rfl,rfl⟩)
       ·exact⟨k+1,by simp only;omega,by omega,hp,iz,by simp only;omega⟩
       ·simp only;omega)
   ·rw [List.drop_eq_nil_of_le (by omega),aT,bE,List.append_nil] at hp
    repeat' (first
     |(refine bq (fun hb=>?_) (fun hb=>?_)<;>(try simp only [aq] at hb)<;>(first|refine gq dM ?_))
     |(refine aB fun m hm=>?_;(try rw [af] at hm);refine gq dM ?_)
     |(refine ab.ao ?_;refine gq dM ?_)
     |(refine fq ?_))
    all_goals first
     |(exfalso;omega)
     |skip
    subst hp
    obtain rfl:i_=cU:=by omega
    exact⟨[(1,3)],.lI rfl rfl,⟨.inl ⟨_,rfl,.same cV⟩,trivial⟩,rfl⟩
 ·rw [if_neg hk,OS] at dz hn
  clear cA OS hH hB
  repeat' (first
   |(refine ab.op rfl (ad.ag rfl hA ⟨ba (ρ:=ρ) ⟨kd,i,n,a⟩,trivial⟩) ?_;refine gq dM ?_)
   |(refine bq (fun hb=>?_) (fun hb=>?_)<;>(try simp only [aq] at hb)<;>(first|refine gq dM ?_))
   )
  ·exact absurd (by assumption) hk
  have hR:res=acc++bE acc (aT a'):=by exact dz
  refine ab.aP (σ:=Int × List Int × Nat) 3 4 [(3,0)] (fun p=>[(0,.gr 3 1 p.2.2),(5,tl ρ a'),(6,.v (.int .i64 p.1))]) [] (fun p=>[(3,lQ ρ p.2.1)])
   (fun p=>∃ k:Nat,p.1=k/\k<=a'.length/\res=p.2.1++bE p.2.1 (aT (a'.drop k))/\p.2.2=p.2.1.length/\p.2.1.length+(aT (a'.drop k)).length<=1099511627776) (fun p=>a'.length - p.1.toNat) (0,acc,len)
   ⟨0,rfl,by simp,by simpa using hR,by simp only;omega,by simp only [List.drop_zero];first|omega ⟩ rfl (by exact⟨sq,rfl,⟨.inl ⟨_,rfl,.same cV⟩,trivial⟩,rfl,rfl,rfl⟩) ?_
  rintro⟨j,dE,i_⟩ ⟨k,hj,dS,hp,eP,sr⟩
  simp only at hj hp eP sr
  clear hR dz
  refine gq dM ?_
  by_cases au:k < a'.length
  ·obtain⟨y,fP,cP⟩:=az au
   rw [eR cP,gS] at hp
   rw [eR cP,List.length_append] at sr
   obtain⟨oS,iz,bI⟩:=ih y (eI y (aY fP)) dE i_ (eD.mem y (eI y (aY fP))) eP (by omega)
   have hle:=fQ (cY y) dE
   obtain⟨fC,gJ⟩:∃ fC,fC=dE++bE dE (cY y):=⟨_,rfl⟩
   rw [<-List.append_assoc,<-gJ] at hp
   rw [<-gJ] at iz bI
   have LB:fC.length<=dE.length+(cY y).length:=by rw [gJ,List.length_append];omega
   repeat' (first
    |(refine ab.op rfl (ad.ind rfl rfl (ft (l:=a') hj fP) fu) ?_;refine gq dM ?_)
    |((refine ab.op rfl (ad.iS (m:=[(0,3)]) (to:=[(3,none),(5,some (lQ ρ fC))]) bI rfl ⟨Rn.gr rfl rfl,Rn.pure (ba _),trivial⟩ (Rb.gr rfl) rfl rfl ⟨⟨_,rfl,hO.pure fR⟩,trivial⟩ ⟨⟨1,_,rfl,rfl,iD.pure fR⟩,trivial⟩ rfl (by repeat (first|exact ep rfl )) (.inr rfl)) ?_;refine gq dM ?_))
    |(refine bq (fun hb=>?_) (fun hb=>?_)<;>(try simp only [aq] at hb)<;>(first|refine gq dM ?_))
    |(refine aB fun m hm=>?_;(try rw [af] at hm);refine gq dM ?_)
    |(refine aS fun _ _=>?_;refine gq dM ?_)
    |(refine ab.ao ?_;refine gq dM ?_)
    |(refine fq ?_))
   all_goals first
    |(exfalso;omega)
    |(refine ab.aL (σ:=Int × List Int × Nat) (_,fC,oS) [(3,5)] ?_ ?_ (by exact⟨sq,rfl,⟨.inl ⟨_,rfl,.same cV⟩,trivial⟩,rfl,rfl,rfl⟩)
      ·exact⟨k+1,by simp only;omega,by omega,hp,iz,by simp only;omega⟩
      ·simp only;omega)
  ·rw [List.drop_eq_nil_of_le (by omega),aT,bE,List.append_nil] at hp
   repeat' (first
    |(refine bq (fun hb=>?_) (fun hb=>?_)<;>(try simp only [aq] at hb)<;>(first|refine gq dM ?_))
    |(refine aB fun m hm=>?_;(try rw [af] at hm);refine gq dM ?_)
    |(refine ab.ao ?_;refine gq dM ?_)
    |(refine fq ?_))
   all_goals first
    |(exfalso;omega)
    |skip
   subst hp
   obtain rfl:i_=cU:=by omega
   exact⟨[(1,3)],.lI rfl rfl,⟨.inl ⟨_,rfl,.same cV⟩,trivial⟩,rfl⟩
theorem td (l:List Tm) (hl:l.length<=1099511627776) (mu:eg l) (hn:(aT l).length<=1099511627776):ah Tryz.prog w0 215 [tl ρ l] (b8 ρ bF false (varsOf l)):=by
 obtain⟨res,dz⟩:∃ res,res=varsOf l:=⟨_,rfl⟩
 rw [<-dz]
 unfold varsOf at dz
 refine XA.aG (by simp [Tryz.ntmps215]) ((bQ _)) ?_
 refine gq qi ?_
 refine ab.aP (σ:=Int × List Int × Nat) 0 1 [] (fun p=>[(0,tl ρ l),(3,.gr 0 1 p.2.2),(4,.v (.int .i64 p.1))]) [] (fun p=>[(0,lQ ρ p.2.1)])
  (fun p=>∃ k:Nat,p.1=k/\k<=l.length/\res=p.2.1++bE p.2.1 (aT (l.drop k))/\p.2.2=p.2.1.length/\p.2.1.length+(aT (l.drop k)).length<=1099511627776) (fun p=>l.length - p.1.toNat) (0,[],0)
  ⟨0,rfl,by simp,by simpa using dz,rfl,by simpa using hn⟩ rfl (by exact⟨sq,rfl,⟨.inr rfl,trivial⟩,rfl,rfl,rfl⟩) ?_
 rintro⟨j,dE,i_⟩ ⟨k,hj,dS,hp,eP,sr⟩
 simp only at hj hp eP sr
 clear dz
 refine gq qi ?_
 by_cases au:k < l.length
 ·obtain⟨y,fP,cP⟩:=az au
  rw [eR cP,gS] at hp
  rw [eR cP,List.length_append] at sr
  obtain⟨oS,iz,bI⟩:=Jw (w0:=w0) (ρ:=ρ) y dE i_ (mu.mem y (aY fP)) eP (by omega)
  have hle:=fQ (cY y) dE
  obtain⟨fC,gJ⟩:∃ fC,fC=dE++bE dE (cY y):=⟨_,rfl⟩
  rw [<-List.append_assoc,<-gJ] at hp
  rw [<-gJ] at iz bI
  have LB:fC.length<=dE.length+(cY y).length:=by rw [gJ,List.length_append];omega
  repeat' (first
   |(refine ab.op rfl (ad.ind rfl rfl (ft (l:=l) hj fP) fu) ?_;refine gq qi ?_)
   |((refine ab.op rfl (ad.iS (m:=[(0,0)]) (to:=[(0,none),(2,some (lQ ρ fC))]) bI rfl ⟨Rn.gr rfl rfl,Rn.pure (ba _),trivial⟩ (Rb.gr rfl) rfl rfl ⟨⟨_,rfl,hO.pure fR⟩,trivial⟩ ⟨⟨1,_,rfl,rfl,iD.pure fR⟩,trivial⟩ rfl (by repeat (first|exact ep rfl )) (.inr rfl)) ?_;refine gq qi ?_))
   |(refine bq (fun hb=>?_) (fun hb=>?_)<;>(try simp only [aq] at hb)<;>(first|refine gq qi ?_))
   |(refine aB fun m hm=>?_;(try rw [af] at hm);refine gq qi ?_)
   |(refine aS fun _ _=>?_;refine gq qi ?_)
   |(refine ab.ao ?_;refine gq qi ?_)
   |(refine fq ?_))
  all_goals first
   |(exfalso;omega)
   |(refine ab.aL (σ:=Int × List Int × Nat) (_,fC,oS) [(0,2)] ?_ ?_ (by exact⟨sq,rfl,⟨.inl ⟨_,rfl,.same cV⟩,trivial⟩,rfl,rfl,rfl⟩)
     ·exact⟨k+1,by simp only;omega,by omega,hp,iz,by simp only;omega⟩
     ·simp only;omega)
 ·rw [List.drop_eq_nil_of_le (by omega),aT,bE,List.append_nil] at hp
  repeat' (first
   |(refine bq (fun hb=>?_) (fun hb=>?_)<;>(try simp only [aq] at hb)<;>(first|refine gq qi ?_))
   |(refine aB fun m hm=>?_;(try rw [af] at hm);refine gq qi ?_)
   |(refine ab.ao ?_;refine gq qi ?_)
   |(refine fq ?_))
  all_goals first
   |(exfalso;omega)
   |skip
  subst hp
  exact aU.grow rfl eP
theorem EZ (x:Tm) (hx:x.ok) (hn:(cY x).length<=1099511627776):ah Tryz.prog w0 128 [tm ρ x] (b8 ρ bF false (varsOf [x])):=by
 obtain⟨oS,iz,bI⟩:=Jw (w0:=w0) (ρ:=ρ) x [] 0 hx rfl (by simpa using hn)
 obtain⟨res,dz⟩:∃ res,res=varsOf [x]:=⟨_,rfl⟩
 rw [<-dz]
 unfold varsOf at dz
 rw [aT,aT,List.append_nil] at dz
 rw [List.nil_append,<-dz] at iz bI
 obtain⟨k,i,n,a⟩:=x
 refine XC.aG (by simp [Tryz.ntmps128]) ((bQ _)) ?_
 refine gq TP ?_
 refine ab.Sm (Cv.Q1 (lQ ρ [])) ?_
 refine ab.op rfl (ad.iS (m:=[(0,1)]) (to:=[(1,none),(3,some (lQ ρ res))]) bI rfl ⟨Rn.nil,Rn.pure (ba (ρ:=ρ) ⟨k,i,n,a⟩),trivial⟩ (Rb.gr rfl) rfl rfl ⟨⟨_,rfl,hO.pure fR⟩,trivial⟩ ⟨⟨1,_,rfl,rfl,iD.pure fR⟩,trivial⟩ rfl (by repeat (first|exact (fun _ _ h=>by cases h)|refine jt ?_ rfl)) (.inr rfl)) ?_
 refine gq TP ?_
 refine ab.fin (by conv=>lhs;cbv) ?_
 exact aU.grow rfl iz
theorem Gc (x:At) (hl:x.a.length<=1099511627776) (hk:eg x.a) (hv:(aT x.a).length<=1099511627776):ah Tryz.prog w0 127 [at_ ρ x] (b8 ρ bF false (varsOf x.a)):=by
 have h1:=td (w0:=w0) (ρ:=ρ) x.a hl hk hv
 obtain⟨n,a⟩:=x
 dsimp only at h1 ⊢
 obtain⟨R,hR⟩:∃ R,R=varsOf a:=⟨_,rfl⟩
 rw [<-hR] at h1 ⊢
 refine XD.aG (by simp [Tryz.ntmps127]) ((bQ _)) ?_
 refine gq TQ ?_
 repeat' (first
  |(refine ab.op rfl (ad.ag rfl h1 ⟨bC _,trivial⟩) ?_;refine gq TQ ?_)
  |(refine fq ?_))
 exact aU.of_eq rfl
theorem ye (x:Gl) (hl:x.a.length<=1099511627776) (hk:eg x.a) (hv:(aT x.a).length<=1099511627776):ah Tryz.prog w0 132 [gl ρ x] (b8 ρ bF false (varsOf x.a)):=by
 have h1:=td (w0:=w0) (ρ:=ρ) x.a hl hk hv
 obtain⟨o,n,a⟩:=x
 dsimp only at h1 ⊢
 obtain⟨R,hR⟩:∃ R,R=varsOf a:=⟨_,rfl⟩
 rw [<-hR] at h1 ⊢
 refine XE.aG (by simp [Tryz.ntmps132]) ((bQ _)) ?_
 refine gq TR ?_
 repeat' (first
  |(refine ab.op rfl (ad.ag rfl h1 ⟨bC _,trivial⟩) ?_;refine gq TR ?_)
  |(refine fq ?_))
 exact aU.of_eq rfl
end
end
end Go.Proofs.YtbofilglphfceaaGreat
