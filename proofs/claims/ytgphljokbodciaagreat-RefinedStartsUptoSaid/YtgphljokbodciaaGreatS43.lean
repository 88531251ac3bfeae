import Derived.Test.YtgphljokbodciaaGreatS42
namespace Go.Proofs.YtgphljokbodciaaGreat
set_option linter.unusedVariables false
set_option linter.unusedSimpArgs false
open Go.RowKit
section
set_option maxRecDepth 100000
attribute [local irreducible] ah aV ad ab
def R9:CF Tryz.f134:=⟨_,by conv=>lhs;cbv⟩
theorem ac_:aD Tryz.prog 134 R9.1 Tryz.f134.ntmps:=aO Tryz.func134 R9.2 Tryz.call134
def bU:List Nat:=[3,16,2,1,5,13,15,4,6,14,18,17,12,0,49,53,86,90,111,115,134,158,166,20,183]
def uz (p:Pg) (next fresh:Int) (b:List Bd) (x:Im):Bool:=decide (x.id < next) && dU p.ds x.n x.a.length && fg (varsOf x.a) fresh b
def uA (fresh:Int) (b:List Bd) (x:Bd):Bool:=decide (x.v < fresh) && fg (varsOf [x.t]) fresh b
def sB (p:Pg) (st:List Im) (x:Fi):Bool:=decide (0<=x.jM) && match p.rs[x.jM.toNat]? with
 |none=>false
 |some r=>r.rem.isEmpty && decide (x.ids.length=(r.aT++r.rem).length) && x.ids.all fun id=>(ia st id).2
def qw (p:Pg) (st:List Im) (b:List Bd) (f:List Fi) (next fresh:Int):Bool:=(jP st && (jn b && (iB f && (decide (1<=next) && (decide (next<=2147483648) && (decide (0<=fresh) && decide (fresh<=1048576))))))) && (st.all (uz p next fresh b) && (b.all (uA fresh b) && f.all (sB p st)))
section
variable {w0:World}{ρ:Hd}
set_option maxHeartbeats 4000000 in
theorem Oj (p:Pg) (st:List Im) (b:List Bd) (f:List Fi) (next fresh:Int) (hd:p.ds.length<=1099511627776) (gZ:p.rs.length<=1099511627776) (fD:∀ r ∈ p.rs,r.aT.length+r.rem.length<=549755813888) (jI:st.length<=1099511627776) (td:b.length<=1099511627776) (hfl:f.length<=1099511627776) (R_:∀ x ∈ st,x.ok) (mw:∀ x ∈ b,x.ok) (F9:∀ x ∈ f,x.ok) :
  ah Tryz.prog w0 134 [pg ρ p,fN ρ st,eL ρ b,gW ρ f,iv next,iv fresh] (.v (.bool (qw p st b f next fresh))):=by
 have h1:=KP (w0:=w0) (ρ:=ρ) st jI R_
 have h2:=KX (w0:=w0) (ρ:=ρ) b td mw
 have h3:=LH (w0:=w0) (ρ:=ρ) f hfl F9
 obtain⟨R,hR⟩:∃ R,R=qw p st b f next fresh:=⟨_,rfl⟩
 rw [<-hR]
 unfold qw at hR
 obtain⟨A,hA⟩:∃ b,b=jP st:=⟨_,rfl⟩
 obtain⟨U,hU⟩:∃ x,x=jn b:=⟨_,rfl⟩
 obtain⟨H,hH⟩:∃ x,x=iB f:=⟨_,rfl⟩
 rw [<-hA,<-hU,<-hH] at hR
 rw [<-hA] at h1
 rw [<-hU] at h2
 rw [<-hH] at h3
 clear hA hU hH
 obtain⟨ds,rs⟩:=p
 dsimp only at hd fD gZ
 refine ac_.aH (by simp [Tryz.ntmps134]) (.v) ?_
 refine gq bU ?_
 repeat' (first
  |(refine ab.bif rfl (ad.ag rfl h1 ⟨ct _,trivial⟩) (fun _=>?_) (fun _=>?_)<;>refine gq bU ?_)
  |(refine ab.bif rfl (ad.ag rfl h2 ⟨b8 _,trivial⟩) (fun _=>?_) (fun _=>?_)<;>refine gq bU ?_)
  |(refine ab.bif rfl (ad.ag rfl h3 ⟨cN _,trivial⟩) (fun _=>?_) (fun _=>?_)<;>refine gq bU ?_)
  |(refine bq (fun hb=>?_) (fun hb=>?_)<;>(try simp only [aq] at hb)<;>(first|refine gq bU ?_))
  |(refine fq ?_))
 all_goals first
  |(refine aI ?_;rw [hR,show A=false by assumption];rfl)
  |(refine aI ?_;rw [hR,show U=false by assumption];simp;done)
  |(refine aI ?_;rw [hR,show H=false by assumption];simp;done)
  |(refine aI ?_;rw [hR,decide_eq_false (show ¬ 1<=next by omega)];simp;done)
  |(refine aI ?_;rw [hR,decide_eq_false (show ¬ next<=2147483648 by omega)];simp;done)
  |(refine aI ?_;rw [hR,decide_eq_false (show ¬ 0<=fresh by omega)];simp;done)
  |(refine aI ?_;rw [hR,decide_eq_false (show ¬ fresh<=1048576 by omega)];simp;done)
  |skip
 rw [show A=true by assumption,show U=true by assumption,show H=true by assumption,decide_eq_true (show 1<=next by omega),decide_eq_true (show next<=2147483648 by omega),decide_eq_true (show 0<=fresh by omega),decide_eq_true (show fresh<=1048576 by omega)] at hR
 simp only [Bool.true_and] at hR
 clear h1 h2 h3
 obtain⟨T2,rG⟩:∃ T,T=(b.all (uA fresh b) && f.all (sB ⟨ds,rs⟩ st)):=⟨_,rfl⟩
 rw [<-rG] at hR
 refine ab.aP (σ:=Int) 1 1 [] (fun q=>[(1,fN ρ st),(2,eL ρ b),(3,gW ρ f),(4,.v (.int .i64 next)),(5,.v (.int .i64 fresh)),(6,.pt 0 2 0 0),(13,.v (.int .i64 q))]) [] (fun _=>[(0,.arr 2 [iY ρ ⟨ds,rs⟩] 0 true)]) (fun q=>∃ k:Nat,q=k/\k<=st.length/\R=((st.drop k).all (uz ⟨ds,rs⟩ next fresh b) && T2)) (fun q=>st.length - q.toNat) 0 ⟨0,rfl,by simp,by simpa using hR⟩ rfl (by exact⟨sq,rfl,⟨.inl ⟨_,rfl,.arr (by exact⟨kq,trivial⟩)⟩,trivial⟩,rfl,rfl,rfl⟩) ?_
 rintro q ⟨k,hi,hk,hp⟩
 clear hR
 refine gq bU ?_
 by_cases au:k < st.length
 ·obtain⟨x,hx,aQ⟩:=aA au
  rw [aQ,List.all_cons,Bool.and_assoc] at hp
  have dY:=R_ x (aZ hx)
  have hV:=Hm (w0:=w0) (ρ:=ρ) ⟨x.n,x.a⟩ dY.1.len dY.1.1 (qu dY.1)
  have hF:=Dn (w0:=w0) (ρ:=ρ) (varsOf x.a) fresh b td (oZ dY.1)
  have hD:=pY (w0:=w0) (ρ:=ρ) ds x.n x.a.length hd
  have pa:=dY.1.len
  have kJ:=cX (ρ:=ρ) ⟨x.n,x.a⟩
  unfold uz at hp
  dsimp only at hp hV
  obtain⟨F,sC⟩:∃ F,F=fg (varsOf x.a) fresh b:=⟨_,rfl⟩
  obtain⟨D,v3⟩:∃ D,D=dU ds x.n x.a.length:=⟨_,rfl⟩
  rw [<-sC,<-v3] at hp
  rw [<-sC] at hF
  rw [<-v3] at hD
  obtain⟨vs,jH⟩:∃ vs,vs=varsOf x.a:=⟨_,rfl⟩
  rw [<-jH] at hV hF
  obtain⟨q3,BF⟩:∃ q:Int,q=x.a.length:=⟨_,rfl⟩
  rw [<-BF] at hD
  clear sC v3 jH dY
  obtain⟨xi,xn,xa⟩:=x
  dsimp only at hp BF hD pa kJ hV
  obtain⟨T1,pd⟩:∃ T,T=((st.drop (k+1)).all (uz ⟨ds,rs⟩ next fresh b) && T2):=⟨_,rfl⟩
  unfold uz at pd
  rw [<-pd] at hp
  refine ab.int rfl (ad.len rfl) fun m0 o7=>?_;rw [af] at o7
  refine gq bU ?_
  repeat' (first
   |(refine ab.op rfl (ad.ind rfl rfl (ay (l:=st) hi hx) (aw fun _=>rfl)) ?_;refine gq bU ?_)
   |(refine ab.int rfl (ad.len rfl) fun m hm=>?_;rw [af] at hm;obtain rfl:m=q3:=(by omega);refine gq bU ?_)
   |(refine ab.bif rfl (ad.ag rfl hD ⟨cg _,.v,.v,trivial⟩) (fun _=>?_) (fun _=>?_)<;>refine gq bU ?_)
   |(refine ab.op rfl (ad.ag rfl hV ⟨kJ,trivial⟩) ?_;refine gq bU ?_)
   |(refine ab.bif rfl (ad.ag rfl hF ⟨bR _,.v,b8 _,trivial⟩) (fun _=>?_) (fun _=>?_)<;>refine gq bU ?_)
   |(refine bq (fun hb=>?_) (fun hb=>?_)<;>(try simp only [aq] at hb)<;>(first|refine gq bU ?_))
   |(refine aS fun _ _=>?_;refine gq bU ?_)
   |(refine ab.ao ?_;refine gq bU ?_)
   |(refine ab.bK ?_;refine gq bU ?_)
   |(refine fq ?_))
  all_goals first
   |(exfalso;omega)
   |(refine aI ?_;rw [hp,decide_eq_false (show ¬ xi < next by omega)];rfl)
   |(refine aI ?_;rw [hp,show D=false by assumption];simp;done)
   |(refine aI ?_;rw [hp,show F=false by assumption];simp;done)
   |(rw [decide_eq_true (show xi < next by omega),show D=true by assumption,show F=true by assumption,Bool.true_and,Bool.true_and,Bool.true_and,pd] at hp
     refine ab.aK (σ:=Int) _ [] ?_ ?_ (by exact⟨sq,rfl,⟨.inl ⟨_,rfl,.arr (by exact⟨kq,trivial⟩)⟩,trivial⟩,rfl,rfl,rfl⟩)<;>first|omega|exact⟨k+1,by omega,by omega,hp⟩)
 rw [List.drop_eq_nil_of_le (by omega),List.all_nil,Bool.true_and,rG] at hp
 clear rG
 repeat' (first
  |(refine bq (fun hb=>?_) (fun hb=>?_)<;>(try simp only [aq] at hb)<;>(first|refine gq bU ?_))
  |(refine az fun m hm=>?_;(try rw [af] at hm);refine gq bU ?_)
  |(refine ab.ao ?_;refine gq bU ?_)
  )
 all_goals first
  |(exfalso;omega)
  |skip
 obtain⟨T3,rH⟩:∃ T,T=f.all (sB ⟨ds,rs⟩ st):=⟨_,rfl⟩
 rw [<-rH] at hp
 refine ab.aP (σ:=Int) 1 1 [] (fun q=>[(1,fN ρ st),(2,eL ρ b),(3,gW ρ f),(5,.v (.int .i64 fresh)),(6,.pt 0 2 0 0),(15,.v (.int .i64 q))]) [] (fun _=>[(0,.arr 2 [iY ρ ⟨ds,rs⟩] 0 true)]) (fun q=>∃ k:Nat,q=k/\k<=b.length/\R=((b.drop k).all (uA fresh b) && T3)) (fun q=>b.length - q.toNat) 0 ⟨0,rfl,by simp,by simpa using hp⟩ rfl (by exact⟨sq,rfl,⟨.inl ⟨_,rfl,.arr (by exact⟨kq,trivial⟩)⟩,trivial⟩,rfl,rfl,rfl⟩) ?_
 clear hp
 rintro q2 ⟨k2,nZ,dD,hp⟩
 refine gq bU ?_
 by_cases iM:k2 < b.length
 ·obtain⟨x,hx,aQ⟩:=aA iM
  obtain⟨l0,tc⟩:=mw x (aZ hx)
  rw [aQ,List.all_cons,Bool.and_assoc] at hp
  have hV:=FI (w0:=w0) (ρ:=ρ) x.t l0 (Nat.le_trans (kp _) tc)
  have s9:(varsOf [x.t]).length<=1099511627776:=by
   have h1:=nF [x.t]
   rw [bj,bj] at h1
   omega
  have hF:=Dn (w0:=w0) (ρ:=ρ) (varsOf [x.t]) fresh b td s9
  obtain⟨T1,pd⟩:∃ T,T=((b.drop (k2+1)).all (uA fresh b) && T3):=⟨_,rfl⟩
  rw [<-pd,uA] at hp
  obtain⟨F,sC⟩:∃ F,F=fg (varsOf [x.t]) fresh b:=⟨_,rfl⟩
  rw [<-sC] at hp hF
  obtain⟨vs,jH⟩:∃ vs,vs=varsOf [x.t]:=⟨_,rfl⟩
  rw [<-jH] at hV hF
  clear sC jH s9
  obtain⟨xv,xk,xi,xn,xa⟩:=x
  dsimp only at hp
  refine ab.int rfl (ad.len rfl) fun m0 o7=>?_;rw [af] at o7
  refine gq bU ?_
  repeat' (first
   |(refine ab.op rfl (ad.ind rfl rfl (ay (l:=b) nZ hx) (aw fun _=>rfl)) ?_;refine gq bU ?_)
   |(refine ab.op rfl (ad.ag rfl hV ⟨bf (ρ:=ρ) ⟨xk,xi,xn,xa⟩,trivial⟩) ?_;refine gq bU ?_)
   |(refine ab.bif rfl (ad.ag rfl hF ⟨bR _,.v,b8 _,trivial⟩) (fun _=>?_) (fun _=>?_)<;>refine gq bU ?_)
   |(refine bq (fun hb=>?_) (fun hb=>?_)<;>(try simp only [aq] at hb)<;>(first|refine gq bU ?_))
   |(refine aS fun _ _=>?_;refine gq bU ?_)
   |(refine ab.ao ?_;refine gq bU ?_)
   |(refine ab.bK ?_;refine gq bU ?_)
   |(refine fq ?_))
  all_goals first
   |(exfalso;omega)
   |(refine aI ?_;rw [hp,decide_eq_false (show ¬ xv < fresh by omega)];rfl)
   |(refine aI ?_;rw [hp,show F=false by assumption];simp;done)
   |(rw [decide_eq_true (show xv < fresh by omega),show F=true by assumption,Bool.true_and,Bool.true_and,pd] at hp
     refine ab.aK (σ:=Int) _ [] ?_ ?_ (by exact⟨sq,rfl,⟨.inl ⟨_,rfl,.arr (by exact⟨kq,trivial⟩)⟩,trivial⟩,rfl,rfl,rfl⟩)<;>first|omega|exact⟨k2+1,by omega,by omega,hp⟩)
 rw [List.drop_eq_nil_of_le (by omega),List.all_nil,Bool.true_and,rH] at hp
 clear rH
 repeat' (first
  |(refine bq (fun hb=>?_) (fun hb=>?_)<;>(try simp only [aq] at hb)<;>(first|refine gq bU ?_))
  |(refine az fun m hm=>?_;(try rw [af] at hm);refine gq bU ?_)
  |(refine ab.ao ?_;refine gq bU ?_)
  )
 all_goals first
  |(exfalso;omega)
  |skip
 refine ab.aP (σ:=Int) 1 1 [] (fun q=>[(1,fN ρ st),(3,gW ρ f),(6,.pt 0 2 0 0),(16,.v (.int .i64 q))]) [] (fun _=>[(0,.arr 2 [iY ρ ⟨ds,rs⟩] 0 true)]) (fun q=>∃ k:Nat,q=k/\k<=f.length/\R=(f.drop k).all (sB ⟨ds,rs⟩ st)) (fun q=>f.length - q.toNat) 0 ⟨0,rfl,by simp,by simpa using hp⟩ rfl (by exact⟨sq,rfl,⟨.inl ⟨_,rfl,.arr (by exact⟨kq,trivial⟩)⟩,trivial⟩,rfl,rfl,rfl⟩) ?_
 clear hp
 rintro q3 ⟨k3,uN,sf,hp⟩
 refine gq bU ?_
 by_cases kU:k3 < f.length
 ·obtain⟨x,hx,aQ⟩:=aA kU
  have pa:=F9 x (aZ hx)
  unfold Fi.ok at pa
  rw [aQ,List.all_cons] at hp
  obtain⟨T1,pd⟩:∃ T,T=(f.drop (k3+1)).all (sB ⟨ds,rs⟩ st):=⟨_,rfl⟩
  rw [<-pd,sB] at hp
  obtain⟨xr,ids⟩:=x
  dsimp only at hp pa
  refine ab.int rfl (ad.len rfl) fun m0 o7=>?_;rw [af] at o7
  refine gq bU ?_
  cases dO:rs[xr.toNat]? with
  |none =>
   rw [dO] at hp
   dsimp only at hp
   have hle:=List.getElem?_eq_none_iff.1 dO
   repeat' (first
    |(refine ab.op rfl (ad.ind rfl rfl (ay (l:=f) uN hx) (aw fun _=>rfl)) ?_;refine gq bU ?_)
    |(refine bq (fun hb=>?_) (fun hb=>?_)<;>(try simp only [aq] at hb)<;>(first|refine gq bU ?_))
    |(refine az fun m hm=>?_;(try rw [af] at hm);refine gq bU ?_)
    |(refine ab.ao ?_;refine gq bU ?_)
    |(refine ab.bK ?_;refine gq bU ?_)
    |(refine fq ?_))
   all_goals first
    |(exfalso;omega)
    |(rw [hp];refine aI ?_;simp;done)
  |some r =>
   rw [dO] at hp
   have aiI:=(List.getElem?_eq_some_iff.1 dO).1
   have hrk:=fD r (List.mem_of_getElem? dO)
   have hP:=TM (w0:=w0) (ρ:=ρ) r (by omega)
   have hH:=K4 (w0:=w0) (ρ:=ρ) r hrk
   have lJ:=iz (ρ:=ρ) r
   have sn:(r.aT++r.rem).length<=549755813888:=by rw [List.length_append];exact hrk
   obtain⟨rn,Sa,Sb,rg,rb,rv⟩:=r
   dsimp only at hp hP hH sn
   obtain⟨PB,Sc⟩:∃ b,b=Sb.isEmpty:=⟨_,rfl⟩
   rw [<-Sc] at hp hP
   obtain⟨L,hL⟩:∃ L,L=Sa++Sb:=⟨_,rfl⟩
   rw [<-hL] at hp hH sn
   clear hL Sc
   repeat' (first
    |(refine ab.op rfl (ad.ind rfl rfl (ay (l:=f) uN hx) (aw fun _=>rfl)) ?_;refine gq bU ?_)
    |((refine ab.og rfl (fun T=>ad.ind rfl rfl (ay (l:=f) uN hx) (aw fun _=>rfl)) ?_;refine gq bU ?_))
    |((refine ab.og rfl (fun T=>ad.ind rfl rfl (ay (l:=rs) (k:=xr.toNat) (by omega) dO) (aw fun _=>rfl)) ?_;refine gq bU ?_))
    |(refine ab.bif rfl (ad.ag rfl hP ⟨lJ,trivial⟩) (fun _=>?_) (fun _=>?_)<;>refine gq bU ?_)
    |(refine ab.op rfl (ad.ag rfl hH ⟨lJ,trivial⟩) ?_;refine gq bU ?_)
    |(refine bq (fun hb=>?_) (fun hb=>?_)<;>(try simp only [aq] at hb)<;>(first|refine gq bU ?_))
    |(refine az fun m hm=>?_;(try rw [af] at hm);refine gq bU ?_)
    |(refine ab.ao ?_;refine gq bU ?_)
    |(refine ab.bK ?_;refine gq bU ?_)
    |(refine fq ?_))
   all_goals first
    |(exfalso;omega)
    |(refine aI ?_;rw [hp,decide_eq_false (show ¬ 0<=xr by omega)];rfl)
    |(refine aI ?_;rw [hp,show PB=false by assumption];simp;done)
    |(refine aI ?_;rw [hp,decide_eq_false (show ¬ ids.length=L.length by omega)];simp;done)
    |skip
   rw [decide_eq_true (show 0<=xr by omega),show PB=true by assumption,decide_eq_true (show ids.length=L.length by omega)] at hp
   simp only [Bool.true_and] at hp
   refine ab.aP (σ:=Int) 6 6 [] (fun t=>[(1,fN ρ st),(3,gW ρ f),(6,.pt 0 2 0 0),(16,.v (.int .i64 q3)),(18,.v (.int .i64 t))]) [] (fun _=>[(0,.arr 2 [iY ρ ⟨ds,rs⟩] 0 true)]) (fun t=>∃ k:Nat,t=k/\k<=ids.length/\R=((ids.drop k).all (fun id=>(ia st id).2) && T1)) (fun t=>ids.length - t.toNat) 0 ⟨0,rfl,by simp,by simpa using hp⟩ rfl (by exact⟨sq,rfl,⟨.inl ⟨_,rfl,.arr (by exact⟨kq,trivial⟩)⟩,trivial⟩,rfl,rfl,rfl⟩) ?_
   clear hp
   rintro t ⟨k4,R7,RB,hp⟩
   refine gq bU ?_
   by_cases Og:k4 < ids.length
   ·obtain⟨y,hy,cT⟩:=aA Og
    rw [cT,List.all_cons,Bool.and_assoc] at hp
    have Sd:=VG (w0:=w0) (ρ:=ρ) st y jI
    obtain⟨⟨⟨an,aa⟩,fb⟩,Se⟩:∃ q,q=ia st y:=⟨_,rfl⟩
    rw [<-Se] at hp Sd
    dsimp only at hp Sd
    cases fb
    ·skip
     repeat' (first
      |(refine ab.op rfl (ad.ind rfl rfl (ay (l:=f) uN hx) (aw fun _=>rfl)) ?_;refine gq bU ?_)
      |(refine ab.op rfl (ad.ind rfl rfl (ay (l:=ids) R7 hy) (aw fun _=>rfl)) ?_;refine gq bU ?_)
      |(refine ab.op rfl (ad.ag rfl Sd ⟨ct _,.v,trivial⟩) ?_;refine gq bU ?_)
      |(refine bq (fun hb=>?_) (fun hb=>?_)<;>(try simp only [aq] at hb)<;>(first|refine gq bU ?_))
      |(refine az fun m hm=>?_;(try rw [af] at hm);refine gq bU ?_)
      |(refine aS fun _ _=>?_;refine gq bU ?_)
      |(refine ab.ao ?_;refine gq bU ?_)
      |(refine ab.bK ?_;refine gq bU ?_)
      |(refine fq ?_))
     all_goals first
      |(exfalso;omega)
      |(rw [hp];exact aI rfl)
    ·skip
     repeat' (first
      |(refine ab.op rfl (ad.ind rfl rfl (ay (l:=f) uN hx) (aw fun _=>rfl)) ?_;refine gq bU ?_)
      |(refine ab.op rfl (ad.ind rfl rfl (ay (l:=ids) R7 hy) (aw fun _=>rfl)) ?_;refine gq bU ?_)
      |(refine ab.op rfl (ad.ag rfl Sd ⟨ct _,.v,trivial⟩) ?_;refine gq bU ?_)
      |(refine bq (fun hb=>?_) (fun hb=>?_)<;>(try simp only [aq] at hb)<;>(first|refine gq bU ?_))
      |(refine az fun m hm=>?_;(try rw [af] at hm);refine gq bU ?_)
      |(refine aS fun _ _=>?_;refine gq bU ?_)
      |(refine ab.ao ?_;refine gq bU ?_)
      )
     all_goals first
      |(exfalso;omega)
      |(rw [Bool.true_and] at hp
        refine ab.aK (σ:=Int) _ [] ?_ ?_ (by exact⟨sq,rfl,⟨.inl ⟨_,rfl,.arr (by exact⟨kq,trivial⟩)⟩,trivial⟩,rfl,rfl,rfl⟩)<;>first|omega|exact⟨k4+1,by omega,by omega,hp⟩)
   ·rw [List.drop_eq_nil_of_le (by omega),List.all_nil,Bool.true_and,pd] at hp
    repeat' (first
     |(refine ab.op rfl (ad.ind rfl rfl (ay (l:=f) uN hx) (aw fun _=>rfl)) ?_;refine gq bU ?_)
     |(refine bq (fun hb=>?_) (fun hb=>?_)<;>(try simp only [aq] at hb)<;>(first|refine gq bU ?_))
     |(refine az fun m hm=>?_;(try rw [af] at hm);refine gq bU ?_)
     |(refine aS fun _ _=>?_;refine gq bU ?_)
     |(refine ab.ao ?_;refine gq bU ?_)
     )
    all_goals first
     |(exfalso;omega)
     |(refine ab.aK (σ:=Int) _ [] ?_ ?_ (by exact⟨sq,rfl,⟨.inl ⟨_,rfl,.arr (by exact⟨kq,trivial⟩)⟩,trivial⟩,rfl,rfl,rfl⟩)<;>first|omega|exact⟨k3+1,by omega,by omega,hp⟩)
 rw [List.drop_eq_nil_of_le (by omega),List.all_nil] at hp
 repeat' (first
  |(refine bq (fun hb=>?_) (fun hb=>?_)<;>(try simp only [aq] at hb)<;>(first|refine gq bU ?_))
  |(refine az fun m hm=>?_;(try rw [af] at hm);refine gq bU ?_)
  |(refine ab.ao ?_;refine gq bU ?_)
  |(refine fq ?_))
 all_goals first
  |(exfalso;omega)
  |(rw [hp];exact aI rfl)
end
end
end Go.Proofs.YtgphljokbodciaaGreat
