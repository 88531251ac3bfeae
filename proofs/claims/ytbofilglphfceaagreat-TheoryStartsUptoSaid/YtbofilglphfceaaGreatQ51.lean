import Derived.Test.YtbofilglphfceaaGreatQ50
namespace Go.Proofs.YtbofilglphfceaaGreat
set_option linter.unusedVariables false
set_option linter.unusedSimpArgs false
open Go.RowKit
section
set_option maxRecDepth 100000
attribute [local irreducible] ah bc ad ab
def V2:CF Tryz.f57:=⟨_,by conv=>lhs;cbv⟩
theorem acO:aH Tryz.prog 57 V2.1 Tryz.f57.ntmps:=aQ Tryz.func57 V2.2 Tryz.call57
def cF:List Nat:=[3,16,2,1,5,13,15,4,6,14,18,17,12,0,49,53,86,90,111,115,134,158,166,20,183]
def rJ (p:Pg) (next fresh:Int) (b:List Bd) (x:Im):Bool:=decide (x.id < next) && ef p.ds x.n x.a.length && er (varsOf x.a) fresh b
def rK (fresh:Int) (b:List Bd) (x:Bd):Bool:=decide (x.v < fresh) && er (varsOf [x.t]) fresh b
def pD (p:Pg) (st:List Im) (x:Fi):Bool:=decide (0<=x.kG) && match p.rs[x.kG.toNat]? with
 |none=>false
 |some r=>r.rem.isEmpty && decide (x.ids.length=(r.aV++r.rem).length) && x.ids.all fun id=>(jl st id).2
def pM (p:Pg) (st:List Im) (b:List Bd) (f:List Fi) (next fresh:Int):Bool:=(jy st && (iO b && (gW f && (decide (1<=next) && (decide (next<=2147483648) && (decide (0<=fresh) && decide (fresh<=1048576))))))) && (st.all (rJ p next fresh b) && (b.all (rK fresh b) && f.all (pD p st)))
section
variable {w0:World}{ρ:Hd}
set_option maxHeartbeats 4000000 in
theorem MS (p:Pg) (st:List Im) (b:List Bd) (f:List Fi) (next fresh:Int) (hd:p.ds.length<=1099511627776) (ji:p.rs.length<=1099511627776) (fp:∀ r ∈ p.rs,r.aV.length+r.rem.length<=549755813888) (jf:st.length<=1099511627776) (sJ:b.length<=1099511627776) (hfl:f.length<=1099511627776) (Qf:∀ x ∈ st,x.ok) (lU:∀ x ∈ b,x.ok) (Fe:∀ x ∈ f,x.ok) :
  ah Tryz.prog w0 57 [pg ρ p,fJ ρ st,eJ ρ b,gO ρ f,iv next,iv fresh] (.v (.bool (pM p st b f next fresh))):=by
 have h1:=JB (w0:=w0) (ρ:=ρ) st jf Qf
 have h2:=JJ (w0:=w0) (ρ:=ρ) b sJ lU
 have h3:=J6 (w0:=w0) (ρ:=ρ) f hfl Fe
 obtain⟨R,hR⟩:∃ R,R=pM p st b f next fresh:=⟨_,rfl⟩
 rw [<-hR]
 unfold pM at hR
 obtain⟨A,hA⟩:∃ b,b=jy st:=⟨_,rfl⟩
 obtain⟨U,hU⟩:∃ x,x=iO b:=⟨_,rfl⟩
 obtain⟨H,hH⟩:∃ x,x=gW f:=⟨_,rfl⟩
 rw [<-hA,<-hU,<-hH] at hR
 rw [<-hA] at h1
 rw [<-hU] at h2
 rw [<-hH] at h3
 clear hA hU hH
 obtain⟨ds,rs⟩:=p
 dsimp only at hd fp ji
 refine acO.aG (by simp [Tryz.ntmps57]) (.v) ?_
 refine gq cF ?_
 repeat' (first
  |(refine ab.a_ rfl (ad.ag rfl h1 ⟨cb _,trivial⟩) (fun _=>?_) (fun _=>?_)<;>refine gq cF ?_)
  |(refine ab.a_ rfl (ad.ag rfl h2 ⟨bT _,trivial⟩) (fun _=>?_) (fun _=>?_)<;>refine gq cF ?_)
  |(refine ab.a_ rfl (ad.ag rfl h3 ⟨cJ _,trivial⟩) (fun _=>?_) (fun _=>?_)<;>refine gq cF ?_)
  |(refine bq (fun hb=>?_) (fun hb=>?_)<;>(try simp only [aq] at hb)<;>(first|refine gq cF ?_))
  |(refine fq ?_))
 all_goals first
  |(refine aC ?_;rw [hR,show A=false by assumption];rfl)
  |(refine aC ?_;rw [hR,show U=false by assumption];simp;done)
  |(refine aC ?_;rw [hR,show H=false by assumption];simp;done)
  |(refine aC ?_;rw [hR,decide_eq_false (show ¬ 1<=next by omega)];simp;done)
  |(refine aC ?_;rw [hR,decide_eq_false (show ¬ next<=2147483648 by omega)];simp;done)
  |(refine aC ?_;rw [hR,decide_eq_false (show ¬ 0<=fresh by omega)];simp;done)
  |(refine aC ?_;rw [hR,decide_eq_false (show ¬ fresh<=1048576 by omega)];simp;done)
  |skip
 rw [show A=true by assumption,show U=true by assumption,show H=true by assumption,decide_eq_true (show 1<=next by omega),decide_eq_true (show next<=2147483648 by omega),decide_eq_true (show 0<=fresh by omega),decide_eq_true (show fresh<=1048576 by omega)] at hR
 simp only [Bool.true_and] at hR
 clear h1 h2 h3
 obtain⟨T2,nc⟩:∃ T,T=(b.all (rK fresh b) && f.all (pD ⟨ds,rs⟩ st)):=⟨_,rfl⟩
 rw [<-nc] at hR
 refine ab.aP (σ:=Int) 1 1 [] (fun q=>[(1,fJ ρ st),(2,eJ ρ b),(3,gO ρ f),(4,.v (.int .i64 next)),(5,.v (.int .i64 fresh)),(6,.pt 0 2 0 0),(13,.v (.int .i64 q))]) [] (fun _=>[(0,.arr 2 [lO ρ ⟨ds,rs⟩] 0 true)]) (fun q=>∃ k:Nat,q=k/\k<=st.length/\R=((st.drop k).all (rJ ⟨ds,rs⟩ next fresh b) && T2)) (fun q=>st.length - q.toNat) 0 ⟨0,rfl,by simp,by simpa using hR⟩ rfl (by exact⟨sq,rfl,⟨.inl ⟨_,rfl,.arr (by exact⟨kq,trivial⟩)⟩,trivial⟩,rfl,rfl,rfl⟩) ?_
 rintro q ⟨k,hi,hk,hp⟩
 clear hR
 refine gq cF ?_
 by_cases au:k < st.length
 ·obtain⟨x,hx,aO⟩:=az au
  rw [aO,List.all_cons,Bool.and_assoc] at hp
  have dV:=Qf x (aY hx)
  have hV:=Gc (w0:=w0) (ρ:=ρ) ⟨x.n,x.a⟩ dV.1.len dV.1.1 (nS dV.1)
  have hF:=CK (w0:=w0) (ρ:=ρ) (varsOf x.a) fresh b sJ (mA dV.1)
  have hD:=po (w0:=w0) (ρ:=ρ) ds x.n x.a.length hd
  have oC:=dV.1.len
  have kD:=de (ρ:=ρ) ⟨x.n,x.a⟩
  unfold rJ at hp
  dsimp only at hp hV
  obtain⟨F,jI⟩:∃ F,F=er (varsOf x.a) fresh b:=⟨_,rfl⟩
  obtain⟨D,uY⟩:∃ D,D=ef ds x.n x.a.length:=⟨_,rfl⟩
  rw [<-jI,<-uY] at hp
  rw [<-jI] at hF
  rw [<-uY] at hD
  obtain⟨vs,ir⟩:∃ vs,vs=varsOf x.a:=⟨_,rfl⟩
  rw [<-ir] at hV hF
  obtain⟨q3,AL⟩:∃ q:Int,q=x.a.length:=⟨_,rfl⟩
  rw [<-AL] at hD
  clear jI uY ir dV
  obtain⟨xi,xn,xa⟩:=x
  dsimp only at hp AL hD oC kD hV
  obtain⟨T1,oJ⟩:∃ T,T=((st.drop (k+1)).all (rJ ⟨ds,rs⟩ next fresh b) && T2):=⟨_,rfl⟩
  unfold rJ at oJ
  rw [<-oJ] at hp
  refine ab.int rfl (ad.len rfl) fun m0 kO=>?_;rw [af] at kO
  refine gq cF ?_
  repeat' (first
   |(refine ab.op rfl (ad.ind rfl rfl (ay (l:=st) hi hx) (aw fun _=>rfl)) ?_;refine gq cF ?_)
   |(refine ab.int rfl (ad.len rfl) fun m hm=>?_;rw [af] at hm;obtain rfl:m=q3:=(by omega);refine gq cF ?_)
   |(refine ab.a_ rfl (ad.ag rfl hD ⟨bU _,.v,.v,trivial⟩) (fun _=>?_) (fun _=>?_)<;>refine gq cF ?_)
   |(refine ab.op rfl (ad.ag rfl hV ⟨kD,trivial⟩) ?_;refine gq cF ?_)
   |(refine ab.a_ rfl (ad.ag rfl hF ⟨bQ _,.v,bT _,trivial⟩) (fun _=>?_) (fun _=>?_)<;>refine gq cF ?_)
   |(refine bq (fun hb=>?_) (fun hb=>?_)<;>(try simp only [aq] at hb)<;>(first|refine gq cF ?_))
   |(refine aS fun _ _=>?_;refine gq cF ?_)
   |(refine ab.ao ?_;refine gq cF ?_)
   |(refine ab.bJ ?_;refine gq cF ?_)
   |(refine fq ?_))
  all_goals first
   |(exfalso;omega)
   |(refine aC ?_;rw [hp,decide_eq_false (show ¬ xi < next by omega)];rfl)
   |(refine aC ?_;rw [hp,show D=false by assumption];simp;done)
   |(refine aC ?_;rw [hp,show F=false by assumption];simp;done)
   |(rw [decide_eq_true (show xi < next by omega),show D=true by assumption,show F=true by assumption,Bool.true_and,Bool.true_and,Bool.true_and,oJ] at hp
     refine ab.aL (σ:=Int) _ [] ?_ ?_ (by exact⟨sq,rfl,⟨.inl ⟨_,rfl,.arr (by exact⟨kq,trivial⟩)⟩,trivial⟩,rfl,rfl,rfl⟩)<;>first|omega|exact⟨k+1,by omega,by omega,hp⟩)
 rw [List.drop_eq_nil_of_le (by omega),List.all_nil,Bool.true_and,nc] at hp
 clear nc
 repeat' (first
  |(refine bq (fun hb=>?_) (fun hb=>?_)<;>(try simp only [aq] at hb)<;>(first|refine gq cF ?_))
  |(refine aB fun m hm=>?_;(try rw [af] at hm);refine gq cF ?_)
  |(refine ab.ao ?_;refine gq cF ?_)
  )
 all_goals first
  |(exfalso;omega)
  |skip
 obtain⟨T3,qK⟩:∃ T,T=f.all (pD ⟨ds,rs⟩ st):=⟨_,rfl⟩
 rw [<-qK] at hp
 refine ab.aP (σ:=Int) 1 1 [] (fun q=>[(1,fJ ρ st),(2,eJ ρ b),(3,gO ρ f),(5,.v (.int .i64 fresh)),(6,.pt 0 2 0 0),(15,.v (.int .i64 q))]) [] (fun _=>[(0,.arr 2 [lO ρ ⟨ds,rs⟩] 0 true)]) (fun q=>∃ k:Nat,q=k/\k<=b.length/\R=((b.drop k).all (rK fresh b) && T3)) (fun q=>b.length - q.toNat) 0 ⟨0,rfl,by simp,by simpa using hp⟩ rfl (by exact⟨sq,rfl,⟨.inl ⟨_,rfl,.arr (by exact⟨kq,trivial⟩)⟩,trivial⟩,rfl,rfl,rfl⟩) ?_
 clear hp
 rintro q2 ⟨k2,mi,dS,hp⟩
 refine gq cF ?_
 by_cases gu:k2 < b.length
 ·obtain⟨x,hx,aO⟩:=az gu
  obtain⟨jG,oz⟩:=lU x (aY hx)
  rw [aO,List.all_cons,Bool.and_assoc] at hp
  have hV:=EZ (w0:=w0) (ρ:=ρ) x.t jG (Nat.le_trans (jY _) oz)
  have sn:(varsOf [x.t]).length<=1099511627776:=by
   have h1:=mJ [x.t]
   rw [bj,bj] at h1
   omega
  have hF:=CK (w0:=w0) (ρ:=ρ) (varsOf [x.t]) fresh b sJ sn
  obtain⟨T1,oJ⟩:∃ T,T=((b.drop (k2+1)).all (rK fresh b) && T3):=⟨_,rfl⟩
  rw [<-oJ,rK] at hp
  obtain⟨F,jI⟩:∃ F,F=er (varsOf [x.t]) fresh b:=⟨_,rfl⟩
  rw [<-jI] at hp hF
  obtain⟨vs,ir⟩:∃ vs,vs=varsOf [x.t]:=⟨_,rfl⟩
  rw [<-ir] at hV hF
  clear jI ir sn
  obtain⟨xv,xk,xi,xn,xa⟩:=x
  dsimp only at hp
  refine ab.int rfl (ad.len rfl) fun m0 kO=>?_;rw [af] at kO
  refine gq cF ?_
  repeat' (first
   |(refine ab.op rfl (ad.ind rfl rfl (ay (l:=b) mi hx) (aw fun _=>rfl)) ?_;refine gq cF ?_)
   |(refine ab.op rfl (ad.ag rfl hV ⟨ba (ρ:=ρ) ⟨xk,xi,xn,xa⟩,trivial⟩) ?_;refine gq cF ?_)
   |(refine ab.a_ rfl (ad.ag rfl hF ⟨bQ _,.v,bT _,trivial⟩) (fun _=>?_) (fun _=>?_)<;>refine gq cF ?_)
   |(refine bq (fun hb=>?_) (fun hb=>?_)<;>(try simp only [aq] at hb)<;>(first|refine gq cF ?_))
   |(refine aS fun _ _=>?_;refine gq cF ?_)
   |(refine ab.ao ?_;refine gq cF ?_)
   |(refine ab.bJ ?_;refine gq cF ?_)
   |(refine fq ?_))
  all_goals first
   |(exfalso;omega)
   |(refine aC ?_;rw [hp,decide_eq_false (show ¬ xv < fresh by omega)];rfl)
   |(refine aC ?_;rw [hp,show F=false by assumption];simp;done)
   |(rw [decide_eq_true (show xv < fresh by omega),show F=true by assumption,Bool.true_and,Bool.true_and,oJ] at hp
     refine ab.aL (σ:=Int) _ [] ?_ ?_ (by exact⟨sq,rfl,⟨.inl ⟨_,rfl,.arr (by exact⟨kq,trivial⟩)⟩,trivial⟩,rfl,rfl,rfl⟩)<;>first|omega|exact⟨k2+1,by omega,by omega,hp⟩)
 rw [List.drop_eq_nil_of_le (by omega),List.all_nil,Bool.true_and,qK] at hp
 clear qK
 repeat' (first
  |(refine bq (fun hb=>?_) (fun hb=>?_)<;>(try simp only [aq] at hb)<;>(first|refine gq cF ?_))
  |(refine aB fun m hm=>?_;(try rw [af] at hm);refine gq cF ?_)
  |(refine ab.ao ?_;refine gq cF ?_)
  )
 all_goals first
  |(exfalso;omega)
  |skip
 refine ab.aP (σ:=Int) 1 1 [] (fun q=>[(1,fJ ρ st),(3,gO ρ f),(6,.pt 0 2 0 0),(16,.v (.int .i64 q))]) [] (fun _=>[(0,.arr 2 [lO ρ ⟨ds,rs⟩] 0 true)]) (fun q=>∃ k:Nat,q=k/\k<=f.length/\R=(f.drop k).all (pD ⟨ds,rs⟩ st)) (fun q=>f.length - q.toNat) 0 ⟨0,rfl,by simp,by simpa using hp⟩ rfl (by exact⟨sq,rfl,⟨.inl ⟨_,rfl,.arr (by exact⟨kq,trivial⟩)⟩,trivial⟩,rfl,rfl,rfl⟩) ?_
 clear hp
 rintro q3 ⟨k3,tT,yz,hp⟩
 refine gq cF ?_
 by_cases kf:k3 < f.length
 ·obtain⟨x,hx,aO⟩:=az kf
  have oC:=Fe x (aY hx)
  unfold Fi.ok at oC
  rw [aO,List.all_cons] at hp
  obtain⟨T1,oJ⟩:∃ T,T=(f.drop (k3+1)).all (pD ⟨ds,rs⟩ st):=⟨_,rfl⟩
  rw [<-oJ,pD] at hp
  obtain⟨xr,ids⟩:=x
  dsimp only at hp oC
  refine ab.int rfl (ad.len rfl) fun m0 kO=>?_;rw [af] at kO
  refine gq cF ?_
  cases dw:rs[xr.toNat]? with
  |none =>
   rw [dw] at hp
   dsimp only at hp
   have hle:=List.getElem?_eq_none_iff.1 dw
   repeat' (first
    |(refine ab.op rfl (ad.ind rfl rfl (ay (l:=f) tT hx) (aw fun _=>rfl)) ?_;refine gq cF ?_)
    |(refine bq (fun hb=>?_) (fun hb=>?_)<;>(try simp only [aq] at hb)<;>(first|refine gq cF ?_))
    |(refine aB fun m hm=>?_;(try rw [af] at hm);refine gq cF ?_)
    |(refine ab.ao ?_;refine gq cF ?_)
    |(refine ab.bJ ?_;refine gq cF ?_)
    |(refine fq ?_))
   all_goals first
    |(exfalso;omega)
    |(rw [hp];refine aC ?_;simp;done)
  |some r =>
   rw [dw] at hp
   have aeU:=(List.getElem?_eq_some_iff.1 dw).1
   have hrk:=fp r (List.mem_of_getElem? dw)
   have hP:=Q3 (w0:=w0) (ρ:=ρ) r (by omega)
   have hH:=JS (w0:=w0) (ρ:=ρ) r hrk
   have nz:=js (ρ:=ρ) r
   have rp:(r.aV++r.rem).length<=549755813888:=by rw [List.length_append];exact hrk
   obtain⟨rn,PI,PJ,rg,rb,rv⟩:=r
   dsimp only at hp hP hH rp
   obtain⟨PB,PK⟩:∃ b,b=PJ.isEmpty:=⟨_,rfl⟩
   rw [<-PK] at hp hP
   obtain⟨L,hL⟩:∃ L,L=PI++PJ:=⟨_,rfl⟩
   rw [<-hL] at hp hH rp
   clear hL PK
   repeat' (first
    |(refine ab.op rfl (ad.ind rfl rfl (ay (l:=f) tT hx) (aw fun _=>rfl)) ?_;refine gq cF ?_)
    |((refine ab.qW rfl (fun T=>ad.ind rfl rfl (ay (l:=f) tT hx) (aw fun _=>rfl)) ?_;refine gq cF ?_))
    |((refine ab.qW rfl (fun T=>ad.ind rfl rfl (ay (l:=rs) (k:=xr.toNat) (by omega) dw) (aw fun _=>rfl)) ?_;refine gq cF ?_))
    |(refine ab.a_ rfl (ad.ag rfl hP ⟨nz,trivial⟩) (fun _=>?_) (fun _=>?_)<;>refine gq cF ?_)
    |(refine ab.op rfl (ad.ag rfl hH ⟨nz,trivial⟩) ?_;refine gq cF ?_)
    |(refine bq (fun hb=>?_) (fun hb=>?_)<;>(try simp only [aq] at hb)<;>(first|refine gq cF ?_))
    |(refine aB fun m hm=>?_;(try rw [af] at hm);refine gq cF ?_)
    |(refine ab.ao ?_;refine gq cF ?_)
    |(refine ab.bJ ?_;refine gq cF ?_)
    |(refine fq ?_))
   all_goals first
    |(exfalso;omega)
    |(refine aC ?_;rw [hp,decide_eq_false (show ¬ 0<=xr by omega)];rfl)
    |(refine aC ?_;rw [hp,show PB=false by assumption];simp;done)
    |(refine aC ?_;rw [hp,decide_eq_false (show ¬ ids.length=L.length by omega)];simp;done)
    |skip
   rw [decide_eq_true (show 0<=xr by omega),show PB=true by assumption,decide_eq_true (show ids.length=L.length by omega)] at hp
   simp only [Bool.true_and] at hp
   refine ab.aP (σ:=Int) 6 6 [] (fun t=>[(1,fJ ρ st),(3,gO ρ f),(6,.pt 0 2 0 0),(16,.v (.int .i64 q3)),(18,.v (.int .i64 t))]) [] (fun _=>[(0,.arr 2 [lO ρ ⟨ds,rs⟩] 0 true)]) (fun t=>∃ k:Nat,t=k/\k<=ids.length/\R=((ids.drop k).all (fun id=>(jl st id).2) && T1)) (fun t=>ids.length - t.toNat) 0 ⟨0,rfl,by simp,by simpa using hp⟩ rfl (by exact⟨sq,rfl,⟨.inl ⟨_,rfl,.arr (by exact⟨kq,trivial⟩)⟩,trivial⟩,rfl,rfl,rfl⟩) ?_
   clear hp
   rintro t ⟨k4,Qa,Pw,hp⟩
   refine gq cF ?_
   by_cases MP:k4 < ids.length
   ·obtain⟨y,hy,cP⟩:=az MP
    rw [cP,List.all_cons,Bool.and_assoc] at hp
    have Qg:=TY (w0:=w0) (ρ:=ρ) st y jf
    obtain⟨⟨⟨an,aa⟩,fb⟩,UU⟩:∃ q,q=jl st y:=⟨_,rfl⟩
    rw [<-UU] at hp Qg
    dsimp only at hp Qg
    cases fb
    ·skip
     repeat' (first
      |(refine ab.op rfl (ad.ind rfl rfl (ay (l:=f) tT hx) (aw fun _=>rfl)) ?_;refine gq cF ?_)
      |(refine ab.op rfl (ad.ind rfl rfl (ay (l:=ids) Qa hy) (aw fun _=>rfl)) ?_;refine gq cF ?_)
      |(refine ab.op rfl (ad.ag rfl Qg ⟨cb _,.v,trivial⟩) ?_;refine gq cF ?_)
      |(refine bq (fun hb=>?_) (fun hb=>?_)<;>(try simp only [aq] at hb)<;>(first|refine gq cF ?_))
      |(refine aB fun m hm=>?_;(try rw [af] at hm);refine gq cF ?_)
      |(refine aS fun _ _=>?_;refine gq cF ?_)
      |(refine ab.ao ?_;refine gq cF ?_)
      |(refine ab.bJ ?_;refine gq cF ?_)
      |(refine fq ?_))
     all_goals first
      |(exfalso;omega)
      |(rw [hp];exact aC rfl)
    ·skip
     repeat' (first
      |(refine ab.op rfl (ad.ind rfl rfl (ay (l:=f) tT hx) (aw fun _=>rfl)) ?_;refine gq cF ?_)
      |(refine ab.op rfl (ad.ind rfl rfl (ay (l:=ids) Qa hy) (aw fun _=>rfl)) ?_;refine gq cF ?_)
      |(refine ab.op rfl (ad.ag rfl Qg ⟨cb _,.v,trivial⟩) ?_;refine gq cF ?_)
      |(refine bq (fun hb=>?_) (fun hb=>?_)<;>(try simp only [aq] at hb)<;>(first|refine gq cF ?_))
      |(refine aB fun m hm=>?_;(try rw [af] at hm);refine gq cF ?_)
      |(refine aS fun _ _=>?_;refine gq cF ?_)
      |(refine ab.ao ?_;refine gq cF ?_)
      )
     all_goals first
      |(exfalso;omega)
      |(rw [Bool.true_and] at hp
        refine ab.aL (σ:=Int) _ [] ?_ ?_ (by exact⟨sq,rfl,⟨.inl ⟨_,rfl,.arr (by exact⟨kq,trivial⟩)⟩,trivial⟩,rfl,rfl,rfl⟩)<;>first|omega|exact⟨k4+1,by omega,by omega,hp⟩)
   ·rw [List.drop_eq_nil_of_le (by omega),List.all_nil,Bool.true_and,oJ] at hp
    repeat' (first
     |(refine ab.op rfl (ad.ind rfl rfl (ay (l:=f) tT hx) (aw fun _=>rfl)) ?_;refine gq cF ?_)
     |(refine bq (fun hb=>?_) (fun hb=>?_)<;>(try simp only [aq] at hb)<;>(first|refine gq cF ?_))
     |(refine aB fun m hm=>?_;(try rw [af] at hm);refine gq cF ?_)
     |(refine aS fun _ _=>?_;refine gq cF ?_)
     |(refine ab.ao ?_;refine gq cF ?_)
     )
    all_goals first
     |(exfalso;omega)
     |(refine ab.aL (σ:=Int) _ [] ?_ ?_ (by exact⟨sq,rfl,⟨.inl ⟨_,rfl,.arr (by exact⟨kq,trivial⟩)⟩,trivial⟩,rfl,rfl,rfl⟩)<;>first|omega|exact⟨k3+1,by omega,by omega,hp⟩)
 rw [List.drop_eq_nil_of_le (by omega),List.all_nil] at hp
 repeat' (first
  |(refine bq (fun hb=>?_) (fun hb=>?_)<;>(try simp only [aq] at hb)<;>(first|refine gq cF ?_))
  |(refine aB fun m hm=>?_;(try rw [af] at hm);refine gq cF ?_)
  |(refine ab.ao ?_;refine gq cF ?_)
  |(refine fq ?_))
 all_goals first
  |(exfalso;omega)
  |(rw [hp];exact aC rfl)
end
end
end Go.Proofs.YtbofilglphfceaaGreat
