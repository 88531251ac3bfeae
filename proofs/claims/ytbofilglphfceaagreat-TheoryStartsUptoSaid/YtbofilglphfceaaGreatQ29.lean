import Derived.Test.YtbofilglphfceaaGreatQ24
import Derived.Test.YtbofilglphfceaaGreatQ28
namespace Go.Proofs.YtbofilglphfceaaGreat
set_option linter.unusedVariables false
set_option linter.unusedSimpArgs false
open Go.RowKit
section
set_option maxRecDepth 100000
attribute [local irreducible] ah bc ad ab
def Pb:CF Tryz.f212:=⟨_,by conv=>lhs;cbv⟩
theorem X7:aH Tryz.prog 212 Pb.1 Tryz.f212.ntmps:=aQ Tryz.func212 Pb.2 Tryz.call212
def fg:List Nat:=[3,0,5,4,2,11,23,7,35]
def Pc:CF Tryz.f124:=⟨_,by conv=>lhs;cbv⟩
theorem X8:aH Tryz.prog 124 Pc.1 Tryz.f124.ntmps:=aQ Tryz.func124 Pc.2 Tryz.call124
def jb:List Nat:=[3,0,2,7,50]
def Pd:CF Tryz.f126:=⟨_,by conv=>lhs;cbv⟩
theorem X9:aH Tryz.prog 126 Pd.1 Tryz.f126.ntmps:=aQ Tryz.func126 Pd.2 Tryz.call126
def kn:List Nat:=[7,0,6,13,1,21,2,9,31]
def T_:CF Tryz.f59:=⟨_,by conv=>lhs;cbv⟩
theorem abI:aH Tryz.prog 59 T_.1 Tryz.f59.ntmps:=aQ Tryz.func59 T_.2 Tryz.call59
def Ua:List Nat:=[6,0,3,1,2]
def Ub:CF Tryz.f58:=⟨_,by conv=>lhs;cbv⟩
theorem abJ:aH Tryz.prog 58 Ub.1 Tryz.f58.ntmps:=aQ Tryz.func58 Ub.2 Tryz.call58
def JH:List Nat:=[3,4,0,1,12,2]
def CH (x:Bd):Bool:=decide (0<=x.v) && decide (x.v<=1048576) && gE x.t
def CI (p x:Bd):Bool:=decide (p.v < x.v)
def e7 (b:List Bd) (v:Int):Bool:=b.any fun x=>x.v == v
def m4 (b:List Bd):Bool:=b.all fun x=>(varsOf [x.t]).all fun v=>!e7 b v
def iO (b:List Bd):Bool:=ij CH CI none b && m4 b
theorem AF (b:List Bd) (v:Int):(om b v).2=e7 b v:=by
 unfold om e7
 induction b with
 |nil=>rfl
 |cons x b ih =>
  rw [List.find?_cons,List.any_cons]
  cases h:(x.v == v) with
  |true=>rfl
  |false=>simpa using ih
theorem jY (x:Tm):(cY x).length<=cM x:=by
 refine Tm.ind (p:=fun x=>(cY x).length<=cM x) ?_ x
 intro k i n a ih
 have key:∀ l:List Tm,(∀ y ∈ l,(cY y).length<=cM y)->(aT l).length<=bj l:=by
  intro l
  induction l with
  |nil=>intro _;simp [aT,bj]
  |cons y l CD =>
   intro h
   rw [aT,bj,List.length_append]
   have h1:=h y (by simp)
   have h2:=CD fun z hz=>h z (by simp [hz])
   omega
 have hk:=key a ih
 rw [cY,cM]
 split
 ·split<;>simp
 ·split
  ·omega
  ·simp
theorem og:∀ l:List Tm,(aT l).length<=bj l
 |[]=>by simp [aT,bj]
 |x::l=>by
  rw [aT,bj,List.length_append]
  have h1:=jY x
  have h2:=og l
  omega
theorem mJ (l:List Tm):(varsOf l).length<=bj l:=Nat.le_trans (fQ _ _) (og l)
section
variable {w0:World}{ρ:Hd}
theorem Q_ (b:List Bd) (hl:b.length<=1099511627776) (mu:∀ x ∈ b,x.ok):ah Tryz.prog w0 212 [eJ ρ b] (.v (.bool (m4 b))):=by
 obtain⟨R,hR⟩:∃ R,R=m4 b:=⟨_,rfl⟩
 rw [<-hR]
 unfold m4 at hR
 refine X7.aG (by simp [Tryz.ntmps212]) (.v) ?_
 refine gq fg ?_
 refine ab.aP (σ:=Int) 0 0 [] (fun i=>[(0,eJ ρ b),(3,.v (.int .i64 i))]) [] (fun _=>[]) (fun i=>∃ k:Nat,i=k/\k<=b.length/\R=(b.drop k).all fun x=>(varsOf [x.t]).all fun v=>!e7 b v) (fun i=>b.length - i.toNat) 0 ⟨0,rfl,by simp,by simpa using hR⟩ rfl cq ?_
 rintro i ⟨k,hi,hk,hp⟩
 clear hR
 refine gq fg ?_
 by_cases au:k < b.length
 ·obtain⟨x,hx,aO⟩:=az au
  obtain⟨jG,oz⟩:=mu x (aY hx)
  rw [aO,List.all_cons] at hp
  have hV:=EZ (w0:=w0) (ρ:=ρ) x.t jG (Nat.le_trans (jY _) oz)
  have sn:(varsOf [x.t]).length<=1099511627776:=by
   have h1:=mJ [x.t]
   rw [bj,bj] at h1
   omega
  obtain⟨vs,ir⟩:∃ vs,vs=varsOf [x.t]:=⟨_,rfl⟩
  rw [<-ir] at hp hV sn
  obtain⟨xv,xk,xi,xn,xa⟩:=x
  repeat' (first
   |(refine ab.op rfl (ad.ind rfl rfl (ay (l:=b) hi hx) (aw fun _=>rfl)) ?_;refine gq fg ?_)
   |(refine ab.op rfl (ad.ag rfl hV ⟨ba (ρ:=ρ) ⟨xk,xi,xn,xa⟩,trivial⟩) ?_;refine gq fg ?_)
   |(refine bq (fun hb=>?_) (fun hb=>?_)<;>(try simp only [aq] at hb)<;>(first|refine gq fg ?_))
   |(refine aB fun m hm=>?_;(try rw [af] at hm);refine gq fg ?_)
   |(refine ab.ao ?_;refine gq fg ?_)
   |(refine fq ?_))
  ·refine ab.aP (σ:=Int) 0 0 [] (fun j=>[(0,eJ ρ b),(3,.v (.int .i64 i)),(4,b8 ρ bF false vs),(5,.v (.int .i64 j))]) [] (fun _=>[])
    (fun j=>∃ q:Nat,j=q/\q<=vs.length/\R=(((vs.drop q).all fun v=>!e7 b v) && (b.drop (k+1)).all fun x=>(varsOf [x.t]).all fun v=>!e7 b v)) (fun j=>vs.length - j.toNat) 0 ⟨0,rfl,by simp,by simpa using hp⟩ rfl cq ?_
   rintro j ⟨q,hj,hq,dN⟩
   clear hp
   refine gq fg ?_
   by_cases gu:q < vs.length
   ·obtain⟨v,hv,JI⟩:=az gu
    rw [JI,List.all_cons,<-AF] at dN
    have hL:=JF (w0:=w0) (ρ:=ρ) b v hl
    obtain⟨⟨⟨lk,li,ln,la⟩,lb⟩,Uc⟩:∃ p,p=om b v:=⟨_,rfl⟩
    rw [<-Uc] at hL dN
    dsimp only at hL dN
    cases lb
    ·skip
     repeat' (first
      |(refine ab.op rfl (ad.ind rfl rfl (ay (l:=vs) hj hv) (aw fun _=>rfl)) ?_;refine gq fg ?_)
      |(refine ab.op rfl (ad.ag rfl hL ⟨bT _,.v,trivial⟩) ?_;refine gq fg ?_)
      |(refine bq (fun hb=>?_) (fun hb=>?_)<;>(try simp only [aq] at hb)<;>(first|refine gq fg ?_))
      |(refine aB fun m hm=>?_;(try rw [af] at hm);refine gq fg ?_)
      |(refine aS fun _ _=>?_;refine gq fg ?_)
      |(refine ab.ao ?_;refine gq fg ?_)
      )
     all_goals first
      |(exfalso;omega)
      |(refine ab.aL (σ:=Int) _ [] ?_ ?_ cq
        ·exact⟨q+1,by omega,by omega,by rw [dN];rfl⟩
        ·omega)
    ·skip
     repeat' (first
      |(refine ab.op rfl (ad.ind rfl rfl (ay (l:=vs) hj hv) (aw fun _=>rfl)) ?_;refine gq fg ?_)
      |(refine ab.op rfl (ad.ag rfl hL ⟨bT _,.v,trivial⟩) ?_;refine gq fg ?_)
      |(refine bq (fun hb=>?_) (fun hb=>?_)<;>(try simp only [aq] at hb)<;>(first|refine gq fg ?_))
      |(refine aB fun m hm=>?_;(try rw [af] at hm);refine gq fg ?_)
      |(refine aS fun _ _=>?_;refine gq fg ?_)
      |(refine ab.ao ?_;refine gq fg ?_)
      |(refine ab.bJ ?_;refine gq fg ?_)
      |(refine fq ?_))
     all_goals first
      |(exfalso;omega)
      |(refine aC ?_;rw [dN];rfl)
   ·rw [List.drop_eq_nil_of_le (by omega),List.all_nil,Bool.true_and] at dN
    repeat' (first
     |(refine bq (fun hb=>?_) (fun hb=>?_)<;>(try simp only [aq] at hb)<;>(first|refine gq fg ?_))
     |(refine aB fun m hm=>?_;(try rw [af] at hm);refine gq fg ?_)
     |(refine aS fun _ _=>?_;refine gq fg ?_)
     |(refine ab.ao ?_;refine gq fg ?_)
     )
    all_goals first
     |(exfalso;omega)
     |(refine ab.aL (σ:=Int) _ [] ?_ ?_ cq<;>first|omega|exact⟨k+1,by omega,by omega,dN⟩)
  ·omega
 ·skip
  repeat' (first
   |(refine bq (fun hb=>?_) (fun hb=>?_)<;>(try simp only [aq] at hb)<;>(first|refine gq fg ?_))
   |(refine aB fun m hm=>?_;(try rw [af] at hm);refine gq fg ?_)
   |(refine ab.ao ?_;refine gq fg ?_)
   |(refine fq ?_))
  all_goals first
   |(exfalso;omega)
   |(rw [hp,List.drop_eq_nil_of_le (by omega)];exact aC rfl)
theorem JJ (b:List Bd) (hl:b.length<=1099511627776) (mu:∀ x ∈ b,x.ok):ah Tryz.prog w0 124 [eJ ρ b] (.v (.bool (iO b))):=by
 have hAp:=Q_ (w0:=w0) (ρ:=ρ) b hl mu
 obtain⟨R,hR⟩:∃ R,R=iO b:=⟨_,rfl⟩
 rw [<-hR]
 unfold iO at hR
 obtain⟨AP,JK⟩:∃ AP,AP=m4 b:=⟨_,rfl⟩
 rw [<-JK] at hR hAp
 refine X8.aG (by simp [Tryz.ntmps124]) (.v) ?_
 refine gq jb ?_
 refine ab.aP (σ:=Int) 0 0 [] (fun i=>[(0,eJ ρ b),(3,.v (.int .i64 i))]) [] (fun _=>[])
  (fun i=>∃ (k:Nat) (pr:Option Bd),i=k/\k<=b.length/\R=(ij CH CI pr (b.drop k) && AP)/\su b k pr) (fun i=>b.length - i.toNat) 0 ⟨0,none,rfl,by simp,by simpa using hR,.inl ⟨rfl,rfl⟩⟩ rfl cq ?_
 rintro i ⟨k,pr,hi,dS,hp,mY⟩
 clear hR
 refine gq jb ?_
 by_cases au:k < b.length
 ·obtain⟨x,hx,aO⟩:=az au
  obtain⟨jG,oz⟩:=mu x (aY hx)
  rw [aO,ja] at hp
  have hV:=Cl (w0:=w0) (ρ:=ρ) x.t jG oz
  obtain⟨xv,xk,xi,xn,xa⟩:=x
  dsimp only at hV
  rw [CH] at hp
  dsimp only at hp
  obtain⟨V,CJ⟩:∃ V,V=gE ⟨xk,xi,xn,xa⟩:=⟨_,rfl⟩
  rw [<-CJ] at hV hp
  rcases mY with ⟨rfl,rfl⟩|⟨⟨yv,yk,yi,yn,ya⟩,Ud,hy,rfl⟩
  ·simp only [rh,Bool.and_true] at hp
   repeat' (first
    |(refine ab.op rfl (ad.ind rfl rfl (ay (l:=b) hi hx) (aw fun _=>rfl)) ?_;refine gq jb ?_)
    |(refine ab.a_ rfl (ad.ag rfl hV ⟨ba (ρ:=ρ) ⟨xk,xi,xn,xa⟩,trivial⟩) (fun _=>?_) (fun _=>?_)<;>refine gq jb ?_)
    |(refine bq (fun hb=>?_) (fun hb=>?_)<;>(try simp only [aq] at hb)<;>(first|refine gq jb ?_))
    |(refine aB fun m hm=>?_;(try rw [af] at hm);refine gq jb ?_)
    |(refine aS fun _ _=>?_;refine gq jb ?_)
    |(refine ab.ao ?_;refine gq jb ?_)
    |(refine ab.bJ ?_;refine gq jb ?_)
    |(refine fq ?_))
   all_goals first
    |(exfalso;omega)
    |(refine aC ?_;rw [hp,decide_eq_false (show ¬ 0<=xv by omega)];rfl)
    |(refine aC ?_;rw [hp,decide_eq_false (show ¬ xv<=1048576 by omega)];simp;done)
    |(refine aC ?_;rw [hp,show V=false by assumption];simp;done)
    |(refine ab.aL (σ:=Int) _ [] ?_ ?_ cq
      ·refine⟨0+1,some _,by omega,by omega,?_,eS hx⟩
       rw [hp,show V=true by assumption,decide_eq_true (show 0<=xv by omega),decide_eq_true (show xv<=1048576 by omega)];rfl
      ·omega)
  ·simp only [rh,CI] at hp
   repeat' (first
    |(refine ab.op rfl (ad.ind rfl rfl (ay (l:=b) hi hx) (aw fun _=>rfl)) ?_;refine gq jb ?_)
    |(refine ab.op rfl (ad.ind rfl rfl (ay (l:=b) (k:=k - 1) (by omega) hy) (aw fun _=>rfl)) ?_;refine gq jb ?_)
    |(refine ab.a_ rfl (ad.ag rfl hV ⟨ba (ρ:=ρ) ⟨xk,xi,xn,xa⟩,trivial⟩) (fun _=>?_) (fun _=>?_)<;>refine gq jb ?_)
    |(refine bq (fun hb=>?_) (fun hb=>?_)<;>(try simp only [aq] at hb)<;>(first|refine gq jb ?_))
    |(refine aB fun m hm=>?_;(try rw [af] at hm);refine gq jb ?_)
    |(refine aS fun _ _=>?_;refine gq jb ?_)
    |(refine ab.ao ?_;refine gq jb ?_)
    |(refine ab.bJ ?_;refine gq jb ?_)
    |(refine fq ?_))
   all_goals first
    |(exfalso;omega)
    |(refine aC ?_;rw [hp,decide_eq_false (show ¬ 0<=xv by omega)];rfl)
    |(refine aC ?_;rw [hp,decide_eq_false (show ¬ xv<=1048576 by omega)];simp;done)
    |(refine aC ?_;rw [hp,decide_eq_false (show ¬ yv < xv by omega)];simp;done)
    |(refine aC ?_;rw [hp,show V=false by assumption];simp;done)
    |(refine ab.aL (σ:=Int) _ [] ?_ ?_ cq
      ·refine⟨k+1,some _,by omega,by omega,?_,eS hx⟩
       rw [hp,show V=true by assumption,decide_eq_true (show 0<=xv by omega),decide_eq_true (show xv<=1048576 by omega),decide_eq_true (show yv < xv by omega)];rfl
      ·omega)
 ·rw [List.drop_eq_nil_of_le (by omega),ll,Bool.true_and] at hp
  repeat' (first
   |(refine ab.op rfl (ad.ag rfl hAp ⟨bT _,trivial⟩) ?_;refine gq jb ?_)
   |(refine bq (fun hb=>?_) (fun hb=>?_)<;>(try simp only [aq] at hb)<;>(first|refine gq jb ?_))
   |(refine aB fun m hm=>?_;(try rw [af] at hm);refine gq jb ?_)
   |(refine ab.ao ?_;refine gq jb ?_)
   |(refine fq ?_))
  all_goals first
   |(exfalso;omega)
   |(rw [hp];exact aC rfl)
def er (vs:List Int) (fresh:Int) (b:List Bd):Bool:=vs.all fun v=>decide (v < fresh) && !e7 b v
theorem CK (vs:List Int) (fresh:Int) (b:List Bd) (hl:b.length<=1099511627776) (sn:vs.length<=1099511627776):ah Tryz.prog w0 126 [b8 ρ bF false vs,iv fresh,eJ ρ b] (.v (.bool (er vs fresh b))):=by
 obtain⟨R,hR⟩:∃ R,R=er vs fresh b:=⟨_,rfl⟩
 rw [<-hR]
 unfold er at hR
 refine X9.aG (by simp [Tryz.ntmps126]) (.v) ?_
 refine gq kn ?_
 refine ab.aP (σ:=Int) 0 0 [] (fun i=>[(0,b8 ρ bF false vs),(1,.v (.int .i64 fresh)),(2,eJ ρ b),(7,.v (.int .i64 i))]) [] (fun _=>[]) (fun i=>∃ k:Nat,i=k/\k<=vs.length/\R=(vs.drop k).all fun v=>decide (v < fresh) && !e7 b v) (fun i=>vs.length - i.toNat) 0 ⟨0,rfl,by simp,by simpa using hR⟩ rfl cq ?_
 rintro i ⟨k,hi,hk,hp⟩
 clear hR
 refine gq kn ?_
 by_cases au:k < vs.length
 ·obtain⟨v,hv,JI⟩:=az au
  rw [JI,List.all_cons,<-AF] at hp
  have hL:=JF (w0:=w0) (ρ:=ρ) b v hl
  obtain⟨⟨⟨lk,li,ln,la⟩,lb⟩,Uc⟩:∃ p,p=om b v:=⟨_,rfl⟩
  rw [<-Uc] at hL hp
  dsimp only at hL hp
  cases lb
  ·skip
   repeat' (first
    |(refine ab.op rfl (ad.ind rfl rfl (ay (l:=vs) hi hv) (aw fun _=>rfl)) ?_;refine gq kn ?_)
    |(refine ab.op rfl (ad.ag rfl hL ⟨bT _,.v,trivial⟩) ?_;refine gq kn ?_)
    |(refine bq (fun hb=>?_) (fun hb=>?_)<;>(try simp only [aq] at hb)<;>(first|refine gq kn ?_))
    |(refine aB fun m hm=>?_;(try rw [af] at hm);refine gq kn ?_)
    |(refine aS fun _ _=>?_;refine gq kn ?_)
    |(refine ab.ao ?_;refine gq kn ?_)
    |(refine ab.bJ ?_;refine gq kn ?_)
    |(refine fq ?_))
   all_goals first
    |(exfalso;omega)
    |(refine aC ?_;rw [hp,decide_eq_false (show ¬ v < fresh by omega)];rfl)
    |(rw [decide_eq_true (show v < fresh by omega)] at hp
      (refine ab.aL (σ:=Int) _ [] ?_ ?_ cq<;>first|omega|exact⟨k+1,by omega,by omega,by rw [hp];rfl⟩))
  ·skip
   repeat' (first
    |(refine ab.op rfl (ad.ind rfl rfl (ay (l:=vs) hi hv) (aw fun _=>rfl)) ?_;refine gq kn ?_)
    |(refine ab.op rfl (ad.ag rfl hL ⟨bT _,.v,trivial⟩) ?_;refine gq kn ?_)
    |(refine bq (fun hb=>?_) (fun hb=>?_)<;>(try simp only [aq] at hb)<;>(first|refine gq kn ?_))
    |(refine aB fun m hm=>?_;(try rw [af] at hm);refine gq kn ?_)
    |(refine ab.ao ?_;refine gq kn ?_)
    |(refine ab.bJ ?_;refine gq kn ?_)
    |(refine fq ?_))
   all_goals first
    |(exfalso;omega)
    |(refine aC ?_;rw [hp];simp;done)
 ·skip
  repeat' (first
   |(refine bq (fun hb=>?_) (fun hb=>?_)<;>(try simp only [aq] at hb)<;>(first|refine gq kn ?_))
   |(refine aB fun m hm=>?_;(try rw [af] at hm);refine gq kn ?_)
   |(refine ab.ao ?_;refine gq kn ?_)
   |(refine fq ?_))
  all_goals first
   |(exfalso;omega)
   |(rw [hp,List.drop_eq_nil_of_le (by omega)];exact aC rfl)
def r6 (x:Gl):Prop:=mI x.a/\x.n.size<=1099511627776
theorem nS {a:List Tm}(h:mI a):(aT a).length<=1099511627776:=Nat.le_trans (og a) h.2
theorem mA {a:List Tm}(h:mI a):(varsOf a).length<=1099511627776:=Nat.le_trans (mJ a) h.2
theorem E5 (g:Gl) (fresh:Int) (b:List Bd) (hl:b.length<=1099511627776) (hg:r6 g):ah Tryz.prog w0 59 [gl ρ g,iv fresh,eJ ρ b] (.v (.bool (er (varsOf g.a) fresh b))):=by
 have hV:=ye (w0:=w0) (ρ:=ρ) g hg.1.len hg.1.1 (nS hg.1)
 have hF:=CK (w0:=w0) (ρ:=ρ) (varsOf g.a) fresh b hl (mA hg.1)
 obtain⟨R,hR⟩:∃ R,R=er (varsOf g.a) fresh b:=⟨_,rfl⟩
 rw [<-hR] at hF ⊢
 obtain⟨vs,ir⟩:∃ vs,vs=varsOf g.a:=⟨_,rfl⟩
 rw [<-ir] at hV hF
 clear hR ir hg
 obtain⟨o,n,a⟩:=g
 refine abI.aG (by simp [Tryz.ntmps59]) (.v) ?_
 refine gq Ua ?_
 repeat' (first
  |(refine ab.op rfl (ad.ag rfl hV ⟨dy (ρ:=ρ) ⟨o,n,a⟩,trivial⟩) ?_;refine gq Ua ?_)
  |(refine ab.op rfl (ad.ag rfl hF ⟨bQ _,.v,bT _,trivial⟩) ?_;refine gq Ua ?_)
  |(refine fq ?_))
 exact aC rfl
def qt (ds:List Dc) (g:Gl):Bool:=dL g && decide (g.op<=4) && (decide (g.op ≠ 0) || ef ds g.n g.a.length)
theorem Ra (p:Pg) (g:Gl) (hd:p.ds.length<=1099511627776) (hg:r6 g):ah Tryz.prog w0 58 [pg ρ p,gl ρ g] (.v (.bool (qt p.ds g))):=by
 have hG:=w5 (w0:=w0) (ρ:=ρ) g hg.1 hg.2
 have hl:=hg.1.len
 obtain⟨ds,rs⟩:=p
 obtain⟨o,n,a⟩:=g
 dsimp only at hd hl ⊢
 have hD:∀ q:Int,q=a.length->ah Tryz.prog w0 121 [dG ρ ds,.v (.string n),iv q] (.v (.bool (ef ds n a.length))):=fun q hq=>by rw [hq];exact po (w0:=w0) (ρ:=ρ) ds n a.length hd
 obtain⟨R,hR⟩:∃ R,R=qt ds ⟨o,n,a⟩:=⟨_,rfl⟩
 rw [<-hR]
 unfold qt at hR
 dsimp only at hR
 obtain⟨G,E6⟩:∃ G,G=dL ⟨o,n,a⟩:=⟨_,rfl⟩
 obtain⟨D,hDD⟩:∃ D,D=ef ds n a.length:=⟨_,rfl⟩
 rw [<-E6] at hG hR
 rw [<-hDD] at hD hR
 clear E6 hDD
 refine abJ.aG (by simp [Tryz.ntmps58]) (.v) ?_
 refine gq JH ?_
 repeat' (first
  |(refine ab.a_ rfl (ad.ag rfl hG ⟨dy (ρ:=ρ) ⟨o,n,a⟩,trivial⟩) (fun _=>?_) (fun _=>?_)<;>refine gq JH ?_)
  |(refine ab.op rfl (ad.ag rfl (hD _ (by assumption)) ⟨bU _,.v,.v,trivial⟩) ?_;refine gq JH ?_)
  |(refine bq (fun hb=>?_) (fun hb=>?_)<;>(try simp only [aq] at hb)<;>(first|refine gq JH ?_))
  |(refine aB fun m hm=>?_;(try rw [af] at hm);refine gq JH ?_)
  |(refine fq ?_))
 all_goals (refine aC ?_;rw [hR];clear hG hD hR;simp_all<;>omega)
end
end
end Go.Proofs.YtbofilglphfceaaGreat
