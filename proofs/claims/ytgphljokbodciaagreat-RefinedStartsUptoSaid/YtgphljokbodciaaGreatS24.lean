import Derived.Test.YtgphljokbodciaaGreatS22
import Derived.Test.YtgphljokbodciaaGreatS23
namespace Go.Proofs.YtgphljokbodciaaGreat
set_option linter.unusedVariables false
set_option linter.unusedSimpArgs false
open Go.RowKit
section
set_option maxRecDepth 100000
attribute [local irreducible] ah aV ad ab
def QN:CF Tryz.f365:=⟨_,by conv=>lhs;cbv⟩
theorem aas:aD Tryz.prog 365 QN.1 Tryz.f365.ntmps:=aO Tryz.func365 QN.2 Tryz.call365
def fF:List Nat:=[3,0,5,4,2,11,23,7,35]
def QP:CF Tryz.f259:=⟨_,by conv=>lhs;cbv⟩
theorem aat:aD Tryz.prog 259 QP.1 Tryz.f259.ntmps:=aO Tryz.func259 QP.2 Tryz.call259
def jy:List Nat:=[3,0,2,7,50]
def QQ:CF Tryz.f261:=⟨_,by conv=>lhs;cbv⟩
theorem aau:aD Tryz.prog 261 QQ.1 Tryz.f261.ntmps:=aO Tryz.func261 QQ.2 Tryz.call261
def kR:List Nat:=[7,0,6,13,1,21,2,9,31]
def QS:CF Tryz.f137:=⟨_,by conv=>lhs;cbv⟩
theorem aav:aD Tryz.prog 137 QS.1 Tryz.f137.ntmps:=aO Tryz.func137 QS.2 Tryz.call137
def Nf:List Nat:=[6,0,3,1,2]
def QT:CF Tryz.f136:=⟨_,by conv=>lhs;cbv⟩
theorem aaw:aD Tryz.prog 136 QT.1 Tryz.f136.ntmps:=aO Tryz.func136 QT.2 Tryz.call136
def Dj:List Nat:=[3,4,0,1,12,2]
def Dk (x:Bd):Bool:=decide (0<=x.v) && decide (x.v<=1048576) && gX x.t
def Dl (p x:Bd):Bool:=decide (p.v < x.v)
def gz (b:List Bd) (v:Int):Bool:=b.any fun x=>x.v == v
def nE (b:List Bd):Bool:=b.all fun x=>(varsOf [x.t]).all fun v=>!gz b v
def jn (b:List Bd):Bool:=iL Dk Dl none b && nE b
theorem Bl (b:List Bd) (v:Int):(oU b v).2=gz b v:=by
 unfold oU gz
 induction b with
 |nil=>rfl
 |cons x b ih =>
  rw [List.find?_cons,List.any_cons]
  cases h:(x.v == v) with
  |true=>rfl
  |false=>simpa using ih
theorem kp (x:Tm):(dh x).length<=cQ x:=by
 refine Tm.ind (p:=fun x=>(dh x).length<=cQ x) ?_ x
 intro k i n a ih
 have key:∀ l:List Tm,(∀ y ∈ l,(dh y).length<=cQ y)->(aY l).length<=bj l:=by
  intro l
  induction l with
  |nil=>intro _;simp [aY,bj]
  |cons y l yY =>
   intro h
   rw [aY,bj,List.length_append]
   have h1:=h y (by simp)
   have h2:=yY fun z hz=>h z (by simp [hz])
   omega
 have hk:=key a ih
 rw [dh,cQ]
 split
 ·split<;>simp
 ·split
  ·omega
  ·simp
theorem oV:∀ l:List Tm,(aY l).length<=bj l
 |[]=>by simp [aY,bj]
 |x::l=>by
  rw [aY,bj,List.length_append]
  have h1:=kp x
  have h2:=oV l
  omega
theorem nF (l:List Tm):(varsOf l).length<=bj l:=Nat.le_trans (gp _ _) (oV l)
section
variable {w0:World}{ρ:Hd}
theorem TR (b:List Bd) (hl:b.length<=1099511627776) (ga:∀ x ∈ b,x.ok):ah Tryz.prog w0 365 [eL ρ b] (.v (.bool (nE b))):=by
 obtain⟨R,hR⟩:∃ R,R=nE b:=⟨_,rfl⟩
 rw [<-hR]
 unfold nE at hR
 refine aas.aH (by simp [Tryz.ntmps365]) (.v) ?_
 refine gq fF ?_
 refine ab.aP (σ:=Int) 0 0 [] (fun i=>[(0,eL ρ b),(3,.v (.int .i64 i))]) [] (fun _=>[]) (fun i=>∃ k:Nat,i=k/\k<=b.length/\R=(b.drop k).all fun x=>(varsOf [x.t]).all fun v=>!gz b v) (fun i=>b.length - i.toNat) 0 ⟨0,rfl,by simp,by simpa using hR⟩ rfl cq ?_
 rintro i ⟨k,hi,hk,hp⟩
 clear hR
 refine gq fF ?_
 by_cases au:k < b.length
 ·obtain⟨x,hx,aQ⟩:=aA au
  obtain⟨l0,tc⟩:=ga x (aZ hx)
  rw [aQ,List.all_cons] at hp
  have hV:=FI (w0:=w0) (ρ:=ρ) x.t l0 (Nat.le_trans (kp _) tc)
  have s9:(varsOf [x.t]).length<=1099511627776:=by
   have h1:=nF [x.t]
   rw [bj,bj] at h1
   omega
  obtain⟨vs,jH⟩:∃ vs,vs=varsOf [x.t]:=⟨_,rfl⟩
  rw [<-jH] at hp hV s9
  obtain⟨xv,xk,xi,xn,xa⟩:=x
  repeat' (first
   |(refine ab.op rfl (ad.ind rfl rfl (ay (l:=b) hi hx) (aw fun _=>rfl)) ?_;refine gq fF ?_)
   |(refine ab.op rfl (ad.ag rfl hV ⟨bf (ρ:=ρ) ⟨xk,xi,xn,xa⟩,trivial⟩) ?_;refine gq fF ?_)
   |(refine bq (fun hb=>?_) (fun hb=>?_)<;>(try simp only [aq] at hb)<;>(first|refine gq fF ?_))
   |(refine az fun m hm=>?_;(try rw [af] at hm);refine gq fF ?_)
   |(refine ab.ao ?_;refine gq fF ?_)
   |(refine fq ?_))
  ·refine ab.aP (σ:=Int) 0 0 [] (fun j=>[(0,eL ρ b),(3,.v (.int .i64 i)),(4,bY ρ bJ false vs),(5,.v (.int .i64 j))]) [] (fun _=>[])
    (fun j=>∃ q:Nat,j=q/\q<=vs.length/\R=(((vs.drop q).all fun v=>!gz b v) && (b.drop (k+1)).all fun x=>(varsOf [x.t]).all fun v=>!gz b v)) (fun j=>vs.length - j.toNat) 0 ⟨0,rfl,by simp,by simpa using hp⟩ rfl cq ?_
   rintro j ⟨q,hj,hq,ca⟩
   clear hp
   refine gq fF ?_
   by_cases iM:q < vs.length
   ·obtain⟨v,hv,KW⟩:=aA iM
    rw [KW,List.all_cons,<-Bl] at ca
    have hL:=KQ (w0:=w0) (ρ:=ρ) b v hl
    obtain⟨⟨⟨lk,li,ln,la⟩,lb⟩,VP⟩:∃ p,p=oU b v:=⟨_,rfl⟩
    rw [<-VP] at hL ca
    dsimp only at hL ca
    cases lb
    ·skip
     repeat' (first
      |(refine ab.op rfl (ad.ind rfl rfl (ay (l:=vs) hj hv) (aw fun _=>rfl)) ?_;refine gq fF ?_)
      |(refine ab.op rfl (ad.ag rfl hL ⟨b8 _,.v,trivial⟩) ?_;refine gq fF ?_)
      |(refine bq (fun hb=>?_) (fun hb=>?_)<;>(try simp only [aq] at hb)<;>(first|refine gq fF ?_))
      |(refine az fun m hm=>?_;(try rw [af] at hm);refine gq fF ?_)
      |(refine aS fun _ _=>?_;refine gq fF ?_)
      |(refine ab.ao ?_;refine gq fF ?_)
      )
     all_goals first
      |(exfalso;omega)
      |(refine ab.aK (σ:=Int) _ [] ?_ ?_ cq
        ·exact⟨q+1,by omega,by omega,by rw [ca];rfl⟩
        ·omega)
    ·skip
     repeat' (first
      |(refine ab.op rfl (ad.ind rfl rfl (ay (l:=vs) hj hv) (aw fun _=>rfl)) ?_;refine gq fF ?_)
      |(refine ab.op rfl (ad.ag rfl hL ⟨b8 _,.v,trivial⟩) ?_;refine gq fF ?_)
      |(refine bq (fun hb=>?_) (fun hb=>?_)<;>(try simp only [aq] at hb)<;>(first|refine gq fF ?_))
      |(refine az fun m hm=>?_;(try rw [af] at hm);refine gq fF ?_)
      |(refine aS fun _ _=>?_;refine gq fF ?_)
      |(refine ab.ao ?_;refine gq fF ?_)
      |(refine ab.bK ?_;refine gq fF ?_)
      |(refine fq ?_))
     all_goals first
      |(exfalso;omega)
      |(refine aI ?_;rw [ca];rfl)
   ·rw [List.drop_eq_nil_of_le (by omega),List.all_nil,Bool.true_and] at ca
    repeat' (first
     |(refine bq (fun hb=>?_) (fun hb=>?_)<;>(try simp only [aq] at hb)<;>(first|refine gq fF ?_))
     |(refine az fun m hm=>?_;(try rw [af] at hm);refine gq fF ?_)
     |(refine aS fun _ _=>?_;refine gq fF ?_)
     |(refine ab.ao ?_;refine gq fF ?_)
     )
    all_goals first
     |(exfalso;omega)
     |(refine ab.aK (σ:=Int) _ [] ?_ ?_ cq<;>first|omega|exact⟨k+1,by omega,by omega,ca⟩)
  ·omega
 ·skip
  repeat' (first
   |(refine bq (fun hb=>?_) (fun hb=>?_)<;>(try simp only [aq] at hb)<;>(first|refine gq fF ?_))
   |(refine az fun m hm=>?_;(try rw [af] at hm);refine gq fF ?_)
   |(refine ab.ao ?_;refine gq fF ?_)
   |(refine fq ?_))
  all_goals first
   |(exfalso;omega)
   |(rw [hp,List.drop_eq_nil_of_le (by omega)];exact aI rfl)
theorem KX (b:List Bd) (hl:b.length<=1099511627776) (ga:∀ x ∈ b,x.ok):ah Tryz.prog w0 259 [eL ρ b] (.v (.bool (jn b))):=by
 have hAp:=TR (w0:=w0) (ρ:=ρ) b hl ga
 obtain⟨R,hR⟩:∃ R,R=jn b:=⟨_,rfl⟩
 rw [<-hR]
 unfold jn at hR
 obtain⟨AP,KY⟩:∃ AP,AP=nE b:=⟨_,rfl⟩
 rw [<-KY] at hR hAp
 refine aat.aH (by simp [Tryz.ntmps259]) (.v) ?_
 refine gq jy ?_
 refine ab.aP (σ:=Int) 0 0 [] (fun i=>[(0,eL ρ b),(3,.v (.int .i64 i))]) [] (fun _=>[])
  (fun i=>∃ (k:Nat) (pr:Option Bd),i=k/\k<=b.length/\R=(iL Dk Dl pr (b.drop k) && AP)/\ta b k pr) (fun i=>b.length - i.toNat) 0 ⟨0,none,rfl,by simp,by simpa using hR,.inl ⟨rfl,rfl⟩⟩ rfl cq ?_
 rintro i ⟨k,pr,hi,dD,hp,ju⟩
 clear hR
 refine gq jy ?_
 by_cases au:k < b.length
 ·obtain⟨x,hx,aQ⟩:=aA au
  obtain⟨l0,tc⟩:=ga x (aZ hx)
  rw [aQ,jx] at hp
  have hV:=CY (w0:=w0) (ρ:=ρ) x.t l0 tc
  obtain⟨xv,xk,xi,xn,xa⟩:=x
  dsimp only at hV
  rw [Dk] at hp
  dsimp only at hp
  obtain⟨V,Dm⟩:∃ V,V=gX ⟨xk,xi,xn,xa⟩:=⟨_,rfl⟩
  rw [<-Dm] at hV hp
  rcases ju with ⟨rfl,rfl⟩|⟨⟨yv,yk,yi,yn,ya⟩,VQ,hy,rfl⟩
  ·simp only [r8,Bool.and_true] at hp
   repeat' (first
    |(refine ab.op rfl (ad.ind rfl rfl (ay (l:=b) hi hx) (aw fun _=>rfl)) ?_;refine gq jy ?_)
    |(refine ab.bif rfl (ad.ag rfl hV ⟨bf (ρ:=ρ) ⟨xk,xi,xn,xa⟩,trivial⟩) (fun _=>?_) (fun _=>?_)<;>refine gq jy ?_)
    |(refine bq (fun hb=>?_) (fun hb=>?_)<;>(try simp only [aq] at hb)<;>(first|refine gq jy ?_))
    |(refine az fun m hm=>?_;(try rw [af] at hm);refine gq jy ?_)
    |(refine aS fun _ _=>?_;refine gq jy ?_)
    |(refine ab.ao ?_;refine gq jy ?_)
    |(refine ab.bK ?_;refine gq jy ?_)
    |(refine fq ?_))
   all_goals first
    |(exfalso;omega)
    |(refine aI ?_;rw [hp,decide_eq_false (show ¬ 0<=xv by omega)];rfl)
    |(refine aI ?_;rw [hp,decide_eq_false (show ¬ xv<=1048576 by omega)];simp;done)
    |(refine aI ?_;rw [hp,show V=false by assumption];simp;done)
    |(refine ab.aK (σ:=Int) _ [] ?_ ?_ cq
      ·refine⟨0+1,some _,by omega,by omega,?_,eX hx⟩
       rw [hp,show V=true by assumption,decide_eq_true (show 0<=xv by omega),decide_eq_true (show xv<=1048576 by omega)];rfl
      ·omega)
  ·simp only [r8,Dl] at hp
   repeat' (first
    |(refine ab.op rfl (ad.ind rfl rfl (ay (l:=b) hi hx) (aw fun _=>rfl)) ?_;refine gq jy ?_)
    |(refine ab.op rfl (ad.ind rfl rfl (ay (l:=b) (k:=k - 1) (by omega) hy) (aw fun _=>rfl)) ?_;refine gq jy ?_)
    |(refine ab.bif rfl (ad.ag rfl hV ⟨bf (ρ:=ρ) ⟨xk,xi,xn,xa⟩,trivial⟩) (fun _=>?_) (fun _=>?_)<;>refine gq jy ?_)
    |(refine bq (fun hb=>?_) (fun hb=>?_)<;>(try simp only [aq] at hb)<;>(first|refine gq jy ?_))
    |(refine az fun m hm=>?_;(try rw [af] at hm);refine gq jy ?_)
    |(refine aS fun _ _=>?_;refine gq jy ?_)
    |(refine ab.ao ?_;refine gq jy ?_)
    |(refine ab.bK ?_;refine gq jy ?_)
    |(refine fq ?_))
   all_goals first
    |(exfalso;omega)
    |(refine aI ?_;rw [hp,decide_eq_false (show ¬ 0<=xv by omega)];rfl)
    |(refine aI ?_;rw [hp,decide_eq_false (show ¬ xv<=1048576 by omega)];simp;done)
    |(refine aI ?_;rw [hp,decide_eq_false (show ¬ yv < xv by omega)];simp;done)
    |(refine aI ?_;rw [hp,show V=false by assumption];simp;done)
    |(refine ab.aK (σ:=Int) _ [] ?_ ?_ cq
      ·refine⟨k+1,some _,by omega,by omega,?_,eX hx⟩
       rw [hp,show V=true by assumption,decide_eq_true (show 0<=xv by omega),decide_eq_true (show xv<=1048576 by omega),decide_eq_true (show yv < xv by omega)];rfl
      ·omega)
 ·rw [List.drop_eq_nil_of_le (by omega),lT,Bool.true_and] at hp
  repeat' (first
   |(refine ab.op rfl (ad.ag rfl hAp ⟨b8 _,trivial⟩) ?_;refine gq jy ?_)
   |(refine bq (fun hb=>?_) (fun hb=>?_)<;>(try simp only [aq] at hb)<;>(first|refine gq jy ?_))
   |(refine az fun m hm=>?_;(try rw [af] at hm);refine gq jy ?_)
   |(refine ab.ao ?_;refine gq jy ?_)
   |(refine fq ?_))
  all_goals first
   |(exfalso;omega)
   |(rw [hp];exact aI rfl)
def fg (vs:List Int) (fresh:Int) (b:List Bd):Bool:=vs.all fun v=>decide (v < fresh) && !gz b v
theorem Dn (vs:List Int) (fresh:Int) (b:List Bd) (hl:b.length<=1099511627776) (s9:vs.length<=1099511627776):ah Tryz.prog w0 261 [bY ρ bJ false vs,iv fresh,eL ρ b] (.v (.bool (fg vs fresh b))):=by
 obtain⟨R,hR⟩:∃ R,R=fg vs fresh b:=⟨_,rfl⟩
 rw [<-hR]
 unfold fg at hR
 refine aau.aH (by simp [Tryz.ntmps261]) (.v) ?_
 refine gq kR ?_
 refine ab.aP (σ:=Int) 0 0 [] (fun i=>[(0,bY ρ bJ false vs),(1,.v (.int .i64 fresh)),(2,eL ρ b),(7,.v (.int .i64 i))]) [] (fun _=>[]) (fun i=>∃ k:Nat,i=k/\k<=vs.length/\R=(vs.drop k).all fun v=>decide (v < fresh) && !gz b v) (fun i=>vs.length - i.toNat) 0 ⟨0,rfl,by simp,by simpa using hR⟩ rfl cq ?_
 rintro i ⟨k,hi,hk,hp⟩
 clear hR
 refine gq kR ?_
 by_cases au:k < vs.length
 ·obtain⟨v,hv,KW⟩:=aA au
  rw [KW,List.all_cons,<-Bl] at hp
  have hL:=KQ (w0:=w0) (ρ:=ρ) b v hl
  obtain⟨⟨⟨lk,li,ln,la⟩,lb⟩,VP⟩:∃ p,p=oU b v:=⟨_,rfl⟩
  rw [<-VP] at hL hp
  dsimp only at hL hp
  cases lb
  ·skip
   repeat' (first
    |(refine ab.op rfl (ad.ind rfl rfl (ay (l:=vs) hi hv) (aw fun _=>rfl)) ?_;refine gq kR ?_)
    |(refine ab.op rfl (ad.ag rfl hL ⟨b8 _,.v,trivial⟩) ?_;refine gq kR ?_)
    |(refine bq (fun hb=>?_) (fun hb=>?_)<;>(try simp only [aq] at hb)<;>(first|refine gq kR ?_))
    |(refine az fun m hm=>?_;(try rw [af] at hm);refine gq kR ?_)
    |(refine aS fun _ _=>?_;refine gq kR ?_)
    |(refine ab.ao ?_;refine gq kR ?_)
    |(refine ab.bK ?_;refine gq kR ?_)
    |(refine fq ?_))
   all_goals first
    |(exfalso;omega)
    |(refine aI ?_;rw [hp,decide_eq_false (show ¬ v < fresh by omega)];rfl)
    |(rw [decide_eq_true (show v < fresh by omega)] at hp
      (refine ab.aK (σ:=Int) _ [] ?_ ?_ cq<;>first|omega|exact⟨k+1,by omega,by omega,by rw [hp];rfl⟩))
  ·skip
   repeat' (first
    |(refine ab.op rfl (ad.ind rfl rfl (ay (l:=vs) hi hv) (aw fun _=>rfl)) ?_;refine gq kR ?_)
    |(refine ab.op rfl (ad.ag rfl hL ⟨b8 _,.v,trivial⟩) ?_;refine gq kR ?_)
    |(refine bq (fun hb=>?_) (fun hb=>?_)<;>(try simp only [aq] at hb)<;>(first|refine gq kR ?_))
    |(refine az fun m hm=>?_;(try rw [af] at hm);refine gq kR ?_)
    |(refine ab.ao ?_;refine gq kR ?_)
    |(refine ab.bK ?_;refine gq kR ?_)
    |(refine fq ?_))
   all_goals first
    |(exfalso;omega)
    |(refine aI ?_;rw [hp];simp;done)
 ·skip
  repeat' (first
   |(refine bq (fun hb=>?_) (fun hb=>?_)<;>(try simp only [aq] at hb)<;>(first|refine gq kR ?_))
   |(refine az fun m hm=>?_;(try rw [af] at hm);refine gq kR ?_)
   |(refine ab.ao ?_;refine gq kR ?_)
   |(refine fq ?_))
  all_goals first
   |(exfalso;omega)
   |(rw [hp,List.drop_eq_nil_of_le (by omega)];exact aI rfl)
def q9 (x:Gl):Prop:=nv x.a/\x.n.size<=1099511627776
theorem qu {a:List Tm}(h:nv a):(aY a).length<=1099511627776:=Nat.le_trans (oV a) h.2
theorem oZ {a:List Tm}(h:nv a):(varsOf a).length<=1099511627776:=Nat.le_trans (nF a) h.2
theorem TS (g:Gl) (fresh:Int) (b:List Bd) (hl:b.length<=1099511627776) (hg:q9 g):ah Tryz.prog w0 137 [gl ρ g,iv fresh,eL ρ b] (.v (.bool (fg (varsOf g.a) fresh b))):=by
 have hV:=yW (w0:=w0) (ρ:=ρ) g hg.1.len hg.1.1 (qu hg.1)
 have hF:=Dn (w0:=w0) (ρ:=ρ) (varsOf g.a) fresh b hl (oZ hg.1)
 obtain⟨R,hR⟩:∃ R,R=fg (varsOf g.a) fresh b:=⟨_,rfl⟩
 rw [<-hR] at hF ⊢
 obtain⟨vs,jH⟩:∃ vs,vs=varsOf g.a:=⟨_,rfl⟩
 rw [<-jH] at hV hF
 clear hR jH hg
 obtain⟨o,n,a⟩:=g
 refine aav.aH (by simp [Tryz.ntmps137]) (.v) ?_
 refine gq Nf ?_
 repeat' (first
  |(refine ab.op rfl (ad.ag rfl hV ⟨eE (ρ:=ρ) ⟨o,n,a⟩,trivial⟩) ?_;refine gq Nf ?_)
  |(refine ab.op rfl (ad.ag rfl hF ⟨bR _,.v,b8 _,trivial⟩) ?_;refine gq Nf ?_)
  |(refine fq ?_))
 exact aI rfl
def q_ (ds:List Dc) (g:Gl):Bool:=eS g && decide (g.op<=4) && (decide (g.op ≠ 0) || dU ds g.n g.a.length)
theorem TT (p:Pg) (g:Gl) (hd:p.ds.length<=1099511627776) (hg:q9 g):ah Tryz.prog w0 136 [pg ρ p,gl ρ g] (.v (.bool (q_ p.ds g))):=by
 have hG:=CZ (w0:=w0) (ρ:=ρ) g hg.1 hg.2
 have hl:=hg.1.len
 obtain⟨ds,rs⟩:=p
 obtain⟨o,n,a⟩:=g
 dsimp only at hd hl ⊢
 have hD:∀ q:Int,q=a.length->ah Tryz.prog w0 173 [dP ρ ds,.v (.string n),iv q] (.v (.bool (dU ds n a.length))):=fun q hq=>by rw [hq];exact pY (w0:=w0) (ρ:=ρ) ds n a.length hd
 obtain⟨R,hR⟩:∃ R,R=q_ ds ⟨o,n,a⟩:=⟨_,rfl⟩
 rw [<-hR]
 unfold q_ at hR
 dsimp only at hR
 obtain⟨G,FM⟩:∃ G,G=eS ⟨o,n,a⟩:=⟨_,rfl⟩
 obtain⟨D,hDD⟩:∃ D,D=dU ds n a.length:=⟨_,rfl⟩
 rw [<-FM] at hG hR
 rw [<-hDD] at hD hR
 clear FM hDD
 refine aaw.aH (by simp [Tryz.ntmps136]) (.v) ?_
 refine gq Dj ?_
 repeat' (first
  |(refine ab.bif rfl (ad.ag rfl hG ⟨eE (ρ:=ρ) ⟨o,n,a⟩,trivial⟩) (fun _=>?_) (fun _=>?_)<;>refine gq Dj ?_)
  |(refine ab.op rfl (ad.ag rfl (hD _ (by assumption)) ⟨cg _,.v,.v,trivial⟩) ?_;refine gq Dj ?_)
  |(refine bq (fun hb=>?_) (fun hb=>?_)<;>(try simp only [aq] at hb)<;>(first|refine gq Dj ?_))
  |(refine az fun m hm=>?_;(try rw [af] at hm);refine gq Dj ?_)
  |(refine fq ?_))
 all_goals (refine aI ?_;rw [hR];clear hG hD hR;simp_all<;>omega)
end
end
end Go.Proofs.YtgphljokbodciaaGreat
