import Derived.Test.YtbofilglphfceaaGreatQ36
namespace Go.Proofs.YtbofilglphfceaaGreat
set_option linter.unusedVariables false
set_option linter.unusedSimpArgs false
open Go.RowKit
section
set_option maxRecDepth 100000
attribute [local irreducible] ah bc ad ab
def PF:CF Tryz.f119:=⟨_,by conv=>lhs;cbv⟩
theorem Yy:aH Tryz.prog 119 PF.1 Tryz.f119.ntmps:=aQ Tryz.func119 PF.2 Tryz.call119
def UN:List Nat:=[3,0,1]
def UO:CF Tryz.f55:=⟨_,by conv=>lhs;cbv⟩
theorem abX:aH Tryz.prog 55 UO.1 Tryz.f55.ntmps:=aQ Tryz.func55 UO.2 Tryz.call55
def PG:List Nat:=[3,2,4,0,1]
def UP:CF Tryz.f53:=⟨_,by conv=>lhs;cbv⟩
theorem UQ:aH Tryz.prog 53 UP.1 Tryz.f53.ntmps:=aQ Tryz.func53 UP.2 Tryz.call53
def lT:List Nat:=[3,0,43,5,4,1,18,39,42,44,41,7,9,58]
def oF (ρ:Hd) (p:Pg) (s:dP):List AV:=[dG ρ p.ds,Ep ρ p.rs,cO ρ s.goals,fJ ρ s.store,eJ ρ s.binds,gO ρ s.cg,cO ρ s.known,iv s.next,iv s.fresh,.v (.bool s.failed)]
def tq (s:dP) (x:Bd):Bool:=decide (x.v < s.fresh) && !(varsOf [x.t]).any fun v=>decide (s.fresh<=v)
def rq (p:Pg) (s:dP) (x:Fi):Bool:=match p.rs[x.kG.toNat]? with
 |none=>false
 |some r=>r.rem.isEmpty && decide (x.ids.length=r.aV.length) && x.ids.all fun id=>(jl s.store id).2
section
variable {w0:World}{ρ:Hd}
theorem xm (p:Pg) (s:dP):∀ a ∈ oF ρ p s,Pure a:=by
 intro a ha
 simp only [oF,List.mem_cons,List.not_mem_nil,or_false] at ha
 rcases ha with rfl|rfl|rfl|rfl|rfl|rfl|rfl|rfl|rfl|rfl
 ·exact bU _
 ·exact kH _
 ·exact bw _
 ·exact cb _
 ·exact bT _
 ·exact cJ _
 ·exact bw _
 ·exact .v
 ·exact .v
 ·exact .v
theorem Rq (p:Pg) (s:dP) (v:Int):ah Tryz.prog w0 119 [iv v,.ip [.ip (oF ρ p s)]] (.v (.bool (decide (s.fresh<=v)))):=by
 obtain⟨ds,rs⟩:=p
 obtain⟨goals,store,binds,cg,known,next,fresh,failed⟩:=s
 dsimp only
 refine Yy.aG (by simp [Tryz.ntmps119]) (.v) ?_
 refine gq UN ?_
 repeat' (first
  |(refine bq (fun hb=>?_) (fun hb=>?_)<;>(try simp only [aq] at hb)<;>(first|refine gq UN ?_))
  |(refine fq ?_))
 all_goals first
  |(exact aC (decide_eq_true (by omega)).symm)
  |(exact aC (decide_eq_false (by omega)).symm)
theorem UR (p:Pg) (s:dP) (x:Bd) (hx:x.ok):ah Tryz.prog w0 55 [.ip (oF ρ p s),bd ρ x] (.v (.bool (tq s x))):=by
 have US:Pure (.ip (oF ρ p s)):=.ip (xm p s)
 have hF:Pure (.fn (.func 119) [] [.ip [.ip (oF ρ p s)]]):=.fn (fun a ha=>by cases ha) fun a ha=>by obtain rfl:=List.mem_singleton.1 ha;exact .ip fun b hb=>by obtain rfl:=List.mem_singleton.1 hb;exact US
 have PH:(aT [x.t]).length<=1099511627776:=by
  rw [aT,aT,List.append_nil]
  exact Nat.le_trans (jY _) hx.2
 have hV:=Jp (w0:=w0) (ρ:=ρ) x.t hx.1 (by first|exact Nat.le_trans (jY _) hx.2)
 have sn:(varsOf [x.t]).length<=1099511627776:=Nat.le_trans (fQ _ _) PH
 have hC:=TG (w0:=w0) (ρ:=ρ) (fun v=>decide (s.fresh<=v)) (varsOf [x.t]) _ [] _ sn hF fun v _=>⟨_,_,rfl,⟨.v,.ip fun b hb=>by obtain rfl:=List.mem_singleton.1 hb;exact US,trivial⟩,Rq p s v⟩
 unfold tq
 obtain⟨B,hB⟩:∃ B,B=(varsOf [x.t]).any fun v=>decide (s.fresh<=v):=⟨_,rfl⟩
 rw [<-hB] at hC ⊢
 obtain⟨vs,ir⟩:∃ vs,vs=varsOf [x.t]:=⟨_,rfl⟩
 rw [<-ir] at hV hC
 clear hB ir PH sn
 obtain⟨ds,rs⟩:=p
 obtain⟨goals,store,binds,cg,known,next,fresh,failed⟩:=s
 obtain⟨xv,xk,xi,xn,xa⟩:=x
 dsimp only
 refine abX.aG (by simp [Tryz.ntmps55]) (.v) ?_
 refine gq PG ?_
 repeat' (first
  |(refine ab.op rfl (ad.ag rfl hV ⟨ba (ρ:=ρ) ⟨xk,xi,xn,xa⟩,trivial⟩) ?_;refine gq PG ?_)
  |(refine ab.a_ rfl (ad.pf rfl hC ⟨bQ _,hF,trivial⟩ .v ⟨.refl _,aU.fns trivial ⟨aU.box (cs:=[.ip (oF ρ ⟨ds,rs⟩ ⟨goals,store,binds,cg,known,next,fresh,failed⟩)]) (cs':=[.ip (oF ρ ⟨ds,rs⟩ ⟨goals,store,binds,cg,known,next,fresh,failed⟩)]) rfl ⟨.refl _,trivial⟩,trivial⟩,trivial⟩) (fun _=>?_) (fun _=>?_)<;>refine gq PG ?_)
  |(refine bq (fun hb=>?_) (fun hb=>?_)<;>(try simp only [aq] at hb)<;>(first|refine gq PG ?_))
  |(refine fq ?_))
 all_goals first
  |(refine aC ?_;rw [decide_eq_false (show ¬ xv < fresh by omega)];rfl)
  |(refine aC ?_;rw [decide_eq_true (show xv < fresh by omega),show B=true by assumption];rfl)
  |(refine aC ?_;rw [decide_eq_true (show xv < fresh by omega),show B=false by assumption];rfl)
theorem UT (p:Pg) (s:dP) (x:Fi) (h0:0<=x.kG) (hi:x.ids.length<=1099511627776) (fp:p.rs.length<=1099511627776) (hk:∀ r ∈ p.rs,r.aV.length<=1099511627776/\r.rem.length<=1099511627776) (hs:s.store.length<=1099511627776):ah Tryz.prog w0 53 [.ip (oF ρ p s),fi ρ x] (.v (.bool (rq p s x))):=by
 have US:Pure (.ip (oF ρ p s)):=.ip (xm p s)
 obtain⟨R,hR⟩:∃ R,R=rq p s x:=⟨_,rfl⟩
 rw [<-hR]
 unfold rq at hR
 obtain⟨ds,rs⟩:=p
 obtain⟨goals,store,binds,cg,known,next,fresh,failed⟩:=s
 obtain⟨xr,ids⟩:=x
 dsimp only at hR h0 hi fp hk hs
 cases hx:rs[xr.toNat]? with
 |none =>
  rw [hx] at hR
  dsimp only at hR
  have hle:=List.getElem?_eq_none_iff.1 hx
  refine UQ.aG (by simp [Tryz.ntmps53]) (.v) ?_
  refine gq lT ?_
  repeat' (first
   |(refine bq (fun hb=>?_) (fun hb=>?_)<;>(try simp only [aq] at hb)<;>(first|refine gq lT ?_))
   |(refine aB fun m hm=>?_;(try rw [af] at hm);refine gq lT ?_)
   |(refine fq ?_))
  all_goals first
   |(exfalso;omega)
   |(rw [hR];exact aC rfl)
 |some r =>
  rw [hx] at hR
  have au:=(List.getElem?_eq_some_iff.1 hx).1
  have hP:=Q2 (w0:=w0) (ρ:=ρ) r (hk r (List.mem_of_getElem? hx)).2
  have J7:=(hk r (List.mem_of_getElem? hx)).1
  have nz:=js (ρ:=ρ) r
  obtain⟨rn,PI,PJ,rg,rb,rv⟩:=r
  dsimp only at hR hP J7
  obtain⟨PB,PK⟩:∃ b,b=PJ.isEmpty:=⟨_,rfl⟩
  rw [<-PK] at hR hP
  refine UQ.aG (by simp [Tryz.ntmps53]) (.v) ?_
  refine gq lT ?_
  repeat' (first
   |(refine ab.a_ rfl (ad.ag rfl hP ⟨nz,trivial⟩) (fun _=>?_) (fun _=>?_)<;>refine gq lT ?_)
   |((refine ab.qW rfl (fun T=>ad.ind rfl rfl (ay (l:=rs) (k:=xr.toNat) (by omega) hx) (aw fun _=>rfl)) ?_;refine gq lT ?_))
   |(refine bq (fun hb=>?_) (fun hb=>?_)<;>(try simp only [aq] at hb)<;>(first|refine gq lT ?_))
   |(refine aB fun m hm=>?_;(try rw [af] at hm);refine gq lT ?_)
   |(refine fq ?_))
  all_goals first
   |(exfalso;omega)
   |(rw [hR,show PB=false by assumption];exact aC rfl)
   |(rw [hR,decide_eq_false (show ¬ ids.length=PI.length by omega)];refine aC ?_;simp;done)
   |skip
  rw [show PB=true by assumption,decide_eq_true (show ids.length=PI.length by omega),Bool.true_and,Bool.true_and] at hR
  refine ab.aP (σ:=Int) 3 3 [] (fun i=>[(0,.ip (oF ρ ⟨ds,rs⟩ ⟨goals,store,binds,cg,known,next,fresh,failed⟩)),(41,b8 ρ bF false ids),(42,.v (.int .i64 m)),(43,.v (.int .i64 i))]) [] (fun _=>[]) (fun i=>∃ k:Nat,i=k/\k<=ids.length/\R=(ids.drop k).all fun id=>(jl store id).2) (fun i=>ids.length - i.toNat) 0 ⟨0,rfl,by simp,by simpa using hR⟩ rfl cq ?_
  rintro i ⟨k,hi,hk,hp⟩
  clear hR
  refine gq lT ?_
  by_cases au:k < ids.length
  ·obtain⟨y,hy,cP⟩:=az au
   rw [cP,List.all_cons] at hp
   have hF:=TX (w0:=w0) (ρ:=ρ) store y hs
   obtain⟨⟨⟨an,aa⟩,fb⟩,UU⟩:∃ q,q=jl store y:=⟨_,rfl⟩
   rw [<-UU] at hp hF
   dsimp only at hp hF
   cases fb
   ·skip
    repeat' (first
     |(refine ab.op rfl (ad.ind rfl rfl (ay (l:=ids) hi hy) (aw fun _=>rfl)) ?_;refine gq lT ?_)
     |(refine ab.op rfl (ad.ag rfl hF ⟨cb _,.v,trivial⟩) ?_;refine gq lT ?_)
     |(refine bq (fun hb=>?_) (fun hb=>?_)<;>(try simp only [aq] at hb)<;>(first|refine gq lT ?_))
     |(refine ab.ao ?_;refine gq lT ?_)
     |(refine ab.bJ ?_;refine gq lT ?_)
     |(refine fq ?_))
    all_goals first
     |(exfalso;omega)
     |(rw [hp];exact aC rfl)
   ·skip
    repeat' (first
     |(refine ab.op rfl (ad.ind rfl rfl (ay (l:=ids) hi hy) (aw fun _=>rfl)) ?_;refine gq lT ?_)
     |(refine ab.op rfl (ad.ag rfl hF ⟨cb _,.v,trivial⟩) ?_;refine gq lT ?_)
     |(refine bq (fun hb=>?_) (fun hb=>?_)<;>(try simp only [aq] at hb)<;>(first|refine gq lT ?_))
     |(refine aS fun _ _=>?_;refine gq lT ?_)
     |(refine ab.ao ?_;refine gq lT ?_)
     |(refine fq ?_))
    all_goals first
     |(exfalso;omega)
     |(rw [Bool.true_and] at hp;(refine ab.aL (σ:=Int) _ [] ?_ ?_ cq<;>first|omega|exact⟨k+1,by omega,by omega,hp⟩))
  ·rw [List.drop_eq_nil_of_le (by omega),List.all_nil] at hp
   repeat' (first
    |(refine bq (fun hb=>?_) (fun hb=>?_)<;>(try simp only [aq] at hb)<;>(first|refine gq lT ?_))
    |(refine ab.ao ?_;refine gq lT ?_)
    |(refine fq ?_))
   all_goals first
    |(exfalso;omega)
    |(rw [hp];exact aC rfl)
end
end
section
set_option maxRecDepth 100000
def ru (p:Pg) (s:dP) (x:Gl):Bool:=dL x && er (varsOf x.a) s.fresh s.binds && (uW x.op || (decide (x.op=0) && ef p.ds x.n x.a.length))
def ry (p:Pg) (s:dP) (x:Im):Bool:=decide (x.id < s.next) && er (varsOf x.a) s.fresh s.binds && ef p.ds x.n x.a.length
def oG (s:dP) (x:Gl):Bool:=lu x.op && dL x && er (varsOf x.a) s.fresh s.binds
section
variable {w0:World}{ρ:Hd}
set_option maxHeartbeats 1000000 in
theorem UW (p:Pg) (s:dP) (bs:List Int) (kS:∀ v,bs.contains v=e7 s.binds v) (hd:p.ds.length<=1099511627776) (x:Gl) (hx:r6 x):bc Tryz.prog w0 48 [.pt 0 11 0 0,gl ρ x] (aM [(0,ny ρ p s),(1,mB ρ (eX bs))] 2) (.v (.bool (ru p s x))) (aM [(0,ny ρ p s),(1,mB ρ (eX bs))] 2):=by
 have q0:=m_ (ρ:=ρ) (N:=2) (by decide) p s
 have q1:=na (ρ:=ρ) (N:=2) (eX bs)
 have hG:=vI (w0:=w0) (ρ:=ρ) x ⟨hx.1.len,hx.1.1⟩ hx.2
 have hV:=tc (w0:=w0) (ρ:=ρ) x hx.1.len hx.1.1 (nS hx.1)
 have hF:=C5 (w0:=w0) (ρ:=ρ) p s bs kS (varsOf x.a) (mA hx.1)
 have hU:=Rp (w0:=w0) (ρ:=ρ) x
 have hD:=te (w0:=w0) (ρ:=ρ) p.ds x.n x.a.length hd
 have oC:=hx.1.len
 have gn:=dy (ρ:=ρ) x
 obtain⟨R,hR⟩:∃ R,R=ru p s x:=⟨_,rfl⟩
 rw [<-hR]
 unfold ru at hR
 obtain⟨G,uX⟩:∃ G,G=dL x:=⟨_,rfl⟩
 obtain⟨F,jI⟩:∃ F,F=er (varsOf x.a) s.fresh s.binds:=⟨_,rfl⟩
 obtain⟨U,C9⟩:∃ U,U=uW x.op:=⟨_,rfl⟩
 obtain⟨D,uY⟩:∃ D,D=ef p.ds x.n x.a.length:=⟨_,rfl⟩
 obtain⟨Z,hZ⟩:∃ Z,Z=decide (x.op=0):=⟨_,rfl⟩
 rw [<-uX,<-jI,<-C9,<-uY,<-hZ] at hR
 rw [<-uX] at hG
 rw [<-jI] at hF
 rw [<-C9] at hU
 rw [<-uY] at hD
 obtain⟨vs,ir⟩:∃ vs,vs=varsOf x.a:=⟨_,rfl⟩
 rw [<-ir] at hV hF
 obtain⟨q,hq⟩:∃ q:Int,q=x.a.length:=⟨_,rfl⟩
 rw [<-hq] at hD
 clear uX jI C9 uY ir kS hx
 obtain⟨ds,rs⟩:=p
 obtain⟨goals,store,binds,cg,known,next,fresh,failed⟩:=s
 obtain⟨xo,xn,xa⟩:=x
 dsimp only at hZ hq hD oC hd
 obtain⟨kv,jj⟩:∃ kv,kv=eX bs:=⟨_,rfl⟩
 rw [<-jj] at hF q1 ⊢
 clear jj
 unfold ny mB PE
 refine aH.jM 2 2 _ abU (by simp [Tryz.ntmps48]) rfl rfl ?_
 refine gq AN ?_
 repeat' (first
  |(refine ab.a_ rfl (ad.ag rfl hG ⟨gn,trivial⟩) (fun _=>?_) (fun _=>?_)<;>refine gq AN ?_)
  |(refine ab.op rfl (ad.ag rfl hV ⟨gn,trivial⟩) ?_;refine gq AN ?_)
  |(refine ab.a_ rfl (ad.vM hF rfl (ss rfl rfl rfl q0 q1) (fun a ha=>by simp only [List.mem_cons,List.not_mem_nil,or_false] at ha;rcases ha with rfl|rfl;exact .pt (by decide);exact Pure.b_ (bQ _)) .v) (fun _=>?_) (fun _=>?_)<;>refine gq AN ?_)
  |(refine ab.a_ rfl (ad.ag rfl hU ⟨gn,trivial⟩) (fun _=>?_) (fun _=>?_)<;>refine gq AN ?_)
  |(refine ab.int rfl (ad.len rfl) fun m hm=>?_;rw [af] at hm;obtain rfl:m=q:=(by omega);refine gq AN ?_)
  |(refine ab.a_ rfl (ad.ag rfl hD ⟨bU _,.v,.v,trivial⟩) (fun _=>?_) (fun _=>?_)<;>refine gq AN ?_)
  |(refine bq (fun hb=>?_) (fun hb=>?_)<;>(try simp only [aq] at hb)<;>(first|refine gq AN ?_))
  |(refine fq ?_))
 all_goals
  clear hG hV hF hU hD
  subst hR
  cases G<;>cases F<;>cases U<;>cases D<;>cases Z<;>first
   |(exfalso;contradiction)
   |(exfalso;simp at hZ;omega)
   |exact⟨[],.aD .v,⟨.inl ⟨_,rfl,.same q0.1⟩,.inl ⟨_,rfl,.same q1.1⟩,trivial⟩,rfl⟩
set_option maxHeartbeats 1000000 in
theorem UX (p:Pg) (s:dP) (bs:List Int) (kS:∀ v,bs.contains v=e7 s.binds v) (hd:p.ds.length<=1099511627776) (x:Im) (hx:x.ok):bc Tryz.prog w0 50 [.pt 0 11 0 0,it ρ x] (aM [(0,ny ρ p s),(1,mB ρ (eX bs))] 2) (.v (.bool (ry p s x))) (aM [(0,ny ρ p s),(1,mB ρ (eX bs))] 2):=by
 have q0:=m_ (ρ:=ρ) (N:=2) (by decide) p s
 have q1:=na (ρ:=ρ) (N:=2) (eX bs)
 have hV:=yb (w0:=w0) (ρ:=ρ) ⟨x.n,x.a⟩ hx.1.len hx.1.1 (nS hx.1)
 have hF:=C5 (w0:=w0) (ρ:=ρ) p s bs kS (varsOf x.a) (mA hx.1)
 have hD:=te (w0:=w0) (ρ:=ρ) p.ds x.n x.a.length hd
 have oC:=hx.1.len
 have kD:=de (ρ:=ρ) ⟨x.n,x.a⟩
 obtain⟨R,hR⟩:∃ R,R=ry p s x:=⟨_,rfl⟩
 rw [<-hR]
 unfold ry at hR
 obtain⟨F,jI⟩:∃ F,F=er (varsOf x.a) s.fresh s.binds:=⟨_,rfl⟩
 obtain⟨D,uY⟩:∃ D,D=ef p.ds x.n x.a.length:=⟨_,rfl⟩
 obtain⟨Z,hZ⟩:∃ Z,Z=decide (x.id < s.next):=⟨_,rfl⟩
 rw [<-jI,<-uY,<-hZ] at hR
 rw [<-jI] at hF
 rw [<-uY] at hD
 obtain⟨vs,ir⟩:∃ vs,vs=varsOf x.a:=⟨_,rfl⟩
 dsimp only at hV
 rw [<-ir] at hV hF
 obtain⟨q,hq⟩:∃ q:Int,q=x.a.length:=⟨_,rfl⟩
 rw [<-hq] at hD
 clear jI uY ir kS hx
 obtain⟨ds,rs⟩:=p
 obtain⟨goals,store,binds,cg,known,next,fresh,failed⟩:=s
 obtain⟨xi,xn,xa⟩:=x
 dsimp only at hZ hq hD oC hd hV kD
 obtain⟨kv,jj⟩:∃ kv,kv=eX bs:=⟨_,rfl⟩
 rw [<-jj] at hF q1 ⊢
 clear jj
 unfold ny mB PE
 refine aH.jM 2 2 _ abV (by simp [Tryz.ntmps50]) rfl rfl ?_
 refine gq Fj ?_
 repeat' (first
  |(refine ab.op rfl (ad.ag rfl hV ⟨kD,trivial⟩) ?_;refine gq Fj ?_)
  |(refine ab.a_ rfl (ad.vM hF rfl (ss rfl rfl rfl q0 q1) (fun a ha=>by simp only [List.mem_cons,List.not_mem_nil,or_false] at ha;rcases ha with rfl|rfl;exact .pt (by decide);exact Pure.b_ (bQ _)) .v) (fun _=>?_) (fun _=>?_)<;>refine gq Fj ?_)
  |(refine ab.int rfl (ad.len rfl) fun m hm=>?_;rw [af] at hm;obtain rfl:m=q:=(by omega);refine gq Fj ?_)
  |(refine ab.a_ rfl (ad.ag rfl hD ⟨bU _,.v,.v,trivial⟩) (fun _=>?_) (fun _=>?_)<;>refine gq Fj ?_)
  |(refine bq (fun hb=>?_) (fun hb=>?_)<;>(try simp only [aq] at hb)<;>(first|refine gq Fj ?_))
  |(refine fq ?_))
 all_goals
  clear hV hF hD
  subst hR
  cases F<;>cases D<;>cases Z<;>first
   |(exfalso;contradiction)
   |(exfalso;simp at hZ;omega)
   |exact⟨[],.aD .v,⟨.inl ⟨_,rfl,.same q0.1⟩,.inl ⟨_,rfl,.same q1.1⟩,trivial⟩,rfl⟩
set_option maxHeartbeats 1000000 in
theorem Rr (p:Pg) (s:dP) (bs:List Int) (kS:∀ v,bs.contains v=e7 s.binds v) (x:Gl) (hx:r6 x):bc Tryz.prog w0 51 [.pt 0 11 0 0,gl ρ x] (aM [(0,ny ρ p s),(1,mB ρ (eX bs))] 2) (.v (.bool (oG s x))) (aM [(0,ny ρ p s),(1,mB ρ (eX bs))] 2):=by
 have q0:=m_ (ρ:=ρ) (N:=2) (by decide) p s
 have q1:=na (ρ:=ρ) (N:=2) (eX bs)
 have hG:=vI (w0:=w0) (ρ:=ρ) x ⟨hx.1.len,hx.1.1⟩ hx.2
 have hV:=tc (w0:=w0) (ρ:=ρ) x hx.1.len hx.1.1 (nS hx.1)
 have hF:=C5 (w0:=w0) (ρ:=ρ) p s bs kS (varsOf x.a) (mA hx.1)
 have gn:=dy (ρ:=ρ) x
 obtain⟨R,hR⟩:∃ R,R=oG s x:=⟨_,rfl⟩
 rw [<-hR]
 unfold oG lu at hR
 obtain⟨G,uX⟩:∃ G,G=dL x:=⟨_,rfl⟩
 obtain⟨F,jI⟩:∃ F,F=er (varsOf x.a) s.fresh s.binds:=⟨_,rfl⟩
 obtain⟨Y,hY⟩:∃ Y,Y=decide (5<=x.op):=⟨_,rfl⟩
 obtain⟨Z,hZ⟩:∃ Z,Z=decide (x.op<=12):=⟨_,rfl⟩
 rw [<-uX,<-jI,<-hY,<-hZ] at hR
 rw [<-uX] at hG
 rw [<-jI] at hF
 obtain⟨vs,ir⟩:∃ vs,vs=varsOf x.a:=⟨_,rfl⟩
 rw [<-ir] at hV hF
 clear uX jI ir kS hx
 obtain⟨o0,C6⟩:∃ o,o=ny ρ p s:=⟨_,rfl⟩
 obtain⟨o1,C7⟩:∃ o,o=mB ρ (eX bs):=⟨_,rfl⟩
 rw [<-C6,<-C7] at hF ⊢
 rw [<-C6] at q0
 rw [<-C7] at q1
 clear C6 C7
 obtain⟨xo,xn,xa⟩:=x
 dsimp only at hZ hY
 refine aH.jM 2 2 _ abW (by simp [Tryz.ntmps51]) rfl rfl ?_
 refine gq J3 ?_
 repeat' (first
  |(refine ab.a_ rfl (ad.ag rfl hG ⟨gn,trivial⟩) (fun _=>?_) (fun _=>?_)<;>refine gq J3 ?_)
  |(refine ab.op rfl (ad.ag rfl hV ⟨gn,trivial⟩) ?_;refine gq J3 ?_)
  |(refine ab.a_ rfl (ad.vM hF rfl (ss rfl rfl rfl q0 q1) (fun a ha=>by simp only [List.mem_cons,List.not_mem_nil,or_false] at ha;rcases ha with rfl|rfl;exact .pt (by decide);exact Pure.b_ (bQ _)) .v) (fun _=>?_) (fun _=>?_)<;>refine gq J3 ?_)
  |(refine bq (fun hb=>?_) (fun hb=>?_)<;>(try simp only [aq] at hb)<;>(first|refine gq J3 ?_))
  |(refine fq ?_))
 all_goals
  clear hG hV hF
  subst hR
  cases G<;>cases F<;>cases Y<;>cases Z<;>first
   |(exfalso;contradiction)
   |(exfalso;simp at hZ hY;omega)
   |exact⟨[],.aD .v,⟨.inl ⟨_,rfl,.same q0.1⟩,.inl ⟨_,rfl,.same q1.1⟩,trivial⟩,rfl⟩
end
end
end Go.Proofs.YtbofilglphfceaaGreat
