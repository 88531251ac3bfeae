import Derived.JoinedCond
import Derived.ProofKit
import Derived.Test.YtgphljokbodciaaGreatRows
import Derived.Test.YtgphljokbodciaaGreatS36
import Derived.Test.YtgphljokbodciaaGreatS37
namespace Go.Proofs.YtgphljokbodciaaGreat
set_option linter.unusedVariables false
set_option linter.unusedSimpArgs false
open Go.RowKit
section
set_option maxRecDepth 100000
open Go.ChangeShapes Go.WideShapes Go.ChangeAt Go.RowKit
theorem laidOut:laidOutB Tryz.prog=true:=by kernel_rfl
theorem E_:mapsRowed Tryz.prog=true:=by kernel_rfl
theorem Uk:Tryz.prog.stopsHeard=true:=by kernel_rfl
theorem Ul:Tryz.prog.mayEnter=true:=by kernel_rfl
theorem dI {a b:Bool}(h:a=true) (k:b=true):(a && b)=true:=by rw [h,k];rfl
end
section
set_option maxRecDepth 100000
attribute [local irreducible] ah aV ad ab
def W8 (ρ:Hd) (acc:List Tm):Ob:=.arr 4 (ρ.h (List.map mf) acc) 0 false
def dJ (l:List At):List Tm:=l.flatMap (·.a)
def ji (l:List Gl):List Tm:=l.flatMap (·.a)
section
variable {w0:World}{ρ:Hd}
theorem yq (x:Tm):(mf x).all cn=true:=by rw [rY (ρ:=.plain)];rfl
theorem wQ {B sz fz:Nat}{s:List Tm}{ex:Bool}:jF B (.arr sz (ρ.h (List.map mf) s) fz ex):=s8 fun x _ a ha=>xL x a ha
theorem JU (r:Rl) (h:r.aT.length+r.rem.length<=549755813888) (ha:(dJ (r.aT++r.rem)).length<=549755813888) (hk:er (dJ (r.aT++r.rem))) (hv:(aY (dJ (r.aT++r.rem))).length<=1099511627776) :
  ah Tryz.prog w0 402 [rl ρ r] (bY ρ bJ false (varsOf (dJ (r.aT++r.rem)))):=by
 have hH:=wI (w0:=w0) (ρ:=ρ) r h
 have hV:=t_ (w0:=w0) (ρ:=ρ) (dJ (r.aT++r.rem)) (by omega) hk hv
 have lJ:=iz (ρ:=ρ) r
 have sn:(r.aT++r.rem).length<=549755813888:=by rw [List.length_append];exact h
 obtain⟨A,hA⟩:∃ A,A=dJ (r.aT++r.rem):=⟨_,rfl⟩
 rw [<-hA] at hV ha ⊢
 clear hk hv
 obtain⟨L,hL⟩:∃ L,L=r.aT++r.rem:=⟨_,rfl⟩
 rw [<-hL] at hA hH sn
 clear hL h
 obtain⟨V,vN⟩:∃ V,V=varsOf A:=⟨_,rfl⟩
 rw [<-vN] at hV ⊢
 clear vN
 obtain⟨n,ke,re,g,b,v⟩:=r
 refine aaI.aH (by simp [Tryz.ntmps402]) ((bR _)) ?_
 refine gq oE ?_
 repeat' (first
  |(refine ab.op rfl (ad.ag rfl hH ⟨lJ,trivial⟩) ?_;refine gq oE ?_)
  )
 refine ab.aP (σ:=Int × List Tm × Nat) 1 2 [] (fun p=>[(3,.gr 1 4 p.2.2),(4,eK ρ L),(5,.v (.int .i64 p.1))]) [] (fun p=>[(1,W8 ρ p.2.1)])
  (fun p=>∃ k:Nat,p.1=k/\k<=L.length/\A=p.2.1++dJ (L.drop k)/\p.2.2=p.2.1.length) (fun p=>L.length - p.1.toNat) (0,[],0) ⟨0,rfl,by simp,by simpa using hA,rfl⟩ rfl (by exact⟨sq,rfl,⟨.inr rfl,trivial⟩,rfl,rfl,rfl⟩) ?_
 rintro⟨i,acc,len⟩ ⟨k,hi,hk,hp,fA⟩
 simp only at hi hp fA
 clear hA
 refine gq oE ?_
 by_cases au:k < L.length
 ·obtain⟨x,hx,aQ⟩:=aA au
  rw [aQ,dJ,List.flatMap_cons,<-dJ] at hp
  have fc:acc.length+x.a.length<=549755813888:=by
   have:=congrArg List.length hp
   simp only [List.length_append] at this
   omega
  obtain⟨xn,xa⟩:=x
  dsimp only at hp fc
  repeat' (first
   |(refine ab.op rfl (ad.ind rfl rfl (ay (l:=L) hi hx) (aw fun _=>rfl)) ?_;refine gq oE ?_)
   |((refine ab.Hn (f:=mf) rfl rfl rfl fA (fun _=>rfl) rfl wx yq (by omega) (fun dx cF zG fe=>?_);refine gq oE ?_))
   |(refine bq (fun hb=>?_) (fun hb=>?_)<;>(try simp only [aq] at hb)<;>(first|refine gq oE ?_))
   |(refine az fun m hm=>?_;(try rw [af] at hm);refine gq oE ?_)
   |(refine aS fun _ _=>?_;refine gq oE ?_)
   |(refine ab.ao ?_;refine gq oE ?_)
   )
  all_goals first
   |(exfalso;omega)
   |(refine ab.aK (σ:=Int × List Tm × Nat) (_,dx,cF) [(1,2)] ?_ ?_ (by exact⟨sq,rfl,⟨.inl ⟨_,rfl,.same wQ⟩,trivial⟩,rfl,rfl,rfl⟩)
     ·exact⟨k+1,by simp only;omega,by omega,by rw [hp,zG,List.append_assoc],fe⟩
     ·simp only;omega)
 rw [List.drop_eq_nil_of_le (by omega),dJ,List.flatMap_nil,List.append_nil] at hp
 subst hp
 refine ab.int rfl (ad.len rfl) fun m hm=>?_;rw [af] at hm
 refine gq oE ?_
 refine ab.bif rfl (ad.bit rfl) (fun hb=>?_) (fun hb=>?_)<;>(try simp only [decide_eq_true_eq,decide_eq_false_iff_not] at hb)
 ·exfalso;omega
 refine gq oE ?_
 refine ab.ao ?_
 refine gq oE ?_
 refine ab.VL (Cv.freeze (t:=21) rfl rfl (.inl rfl) (fA.trans (af (ρ:=ρ) (f:=mf)).symm) (Nat.zero_le _)) ?_
 refine ab.op rfl (ad.ag rfl hV ⟨bB _,trivial⟩) ?_
 refine gq oE ?_
 refine ab.fin (by conv=>lhs;cbv) ?_
 exact aX.of_eq rfl
end
end
section
set_option maxRecDepth 100000
attribute [local irreducible] ah aV ad ab
def RM:CF Tryz.f399:=⟨_,by conv=>lhs;cbv⟩
theorem acQ:aD Tryz.prog 399 RM.1 Tryz.f399.ntmps:=aO Tryz.func399 RM.2 Tryz.call399
def mN:List Nat:=[8,0,1,6,12,21,2,25,7]
def RN:CF Tryz.f400:=⟨_,by conv=>lhs;cbv⟩
theorem acR:aD Tryz.prog 400 RN.1 Tryz.f400.ntmps:=aO Tryz.func400 RN.2 Tryz.call400
def oL:List Nat:=[5,1,6,4,10,18,0,33]
def RO:CF Tryz.f401:=⟨_,by conv=>lhs;cbv⟩
theorem acS:aD Tryz.prog 401 RO.1 Tryz.f401.ntmps:=aO Tryz.func401 RO.2 Tryz.call401
def W9:List Nat:=[0,2]
def RP:CF Tryz.f403:=⟨_,by conv=>lhs;cbv⟩
theorem acT:aD Tryz.prog 403 RP.1 Tryz.f403.ntmps:=aO Tryz.func403 RP.2 Tryz.call403
def rF:List Nat:=[5,0,4,9,1,17]
section
variable {w0:World}{ρ:Hd}
theorem JV (r:Rl) (h:r.aT.length+r.rem.length<=549755813888) (h':r.guard.length+r.body.length<=549755813888) (ha:(dJ (r.aT++r.rem)++ji (r.guard++r.body)).length<=549755813888) (hk:er (dJ (r.aT++r.rem)++ji (r.guard++r.body))) (hv:(aY (dJ (r.aT++r.rem)++ji (r.guard++r.body))).length<=1099511627776) :
  ah Tryz.prog w0 303 [rl ρ r] (bY ρ bJ false (varsOf (dJ (r.aT++r.rem)++ji (r.guard++r.body)))):=by
 have hH:=wI (w0:=w0) (ρ:=ρ) r h
 have hG:=Ar (w0:=w0) (ρ:=ρ) r h'
 have hV:=t_ (w0:=w0) (ρ:=ρ) (dJ (r.aT++r.rem)++ji (r.guard++r.body)) (by omega) hk hv
 have lJ:=iz (ρ:=ρ) r
 have sn:(r.aT++r.rem).length<=549755813888:=by rw [List.length_append];exact h
 have Ed:(r.guard++r.body).length<=549755813888:=by rw [List.length_append];exact h'
 clear hk hv h h'
 obtain⟨L,hL⟩:∃ L,L=r.aT++r.rem:=⟨_,rfl⟩
 obtain⟨M,hM⟩:∃ M,M=r.guard++r.body:=⟨_,rfl⟩
 rw [<-hL] at hH sn hV ha ⊢
 rw [<-hM] at hG Ed hV ha ⊢
 clear hL hM
 obtain⟨A,hA⟩:∃ A,A=dJ L++ji M:=⟨_,rfl⟩
 rw [<-hA] at hV ha ⊢
 obtain⟨V,vN⟩:∃ V,V=varsOf A:=⟨_,rfl⟩
 rw [<-vN] at hV ⊢
 clear vN
 obtain⟨n,ke,re,g,b,v⟩:=r
 refine aaJ.aH (by simp [Tryz.ntmps303]) ((bR _)) ?_
 refine gq ib ?_
 repeat' (first
  |(refine ab.op rfl (ad.ag rfl hH ⟨lJ,trivial⟩) ?_;refine gq ib ?_)
  )
 refine ab.aP (σ:=Int × List Tm × Nat) 1 2 [] (fun p=>[(1,.pt 0 6 0 0),(3,.gr 1 4 p.2.2),(4,eK ρ L),(5,.v (.int .i64 p.1))]) [] (fun p=>[(0,.arr 6 [fW ρ ⟨n,ke,re,g,b,v⟩] 0 true),(1,W8 ρ p.2.1)])
  (fun p=>∃ k:Nat,p.1=k/\k<=L.length/\A=p.2.1++(dJ (L.drop k)++ji M)/\p.2.2=p.2.1.length) (fun p=>L.length - p.1.toNat) (0,[],0) ⟨0,rfl,by simp,by simpa using hA,rfl⟩ rfl (by exact⟨sq,rfl,⟨.inl ⟨_,rfl,.arr (by exact⟨kq,trivial⟩)⟩,⟨.inr rfl,trivial⟩⟩,rfl,rfl,rfl⟩) ?_
 rintro⟨i,acc,len⟩ ⟨k,hi,hk,hp,fA⟩
 simp only at hi hp fA
 clear hA
 refine gq ib ?_
 by_cases au:k < L.length
 ·obtain⟨x,hx,aQ⟩:=aA au
  rw [aQ,dJ,List.flatMap_cons,<-dJ] at hp
  have fc:acc.length+x.a.length<=549755813888:=by
   have:=congrArg List.length hp
   simp only [List.length_append] at this
   omega
  obtain⟨xn,xa⟩:=x
  dsimp only at hp fc
  repeat' (first
   |(refine ab.op rfl (ad.ind rfl rfl (ay (l:=L) hi hx) (aw fun _=>rfl)) ?_;refine gq ib ?_)
   |((refine ab.Hn (f:=mf) rfl rfl rfl fA (fun _=>rfl) rfl wx yq (by omega) (fun dx cF zG fe=>?_);refine gq ib ?_))
   |(refine bq (fun hb=>?_) (fun hb=>?_)<;>(try simp only [aq] at hb)<;>(first|refine gq ib ?_))
   |(refine az fun m hm=>?_;(try rw [af] at hm);refine gq ib ?_)
   |(refine aS fun _ _=>?_;refine gq ib ?_)
   |(refine ab.ao ?_;refine gq ib ?_)
   )
  all_goals first
   |(exfalso;omega)
   |(refine ab.aK (σ:=Int × List Tm × Nat) (_,dx,cF) [(1,2)] ?_ ?_ (by exact⟨sq,rfl,⟨.inl ⟨_,rfl,.arr (by exact⟨kq,trivial⟩)⟩,⟨.inl ⟨_,rfl,.same wQ⟩,trivial⟩⟩,rfl,rfl,rfl⟩)
     ·exact⟨k+1,by simp only;omega,by omega,by rw [hp,zG];simp only [List.append_assoc],fe⟩
     ·simp only;omega)
 rw [List.drop_eq_nil_of_le (by omega),dJ,List.flatMap_nil,List.nil_append] at hp
 repeat' (first
  |(refine ab.op rfl (ad.ag rfl hG ⟨lJ,trivial⟩) ?_;refine gq ib ?_)
  |(refine bq (fun hb=>?_) (fun hb=>?_)<;>(try simp only [aq] at hb)<;>(first|refine gq ib ?_))
  |(refine az fun m hm=>?_;(try rw [af] at hm);refine gq ib ?_)
  |(refine ab.ao ?_;refine gq ib ?_)
  )
 all_goals first
  |(exfalso;omega)
  |skip
 refine ab.aP (σ:=Int × List Tm × Nat) 2 3 [(2,1)] (fun p=>[(3,.gr 2 4 p.2.2),(6,dC ρ M),(7,.v (.int .i64 p.1))]) [] (fun p=>[(2,W8 ρ p.2.1)])
  (fun p=>∃ k:Nat,p.1=k/\k<=M.length/\A=p.2.1++ji (M.drop k)/\p.2.2=p.2.1.length) (fun p=>M.length - p.1.toNat) (0,acc,len) ⟨0,rfl,by simp,by simpa using hp,fA⟩ rfl (by exact⟨sq,rfl,⟨.inl ⟨_,rfl,.same wQ⟩,trivial⟩,rfl,rfl,rfl⟩) ?_
 clear hp fA hi hk
 rintro⟨j,dk,gy⟩ ⟨q,hj,hq,ca,kT⟩
 simp only at hj ca kT
 refine gq ib ?_
 by_cases iM:q < M.length
 ·obtain⟨x,hx,aQ⟩:=aA iM
  rw [aQ,ji,List.flatMap_cons,<-ji] at ca
  have fc:dk.length+x.a.length<=549755813888:=by
   have:=congrArg List.length ca
   simp only [List.length_append] at this
   omega
  obtain⟨xo,xn,xa⟩:=x
  dsimp only at ca fc
  repeat' (first
   |(refine ab.op rfl (ad.ind rfl rfl (ay (l:=M) hj hx) (aw fun _=>rfl)) ?_;refine gq ib ?_)
   |((refine ab.Hn (f:=mf) rfl rfl rfl kT (fun _=>rfl) rfl wx yq (by omega) (fun dx cF zG fe=>?_);refine gq ib ?_))
   |(refine bq (fun hb=>?_) (fun hb=>?_)<;>(try simp only [aq] at hb)<;>(first|refine gq ib ?_))
   |(refine az fun m hm=>?_;(try rw [af] at hm);refine gq ib ?_)
   |(refine aS fun _ _=>?_;refine gq ib ?_)
   |(refine ab.ao ?_;refine gq ib ?_)
   )
  all_goals first
   |(exfalso;omega)
   |(refine ab.aK (σ:=Int × List Tm × Nat) (_,dx,cF) [(2,3)] ?_ ?_ (by exact⟨sq,rfl,⟨.inl ⟨_,rfl,.same wQ⟩,trivial⟩,rfl,rfl,rfl⟩)
     ·exact⟨q+1,by simp only;omega,by omega,by rw [ca,zG,List.append_assoc],fe⟩
     ·simp only;omega)
 rw [List.drop_eq_nil_of_le (by omega),ji,List.flatMap_nil,List.append_nil] at ca
 subst ca
 refine ab.int rfl (ad.len rfl) fun m2 g7=>?_;rw [af] at g7
 refine gq ib ?_
 refine ab.bif rfl (ad.bit rfl) (fun ft=>?_) (fun ft=>?_)<;>(try simp only [decide_eq_true_eq,decide_eq_false_iff_not] at ft)
 ·exfalso;omega
 refine gq ib ?_
 refine ab.ao ?_
 refine gq ib ?_
 refine ab.VL (Cv.freeze (t:=38) rfl rfl (.inl rfl) (kT.trans (af (ρ:=ρ) (f:=mf)).symm) (Nat.zero_le _)) ?_
 refine ab.op rfl (ad.ag rfl hV ⟨bB _,trivial⟩) ?_
 refine gq ib ?_
 refine ab.fin (by conv=>lhs;cbv) ?_
 exact aX.of_eq rfl
theorem LI (o:Int):ah Tryz.prog w0 401 [iv o] (.v (.bool (oW o))):=by
 refine acS.aH (by simp [Tryz.ntmps401]) (.v) ?_
 refine gq W9 ?_
 repeat' (first
  |(refine bq (fun hb=>?_) (fun hb=>?_)<;>(try simp only [aq] at hb)<;>(first|refine gq W9 ?_))
  |(refine fq ?_))
 all_goals (subst_vars;refine aI ?_;rw [oW,Bool.eq_iff_iff];simp;omega)
theorem af8 (l:List Int) (v:Int) (hl:l.length<=1099511627776):ah Tryz.prog w0 403 [bY ρ bJ false l,iv v] (.v (.bool (l.contains v))):=by
 obtain⟨R,hR⟩:∃ R,R=l.contains v:=⟨_,rfl⟩
 rw [<-hR]
 rw [<-vn] at hR
 refine acT.aH (by simp [Tryz.ntmps403]) (.v) ?_
 refine gq rF ?_
 refine ab.aP (σ:=Int) 0 0 [] (fun i=>[(0,bY ρ bJ false l),(1,.v (.int .i64 v)),(5,.v (.int .i64 i))]) [] (fun _=>[]) (fun i=>∃ k:Nat,i=k/\k<=l.length/\R=(l.drop k).any fun x=>v == x) (fun i=>l.length - i.toNat) 0 ⟨0,rfl,by simp,by simpa using hR⟩ rfl cq ?_
 rintro i ⟨k,hi,hk,hp⟩
 clear hR
 refine gq rF ?_
 by_cases au:k < l.length
 ·obtain⟨x,hx,aQ⟩:=aA au
  rw [aQ,List.any_cons] at hp
  repeat' (first
   |(refine ab.op rfl (ad.ind rfl rfl (ay (l:=l) hi hx) (aw fun _=>rfl)) ?_;refine gq rF ?_)
   |(refine bq (fun hb=>?_) (fun hb=>?_)<;>(try simp only [aq] at hb)<;>(first|refine gq rF ?_))
   |(refine az fun m hm=>?_;(try rw [af] at hm);refine gq rF ?_)
   |(refine aS fun _ _=>?_;refine gq rF ?_)
   |(refine ab.ao ?_;refine gq rF ?_)
   |(refine ab.bK ?_;refine gq rF ?_)
   |(refine fq ?_))
  all_goals first
   |(exfalso;omega)
   |(rw [hp,show (v == x)=true from beq_iff_eq.2 (by omega)];exact aI rfl)
   |(rw [show (v == x)=false from beq_eq_false_iff_ne.2 (by omega),Bool.false_or] at hp;(refine ab.aK (σ:=Int) _ [] ?_ ?_ cq<;>first|omega|exact⟨k+1,by omega,by omega,hp⟩))
 ·skip
  repeat' (first
   |(refine bq (fun hb=>?_) (fun hb=>?_)<;>(try simp only [aq] at hb)<;>(first|refine gq rF ?_))
   |(refine az fun m hm=>?_;(try rw [af] at hm);refine gq rF ?_)
   |(refine ab.ao ?_;refine gq rF ?_)
   |(refine fq ?_))
  all_goals first
   |(exfalso;omega)
   |(rw [hp,List.drop_eq_nil_of_le (by omega)];exact aI rfl)
end
end
section
set_option maxRecDepth 100000
attribute [local irreducible] ah aV ad ab
def tA (o:Int):Bool:=decide (1<=o) && decide (o<=4)
end
section
set_option maxRecDepth 100000
attribute [local irreducible] ah aV ad ab
def zH (s:rZ) (x:Bd):Bool:=decide (x.v < s.fresh) && !(varsOf [x.t]).any fun v=>decide (s.fresh<=v)
def JW (p:Pg) (s:rZ) (x:Fi):Bool:=match p.rs[x.jM.toNat]? with
 |none=>false
 |some r=>r.rem.isEmpty && decide (x.ids.length=r.aT.length) && x.ids.all fun id=>(ia s.store id).2
end
section
set_option maxRecDepth 100000
def JX (p:Pg) (s:rZ) (x:Gl):Bool:=eS x && fg (varsOf x.a) s.fresh s.binds && (tA x.op || (decide (x.op=0) && dU p.ds x.n x.a.length))
def JY (p:Pg) (s:rZ) (x:Im):Bool:=decide (x.id < s.next) && fg (varsOf x.a) s.fresh s.binds && dU p.ds x.n x.a.length
end
section
set_option maxRecDepth 100000
attribute [local irreducible] ah aV ad ab
theorem zI {T:Type}{ok:T->Bool}{lt:T->T->Bool}:∀ {l:List T}{pr:Option T},iL ok lt pr l=true->∀ x ∈ l,ok x=true
 |[],_,_,x,hx=>by cases hx
 |y::l,pr,h,x,hx=>by
  rw [jx,Bool.and_eq_true,Bool.and_eq_true] at h
  rcases List.mem_cons.1 hx with rfl|hx
  ·exact h.1.1
  ·exact zI h.2 x hx
theorem vW {l:List Fi}(h:iB l=true):∀ x ∈ l,0<=x.jM:=by
 intro x hx
 unfold iB at h
 rw [Bool.and_eq_true] at h
 have:=zI h.2 x hx
 by_cases h0:0<=x.jM
 ·exact h0
 ·obtain⟨r,ids⟩:=x
  rw [yf (.inl (by simp only at h0;omega))] at this
  cases this
end
section
set_option maxRecDepth 100000
attribute [local irreducible] ah aV ad ab
end
section
set_option maxRecDepth 100000
def yt {α:Type}(F:Nat->α->Prop):Tr α->(Nat->Nat)->Prop
 |.nil,_=>True
 |.nd l v r,p=>(∀ a,v=some a->F (p 0) a)/\yt F l (fun k=>p (2*k+1))/\yt F r (fun k=>p (2*k+2))
theorem yt.get {α:Type}{F:Nat->α->Prop}:∀ {t:Tr α}{p:Nat->Nat}{k:Nat}{a:α},yt F t p->fj t k=some a->F (p k) a
 |.nil,_,_,_,_,h=>by cases h
 |.nd l v r,p,k,a,h,hk=>by
  rw [FT] at hk
  split at hk
  ·rename_i e
   subst e
   exact h.1 a hk
  ·split at hk
   ·have:F (p (2*(k / 2)+1)) a:=yt.get (p:=fun k=>p (2*k+1)) h.2.1 hk
    rwa [show 2*(k / 2)+1=k by omega] at this
   ·have:F (p (2*(k / 2 - 1)+2)) a:=yt.get (p:=fun k=>p (2*k+2)) h.2.2 hk
    rwa [show 2*(k / 2 - 1)+2=k by omega] at this
noncomputable def xt:Tr ((QC × List QR) × Nat):=(.nd (.nd (.nd (.nd (.nd (.nd (.nd (.nd .nil (some (IC.1,Tryz.f127.ntmps)) .nil) none (.nd (.nd .nil (some (Ip.1,Tryz.f319.ntmps)) .nil) none .nil)) none (.nd (.nd (.nd .nil (some (JK.1,Tryz.f287.ntmps)) .nil) none .nil) none (.nd (.nd .nil (some (Js.1,Tryz.f351.ntmps)) .nil) none .nil))) none (.nd (.nd .nil none (.nd .nil (some (JE.1,Tryz.f207.ntmps)) .nil)) none (.nd (.nd (.nd (.nd .nil (some (Iz.1,Tryz.f559.ntmps)) .nil) none .nil) none .nil) none (.nd .nil none (.nd .nil (some (Je.1,Tryz.f495.ntmps)) .nil))))) none (.nd (.nd (.nd .nil (some (N7.1,Tryz.f71.ntmps)) .nil) none (.nd .nil none (.nd (.nd .nil (some (Jt.1,Tryz.f359.ntmps)) .nil) none (.nd .nil (some (Ix.1,Tryz.f487.ntmps)) .nil)))) none (.nd .nil none (.nd .nil none (.nd .nil (some (II.1,Tryz.f247.ntmps)) (.nd .nil (some (Jy.1,Tryz.f503.ntmps)) .nil)))))) none (.nd (.nd (.nd (.nd .nil none (.nd .nil none (.nd .nil (some (Iw.1,Tryz.f451.ntmps)) .nil))) none (.nd (.nd .nil (some (Jj.1,Tryz.f163.ntmps)) .nil) none (.nd .nil (some (JF.1,Tryz.f227.ntmps)) .nil))) none (.nd .nil (some (N9.1,Tryz.f51.ntmps)) (.nd .nil none (.nd .nil (some (I4.1,Tryz.f243.ntmps)) .nil)))) none (.nd (.nd (.nd (.nd (.nd (.nd .nil (some (Jz.1,Tryz.f523.ntmps)) .nil) none .nil) none .nil) none (.nd .nil (some (Ig.1,Tryz.f203.ntmps)) .nil)) none .nil) none (.nd (.nd (.nd (.nd .nil (some (IK.1,Tryz.f283.ntmps)) .nil) (some (Ie.1,Tryz.f155.ntmps)) .nil) none (.nd .nil (some (I2.1,Tryz.f219.ntmps)) .nil)) none (.nd .nil (some (Ib.1,Tryz.f123.ntmps)) (.nd .nil (some (Jo.1,Tryz.f251.ntmps)) .nil)))))) none (.nd (.nd (.nd (.nd (.nd (.nd .nil none (.nd .nil (some (IQ.1,Tryz.f385.ntmps)) .nil)) none (.nd .nil none (.nd .nil (some (IT.1,Tryz.f449.ntmps)) .nil))) none (.nd .nil none (.nd (.nd .nil (some (IN.1,Tryz.f353.ntmps)) .nil) none .nil))) none (.nd (.nd .nil none (.nd .nil (some (Ih.1,Tryz.f209.ntmps)) (.nd .nil (some (Jd.1,Tryz.f465.ntmps)) .nil))) (some (N8.1,Tryz.f49.ntmps)) .nil)) none (.nd (.nd (.nd .nil (some (N3.1,Tryz.f73.ntmps)) .nil) none (.nd .nil none (.nd (.nd .nil (some (JN.1,Tryz.f361.ntmps)) .nil) (some (JG.1,Tryz.f233.ntmps)) .nil))) none (.nd (.nd (.nd (.nd .nil (some (Jp.1,Tryz.f281.ntmps)) .nil) (some (JC.1,Tryz.f153.ntmps)) .nil) none .nil) none (.nd (.nd .nil none (.nd .nil (some (IS.1,Tryz.f441.ntmps)) .nil)) (some (JA.1,Tryz.f121.ntmps)) (.nd .nil (some (I5.1,Tryz.f249.ntmps)) (.nd .nil (some (JS.1,Tryz.f505.ntmps)) .nil)))))) none (.nd (.nd (.nd (.nd (.nd (.nd (.nd .nil (some (IV.1,Tryz.f517.ntmps)) .nil) none .nil) none .nil) none (.nd (.nd .nil (some (I8.1,Tryz.f325.ntmps)) .nil) none .nil)) none (.nd .nil none (.nd .nil (some (Ii.1,Tryz.f229.ntmps)) (.nd .nil (some (JR.1,Tryz.f485.ntmps)) .nil)))) none (.nd (.nd (.nd (.nd (.nd .nil (some (JT.1,Tryz.f533.ntmps)) .nil) none .nil) none .nil) none .nil) (some (N_.1,Tryz.f53.ntmps)) .nil)) none (.nd (.nd .nil none (.nd .nil (some (Jg.1,Tryz.f109.ntmps)) (.nd .nil (some (IH.1,Tryz.f237.ntmps)) .nil))) none (.nd (.nd (.nd (.nd .nil (some (I7.1,Tryz.f285.ntmps)) .nil) none .nil) none (.nd (.nd .nil (some (I9.1,Tryz.f349.ntmps)) .nil) none .nil)) none (.nd (.nd .nil none (.nd .nil (some (Jc.1,Tryz.f445.ntmps)) .nil)) (some (Jh.1,Tryz.f125.ntmps)) (.nd (.nd .nil (some (Ja.1,Tryz.f381.ntmps)) .nil) none .nil))))))) none (.nd (.nd (.nd (.nd (.nd (.nd (.nd (.nd .nil (some (Il.1,Tryz.f256.ntmps)) .nil) (some (Ic.1,Tryz.f128.ntmps)) (.nd .nil (some (JO.1,Tryz.f384.ntmps)) .nil)) none (.nd .nil none (.nd .nil (some (JQ.1,Tryz.f448.ntmps)) .nil))) none (.nd (.nd (.nd .nil (some (IL.1,Tryz.f288.ntmps)) .nil) none .nil) none (.nd (.nd .nil (some (JM.1,Tryz.f352.ntmps)) .nil) none .nil))) none (.nd (.nd .nil none (.nd .nil (some (IF.1,Tryz.f208.ntmps)) .nil)) none .nil)) none (.nd (.nd (.nd .nil none (.nd (.nd .nil (some (JL.1,Tryz.f328.ntmps)) .nil) none .nil)) (some (N2.1,Tryz.f40.ntmps)) (.nd (.nd .nil (some (IE.1,Tryz.f168.ntmps)) .nil) none (.nd .nil (some (Jm.1,Tryz.f232.ntmps)) .nil))) none (.nd (.nd .nil none (.nd (.nd .nil (some (Iq.1,Tryz.f344.ntmps)) .nil) none .nil)) none (.nd .nil none (.nd .nil (some (Ik.1,Tryz.f248.ntmps)) .nil))))) none (.nd (.nd (.nd (.nd (.nd .nil (some (Ji.1,Tryz.f132.ntmps)) .nil) none .nil) (some (N6.1,Tryz.f36.ntmps)) (.nd (.nd .nil none (.nd .nil (some (Jb.1,Tryz.f420.ntmps)) .nil)) none (.nd .nil (some (IG.1,Tryz.f228.ntmps)) .nil))) none (.nd (.nd .nil none (.nd (.nd .nil (some (IM.1,Tryz.f340.ntmps)) .nil) none .nil)) none (.nd (.nd .nil none (.nd .nil (some (JP.1,Tryz.f436.ntmps)) .nil)) none (.nd .nil (some (Jn.1,Tryz.f244.ntmps)) .nil)))) none (.nd (.nd (.nd .nil none (.nd .nil (some (I1.1,Tryz.f204.ntmps)) .nil)) none (.nd .nil (some (IX.1,Tryz.f108.ntmps)) (.nd (.nd .nil (some (Is.1,Tryz.f364.ntmps)) .nil) none .nil))) none (.nd (.nd (.nd (.nd .nil (some (Io.1,Tryz.f284.ntmps)) .nil) (some (I0.1,Tryz.f156.ntmps)) .nil) none .nil) none (.nd .nil (some (IY.1,Tryz.f124.ntmps)) (.nd .nil (some (JI.1,Tryz.f252.ntmps)) .nil)))))) none (.nd (.nd (.nd (.nd (.nd (.nd .nil (some (IZ.1,Tryz.f130.ntmps)) .nil) none .nil) none (.nd (.nd .nil none (.nd .nil (some (Iu.1,Tryz.f418.ntmps)) .nil)) none (.nd (.nd .nil (some (Ir.1,Tryz.f354.ntmps)) .nil) (some (Jl.1,Tryz.f226.ntmps)) .nil))) none (.nd (.nd .nil none (.nd .nil none (.nd .nil (some (Jx.1,Tryz.f466.ntmps)) .nil))) none (.nd .nil none (.nd .nil (some (Ij.1,Tryz.f242.ntmps)) .nil)))) none (.nd (.nd (.nd (.nd (.nd (.nd .nil (some (Jf.1,Tryz.f522.ntmps)) .nil) none .nil) none .nil) none .nil) none (.nd (.nd .nil none (.nd .nil (some (Jv.1,Tryz.f426.ntmps)) .nil)) none (.nd (.nd .nil (some (IP.1,Tryz.f362.ntmps)) .nil) none .nil))) none (.nd (.nd (.nd (.nd .nil (some (JJ.1,Tryz.f282.ntmps)) .nil) (some (ID.1,Tryz.f154.ntmps)) .nil) none .nil) none (.nd (.nd .nil none (.nd .nil (some (Iv.1,Tryz.f442.ntmps)) .nil)) (some (IB.1,Tryz.f122.ntmps)) .nil)))) none (.nd (.nd (.nd (.nd (.nd (.nd (.nd .nil (some (Iy.1,Tryz.f518.ntmps)) .nil) none .nil) none .nil) none (.nd (.nd .nil (some (Jr.1,Tryz.f326.ntmps)) .nil) none .nil)) none (.nd (.nd .nil (some (JD.1,Tryz.f166.ntmps)) .nil) none (.nd (.nd .nil (some (I_.1,Tryz.f358.ntmps)) .nil) (some (I3.1,Tryz.f230.ntmps)) (.nd .nil (some (IU.1,Tryz.f486.ntmps)) .nil)))) none (.nd (.nd (.nd (.nd (.nd .nil (some (IW.1,Tryz.f534.ntmps)) .nil) (some (I6.1,Tryz.f278.ntmps)) .nil) none .nil) none .nil) none (.nd .nil none (.nd .nil (some (JH.1,Tryz.f246.ntmps)) .nil)))) none (.nd (.nd (.nd .nil none (.nd .nil (some (Jk.1,Tryz.f206.ntmps)) .nil)) none .nil) none (.nd (.nd (.nd (.nd .nil (some (Jq.1,Tryz.f286.ntmps)) .nil) none .nil) none .nil) none (.nd (.nd .nil none (.nd .nil (some (Jw.1,Tryz.f446.ntmps)) .nil)) (some (JB.1,Tryz.f126.ntmps)) (.nd (.nd .nil (some (Ju.1,Tryz.f382.ntmps)) .nil) (some (IJ.1,Tryz.f254.ntmps)) .nil))))))))
theorem acU:yt (fun g (c:(QC × List QR) × Nat)=>aF Tryz.prog g c.1 c.2) xt id:=⟨(fun _ e=>nomatch e),⟨(fun _ e=>nomatch e),⟨(fun _ e=>nomatch e),⟨(fun _ e=>nomatch e),⟨(fun _ e=>nomatch e),⟨(fun _ e=>nomatch e),⟨(fun _ e=>nomatch e),⟨(fun _ e=>Option.some.inj e ▸ abx),trivial,trivial⟩,⟨(fun _ e=>nomatch e),⟨(fun _ e=>Option.some.inj e ▸ abh),trivial,trivial⟩,trivial⟩⟩,⟨(fun _ e=>nomatch e),⟨(fun _ e=>nomatch e),⟨(fun _ e=>Option.some.inj e ▸ acG),trivial,trivial⟩,trivial⟩,⟨(fun _ e=>nomatch e),⟨(fun _ e=>Option.some.inj e ▸ acn),trivial,trivial⟩,trivial⟩⟩⟩,⟨(fun _ e=>nomatch e),⟨(fun _ e=>nomatch e),trivial,⟨(fun _ e=>Option.some.inj e ▸ acA),trivial,trivial⟩⟩,⟨(fun _ e=>nomatch e),⟨(fun _ e=>nomatch e),⟨(fun _ e=>nomatch e),⟨(fun _ e=>Option.some.inj e ▸ abq),trivial,trivial⟩,trivial⟩,trivial⟩,⟨(fun _ e=>nomatch e),trivial,⟨(fun _ e=>Option.some.inj e ▸ ab8),trivial,trivial⟩⟩⟩⟩⟩,⟨(fun _ e=>nomatch e),⟨(fun _ e=>nomatch e),⟨(fun _ e=>Option.some.inj e ▸ af4),trivial,trivial⟩,⟨(fun _ e=>nomatch e),trivial,⟨(fun _ e=>nomatch e),⟨(fun _ e=>Option.some.inj e ▸ aco),trivial,trivial⟩,⟨(fun _ e=>Option.some.inj e ▸ abo),trivial,trivial⟩⟩⟩⟩,⟨(fun _ e=>nomatch e),trivial,⟨(fun _ e=>nomatch e),trivial,⟨(fun _ e=>Option.some.inj e ▸ abD),trivial,⟨(fun _ e=>Option.some.inj e ▸ acu),trivial,trivial⟩⟩⟩⟩⟩⟩,⟨(fun _ e=>nomatch e),⟨(fun _ e=>nomatch e),⟨(fun _ e=>nomatch e),⟨(fun _ e=>nomatch e),trivial,⟨(fun _ e=>nomatch e),trivial,⟨(fun _ e=>Option.some.inj e ▸ abn),trivial,trivial⟩⟩⟩,⟨(fun _ e=>nomatch e),⟨(fun _ e=>Option.some.inj e ▸ acd),trivial,trivial⟩,⟨(fun _ e=>Option.some.inj e ▸ acB),trivial,trivial⟩⟩⟩,⟨(fun _ e=>Option.some.inj e ▸ af6),trivial,⟨(fun _ e=>nomatch e),trivial,⟨(fun _ e=>Option.some.inj e ▸ abX),trivial,trivial⟩⟩⟩⟩,⟨(fun _ e=>nomatch e),⟨(fun _ e=>nomatch e),⟨(fun _ e=>nomatch e),⟨(fun _ e=>nomatch e),⟨(fun _ e=>nomatch e),⟨(fun _ e=>Option.some.inj e ▸ acv),trivial,trivial⟩,trivial⟩,trivial⟩,⟨(fun _ e=>Option.some.inj e ▸ aba),trivial,trivial⟩⟩,trivial⟩,⟨(fun _ e=>nomatch e),⟨(fun _ e=>nomatch e),⟨(fun _ e=>Option.some.inj e ▸ aa_),⟨(fun _ e=>Option.some.inj e ▸ abF),trivial,trivial⟩,trivial⟩,⟨(fun _ e=>Option.some.inj e ▸ abV),trivial,trivial⟩⟩,⟨(fun _ e=>Option.some.inj e ▸ aa8),trivial,⟨(fun _ e=>Option.some.inj e ▸ aci),trivial,trivial⟩⟩⟩⟩⟩⟩,⟨(fun _ e=>nomatch e),⟨(fun _ e=>nomatch e),⟨(fun _ e=>nomatch e),⟨(fun _ e=>nomatch e),⟨(fun _ e=>nomatch e),⟨(fun _ e=>nomatch e),trivial,⟨(fun _ e=>Option.some.inj e ▸ abK),trivial,trivial⟩⟩,⟨(fun _ e=>nomatch e),trivial,⟨(fun _ e=>Option.some.inj e ▸ abM),trivial,trivial⟩⟩⟩,⟨(fun _ e=>nomatch e),trivial,⟨(fun _ e=>nomatch e),⟨(fun _ e=>Option.some.inj e ▸ abI),trivial,trivial⟩,trivial⟩⟩⟩,⟨(fun _ e=>Option.some.inj e ▸ af5),⟨(fun _ e=>nomatch e),trivial,⟨(fun _ e=>Option.some.inj e ▸ abb),trivial,⟨(fun _ e=>Option.some.inj e ▸ ab7),trivial,trivial⟩⟩⟩,trivial⟩⟩,⟨(fun _ e=>nomatch e),⟨(fun _ e=>nomatch e),⟨(fun _ e=>Option.some.inj e ▸ af1),trivial,trivial⟩,⟨(fun _ e=>nomatch e),trivial,⟨(fun _ e=>Option.some.inj e ▸ acC),⟨(fun _ e=>Option.some.inj e ▸ acJ),trivial,trivial⟩,trivial⟩⟩⟩,⟨(fun _ e=>nomatch e),⟨(fun _ e=>nomatch e),⟨(fun _ e=>Option.some.inj e ▸ acy),⟨(fun _ e=>Option.some.inj e ▸ acj),trivial,trivial⟩,trivial⟩,trivial⟩,⟨(fun _ e=>Option.some.inj e ▸ acw),⟨(fun _ e=>nomatch e),trivial,⟨(fun _ e=>Option.some.inj e ▸ abL),trivial,trivial⟩⟩,⟨(fun _ e=>Option.some.inj e ▸ abY),trivial,⟨(fun _ e=>Option.some.inj e ▸ acO),trivial,trivial⟩⟩⟩⟩⟩⟩,⟨(fun _ e=>nomatch e),⟨(fun _ e=>nomatch e),⟨(fun _ e=>nomatch e),⟨(fun _ e=>nomatch e),⟨(fun _ e=>nomatch e),⟨(fun _ e=>nomatch e),⟨(fun _ e=>Option.some.inj e ▸ abO),trivial,trivial⟩,trivial⟩,trivial⟩,⟨(fun _ e=>nomatch e),⟨(fun _ e=>Option.some.inj e ▸ ab1),trivial,trivial⟩,trivial⟩⟩,⟨(fun _ e=>nomatch e),trivial,⟨(fun _ e=>Option.some.inj e ▸ abc),trivial,⟨(fun _ e=>Option.some.inj e ▸ acN),trivial,trivial⟩⟩⟩⟩,⟨(fun _ e=>Option.some.inj e ▸ af7),⟨(fun _ e=>nomatch e),⟨(fun _ e=>nomatch e),⟨(fun _ e=>nomatch e),⟨(fun _ e=>Option.some.inj e ▸ acP),trivial,trivial⟩,trivial⟩,trivial⟩,trivial⟩,trivial⟩⟩,⟨(fun _ e=>nomatch e),⟨(fun _ e=>nomatch e),trivial,⟨(fun _ e=>Option.some.inj e ▸ ab_),trivial,⟨(fun _ e=>Option.some.inj e ▸ abC),trivial,trivial⟩⟩⟩,⟨(fun _ e=>nomatch e),⟨(fun _ e=>nomatch e),⟨(fun _ e=>nomatch e),⟨(fun _ e=>Option.some.inj e ▸ ab0),trivial,trivial⟩,trivial⟩,⟨(fun _ e=>nomatch e),⟨(fun _ e=>Option.some.inj e ▸ ab2),trivial,trivial⟩,trivial⟩⟩,⟨(fun _ e=>Option.some.inj e ▸ aca),⟨(fun _ e=>nomatch e),trivial,⟨(fun _ e=>Option.some.inj e ▸ ab6),trivial,trivial⟩⟩,⟨(fun _ e=>nomatch e),⟨(fun _ e=>Option.some.inj e ▸ ab4),trivial,trivial⟩,trivial⟩⟩⟩⟩⟩⟩⟩,⟨(fun _ e=>nomatch e),⟨(fun _ e=>nomatch e),⟨(fun _ e=>nomatch e),⟨(fun _ e=>nomatch e),⟨(fun _ e=>nomatch e),⟨(fun _ e=>nomatch e),⟨(fun _ e=>Option.some.inj e ▸ aa9),⟨(fun _ e=>Option.some.inj e ▸ abf),trivial,trivial⟩,⟨(fun _ e=>Option.some.inj e ▸ acK),trivial,trivial⟩⟩,⟨(fun _ e=>nomatch e),trivial,⟨(fun _ e=>Option.some.inj e ▸ acM),trivial,trivial⟩⟩⟩,⟨(fun _ e=>nomatch e),⟨(fun _ e=>nomatch e),⟨(fun _ e=>Option.some.inj e ▸ abG),trivial,trivial⟩,trivial⟩,⟨(fun _ e=>nomatch e),⟨(fun _ e=>Option.some.inj e ▸ acI),trivial,trivial⟩,trivial⟩⟩⟩,⟨(fun _ e=>nomatch e),⟨(fun _ e=>nomatch e),trivial,⟨(fun _ e=>Option.some.inj e ▸ abA),trivial,trivial⟩⟩,trivial⟩⟩,⟨(fun _ e=>nomatch e),⟨(fun _ e=>Option.some.inj e ▸ af0),⟨(fun _ e=>nomatch e),trivial,⟨(fun _ e=>nomatch e),⟨(fun _ e=>Option.some.inj e ▸ acH),trivial,trivial⟩,trivial⟩⟩,⟨(fun _ e=>nomatch e),⟨(fun _ e=>Option.some.inj e ▸ abz),trivial,trivial⟩,⟨(fun _ e=>Option.some.inj e ▸ acg),trivial,trivial⟩⟩⟩,⟨(fun _ e=>nomatch e),⟨(fun _ e=>nomatch e),trivial,⟨(fun _ e=>nomatch e),⟨(fun _ e=>Option.some.inj e ▸ abi),trivial,trivial⟩,trivial⟩⟩,⟨(fun _ e=>nomatch e),trivial,⟨(fun _ e=>Option.some.inj e ▸ abe),trivial,trivial⟩⟩⟩⟩⟩,⟨(fun _ e=>nomatch e),⟨(fun _ e=>nomatch e),⟨(fun _ e=>Option.some.inj e ▸ af3),⟨(fun _ e=>nomatch e),⟨(fun _ e=>Option.some.inj e ▸ acb),trivial,trivial⟩,trivial⟩,⟨(fun _ e=>nomatch e),⟨(fun _ e=>nomatch e),trivial,⟨(fun _ e=>Option.some.inj e ▸ ab5),trivial,trivial⟩⟩,⟨(fun _ e=>Option.some.inj e ▸ abB),trivial,trivial⟩⟩⟩,⟨(fun _ e=>nomatch e),⟨(fun _ e=>nomatch e),trivial,⟨(fun _ e=>nomatch e),⟨(fun _ e=>Option.some.inj e ▸ abH),trivial,trivial⟩,trivial⟩⟩,⟨(fun _ e=>nomatch e),⟨(fun _ e=>nomatch e),trivial,⟨(fun _ e=>Option.some.inj e ▸ acL),trivial,trivial⟩⟩,⟨(fun _ e=>Option.some.inj e ▸ ach),trivial,trivial⟩⟩⟩⟩,⟨(fun _ e=>nomatch e),⟨(fun _ e=>nomatch e),⟨(fun _ e=>nomatch e),trivial,⟨(fun _ e=>Option.some.inj e ▸ abU),trivial,trivial⟩⟩,⟨(fun _ e=>Option.some.inj e ▸ abQ),trivial,⟨(fun _ e=>nomatch e),⟨(fun _ e=>Option.some.inj e ▸ abk),trivial,trivial⟩,trivial⟩⟩⟩,⟨(fun _ e=>nomatch e),⟨(fun _ e=>nomatch e),⟨(fun _ e=>Option.some.inj e ▸ abT),⟨(fun _ e=>Option.some.inj e ▸ abg),trivial,trivial⟩,trivial⟩,trivial⟩,⟨(fun _ e=>Option.some.inj e ▸ abR),trivial,⟨(fun _ e=>Option.some.inj e ▸ acE),trivial,trivial⟩⟩⟩⟩⟩⟩,⟨(fun _ e=>nomatch e),⟨(fun _ e=>nomatch e),⟨(fun _ e=>nomatch e),⟨(fun _ e=>nomatch e),⟨(fun _ e=>nomatch e),⟨(fun _ e=>Option.some.inj e ▸ abS),trivial,trivial⟩,trivial⟩,⟨(fun _ e=>nomatch e),⟨(fun _ e=>nomatch e),trivial,⟨(fun _ e=>Option.some.inj e ▸ abl),trivial,trivial⟩⟩,⟨(fun _ e=>Option.some.inj e ▸ acf),⟨(fun _ e=>Option.some.inj e ▸ abj),trivial,trivial⟩,trivial⟩⟩⟩,⟨(fun _ e=>nomatch e),⟨(fun _ e=>nomatch e),trivial,⟨(fun _ e=>nomatch e),trivial,⟨(fun _ e=>Option.some.inj e ▸ acs),trivial,trivial⟩⟩⟩,⟨(fun _ e=>nomatch e),trivial,⟨(fun _ e=>Option.some.inj e ▸ abd),trivial,trivial⟩⟩⟩⟩,⟨(fun _ e=>nomatch e),⟨(fun _ e=>nomatch e),⟨(fun _ e=>nomatch e),⟨(fun _ e=>nomatch e),⟨(fun _ e=>nomatch e),⟨(fun _ e=>Option.some.inj e ▸ ab9),trivial,trivial⟩,trivial⟩,trivial⟩,trivial⟩,⟨(fun _ e=>nomatch e),⟨(fun _ e=>nomatch e),trivial,⟨(fun _ e=>Option.some.inj e ▸ acq),trivial,trivial⟩⟩,⟨(fun _ e=>nomatch e),⟨(fun _ e=>Option.some.inj e ▸ abJ),trivial,trivial⟩,trivial⟩⟩⟩,⟨(fun _ e=>nomatch e),⟨(fun _ e=>nomatch e),⟨(fun _ e=>Option.some.inj e ▸ aby),⟨(fun _ e=>Option.some.inj e ▸ acF),trivial,trivial⟩,trivial⟩,trivial⟩,⟨(fun _ e=>Option.some.inj e ▸ abw),⟨(fun _ e=>nomatch e),trivial,⟨(fun _ e=>Option.some.inj e ▸ abm),trivial,trivial⟩⟩,trivial⟩⟩⟩⟩,⟨(fun _ e=>nomatch e),⟨(fun _ e=>nomatch e),⟨(fun _ e=>nomatch e),⟨(fun _ e=>nomatch e),⟨(fun _ e=>nomatch e),⟨(fun _ e=>nomatch e),⟨(fun _ e=>Option.some.inj e ▸ abp),trivial,trivial⟩,trivial⟩,trivial⟩,⟨(fun _ e=>nomatch e),⟨(fun _ e=>Option.some.inj e ▸ acm),trivial,trivial⟩,trivial⟩⟩,⟨(fun _ e=>nomatch e),⟨(fun _ e=>Option.some.inj e ▸ acz),trivial,trivial⟩,⟨(fun _ e=>Option.some.inj e ▸ abW),⟨(fun _ e=>Option.some.inj e ▸ ab3),trivial,trivial⟩,⟨(fun _ e=>Option.some.inj e ▸ abN),trivial,trivial⟩⟩⟩⟩,⟨(fun _ e=>nomatch e),⟨(fun _ e=>nomatch e),⟨(fun _ e=>nomatch e),⟨(fun _ e=>Option.some.inj e ▸ abZ),⟨(fun _ e=>Option.some.inj e ▸ abP),trivial,trivial⟩,trivial⟩,trivial⟩,trivial⟩,⟨(fun _ e=>nomatch e),trivial,⟨(fun _ e=>Option.some.inj e ▸ acD),trivial,trivial⟩⟩⟩⟩,⟨(fun _ e=>nomatch e),⟨(fun _ e=>nomatch e),⟨(fun _ e=>nomatch e),trivial,⟨(fun _ e=>Option.some.inj e ▸ ace),trivial,trivial⟩⟩,trivial⟩,⟨(fun _ e=>nomatch e),⟨(fun _ e=>nomatch e),⟨(fun _ e=>nomatch e),⟨(fun _ e=>Option.some.inj e ▸ ack),trivial,trivial⟩,trivial⟩,trivial⟩,⟨(fun _ e=>Option.some.inj e ▸ acx),⟨(fun _ e=>nomatch e),trivial,⟨(fun _ e=>Option.some.inj e ▸ acr),trivial,trivial⟩⟩,⟨(fun _ e=>Option.some.inj e ▸ abE),⟨(fun _ e=>Option.some.inj e ▸ acp),trivial,trivial⟩,trivial⟩⟩⟩⟩⟩⟩⟩⟩
theorem LL {g:Nat}{c:QC × List QR}{n:Nat}(h:fj xt g=some (c,n)):aF Tryz.prog g c n:=acU.get h
end
section
set_option maxRecDepth 100000
section
variable {w0:World}
theorem Um:∀ g,jV g [166,486]=true->∀ A c,ah Tryz.prog w0 g [.v (.slice A 0 c)] (.sl true []):=by
 have h0:iU Tryz.prog w0 (W4 xt [] []):=LF (fun _ _ _=>LL) fun g h=>by cases h
 intro g hg A c
 have hg:=ye hg
 simp only [List.mem_cons,List.not_mem_nil,or_false] at hg
 rcases hg with rfl|rfl<;>cases A<;>exact Env.aH h0 8 (by kernel_rfl)
noncomputable def xE:Env:=W4 xt [166,486] [166,486,534]
theorem acV:iU Tryz.prog w0 xE:=LF (fun _ _ _=>LL) Um
theorem af9:DY xE (H4 xE 60) 40 []=some (.v (.bool true)):=by kernel_rfl
theorem af_:ah Tryz.prog w0 40 [] (.v (.bool true)):=Env.aH acV 60 af9
end
end
end Go.Proofs.YtgphljokbodciaaGreat
