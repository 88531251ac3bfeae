import Derived.Test.YtbofilglphfceaaGreatQ51
namespace Go.Proofs.YtbofilglphfceaaGreat
set_option linter.unusedVariables false
set_option linter.unusedSimpArgs false
open Go.RowKit
section
set_option maxRecDepth 100000
attribute [local irreducible] ah bc ad ab
def V3:CF Tryz.f13:=⟨_,by conv=>lhs;cbv⟩
theorem acP:aH Tryz.prog 13 V3.1 Tryz.f13.ntmps:=aQ Tryz.func13 V3.2 Tryz.call13
def iX:List Nat:=[3,8,7,2,4,0,1,6,27,40,45,68,73,104]
def vW (p:Pg) (s:dP) (x:Gl):Bool:=qt p.ds x && er (varsOf x.a) s.fresh s.binds
def sM (s:dP) (x:Gl):Bool:=dL x && (decide (5<=x.op) && er (varsOf x.a) s.fresh s.binds)
def vo (p:Pg) (s:dP):Bool:=decide ((ng p).2=0) && (decide (s.goals.length<=1000) && (decide (s.known.length<=500) && (pM p s.store s.binds s.cg s.next s.fresh && (s.goals.all (vW p s) && s.known.all (sM s)))))
section
variable {w0:World}{ρ:Hd}
set_option maxHeartbeats 4000000 in
theorem IV (p:Pg) (s:dP) (lx:xK p) (hs:v8 s) (fp:∀ r ∈ p.rs,Ah r):ah Tryz.prog w0 13 [pg ρ p,r5 ρ s] (.v (.bool (vo p s))):=by
 have hC:=MQ (w0:=w0) (ρ:=ρ) p lx fp
 have dg:=MS (w0:=w0) (ρ:=ρ) p s.store s.binds s.cg s.next s.fresh lx.ds lx.rs (fun r hr=>(fp r hr).h) hs.st hs.bl hs.fl hs.sx hs.bx hs.fx
 have nq:=nF (ρ:=ρ) p
 have Qh:∀ x ∈ s.goals,_:=fun x hx=>Ra (w0:=w0) (ρ:=ρ) p x lx.ds (hs.gx x hx)
 have Qi:∀ x ∈ s.goals,_:=fun x hx=>E5 (w0:=w0) (ρ:=ρ) x s.fresh s.binds hs.bl (hs.gx x hx)
 have Qj:∀ x ∈ s.known,_:=fun x hx=>E5 (w0:=w0) (ρ:=ρ) x s.fresh s.binds hs.bl (hs.kx x hx)
 have Qk:∀ x ∈ s.known,_:=fun x hx=>w5 (w0:=w0) (ρ:=ρ) x (hs.kx x hx).1 (hs.kx x hx).2
 have DN:=hs.gl
 have J7:=hs.kl
 obtain⟨R,hR⟩:∃ R,R=vo p s:=⟨_,rfl⟩
 rw [<-hR]
 unfold vo at hR
 obtain⟨⟨c1,c2⟩,hc⟩:∃ c,c=ng p:=⟨_,rfl⟩
 rw [<-hc] at hC hR
 dsimp only at hC hR
 obtain⟨A,hA⟩:∃ b,b=pM p s.store s.binds s.cg s.next s.fresh:=⟨_,rfl⟩
 rw [<-hA] at dg hR
 obtain⟨fG,V4⟩:∃ f,f=vW p s:=⟨_,rfl⟩
 obtain⟨fK,Fc⟩:∃ f,f=sM s:=⟨_,rfl⟩
 rw [<-V4,<-Fc] at hR
 have Kw:∀ x,fG x=(qt p.ds x && er (varsOf x.a) s.fresh s.binds):=fun x=>by rw [V4,vW]
 have hkx:∀ x,fK x=(dL x && (decide (5<=x.op) && er (varsOf x.a) s.fresh s.binds)):=fun x=>by rw [Fc,sM]
 clear hA hc hs lx fp V4 Fc
 obtain⟨ds,rs⟩:=p
 obtain⟨goals,store,binds,cg,known,next,fresh,failed⟩:=s
 dsimp only at dg Qh Qi Qj Qk DN J7 Kw hkx hR
 refine acP.aG (by simp [Tryz.ntmps13]) (.v) ?_
 refine gq iX ?_
 repeat' (first
  |(refine ab.op rfl (ad.ag rfl hC ⟨nq,trivial⟩) ?_;refine gq iX ?_)
  |(refine ab.a_ rfl (ad.ag rfl dg ⟨nq,cb _,bT _,cJ _,.v,.v,trivial⟩) (fun _=>?_) (fun _=>?_)<;>refine gq iX ?_)
  |(refine bq (fun hb=>?_) (fun hb=>?_)<;>(try simp only [aq] at hb)<;>(first|refine gq iX ?_))
  |(refine aB fun m hm=>?_;(try rw [af] at hm);refine gq iX ?_)
  |(refine fq ?_))
 all_goals first
  |(refine aC ?_;rw [hR,decide_eq_false (show ¬ c2=0 by omega)];rfl)
  |(refine aC ?_;rw [hR,decide_eq_false (show ¬ goals.length<=1000 by omega)];simp;done)
  |(refine aC ?_;rw [hR,decide_eq_false (show ¬ known.length<=500 by omega)];simp;done)
  |(refine aC ?_;rw [hR,show A=false by assumption];simp;done)
  |skip
 rw [decide_eq_true (show c2=0 by omega),decide_eq_true (show goals.length<=1000 by omega),decide_eq_true (show known.length<=500 by omega),show A=true by assumption] at hR
 simp only [Bool.true_and] at hR
 clear hC dg
 obtain⟨T2,nc⟩:∃ T,T=known.all fK:=⟨_,rfl⟩
 rw [<-nc] at hR
 refine ab.aP (σ:=Int) 2 2 [] (fun q=>[(2,.pt 0 2 0 0),(3,.pt 1 8 0 0),(7,.v (.int .i64 q))]) [] (fun _=>[(0,.arr 2 [lO ρ ⟨ds,rs⟩] 0 true),(1,.arr 8 [BG ρ ⟨goals,store,binds,cg,known,next,fresh,failed⟩] 0 true)]) (fun q=>∃ k:Nat,q=k/\k<=goals.length/\R=((goals.drop k).all fG && T2)) (fun q=>goals.length - q.toNat) 0 ⟨0,rfl,by simp,by simpa using hR⟩ rfl (by exact⟨sq,rfl,⟨.inl ⟨_,rfl,.arr (by exact⟨kq,trivial⟩)⟩,⟨.inl ⟨_,rfl,.arr (by exact⟨kq,trivial⟩)⟩,trivial⟩⟩,rfl,rfl,rfl⟩) ?_
 rintro q ⟨k,hi,hk,hp⟩
 clear hR
 refine gq iX ?_
 by_cases au:k < goals.length
 ·obtain⟨x,hx,aO⟩:=az au
  have hP:=Qh x (aY hx)
  have hF:=Qi x (aY hx)
  rw [aO,List.all_cons,Bool.and_assoc,Kw] at hp
  obtain⟨P,V5⟩:∃ P,P=qt ds x:=⟨_,rfl⟩
  obtain⟨F,jI⟩:∃ F,F=er (varsOf x.a) fresh binds:=⟨_,rfl⟩
  rw [<-V5,<-jI] at hp
  rw [<-V5] at hP
  rw [<-jI] at hF
  clear V5 jI Qh Qi Qj Qk
  have gn:=dy (ρ:=ρ) x
  obtain⟨xo,xn,xa⟩:=x
  refine ab.int rfl (ad.len rfl) fun m0 kO=>?_;rw [af] at kO
  refine gq iX ?_
  repeat' (first
   |(refine ab.op rfl (ad.ind rfl rfl (ay (l:=goals) hi hx) (aw fun _=>rfl)) ?_;refine gq iX ?_)
   |(refine ab.a_ rfl (ad.ag rfl hP ⟨nq,gn,trivial⟩) (fun _=>?_) (fun _=>?_)<;>refine gq iX ?_)
   |(refine ab.a_ rfl (ad.ag rfl hF ⟨gn,.v,bT _,trivial⟩) (fun _=>?_) (fun _=>?_)<;>refine gq iX ?_)
   |(refine bq (fun hb=>?_) (fun hb=>?_)<;>(try simp only [aq] at hb)<;>(first|refine gq iX ?_))
   |(refine aS fun _ _=>?_;refine gq iX ?_)
   |(refine ab.ao ?_;refine gq iX ?_)
   |(refine ab.bJ ?_;refine gq iX ?_)
   |(refine fq ?_))
  all_goals first
   |(exfalso;omega)
   |(refine aC ?_;rw [hp,show P=false by assumption];rfl)
   |(refine aC ?_;rw [hp,show F=false by assumption];simp;done)
   |(rw [show P=true by assumption,show F=true by assumption,Bool.true_and,Bool.true_and] at hp
     refine ab.aL (σ:=Int) _ [] ?_ ?_ (by exact⟨sq,rfl,⟨.inl ⟨_,rfl,.arr (by exact⟨kq,trivial⟩)⟩,⟨.inl ⟨_,rfl,.arr (by exact⟨kq,trivial⟩)⟩,trivial⟩⟩,rfl,rfl,rfl⟩)<;>first|omega|exact⟨k+1,by omega,by omega,hp⟩)
 rw [List.drop_eq_nil_of_le (by omega),List.all_nil,Bool.true_and,nc] at hp
 clear nc Qh Qi
 refine ab.int rfl (ad.len rfl) fun m0 kO=>?_;rw [af] at kO
 refine gq iX ?_
 repeat' (first
  |(refine bq (fun hb=>?_) (fun hb=>?_)<;>(try simp only [aq] at hb)<;>(first|refine gq iX ?_))
  |(refine ab.ao ?_;refine gq iX ?_)
  )
 all_goals first
  |(exfalso;omega)
  |skip
 refine ab.aP (σ:=Int) 2 2 [] (fun q=>[(2,.pt 0 2 0 0),(3,.pt 1 8 0 0),(8,.v (.int .i64 q))]) [] (fun _=>[(0,.arr 2 [lO ρ ⟨ds,rs⟩] 0 true),(1,.arr 8 [BG ρ ⟨goals,store,binds,cg,known,next,fresh,failed⟩] 0 true)]) (fun q=>∃ k:Nat,q=k/\k<=known.length/\R=(known.drop k).all fK) (fun q=>known.length - q.toNat) 0 ⟨0,rfl,by simp,by simpa using hp⟩ rfl (by exact⟨sq,rfl,⟨.inl ⟨_,rfl,.arr (by exact⟨kq,trivial⟩)⟩,⟨.inl ⟨_,rfl,.arr (by exact⟨kq,trivial⟩)⟩,trivial⟩⟩,rfl,rfl,rfl⟩) ?_
 clear hp
 rintro q2 ⟨k2,mi,dS,hp⟩
 refine gq iX ?_
 by_cases gu:k2 < known.length
 ·obtain⟨x,hx,aO⟩:=az gu
  have hG:=Qk x (aY hx)
  have hF:=Qj x (aY hx)
  rw [aO,List.all_cons,hkx] at hp
  obtain⟨G,uX⟩:∃ G,G=dL x:=⟨_,rfl⟩
  obtain⟨F,jI⟩:∃ F,F=er (varsOf x.a) fresh binds:=⟨_,rfl⟩
  rw [<-uX,<-jI] at hp
  rw [<-uX] at hG
  rw [<-jI] at hF
  clear uX jI Qj Qk
  have gn:=dy (ρ:=ρ) x
  obtain⟨xo,xn,xa⟩:=x
  dsimp only at hp
  refine ab.int rfl (ad.len rfl) fun m0 kO=>?_;rw [af] at kO
  refine gq iX ?_
  repeat' (first
   |(refine ab.op rfl (ad.ind rfl rfl (ay (l:=known) mi hx) (aw fun _=>rfl)) ?_;refine gq iX ?_)
   |(refine ab.a_ rfl (ad.ag rfl hG ⟨gn,trivial⟩) (fun _=>?_) (fun _=>?_)<;>refine gq iX ?_)
   |(refine ab.a_ rfl (ad.ag rfl hF ⟨gn,.v,bT _,trivial⟩) (fun _=>?_) (fun _=>?_)<;>refine gq iX ?_)
   |(refine bq (fun hb=>?_) (fun hb=>?_)<;>(try simp only [aq] at hb)<;>(first|refine gq iX ?_))
   |(refine aS fun _ _=>?_;refine gq iX ?_)
   |(refine ab.ao ?_;refine gq iX ?_)
   |(refine ab.bJ ?_;refine gq iX ?_)
   |(refine fq ?_))
  all_goals first
   |(exfalso;omega)
   |(refine aC ?_;rw [hp,show G=false by assumption];rfl)
   |(refine aC ?_;rw [hp,decide_eq_false (show ¬ 5<=xo by omega)];simp;done)
   |(refine aC ?_;rw [hp,show F=false by assumption];simp;done)
   |(rw [show G=true by assumption,decide_eq_true (show 5<=xo by omega),show F=true by assumption,Bool.true_and,Bool.true_and,Bool.true_and] at hp
     refine ab.aL (σ:=Int) _ [] ?_ ?_ (by exact⟨sq,rfl,⟨.inl ⟨_,rfl,.arr (by exact⟨kq,trivial⟩)⟩,⟨.inl ⟨_,rfl,.arr (by exact⟨kq,trivial⟩)⟩,trivial⟩⟩,rfl,rfl,rfl⟩)<;>first|omega|exact⟨k2+1,by omega,by omega,hp⟩)
 rw [List.drop_eq_nil_of_le (by omega),List.all_nil] at hp
 repeat' (first
  |(refine bq (fun hb=>?_) (fun hb=>?_)<;>(try simp only [aq] at hb)<;>(first|refine gq iX ?_))
  |(refine aB fun m hm=>?_;(try rw [af] at hm);refine gq iX ?_)
  |(refine ab.ao ?_;refine gq iX ?_)
  |(refine fq ?_))
 all_goals first
  |(exfalso;omega)
  |(rw [hp];exact aC rfl)
end
end
theorem KD {o:Int}(h:o < 0\/12 < o):arity o=-1:=by
 unfold arity
 rw [if_neg (by omega),if_neg (by omega),if_neg (by omega)]
theorem A_ {x:Gl}(h:dL x=true):0<=x.op/\x.op<=12:=by
 by_cases hc:x.op < 0\/12 < x.op
 ·exfalso
  unfold dL at h
  rw [if_neg (by omega),KD hc,Bool.and_eq_true,Bool.and_eq_true] at h
  have:=of_decide_eq_true h.1.2
  omega
 ·omega
theorem RG (p:Pg) (s:dP) (x:Gl):ru p s x=vW p s x:=by
 unfold ru vW qt
 cases hG:dL x with
 |false=>rfl
 |true =>
  have ho:=A_ hG
  rw [Bool.true_and,Bool.true_and,Bool.and_comm]
  congr 1
  unfold uW
  rw [Bool.eq_iff_iff]
  by_cases h0:x.op=0
  ·simp [h0]
  ·simp [h0];omega
theorem RH (p:Pg) (s:dP) (x:Im):ry p s x=rJ p s.next s.fresh s.binds x:=by
 unfold ry rJ
 rw [Bool.and_assoc,Bool.and_assoc,Bool.and_comm (er _ _ _)]
theorem MT (s:dP) (x:Gl):oG s x=sM s x:=by
 unfold oG sM lu
 cases hG:dL x with
 |false=>simp
 |true =>
  have ho:=A_ hG
  rw [decide_eq_true ho.2,Bool.and_true,Bool.and_true,Bool.true_and]
theorem RI (p:Pg) (s:dP) (x:Fi) (h:0<=x.kG):rq p s x=pD p s.store x:=by
 unfold rq pD
 rw [decide_eq_true h,Bool.true_and]
 cases p.rs[x.kG.toNat]? with
 |none=>rfl
 |some r =>
  simp only
  cases hr:r.rem with
  |nil=>simp
  |cons y l=>rfl
theorem bind_eq (s:dP) (x:Bd) (h:m4 s.binds=true) (hx:x ∈ s.binds):tq s x=rK s.fresh s.binds x:=by
 unfold tq rK er
 have h1:=List.all_eq_true.1 (List.all_eq_true.1 h x hx)
 congr 1
 generalize varsOf [x.t]=vs at h1
 induction vs with
 |nil=>rfl
 |cons v vs ih =>
  have hv:=h1 v (by simp)
  rw [List.any_cons,List.all_cons,<-ih fun y hy=>h1 y (by simp [hy]),hv,Bool.and_true,Bool.not_or]
  congr 1
  rw [Bool.eq_iff_iff]
  simp
theorem all_congr {T:Type}{f g:T->Bool}:∀ {l:List T},(∀ x ∈ l,f x=g x)->l.all f=l.all g
 |[],_=>rfl
 |x::l,h=>by rw [List.all_cons,List.all_cons,h x (by simp),all_congr fun y hy=>h y (by simp [hy])]
theorem IX (p:Pg) (s:dP):r9 p s=vo p s:=by
 unfold r9 vo pM yI
 rw [MR,all_congr (fun x _=>RG p s x),all_congr (fun x _=>RH p s x),all_congr (fun x _=>MT s x)]
 cases hU:iO s.binds with
 |false=>simp
 |true =>
  cases hH:gW s.cg with
  |false=>simp
  |true =>
   have kD:m4 s.binds=true:=by
    unfold iO at hU
    exact ((Bool.and_eq_true _ _).mp hU).2
   rw [all_congr (fun x hx=>RI p s x (uZ hH x hx)),all_congr (fun x hx=>bind_eq s x kD hx)]
   generalize decide ((ng p).2=0)=a1
   generalize decide (s.goals.length<=1000)=a2
   generalize decide (s.known.length<=500)=a3
   generalize decide (1<=s.next)=a4
   generalize decide (s.next<=2147483648)=a5
   generalize decide (0<=s.fresh)=a6
   generalize decide (s.fresh<=1048576)=a7
   generalize jy s.store=a8
   generalize s.goals.all (vW p s)=a9
   generalize s.store.all (rJ p s.next s.fresh s.binds)=b1
   generalize s.known.all (sM s)=b2
   generalize s.cg.all (pD p s.store)=b3
   generalize s.binds.all (rK s.fresh s.binds)=b4
   rw [Bool.eq_iff_iff]
   simp only [Bool.and_eq_true]
   constructor<;>rintro h<;>simp_all
section
set_option maxRecDepth 100000
noncomputable def MU:{q:QC × List QR // aX Tryz.progTables Tryz.f10=some q}:=⟨_,by conv=>lhs;cbv⟩
theorem acQ:aN Tryz.prog 10 MU.1 Tryz.f10.ntmps:=aN.of Tryz.func10 MU.2 rfl rfl (by kernel_rfl) Tryz.call10
noncomputable def MV:{q:QC × List QR // aX Tryz.progTables Tryz.f43=some q}:=⟨_,by conv=>lhs;cbv⟩
theorem acR:aN Tryz.prog 43 MV.1 Tryz.f43.ntmps:=aN.of Tryz.func43 MV.2 rfl rfl (by kernel_rfl) Tryz.call43
noncomputable def MW:{q:QC × List QR // aX Tryz.progTables Tryz.f47=some q}:=⟨_,by conv=>lhs;cbv⟩
theorem acS:aN Tryz.prog 47 MW.1 Tryz.f47.ntmps:=aN.of Tryz.func47 MW.2 rfl rfl (by kernel_rfl) Tryz.call47
noncomputable def MX:{q:QC × List QR // aX Tryz.progTables Tryz.f52=some q}:=⟨_,by conv=>lhs;cbv⟩
theorem acT:aN Tryz.prog 52 MX.1 Tryz.f52.ntmps:=aN.of Tryz.func52 MX.2 rfl rfl (by kernel_rfl) Tryz.call52
noncomputable def MY:{q:QC × List QR // aX Tryz.progTables Tryz.f68=some q}:=⟨_,by conv=>lhs;cbv⟩
theorem acU:aN Tryz.prog 68 MY.1 Tryz.f68.ntmps:=aN.of Tryz.func68 MY.2 rfl rfl (by kernel_rfl) Tryz.call68
noncomputable def Io:{q:QC × List QR // aX Tryz.progTables Tryz.f104=some q}:=⟨_,by conv=>lhs;cbv⟩
theorem ZH:aN Tryz.prog 104 Io.1 Tryz.f104.ntmps:=aN.of Tryz.func104 Io.2 rfl rfl (by kernel_rfl) Tryz.call104
noncomputable def Ip:{q:QC × List QR // aX Tryz.progTables Tryz.f112=some q}:=⟨_,by conv=>lhs;cbv⟩
theorem ZI:aN Tryz.prog 112 Ip.1 Tryz.f112.ntmps:=aN.of Tryz.func112 Ip.2 rfl rfl (by kernel_rfl) Tryz.call112
noncomputable def Iq:{q:QC × List QR // aX Tryz.progTables Tryz.f116=some q}:=⟨_,by conv=>lhs;cbv⟩
theorem ZJ:aN Tryz.prog 116 Iq.1 Tryz.f116.ntmps:=aN.of Tryz.func116 Iq.2 rfl rfl (by kernel_rfl) Tryz.call116
noncomputable def Ir:{q:QC × List QR // aX Tryz.progTables Tryz.f148=some q}:=⟨_,by conv=>lhs;cbv⟩
theorem ZK:aN Tryz.prog 148 Ir.1 Tryz.f148.ntmps:=aN.of Tryz.func148 Ir.2 rfl rfl (by kernel_rfl) Tryz.call148
noncomputable def Is:{q:QC × List QR // aX Tryz.progTables Tryz.f184=some q}:=⟨_,by conv=>lhs;cbv⟩
theorem ZL:aN Tryz.prog 184 Is.1 Tryz.f184.ntmps:=aN.of Tryz.func184 Is.2 rfl rfl (by kernel_rfl) Tryz.call184
noncomputable def Iu:{q:QC × List QR // aX Tryz.progTables Tryz.f188=some q}:=⟨_,by conv=>lhs;cbv⟩
theorem ZM:aN Tryz.prog 188 Iu.1 Tryz.f188.ntmps:=aN.of Tryz.func188 Iu.2 rfl rfl (by kernel_rfl) Tryz.call188
noncomputable def Iv:{q:QC × List QR // aX Tryz.progTables Tryz.f193=some q}:=⟨_,by conv=>lhs;cbv⟩
theorem ZN:aN Tryz.prog 193 Iv.1 Tryz.f193.ntmps:=aN.of Tryz.func193 Iv.2 rfl rfl (by kernel_rfl) Tryz.call193
noncomputable def Iw:{q:QC × List QR // aX Tryz.progTables Tryz.f201=some q}:=⟨_,by conv=>lhs;cbv⟩
theorem ZO:aN Tryz.prog 201 Iw.1 Tryz.f201.ntmps:=aN.of Tryz.func201 Iw.2 rfl rfl (by kernel_rfl) Tryz.call201
noncomputable def Ix:{q:QC × List QR // aX Tryz.progTables Tryz.f220=some q}:=⟨_,by conv=>lhs;cbv⟩
theorem ZP:aN Tryz.prog 220 Ix.1 Tryz.f220.ntmps:=aN.of Tryz.func220 Ix.2 rfl rfl (by kernel_rfl) Tryz.call220
noncomputable def Iy:{q:QC × List QR // aX Tryz.progTables Tryz.f228=some q}:=⟨_,by conv=>lhs;cbv⟩
theorem ZQ:aN Tryz.prog 228 Iy.1 Tryz.f228.ntmps:=aN.of Tryz.func228 Iy.2 rfl rfl (by kernel_rfl) Tryz.call228
noncomputable def Iz:{q:QC × List QR // aX Tryz.progTables Tryz.f270=some q}:=⟨_,by conv=>lhs;cbv⟩
theorem ZR:aN Tryz.prog 270 Iz.1 Tryz.f270.ntmps:=aN.of Tryz.func270 Iz.2 rfl rfl (by kernel_rfl) Tryz.call270
noncomputable def IA:{q:QC × List QR // aX Tryz.progTables Tryz.f276=some q}:=⟨_,by conv=>lhs;cbv⟩
theorem ZS:aN Tryz.prog 276 IA.1 Tryz.f276.ntmps:=aN.of Tryz.func276 IA.2 rfl rfl (by kernel_rfl) Tryz.call276
noncomputable def IB:{q:QC × List QR // aX Tryz.progTables Tryz.f301=some q}:=⟨_,by conv=>lhs;cbv⟩
theorem ZT:aN Tryz.prog 301 IB.1 Tryz.f301.ntmps:=aN.of Tryz.func301 IB.2 rfl rfl (by kernel_rfl) Tryz.call301
noncomputable def IC:{q:QC × List QR // aX Tryz.progTables Tryz.f326=some q}:=⟨_,by conv=>lhs;cbv⟩
theorem ZU:aN Tryz.prog 326 IC.1 Tryz.f326.ntmps:=aN.of Tryz.func326 IC.2 rfl rfl (by kernel_rfl) Tryz.call326
noncomputable def ID:{q:QC × List QR // aX Tryz.progTables Tryz.f349=some q}:=⟨_,by conv=>lhs;cbv⟩
theorem ZV:aN Tryz.prog 349 ID.1 Tryz.f349.ntmps:=aN.of Tryz.func349 ID.2 rfl rfl (by kernel_rfl) Tryz.call349
noncomputable def IE:{q:QC × List QR // aX Tryz.progTables Tryz.f375=some q}:=⟨_,by conv=>lhs;cbv⟩
theorem ZW:aN Tryz.prog 375 IE.1 Tryz.f375.ntmps:=aN.of Tryz.func375 IE.2 rfl rfl (by kernel_rfl) Tryz.call375
noncomputable def IF:{q:QC × List QR // aX Tryz.progTables Tryz.f424=some q}:=⟨_,by conv=>lhs;cbv⟩
theorem ZX:aN Tryz.prog 424 IF.1 Tryz.f424.ntmps:=aN.of Tryz.func424 IF.2 rfl rfl (by kernel_rfl) Tryz.call424
end
section
set_option maxRecDepth 100000
theorem mF (a:Int):eH a a=0:=by unfold eH;rw [if_neg (by omega),if_neg (by omega)]
theorem DS:∀ l:List UInt8,Op.bytesLess l l=false
 |[]=>rfl
 |x::l=>by
  simp only [Op.bytesLess]
  have:=DS l
  simp [this]
theorem Ba (a:ByteArray):sY a a=0:=by
 unfold sY
 rw [DS]
 simp
mutual
theorem Bb:∀ t:Tm,fy t t=0
 |⟨k,i,n,a⟩=>by
  have h:=nk a
  rw [fy]
  simp only [mF,Ba,h,cN,if_true]
  split<;>first|rfl|(split<;>rfl)
theorem nk:∀ l:List Tm,eW l l=0
 |[]=>by rw [eW];exact mF 0
 |x::l=>by rw [eW,Bb x,nk l];rfl
end
theorem y9:∀ l:List Int,kA l l=0
 |[]=>rfl
 |x::l=>by rw [kA,mF,y9 l];rfl
theorem od {T:Type}{p:T->T->Bool}(h:∀ x,p x x=true):∀ l,cR p l l=true
 |[]=>rfl
 |x::l=>by rw [cR,h x,od h l];rfl
theorem FK (s:dP):pb s s=true:=by
 unfold pb
 rw [od (fun x=>by unfold iy;rw [nk];simp),od (fun x=>by unfold nX rP;rw [nk,Ba,mF];simp [cN]),od (fun x=>by unfold nY;rw [Bb];simp),
  od (fun x=>by unfold nZ mc;rw [y9,mF,mF];simp [cN]),od (fun x=>by unfold iy;rw [nk];simp)]
 simp
end
end Go.Proofs.YtbofilglphfceaaGreat
