import Derived.Test.YtgphljokbodciaaGreatS46
import Derived.Test.YtgphljokbodciaaGreatS52
namespace Go.Proofs.YtgphljokbodciaaGreat
set_option linter.unusedVariables false
set_option linter.unusedSimpArgs false
open Go.RowKit
section
set_option maxRecDepth 100000
attribute [local irreducible] ah aV ad ab
def Yt:CF Tryz.f35:=⟨_,by conv=>lhs;cbv⟩
theorem agw:aD Tryz.prog 35 Yt.1 Tryz.f35.ntmps:=aO Tryz.func35 Yt.2 Tryz.call35
def pT:List Nat:=[3,5,4,0,1,2,24,29,40]
def Cw (x:Bd):Bool:=decide (cQ x.t<=60)
def zV (x:Fi):Bool:=decide (x.ids.length<=8)
def v9 (st:List Im) (b:List Bd) (f:List Fi):Bool:=decide (st.length<=9) && (decide (b.length<=20) && (decide (f.length<=30) && (st.all Ki && (b.all Cw && f.all zV))))
section
variable {w0:World}{ρ:Hd}
set_option maxHeartbeats 2000000 in
theorem UB (st:List Im) (b:List Bd) (f:List Fi) (jI:st.length<=1099511627776) (td:b.length<=1099511627776) (hfl:f.length<=1099511627776) (R_:∀ x ∈ st,x.ok) (mw:∀ x ∈ b,x.ok) (F9:∀ x ∈ f,x.ok):ah Tryz.prog w0 83 [fN ρ st,eL ρ b,gW ρ f] (.v (.bool (v9 st b f))):=by
 obtain⟨R,hR⟩:∃ R,R=v9 st b f:=⟨_,rfl⟩
 rw [<-hR]
 unfold v9 at hR
 refine agq.aH (by simp [Tryz.ntmps83]) (.v) ?_
 refine gq gG ?_
 repeat' (first
  |(refine bq (fun hb=>?_) (fun hb=>?_)<;>(try simp only [aq] at hb)<;>(first|refine gq gG ?_))
  |(refine az fun m hm=>?_;(try rw [af] at hm);refine gq gG ?_)
  |(refine fq ?_))
 all_goals first
  |(rw [hR,decide_eq_false (show ¬ st.length<=9 by omega)];exact aI rfl)
  |(refine aI ?_;rw [hR,decide_eq_false (show ¬ b.length<=20 by omega)];simp;done)
  |(refine aI ?_;rw [hR,decide_eq_false (show ¬ f.length<=30 by omega)];simp;done)
  |skip
 rw [decide_eq_true (show st.length<=9 by omega),decide_eq_true (show b.length<=20 by omega),decide_eq_true (show f.length<=30 by omega)] at hR
 simp only [Bool.true_and] at hR
 obtain⟨T2,rG⟩:∃ T,T=(b.all Cw && f.all zV):=⟨_,rfl⟩
 rw [<-rG] at hR
 refine ab.aP (σ:=Int) 0 0 [] (fun q=>[(0,fN ρ st),(1,eL ρ b),(2,gW ρ f),(7,.v (.int .i64 q))]) [] (fun _=>[]) (fun q=>∃ k:Nat,q=k/\k<=st.length/\R=((st.drop k).all Ki && T2)) (fun q=>st.length - q.toNat) 0 ⟨0,rfl,by simp,by simpa using hR⟩ rfl cq ?_
 rintro q ⟨k,hi,hk,hp⟩
 clear hR
 refine gq gG ?_
 by_cases au:k < st.length
 ·obtain⟨x,hx,aQ⟩:=aA au
  have dY:=R_ x (aZ hx)
  have hT:=Ez (w0:=w0) (ρ:=ρ) x.a dY.1.len dY.1.2
  rw [aQ,List.all_cons,Ki,Bool.and_assoc] at hp
  obtain⟨B,hB⟩:∃ B,B=ql x.a:=⟨_,rfl⟩
  rw [<-hB] at hp hT
  obtain⟨xi,xn,xa⟩:=x
  repeat' (first
   |(refine ab.op rfl (ad.ind rfl rfl (ay (l:=st) hi hx) (aw fun _=>rfl)) ?_;refine gq gG ?_)
   |(refine ab.bif rfl (ad.ag rfl hT ⟨bB _,trivial⟩) (fun _=>?_) (fun _=>?_)<;>refine gq gG ?_)
   |(refine bq (fun hb=>?_) (fun hb=>?_)<;>(try simp only [aq] at hb)<;>(first|refine gq gG ?_))
   |(refine az fun m hm=>?_;(try rw [af] at hm);refine gq gG ?_)
   |(refine aS fun _ _=>?_;refine gq gG ?_)
   |(refine ab.ao ?_;refine gq gG ?_)
   |(refine ab.bK ?_;refine gq gG ?_)
   |(refine fq ?_))
  all_goals first
   |(exfalso;omega)
   |(rw [hp,show B=false by assumption];exact aI rfl)
   |(rw [show B=true by assumption,Bool.true_and] at hp
     refine ab.aK (σ:=Int) _ [] ?_ ?_ cq<;>first|omega|exact⟨k+1,by omega,by omega,hp⟩)
 rw [List.drop_eq_nil_of_le (by omega),List.all_nil,Bool.true_and,rG] at hp
 clear rG
 repeat' (first
  |(refine bq (fun hb=>?_) (fun hb=>?_)<;>(try simp only [aq] at hb)<;>(first|refine gq gG ?_))
  |(refine az fun m hm=>?_;(try rw [af] at hm);refine gq gG ?_)
  |(refine ab.ao ?_;refine gq gG ?_)
  )
 all_goals first
  |(exfalso;omega)
  |skip
 obtain⟨T3,rH⟩:∃ T,T=f.all zV:=⟨_,rfl⟩
 rw [<-rH] at hp
 refine ab.aP (σ:=Int) 0 0 [] (fun q=>[(1,eL ρ b),(2,gW ρ f),(8,.v (.int .i64 q))]) [] (fun _=>[]) (fun q=>∃ k:Nat,q=k/\k<=b.length/\R=((b.drop k).all Cw && T3)) (fun q=>b.length - q.toNat) 0 ⟨0,rfl,by simp,by simpa using hp⟩ rfl cq ?_
 clear hp
 rintro q2 ⟨k2,nZ,dD,hp⟩
 refine gq gG ?_
 by_cases iM:k2 < b.length
 ·obtain⟨x,hx,aQ⟩:=aA iM
  have dY:=mw x (aZ hx)
  have hS:=wz (w0:=w0) (ρ:=ρ) _ x.t (Nat.le_refl _) dY.2
  rw [aQ,List.all_cons,Cw,Bool.and_assoc] at hp
  obtain⟨z,Fz⟩:∃ z,z=cQ x.t:=⟨_,rfl⟩
  rw [<-Fz] at hp hS
  have jb:=bf (ρ:=ρ) x.t
  clear Fz
  obtain⟨xv,xk,xi,xn,xa⟩:=x
  repeat' (first
   |(refine ab.op rfl (ad.ind rfl rfl (ay (l:=b) nZ hx) (aw fun _=>rfl)) ?_;refine gq gG ?_)
   |(refine ab.int rfl (ad.ag rfl hS ⟨jb,trivial⟩) fun _ _=>?_;refine gq gG ?_)
   |(refine bq (fun hb=>?_) (fun hb=>?_)<;>(try simp only [aq] at hb)<;>(first|refine gq gG ?_))
   |(refine az fun m hm=>?_;(try rw [af] at hm);refine gq gG ?_)
   |(refine aS fun _ _=>?_;refine gq gG ?_)
   |(refine ab.ao ?_;refine gq gG ?_)
   |(refine ab.bK ?_;refine gq gG ?_)
   |(refine fq ?_))
  all_goals first
   |(exfalso;omega)
   |(rw [hp,decide_eq_false (show ¬ z<=60 by omega)];exact aI rfl)
   |(rw [decide_eq_true (show z<=60 by omega),Bool.true_and] at hp
     refine ab.aK (σ:=Int) _ [] ?_ ?_ cq<;>first|omega|exact⟨k2+1,by omega,by omega,hp⟩)
 rw [List.drop_eq_nil_of_le (by omega),List.all_nil,Bool.true_and,rH] at hp
 clear rH
 repeat' (first
  |(refine bq (fun hb=>?_) (fun hb=>?_)<;>(try simp only [aq] at hb)<;>(first|refine gq gG ?_))
  |(refine az fun m hm=>?_;(try rw [af] at hm);refine gq gG ?_)
  |(refine ab.ao ?_;refine gq gG ?_)
  )
 all_goals first
  |(exfalso;omega)
  |skip
 refine ab.aP (σ:=Int) 0 0 [] (fun q=>[(2,gW ρ f),(9,.v (.int .i64 q))]) [] (fun _=>[]) (fun q=>∃ k:Nat,q=k/\k<=f.length/\R=(f.drop k).all zV) (fun q=>f.length - q.toNat) 0 ⟨0,rfl,by simp,by simpa using hp⟩ rfl cq ?_
 clear hp
 rintro q3 ⟨k3,uN,sf,hp⟩
 refine gq gG ?_
 by_cases kU:k3 < f.length
 ·obtain⟨x,hx,aQ⟩:=aA kU
  have dY:=F9 x (aZ hx)
  unfold Fi.ok at dY
  rw [aQ,List.all_cons,zV] at hp
  obtain⟨xr,ids⟩:=x
  dsimp only at hp dY
  repeat' (first
   |(refine ab.op rfl (ad.ind rfl rfl (ay (l:=f) uN hx) (aw fun _=>rfl)) ?_;refine gq gG ?_)
   |(refine bq (fun hb=>?_) (fun hb=>?_)<;>(try simp only [aq] at hb)<;>(first|refine gq gG ?_))
   |(refine az fun m hm=>?_;(try rw [af] at hm);refine gq gG ?_)
   |(refine aS fun _ _=>?_;refine gq gG ?_)
   |(refine ab.ao ?_;refine gq gG ?_)
   |(refine ab.bK ?_;refine gq gG ?_)
   |(refine fq ?_))
  all_goals first
   |(exfalso;omega)
   |(rw [hp,decide_eq_false (show ¬ ids.length<=8 by omega)];exact aI rfl)
   |(rw [decide_eq_true (show ids.length<=8 by omega),Bool.true_and] at hp
     refine ab.aK (σ:=Int) _ [] ?_ ?_ cq<;>first|omega|exact⟨k3+1,by omega,by omega,hp⟩)
 rw [List.drop_eq_nil_of_le (by omega),List.all_nil] at hp
 repeat' (first
  |(refine bq (fun hb=>?_) (fun hb=>?_)<;>(try simp only [aq] at hb)<;>(first|refine gq gG ?_))
  |(refine az fun m hm=>?_;(try rw [af] at hm);refine gq gG ?_)
  |(refine ab.ao ?_;refine gq gG ?_)
  |(refine fq ?_))
 all_goals first
  |(exfalso;omega)
  |(rw [hp];exact aI rfl)
end
end
section
set_option maxRecDepth 100000
attribute [local irreducible] ah aV ad ab
def zW (p:Pg) (c:eD):Bool:=zU p && (decide (c.stack.length<=16) && (v9 c.store c.binds c.b9 && c.stack.all fun x=>mF x.g))
section
variable {w0:World}{ρ:Hd}
theorem Yu (x:Gl) {ex:Bool}:Wk (.sl ex [CJ ρ x]) (dC ρ [x]):=by
 rw [dC,dE]
 exact Wk.sl
set_option maxHeartbeats 1000000 in
theorem OO (p:Pg) (c:eD) (lI:zE p) (hs:xy c):ah Tryz.prog w0 35 [pg ρ p,rL ρ c] (.v (.bool (zW p c))):=by
 have h1:=Kl (w0:=w0) (ρ:=ρ) p lI
 have h4:=UB (w0:=w0) (ρ:=ρ) c.store c.binds c.b9 hs.st hs.bl hs.fl hs.sx hs.bx hs.fx
 have lq:=mW (ρ:=ρ) p
 have ju:=j7 (ρ:=ρ) p
 have hcr:=uC (ρ:=ρ) c
 have zK:=hs.gl
 have hG:∀ x ∈ c.stack,ah Tryz.prog w0 48 [dC ρ [x.g],iv 1] (.v (.bool (mF x.g))):=fun x hx=>by
  have:=uF (w0:=w0) (ρ:=ρ) [x.g] 1 (by simp) fun y hy=>by
   obtain rfl:=List.mem_singleton.1 hy
   exact (hs.gx x hx).1
  simpa using this
 obtain⟨R,hR⟩:∃ R,R=zW p c:=⟨_,rfl⟩
 rw [<-hR]
 unfold zW at hR
 generalize zU p=A at h1 hR
 generalize v9 c.store c.binds c.b9=B at h4 hR
 clear hs lI
 obtain⟨ds,rs⟩:=p
 obtain⟨goals,store,binds,b9,next,fresh,failed⟩:=c
 dsimp only at hR h4 zK hG
 refine agw.aH (by simp [Tryz.ntmps35]) (.v) ?_
 refine gq pT ?_
 repeat' (first
  |(refine ab.bif rfl (ad.ag rfl h1 ⟨lq,trivial⟩) (fun _=>?_) (fun _=>?_)<;>refine gq pT ?_)
  |(refine ab.bif rfl (ad.ag rfl h4 ⟨ct _,b8 _,cN _,trivial⟩) (fun _=>?_) (fun _=>?_)<;>refine gq pT ?_)
  |(refine bq (fun hb=>?_) (fun hb=>?_)<;>(try simp only [aq] at hb)<;>(first|refine gq pT ?_))
  |(refine az fun m hm=>?_;(try rw [af] at hm);refine gq pT ?_)
  |(refine fq ?_))
 all_goals first
  |(refine aI ?_;rw [hR,show A=false by assumption];rfl)
  |(refine aI ?_;rw [hR,decide_eq_false (show ¬ goals.length<=16 by omega)];simp;done)
  |(refine aI ?_;rw [hR,show B=false by assumption];simp;done)
  |skip
 rw [show A=true by assumption,decide_eq_true (show goals.length<=16 by omega),show B=true by assumption,Bool.true_and,Bool.true_and,Bool.true_and] at hR
 refine ab.aP (σ:=Int) 2 2 [] (fun i=>[(2,.pt 0 2 0 0),(3,.pt 1 7 0 0),(5,.v (.int .i64 i))]) [] (fun _=>[(0,.arr 2 [iY ρ ⟨ds,rs⟩] 0 true),(1,.arr 7 [zM ρ ⟨goals,store,binds,b9,next,fresh,failed⟩] 0 true)])
  (fun i=>∃ k:Nat,i=k/\k<=goals.length/\R=(goals.drop k).all (fun x=>mF x.g)) (fun i=>goals.length - i.toNat) 0 ⟨0,rfl,by simp,by simpa using hR⟩ rfl (by exact⟨sq,rfl,⟨.inl ⟨_,rfl,.same fun row hr a ha=>by obtain rfl:=List.mem_singleton.1 hr;exact (ju a ha).bM⟩,.inl ⟨_,rfl,.same fun row hr a ha=>by obtain rfl:=List.mem_singleton.1 hr;exact (hcr a ha).bM⟩,trivial⟩,rfl,rfl,rfl⟩) ?_
 rintro i ⟨k,hi,hk,hp⟩
 clear hR
 refine gq pT ?_
 by_cases au:k < goals.length
 ·obtain⟨x,fO,aQ⟩:=aA au
  have hS:=hG x (aZ fO)
  rw [aQ,List.all_cons] at hp
  generalize mF x.g=T at hS hp
  obtain⟨⟨xo,xn,xa⟩,xi,xc⟩:=x
  repeat' (first
   |(refine ab.op rfl (ad.ind rfl rfl (ay (l:=goals) hi fO) (aw fun _=>rfl)) ?_;refine gq pT ?_)
   |(refine ab.bif rfl (ad.nt rfl hS ⟨cV _,.v,trivial⟩ ⟨Yu ⟨xo,xn,xa⟩,.refl _,trivial⟩) (fun _=>?_) (fun _=>?_)<;>refine gq pT ?_)
   |(refine bq (fun hb=>?_) (fun hb=>?_)<;>(try simp only [aq] at hb)<;>(first|refine gq pT ?_))
   |(refine az fun m hm=>?_;(try rw [af] at hm);refine gq pT ?_)
   |(refine aS fun _ _=>?_;refine gq pT ?_)
   |(refine ab.ao ?_;refine gq pT ?_)
   |(refine ab.bK ?_;refine gq pT ?_)
   |(refine fq ?_))
  all_goals first
   |(exfalso;omega)
   |(rw [hp,show T=false by assumption];exact aI rfl)
   |(rw [show T=true by assumption,Bool.true_and] at hp
     refine ab.aK (σ:=Int) _ [] ?_ ?_ (by exact⟨sq,rfl,⟨.inl ⟨_,rfl,.same fun row hr a ha=>by obtain rfl:=List.mem_singleton.1 hr;exact (ju a ha).bM⟩,.inl ⟨_,rfl,.same fun row hr a ha=>by obtain rfl:=List.mem_singleton.1 hr;exact (hcr a ha).bM⟩,trivial⟩,rfl,rfl,rfl⟩)<;>first|omega|exact⟨k+1,by omega,by omega,hp⟩)
 ·rw [List.drop_eq_nil_of_le (by omega),List.all_nil] at hp
  repeat' (first
   |(refine bq (fun hb=>?_) (fun hb=>?_)<;>(try simp only [aq] at hb)<;>(first|refine gq pT ?_))
   |(refine az fun m hm=>?_;(try rw [af] at hm);refine gq pT ?_)
   |(refine ab.ao ?_;refine gq pT ?_)
   |(refine fq ?_))
  all_goals first
   |(exfalso;omega)
   |(rw [hp];exact aI rfl)
end
end
section
set_option maxRecDepth 100000
attribute [local irreducible] ah aV ad ab
def Yv:CF Tryz.f11:=⟨_,by conv=>lhs;cbv⟩
theorem OP:aD Tryz.prog 11 Yv.1 Tryz.f11.ntmps:=aO Tryz.func11 Yv.2 Tryz.call11
def ni:List Nat:=[4,5,3,6,0,1,2,16]
theorem Mb {l:List Gl}{v:Int}(h1:l.length<=1099511627776) (h2:∀ x ∈ l,q9 x):xy (fP l v):=⟨by have:=mS (Nat.le_refl l.length);simp [fP];omega,by simp [fP],by simp [fP],by simp [fP],fun x hx=>by
 simp only [fP,List.mem_map] at hx
 obtain⟨p,hp,rfl⟩:=hx
 exact h2 _ (EA hp),by simp [fP],by simp [fP],by simp [fP]⟩
def qry (ρ:Hd) (l:List Gl) (v:Int):AV:=.agg [dC ρ l,iv v]
section
variable {w0:World}{ρ:Hd}
theorem Km (p:Pg) (c:eD) (l:List Gl) (v:Int) (lI:zE p) (hs:xy c) (fD:∀ r ∈ p.rs,BU r) (hn:(ep p.rs 0).length<=1099511627776) (hl:l.length<=1000000) (Yw:∀ x ∈ l,q9 x)
  (hO:ah Tryz.prog w0 125 [pg ρ p] (LX ρ (ep p.rs 0))) (h9:ah Tryz.prog w0 40 [] (.v (.bool true))) :
  ah Tryz.prog w0 11 [pg ρ p,rL ρ c,qry ρ l v] (.v (.bool true)):=by
 have lq:=mW (ρ:=ρ) p
 have v_:=wS (ρ:=ρ) c
 have hS:=OO (w0:=w0) (ρ:=ρ) p c lI hs
 have hG:=uF (w0:=w0) (ρ:=ρ) l 10 (by omega) fun x hx=>(Yw x hx).1
 have jI:=Mb (v:=v) (show l.length<=1099511627776 by omega) Yw
 have h1:=Ow (w0:=w0) (ρ:=ρ) l v hl
 have h2:=Ox (w0:=w0) (ρ:=ρ) l v hl
 have h3:=GJ (w0:=w0) (ρ:=ρ) _ _ jI jI
 have h4:=L8 (w0:=w0) (ρ:=ρ) p c lI hs hn hO
 have h5:=L5 (w0:=w0) (ρ:=ρ) p c lI hs fD hn
 have h6:=GI (w0:=w0) (ρ:=ρ) c c hs hs
 have h7:=GI (w0:=w0) (ρ:=ρ) c _ hs jI
 have h8:=GJ (w0:=w0) (ρ:=ρ) c _ hs jI
 have dT:=Xv (w0:=w0) (ρ:=ρ) c hs.gl
 have ey:=Xw (w0:=w0) (ρ:=ρ) c hs.gl
 have Mc:=wS (ρ:=ρ) (fP l v)
 have BY:=cV (ρ:=ρ) l
 rw [Kk] at h3 h6
 rw [<-Kj] at h5
 generalize qy p c=R at h4 h5
 generalize qk c (fP l v)=Q at h7 h8
 generalize fP l v=sv at h1 h2 h3 h7 h8 Mc
 generalize zN c=D at dT ey
 generalize zW p c=SM at hS
 generalize (decide ((l.length:Int)<=10) && l.all mF)=GB at hG
 clear jI lI hs fD hO hn hl Yw
 obtain⟨ds,rs⟩:=p
 obtain⟨sk,st,b,f,nx,fr,fa⟩:=c
 obtain⟨gk,gst,gb,gf,gnx,gfr,gfa⟩:=sv
 cases SM with
 |false =>
  refine OP.aH (by simp [Tryz.ntmps11]) (.v) ?_
  refine gq ni ?_
  repeat' (first
   |(refine ab.op rfl (ad.ag rfl hS (by exact⟨lq,v_,trivial⟩)) ?_;refine gq ni ?_)
   |(refine fq ?_))
  all_goals exact aI rfl
 |true =>
  cases GB with
  |false =>
   refine OP.aH (by simp [Tryz.ntmps11]) (.v) ?_
   refine gq ni ?_
   repeat' (first
    |(refine ab.op rfl (ad.ag rfl hS (by exact⟨lq,v_,trivial⟩)) ?_;refine gq ni ?_)
    |(refine ab.op rfl (ad.ag rfl hG (by exact⟨BY,.v,trivial⟩)) ?_;refine gq ni ?_)
    |(refine fq ?_))
   all_goals exact aI rfl
  |true =>
   cases R<;>cases Q<;>cases D
   all_goals
    refine OP.aH (by simp [Tryz.ntmps11]) (.v) ?_
    refine gq ni ?_
    repeat' (first
     |(refine ab.op rfl (ad.ag rfl hS (by exact⟨lq,v_,trivial⟩)) ?_;refine gq ni ?_)
     |(refine ab.op rfl (ad.ag rfl hG (by exact⟨BY,.v,trivial⟩)) ?_;refine gq ni ?_)
     |(refine ab.op rfl (ad.ag rfl h1 (by exact⟨BY,.v,trivial⟩)) ?_;refine gq ni ?_)
     |(refine ab.op rfl (ad.ag rfl h2 (by exact⟨BY,.v,trivial⟩)) ?_;refine gq ni ?_)
     |(refine ab.op rfl (ad.ag rfl h3 (by exact⟨Mc,Mc,trivial⟩)) ?_;refine gq ni ?_)
     |(refine ab.op rfl (ad.ag rfl h4 (by exact⟨lq,v_,trivial⟩)) ?_;refine gq ni ?_)
     |(refine ab.op rfl (ad.ag rfl h5 (by exact⟨lq,v_,trivial⟩)) ?_;refine gq ni ?_)
     |(refine ab.op rfl (ad.ag rfl dT (by exact⟨v_,trivial⟩)) ?_;refine gq ni ?_)
     |(refine ab.op rfl (ad.ag rfl ey (by exact⟨v_,trivial⟩)) ?_;refine gq ni ?_)
     |(refine ab.op rfl (ad.ag rfl h6 (by exact⟨v_,v_,trivial⟩)) ?_;refine gq ni ?_)
     |(refine ab.op rfl (ad.ag rfl h7 (by exact⟨v_,Mc,trivial⟩)) ?_;refine gq ni ?_)
     |(refine ab.op rfl (ad.ag rfl h8 (by exact⟨v_,Mc,trivial⟩)) ?_;refine gq ni ?_)
     |(refine ab.op rfl (ad.ag rfl h9 trivial) ?_;refine gq ni ?_)
     |(refine bq (fun hb=>?_) (fun hb=>?_)<;>(try simp only [aq] at hb)<;>(first|exact absurd hb (by decide)|refine gq ni ?_))
     |(refine fq ?_))
    all_goals exact aI rfl
end
end
end Go.Proofs.YtgphljokbodciaaGreat
