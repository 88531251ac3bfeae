import Derived.Test.YtbofilglphfceaaGreatQ26
import Derived.Test.YtbofilglphfceaaGreatQ34
namespace Go.Proofs.YtbofilglphfceaaGreat
set_option linter.unusedVariables false
set_option linter.unusedSimpArgs false
open Go.RowKit
section
set_option maxRecDepth 100000
attribute [local irreducible] ah bc ad ab
def PA:CF Tryz.f199:=⟨_,by conv=>lhs;cbv⟩
theorem Yv:aH Tryz.prog 199 PA.1 Tryz.f199.ntmps:=aQ Tryz.func199 PA.2 Tryz.call199
def Mc:List Nat:=[0,1,3]
def PC:CF Tryz.f111:=⟨_,by conv=>lhs;cbv⟩
theorem Yw:aH Tryz.prog 111 PC.1 Tryz.f111.ntmps:=aQ Tryz.func111 PC.2 Tryz.call111
def UH:List Nat:=[4,0,1,2]
def PD:CF Tryz.f113:=⟨_,by conv=>lhs;cbv⟩
theorem Yx:aH Tryz.prog 113 PD.1 Tryz.f113.ntmps:=aQ Tryz.func113 PD.2 Tryz.call113
def UI:List Nat:=[1,2,0]
def UJ:CF Tryz.f48:=⟨_,by conv=>lhs;cbv⟩
theorem abU:aH Tryz.prog 48 UJ.1 Tryz.f48.ntmps:=aQ Tryz.func48 UJ.2 Tryz.call48
def AN:List Nat:=[3,0,4,1]
def UK:CF Tryz.f50:=⟨_,by conv=>lhs;cbv⟩
theorem abV:aH Tryz.prog 50 UK.1 Tryz.f50.ntmps:=aQ Tryz.func50 UK.2 Tryz.call50
def Fj:List Nat:=[3,0,4,1]
def UL:CF Tryz.f51:=⟨_,by conv=>lhs;cbv⟩
theorem abW:aH Tryz.prog 51 UL.1 Tryz.f51.ntmps:=aQ Tryz.func51 UL.2 Tryz.call51
def J3:List Nat:=[3,4,1,0]
def PE (ρ:Hd) (p:Pg) (s:dP):List AV:=[dG ρ p.ds,Ep ρ p.rs,cO ρ s.goals,fJ ρ s.store,eJ ρ s.binds,gO ρ s.cg,cO ρ s.known,iv s.next,iv s.fresh,.v (.bool s.failed),.mp 1]
def ny (ρ:Hd) (p:Pg) (s:dP):Ob:=.arr 11 [PE ρ p s] 0 true
def mB (ρ:Hd) (kv:List (Int × Bool)):Ob:=.mp (ρ.h (ku fB) kv)
def UM:Ob:=.arr 1 [[.pt 0 11 0 0]] 0 true
def uW (o:Int):Bool:=decide (1<=o) && decide (o<=4)
section
variable {w0:World}{ρ:Hd}
theorem m_ {N:Nat}(h:2<=N) (p:Pg) (s:dP):nv N (ny ρ p s):=by
 refine⟨fun row hr a ha=>?_,fun J h=>by cases h⟩
 obtain rfl:=List.mem_singleton.1 hr
 simp only [PE,List.mem_cons,List.not_mem_nil,or_false] at ha
 rcases ha with rfl|rfl|rfl|rfl|rfl|rfl|rfl|rfl|rfl|rfl|rfl
 ·exact (bU _).b_
 ·exact (kH _).b_
 ·exact (bw _).b_
 ·exact (cb _).b_
 ·exact (bT _).b_
 ·exact (cJ _).b_
 ·exact (bw _).b_
 ·exact .v
 ·exact .v
 ·exact .v
 ·exact .mp (by omega)
theorem na {N:Nat}(s:List (Int × Bool)):nv N (mB ρ s):=⟨pJ,fun J h=>by cases h⟩
theorem J4:nv 3 UM:=⟨fun row hr a ha=>by
 obtain rfl:=List.mem_singleton.1 hr
 obtain rfl:=List.mem_singleton.1 ha
 exact .pt (by decide),fun J h=>by cases h⟩
theorem Rm (p:Pg) (s:dP) (bs:List Int) (v:Int):bc Tryz.prog w0 199 [iv v,.pt 2 1 0 0] (aM [(0,ny ρ p s),(1,mB ρ (eX bs)),(2,UM)] 3) (.v (.bool (decide (s.fresh<=v) || bs.contains v))) (aM [(0,ny ρ p s),(1,mB ρ (eX bs)),(2,UM)] 3):=by
 have k0:=m_ (ρ:=ρ) (N:=3) (by decide) p s
 have k1:=na (ρ:=ρ) (N:=3) (eX bs)
 have k2:=J4
 obtain⟨R,hR⟩:∃ R,R=(decide (s.fresh<=v) || bs.contains v):=⟨_,rfl⟩
 rw [<-hR]
 obtain⟨ds,rs⟩:=p
 obtain⟨goals,store,binds,cg,known,next,fresh,failed⟩:=s
 dsimp only at hR
 have yE:=uE bs v
 unfold mB ny at *
 obtain⟨kv,jj⟩:∃ kv,kv=eX bs:=⟨_,rfl⟩
 rw [<-jj] at yE k1 ⊢
 refine aH.jM 3 3 _ Yv (by simp [Tryz.ntmps199]) rfl rfl ?_
 refine gq Mc ?_
 repeat' (first
  |((refine ab.look rfl rfl rfl rfl (fun x hx=>?_) (fun hx=>?_)<;>refine gq Mc ?_))
  |(refine bq (fun hb=>?_) (fun hb=>?_)<;>(try simp only [aq] at hb)<;>(first|refine gq Mc ?_))
  |(refine fq ?_))
 all_goals first
  |(rw [show R=true by rw [hR,decide_eq_true (by omega)];rfl];exact⟨[],.aD .v,⟨.inl ⟨_,rfl,.same k0.1⟩,.inl ⟨_,rfl,.same k1.1⟩,.inl ⟨_,rfl,.same k2.1⟩,trivial⟩,rfl⟩)
  |skip
 ·rw [hx] at yE
  have hc:bs.contains v=true:=by
   cases hc:bs.contains v with
   |true=>rfl
   |false=>rw [if_neg (by rw [hc];simp)] at yE;cases yE
  rw [if_pos hc] at yE
  obtain rfl:=Option.some.inj yE
  rw [show R=true by rw [hR,hc,Bool.or_true]]
  exact⟨[],.aD .v,⟨.inl ⟨_,rfl,.same k0.1⟩,.inl ⟨_,rfl,.same k1.1⟩,.inl ⟨_,rfl,.same k2.1⟩,trivial⟩,rfl⟩
 ·rw [hx] at yE
  have hc:bs.contains v=false:=by
   cases hc:bs.contains v with
   |true=>rw [if_pos hc] at yE;cases yE
   |false=>rfl
  rw [show R=false by rw [hR,hc,decide_eq_false (by omega)];rfl]
  exact⟨[],.aD .v,⟨.inl ⟨_,rfl,.same k0.1⟩,.inl ⟨_,rfl,.same k1.1⟩,.inl ⟨_,rfl,.same k2.1⟩,trivial⟩,rfl⟩
theorem Ro (vs:List Int) (fresh:Int) (b:List Bd) (bs:List Int) (kS:∀ v,bs.contains v=e7 b v):er vs fresh b=!vs.any fun v=>decide (fresh<=v) || bs.contains v:=by
 unfold er
 induction vs with
 |nil=>rfl
 |cons v vs ih =>
  rw [List.all_cons,List.any_cons,ih,kS v,Bool.not_or,Bool.not_or]
  congr 2
  rw [Bool.eq_iff_iff]
  simp
theorem C5 (p:Pg) (s:dP) (bs:List Int) (kS:∀ v,bs.contains v=e7 s.binds v) (vs:List Int) (hv:vs.length<=1099511627776):bc Tryz.prog w0 111 [.pt 0 11 0 0,b8 ρ bF false vs] (aM [(0,ny ρ p s),(1,mB ρ (eX bs))] 2) (.v (.bool (er vs s.fresh s.binds))) (aM [(0,ny ρ p s),(1,mB ρ (eX bs))] 2):=by
 have k0:=m_ (ρ:=ρ) (N:=3) (by decide) p s
 have k1:=na (ρ:=ρ) (N:=3) (eX bs)
 have k2:=J4
 have q0:=m_ (ρ:=ρ) (N:=2) (by decide) p s
 have q1:=na (ρ:=ρ) (N:=2) (eX bs)
 have hF:dH 3 (.fn (.func 199) [] [.pt 2 1 0 0]):=.fn (fun a ha=>by cases ha) fun a ha=>by obtain rfl:=List.mem_singleton.1 ha;exact .pt (by decide)
 have hC:=abC (w0:=w0) (ρ:=ρ) k0 k1 k2 (fun v=>decide (s.fresh<=v) || bs.contains v) vs _ _ _ hv hF fun x _=>⟨_,_,rfl,fun a ha=>by simp only [List.mem_cons,List.nil_append,List.append_nil,List.cons_append,List.not_mem_nil,or_false] at ha;rcases ha with rfl|rfl;exact .v;exact .pt (by decide),Rm p s bs x⟩
 rw [Ro vs s.fresh s.binds bs kS]
 obtain⟨B,hB⟩:∃ B,B=vs.any fun v=>decide (s.fresh<=v) || bs.contains v:=⟨_,rfl⟩
 rw [<-hB] at hC ⊢
 clear hB kS
 obtain⟨o0,C6⟩:∃ o,o=ny ρ p s:=⟨_,rfl⟩
 obtain⟨o1,C7⟩:∃ o,o=mB ρ (eX bs):=⟨_,rfl⟩
 rw [<-C6,<-C7] at hC ⊢
 rw [<-C6] at k0 q0
 rw [<-C7] at k1 q1
 clear C6 C7
 refine aH.jM 2 2 _ Yw (by simp [Tryz.ntmps111]) rfl rfl ?_
 refine gq UH ?_
 repeat' (first
  |(refine ab.a_ rfl (ad.vM hC rfl (zF rfl rfl rfl rfl k0 k1 k2) (fun a ha=>by simp only [List.mem_cons,List.not_mem_nil,or_false] at ha;rcases ha with rfl|rfl;exact Pure.b_ (bQ _);exact hF) .v) (fun _=>?_) (fun _=>?_)<;>refine gq UH ?_)
  |(refine fq ?_))
 all_goals (rw [show B=_ by assumption];exact⟨[],.aD .v,⟨.inl ⟨_,rfl,.same q0.1⟩,.inl ⟨_,rfl,.same q1.1⟩,trivial⟩,rfl⟩)
theorem Rp (x:Gl):ah Tryz.prog w0 113 [gl ρ x] (.v (.bool (uW x.op))):=by
 obtain⟨o,n,a⟩:=x
 refine Yx.aG (by simp [Tryz.ntmps113]) (.v) ?_
 refine gq UI ?_
 repeat' (first
  |(refine bq (fun hb=>?_) (fun hb=>?_)<;>(try simp only [aq] at hb)<;>(first|refine gq UI ?_))
  |(refine fq ?_))
 all_goals (subst_vars;refine aC ?_;rw [uW,Bool.eq_iff_iff];simp;omega)
end
end
section
set_option maxRecDepth 100000
attribute [local irreducible] ah bc ad ab
def C8 (p x:Fi):Bool:=decide (mc p x < 0)
theorem yF (l:List Fi):gW l=(decide ((l.length:Int)<=5000) && ij mX C8 none l):=rfl
section
variable {w0:World}{ρ:Hd}
theorem J5 (l:List Fi) (hl:l.length<=1099511627776) (mu:∀ x ∈ l,x.ok):ah Tryz.prog w0 46 [gO ρ l] (.v (.bool (gW l))):=by
 obtain⟨R,hR⟩:∃ R,R=gW l:=⟨_,rfl⟩
 rw [<-hR]
 rw [yF] at hR
 refine abF.aG (by simp [Tryz.ntmps46]) (.v) ?_
 refine gq mz ?_
 repeat' (first
  |(refine bq (fun hb=>?_) (fun hb=>?_)<;>(try simp only [aq] at hb)<;>(first|refine gq mz ?_))
  |(refine aB fun m hm=>?_;(try rw [af] at hm);refine gq mz ?_)
  |(refine fq ?_))
 ·refine aC ?_;rw [hR,decide_eq_false (by omega)];rfl
 rw [decide_eq_true (by omega),Bool.true_and] at hR
 refine ab.aP (σ:=Int) 0 0 [] (fun i=>[(0,gO ρ l),(8,.v (.int .i64 m)),(9,.v (.int .i64 i))]) [] (fun _=>[])
  (fun i=>∃ (k:Nat) (pr:Option Fi),i=k/\k<=l.length/\R=ij mX C8 pr (l.drop k)/\su l k pr) (fun i=>l.length - i.toNat) 0 ⟨0,none,rfl,by simp,by simpa using hR,.inl ⟨rfl,rfl⟩⟩ rfl cq ?_
 rintro i ⟨k,pr,hi,dS,hp,mY⟩
 clear hR
 refine gq mz ?_
 by_cases au:k < l.length
 ·obtain⟨x,hx,aO⟩:=az au
  rw [aO,ja] at hp
  have hV:=LU (w0:=w0) (ρ:=ρ) x (mu x (aY hx))
  obtain⟨V,CJ⟩:∃ V,V=mX x:=⟨_,rfl⟩
  rw [<-CJ] at hV hp
  obtain⟨xr,xs⟩:=x
  rcases mY with ⟨rfl,rfl⟩|⟨⟨yr,ys⟩,Ud,hy,rfl⟩
  ·simp only [rh,Bool.and_true] at hp
   repeat' (first
    |(refine ab.op rfl (ad.ind rfl rfl (ay (l:=l) hi hx) (aw fun _=>rfl)) ?_;refine gq mz ?_)
    |(refine ab.a_ rfl (ad.ag rfl hV ⟨eu (ρ:=ρ) ⟨xr,xs⟩,trivial⟩) (fun _=>?_) (fun _=>?_)<;>refine gq mz ?_)
    |(refine bq (fun hb=>?_) (fun hb=>?_)<;>(try simp only [aq] at hb)<;>(first|refine gq mz ?_))
    |(refine aS fun _ _=>?_;refine gq mz ?_)
    |(refine ab.ao ?_;refine gq mz ?_)
    |(refine ab.bJ ?_;refine gq mz ?_)
    |(refine fq ?_))
   all_goals first
    |(exfalso;omega)
    |(refine aC ?_;rw [hp,show V=false by assumption];rfl)
    |(refine ab.aL (σ:=Int) _ [] ?_ ?_ cq
      ·refine⟨0+1,some ⟨xr,xs⟩,by omega,by omega,?_,eS hx⟩
       rw [hp,show V=true by assumption];rfl
      ·omega)
  ·have hC:=JC (w0:=w0) (ρ:=ρ) ⟨yr,ys⟩ ⟨xr,xs⟩ (mu _ (aY hy)) (mu _ (aY hx))
   simp only [rh,C8] at hp
   obtain⟨C,JD⟩:∃ C,C=mc ⟨yr,ys⟩ ⟨xr,xs⟩:=⟨_,rfl⟩
   rw [<-JD] at hC hp
   repeat' (first
    |(refine ab.op rfl (ad.ind rfl rfl (ay (l:=l) hi hx) (aw fun _=>rfl)) ?_;refine gq mz ?_)
    |(refine ab.op rfl (ad.ind rfl rfl (ay (l:=l) (k:=k - 1) (by omega) hy) (aw fun _=>rfl)) ?_;refine gq mz ?_)
    |(refine ab.a_ rfl (ad.ag rfl hV ⟨eu (ρ:=ρ) ⟨xr,xs⟩,trivial⟩) (fun _=>?_) (fun _=>?_)<;>refine gq mz ?_)
    |(refine ab.int rfl (ad.ag rfl hC ⟨eu (ρ:=ρ) ⟨yr,ys⟩,eu (ρ:=ρ) ⟨xr,xs⟩,trivial⟩) fun _ _=>?_;refine gq mz ?_)
    |(refine bq (fun hb=>?_) (fun hb=>?_)<;>(try simp only [aq] at hb)<;>(first|refine gq mz ?_))
    |(refine aS fun _ _=>?_;refine gq mz ?_)
    |(refine ab.ao ?_;refine gq mz ?_)
    |(refine ab.bJ ?_;refine gq mz ?_)
    |(refine fq ?_))
   all_goals first
    |(exfalso;omega)
    |(refine aC ?_;rw [hp,show V=false by assumption];rfl)
    |(refine aC ?_;rw [hp,decide_eq_false (show ¬ C < 0 by omega)];simp;done)
    |(refine ab.aL (σ:=Int) _ [] ?_ ?_ cq
      ·refine⟨k+1,some ⟨xr,xs⟩,by omega,by omega,?_,eS hx⟩
       rw [hp,show V=true by assumption,decide_eq_true (show C < 0 by omega)];rfl
      ·omega)
 ·skip
  repeat' (first
   |(refine bq (fun hb=>?_) (fun hb=>?_)<;>(try simp only [aq] at hb)<;>(first|refine gq mz ?_))
   |(refine ab.ao ?_;refine gq mz ?_)
   |(refine fq ?_))
  all_goals first
   |(exfalso;omega)
   |(rw [hp,List.drop_eq_nil_of_le (by omega),ll];exact aC rfl)
theorem J6 (l:List Fi) (hl:l.length<=1099511627776) (mu:∀ x ∈ l,x.ok):ah Tryz.prog w0 125 [gO ρ l] (.v (.bool (gW l))):=by
 obtain⟨R,hR⟩:∃ R,R=gW l:=⟨_,rfl⟩
 rw [<-hR]
 rw [yF] at hR
 refine X4.aG (by simp [Tryz.ntmps125]) (.v) ?_
 refine gq im ?_
 repeat' (first
  |(refine bq (fun hb=>?_) (fun hb=>?_)<;>(try simp only [aq] at hb)<;>(first|refine gq im ?_))
  |(refine aB fun m hm=>?_;(try rw [af] at hm);refine gq im ?_)
  |(refine fq ?_))
 ·refine aC ?_;rw [hR,decide_eq_false (by omega)];rfl
 rw [decide_eq_true (by omega),Bool.true_and] at hR
 refine ab.aP (σ:=Int) 0 0 [] (fun i=>[(0,gO ρ l),(3,.v (.int .i64 i))]) [] (fun _=>[])
  (fun i=>∃ (k:Nat) (pr:Option Fi),i=k/\k<=l.length/\R=ij mX C8 pr (l.drop k)/\su l k pr) (fun i=>l.length - i.toNat) 0 ⟨0,none,rfl,by simp,by simpa using hR,.inl ⟨rfl,rfl⟩⟩ rfl cq ?_
 rintro i ⟨k,pr,hi,dS,hp,mY⟩
 clear hR
 refine gq im ?_
 by_cases au:k < l.length
 ·obtain⟨x,hx,aO⟩:=az au
  rw [aO,ja] at hp
  have hV:=Ri (w0:=w0) (ρ:=ρ) x (mu x (aY hx))
  obtain⟨V,CJ⟩:∃ V,V=mX x:=⟨_,rfl⟩
  rw [<-CJ] at hV hp
  obtain⟨xr,xs⟩:=x
  rcases mY with ⟨rfl,rfl⟩|⟨⟨yr,ys⟩,Ud,hy,rfl⟩
  ·simp only [rh,Bool.and_true] at hp
   repeat' (first
    |(refine ab.op rfl (ad.ind rfl rfl (ay (l:=l) hi hx) (aw fun _=>rfl)) ?_;refine gq im ?_)
    |(refine ab.a_ rfl (ad.ag rfl hV ⟨eu (ρ:=ρ) ⟨xr,xs⟩,trivial⟩) (fun _=>?_) (fun _=>?_)<;>refine gq im ?_)
    |(refine bq (fun hb=>?_) (fun hb=>?_)<;>(try simp only [aq] at hb)<;>(first|refine gq im ?_))
    |(refine aB fun m hm=>?_;(try rw [af] at hm);refine gq im ?_)
    |(refine aS fun _ _=>?_;refine gq im ?_)
    |(refine ab.ao ?_;refine gq im ?_)
    |(refine ab.bJ ?_;refine gq im ?_)
    |(refine fq ?_))
   all_goals first
    |(exfalso;omega)
    |(refine aC ?_;rw [hp,show V=false by assumption];rfl)
    |(refine ab.aL (σ:=Int) _ [] ?_ ?_ cq
      ·refine⟨0+1,some ⟨xr,xs⟩,by omega,by omega,?_,eS hx⟩
       rw [hp,show V=true by assumption];rfl
      ·omega)
  ·have hC:=JE (w0:=w0) (ρ:=ρ) ⟨yr,ys⟩ ⟨xr,xs⟩ (mu _ (aY hy)) (mu _ (aY hx))
   simp only [rh,C8] at hp
   obtain⟨C,JD⟩:∃ C,C=mc ⟨yr,ys⟩ ⟨xr,xs⟩:=⟨_,rfl⟩
   rw [<-JD] at hC hp
   repeat' (first
    |(refine ab.op rfl (ad.ind rfl rfl (ay (l:=l) hi hx) (aw fun _=>rfl)) ?_;refine gq im ?_)
    |(refine ab.op rfl (ad.ind rfl rfl (ay (l:=l) (k:=k - 1) (by omega) hy) (aw fun _=>rfl)) ?_;refine gq im ?_)
    |(refine ab.a_ rfl (ad.ag rfl hV ⟨eu (ρ:=ρ) ⟨xr,xs⟩,trivial⟩) (fun _=>?_) (fun _=>?_)<;>refine gq im ?_)
    |(refine ab.int rfl (ad.ag rfl hC ⟨eu (ρ:=ρ) ⟨yr,ys⟩,eu (ρ:=ρ) ⟨xr,xs⟩,trivial⟩) fun _ _=>?_;refine gq im ?_)
    |(refine bq (fun hb=>?_) (fun hb=>?_)<;>(try simp only [aq] at hb)<;>(first|refine gq im ?_))
    |(refine aB fun m hm=>?_;(try rw [af] at hm);refine gq im ?_)
    |(refine aS fun _ _=>?_;refine gq im ?_)
    |(refine ab.ao ?_;refine gq im ?_)
    |(refine ab.bJ ?_;refine gq im ?_)
    |(refine fq ?_))
   all_goals first
    |(exfalso;omega)
    |(refine aC ?_;rw [hp,show V=false by assumption];rfl)
    |(refine aC ?_;rw [hp,decide_eq_false (show ¬ C < 0 by omega)];simp;done)
    |(refine ab.aL (σ:=Int) _ [] ?_ ?_ cq
      ·refine⟨k+1,some ⟨xr,xs⟩,by omega,by omega,?_,eS hx⟩
       rw [hp,show V=true by assumption,decide_eq_true (show C < 0 by omega)];rfl
      ·omega)
 ·skip
  repeat' (first
   |(refine bq (fun hb=>?_) (fun hb=>?_)<;>(try simp only [aq] at hb)<;>(first|refine gq im ?_))
   |(refine aB fun m hm=>?_;(try rw [af] at hm);refine gq im ?_)
   |(refine ab.ao ?_;refine gq im ?_)
   |(refine fq ?_))
  all_goals first
   |(exfalso;omega)
   |(rw [hp,List.drop_eq_nil_of_le (by omega),ll];exact aC rfl)
end
end
end Go.Proofs.YtbofilglphfceaaGreat
