import Derived.Test.YtbofilglphfceaaGreatD48
namespace Go.Proofs.YtbofilglphfceaaGreat
set_option linter.unusedVariables false
set_option linter.unusedSimpArgs false
open Go.RowKit
section
set_option maxRecDepth 100000
attribute [local irreducible] ag aR aa ab
def KT:CF Tryz.f28:=⟨_,by conv=>lhs;cbv⟩
theorem RZ:bN Tryz.prog 28 KT.1 Tryz.f28.ntmps:=cd Tryz.func28 KT.2 Tryz.call28
def gp:List Nat:=[3,2,31,24,5,8,4,0,1,16,23,25,22,30,32,29,7,9,45]
def pd (b:Bool):List AV:=[.v (.bool b)]
theorem mo {ρ:Hd}{B sz fz:Nat}{s:List Bool}{ex:Bool}:rA B (.arr sz (ρ.h (List.map pd) s) fz ex):=HF fun x _ a ha=>by
 obtain rfl:=List.mem_singleton.1 ha
 exact .v
section
variable {w0:World}{ρ:Hd}
theorem td (s t:eN) (hs:jE s) (ht:jE t) (hlen:t.goals.length<=1000000):ag Tryz.prog w0 28 [l8 ρ s,l8 ρ t] (.v (.bool (gm s t))):=by
 have Dk:jE (ee s):=⟨by simp [ee],hs.st,hs.bl,hs.fl,hs.kl,by simp [ee],hs.sx,hs.bx,hs.fx,hs.kx⟩
 have Dl:jE (ee t):=⟨by simp [ee],ht.st,ht.bl,ht.fl,ht.kl,by simp [ee],ht.sx,ht.bx,ht.fx,ht.kx⟩
 have hS:=Ia (w0:=w0) (ρ:=ρ) (ee s) (ee t) Dk Dl
 have Dm:=fa (ρ:=ρ) (ee s)
 have Dn:=fa (ρ:=ρ) (ee t)
 obtain⟨R,hR⟩:∃ R,R=gm s t:=⟨_,rfl⟩
 rw [<-hR]
 unfold gm at hR
 generalize hZ:fV (ee s) (ee t)=Z at hS hR
 clear hZ
 have hl:=hs.gl
 have eD:=ht.gl
 have tE:=hs.gx
 have PQ:=ht.gx
 clear hs ht Dk Dl
 obtain⟨goals,store,binds,cn,known,next,fresh,failed⟩:=s
 obtain⟨cT,mW,mX,mY,mZ,next',iB,i_⟩:=t
 dsimp only [ee] at hR hS hl eD Dm Dn tE PQ hlen
 refine RZ.bc (by simp [Tryz.ntmps28]) (.v) ?_
 refine gq gp ?_
 repeat' (first
  |(refine bq (fun hb=>?_) (fun hb=>?_)<;>(try simp only [aJ] at hb)<;>(first|refine gq gp ?_))
  |(refine aS fun m hm=>?_;(try rw [aq] at hm);refine gq gp ?_)
  |(refine fq ?_))
 ·rw [hR,beq_eq_false_iff_ne.2 (by omega)];exact aT rfl
 have PR:goals.length=cT.length:=by omega
 rw [beq_iff_eq.2 PR,Bool.true_and] at hR
 clear PR
 obtain⟨M,hM⟩:∃ M,M=cT.length:=⟨_,rfl⟩
 refine ab.FM (m:=M) ρ pd false rfl rfl rfl (by omega) rfl (by omega) (by omega) fun R0 BU=>?_
 refine gq gp ?_
 refine ab.int rfl (aa.len rfl) fun ma TO=>?_;rw [aq] at TO
 refine gq gp ?_
 refine ab.cO (σ:=Int × List Bool) 3 3 [] (fun p=>[(2,.pt 0 8 0 0),(3,.pt 1 8 0 0),(5,.ob 2 1 0 M none),(22,gd ρ goals),(23,.v (.int .i64 ma)),(24,.v (.int .i64 p.1))]) []
  (fun p=>[(0,.arr 8 [pX ρ ⟨goals,store,binds,cn,known,next,fresh,failed⟩] 0 true),(1,.arr 8 [pX ρ ⟨cT,mW,mX,mY,mZ,next',iB,i_⟩] 0 true),(2,.arr 1 (ρ.h (List.map pd) p.2) 0 true)])
  (fun p=>∃ k:Nat,p.1=k/\k<=goals.length/\p.2.length=cT.length/\R=(jG (goals.drop k) (fH p.2 cT) && Z)) (fun p=>goals.length - p.1.toNat) (0,R0) ⟨0,rfl,by simp,by rw [BU,List.length_replicate,hM],by rw [BU,hM,wb];simpa using hR⟩ rfl (by exact⟨sq,rfl,⟨.inl ⟨_,rfl,.arr (by exact⟨kq,trivial⟩)⟩,⟨.inl ⟨_,rfl,.arr (by exact⟨kq,trivial⟩)⟩,⟨.inl ⟨_,rfl,.same mo⟩,trivial⟩⟩⟩,rfl,rfl,rfl⟩) ?_
 rintro⟨i,met⟩ ⟨k,hi,hk,KU,hp⟩
 simp only at hi KU hp
 clear hR BU
 refine gq gp ?_
 by_cases au:k < goals.length
 ·obtain⟨x,dR,bI⟩:=aU au
  have cC:=tE x (bO dR)
  have iA:=dS (ρ:=ρ) x
  have dW:=lE (ρ:=ρ) x
  rw [bI,Ie KU] at hp
  obtain⟨xo,xn,xa⟩:=x
  repeat' (first
   |(refine ab.op rfl (aa.ind rfl rfl (bg (l:=goals) hi dR) (ba fun _=>rfl)) ?_;refine gq gp ?_)
   |(refine ab.int rfl (aa.len rfl) fun mb TP=>?_;rw [aq] at TP;refine gq gp ?_)
   |(refine bq (fun hb=>?_) (fun hb=>?_)<;>(try simp only [aJ] at hb)<;>(first|refine gq gp ?_))
   |(refine ab.aK ?_;refine gq gp ?_)
   )
  all_goals first
   |(exfalso;omega)
   |skip
  refine ab.cO (σ:=Int) 4 4 [] (fun j=>[(2,.pt 0 8 0 0),(3,.pt 1 8 0 0),(5,.ob 2 1 0 M none),(7,.pt 3 3 0 0),(22,gd ρ goals),(23,.v (.int .i64 ma)),(24,.v (.int .i64 i)),(29,gd ρ cT),(30,.v (.int .i64 mb)),(31,.v (.int .i64 j))]) []
   (fun _=>[(0,.arr 8 [pX ρ ⟨goals,store,binds,cn,known,next,fresh,failed⟩] 0 true),(1,.arr 8 [pX ρ ⟨cT,mW,mX,mY,mZ,next',iB,i_⟩] 0 true),(2,.arr 1 (ρ.h (List.map pd) met) 0 true),(3,.arr 3 [tI ρ ⟨xo,xn,xa⟩] 0 true)])
   (fun j=>∃ q:Nat,j=q/\q<=cT.length/\R=(BQ (goals.drop (k+1)) met cT (kE ⟨xo,xn,xa⟩ (met.drop q) (cT.drop q) q) && Z)) (fun j=>cT.length - j.toNat) 0 ⟨0,rfl,by simp,by simpa using hp⟩ rfl (by exact⟨sq,rfl,⟨.inl ⟨_,rfl,.arr (by exact⟨kq,trivial⟩)⟩,⟨.inl ⟨_,rfl,.arr (by exact⟨kq,trivial⟩)⟩,⟨.inl ⟨_,rfl,.same mo⟩,⟨.inl ⟨_,rfl,.arr (by exact⟨kq,trivial⟩)⟩,trivial⟩⟩⟩⟩,rfl,rfl,rfl⟩) ?_
  rintro j ⟨q,hj,hq,jD⟩
  clear hp
  refine gq gp ?_
  by_cases qE:q < cT.length
  ·obtain⟨y,G2,dL⟩:=aU qE
   obtain⟨b,dJ,dE⟩:=aU (l:=met) (k:=q) (by omega)
   have ku:=PQ y (bO G2)
   have hyp:=dS (ρ:=ρ) y
   have Uc:=lE (ρ:=ρ) y
   have km:=sJ (w0:=w0) (ρ:=ρ) ⟨xo,xn,xa⟩ y ⟨cC.1.len,cC.1.1⟩ ⟨ku.1.len,ku.1.1⟩
   rw [dL,dE,kE] at jD
   generalize hB:aI ⟨xo,xn,xa⟩ y=B at km jD
   clear hB ku
   obtain⟨yo,yn,ya⟩:=y
   have TQ:(ρ.h (List.map pd) met)[q]?=some (pd b):=xJ dJ
   have R1:(ρ.h (List.map pd) met)[0+q]?=some (pd b):=by rw [Nat.zero_add];exact TQ
   cases b<;>cases B
   all_goals
    repeat' (first
     |(refine ab.op rfl (aa.ind rfl rfl (bg (l:=cT) hj G2) (ba fun _=>rfl)) ?_;refine gq gp ?_)
     |(refine ab.op rfl (aa.Ju rfl rfl hj (by omega)) ?_;refine ab.op rfl (aa.SL rfl rfl R1 rfl) ?_;refine gq gp ?_)
     |(refine ab.op rfl (aa.Ju rfl rfl hj (by omega)) ?_;refine ab.Qu (y:=true) rfl rfl rfl rfl rfl (fun _=>rfl) rfl (by omega) fun R2 Hx=>?_;refine gq gp ?_)
     |(refine ab.op rfl (aa.aB rfl km ⟨iA,hyp,trivial⟩) ?_;refine gq gp ?_)
     |(refine bq (fun hb=>?_) (fun hb=>?_)<;>(try simp only [aJ] at hb)<;>(first|refine gq gp ?_))
     |(refine cQ fun _ _=>?_;refine gq gp ?_)
     |(refine ab.aK ?_;refine gq gp ?_)
     |(refine ab.de ?_;refine gq gp ?_)
     |(refine fq ?_))
   all_goals first
    |(exfalso;omega)
    |skip
   all_goals first
    |(rw [if_neg (by simp)] at jD
      refine ab.cK (σ:=Int) _ [] ?_ ?_ (by exact⟨sq,rfl,⟨.inl ⟨_,rfl,.arr (by exact⟨kq,trivial⟩)⟩,⟨.inl ⟨_,rfl,.arr (by exact⟨kq,trivial⟩)⟩,⟨.inl ⟨_,rfl,.same mo⟩,⟨.inl ⟨_,rfl,.arr (by exact⟨kq,trivial⟩)⟩,trivial⟩⟩⟩⟩,rfl,rfl,rfl⟩)<;>first|omega|exact⟨q+1,by omega,by omega,jD⟩)
    |(rw [if_pos (by simp),BQ] at jD
      refine ab.cK (σ:=Int × List Bool) (_,R2) [] ?_ ?_ (by exact⟨sq,rfl,⟨.inl ⟨_,rfl,.arr (by exact⟨kq,trivial⟩)⟩,⟨.inl ⟨_,rfl,.arr (by exact⟨kq,trivial⟩)⟩,⟨.inl ⟨_,rfl,.same mo⟩,trivial⟩⟩⟩,rfl,rfl,rfl⟩)
      ·exact⟨k+1,by simp only;omega,by omega,by simp only;rw [Hx,List.length_set];exact KU,by simp only;rw [Hx,Nat.zero_add];exact jD⟩
      ·simp only;omega)
  ·rw [List.drop_eq_nil_of_le (show cT.length<=q by omega),List.drop_eq_nil_of_le (show met.length<=q by omega),Fp,BQ,Bool.false_and] at jD
   repeat' (first
    |(refine bq (fun hb=>?_) (fun hb=>?_)<;>(try simp only [aJ] at hb)<;>(first|refine gq gp ?_))
    |(refine ab.aK ?_;refine gq gp ?_)
    |(refine ab.de ?_;refine gq gp ?_)
    |(refine fq ?_))
   all_goals first
    |(exfalso;omega)
    |(rw [jD];exact aT rfl)
 ·rw [List.drop_eq_nil_of_le (by omega),jG,Bool.true_and] at hp
  repeat' (first
   |(refine ab.op rfl (aa.ea rfl hS ⟨Dm,Dn,trivial⟩ ⟨Wk.agg ⟨Wk.nil,.refl _,.refl _,.refl _,.refl _,.refl _,.refl _,.refl _,trivial⟩,Wk.agg ⟨Wk.nil,.refl _,.refl _,.refl _,.refl _,.refl _,.refl _,.refl _,trivial⟩,trivial⟩) ?_;refine gq gp ?_)
   |(refine bq (fun hb=>?_) (fun hb=>?_)<;>(try simp only [aJ] at hb)<;>(first|refine gq gp ?_))
   |(refine ab.aK ?_;refine gq gp ?_)
   |(refine fq ?_))
  all_goals first
   |(exfalso;omega)
   |(rw [hp];exact aT rfl)
end
end
end Go.Proofs.YtbofilglphfceaaGreat
