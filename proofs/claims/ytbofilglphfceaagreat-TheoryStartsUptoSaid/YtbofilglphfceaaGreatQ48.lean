import Derived.Test.YtbofilglphfceaaGreatQ47
namespace Go.Proofs.YtbofilglphfceaaGreat
set_option linter.unusedVariables false
set_option linter.unusedSimpArgs false
open Go.RowKit
section
set_option maxRecDepth 100000
attribute [local irreducible] ah bc ad ab
def tE:List Int->Nat->Int
 |[],_=>0
 |v::l,k=>bh (bW (decide (v=k)) 2) (tE l (k+1))
def qL (r:Rl):List Int:=varsOf (dA (r.aV++r.rem)++iG (r.guard++r.body))
def rI (ds:List Dc) (r:Rl):Int:=bh (bW (yC r) 6) (bh (aI o7 (r.aV++r.rem)) (bh (aI oB (r.guard++r.body)) (bh (tE (qL r) 0) (bh (bW (decide (r.vars=(qL r).length)) 2) (bh (bW (r.n.toList == (⟨#[]⟩:ByteArray).toList || gk r.n) 7) (oc ds r))))))
section
variable {w0:World}{ρ:Hd}
set_option maxHeartbeats 4000000 in
theorem RE (ds:List Dc) (r:Rl) (hd:ds.length<=1099511627776) (hr:tV r) (hs:Ah r):ah Tryz.prog w0 122 [dG ρ ds,rl ρ r] (iv (rI ds r)):=by
 have hH:=vQ (w0:=w0) (ρ:=ρ) r hs.h
 have hG:=zO (w0:=w0) (ρ:=ρ) r hs.g
 have hV:=Hn (w0:=w0) (ρ:=ρ) r hs.h hs.g hs.a hs.k hs.v
 have hVl:(qL r).length<=1099511627776:=Nat.le_trans (fQ _ _) hs.v
 have hMe:=Kv (w0:=w0) (ρ:=ρ) ds r hd hr hs
 have hN:=s4 (w0:=w0) r.n hr.n
 have rp:(r.aV++r.rem).length<=549755813888:=by rw [List.length_append];exact hs.h
 have DH:(r.guard++r.body).length<=549755813888:=by rw [List.length_append];exact hs.g
 have DM:∀ x ∈ r.aV++r.rem,mI x.a/\x.n.size<=1099511627776:=fun x hx=>by
  rcases List.mem_append.1 hx with h|h
  ·exact hr.kx x h
  ·exact hr.rx x h
 have VR:∀ x ∈ r.guard++r.body,r6 x:=fun x hx=>by
  rcases List.mem_append.1 hx with h|h
  ·exact hr.gx x h
  ·exact hr.bx x h
 have nz:=js (ρ:=ρ) r
 have DN:=hr.g
 have sJ:=hr.b
 obtain⟨E,hp⟩:∃ E,E=rI ds r:=⟨_,rfl⟩
 rw [<-hp]
 unfold rI at hp
 rw [<-qL] at hV
 obtain⟨vs,ir⟩:∃ vs,vs=qL r:=⟨_,rfl⟩
 rw [<-ir] at hV hVl hp
 obtain⟨ME,hME⟩:∃ e,e=oc ds r:=⟨_,rfl⟩
 rw [<-hME] at hMe hp
 clear hs hr ir hME
 obtain⟨n,ke,re,g,b,v⟩:=r
 dsimp only at hp hH hG rp DH DM VR DN sJ hN
 have hS:yC ⟨n,ke,re,g,b,v⟩=(decide (0 < ke.length+re.length) && decide (ke.length+re.length<=4) && decide (g.length<=12) && decide (b.length<=12)):=rfl
 have hLe:(ke++re).length=ke.length+re.length:=List.length_append
 obtain⟨L,hL⟩:∃ L,L=ke++re:=⟨_,rfl⟩
 rw [<-hL] at hp hH rp DM hLe
 obtain⟨M,hM⟩:∃ M,M=g++b:=⟨_,rfl⟩
 rw [<-hM] at hp hG DH VR
 clear hL hM
 obtain⟨NB,yD⟩:∃ NB,NB=gk n:=⟨_,rfl⟩
 rw [<-yD] at hp hN
 obtain⟨ne,bG⟩:∃ ne,ne=(n.toList == (⟨#[]⟩:ByteArray).toList):=⟨_,rfl⟩
 rw [<-bG] at hp
 obtain⟨T3,qK⟩:∃ T,T=bh (bW (ne || NB) 7) ME:=⟨_,rfl⟩
 obtain⟨T2,nc⟩:∃ T,T=bh (tE vs 0) (bh (bW (decide (v=vs.length)) 2) T3):=⟨_,rfl⟩
 obtain⟨T1,oJ⟩:∃ T,T=bh (aI oB M) T2:=⟨_,rfl⟩
 rw [<-qK,<-nc,<-oJ] at hp
 refine ZF.aG (by simp [Tryz.ntmps122]) (.v) ?_
 refine gq dv ?_
 repeat' (first
  |(refine ab.op rfl (ad.ag rfl hH ⟨nz,trivial⟩) ?_;refine gq dv ?_)
  |(refine ab.op rfl (ad.ag rfl hG ⟨nz,trivial⟩) ?_;refine gq dv ?_)
  |(refine bq (fun hb=>?_) (fun hb=>?_)<;>(try simp only [aq] at hb)<;>(first|refine gq dv ?_))
  |(refine aB fun m hm=>?_;(try rw [af] at hm);refine gq dv ?_)
  |(refine fq ?_))
 all_goals first
  |(rw [cE (by rw [hS];simp [bW];omega)] at hp;rw [hp,hS];refine dI ?_;simp [bW];omega)
  |skip
 rw [bu (by rw [hS];simp [bW];omega)] at hp
 clear hS
 refine ab.aP (σ:=Int) 1 1 [] (fun q=>[(0,dG ρ ds),(3,.pt 0 6 0 0),(5,eO ρ L),(6,cO ρ M),(7,.v (.int .i64 q))]) [] (fun _=>[(0,.arr 6 [fZ ρ ⟨n,ke,re,g,b,v⟩] 0 true)]) (fun q=>∃ k:Nat,q=k/\k<=L.length/\E=bh (aI o7 (L.drop k)) T1) (fun q=>L.length - q.toNat) 0 ⟨0,rfl,by simp,by simpa using hp⟩ rfl (by exact⟨sq,rfl,⟨.inl ⟨_,rfl,.arr (by exact⟨kq,trivial⟩)⟩,trivial⟩,rfl,rfl,rfl⟩) ?_
 rintro q ⟨k,hi,hk,hp⟩
 refine gq dv ?_
 by_cases au:k < L.length
 ·obtain⟨x,hx,aO⟩:=az au
  rw [aO,aI,bS] at hp
  obtain⟨kR,oA⟩:=DM x (List.mem_of_getElem? hx)
  have hR:=wZ (w0:=w0) (ρ:=ρ) x kR oA
  obtain⟨B,hB⟩:∃ B,B=eh x:=⟨_,rfl⟩
  obtain⟨F,hF⟩:∃ F,F=o7 x:=⟨_,rfl⟩
  rw [<-hF] at hp
  rw [o7,<-hB] at hF
  rw [<-hB] at hR
  clear hB
  obtain⟨xn,xa⟩:=x
  repeat' (first
   |(refine ab.op rfl (ad.ind rfl rfl (ay (l:=L) hi hx) (aw fun _=>rfl)) ?_;refine gq dv ?_)
   |(refine ab.a_ rfl (ad.ag rfl hR ⟨de (ρ:=ρ) ⟨xn,xa⟩,trivial⟩) (fun _=>?_) (fun _=>?_)<;>refine gq dv ?_)
   |(refine bq (fun hb=>?_) (fun hb=>?_)<;>(try simp only [aq] at hb)<;>(first|refine gq dv ?_))
   |(refine aB fun m hm=>?_;(try rw [af] at hm);refine gq dv ?_)
   |(refine aS fun _ _=>?_;refine gq dv ?_)
   |(refine ab.ao ?_;refine gq dv ?_)
   |(refine ab.bJ ?_;refine gq dv ?_)
   |(refine fq ?_))
  all_goals first
   |(exfalso;omega)
   |(have e:F=0:=by (rw [hF,show B=true by assumption];rfl)
     rw [bu e] at hp
     refine ab.aL (σ:=Int) _ [] ?_ ?_ (by exact⟨sq,rfl,⟨.inl ⟨_,rfl,.arr (by exact⟨kq,trivial⟩)⟩,trivial⟩,rfl,rfl,rfl⟩)<;>first|omega|exact⟨k+1,by omega,by omega,hp⟩)
   |(have e:F=2:=by (rw [hF,show B=false by assumption];rfl)
     rw [cE (by omega)] at hp;refine dI ?_;omega)
 rw [List.drop_eq_nil_of_le (by omega),aI,bu rfl,oJ] at hp
 clear oJ
 repeat' (first
  |(refine bq (fun hb=>?_) (fun hb=>?_)<;>(try simp only [aq] at hb)<;>(first|refine gq dv ?_))
  |(refine aB fun m hm=>?_;(try rw [af] at hm);refine gq dv ?_)
  |(refine ab.ao ?_;refine gq dv ?_)
  )
 all_goals first
  |(exfalso;omega)
  |skip
 refine ab.aP (σ:=Int) 1 1 [] (fun q=>[(0,dG ρ ds),(3,.pt 0 6 0 0),(6,cO ρ M),(8,.v (.int .i64 q))]) [] (fun _=>[(0,.arr 6 [fZ ρ ⟨n,ke,re,g,b,v⟩] 0 true)]) (fun q=>∃ k:Nat,q=k/\k<=M.length/\E=bh (aI oB (M.drop k)) T2) (fun q=>M.length - q.toNat) 0 ⟨0,rfl,by simp,by simpa using hp⟩ rfl (by exact⟨sq,rfl,⟨.inl ⟨_,rfl,.arr (by exact⟨kq,trivial⟩)⟩,trivial⟩,rfl,rfl,rfl⟩) ?_
 rintro q2 ⟨k2,mi,dS,hp⟩
 refine gq dv ?_
 by_cases gu:k2 < M.length
 ·obtain⟨x,hx,aO⟩:=az gu
  rw [aO,aI,bS] at hp
  have ox:=VR x (List.mem_of_getElem? hx)
  have hR:=w5 (w0:=w0) (ρ:=ρ) x ox.1 ox.2
  obtain⟨B,hB⟩:∃ B,B=dL x:=⟨_,rfl⟩
  obtain⟨F,hF⟩:∃ F,F=oB x:=⟨_,rfl⟩
  rw [<-hF] at hp
  rw [oB,<-hB] at hF
  rw [<-hB] at hR
  clear hB
  have gn:=dy (ρ:=ρ) x
  obtain⟨xo,xn,xa⟩:=x
  repeat' (first
   |(refine ab.op rfl (ad.ind rfl rfl (ay (l:=M) mi hx) (aw fun _=>rfl)) ?_;refine gq dv ?_)
   |(refine ab.a_ rfl (ad.ag rfl hR ⟨gn,trivial⟩) (fun _=>?_) (fun _=>?_)<;>refine gq dv ?_)
   |(refine bq (fun hb=>?_) (fun hb=>?_)<;>(try simp only [aq] at hb)<;>(first|refine gq dv ?_))
   |(refine aB fun m hm=>?_;(try rw [af] at hm);refine gq dv ?_)
   |(refine aS fun _ _=>?_;refine gq dv ?_)
   |(refine ab.ao ?_;refine gq dv ?_)
   |(refine ab.bJ ?_;refine gq dv ?_)
   |(refine fq ?_))
  all_goals first
   |(exfalso;omega)
   |(have e:F=0:=by (rw [hF,show B=true by assumption];rfl)
     rw [bu e] at hp
     refine ab.aL (σ:=Int) _ [] ?_ ?_ (by exact⟨sq,rfl,⟨.inl ⟨_,rfl,.arr (by exact⟨kq,trivial⟩)⟩,trivial⟩,rfl,rfl,rfl⟩)<;>first|omega|exact⟨k2+1,by omega,by omega,hp⟩)
   |(have e:F=2:=by (rw [hF,show B=false by assumption];rfl)
     rw [cE (by omega)] at hp;refine dI ?_;omega)
 rw [List.drop_eq_nil_of_le (by omega),aI,bu rfl,nc] at hp
 clear nc
 repeat' (first
  |(refine ab.op rfl (ad.ag rfl hV ⟨nz,trivial⟩) ?_;refine gq dv ?_)
  |(refine bq (fun hb=>?_) (fun hb=>?_)<;>(try simp only [aq] at hb)<;>(first|refine gq dv ?_))
  |(refine aB fun m hm=>?_;(try rw [af] at hm);refine gq dv ?_)
  |(refine ab.ao ?_;refine gq dv ?_)
  )
 all_goals first
  |(exfalso;omega)
  |skip
 obtain⟨T4,FB⟩:∃ T,T=bh (bW (decide (v=vs.length)) 2) T3:=⟨_,rfl⟩
 rw [<-FB] at hp
 refine ab.aP (σ:=Int) 1 1 [] (fun q=>[(0,dG ρ ds),(3,.pt 0 6 0 0),(9,b8 ρ bF false vs),(10,.v (.int .i64 q))]) [] (fun _=>[(0,.arr 6 [fZ ρ ⟨n,ke,re,g,b,v⟩] 0 true)]) (fun q=>∃ k:Nat,q=k/\k<=vs.length/\E=bh (tE (vs.drop k) k) T4) (fun q=>vs.length - q.toNat) 0 ⟨0,rfl,by simp,by simpa using hp⟩ rfl (by exact⟨sq,rfl,⟨.inl ⟨_,rfl,.arr (by exact⟨kq,trivial⟩)⟩,trivial⟩,rfl,rfl,rfl⟩) ?_
 rintro q3 ⟨k3,tT,yz,hp⟩
 refine gq dv ?_
 by_cases kf:k3 < vs.length
 ·obtain⟨x,hx,aO⟩:=az kf
  rw [aO,tE,bS] at hp
  repeat' (first
   |(refine ab.op rfl (ad.ind rfl rfl (ay (l:=vs) tT hx) (aw fun _=>rfl)) ?_;refine gq dv ?_)
   |(refine bq (fun hb=>?_) (fun hb=>?_)<;>(try simp only [aq] at hb)<;>(first|refine gq dv ?_))
   |(refine aB fun m hm=>?_;(try rw [af] at hm);refine gq dv ?_)
   |(refine aS fun _ _=>?_;refine gq dv ?_)
   |(refine ab.ao ?_;refine gq dv ?_)
   |(refine ab.bJ ?_;refine gq dv ?_)
   |(refine fq ?_))
  all_goals first
   |(exfalso;omega)
   |(rw [decide_eq_true (show x=k3 by omega),show bW true 2=0 from rfl,bu rfl] at hp
     refine ab.aL (σ:=Int) _ [] ?_ ?_ (by exact⟨sq,rfl,⟨.inl ⟨_,rfl,.arr (by exact⟨kq,trivial⟩)⟩,trivial⟩,rfl,rfl,rfl⟩)<;>first|omega|exact⟨k3+1,by omega,by omega,hp⟩)
   |(rw [decide_eq_false (show ¬ x=k3 by omega),show bW false 2=2 from rfl,cE (by decide)] at hp;refine dI ?_;omega)
 rw [List.drop_eq_nil_of_le (by omega),tE,bu rfl,FB,qK] at hp
 clear FB qK
 repeat' (first
  |(refine ab.a_ (e:=(n.toList != (⟨#[]⟩:ByteArray).toList)) rfl (ad.bit rfl) (fun hs=>?_) (fun hs=>?_)<;>refine gq dv ?_)
  |(refine ab.a_ rfl (ad.ag rfl hN ⟨.v,trivial⟩) (fun _=>?_) (fun _=>?_)<;>refine gq dv ?_)
  |(refine ab.op rfl (ad.ag rfl hMe ⟨bU _,nz,trivial⟩) ?_;refine gq dv ?_)
  |(refine bq (fun hb=>?_) (fun hb=>?_)<;>(try simp only [aq] at hb)<;>(first|refine gq dv ?_))
  |(refine aB fun m hm=>?_;(try rw [af] at hm);refine gq dv ?_)
  |(refine ab.ao ?_;refine gq dv ?_)
  |(refine fq ?_))
 all_goals first
  |(exfalso;omega)
  |(rw [decide_eq_false (show ¬ v=vs.length by omega),show bW false 2=2 from rfl,cE (by decide)] at hp;refine dI ?_;omega)
  |skip
 all_goals rw [decide_eq_true (show v=vs.length by omega),show bW true 2=0 from rfl,bu rfl] at hp
 all_goals first
  |(rw [show NB=true by assumption,Bool.or_true,show bW true 7=0 from rfl,bu rfl] at hp;rw [hp];exact aU.of_eq rfl)
  |(rw [show NB=false by assumption,show ne=false by (rw [bG];simpa using hs)] at hp;rw [hp];exact aU.of_eq rfl)
  |(rw [show ne=true by (rw [bG];simpa using hs),Bool.true_or,show bW true 7=0 from rfl,bu rfl] at hp;rw [hp];exact aU.of_eq rfl)
end
end
end Go.Proofs.YtbofilglphfceaaGreat
