import Derived.Test.YtbofilglphfceaaGreatQ46
namespace Go.Proofs.YtbofilglphfceaaGreat
set_option linter.unusedVariables false
set_option linter.unusedSimpArgs false
open Go.RowKit
section
set_option maxRecDepth 100000
attribute [local irreducible] ah bc ad ab
def P6:CF Tryz.f122:=⟨_,by conv=>lhs;cbv⟩
theorem ZF:aH Tryz.prog 122 P6.1 Tryz.f122.ntmps:=aQ Tryz.func122 P6.2 Tryz.call122
def dv:List Nat:=[3,5,10,7,8,9,6,4,1,34,38,46,50,58,64,72,77,86,0]
def FA (vs:List Int) (x:Int):Int:=bW (vs.contains x) 17
def DK (vs:List Int) (x:Gl):Int:=aI (FA vs) (varsOf x.a)
def Ii (r:Rl):Int:=bh (aI (DK (varsOf (dA (r.aV++r.rem)))) r.guard) 0
def Ij (r:Rl):Int:=bh (aI yA r.guard) (bh (aI uU r.body) (Ii r))
def oc (ds:List Dc) (r:Rl):Int:=bh (aI (sD ds) (r.aV++r.rem)) (bh (fX ds (r.guard++r.body)) (Ij r))
structure Ah (r:Rl):Prop where
 h:r.aV.length+r.rem.length<=549755813888
 g:r.guard.length+r.body.length<=549755813888
 a:(dA (r.aV++r.rem)++iG (r.guard++r.body)).length<=549755813888
 k:eg (dA (r.aV++r.rem)++iG (r.guard++r.body))
 v:(aT (dA (r.aV++r.rem)++iG (r.guard++r.body))).length<=1099511627776
theorem DL:∀ {a b:List Tm},eg (a++b)->eg a
 |[],_,_=>trivial
 |_::_,_,h=>⟨h.1,DL h.2⟩
theorem tD (a b:List Tm):aT (a++b)=aT a++aT b:=by
 induction a with
 |nil=>rfl
 |cons x a ih=>rw [List.cons_append,aT,aT,ih,List.append_assoc]
section
variable {w0:World}{ρ:Hd}
theorem Ku (r:Rl) (h:Ah r):ah Tryz.prog w0 282 [rl ρ r] (b8 ρ bF false (varsOf (dA (r.aV++r.rem))))/\(varsOf (dA (r.aV++r.rem))).length<=1099511627776:=by
 have h1:=h.a
 have h2:=h.v
 rw [List.length_append] at h1
 rw [tD,List.length_append] at h2
 exact⟨Hm r h.h (by omega) (DL h.k) (by omega),Nat.le_trans (fQ _ _) (by omega)⟩
set_option maxHeartbeats 4000000 in
theorem Kv (ds:List Dc) (r:Rl) (hd:ds.length<=1099511627776) (hr:tV r) (hs:Ah r):ah Tryz.prog w0 210 [dG ρ ds,rl ρ r] (iv (oc ds r)):=by
 have hH:=vQ (w0:=w0) (ρ:=ρ) r hs.h
 have hG:=zO (w0:=w0) (ρ:=ρ) r hs.g
 obtain⟨P7,P8⟩:=Ku (w0:=w0) (ρ:=ρ) r hs
 have rp:(r.aV++r.rem).length<=549755813888:=by rw [List.length_append];exact hs.h
 have DH:(r.guard++r.body).length<=549755813888:=by rw [List.length_append];exact hs.g
 have DM:∀ x ∈ r.aV++r.rem,mI x.a/\x.n.size<=1099511627776:=fun x hx=>by
  rcases List.mem_append.1 hx with h|h
  ·exact hr.kx x h
  ·exact hr.rx x h
 have P9:=RD (w0:=w0) (ρ:=ρ) ds (r.guard++r.body) hd (by omega) (fun x hx=>by
  rcases List.mem_append.1 hx with h|h
  ·exact (hr.gx x h).1.len
  ·exact (hr.bx x h).1.len)
 have nz:=js (ρ:=ρ) r
 have Kw:=hr.gx
 have DN:=hr.g
 have sJ:=hr.b
 obtain⟨E,hp⟩:∃ E,E=oc ds r:=⟨_,rfl⟩
 rw [<-hp]
 unfold oc Ij Ii at hp
 clear hs hr
 obtain⟨n,ke,re,g,b,v⟩:=r
 dsimp only at hp hH hG P7 P8 rp DH DM P9 Kw DN sJ
 obtain⟨L,hL⟩:∃ L,L=ke++re:=⟨_,rfl⟩
 rw [<-hL] at hp hH P7 P8 rp DM
 obtain⟨M,hM⟩:∃ M,M=g++b:=⟨_,rfl⟩
 rw [<-hM] at hp hG DH P9
 obtain⟨W,hW⟩:∃ W,W=varsOf (dA L):=⟨_,rfl⟩
 rw [<-hW] at hp P7 P8
 obtain⟨F1,tR⟩:∃ F,F=fX ds M:=⟨_,rfl⟩
 rw [<-tR] at hp P9
 clear hL hM hW tR
 obtain⟨T1,oJ⟩:∃ T,T=bh F1 (bh (aI yA g) (bh (aI uU b) (bh (aI (DK W) g) 0))):=⟨_,rfl⟩
 rw [<-oJ] at hp
 refine YN.aG (by simp [Tryz.ntmps210]) (.v) ?_
 refine gq cz ?_
 repeat' (first
  |(refine ab.op rfl (ad.ag rfl hH ⟨nz,trivial⟩) ?_;refine gq cz ?_)
  )
 refine ab.aP (σ:=Int) 1 1 [] (fun q=>[(0,dG ρ ds),(3,.pt 0 6 0 0),(5,eO ρ L),(6,.v (.int .i64 q))]) [] (fun _=>[(0,.arr 6 [fZ ρ ⟨n,ke,re,g,b,v⟩] 0 true)]) (fun q=>∃ k:Nat,q=k/\k<=L.length/\E=bh (aI (sD ds) (L.drop k)) T1) (fun q=>L.length - q.toNat) 0 ⟨0,rfl,by simp,by simpa using hp⟩ rfl (by exact⟨sq,rfl,⟨.inl ⟨_,rfl,.arr (by exact⟨kq,trivial⟩)⟩,trivial⟩,rfl,rfl,rfl⟩) ?_
 rintro q ⟨k,hi,hk,hp⟩
 refine gq cz ?_
 by_cases au:k < L.length
 ·obtain⟨x,hx,aO⟩:=az au
  rw [aO,aI,bS] at hp
  have oC:=(DM x (List.mem_of_getElem? hx)).1.len
  obtain⟨F,hF⟩:∃ F,F=sD ds x:=⟨_,rfl⟩
  rw [<-hF] at hp
  have hD:=A8 (w0:=w0) (ρ:=ρ) ds x.n x.a.length hd
  rw [show kC ds x.n x.a.length=F from hF.symm] at hD
  clear hF
  obtain⟨xn,xa⟩:=x
  dsimp only at hD oC
  obtain⟨q3,AL⟩:∃ q:Int,q=xa.length:=⟨_,rfl⟩
  rw [<-AL] at hD
  refine ab.int rfl (ad.len rfl) fun m0 kO=>?_;rw [af] at kO
  refine gq cz ?_
  repeat' (first
   |(refine ab.op rfl (ad.ind rfl rfl (ay (l:=L) hi hx) (aw fun _=>rfl)) ?_;refine gq cz ?_)
   |(refine ab.int rfl (ad.len rfl) fun m hm=>?_;rw [af] at hm;obtain rfl:m=q3:=(by omega);refine gq cz ?_)
   |((refine ab.int rfl (ad.ag rfl hD ⟨bU _,.v,.v,trivial⟩) fun d eK=>?_;refine gq cz ?_))
   |(refine bq (fun hb=>?_) (fun hb=>?_)<;>(try simp only [aq] at hb)<;>(first|refine gq cz ?_))
   |(refine aS fun _ _=>?_;refine gq cz ?_)
   |(refine ab.ao ?_;refine gq cz ?_)
   |(refine ab.bJ ?_;refine gq cz ?_)
   |(refine fq ?_))
  all_goals first
   |(exfalso;omega)
   |(rw [bu (show F=0 by omega)] at hp
     refine ab.aL (σ:=Int) _ [] ?_ ?_ (by exact⟨sq,rfl,⟨.inl ⟨_,rfl,.arr (by exact⟨kq,trivial⟩)⟩,trivial⟩,rfl,rfl,rfl⟩)<;>first|omega|exact⟨k+1,by omega,by omega,hp⟩)
   |(rw [cE (show ¬ F=0 by omega)] at hp;refine dI ?_;omega)
 rw [List.drop_eq_nil_of_le (by omega),aI,bu rfl,oJ] at hp
 clear oJ
 refine ab.int rfl (ad.len rfl) fun m0 kO=>?_;rw [af] at kO
 refine gq cz ?_
 repeat' (first
  |(refine ab.op rfl (ad.ag rfl hG ⟨nz,trivial⟩) ?_;refine gq cz ?_)
  |((refine ab.int rfl (ad.ag rfl P9 ⟨bU _,bw _,trivial⟩) fun d eK=>?_;refine gq cz ?_))
  |(refine bq (fun hb=>?_) (fun hb=>?_)<;>(try simp only [aq] at hb)<;>(first|refine gq cz ?_))
  |(refine ab.ao ?_;refine gq cz ?_)
  |(refine fq ?_))
 all_goals first
  |(exfalso;omega)
  |(rw [cE (show ¬ F1=0 by omega)] at hp;refine dI ?_;omega)
  |skip
 rw [bu (show F1=0 by omega)] at hp
 obtain⟨T2,nc⟩:∃ T,T=bh (aI uU b) (bh (aI (DK W) g) 0):=⟨_,rfl⟩
 rw [<-nc] at hp
 refine ab.aP (σ:=Int) 1 1 [] (fun q=>[(3,.pt 0 6 0 0),(9,.v (.int .i64 q))]) [] (fun _=>[(0,.arr 6 [fZ ρ ⟨n,ke,re,g,b,v⟩] 0 true)]) (fun q=>∃ k:Nat,q=k/\k<=g.length/\E=bh (aI yA (g.drop k)) T2) (fun q=>g.length - q.toNat) 0 ⟨0,rfl,by simp,by simpa using hp⟩ rfl (by exact⟨sq,rfl,⟨.inl ⟨_,rfl,.arr (by exact⟨kq,trivial⟩)⟩,trivial⟩,rfl,rfl,rfl⟩) ?_
 rintro q ⟨k,hi,hk,hp⟩
 refine gq cz ?_
 by_cases au:k < g.length
 ·obtain⟨x,hx,aO⟩:=az au
  rw [aO,aI,bS] at hp
  have hT:=Kq (w0:=w0) x.op
  obtain⟨B,hB⟩:∃ B,B=lu x.op:=⟨_,rfl⟩
  obtain⟨F,hF⟩:∃ F,F=yA x:=⟨_,rfl⟩
  rw [<-hF] at hp
  rw [yA,<-hB] at hF
  rw [<-hB] at hT
  clear hB
  obtain⟨xo,xn,xa⟩:=x
  dsimp only at hT hF
  repeat' (first
   |(refine ab.op rfl (ad.ind rfl rfl (ay (l:=g) hi hx) (aw fun _=>rfl)) ?_;refine gq cz ?_)
   |(refine ab.a_ rfl (ad.ag rfl hT ⟨.v,trivial⟩) (fun _=>?_) (fun _=>?_)<;>refine gq cz ?_)
   |(refine bq (fun hb=>?_) (fun hb=>?_)<;>(try simp only [aq] at hb)<;>(first|refine gq cz ?_))
   |(refine aB fun m hm=>?_;(try rw [af] at hm);refine gq cz ?_)
   |(refine aS fun _ _=>?_;refine gq cz ?_)
   |(refine ab.ao ?_;refine gq cz ?_)
   |(refine ab.bJ ?_;refine gq cz ?_)
   |(refine fq ?_))
  all_goals first
   |(exfalso;omega)
   |(have e:F=0:=by (first|(rw [hF,show B=true by assumption];rfl)|(rw [hF,decide_eq_true (show xo=1 by omega),Bool.or_true];rfl))
     rw [bu e] at hp
     refine ab.aL (σ:=Int) _ [] ?_ ?_ (by exact⟨sq,rfl,⟨.inl ⟨_,rfl,.arr (by exact⟨kq,trivial⟩)⟩,trivial⟩,rfl,rfl,rfl⟩)<;>first|omega|exact⟨k+1,by omega,by omega,hp⟩)
   |(have e:F=10:=by (rw [hF,show B=false by assumption,decide_eq_false (show ¬ xo=1 by omega)];rfl)
     rw [cE (by omega)] at hp;refine dI ?_;omega)
 rw [List.drop_eq_nil_of_le (by omega),aI,bu rfl,nc] at hp
 clear nc
 repeat' (first
  |(refine bq (fun hb=>?_) (fun hb=>?_)<;>(try simp only [aq] at hb)<;>(first|refine gq cz ?_))
  |(refine aB fun m hm=>?_;(try rw [af] at hm);refine gq cz ?_)
  |(refine ab.ao ?_;refine gq cz ?_)
  )
 all_goals first
  |(exfalso;omega)
  |skip
 obtain⟨T3,qK⟩:∃ T,T=bh (aI (DK W) g) 0:=⟨_,rfl⟩
 rw [<-qK] at hp
 refine ab.aP (σ:=Int) 1 1 [] (fun q=>[(3,.pt 0 6 0 0),(10,.v (.int .i64 q))]) [] (fun _=>[(0,.arr 6 [fZ ρ ⟨n,ke,re,g,b,v⟩] 0 true)]) (fun q=>∃ k:Nat,q=k/\k<=b.length/\E=bh (aI uU (b.drop k)) T3) (fun q=>b.length - q.toNat) 0 ⟨0,rfl,by simp,by simpa using hp⟩ rfl (by exact⟨sq,rfl,⟨.inl ⟨_,rfl,.arr (by exact⟨kq,trivial⟩)⟩,trivial⟩,rfl,rfl,rfl⟩) ?_
 rintro q2 ⟨k2,mi,dS,hp⟩
 refine gq cz ?_
 by_cases gu:k2 < b.length
 ·obtain⟨x,hx,aO⟩:=az gu
  rw [aO,aI,bS] at hp
  have hT:=Kq (w0:=w0) x.op
  obtain⟨B,hB⟩:∃ B,B=lu x.op:=⟨_,rfl⟩
  obtain⟨F,hF⟩:∃ F,F=uU x:=⟨_,rfl⟩
  rw [<-hF] at hp
  rw [uU,<-hB] at hF
  rw [<-hB] at hT
  clear hB
  obtain⟨xo,xn,xa⟩:=x
  dsimp only at hT hF
  repeat' (first
   |(refine ab.op rfl (ad.ind rfl rfl (ay (l:=b) mi hx) (aw fun _=>rfl)) ?_;refine gq cz ?_)
   |(refine ab.a_ rfl (ad.ag rfl hT ⟨.v,trivial⟩) (fun _=>?_) (fun _=>?_)<;>refine gq cz ?_)
   |(refine bq (fun hb=>?_) (fun hb=>?_)<;>(try simp only [aq] at hb)<;>(first|refine gq cz ?_))
   |(refine aB fun m hm=>?_;(try rw [af] at hm);refine gq cz ?_)
   |(refine aS fun _ _=>?_;refine gq cz ?_)
   |(refine ab.ao ?_;refine gq cz ?_)
   |(refine ab.bJ ?_;refine gq cz ?_)
   |(refine fq ?_))
  all_goals first
   |(exfalso;omega)
   |(have e:F=0:=by (rw [hF,show B=false by assumption];rfl)
     rw [bu e] at hp
     refine ab.aL (σ:=Int) _ [] ?_ ?_ (by exact⟨sq,rfl,⟨.inl ⟨_,rfl,.arr (by exact⟨kq,trivial⟩)⟩,trivial⟩,rfl,rfl,rfl⟩)<;>first|omega|exact⟨k2+1,by omega,by omega,hp⟩)
   |(have e:F=10:=by (rw [hF,show B=true by assumption];rfl)
     rw [cE (by omega)] at hp;refine dI ?_;omega)
 rw [List.drop_eq_nil_of_le (by omega),aI,bu rfl,qK] at hp
 clear qK
 repeat' (first
  |(refine ab.op rfl (ad.ag rfl P7 ⟨nz,trivial⟩) ?_;refine gq cz ?_)
  |(refine bq (fun hb=>?_) (fun hb=>?_)<;>(try simp only [aq] at hb)<;>(first|refine gq cz ?_))
  |(refine aB fun m hm=>?_;(try rw [af] at hm);refine gq cz ?_)
  |(refine ab.ao ?_;refine gq cz ?_)
  )
 all_goals first
  |(exfalso;omega)
  |skip
 refine ab.aP (σ:=Int) 1 1 [] (fun q=>[(3,.pt 0 6 0 0),(11,b8 ρ bF false W),(12,.v (.int .i64 q))]) [] (fun _=>[(0,.arr 6 [fZ ρ ⟨n,ke,re,g,b,v⟩] 0 true)]) (fun q=>∃ k:Nat,q=k/\k<=g.length/\E=bh (aI (DK W) (g.drop k)) 0) (fun q=>g.length - q.toNat) 0 ⟨0,rfl,by simp,by simpa using hp⟩ rfl (by exact⟨sq,rfl,⟨.inl ⟨_,rfl,.arr (by exact⟨kq,trivial⟩)⟩,trivial⟩,rfl,rfl,rfl⟩) ?_
 rintro q3 ⟨k3,tT,yz,hp⟩
 refine gq cz ?_
 by_cases kf:k3 < g.length
 ·obtain⟨x,hx,aO⟩:=az kf
  have P_:=Kw x (List.mem_of_getElem? hx)
  have hV:=ye (w0:=w0) (ρ:=ρ) x P_.1.len P_.1.1 (nS P_.1)
  have sn:=mA P_.1
  rw [aO,aI,bS,DK] at hp
  obtain⟨vs,ir⟩:∃ vs,vs=varsOf x.a:=⟨_,rfl⟩
  rw [<-ir] at hp hV sn
  have gn:=dy (ρ:=ρ) x
  obtain⟨xo,xn,xa⟩:=x
  obtain⟨T4,FB⟩:∃ T,T=bh (aI (DK W) (g.drop (k3+1))) 0:=⟨_,rfl⟩
  rw [<-FB] at hp
  repeat' (first
   |(refine ab.op rfl (ad.ind rfl rfl (ay (l:=g) tT hx) (aw fun _=>rfl)) ?_;refine gq cz ?_)
   |(refine ab.op rfl (ad.ag rfl hV ⟨gn,trivial⟩) ?_;refine gq cz ?_)
   |(refine bq (fun hb=>?_) (fun hb=>?_)<;>(try simp only [aq] at hb)<;>(first|refine gq cz ?_))
   |(refine aB fun m hm=>?_;(try rw [af] at hm);refine gq cz ?_)
   |(refine ab.ao ?_;refine gq cz ?_)
   |(refine fq ?_))
  all_goals first
   |(exfalso;omega)
   |skip
  refine ab.aP (σ:=Int) 1 1 [] (fun t=>[(3,.pt 0 6 0 0),(11,b8 ρ bF false W),(12,.v (.int .i64 q3)),(13,b8 ρ bF false vs),(14,.v (.int .i64 t))]) [] (fun _=>[(0,.arr 6 [fZ ρ ⟨n,ke,re,g,b,v⟩] 0 true)]) (fun t=>∃ k:Nat,t=k/\k<=vs.length/\E=bh (aI (FA W) (vs.drop k)) T4) (fun t=>vs.length - t.toNat) 0 ⟨0,rfl,by simp,by simpa using hp⟩ rfl (by exact⟨sq,rfl,⟨.inl ⟨_,rfl,.arr (by exact⟨kq,trivial⟩)⟩,trivial⟩,rfl,rfl,rfl⟩) ?_
  rintro t ⟨k4,Qa,Pw,hp⟩
  refine gq cz ?_
  by_cases MP:k4 < vs.length
  ·obtain⟨y,hy,cP⟩:=az MP
   rw [cP,aI,bS] at hp
   have hI:=acx (w0:=w0) (ρ:=ρ) W y P8
   obtain⟨B,hB⟩:∃ B,B=W.contains y:=⟨_,rfl⟩
   obtain⟨F,hF⟩:∃ F,F=FA W y:=⟨_,rfl⟩
   rw [<-hF] at hp
   rw [FA,<-hB] at hF
   rw [<-hB] at hI
   clear hB
   repeat' (first
    |(refine ab.op rfl (ad.ind rfl rfl (ay (l:=vs) Qa hy) (aw fun _=>rfl)) ?_;refine gq cz ?_)
    |(refine ab.a_ rfl (ad.ag rfl hI ⟨bQ _,.v,trivial⟩) (fun _=>?_) (fun _=>?_)<;>refine gq cz ?_)
    |(refine bq (fun hb=>?_) (fun hb=>?_)<;>(try simp only [aq] at hb)<;>(first|refine gq cz ?_))
    |(refine aB fun m hm=>?_;(try rw [af] at hm);refine gq cz ?_)
    |(refine aS fun _ _=>?_;refine gq cz ?_)
    |(refine ab.ao ?_;refine gq cz ?_)
    |(refine ab.bJ ?_;refine gq cz ?_)
    |(refine fq ?_))
   all_goals first
    |(exfalso;omega)
    |(have e:F=0:=by (rw [hF,show B=true by assumption];rfl)
      rw [bu e] at hp
      refine ab.aL (σ:=Int) _ [] ?_ ?_ (by exact⟨sq,rfl,⟨.inl ⟨_,rfl,.arr (by exact⟨kq,trivial⟩)⟩,trivial⟩,rfl,rfl,rfl⟩)<;>first|omega|exact⟨k4+1,by omega,by omega,hp⟩)
    |(have e:F=17:=by (rw [hF,show B=false by assumption];rfl)
      rw [cE (by omega)] at hp;refine dI ?_;omega)
  rw [List.drop_eq_nil_of_le (by omega),aI,bu rfl,FB] at hp
  repeat' (first
   |(refine bq (fun hb=>?_) (fun hb=>?_)<;>(try simp only [aq] at hb)<;>(first|refine gq cz ?_))
   |(refine aB fun m hm=>?_;(try rw [af] at hm);refine gq cz ?_)
   |(refine aS fun _ _=>?_;refine gq cz ?_)
   |(refine ab.ao ?_;refine gq cz ?_)
   )
  all_goals first
   |(exfalso;omega)
   |(refine ab.aL (σ:=Int) _ [] ?_ ?_ (by exact⟨sq,rfl,⟨.inl ⟨_,rfl,.arr (by exact⟨kq,trivial⟩)⟩,trivial⟩,rfl,rfl,rfl⟩)<;>first|omega|exact⟨k3+1,by omega,by omega,hp⟩)
 rw [List.drop_eq_nil_of_le (by omega),aI,bu rfl] at hp
 repeat' (first
  |(refine bq (fun hb=>?_) (fun hb=>?_)<;>(try simp only [aq] at hb)<;>(first|refine gq cz ?_))
  |(refine aB fun m hm=>?_;(try rw [af] at hm);refine gq cz ?_)
  |(refine ab.ao ?_;refine gq cz ?_)
  |(refine fq ?_))
 all_goals first
  |(exfalso;omega)
  |(refine dI ?_;omega)
end
end
end Go.Proofs.YtbofilglphfceaaGreat
