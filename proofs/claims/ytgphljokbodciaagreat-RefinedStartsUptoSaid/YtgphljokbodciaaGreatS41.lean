import Derived.Test.YtgphljokbodciaaGreatS40
namespace Go.Proofs.YtgphljokbodciaaGreat
set_option linter.unusedVariables false
set_option linter.unusedSimpArgs false
open Go.RowKit
section
set_option maxRecDepth 100000
attribute [local irreducible] ah aV ad ab
def uy:List Int->Nat->Int
 |[],_=>0
 |v::l,k=>bh (bW (decide (v=k)) 2) (uy l (k+1))
def rI (r:Rl):List Int:=varsOf (dJ (r.aT++r.rem)++ji (r.guard++r.body))
def sA (ds:List Dc) (r:Rl):Int:=bh (bW (zq r) 6) (bh (aM pO (r.aT++r.rem)) (bh (aM o_ (r.guard++r.body)) (bh (uy (rI r) 0) (bh (bW (decide (r.vars=(rI r).length)) 2) (bh (bW (r.n.toList == (⟨#[]⟩:ByteArray).toList || gJ r.n) 7) (oP ds r))))))
section
variable {w0:World}{ρ:Hd}
set_option maxHeartbeats 4000000 in
theorem Uq (ds:List Dc) (r:Rl) (hd:ds.length<=1099511627776) (hr:vS r) (hs:BU r):ah Tryz.prog w0 174 [dP ρ ds,rl ρ r] (iv (sA ds r)):=by
 have hH:=wI (w0:=w0) (ρ:=ρ) r hs.h
 have hG:=Ar (w0:=w0) (ρ:=ρ) r hs.g
 have hV:=JV (w0:=w0) (ρ:=ρ) r hs.h hs.g hs.a hs.k hs.v
 have hVl:(rI r).length<=1099511627776:=Nat.le_trans (gp _ _) hs.v
 have hMe:=LP (w0:=w0) (ρ:=ρ) ds r hd hr hs
 have hN:=tR (w0:=w0) r.n hr.n
 have sn:(r.aT++r.rem).length<=549755813888:=by rw [List.length_append];exact hs.h
 have Ed:(r.guard++r.body).length<=549755813888:=by rw [List.length_append];exact hs.g
 have En:∀ x ∈ r.aT++r.rem,nv x.a/\x.n.size<=1099511627776:=fun x hx=>by
  rcases List.mem_append.1 hx with h|h
  ·exact hr.kx x h
  ·exact hr.rx x h
 have Xo:∀ x ∈ r.guard++r.body,q9 x:=fun x hx=>by
  rcases List.mem_append.1 hx with h|h
  ·exact hr.gx x h
  ·exact hr.bx x h
 have lJ:=iz (ρ:=ρ) r
 have zK:=hr.g
 have td:=hr.b
 obtain⟨E,hp⟩:∃ E,E=sA ds r:=⟨_,rfl⟩
 rw [<-hp]
 unfold sA at hp
 rw [<-rI] at hV
 obtain⟨vs,jH⟩:∃ vs,vs=rI r:=⟨_,rfl⟩
 rw [<-jH] at hV hVl hp
 obtain⟨ME,hME⟩:∃ e,e=oP ds r:=⟨_,rfl⟩
 rw [<-hME] at hMe hp
 clear hs hr jH hME
 obtain⟨n,ke,re,g,b,v⟩:=r
 dsimp only at hp hH hG sn Ed En Xo zK td hN
 have hS:zq ⟨n,ke,re,g,b,v⟩=(decide (0 < ke.length+re.length) && decide (ke.length+re.length<=4) && decide (g.length<=12) && decide (b.length<=12)):=rfl
 have hLe:(ke++re).length=ke.length+re.length:=List.length_append
 obtain⟨L,hL⟩:∃ L,L=ke++re:=⟨_,rfl⟩
 rw [<-hL] at hp hH sn En hLe
 obtain⟨M,hM⟩:∃ M,M=g++b:=⟨_,rfl⟩
 rw [<-hM] at hp hG Ed Xo
 clear hL hM
 obtain⟨NB,zr⟩:∃ NB,NB=gJ n:=⟨_,rfl⟩
 rw [<-zr] at hp hN
 obtain⟨ne,bH⟩:∃ ne,ne=(n.toList == (⟨#[]⟩:ByteArray).toList):=⟨_,rfl⟩
 rw [<-bH] at hp
 obtain⟨T3,rH⟩:∃ T,T=bh (bW (ne || NB) 7) ME:=⟨_,rfl⟩
 obtain⟨T2,rG⟩:∃ T,T=bh (uy vs 0) (bh (bW (decide (v=vs.length)) 2) T3):=⟨_,rfl⟩
 obtain⟨T1,pd⟩:∃ T,T=bh (aM o_ M) T2:=⟨_,rfl⟩
 rw [<-rH,<-rG,<-pd] at hp
 refine ac9.aH (by simp [Tryz.ntmps174]) (.v) ?_
 refine gq dB ?_
 repeat' (first
  |(refine ab.op rfl (ad.ag rfl hH ⟨lJ,trivial⟩) ?_;refine gq dB ?_)
  |(refine ab.op rfl (ad.ag rfl hG ⟨lJ,trivial⟩) ?_;refine gq dB ?_)
  |(refine bq (fun hb=>?_) (fun hb=>?_)<;>(try simp only [aq] at hb)<;>(first|refine gq dB ?_))
  |(refine az fun m hm=>?_;(try rw [af] at hm);refine gq dB ?_)
  |(refine fq ?_))
 all_goals first
  |(rw [cI (by rw [hS];simp [bW];omega)] at hp;rw [hp,hS];refine dK ?_;simp [bW];omega)
  |skip
 rw [bw (by rw [hS];simp [bW];omega)] at hp
 clear hS
 refine ab.aP (σ:=Int) 1 1 [] (fun q=>[(0,dP ρ ds),(3,.pt 0 6 0 0),(5,eK ρ L),(6,dC ρ M),(7,.v (.int .i64 q))]) [] (fun _=>[(0,.arr 6 [fW ρ ⟨n,ke,re,g,b,v⟩] 0 true)]) (fun q=>∃ k:Nat,q=k/\k<=L.length/\E=bh (aM pO (L.drop k)) T1) (fun q=>L.length - q.toNat) 0 ⟨0,rfl,by simp,by simpa using hp⟩ rfl (by exact⟨sq,rfl,⟨.inl ⟨_,rfl,.arr (by exact⟨kq,trivial⟩)⟩,trivial⟩,rfl,rfl,rfl⟩) ?_
 rintro q ⟨k,hi,hk,hp⟩
 refine gq dB ?_
 by_cases au:k < L.length
 ·obtain⟨x,hx,aQ⟩:=aA au
  rw [aQ,aM,bT] at hp
  obtain⟨lH,o9⟩:=En x (List.mem_of_getElem? hx)
  have hR:=xS (w0:=w0) (ρ:=ρ) x lH o9
  obtain⟨B,hB⟩:∃ B,B=eu x:=⟨_,rfl⟩
  obtain⟨F,hF⟩:∃ F,F=pO x:=⟨_,rfl⟩
  rw [<-hF] at hp
  rw [pO,<-hB] at hF
  rw [<-hB] at hR
  clear hB
  obtain⟨xn,xa⟩:=x
  repeat' (first
   |(refine ab.op rfl (ad.ind rfl rfl (ay (l:=L) hi hx) (aw fun _=>rfl)) ?_;refine gq dB ?_)
   |(refine ab.bif rfl (ad.ag rfl hR ⟨cX (ρ:=ρ) ⟨xn,xa⟩,trivial⟩) (fun _=>?_) (fun _=>?_)<;>refine gq dB ?_)
   |(refine bq (fun hb=>?_) (fun hb=>?_)<;>(try simp only [aq] at hb)<;>(first|refine gq dB ?_))
   |(refine az fun m hm=>?_;(try rw [af] at hm);refine gq dB ?_)
   |(refine aS fun _ _=>?_;refine gq dB ?_)
   |(refine ab.ao ?_;refine gq dB ?_)
   |(refine ab.bK ?_;refine gq dB ?_)
   |(refine fq ?_))
  all_goals first
   |(exfalso;omega)
   |(have e:F=0:=by (rw [hF,show B=true by assumption];rfl)
     rw [bw e] at hp
     refine ab.aK (σ:=Int) _ [] ?_ ?_ (by exact⟨sq,rfl,⟨.inl ⟨_,rfl,.arr (by exact⟨kq,trivial⟩)⟩,trivial⟩,rfl,rfl,rfl⟩)<;>first|omega|exact⟨k+1,by omega,by omega,hp⟩)
   |(have e:F=2:=by (rw [hF,show B=false by assumption];rfl)
     rw [cI (by omega)] at hp;refine dK ?_;omega)
 rw [List.drop_eq_nil_of_le (by omega),aM,bw rfl,pd] at hp
 clear pd
 repeat' (first
  |(refine bq (fun hb=>?_) (fun hb=>?_)<;>(try simp only [aq] at hb)<;>(first|refine gq dB ?_))
  |(refine az fun m hm=>?_;(try rw [af] at hm);refine gq dB ?_)
  |(refine ab.ao ?_;refine gq dB ?_)
  )
 all_goals first
  |(exfalso;omega)
  |skip
 refine ab.aP (σ:=Int) 1 1 [] (fun q=>[(0,dP ρ ds),(3,.pt 0 6 0 0),(6,dC ρ M),(8,.v (.int .i64 q))]) [] (fun _=>[(0,.arr 6 [fW ρ ⟨n,ke,re,g,b,v⟩] 0 true)]) (fun q=>∃ k:Nat,q=k/\k<=M.length/\E=bh (aM o_ (M.drop k)) T2) (fun q=>M.length - q.toNat) 0 ⟨0,rfl,by simp,by simpa using hp⟩ rfl (by exact⟨sq,rfl,⟨.inl ⟨_,rfl,.arr (by exact⟨kq,trivial⟩)⟩,trivial⟩,rfl,rfl,rfl⟩) ?_
 rintro q2 ⟨k2,nZ,dD,hp⟩
 refine gq dB ?_
 by_cases iM:k2 < M.length
 ·obtain⟨x,hx,aQ⟩:=aA iM
  rw [aQ,aM,bT] at hp
  have ox:=Xo x (List.mem_of_getElem? hx)
  have hR:=CZ (w0:=w0) (ρ:=ρ) x ox.1 ox.2
  obtain⟨B,hB⟩:∃ B,B=eS x:=⟨_,rfl⟩
  obtain⟨F,hF⟩:∃ F,F=o_ x:=⟨_,rfl⟩
  rw [<-hF] at hp
  rw [o_,<-hB] at hF
  rw [<-hB] at hR
  clear hB
  have jb:=eE (ρ:=ρ) x
  obtain⟨xo,xn,xa⟩:=x
  repeat' (first
   |(refine ab.op rfl (ad.ind rfl rfl (ay (l:=M) nZ hx) (aw fun _=>rfl)) ?_;refine gq dB ?_)
   |(refine ab.bif rfl (ad.ag rfl hR ⟨jb,trivial⟩) (fun _=>?_) (fun _=>?_)<;>refine gq dB ?_)
   |(refine bq (fun hb=>?_) (fun hb=>?_)<;>(try simp only [aq] at hb)<;>(first|refine gq dB ?_))
   |(refine az fun m hm=>?_;(try rw [af] at hm);refine gq dB ?_)
   |(refine aS fun _ _=>?_;refine gq dB ?_)
   |(refine ab.ao ?_;refine gq dB ?_)
   |(refine ab.bK ?_;refine gq dB ?_)
   |(refine fq ?_))
  all_goals first
   |(exfalso;omega)
   |(have e:F=0:=by (rw [hF,show B=true by assumption];rfl)
     rw [bw e] at hp
     refine ab.aK (σ:=Int) _ [] ?_ ?_ (by exact⟨sq,rfl,⟨.inl ⟨_,rfl,.arr (by exact⟨kq,trivial⟩)⟩,trivial⟩,rfl,rfl,rfl⟩)<;>first|omega|exact⟨k2+1,by omega,by omega,hp⟩)
   |(have e:F=2:=by (rw [hF,show B=false by assumption];rfl)
     rw [cI (by omega)] at hp;refine dK ?_;omega)
 rw [List.drop_eq_nil_of_le (by omega),aM,bw rfl,rG] at hp
 clear rG
 repeat' (first
  |(refine ab.op rfl (ad.ag rfl hV ⟨lJ,trivial⟩) ?_;refine gq dB ?_)
  |(refine bq (fun hb=>?_) (fun hb=>?_)<;>(try simp only [aq] at hb)<;>(first|refine gq dB ?_))
  |(refine az fun m hm=>?_;(try rw [af] at hm);refine gq dB ?_)
  |(refine ab.ao ?_;refine gq dB ?_)
  )
 all_goals first
  |(exfalso;omega)
  |skip
 obtain⟨T4,Gp⟩:∃ T,T=bh (bW (decide (v=vs.length)) 2) T3:=⟨_,rfl⟩
 rw [<-Gp] at hp
 refine ab.aP (σ:=Int) 1 1 [] (fun q=>[(0,dP ρ ds),(3,.pt 0 6 0 0),(9,bY ρ bJ false vs),(10,.v (.int .i64 q))]) [] (fun _=>[(0,.arr 6 [fW ρ ⟨n,ke,re,g,b,v⟩] 0 true)]) (fun q=>∃ k:Nat,q=k/\k<=vs.length/\E=bh (uy (vs.drop k) k) T4) (fun q=>vs.length - q.toNat) 0 ⟨0,rfl,by simp,by simpa using hp⟩ rfl (by exact⟨sq,rfl,⟨.inl ⟨_,rfl,.arr (by exact⟨kq,trivial⟩)⟩,trivial⟩,rfl,rfl,rfl⟩) ?_
 rintro q3 ⟨k3,uN,sf,hp⟩
 refine gq dB ?_
 by_cases kU:k3 < vs.length
 ·obtain⟨x,hx,aQ⟩:=aA kU
  rw [aQ,uy,bT] at hp
  repeat' (first
   |(refine ab.op rfl (ad.ind rfl rfl (ay (l:=vs) uN hx) (aw fun _=>rfl)) ?_;refine gq dB ?_)
   |(refine bq (fun hb=>?_) (fun hb=>?_)<;>(try simp only [aq] at hb)<;>(first|refine gq dB ?_))
   |(refine az fun m hm=>?_;(try rw [af] at hm);refine gq dB ?_)
   |(refine aS fun _ _=>?_;refine gq dB ?_)
   |(refine ab.ao ?_;refine gq dB ?_)
   |(refine ab.bK ?_;refine gq dB ?_)
   |(refine fq ?_))
  all_goals first
   |(exfalso;omega)
   |(rw [decide_eq_true (show x=k3 by omega),show bW true 2=0 from rfl,bw rfl] at hp
     refine ab.aK (σ:=Int) _ [] ?_ ?_ (by exact⟨sq,rfl,⟨.inl ⟨_,rfl,.arr (by exact⟨kq,trivial⟩)⟩,trivial⟩,rfl,rfl,rfl⟩)<;>first|omega|exact⟨k3+1,by omega,by omega,hp⟩)
   |(rw [decide_eq_false (show ¬ x=k3 by omega),show bW false 2=2 from rfl,cI (by decide)] at hp;refine dK ?_;omega)
 rw [List.drop_eq_nil_of_le (by omega),uy,bw rfl,Gp,rH] at hp
 clear Gp rH
 repeat' (first
  |(refine ab.bif (e:=(n.toList != (⟨#[]⟩:ByteArray).toList)) rfl (ad.bit rfl) (fun hs=>?_) (fun hs=>?_)<;>refine gq dB ?_)
  |(refine ab.bif rfl (ad.ag rfl hN ⟨.v,trivial⟩) (fun _=>?_) (fun _=>?_)<;>refine gq dB ?_)
  |(refine ab.op rfl (ad.ag rfl hMe ⟨cg _,lJ,trivial⟩) ?_;refine gq dB ?_)
  |(refine bq (fun hb=>?_) (fun hb=>?_)<;>(try simp only [aq] at hb)<;>(first|refine gq dB ?_))
  |(refine az fun m hm=>?_;(try rw [af] at hm);refine gq dB ?_)
  |(refine ab.ao ?_;refine gq dB ?_)
  |(refine fq ?_))
 all_goals first
  |(exfalso;omega)
  |(rw [decide_eq_false (show ¬ v=vs.length by omega),show bW false 2=2 from rfl,cI (by decide)] at hp;refine dK ?_;omega)
  |skip
 all_goals rw [decide_eq_true (show v=vs.length by omega),show bW true 2=0 from rfl,bw rfl] at hp
 all_goals first
  |(rw [show NB=true by assumption,Bool.or_true,show bW true 7=0 from rfl,bw rfl] at hp;rw [hp];exact aX.of_eq rfl)
  |(rw [show NB=false by assumption,show ne=false by (rw [bH];simpa using hs)] at hp;rw [hp];exact aX.of_eq rfl)
  |(rw [show ne=true by (rw [bH];simpa using hs),Bool.true_or,show bW true 7=0 from rfl,bw rfl] at hp;rw [hp];exact aX.of_eq rfl)
end
end
section
set_option maxRecDepth 100000
attribute [local irreducible] ah aV ad ab
def Xp:CF Tryz.f77:=⟨_,by conv=>lhs;cbv⟩
theorem agb:aD Tryz.prog 77 Xp.1 Tryz.f77.ntmps:=aO Tryz.func77 Xp.2 Tryz.call77
def jZ:List Nat:=[1,5,4,6,7,2,3,0,11,16,24,29,38,51,56,68]
def Ct (s:List Dc) (d:Dc):Int:=if gJ d.n then (if decide (0<=d.ar) && decide (d.ar<=6) then (if dU s d.n d.ar then 8 else 0) else 9) else 7
def nQ (ds:List Dc):List Dc->Nat->Int
 |[],_=>0
 |d::l,k=>bh (Ct (ds.take k) d) (nQ ds l (k+1))
def rJ (ds:List Dc):List Rl->Nat->Int × Int
 |[],_=>(0,0)
 |r::l,k=>if sA ds r=0 then rJ ds l (k+1) else (k,sA ds r)
def nR (p:Pg):Int × Int:=if p.ds.length<=30 then (if nQ p.ds p.ds 0=0 then (if p.rs.length<=40 then rJ p.ds p.rs 0 else (-1,6)) else (-1,nQ p.ds p.ds 0)) else (-1,6)
section
variable {w0:World}{ρ:Hd}
set_option maxHeartbeats 1000000 in
theorem Oh (p:Pg) (lI:zE p) (hs:∀ r ∈ p.rs,BU r):ah Tryz.prog w0 77 [pg ρ p] (.bc [iv (nR p).1,iv (nR p).2]):=by
 obtain⟨R,hR⟩:∃ R,R=nR p:=⟨_,rfl⟩
 rw [<-hR]
 unfold nR at hR
 obtain⟨ds,rs⟩:=p
 obtain⟨hd,hr,vI,BN⟩:=lI
 dsimp only at hd hr vI BN hR hs
 refine agb.aH (by simp [Tryz.ntmps77]) ((.bc fun a ha=>by simp only [List.mem_cons,List.not_mem_nil,or_false] at ha;rcases ha with rfl|rfl<;>exact .v)) ?_
 refine gq jZ ?_
 repeat' (first
  |(refine bq (fun hb=>?_) (fun hb=>?_)<;>(try simp only [aq] at hb)<;>(first|refine gq jZ ?_))
  |(refine az fun m hm=>?_;(try rw [af] at hm);refine gq jZ ?_)
  |(refine fq ?_))
 ·rw [if_neg (by omega)] at hR
  rw [hR];exact aX.of_eq rfl
 rw [if_pos (by omega)] at hR
 obtain⟨D,hD⟩:∃ D,D=nQ ds ds 0:=⟨_,rfl⟩
 rw [<-hD] at hR
 refine ab.aP (σ:=Int) 1 1 [] (fun q=>[(1,.pt 0 2 0 0),(4,.v (.int .i64 q))]) [] (fun _=>[(0,.arr 2 [iY ρ ⟨ds,rs⟩] 0 true)]) (fun q=>∃ k:Nat,q=k/\k<=ds.length/\D=nQ ds (ds.drop k) k) (fun q=>ds.length - q.toNat) 0 ⟨0,rfl,by simp,by simpa using hD⟩ rfl (by exact⟨sq,rfl,⟨.inl ⟨_,rfl,.arr (by exact⟨kq,trivial⟩)⟩,trivial⟩,rfl,rfl,rfl⟩) ?_
 rintro q ⟨k,hi,hk,hp⟩
 clear hD
 refine gq jZ ?_
 by_cases au:k < ds.length
 ·obtain⟨x,hx,aQ⟩:=aA au
  rw [aQ,nQ] at hp
  have hN:=tR (w0:=w0) x.n (vI x (List.mem_of_getElem? hx))
  have R8:=pY (w0:=w0) (ρ:=ρ) (ds.take k) x.n x.ar (by rw [List.length_take];omega)
  obtain⟨F,hF⟩:∃ F,F=Ct (ds.take k) x:=⟨_,rfl⟩
  rw [<-hF] at hp
  unfold Ct at hF
  obtain⟨NB,zr⟩:∃ b,b=gJ x.n:=⟨_,rfl⟩
  obtain⟨DB,hDB⟩:∃ b,b=dU (ds.take k) x.n x.ar:=⟨_,rfl⟩
  rw [<-zr] at hN hF
  rw [<-hDB] at R8 hF
  clear zr hDB
  obtain⟨tk,zD⟩:∃ l,l=ds.take k:=⟨_,rfl⟩
  rw [<-zD] at R8
  obtain⟨xn,xa⟩:=x
  dsimp only at hN R8 hF
  repeat' (first
   |(refine ab.op rfl (ad.ind rfl rfl (ay (l:=ds) hi hx) (aw fun _=>rfl)) ?_;refine gq jZ ?_)
   |(refine ab.bif rfl (ad.ag rfl hN ⟨.v,trivial⟩) (fun _=>?_) (fun _=>?_)<;>refine gq jZ ?_)
   |(refine ab.gen (dP ρ) rfl (ad.NQ rfl rfl rfl (fun _=>rfl) (by decide) (by omega) (by omega)) (fun q2 DX=>?_);obtain rfl:q2=tk:=(by rw [DX,zD,Int.toNat_zero,List.drop_zero];try (congr 1;omega));refine gq jZ ?_)
   |(refine ab.bif rfl (ad.ag rfl R8 ⟨cg _,.v,.v,trivial⟩) (fun _=>?_) (fun _=>?_)<;>refine gq jZ ?_)
   |(refine bq (fun hb=>?_) (fun hb=>?_)<;>(try simp only [aq] at hb)<;>(first|refine gq jZ ?_))
   |(refine az fun m hm=>?_;(try rw [af] at hm);refine gq jZ ?_)
   |(refine aS fun _ _=>?_;refine gq jZ ?_)
   |(refine ab.ao ?_;refine gq jZ ?_)
   |(refine ab.bK ?_;refine gq jZ ?_)
   |(refine fq ?_))
  all_goals first
   |(exfalso;omega)
   |(have e:F=7:=by (rw [hF,show NB=false by assumption];rfl)
     rw [cI (by omega)] at hp;rw [if_neg (show ¬ D=0 by omega)] at hR;rw [hR,hp,e];exact aX.of_eq rfl)
   |(have e:F=9:=by (rw [hF,show NB=true by assumption,decide_eq_false (show ¬ 0<=xa by omega)];rfl)
     rw [cI (by omega)] at hp;rw [if_neg (show ¬ D=0 by omega)] at hR;rw [hR,hp,e];exact aX.of_eq rfl)
   |(have e:F=9:=by (rw [hF,show NB=true by assumption,decide_eq_true (show 0<=xa by omega),decide_eq_false (show ¬ xa<=6 by omega)];rfl)
     rw [cI (by omega)] at hp;rw [if_neg (show ¬ D=0 by omega)] at hR;rw [hR,hp,e];exact aX.of_eq rfl)
   |(have e:F=8:=by (rw [hF,show NB=true by assumption,decide_eq_true (show 0<=xa by omega),decide_eq_true (show xa<=6 by omega),show DB=true by assumption];rfl)
     rw [cI (by omega)] at hp;rw [if_neg (show ¬ D=0 by omega)] at hR;rw [hR,hp,e];exact aX.of_eq rfl)
   |(have e:F=0:=by (rw [hF,show NB=true by assumption,decide_eq_true (show 0<=xa by omega),decide_eq_true (show xa<=6 by omega),show DB=false by assumption];rfl)
     rw [bw e] at hp
     refine ab.aK (σ:=Int) _ [] ?_ ?_ (by exact⟨sq,rfl,⟨.inl ⟨_,rfl,.arr (by exact⟨kq,trivial⟩)⟩,trivial⟩,rfl,rfl,rfl⟩)<;>first|omega|exact⟨k+1,by omega,by omega,hp⟩)
 rw [List.drop_eq_nil_of_le (by omega),nQ] at hp
 rw [if_pos hp] at hR
 clear hp
 repeat' (first
  |(refine bq (fun hb=>?_) (fun hb=>?_)<;>(try simp only [aq] at hb)<;>(first|refine gq jZ ?_))
  |(refine az fun m hm=>?_;(try rw [af] at hm);refine gq jZ ?_)
  |(refine ab.ao ?_;refine gq jZ ?_)
  |(refine fq ?_))
 all_goals first
  |(exfalso;omega)
  |(rw [if_neg (by omega)] at hR;rw [hR];exact aX.of_eq rfl)
  |skip
 rw [if_pos (by omega)] at hR
 refine ab.aP (σ:=Int) 1 1 [] (fun q=>[(1,.pt 0 2 0 0),(6,.v (.int .i64 q))]) [] (fun _=>[(0,.arr 2 [iY ρ ⟨ds,rs⟩] 0 true)]) (fun q=>∃ k:Nat,q=k/\k<=rs.length/\R=rJ ds (rs.drop k) k) (fun q=>rs.length - q.toNat) 0 ⟨0,rfl,by simp,by simpa using hR⟩ rfl (by exact⟨sq,rfl,⟨.inl ⟨_,rfl,.arr (by exact⟨kq,trivial⟩)⟩,trivial⟩,rfl,rfl,rfl⟩) ?_
 rintro q2 ⟨k2,nZ,dD,hp⟩
 clear hR
 refine gq jZ ?_
 by_cases iM:k2 < rs.length
 ·obtain⟨x,hx,aQ⟩:=aA iM
  rw [aQ,rJ] at hp
  have hC:=Uq (w0:=w0) (ρ:=ρ) ds x hd (BN x (List.mem_of_getElem? hx)) (hs x (List.mem_of_getElem? hx))
  obtain⟨F,mq⟩:∃ F,F=sA ds x:=⟨_,rfl⟩
  rw [<-mq] at hp hC
  have jb:=iz (ρ:=ρ) x
  obtain⟨n,ke,re,g,b,v⟩:=x
  repeat' (first
   |(refine ab.op rfl (ad.ind rfl rfl (ay (l:=rs) nZ hx) (aw fun _=>rfl)) ?_;refine gq jZ ?_)
   |((refine ab.int rfl (ad.ag rfl hC ⟨cg _,jb,trivial⟩) fun d2 ey=>?_;refine gq jZ ?_))
   |(refine bq (fun hb=>?_) (fun hb=>?_)<;>(try simp only [aq] at hb)<;>(first|refine gq jZ ?_))
   |(refine az fun m hm=>?_;(try rw [af] at hm);refine gq jZ ?_)
   |(refine aS fun _ _=>?_;refine gq jZ ?_)
   |(refine ab.ao ?_;refine gq jZ ?_)
   |(refine ab.bK ?_;refine gq jZ ?_)
   |(refine fq ?_))
  all_goals first
   |(exfalso;omega)
   |(rw [if_pos (show F=0 by omega)] at hp
     refine ab.aK (σ:=Int) _ [] ?_ ?_ (by exact⟨sq,rfl,⟨.inl ⟨_,rfl,.arr (by exact⟨kq,trivial⟩)⟩,trivial⟩,rfl,rfl,rfl⟩)<;>first|omega|exact⟨k2+1,by omega,by omega,hp⟩)
   |(rw [if_neg (show ¬ F=0 by omega)] at hp;subst ey;rw [hp,<-nZ];exact aX.of_eq rfl)
 rw [List.drop_eq_nil_of_le (by omega),rJ] at hp
 repeat' (first
  |(refine bq (fun hb=>?_) (fun hb=>?_)<;>(try simp only [aq] at hb)<;>(first|refine gq jZ ?_))
  |(refine az fun m hm=>?_;(try rw [af] at hm);refine gq jZ ?_)
  |(refine ab.ao ?_;refine gq jZ ?_)
  |(refine fq ?_))
 all_goals first
  |(exfalso;omega)
  |(rw [hp];exact aX.of_eq rfl)
end
end
end Go.Proofs.YtgphljokbodciaaGreat
