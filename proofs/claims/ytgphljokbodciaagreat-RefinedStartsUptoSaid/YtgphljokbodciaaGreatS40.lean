import Derived.Test.YtgphljokbodciaaGreatS39
namespace Go.Proofs.YtgphljokbodciaaGreat
set_option linter.unusedVariables false
set_option linter.unusedSimpArgs false
open Go.RowKit
section
set_option maxRecDepth 100000
attribute [local irreducible] ah aV ad ab
def R2:CF Tryz.f174:=⟨_,by conv=>lhs;cbv⟩
theorem ac9:aD Tryz.prog 174 R2.1 Tryz.f174.ntmps:=aO Tryz.func174 R2.2 Tryz.call174
def dB:List Nat:=[3,5,10,7,8,9,6,4,1,34,38,46,50,58,64,72,77,86,0]
def Gn (vs:List Int) (x:Int):Int:=bW (vs.contains x) 17
def El (vs:List Int) (x:Gl):Int:=aM (Gn vs) (varsOf x.a)
def J9 (r:Rl):Int:=bh (aM (El (varsOf (dJ (r.aT++r.rem)))) r.guard) 0
def J_ (r:Rl):Int:=bh (aM zo r.guard) (bh (aM vR r.body) (J9 r))
def oP (ds:List Dc) (r:Rl):Int:=bh (aM (tu ds) (r.aT++r.rem)) (bh (gE ds (r.guard++r.body)) (J_ r))
structure BU (r:Rl):Prop where
 h:r.aT.length+r.rem.length<=549755813888
 g:r.guard.length+r.body.length<=549755813888
 a:(dJ (r.aT++r.rem)++ji (r.guard++r.body)).length<=549755813888
 k:er (dJ (r.aT++r.rem)++ji (r.guard++r.body))
 v:(aY (dJ (r.aT++r.rem)++ji (r.guard++r.body))).length<=1099511627776
theorem Em:∀ {a b:List Tm},er (a++b)->er a
 |[],_,_=>trivial
 |_::_,_,h=>⟨h.1,Em h.2⟩
theorem ux (a b:List Tm):aY (a++b)=aY a++aY b:=by
 induction a with
 |nil=>rfl
 |cons x a ih=>rw [List.cons_append,aY,aY,ih,List.append_assoc]
section
variable {w0:World}{ρ:Hd}
theorem LO (r:Rl) (h:BU r):ah Tryz.prog w0 402 [rl ρ r] (bY ρ bJ false (varsOf (dJ (r.aT++r.rem))))/\(varsOf (dJ (r.aT++r.rem))).length<=1099511627776:=by
 have h1:=h.a
 have h2:=h.v
 rw [List.length_append] at h1
 rw [ux,List.length_append] at h2
 exact⟨JU r h.h (by omega) (Em h.k) (by omega),Nat.le_trans (gp _ _) (by omega)⟩
set_option maxHeartbeats 4000000 in
theorem LP (ds:List Dc) (r:Rl) (hd:ds.length<=1099511627776) (hr:vS r) (hs:BU r):ah Tryz.prog w0 304 [dP ρ ds,rl ρ r] (iv (oP ds r)):=by
 have hH:=wI (w0:=w0) (ρ:=ρ) r hs.h
 have hG:=Ar (w0:=w0) (ρ:=ρ) r hs.g
 obtain⟨R3,R4⟩:=LO (w0:=w0) (ρ:=ρ) r hs
 have sn:(r.aT++r.rem).length<=549755813888:=by rw [List.length_append];exact hs.h
 have Ed:(r.guard++r.body).length<=549755813888:=by rw [List.length_append];exact hs.g
 have En:∀ x ∈ r.aT++r.rem,nv x.a/\x.n.size<=1099511627776:=fun x hx=>by
  rcases List.mem_append.1 hx with h|h
  ·exact hr.kx x h
  ·exact hr.rx x h
 have R5:=Uo (w0:=w0) (ρ:=ρ) ds (r.guard++r.body) hd (by omega) (fun x hx=>by
  rcases List.mem_append.1 hx with h|h
  ·exact (hr.gx x h).1.len
  ·exact (hr.bx x h).1.len)
 have lJ:=iz (ρ:=ρ) r
 have Eo:=hr.gx
 have zK:=hr.g
 have td:=hr.b
 obtain⟨E,hp⟩:∃ E,E=oP ds r:=⟨_,rfl⟩
 rw [<-hp]
 unfold oP J_ J9 at hp
 clear hs hr
 obtain⟨n,ke,re,g,b,v⟩:=r
 dsimp only at hp hH hG R3 R4 sn Ed En R5 Eo zK td
 obtain⟨L,hL⟩:∃ L,L=ke++re:=⟨_,rfl⟩
 rw [<-hL] at hp hH R3 R4 sn En
 obtain⟨M,hM⟩:∃ M,M=g++b:=⟨_,rfl⟩
 rw [<-hM] at hp hG Ed R5
 obtain⟨W,hW⟩:∃ W,W=varsOf (dJ L):=⟨_,rfl⟩
 rw [<-hW] at hp R3 R4
 obtain⟨F1,mq⟩:∃ F,F=gE ds M:=⟨_,rfl⟩
 rw [<-mq] at hp R5
 clear hL hM hW mq
 obtain⟨T1,pd⟩:∃ T,T=bh F1 (bh (aM zo g) (bh (aM vR b) (bh (aM (El W) g) 0))):=⟨_,rfl⟩
 rw [<-pd] at hp
 refine ac2.aH (by simp [Tryz.ntmps304]) (.v) ?_
 refine gq cB ?_
 repeat' (first
  |(refine ab.op rfl (ad.ag rfl hH ⟨lJ,trivial⟩) ?_;refine gq cB ?_)
  )
 refine ab.aP (σ:=Int) 1 1 [] (fun q=>[(0,dP ρ ds),(3,.pt 0 6 0 0),(5,eK ρ L),(6,.v (.int .i64 q))]) [] (fun _=>[(0,.arr 6 [fW ρ ⟨n,ke,re,g,b,v⟩] 0 true)]) (fun q=>∃ k:Nat,q=k/\k<=L.length/\E=bh (aM (tu ds) (L.drop k)) T1) (fun q=>L.length - q.toNat) 0 ⟨0,rfl,by simp,by simpa using hp⟩ rfl (by exact⟨sq,rfl,⟨.inl ⟨_,rfl,.arr (by exact⟨kq,trivial⟩)⟩,trivial⟩,rfl,rfl,rfl⟩) ?_
 rintro q ⟨k,hi,hk,hp⟩
 refine gq cB ?_
 by_cases au:k < L.length
 ·obtain⟨x,hx,aQ⟩:=aA au
  rw [aQ,aM,bT] at hp
  have pa:=(En x (List.mem_of_getElem? hx)).1.len
  obtain⟨F,hF⟩:∃ F,F=tu ds x:=⟨_,rfl⟩
  rw [<-hF] at hp
  have hD:=BS (w0:=w0) (ρ:=ρ) ds x.n x.a.length hd
  rw [show lf ds x.n x.a.length=F from hF.symm] at hD
  clear hF
  obtain⟨xn,xa⟩:=x
  dsimp only at hD pa
  obtain⟨q3,BF⟩:∃ q:Int,q=xa.length:=⟨_,rfl⟩
  rw [<-BF] at hD
  refine ab.int rfl (ad.len rfl) fun m0 o7=>?_;rw [af] at o7
  refine gq cB ?_
  repeat' (first
   |(refine ab.op rfl (ad.ind rfl rfl (ay (l:=L) hi hx) (aw fun _=>rfl)) ?_;refine gq cB ?_)
   |(refine ab.int rfl (ad.len rfl) fun m hm=>?_;rw [af] at hm;obtain rfl:m=q3:=(by omega);refine gq cB ?_)
   |((refine ab.int rfl (ad.ag rfl hD ⟨cg _,.v,.v,trivial⟩) fun d ey=>?_;refine gq cB ?_))
   |(refine bq (fun hb=>?_) (fun hb=>?_)<;>(try simp only [aq] at hb)<;>(first|refine gq cB ?_))
   |(refine aS fun _ _=>?_;refine gq cB ?_)
   |(refine ab.ao ?_;refine gq cB ?_)
   |(refine ab.bK ?_;refine gq cB ?_)
   |(refine fq ?_))
  all_goals first
   |(exfalso;omega)
   |(rw [bw (show F=0 by omega)] at hp
     refine ab.aK (σ:=Int) _ [] ?_ ?_ (by exact⟨sq,rfl,⟨.inl ⟨_,rfl,.arr (by exact⟨kq,trivial⟩)⟩,trivial⟩,rfl,rfl,rfl⟩)<;>first|omega|exact⟨k+1,by omega,by omega,hp⟩)
   |(rw [cI (show ¬ F=0 by omega)] at hp;refine dK ?_;omega)
 rw [List.drop_eq_nil_of_le (by omega),aM,bw rfl,pd] at hp
 clear pd
 refine ab.int rfl (ad.len rfl) fun m0 o7=>?_;rw [af] at o7
 refine gq cB ?_
 repeat' (first
  |(refine ab.op rfl (ad.ag rfl hG ⟨lJ,trivial⟩) ?_;refine gq cB ?_)
  |((refine ab.int rfl (ad.ag rfl R5 ⟨cg _,cV _,trivial⟩) fun d ey=>?_;refine gq cB ?_))
  |(refine bq (fun hb=>?_) (fun hb=>?_)<;>(try simp only [aq] at hb)<;>(first|refine gq cB ?_))
  |(refine ab.ao ?_;refine gq cB ?_)
  |(refine fq ?_))
 all_goals first
  |(exfalso;omega)
  |(rw [cI (show ¬ F1=0 by omega)] at hp;refine dK ?_;omega)
  |skip
 rw [bw (show F1=0 by omega)] at hp
 obtain⟨T2,rG⟩:∃ T,T=bh (aM vR b) (bh (aM (El W) g) 0):=⟨_,rfl⟩
 rw [<-rG] at hp
 refine ab.aP (σ:=Int) 1 1 [] (fun q=>[(3,.pt 0 6 0 0),(9,.v (.int .i64 q))]) [] (fun _=>[(0,.arr 6 [fW ρ ⟨n,ke,re,g,b,v⟩] 0 true)]) (fun q=>∃ k:Nat,q=k/\k<=g.length/\E=bh (aM zo (g.drop k)) T2) (fun q=>g.length - q.toNat) 0 ⟨0,rfl,by simp,by simpa using hp⟩ rfl (by exact⟨sq,rfl,⟨.inl ⟨_,rfl,.arr (by exact⟨kq,trivial⟩)⟩,trivial⟩,rfl,rfl,rfl⟩) ?_
 rintro q ⟨k,hi,hk,hp⟩
 refine gq cB ?_
 by_cases au:k < g.length
 ·obtain⟨x,hx,aQ⟩:=aA au
  rw [aQ,aM,bT] at hp
  have hT:=LI (w0:=w0) x.op
  obtain⟨B,hB⟩:∃ B,B=oW x.op:=⟨_,rfl⟩
  obtain⟨F,hF⟩:∃ F,F=zo x:=⟨_,rfl⟩
  rw [<-hF] at hp
  rw [zo,<-hB] at hF
  rw [<-hB] at hT
  clear hB
  obtain⟨xo,xn,xa⟩:=x
  dsimp only at hT hF
  repeat' (first
   |(refine ab.op rfl (ad.ind rfl rfl (ay (l:=g) hi hx) (aw fun _=>rfl)) ?_;refine gq cB ?_)
   |(refine ab.bif rfl (ad.ag rfl hT ⟨.v,trivial⟩) (fun _=>?_) (fun _=>?_)<;>refine gq cB ?_)
   |(refine bq (fun hb=>?_) (fun hb=>?_)<;>(try simp only [aq] at hb)<;>(first|refine gq cB ?_))
   |(refine az fun m hm=>?_;(try rw [af] at hm);refine gq cB ?_)
   |(refine aS fun _ _=>?_;refine gq cB ?_)
   |(refine ab.ao ?_;refine gq cB ?_)
   |(refine ab.bK ?_;refine gq cB ?_)
   |(refine fq ?_))
  all_goals first
   |(exfalso;omega)
   |(have e:F=0:=by (first|(rw [hF,show B=true by assumption];rfl)|(rw [hF,decide_eq_true (show xo=1 by omega),Bool.or_true];rfl))
     rw [bw e] at hp
     refine ab.aK (σ:=Int) _ [] ?_ ?_ (by exact⟨sq,rfl,⟨.inl ⟨_,rfl,.arr (by exact⟨kq,trivial⟩)⟩,trivial⟩,rfl,rfl,rfl⟩)<;>first|omega|exact⟨k+1,by omega,by omega,hp⟩)
   |(have e:F=10:=by (rw [hF,show B=false by assumption,decide_eq_false (show ¬ xo=1 by omega)];rfl)
     rw [cI (by omega)] at hp;refine dK ?_;omega)
 rw [List.drop_eq_nil_of_le (by omega),aM,bw rfl,rG] at hp
 clear rG
 repeat' (first
  |(refine bq (fun hb=>?_) (fun hb=>?_)<;>(try simp only [aq] at hb)<;>(first|refine gq cB ?_))
  |(refine az fun m hm=>?_;(try rw [af] at hm);refine gq cB ?_)
  |(refine ab.ao ?_;refine gq cB ?_)
  )
 all_goals first
  |(exfalso;omega)
  |skip
 obtain⟨T3,rH⟩:∃ T,T=bh (aM (El W) g) 0:=⟨_,rfl⟩
 rw [<-rH] at hp
 refine ab.aP (σ:=Int) 1 1 [] (fun q=>[(3,.pt 0 6 0 0),(10,.v (.int .i64 q))]) [] (fun _=>[(0,.arr 6 [fW ρ ⟨n,ke,re,g,b,v⟩] 0 true)]) (fun q=>∃ k:Nat,q=k/\k<=b.length/\E=bh (aM vR (b.drop k)) T3) (fun q=>b.length - q.toNat) 0 ⟨0,rfl,by simp,by simpa using hp⟩ rfl (by exact⟨sq,rfl,⟨.inl ⟨_,rfl,.arr (by exact⟨kq,trivial⟩)⟩,trivial⟩,rfl,rfl,rfl⟩) ?_
 rintro q2 ⟨k2,nZ,dD,hp⟩
 refine gq cB ?_
 by_cases iM:k2 < b.length
 ·obtain⟨x,hx,aQ⟩:=aA iM
  rw [aQ,aM,bT] at hp
  have hT:=LI (w0:=w0) x.op
  obtain⟨B,hB⟩:∃ B,B=oW x.op:=⟨_,rfl⟩
  obtain⟨F,hF⟩:∃ F,F=vR x:=⟨_,rfl⟩
  rw [<-hF] at hp
  rw [vR,<-hB] at hF
  rw [<-hB] at hT
  clear hB
  obtain⟨xo,xn,xa⟩:=x
  dsimp only at hT hF
  repeat' (first
   |(refine ab.op rfl (ad.ind rfl rfl (ay (l:=b) nZ hx) (aw fun _=>rfl)) ?_;refine gq cB ?_)
   |(refine ab.bif rfl (ad.ag rfl hT ⟨.v,trivial⟩) (fun _=>?_) (fun _=>?_)<;>refine gq cB ?_)
   |(refine bq (fun hb=>?_) (fun hb=>?_)<;>(try simp only [aq] at hb)<;>(first|refine gq cB ?_))
   |(refine az fun m hm=>?_;(try rw [af] at hm);refine gq cB ?_)
   |(refine aS fun _ _=>?_;refine gq cB ?_)
   |(refine ab.ao ?_;refine gq cB ?_)
   |(refine ab.bK ?_;refine gq cB ?_)
   |(refine fq ?_))
  all_goals first
   |(exfalso;omega)
   |(have e:F=0:=by (rw [hF,show B=false by assumption];rfl)
     rw [bw e] at hp
     refine ab.aK (σ:=Int) _ [] ?_ ?_ (by exact⟨sq,rfl,⟨.inl ⟨_,rfl,.arr (by exact⟨kq,trivial⟩)⟩,trivial⟩,rfl,rfl,rfl⟩)<;>first|omega|exact⟨k2+1,by omega,by omega,hp⟩)
   |(have e:F=10:=by (rw [hF,show B=true by assumption];rfl)
     rw [cI (by omega)] at hp;refine dK ?_;omega)
 rw [List.drop_eq_nil_of_le (by omega),aM,bw rfl,rH] at hp
 clear rH
 repeat' (first
  |(refine ab.op rfl (ad.ag rfl R3 ⟨lJ,trivial⟩) ?_;refine gq cB ?_)
  |(refine bq (fun hb=>?_) (fun hb=>?_)<;>(try simp only [aq] at hb)<;>(first|refine gq cB ?_))
  |(refine az fun m hm=>?_;(try rw [af] at hm);refine gq cB ?_)
  |(refine ab.ao ?_;refine gq cB ?_)
  )
 all_goals first
  |(exfalso;omega)
  |skip
 refine ab.aP (σ:=Int) 1 1 [] (fun q=>[(3,.pt 0 6 0 0),(11,bY ρ bJ false W),(12,.v (.int .i64 q))]) [] (fun _=>[(0,.arr 6 [fW ρ ⟨n,ke,re,g,b,v⟩] 0 true)]) (fun q=>∃ k:Nat,q=k/\k<=g.length/\E=bh (aM (El W) (g.drop k)) 0) (fun q=>g.length - q.toNat) 0 ⟨0,rfl,by simp,by simpa using hp⟩ rfl (by exact⟨sq,rfl,⟨.inl ⟨_,rfl,.arr (by exact⟨kq,trivial⟩)⟩,trivial⟩,rfl,rfl,rfl⟩) ?_
 rintro q3 ⟨k3,uN,sf,hp⟩
 refine gq cB ?_
 by_cases kU:k3 < g.length
 ·obtain⟨x,hx,aQ⟩:=aA kU
  have R6:=Eo x (List.mem_of_getElem? hx)
  have hV:=yW (w0:=w0) (ρ:=ρ) x R6.1.len R6.1.1 (qu R6.1)
  have s9:=oZ R6.1
  rw [aQ,aM,bT,El] at hp
  obtain⟨vs,jH⟩:∃ vs,vs=varsOf x.a:=⟨_,rfl⟩
  rw [<-jH] at hp hV s9
  have jb:=eE (ρ:=ρ) x
  obtain⟨xo,xn,xa⟩:=x
  obtain⟨T4,Gp⟩:∃ T,T=bh (aM (El W) (g.drop (k3+1))) 0:=⟨_,rfl⟩
  rw [<-Gp] at hp
  repeat' (first
   |(refine ab.op rfl (ad.ind rfl rfl (ay (l:=g) uN hx) (aw fun _=>rfl)) ?_;refine gq cB ?_)
   |(refine ab.op rfl (ad.ag rfl hV ⟨jb,trivial⟩) ?_;refine gq cB ?_)
   |(refine bq (fun hb=>?_) (fun hb=>?_)<;>(try simp only [aq] at hb)<;>(first|refine gq cB ?_))
   |(refine az fun m hm=>?_;(try rw [af] at hm);refine gq cB ?_)
   |(refine ab.ao ?_;refine gq cB ?_)
   |(refine fq ?_))
  all_goals first
   |(exfalso;omega)
   |skip
  refine ab.aP (σ:=Int) 1 1 [] (fun t=>[(3,.pt 0 6 0 0),(11,bY ρ bJ false W),(12,.v (.int .i64 q3)),(13,bY ρ bJ false vs),(14,.v (.int .i64 t))]) [] (fun _=>[(0,.arr 6 [fW ρ ⟨n,ke,re,g,b,v⟩] 0 true)]) (fun t=>∃ k:Nat,t=k/\k<=vs.length/\E=bh (aM (Gn W) (vs.drop k)) T4) (fun t=>vs.length - t.toNat) 0 ⟨0,rfl,by simp,by simpa using hp⟩ rfl (by exact⟨sq,rfl,⟨.inl ⟨_,rfl,.arr (by exact⟨kq,trivial⟩)⟩,trivial⟩,rfl,rfl,rfl⟩) ?_
  rintro t ⟨k4,R7,RB,hp⟩
  refine gq cB ?_
  by_cases Og:k4 < vs.length
  ·obtain⟨y,hy,cT⟩:=aA Og
   rw [cT,aM,bT] at hp
   have hI:=af8 (w0:=w0) (ρ:=ρ) W y R4
   obtain⟨B,hB⟩:∃ B,B=W.contains y:=⟨_,rfl⟩
   obtain⟨F,hF⟩:∃ F,F=Gn W y:=⟨_,rfl⟩
   rw [<-hF] at hp
   rw [Gn,<-hB] at hF
   rw [<-hB] at hI
   clear hB
   repeat' (first
    |(refine ab.op rfl (ad.ind rfl rfl (ay (l:=vs) R7 hy) (aw fun _=>rfl)) ?_;refine gq cB ?_)
    |(refine ab.bif rfl (ad.ag rfl hI ⟨bR _,.v,trivial⟩) (fun _=>?_) (fun _=>?_)<;>refine gq cB ?_)
    |(refine bq (fun hb=>?_) (fun hb=>?_)<;>(try simp only [aq] at hb)<;>(first|refine gq cB ?_))
    |(refine az fun m hm=>?_;(try rw [af] at hm);refine gq cB ?_)
    |(refine aS fun _ _=>?_;refine gq cB ?_)
    |(refine ab.ao ?_;refine gq cB ?_)
    |(refine ab.bK ?_;refine gq cB ?_)
    |(refine fq ?_))
   all_goals first
    |(exfalso;omega)
    |(have e:F=0:=by (rw [hF,show B=true by assumption];rfl)
      rw [bw e] at hp
      refine ab.aK (σ:=Int) _ [] ?_ ?_ (by exact⟨sq,rfl,⟨.inl ⟨_,rfl,.arr (by exact⟨kq,trivial⟩)⟩,trivial⟩,rfl,rfl,rfl⟩)<;>first|omega|exact⟨k4+1,by omega,by omega,hp⟩)
    |(have e:F=17:=by (rw [hF,show B=false by assumption];rfl)
      rw [cI (by omega)] at hp;refine dK ?_;omega)
  rw [List.drop_eq_nil_of_le (by omega),aM,bw rfl,Gp] at hp
  repeat' (first
   |(refine bq (fun hb=>?_) (fun hb=>?_)<;>(try simp only [aq] at hb)<;>(first|refine gq cB ?_))
   |(refine az fun m hm=>?_;(try rw [af] at hm);refine gq cB ?_)
   |(refine aS fun _ _=>?_;refine gq cB ?_)
   |(refine ab.ao ?_;refine gq cB ?_)
   )
  all_goals first
   |(exfalso;omega)
   |(refine ab.aK (σ:=Int) _ [] ?_ ?_ (by exact⟨sq,rfl,⟨.inl ⟨_,rfl,.arr (by exact⟨kq,trivial⟩)⟩,trivial⟩,rfl,rfl,rfl⟩)<;>first|omega|exact⟨k3+1,by omega,by omega,hp⟩)
 rw [List.drop_eq_nil_of_le (by omega),aM,bw rfl] at hp
 repeat' (first
  |(refine bq (fun hb=>?_) (fun hb=>?_)<;>(try simp only [aq] at hb)<;>(first|refine gq cB ?_))
  |(refine az fun m hm=>?_;(try rw [af] at hm);refine gq cB ?_)
  |(refine ab.ao ?_;refine gq cB ?_)
  |(refine fq ?_))
 all_goals first
  |(exfalso;omega)
  |(refine dK ?_;omega)
end
end
end Go.Proofs.YtgphljokbodciaaGreat
