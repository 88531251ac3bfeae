import Derived.Test.YtgphljokbodciaaGreatS31
namespace Go.Proofs.YtgphljokbodciaaGreat
set_option linter.unusedVariables false
set_option linter.unusedSimpArgs false
open Go.RowKit
section
set_option maxRecDepth 100000
attribute [local irreducible] ah aV ad ab
def Rz:CF Tryz.f283:=⟨_,by conv=>lhs;cbv⟩
theorem aa4:aD Tryz.prog 283 Rz.1 Tryz.f283.ntmps:=aO Tryz.func283 Rz.2 Tryz.call283
def aJ:List Nat:=[0,11,56,61,75,80,103,136,141,1,165,182,203,2,13,17,19,57,55,4,60,62,59,6,76,74,8,79,81,78,10,102,104,101,113,137,135,15,140,142,139,164,166,163,181,183,180,21,202,204,201,22,24]
def bW (b:Bool) (e:Int):Int:=if b then 0 else e
theorem bT {a b c:Int}:bh (bh a b) c=bh a (bh b c):=by
 unfold bh
 split<;>simp_all
def aM {T:Type}(f:T->Int):List T->Int
 |[]=>0
 |x::l=>bh (f x) (aM f l)
theorem sV (ds:List Dc) (l:List Gl):gE ds l=aM (mD ds) l:=by
 induction l with
 |nil=>rfl
 |cons x l ih=>rw [gE,aM,ih]
def um:List Int->Int->(Int->Int)->Int
 |[],n,k=>k n
 |v::vs,n,k=>if v<=n then um vs (if v=n then n+1 else n) k else 2
def pO (x:At):Int:=bW (eu x) 2
def o_ (x:Gl):Int:=bW (eS x) 2
def tu (ds:List Dc) (x:At):Int:=lf ds x.n x.a.length
def zo (x:Gl):Int:=bW (oW x.op || decide (x.op=1)) 10
def vR (x:Gl):Int:=bW (!oW x.op) 10
def pP (r:Rl):List Int:=zj [r.aT,r.rem]
def tv (r:Rl):List Int:=oe [r.guard,r.body]
def Lv (r:Rl) (x:Int):Int:=bW ((pP r).contains x) 17
def zp (r:Rl):Int:=bh (aM (Lv r) (oe [r.guard])) 0
def H5 (r:Rl):Int:=bh (aM zo r.guard) (bh (aM vR r.body) (zp r))
def sg (ds:List Dc) (r:Rl):Int:=bh (gE ds r.guard) (bh (gE ds r.body) (H5 r))
def Cr (ds:List Dc) (r:Rl):Int:=bh (aM (tu ds) r.aT) (bh (aM (tu ds) r.rem) (sg ds r))
def wN (ds:List Dc) (r:Rl):Int:=bh (bW (r.n.toList == (⟨#[]⟩:ByteArray).toList || gJ r.n) 7) (Cr ds r)
def sh (ds:List Dc) (r:Rl):Int:=um (pP r++tv r) 0 fun n=>bh (bW (decide (r.vars=n)) 2) (wN ds r)
def sj (ds:List Dc) (r:Rl):Int:=bh (aM o_ r.guard) (bh (aM o_ r.body) (sh ds r))
def H6 (ds:List Dc) (r:Rl):Int:=bh (aM pO r.aT) (bh (aM pO r.rem) (sj ds r))
def zq (r:Rl):Bool:=decide (0 < r.aT.length+r.rem.length) && decide (r.aT.length+r.rem.length<=4) && decide (r.guard.length<=12) && decide (r.body.length<=12)
def oY (ds:List Dc) (r:Rl):Int:=bh (bW (zq r) 6) (H6 ds r)
structure vS (r:Rl):Prop where
 n:r.n.size<=1099511627776
 ke:r.aT.length<=1099511627776
 re:r.rem.length<=1099511627776
 g:r.guard.length<=1099511627776
 b:r.body.length<=1099511627776
 kx:∀ x ∈ r.aT,nv x.a/\x.n.size<=1099511627776
 rx:∀ x ∈ r.rem,nv x.a/\x.n.size<=1099511627776
 gx:∀ x ∈ r.guard,q9 x
 bx:∀ x ∈ r.body,q9 x
 av:(pP r).length<=549755813888
 gv:(tv r).length<=549755813888
section
variable {w0:World}{ρ:Hd}
theorem nv.xm {a:List Tm}(h:nv a):xm a:=⟨h.len,h.1,qu h⟩
theorem RA (r:Rl) (h:vS r):∃ len,len=(pP r).length/\aV Tryz.prog w0 284 [.sl true [[eK ρ r.aT],[eK ρ r.rem]]] (aE [] 0) (.gr 0 1 len) (aE [(0,mg ρ (pP r))] 1):=by
 obtain⟨len,h1,h2⟩:=afW (w0:=w0) (ρ:=ρ) [r.aT,r.rem] (by simp) (fun l hl=>by
  simp only [List.mem_cons,List.not_mem_nil,or_false] at hl
  rcases hl with rfl|rfl
  ·exact⟨h.ke,fun x hx=>(h.kx x hx).1.xm⟩
  ·exact⟨h.re,fun x hx=>(h.rx x hx).1.xm⟩) _ rfl (by have:=h.av;unfold pP at this;omega)
 rw [dE] at h2
 exact⟨len,h1,h2⟩
theorem aa5 (r:Rl) (h:vS r):ah Tryz.prog w0 284 [.sl true [[eK ρ r.aT],[eK ρ r.rem]]] (bY ρ bJ false (pP r)):=by
 obtain⟨len,h1,h2⟩:=RA (w0:=w0) (ρ:=ρ) r h
 exact ah.KV h2 (aX.grow rfl h1) (bR _)
theorem aa6 (r:Rl) (h:vS r):ah Tryz.prog w0 285 [.sl true [[dC ρ r.guard],[dC ρ r.body]]] (bY ρ bJ false (tv r)):=by
 have h2:=WE (w0:=w0) (ρ:=ρ) [r.guard,r.body] (by simp) (fun l hl=>by
  simp only [List.mem_cons,List.not_mem_nil,or_false] at hl
  rcases hl with rfl|rfl
  ·exact⟨h.g,fun x hx=>(h.gx x hx).1.xm⟩
  ·exact⟨h.b,fun x hx=>(h.bx x hx).1.xm⟩) (by have:=h.gv;unfold tv at this;omega)
 rw [dE] at h2
 exact h2
theorem Lw (r:Rl) (h:vS r):(oe [r.guard]).length<=1099511627776:=by
 have h1:=h.gv
 simp only [tv,oe,List.flatMap_cons,List.flatMap_nil,List.length_append,List.length_nil] at h1 ⊢
 omega
theorem WN (r:Rl) (h:vS r):ah Tryz.prog w0 285 [.sl true [[dC ρ r.guard]]] (bY ρ bJ false (oe [r.guard])):=by
 have h2:=WE (w0:=w0) (ρ:=ρ) [r.guard] (by simp) (fun l hl=>by
  obtain rfl:=List.mem_singleton.1 hl
  exact⟨h.g,fun x hx=>(h.gx x hx).1.xm⟩) (Lw r h)
 rw [dE] at h2
 exact h2
set_option maxHeartbeats 8000000 in
theorem WO (ds:List Dc) (r:Rl) (hd:ds.length<=1099511627776) (hr:vS r):ui w0 283 [.ip (fW ρ r),.ip [dP ρ ds]] (oY ds r):=by
 have ju:Pure (.ip (fW ρ r)):=.ip (tM r)
 have hpd:Pure (.ip [dP ρ ds]):=.ip fun a ha=>by obtain rfl:=List.mem_singleton.1 ha;exact cg ds
 obtain⟨hkn,ez,dD,sf,RB,NV,NW,WQ,WR,hav,hgv⟩:=id hr
 have F7:=RA (w0:=w0) (ρ:=ρ) r hr
 have hA:=aa5 (w0:=w0) (ρ:=ρ) r hr
 have hG:=aa6 (w0:=w0) (ρ:=ρ) r hr
 have FM:=WN (w0:=w0) (ρ:=ρ) r hr
 have hGl:=Lw r hr
 have xl:=F5 (w0:=w0) (ρ:=ρ) ds r.guard hd sf fun x hx=>(WQ x hx).1.len
 have RC:=F5 (w0:=w0) (ρ:=ρ) ds r.body hd RB fun x hx=>(WR x hx).1.len
 obtain⟨E,hp⟩:∃ E,E=oY ds r:=⟨_,rfl⟩
 rw [<-hp]
 obtain⟨n,ke,re,g,b,v⟩:=r
 dsimp only at hkn ez dD sf RB NV NW WQ WR xl RC F7 hA hG FM hGl
 obtain⟨AV,WS⟩:∃ AV,AV=pP ⟨n,ke,re,g,b,v⟩:=⟨_,rfl⟩
 obtain⟨GV,WT⟩:∃ GV,GV=tv ⟨n,ke,re,g,b,v⟩:=⟨_,rfl⟩
 obtain⟨GG,WU⟩:∃ GG,GG=oe [g]:=⟨_,rfl⟩
 rw [<-WS] at F7 hA hav
 rw [<-WT] at hG hgv
 rw [<-WU] at FM hGl
 rw [oY] at hp
 have hS:zq ⟨n,ke,re,g,b,v⟩=(decide (0 < ke.length+re.length) && decide (ke.length+re.length<=4) && decide (g.length<=12) && decide (b.length<=12)):=rfl
 refine Cp aa4 (by simp [Tryz.ntmps283]) ?_
 refine gq aJ ?_
 repeat' (first
  |(refine ab.mc rfl rfl (fun hb=>?_) (fun hb=>?_)<;>(try simp only [aq] at hb)<;>(first|exact absurd hb (by decide)|refine gq aJ ?_))
  |(refine ky rfl (by first|rfl ) ?_)
  |(refine bq (fun hb=>?_) (fun hb=>?_)<;>(try simp only [aq] at hb)<;>(first|refine gq aJ ?_))
  |(refine az fun m hm=>?_;(try rw [af] at hm);refine gq aJ ?_)
  |(refine aS fun _ _=>?_;refine gq aJ ?_)
  )
 all_goals first
  |(rw [cI (by rw [hS];simp [bW];omega)] at hp;rw [hp,hS];simp [bW];omega)
  |skip
 rw [bw (by rw [hS];simp [bW];omega),H6] at hp
 dsimp only at hp
 clear hS
 have hpa:Pure (.agg [eK ρ ke,eK ρ re]):=.agg fun a ha=>by simp only [List.mem_cons,List.not_mem_nil,or_false] at ha;rcases ha with rfl|rfl<;>exact fQ _
 refine ab.aP (σ:=Int) 0 0 [] (fun q=>[(0,.ip (fW ρ ⟨n,ke,re,g,b,v⟩)),(1,.ip [dP ρ ds]),(55,.agg [eK ρ ke,eK ρ re]),(56,.v (.int .i64 q))]) [] (fun _=>[]) (fun q=>(q=0/\E=bh (aM pO ke) (bh (aM pO re) (sj ds ⟨n,ke,re,g,b,v⟩)))\/(q=1/\E=bh (aM pO re) (sj ds ⟨n,ke,re,g,b,v⟩))\/(q=2/\E=sj ds ⟨n,ke,re,g,b,v⟩)) (fun q=>2 - q.toNat) 0 (.inl ⟨rfl,hp⟩) rfl cq ?_
 rintro q0 hI
 rcases hI with ⟨rfl,hp⟩|⟨rfl,hp⟩|⟨rfl,hp⟩
 ·refine gq aJ ?_
  repeat' (first
   |(refine ab.op rfl (ad.mK rfl rfl rfl (by decide) (by decide)) ?_;refine gq aJ ?_)
   |(refine ab.int rfl (ad.len rfl) fun m2 g7=>?_;rw [af] at g7;refine gq aJ ?_)
   |(refine bq (fun hb=>?_) (fun hb=>?_)<;>(try simp only [aq] at hb)<;>(first|exact absurd hb (by decide)|refine gq aJ ?_))
   )
  all_goals first
   |skip
  refine ab.aP (σ:=Int) 0 0 [] (fun q=>[(0,.ip (fW ρ ⟨n,ke,re,g,b,v⟩)),(1,.ip [dP ρ ds]),(55,.agg [eK ρ ke,eK ρ re]),(56,.v (.int .i64 0)),(59,eK ρ ke),(60,.v (.int .i64 m2)),(61,.v (.int .i64 q))]) [] (fun _=>[]) (fun q=>∃ k:Nat,q=k/\k<=ke.length/\E=bh (aM pO (ke.drop k)) (bh (aM pO re) (sj ds ⟨n,ke,re,g,b,v⟩))) (fun q=>ke.length - q.toNat) 0 ⟨0,rfl,by simp,by simpa using hp⟩ rfl cq ?_
  rintro q ⟨k,hi,hk,hp⟩
  refine gq aJ ?_
  by_cases au:k < ke.length
  ·obtain⟨x,hx,aQ⟩:=aA au
   rw [aQ,aM,bT] at hp
   have sm:=List.mem_of_getElem? hx
   obtain⟨lH,o9⟩:=NV x sm
   have hR:=wA (w0:=w0) (ρ:=ρ) x ⟨lH.len,lH.1⟩ o9
   obtain⟨B,hB⟩:∃ B,B=eu x:=⟨_,rfl⟩
   obtain⟨F,hF⟩:∃ F,F=pO x:=⟨_,rfl⟩
   rw [<-hF] at hp
   rw [pO,<-hB] at hF
   rw [<-hB] at hR
   clear hB
   obtain⟨xn,xa⟩:=x
   repeat' (first
    |(refine ab.op rfl (ad.ind rfl rfl (ay (l:=ke) hi hx) (aw fun _=>rfl)) ?_;refine gq aJ ?_)
    |(refine ab.op rfl (ad.ag rfl hR ⟨cX (ρ:=ρ) ⟨xn,xa⟩,trivial⟩) ?_;refine gq aJ ?_)
    |(refine ab.mc rfl rfl (fun hb=>?_) (fun hb=>?_)<;>(try simp only [aq] at hb)<;>(first|refine gq aJ ?_))
    |(refine ab.pz ?_;refine gq aJ ?_)
    |(refine ky rfl (by first|rfl ) ?_)
    |(refine bq (fun hb=>?_) (fun hb=>?_)<;>(try simp only [aq] at hb)<;>(first|refine gq aJ ?_))
    |(refine aS fun _ _=>?_;refine gq aJ ?_)
    |(refine ab.ao ?_;refine gq aJ ?_)
    )
   all_goals first
    |(exfalso;omega)
    |(have e:F=0:=by (rw [hF,hb];rfl)
      rw [bw e] at hp
      refine ab.aK (σ:=Int) _ [] ?_ ?_ cq<;>first|omega|exact⟨k+1,by omega,by omega,hp⟩)
    |(have e:F=2:=by (rw [hF,hb];rfl)
      rw [cI (by rw [e];decide)] at hp
      rw [hp,e])
  ·rw [List.drop_eq_nil_of_le (by omega),aM,bw rfl] at hp
   repeat' (first
    |(refine bq (fun hb=>?_) (fun hb=>?_)<;>(try simp only [aq] at hb)<;>(first|refine gq aJ ?_))
    |(refine aS fun _ _=>?_;refine gq aJ ?_)
    |(refine ab.ao ?_;refine gq aJ ?_)
    )
   all_goals first
    |(exfalso;omega)
    |skip
   refine ab.aK (σ:=Int) _ [] ?_ ?_ cq<;>first|omega
 ·refine gq aJ ?_
  repeat' (first
   |(refine ab.op rfl (ad.mK rfl rfl rfl (by decide) (by decide)) ?_;refine gq aJ ?_)
   |(refine ab.int rfl (ad.len rfl) fun m2 g7=>?_;rw [af] at g7;refine gq aJ ?_)
   |(refine bq (fun hb=>?_) (fun hb=>?_)<;>(try simp only [aq] at hb)<;>(first|exact absurd hb (by decide)|refine gq aJ ?_))
   )
  all_goals first
   |skip
  refine ab.aP (σ:=Int) 0 0 [] (fun q=>[(0,.ip (fW ρ ⟨n,ke,re,g,b,v⟩)),(1,.ip [dP ρ ds]),(55,.agg [eK ρ ke,eK ρ re]),(56,.v (.int .i64 1)),(59,eK ρ re),(60,.v (.int .i64 m2)),(61,.v (.int .i64 q))]) [] (fun _=>[]) (fun q=>∃ k:Nat,q=k/\k<=re.length/\E=bh (aM pO (re.drop k)) (sj ds ⟨n,ke,re,g,b,v⟩)) (fun q=>re.length - q.toNat) 0 ⟨0,rfl,by simp,by simpa using hp⟩ rfl cq ?_
  rintro q ⟨k,hi,hk,hp⟩
  refine gq aJ ?_
  by_cases au:k < re.length
  ·obtain⟨x,hx,aQ⟩:=aA au
   rw [aQ,aM,bT] at hp
   have sm:=List.mem_of_getElem? hx
   obtain⟨lH,o9⟩:=NW x sm
   have hR:=wA (w0:=w0) (ρ:=ρ) x ⟨lH.len,lH.1⟩ o9
   obtain⟨B,hB⟩:∃ B,B=eu x:=⟨_,rfl⟩
   obtain⟨F,hF⟩:∃ F,F=pO x:=⟨_,rfl⟩
   rw [<-hF] at hp
   rw [pO,<-hB] at hF
   rw [<-hB] at hR
   clear hB
   obtain⟨xn,xa⟩:=x
   repeat' (first
    |(refine ab.op rfl (ad.ind rfl rfl (ay (l:=re) hi hx) (aw fun _=>rfl)) ?_;refine gq aJ ?_)
    |(refine ab.op rfl (ad.ag rfl hR ⟨cX (ρ:=ρ) ⟨xn,xa⟩,trivial⟩) ?_;refine gq aJ ?_)
    |(refine ab.mc rfl rfl (fun hb=>?_) (fun hb=>?_)<;>(try simp only [aq] at hb)<;>(first|refine gq aJ ?_))
    |(refine ab.pz ?_;refine gq aJ ?_)
    |(refine ky rfl (by first|rfl ) ?_)
    |(refine bq (fun hb=>?_) (fun hb=>?_)<;>(try simp only [aq] at hb)<;>(first|refine gq aJ ?_))
    |(refine aS fun _ _=>?_;refine gq aJ ?_)
    |(refine ab.ao ?_;refine gq aJ ?_)
    )
   all_goals first
    |(exfalso;omega)
    |(have e:F=0:=by (rw [hF,hb];rfl)
      rw [bw e] at hp
      refine ab.aK (σ:=Int) _ [] ?_ ?_ cq<;>first|omega|exact⟨k+1,by omega,by omega,hp⟩)
    |(have e:F=2:=by (rw [hF,hb];rfl)
      rw [cI (by rw [e];decide)] at hp
      rw [hp,e])
  ·rw [List.drop_eq_nil_of_le (by omega),aM,bw rfl] at hp
   repeat' (first
    |(refine bq (fun hb=>?_) (fun hb=>?_)<;>(try simp only [aq] at hb)<;>(first|refine gq aJ ?_))
    |(refine aS fun _ _=>?_;refine gq aJ ?_)
    |(refine ab.ao ?_;refine gq aJ ?_)
    )
   all_goals first
    |(exfalso;omega)
    |skip
   refine ab.aK (σ:=Int) _ [] ?_ ?_ cq<;>first|omega
 refine gq aJ ?_
 repeat' (first
  |(refine bq (fun hb=>?_) (fun hb=>?_)<;>(try simp only [aq] at hb)<;>(first|exact absurd hb (by decide)|refine gq aJ ?_))
  |(refine ab.ao ?_;refine gq aJ ?_)
  )
 all_goals first
  |skip
 rw [sj] at hp
 dsimp only at hp
 have hpa:Pure (.agg [dC ρ g,dC ρ b]):=.agg fun a ha=>by simp only [List.mem_cons,List.not_mem_nil,or_false] at ha;rcases ha with rfl|rfl<;>exact cV _
 refine ab.aP (σ:=Int) 0 0 [] (fun q=>[(0,.ip (fW ρ ⟨n,ke,re,g,b,v⟩)),(1,.ip [dP ρ ds]),(74,.agg [dC ρ g,dC ρ b]),(75,.v (.int .i64 q))]) [] (fun _=>[]) (fun q=>(q=0/\E=bh (aM o_ g) (bh (aM o_ b) (sh ds ⟨n,ke,re,g,b,v⟩)))\/(q=1/\E=bh (aM o_ b) (sh ds ⟨n,ke,re,g,b,v⟩))\/(q=2/\E=sh ds ⟨n,ke,re,g,b,v⟩)) (fun q=>2 - q.toNat) 0 (.inl ⟨rfl,hp⟩) rfl cq ?_
 rintro q0 hI
 rcases hI with ⟨rfl,hp⟩|⟨rfl,hp⟩|⟨rfl,hp⟩
 ·refine gq aJ ?_
  repeat' (first
   |(refine ab.op rfl (ad.mK rfl rfl rfl (by decide) (by decide)) ?_;refine gq aJ ?_)
   |(refine ab.int rfl (ad.len rfl) fun m2 g7=>?_;rw [af] at g7;refine gq aJ ?_)
   |(refine bq (fun hb=>?_) (fun hb=>?_)<;>(try simp only [aq] at hb)<;>(first|exact absurd hb (by decide)|refine gq aJ ?_))
   )
  all_goals first
   |skip
  refine ab.aP (σ:=Int) 0 0 [] (fun q=>[(0,.ip (fW ρ ⟨n,ke,re,g,b,v⟩)),(1,.ip [dP ρ ds]),(74,.agg [dC ρ g,dC ρ b]),(75,.v (.int .i64 0)),(78,dC ρ g),(79,.v (.int .i64 m2)),(80,.v (.int .i64 q))]) [] (fun _=>[]) (fun q=>∃ k:Nat,q=k/\k<=g.length/\E=bh (aM o_ (g.drop k)) (bh (aM o_ b) (sh ds ⟨n,ke,re,g,b,v⟩))) (fun q=>g.length - q.toNat) 0 ⟨0,rfl,by simp,by simpa using hp⟩ rfl cq ?_
  rintro q ⟨k,hi,hk,hp⟩
  refine gq aJ ?_
  by_cases au:k < g.length
  ·obtain⟨x,hx,aQ⟩:=aA au
   rw [aQ,aM,bT] at hp
   have sm:=List.mem_of_getElem? hx
   obtain⟨lH,o9⟩:=WQ x sm
   have hR:=Ag (w0:=w0) (ρ:=ρ) x ⟨lH.len,lH.1⟩ o9
   obtain⟨B,hB⟩:∃ B,B=eS x:=⟨_,rfl⟩
   obtain⟨F,hF⟩:∃ F,F=o_ x:=⟨_,rfl⟩
   rw [<-hF] at hp
   rw [o_,<-hB] at hF
   rw [<-hB] at hR
   clear hB
   obtain⟨xo,xn,xa⟩:=x
   repeat' (first
    |(refine ab.op rfl (ad.ind rfl rfl (ay (l:=g) hi hx) (aw fun _=>rfl)) ?_;refine gq aJ ?_)
    |(refine ab.op rfl (ad.ag rfl hR ⟨eE (ρ:=ρ) ⟨xo,xn,xa⟩,trivial⟩) ?_;refine gq aJ ?_)
    |(refine ab.mc rfl rfl (fun hb=>?_) (fun hb=>?_)<;>(try simp only [aq] at hb)<;>(first|refine gq aJ ?_))
    |(refine ab.pz ?_;refine gq aJ ?_)
    |(refine ky rfl (by first|rfl ) ?_)
    |(refine bq (fun hb=>?_) (fun hb=>?_)<;>(try simp only [aq] at hb)<;>(first|refine gq aJ ?_))
    |(refine aS fun _ _=>?_;refine gq aJ ?_)
    |(refine ab.ao ?_;refine gq aJ ?_)
    )
   all_goals first
    |(exfalso;omega)
    |(have e:F=0:=by (rw [hF,hb];rfl)
      rw [bw e] at hp
      refine ab.aK (σ:=Int) _ [] ?_ ?_ cq<;>first|omega|exact⟨k+1,by omega,by omega,hp⟩)
    |(have e:F=2:=by (rw [hF,hb];rfl)
      rw [cI (by rw [e];decide)] at hp
      rw [hp,e])
  ·rw [List.drop_eq_nil_of_le (by omega),aM,bw rfl] at hp
   repeat' (first
    |(refine bq (fun hb=>?_) (fun hb=>?_)<;>(try simp only [aq] at hb)<;>(first|refine gq aJ ?_))
    |(refine aS fun _ _=>?_;refine gq aJ ?_)
    |(refine ab.ao ?_;refine gq aJ ?_)
    )
   all_goals first
    |(exfalso;omega)
    |skip
   refine ab.aK (σ:=Int) _ [] ?_ ?_ cq<;>first|omega
 ·refine gq aJ ?_
  repeat' (first
   |(refine ab.op rfl (ad.mK rfl rfl rfl (by decide) (by decide)) ?_;refine gq aJ ?_)
   |(refine ab.int rfl (ad.len rfl) fun m2 g7=>?_;rw [af] at g7;refine gq aJ ?_)
   |(refine bq (fun hb=>?_) (fun hb=>?_)<;>(try simp only [aq] at hb)<;>(first|exact absurd hb (by decide)|refine gq aJ ?_))
   )
  all_goals first
   |skip
  refine ab.aP (σ:=Int) 0 0 [] (fun q=>[(0,.ip (fW ρ ⟨n,ke,re,g,b,v⟩)),(1,.ip [dP ρ ds]),(74,.agg [dC ρ g,dC ρ b]),(75,.v (.int .i64 1)),(78,dC ρ b),(79,.v (.int .i64 m2)),(80,.v (.int .i64 q))]) [] (fun _=>[]) (fun q=>∃ k:Nat,q=k/\k<=b.length/\E=bh (aM o_ (b.drop k)) (sh ds ⟨n,ke,re,g,b,v⟩)) (fun q=>b.length - q.toNat) 0 ⟨0,rfl,by simp,by simpa using hp⟩ rfl cq ?_
  rintro q ⟨k,hi,hk,hp⟩
  refine gq aJ ?_
  by_cases au:k < b.length
  ·obtain⟨x,hx,aQ⟩:=aA au
   rw [aQ,aM,bT] at hp
   have sm:=List.mem_of_getElem? hx
   obtain⟨lH,o9⟩:=WR x sm
   have hR:=Ag (w0:=w0) (ρ:=ρ) x ⟨lH.len,lH.1⟩ o9
   obtain⟨B,hB⟩:∃ B,B=eS x:=⟨_,rfl⟩
   obtain⟨F,hF⟩:∃ F,F=o_ x:=⟨_,rfl⟩
   rw [<-hF] at hp
   rw [o_,<-hB] at hF
   rw [<-hB] at hR
   clear hB
   obtain⟨xo,xn,xa⟩:=x
   repeat' (first
    |(refine ab.op rfl (ad.ind rfl rfl (ay (l:=b) hi hx) (aw fun _=>rfl)) ?_;refine gq aJ ?_)
    |(refine ab.op rfl (ad.ag rfl hR ⟨eE (ρ:=ρ) ⟨xo,xn,xa⟩,trivial⟩) ?_;refine gq aJ ?_)
    |(refine ab.mc rfl rfl (fun hb=>?_) (fun hb=>?_)<;>(try simp only [aq] at hb)<;>(first|refine gq aJ ?_))
    |(refine ab.pz ?_;refine gq aJ ?_)
    |(refine ky rfl (by first|rfl ) ?_)
    |(refine bq (fun hb=>?_) (fun hb=>?_)<;>(try simp only [aq] at hb)<;>(first|refine gq aJ ?_))
    |(refine aS fun _ _=>?_;refine gq aJ ?_)
    |(refine ab.ao ?_;refine gq aJ ?_)
    )
   all_goals first
    |(exfalso;omega)
    |(have e:F=0:=by (rw [hF,hb];rfl)
      rw [bw e] at hp
      refine ab.aK (σ:=Int) _ [] ?_ ?_ cq<;>first|omega|exact⟨k+1,by omega,by omega,hp⟩)
    |(have e:F=2:=by (rw [hF,hb];rfl)
      rw [cI (by rw [e];decide)] at hp
      rw [hp,e])
  ·rw [List.drop_eq_nil_of_le (by omega),aM,bw rfl] at hp
   repeat' (first
    |(refine bq (fun hb=>?_) (fun hb=>?_)<;>(try simp only [aq] at hb)<;>(first|refine gq aJ ?_))
    |(refine aS fun _ _=>?_;refine gq aJ ?_)
    |(refine ab.ao ?_;refine gq aJ ?_)
    )
   all_goals first
    |(exfalso;omega)
    |skip
   refine ab.aK (σ:=Int) _ [] ?_ ?_ cq<;>first|omega
 refine gq aJ ?_
 repeat' (first
  |(refine bq (fun hb=>?_) (fun hb=>?_)<;>(try simp only [aq] at hb)<;>(first|exact absurd hb (by decide)|refine gq aJ ?_))
  |(refine ab.ao ?_;refine gq aJ ?_)
  )
 all_goals first
  |skip
 have BD:sh ds ⟨n,ke,re,g,b,v⟩=um (pP ⟨n,ke,re,g,b,v⟩++tv ⟨n,ke,re,g,b,v⟩) 0 fun n'=>bh (bW (decide (v=n')) 2) (wN ds ⟨n,ke,re,g,b,v⟩):=rfl
 rw [BD,<-WS,<-WT] at hp
 clear BD
 obtain⟨len,hlen,bL⟩:=F7
 have BE:Pure (.sl true [[eK ρ ke],[eK ρ re]]):=.sl fun row hr a ha=>by simp only [List.mem_cons,List.not_mem_nil,or_false] at hr;rcases hr with rfl|rfl<;>(obtain rfl:=List.mem_singleton.1 ha;exact fQ _)
 have ca:Pure (.sl true [[dC ρ g],[dC ρ b]]):=.sl fun row hr a ha=>by simp only [List.mem_cons,List.not_mem_nil,or_false] at hr;rcases hr with rfl|rfl<;>(obtain rfl:=List.mem_singleton.1 ha;exact cV _)
 have D1:Pure (.sl true [[dC ρ g]]):=.sl fun row hr a ha=>by obtain rfl:=List.mem_singleton.1 hr;obtain rfl:=List.mem_singleton.1 ha;exact cV _
 refine ab.VU rfl bL rfl ⟨Rn.pure BE,trivial⟩ (Rb.gr rfl) ⟨⟨0,_,rfl,rfl,kY.pure gw⟩,trivial⟩ rfl ?_
 refine gq aJ ?_
 refine ab.og rfl (fun T=>ad.ag rfl hG ⟨ca,trivial⟩) ?_
 refine gq aJ ?_
 refine ab.Ho (f:=bJ) rfl rfl rfl hlen (fun _=>rfl) rfl (fun _=>rfl) (fun _=>rfl) (by omega) fun L gy hL lV=>?_
 refine gq aJ ?_
 obtain⟨kk,BD⟩:∃ kk:Int->Int,kk=fun n'=>bh (bW (decide (v=n')) 2) (wN ds ⟨n,ke,re,g,b,v⟩):=⟨_,rfl⟩
 rw [<-BD,<-hL] at hp
 have sn:L.length<=1099511627776:=by rw [hL,List.length_append];omega
 refine ab.WV rfl (fun T=>ad.VV rfl) fun m3 F8=>?_
 refine gq aJ ?_
 refine ab.cv (Cv.freeze (t:=101) rfl rfl (.inl rfl) (lV.trans (af (ρ:=ρ) (f:=bJ)).symm) (Nat.zero_le _)) ?_
 refine ab.aP (σ:=Int × Int) 3 3 [] (fun p=>[(0,.ip (fW ρ ⟨n,ke,re,g,b,v⟩)),(1,.ip [dP ρ ds]),(11,.v (.int .i64 p.2)),(101,bY ρ bJ false L),(102,.v (.int .i64 m3)),(103,.v (.int .i64 p.1))]) [] (fun _=>[]) (fun p=>∃ k:Nat,p.1=k/\k<=L.length/\0<=p.2/\p.2<=k/\E=um (L.drop k) p.2 kk) (fun p=>L.length - p.1.toNat) (0,0) ⟨0,rfl,by simp,by simp,by simp,by simpa using hp⟩ rfl cq ?_
 rintro⟨i,nx⟩ ⟨k,hi,hk,hn0,hn1,hp⟩
 simp only at hi hn0 hn1 hp
 refine gq aJ ?_
 by_cases au:k < L.length
 ·obtain⟨x,hx,aQ⟩:=aA au
  rw [aQ,um] at hp
  repeat' (first
   |(refine ab.op rfl (ad.ind rfl rfl (ay (l:=L) hi hx) (aw fun _=>rfl)) ?_;refine gq aJ ?_)
   |(refine ab.mc rfl rfl (fun hb=>?_) (fun hb=>?_)<;>(try simp only [aq] at hb)<;>(first|exact absurd hb (by decide)|refine gq aJ ?_))
   |(refine ab.pz ?_;refine gq aJ ?_)
   |(refine ky rfl (by first|rfl ) ?_)
   |(refine bq (fun hb=>?_) (fun hb=>?_)<;>(try simp only [aq] at hb)<;>(first|refine gq aJ ?_))
   |(refine aS fun _ _=>?_;refine gq aJ ?_)
   |(refine ab.ao ?_;refine gq aJ ?_)
   )
  all_goals first
   |(exfalso;omega)
   |(rw [if_pos (by omega),if_pos (by omega)] at hp
     refine ab.aK (σ:=Int × Int) (_,_) [] ?_ ?_ cq
     ·exact⟨k+1,by simp only;omega,by omega,by simp only;omega,by simp only;omega,by rw [hp];congr 1;simp only;omega⟩
     ·simp only;omega)
   |(rw [if_pos (by omega),if_neg (by omega)] at hp
     refine ab.aK (σ:=Int × Int) (_,_) [] ?_ ?_ cq
     ·exact⟨k+1,by simp only;omega,by omega,by simp only;omega,by simp only;omega,hp⟩
     ·simp only;omega)
   |(rw [if_neg (by omega)] at hp;exact hp)
 rw [List.drop_eq_nil_of_le (by omega),um] at hp
 subst BD
 simp only at hp
 refine ab.bif rfl (ad.bit rfl) (fun hb=>?_) (fun hb=>?_)<;>(try simp only [decide_eq_true_eq,decide_eq_false_iff_not,beq_iff_eq,beq_eq_false_iff_ne,bne_iff_ne,bne_eq_false_iff_eq,Bool.not_eq_true,Bool.not_eq_false,Bool.not_eq_true',Bool.not_eq_false',ne_eq] at hb)
 ·exfalso;omega
 refine gq aJ ?_
 refine ab.ao ?_
 refine gq aJ ?_
 refine ab.bif rfl (ad.bit rfl) (fun hb=>?_) (fun hb=>?_)<;>(try simp only [decide_eq_true_eq,decide_eq_false_iff_not,beq_iff_eq,beq_eq_false_iff_ne,bne_iff_ne,bne_eq_false_iff_eq,Bool.not_eq_true,Bool.not_eq_false,Bool.not_eq_true',Bool.not_eq_false',ne_eq] at hb)<;>refine gq aJ ?_
 rotate_left
 ·refine ab.mc rfl rfl (fun hc=>absurd hc (by decide)) (fun hc=>?_)
  refine gq aJ ?_
  refine ky rfl rfl ?_
  rw [decide_eq_false (by omega)] at hp
  exact hp
 refine ab.mc rfl rfl (fun hc=>?_) (fun hc=>absurd hc (by decide))
 refine gq aJ ?_
 rw [decide_eq_true (by omega),show bW true 2=0 from rfl,bw rfl] at hp
 have hN:=s6 (w0:=w0) n hkn
 rw [wN] at hp
 dsimp only at hp
 refine ab.aft (σ:=Int) 0 3 3 (fun _=>[(0,.ip (fW ρ ⟨n,ke,re,g,b,v⟩)),(1,.ip [dP ρ ds])]) [] (fun _=>[]) (fun _=>E=Cr ds ⟨n,ke,re,g,b,v⟩) rfl ?_ ?_
 ·obtain⟨NB,zr⟩:∃ NB,NB=gJ n:=⟨_,rfl⟩
  rw [<-zr] at hp hN
  obtain⟨ne,bH⟩:∃ ne,ne=(n.toList == (⟨#[]⟩:ByteArray).toList):=⟨_,rfl⟩
  rw [<-bH] at hp
  repeat' (first
   |(refine ab.bif rfl (ad.bit rfl) (fun hs=>?_) (fun hs=>?_)<;>refine gq aJ ?_)
   |(refine ab.bif rfl (ad.ag rfl hN ⟨.v,trivial⟩) (fun _=>?_) (fun _=>?_)<;>refine gq aJ ?_)
   |(refine ab.afz ?_;refine gq aJ ?_)
   |(refine ab.mc rfl rfl (fun hb=>?_) (fun hb=>?_)<;>(try simp only [aq] at hb)<;>(first|exact absurd hb (by decide)|refine gq aJ ?_))
   |(refine ky rfl (by first|rfl ) ?_)
   )
  all_goals first
   |(rw [show NB=true by assumption,Bool.or_true,show bW true 7=0 from rfl,bw rfl] at hp;exact ab.UH (0:Int) [] hp rfl cq)
   |(rw [show NB=false by assumption,show ne=false by (rw [bH];first|exact hs )] at hp;exact hp)
   |(rw [show ne=true by (rw [bH];first|exact hs ),Bool.true_or,show bW true 7=0 from rfl,bw rfl] at hp;exact ab.UH (0:Int) [] hp rfl cq)
 rintro s0 hp
 clear hL sn hN bL hG WT
 refine gq aJ ?_
 rw [Cr] at hp
 dsimp only at hp
 have hpa:Pure (.agg [eK ρ ke,eK ρ re]):=.agg fun a ha=>by simp only [List.mem_cons,List.not_mem_nil,or_false] at ha;rcases ha with rfl|rfl<;>exact fQ _
 refine ab.aP (σ:=Int) 3 3 [] (fun q=>[(0,.ip (fW ρ ⟨n,ke,re,g,b,v⟩)),(1,.ip [dP ρ ds]),(135,.agg [eK ρ ke,eK ρ re]),(136,.v (.int .i64 q))]) [] (fun _=>[]) (fun q=>(q=0/\E=bh (aM (tu ds) ke) (bh (aM (tu ds) re) (sg ds ⟨n,ke,re,g,b,v⟩)))\/(q=1/\E=bh (aM (tu ds) re) (sg ds ⟨n,ke,re,g,b,v⟩))\/(q=2/\E=sg ds ⟨n,ke,re,g,b,v⟩)) (fun q=>2 - q.toNat) 0 (.inl ⟨rfl,hp⟩) rfl cq ?_
 rintro q0 hI
 rcases hI with ⟨rfl,hp⟩|⟨rfl,hp⟩|⟨rfl,hp⟩
 ·refine gq aJ ?_
  repeat' (first
   |(refine ab.op rfl (ad.mK rfl rfl rfl (by decide) (by decide)) ?_;refine gq aJ ?_)
   |(refine ab.int rfl (ad.len rfl) fun m2 g7=>?_;rw [af] at g7;refine gq aJ ?_)
   |(refine bq (fun hb=>?_) (fun hb=>?_)<;>(try simp only [aq] at hb)<;>(first|exact absurd hb (by decide)|refine gq aJ ?_))
   )
  all_goals first
   |skip
  refine ab.aP (σ:=Int) 3 3 [] (fun q=>[(0,.ip (fW ρ ⟨n,ke,re,g,b,v⟩)),(1,.ip [dP ρ ds]),(135,.agg [eK ρ ke,eK ρ re]),(136,.v (.int .i64 0)),(139,eK ρ ke),(140,.v (.int .i64 m2)),(141,.v (.int .i64 q))]) [] (fun _=>[]) (fun q=>∃ k:Nat,q=k/\k<=ke.length/\E=bh (aM (tu ds) (ke.drop k)) (bh (aM (tu ds) re) (sg ds ⟨n,ke,re,g,b,v⟩))) (fun q=>ke.length - q.toNat) 0 ⟨0,rfl,by simp,by simpa using hp⟩ rfl cq ?_
  rintro q ⟨k,hi,hk,hp⟩
  refine gq aJ ?_
  by_cases au:k < ke.length
  ·obtain⟨x,hx,aQ⟩:=aA au
   rw [aQ,aM,bT] at hp
   have sm:=List.mem_of_getElem? hx
   obtain⟨lH,o9⟩:=NV x sm
   have pa:=lH.len
   obtain⟨F,hF⟩:∃ F,F=tu ds x:=⟨_,rfl⟩
   rw [<-hF] at hp
   have hD:=AJ (w0:=w0) (ρ:=ρ) ds x.n x.a.length hd
   rw [show lf ds x.n x.a.length=F from hF.symm] at hD
   clear hF lH o9
   obtain⟨xn,xa⟩:=x
   dsimp only at hD pa
   obtain⟨q3,BF⟩:∃ q:Int,q=xa.length:=⟨_,rfl⟩
   rw [<-BF] at hD
   repeat' (first
    |(refine ab.op rfl (ad.ind rfl rfl (ay (l:=ke) hi hx) (aw fun _=>rfl)) ?_;refine gq aJ ?_)
    |(refine ab.int rfl (ad.len rfl) fun m3 F8=>?_;rw [af] at F8;obtain rfl:m3=q3:=(by omega);refine gq aJ ?_)
    |(refine ab.mD rfl rfl (hD) (by repeat' (first|exact trivial|(refine⟨?_,?_⟩;(first|exact .v|exact cg _ )))) (fun he=>?_) (fun he=>?_)<;>refine gq aJ ?_)
    |(refine ab.pz ?_;refine gq aJ ?_)
    |(refine ky rfl (by first|exact decide_eq_false (by assumption)) ?_)
    |(refine bq (fun hb=>?_) (fun hb=>?_)<;>(try simp only [aq] at hb)<;>(first|refine gq aJ ?_))
    |(refine aS fun _ _=>?_;refine gq aJ ?_)
    |(refine ab.ao ?_;refine gq aJ ?_)
    )
   all_goals first
    |(exfalso;omega)
    |(have e:F=0:=he
      rw [bw e] at hp
      refine ab.aK (σ:=Int) _ [] ?_ ?_ cq<;>first|omega|exact⟨k+1,by omega,by omega,hp⟩)
    |(rw [cI he] at hp
      exact hp)
  ·rw [List.drop_eq_nil_of_le (by omega),aM,bw rfl] at hp
   repeat' (first
    |(refine bq (fun hb=>?_) (fun hb=>?_)<;>(try simp only [aq] at hb)<;>(first|refine gq aJ ?_))
    |(refine aS fun _ _=>?_;refine gq aJ ?_)
    |(refine ab.ao ?_;refine gq aJ ?_)
    )
   all_goals first
    |(exfalso;omega)
    |skip
   refine ab.aK (σ:=Int) _ [] ?_ ?_ cq<;>first|omega
 ·refine gq aJ ?_
  repeat' (first
   |(refine ab.op rfl (ad.mK rfl rfl rfl (by decide) (by decide)) ?_;refine gq aJ ?_)
   |(refine ab.int rfl (ad.len rfl) fun m2 g7=>?_;rw [af] at g7;refine gq aJ ?_)
   |(refine bq (fun hb=>?_) (fun hb=>?_)<;>(try simp only [aq] at hb)<;>(first|exact absurd hb (by decide)|refine gq aJ ?_))
   )
  all_goals first
   |skip
  refine ab.aP (σ:=Int) 3 3 [] (fun q=>[(0,.ip (fW ρ ⟨n,ke,re,g,b,v⟩)),(1,.ip [dP ρ ds]),(135,.agg [eK ρ ke,eK ρ re]),(136,.v (.int .i64 1)),(139,eK ρ re),(140,.v (.int .i64 m2)),(141,.v (.int .i64 q))]) [] (fun _=>[]) (fun q=>∃ k:Nat,q=k/\k<=re.length/\E=bh (aM (tu ds) (re.drop k)) (sg ds ⟨n,ke,re,g,b,v⟩)) (fun q=>re.length - q.toNat) 0 ⟨0,rfl,by simp,by simpa using hp⟩ rfl cq ?_
  rintro q ⟨k,hi,hk,hp⟩
  refine gq aJ ?_
  by_cases au:k < re.length
  ·obtain⟨x,hx,aQ⟩:=aA au
   rw [aQ,aM,bT] at hp
   have sm:=List.mem_of_getElem? hx
   obtain⟨lH,o9⟩:=NW x sm
   have pa:=lH.len
   obtain⟨F,hF⟩:∃ F,F=tu ds x:=⟨_,rfl⟩
   rw [<-hF] at hp
   have hD:=AJ (w0:=w0) (ρ:=ρ) ds x.n x.a.length hd
   rw [show lf ds x.n x.a.length=F from hF.symm] at hD
   clear hF lH o9
   obtain⟨xn,xa⟩:=x
   dsimp only at hD pa
   obtain⟨q3,BF⟩:∃ q:Int,q=xa.length:=⟨_,rfl⟩
   rw [<-BF] at hD
   repeat' (first
    |(refine ab.op rfl (ad.ind rfl rfl (ay (l:=re) hi hx) (aw fun _=>rfl)) ?_;refine gq aJ ?_)
    |(refine ab.int rfl (ad.len rfl) fun m3 F8=>?_;rw [af] at F8;obtain rfl:m3=q3:=(by omega);refine gq aJ ?_)
    |(refine ab.mD rfl rfl (hD) (by repeat' (first|exact trivial|(refine⟨?_,?_⟩;(first|exact .v|exact cg _ )))) (fun he=>?_) (fun he=>?_)<;>refine gq aJ ?_)
    |(refine ab.pz ?_;refine gq aJ ?_)
    |(refine ky rfl (by first|exact decide_eq_false (by assumption)) ?_)
    |(refine bq (fun hb=>?_) (fun hb=>?_)<;>(try simp only [aq] at hb)<;>(first|refine gq aJ ?_))
    |(refine aS fun _ _=>?_;refine gq aJ ?_)
    |(refine ab.ao ?_;refine gq aJ ?_)
    )
   all_goals first
    |(exfalso;omega)
    |(have e:F=0:=he
      rw [bw e] at hp
      refine ab.aK (σ:=Int) _ [] ?_ ?_ cq<;>first|omega|exact⟨k+1,by omega,by omega,hp⟩)
    |(rw [cI he] at hp
      exact hp)
  ·rw [List.drop_eq_nil_of_le (by omega),aM,bw rfl] at hp
   repeat' (first
    |(refine bq (fun hb=>?_) (fun hb=>?_)<;>(try simp only [aq] at hb)<;>(first|refine gq aJ ?_))
    |(refine aS fun _ _=>?_;refine gq aJ ?_)
    |(refine ab.ao ?_;refine gq aJ ?_)
    )
   all_goals first
    |(exfalso;omega)
    |skip
   refine ab.aK (σ:=Int) _ [] ?_ ?_ cq<;>first|omega
 refine gq aJ ?_
 repeat' (first
  |(refine bq (fun hb=>?_) (fun hb=>?_)<;>(try simp only [aq] at hb)<;>(first|exact absurd hb (by decide)|refine gq aJ ?_))
  |(refine ab.ao ?_;refine gq aJ ?_)
  )
 all_goals first
  |skip
 rw [sg] at hp
 dsimp only at hp
 obtain⟨F1,mq⟩:∃ F,F=gE ds g:=⟨_,rfl⟩
 obtain⟨F2,hF2⟩:∃ F,F=gE ds b:=⟨_,rfl⟩
 rw [<-mq] at hp xl
 rw [<-hF2] at hp RC
 repeat' (first
  |(refine ab.int rfl (ad.len rfl) fun m2 g7=>?_;rw [af] at g7;refine gq aJ ?_)
  |(refine ab.mD rfl rfl (xl) (by repeat' (first|exact trivial|(refine⟨?_,?_⟩;(first|exact cV _|exact cg _ )))) (fun he=>?_) (fun he=>?_)<;>refine gq aJ ?_)
  |(refine ab.mD rfl rfl (RC) (by repeat' (first|exact trivial|(refine⟨?_,?_⟩;(first|exact cV _|exact cg _ )))) (fun he=>?_) (fun he=>?_)<;>refine gq aJ ?_)
  |(refine ky rfl (by first|exact decide_eq_false (by assumption)) ?_)
  )
 all_goals first
  |(rw [bw (e:=F1) (by assumption),cI (e:=F2) (by assumption)] at hp;exact hp)
  |(rw [cI (e:=F1) (by assumption)] at hp;exact hp)
  |skip
 rw [bw (e:=F1) (by assumption),bw (e:=F2) (by assumption),H5] at hp
 dsimp only at hp
 clear mq hF2 xl RC
 refine ab.aP (σ:=Int) 3 3 [] (fun q=>[(0,.ip (fW ρ ⟨n,ke,re,g,b,v⟩)),(1,.ip [dP ρ ds]),(163,dC ρ g),(164,.v (.int .i64 m2)),(165,.v (.int .i64 q))]) [] (fun _=>[]) (fun q=>∃ k:Nat,q=k/\k<=g.length/\E=bh (aM zo (g.drop k)) (bh (aM vR b) (zp ⟨n,ke,re,g,b,v⟩))) (fun q=>g.length - q.toNat) 0 ⟨0,rfl,by simp,by simpa using hp⟩ rfl cq ?_
 rintro q ⟨k,hi,hk,hp⟩
 refine gq aJ ?_
 by_cases au:k < g.length
 ·obtain⟨x,hx,aQ⟩:=aA au
  rw [aQ,aM,bT] at hp
  have sm:=List.mem_of_getElem? hx
  have hT:=Ll (w0:=w0) x.op
  obtain⟨B,hB⟩:∃ B,B=oW x.op:=⟨_,rfl⟩
  obtain⟨F,hF⟩:∃ F,F=zo x:=⟨_,rfl⟩
  rw [<-hF] at hp
  rw [zo,<-hB] at hF
  rw [<-hB] at hT
  clear hB
  obtain⟨xo,xn,xa⟩:=x
  dsimp only at hT hF
  repeat' (first
   |(refine ab.op rfl (ad.ind rfl rfl (ay (l:=g) hi hx) (aw fun _=>rfl)) ?_;refine gq aJ ?_)
   |(refine ab.bif rfl (ad.ag rfl hT ⟨.v,trivial⟩) (fun _=>?_) (fun _=>?_)<;>refine gq aJ ?_)
   |(refine ab.mc rfl rfl (fun hb=>?_) (fun hb=>?_)<;>(try simp only [aq] at hb)<;>(first|exact absurd hb (by decide)|refine gq aJ ?_))
   |(refine ab.pz ?_;refine gq aJ ?_)
   |(refine ky rfl (by first|rfl ) ?_)
   |(refine bq (fun hb=>?_) (fun hb=>?_)<;>(try simp only [aq] at hb)<;>(first|refine gq aJ ?_))
   |(refine az fun m hm=>?_;(try rw [af] at hm);refine gq aJ ?_)
   |(refine aS fun _ _=>?_;refine gq aJ ?_)
   |(refine ab.ao ?_;refine gq aJ ?_)
   )
  all_goals first
   |(exfalso;omega)
   |(have e:F=0:=by (first|(rw [hF,show B=true by assumption];rfl)|(rw [hF,decide_eq_true (show xo=1 by omega),Bool.or_true];rfl))
     rw [bw e] at hp
     refine ab.aK (σ:=Int) _ [] ?_ ?_ cq<;>first|omega|exact⟨k+1,by omega,by omega,hp⟩)
   |(have e:F=10:=by (rw [hF,show B=false by assumption,decide_eq_false (show ¬ xo=1 by omega)];rfl)
     rw [cI (by rw [e];decide)] at hp
     rw [hp,e])
 rw [List.drop_eq_nil_of_le (by omega),aM,bw rfl] at hp
 repeat' (first
  |(refine ab.int rfl (ad.len rfl) fun m2 g7=>?_;rw [af] at g7;refine gq aJ ?_)
  |(refine bq (fun hb=>?_) (fun hb=>?_)<;>(try simp only [aq] at hb)<;>(first|refine gq aJ ?_))
  |(refine ab.ao ?_;refine gq aJ ?_)
  )
 all_goals first
  |(exfalso;omega)
  |skip
 refine ab.aP (σ:=Int) 3 3 [] (fun q=>[(0,.ip (fW ρ ⟨n,ke,re,g,b,v⟩)),(1,.ip [dP ρ ds]),(180,dC ρ b),(181,.v (.int .i64 m2)),(182,.v (.int .i64 q))]) [] (fun _=>[]) (fun q=>∃ k:Nat,q=k/\k<=b.length/\E=bh (aM vR (b.drop k)) (zp ⟨n,ke,re,g,b,v⟩)) (fun q=>b.length - q.toNat) 0 ⟨0,rfl,by simp,by simpa using hp⟩ rfl cq ?_
 rintro q ⟨k,hi,hk,hp⟩
 refine gq aJ ?_
 by_cases au:k < b.length
 ·obtain⟨x,hx,aQ⟩:=aA au
  rw [aQ,aM,bT] at hp
  have sm:=List.mem_of_getElem? hx
  have hT:=Ll (w0:=w0) x.op
  obtain⟨B,hB⟩:∃ B,B=oW x.op:=⟨_,rfl⟩
  obtain⟨F,hF⟩:∃ F,F=vR x:=⟨_,rfl⟩
  rw [<-hF] at hp
  rw [vR,<-hB] at hF
  rw [<-hB] at hT
  clear hB
  obtain⟨xo,xn,xa⟩:=x
  dsimp only at hT hF
  repeat' (first
   |(refine ab.op rfl (ad.ind rfl rfl (ay (l:=b) hi hx) (aw fun _=>rfl)) ?_;refine gq aJ ?_)
   |(refine ab.bif rfl (ad.ag rfl hT ⟨.v,trivial⟩) (fun _=>?_) (fun _=>?_)<;>refine gq aJ ?_)
   |(refine ab.mc rfl rfl (fun hb=>?_) (fun hb=>?_)<;>(try simp only [aq] at hb)<;>(first|exact absurd hb (by decide)|refine gq aJ ?_))
   |(refine ab.pz ?_;refine gq aJ ?_)
   |(refine ky rfl (by first|rfl ) ?_)
   |(refine bq (fun hb=>?_) (fun hb=>?_)<;>(try simp only [aq] at hb)<;>(first|refine gq aJ ?_))
   |(refine aS fun _ _=>?_;refine gq aJ ?_)
   |(refine ab.ao ?_;refine gq aJ ?_)
   )
  all_goals first
   |(exfalso;omega)
   |(have e:F=0:=by (rw [hF,show B=false by assumption];rfl)
     rw [bw e] at hp
     refine ab.aK (σ:=Int) _ [] ?_ ?_ cq<;>first|omega|exact⟨k+1,by omega,by omega,hp⟩)
   |(have e:F=10:=by (rw [hF,show B=true by assumption];rfl)
     rw [cI (by rw [e];decide)] at hp
     rw [hp,e])
 rw [List.drop_eq_nil_of_le (by omega),aM,bw rfl] at hp
 repeat' (first
  |(refine ab.op rfl (ad.ag rfl hA ⟨BE,trivial⟩) ?_;refine gq aJ ?_)
  |(refine ab.op rfl (ad.ag rfl FM ⟨D1,trivial⟩) ?_;refine gq aJ ?_)
  |(refine ab.int rfl (ad.len rfl) fun m2 g7=>?_;rw [af] at g7;refine gq aJ ?_)
  |(refine bq (fun hb=>?_) (fun hb=>?_)<;>(try simp only [aq] at hb)<;>(first|refine gq aJ ?_))
  |(refine ab.ao ?_;refine gq aJ ?_)
  )
 all_goals first
  |(exfalso;omega)
  |skip
 rw [zp] at hp
 obtain⟨fK,hfK⟩:∃ f,f=Lv ⟨n,ke,re,g,b,v⟩:=⟨_,rfl⟩
 rw [<-hfK,<-WU] at hp
 have F9:∀ x,fK x=bW (AV.contains x) 17:=fun x=>by rw [hfK,Lv,<-WS]
 refine ab.aP (σ:=Int) 3 3 [] (fun q=>[(22,bY ρ bJ false AV),(201,bY ρ bJ false GG),(202,.v (.int .i64 m2)),(203,.v (.int .i64 q))]) [] (fun _=>[]) (fun q=>∃ k:Nat,q=k/\k<=GG.length/\E=bh (aM fK (GG.drop k)) (0)) (fun q=>GG.length - q.toNat) 0 ⟨0,rfl,by simp,by simpa using hp⟩ rfl cq ?_
 rintro q ⟨k,hi,hk,hp⟩
 refine gq aJ ?_
 by_cases au:k < GG.length
 ·obtain⟨x,hx,aQ⟩:=aA au
  rw [aQ,aM,bT] at hp
  have sm:=List.mem_of_getElem? hx
  have hC:=KM (w0:=w0) (ρ:=ρ) AV x (by omega)
  obtain⟨B,hB⟩:∃ B,B=AV.contains x:=⟨_,rfl⟩
  have hF:=F9 x
  rw [<-hB] at hF hC
  obtain⟨F,mq⟩:∃ F,F=fK x:=⟨_,rfl⟩
  rw [<-mq] at hp hF
  clear mq hB
  repeat' (first
   |(refine ab.op rfl (ad.ind rfl rfl (ay (l:=GG) hi hx) (aw fun _=>rfl)) ?_;refine gq aJ ?_)
   |(refine ab.bif rfl (ad.ag rfl hC ⟨bR _,.v,trivial⟩) (fun _=>?_) (fun _=>?_)<;>refine gq aJ ?_)
   |(refine ab.mc rfl rfl (fun hb=>?_) (fun hb=>?_)<;>(try simp only [aq] at hb)<;>(first|exact absurd hb (by decide)|refine gq aJ ?_))
   |(refine ab.pz ?_;refine gq aJ ?_)
   |(refine yd rfl (by conv=>lhs;cbv) ?_)
   |(refine ky rfl (by first|rfl ) ?_)
   |(refine bq (fun hb=>?_) (fun hb=>?_)<;>(try simp only [aq] at hb)<;>(first|refine gq aJ ?_))
   |(refine aS fun _ _=>?_;refine gq aJ ?_)
   |(refine ab.ao ?_;refine gq aJ ?_)
   )
  all_goals first
   |(exfalso;omega)
   |(have e:F=0:=by (rw [hF,show B=true by assumption];rfl)
     rw [bw e] at hp
     refine ab.aK (σ:=Int) _ [] ?_ ?_ cq<;>first|omega|exact⟨k+1,by omega,by omega,hp⟩)
   |(have e:F=17:=by (rw [hF,show B=false by assumption];rfl)
     rw [cI (by rw [e];decide)] at hp
     rw [hp,e])
 rw [List.drop_eq_nil_of_le (by omega),aM,bw rfl] at hp
 repeat' (first
  |(refine yd rfl (by conv=>lhs;cbv) ?_)
  |(refine bq (fun hb=>?_) (fun hb=>?_)<;>(try simp only [aq] at hb)<;>(first|refine gq aJ ?_))
  |(refine ab.ao ?_;refine gq aJ ?_)
  )
 all_goals first
  |(exfalso;omega)
  |skip
 all_goals exact hp
end
end
end Go.Proofs.YtgphljokbodciaaGreat
