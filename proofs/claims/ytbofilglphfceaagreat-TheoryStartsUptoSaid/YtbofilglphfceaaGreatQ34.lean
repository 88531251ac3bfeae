import Derived.Test.YtbofilglphfceaaGreatQ32
namespace Go.Proofs.YtbofilglphfceaaGreat
set_option linter.unusedVariables false
set_option linter.unusedSimpArgs false
open Go.RowKit
section
set_option maxRecDepth 100000
attribute [local irreducible] ah bc ad ab
def Pu:CF Tryz.f185:=⟨_,by conv=>lhs;cbv⟩
theorem Yn:aH Tryz.prog 185 Pu.1 Tryz.f185.ntmps:=aQ Tryz.func185 Pu.2 Tryz.call185
def aF:List Nat:=[0,11,56,61,75,80,103,136,141,1,165,182,203,2,13,17,19,57,55,4,60,62,59,6,76,74,8,79,81,78,10,102,104,101,113,137,135,15,140,142,139,164,166,163,181,183,180,21,202,204,201,22,24]
def bW (b:Bool) (e:Int):Int:=if b then 0 else e
theorem bS {a b c:Int}:bh (bh a b) c=bh a (bh b c):=by
 unfold bh
 split<;>simp_all
def aI {T:Type}(f:T->Int):List T->Int
 |[]=>0
 |x::l=>bh (f x) (aI f l)
theorem rW (ds:List Dc) (l:List Gl):fX ds l=aI (lZ ds) l:=by
 induction l with
 |nil=>rfl
 |cons x l ih=>rw [fX,aI,ih]
def tp:List Int->Int->(Int->Int)->Int
 |[],n,k=>k n
 |v::vs,n,k=>if v<=n then tp vs (if v=n then n+1 else n) k else 2
def o7 (x:At):Int:=bW (eh x) 2
def oB (x:Gl):Int:=bW (dL x) 2
def sD (ds:List Dc) (x:At):Int:=kC ds x.n x.a.length
def yA (x:Gl):Int:=bW (lu x.op || decide (x.op=1)) 10
def uU (x:Gl):Int:=bW (!lu x.op) 10
def oY (r:Rl):List Int:=xJ [r.aV,r.rem]
def r8 (r:Rl):List Int:=nn [r.guard,r.body]
def JZ (r:Rl) (x:Int):Int:=bW ((oY r).contains x) 17
def yB (r:Rl):Int:=bh (aI (JZ r) (nn [r.guard])) 0
def GC (r:Rl):Int:=bh (aI yA r.guard) (bh (aI uU r.body) (yB r))
def ri (ds:List Dc) (r:Rl):Int:=bh (fX ds r.guard) (bh (fX ds r.body) (GC r))
def Bu (ds:List Dc) (r:Rl):Int:=bh (aI (sD ds) r.aV) (bh (aI (sD ds) r.rem) (ri ds r))
def vR (ds:List Dc) (r:Rl):Int:=bh (bW (r.n.toList == (⟨#[]⟩:ByteArray).toList || gk r.n) 7) (Bu ds r)
def rj (ds:List Dc) (r:Rl):Int:=tp (oY r++r8 r) 0 fun n=>bh (bW (decide (r.vars=n)) 2) (vR ds r)
def rk (ds:List Dc) (r:Rl):Int:=bh (aI oB r.guard) (bh (aI oB r.body) (rj ds r))
def GD (ds:List Dc) (r:Rl):Int:=bh (aI o7 r.aV) (bh (aI o7 r.rem) (rk ds r))
def yC (r:Rl):Bool:=decide (0 < r.aV.length+r.rem.length) && decide (r.aV.length+r.rem.length<=4) && decide (r.guard.length<=12) && decide (r.body.length<=12)
def oo (ds:List Dc) (r:Rl):Int:=bh (bW (yC r) 6) (GD ds r)
structure tV (r:Rl):Prop where
 n:r.n.size<=1099511627776
 ke:r.aV.length<=1099511627776
 re:r.rem.length<=1099511627776
 g:r.guard.length<=1099511627776
 b:r.body.length<=1099511627776
 kx:∀ x ∈ r.aV,mI x.a/\x.n.size<=1099511627776
 rx:∀ x ∈ r.rem,mI x.a/\x.n.size<=1099511627776
 gx:∀ x ∈ r.guard,r6 x
 bx:∀ x ∈ r.body,r6 x
 av:(oY r).length<=549755813888
 gv:(r8 r).length<=549755813888
section
variable {w0:World}{ρ:Hd}
theorem mI.wx {a:List Tm}(h:mI a):wx a:=⟨h.len,h.1,nS h⟩
theorem Pv (r:Rl) (h:tV r):∃ len,len=(oY r).length/\bc Tryz.prog w0 186 [.sl true [[eO ρ r.aV],[eO ρ r.rem]]] (aM [] 0) (.gr 0 1 len) (aM [(0,lQ ρ (oY r))] 1):=by
 obtain⟨len,h1,h2⟩:=abR (w0:=w0) (ρ:=ρ) [r.aV,r.rem] (by simp) (fun l hl=>by
  simp only [List.mem_cons,List.not_mem_nil,or_false] at hl
  rcases hl with rfl|rfl
  ·exact⟨h.ke,fun x hx=>(h.kx x hx).1.wx⟩
  ·exact⟨h.re,fun x hx=>(h.rx x hx).1.wx⟩) _ rfl (by have:=h.av;unfold oY at this;omega)
 rw [dx] at h2
 exact⟨len,h1,h2⟩
theorem Yo (r:Rl) (h:tV r):ah Tryz.prog w0 186 [.sl true [[eO ρ r.aV],[eO ρ r.rem]]] (b8 ρ bF false (oY r)):=by
 obtain⟨len,h1,h2⟩:=Pv (w0:=w0) (ρ:=ρ) r h
 exact ah.CB h2 (aU.grow rfl h1) (bQ _)
theorem Yp (r:Rl) (h:tV r):ah Tryz.prog w0 187 [.sl true [[cO ρ r.guard],[cO ρ r.body]]] (b8 ρ bF false (r8 r)):=by
 have h2:=Us (w0:=w0) (ρ:=ρ) [r.guard,r.body] (by simp) (fun l hl=>by
  simp only [List.mem_cons,List.not_mem_nil,or_false] at hl
  rcases hl with rfl|rfl
  ·exact⟨h.g,fun x hx=>(h.gx x hx).1.wx⟩
  ·exact⟨h.b,fun x hx=>(h.bx x hx).1.wx⟩) (by have:=h.gv;unfold r8 at this;omega)
 rw [dx] at h2
 exact h2
theorem J2 (r:Rl) (h:tV r):(nn [r.guard]).length<=1099511627776:=by
 have h1:=h.gv
 simp only [r8,nn,List.flatMap_cons,List.flatMap_nil,List.length_append,List.length_nil] at h1 ⊢
 omega
theorem Uw (r:Rl) (h:tV r):ah Tryz.prog w0 187 [.sl true [[cO ρ r.guard]]] (b8 ρ bF false (nn [r.guard])):=by
 have h2:=Us (w0:=w0) (ρ:=ρ) [r.guard] (by simp) (fun l hl=>by
  obtain rfl:=List.mem_singleton.1 hl
  exact⟨h.g,fun x hx=>(h.gx x hx).1.wx⟩) (J2 r h)
 rw [dx] at h2
 exact h2
set_option maxHeartbeats 8000000 in
theorem Ux (ds:List Dc) (r:Rl) (hd:ds.length<=1099511627776) (hr:tV r):tn w0 185 [.ip (fZ ρ r),.ip [dG ρ ds]] (oo ds r):=by
 have mY:Pure (.ip (fZ ρ r)):=.ip (sV r)
 have hpd:Pure (.ip [dG ρ ds]):=.ip fun a ha=>by obtain rfl:=List.mem_singleton.1 ha;exact bU ds
 obtain⟨hkn,iV,dS,yz,Pw,L9,L_,Uy,Uz,hav,hgv⟩:=id hr
 have C0:=Pv (w0:=w0) (ρ:=ρ) r hr
 have hA:=Yo (w0:=w0) (ρ:=ρ) r hr
 have hG:=Yp (w0:=w0) (ρ:=ρ) r hr
 have E6:=Uw (w0:=w0) (ρ:=ρ) r hr
 have hGl:=J2 r hr
 have wv:=E_ (w0:=w0) (ρ:=ρ) ds r.guard hd yz fun x hx=>(Uy x hx).1.len
 have Px:=E_ (w0:=w0) (ρ:=ρ) ds r.body hd Pw fun x hx=>(Uz x hx).1.len
 obtain⟨E,hp⟩:∃ E,E=oo ds r:=⟨_,rfl⟩
 rw [<-hp]
 obtain⟨n,ke,re,g,b,v⟩:=r
 dsimp only at hkn iV dS yz Pw L9 L_ Uy Uz wv Px C0 hA hG E6 hGl
 obtain⟨AV,UA⟩:∃ AV,AV=oY ⟨n,ke,re,g,b,v⟩:=⟨_,rfl⟩
 obtain⟨GV,UB⟩:∃ GV,GV=r8 ⟨n,ke,re,g,b,v⟩:=⟨_,rfl⟩
 obtain⟨GG,UC⟩:∃ GG,GG=nn [g]:=⟨_,rfl⟩
 rw [<-UA] at C0 hA hav
 rw [<-UB] at hG hgv
 rw [<-UC] at E6 hGl
 rw [oo] at hp
 have hS:yC ⟨n,ke,re,g,b,v⟩=(decide (0 < ke.length+re.length) && decide (ke.length+re.length<=4) && decide (g.length<=12) && decide (b.length<=12)):=rfl
 refine Bt Yn (by simp [Tryz.ntmps185]) ?_
 refine gq aF ?_
 repeat' (first
  |(refine ab.lM rfl rfl (fun hb=>?_) (fun hb=>?_)<;>(try simp only [aq] at hb)<;>(first|exact absurd hb (by decide)|refine gq aF ?_))
  |(refine jZ rfl (by first|rfl ) ?_)
  |(refine bq (fun hb=>?_) (fun hb=>?_)<;>(try simp only [aq] at hb)<;>(first|refine gq aF ?_))
  |(refine aB fun m hm=>?_;(try rw [af] at hm);refine gq aF ?_)
  |(refine aS fun _ _=>?_;refine gq aF ?_)
  )
 all_goals first
  |(rw [cE (by rw [hS];simp [bW];omega)] at hp;rw [hp,hS];simp [bW];omega)
  |skip
 rw [bu (by rw [hS];simp [bW];omega),GD] at hp
 dsimp only at hp
 clear hS
 have hpa:Pure (.agg [eO ρ ke,eO ρ re]):=.agg fun a ha=>by simp only [List.mem_cons,List.not_mem_nil,or_false] at ha;rcases ha with rfl|rfl<;>exact gy _
 refine ab.aP (σ:=Int) 0 0 [] (fun q=>[(0,.ip (fZ ρ ⟨n,ke,re,g,b,v⟩)),(1,.ip [dG ρ ds]),(55,.agg [eO ρ ke,eO ρ re]),(56,.v (.int .i64 q))]) [] (fun _=>[]) (fun q=>(q=0/\E=bh (aI o7 ke) (bh (aI o7 re) (rk ds ⟨n,ke,re,g,b,v⟩)))\/(q=1/\E=bh (aI o7 re) (rk ds ⟨n,ke,re,g,b,v⟩))\/(q=2/\E=rk ds ⟨n,ke,re,g,b,v⟩)) (fun q=>2 - q.toNat) 0 (.inl ⟨rfl,hp⟩) rfl cq ?_
 rintro q0 hI
 rcases hI with ⟨rfl,hp⟩|⟨rfl,hp⟩|⟨rfl,hp⟩
 ·refine gq aF ?_
  repeat' (first
   |(refine ab.op rfl (ad.l8 rfl rfl rfl (by decide) (by decide)) ?_;refine gq aF ?_)
   |(refine ab.int rfl (ad.len rfl) fun m2 g_=>?_;rw [af] at g_;refine gq aF ?_)
   |(refine bq (fun hb=>?_) (fun hb=>?_)<;>(try simp only [aq] at hb)<;>(first|exact absurd hb (by decide)|refine gq aF ?_))
   )
  all_goals first
   |skip
  refine ab.aP (σ:=Int) 0 0 [] (fun q=>[(0,.ip (fZ ρ ⟨n,ke,re,g,b,v⟩)),(1,.ip [dG ρ ds]),(55,.agg [eO ρ ke,eO ρ re]),(56,.v (.int .i64 0)),(59,eO ρ ke),(60,.v (.int .i64 m2)),(61,.v (.int .i64 q))]) [] (fun _=>[]) (fun q=>∃ k:Nat,q=k/\k<=ke.length/\E=bh (aI o7 (ke.drop k)) (bh (aI o7 re) (rk ds ⟨n,ke,re,g,b,v⟩))) (fun q=>ke.length - q.toNat) 0 ⟨0,rfl,by simp,by simpa using hp⟩ rfl cq ?_
  rintro q ⟨k,hi,hk,hp⟩
  refine gq aF ?_
  by_cases au:k < ke.length
  ·obtain⟨x,hx,aO⟩:=az au
   rw [aO,aI,bS] at hp
   have rm:=List.mem_of_getElem? hx
   obtain⟨kR,oA⟩:=L9 x rm
   have hR:=vH (w0:=w0) (ρ:=ρ) x ⟨kR.len,kR.1⟩ oA
   obtain⟨B,hB⟩:∃ B,B=eh x:=⟨_,rfl⟩
   obtain⟨F,hF⟩:∃ F,F=o7 x:=⟨_,rfl⟩
   rw [<-hF] at hp
   rw [o7,<-hB] at hF
   rw [<-hB] at hR
   clear hB
   obtain⟨xn,xa⟩:=x
   repeat' (first
    |(refine ab.op rfl (ad.ind rfl rfl (ay (l:=ke) hi hx) (aw fun _=>rfl)) ?_;refine gq aF ?_)
    |(refine ab.op rfl (ad.ag rfl hR ⟨de (ρ:=ρ) ⟨xn,xa⟩,trivial⟩) ?_;refine gq aF ?_)
    |(refine ab.lM rfl rfl (fun hb=>?_) (fun hb=>?_)<;>(try simp only [aq] at hb)<;>(first|refine gq aF ?_))
    |(refine ab.oR ?_;refine gq aF ?_)
    |(refine jZ rfl (by first|rfl ) ?_)
    |(refine bq (fun hb=>?_) (fun hb=>?_)<;>(try simp only [aq] at hb)<;>(first|refine gq aF ?_))
    |(refine aS fun _ _=>?_;refine gq aF ?_)
    |(refine ab.ao ?_;refine gq aF ?_)
    )
   all_goals first
    |(exfalso;omega)
    |(have e:F=0:=by (rw [hF,hb];rfl)
      rw [bu e] at hp
      refine ab.aL (σ:=Int) _ [] ?_ ?_ cq<;>first|omega|exact⟨k+1,by omega,by omega,hp⟩)
    |(have e:F=2:=by (rw [hF,hb];rfl)
      rw [cE (by rw [e];decide)] at hp
      rw [hp,e])
  ·rw [List.drop_eq_nil_of_le (by omega),aI,bu rfl] at hp
   repeat' (first
    |(refine bq (fun hb=>?_) (fun hb=>?_)<;>(try simp only [aq] at hb)<;>(first|refine gq aF ?_))
    |(refine aS fun _ _=>?_;refine gq aF ?_)
    |(refine ab.ao ?_;refine gq aF ?_)
    )
   all_goals first
    |(exfalso;omega)
    |skip
   refine ab.aL (σ:=Int) _ [] ?_ ?_ cq<;>first|omega
 ·refine gq aF ?_
  repeat' (first
   |(refine ab.op rfl (ad.l8 rfl rfl rfl (by decide) (by decide)) ?_;refine gq aF ?_)
   |(refine ab.int rfl (ad.len rfl) fun m2 g_=>?_;rw [af] at g_;refine gq aF ?_)
   |(refine bq (fun hb=>?_) (fun hb=>?_)<;>(try simp only [aq] at hb)<;>(first|exact absurd hb (by decide)|refine gq aF ?_))
   )
  all_goals first
   |skip
  refine ab.aP (σ:=Int) 0 0 [] (fun q=>[(0,.ip (fZ ρ ⟨n,ke,re,g,b,v⟩)),(1,.ip [dG ρ ds]),(55,.agg [eO ρ ke,eO ρ re]),(56,.v (.int .i64 1)),(59,eO ρ re),(60,.v (.int .i64 m2)),(61,.v (.int .i64 q))]) [] (fun _=>[]) (fun q=>∃ k:Nat,q=k/\k<=re.length/\E=bh (aI o7 (re.drop k)) (rk ds ⟨n,ke,re,g,b,v⟩)) (fun q=>re.length - q.toNat) 0 ⟨0,rfl,by simp,by simpa using hp⟩ rfl cq ?_
  rintro q ⟨k,hi,hk,hp⟩
  refine gq aF ?_
  by_cases au:k < re.length
  ·obtain⟨x,hx,aO⟩:=az au
   rw [aO,aI,bS] at hp
   have rm:=List.mem_of_getElem? hx
   obtain⟨kR,oA⟩:=L_ x rm
   have hR:=vH (w0:=w0) (ρ:=ρ) x ⟨kR.len,kR.1⟩ oA
   obtain⟨B,hB⟩:∃ B,B=eh x:=⟨_,rfl⟩
   obtain⟨F,hF⟩:∃ F,F=o7 x:=⟨_,rfl⟩
   rw [<-hF] at hp
   rw [o7,<-hB] at hF
   rw [<-hB] at hR
   clear hB
   obtain⟨xn,xa⟩:=x
   repeat' (first
    |(refine ab.op rfl (ad.ind rfl rfl (ay (l:=re) hi hx) (aw fun _=>rfl)) ?_;refine gq aF ?_)
    |(refine ab.op rfl (ad.ag rfl hR ⟨de (ρ:=ρ) ⟨xn,xa⟩,trivial⟩) ?_;refine gq aF ?_)
    |(refine ab.lM rfl rfl (fun hb=>?_) (fun hb=>?_)<;>(try simp only [aq] at hb)<;>(first|refine gq aF ?_))
    |(refine ab.oR ?_;refine gq aF ?_)
    |(refine jZ rfl (by first|rfl ) ?_)
    |(refine bq (fun hb=>?_) (fun hb=>?_)<;>(try simp only [aq] at hb)<;>(first|refine gq aF ?_))
    |(refine aS fun _ _=>?_;refine gq aF ?_)
    |(refine ab.ao ?_;refine gq aF ?_)
    )
   all_goals first
    |(exfalso;omega)
    |(have e:F=0:=by (rw [hF,hb];rfl)
      rw [bu e] at hp
      refine ab.aL (σ:=Int) _ [] ?_ ?_ cq<;>first|omega|exact⟨k+1,by omega,by omega,hp⟩)
    |(have e:F=2:=by (rw [hF,hb];rfl)
      rw [cE (by rw [e];decide)] at hp
      rw [hp,e])
  ·rw [List.drop_eq_nil_of_le (by omega),aI,bu rfl] at hp
   repeat' (first
    |(refine bq (fun hb=>?_) (fun hb=>?_)<;>(try simp only [aq] at hb)<;>(first|refine gq aF ?_))
    |(refine aS fun _ _=>?_;refine gq aF ?_)
    |(refine ab.ao ?_;refine gq aF ?_)
    )
   all_goals first
    |(exfalso;omega)
    |skip
   refine ab.aL (σ:=Int) _ [] ?_ ?_ cq<;>first|omega
 refine gq aF ?_
 repeat' (first
  |(refine bq (fun hb=>?_) (fun hb=>?_)<;>(try simp only [aq] at hb)<;>(first|exact absurd hb (by decide)|refine gq aF ?_))
  |(refine ab.ao ?_;refine gq aF ?_)
  )
 all_goals first
  |skip
 rw [rk] at hp
 dsimp only at hp
 have hpa:Pure (.agg [cO ρ g,cO ρ b]):=.agg fun a ha=>by simp only [List.mem_cons,List.not_mem_nil,or_false] at ha;rcases ha with rfl|rfl<;>exact bw _
 refine ab.aP (σ:=Int) 0 0 [] (fun q=>[(0,.ip (fZ ρ ⟨n,ke,re,g,b,v⟩)),(1,.ip [dG ρ ds]),(74,.agg [cO ρ g,cO ρ b]),(75,.v (.int .i64 q))]) [] (fun _=>[]) (fun q=>(q=0/\E=bh (aI oB g) (bh (aI oB b) (rj ds ⟨n,ke,re,g,b,v⟩)))\/(q=1/\E=bh (aI oB b) (rj ds ⟨n,ke,re,g,b,v⟩))\/(q=2/\E=rj ds ⟨n,ke,re,g,b,v⟩)) (fun q=>2 - q.toNat) 0 (.inl ⟨rfl,hp⟩) rfl cq ?_
 rintro q0 hI
 rcases hI with ⟨rfl,hp⟩|⟨rfl,hp⟩|⟨rfl,hp⟩
 ·refine gq aF ?_
  repeat' (first
   |(refine ab.op rfl (ad.l8 rfl rfl rfl (by decide) (by decide)) ?_;refine gq aF ?_)
   |(refine ab.int rfl (ad.len rfl) fun m2 g_=>?_;rw [af] at g_;refine gq aF ?_)
   |(refine bq (fun hb=>?_) (fun hb=>?_)<;>(try simp only [aq] at hb)<;>(first|exact absurd hb (by decide)|refine gq aF ?_))
   )
  all_goals first
   |skip
  refine ab.aP (σ:=Int) 0 0 [] (fun q=>[(0,.ip (fZ ρ ⟨n,ke,re,g,b,v⟩)),(1,.ip [dG ρ ds]),(74,.agg [cO ρ g,cO ρ b]),(75,.v (.int .i64 0)),(78,cO ρ g),(79,.v (.int .i64 m2)),(80,.v (.int .i64 q))]) [] (fun _=>[]) (fun q=>∃ k:Nat,q=k/\k<=g.length/\E=bh (aI oB (g.drop k)) (bh (aI oB b) (rj ds ⟨n,ke,re,g,b,v⟩))) (fun q=>g.length - q.toNat) 0 ⟨0,rfl,by simp,by simpa using hp⟩ rfl cq ?_
  rintro q ⟨k,hi,hk,hp⟩
  refine gq aF ?_
  by_cases au:k < g.length
  ·obtain⟨x,hx,aO⟩:=az au
   rw [aO,aI,bS] at hp
   have rm:=List.mem_of_getElem? hx
   obtain⟨kR,oA⟩:=Uy x rm
   have hR:=vI (w0:=w0) (ρ:=ρ) x ⟨kR.len,kR.1⟩ oA
   obtain⟨B,hB⟩:∃ B,B=dL x:=⟨_,rfl⟩
   obtain⟨F,hF⟩:∃ F,F=oB x:=⟨_,rfl⟩
   rw [<-hF] at hp
   rw [oB,<-hB] at hF
   rw [<-hB] at hR
   clear hB
   obtain⟨xo,xn,xa⟩:=x
   repeat' (first
    |(refine ab.op rfl (ad.ind rfl rfl (ay (l:=g) hi hx) (aw fun _=>rfl)) ?_;refine gq aF ?_)
    |(refine ab.op rfl (ad.ag rfl hR ⟨dy (ρ:=ρ) ⟨xo,xn,xa⟩,trivial⟩) ?_;refine gq aF ?_)
    |(refine ab.lM rfl rfl (fun hb=>?_) (fun hb=>?_)<;>(try simp only [aq] at hb)<;>(first|refine gq aF ?_))
    |(refine ab.oR ?_;refine gq aF ?_)
    |(refine jZ rfl (by first|rfl ) ?_)
    |(refine bq (fun hb=>?_) (fun hb=>?_)<;>(try simp only [aq] at hb)<;>(first|refine gq aF ?_))
    |(refine aS fun _ _=>?_;refine gq aF ?_)
    |(refine ab.ao ?_;refine gq aF ?_)
    )
   all_goals first
    |(exfalso;omega)
    |(have e:F=0:=by (rw [hF,hb];rfl)
      rw [bu e] at hp
      refine ab.aL (σ:=Int) _ [] ?_ ?_ cq<;>first|omega|exact⟨k+1,by omega,by omega,hp⟩)
    |(have e:F=2:=by (rw [hF,hb];rfl)
      rw [cE (by rw [e];decide)] at hp
      rw [hp,e])
  ·rw [List.drop_eq_nil_of_le (by omega),aI,bu rfl] at hp
   repeat' (first
    |(refine bq (fun hb=>?_) (fun hb=>?_)<;>(try simp only [aq] at hb)<;>(first|refine gq aF ?_))
    |(refine aS fun _ _=>?_;refine gq aF ?_)
    |(refine ab.ao ?_;refine gq aF ?_)
    )
   all_goals first
    |(exfalso;omega)
    |skip
   refine ab.aL (σ:=Int) _ [] ?_ ?_ cq<;>first|omega
 ·refine gq aF ?_
  repeat' (first
   |(refine ab.op rfl (ad.l8 rfl rfl rfl (by decide) (by decide)) ?_;refine gq aF ?_)
   |(refine ab.int rfl (ad.len rfl) fun m2 g_=>?_;rw [af] at g_;refine gq aF ?_)
   |(refine bq (fun hb=>?_) (fun hb=>?_)<;>(try simp only [aq] at hb)<;>(first|exact absurd hb (by decide)|refine gq aF ?_))
   )
  all_goals first
   |skip
  refine ab.aP (σ:=Int) 0 0 [] (fun q=>[(0,.ip (fZ ρ ⟨n,ke,re,g,b,v⟩)),(1,.ip [dG ρ ds]),(74,.agg [cO ρ g,cO ρ b]),(75,.v (.int .i64 1)),(78,cO ρ b),(79,.v (.int .i64 m2)),(80,.v (.int .i64 q))]) [] (fun _=>[]) (fun q=>∃ k:Nat,q=k/\k<=b.length/\E=bh (aI oB (b.drop k)) (rj ds ⟨n,ke,re,g,b,v⟩)) (fun q=>b.length - q.toNat) 0 ⟨0,rfl,by simp,by simpa using hp⟩ rfl cq ?_
  rintro q ⟨k,hi,hk,hp⟩
  refine gq aF ?_
  by_cases au:k < b.length
  ·obtain⟨x,hx,aO⟩:=az au
   rw [aO,aI,bS] at hp
   have rm:=List.mem_of_getElem? hx
   obtain⟨kR,oA⟩:=Uz x rm
   have hR:=vI (w0:=w0) (ρ:=ρ) x ⟨kR.len,kR.1⟩ oA
   obtain⟨B,hB⟩:∃ B,B=dL x:=⟨_,rfl⟩
   obtain⟨F,hF⟩:∃ F,F=oB x:=⟨_,rfl⟩
   rw [<-hF] at hp
   rw [oB,<-hB] at hF
   rw [<-hB] at hR
   clear hB
   obtain⟨xo,xn,xa⟩:=x
   repeat' (first
    |(refine ab.op rfl (ad.ind rfl rfl (ay (l:=b) hi hx) (aw fun _=>rfl)) ?_;refine gq aF ?_)
    |(refine ab.op rfl (ad.ag rfl hR ⟨dy (ρ:=ρ) ⟨xo,xn,xa⟩,trivial⟩) ?_;refine gq aF ?_)
    |(refine ab.lM rfl rfl (fun hb=>?_) (fun hb=>?_)<;>(try simp only [aq] at hb)<;>(first|refine gq aF ?_))
    |(refine ab.oR ?_;refine gq aF ?_)
    |(refine jZ rfl (by first|rfl ) ?_)
    |(refine bq (fun hb=>?_) (fun hb=>?_)<;>(try simp only [aq] at hb)<;>(first|refine gq aF ?_))
    |(refine aS fun _ _=>?_;refine gq aF ?_)
    |(refine ab.ao ?_;refine gq aF ?_)
    )
   all_goals first
    |(exfalso;omega)
    |(have e:F=0:=by (rw [hF,hb];rfl)
      rw [bu e] at hp
      refine ab.aL (σ:=Int) _ [] ?_ ?_ cq<;>first|omega|exact⟨k+1,by omega,by omega,hp⟩)
    |(have e:F=2:=by (rw [hF,hb];rfl)
      rw [cE (by rw [e];decide)] at hp
      rw [hp,e])
  ·rw [List.drop_eq_nil_of_le (by omega),aI,bu rfl] at hp
   repeat' (first
    |(refine bq (fun hb=>?_) (fun hb=>?_)<;>(try simp only [aq] at hb)<;>(first|refine gq aF ?_))
    |(refine aS fun _ _=>?_;refine gq aF ?_)
    |(refine ab.ao ?_;refine gq aF ?_)
    )
   all_goals first
    |(exfalso;omega)
    |skip
   refine ab.aL (σ:=Int) _ [] ?_ ?_ cq<;>first|omega
 refine gq aF ?_
 repeat' (first
  |(refine bq (fun hb=>?_) (fun hb=>?_)<;>(try simp only [aq] at hb)<;>(first|exact absurd hb (by decide)|refine gq aF ?_))
  |(refine ab.ao ?_;refine gq aF ?_)
  )
 all_goals first
  |skip
 have AK:rj ds ⟨n,ke,re,g,b,v⟩=tp (oY ⟨n,ke,re,g,b,v⟩++r8 ⟨n,ke,re,g,b,v⟩) 0 fun n'=>bh (bW (decide (v=n')) 2) (vR ds ⟨n,ke,re,g,b,v⟩):=rfl
 rw [AK,<-UA,<-UB] at hp
 clear AK
 obtain⟨len,hlen,bI⟩:=C0
 have hp1:Pure (.sl true [[eO ρ ke],[eO ρ re]]):=.sl fun row hr a ha=>by simp only [List.mem_cons,List.not_mem_nil,or_false] at hr;rcases hr with rfl|rfl<;>(obtain rfl:=List.mem_singleton.1 ha;exact gy _)
 have dN:Pure (.sl true [[cO ρ g],[cO ρ b]]):=.sl fun row hr a ha=>by simp only [List.mem_cons,List.not_mem_nil,or_false] at hr;rcases hr with rfl|rfl<;>(obtain rfl:=List.mem_singleton.1 ha;exact bw _)
 have C3:Pure (.sl true [[cO ρ g]]):=.sl fun row hr a ha=>by obtain rfl:=List.mem_singleton.1 hr;obtain rfl:=List.mem_singleton.1 ha;exact bw _
 refine ab.TK rfl bI rfl ⟨Rn.pure hp1,trivial⟩ (Rb.gr rfl) ⟨⟨0,_,rfl,rfl,iD.pure fR⟩,trivial⟩ rfl ?_
 refine gq aF ?_
 refine ab.qW rfl (fun T=>ad.ag rfl hG ⟨dN,trivial⟩) ?_
 refine gq aF ?_
 refine ab.Ga (f:=bF) rfl rfl rfl hlen (fun _=>rfl) rfl (fun _=>rfl) (fun _=>rfl) (by omega) fun L i_ hL py=>?_
 refine gq aF ?_
 obtain⟨kk,AK⟩:∃ kk:Int->Int,kk=fun n'=>bh (bW (decide (v=n')) 2) (vR ds ⟨n,ke,re,g,b,v⟩):=⟨_,rfl⟩
 rw [<-AK,<-hL] at hp
 have rp:L.length<=1099511627776:=by rw [hL,List.length_append];omega
 refine ab.abg rfl (fun T=>ad.TL rfl) fun m3 Fb=>?_
 refine gq aF ?_
 refine ab.cv (Cv.freeze (t:=101) rfl rfl (.inl rfl) (py.trans (af (ρ:=ρ) (f:=bF)).symm) (Nat.zero_le _)) ?_
 refine ab.aP (σ:=Int × Int) 3 3 [] (fun p=>[(0,.ip (fZ ρ ⟨n,ke,re,g,b,v⟩)),(1,.ip [dG ρ ds]),(11,.v (.int .i64 p.2)),(101,b8 ρ bF false L),(102,.v (.int .i64 m3)),(103,.v (.int .i64 p.1))]) [] (fun _=>[]) (fun p=>∃ k:Nat,p.1=k/\k<=L.length/\0<=p.2/\p.2<=k/\E=tp (L.drop k) p.2 kk) (fun p=>L.length - p.1.toNat) (0,0) ⟨0,rfl,by simp,by simp,by simp,by simpa using hp⟩ rfl cq ?_
 rintro⟨i,nx⟩ ⟨k,hi,hk,hn0,hn1,hp⟩
 simp only at hi hn0 hn1 hp
 refine gq aF ?_
 by_cases au:k < L.length
 ·obtain⟨x,hx,aO⟩:=az au
  rw [aO,tp] at hp
  repeat' (first
   |(refine ab.op rfl (ad.ind rfl rfl (ay (l:=L) hi hx) (aw fun _=>rfl)) ?_;refine gq aF ?_)
   |(refine ab.lM rfl rfl (fun hb=>?_) (fun hb=>?_)<;>(try simp only [aq] at hb)<;>(first|exact absurd hb (by decide)|refine gq aF ?_))
   |(refine ab.oR ?_;refine gq aF ?_)
   |(refine jZ rfl (by first|rfl ) ?_)
   |(refine bq (fun hb=>?_) (fun hb=>?_)<;>(try simp only [aq] at hb)<;>(first|refine gq aF ?_))
   |(refine aS fun _ _=>?_;refine gq aF ?_)
   |(refine ab.ao ?_;refine gq aF ?_)
   )
  all_goals first
   |(exfalso;omega)
   |(rw [if_pos (by omega),if_pos (by omega)] at hp
     refine ab.aL (σ:=Int × Int) (_,_) [] ?_ ?_ cq
     ·exact⟨k+1,by simp only;omega,by omega,by simp only;omega,by simp only;omega,by rw [hp];congr 1;simp only;omega⟩
     ·simp only;omega)
   |(rw [if_pos (by omega),if_neg (by omega)] at hp
     refine ab.aL (σ:=Int × Int) (_,_) [] ?_ ?_ cq
     ·exact⟨k+1,by simp only;omega,by omega,by simp only;omega,by simp only;omega,hp⟩
     ·simp only;omega)
   |(rw [if_neg (by omega)] at hp;exact hp)
 rw [List.drop_eq_nil_of_le (by omega),tp] at hp
 subst AK
 simp only at hp
 refine ab.a_ rfl (ad.bit rfl) (fun hb=>?_) (fun hb=>?_)<;>(try simp only [decide_eq_true_eq,decide_eq_false_iff_not,beq_iff_eq,beq_eq_false_iff_ne,bne_iff_ne,bne_eq_false_iff_eq,Bool.not_eq_true,Bool.not_eq_false,Bool.not_eq_true',Bool.not_eq_false',ne_eq] at hb)
 ·exfalso;omega
 refine gq aF ?_
 refine ab.ao ?_
 refine gq aF ?_
 refine ab.a_ rfl (ad.bit rfl) (fun hb=>?_) (fun hb=>?_)<;>(try simp only [decide_eq_true_eq,decide_eq_false_iff_not,beq_iff_eq,beq_eq_false_iff_ne,bne_iff_ne,bne_eq_false_iff_eq,Bool.not_eq_true,Bool.not_eq_false,Bool.not_eq_true',Bool.not_eq_false',ne_eq] at hb)<;>refine gq aF ?_
 rotate_left
 ·refine ab.lM rfl rfl (fun hc=>absurd hc (by decide)) (fun hc=>?_)
  refine gq aF ?_
  refine jZ rfl rfl ?_
  rw [decide_eq_false (by omega)] at hp
  exact hp
 refine ab.lM rfl rfl (fun hc=>?_) (fun hc=>absurd hc (by decide))
 refine gq aF ?_
 rw [decide_eq_true (by omega),show bW true 2=0 from rfl,bu rfl] at hp
 have hN:=sh (w0:=w0) n hkn
 rw [vR] at hp
 dsimp only at hp
 refine ab.abi (σ:=Int) 0 3 3 (fun _=>[(0,.ip (fZ ρ ⟨n,ke,re,g,b,v⟩)),(1,.ip [dG ρ ds])]) [] (fun _=>[]) (fun _=>E=Bu ds ⟨n,ke,re,g,b,v⟩) rfl ?_ ?_
 ·obtain⟨NB,yD⟩:∃ NB,NB=gk n:=⟨_,rfl⟩
  rw [<-yD] at hp hN
  obtain⟨ne,bG⟩:∃ ne,ne=(n.toList == (⟨#[]⟩:ByteArray).toList):=⟨_,rfl⟩
  rw [<-bG] at hp
  repeat' (first
   |(refine ab.a_ rfl (ad.bit rfl) (fun hs=>?_) (fun hs=>?_)<;>refine gq aF ?_)
   |(refine ab.a_ rfl (ad.ag rfl hN ⟨.v,trivial⟩) (fun _=>?_) (fun _=>?_)<;>refine gq aF ?_)
   |(refine ab.abA ?_;refine gq aF ?_)
   |(refine ab.lM rfl rfl (fun hb=>?_) (fun hb=>?_)<;>(try simp only [aq] at hb)<;>(first|exact absurd hb (by decide)|refine gq aF ?_))
   |(refine jZ rfl (by first|rfl ) ?_)
   )
  all_goals first
   |(rw [show NB=true by assumption,Bool.or_true,show bW true 7=0 from rfl,bu rfl] at hp;exact ab.Sp (0:Int) [] hp rfl cq)
   |(rw [show NB=false by assumption,show ne=false by (rw [bG];first|exact hs )] at hp;exact hp)
   |(rw [show ne=true by (rw [bG];first|exact hs ),Bool.true_or,show bW true 7=0 from rfl,bu rfl] at hp;exact ab.Sp (0:Int) [] hp rfl cq)
 rintro s0 hp
 clear hL rp hN bI hG UB
 refine gq aF ?_
 rw [Bu] at hp
 dsimp only at hp
 have hpa:Pure (.agg [eO ρ ke,eO ρ re]):=.agg fun a ha=>by simp only [List.mem_cons,List.not_mem_nil,or_false] at ha;rcases ha with rfl|rfl<;>exact gy _
 refine ab.aP (σ:=Int) 3 3 [] (fun q=>[(0,.ip (fZ ρ ⟨n,ke,re,g,b,v⟩)),(1,.ip [dG ρ ds]),(135,.agg [eO ρ ke,eO ρ re]),(136,.v (.int .i64 q))]) [] (fun _=>[]) (fun q=>(q=0/\E=bh (aI (sD ds) ke) (bh (aI (sD ds) re) (ri ds ⟨n,ke,re,g,b,v⟩)))\/(q=1/\E=bh (aI (sD ds) re) (ri ds ⟨n,ke,re,g,b,v⟩))\/(q=2/\E=ri ds ⟨n,ke,re,g,b,v⟩)) (fun q=>2 - q.toNat) 0 (.inl ⟨rfl,hp⟩) rfl cq ?_
 rintro q0 hI
 rcases hI with ⟨rfl,hp⟩|⟨rfl,hp⟩|⟨rfl,hp⟩
 ·refine gq aF ?_
  repeat' (first
   |(refine ab.op rfl (ad.l8 rfl rfl rfl (by decide) (by decide)) ?_;refine gq aF ?_)
   |(refine ab.int rfl (ad.len rfl) fun m2 g_=>?_;rw [af] at g_;refine gq aF ?_)
   |(refine bq (fun hb=>?_) (fun hb=>?_)<;>(try simp only [aq] at hb)<;>(first|exact absurd hb (by decide)|refine gq aF ?_))
   )
  all_goals first
   |skip
  refine ab.aP (σ:=Int) 3 3 [] (fun q=>[(0,.ip (fZ ρ ⟨n,ke,re,g,b,v⟩)),(1,.ip [dG ρ ds]),(135,.agg [eO ρ ke,eO ρ re]),(136,.v (.int .i64 0)),(139,eO ρ ke),(140,.v (.int .i64 m2)),(141,.v (.int .i64 q))]) [] (fun _=>[]) (fun q=>∃ k:Nat,q=k/\k<=ke.length/\E=bh (aI (sD ds) (ke.drop k)) (bh (aI (sD ds) re) (ri ds ⟨n,ke,re,g,b,v⟩))) (fun q=>ke.length - q.toNat) 0 ⟨0,rfl,by simp,by simpa using hp⟩ rfl cq ?_
  rintro q ⟨k,hi,hk,hp⟩
  refine gq aF ?_
  by_cases au:k < ke.length
  ·obtain⟨x,hx,aO⟩:=az au
   rw [aO,aI,bS] at hp
   have rm:=List.mem_of_getElem? hx
   obtain⟨kR,oA⟩:=L9 x rm
   have oC:=kR.len
   obtain⟨F,hF⟩:∃ F,F=sD ds x:=⟨_,rfl⟩
   rw [<-hF] at hp
   have hD:=zP (w0:=w0) (ρ:=ρ) ds x.n x.a.length hd
   rw [show kC ds x.n x.a.length=F from hF.symm] at hD
   clear hF kR oA
   obtain⟨xn,xa⟩:=x
   dsimp only at hD oC
   obtain⟨q3,AL⟩:∃ q:Int,q=xa.length:=⟨_,rfl⟩
   rw [<-AL] at hD
   repeat' (first
    |(refine ab.op rfl (ad.ind rfl rfl (ay (l:=ke) hi hx) (aw fun _=>rfl)) ?_;refine gq aF ?_)
    |(refine ab.int rfl (ad.len rfl) fun m3 Fb=>?_;rw [af] at Fb;obtain rfl:m3=q3:=(by omega);refine gq aF ?_)
    |(refine ab.lZ rfl rfl (hD) (by repeat' (first|exact trivial|(refine⟨?_,?_⟩;(first|exact .v|exact bU _ )))) (fun he=>?_) (fun he=>?_)<;>refine gq aF ?_)
    |(refine ab.oR ?_;refine gq aF ?_)
    |(refine jZ rfl (by first|exact decide_eq_false (by assumption)) ?_)
    |(refine bq (fun hb=>?_) (fun hb=>?_)<;>(try simp only [aq] at hb)<;>(first|refine gq aF ?_))
    |(refine aS fun _ _=>?_;refine gq aF ?_)
    |(refine ab.ao ?_;refine gq aF ?_)
    )
   all_goals first
    |(exfalso;omega)
    |(have e:F=0:=he
      rw [bu e] at hp
      refine ab.aL (σ:=Int) _ [] ?_ ?_ cq<;>first|omega|exact⟨k+1,by omega,by omega,hp⟩)
    |(rw [cE he] at hp
      exact hp)
  ·rw [List.drop_eq_nil_of_le (by omega),aI,bu rfl] at hp
   repeat' (first
    |(refine bq (fun hb=>?_) (fun hb=>?_)<;>(try simp only [aq] at hb)<;>(first|refine gq aF ?_))
    |(refine aS fun _ _=>?_;refine gq aF ?_)
    |(refine ab.ao ?_;refine gq aF ?_)
    )
   all_goals first
    |(exfalso;omega)
    |skip
   refine ab.aL (σ:=Int) _ [] ?_ ?_ cq<;>first|omega
 ·refine gq aF ?_
  repeat' (first
   |(refine ab.op rfl (ad.l8 rfl rfl rfl (by decide) (by decide)) ?_;refine gq aF ?_)
   |(refine ab.int rfl (ad.len rfl) fun m2 g_=>?_;rw [af] at g_;refine gq aF ?_)
   |(refine bq (fun hb=>?_) (fun hb=>?_)<;>(try simp only [aq] at hb)<;>(first|exact absurd hb (by decide)|refine gq aF ?_))
   )
  all_goals first
   |skip
  refine ab.aP (σ:=Int) 3 3 [] (fun q=>[(0,.ip (fZ ρ ⟨n,ke,re,g,b,v⟩)),(1,.ip [dG ρ ds]),(135,.agg [eO ρ ke,eO ρ re]),(136,.v (.int .i64 1)),(139,eO ρ re),(140,.v (.int .i64 m2)),(141,.v (.int .i64 q))]) [] (fun _=>[]) (fun q=>∃ k:Nat,q=k/\k<=re.length/\E=bh (aI (sD ds) (re.drop k)) (ri ds ⟨n,ke,re,g,b,v⟩)) (fun q=>re.length - q.toNat) 0 ⟨0,rfl,by simp,by simpa using hp⟩ rfl cq ?_
  rintro q ⟨k,hi,hk,hp⟩
  refine gq aF ?_
  by_cases au:k < re.length
  ·obtain⟨x,hx,aO⟩:=az au
   rw [aO,aI,bS] at hp
   have rm:=List.mem_of_getElem? hx
   obtain⟨kR,oA⟩:=L_ x rm
   have oC:=kR.len
   obtain⟨F,hF⟩:∃ F,F=sD ds x:=⟨_,rfl⟩
   rw [<-hF] at hp
   have hD:=zP (w0:=w0) (ρ:=ρ) ds x.n x.a.length hd
   rw [show kC ds x.n x.a.length=F from hF.symm] at hD
   clear hF kR oA
   obtain⟨xn,xa⟩:=x
   dsimp only at hD oC
   obtain⟨q3,AL⟩:∃ q:Int,q=xa.length:=⟨_,rfl⟩
   rw [<-AL] at hD
   repeat' (first
    |(refine ab.op rfl (ad.ind rfl rfl (ay (l:=re) hi hx) (aw fun _=>rfl)) ?_;refine gq aF ?_)
    |(refine ab.int rfl (ad.len rfl) fun m3 Fb=>?_;rw [af] at Fb;obtain rfl:m3=q3:=(by omega);refine gq aF ?_)
    |(refine ab.lZ rfl rfl (hD) (by repeat' (first|exact trivial|(refine⟨?_,?_⟩;(first|exact .v|exact bU _ )))) (fun he=>?_) (fun he=>?_)<;>refine gq aF ?_)
    |(refine ab.oR ?_;refine gq aF ?_)
    |(refine jZ rfl (by first|exact decide_eq_false (by assumption)) ?_)
    |(refine bq (fun hb=>?_) (fun hb=>?_)<;>(try simp only [aq] at hb)<;>(first|refine gq aF ?_))
    |(refine aS fun _ _=>?_;refine gq aF ?_)
    |(refine ab.ao ?_;refine gq aF ?_)
    )
   all_goals first
    |(exfalso;omega)
    |(have e:F=0:=he
      rw [bu e] at hp
      refine ab.aL (σ:=Int) _ [] ?_ ?_ cq<;>first|omega|exact⟨k+1,by omega,by omega,hp⟩)
    |(rw [cE he] at hp
      exact hp)
  ·rw [List.drop_eq_nil_of_le (by omega),aI,bu rfl] at hp
   repeat' (first
    |(refine bq (fun hb=>?_) (fun hb=>?_)<;>(try simp only [aq] at hb)<;>(first|refine gq aF ?_))
    |(refine aS fun _ _=>?_;refine gq aF ?_)
    |(refine ab.ao ?_;refine gq aF ?_)
    )
   all_goals first
    |(exfalso;omega)
    |skip
   refine ab.aL (σ:=Int) _ [] ?_ ?_ cq<;>first|omega
 refine gq aF ?_
 repeat' (first
  |(refine bq (fun hb=>?_) (fun hb=>?_)<;>(try simp only [aq] at hb)<;>(first|exact absurd hb (by decide)|refine gq aF ?_))
  |(refine ab.ao ?_;refine gq aF ?_)
  )
 all_goals first
  |skip
 rw [ri] at hp
 dsimp only at hp
 obtain⟨F1,tR⟩:∃ F,F=fX ds g:=⟨_,rfl⟩
 obtain⟨F2,hF2⟩:∃ F,F=fX ds b:=⟨_,rfl⟩
 rw [<-tR] at hp wv
 rw [<-hF2] at hp Px
 repeat' (first
  |(refine ab.int rfl (ad.len rfl) fun m2 g_=>?_;rw [af] at g_;refine gq aF ?_)
  |(refine ab.lZ rfl rfl (wv) (by repeat' (first|exact trivial|(refine⟨?_,?_⟩;(first|exact bw _|exact bU _ )))) (fun he=>?_) (fun he=>?_)<;>refine gq aF ?_)
  |(refine ab.lZ rfl rfl (Px) (by repeat' (first|exact trivial|(refine⟨?_,?_⟩;(first|exact bw _|exact bU _ )))) (fun he=>?_) (fun he=>?_)<;>refine gq aF ?_)
  |(refine jZ rfl (by first|exact decide_eq_false (by assumption)) ?_)
  )
 all_goals first
  |(rw [bu (e:=F1) (by assumption),cE (e:=F2) (by assumption)] at hp;exact hp)
  |(rw [cE (e:=F1) (by assumption)] at hp;exact hp)
  |skip
 rw [bu (e:=F1) (by assumption),bu (e:=F2) (by assumption),GC] at hp
 dsimp only at hp
 clear tR hF2 wv Px
 refine ab.aP (σ:=Int) 3 3 [] (fun q=>[(0,.ip (fZ ρ ⟨n,ke,re,g,b,v⟩)),(1,.ip [dG ρ ds]),(163,cO ρ g),(164,.v (.int .i64 m2)),(165,.v (.int .i64 q))]) [] (fun _=>[]) (fun q=>∃ k:Nat,q=k/\k<=g.length/\E=bh (aI yA (g.drop k)) (bh (aI uU b) (yB ⟨n,ke,re,g,b,v⟩))) (fun q=>g.length - q.toNat) 0 ⟨0,rfl,by simp,by simpa using hp⟩ rfl cq ?_
 rintro q ⟨k,hi,hk,hp⟩
 refine gq aF ?_
 by_cases au:k < g.length
 ·obtain⟨x,hx,aO⟩:=az au
  rw [aO,aI,bS] at hp
  have rm:=List.mem_of_getElem? hx
  have hT:=JT (w0:=w0) x.op
  obtain⟨B,hB⟩:∃ B,B=lu x.op:=⟨_,rfl⟩
  obtain⟨F,hF⟩:∃ F,F=yA x:=⟨_,rfl⟩
  rw [<-hF] at hp
  rw [yA,<-hB] at hF
  rw [<-hB] at hT
  clear hB
  obtain⟨xo,xn,xa⟩:=x
  dsimp only at hT hF
  repeat' (first
   |(refine ab.op rfl (ad.ind rfl rfl (ay (l:=g) hi hx) (aw fun _=>rfl)) ?_;refine gq aF ?_)
   |(refine ab.a_ rfl (ad.ag rfl hT ⟨.v,trivial⟩) (fun _=>?_) (fun _=>?_)<;>refine gq aF ?_)
   |(refine ab.lM rfl rfl (fun hb=>?_) (fun hb=>?_)<;>(try simp only [aq] at hb)<;>(first|exact absurd hb (by decide)|refine gq aF ?_))
   |(refine ab.oR ?_;refine gq aF ?_)
   |(refine jZ rfl (by first|rfl ) ?_)
   |(refine bq (fun hb=>?_) (fun hb=>?_)<;>(try simp only [aq] at hb)<;>(first|refine gq aF ?_))
   |(refine aB fun m hm=>?_;(try rw [af] at hm);refine gq aF ?_)
   |(refine aS fun _ _=>?_;refine gq aF ?_)
   |(refine ab.ao ?_;refine gq aF ?_)
   )
  all_goals first
   |(exfalso;omega)
   |(have e:F=0:=by (first|(rw [hF,show B=true by assumption];rfl)|(rw [hF,decide_eq_true (show xo=1 by omega),Bool.or_true];rfl))
     rw [bu e] at hp
     refine ab.aL (σ:=Int) _ [] ?_ ?_ cq<;>first|omega|exact⟨k+1,by omega,by omega,hp⟩)
   |(have e:F=10:=by (rw [hF,show B=false by assumption,decide_eq_false (show ¬ xo=1 by omega)];rfl)
     rw [cE (by rw [e];decide)] at hp
     rw [hp,e])
 rw [List.drop_eq_nil_of_le (by omega),aI,bu rfl] at hp
 repeat' (first
  |(refine ab.int rfl (ad.len rfl) fun m2 g_=>?_;rw [af] at g_;refine gq aF ?_)
  |(refine bq (fun hb=>?_) (fun hb=>?_)<;>(try simp only [aq] at hb)<;>(first|refine gq aF ?_))
  |(refine ab.ao ?_;refine gq aF ?_)
  )
 all_goals first
  |(exfalso;omega)
  |skip
 refine ab.aP (σ:=Int) 3 3 [] (fun q=>[(0,.ip (fZ ρ ⟨n,ke,re,g,b,v⟩)),(1,.ip [dG ρ ds]),(180,cO ρ b),(181,.v (.int .i64 m2)),(182,.v (.int .i64 q))]) [] (fun _=>[]) (fun q=>∃ k:Nat,q=k/\k<=b.length/\E=bh (aI uU (b.drop k)) (yB ⟨n,ke,re,g,b,v⟩)) (fun q=>b.length - q.toNat) 0 ⟨0,rfl,by simp,by simpa using hp⟩ rfl cq ?_
 rintro q ⟨k,hi,hk,hp⟩
 refine gq aF ?_
 by_cases au:k < b.length
 ·obtain⟨x,hx,aO⟩:=az au
  rw [aO,aI,bS] at hp
  have rm:=List.mem_of_getElem? hx
  have hT:=JT (w0:=w0) x.op
  obtain⟨B,hB⟩:∃ B,B=lu x.op:=⟨_,rfl⟩
  obtain⟨F,hF⟩:∃ F,F=uU x:=⟨_,rfl⟩
  rw [<-hF] at hp
  rw [uU,<-hB] at hF
  rw [<-hB] at hT
  clear hB
  obtain⟨xo,xn,xa⟩:=x
  dsimp only at hT hF
  repeat' (first
   |(refine ab.op rfl (ad.ind rfl rfl (ay (l:=b) hi hx) (aw fun _=>rfl)) ?_;refine gq aF ?_)
   |(refine ab.a_ rfl (ad.ag rfl hT ⟨.v,trivial⟩) (fun _=>?_) (fun _=>?_)<;>refine gq aF ?_)
   |(refine ab.lM rfl rfl (fun hb=>?_) (fun hb=>?_)<;>(try simp only [aq] at hb)<;>(first|exact absurd hb (by decide)|refine gq aF ?_))
   |(refine ab.oR ?_;refine gq aF ?_)
   |(refine jZ rfl (by first|rfl ) ?_)
   |(refine bq (fun hb=>?_) (fun hb=>?_)<;>(try simp only [aq] at hb)<;>(first|refine gq aF ?_))
   |(refine aS fun _ _=>?_;refine gq aF ?_)
   |(refine ab.ao ?_;refine gq aF ?_)
   )
  all_goals first
   |(exfalso;omega)
   |(have e:F=0:=by (rw [hF,show B=false by assumption];rfl)
     rw [bu e] at hp
     refine ab.aL (σ:=Int) _ [] ?_ ?_ cq<;>first|omega|exact⟨k+1,by omega,by omega,hp⟩)
   |(have e:F=10:=by (rw [hF,show B=true by assumption];rfl)
     rw [cE (by rw [e];decide)] at hp
     rw [hp,e])
 rw [List.drop_eq_nil_of_le (by omega),aI,bu rfl] at hp
 repeat' (first
  |(refine ab.op rfl (ad.ag rfl hA ⟨hp1,trivial⟩) ?_;refine gq aF ?_)
  |(refine ab.op rfl (ad.ag rfl E6 ⟨C3,trivial⟩) ?_;refine gq aF ?_)
  |(refine ab.int rfl (ad.len rfl) fun m2 g_=>?_;rw [af] at g_;refine gq aF ?_)
  |(refine bq (fun hb=>?_) (fun hb=>?_)<;>(try simp only [aq] at hb)<;>(first|refine gq aF ?_))
  |(refine ab.ao ?_;refine gq aF ?_)
  )
 all_goals first
  |(exfalso;omega)
  |skip
 rw [yB] at hp
 obtain⟨fK,Fc⟩:∃ f,f=JZ ⟨n,ke,re,g,b,v⟩:=⟨_,rfl⟩
 rw [<-Fc,<-UC] at hp
 have Fe:∀ x,fK x=bW (AV.contains x) 17:=fun x=>by rw [Fc,JZ,<-UA]
 refine ab.aP (σ:=Int) 3 3 [] (fun q=>[(22,b8 ρ bF false AV),(201,b8 ρ bF false GG),(202,.v (.int .i64 m2)),(203,.v (.int .i64 q))]) [] (fun _=>[]) (fun q=>∃ k:Nat,q=k/\k<=GG.length/\E=bh (aI fK (GG.drop k)) (0)) (fun q=>GG.length - q.toNat) 0 ⟨0,rfl,by simp,by simpa using hp⟩ rfl cq ?_
 rintro q ⟨k,hi,hk,hp⟩
 refine gq aF ?_
 by_cases au:k < GG.length
 ·obtain⟨x,hx,aO⟩:=az au
  rw [aO,aI,bS] at hp
  have rm:=List.mem_of_getElem? hx
  have hC:=Jx (w0:=w0) (ρ:=ρ) AV x (by omega)
  obtain⟨B,hB⟩:∃ B,B=AV.contains x:=⟨_,rfl⟩
  have hF:=Fe x
  rw [<-hB] at hF hC
  obtain⟨F,tR⟩:∃ F,F=fK x:=⟨_,rfl⟩
  rw [<-tR] at hp hF
  clear tR hB
  repeat' (first
   |(refine ab.op rfl (ad.ind rfl rfl (ay (l:=GG) hi hx) (aw fun _=>rfl)) ?_;refine gq aF ?_)
   |(refine ab.a_ rfl (ad.ag rfl hC ⟨bQ _,.v,trivial⟩) (fun _=>?_) (fun _=>?_)<;>refine gq aF ?_)
   |(refine ab.lM rfl rfl (fun hb=>?_) (fun hb=>?_)<;>(try simp only [aq] at hb)<;>(first|exact absurd hb (by decide)|refine gq aF ?_))
   |(refine ab.oR ?_;refine gq aF ?_)
   |(refine xl rfl (by conv=>lhs;cbv) ?_)
   |(refine jZ rfl (by first|rfl ) ?_)
   |(refine bq (fun hb=>?_) (fun hb=>?_)<;>(try simp only [aq] at hb)<;>(first|refine gq aF ?_))
   |(refine aS fun _ _=>?_;refine gq aF ?_)
   |(refine ab.ao ?_;refine gq aF ?_)
   )
  all_goals first
   |(exfalso;omega)
   |(have e:F=0:=by (rw [hF,show B=true by assumption];rfl)
     rw [bu e] at hp
     refine ab.aL (σ:=Int) _ [] ?_ ?_ cq<;>first|omega|exact⟨k+1,by omega,by omega,hp⟩)
   |(have e:F=17:=by (rw [hF,show B=false by assumption];rfl)
     rw [cE (by rw [e];decide)] at hp
     rw [hp,e])
 rw [List.drop_eq_nil_of_le (by omega),aI,bu rfl] at hp
 repeat' (first
  |(refine xl rfl (by conv=>lhs;cbv) ?_)
  |(refine bq (fun hb=>?_) (fun hb=>?_)<;>(try simp only [aq] at hb)<;>(first|refine gq aF ?_))
  |(refine ab.ao ?_;refine gq aF ?_)
  )
 all_goals first
  |(exfalso;omega)
  |skip
 all_goals exact hp
end
end
end Go.Proofs.YtbofilglphfceaaGreat
