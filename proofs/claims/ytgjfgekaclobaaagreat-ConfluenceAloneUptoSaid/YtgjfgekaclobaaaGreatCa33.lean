import Derived.Test.YtgjfgekaclobaaaGreatCa32
namespace Go.Proofs.YtgjfgekaclobaaaGreat
set_option linter.unusedVariables false
set_option linter.unusedSimpArgs false
open Go.RowKit
section
set_option maxRecDepth 100000
attribute [local irreducible] ah aK ae aa
def US:CF Tryz.f203:=⟨_,by conv=>lhs;cbv⟩
theorem ad1:aT Tryz.prog 203 US.1 Tryz.f203.ntmps:=bX Tryz.func203 US.2 Tryz.call203
def aG:List Nat:=[0,11,56,61,75,80,103,136,141,1,165,182,203,2,13,17,19,57,55,4,60,62,59,6,76,74,8,79,81,78,10,102,104,101,113,137,135,15,140,142,139,164,166,163,181,183,180,21,202,204,201,22,24]
def dW (b:Bool) (e:Int):Int:=if b then 0 else e
theorem fb {a b c:Int}:cD (cD a b) c=cD a (cD b c):=by
 unfold cD
 split<;>simp_all
def bI {T:Type}(f:T->Int):List T->Int
 |[]=>0
 |x::l=>cD (f x) (bI f l)
def CY:List Int->Int->(Int->Int)->Int
 |[],n,k=>k n
 |v::vs,n,k=>if v<=n then CY vs (if v=n then n+1 else n) k else 2
def v8 (x:At):Int:=dW (pO x) 2
def v_ (x:Gl):Int:=dW (ua x) 2
def zC (ds:List Dc) (x:At):Int:=s5 ds x.n x.a.length
def UT (x:Gl):Int:=dW (yV x.op || decide (x.op=1)) 10
def O2 (x:Gl):Int:=dW (!yV x.op) 10
def zD (r:Rl):List Int:=D8 [r.a7,r.rem]
def D9 (r:Rl):List Int:=r_ [r.guard,r.body]
def fKV (r:Rl) (x:Int):Int:=dW ((zD r).contains x) 17
def EX (r:Rl):Int:=cD (bI (fKV r) (r_ [r.guard])) 0
def UU (r:Rl):Int:=cD (bI UT r.guard) (cD (bI O2 r.body) (EX r))
def vz (ds:List Dc) (r:Rl):Int:=cD (oH ds r.guard) (cD (oH ds r.body) (UU r))
def Kv (ds:List Dc) (r:Rl):Int:=cD (bI (zC ds) r.a7) (cD (bI (zC ds) r.rem) (vz ds r))
def EY (ds:List Dc) (r:Rl):Int:=cD (dW (r.n.toList == (⟨#[]⟩:ByteArray).toList || mJ r.n) 7) (Kv ds r)
def vA (ds:List Dc) (r:Rl):Int:=CY (zD r++D9 r) 0 fun n=>cD (dW (decide (r.vars=n)) 2) (EY ds r)
def vB (ds:List Dc) (r:Rl):Int:=cD (bI v_ r.guard) (cD (bI v_ r.body) (vA ds r))
def UW (ds:List Dc) (r:Rl):Int:=cD (bI v8 r.a7) (cD (bI v8 r.rem) (vB ds r))
def O3 (r:Rl):Bool:=decide (0 < r.a7.length+r.rem.length) && decide (r.a7.length+r.rem.length<=4) && decide (r.guard.length<=12) && decide (r.body.length<=12)
def s6 (ds:List Dc) (r:Rl):Int:=cD (dW (O3 r) 6) (UW ds r)
structure BG (r:Rl):Prop where
 n:r.n.size<=1099511627776
 ke:r.a7.length<=1099511627776
 re:r.rem.length<=1099511627776
 g:r.guard.length<=1099511627776
 b:r.body.length<=1099511627776
 kx:∀ x ∈ r.a7,t_ x.a/\x.n.size<=1099511627776
 rx:∀ x ∈ r.rem,t_ x.a/\x.n.size<=1099511627776
 gx:∀ x ∈ r.guard,gok x
 bx:∀ x ∈ r.body,gok x
 av:(zD r).length<=549755813888
 gv:(D9 r).length<=549755813888
section
variable {w0:World}{ρ:Hd}
theorem t_.zz {a:List Tm}(h:t_ a):zz a:=⟨h.len,h.1,Ya h⟩
theorem UX (r:Rl) (h:BG r):∃ len,len=(zD r).length/\aK Tryz.prog w0 204 [.sl true [[dh ρ r.a7],[dh ρ r.rem]]] (au [] 0) (.gr 0 1 len) (au [(0,F3 ρ (zD r))] 1):=by
 obtain⟨len,h1,h2⟩:=aj3 (w0:=w0) (ρ:=ρ) [r.a7,r.rem] (by simp) (fun l hl=>by
  simp only [List.mem_cons,List.not_mem_nil,or_false] at hl
  rcases hl with rfl|rfl
  ·exact⟨h.ke,fun x hx=>(h.kx x hx).1.zz⟩
  ·exact⟨h.re,fun x hx=>(h.rx x hx).1.zz⟩) _ rfl (by have:=h.av;unfold zD at this;omega)
 rw [cO] at h2
 exact⟨len,h1,h2⟩
theorem ad2 (r:Rl) (h:BG r):ah Tryz.prog w0 204 [.sl true [[dh ρ r.a7],[dh ρ r.rem]]] (cE ρ cM false (zD r)):=by
 obtain⟨len,h1,h2⟩:=UX (w0:=w0) (ρ:=ρ) r h
 exact ah.xm h2 (bp.grow rfl h1) (gy _)
theorem ad3 (r:Rl) (h:BG r):ah Tryz.prog w0 205 [.sl true [[eP ρ r.guard],[eP ρ r.body]]] (cE ρ cM false (D9 r)):=by
 have h2:=aax (w0:=w0) (ρ:=ρ) [r.guard,r.body] (by simp) (fun l hl=>by
  simp only [List.mem_cons,List.not_mem_nil,or_false] at hl
  rcases hl with rfl|rfl
  ·exact⟨h.g,fun x hx=>(h.gx x hx).1.zz⟩
  ·exact⟨h.b,fun x hx=>(h.bx x hx).1.zz⟩) (by have:=h.gv;unfold D9 at this;omega)
 rw [cO] at h2
 exact h2
theorem O4 (r:Rl) (h:BG r):(r_ [r.guard]).length<=1099511627776:=by
 have h1:=h.gv
 simp only [D9,r_,List.flatMap_cons,List.flatMap_nil,List.length_append,List.length_nil] at h1 ⊢
 omega
theorem aaz (r:Rl) (h:BG r):ah Tryz.prog w0 205 [.sl true [[eP ρ r.guard]]] (cE ρ cM false (r_ [r.guard])):=by
 have h2:=aax (w0:=w0) (ρ:=ρ) [r.guard] (by simp) (fun l hl=>by
  obtain rfl:=List.mem_singleton.1 hl
  exact⟨h.g,fun x hx=>(h.gx x hx).1.zz⟩) (O4 r h)
 rw [cO] at h2
 exact h2
set_option maxHeartbeats 8000000 in
theorem aaA (ds:List Dc) (r:Rl) (hd:ds.length<=1099511627776) (hr:BG r):vw w0 203 [.ip (ln ρ r),.ip [gI ρ ds]] (s6 ds r):=by
 have xG:Pure (.ip (ln ρ r)):=.ip (u_ r)
 have hpd:Pure (.ip [gI ρ ds]):=.ip fun a ha=>by obtain rfl:=List.mem_singleton.1 ha;exact dK ds
 obtain⟨xH,dN,eh,OX,hk4,RA,RB,hhg,hhb,hav,hgv⟩:=id hr
 have O5:=UX (w0:=w0) (ρ:=ρ) r hr
 have hA:=ad2 (w0:=w0) (ρ:=ρ) r hr
 have hG:=ad3 (w0:=w0) (ρ:=ρ) r hr
 have hGG:=aaz (w0:=w0) (ρ:=ρ) r hr
 have hGl:=O4 r hr
 have Ge:=I4 (w0:=w0) (ρ:=ρ) ds r.guard hd OX fun x hx=>(hhg x hx).1.len
 have UY:=I4 (w0:=w0) (ρ:=ρ) ds r.body hd hk4 fun x hx=>(hhb x hx).1.len
 obtain⟨E,hp⟩:∃ E,E=s6 ds r:=⟨_,rfl⟩
 rw [<-hp]
 obtain⟨n,ke,re,g,b,v⟩:=r
 dsimp only at xH dN eh OX hk4 RA RB hhg hhb Ge UY O5 hA hG hGG hGl
 obtain⟨AV,hAV⟩:∃ AV,AV=zD ⟨n,ke,re,g,b,v⟩:=⟨_,rfl⟩
 obtain⟨GV,hGV⟩:∃ GV,GV=D9 ⟨n,ke,re,g,b,v⟩:=⟨_,rfl⟩
 obtain⟨GG,aaG⟩:∃ GG,GG=r_ [g]:=⟨_,rfl⟩
 rw [<-hAV] at O5 hA hav
 rw [<-hGV] at hG hgv
 rw [<-aaG] at hGG hGl
 rw [s6] at hp
 have hS:O3 ⟨n,ke,re,g,b,v⟩=(decide (0 < ke.length+re.length) && decide (ke.length+re.length<=4) && decide (g.length<=12) && decide (b.length<=12)):=rfl
 refine EW ad1 (by simp [Tryz.ntmps203]) ?_
 refine gq aG ?_
 repeat' (first
  |(refine aa.m_ rfl rfl (fun hb=>?_) (fun hb=>?_)<;>(try simp only [aM] at hb)<;>(first|exact absurd hb (by decide)|refine gq aG ?_))
  |(refine kR rfl (by first|rfl ) ?_)
  |(refine bq (fun hb=>?_) (fun hb=>?_)<;>(try simp only [aM] at hb)<;>(first|refine gq aG ?_))
  |(refine bL fun m hm=>?_;(try rw [aF] at hm);refine gq aG ?_)
  |(refine cr fun _ _=>?_;refine gq aG ?_)
  )
 all_goals first
  |(rw [iZ (by rw [hS];simp [dW];omega)] at hp;rw [hp,hS];simp [dW];omega)
  |skip
 rw [cH (by rw [hS];simp [dW];omega),UW] at hp
 dsimp only at hp
 clear hS
 have hpa:Pure (.agg [dh ρ ke,dh ρ re]):=.agg fun a ha=>by simp only [List.mem_cons,List.not_mem_nil,or_false] at ha;rcases ha with rfl|rfl<;>exact dy _
 refine aa.bP (σ:=Int) 0 0 [] (fun q=>[(0,.ip (ln ρ ⟨n,ke,re,g,b,v⟩)),(1,.ip [gI ρ ds]),(55,.agg [dh ρ ke,dh ρ re]),(56,.v (.int .i64 q))]) [] (fun _=>[]) (fun q=>(q=0/\E=cD (bI v8 ke) (cD (bI v8 re) (vB ds ⟨n,ke,re,g,b,v⟩)))\/(q=1/\E=cD (bI v8 re) (vB ds ⟨n,ke,re,g,b,v⟩))\/(q=2/\E=vB ds ⟨n,ke,re,g,b,v⟩)) (fun q=>2 - q.toNat) 0 (.inl ⟨rfl,hp⟩) rfl cq ?_
 rintro q0 hI
 rcases hI with ⟨rfl,hp⟩|⟨rfl,hp⟩|⟨rfl,hp⟩
 ·refine gq aG ?_
  repeat' (first
   |(refine aa.op rfl (ae.nI rfl rfl rfl (by decide) (by decide)) ?_;refine gq aG ?_)
   |(refine aa.int rfl (ae.len rfl) fun m2 gH=>?_;rw [aF] at gH;refine gq aG ?_)
   |(refine bq (fun hb=>?_) (fun hb=>?_)<;>(try simp only [aM] at hb)<;>(first|exact absurd hb (by decide)|refine gq aG ?_))
   )
  all_goals first
   |skip
  refine aa.bP (σ:=Int) 0 0 [] (fun q=>[(0,.ip (ln ρ ⟨n,ke,re,g,b,v⟩)),(1,.ip [gI ρ ds]),(55,.agg [dh ρ ke,dh ρ re]),(56,.v (.int .i64 0)),(59,dh ρ ke),(60,.v (.int .i64 m2)),(61,.v (.int .i64 q))]) [] (fun _=>[]) (fun q=>∃ k:Nat,q=k/\k<=ke.length/\E=cD (bI v8 (ke.drop k)) (cD (bI v8 re) (vB ds ⟨n,ke,re,g,b,v⟩))) (fun q=>ke.length - q.toNat) 0 ⟨0,rfl,by simp,by simpa using hp⟩ rfl cq ?_
  rintro q ⟨k,hi,hk,hp⟩
  refine gq aG ?_
  by_cases aA:k < ke.length
  ·obtain⟨x,hx,cg⟩:=cd aA
   rw [cg,bI,fb] at hp
   have s7:=List.mem_of_getElem? hx
   obtain⟨nk,r9⟩:=RA x s7
   have hR:=CK (w0:=w0) (ρ:=ρ) x ⟨nk.len,nk.1⟩ r9
   obtain⟨B,hB⟩:∃ B,B=pO x:=⟨_,rfl⟩
   obtain⟨F,hF⟩:∃ F,F=v8 x:=⟨_,rfl⟩
   rw [<-hF] at hp
   rw [v8,<-hB] at hF
   rw [<-hB] at hR
   clear hB
   obtain⟨xn,xa⟩:=x
   repeat' (first
    |(refine aa.op rfl (ae.ind rfl rfl (bU (l:=ke) hi hx) (bV fun _=>rfl)) ?_;refine gq aG ?_)
    |(refine aa.op rfl (ae.aL rfl hR ⟨mI (ρ:=ρ) ⟨xn,xa⟩,trivial⟩) ?_;refine gq aG ?_)
    |(refine aa.m_ rfl rfl (fun hb=>?_) (fun hb=>?_)<;>(try simp only [aM] at hb)<;>(first|refine gq aG ?_))
    |(refine aa.qj ?_;refine gq aG ?_)
    |(refine kR rfl (by first|rfl ) ?_)
    |(refine bq (fun hb=>?_) (fun hb=>?_)<;>(try simp only [aM] at hb)<;>(first|refine gq aG ?_))
    |(refine cr fun _ _=>?_;refine gq aG ?_)
    |(refine aa.aR ?_;refine gq aG ?_)
    )
   all_goals first
    |(exfalso;omega)
    |(have e:F=0:=by (rw [hF,hb];rfl)
      rw [cH e] at hp
      refine aa.bm (σ:=Int) _ [] ?_ ?_ cq<;>first|omega|exact⟨k+1,by omega,by omega,hp⟩)
    |(have e:F=2:=by (rw [hF,hb];rfl)
      rw [iZ (by rw [e];decide)] at hp
      rw [hp,e])
  ·rw [List.drop_eq_nil_of_le (by omega),bI,cH rfl] at hp
   repeat' (first
    |(refine bq (fun hb=>?_) (fun hb=>?_)<;>(try simp only [aM] at hb)<;>(first|refine gq aG ?_))
    |(refine cr fun _ _=>?_;refine gq aG ?_)
    |(refine aa.aR ?_;refine gq aG ?_)
    )
   all_goals first
    |(exfalso;omega)
    |skip
   refine aa.bm (σ:=Int) _ [] ?_ ?_ cq<;>first|omega
 ·refine gq aG ?_
  repeat' (first
   |(refine aa.op rfl (ae.nI rfl rfl rfl (by decide) (by decide)) ?_;refine gq aG ?_)
   |(refine aa.int rfl (ae.len rfl) fun m2 gH=>?_;rw [aF] at gH;refine gq aG ?_)
   |(refine bq (fun hb=>?_) (fun hb=>?_)<;>(try simp only [aM] at hb)<;>(first|exact absurd hb (by decide)|refine gq aG ?_))
   )
  all_goals first
   |skip
  refine aa.bP (σ:=Int) 0 0 [] (fun q=>[(0,.ip (ln ρ ⟨n,ke,re,g,b,v⟩)),(1,.ip [gI ρ ds]),(55,.agg [dh ρ ke,dh ρ re]),(56,.v (.int .i64 1)),(59,dh ρ re),(60,.v (.int .i64 m2)),(61,.v (.int .i64 q))]) [] (fun _=>[]) (fun q=>∃ k:Nat,q=k/\k<=re.length/\E=cD (bI v8 (re.drop k)) (vB ds ⟨n,ke,re,g,b,v⟩)) (fun q=>re.length - q.toNat) 0 ⟨0,rfl,by simp,by simpa using hp⟩ rfl cq ?_
  rintro q ⟨k,hi,hk,hp⟩
  refine gq aG ?_
  by_cases aA:k < re.length
  ·obtain⟨x,hx,cg⟩:=cd aA
   rw [cg,bI,fb] at hp
   have s7:=List.mem_of_getElem? hx
   obtain⟨nk,r9⟩:=RB x s7
   have hR:=CK (w0:=w0) (ρ:=ρ) x ⟨nk.len,nk.1⟩ r9
   obtain⟨B,hB⟩:∃ B,B=pO x:=⟨_,rfl⟩
   obtain⟨F,hF⟩:∃ F,F=v8 x:=⟨_,rfl⟩
   rw [<-hF] at hp
   rw [v8,<-hB] at hF
   rw [<-hB] at hR
   clear hB
   obtain⟨xn,xa⟩:=x
   repeat' (first
    |(refine aa.op rfl (ae.ind rfl rfl (bU (l:=re) hi hx) (bV fun _=>rfl)) ?_;refine gq aG ?_)
    |(refine aa.op rfl (ae.aL rfl hR ⟨mI (ρ:=ρ) ⟨xn,xa⟩,trivial⟩) ?_;refine gq aG ?_)
    |(refine aa.m_ rfl rfl (fun hb=>?_) (fun hb=>?_)<;>(try simp only [aM] at hb)<;>(first|refine gq aG ?_))
    |(refine aa.qj ?_;refine gq aG ?_)
    |(refine kR rfl (by first|rfl ) ?_)
    |(refine bq (fun hb=>?_) (fun hb=>?_)<;>(try simp only [aM] at hb)<;>(first|refine gq aG ?_))
    |(refine cr fun _ _=>?_;refine gq aG ?_)
    |(refine aa.aR ?_;refine gq aG ?_)
    )
   all_goals first
    |(exfalso;omega)
    |(have e:F=0:=by (rw [hF,hb];rfl)
      rw [cH e] at hp
      refine aa.bm (σ:=Int) _ [] ?_ ?_ cq<;>first|omega|exact⟨k+1,by omega,by omega,hp⟩)
    |(have e:F=2:=by (rw [hF,hb];rfl)
      rw [iZ (by rw [e];decide)] at hp
      rw [hp,e])
  ·rw [List.drop_eq_nil_of_le (by omega),bI,cH rfl] at hp
   repeat' (first
    |(refine bq (fun hb=>?_) (fun hb=>?_)<;>(try simp only [aM] at hb)<;>(first|refine gq aG ?_))
    |(refine cr fun _ _=>?_;refine gq aG ?_)
    |(refine aa.aR ?_;refine gq aG ?_)
    )
   all_goals first
    |(exfalso;omega)
    |skip
   refine aa.bm (σ:=Int) _ [] ?_ ?_ cq<;>first|omega
 refine gq aG ?_
 repeat' (first
  |(refine bq (fun hb=>?_) (fun hb=>?_)<;>(try simp only [aM] at hb)<;>(first|exact absurd hb (by decide)|refine gq aG ?_))
  |(refine aa.aR ?_;refine gq aG ?_)
  )
 all_goals first
  |skip
 rw [vB] at hp
 dsimp only at hp
 have hpa:Pure (.agg [eP ρ g,eP ρ b]):=.agg fun a ha=>by simp only [List.mem_cons,List.not_mem_nil,or_false] at ha;rcases ha with rfl|rfl<;>exact dz _
 refine aa.bP (σ:=Int) 0 0 [] (fun q=>[(0,.ip (ln ρ ⟨n,ke,re,g,b,v⟩)),(1,.ip [gI ρ ds]),(74,.agg [eP ρ g,eP ρ b]),(75,.v (.int .i64 q))]) [] (fun _=>[]) (fun q=>(q=0/\E=cD (bI v_ g) (cD (bI v_ b) (vA ds ⟨n,ke,re,g,b,v⟩)))\/(q=1/\E=cD (bI v_ b) (vA ds ⟨n,ke,re,g,b,v⟩))\/(q=2/\E=vA ds ⟨n,ke,re,g,b,v⟩)) (fun q=>2 - q.toNat) 0 (.inl ⟨rfl,hp⟩) rfl cq ?_
 rintro q0 hI
 rcases hI with ⟨rfl,hp⟩|⟨rfl,hp⟩|⟨rfl,hp⟩
 ·refine gq aG ?_
  repeat' (first
   |(refine aa.op rfl (ae.nI rfl rfl rfl (by decide) (by decide)) ?_;refine gq aG ?_)
   |(refine aa.int rfl (ae.len rfl) fun m2 gH=>?_;rw [aF] at gH;refine gq aG ?_)
   |(refine bq (fun hb=>?_) (fun hb=>?_)<;>(try simp only [aM] at hb)<;>(first|exact absurd hb (by decide)|refine gq aG ?_))
   )
  all_goals first
   |skip
  refine aa.bP (σ:=Int) 0 0 [] (fun q=>[(0,.ip (ln ρ ⟨n,ke,re,g,b,v⟩)),(1,.ip [gI ρ ds]),(74,.agg [eP ρ g,eP ρ b]),(75,.v (.int .i64 0)),(78,eP ρ g),(79,.v (.int .i64 m2)),(80,.v (.int .i64 q))]) [] (fun _=>[]) (fun q=>∃ k:Nat,q=k/\k<=g.length/\E=cD (bI v_ (g.drop k)) (cD (bI v_ b) (vA ds ⟨n,ke,re,g,b,v⟩))) (fun q=>g.length - q.toNat) 0 ⟨0,rfl,by simp,by simpa using hp⟩ rfl cq ?_
  rintro q ⟨k,hi,hk,hp⟩
  refine gq aG ?_
  by_cases aA:k < g.length
  ·obtain⟨x,hx,cg⟩:=cd aA
   rw [cg,bI,fb] at hp
   have s7:=List.mem_of_getElem? hx
   obtain⟨nk,r9⟩:=hhg x s7
   have hR:=IP (w0:=w0) (ρ:=ρ) x ⟨nk.len,nk.1⟩ r9
   obtain⟨B,hB⟩:∃ B,B=ua x:=⟨_,rfl⟩
   obtain⟨F,hF⟩:∃ F,F=v_ x:=⟨_,rfl⟩
   rw [<-hF] at hp
   rw [v_,<-hB] at hF
   rw [<-hB] at hR
   clear hB
   obtain⟨xo,xn,xa⟩:=x
   repeat' (first
    |(refine aa.op rfl (ae.ind rfl rfl (bU (l:=g) hi hx) (bV fun _=>rfl)) ?_;refine gq aG ?_)
    |(refine aa.op rfl (ae.aL rfl hR ⟨q9 (ρ:=ρ) ⟨xo,xn,xa⟩,trivial⟩) ?_;refine gq aG ?_)
    |(refine aa.m_ rfl rfl (fun hb=>?_) (fun hb=>?_)<;>(try simp only [aM] at hb)<;>(first|refine gq aG ?_))
    |(refine aa.qj ?_;refine gq aG ?_)
    |(refine kR rfl (by first|rfl ) ?_)
    |(refine bq (fun hb=>?_) (fun hb=>?_)<;>(try simp only [aM] at hb)<;>(first|refine gq aG ?_))
    |(refine cr fun _ _=>?_;refine gq aG ?_)
    |(refine aa.aR ?_;refine gq aG ?_)
    )
   all_goals first
    |(exfalso;omega)
    |(have e:F=0:=by (rw [hF,hb];rfl)
      rw [cH e] at hp
      refine aa.bm (σ:=Int) _ [] ?_ ?_ cq<;>first|omega|exact⟨k+1,by omega,by omega,hp⟩)
    |(have e:F=2:=by (rw [hF,hb];rfl)
      rw [iZ (by rw [e];decide)] at hp
      rw [hp,e])
  ·rw [List.drop_eq_nil_of_le (by omega),bI,cH rfl] at hp
   repeat' (first
    |(refine bq (fun hb=>?_) (fun hb=>?_)<;>(try simp only [aM] at hb)<;>(first|refine gq aG ?_))
    |(refine cr fun _ _=>?_;refine gq aG ?_)
    |(refine aa.aR ?_;refine gq aG ?_)
    )
   all_goals first
    |(exfalso;omega)
    |skip
   refine aa.bm (σ:=Int) _ [] ?_ ?_ cq<;>first|omega
 ·refine gq aG ?_
  repeat' (first
   |(refine aa.op rfl (ae.nI rfl rfl rfl (by decide) (by decide)) ?_;refine gq aG ?_)
   |(refine aa.int rfl (ae.len rfl) fun m2 gH=>?_;rw [aF] at gH;refine gq aG ?_)
   |(refine bq (fun hb=>?_) (fun hb=>?_)<;>(try simp only [aM] at hb)<;>(first|exact absurd hb (by decide)|refine gq aG ?_))
   )
  all_goals first
   |skip
  refine aa.bP (σ:=Int) 0 0 [] (fun q=>[(0,.ip (ln ρ ⟨n,ke,re,g,b,v⟩)),(1,.ip [gI ρ ds]),(74,.agg [eP ρ g,eP ρ b]),(75,.v (.int .i64 1)),(78,eP ρ b),(79,.v (.int .i64 m2)),(80,.v (.int .i64 q))]) [] (fun _=>[]) (fun q=>∃ k:Nat,q=k/\k<=b.length/\E=cD (bI v_ (b.drop k)) (vA ds ⟨n,ke,re,g,b,v⟩)) (fun q=>b.length - q.toNat) 0 ⟨0,rfl,by simp,by simpa using hp⟩ rfl cq ?_
  rintro q ⟨k,hi,hk,hp⟩
  refine gq aG ?_
  by_cases aA:k < b.length
  ·obtain⟨x,hx,cg⟩:=cd aA
   rw [cg,bI,fb] at hp
   have s7:=List.mem_of_getElem? hx
   obtain⟨nk,r9⟩:=hhb x s7
   have hR:=IP (w0:=w0) (ρ:=ρ) x ⟨nk.len,nk.1⟩ r9
   obtain⟨B,hB⟩:∃ B,B=ua x:=⟨_,rfl⟩
   obtain⟨F,hF⟩:∃ F,F=v_ x:=⟨_,rfl⟩
   rw [<-hF] at hp
   rw [v_,<-hB] at hF
   rw [<-hB] at hR
   clear hB
   obtain⟨xo,xn,xa⟩:=x
   repeat' (first
    |(refine aa.op rfl (ae.ind rfl rfl (bU (l:=b) hi hx) (bV fun _=>rfl)) ?_;refine gq aG ?_)
    |(refine aa.op rfl (ae.aL rfl hR ⟨q9 (ρ:=ρ) ⟨xo,xn,xa⟩,trivial⟩) ?_;refine gq aG ?_)
    |(refine aa.m_ rfl rfl (fun hb=>?_) (fun hb=>?_)<;>(try simp only [aM] at hb)<;>(first|refine gq aG ?_))
    |(refine aa.qj ?_;refine gq aG ?_)
    |(refine kR rfl (by first|rfl ) ?_)
    |(refine bq (fun hb=>?_) (fun hb=>?_)<;>(try simp only [aM] at hb)<;>(first|refine gq aG ?_))
    |(refine cr fun _ _=>?_;refine gq aG ?_)
    |(refine aa.aR ?_;refine gq aG ?_)
    )
   all_goals first
    |(exfalso;omega)
    |(have e:F=0:=by (rw [hF,hb];rfl)
      rw [cH e] at hp
      refine aa.bm (σ:=Int) _ [] ?_ ?_ cq<;>first|omega|exact⟨k+1,by omega,by omega,hp⟩)
    |(have e:F=2:=by (rw [hF,hb];rfl)
      rw [iZ (by rw [e];decide)] at hp
      rw [hp,e])
  ·rw [List.drop_eq_nil_of_le (by omega),bI,cH rfl] at hp
   repeat' (first
    |(refine bq (fun hb=>?_) (fun hb=>?_)<;>(try simp only [aM] at hb)<;>(first|refine gq aG ?_))
    |(refine cr fun _ _=>?_;refine gq aG ?_)
    |(refine aa.aR ?_;refine gq aG ?_)
    )
   all_goals first
    |(exfalso;omega)
    |skip
   refine aa.bm (σ:=Int) _ [] ?_ ?_ cq<;>first|omega
 refine gq aG ?_
 repeat' (first
  |(refine bq (fun hb=>?_) (fun hb=>?_)<;>(try simp only [aM] at hb)<;>(first|exact absurd hb (by decide)|refine gq aG ?_))
  |(refine aa.aR ?_;refine gq aG ?_)
  )
 all_goals first
  |skip
 have D_:vA ds ⟨n,ke,re,g,b,v⟩=CY (zD ⟨n,ke,re,g,b,v⟩++D9 ⟨n,ke,re,g,b,v⟩) 0 fun n'=>cD (dW (decide (v=n')) 2) (EY ds ⟨n,ke,re,g,b,v⟩):=rfl
 rw [D_,<-hAV,<-hGV] at hp
 clear D_
 obtain⟨len,hlen,bC⟩:=O5
 have hp1:Pure (.sl true [[dh ρ ke],[dh ρ re]]):=.sl fun row hr a ha=>by simp only [List.mem_cons,List.not_mem_nil,or_false] at hr;rcases hr with rfl|rfl<;>(obtain rfl:=List.mem_singleton.1 ha;exact dy _)
 have iN:Pure (.sl true [[eP ρ g],[eP ρ b]]):=.sl fun row hr a ha=>by simp only [List.mem_cons,List.not_mem_nil,or_false] at hr;rcases hr with rfl|rfl<;>(obtain rfl:=List.mem_singleton.1 ha;exact dz _)
 have UZ:Pure (.sl true [[eP ρ g]]):=.sl fun row hr a ha=>by obtain rfl:=List.mem_singleton.1 hr;obtain rfl:=List.mem_singleton.1 ha;exact dz _
 refine aa.aab rfl bC rfl ⟨Rn.pure hp1,trivial⟩ (Rb.gr rfl) ⟨⟨0,_,rfl,rfl,kE.pure ON⟩,trivial⟩ rfl ?_
 refine gq aG ?_
 refine aa.gm rfl (fun T=>ae.aL rfl hG ⟨iN,trivial⟩) ?_
 refine gq aG ?_
 refine aa.adA (f:=cM) rfl rfl rfl hlen (fun _=>rfl) rfl (fun _=>rfl) (fun _=>rfl) (by omega) fun L Av hL BC=>?_
 refine gq aG ?_
 obtain⟨kk,D_⟩:∃ kk:Int->Int,kk=fun n'=>cD (dW (decide (v=n')) 2) (EY ds ⟨n,ke,re,g,b,v⟩):=⟨_,rfl⟩
 rw [<-D_,<-hL] at hp
 have Gg:L.length<=1099511627776:=by rw [hL,List.length_append];omega
 refine aa.Zm rfl (fun T=>ae.qk rfl) fun m3 U0=>?_
 refine gq aG ?_
 refine aa.cv (Cv.freeze (t:=101) rfl rfl (.inl rfl) (BC.trans (aF (ρ:=ρ) (f:=cM)).symm) (Nat.zero_le _)) ?_
 refine aa.bP (σ:=Int × Int) 3 3 [] (fun p=>[(0,.ip (ln ρ ⟨n,ke,re,g,b,v⟩)),(1,.ip [gI ρ ds]),(11,.v (.int .i64 p.2)),(101,cE ρ cM false L),(102,.v (.int .i64 m3)),(103,.v (.int .i64 p.1))]) [] (fun _=>[]) (fun p=>∃ k:Nat,p.1=k/\k<=L.length/\0<=p.2/\p.2<=k/\E=CY (L.drop k) p.2 kk) (fun p=>L.length - p.1.toNat) (0,0) ⟨0,rfl,by simp,by simp,by simp,by simpa using hp⟩ rfl cq ?_
 rintro⟨i,nx⟩ ⟨k,hi,hk,hn0,nn,hp⟩
 simp only at hi hn0 nn hp
 refine gq aG ?_
 by_cases aA:k < L.length
 ·obtain⟨x,hx,cg⟩:=cd aA
  rw [cg,CY] at hp
  repeat' (first
   |(refine aa.op rfl (ae.ind rfl rfl (bU (l:=L) hi hx) (bV fun _=>rfl)) ?_;refine gq aG ?_)
   |(refine aa.m_ rfl rfl (fun hb=>?_) (fun hb=>?_)<;>(try simp only [aM] at hb)<;>(first|exact absurd hb (by decide)|refine gq aG ?_))
   |(refine aa.qj ?_;refine gq aG ?_)
   |(refine kR rfl (by first|rfl ) ?_)
   |(refine bq (fun hb=>?_) (fun hb=>?_)<;>(try simp only [aM] at hb)<;>(first|refine gq aG ?_))
   |(refine cr fun _ _=>?_;refine gq aG ?_)
   |(refine aa.aR ?_;refine gq aG ?_)
   )
  all_goals first
   |(exfalso;omega)
   |(rw [if_pos (by omega),if_pos (by omega)] at hp
     refine aa.bm (σ:=Int × Int) (_,_) [] ?_ ?_ cq
     ·exact⟨k+1,by simp only;omega,by omega,by simp only;omega,by simp only;omega,by rw [hp];congr 1;simp only;omega⟩
     ·simp only;omega)
   |(rw [if_pos (by omega),if_neg (by omega)] at hp
     refine aa.bm (σ:=Int × Int) (_,_) [] ?_ ?_ cq
     ·exact⟨k+1,by simp only;omega,by omega,by simp only;omega,by simp only;omega,hp⟩
     ·simp only;omega)
   |(rw [if_neg (by omega)] at hp;exact hp)
 rw [List.drop_eq_nil_of_le (by omega),CY] at hp
 subst D_
 simp only at hp
 refine aa.bif rfl (ae.bit rfl) (fun hb=>?_) (fun hb=>?_)<;>(try simp only [decide_eq_true_eq,decide_eq_false_iff_not,beq_iff_eq,beq_eq_false_iff_ne,bne_iff_ne,bne_eq_false_iff_eq,Bool.not_eq_true,Bool.not_eq_false,Bool.not_eq_true',Bool.not_eq_false',ne_eq] at hb)
 ·exfalso;omega
 refine gq aG ?_
 refine aa.aR ?_
 refine gq aG ?_
 refine aa.bif rfl (ae.bit rfl) (fun hb=>?_) (fun hb=>?_)<;>(try simp only [decide_eq_true_eq,decide_eq_false_iff_not,beq_iff_eq,beq_eq_false_iff_ne,bne_iff_ne,bne_eq_false_iff_eq,Bool.not_eq_true,Bool.not_eq_false,Bool.not_eq_true',Bool.not_eq_false',ne_eq] at hb)<;>refine gq aG ?_
 rotate_left
 ·refine aa.m_ rfl rfl (fun hc=>absurd hc (by decide)) (fun hc=>?_)
  refine gq aG ?_
  refine kR rfl rfl ?_
  rw [decide_eq_false (by omega)] at hp
  exact hp
 refine aa.m_ rfl rfl (fun hc=>?_) (fun hc=>absurd hc (by decide))
 refine gq aG ?_
 rw [decide_eq_true (by omega),show dW true 2=0 from rfl,cH rfl] at hp
 have hN:=tY (w0:=w0) n xH
 rw [EY] at hp
 dsimp only at hp
 refine aa.ajL (σ:=Int) 0 3 3 (fun _=>[(0,.ip (ln ρ ⟨n,ke,re,g,b,v⟩)),(1,.ip [gI ρ ds])]) [] (fun _=>[]) (fun _=>E=Kv ds ⟨n,ke,re,g,b,v⟩) rfl ?_ ?_
 ·obtain⟨NB,U1⟩:∃ NB,NB=mJ n:=⟨_,rfl⟩
  rw [<-U1] at hp hN
  obtain⟨ne,a_⟩:∃ ne,ne=(n.toList == (⟨#[]⟩:ByteArray).toList):=⟨_,rfl⟩
  rw [<-a_] at hp
  repeat' (first
   |(refine aa.bif rfl (ae.bit rfl) (fun hs=>?_) (fun hs=>?_)<;>refine gq aG ?_)
   |(refine aa.bif rfl (ae.aL rfl hN ⟨.v,trivial⟩) (fun _=>?_) (fun _=>?_)<;>refine gq aG ?_)
   |(refine aa.ajT ?_;refine gq aG ?_)
   |(refine aa.m_ rfl rfl (fun hb=>?_) (fun hb=>?_)<;>(try simp only [aM] at hb)<;>(first|exact absurd hb (by decide)|refine gq aG ?_))
   |(refine kR rfl (by first|rfl ) ?_)
   )
  all_goals first
   |(rw [show NB=true by assumption,Bool.or_true,show dW true 7=0 from rfl,cH rfl] at hp;exact aa.Zu (0:Int) [] hp rfl cq)
   |(rw [show NB=false by assumption,show ne=false by (rw [a_];first|exact hs )] at hp;exact hp)
   |(rw [show ne=true by (rw [a_];first|exact hs ),Bool.true_or,show dW true 7=0 from rfl,cH rfl] at hp;exact aa.Zu (0:Int) [] hp rfl cq)
 rintro s0 hp
 clear hL Gg hN bC hG hGV
 refine gq aG ?_
 rw [Kv] at hp
 dsimp only at hp
 have hpa:Pure (.agg [dh ρ ke,dh ρ re]):=.agg fun a ha=>by simp only [List.mem_cons,List.not_mem_nil,or_false] at ha;rcases ha with rfl|rfl<;>exact dy _
 refine aa.bP (σ:=Int) 3 3 [] (fun q=>[(0,.ip (ln ρ ⟨n,ke,re,g,b,v⟩)),(1,.ip [gI ρ ds]),(135,.agg [dh ρ ke,dh ρ re]),(136,.v (.int .i64 q))]) [] (fun _=>[]) (fun q=>(q=0/\E=cD (bI (zC ds) ke) (cD (bI (zC ds) re) (vz ds ⟨n,ke,re,g,b,v⟩)))\/(q=1/\E=cD (bI (zC ds) re) (vz ds ⟨n,ke,re,g,b,v⟩))\/(q=2/\E=vz ds ⟨n,ke,re,g,b,v⟩)) (fun q=>2 - q.toNat) 0 (.inl ⟨rfl,hp⟩) rfl cq ?_
 rintro q0 hI
 rcases hI with ⟨rfl,hp⟩|⟨rfl,hp⟩|⟨rfl,hp⟩
 ·refine gq aG ?_
  repeat' (first
   |(refine aa.op rfl (ae.nI rfl rfl rfl (by decide) (by decide)) ?_;refine gq aG ?_)
   |(refine aa.int rfl (ae.len rfl) fun m2 gH=>?_;rw [aF] at gH;refine gq aG ?_)
   |(refine bq (fun hb=>?_) (fun hb=>?_)<;>(try simp only [aM] at hb)<;>(first|exact absurd hb (by decide)|refine gq aG ?_))
   )
  all_goals first
   |skip
  refine aa.bP (σ:=Int) 3 3 [] (fun q=>[(0,.ip (ln ρ ⟨n,ke,re,g,b,v⟩)),(1,.ip [gI ρ ds]),(135,.agg [dh ρ ke,dh ρ re]),(136,.v (.int .i64 0)),(139,dh ρ ke),(140,.v (.int .i64 m2)),(141,.v (.int .i64 q))]) [] (fun _=>[]) (fun q=>∃ k:Nat,q=k/\k<=ke.length/\E=cD (bI (zC ds) (ke.drop k)) (cD (bI (zC ds) re) (vz ds ⟨n,ke,re,g,b,v⟩))) (fun q=>ke.length - q.toNat) 0 ⟨0,rfl,by simp,by simpa using hp⟩ rfl cq ?_
  rintro q ⟨k,hi,hk,hp⟩
  refine gq aG ?_
  by_cases aA:k < ke.length
  ·obtain⟨x,hx,cg⟩:=cd aA
   rw [cg,bI,fb] at hp
   have s7:=List.mem_of_getElem? hx
   obtain⟨nk,r9⟩:=RA x s7
   have vW:=nk.len
   obtain⟨F,hF⟩:∃ F,F=zC ds x:=⟨_,rfl⟩
   rw [<-hF] at hp
   have hD:=CX (w0:=w0) (ρ:=ρ) ds x.n x.a.length hd
   rw [show s5 ds x.n x.a.length=F from hF.symm] at hD
   clear hF nk r9
   obtain⟨xn,xa⟩:=x
   dsimp only at hD vW
   obtain⟨q3,BH⟩:∃ q:Int,q=xa.length:=⟨_,rfl⟩
   rw [<-BH] at hD
   repeat' (first
    |(refine aa.op rfl (ae.ind rfl rfl (bU (l:=ke) hi hx) (bV fun _=>rfl)) ?_;refine gq aG ?_)
    |(refine aa.int rfl (ae.len rfl) fun m3 U0=>?_;rw [aF] at U0;obtain rfl:m3=q3:=(by omega);refine gq aG ?_)
    |(refine aa.qV rfl rfl (hD) (by repeat' (first|exact trivial|(refine⟨?_,?_⟩;(first|exact .v|exact dK _ )))) (fun he=>?_) (fun he=>?_)<;>refine gq aG ?_)
    |(refine aa.qj ?_;refine gq aG ?_)
    |(refine kR rfl (by first|exact decide_eq_false (by assumption)) ?_)
    |(refine bq (fun hb=>?_) (fun hb=>?_)<;>(try simp only [aM] at hb)<;>(first|refine gq aG ?_))
    |(refine cr fun _ _=>?_;refine gq aG ?_)
    |(refine aa.aR ?_;refine gq aG ?_)
    )
   all_goals first
    |(exfalso;omega)
    |(have e:F=0:=he
      rw [cH e] at hp
      refine aa.bm (σ:=Int) _ [] ?_ ?_ cq<;>first|omega|exact⟨k+1,by omega,by omega,hp⟩)
    |(rw [iZ he] at hp
      exact hp)
  ·rw [List.drop_eq_nil_of_le (by omega),bI,cH rfl] at hp
   repeat' (first
    |(refine bq (fun hb=>?_) (fun hb=>?_)<;>(try simp only [aM] at hb)<;>(first|refine gq aG ?_))
    |(refine cr fun _ _=>?_;refine gq aG ?_)
    |(refine aa.aR ?_;refine gq aG ?_)
    )
   all_goals first
    |(exfalso;omega)
    |skip
   refine aa.bm (σ:=Int) _ [] ?_ ?_ cq<;>first|omega
 ·refine gq aG ?_
  repeat' (first
   |(refine aa.op rfl (ae.nI rfl rfl rfl (by decide) (by decide)) ?_;refine gq aG ?_)
   |(refine aa.int rfl (ae.len rfl) fun m2 gH=>?_;rw [aF] at gH;refine gq aG ?_)
   |(refine bq (fun hb=>?_) (fun hb=>?_)<;>(try simp only [aM] at hb)<;>(first|exact absurd hb (by decide)|refine gq aG ?_))
   )
  all_goals first
   |skip
  refine aa.bP (σ:=Int) 3 3 [] (fun q=>[(0,.ip (ln ρ ⟨n,ke,re,g,b,v⟩)),(1,.ip [gI ρ ds]),(135,.agg [dh ρ ke,dh ρ re]),(136,.v (.int .i64 1)),(139,dh ρ re),(140,.v (.int .i64 m2)),(141,.v (.int .i64 q))]) [] (fun _=>[]) (fun q=>∃ k:Nat,q=k/\k<=re.length/\E=cD (bI (zC ds) (re.drop k)) (vz ds ⟨n,ke,re,g,b,v⟩)) (fun q=>re.length - q.toNat) 0 ⟨0,rfl,by simp,by simpa using hp⟩ rfl cq ?_
  rintro q ⟨k,hi,hk,hp⟩
  refine gq aG ?_
  by_cases aA:k < re.length
  ·obtain⟨x,hx,cg⟩:=cd aA
   rw [cg,bI,fb] at hp
   have s7:=List.mem_of_getElem? hx
   obtain⟨nk,r9⟩:=RB x s7
   have vW:=nk.len
   obtain⟨F,hF⟩:∃ F,F=zC ds x:=⟨_,rfl⟩
   rw [<-hF] at hp
   have hD:=CX (w0:=w0) (ρ:=ρ) ds x.n x.a.length hd
   rw [show s5 ds x.n x.a.length=F from hF.symm] at hD
   clear hF nk r9
   obtain⟨xn,xa⟩:=x
   dsimp only at hD vW
   obtain⟨q3,BH⟩:∃ q:Int,q=xa.length:=⟨_,rfl⟩
   rw [<-BH] at hD
   repeat' (first
    |(refine aa.op rfl (ae.ind rfl rfl (bU (l:=re) hi hx) (bV fun _=>rfl)) ?_;refine gq aG ?_)
    |(refine aa.int rfl (ae.len rfl) fun m3 U0=>?_;rw [aF] at U0;obtain rfl:m3=q3:=(by omega);refine gq aG ?_)
    |(refine aa.qV rfl rfl (hD) (by repeat' (first|exact trivial|(refine⟨?_,?_⟩;(first|exact .v|exact dK _ )))) (fun he=>?_) (fun he=>?_)<;>refine gq aG ?_)
    |(refine aa.qj ?_;refine gq aG ?_)
    |(refine kR rfl (by first|exact decide_eq_false (by assumption)) ?_)
    |(refine bq (fun hb=>?_) (fun hb=>?_)<;>(try simp only [aM] at hb)<;>(first|refine gq aG ?_))
    |(refine cr fun _ _=>?_;refine gq aG ?_)
    |(refine aa.aR ?_;refine gq aG ?_)
    )
   all_goals first
    |(exfalso;omega)
    |(have e:F=0:=he
      rw [cH e] at hp
      refine aa.bm (σ:=Int) _ [] ?_ ?_ cq<;>first|omega|exact⟨k+1,by omega,by omega,hp⟩)
    |(rw [iZ he] at hp
      exact hp)
  ·rw [List.drop_eq_nil_of_le (by omega),bI,cH rfl] at hp
   repeat' (first
    |(refine bq (fun hb=>?_) (fun hb=>?_)<;>(try simp only [aM] at hb)<;>(first|refine gq aG ?_))
    |(refine cr fun _ _=>?_;refine gq aG ?_)
    |(refine aa.aR ?_;refine gq aG ?_)
    )
   all_goals first
    |(exfalso;omega)
    |skip
   refine aa.bm (σ:=Int) _ [] ?_ ?_ cq<;>first|omega
 refine gq aG ?_
 repeat' (first
  |(refine bq (fun hb=>?_) (fun hb=>?_)<;>(try simp only [aM] at hb)<;>(first|exact absurd hb (by decide)|refine gq aG ?_))
  |(refine aa.aR ?_;refine gq aG ?_)
  )
 all_goals first
  |skip
 rw [vz] at hp
 dsimp only at hp
 obtain⟨F1,BI⟩:∃ F,F=oH ds g:=⟨_,rfl⟩
 obtain⟨F2,hF2⟩:∃ F,F=oH ds b:=⟨_,rfl⟩
 rw [<-BI] at hp Ge
 rw [<-hF2] at hp UY
 repeat' (first
  |(refine aa.int rfl (ae.len rfl) fun m2 gH=>?_;rw [aF] at gH;refine gq aG ?_)
  |(refine aa.qV rfl rfl (Ge) (by repeat' (first|exact trivial|(refine⟨?_,?_⟩;(first|exact dz _|exact dK _ )))) (fun he=>?_) (fun he=>?_)<;>refine gq aG ?_)
  |(refine aa.qV rfl rfl (UY) (by repeat' (first|exact trivial|(refine⟨?_,?_⟩;(first|exact dz _|exact dK _ )))) (fun he=>?_) (fun he=>?_)<;>refine gq aG ?_)
  |(refine kR rfl (by first|exact decide_eq_false (by assumption)) ?_)
  )
 all_goals first
  |(rw [cH (e:=F1) (by assumption),iZ (e:=F2) (by assumption)] at hp;exact hp)
  |(rw [iZ (e:=F1) (by assumption)] at hp;exact hp)
  |skip
 rw [cH (e:=F1) (by assumption),cH (e:=F2) (by assumption),UU] at hp
 dsimp only at hp
 clear BI hF2 Ge UY
 refine aa.bP (σ:=Int) 3 3 [] (fun q=>[(0,.ip (ln ρ ⟨n,ke,re,g,b,v⟩)),(1,.ip [gI ρ ds]),(163,eP ρ g),(164,.v (.int .i64 m2)),(165,.v (.int .i64 q))]) [] (fun _=>[]) (fun q=>∃ k:Nat,q=k/\k<=g.length/\E=cD (bI UT (g.drop k)) (cD (bI O2 b) (EX ⟨n,ke,re,g,b,v⟩))) (fun q=>g.length - q.toNat) 0 ⟨0,rfl,by simp,by simpa using hp⟩ rfl cq ?_
 rintro q ⟨k,hi,hk,hp⟩
 refine gq aG ?_
 by_cases aA:k < g.length
 ·obtain⟨x,hx,cg⟩:=cd aA
  rw [cg,bI,fb] at hp
  have s7:=List.mem_of_getElem? hx
  have hT:=OY (w0:=w0) x.op
  obtain⟨B,hB⟩:∃ B,B=yV x.op:=⟨_,rfl⟩
  obtain⟨F,hF⟩:∃ F,F=UT x:=⟨_,rfl⟩
  rw [<-hF] at hp
  rw [UT,<-hB] at hF
  rw [<-hB] at hT
  clear hB
  obtain⟨xo,xn,xa⟩:=x
  dsimp only at hT hF
  repeat' (first
   |(refine aa.op rfl (ae.ind rfl rfl (bU (l:=g) hi hx) (bV fun _=>rfl)) ?_;refine gq aG ?_)
   |(refine aa.bif rfl (ae.aL rfl hT ⟨.v,trivial⟩) (fun _=>?_) (fun _=>?_)<;>refine gq aG ?_)
   |(refine aa.m_ rfl rfl (fun hb=>?_) (fun hb=>?_)<;>(try simp only [aM] at hb)<;>(first|exact absurd hb (by decide)|refine gq aG ?_))
   |(refine aa.qj ?_;refine gq aG ?_)
   |(refine kR rfl (by first|rfl ) ?_)
   |(refine bq (fun hb=>?_) (fun hb=>?_)<;>(try simp only [aM] at hb)<;>(first|refine gq aG ?_))
   |(refine bL fun m hm=>?_;(try rw [aF] at hm);refine gq aG ?_)
   |(refine cr fun _ _=>?_;refine gq aG ?_)
   |(refine aa.aR ?_;refine gq aG ?_)
   )
  all_goals first
   |(exfalso;omega)
   |(have e:F=0:=by (first|(rw [hF,show B=true by assumption];rfl)|(rw [hF,decide_eq_true (show xo=1 by omega),Bool.or_true];rfl))
     rw [cH e] at hp
     refine aa.bm (σ:=Int) _ [] ?_ ?_ cq<;>first|omega|exact⟨k+1,by omega,by omega,hp⟩)
   |(have e:F=10:=by (rw [hF,show B=false by assumption,decide_eq_false (show ¬ xo=1 by omega)];rfl)
     rw [iZ (by rw [e];decide)] at hp
     rw [hp,e])
 rw [List.drop_eq_nil_of_le (by omega),bI,cH rfl] at hp
 repeat' (first
  |(refine aa.int rfl (ae.len rfl) fun m2 gH=>?_;rw [aF] at gH;refine gq aG ?_)
  |(refine bq (fun hb=>?_) (fun hb=>?_)<;>(try simp only [aM] at hb)<;>(first|refine gq aG ?_))
  |(refine aa.aR ?_;refine gq aG ?_)
  )
 all_goals first
  |(exfalso;omega)
  |skip
 refine aa.bP (σ:=Int) 3 3 [] (fun q=>[(0,.ip (ln ρ ⟨n,ke,re,g,b,v⟩)),(1,.ip [gI ρ ds]),(180,eP ρ b),(181,.v (.int .i64 m2)),(182,.v (.int .i64 q))]) [] (fun _=>[]) (fun q=>∃ k:Nat,q=k/\k<=b.length/\E=cD (bI O2 (b.drop k)) (EX ⟨n,ke,re,g,b,v⟩)) (fun q=>b.length - q.toNat) 0 ⟨0,rfl,by simp,by simpa using hp⟩ rfl cq ?_
 rintro q ⟨k,hi,hk,hp⟩
 refine gq aG ?_
 by_cases aA:k < b.length
 ·obtain⟨x,hx,cg⟩:=cd aA
  rw [cg,bI,fb] at hp
  have s7:=List.mem_of_getElem? hx
  have hT:=OY (w0:=w0) x.op
  obtain⟨B,hB⟩:∃ B,B=yV x.op:=⟨_,rfl⟩
  obtain⟨F,hF⟩:∃ F,F=O2 x:=⟨_,rfl⟩
  rw [<-hF] at hp
  rw [O2,<-hB] at hF
  rw [<-hB] at hT
  clear hB
  obtain⟨xo,xn,xa⟩:=x
  dsimp only at hT hF
  repeat' (first
   |(refine aa.op rfl (ae.ind rfl rfl (bU (l:=b) hi hx) (bV fun _=>rfl)) ?_;refine gq aG ?_)
   |(refine aa.bif rfl (ae.aL rfl hT ⟨.v,trivial⟩) (fun _=>?_) (fun _=>?_)<;>refine gq aG ?_)
   |(refine aa.m_ rfl rfl (fun hb=>?_) (fun hb=>?_)<;>(try simp only [aM] at hb)<;>(first|exact absurd hb (by decide)|refine gq aG ?_))
   |(refine aa.qj ?_;refine gq aG ?_)
   |(refine kR rfl (by first|rfl ) ?_)
   |(refine bq (fun hb=>?_) (fun hb=>?_)<;>(try simp only [aM] at hb)<;>(first|refine gq aG ?_))
   |(refine cr fun _ _=>?_;refine gq aG ?_)
   |(refine aa.aR ?_;refine gq aG ?_)
   )
  all_goals first
   |(exfalso;omega)
   |(have e:F=0:=by (rw [hF,show B=false by assumption];rfl)
     rw [cH e] at hp
     refine aa.bm (σ:=Int) _ [] ?_ ?_ cq<;>first|omega|exact⟨k+1,by omega,by omega,hp⟩)
   |(have e:F=10:=by (rw [hF,show B=true by assumption];rfl)
     rw [iZ (by rw [e];decide)] at hp
     rw [hp,e])
 rw [List.drop_eq_nil_of_le (by omega),bI,cH rfl] at hp
 repeat' (first
  |(refine aa.op rfl (ae.aL rfl hA ⟨hp1,trivial⟩) ?_;refine gq aG ?_)
  |(refine aa.op rfl (ae.aL rfl hGG ⟨UZ,trivial⟩) ?_;refine gq aG ?_)
  |(refine aa.int rfl (ae.len rfl) fun m2 gH=>?_;rw [aF] at gH;refine gq aG ?_)
  |(refine bq (fun hb=>?_) (fun hb=>?_)<;>(try simp only [aM] at hb)<;>(first|refine gq aG ?_))
  |(refine aa.aR ?_;refine gq aG ?_)
  )
 all_goals first
  |(exfalso;omega)
  |skip
 rw [EX] at hp
 obtain⟨fK,hfK⟩:∃ f,f=fKV ⟨n,ke,re,g,b,v⟩:=⟨_,rfl⟩
 rw [<-hfK,<-aaG] at hp
 have hfx:∀ x,fK x=dW (AV.contains x) 17:=fun x=>by rw [hfK,fKV,<-hAV]
 refine aa.bP (σ:=Int) 3 3 [] (fun q=>[(22,cE ρ cM false AV),(201,cE ρ cM false GG),(202,.v (.int .i64 m2)),(203,.v (.int .i64 q))]) [] (fun _=>[]) (fun q=>∃ k:Nat,q=k/\k<=GG.length/\E=cD (bI fK (GG.drop k)) (0)) (fun q=>GG.length - q.toNat) 0 ⟨0,rfl,by simp,by simpa using hp⟩ rfl cq ?_
 rintro q ⟨k,hi,hk,hp⟩
 refine gq aG ?_
 by_cases aA:k < GG.length
 ·obtain⟨x,hx,cg⟩:=cd aA
  rw [cg,bI,fb] at hp
  have s7:=List.mem_of_getElem? hx
  have hC:=OM (w0:=w0) (ρ:=ρ) AV x (by omega)
  obtain⟨B,hB⟩:∃ B,B=AV.contains x:=⟨_,rfl⟩
  have hF:=hfx x
  rw [<-hB] at hF hC
  obtain⟨F,BI⟩:∃ F,F=fK x:=⟨_,rfl⟩
  rw [<-BI] at hp hF
  clear BI hB
  repeat' (first
   |(refine aa.op rfl (ae.ind rfl rfl (bU (l:=GG) hi hx) (bV fun _=>rfl)) ?_;refine gq aG ?_)
   |(refine aa.bif rfl (ae.aL rfl hC ⟨gy _,.v,trivial⟩) (fun _=>?_) (fun _=>?_)<;>refine gq aG ?_)
   |(refine aa.m_ rfl rfl (fun hb=>?_) (fun hb=>?_)<;>(try simp only [aM] at hb)<;>(first|exact absurd hb (by decide)|refine gq aG ?_))
   |(refine aa.qj ?_;refine gq aG ?_)
   |(refine Au rfl (by conv=>lhs;cbv) ?_)
   |(refine kR rfl (by first|rfl ) ?_)
   |(refine bq (fun hb=>?_) (fun hb=>?_)<;>(try simp only [aM] at hb)<;>(first|refine gq aG ?_))
   |(refine cr fun _ _=>?_;refine gq aG ?_)
   |(refine aa.aR ?_;refine gq aG ?_)
   )
  all_goals first
   |(exfalso;omega)
   |(have e:F=0:=by (rw [hF,show B=true by assumption];rfl)
     rw [cH e] at hp
     refine aa.bm (σ:=Int) _ [] ?_ ?_ cq<;>first|omega|exact⟨k+1,by omega,by omega,hp⟩)
   |(have e:F=17:=by (rw [hF,show B=false by assumption];rfl)
     rw [iZ (by rw [e];decide)] at hp
     rw [hp,e])
 rw [List.drop_eq_nil_of_le (by omega),bI,cH rfl] at hp
 repeat' (first
  |(refine Au rfl (by conv=>lhs;cbv) ?_)
  |(refine bq (fun hb=>?_) (fun hb=>?_)<;>(try simp only [aM] at hb)<;>(first|refine gq aG ?_))
  |(refine aa.aR ?_;refine gq aG ?_)
  )
 all_goals first
  |(exfalso;omega)
  |skip
 all_goals exact hp
end
end
end Go.Proofs.YtgjfgekaclobaaaGreat
