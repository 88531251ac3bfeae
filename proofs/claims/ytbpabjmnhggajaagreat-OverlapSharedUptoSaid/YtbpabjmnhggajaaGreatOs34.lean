import Derived.Test.YtbpabjmnhggajaaGreatOs28
import Derived.Test.YtbpabjmnhggajaaGreatOs32
namespace Go.Proofs.YtbpabjmnhggajaaGreat
set_option linter.unusedVariables false
set_option linter.unusedSimpArgs false
open Go.RowKit
section
set_option maxRecDepth 100000
attribute [local irreducible] ah aC af ad
def ahw:FQ 67 Tryz.f67:=a_ Tryz.func67 Tryz.call67
def aM:List Nat:=[0,11,56,61,75,80,103,136,141,1,165,182,203,2,13,17,19,57,55,4,60,62,59,6,76,74,8,79,81,78,10,102,104,101,113,137,135,15,140,142,139,164,166,163,181,183,180,21,202,204,201,22,24]
def dQ (b:Bool) (e:Int):Int:=if b then 0 else e
theorem fA {a b c:Int}:cH (cH a b) c=cH a (cH b c):=by
 unfold cH;split<;>simp_all
def bG {T:Type}(f:T->Int):List T->Int
 |[]=>0
 |x::l=>cH (f x) (bG f l)
def zA:List Int->Int->(Int->Int)->Int
 |[],n,k=>k n
 |v::vs,n,k=>if v<=n then zA vs (if v=n then n+1 else n) k else 2
def yb (x:At):Int:=dQ (jI x) 2
def yc (x:Gl):Int:=dQ (ft x) 2
def BE (ds:List Dc) (x:At):Int:=uP ds x.n x.a.length
def Vn (x:Gl):Int:=dQ (sN x.op || decide (x.op=1)) 10
def PY (x:Gl):Int:=dQ (!sN x.op) 10
def yd (r:Rl):List Int:=F_ [r.aU,r.rem]
def Dx (r:Rl):List Int:=r9 [r.guard,r.body]
def ZR (r:Rl) (x:Int):Int:=dQ ((yd r).contains x) 17
def Dy (r:Rl):Int:=cH (bG (ZR r) (r9 [r.guard])) 0
def Nm (r:Rl):Int:=cH (bG Vn r.guard) (cH (bG PY r.body) (Dy r))
def uT (ds:List Dc) (r:Rl):Int:=cH (pJ ds r.guard) (cH (pJ ds r.body) (Nm r))
def Hk (ds:List Dc) (r:Rl):Int:=cH (bG (BE ds) r.aU) (cH (bG (BE ds) r.rem) (uT ds r))
def Dz (ds:List Dc) (r:Rl):Int:=cH (dQ (r.n.toList == (⟨#[]⟩:ByteArray).toList || qO r.n) 7) (Hk ds r)
def uU (ds:List Dc) (r:Rl):Int:=zA (yd r++Dx r) 0 fun n=>cH (dQ (decide (r.vars=n)) 2) (Dz ds r)
def uV (ds:List Dc) (r:Rl):Int:=cH (bG yc r.guard) (cH (bG yc r.body) (uU ds r))
def Nn (ds:List Dc) (r:Rl):Int:=cH (bG yb r.aU) (cH (bG yb r.rem) (uV ds r))
def DA (r:Rl):Bool:=decide (0 < r.aU.length+r.rem.length) && decide (r.aU.length+r.rem.length<=4) && decide (r.guard.length<=12) && decide (r.body.length<=12)
def nF (ds:List Dc) (r:Rl):Int:=cH (dQ (DA r) 6) (Nn ds r)
structure BF (r:Rl):Prop where
 n:r.n.size<=1099511627776
 ke:r.aU.length<=1099511627776
 re:r.rem.length<=1099511627776
 g:r.guard.length<=1099511627776
 b:r.body.length<=1099511627776
 kx:∀ x ∈ r.aU,vU x.a/\x.n.size<=1099511627776
 rx:∀ x ∈ r.rem,vU x.a/\x.n.size<=1099511627776
 gx:∀ x ∈ r.guard,ZA x
 bx:∀ x ∈ r.body,ZA x
 av:(yd r).length<=549755813888
 gv:(Dx r).length<=549755813888
section
variable {w0:World}{ρ:Hd}
theorem vU.BB {a:List Tm}(h:vU a):BB a:=⟨h.len,h.1,WY h⟩
theorem Vo (r:Rl) (h:BF r):∃ len,len=(yd r).length/\aC Tryz.prog w0 70 [.sl true [[dy ρ r.aU],[dy ρ r.rem]]] (aq [] 0) (.gr 0 1 len) (aq [(0,Ij ρ (yd r))] 1):=by
 obtain⟨len,h1,h2⟩:=ahs (w0:=w0) (ρ:=ρ) [r.aU,r.rem] (by simp) (fun l hl=>by
  simp only[List.mem_cons,List.not_mem_nil,or_false] at hl;rcases hl with rfl|rfl
  ·exact⟨h.ke,fun x hx=>(h.kx x hx).1.BB⟩
  ·exact⟨h.re,fun x hx=>(h.rx x hx).1.BB⟩) _ rfl (by have:=h.av;unfold yd at this;omega)
 rw[bQ] at h2;exact⟨len,h1,h2⟩
theorem ac7 (r:Rl) (h:BF r):ah Tryz.prog w0 70 [.sl true [[dy ρ r.aU],[dy ρ r.rem]]] (aX ρ aP false (yd r)):=by
 obtain⟨len,h1,h2⟩:=Vo (w0:=w0) (ρ:=ρ) r h;exact ah.Df h2 (aR.grow rfl h1) (bp _)
theorem ac8 (r:Rl) (h:BF r):ah Tryz.prog w0 71 [.sl true [[cX ρ r.guard],[cX ρ r.body]]] (aX ρ aP false (Dx r)):=by
 have h2:=ZJ (w0:=w0) (ρ:=ρ) [r.guard,r.body] (by simp) (fun l hl=>by
  simp only[List.mem_cons,List.not_mem_nil,or_false] at hl;rcases hl with rfl|rfl
  ·exact⟨h.g,fun x hx=>(h.gx x hx).1.BB⟩
  ·exact⟨h.b,fun x hx=>(h.bx x hx).1.BB⟩) (by have:=h.gv;unfold Dx at this;omega)
 rw[bQ] at h2;exact h2
theorem PZ (r:Rl) (h:BF r):(r9 [r.guard]).length<=1099511627776:=by
 have h1:=h.gv;simp only[Dx,r9,List.flatMap_cons,List.flatMap_nil,List.length_append,List.length_nil] at h1 ⊢;omega
theorem ZS (r:Rl) (h:BF r):ah Tryz.prog w0 71 [.sl true [[cX ρ r.guard]]] (aX ρ aP false (r9 [r.guard])):=by
 have h2:=ZJ (w0:=w0) (ρ:=ρ) [r.guard] (by simp) (fun l hl=>by
  obtain rfl:=List.mem_singleton.1 hl;exact⟨h.g,fun x hx=>(h.gx x hx).1.BB⟩) (PZ r h)
 rw[bQ] at h2;exact h2
set_option maxHeartbeats 8000000 in
theorem ZT (ds:List Dc) (r:Rl) (hd:ds.length<=1099511627776) (hr:BF r):xh w0 67 [.ip (lu ρ r),.ip [gk ρ ds]] (nF ds r):=by
 have IJ:Pure (.ip (lu ρ r)):=.ip (wR r);have hpd:Pure (.ip [gk ρ ds]):=.ip fun a ha=>by obtain rfl:=List.mem_singleton.1 ha;exact dU ds
 obtain⟨zz,dV,dP,F6,IK,S8,S9,ZU,ZV,hav,hgv⟩:=id hr;have P0:=Vo (w0:=w0) (ρ:=ρ) r hr;have hA:=ac7 (w0:=w0) (ρ:=ρ) r hr;have hG:=ac8 (w0:=w0) (ρ:=ρ) r hr;have ZW:=ZS (w0:=w0) (ρ:=ρ) r hr;have hGl:=PZ r hr;have Ir:=LA (w0:=w0) (ρ:=ρ) ds r.guard hd F6 fun x hx=>(ZU x hx).1.len;have Vp:=LA (w0:=w0) (ρ:=ρ) ds r.body hd IK fun x hx=>(ZV x hx).1.len;obtain⟨E,hp⟩:∃ E,E=nF ds r:=⟨_,rfl⟩;rw[<-hp];obtain⟨n,ke,re,g,b,v⟩:=r;dsimp only at zz dV dP F6 IK S8 S9 ZU ZV Ir Vp P0 hA hG ZW hGl;obtain⟨AV,ZX⟩:∃ AV,AV=yd ⟨n,ke,re,g,b,v⟩:=⟨_,rfl⟩;obtain⟨GV,ZY⟩:∃ GV,GV=Dx ⟨n,ke,re,g,b,v⟩:=⟨_,rfl⟩;obtain⟨GG,ZZ⟩:∃ GG,GG=r9 [g]:=⟨_,rfl⟩;rw[<-ZX] at P0 hA hav;rw[<-ZY] at hG hgv;rw[<-ZZ] at ZW hGl;rw[nF] at hp;have hS:DA ⟨n,ke,re,g,b,v⟩=(decide (0 < ke.length+re.length) && decide (ke.length+re.length<=4) && decide (g.length<=12) && decide (b.length<=12)):=rfl;refine Hh ahw.2 (by simp[Tryz.ntmps67]) ?_;refine gq aM ?_
 repeat' (first
  |refine ad.nX rfl rfl (fun hb=>?_) (fun hb=>?_)<;>(try simp only[bX] at hb)<;>(first|exact absurd hb (by decide)|refine gq aM ?_)
  |refine l6 rfl (by first|rfl ) ?_
  |refine cg aM (fun hb=>?_) fun hb=>?_
  |refine lg aM fun m hm=>?_
  |refine ag aM fun _ _=>?_
  )
 all_goals first
  |rw[ju (by rw[hS];simp[dQ];omega)] at hp;rw[hp,hS];simp[dQ];omega
  |skip
 rw[cR (by rw[hS];simp[dQ];omega),Nn] at hp;dsimp only at hp;clear hS;have Gd:Pure (.agg [dy ρ ke,dy ρ re]):=.agg fun a ha=>by simp only[List.mem_cons,List.not_mem_nil,or_false] at ha;rcases ha with rfl|rfl<;>exact b_ _
 refine ad.bu (σ:=Int) 0 0 [] (fun q=>[(0,.ip (lu ρ ⟨n,ke,re,g,b,v⟩)),(1,.ip [gk ρ ds]),(55,.agg [dy ρ ke,dy ρ re]),(56,.v (.int .i64 q))]) [] (fun _=>[]) (fun q=>(q=0/\E=cH (bG yb ke) (cH (bG yb re) (uV ds ⟨n,ke,re,g,b,v⟩)))\/(q=1/\E=cH (bG yb re) (uV ds ⟨n,ke,re,g,b,v⟩))\/(q=2/\E=uV ds ⟨n,ke,re,g,b,v⟩)) (fun q=>2 - q.toNat) 0 (.inl ⟨rfl,hp⟩) rfl cq ?_;rintro q0 hI;rcases hI with ⟨rfl,hp⟩|⟨rfl,hp⟩|⟨rfl,hp⟩
 ·refine gq aM ?_
  repeat' (first
   |refine og aM (af.oJ rfl rfl rfl (by decide) (by decide)) ?_
   |refine ad.int rfl (af.len rfl) fun m2 gH=>?_;rw[aE] at gH;refine gq aM ?_
   |exact absurd hb (by decide)
   |refine cg aM (fun hb=>?_) fun hb=>?_
   )
  all_goals first
   |skip
  refine ad.bu (σ:=Int) 0 0 [] (fun q=>[(0,.ip (lu ρ ⟨n,ke,re,g,b,v⟩)),(1,.ip [gk ρ ds]),(55,.agg [dy ρ ke,dy ρ re]),(56,.v (.int .i64 0)),(59,dy ρ ke),(60,.v (.int .i64 m2)),(61,.v (.int .i64 q))]) [] (fun _=>[]) (fun q=>∃ k:Nat,q=k/\k<=ke.length/\E=cH (bG yb (ke.drop k)) (cH (bG yb re) (uV ds ⟨n,ke,re,g,b,v⟩))) (fun q=>ke.length - q.toNat) 0 ⟨0,rfl,by simp,by simpa using hp⟩ rfl cq ?_;rintro q ⟨k,hi,hk,hp⟩;refine gq aM ?_;by_cases aA:k < ke.length
  ·obtain⟨x,hx,bK⟩:=bf aA;rw[bK,bG,fA] at hp;have uW:=List.mem_of_getElem? hx;obtain⟨oc,tQ⟩:=S8 x uW;have hR:=AQ (w0:=w0) (ρ:=ρ) x ⟨oc.len,oc.1⟩ tQ;obtain⟨B,hB⟩:∃ B,B=jI x:=⟨_,rfl⟩;obtain⟨F,hF⟩:∃ F,F=yb x:=⟨_,rfl⟩;rw[<-hF] at hp;rw[yb,<-hB] at hF;rw[<-hB] at hR;clear hB;obtain⟨xn,xa⟩:=x
   repeat' (first
    |refine og aM (af.ind rfl rfl (aY (l:=ke) hi hx) (aZ fun _=>rfl)) ?_
    |refine og aM (af.aw rfl hR ⟨gF (ρ:=ρ) ⟨xn,xa⟩,trivial⟩) ?_
    |refine ad.nX rfl rfl (fun hb=>?_) (fun hb=>?_)<;>(try simp only[bX] at hb)<;>(first|refine gq aM ?_)
    |refine ad.rM ?_;refine gq aM ?_
    |refine l6 rfl (by first|rfl ) ?_
    |refine cg aM (fun hb=>?_) fun hb=>?_
    |refine ag aM fun _ _=>?_
    |refine ad.aH ?_;refine gq aM ?_
    )
   all_goals first
    |exfalso;omega
    |(have e:F=0:=by (rw[hF,hb];rfl)
      rw[cR e] at hp;refine ad.aO (σ:=Int) _ [] ?_ ?_ cq<;>first|omega|exact⟨k+1,by omega,by omega,hp⟩)
    |(have e:F=2:=by (rw[hF,hb];rfl)
      rw[ju (by rw[e];decide)] at hp;rw[hp,e])
  ·rw[List.drop_eq_nil_of_le (by omega),bG,cR rfl] at hp
   repeat' (first
    |refine cg aM (fun hb=>?_) fun hb=>?_
    |refine ag aM fun _ _=>?_
    |refine ad.aH ?_;refine gq aM ?_
    )
   all_goals first
    |exfalso;omega
    |skip
   refine ad.aO (σ:=Int) _ [] ?_ ?_ cq<;>first|omega
 ·refine gq aM ?_
  repeat' (first
   |refine og aM (af.oJ rfl rfl rfl (by decide) (by decide)) ?_
   |refine ad.int rfl (af.len rfl) fun m2 gH=>?_;rw[aE] at gH;refine gq aM ?_
   |exact absurd hb (by decide)
   |refine cg aM (fun hb=>?_) fun hb=>?_
   )
  all_goals first
   |skip
  refine ad.bu (σ:=Int) 0 0 [] (fun q=>[(0,.ip (lu ρ ⟨n,ke,re,g,b,v⟩)),(1,.ip [gk ρ ds]),(55,.agg [dy ρ ke,dy ρ re]),(56,.v (.int .i64 1)),(59,dy ρ re),(60,.v (.int .i64 m2)),(61,.v (.int .i64 q))]) [] (fun _=>[]) (fun q=>∃ k:Nat,q=k/\k<=re.length/\E=cH (bG yb (re.drop k)) (uV ds ⟨n,ke,re,g,b,v⟩)) (fun q=>re.length - q.toNat) 0 ⟨0,rfl,by simp,by simpa using hp⟩ rfl cq ?_;rintro q ⟨k,hi,hk,hp⟩;refine gq aM ?_;by_cases aA:k < re.length
  ·obtain⟨x,hx,bK⟩:=bf aA;rw[bK,bG,fA] at hp;have uW:=List.mem_of_getElem? hx;obtain⟨oc,tQ⟩:=S9 x uW;have hR:=AQ (w0:=w0) (ρ:=ρ) x ⟨oc.len,oc.1⟩ tQ;obtain⟨B,hB⟩:∃ B,B=jI x:=⟨_,rfl⟩;obtain⟨F,hF⟩:∃ F,F=yb x:=⟨_,rfl⟩;rw[<-hF] at hp;rw[yb,<-hB] at hF;rw[<-hB] at hR;clear hB;obtain⟨xn,xa⟩:=x
   repeat' (first
    |refine og aM (af.ind rfl rfl (aY (l:=re) hi hx) (aZ fun _=>rfl)) ?_
    |refine og aM (af.aw rfl hR ⟨gF (ρ:=ρ) ⟨xn,xa⟩,trivial⟩) ?_
    |refine ad.nX rfl rfl (fun hb=>?_) (fun hb=>?_)<;>(try simp only[bX] at hb)<;>(first|refine gq aM ?_)
    |refine ad.rM ?_;refine gq aM ?_
    |refine l6 rfl (by first|rfl ) ?_
    |refine cg aM (fun hb=>?_) fun hb=>?_
    |refine ag aM fun _ _=>?_
    |refine ad.aH ?_;refine gq aM ?_
    )
   all_goals first
    |exfalso;omega
    |(have e:F=0:=by (rw[hF,hb];rfl)
      rw[cR e] at hp;refine ad.aO (σ:=Int) _ [] ?_ ?_ cq<;>first|omega|exact⟨k+1,by omega,by omega,hp⟩)
    |(have e:F=2:=by (rw[hF,hb];rfl)
      rw[ju (by rw[e];decide)] at hp;rw[hp,e])
  ·rw[List.drop_eq_nil_of_le (by omega),bG,cR rfl] at hp
   repeat' (first
    |refine cg aM (fun hb=>?_) fun hb=>?_
    |refine ag aM fun _ _=>?_
    |refine ad.aH ?_;refine gq aM ?_
    )
   all_goals first
    |exfalso;omega
    |skip
   refine ad.aO (σ:=Int) _ [] ?_ ?_ cq<;>first|omega
 refine gq aM ?_
 repeat' (first
  |exact absurd hb (by decide)
  |refine cg aM (fun hb=>?_) fun hb=>?_
  |refine ad.aH ?_;refine gq aM ?_
  )
 all_goals first
  |skip
 rw[uV] at hp;dsimp only at hp;have Gd:Pure (.agg [cX ρ g,cX ρ b]):=.agg fun a ha=>by simp only[List.mem_cons,List.not_mem_nil,or_false] at ha;rcases ha with rfl|rfl<;>exact cL _
 refine ad.bu (σ:=Int) 0 0 [] (fun q=>[(0,.ip (lu ρ ⟨n,ke,re,g,b,v⟩)),(1,.ip [gk ρ ds]),(74,.agg [cX ρ g,cX ρ b]),(75,.v (.int .i64 q))]) [] (fun _=>[]) (fun q=>(q=0/\E=cH (bG yc g) (cH (bG yc b) (uU ds ⟨n,ke,re,g,b,v⟩)))\/(q=1/\E=cH (bG yc b) (uU ds ⟨n,ke,re,g,b,v⟩))\/(q=2/\E=uU ds ⟨n,ke,re,g,b,v⟩)) (fun q=>2 - q.toNat) 0 (.inl ⟨rfl,hp⟩) rfl cq ?_;rintro q0 hI;rcases hI with ⟨rfl,hp⟩|⟨rfl,hp⟩|⟨rfl,hp⟩
 ·refine gq aM ?_
  repeat' (first
   |refine og aM (af.oJ rfl rfl rfl (by decide) (by decide)) ?_
   |refine ad.int rfl (af.len rfl) fun m2 gH=>?_;rw[aE] at gH;refine gq aM ?_
   |exact absurd hb (by decide)
   |refine cg aM (fun hb=>?_) fun hb=>?_
   )
  all_goals first
   |skip
  refine ad.bu (σ:=Int) 0 0 [] (fun q=>[(0,.ip (lu ρ ⟨n,ke,re,g,b,v⟩)),(1,.ip [gk ρ ds]),(74,.agg [cX ρ g,cX ρ b]),(75,.v (.int .i64 0)),(78,cX ρ g),(79,.v (.int .i64 m2)),(80,.v (.int .i64 q))]) [] (fun _=>[]) (fun q=>∃ k:Nat,q=k/\k<=g.length/\E=cH (bG yc (g.drop k)) (cH (bG yc b) (uU ds ⟨n,ke,re,g,b,v⟩))) (fun q=>g.length - q.toNat) 0 ⟨0,rfl,by simp,by simpa using hp⟩ rfl cq ?_;rintro q ⟨k,hi,hk,hp⟩;refine gq aM ?_;by_cases aA:k < g.length
  ·obtain⟨x,hx,bK⟩:=bf aA;rw[bK,bG,fA] at hp;have uW:=List.mem_of_getElem? hx;obtain⟨oc,tQ⟩:=ZU x uW;have hR:=vX (w0:=w0) (ρ:=ρ) x ⟨oc.len,oc.1⟩ tQ;obtain⟨B,hB⟩:∃ B,B=ft x:=⟨_,rfl⟩;obtain⟨F,hF⟩:∃ F,F=yc x:=⟨_,rfl⟩;rw[<-hF] at hp;rw[yc,<-hB] at hF;rw[<-hB] at hR;clear hB;obtain⟨xo,xn,xa⟩:=x
   repeat' (first
    |refine og aM (af.ind rfl rfl (aY (l:=g) hi hx) (aZ fun _=>rfl)) ?_
    |refine og aM (af.aw rfl hR ⟨gV (ρ:=ρ) ⟨xo,xn,xa⟩,trivial⟩) ?_
    |refine ad.nX rfl rfl (fun hb=>?_) (fun hb=>?_)<;>(try simp only[bX] at hb)<;>(first|refine gq aM ?_)
    |refine ad.rM ?_;refine gq aM ?_
    |refine l6 rfl (by first|rfl ) ?_
    |refine cg aM (fun hb=>?_) fun hb=>?_
    |refine ag aM fun _ _=>?_
    |refine ad.aH ?_;refine gq aM ?_
    )
   all_goals first
    |exfalso;omega
    |(have e:F=0:=by (rw[hF,hb];rfl)
      rw[cR e] at hp;refine ad.aO (σ:=Int) _ [] ?_ ?_ cq<;>first|omega|exact⟨k+1,by omega,by omega,hp⟩)
    |(have e:F=2:=by (rw[hF,hb];rfl)
      rw[ju (by rw[e];decide)] at hp;rw[hp,e])
  ·rw[List.drop_eq_nil_of_le (by omega),bG,cR rfl] at hp
   repeat' (first
    |refine cg aM (fun hb=>?_) fun hb=>?_
    |refine ag aM fun _ _=>?_
    |refine ad.aH ?_;refine gq aM ?_
    )
   all_goals first
    |exfalso;omega
    |skip
   refine ad.aO (σ:=Int) _ [] ?_ ?_ cq<;>first|omega
 ·refine gq aM ?_
  repeat' (first
   |refine og aM (af.oJ rfl rfl rfl (by decide) (by decide)) ?_
   |refine ad.int rfl (af.len rfl) fun m2 gH=>?_;rw[aE] at gH;refine gq aM ?_
   |exact absurd hb (by decide)
   |refine cg aM (fun hb=>?_) fun hb=>?_
   )
  all_goals first
   |skip
  refine ad.bu (σ:=Int) 0 0 [] (fun q=>[(0,.ip (lu ρ ⟨n,ke,re,g,b,v⟩)),(1,.ip [gk ρ ds]),(74,.agg [cX ρ g,cX ρ b]),(75,.v (.int .i64 1)),(78,cX ρ b),(79,.v (.int .i64 m2)),(80,.v (.int .i64 q))]) [] (fun _=>[]) (fun q=>∃ k:Nat,q=k/\k<=b.length/\E=cH (bG yc (b.drop k)) (uU ds ⟨n,ke,re,g,b,v⟩)) (fun q=>b.length - q.toNat) 0 ⟨0,rfl,by simp,by simpa using hp⟩ rfl cq ?_;rintro q ⟨k,hi,hk,hp⟩;refine gq aM ?_;by_cases aA:k < b.length
  ·obtain⟨x,hx,bK⟩:=bf aA;rw[bK,bG,fA] at hp;have uW:=List.mem_of_getElem? hx;obtain⟨oc,tQ⟩:=ZV x uW;have hR:=vX (w0:=w0) (ρ:=ρ) x ⟨oc.len,oc.1⟩ tQ;obtain⟨B,hB⟩:∃ B,B=ft x:=⟨_,rfl⟩;obtain⟨F,hF⟩:∃ F,F=yc x:=⟨_,rfl⟩;rw[<-hF] at hp;rw[yc,<-hB] at hF;rw[<-hB] at hR;clear hB;obtain⟨xo,xn,xa⟩:=x
   repeat' (first
    |refine og aM (af.ind rfl rfl (aY (l:=b) hi hx) (aZ fun _=>rfl)) ?_
    |refine og aM (af.aw rfl hR ⟨gV (ρ:=ρ) ⟨xo,xn,xa⟩,trivial⟩) ?_
    |refine ad.nX rfl rfl (fun hb=>?_) (fun hb=>?_)<;>(try simp only[bX] at hb)<;>(first|refine gq aM ?_)
    |refine ad.rM ?_;refine gq aM ?_
    |refine l6 rfl (by first|rfl ) ?_
    |refine cg aM (fun hb=>?_) fun hb=>?_
    |refine ag aM fun _ _=>?_
    |refine ad.aH ?_;refine gq aM ?_
    )
   all_goals first
    |exfalso;omega
    |(have e:F=0:=by (rw[hF,hb];rfl)
      rw[cR e] at hp;refine ad.aO (σ:=Int) _ [] ?_ ?_ cq<;>first|omega|exact⟨k+1,by omega,by omega,hp⟩)
    |(have e:F=2:=by (rw[hF,hb];rfl)
      rw[ju (by rw[e];decide)] at hp;rw[hp,e])
  ·rw[List.drop_eq_nil_of_le (by omega),bG,cR rfl] at hp
   repeat' (first
    |refine cg aM (fun hb=>?_) fun hb=>?_
    |refine ag aM fun _ _=>?_
    |refine ad.aH ?_;refine gq aM ?_
    )
   all_goals first
    |exfalso;omega
    |skip
   refine ad.aO (σ:=Int) _ [] ?_ ?_ cq<;>first|omega
 refine gq aM ?_
 repeat' (first
  |exact absurd hb (by decide)
  |refine cg aM (fun hb=>?_) fun hb=>?_
  |refine ad.aH ?_;refine gq aM ?_
  )
 all_goals first
  |skip
 have IL:uU ds ⟨n,ke,re,g,b,v⟩=zA (yd ⟨n,ke,re,g,b,v⟩++Dx ⟨n,ke,re,g,b,v⟩) 0 fun n'=>cH (dQ (decide (v=n')) 2) (Dz ds ⟨n,ke,re,g,b,v⟩):=rfl;rw[IL,<-ZX,<-ZY] at hp;clear IL;obtain⟨len,hlen,bH⟩:=P0;have ye:Pure (.sl true [[dy ρ ke],[dy ρ re]]):=.sl fun row hr a ha=>by simp only[List.mem_cons,List.not_mem_nil,or_false] at hr;rcases hr with rfl|rfl<;>(obtain rfl:=List.mem_singleton.1 ha;exact b_ _)
 have fU:Pure (.sl true [[cX ρ g],[cX ρ b]]):=.sl fun row hr a ha=>by simp only[List.mem_cons,List.not_mem_nil,or_false] at hr;rcases hr with rfl|rfl<;>(obtain rfl:=List.mem_singleton.1 ha;exact cL _)
 have Vq:Pure (.sl true [[cX ρ g]]):=.sl fun row hr a ha=>by obtain rfl:=List.mem_singleton.1 hr;obtain rfl:=List.mem_singleton.1 ha;exact cL _
 refine ad.Zs rfl bH rfl ⟨Rn.pure ye,trivial⟩ (Rb.gr rfl) ⟨⟨0,_,rfl,rfl,lK.pure PG⟩,trivial⟩ rfl ?_;refine gq aM ?_;refine ad.fe rfl (fun T=>af.aw rfl hG ⟨fU,trivial⟩) ?_;refine gq aM ?_;refine ad.acY (f:=aP) rfl rfl rfl hlen (fun _=>rfl) rfl (fun _=>rfl) (fun _=>rfl) (by omega) fun L xl hL Du=>?_;refine gq aM ?_;obtain⟨kk,IL⟩:∃ kk:Int->Int,kk=fun n'=>cH (dQ (decide (v=n')) 2) (Dz ds ⟨n,ke,re,g,b,v⟩):=⟨_,rfl⟩;rw[<-IL,<-hL] at hp;have IM:L.length<=1099511627776:=by rw[hL,List.length_append];omega
 refine ad.R3 rfl (fun T=>af.pE rfl) fun m3 Vr=>?_;refine gq aM ?_;refine ad.cv (Cv.freeze (t:=101) rfl rfl (.inl rfl) (Du.trans (aE (ρ:=ρ) (f:=aP)).symm) (Nat.zero_le _)) ?_;refine ad.bu (σ:=Int × Int) 3 3 [] (fun p=>[(0,.ip (lu ρ ⟨n,ke,re,g,b,v⟩)),(1,.ip [gk ρ ds]),(11,.v (.int .i64 p.2)),(101,aX ρ aP false L),(102,.v (.int .i64 m3)),(103,.v (.int .i64 p.1))]) [] (fun _=>[]) (fun p=>∃ k:Nat,p.1=k/\k<=L.length/\0<=p.2/\p.2<=k/\E=zA (L.drop k) p.2 kk) (fun p=>L.length - p.1.toNat) (0,0) ⟨0,rfl,by simp,by simp,by simp,by simpa using hp⟩ rfl cq ?_;rintro⟨i,nx⟩ ⟨k,hi,hk,Vs,kT,hp⟩;simp only at hi Vs kT hp;refine gq aM ?_;by_cases aA:k < L.length
 ·obtain⟨x,hx,bK⟩:=bf aA;rw[bK,zA] at hp
  repeat' (first
   |refine og aM (af.ind rfl rfl (aY (l:=L) hi hx) (aZ fun _=>rfl)) ?_
   |refine ad.nX rfl rfl (fun hb=>?_) (fun hb=>?_)<;>(try simp only[bX] at hb)<;>(first|exact absurd hb (by decide)|refine gq aM ?_)
   |refine ad.rM ?_;refine gq aM ?_
   |refine l6 rfl (by first|rfl ) ?_
   |refine cg aM (fun hb=>?_) fun hb=>?_
   |refine ag aM fun _ _=>?_
   |refine ad.aH ?_;refine gq aM ?_
   )
  all_goals first
   |exfalso;omega
   |(rw[if_pos (by omega),if_pos (by omega)] at hp
     refine ad.aO (σ:=Int × Int) (_,_) [] ?_ ?_ cq
     ·exact⟨k+1,by simp only;omega,by omega,by simp only;omega,by simp only;omega,by rw[hp];congr 1;simp only;omega⟩
     ·simp only;omega)
   |(rw[if_pos (by omega),if_neg (by omega)] at hp
     refine ad.aO (σ:=Int × Int) (_,_) [] ?_ ?_ cq
     ·exact⟨k+1,by simp only;omega,by omega,by simp only;omega,by simp only;omega,hp⟩
     ·simp only;omega)
   |rw[if_neg (by omega)] at hp;exact hp
 rw[List.drop_eq_nil_of_le (by omega),zA] at hp;subst IL;simp only at hp;refine ad.bif rfl (af.bit rfl) (fun hb=>?_) (fun hb=>?_)<;>(try simp only[decide_eq_true_eq,decide_eq_false_iff_not,beq_iff_eq,beq_eq_false_iff_ne,bne_iff_ne,bne_eq_false_iff_eq,Bool.not_eq_true,Bool.not_eq_false,Bool.not_eq_true',Bool.not_eq_false',ne_eq] at hb)
 ·exfalso;omega
 refine gq aM ?_;refine ad.aH ?_;refine gq aM ?_;refine ad.bif rfl (af.bit rfl) (fun hb=>?_) (fun hb=>?_)<;>(try simp only[decide_eq_true_eq,decide_eq_false_iff_not,beq_iff_eq,beq_eq_false_iff_ne,bne_iff_ne,bne_eq_false_iff_eq,Bool.not_eq_true,Bool.not_eq_false,Bool.not_eq_true',Bool.not_eq_false',ne_eq] at hb)<;>refine gq aM ?_
 rotate_left
 ·refine ad.nX rfl rfl (fun hc=>absurd hc (by decide)) (fun hc=>?_);refine gq aM ?_;refine l6 rfl rfl ?_;rw[decide_eq_false (by omega)] at hp;exact hp
 refine ad.nX rfl rfl (fun hc=>?_) (fun hc=>absurd hc (by decide));refine gq aM ?_;rw[decide_eq_true (by omega),show dQ true 2=0 from rfl,cR rfl] at hp;have hN:=vS (w0:=w0) n zz;rw[Dz] at hp;dsimp only at hp;refine ad.agY (σ:=Int) 0 3 3 (fun _=>[(0,.ip (lu ρ ⟨n,ke,re,g,b,v⟩)),(1,.ip [gk ρ ds])]) [] (fun _=>[]) (fun _=>E=Hk ds ⟨n,ke,re,g,b,v⟩) rfl ?_ ?_
 ·obtain⟨NB,IN⟩:∃ NB,NB=qO n:=⟨_,rfl⟩;rw[<-IN] at hp hN;obtain⟨ne,bU⟩:∃ ne,ne=(n.toList == (⟨#[]⟩:ByteArray).toList):=⟨_,rfl⟩;rw[<-bU] at hp
  repeat' (first
   |refine bg aM (af.bit rfl) (fun hs=>?_) fun hs=>?_
   |refine bg aM (af.aw rfl hN ⟨.v,trivial⟩) (fun _=>?_) fun _=>?_
   |refine ad.ahf ?_;refine gq aM ?_
   |refine ad.nX rfl rfl (fun hb=>?_) (fun hb=>?_)<;>(try simp only[bX] at hb)<;>(first|exact absurd hb (by decide)|refine gq aM ?_)
   |refine l6 rfl (by first|rfl ) ?_
   )
  all_goals first
   |rw[show NB=true by assumption,Bool.or_true,show dQ true 7=0 from rfl,cR rfl] at hp;exact ad.Yz (0:Int) [] hp rfl cq
   |rw[show NB=false by assumption,show ne=false by (rw[bU];first|exact hs )] at hp;exact hp
   |rw[show ne=true by (rw[bU];first|exact hs ),Bool.true_or,show dQ true 7=0 from rfl,cR rfl] at hp;exact ad.Yz (0:Int) [] hp rfl cq
 rintro s0 hp;clear hL IM hN bH hG ZY;refine gq aM ?_;rw[Hk] at hp;dsimp only at hp;have Gd:Pure (.agg [dy ρ ke,dy ρ re]):=.agg fun a ha=>by simp only[List.mem_cons,List.not_mem_nil,or_false] at ha;rcases ha with rfl|rfl<;>exact b_ _
 refine ad.bu (σ:=Int) 3 3 [] (fun q=>[(0,.ip (lu ρ ⟨n,ke,re,g,b,v⟩)),(1,.ip [gk ρ ds]),(135,.agg [dy ρ ke,dy ρ re]),(136,.v (.int .i64 q))]) [] (fun _=>[]) (fun q=>(q=0/\E=cH (bG (BE ds) ke) (cH (bG (BE ds) re) (uT ds ⟨n,ke,re,g,b,v⟩)))\/(q=1/\E=cH (bG (BE ds) re) (uT ds ⟨n,ke,re,g,b,v⟩))\/(q=2/\E=uT ds ⟨n,ke,re,g,b,v⟩)) (fun q=>2 - q.toNat) 0 (.inl ⟨rfl,hp⟩) rfl cq ?_;rintro q0 hI;rcases hI with ⟨rfl,hp⟩|⟨rfl,hp⟩|⟨rfl,hp⟩
 ·refine gq aM ?_
  repeat' (first
   |refine og aM (af.oJ rfl rfl rfl (by decide) (by decide)) ?_
   |refine ad.int rfl (af.len rfl) fun m2 gH=>?_;rw[aE] at gH;refine gq aM ?_
   |exact absurd hb (by decide)
   |refine cg aM (fun hb=>?_) fun hb=>?_
   )
  all_goals first
   |skip
  refine ad.bu (σ:=Int) 3 3 [] (fun q=>[(0,.ip (lu ρ ⟨n,ke,re,g,b,v⟩)),(1,.ip [gk ρ ds]),(135,.agg [dy ρ ke,dy ρ re]),(136,.v (.int .i64 0)),(139,dy ρ ke),(140,.v (.int .i64 m2)),(141,.v (.int .i64 q))]) [] (fun _=>[]) (fun q=>∃ k:Nat,q=k/\k<=ke.length/\E=cH (bG (BE ds) (ke.drop k)) (cH (bG (BE ds) re) (uT ds ⟨n,ke,re,g,b,v⟩))) (fun q=>ke.length - q.toNat) 0 ⟨0,rfl,by simp,by simpa using hp⟩ rfl cq ?_;rintro q ⟨k,hi,hk,hp⟩;refine gq aM ?_;by_cases aA:k < ke.length
  ·obtain⟨x,hx,bK⟩:=bf aA;rw[bK,bG,fA] at hp;have uW:=List.mem_of_getElem? hx;obtain⟨oc,tQ⟩:=S8 x uW;have Bi:=oc.len;obtain⟨F,hF⟩:∃ F,F=BE ds x:=⟨_,rfl⟩;rw[<-hF] at hp;have hD:=ET (w0:=w0) (ρ:=ρ) ds x.n x.a.length hd;rw[show uP ds x.n x.a.length=F from hF.symm] at hD;clear hF oc tQ;obtain⟨xn,xa⟩:=x;dsimp only at hD Bi;obtain⟨q3,Ge⟩:∃ q:Int,q=xa.length:=⟨_,rfl⟩;rw[<-Ge] at hD
   repeat' (first
    |refine og aM (af.ind rfl rfl (aY (l:=ke) hi hx) (aZ fun _=>rfl)) ?_
    |refine ad.int rfl (af.len rfl) fun m3 Vr=>?_;rw[aE] at Vr;obtain rfl:m3=q3:=(by omega);refine gq aM ?_
    |refine ad.sM rfl rfl (hD) (by repeat' (first|exact trivial|(refine⟨?_,?_⟩;(first|exact .v|exact dU _ )))) (fun he=>?_) (fun he=>?_)<;>refine gq aM ?_
    |refine ad.rM ?_;refine gq aM ?_
    |refine l6 rfl (by first|exact decide_eq_false (by assumption)) ?_
    |refine cg aM (fun hb=>?_) fun hb=>?_
    |refine ag aM fun _ _=>?_
    |refine ad.aH ?_;refine gq aM ?_
    )
   all_goals first
    |exfalso;omega
    |(have e:F=0:=he
      rw[cR e] at hp;refine ad.aO (σ:=Int) _ [] ?_ ?_ cq<;>first|omega|exact⟨k+1,by omega,by omega,hp⟩)
    |(rw[ju he] at hp
      exact hp)
  ·rw[List.drop_eq_nil_of_le (by omega),bG,cR rfl] at hp
   repeat' (first
    |refine cg aM (fun hb=>?_) fun hb=>?_
    |refine ag aM fun _ _=>?_
    |refine ad.aH ?_;refine gq aM ?_
    )
   all_goals first
    |exfalso;omega
    |skip
   refine ad.aO (σ:=Int) _ [] ?_ ?_ cq<;>first|omega
 ·refine gq aM ?_
  repeat' (first
   |refine og aM (af.oJ rfl rfl rfl (by decide) (by decide)) ?_
   |refine ad.int rfl (af.len rfl) fun m2 gH=>?_;rw[aE] at gH;refine gq aM ?_
   |exact absurd hb (by decide)
   |refine cg aM (fun hb=>?_) fun hb=>?_
   )
  all_goals first
   |skip
  refine ad.bu (σ:=Int) 3 3 [] (fun q=>[(0,.ip (lu ρ ⟨n,ke,re,g,b,v⟩)),(1,.ip [gk ρ ds]),(135,.agg [dy ρ ke,dy ρ re]),(136,.v (.int .i64 1)),(139,dy ρ re),(140,.v (.int .i64 m2)),(141,.v (.int .i64 q))]) [] (fun _=>[]) (fun q=>∃ k:Nat,q=k/\k<=re.length/\E=cH (bG (BE ds) (re.drop k)) (uT ds ⟨n,ke,re,g,b,v⟩)) (fun q=>re.length - q.toNat) 0 ⟨0,rfl,by simp,by simpa using hp⟩ rfl cq ?_;rintro q ⟨k,hi,hk,hp⟩;refine gq aM ?_;by_cases aA:k < re.length
  ·obtain⟨x,hx,bK⟩:=bf aA;rw[bK,bG,fA] at hp;have uW:=List.mem_of_getElem? hx;obtain⟨oc,tQ⟩:=S9 x uW;have Bi:=oc.len;obtain⟨F,hF⟩:∃ F,F=BE ds x:=⟨_,rfl⟩;rw[<-hF] at hp;have hD:=ET (w0:=w0) (ρ:=ρ) ds x.n x.a.length hd;rw[show uP ds x.n x.a.length=F from hF.symm] at hD;clear hF oc tQ;obtain⟨xn,xa⟩:=x;dsimp only at hD Bi;obtain⟨q3,Ge⟩:∃ q:Int,q=xa.length:=⟨_,rfl⟩;rw[<-Ge] at hD
   repeat' (first
    |refine og aM (af.ind rfl rfl (aY (l:=re) hi hx) (aZ fun _=>rfl)) ?_
    |refine ad.int rfl (af.len rfl) fun m3 Vr=>?_;rw[aE] at Vr;obtain rfl:m3=q3:=(by omega);refine gq aM ?_
    |refine ad.sM rfl rfl (hD) (by repeat' (first|exact trivial|(refine⟨?_,?_⟩;(first|exact .v|exact dU _ )))) (fun he=>?_) (fun he=>?_)<;>refine gq aM ?_
    |refine ad.rM ?_;refine gq aM ?_
    |refine l6 rfl (by first|exact decide_eq_false (by assumption)) ?_
    |refine cg aM (fun hb=>?_) fun hb=>?_
    |refine ag aM fun _ _=>?_
    |refine ad.aH ?_;refine gq aM ?_
    )
   all_goals first
    |exfalso;omega
    |(have e:F=0:=he
      rw[cR e] at hp;refine ad.aO (σ:=Int) _ [] ?_ ?_ cq<;>first|omega|exact⟨k+1,by omega,by omega,hp⟩)
    |(rw[ju he] at hp
      exact hp)
  ·rw[List.drop_eq_nil_of_le (by omega),bG,cR rfl] at hp
   repeat' (first
    |refine cg aM (fun hb=>?_) fun hb=>?_
    |refine ag aM fun _ _=>?_
    |refine ad.aH ?_;refine gq aM ?_
    )
   all_goals first
    |exfalso;omega
    |skip
   refine ad.aO (σ:=Int) _ [] ?_ ?_ cq<;>first|omega
 refine gq aM ?_
 repeat' (first
  |exact absurd hb (by decide)
  |refine cg aM (fun hb=>?_) fun hb=>?_
  |refine ad.aH ?_;refine gq aM ?_
  )
 all_goals first
  |skip
 rw[uT] at hp;dsimp only at hp;obtain⟨F1,IP⟩:∃ F,F=pJ ds g:=⟨_,rfl⟩;obtain⟨F2,BG⟩:∃ F,F=pJ ds b:=⟨_,rfl⟩;rw[<-IP] at hp Ir;rw[<-BG] at hp Vp
 repeat' (first
  |refine ad.int rfl (af.len rfl) fun m2 gH=>?_;rw[aE] at gH;refine gq aM ?_
  |refine ad.sM rfl rfl (Ir) (by repeat' (first|exact trivial|(refine⟨?_,?_⟩;(first|exact cL _|exact dU _ )))) (fun he=>?_) (fun he=>?_)<;>refine gq aM ?_
  |refine ad.sM rfl rfl (Vp) (by repeat' (first|exact trivial|(refine⟨?_,?_⟩;(first|exact cL _|exact dU _ )))) (fun he=>?_) (fun he=>?_)<;>refine gq aM ?_
  |refine l6 rfl (by first|exact decide_eq_false (by assumption)) ?_
  )
 all_goals first
  |rw[cR (e:=F1) (by assumption),ju (e:=F2) (by assumption)] at hp;exact hp
  |rw[ju (e:=F1) (by assumption)] at hp;exact hp
  |skip
 rw[cR (e:=F1) (by assumption),cR (e:=F2) (by assumption),Nm] at hp;dsimp only at hp;clear IP BG Ir Vp;refine ad.bu (σ:=Int) 3 3 [] (fun q=>[(0,.ip (lu ρ ⟨n,ke,re,g,b,v⟩)),(1,.ip [gk ρ ds]),(163,cX ρ g),(164,.v (.int .i64 m2)),(165,.v (.int .i64 q))]) [] (fun _=>[]) (fun q=>∃ k:Nat,q=k/\k<=g.length/\E=cH (bG Vn (g.drop k)) (cH (bG PY b) (Dy ⟨n,ke,re,g,b,v⟩))) (fun q=>g.length - q.toNat) 0 ⟨0,rfl,by simp,by simpa using hp⟩ rfl cq ?_;rintro q ⟨k,hi,hk,hp⟩;refine gq aM ?_;by_cases aA:k < g.length
 ·obtain⟨x,hx,bK⟩:=bf aA;rw[bK,bG,fA] at hp;have uW:=List.mem_of_getElem? hx;have hT:=PM (w0:=w0) x.op;obtain⟨B,hB⟩:∃ B,B=sN x.op:=⟨_,rfl⟩;obtain⟨F,hF⟩:∃ F,F=Vn x:=⟨_,rfl⟩;rw[<-hF] at hp;rw[Vn,<-hB] at hF;rw[<-hB] at hT;clear hB;obtain⟨xo,xn,xa⟩:=x;dsimp only at hT hF
  repeat' (first
   |refine og aM (af.ind rfl rfl (aY (l:=g) hi hx) (aZ fun _=>rfl)) ?_
   |refine bg aM (af.aw rfl hT ⟨.v,trivial⟩) (fun _=>?_) fun _=>?_
   |refine ad.nX rfl rfl (fun hb=>?_) (fun hb=>?_)<;>(try simp only[bX] at hb)<;>(first|exact absurd hb (by decide)|refine gq aM ?_)
   |refine ad.rM ?_;refine gq aM ?_
   |refine l6 rfl (by first|rfl ) ?_
   |refine cg aM (fun hb=>?_) fun hb=>?_
   |refine lg aM fun m hm=>?_
   |refine ag aM fun _ _=>?_
   |refine ad.aH ?_;refine gq aM ?_
   )
  all_goals first
   |exfalso;omega
   |(have e:F=0:=by (first|(rw[hF,show B=true by assumption];rfl)|(rw[hF,decide_eq_true (show xo=1 by omega),Bool.or_true];rfl))
     rw[cR e] at hp;refine ad.aO (σ:=Int) _ [] ?_ ?_ cq<;>first|omega|exact⟨k+1,by omega,by omega,hp⟩)
   |(have e:F=10:=by (rw[hF,show B=false by assumption,decide_eq_false (show ¬ xo=1 by omega)];rfl)
     rw[ju (by rw[e];decide)] at hp;rw[hp,e])
 rw[List.drop_eq_nil_of_le (by omega),bG,cR rfl] at hp
 repeat' (first
  |refine ad.int rfl (af.len rfl) fun m2 gH=>?_;rw[aE] at gH;refine gq aM ?_
  |refine cg aM (fun hb=>?_) fun hb=>?_
  |refine ad.aH ?_;refine gq aM ?_
  )
 all_goals first
  |exfalso;omega
  |skip
 refine ad.bu (σ:=Int) 3 3 [] (fun q=>[(0,.ip (lu ρ ⟨n,ke,re,g,b,v⟩)),(1,.ip [gk ρ ds]),(180,cX ρ b),(181,.v (.int .i64 m2)),(182,.v (.int .i64 q))]) [] (fun _=>[]) (fun q=>∃ k:Nat,q=k/\k<=b.length/\E=cH (bG PY (b.drop k)) (Dy ⟨n,ke,re,g,b,v⟩)) (fun q=>b.length - q.toNat) 0 ⟨0,rfl,by simp,by simpa using hp⟩ rfl cq ?_;rintro q ⟨k,hi,hk,hp⟩;refine gq aM ?_;by_cases aA:k < b.length
 ·obtain⟨x,hx,bK⟩:=bf aA;rw[bK,bG,fA] at hp;have uW:=List.mem_of_getElem? hx;have hT:=PM (w0:=w0) x.op;obtain⟨B,hB⟩:∃ B,B=sN x.op:=⟨_,rfl⟩;obtain⟨F,hF⟩:∃ F,F=PY x:=⟨_,rfl⟩;rw[<-hF] at hp;rw[PY,<-hB] at hF;rw[<-hB] at hT;clear hB;obtain⟨xo,xn,xa⟩:=x;dsimp only at hT hF
  repeat' (first
   |refine og aM (af.ind rfl rfl (aY (l:=b) hi hx) (aZ fun _=>rfl)) ?_
   |refine bg aM (af.aw rfl hT ⟨.v,trivial⟩) (fun _=>?_) fun _=>?_
   |refine ad.nX rfl rfl (fun hb=>?_) (fun hb=>?_)<;>(try simp only[bX] at hb)<;>(first|exact absurd hb (by decide)|refine gq aM ?_)
   |refine ad.rM ?_;refine gq aM ?_
   |refine l6 rfl (by first|rfl ) ?_
   |refine cg aM (fun hb=>?_) fun hb=>?_
   |refine ag aM fun _ _=>?_
   |refine ad.aH ?_;refine gq aM ?_
   )
  all_goals first
   |exfalso;omega
   |(have e:F=0:=by (rw[hF,show B=false by assumption];rfl)
     rw[cR e] at hp;refine ad.aO (σ:=Int) _ [] ?_ ?_ cq<;>first|omega|exact⟨k+1,by omega,by omega,hp⟩)
   |(have e:F=10:=by (rw[hF,show B=true by assumption];rfl)
     rw[ju (by rw[e];decide)] at hp;rw[hp,e])
 rw[List.drop_eq_nil_of_le (by omega),bG,cR rfl] at hp
 repeat' (first
  |refine og aM (af.aw rfl hA ⟨ye,trivial⟩) ?_
  |refine og aM (af.aw rfl ZW ⟨Vq,trivial⟩) ?_
  |refine ad.int rfl (af.len rfl) fun m2 gH=>?_;rw[aE] at gH;refine gq aM ?_
  |refine cg aM (fun hb=>?_) fun hb=>?_
  |refine ad.aH ?_;refine gq aM ?_
  )
 all_goals first
  |exfalso;omega
  |skip
 rw[Dy] at hp;obtain⟨fK,hfK⟩:∃ f,f=ZR ⟨n,ke,re,g,b,v⟩:=⟨_,rfl⟩;rw[<-hfK,<-ZZ] at hp;have IQ:∀ x,fK x=dQ (AV.contains x) 17:=fun x=>by rw[hfK,ZR,<-ZX]
 refine ad.bu (σ:=Int) 3 3 [] (fun q=>[(22,aX ρ aP false AV),(201,aX ρ aP false GG),(202,.v (.int .i64 m2)),(203,.v (.int .i64 q))]) [] (fun _=>[]) (fun q=>∃ k:Nat,q=k/\k<=GG.length/\E=cH (bG fK (GG.drop k)) (0)) (fun q=>GG.length - q.toNat) 0 ⟨0,rfl,by simp,by simpa using hp⟩ rfl cq ?_;rintro q ⟨k,hi,hk,hp⟩;refine gq aM ?_;by_cases aA:k < GG.length
 ·obtain⟨x,hx,bK⟩:=bf aA;rw[bK,bG,fA] at hp;have uW:=List.mem_of_getElem? hx;have hC:=Ih (w0:=w0) (ρ:=ρ) AV x (by omega);obtain⟨B,hB⟩:∃ B,B=AV.contains x:=⟨_,rfl⟩;have hF:=IQ x;rw[<-hB] at hF hC;obtain⟨F,IP⟩:∃ F,F=fK x:=⟨_,rfl⟩;rw[<-IP] at hp hF;clear IP hB
  repeat' (first
   |refine og aM (af.ind rfl rfl (aY (l:=GG) hi hx) (aZ fun _=>rfl)) ?_
   |refine bg aM (af.aw rfl hC ⟨bp _,.v,trivial⟩) (fun _=>?_) fun _=>?_
   |refine ad.nX rfl rfl (fun hb=>?_) (fun hb=>?_)<;>(try simp only[bX] at hb)<;>(first|exact absurd hb (by decide)|refine gq aM ?_)
   |refine ad.rM ?_;refine gq aM ?_
   |refine Cj rfl (by conv=>lhs;cbv) ?_
   |refine l6 rfl (by first|rfl ) ?_
   |refine cg aM (fun hb=>?_) fun hb=>?_
   |refine ag aM fun _ _=>?_
   |refine ad.aH ?_;refine gq aM ?_
   )
  all_goals first
   |exfalso;omega
   |(have e:F=0:=by (rw[hF,show B=true by assumption];rfl)
     rw[cR e] at hp;refine ad.aO (σ:=Int) _ [] ?_ ?_ cq<;>first|omega|exact⟨k+1,by omega,by omega,hp⟩)
   |(have e:F=17:=by (rw[hF,show B=false by assumption];rfl)
     rw[ju (by rw[e];decide)] at hp;rw[hp,e])
 rw[List.drop_eq_nil_of_le (by omega),bG,cR rfl] at hp
 repeat' (first
  |refine Cj rfl (by conv=>lhs;cbv) ?_
  |refine cg aM (fun hb=>?_) fun hb=>?_
  |refine ad.aH ?_;refine gq aM ?_
  )
 all_goals first
  |exfalso;omega
  |skip
 all_goals exact hp
end
end
end Go.Proofs.YtbpabjmnhggajaaGreat
