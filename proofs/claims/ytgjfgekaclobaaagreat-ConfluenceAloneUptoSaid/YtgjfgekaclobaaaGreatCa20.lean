import Derived.Test.YtgjfgekaclobaaaGreatCa19
namespace Go.Proofs.YtgjfgekaclobaaaGreat
set_option linter.unusedVariables false
set_option linter.unusedSimpArgs false
open Go.RowKit
section
set_option maxRecDepth 100000
attribute [local irreducible] ah aK ae aa
def Ue:CF Tryz.f210:=⟨_,by conv=>lhs;cbv⟩
theorem EV:aT Tryz.prog 210 Ue.1 Tryz.f210.ntmps:=bX Tryz.func210 Ue.2 Tryz.call210
def iT:List Nat:=[4,0,24,2,6,1,22,25,46,67,77,93]
def Uf:CF Tryz.f153:=⟨_,by conv=>lhs;cbv⟩
theorem adn:aT Tryz.prog 153 Uf.1 Tryz.f153.ntmps:=bX Tryz.func153 Uf.2 Tryz.call153
def rR:List Nat:=[10,1,6,9,11,0,7,2,20]
mutual
def a6:Tm->Int->Int->Bool × Int
 |⟨k,i,n,a⟩,d,c=>if c - 1 < 0\/d < 1 then (false,c - 1) else if k=0 then (decide (-2147483648<=i) && decide (i<=2147483648) && tC n a,c - 1) else if k=1 then (decide (0<=i) && decide (i<=1048576) && tC n a,c - 1)
  else if k=2 then (if i ≠ 0\/(a.length:Int) > 6 then (false,c - 1) else if mJ n || (ju n && a.length == 2) then cw a (d - 1) (c - 1) else (false,c - 1)) else (false,c - 1)
def cw:List Tm->Int->Int->Bool × Int
 |[],d,c=>(true,c)
 |x::l,d,c=>if (a6 x d c).1 then cw l d (a6 x d c).2 else (false,(a6 x d c).2)
end
theorem mf {N:Nat}{l:List (Nat × Ob)}(h:l.all (fun p=>Nat.blt p.1 N)=true):∀ k o,dF l k=some o->k < N:=fun k o hk=>by
 have:=List.all_eq_true.1 h _ (eO hk)
 exact dC this
theorem ph {N d:Nat}{f:Nat->Option Ob}{a:Option Ob}(h:∀ k o,f k=some o->k < N) (hd:Nat.blt d N=true):∀ k o,a8 f d a k=some o->k < N:=fun k o hk=>by
 by_cases e:k=d
 ·subst e;exact dC hd
 ·rw [aC _ _ e] at hk;exact h k o hk
def fF (c:Int):Ob:=.arr 1 [[iv c]] 0 true
theorem iE (c:Int):∀ row ∈ [[iv c]],∀ a ∈ row,Pure a:=fun row hr a ha=>by
 obtain rfl:=List.mem_singleton.1 hr
 obtain rfl:=List.mem_singleton.1 ha
 exact .v
theorem jD {B:Nat}(c:Int):fV B (fF c):=pf (row:=[iv c]) (by intro a ha;obtain rfl:=List.mem_singleton.1 ha;exact .v)
section
variable {w0:World}{ρ:Hd}
theorem ud {a:List Tm}(d:Int) (ih:∀ x ∈ a,∀ c,0<=c->c<=200->(0<=(a6 x d c).2\/(a6 x d c).1=false)/\(a6 x d c).2<=c/\aK Tryz.prog w0 210 [.pt 0 1 0 0,tm ρ x,iv d] (au [(0,fF c)] 1) (.v (.bool (a6 x d c).1)) (au [(0,fF (a6 x d c).2)] 1))
  (hl:a.length<=1099511627776) (c:Int) (hc:0<=c) (dv:c<=200) :
  aK Tryz.prog w0 153 [.pt 0 1 0 0,tl ρ a,iv d] (au [(0,fF c)] 1) (.v (.bool (cw a d c).1)) (au [(0,fF (cw a d c).2)] 1):=by
 obtain⟨R,hR⟩:∃ R,R=cw a d c:=⟨_,rfl⟩
 rw [<-hR]
 refine aT.fM 1 1 _ adn (by simp [Tryz.ntmps153]) rfl rfl ?_
 refine gq rR ?_
 repeat' (first
  |(refine bL fun m hm=>?_;(try rw [aF] at hm);refine gq rR ?_)
  )
 refine aa.bP (σ:=Int × Int) 1 1 [] (fun p=>[(0,.pt 0 1 0 0),(1,tl ρ a),(2,iv d),(9,.v (.int .i64 m)),(10,.v (.int .i64 p.1))]) [] (fun p=>[(0,fF p.2)])
  (fun p=>∃ k:Nat,p.1=k/\k<=a.length/\0<=p.2/\p.2<=200/\R=cw (a.drop k) d p.2) (fun p=>a.length - p.1.toNat) (0,c) ⟨0,rfl,by simp,hc,dv,hR⟩ rfl
  ⟨⟨.aB rfl (.pt (by decide)),.aB rfl (Pure.b9 (bl _)),.aB rfl .v,.aB rfl .v,.aB rfl .v,trivial⟩,rfl,⟨.inl ⟨_,rfl,.same (jD _)⟩,trivial⟩,rfl,rfl,rfl⟩ ?_
 rintro⟨i,c⟩ ⟨k,hi,hk,h0,h1,hp⟩
 simp only at hi h0 h1 hp
 refine gq rR ?_
 by_cases aA:k < a.length
 ·obtain⟨y,hy,tZ⟩:=cd aA
  rw [tZ,cw] at hp
  obtain⟨e1,e2,bC⟩:=ih y (g8 hy) c h0 h1
  obtain⟨⟨b,c1⟩,mU⟩:∃ p,p=a6 y d c:=⟨_,rfl⟩
  rw [<-mU] at e1 e2 bC hp
  simp only at e1 e2 bC hp
  repeat' (first
   |(refine aa.op rfl (ae.ind rfl rfl (lj (l:=a) hi hy) ll) ?_;refine gq rR ?_)
   |((refine aa.bif rfl (ae.ou (m:=[(0,0)]) (to:=[(0,some (fF c1))]) bC rfl ⟨Rn.pt rfl rfl,Rn.pure (cK _),Rn.pure .v,trivial⟩ (Rb.pure .v) rfl rfl ⟨⟨_,rfl,jY.pure (iE _)⟩,trivial⟩ ⟨⟨0,_,rfl,rfl,kE.pure (iE _)⟩,trivial⟩ rfl (mf rfl) (.inr rfl)) (fun hb=>?_) (fun hb=>?_)<;>refine gq rR ?_))
   |(refine bq (fun hb=>?_) (fun hb=>?_)<;>(try simp only [aM] at hb)<;>(first|refine gq rR ?_))
   |(refine cr fun _ _=>?_;refine gq rR ?_)
   |(refine aa.aR ?_;refine gq rR ?_)
   |(refine aa.iB ?_;refine gq rR ?_)
   |(refine fq ?_))
  all_goals first
   |(have e:R=(false,c1):=by rw [hp,hb];rfl
     rw [e]
     exact⟨[],.aB .v,⟨.inl ⟨_,rfl,.same (jD _)⟩,trivial⟩,rfl⟩)
   |(have e:R=cw (a.drop (k+1)) d c1:=by rw [hp,if_pos hb]
     have e3:0<=c1:=e1.resolve_right (by rw [hb];simp)
     refine aa.bm (σ:=Int × Int) (_,c1) [] ?_ ?_ ⟨⟨.aB rfl (.pt (by decide)),.aB rfl (Pure.b9 (bl _)),.aB rfl .v,.aB rfl .v,.aB rfl .v,trivial⟩,rfl,⟨.inl ⟨_,rfl,.same (jD _)⟩,trivial⟩,rfl,rfl,rfl⟩
     ·exact⟨k+1,by simp only;omega,by omega,e3,by simp only;omega,e⟩
     ·simp only;omega)
   |(exfalso;omega)
 ·skip
  repeat' (first
   |(refine bq (fun hb=>?_) (fun hb=>?_)<;>(try simp only [aM] at hb)<;>(first|refine gq rR ?_))
   |(refine aa.aR ?_;refine gq rR ?_)
   |(refine fq ?_))
  all_goals first
   |(exfalso;omega)
   |(rw [List.drop_eq_nil_of_le (by omega),cw] at hp
     rw [hp]
     exact⟨[],.aB .v,⟨.inl ⟨_,rfl,.same (jD _)⟩,trivial⟩,rfl⟩)
theorem Bq:∀ (l:List Tm) (d:Int) (h:∀ x ∈ l,∀ c,0<=c->(0<=(a6 x d c).2\/(a6 x d c).1=false)/\(a6 x d c).2<=c) (c:Int),0<=c->(0<=(cw l d c).2\/(cw l d c).1=false)/\(cw l d c).2<=c
 |[],d,h,c,hc=>by rw [cw];exact⟨.inl hc,Int.le_refl _⟩
 |x::l,d,h,c,hc=>by
  obtain⟨h1,h2⟩:=h x (by simp) c hc
  rw [cw]
  split
  ·rename_i hv
   have h3:=h1.resolve_right (by rw [hv];simp)
   obtain⟨h4,h5⟩:=Bq l d (fun y hy=>h y (by simp [hy])) _ h3
   exact⟨h4,by omega⟩
  ·exact⟨.inr rfl,h2⟩
theorem fY (x:Tm):∀ (d c:Int),0<=c->(0<=(a6 x d c).2\/(a6 x d c).1=false)/\(a6 x d c).2<=c:=by
 refine Tm.ind (p:=fun x=>∀ (d c:Int),0<=c->(0<=(a6 x d c).2\/(a6 x d c).1=false)/\(a6 x d c).2<=c) ?_ x
 intro k i n a ih d c hc
 rw [a6]
 have hs:=Bq a (d - 1) (fun y hy c hc=>ih y hy (d - 1) c hc) (c - 1)
 (repeat' split)<;>first
  |exact⟨.inr rfl,by show c - 1<=c;omega⟩
  |exact⟨.inl (by show 0<=c - 1;omega),by show c - 1<=c;omega⟩
  |(obtain⟨h1,h2⟩:=hs (by omega);exact⟨h1,by omega⟩)
theorem X0 (nX:∀ s:ByteArray,ah Tryz.prog w0 280 [.v (.string s)] (.v (.bool (ju s)))) (k i:Int) (n:ByteArray) (a:List Tm) (ih:∀ x ∈ a,∀ (d c:Int),x.ok->0<=c->c<=200->-1000<=d->d<=1000->aK Tryz.prog w0 210 [.pt 0 1 0 0,tm ρ x,iv d] (au [(0,fF c)] 1) (.v (.bool (a6 x d c).1)) (au [(0,fF (a6 x d c).2)] 1))
  (d c:Int) (hx:(Tm.mk k i n a).ok) (hc:0<=c) (dv:c<=200) (eu:-1000<=d) (gK:d<=1000) (hk:k=0):aK Tryz.prog w0 210 [.pt 0 1 0 0,tm ρ ⟨k,i,n,a⟩,iv d] (au [(0,fF c)] 1) (.v (.bool (a6 ⟨k,i,n,a⟩ d c).1)) (au [(0,fF (a6 ⟨k,i,n,a⟩ d c).2)] 1):=by
 subst hk
 obtain⟨iK,kD,nY⟩:=hx.out
 dsimp only at iK kD nY
 have hE:a.isEmpty=decide ((a.length:Int)=0):=by
  cases a with
  |nil=>rfl
  |cons x l=>simp;omega
 have hL:(a.length == 2)=decide ((a.length:Int)=2):=by rw [Bool.eq_iff_iff];simp;omega
 obtain⟨R,hR⟩:∃ R,R=a6 ⟨0,i,n,a⟩ d c:=⟨_,rfl⟩
 rw [<-hR]
 rw [a6,tC,hE,hL] at hR
 have hA:∀ dd,dd=d - 1->0<=c - 1->1<=d->aK Tryz.prog w0 153 [.pt 0 1 0 0,tl ρ a,iv dd] (au [(0,fF (c - 1))] 1) (.v (.bool (cw a (d - 1) (c - 1)).1)) (au [(0,fF (cw a (d - 1) (c - 1)).2)] 1):=fun dd FU h1 h2=>by
  subst FU
  exact ud (d - 1) (fun y hy c' h0 h1=>⟨(fY y _ _ h0).1,(fY y _ _ h0).2,ih y hy _ _ (nY.mem y hy) h0 h1 (by omega) (by omega)⟩) iK (c - 1) h1 (by omega)
 obtain⟨⟨b1,c1⟩,mU⟩:∃ p,p=cw a (d - 1) (c - 1):=⟨_,rfl⟩
 rw [<-mU] at hA hR
 simp only at hA
 obtain⟨ce,xg⟩:∃ ce,ce=c - 1:=⟨_,rfl⟩
 rw [<-xg] at hA hR
 clear ih mU
 refine aT.fM 1 1 _ EV (by simp [Tryz.ntmps210]) rfl rfl ?_
 refine gq iT ?_
 refine aa.int rfl (ae.AY (c:=c - 1) rfl rfl rfl (by omega) (by omega)) fun e he=>?_
 rw [<-xg] at he
 subst he
 refine gq iT ?_
 repeat' (first
  |(refine bq (fun hb=>?_) (fun hb=>?_)<;>(try simp only [aM] at hb)<;>(first|exact absurd hb (by decide)|refine gq iT ?_))
  |(refine bL fun m hm=>?_;(try rw [aF] at hm);refine gq iT ?_)
  |(refine fq ?_))
 all_goals (clear nX hA hx iK kD nY hE hL)
 all_goals first
  |(have e':R=(false,e):=by
      rw [hR]
      first
       |rw [if_pos (by omega)]
       |(rw [if_neg (by omega),if_pos rfl];refine Prod.ext ?_ rfl;simp_all<;>(intros;omega))
    rw [e']
    exact⟨[],.aB .v,⟨.inl ⟨_,rfl,.same (jD _)⟩,trivial⟩,rfl⟩)
  |(have e':R=(true,e):=by
      rw [hR,if_neg (by omega),if_pos rfl]
      refine Prod.ext ?_ rfl
      simp_all<;>(intros;omega)
    rw [e']
    exact⟨[],.aB .v,⟨.inl ⟨_,rfl,.same (jD _)⟩,trivial⟩,rfl⟩)
theorem X1 (nX:∀ s:ByteArray,ah Tryz.prog w0 280 [.v (.string s)] (.v (.bool (ju s)))) (k i:Int) (n:ByteArray) (a:List Tm) (ih:∀ x ∈ a,∀ (d c:Int),x.ok->0<=c->c<=200->-1000<=d->d<=1000->aK Tryz.prog w0 210 [.pt 0 1 0 0,tm ρ x,iv d] (au [(0,fF c)] 1) (.v (.bool (a6 x d c).1)) (au [(0,fF (a6 x d c).2)] 1))
  (d c:Int) (hx:(Tm.mk k i n a).ok) (hc:0<=c) (dv:c<=200) (eu:-1000<=d) (gK:d<=1000) (hk:k=1):aK Tryz.prog w0 210 [.pt 0 1 0 0,tm ρ ⟨k,i,n,a⟩,iv d] (au [(0,fF c)] 1) (.v (.bool (a6 ⟨k,i,n,a⟩ d c).1)) (au [(0,fF (a6 ⟨k,i,n,a⟩ d c).2)] 1):=by
 subst hk
 obtain⟨iK,kD,nY⟩:=hx.out
 dsimp only at iK kD nY
 have hE:a.isEmpty=decide ((a.length:Int)=0):=by
  cases a with
  |nil=>rfl
  |cons x l=>simp;omega
 have hL:(a.length == 2)=decide ((a.length:Int)=2):=by rw [Bool.eq_iff_iff];simp;omega
 obtain⟨R,hR⟩:∃ R,R=a6 ⟨1,i,n,a⟩ d c:=⟨_,rfl⟩
 rw [<-hR]
 rw [a6,tC,hE,hL] at hR
 have hA:∀ dd,dd=d - 1->0<=c - 1->1<=d->aK Tryz.prog w0 153 [.pt 0 1 0 0,tl ρ a,iv dd] (au [(0,fF (c - 1))] 1) (.v (.bool (cw a (d - 1) (c - 1)).1)) (au [(0,fF (cw a (d - 1) (c - 1)).2)] 1):=fun dd FU h1 h2=>by
  subst FU
  exact ud (d - 1) (fun y hy c' h0 h1=>⟨(fY y _ _ h0).1,(fY y _ _ h0).2,ih y hy _ _ (nY.mem y hy) h0 h1 (by omega) (by omega)⟩) iK (c - 1) h1 (by omega)
 obtain⟨⟨b1,c1⟩,mU⟩:∃ p,p=cw a (d - 1) (c - 1):=⟨_,rfl⟩
 rw [<-mU] at hA hR
 simp only at hA
 obtain⟨ce,xg⟩:∃ ce,ce=c - 1:=⟨_,rfl⟩
 rw [<-xg] at hA hR
 clear ih mU
 refine aT.fM 1 1 _ EV (by simp [Tryz.ntmps210]) rfl rfl ?_
 refine gq iT ?_
 refine aa.int rfl (ae.AY (c:=c - 1) rfl rfl rfl (by omega) (by omega)) fun e he=>?_
 rw [<-xg] at he
 subst he
 refine gq iT ?_
 repeat' (first
  |(refine bq (fun hb=>?_) (fun hb=>?_)<;>(try simp only [aM] at hb)<;>(first|exact absurd hb (by decide)|refine gq iT ?_))
  |(refine bL fun m hm=>?_;(try rw [aF] at hm);refine gq iT ?_)
  |(refine fq ?_))
 all_goals (clear nX hA hx iK kD nY hE hL)
 all_goals first
  |(have e':R=(false,e):=by
      rw [hR]
      first
       |rw [if_pos (by omega)]
       |(rw [if_neg (by omega),if_neg (by decide),if_pos rfl];refine Prod.ext ?_ rfl;simp_all<;>(intros;omega))
    rw [e']
    exact⟨[],.aB .v,⟨.inl ⟨_,rfl,.same (jD _)⟩,trivial⟩,rfl⟩)
  |(have e':R=(true,e):=by
      rw [hR,if_neg (by omega),if_neg (by decide),if_pos rfl]
      refine Prod.ext ?_ rfl
      simp_all<;>(intros;omega)
    rw [e']
    exact⟨[],.aB .v,⟨.inl ⟨_,rfl,.same (jD _)⟩,trivial⟩,rfl⟩)
theorem X2 (nX:∀ s:ByteArray,ah Tryz.prog w0 280 [.v (.string s)] (.v (.bool (ju s)))) (k i:Int) (n:ByteArray) (a:List Tm) (ih:∀ x ∈ a,∀ (d c:Int),x.ok->0<=c->c<=200->-1000<=d->d<=1000->aK Tryz.prog w0 210 [.pt 0 1 0 0,tm ρ x,iv d] (au [(0,fF c)] 1) (.v (.bool (a6 x d c).1)) (au [(0,fF (a6 x d c).2)] 1))
  (d c:Int) (hx:(Tm.mk k i n a).ok) (hc:0<=c) (dv:c<=200) (eu:-1000<=d) (gK:d<=1000) (hk:k=2):aK Tryz.prog w0 210 [.pt 0 1 0 0,tm ρ ⟨k,i,n,a⟩,iv d] (au [(0,fF c)] 1) (.v (.bool (a6 ⟨k,i,n,a⟩ d c).1)) (au [(0,fF (a6 ⟨k,i,n,a⟩ d c).2)] 1):=by
 subst hk
 obtain⟨iK,kD,nY⟩:=hx.out
 dsimp only at iK kD nY
 have hE:a.isEmpty=decide ((a.length:Int)=0):=by
  cases a with
  |nil=>rfl
  |cons x l=>simp;omega
 have hL:(a.length == 2)=decide ((a.length:Int)=2):=by rw [Bool.eq_iff_iff];simp;omega
 obtain⟨R,hR⟩:∃ R,R=a6 ⟨2,i,n,a⟩ d c:=⟨_,rfl⟩
 rw [<-hR]
 rw [a6,tC,hE,hL] at hR
 have hA:∀ dd,dd=d - 1->0<=c - 1->1<=d->aK Tryz.prog w0 153 [.pt 0 1 0 0,tl ρ a,iv dd] (au [(0,fF (c - 1))] 1) (.v (.bool (cw a (d - 1) (c - 1)).1)) (au [(0,fF (cw a (d - 1) (c - 1)).2)] 1):=fun dd FU h1 h2=>by
  subst FU
  exact ud (d - 1) (fun y hy c' h0 h1=>⟨(fY y _ _ h0).1,(fY y _ _ h0).2,ih y hy _ _ (nY.mem y hy) h0 h1 (by omega) (by omega)⟩) iK (c - 1) h1 (by omega)
 obtain⟨⟨b1,c1⟩,mU⟩:∃ p,p=cw a (d - 1) (c - 1):=⟨_,rfl⟩
 rw [<-mU] at hA hR
 simp only at hA
 obtain⟨ce,xg⟩:∃ ce,ce=c - 1:=⟨_,rfl⟩
 rw [<-xg] at hA hR
 clear ih mU
 refine aT.fM 1 1 _ EV (by simp [Tryz.ntmps210]) rfl rfl ?_
 refine gq iT ?_
 refine aa.int rfl (ae.AY (c:=c - 1) rfl rfl rfl (by omega) (by omega)) fun e he=>?_
 rw [<-xg] at he
 subst he
 refine gq iT ?_
 repeat' (first
  |(refine aa.bif rfl (ae.aL rfl (tY _ kD) ⟨.v,trivial⟩) (fun _=>?_) (fun _=>?_)<;>refine gq iT ?_)
  |(refine aa.bif rfl (ae.aL rfl (nX _) ⟨.v,trivial⟩) (fun _=>?_) (fun _=>?_)<;>refine gq iT ?_)
  |((refine aa.bif rfl (ae.ou (m:=[(0,0)]) (to:=[(0,some (fF c1))]) (hA _ (by assumption) (by omega) (by omega)) rfl ⟨Rn.pt rfl rfl,Rn.pure (bl _),Rn.pure .v,trivial⟩ (Rb.pure .v) rfl rfl ⟨⟨_,rfl,jY.pure (iE _)⟩,trivial⟩ ⟨⟨0,_,rfl,rfl,kE.pure (iE _)⟩,trivial⟩ rfl (by repeat (first|exact mf rfl|refine ph ?_ rfl)) (.inr rfl)) (fun hb=>?_) (fun hb=>?_)<;>refine gq iT ?_))
  |(refine bq (fun hb=>?_) (fun hb=>?_)<;>(try simp only [aM] at hb)<;>(first|exact absurd hb (by decide)|refine gq iT ?_))
  |(refine bL fun m hm=>?_;(try rw [aF] at hm);refine gq iT ?_)
  |(refine cr fun _ _=>?_;refine gq iT ?_)
  |(refine fq ?_))
 all_goals (clear nX hA hx iK kD nY hE hL)
 all_goals rw [if_neg (by decide:¬ (2:Int)=0),if_neg (by decide:¬ (2:Int)=1),if_pos rfl] at hR
 all_goals first
  |(have e':R=(false,e):=by
      rw [hR]
      first
       |rw [if_pos (by omega)]
       |rw [if_neg (by omega),if_pos (by omega)]
       |(rw [if_neg (by omega),if_neg (by omega),if_neg (by clear hR;simp_all)])
    rw [e']
    exact⟨[],.aB .v,⟨.inl ⟨_,rfl,.same (jD _)⟩,trivial⟩,rfl⟩)
  |(have e':R=(true,c1):=by
      rw [hR,if_neg (by omega),if_neg (by omega),if_pos (by clear hR;simp_all),hb]
    rw [e']
    exact⟨[],.aB .v,⟨.inl ⟨_,rfl,.same (jD _)⟩,trivial⟩,rfl⟩)
  |(have e':R=(false,c1):=by
      rw [hR,if_neg (by omega),if_neg (by omega),if_pos (by clear hR;simp_all),hb]
    rw [e']
    exact⟨[],.aB .v,⟨.inl ⟨_,rfl,.same (jD _)⟩,trivial⟩,rfl⟩)
theorem X3 (nX:∀ s:ByteArray,ah Tryz.prog w0 280 [.v (.string s)] (.v (.bool (ju s)))) (k i:Int) (n:ByteArray) (a:List Tm) (ih:∀ x ∈ a,∀ (d c:Int),x.ok->0<=c->c<=200->-1000<=d->d<=1000->aK Tryz.prog w0 210 [.pt 0 1 0 0,tm ρ x,iv d] (au [(0,fF c)] 1) (.v (.bool (a6 x d c).1)) (au [(0,fF (a6 x d c).2)] 1))
  (d c:Int) (hx:(Tm.mk k i n a).ok) (hc:0<=c) (dv:c<=200) (eu:-1000<=d) (gK:d<=1000) (hk:¬ k=0/\¬ k=1/\¬ k=2):aK Tryz.prog w0 210 [.pt 0 1 0 0,tm ρ ⟨k,i,n,a⟩,iv d] (au [(0,fF c)] 1) (.v (.bool (a6 ⟨k,i,n,a⟩ d c).1)) (au [(0,fF (a6 ⟨k,i,n,a⟩ d c).2)] 1):=by
 obtain⟨hk0,dN,eh⟩:=hk
 obtain⟨iK,kD,nY⟩:=hx.out
 dsimp only at iK kD nY
 have hE:a.isEmpty=decide ((a.length:Int)=0):=by
  cases a with
  |nil=>rfl
  |cons x l=>simp;omega
 have hL:(a.length == 2)=decide ((a.length:Int)=2):=by rw [Bool.eq_iff_iff];simp;omega
 obtain⟨R,hR⟩:∃ R,R=a6 ⟨k,i,n,a⟩ d c:=⟨_,rfl⟩
 rw [<-hR]
 rw [a6,tC,hE,hL] at hR
 have hA:∀ dd,dd=d - 1->0<=c - 1->1<=d->aK Tryz.prog w0 153 [.pt 0 1 0 0,tl ρ a,iv dd] (au [(0,fF (c - 1))] 1) (.v (.bool (cw a (d - 1) (c - 1)).1)) (au [(0,fF (cw a (d - 1) (c - 1)).2)] 1):=fun dd FU h1 h2=>by
  subst FU
  exact ud (d - 1) (fun y hy c' h0 h1=>⟨(fY y _ _ h0).1,(fY y _ _ h0).2,ih y hy _ _ (nY.mem y hy) h0 h1 (by omega) (by omega)⟩) iK (c - 1) h1 (by omega)
 obtain⟨⟨b1,c1⟩,mU⟩:∃ p,p=cw a (d - 1) (c - 1):=⟨_,rfl⟩
 rw [<-mU] at hA hR
 simp only at hA
 obtain⟨ce,xg⟩:∃ ce,ce=c - 1:=⟨_,rfl⟩
 rw [<-xg] at hA hR
 clear ih mU
 refine aT.fM 1 1 _ EV (by simp [Tryz.ntmps210]) rfl rfl ?_
 refine gq iT ?_
 refine aa.int rfl (ae.AY (c:=c - 1) rfl rfl rfl (by omega) (by omega)) fun e he=>?_
 rw [<-xg] at he
 subst he
 refine gq iT ?_
 repeat' (first
  |(refine aa.bif rfl (ae.aL rfl (tY _ kD) ⟨.v,trivial⟩) (fun _=>?_) (fun _=>?_)<;>refine gq iT ?_)
  |(refine aa.bif rfl (ae.aL rfl (nX _) ⟨.v,trivial⟩) (fun _=>?_) (fun _=>?_)<;>refine gq iT ?_)
  |((refine aa.bif rfl (ae.ou (m:=[(0,0)]) (to:=[(0,some (fF c1))]) (hA _ (by assumption) (by omega) (by omega)) rfl ⟨Rn.pt rfl rfl,Rn.pure (bl _),Rn.pure .v,trivial⟩ (Rb.pure .v) rfl rfl ⟨⟨_,rfl,jY.pure (iE _)⟩,trivial⟩ ⟨⟨0,_,rfl,rfl,kE.pure (iE _)⟩,trivial⟩ rfl (by repeat (first|exact mf rfl|refine ph ?_ rfl)) (.inr rfl)) (fun hb=>?_) (fun hb=>?_)<;>refine gq iT ?_))
  |(refine bq (fun hb=>?_) (fun hb=>?_)<;>(try simp only [aM] at hb)<;>(first|refine gq iT ?_))
  |(refine bL fun m hm=>?_;(try rw [aF] at hm);refine gq iT ?_)
  |(refine cr fun _ _=>?_;refine gq iT ?_)
  |(refine fq ?_))
 all_goals (clear nX hA hx iK kD nY hE hL)
 all_goals first
  |(exfalso;omega)
  |(have e':R=(false,e):=by
      rw [hR,if_neg hk0,if_neg dN,if_neg eh,ite_self]
    rw [e']
    exact⟨[],.aB .v,⟨.inl ⟨_,rfl,.same (jD _)⟩,trivial⟩,rfl⟩)
theorem CJ (nX:∀ s:ByteArray,ah Tryz.prog w0 280 [.v (.string s)] (.v (.bool (ju s)))) (x:Tm):∀ (d c:Int),x.ok->0<=c->c<=200->-1000<=d->d<=1000 ->
  aK Tryz.prog w0 210 [.pt 0 1 0 0,tm ρ x,iv d] (au [(0,fF c)] 1) (.v (.bool (a6 x d c).1)) (au [(0,fF (a6 x d c).2)] 1):=by
 refine Tm.ind (p:=fun x=>∀ (d c:Int),x.ok->0<=c->c<=200->-1000<=d->d<=1000 ->
  aK Tryz.prog w0 210 [.pt 0 1 0 0,tm ρ x,iv d] (au [(0,fF c)] 1) (.v (.bool (a6 x d c).1)) (au [(0,fF (a6 x d c).2)] 1)) ?_ x
 intro k i n a ih d c hx hc dv eu gK
 by_cases h0:k=0
 ·exact X0 nX k i n a ih d c hx hc dv eu gK h0
 by_cases h1:k=1
 ·exact X1 nX k i n a ih d c hx hc dv eu gK h1
 by_cases h2:k=2
 ·exact X2 nX k i n a ih d c hx hc dv eu gK h2
 ·exact X3 nX k i n a ih d c hx hc dv eu gK ⟨h0,h1,h2⟩
end
end
end Go.Proofs.YtgjfgekaclobaaaGreat
