import Derived.Test.YtgphljokbodciaaGreatS15
namespace Go.Proofs.YtgphljokbodciaaGreat
set_option linter.unusedVariables false
set_option linter.unusedSimpArgs false
open Go.RowKit
section
set_option maxRecDepth 100000
attribute [local irreducible] ah aV ad ab
def PU:CF Tryz.f352:=⟨_,by conv=>lhs;cbv⟩
theorem Cl:aD Tryz.prog 352 PU.1 Tryz.f352.ntmps:=aO Tryz.func352 PU.2 Tryz.call352
def h_:List Nat:=[4,0,24,2,6,1,22,25,46,67,77,93]
def PV:CF Tryz.f325:=⟨_,by conv=>lhs;cbv⟩
theorem ZJ:aD Tryz.prog 325 PV.1 Tryz.f325.ntmps:=aO Tryz.func325 PV.2 Tryz.call325
def qM:List Nat:=[10,1,6,9,11,0,7,2,20]
mutual
def bu:Tm->Int->Int->Bool × Int
 |⟨k,i,n,a⟩,d,c=>if c - 1 < 0\/d < 1 then (false,c - 1) else if k=0 then (decide (-2147483648<=i) && decide (i<=2147483648) && sP n a,c - 1) else if k=1 then (decide (0<=i) && decide (i<=1048576) && sP n a,c - 1)
  else if k=2 then (if i ≠ 0\/(a.length:Int) > 6 then (false,c - 1) else if gJ n || (gL n && a.length == 2) then cz a (d - 1) (c - 1) else (false,c - 1)) else (false,c - 1)
def cz:List Tm->Int->Int->Bool × Int
 |[],d,c=>(true,c)
 |x::l,d,c=>if (bu x d c).1 then cz l d (bu x d c).2 else (false,(bu x d c).2)
end
theorem f_ {N:Nat}{l:List (Nat × Ob)}(h:l.all (fun p=>Nat.blt p.1 N)=true):∀ k o,iS l k=some o->k < N:=fun k o hk=>by
 have:=List.all_eq_true.1 h _ (jq hk)
 exact dZ this
theorem m4 {N d:Nat}{f:Nat->Option Ob}{a:Option Ob}(h:∀ k o,f k=some o->k < N) (hd:Nat.blt d N=true):∀ k o,bP f d a k=some o->k < N:=fun k o hk=>by
 by_cases e:k=d
 ·subst e;exact dZ hd
 ·rw [aN _ _ e] at hk;exact h k o hk
def eV (c:Int):Ob:=.arr 1 [[iv c]] 0 true
theorem gR (c:Int):∀ row ∈ [[iv c]],∀ a ∈ row,Pure a:=fun row hr a ha=>by
 obtain rfl:=List.mem_singleton.1 hr
 obtain rfl:=List.mem_singleton.1 ha
 exact .v
theorem jk {B:Nat}(c:Int):jF B (eV c):=Ae (row:=[iv c]) (by intro a ha;obtain rfl:=List.mem_singleton.1 ha;exact .v)
section
variable {w0:World}{ρ:Hd}
theorem s7 {a:List Tm}(d:Int) (ih:∀ x ∈ a,∀ c,0<=c->c<=200->(0<=(bu x d c).2\/(bu x d c).1=false)/\(bu x d c).2<=c/\aV Tryz.prog w0 352 [.pt 0 1 0 0,tm ρ x,iv d] (aE [(0,eV c)] 1) (.v (.bool (bu x d c).1)) (aE [(0,eV (bu x d c).2)] 1))
  (hl:a.length<=1099511627776) (c:Int) (hc:0<=c) (gK:c<=200) :
  aV Tryz.prog w0 325 [.pt 0 1 0 0,tl ρ a,iv d] (aE [(0,eV c)] 1) (.v (.bool (cz a d c).1)) (aE [(0,eV (cz a d c).2)] 1):=by
 obtain⟨R,hR⟩:∃ R,R=cz a d c:=⟨_,rfl⟩
 rw [<-hR]
 refine aD.dw 1 1 _ ZJ (by simp [Tryz.ntmps325]) rfl rfl ?_
 refine gq qM ?_
 repeat' (first
  |(refine az fun m hm=>?_;(try rw [af] at hm);refine gq qM ?_)
  )
 refine ab.aP (σ:=Int × Int) 1 1 [] (fun p=>[(0,.pt 0 1 0 0),(1,tl ρ a),(2,iv d),(9,.v (.int .i64 m)),(10,.v (.int .i64 p.1))]) [] (fun p=>[(0,eV p.2)])
  (fun p=>∃ k:Nat,p.1=k/\k<=a.length/\0<=p.2/\p.2<=200/\R=cz (a.drop k) d p.2) (fun p=>a.length - p.1.toNat) (0,c) ⟨0,rfl,by simp,hc,gK,hR⟩ rfl
  ⟨⟨.aC rfl (.pt (by decide)),.aC rfl (Pure.bM (bB _)),.aC rfl .v,.aC rfl .v,.aC rfl .v,trivial⟩,rfl,⟨.inl ⟨_,rfl,.same (jk _)⟩,trivial⟩,rfl,rfl,rfl⟩ ?_
 rintro⟨i,c⟩ ⟨k,hi,hk,h0,h1,hp⟩
 simp only at hi h0 h1 hp
 refine gq qM ?_
 by_cases au:k < a.length
 ·obtain⟨y,hy,cT⟩:=aA au
  rw [cT,cz] at hp
  obtain⟨e1,e2,bL⟩:=ih y (aZ hy) c h0 h1
  obtain⟨⟨b,c1⟩,lY⟩:∃ p,p=bu y d c:=⟨_,rfl⟩
  rw [<-lY] at e1 e2 bL hp
  simp only at e1 e2 bL hp
  repeat' (first
   |(refine ab.op rfl (ad.ind rfl rfl (fL (l:=a) hi hy) fM) ?_;refine gq qM ?_)
   |((refine ab.bif rfl (ad.jJ (m:=[(0,0)]) (to:=[(0,some (eV c1))]) bL rfl ⟨Rn.pt rfl rfl,Rn.pure (bf _),Rn.pure .v,trivial⟩ (Rb.pure .v) rfl rfl ⟨⟨_,rfl,kF.pure (gR _)⟩,trivial⟩ ⟨⟨0,_,rfl,rfl,kY.pure (gR _)⟩,trivial⟩ rfl (f_ rfl) (.inr rfl)) (fun hb=>?_) (fun hb=>?_)<;>refine gq qM ?_))
   |(refine bq (fun hb=>?_) (fun hb=>?_)<;>(try simp only [aq] at hb)<;>(first|refine gq qM ?_))
   |(refine aS fun _ _=>?_;refine gq qM ?_)
   |(refine ab.ao ?_;refine gq qM ?_)
   |(refine ab.bK ?_;refine gq qM ?_)
   |(refine fq ?_))
  all_goals first
   |(have e:R=(false,c1):=by rw [hp,hb];rfl
     rw [e]
     exact⟨[],.aC .v,⟨.inl ⟨_,rfl,.same (jk _)⟩,trivial⟩,rfl⟩)
   |(have e:R=cz (a.drop (k+1)) d c1:=by rw [hp,if_pos hb]
     have e3:0<=c1:=e1.resolve_right (by rw [hb];simp)
     refine ab.aK (σ:=Int × Int) (_,c1) [] ?_ ?_ ⟨⟨.aC rfl (.pt (by decide)),.aC rfl (Pure.bM (bB _)),.aC rfl .v,.aC rfl .v,.aC rfl .v,trivial⟩,rfl,⟨.inl ⟨_,rfl,.same (jk _)⟩,trivial⟩,rfl,rfl,rfl⟩
     ·exact⟨k+1,by simp only;omega,by omega,e3,by simp only;omega,e⟩
     ·simp only;omega)
   |(exfalso;omega)
 ·skip
  repeat' (first
   |(refine bq (fun hb=>?_) (fun hb=>?_)<;>(try simp only [aq] at hb)<;>(first|refine gq qM ?_))
   |(refine ab.ao ?_;refine gq qM ?_)
   |(refine fq ?_))
  all_goals first
   |(exfalso;omega)
   |(rw [List.drop_eq_nil_of_le (by omega),cz] at hp
     rw [hp]
     exact⟨[],.aC .v,⟨.inl ⟨_,rfl,.same (jk _)⟩,trivial⟩,rfl⟩)
theorem yM:∀ (l:List Tm) (d:Int) (h:∀ x ∈ l,∀ c,0<=c->(0<=(bu x d c).2\/(bu x d c).1=false)/\(bu x d c).2<=c) (c:Int),0<=c->(0<=(cz l d c).2\/(cz l d c).1=false)/\(cz l d c).2<=c
 |[],d,h,c,hc=>by rw [cz];exact⟨.inl hc,Int.le_refl _⟩
 |x::l,d,h,c,hc=>by
  obtain⟨h1,h2⟩:=h x (by simp) c hc
  rw [cz]
  split
  ·rename_i hv
   have h3:=h1.resolve_right (by rw [hv];simp)
   obtain⟨h4,h5⟩:=yM l d (fun y hy=>h y (by simp [hy])) _ h3
   exact⟨h4,by omega⟩
  ·exact⟨.inr rfl,h2⟩
theorem fu (x:Tm):∀ (d c:Int),0<=c->(0<=(bu x d c).2\/(bu x d c).1=false)/\(bu x d c).2<=c:=by
 refine Tm.ind (p:=fun x=>∀ (d c:Int),0<=c->(0<=(bu x d c).2\/(bu x d c).1=false)/\(bu x d c).2<=c) ?_ x
 intro k i n a ih d c hc
 rw [bu]
 have hs:=yM a (d - 1) (fun y hy c hc=>ih y hy (d - 1) c hc) (c - 1)
 (repeat' split)<;>first
  |exact⟨.inr rfl,by show c - 1<=c;omega⟩
  |exact⟨.inl (by show 0<=c - 1;omega),by show c - 1<=c;omega⟩
  |(obtain⟨h1,h2⟩:=hs (by omega);exact⟨h1,by omega⟩)
theorem TD (m5:∀ s:ByteArray,ah Tryz.prog w0 447 [.v (.string s)] (.v (.bool (gL s)))) (k i:Int) (n:ByteArray) (a:List Tm) (ih:∀ x ∈ a,∀ (d c:Int),x.ok->0<=c->c<=200->-1000<=d->d<=1000->aV Tryz.prog w0 352 [.pt 0 1 0 0,tm ρ x,iv d] (aE [(0,eV c)] 1) (.v (.bool (bu x d c).1)) (aE [(0,eV (bu x d c).2)] 1))
  (d c:Int) (hx:(Tm.mk k i n a).ok) (hc:0<=c) (gK:c<=200) (dT:-1000<=d) (ey:d<=1000) (hk:k=0):aV Tryz.prog w0 352 [.pt 0 1 0 0,tm ρ ⟨k,i,n,a⟩,iv d] (aE [(0,eV c)] 1) (.v (.bool (bu ⟨k,i,n,a⟩ d c).1)) (aE [(0,eV (bu ⟨k,i,n,a⟩ d c).2)] 1):=by
 subst hk
 obtain⟨db,eH,eM⟩:=hx.out
 dsimp only at db eH eM
 have hE:a.isEmpty=decide ((a.length:Int)=0):=by
  cases a with
  |nil=>rfl
  |cons x l=>simp;omega
 have hL:(a.length == 2)=decide ((a.length:Int)=2):=by rw [Bool.eq_iff_iff];simp;omega
 obtain⟨R,hR⟩:∃ R,R=bu ⟨0,i,n,a⟩ d c:=⟨_,rfl⟩
 rw [<-hR]
 rw [bu,sP,hE,hL] at hR
 have hA:∀ dd,dd=d - 1->0<=c - 1->1<=d->aV Tryz.prog w0 325 [.pt 0 1 0 0,tl ρ a,iv dd] (aE [(0,eV (c - 1))] 1) (.v (.bool (cz a (d - 1) (c - 1)).1)) (aE [(0,eV (cz a (d - 1) (c - 1)).2)] 1):=fun dd C0 h1 h2=>by
  subst C0
  exact s7 (d - 1) (fun y hy c' h0 h1=>⟨(fu y _ _ h0).1,(fu y _ _ h0).2,ih y hy _ _ (eM.mem y hy) h0 h1 (by omega) (by omega)⟩) db (c - 1) h1 (by omega)
 obtain⟨⟨b1,c1⟩,lY⟩:∃ p,p=cz a (d - 1) (c - 1):=⟨_,rfl⟩
 rw [<-lY] at hA hR
 simp only at hA
 obtain⟨ce,vd⟩:∃ ce,ce=c - 1:=⟨_,rfl⟩
 rw [<-vd] at hA hR
 clear ih lY
 refine aD.dw 1 1 _ Cl (by simp [Tryz.ntmps352]) rfl rfl ?_
 refine gq h_ ?_
 refine ab.int rfl (ad.yH (c:=c - 1) rfl rfl rfl (by omega) (by omega)) fun e he=>?_
 rw [<-vd] at he
 subst he
 refine gq h_ ?_
 repeat' (first
  |(refine bq (fun hb=>?_) (fun hb=>?_)<;>(try simp only [aq] at hb)<;>(first|exact absurd hb (by decide)|refine gq h_ ?_))
  |(refine az fun m hm=>?_;(try rw [af] at hm);refine gq h_ ?_)
  |(refine fq ?_))
 all_goals (clear m5 hA hx db eH eM hE hL)
 all_goals first
  |(have e':R=(false,e):=by
      rw [hR]
      first
       |rw [if_pos (by omega)]
       |(rw [if_neg (by omega),if_pos rfl];refine Prod.ext ?_ rfl;simp_all<;>(intros;omega))
    rw [e']
    exact⟨[],.aC .v,⟨.inl ⟨_,rfl,.same (jk _)⟩,trivial⟩,rfl⟩)
  |(have e':R=(true,e):=by
      rw [hR,if_neg (by omega),if_pos rfl]
      refine Prod.ext ?_ rfl
      simp_all<;>(intros;omega)
    rw [e']
    exact⟨[],.aC .v,⟨.inl ⟨_,rfl,.same (jk _)⟩,trivial⟩,rfl⟩)
theorem TE (m5:∀ s:ByteArray,ah Tryz.prog w0 447 [.v (.string s)] (.v (.bool (gL s)))) (k i:Int) (n:ByteArray) (a:List Tm) (ih:∀ x ∈ a,∀ (d c:Int),x.ok->0<=c->c<=200->-1000<=d->d<=1000->aV Tryz.prog w0 352 [.pt 0 1 0 0,tm ρ x,iv d] (aE [(0,eV c)] 1) (.v (.bool (bu x d c).1)) (aE [(0,eV (bu x d c).2)] 1))
  (d c:Int) (hx:(Tm.mk k i n a).ok) (hc:0<=c) (gK:c<=200) (dT:-1000<=d) (ey:d<=1000) (hk:k=1):aV Tryz.prog w0 352 [.pt 0 1 0 0,tm ρ ⟨k,i,n,a⟩,iv d] (aE [(0,eV c)] 1) (.v (.bool (bu ⟨k,i,n,a⟩ d c).1)) (aE [(0,eV (bu ⟨k,i,n,a⟩ d c).2)] 1):=by
 subst hk
 obtain⟨db,eH,eM⟩:=hx.out
 dsimp only at db eH eM
 have hE:a.isEmpty=decide ((a.length:Int)=0):=by
  cases a with
  |nil=>rfl
  |cons x l=>simp;omega
 have hL:(a.length == 2)=decide ((a.length:Int)=2):=by rw [Bool.eq_iff_iff];simp;omega
 obtain⟨R,hR⟩:∃ R,R=bu ⟨1,i,n,a⟩ d c:=⟨_,rfl⟩
 rw [<-hR]
 rw [bu,sP,hE,hL] at hR
 have hA:∀ dd,dd=d - 1->0<=c - 1->1<=d->aV Tryz.prog w0 325 [.pt 0 1 0 0,tl ρ a,iv dd] (aE [(0,eV (c - 1))] 1) (.v (.bool (cz a (d - 1) (c - 1)).1)) (aE [(0,eV (cz a (d - 1) (c - 1)).2)] 1):=fun dd C0 h1 h2=>by
  subst C0
  exact s7 (d - 1) (fun y hy c' h0 h1=>⟨(fu y _ _ h0).1,(fu y _ _ h0).2,ih y hy _ _ (eM.mem y hy) h0 h1 (by omega) (by omega)⟩) db (c - 1) h1 (by omega)
 obtain⟨⟨b1,c1⟩,lY⟩:∃ p,p=cz a (d - 1) (c - 1):=⟨_,rfl⟩
 rw [<-lY] at hA hR
 simp only at hA
 obtain⟨ce,vd⟩:∃ ce,ce=c - 1:=⟨_,rfl⟩
 rw [<-vd] at hA hR
 clear ih lY
 refine aD.dw 1 1 _ Cl (by simp [Tryz.ntmps352]) rfl rfl ?_
 refine gq h_ ?_
 refine ab.int rfl (ad.yH (c:=c - 1) rfl rfl rfl (by omega) (by omega)) fun e he=>?_
 rw [<-vd] at he
 subst he
 refine gq h_ ?_
 repeat' (first
  |(refine bq (fun hb=>?_) (fun hb=>?_)<;>(try simp only [aq] at hb)<;>(first|exact absurd hb (by decide)|refine gq h_ ?_))
  |(refine az fun m hm=>?_;(try rw [af] at hm);refine gq h_ ?_)
  |(refine fq ?_))
 all_goals (clear m5 hA hx db eH eM hE hL)
 all_goals first
  |(have e':R=(false,e):=by
      rw [hR]
      first
       |rw [if_pos (by omega)]
       |(rw [if_neg (by omega),if_neg (by decide),if_pos rfl];refine Prod.ext ?_ rfl;simp_all<;>(intros;omega))
    rw [e']
    exact⟨[],.aC .v,⟨.inl ⟨_,rfl,.same (jk _)⟩,trivial⟩,rfl⟩)
  |(have e':R=(true,e):=by
      rw [hR,if_neg (by omega),if_neg (by decide),if_pos rfl]
      refine Prod.ext ?_ rfl
      simp_all<;>(intros;omega)
    rw [e']
    exact⟨[],.aC .v,⟨.inl ⟨_,rfl,.same (jk _)⟩,trivial⟩,rfl⟩)
theorem TF (m5:∀ s:ByteArray,ah Tryz.prog w0 447 [.v (.string s)] (.v (.bool (gL s)))) (k i:Int) (n:ByteArray) (a:List Tm) (ih:∀ x ∈ a,∀ (d c:Int),x.ok->0<=c->c<=200->-1000<=d->d<=1000->aV Tryz.prog w0 352 [.pt 0 1 0 0,tm ρ x,iv d] (aE [(0,eV c)] 1) (.v (.bool (bu x d c).1)) (aE [(0,eV (bu x d c).2)] 1))
  (d c:Int) (hx:(Tm.mk k i n a).ok) (hc:0<=c) (gK:c<=200) (dT:-1000<=d) (ey:d<=1000) (hk:k=2):aV Tryz.prog w0 352 [.pt 0 1 0 0,tm ρ ⟨k,i,n,a⟩,iv d] (aE [(0,eV c)] 1) (.v (.bool (bu ⟨k,i,n,a⟩ d c).1)) (aE [(0,eV (bu ⟨k,i,n,a⟩ d c).2)] 1):=by
 subst hk
 obtain⟨db,eH,eM⟩:=hx.out
 dsimp only at db eH eM
 have hE:a.isEmpty=decide ((a.length:Int)=0):=by
  cases a with
  |nil=>rfl
  |cons x l=>simp;omega
 have hL:(a.length == 2)=decide ((a.length:Int)=2):=by rw [Bool.eq_iff_iff];simp;omega
 obtain⟨R,hR⟩:∃ R,R=bu ⟨2,i,n,a⟩ d c:=⟨_,rfl⟩
 rw [<-hR]
 rw [bu,sP,hE,hL] at hR
 have hA:∀ dd,dd=d - 1->0<=c - 1->1<=d->aV Tryz.prog w0 325 [.pt 0 1 0 0,tl ρ a,iv dd] (aE [(0,eV (c - 1))] 1) (.v (.bool (cz a (d - 1) (c - 1)).1)) (aE [(0,eV (cz a (d - 1) (c - 1)).2)] 1):=fun dd C0 h1 h2=>by
  subst C0
  exact s7 (d - 1) (fun y hy c' h0 h1=>⟨(fu y _ _ h0).1,(fu y _ _ h0).2,ih y hy _ _ (eM.mem y hy) h0 h1 (by omega) (by omega)⟩) db (c - 1) h1 (by omega)
 obtain⟨⟨b1,c1⟩,lY⟩:∃ p,p=cz a (d - 1) (c - 1):=⟨_,rfl⟩
 rw [<-lY] at hA hR
 simp only at hA
 obtain⟨ce,vd⟩:∃ ce,ce=c - 1:=⟨_,rfl⟩
 rw [<-vd] at hA hR
 clear ih lY
 refine aD.dw 1 1 _ Cl (by simp [Tryz.ntmps352]) rfl rfl ?_
 refine gq h_ ?_
 refine ab.int rfl (ad.yH (c:=c - 1) rfl rfl rfl (by omega) (by omega)) fun e he=>?_
 rw [<-vd] at he
 subst he
 refine gq h_ ?_
 repeat' (first
  |(refine ab.bif rfl (ad.ag rfl (s6 _ eH) ⟨.v,trivial⟩) (fun _=>?_) (fun _=>?_)<;>refine gq h_ ?_)
  |(refine ab.bif rfl (ad.ag rfl (m5 _) ⟨.v,trivial⟩) (fun _=>?_) (fun _=>?_)<;>refine gq h_ ?_)
  |((refine ab.bif rfl (ad.jJ (m:=[(0,0)]) (to:=[(0,some (eV c1))]) (hA _ (by assumption) (by omega) (by omega)) rfl ⟨Rn.pt rfl rfl,Rn.pure (bB _),Rn.pure .v,trivial⟩ (Rb.pure .v) rfl rfl ⟨⟨_,rfl,kF.pure (gR _)⟩,trivial⟩ ⟨⟨0,_,rfl,rfl,kY.pure (gR _)⟩,trivial⟩ rfl (by repeat (first|exact f_ rfl|refine m4 ?_ rfl)) (.inr rfl)) (fun hb=>?_) (fun hb=>?_)<;>refine gq h_ ?_))
  |(refine bq (fun hb=>?_) (fun hb=>?_)<;>(try simp only [aq] at hb)<;>(first|exact absurd hb (by decide)|refine gq h_ ?_))
  |(refine az fun m hm=>?_;(try rw [af] at hm);refine gq h_ ?_)
  |(refine aS fun _ _=>?_;refine gq h_ ?_)
  |(refine fq ?_))
 all_goals (clear m5 hA hx db eH eM hE hL)
 all_goals rw [if_neg (by decide:¬ (2:Int)=0),if_neg (by decide:¬ (2:Int)=1),if_pos rfl] at hR
 all_goals first
  |(have e':R=(false,e):=by
      rw [hR]
      first
       |rw [if_pos (by omega)]
       |rw [if_neg (by omega),if_pos (by omega)]
       |(rw [if_neg (by omega),if_neg (by omega),if_neg (by clear hR;simp_all)])
    rw [e']
    exact⟨[],.aC .v,⟨.inl ⟨_,rfl,.same (jk _)⟩,trivial⟩,rfl⟩)
  |(have e':R=(true,c1):=by
      rw [hR,if_neg (by omega),if_neg (by omega),if_pos (by clear hR;simp_all),hb]
    rw [e']
    exact⟨[],.aC .v,⟨.inl ⟨_,rfl,.same (jk _)⟩,trivial⟩,rfl⟩)
  |(have e':R=(false,c1):=by
      rw [hR,if_neg (by omega),if_neg (by omega),if_pos (by clear hR;simp_all),hb]
    rw [e']
    exact⟨[],.aC .v,⟨.inl ⟨_,rfl,.same (jk _)⟩,trivial⟩,rfl⟩)
theorem TG (m5:∀ s:ByteArray,ah Tryz.prog w0 447 [.v (.string s)] (.v (.bool (gL s)))) (k i:Int) (n:ByteArray) (a:List Tm) (ih:∀ x ∈ a,∀ (d c:Int),x.ok->0<=c->c<=200->-1000<=d->d<=1000->aV Tryz.prog w0 352 [.pt 0 1 0 0,tm ρ x,iv d] (aE [(0,eV c)] 1) (.v (.bool (bu x d c).1)) (aE [(0,eV (bu x d c).2)] 1))
  (d c:Int) (hx:(Tm.mk k i n a).ok) (hc:0<=c) (gK:c<=200) (dT:-1000<=d) (ey:d<=1000) (hk:¬ k=0/\¬ k=1/\¬ k=2):aV Tryz.prog w0 352 [.pt 0 1 0 0,tm ρ ⟨k,i,n,a⟩,iv d] (aE [(0,eV c)] 1) (.v (.bool (bu ⟨k,i,n,a⟩ d c).1)) (aE [(0,eV (bu ⟨k,i,n,a⟩ d c).2)] 1):=by
 obtain⟨ga,ez,dD⟩:=hk
 obtain⟨db,eH,eM⟩:=hx.out
 dsimp only at db eH eM
 have hE:a.isEmpty=decide ((a.length:Int)=0):=by
  cases a with
  |nil=>rfl
  |cons x l=>simp;omega
 have hL:(a.length == 2)=decide ((a.length:Int)=2):=by rw [Bool.eq_iff_iff];simp;omega
 obtain⟨R,hR⟩:∃ R,R=bu ⟨k,i,n,a⟩ d c:=⟨_,rfl⟩
 rw [<-hR]
 rw [bu,sP,hE,hL] at hR
 have hA:∀ dd,dd=d - 1->0<=c - 1->1<=d->aV Tryz.prog w0 325 [.pt 0 1 0 0,tl ρ a,iv dd] (aE [(0,eV (c - 1))] 1) (.v (.bool (cz a (d - 1) (c - 1)).1)) (aE [(0,eV (cz a (d - 1) (c - 1)).2)] 1):=fun dd C0 h1 h2=>by
  subst C0
  exact s7 (d - 1) (fun y hy c' h0 h1=>⟨(fu y _ _ h0).1,(fu y _ _ h0).2,ih y hy _ _ (eM.mem y hy) h0 h1 (by omega) (by omega)⟩) db (c - 1) h1 (by omega)
 obtain⟨⟨b1,c1⟩,lY⟩:∃ p,p=cz a (d - 1) (c - 1):=⟨_,rfl⟩
 rw [<-lY] at hA hR
 simp only at hA
 obtain⟨ce,vd⟩:∃ ce,ce=c - 1:=⟨_,rfl⟩
 rw [<-vd] at hA hR
 clear ih lY
 refine aD.dw 1 1 _ Cl (by simp [Tryz.ntmps352]) rfl rfl ?_
 refine gq h_ ?_
 refine ab.int rfl (ad.yH (c:=c - 1) rfl rfl rfl (by omega) (by omega)) fun e he=>?_
 rw [<-vd] at he
 subst he
 refine gq h_ ?_
 repeat' (first
  |(refine ab.bif rfl (ad.ag rfl (s6 _ eH) ⟨.v,trivial⟩) (fun _=>?_) (fun _=>?_)<;>refine gq h_ ?_)
  |(refine ab.bif rfl (ad.ag rfl (m5 _) ⟨.v,trivial⟩) (fun _=>?_) (fun _=>?_)<;>refine gq h_ ?_)
  |((refine ab.bif rfl (ad.jJ (m:=[(0,0)]) (to:=[(0,some (eV c1))]) (hA _ (by assumption) (by omega) (by omega)) rfl ⟨Rn.pt rfl rfl,Rn.pure (bB _),Rn.pure .v,trivial⟩ (Rb.pure .v) rfl rfl ⟨⟨_,rfl,kF.pure (gR _)⟩,trivial⟩ ⟨⟨0,_,rfl,rfl,kY.pure (gR _)⟩,trivial⟩ rfl (by repeat (first|exact f_ rfl|refine m4 ?_ rfl)) (.inr rfl)) (fun hb=>?_) (fun hb=>?_)<;>refine gq h_ ?_))
  |(refine bq (fun hb=>?_) (fun hb=>?_)<;>(try simp only [aq] at hb)<;>(first|refine gq h_ ?_))
  |(refine az fun m hm=>?_;(try rw [af] at hm);refine gq h_ ?_)
  |(refine aS fun _ _=>?_;refine gq h_ ?_)
  |(refine fq ?_))
 all_goals (clear m5 hA hx db eH eM hE hL)
 all_goals first
  |(exfalso;omega)
  |(have e':R=(false,e):=by
      rw [hR,if_neg ga,if_neg ez,if_neg dD,ite_self]
    rw [e']
    exact⟨[],.aC .v,⟨.inl ⟨_,rfl,.same (jk _)⟩,trivial⟩,rfl⟩)
theorem Af (m5:∀ s:ByteArray,ah Tryz.prog w0 447 [.v (.string s)] (.v (.bool (gL s)))) (x:Tm):∀ (d c:Int),x.ok->0<=c->c<=200->-1000<=d->d<=1000 ->
  aV Tryz.prog w0 352 [.pt 0 1 0 0,tm ρ x,iv d] (aE [(0,eV c)] 1) (.v (.bool (bu x d c).1)) (aE [(0,eV (bu x d c).2)] 1):=by
 refine Tm.ind (p:=fun x=>∀ (d c:Int),x.ok->0<=c->c<=200->-1000<=d->d<=1000 ->
  aV Tryz.prog w0 352 [.pt 0 1 0 0,tm ρ x,iv d] (aE [(0,eV c)] 1) (.v (.bool (bu x d c).1)) (aE [(0,eV (bu x d c).2)] 1)) ?_ x
 intro k i n a ih d c hx hc gK dT ey
 by_cases h0:k=0
 ·exact TD m5 k i n a ih d c hx hc gK dT ey h0
 by_cases h1:k=1
 ·exact TE m5 k i n a ih d c hx hc gK dT ey h1
 by_cases h2:k=2
 ·exact TF m5 k i n a ih d c hx hc gK dT ey h2
 ·exact TG m5 k i n a ih d c hx hc gK dT ey ⟨h0,h1,h2⟩
end
end
end Go.Proofs.YtgphljokbodciaaGreat
