import Derived.Laws.Cover3
import Derived.Test.YtbofilglphfceaaGreatQ21
namespace Go.Proofs.YtbofilglphfceaaGreat
set_option linter.unusedVariables false
set_option linter.unusedSimpArgs false
open Go.RowKit
section
set_option maxRecDepth 100000
attribute [local irreducible] ah bc ad ab
def OD:CF Tryz.f203:=⟨_,by conv=>lhs;cbv⟩
theorem OE:aH Tryz.prog 203 OD.1 Tryz.f203.ntmps:=aQ Tryz.func203 OD.2 Tryz.call203
def iI:List Nat:=[8,0,5,4,7,9,1,16]
def OF:CF Tryz.f201:=⟨_,by conv=>lhs;cbv⟩
theorem Xw:aH Tryz.prog 201 OF.1 Tryz.f201.ntmps:=aQ Tryz.func201 OF.2 Tryz.call201
def qf:List Nat:=[8,0,5,4,7,9,1,16]
def OG:CF Tryz.f324:=⟨_,by conv=>lhs;cbv⟩
theorem Xx:aH Tryz.prog 324 OG.1 Tryz.f324.ntmps:=aQ Tryz.func324 OG.2 Tryz.call324
def qg:List Nat:=[8,0,5,4,7,9,1,16]
def OH:CF Tryz.f118:=⟨_,by conv=>lhs;cbv⟩
theorem OI:aH Tryz.prog 118 OH.1 Tryz.f118.ntmps:=aQ Tryz.func118 OH.2 Tryz.call118
def zE:List Nat:=[4,0,1]
def OJ:CF Tryz.f270:=⟨_,by conv=>lhs;cbv⟩
theorem Xy:aH Tryz.prog 270 OJ.1 Tryz.f270.ntmps:=aQ Tryz.func270 OJ.2 Tryz.call270
def Lx:List Nat:=[4,0,1]
section
variable {w0:World}{ρ:Hd}
theorem TD (p:Int->Bool) (l:List Int) (gid:FuncId) (fs cs:List AV) (hl:l.length<=1099511627776) (hF:Pure (.fn (.func gid) fs cs)) (h:∀ x ∈ l,sk Tryz.prog w0 (.fn (.func gid) fs cs) [iv x] (p x)):ah Tryz.prog w0 203 [b8 ρ bF false l,.fn (.func gid) fs cs] (iv (dD p l 0)):=by
 obtain⟨R,hR⟩:∃ R,R=dD p l 0:=⟨_,rfl⟩
 rw [<-hR]
 refine OE.aG (by simp [Tryz.ntmps203]) (.v) ?_
 refine gq iI ?_
 repeat' (first
  |(refine aB fun m hm=>?_;(try rw [af] at hm);refine gq iI ?_)
  )
 refine ab.aP (σ:=Int) 0 0 [] (fun i=>[(0,b8 ρ bF false l),(1,.fn (.func gid) fs cs),(7,.v (.int .i64 m)),(8,.v (.int .i64 i))]) [] (fun _=>[])
  (fun i=>∃ k:Nat,i=k/\k<=l.length/\R=dD p (l.drop k) k) (fun i=>l.length - i.toNat) 0 ⟨0,rfl,by simp,by simpa using hR⟩ rfl ⟨⟨.aD rfl (Pure.b_ (bQ _)),.aD rfl (Pure.b_ hF),.aD rfl .v,.aD rfl .v,trivial⟩,rfl,trivial,rfl,rfl,rfl⟩ ?_
 rintro i ⟨k,hi,hk,hp⟩
 clear hR
 refine gq iI ?_
 by_cases au:k < l.length
 ·obtain⟨x,hx,aO⟩:=az au
  rw [aO,dD] at hp
  have hf:=h x (aY hx)
  repeat' (first
   |(refine ab.op rfl (ad.ind rfl rfl (ay (l:=l) hi hx) (aw fun _=>rfl)) ?_;refine gq iI ?_)
   |(refine ab.a_ rfl (ad.x_ rfl rfl hf) (fun _=>?_) (fun _=>?_)<;>refine gq iI ?_)
   |(refine bq (fun hb=>?_) (fun hb=>?_)<;>(try simp only [aq] at hb)<;>(first|refine gq iI ?_))
   |(refine aS fun _ _=>?_;refine gq iI ?_)
   |(refine ab.ao ?_;refine gq iI ?_)
   |(refine ab.bJ ?_;refine gq iI ?_)
   |(refine fq ?_))
  all_goals first
   |(rw [if_pos (by assumption)] at hp;refine dI ?_;omega)
   |(rw [if_neg (by simp_all)] at hp
     refine ab.aL (σ:=Int) _ [] ?_ ?_ ⟨⟨.aD rfl (Pure.b_ (bQ _)),.aD rfl (Pure.b_ hF),.aD rfl .v,.aD rfl .v,trivial⟩,rfl,trivial,rfl,rfl,rfl⟩
     ·exact⟨k+1,by omega,by omega,hp⟩
     ·omega)
   |(exfalso;omega)
 ·skip
  repeat' (first
   |(refine bq (fun hb=>?_) (fun hb=>?_)<;>(try simp only [aq] at hb)<;>(first|refine gq iI ?_))
   |(refine ab.ao ?_;refine gq iI ?_)
   |(refine fq ?_))
  all_goals first
   |(exfalso;omega)
   |(rw [hp,List.drop_eq_nil_of_le (by omega)];exact dI rfl)
theorem TE (p:Im->Bool) (l:List Im) (gid:FuncId) (fs cs:List AV) (hl:l.length<=1099511627776) (hF:Pure (.fn (.func gid) fs cs)) (h:∀ x ∈ l,sk Tryz.prog w0 (.fn (.func gid) fs cs) [it ρ x] (p x)):ah Tryz.prog w0 201 [fJ ρ l,.fn (.func gid) fs cs] (iv (dD p l 0)):=by
 obtain⟨R,hR⟩:∃ R,R=dD p l 0:=⟨_,rfl⟩
 rw [<-hR]
 refine Xw.aG (by simp [Tryz.ntmps201]) (.v) ?_
 refine gq qf ?_
 repeat' (first
  |(refine aB fun m hm=>?_;(try rw [af] at hm);refine gq qf ?_)
  )
 refine ab.aP (σ:=Int) 0 0 [] (fun i=>[(0,fJ ρ l),(1,.fn (.func gid) fs cs),(7,.v (.int .i64 m)),(8,.v (.int .i64 i))]) [] (fun _=>[])
  (fun i=>∃ k:Nat,i=k/\k<=l.length/\R=dD p (l.drop k) k) (fun i=>l.length - i.toNat) 0 ⟨0,rfl,by simp,by simpa using hR⟩ rfl ⟨⟨.aD rfl (Pure.b_ (cb _)),.aD rfl (Pure.b_ hF),.aD rfl .v,.aD rfl .v,trivial⟩,rfl,trivial,rfl,rfl,rfl⟩ ?_
 rintro i ⟨k,hi,hk,hp⟩
 clear hR
 refine gq qf ?_
 by_cases au:k < l.length
 ·obtain⟨x,hx,aO⟩:=az au
  rw [aO,dD] at hp
  have hf:=h x (aY hx)
  repeat' (first
   |(refine ab.op rfl (ad.ind rfl rfl (ay (l:=l) hi hx) (aw fun _=>rfl)) ?_;refine gq qf ?_)
   |(refine ab.a_ rfl (ad.x_ rfl rfl hf) (fun _=>?_) (fun _=>?_)<;>refine gq qf ?_)
   |(refine bq (fun hb=>?_) (fun hb=>?_)<;>(try simp only [aq] at hb)<;>(first|refine gq qf ?_))
   |(refine aS fun _ _=>?_;refine gq qf ?_)
   |(refine ab.ao ?_;refine gq qf ?_)
   |(refine ab.bJ ?_;refine gq qf ?_)
   |(refine fq ?_))
  all_goals first
   |(rw [if_pos (by assumption)] at hp;refine dI ?_;omega)
   |(rw [if_neg (by simp_all)] at hp
     refine ab.aL (σ:=Int) _ [] ?_ ?_ ⟨⟨.aD rfl (Pure.b_ (cb _)),.aD rfl (Pure.b_ hF),.aD rfl .v,.aD rfl .v,trivial⟩,rfl,trivial,rfl,rfl,rfl⟩
     ·exact⟨k+1,by omega,by omega,hp⟩
     ·omega)
   |(exfalso;omega)
 ·skip
  repeat' (first
   |(refine bq (fun hb=>?_) (fun hb=>?_)<;>(try simp only [aq] at hb)<;>(first|refine gq qf ?_))
   |(refine ab.ao ?_;refine gq qf ?_)
   |(refine fq ?_))
  all_goals first
   |(exfalso;omega)
   |(rw [hp,List.drop_eq_nil_of_le (by omega)];exact dI rfl)
theorem TF (p:Dc->Bool) (l:List Dc) (gid:FuncId) (fs cs:List AV) (hl:l.length<=1099511627776) (hF:Pure (.fn (.func gid) fs cs)) (h:∀ x ∈ l,sk Tryz.prog w0 (.fn (.func gid) fs cs) [dc x] (p x)):ah Tryz.prog w0 324 [dG ρ l,.fn (.func gid) fs cs] (iv (dD p l 0)):=by
 obtain⟨R,hR⟩:∃ R,R=dD p l 0:=⟨_,rfl⟩
 rw [<-hR]
 refine Xx.aG (by simp [Tryz.ntmps324]) (.v) ?_
 refine gq qg ?_
 repeat' (first
  |(refine aB fun m hm=>?_;(try rw [af] at hm);refine gq qg ?_)
  )
 refine ab.aP (σ:=Int) 0 0 [] (fun i=>[(0,dG ρ l),(1,.fn (.func gid) fs cs),(7,.v (.int .i64 m)),(8,.v (.int .i64 i))]) [] (fun _=>[])
  (fun i=>∃ k:Nat,i=k/\k<=l.length/\R=dD p (l.drop k) k) (fun i=>l.length - i.toNat) 0 ⟨0,rfl,by simp,by simpa using hR⟩ rfl ⟨⟨.aD rfl (Pure.b_ (bU _)),.aD rfl (Pure.b_ hF),.aD rfl .v,.aD rfl .v,trivial⟩,rfl,trivial,rfl,rfl,rfl⟩ ?_
 rintro i ⟨k,hi,hk,hp⟩
 clear hR
 refine gq qg ?_
 by_cases au:k < l.length
 ·obtain⟨x,hx,aO⟩:=az au
  rw [aO,dD] at hp
  have hf:=h x (aY hx)
  repeat' (first
   |(refine ab.op rfl (ad.ind rfl rfl (ay (l:=l) hi hx) (aw fun _=>rfl)) ?_;refine gq qg ?_)
   |(refine ab.a_ rfl (ad.x_ rfl rfl hf) (fun _=>?_) (fun _=>?_)<;>refine gq qg ?_)
   |(refine bq (fun hb=>?_) (fun hb=>?_)<;>(try simp only [aq] at hb)<;>(first|refine gq qg ?_))
   |(refine aS fun _ _=>?_;refine gq qg ?_)
   |(refine ab.ao ?_;refine gq qg ?_)
   |(refine ab.bJ ?_;refine gq qg ?_)
   |(refine fq ?_))
  all_goals first
   |(rw [if_pos (by assumption)] at hp;refine dI ?_;omega)
   |(rw [if_neg (by simp_all)] at hp
     refine ab.aL (σ:=Int) _ [] ?_ ?_ ⟨⟨.aD rfl (Pure.b_ (bU _)),.aD rfl (Pure.b_ hF),.aD rfl .v,.aD rfl .v,trivial⟩,rfl,trivial,rfl,rfl,rfl⟩
     ·exact⟨k+1,by omega,by omega,hp⟩
     ·omega)
   |(exfalso;omega)
 ·skip
  repeat' (first
   |(refine bq (fun hb=>?_) (fun hb=>?_)<;>(try simp only [aq] at hb)<;>(first|refine gq qg ?_))
   |(refine ab.ao ?_;refine gq qg ?_)
   |(refine fq ?_))
  all_goals first
   |(exfalso;omega)
   |(rw [hp,List.drop_eq_nil_of_le (by omega)];exact dI rfl)
theorem TG (p:Int->Bool) (l:List Int) (gid:FuncId) (fs cs:List AV) (hl:l.length<=1099511627776) (hF:Pure (.fn (.func gid) fs cs)) (h:∀ x ∈ l,sk Tryz.prog w0 (.fn (.func gid) fs cs) [iv x] (p x)):ah Tryz.prog w0 118 [b8 ρ bF false l,.fn (.func gid) fs cs] (.v (.bool (l.any p))):=by
 have hI:=TD (w0:=w0) (ρ:=ρ) p l gid fs cs hl hF h
 have km:=nM p l 0
 obtain⟨j,hj⟩:∃ j,j=dD p l 0:=⟨_,rfl⟩
 rw [<-hj] at hI km
 refine OI.aG (by simp [Tryz.ntmps118]) (.v) ?_
 refine gq zE ?_
 repeat' (first
  |(refine ab.int rfl (ad.ag rfl hI ⟨bQ _,hF,trivial⟩) fun _ _=>?_;refine gq zE ?_)
  |(refine bq (fun hb=>?_) (fun hb=>?_)<;>(try simp only [aq] at hb)<;>(first|refine gq zE ?_))
  |(refine fq ?_))
 all_goals (subst_vars;refine aC ?_;rw [<-km];simp_all)
theorem TH (p:Dc->Bool) (l:List Dc) (gid:FuncId) (fs cs:List AV) (hl:l.length<=1099511627776) (hF:Pure (.fn (.func gid) fs cs)) (h:∀ x ∈ l,sk Tryz.prog w0 (.fn (.func gid) fs cs) [dc x] (p x)):ah Tryz.prog w0 270 [dG ρ l,.fn (.func gid) fs cs] (.v (.bool (l.any p))):=by
 have hI:=TF (w0:=w0) (ρ:=ρ) p l gid fs cs hl hF h
 have km:=nM p l 0
 obtain⟨j,hj⟩:∃ j,j=dD p l 0:=⟨_,rfl⟩
 rw [<-hj] at hI km
 refine Xy.aG (by simp [Tryz.ntmps270]) (.v) ?_
 refine gq Lx ?_
 repeat' (first
  |(refine ab.int rfl (ad.ag rfl hI ⟨bU _,hF,trivial⟩) fun _ _=>?_;refine gq Lx ?_)
  |(refine bq (fun hb=>?_) (fun hb=>?_)<;>(try simp only [aq] at hb)<;>(first|refine gq Lx ?_))
  |(refine fq ?_))
 all_goals (subst_vars;refine aC ?_;rw [<-km];simp_all)
end
end
section
variable {P:Program}{w0:World}{rd:Bool}{n B:Nat}{α:AA}{S S' S1:ae}{Q:Exit->AA->ae->Prop}{r r':AV}{l:List QI}{K:List iC}{o:Oper}{V:List (Nat × Nat)}{lg:List (List Nat × List Nat × Bool)}{rs:List Nat}
theorem ew.rv (h:ew P w0 n o α S r S') (k:Rv w0 r S' r' S1):ew P w0 n o α S r' S1:=by
 intro F m A g a w nx R hF hS hA hn
 refine h F m A g a w nx R hF hS hA fun v w' g' h1 h2 h3=>?_
 obtain⟨g2,k1,k2,k3⟩:=k A g g' w w' v h2 h1
 exact hn v w' g2 k2 k1 (h3.trans k3)
theorem Rv.move {k sz len:Nat}{rows:List (List AV)}{ex:Bool}(hk:S.get k=some (.arr sz rows 0 ex)):Rv w0 (.gr k sz len) S (.gr S.nx sz len) ((S.set k none).new (.arr sz rows 0 false)):=by
 intro A g0 g So w v hS hr
 obtain⟨T,hT⟩:∃ T,T=(S.set k none).new (.arr sz rows 0 false):=⟨_,rfl⟩
 obtain⟨g',ly⟩:∃ g':Gh,g'=⟨bO g.ob S.nx (g.ob k),bO g.cp S.nx (g.cp k),fun j=>g.al j\/(j=S.nx/\g.al k),g.fz,g.fo⟩:=⟨_,rfl⟩
 have o4:¬ g.al S.nx:=fun h=>Nat.lt_irrefl _ (hS.al _ h)
 have yd:∀ j,j ≠ S.nx->g'.ob j=g.ob j:=fun j e=>by rw [ly];exact aK _ _ e
 have cp':∀ j,j ≠ S.nx->g'.cp j=g.cp j:=fun j e=>by rw [ly];exact aK _ _ e
 have Jt:g'.ob S.nx=g.ob k:=by rw [ly];exact aE _ _ _
 have cpn:g'.cp S.nx=g.cp k:=by rw [ly];exact aE _ _ _
 have tP:∀ j,g'.al j->j ≠ S.nx->g.al j:=fun j h e=>by
  rw [ly] at h
  rcases h with h|⟨h,_⟩
  ·exact h
  ·exact absurd h e
 have OK:g'.al S.nx->g.al k:=fun h=>by
  rw [ly] at h
  rcases h with h|⟨_,h⟩
  ·exact absurd h o4
  ·exact h
 have ne:∀ j,g.al j->j ≠ S.nx:=fun j h e=>o4 (e ▸ h)
 have hL:Later g w g' w:=⟨fun j h=>by rw [ly];exact .inl h,fun j h=>yd j (ne j h),fun j h=>cp' j (ne j h),fun b o h=>by rw [ly];exact h,fun _ _ _=>rfl⟩
 have oX:g'.fz=g.fz:=by rw [ly]
 have Ew:g'.fo=g.fo:=by rw [ly]
 have Tn:T.get S.nx=some (.arr sz rows 0 false):=by rw [hT];exact aE _ _ _
 have Tj:∀ j p,j ≠ S.nx->T.get j=some p->j ≠ k/\S.get j=some p:=by
  intro j p e h
  rw [hT] at h
  have h:bO (S.set k none).get S.nx (some (.arr sz rows 0 false)) j=some p:=h
  rw [aK _ _ e] at h
  have h:bO S.get k none j=some p:=h
  by_cases ek:j=k
  ·subst ek;rw [aE] at h;cases h
  ·rw [aK _ _ ek] at h;exact⟨ek,h⟩
 have Tf:∀ j J,T.get j=some (.fo J)->j ≠ S.nx:=fun j J h e=>by rw [e,Tn] at h;cases h
 have hE:Ext A g w g' w:={ hL with size:=Nat.le_refl _,aV:=fun _ _ _=>rfl,f_:=fun b o h=>by rw [oX] at h;exact .inl h }
 have TI:∀ {b cp:Nat}{o:Ob},dC g w b cp o->dC g' w b cp o:=fun h=>h.later hL rfl (fun q h=>by rw [oX] at h;exact h) fun J _=>⟨by rw [Ew],Nat.le_refl _,fun _ _=>rfl,fun c q _ h=>by rw [oX] at h;exact h⟩
 rw [<-hT]
 refine⟨g',⟨hS.base,hS.up,hS.lo,fun j h=>?_,fun j p hj h=>?_,fun i j p q hi hj ai aj e=>?_,fun b q h=>hS.cG b q (by rw [<-oX];exact h),fun b q h=>by rw [oX];exact hS.mL b q h,fun j J hj h=>?_,fun j J i p hj h hi ai e=>?_,fun i j J J' hi hj ai aj=>?_⟩,?_,hE⟩
 ·have e:T.nx=S.nx+1:=by rw [hT];rfl
  rw [e]
  by_cases ej:j=S.nx
  ·omega
  ·have:=hS.al j (tP j h ej);omega
 ·by_cases ej:j=S.nx
  ·subst ej
   rw [Tn] at hj
   obtain rfl:=Option.some.inj hj
   obtain⟨q1,q2,q3⟩:=hS.cC k _ hk (OK h)
   rw [Jt,cpn]
   refine⟨q1,q2,?_⟩
   obtain⟨cs,ty,h1,h2,h3,h4,h5,h6,h7⟩:=TI q3
   exact⟨cs,ty,h1,h2,h3,(fun h=>by cases h),h5,h6,h7⟩
  ·obtain⟨_,gY⟩:=Tj j p ej hj
   obtain⟨q1,q2,q3⟩:=hS.cC j p gY (tP j h ej)
   rw [yd j ej,cp' j ej]
   exact⟨q1,q2,TI q3⟩
 ·by_cases ei:i=S.nx
  ·by_cases ej:j=S.nx
   ·rw [ei,ej]
   ·exfalso
    subst ei
    obtain⟨ek,gY⟩:=Tj j q ej hj
    rw [Jt,yd j ej] at e
    exact ek (hS.inj k j _ q hk gY (OK ai) (tP j aj ej) e).symm
  ·by_cases ej:j=S.nx
   ·exfalso
    subst ej
    obtain⟨ek,mi⟩:=Tj i p ei hi
    rw [Jt,yd i ei] at e
    exact ek (hS.inj i k p _ mi hk (tP i ai ei) (OK aj) e)
   ·rw [yd i ei,yd j ej] at e
    exact hS.inj i j p q (Tj i p ei hi).2 (Tj j q ej hj).2 (tP i ai ei) (tP j aj ej) e
 ·have ej:=Tf j J hj
  rw [yd j ej,Ew]
  exact hS.gX j J (Tj j _ ej hj).2 (tP j h ej)
 ·have ej:=Tf j J hj
  rw [yd j ej,Ew]
  by_cases ei:i=S.nx
  ·subst ei
   rw [Jt]
   exact hS.jE j J k _ (Tj j _ ej hj).2 (tP j h ej) hk (OK ai) (Tj j _ ej hj).1.symm
  ·rw [yd i ei]
   exact hS.jE j J i p (Tj j _ ej hj).2 (tP j h ej) (Tj i p ei hi).2 (tP i ai ei) e
 ·have ei:=Tf i J hi
  have ej:=Tf j J' hj
  exact hS.lP i j J J' (Tj i _ ei hi).2 (Tj j _ ej hj).2 (tP i ai ei) (tP j aj ej)
 ·rcases pP hr with ⟨h,A',rfl⟩|⟨jh,c,rfl,hx,hle⟩
  ·subst h;exact .iQ
  ·rw [<-Jt]
   refine .gr (by rw [ly];exact .inr ⟨rfl,jh⟩) (by rw [cpn];exact hx) hle
theorem Rv.nil {sz:Nat}:Rv w0 (.sl true []) S (.gr S.nx sz 0) (S.new (.arr sz [] 0 false)):=by
 intro A g0 g So w v hS hr
 obtain⟨g',h1,h2,h3⟩:=(show ∃ g',St w0 A g' (S.new (.arr sz [] 0 false)) w/\aJ g' w (.gr S.nx sz 0) v/\Ext A g w g' w from by
  have key:∀ k p,(S.new (.arr sz [] 0 false)).get k=some p->g.al k->S.get k=some p:=fun k p hk ha=>by
   have au:=hS.al k ha
   have hk:bO S.get S.nx (some (.arr sz [] 0 false)) k=some p:=hk
   rwa [aK _ _ (by omega)] at hk
  refine⟨g,⟨hS.base,hS.up,hS.lo,fun k hk=>Nat.lt_succ_of_lt (hS.al k hk),fun k p hk ha=>hS.cC k p (key k p hk ha) ha,fun i j p q hi hj ai aj e=>hS.inj i j p q (key i p hi ai) (key j q hj aj) ai aj e,hS.cG,hS.mL,
   fun k J hk ha=>hS.gX k J (key k _ hk ha) ha,fun k J j p hk ha hj aj=>hS.jE k J j p (key k _ hk ha) ha (key j p hj aj) aj,fun j k J J' hj hk aj ak=>hS.lP j k J J' (key j _ hj aj) (key k _ hk ak) aj ak⟩,?_,Ext.refl ..⟩
  cases hr with
  |nil hz=>obtain rfl:=hz rfl;exact .iQ
  |sl hz=>exact absurd rfl hz)
 exact⟨g',h1,h2,h3⟩
theorem Rv.TJ {k sz len:Nat}:Rv w0 (.ob k sz 0 len none) S (.gr k sz len) S:=by
 intro A g0 g So w v hS hr
 refine⟨g,hS,?_,Ext.refl ..⟩
 cases hr with
 |ob q1 q2 q3 q4 q5=>rw [Nat.zero_mul];exact .gr q1 (by have:=q4 rfl;omega) q5
section
variable {ρ:Hd}{T:Type}{f:T->List AV}{acc ys:List T}
theorem ab.F_ {dd:Option Nat}{gg:Option (Nat × Bool)}{t:Nat}{b:QO}{sz by_ k len:Nat}{ex ex':Bool}(hw:cj α.tm gg=some true) (h1:α.tm t=.gr k sz len) (hk:S.get k=some (.arr sz (ρ.h (List.map f) acc) 0 ex)) (hn:len=acc.length) (fL:∀ c,b.ev (bO α.tm t c)=b.ev α.tm)
  (hb:b.ev α.tm=b8 ρ f ex' ys) (hl:∀ x,(f x).length=sz) (hc:∀ x,(f x).all cn=true) (hy:(len+ys.length)*by_<=35184372088832)
  (kk:∀ dK cU,dK=acc++ys->cU=dK.length->ab P w0 rd n Q (.bD false l K) (cD dd α (.gr S.nx sz cU)) ((S.set k none).new (.arr sz (ρ.h (List.map f) dK) 0 false))):ab P w0 rd n Q (.bD false (⟨dd,gg,.append sz by_ (.t t) b⟩::l) K) α S:=by
 have hlen:(ρ.h (List.map f) acc).length=acc.length:=af
 by_cases h0:ys=[]
 ·subst h0
  rw [dx] at hb
  have h:=kk acc len (by simp) hn
  exact ab.op (i:=⟨dd,gg,.append sz by_ (.t t) b⟩) hw (fun n o ho=>(uH ho h1 hk (by omega) fL (by rw [hb];exact gQ)).rv (Rv.move hk)) h
 ·exact ab.Lw hw h1 hk hn fL hb hl hc hy (fun h=>absurd h h0) fun dK cU _ e1 e2=>kk dK cU e1 e2
theorem ab.Ga {dd:Option Nat}{gg:Option (Nat × Bool)}{t:Nat}{b:QO}{sz by_ k len:Nat}{ex ex':Bool}(hw:cj α.tm gg=some true) (h1:α.tm t=.gr k sz len) (hk:S.get k=some (.arr sz (ρ.h (List.map f) acc) 0 ex)) (hn:len=acc.length) (fL:∀ c,b.ev (bO α.tm t c)=b.ev α.tm)
  (hb:b.ev α.tm=b8 ρ f ex' ys) (hl:∀ x,(f x).length=sz) (hc:∀ x,(f x).all cn=true) (hy:(len+ys.length)*by_<=35184372088832)
  (kk:∀ dK cU,dK=acc++ys->cU=dK.length->ab P w0 rd n Q (.dJ B V (lg++[([k],[S.nx,k],true)]) rs l K) (cD dd α (.gr S.nx sz cU)) (dQ S [(S.nx,some (.arr sz (ρ.h (List.map f) dK) 0 false)),(k,none)] true)):ab P w0 rd n Q (.dJ B V lg rs (⟨dd,gg,.append sz by_ (.t t) b⟩::l) K) α S:=by
 have hlen:(ρ.h (List.map f) acc).length=acc.length:=af
 rw [dx] at hb
 cases ys with
 |nil =>
  have h:=kk acc len (by simp) hn
  refine ab.BV (i:=⟨dd,gg,.append sz by_ (.t t) b⟩) (d:=⟨[(k,.arr sz (ρ.h (List.map f) acc) 0 ex)],[(S.nx,some (.arr sz (ρ.h (List.map f) acc) 0 false)),(k,none)],true⟩) hw ?_ h
  have h0:=cB.Xp (P:=P) (w0:=w0) (B:=B) (by_:=by_) h1 hk (by omega) fL hb
  intro n o hr
  obtain⟨e1,e2,e3⟩:=h0 n o hr
  refine⟨fun hp=>(by rw [pK hr] at hp;cases hp),e2,fun T hB hT hm=>?_⟩
  have h4:=e3 T hB hT (fun h=>by cases h)
  rw [show dQ T [] false=T from cK] at h4
  have h5:=h4.rv (Rv.move (w0:=w0) (len:=len) (hT (k,.arr sz (ρ.h (List.map f) acc) 0 ex) (by simp)))
  rw [<-hm rfl,ec]
  exact h5
 |cons y ys =>
  have h:=kk _ _ rfl rfl
  have e:ρ.h (List.map f) acc++List.map f (y::ys)=ρ.h (List.map f) (acc++y::ys):=by rw [ρ.eq,ρ.eq,List.map_append]
  rw [<-e,show (acc++y::ys).length=len+(f y::List.map f ys).length by simp;omega] at h
  refine ab.BV (i:=⟨dd,gg,.append sz by_ (.t t) b⟩) hw (cB.FP (x:=f y) (more:=List.map f ys) h1 hk (by omega) fL hb (fun row hr=>?_) (by simpa using hy)) h
  obtain⟨x,_,rfl⟩:=List.mem_map.1 (show row ∈ List.map f (y::ys) from hr)
  exact⟨hl x,hc x⟩
theorem ab.OL {dd:Option Nat}{gg:Option (Nat × Bool)}{a b:QO}{sz by_:Nat}{ex':Bool}(hw:cj α.tm gg=some true) (h1:a.ev α.tm=.sl true [])
  (hb:b.ev α.tm=b8 ρ f ex' ys) (hl:∀ x,(f x).length=sz) (hy:ys.length*by_<=35184372088832)
  (kk:∀ dK cU,dK=ys->cU=dK.length->ab P w0 rd n Q (.dJ B V (lg++[([],[S.nx],true)]) rs l K) (cD dd α (.gr S.nx sz cU)) (dQ S [(S.nx,some (.arr sz (ρ.h (List.map f) dK) 0 false))] true)):ab P w0 rd n Q (.dJ B V lg rs (⟨dd,gg,.append sz by_ a b⟩::l) K) α S:=by
 rw [dx] at hb
 have h:=kk _ _ rfl rfl
 rw [ρ.eq] at h
 refine ab.BV (i:=⟨dd,gg,.append sz by_ a b⟩) (d:=⟨[],[(S.nx,some (.arr sz (List.map f ys) 0 false))],true⟩) hw ?_ h
 cases ys with
 |nil =>
  have h0:=cB.Cz (P:=P) (w0:=w0) (B:=B) (S:=S) (sz:=sz) (by_:=by_) h1 hb
  intro n o hr
  obtain⟨e1,e2,e3⟩:=h0 n o hr
  refine⟨fun hp=>(by rw [pK hr] at hp;cases hp),e2,fun T hB hT hm=>?_⟩
  have h4:=e3 T hB hT (fun h=>by cases h)
  rw [show dQ T [] false=T from cK] at h4
  have h5:=h4.rv (Rv.nil (w0:=w0) (sz:=sz))
  rw [<-hm rfl,ec]
  exact h5
 |cons y ys =>
  have h0:=cB.zn (P:=P) (w0:=w0) (B:=B) (S:=S) (sz:=sz) (by_:=by_) (x:=f y) (more:=List.map f ys) h1 hb (fun row hr=>by
   obtain⟨x,_,rfl⟩:=List.mem_map.1 (show row ∈ List.map f (y::ys) from hr)
   exact hl x) (by simpa using hy)
  intro n o hr
  obtain⟨e1,e2,e3⟩:=h0 n o hr
  refine⟨e1,e2,fun T hB hT hm=>?_⟩
  have h4:=(e3 T hB hT hm).rv (Rv.TJ (w0:=w0))
  simpa using h4
theorem ab.Nb {dd:Option Nat}{gg:Option (Nat × Bool)}{a b:QO}{sz by_:Nat}{ex':Bool}(hw:cj α.tm gg=some true) (h1:a.ev α.tm=.sl true [])
  (hb:b.ev α.tm=b8 ρ f ex' ys) (hl:∀ x,(f x).length=sz) (hy:ys.length*by_<=35184372088832)
  (kk:∀ dK cU,dK=ys->cU=dK.length->ab P w0 rd n Q (.bD false l K) (cD dd α (.gr S.nx sz cU)) (S.new (.arr sz (ρ.h (List.map f) dK) 0 false))):ab P w0 rd n Q (.bD false (⟨dd,gg,.append sz by_ a b⟩::l) K) α S:=by
 rw [dx] at hb
 have h:=kk _ _ rfl rfl
 rw [ρ.eq] at h
 cases ys with
 |nil=>exact ab.op (i:=⟨dd,gg,.append sz by_ a b⟩) hw ((ad.Cz h1 (by rw [hb];exact gQ)).rv Rv.nil) h
 |cons y ys =>
  refine ab.op (i:=⟨dd,gg,.append sz by_ a b⟩) hw ((ad.zn (rows:=[]) (x:=f y) (more:=List.map f ys) h1 (by rw [hb];exact gQ) (fun _ h=>by cases h) (fun row hr=>by
   obtain⟨x,_,rfl⟩:=List.mem_map.1 (show row ∈ List.map f (y::ys) from hr)
   exact hl x) (by simpa using hy)).rv Rv.TJ) ?_
  simpa using h
end
theorem ab.TK {d:Option Nat}{gd:Option (Nat × Bool)}{f:QO}{kz:List QO}{g:FuncId}{args gj:List AV}{pQ:AV}{so':List (Nat × Ob)}{ob:Ob}(hw:cj α.tm gd=some true) (bI:bc P w0 g args (aM [] 0) r (aM so' 1)) (h:eL (f.ev α.tm) (kz.map (·.ev α.tm))=some (g,gj)) (ha:v_ (bX []) 0 gj args)
  (hr:Rb (gw (bX []) 0 S.nx) r pQ) (hT:oh (gw (bX []) 0 S.nx) so' [(S.nx,some ob)]) (hf:wQ so'=true)
  (kk:ab P w0 rd n Q (.dJ B V (lg++[([],[S.nx],true)]) rs l K) (cD d α pQ) (dQ S [(S.nx,some ob)] true)):ab P w0 rd n Q (.dJ B V lg rs (⟨d,gd,.call f kz⟩::l) K) α S :=
 ab.BV (i:=⟨d,gd,.call f kz⟩) hw (cB.Oy bI h ha hr hT hf) kk
theorem ad.l8 {len m:Nat}{k:LK}{x i:QO}{l:List AV}{a:AV}{ik:IntKind}{j:Int}{dr:Bool}(h1:x.ev α.tm=.agg l) (h2:i.ev α.tm=.v (.int ik j)) (h3:qh k l (j.toNat*m)=some a) (h4:0<=j) (h5:j < len):ad P w0 dr (.l8 len m k x i) α S a S:=by
 refine ad.of rfl fun o hr=>?_
 cases o<;>simp only [res,b9,dY] at hr<;>(repeat' split at hr)<;>(try cases hr)
 rw [aR] at h1 h2
 rename_i hs hk
 rw [<-uK hk] at h3
 simp only [bo, *]
 exact bm.mk rfl ⟨trivial,trivial,rfl,rfl⟩
theorem EW {x:QO}{o:Op}(h:res P.toTables o=some (.len false x)):∃ c t u e,o=.call c/\c.callee=.builtin .len/\c.argTypes=#[t]/\c.args=#[u]/\x=qo u/\P.underlying t=some (.slice e):=by
 cases o<;>simp only [res,b9] at h<;>(repeat' split at h)<;>(try cases h)
 rename_i c hc t y h1 h2 e hu
 exact⟨_,_,_,_,rfl,by assumption,toList_one (by assumption),toList_one (by assumption),rfl,by assumption⟩
theorem CC {o:Oper}{x:QO}{k sz len:Nat}(hr:res P.toTables o.op=some (.len false x)) (β:AA) (h:x.ev β.tm=.gr k sz len):ew P w0 n o β S (.v (.int .i64 len)) S:=by
 obtain⟨c,t,u,e,ho,hc,ht,hu,rfl,hs⟩:=EW hr
 rw [aR] at h
 refine bf.ops (bf.quiet fun A g q w hS hA=>?_) fun c' e=>by
  rw [ho] at e
  cases e
 have h1:=hA.ev u
 rw [h] at h1
 refine⟨_,?_,.v⟩
 rcases pP h1 with ⟨rfl,A',hv⟩|⟨_,c',hv,_,_⟩
 ·simp [execOp,ho,resolve,hc,hu,ht,hv,invoke,builtin,Builtin.len_,run_underlying hs,goInt]
 ·simp [execOp,ho,resolve,hc,hu,ht,hv,invoke,builtin,Builtin.len_,run_underlying hs,goInt]
theorem ad.TL {dr:Bool}{x:QO}{k sz len:Nat}(h:x.ev α.tm=.gr k sz len):ad P w0 dr (.len false x) α S (.v (.int .i64 len)) S:=by
 cases dr with
 |false=>exact fun n o hr=>CC hr α h
 |true =>
  intro n o hr
  obtain⟨c,t,u,e,ho,hc,ht,hu,hx,hs⟩:=EW hr
  have h2:x.ev (α.only (dp o)).tm=.gr k sz len:=by
   rw [<-h,hx,aR,aR]
   exact jw fun t e=>iN (by rw [ho,<-e];show u ∈ c.operands;simp [Call.operands,hu])
  have h3:∀ T,ew P w0 n o (α.only (dp o)) T (.v (.int .i64 len)) T:=fun T=>CC hr _ h2
  exact⟨h3 S,fun _=>⟨rfl,h3⟩,fun _=>rfl⟩
theorem ab.abA {σ:Type}{N:Nat}{ds:List Nat}{st:σ->List (Nat × AV)}{so:σ->List (Nat × Ob)}{I:σ->Prop}{ch:List PanicEntry}(h:ab P w0 rd n Q (.out (.panic ch) K) α S):ab P w0 rd n (FR P w0 rd n B N st ds so I Q K) (.out (.panic ch) []) α S:=h
end
section
variable {P:Program}{w0:World}{dr:Bool}{N:Nat}{so:List (Nat × Ob)}{S T:ae}{α:AA}{f:FuncId}{args:List AV}{r:AV}
theorem Rn.b_ {a:AV}(h:dH N a):Rn id N a a:=fun g w x hr=>aJ.b_ (B:=N) (g:=g) (g':=g.pre id N) (fun k hk ha=>⟨hk,ha⟩) (fun _ _=>rfl) (fun _ _=>rfl) (fun _ _ h=>h) hr h
theorem dC.b_ {g g':Gh}{w:World}{B b cp:Nat}{o:Ob}(bN:∀ k,k < B->g.al k->g'.al k) (gB:∀ k,k < B->g.al k->g'.ob k=g.ob k) (nr:∀ k,k < B->g.al k->g'.cp k=g.cp k) (hf:g'.fz=g.fz) (hk:oy B o) (hn:∀ J,o ≠ .fo J)
  (hr:∀ {a:AV}{x:Value},dH B a->aJ g w a x->aJ g' w a x) (h:dC g w b cp o):dC g' w b cp o:=by
 cases o with
 |arr sz rows fz ex =>
  obtain⟨cs,ty,h1,h2,h3,h4,h5,h6,h7⟩:=h
  refine⟨cs,ty,h1,h2,h3,h4,fun i row jg=>⟨(h5 i row jg).1,fun j a ha=>?_⟩,h6,by rw [hf];exact h7⟩
  obtain⟨x,hx,dw⟩:=(h5 i row jg).2 j a ha
  exact⟨x,hx,hr (hk _ (List.mem_of_getElem? jg) _ (List.mem_of_getElem? ha)) dw⟩
 |mp es =>
  obtain⟨entries,clock,h1,h2,h3⟩:=h
  refine⟨entries,clock,h1,h2,fun i k a ha=>?_⟩
  obtain⟨e,he,jh,hre⟩:=h3 i k a ha
  exact⟨e,he,jh,hr (hk _ (List.mem_of_getElem? ha)) hre⟩
 |lp st sO tm ps assign body =>
  obtain⟨L,h1,h2,h3,h4,h5,h6,h7,h8⟩:=h
  exact⟨L,h1,h2,h3,h4,h5,h6,fun t ht=>hr (hk t) (h7 t ht),h8⟩
 |df=>exact h
 |si s pos=>exact h
 |fo J=>exact absurd rfl (hn J)
 |un=>exact h.elim
theorem hO.b_ {o:Ob}(hk:oy N o) (hn:∀ J,o ≠ .fo J):hO id N o o:=by
 refine⟨fun g w b cp h=>?_,fun J h=>h⟩
 exact dC.b_ (B:=N) (g:=g) (g':=g.pre id N) (fun k hk ha=>⟨hk,ha⟩) (fun _ _ _=>rfl) (fun _ _ _=>rfl) rfl hk hn (fun hk h=>Rn.b_ hk g w _ h) h
theorem aJ.back {gc g:Gh}{w:World}{o:Nat->Nat}(ho:∀ k,k < N->o k=k) (hB:Bk o gc g):∀ {a:AV}{x:Value},dH N a->aJ gc w a x->aJ g w a x:=by
 have bN:∀ k,k < N->gc.al k->g.al k:=fun k hk ha=>by have:=hB.al k ha;rwa [ho k hk] at this
 have gB:∀ k,k < N->gc.al k->g.ob k=gc.ob k:=fun k hk ha=>by have:=hB.ob k ha;rwa [ho k hk] at this
 have nr:∀ k,k < N->gc.al k->g.cp k=gc.cp k:=fun k hk ha=>by have:=hB.cp k ha;rwa [ho k hk] at this
 have oX:=hB.fz
 intro a x hp h
 induction h with
 |u=>exact .u
 |v=>exact .v
 |agg hs h ih=>cases hp with|agg hp=>exact .agg hs fun i a x h1 h2=>ih i a x h1 h2 (hp _ (List.mem_of_getElem? h1))
 |bg hs h ih=>cases hp with|bg hp=>exact .bg hs fun i a x h1 h2=>ih i a x h1 h2 (hp _ (List.mem_of_getElem? h1))
 |nil hc=>exact .nil hc
 |sl hn mK hle hl h hr ih =>
  cases hp with
  |sl hp=>exact .sl hn mK hle hl (fun i j row a h1 h2=>⟨by rw [oX];exact (h i j row a h1 h2).1,(h i j row a h1 h2).2⟩) (fun i j row a h1 h2=>ih i j row a h1 h2 (hp _ (List.mem_of_getElem? h1) _ (List.mem_of_getElem? h2)))
 |ip h hr ih =>
  cases hp with
  |ip hp=>exact .ip (fun i a h1=>⟨by rw [oX];exact (h i a h1).1,(h i a h1).2⟩) (fun i a h1=>ih i a h1 (hp _ (List.mem_of_getElem? h1)))
 |ob hk hc I3 hx hle =>
  cases hp with
  |ob au =>
   rw [<-gB _ au hk]
   exact .ob (bN _ au hk) hc (by rw [nr _ au hk];exact I3) (by rw [nr _ au hk];exact hx) hle
 |pt hk =>
  cases hp with
  |pt au=>rw [<-gB _ au hk];exact .pt (bN _ au hk)
 |mp hk =>
  cases hp with
  |mp au=>rw [<-gB _ au hk];exact .mp (bN _ au hk)
 |yl hk =>
  cases hp with
  |yl au=>rw [<-gB _ au hk];exact .yl (bN _ au hk)
 |iQ=>exact .iQ
 |gr hk hx hle =>
  cases hp with
  |gr au=>rw [<-gB _ au hk];exact .gr (bN _ au hk) (by rw [nr _ au hk];exact hx) hle
 |fn h1 h2 h3 h4 Ju CD =>
  cases hp with
  |fn p1 p2=>exact .fn h1 h2 (fun i a x e1 e2=>Ju i a x e1 e2 (p1 _ (List.mem_of_getElem? e1))) (fun i a x e1 e2=>CD i a x e1 e2 (p2 _ (List.mem_of_getElem? e1)))
structure uL (so:List (Nat × Ob)) (N:Nat) (T:ae):Prop where
 le:N<=T.nx
 get:∀ j o,ix so j=some o->j < N/\T.get j=some o/\oy N o/\∀ J,o ≠ .fo J
 all:∀ j,j < N->∃ o,ix so j=some o
theorem bc.same (h:bc P w0 f args (aM so N) r (aM so N)) (hT:uL so N T) (ha:∀ a ∈ args,dH N a) (hr:dH N r):bc P w0 f args T r T:=by
 obtain⟨T',TM⟩:∃ T':ae,T'=⟨fun k=>if k < T.nx then T.get k else none,T.nx⟩:=⟨_,rfl⟩
 have get':∀ k o,T'.get k=some o->k < T.nx/\T.get k=some o:=fun k o hk=>by
  rw [TM] at hk
  have hk:(if k < T.nx then T.get k else none)=some o:=hk
  split at hk
  ·exact⟨by assumption,hk⟩
  ·cases hk
 have Jv:T'.nx=T.nx:=by rw [TM]
 have TN:∀ k o,k < T.nx->T.get k=some o->T'.get k=some o:=fun k o hk h=>by
  rw [TM]
  show (if k < T.nx then T.get k else none)=some o
  rw [if_pos hk];exact h
 have hle:=hT.le
 have ho:∀ k,k < N->gw id N T'.nx k=k:=fun k hk=>my hk
 have hf:Fits id (aM so N) (aM so N) T' T':=by
  refine⟨fun i j _ _ e=>e,fun j hj=>by rw [Jv];exact Nat.lt_of_lt_of_le hj hle,fun j o hj=>?_,fun k o hk=>?_,.inr ⟨Nat.le_refl _,rfl⟩,.inr fun j J hj=>?_⟩
  ·obtain⟨h1,h2,h3,h4⟩:=hT.get j o hj
   exact⟨o,TN j o (Nat.lt_of_lt_of_le h1 hle) h2,hO.b_ h3 h4⟩
  ·obtain⟨h1,h2⟩:=get' k o hk
   by_cases jh:k < N
   ·obtain⟨o',OM⟩:=hT.all k jh
    obtain⟨q1,q2,q3,q4⟩:=hT.get k o' OM
    obtain rfl:o'=o:=by rw [h2] at q2;exact (Option.some.inj q2).symm
    refine .inl ⟨k,o',ho k jh,OM,fun gc g w b cp hB _ w_=>?_,fun J e=>e⟩
    have rf:∀ k,k < N->gw id (aM so N).nx T'.nx k=k:=ho
    exact dC.b_ (B:=N) (fun k hk ha=>by have:=hB.al k ha;rwa [rf k hk] at this) (fun k hk ha=>by have:=hB.ob k ha;rwa [rf k hk] at this) (fun k hk ha=>by have:=hB.cp k ha;rwa [rf k hk] at this) hB.fz q3 q4 (fun hk h=>aJ.back rf hB hk h) w_
   ·exact .inr ⟨by rw [Jv];exact h1,fun j hj e=>jh (by rw [<-e];exact hj),hk⟩
  ·obtain⟨_,_,_,h4⟩:=hT.get j _ hj
   exact absurd rfl (h4 J)
 have hc:=h.frame hf rfl (fun i a b h1 h2=>by
  rw [h1] at h2
  obtain rfl:=Option.some.inj h2
  exact Rn.b_ (ha _ (List.mem_of_getElem? h1))) (fun gc g w x hB w_=>aJ.back (N:=N) (o:=gw id (aM so N).nx T'.nx) ho hB hr w_)
 refine⟨hc.1,fun F m A g bL w hF hS hA=>(hc.2 F m A g bL w hF (hS.forget (by rw [Jv];exact Nat.le_refl _) fun j p hj _=>(get' j p hj).2) hA).mono ?_⟩
 rintro e w' ⟨v,g',rfl,h1,h2,h3⟩
 refine⟨v,g',rfl,h1,h2.forget (by rw [Jv];exact Nat.le_refl _) fun j p hj bN=>?_,h3⟩
 have:=h2.al j bN
 exact TN j p (by rw [<-Jv];exact this) hj
theorem ad.vM {f:QO}{kz:List QO}{g:FuncId}{args:List AV}(hc:bc P w0 g args (aM so N) r (aM so N)) (h:eL (f.ev α.tm) (kz.map (·.ev α.tm))=some (g,args)) (hT:uL so N T) (ha:∀ a ∈ args,dH N a) (hr:dH N r):ad P w0 dr (.call f kz) α T r T :=
 ad.call h (hc.same hT ha hr) fun _=>rfl
end
section
variable {P:Program}{w0:World}{α:AA}{S:ae}
theorem ad.Bs {x i b:QO}{k:Nat}{es:List (Value × AV)}{m:Int}{a:AV}(hx:x.ev α.tm=.mp k) (hS:S.get k=some (.mp es)) (hk:rN es) (hi:i.ev α.tm=.v (.int .i64 m)) (hb:b.ev α.tm=a) :
  ad P w0 true (.jL x i b) α S (.v undef) (S.set k (some (.mp (wP es m a)))):=by
 intro n o hr
 obtain⟨t,u,v,y,kt,et,kk,ho,rfl,rfl,rfl,h1,h2⟩:=B0 hr
 rw [aR] at hx hi hb
 have e:∀ z ∈ [u,v,y],(α.only (dp o)).ev z=α.ev z:=fun z hz=>jw fun t ht=>iN (by rw [ho];simp [Op.operands,<-ht];simpa using hz)
 exact⟨(B4 ho h1 h2 (by rw [e u (by simp)];exact hx) hS hk (by rw [e v (by simp)];exact hi) (by rw [e y (by simp)];exact hb)).ops (fun c e=>by rw [ho] at e;cases e),
  fun hp=>(by rw [ho] at hp;cases hp),fun hw=>(by rw [ho] at hw;cases hw)⟩
theorem ab.Bs {rd:Bool}{n:Nat}{Q:Exit->AA->ae->Prop}{l:List QI}{K:List iC}{ρ:Hd}{T:Type}{f:T->AV}{kv:List (Int × T)}{d:Option Nat}{g:Option (Nat × Bool)}{x i b:QO}{k:Nat}{m:Int}{v:T}(hw:cj α.tm g=some true) (hx:x.ev α.tm=.mp k) (hS:S.get k=some (.mp (ρ.h (ku f) kv))) (hi:i.ev α.tm=.v (.int .i64 m)) (hb:b.ev α.tm=f v)
  (k1:∀ sd,sd=l9 kv m v->ab P w0 rd n Q (.bD true l K) (cD d α (.v undef)) (S.set k (some (.mp (ρ.h (ku f) sd))))):ab P w0 rd n Q (.bD true (⟨d,g,.jL x i b⟩::l) K) α S:=by
 have h:=ad.Bs (P:=P) (w0:=w0) hx hS (by rw [ρ.eq];exact zo) hi hb
 rw [ρ.eq,BZ,<-ρ.eq (ku f)] at h
 exact ab.op (i:=⟨d,g,.jL x i b⟩) hw h (k1 _ rfl)
end
section
variable {P:Program}{w0:World}{α:AA}{S:ae}
theorem Ly {v:Value}(h:lift v=.sl true []):v=.slice none 0 0:=by
 have h1:∀ v,bV v=.sl true []->v=.slice none 0 0:=by
  intro v h
  unfold bV at h
  split at h
  ·rfl
  ·cases h
 cases v with
 |agg cs=>cases h
 |_=>exact h1 _ h
theorem TO {u:Operand}(h:.c (.sl true [])=qo u):u=.const (.slice none 0 0):=by
 cases u with
 |const v =>
  injection h with h
  rw [Ly h.symm]
 |_=>cases h
theorem EX {o:Op}{op:BinOp}{x:QO}(h:res P.toTables o=some (.bin op .s x (.c (.sl true [])))):∃ t u s e,o=.binOp op t u (.const (.slice none 0 0)) s/\x=qo u/\P.underlying t=some (.slice e):=by
 cases o with
 |binOp op' t u v s =>
  simp only [res,b9] at h
  split at h
  ·cases h
  ·rename_i e hu
   simp only [Option.some.injEq,dm.bin.injEq] at h
   obtain⟨rfl,_,rfl,h4⟩:=h
   rw [TO h4.symm]
   exact⟨_,_,_,_,rfl,rfl,hu⟩
  ·split at h<;>cases h
  ·cases h
 |_ =>
  simp only [res] at h
  repeat' split at h
  all_goals cases h
def zh:AV->Option Bool
 |.sl _ (_::_)=>some false
 |.ob ..=>some false
 |.gr _ _ (_+1)=>some false
 |.v (.slice A _ _)=>some A.isNone
 |_=>none
theorem Lz {g:Gh}{w:World}{a:AV}{x:Value}{b:Bool}(h:zh a=some b) (hr:aJ g w a x):∃ A l c,x=.slice A l c/\A.isNone=b:=by
 unfold zh at h
 split at h
 ·cases hr with
  |sl=>obtain rfl:=Option.some.inj h;exact⟨_,_,_,rfl,rfl⟩
 ·cases hr with
  |ob=>obtain rfl:=Option.some.inj h;exact⟨_,_,_,rfl,rfl⟩
 ·cases hr with
  |gr=>obtain rfl:=Option.some.inj h;exact⟨_,_,_,rfl,rfl⟩
 ·cases hr with
  |v=>obtain rfl:=Option.some.inj h;exact⟨_,_,_,rfl,rfl⟩
 ·cases h
def LA (op:BinOp) (b:Bool):Option Bool:=match op with
 |.eql=>some b
 |.neq=>some (!b)
 |_=>none
theorem EY {op:BinOp}{x:QO}{b d:Bool}{n:Nat}{o:Oper}(hr:res P.toTables o.op=some (.bin op .s x (.c (.sl true [])))) (β:AA) (hx:zh (x.ev β.tm)=some b) (hd:LA op b=some d):ew P w0 n o β S (.v (.bool d)) S:=by
 obtain⟨t,u,s,e,ho,rfl,hu⟩:=EX hr
 rw [aR] at hx
 refine bf.ops (bf.quiet fun A g c w hS hA=>⟨.bool d,?_,.v⟩) fun c e=>by rw [ho] at e;cases e
 obtain⟨B,l,cc,h1,rfl⟩:=Lz hx (hA.ev u)
 have h2:c.eval (.const (.slice none 0 0))=.slice none 0 0:=rfl
 cases op<;>cases hd
 ·simp [execOp,ho,h1,eqGuard,h2,binOp,run_equal_slice_nil w t e B l cc hu]
 ·simp [execOp,ho,h1,eqGuard,h2,binOp,run_equal_slice_nil w t e B l cc hu]
theorem ad.nil {dr:Bool}{op:BinOp}{x:QO}{b d:Bool}(hx:zh (x.ev α.tm)=some b) (hd:LA op b=some d):ad P w0 dr (.bin op .s x (.c (.sl true []))) α S (.v (.bool d)) S:=by
 cases dr with
 |false=>exact fun n o hr=>EY hr α hx hd
 |true =>
  intro n o hr
  obtain⟨t,u,s,e,ho,hu,_⟩:=EX hr
  have key:∀ z ∈ o.op.operands,(α.only (dp o)).ev z=α.ev z:=fun z hz=>jw fun t e=>iN (by rw [<-e];exact hz)
  have h1:(α.only (dp o)).ev u=α.ev u:=key u (by rw [ho];simp [Op.operands])
  have h3:∀ T,ew P w0 n o (α.only (dp o)) T (.v (.bool d)) T:=fun T=>EY hr _ (by rw [hu,aR,h1,<-aR,<-hu];exact hx) hd
  exact⟨h3 S,fun _=>⟨rfl,h3⟩,fun _=>rfl⟩
end
end Go.Proofs.YtbofilglphfceaaGreat
