import Derived.Laws.CopyRow
import Derived.Test.YtbpabjmnhggajaaGreatOs25
namespace Go.Proofs.YtbpabjmnhggajaaGreat
set_option linter.unusedVariables false
set_option linter.unusedSimpArgs false
open Go.RowKit
section
set_option maxRecDepth 100000
attribute [local irreducible] ah aC af ad
def ahd:FQ 78 Tryz.f78:=a_ Tryz.func78 Tryz.call78
def Bx:List Nat:=[8,0,5,4,7,9,1,16]
def ahe:FQ 44 Tryz.f44:=a_ Tryz.func44 Tryz.call44
def Zn:List Nat:=[4,0,1]
def acU:FQ 233 Tryz.f233:=a_ Tryz.func233 Tryz.call233
def tE:List Nat:=[8,0,5,4,1,7,9,3,16]
def acV:FQ 192 Tryz.f192:=a_ Tryz.func192 Tryz.call192
def SD:List Nat:=[4,1,0,3]
def acW:FQ 133 Tryz.f133:=a_ Tryz.func133 Tryz.call133
def Zo:List Nat:=[6,0,1,2]
theorem Ie {T:Type}(p:T->Bool):∀ (l:List T) (k:Nat),0<=du p l k->∃ (j:Nat) (x:T),du p l k=((k+j:Nat):Int)/\l[j]?=some x/\l.find? p=some x
 |[],k,h=>by grind[du]
 |x::l,k,h=>by
  rw[du] at h ⊢;by_cases c:p x=true
  ·rw[if_pos c];exact⟨0,x,rfl,rfl,by grind⟩
  ·rw[if_neg c] at h ⊢;obtain⟨j,y,h1,h2,h3⟩:=Ie p l (k+1) h;exact⟨j+1,y,by grind,by grind,by grind⟩
theorem Lu {T:Type}(p:T->Bool):∀ (l:List T) (k:Nat),du p l k < 0->l.find? p=none
 |[],k,h=>rfl
 |x::l,k,h=>by
  rw[du] at h;by_cases c:p x=true
  ·grind
  ·rw[if_neg c] at h;rw[List.find?_cons];simp[c,Lu p l (k+1) h]
theorem Ig (l:List Int) (v:Int):(l.any fun x=>v == x)=l.contains v:=by grind
section
variable {w0:World}{ρ:Hd}
theorem Vc (l:List Int) (v:Int) (hl:l.length<=1099511627776):ah Tryz.prog w0 78 [aX ρ aP false l,iv v] (iv (du (fun x=>v == x) l 0)):=by
 obtain⟨R,hR⟩:∃ R,R=du (fun x=>v == x) l 0:=⟨_,rfl⟩;rw[<-hR];refine st ahd Bx .v ?_
 repeat' (first
  |refine lg Bx fun m hm=>?_
  )
 refine ad.bu (σ:=Int) 0 0 [] (fun i=>[(0,aX ρ aP false l),(1,.v (.int .i64 v)),(7,.v (.int .i64 m)),(8,.v (.int .i64 i))]) [] (fun _=>[]) (fun i=>∃ k:Nat,i=k/\k<=l.length/\R=du (fun x=>v == x) (l.drop k) k) (fun i=>l.length - i.toNat) 0 ⟨0,rfl,by simp,by grind⟩ rfl cq ?_;rintro i ⟨k,hi,hk,hp⟩;clear hR;refine gq Bx ?_;by_cases aA:k < l.length
 ·obtain⟨x,hx,bK⟩:=bf aA;rw[bK,du] at hp
  repeat' (first
   |refine og Bx (af.ind rfl rfl (aY (l:=l) hi hx) (aZ fun _=>rfl)) ?_
   |refine cg Bx (fun hb=>?_) fun hb=>?_
   |refine ag Bx fun _ _=>?_
   |refine ad.aH ?_;refine gq Bx ?_
   |refine ad.cP ?_;refine gq Bx ?_
   |(refine fq ?_))
  all_goals first
   |rw[if_pos (by grind)] at hp;refine jD ?_;omega
   |rw[if_neg (by grind)] at hp;(refine ad.aO (σ:=Int) _ [] ?_ ?_ cq<;>first|omega|exact⟨k+1,by omega,by omega,hp⟩)
 ·skip
  repeat' (first
   |refine cg Bx (fun hb=>?_) fun hb=>?_
   |refine ad.aH ?_;refine gq Bx ?_
   |(refine fq ?_))
  all_goals first
   |exfalso;omega
   |rw[hp,List.drop_eq_nil_of_le (by omega)];exact jD rfl
theorem Ih (l:List Int) (v:Int) (hl:l.length<=1099511627776):ah Tryz.prog w0 44 [aX ρ aP false l,iv v] (.v (.bool (l.contains v))):=by
 have hI:=Vc (w0:=w0) (ρ:=ρ) l v hl;have qx:=tB (fun x=>v == x) l 0;rw[Ig] at qx;obtain⟨j,hj⟩:∃ j,j=du (fun x=>v == x) l 0:=⟨_,rfl⟩;rw[<-hj] at hI qx;refine st ahe Zn .v ?_
 repeat' (first
  |refine ig Zn (af.aw rfl hI ⟨bp _,.v,trivial⟩) fun _ _=>?_
  |refine cg Zn (fun hb=>?_) fun hb=>?_
  |(refine fq ?_))
 all_goals (subst_vars;refine eA ?_;rw[<-qx];simp_all)
theorem Lv (n n':ByteArray) (i i':Int):Pu Tryz.prog 54 (.agg #[.string n,.int .i64 i]) (.agg #[.string n',.int .i64 i']) (n.toList == n'.toList && i == i'):=by
 refine⟨⟨_,_,rfl,rfl⟩,by kernel_rfl,fun w=>?_⟩;have hS:Tryz.prog.underlying 54=some (.struct (Tryz.prog.fieldsOf 54)):=by kernel_rfl
 have hp:Tryz.prog.stoodInHeld 54=false:=by kernel_rfl
 have u3:=Tryz.underlying3;have u9:=Tryz.underlying9;have a3:=Tryz.isAgg3;have a9:=Tryz.isAgg9;rw[run_eql_struct,show (10000:Nat)=9998+1+1 from rfl,run_equalIn_agg w _ 54 _ _ hS hp];simp only[Program.fieldsOf,Tryz.underlying54];have e1:∀ w,(Op.equalIn (9998+1) 9 (.string n) (.string n')).run Tryz.prog w=.ok (n.toList == n'.toList) w:=fun w=>run_equalIn_string w _ _ _ _ u9;have e2:∀ w,(Op.equalIn (9998+1) 3 (.int .i64 i) (.int .i64 i')).run Tryz.prog w=.ok (i == i') w:=fun w=>run_equalIn_int w _ _ _ _ _ _ u3;cases h1:(n.toList == n'.toList)<;>cases h2:(i == i')<;>simp[Op.eqFields,part,a3,a9,e1,e2,h1,h2]
def Dg (n:ByteArray) (i:Int) (d:Dc):Bool:=n.toList == d.n.toList && i == d.ar
theorem WU (l:List Dc) (n:ByteArray) (i:Int):l.any (Dg n i)=w_ l n i:=by grind[w_,Dg]
theorem acX (l:List Dc) (n:ByteArray) (a:Int) (hl:l.length<=1099511627776):ah Tryz.prog w0 233 [gk ρ l,dc ⟨n,a⟩] (iv (du (Dg n a) l 0)):=by
 obtain⟨R,hR⟩:∃ R,R=du (Dg n a) l 0:=⟨_,rfl⟩;rw[<-hR];refine st acU tE .v ?_
 repeat' (first
  |refine lg tE fun m hm=>?_
  )
 refine ad.bu (σ:=Int) 1 1 [] (fun i=>[(0,gk ρ l),(3,.pt 0 2 0 0),(7,.v (.int .i64 m)),(8,.v (.int .i64 i))]) [] (fun _=>[(0,.arr 2 [O6 ⟨n,a⟩] 0 true)]) (fun i=>∃ k:Nat,i=k/\k<=l.length/\R=du (Dg n a) (l.drop k) k) (fun i=>l.length - i.toNat) 0 ⟨0,rfl,by simp,by grind⟩ rfl (by exact⟨sq,rfl,⟨.inl ⟨_,rfl,.arr (by exact⟨kq,trivial⟩)⟩,trivial⟩,rfl,rfl,rfl⟩) ?_;rintro i ⟨k,hi,hk,hp⟩;clear hR;refine gq tE ?_;by_cases aA:k < l.length
 ·obtain⟨x,hx,bK⟩:=bf aA;rw[bK,du] at hp;obtain⟨xn,xa⟩:=x
  repeat' (first
   |refine og tE (af.ind rfl rfl (aY (l:=l) hi hx) (aZ fun _=>rfl)) ?_
   |refine bg tE (af.eqs rfl rfl (Lv n xn a xa)) (fun _=>?_) fun _=>?_
   |refine cg tE (fun hb=>?_) fun hb=>?_
   |refine ag tE fun _ _=>?_
   |refine ad.aH ?_;refine gq tE ?_
   |refine ad.cP ?_;refine gq tE ?_
   |(refine fq ?_))
  ·grind[Dg,jD]
  ·have hq:(n.toList == xn.toList && a == xa)=false:=by grind
   rw[if_neg (show ¬ Dg n a ⟨xn,xa⟩=true from by show ¬ (n.toList == xn.toList && a == xa)=true;rw[hq];simp)] at hp
   (refine ad.aO (σ:=Int) _ [] ?_ ?_ (by exact⟨sq,rfl,⟨.inl ⟨_,rfl,.arr (by exact⟨kq,trivial⟩)⟩,trivial⟩,rfl,rfl,rfl⟩)<;>first|omega|exact⟨k+1,by omega,by omega,hp⟩)
  ·omega
 ·skip
  repeat' (first
   |refine cg tE (fun hb=>?_) fun hb=>?_
   |refine ad.aH ?_;refine gq tE ?_
   |(refine fq ?_))
  all_goals first
   |exfalso;omega
   |rw[hp,List.drop_eq_nil_of_le (by omega)];exact jD rfl
theorem Zp (l:List Dc) (n:ByteArray) (a:Int) (hl:l.length<=1099511627776):ah Tryz.prog w0 192 [gk ρ l,dc ⟨n,a⟩] (.v (.bool (w_ l n a))):=by
 have hI:=acX (w0:=w0) (ρ:=ρ) l n a hl;have qx:=tB (Dg n a) l 0;rw[WU] at qx;obtain⟨j,hj⟩:∃ j,j=du (Dg n a) l 0:=⟨_,rfl⟩;rw[<-hj] at hI qx;refine st acV SD .v ?_
 repeat' (first
  |refine ig SD (af.aw rfl hI ⟨dU _,EM ⟨n,a⟩,trivial⟩) fun _ _=>?_
  |refine cg SD (fun hb=>?_) fun hb=>?_
  |(refine fq ?_))
 all_goals (subst_vars;refine eA ?_;rw[<-qx];simp_all)
theorem M0 (l:List Dc) (n:ByteArray) (a:Int) (hl:l.length<=1099511627776):ah Tryz.prog w0 133 [gk ρ l,.v (.string n),iv a] (.v (.bool (w_ l n a))):=by
 have hI:=Zp (w0:=w0) (ρ:=ρ) l n a hl;obtain⟨R,hR⟩:∃ R,R=w_ l n a:=⟨_,rfl⟩;rw[<-hR] at hI ⊢;refine st acW Zo .v ?_
 repeat' (first
  |refine og Zo (af.aw rfl hI ⟨dU _,EM ⟨n,a⟩,trivial⟩) ?_
  |(refine fq ?_))
 exact eA rfl
end
end
section
variable {P:Program}{w0:World}{rd:Bool}{n B:Nat}{α:AA}{S S' S1:ae}{Q:Exit->AA->ae->Prop}{r r':AV}{l:List QI}{K:List ff}{o:Oper}{V:List (Nat × Nat)}{lg:List (List Nat × List Nat × Bool)}{rs:List Nat}
theorem ez.rv (h:ez P w0 n o α S r S') (k:Rv w0 r S' r' S1):ez P w0 n o α S r' S1:=by
 intro F m A g a w nx R hF hS hA hn;refine h F m A g a w nx R hF hS hA fun v w' g' h1 h2 h3=>?_;obtain⟨g2,k1,k2,k3⟩:=k A g g' w w' v h2 h1;exact hn v w' g2 k2 k1 (h3.trans k3)
theorem Rv.move {k sz len:Nat}{rows:List (List AV)}{ex:Bool}(hk:S.get k=some (.arr sz rows 0 ex)):Rv w0 (.gr k sz len) S (.gr S.nx sz len) ((S.set k none).new (.arr sz rows 0 false)):=by
 intro A g0 g UY w v hS hr;obtain⟨T,hT⟩:∃ T,T=(S.set k none).new (.arr sz rows 0 false):=⟨_,rfl⟩;obtain⟨g',pf⟩:∃ g':Gh,g'=⟨a7 g.ob S.nx (g.ob k),a7 g.cp S.nx (g.cp k),fun j=>g.al j\/(j=S.nx/\g.al k),g.fz,g.fo⟩:=⟨_,rfl⟩;have nY:¬ g.al S.nx:=fun h=>Nat.lt_irrefl _ (hS.al _ h);have Dh:∀ j,j ≠ S.nx->g'.ob j=g.ob j:=fun j e=>by rw[pf];exact aD _ _ e
 have cp':∀ j,j ≠ S.nx->g'.cp j=g.cp j:=fun j e=>by rw[pf];exact aD _ _ e
 have PD:g'.ob S.nx=g.ob k:=by rw[pf];exact az _ _ _
 have cpn:g'.cp S.nx=g.cp k:=by rw[pf];exact az _ _ _
 have r8:∀ j,g'.al j->j ≠ S.nx->g.al j:=fun j h e=>by
  rw[pf] at h;rcases h with h|⟨h,_⟩
  ·grind
  ·grind
 have Vd:g'.al S.nx->g.al k:=fun h=>by
  rw[pf] at h;rcases h with h|⟨_,h⟩
  ·grind
  ·grind
 have ne:∀ j,g.al j->j ≠ S.nx:=fun j h e=>nY (e ▸ h);have hL:Later g w g' w:=⟨fun j h=>by rw[pf];exact .inl h,fun j h=>Dh j (ne j h),fun j h=>cp' j (ne j h),fun b o h=>by rw[pf];exact h,fun _ _ _=>rfl⟩;have Bj:g'.fz=g.fz:=by grind
 have Ht:g'.fo=g.fo:=by grind
 have Tn:T.get S.nx=some (.arr sz rows 0 false):=by rw[hT];exact az _ _ _
 have Tj:∀ j p,j ≠ S.nx->T.get j=some p->j ≠ k/\S.get j=some p:=by
  intro j p e h;rw[hT] at h;have h:a7 (S.set k none).get S.nx (some (.arr sz rows 0 false)) j=some p:=h;rw[aD _ _ e] at h;have h:a7 S.get k none j=some p:=h;by_cases ek:j=k
  ·grind[az]
  ·grind[aD]
 have Tf:∀ j J,T.get j=some (.fo J)->j ≠ S.nx:=fun j J h e=>by grind
 have hE:Ext A g w g' w:={ hL with size:=Nat.le_refl _,aU:=fun _ _ _=>rfl,h_:=fun b o h=>by grind};have Zq:∀ {b cp:Nat}{o:Ob},dJ g w b cp o->dJ g' w b cp o:=fun h=>h.later hL rfl (fun q h=>by grind) fun J _=>⟨by grind,Nat.le_refl _,fun _ _=>rfl,fun c q _ h=>by grind⟩;rw[<-hT];refine⟨g',⟨hS.base,hS.up,hS.lo,fun j h=>?_,fun j p hj h=>?_,fun i j p q hi hj ai aj e=>?_,fun b q h=>hS.cK b q (by grind),fun b q h=>by rw[Bj];exact hS.oT b q h,fun j J hj h=>?_,fun j J i p hj h hi ai e=>?_,fun i j J J' hi hj ai aj=>?_⟩,?_,hE⟩
 ·have e:T.nx=S.nx+1:=by rw[hT];rfl
  rw[e];by_cases ej:j=S.nx
  ·omega
  ·have:=hS.al j (r8 j h ej);omega
 ·by_cases ej:j=S.nx
  ·subst ej;rw[Tn] at hj;obtain rfl:=oJ_ hj;obtain⟨q1,q2,q3⟩:=hS.bT k _ hk (Vd h);rw[PD,cpn];refine⟨q1,q2,?_⟩;obtain⟨cs,ty,h1,h2,h3,h4,h5,h6,h7⟩:=Zq q3;exact⟨cs,ty,h1,h2,h3,(fun h=>by grind),h5,h6,h7⟩
  ·obtain⟨_,fc⟩:=Tj j p ej hj;obtain⟨q1,q2,q3⟩:=hS.bT j p fc (r8 j h ej);rw[Dh j ej,cp' j ej];exact⟨q1,q2,Zq q3⟩
 ·by_cases ei:i=S.nx
  ·by_cases ej:j=S.nx
   ·grind
   ·exfalso;subst ei;obtain⟨ek,fc⟩:=Tj j q ej hj;rw[PD,Dh j ej] at e;exact ek (hS.inj k j _ q hk fc (Vd ai) (r8 j aj ej) e).symm
  ·by_cases ej:j=S.nx
   ·exfalso;subst ej;obtain⟨ek,kM⟩:=Tj i p ei hi;rw[PD,Dh i ei] at e;exact ek (hS.inj i k p _ kM hk (r8 i ai ei) (Vd aj) e)
   ·rw[Dh i ei,Dh j ej] at e;exact hS.inj i j p q (Tj i p ei hi).2 (Tj j q ej hj).2 (r8 i ai ei) (r8 j aj ej) e
 ·have ej:=Tf j J hj;rw[Dh j ej,Ht];exact hS.iE j J (Tj j _ ej hj).2 (r8 j h ej)
 ·have ej:=Tf j J hj;rw[Dh j ej,Ht];by_cases ei:i=S.nx
  ·subst ei;rw[PD];exact hS.kL j J k _ (Tj j _ ej hj).2 (r8 j h ej) hk (Vd ai) (Tj j _ ej hj).1.symm
  ·rw[Dh i ei];exact hS.kL j J i p (Tj j _ ej hj).2 (r8 j h ej) (Tj i p ei hi).2 (r8 i ai ei) e
 ·have ei:=Tf i J hi;have ej:=Tf j J' hj;exact hS.mQ i j J J' (Tj i _ ei hi).2 (Tj j _ ej hj).2 (r8 i ai ei) (r8 j aj ej)
 ·rcases pj hr with ⟨h,A',rfl⟩|⟨gT,c,rfl,hx,hle⟩
  ·subst h;exact .jw
  ·rw[<-PD];refine .gr (by rw[pf];exact .inr ⟨rfl,gT⟩) (by grind) hle
theorem Rv.nil {sz:Nat}:Rv w0 (.sl true []) S (.gr S.nx sz 0) (S.new (.arr sz [] 0 false)):=by
 intro A g0 g UY w v hS hr;obtain⟨g',h1,h2,h3⟩:=(show ∃ g',St w0 A g' (S.new (.arr sz [] 0 false)) w/\aF g' w (.gr S.nx sz 0) v/\Ext A g w g' w from by
  have key:∀ k p,(S.new (.arr sz [] 0 false)).get k=some p->g.al k->S.get k=some p:=fun k p hk ha=>by
   have aA:=hS.al k ha;have hk:a7 S.get S.nx (some (.arr sz [] 0 false)) k=some p:=hk
   rwa [aD _ _ (by omega)] at hk
  refine⟨g,⟨hS.base,hS.up,hS.lo,fun k hk=>Nat.lt_succ_of_lt (hS.al k hk),fun k p hk ha=>hS.bT k p (key k p hk ha) ha,fun i j p q hi hj ai aj e=>hS.inj i j p q (key i p hi ai) (key j q hj aj) ai aj e,hS.cK,hS.oT,
   fun k J hk ha=>hS.iE k J (key k _ hk ha) ha,fun k J j p hk ha hj aj=>hS.kL k J j p (key k _ hk ha) ha (key j p hj aj) aj,fun j k J J' hj hk aj ak=>hS.mQ j k J J' (key j _ hj aj) (key k _ hk ak) aj ak⟩,?_,Ext.refl ..⟩
  cases hr with
  |nil hz=>obtain rfl:=hz rfl;exact .jw
  |sl hz=>exact absurd rfl hz)
 exact⟨g',h1,h2,h3⟩
theorem Rv.Zr {k sz len:Nat}:Rv w0 (.ob k sz 0 len none) S (.gr k sz len) S:=by
 intro A g0 g UY w v hS hr;refine⟨g,hS,?_,Ext.refl ..⟩;cases hr with
 |ob q1 q2 q3 q4 q5=>rw[Nat.zero_mul];exact .gr q1 (by grind) q5
section
variable {ρ:Hd}{T:Type}{f:T->List AV}{acc ys:List T}
theorem ad.SE {dd:Option Nat}{gg:Option (Nat × Bool)}{t:Nat}{b:QO}{sz by_ k len:Nat}{ex ex':Bool}(hw:bm α.tm gg=some true) (h1:α.tm t=.gr k sz len) (hk:S.get k=some (.arr sz (ρ.h (List.map f) acc) 0 ex)) (hn:len=acc.length) (iK:∀ c,b.ev (a7 α.tm t c)=b.ev α.tm)
  (hb:b.ev α.tm=aX ρ f ex' ys) (hl:∀ x,(f x).length=sz) (hc:∀ x,(f x).all bO=true) (hy:(len+ys.length)*by_<=35184372088832)
  (kk:∀ dp eK,dp=acc++ys->eK=dp.length->ad P w0 rd n Q (.aN false l K) (bC dd α (.gr S.nx sz eK)) ((S.set k none).new (.arr sz (ρ.h (List.map f) dp) 0 false))):ad P w0 rd n Q (.aN false (⟨dd,gg,.append sz by_ (.t t) b⟩::l) K) α S:=by
 have hlen:(ρ.h (List.map f) acc).length=acc.length:=aE;by_cases h0:ys=[]
 ·subst h0;rw[bQ] at hb;have h:=kk acc len (by simp) hn;exact ad.op (i:=⟨dd,gg,.append sz by_ (.t t) b⟩) hw (fun n o ho=>(zf ho h1 hk (by omega) iK (by rw[hb];exact fL)).rv (Rv.move hk)) h
 ·exact ad.SC hw h1 hk hn iK hb hl hc hy (fun h=>absurd h h0) fun dp eK _ e1 e2=>kk dp eK e1 e2
theorem ad.acY {dd:Option Nat}{gg:Option (Nat × Bool)}{t:Nat}{b:QO}{sz by_ k len:Nat}{ex ex':Bool}(hw:bm α.tm gg=some true) (h1:α.tm t=.gr k sz len) (hk:S.get k=some (.arr sz (ρ.h (List.map f) acc) 0 ex)) (hn:len=acc.length) (iK:∀ c,b.ev (a7 α.tm t c)=b.ev α.tm)
  (hb:b.ev α.tm=aX ρ f ex' ys) (hl:∀ x,(f x).length=sz) (hc:∀ x,(f x).all bO=true) (hy:(len+ys.length)*by_<=35184372088832)
  (kk:∀ dp eK,dp=acc++ys->eK=dp.length->ad P w0 rd n Q (.dN B V (lg++[([k],[S.nx,k],true)]) rs l K) (bC dd α (.gr S.nx sz eK)) (dm S [(S.nx,some (.arr sz (ρ.h (List.map f) dp) 0 false)),(k,none)] true)):ad P w0 rd n Q (.dN B V lg rs (⟨dd,gg,.append sz by_ (.t t) b⟩::l) K) α S:=by
 have hlen:(ρ.h (List.map f) acc).length=acc.length:=aE;rw[bQ] at hb;cases ys with
 |nil =>
  have h:=kk acc len (by simp) hn;refine ad.iJ (i:=⟨dd,gg,.append sz by_ (.t t) b⟩) (d:=⟨[(k,.arr sz (ρ.h (List.map f) acc) 0 ex)],[(S.nx,some (.arr sz (ρ.h (List.map f) acc) 0 false)),(k,none)],true⟩) hw ?_ h;have h0:=a6.acT (P:=P) (w0:=w0) (B:=B) (by_:=by_) h1 hk (by omega) iK hb;intro n o hr;obtain⟨e1,e2,e3⟩:=h0 n o hr;refine⟨fun hp=>(by grind[sX,qy]),e2,fun T hB hT hm=>?_⟩;have h4:=e3 T hB hT (fun h=>by grind);rw[show dm T [] false=T from cQ] at h4;have h5:=h4.rv (Rv.move (w0:=w0) (len:=len) (hT (k,.arr sz (ρ.h (List.map f) acc) 0 ex) (by simp)));rw[<-hm rfl,dT];exact h5
 |cons y ys =>
  have h:=kk _ _ rfl rfl;have e:ρ.h (List.map f) acc++List.map f (y::ys)=ρ.h (List.map f) (acc++y::ys):=by rw[ρ.eq,ρ.eq,List.map_append]
  rw[<-e,show (acc++y::ys).length=len+(f y::List.map f ys).length by grind] at h;refine ad.iJ (i:=⟨dd,gg,.append sz by_ (.t t) b⟩) hw (a6.lT (x:=f y) (more:=List.map f ys) h1 hk (by omega) iK hb (fun row hr=>?_) (by grind)) h;obtain⟨x,_,rfl⟩:=List.mem_map.1 (show row ∈ List.map f (y::ys) from hr);exact⟨hl x,hc x⟩
theorem ad.Ve {dd:Option Nat}{gg:Option (Nat × Bool)}{a b:QO}{sz by_:Nat}{ex':Bool}(hw:bm α.tm gg=some true) (h1:a.ev α.tm=.sl true [])
  (hb:b.ev α.tm=aX ρ f ex' ys) (hl:∀ x,(f x).length=sz) (hy:ys.length*by_<=35184372088832)
  (kk:∀ dp eK,dp=ys->eK=dp.length->ad P w0 rd n Q (.dN B V (lg++[([],[S.nx],true)]) rs l K) (bC dd α (.gr S.nx sz eK)) (dm S [(S.nx,some (.arr sz (ρ.h (List.map f) dp) 0 false))] true)):ad P w0 rd n Q (.dN B V lg rs (⟨dd,gg,.append sz by_ a b⟩::l) K) α S:=by
 rw[bQ] at hb;have h:=kk _ _ rfl rfl;rw[ρ.eq] at h;refine ad.iJ (i:=⟨dd,gg,.append sz by_ a b⟩) (d:=⟨[],[(S.nx,some (.arr sz (List.map f ys) 0 false))],true⟩) hw ?_ h;cases ys with
 |nil =>
  have h0:=a6.Es (P:=P) (w0:=w0) (B:=B) (S:=S) (sz:=sz) (by_:=by_) h1 hb;intro n o hr;obtain⟨e1,e2,e3⟩:=h0 n o hr;refine⟨fun hp=>(by grind[sX,qy]),e2,fun T hB hT hm=>?_⟩;have h4:=e3 T hB hT (fun h=>by grind);rw[show dm T [] false=T from cQ] at h4;have h5:=h4.rv (Rv.nil (w0:=w0) (sz:=sz));rw[<-hm rfl,dT];exact h5
 |cons y ys =>
  have h0:=a6.Et (P:=P) (w0:=w0) (B:=B) (S:=S) (sz:=sz) (by_:=by_) (x:=f y) (more:=List.map f ys) h1 hb (fun row hr=>by grind) (by grind);intro n o hr;obtain⟨e1,e2,e3⟩:=h0 n o hr;refine⟨e1,e2,fun T hB hT hm=>?_⟩;have h4:=(e3 T hB hT hm).rv (Rv.Zr (w0:=w0));simpa using h4
theorem ad.Hf {dd:Option Nat}{gg:Option (Nat × Bool)}{a b:QO}{sz by_:Nat}{ex':Bool}(hw:bm α.tm gg=some true) (h1:a.ev α.tm=.sl true [])
  (hb:b.ev α.tm=aX ρ f ex' ys) (hl:∀ x,(f x).length=sz) (hy:ys.length*by_<=35184372088832)
  (kk:∀ dp eK,dp=ys->eK=dp.length->ad P w0 rd n Q (.aN false l K) (bC dd α (.gr S.nx sz eK)) (S.new (.arr sz (ρ.h (List.map f) dp) 0 false))):ad P w0 rd n Q (.aN false (⟨dd,gg,.append sz by_ a b⟩::l) K) α S:=by
 rw[bQ] at hb;have h:=kk _ _ rfl rfl;rw[ρ.eq] at h;cases ys with
 |nil=>exact ad.op (i:=⟨dd,gg,.append sz by_ a b⟩) hw ((af.Es h1 (by rw[hb];exact fL)).rv Rv.nil) h
 |cons y ys =>
  refine ad.op (i:=⟨dd,gg,.append sz by_ a b⟩) hw ((af.Et (rows:=[]) (x:=f y) (more:=List.map f ys) h1 (by rw[hb];exact fL) (fun _ h=>by grind) (fun row hr=>by grind) (by grind)).rv Rv.Zr) ?_;simpa using h
end
theorem ad.Zs {d:Option Nat}{gd:Option (Nat × Bool)}{f:QO}{fM:List QO}{g:FuncId}{args args₀:List AV}{r₀:AV}{so':List (Nat × Ob)}{ob:Ob}(hw:bm α.tm gd=some true) (bH:aC P w0 g args (aq [] 0) r (aq so' 1)) (h:dW (f.ev α.tm) (fM.map (·.ev α.tm))=some (g,args₀)) (ha:r6 (aJ []) 0 args₀ args)
  (hr:Rb (cT (aJ []) 0 S.nx) r r₀) (hT:fu (cT (aJ []) 0 S.nx) so' [(S.nx,some ob)]) (hf:vq so'=true)
  (kk:ad P w0 rd n Q (.dN B V (lg++[([],[S.nx],true)]) rs l K) (bC d α r₀) (dm S [(S.nx,some ob)] true)):ad P w0 rd n Q (.dN B V lg rs (⟨d,gd,.call f fM⟩::l) K) α S :=
 ad.iJ (i:=⟨d,gd,.call f fM⟩) hw (a6.Vb bH h ha hr hT hf) kk
theorem af.oJ {len m:Nat}{k:LK}{x i:QO}{l:List AV}{a:AV}{ik:IntKind}{j:Int}{dr:Bool}(h1:x.ev α.tm=.agg l) (h2:i.ev α.tm=.v (.int ik j)) (h3:pD k l (j.toNat*m)=some a) (h4:0<=j) (h5:j < len):af P w0 dr (.oJ len m k x i) α S a S:=by
 refine af.of rfl fun o hr=>?_;cases o<;>simp only[res,bE,dS] at hr<;>(repeat' split at hr)<;>(try cases hr)
 rw[aI] at h1 h2;rename_i hs hk;rw[<-zi hk] at h3;simp only[a8, *];exact bc.mk rfl ⟨trivial,trivial,rfl,rfl⟩
theorem Lw {x:QO}{o:Op}(h:res P.toTables o=some (.len false x)):∃ c t u e,o=.call c/\c.callee=.builtin .len/\c.argTypes=#[t]/\c.args=#[u]/\x=qo u/\P.underlying t=some (.slice e):=by
 cases o<;>simp only[res,bE] at h<;>(repeat' split at h)<;>(try cases h)
 rename_i c hc t y h1 h2 e hu;exact⟨_,_,_,_,rfl,by grind,toList_one (by assumption),toList_one (by grind),rfl,by assumption⟩
theorem Ii {o:Oper}{x:QO}{k sz len:Nat}(hr:res P.toTables o.op=some (.len false x)) (β:AA) (h:x.ev β.tm=.gr k sz len):ez P w0 n o β S (.v (.int .i64 len)) S:=by
 obtain⟨c,t,u,e,ho,hc,ht,hu,rfl,hs⟩:=Lw hr;rw[aI] at h;refine aQ.ops (aQ.quiet fun A g q w hS hA=>?_) fun c' e=>by grind
 have h1:=hA.ev u;rw[h] at h1;refine⟨_,?_,.v⟩;rcases pj h1 with ⟨rfl,A',hv⟩|⟨_,c',hv,_,_⟩
 ·simp[execOp,ho,resolve,hc,hu,ht,hv,invoke,builtin,Builtin.len_,run_underlying hs,goInt]
 ·simp[execOp,ho,resolve,hc,hu,ht,hv,invoke,builtin,Builtin.len_,run_underlying hs,goInt]
theorem af.pE {dr:Bool}{x:QO}{k sz len:Nat}(h:x.ev α.tm=.gr k sz len):af P w0 dr (.len false x) α S (.v (.int .i64 len)) S:=by
 cases dr with
 |false=>exact fun n o hr=>Ii hr α h
 |true =>
  intro n o hr;obtain⟨c,t,u,e,ho,hc,ht,hu,hx,hs⟩:=Lw hr;have h2:x.ev (α.only (cG o)).tm=.gr k sz len:=by
   rw[<-h,hx,aI,aI];exact eH fun t e=>en (by rw[ho,<-e];show u ∈ c.operands;simp[Call.operands,hu])
  have h3:∀ T,ez P w0 n o (α.only (cG o)) T (.v (.int .i64 len)) T:=fun T=>Ii hr _ h2;exact⟨h3 S,fun _=>⟨rfl,h3⟩,fun _=>rfl⟩
theorem ad.ahf {σ:Type}{N:Nat}{ds:List DE}{st:σ->List (Nat × AV)}{so:σ->List (Nat × Ob)}{I:σ->Prop}{ch:List PanicEntry}(h:ad P w0 rd n Q (.out (.panic ch) K) α S):ad P w0 rd n (MN P w0 rd n B N st ds so I Q K) (.out (.panic ch) []) α S:=h
end
section
variable {P:Program}{w0:World}{n:Nat}{o:Oper}{α:AA}{S S':ae}{r:AV}
theorem St.EO {A:Nat->Prop}{g:Gh}{w:World}{k sz fz p:Nat}{rows more:List (List AV)}{ex:Bool}{cs:Array Value}{ty:TypeId}{news:List Value}(hS:St w0 A g S w) (hk:S.get k=some (.arr sz rows fz ex)) (ha:g.al k) (hc:w.heap[g.ob k]?=some (.cells cs ty (0,0)))
  (hl:∀ r ∈ more,r.length=sz) (hn:news.length=more.length*sz) (hr:∀ (i:Nat) (row:List AV) (j:Nat) (a:AV),more[i]?=some row->row[j]?=some a->∃ x,news[i*sz+j]?=some x/\aF g w a x) (hp:p+more.length<=rows.length) (hf:fz<=p) :
  Ext A g w g (w.setRow (g.ob k) (cs.toList.take (p*sz)++news++cs.toList.drop (p*sz+news.length)).toArray)/\St w0 A g (S.set k (some (.arr sz (rows.take p++more++rows.drop (p+more.length)) fz ex))) (w.setRow (g.ob k) (cs.toList.take (p*sz)++news++cs.toList.drop (p*sz+news.length)).toArray):=by
 obtain⟨k2,k3,By,n_,h1,h2,h3,h4,h5,h6,h7⟩:=hS.bT k _ hk ha;obtain⟨rfl,rfl⟩:By=cs/\n_=ty:=by grind
 have hm:p*sz+more.length*sz<=g.cp k*sz:=by rw[<-Nat.add_mul];exact Nat.mul_le_mul_right sz (by omega)
 have j9:p*sz+news.length<=By.toList.length:=by grind
 obtain⟨cs',yK⟩:∃ cs',cs'=(By.toList.take (p*sz)++news++By.toList.drop (p*sz+news.length)).toArray:=⟨_,rfl⟩;rw[<-yK];have m7:∀ q,cs'[q]?=if q < p*sz then By[q]? else if q < p*sz+news.length then news[q - p*sz]? else By[q]?:=by grind[vT]
 have Hg:cs'.size=By.size:=by grind
 have jH:(rows.take p++more++rows.drop (p+more.length)).length=rows.length:=by grind
 exact hS.row hk ha h1 (cs':=cs') (ob:=.arr sz (rows.take p++more++rows.drop (p+more.length)) fz ex) (fun J=>⟨by simp,by simp⟩) (fun q hq=>by
  have:=(h7 q).1 hq;rw[m7,if_pos (Nat.lt_of_lt_of_le this (Nat.mul_le_mul_right sz hf))]) (fun hL=>by
  refine⟨cs',n_,setRow_heap w _ By cs' n_ (0,0) h1,Hg.trans h2,by grind,fun h=>by grind,fun i row hi=>?_,by grind,h7⟩;rw[vT _ _ _ hp] at hi;split at hi
  ·rename_i c1;refine⟨(h5 i row hi).1,fun j a cM=>?_⟩;obtain⟨x,hx,dR⟩:=(h5 i row hi).2 j a cM;have hj:j < sz:=by grind
   exact⟨x,by grind[mf],dR.later hL⟩
  ·rename_i c1;split at hi
   ·rename_i c2;have jH:=hl row (List.mem_of_getElem? hi);refine⟨jH,fun j a cM=>?_⟩;obtain⟨x,hx,dR⟩:=hr _ row j a hi cM;have aA:=(List.getElem?_eq_some_iff.1 hx).1;have e:i*sz=p*sz+(i - p)*sz:=by rw[<-Nat.add_mul];congr 1;omega
    exact⟨x,by rw[m7,if_neg (by omega),if_pos (by omega),show i*sz+j - p*sz=(i - p)*sz+j by omega];exact hx,dR.later hL⟩
   ·rename_i c2;refine⟨(h5 i row hi).1,fun j a cM=>?_⟩;obtain⟨x,hx,dR⟩:=(h5 i row hi).2 j a cM;have e:p*sz+news.length<=i*sz:=by rw[hn,<-Nat.add_mul];exact Nat.mul_le_mul_right sz (by omega)
    exact⟨x,by grind,dR.later hL⟩)
theorem na {t e:TypeId}(h:fZ P t=some e):P.underlying t=some (.slice e):=by grind[fZ]
theorem Cg {sz:Nat}{a b:QO}{o:Op}(h:res P.toTables o=some (.copy sz a b)):∃ c t t2 u v e e2,o=.call c/\c.callee=.builtin .copy/\c.argTypes=#[t,t2]/\c.args=#[u,v]/\a=qo u/\b=qo v/\fZ P t=some e/\fZ P t2=some e2/\cY P e=some sz:=by
 cases o<;>simp only[res,kh,dS] at h<;>(repeat' split at h)<;>(try cases h)
 exact⟨_,_,_,_,_,_,_,rfl,by grind,by rw[<-Array.toArray_toList (xs:=Call.argTypes _)];congr,by grind,rfl,rfl,by assumption,by assumption,by grind⟩
theorem FY (w:World) (t t2 ty e:TypeId) (i:TypeInfo) (ht:P.underlying t=some (.slice e)) (hi:P.info? e=some i) (d a:Option Addr) (dl dc c:Nat):(Builtin.copy_ #[t,t2] ty #[.slice d dl dc,.slice a 0 c]).run P w=.ok (goInt 0) w:=by
 have hl:∀ (x:Addr),(loadCells x 0).run P w=.ok #[] w:=fun x=>by simpa using run_loadCells_list (P:=P) w x [] (by simp)
 cases d<;>cases a<;>simp[Builtin.copy_,run_underlying ht,Builtin.lenOf,Builtin.firstCells,sizeOf,typeInfo,hi,storeCells,hl]
theorem PE (w:World) (t t2 ty e n_:TypeId) (i:TypeInfo) (ht:P.underlying t=some (.slice e)) (hi:P.info? e=some i) (g q dl dc:Nat) (cur:Array Value) (hg:w.heap[g]?=some (.cells cur n_ (0,0)))
  (a:Addr) (m c:Nat) (news:List Value) (hl:news.length=m*i.size) (sJ:∀ j u,news[j]?=some u->w.cell? (a.add j)=some u) (h1:∀ u ∈ news,u.oneCell'=true) (hle:m<=dl) (j9:q+news.length<=cur.size) :
  (Builtin.copy_ #[t,t2] ty #[.slice (some ⟨g,q,none⟩) dl dc,.slice (some a) m c]).run P w=.ok (goInt m) (w.setRow g (cur.toList.take q++news++cur.toList.drop (q+news.length)).toArray):=by
 have hf:=run_firstCells_some (P:=P) w i.size m a m c news hl sJ;have mj:=run_storeCells_at P g q n_ news 0 cur w hg (by grind) h1;simp only[Nat.add_zero] at mj;have hn:Nat.min m dl=m:=Nat.min_eq_left hle;simp[Builtin.copy_,run_underlying ht,sizeOf,typeInfo,hi,Builtin.lenOf,hn,hf,mj]
theorem af.ahg {sz k sz' off len:Nat}{cx:Option Nat}{a b:QO}(hx:a.ev α.tm=.ob k sz' off len cx) (hm:dF S (b.ev α.tm)=some []):af P w0 false (.copy sz a b) α S (.v (.int .i64 0)) S:=af.run fun n o hr=>by
 obtain⟨c,t,t2,u,v,e,e2,ho,hc,gG,bj,rfl,rfl,ht,fS,hs⟩:=Cg hr;rw[aI] at hx hm;obtain⟨hm,hlen⟩:=dH hm;have ht:=na ht;obtain⟨i,hi,bS⟩:=jG hs;intro A g q w hS hA;have g1:=hA.ev u;have g2:=hA.ev v;rw[hx] at g1;obtain⟨cc,e1,_⟩:=iy g1;obtain⟨B,c2,e3⟩:=pF (by grind) hm g2;refine⟨_,_,g,.inl ?_,.v,hS,.refl _ _ _⟩;have bZ:(execOp q.eval o).run P w=((Builtin.copy_ #[t,t2] o.type #[q.eval u,q.eval v]).run P w).andThen fun v w'=>.ok (.value v) w':=by
  simp[execOp,ho,resolve,hc,gG,bj,invoke,builtin]
 rw[bZ,e1,e3,FY w t t2 o.type e i ht hi]
 rfl
theorem af.ahh {dr:Bool}{sz:Nat}{e1 e2:Bool}{a b:QO}(hx:a.ev α.tm=.sl e1 []) (hy:b.ev α.tm=.sl e2 []):af P w0 dr (.copy sz a b) α S (.v (.int .i64 0)) S:=by
 have key:∀ (α:AA) (S:ae) (n:Nat) (o:Oper) (c:Call) (t t2:TypeId) (u v:Operand) (e:TypeId),o.op=.call c->c.callee=.builtin .copy->c.argTypes=#[t,t2]->c.args=#[u,v]->fZ P t=some e->cY P e=some sz->α.ev u=.sl e1 []->α.ev v=.sl e2 []->aQ P w0 n o α S (.v (.int .i64 0)) S:=by
  intro α S n o c t t2 u v e ho hc gG bj ht hs hx hy;have ht:=na ht;obtain⟨i,hi,bS⟩:=jG hs;intro A g q w hS hA;have g1:=hA.ev u;have g2:=hA.ev v;rw[hx] at g1;rw[hy] at g2;obtain⟨B1,c1,f1⟩:=pF (S:=ae.none_) rfl rfl g1;obtain⟨B2,c2,f2⟩:=pF (S:=ae.none_) rfl rfl g2;refine⟨_,_,g,.inl ?_,.v,hS,.refl _ _ _⟩;have bZ:(execOp q.eval o).run P w=((Builtin.copy_ #[t,t2] o.type #[q.eval u,q.eval v]).run P w).andThen fun v w'=>.ok (.value v) w':=by
   simp[execOp,ho,resolve,hc,gG,bj,invoke,builtin]
  rw[bZ,f1,f2,FY w t t2 o.type e i ht hi]
  rfl
 have go:∀ (n:Nat) (o:Oper),res P.toTables o.op=some (.copy sz a b)->ez P w0 n o (α.only (cG o)) S (.v (.int .i64 0)) S/\(∀ T,ez P w0 n o (α.only (cG o)) T (.v (.int .i64 0)) T)/\ez P w0 n o α S (.v (.int .i64 0)) S:=by
  intro n o hr;obtain⟨c,t,t2,u,v,e,e2',ho,hc,gG,bj,rfl,rfl,ht,fS,hs⟩:=Cg hr;rw[aI] at hx hy;have e:∀ z ∈ [u,v],(α.only (cG o)).ev z=α.ev z:=fun z hz=>eH fun t ht=>en (by rw[ho];simp only[Op.operands,Call.operands,bj,<-ht];simp at hz ⊢;rcases hz with rfl|rfl<;>simp);have hd:∀ c,o.op ≠ .defer c:=fun c e=>by grind
  exact⟨(key _ _ n o c t t2 u v _ ho hc gG bj ht hs (by grind) (by grind)).ops hd,fun T=>(key _ _ n o c t t2 u v _ ho hc gG bj ht hs (by grind) (by grind)).ops hd,(key _ _ n o c t t2 u v _ ho hc gG bj ht hs hx hy).ops hd⟩
 cases dr with
 |false=>exact fun n o hr=>(go n o hr).2.2
 |true=>exact fun n o hr=>⟨(go n o hr).1,fun _=>⟨rfl,(go n o hr).2.1⟩,fun _=>rfl⟩
theorem af.cpy {sz k off len fz:Nat}{cx:Option Nat}{a b:QO}{rows more:List (List AV)}{x:List AV}{ex:Bool}(hx:a.ev α.tm=.ob k sz off len cx) (hk:S.get k=some (.arr sz rows fz ex)) (hm:dF S (b.ev α.tm)=some (x::more)) (hle:(x::more).length<=len) (kO:off+len<=rows.length) (hf:fz<=off)
  (h3:∀ row ∈ x::more,row.length=sz/\row.all bO=true):af P w0 false (.copy sz a b) α S (.v (.int .i64 (x::more).length)) (S.set k (some (.arr sz (rows.take off++(x::more)++rows.drop (off+(x::more).length)) fz ex))):=af.run fun n o hr=>by
 obtain⟨c,t,t2,u,v,e,e2,ho,hc,gG,bj,rfl,rfl,ht,fS,hs⟩:=Cg hr;rw[aI] at hx hm;obtain⟨hm,hlen⟩:=dH hm;have ht:=na ht;obtain⟨i,hi,bS⟩:=jG hs;intro A g q w hS hA;have g1:=hA.ev u;have g2:=hA.ev v;rw[hx] at g1;obtain⟨cc,e1,aK,_,_,_,_⟩:=iy g1;obtain⟨b2,q2,c2,news,e3,M1,ly⟩:=nD hS hm g2 (by simp) (fun r hr=>(h3 r hr).1) hlen;obtain⟨k2,k3,cs,n_,p1,p2,p3,p4,p5,p6,p7⟩:=hS.bT k _ hk aK;have gH:off*sz+(x::more).length*sz<=g.cp k*sz:=by rw[<-Nat.add_mul];exact Nat.mul_le_mul_right sz (by omega)
 have j9:off*sz+news.length<=cs.size:=by rw[ly.1,p2];omega
 have bZ:=PE (P:=P) w t t2 o.type e n_ i ht hi (g.ob k) (off*sz) len cc cs p1 ⟨b2,q2,none⟩ (x::more).length c2 news (by rw[ly.1,bS]) ly.2.1 (Ch ly h3) hle j9;obtain⟨hE,cZ⟩:=hS.EO (p:=off) (more:=x::more) (news:=news) hk aK p1 (fun r hr=>(h3 r hr).1) ly.1 (fun i row j a hi ha=>ly.2.2 i row hi j a ha) (by omega) hf;refine⟨_,_,g,.inl ?_,.v,cZ,hE⟩;have hx:(execOp q.eval o).run P w=((Builtin.copy_ #[t,t2] o.type #[q.eval u,q.eval v]).run P w).andThen fun v w'=>.ok (.value v) w':=by
  simp[execOp,ho,resolve,hc,gG,bj,invoke,builtin]
 rw[hx,e1,e3,bZ]
 rfl
theorem KE {t e:TypeId}{l c:Operand}{z:Value}{sz by_:Nat}{ka kb:IntKind}{a b:Int}(ho:o.op=.makeSlice t l c) (ht:P.underlying t=some (.slice e)) (hz:de P e=some z) (hs:cY P e=some sz) (pG:iu P e=some by_)
  (pH:z.cells.size=sz) (Zt:0 < sz) (hl:α.ev l=.v (.int ka a)) (hc:α.ev c=.v (.int kb b)) (h1:0<=a) (h0:a<=b) (h2:b*by_<=35184372088832) (h3:b<=9223372036854775807) :
  aQ P w0 n o α S (.ob S.nx sz 0 a.toNat none) (S.new (.arr sz (List.replicate b.toNat (z.cells.toList.map bJ)) 0 true)):=by
 intro A g q w hS hA;obtain⟨i,hi,bS⟩:=jG hs;have nZ:i.zero=some z:=by grind[de]
 have PF:i.bytes=by_:=by grind[iu]
 have jH:=hA.ev l;have Di:=hA.ev c;rw[hl] at jH;rw[hc] at Di;have jH:=bI jH;have Di:=bI Di;have bZ:=run_make (P:=P) w t e i z ht hi nZ ka kb a b h1 h0 (by grind) h3;have tF:∀ q,¬ g.fz w.heap.size q:=fun q hf=>absurd (hS.cK _ _ hf) (Nat.lt_irrefl _);obtain⟨hE,cZ⟩:=hS.new (.cells (madeCells z.cells (b.toNat*i.size)) e) (.arr sz (List.replicate b.toNat (z.cells.toList.map bJ)) 0 true) b.toNat (fun J=>by simp) (fun hL=>by
  refine⟨_,e,dw,?_,by simp,fun _=>by simp,fun m row hr=>?_,Nat.zero_le _,fun q=>⟨fun h=>absurd h (tF q),fun h=>by grind⟩⟩
  ·rw[size_madeCells,bS]
  ·obtain⟨jV,rfl⟩:=List.getElem?_eq_some_iff.1 hr;simp only[List.length_replicate] at jV;simp only[List.getElem_replicate];refine⟨by grind,fun j b' hj=>?_⟩;simp only[List.getElem?_map,Option.map_eq_some_iff] at hj;obtain⟨y,hy,rfl⟩:=hj;have Dj:j < sz:=by grind
   refine⟨y,?_,lM y⟩;have aA:m*sz+j < b.toNat*sz:=mf jV Dj;have fc:j < z.cells.size:=by omega
   have e1:(m*sz+j) % z.cells.size=j:=by
    rw[pH,Nat.mul_comm,Nat.mul_add_mod];exact Nat.mod_eq_of_lt Dj
   have e2:(madeCells z.cells (b.toNat*i.size))[m*sz+j]?=some (z.cells[(m*sz+j) % z.cells.size]!):=by
    unfold madeCells;rw[Array.getElem?_map,Array.getElem?_range,if_pos (by grind)]
    rfl
   rw[e2,e1,getElem!_pos z.cells j fc,<-hy,Array.getElem?_toList,Array.getElem?_eq_getElem fc])
 refine⟨.slice (some ⟨w.heap.size,0,none⟩) a.toNat b.toNat,_,_,.inl ?_,?_,cZ,hE⟩
 ·simp only[execOp,ho,jH,Di,Sem.run_bind,bZ]
  rfl
 ·have:=aF.ob (g:=g.new S.nx w.heap.size b.toNat) (w:=w.alloc (.cells (madeCells z.cells (b.toNat*i.size)) e)) (k:=S.nx) (sz:=sz) (off:=0) (len:=a.toNat) (c:=b.toNat) (cx:=none) (.inr rfl) (fun m h=>by grind)
   (by rw[Nat.zero_add];exact Nat.le_of_eq (az _ _ _).symm) (fun _=>by rw[Nat.zero_add];exact (az _ _ _).symm) (by omega)
  rw[show (g.new S.nx w.heap.size b.toNat).ob S.nx=w.heap.size from az _ _ _,Nat.zero_mul] at this;exact this
theorem af.Zu {z:List AV}{by_:Nat}{l c:QO}{k k':IntKind}{a b:Int}(h1:l.ev α.tm=.v (.int k a)) (h2:c.ev α.tm=.v (.int k' b)) (h3:0<=a) (h4:a<=b) (h5:b*by_<=35184372088832) (h6:b<=9223372036854775807) :
  af P w0 false (.iI z by_ l c) α S (.ob S.nx z.length 0 a.toNat none) (S.new (.arr z.length (List.replicate b.toNat z) 0 true)):=af.run fun n o hr=>by
 obtain⟨t,u,v,e,zv,sz,ho,rfl,rfl,e1,e2,e3,e4,rfl,e5,e6⟩:=K4 hr;have hz:(zv.cells.toList.map bJ).length=sz:=by rw[<-Nat.eq_of_beq_eq_true e5];simp
 rw[aI] at h1 h2;rw[hz];exact KE ho (na e1) e2 e3 e4 (Nat.eq_of_beq_eq_true e5) (Nat.le_of_ble_eq_true e6) h1 h2 h3 h4 h5 h6
theorem af.Zv {sz by_ k fz len:Nat}{ex:Bool}{a b:QO}{rows more:List (List AV)}{x:List AV}(h1:a.ev α.tm=.ob k sz 0 len none) (hk:S.get k=some (.arr sz rows fz ex)) (hm:dF S (b.ev α.tm)=some (x::more)) (h0:fz<=len) (h2:len+(x::more).length<=rows.length)
  (h3:∀ row ∈ x::more,row.length=sz/\row.all bO=true) :
  af P w0 false (.append sz by_ a b) α S (.ob k sz 0 (len+(x::more).length) none) (S.set k (some (.arr sz (rows.take len++(x::more)++rows.drop (len+(x::more).length)) fz ex))):=af.run fun n o hr=>by
 obtain⟨c,t,t2,u,v,e,e2,z,ho,hc,gG,bj,rfl,rfl,ht,fS,hz,hs,pG,pH,hbl⟩:=my hr;rw[aI] at h1 hm;obtain⟨hm,hlen⟩:=dH hm;have gG:c.argTypes=#[t,t2]:=by rw[<-Array.toArray_toList (xs:=c.argTypes),gG]
 have bj:c.args=#[u,v]:=by rw[<-Array.toArray_toList (xs:=c.args),bj]
 have ht:=na ht;have fS:=na fS;intro A g q w hS hA;have g1:=hA.ev u;have g2:=hA.ev v;rw[h1] at g1;obtain⟨cc,e1,aK,i_,cw,FZ,hle⟩:=iy g1;obtain⟨b2,q2,c2,news,e3,M1,ly⟩:=nD hS hm g2 (by simp) (fun r hr=>(h3 r hr).1) hlen;obtain⟨k2,k3,cs,n_,p1,p2,p3,p4,p5,p6,p7⟩:=hS.bT k _ hk aK;obtain⟨i,hi,bS⟩:=jG hs;have Yt:=FZ rfl;have kY:len+(x::more).length<=cc:=by omega
 have gH:len*sz+(x::more).length*sz<=g.cp k*sz:=by rw[<-Nat.add_mul];exact Nat.mul_le_mul_right sz (by omega)
 have j9:0+len*i.size+news.length<=cs.size:=by rw[ly.1,p2,bS];omega
 have bZ:=tG (P:=P) w t o.type e n_ i ht hi (g.ob k) 0 len cc cs p1 ⟨b2,q2,none⟩ (x::more).length c2 news (by rw[ly.1,bS]) ly.2.1 (Ch ly h3) kY j9;simp only[Nat.zero_add,bS] at bZ j9;obtain⟨hE,cZ⟩:=hS.EO (p:=len) (more:=x::more) (news:=news) hk aK p1 (fun r hr=>(h3 r hr).1) ly.1 (fun i row j a hi ha=>ly.2.2 i row hi j a ha) h2 h0;refine⟨.slice (some ⟨g.ob k,0,none⟩) (len+(x::more).length) cc,_,g,.inl ?_,?_,cZ,hE⟩
 ·have hx:(execOp q.eval o).run P w=((Builtin.append_ #[t,t2] o.type #[q.eval u,q.eval v]).run P w).andThen fun v w'=>.ok (.value v) w':=by
   simp[execOp,ho,resolve,hc,gG,bj,invoke,builtin]
  rw[hx,e1,e3,pI ht fS,Nat.zero_mul,bZ]
  rfl
 ·have:=aF.ob (g:=g) (w:=w.setRow (g.ob k) (cs.toList.take (len*sz)++news++cs.toList.drop (len*sz+news.length)).toArray) (k:=k) (sz:=sz) (off:=0) (len:=len+(x::more).length) (c:=cc) (cx:=none) aK (fun m h=>by grind) cw FZ kY;rw[Nat.zero_mul] at this;exact this
end
end Go.Proofs.YtbpabjmnhggajaaGreat
