import Derived.Laws.CopyRow
import Derived.Laws.Cover3
import Derived.Test.YtgphljokbodciaaGreatS23
namespace Go.Proofs.YtgphljokbodciaaGreat
set_option linter.unusedVariables false
set_option linter.unusedSimpArgs false
open Go.RowKit
section
variable {P:Program}{w0:World}{rd:Bool}{n B:Nat}{α:AA}{S S' S1:ae}{Q:Exit->AA->ae->Prop}{r r':AV}{l:List QI}{K:List iq}{o:Oper}{V:List (Nat × Nat)}{lg:List (List Nat × List Nat × Bool)}{rs:List Nat}
theorem eB.rv (h:eB P w0 n o α S r S') (k:Rv w0 r S' r' S1):eB P w0 n o α S r' S1:=by
 intro F m A g a w nx R hF hS hA hn
 refine h F m A g a w nx R hF hS hA fun v w' g' h1 h2 h3=>?_
 obtain⟨g2,k1,k2,k3⟩:=k A g g' w w' v h2 h1
 exact hn v w' g2 k2 k1 (h3.trans k3)
theorem Rv.move {k sz len:Nat}{rows:List (List AV)}{ex:Bool}(hk:S.get k=some (.arr sz rows 0 ex)):Rv w0 (.gr k sz len) S (.gr S.nx sz len) ((S.set k none).new (.arr sz rows 0 false)):=by
 intro A g0 g VR w v hS hr
 obtain⟨T,hT⟩:∃ T,T=(S.set k none).new (.arr sz rows 0 false):=⟨_,rfl⟩
 obtain⟨g',l3⟩:∃ g':Gh,g'=⟨bP g.ob S.nx (g.ob k),bP g.cp S.nx (g.cp k),fun j=>g.al j\/(j=S.nx/\g.al k),g.fz,g.fo⟩:=⟨_,rfl⟩
 have pI:¬ g.al S.nx:=fun h=>Nat.lt_irrefl _ (hS.al _ h)
 have yZ:∀ j,j ≠ S.nx->g'.ob j=g.ob j:=fun j e=>by rw [l3];exact aN _ _ e
 have cp':∀ j,j ≠ S.nx->g'.cp j=g.cp j:=fun j e=>by rw [l3];exact aN _ _ e
 have KZ:g'.ob S.nx=g.ob k:=by rw [l3];exact aG _ _ _
 have cpn:g'.cp S.nx=g.cp k:=by rw [l3];exact aG _ _ _
 have uK:∀ j,g'.al j->j ≠ S.nx->g.al j:=fun j h e=>by
  rw [l3] at h
  rcases h with h|⟨h,_⟩
  ·exact h
  ·exact absurd h e
 have QU:g'.al S.nx->g.al k:=fun h=>by
  rw [l3] at h
  rcases h with h|⟨_,h⟩
  ·exact absurd h pI
  ·exact h
 have ne:∀ j,g.al j->j ≠ S.nx:=fun j h e=>pI (e ▸ h)
 have hL:Later g w g' w:=⟨fun j h=>by rw [l3];exact .inl h,fun j h=>yZ j (ne j h),fun j h=>cp' j (ne j h),fun b o h=>by rw [l3];exact h,fun _ _ _=>rfl⟩
 have pL:g'.fz=g.fz:=by rw [l3]
 have Fm:g'.fo=g.fo:=by rw [l3]
 have Tn:T.get S.nx=some (.arr sz rows 0 false):=by rw [hT];exact aG _ _ _
 have Tj:∀ j p,j ≠ S.nx->T.get j=some p->j ≠ k/\S.get j=some p:=by
  intro j p e h
  rw [hT] at h
  have h:bP (S.set k none).get S.nx (some (.arr sz rows 0 false)) j=some p:=h
  rw [aN _ _ e] at h
  have h:bP S.get k none j=some p:=h
  by_cases ek:j=k
  ·subst ek;rw [aG] at h;cases h
  ·rw [aN _ _ ek] at h;exact⟨ek,h⟩
 have Tf:∀ j J,T.get j=some (.fo J)->j ≠ S.nx:=fun j J h e=>by rw [e,Tn] at h;cases h
 have hE:Ext A g w g' w:={ hL with size:=Nat.le_refl _,aT:=fun _ _ _=>rfl,gH:=fun b o h=>by rw [pL] at h;exact .inl h }
 have VS:∀ {b cp:Nat}{o:Ob},dF g w b cp o->dF g' w b cp o:=fun h=>h.later hL rfl (fun q h=>by rw [pL] at h;exact h) fun J _=>⟨by rw [Fm],Nat.le_refl _,fun _ _=>rfl,fun c q _ h=>by rw [pL] at h;exact h⟩
 rw [<-hT]
 refine⟨g',⟨hS.base,hS.up,hS.lo,fun j h=>?_,fun j p hj h=>?_,fun i j p q hi hj ai aj e=>?_,fun b q h=>hS.cK b q (by rw [<-pL];exact h),fun b q h=>by rw [pL];exact hS.nn b q h,fun j J hj h=>?_,fun j J i p hj h hi ai e=>?_,fun i j J J' hi hj ai aj=>?_⟩,?_,hE⟩
 ·have e:T.nx=S.nx+1:=by rw [hT];rfl
  rw [e]
  by_cases ej:j=S.nx
  ·omega
  ·have:=hS.al j (uK j h ej);omega
 ·by_cases ej:j=S.nx
  ·subst ej
   rw [Tn] at hj
   obtain rfl:=Option.some.inj hj
   obtain⟨q1,q2,q3⟩:=hS.cH k _ hk (QU h)
   rw [KZ,cpn]
   refine⟨q1,q2,?_⟩
   obtain⟨cs,ty,h1,h2,h3,h4,h5,h6,h7⟩:=VS q3
   exact⟨cs,ty,h1,h2,h3,(fun h=>by cases h),h5,h6,h7⟩
  ·obtain⟨_,iE⟩:=Tj j p ej hj
   obtain⟨q1,q2,q3⟩:=hS.cH j p iE (uK j h ej)
   rw [yZ j ej,cp' j ej]
   exact⟨q1,q2,VS q3⟩
 ·by_cases ei:i=S.nx
  ·by_cases ej:j=S.nx
   ·rw [ei,ej]
   ·exfalso
    subst ei
    obtain⟨ek,iE⟩:=Tj j q ej hj
    rw [KZ,yZ j ej] at e
    exact ek (hS.inj k j _ q hk iE (QU ai) (uK j aj ej) e).symm
  ·by_cases ej:j=S.nx
   ·exfalso
    subst ej
    obtain⟨ek,nZ⟩:=Tj i p ei hi
    rw [KZ,yZ i ei] at e
    exact ek (hS.inj i k p _ nZ hk (uK i ai ei) (QU aj) e)
   ·rw [yZ i ei,yZ j ej] at e
    exact hS.inj i j p q (Tj i p ei hi).2 (Tj j q ej hj).2 (uK i ai ei) (uK j aj ej) e
 ·have ej:=Tf j J hj
  rw [yZ j ej,Fm]
  exact hS.iD j J (Tj j _ ej hj).2 (uK j h ej)
 ·have ej:=Tf j J hj
  rw [yZ j ej,Fm]
  by_cases ei:i=S.nx
  ·subst ei
   rw [KZ]
   exact hS.j2 j J k _ (Tj j _ ej hj).2 (uK j h ej) hk (QU ai) (Tj j _ ej hj).1.symm
  ·rw [yZ i ei]
   exact hS.j2 j J i p (Tj j _ ej hj).2 (uK j h ej) (Tj i p ei hi).2 (uK i ai ei) e
 ·have ei:=Tf i J hi
  have ej:=Tf j J' hj
  exact hS.me i j J J' (Tj i _ ei hi).2 (Tj j _ ej hj).2 (uK i ai ei) (uK j aj ej)
 ·rcases qP hr with ⟨h,A',rfl⟩|⟨ir,c,rfl,hx,hle⟩
  ·subst h;exact .iW
  ·rw [<-KZ]
   refine .gr (by rw [l3];exact .inr ⟨rfl,ir⟩) (by rw [cpn];exact hx) hle
theorem Rv.nil {sz:Nat}:Rv w0 (.sl true []) S (.gr S.nx sz 0) (S.new (.arr sz [] 0 false)):=by
 intro A g0 g VR w v hS hr
 obtain⟨g',h1,h2,h3⟩:=(show ∃ g',St w0 A g' (S.new (.arr sz [] 0 false)) w/\aL g' w (.gr S.nx sz 0) v/\Ext A g w g' w from by
  have key:∀ k p,(S.new (.arr sz [] 0 false)).get k=some p->g.al k->S.get k=some p:=fun k p hk ha=>by
   have au:=hS.al k ha
   have hk:bP S.get S.nx (some (.arr sz [] 0 false)) k=some p:=hk
   rwa [aN _ _ (by omega)] at hk
  refine⟨g,⟨hS.base,hS.up,hS.lo,fun k hk=>Nat.lt_succ_of_lt (hS.al k hk),fun k p hk ha=>hS.cH k p (key k p hk ha) ha,fun i j p q hi hj ai aj e=>hS.inj i j p q (key i p hi ai) (key j q hj aj) ai aj e,hS.cK,hS.nn,
   fun k J hk ha=>hS.iD k J (key k _ hk ha) ha,fun k J j p hk ha hj aj=>hS.j2 k J j p (key k _ hk ha) ha (key j p hj aj) aj,fun j k J J' hj hk aj ak=>hS.me j k J J' (key j _ hj aj) (key k _ hk ak) aj ak⟩,?_,Ext.refl ..⟩
  cases hr with
  |nil hz=>obtain rfl:=hz rfl;exact .iW
  |sl hz=>exact absurd rfl hz)
 exact⟨g',h1,h2,h3⟩
theorem Rv.VT {k sz len:Nat}:Rv w0 (.ob k sz 0 len none) S (.gr k sz len) S:=by
 intro A g0 g VR w v hS hr
 refine⟨g,hS,?_,Ext.refl ..⟩
 cases hr with
 |ob q1 q2 q3 q4 q5=>rw [Nat.zero_mul];exact .gr q1 (by have:=q4 rfl;omega) q5
section
variable {ρ:Hd}{T:Type}{f:T->List AV}{acc ys:List T}
theorem ab.Hn {dd:Option Nat}{gg:Option (Nat × Bool)}{t:Nat}{b:QO}{sz by_ k len:Nat}{ex ex':Bool}(hw:cb α.tm gg=some true) (h1:α.tm t=.gr k sz len) (hk:S.get k=some (.arr sz (ρ.h (List.map f) acc) 0 ex)) (hn:len=acc.length) (gj:∀ c,b.ev (bP α.tm t c)=b.ev α.tm)
  (hb:b.ev α.tm=bY ρ f ex' ys) (hl:∀ x,(f x).length=sz) (hc:∀ x,(f x).all cn=true) (hy:(len+ys.length)*by_<=35184372088832)
  (kk:∀ dx cF,dx=acc++ys->cF=dx.length->ab P w0 rd n Q (.bz false l K) (cG dd α (.gr S.nx sz cF)) ((S.set k none).new (.arr sz (ρ.h (List.map f) dx) 0 false))):ab P w0 rd n Q (.bz false (⟨dd,gg,.append sz by_ (.t t) b⟩::l) K) α S:=by
 have hlen:(ρ.h (List.map f) acc).length=acc.length:=af
 by_cases h0:ys=[]
 ·subst h0
  rw [dE] at hb
  have h:=kk acc len (by simp) hn
  exact ab.op (i:=⟨dd,gg,.append sz by_ (.t t) b⟩) hw (fun n o ho=>(ve ho h1 hk (by omega) gj (by rw [hb];exact fy)).rv (Rv.move hk)) h
 ·exact ab.MW hw h1 hk hn gj hb hl hc hy (fun h=>absurd h h0) fun dx cF _ e1 e2=>kk dx cF e1 e2
theorem ab.Ho {dd:Option Nat}{gg:Option (Nat × Bool)}{t:Nat}{b:QO}{sz by_ k len:Nat}{ex ex':Bool}(hw:cb α.tm gg=some true) (h1:α.tm t=.gr k sz len) (hk:S.get k=some (.arr sz (ρ.h (List.map f) acc) 0 ex)) (hn:len=acc.length) (gj:∀ c,b.ev (bP α.tm t c)=b.ev α.tm)
  (hb:b.ev α.tm=bY ρ f ex' ys) (hl:∀ x,(f x).length=sz) (hc:∀ x,(f x).all cn=true) (hy:(len+ys.length)*by_<=35184372088832)
  (kk:∀ dx cF,dx=acc++ys->cF=dx.length->ab P w0 rd n Q (.dM B V (lg++[([k],[S.nx,k],true)]) rs l K) (cG dd α (.gr S.nx sz cF)) (dQ S [(S.nx,some (.arr sz (ρ.h (List.map f) dx) 0 false)),(k,none)] true)):ab P w0 rd n Q (.dM B V lg rs (⟨dd,gg,.append sz by_ (.t t) b⟩::l) K) α S:=by
 have hlen:(ρ.h (List.map f) acc).length=acc.length:=af
 rw [dE] at hb
 cases ys with
 |nil =>
  have h:=kk acc len (by simp) hn
  refine ab.vq (i:=⟨dd,gg,.append sz by_ (.t t) b⟩) (d:=⟨[(k,.arr sz (ρ.h (List.map f) acc) 0 ex)],[(S.nx,some (.arr sz (ρ.h (List.map f) acc) 0 false)),(k,none)],true⟩) hw ?_ h
  have h0:=cj.ZU (P:=P) (w0:=w0) (B:=B) (by_:=by_) h1 hk (by omega) gj hb
  intro n o hr
  obtain⟨e1,e2,e3⟩:=h0 n o hr
  refine⟨fun hp=>(by rw [qq hr] at hp;cases hp),e2,fun T hB hT hm=>?_⟩
  have h4:=e3 T hB hT (fun h=>by cases h)
  rw [show dQ T [] false=T from cO] at h4
  have h5:=h4.rv (Rv.move (w0:=w0) (len:=len) (hT (k,.arr sz (ρ.h (List.map f) acc) 0 ex) (by simp)))
  rw [<-hm rfl,dW]
  exact h5
 |cons y ys =>
  have h:=kk _ _ rfl rfl
  have e:ρ.h (List.map f) acc++List.map f (y::ys)=ρ.h (List.map f) (acc++y::ys):=by rw [ρ.eq,ρ.eq,List.map_append]
  rw [<-e,show (acc++y::ys).length=len+(f y::List.map f ys).length by simp;omega] at h
  refine ab.vq (i:=⟨dd,gg,.append sz by_ (.t t) b⟩) hw (cj.Hb (x:=f y) (more:=List.map f ys) h1 hk (by omega) gj hb (fun row hr=>?_) (by simpa using hy)) h
  obtain⟨x,_,rfl⟩:=List.mem_map.1 (show row ∈ List.map f (y::ys) from hr)
  exact⟨hl x,hc x⟩
theorem ab.QV {dd:Option Nat}{gg:Option (Nat × Bool)}{a b:QO}{sz by_:Nat}{ex':Bool}(hw:cb α.tm gg=some true) (h1:a.ev α.tm=.sl true [])
  (hb:b.ev α.tm=bY ρ f ex' ys) (hl:∀ x,(f x).length=sz) (hy:ys.length*by_<=35184372088832)
  (kk:∀ dx cF,dx=ys->cF=dx.length->ab P w0 rd n Q (.dM B V (lg++[([],[S.nx],true)]) rs l K) (cG dd α (.gr S.nx sz cF)) (dQ S [(S.nx,some (.arr sz (ρ.h (List.map f) dx) 0 false))] true)):ab P w0 rd n Q (.dM B V lg rs (⟨dd,gg,.append sz by_ a b⟩::l) K) α S:=by
 rw [dE] at hb
 have h:=kk _ _ rfl rfl
 rw [ρ.eq] at h
 refine ab.vq (i:=⟨dd,gg,.append sz by_ a b⟩) (d:=⟨[],[(S.nx,some (.arr sz (List.map f ys) 0 false))],true⟩) hw ?_ h
 cases ys with
 |nil =>
  have h0:=cj.C9 (P:=P) (w0:=w0) (B:=B) (S:=S) (sz:=sz) (by_:=by_) h1 hb
  intro n o hr
  obtain⟨e1,e2,e3⟩:=h0 n o hr
  refine⟨fun hp=>(by rw [qq hr] at hp;cases hp),e2,fun T hB hT hm=>?_⟩
  have h4:=e3 T hB hT (fun h=>by cases h)
  rw [show dQ T [] false=T from cO] at h4
  have h5:=h4.rv (Rv.nil (w0:=w0) (sz:=sz))
  rw [<-hm rfl,dW]
  exact h5
 |cons y ys =>
  have h0:=cj.Ai (P:=P) (w0:=w0) (B:=B) (S:=S) (sz:=sz) (by_:=by_) (x:=f y) (more:=List.map f ys) h1 hb (fun row hr=>by
   obtain⟨x,_,rfl⟩:=List.mem_map.1 (show row ∈ List.map f (y::ys) from hr)
   exact hl x) (by simpa using hy)
  intro n o hr
  obtain⟨e1,e2,e3⟩:=h0 n o hr
  refine⟨e1,e2,fun T hB hT hm=>?_⟩
  have h4:=(e3 T hB hT hm).rv (Rv.VT (w0:=w0))
  simpa using h4
theorem ab.aax {dd:Option Nat}{gg:Option (Nat × Bool)}{a b:QO}{sz by_:Nat}{ex':Bool}(hw:cb α.tm gg=some true) (h1:a.ev α.tm=.sl true [])
  (hb:b.ev α.tm=bY ρ f ex' ys) (hl:∀ x,(f x).length=sz) (hy:ys.length*by_<=35184372088832)
  (kk:∀ dx cF,dx=ys->cF=dx.length->ab P w0 rd n Q (.bz false l K) (cG dd α (.gr S.nx sz cF)) (S.new (.arr sz (ρ.h (List.map f) dx) 0 false))):ab P w0 rd n Q (.bz false (⟨dd,gg,.append sz by_ a b⟩::l) K) α S:=by
 rw [dE] at hb
 have h:=kk _ _ rfl rfl
 rw [ρ.eq] at h
 cases ys with
 |nil=>exact ab.op (i:=⟨dd,gg,.append sz by_ a b⟩) hw ((ad.C9 h1 (by rw [hb];exact fy)).rv Rv.nil) h
 |cons y ys =>
  refine ab.op (i:=⟨dd,gg,.append sz by_ a b⟩) hw ((ad.Ai (rows:=[]) (x:=f y) (more:=List.map f ys) h1 (by rw [hb];exact fy) (fun _ h=>by cases h) (fun row hr=>by
   obtain⟨x,_,rfl⟩:=List.mem_map.1 (show row ∈ List.map f (y::ys) from hr)
   exact hl x) (by simpa using hy)).rv Rv.VT) ?_
  simpa using h
end
theorem ab.VU {d:Option Nat}{gd:Option (Nat × Bool)}{f:QO}{mh:List QO}{g:FuncId}{args gI:List AV}{qD:AV}{so':List (Nat × Ob)}{ob:Ob}(hw:cb α.tm gd=some true) (bL:aV P w0 g args (aE [] 0) r (aE so' 1)) (h:e7 (f.ev α.tm) (mh.map (·.ev α.tm))=some (g,gI)) (ha:CE (bX []) 0 gI args)
  (hr:Rb (gP (bX []) 0 S.nx) r qD) (hT:oT (gP (bX []) 0 S.nx) so' [(S.nx,some ob)]) (hf:xJ so'=true)
  (kk:ab P w0 rd n Q (.dM B V (lg++[([],[S.nx],true)]) rs l K) (cG d α qD) (dQ S [(S.nx,some ob)] true)):ab P w0 rd n Q (.dM B V lg rs (⟨d,gd,.call f mh⟩::l) K) α S :=
 ab.vq (i:=⟨d,gd,.call f mh⟩) hw (cj.P9 bL h ha hr hT hf) kk
theorem ad.mK {len m:Nat}{k:LK}{x i:QO}{l:List AV}{a:AV}{ik:IntKind}{j:Int}{dr:Bool}(h1:x.ev α.tm=.agg l) (h2:i.ev α.tm=.v (.int ik j)) (h3:rf k l (j.toNat*m)=some a) (h4:0<=j) (h5:j < len):ad P w0 dr (.mK len m k x i) α S a S:=by
 refine ad.of rfl fun o hr=>?_
 cases o<;>simp only [res,b_,ec] at hr<;>(repeat' split at hr)<;>(try cases hr)
 rw [aU] at h1 h2
 rename_i hs hk
 rw [<-vr hk] at h3
 simp only [bm, *]
 exact bp.mk rfl ⟨trivial,trivial,rfl,rfl⟩
theorem FN {x:QO}{o:Op}(h:res P.toTables o=some (.len false x)):∃ c t u e,o=.call c/\c.callee=.builtin .len/\c.argTypes=#[t]/\c.args=#[u]/\x=qo u/\P.underlying t=some (.slice e):=by
 cases o<;>simp only [res,b_] at h<;>(repeat' split at h)<;>(try cases h)
 rename_i c hc t y h1 h2 e hu
 exact⟨_,_,_,_,rfl,by assumption,toList_one (by assumption),toList_one (by assumption),rfl,by assumption⟩
theorem Dp {o:Oper}{x:QO}{k sz len:Nat}(hr:res P.toTables o.op=some (.len false x)) (β:AA) (h:x.ev β.tm=.gr k sz len):eB P w0 n o β S (.v (.int .i64 len)) S:=by
 obtain⟨c,t,u,e,ho,hc,ht,hu,rfl,hs⟩:=FN hr
 rw [aU] at h
 refine bg.ops (bg.quiet fun A g q w hS hA=>?_) fun c' e=>by
  rw [ho] at e
  cases e
 have h1:=hA.ev u
 rw [h] at h1
 refine⟨_,?_,.v⟩
 rcases qP h1 with ⟨rfl,A',hv⟩|⟨_,c',hv,_,_⟩
 ·simp [execOp,ho,resolve,hc,hu,ht,hv,invoke,builtin,Builtin.len_,run_underlying hs,goInt]
 ·simp [execOp,ho,resolve,hc,hu,ht,hv,invoke,builtin,Builtin.len_,run_underlying hs,goInt]
theorem ad.VV {dr:Bool}{x:QO}{k sz len:Nat}(h:x.ev α.tm=.gr k sz len):ad P w0 dr (.len false x) α S (.v (.int .i64 len)) S:=by
 cases dr with
 |false=>exact fun n o hr=>Dp hr α h
 |true =>
  intro n o hr
  obtain⟨c,t,u,e,ho,hc,ht,hu,hx,hs⟩:=FN hr
  have h2:x.ev (α.only (dg o)).tm=.gr k sz len:=by
   rw [<-h,hx,aU,aU]
   exact jl fun t e=>iA (by rw [ho,<-e];show u ∈ c.operands;simp [Call.operands,hu])
  have h3:∀ T,eB P w0 n o (α.only (dg o)) T (.v (.int .i64 len)) T:=fun T=>Dp hr _ h2
  exact⟨h3 S,fun _=>⟨rfl,h3⟩,fun _=>rfl⟩
theorem ab.afz {σ:Type}{N:Nat}{ds:List DE}{st:σ->List (Nat × AV)}{so:σ->List (Nat × Ob)}{I:σ->Prop}{ch:List PanicEntry}(h:ab P w0 rd n Q (.out (.panic ch) K) α S):ab P w0 rd n (GZ P w0 rd n B N st ds so I Q K) (.out (.panic ch) []) α S:=h
end
section
variable {P:Program}{w0:World}{dr:Bool}{N:Nat}{so:List (Nat × Ob)}{S T:ae}{α:AA}{f:FuncId}{args:List AV}{r:AV}
theorem Rn.bM {a:AV}(h:cD N a):Rn id N a a:=fun g w x hr=>aL.bM (B:=N) (g:=g) (g':=g.pre id N) (fun k hk ha=>⟨hk,ha⟩) (fun _ _=>rfl) (fun _ _=>rfl) (fun _ _ h=>h) hr h
theorem dF.bM {g g':Gh}{w:World}{B b cp:Nat}{o:Ob}(bG:∀ k,k < B->g.al k->g'.al k) (gU:∀ k,k < B->g.al k->g'.ob k=g.ob k) (m8:∀ k,k < B->g.al k->g'.cp k=g.cp k) (hf:g'.fz=g.fz) (hk:jF B o) (hn:∀ J,o ≠ .fo J)
  (hr:∀ {a:AV}{x:Value},cD B a->aL g w a x->aL g' w a x) (h:dF g w b cp o):dF g' w b cp o:=by
 cases o with
 |arr sz rows fz ex =>
  obtain⟨cs,ty,h1,h2,h3,h4,h5,h6,h7⟩:=h
  refine⟨cs,ty,h1,h2,h3,h4,fun i row iZ=>⟨(h5 i row iZ).1,fun j a ha=>?_⟩,h6,by rw [hf];exact h7⟩
  obtain⟨x,hx,dO⟩:=(h5 i row iZ).2 j a ha
  exact⟨x,hx,hr (hk _ (List.mem_of_getElem? iZ) _ (List.mem_of_getElem? ha)) dO⟩
 |mp es =>
  obtain⟨entries,clock,h1,h2,h3⟩:=h
  refine⟨entries,clock,h1,h2,fun i k a ha=>?_⟩
  obtain⟨e,he,ir,VW⟩:=h3 i k a ha
  exact⟨e,he,ir,hr (hk _ (List.mem_of_getElem? ha)) VW⟩
 |mb es =>
  obtain⟨entries,h1,h2,h3,h4⟩:=h
  refine⟨entries,h1,h2,fun i k a ha=>?_,h4⟩
  obtain⟨e,he,ir,VW⟩:=h3 i k a ha
  exact⟨e,he,ir,hr (hk _ (List.mem_of_getElem? ha)) VW⟩
 |lp st tI tm ps assign body =>
  obtain⟨L,h1,h2,h3,h4,h5,h6,h7,h8⟩:=h
  exact⟨L,h1,h2,h3,h4,h5,h6,fun t ht=>hr (hk t) (h7 t ht),h8⟩
 |df=>exact h
 |si s pos=>exact h
 |fo J=>exact absurd rfl (hn J)
 |un=>exact h.elim
theorem kF.bM {o:Ob}(hk:jF N o) (hn:∀ J,o ≠ .fo J):kF id N o o:=by
 refine⟨fun g w b cp h=>?_,fun J h=>h⟩
 exact dF.bM (B:=N) (g:=g) (g':=g.pre id N) (fun k hk ha=>⟨hk,ha⟩) (fun _ _ _=>rfl) (fun _ _ _=>rfl) rfl hk hn (fun hk h=>Rn.bM hk g w _ h) h
theorem aL.back {gc g:Gh}{w:World}{o:Nat->Nat}(ho:∀ k,k < N->o k=k) (hB:Bk o gc g):∀ {a:AV}{x:Value},cD N a->aL gc w a x->aL g w a x:=by
 have bG:∀ k,k < N->gc.al k->g.al k:=fun k hk ha=>by have:=hB.al k ha;rwa [ho k hk] at this
 have gU:∀ k,k < N->gc.al k->g.ob k=gc.ob k:=fun k hk ha=>by have:=hB.ob k ha;rwa [ho k hk] at this
 have m8:∀ k,k < N->gc.al k->g.cp k=gc.cp k:=fun k hk ha=>by have:=hB.cp k ha;rwa [ho k hk] at this
 have pL:=hB.fz
 intro a x hp h
 induction h with
 |u=>exact .u
 |v=>exact .v
 |agg hs h ih=>cases hp with|agg hp=>exact .agg hs fun i a x h1 h2=>ih i a x h1 h2 (hp _ (List.mem_of_getElem? h1))
 |bc hs h ih=>cases hp with|bc hp=>exact .bc hs fun i a x h1 h2=>ih i a x h1 h2 (hp _ (List.mem_of_getElem? h1))
 |nil hc=>exact .nil hc
 |sl hn nm hle hl h hr ih =>
  cases hp with
  |sl hp=>exact .sl hn nm hle hl (fun i j row a h1 h2=>⟨by rw [pL];exact (h i j row a h1 h2).1,(h i j row a h1 h2).2⟩) (fun i j row a h1 h2=>ih i j row a h1 h2 (hp _ (List.mem_of_getElem? h1) _ (List.mem_of_getElem? h2)))
 |ip h hr ih =>
  cases hp with
  |ip hp=>exact .ip (fun i a h1=>⟨by rw [pL];exact (h i a h1).1,(h i a h1).2⟩) (fun i a h1=>ih i a h1 (hp _ (List.mem_of_getElem? h1)))
 |ob hk hc K0 hx hle =>
  cases hp with
  |ob au =>
   rw [<-gU _ au hk]
   exact .ob (bG _ au hk) hc (by rw [m8 _ au hk];exact K0) (by rw [m8 _ au hk];exact hx) hle
 |pt hk =>
  cases hp with
  |pt au=>rw [<-gU _ au hk];exact .pt (bG _ au hk)
 |mp hk =>
  cases hp with
  |mp au=>rw [<-gU _ au hk];exact .mp (bG _ au hk)
 |yl hk =>
  cases hp with
  |yl au=>rw [<-gU _ au hk];exact .yl (bG _ au hk)
 |iW=>exact .iW
 |gr hk hx hle =>
  cases hp with
  |gr au=>rw [<-gU _ au hk];exact .gr (bG _ au hk) (by rw [m8 _ au hk];exact hx) hle
 |fn h1 h2 h3 h4 Dq yY =>
  cases hp with
  |fn p1 p2=>exact .fn h1 h2 (fun i a x e1 e2=>Dq i a x e1 e2 (p1 _ (List.mem_of_getElem? e1))) (fun i a x e1 e2=>yY i a x e1 e2 (p2 _ (List.mem_of_getElem? e1)))
structure rh (so:List (Nat × Ob)) (N:Nat) (T:ae):Prop where
 le:N<=T.nx
 get:∀ j o,iS so j=some o->j < N/\T.get j=some o/\jF N o/\∀ J,o ≠ .fo J
 all:∀ j,j < N->∃ o,iS so j=some o
theorem aV.same (h:aV P w0 f args (aE so N) r (aE so N)) (hT:rh so N T) (ha:∀ a ∈ args,cD N a) (hr:cD N r):aV P w0 f args T r T:=by
 obtain⟨T',VX⟩:∃ T':ae,T'=⟨fun k=>if k < T.nx then T.get k else none,T.nx⟩:=⟨_,rfl⟩
 have get':∀ k o,T'.get k=some o->k < T.nx/\T.get k=some o:=fun k o hk=>by
  rw [VX] at hk
  have hk:(if k < T.nx then T.get k else none)=some o:=hk
  split at hk
  ·exact⟨by assumption,hk⟩
  ·cases hk
 have K1:T'.nx=T.nx:=by rw [VX]
 have VY:∀ k o,k < T.nx->T.get k=some o->T'.get k=some o:=fun k o hk h=>by
  rw [VX]
  show (if k < T.nx then T.get k else none)=some o
  rw [if_pos hk];exact h
 have hle:=hT.le
 have ho:∀ k,k < N->gP id N T'.nx k=k:=fun k hk=>m9 hk
 have hf:Fits id (aE so N) (aE so N) T' T':=by
  refine⟨fun i j _ _ e=>e,fun j hj=>by rw [K1];exact Nat.lt_of_lt_of_le hj hle,fun j o hj=>?_,fun k o hk=>?_,.inr ⟨Nat.le_refl _,rfl⟩,.inr fun j J hj=>?_⟩
  ·obtain⟨h1,h2,h3,h4⟩:=hT.get j o hj
   exact⟨o,VY j o (Nat.lt_of_lt_of_le h1 hle) h2,kF.bM h3 h4⟩
  ·obtain⟨h1,h2⟩:=get' k o hk
   by_cases ir:k < N
   ·obtain⟨o',QW⟩:=hT.all k ir
    obtain⟨q1,q2,q3,q4⟩:=hT.get k o' QW
    obtain rfl:o'=o:=by rw [h2] at q2;exact (Option.some.inj q2).symm
    refine .inl ⟨k,o',ho k ir,QW,fun gc g w b cp hB _ xY=>?_,fun J e=>e⟩
    have n_:∀ k,k < N->gP id (aE so N).nx T'.nx k=k:=ho
    exact dF.bM (B:=N) (fun k hk ha=>by have:=hB.al k ha;rwa [n_ k hk] at this) (fun k hk ha=>by have:=hB.ob k ha;rwa [n_ k hk] at this) (fun k hk ha=>by have:=hB.cp k ha;rwa [n_ k hk] at this) hB.fz q3 q4 (fun hk h=>aL.back n_ hB hk h) xY
   ·exact .inr ⟨by rw [K1];exact h1,fun j hj e=>ir (by rw [<-e];exact hj),hk⟩
  ·obtain⟨_,_,_,h4⟩:=hT.get j _ hj
   exact absurd rfl (h4 J)
 have hc:=h.frame hf rfl (fun i a b h1 h2=>by
  rw [h1] at h2
  obtain rfl:=Option.some.inj h2
  exact Rn.bM (ha _ (List.mem_of_getElem? h1))) (fun gc g w x hB xY=>aL.back (N:=N) (o:=gP id (aE so N).nx T'.nx) ho hB hr xY)
 refine⟨hc.1,fun F m A g bO w hF hS hA=>(hc.2 F m A g bO w hF (hS.forget (by rw [K1];exact Nat.le_refl _) fun j p hj _=>(get' j p hj).2) hA).mono ?_⟩
 rintro e w' ⟨v,g',rfl,h1,h2,h3⟩
 refine⟨v,g',rfl,h1,h2.forget (by rw [K1];exact Nat.le_refl _) fun j p hj bG=>?_,h3⟩
 have:=h2.al j bG
 exact VY j p (by rw [<-K1];exact this) hj
theorem ad.gN {f:QO}{mh:List QO}{g:FuncId}{args:List AV}(hc:aV P w0 g args (aE so N) r (aE so N)) (h:e7 (f.ev α.tm) (mh.map (·.ev α.tm))=some (g,args)) (hT:rh so N T) (ha:∀ a ∈ args,cD N a) (hr:cD N r):ad P w0 dr (.call f mh) α T r T :=
 ad.call h (hc.same hT ha hr) fun _=>rfl
end
section
variable {P:Program}{w0:World}{α:AA}{S:ae}
theorem ad.Cm {x i b:QO}{k:Nat}{es:List (Value × AV)}{m:Int}{a:AV}(hx:x.ev α.tm=.mp k) (hS:S.get k=some (.mp es)) (hk:qB es) (hi:i.ev α.tm=.v (.int .i64 m)) (hb:b.ev α.tm=a) :
  ad P w0 true (.j6 x i b) α S (.v undef) (S.set k (some (.mp (xI es m a)))):=by
 intro n o hr
 obtain⟨t,u,v,y,kt,et,kk,ho,rfl,rfl,rfl,h1,h2⟩:=CC hr
 rw [aU] at hx hi hb
 have e:∀ z ∈ [u,v,y],(α.only (dg o)).ev z=α.ev z:=fun z hz=>jl fun t ht=>iA (by rw [ho];simp [Op.operands,<-ht];simpa using hz)
 exact⟨(CD ho h1 h2 (by rw [e u (by simp)];exact hx) hS hk (by rw [e v (by simp)];exact hi) (by rw [e y (by simp)];exact hb)).ops (fun c e=>by rw [ho] at e;cases e),
  fun hp=>(by rw [ho] at hp;cases hp),fun hw=>(by rw [ho] at hw;cases hw)⟩
theorem ab.Cm {rd:Bool}{n:Nat}{Q:Exit->AA->ae->Prop}{l:List QI}{K:List iq}{ρ:Hd}{T:Type}{f:T->AV}{kv:List (Int × T)}{d:Option Nat}{g:Option (Nat × Bool)}{x i b:QO}{k:Nat}{m:Int}{v:T}(hw:cb α.tm g=some true) (hx:x.ev α.tm=.mp k) (hS:S.get k=some (.mp (ρ.h (kX f) kv))) (hi:i.ev α.tm=.v (.int .i64 m)) (hb:b.ev α.tm=f v)
  (k1:∀ sY,sY=qA kv m v->ab P w0 rd n Q (.bz true l K) (cG d α (.v undef)) (S.set k (some (.mp (ρ.h (kX f) sY))))):ab P w0 rd n Q (.bz true (⟨d,g,.j6 x i b⟩::l) K) α S:=by
 have h:=ad.Cm (P:=P) (w0:=w0) hx hS (by rw [ρ.eq];exact z5) hi hb
 rw [ρ.eq,CB,<-ρ.eq (kX f)] at h
 exact ab.op (i:=⟨d,g,.j6 x i b⟩) hw h (k1 _ rfl)
end
section
variable {P:Program}{w0:World}{n:Nat}{o:Oper}{α:AA}{S S':ae}{r:AV}
theorem St.Ap {A:Nat->Prop}{g:Gh}{w:World}{k sz fz p:Nat}{rows more:List (List AV)}{ex:Bool}{cs:Array Value}{ty:TypeId}{news:List Value}(hS:St w0 A g S w) (hk:S.get k=some (.arr sz rows fz ex)) (ha:g.al k) (hc:w.heap[g.ob k]?=some (.cells cs ty (0,0)))
  (hl:∀ r ∈ more,r.length=sz) (hn:news.length=more.length*sz) (hr:∀ (i:Nat) (row:List AV) (j:Nat) (a:AV),more[i]?=some row->row[j]?=some a->∃ x,news[i*sz+j]?=some x/\aL g w a x) (hp:p+more.length<=rows.length) (hf:fz<=p) :
  Ext A g w g (w.setRow (g.ob k) (cs.toList.take (p*sz)++news++cs.toList.drop (p*sz+news.length)).toArray)/\St w0 A g (S.set k (some (.arr sz (rows.take p++more++rows.drop (p+more.length)) fz ex))) (w.setRow (g.ob k) (cs.toList.take (p*sz)++news++cs.toList.drop (p*sz+news.length)).toArray):=by
 obtain⟨k2,k3,y0,mi,h1,h2,h3,h4,h5,h6,h7⟩:=hS.cH k _ hk ha
 obtain⟨rfl,rfl⟩:y0=cs/\mi=ty:=by
  rw [hc] at h1
  simp only [Option.some.injEq,Obj.cells.injEq] at h1
  exact⟨h1.1.symm,h1.2.1.symm⟩
 have hm:p*sz+more.length*sz<=g.cp k*sz:=by rw [<-Nat.add_mul];exact Nat.mul_le_mul_right sz (by omega)
 have en:p*sz+news.length<=y0.toList.length:=by
  have e:=Array.length_toList (xs:=y0)
  rw [hn,e,h2];exact hm
 obtain⟨cs',oz⟩:∃ cs',cs'=(y0.toList.take (p*sz)++news++y0.toList.drop (p*sz+news.length)).toArray:=⟨_,rfl⟩
 rw [<-oz]
 have kl:∀ q,cs'[q]?=if q < p*sz then y0[q]? else if q < p*sz+news.length then news[q - p*sz]? else y0[q]?:=by
  intro q
  rw [oz,List.getElem?_toArray,qt _ _ _ en]
  simp only [Array.getElem?_toList]
 have Hp:cs'.size=y0.size:=by
  rw [oz]
  simp at en ⊢
  omega
 have gZ:(rows.take p++more++rows.drop (p+more.length)).length=rows.length:=by simp;omega
 exact hS.row hk ha h1 (cs':=cs') (ob:=.arr sz (rows.take p++more++rows.drop (p+more.length)) fz ex) (fun J=>⟨by simp,by simp⟩) (fun q hq=>by
  have:=(h7 q).1 hq
  rw [kl,if_pos (Nat.lt_of_lt_of_le this (Nat.mul_le_mul_right sz hf))]) (fun hL=>by
  refine⟨cs',mi,setRow_heap w _ y0 cs' mi (0,0) h1,Hp.trans h2,by rw [gZ];exact h3,fun h=>by rw [gZ];exact h4 h,fun i row hi=>?_,by rw [gZ];exact h6,h7⟩
  rw [qt _ _ _ hp] at hi
  split at hi
  ·rename_i c1
   refine⟨(h5 i row hi).1,fun j a cC=>?_⟩
   obtain⟨x,hx,dO⟩:=(h5 i row hi).2 j a cC
   have hj:j < sz:=by rw [<-(h5 i row hi).1];exact (List.getElem?_eq_some_iff.1 cC).1
   exact⟨x,by rw [kl,if_pos (jQ c1 hj)];exact hx,dO.later hL⟩
  ·rename_i c1
   split at hi
   ·rename_i c2
    have gZ:=hl row (List.mem_of_getElem? hi)
    refine⟨gZ,fun j a cC=>?_⟩
    obtain⟨x,hx,dO⟩:=hr _ row j a hi cC
    have au:=(List.getElem?_eq_some_iff.1 hx).1
    have e:i*sz=p*sz+(i - p)*sz:=by rw [<-Nat.add_mul];congr 1;omega
    exact⟨x,by rw [kl,if_neg (by omega),if_pos (by omega),show i*sz+j - p*sz=(i - p)*sz+j by omega];exact hx,dO.later hL⟩
   ·rename_i c2
    refine⟨(h5 i row hi).1,fun j a cC=>?_⟩
    obtain⟨x,hx,dO⟩:=(h5 i row hi).2 j a cC
    have e:p*sz+news.length<=i*sz:=by rw [hn,<-Nat.add_mul];exact Nat.mul_le_mul_right sz (by omega)
    exact⟨x,by rw [kl,if_neg (by omega),if_neg (by omega)];exact hx,dO.later hL⟩)
theorem ly {t e:TypeId}(h:fJ P t=some e):P.underlying t=some (.slice e):=by
 unfold fJ at h
 split at h
 ·obtain rfl:=Option.some.inj h;assumption
 ·cases h
theorem xZ {sz:Nat}{a b:QO}{o:Op}(h:res P.toTables o=some (.copy sz a b)):∃ c t t2 u v e e2,o=.call c/\c.callee=.builtin .copy/\c.argTypes=#[t,t2]/\c.args=#[u,v]/\a=qo u/\b=qo v/\fJ P t=some e/\fJ P t2=some e2/\cS P e=some sz:=by
 cases o<;>simp only [res,jR,ec] at h<;>(repeat' split at h)<;>(try cases h)
 exact⟨_,_,_,_,_,_,_,rfl,by assumption,by rw [<-Array.toArray_toList (xs:=Call.argTypes _)];congr,by rw [<-Array.toArray_toList (xs:=Call.args _)];congr,rfl,rfl,by assumption,by assumption,by assumption⟩
theorem Bm (w:World) (t t2 ty e:TypeId) (i:TypeInfo) (ht:P.underlying t=some (.slice e)) (hi:P.info? e=some i) (d a:Option Addr) (dl dc c:Nat):(Builtin.copy_ #[t,t2] ty #[.slice d dl dc,.slice a 0 c]).run P w=.ok (goInt 0) w:=by
 have hl:∀ (x:Addr),(loadCells x 0).run P w=.ok #[] w:=fun x=>by simpa using run_loadCells_list (P:=P) w x [] (by simp)
 cases d<;>cases a<;>simp [Builtin.copy_,run_underlying ht,Builtin.lenOf,Builtin.firstCells,sizeOf,typeInfo,hi,storeCells,hl]
theorem K2 (w:World) (t t2 ty e mi:TypeId) (i:TypeInfo) (ht:P.underlying t=some (.slice e)) (hi:P.info? e=some i) (g q dl dc:Nat) (cur:Array Value) (hg:w.heap[g]?=some (.cells cur mi (0,0)))
  (a:Addr) (m c:Nat) (news:List Value) (hl:news.length=m*i.size) (p_:∀ j u,news[j]?=some u->w.cell? (a.add j)=some u) (h1:∀ u ∈ news,u.oneCell'=true) (hle:m<=dl) (en:q+news.length<=cur.size) :
  (Builtin.copy_ #[t,t2] ty #[.slice (some ⟨g,q,none⟩) dl dc,.slice (some a) m c]).run P w=.ok (goInt m) (w.setRow g (cur.toList.take q++news++cur.toList.drop (q+news.length)).toArray):=by
 have hf:=run_firstCells_some (P:=P) w i.size m a m c news hl p_
 have jI:=run_storeCells_at P g q mi news 0 cur w hg (by simpa using en) h1
 simp only [Nat.add_zero] at jI
 have hn:Nat.min m dl=m:=Nat.min_eq_left hle
 simp [Builtin.copy_,run_underlying ht,sizeOf,typeInfo,hi,Builtin.lenOf,hn,hf,jI]
theorem ad.VZ {sz k sz' off len:Nat}{cx:Option Nat}{a b:QO}(hx:a.ev α.tm=.ob k sz' off len cx) (hm:dv S (b.ev α.tm)=some []):ad P w0 false (.copy sz a b) α S (.v (.int .i64 0)) S:=ad.run fun n o hr=>by
 obtain⟨c,t,t2,u,v,e,e2,ho,hc,fC,bD,rfl,rfl,ht,fh,hs⟩:=xZ hr
 rw [aU] at hx hm
 obtain⟨hm,hlen⟩:=dp hm
 have ht:=ly ht
 obtain⟨i,hi,bI⟩:=iI hs
 intro A g q w hS hA
 have g1:=hA.ev u
 have g2:=hA.ev v
 rw [hx] at g1
 obtain⟨cc,e1,_⟩:=gA g1
 obtain⟨B,c2,e3⟩:=nG (by simpa using hlen) hm g2
 refine⟨_,_,g,.inl ?_,.v,hS,.refl _ _ _⟩
 have cu:(execOp q.eval o).run P w=((Builtin.copy_ #[t,t2] o.type #[q.eval u,q.eval v]).run P w).andThen fun v w'=>.ok (.value v) w':=by
  simp [execOp,ho,resolve,hc,fC,bD,invoke,builtin]
 rw [cu,e1,e3,Bm w t t2 o.type e i ht hi]
 rfl
theorem ad.afA {dr:Bool}{sz:Nat}{e1 e2:Bool}{a b:QO}(hx:a.ev α.tm=.sl e1 []) (hy:b.ev α.tm=.sl e2 []):ad P w0 dr (.copy sz a b) α S (.v (.int .i64 0)) S:=by
 have key:∀ (α:AA) (S:ae) (n:Nat) (o:Oper) (c:Call) (t t2:TypeId) (u v:Operand) (e:TypeId),o.op=.call c->c.callee=.builtin .copy->c.argTypes=#[t,t2]->c.args=#[u,v]->fJ P t=some e->cS P e=some sz->α.ev u=.sl e1 []->α.ev v=.sl e2 []->bg P w0 n o α S (.v (.int .i64 0)) S:=by
  intro α S n o c t t2 u v e ho hc fC bD ht hs hx hy
  have ht:=ly ht
  obtain⟨i,hi,bI⟩:=iI hs
  intro A g q w hS hA
  have g1:=hA.ev u
  have g2:=hA.ev v
  rw [hx] at g1
  rw [hy] at g2
  obtain⟨B1,c1,f1⟩:=nG (S:=ae.none_) rfl rfl g1
  obtain⟨B2,c2,f2⟩:=nG (S:=ae.none_) rfl rfl g2
  refine⟨_,_,g,.inl ?_,.v,hS,.refl _ _ _⟩
  have cu:(execOp q.eval o).run P w=((Builtin.copy_ #[t,t2] o.type #[q.eval u,q.eval v]).run P w).andThen fun v w'=>.ok (.value v) w':=by
   simp [execOp,ho,resolve,hc,fC,bD,invoke,builtin]
  rw [cu,f1,f2,Bm w t t2 o.type e i ht hi]
  rfl
 have go:∀ (n:Nat) (o:Oper),res P.toTables o.op=some (.copy sz a b)->eB P w0 n o (α.only (dg o)) S (.v (.int .i64 0)) S/\(∀ T,eB P w0 n o (α.only (dg o)) T (.v (.int .i64 0)) T)/\eB P w0 n o α S (.v (.int .i64 0)) S:=by
  intro n o hr
  obtain⟨c,t,t2,u,v,e,e2',ho,hc,fC,bD,rfl,rfl,ht,fh,hs⟩:=xZ hr
  rw [aU] at hx hy
  have e:∀ z ∈ [u,v],(α.only (dg o)).ev z=α.ev z:=fun z hz=>jl fun t ht=>iA (by rw [ho];simp only [Op.operands,Call.operands,bD,<-ht];simp at hz ⊢;rcases hz with rfl|rfl<;>simp)
  have hd:∀ c,o.op ≠ .defer c:=fun c e=>by rw [ho] at e;cases e
  exact⟨(key _ _ n o c t t2 u v _ ho hc fC bD ht hs (by rw [e u (by simp)];exact hx) (by rw [e v (by simp)];exact hy)).ops hd,fun T=>(key _ _ n o c t t2 u v _ ho hc fC bD ht hs (by rw [e u (by simp)];exact hx) (by rw [e v (by simp)];exact hy)).ops hd,(key _ _ n o c t t2 u v _ ho hc fC bD ht hs hx hy).ops hd⟩
 cases dr with
 |false=>exact fun n o hr=>(go n o hr).2.2
 |true=>exact fun n o hr=>⟨(go n o hr).1,fun _=>⟨rfl,(go n o hr).2.1⟩,fun _=>rfl⟩
theorem ad.cpy {sz k off len fz:Nat}{cx:Option Nat}{a b:QO}{rows more:List (List AV)}{x:List AV}{ex:Bool}(hx:a.ev α.tm=.ob k sz off len cx) (hk:S.get k=some (.arr sz rows fz ex)) (hm:dv S (b.ev α.tm)=some (x::more)) (hle:(x::more).length<=len) (n0:off+len<=rows.length) (hf:fz<=off)
  (h3:∀ row ∈ x::more,row.length=sz/\row.all cn=true):ad P w0 false (.copy sz a b) α S (.v (.int .i64 (x::more).length)) (S.set k (some (.arr sz (rows.take off++(x::more)++rows.drop (off+(x::more).length)) fz ex))):=ad.run fun n o hr=>by
 obtain⟨c,t,t2,u,v,e,e2,ho,hc,fC,bD,rfl,rfl,ht,fh,hs⟩:=xZ hr
 rw [aU] at hx hm
 obtain⟨hm,hlen⟩:=dp hm
 have ht:=ly ht
 obtain⟨i,hi,bI⟩:=iI hs
 intro A g q w hS hA
 have g1:=hA.ev u
 have g2:=hA.ev v
 rw [hx] at g1
 obtain⟨cc,e1,bG,_,_,_,_⟩:=gA g1
 obtain⟨b2,q2,c2,news,e3,Hq,jS⟩:=lU hS hm g2 (by simp) (fun r hr=>(h3 r hr).1) hlen
 obtain⟨k2,k3,cs,mi,p1,p2,p3,p4,p5,p6,p7⟩:=hS.cH k _ hk bG
 have g7:off*sz+(x::more).length*sz<=g.cp k*sz:=by rw [<-Nat.add_mul];exact Nat.mul_le_mul_right sz (by omega)
 have en:off*sz+news.length<=cs.size:=by rw [jS.1,p2];omega
 have cu:=K2 (P:=P) w t t2 o.type e mi i ht hi (g.ob k) (off*sz) len cc cs p1 ⟨b2,q2,none⟩ (x::more).length c2 news (by rw [jS.1,bI]) jS.2.1 (x7 jS h3) hle en
 obtain⟨hE,cZ⟩:=hS.Ap (p:=off) (more:=x::more) (news:=news) hk bG p1 (fun r hr=>(h3 r hr).1) jS.1 (fun i row j a hi ha=>jS.2.2 i row hi j a ha) (by omega) hf
 refine⟨_,_,g,.inl ?_,.v,cZ,hE⟩
 have hx:(execOp q.eval o).run P w=((Builtin.copy_ #[t,t2] o.type #[q.eval u,q.eval v]).run P w).andThen fun v w'=>.ok (.value v) w':=by
  simp [execOp,ho,resolve,hc,fC,bD,invoke,builtin]
 rw [hx,e1,e3,cu]
 rfl
theorem EW {t e:TypeId}{l c:Operand}{z:Value}{sz by_:Nat}{ka kb:IntKind}{a b:Int}(ho:o.op=.makeSlice t l c) (ht:P.underlying t=some (.slice e)) (hz:cY P e=some z) (hs:cS P e=some sz) (j4:gm P e=some by_)
  (ld:z.cells.size=sz) (QX:0 < sz) (hl:α.ev l=.v (.int ka a)) (hc:α.ev c=.v (.int kb b)) (h1:0<=a) (h0:a<=b) (h2:b*by_<=35184372088832) (h3:b<=9223372036854775807) :
  bg P w0 n o α S (.ob S.nx sz 0 a.toNat none) (S.new (.arr sz (List.replicate b.toNat (z.cells.toList.map bV)) 0 true)):=by
 intro A g q w hS hA
 obtain⟨i,hi,bI⟩:=iI hs
 have pK:i.zero=some z:=by unfold cY at hz;rw [hi] at hz;simpa using hz
 have Bn:i.bytes=by_:=by unfold gm at j4;rw [hi] at j4;simpa using j4
 have gZ:=hA.ev l
 have y3:=hA.ev c
 rw [hl] at gZ
 rw [hc] at y3
 have gZ:=cd gZ
 have y3:=cd y3
 have cu:=run_make (P:=P) w t e i z ht hi pK ka kb a b h1 h0 (by rw [Bn,Int.mul_comm];omega) h3
 have ri:∀ q,¬ g.fz w.heap.size q:=fun q hf=>absurd (hS.cK _ _ hf) (Nat.lt_irrefl _)
 obtain⟨hE,cZ⟩:=hS.new (.cells (madeCells z.cells (b.toNat*i.size)) e) (.arr sz (List.replicate b.toNat (z.cells.toList.map bV)) 0 true) b.toNat (fun J=>by simp) (fun hL=>by
  refine⟨_,e,dy,?_,by simp,fun _=>by simp,fun m row hr=>?_,Nat.zero_le _,fun q=>⟨fun h=>absurd h (ri q),fun h=>by simp at h⟩⟩
  ·rw [size_madeCells,bI]
  ·obtain⟨gY,rfl⟩:=List.getElem?_eq_some_iff.1 hr
   simp only [List.length_replicate] at gY
   simp only [List.getElem_replicate]
   refine⟨by simp [ld],fun j b' hj=>?_⟩
   simp only [List.getElem?_map,Option.map_eq_some_iff] at hj
   obtain⟨y,hy,rfl⟩:=hj
   have vt:j < sz:=by
    have:=(List.getElem?_eq_some_iff.1 hy).1
    simp at this
    omega
   refine⟨y,?_,j3 y⟩
   have au:m*sz+j < b.toNat*sz:=jQ gY vt
   have iE:j < z.cells.size:=by omega
   have e1:(m*sz+j) % z.cells.size=j:=by
    rw [ld,Nat.mul_comm,Nat.mul_add_mod]
    exact Nat.mod_eq_of_lt vt
   have e2:(madeCells z.cells (b.toNat*i.size))[m*sz+j]?=some (z.cells[(m*sz+j) % z.cells.size]!):=by
    unfold madeCells
    rw [Array.getElem?_map,Array.getElem?_range,if_pos (by rw [bI];exact au)]
    rfl
   rw [e2,e1,getElem!_pos z.cells j iE,<-hy,Array.getElem?_toList,Array.getElem?_eq_getElem iE])
 refine⟨.slice (some ⟨w.heap.size,0,none⟩) a.toNat b.toNat,_,_,.inl ?_,?_,cZ,hE⟩
 ·simp only [execOp,ho,gZ,y3,Sem.run_bind,cu]
  rfl
 ·have:=aL.ob (g:=g.new S.nx w.heap.size b.toNat) (w:=w.alloc (.cells (madeCells z.cells (b.toNat*i.size)) e)) (k:=S.nx) (sz:=sz) (off:=0) (len:=a.toNat) (c:=b.toNat) (cx:=none) (.inr rfl) (fun m h=>by cases h)
   (by rw [Nat.zero_add];exact Nat.le_of_eq (aG _ _ _).symm) (fun _=>by rw [Nat.zero_add];exact (aG _ _ _).symm) (by omega)
  rw [show (g.new S.nx w.heap.size b.toNat).ob S.nx=w.heap.size from aG _ _ _,Nat.zero_mul] at this
  exact this
theorem ad.V0 {z:List AV}{by_:Nat}{l c:QO}{k k':IntKind}{a b:Int}(h1:l.ev α.tm=.v (.int k a)) (h2:c.ev α.tm=.v (.int k' b)) (h3:0<=a) (h4:a<=b) (h5:b*by_<=35184372088832) (h6:b<=9223372036854775807) :
  ad P w0 false (.jo z by_ l c) α S (.ob S.nx z.length 0 a.toNat none) (S.new (.arr z.length (List.replicate b.toNat z) 0 true)):=ad.run fun n o hr=>by
 obtain⟨t,u,v,e,zv,sz,ho,rfl,rfl,e1,e2,e3,e4,rfl,e5,e6⟩:=FO hr
 have hz:(zv.cells.toList.map bV).length=sz:=by rw [<-Nat.eq_of_beq_eq_true e5];simp
 rw [aU] at h1 h2
 rw [hz]
 exact EW ho (ly e1) e2 e3 e4 (Nat.eq_of_beq_eq_true e5) (Nat.le_of_ble_eq_true e6) h1 h2 h3 h4 h5 h6
theorem ad.V1 {sz by_ k fz len:Nat}{ex:Bool}{a b:QO}{rows more:List (List AV)}{x:List AV}(h1:a.ev α.tm=.ob k sz 0 len none) (hk:S.get k=some (.arr sz rows fz ex)) (hm:dv S (b.ev α.tm)=some (x::more)) (h0:fz<=len) (h2:len+(x::more).length<=rows.length)
  (h3:∀ row ∈ x::more,row.length=sz/\row.all cn=true) :
  ad P w0 false (.append sz by_ a b) α S (.ob k sz 0 (len+(x::more).length) none) (S.set k (some (.arr sz (rows.take len++(x::more)++rows.drop (len+(x::more).length)) fz ex))):=ad.run fun n o hr=>by
 obtain⟨c,t,t2,u,v,e,e2,z,ho,hc,fC,bD,rfl,rfl,ht,fh,hz,hs,j4,ld,td⟩:=lQ hr
 rw [aU] at h1 hm
 obtain⟨hm,hlen⟩:=dp hm
 have fC:c.argTypes=#[t,t2]:=by rw [<-Array.toArray_toList (xs:=c.argTypes),fC]
 have bD:c.args=#[u,v]:=by rw [<-Array.toArray_toList (xs:=c.args),bD]
 have ht:=ly ht
 have fh:=ly fh
 intro A g q w hS hA
 have g1:=hA.ev u
 have g2:=hA.ev v
 rw [h1] at g1
 obtain⟨cc,e1,bG,l4,m8,hcn,hle⟩:=gA g1
 obtain⟨b2,q2,c2,news,e3,Hq,jS⟩:=lU hS hm g2 (by simp) (fun r hr=>(h3 r hr).1) hlen
 obtain⟨k2,k3,cs,mi,p1,p2,p3,p4,p5,p6,p7⟩:=hS.cH k _ hk bG
 obtain⟨i,hi,bI⟩:=iI hs
 have V2:=hcn rfl
 have qc:len+(x::more).length<=cc:=by omega
 have g7:len*sz+(x::more).length*sz<=g.cp k*sz:=by rw [<-Nat.add_mul];exact Nat.mul_le_mul_right sz (by omega)
 have en:0+len*i.size+news.length<=cs.size:=by rw [jS.1,p2,bI];omega
 have cu:=rj (P:=P) w t o.type e mi i ht hi (g.ob k) 0 len cc cs p1 ⟨b2,q2,none⟩ (x::more).length c2 news (by rw [jS.1,bI]) jS.2.1 (x7 jS h3) qc en
 simp only [Nat.zero_add,bI] at cu en
 obtain⟨hE,cZ⟩:=hS.Ap (p:=len) (more:=x::more) (news:=news) hk bG p1 (fun r hr=>(h3 r hr).1) jS.1 (fun i row j a hi ha=>jS.2.2 i row hi j a ha) h2 h0
 refine⟨.slice (some ⟨g.ob k,0,none⟩) (len+(x::more).length) cc,_,g,.inl ?_,?_,cZ,hE⟩
 ·have hx:(execOp q.eval o).run P w=((Builtin.append_ #[t,t2] o.type #[q.eval u,q.eval v]).run P w).andThen fun v w'=>.ok (.value v) w':=by
   simp [execOp,ho,resolve,hc,fC,bD,invoke,builtin]
  rw [hx,e1,e3,nH ht fh,Nat.zero_mul,cu]
  rfl
 ·have:=aL.ob (g:=g) (w:=w.setRow (g.ob k) (cs.toList.take (len*sz)++news++cs.toList.drop (len*sz+news.length)).toArray) (k:=k) (sz:=sz) (off:=0) (len:=len+(x::more).length) (c:=cc) (cx:=none) bG (fun m h=>by cases h) m8 hcn qc
  rw [Nat.zero_mul] at this
  exact this
end
def iN {T:Type}(f:T->List AV) (z:List AV) (m:Nat) (l:List T):List (List AV):=l.map f++List.replicate (m - l.length) z
section
variable {P:Program}{w0:World}{α:AA}{S:ae}{rd:Bool}{n:Nat}{Q:Exit->AA->ae->Prop}{l:List QI}{K:List iq}{ρ:Hd}{T:Type}{f:T->List AV}{z:List AV}{dd:Option Nat}{gg:Option (Nat × Bool)}{acc ys:List T}
theorem Ng {m:Nat}{l:List T}(h:l.length<=m):(iN f z m l).length=m:=by unfold iN;simp;omega
theorem ab.V3 {by_:Nat}{a b:QO}{i:Int}{m sz:Nat}(ρ:Hd) (f:T->List AV) (hw:cb α.tm gg=some true) (h1:a.ev α.tm=.v (.int .i64 0)) (h2:b.ev α.tm=.v (.int .i64 i)) (hi:i=m) (hs:z.length=sz) (hy:m*by_<=35184372088832) (h6:m<=9223372036854775807)
  (kk:∀ acc:List T,acc=[]->ab P w0 rd n Q (.bz false l K) (cG dd α (.ob S.nx sz 0 0 none)) (S.new (.arr sz (ρ.h (iN f z m) acc) 0 true))):ab P w0 rd n Q (.bz false (⟨dd,gg,.jo z by_ a b⟩::l) K) α S:=by
 have h:=kk [] rfl
 rw [ρ.eq] at h
 subst hs hi
 exact ab.op (i:=⟨dd,gg,.jo z by_ a b⟩) hw (by simpa [iN] using ad.V0 (P:=P) (w0:=w0) (z:=z) (by_:=by_) (S:=S) h1 h2 (by omega) (by omega) (by omega) (by omega)) (by simpa [iN] using h)
theorem V4 {α:Type}{g:Nat->α}{k:Nat}{o:α}(h:g k=o):bP g k o=g:=by
 funext j
 by_cases e:j=k
 ·rw [e,aG,h]
 ·rw [aN _ _ e]
theorem ab.Nh {by_ sz k len m:Nat}{ex ex':Bool}{a b:QO}(hw:cb α.tm gg=some true) (h1:a.ev α.tm=.ob k sz 0 len none) (hk:S.get k=some (.arr sz (ρ.h (iN f z m) acc) 0 ex)) (hn:len=acc.length) (hb:b.ev α.tm=bY ρ f ex' ys) (hl:∀ x,(f x).length=sz) (hc:∀ x,(f x).all cn=true) (hm:acc.length+ys.length<=m)
  (kk:∀ dx cF,dx=acc++ys->cF=dx.length->ab P w0 rd n Q (.bz false l K) (cG dd α (.ob k sz 0 cF none)) (S.set k (some (.arr sz (ρ.h (iN f z m) dx) 0 ex)))):ab P w0 rd n Q (.bz false (⟨dd,gg,.append sz by_ a b⟩::l) K) α S:=by
 rw [dE] at hb
 have h:=kk _ _ rfl rfl
 rw [ρ.eq] at h hk
 cases ys with
 |nil =>
  rw [List.append_nil] at h
  have e:S.set k (some (.arr sz (iN f z m acc) 0 ex))=S:=by
   cases S with
   |mk g x=>show (⟨bP g k _,x⟩:ae)=⟨g,x⟩;rw [V4 hk]
  rw [e] at h
  subst hn
  exact ab.op (i:=⟨dd,gg,.append sz by_ a b⟩) hw (ad.yO h1 hk (by rw [hb];exact fy)) h
 |cons y ys =>
  have hp:=Ng (f:=f) (z:=z) (show acc.length<=m by omega)
  have hlen:(f y::List.map f ys).length=(y::ys).length:=by simp
  have o:=ad.V1 (P:=P) (w0:=w0) (by_:=by_) (x:=f y) (more:=List.map f ys) h1 hk (by rw [hb];exact fy) (Nat.zero_le _) (by rw [hp,hlen,hn];exact hm) (fun row hr=>by
   obtain⟨x,_,rfl⟩:=List.mem_map.1 (show row ∈ List.map f (y::ys) from hr)
   exact⟨hl x,hc x⟩)
  have e1:(iN f z m acc).take len=acc.map f:=by rw [iN,hn,List.take_append_of_le_length (by simp),List.take_of_length_le (by simp)]
  have e2:(iN f z m acc).drop (len+(f y::List.map f ys).length)=List.replicate (m - (acc++y::ys).length) z:=by
   rw [iN,hn,List.drop_append,List.drop_eq_nil_of_le (by simp),List.nil_append,List.drop_replicate]
   congr 1
   simp
   omega
  have e3:(iN f z m acc).take len++f y::List.map f ys++(iN f z m acc).drop (len+(f y::List.map f ys).length)=iN f z m (acc++y::ys):=by
   rw [e1,e2]
   simp [iN]
  rw [e3] at o
  have e4:len+(f y::List.map f ys).length=(acc++y::ys).length:=by rw [hn];simp
  rw [e4] at o
  exact ab.op (i:=⟨dd,gg,.append sz by_ a b⟩) hw o h
theorem aX.V5 {k sz len m:Nat}{ex:Bool}(hk:S.get k=some (.arr sz (ρ.h (iN f z m) acc) 0 ex)) (hn:len=acc.length):aX S (.ob k sz 0 len none) (bY ρ f false acc):=by
 rw [dE]
 rw [ρ.eq] at hk
 have key:∀ i row,(acc.map f)[i]?=some row->(iN f z m acc)[i]?=some row:=fun i row h=>by
  unfold iN
  rw [List.getElem?_append_left (List.getElem?_eq_some_iff.1 h).1]
  exact h
 refine .ob hk (by simp [iN];omega) (by simp [hn]) (fun i row bA h1 h2=>?_) (fun i j row bA a a' h1 h2 h3 h4=>?_)
 ·rw [Nat.zero_add,key i _ h2] at h1
  rw [Option.some.inj h1]
 ·rw [Nat.zero_add,key i _ h2] at h1
  rw [Option.some.inj h1,h3] at h4
  rw [Option.some.inj h4]
  exact .refl _
theorem cj.yl {B:Nat}{f:QO}{aZ9:List QO}{k:Nat}{args:List AV}{b:Bool}{J J1:iX}(h:f.ev α.tm=.yl k) (ha:aZ9.map (·.ev α.tm)=args) (hk:S.get k=some (.fo J)) (hr:∀ (T:ae) (k:Nat),T.get k=some (.fo J)->nz P w0 k args T (.v (.bool b)) (T.set k (some (.fo J1)))) :
  cj P w0 B (.call f aZ9) α S (.v (.bool b)) ⟨[(k,.fo J)],[(k,some (.fo J1))],false⟩:=by
 intro n o iZ
 obtain⟨c,u,ho,hu,Vt,has⟩:=lj iZ
 refine⟨fun hp=>(by rw [ho] at hp;simp only [jt,hu] at hp;cases hp),fun p hp=>(by obtain rfl:=List.mem_singleton.1 hp;exact hk),fun T _ uL _=>?_⟩
 have hT:T.get k=some (.fo J):=uL _ List.mem_cons_self
 have eo:∀ q ∈ (.call c:Op).operands,(α.only (dg o)).ev q=α.ev q:=fun q hq=>jl fun t ht=>iA (by rw [ho,<-ht];exact hq)
 have e1:(α.only (dg o)).ev u=.yl k:=by rw [eo u (show u ∈ c.operands by simp [Call.operands,hu]),<-h,Vt,aU]
 have e2:c.args.toList.map (α.only (dg o)).ev=args:=by
  rw [<-ha,has,lO]
  exact List.map_congr_left fun q hq=>eo q (show q ∈ c.operands by simp [Call.operands,hu];exact .inr (by simpa using hq))
 rw [dW]
 exact wE ho hu e1 (by rw [e2];exact hr T k hT)
end
section
variable {P:Program}{w0:World}{α:AA}{S:ae}
theorem Ni {v:Value}(h:lift v=.sl true []):v=.slice none 0 0:=by
 have h1:∀ v,bV v=.sl true []->v=.slice none 0 0:=by
  intro v h
  unfold bV at h
  split at h
  ·rfl
  ·cases h
 cases v with
 |agg cs=>cases h
 |_=>exact h1 _ h
theorem V6 {u:Operand}(h:.c (.sl true [])=qo u):u=.const (.slice none 0 0):=by
 cases u with
 |const v =>
  injection h with h
  rw [Ni h.symm]
 |_=>cases h
theorem FP {o:Op}{op:BinOp}{x:QO}(h:res P.toTables o=some (.bin op .s x (.c (.sl true [])))):∃ t u s e,o=.binOp op t u (.const (.slice none 0 0)) s/\x=qo u/\P.underlying t=some (.slice e):=by
 cases o with
 |binOp op' t u v s =>
  simp only [res,b_] at h
  split at h
  ·cases h
  ·rename_i e hu
   simp only [Option.some.injEq,dz.bin.injEq] at h
   obtain⟨rfl,_,rfl,h4⟩:=h
   rw [V6 h4.symm]
   exact⟨_,_,_,_,rfl,rfl,hu⟩
  ·split at h<;>cases h
  ·cases h
 |_ =>
  simp only [res] at h
  repeat' split at h
  all_goals cases h
def Dr:AV->Option Bool
 |.sl _ (_::_)=>some false
 |.ob ..=>some false
 |.gr _ _ (_+1)=>some false
 |.v (.slice A _ _)=>some A.isNone
 |_=>none
theorem Nj {g:Gh}{w:World}{a:AV}{x:Value}{b:Bool}(h:Dr a=some b) (hr:aL g w a x):∃ A l c,x=.slice A l c/\A.isNone=b:=by
 unfold Dr at h
 split at h
 ·cases hr with
  |sl=>obtain rfl:=Option.some.inj h;exact⟨_,_,_,rfl,rfl⟩
 ·cases hr with
  |ob=>obtain rfl:=Option.some.inj h;exact⟨_,_,_,rfl,rfl⟩
 ·cases hr with
  |gr=>obtain rfl:=Option.some.inj h;exact⟨_,_,_,rfl,rfl⟩
 ·cases hr with
  |v=>obtain rfl:=Option.some.inj h;exact⟨_,_,_,rfl,rfl⟩
 ·cases h
def Nk (op:BinOp) (b:Bool):Option Bool:=match op with
 |.eql=>some b
 |.neq=>some (!b)
 |_=>none
theorem FQ {op:BinOp}{x:QO}{b d:Bool}{n:Nat}{o:Oper}(hr:res P.toTables o.op=some (.bin op .s x (.c (.sl true [])))) (β:AA) (hx:Dr (x.ev β.tm)=some b) (hd:Nk op b=some d):eB P w0 n o β S (.v (.bool d)) S:=by
 obtain⟨t,u,s,e,ho,rfl,hu⟩:=FP hr
 rw [aU] at hx
 refine bg.ops (bg.quiet fun A g c w hS hA=>⟨.bool d,?_,.v⟩) fun c e=>by rw [ho] at e;cases e
 obtain⟨B,l,cc,h1,rfl⟩:=Nj hx (hA.ev u)
 have h2:c.eval (.const (.slice none 0 0))=.slice none 0 0:=rfl
 cases op<;>cases hd
 ·simp [execOp,ho,h1,eqGuard,h2,binOp,run_equal_slice_nil w t e B l cc hu]
 ·simp [execOp,ho,h1,eqGuard,h2,binOp,run_equal_slice_nil w t e B l cc hu]
theorem ad.nil {dr:Bool}{op:BinOp}{x:QO}{b d:Bool}(hx:Dr (x.ev α.tm)=some b) (hd:Nk op b=some d):ad P w0 dr (.bin op .s x (.c (.sl true []))) α S (.v (.bool d)) S:=by
 cases dr with
 |false=>exact fun n o hr=>FQ hr α hx hd
 |true =>
  intro n o hr
  obtain⟨t,u,s,e,ho,hu,_⟩:=FP hr
  have key:∀ z ∈ o.op.operands,(α.only (dg o)).ev z=α.ev z:=fun z hz=>jl fun t e=>iA (by rw [<-e];exact hz)
  have h1:(α.only (dg o)).ev u=α.ev u:=key u (by rw [ho];simp [Op.operands])
  have h3:∀ T,eB P w0 n o (α.only (dg o)) T (.v (.bool d)) T:=fun T=>FQ hr _ (by rw [hu,aU,h1,<-aU,<-hu];exact hx) hd
  exact⟨h3 S,fun _=>⟨rfl,h3⟩,fun _=>rfl⟩
end
inductive Tr (α:Type) where
 |nil
 |nd (l:Tr α) (v:Option α) (r:Tr α)
def fj {α:Type}:Tr α->Nat->Option α
 |.nil,_=>none
 |.nd l v r,k=>match Nat.beq k 0 with
  |true=>v
  |false=>match Nat.beq (k % 2) 1 with
   |true=>fj l (k / 2)
   |false=>fj r (k / 2 - 1)
def rk {α:Type}:Nat->Tr α->Nat->α->Tr α
 |0,t,_,_=>t
 |m+1,.nil,k,a=>match Nat.beq k 0 with
  |true=>.nd .nil (some a) .nil
  |false=>match Nat.beq (k % 2) 1 with
   |true=>.nd (rk m .nil (k / 2) a) none .nil
   |false=>.nd .nil none (rk m .nil (k / 2 - 1) a)
 |m+1,.nd l v r,k,a=>match Nat.beq k 0 with
  |true=>.nd l (some a) r
  |false=>match Nat.beq (k % 2) 1 with
   |true=>.nd (rk m l (k / 2) a) v r
   |false=>.nd l v (rk m r (k / 2 - 1) a)
theorem wF {i j:Nat}(h:Nat.beq i j=false):i ≠ j:=fun e=>by rw [e,Nat.beq_refl] at h;cases h
theorem Nl {α:Type}{a:α}:∀ {m:Nat}{t:Tr α}{k j:Nat},k < m->fj (rk m t k a) j=if j=k then some a else fj t j:=by
 have step:∀ (l:Tr α) (v:Option α) (r:Tr α) (j:Nat),fj (.nd l v r) j=if j=0 then v else if j % 2=1 then fj l (j / 2) else fj r (j / 2 - 1):=by
  intro l v r j
  simp only [fj]
  cases h0:Nat.beq j 0 with
  |true=>rw [if_pos (Nat.eq_of_beq_eq_true h0)]
  |false =>
   rw [if_neg (wF h0)]
   cases h1:Nat.beq (j % 2) 1 with
   |true=>rw [if_pos (Nat.eq_of_beq_eq_true h1)]
   |false=>rw [if_neg (wF h1)]
 have nil:∀ j,fj (Tr.nil:Tr α) j=none:=fun j=>rfl
 have aay:∀ (m:Nat) (t:Tr α) (k:Nat),∃ l v r,(∀ j,fj t j=fj (.nd l v r) j)/\rk (m+1) t k a=if k=0 then .nd l (some a) r else if k % 2=1 then .nd (rk m l (k / 2) a) v r else .nd l v (rk m r (k / 2 - 1) a):=by
  intro m t k
  have key:∀ {X Y Z:Tr α},(match Nat.beq k 0 with|true=>X|false=>match Nat.beq (k % 2) 1 with|true=>Y|false=>Z)=if k=0 then X else if k % 2=1 then Y else Z:=by
   intro X Y Z
   cases h0:Nat.beq k 0 with
   |true=>rw [if_pos (Nat.eq_of_beq_eq_true h0)]
   |false =>
    rw [if_neg (wF h0)]
    cases h1:Nat.beq (k % 2) 1 with
    |true=>rw [if_pos (Nat.eq_of_beq_eq_true h1)]
    |false=>rw [if_neg (wF h1)]
  cases t with
  |nil =>
   refine⟨.nil,none,.nil,fun j=>?_,by rw [rk,key]⟩
   rw [step,nil]
   repeat' split
   all_goals rfl
  |nd l v r=>exact⟨l,v,r,fun j=>rfl,by rw [rk,key]⟩
 intro m
 induction m with
 |zero=>intro t k j h;omega
 |succ m ih =>
  intro t k j h
  obtain⟨l,v,r,h1,h2⟩:=aay m t k
  rw [h2,h1 j]
  by_cases k0:k=0
  ·subst k0
   rw [if_pos rfl,step,step]
   by_cases j0:j=0
   ·rw [if_pos j0,if_pos j0]
   ·rw [if_neg j0,if_neg j0,if_neg j0]
  ·rw [if_neg k0]
   by_cases k1:k % 2=1
   ·rw [if_pos k1,step,step]
    by_cases j0:j=0
    ·rw [if_pos j0,if_pos j0,if_neg (by omega)]
    ·rw [if_neg j0,if_neg j0]
     by_cases j1:j % 2=1
     ·rw [if_pos j1,if_pos j1,ih (by omega)]
      by_cases e:j=k
      ·rw [if_pos e,if_pos (by omega)]
      ·rw [if_neg e,if_neg (by omega)]
     ·rw [if_neg j1,if_neg j1,if_neg (by omega)]
   ·rw [if_neg k1,step,step]
    by_cases j0:j=0
    ·rw [if_pos j0,if_pos j0,if_neg (by omega)]
    ·rw [if_neg j0,if_neg j0]
     by_cases j1:j % 2=1
     ·rw [if_pos j1,if_pos j1,if_neg (by omega)]
     ·rw [if_neg j1,if_neg j1,ih (by omega)]
      by_cases e:j=k
      ·rw [if_pos e,if_pos (by omega)]
      ·rw [if_neg e,if_neg (by omega)]
def put {α:Type}(t:Tr α) (k:Nat) (a:α):Tr α:=rk (k+1) t k a
theorem lz {α:Type}{a:α}{t:Tr α}{k j:Nat}:fj (put t k a) j=if j=k then some a else fj t j:=Nl (Nat.lt_succ_self k)
def ew (t:Tr AV):Nat->AV:=fun k=>match fj t k with|some a=>a|none=>.u
theorem ua {t:Tr AV}{d:Nat}{a:AV}:ew (put t d a)=bP (ew t) d a:=by
 funext k
 unfold ew
 rw [lz]
 by_cases e:k=d
 ·subst e;rw [if_pos rfl,aG]
 ·rw [if_neg e,aN _ _ e]
def ub (d:Option Nat) (t:Tr AV) (a:AV):Tr AV:=match d with|some d=>put t d a|none=>t
theorem rm {d:Option Nat}{t:Tr AV}{a:AV}{l:List DE}:cG d ⟨ew t,l⟩ a=⟨ew (ub d t a),l⟩:=by
 cases d with
 |none=>rfl
 |some d=>show (⟨bP (ew t) d a,l⟩:AA)=⟨ew (put t d a),l⟩;rw [ua]
def qd:List AV->Nat->Tr AV->Tr AV
 |[],_,t=>t
 |a::l,i,t=>qd l (i+1) (put t i a)
theorem FR:∀ {l:List AV}{i:Nat}{t:Tr AV}{k:Nat},ew (qd l i t) k=if i<=k/\k < i+l.length then (l[k - i]?).getD .u else ew t k
 |[],i,t,k=>by rw [qd,if_neg (by simp)]
 |a::l,i,t,k=>by
  rw [qd,FR,ua]
  by_cases h1:i+1<=k/\k < i+1+l.length
  ·rw [if_pos h1,if_pos (by simp;omega),show k - i=(k - (i+1))+1 by omega]
   rfl
  ·rw [if_neg h1]
   by_cases e:k=i
   ·subst e
    rw [aG,if_pos (by simp),Nat.sub_self]
    rfl
   ·rw [aN _ _ e,if_neg (by simp at h1 ⊢;omega)]
theorem Nm {args:List AV}:ew (qd args 0 .nil)=kP args:=by
 funext k
 rw [FR]
 by_cases h:0<=k/\k < 0+args.length
 ·rw [if_pos h];rfl
 ·rw [if_neg h]
  unfold kP
  rw [List.getElem?_eq_none (by omega)]
  rfl
def wG (t:Tr AV):List (Nat × AV)->Tr AV
 |[]=>t
 |p::l=>wG (put t p.1 p.2) l
theorem Bo:∀ {l:List (Nat × AV)}{t:Tr AV},ew (wG t l)=r9 (ew t) l
 |[],t=>rfl
 |p::l,t=>by rw [wG,Bo,ua];rfl
def toLk {α:Type}:Tr α->List (Nat × α)
 |.nil=>[]
 |.nd l v r=>(match v with|some a=>[(0,a)]|none=>[])++((toLk l).map (fun p=>(2*p.1+1,p.2))++(toLk r).map (fun p=>(2*p.1+2,p.2)))
theorem FT {α:Type}(l:Tr α) (v:Option α) (r:Tr α) (j:Nat):fj (.nd l v r) j=if j=0 then v else if j % 2=1 then fj l (j / 2) else fj r (j / 2 - 1):=by
 simp only [fj]
 cases h0:Nat.beq j 0 with
 |true=>rw [if_pos (Nat.eq_of_beq_eq_true h0)]
 |false =>
  rw [if_neg (wF h0)]
  cases h1:Nat.beq (j % 2) 1 with
  |true=>rw [if_pos (Nat.eq_of_beq_eq_true h1)]
  |false=>rw [if_neg (wF h1)]
theorem toLk_mem {α:Type}:∀ {t:Tr α}{k:Nat}{a:α},(k,a) ∈ toLk t ↔ fj t k=some a
 |.nil,k,a=>by simp [toLk,fj]
 |.nd l v r,k,a=>by
  rw [FT]
  simp only [toLk,List.mem_append,List.mem_map]
  constructor
  ·rintro (h|⟨⟨j,b⟩,h,e⟩|⟨⟨j,b⟩,h,e⟩)
   ·cases v with
    |none=>cases h
    |some b =>
     simp only [List.mem_singleton,Prod.mk.injEq] at h
     obtain⟨rfl,rfl⟩:=h
     rfl
   ·simp only [Prod.mk.injEq] at e
    obtain⟨rfl,rfl⟩:=e
    rw [if_neg (by omega),if_pos (by omega),show (2*j+1) / 2=j by omega]
    exact toLk_mem.1 h
   ·simp only [Prod.mk.injEq] at e
    obtain⟨rfl,rfl⟩:=e
    rw [if_neg (by omega),if_neg (by omega),show (2*j+2) / 2 - 1=j by omega]
    exact toLk_mem.1 h
  ·intro h
   by_cases k0:k=0
   ·rw [if_pos k0] at h
    subst k0
    rw [h]
    exact .inl (by simp)
   ·rw [if_neg k0] at h
    by_cases k1:k % 2=1
    ·rw [if_pos k1] at h
     exact .inr (.inl ⟨(k / 2,a),toLk_mem.2 h,by simp;omega⟩)
    ·rw [if_neg k1] at h
     exact .inr (.inr ⟨(k / 2 - 1,a),toLk_mem.2 h,by simp;omega⟩)
abbrev FJ:=Nat->(Nat->Nat->Prop)->(Nat->Prop)->World->Prop
structure XS where
 m:Tr (Option Ob)
 nx:Nat
 lw:Nat
 yk:Option Nat
 an:Nat
 lg:List (List AV × Bool)
def ee (o:Option Nat) (k:Nat):Bool:=match o with|some j=>Nat.beq j k|none=>false
def gB (s:XS) (k:Nat):Option Ob:=match fj s.m k with|some o=>o|none=>none
def den (J:FJ) (s:XS):ae:=⟨fun k=>match ee s.yk k with|true=>some (.fo J)|false=>gB s k,s.nx⟩
def eI (s:XS):ae:=⟨fun k=>match ee s.yk k with|true=>none|false=>gB s k,s.nx⟩
def l5 (s:XS) (k:Nat) (o:Option Ob):XS:=⟨put s.m k o,s.nx,Nat.min s.lw k,s.yk,s.an,s.lg⟩
def kG (s:XS) (o:Ob):XS:=⟨put s.m s.nx (some o),s.nx+1,Nat.min s.lw s.nx,s.yk,s.an,s.lg⟩
theorem QY {o:Option Nat}{k:Nat}(h:ee o k=true):o=some k:=by
 cases o with
 |none=>cases h
 |some j=>rw [Nat.eq_of_beq_eq_true h]
theorem dA {J:FJ}{s:XS}{k:Nat}{o:Ob}(h:(eI s).get k=some o):(den J s).get k=some o/\ee s.yk k=false:=by
 have h:(match ee s.yk k with|true=>none|false=>gB s k)=some o:=h
 show (match ee s.yk k with|true=>some (.fo J)|false=>gB s k)=some o/\_
 cases e:ee s.yk k with
 |true=>rw [e] at h;cases h
 |false=>rw [e] at h;exact⟨h,rfl⟩
theorem kH {J:FJ}{s:XS}{k:Nat}{o:Option Ob}(hk:ee s.yk k=false):den J (l5 s k o)=(den J s).set k o:=by
 unfold den l5 ae.set
 simp only [ae.mk.injEq,and_true]
 funext j
 unfold gB
 simp only [lz]
 by_cases e:j=k
 ·subst e;rw [hk,aG,if_pos rfl]
 ·rw [aN _ _ e,if_neg e]
theorem iO {J:FJ}{s:XS}{o:Ob}(hk:ee s.yk s.nx=false):den J (kG s o)=(den J s).new o:=by
 unfold den kG ae.new
 simp only [ae.mk.injEq,and_true]
 funext j
 unfold gB
 simp only [lz]
 by_cases e:j=s.nx
 ·subst e;rw [hk,aG,if_pos rfl]
 ·rw [aN _ _ e,if_neg e]
inductive vu (P:Program) (w0:World):FJ->List (List AV × Bool)->FJ->Prop where
 |nil (J:FJ):vu P w0 J [] J
 |cons {J J1 J':FJ}{x:List AV}{b:Bool}{l:List (List AV × Bool)}(h:∀ (T:ae) (k:Nat),T.get k=some (.fo J)->nz P w0 k x T (.v (.bool b)) (T.set k (some (.fo J1)))) (t:vu P w0 J1 l J'):vu P w0 J ((x,b)::l) J'
section
variable {P:Program}{w0:World}
theorem vu.app:∀ {l m:List (List AV × Bool)}{J J':FJ},vu P w0 J (l++m) J'->∃ J1,vu P w0 J l J1/\vu P w0 J1 m J'
 |[],m,J,J',h=>⟨J,.nil J,h⟩
 |(x,b)::l,m,J,J',h=>by
  cases h with
  |cons h t =>
   obtain⟨J1,h1,h2⟩:=t.app
   exact⟨J1,.cons h h1,h2⟩
structure dX (s s':XS):Prop where
 lw:s'.lw<=s.lw
 nx:s.nx<=s'.nx
 yk:s'.yk=s.yk
 lg:∃ L,s'.lg=L++s.lg
 aC:∀ k,k < s'.lw->gB s' k=gB s k
theorem dX.refl (s:XS):dX s s:=⟨Nat.le_refl _,Nat.le_refl _,rfl,⟨[],rfl⟩,fun _ _=>rfl⟩
theorem dX.trans {s1 s2 s3:XS}(h:dX s1 s2) (k:dX s2 s3):dX s1 s3:=by
 obtain⟨L,hL⟩:=h.lg
 obtain⟨M,hM⟩:=k.lg
 exact⟨Nat.le_trans k.lw h.lw,Nat.le_trans h.nx k.nx,k.yk.trans h.yk,⟨M++L,by rw [hM,hL,List.append_assoc]⟩,fun j hj=>(k.aC j hj).trans (h.aC j (Nat.lt_of_lt_of_le hj k.lw))⟩
theorem dX.wr {s:XS}{k:Nat}{o:Option Ob}:dX s (l5 s k o):=by
 refine⟨Nat.min_le_left _ _,Nat.le_refl _,rfl,⟨[],rfl⟩,fun j hj=>?_⟩
 have:j < k:=Nat.lt_of_lt_of_le hj (Nat.min_le_right _ _)
 unfold gB l5
 simp only [lz]
 rw [if_neg (by omega)]
theorem dX.nw {s:XS}{o:Ob}:dX s (kG s o):=by
 refine⟨Nat.min_le_left _ _,Nat.le_succ _,rfl,⟨[],rfl⟩,fun j hj=>?_⟩
 have:j < s.nx:=Nat.lt_of_lt_of_le hj (Nat.min_le_right _ _)
 unfold gB kG
 simp only [lz]
 rw [if_neg (by omega)]
def i_ (P:Program) (w0:World) (s s':XS) (J J':FJ):Prop:=∃ L,s'.lg=L++s.lg/\vu P w0 J L.reverse J'
theorem i_.same {s s':XS}{J J':FJ}(h:i_ P w0 s s' J J') (e:s'.lg=s.lg):J'=J:=by
 obtain⟨L,h1,h2⟩:=h
 rw [e] at h1
 have:L=[]:=by
  have:=congrArg List.length h1
  simp at this
  exact this
 subst this
 cases h2
 rfl
theorem i_.split {s1 s2 s3:XS}{J J':FJ}(h:dX s1 s2) (k:dX s2 s3) (hc:i_ P w0 s1 s3 J J'):∃ J1,i_ P w0 s1 s2 J J1/\i_ P w0 s2 s3 J1 J':=by
 obtain⟨L,hL⟩:=h.lg
 obtain⟨M,hM⟩:=k.lg
 obtain⟨X,hX,hJ⟩:=hc
 rw [hM,hL,<-List.append_assoc] at hX
 obtain rfl:=List.append_cancel_right hX
 rw [List.reverse_append] at hJ
 obtain⟨J1,h1,h2⟩:=hJ.app
 exact⟨J1,⟨L,hL,h1⟩,⟨M,hM,h2⟩⟩
end
def kr (F:AV->Option AV):List AV->Option (List AV)
 |[]=>some []
 |a::l=>match F a with
  |some a'=>match kr F l with
   |some l'=>some (a'::l')
   |none=>none
  |none=>none
def rp (F:AV->Option AV):List (List AV)->Option (List (List AV))
 |[]=>some []
 |a::l=>match kr F a with
  |some a'=>match rp F l with
   |some l'=>some (a'::l')
   |none=>none
  |none=>none
def gC (S:ae):Nat->AV->Option AV
 |0,_=>none
 |m+1,a=>match a with
  |.v x=>some (.v x)
  |.agg l=>match kr (gC S m) l with|some l'=>some (.agg l')|none=>none
  |.bc l=>match kr (gC S m) l with|some l'=>some (.bc l')|none=>none
  |.sl _ rows=>match rp (gC S m) rows with|some l'=>some (.sl false l')|none=>none
  |.ip cs=>match kr (gC S m) cs with|some l'=>some (.ip l')|none=>none
  |.fn f l c=>match kr (gC S m) l,kr (gC S m) c with|some l',some c'=>some (.fn f l' c')|_,_=>none
  |.ob k sz off len _=>match S.get k with
   |some (.arr sz' rows _ _)=>match Nat.beq sz' sz && Nat.ble (off+len) rows.length with
    |true=>match rp (gC S m) ((rows.drop off).take len) with|some l'=>some (.sl false l')|none=>none
    |false=>none
   |_=>none
  |.gr k sz len=>match S.get k with
   |some (.arr sz' rows _ _)=>match Nat.beq sz' sz && Nat.ble len rows.length with
    |true=>match rp (gC S m) (rows.take len) with|some l'=>some (.sl false l')|none=>none
    |false=>none
   |_=>none
  |.pt k sz i j=>match S.get k with
   |some (.arr sz' rows _ _)=>match Nat.beq sz' sz with
    |true=>match rows[i]? with
     |some row=>match Nat.ble j row.length with
      |true=>match kr (gC S m) (row.drop j) with|some l'=>some (.ip l')|none=>none
      |false=>none
     |none=>none
    |false=>none
   |_=>none
  |_=>none
def fT (F:AV->Bool):List AV->Bool
 |[]=>true
 |a::l=>match F a with|true=>fT F l|false=>false
def rq (F:AV->Bool):List (List AV)->Bool
 |[]=>true
 |a::l=>match fT F a with|true=>rq F l|false=>false
def iT:Nat->AV->Bool
 |0,_=>false
 |m+1,a=>match a with
  |.v _=>true
  |.agg l|.bc l|.ip l=>fT (iT m) l
  |.sl _ rows=>rq (iT m) rows
  |.fn _ l c=>match fT (iT m) l with|true=>fT (iT m) c|false=>false
  |_=>false
theorem dH {F:AV->Bool}:∀ {l:List AV},fT F l=true->∀ a ∈ l,F a=true
 |[],_,a,h=>by cases h
 |b::l,hp,a,h=>by
  simp only [fT] at hp
  split at hp
  ·rename_i hb
   rcases List.mem_cons.1 h with rfl|h
   ·exact hb
   ·exact dH hp a h
  ·cases hp
theorem ku {F:AV->Bool}:∀ {l:List (List AV)},rq F l=true->∀ r ∈ l,∀ a ∈ r,F a=true
 |[],_,a,h=>by cases h
 |b::l,hp,a,h=>by
  simp only [rq] at hp
  split at hp
  ·rename_i hb
   rcases List.mem_cons.1 h with rfl|h
   ·exact dH hb
   ·exact ku hp a h
  ·cases hp
theorem eJ:∀ {m:Nat}{a:AV},iT m a=true->Pure a
 |0,a,h=>by cases h
 |m+1,a,h=>by
  cases a with
  |v x=>exact .v
  |agg l=>exact .agg fun a ha=>eJ (dH h a ha)
  |bc l=>exact .bc fun a ha=>eJ (dH h a ha)
  |ip l=>exact .ip fun a ha=>eJ (dH h a ha)
  |sl ex rows=>exact .sl fun r hr a ha=>eJ (ku h r hr a ha)
  |fn f l c =>
   simp only [iT] at h
   split at h
   ·rename_i h1
    exact .fn (fun a ha=>eJ (dH h1 a ha)) (fun a ha=>eJ (dH h a ha))
   ·cases h
  |_=>cases h
theorem uc {m:Nat}:∀ {l:List AV},fT (iT m) l=true->c_ l
 |[],_=>trivial
 |a::l,h=>by
  simp only [fT] at h
  split at h
  ·rename_i h1
   exact⟨eJ h1,uc h⟩
  ·cases h
theorem wH {F:AV->Option AV}:∀ {l l':List AV},kr F l=some l'->l.length=l'.length/\∀ (i:Nat) (a a':AV),l[i]?=some a->l'[i]?=some a'->F a=some a'
 |[],l',h=>by obtain rfl:=Option.some.inj h;exact⟨rfl,fun i a a' h=>by simp at h⟩
 |b::l,l',h=>by
  simp only [kr] at h
  split at h
  ·rename_i b' hb
   split at h
   ·rename_i m hm
    obtain rfl:=Option.some.inj h
    obtain⟨h1,h2⟩:=wH hm
    refine⟨by simp [h1],fun i a a' ha cC=>?_⟩
    cases i with
    |zero=>simp at ha cC;subst ha cC;exact hb
    |succ i=>simp at ha cC;exact h2 i a a' ha cC
   ·cases h
  ·cases h
theorem te {F:AV->Option AV}:∀ {l l':List (List AV)},rp F l=some l'->l.length=l'.length/\∀ (i:Nat) (a a':List AV),l[i]?=some a->l'[i]?=some a'->kr F a=some a'
 |[],l',h=>by obtain rfl:=Option.some.inj h;exact⟨rfl,fun i a a' h=>by simp at h⟩
 |b::l,l',h=>by
  simp only [rp] at h
  split at h
  ·rename_i b' hb
   split at h
   ·rename_i m hm
    obtain rfl:=Option.some.inj h
    obtain⟨h1,h2⟩:=te hm
    refine⟨by simp [h1],fun i a a' ha cC=>?_⟩
    cases i with
    |zero=>simp at ha cC;subst ha cC;exact hb
    |succ i=>simp at ha cC;exact h2 i a a' ha cC
   ·cases h
  ·cases h
section
variable {S:ae}
theorem qe:∀ {m:Nat}{a a':AV},gC S m a=some a'->aX S a a'/\Pure a'
 |0,a,a',h=>by cases h
 |m+1,a,a',h=>by
  have x8:∀ {l l':List AV},kr (gC S m) l=some l'->∀ b ∈ l',Pure b:=fun {l l'} hl b hb=>by
   obtain⟨h1,h2⟩:=wH hl
   obtain⟨i,hi⟩:=List.getElem?_of_mem hb
   have au:i < l.length:=by rw [h1];exact (List.getElem?_eq_some_iff.1 hi).1
   exact (qe (h2 i _ b (List.getElem?_eq_getElem au) hi)).2
  have tf:∀ {l l':List AV},kr (gC S m) l=some l'->l.length=l'.length/\∀ (i:Nat) (a a':AV),l[i]?=some a->l'[i]?=some a'->aX S a a':=fun hl=>⟨(wH hl).1,fun i a a' h1 h2=>(qe ((wH hl).2 i a a' h1 h2)).1⟩
  have Nn:∀ {l l':List (List AV)},rp (gC S m) l=some l'->∀ r ∈ l',∀ b ∈ r,Pure b:=fun {l l'} hl r hr=>by
   obtain⟨h1,h2⟩:=te hl
   obtain⟨i,hi⟩:=List.getElem?_of_mem hr
   have au:i < l.length:=by rw [h1];exact (List.getElem?_eq_some_iff.1 hi).1
   exact x8 (h2 i _ r (List.getElem?_eq_getElem au) hi)
  have atR:∀ {l l':List (List AV)},rp (gC S m) l=some l'->l.length=l'.length/\(∀ (i:Nat) (r r':List AV),l[i]?=some r->l'[i]?=some r'->r.length=r'.length) /\
    ∀ (i j:Nat) (r r':List AV) (a a':AV),l[i]?=some r->l'[i]?=some r'->r[j]?=some a->r'[j]?=some a'->aX S a a':=fun hl =>
   ⟨(te hl).1,fun i r r' h1 h2=>(tf ((te hl).2 i r r' h1 h2)).1,fun i j r r' a a' h1 h2 h3 h4=>(tf ((te hl).2 i r r' h1 h2)).2 j a a' h3 h4⟩
  cases a with
  |v x=>obtain rfl:=Option.some.inj h;exact⟨.refl _,.v⟩
  |agg l =>
   simp only [gC] at h
   split at h
   ·rename_i l' hl
    obtain rfl:=Option.some.inj h
    exact⟨.agg (tf hl).1 (tf hl).2,.agg (x8 hl)⟩
   ·cases h
  |bc l =>
   simp only [gC] at h
   split at h
   ·rename_i l' hl
    obtain rfl:=Option.some.inj h
    exact⟨.bc (tf hl).1 (tf hl).2,.bc (x8 hl)⟩
   ·cases h
  |ip l =>
   simp only [gC] at h
   split at h
   ·rename_i l' hl
    obtain rfl:=Option.some.inj h
    exact⟨.ip (Nat.le_of_eq (tf hl).1.symm) (tf hl).2,.ip (x8 hl)⟩
   ·cases h
  |sl ex rows =>
   simp only [gC] at h
   split at h
   ·rename_i l' hl
    obtain rfl:=Option.some.inj h
    exact⟨.sl (atR hl).1 (atR hl).2.1 (atR hl).2.2,.sl (Nn hl)⟩
   ·cases h
  |fn f l c =>
   simp only [gC] at h
   split at h
   ·rename_i l' c' hl hc
    obtain rfl:=Option.some.inj h
    exact⟨.fn (tf hl).1 (tf hc).1 (tf hl).2 (tf hc).2,.fn (x8 hl) (x8 hc)⟩
   ·cases h
  |ob k sz off len cx =>
   simp only [gC] at h
   split at h
   ·rename_i sz' rows fz ex hk
    split at h
    ·rename_i hb
     simp only [Bool.and_eq_true] at hb
     have e:=Nat.eq_of_beq_eq_true hb.1
     have e2:=Nat.le_of_ble_eq_true hb.2
     subst e
     split at h
     ·rename_i l' hl
      obtain rfl:=Option.some.inj h
      obtain⟨q1,q2,q3⟩:=atR hl
      have hlen:l'.length=len:=by rw [<-q1];simp;omega
      have get:∀ (i:Nat) (row bA:List AV),rows[off+i]?=some row->l'[i]?=some bA->((rows.drop off).take len)[i]?=some row:=fun i row bA h1 h2=>by
       have:=(List.getElem?_eq_some_iff.1 h2).1
       rw [List.getElem?_take_of_lt (by omega),List.getElem?_drop]
       exact h1
      exact⟨.ob hk e2 hlen (fun i row bA h1 h2=>q2 i row bA (get i row bA h1 h2) h2) (fun i j row bA a a' h1 h2 h3 h4=>q3 i j row bA a a' (get i row bA h1 h2) h2 h3 h4),.sl (Nn hl)⟩
     ·cases h
    ·cases h
   ·cases h
  |gr k sz len =>
   simp only [gC] at h
   split at h
   ·rename_i sz' rows fz ex hk
    split at h
    ·rename_i hb
     simp only [Bool.and_eq_true] at hb
     have e:=Nat.eq_of_beq_eq_true hb.1
     have e2:=Nat.le_of_ble_eq_true hb.2
     subst e
     split at h
     ·rename_i l' hl
      obtain rfl:=Option.some.inj h
      obtain⟨q1,q2,q3⟩:=atR hl
      have hlen:l'.length=len:=by rw [<-q1];simp;omega
      have get:∀ (i:Nat) (row bA:List AV),rows[i]?=some row->l'[i]?=some bA->(rows.take len)[i]?=some row:=fun i row bA h1 h2=>by
       have:=(List.getElem?_eq_some_iff.1 h2).1
       rw [List.getElem?_take_of_lt (by omega)]
       exact h1
      exact⟨.gr hk e2 hlen (fun i row bA h1 h2=>q2 i row bA (get i row bA h1 h2) h2) (fun i j row bA a a' h1 h2 h3 h4=>q3 i j row bA a a' (get i row bA h1 h2) h2 h3 h4),.sl (Nn hl)⟩
     ·cases h
    ·cases h
   ·cases h
  |pt k sz i j =>
   simp only [gC] at h
   split at h
   ·rename_i sz' rows fz ex hk
    split at h
    ·rename_i hb
     have e:=Nat.eq_of_beq_eq_true hb
     subst e
     split at h
     ·rename_i row hi
      split at h
      ·rename_i hj
       have hj:=Nat.le_of_ble_eq_true hj
       split at h
       ·rename_i l' hl
        obtain rfl:=Option.some.inj h
        obtain⟨q1,q2⟩:=tf hl
        simp at q1
        exact⟨.pt hk hi (by omega) (fun q a a' h1 h2=>q2 q a a' (by rw [List.getElem?_drop];exact h1) h2),.ip (x8 hl)⟩
       ·cases h
      ·cases h
     ·cases h
    ·cases h
   ·cases h
  |_=>cases h
theorem aX.mono {S T:ae}(h:∀ k sz rows fz ex,S.get k=some (.arr sz rows fz ex)->T.get k=some (.arr sz rows fz ex)) {a a':AV}(hf:aX S a a'):aX T a a':=by
 induction hf with
 |refl a=>exact .refl a
 |agg hl h ih=>exact .agg hl ih
 |bc hl h ih=>exact .bc hl ih
 |ob hk h1 h2 h3 h4 ih=>exact .ob (h _ _ _ _ _ hk) h1 h2 h3 ih
 |pt hk h1 h2 h3 ih=>exact .pt (h _ _ _ _ _ hk) h1 h2 ih
 |fn h1 h2 h3 h4 i1 i2=>exact .fn h1 h2 i1 i2
 |sl h1 h2 h3 ih=>exact .sl h1 h2 ih
 |ip h1 h2 ih=>exact .ip h1 ih
 |gr hk h1 h2 h3 h4 ih=>exact .gr (h _ _ _ _ _ hk) h1 h2 h3 ih
end
end Go.Proofs.YtgphljokbodciaaGreat
