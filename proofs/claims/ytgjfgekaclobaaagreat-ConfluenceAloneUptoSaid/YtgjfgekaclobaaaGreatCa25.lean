import Derived.Test.YtgjfgekaclobaaaGreatCa24
namespace Go.Proofs.YtgjfgekaclobaaaGreat
set_option linter.unusedVariables false
set_option linter.unusedSimpArgs false
open Go.RowKit
section
variable {P:Program}{w0:World}{rd:Bool}{n B:Nat}{α:AA}{S S' S1:ad}{Q:Exit->AA->ad->Prop}{r r':AV}{l:List QI}{K:List fc}{o:Oper}{V:List (Nat × Nat)}{lg:List (List Nat × List Nat × Bool)}{rs:List Nat}
theorem ef.rv (h:ef P w0 n o α S r S') (k:Rv w0 r S' r' S1):ef P w0 n o α S r' S1:=by
 intro F m A g a w nx R hF hS hA hn
 refine h F m A g a w nx R hF hS hA fun v w' g' h1 h2 h3=>?_
 obtain⟨g2,k1,k2,k3⟩:=k A g g' w w' v h2 h1
 exact hn v w' g2 k2 k1 (h3.trans k3)
theorem Rv.move {k sz len:Nat}{rows:List (List AV)}{ex:Bool}(hk:S.get k=some (.arr sz rows 0 ex)):Rv w0 (.gr k sz len) S (.gr S.nx sz len) ((S.set k none).new (.arr sz rows 0 false)):=by
 intro A g0 g TS w v hS hr
 obtain⟨T,hT⟩:∃ T,T=(S.set k none).new (.arr sz rows 0 false):=⟨_,rfl⟩
 obtain⟨g',mP⟩:∃ g':Gh,g'=⟨a8 g.ob S.nx (g.ob k),a8 g.cp S.nx (g.cp k),fun j=>g.al j\/(j=S.nx/\g.al k),g.fz,g.fo⟩:=⟨_,rfl⟩
 have mQ:¬ g.al S.nx:=fun h=>Nat.lt_irrefl _ (hS.al _ h)
 have Bs:∀ j,j ≠ S.nx->g'.ob j=g.ob j:=fun j e=>by rw [mP];exact aC _ _ e
 have cp':∀ j,j ≠ S.nx->g'.cp j=g.cp j:=fun j e=>by rw [mP];exact aC _ _ e
 have OJ:g'.ob S.nx=g.ob k:=by rw [mP];exact aq _ _ _
 have cpn:g'.cp S.nx=g.cp k:=by rw [mP];exact aq _ _ _
 have qC:∀ j,g'.al j->j ≠ S.nx->g.al j:=fun j h e=>by
  rw [mP] at h
  rcases h with h|⟨h,_⟩
  ·exact h
  ·exact absurd h e
 have Uu:g'.al S.nx->g.al k:=fun h=>by
  rw [mP] at h
  rcases h with h|⟨_,h⟩
  ·exact absurd h mQ
  ·exact h
 have ne:∀ j,g.al j->j ≠ S.nx:=fun j h e=>mQ (e ▸ h)
 have hL:Later g w g' w:=⟨fun j h=>by rw [mP];exact .inl h,fun j h=>Bs j (ne j h),fun j h=>cp' j (ne j h),fun b o h=>by rw [mP];exact h,fun _ _ _=>rfl⟩
 have qy:g'.fz=g.fz:=by rw [mP]
 have zg:g'.fo=g.fo:=by rw [mP]
 have Tn:T.get S.nx=some (.arr sz rows 0 false):=by rw [hT];exact aq _ _ _
 have Tj:∀ j p,j ≠ S.nx->T.get j=some p->j ≠ k/\S.get j=some p:=by
  intro j p e h
  rw [hT] at h
  have h:a8 (S.set k none).get S.nx (some (.arr sz rows 0 false)) j=some p:=h
  rw [aC _ _ e] at h
  have h:a8 S.get k none j=some p:=h
  by_cases ek:j=k
  ·subst ek;rw [aq] at h;cases h
  ·rw [aC _ _ ek] at h;exact⟨ek,h⟩
 have Tf:∀ j J,T.get j=some (.fo J)->j ≠ S.nx:=fun j J h e=>by rw [e,Tn] at h;cases h
 have hE:Ext A g w g' w:={ hL with size:=Nat.le_refl _,a7:=fun _ _ _=>rfl,gF:=fun b o h=>by rw [qy] at h;exact .inl h }
 have Z_:∀ {b cp:Nat}{o:Ob},dA g w b cp o->dA g' w b cp o:=fun h=>h.later hL rfl (fun q h=>by rw [qy] at h;exact h) fun J _=>⟨by rw [zg],Nat.le_refl _,fun _ _=>rfl,fun c q _ h=>by rw [qy] at h;exact h⟩
 rw [<-hT]
 refine⟨g',⟨hS.base,hS.up,hS.lo,fun j h=>?_,fun j p hj h=>?_,fun i j p q hi hj ai aj e=>?_,fun b q h=>hS.cC b q (by rw [<-qy];exact h),fun b q h=>by rw [qy];exact hS.nS b q h,fun j J hj h=>?_,fun j J i p hj h hi ai e=>?_,fun i j J J' hi hj ai aj=>?_⟩,?_,hE⟩
 ·have e:T.nx=S.nx+1:=by rw [hT];rfl
  rw [e]
  by_cases ej:j=S.nx
  ·omega
  ·have:=hS.al j (qC j h ej);omega
 ·by_cases ej:j=S.nx
  ·subst ej
   rw [Tn] at hj
   obtain rfl:=oJ_ hj
   obtain⟨q1,q2,q3⟩:=hS.bR k _ hk (Uu h)
   rw [OJ,cpn]
   refine⟨q1,q2,?_⟩
   obtain⟨cs,ty,h1,h2,h3,h4,h5,h6,h7⟩:=Z_ q3
   exact⟨cs,ty,h1,h2,h3,(fun h=>by cases h),h5,h6,h7⟩
  ·obtain⟨_,eN⟩:=Tj j p ej hj
   obtain⟨q1,q2,q3⟩:=hS.bR j p eN (qC j h ej)
   rw [Bs j ej,cp' j ej]
   exact⟨q1,q2,Z_ q3⟩
 ·by_cases ei:i=S.nx
  ·by_cases ej:j=S.nx
   ·rw [ei,ej]
   ·exfalso
    subst ei
    obtain⟨ek,eN⟩:=Tj j q ej hj
    rw [OJ,Bs j ej] at e
    exact ek (hS.inj k j _ q hk eN (Uu ai) (qC j aj ej) e).symm
  ·by_cases ej:j=S.nx
   ·exfalso
    subst ej
    obtain⟨ek,kW⟩:=Tj i p ei hi
    rw [OJ,Bs i ei] at e
    exact ek (hS.inj i k p _ kW hk (qC i ai ei) (Uu aj) e)
   ·rw [Bs i ei,Bs j ej] at e
    exact hS.inj i j p q (Tj i p ei hi).2 (Tj j q ej hj).2 (qC i ai ei) (qC j aj ej) e
 ·have ej:=Tf j J hj
  rw [Bs j ej,zg]
  exact hS.ic j J (Tj j _ ej hj).2 (qC j h ej)
 ·have ej:=Tf j J hj
  rw [Bs j ej,zg]
  by_cases ei:i=S.nx
  ·subst ei
   rw [OJ]
   exact hS.jW j J k _ (Tj j _ ej hj).2 (qC j h ej) hk (Uu ai) (Tj j _ ej hj).1.symm
  ·rw [Bs i ei]
   exact hS.jW j J i p (Tj j _ ej hj).2 (qC j h ej) (Tj i p ei hi).2 (qC i ai ei) e
 ·have ei:=Tf i J hi
  have ej:=Tf j J' hj
  exact hS.lV i j J J' (Tj i _ ei hi).2 (Tj j _ ej hj).2 (qC i ai ei) (qC j aj ej)
 ·rcases ot hr with ⟨h,A',rfl⟩|⟨fy,c,rfl,hx,hle⟩
  ·subst h;exact .ja
  ·rw [<-OJ]
   refine .gr (by rw [mP];exact .inr ⟨rfl,fy⟩) (by rw [cpn];exact hx) hle
theorem Rv.nil {sz:Nat}:Rv w0 (.sl true []) S (.gr S.nx sz 0) (S.new (.arr sz [] 0 false)):=by
 intro A g0 g TS w v hS hr
 obtain⟨g',h1,h2,h3⟩:=(show ∃ g',St w0 A g' (S.new (.arr sz [] 0 false)) w/\aH g' w (.gr S.nx sz 0) v/\Ext A g w g' w from by
  have key:∀ k p,(S.new (.arr sz [] 0 false)).get k=some p->g.al k->S.get k=some p:=fun k p hk ha=>by
   have aA:=hS.al k ha
   have hk:a8 S.get S.nx (some (.arr sz [] 0 false)) k=some p:=hk
   rwa [aC _ _ (by omega)] at hk
  refine⟨g,⟨hS.base,hS.up,hS.lo,fun k hk=>Nat.lt_succ_of_lt (hS.al k hk),fun k p hk ha=>hS.bR k p (key k p hk ha) ha,fun i j p q hi hj ai aj e=>hS.inj i j p q (key i p hi ai) (key j q hj aj) ai aj e,hS.cC,hS.nS,
   fun k J hk ha=>hS.ic k J (key k _ hk ha) ha,fun k J j p hk ha hj aj=>hS.jW k J j p (key k _ hk ha) ha (key j p hj aj) aj,fun j k J J' hj hk aj ak=>hS.lV j k J J' (key j _ hj aj) (key k _ hk ak) aj ak⟩,?_,Ext.refl ..⟩
  cases hr with
  |nil hz=>obtain rfl:=hz rfl;exact .ja
  |sl hz=>exact absurd rfl hz)
 exact⟨g',h1,h2,h3⟩
theorem Rv.aaa {k sz len:Nat}:Rv w0 (.ob k sz 0 len none) S (.gr k sz len) S:=by
 intro A g0 g TS w v hS hr
 refine⟨g,hS,?_,Ext.refl ..⟩
 cases hr with
 |ob q1 q2 q3 q4 q5=>rw [Nat.zero_mul];exact .gr q1 (by have:=q4 rfl;omega) q5
section
variable {ρ:Hd}{T:Type}{f:T->List AV}{acc ys:List T}
theorem aa.adA {dd:Option Nat}{gg:Option (Nat × Bool)}{t:Nat}{b:QO}{sz by_ k len:Nat}{ex ex':Bool}(hw:bD α.tm gg=some true) (h1:α.tm t=.gr k sz len) (hk:S.get k=some (.arr sz (ρ.h (List.map f) acc) 0 ex)) (hn:len=acc.length) (ku:∀ c,b.ev (a8 α.tm t c)=b.ev α.tm)
  (hb:b.ev α.tm=cE ρ f ex' ys) (hl:∀ x,(f x).length=sz) (hc:∀ x,(f x).all bQ=true) (hy:(len+ys.length)*by_<=35184372088832)
  (kk:∀ dE eU,dE=acc++ys->eU=dE.length->aa P w0 rd n Q (.dB B V (lg++[([k],[S.nx,k],true)]) rs l K) (bS dd α (.gr S.nx sz eU)) (cY S [(S.nx,some (.arr sz (ρ.h (List.map f) dE) 0 false)),(k,none)] true)):aa P w0 rd n Q (.dB B V lg rs (⟨dd,gg,.append sz by_ (.t t) b⟩::l) K) α S:=by
 have hlen:(ρ.h (List.map f) acc).length=acc.length:=aF
 rw [cO] at hb
 cases ys with
 |nil =>
  have h:=kk acc len (by simp) hn
  refine aa.lP (i:=⟨dd,gg,.append sz by_ (.t t) b⟩) (d:=⟨[(k,.arr sz (ρ.h (List.map f) acc) 0 ex)],[(S.nx,some (.arr sz (ρ.h (List.map f) acc) 0 false)),(k,none)],true⟩) hw ?_ h
  have h0:=bc.adz (P:=P) (w0:=w0) (B:=B) (by_:=by_) h1 hk (by omega) ku hb
  intro n o hr
  obtain⟨e1,e2,e3⟩:=h0 n o hr
  refine⟨fun hp=>(by rw [rh (pj hr)] at hp;cases hp),e2,fun T hB hT hm=>?_⟩
  have h4:=e3 T hB hT (fun h=>by cases h)
  rw [show cY T [] false=T from cG] at h4
  have h5:=h4.rv (Rv.move (w0:=w0) (len:=len) (hT (k,.arr sz (ρ.h (List.map f) acc) 0 ex) (by simp)))
  rw [<-hm rfl,dI]
  exact h5
 |cons y ys =>
  have h:=kk _ _ rfl rfl
  have e:ρ.h (List.map f) acc++List.map f (y::ys)=ρ.h (List.map f) (acc++y::ys):=by rw [ρ.eq,ρ.eq,List.map_append]
  rw [<-e,show (acc++y::ys).length=len+(f y::List.map f ys).length by simp;omega] at h
  refine aa.lP (i:=⟨dd,gg,.append sz by_ (.t t) b⟩) hw (bc.Cw (x:=f y) (more:=List.map f ys) h1 hk (by omega) ku hb (fun row hr=>?_) (by simpa using hy)) h
  obtain⟨x,_,rfl⟩:=List.mem_map.1 (show row ∈ List.map f (y::ys) from hr)
  exact⟨hl x,hc x⟩
theorem aa.Uv {dd:Option Nat}{gg:Option (Nat × Bool)}{a b:QO}{sz by_:Nat}{ex':Bool}(hw:bD α.tm gg=some true) (h1:a.ev α.tm=.sl true [])
  (hb:b.ev α.tm=cE ρ f ex' ys) (hl:∀ x,(f x).length=sz) (hy:ys.length*by_<=35184372088832)
  (kk:∀ dE eU,dE=ys->eU=dE.length->aa P w0 rd n Q (.dB B V (lg++[([],[S.nx],true)]) rs l K) (bS dd α (.gr S.nx sz eU)) (cY S [(S.nx,some (.arr sz (ρ.h (List.map f) dE) 0 false))] true)):aa P w0 rd n Q (.dB B V lg rs (⟨dd,gg,.append sz by_ a b⟩::l) K) α S:=by
 rw [cO] at hb
 have h:=kk _ _ rfl rfl
 rw [ρ.eq] at h
 refine aa.lP (i:=⟨dd,gg,.append sz by_ a b⟩) (d:=⟨[],[(S.nx,some (.arr sz (List.map f ys) 0 false))],true⟩) hw ?_ h
 cases ys with
 |nil =>
  have h0:=bc.Fk (P:=P) (w0:=w0) (B:=B) (S:=S) (sz:=sz) (by_:=by_) h1 hb
  intro n o hr
  obtain⟨e1,e2,e3⟩:=h0 n o hr
  refine⟨fun hp=>(by rw [rh (pj hr)] at hp;cases hp),e2,fun T hB hT hm=>?_⟩
  have h4:=e3 T hB hT (fun h=>by cases h)
  rw [show cY T [] false=T from cG] at h4
  have h5:=h4.rv (Rv.nil (w0:=w0) (sz:=sz))
  rw [<-hm rfl,dI]
  exact h5
 |cons y ys =>
  have h0:=bc.Cq (P:=P) (w0:=w0) (B:=B) (S:=S) (sz:=sz) (by_:=by_) (x:=f y) (more:=List.map f ys) h1 hb (fun row hr=>by
   obtain⟨x,_,rfl⟩:=List.mem_map.1 (show row ∈ List.map f (y::ys) from hr)
   exact hl x) (by simpa using hy)
  intro n o hr
  obtain⟨e1,e2,e3⟩:=h0 n o hr
  refine⟨e1,e2,fun T hB hT hm=>?_⟩
  have h4:=(e3 T hB hT hm).rv (Rv.aaa (w0:=w0))
  simpa using h4
theorem aa.J6 {dd:Option Nat}{gg:Option (Nat × Bool)}{a b:QO}{sz by_:Nat}{ex':Bool}(hw:bD α.tm gg=some true) (h1:a.ev α.tm=.sl true [])
  (hb:b.ev α.tm=cE ρ f ex' ys) (hl:∀ x,(f x).length=sz) (hy:ys.length*by_<=35184372088832)
  (kk:∀ dE eU,dE=ys->eU=dE.length->aa P w0 rd n Q (.aU false l K) (bS dd α (.gr S.nx sz eU)) (S.new (.arr sz (ρ.h (List.map f) dE) 0 false))):aa P w0 rd n Q (.aU false (⟨dd,gg,.append sz by_ a b⟩::l) K) α S:=by
 rw [cO] at hb
 have h:=kk _ _ rfl rfl
 rw [ρ.eq] at h
 cases ys with
 |nil=>exact aa.op (i:=⟨dd,gg,.append sz by_ a b⟩) hw ((ae.Fk h1 (by rw [hb];exact g9)).rv Rv.nil) h
 |cons y ys =>
  refine aa.op (i:=⟨dd,gg,.append sz by_ a b⟩) hw ((ae.Cq (rows:=[]) (x:=f y) (more:=List.map f ys) h1 (by rw [hb];exact g9) (fun _ h=>by cases h) (fun row hr=>by
   obtain⟨x,_,rfl⟩:=List.mem_map.1 (show row ∈ List.map f (y::ys) from hr)
   exact hl x) (by simpa using hy)).rv Rv.aaa) ?_
  simpa using h
end
theorem aa.aab {d:Option Nat}{gd:Option (Nat × Bool)}{f:QO}{fe:List QO}{g:FuncId}{args bG:List AV}{gw:AV}{so':List (Nat × Ob)}{ob:Ob}(hw:bD α.tm gd=some true) (bC:aK P w0 g args (au [] 0) r (au so' 1)) (h:dM (f.ev α.tm) (fe.map (·.ev α.tm))=some (g,bG)) (ha:qA (aN []) 0 bG args)
  (hr:Rb (cV (aN []) 0 S.nx) r gw) (hT:gk (cV (aN []) 0 S.nx) so' [(S.nx,some ob)]) (hf:tz so'=true)
  (kk:aa P w0 rd n Q (.dB B V (lg++[([],[S.nx],true)]) rs l K) (bS d α gw) (cY S [(S.nx,some ob)] true)):aa P w0 rd n Q (.dB B V lg rs (⟨d,gd,.call f fe⟩::l) K) α S :=
 aa.lP (i:=⟨d,gd,.call f fe⟩) hw (bc.Ut bC h ha hr hT hf) kk
theorem ae.nI {len m:Nat}{k:LK}{x i:QO}{l:List AV}{a:AV}{ik:IntKind}{j:Int}{dr:Bool}(h1:x.ev α.tm=.agg l) (h2:i.ev α.tm=.v (.int ik j)) (h3:oB k l (j.toNat*m)=some a) (h4:0<=j) (h5:j < len):ae P w0 dr (.nI len m k x i) α S a S:=by
 refine ae.of rfl fun o hr=>?_
 cases o<;>simp only [res,bF,dJ] at hr<;>(repeat' split at hr)<;>(try cases hr)
 rw [aJ] at h1 h2
 rename_i hs hk
 rw [<-xp hk] at h3
 simp only [aX, *]
 exact aZ.mk rfl ⟨trivial,trivial,rfl,rfl⟩
theorem IV {x:QO}{o:Op}(h:res P.toTables o=some (.len false x)):∃ c t u e,o=.call c/\c.callee=.builtin .len/\c.argTypes=#[t]/\c.args=#[u]/\x=qo u/\P.underlying t=some (.slice e):=by
 cases o<;>simp only [res,bF] at h<;>(repeat' split at h)<;>(try cases h)
 rename_i c hc t y h1 h2 e hu
 exact⟨_,_,_,_,rfl,by assumption,toList_one (by assumption),toList_one (by assumption),rfl,by assumption⟩
theorem FZ {o:Oper}{x:QO}{k sz len:Nat}(hr:res P.toTables o.op=some (.len false x)) (β:AA) (h:x.ev β.tm=.gr k sz len):ef P w0 n o β S (.v (.int .i64 len)) S:=by
 obtain⟨c,t,u,e,ho,hc,ht,hu,rfl,hs⟩:=IV hr
 rw [aJ] at h
 refine aS.ops (aS.quiet fun A g q w hS hA=>?_) fun c' e=>by
  rw [ho] at e
  cases e
 have h1:=hA.ev u
 rw [h] at h1
 refine⟨_,?_,.v⟩
 rcases ot h1 with ⟨rfl,A',hv⟩|⟨_,c',hv,_,_⟩
 ·simp [execOp,ho,resolve,hc,hu,ht,hv,invoke,builtin,Builtin.len_,run_underlying hs,goInt]
 ·simp [execOp,ho,resolve,hc,hu,ht,hv,invoke,builtin,Builtin.len_,run_underlying hs,goInt]
theorem ae.qk {dr:Bool}{x:QO}{k sz len:Nat}(h:x.ev α.tm=.gr k sz len):ae P w0 dr (.len false x) α S (.v (.int .i64 len)) S:=by
 cases dr with
 |false=>exact fun n o hr=>FZ hr α h
 |true =>
  intro n o hr
  obtain⟨c,t,u,e,ho,hc,ht,hu,hx,hs⟩:=IV hr
  have h2:x.ev (α.only (cB o)).tm=.gr k sz len:=by
   rw [<-h,hx,aJ,aJ]
   exact ew fun t e=>ee (by rw [ho,<-e];show u ∈ c.operands;simp [Call.operands,hu])
  have h3:∀ T,ef P w0 n o (α.only (cB o)) T (.v (.int .i64 len)) T:=fun T=>FZ hr _ h2
  exact⟨h3 S,fun _=>⟨rfl,h3⟩,fun _=>rfl⟩
theorem aa.ajT {σ:Type}{N:Nat}{ds:List DE}{st:σ->List (Nat × AV)}{so:σ->List (Nat × Ob)}{I:σ->Prop}{ch:List PanicEntry}(h:aa P w0 rd n Q (.out (.panic ch) K) α S):aa P w0 rd n (JT P w0 rd n B N st ds so I Q K) (.out (.panic ch) []) α S:=h
end
section
variable {P:Program}{w0:World}{n:Nat}{o:Oper}{α:AA}{S S':ad}{r:AV}
theorem St.yQ {A:Nat->Prop}{g:Gh}{w:World}{k:Nat}{ob:Ob}{es':List (Value × AV)}{entries entries':Array MapEntry}{clock:Nat}(hS:St w0 A g S w) (hk:S.get k=some ob) (tN:∀ J,ob ≠ .fo J) (ha:g.al k) (hm:w.heap[g.ob k]?=some (.map entries clock))
  (bh:entries'.size=es'.length) (he:∀ (i:Nat) (k:Value) (a:AV),es'[i]?=some (k,a)->∃ e:MapEntry,entries'[i]?=some e/\e.key=k/\aH g w a e.val) (hb:∀ (i:Nat) (e:MapEntry),entries'[i]?=some e->e.born=i) :
  ∃ w',(setObj (g.ob k) (.map entries' entries'.size)).run P w=.ok () w'/\St w0 A g (S.set k (some (.mb es'))) w'/\Ext A g w g w':=by
 have aA:=(hS.bR k _ hk ha).2.1
 have qN:({ w with heap:=w.heap.setIfInBounds (g.ob k) (.map entries' entries'.size) }:World).heap[g.ob k]?=some (.map entries' entries'.size):=by simp [Array.getElem?_setIfInBounds,aA]
 obtain⟨h1,h2⟩:=hS.putObj (ob:=.mb es') hk ha (fun J=>⟨tN J,by simp⟩) (x':=.map entries' entries'.size) rfl (fun q=>by simp only [World.cell?,qN,hm]) (fun hL wY=>⟨entries',wY,bh,fun i key a hi=>by
  obtain⟨e,q1,q2,q3⟩:=he i key a hi
  exact⟨e,q1,q2,q3.later hL⟩,hb⟩)
 exact⟨_,by simp [setObj,Sem.run,hm],h2,h1⟩
theorem J7 {t:TypeId}(ho:o.op=.makeMap t none):aS P w0 n o α S (.mp S.nx) (S.new (.mb [])):=by
 intro A g q w hS hA
 obtain⟨h1,h2⟩:=hS.new (.map #[] 0) (.mb []) 0 (fun J=>by simp) (fun hL=>⟨#[],c_,rfl,(fun i k a h=>by simp at h),fun i e h=>by simp at h⟩)
 have hr:=aH.mp (g:=g.new S.nx w.heap.size 0) (w:=w.alloc (.map #[] 0)) (k:=S.nx) (.inr rfl)
 rw [show (g.new S.nx w.heap.size 0).ob S.nx=w.heap.size from aq _ _ _] at hr
 refine⟨_,_,_,.inl ?_,hr,h2,h1⟩
 simp [execOp,ho,Instr.makeMap,newObj,Sem.run]
theorem ae.Bt:ae P w0 false (.fk none) α S (.mp S.nx) (S.new (.mb [])):=ae.run fun n o hr=>by
 obtain⟨t,y,kt,et,ho,hy,hu⟩:=wS hr
 cases y with
 |some y=>cases hy
 |none=>exact J7 ho
theorem ae.oC {z:AV}{c:Bool}{x i:QO}{k:Nat}{es:List (Value × AV)}{m:Int}(hx:x.ev α.tm=.mp k) (hS:S.get k=some (.mb es)) (hk:kN es) (hi:i.ev α.tm=.v (.int .i64 m)) :
  ae P w0 false (.look z c x i) α S (match nA es m with|some a=>(if c then .aE [a,.v (.bool true)] else a)|none=>(if c then .aE [z,.v (.bool false)] else z)) S:=ae.run fun n o hr=>by
 obtain⟨t,u,v,kt,et,kk,zv,ho,rfl,rfl,h1,h2,h3,rfl⟩:=Aa hr
 rw [aJ] at hx hi
 exact xq ho h1 h2 h3 hx (fun A g w cQ aO=>by
  obtain⟨_,_,entries,q1,q2,q3,_⟩:=cQ.bR k _ hS aO
  exact⟨entries,_,q1,q2,q3⟩) hk hi
theorem OK {t kt et:TypeId}{kk:IntKind}{x i y:Operand}{k:Nat}{es:List (Value × AV)}{m:Int}{b:AV}(ho:o.op=.mapUpdate t x i y) (ht:P.underlying t=some (.map kt et)) (nh:P.underlying kt=some (.int kk))
  (hx:α.ev x=.mp k) (hS:S.get k=some (.mb es)) (hk:kN es) (hi:α.ev i=.v (cn m)) (hy:α.ev y=b):aS P w0 n o α S (.v undef) (S.set k (some (.mb (tw es m b)))):=by
 intro A g q w cQ hA
 have h1:=hA.ev x
 have h2:=hA.ev i
 have h3:=hA.ev y
 rw [hx] at h1
 rw [hi] at h2
 rw [hy] at h3
 obtain⟨e1,aO⟩:=ng h1
 have e2:=bO h2
 obtain⟨v,hv⟩:∃ v,q.eval y=v:=⟨_,rfl⟩
 rw [hv] at h3
 obtain⟨_,_,entries,p1,p2,p3,p4⟩:=cQ.bR k _ hS aO
 have hf:=xr p2 p3 hk (kk:=kk) m
 unfold tw
 cases hj:iC es m with
 |none =>
  rw [hj] at hf
  obtain⟨w',q1,q2,q3⟩:=cQ.yQ (P:=P) hS (fun J=>by simp) aO p1 (entries':=entries.push { key:=cn m,val:=v,born:=entries.size }) (es':=es++[(cn m,b)]) (by simp [p2]) (fun i key a hi=>by
   by_cases c:i < es.length
   ·rw [List.getElem?_append_left c] at hi
    obtain⟨e,r1,r2,r3⟩:=p3 i key a hi
    exact⟨e,by rw [Array.getElem?_push_lt (by omega)];rw [Array.getElem?_eq_getElem (by omega)] at r1;exact r1,r2,r3⟩
   ·rw [List.getElem?_append_right (by omega)] at hi
    have Br:i=es.length:=by
     have:=(List.getElem?_eq_some_iff.1 hi).1
     simp at this;omega
    subst Br
    simp at hi
    obtain⟨rfl,rfl⟩:=hi
    exact⟨{ key:=cn m,val:=v,born:=entries.size },by rw [<-p2];simp,rfl,h3⟩) (fun i e he=>by
   rw [Array.getElem?_push] at he
   split at he
   ·rename_i e';rw [<-oJ_ he,e']
   ·exact p4 i e he)
  refine⟨undef,w',g,.inr ⟨?_,rfl⟩,.v,q2,q3⟩
  simp only [Array.size_push] at q1
  simp only [execOp,ho,e1,e2,hv,Instr.mapUpdate,Sem.run_bind,run_underlying ht,Result.andThen_ok,en p1,run_checkKey nh,run_findKey nh hf,q1,Sem.run_pure]
 |some j =>
  obtain⟨a,ha⟩:=rp hk hj
  obtain⟨e,r1,r2,r3⟩:=p3 j _ a ha
  rw [hj] at hf
  simp only [r1,Option.map_some] at hf
  have gp:j < entries.size:=(Array.getElem?_eq_some_iff.1 r1).1
  obtain⟨w',q1,q2,q3⟩:=cQ.yQ (P:=P) hS (fun J=>by simp) aO p1 (entries':=entries.modify j fun e=>{ e with key:=cn m,val:=v }) (es':=es.set j (cn m,b)) (by simp [p2]) (fun i key a' hi=>by
   rw [List.getElem?_set] at hi
   by_cases c:j=i
   ·subst c
    rw [if_pos rfl,if_pos (by omega)] at hi
    simp only [oI_,pI_] at hi
    obtain⟨rfl,rfl⟩:=hi
    exact⟨{ e with key:=cn m,val:=v },by rw [Array.getElem?_modify,if_pos rfl,r1];rfl,rfl,h3⟩
   ·rw [if_neg c] at hi
    obtain⟨e',s1,s2,s3⟩:=p3 i key a' hi
    exact⟨e',by rw [Array.getElem?_modify,if_neg c];exact s1,s2,s3⟩) (fun i e' he=>by
   rw [Array.getElem?_modify] at he
   split at he
   ·rename_i c
    subst c
    rw [r1] at he
    obtain rfl:=oJ_ he
    exact p4 j e r1
   ·exact p4 i e' he)
  refine⟨undef,w',g,.inr ⟨?_,rfl⟩,.v,q2,q3⟩
  have lr:(Instr.keyThatStays (((entries[j]?).map (·.key)).getD (cn m)) (cn m)).run P w=.ok (cn m) w:=by
   rw [r1]
   simp [Instr.keyThatStays,r2,Instr.sameBits,cn]
  simp only [Array.size_modify] at q1
  simp only [execOp,ho,e1,e2,hv,Instr.mapUpdate,Sem.run_bind,run_underlying ht,Result.andThen_ok,en p1,run_checkKey nh,run_findKey nh hf,lr,q1,Sem.run_pure]
theorem ae.sY {x i b:QO}{k:Nat}{es:List (Value × AV)}{m:Int}{a:AV}(hx:x.ev α.tm=.mp k) (hS:S.get k=some (.mb es)) (hk:kN es) (hi:i.ev α.tm=.v (.int .i64 m)) (hb:b.ev α.tm=a) :
  ae P w0 false (.jf x i b) α S (.v undef) (S.set k (some (.mb (tw es m a)))):=ae.run fun n o hr=>by
 obtain⟨t,u,v,y,kt,et,kk,ho,rfl,rfl,rfl,h1,h2⟩:=Ac hr
 rw [aJ] at hx hi hb
 exact OK ho h1 h2 hx hS hk hi hb
theorem Q8 {o:Op}{z:AV}{x i:QO}(h:res P.toTables o=some (.vn z x i)):∃ t u v kt et kk zv,o=.mapEntry t u v/\x=qo u/\i=qo v/\P.underlying t=some (.map kt et)/\P.underlying kt=some (.int kk)/\cU P et=some zv/\z=lift zv:=by
 cases o with
 |mapEntry t u v =>
  simp only [res,bF,gn] at h
  split at h
  ·rename_i kt et hu
   split at h
   ·rename_i kk zv hk hz
    simp only [oI_,dp.vn.injEq] at h
    obtain⟨rfl,rfl,rfl⟩:=h
    exact⟨_,_,_,_,_,_,_,rfl,rfl,rfl,hu,hk,hz,rfl⟩
   all_goals cases h
  ·cases h
 |_ =>
  simp only [res] at h
  repeat' split at h
  all_goals cases h
theorem Q9 {o:Op}{x i b:QO}(h:res P.toTables o=some (.vo x i b)):∃ t u v y,o=.entryStore t u v y/\x=qo u/\i=qo v/\b=qo y:=by
 cases o with
 |entryStore t u v y =>
  simp only [res,bF] at h
  split at h
  ·split at h
   ·simp only [oI_,dp.vo.injEq] at h
    obtain⟨rfl,rfl,rfl⟩:=h
    exact⟨_,_,_,_,rfl,rfl,rfl,rfl⟩
   all_goals cases h
  ·cases h
 |_ =>
  simp only [res] at h
  repeat' split at h
  all_goals cases h
theorem Q_ {t kt et:TypeId}{kk:IntKind}{u v:Operand}{zv:Value}{k:Nat}{es:List (Value × AV)}{m:Int}(ho:o.op=.mapEntry t u v) (ht:P.underlying t=some (.map kt et)) (nh:P.underlying kt=some (.int kk)) (hz:cU P et=some zv)
  (hx:α.ev u=.mp k) (hS:S.get k=some (.mb es)) (hk:kN es) (hi:α.ev v=.v (.int .i64 m)) (hn:nA es m=none) :
  aS P w0 n o α S (.aE [lift zv,.v (.int .i64 es.length)]) (S.set k (some (.mb (es++[(cn m,lift zv)])))):=by
 intro A g q w cQ hA
 have h1:=hA.ev u
 have h2:=hA.ev v
 rw [hx] at h1
 rw [hi] at h2
 obtain⟨e1,aO⟩:=ng h1
 have e2:=bO h2
 obtain⟨_,_,entries,p1,p2,p3,p4⟩:=cQ.bR k _ hS aO
 have hf:=xr p2 p3 hk (kk:=kk) m
 have hj:iC es m=none:=by
  unfold nA at hn
  cases hj:iC es m with
  |none=>rfl
  |some j =>
   obtain⟨a,ha⟩:=rp hk hj
   rw [hj] at hn
   simp [ha] at hn
 rw [hj] at hf
 obtain⟨w',q1,q2,q3⟩:=cQ.yQ (P:=P) hS (fun J=>by simp) aO p1 (entries':=entries.push { key:=cn m,val:=zv,born:=entries.size }) (es':=es++[(cn m,lift zv)]) (by simp [p2]) (fun i key a hi=>by
  by_cases c:i < es.length
  ·rw [List.getElem?_append_left c] at hi
   obtain⟨e,r1,r2,r3⟩:=p3 i key a hi
   exact⟨e,by rw [Array.getElem?_push_lt (by omega)];rw [Array.getElem?_eq_getElem (by omega)] at r1;exact r1,r2,r3⟩
  ·rw [List.getElem?_append_right (by omega)] at hi
   have Br:i=es.length:=by
    have:=(List.getElem?_eq_some_iff.1 hi).1
    simp at this;omega
   subst Br
   simp at hi
   obtain⟨rfl,rfl⟩:=hi
   exact⟨{ key:=cn m,val:=zv,born:=entries.size },by rw [<-p2];simp,rfl,rO zv⟩) (fun i e he=>by
  rw [Array.getElem?_push] at he
  split at he
  ·rename_i e';rw [<-oJ_ he,e']
  ·exact p4 i e he)
 refine⟨.tuple #[zv,goInt entries.size],w',g,.inl ?_,?_,q2,q3⟩
 ·simp only [Array.size_push] at q1
  have hck:(Instr.checkKey false 10000 kt (cn m)).run P w=.ok () w:=run_checkKey nh false m
  have hfk:(Instr.findKey kt (cn m) entries.toList).run P w=.ok none w:=run_findKey nh hf
  have e2:q.eval v=cn m:=e2
  simp only [execOp,ho,e1,e2,Instr.mapEntry,Sem.run_bind,run_underlying ht,Result.andThen_ok,en p1,hck,hfk,kG hz,q1,Sem.run_pure]
 ·refine .aE rfl fun i a x ha hx=>?_
  match i with
  |0=>simp at ha hx;subst ha hx;exact rO zv
  |1=>simp at ha hx;subst ha hx;rw [p2];exact .v
  |i+2=>simp at ha
theorem bc.vn {B:Nat}{z:AV}{x i:QO}{k:Nat}{es:List (Value × AV)}{m:Int}(hx:x.ev α.tm=.mp k) (hS:S.get k=some (.mb es)) (hk:kN es) (hi:i.ev α.tm=.v (.int .i64 m)) (hn:nA es m=none) :
  bc P w0 B (.vn z x i) α S (.aE [z,.v (.int .i64 es.length)]) ⟨[(k,.mb es)],[(k,some (.mb (es++[(cn m,z)])))],false⟩:=by
 intro n o hr
 obtain⟨t,u,v,kt,et,kk,zv,ho,rfl,rfl,ht,nh,hz,rfl⟩:=Q8 hr
 rw [aJ] at hx hi
 refine⟨fun hp=>(by rw [ho] at hp;cases hp),(show fu S [(k,.mb es)] from fun p hp=>by simp only [List.mem_singleton] at hp;subst hp;exact hS),fun T _ hT _=>?_⟩
 have e:∀ z ∈ [u,v],(α.only (cB o)).ev z=α.ev z:=fun z hz=>ew fun t ht=>ee (by rw [ho];simp [Op.operands,<-ht];simpa using hz)
 have e1:cY T [(k,some (.mb (es++[(cn m,lift zv)])))] false=T.set k (some (.mb (es++[(cn m,lift zv)]))):=by cases T;rfl
 rw [e1]
 exact (Q_ ho ht nh hz (by rw [e u (by simp)];exact hx) (hT (k,_) (by simp)) hk (by rw [e v (by simp)];exact hi) hn).ops fun c e=>by rw [ho] at e;cases e
theorem Ra {t:TypeId}{u v y:Operand}{k j:Nat}{es:List (Value × AV)}{a:AV}{p:Value × AV}(ho:o.op=.entryStore t u v y) (hx:α.ev u=.mp k) (hS:S.get k=some (.mb es)) (hi:α.ev v=.v (.int .i64 j)) (hb:α.ev y=a) (hj:es[j]?=some p) :
  aS P w0 n o α S (.v undef) (S.set k (some (.mb (es.set j (p.1,a))))):=by
 intro A g q w cQ hA
 have h1:=hA.ev u
 have h2:=hA.ev v
 have h3:=hA.ev y
 rw [hx] at h1
 rw [hi] at h2
 rw [hb] at h3
 obtain⟨e1,aO⟩:=ng h1
 have e2:=bO h2
 obtain⟨vy,hv⟩:∃ v,q.eval y=v:=⟨_,rfl⟩
 rw [hv] at h3
 obtain⟨_,_,entries,p1,p2,p3,p4⟩:=cQ.bR k _ hS aO
 obtain⟨pk,pa⟩:=p
 obtain⟨e,r1,r2,r3⟩:=p3 j pk pa hj
 have gp:j < entries.size:=(Array.getElem?_eq_some_iff.1 r1).1
 have hfi:entries.findIdx? (fun e=>(e.born:Int) == (j:Int))=some j:=by
  rw [Array.findIdx?_eq_some_iff_getElem]
  refine⟨gp,?_,fun i hi=>?_⟩
  ·have:=p4 j _ (Array.getElem?_eq_getElem gp)
   simp [this]
  ·have:=p4 i _ (Array.getElem?_eq_getElem (by omega))
   simp [this]
   omega
 obtain⟨w',q1,q2,q3⟩:=cQ.yQ (P:=P) hS (fun J=>by simp) aO p1 (entries':=entries.modify j fun e=>{ e with val:=vy }) (es':=es.set j (pk,a)) (by simp [p2]) (fun i key a' hi=>by
  rw [List.getElem?_set] at hi
  by_cases c:j=i
  ·subst c
   rw [if_pos rfl,if_pos (by omega)] at hi
   simp only [oI_,pI_] at hi
   obtain⟨rfl,rfl⟩:=hi
   exact⟨{ e with val:=vy },by rw [Array.getElem?_modify,if_pos rfl,r1];rfl,r2,h3⟩
  ·rw [if_neg c] at hi
   obtain⟨e',s1,s2,s3⟩:=p3 i key a' hi
   exact⟨e',by rw [Array.getElem?_modify,if_neg c];exact s1,s2,s3⟩) (fun i e' he=>by
  rw [Array.getElem?_modify] at he
  split at he
  ·rename_i c
   subst c
   rw [r1] at he
   obtain rfl:=oJ_ he
   exact p4 j e r1
  ·exact p4 i e' he)
 refine⟨undef,w',g,.inr ⟨?_,rfl⟩,.v,q2,q3⟩
 simp only [Array.size_modify] at q1
 simp only [execOp,ho,e1,e2,hv,Instr.entryStore,Sem.run_bind,Sem.run_pure,Result.andThen_ok,en p1,asInt,asIntOf,hfi,q1]
theorem bc.vo {B:Nat}{x i b:QO}{k j:Nat}{es:List (Value × AV)}{a:AV}{p:Value × AV}(hx:x.ev α.tm=.mp k) (hS:S.get k=some (.mb es)) (hi:i.ev α.tm=.v (.int .i64 j)) (hb:b.ev α.tm=a) (hj:es[j]?=some p) :
  bc P w0 B (.vo x i b) α S (.v undef) ⟨[(k,.mb es)],[(k,some (.mb (es.set j (p.1,a))))],false⟩:=by
 intro n o hr
 obtain⟨t,u,v,y,ho,rfl,rfl,rfl⟩:=Q9 hr
 rw [aJ] at hx hi hb
 refine⟨fun hp=>(by rw [ho] at hp;cases hp),(show fu S [(k,.mb es)] from fun p hp=>by simp only [List.mem_singleton] at hp;subst hp;exact hS),fun T _ hT _=>?_⟩
 have e:∀ z ∈ [u,v,y],(α.only (cB o)).ev z=α.ev z:=fun z hz=>ew fun t ht=>ee (by rw [ho];simp [Op.operands,<-ht];simpa using hz)
 have e1:cY T [(k,some (.mb (es.set j (p.1,a))))] false=T.set k (some (.mb (es.set j (p.1,a)))):=by cases T;rfl
 rw [e1]
 exact (Ra ho (by rw [e u (by simp)];exact hx) (hT (k,_) (by simp)) (by rw [e v (by simp)];exact hi) (by rw [e y (by simp)];exact hb) hj).ops fun c e=>by rw [ho] at e;cases e
end
section
variable {P:Program}{w0:World}{rd:Bool}{n B:Nat}{α:AA}{S S':ad}{Q:Exit->AA->ad->Prop}{r:AV}{l:List QI}{K:List fc}
variable {ρ:Hd}{T:Type}{f:T->AV}{kv:List (Int × T)}
theorem aa.Bt {d:Option Nat}{g:Option (Nat × Bool)}(ρ:Hd) (f:T->AV) (hw:bD α.tm g=some true) (k1:∀ kv:List (Int × T),kv=[]->aa P w0 rd n Q (.aU false l K) (bS d α (.mp S.nx)) (S.new (.mb (ρ.h (cX f) kv)))):aa P w0 rd n Q (.aU false (⟨d,g,.fk none⟩::l) K) α S:=by
 have h:=k1 [] rfl
 rw [ρ.eq] at h
 exact aa.op (i:=⟨d,g,.fk none⟩) hw ae.Bt h
theorem aa.oC {d:Option Nat}{g:Option (Nat × Bool)}{z:AV}{c:Bool}{x i:QO}{k:Nat}{m:Int}(hw:bD α.tm g=some true) (hx:x.ev α.tm=.mp k) (hS:S.get k=some (.mb (ρ.h (cX f) kv))) (hi:i.ev α.tm=.v (.int .i64 m))
  (k1:∀ v,aD kv m=some v->aa P w0 rd n Q (.aU false l K) (bS d α (if c then .aE [f v,.v (.bool true)] else f v)) S) (k2:aD kv m=none->aa P w0 rd n Q (.aU false l K) (bS d α (if c then .aE [z,.v (.bool false)] else z)) S) :
  aa P w0 rd n Q (.aU false (⟨d,g,.look z c x i⟩::l) K) α S:=by
 have h:=ae.oC (P:=P) (w0:=w0) (z:=z) (c:=c) hx hS (by rw [ρ.eq];exact nV) hi
 rw [ρ.eq,sN] at h
 refine aa.op (i:=⟨d,g,.look z c x i⟩) hw h ?_
 cases hl:aD kv m with
 |some v=>exact k1 v hl
 |none=>exact k2 hl
theorem aa.sY {d:Option Nat}{g:Option (Nat × Bool)}{x i b:QO}{k:Nat}{m:Int}{v:T}(hw:bD α.tm g=some true) (hx:x.ev α.tm=.mp k) (hS:S.get k=some (.mb (ρ.h (cX f) kv))) (hi:i.ev α.tm=.v (.int .i64 m)) (hb:b.ev α.tm=f v)
  (k1:∀ qz,qz=eV kv m v->aa P w0 rd n Q (.aU false l K) (bS d α (.v undef)) (S.set k (some (.mb (ρ.h (cX f) qz))))):aa P w0 rd n Q (.aU false (⟨d,g,.jf x i b⟩::l) K) α S:=by
 have h:=ae.sY (P:=P) (w0:=w0) hx hS (by rw [ρ.eq];exact nV) hi hb
 rw [ρ.eq,z_,<-ρ.eq (cX f)] at h
 exact aa.op (i:=⟨d,g,.jf x i b⟩) hw h (k1 _ rfl)
theorem aa.Uw {V:List (Nat × Nat)}{lg:List (List Nat × List Nat × Bool)}{rs:List Nat}{d:Option Nat}{g:Option (Nat × Bool)}{z:AV}{x i:QO}{k:Nat}{m:Int}{z0:T}(hw:bD α.tm g=some true) (hx:x.ev α.tm=.mp k) (hS:S.get k=some (.mb (ρ.h (cX f) kv))) (hi:i.ev α.tm=.v (.int .i64 m)) (hz:f z0=z) (hn:aD kv m=none)
  (k1:∀ qz (j:Int),qz=kv++[(m,z0)]->j=kv.length->aa P w0 rd n Q (.dB B V (lg++[([k],[k],false)]) rs l K) (bS d α (.aE [z,.v (.int .i64 j)])) (cY S [(k,some (.mb (ρ.h (cX f) qz)))] false)):aa P w0 rd n Q (.dB B V lg rs (⟨d,g,.vn z x i⟩::l) K) α S:=by
 have h:=bc.vn (P:=P) (w0:=w0) (B:=B) (z:=z) hx hS (by rw [ρ.eq];exact nV) hi (by rw [ρ.eq,sN,hn];rfl)
 have k2:=k1 _ _ rfl rfl
 have e:ρ.h (cX f) kv++[(cn m,z)]=ρ.h (cX f) (kv++[(m,z0)]):=by rw [ρ.eq,ρ.eq];simp [cX,hz]
 have e2:(ρ.h (cX f) kv).length=kv.length:=by rw [ρ.eq];simp [cX]
 rw [e,e2] at h
 exact aa.lP (i:=⟨d,g,.vn z x i⟩) hw h k2
theorem aa.Ux {V:List (Nat × Nat)}{lg:List (List Nat × List Nat × Bool)}{rs:List Nat}{d:Option Nat}{g:Option (Nat × Bool)}{x i b:QO}{k:Nat}{m j:Int}{v z0:T}{zw:List (Int × T)}(hw:bD α.tm g=some true) (hx:x.ev α.tm=.mp k) (hS:S.get k=some (.mb (ρ.h (cX f) kv))) (hi:i.ev α.tm=.v (.int .i64 j)) (hb:b.ev α.tm=f v) (lx:kv=zw++[(m,z0)]) (hj:j=zw.length)
  (k1:∀ qz,qz=zw++[(m,v)]->aa P w0 rd n Q (.dB B V (lg++[([k],[k],false)]) rs l K) (bS d α (.v undef)) (cY S [(k,some (.mb (ρ.h (cX f) qz)))] false)):aa P w0 rd n Q (.dB B V lg rs (⟨d,g,.vo x i b⟩::l) K) α S:=by
 subst lx hj
 have hl:(cX f zw).length=zw.length:=by simp [cX]
 have e:cX f (zw++[(m,z0)])=cX f zw++[(cn m,f z0)]:=by simp [cX]
 have h:=bc.vo (P:=P) (w0:=w0) (B:=B) (p:=(cn m,f z0)) hx hS hi hb (by rw [ρ.eq,e,<-hl];simp)
 have k2:=k1 _ rfl
 have e2:(ρ.h (cX f) (zw++[(m,z0)])).set zw.length (cn m,f v)=ρ.h (cX f) (zw++[(m,v)]):=by
  rw [ρ.eq,ρ.eq,e,<-hl,List.set_append_right _ _ (Nat.le_refl _)]
  simp [cX]
 rw [e2] at h
 exact aa.lP (i:=⟨d,g,.vo x i b⟩) hw h k2
end
end Go.Proofs.YtgjfgekaclobaaaGreat
