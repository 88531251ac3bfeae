import Derived.Laws.CopyRow
import Derived.Test.YtbofilglphfceaaGreatD24
namespace Go.Proofs.YtbofilglphfceaaGreat
set_option linter.unusedVariables false
set_option linter.unusedSimpArgs false
open Go.RowKit
section
variable {P:Program}{w0:World}{rd:Bool}{n B:Nat}{α:AA}{S S' S1:U}{Q:Exit->AA->U->Prop}{r r':AV}{l:List QI}{K:List ji}{o:Oper}{V:List (Nat × Nat)}{lg:List (List Nat × List Nat × Bool)}{rs:List Nat}
theorem cP.rv (h:cP P w0 n o α S r S') (k:Rv w0 r S' r' S1):cP P w0 n o α S r' S1:=by
 intro F m A g a w nx R hF hS hA hn
 refine h F m A g a w nx R hF hS hA fun v w' g' h1 h2 h3=>?_
 obtain⟨g2,k1,k2,k3⟩:=k A g g' w w' v h2 h1
 exact hn v w' g2 k2 k1 (h3.trans k3)
theorem Rv.move {k sz len:Nat}{rows:List (List AV)}{ex:Bool}(hk:S.get k=some (.arr sz rows 0 ex)):Rv w0 (.gr k sz len) S (.gr S.nx sz len) ((S.set k none).new (.arr sz rows 0 false)):=by
 intro A g0 g IX w v hS hr
 obtain⟨T,hT⟩:∃ T,T=(S.set k none).new (.arr sz rows 0 false):=⟨_,rfl⟩
 obtain⟨g',hU⟩:∃ g':Gh,g'=⟨a6 g.ob S.nx (g.ob k),a6 g.cp S.nx (g.cp k),fun j=>g.al j\/(j=S.nx/\g.al k),g.fz,g.fo⟩:=⟨_,rfl⟩
 have kL:¬ g.al S.nx:=fun h=>Nat.lt_irrefl _ (hS.al _ h)
 have rN:∀ j,j ≠ S.nx->g'.ob j=g.ob j:=fun j e=>by rw [hU];exact aw _ _ e
 have Po:∀ j,j ≠ S.nx->g'.cp j=g.cp j:=fun j e=>by rw [hU];exact aw _ _ e
 have CD:g'.ob S.nx=g.ob k:=by rw [hU];exact ah _ _ _
 have Pp:g'.cp S.nx=g.cp k:=by rw [hU];exact ah _ _ _
 have nW:∀ j,g'.al j->j ≠ S.nx->g.al j:=fun j h e=>by
  rw [hU] at h
  rcases h with h|⟨h,_⟩
  ·exact h
  ·exact absurd h e
 have Gf:g'.al S.nx->g.al k:=fun h=>by
  rw [hU] at h
  rcases h with h|⟨_,h⟩
  ·exact absurd h kL
  ·exact h
 have ne:∀ j,g.al j->j ≠ S.nx:=fun j h e=>kL (e ▸ h)
 have hL:Later g w g' w:=⟨fun j h=>by rw [hU];exact .inl h,fun j h=>rN j (ne j h),fun j h=>Po j (ne j h),fun b o h=>by rw [hU];exact h,fun _ _ _=>rfl⟩
 have oM:g'.fz=g.fz:=by rw [hU]
 have wW:g'.fo=g.fo:=by rw [hU]
 have Tn:T.get S.nx=some (.arr sz rows 0 false):=by rw [hT];exact ah _ _ _
 have Tj:∀ j p,j ≠ S.nx->T.get j=some p->j ≠ k/\S.get j=some p:=by
  intro j p e h
  rw [hT] at h
  have h:a6 (S.set k none).get S.nx (some (.arr sz rows 0 false)) j=some p:=h
  rw [aw _ _ e] at h
  have h:a6 S.get k none j=some p:=h
  by_cases ek:j=k
  ·subst ek;rw [ah] at h;cases h
  ·rw [aw _ _ ek] at h;exact⟨ek,h⟩
 have Tf:∀ j J,T.get j=some (.fo J)->j ≠ S.nx:=fun j J h e=>by rw [e,Tn] at h;cases h
 have hE:Ext A g w g' w:={ hL with size:=Nat.le_refl _,bR:=fun _ _ _=>rfl,eu:=fun b o h=>by rw [oM] at h;exact .inl h }
 have Je:∀ {b cp:Nat}{o:Ob},cN g w b cp o->cN g' w b cp o:=fun h=>h.later hL rfl (fun q h=>by rw [oM] at h;exact h) fun J _=>⟨by rw [wW],Nat.le_refl _,fun _ _=>rfl,fun c q _ h=>by rw [oM] at h;exact h⟩
 rw [<-hT]
 refine⟨g',⟨hS.base,hS.up,hS.lo,fun j h=>?_,fun j p hj h=>?_,fun i j p q hi hj ai aj e=>?_,fun b q h=>hS.bM b q (by rw [<-oM];exact h),fun b q h=>by rw [oM];exact hS.j7 b q h,fun j J hj h=>?_,fun j J i p hj h hi ai e=>?_,fun i j J J' hi hj ai aj=>?_⟩,?_,hE⟩
 ·have e:T.nx=S.nx+1:=by rw [hT];rfl
  rw [e]
  by_cases ej:j=S.nx
  ·omega
  ·have:=hS.al j (nW j h ej);omega
 ·by_cases ej:j=S.nx
  ·subst ej
   rw [Tn] at hj
   obtain rfl:=Option.some.inj hj
   obtain⟨q1,q2,q3⟩:=hS.bE k _ hk (Gf h)
   rw [CD,Pp]
   refine⟨q1,q2,?_⟩
   obtain⟨cs,ty,h1,h2,h3,h4,h5,h6,h7⟩:=Je q3
   exact⟨cs,ty,h1,h2,h3,(fun h=>by cases h),h5,h6,h7⟩
  ·obtain⟨_,dQ⟩:=Tj j p ej hj
   obtain⟨q1,q2,q3⟩:=hS.bE j p dQ (nW j h ej)
   rw [rN j ej,Po j ej]
   exact⟨q1,q2,Je q3⟩
 ·by_cases ei:i=S.nx
  ·by_cases ej:j=S.nx
   ·rw [ei,ej]
   ·exfalso
    subst ei
    obtain⟨ek,dQ⟩:=Tj j q ej hj
    rw [CD,rN j ej] at e
    exact ek (hS.inj k j _ q hk dQ (Gf ai) (nW j aj ej) e).symm
  ·by_cases ej:j=S.nx
   ·exfalso
    subst ej
    obtain⟨ek,q8⟩:=Tj i p ei hi
    rw [CD,rN i ei] at e
    exact ek (hS.inj i k p _ q8 hk (nW i ai ei) (Gf aj) e)
   ·rw [rN i ei,rN j ej] at e
    exact hS.inj i j p q (Tj i p ei hi).2 (Tj j q ej hj).2 (nW i ai ei) (nW j aj ej) e
 ·have ej:=Tf j J hj
  rw [rN j ej,wW]
  exact hS.eM j J (Tj j _ ej hj).2 (nW j h ej)
 ·have ej:=Tf j J hj
  rw [rN j ej,wW]
  by_cases ei:i=S.nx
  ·subst ei
   rw [CD]
   exact hS.fW j J k _ (Tj j _ ej hj).2 (nW j h ej) hk (Gf ai) (Tj j _ ej hj).1.symm
  ·rw [rN i ei]
   exact hS.fW j J i p (Tj j _ ej hj).2 (nW j h ej) (Tj i p ei hi).2 (nW i ai ei) e
 ·have ei:=Tf i J hi
  have ej:=Tf j J' hj
  exact hS.iQ i j J J' (Tj i _ ei hi).2 (Tj j _ ej hj).2 (nW i ai ei) (nW j aj ej)
 ·rcases oI hr with ⟨h,A',rfl⟩|⟨kK,c,rfl,hx,hle⟩
  ·subst h;exact .im
  ·rw [<-CD]
   refine .gr (by rw [hU];exact .inr ⟨rfl,kK⟩) (by rw [Pp];exact hx) hle
theorem Rv.nil {sz:Nat}:Rv w0 (.sl true []) S (.gr S.nx sz 0) (S.new (.arr sz [] 0 false)):=by
 intro A g0 g IX w v hS hr
 obtain⟨g',h1,h2,h3⟩:=(show ∃ g',St w0 A g' (S.new (.arr sz [] 0 false)) w/\ao g' w (.gr S.nx sz 0) v/\Ext A g w g' w from by
  have key:∀ k p,(S.new (.arr sz [] 0 false)).get k=some p->g.al k->S.get k=some p:=fun k p hk ha=>by
   have au:=hS.al k ha
   have hk:a6 S.get S.nx (some (.arr sz [] 0 false)) k=some p:=hk
   rwa [aw _ _ (by omega)] at hk
  refine⟨g,⟨hS.base,hS.up,hS.lo,fun k hk=>Nat.lt_succ_of_lt (hS.al k hk),fun k p hk ha=>hS.bE k p (key k p hk ha) ha,fun i j p q hi hj ai aj e=>hS.inj i j p q (key i p hi ai) (key j q hj aj) ai aj e,hS.bM,hS.j7,
   fun k J hk ha=>hS.eM k J (key k _ hk ha) ha,fun k J j p hk ha hj aj=>hS.fW k J j p (key k _ hk ha) ha (key j p hj aj) aj,fun j k J J' hj hk aj ak=>hS.iQ j k J J' (key j _ hj aj) (key k _ hk ak) aj ak⟩,?_,Ext.refl ..⟩
  cases hr with
  |nil hz=>obtain rfl:=hz rfl;exact .im
  |sl hz=>exact absurd rfl hz)
 exact⟨g',h1,h2,h3⟩
theorem Rv.Qf {k sz len:Nat}:Rv w0 (.ob k sz 0 len none) S (.gr k sz len) S:=by
 intro A g0 g IX w v hS hr
 refine⟨g,hS,?_,Ext.refl ..⟩
 cases hr with
 |ob q1 q2 q3 q4 q5=>rw [Nat.zero_mul];exact .gr q1 (by have:=q4 rfl;omega) q5
section
variable {ρ:Hd}{T:Type}{f:T->List AV}{acc ys:List T}
theorem ab.Lv {dd:Option Nat}{gg:Option (Nat × Bool)}{t:Nat}{b:QO}{sz by_ k len:Nat}{ex ex':Bool}(hw:ca α.tm gg=some true) (h1:α.tm t=.gr k sz len) (hk:S.get k=some (.arr sz (ρ.h (List.map f) acc) 0 ex)) (hn:len=acc.length) (eG:∀ c,b.ev (a6 α.tm t c)=b.ev α.tm)
  (hb:b.ev α.tm=dZ ρ f ex' ys) (hl:∀ x,(f x).length=sz) (hc:∀ x,(f x).all bp=true) (hy:(len+ys.length)*by_<=35184372088832)
  (kk:∀ jb sH,jb=acc++ys->sH=jb.length->ab P w0 rd n Q (.cB B V (lg++[([k],[S.nx,k],true)]) rs l K) (cH dd α (.gr S.nx sz sH)) (cD S [(S.nx,some (.arr sz (ρ.h (List.map f) jb) 0 false)),(k,none)] true)):ab P w0 rd n Q (.cB B V lg rs (⟨dd,gg,.append sz by_ (.t t) b⟩::l) K) α S:=by
 have hlen:(ρ.h (List.map f) acc).length=acc.length:=aq
 rw [jj] at hb
 cases ys with
 |nil =>
  have h:=kk acc len (by simp) hn
  refine ab.xf (i:=⟨dd,gg,.append sz by_ (.t t) b⟩) (d:=⟨[(k,.arr sz (ρ.h (List.map f) acc) 0 ex)],[(S.nx,some (.arr sz (ρ.h (List.map f) acc) 0 false)),(k,none)],true⟩) hw ?_ h
  have h0:=bC.Lg (P:=P) (w0:=w0) (B:=B) (by_:=by_) h1 hk (by omega) eG hb
  intro n o hr
  obtain⟨e1,e2,e3⟩:=h0 n o hr
  refine⟨fun hp=>(by rw [lf hr] at hp;cases hp),e2,fun T hB hT hm=>?_⟩
  have h4:=e3 T hB hT (fun h=>by cases h)
  rw [show cD T [] false=T from bH] at h4
  have h5:=h4.rv (Rv.move (w0:=w0) (len:=len) (hT (k,.arr sz (ρ.h (List.map f) acc) 0 ex) (by simp)))
  rw [<-hm rfl,cJ]
  exact h5
 |cons y ys =>
  have h:=kk _ _ rfl rfl
  have e:ρ.h (List.map f) acc++List.map f (y::ys)=ρ.h (List.map f) (acc++y::ys):=by rw [ρ.eq,ρ.eq,List.map_append]
  rw [<-e,show (acc++y::ys).length=len+(f y::List.map f ys).length by simp;omega] at h
  refine ab.xf (i:=⟨dd,gg,.append sz by_ (.t t) b⟩) hw (bC.Qe (x:=f y) (more:=List.map f ys) h1 hk (by omega) eG hb (fun row hr=>?_) (by simpa using hy)) h
  obtain⟨x,_,rfl⟩:=List.mem_map.1 (show row ∈ List.map f (y::ys) from hr)
  exact⟨hl x,hc x⟩
theorem ab.Lw {dd:Option Nat}{gg:Option (Nat × Bool)}{a b:QO}{sz by_:Nat}{ex':Bool}(hw:ca α.tm gg=some true) (h1:a.ev α.tm=.sl true [])
  (hb:b.ev α.tm=dZ ρ f ex' ys) (hl:∀ x,(f x).length=sz) (hy:ys.length*by_<=35184372088832)
  (kk:∀ jb sH,jb=ys->sH=jb.length->ab P w0 rd n Q (.cB B V (lg++[([],[S.nx],true)]) rs l K) (cH dd α (.gr S.nx sz sH)) (cD S [(S.nx,some (.arr sz (ρ.h (List.map f) jb) 0 false))] true)):ab P w0 rd n Q (.cB B V lg rs (⟨dd,gg,.append sz by_ a b⟩::l) K) α S:=by
 rw [jj] at hb
 have h:=kk _ _ rfl rfl
 rw [ρ.eq] at h
 refine ab.xf (i:=⟨dd,gg,.append sz by_ a b⟩) (d:=⟨[],[(S.nx,some (.arr sz (List.map f ys) 0 false))],true⟩) hw ?_ h
 cases ys with
 |nil =>
  have h0:=bC.yA (P:=P) (w0:=w0) (B:=B) (S:=S) (sz:=sz) (by_:=by_) h1 hb
  intro n o hr
  obtain⟨e1,e2,e3⟩:=h0 n o hr
  refine⟨fun hp=>(by rw [lf hr] at hp;cases hp),e2,fun T hB hT hm=>?_⟩
  have h4:=e3 T hB hT (fun h=>by cases h)
  rw [show cD T [] false=T from bH] at h4
  have h5:=h4.rv (Rv.nil (w0:=w0) (sz:=sz))
  rw [<-hm rfl,cJ]
  exact h5
 |cons y ys =>
  have h0:=bC.uP (P:=P) (w0:=w0) (B:=B) (S:=S) (sz:=sz) (by_:=by_) (x:=f y) (more:=List.map f ys) h1 hb (fun row hr=>by
   obtain⟨x,_,rfl⟩:=List.mem_map.1 (show row ∈ List.map f (y::ys) from hr)
   exact hl x) (by simpa using hy)
  intro n o hr
  obtain⟨e1,e2,e3⟩:=h0 n o hr
  refine⟨e1,e2,fun T hB hT hm=>?_⟩
  have h4:=(e3 T hB hT hm).rv (Rv.Qf (w0:=w0))
  simpa using h4
end
theorem aa.na {len m:Nat}{k:LK}{x i:QO}{l:List AV}{a:AV}{ik:IntKind}{j:Int}{dr:Bool}(h1:x.ev α.tm=.agg l) (h2:i.ev α.tm=.v (.int ik j)) (h3:kc k l (j.toNat*m)=some a) (h4:0<=j) (h5:j < len):aa P w0 dr (.na len m k x i) α S a S:=by
 refine aa.of rfl fun o hr=>?_
 cases o<;>simp only [res,aZ,cA] at hr<;>(repeat' split at hr)<;>(try cases hr)
 rw [ay] at h1 h2
 rename_i hs hk
 rw [<-ou hk] at h3
 simp only [aE, *]
 exact aD.mk rfl ⟨trivial,trivial,rfl,rfl⟩
theorem xz {x:QO}{o:Op}(h:res P.toTables o=some (.len false x)):∃ c t u e,o=.call c/\c.callee=.builtin .len/\c.argTypes=#[t]/\c.args=#[u]/\x=qo u/\P.underlying t=some (.slice e):=by
 cases o<;>simp only [res,aZ] at h<;>(repeat' split at h)<;>(try cases h)
 rename_i c hc t y h1 h2 e hu
 exact⟨_,_,_,_,rfl,by assumption,toList_one (by assumption),toList_one (by assumption),rfl,by assumption⟩
theorem vg {o:Oper}{x:QO}{k sz len:Nat}(hr:res P.toTables o.op=some (.len false x)) (β:AA) (h:x.ev β.tm=.gr k sz len):cP P w0 n o β S (.v (.int .i64 len)) S:=by
 obtain⟨c,t,u,e,ho,hc,ht,hu,rfl,hs⟩:=xz hr
 rw [ay] at h
 refine aC.ops (aC.quiet fun A g q w hS hA=>?_) fun c' e=>by
  rw [ho] at e
  cases e
 have h1:=hA.ev u
 rw [h] at h1
 refine⟨_,?_,.v⟩
 rcases oI h1 with ⟨rfl,A',hv⟩|⟨_,c',hv,_,_⟩
 ·simp [execOp,ho,resolve,hc,hu,ht,hv,invoke,builtin,Builtin.len_,run_underlying hs,goInt]
 ·simp [execOp,ho,resolve,hc,hu,ht,hv,invoke,builtin,Builtin.len_,run_underlying hs,goInt]
theorem aa.Qg {dr:Bool}{x:QO}{k sz len:Nat}(h:x.ev α.tm=.gr k sz len):aa P w0 dr (.len false x) α S (.v (.int .i64 len)) S:=by
 cases dr with
 |false=>exact fun n o hr=>vg hr α h
 |true =>
  intro n o hr
  obtain⟨c,t,u,e,ho,hc,ht,hu,hx,hs⟩:=xz hr
  have h2:x.ev (α.only (cb o)).tm=.gr k sz len:=by
   rw [<-h,hx,ay,ay]
   exact fm fun t e=>eU (by rw [ho,<-e];show u ∈ c.operands;simp [Call.operands,hu])
  have h3:∀ T,cP P w0 n o (α.only (cb o)) T (.v (.int .i64 len)) T:=fun T=>vg hr _ h2
  exact⟨h3 S,fun _=>⟨rfl,h3⟩,fun _=>rfl⟩
end
section
variable {P:Program}{w0:World}{n:Nat}{o:Oper}{α:AA}{S S':U}{r:AV}
theorem St.pB {A:Nat->Prop}{g:Gh}{w:World}{k sz fz p:Nat}{rows more:List (List AV)}{ex:Bool}{cs:Array Value}{ty:TypeId}{news:List Value}(hS:St w0 A g S w) (hk:S.get k=some (.arr sz rows fz ex)) (ha:g.al k) (hc:w.heap[g.ob k]?=some (.cells cs ty (0,0)))
  (hl:∀ r ∈ more,r.length=sz) (hn:news.length=more.length*sz) (hr:∀ (i:Nat) (row:List AV) (j:Nat) (a:AV),more[i]?=some row->row[j]?=some a->∃ x,news[i*sz+j]?=some x/\ao g w a x) (hp:p+more.length<=rows.length) (hf:fz<=p) :
  Ext A g w g (w.setRow (g.ob k) (cs.toList.take (p*sz)++news++cs.toList.drop (p*sz+news.length)).toArray)/\St w0 A g (S.set k (some (.arr sz (rows.take p++more++rows.drop (p+more.length)) fz ex))) (w.setRow (g.ob k) (cs.toList.take (p*sz)++news++cs.toList.drop (p*sz+news.length)).toArray):=by
 obtain⟨k2,k3,rP,gT,h1,h2,h3,h4,h5,h6,h7⟩:=hS.bE k _ hk ha
 obtain⟨rfl,rfl⟩:rP=cs/\gT=ty:=by
  rw [hc] at h1
  simp only [Option.some.injEq,Obj.cells.injEq] at h1
  exact⟨h1.1.symm,h1.2.1.symm⟩
 have hm:p*sz+more.length*sz<=g.cp k*sz:=by rw [<-Nat.add_mul];exact Nat.mul_le_mul_right sz (by omega)
 have cy:p*sz+news.length<=rP.toList.length:=by
  have e:=Array.length_toList (xs:=rP)
  rw [hn,e,h2];exact hm
 obtain⟨cs',jQ⟩:∃ cs',cs'=(rP.toList.take (p*sz)++news++rP.toList.drop (p*sz+news.length)).toArray:=⟨_,rfl⟩
 rw [<-jQ]
 have fQ:∀ q,cs'[q]?=if q < p*sz then rP[q]? else if q < p*sz+news.length then news[q - p*sz]? else rP[q]?:=by
  intro q
  rw [jQ,List.getElem?_toArray,lh _ _ _ cy]
  simp only [Array.getElem?_toList]
 have yL:cs'.size=rP.size:=by
  rw [jQ]
  simp at cy ⊢
  omega
 have eC:(rows.take p++more++rows.drop (p+more.length)).length=rows.length:=by simp;omega
 exact hS.row hk ha h1 (cs':=cs') (ob:=.arr sz (rows.take p++more++rows.drop (p+more.length)) fz ex) (fun J=>⟨by simp,by simp⟩) (fun q hq=>by
  have:=(h7 q).1 hq
  rw [fQ,if_pos (Nat.lt_of_lt_of_le this (Nat.mul_le_mul_right sz hf))]) (fun hL=>by
  refine⟨cs',gT,setRow_heap w _ rP cs' gT (0,0) h1,yL.trans h2,by rw [eC];exact h3,fun h=>by rw [eC];exact h4 h,fun i row hi=>?_,by rw [eC];exact h6,h7⟩
  rw [lh _ _ _ hp] at hi
  split at hi
  ·rename_i c1
   refine⟨(h5 i row hi).1,fun j a bU=>?_⟩
   obtain⟨x,hx,dC⟩:=(h5 i row hi).2 j a bU
   have hj:j < sz:=by rw [<-(h5 i row hi).1];exact (List.getElem?_eq_some_iff.1 bU).1
   exact⟨x,by rw [fQ,if_pos (fD c1 hj)];exact hx,dC.later hL⟩
  ·rename_i c1
   split at hi
   ·rename_i c2
    have eC:=hl row (List.mem_of_getElem? hi)
    refine⟨eC,fun j a bU=>?_⟩
    obtain⟨x,hx,dC⟩:=hr _ row j a hi bU
    have au:=(List.getElem?_eq_some_iff.1 hx).1
    have e:i*sz=p*sz+(i - p)*sz:=by rw [<-Nat.add_mul];congr 1;omega
    exact⟨x,by rw [fQ,if_neg (by omega),if_pos (by omega),show i*sz+j - p*sz=(i - p)*sz+j by omega];exact hx,dC.later hL⟩
   ·rename_i c2
    refine⟨(h5 i row hi).1,fun j a bU=>?_⟩
    obtain⟨x,hx,dC⟩:=(h5 i row hi).2 j a bU
    have e:p*sz+news.length<=i*sz:=by rw [hn,<-Nat.add_mul];exact Nat.mul_le_mul_right sz (by omega)
    exact⟨x,by rw [fQ,if_neg (by omega),if_neg (by omega)];exact hx,dC.later hL⟩)
theorem eA {t e:TypeId}(h:du P t=some e):P.underlying t=some (.slice e):=by
 unfold du at h
 split at h
 ·obtain rfl:=Option.some.inj h;assumption
 ·cases h
theorem qJ {sz:Nat}{a b:QO}{o:Op}(h:res P.toTables o=some (.copy sz a b)):∃ c t t2 u v e e2,o=.call c/\c.callee=.builtin .copy/\c.argTypes=#[t,t2]/\c.args=#[u,v]/\a=qo u/\b=qo v/\du P t=some e/\du P t2=some e2/\bV P e=some sz:=by
 cases o<;>simp only [res,fp,cA] at h<;>(repeat' split at h)<;>(try cases h)
 exact⟨_,_,_,_,_,_,_,rfl,by assumption,by rw [<-Array.toArray_toList (xs:=Call.argTypes _)];congr,by rw [<-Array.toArray_toList (xs:=Call.args _)];congr,rfl,rfl,by assumption,by assumption,by assumption⟩
theorem tL (w:World) (t t2 ty e:TypeId) (i:TypeInfo) (ht:P.underlying t=some (.slice e)) (hi:P.info? e=some i) (d a:Option Addr) (dl dc c:Nat):(Builtin.copy_ #[t,t2] ty #[.slice d dl dc,.slice a 0 c]).run P w=.ok (goInt 0) w:=by
 have hl:∀ (x:Addr),(loadCells x 0).run P w=.ok #[] w:=fun x=>by simpa using run_loadCells_list (P:=P) w x [] (by simp)
 cases d<;>cases a<;>simp [Builtin.copy_,run_underlying ht,Builtin.lenOf,Builtin.firstCells,sizeOf,typeInfo,hi,storeCells,hl]
theorem CI (w:World) (t t2 ty e gT:TypeId) (i:TypeInfo) (ht:P.underlying t=some (.slice e)) (hi:P.info? e=some i) (g q dl dc:Nat) (cur:Array Value) (hg:w.heap[g]?=some (.cells cur gT (0,0)))
  (a:Addr) (m c:Nat) (news:List Value) (hl:news.length=m*i.size) (kV:∀ j u,news[j]?=some u->w.cell? (a.add j)=some u) (h1:∀ u ∈ news,u.oneCell'=true) (hle:m<=dl) (cy:q+news.length<=cur.size) :
  (Builtin.copy_ #[t,t2] ty #[.slice (some ⟨g,q,none⟩) dl dc,.slice (some a) m c]).run P w=.ok (goInt m) (w.setRow g (cur.toList.take q++news++cur.toList.drop (q+news.length)).toArray):=by
 have hf:=run_firstCells_some (P:=P) w i.size m a m c news hl kV
 have j9:=run_storeCells_at P g q gT news 0 cur w hg (by simpa using cy) h1
 simp only [Nat.add_zero] at j9
 have hn:Nat.min m dl=m:=Nat.min_eq_left hle
 simp [Builtin.copy_,run_underlying ht,sizeOf,typeInfo,hi,Builtin.lenOf,hn,hf,j9]
theorem aa.Ql {sz k sz' off len:Nat}{cx:Option Nat}{a b:QO}(hx:a.ev α.tm=.ob k sz' off len cx) (hm:cu S (b.ev α.tm)=some []):aa P w0 false (.copy sz a b) α S (.v (.int .i64 0)) S:=aa.run fun n o hr=>by
 obtain⟨c,t,t2,u,v,e,e2,ho,hc,cV,aH,rfl,rfl,ht,cR,hs⟩:=qJ hr
 rw [ay] at hx hm
 obtain⟨hm,hlen⟩:=bX hm
 have ht:=eA ht
 obtain⟨i,hi,a7⟩:=dy hs
 intro A g q w hS hA
 have g1:=hA.ev u
 have g2:=hA.ev v
 rw [hx] at g1
 obtain⟨cc,e1,_⟩:=dx g1
 obtain⟨B,c2,e3⟩:=jm (by simpa using hlen) hm g2
 refine⟨_,_,g,.inl ?_,.v,hS,.refl _ _ _⟩
 have bm:(execOp q.eval o).run P w=((Builtin.copy_ #[t,t2] o.type #[q.eval u,q.eval v]).run P w).andThen fun v w'=>.ok (.value v) w':=by
  simp [execOp,ho,resolve,hc,cV,aH,invoke,builtin]
 rw [bm,e1,e3,tL w t t2 o.type e i ht hi]
 rfl
theorem aa.Qm {dr:Bool}{sz:Nat}{e1 e2:Bool}{a b:QO}(hx:a.ev α.tm=.sl e1 []) (hy:b.ev α.tm=.sl e2 []):aa P w0 dr (.copy sz a b) α S (.v (.int .i64 0)) S:=by
 have key:∀ (α:AA) (S:U) (n:Nat) (o:Oper) (c:Call) (t t2:TypeId) (u v:Operand) (e:TypeId),o.op=.call c->c.callee=.builtin .copy->c.argTypes=#[t,t2]->c.args=#[u,v]->du P t=some e->bV P e=some sz->α.ev u=.sl e1 []->α.ev v=.sl e2 []->aC P w0 n o α S (.v (.int .i64 0)) S:=by
  intro α S n o c t t2 u v e ho hc cV aH ht hs hx hy
  have ht:=eA ht
  obtain⟨i,hi,a7⟩:=dy hs
  intro A g q w hS hA
  have g1:=hA.ev u
  have g2:=hA.ev v
  rw [hx] at g1
  rw [hy] at g2
  obtain⟨B1,c1,f1⟩:=jm (S:=U.none_) rfl rfl g1
  obtain⟨B2,c2,f2⟩:=jm (S:=U.none_) rfl rfl g2
  refine⟨_,_,g,.inl ?_,.v,hS,.refl _ _ _⟩
  have bm:(execOp q.eval o).run P w=((Builtin.copy_ #[t,t2] o.type #[q.eval u,q.eval v]).run P w).andThen fun v w'=>.ok (.value v) w':=by
   simp [execOp,ho,resolve,hc,cV,aH,invoke,builtin]
  rw [bm,f1,f2,tL w t t2 o.type e i ht hi]
  rfl
 have go:∀ (n:Nat) (o:Oper),res P.toTables o.op=some (.copy sz a b)->cP P w0 n o (α.only (cb o)) S (.v (.int .i64 0)) S/\(∀ T,cP P w0 n o (α.only (cb o)) T (.v (.int .i64 0)) T)/\cP P w0 n o α S (.v (.int .i64 0)) S:=by
  intro n o hr
  obtain⟨c,t,t2,u,v,e,Up,ho,hc,cV,aH,rfl,rfl,ht,cR,hs⟩:=qJ hr
  rw [ay] at hx hy
  have e:∀ z ∈ [u,v],(α.only (cb o)).ev z=α.ev z:=fun z hz=>fm fun t ht=>eU (by rw [ho];simp only [Op.operands,Call.operands,aH,<-ht];simp at hz ⊢;rcases hz with rfl|rfl<;>simp)
  have hd:∀ c,o.op ≠ .defer c:=fun c e=>by rw [ho] at e;cases e
  exact⟨(key _ _ n o c t t2 u v _ ho hc cV aH ht hs (by rw [e u (by simp)];exact hx) (by rw [e v (by simp)];exact hy)).ops hd,fun T=>(key _ _ n o c t t2 u v _ ho hc cV aH ht hs (by rw [e u (by simp)];exact hx) (by rw [e v (by simp)];exact hy)).ops hd,(key _ _ n o c t t2 u v _ ho hc cV aH ht hs hx hy).ops hd⟩
 cases dr with
 |false=>exact fun n o hr=>(go n o hr).2.2
 |true=>exact fun n o hr=>⟨(go n o hr).1,fun _=>⟨rfl,(go n o hr).2.1⟩,fun _=>rfl⟩
theorem aa.SF {sz k off len fz:Nat}{cx:Option Nat}{a b:QO}{rows more:List (List AV)}{x:List AV}{ex:Bool}(hx:a.ev α.tm=.ob k sz off len cx) (hk:S.get k=some (.arr sz rows fz ex)) (hm:cu S (b.ev α.tm)=some (x::more)) (hle:(x::more).length<=len) (jB:off+len<=rows.length) (hf:fz<=off)
  (h3:∀ row ∈ x::more,row.length=sz/\row.all bp=true):aa P w0 false (.copy sz a b) α S (.v (.int .i64 (x::more).length)) (S.set k (some (.arr sz (rows.take off++(x::more)++rows.drop (off+(x::more).length)) fz ex))):=aa.run fun n o hr=>by
 obtain⟨c,t,t2,u,v,e,e2,ho,hc,cV,aH,rfl,rfl,ht,cR,hs⟩:=qJ hr
 rw [ay] at hx hm
 obtain⟨hm,hlen⟩:=bX hm
 have ht:=eA ht
 obtain⟨i,hi,a7⟩:=dy hs
 intro A g q w hS hA
 have g1:=hA.ev u
 have g2:=hA.ev v
 rw [hx] at g1
 obtain⟨cc,e1,aY,_,_,_,_⟩:=dx g1
 obtain⟨b2,q2,c2,news,e3,vj,dz⟩:=fR hS hm g2 (by simp) (fun r hr=>(h3 r hr).1) hlen
 obtain⟨k2,k3,cs,gT,p1,p2,p3,p4,p5,p6,p7⟩:=hS.bE k _ hk aY
 have FX:off*sz+(x::more).length*sz<=g.cp k*sz:=by rw [<-Nat.add_mul];exact Nat.mul_le_mul_right sz (by omega)
 have cy:off*sz+news.length<=cs.size:=by rw [dz.1,p2];omega
 have bm:=CI (P:=P) w t t2 o.type e gT i ht hi (g.ob k) (off*sz) len cc cs p1 ⟨b2,q2,none⟩ (x::more).length c2 news (by rw [dz.1,a7]) dz.2.1 (nz dz h3) hle cy
 obtain⟨hE,cz⟩:=hS.pB (p:=off) (more:=x::more) (news:=news) hk aY p1 (fun r hr=>(h3 r hr).1) dz.1 (fun i row j a hi ha=>dz.2.2 i row hi j a ha) (by omega) hf
 refine⟨_,_,g,.inl ?_,.v,cz,hE⟩
 have hx:(execOp q.eval o).run P w=((Builtin.copy_ #[t,t2] o.type #[q.eval u,q.eval v]).run P w).andThen fun v w'=>.ok (.value v) w':=by
  simp [execOp,ho,resolve,hc,cV,aH,invoke,builtin]
 rw [hx,e1,e3,bm]
 rfl
theorem mA {t e:TypeId}{l c:Operand}{z:Value}{sz by_:Nat}{ka kb:IntKind}{a b:Int}(ho:o.op=.makeSlice t l c) (ht:P.underlying t=some (.slice e)) (hz:bY P e=some z) (hs:bV P e=some sz) (eH:dk P e=some by_)
  (fe:z.cells.size=sz) (Pq:0 < sz) (hl:α.ev l=.v (.int ka a)) (hc:α.ev c=.v (.int kb b)) (h1:0<=a) (h0:a<=b) (h2:b*by_<=35184372088832) (h3:b<=9223372036854775807) :
  aC P w0 n o α S (.ob S.nx sz 0 a.toNat none) (S.new (.arr sz (List.replicate b.toNat (z.cells.toList.map aO)) 0 true)):=by
 intro A g q w hS hA
 obtain⟨i,hi,a7⟩:=dy hs
 have jy:i.zero=some z:=by unfold bY at hz;rw [hi] at hz;simpa using hz
 have pY:i.bytes=by_:=by unfold dk at eH;rw [hi] at eH;simpa using eH
 have eC:=hA.ev l
 have mc:=hA.ev c
 rw [hl] at eC
 rw [hc] at mc
 have eC:=a_ eC
 have mc:=a_ mc
 have bm:=run_make (P:=P) w t e i z ht hi jy ka kb a b h1 h0 (by rw [pY,Int.mul_comm];omega) h3
 have jn:∀ q,¬ g.fz w.heap.size q:=fun q hf=>absurd (hS.bM _ _ hf) (Nat.lt_irrefl _)
 obtain⟨hE,cz⟩:=hS.new (.cells (madeCells z.cells (b.toNat*i.size)) e) (.arr sz (List.replicate b.toNat (z.cells.toList.map aO)) 0 true) b.toNat (fun J=>by simp) (fun hL=>by
  refine⟨_,e,bZ,?_,by simp,fun _=>by simp,fun m row hr=>?_,Nat.zero_le _,fun q=>⟨fun h=>absurd h (jn q),fun h=>by simp at h⟩⟩
  ·rw [size_madeCells,a7]
  ·obtain⟨dD,rfl⟩:=List.getElem?_eq_some_iff.1 hr
   simp only [List.length_replicate] at dD
   simp only [List.getElem_replicate]
   refine⟨by simp [fe],fun j b' hj=>?_⟩
   simp only [List.getElem?_map,Option.map_eq_some_iff] at hj
   obtain⟨y,hy,rfl⟩:=hj
   have lW:j < sz:=by
    have:=(List.getElem?_eq_some_iff.1 hy).1
    simp at this
    omega
   refine⟨y,?_,eZ y⟩
   have au:m*sz+j < b.toNat*sz:=fD dD lW
   have dQ:j < z.cells.size:=by omega
   have e1:(m*sz+j) % z.cells.size=j:=by
    rw [fe,Nat.mul_comm,Nat.mul_add_mod]
    exact Nat.mod_eq_of_lt lW
   have e2:(madeCells z.cells (b.toNat*i.size))[m*sz+j]?=some (z.cells[(m*sz+j) % z.cells.size]!):=by
    unfold madeCells
    rw [Array.getElem?_map,Array.getElem?_range,if_pos (by rw [a7];exact au)]
    rfl
   rw [e2,e1,getElem!_pos z.cells j dQ,<-hy,Array.getElem?_toList,Array.getElem?_eq_getElem dQ])
 refine⟨.slice (some ⟨w.heap.size,0,none⟩) a.toNat b.toNat,_,_,.inl ?_,?_,cz,hE⟩
 ·simp only [execOp,ho,eC,mc,Sem.run_bind,bm]
  rfl
 ·have:=ao.ob (g:=g.new S.nx w.heap.size b.toNat) (w:=w.alloc (.cells (madeCells z.cells (b.toNat*i.size)) e)) (k:=S.nx) (sz:=sz) (off:=0) (len:=a.toNat) (c:=b.toNat) (cx:=none) (.inr rfl) (fun m h=>by cases h)
   (by rw [Nat.zero_add];exact Nat.le_of_eq (ah _ _ _).symm) (fun _=>by rw [Nat.zero_add];exact (ah _ _ _).symm) (by omega)
  rw [show (g.new S.nx w.heap.size b.toNat).ob S.nx=w.heap.size from ah _ _ _,Nat.zero_mul] at this
  exact this
theorem aa.Jm {z:List AV}{by_:Nat}{l c:QO}{k k':IntKind}{a b:Int}(h1:l.ev α.tm=.v (.int k a)) (h2:c.ev α.tm=.v (.int k' b)) (h3:0<=a) (h4:a<=b) (h5:b*by_<=35184372088832) (h6:b<=9223372036854775807) :
  aa P w0 false (.eB z by_ l c) α S (.ob S.nx z.length 0 a.toNat none) (S.new (.arr z.length (List.replicate b.toNat z) 0 true)):=aa.run fun n o hr=>by
 obtain⟨t,u,v,e,zv,sz,ho,rfl,rfl,e1,e2,e3,e4,rfl,e5,e6⟩:=sw hr
 have hz:(zv.cells.toList.map aO).length=sz:=by rw [<-Nat.eq_of_beq_eq_true e5];simp
 rw [ay] at h1 h2
 rw [hz]
 exact mA ho (eA e1) e2 e3 e4 (Nat.eq_of_beq_eq_true e5) (Nat.le_of_ble_eq_true e6) h1 h2 h3 h4 h5 h6
theorem aa.Jn {sz by_ k fz len:Nat}{ex:Bool}{a b:QO}{rows more:List (List AV)}{x:List AV}(h1:a.ev α.tm=.ob k sz 0 len none) (hk:S.get k=some (.arr sz rows fz ex)) (hm:cu S (b.ev α.tm)=some (x::more)) (h0:fz<=len) (h2:len+(x::more).length<=rows.length)
  (h3:∀ row ∈ x::more,row.length=sz/\row.all bp=true) :
  aa P w0 false (.append sz by_ a b) α S (.ob k sz 0 (len+(x::more).length) none) (S.set k (some (.arr sz (rows.take len++(x::more)++rows.drop (len+(x::more).length)) fz ex))):=aa.run fun n o hr=>by
 obtain⟨c,t,t2,u,v,e,e2,z,ho,hc,cV,aH,rfl,rfl,ht,cR,hz,hs,eH,fe,Gr⟩:=gw hr
 rw [ay] at h1 hm
 obtain⟨hm,hlen⟩:=bX hm
 have cV:c.argTypes=#[t,t2]:=by rw [<-Array.toArray_toList (xs:=c.argTypes),cV]
 have aH:c.args=#[u,v]:=by rw [<-Array.toArray_toList (xs:=c.args),aH]
 have ht:=eA ht
 have cR:=eA cR
 intro A g q w hS hA
 have g1:=hA.ev u
 have g2:=hA.ev v
 rw [h1] at g1
 obtain⟨cc,e1,aY,gU,lB,CJ,hle⟩:=dx g1
 obtain⟨b2,q2,c2,news,e3,vj,dz⟩:=fR hS hm g2 (by simp) (fun r hr=>(h3 r hr).1) hlen
 obtain⟨k2,k3,cs,gT,p1,p2,p3,p4,p5,p6,p7⟩:=hS.bE k _ hk aY
 obtain⟨i,hi,a7⟩:=dy hs
 have D6:=CJ rfl
 have iE:len+(x::more).length<=cc:=by omega
 have FX:len*sz+(x::more).length*sz<=g.cp k*sz:=by rw [<-Nat.add_mul];exact Nat.mul_le_mul_right sz (by omega)
 have cy:0+len*i.size+news.length<=cs.size:=by rw [dz.1,p2,a7];omega
 have bm:=iL (P:=P) w t o.type e gT i ht hi (g.ob k) 0 len cc cs p1 ⟨b2,q2,none⟩ (x::more).length c2 news (by rw [dz.1,a7]) dz.2.1 (nz dz h3) iE cy
 simp only [Nat.zero_add,a7] at bm cy
 obtain⟨hE,cz⟩:=hS.pB (p:=len) (more:=x::more) (news:=news) hk aY p1 (fun r hr=>(h3 r hr).1) dz.1 (fun i row j a hi ha=>dz.2.2 i row hi j a ha) h2 h0
 refine⟨.slice (some ⟨g.ob k,0,none⟩) (len+(x::more).length) cc,_,g,.inl ?_,?_,cz,hE⟩
 ·have hx:(execOp q.eval o).run P w=((Builtin.append_ #[t,t2] o.type #[q.eval u,q.eval v]).run P w).andThen fun v w'=>.ok (.value v) w':=by
   simp [execOp,ho,resolve,hc,cV,aH,invoke,builtin]
  rw [hx,e1,e3,gV ht cR,Nat.zero_mul,bm]
  rfl
 ·have:=ao.ob (g:=g) (w:=w.setRow (g.ob k) (cs.toList.take (len*sz)++news++cs.toList.drop (len*sz+news.length)).toArray) (k:=k) (sz:=sz) (off:=0) (len:=len+(x::more).length) (c:=cc) (cx:=none) aY (fun m h=>by cases h) lB CJ iE
  rw [Nat.zero_mul] at this
  exact this
end
end Go.Proofs.YtbofilglphfceaaGreat
