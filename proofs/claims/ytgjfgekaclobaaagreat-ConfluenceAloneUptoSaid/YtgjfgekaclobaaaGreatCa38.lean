import Derived.Test.YtgjfgekaclobaaaGreatCa37
namespace Go.Proofs.YtgjfgekaclobaaaGreat
set_option linter.unusedVariables false
set_option linter.unusedSimpArgs false
open Go.RowKit
theorem C6 {G H:Nat->Option Ob}{k:Nat}:∀ {W:List (Nat × Option Ob)},k ∈ W.map (·.1)->dw G W k=dw H W k
 |[],h=>by cases h
 |p::W,h=>by
  by_cases e:k=p.1
  ·subst e;rw [dw,dw,aq,aq]
  ·rw [dw,dw,aC _ _ e,aC _ _ e]
   exact C6 ((List.mem_cons.1 h).resolve_left e)
theorem ir.sub {ι:Nat->Nat}{M:Nat}{T T':ad}(h:∀ k o,T.get k=some o->k < T.nx->T'.get k=some o) (hM:∀ j,j < M->ι j < T.nx):∀ {l:List (Nat × Ob)},l.all (fun p=>Nat.blt p.1 M)=true->ir ι M T l->ir ι M T' l
 |[],_,_=>trivial
 |p::l,hk,hc=>by
  rw [List.all_cons,Bool.and_eq_true] at hk
  obtain⟨bW,h1,h2⟩:=hc.1
  exact⟨⟨bW,h _ _ h1 (hM _ (dC hk.1)),h2⟩,ir.sub h hM hk.2 hc.2⟩
section
variable {P:Program}{w0:World}{N N' B n:Nat}{so so':List (Nat × Ob)}{S T:ad}{α:AA}{f:FuncId}{args bG:List AV}{r gw:AV}{m:List (Nat × Nat)}{to:List (Nat × Option Ob)}
theorem aK.U_ (h:aK P w0 f args (au so N) r (au so' N')) (ha:qA (aN m) N bG args) (hr:Rb (cV (aN m) N T.nx) r gw) (hi:qf (aN m) (List.range N)=true) (aA:(List.range N).all (fun j=>Nat.blt (aN m j) T.nx)=true) (hS:ir (aN m) N T so) (hk:so.all (fun p=>Nat.blt p.1 N)=true)
  (hT:gk (cV (aN m) N T.nx) so' to) (hc:(List.range N).all (fun j=>(to.map (·.1)).contains (aN m j))=true) (dv:(List.range N').all (fun j=>(to.map (·.1)).contains (T.nx+j))=true) (hf:tz so'=true) {e:Nat}(he:N'<=e):aK P w0 f bG T gw ⟨dw T.get to,T.nx+e⟩:=by
 obtain⟨T',rV⟩:∃ T':ad,T'=⟨fun k=>if k < T.nx then T.get k else none,T.nx⟩:=⟨_,rfl⟩
 have get':∀ k o,T'.get k=some o->k < T.nx/\T.get k=some o:=fun k o hk=>by
  rw [rV] at hk
  have hk:(if k < T.nx then T.get k else none)=some o:=hk
  split at hk
  ·exact⟨by assumption,hk⟩
  ·cases hk
 have mV:T'.nx=T.nx:=by rw [rV]
 have ql:∀ k o,T.get k=some o->k < T.nx->T'.get k=some o:=fun k o h hk=>by
  rw [rV]
  show (if k < T.nx then T.get k else none)=some o
  rw [if_pos hk];exact h
 rw [<-mV] at hr aA hT
 have hM:∀ j,j < N->aN m j < T.nx:=fun j hj=>by
  have:=dC (List.all_eq_true.1 aA j (List.mem_range.2 hj))
  rwa [mV] at this
 have hF:=IB (N':=N') hi aA (hS.sub ql hM hk) hT hc (by simp) (fun k o hk=>by rw [mV];exact (get' k o hk).1) (.inr hf)
 have bC:=h.frame hF ha.at.1 (fun i a b h1 h2=>by
  obtain⟨a',h3,h4⟩:=ha.at.2 i b h2
  rw [h3] at h1
  rw [<-oJ_ h1];exact h4) hr
 refine⟨bC.1,fun F m' A g aQ w hF hS hA=>(bC.2 F m' A g aQ w hF (hS.forget (by rw [mV];exact Nat.le_refl _) fun j p hj _=>(get' j p hj).2) hA).mono ?_⟩
 rintro e' w' ⟨v,g',rfl,h1,h2,h3⟩
 refine⟨v,g',rfl,h1,h2.forget (by show T'.nx+N'<=T.nx+e;omega) fun j p hj aO=>?_,h3⟩
 have z7:j < T'.nx+N':=h2.al j aO
 have hj:dw T.get to j=some p:=hj
 show dw T'.get to j=some p
 by_cases l4:j ∈ to.map (·.1)
 ·rw [C6 (H:=T.get) l4];exact hj
 ·rw [gR l4] at hj ⊢
  refine ql j p hj ?_
  by_cases h5:j < T.nx
  ·exact h5
  ·exfalso
   refine l4 ?_
   have:=List.all_eq_true.1 dv (j - T.nx) (List.mem_range.2 (by omega))
   rw [show T.nx+(j - T.nx)=j by omega] at this
   simpa using this
theorem ae.oK {fq:QO}{fe:List QO}(m:List (Nat × Nat)) (to:List (Nat × Option Ob)) (bC:aK P w0 f args (au so N) r (au so' N')) (h:dM (fq.ev α.tm) (fe.map (·.ev α.tm))=some (f,bG)) (ha:qA (aN m) N bG args) (hr:Rb (cV (aN m) N T.nx) r gw) (hS:ir (aN m) N T so) (hT:gk (cV (aN m) N T.nx) so' to)
  (hi:qf (aN m) (List.range N)=true:=by rfl) (aA:(List.range N).all (fun j=>Nat.blt (aN m j) T.nx)=true:=by rfl) (hk:so.all (fun p=>Nat.blt p.1 N)=true:=by rfl) (hc:(List.range N).all (fun j=>(to.map (·.1)).contains (aN m j))=true:=by rfl) (dv:(List.range N').all (fun j=>(to.map (·.1)).contains (T.nx+j))=true:=by rfl) (hf:tz so'=true:=by rfl) :
  ae P w0 false (.call fq fe) α T gw ⟨dw T.get to,T.nx+N'⟩:=ae.call h (bC.U_ ha hr hi aA hS hk hT hc dv hf (Nat.le_refl _)) fun e=>by cases e
theorem bc.oK {fq:QO}{fe:List QO}(m:List (Nat × Nat)) (F:List (Nat × Ob)) (to:List (Nat × Option Ob)) (bC:aK P w0 f args (au so N) r (au so' N')) (h:dM (fq.ev α.tm) (fe.map (·.ev α.tm))=some (f,bG)) (ha:qA (aN m) N bG args) (hr:Rb (cV (aN m) N S.nx) r gw) (hF:fu S F) (hS:∀ T,fu T F->ir (aN m) N T so) (hT:gk (cV (aN m) N S.nx) so' to)
  (hi:qf (aN m) (List.range N)=true:=by rfl) (aA:(List.range N).all (fun j=>Nat.blt (aN m j) S.nx)=true:=by rfl) (hk:so.all (fun p=>Nat.blt p.1 N)=true:=by rfl) (hc:(List.range N).all (fun j=>(to.map (·.1)).contains (aN m j))=true:=by rfl) (dv:(List.range N').all (fun j=>(to.map (·.1)).contains (S.nx+j))=true:=by rfl) (hf:tz so'=true:=by rfl) (he:Nat.ble N' (AE to true)=true:=by rfl) :
  bc P w0 B (.call fq fe) α S gw ⟨F,to,true⟩:=by
 intro n o eK
 obtain⟨c,u,ho,hu,FY,has⟩:=jP eK
 refine⟨fun hp=>(by rw [ho] at hp;simp only [nO,lX,hu] at hp;cases hp),hF,fun T hB Va hm=>?_⟩
 have e:T.nx=S.nx:=hm rfl
 have eo:∀ q ∈ (.call c:Op).operands,(α.only (cB o)).ev q=α.ev q:=fun q hq=>ew fun t ht=>ee (by rw [ho,<-ht];exact hq)
 have h':dM (fq.ev (α.only (cB o)).tm) (fe.map (·.ev (α.only (cB o)).tm))=some (f,bG):=by
  rw [<-h,FY,has,aJ,aJ,ij,ij,eo u (show u ∈ c.operands by simp [Call.operands,hu])]
  congr 1
  exact List.map_congr_left fun q hq=>eo q (show q ∈ c.operands by simp [Call.operands,hu];exact .inr (by simpa using hq))
 rw [<-e] at hr hT aA dv
 rw [dI]
 exact (ae.call (dr:=false) h' (bC.U_ ha hr hi aA (hS T Va) hk hT hc dv hf (Nat.le_of_ble_eq_true he)) (fun e=>by cases e)) n o eK
end
section
variable {P:Program}{w0:World}{rd:Bool}{n:Nat}{Q:Exit->AA->ad->Prop}{α:AA}{S:ad}{l:List QI}{K:List fc}{T:Type}{ρ:Hd}{f:T->AV}{kv:List (Int × T)}
theorem ae.GJ {z:AV}{c:Bool}{x i:QO}{k:Nat}{es:List (Value × AV)}{m:Int}(hx:x.ev α.tm=.mp k) (hS:S.get k=some (.mb es)) (hk:kN es) (hi:i.ev α.tm=.v (.int .i64 m)) :
  ae P w0 true (.look z c x i) α S (match nA es m with|some a=>(if c then .aE [a,.v (.bool true)] else a)|none=>(if c then .aE [z,.v (.bool false)] else z)) S:=by
 intro n o hr
 obtain⟨t,u,v,kt,et,kk,zv,ho,rfl,rfl,h1,h2,h3,rfl⟩:=Aa hr
 rw [aJ] at hx hi
 have e:∀ y ∈ [u,v],(α.only (cB o)).ev y=α.ev y:=fun y hy=>ew fun t ht=>ee (by rw [ho];simp [Op.operands,<-ht];simpa using hy)
 refine⟨(xq ho h1 h2 h3 (by rw [e u (by simp)];exact hx) (fun A g w cQ aO=>?_) hk (by rw [e v (by simp)];exact hi)).ops fun c e=>(by rw [ho] at e;cases e),fun hp=>(by rw [ho] at hp;cases hp),fun _=>rfl⟩
 obtain⟨_,_,entries,q1,q2,q3,_⟩:=cQ.bR k _ hS aO
 exact⟨entries,_,q1,q2,q3⟩
theorem aa.GJ {d:Option Nat}{g:Option (Nat × Bool)}{z:AV}{c:Bool}{x i:QO}{k:Nat}{m:Int}(hw:bD α.tm g=some true) (hx:x.ev α.tm=.mp k) (hS:S.get k=some (.mb (ρ.h (cX f) kv))) (hi:i.ev α.tm=.v (.int .i64 m))
  (k1:∀ v,aD kv m=some v->aa P w0 rd n Q (.aU true l K) (bS d α (if c then .aE [f v,.v (.bool true)] else f v)) S) (k2:aD kv m=none->aa P w0 rd n Q (.aU true l K) (bS d α (if c then .aE [z,.v (.bool false)] else z)) S) :
  aa P w0 rd n Q (.aU true (⟨d,g,.look z c x i⟩::l) K) α S:=by
 have h:=ae.GJ (P:=P) (w0:=w0) (z:=z) (c:=c) hx hS (by rw [ρ.eq];exact nV) hi
 rw [ρ.eq,sN] at h
 refine aa.op (i:=⟨d,g,.look z c x i⟩) hw h ?_
 cases hl:aD kv m with
 |some v=>exact k1 v hl
 |none=>exact k2 hl
end
section
variable {ι:Nat->Nat}{M:Nat}
theorem jY.mb {es:List (Value × AV)}(h:∀ e ∈ es,Pure e.2):jY ι M (.mb es) (.mb es):=by
 refine⟨fun g w b cp hr=>?_,fun J h=>by cases h⟩
 obtain⟨entries,h1,h2,h3,h4⟩:=hr
 refine⟨entries,h1,h2,fun i k a ha=>?_,h4⟩
 obtain⟨e,he,hk,hr⟩:=h3 i k a ha
 exact⟨e,he,hk,Rn.pure (h _ (List.mem_of_getElem? ha)) g w _ hr⟩
theorem kE.mb {es:List (Value × AV)}(h:∀ e ∈ es,Pure e.2):kE ι (.mb es) (.mb es):=by
 refine⟨fun gc g w b cp hB _ hr=>?_,fun J h=>by cases h⟩
 obtain⟨entries,h1,h2,h3,h4⟩:=hr
 refine⟨entries,h1,h2,fun i k a ha=>?_,h4⟩
 obtain⟨e,he,hk,hr⟩:=h3 i k a ha
 exact⟨e,he,hk,Rb.pure (h _ (List.mem_of_getElem? ha)) gc g w _ hB hr⟩
end
section
variable {P:Program}{w0:World}{rd:Bool}{n:Nat}{Q:Exit->AA->ad->Prop}{α:AA}{S:ad}{l:List QI}{K:List fc}{T:Type}{ρ:Hd}{f:T->List AV}{acc:List T}
theorem ae.aea {sz by_ t k len:Nat}{ex ex':Bool}{b:QO}{rows more:List (List AV)}{x:List AV}(ha:α.tm t=.gr k sz len) (hk:S.get k=some (.arr sz rows 0 ex)) (hn:len=rows.length) (ku:∀ c,b.ev (a8 α.tm t c)=b.ev α.tm) (hb:b.ev α.tm=.sl ex' (x::more))
  (h3:∀ row ∈ x::more,row.length=sz/\row.all bQ=true) (h4:(len+(x::more).length)*by_<=35184372088832):ae P w0 true (.append sz by_ (.t t) b) α S (.gr S.nx sz (len+(x::more).length)) ((S.set k none).new (.arr sz (rows++x::more) 0 false)):=by
 intro n o hr
 obtain⟨h5,h6,h7⟩:=bc.Cw (P:=P) (w0:=w0) (B:=0) ha hk hn ku hb h3 h4 n o hr
 have h8:=h7 S (Nat.zero_le _) h6 (fun _=>rfl)
 rw [dI] at h8
 obtain⟨c,t2,t3,u,v,e,e2,z,ho,hc,_⟩:=lC hr
 exact⟨h8,fun hp=>(by rw [pj hr] at hp;cases hp),fun hw=>(by rw [ho] at hw;simp only [wv,hc] at hw;cases hw)⟩
theorem aa.aa2 {dd:Option Nat}{gg:Option (Nat × Bool)}{t:Nat}{b:QO}{sz by_ k len:Nat}{ex ex':Bool}(x:T) (hw:bD α.tm gg=some true) (h1:α.tm t=.gr k sz len) (hk:S.get k=some (.arr sz (ρ.h (List.map f) acc) 0 ex)) (hn:len=acc.length) (ku:∀ c,b.ev (a8 α.tm t c)=b.ev α.tm)
  (hb:b.ev α.tm=.sl ex' [f x]) (hl:(f x).length=sz) (hc:(f x).all bQ=true) (hy:(len+1)*by_<=35184372088832)
  (kk:∀ dE eU,dE=acc++[x]->eU=dE.length->aa P w0 rd n Q (.aU true l K) (bS dd α (.gr S.nx sz eU)) ((S.set k none).new (.arr sz (ρ.h (List.map f) dE) 0 false))):aa P w0 rd n Q (.aU true (⟨dd,gg,.append sz by_ (.t t) b⟩::l) K) α S:=by
 have hlen:(ρ.h (List.map f) acc).length=acc.length:=aF
 have h:=kk _ _ rfl rfl
 have e:ρ.h (List.map f) acc++[f x]=ρ.h (List.map f) (acc++[x]):=by rw [ρ.eq,ρ.eq,List.map_append];rfl
 rw [<-e,show (acc++[x]).length=len+[f x].length by simp;omega] at h
 exact aa.op (i:=⟨dd,gg,.append sz by_ (.t t) b⟩) hw (ae.aea (x:=f x) (more:=[]) h1 hk (by omega) ku hb (fun row hr=>by obtain rfl:=List.mem_singleton.1 hr;exact⟨hl,hc⟩) (by simpa using hy)) h
end
section
set_option maxRecDepth 100000
attribute [local irreducible] ah aK ae aa
def Vb:CF Tryz.f370:=⟨_,by conv=>lhs;cbv⟩
theorem aeb:aT Tryz.prog 370 Vb.1 Tryz.f370.ntmps:=bX Tryz.func370 Vb.2 Tryz.call370
def GK:List Nat:=[7,8,0,6,1,2]
def Vc:CF Tryz.f371:=⟨_,by conv=>lhs;cbv⟩
theorem aec:aT Tryz.prog 371 Vc.1 Tryz.f371.ntmps:=bX Tryz.func371 Vc.2 Tryz.call371
def fj:List Nat:=[0,1,2,10,7,30,9,41,6,11,57,13,12,73]
section
variable {w0:World}{ρ:Hd}
theorem Yt {s:PS}{kn:KN}{i k:Nat}{t t':Tm}{l l':List Nat}(hi:s.N[i]?=some (t,l)) (hk:s.N[k]?=some (t',l')) (h1:t.n.size<=1099511627776) (h2:t'.n.size<=1099511627776) (h3:t.a.length<=1099511627776) (h4:t'.a.length<=1099511627776) :
  aK Tryz.prog w0 370 [.pt 0 6 0 0,iv i,iv k] (au (gS ρ s kn) 7) (.v (.bool (ox t t'))) (au (gS ρ s kn) 7):=by
 obtain⟨N,vs,up,sh,ls⟩:=s
 dsimp only at hi hk
 have lQ:=(List.getElem?_eq_some_iff.1 hi).1
 have dN:=(List.getElem?_eq_some_iff.1 hk).1
 have kW:=fU (ρ:=ρ) (f:=qD ρ) hi
 have eh:=fU (ρ:=ρ) (f:=qD ρ) hk
 obtain⟨k1,k2,k3,k4⟩:=t
 obtain⟨j1,j2,j3,j4⟩:=t'
 simp only [qD] at kW eh
 obtain⟨R,hR⟩:∃ R,R=ox ⟨k1,k2,k3,k4⟩ ⟨j1,j2,j3,j4⟩:=⟨_,rfl⟩
 rw [<-hR]
 have hRt:R=true ↔ k1=j1/\k2=j2/\k3.toList=j3.toList/\(k4.length:Int)=j4.length:=by
  rw [hR];unfold ox
  simp only [Bool.and_eq_true,beq_iff_eq,decide_eq_true_eq,and_assoc]
  exact and_congr Iff.rfl (and_congr Iff.rfl (and_congr Iff.rfl (by omega)))
 clear hR
 obtain⟨ul,nR⟩:∃ ul,ul=up.length:=⟨_,rfl⟩
 obtain⟨nl,eF⟩:∃ nl,nl=N.length:=⟨_,rfl⟩
 rw [<-eF] at lQ dN
 simp only [gS,<-nR,<-eF]
 refine aT.fM 7 7 _ aeb (by simp [Tryz.ntmps370]) rfl rfl ?_
 refine gq GK ?_
 refine aa.gm rfl (fun T=>ae.jU rfl rfl rfl lQ) ?_
 refine aa.gm rfl (fun T=>ae.quiet rfl) ?_
 refine aa.lP rfl (bc.oX rfl rfl kW rfl) ?_
 refine gq GK ?_
 refine aa.gm rfl (fun T=>ae.jU rfl rfl rfl dN) ?_
 refine aa.gm rfl (fun T=>ae.quiet rfl) ?_
 refine aa.lP rfl (bc.oX rfl rfl eh rfl) ?_
 refine gq GK ?_
 repeat' (first
  |(refine bq (fun hb=>?_) (fun hb=>?_)<;>(try simp only [aM] at hb)<;>(first|refine gq GK ?_))
  |(refine bL fun m hm=>?_;(try rw [aF] at hm);refine gq GK ?_)
  |(refine fq ?_))
 all_goals first
  |(have e:R=true:=hRt.2 ⟨by assumption,by assumption,by assumption,by omega⟩
    rw [e]
    exact⟨[],.aB .v,gC,rfl⟩)
  |(have e:R=false:=by
      rw [Bool.eq_false_iff]
      intro h
      obtain⟨a,b,c,d⟩:=hRt.1 h
      first|exact hb a|exact hb b|exact hb c|omega
    rw [e]
    exact⟨[],.aB .v,gC,rfl⟩)
theorem Yu {s:PS}{kn:KN}{a b:Nat}(hb:b < s.js.up.length) :
  aK Tryz.prog w0 371 [.pt 0 6 0 0,iv a,iv b] (au (gS ρ s kn) 7) (.aE []) (au (gS ρ ⟨s.N,s.vs,⟨s.js.up.set b a,jg s.js.sh a b,iL s.js.ls a b⟩⟩ kn) 7):=by
 obtain⟨N,vs,up,sh,ls⟩:=s
 dsimp only at hb
 obtain⟨SH,pW⟩:∃ SH,SH=jg sh a b:=⟨_,rfl⟩
 obtain⟨LS,ff⟩:∃ LS,LS=iL ls a b:=⟨_,rfl⟩
 obtain⟨ul,nR⟩:∃ ul,ul=up.length:=⟨_,rfl⟩
 obtain⟨nl,eF⟩:∃ nl,nl=N.length:=⟨_,rfl⟩
 have eg:b < ul:=by omega
 simp only [gS,List.length_set,<-nR,<-eF,<-pW,<-ff]
 unfold jg at pW
 unfold iL at ff
 obtain⟨ai,l7⟩:∃ ai:Int,ai=a:=⟨_,rfl⟩
 obtain⟨bi,hbi⟩:∃ bi:Int,bi=b:=⟨_,rfl⟩
 rw [<-l7,<-hbi] at pW ff ⊢
 refine aT.fM 7 7 _ aec (by simp [Tryz.ntmps371]) rfl rfl ?_
 refine gq fj ?_
 refine aa.op rfl (ae.jU rfl rfl hbi eg) ?_
 refine aa.Kx (f:=iG) (y:=a) rfl rfl rfl (by rw [iG,<-l7];rfl) rfl (fun _=>rfl) rfl hb (fun u hu=>?_)
 rw [<-hu]
 clear l7 hbi nR eF hu hb eg
 refine gq fj ?_
 refine aa.look (ρ:=ρ) (f:=iv) (kv:=sh) rfl rfl rfl rfl (fun k hk=>?_) (fun hk=>?_)
 ·rw [hk] at pW
  refine gq fj ?_
  refine aa.look (ρ:=ρ) (f:=iv) (kv:=sh) rfl rfl rfl rfl (fun i hi=>?_) (fun hi=>?_)
  ·rw [hi] at pW
   refine gq fj ?_
   simp only at pW
   obtain rfl:=pW
   refine aa.oC (ρ:=ρ) (f:=iv) (kv:=ls) rfl rfl rfl rfl (fun v hv=>?_) (fun hv=>?_)<;>rw [hv] at ff<;>simp only at ff
   ·refine gq fj ?_
    refine aa.oC (ρ:=ρ) (f:=iv) (kv:=ls) rfl rfl rfl rfl (fun w hw=>?_) (fun hw=>?_)<;>rw [hw] at ff<;>simp only at ff
    ·refine gq fj ?_
     refine bq (fun hb=>?_) (fun hb=>?_)<;>(try simp only [aM] at hb)
     ·rw [if_pos hb] at ff
      refine gq fj ?_
      refine aa.sY (ρ:=ρ) (f:=iv) (kv:=ls) (v:=v) rfl rfl rfl rfl rfl (fun kv lx=>?_)
      rw [<-lx] at ff
      obtain rfl:=ff
      refine gq fj ?_
      refine fq ?_
      exact⟨[],.aB (.aE fun _ h=>by cases h),gC,rfl⟩
     ·rw [if_neg hb] at ff
      obtain rfl:=ff
      refine gq fj ?_
      refine fq ?_
      exact⟨[],.aB (.aE fun _ h=>by cases h),gC,rfl⟩
    ·refine gq fj ?_
     refine aa.sY (ρ:=ρ) (f:=iv) (kv:=ls) (v:=v) rfl rfl rfl rfl rfl (fun kv lx=>?_)
     rw [<-lx] at ff
     obtain rfl:=ff
     refine gq fj ?_
     refine fq ?_
     exact⟨[],.aB (.aE fun _ h=>by cases h),gC,rfl⟩
   ·obtain rfl:=ff
    refine gq fj ?_
    refine fq ?_
    exact⟨[],.aB (.aE fun _ h=>by cases h),gC,rfl⟩
  ·rw [hi] at pW
   refine gq fj ?_
   refine aa.jf (ρ:=ρ) (f:=iv) (kv:=sh) (v:=k) rfl rfl rfl rfl rfl (fun kv lx=>?_)
   simp only at pW
   rw [<-lx] at pW
   obtain rfl:=pW
   refine gq fj ?_
   refine aa.oC (ρ:=ρ) (f:=iv) (kv:=ls) rfl rfl rfl rfl (fun v hv=>?_) (fun hv=>?_)<;>rw [hv] at ff<;>simp only at ff
   ·refine gq fj ?_
    refine aa.oC (ρ:=ρ) (f:=iv) (kv:=ls) rfl rfl rfl rfl (fun w hw=>?_) (fun hw=>?_)<;>rw [hw] at ff<;>simp only at ff
    ·refine gq fj ?_
     refine bq (fun hb=>?_) (fun hb=>?_)<;>(try simp only [aM] at hb)
     ·rw [if_pos hb] at ff
      refine gq fj ?_
      refine aa.sY (ρ:=ρ) (f:=iv) (kv:=ls) (v:=v) rfl rfl rfl rfl rfl (fun kv lx=>?_)
      rw [<-lx] at ff
      obtain rfl:=ff
      refine gq fj ?_
      refine fq ?_
      exact⟨[],.aB (.aE fun _ h=>by cases h),gC,rfl⟩
     ·rw [if_neg hb] at ff
      obtain rfl:=ff
      refine gq fj ?_
      refine fq ?_
      exact⟨[],.aB (.aE fun _ h=>by cases h),gC,rfl⟩
    ·refine gq fj ?_
     refine aa.sY (ρ:=ρ) (f:=iv) (kv:=ls) (v:=v) rfl rfl rfl rfl rfl (fun kv lx=>?_)
     rw [<-lx] at ff
     obtain rfl:=ff
     refine gq fj ?_
     refine fq ?_
     exact⟨[],.aB (.aE fun _ h=>by cases h),gC,rfl⟩
   ·obtain rfl:=ff
    refine gq fj ?_
    refine fq ?_
    exact⟨[],.aB (.aE fun _ h=>by cases h),gC,rfl⟩
 ·rw [hk] at pW
  refine gq fj ?_
  simp only at pW
  obtain rfl:=pW
  refine aa.oC (ρ:=ρ) (f:=iv) (kv:=ls) rfl rfl rfl rfl (fun v hv=>?_) (fun hv=>?_)<;>rw [hv] at ff<;>simp only at ff
  ·refine gq fj ?_
   refine aa.oC (ρ:=ρ) (f:=iv) (kv:=ls) rfl rfl rfl rfl (fun w hw=>?_) (fun hw=>?_)<;>rw [hw] at ff<;>simp only at ff
   ·refine gq fj ?_
    refine bq (fun hb=>?_) (fun hb=>?_)<;>(try simp only [aM] at hb)
    ·rw [if_pos hb] at ff
     refine gq fj ?_
     refine aa.sY (ρ:=ρ) (f:=iv) (kv:=ls) (v:=v) rfl rfl rfl rfl rfl (fun kv lx=>?_)
     rw [<-lx] at ff
     obtain rfl:=ff
     refine gq fj ?_
     refine fq ?_
     exact⟨[],.aB (.aE fun _ h=>by cases h),gC,rfl⟩
    ·rw [if_neg hb] at ff
     obtain rfl:=ff
     refine gq fj ?_
     refine fq ?_
     exact⟨[],.aB (.aE fun _ h=>by cases h),gC,rfl⟩
   ·refine gq fj ?_
    refine aa.sY (ρ:=ρ) (f:=iv) (kv:=ls) (v:=v) rfl rfl rfl rfl rfl (fun kv lx=>?_)
    rw [<-lx] at ff
    obtain rfl:=ff
    refine gq fj ?_
    refine fq ?_
    exact⟨[],.aB (.aE fun _ h=>by cases h),gC,rfl⟩
  ·obtain rfl:=ff
   refine gq fj ?_
   refine fq ?_
   exact⟨[],.aB (.aE fun _ h=>by cases h),gC,rfl⟩
end
end
section
set_option maxRecDepth 100000
attribute [local irreducible] ah aK ae aa
def Vd:CF Tryz.f338:=⟨_,by conv=>lhs;cbv⟩
theorem aed:aT Tryz.prog 338 Vd.1 Tryz.f338.ntmps:=bX Tryz.func338 Vd.2 Tryz.call338
def dX:List Nat:=[0,1,76,5,6,7,8,10,4,16,39,9,11,61,66,75,77,74,13,12]
def px (p:Nat × Nat):List AV:=[iv p.1,iv p.2]
def xW (ρ:Hd) (ps:List (Nat × Nat)):Ob:=.arr 2 (ρ.h (List.map px) ps) 0 false
theorem Jd {ρ:Hd}{B:Nat}(ps:List (Nat × Nat)):fV B (xW ρ ps):=by
 show ∀ row ∈ ρ.h (List.map px) ps,∀ a ∈ row,dg B a
 rw [ρ.eq]
 intro row hr a ha
 obtain⟨x,_,rfl⟩:=List.mem_map.1 hr
 simp only [px,List.mem_cons,List.not_mem_nil,or_false] at ha
 rcases ha with rfl|rfl<;>exact .v
def gX (ρ:Hd) (nl ul:Nat) (N:bj) (vs:List (Int × Int)) (up:List Nat) (sh ls:List (Int × Int)) (kn:KN):List (Nat × Ob):=[(0,gO nl ul),(1,dO ρ N),(2,bB ρ vs),(3,dP ρ up),(4,dQ ρ sh),(5,bB ρ ls),(6,dR ρ kn)]
theorem fQ {ρ:Hd}{nl ul:Nat}{N:bj}{vs:List (Int × Int)}{up:List Nat}{sh ls:List (Int × Int)}{kn:KN}(eF:nl=N.length) (lz:up.length=ul):gX ρ nl ul N vs up sh ls kn=gS ρ ⟨N,vs,⟨up,sh,ls⟩⟩ kn:=by subst eF;subst lz;rfl
theorem cL {ρ:Hd}{nl ul:Nat}{N:bj}{vs:List (Int × Int)}{up:List Nat}{sh ls:List (Int × Int)}{kn:KN}{B:Nat}(h:6 < B):xU (gX ρ nl ul N vs up sh ls kn) B:=⟨fun j o hj=>by
 unfold gX at hj
 have:=eO hj
 simp only [List.mem_cons,pI_,List.not_mem_nil,or_false] at this
 rcases this with ⟨rfl,rfl⟩|⟨rfl,rfl⟩|⟨rfl,rfl⟩|⟨rfl,rfl⟩|⟨rfl,rfl⟩|⟨rfl,rfl⟩|⟨rfl,rfl⟩
 ·exact⟨by omega,nr h,fun J=>by simp [gO]⟩
 ·exact⟨by omega,i_ _,fun J=>by simp [dO]⟩
 ·exact⟨by omega,cR _,fun J=>by simp [bB]⟩
 ·exact⟨by omega,iu _,fun J=>by simp [dP]⟩
 ·exact⟨by omega,iw _,fun J=>by simp [dQ]⟩
 ·exact⟨by omega,cR _,fun J=>by simp [bB]⟩
 ·exact⟨by omega,iy _,fun J=>by simp [dR]⟩⟩
theorem C7 {ρ:Hd}{nl ul:Nat}{N:bj}{vs:List (Int × Int)}{up:List Nat}{sh ls:List (Int × Int)}{kn:KN}:∀ p ∈ gX ρ nl ul N vs up sh ls kn,dF (gX ρ nl ul N vs up sh ls kn) p.1=some p.2:=by
 intro p hp
 unfold gX at hp ⊢
 simp only [List.mem_cons,List.not_mem_nil,or_false] at hp
 rcases hp with rfl|rfl|rfl|rfl|rfl|rfl|rfl<;>rfl
theorem BS {ρ:Hd}{nl ul:Nat}{N:bj}{vs:List (Int × Int)}{up:List Nat}{sh ls:List (Int × Int)}{kn:KN}{T:ad}(h0:T.get 0=some (gO nl ul):=by rfl) (h1:T.get 1=some (dO ρ N):=by rfl) (h2:T.get 2=some (bB ρ vs):=by rfl) (h3:T.get 3=some (dP ρ up):=by rfl) (h4:T.get 4=some (dQ ρ sh):=by rfl) (h5:T.get 5=some (bB ρ ls):=by rfl) (h6:T.get 6=some (dR ρ kn):=by rfl):fu T (gX ρ nl ul N vs up sh ls kn):=by
 intro p hp
 unfold gX at hp
 simp only [List.mem_cons,List.not_mem_nil,or_false] at hp
 rcases hp with rfl|rfl|rfl|rfl|rfl|rfl|rfl<;>assumption
theorem lA {ρ:Hd}{nl ul:Nat}{N:bj}{vs:List (Int × Int)}{up:List Nat}{sh ls:List (Int × Int)}{kn:KN}{T:ad}(h0:T.get 0=some (gO nl ul):=by rfl) (h1:T.get 1=some (dO ρ N):=by rfl) (h2:T.get 2=some (bB ρ vs):=by rfl) (h3:T.get 3=some (dP ρ up):=by rfl) (h4:T.get 4=some (dQ ρ sh):=by rfl) (h5:T.get 5=some (bB ρ ls):=by rfl) (h6:T.get 6=some (dR ρ kn):=by rfl):∀ j o,dF (gX ρ nl ul N vs up sh ls kn) j=some o->T.get j=some o:=fun j o hj=>BS (h0:=h0) (h1:=h1) (h2:=h2) (h3:=h3) (h4:=h4) (h5:=h5) (h6:=h6) (j,o) (eO hj)
theorem oL {a:AV}{N:Nat}(h:0 < N) (ha:Pure a):∀ b ∈ [AV.pt 0 6 0 0,a],dg N b:=by
 intro b hb
 simp only [List.mem_cons,List.not_mem_nil,or_false] at hb
 rcases hb with rfl|rfl
 ·exact .pt h
 ·exact Pure.b9 ha
theorem xX {a c:AV}{N:Nat}(h:0 < N) (ha:Pure a) (hc:Pure c):∀ b ∈ [AV.pt 0 6 0 0,a,c],dg N b:=by
 intro b hb
 simp only [List.mem_cons,List.not_mem_nil,or_false] at hb
 rcases hb with rfl|rfl|rfl
 ·exact .pt h
 ·exact Pure.b9 ha
 ·exact Pure.b9 hc
section
variable {P:Program}{w0:World}{rd dr:Bool}{n:Nat}{Q:Exit->AA->ad->Prop}{α:AA}{S:ad}{l:List QI}{K:List fc}{T:Type}{ρ:Hd}{f:T->List AV}
theorem aa.akb {d:Option Nat}{g:Option (Nat × Bool)}{sz k len h:Nat}{x hi:QO}{ik:IntKind}{j:Int}{ex:Bool}{xs xs0:List T}(hw:bD α.tm g=some true) (hx:x.ev α.tm=.gr k sz len) (hk:S.get k=some (.arr sz (ρ.h (List.map f) xs) 0 ex)) (hn:len=xs.length) (hj:hi.ev α.tm=.v (.int ik j)) (hh:j=h) (aA:h < len) (h0:xs.take h=xs0)
  (kk:aa P w0 rd n Q (.aU false l K) (bS d α (.gr k sz h)) (S.set k (some (.arr sz (ρ.h (List.map f) xs0) 0 false)))):aa P w0 rd n Q (.aU false (⟨d,g,.slice (.sl sz) x none (some hi) none⟩::l) K) α S:=by
 have e:(ρ.h (List.map f) xs).take h=ρ.h (List.map f) xs0:=by rw [ρ.eq,ρ.eq,<-List.map_take,h0]
 refine aa.op (i:=⟨d,g,.slice (.sl sz) x none (some hi) none⟩) hw (ae.ad9 hx hk (by rw [ρ.eq,List.length_map];exact hn) hj hh aA) ?_
 rw [e]
 exact kk
end
theorem gC8 {m:List (Nat × Nat)}{N:Nat}{ρ:Hd}{S:ad}{nl ul:Nat}{Nd:bj}{vs sh ls:List (Int × Int)}{up:List Nat}{kn:KN}(h0:S.get 0=some (gO nl ul):=by rfl) (h1:S.get 1=some (dO ρ Nd):=by rfl) (h2:S.get 2=some (bB ρ vs):=by rfl) (h3:S.get 3=some (dP ρ up):=by rfl)
  (h4:S.get 4=some (dQ ρ sh):=by rfl) (h5:S.get 5=some (bB ρ ls):=by rfl) (h6:S.get 6=some (dR ρ kn):=by rfl):gj 8 m N S [(0,gO nl ul),(1,dO ρ Nd),(2,bB ρ vs),(3,dP ρ up),(4,dQ ρ sh),(5,bB ρ ls),(6,dR ρ kn)] :=
 ⟨.inl ⟨_,h0,.same (nr (by omega))⟩,.inl ⟨_,h1,.same (i_ _)⟩,.inl ⟨_,h2,.same (cR _)⟩,.inl ⟨_,h3,.same (iu _)⟩,.inl ⟨_,h4,.same (iw _)⟩,.inl ⟨_,h5,.same (cR _)⟩,.inl ⟨_,h6,.same (iy _)⟩,trivial⟩
theorem Je {j N:Nat}{ρ:Hd}{S:ad}{nl ul:Nat}{Nd:bj}{vs sh ls:List (Int × Int)}{up:List Nat}{kn:KN}{ps:List (Nat × Nat)}(h8:S.get j=some (xW ρ ps):=by rfl) (h0:S.get 0=some (gO nl ul):=by rfl) (h1:S.get 1=some (dO ρ Nd):=by rfl) (h2:S.get 2=some (bB ρ vs):=by rfl) (h3:S.get 3=some (dP ρ up):=by rfl)
  (h4:S.get 4=some (dQ ρ sh):=by rfl) (h5:S.get 5=some (bB ρ ls):=by rfl) (h6:S.get 6=some (dR ρ kn):=by rfl):gj 8 [(8,j)] N S [(0,gO nl ul),(1,dO ρ Nd),(2,bB ρ vs),(3,dP ρ up),(4,dQ ρ sh),(5,bB ρ ls),(6,dR ρ kn),(8,xW ρ ps)] :=
 ⟨.inl ⟨_,h0,.same (nr (by omega))⟩,.inl ⟨_,h1,.same (i_ _)⟩,.inl ⟨_,h2,.same (cR _)⟩,.inl ⟨_,h3,.same (iu _)⟩,.inl ⟨_,h4,.same (iw _)⟩,.inl ⟨_,h5,.same (cR _)⟩,.inl ⟨_,h6,.same (iy _)⟩,.inl ⟨_,h8,.same (Jd _)⟩,trivial⟩
theorem aa4 {j N:Nat}{ρ:Hd}{S:ad}{nl ul:Nat}{Nd:bj}{vs sh ls:List (Int × Int)}{up:List Nat}{kn:KN}{ps:List (Nat × Nat)}(h8:S.get j=some (xW ρ ps):=by rfl) (h0:S.get 0=some (gO nl ul):=by rfl) (h1:S.get 1=some (dO ρ Nd):=by rfl) (h2:S.get 2=some (bB ρ vs):=by rfl) (h3:S.get 3=some (dP ρ up):=by rfl)
  (h4:S.get 4=some (dQ ρ sh):=by rfl) (h5:S.get 5=some (bB ρ ls):=by rfl) (h6:S.get 6=some (dR ρ kn):=by rfl):gj 9 [(9,j)] N S [(0,gO nl ul),(1,dO ρ Nd),(2,bB ρ vs),(3,dP ρ up),(4,dQ ρ sh),(5,bB ρ ls),(6,dR ρ kn),(9,xW ρ ps)] :=
 ⟨.inl ⟨_,h0,.same (nr (by omega))⟩,.inl ⟨_,h1,.same (i_ _)⟩,.inl ⟨_,h2,.same (cR _)⟩,.inl ⟨_,h3,.same (iu _)⟩,.inl ⟨_,h4,.same (iw _)⟩,.inl ⟨_,h5,.same (cR _)⟩,.inl ⟨_,h6,.same (iy _)⟩,.inl ⟨_,h8,.same (Jd _)⟩,trivial⟩
theorem Ek:∀ {m:Nat}{up u:List Nat}{k r:Nat},fL m up k=some (u,r)->u.length=up.length
 |0,_,_,_,_,h=>by cases h
 |m+1,up,u,k,r,h=>by
  rw [fL] at h
  split at h
  ·cases h
  ·split at h
   ·simp only [oI_,pI_] at h;rw [h.1]
   ·split at h
    ·cases h
    ·have:=Ek h;rwa [List.length_set] at this
theorem f_ {up u:List Nat}{k r:Nat}(h:gQ up k=some (u,r)):u.length=up.length:=let ⟨_,h⟩:=vd h;Ek h
theorem GM:∀ {m:Nat}{up u:List Nat}{k r:Nat},fL m up k=some (u,r)->r < up.length
 |0,_,_,_,_,h=>by cases h
 |m+1,up,u,k,r,h=>by
  rw [fL] at h
  split at h
  ·cases h
  ·rename_i p hp
   split at h
   ·simp only [oI_,pI_] at h
    rw [<-h.2]
    exact (List.getElem?_eq_some_iff.1 hp).1
   ·split at h
    ·cases h
    ·have:=GM h;rwa [List.length_set] at this
theorem GN {up u:List Nat}{k r:Nat}(h:gQ up k=some (u,r)):r < up.length:=let ⟨_,h⟩:=vd h;GM h
theorem n_ {N:bj}:∀ {m:Nat}{ps:List (Nat × Nat)}{s s':JS}{b:Bool},fl N m ps s=some (b,s')->s'.up.length=s.up.length
 |0,_,_,_,_,h=>by cases h
 |m+1,ps,s,s',b,h=>by
  rw [fl] at h
  split at h
  ·cases h
  ·split at h
   ·simp only [oI_,pI_] at h;rw [<-h.2]
   ·split at h
    ·cases h
    ·rename_i u1 a h1
     split at h
     ·cases h
     ·rename_i u2 b2 h2
      have e1:=f_ h1
      have e2:=f_ h2
      split at h
      ·have:=n_ h;simp only at this;omega
      ·split at h
       ·split at h
        ·split at h
         ·split at h
          ·split at h
           ·have:=n_ h;simp only [List.length_set] at this;omega
           ·cases h
          ·simp only [oI_,pI_] at h;rw [<-h.2];simp only;omega
         ·cases h
        ·cases h
       ·have:=n_ h;simp only [List.length_set] at this;omega
section
variable {w0:World}{ρ:Hd}
theorem aa5 {N:bj}{vs:List (Int × Int)}{kn:KN}{m:Nat}{ps:List (Nat × Nat)}{s s':JS}{b:Bool}(hN:Ee N) (hl:s.up.length<=1099511627776) (h:fl N m ps s=some (b,s')) :
  aK Tryz.prog w0 338 [.pt 0 6 0 0,.gr 7 2 ps.length] (au (gS ρ ⟨N,vs,s⟩ kn++[(7,xW ρ ps)]) 8) (.v (.bool b)) (au (gS ρ ⟨N,vs,s'⟩ kn) 8):=by
 obtain⟨nl,eF⟩:∃ nl,nl=N.length:=⟨_,rfl⟩
 obtain⟨ul,lz⟩:∃ ul,ul=s.up.length:=⟨_,rfl⟩
 have ZW:s'.up.length=ul:=by rw [n_ h,lz]
 obtain⟨Ve,sh0,ls0⟩:=s'
 obtain⟨up,sh,ls⟩:=s
 dsimp only at hl lz ZW
 obtain⟨pl,xf⟩:∃ pl,pl=ps.length:=⟨_,rfl⟩
 simp only [gS,<-eF,<-lz,ZW,<-xf,List.cons_append,List.nil_append]
 refine aT.fM 8 8 _ aed (by simp [Tryz.ntmps338]) rfl rfl ?_
 refine gq dX ?_
 refine aa.bP (σ:=List (Nat × Nat) × Nat × JS × Nat) 8 9 [(8,7)] (fun p=>[(0,.pt 0 6 0 0),(1,.gr 8 2 p.2.1),(4,.v (.bool false))]) [] (fun p=>[(0,gO nl ul),(1,dO ρ N),(2,bB ρ vs),(3,dP ρ p.2.2.1.up),(4,dQ ρ p.2.2.1.sh),(5,bB ρ p.2.2.1.ls),(6,dR ρ kn),(8,xW ρ p.1)])
  (fun p=>p.2.1=p.1.length/\p.2.2.1.up.length=ul/\fl N p.2.2.2 p.1 p.2.2.1=some (b,⟨Ve,sh0,ls0⟩)) (fun p=>p.2.2.2) (ps,pl,⟨up,sh,ls⟩,m) ⟨xf,lz.symm,h⟩ rfl (by exact⟨sq,rfl,Je,rfl,rfl,rfl⟩) ?_
 have an3:ul<=1099511627776:=by omega
 clear h xf lz
 rintro⟨ps,pl,⟨up,sh,ls⟩,m⟩ ⟨xf,lz,h⟩
 simp only at xf lz h
 cases m with
 |zero=>cases h
 |succ m =>
  rw [fl] at h
  split at h
  ·cases h
  rename_i A9
  rcases w5 ps with rfl|⟨p0,⟨x,y⟩,rfl⟩
  ·simp only [List.getLast?_nil,oI_,pI_,JS.mk.injEq] at h
   obtain⟨rfl,rfl,rfl,rfl⟩:=h
   obtain rfl:pl=0:=xf
   refine gq dX ?_
   refine aa.int rfl (ae.qk rfl) fun e he=>?_
   refine gq dX ?_
   refine bq (fun hb=>?_) (fun hb=>?_)<;>(try simp only [aM] at hb)
   ·omega
   ·refine gq dX ?_
    refine aa.aR ?_
    refine gq dX ?_
    refine fq ?_
    exact⟨[],.aB .v,gC8,rfl⟩
  ·simp only [List.getLast?_concat,List.dropLast_concat] at h A9
   split at h
   ·cases h
   rename_i u1 a h1
   split at h
   ·cases h
   rename_i u2 c h2
   have hlen:pl=p0.length+1:=by rw [xf];simp
   have an4:p0.length < 1099511627776:=by rw [List.length_append,List.length_singleton] at A9;omega
   have hq:(p0++[(x,y)])[p0.length]?=some (x,y):=by simp
   have pX:=fU (ρ:=ρ) (f:=px) hq
   have oG:(p0++[(x,y)]).take p0.length=p0:=by simp
   obtain⟨r0,lB⟩:∃ r0,r0=p0++[(x,y)]:=⟨_,rfl⟩
   rw [<-lB] at pX oG xf ⊢
   have gL:u1.length=ul:=by rw [f_ h1,lz]
   have iX:u2.length=ul:=by rw [f_ h2,gL]
   have c1:=uz (w0:=w0) (ρ:=ρ) (s:=⟨N,vs,⟨up,sh,ls⟩⟩) (kn:=kn) (by simp only;omega) h1
   have c2:=uz (w0:=w0) (ρ:=ρ) (s:=⟨N,vs,⟨u1,sh,ls⟩⟩) (kn:=kn) (by simp only;omega) h2
   simp only at c1 c2
   rw [<-fQ eF lz,<-fQ eF gL] at c1
   rw [<-fQ eF gL,<-fQ eF iX] at c2
   refine gq dX ?_
   refine aa.int rfl (ae.qk rfl) fun e he=>?_
   refine gq dX ?_
   refine bq (fun hb=>?_) (fun hb=>?_)<;>(try simp only [aM] at hb)
   rotate_left
   ·exfalso;omega
   refine gq dX ?_
   refine aa.int rfl (ae.qk rfl) fun e2 he2=>?_
   refine gq dX ?_
   obtain⟨xi,hxi⟩:∃ xi:Int,xi=x:=⟨_,rfl⟩
   obtain⟨yi,hyi⟩:∃ yi:Int,yi=y:=⟨_,rfl⟩
   obtain⟨ai,l7⟩:∃ ai:Int,ai=a:=⟨_,rfl⟩
   obtain⟨ci,GO⟩:∃ ci:Int,ci=c:=⟨_,rfl⟩
   rw [px] at pX
   simp only at pX
   rw [<-hxi,<-hyi] at pX
   rw [<-hxi,<-l7] at c1
   rw [<-hyi,<-GO] at c2
   refine cr (fun e3 he3=>?_)
   refine gq dX ?_
   obtain⟨pn,Jf⟩:∃ pn,pn=p0.length:=⟨_,rfl⟩
   rw [<-Jf] at pX oG hlen
   have iM:e3=((pn:Nat):Int):=by omega
   have cg:pn < pl:=by omega
   refine aa.gm rfl (fun T=>ae.jU rfl rfl iM cg) ?_
   refine aa.gm rfl (fun T=>ae.Kh rfl rfl (by decide) (by decide)) ?_
   refine aa.lP rfl (bc.oX rfl rfl pX rfl) ?_
   refine aa.lP rfl (bc.jN false c1 rfl (.inl (by decide)) (cL (by decide)) (BS) C7 (cL (by decide)) (oL (by decide) .v) .v) ?_
   refine gq dX ?_
   refine aa.gm rfl (fun T=>ae.jU rfl rfl iM cg) ?_
   refine aa.gm rfl (fun T=>ae.Kh rfl rfl (by decide) (by decide)) ?_
   refine aa.lP rfl (bc.oX rfl rfl pX rfl) ?_
   refine aa.lP rfl (bc.jN false c2 rfl (.inl (by decide)) (cL (by decide)) (BS) C7 (cL (by decide)) (oL (by decide) .v) .v) ?_
   refine gq dX ?_
   refine aa.akb (f:=px) (xs0:=p0) rfl rfl rfl xf rfl iM cg oG ?_
   refine gq dX ?_
   refine bq (fun eg=>?_) (fun eg=>?_)<;>(try simp only [aM] at eg)
   ·rw [if_pos (by omega)] at h
    refine gq dX ?_
    refine aa.bm (σ:=List (Nat × Nat) × Nat × JS × Nat) (p0,pn,⟨u2,sh,ls⟩,m) [(8,8)] ⟨Jf,iX,h⟩ ?_ (by exact⟨sq,rfl,Je,rfl,rfl,rfl⟩)
    exact Nat.lt_succ_self _
   rw [if_neg (by omega),<-l7,<-GO] at h
   have c3:=Yu (w0:=w0) (ρ:=ρ) (s:=⟨N,vs,⟨u2,sh,ls⟩⟩) (kn:=kn) (a:=a) (b:=c) (by have:=GN h2;simp only;omega)
   simp only at c3
   rw [<-fQ eF iX,<-fQ eF (by rw [List.length_set,iX]),<-l7,<-GO] at c3
   obtain⟨U,hU⟩:∃ U,U=u2.set c a:=⟨_,rfl⟩
   obtain⟨SH,pW⟩:∃ SH,SH=jg sh a c:=⟨_,rfl⟩
   obtain⟨LS,ff⟩:∃ LS,LS=iL ls a c:=⟨_,rfl⟩
   have Vf:U.length=ul:=by rw [hU,List.length_set,iX]
   rw [<-hU,<-pW,<-ff] at c3 h
   clear hU pW ff
   refine gq dX ?_
   refine aa.look (ρ:=ρ) (f:=iv) (kv:=sh) rfl rfl rfl rfl (fun si El=>?_) (fun El=>?_)
   ·refine gq dX ?_
    refine aa.look (ρ:=ρ) (f:=iv) (kv:=sh) rfl rfl rfl rfl (fun sk BT=>?_) (fun BT=>?_)
    ·rw [El,BT] at h
     simp only at h
     split at h
     rotate_left
     ·cases h
     rename_i t l t' l' Ej xP
     split at h
     rotate_left
     ·cases h
     rename_i h00
     obtain⟨sn,U6⟩:∃ sn:Nat,sn=si.toNat:=⟨_,rfl⟩
     obtain⟨Em,xH⟩:∃ n:Nat,n=sk.toNat:=⟨_,rfl⟩
     rw [<-U6] at Ej
     rw [<-xH] at xP
     have q1:si=(sn:Int):=by omega
     have q2:sk=(Em:Int):=by omega
     have g1:=hN _ _ _ Ej
     have g2:=hN _ _ _ xP
     have c4:=Yt (w0:=w0) (ρ:=ρ) (s:=⟨N,vs,⟨u2,sh,ls⟩⟩) (kn:=kn) Ej xP g1.2.2 g2.2.2 (by omega) (by omega)
     rw [<-fQ eF iX,<-q1,<-q2] at c4
     obtain⟨al,aO⟩:∃ al,al=ox t t':=⟨_,rfl⟩
     rw [<-aO] at c4 h
     clear aO
     refine gq dX ?_
     refine aa.op rfl (ae.jN c4 rfl (Nat.le_of_ble_eq_true rfl) (cL (by decide)) (lA) (cL (by decide)) (xX (by decide) .v .v) .v) ?_
     cases al with
     |false =>
      rw [if_neg (by decide)] at h
      simp only [oI_,pI_,JS.mk.injEq] at h
      obtain⟨rfl,rfl,rfl,rfl⟩:=h
      refine gq dX ?_
      refine aa.iB ?_
      refine gq dX ?_
      refine fq ?_
      exact⟨[],.aB .v,gC8,rfl⟩
     |true =>
      rw [if_pos rfl] at h
      split at h
      rotate_left
      ·cases h
      rename_i hll
      have UR:Pure (cE ρ iG false l):=fg fun x _ a ha=>by
       obtain rfl:=List.mem_singleton.1 ha
       exact .v
      have i1:sn < nl:=by rw [eF];exact (List.getElem?_eq_some_iff.1 Ej).1
      have i2:Em < nl:=by rw [eF];exact (List.getElem?_eq_some_iff.1 xP).1
      have r1:=fU (ρ:=ρ) (f:=qD ρ) Ej
      have r2:=fU (ρ:=ρ) (f:=qD ρ) xP
      rw [qD] at r1 r2
      simp only at r1 r2
      refine gq dX ?_
      refine aa.op rfl (ae.jU rfl rfl q1 i1) ?_
      refine aa.op rfl (ae.quiet rfl) ?_
      refine aa.op rfl (ae.oX rfl rfl r1 rfl) ?_
      refine gq dX ?_
      refine aa.int rfl (ae.len rfl) fun q sG=>?_
      rw [aF] at sG
      refine gq dX ?_
      refine aa.bP (σ:=Int × List (Nat × Nat) × Nat) 9 10 [(9,8)] (fun p=>[(0,.pt 0 6 0 0),(1,.gr 9 2 p.2.2),(4,.v (.bool false)),(6,iv ai),(7,iv ci),(10,iv sk),(74,cE ρ iG false l),(75,iv q),(76,iv p.1)]) [] (fun p=>[(0,gO nl ul),(1,dO ρ N),(2,bB ρ vs),(3,dP ρ u2),(4,dQ ρ sh),(5,bB ρ ls),(6,dR ρ kn),(9,xW ρ p.2.1)])
       (fun p=>∃ k:Nat,p.1=k/\k<=l.length/\p.2.1=p0++(l.zip l').take k/\p.2.2=p.2.1.length) (fun p=>l.length - p.1.toNat) (0,p0,pn) ⟨0,rfl,by simp,by simp,Jf⟩ rfl (by exact⟨sq,rfl,aa4,rfl,rfl,rfl⟩) ?_
      rintro⟨ki,pk,kl⟩ ⟨k,hki,hk,Vg,pY⟩
      simp only at hki hk Vg pY
      have an5:kl<=pn+6:=by
       rw [pY,Vg,List.length_append,List.length_take,List.length_zip]
       omega
      refine gq dX ?_
      refine bq (fun oq=>?_) (fun oq=>?_)<;>(try simp only [aM] at oq)
      ·have dN:k < l.length:=by omega
       obtain⟨u,hu⟩:∃ u,l[k]?=some u:=⟨_,List.getElem?_eq_getElem dN⟩
       obtain⟨v,hv⟩:∃ v,l'[k]?=some v:=⟨_,List.getElem?_eq_getElem (by omega)⟩
       refine gq dX ?_
       refine aa.op rfl (ae.ind rfl rfl (bU (l:=l) hki hu) (bV fun _=>rfl)) ?_
       refine gq dX ?_
       refine aa.op rfl (ae.jU rfl rfl q2 i2) ?_
       refine aa.op rfl (ae.quiet rfl) ?_
       refine aa.op rfl (ae.oX rfl rfl r2 rfl) ?_
       refine gq dX ?_
       refine aa.op rfl (ae.ind rfl rfl (bU (l:=l') hki hv) (bV fun _=>rfl)) ?_
       refine gq dX ?_
       refine aa.app (x:=(u,v)) (f:=px) rfl rfl rfl pY (fun _=>rfl) rfl rfl rfl rfl (by omega) fun s' eU eD vp=>?_
       refine gq dX ?_
       refine cr (fun k2 eh=>?_)
       refine gq dX ?_
       refine aa.bm (σ:=Int × List (Nat × Nat) × Nat) (k2,s',eU) [(9,10)] ⟨k+1,by simp only;omega,by omega,?_,vp⟩ ?_ (by exact⟨sq,rfl,aa4,rfl,rfl,rfl⟩)
       ·simp only
        rw [eD,Vg,List.append_assoc,List.take_add_one,List.getElem?_zip_eq_some (z:=(u,v)) |>.2 ⟨hu,hv⟩]
        rfl
       ·simp only;omega
      ·have dN:k=l.length:=by omega
       have akc:pk=p0++l.zip l':=by
        rw [Vg,List.take_of_length_le (by rw [List.length_zip];omega)]
       rw [<-akc] at h
       refine gq dX ?_
       refine aa.aR ?_
       refine gq dX ?_
       refine aa.op rfl (ae.jN c3 rfl (Nat.le_of_ble_eq_true rfl) (cL (by decide)) (lA) (cL (by decide)) (xX (by decide) .v .v) (.aE fun _ h=>by cases h)) ?_
       refine gq dX ?_
       refine aa.bm (σ:=List (Nat × Nat) × Nat × JS × Nat) (pk,kl,⟨U,SH,LS⟩,m) [(8,9)] ⟨pY,Vf,h⟩ ?_ (by exact⟨sq,rfl,Je,rfl,rfl,rfl⟩)
       exact Nat.lt_succ_self _
    ·rw [El,BT] at h
     simp only at h
     refine gq dX ?_
     refine aa.op rfl (ae.jN c3 rfl (Nat.le_of_ble_eq_true rfl) (cL (by decide)) (lA) (cL (by decide)) (xX (by decide) .v .v) (.aE fun _ h=>by cases h)) ?_
     refine gq dX ?_
     refine aa.bm (σ:=List (Nat × Nat) × Nat × JS × Nat) (p0,pn,⟨U,SH,LS⟩,m) [(8,8)] ⟨Jf,Vf,h⟩ ?_ (by exact⟨sq,rfl,Je,rfl,rfl,rfl⟩)
     exact Nat.lt_succ_self _
   ·rw [El] at h
    simp only at h
    refine gq dX ?_
    refine aa.look (ρ:=ρ) (f:=iv) (kv:=sh) rfl rfl rfl rfl (fun sk BT=>?_) (fun BT=>?_)
    ·refine gq dX ?_
     refine aa.op rfl (ae.jN c3 rfl (Nat.le_of_ble_eq_true rfl) (cL (by decide)) (lA) (cL (by decide)) (xX (by decide) .v .v) (.aE fun _ h=>by cases h)) ?_
     refine gq dX ?_
     refine aa.bm (σ:=List (Nat × Nat) × Nat × JS × Nat) (p0,pn,⟨U,SH,LS⟩,m) [(8,8)] ⟨Jf,Vf,h⟩ ?_ (by exact⟨sq,rfl,Je,rfl,rfl,rfl⟩)
     exact Nat.lt_succ_self _
    ·refine gq dX ?_
     refine aa.op rfl (ae.jN c3 rfl (Nat.le_of_ble_eq_true rfl) (cL (by decide)) (lA) (cL (by decide)) (xX (by decide) .v .v) (.aE fun _ h=>by cases h)) ?_
     refine gq dX ?_
     refine aa.bm (σ:=List (Nat × Nat) × Nat × JS × Nat) (p0,pn,⟨U,SH,LS⟩,m) [(8,8)] ⟨Jf,Vf,h⟩ ?_ (by exact⟨sq,rfl,Je,rfl,rfl,rfl⟩)
     exact Nat.lt_succ_self _
end
end
end Go.Proofs.YtgjfgekaclobaaaGreat
