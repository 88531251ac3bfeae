import Derived.Test.YtgjfgekaclobaaaGreatCa46
namespace Go.Proofs.YtgjfgekaclobaaaGreat
set_option linter.unusedVariables false
set_option linter.unusedSimpArgs false
open Go.RowKit
section
variable {ι:Nat->Nat}
theorem Rb.yl {j k:Nat}(h:k=ι j):Rb ι (.yl j) (.yl k):=fun gc g w x hB hr=>by
 subst h
 cases hr with
 |yl hk=>rw [<-hB.ob j hk];exact .yl (hB.al j hk)
theorem Rb.fn {f:Fn}{l m l' m':List AV}(h:Iy ι l m) (k:Iy ι l' m'):Rb ι (.fn f l l') (.fn f m m'):=fun gc g w x hB hr=>by
 cases hr with
 |fn h1 h2 h3 h4 =>
  refine .fn (h1.trans h.at.1) (h2.trans k.at.1) (fun i b y hb hy=>?_) (fun i b y hb hy=>?_)
  ·obtain⟨a,e1,e2⟩:=h.at.2 i b hb
   exact e2 gc g w y hB (h3 i a y e1 hy)
  ·obtain⟨a,e1,e2⟩:=k.at.2 i b hb
   exact e2 gc g w y hB (h4 i a y e1 hy)
end
section
variable {P:Program}{w0:World}{N N' B n:Nat}{so so':List (Nat × Ob)}{S T:ad}{α:AA}{f:FuncId}{args bG:List AV}{r gw:AV}{m:List (Nat × Nat)}{to:List (Nat × Option Ob)}
def Hy (w0:World) (T:ad) (bG:List AV) (N:Nat) (m:List (Nat × Nat)):Prop:=∀ (A:Nat->Prop) (g:Gh) (w:World) (aQ:Array Value),St w0 A g T w->iP g w bG aQ->∀ k J,T.get k=some (.fo J)->g.al k->∃ j,j < N/\aN m j=k
theorem YN {g:Gh}{w:World}{aQ:Array Value}{i k sz a b:Nat}(h:iP g w bG aQ) (hi:bG[i]?=some (.pt k sz a b)):g.al k:=by
 have hl:i < aQ.size:=by rw [h.1];exact (List.getElem?_eq_some_iff.1 hi).1
 have hr:=h.2 i _ _ hi (Array.getElem?_eq_getElem hl)
 generalize aQ[i]=v at hr
 cases hr with
 |pt hk=>exact hk
theorem Hy.cell {i k sz a b k0 q sz' fz j0:Nat}{row:List AV}{ex:Bool}{J:iq}(hi:bG[i]?=some (.pt k sz a b)) (hk:T.get k=some (.arr sz' [row] fz ex)) (hq:row[q]?=some (.yl k0)) (h0:T.get k0=some (.fo J)) (hj:j0 < N) (he:aN m j0=k0):Hy w0 T bG N m:=by
 intro A g w aQ hS hA k1 J1 dN iK
 have aO:=YN hA hi
 obtain⟨_,_,cs,ty,p1,p2,p3,p4,p5,_⟩:=hS.bR k _ hk aO
 obtain⟨x,hx,hr⟩:=(p5 0 row rfl).2 q _ hq
 have JQ:g.al k0:=by
  cases hr with
  |yl h=>exact h
 exact⟨j0,hj,he.trans (hS.lV _ _ _ _ h0 dN JQ iK)⟩
theorem aK.VS (h:aK P w0 f args (au so N) r (au so' N')) (ha:qA (aN m) N bG args) (hr:Rb (cV (aN m) N T.nx) r gw) (hi:qf (aN m) (List.range N)=true) (aA:(List.range N).all (fun j=>Nat.blt (aN m j) T.nx)=true) (hS:ir (aN m) N T so) (hk:so.all (fun p=>Nat.blt p.1 N)=true)
  (hT:gk (cV (aN m) N T.nx) so' to) (hc:(List.range N).all (fun j=>(to.map (·.1)).contains (aN m j))=true) (dv:(List.range N').all (fun j=>(to.map (·.1)).contains (T.nx+j))=true) (hy:Hy w0 T bG N m) {e:Nat}(he:N'<=e):aK P w0 f bG T gw ⟨dw T.get to,T.nx+e⟩:=by
 obtain⟨T',rV⟩:∃ T':ad,T'=⟨fun k=>if k < T.nx then T.get k else none,T.nx⟩:=⟨_,rfl⟩
 have get':∀ k o,T'.get k=some o->k < T.nx/\T.get k=some o:=fun k o hk=>by
  rw [rV] at hk
  have hk:(if k < T.nx then T.get k else none)=some o:=hk
  split at hk
  ·exact⟨by assumption,hk⟩
  ·cases hk
 have mV:T'.nx=T.nx:=by rw [rV]
 have ql:∀ k o,T.get k=some o->k < T.nx->T'.get k=some o:=fun k o h hk=>by
  rw [rV]
  show (if k < T.nx then T.get k else none)=some o
  rw [if_pos hk];exact h
 rw [<-mV] at hr aA hT
 have hM:∀ j,j < N->aN m j < T.nx:=fun j hj=>by
  have:=dC (List.all_eq_true.1 aA j (List.mem_range.2 hj))
  rwa [mV] at this
 have hF:=Fy (N':=N') hi aA (hS.sub ql hM hk) hT hc (by simp) (fun k o hk=>by rw [mV];exact (get' k o hk).1)
 have bC:=h.Y5 hF ha.at.1 (fun i a b h1 h2=>by
  obtain⟨a',h3,h4⟩:=ha.at.2 i b h2
  rw [h3] at h1
  rw [<-oJ_ h1];exact h4) hr (fun A g w aQ ld Bg k J eh kD=>hy A g w aQ (ld.forget (by rw [mV];exact Nat.le_refl _) fun j p hj aO=>ql j p hj (by have:=ld.al j aO;rwa [mV] at this)) Bg k J (get' k _ eh).2 kD)
 refine⟨bC.1,fun F m' A g aQ w hF hS hA=>(bC.2 F m' A g aQ w hF (hS.forget (by rw [mV];exact Nat.le_refl _) fun j p hj _=>(get' j p hj).2) hA).mono ?_⟩
 rintro e' w' ⟨v,g',rfl,h1,h2,h3⟩
 refine⟨v,g',rfl,h1,h2.forget (by show T'.nx+N'<=T.nx+e;omega) fun j p hj aO=>?_,h3⟩
 have z7:j < T'.nx+N':=h2.al j aO
 have hj:dw T.get to j=some p:=hj
 show dw T'.get to j=some p
 by_cases l4:j ∈ to.map (·.1)
 ·rw [C6 (H:=T.get) l4];exact hj
 ·rw [gR l4] at hj ⊢
  refine ql j p hj ?_
  by_cases h5:j < T.nx
  ·exact h5
  ·exfalso
   refine l4 ?_
   have:=List.all_eq_true.1 dv (j - T.nx) (List.mem_range.2 (by omega))
   rw [show T.nx+(j - T.nx)=j by omega] at this
   simpa using this
theorem ae.E3 {fq:QO}{fe:List QO}(m:List (Nat × Nat)) (to:List (Nat × Option Ob)) (bC:aK P w0 f args (au so N) r (au so' N')) (h:dM (fq.ev α.tm) (fe.map (·.ev α.tm))=some (f,bG)) (ha:qA (aN m) N bG args) (hr:Rb (cV (aN m) N T.nx) r gw) (hS:ir (aN m) N T so) (hT:gk (cV (aN m) N T.nx) so' to) (hy:Hy w0 T bG N m)
  (hi:qf (aN m) (List.range N)=true:=by rfl) (aA:(List.range N).all (fun j=>Nat.blt (aN m j) T.nx)=true:=by rfl) (hk:so.all (fun p=>Nat.blt p.1 N)=true:=by rfl) (hc:(List.range N).all (fun j=>(to.map (·.1)).contains (aN m j))=true:=by rfl) (dv:(List.range N').all (fun j=>(to.map (·.1)).contains (T.nx+j))=true:=by rfl) :
  ae P w0 false (.call fq fe) α T gw ⟨dw T.get to,T.nx+N'⟩:=ae.call h (bC.VS ha hr hi aA hS hk hT hc dv hy (Nat.le_refl _)) fun e=>by cases e
theorem bc.E3 {fq:QO}{fe:List QO}(m:List (Nat × Nat)) (F:List (Nat × Ob)) (to:List (Nat × Option Ob)) (bC:aK P w0 f args (au so N) r (au so' N')) (h:dM (fq.ev α.tm) (fe.map (·.ev α.tm))=some (f,bG)) (ha:qA (aN m) N bG args) (hr:Rb (cV (aN m) N S.nx) r gw) (hF:fu S F) (hS:∀ T,fu T F->ir (aN m) N T so) (hT:gk (cV (aN m) N S.nx) so' to) (hy:∀ T,fu T F->Hy w0 T bG N m)
  (hi:qf (aN m) (List.range N)=true:=by rfl) (aA:(List.range N).all (fun j=>Nat.blt (aN m j) S.nx)=true:=by rfl) (hk:so.all (fun p=>Nat.blt p.1 N)=true:=by rfl) (hc:(List.range N).all (fun j=>(to.map (·.1)).contains (aN m j))=true:=by rfl) (dv:(List.range N').all (fun j=>(to.map (·.1)).contains (S.nx+j))=true:=by rfl) (he:Nat.ble N' (AE to true)=true:=by rfl) :
  bc P w0 B (.call fq fe) α S gw ⟨F,to,true⟩:=by
 intro n o eK
 obtain⟨c,u,ho,hu,FY,has⟩:=jP eK
 refine⟨fun hp=>(by rw [ho] at hp;simp only [nO,lX,hu] at hp;cases hp),hF,fun T hB Va hm=>?_⟩
 have e:T.nx=S.nx:=hm rfl
 have eo:∀ q ∈ (.call c:Op).operands,(α.only (cB o)).ev q=α.ev q:=fun q hq=>ew fun t ht=>ee (by rw [ho,<-ht];exact hq)
 have h':dM (fq.ev (α.only (cB o)).tm) (fe.map (·.ev (α.only (cB o)).tm))=some (f,bG):=by
  rw [<-h,FY,has,aJ,aJ,ij,ij,eo u (show u ∈ c.operands by simp [Call.operands,hu])]
  congr 1
  exact List.map_congr_left fun q hq=>eo q (show q ∈ c.operands by simp [Call.operands,hu];exact .inr (by simpa using hq))
 rw [<-e] at hr hT aA dv
 rw [dI]
 exact (ae.call (dr:=false) h' (bC.VS ha hr hi aA (hS T Va) hk hT hc dv (hy T Va) (Nat.le_of_ble_eq_true he)) (fun e=>by cases e)) n o eK
end
section
set_option maxRecDepth 100000
attribute [local irreducible] ah aK ae aa
def VT:CF Tryz.f156:=⟨_,by conv=>lhs;cbv⟩
theorem agP:aT Tryz.prog 156 VT.1 Tryz.f156.ntmps:=bX Tryz.func156 VT.2 Tryz.call156
def Tc:List Nat:=[1,2,0]
def ab0:CF Tryz.f91:=⟨_,by conv=>lhs;cbv⟩
theorem alk:aT Tryz.prog 91 ab0.1 Tryz.f91.ntmps:=bX Tryz.func91 ab0.2 Tryz.call91
def PV:List Nat:=[1,3,2,0]
section
variable {w0:World}{ρ:Hd}
theorem YO (r:Rl) (h:r.a7.length+r.rem.length<=549755813888):ah Tryz.prog w0 156 [rl ρ r] (iv ((r.a7.length+r.rem.length:Nat):Int)):=by
 obtain⟨n,ke,re,g,b,v⟩:=r
 dsimp only at h ⊢
 obtain⟨R,hR⟩:∃ R:Int,R=((ke.length+re.length:Nat):Int):=⟨_,rfl⟩
 rw [<-hR]
 refine agP.bu (by simp [Tryz.ntmps156]) (.v) ?_
 refine gq Tc ?_
 repeat' (first
  |(refine bL fun m hm=>?_;(try rw [aF] at hm);refine gq Tc ?_)
  |(refine cr fun _ _=>?_;refine gq Tc ?_)
  |(refine fq ?_))
 all_goals (subst_vars;exact oU (by omega))
theorem HE (r:Rl) (h:r.a7.length+r.rem.length<=549755813888):ah Tryz.prog w0 91 [rl ρ r] (dh ρ (r.a7++r.rem)):=by
 have hC:=YO (w0:=w0) (ρ:=ρ) r h
 have Jw:=nW (ρ:=ρ) r
 obtain⟨n,ke,re,g,b,v⟩:=r
 dsimp only at h hC ⊢
 obtain⟨R,hR⟩:∃ R,R=ke++re:=⟨_,rfl⟩
 rw [<-hR]
 obtain⟨N,hN⟩:∃ N,N=ke.length+re.length:=⟨_,rfl⟩
 rw [<-hN] at hC
 obtain⟨M,hM⟩:∃ M:Int,M=(N:Int):=⟨_,rfl⟩
 rw [<-hM] at hC
 refine alk.bu (by simp [Tryz.ntmps91]) ((dy _)) ?_
 refine gq PV ?_
 repeat' (first
  |(refine aa.op rfl (ae.aL rfl hC ⟨Jw,trivial⟩) ?_;refine gq PV ?_)
  )
 refine aa.ake (m:=N) ρ (atR ρ) rfl rfl rfl hM rfl (by omega) (by omega) fun acc kV=>?_
 refine gq PV ?_
 refine aa.aa9 (f:=atR ρ) (ys:=ke) rfl rfl rfl (by rw [kV];rfl) rfl (fun _=>rfl) (fun _=>rfl) (by rw [kV,hN];simp) fun xF Av VU BC=>?_
 refine gq PV ?_
 refine aa.aa9 (f:=atR ρ) (ys:=re) rfl rfl rfl BC rfl (fun _=>rfl) (fun _=>rfl) (by rw [VU,kV,hN];simp) fun Gf Kt BD BE=>?_
 refine gq PV ?_
 refine aa.fin (by conv=>lhs;cbv) ?_
 obtain rfl:Gf=R:=by rw [BD,VU,kV,hR];rfl
 exact bp.akf rfl BE
end
end
section
set_option maxRecDepth 100000
attribute [local irreducible] ah aK ae aa
def ab1:CF Tryz.f27:=⟨_,by conv=>lhs;cbv⟩
theorem alm:aT Tryz.prog 27 ab1.1 Tryz.f27.ntmps:=bX Tryz.func27 ab1.2 Tryz.call27
def o3:List Nat:=[4,1,3,2,0,14,19,58,80]
def tq (x:At):Bool:=vL x.a
def vO (x:Gl):Bool:=vL x.a
section
variable {w0:World}{ρ:Hd}
theorem Jx (l:List At) (hl:l.length<=1099511627776) (Gk:∀ x ∈ l,t_ x.a):ah Tryz.prog w0 56 [dh ρ l] (.v (.bool (l.all tq))):=by
 obtain⟨R,hR⟩:∃ R,R=l.all tq:=⟨_,rfl⟩
 rw [<-hR]
 refine ak_.bu (by simp [Tryz.ntmps56]) (.v) ?_
 refine gq wg ?_
 refine aa.bP (σ:=Int) 0 0 [] (fun i=>[(0,dh ρ l),(3,.v (.int .i64 i))]) [] (fun _=>[]) (fun i=>∃ k:Nat,i=k/\k<=l.length/\R=(l.drop k).all tq) (fun i=>l.length - i.toNat) 0 ⟨0,rfl,by simp,by simpa using hR⟩ rfl cq ?_
 rintro i ⟨k,hi,hk,hp⟩
 clear hR
 refine gq wg ?_
 by_cases aA:k < l.length
 ·obtain⟨x,hx,cg⟩:=cd aA
  have oP:=Gk x (g8 hx)
  have hT:=PL (w0:=w0) (ρ:=ρ) x.a oP.len oP.2
  rw [cg,List.all_cons,tq] at hp
  obtain⟨B,hB⟩:∃ B,B=vL x.a:=⟨_,rfl⟩
  rw [<-hB] at hp hT
  obtain⟨xn,xa⟩:=x
  repeat' (first
   |(refine aa.op rfl (ae.ind rfl rfl (bU (l:=l) hi hx) (bV fun _=>rfl)) ?_;refine gq wg ?_)
   |(refine aa.bif rfl (ae.aL rfl hT ⟨bl _,trivial⟩) (fun _=>?_) (fun _=>?_)<;>refine gq wg ?_)
   |(refine bq (fun hb=>?_) (fun hb=>?_)<;>(try simp only [aM] at hb)<;>(first|refine gq wg ?_))
   |(refine bL fun m hm=>?_;(try rw [aF] at hm);refine gq wg ?_)
   |(refine cr fun _ _=>?_;refine gq wg ?_)
   |(refine aa.aR ?_;refine gq wg ?_)
   |(refine aa.iB ?_;refine gq wg ?_)
   |(refine fq ?_))
  all_goals first
   |(exfalso;omega)
   |(rw [hp,show B=false by assumption];exact eQ rfl)
   |(rw [show B=true by assumption,Bool.true_and] at hp;(refine aa.bm (σ:=Int) _ [] ?_ ?_ cq<;>first|omega|exact⟨k+1,by omega,by omega,hp⟩))
 ·skip
  repeat' (first
   |(refine bq (fun hb=>?_) (fun hb=>?_)<;>(try simp only [aM] at hb)<;>(first|refine gq wg ?_))
   |(refine bL fun m hm=>?_;(try rw [aF] at hm);refine gq wg ?_)
   |(refine aa.aR ?_;refine gq wg ?_)
   |(refine fq ?_))
  all_goals first
   |(exfalso;omega)
   |(rw [hp,List.drop_eq_nil_of_le (by omega)];exact eQ rfl)
theorem HF (l:List Gl) (n:Int) (hl:l.length<=1099511627776) (Gk:∀ x ∈ l,t_ x.a):ah Tryz.prog w0 28 [eP ρ l,iv n] (.v (.bool (decide ((l.length:Int)<=n) && l.all vO))):=by
 obtain⟨R,hR⟩:∃ R,R=(decide ((l.length:Int)<=n) && l.all vO):=⟨_,rfl⟩
 rw [<-hR]
 refine ala.bu (by simp [Tryz.ntmps28]) (.v) ?_
 refine gq tj ?_
 repeat' (first
  |(refine bq (fun hb=>?_) (fun hb=>?_)<;>(try simp only [aM] at hb)<;>(first|refine gq tj ?_))
  |(refine bL fun m hm=>?_;(try rw [aF] at hm);refine gq tj ?_)
  |(refine fq ?_))
 ·rw [hR,decide_eq_false (by omega)];exact eQ rfl
 rw [decide_eq_true (by omega),Bool.true_and] at hR
 refine aa.bP (σ:=Int) 0 0 [] (fun i=>[(0,eP ρ l),(5,.v (.int .i64 i))]) [] (fun _=>[]) (fun i=>∃ k:Nat,i=k/\k<=l.length/\R=(l.drop k).all vO) (fun i=>l.length - i.toNat) 0 ⟨0,rfl,by simp,by simpa using hR⟩ rfl cq ?_
 rintro i ⟨k,hi,hk,hp⟩
 clear hR
 refine gq tj ?_
 by_cases aA:k < l.length
 ·obtain⟨x,hx,cg⟩:=cd aA
  have oP:=Gk x (g8 hx)
  have hT:=PL (w0:=w0) (ρ:=ρ) x.a oP.len oP.2
  rw [cg,List.all_cons,vO] at hp
  obtain⟨B,hB⟩:∃ B,B=vL x.a:=⟨_,rfl⟩
  rw [<-hB] at hp hT
  obtain⟨xo,xn,xa⟩:=x
  repeat' (first
   |(refine aa.op rfl (ae.ind rfl rfl (bU (l:=l) hi hx) (bV fun _=>rfl)) ?_;refine gq tj ?_)
   |(refine aa.bif rfl (ae.aL rfl hT ⟨bl _,trivial⟩) (fun _=>?_) (fun _=>?_)<;>refine gq tj ?_)
   |(refine bq (fun hb=>?_) (fun hb=>?_)<;>(try simp only [aM] at hb)<;>(first|refine gq tj ?_))
   |(refine bL fun m hm=>?_;(try rw [aF] at hm);refine gq tj ?_)
   |(refine cr fun _ _=>?_;refine gq tj ?_)
   |(refine aa.aR ?_;refine gq tj ?_)
   |(refine aa.iB ?_;refine gq tj ?_)
   |(refine fq ?_))
  all_goals first
   |(exfalso;omega)
   |(rw [hp,show B=false by assumption];exact eQ rfl)
   |(rw [show B=true by assumption,Bool.true_and] at hp;(refine aa.bm (σ:=Int) _ [] ?_ ?_ cq<;>first|omega|exact⟨k+1,by omega,by omega,hp⟩))
 ·skip
  repeat' (first
   |(refine bq (fun hb=>?_) (fun hb=>?_)<;>(try simp only [aM] at hb)<;>(first|refine gq tj ?_))
   |(refine bL fun m hm=>?_;(try rw [aF] at hm);refine gq tj ?_)
   |(refine aa.aR ?_;refine gq tj ?_)
   |(refine fq ?_))
  all_goals first
   |(exfalso;omega)
   |(rw [hp,List.drop_eq_nil_of_le (by omega)];exact eQ rfl)
end
end
end Go.Proofs.YtgjfgekaclobaaaGreat
