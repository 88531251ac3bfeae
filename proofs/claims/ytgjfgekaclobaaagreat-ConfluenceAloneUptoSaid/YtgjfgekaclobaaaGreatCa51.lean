import Derived.Test.YtgjfgekaclobaaaGreatCa50
namespace Go.Proofs.YtgjfgekaclobaaaGreat
set_option linter.unusedVariables false
set_option linter.unusedSimpArgs false
open Go.RowKit
section
set_option maxRecDepth 100000
attribute [local irreducible] ah aK ae aa
section
variable {w0:World}{ρ:Hd}
theorem YQ {C:List AV}{J:iq}{T:ad}(hC:∀ a ∈ C,Pure a) (h0:T.get 0=some (.fo J)) (h1:T.get 1=some (.arr 1 [[.yl 0]] 0 true)) (h2:T.get 2=some (.arr 1 [sw C] 0 true)):ir (aN []) 3 T (so0 C J) :=
 ⟨⟨_,h0,.fo⟩,⟨_,h1,.row ⟨.yl rfl rfl,trivial⟩⟩,⟨_,h2,.row ⟨.fn trivial ⟨.pure (.ip hC),.pt rfl rfl,.pt rfl rfl,trivial⟩,trivial⟩⟩,trivial⟩
theorem To (p:Pg) (i j:Int) (a b:Rl) (f t:List At) (f0 t0:At) (hf:f=[f0]) (ht:t=[t0]) (hn:t0.n=f0.n) (hl:t0.a.length=f0.a.length) :
  Iter Tryz.prog w0 313 [] [.ip (iO ρ p i j a b f t)] [[.sl false [[iv (-1)]]],[.sl false [[iv 0]]]]:=by
 intro J bb J' hy
 refine⟨.aE [],au [(0,.fo J')] 1,?_,rfl⟩
 have e0:=ab_ (w0:=w0) (ρ:=ρ) p i j a b f t f0 t0 hf ht hn hl hy
 have eS:=pB (ρ:=ρ) p i j a b f t
 obtain⟨ds,rs⟩:=p
 obtain⟨an,ak,ar,ag,ab,av⟩:=a
 obtain⟨bn,bk,br,bg,sy,bv⟩:=b
 refine aT.fM 1 1 _ agW (by simp [Tryz.ntmps313]) rfl rfl ?_
 simp only [List.nil_append,List.cons_append,iO]
 refine gq ab8 ?_
 refine aa.op rfl (ae.E3 [] [(0,some (.fo J')),(1,none),(2,none),(3,none),(4,none),(5,none)] e0 rfl ⟨.pure (.sl fun r h=>by cases h),.pure (.ip eS),.pt rfl rfl,.pt rfl rfl,trivial⟩ (.pure .v) (YQ eS rfl rfl rfl) ⟨⟨0,_,rfl,rfl,.fo⟩,trivial⟩ (Hy.cell (i:=2) (q:=0) (j0:=0) rfl (by rfl) rfl (by rfl) (by decide) rfl)) ?_
 refine gq ab8 ?_
 refine fq ?_
 exact⟨[],.aB (.aE fun a h=>by cases h),⟨.inl ⟨_,rfl,.same trivial⟩,trivial⟩,rfl⟩
theorem Tp (p:Pg) (i j:Int) (a b:Rl) (f t:List At):ah Tryz.prog w0 251 [.agg (iO ρ p i j a b f t)] (.fn (.func 313) [] [.ip (iO ρ p i j a b f t)]):=by
 have eS:=pB (ρ:=ρ) p i j a b f t
 obtain⟨ds,rs⟩:=p
 obtain⟨an,ak,ar,ag,ab,av⟩:=a
 obtain⟨bn,bk,br,bg,sy,bv⟩:=b
 unfold iO at eS ⊢
 refine agV.bu (by simp [Tryz.ntmps251]) ((.fn (fun a ha=>by cases ha) fun a ha=>by obtain rfl:=List.mem_singleton.1 ha;exact .ip eS)) ?_
 refine gq alq ?_
 repeat' (first
  |(refine fq ?_))
 refine bp.fns ?_ ?_
 ·exact trivial
 ·exact⟨bp.box (cs:=iO ρ ⟨ds,rs⟩ i j ⟨an,ak,ar,ag,ab,av⟩ ⟨bn,bk,br,bg,sy,bv⟩ f t) (cs':=iO ρ ⟨ds,rs⟩ i j ⟨an,ak,ar,ag,ab,av⟩ ⟨bn,bk,br,bg,sy,bv⟩ f t) rfl ⟨.refl _,.refl _,.refl _,.refl _,.refl _,.refl _,.refl _,.refl _,.refl _,.refl _,.refl _,.refl _,.refl _,.refl _,.refl _,.refl _,.refl _,.refl _,trivial⟩,trivial⟩
theorem NJ (p:Pg) (i x:Int) (a b:Rl) (f t:List At) (hx:x=-1\/x=0):ah Tryz.prog w0 252 [.agg (iO ρ p i i a b f t),.sl false [[iv x]]] (.v (.bool false)):=by
 have eS:=pB (ρ:=ρ) p i i a b f t
 obtain⟨ds,rs⟩:=p
 obtain⟨an,ak,ar,ag,ab,av⟩:=a
 obtain⟨bn,bk,br,bg,sy,bv⟩:=b
 have P2:fV 1 (.arr 18 [iO ρ ⟨ds,rs⟩ i i ⟨an,ak,ar,ag,ab,av⟩ ⟨bn,bk,br,bg,sy,bv⟩ f t] 0 true):=fun r hr a ha=>by
  obtain rfl:=List.mem_singleton.1 hr
  exact (eS a ha).b9
 clear eS
 unfold iO at P2 ⊢
 refine agX.bu (by simp [Tryz.ntmps252]) (.v) ?_
 refine gq qu ?_
 refine bq (fun ku=>?_) (fun ku=>?_)<;>(try simp only [aM] at ku)
 rotate_left
 ·exact absurd trivial ku
 refine gq qu ?_
 refine bL fun m hm=>?_
 have cT:m=1:=by rw [hm];rfl
 refine gq qu ?_
 refine aa.bP (σ:=Int × Bool × Bool) 1 1 [] (fun p=>[(2,.pt 0 18 0 0),(5,.v (.bool p.2.1)),(6,.v (.bool p.2.2)),(14,.sl false [[iv x]]),(15,.v (.int .i64 m)),(16,.v (.int .i64 p.1))]) [] (fun _=>[(0,.arr 18 [iO ρ ⟨ds,rs⟩ i i ⟨an,ak,ar,ag,ab,av⟩ ⟨bn,bk,br,bg,sy,bv⟩ f t] 0 true)]) (fun p=>(p.1=0/\p.2.1=false/\p.2.2=true)\/(p.1=1/\(p.2.1=false\/p.2.2=true))) (fun p=>1 - p.1.toNat) (0,false,true) (.inl ⟨rfl,rfl,rfl⟩) rfl (by exact⟨⟨.aB rfl (.pt (by decide)),.aB rfl .v,.aB rfl .v,.aB rfl (.sl fun r hr a ha=>by obtain rfl:=List.mem_singleton.1 hr;obtain rfl:=List.mem_singleton.1 ha;exact .v),.aB rfl .v,.aB rfl .v,trivial⟩,rfl,⟨.inl ⟨_,rfl,.same P2⟩,trivial⟩,rfl,rfl,rfl⟩) ?_
 rintro⟨i2,rm,sm⟩ hI
 simp only at hI
 rcases hI with ⟨rfl,rfl,rfl⟩|⟨hi,jb⟩
 ·refine gq qu ?_
  refine bq (fun eB=>?_) (fun eB=>?_)<;>(try simp only [aM] at eB)
  rotate_left
  ·exfalso;omega
  refine gq qu ?_
  refine aa.op rfl (ae.ind (row:=[iv x]) rfl rfl rfl (fun r hr=>by obtain rfl:=List.mem_singleton.1 hr;rfl)) ?_
  refine gq qu ?_
  repeat' (first
   |(refine bq (fun hb=>?_) (fun hb=>?_)<;>(try simp only [aM] at hb)<;>(first|refine gq qu ?_))
   |(refine bL fun m hm=>?_;(try rw [aF] at hm);refine gq qu ?_)
   |(refine cr fun _ _=>?_;refine gq qu ?_)
   )
  all_goals first
   |(exfalso;omega)
   |(rename_i i3 td;refine aa.bm (σ:=Int × Bool × Bool) (i3,false,true) [] (.inr ⟨by simp only;omega,.inl rfl⟩) ?_ (by exact⟨⟨.aB rfl (.pt (by decide)),.aB rfl .v,.aB rfl .v,.aB rfl (.sl fun r hr a ha=>by obtain rfl:=List.mem_singleton.1 hr;obtain rfl:=List.mem_singleton.1 ha;exact .v),.aB rfl .v,.aB rfl .v,trivial⟩,rfl,⟨.inl ⟨_,rfl,.same P2⟩,trivial⟩,rfl,rfl,rfl⟩);simp only;omega)
   |(rename_i i3 td;refine aa.bm (σ:=Int × Bool × Bool) (i3,true,true) [] (.inr ⟨by simp only;omega,.inr rfl⟩) ?_ (by exact⟨⟨.aB rfl (.pt (by decide)),.aB rfl .v,.aB rfl .v,.aB rfl (.sl fun r hr a ha=>by obtain rfl:=List.mem_singleton.1 hr;obtain rfl:=List.mem_singleton.1 ha;exact .v),.aB rfl .v,.aB rfl .v,trivial⟩,rfl,⟨.inl ⟨_,rfl,.same P2⟩,trivial⟩,rfl,rfl,rfl⟩);simp only;omega)
   |(rename_i i3 td;refine aa.bm (σ:=Int × Bool × Bool) (i3,false,false) [] (.inr ⟨by simp only;omega,.inl rfl⟩) ?_ (by exact⟨⟨.aB rfl (.pt (by decide)),.aB rfl .v,.aB rfl .v,.aB rfl (.sl fun r hr a ha=>by obtain rfl:=List.mem_singleton.1 hr;obtain rfl:=List.mem_singleton.1 ha;exact .v),.aB rfl .v,.aB rfl .v,trivial⟩,rfl,⟨.inl ⟨_,rfl,.same P2⟩,trivial⟩,rfl,rfl,rfl⟩);simp only;omega)
 ·cases rm<;>cases sm
  rotate_left 2
  ·rcases jb with h|h<;>cases h
  all_goals
   refine gq qu ?_
   repeat' (first
    |(refine bq (fun hb=>?_) (fun hb=>?_)<;>(try simp only [aM] at hb)<;>(first|refine gq qu ?_))
    |(refine aa.aR ?_;refine gq qu ?_)
    |(refine fq ?_))
  all_goals first
   |(exfalso;omega)
   |exact .refl _
end
end
section
set_option maxRecDepth 100000
attribute [local irreducible] ah aK ae aa
def Wc:CF Tryz.f179:=⟨_,by conv=>lhs;cbv⟩
theorem agY:aT Tryz.prog 179 Wc.1 Tryz.f179.ntmps:=bX Tryz.func179 Wc.2 Tryz.call179
def oQ:List Nat:=[10,3,1,6,7,2,11,12,15,0,9,38,69,70,74,83,14,85,13]
def Wd:CF Tryz.f117:=⟨_,by conv=>lhs;cbv⟩
theorem agZ:aT Tryz.prog 117 Wd.1 Tryz.f117.ntmps:=bX Tryz.func117 Wd.2 Tryz.call117
def lM:List Nat:=[1,21,8,7,10,6,2,3,0,5,17,20,22,29,40,9]
structure als (r:Rl) (h0:At):Prop where
 ke:r.a7=[]
 re:r.rem=[h0]
 g:r.guard.length<=100000000000
 b:r.body.length<=100000000000
 s2:cN h0.a<=100000000000
 s3:∀ x ∈ r.guard,cN x.a<=100000000000
 s4:∀ x ∈ r.body,cN x.a<=100000000000
section
variable {w0:World}{ρ:Hd}
theorem Tq (p:Pg) (r:Rl) (h0:At) (jJ:zE p) (hc:(kA p).2=0) (jb:p.rs=[r]) (hr:als r h0):ah Tryz.prog w0 179 [pg ρ p,iv 0,iv 0] (.aE [.sl true [],iv 0]):=by
 have yt:=CZ (w0:=w0) (ρ:=ρ) p jJ
 rw [hc] at yt
 obtain⟨c1,fW⟩:∃ c,c=(kA p).1:=⟨_,rfl⟩
 rw [<-fW] at yt
 have hS:=Ia (w0:=w0) (ρ:=ρ) r.vars r (by rw [hr.ke];simp) (by rw [hr.re];simp) hr.g hr.b (by rw [hr.ke];simp) (by rw [hr.re];intro x hx;obtain rfl:=List.mem_singleton.1 hx;exact hr.s2) hr.s3 hr.s4
 obtain⟨r',eK⟩:∃ r',r'=Dq r.vars r:=⟨_,rfl⟩
 rw [<-eK] at hS
 have fy:r'.a7=[]:=by rw [eK,Dq,hr.ke];rfl
 have NK:r'.rem=[sv r.vars h0]:=by rw [eK,Dq,hr.re];rfl
 clear eK
 obtain⟨h1,We⟩:∃ h1,h1=sv r.vars h0:=⟨_,rfl⟩
 have nn:h1.n=h0.n:=by rw [We,sv]
 have vX:h1.a.length=h0.a.length:=by rw [We,sv,List.length_map]
 rw [<-We] at NK
 have hH1:=HE (w0:=w0) (ρ:=ρ) r (by rw [hr.ke,hr.re];simp)
 have hH2:=HE (w0:=w0) (ρ:=ρ) r' (by rw [fy,NK];simp)
 obtain⟨F,hF⟩:∃ F,F=r.a7++r.rem:=⟨_,rfl⟩
 obtain⟨T,hT⟩:∃ T,T=r'.a7++r'.rem:=⟨_,rfl⟩
 rw [<-hF] at hH1
 rw [<-hT] at hH2
 have BI:F=[h0]:=by rw [hF,hr.ke,hr.re];rfl
 have hT1:T=[h1]:=by rw [hT,fy,NK];rfl
 have hL:=Tp (w0:=w0) (ρ:=ρ) p 0 0 r r' F T
 have hI:=To (w0:=w0) (ρ:=ρ) p 0 0 r r' F T h0 h1 BI hT1 nn vX
 have hO:∀ x:Int,x=-1\/x=0->_:=fun x hx=>NJ (w0:=w0) (ρ:=ρ) p 0 x r r' F T hx
 have eS:=pB (ρ:=ρ) p 0 0 r r' F T
 have jI:=lD (ρ:=ρ) p
 have Jw:=nW (ρ:=ρ) r
 have alu:=nW (ρ:=ρ) r'
 have lB:p.rs[0]?=some r:=by rw [jb];rfl
 have fE:p.rs.length=1:=by rw [jb];rfl
 clear hF hT jb hc fW hr jJ fy NK We
 obtain⟨ds,rs⟩:=p
 obtain⟨rn,rk,rr,rg,rb,rv⟩:=r
 obtain⟨bn,bk,br,bg,bb,bv⟩:=r'
 simp only at lB fE
 refine agY.bu (by simp [Tryz.ntmps179]) ((.aE (tA (.sl fun r h=>by cases h) .v))) ?_
 refine gq oQ ?_
 repeat' (first
  |(refine aa.op rfl (ae.aL rfl yt ⟨jI,trivial⟩) ?_;refine gq oQ ?_)
  |(refine bq (fun hb=>?_) (fun hb=>?_)<;>(try simp only [aM] at hb)<;>(first|exact absurd hb (by decide)|refine gq oQ ?_))
  |(refine bL fun m hm=>?_;(try rw [aF] at hm);refine gq oQ ?_)
  |(refine fq ?_))
 all_goals first
  |(exfalso;omega)
  |skip
 refine aa.gm rfl (fun T=>ae.ind rfl rfl (bU (l:=rs) (k:=0) rfl lB) (bV fun _=>rfl)) ?_
 refine gq oQ ?_
 refine aa.gm rfl (fun T=>ae.ind rfl rfl (bU (l:=rs) (k:=0) rfl lB) (bV fun _=>rfl)) ?_
 refine gq oQ ?_
 refine aa.gm rfl (fun T=>ae.ind rfl rfl (bU (l:=rs) (k:=0) rfl lB) (bV fun _=>rfl)) ?_
 refine gq oQ ?_
 refine aa.gm rfl (fun T=>ae.aL rfl hS ⟨Jw,.v,trivial⟩) ?_
 refine gq oQ ?_
 refine aa.op rfl (ae.aL rfl hH1 ⟨Jw,trivial⟩) ?_
 refine gq oQ ?_
 refine aa.op rfl (ae.aL rfl hH2 ⟨alu,trivial⟩) ?_
 refine gq oQ ?_
 refine aa.op rfl (ae.aL rfl hL ⟨.agg eS,trivial⟩) ?_
 refine gq oQ ?_
 have k1:fV 6 (.arr 1 [[.sl true []]] 0 true):=pf fun a ha=>by obtain rfl:=List.mem_singleton.1 ha;exact .sl fun r h=>by cases h
 have k2:fV 6 (.arr 1 [[.v (.int .i64 0)]] 0 true):=pf fun a ha=>by obtain rfl:=List.mem_singleton.1 ha;exact .v
 have k3:fV 6 (.arr 18 [(iO ρ ⟨ds,rs⟩ 0 0 ⟨rn,rk,rr,rg,rb,rv⟩ ⟨bn,bk,br,bg,bb,bv⟩ F T)] 0 true):=pf eS
 refine aa.range (σ:=Unit) (fun x:Int=>[.sl false [[iv x]]]) [-1,0] 6 6 [] [(6,.pt 1 1 0 0),(7,.pt 2 1 0 0),(10,.pt 3 18 0 0),(11,.pt 4 1 0 0)] (fun _=>[(1,.arr 1 [[.sl true []]] 0 true),(2,.arr 1 [[.v (.int .i64 0)]] 0 true),(3,.arr 18 [(iO ρ ⟨ds,rs⟩ 0 0 ⟨rn,rk,rr,rg,rb,rv⟩ ⟨bn,bk,br,bg,bb,bv⟩ F T)] 0 true),(4,.arr 1 [[.sl true []]] 0 true),(5,.df)])
  (fun rest _=>∀ x ∈ rest,x=-1\/x=0) () rfl (fun a ha=>by cases ha) (fun a ha=>by obtain rfl:=List.mem_singleton.1 ha;exact .ip eS) hI rfl (fun x hx=>by simpa using hx) rfl
  (by intro p hp;simp only [List.mem_cons,List.not_mem_nil,or_false] at hp;rcases hp with rfl|rfl|rfl|rfl<;>exact .pt (by decide)) rfl (fun x=>⟨rfl,fun a ha=>by obtain rfl:=List.mem_singleton.1 ha;exact .sl fun r hr a ha=>by obtain rfl:=List.mem_singleton.1 hr;obtain rfl:=List.mem_singleton.1 ha;exact .v⟩)
  ⟨⟨.aB rfl (.pt (by decide)),.aB rfl (.pt (by decide)),.aB rfl (.pt (by decide)),.aB rfl (.pt (by decide)),trivial⟩,rfl,⟨.inl ⟨_,rfl,.same k1⟩,.inl ⟨_,rfl,.same k2⟩,.inl ⟨_,rfl,.same k3⟩,.inl ⟨_,rfl,.same k1⟩,.inl ⟨_,rfl,.same trivial⟩,trivial⟩,rfl,rfl,rfl⟩ ?_ ?_
 ·rintro x rest ⟨⟩ hx
  unfold iO
  refine gq oQ ?_
  refine aa.op rfl (ae.aL rfl (hO x (hx x (by simp))) ⟨.agg eS,.sl (fun r hr a ha=>by obtain rfl:=List.mem_singleton.1 hr;obtain rfl:=List.mem_singleton.1 ha;exact .v),trivial⟩) ?_
  refine gq oQ ?_
  exact aa.Q5 () [] (fun y hy=>hx y (by simp [hy])) ⟨trivial,rfl,⟨.inl ⟨_,rfl,.same k1⟩,.inl ⟨_,rfl,.same k2⟩,.inl ⟨_,rfl,.same k3⟩,.inl ⟨_,rfl,.same k1⟩,.inl ⟨_,rfl,.same trivial⟩,trivial⟩,rfl,rfl,rfl⟩
 ·rintro⟨⟩ hx
  unfold iO
  refine gq oQ ?_
  refine aa.fin (by conv=>lhs;cbv) ?_
  exact .refl _
end
end
section
set_option maxRecDepth 100000
attribute [local irreducible] ah aK ae aa
def Ch (l:List Gl):Bool:=decide ((l.length:Int)<=6) && l.all vO
def E4 (r:Rl):Bool:=decide (r.a7.length<=3) && (decide (r.rem.length<=3) && (decide (r.a7.length+r.rem.length<=3) && (decide (r.guard.length<=6) && (decide (r.body.length<=6) && (r.a7.all tq && (r.rem.all tq && (Ch r.guard && Ch r.body)))))))
def Ci (p:Pg):Bool:=decide (p.ds.length<=12) && (decide (p.rs.length<=8) && p.rs.all E4)
section
variable {w0:World}{ρ:Hd}
set_option maxHeartbeats 2000000 in
theorem NL (p:Pg) (jJ:zE p):ah Tryz.prog w0 27 [pg ρ p] (.v (.bool (Ci p))):=by
 obtain⟨hd,fE,_,O6⟩:=jJ
 obtain⟨R,hR⟩:∃ R,R=Ci p:=⟨_,rfl⟩
 rw [<-hR]
 unfold Ci at hR
 obtain⟨ds,rs⟩:=p
 dsimp only at hR hd fE O6
 refine alm.bu (by simp [Tryz.ntmps27]) (.v) ?_
 refine gq o3 ?_
 repeat' (first
  |(refine bq (fun hb=>?_) (fun hb=>?_)<;>(try simp only [aM] at hb)<;>(first|refine gq o3 ?_))
  |(refine bL fun m hm=>?_;(try rw [aF] at hm);refine gq o3 ?_)
  |(refine fq ?_))
 all_goals first
  |(rw [hR,decide_eq_false (show ¬ ds.length<=12 by omega)];exact eQ rfl)
  |(refine eQ ?_;rw [hR,decide_eq_false (show ¬ rs.length<=8 by omega)];simp;done)
  |skip
 rw [decide_eq_true (show ds.length<=12 by omega),decide_eq_true (show rs.length<=8 by omega),Bool.true_and,Bool.true_and] at hR
 refine aa.bP (σ:=Int) 1 1 [] (fun q=>[(1,.pt 0 2 0 0),(3,.v (.int .i64 q))]) [] (fun _=>[(0,.arr 2 [mR ρ ⟨ds,rs⟩] 0 true)]) (fun q=>∃ k:Nat,q=k/\k<=rs.length/\R=(rs.drop k).all E4) (fun q=>rs.length - q.toNat) 0 ⟨0,rfl,by simp,by simpa using hR⟩ rfl (by exact⟨sq,rfl,⟨.inl ⟨_,rfl,.arr (by exact⟨kq,trivial⟩)⟩,trivial⟩,rfl,rfl,rfl⟩) ?_
 rintro q ⟨k,hi,hk,hp⟩
 clear hR
 refine gq o3 ?_
 by_cases aA:k < rs.length
 ·obtain⟨x,hx,cg⟩:=cd aA
  have oP:=O6 x (g8 hx)
  have h1:=Jx (w0:=w0) (ρ:=ρ) x.a7 oP.ke fun y hy=>(oP.kx y hy).1
  have h2:=Jx (w0:=w0) (ρ:=ρ) x.rem oP.re fun y hy=>(oP.rx y hy).1
  have h3:=HF (w0:=w0) (ρ:=ρ) x.guard 6 oP.g fun y hy=>(oP.gx y hy).1
  have h4:=HF (w0:=w0) (ρ:=ρ) x.body 6 oP.b fun y hy=>(oP.bx y hy).1
  have e1:=oP.ke
  have e2:=oP.re
  have e3:=oP.g
  have e4:=oP.b
  rw [cg,List.all_cons,E4] at hp
  obtain⟨x1,iM⟩:∃ b,b=x.a7.all tq:=⟨_,rfl⟩
  obtain⟨x2,Ts⟩:∃ b,b=x.rem.all tq:=⟨_,rfl⟩
  obtain⟨x3,OZ⟩:∃ b,b=Ch x.guard:=⟨_,rfl⟩
  obtain⟨x4,hx4⟩:∃ b,b=Ch x.body:=⟨_,rfl⟩
  rw [<-iM,<-Ts,<-OZ,<-hx4] at hp
  rw [<-iM] at h1
  rw [<-Ts] at h2
  rw [show (decide ((x.guard.length:Int)<=6) && x.guard.all vO)=x3 from OZ.symm] at h3
  rw [show (decide ((x.body.length:Int)<=6) && x.body.all vO)=x4 from hx4.symm] at h4
  obtain⟨T,hT⟩:∃ T,T=(rs.drop (k+1)).all E4:=⟨_,rfl⟩
  rw [<-hT] at hp
  clear iM Ts OZ hx4 oP
  obtain⟨n,ke,re,g,b,v⟩:=x
  dsimp only at hp h1 h2 h3 h4 e1 e2 e3 e4
  refine aa.int rfl (ae.len rfl) fun m0 G1=>?_;rw [aF] at G1
  refine gq o3 ?_
  repeat' (first
   |(refine aa.op rfl (ae.ind rfl rfl (bU (l:=rs) hi hx) (bV fun _=>rfl)) ?_;refine gq o3 ?_)
   |(refine aa.bif rfl (ae.aL rfl h1 ⟨dy _,trivial⟩) (fun _=>?_) (fun _=>?_)<;>refine gq o3 ?_)
   |(refine aa.bif rfl (ae.aL rfl h2 ⟨dy _,trivial⟩) (fun _=>?_) (fun _=>?_)<;>refine gq o3 ?_)
   |(refine aa.bif rfl (ae.aL rfl h3 ⟨dz _,.v,trivial⟩) (fun _=>?_) (fun _=>?_)<;>refine gq o3 ?_)
   |(refine aa.bif rfl (ae.aL rfl h4 ⟨dz _,.v,trivial⟩) (fun _=>?_) (fun _=>?_)<;>refine gq o3 ?_)
   |(refine bq (fun hb=>?_) (fun hb=>?_)<;>(try simp only [aM] at hb)<;>(first|refine gq o3 ?_))
   |(refine bL fun m hm=>?_;(try rw [aF] at hm);refine gq o3 ?_)
   |(refine cr fun _ _=>?_;refine gq o3 ?_)
   |(refine aa.aR ?_;refine gq o3 ?_)
   |(refine aa.iB ?_;refine gq o3 ?_)
   |(refine fq ?_))
  all_goals first
   |(exfalso;omega)
   |(refine eQ ?_;rw [hp,decide_eq_false (show ¬ ke.length<=3 by omega)];simp;done)
   |(refine eQ ?_;rw [hp,decide_eq_false (show ¬ re.length<=3 by omega)];simp;done)
   |(refine eQ ?_;rw [hp,decide_eq_false (show ¬ ke.length+re.length<=3 by omega)];simp;done)
   |(refine eQ ?_;rw [hp,decide_eq_false (show ¬ g.length<=6 by omega)];simp;done)
   |(refine eQ ?_;rw [hp,decide_eq_false (show ¬ b.length<=6 by omega)];simp;done)
   |(refine eQ ?_;rw [hp,show x1=false by assumption];simp;done)
   |(refine eQ ?_;rw [hp,show x2=false by assumption];simp;done)
   |(refine eQ ?_;rw [hp,show x3=false by assumption];simp;done)
   |(refine eQ ?_;rw [hp,show x4=false by assumption];simp;done)
   |(rw [decide_eq_true (show ke.length<=3 by omega),decide_eq_true (show re.length<=3 by omega),decide_eq_true (show ke.length+re.length<=3 by omega),decide_eq_true (show g.length<=6 by omega),decide_eq_true (show b.length<=6 by omega),show x1=true by assumption,show x2=true by assumption,show x3=true by assumption,show x4=true by assumption] at hp
     simp only [Bool.true_and] at hp
     rw [hT] at hp
     refine aa.bm (σ:=Int) _ [] ?_ ?_ (by exact⟨sq,rfl,⟨.inl ⟨_,rfl,.arr (by exact⟨kq,trivial⟩)⟩,trivial⟩,rfl,rfl,rfl⟩)<;>first|omega|exact⟨k+1,by omega,by omega,hp⟩)
 rw [List.drop_eq_nil_of_le (by omega),List.all_nil] at hp
 repeat' (first
  |(refine bq (fun hb=>?_) (fun hb=>?_)<;>(try simp only [aM] at hb)<;>(first|refine gq o3 ?_))
  |(refine bL fun m hm=>?_;(try rw [aF] at hm);refine gq o3 ?_)
  |(refine aa.aR ?_;refine gq o3 ?_)
  |(refine fq ?_))
 all_goals first
  |(exfalso;omega)
  |(rw [hp];exact eQ rfl)
end
end
end Go.Proofs.YtgjfgekaclobaaaGreat
