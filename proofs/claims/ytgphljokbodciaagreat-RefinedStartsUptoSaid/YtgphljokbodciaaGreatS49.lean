import Derived.Test.YtgphljokbodciaaGreatS48
namespace Go.Proofs.YtgphljokbodciaaGreat
set_option linter.unusedVariables false
set_option linter.unusedSimpArgs false
open Go.RowKit
section
set_option maxRecDepth 100000
attribute [local irreducible] ah aV ad ab
def SR:CF Tryz.f360:=⟨_,by conv=>lhs;cbv⟩
theorem ad8:aD Tryz.prog 360 SR.1 Tryz.f360.ntmps:=aO Tryz.func360 SR.2 Tryz.call360
def OE:List Nat:=[1,0,3,5]
def SS:CF Tryz.f246:=⟨_,by conv=>lhs;cbv⟩
theorem ad9:aD Tryz.prog 246 SS.1 Tryz.f246.ntmps:=aO Tryz.func246 SS.2 Tryz.call246
def XY:List Nat:=[4,0,1,2]
def SU:CF Tryz.f255:=⟨_,by conv=>lhs;cbv⟩
theorem ad_:aD Tryz.prog 255 SU.1 Tryz.f255.ntmps:=aO Tryz.func255 SU.2 Tryz.call255
def XZ:List Nat:=[3,0,1]
def SV:CF Tryz.f131:=⟨_,by conv=>lhs;cbv⟩
theorem aea:aD Tryz.prog 131 SV.1 Tryz.f131.ntmps:=aO Tryz.func131 SV.2 Tryz.call131
def Ke:List Nat:=[3,2,4,0,1]
def SW:CF Tryz.f258:=⟨_,by conv=>lhs;cbv⟩
theorem aeb:aD Tryz.prog 258 SW.1 Tryz.f258.ntmps:=aO Tryz.func258 SW.2 Tryz.call258
def X0:List Nat:=[3,1,0,5]
def SX:CF Tryz.f133:=⟨_,by conv=>lhs;cbv⟩
theorem SY:aD Tryz.prog 133 SX.1 Tryz.f133.ntmps:=aO Tryz.func133 SX.2 Tryz.call133
def uE:List Nat:=[3,2,5,4,0,1,14]
def OF (ρ:Hd) (p:Pg) (c:eD) (m:Int):List AV:=[oo ρ c.stack,fN ρ c.store,eL ρ c.binds,gW ρ c.b9,iv c.next,iv c.fresh,.v (.bool c.failed),dP ρ p.ds,Fs ρ p.rs,.mp 2,iv m]
def gF (ρ:Hd) (p:Pg) (c:eD) (m:Int):Ob:=.arr 11 [OF ρ p c m] 0 true
def sF (ρ:Hd) (kv:List (Int × Unit)):Ob:=.mp (ρ.h (kX fU) kv)
def sG:Ob:=.arr 1 [[.pt 3 11 0 0]] 0 true
section
variable {w0:World}{ρ:Hd}
theorem eF {N:Nat}(h:3<=N) (p:Pg) (c:eD) (m:Int):ba N (gF ρ p c m):=by
 refine⟨fun row hr a ha=>?_,fun J h=>by cases h⟩
 obtain rfl:=List.mem_singleton.1 hr
 simp only [OF,List.mem_cons,List.not_mem_nil,or_false] at ha
 rcases ha with rfl|rfl|rfl|rfl|rfl|rfl|rfl|rfl|rfl|rfl|rfl
 ·exact (dR _).bM
 ·exact (ct _).bM
 ·exact (b8 _).bM
 ·exact (cN _).bM
 ·exact .v
 ·exact .v
 ·exact .v
 ·exact (cg _).bM
 ·exact (qI _).bM
 ·exact .mp (by omega)
 ·exact .v
theorem kM {N:Nat}(kv:List (Int × Unit)):ba N (sF ρ kv):=⟨jC,fun J h=>by cases h⟩
theorem tE {N:Nat}(h:4<=N):ba N sG:=⟨fun row hr a ha=>by
 obtain rfl:=List.mem_singleton.1 hr
 obtain rfl:=List.mem_singleton.1 ha
 exact .pt (by omega),fun J h=>by cases h⟩
theorem OG {o0 o1:Ob}(k0:ba 5 o0) (k1:ba 5 o1) (p:Pg) (c:eD) (m:Int) (kv:List (Int × Unit)) (v:Int):aV Tryz.prog w0 360 [iv v,.pt 4 1 0 0] (aE [(0,o0),(1,o1),(2,sF ρ kv),(3,gF ρ p c m),(4,sG)] 5) (.v (.bool (decide (v < c.fresh) && !jh kv v))) (aE [(0,o0),(1,o1),(2,sF ρ kv),(3,gF ρ p c m),(4,sG)] 5):=by
 have k2:=kM (ρ:=ρ) (N:=5) kv
 have k3:=eF (ρ:=ρ) (N:=5) (by decide) p c m
 have k4:=tE (N:=5) (by decide)
 obtain⟨R,hR⟩:∃ R,R=(decide (v < c.fresh) && !jh kv v):=⟨_,rfl⟩
 rw [<-hR]
 obtain⟨ds,rs⟩:=p
 obtain⟨stack,store,binds,b9,next,fresh,failed⟩:=c
 dsimp only at hR
 unfold jh at hR
 unfold sF gF sG at *
 refine aD.dw 5 5 _ ad8 (by simp [Tryz.ntmps360]) rfl rfl ?_
 refine gq OE ?_
 repeat' (first
  |((refine ab.look rfl rfl rfl rfl (fun x hx=>?_) (fun hx=>?_)<;>refine gq OE ?_))
  |(refine bq (fun hb=>?_) (fun hb=>?_)<;>(try simp only [aq] at hb)<;>(first|refine gq OE ?_))
  |(refine fq ?_))
 all_goals first
  |(rw [show R=true by rw [hR,hx,decide_eq_true (by omega)];rfl];exact⟨[],.aC .v,⟨.inl ⟨_,rfl,.same k0.1⟩,.inl ⟨_,rfl,.same k1.1⟩,.inl ⟨_,rfl,.same k2.1⟩,.inl ⟨_,rfl,.same k3.1⟩,.inl ⟨_,rfl,.same k4.1⟩,trivial⟩,rfl⟩)
  |(rw [show R=false by rw [hR,hx];first|(simp;done)|(simp;omega)];exact⟨[],.aC .v,⟨.inl ⟨_,rfl,.same k0.1⟩,.inl ⟨_,rfl,.same k1.1⟩,.inl ⟨_,rfl,.same k2.1⟩,.inl ⟨_,rfl,.same k3.1⟩,.inl ⟨_,rfl,.same k4.1⟩,trivial⟩,rfl⟩)
theorem Gv {o0 o1:Ob}(k0:ba 4 o0) (k1:ba 4 o1) (p:Pg) (c:eD) (m:Int) (kv:List (Int × Unit)) (jG:∀ v,jh kv v=gz c.binds v) (vs:List Int) (hv:vs.length<=1099511627776):aV Tryz.prog w0 246 [.pt 3 11 0 0,bY ρ bJ false vs] (aE [(0,o0),(1,o1),(2,sF ρ kv),(3,gF ρ p c m)] 4) (.v (.bool (fg vs c.fresh c.binds))) (aE [(0,o0),(1,o1),(2,sF ρ kv),(3,gF ρ p c m)] 4):=by
 have q0:=k0.mono (show 4<=5 by decide)
 have q1:=k1.mono (show 4<=5 by decide)
 have q2:=kM (ρ:=ρ) (N:=5) kv
 have q3:=eF (ρ:=ρ) (N:=5) (by decide) p c m
 have q4:=tE (N:=5) (by decide)
 have k2:=kM (ρ:=ρ) (N:=4) kv
 have k3:=eF (ρ:=ρ) (N:=4) (by decide) p c m
 have hF:cD 5 (.fn (.func 360) [] [.pt 4 1 0 0]):=.fn (fun a ha=>by cases ha) fun a ha=>by obtain rfl:=List.mem_singleton.1 ha;exact .pt (by decide)
 have hC:=Kd (w0:=w0) (ρ:=ρ) q0 q1 q2 q3 q4 (fun v=>decide (v < c.fresh) && !jh kv v) vs _ _ _ hv hF fun x _=>⟨_,[iv x,.pt 4 1 0 0],rfl,fun a ha=>by simp only [List.mem_cons,List.not_mem_nil,or_false] at ha;rcases ha with rfl|rfl;exact .v;exact .pt (by decide),OG q0 q1 p c m kv x⟩
 rw [show fg vs c.fresh c.binds=vs.all fun v=>decide (v < c.fresh) && !jh kv v by rw [fg];congr 1;funext v;rw [jG]]
 obtain⟨B,hB⟩:∃ B,B=vs.all fun v=>decide (v < c.fresh) && !jh kv v:=⟨_,rfl⟩
 rw [<-hB] at hC ⊢
 clear hB jG
 obtain⟨o2,n_⟩:∃ o,o=sF ρ kv:=⟨_,rfl⟩
 obtain⟨o3,X1⟩:∃ o,o=gF ρ p c m:=⟨_,rfl⟩
 rw [<-n_,<-X1] at hC ⊢
 rw [<-n_] at k2 q2
 rw [<-X1] at k3 q3
 clear n_ X1
 refine aD.dw 4 4 _ ad9 (by simp [Tryz.ntmps246]) rfl rfl ?_
 unfold sG at *
 refine gq XY ?_
 repeat' (first
  |(refine ab.bif rfl (ad.gN hC rfl (fp rfl rfl rfl rfl rfl rfl q0 q1 q2 q3 q4) (fun a ha=>by simp only [List.mem_cons,List.not_mem_nil,or_false] at ha;rcases ha with rfl|rfl;exact Pure.bM (bR _);exact hF) .v) (fun _=>?_) (fun _=>?_)<;>refine gq XY ?_)
  |(refine fq ?_))
 all_goals (rw [show B=_ by assumption];exact⟨[],.aC .v,⟨.inl ⟨_,rfl,.same k0.1⟩,.inl ⟨_,rfl,.same k1.1⟩,.inl ⟨_,rfl,.same k2.1⟩,.inl ⟨_,rfl,.same k3.1⟩,trivial⟩,rfl⟩)
theorem OH {o0 o1 o2:Ob}(q0:ba 5 o0) (q1:ba 5 o1) (q2:ba 5 o2) (p:Pg) (c:eD) (m:Int) (v:Int):aV Tryz.prog w0 255 [iv v,.pt 4 1 0 0] (aE [(0,o0),(1,o1),(2,o2),(3,gF ρ p c m),(4,sG)] 5) (.v (.bool (decide (v < c.fresh)))) (aE [(0,o0),(1,o1),(2,o2),(3,gF ρ p c m),(4,sG)] 5):=by
 have q3:=eF (ρ:=ρ) (N:=5) (by decide) p c m
 have q4:=tE (N:=5) (by decide)
 obtain⟨R,hR⟩:∃ R,R=decide (v < c.fresh):=⟨_,rfl⟩
 rw [<-hR]
 obtain⟨ds,rs⟩:=p
 obtain⟨stack,store,binds,b9,next,fresh,failed⟩:=c
 dsimp only at hR
 unfold gF sG at *
 refine aD.dw 5 5 _ ad_ (by simp [Tryz.ntmps255]) rfl rfl ?_
 refine gq XZ ?_
 repeat' (first
  |(refine bq (fun hb=>?_) (fun hb=>?_)<;>(try simp only [aq] at hb)<;>(first|refine gq XZ ?_))
  |(refine fq ?_))
 all_goals first
  |(rw [show R=true by rw [hR];exact decide_eq_true (by omega)];exact⟨[],.aC .v,⟨.inl ⟨_,rfl,.same q0.1⟩,.inl ⟨_,rfl,.same q1.1⟩,.inl ⟨_,rfl,.same q2.1⟩,.inl ⟨_,rfl,.same q3.1⟩,.inl ⟨_,rfl,.same q4.1⟩,trivial⟩,rfl⟩)
  |(rw [show R=false by rw [hR];exact decide_eq_false (by omega)];exact⟨[],.aC .v,⟨.inl ⟨_,rfl,.same q0.1⟩,.inl ⟨_,rfl,.same q1.1⟩,.inl ⟨_,rfl,.same q2.1⟩,.inl ⟨_,rfl,.same q3.1⟩,.inl ⟨_,rfl,.same q4.1⟩,trivial⟩,rfl⟩)
def pf (c:eD) (x:Bd):Bool:=decide (x.v < c.fresh) && (varsOf [x.t]).all fun v=>decide (v < c.fresh)
theorem Uy {o0 o1 o2:Ob}(k0:ba 4 o0) (k1:ba 4 o1) (k2:ba 4 o2) (p:Pg) (c:eD) (m:Int) (x:Bd) (hx:x.ok):aV Tryz.prog w0 131 [.pt 3 11 0 0,bd ρ x] (aE [(0,o0),(1,o1),(2,o2),(3,gF ρ p c m)] 4) (.v (.bool (pf c x))) (aE [(0,o0),(1,o1),(2,o2),(3,gF ρ p c m)] 4):=by
 have q0:=k0.mono (show 4<=5 by decide)
 have q1:=k1.mono (show 4<=5 by decide)
 have q2:=k2.mono (show 4<=5 by decide)
 have q3:=eF (ρ:=ρ) (N:=5) (by decide) p c m
 have q4:=tE (N:=5) (by decide)
 have k3:=eF (ρ:=ρ) (N:=4) (by decide) p c m
 have RI:(aY [x.t]).length<=1099511627776:=by
  rw [aY,aY,List.append_nil]
  exact Nat.le_trans (kp _) hx.2
 have hV:=KL (w0:=w0) (ρ:=ρ) x.t hx.1 (by first|exact Nat.le_trans (kp _) hx.2)
 have s9:(varsOf [x.t]).length<=1099511627776:=Nat.le_trans (gp _ _) RI
 have hF:cD 5 (.fn (.func 255) [] [.pt 4 1 0 0]):=.fn (fun a ha=>by cases ha) fun a ha=>by obtain rfl:=List.mem_singleton.1 ha;exact .pt (by decide)
 have hC:=Kd (w0:=w0) (ρ:=ρ) q0 q1 q2 q3 q4 (fun v=>decide (v < c.fresh)) (varsOf [x.t]) _ _ _ s9 hF fun x _=>⟨_,[iv x,.pt 4 1 0 0],rfl,fun a ha=>by simp only [List.mem_cons,List.not_mem_nil,or_false] at ha;rcases ha with rfl|rfl;exact .v;exact .pt (by decide),OH q0 q1 q2 p c m x⟩
 unfold pf
 obtain⟨B,hB⟩:∃ B,B=(varsOf [x.t]).all fun v=>decide (v < c.fresh):=⟨_,rfl⟩
 rw [<-hB] at hC ⊢
 obtain⟨vs,jH⟩:∃ vs,vs=varsOf [x.t]:=⟨_,rfl⟩
 rw [<-jH] at hV hC
 clear hB jH RI s9
 obtain⟨R,hR⟩:∃ R,R=(decide (x.v < c.fresh) && B):=⟨_,rfl⟩
 rw [<-hR]
 obtain⟨ds,rs⟩:=p
 obtain⟨stack,store,binds,b9,next,fresh,failed⟩:=c
 obtain⟨xv,xk,xi,xn,xa⟩:=x
 dsimp only at hR
 unfold gF at *
 refine aD.dw 4 4 _ aea (by simp [Tryz.ntmps131]) rfl rfl ?_
 unfold sG at *
 refine gq Ke ?_
 repeat' (first
  |(refine ab.op rfl (ad.ag rfl hV ⟨bf (ρ:=ρ) ⟨xk,xi,xn,xa⟩,trivial⟩) ?_;refine gq Ke ?_)
  |(refine ab.bif rfl (ad.gN hC rfl (fp rfl rfl rfl rfl rfl rfl q0 q1 q2 q3 q4) (fun a ha=>by simp only [List.mem_cons,List.not_mem_nil,or_false] at ha;rcases ha with rfl|rfl;exact Pure.bM (bR _);exact hF) .v) (fun _=>?_) (fun _=>?_)<;>refine gq Ke ?_)
  |(refine bq (fun hb=>?_) (fun hb=>?_)<;>(try simp only [aq] at hb)<;>(first|refine gq Ke ?_))
  |(refine fq ?_))
 all_goals first
  |(rw [show R=false by rw [hR,decide_eq_false (show ¬ xv < fresh by omega)];rfl];exact⟨[],.aC .v,⟨.inl ⟨_,rfl,.same k0.1⟩,.inl ⟨_,rfl,.same k1.1⟩,.inl ⟨_,rfl,.same k2.1⟩,.inl ⟨_,rfl,.same k3.1⟩,trivial⟩,rfl⟩)
  |(rw [show R=B by rw [hR,decide_eq_true (show xv < fresh by omega)];rfl,show B=_ by assumption];exact⟨[],.aC .v,⟨.inl ⟨_,rfl,.same k0.1⟩,.inl ⟨_,rfl,.same k1.1⟩,.inl ⟨_,rfl,.same k2.1⟩,.inl ⟨_,rfl,.same k3.1⟩,trivial⟩,rfl⟩)
theorem OI {o0 o1 o2:Ob}(q0:ba 5 o0) (q1:ba 5 o1) (q2:ba 5 o2) (p:Pg) (c:eD) (m:Int) (hs:c.store.length<=1099511627776) (v:Int):aV Tryz.prog w0 258 [iv v,.pt 4 1 0 0] (aE [(0,o0),(1,o1),(2,o2),(3,gF ρ p c m),(4,sG)] 5) (.v (.bool (ia c.store v).2)) (aE [(0,o0),(1,o1),(2,o2),(3,gF ρ p c m),(4,sG)] 5):=by
 have q3:=eF (ρ:=ρ) (N:=5) (by decide) p c m
 have q4:=tE (N:=5) (by decide)
 have hF:=VF (w0:=w0) (ρ:=ρ) c.store v hs
 obtain⟨⟨⟨an,aa⟩,R⟩,Se⟩:∃ q,q=ia c.store v:=⟨_,rfl⟩
 rw [<-Se] at hF ⊢
 clear Se
 dsimp only at hF ⊢
 obtain⟨ds,rs⟩:=p
 obtain⟨stack,store,binds,b9,next,fresh,failed⟩:=c
 dsimp only at hF
 unfold gF sG at *
 refine aD.dw 5 5 _ aeb (by simp [Tryz.ntmps258]) rfl rfl ?_
 refine gq X0 ?_
 repeat' (first
  |(refine ab.op rfl (ad.ag rfl hF ⟨ct _,.v,trivial⟩) ?_;refine gq X0 ?_)
  |(refine fq ?_))
 all_goals exact⟨[],.aC .v,⟨.inl ⟨_,rfl,.same q0.1⟩,.inl ⟨_,rfl,.same q1.1⟩,.inl ⟨_,rfl,.same q2.1⟩,.inl ⟨_,rfl,.same q3.1⟩,.inl ⟨_,rfl,.same q4.1⟩,trivial⟩,rfl⟩
def ph (p:Pg) (c:eD) (x:Fi):Bool:=match p.rs[x.jM.toNat]? with
 |none=>false
 |some r=>r.rem.isEmpty && decide (x.ids.length=r.aT.length) && x.ids.all fun id=>(ia c.store id).2
theorem Uz {o0 o1 o2:Ob}(k0:ba 4 o0) (k1:ba 4 o1) (k2:ba 4 o2) (p:Pg) (c:eD) (m:Int) (x:Fi) (h0:0<=x.jM) (hi:x.ids.length<=1099511627776) (fD:p.rs.length<=1099511627776) (hk:∀ r ∈ p.rs,r.aT.length<=1099511627776/\r.rem.length<=1099511627776) (hs:c.store.length<=1099511627776):aV Tryz.prog w0 133 [.pt 3 11 0 0,fi ρ x] (aE [(0,o0),(1,o1),(2,o2),(3,gF ρ p c m)] 4) (.v (.bool (ph p c x))) (aE [(0,o0),(1,o1),(2,o2),(3,gF ρ p c m)] 4):=by
 have q0:=k0.mono (show 4<=5 by decide)
 have q1:=k1.mono (show 4<=5 by decide)
 have q2:=k2.mono (show 4<=5 by decide)
 have q3:=eF (ρ:=ρ) (N:=5) (by decide) p c m
 have q4:=tE (N:=5) (by decide)
 have k3:=eF (ρ:=ρ) (N:=4) (by decide) p c m
 have hF:cD 5 (.fn (.func 258) [] [.pt 4 1 0 0]):=.fn (fun a ha=>by cases ha) fun a ha=>by obtain rfl:=List.mem_singleton.1 ha;exact .pt (by decide)
 have hC:=Kd (w0:=w0) (ρ:=ρ) q0 q1 q2 q3 q4 (fun v=>(ia c.store v).2) x.ids _ _ _ hi hF fun x _=>⟨_,[iv x,.pt 4 1 0 0],rfl,fun a ha=>by simp only [List.mem_cons,List.not_mem_nil,or_false] at ha;rcases ha with rfl|rfl;exact .v;exact .pt (by decide),OI q0 q1 q2 p c m hs x⟩
 obtain⟨R,hR⟩:∃ R,R=ph p c x:=⟨_,rfl⟩
 rw [<-hR]
 unfold ph at hR
 obtain⟨B,hB⟩:∃ B,B=x.ids.all fun id=>(ia c.store id).2:=⟨_,rfl⟩
 rw [<-hB] at hC hR
 clear hB
 obtain⟨ds,rs⟩:=p
 obtain⟨stack,store,binds,b9,next,fresh,failed⟩:=c
 obtain⟨xr,ids⟩:=x
 dsimp only at hR h0 hi fD hk hs hC
 unfold gF at *
 cases hx:rs[xr.toNat]? with
 |none =>
  rw [hx] at hR
  dsimp only at hR
  have hle:=List.getElem?_eq_none_iff.1 hx
  refine aD.dw 4 4 _ SY (by simp [Tryz.ntmps133]) rfl rfl ?_
  unfold sG at *
  refine gq uE ?_
  repeat' (first
   |(refine bq (fun hb=>?_) (fun hb=>?_)<;>(try simp only [aq] at hb)<;>(first|refine gq uE ?_))
   |(refine az fun m hm=>?_;(try rw [af] at hm);refine gq uE ?_)
   |(refine fq ?_))
  all_goals first
   |(exfalso;omega)
   |(rw [hR];exact⟨[],.aC .v,⟨.inl ⟨_,rfl,.same k0.1⟩,.inl ⟨_,rfl,.same k1.1⟩,.inl ⟨_,rfl,.same k2.1⟩,.inl ⟨_,rfl,.same k3.1⟩,trivial⟩,rfl⟩)
 |some r =>
  rw [hx] at hR
  have au:=(List.getElem?_eq_some_iff.1 hx).1
  have hP:=TL (w0:=w0) (ρ:=ρ) r (hk r (List.mem_of_getElem? hx)).2
  have hkl:=(hk r (List.mem_of_getElem? hx)).1
  have lJ:=iz (ρ:=ρ) r
  obtain⟨rn,Sa,Sb,rg,rb,rv⟩:=r
  dsimp only at hR hP hkl
  obtain⟨PB,Sc⟩:∃ b,b=Sb.isEmpty:=⟨_,rfl⟩
  rw [<-Sc] at hR hP
  refine aD.dw 4 4 _ SY (by simp [Tryz.ntmps133]) rfl rfl ?_
  unfold sG at *
  refine gq uE ?_
  repeat' (first
   |(refine ab.bif rfl (ad.ag rfl hP ⟨lJ,trivial⟩) (fun _=>?_) (fun _=>?_)<;>refine gq uE ?_)
   |((refine ab.og rfl (fun T=>ad.ind rfl rfl (ay (l:=rs) (k:=xr.toNat) (by omega) hx) (aw fun _=>rfl)) ?_;refine gq uE ?_))
   |(refine ab.bif rfl (ad.gN hC rfl (fp rfl rfl rfl rfl rfl rfl q0 q1 q2 q3 q4) (fun a ha=>by simp only [List.mem_cons,List.not_mem_nil,or_false] at ha;rcases ha with rfl|rfl;exact Pure.bM (bR _);exact hF) .v) (fun _=>?_) (fun _=>?_)<;>refine gq uE ?_)
   |(refine bq (fun hb=>?_) (fun hb=>?_)<;>(try simp only [aq] at hb)<;>(first|refine gq uE ?_))
   |(refine az fun m hm=>?_;(try rw [af] at hm);refine gq uE ?_)
   |(refine fq ?_))
  all_goals first
   |(exfalso;omega)
   |(rw [show R=false by rw [hR,show PB=false by assumption];rfl];exact⟨[],.aC .v,⟨.inl ⟨_,rfl,.same k0.1⟩,.inl ⟨_,rfl,.same k1.1⟩,.inl ⟨_,rfl,.same k2.1⟩,.inl ⟨_,rfl,.same k3.1⟩,trivial⟩,rfl⟩)
   |(rw [show R=false by rw [hR,decide_eq_false (show ¬ ids.length=Sa.length by omega)];simp;done];exact⟨[],.aC .v,⟨.inl ⟨_,rfl,.same k0.1⟩,.inl ⟨_,rfl,.same k1.1⟩,.inl ⟨_,rfl,.same k2.1⟩,.inl ⟨_,rfl,.same k3.1⟩,trivial⟩,rfl⟩)
   |(rw [show R=B by rw [hR,show PB=true by assumption,decide_eq_true (show ids.length=Sa.length by omega)];rfl,show B=_ by assumption];exact⟨[],.aC .v,⟨.inl ⟨_,rfl,.same k0.1⟩,.inl ⟨_,rfl,.same k1.1⟩,.inl ⟨_,rfl,.same k2.1⟩,.inl ⟨_,rfl,.same k3.1⟩,trivial⟩,rfl⟩)
end
end
end Go.Proofs.YtgphljokbodciaaGreat
