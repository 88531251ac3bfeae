import Derived.Test.YtgphljokbodciaaGreatS45
namespace Go.Proofs.YtgphljokbodciaaGreat
set_option linter.unusedVariables false
set_option linter.unusedSimpArgs false
open Go.RowKit
section
set_option maxRecDepth 100000
attribute [local irreducible] ah aV ad ab
def Sz:CF Tryz.f359:=⟨_,by conv=>lhs;cbv⟩
theorem adz:aD Tryz.prog 359 Sz.1 Tryz.f359.ntmps:=aO Tryz.func359 Sz.2 Tryz.call359
def rP:List Nat:=[8,0,5,4,7,9,1,16]
def SA:CF Tryz.f243:=⟨_,by conv=>lhs;cbv⟩
theorem adA:aD Tryz.prog 243 SA.1 Tryz.f243.ntmps:=aO Tryz.func243 SA.2 Tryz.call243
def OA:List Nat:=[4,0,1]
def SB:CF Tryz.f244:=⟨_,by conv=>lhs;cbv⟩
theorem adB:aD Tryz.prog 244 SB.1 Tryz.f244.ntmps:=aO Tryz.func244 SB.2 Tryz.call244
def XM:List Nat:=[3,0,1,2]
def SC:CF Tryz.f126:=⟨_,by conv=>lhs;cbv⟩
theorem adC:aD Tryz.prog 126 SC.1 Tryz.f126.ntmps:=aO Tryz.func126 SC.2 Tryz.call126
def XN:List Nat:=[4,1,0,3]
def SD:CF Tryz.f249:=⟨_,by conv=>lhs;cbv⟩
theorem adD:aD Tryz.prog 249 SD.1 Tryz.f249.ntmps:=aO Tryz.func249 SD.2 Tryz.call249
def OB:List Nat:=[4,0,1]
def SE:CF Tryz.f250:=⟨_,by conv=>lhs;cbv⟩
theorem adE:aD Tryz.prog 250 SE.1 Tryz.f250.ntmps:=aO Tryz.func250 SE.2 Tryz.call250
def XO:List Nat:=[3,0,1,2]
def SF:CF Tryz.f128:=⟨_,by conv=>lhs;cbv⟩
theorem adF:aD Tryz.prog 128 SF.1 Tryz.f128.ntmps:=aO Tryz.func128 SF.2 Tryz.call128
def XP:List Nat:=[4,1,0,3]
def SG:CF Tryz.f252:=⟨_,by conv=>lhs;cbv⟩
theorem adG:aD Tryz.prog 252 SG.1 Tryz.f252.ntmps:=aO Tryz.func252 SG.2 Tryz.call252
def OC:List Nat:=[4,0,1]
def SH:CF Tryz.f253:=⟨_,by conv=>lhs;cbv⟩
theorem adH:aD Tryz.prog 253 SH.1 Tryz.f253.ntmps:=aO Tryz.func253 SH.2 Tryz.call253
def XQ:List Nat:=[3,0,1,2]
def SI:CF Tryz.f130:=⟨_,by conv=>lhs;cbv⟩
theorem adI:aD Tryz.prog 130 SI.1 Tryz.f130.ntmps:=aO Tryz.func130 SI.2 Tryz.call130
def XT:List Nat:=[4,1,0,3]
def SJ:CF Tryz.f364:=⟨_,by conv=>lhs;cbv⟩
theorem adJ:aD Tryz.prog 364 SJ.1 Tryz.f364.ntmps:=aO Tryz.func364 SJ.2 Tryz.call364
def rQ:List Nat:=[8,0,5,4,7,9,1,16]
def SL:CF Tryz.f256:=⟨_,by conv=>lhs;cbv⟩
theorem adK:aD Tryz.prog 256 SL.1 Tryz.f256.ntmps:=aO Tryz.func256 SL.2 Tryz.call256
def OD:List Nat:=[4,0,1]
def SN:CF Tryz.f257:=⟨_,by conv=>lhs;cbv⟩
theorem adL:aD Tryz.prog 257 SN.1 Tryz.f257.ntmps:=aO Tryz.func257 SN.2 Tryz.call257
def XU:List Nat:=[3,0,1,2]
def SO:CF Tryz.f132:=⟨_,by conv=>lhs;cbv⟩
theorem adM:aD Tryz.prog 132 SO.1 Tryz.f132.ntmps:=aO Tryz.func132 SO.2 Tryz.call132
def XV:List Nat:=[4,1,0,3]
def SP:CF Tryz.f363:=⟨_,by conv=>lhs;cbv⟩
theorem adN:aD Tryz.prog 363 SP.1 Tryz.f363.ntmps:=aO Tryz.func363 SP.2 Tryz.call363
def XW:List Nat:=[3,1,0]
def SQ:CF Tryz.f254:=⟨_,by conv=>lhs;cbv⟩
theorem adO:aD Tryz.prog 254 SQ.1 Tryz.f254.ntmps:=aO Tryz.func254 SQ.2 Tryz.call254
def XX:List Nat:=[4,1,0,3]
theorem cD.mono {B C:Nat}(Gu:B<=C) {a:AV}(h:cD B a):cD C a:=by
 induction h with
 |u=>exact .u
 |v=>exact .v
 |agg _ ih=>exact .agg ih
 |bc _ ih=>exact .bc ih
 |sl _ ih=>exact .sl ih
 |ip _ ih=>exact .ip ih
 |ob h=>exact .ob (by omega)
 |pt h=>exact .pt (by omega)
 |mp h=>exact .mp (by omega)
 |yl h=>exact .yl (by omega)
 |gr h=>exact .gr (by omega)
 |fn _ _ Dq yY=>exact .fn Dq yY
theorem jF.mono {B C:Nat}(Gu:B<=C) {o:Ob}(h:jF B o):jF C o:=by
 cases o<;>simp only [jF] at h ⊢<;>first
  |exact fun row hr a ha=>(h row hr a ha).mono Gu
  |exact fun a ha=>(h a ha).mono Gu
  |exact fun t=>(h t).mono Gu
theorem ba.mono {B C:Nat}(Gu:B<=C) {o:Ob}(h:ba B o):ba C o:=⟨h.1.mono Gu,h.2⟩
section
variable {P:Program}{w0:World}{dr:Bool}{N:Nat}{T:ae}{α:AA}
theorem kO {o0 o1 o2 o3:Ob}(h0:T.get 0=some o0) (h1:T.get 1=some o1) (h2:T.get 2=some o2) (h3:T.get 3=some o3) (hn:Nat.ble 4 T.nx=true) (k0:ba 4 o0) (k1:ba 4 o1) (k2:ba 4 o2) (k3:ba 4 o3):rh [(0,o0),(1,o1),(2,o2),(3,o3)] 4 T:=by
 refine⟨Nat.le_of_ble_eq_true hn,fun j o h=>?_,fun j hj=>?_⟩
 ·match j,h with
  |0,h=>obtain rfl:=Option.some.inj h;exact⟨by decide,h0,k0.1,k0.2⟩
  |1,h=>obtain rfl:=Option.some.inj h;exact⟨by decide,h1,k1.1,k1.2⟩
  |2,h=>obtain rfl:=Option.some.inj h;exact⟨by decide,h2,k2.1,k2.2⟩
  |3,h=>obtain rfl:=Option.some.inj h;exact⟨by decide,h3,k3.1,k3.2⟩
  |j+4,h=>cases h
 ·match j,hj with
  |0,_=>exact⟨_,rfl⟩
  |1,_=>exact⟨_,rfl⟩
  |2,_=>exact⟨_,rfl⟩
  |3,_=>exact⟨_,rfl⟩
theorem fp {o0 o1 o2 o3 o4:Ob}(h0:T.get 0=some o0) (h1:T.get 1=some o1) (h2:T.get 2=some o2) (h3:T.get 3=some o3) (h4:T.get 4=some o4) (hn:Nat.ble 5 T.nx=true) (k0:ba 5 o0) (k1:ba 5 o1) (k2:ba 5 o2) (k3:ba 5 o3) (k4:ba 5 o4):rh [(0,o0),(1,o1),(2,o2),(3,o3),(4,o4)] 5 T:=by
 refine⟨Nat.le_of_ble_eq_true hn,fun j o h=>?_,fun j hj=>?_⟩
 ·match j,h with
  |0,h=>obtain rfl:=Option.some.inj h;exact⟨by decide,h0,k0.1,k0.2⟩
  |1,h=>obtain rfl:=Option.some.inj h;exact⟨by decide,h1,k1.1,k1.2⟩
  |2,h=>obtain rfl:=Option.some.inj h;exact⟨by decide,h2,k2.1,k2.2⟩
  |3,h=>obtain rfl:=Option.some.inj h;exact⟨by decide,h3,k3.1,k3.2⟩
  |4,h=>obtain rfl:=Option.some.inj h;exact⟨by decide,h4,k4.1,k4.2⟩
  |j+5,h=>cases h
 ·match j,hj with
  |0,_=>exact⟨_,rfl⟩
  |1,_=>exact⟨_,rfl⟩
  |2,_=>exact⟨_,rfl⟩
  |3,_=>exact⟨_,rfl⟩
  |4,_=>exact⟨_,rfl⟩
theorem AX {o0 o1 o2 o3 o4 o5:Ob}(h0:T.get 0=some o0) (h1:T.get 1=some o1) (h2:T.get 2=some o2) (h3:T.get 3=some o3) (h4:T.get 4=some o4) (h5:T.get 5=some o5) (hn:Nat.ble 6 T.nx=true) (k0:ba 6 o0) (k1:ba 6 o1) (k2:ba 6 o2) (k3:ba 6 o3) (k4:ba 6 o4) (k5:ba 6 o5):rh [(0,o0),(1,o1),(2,o2),(3,o3),(4,o4),(5,o5)] 6 T:=by
 refine⟨Nat.le_of_ble_eq_true hn,fun j o h=>?_,fun j hj=>?_⟩
 ·match j,h with
  |0,h=>obtain rfl:=Option.some.inj h;exact⟨by decide,h0,k0.1,k0.2⟩
  |1,h=>obtain rfl:=Option.some.inj h;exact⟨by decide,h1,k1.1,k1.2⟩
  |2,h=>obtain rfl:=Option.some.inj h;exact⟨by decide,h2,k2.1,k2.2⟩
  |3,h=>obtain rfl:=Option.some.inj h;exact⟨by decide,h3,k3.1,k3.2⟩
  |4,h=>obtain rfl:=Option.some.inj h;exact⟨by decide,h4,k4.1,k4.2⟩
  |5,h=>obtain rfl:=Option.some.inj h;exact⟨by decide,h5,k5.1,k5.2⟩
  |j+6,h=>cases h
 ·match j,hj with
  |0,_=>exact⟨_,rfl⟩
  |1,_=>exact⟨_,rfl⟩
  |2,_=>exact⟨_,rfl⟩
  |3,_=>exact⟨_,rfl⟩
  |4,_=>exact⟨_,rfl⟩
  |5,_=>exact⟨_,rfl⟩
end
def mz (f:Nat) (fs cs:List AV):Ob:=.arr 1 [[.fn (.func f) fs cs]] 0 true
theorem mA {N:Nat}{f:Nat}{fs cs:List AV}(h:cD N (.fn (.func f) fs cs)):ba N (mz f fs cs):=⟨fun row hr a ha=>by
 obtain rfl:=List.mem_singleton.1 hr
 obtain rfl:=List.mem_singleton.1 ha
 exact h,fun J h=>by cases h⟩
section
variable {w0:World}{ρ:Hd}
theorem adP {o0 o1 o2 o3 o4:Ob}(k0:ba 5 o0) (k1:ba 5 o1) (k2:ba 5 o2) (k3:ba 5 o3) (k4:ba 5 o4) (p:fX->Bool) (l:List fX) (gid:FuncId) (fs cs:List AV) (hl:l.length<=1099511627776) (hF:cD 5 (.fn (.func gid) fs cs)) (h:∀ x ∈ l,l6 Tryz.prog w0 [(0,o0),(1,o1),(2,o2),(3,o3),(4,o4)] 5 (.fn (.func gid) fs cs) [tD ρ x] (p x)) :
  aV Tryz.prog w0 359 [oo ρ l,.fn (.func gid) fs cs] (aE [(0,o0),(1,o1),(2,o2),(3,o3),(4,o4)] 5) (iv (cE p l 0)) (aE [(0,o0),(1,o1),(2,o2),(3,o3),(4,o4)] 5):=by
 obtain⟨R,hR⟩:∃ R,R=cE p l 0:=⟨_,rfl⟩
 rw [<-hR]
 refine aD.dw 5 5 _ adz (by simp [Tryz.ntmps359]) rfl rfl ?_
 refine gq rP ?_
 repeat' (first
  |(refine az fun m hm=>?_;(try rw [af] at hm);refine gq rP ?_)
  )
 refine ab.aP (σ:=Int) 5 5 [] (fun i=>[(0,oo ρ l),(1,.fn (.func gid) fs cs),(7,.v (.int .i64 m)),(8,.v (.int .i64 i))]) [] (fun _=>[(0,o0),(1,o1),(2,o2),(3,o3),(4,o4)])
  (fun i=>∃ k:Nat,i=k/\k<=l.length/\R=cE p (l.drop k) k) (fun i=>l.length - i.toNat) 0 ⟨0,rfl,by simp,by simpa using hR⟩ rfl ⟨⟨.aC rfl (Pure.bM (dR _)),.aC rfl hF,.aC rfl .v,.aC rfl .v,trivial⟩,rfl,⟨.inl ⟨_,rfl,.same k0.1⟩,.inl ⟨_,rfl,.same k1.1⟩,.inl ⟨_,rfl,.same k2.1⟩,.inl ⟨_,rfl,.same k3.1⟩,.inl ⟨_,rfl,.same k4.1⟩,trivial⟩,rfl,rfl,rfl⟩ ?_
 rintro i ⟨k,hi,hk,hp⟩
 clear hR
 refine gq rP ?_
 by_cases au:k < l.length
 ·obtain⟨x,hx,aQ⟩:=aA au
  rw [aQ,cE] at hp
  have hf:=h x (aZ hx)
  obtain⟨B,hB⟩:∃ B,B=p x:=⟨_,rfl⟩
  rw [<-hB] at hp hf
  repeat' (first
   |(refine ab.op rfl (ad.ind rfl rfl (ay (l:=l) hi hx) (aw fun _=>rfl)) ?_;refine gq rP ?_)
   |(refine ab.bif rfl (ad.vE hf rfl rfl (fp rfl rfl rfl rfl rfl rfl k0 k1 k2 k3 k4)) (fun _=>?_) (fun _=>?_)<;>refine gq rP ?_)
   |(refine bq (fun hb=>?_) (fun hb=>?_)<;>(try simp only [aq] at hb)<;>(first|refine gq rP ?_))
   |(refine aS fun _ _=>?_;refine gq rP ?_)
   |(refine ab.ao ?_;refine gq rP ?_)
   |(refine ab.bK ?_;refine gq rP ?_)
   |(refine fq ?_))
  all_goals first
   |(exfalso;omega)
   |(rw [if_pos (by assumption)] at hp;rw [show R=i by omega];exact⟨[],.aC .v,⟨.inl ⟨_,rfl,.same k0.1⟩,.inl ⟨_,rfl,.same k1.1⟩,.inl ⟨_,rfl,.same k2.1⟩,.inl ⟨_,rfl,.same k3.1⟩,.inl ⟨_,rfl,.same k4.1⟩,trivial⟩,rfl⟩)
   |(rw [if_neg (by rw [show B=false by assumption];simp)] at hp
     refine ab.aK (σ:=Int) _ [] ?_ ?_ ⟨⟨.aC rfl (Pure.bM (dR _)),.aC rfl hF,.aC rfl .v,.aC rfl .v,trivial⟩,rfl,⟨.inl ⟨_,rfl,.same k0.1⟩,.inl ⟨_,rfl,.same k1.1⟩,.inl ⟨_,rfl,.same k2.1⟩,.inl ⟨_,rfl,.same k3.1⟩,.inl ⟨_,rfl,.same k4.1⟩,trivial⟩,rfl,rfl,rfl⟩
     ·exact⟨k+1,by omega,by omega,hp⟩
     ·omega)
 ·skip
  repeat' (first
   |(refine bq (fun hb=>?_) (fun hb=>?_)<;>(try simp only [aq] at hb)<;>(first|refine gq rP ?_))
   |(refine ab.ao ?_;refine gq rP ?_)
   |(refine fq ?_))
  all_goals first
   |(exfalso;omega)
   |(rw [show R=-1 by rw [hp,List.drop_eq_nil_of_le (by omega)];rfl];exact⟨[],.aC .v,⟨.inl ⟨_,rfl,.same k0.1⟩,.inl ⟨_,rfl,.same k1.1⟩,.inl ⟨_,rfl,.same k2.1⟩,.inl ⟨_,rfl,.same k3.1⟩,.inl ⟨_,rfl,.same k4.1⟩,trivial⟩,rfl⟩)
theorem adQ {o0 o1 o2 o3 o4:Ob}(k0:ba 5 o0) (k1:ba 5 o1) (k2:ba 5 o2) (k3:ba 5 o3) (k4:ba 5 o4) (p:fX->Bool) (l:List fX) (gid:FuncId) (fs cs:List AV) (hl:l.length<=1099511627776) (hF:cD 5 (.fn (.func gid) fs cs)) (h:∀ x ∈ l,l6 Tryz.prog w0 [(0,o0),(1,o1),(2,o2),(3,o3),(4,o4)] 5 (.fn (.func gid) fs cs) [tD ρ x] (p x)) :
  aV Tryz.prog w0 243 [oo ρ l,.fn (.func gid) fs cs] (aE [(0,o0),(1,o1),(2,o2),(3,o3),(4,o4)] 5) (.v (.bool (l.any p))) (aE [(0,o0),(1,o1),(2,o2),(3,o3),(4,o4)] 5):=by
 have hI:=adP (w0:=w0) (ρ:=ρ) k0 k1 k2 k3 k4 p l gid fs cs hl hF h
 have ea:=kf p l 0
 obtain⟨j,hj⟩:∃ j,j=cE p l 0:=⟨_,rfl⟩
 rw [<-hj] at hI ea
 obtain⟨R,hR⟩:∃ R,R=l.any p:=⟨_,rfl⟩
 rw [<-hR] at ea ⊢
 refine aD.dw 5 5 _ adA (by simp [Tryz.ntmps243]) rfl rfl ?_
 refine gq OA ?_
 repeat' (first
  |(refine ab.int rfl (ad.gN hI rfl (fp rfl rfl rfl rfl rfl rfl k0 k1 k2 k3 k4) (fun a ha=>by simp only [List.mem_cons,List.not_mem_nil,or_false] at ha;rcases ha with rfl|rfl;exact Pure.bM (dR _);exact hF) .v) fun _ _=>?_;refine gq OA ?_)
  |(refine bq (fun hb=>?_) (fun hb=>?_)<;>(try simp only [aq] at hb)<;>(first|refine gq OA ?_))
  |(refine fq ?_))
 all_goals first
  |(rw [show R=true by rw [<-ea];exact decide_eq_true (by omega)];exact⟨[],.aC .v,⟨.inl ⟨_,rfl,.same k0.1⟩,.inl ⟨_,rfl,.same k1.1⟩,.inl ⟨_,rfl,.same k2.1⟩,.inl ⟨_,rfl,.same k3.1⟩,.inl ⟨_,rfl,.same k4.1⟩,trivial⟩,rfl⟩)
  |(rw [show R=false by rw [<-ea];exact decide_eq_false (by omega)];exact⟨[],.aC .v,⟨.inl ⟨_,rfl,.same k0.1⟩,.inl ⟨_,rfl,.same k1.1⟩,.inl ⟨_,rfl,.same k2.1⟩,.inl ⟨_,rfl,.same k3.1⟩,.inl ⟨_,rfl,.same k4.1⟩,trivial⟩,rfl⟩)
theorem adR {o0 o1 o2 o3:Ob}(k0:ba 4 o0) (k1:ba 4 o1) (k2:ba 4 o2) (k3:ba 4 o3) (b:Bool) (x:fX) (gid:FuncId) (fs cs:List AV) (hF:cD 4 (.fn (.func gid) fs cs)) (h:l6 Tryz.prog w0 [(0,o0),(1,o1),(2,o2),(3,o3)] 4 (.fn (.func gid) fs cs) [tD ρ x] b) :
  aV Tryz.prog w0 244 [tD ρ x,.pt 4 1 0 0] (aE [(0,o0),(1,o1),(2,o2),(3,o3),(4,mz gid fs cs)] 5) (.v (.bool (!b))) (aE [(0,o0),(1,o1),(2,o2),(3,o3),(4,mz gid fs cs)] 5):=by
 have q0:=k0.mono (show 4<=5 by decide)
 have q1:=k1.mono (show 4<=5 by decide)
 have q2:=k2.mono (show 4<=5 by decide)
 have q3:=k3.mono (show 4<=5 by decide)
 have q4:=mA (hF.mono (show 4<=5 by decide))
 refine aD.dw 5 5 _ adB (by simp [Tryz.ntmps244]) rfl rfl ?_
 unfold mz at *
 refine gq XM ?_
 repeat' (first
  |(refine ab.bif rfl (ad.vE h rfl rfl (kO rfl rfl rfl rfl rfl k0 k1 k2 k3)) (fun _=>?_) (fun _=>?_)<;>refine gq XM ?_)
  |(refine fq ?_))
 all_goals
  subst b
  exact⟨[],.aC .v,⟨.inl ⟨_,rfl,.same q0.1⟩,.inl ⟨_,rfl,.same q1.1⟩,.inl ⟨_,rfl,.same q2.1⟩,.inl ⟨_,rfl,.same q3.1⟩,.inl ⟨_,rfl,.same q4.1⟩,trivial⟩,rfl⟩
theorem adS {o0 o1 o2 o3:Ob}(k0:ba 4 o0) (k1:ba 4 o1) (k2:ba 4 o2) (k3:ba 4 o3) (p:fX->Bool) (l:List fX) (gid:FuncId) (fs cs:List AV) (hl:l.length<=1099511627776) (hF:cD 4 (.fn (.func gid) fs cs)) (h:∀ x ∈ l,l6 Tryz.prog w0 [(0,o0),(1,o1),(2,o2),(3,o3)] 4 (.fn (.func gid) fs cs) [tD ρ x] (p x)) :
  aV Tryz.prog w0 126 [oo ρ l,.fn (.func gid) fs cs] (aE [(0,o0),(1,o1),(2,o2),(3,o3)] 4) (.v (.bool (l.all p))) (aE [(0,o0),(1,o1),(2,o2),(3,o3)] 4):=by
 have q0:=k0.mono (show 4<=5 by decide)
 have q1:=k1.mono (show 4<=5 by decide)
 have q2:=k2.mono (show 4<=5 by decide)
 have q3:=k3.mono (show 4<=5 by decide)
 have q4:=mA (hF.mono (show 4<=5 by decide))
 have hC:=adQ (w0:=w0) (ρ:=ρ) q0 q1 q2 q3 q4 (fun x=>!p x) l 244 [] [.pt 4 1 0 0] hl (.fn (by simp) (fun a ha=>by obtain rfl:=List.mem_singleton.1 ha;exact .pt (by decide))) (fun x hx=>⟨_,[tD ρ x,.pt 4 1 0 0],rfl,fun a ha=>by simp only [List.mem_cons,List.not_mem_nil,or_false] at ha;rcases ha with rfl|rfl;exact (wR _).bM;exact .pt (by decide),adR k0 k1 k2 k3 _ x gid fs cs hF (h x hx)⟩)
 obtain⟨R,hR⟩:∃ R,R=l.any (fun x=>!p x):=⟨_,rfl⟩
 rw [show l.all p=!R by rw [hR,List.all_eq_not_any_not]]
 rw [<-hR] at hC
 clear hR
 refine aD.dw 4 4 _ adC (by simp [Tryz.ntmps126]) rfl rfl ?_
 unfold mz at *
 refine gq XN ?_
 repeat' (first
  |(refine ab.bif rfl (ad.gN hC rfl (fp rfl rfl rfl rfl rfl rfl q0 q1 q2 q3 q4) (fun a ha=>by simp only [List.mem_cons,List.not_mem_nil,or_false] at ha;rcases ha with rfl|rfl;exact Pure.bM (dR _);exact .fn (by simp) (fun a ha=>by obtain rfl:=List.mem_singleton.1 ha;exact .pt (by decide))) .v) (fun _=>?_) (fun _=>?_)<;>refine gq XN ?_)
  |(refine fq ?_))
 all_goals
  subst R
  exact⟨[],.aC .v,⟨.inl ⟨_,rfl,.same k0.1⟩,.inl ⟨_,rfl,.same k1.1⟩,.inl ⟨_,rfl,.same k2.1⟩,.inl ⟨_,rfl,.same k3.1⟩,trivial⟩,rfl⟩
theorem adT {o0 o1 o2 o3 o4:Ob}(k0:ba 5 o0) (k1:ba 5 o1) (k2:ba 5 o2) (k3:ba 5 o3) (k4:ba 5 o4) (p:Im->Bool) (l:List Im) (gid:FuncId) (fs cs:List AV) (hl:l.length<=1099511627776) (hF:cD 5 (.fn (.func gid) fs cs)) (h:∀ x ∈ l,l6 Tryz.prog w0 [(0,o0),(1,o1),(2,o2),(3,o3),(4,o4)] 5 (.fn (.func gid) fs cs) [it ρ x] (p x)) :
  aV Tryz.prog w0 328 [fN ρ l,.fn (.func gid) fs cs] (aE [(0,o0),(1,o1),(2,o2),(3,o3),(4,o4)] 5) (iv (cE p l 0)) (aE [(0,o0),(1,o1),(2,o2),(3,o3),(4,o4)] 5):=by
 obtain⟨R,hR⟩:∃ R,R=cE p l 0:=⟨_,rfl⟩
 rw [<-hR]
 refine aD.dw 5 5 _ Qk (by simp [Tryz.ntmps328]) rfl rfl ?_
 refine gq je ?_
 repeat' (first
  |(refine az fun m hm=>?_;(try rw [af] at hm);refine gq je ?_)
  )
 refine ab.aP (σ:=Int) 5 5 [] (fun i=>[(0,fN ρ l),(1,.fn (.func gid) fs cs),(7,.v (.int .i64 m)),(8,.v (.int .i64 i))]) [] (fun _=>[(0,o0),(1,o1),(2,o2),(3,o3),(4,o4)])
  (fun i=>∃ k:Nat,i=k/\k<=l.length/\R=cE p (l.drop k) k) (fun i=>l.length - i.toNat) 0 ⟨0,rfl,by simp,by simpa using hR⟩ rfl ⟨⟨.aC rfl (Pure.bM (ct _)),.aC rfl hF,.aC rfl .v,.aC rfl .v,trivial⟩,rfl,⟨.inl ⟨_,rfl,.same k0.1⟩,.inl ⟨_,rfl,.same k1.1⟩,.inl ⟨_,rfl,.same k2.1⟩,.inl ⟨_,rfl,.same k3.1⟩,.inl ⟨_,rfl,.same k4.1⟩,trivial⟩,rfl,rfl,rfl⟩ ?_
 rintro i ⟨k,hi,hk,hp⟩
 clear hR
 refine gq je ?_
 by_cases au:k < l.length
 ·obtain⟨x,hx,aQ⟩:=aA au
  rw [aQ,cE] at hp
  have hf:=h x (aZ hx)
  obtain⟨B,hB⟩:∃ B,B=p x:=⟨_,rfl⟩
  rw [<-hB] at hp hf
  repeat' (first
   |(refine ab.op rfl (ad.ind rfl rfl (ay (l:=l) hi hx) (aw fun _=>rfl)) ?_;refine gq je ?_)
   |(refine ab.bif rfl (ad.vE hf rfl rfl (fp rfl rfl rfl rfl rfl rfl k0 k1 k2 k3 k4)) (fun _=>?_) (fun _=>?_)<;>refine gq je ?_)
   |(refine bq (fun hb=>?_) (fun hb=>?_)<;>(try simp only [aq] at hb)<;>(first|refine gq je ?_))
   |(refine aS fun _ _=>?_;refine gq je ?_)
   |(refine ab.ao ?_;refine gq je ?_)
   |(refine ab.bK ?_;refine gq je ?_)
   |(refine fq ?_))
  all_goals first
   |(exfalso;omega)
   |(rw [if_pos (by assumption)] at hp;rw [show R=i by omega];exact⟨[],.aC .v,⟨.inl ⟨_,rfl,.same k0.1⟩,.inl ⟨_,rfl,.same k1.1⟩,.inl ⟨_,rfl,.same k2.1⟩,.inl ⟨_,rfl,.same k3.1⟩,.inl ⟨_,rfl,.same k4.1⟩,trivial⟩,rfl⟩)
   |(rw [if_neg (by rw [show B=false by assumption];simp)] at hp
     refine ab.aK (σ:=Int) _ [] ?_ ?_ ⟨⟨.aC rfl (Pure.bM (ct _)),.aC rfl hF,.aC rfl .v,.aC rfl .v,trivial⟩,rfl,⟨.inl ⟨_,rfl,.same k0.1⟩,.inl ⟨_,rfl,.same k1.1⟩,.inl ⟨_,rfl,.same k2.1⟩,.inl ⟨_,rfl,.same k3.1⟩,.inl ⟨_,rfl,.same k4.1⟩,trivial⟩,rfl,rfl,rfl⟩
     ·exact⟨k+1,by omega,by omega,hp⟩
     ·omega)
 ·skip
  repeat' (first
   |(refine bq (fun hb=>?_) (fun hb=>?_)<;>(try simp only [aq] at hb)<;>(first|refine gq je ?_))
   |(refine ab.ao ?_;refine gq je ?_)
   |(refine fq ?_))
  all_goals first
   |(exfalso;omega)
   |(rw [show R=-1 by rw [hp,List.drop_eq_nil_of_le (by omega)];rfl];exact⟨[],.aC .v,⟨.inl ⟨_,rfl,.same k0.1⟩,.inl ⟨_,rfl,.same k1.1⟩,.inl ⟨_,rfl,.same k2.1⟩,.inl ⟨_,rfl,.same k3.1⟩,.inl ⟨_,rfl,.same k4.1⟩,trivial⟩,rfl⟩)
theorem adU {o0 o1 o2 o3 o4:Ob}(k0:ba 5 o0) (k1:ba 5 o1) (k2:ba 5 o2) (k3:ba 5 o3) (k4:ba 5 o4) (p:Im->Bool) (l:List Im) (gid:FuncId) (fs cs:List AV) (hl:l.length<=1099511627776) (hF:cD 5 (.fn (.func gid) fs cs)) (h:∀ x ∈ l,l6 Tryz.prog w0 [(0,o0),(1,o1),(2,o2),(3,o3),(4,o4)] 5 (.fn (.func gid) fs cs) [it ρ x] (p x)) :
  aV Tryz.prog w0 249 [fN ρ l,.fn (.func gid) fs cs] (aE [(0,o0),(1,o1),(2,o2),(3,o3),(4,o4)] 5) (.v (.bool (l.any p))) (aE [(0,o0),(1,o1),(2,o2),(3,o3),(4,o4)] 5):=by
 have hI:=adT (w0:=w0) (ρ:=ρ) k0 k1 k2 k3 k4 p l gid fs cs hl hF h
 have ea:=kf p l 0
 obtain⟨j,hj⟩:∃ j,j=cE p l 0:=⟨_,rfl⟩
 rw [<-hj] at hI ea
 obtain⟨R,hR⟩:∃ R,R=l.any p:=⟨_,rfl⟩
 rw [<-hR] at ea ⊢
 refine aD.dw 5 5 _ adD (by simp [Tryz.ntmps249]) rfl rfl ?_
 refine gq OB ?_
 repeat' (first
  |(refine ab.int rfl (ad.gN hI rfl (fp rfl rfl rfl rfl rfl rfl k0 k1 k2 k3 k4) (fun a ha=>by simp only [List.mem_cons,List.not_mem_nil,or_false] at ha;rcases ha with rfl|rfl;exact Pure.bM (ct _);exact hF) .v) fun _ _=>?_;refine gq OB ?_)
  |(refine bq (fun hb=>?_) (fun hb=>?_)<;>(try simp only [aq] at hb)<;>(first|refine gq OB ?_))
  |(refine fq ?_))
 all_goals first
  |(rw [show R=true by rw [<-ea];exact decide_eq_true (by omega)];exact⟨[],.aC .v,⟨.inl ⟨_,rfl,.same k0.1⟩,.inl ⟨_,rfl,.same k1.1⟩,.inl ⟨_,rfl,.same k2.1⟩,.inl ⟨_,rfl,.same k3.1⟩,.inl ⟨_,rfl,.same k4.1⟩,trivial⟩,rfl⟩)
  |(rw [show R=false by rw [<-ea];exact decide_eq_false (by omega)];exact⟨[],.aC .v,⟨.inl ⟨_,rfl,.same k0.1⟩,.inl ⟨_,rfl,.same k1.1⟩,.inl ⟨_,rfl,.same k2.1⟩,.inl ⟨_,rfl,.same k3.1⟩,.inl ⟨_,rfl,.same k4.1⟩,trivial⟩,rfl⟩)
theorem adV {o0 o1 o2 o3:Ob}(k0:ba 4 o0) (k1:ba 4 o1) (k2:ba 4 o2) (k3:ba 4 o3) (b:Bool) (x:Im) (gid:FuncId) (fs cs:List AV) (hF:cD 4 (.fn (.func gid) fs cs)) (h:l6 Tryz.prog w0 [(0,o0),(1,o1),(2,o2),(3,o3)] 4 (.fn (.func gid) fs cs) [it ρ x] b) :
  aV Tryz.prog w0 250 [it ρ x,.pt 4 1 0 0] (aE [(0,o0),(1,o1),(2,o2),(3,o3),(4,mz gid fs cs)] 5) (.v (.bool (!b))) (aE [(0,o0),(1,o1),(2,o2),(3,o3),(4,mz gid fs cs)] 5):=by
 have q0:=k0.mono (show 4<=5 by decide)
 have q1:=k1.mono (show 4<=5 by decide)
 have q2:=k2.mono (show 4<=5 by decide)
 have q3:=k3.mono (show 4<=5 by decide)
 have q4:=mA (hF.mono (show 4<=5 by decide))
 refine aD.dw 5 5 _ adE (by simp [Tryz.ntmps250]) rfl rfl ?_
 unfold mz at *
 refine gq XO ?_
 repeat' (first
  |(refine ab.bif rfl (ad.vE h rfl rfl (kO rfl rfl rfl rfl rfl k0 k1 k2 k3)) (fun _=>?_) (fun _=>?_)<;>refine gq XO ?_)
  |(refine fq ?_))
 all_goals
  subst b
  exact⟨[],.aC .v,⟨.inl ⟨_,rfl,.same q0.1⟩,.inl ⟨_,rfl,.same q1.1⟩,.inl ⟨_,rfl,.same q2.1⟩,.inl ⟨_,rfl,.same q3.1⟩,.inl ⟨_,rfl,.same q4.1⟩,trivial⟩,rfl⟩
theorem adW {o0 o1 o2 o3:Ob}(k0:ba 4 o0) (k1:ba 4 o1) (k2:ba 4 o2) (k3:ba 4 o3) (p:Im->Bool) (l:List Im) (gid:FuncId) (fs cs:List AV) (hl:l.length<=1099511627776) (hF:cD 4 (.fn (.func gid) fs cs)) (h:∀ x ∈ l,l6 Tryz.prog w0 [(0,o0),(1,o1),(2,o2),(3,o3)] 4 (.fn (.func gid) fs cs) [it ρ x] (p x)) :
  aV Tryz.prog w0 128 [fN ρ l,.fn (.func gid) fs cs] (aE [(0,o0),(1,o1),(2,o2),(3,o3)] 4) (.v (.bool (l.all p))) (aE [(0,o0),(1,o1),(2,o2),(3,o3)] 4):=by
 have q0:=k0.mono (show 4<=5 by decide)
 have q1:=k1.mono (show 4<=5 by decide)
 have q2:=k2.mono (show 4<=5 by decide)
 have q3:=k3.mono (show 4<=5 by decide)
 have q4:=mA (hF.mono (show 4<=5 by decide))
 have hC:=adU (w0:=w0) (ρ:=ρ) q0 q1 q2 q3 q4 (fun x=>!p x) l 250 [] [.pt 4 1 0 0] hl (.fn (by simp) (fun a ha=>by obtain rfl:=List.mem_singleton.1 ha;exact .pt (by decide))) (fun x hx=>⟨_,[it ρ x,.pt 4 1 0 0],rfl,fun a ha=>by simp only [List.mem_cons,List.not_mem_nil,or_false] at ha;rcases ha with rfl|rfl;exact (mV _).bM;exact .pt (by decide),adV k0 k1 k2 k3 _ x gid fs cs hF (h x hx)⟩)
 obtain⟨R,hR⟩:∃ R,R=l.any (fun x=>!p x):=⟨_,rfl⟩
 rw [show l.all p=!R by rw [hR,List.all_eq_not_any_not]]
 rw [<-hR] at hC
 clear hR
 refine aD.dw 4 4 _ adF (by simp [Tryz.ntmps128]) rfl rfl ?_
 unfold mz at *
 refine gq XP ?_
 repeat' (first
  |(refine ab.bif rfl (ad.gN hC rfl (fp rfl rfl rfl rfl rfl rfl q0 q1 q2 q3 q4) (fun a ha=>by simp only [List.mem_cons,List.not_mem_nil,or_false] at ha;rcases ha with rfl|rfl;exact Pure.bM (ct _);exact .fn (by simp) (fun a ha=>by obtain rfl:=List.mem_singleton.1 ha;exact .pt (by decide))) .v) (fun _=>?_) (fun _=>?_)<;>refine gq XP ?_)
  |(refine fq ?_))
 all_goals
  subst R
  exact⟨[],.aC .v,⟨.inl ⟨_,rfl,.same k0.1⟩,.inl ⟨_,rfl,.same k1.1⟩,.inl ⟨_,rfl,.same k2.1⟩,.inl ⟨_,rfl,.same k3.1⟩,trivial⟩,rfl⟩
theorem adX {o0 o1 o2 o3 o4:Ob}(k0:ba 5 o0) (k1:ba 5 o1) (k2:ba 5 o2) (k3:ba 5 o3) (k4:ba 5 o4) (p:Bd->Bool) (l:List Bd) (gid:FuncId) (fs cs:List AV) (hl:l.length<=1099511627776) (hF:cD 5 (.fn (.func gid) fs cs)) (h:∀ x ∈ l,l6 Tryz.prog w0 [(0,o0),(1,o1),(2,o2),(3,o3),(4,o4)] 5 (.fn (.func gid) fs cs) [bd ρ x] (p x)) :
  aV Tryz.prog w0 362 [eL ρ l,.fn (.func gid) fs cs] (aE [(0,o0),(1,o1),(2,o2),(3,o3),(4,o4)] 5) (iv (cE p l 0)) (aE [(0,o0),(1,o1),(2,o2),(3,o3),(4,o4)] 5):=by
 obtain⟨R,hR⟩:∃ R,R=cE p l 0:=⟨_,rfl⟩
 rw [<-hR]
 refine aD.dw 5 5 _ Z2 (by simp [Tryz.ntmps362]) rfl rfl ?_
 refine gq qV ?_
 repeat' (first
  |(refine az fun m hm=>?_;(try rw [af] at hm);refine gq qV ?_)
  )
 refine ab.aP (σ:=Int) 5 5 [] (fun i=>[(0,eL ρ l),(1,.fn (.func gid) fs cs),(7,.v (.int .i64 m)),(8,.v (.int .i64 i))]) [] (fun _=>[(0,o0),(1,o1),(2,o2),(3,o3),(4,o4)])
  (fun i=>∃ k:Nat,i=k/\k<=l.length/\R=cE p (l.drop k) k) (fun i=>l.length - i.toNat) 0 ⟨0,rfl,by simp,by simpa using hR⟩ rfl ⟨⟨.aC rfl (Pure.bM (b8 _)),.aC rfl hF,.aC rfl .v,.aC rfl .v,trivial⟩,rfl,⟨.inl ⟨_,rfl,.same k0.1⟩,.inl ⟨_,rfl,.same k1.1⟩,.inl ⟨_,rfl,.same k2.1⟩,.inl ⟨_,rfl,.same k3.1⟩,.inl ⟨_,rfl,.same k4.1⟩,trivial⟩,rfl,rfl,rfl⟩ ?_
 rintro i ⟨k,hi,hk,hp⟩
 clear hR
 refine gq qV ?_
 by_cases au:k < l.length
 ·obtain⟨x,hx,aQ⟩:=aA au
  rw [aQ,cE] at hp
  have hf:=h x (aZ hx)
  obtain⟨B,hB⟩:∃ B,B=p x:=⟨_,rfl⟩
  rw [<-hB] at hp hf
  repeat' (first
   |(refine ab.op rfl (ad.ind rfl rfl (ay (l:=l) hi hx) (aw fun _=>rfl)) ?_;refine gq qV ?_)
   |(refine ab.bif rfl (ad.vE hf rfl rfl (fp rfl rfl rfl rfl rfl rfl k0 k1 k2 k3 k4)) (fun _=>?_) (fun _=>?_)<;>refine gq qV ?_)
   |(refine bq (fun hb=>?_) (fun hb=>?_)<;>(try simp only [aq] at hb)<;>(first|refine gq qV ?_))
   |(refine aS fun _ _=>?_;refine gq qV ?_)
   |(refine ab.ao ?_;refine gq qV ?_)
   |(refine ab.bK ?_;refine gq qV ?_)
   |(refine fq ?_))
  all_goals first
   |(exfalso;omega)
   |(rw [if_pos (by assumption)] at hp;rw [show R=i by omega];exact⟨[],.aC .v,⟨.inl ⟨_,rfl,.same k0.1⟩,.inl ⟨_,rfl,.same k1.1⟩,.inl ⟨_,rfl,.same k2.1⟩,.inl ⟨_,rfl,.same k3.1⟩,.inl ⟨_,rfl,.same k4.1⟩,trivial⟩,rfl⟩)
   |(rw [if_neg (by rw [show B=false by assumption];simp)] at hp
     refine ab.aK (σ:=Int) _ [] ?_ ?_ ⟨⟨.aC rfl (Pure.bM (b8 _)),.aC rfl hF,.aC rfl .v,.aC rfl .v,trivial⟩,rfl,⟨.inl ⟨_,rfl,.same k0.1⟩,.inl ⟨_,rfl,.same k1.1⟩,.inl ⟨_,rfl,.same k2.1⟩,.inl ⟨_,rfl,.same k3.1⟩,.inl ⟨_,rfl,.same k4.1⟩,trivial⟩,rfl,rfl,rfl⟩
     ·exact⟨k+1,by omega,by omega,hp⟩
     ·omega)
 ·skip
  repeat' (first
   |(refine bq (fun hb=>?_) (fun hb=>?_)<;>(try simp only [aq] at hb)<;>(first|refine gq qV ?_))
   |(refine ab.ao ?_;refine gq qV ?_)
   |(refine fq ?_))
  all_goals first
   |(exfalso;omega)
   |(rw [show R=-1 by rw [hp,List.drop_eq_nil_of_le (by omega)];rfl];exact⟨[],.aC .v,⟨.inl ⟨_,rfl,.same k0.1⟩,.inl ⟨_,rfl,.same k1.1⟩,.inl ⟨_,rfl,.same k2.1⟩,.inl ⟨_,rfl,.same k3.1⟩,.inl ⟨_,rfl,.same k4.1⟩,trivial⟩,rfl⟩)
theorem adY {o0 o1 o2 o3 o4:Ob}(k0:ba 5 o0) (k1:ba 5 o1) (k2:ba 5 o2) (k3:ba 5 o3) (k4:ba 5 o4) (p:Bd->Bool) (l:List Bd) (gid:FuncId) (fs cs:List AV) (hl:l.length<=1099511627776) (hF:cD 5 (.fn (.func gid) fs cs)) (h:∀ x ∈ l,l6 Tryz.prog w0 [(0,o0),(1,o1),(2,o2),(3,o3),(4,o4)] 5 (.fn (.func gid) fs cs) [bd ρ x] (p x)) :
  aV Tryz.prog w0 252 [eL ρ l,.fn (.func gid) fs cs] (aE [(0,o0),(1,o1),(2,o2),(3,o3),(4,o4)] 5) (.v (.bool (l.any p))) (aE [(0,o0),(1,o1),(2,o2),(3,o3),(4,o4)] 5):=by
 have hI:=adX (w0:=w0) (ρ:=ρ) k0 k1 k2 k3 k4 p l gid fs cs hl hF h
 have ea:=kf p l 0
 obtain⟨j,hj⟩:∃ j,j=cE p l 0:=⟨_,rfl⟩
 rw [<-hj] at hI ea
 obtain⟨R,hR⟩:∃ R,R=l.any p:=⟨_,rfl⟩
 rw [<-hR] at ea ⊢
 refine aD.dw 5 5 _ adG (by simp [Tryz.ntmps252]) rfl rfl ?_
 refine gq OC ?_
 repeat' (first
  |(refine ab.int rfl (ad.gN hI rfl (fp rfl rfl rfl rfl rfl rfl k0 k1 k2 k3 k4) (fun a ha=>by simp only [List.mem_cons,List.not_mem_nil,or_false] at ha;rcases ha with rfl|rfl;exact Pure.bM (b8 _);exact hF) .v) fun _ _=>?_;refine gq OC ?_)
  |(refine bq (fun hb=>?_) (fun hb=>?_)<;>(try simp only [aq] at hb)<;>(first|refine gq OC ?_))
  |(refine fq ?_))
 all_goals first
  |(rw [show R=true by rw [<-ea];exact decide_eq_true (by omega)];exact⟨[],.aC .v,⟨.inl ⟨_,rfl,.same k0.1⟩,.inl ⟨_,rfl,.same k1.1⟩,.inl ⟨_,rfl,.same k2.1⟩,.inl ⟨_,rfl,.same k3.1⟩,.inl ⟨_,rfl,.same k4.1⟩,trivial⟩,rfl⟩)
  |(rw [show R=false by rw [<-ea];exact decide_eq_false (by omega)];exact⟨[],.aC .v,⟨.inl ⟨_,rfl,.same k0.1⟩,.inl ⟨_,rfl,.same k1.1⟩,.inl ⟨_,rfl,.same k2.1⟩,.inl ⟨_,rfl,.same k3.1⟩,.inl ⟨_,rfl,.same k4.1⟩,trivial⟩,rfl⟩)
theorem adZ {o0 o1 o2 o3:Ob}(k0:ba 4 o0) (k1:ba 4 o1) (k2:ba 4 o2) (k3:ba 4 o3) (b:Bool) (x:Bd) (gid:FuncId) (fs cs:List AV) (hF:cD 4 (.fn (.func gid) fs cs)) (h:l6 Tryz.prog w0 [(0,o0),(1,o1),(2,o2),(3,o3)] 4 (.fn (.func gid) fs cs) [bd ρ x] b) :
  aV Tryz.prog w0 253 [bd ρ x,.pt 4 1 0 0] (aE [(0,o0),(1,o1),(2,o2),(3,o3),(4,mz gid fs cs)] 5) (.v (.bool (!b))) (aE [(0,o0),(1,o1),(2,o2),(3,o3),(4,mz gid fs cs)] 5):=by
 have q0:=k0.mono (show 4<=5 by decide)
 have q1:=k1.mono (show 4<=5 by decide)
 have q2:=k2.mono (show 4<=5 by decide)
 have q3:=k3.mono (show 4<=5 by decide)
 have q4:=mA (hF.mono (show 4<=5 by decide))
 refine aD.dw 5 5 _ adH (by simp [Tryz.ntmps253]) rfl rfl ?_
 unfold mz at *
 refine gq XQ ?_
 repeat' (first
  |(refine ab.bif rfl (ad.vE h rfl rfl (kO rfl rfl rfl rfl rfl k0 k1 k2 k3)) (fun _=>?_) (fun _=>?_)<;>refine gq XQ ?_)
  |(refine fq ?_))
 all_goals
  subst b
  exact⟨[],.aC .v,⟨.inl ⟨_,rfl,.same q0.1⟩,.inl ⟨_,rfl,.same q1.1⟩,.inl ⟨_,rfl,.same q2.1⟩,.inl ⟨_,rfl,.same q3.1⟩,.inl ⟨_,rfl,.same q4.1⟩,trivial⟩,rfl⟩
theorem ad0 {o0 o1 o2 o3:Ob}(k0:ba 4 o0) (k1:ba 4 o1) (k2:ba 4 o2) (k3:ba 4 o3) (p:Bd->Bool) (l:List Bd) (gid:FuncId) (fs cs:List AV) (hl:l.length<=1099511627776) (hF:cD 4 (.fn (.func gid) fs cs)) (h:∀ x ∈ l,l6 Tryz.prog w0 [(0,o0),(1,o1),(2,o2),(3,o3)] 4 (.fn (.func gid) fs cs) [bd ρ x] (p x)) :
  aV Tryz.prog w0 130 [eL ρ l,.fn (.func gid) fs cs] (aE [(0,o0),(1,o1),(2,o2),(3,o3)] 4) (.v (.bool (l.all p))) (aE [(0,o0),(1,o1),(2,o2),(3,o3)] 4):=by
 have q0:=k0.mono (show 4<=5 by decide)
 have q1:=k1.mono (show 4<=5 by decide)
 have q2:=k2.mono (show 4<=5 by decide)
 have q3:=k3.mono (show 4<=5 by decide)
 have q4:=mA (hF.mono (show 4<=5 by decide))
 have hC:=adY (w0:=w0) (ρ:=ρ) q0 q1 q2 q3 q4 (fun x=>!p x) l 253 [] [.pt 4 1 0 0] hl (.fn (by simp) (fun a ha=>by obtain rfl:=List.mem_singleton.1 ha;exact .pt (by decide))) (fun x hx=>⟨_,[bd ρ x,.pt 4 1 0 0],rfl,fun a ha=>by simp only [List.mem_cons,List.not_mem_nil,or_false] at ha;rcases ha with rfl|rfl;exact (ou _).bM;exact .pt (by decide),adZ k0 k1 k2 k3 _ x gid fs cs hF (h x hx)⟩)
 obtain⟨R,hR⟩:∃ R,R=l.any (fun x=>!p x):=⟨_,rfl⟩
 rw [show l.all p=!R by rw [hR,List.all_eq_not_any_not]]
 rw [<-hR] at hC
 clear hR
 refine aD.dw 4 4 _ adI (by simp [Tryz.ntmps130]) rfl rfl ?_
 unfold mz at *
 refine gq XT ?_
 repeat' (first
  |(refine ab.bif rfl (ad.gN hC rfl (fp rfl rfl rfl rfl rfl rfl q0 q1 q2 q3 q4) (fun a ha=>by simp only [List.mem_cons,List.not_mem_nil,or_false] at ha;rcases ha with rfl|rfl;exact Pure.bM (b8 _);exact .fn (by simp) (fun a ha=>by obtain rfl:=List.mem_singleton.1 ha;exact .pt (by decide))) .v) (fun _=>?_) (fun _=>?_)<;>refine gq XT ?_)
  |(refine fq ?_))
 all_goals
  subst R
  exact⟨[],.aC .v,⟨.inl ⟨_,rfl,.same k0.1⟩,.inl ⟨_,rfl,.same k1.1⟩,.inl ⟨_,rfl,.same k2.1⟩,.inl ⟨_,rfl,.same k3.1⟩,trivial⟩,rfl⟩
theorem ad1 {o0 o1 o2 o3 o4:Ob}(k0:ba 5 o0) (k1:ba 5 o1) (k2:ba 5 o2) (k3:ba 5 o3) (k4:ba 5 o4) (p:Fi->Bool) (l:List Fi) (gid:FuncId) (fs cs:List AV) (hl:l.length<=1099511627776) (hF:cD 5 (.fn (.func gid) fs cs)) (h:∀ x ∈ l,l6 Tryz.prog w0 [(0,o0),(1,o1),(2,o2),(3,o3),(4,o4)] 5 (.fn (.func gid) fs cs) [fi ρ x] (p x)) :
  aV Tryz.prog w0 364 [gW ρ l,.fn (.func gid) fs cs] (aE [(0,o0),(1,o1),(2,o2),(3,o3),(4,o4)] 5) (iv (cE p l 0)) (aE [(0,o0),(1,o1),(2,o2),(3,o3),(4,o4)] 5):=by
 obtain⟨R,hR⟩:∃ R,R=cE p l 0:=⟨_,rfl⟩
 rw [<-hR]
 refine aD.dw 5 5 _ adJ (by simp [Tryz.ntmps364]) rfl rfl ?_
 refine gq rQ ?_
 repeat' (first
  |(refine az fun m hm=>?_;(try rw [af] at hm);refine gq rQ ?_)
  )
 refine ab.aP (σ:=Int) 5 5 [] (fun i=>[(0,gW ρ l),(1,.fn (.func gid) fs cs),(7,.v (.int .i64 m)),(8,.v (.int .i64 i))]) [] (fun _=>[(0,o0),(1,o1),(2,o2),(3,o3),(4,o4)])
  (fun i=>∃ k:Nat,i=k/\k<=l.length/\R=cE p (l.drop k) k) (fun i=>l.length - i.toNat) 0 ⟨0,rfl,by simp,by simpa using hR⟩ rfl ⟨⟨.aC rfl (Pure.bM (cN _)),.aC rfl hF,.aC rfl .v,.aC rfl .v,trivial⟩,rfl,⟨.inl ⟨_,rfl,.same k0.1⟩,.inl ⟨_,rfl,.same k1.1⟩,.inl ⟨_,rfl,.same k2.1⟩,.inl ⟨_,rfl,.same k3.1⟩,.inl ⟨_,rfl,.same k4.1⟩,trivial⟩,rfl,rfl,rfl⟩ ?_
 rintro i ⟨k,hi,hk,hp⟩
 clear hR
 refine gq rQ ?_
 by_cases au:k < l.length
 ·obtain⟨x,hx,aQ⟩:=aA au
  rw [aQ,cE] at hp
  have hf:=h x (aZ hx)
  obtain⟨B,hB⟩:∃ B,B=p x:=⟨_,rfl⟩
  rw [<-hB] at hp hf
  repeat' (first
   |(refine ab.op rfl (ad.ind rfl rfl (ay (l:=l) hi hx) (aw fun _=>rfl)) ?_;refine gq rQ ?_)
   |(refine ab.bif rfl (ad.vE hf rfl rfl (fp rfl rfl rfl rfl rfl rfl k0 k1 k2 k3 k4)) (fun _=>?_) (fun _=>?_)<;>refine gq rQ ?_)
   |(refine bq (fun hb=>?_) (fun hb=>?_)<;>(try simp only [aq] at hb)<;>(first|refine gq rQ ?_))
   |(refine aS fun _ _=>?_;refine gq rQ ?_)
   |(refine ab.ao ?_;refine gq rQ ?_)
   |(refine ab.bK ?_;refine gq rQ ?_)
   |(refine fq ?_))
  all_goals first
   |(exfalso;omega)
   |(rw [if_pos (by assumption)] at hp;rw [show R=i by omega];exact⟨[],.aC .v,⟨.inl ⟨_,rfl,.same k0.1⟩,.inl ⟨_,rfl,.same k1.1⟩,.inl ⟨_,rfl,.same k2.1⟩,.inl ⟨_,rfl,.same k3.1⟩,.inl ⟨_,rfl,.same k4.1⟩,trivial⟩,rfl⟩)
   |(rw [if_neg (by rw [show B=false by assumption];simp)] at hp
     refine ab.aK (σ:=Int) _ [] ?_ ?_ ⟨⟨.aC rfl (Pure.bM (cN _)),.aC rfl hF,.aC rfl .v,.aC rfl .v,trivial⟩,rfl,⟨.inl ⟨_,rfl,.same k0.1⟩,.inl ⟨_,rfl,.same k1.1⟩,.inl ⟨_,rfl,.same k2.1⟩,.inl ⟨_,rfl,.same k3.1⟩,.inl ⟨_,rfl,.same k4.1⟩,trivial⟩,rfl,rfl,rfl⟩
     ·exact⟨k+1,by omega,by omega,hp⟩
     ·omega)
 ·skip
  repeat' (first
   |(refine bq (fun hb=>?_) (fun hb=>?_)<;>(try simp only [aq] at hb)<;>(first|refine gq rQ ?_))
   |(refine ab.ao ?_;refine gq rQ ?_)
   |(refine fq ?_))
  all_goals first
   |(exfalso;omega)
   |(rw [show R=-1 by rw [hp,List.drop_eq_nil_of_le (by omega)];rfl];exact⟨[],.aC .v,⟨.inl ⟨_,rfl,.same k0.1⟩,.inl ⟨_,rfl,.same k1.1⟩,.inl ⟨_,rfl,.same k2.1⟩,.inl ⟨_,rfl,.same k3.1⟩,.inl ⟨_,rfl,.same k4.1⟩,trivial⟩,rfl⟩)
theorem ad2 {o0 o1 o2 o3 o4:Ob}(k0:ba 5 o0) (k1:ba 5 o1) (k2:ba 5 o2) (k3:ba 5 o3) (k4:ba 5 o4) (p:Fi->Bool) (l:List Fi) (gid:FuncId) (fs cs:List AV) (hl:l.length<=1099511627776) (hF:cD 5 (.fn (.func gid) fs cs)) (h:∀ x ∈ l,l6 Tryz.prog w0 [(0,o0),(1,o1),(2,o2),(3,o3),(4,o4)] 5 (.fn (.func gid) fs cs) [fi ρ x] (p x)) :
  aV Tryz.prog w0 256 [gW ρ l,.fn (.func gid) fs cs] (aE [(0,o0),(1,o1),(2,o2),(3,o3),(4,o4)] 5) (.v (.bool (l.any p))) (aE [(0,o0),(1,o1),(2,o2),(3,o3),(4,o4)] 5):=by
 have hI:=ad1 (w0:=w0) (ρ:=ρ) k0 k1 k2 k3 k4 p l gid fs cs hl hF h
 have ea:=kf p l 0
 obtain⟨j,hj⟩:∃ j,j=cE p l 0:=⟨_,rfl⟩
 rw [<-hj] at hI ea
 obtain⟨R,hR⟩:∃ R,R=l.any p:=⟨_,rfl⟩
 rw [<-hR] at ea ⊢
 refine aD.dw 5 5 _ adK (by simp [Tryz.ntmps256]) rfl rfl ?_
 refine gq OD ?_
 repeat' (first
  |(refine ab.int rfl (ad.gN hI rfl (fp rfl rfl rfl rfl rfl rfl k0 k1 k2 k3 k4) (fun a ha=>by simp only [List.mem_cons,List.not_mem_nil,or_false] at ha;rcases ha with rfl|rfl;exact Pure.bM (cN _);exact hF) .v) fun _ _=>?_;refine gq OD ?_)
  |(refine bq (fun hb=>?_) (fun hb=>?_)<;>(try simp only [aq] at hb)<;>(first|refine gq OD ?_))
  |(refine fq ?_))
 all_goals first
  |(rw [show R=true by rw [<-ea];exact decide_eq_true (by omega)];exact⟨[],.aC .v,⟨.inl ⟨_,rfl,.same k0.1⟩,.inl ⟨_,rfl,.same k1.1⟩,.inl ⟨_,rfl,.same k2.1⟩,.inl ⟨_,rfl,.same k3.1⟩,.inl ⟨_,rfl,.same k4.1⟩,trivial⟩,rfl⟩)
  |(rw [show R=false by rw [<-ea];exact decide_eq_false (by omega)];exact⟨[],.aC .v,⟨.inl ⟨_,rfl,.same k0.1⟩,.inl ⟨_,rfl,.same k1.1⟩,.inl ⟨_,rfl,.same k2.1⟩,.inl ⟨_,rfl,.same k3.1⟩,.inl ⟨_,rfl,.same k4.1⟩,trivial⟩,rfl⟩)
theorem ad3 {o0 o1 o2 o3:Ob}(k0:ba 4 o0) (k1:ba 4 o1) (k2:ba 4 o2) (k3:ba 4 o3) (b:Bool) (x:Fi) (gid:FuncId) (fs cs:List AV) (hF:cD 4 (.fn (.func gid) fs cs)) (h:l6 Tryz.prog w0 [(0,o0),(1,o1),(2,o2),(3,o3)] 4 (.fn (.func gid) fs cs) [fi ρ x] b) :
  aV Tryz.prog w0 257 [fi ρ x,.pt 4 1 0 0] (aE [(0,o0),(1,o1),(2,o2),(3,o3),(4,mz gid fs cs)] 5) (.v (.bool (!b))) (aE [(0,o0),(1,o1),(2,o2),(3,o3),(4,mz gid fs cs)] 5):=by
 have q0:=k0.mono (show 4<=5 by decide)
 have q1:=k1.mono (show 4<=5 by decide)
 have q2:=k2.mono (show 4<=5 by decide)
 have q3:=k3.mono (show 4<=5 by decide)
 have q4:=mA (hF.mono (show 4<=5 by decide))
 refine aD.dw 5 5 _ adL (by simp [Tryz.ntmps257]) rfl rfl ?_
 unfold mz at *
 refine gq XU ?_
 repeat' (first
  |(refine ab.bif rfl (ad.vE h rfl rfl (kO rfl rfl rfl rfl rfl k0 k1 k2 k3)) (fun _=>?_) (fun _=>?_)<;>refine gq XU ?_)
  |(refine fq ?_))
 all_goals
  subst b
  exact⟨[],.aC .v,⟨.inl ⟨_,rfl,.same q0.1⟩,.inl ⟨_,rfl,.same q1.1⟩,.inl ⟨_,rfl,.same q2.1⟩,.inl ⟨_,rfl,.same q3.1⟩,.inl ⟨_,rfl,.same q4.1⟩,trivial⟩,rfl⟩
theorem ad4 {o0 o1 o2 o3:Ob}(k0:ba 4 o0) (k1:ba 4 o1) (k2:ba 4 o2) (k3:ba 4 o3) (p:Fi->Bool) (l:List Fi) (gid:FuncId) (fs cs:List AV) (hl:l.length<=1099511627776) (hF:cD 4 (.fn (.func gid) fs cs)) (h:∀ x ∈ l,l6 Tryz.prog w0 [(0,o0),(1,o1),(2,o2),(3,o3)] 4 (.fn (.func gid) fs cs) [fi ρ x] (p x)) :
  aV Tryz.prog w0 132 [gW ρ l,.fn (.func gid) fs cs] (aE [(0,o0),(1,o1),(2,o2),(3,o3)] 4) (.v (.bool (l.all p))) (aE [(0,o0),(1,o1),(2,o2),(3,o3)] 4):=by
 have q0:=k0.mono (show 4<=5 by decide)
 have q1:=k1.mono (show 4<=5 by decide)
 have q2:=k2.mono (show 4<=5 by decide)
 have q3:=k3.mono (show 4<=5 by decide)
 have q4:=mA (hF.mono (show 4<=5 by decide))
 have hC:=ad2 (w0:=w0) (ρ:=ρ) q0 q1 q2 q3 q4 (fun x=>!p x) l 257 [] [.pt 4 1 0 0] hl (.fn (by simp) (fun a ha=>by obtain rfl:=List.mem_singleton.1 ha;exact .pt (by decide))) (fun x hx=>⟨_,[fi ρ x,.pt 4 1 0 0],rfl,fun a ha=>by simp only [List.mem_cons,List.not_mem_nil,or_false] at ha;rcases ha with rfl|rfl;exact (eh _).bM;exact .pt (by decide),ad3 k0 k1 k2 k3 _ x gid fs cs hF (h x hx)⟩)
 obtain⟨R,hR⟩:∃ R,R=l.any (fun x=>!p x):=⟨_,rfl⟩
 rw [show l.all p=!R by rw [hR,List.all_eq_not_any_not]]
 rw [<-hR] at hC
 clear hR
 refine aD.dw 4 4 _ adM (by simp [Tryz.ntmps132]) rfl rfl ?_
 unfold mz at *
 refine gq XV ?_
 repeat' (first
  |(refine ab.bif rfl (ad.gN hC rfl (fp rfl rfl rfl rfl rfl rfl q0 q1 q2 q3 q4) (fun a ha=>by simp only [List.mem_cons,List.not_mem_nil,or_false] at ha;rcases ha with rfl|rfl;exact Pure.bM (cN _);exact .fn (by simp) (fun a ha=>by obtain rfl:=List.mem_singleton.1 ha;exact .pt (by decide))) .v) (fun _=>?_) (fun _=>?_)<;>refine gq XV ?_)
  |(refine fq ?_))
 all_goals
  subst R
  exact⟨[],.aC .v,⟨.inl ⟨_,rfl,.same k0.1⟩,.inl ⟨_,rfl,.same k1.1⟩,.inl ⟨_,rfl,.same k2.1⟩,.inl ⟨_,rfl,.same k3.1⟩,trivial⟩,rfl⟩
theorem ad5 {o0 o1 o2 o3 o4 o5:Ob}(k0:ba 6 o0) (k1:ba 6 o1) (k2:ba 6 o2) (k3:ba 6 o3) (k4:ba 6 o4) (k5:ba 6 o5) (p:Int->Bool) (l:List Int) (gid:FuncId) (fs cs:List AV) (hl:l.length<=1099511627776) (hF:cD 6 (.fn (.func gid) fs cs)) (h:∀ x ∈ l,l6 Tryz.prog w0 [(0,o0),(1,o1),(2,o2),(3,o3),(4,o4),(5,o5)] 6 (.fn (.func gid) fs cs) [iv x] (p x)) :
  aV Tryz.prog w0 418 [bY ρ bJ false l,.fn (.func gid) fs cs] (aE [(0,o0),(1,o1),(2,o2),(3,o3),(4,o4),(5,o5)] 6) (iv (cE p l 0)) (aE [(0,o0),(1,o1),(2,o2),(3,o3),(4,o4),(5,o5)] 6):=by
 obtain⟨R,hR⟩:∃ R,R=cE p l 0:=⟨_,rfl⟩
 rw [<-hR]
 refine aD.dw 6 6 _ Qi (by simp [Tryz.ntmps418]) rfl rfl ?_
 refine gq jd ?_
 repeat' (first
  |(refine az fun m hm=>?_;(try rw [af] at hm);refine gq jd ?_)
  )
 refine ab.aP (σ:=Int) 6 6 [] (fun i=>[(0,bY ρ bJ false l),(1,.fn (.func gid) fs cs),(7,.v (.int .i64 m)),(8,.v (.int .i64 i))]) [] (fun _=>[(0,o0),(1,o1),(2,o2),(3,o3),(4,o4),(5,o5)])
  (fun i=>∃ k:Nat,i=k/\k<=l.length/\R=cE p (l.drop k) k) (fun i=>l.length - i.toNat) 0 ⟨0,rfl,by simp,by simpa using hR⟩ rfl ⟨⟨.aC rfl (Pure.bM (bR _)),.aC rfl hF,.aC rfl .v,.aC rfl .v,trivial⟩,rfl,⟨.inl ⟨_,rfl,.same k0.1⟩,.inl ⟨_,rfl,.same k1.1⟩,.inl ⟨_,rfl,.same k2.1⟩,.inl ⟨_,rfl,.same k3.1⟩,.inl ⟨_,rfl,.same k4.1⟩,.inl ⟨_,rfl,.same k5.1⟩,trivial⟩,rfl,rfl,rfl⟩ ?_
 rintro i ⟨k,hi,hk,hp⟩
 clear hR
 refine gq jd ?_
 by_cases au:k < l.length
 ·obtain⟨x,hx,aQ⟩:=aA au
  rw [aQ,cE] at hp
  have hf:=h x (aZ hx)
  obtain⟨B,hB⟩:∃ B,B=p x:=⟨_,rfl⟩
  rw [<-hB] at hp hf
  repeat' (first
   |(refine ab.op rfl (ad.ind rfl rfl (ay (l:=l) hi hx) (aw fun _=>rfl)) ?_;refine gq jd ?_)
   |(refine ab.bif rfl (ad.vE hf rfl rfl (AX rfl rfl rfl rfl rfl rfl rfl k0 k1 k2 k3 k4 k5)) (fun _=>?_) (fun _=>?_)<;>refine gq jd ?_)
   |(refine bq (fun hb=>?_) (fun hb=>?_)<;>(try simp only [aq] at hb)<;>(first|refine gq jd ?_))
   |(refine aS fun _ _=>?_;refine gq jd ?_)
   |(refine ab.ao ?_;refine gq jd ?_)
   |(refine ab.bK ?_;refine gq jd ?_)
   |(refine fq ?_))
  all_goals first
   |(exfalso;omega)
   |(rw [if_pos (by assumption)] at hp;rw [show R=i by omega];exact⟨[],.aC .v,⟨.inl ⟨_,rfl,.same k0.1⟩,.inl ⟨_,rfl,.same k1.1⟩,.inl ⟨_,rfl,.same k2.1⟩,.inl ⟨_,rfl,.same k3.1⟩,.inl ⟨_,rfl,.same k4.1⟩,.inl ⟨_,rfl,.same k5.1⟩,trivial⟩,rfl⟩)
   |(rw [if_neg (by rw [show B=false by assumption];simp)] at hp
     refine ab.aK (σ:=Int) _ [] ?_ ?_ ⟨⟨.aC rfl (Pure.bM (bR _)),.aC rfl hF,.aC rfl .v,.aC rfl .v,trivial⟩,rfl,⟨.inl ⟨_,rfl,.same k0.1⟩,.inl ⟨_,rfl,.same k1.1⟩,.inl ⟨_,rfl,.same k2.1⟩,.inl ⟨_,rfl,.same k3.1⟩,.inl ⟨_,rfl,.same k4.1⟩,.inl ⟨_,rfl,.same k5.1⟩,trivial⟩,rfl,rfl,rfl⟩
     ·exact⟨k+1,by omega,by omega,hp⟩
     ·omega)
 ·skip
  repeat' (first
   |(refine bq (fun hb=>?_) (fun hb=>?_)<;>(try simp only [aq] at hb)<;>(first|refine gq jd ?_))
   |(refine ab.ao ?_;refine gq jd ?_)
   |(refine fq ?_))
  all_goals first
   |(exfalso;omega)
   |(rw [show R=-1 by rw [hp,List.drop_eq_nil_of_le (by omega)];rfl];exact⟨[],.aC .v,⟨.inl ⟨_,rfl,.same k0.1⟩,.inl ⟨_,rfl,.same k1.1⟩,.inl ⟨_,rfl,.same k2.1⟩,.inl ⟨_,rfl,.same k3.1⟩,.inl ⟨_,rfl,.same k4.1⟩,.inl ⟨_,rfl,.same k5.1⟩,trivial⟩,rfl⟩)
theorem ad6 {o0 o1 o2 o3 o4 o5:Ob}(k0:ba 6 o0) (k1:ba 6 o1) (k2:ba 6 o2) (k3:ba 6 o3) (k4:ba 6 o4) (k5:ba 6 o5) (p:Int->Bool) (l:List Int) (gid:FuncId) (fs cs:List AV) (hl:l.length<=1099511627776) (hF:cD 6 (.fn (.func gid) fs cs)) (h:∀ x ∈ l,l6 Tryz.prog w0 [(0,o0),(1,o1),(2,o2),(3,o3),(4,o4),(5,o5)] 6 (.fn (.func gid) fs cs) [iv x] (p x)) :
  aV Tryz.prog w0 319 [bY ρ bJ false l,.fn (.func gid) fs cs] (aE [(0,o0),(1,o1),(2,o2),(3,o3),(4,o4),(5,o5)] 6) (.v (.bool (l.any p))) (aE [(0,o0),(1,o1),(2,o2),(3,o3),(4,o4),(5,o5)] 6):=by
 have hI:=ad5 (w0:=w0) (ρ:=ρ) k0 k1 k2 k3 k4 k5 p l gid fs cs hl hF h
 have ea:=kf p l 0
 obtain⟨j,hj⟩:∃ j,j=cE p l 0:=⟨_,rfl⟩
 rw [<-hj] at hI ea
 obtain⟨R,hR⟩:∃ R,R=l.any p:=⟨_,rfl⟩
 rw [<-hR] at ea ⊢
 refine aD.dw 6 6 _ Z4 (by simp [Tryz.ntmps319]) rfl rfl ?_
 refine gq M5 ?_
 repeat' (first
  |(refine ab.int rfl (ad.gN hI rfl (AX rfl rfl rfl rfl rfl rfl rfl k0 k1 k2 k3 k4 k5) (fun a ha=>by simp only [List.mem_cons,List.not_mem_nil,or_false] at ha;rcases ha with rfl|rfl;exact Pure.bM (bR _);exact hF) .v) fun _ _=>?_;refine gq M5 ?_)
  |(refine bq (fun hb=>?_) (fun hb=>?_)<;>(try simp only [aq] at hb)<;>(first|refine gq M5 ?_))
  |(refine fq ?_))
 all_goals first
  |(rw [show R=true by rw [<-ea];exact decide_eq_true (by omega)];exact⟨[],.aC .v,⟨.inl ⟨_,rfl,.same k0.1⟩,.inl ⟨_,rfl,.same k1.1⟩,.inl ⟨_,rfl,.same k2.1⟩,.inl ⟨_,rfl,.same k3.1⟩,.inl ⟨_,rfl,.same k4.1⟩,.inl ⟨_,rfl,.same k5.1⟩,trivial⟩,rfl⟩)
  |(rw [show R=false by rw [<-ea];exact decide_eq_false (by omega)];exact⟨[],.aC .v,⟨.inl ⟨_,rfl,.same k0.1⟩,.inl ⟨_,rfl,.same k1.1⟩,.inl ⟨_,rfl,.same k2.1⟩,.inl ⟨_,rfl,.same k3.1⟩,.inl ⟨_,rfl,.same k4.1⟩,.inl ⟨_,rfl,.same k5.1⟩,trivial⟩,rfl⟩)
theorem ad7 {o0 o1 o2 o3 o4:Ob}(k0:ba 5 o0) (k1:ba 5 o1) (k2:ba 5 o2) (k3:ba 5 o3) (k4:ba 5 o4) (b:Bool) (x:Int) (gid:FuncId) (fs cs:List AV) (hF:cD 5 (.fn (.func gid) fs cs)) (h:l6 Tryz.prog w0 [(0,o0),(1,o1),(2,o2),(3,o3),(4,o4)] 5 (.fn (.func gid) fs cs) [iv x] b) :
  aV Tryz.prog w0 363 [iv x,.pt 5 1 0 0] (aE [(0,o0),(1,o1),(2,o2),(3,o3),(4,o4),(5,mz gid fs cs)] 6) (.v (.bool (!b))) (aE [(0,o0),(1,o1),(2,o2),(3,o3),(4,o4),(5,mz gid fs cs)] 6):=by
 have q0:=k0.mono (show 5<=6 by decide)
 have q1:=k1.mono (show 5<=6 by decide)
 have q2:=k2.mono (show 5<=6 by decide)
 have q3:=k3.mono (show 5<=6 by decide)
 have q4:=k4.mono (show 5<=6 by decide)
 have q5:=mA (hF.mono (show 5<=6 by decide))
 refine aD.dw 6 6 _ adN (by simp [Tryz.ntmps363]) rfl rfl ?_
 unfold mz at *
 refine gq XW ?_
 repeat' (first
  |(refine ab.bif rfl (ad.vE h rfl rfl (fp rfl rfl rfl rfl rfl rfl k0 k1 k2 k3 k4)) (fun _=>?_) (fun _=>?_)<;>refine gq XW ?_)
  |(refine fq ?_))
 all_goals
  subst b
  exact⟨[],.aC .v,⟨.inl ⟨_,rfl,.same q0.1⟩,.inl ⟨_,rfl,.same q1.1⟩,.inl ⟨_,rfl,.same q2.1⟩,.inl ⟨_,rfl,.same q3.1⟩,.inl ⟨_,rfl,.same q4.1⟩,.inl ⟨_,rfl,.same q5.1⟩,trivial⟩,rfl⟩
theorem Kd {o0 o1 o2 o3 o4:Ob}(k0:ba 5 o0) (k1:ba 5 o1) (k2:ba 5 o2) (k3:ba 5 o3) (k4:ba 5 o4) (p:Int->Bool) (l:List Int) (gid:FuncId) (fs cs:List AV) (hl:l.length<=1099511627776) (hF:cD 5 (.fn (.func gid) fs cs)) (h:∀ x ∈ l,l6 Tryz.prog w0 [(0,o0),(1,o1),(2,o2),(3,o3),(4,o4)] 5 (.fn (.func gid) fs cs) [iv x] (p x)) :
  aV Tryz.prog w0 254 [bY ρ bJ false l,.fn (.func gid) fs cs] (aE [(0,o0),(1,o1),(2,o2),(3,o3),(4,o4)] 5) (.v (.bool (l.all p))) (aE [(0,o0),(1,o1),(2,o2),(3,o3),(4,o4)] 5):=by
 have q0:=k0.mono (show 5<=6 by decide)
 have q1:=k1.mono (show 5<=6 by decide)
 have q2:=k2.mono (show 5<=6 by decide)
 have q3:=k3.mono (show 5<=6 by decide)
 have q4:=k4.mono (show 5<=6 by decide)
 have q5:=mA (hF.mono (show 5<=6 by decide))
 have hC:=ad6 (w0:=w0) (ρ:=ρ) q0 q1 q2 q3 q4 q5 (fun x=>!p x) l 363 [] [.pt 5 1 0 0] hl (.fn (by simp) (fun a ha=>by obtain rfl:=List.mem_singleton.1 ha;exact .pt (by decide))) (fun x hx=>⟨_,[iv x,.pt 5 1 0 0],rfl,fun a ha=>by simp only [List.mem_cons,List.not_mem_nil,or_false] at ha;rcases ha with rfl|rfl;exact .v;exact .pt (by decide),ad7 k0 k1 k2 k3 k4 _ x gid fs cs hF (h x hx)⟩)
 obtain⟨R,hR⟩:∃ R,R=l.any (fun x=>!p x):=⟨_,rfl⟩
 rw [show l.all p=!R by rw [hR,List.all_eq_not_any_not]]
 rw [<-hR] at hC
 clear hR
 refine aD.dw 5 5 _ adO (by simp [Tryz.ntmps254]) rfl rfl ?_
 unfold mz at *
 refine gq XX ?_
 repeat' (first
  |(refine ab.bif rfl (ad.gN hC rfl (AX rfl rfl rfl rfl rfl rfl rfl q0 q1 q2 q3 q4 q5) (fun a ha=>by simp only [List.mem_cons,List.not_mem_nil,or_false] at ha;rcases ha with rfl|rfl;exact Pure.bM (bR _);exact .fn (by simp) (fun a ha=>by obtain rfl:=List.mem_singleton.1 ha;exact .pt (by decide))) .v) (fun _=>?_) (fun _=>?_)<;>refine gq XX ?_)
  |(refine fq ?_))
 all_goals
  subst R
  exact⟨[],.aC .v,⟨.inl ⟨_,rfl,.same k0.1⟩,.inl ⟨_,rfl,.same k1.1⟩,.inl ⟨_,rfl,.same k2.1⟩,.inl ⟨_,rfl,.same k3.1⟩,.inl ⟨_,rfl,.same k4.1⟩,trivial⟩,rfl⟩
end
end
end Go.Proofs.YtgphljokbodciaaGreat
