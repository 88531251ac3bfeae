import Derived.Test.YtgphljokbodciaaGreatS20
namespace Go.Proofs.YtgphljokbodciaaGreat
set_option linter.unusedVariables false
set_option linter.unusedSimpArgs false
open Go.RowKit
section
set_option maxRecDepth 100000
attribute [local irreducible] ah aV ad ab
def Qp:CF Tryz.f278:=⟨_,by conv=>lhs;cbv⟩
theorem Z7:aD Tryz.prog 278 Qp.1 Tryz.f278.ntmps:=aO Tryz.func278 Qp.2 Tryz.call278
def sR:List Nat:=[8,0,5,4,7,9,1,16]
def Qq:CF Tryz.f168:=⟨_,by conv=>lhs;cbv⟩
theorem Z8:aD Tryz.prog 168 Qq.1 Tryz.f168.ntmps:=aO Tryz.func168 Qq.2 Tryz.call168
def M8:List Nat:=[4,0,1]
def Qr:CF Tryz.f451:=⟨_,by conv=>lhs;cbv⟩
theorem Z9:aD Tryz.prog 451 Qr.1 Tryz.f451.ntmps:=aO Tryz.func451 Qr.2 Tryz.call451
def qX:List Nat:=[8,0,5,4,1,7,9,3,16]
def Qs:CF Tryz.f361:=⟨_,by conv=>lhs;cbv⟩
theorem Z_:aD Tryz.prog 361 Qs.1 Tryz.f361.ntmps:=aO Tryz.func361 Qs.2 Tryz.call361
def M9:List Nat:=[4,1,0,3]
def Qt:CF Tryz.f248:=⟨_,by conv=>lhs;cbv⟩
theorem aaa:aD Tryz.prog 248 Qt.1 Tryz.f248.ntmps:=aO Tryz.func248 Qt.2 Tryz.call248
def VB:List Nat:=[6,0,1,2]
def Qu:CF Tryz.f209:=⟨_,by conv=>lhs;cbv⟩
theorem aab:aD Tryz.prog 209 Qu.1 Tryz.f209.ntmps:=aO Tryz.func209 Qu.2 Tryz.call209
def M_:List Nat:=[2,0,1]
def Qv:CF Tryz.f222:=⟨_,by conv=>lhs;cbv⟩
theorem aac:aD Tryz.prog 222 Qv.1 Tryz.f222.ntmps:=aO Tryz.func222 Qv.2 Tryz.call222
def Na:List Nat:=[2,0,1]
def Qw:CF Tryz.f326:=⟨_,by conv=>lhs;cbv⟩
theorem aad:aD Tryz.prog 326 Qw.1 Tryz.f326.ntmps:=aO Tryz.func326 Qw.2 Tryz.call326
def afy:List Nat:=[2,0,1]
def Qx:CF Tryz.f426:=⟨_,by conv=>lhs;cbv⟩
theorem aae:aD Tryz.prog 426 Qx.1 Tryz.f426.ntmps:=aO Tryz.func426 Qx.2 Tryz.call426
def VC:List Nat:=[3,0,2,1]
def Qy:CF Tryz.f228:=⟨_,by conv=>lhs;cbv⟩
theorem aaf:aD Tryz.prog 228 Qy.1 Tryz.f228.ntmps:=aO Tryz.func228 Qy.2 Tryz.call228
def Dg:List Nat:=[4,0,6,5,1,12]
def Qz:CF Tryz.f111:=⟨_,by conv=>lhs;cbv⟩
theorem aag:aD Tryz.prog 111 Qz.1 Tryz.f111.ntmps:=aO Tryz.func111 Qz.2 Tryz.call111
def qY:List Nat:=[6,4,0,5,10,1,19]
def ia (l:List Im) (id:Int):At × Bool:=match l.find? fun x=>x.id == id with|some x=>(⟨x.n,x.a⟩,true)|none=>(⟨⟨#[]⟩,[]⟩,false)
theorem Dh {T:Type}(p:T->Bool):∀ (l:List T) (k:Nat),0<=cE p l k->∃ (j:Nat) (x:T),cE p l k=((k+j:Nat):Int)/\l[j]?=some x/\l.find? p=some x
 |[],k,h=>by rw [cE] at h;omega
 |x::l,k,h=>by
  rw [cE] at h ⊢
  by_cases c:p x=true
  ·rw [if_pos c];exact⟨0,x,rfl,rfl,by rw [List.find?_cons,c]⟩
  ·rw [if_neg c] at h ⊢
   obtain⟨j,y,h1,h2,h3⟩:=Dh p l (k+1) h
   exact⟨j+1,y,by rw [h1];congr 1;omega,by simpa using h2,by rw [List.find?_cons];simp [c,h3]⟩
theorem FG {T:Type}(p:T->Bool):∀ (l:List T) (k:Nat),cE p l k < 0->l.find? p=none
 |[],k,h=>rfl
 |x::l,k,h=>by
  rw [cE] at h
  by_cases c:p x=true
  ·rw [if_pos c] at h;omega
  ·rw [if_neg c] at h
   rw [List.find?_cons]
   simp [c,FG p l (k+1) h]
theorem vn (l:List Int) (v:Int):(l.any fun x=>v == x)=l.contains v:=by
 induction l with
 |nil=>rfl
 |cons x l ih=>rw [List.any_cons,List.contains_cons,ih]
section
variable {w0:World}{ρ:Hd}
theorem aah (l:List Int) (v:Int) (hl:l.length<=1099511627776):ah Tryz.prog w0 278 [bY ρ bJ false l,iv v] (iv (cE (fun x=>v == x) l 0)):=by
 obtain⟨R,hR⟩:∃ R,R=cE (fun x=>v == x) l 0:=⟨_,rfl⟩
 rw [<-hR]
 refine Z7.aH (by simp [Tryz.ntmps278]) (.v) ?_
 refine gq sR ?_
 repeat' (first
  |(refine az fun m hm=>?_;(try rw [af] at hm);refine gq sR ?_)
  )
 refine ab.aP (σ:=Int) 0 0 [] (fun i=>[(0,bY ρ bJ false l),(1,.v (.int .i64 v)),(7,.v (.int .i64 m)),(8,.v (.int .i64 i))]) [] (fun _=>[]) (fun i=>∃ k:Nat,i=k/\k<=l.length/\R=cE (fun x=>v == x) (l.drop k) k) (fun i=>l.length - i.toNat) 0 ⟨0,rfl,by simp,by simpa using hR⟩ rfl cq ?_
 rintro i ⟨k,hi,hk,hp⟩
 clear hR
 refine gq sR ?_
 by_cases au:k < l.length
 ·obtain⟨x,hx,aQ⟩:=aA au
  rw [aQ,cE] at hp
  repeat' (first
   |(refine ab.op rfl (ad.ind rfl rfl (ay (l:=l) hi hx) (aw fun _=>rfl)) ?_;refine gq sR ?_)
   |(refine bq (fun hb=>?_) (fun hb=>?_)<;>(try simp only [aq] at hb)<;>(first|refine gq sR ?_))
   |(refine aS fun _ _=>?_;refine gq sR ?_)
   |(refine ab.ao ?_;refine gq sR ?_)
   |(refine ab.bK ?_;refine gq sR ?_)
   |(refine fq ?_))
  all_goals first
   |(rw [if_pos (by simp_all)] at hp;refine dK ?_;omega)
   |(rw [if_neg (by simp_all)] at hp;(refine ab.aK (σ:=Int) _ [] ?_ ?_ cq<;>first|omega|exact⟨k+1,by omega,by omega,hp⟩))
 ·skip
  repeat' (first
   |(refine bq (fun hb=>?_) (fun hb=>?_)<;>(try simp only [aq] at hb)<;>(first|refine gq sR ?_))
   |(refine ab.ao ?_;refine gq sR ?_)
   |(refine fq ?_))
  all_goals first
   |(exfalso;omega)
   |(rw [hp,List.drop_eq_nil_of_le (by omega)];exact dK rfl)
theorem KM (l:List Int) (v:Int) (hl:l.length<=1099511627776):ah Tryz.prog w0 168 [bY ρ bJ false l,iv v] (.v (.bool (l.contains v))):=by
 have hI:=aah (w0:=w0) (ρ:=ρ) l v hl
 have ea:=kf (fun x=>v == x) l 0
 rw [vn] at ea
 obtain⟨j,hj⟩:∃ j,j=cE (fun x=>v == x) l 0:=⟨_,rfl⟩
 rw [<-hj] at hI ea
 refine Z8.aH (by simp [Tryz.ntmps168]) (.v) ?_
 refine gq M8 ?_
 repeat' (first
  |(refine ab.int rfl (ad.ag rfl hI ⟨bR _,.v,trivial⟩) fun _ _=>?_;refine gq M8 ?_)
  |(refine bq (fun hb=>?_) (fun hb=>?_)<;>(try simp only [aq] at hb)<;>(first|refine gq M8 ?_))
  |(refine fq ?_))
 all_goals (subst_vars;refine aI ?_;rw [<-ea];simp_all)
theorem TL (r:Rl) (hl:r.rem.length<=1099511627776):ah Tryz.prog w0 209 [rl ρ r] (.v (.bool r.rem.isEmpty)):=by
 obtain⟨n,ke,re,g,b,v⟩:=r
 dsimp only at hl ⊢
 refine aab.aH (by simp [Tryz.ntmps209]) (.v) ?_
 refine gq M_ ?_
 repeat' (first
  |(refine bq (fun hb=>?_) (fun hb=>?_)<;>(try simp only [aq] at hb)<;>(first|refine gq M_ ?_))
  |(refine az fun m hm=>?_;(try rw [af] at hm);refine gq M_ ?_)
  |(refine fq ?_))
 all_goals (subst_vars;refine aI ?_;cases re<;>simp_all<;>omega)
theorem TM (r:Rl) (hl:r.rem.length<=1099511627776):ah Tryz.prog w0 222 [rl ρ r] (.v (.bool r.rem.isEmpty)):=by
 obtain⟨n,ke,re,g,b,v⟩:=r
 dsimp only at hl ⊢
 refine aac.aH (by simp [Tryz.ntmps222]) (.v) ?_
 refine gq Na ?_
 repeat' (first
  |(refine bq (fun hb=>?_) (fun hb=>?_)<;>(try simp only [aq] at hb)<;>(first|refine gq Na ?_))
  |(refine az fun m hm=>?_;(try rw [af] at hm);refine gq Na ?_)
  |(refine fq ?_))
 all_goals (subst_vars;refine aI ?_;cases re<;>simp_all<;>omega)
theorem FH (n n':ByteArray) (i i':Int):KE Tryz.prog 108 (.agg #[.string n,.int .i64 i]) (.agg #[.string n',.int .i64 i']) (n.toList == n'.toList && i == i'):=by
 refine⟨⟨_,_,rfl,rfl⟩,by kernel_rfl,fun w=>?_⟩
 have hS:Tryz.prog.underlying 108=some (.struct (Tryz.prog.fieldsOf 108)):=by kernel_rfl
 have hp:Tryz.prog.stoodInHeld 108=false:=by kernel_rfl
 have u3:=Tryz.underlying3
 have u9:=Tryz.underlying9
 have a3:=Tryz.isAgg3
 have a9:=Tryz.isAgg9
 rw [run_eql_struct,show (10000:Nat)=9998+1+1 from rfl,run_equalIn_agg w _ 108 _ _ hS hp]
 simp only [Program.fieldsOf,Tryz.underlying108]
 have e1:∀ w,(Op.equalIn (9998+1) 9 (.string n) (.string n')).run Tryz.prog w=.ok (n.toList == n'.toList) w:=fun w=>run_equalIn_string w _ _ _ _ u9
 have e2:∀ w,(Op.equalIn (9998+1) 3 (.int .i64 i) (.int .i64 i')).run Tryz.prog w=.ok (i == i') w:=fun w=>run_equalIn_int w _ _ _ _ _ _ u3
 cases h1:(n.toList == n'.toList)<;>cases h2:(i == i')<;>simp [Op.eqFields,part,a3,a9,e1,e2,h1,h2]
def yV (n:ByteArray) (i:Int) (d:Dc):Bool:=n.toList == d.n.toList && i == d.ar
theorem TN (l:List Dc) (n:ByteArray) (i:Int):l.any (yV n i)=dU l n i:=by
 unfold dU
 congr 1
 funext d
 unfold yV
 rw [Bool.eq_iff_iff]
 simp only [Bool.and_eq_true,beq_iff_eq]
 constructor<;>rintro⟨h1,h2⟩<;>exact⟨h1.symm,h2.symm⟩
theorem aai (l:List Dc) (n:ByteArray) (a:Int) (hl:l.length<=1099511627776):ah Tryz.prog w0 451 [dP ρ l,dc ⟨n,a⟩] (iv (cE (yV n a) l 0)):=by
 obtain⟨R,hR⟩:∃ R,R=cE (yV n a) l 0:=⟨_,rfl⟩
 rw [<-hR]
 refine Z9.aH (by simp [Tryz.ntmps451]) (.v) ?_
 refine gq qX ?_
 repeat' (first
  |(refine az fun m hm=>?_;(try rw [af] at hm);refine gq qX ?_)
  )
 refine ab.aP (σ:=Int) 1 1 [] (fun i=>[(0,dP ρ l),(3,.pt 0 2 0 0),(7,.v (.int .i64 m)),(8,.v (.int .i64 i))]) [] (fun _=>[(0,.arr 2 [Kx ⟨n,a⟩] 0 true)]) (fun i=>∃ k:Nat,i=k/\k<=l.length/\R=cE (yV n a) (l.drop k) k) (fun i=>l.length - i.toNat) 0 ⟨0,rfl,by simp,by simpa using hR⟩ rfl (by exact⟨sq,rfl,⟨.inl ⟨_,rfl,.arr (by exact⟨kq,trivial⟩)⟩,trivial⟩,rfl,rfl,rfl⟩) ?_
 rintro i ⟨k,hi,hk,hp⟩
 clear hR
 refine gq qX ?_
 by_cases au:k < l.length
 ·obtain⟨x,hx,aQ⟩:=aA au
  rw [aQ,cE] at hp
  obtain⟨xn,xa⟩:=x
  repeat' (first
   |(refine ab.op rfl (ad.ind rfl rfl (ay (l:=l) hi hx) (aw fun _=>rfl)) ?_;refine gq qX ?_)
   |(refine ab.bif rfl (ad.eqs rfl rfl (FH n xn a xa)) (fun _=>?_) (fun _=>?_)<;>refine gq qX ?_)
   |(refine bq (fun hb=>?_) (fun hb=>?_)<;>(try simp only [aq] at hb)<;>(first|refine gq qX ?_))
   |(refine aS fun _ _=>?_;refine gq qX ?_)
   |(refine ab.ao ?_;refine gq qX ?_)
   |(refine ab.bK ?_;refine gq qX ?_)
   |(refine fq ?_))
  ·have hq:(n.toList == xn.toList && a == xa)=true:=by assumption
   rw [if_pos (show yV n a ⟨xn,xa⟩=true from hq)] at hp
   refine dK ?_;omega
  ·have hq:(n.toList == xn.toList && a == xa)=false:=by assumption
   rw [if_neg (show ¬ yV n a ⟨xn,xa⟩=true from by show ¬ (n.toList == xn.toList && a == xa)=true;rw [hq];simp)] at hp
   (refine ab.aK (σ:=Int) _ [] ?_ ?_ (by exact⟨sq,rfl,⟨.inl ⟨_,rfl,.arr (by exact⟨kq,trivial⟩)⟩,trivial⟩,rfl,rfl,rfl⟩)<;>first|omega|exact⟨k+1,by omega,by omega,hp⟩)
  ·omega
 ·skip
  repeat' (first
   |(refine bq (fun hb=>?_) (fun hb=>?_)<;>(try simp only [aq] at hb)<;>(first|refine gq qX ?_))
   |(refine ab.ao ?_;refine gq qX ?_)
   |(refine fq ?_))
  all_goals first
   |(exfalso;omega)
   |(rw [hp,List.drop_eq_nil_of_le (by omega)];exact dK rfl)
theorem VD (l:List Dc) (n:ByteArray) (a:Int) (hl:l.length<=1099511627776):ah Tryz.prog w0 361 [dP ρ l,dc ⟨n,a⟩] (.v (.bool (dU l n a))):=by
 have hI:=aai (w0:=w0) (ρ:=ρ) l n a hl
 have ea:=kf (yV n a) l 0
 rw [TN] at ea
 obtain⟨j,hj⟩:∃ j,j=cE (yV n a) l 0:=⟨_,rfl⟩
 rw [<-hj] at hI ea
 refine Z_.aH (by simp [Tryz.ntmps361]) (.v) ?_
 refine gq M9 ?_
 repeat' (first
  |(refine ab.int rfl (ad.ag rfl hI ⟨cg _,Ah ⟨n,a⟩,trivial⟩) fun _ _=>?_;refine gq M9 ?_)
  |(refine bq (fun hb=>?_) (fun hb=>?_)<;>(try simp only [aq] at hb)<;>(first|refine gq M9 ?_))
  |(refine fq ?_))
 all_goals (subst_vars;refine aI ?_;rw [<-ea];simp_all)
theorem tZ (l:List Dc) (n:ByteArray) (a:Int) (hl:l.length<=1099511627776):ah Tryz.prog w0 248 [dP ρ l,.v (.string n),iv a] (.v (.bool (dU l n a))):=by
 have hI:=VD (w0:=w0) (ρ:=ρ) l n a hl
 obtain⟨R,hR⟩:∃ R,R=dU l n a:=⟨_,rfl⟩
 rw [<-hR] at hI ⊢
 refine aaa.aH (by simp [Tryz.ntmps248]) (.v) ?_
 refine gq VB ?_
 repeat' (first
  |(refine ab.op rfl (ad.ag rfl hI ⟨cg _,Ah ⟨n,a⟩,trivial⟩) ?_;refine gq VB ?_)
  |(refine fq ?_))
 exact aI rfl
theorem VE (id:Int):ah Tryz.prog w0 326 [iv id] (.fn (.func 426) [] [.ip [iv id]]):=by
 refine aad.aH (by simp [Tryz.ntmps326]) ((.fn (fun a ha=>by cases ha) fun a ha=>by obtain rfl:=List.mem_singleton.1 ha;exact .ip fun b hb=>by obtain rfl:=List.mem_singleton.1 hb;exact .v)) ?_
 refine gq afy ?_
 repeat' (first
  |(refine fq ?_))
 refine aX.fns ?_ ?_
 ·exact trivial
 ·exact⟨aX.box (cs:=[iv id]) (cs':=[iv id]) rfl ⟨.refl _,trivial⟩,trivial⟩
theorem TO (x:Im) (id:Int):ah Tryz.prog w0 426 [it ρ x,.ip [iv id]] (.v (.bool (x.id == id))):=by
 obtain⟨i,n,a⟩:=x
 refine aae.aH (by simp [Tryz.ntmps426]) (.v) ?_
 refine gq VC ?_
 repeat' (first
  |(refine bq (fun hb=>?_) (fun hb=>?_)<;>(try simp only [aq] at hb)<;>(first|refine gq VC ?_))
  |(refine fq ?_))
 all_goals (refine aI ?_;simp_all)
theorem aaj (x:Im) (id:Int):yN Tryz.prog w0 (.fn (.func 426) [] [.ip [iv id]]) [it ρ x] (x.id == id):=⟨_,_,rfl,⟨mV x,.ip fun b hb=>by obtain rfl:=List.mem_singleton.1 hb;exact .v,trivial⟩,TO x id⟩
theorem VF (l:List Im) (id:Int) (hl:l.length<=1099511627776):ah Tryz.prog w0 228 [fN ρ l,iv id] (.bc [at_ ρ (ia l id).1,.v (.bool (ia l id).2)]):=by
 have hW:=VE (w0:=w0) id
 have hWp:Pure (.fn (.func 426) [] [.ip [iv id]]):=.fn (fun a ha=>by cases ha) fun a ha=>by obtain rfl:=List.mem_singleton.1 ha;exact .ip fun b hb=>by obtain rfl:=List.mem_singleton.1 hb;exact .v
 have hI:=Vw (w0:=w0) (ρ:=ρ) (fun x=>x.id == id) l _ [] _ hl hWp (fun x _=>aaj x id)
 have h1:=Dh (fun x:Im=>x.id == id) l 0
 have h2:=FG (fun x:Im=>x.id == id) l 0
 obtain⟨j,hj⟩:∃ j,j=cE (fun x:Im=>x.id == id) l 0:=⟨_,rfl⟩
 rw [<-hj] at hI h1 h2
 obtain⟨R,hR⟩:∃ R,R=ia l id:=⟨_,rfl⟩
 rw [<-hR]
 unfold ia at hR
 refine aaf.aH (by simp [Tryz.ntmps228]) ((.bc fun a ha=>by simp only [List.mem_cons,List.not_mem_nil,or_false] at ha;rcases ha with rfl|rfl;exact cX _;exact .v)) ?_
 refine gq Dg ?_
 repeat' (first
  |(refine ab.op rfl (ad.ag rfl hW ⟨.v,trivial⟩) ?_;refine gq Dg ?_)
  |(refine ab.int rfl (ad.ag rfl hI ⟨ct _,hWp,trivial⟩) fun _ _=>?_;refine gq Dg ?_)
  |(refine bq (fun hb=>?_) (fun hb=>?_)<;>(try simp only [aq] at hb)<;>(first|refine gq Dg ?_))
  |(refine fq ?_))
 ·obtain⟨q,x,e1,e2,e3⟩:=h1 (by omega)
  rw [e3] at hR
  subst hR
  obtain⟨xi,xn,xa⟩:=x
  repeat' (first
   |(refine ab.op rfl (ad.ind rfl rfl (ay (l:=l) (k:=q) (by omega) e2) (aw fun _=>rfl)) ?_;refine gq Dg ?_)
   |(refine fq ?_))
  exact aX.of_eq rfl
 ·rw [h2 (by omega)] at hR
  subst hR
  refine .bc rfl fun i a a' h1 h2=>?_
  match i,h1,h2 with
  |0,h1,h2 =>
   obtain rfl:=Option.some.inj h1
   obtain rfl:=Option.some.inj h2
   refine .agg rfl fun i a a' h1 h2=>?_
   match i,h1,h2 with
   |0,h1,h2 =>
    obtain rfl:=Option.some.inj h1
    obtain rfl:=Option.some.inj h2
    exact .refl _
   |1,h1,h2 =>
    obtain rfl:=Option.some.inj h1
    obtain rfl:=Option.some.inj h2
    rw [tl,dE]
    exact aX.wk
  |1,h1,h2 =>
   obtain rfl:=Option.some.inj h1
   obtain rfl:=Option.some.inj h2
   exact .refl _
theorem VG (l:List Im) (id:Int) (hl:l.length<=1099511627776):ah Tryz.prog w0 111 [fN ρ l,iv id] (.bc [at_ ρ (ia l id).1,.v (.bool (ia l id).2)]):=by
 obtain⟨R,hR⟩:∃ R,R=ia l id:=⟨_,rfl⟩
 rw [<-hR]
 refine aag.aH (by simp [Tryz.ntmps111]) ((.bc fun a ha=>by simp only [List.mem_cons,List.not_mem_nil,or_false] at ha;rcases ha with rfl|rfl;exact cX _;exact .v)) ?_
 refine gq qY ?_
 refine ab.aP (σ:=Int) 1 1 [] (fun i=>[(0,fN ρ l),(1,.v (.int .i64 id)),(4,.pt 0 2 0 0),(6,.v (.int .i64 i))]) [] (fun _=>[(0,.arr 2 [[.v (.string ⟨#[]⟩),.sl true []]] 0 true)]) (fun i=>∃ k:Nat,i=k/\k<=l.length/\R=ia (l.drop k) id) (fun i=>l.length - i.toNat) 0 ⟨0,rfl,by simp,by simpa using hR⟩ rfl (by exact⟨sq,rfl,⟨.inl ⟨_,rfl,.arr ⟨⟨.aC .v,.aC qp,trivial⟩,trivial⟩⟩,trivial⟩,rfl,rfl,rfl⟩) ?_
 rintro i ⟨k,hi,hk,hp⟩
 clear hR
 refine gq qY ?_
 by_cases au:k < l.length
 ·obtain⟨x,hx,aQ⟩:=aA au
  rw [aQ,ia,List.find?_cons] at hp
  obtain⟨xi,xn,xa⟩:=x
  repeat' (first
   |(refine ab.op rfl (ad.ind rfl rfl (ay (l:=l) hi hx) (aw fun _=>rfl)) ?_;refine gq qY ?_)
   |(refine bq (fun hb=>?_) (fun hb=>?_)<;>(try simp only [aq] at hb)<;>(first|refine gq qY ?_))
   |(refine az fun m hm=>?_;(try rw [af] at hm);refine gq qY ?_)
   |(refine aS fun _ _=>?_;refine gq qY ?_)
   |(refine ab.ao ?_;refine gq qY ?_)
   |(refine ab.bK ?_;refine gq qY ?_)
   |(refine fq ?_))
  all_goals first
   |(exfalso;omega)
   |(rw [show (xi == id)=true by simp_all] at hp
     subst hp
     exact aX.of_eq rfl)
   |(rw [show (xi == id)=false by simp_all] at hp;(refine ab.aK (σ:=Int) _ [] ?_ ?_ (by exact⟨sq,rfl,⟨.inl ⟨_,rfl,.arr ⟨⟨.aC .v,.aC qp,trivial⟩,trivial⟩⟩,trivial⟩,rfl,rfl,rfl⟩)<;>first|omega|exact⟨k+1,by omega,by omega,by rw [hp];rfl⟩))
 ·skip
  repeat' (first
   |(refine bq (fun hb=>?_) (fun hb=>?_)<;>(try simp only [aq] at hb)<;>(first|refine gq qY ?_))
   |(refine az fun m hm=>?_;(try rw [af] at hm);refine gq qY ?_)
   |(refine ab.ao ?_;refine gq qY ?_)
   |(refine fq ?_))
  all_goals first
   |(exfalso;omega)
   |skip
  rw [List.drop_eq_nil_of_le (by omega),ia] at hp
  subst hp
  refine .bc rfl fun i a a' h1 h2=>?_
  match i,h1,h2 with
  |0,h1,h2 =>
   obtain rfl:=Option.some.inj h1
   obtain rfl:=Option.some.inj h2
   refine .agg rfl fun i a a' h1 h2=>?_
   match i,h1,h2 with
   |0,h1,h2 =>
    obtain rfl:=Option.some.inj h1
    obtain rfl:=Option.some.inj h2
    exact .refl _
   |1,h1,h2 =>
    obtain rfl:=Option.some.inj h1
    obtain rfl:=Option.some.inj h2
    rw [tl,dE]
    exact aX.wk
  |1,h1,h2 =>
   obtain rfl:=Option.some.inj h1
   obtain rfl:=Option.some.inj h2
   exact .refl _
end
end
end Go.Proofs.YtgphljokbodciaaGreat
