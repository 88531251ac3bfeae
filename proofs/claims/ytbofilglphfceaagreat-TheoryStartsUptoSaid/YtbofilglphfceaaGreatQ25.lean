import Derived.Test.YtbofilglphfceaaGreatQ23
namespace Go.Proofs.YtbofilglphfceaaGreat
set_option linter.unusedVariables false
set_option linter.unusedSimpArgs false
open Go.RowKit
section
set_option maxRecDepth 100000
attribute [local irreducible] ah bc ad ab
def OT:CF Tryz.f174:=⟨_,by conv=>lhs;cbv⟩
theorem XH:aH Tryz.prog 174 OT.1 Tryz.f174.ntmps:=aQ Tryz.func174 OT.2 Tryz.call174
def rU:List Nat:=[8,0,5,4,7,9,1,16]
def OU:CF Tryz.f191:=⟨_,by conv=>lhs;cbv⟩
theorem XI:aH Tryz.prog 191 OU.1 Tryz.f191.ntmps:=aQ Tryz.func191 OU.2 Tryz.call191
def LC:List Nat:=[4,0,1]
def OV:CF Tryz.f276:=⟨_,by conv=>lhs;cbv⟩
theorem XJ:aH Tryz.prog 276 OV.1 Tryz.f276.ntmps:=aQ Tryz.func276 OV.2 Tryz.call276
def qj:List Nat:=[8,0,5,4,1,7,9,3,16]
def OW:CF Tryz.f200:=⟨_,by conv=>lhs;cbv⟩
theorem XL:aH Tryz.prog 200 OW.1 Tryz.f200.ntmps:=aQ Tryz.func200 OW.2 Tryz.call200
def LD:List Nat:=[4,1,0,3]
def OX:CF Tryz.f114:=⟨_,by conv=>lhs;cbv⟩
theorem XN:aH Tryz.prog 114 OX.1 Tryz.f114.ntmps:=aQ Tryz.func114 OX.2 Tryz.call114
def TT:List Nat:=[6,0,1,2]
def OY:CF Tryz.f116:=⟨_,by conv=>lhs;cbv⟩
theorem XO:aH Tryz.prog 116 OY.1 Tryz.f116.ntmps:=aQ Tryz.func116 OY.2 Tryz.call116
def LF:List Nat:=[2,0,1]
def OZ:CF Tryz.f129:=⟨_,by conv=>lhs;cbv⟩
theorem XP:aH Tryz.prog 129 OZ.1 Tryz.f129.ntmps:=aQ Tryz.func129 OZ.2 Tryz.call129
def LG:List Nat:=[2,0,1]
def O0:CF Tryz.f202:=⟨_,by conv=>lhs;cbv⟩
theorem XQ:aH Tryz.prog 202 O0.1 Tryz.f202.ntmps:=aQ Tryz.func202 O0.2 Tryz.call202
def abB:List Nat:=[2,0,1]
def O1:CF Tryz.f277:=⟨_,by conv=>lhs;cbv⟩
theorem XT:aH Tryz.prog 277 O1.1 Tryz.f277.ntmps:=aQ Tryz.func277 O1.2 Tryz.call277
def TU:List Nat:=[3,0,2,1]
def O2:CF Tryz.f117:=⟨_,by conv=>lhs;cbv⟩
theorem XU:aH Tryz.prog 117 O2.1 Tryz.f117.ntmps:=aQ Tryz.func117 O2.2 Tryz.call117
def CE:List Nat:=[4,0,6,5,1,12]
def O3:CF Tryz.f131:=⟨_,by conv=>lhs;cbv⟩
theorem XV:aH Tryz.prog 131 O3.1 Tryz.f131.ntmps:=aQ Tryz.func131 O3.2 Tryz.call131
def qk:List Nat:=[6,4,0,5,10,1,19]
def jl (l:List Im) (id:Int):At × Bool:=match l.find? fun x=>x.id == id with|some x=>(⟨x.n,x.a⟩,true)|none=>(⟨⟨#[]⟩,[]⟩,false)
theorem CG {T:Type}(p:T->Bool):∀ (l:List T) (k:Nat),0<=dD p l k->∃ (j:Nat) (x:T),dD p l k=((k+j:Nat):Int)/\l[j]?=some x/\l.find? p=some x
 |[],k,h=>by rw [dD] at h;omega
 |x::l,k,h=>by
  rw [dD] at h ⊢
  by_cases c:p x=true
  ·rw [if_pos c];exact⟨0,x,rfl,rfl,by rw [List.find?_cons,c]⟩
  ·rw [if_neg c] at h ⊢
   obtain⟨j,y,h1,h2,h3⟩:=CG p l (k+1) h
   exact⟨j+1,y,by rw [h1];congr 1;omega,by simpa using h2,by rw [List.find?_cons];simp [c,h3]⟩
theorem E0 {T:Type}(p:T->Bool):∀ (l:List T) (k:Nat),dD p l k < 0->l.find? p=none
 |[],k,h=>rfl
 |x::l,k,h=>by
  rw [dD] at h
  by_cases c:p x=true
  ·rw [if_pos c] at h;omega
  ·rw [if_neg c] at h
   rw [List.find?_cons]
   simp [c,E0 p l (k+1) h]
theorem uM (l:List Int) (v:Int):(l.any fun x=>v == x)=l.contains v:=by
 induction l with
 |nil=>rfl
 |cons x l ih=>rw [List.any_cons,List.contains_cons,ih]
section
variable {w0:World}{ρ:Hd}
theorem XW (l:List Int) (v:Int) (hl:l.length<=1099511627776):ah Tryz.prog w0 174 [b8 ρ bF false l,iv v] (iv (dD (fun x=>v == x) l 0)):=by
 obtain⟨R,hR⟩:∃ R,R=dD (fun x=>v == x) l 0:=⟨_,rfl⟩
 rw [<-hR]
 refine XH.aG (by simp [Tryz.ntmps174]) (.v) ?_
 refine gq rU ?_
 repeat' (first
  |(refine aB fun m hm=>?_;(try rw [af] at hm);refine gq rU ?_)
  )
 refine ab.aP (σ:=Int) 0 0 [] (fun i=>[(0,b8 ρ bF false l),(1,.v (.int .i64 v)),(7,.v (.int .i64 m)),(8,.v (.int .i64 i))]) [] (fun _=>[]) (fun i=>∃ k:Nat,i=k/\k<=l.length/\R=dD (fun x=>v == x) (l.drop k) k) (fun i=>l.length - i.toNat) 0 ⟨0,rfl,by simp,by simpa using hR⟩ rfl cq ?_
 rintro i ⟨k,hi,hk,hp⟩
 clear hR
 refine gq rU ?_
 by_cases au:k < l.length
 ·obtain⟨x,hx,aO⟩:=az au
  rw [aO,dD] at hp
  repeat' (first
   |(refine ab.op rfl (ad.ind rfl rfl (ay (l:=l) hi hx) (aw fun _=>rfl)) ?_;refine gq rU ?_)
   |(refine bq (fun hb=>?_) (fun hb=>?_)<;>(try simp only [aq] at hb)<;>(first|refine gq rU ?_))
   |(refine aS fun _ _=>?_;refine gq rU ?_)
   |(refine ab.ao ?_;refine gq rU ?_)
   |(refine ab.bJ ?_;refine gq rU ?_)
   |(refine fq ?_))
  all_goals first
   |(rw [if_pos (by simp_all)] at hp;refine dI ?_;omega)
   |(rw [if_neg (by simp_all)] at hp;(refine ab.aL (σ:=Int) _ [] ?_ ?_ cq<;>first|omega|exact⟨k+1,by omega,by omega,hp⟩))
 ·skip
  repeat' (first
   |(refine bq (fun hb=>?_) (fun hb=>?_)<;>(try simp only [aq] at hb)<;>(first|refine gq rU ?_))
   |(refine ab.ao ?_;refine gq rU ?_)
   |(refine fq ?_))
  all_goals first
   |(exfalso;omega)
   |(rw [hp,List.drop_eq_nil_of_le (by omega)];exact dI rfl)
theorem Jx (l:List Int) (v:Int) (hl:l.length<=1099511627776):ah Tryz.prog w0 191 [b8 ρ bF false l,iv v] (.v (.bool (l.contains v))):=by
 have hI:=XW (w0:=w0) (ρ:=ρ) l v hl
 have km:=nM (fun x=>v == x) l 0
 rw [uM] at km
 obtain⟨j,hj⟩:∃ j,j=dD (fun x=>v == x) l 0:=⟨_,rfl⟩
 rw [<-hj] at hI km
 refine XI.aG (by simp [Tryz.ntmps191]) (.v) ?_
 refine gq LC ?_
 repeat' (first
  |(refine ab.int rfl (ad.ag rfl hI ⟨bQ _,.v,trivial⟩) fun _ _=>?_;refine gq LC ?_)
  |(refine bq (fun hb=>?_) (fun hb=>?_)<;>(try simp only [aq] at hb)<;>(first|refine gq LC ?_))
  |(refine fq ?_))
 all_goals (subst_vars;refine aC ?_;rw [<-km];simp_all)
theorem Q2 (r:Rl) (hl:r.rem.length<=1099511627776):ah Tryz.prog w0 116 [rl ρ r] (.v (.bool r.rem.isEmpty)):=by
 obtain⟨n,ke,re,g,b,v⟩:=r
 dsimp only at hl ⊢
 refine XO.aG (by simp [Tryz.ntmps116]) (.v) ?_
 refine gq LF ?_
 repeat' (first
  |(refine bq (fun hb=>?_) (fun hb=>?_)<;>(try simp only [aq] at hb)<;>(first|refine gq LF ?_))
  |(refine aB fun m hm=>?_;(try rw [af] at hm);refine gq LF ?_)
  |(refine fq ?_))
 all_goals (subst_vars;refine aC ?_;cases re<;>simp_all<;>omega)
theorem Q3 (r:Rl) (hl:r.rem.length<=1099511627776):ah Tryz.prog w0 129 [rl ρ r] (.v (.bool r.rem.isEmpty)):=by
 obtain⟨n,ke,re,g,b,v⟩:=r
 dsimp only at hl ⊢
 refine XP.aG (by simp [Tryz.ntmps129]) (.v) ?_
 refine gq LG ?_
 repeat' (first
  |(refine bq (fun hb=>?_) (fun hb=>?_)<;>(try simp only [aq] at hb)<;>(first|refine gq LG ?_))
  |(refine aB fun m hm=>?_;(try rw [af] at hm);refine gq LG ?_)
  |(refine fq ?_))
 all_goals (subst_vars;refine aC ?_;cases re<;>simp_all<;>omega)
theorem E1 (n n':ByteArray) (i i':Int):Jl Tryz.prog 104 (.agg #[.string n,.int .i64 i]) (.agg #[.string n',.int .i64 i']) (n.toList == n'.toList && i == i'):=by
 refine⟨⟨_,_,rfl,rfl⟩,by kernel_rfl,fun w=>?_⟩
 have hS:Tryz.prog.underlying 104=some (.struct (Tryz.prog.fieldsOf 104)):=by kernel_rfl
 have hp:Tryz.prog.stoodInHeld 104=false:=by kernel_rfl
 have u3:=Tryz.underlying3
 have u9:=Tryz.underlying9
 have a3:=Tryz.isAgg3
 have a9:=Tryz.isAgg9
 rw [run_eql_struct,show (10000:Nat)=9998+1+1 from rfl,run_equalIn_agg w _ 104 _ _ hS hp]
 simp only [Program.fieldsOf,Tryz.underlying104]
 have e1:∀ w,(Op.equalIn (9998+1) 9 (.string n) (.string n')).run Tryz.prog w=.ok (n.toList == n'.toList) w:=fun w=>run_equalIn_string w _ _ _ _ u9
 have e2:∀ w,(Op.equalIn (9998+1) 3 (.int .i64 i) (.int .i64 i')).run Tryz.prog w=.ok (i == i') w:=fun w=>run_equalIn_int w _ _ _ _ _ _ u3
 cases h1:(n.toList == n'.toList)<;>cases h2:(i == i')<;>simp [Op.eqFields,part,a3,a9,e1,e2,h1,h2]
def yf (n:ByteArray) (i:Int) (d:Dc):Bool:=n.toList == d.n.toList && i == d.ar
theorem Q4 (l:List Dc) (n:ByteArray) (i:Int):l.any (yf n i)=ef l n i:=by
 unfold ef
 congr 1
 funext d
 unfold yf
 rw [Bool.eq_iff_iff]
 simp only [Bool.and_eq_true,beq_iff_eq]
 constructor<;>rintro⟨h1,h2⟩<;>exact⟨h1.symm,h2.symm⟩
theorem XX (l:List Dc) (n:ByteArray) (a:Int) (hl:l.length<=1099511627776):ah Tryz.prog w0 276 [dG ρ l,dc ⟨n,a⟩] (iv (dD (yf n a) l 0)):=by
 obtain⟨R,hR⟩:∃ R,R=dD (yf n a) l 0:=⟨_,rfl⟩
 rw [<-hR]
 refine XJ.aG (by simp [Tryz.ntmps276]) (.v) ?_
 refine gq qj ?_
 repeat' (first
  |(refine aB fun m hm=>?_;(try rw [af] at hm);refine gq qj ?_)
  )
 refine ab.aP (σ:=Int) 1 1 [] (fun i=>[(0,dG ρ l),(3,.pt 0 2 0 0),(7,.v (.int .i64 m)),(8,.v (.int .i64 i))]) [] (fun _=>[(0,.arr 2 [IM ⟨n,a⟩] 0 true)]) (fun i=>∃ k:Nat,i=k/\k<=l.length/\R=dD (yf n a) (l.drop k) k) (fun i=>l.length - i.toNat) 0 ⟨0,rfl,by simp,by simpa using hR⟩ rfl (by exact⟨sq,rfl,⟨.inl ⟨_,rfl,.arr (by exact⟨kq,trivial⟩)⟩,trivial⟩,rfl,rfl,rfl⟩) ?_
 rintro i ⟨k,hi,hk,hp⟩
 clear hR
 refine gq qj ?_
 by_cases au:k < l.length
 ·obtain⟨x,hx,aO⟩:=az au
  rw [aO,dD] at hp
  obtain⟨xn,xa⟩:=x
  repeat' (first
   |(refine ab.op rfl (ad.ind rfl rfl (ay (l:=l) hi hx) (aw fun _=>rfl)) ?_;refine gq qj ?_)
   |(refine ab.a_ rfl (ad.eqs rfl rfl (E1 n xn a xa)) (fun _=>?_) (fun _=>?_)<;>refine gq qj ?_)
   |(refine bq (fun hb=>?_) (fun hb=>?_)<;>(try simp only [aq] at hb)<;>(first|refine gq qj ?_))
   |(refine aS fun _ _=>?_;refine gq qj ?_)
   |(refine ab.ao ?_;refine gq qj ?_)
   |(refine ab.bJ ?_;refine gq qj ?_)
   |(refine fq ?_))
  ·have hq:(n.toList == xn.toList && a == xa)=true:=by assumption
   rw [if_pos (show yf n a ⟨xn,xa⟩=true from hq)] at hp
   refine dI ?_;omega
  ·have hq:(n.toList == xn.toList && a == xa)=false:=by assumption
   rw [if_neg (show ¬ yf n a ⟨xn,xa⟩=true from by show ¬ (n.toList == xn.toList && a == xa)=true;rw [hq];simp)] at hp
   (refine ab.aL (σ:=Int) _ [] ?_ ?_ (by exact⟨sq,rfl,⟨.inl ⟨_,rfl,.arr (by exact⟨kq,trivial⟩)⟩,trivial⟩,rfl,rfl,rfl⟩)<;>first|omega|exact⟨k+1,by omega,by omega,hp⟩)
  ·omega
 ·skip
  repeat' (first
   |(refine bq (fun hb=>?_) (fun hb=>?_)<;>(try simp only [aq] at hb)<;>(first|refine gq qj ?_))
   |(refine ab.ao ?_;refine gq qj ?_)
   |(refine fq ?_))
  all_goals first
   |(exfalso;omega)
   |(rw [hp,List.drop_eq_nil_of_le (by omega)];exact dI rfl)
theorem TV (l:List Dc) (n:ByteArray) (a:Int) (hl:l.length<=1099511627776):ah Tryz.prog w0 200 [dG ρ l,dc ⟨n,a⟩] (.v (.bool (ef l n a))):=by
 have hI:=XX (w0:=w0) (ρ:=ρ) l n a hl
 have km:=nM (yf n a) l 0
 rw [Q4] at km
 obtain⟨j,hj⟩:∃ j,j=dD (yf n a) l 0:=⟨_,rfl⟩
 rw [<-hj] at hI km
 refine XL.aG (by simp [Tryz.ntmps200]) (.v) ?_
 refine gq LD ?_
 repeat' (first
  |(refine ab.int rfl (ad.ag rfl hI ⟨bU _,zD ⟨n,a⟩,trivial⟩) fun _ _=>?_;refine gq LD ?_)
  |(refine bq (fun hb=>?_) (fun hb=>?_)<;>(try simp only [aq] at hb)<;>(first|refine gq LD ?_))
  |(refine fq ?_))
 all_goals (subst_vars;refine aC ?_;rw [<-km];simp_all)
theorem te (l:List Dc) (n:ByteArray) (a:Int) (hl:l.length<=1099511627776):ah Tryz.prog w0 114 [dG ρ l,.v (.string n),iv a] (.v (.bool (ef l n a))):=by
 have hI:=TV (w0:=w0) (ρ:=ρ) l n a hl
 obtain⟨R,hR⟩:∃ R,R=ef l n a:=⟨_,rfl⟩
 rw [<-hR] at hI ⊢
 refine XN.aG (by simp [Tryz.ntmps114]) (.v) ?_
 refine gq TT ?_
 repeat' (first
  |(refine ab.op rfl (ad.ag rfl hI ⟨bU _,zD ⟨n,a⟩,trivial⟩) ?_;refine gq TT ?_)
  |(refine fq ?_))
 exact aC rfl
theorem TW (id:Int):ah Tryz.prog w0 202 [iv id] (.fn (.func 277) [] [.ip [iv id]]):=by
 refine XQ.aG (by simp [Tryz.ntmps202]) ((.fn (fun a ha=>by cases ha) fun a ha=>by obtain rfl:=List.mem_singleton.1 ha;exact .ip fun b hb=>by obtain rfl:=List.mem_singleton.1 hb;exact .v)) ?_
 refine gq abB ?_
 repeat' (first
  |(refine fq ?_))
 refine aU.fns ?_ ?_
 ·exact trivial
 ·exact⟨aU.box (cs:=[iv id]) (cs':=[iv id]) rfl ⟨.refl _,trivial⟩,trivial⟩
theorem Q5 (x:Im) (id:Int):ah Tryz.prog w0 277 [it ρ x,.ip [iv id]] (.v (.bool (x.id == id))):=by
 obtain⟨i,n,a⟩:=x
 refine XT.aG (by simp [Tryz.ntmps277]) (.v) ?_
 refine gq TU ?_
 repeat' (first
  |(refine bq (fun hb=>?_) (fun hb=>?_)<;>(try simp only [aq] at hb)<;>(first|refine gq TU ?_))
  |(refine fq ?_))
 all_goals (refine aC ?_;simp_all)
theorem XY (x:Im) (id:Int):sk Tryz.prog w0 (.fn (.func 277) [] [.ip [iv id]]) [it ρ x] (x.id == id):=⟨_,_,rfl,⟨nH x,.ip fun b hb=>by obtain rfl:=List.mem_singleton.1 hb;exact .v,trivial⟩,Q5 x id⟩
theorem TX (l:List Im) (id:Int) (hl:l.length<=1099511627776):ah Tryz.prog w0 117 [fJ ρ l,iv id] (.bg [at_ ρ (jl l id).1,.v (.bool (jl l id).2)]):=by
 have hW:=TW (w0:=w0) id
 have hWp:Pure (.fn (.func 277) [] [.ip [iv id]]):=.fn (fun a ha=>by cases ha) fun a ha=>by obtain rfl:=List.mem_singleton.1 ha;exact .ip fun b hb=>by obtain rfl:=List.mem_singleton.1 hb;exact .v
 have hI:=TE (w0:=w0) (ρ:=ρ) (fun x=>x.id == id) l _ [] _ hl hWp (fun x _=>XY x id)
 have h1:=CG (fun x:Im=>x.id == id) l 0
 have h2:=E0 (fun x:Im=>x.id == id) l 0
 obtain⟨j,hj⟩:∃ j,j=dD (fun x:Im=>x.id == id) l 0:=⟨_,rfl⟩
 rw [<-hj] at hI h1 h2
 obtain⟨R,hR⟩:∃ R,R=jl l id:=⟨_,rfl⟩
 rw [<-hR]
 unfold jl at hR
 refine XU.aG (by simp [Tryz.ntmps117]) ((.bg fun a ha=>by simp only [List.mem_cons,List.not_mem_nil,or_false] at ha;rcases ha with rfl|rfl;exact de _;exact .v)) ?_
 refine gq CE ?_
 repeat' (first
  |(refine ab.op rfl (ad.ag rfl hW ⟨.v,trivial⟩) ?_;refine gq CE ?_)
  |(refine ab.int rfl (ad.ag rfl hI ⟨cb _,hWp,trivial⟩) fun _ _=>?_;refine gq CE ?_)
  |(refine bq (fun hb=>?_) (fun hb=>?_)<;>(try simp only [aq] at hb)<;>(first|refine gq CE ?_))
  |(refine fq ?_))
 ·obtain⟨q,x,e1,e2,e3⟩:=h1 (by omega)
  rw [e3] at hR
  subst hR
  obtain⟨xi,xn,xa⟩:=x
  repeat' (first
   |(refine ab.op rfl (ad.ind rfl rfl (ay (l:=l) (k:=q) (by omega) e2) (aw fun _=>rfl)) ?_;refine gq CE ?_)
   |(refine fq ?_))
  exact aU.of_eq rfl
 ·rw [h2 (by omega)] at hR
  subst hR
  refine .bg rfl fun i a a' h1 h2=>?_
  match i,h1,h2 with
  |0,h1,h2 =>
   obtain rfl:=Option.some.inj h1
   obtain rfl:=Option.some.inj h2
   refine .agg rfl fun i a a' h1 h2=>?_
   match i,h1,h2 with
   |0,h1,h2 =>
    obtain rfl:=Option.some.inj h1
    obtain rfl:=Option.some.inj h2
    exact .refl _
   |1,h1,h2 =>
    obtain rfl:=Option.some.inj h1
    obtain rfl:=Option.some.inj h2
    rw [tl,dx]
    exact aU.wk
  |1,h1,h2 =>
   obtain rfl:=Option.some.inj h1
   obtain rfl:=Option.some.inj h2
   exact .refl _
theorem TY (l:List Im) (id:Int) (hl:l.length<=1099511627776):ah Tryz.prog w0 131 [fJ ρ l,iv id] (.bg [at_ ρ (jl l id).1,.v (.bool (jl l id).2)]):=by
 obtain⟨R,hR⟩:∃ R,R=jl l id:=⟨_,rfl⟩
 rw [<-hR]
 refine XV.aG (by simp [Tryz.ntmps131]) ((.bg fun a ha=>by simp only [List.mem_cons,List.not_mem_nil,or_false] at ha;rcases ha with rfl|rfl;exact de _;exact .v)) ?_
 refine gq qk ?_
 refine ab.aP (σ:=Int) 1 1 [] (fun i=>[(0,fJ ρ l),(1,.v (.int .i64 id)),(4,.pt 0 2 0 0),(6,.v (.int .i64 i))]) [] (fun _=>[(0,.arr 2 [[.v (.string ⟨#[]⟩),.sl true []]] 0 true)]) (fun i=>∃ k:Nat,i=k/\k<=l.length/\R=jl (l.drop k) id) (fun i=>l.length - i.toNat) 0 ⟨0,rfl,by simp,by simpa using hR⟩ rfl (by exact⟨sq,rfl,⟨.inl ⟨_,rfl,.arr ⟨⟨.aD .v,.aD sf,trivial⟩,trivial⟩⟩,trivial⟩,rfl,rfl,rfl⟩) ?_
 rintro i ⟨k,hi,hk,hp⟩
 clear hR
 refine gq qk ?_
 by_cases au:k < l.length
 ·obtain⟨x,hx,aO⟩:=az au
  rw [aO,jl,List.find?_cons] at hp
  obtain⟨xi,xn,xa⟩:=x
  repeat' (first
   |(refine ab.op rfl (ad.ind rfl rfl (ay (l:=l) hi hx) (aw fun _=>rfl)) ?_;refine gq qk ?_)
   |(refine bq (fun hb=>?_) (fun hb=>?_)<;>(try simp only [aq] at hb)<;>(first|refine gq qk ?_))
   |(refine aB fun m hm=>?_;(try rw [af] at hm);refine gq qk ?_)
   |(refine aS fun _ _=>?_;refine gq qk ?_)
   |(refine ab.ao ?_;refine gq qk ?_)
   |(refine ab.bJ ?_;refine gq qk ?_)
   |(refine fq ?_))
  all_goals first
   |(exfalso;omega)
   |(rw [show (xi == id)=true by simp_all] at hp
     subst hp
     exact aU.of_eq rfl)
   |(rw [show (xi == id)=false by simp_all] at hp;(refine ab.aL (σ:=Int) _ [] ?_ ?_ (by exact⟨sq,rfl,⟨.inl ⟨_,rfl,.arr ⟨⟨.aD .v,.aD sf,trivial⟩,trivial⟩⟩,trivial⟩,rfl,rfl,rfl⟩)<;>first|omega|exact⟨k+1,by omega,by omega,by rw [hp];rfl⟩))
 ·skip
  repeat' (first
   |(refine bq (fun hb=>?_) (fun hb=>?_)<;>(try simp only [aq] at hb)<;>(first|refine gq qk ?_))
   |(refine aB fun m hm=>?_;(try rw [af] at hm);refine gq qk ?_)
   |(refine ab.ao ?_;refine gq qk ?_)
   |(refine fq ?_))
  all_goals first
   |(exfalso;omega)
   |skip
  rw [List.drop_eq_nil_of_le (by omega),jl] at hp
  subst hp
  refine .bg rfl fun i a a' h1 h2=>?_
  match i,h1,h2 with
  |0,h1,h2 =>
   obtain rfl:=Option.some.inj h1
   obtain rfl:=Option.some.inj h2
   refine .agg rfl fun i a a' h1 h2=>?_
   match i,h1,h2 with
   |0,h1,h2 =>
    obtain rfl:=Option.some.inj h1
    obtain rfl:=Option.some.inj h2
    exact .refl _
   |1,h1,h2 =>
    obtain rfl:=Option.some.inj h1
    obtain rfl:=Option.some.inj h2
    rw [tl,dx]
    exact aU.wk
  |1,h1,h2 =>
   obtain rfl:=Option.some.inj h1
   obtain rfl:=Option.some.inj h2
   exact .refl _
end
end
end Go.Proofs.YtbofilglphfceaaGreat
