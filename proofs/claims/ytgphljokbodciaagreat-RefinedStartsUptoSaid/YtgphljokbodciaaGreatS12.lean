import Derived.Test.YtgphljokbodciaaGreatProg
import Derived.Test.YtgphljokbodciaaGreatS11
namespace Go.Proofs.YtgphljokbodciaaGreat
set_option linter.unusedVariables false
set_option linter.unusedSimpArgs false
open Go.RowKit
section
set_option maxRecDepth 100000
attribute [local irreducible] ah aV ad ab
def CQ:Nat:=1099511627776
mutual
def Tm.ok:Tm->Prop
 |⟨k,i,n,a⟩=>a.length<=CQ/\n.size<=CQ/\er a
def er:List Tm->Prop
 |[]=>True
 |x::l=>x.ok/\er l
end
theorem er.mem:∀ {l:List Tm},er l->∀ x ∈ l,x.ok
 |[],_,x,h=>by cases h
 |y::l,hk,x,h=>by
  rw [er] at hk
  rcases List.mem_cons.1 h with rfl|h
  ·exact hk.1
  ·exact hk.2.mem x h
theorem Tm.ok.out {t:Tm}(h:t.ok):t.a.length<=1099511627776/\t.n.size<=1099511627776/\er t.a:=by
 obtain⟨k,i,n,a⟩:=t
 rw [Tm.ok] at h
 exact h
def O5:CF Tryz.f453:=⟨_,by conv=>lhs;cbv⟩
theorem Y0:aD Tryz.prog 453 O5.1 Tryz.f453.ntmps:=aO Tryz.func453 O5.2 Tryz.call453
def UP:List Nat:=[3,2,0,4,6,8]
def O6:CF Tryz.f435:=⟨_,by conv=>lhs;cbv⟩
theorem Y1:aD Tryz.prog 435 O6.1 Tryz.f435.ntmps:=aO Tryz.func435 O6.2 Tryz.call435
def UQ:List Nat:=[4,2,0,1,5,7,9]
def O7:CF Tryz.f434:=⟨_,by conv=>lhs;cbv⟩
theorem Y2:aD Tryz.prog 434 O7.1 Tryz.f434.ntmps:=aO Tryz.func434 O7.2 Tryz.call434
def UR:List Nat:=[0,1,4,5,9]
def O8:CF Tryz.f433:=⟨_,by conv=>lhs;cbv⟩
theorem Y3:aD Tryz.prog 433 O8.1 Tryz.f433.ntmps:=aO Tryz.func433 O8.2 Tryz.call433
def US:List Nat:=[0,1,4,5,9]
def O9:CF Tryz.f450:=⟨_,by conv=>lhs;cbv⟩
theorem Y4:aD Tryz.prog 450 O9.1 Tryz.f450.ntmps:=aO Tryz.func450 O9.2 Tryz.call450
def UT:List Nat:=[0,2]
def O_:CF Tryz.f506:=⟨_,by conv=>lhs;cbv⟩
theorem Y5:aD Tryz.prog 506 O_.1 Tryz.f506.ntmps:=aO Tryz.func506 O_.2 Tryz.call506
def UU:List Nat:=[0,2]
def Pa:CF Tryz.f356:=⟨_,by conv=>lhs;cbv⟩
theorem Y6:aD Tryz.prog 356 Pa.1 Tryz.f356.ntmps:=aO Tryz.func356 Pa.2 Tryz.call356
def Mw:List Nat:=[0,1,6,4,5,11,12,13,16,19]
def Pb:CF Tryz.f454:=⟨_,by conv=>lhs;cbv⟩
theorem Y7:aD Tryz.prog 454 Pb.1 Tryz.f454.ntmps:=aO Tryz.func454 Pb.2 Tryz.call454
def Mx:List Nat:=[0,1,6,4,5,11,12,13,16,19]
def Pc:CF Tryz.f355:=⟨_,by conv=>lhs;cbv⟩
theorem Y8:aD Tryz.prog 355 Pc.1 Tryz.f355.ntmps:=aO Tryz.func355 Pc.2 Tryz.call355
def sL:List Nat:=[8,5,3,2,0,7,9,6,14]
def Pd:CF Tryz.f370:=⟨_,by conv=>lhs;cbv⟩
theorem Y9:aD Tryz.prog 370 Pd.1 Tryz.f370.ntmps:=aO Tryz.func370 Pd.2 Tryz.call370
def u6:List Nat:=[2,3,20,5,21,6,7,4,0,1,16,29,39,47]
def Pe:CF Tryz.f265:=⟨_,by conv=>lhs;cbv⟩
theorem Y_:aD Tryz.prog 265 Pe.1 Tryz.f265.ntmps:=aO Tryz.func265 Pe.2 Tryz.call265
def pq:List Nat:=[9,0,5,6,4,8,10,1,22]
def Pf:CF Tryz.f338:=⟨_,by conv=>lhs;cbv⟩
theorem Cj:aD Tryz.prog 338 Pf.1 Tryz.f338.ntmps:=aO Tryz.func338 Pf.2 Tryz.call338
def g9:List Nat:=[2,3,5,15,16,4,0,1,12,24,34,41,54,61]
def Ph:CF Tryz.f343:=⟨_,by conv=>lhs;cbv⟩
theorem Za:aD Tryz.prog 343 Ph.1 Tryz.f343.ntmps:=aO Tryz.func343 Ph.2 Tryz.call343
def jc:List Nat:=[5,0,1,6,4,16,29]
def fH (k:Int):Int:=if k=1 then 0 else if k=0 then 1 else if k=2 then 2 else 3
def eQ (a b:Int):Int:=if a < b then -1 else if b < a then 1 else 0
def tP (a b:ByteArray):Int:=if Op.bytesLess a.toList b.toList then -1 else if (Op.bytesLess a.toList b.toList || a.toList == b.toList) then 0 else 1
def pJ:List Int->Int
 |[]=>0
 |x::l=>if x=0 then pJ l else x
def cR (a b:Int):Int:=if a=0 then b else a
mutual
def fR:Tm->Tm->Int
 |⟨k,i,n,a⟩,y=>cR (eQ (fH k) (fH y.k)) (if fH k=0\/fH k=1 then eQ i y.i else if fH k=2 then cR (eQ a.length y.a.length) (cR (tP n y.n) (e_ a y.a)) else cR (eQ k y.k) (cR (eQ i y.i) (tP n y.n)))
def e_:List Tm->List Tm->Int
 |[],m=>eQ 0 m.length
 |x::l,[]=>1
 |x::l,y::m=>cR (fR x y) (e_ l m)
end
section
variable {w0:World}{ρ:Hd}
set_option maxRecDepth 100000
theorem UW (k:Int):ah Tryz.prog w0 453 [iv k] (iv (fH k)):=by
 refine Y0.aH (by simp [Tryz.ntmps453]) (.v) ?_
 refine gq UP ?_
 repeat' (first
  |(refine bq (fun hb=>?_) (fun hb=>?_)<;>(try simp only [aq] at hb)<;>(first|refine gq UP ?_))
  |(refine fq ?_))
 all_goals (refine aX.of_eq ?_;simp_all [fH,iv])
theorem mX (x:Tm):ah Tryz.prog w0 435 [tm ρ x] (iv (fH x.k)):=by
 obtain⟨k,i,n,a⟩:=x
 refine Y1.aH (by simp [Tryz.ntmps435]) (.v) ?_
 refine gq UQ ?_
 repeat' (first
  |(refine bq (fun hb=>?_) (fun hb=>?_)<;>(try simp only [aq] at hb)<;>(first|refine gq UQ ?_))
  |(refine fq ?_))
 all_goals (refine aX.of_eq ?_;simp_all [fH,iv])
theorem qJ (a b:Int):ah Tryz.prog w0 434 [iv a,iv b] (iv (eQ a b)):=by
 refine Y2.aH (by simp [Tryz.ntmps434]) (.v) ?_
 refine gq UR ?_
 repeat' (first
  |(refine bq (fun hb=>?_) (fun hb=>?_)<;>(try simp only [aq] at hb)<;>(first|refine gq UR ?_))
  |(refine fq ?_))
 all_goals (refine aX.of_eq ?_;simp only [eQ,iv];(repeat' split)<;>first|rfl|omega)
theorem z8 (a b:ByteArray):ah Tryz.prog w0 433 [.v (.string a),.v (.string b)] (iv (tP a b)):=by
 refine Y3.aH (by simp [Tryz.ntmps433]) (.v) ?_
 refine gq US ?_
 repeat' (first
  |(refine bq (fun hb=>?_) (fun hb=>?_)<;>(try simp only [aq] at hb)<;>(first|refine gq US ?_))
  |(refine fq ?_))
 all_goals (refine aX.of_eq ?_;simp_all [tP,iv])
theorem UX (a:Int):ah Tryz.prog w0 450 [iv a] (.v (.bool false)):=by
 refine Y4.aH (by simp [Tryz.ntmps450]) (.v) ?_
 refine gq UT ?_
 repeat' (first
  |(refine bq (fun hb=>?_) (fun hb=>?_)<;>(try simp only [aq] at hb)<;>(first|exact absurd hb (by decide)|refine gq UT ?_))
  |(refine fq ?_))
 all_goals (refine aX.of_eq ?_;simp_all)
theorem UY (a:ByteArray):ah Tryz.prog w0 506 [.v (.string a)] (.v (.bool false)):=by
 refine Y5.aH (by simp [Tryz.ntmps506]) (.v) ?_
 refine gq UU ?_
 repeat' (first
  |(refine bq (fun hb=>?_) (fun hb=>?_)<;>(try simp only [aq] at hb)<;>(first|exact absurd hb (by decide)|refine gq UU ?_))
  |(refine fq ?_))
 all_goals (refine aX.of_eq ?_;simp_all)
theorem yJ (a b:Int):ah Tryz.prog w0 356 [iv a,iv b] (iv (eQ a b)):=by
 refine Y6.aH (by simp [Tryz.ntmps356]) (.v) ?_
 refine gq Mw ?_
 repeat' (first
  |(refine ab.op rfl (ad.ag rfl (UX _) ⟨.v,trivial⟩) ?_;refine gq Mw ?_)
  |(refine bq (fun hb=>?_) (fun hb=>?_)<;>(try simp only [aq] at hb)<;>(first|refine gq Mw ?_))
  |(refine fq ?_))
 all_goals (refine aX.of_eq ?_;simp only [eQ,iv];(repeat' split)<;>first|rfl|omega)
theorem Ky (a b:ByteArray):ah Tryz.prog w0 454 [.v (.string a),.v (.string b)] (iv (tP a b)):=by
 refine Y7.aH (by simp [Tryz.ntmps454]) (.v) ?_
 refine gq Mx ?_
 repeat' (first
  |(refine ab.op rfl (ad.ag rfl (UY _) ⟨.v,trivial⟩) ?_;refine gq Mx ?_)
  |(refine bq (fun hb=>?_) (fun hb=>?_)<;>(try simp only [aq] at hb)<;>(first|refine gq Mx ?_))
  |(refine fq ?_))
 all_goals (refine aX.of_eq ?_;simp_all [tP,iv])
theorem dK {S:ae}{a b:Int}(h:a=b):aX S (.v (.int .i64 a)) (iv b):=by subst h;exact aX.refl _
theorem aI {S:ae}{a b:Bool}(h:a=b):aX S (.v (.bool a)) (.v (.bool b)):=by subst h;exact aX.refl _
theorem UZ (l:List Int) (hl:l.length<=CQ):ah Tryz.prog w0 355 [bY ρ bJ false l] (iv (pJ l)):=by
 rw [CQ] at hl
 refine Y8.aH (by simp [Tryz.ntmps355]) (.v) ?_
 refine gq sL ?_
 repeat' (first
  |(refine az fun m hm=>?_;(try rw [af] at hm);refine gq sL ?_)
  )
 refine ab.aP (σ:=Int) 0 0 [] (fun i=>[(3,.v (.int .i64 0)),(6,bY ρ bJ false l),(7,.v (.int .i64 m)),(8,.v (.int .i64 i))]) [] (fun _=>[])
  (fun i=>∃ k:Nat,i=k/\k<=l.length/\pJ l=pJ (l.drop k)) (fun i=>l.length - i.toNat) 0 ⟨0,rfl,by simp,by simp⟩ rfl cq ?_
 rintro i ⟨k,hi,hk,hp⟩
 refine gq sL ?_
 by_cases au:k < l.length
 ·obtain⟨x,hx,aQ⟩:∃ x,l[k]?=some x/\l.drop k=x::l.drop (k+1):=⟨l[k],List.getElem?_eq_getElem au,List.drop_eq_getElem_cons au⟩
  rw [aQ,pJ] at hp
  repeat' (first
   |(refine ab.op rfl (ad.ind rfl rfl (ay (l:=l) hi hx) (aw fun _=>rfl)) ?_;refine gq sL ?_)
   |(refine bq (fun hb=>?_) (fun hb=>?_)<;>(try simp only [aq] at hb)<;>(first|refine gq sL ?_))
   |(refine aS fun _ _=>?_;refine gq sL ?_)
   |(refine ab.ao ?_;refine gq sL ?_)
   |(refine ab.bK ?_;refine gq sL ?_)
   |(refine fq ?_))
  ·rw [if_neg (by assumption)] at hp;exact dK hp.symm
  ·rw [if_pos (by assumption)] at hp
   refine ab.aK (σ:=Int) _ [] ?_ ?_ cq
   ·exact⟨k+1,by omega,by omega,hp⟩
   ·omega
  ·omega
 ·skip
  repeat' (first
   |(refine bq (fun hb=>?_) (fun hb=>?_)<;>(try simp only [aq] at hb)<;>(first|refine gq sL ?_))
   |(refine ab.ao ?_;refine gq sL ?_)
   |(refine fq ?_))
  ·omega
  ·rw [hp,List.drop_eq_nil_of_le (by omega)];exact dK rfl
end
end
section
set_option maxRecDepth 100000
attribute [local irreducible] ah aV ad ab
theorem aA {T:Type}{l:List T}{k:Nat}(h:k < l.length):∃ x,l[k]?=some x/\l.drop k=x::l.drop (k+1):=⟨l[k],List.getElem?_eq_getElem h,List.drop_eq_getElem_cons h⟩
theorem aZ {T:Type}{l:List T}{k:Nat}{x:T}(h:l[k]?=some x):x ∈ l:=List.mem_of_getElem? h
section
variable {w0:World}{ρ:Hd}
theorem r5 {a b:Int}(h:eQ a b=0):a=b:=by
 unfold eQ at h
 split at h<;>(try split at h)<;>omega
theorem Zb (x y z:Int):ah Tryz.prog w0 355 [bY .plain bJ false [x,y,z]] (iv (pJ [x,y,z])):=UZ [x,y,z] (by simp [CQ])
theorem Kz:e_ [] []=0:=by simp [e_,eQ]
theorem Ft {a b:List Tm}(ih:∀ x ∈ a,∀ y,x.ok->y.ok->ah Tryz.prog w0 370 [tm ρ x,tm ρ y] (iv (fR x y))) (yK:er a) (s5:er b) (hl:a.length<=1099511627776) (hn:a.length=b.length) :
  ah Tryz.prog w0 265 [tl ρ a,tl ρ b] (iv (e_ a b)):=by
 refine Y_.aH (by simp [Tryz.ntmps265]) (.v) ?_
 refine gq pq ?_
 repeat' (first
  |(refine az fun m hm=>?_;(try rw [af] at hm);refine gq pq ?_)
  )
 refine ab.aP (σ:=Int) 0 0 [] (fun i=>[(0,tl ρ a),(1,tl ρ b),(8,.v (.int .i64 m)),(9,.v (.int .i64 i))]) [] (fun _=>[])
  (fun i=>∃ k:Nat,i=k/\k<=a.length/\e_ a b=e_ (a.drop k) (b.drop k)) (fun i=>a.length - i.toNat) 0 ⟨0,rfl,by simp,by simp⟩ rfl cq ?_
 rintro i ⟨k,hi,hk,hp⟩
 refine gq pq ?_
 by_cases au:k < a.length
 ·obtain⟨x,hx,aQ⟩:=aA au
  obtain⟨y,hy,cT⟩:=aA (show k < b.length by omega)
  rw [aQ,cT,e_,cR] at hp
  repeat' (first
   |(refine ab.op rfl (ad.ind rfl rfl (fL (l:=a) hi hx) fM) ?_;refine gq pq ?_)
   |(refine ab.op rfl (ad.ind rfl rfl (fL (l:=b) hi hy) fM) ?_;refine gq pq ?_)
   |(refine ab.int rfl (ad.ag rfl (ih x (aZ hx) y (yK.mem x (aZ hx)) (s5.mem y (aZ hy))) ⟨bf _,bf _,trivial⟩) fun _ _=>?_;refine gq pq ?_)
   |(refine bq (fun hb=>?_) (fun hb=>?_)<;>(try simp only [aq] at hb)<;>(first|refine gq pq ?_))
   |(refine aS fun _ _=>?_;refine gq pq ?_)
   |(refine ab.ao ?_;refine gq pq ?_)
   |(refine ab.bK ?_;refine gq pq ?_)
   |(refine fq ?_))
  ·subst_vars;rw [if_neg (by assumption)] at hp;exact dK hp.symm
  ·subst_vars;rw [if_pos (by assumption)] at hp
   refine ab.aK (σ:=Int) _ [] ?_ ?_ cq
   ·exact⟨k+1,by omega,by omega,hp⟩
   ·omega
  ·omega
 ·skip
  repeat' (first
   |(refine bq (fun hb=>?_) (fun hb=>?_)<;>(try simp only [aq] at hb)<;>(first|refine gq pq ?_))
   |(refine ab.ao ?_;refine gq pq ?_)
   |(refine fq ?_))
  ·omega
  ·rw [hp,List.drop_eq_nil_of_le (by omega),List.drop_eq_nil_of_le (by omega),Kz];exact dK rfl
theorem A9 (x y:Tm) (hx:x.ok) (hy:y.ok):ah Tryz.prog w0 370 [tm ρ x,tm ρ y] (iv (fR x y)):=by
 revert y hx hy
 refine Tm.ind (p:=fun x=>∀ y:Tm,x.ok->y.ok->ah Tryz.prog w0 370 [tm ρ x,tm ρ y] (iv (fR x y))) ?_ x
 intro k i n a ih y hx hy
 obtain⟨db,eH,eM⟩:=hx.out
 obtain⟨fc,ft,mY⟩:=hy.out
 obtain⟨k',i',n',a'⟩:=y
 dsimp only at db eH eM fc ft mY
 rw [fR]
 dsimp only
 refine Y9.aH (by simp [Tryz.ntmps370]) (.v) ?_
 refine gq u6 ?_
 repeat' (first
  |(refine ab.int rfl (ad.ag rfl (UW _) ⟨.v,trivial⟩) fun _ _=>?_;refine gq u6 ?_)
  |(refine ab.int rfl (ad.ag rfl (yJ _ _) ⟨.v,.v,trivial⟩) fun _ _=>?_;refine gq u6 ?_)
  |(refine ab.int rfl (ad.ag rfl (Ky _ _) ⟨.v,.v,trivial⟩) fun _ _=>?_;refine gq u6 ?_)
  |(refine ab.int rfl (ad.ag rfl (Ft (a:=a) (b:=a') ih eM mY db (by subst_vars;have:=r5 (a:=a.length) (b:=a'.length) (by omega);omega)) ⟨bB _,bB _,trivial⟩) fun _ _=>?_;refine gq u6 ?_)
  |(refine ab.int rfl (ad.nt rfl (Zb _ _ _) ⟨bR _,trivial⟩ ⟨Wk.sl,trivial⟩) fun _ _=>?_;refine gq u6 ?_)
  |(refine bq (fun hb=>?_) (fun hb=>?_)<;>(try simp only [aq] at hb)<;>(first|refine gq u6 ?_))
  |(refine az fun m hm=>?_;(try rw [af] at hm);refine gq u6 ?_)
  |(refine fq ?_))
 all_goals (subst_vars;refine dK ?_;simp only [cR,pJ];(repeat' split)<;>first|rfl|omega)
end
end
end Go.Proofs.YtgphljokbodciaaGreat
