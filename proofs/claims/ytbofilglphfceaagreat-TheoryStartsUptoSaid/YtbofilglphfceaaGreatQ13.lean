import Derived.Test.YtbofilglphfceaaGreatProg
import Derived.Test.YtbofilglphfceaaGreatQ12
namespace Go.Proofs.YtbofilglphfceaaGreat
set_option linter.unusedVariables false
set_option linter.unusedSimpArgs false
open Go.RowKit
section
set_option maxRecDepth 100000
attribute [local irreducible] ah bc ad ab
def BI:Nat:=1099511627776
mutual
def Tm.ok:Tm->Prop
 |⟨k,i,n,a⟩=>a.length<=BI/\n.size<=BI/\eg a
def eg:List Tm->Prop
 |[]=>True
 |x::l=>x.ok/\eg l
end
theorem eg.mem:∀ {l:List Tm},eg l->∀ x ∈ l,x.ok
 |[],_,x,h=>by cases h
 |y::l,hk,x,h=>by
  rw [eg] at hk
  rcases List.mem_cons.1 h with rfl|h
  ·exact hk.1
  ·exact hk.2.mem x h
theorem Tm.ok.out {t:Tm}(h:t.ok):t.a.length<=1099511627776/\t.n.size<=1099511627776/\eg t.a:=by
 obtain⟨k,i,n,a⟩:=t
 rw [Tm.ok] at h
 exact h
def Nn:CF Tryz.f288:=⟨_,by conv=>lhs;cbv⟩
theorem Wo:aH Tryz.prog 288 Nn.1 Tryz.f288.ntmps:=aQ Tryz.func288 Nn.2 Tryz.call288
def Sx:List Nat:=[3,2,0,4,6,8]
def No:CF Tryz.f266:=⟨_,by conv=>lhs;cbv⟩
theorem Wq:aH Tryz.prog 266 No.1 Tryz.f266.ntmps:=aQ Tryz.func266 No.2 Tryz.call266
def Sy:List Nat:=[4,2,0,1,5,7,9]
def Np:CF Tryz.f265:=⟨_,by conv=>lhs;cbv⟩
theorem Wr:aH Tryz.prog 265 Np.1 Tryz.f265.ntmps:=aQ Tryz.func265 Np.2 Tryz.call265
def Sz:List Nat:=[0,1,4,5,9]
def Nq:CF Tryz.f264:=⟨_,by conv=>lhs;cbv⟩
theorem Ws:aH Tryz.prog 264 Nq.1 Tryz.f264.ntmps:=aQ Tryz.func264 Nq.2 Tryz.call264
def SA:List Nat:=[0,1,4,5,9]
def Nr:CF Tryz.f275:=⟨_,by conv=>lhs;cbv⟩
theorem Wt:aH Tryz.prog 275 Nr.1 Tryz.f275.ntmps:=aQ Tryz.func275 Nr.2 Tryz.call275
def SB:List Nat:=[0,2]
def Ns:CF Tryz.f328:=⟨_,by conv=>lhs;cbv⟩
theorem Wu:aH Tryz.prog 328 Ns.1 Tryz.f328.ntmps:=aQ Tryz.func328 Ns.2 Tryz.call328
def SC:List Nat:=[0,2]
def Nt:CF Tryz.f197:=⟨_,by conv=>lhs;cbv⟩
theorem Wv:aH Tryz.prog 197 Nt.1 Tryz.f197.ntmps:=aQ Tryz.func197 Nt.2 Tryz.call197
def K3:List Nat:=[0,1,6,4,5,11,12,13,16,19]
def Nu:CF Tryz.f289:=⟨_,by conv=>lhs;cbv⟩
theorem Ww:aH Tryz.prog 289 Nu.1 Tryz.f289.ntmps:=aQ Tryz.func289 Nu.2 Tryz.call289
def K4:List Nat:=[0,1,6,4,5,11,12,13,16,19]
def Nv:CF Tryz.f196:=⟨_,by conv=>lhs;cbv⟩
theorem Wx:aH Tryz.prog 196 Nv.1 Tryz.f196.ntmps:=aQ Tryz.func196 Nv.2 Tryz.call196
def rO:List Nat:=[8,5,3,2,0,7,9,6,14]
def Nw:CF Tryz.f217:=⟨_,by conv=>lhs;cbv⟩
theorem Wy:aH Tryz.prog 217 Nw.1 Tryz.f217.ntmps:=aQ Tryz.func217 Nw.2 Tryz.call217
def uk:List Nat:=[2,3,20,5,21,6,7,4,0,1,16,29,39,47]
def Nx:CF Tryz.f136:=⟨_,by conv=>lhs;cbv⟩
theorem Wz:aH Tryz.prog 136 Nx.1 Tryz.f136.ntmps:=aQ Tryz.func136 Nx.2 Tryz.call136
def oO:List Nat:=[9,0,5,6,4,8,10,1,22]
def Ny:CF Tryz.f180:=⟨_,by conv=>lhs;cbv⟩
theorem Bo:aH Tryz.prog 180 Ny.1 Tryz.f180.ntmps:=aQ Tryz.func180 Ny.2 Tryz.call180
def gG:List Nat:=[2,3,5,15,16,4,0,1,12,24,34,41,54,61]
def Nz:CF Tryz.f263:=⟨_,by conv=>lhs;cbv⟩
theorem WA:aH Tryz.prog 263 Nz.1 Tryz.f263.ntmps:=aQ Tryz.func263 Nz.2 Tryz.call263
def iH:List Nat:=[5,0,1,6,4,16,29]
def fh (k:Int):Int:=if k=1 then 0 else if k=0 then 1 else if k=2 then 2 else 3
def eH (a b:Int):Int:=if a < b then -1 else if b < a then 1 else 0
def sY (a b:ByteArray):Int:=if Op.bytesLess a.toList b.toList then -1 else if (Op.bytesLess a.toList b.toList || a.toList == b.toList) then 0 else 1
def o5:List Int->Int
 |[]=>0
 |x::l=>if x=0 then o5 l else x
def cN (a b:Int):Int:=if a=0 then b else a
mutual
def fy:Tm->Tm->Int
 |⟨k,i,n,a⟩,y=>cN (eH (fh k) (fh y.k)) (if fh k=0\/fh k=1 then eH i y.i else if fh k=2 then cN (eH a.length y.a.length) (cN (sY n y.n) (eW a y.a)) else cN (eH k y.k) (cN (eH i y.i) (sY n y.n)))
def eW:List Tm->List Tm->Int
 |[],m=>eH 0 m.length
 |x::l,[]=>1
 |x::l,y::m=>cN (fy x y) (eW l m)
end
section
variable {w0:World}{ρ:Hd}
set_option maxRecDepth 100000
theorem SD (k:Int):ah Tryz.prog w0 288 [iv k] (iv (fh k)):=by
 refine Wo.aG (by simp [Tryz.ntmps288]) (.v) ?_
 refine gq Sx ?_
 repeat' (first
  |(refine bq (fun hb=>?_) (fun hb=>?_)<;>(try simp only [aq] at hb)<;>(first|refine gq Sx ?_))
  |(refine fq ?_))
 all_goals (refine aU.of_eq ?_;simp_all [fh,iv])
theorem mn (x:Tm):ah Tryz.prog w0 266 [tm ρ x] (iv (fh x.k)):=by
 obtain⟨k,i,n,a⟩:=x
 refine Wq.aG (by simp [Tryz.ntmps266]) (.v) ?_
 refine gq Sy ?_
 repeat' (first
  |(refine bq (fun hb=>?_) (fun hb=>?_)<;>(try simp only [aq] at hb)<;>(first|refine gq Sy ?_))
  |(refine fq ?_))
 all_goals (refine aU.of_eq ?_;simp_all [fh,iv])
theorem pU (a b:Int):ah Tryz.prog w0 265 [iv a,iv b] (iv (eH a b)):=by
 refine Wr.aG (by simp [Tryz.ntmps265]) (.v) ?_
 refine gq Sz ?_
 repeat' (first
  |(refine bq (fun hb=>?_) (fun hb=>?_)<;>(try simp only [aq] at hb)<;>(first|refine gq Sz ?_))
  |(refine fq ?_))
 all_goals (refine aU.of_eq ?_;simp only [eH,iv];(repeat' split)<;>first|rfl|omega)
theorem zr (a b:ByteArray):ah Tryz.prog w0 264 [.v (.string a),.v (.string b)] (iv (sY a b)):=by
 refine Ws.aG (by simp [Tryz.ntmps264]) (.v) ?_
 refine gq SA ?_
 repeat' (first
  |(refine bq (fun hb=>?_) (fun hb=>?_)<;>(try simp only [aq] at hb)<;>(first|refine gq SA ?_))
  |(refine fq ?_))
 all_goals (refine aU.of_eq ?_;simp_all [sY,iv])
theorem SE (a:Int):ah Tryz.prog w0 275 [iv a] (.v (.bool false)):=by
 refine Wt.aG (by simp [Tryz.ntmps275]) (.v) ?_
 refine gq SB ?_
 repeat' (first
  |(refine bq (fun hb=>?_) (fun hb=>?_)<;>(try simp only [aq] at hb)<;>(first|exact absurd hb (by decide)|refine gq SB ?_))
  |(refine fq ?_))
 all_goals (refine aU.of_eq ?_;simp_all)
theorem SF (a:ByteArray):ah Tryz.prog w0 328 [.v (.string a)] (.v (.bool false)):=by
 refine Wu.aG (by simp [Tryz.ntmps328]) (.v) ?_
 refine gq SC ?_
 repeat' (first
  |(refine bq (fun hb=>?_) (fun hb=>?_)<;>(try simp only [aq] at hb)<;>(first|exact absurd hb (by decide)|refine gq SC ?_))
  |(refine fq ?_))
 all_goals (refine aU.of_eq ?_;simp_all)
theorem xU (a b:Int):ah Tryz.prog w0 197 [iv a,iv b] (iv (eH a b)):=by
 refine Wv.aG (by simp [Tryz.ntmps197]) (.v) ?_
 refine gq K3 ?_
 repeat' (first
  |(refine ab.op rfl (ad.ag rfl (SE _) ⟨.v,trivial⟩) ?_;refine gq K3 ?_)
  |(refine bq (fun hb=>?_) (fun hb=>?_)<;>(try simp only [aq] at hb)<;>(first|refine gq K3 ?_))
  |(refine fq ?_))
 all_goals (refine aU.of_eq ?_;simp only [eH,iv];(repeat' split)<;>first|rfl|omega)
theorem Jb (a b:ByteArray):ah Tryz.prog w0 289 [.v (.string a),.v (.string b)] (iv (sY a b)):=by
 refine Ww.aG (by simp [Tryz.ntmps289]) (.v) ?_
 refine gq K4 ?_
 repeat' (first
  |(refine ab.op rfl (ad.ag rfl (SF _) ⟨.v,trivial⟩) ?_;refine gq K4 ?_)
  |(refine bq (fun hb=>?_) (fun hb=>?_)<;>(try simp only [aq] at hb)<;>(first|refine gq K4 ?_))
  |(refine fq ?_))
 all_goals (refine aU.of_eq ?_;simp_all [sY,iv])
theorem dI {S:ae}{a b:Int}(h:a=b):aU S (.v (.int .i64 a)) (iv b):=by subst h;exact aU.refl _
theorem aC {S:ae}{a b:Bool}(h:a=b):aU S (.v (.bool a)) (.v (.bool b)):=by subst h;exact aU.refl _
theorem SG (l:List Int) (hl:l.length<=BI):ah Tryz.prog w0 196 [b8 ρ bF false l] (iv (o5 l)):=by
 rw [BI] at hl
 refine Wx.aG (by simp [Tryz.ntmps196]) (.v) ?_
 refine gq rO ?_
 repeat' (first
  |(refine aB fun m hm=>?_;(try rw [af] at hm);refine gq rO ?_)
  )
 refine ab.aP (σ:=Int) 0 0 [] (fun i=>[(3,.v (.int .i64 0)),(6,b8 ρ bF false l),(7,.v (.int .i64 m)),(8,.v (.int .i64 i))]) [] (fun _=>[])
  (fun i=>∃ k:Nat,i=k/\k<=l.length/\o5 l=o5 (l.drop k)) (fun i=>l.length - i.toNat) 0 ⟨0,rfl,by simp,by simp⟩ rfl cq ?_
 rintro i ⟨k,hi,hk,hp⟩
 refine gq rO ?_
 by_cases au:k < l.length
 ·obtain⟨x,hx,aO⟩:∃ x,l[k]?=some x/\l.drop k=x::l.drop (k+1):=⟨l[k],List.getElem?_eq_getElem au,List.drop_eq_getElem_cons au⟩
  rw [aO,o5] at hp
  repeat' (first
   |(refine ab.op rfl (ad.ind rfl rfl (ay (l:=l) hi hx) (aw fun _=>rfl)) ?_;refine gq rO ?_)
   |(refine bq (fun hb=>?_) (fun hb=>?_)<;>(try simp only [aq] at hb)<;>(first|refine gq rO ?_))
   |(refine aS fun _ _=>?_;refine gq rO ?_)
   |(refine ab.ao ?_;refine gq rO ?_)
   |(refine ab.bJ ?_;refine gq rO ?_)
   |(refine fq ?_))
  ·rw [if_neg (by assumption)] at hp;exact dI hp.symm
  ·rw [if_pos (by assumption)] at hp
   refine ab.aL (σ:=Int) _ [] ?_ ?_ cq
   ·exact⟨k+1,by omega,by omega,hp⟩
   ·omega
  ·omega
 ·skip
  repeat' (first
   |(refine bq (fun hb=>?_) (fun hb=>?_)<;>(try simp only [aq] at hb)<;>(first|refine gq rO ?_))
   |(refine ab.ao ?_;refine gq rO ?_)
   |(refine fq ?_))
  ·omega
  ·rw [hp,List.drop_eq_nil_of_le (by omega)];exact dI rfl
end
end
section
set_option maxRecDepth 100000
attribute [local irreducible] ah bc ad ab
theorem az {T:Type}{l:List T}{k:Nat}(h:k < l.length):∃ x,l[k]?=some x/\l.drop k=x::l.drop (k+1):=⟨l[k],List.getElem?_eq_getElem h,List.drop_eq_getElem_cons h⟩
theorem aY {T:Type}{l:List T}{k:Nat}{x:T}(h:l[k]?=some x):x ∈ l:=List.mem_of_getElem? h
section
variable {w0:World}{ρ:Hd}
theorem q9 {a b:Int}(h:eH a b=0):a=b:=by
 unfold eH at h
 split at h<;>(try split at h)<;>omega
theorem WB (x y z:Int):ah Tryz.prog w0 196 [b8 .plain bF false [x,y,z]] (iv (o5 [x,y,z])):=SG [x,y,z] (by simp [BI])
theorem Jc:eW [] []=0:=by simp [eW,eH]
theorem EF {a b:List Tm}(ih:∀ x ∈ a,∀ y,x.ok->y.ok->ah Tryz.prog w0 217 [tm ρ x,tm ρ y] (iv (fy x y))) (xV:eg a) (sg:eg b) (hl:a.length<=1099511627776) (hn:a.length=b.length) :
  ah Tryz.prog w0 136 [tl ρ a,tl ρ b] (iv (eW a b)):=by
 refine Wz.aG (by simp [Tryz.ntmps136]) (.v) ?_
 refine gq oO ?_
 repeat' (first
  |(refine aB fun m hm=>?_;(try rw [af] at hm);refine gq oO ?_)
  )
 refine ab.aP (σ:=Int) 0 0 [] (fun i=>[(0,tl ρ a),(1,tl ρ b),(8,.v (.int .i64 m)),(9,.v (.int .i64 i))]) [] (fun _=>[])
  (fun i=>∃ k:Nat,i=k/\k<=a.length/\eW a b=eW (a.drop k) (b.drop k)) (fun i=>a.length - i.toNat) 0 ⟨0,rfl,by simp,by simp⟩ rfl cq ?_
 rintro i ⟨k,hi,hk,hp⟩
 refine gq oO ?_
 by_cases au:k < a.length
 ·obtain⟨x,hx,aO⟩:=az au
  obtain⟨y,hy,cP⟩:=az (show k < b.length by omega)
  rw [aO,cP,eW,cN] at hp
  repeat' (first
   |(refine ab.op rfl (ad.ind rfl rfl (ft (l:=a) hi hx) fu) ?_;refine gq oO ?_)
   |(refine ab.op rfl (ad.ind rfl rfl (ft (l:=b) hi hy) fu) ?_;refine gq oO ?_)
   |(refine ab.int rfl (ad.ag rfl (ih x (aY hx) y (xV.mem x (aY hx)) (sg.mem y (aY hy))) ⟨ba _,ba _,trivial⟩) fun _ _=>?_;refine gq oO ?_)
   |(refine bq (fun hb=>?_) (fun hb=>?_)<;>(try simp only [aq] at hb)<;>(first|refine gq oO ?_))
   |(refine aS fun _ _=>?_;refine gq oO ?_)
   |(refine ab.ao ?_;refine gq oO ?_)
   |(refine ab.bJ ?_;refine gq oO ?_)
   |(refine fq ?_))
  ·subst_vars;rw [if_neg (by assumption)] at hp;exact dI hp.symm
  ·subst_vars;rw [if_pos (by assumption)] at hp
   refine ab.aL (σ:=Int) _ [] ?_ ?_ cq
   ·exact⟨k+1,by omega,by omega,hp⟩
   ·omega
  ·omega
 ·skip
  repeat' (first
   |(refine bq (fun hb=>?_) (fun hb=>?_)<;>(try simp only [aq] at hb)<;>(first|refine gq oO ?_))
   |(refine ab.ao ?_;refine gq oO ?_)
   |(refine fq ?_))
  ·omega
  ·rw [hp,List.drop_eq_nil_of_le (by omega),List.drop_eq_nil_of_le (by omega),Jc];exact dI rfl
theorem Au (x y:Tm) (hx:x.ok) (hy:y.ok):ah Tryz.prog w0 217 [tm ρ x,tm ρ y] (iv (fy x y)):=by
 revert y hx hy
 refine Tm.ind (p:=fun x=>∀ y:Tm,x.ok->y.ok->ah Tryz.prog w0 217 [tm ρ x,tm ρ y] (iv (fy x y))) ?_ x
 intro k i n a ih y hx hy
 obtain⟨cX,ey,eD⟩:=hx.out
 obtain⟨eU,e9,mj⟩:=hy.out
 obtain⟨k',i',n',a'⟩:=y
 dsimp only at cX ey eD eU e9 mj
 rw [fy]
 dsimp only
 refine Wy.aG (by simp [Tryz.ntmps217]) (.v) ?_
 refine gq uk ?_
 repeat' (first
  |(refine ab.int rfl (ad.ag rfl (SD _) ⟨.v,trivial⟩) fun _ _=>?_;refine gq uk ?_)
  |(refine ab.int rfl (ad.ag rfl (xU _ _) ⟨.v,.v,trivial⟩) fun _ _=>?_;refine gq uk ?_)
  |(refine ab.int rfl (ad.ag rfl (Jb _ _) ⟨.v,.v,trivial⟩) fun _ _=>?_;refine gq uk ?_)
  |(refine ab.int rfl (ad.ag rfl (EF (a:=a) (b:=a') ih eD mj cX (by subst_vars;have:=q9 (a:=a.length) (b:=a'.length) (by omega);omega)) ⟨bC _,bC _,trivial⟩) fun _ _=>?_;refine gq uk ?_)
  |(refine ab.int rfl (ad.mP rfl (WB _ _ _) ⟨bQ _,trivial⟩ ⟨Wk.sl,trivial⟩) fun _ _=>?_;refine gq uk ?_)
  |(refine bq (fun hb=>?_) (fun hb=>?_)<;>(try simp only [aq] at hb)<;>(first|refine gq uk ?_))
  |(refine aB fun m hm=>?_;(try rw [af] at hm);refine gq uk ?_)
  |(refine fq ?_))
 all_goals (subst_vars;refine dI ?_;simp only [cN,o5];(repeat' split)<;>first|rfl|omega)
end
end
end Go.Proofs.YtbofilglphfceaaGreat
