import Derived.RecoverIn
import Derived.TacticsIn
import Derived.TacticsInMore
import Derived.Test.YtbofilglphfceaaGreatProg
import Derived.Test.YtbofilglphfceaaGreatQ44
namespace Go.Proofs.YtbofilglphfceaaGreat
set_option linter.unusedVariables false
set_option linter.unusedSimpArgs false
open Go.RowKit
section
set_option maxRecDepth 100000
attribute [local irreducible] ah bc ad ab
def VM (ρ:Hd) (acc:List Tm):Ob:=.arr 4 (ρ.h (List.map lN) acc) 0 false
def dA (l:List At):List Tm:=l.flatMap (·.a)
def iG (l:List Gl):List Tm:=l.flatMap (·.a)
section
variable {w0:World}{ρ:Hd}
theorem xz (x:Tm):(lN x).all cn=true:=by rw [qP (ρ:=.plain)];rfl
theorem vU {B sz fz:Nat}{s:List Tm}{ex:Bool}:oy B (.arr sz (ρ.h (List.map lN) s) fz ex):=ET fun x _ a ha=>wS x a ha
theorem Hm (r:Rl) (h:r.aV.length+r.rem.length<=549755813888) (ha:(dA (r.aV++r.rem)).length<=549755813888) (hk:eg (dA (r.aV++r.rem))) (hv:(aT (dA (r.aV++r.rem))).length<=1099511627776) :
  ah Tryz.prog w0 282 [rl ρ r] (b8 ρ bF false (varsOf (dA (r.aV++r.rem)))):=by
 have hH:=vQ (w0:=w0) (ρ:=ρ) r h
 have hV:=td (w0:=w0) (ρ:=ρ) (dA (r.aV++r.rem)) (by omega) hk hv
 have nz:=js (ρ:=ρ) r
 have rp:(r.aV++r.rem).length<=549755813888:=by rw [List.length_append];exact h
 obtain⟨A,hA⟩:∃ A,A=dA (r.aV++r.rem):=⟨_,rfl⟩
 rw [<-hA] at hV ha ⊢
 clear hk hv
 obtain⟨L,hL⟩:∃ L,L=r.aV++r.rem:=⟨_,rfl⟩
 rw [<-hL] at hA hH rp
 clear hL h
 obtain⟨V,uR⟩:∃ V,V=varsOf A:=⟨_,rfl⟩
 rw [<-uR] at hV ⊢
 clear uR
 obtain⟨n,ke,re,g,b,v⟩:=r
 refine Yd.aG (by simp [Tryz.ntmps282]) ((bQ _)) ?_
 refine gq nT ?_
 repeat' (first
  |(refine ab.op rfl (ad.ag rfl hH ⟨nz,trivial⟩) ?_;refine gq nT ?_)
  )
 refine ab.aP (σ:=Int × List Tm × Nat) 1 2 [] (fun p=>[(3,.gr 1 4 p.2.2),(4,eO ρ L),(5,.v (.int .i64 p.1))]) [] (fun p=>[(1,VM ρ p.2.1)])
  (fun p=>∃ k:Nat,p.1=k/\k<=L.length/\A=p.2.1++dA (L.drop k)/\p.2.2=p.2.1.length) (fun p=>L.length - p.1.toNat) (0,[],0) ⟨0,rfl,by simp,by simpa using hA,rfl⟩ rfl (by exact⟨sq,rfl,⟨.inr rfl,trivial⟩,rfl,rfl,rfl⟩) ?_
 rintro⟨i,acc,len⟩ ⟨k,hi,hk,hp,kL⟩
 simp only at hi hp kL
 clear hA
 refine gq nT ?_
 by_cases au:k < L.length
 ·obtain⟨x,hx,aO⟩:=az au
  rw [aO,dA,List.flatMap_cons,<-dA] at hp
  have eU:acc.length+x.a.length<=549755813888:=by
   have:=congrArg List.length hp
   simp only [List.length_append] at this
   omega
  obtain⟨xn,xa⟩:=x
  dsimp only at hp eU
  repeat' (first
   |(refine ab.op rfl (ad.ind rfl rfl (ay (l:=L) hi hx) (aw fun _=>rfl)) ?_;refine gq nT ?_)
   |((refine ab.F_ (f:=lN) rfl rfl rfl kL (fun _=>rfl) rfl vE xz (by omega) (fun dK cU y7 lh=>?_);refine gq nT ?_))
   |(refine bq (fun hb=>?_) (fun hb=>?_)<;>(try simp only [aq] at hb)<;>(first|refine gq nT ?_))
   |(refine aB fun m hm=>?_;(try rw [af] at hm);refine gq nT ?_)
   |(refine aS fun _ _=>?_;refine gq nT ?_)
   |(refine ab.ao ?_;refine gq nT ?_)
   )
  all_goals first
   |(exfalso;omega)
   |(refine ab.aL (σ:=Int × List Tm × Nat) (_,dK,cU) [(1,2)] ?_ ?_ (by exact⟨sq,rfl,⟨.inl ⟨_,rfl,.same vU⟩,trivial⟩,rfl,rfl,rfl⟩)
     ·exact⟨k+1,by simp only;omega,by omega,by rw [hp,y7,List.append_assoc],lh⟩
     ·simp only;omega)
 rw [List.drop_eq_nil_of_le (by omega),dA,List.flatMap_nil,List.append_nil] at hp
 subst hp
 refine ab.int rfl (ad.len rfl) fun m hm=>?_;rw [af] at hm
 refine gq nT ?_
 refine ab.a_ rfl (ad.bit rfl) (fun hb=>?_) (fun hb=>?_)<;>(try simp only [decide_eq_true_eq,decide_eq_false_iff_not] at hb)
 ·exfalso;omega
 refine gq nT ?_
 refine ab.ao ?_
 refine gq nT ?_
 refine ab.Sm (Cv.freeze (t:=21) rfl rfl (.inl rfl) (kL.trans (af (ρ:=ρ) (f:=lN)).symm) (Nat.zero_le _)) ?_
 refine ab.op rfl (ad.ag rfl hV ⟨bC _,trivial⟩) ?_
 refine gq nT ?_
 refine ab.fin (by conv=>lhs;cbv) ?_
 exact aU.of_eq rfl
end
end
section
set_option maxRecDepth 100000
attribute [local irreducible] ah bc ad ab
def P0:CF Tryz.f279:=⟨_,by conv=>lhs;cbv⟩
theorem YJ:aH Tryz.prog 279 P0.1 Tryz.f279.ntmps:=aQ Tryz.func279 P0.2 Tryz.call279
def mf:List Nat:=[8,0,1,6,12,21,2,25,7]
def P1:CF Tryz.f280:=⟨_,by conv=>lhs;cbv⟩
theorem YK:aH Tryz.prog 280 P1.1 Tryz.f280.ntmps:=aQ Tryz.func280 P1.2 Tryz.call280
def oa:List Nat:=[5,1,6,4,10,18,0,33]
def P2:CF Tryz.f281:=⟨_,by conv=>lhs;cbv⟩
theorem YL:aH Tryz.prog 281 P2.1 Tryz.f281.ntmps:=aQ Tryz.func281 P2.2 Tryz.call281
def VN:List Nat:=[0,2]
def P3:CF Tryz.f283:=⟨_,by conv=>lhs;cbv⟩
theorem YM:aH Tryz.prog 283 P3.1 Tryz.f283.ntmps:=aQ Tryz.func283 P3.2 Tryz.call283
def qJ:List Nat:=[5,0,4,9,1,17]
section
variable {w0:World}{ρ:Hd}
theorem Hn (r:Rl) (h:r.aV.length+r.rem.length<=549755813888) (h':r.guard.length+r.body.length<=549755813888) (ha:(dA (r.aV++r.rem)++iG (r.guard++r.body)).length<=549755813888) (hk:eg (dA (r.aV++r.rem)++iG (r.guard++r.body))) (hv:(aT (dA (r.aV++r.rem)++iG (r.guard++r.body))).length<=1099511627776) :
  ah Tryz.prog w0 209 [rl ρ r] (b8 ρ bF false (varsOf (dA (r.aV++r.rem)++iG (r.guard++r.body)))):=by
 have hH:=vQ (w0:=w0) (ρ:=ρ) r h
 have hG:=zO (w0:=w0) (ρ:=ρ) r h'
 have hV:=td (w0:=w0) (ρ:=ρ) (dA (r.aV++r.rem)++iG (r.guard++r.body)) (by omega) hk hv
 have nz:=js (ρ:=ρ) r
 have rp:(r.aV++r.rem).length<=549755813888:=by rw [List.length_append];exact h
 have DH:(r.guard++r.body).length<=549755813888:=by rw [List.length_append];exact h'
 clear hk hv h h'
 obtain⟨L,hL⟩:∃ L,L=r.aV++r.rem:=⟨_,rfl⟩
 obtain⟨M,hM⟩:∃ M,M=r.guard++r.body:=⟨_,rfl⟩
 rw [<-hL] at hH rp hV ha ⊢
 rw [<-hM] at hG DH hV ha ⊢
 clear hL hM
 obtain⟨A,hA⟩:∃ A,A=dA L++iG M:=⟨_,rfl⟩
 rw [<-hA] at hV ha ⊢
 obtain⟨V,uR⟩:∃ V,V=varsOf A:=⟨_,rfl⟩
 rw [<-uR] at hV ⊢
 clear uR
 obtain⟨n,ke,re,g,b,v⟩:=r
 refine Ye.aG (by simp [Tryz.ntmps209]) ((bQ _)) ?_
 refine gq gK ?_
 repeat' (first
  |(refine ab.op rfl (ad.ag rfl hH ⟨nz,trivial⟩) ?_;refine gq gK ?_)
  )
 refine ab.aP (σ:=Int × List Tm × Nat) 1 2 [] (fun p=>[(1,.pt 0 6 0 0),(3,.gr 1 4 p.2.2),(4,eO ρ L),(5,.v (.int .i64 p.1))]) [] (fun p=>[(0,.arr 6 [fZ ρ ⟨n,ke,re,g,b,v⟩] 0 true),(1,VM ρ p.2.1)])
  (fun p=>∃ k:Nat,p.1=k/\k<=L.length/\A=p.2.1++(dA (L.drop k)++iG M)/\p.2.2=p.2.1.length) (fun p=>L.length - p.1.toNat) (0,[],0) ⟨0,rfl,by simp,by simpa using hA,rfl⟩ rfl (by exact⟨sq,rfl,⟨.inl ⟨_,rfl,.arr (by exact⟨kq,trivial⟩)⟩,⟨.inr rfl,trivial⟩⟩,rfl,rfl,rfl⟩) ?_
 rintro⟨i,acc,len⟩ ⟨k,hi,hk,hp,kL⟩
 simp only at hi hp kL
 clear hA
 refine gq gK ?_
 by_cases au:k < L.length
 ·obtain⟨x,hx,aO⟩:=az au
  rw [aO,dA,List.flatMap_cons,<-dA] at hp
  have eU:acc.length+x.a.length<=549755813888:=by
   have:=congrArg List.length hp
   simp only [List.length_append] at this
   omega
  obtain⟨xn,xa⟩:=x
  dsimp only at hp eU
  repeat' (first
   |(refine ab.op rfl (ad.ind rfl rfl (ay (l:=L) hi hx) (aw fun _=>rfl)) ?_;refine gq gK ?_)
   |((refine ab.F_ (f:=lN) rfl rfl rfl kL (fun _=>rfl) rfl vE xz (by omega) (fun dK cU y7 lh=>?_);refine gq gK ?_))
   |(refine bq (fun hb=>?_) (fun hb=>?_)<;>(try simp only [aq] at hb)<;>(first|refine gq gK ?_))
   |(refine aB fun m hm=>?_;(try rw [af] at hm);refine gq gK ?_)
   |(refine aS fun _ _=>?_;refine gq gK ?_)
   |(refine ab.ao ?_;refine gq gK ?_)
   )
  all_goals first
   |(exfalso;omega)
   |(refine ab.aL (σ:=Int × List Tm × Nat) (_,dK,cU) [(1,2)] ?_ ?_ (by exact⟨sq,rfl,⟨.inl ⟨_,rfl,.arr (by exact⟨kq,trivial⟩)⟩,⟨.inl ⟨_,rfl,.same vU⟩,trivial⟩⟩,rfl,rfl,rfl⟩)
     ·exact⟨k+1,by simp only;omega,by omega,by rw [hp,y7];simp only [List.append_assoc],lh⟩
     ·simp only;omega)
 rw [List.drop_eq_nil_of_le (by omega),dA,List.flatMap_nil,List.nil_append] at hp
 repeat' (first
  |(refine ab.op rfl (ad.ag rfl hG ⟨nz,trivial⟩) ?_;refine gq gK ?_)
  |(refine bq (fun hb=>?_) (fun hb=>?_)<;>(try simp only [aq] at hb)<;>(first|refine gq gK ?_))
  |(refine aB fun m hm=>?_;(try rw [af] at hm);refine gq gK ?_)
  |(refine ab.ao ?_;refine gq gK ?_)
  )
 all_goals first
  |(exfalso;omega)
  |skip
 refine ab.aP (σ:=Int × List Tm × Nat) 2 3 [(2,1)] (fun p=>[(3,.gr 2 4 p.2.2),(6,cO ρ M),(7,.v (.int .i64 p.1))]) [] (fun p=>[(2,VM ρ p.2.1)])
  (fun p=>∃ k:Nat,p.1=k/\k<=M.length/\A=p.2.1++iG (M.drop k)/\p.2.2=p.2.1.length) (fun p=>M.length - p.1.toNat) (0,acc,len) ⟨0,rfl,by simp,by simpa using hp,kL⟩ rfl (by exact⟨sq,rfl,⟨.inl ⟨_,rfl,.same vU⟩,trivial⟩,rfl,rfl,rfl⟩) ?_
 clear hp kL hi hk
 rintro⟨j,dE,i_⟩ ⟨q,hj,hq,dN,nV⟩
 simp only at hj dN nV
 refine gq gK ?_
 by_cases gu:q < M.length
 ·obtain⟨x,hx,aO⟩:=az gu
  rw [aO,iG,List.flatMap_cons,<-iG] at dN
  have eU:dE.length+x.a.length<=549755813888:=by
   have:=congrArg List.length dN
   simp only [List.length_append] at this
   omega
  obtain⟨xo,xn,xa⟩:=x
  dsimp only at dN eU
  repeat' (first
   |(refine ab.op rfl (ad.ind rfl rfl (ay (l:=M) hj hx) (aw fun _=>rfl)) ?_;refine gq gK ?_)
   |((refine ab.F_ (f:=lN) rfl rfl rfl nV (fun _=>rfl) rfl vE xz (by omega) (fun dK cU y7 lh=>?_);refine gq gK ?_))
   |(refine bq (fun hb=>?_) (fun hb=>?_)<;>(try simp only [aq] at hb)<;>(first|refine gq gK ?_))
   |(refine aB fun m hm=>?_;(try rw [af] at hm);refine gq gK ?_)
   |(refine aS fun _ _=>?_;refine gq gK ?_)
   |(refine ab.ao ?_;refine gq gK ?_)
   )
  all_goals first
   |(exfalso;omega)
   |(refine ab.aL (σ:=Int × List Tm × Nat) (_,dK,cU) [(2,3)] ?_ ?_ (by exact⟨sq,rfl,⟨.inl ⟨_,rfl,.same vU⟩,trivial⟩,rfl,rfl,rfl⟩)
     ·exact⟨q+1,by simp only;omega,by omega,by rw [dN,y7,List.append_assoc],lh⟩
     ·simp only;omega)
 rw [List.drop_eq_nil_of_le (by omega),iG,List.flatMap_nil,List.append_nil] at dN
 subst dN
 refine ab.int rfl (ad.len rfl) fun m2 g_=>?_;rw [af] at g_
 refine gq gK ?_
 refine ab.a_ rfl (ad.bit rfl) (fun e9=>?_) (fun e9=>?_)<;>(try simp only [decide_eq_true_eq,decide_eq_false_iff_not] at e9)
 ·exfalso;omega
 refine gq gK ?_
 refine ab.ao ?_
 refine gq gK ?_
 refine ab.Sm (Cv.freeze (t:=38) rfl rfl (.inl rfl) (nV.trans (af (ρ:=ρ) (f:=lN)).symm) (Nat.zero_le _)) ?_
 refine ab.op rfl (ad.ag rfl hV ⟨bC _,trivial⟩) ?_
 refine gq gK ?_
 refine ab.fin (by conv=>lhs;cbv) ?_
 exact aU.of_eq rfl
theorem Kq (o:Int):ah Tryz.prog w0 281 [iv o] (.v (.bool (lu o))):=by
 refine YL.aG (by simp [Tryz.ntmps281]) (.v) ?_
 refine gq VN ?_
 repeat' (first
  |(refine bq (fun hb=>?_) (fun hb=>?_)<;>(try simp only [aq] at hb)<;>(first|refine gq VN ?_))
  |(refine fq ?_))
 all_goals (subst_vars;refine aC ?_;rw [lu,Bool.eq_iff_iff];simp;omega)
theorem acx (l:List Int) (v:Int) (hl:l.length<=1099511627776):ah Tryz.prog w0 283 [b8 ρ bF false l,iv v] (.v (.bool (l.contains v))):=by
 obtain⟨R,hR⟩:∃ R,R=l.contains v:=⟨_,rfl⟩
 rw [<-hR]
 rw [<-uM] at hR
 refine YM.aG (by simp [Tryz.ntmps283]) (.v) ?_
 refine gq qJ ?_
 refine ab.aP (σ:=Int) 0 0 [] (fun i=>[(0,b8 ρ bF false l),(1,.v (.int .i64 v)),(5,.v (.int .i64 i))]) [] (fun _=>[]) (fun i=>∃ k:Nat,i=k/\k<=l.length/\R=(l.drop k).any fun x=>v == x) (fun i=>l.length - i.toNat) 0 ⟨0,rfl,by simp,by simpa using hR⟩ rfl cq ?_
 rintro i ⟨k,hi,hk,hp⟩
 clear hR
 refine gq qJ ?_
 by_cases au:k < l.length
 ·obtain⟨x,hx,aO⟩:=az au
  rw [aO,List.any_cons] at hp
  repeat' (first
   |(refine ab.op rfl (ad.ind rfl rfl (ay (l:=l) hi hx) (aw fun _=>rfl)) ?_;refine gq qJ ?_)
   |(refine bq (fun hb=>?_) (fun hb=>?_)<;>(try simp only [aq] at hb)<;>(first|refine gq qJ ?_))
   |(refine aB fun m hm=>?_;(try rw [af] at hm);refine gq qJ ?_)
   |(refine aS fun _ _=>?_;refine gq qJ ?_)
   |(refine ab.ao ?_;refine gq qJ ?_)
   |(refine ab.bJ ?_;refine gq qJ ?_)
   |(refine fq ?_))
  all_goals first
   |(exfalso;omega)
   |(rw [hp,show (v == x)=true from beq_iff_eq.2 (by omega)];exact aC rfl)
   |(rw [show (v == x)=false from beq_eq_false_iff_ne.2 (by omega),Bool.false_or] at hp;(refine ab.aL (σ:=Int) _ [] ?_ ?_ cq<;>first|omega|exact⟨k+1,by omega,by omega,hp⟩))
 ·skip
  repeat' (first
   |(refine bq (fun hb=>?_) (fun hb=>?_)<;>(try simp only [aq] at hb)<;>(first|refine gq qJ ?_))
   |(refine aB fun m hm=>?_;(try rw [af] at hm);refine gq qJ ?_)
   |(refine ab.ao ?_;refine gq qJ ?_)
   |(refine fq ?_))
  all_goals first
   |(exfalso;omega)
   |(rw [hp,List.drop_eq_nil_of_le (by omega)];exact aC rfl)
end
end
section
set_option maxRecDepth 100000
def P4:List UInt8->List UInt8->Bool
 |[],[]=>true
 |a::l,b::m=>match Nat.beq a.toNat b.toNat with|true=>P4 l m|false=>false
 |_,_=>false
theorem Kr:∀ {a b:List UInt8},P4 a b=(a == b)
 |[],[]=>rfl
 |[],_::_=>rfl
 |_::_,[]=>rfl
 |a::l,b::m=>by
  simp only [P4,List.cons_beq_cons]
  rw [Kr (a:=l)]
  cases h:Nat.beq a.toNat b.toNat with
  |true =>
   have:a=b:=UInt8.toNat_inj.1 (Nat.eq_of_beq_eq_true h)
   simp [this]
  |false =>
   have:¬ a=b:=fun e=>by rw [e,Nat.beq_refl] at h;cases h
   simp [this]
def DI (m n:ByteArray) (i j:Int):Bool:=match P4 m.data.toList n.data.toList with|true=>decide (i=j)|false=>false
theorem RA {m n:ByteArray}{i j:Int}:DI m n i j=(m.toList == n.toList && i == j):=by
 unfold DI
 rw [Kr,<-ByteArray.toList_eq,<-ByteArray.toList_eq]
 cases m.toList == n.toList with
 |true=>by_cases h:i=j<;>simp [h]
 |false=>rfl
def tC:Value->Option (ByteArray × Int)
 |.agg a=>match a.toList with
  |[.string m,.int .i64 i]=>some (m,i)
  |_=>none
 |_=>none
theorem vV {v:Value}{p:ByteArray × Int}(h:tC v=some p):v=.agg #[.string p.1,.int .i64 p.2]:=by
 unfold tC at h
 split at h
 ·rename_i a
  split at h
  ·rename_i m i e
   obtain rfl:=Option.some.inj h
   rw [<-Array.toArray_toList (xs:=a),e]
  ·cases h
 ·cases h
def Mx (kt:Nat) (v:Value):Bool:=match Nat.beq kt 104,tC v with
 |true,some _=>true
 |_,_=>false
def VO (v w:Value):Bool:=match tC v,tC w with
 |some p,some q=>DI p.1 q.1 p.2 q.2
 |_,_=>false
def My (t:Nat) (v w:Value):Option Bool:=match Nat.beq t 104,tC v,tC w with
 |true,some p,some q=>some (DI p.1 q.1 p.2 q.2)
 |_,_,_=>none
section
variable {w0:World}
theorem DJ (n n':ByteArray) (i i':Int):Jl Tryz.prog 104 (.agg #[.string n,.int .i64 i]) (.agg #[.string n',.int .i64 i']) (DI n n' i i'):=by
 rw [RA]
 refine⟨⟨_,_,rfl,rfl⟩,by kernel_rfl,fun w=>?_⟩
 have hS:Tryz.prog.underlying 104=some (.struct (Tryz.prog.fieldsOf 104)):=by kernel_rfl
 have hp:Tryz.prog.stoodInHeld 104=false:=by kernel_rfl
 have u3:=Tryz.underlying3
 have u9:=Tryz.underlying9
 have a3:=Tryz.isAgg3
 have a9:=Tryz.isAgg9
 rw [run_eql_struct,show (10000:Nat)=9998+1+1 from rfl,run_equalIn_agg w _ 104 _ _ hS hp]
 simp only [Program.fieldsOf,Tryz.underlying104]
 have e1:∀ w,(Op.equalIn (9998+1) 9 (.string n) (.string n')).run Tryz.prog w=.ok (n.toList == n'.toList) w:=fun w=>run_equalIn_string w _ _ _ _ u9
 have e2:∀ w,(Op.equalIn (9998+1) 3 (.int .i64 i) (.int .i64 i')).run Tryz.prog w=.ok (i == i') w:=fun w=>run_equalIn_int w _ _ _ _ _ _ u3
 cases h1:(n.toList == n'.toList)<;>cases h2:(i == i')<;>simp [Op.eqFields,part,a3,a9,e1,e2,h1,h2]
theorem RB {X:Result Bool}{e:Bool}{w:World}(h:(X.andThen fun b w'=>Result.ok (Value.bool b) w')=.ok (.bool e) w):X=.ok e w:=by
 cases X with
 |ok b w' =>
  simp only [Result.andThen,Result.ok.injEq,Value.bool.injEq] at h
  rw [h.1,h.2]
 |_=>cases h
theorem Ks (n:ByteArray) (i:Int) (es:List (Value × AV)) (hes:∀ p ∈ es,∃ q,tC p.1=some q):uI Tryz.prog 104 (.agg #[.string n,.int .i64 i]) es (VO (.agg #[.string n,.int .i64 i])):=by
 have hS:Tryz.prog.underlying 104=some (.struct (Tryz.prog.fieldsOf 104)):=by kernel_rfl
 have u3:=Tryz.underlying3
 have u9:=Tryz.underlying9
 have a3:=Tryz.isAgg3
 have a9:=Tryz.isAgg9
 refine⟨fun b w=>?_,⟨_,hS⟩,fun p hp w=>?_⟩
 ·have key:∀ q:Nat,(Instr.checkKey b (q+1+1) 104 (.agg #[.string n,.int .i64 i])).run Tryz.prog w=.ok () w:=by
   intro q
   have e1:∀ w,(Instr.checkKey b (q+1) 9 (.string n)).run Tryz.prog w=.ok () w:=fun w=>by
    rw [Instr.checkKey]
    simp only [Sem.run_bind,run_underlying u9,Result.andThen_ok,Sem.run_pure]
   have e2:∀ w,(Instr.checkKey b (q+1) 3 (.int .i64 i)).run Tryz.prog w=.ok () w:=fun w=>by
    rw [Instr.checkKey]
    simp only [Sem.run_bind,run_underlying u3,Result.andThen_ok,Sem.run_pure]
   rw [Instr.checkKey]
   simp only [Sem.run_bind,run_underlying hS,Result.andThen_ok]
   simp only [Program.fieldsOf,Tryz.underlying104]
   simp [part,a3,a9,e1,e2]
  exact key 9998
 ·obtain⟨⟨n',i'⟩,hq⟩:=hes p hp
  have e:=vV hq
  have h:=(DJ n n' i i').2.2 w
  rw [run_eql_struct] at h
  have h2:=RB h
  rw [e]
  exact h2
theorem RC {F:Fence}(hF:g7 F) (n:Nat) (p:Addr) (w:World):CallsDIn F.plain n Tryz.prog 182 #[.pointer (some p)] .returning w fun e u' w'=>e=.returned (.tuple #[])/\u'=.returning/\w'=w:=by
 refine callsDIn_of_wpSIn Tryz.func182 rfl (hF.1 _) fun Gy cs hu=>?_
 simp only [Tryz.ntmps182,List.size_toArray,List.length_cons,List.length_nil,Nat.reduceAdd,Nat.reduceSub,Array.replicate_succ,Array.replicate_zero,List.push_toArray,List.append_toArray,List.nil_append,List.cons_append]
 apply wpSIn_seq
 apply wpSIn_region
 simp [wpOpsSIn,go_sem,recoverD,hu,Exit.thenS,hF.1]
 refine wpSIn_of_wpIn rfl ?_
 refine wpIn_block (wpIn_seq (wpIn_region ?_))
 simp [wpOpsIn,go_sem]
 refine wpIn_cond (t:=true) (by simp [Act.eval]) ?_
 simp only [if_true]
 refine wpIn_region ?_
 simp [wpOpsIn,go_sem,bodyPostS,results,Tryz.results182,Exit.inBlock]
 cases Gy
 simp_all
def VP (a e:Int):ae:=(ib ae.none_ [AV.v (.int .i64 a)]).2.set 0 (some (.arr 1 [[AV.v (.int .i64 e)]] 0 true))
theorem Kt {A:Nat->Prop}{g2:Gh}{S:ae}{w2:World}{a e:Int}{b:Nat}(lA:St w0 A g2 S w2) (h0:S.get 0=some (.arr 1 [[AV.v (.int .i64 a)]] 0 true)) (hk:g2.al 0) (gB:g2.ob 0=b) :
  w2.cell? ⟨b,0,none⟩=some (.int .i64 a)/\w2.frozen? ⟨b,0,none⟩=false/\b < w2.heap.size/\Ext A g2 w2 g2 (w2.setCell ⟨b,0,none⟩ (.int .i64 e))/\St w0 A g2 (S.set 0 (some (.arr 1 [[AV.v (.int .i64 e)]] 0 true))) (w2.setCell ⟨b,0,none⟩ (.int .i64 e)):=by
 obtain⟨k2,k3,cells,ty,p1,p2,p3,p4,p5,p6,p7⟩:=lA.cC 0 _ h0 hk
 rw [gB] at k2 k3 p1
 obtain⟨x,gT,aO⟩:=(p5 0 _ rfl).2 0 _ rfl
 have aO:=ca aO
 subst aO
 have hc:w2.cell? ⟨b,0,none⟩=some (.int .i64 a):=by rw [cell_of_row w2 b _ cells ty (0,0) p1];simpa using gT
 have hz:w2.frozen? ⟨b,0,none⟩=false:=by simp [World.frozen?,p1]
 have jf:kI Tryz.prog S 57 (AV.v (.int .i64 e)) (.pt 0 1 0 0)=some (S.set 0 (some (.arr 1 [[AV.v (.int .i64 e)]] 0 true))):=by
  have:cQ Tryz.prog 57=some 1:=by kernel_rfl
  simp only [kI,h0,this]
  rfl
 have Uu:aJ g2 w2 (.pt 0 1 0 0) (.pointer (some ⟨b,0,none⟩)):=by
  have:=aJ.pt (g:=g2) (w:=w2) (k:=0) (sz:=1) (i:=0) (j:=0) hk
  rw [gB] at this
  exact this
 obtain⟨c,o,w',e1,e2,_,e4,e5⟩:=qd lA jf Uu (x:=.int .i64 e) .v
 simp only [Value.pointer.injEq,Option.some.injEq,Addr.mk.injEq,and_true] at e1
 obtain⟨rfl,rfl⟩:=e1
 have cr:(storeVar 57 ⟨b,0,none⟩ (.int .i64 e)).run Tryz.prog w2=.ok () (w2.setCell ⟨b,0,none⟩ (.int .i64 e)):=by simp [go_sem,hc,hz]
 rw [cr] at e2
 injection e2 with _ e2
 subst e2
 exact⟨hc,hz,k3,e4,e5⟩
theorem Mz {g:FuncId}{fs cs:List AV}(hp:db (fs++cs)) (h:ah Tryz.prog w0 g (fs++cs) (.bg [])):ah Tryz.prog w0 100 [.fn (.func g) fs cs] (AV.v (.int .i64 0)):=by
 refine⟨.v,VP 0 0,Tryz.call100,fun F m A gh bL w hF hS hA=>?_⟩
 obtain⟨bH,wy⟩:=hA
 obtain⟨fv,rfl⟩:∃ fv,bL=#[fv]:=by
  obtain⟨l⟩:=bL
  match l,bH with
  |[x],_=>exact⟨x,rfl⟩
 obtain⟨us,bs,rfl,cX,ey⟩:=ub (wy 0 _ _ rfl rfl)
 clear wy bH
 have uS:=sA (w0:=w0) (A:=A) (cs:=[AV.v (.int .i64 0)]) (cells:=#[.int .i64 0]) (ty:=57) hS ⟨rfl,fun i a x h1 h2=>by
  match i,h1,h2 with
  |0,h1,h2=>obtain rfl:=Option.some.inj h1;obtain rfl:=Option.some.inj h2;exact .v⟩
 obtain⟨w1,qS⟩:∃ w1:World,w1=w.alloc (.cells #[.int .i64 0] 57):=⟨_,rfl⟩
 rw [<-qS] at uS
 obtain⟨g1,AJ,eV,j4⟩:=uS
 have JX:jm g1 w1 (fs++cs) (us++bs):=by
  have:=fF cX ey
  exact⟨this.1,fun i a x h1 h2=>(this.2 i a x h1 h2).later j4.toLater⟩
 have bI:=(h.zQ hp (ib ae.none_ [AV.v (.int .i64 0)]).2).2 F.plain (m - 1) A g1 (us++bs) w1 hF.plain eV JX
 have key:CallsIn F.plain m Tryz.prog 100 #[.func (.func g) us bs] w fun e w'=>∃ v g',e=.returned v/\aJ g' w' (AV.v (.int .i64 0)) v/\St w0 A g' (VP 0 0) w'/\Ext A gh w g' w':=by
  refine callsIn_of_wp_defers Tryz.func100 rfl (hF.1 _) ?_ rfl
  simp only [Tryz.ntmps100,List.size_toArray,List.length_cons,List.length_nil,Nat.reduceAdd,Nat.reduceSub,Array.replicate_succ,Array.replicate_zero,List.push_toArray,List.append_toArray,List.nil_append,List.cons_append]
  refine wpIn_seq (wpIn_region ?_)
  simp [wpOpsIn,go_sem]
  rw [<-qS]
  have JY:∀ (fn:Fn) (first cap:Array Value) (w:World),(Instr.makeFunc fn first cap).run Tryz.prog w=.ok (.func fn first cap) w:=fun _ _ _ _=>rfl
  refine wpIn_seq (wpIn_region ?_)
  simp [wpOpsIn,go_sem,JY]
  refine wpIn_seq (wpIn_region ?_)
  simp [wpOpsIn,go_sem]
  refine⟨hF.1 g,?_⟩
  rw [(h.zQ hp ae.none_).1 (us++bs) w1,Oper.uponIn_enter]
  refine⟨fun hd=>(by rw [show F.plain.depth=F.depth from rfl,hF.2.1] at hd;cases hd),bI.mono ?_⟩
  rintro e w2 ⟨v,g2,rfl,_,lA,qw⟩
  simp only
  obtain⟨iV,iZ⟩:g1.al 0/\g1.ob 0=w.heap.size:=by
   generalize hv:Value.pointer (some ⟨w.heap.size,0,none⟩)=y at AJ
   cases AJ with
   |pt hk=>simp [ib,ae.none_] at hv;exact⟨hk,hv.symm⟩
  have dS:=qw.al 0 iV
  have uT:g2.ob 0=w.heap.size:=(qw.ob 0 iV).trans iZ
  obtain⟨hc,hz,au,o3,oZ⟩:=Kt (e:=0) lA rfl dS uT
  refine wpIn_seq (wpIn_region ?_)
  simp [wpOpsIn,go_sem,hc,hz]
  refine wpIn_ret ?_
  refine leavesIn_cons (f:=182) (args:=#[.pointer (some ⟨w.heap.size,0,none⟩)]) (by simp) (fun hd=>(by rw [show F.plain.depth=F.depth from rfl,hF.2.1] at hd;cases hd)) (by simp [go_sem]) (fun g hg=>hF.1 g) ?_
  refine (RC hF _ _ _).mono ?_
  rintro e u' qz ⟨rfl,rfl,rfl⟩
  have xM:(w2.setCell ⟨w.heap.size,0,none⟩ (.int .i64 0)).cell? ⟨w.heap.size,0,none⟩=some (.int .i64 0):=(Kt (e:=0) oZ rfl dS uT).1
  simp [LeavesIn,settle,results,Tryz.results100,go_sem,xM]
  exact⟨g2,.v,oZ,(j4.trans qw).trans o3⟩
 exact key
def MA (cl:List Nat) (g:Nat) (l:List AV):Option AV:=match jn g cl with
 |true=>match l with
  |[.sl _ []]=>some (.sl true [])
  |_=>none
 |false=>none
theorem ah.Eu {P:Program}{g:Nat}{l:List AV}{r r':AV}(h:ah P w0 g l r) (hf:∀ S,aU S r r') (hp:Pure r'):ah P w0 g l r':=by
 obtain⟨_,S',h2⟩:=h
 exact ah.CB h2 (hf _) hp
def RY (t:Tr ((QC × List QR) × Nat)) (cl wm:List Nat):Env:=⟨fun g=>eY t g,
 MA cl,
 fun _ _=>none,fun g=>match Nat.beq g 100 with|true=>some (.v (.int .i64 0))|false=>none,fun g=>jn g wm,Mx,VO,My⟩
theorem IQ {t:Tr ((QC × List QR) × Nat)}{cl wm:List Nat}(ht:∀ g c n,eY t g=some (c,n)->aN Tryz.prog g c n) (hc:∀ g,jn g cl=true->∀ A c,ah Tryz.prog w0 g [.v (.slice A 0 c)] (.sl true [])):iw Tryz.prog w0 (RY t cl wm) where
 seq:=fun t a b e h=>by
  have h:My t a b=some e:=h
  unfold My at h
  split at h
  ·rename_i p q ht ha hb
   rw [vV ha,vV hb,Nat.eq_of_beq_eq_true ht,<-Option.some.inj h]
   exact DJ _ _ _ _
  ·cases h
 key:=fun kt v es h he=>by
  have key:∀ kt v,Mx kt v=true->kt=104/\∃ q,tC v=some q:=fun kt v h=>by
   unfold Mx at h
   split at h
   ·rename_i p ht hv
    exact⟨Nat.eq_of_beq_eq_true ht,_,hv⟩
   ·cases h
  obtain⟨rfl,p,hp⟩:=key kt v h
  rw [vV hp]
  exact Ks _ _ _ fun q hq=>(key _ _ (he q hq)).2
 Kk:=fun g v h hh first cap hp hk=>by
  have h:(match Nat.beq g 100 with|true=>some (AV.v (.int .i64 0))|false=>none)=some v:=h
  split at h
  ·rename_i e
   obtain rfl:=Option.some.inj h
   rw [Nat.eq_of_beq_eq_true e]
   exact Mz hp hk
  ·cases h
 yW:=ht
 ext:=fun g l r h=>by
  have h:MA cl g l=some r:=h
  unfold MA at h
  split at h
  ·rename_i hm
   split at h
   ·obtain rfl:=Option.some.inj h
    exact⟨ah.emp (hc g hm),.sl (fun row h=>by cases h),trivial⟩
   ·cases h
  ·cases h
 nat:=fun g l v h=>by cases h
end
end
end Go.Proofs.YtbofilglphfceaaGreat
