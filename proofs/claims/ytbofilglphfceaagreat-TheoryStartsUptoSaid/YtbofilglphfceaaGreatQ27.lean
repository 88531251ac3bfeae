import Derived.Test.YtbofilglphfceaaGreatQ25
namespace Go.Proofs.YtbofilglphfceaaGreat
set_option linter.unusedVariables false
set_option linter.unusedSimpArgs false
open Go.RowKit
section
set_option maxRecDepth 100000
attribute [local irreducible] ah bc ad ab
def T6:CF Tryz.f44:=⟨_,by conv=>lhs;cbv⟩
theorem abD:aH Tryz.prog 44 T6.1 Tryz.f44.ntmps:=aQ Tryz.func44 T6.2 Tryz.call44
def tQ:List Nat:=[11,5,0,2,8,10,12,9,3,24]
def O4:CF Tryz.f123:=⟨_,by conv=>lhs;cbv⟩
theorem XZ:aH Tryz.prog 123 O4.1 Tryz.f123.ntmps:=aQ Tryz.func123 O4.2 Tryz.call123
def iJ:List Nat:=[3,0,2,6,10,45]
def ij {T:Type}(ok:T->Bool) (lt:T->T->Bool):Option T->List T->Bool
 |_,[]=>true
 |pr,x::l=>ok x && (match pr with|none=>true|some p=>lt p x) && ij ok lt (some x) l
def rh {T:Type}(lt:T->T->Bool):Option T->T->Bool
 |none,_=>true
 |some p,x=>lt p x
theorem ja {T:Type}{ok:T->Bool}{lt:T->T->Bool}{pr:Option T}{x:T}{l:List T}:ij ok lt pr (x::l)=(ok x && rh lt pr x && ij ok lt (some x) l):=by cases pr<;>rfl
theorem ll {T:Type}{ok:T->Bool}{lt:T->T->Bool}{pr:Option T}:ij ok lt pr []=true:=by cases pr<;>rfl
def xb (x:Im):Bool:=decide (1<=x.id) && eh ⟨x.n,x.a⟩
def zG (p x:Im):Bool:=decide (p.id < x.id)
def jy (l:List Im):Bool:=decide ((l.length:Int)<=500) && ij xb zG none l
def kA:List Int->List Int->Int
 |[],[]=>0
 |[],_::_=>-1
 |_::_,[]=>1
 |x::a,y::b=>cN (eH x y) (kA a b)
def mc (x y:Fi):Int:=cN (eH x.kG y.kG) (cN (eH x.ids.length y.ids.length) (kA x.ids y.ids))
def mW:List Int->List Int->Bool
 |_,[]=>true
 |s,x::l=>decide (1<=x) && !s.contains x && mW (s++[x]) l
def mX (f:Fi):Bool:=decide (0<=f.kG) && decide (f.kG < 40) && decide (1<=(f.ids.length:Int)) && decide ((f.ids.length:Int)<=4) && mW [] f.ids
def gW (l:List Fi):Bool:=decide ((l.length:Int)<=5000) && ij mX (fun p x=>decide (mc p x < 0)) none l
def Im.ok (x:Im):Prop:=mI x.a/\x.n.size<=1099511627776
def su {T:Type}(l:List T) (k:Nat) (pr:Option T):Prop:=(k=0/\pr=none)\/∃ y,0 < k/\l[k - 1]?=some y/\pr=some y
theorem eS {T:Type}{l:List T}{k:Nat}{x:T}(h:l[k]?=some x):su l (k+1) (some x):=.inr ⟨x,by omega,by simpa using h,rfl⟩
section
variable {w0:World}{ρ:Hd}
theorem JA (l:List Im) (hl:l.length<=1099511627776) (hk:∀ x ∈ l,x.ok):ah Tryz.prog w0 44 [fJ ρ l] (.v (.bool (jy l))):=by
 obtain⟨R,hR⟩:∃ R,R=jy l:=⟨_,rfl⟩
 rw [<-hR]
 unfold jy at hR
 refine abD.aG (by simp [Tryz.ntmps44]) (.v) ?_
 refine gq tQ ?_
 repeat' (first
  |(refine bq (fun hb=>?_) (fun hb=>?_)<;>(try simp only [aq] at hb)<;>(first|refine gq tQ ?_))
  |(refine aB fun m hm=>?_;(try rw [af] at hm);refine gq tQ ?_)
  |(refine fq ?_))
 ·refine aC ?_;rw [hR,decide_eq_false (by omega)];rfl
 rw [decide_eq_true (by omega),Bool.true_and] at hR
 refine ab.aP (σ:=Int × Int) 0 0 [] (fun p=>[(3,.v (.int .i64 p.2)),(9,fJ ρ l),(10,.v (.int .i64 m)),(11,.v (.int .i64 p.1))]) [] (fun _=>[])
  (fun p=>∃ (k:Nat) (pr:Option Im),p.1=k/\k<=l.length/\R=ij xb zG pr (l.drop k)/\(pr=none/\p.2=0\/∃ y,pr=some y/\p.2=y.id/\1<=y.id)) (fun p=>l.length - p.1.toNat) (0,0) ⟨0,none,rfl,by simp,by simpa using hR,.inl ⟨rfl,rfl⟩⟩ rfl cq ?_
 rintro⟨i,la⟩ ⟨k,pr,hi,dS,hp,mY⟩
 simp only at hi mY
 clear hR
 refine gq tQ ?_
 by_cases au:k < l.length
 ·obtain⟨x,hx,aO⟩:=az au
  rw [aO,ja] at hp
  obtain⟨xi,xn,xa⟩:=x
  obtain⟨jG,T7⟩:=hk _ (aY hx)
  have hA:=vH (w0:=w0) (ρ:=ρ) ⟨xn,xa⟩ ⟨jG.len,jG.1⟩ T7
  have e1:(xb ⟨xi,xn,xa⟩ && rh zG pr ⟨xi,xn,xa⟩)=(decide (la < xi) && eh ⟨xn,xa⟩):=by
   rcases mY with ⟨rfl,rfl⟩|⟨y,rfl,rfl,hy⟩
   ·simp only [xb,rh,Bool.and_true]
    rw [decide_eq_decide.2 (show 1<=xi ↔ 0 < xi from ⟨fun h=>by omega,fun h=>by omega⟩)]
   ·simp only [xb,zG,rh]
    rw [Bool.eq_iff_iff]
    simp only [Bool.and_eq_true,decide_eq_true_eq]
    exact⟨fun h=>⟨h.2,h.1.2⟩,fun h=>⟨⟨by omega,h.2⟩,h.1⟩⟩
  rw [e1] at hp
  repeat' (first
   |(refine ab.op rfl (ad.ind rfl rfl (ay (l:=l) hi hx) (aw fun _=>rfl)) ?_;refine gq tQ ?_)
   |(refine ab.a_ rfl (ad.ag rfl hA ⟨de (ρ:=ρ) ⟨xn,xa⟩,trivial⟩) (fun _=>?_) (fun _=>?_)<;>refine gq tQ ?_)
   |(refine bq (fun hb=>?_) (fun hb=>?_)<;>(try simp only [aq] at hb)<;>(first|refine gq tQ ?_))
   |(refine aS fun _ _=>?_;refine gq tQ ?_)
   |(refine ab.ao ?_;refine gq tQ ?_)
   |(refine ab.bJ ?_;refine gq tQ ?_)
   |(refine fq ?_))
  all_goals first
   |(exfalso;omega)
   |(refine aC ?_;rw [hp,decide_eq_false (show ¬ la < xi by omega)];rfl)
   |(refine aC ?_;rw [hp,show eh ⟨xn,xa⟩=false by assumption];simp;done)
   |(refine ab.aL (σ:=Int × Int) (_,xi) [] ?_ ?_ cq
     ·refine⟨k+1,some ⟨xi,xn,xa⟩,by simp only;omega,by omega,?_,.inr ⟨_,rfl,rfl,?_⟩⟩
      ·rw [hp,decide_eq_true (show la < xi by omega),show eh ⟨xn,xa⟩=true by assumption];rfl
      ·rcases mY with ⟨rfl,rfl⟩|⟨y,rfl,rfl,hy⟩<;>simp only<;>omega
     ·simp only;omega)
 ·skip
  repeat' (first
   |(refine bq (fun hb=>?_) (fun hb=>?_)<;>(try simp only [aq] at hb)<;>(first|refine gq tQ ?_))
   |(refine ab.ao ?_;refine gq tQ ?_)
   |(refine fq ?_))
  all_goals first
   |(exfalso;omega)
   |(rw [hp,List.drop_eq_nil_of_le (by omega),ll];exact aC rfl)
theorem JB (l:List Im) (hl:l.length<=1099511627776) (hk:∀ x ∈ l,x.ok):ah Tryz.prog w0 123 [fJ ρ l] (.v (.bool (jy l))):=by
 obtain⟨R,hR⟩:∃ R,R=jy l:=⟨_,rfl⟩
 rw [<-hR]
 unfold jy at hR
 refine XZ.aG (by simp [Tryz.ntmps123]) (.v) ?_
 refine gq iJ ?_
 repeat' (first
  |(refine bq (fun hb=>?_) (fun hb=>?_)<;>(try simp only [aq] at hb)<;>(first|refine gq iJ ?_))
  |(refine aB fun m hm=>?_;(try rw [af] at hm);refine gq iJ ?_)
  |(refine fq ?_))
 ·refine aC ?_;rw [hR,decide_eq_false (by omega)];rfl
 rw [decide_eq_true (by omega),Bool.true_and] at hR
 refine ab.aP (σ:=Int) 0 0 [] (fun i=>[(0,fJ ρ l),(3,.v (.int .i64 i))]) [] (fun _=>[])
  (fun i=>∃ (k:Nat) (pr:Option Im),i=k/\k<=l.length/\R=ij xb zG pr (l.drop k)/\su l k pr) (fun i=>l.length - i.toNat) 0 ⟨0,none,rfl,by simp,by simpa using hR,.inl ⟨rfl,rfl⟩⟩ rfl cq ?_
 rintro i ⟨k,pr,hi,dS,hp,mY⟩
 clear hR
 refine gq iJ ?_
 by_cases au:k < l.length
 ·obtain⟨x,hx,aO⟩:=az au
  rw [aO,ja] at hp
  obtain⟨xi,xn,xa⟩:=x
  obtain⟨jG,T7⟩:=hk _ (aY hx)
  have hA:=wZ (w0:=w0) (ρ:=ρ) ⟨xn,xa⟩ jG T7
  rw [xb] at hp
  rcases mY with ⟨rfl,rfl⟩|⟨⟨yi,yn,ya⟩,mu,hy,rfl⟩
  ·simp only [rh] at hp
   repeat' (first
    |(refine ab.op rfl (ad.ind rfl rfl (ay (l:=l) hi hx) (aw fun _=>rfl)) ?_;refine gq iJ ?_)
    |(refine ab.a_ rfl (ad.ag rfl hA ⟨de (ρ:=ρ) ⟨xn,xa⟩,trivial⟩) (fun _=>?_) (fun _=>?_)<;>refine gq iJ ?_)
    |(refine bq (fun hb=>?_) (fun hb=>?_)<;>(try simp only [aq] at hb)<;>(first|refine gq iJ ?_))
    |(refine aB fun m hm=>?_;(try rw [af] at hm);refine gq iJ ?_)
    |(refine aS fun _ _=>?_;refine gq iJ ?_)
    |(refine ab.ao ?_;refine gq iJ ?_)
    |(refine ab.bJ ?_;refine gq iJ ?_)
    |(refine fq ?_))
   all_goals first
    |(exfalso;omega)
    |(refine aC ?_;rw [hp,decide_eq_false (show ¬ 1<=xi by omega)];rfl)
    |(refine aC ?_;rw [hp,show eh ⟨xn,xa⟩=false by assumption];simp;done)
    |(refine ab.aL (σ:=Int) _ [] ?_ ?_ cq
      ·refine⟨0+1,some ⟨xi,xn,xa⟩,by omega,by omega,?_,eS hx⟩
       rw [hp,decide_eq_true (show 1<=xi by omega),show eh ⟨xn,xa⟩=true by assumption];rfl
      ·omega)
  ·simp only [zG,rh] at hp
   repeat' (first
    |(refine ab.op rfl (ad.ind rfl rfl (ay (l:=l) hi hx) (aw fun _=>rfl)) ?_;refine gq iJ ?_)
    |(refine ab.op rfl (ad.ind rfl rfl (ay (l:=l) (k:=k - 1) (by omega) hy) (aw fun _=>rfl)) ?_;refine gq iJ ?_)
    |(refine ab.a_ rfl (ad.ag rfl hA ⟨de (ρ:=ρ) ⟨xn,xa⟩,trivial⟩) (fun _=>?_) (fun _=>?_)<;>refine gq iJ ?_)
    |(refine bq (fun hb=>?_) (fun hb=>?_)<;>(try simp only [aq] at hb)<;>(first|refine gq iJ ?_))
    |(refine aB fun m hm=>?_;(try rw [af] at hm);refine gq iJ ?_)
    |(refine aS fun _ _=>?_;refine gq iJ ?_)
    |(refine ab.ao ?_;refine gq iJ ?_)
    |(refine ab.bJ ?_;refine gq iJ ?_)
    |(refine fq ?_))
   all_goals first
    |(exfalso;omega)
    |(refine aC ?_;rw [hp,decide_eq_false (show ¬ 1<=xi by omega)];rfl)
    |(refine aC ?_;rw [hp,decide_eq_false (show ¬ yi < xi by omega)];simp;done)
    |(refine aC ?_;rw [hp,show eh ⟨xn,xa⟩=false by assumption];simp;done)
    |(refine ab.aL (σ:=Int) _ [] ?_ ?_ cq
      ·refine⟨k+1,some ⟨xi,xn,xa⟩,by omega,by omega,?_,eS hx⟩
       rw [hp,decide_eq_true (show 1<=xi by omega),decide_eq_true (show yi < xi by omega),show eh ⟨xn,xa⟩=true by assumption];rfl
      ·omega)
 ·skip
  repeat' (first
   |(refine bq (fun hb=>?_) (fun hb=>?_)<;>(try simp only [aq] at hb)<;>(first|refine gq iJ ?_))
   |(refine aB fun m hm=>?_;(try rw [af] at hm);refine gq iJ ?_)
   |(refine ab.ao ?_;refine gq iJ ?_)
   |(refine fq ?_))
  all_goals first
   |(exfalso;omega)
   |(rw [hp,List.drop_eq_nil_of_le (by omega),ll];exact aC rfl)
end
end
section
set_option maxRecDepth 100000
attribute [local irreducible] ah bc ad ab
def O5:CF Tryz.f198:=⟨_,by conv=>lhs;cbv⟩
theorem X0:aH Tryz.prog 198 O5.1 Tryz.f198.ntmps:=aQ Tryz.func198 O5.2 Tryz.call198
def iK:List Nat:=[11,1,0,5,8,4,10,12,9,19,6,7,28,35]
def O6:CF Tryz.f109:=⟨_,by conv=>lhs;cbv⟩
theorem X1:aH Tryz.prog 109 O6.1 Tryz.f109.ntmps:=aQ Tryz.func109 O6.2 Tryz.call109
def zH:List Nat:=[2,3,5,4,0,1,21]
def T8:CF Tryz.f99:=⟨_,by conv=>lhs;cbv⟩
theorem abE:aH Tryz.prog 99 T8.1 Tryz.f99.ntmps:=aQ Tryz.func99 T8.2 Tryz.call99
def lR:List Nat:=[6,2,3,5,4,0,1,13,36]
def O7:CF Tryz.f108:=⟨_,by conv=>lhs;cbv⟩
theorem X2:aH Tryz.prog 108 O7.1 Tryz.f108.ntmps:=aQ Tryz.func108 O7.2 Tryz.call108
def nR:List Nat:=[1,28,4,2,0,24,27,29,26,3,42]
def O8:CF Tryz.f213:=⟨_,by conv=>lhs;cbv⟩
theorem X3:aH Tryz.prog 213 O8.1 Tryz.f213.ntmps:=aQ Tryz.func213 O8.2 Tryz.call213
def md:List Nat:=[1,3,2,0,23,28,48]
def T9:CF Tryz.f46:=⟨_,by conv=>lhs;cbv⟩
theorem abF:aH Tryz.prog 46 T9.1 Tryz.f46.ntmps:=aQ Tryz.func46 T9.2 Tryz.call46
def mz:List Nat:=[0,3,9,2,6,8,10,34]
def O9:CF Tryz.f125:=⟨_,by conv=>lhs;cbv⟩
theorem X4:aH Tryz.prog 125 O9.1 Tryz.f125.ntmps:=aQ Tryz.func125 O9.2 Tryz.call125
def im:List Nat:=[3,0,2,6,10,35]
def tf:List Int->List Int->Int
 |x::a,y::b=>cN (eH x y) (tf a b)
 |_,_=>0
theorem E2:∀ {a b:List Int},a.length=b.length->kA a b=tf a b
 |[],[],_=>rfl
 |[],_::_,h=>by simp at h
 |_::_,[],h=>by simp at h
 |x::a,y::b,h=>by rw [kA,tf,E2 (by simpa using h)]
theorem Q6 {a b:Int}(h:a ≠ b):eH a b ≠ 0:=fun e=>h (q9 e)
theorem LH {a b:Int}(h:¬ a=0):cN a b=a:=if_neg h
theorem Q7 (x y:Fi):mc x y=cN (cN (eH x.kG y.kG) (eH x.ids.length y.ids.length)) (tf x.ids y.ids):=by
 unfold mc
 by_cases h1:eH x.kG y.kG=0
 ·by_cases h2:(x.ids.length:Int)=y.ids.length
  ·rw [E2 (by omega)]
   simp only [cN,h1,if_true]
  ·simp [cN,h1,Q6 h2]
 ·simp [cN,h1]
section
variable {w0:World}{ρ:Hd}
theorem Q8 (a b:List Int) (ha:a.length<=1099511627776) (fL:b.length<=1099511627776):ah Tryz.prog w0 198 [b8 ρ bF false a,b8 ρ bF false b] (iv (kA a b)):=by
 obtain⟨R,hR⟩:∃ R,R=kA a b:=⟨_,rfl⟩
 rw [<-hR]
 refine X0.aG (by simp [Tryz.ntmps198]) (.v) ?_
 refine gq iK ?_
 repeat' (first
  |(refine aB fun m hm=>?_;(try rw [af] at hm);refine gq iK ?_)
  )
 refine ab.aP (σ:=Int) 0 0 [] (fun i=>[(0,b8 ρ bF false a),(1,b8 ρ bF false b),(9,b8 ρ bF false a),(10,.v (.int .i64 m)),(11,.v (.int .i64 i))]) [] (fun _=>[]) (fun i=>∃ k:Nat,i=k/\k<=a.length/\k<=b.length/\R=kA (a.drop k) (b.drop k)) (fun i=>a.length - i.toNat) 0 ⟨0,rfl,by simp,by simpa using hR⟩ rfl cq ?_
 rintro i ⟨k,hi,hk,hp⟩
 clear hR
 refine gq iK ?_
 by_cases au:k < a.length
 ·obtain⟨sg,hp⟩:=hp
  obtain⟨x,hx,aO⟩:=az au
  by_cases LI:k < b.length
  ·obtain⟨y,hy,cP⟩:=az LI
   rw [aO,cP,kA,cN] at hp
   repeat' (first
    |(refine ab.op rfl (ad.ind rfl rfl (ay (l:=a) hi hx) (aw fun _=>rfl)) ?_;refine gq iK ?_)
    |(refine ab.op rfl (ad.ind rfl rfl (ay (l:=b) hi hy) (aw fun _=>rfl)) ?_;refine gq iK ?_)
    |(refine ab.int rfl (ad.ag rfl (xU _ _) ⟨.v,.v,trivial⟩) fun _ _=>?_;refine gq iK ?_)
    |(refine bq (fun hb=>?_) (fun hb=>?_)<;>(try simp only [aq] at hb)<;>(first|refine gq iK ?_))
    |(refine aB fun m hm=>?_;(try rw [af] at hm);refine gq iK ?_)
    |(refine aS fun _ _=>?_;refine gq iK ?_)
    |(refine ab.ao ?_;refine gq iK ?_)
    |(refine ab.bJ ?_;refine gq iK ?_)
    |(refine fq ?_))
   all_goals first
    |(exfalso;omega)
    |(subst_vars;rw [if_neg (by assumption)];exact dI rfl)
    |(subst_vars;rw [if_pos (by assumption)] at *;(refine ab.aL (σ:=Int) _ [] ?_ ?_ cq<;>first|omega|exact⟨k+1,by omega,by omega,by first|exact⟨by omega,rfl⟩ ⟩))
  ·rw [aO,show b.drop k=[] from List.drop_eq_nil_of_le (by omega),kA] at hp
   repeat' (first
    |(refine ab.op rfl (ad.ind rfl rfl (ay (l:=a) hi hx) (aw fun _=>rfl)) ?_;refine gq iK ?_)
    |(refine bq (fun hb=>?_) (fun hb=>?_)<;>(try simp only [aq] at hb)<;>(first|refine gq iK ?_))
    |(refine aB fun m hm=>?_;(try rw [af] at hm);refine gq iK ?_)
    |(refine ab.ao ?_;refine gq iK ?_)
    |(refine ab.bJ ?_;refine gq iK ?_)
    |(refine fq ?_))
   all_goals first
    |(exfalso;omega)
    |(subst_vars;exact dI rfl)
 ·obtain⟨sg,hp⟩:=hp
  rw [List.drop_eq_nil_of_le (by omega)] at hp
  by_cases LI:k < b.length
  ·obtain⟨y,hy,cP⟩:=az LI
   rw [cP,kA] at hp
   repeat' (first
    |(refine bq (fun hb=>?_) (fun hb=>?_)<;>(try simp only [aq] at hb)<;>(first|refine gq iK ?_))
    |(refine aB fun m hm=>?_;(try rw [af] at hm);refine gq iK ?_)
    |(refine ab.ao ?_;refine gq iK ?_)
    |(refine fq ?_))
   all_goals first
    |(exfalso;omega)
    |(rw [hp];exact dI rfl)
  ·rw [List.drop_eq_nil_of_le (by omega),kA] at hp
   repeat' (first
    |(refine bq (fun hb=>?_) (fun hb=>?_)<;>(try simp only [aq] at hb)<;>(first|refine gq iK ?_))
    |(refine aB fun m hm=>?_;(try rw [af] at hm);refine gq iK ?_)
    |(refine ab.ao ?_;refine gq iK ?_)
    |(refine fq ?_))
   all_goals first
    |(exfalso;omega)
    |(rw [hp];exact dI rfl)
theorem JC (x y:Fi) (hx:x.ids.length<=1099511627776) (hy:y.ids.length<=1099511627776):ah Tryz.prog w0 109 [fi ρ x,fi ρ y] (iv (mc x y)):=by
 obtain⟨xr,xs⟩:=x
 obtain⟨yr,ys⟩:=y
 dsimp only at hx hy
 have hC:=Q8 (w0:=w0) (ρ:=ρ) xs ys hx hy
 obtain⟨R,hR⟩:∃ R,R=mc ⟨xr,xs⟩ ⟨yr,ys⟩:=⟨_,rfl⟩
 rw [<-hR]
 unfold mc at hR
 dsimp only at hR
 obtain⟨C,JD⟩:∃ C,C=kA xs ys:=⟨_,rfl⟩
 rw [<-JD] at hC hR
 refine X1.aG (by simp [Tryz.ntmps109]) (.v) ?_
 refine gq zH ?_
 repeat' (first
  |(refine ab.int rfl (ad.ag rfl (xU _ _) ⟨.v,.v,trivial⟩) fun _ _=>?_;refine gq zH ?_)
  |(refine ab.int rfl (ad.mP rfl (NJ _ _) ⟨bQ _,trivial⟩ ⟨Wk.sl,trivial⟩) fun _ _=>?_;refine gq zH ?_)
  |(refine ab.op rfl (ad.ag rfl hC ⟨bQ _,bQ _,trivial⟩) ?_;refine gq zH ?_)
  |(refine bq (fun hb=>?_) (fun hb=>?_)<;>(try simp only [aq] at hb)<;>(first|refine gq zH ?_))
  |(refine aB fun m hm=>?_;(try rw [af] at hm);refine gq zH ?_)
  |(refine fq ?_))
 all_goals (subst_vars;refine dI ?_;simp only [cN,o5] at *;(repeat' split)<;>first|rfl|(simp_all;done) )
theorem JE (x y:Fi) (hx:x.ids.length<=1099511627776) (hy:y.ids.length<=1099511627776):ah Tryz.prog w0 99 [fi ρ x,fi ρ y] (iv (mc x y)):=by
 have yg:=Q7 x y
 obtain⟨R,hR⟩:∃ R,R=mc x y:=⟨_,rfl⟩
 rw [<-hR] at yg ⊢
 clear hR
 obtain⟨xr,xs⟩:=x
 obtain⟨yr,ys⟩:=y
 dsimp only at hx hy yg
 refine abE.aG (by simp [Tryz.ntmps99]) (.v) ?_
 refine gq lR ?_
 repeat' (first
  |(refine ab.int rfl (ad.ag rfl (EO _ _) ⟨.v,.v,trivial⟩) fun _ _=>?_;refine gq lR ?_)
  |(refine bq (fun hb=>?_) (fun hb=>?_)<;>(try simp only [aq] at hb)<;>(first|refine gq lR ?_))
  |(refine aB fun m hm=>?_;(try rw [af] at hm);refine gq lR ?_)
  )
 all_goals (
  rename_i c0 wi
  have hR:R=cN c0 (tf xs ys):=by
   subst_vars
   first
    |(rw [show eH xr yr=0 by assumption];rfl)
    |(rw [LH (a:=eH xr yr) (by assumption)])
  clear yg wi
  refine ab.aP (σ:=Int × Int) 2 2 [] (fun p=>[(2,.pt 0 2 0 0),(3,.pt 1 2 0 0),(5,.v (.int .i64 p.2)),(6,.v (.int .i64 p.1))]) [] (fun _=>[(0,.arr 2 [Ag ρ ⟨xr,xs⟩] 0 true),(1,.arr 2 [Ag ρ ⟨yr,ys⟩] 0 true)])
   (fun p=>∃ k:Nat,p.1=k/\k<=xs.length/\k<=ys.length/\R=cN p.2 (tf (xs.drop k) (ys.drop k))) (fun p=>xs.length - p.1.toNat) (0,c0) ⟨0,rfl,by simp,by simp,by simpa using hR⟩ rfl (by exact⟨sq,rfl,⟨.inl ⟨_,rfl,.arr (by exact⟨kq,trivial⟩)⟩,⟨.inl ⟨_,rfl,.arr (by exact⟨kq,trivial⟩)⟩,trivial⟩⟩,rfl,rfl,rfl⟩) ?_
  rintro⟨i,c⟩ ⟨k,hi,hk,dS,hp⟩
  simp only at hi hp
  clear hR
  refine gq lR ?_
  by_cases au:k < xs.length
  ·by_cases gu:k < ys.length
   ·obtain⟨x,gT,aO⟩:=az au
    obtain⟨y,fP,cP⟩:=az gu
    rw [aO,cP,tf] at hp
    by_cases hc:c=0
    ·subst hc
     simp only [cN,if_true] at hp
     repeat' (first
      |(refine ab.op rfl (ad.ind rfl rfl (ay (l:=xs) hi gT) (aw fun _=>rfl)) ?_;refine gq lR ?_)
      |(refine ab.op rfl (ad.ind rfl rfl (ay (l:=ys) hi fP) (aw fun _=>rfl)) ?_;refine gq lR ?_)
      |(refine ab.int rfl (ad.ag rfl (EO _ _) ⟨.v,.v,trivial⟩) fun _ _=>?_;refine gq lR ?_)
      |(refine bq (fun hb=>?_) (fun hb=>?_)<;>(try simp only [aq] at hb)<;>(first|exact absurd hb (by decide)|refine gq lR ?_))
      |(refine aB fun m hm=>?_;(try rw [af] at hm);refine gq lR ?_)
      |(refine aS fun _ _=>?_;refine gq lR ?_)
      |(refine ab.ao ?_;refine gq lR ?_)
      |(refine fq ?_))
     all_goals first
      |(exfalso;omega)
      |(refine ab.aL (σ:=Int × Int) (_,_) [] ?_ ?_ (by exact⟨sq,rfl,⟨.inl ⟨_,rfl,.arr (by exact⟨kq,trivial⟩)⟩,⟨.inl ⟨_,rfl,.arr (by exact⟨kq,trivial⟩)⟩,trivial⟩⟩,rfl,rfl,rfl⟩)
        ·exact⟨k+1,by simp only;omega,by omega,by omega,by subst_vars;rfl⟩
        ·simp only;omega)
    ·have dN:R=c:=by rw [hp,cN,if_neg hc]
     clear hp
     repeat' (first
      |(refine bq (fun hb=>?_) (fun hb=>?_)<;>(try simp only [aq] at hb)<;>(first|refine gq lR ?_))
      |(refine aB fun m hm=>?_;(try rw [af] at hm);refine gq lR ?_)
      |(refine ab.ao ?_;refine gq lR ?_)
      |(refine fq ?_))
     all_goals first
      |(exfalso;omega)
      |(rw [dN];exact dI rfl)
   ·have dN:R=c:=by
     rw [hp,show ys.drop k=[] from List.drop_eq_nil_of_le (by omega)]
     rw [show tf (xs.drop k) []=0 by cases xs.drop k<;>rfl,cN]
     split<;>simp_all
    clear hp
    repeat' (first
     |(refine bq (fun hb=>?_) (fun hb=>?_)<;>(try simp only [aq] at hb)<;>(first|refine gq lR ?_))
     |(refine aB fun m hm=>?_;(try rw [af] at hm);refine gq lR ?_)
     |(refine ab.ao ?_;refine gq lR ?_)
     |(refine fq ?_))
    all_goals first
     |(exfalso;omega)
     |(rw [dN];exact dI rfl)
  ·have dN:R=c:=by
    rw [hp,show xs.drop k=[] from List.drop_eq_nil_of_le (by omega),tf,cN]
    ·split<;>simp_all
    ·simp
   clear hp
   repeat' (first
    |(refine bq (fun hb=>?_) (fun hb=>?_)<;>(try simp only [aq] at hb)<;>(first|refine gq lR ?_))
    |(refine aB fun m hm=>?_;(try rw [af] at hm);refine gq lR ?_)
    |(refine ab.ao ?_;refine gq lR ?_)
    |(refine fq ?_))
   all_goals first
    |(exfalso;omega)
    |(rw [dN];exact dI rfl))
end
end
end Go.Proofs.YtbofilglphfceaaGreat
