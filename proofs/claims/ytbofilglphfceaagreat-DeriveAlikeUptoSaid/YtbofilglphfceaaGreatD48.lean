import Derived.Test.YtbofilglphfceaaGreatD47
namespace Go.Proofs.YtbofilglphfceaaGreat
set_option linter.unusedVariables false
set_option linter.unusedSimpArgs false
open Go.RowKit
section
set_option maxRecDepth 100000
def fH:List Bool->List Gl->List Gl
 |true::m,_::b=>fH m b
 |false::m,x::b=>x::fH m b
 |_,_=>[]
theorem wb:∀ b:List Gl,fH (List.replicate b.length false) b=b
 |[]=>rfl
 |x::b=>by rw [List.length_cons,List.replicate_succ,fH,wb b]
def kE (g:Gl):List Bool->List Gl->Nat->Option Nat
 |m::ms,x::b,k=>if m=false/\aI g x=true then some k else kE g ms b (k+1)
 |_,_,_=>none
theorem qV {g:Gl}:∀ {m:List Bool}{b:List Gl}{k:Nat},m.length=b.length->((fH m b).any (aI g)=(kE g m b k).isSome)
 |[],[],k,_=>rfl
 |true::m,x::b,k,h=>by rw [fH,kE,if_neg (by simp)];exact qV (by simpa using h)
 |false::m,x::b,k,h=>by
  rw [fH,kE,List.any_cons]
  cases hx:aI g x with
  |true=>simp
  |false=>simp only [Bool.false_or,Bool.false_eq_true,and_false,if_false];exact qV (by simpa using h)
theorem pb {g:Gl}:∀ {m:List Bool}{b:List Gl}{k j:Nat},m.length=b.length->kE g m b k=some j->k<=j/\j < k+b.length/\fH (m.set (j - k) true) b=(fH m b).eraseP (aI g)
 |[],[],k,j,_,e=>by cases e
 |true::m,x::b,k,j,h,e=>by
  rw [kE,if_neg (by simp)] at e
  obtain⟨h1,h2,h3⟩:=pb (m:=m) (by simpa using h) e
  refine⟨by omega,by simp only [List.length_cons];omega,?_⟩
  rw [show j - k=(j - (k+1))+1 by omega,List.set_cons_succ,fH,fH,h3]
 |false::m,x::b,k,j,h,e=>by
  rw [kE] at e
  cases hx:aI g x with
  |true =>
   rw [if_pos ⟨rfl,hx⟩] at e
   obtain rfl:=Option.some.inj e
   refine⟨Nat.le_refl _,by simp only [List.length_cons];omega,?_⟩
   rw [Nat.sub_self,List.set_cons_zero,fH,fH,List.eraseP_cons_of_pos hx]
  |false =>
   rw [if_neg (by simp [hx])] at e
   obtain⟨h1,h2,h3⟩:=pb (m:=m) (by simpa using h) e
   refine⟨by omega,by simp only [List.length_cons];omega,?_⟩
   rw [show j - k=(j - (k+1))+1 by omega,List.set_cons_succ,fH,fH,h3,List.eraseP_cons_of_neg (by simp [hx])]
theorem Fp {g:Gl}{k:Nat}:kE g [] [] k=none:=rfl
def BQ (a:List Gl) (m:List Bool) (b:List Gl):Option Nat->Bool
 |some j=>jG a (fH (m.set j true) b)
 |none=>false
theorem Ie {g:Gl}{a b:List Gl}{m:List Bool}(h:m.length=b.length):jG (g::a) (fH m b)=BQ a m b (kE g m b 0):=by
 rw [jG,qV (k:=0) h]
 cases e:kE g m b 0 with
 |none=>rfl
 |some j =>
  obtain⟨_,_,h3⟩:=pb h e
  rw [Nat.sub_zero] at h3
  show (true && jG a ((fH m b).eraseP (aI g)))=jG a (fH (m.set j true) b)
  rw [h3]
  rfl
def ee (s:eN):eN:=⟨[],s.store,s.binds,s.cn,s.known,s.next,s.fresh,s.failed⟩
def gm (a b:eN):Bool:=a.goals.length == b.goals.length && (jG a.goals b.goals && fV (ee a) (ee b))
def pc (a b:eN):Bool:=a.goals.length == b.goals.length && (BP a.goals b.goals && fV (ee a) (ee b))
theorem Fq (a b:eN):gm a b=pc a b:=by
 unfold gm pc
 cases h:a.goals.length == b.goals.length with
 |false=>rfl
 |true=>rw [Ib (by simpa using h)]
theorem jY {T:Type}{p:T->T->Bool}(h:∀ x y,p x y=p y x):∀ a b,bP p a b=bP p b a
 |[],[]=>rfl
 |[],_::_=>rfl
 |_::_,[]=>rfl
 |x::a,y::b=>by rw [bP,bP,h x y,jY h a b]
theorem Di (x y:Tm):(c_ x y == 0)=(c_ y x == 0):=by rw [Bool.eq_iff_iff,beq_iff_eq,beq_iff_eq,ta,ta];exact eq_comm
theorem sf:∀ {a b:List Int},a.length=b.length->(e7 a b=0 ↔ a=b)
 |[],[],_=>by simp [e7]
 |x::a,y::b,h=>by
  rw [e7,e8,ju,sf (by simpa using h)]
  simp
theorem uh {x y:Fi}:jS x y=0 ↔ x=y:=by
 unfold jS
 rw [e8,e8,ju,ju]
 obtain⟨r,l⟩:=x
 obtain⟨r',l'⟩:=y
 simp only [Fi.mk.injEq]
 refine⟨fun ⟨h1,h2,h3⟩=>⟨h1,(sf (by omega)).1 h3⟩,fun ⟨h1,h2⟩=>⟨h1,by rw [h2],by rw [h2];exact nK _⟩⟩
theorem BR (s t:eN):fV s t=fV t s:=by
 unfold fV
 rw [jY nM s.goals,jY nM s.known,
  jY (p:=iN) (fun x y=>by
   unfold iN lH
   rw [Bool.eq_iff_iff]
   simp only [Bool.and_eq_true,beq_iff_eq,e8,pa,ju,nL]
   exact⟨fun h=>⟨h.1.symm,h.2.1.symm,h.2.2.1.symm,h.2.2.2.symm⟩,fun h=>⟨h.1.symm,h.2.1.symm,h.2.2.1.symm,h.2.2.2.symm⟩⟩) s.store,
  jY (p:=iO) (fun x y=>by unfold iO;rw [Di,Bool.beq_comm (a:=x.v)]) s.binds,
  jY (p:=iP) (fun x y=>by unfold iP;rw [Bool.eq_iff_iff,beq_iff_eq,beq_iff_eq,uh,uh];exact eq_comm) s.cn,
  Bool.beq_comm (a:=s.next),Bool.beq_comm (a:=s.fresh),Bool.beq_comm (a:=s.failed)]
theorem BS (a b:eN):gm a b=gm b a:=by
 unfold gm
 rw [BR (ee a),Bool.beq_comm (a:=a.goals.length)]
 cases h:b.goals.length == a.goals.length with
 |false=>rfl
 |true=>rw [Fo (by simpa using h:b.goals.length=a.goals.length)]
theorem Dj {s:eN}{b c:List Gl}(h:s.goals=b++c):gm s ⟨c++b,s.store,s.binds,s.cn,s.known,s.next,s.fresh,s.failed⟩=true:=by
 unfold gm
 rw [Ic h,show ee ⟨c++b,s.store,s.binds,s.cn,s.known,s.next,s.fresh,s.failed⟩=ee s from rfl,BL,h]
 simp only [List.length_append,Bool.and_true,beq_iff_eq]
 omega
end
section
set_option maxRecDepth 100000
attribute [local irreducible] ag aR aa ab
def KM:CF Tryz.f37:=⟨_,by conv=>lhs;cbv⟩
theorem RV:bN Tryz.prog 37 KM.1 Tryz.f37.ntmps:=cd Tryz.func37 KM.2 Tryz.call37
def dO:List Nat:=[0,1,2,7,8,9,6,22,26,36,40,49,53,62]
def KN:CF Tryz.f36:=⟨_,by conv=>lhs;cbv⟩
theorem RW:bN Tryz.prog 36 KN.1 Tryz.f36.ntmps:=cd Tryz.func36 KN.2 Tryz.call36
def jH:List Nat:=[4,1,3,2,0,14,19,58,80]
def mn (x:At):Bool:=la x.a
def j5 (x:Gl):Bool:=la x.a
def BT (x:Im):Bool:=la x.a
section
variable {w0:World}{ρ:Hd}
theorem x_ (l:List At) (hl:l.length<=1099511627776) (CM:∀ x ∈ l,rR x.a):ag Tryz.prog w0 94 [Cw ρ l] (.v (.bool (l.all mn))):=by
 obtain⟨R,hR⟩:∃ R,R=l.all mn:=⟨_,rfl⟩
 rw [<-hR]
 refine RF.bc (by simp [Tryz.ntmps94]) (.v) ?_
 refine gq nZ ?_
 refine ab.cO (σ:=Int) 0 0 [] (fun i=>[(0,Cw ρ l),(3,.v (.int .i64 i))]) [] (fun _=>[]) (fun i=>∃ k:Nat,i=k/\k<=l.length/\R=(l.drop k).all mn) (fun i=>l.length - i.toNat) 0 ⟨0,rfl,by simp,by simpa using hR⟩ rfl cq ?_
 rintro i ⟨k,hi,hk,hp⟩
 clear hR
 refine gq nZ ?_
 by_cases au:k < l.length
 ·obtain⟨x,hx,bI⟩:=aU au
  have cC:=CM x (bO hx)
  have hT:=wa (w0:=w0) (ρ:=ρ) x.a cC.len cC.2
  rw [bI,List.all_cons,mn] at hp
  obtain⟨B,hB⟩:∃ B,B=la x.a:=⟨_,rfl⟩
  rw [<-hB] at hp hT
  obtain⟨xn,xa⟩:=x
  repeat' (first
   |(refine ab.op rfl (aa.ind rfl rfl (bg (l:=l) hi hx) (ba fun _=>rfl)) ?_;refine gq nZ ?_)
   |(refine ab.bif rfl (aa.aB rfl hT ⟨b8 _,trivial⟩) (fun _=>?_) (fun _=>?_)<;>refine gq nZ ?_)
   |(refine bq (fun hb=>?_) (fun hb=>?_)<;>(try simp only [aJ] at hb)<;>(first|refine gq nZ ?_))
   |(refine aS fun m hm=>?_;(try rw [aq] at hm);refine gq nZ ?_)
   |(refine cQ fun _ _=>?_;refine gq nZ ?_)
   |(refine ab.aK ?_;refine gq nZ ?_)
   |(refine ab.de ?_;refine gq nZ ?_)
   |(refine fq ?_))
  all_goals first
   |(exfalso;omega)
   |(rw [hp,show B=false by assumption];exact aT rfl)
   |(rw [show B=true by assumption,Bool.true_and] at hp;(refine ab.cK (σ:=Int) _ [] ?_ ?_ cq<;>first|omega|exact⟨k+1,by omega,by omega,hp⟩))
 ·skip
  repeat' (first
   |(refine bq (fun hb=>?_) (fun hb=>?_)<;>(try simp only [aJ] at hb)<;>(first|refine gq nZ ?_))
   |(refine aS fun m hm=>?_;(try rw [aq] at hm);refine gq nZ ?_)
   |(refine ab.aK ?_;refine gq nZ ?_)
   |(refine fq ?_))
  all_goals first
   |(exfalso;omega)
   |(rw [hp,List.drop_eq_nil_of_le (by omega)];exact aT rfl)
theorem nN (l:List Gl) (n:Int) (hl:l.length<=1099511627776) (CM:∀ x ∈ l,rR x.a):ag Tryz.prog w0 17 [gd ρ l,iv n] (.v (.bool (decide ((l.length:Int)<=n) && l.all j5))):=by
 obtain⟨R,hR⟩:∃ R,R=(decide ((l.length:Int)<=n) && l.all j5):=⟨_,rfl⟩
 rw [<-hR]
 refine RG.bc (by simp [Tryz.ntmps17]) (.v) ?_
 refine gq mj ?_
 repeat' (first
  |(refine bq (fun hb=>?_) (fun hb=>?_)<;>(try simp only [aJ] at hb)<;>(first|refine gq mj ?_))
  |(refine aS fun m hm=>?_;(try rw [aq] at hm);refine gq mj ?_)
  |(refine fq ?_))
 ·rw [hR,decide_eq_false (by omega)];exact aT rfl
 rw [decide_eq_true (by omega),Bool.true_and] at hR
 refine ab.cO (σ:=Int) 0 0 [] (fun i=>[(0,gd ρ l),(5,.v (.int .i64 i))]) [] (fun _=>[]) (fun i=>∃ k:Nat,i=k/\k<=l.length/\R=(l.drop k).all j5) (fun i=>l.length - i.toNat) 0 ⟨0,rfl,by simp,by simpa using hR⟩ rfl cq ?_
 rintro i ⟨k,hi,hk,hp⟩
 clear hR
 refine gq mj ?_
 by_cases au:k < l.length
 ·obtain⟨x,hx,bI⟩:=aU au
  have cC:=CM x (bO hx)
  have hT:=wa (w0:=w0) (ρ:=ρ) x.a cC.len cC.2
  rw [bI,List.all_cons,j5] at hp
  obtain⟨B,hB⟩:∃ B,B=la x.a:=⟨_,rfl⟩
  rw [<-hB] at hp hT
  obtain⟨xo,xn,xa⟩:=x
  repeat' (first
   |(refine ab.op rfl (aa.ind rfl rfl (bg (l:=l) hi hx) (ba fun _=>rfl)) ?_;refine gq mj ?_)
   |(refine ab.bif rfl (aa.aB rfl hT ⟨b8 _,trivial⟩) (fun _=>?_) (fun _=>?_)<;>refine gq mj ?_)
   |(refine bq (fun hb=>?_) (fun hb=>?_)<;>(try simp only [aJ] at hb)<;>(first|refine gq mj ?_))
   |(refine aS fun m hm=>?_;(try rw [aq] at hm);refine gq mj ?_)
   |(refine cQ fun _ _=>?_;refine gq mj ?_)
   |(refine ab.aK ?_;refine gq mj ?_)
   |(refine ab.de ?_;refine gq mj ?_)
   |(refine fq ?_))
  all_goals first
   |(exfalso;omega)
   |(rw [hp,show B=false by assumption];exact aT rfl)
   |(rw [show B=true by assumption,Bool.true_and] at hp;(refine ab.cK (σ:=Int) _ [] ?_ ?_ cq<;>first|omega|exact⟨k+1,by omega,by omega,hp⟩))
 ·skip
  repeat' (first
   |(refine bq (fun hb=>?_) (fun hb=>?_)<;>(try simp only [aJ] at hb)<;>(first|refine gq mj ?_))
   |(refine aS fun m hm=>?_;(try rw [aq] at hm);refine gq mj ?_)
   |(refine ab.aK ?_;refine gq mj ?_)
   |(refine fq ?_))
  all_goals first
   |(exfalso;omega)
   |(rw [hp,List.drop_eq_nil_of_le (by omega)];exact aT rfl)
end
end
end Go.Proofs.YtbofilglphfceaaGreat
