import Derived.Test.YtbofilglphfceaaGreatQ16
namespace Go.Proofs.YtbofilglphfceaaGreat
set_option linter.unusedVariables false
set_option linter.unusedSimpArgs false
open Go.RowKit
section
set_option maxRecDepth 100000
attribute [local irreducible] ah bc ad ab
def N3:CF Tryz.f327:=⟨_,by conv=>lhs;cbv⟩
theorem W0:aH Tryz.prog 327 N3.1 Tryz.f327.ntmps:=aQ Tryz.func327 N3.2 Tryz.call327
def S9:List Nat:=[0,2]
def N4:CF Tryz.f284:=⟨_,by conv=>lhs;cbv⟩
theorem W1:aH Tryz.prog 284 N4.1 Tryz.f284.ntmps:=aQ Tryz.func284 N4.2 Tryz.call284
def lJ:List Nat:=[1,6,4,2,0,7,28,49,3,78,83,92]
def N5:CF Tryz.f211:=⟨_,by conv=>lhs;cbv⟩
theorem W2:aH Tryz.prog 211 N5.1 Tryz.f211.ntmps:=aQ Tryz.func211 N5.2 Tryz.call211
def Cj:List Nat:=[1,2,0]
def N6:CF Tryz.f135:=⟨_,by conv=>lhs;cbv⟩
theorem W3:aH Tryz.prog 135 N6.1 Tryz.f135.ntmps:=aQ Tryz.func135 N6.2 Tryz.call135
def nJ:List Nat:=[4,0,3,2,8,16]
def N7:CF Tryz.f133:=⟨_,by conv=>lhs;cbv⟩
theorem W4:aH Tryz.prog 133 N7.1 Tryz.f133.ntmps:=aQ Tryz.func133 N7.2 Tryz.call133
def Ck:List Nat:=[1,2,0]
def S_:CF Tryz.f60:=⟨_,by conv=>lhs;cbv⟩
theorem abq:aH Tryz.prog 60 S_.1 Tryz.f60.ntmps:=aQ Tryz.func60 S_.2 Tryz.call60
def EL:List Nat:=[1,2,0,5]
def gm (s:ByteArray):Bool:=s.toList == ((⟨#[43]⟩:ByteArray)).toList || s.toList == ((⟨#[45]⟩:ByteArray)).toList || s.toList == ((⟨#[42]⟩:ByteArray)).toList || s.toList == ((⟨#[47]⟩:ByteArray)).toList || s.toList == ((⟨#[37]⟩:ByteArray)).toList
def rS (n:ByteArray) (a:List Tm):Bool:=n.toList == (⟨#[]⟩:ByteArray).toList && a.isEmpty
mutual
def gH:Tm->Bool
 |⟨k,i,n,a⟩=>if k=0 then decide (-2147483648<=i) && decide (i<=2147483648) && rS n a else if k=1 then decide (0<=i) && decide (i<=1048576) && rS n a
  else if k=2 then i == 0 && (gm n && a.length == 2 || gk n && decide (a.length<=6)) && iU a else false
def iU:List Tm->Bool
 |[]=>true
 |x::l=>gH x && iU l
end
def gE (x:Tm):Bool:=gH x && decide (cM x<=200) && decide (jQ x<=20)
def ld (l:List Tm):Bool:=l.all gE && decide (bj l<=200)
theorem zy {B sz fz:Nat}{row:List AV}{ex:Bool}(h:∀ a ∈ row,Pure a):oy B (.arr sz [row] fz ex):=fun r hr a ha=>by
 obtain rfl:=List.mem_singleton.1 hr
 exact (h a ha).b_
section
variable {w0:World}{ρ:Hd}
theorem Lh (n:Nat):∀ x:Tm,cM x<=n->n<=1099511627776->ah Tryz.prog w0 285 [tm ρ x] (iv (jQ x)):=by
 induction n with
 |zero=>intro x h;have:=mo x;omega
 |succ n ih =>
  intro x hx hn
  have hs:=s5 x
  have EM:=zw x
  have hl:=ph (jP x)
  have hle:=QP x
  obtain⟨A,hA⟩:∃ A,A=jP x:=⟨_,rfl⟩
  rw [<-hA] at hs hl EM
  have ha:ah Tryz.prog w0 177 [tm ρ x] (tl ρ A):=by rw [hA];exact zx x
  refine WX.aG (by simp [Tryz.ntmps285]) (.v) ?_
  refine gq mQ ?_
  repeat' (first
   |((refine ab.op rfl (ad.ag rfl ha ⟨ba _,trivial⟩) ?_;refine gq mQ ?_))
   )
  refine ab.aP (σ:=Int × Int) 1 1 [] (fun p=>[(3,.v (.int .i64 p.2)),(4,tl ρ A),(5,.v (.int .i64 p.1))]) [] (fun _=>[])
   (fun p=>∃ k:Nat,p.1=k/\k<=A.length/\0<=p.2/\max p.2 (fj (A.drop k):Int)=fj A) (fun p=>A.length - p.1.toNat) (0,0) ⟨0,rfl,by simp,by simp,by simp⟩ rfl cq ?_
  rintro⟨i,c⟩ ⟨k,hi,hk,h0,hp⟩
  simp only at hi h0 hp
  refine gq mQ ?_
  by_cases au:k < A.length
  ·obtain⟨y,hy,cP⟩:=az au
   have hd:=rR A k
   rw [cP,fj] at hp
   rw [cP,bj] at hd
   have Ci:=mo y
   repeat' (first
    |(refine ab.op rfl (ad.ind rfl rfl (ft (l:=A) hi hy) fu) ?_;refine gq mQ ?_)
    |(refine ab.int rfl (ad.ag rfl (ih y (by omega) (by omega)) ⟨ba _,trivial⟩) fun _ _=>?_;refine gq mQ ?_)
    |(refine ab.int rfl (ad.max rfl rfl) fun _ _=>?_;refine gq mQ ?_)
    |(refine bq (fun hb=>?_) (fun hb=>?_)<;>(try simp only [aq] at hb)<;>(first|refine gq mQ ?_))
    |(refine aB fun m hm=>?_;(try rw [af] at hm);refine gq mQ ?_)
    |(refine aS fun _ _=>?_;refine gq mQ ?_)
    |(refine ab.ao ?_;refine gq mQ ?_)
    |(refine fq ?_))
   all_goals first
    |(exfalso;omega)
    |(refine ab.aL (σ:=Int × Int) (_,_) [] ?_ ?_ cq
      ·exact⟨k+1,by simp only;omega,by omega,by simp only;omega,by simp only;omega⟩
      ·simp only;omega)
  ·skip
   repeat' (first
    |(refine bq (fun hb=>?_) (fun hb=>?_)<;>(try simp only [aq] at hb)<;>(first|refine gq mQ ?_))
    |(refine aB fun m hm=>?_;(try rw [af] at hm);refine gq mQ ?_)
    |(refine aS fun _ _=>?_;refine gq mQ ?_)
    |(refine ab.ao ?_;refine gq mQ ?_)
    |(refine fq ?_))
   all_goals first
    |(exfalso;omega)
    |(rw [List.drop_eq_nil_of_le (by omega),fj] at hp;exact dI (by omega))
theorem QS (s:ByteArray):ah Tryz.prog w0 327 [.v (.string s)] (.v (.bool (gm s))):=by
 refine W0.aG (by simp [Tryz.ntmps327]) (.v) ?_
 refine gq S9 ?_
 repeat' (first
  |(refine bq (fun hb=>?_) (fun hb=>?_)<;>(try simp only [aq] at hb)<;>(first|refine gq S9 ?_))
  |(refine fq ?_))
 all_goals (refine aU.of_eq ?_;simp_all [gm])
theorem Ta (x:Tm) (hx:x.ok):ah Tryz.prog w0 284 [tm ρ x] (.v (.bool (gH x))):=by
 revert hx
 refine Tm.ind (p:=fun x=>x.ok->ah Tryz.prog w0 284 [tm ρ x] (.v (.bool (gH x)))) ?_ x
 intro k i n a ih hx
 obtain⟨cX,ey,eD⟩:=hx.out
 dsimp only at cX ey eD
 rw [gH]
 have hE:a.isEmpty=decide ((a.length:Int)=0):=by
  cases a with
  |nil=>rfl
  |cons x l=>simp;omega
 rw [rS,hE]
 have hL:(a.length == 2)=decide ((a.length:Int)=2):=by rw [Bool.eq_iff_iff];simp;omega
 have hM:decide (a.length<=6)=decide ((a.length:Int)<=6):=decide_eq_decide.2 (by omega)
 rw [hL,hM]
 obtain⟨V,hV⟩:∃ V,V=gH ⟨k,i,n,a⟩:=⟨_,rfl⟩
 rw [gH,rS,hE,hL,hM] at hV
 rw [<-hV]
 refine W1.aG (by simp [Tryz.ntmps284]) (.v) ?_
 refine gq lJ ?_
 repeat' (first
  |(refine ab.a_ rfl (ad.ag rfl (QS _) ⟨.v,trivial⟩) (fun _=>?_) (fun _=>?_)<;>refine gq lJ ?_)
  |(refine ab.a_ rfl (ad.ag rfl (s4 _ ey) ⟨.v,trivial⟩) (fun _=>?_) (fun _=>?_)<;>refine gq lJ ?_)
  |(refine bq (fun hb=>?_) (fun hb=>?_)<;>(try simp only [aq] at hb)<;>(first|refine gq lJ ?_))
  |(refine aB fun m hm=>?_;(try rw [af] at hm);refine gq lJ ?_)
  |(refine fq ?_))
 all_goals try (refine aC ?_;rw [hV];clear ih hx eD hE hL hM hV;subst_vars;simp_all<;>(intros;omega))
 all_goals
  have hv:V=iU a:=by rw [hV];clear ih hx eD hE hL hM hV;subst_vars;simp_all<;>(intros;omega)
  clear hV hE hL hM
  refine ab.aP (σ:=Int) 1 1 [] (fun j=>[(1,.pt 0 4 0 0),(4,.v (.int .i64 j))]) [] (fun _=>[(0,.arr 4 [v7 ρ ⟨k,i,n,a⟩] 0 true)])
   (fun j=>∃ q:Nat,j=q/\q<=a.length/\V=iU (a.drop q)) (fun j=>a.length - j.toNat) 0 ⟨0,rfl,by simp,by simp [hv]⟩ rfl
   ⟨⟨.aD rfl (.pt (by decide)),.aD rfl .v,trivial⟩,rfl,⟨.inl ⟨_,rfl,.same (zy (row:=v7 ρ ⟨k,i,n,a⟩) (wT _))⟩,trivial⟩,rfl,rfl,rfl⟩ ?_
  rintro j ⟨q,hj,hq,hp⟩
  refine gq lJ ?_
  by_cases au:q < a.length
  ·obtain⟨y,hy,cP⟩:=az au
   rw [cP,iU] at hp
   have hf:=ih y (aY hy) (eD.mem y (aY hy))
   repeat' (first
    |(refine ab.op rfl (ad.ind rfl rfl (ft (l:=a) hj hy) fu) ?_;refine gq lJ ?_)
    |(refine ab.a_ rfl (ad.ag rfl hf ⟨ba _,trivial⟩) (fun _=>?_) (fun _=>?_)<;>refine gq lJ ?_)
    |(refine bq (fun hb=>?_) (fun hb=>?_)<;>(try simp only [aq] at hb)<;>(first|refine gq lJ ?_))
    |(refine aB fun m hm=>?_;(try rw [af] at hm);refine gq lJ ?_)
    |(refine aS fun _ _=>?_;refine gq lJ ?_)
    |(refine ab.ao ?_;refine gq lJ ?_)
    |(refine ab.bJ ?_;refine gq lJ ?_)
    |(refine fq ?_))
   all_goals first
    |(refine ab.aL (σ:=Int) _ [] ?_ ?_ ⟨⟨.aD rfl (.pt (by decide)),.aD rfl .v,trivial⟩,rfl,⟨.inl ⟨_,rfl,.same (zy (row:=v7 ρ ⟨k,i,n,a⟩) (wT _))⟩,trivial⟩,rfl,rfl,rfl⟩
      ·exact⟨q+1,by omega,by omega,by rw [hp];simp_all⟩
      ·omega)
    |(refine aC ?_;rw [hp];simp_all;done)
  ·skip
   repeat' (first
    |(refine bq (fun hb=>?_) (fun hb=>?_)<;>(try simp only [aq] at hb)<;>(first|refine gq lJ ?_))
    |(refine aB fun m hm=>?_;(try rw [af] at hm);refine gq lJ ?_)
    |(refine ab.ao ?_;refine gq lJ ?_)
    |(refine fq ?_))
   all_goals first
    |(exfalso;omega)
    |(rw [hp,List.drop_eq_nil_of_le (by omega),iU];exact aC rfl)
end
end
section
set_option maxRecDepth 100000
attribute [local irreducible] ah bc ad ab
theorem Av:∀ {l:List Tm},∀ x ∈ l,cM x<=bj l
 |[],x,h=>by cases h
 |y::l,x,h=>by
  rw [bj]
  rcases List.mem_cons.1 h with rfl|h
  ·omega
  ·have:=Av x h;omega
def mI (l:List Tm):Prop:=eg l/\bj l<=1099511627776
theorem mI.len {l:List Tm}(h:mI l):l.length<=1099511627776:=Nat.le_trans (ph l) h.2
def eh (x:At):Bool:=gk x.n && decide (x.a.length<=6) && ld x.a
def arity (o:Int):Int:=if o=1\/o=2 then 0 else if o=11\/o=12 then 1 else if o > 2/\o < 11 then 2 else -1
def dL (x:Gl):Bool:=if x.op=0 then eh ⟨x.n,x.a⟩ else x.n.toList == (⟨#[]⟩:ByteArray).toList && decide (arity x.op=x.a.length) && ld x.a
section
variable {w0:World}{ρ:Hd}
theorem Cl (x:Tm) (hx:x.ok) (hs:cM x<=1099511627776):ah Tryz.prog w0 211 [tm ρ x] (.v (.bool (gE x))):=by
 refine W2.aG (by simp [Tryz.ntmps211]) (.v) ?_
 refine gq Cj ?_
 repeat' (first
  |(refine ab.a_ rfl (ad.ag rfl (Ta (ρ:=ρ) x hx) ⟨ba _,trivial⟩) (fun _=>?_) (fun _=>?_)<;>refine gq Cj ?_)
  |(refine ab.int rfl (ad.ag rfl (vG (ρ:=ρ) _ x (Nat.le_refl _) hs) ⟨ba _,trivial⟩) fun _ _=>?_;refine gq Cj ?_)
  |(refine ab.int rfl (ad.ag rfl (Lh (ρ:=ρ) _ x (Nat.le_refl _) hs) ⟨ba _,trivial⟩) fun _ _=>?_;refine gq Cj ?_)
  |(refine bq (fun hb=>?_) (fun hb=>?_)<;>(try simp only [aq] at hb)<;>(first|refine gq Cj ?_))
  |(refine fq ?_))
 all_goals (refine aC ?_;subst_vars;clear hs hx;simp_all [gE]<;>(intros;omega))
theorem wc (a:List Tm) (hz:mI a):ah Tryz.prog w0 135 [tl ρ a] (.v (.bool (ld a))):=by
 have hl:=hz.len
 obtain⟨EN,Tb⟩:=hz
 refine W3.aG (by simp [Tryz.ntmps135]) (.v) ?_
 refine gq nJ ?_
 refine ab.aP (σ:=Int × Int) 0 0 [] (fun p=>[(0,tl ρ a),(3,.v (.int .i64 p.2)),(4,.v (.int .i64 p.1))]) [] (fun _=>[])
  (fun p=>∃ k:Nat,p.1=k/\k<=a.length/\0<=p.2/\p.2+bj (a.drop k)=bj a/\a.all gE=(a.drop k).all gE) (fun p=>a.length - p.1.toNat) (0,0) ⟨0,rfl,by simp,by simp,by simp,by simp⟩ rfl cq ?_
 rintro⟨i,c⟩ ⟨k,hi,hk,h0,hp,hq⟩
 simp only at hi h0 hp
 refine gq nJ ?_
 by_cases au:k < a.length
 ·obtain⟨y,hy,cP⟩:=az au
  rw [cP,bj] at hp
  rw [cP,List.all_cons] at hq
  have hm:=Av y (aY hy)
  have hR:=Cl (w0:=w0) (ρ:=ρ) y (EN.mem y (aY hy)) (by omega)
  have hS:=vG (w0:=w0) (ρ:=ρ) _ y (Nat.le_refl _) (by omega)
  repeat' (first
   |(refine ab.op rfl (ad.ind rfl rfl (ft (l:=a) hi hy) fu) ?_;refine gq nJ ?_)
   |(refine ab.a_ rfl (ad.ag rfl hR ⟨ba _,trivial⟩) (fun _=>?_) (fun _=>?_)<;>refine gq nJ ?_)
   |(refine ab.int rfl (ad.ag rfl hS ⟨ba _,trivial⟩) fun _ _=>?_;refine gq nJ ?_)
   |(refine bq (fun hb=>?_) (fun hb=>?_)<;>(try simp only [aq] at hb)<;>(first|refine gq nJ ?_))
   |(refine aB fun m hm=>?_;(try rw [af] at hm);refine gq nJ ?_)
   |(refine aS fun _ _=>?_;refine gq nJ ?_)
   |(refine ab.ao ?_;refine gq nJ ?_)
   |(refine ab.bJ ?_;refine gq nJ ?_)
   |(refine fq ?_))
  all_goals first
   |(refine ab.aL (σ:=Int × Int) (_,_) [] ?_ ?_ cq
     ·refine⟨k+1,by simp only;omega,by omega,by simp only;omega,by simp only;omega,?_⟩
      rw [hq];simp_all
     ·simp only;omega)
   |(refine aC ?_;rw [ld,hq];simp_all;done)
 ·skip
  repeat' (first
   |(refine bq (fun hb=>?_) (fun hb=>?_)<;>(try simp only [aq] at hb)<;>(first|refine gq nJ ?_))
   |(refine aB fun m hm=>?_;(try rw [af] at hm);refine gq nJ ?_)
   |(refine ab.ao ?_;refine gq nJ ?_)
   |(refine fq ?_))
  all_goals first
   |(exfalso;omega)
   |(rw [List.drop_eq_nil_of_le (by omega)] at hp hq
     rw [bj] at hp
     refine aC ?_
     rw [ld,hq]
     simp
     omega)
theorem wZ (x:At) (hz:mI x.a) (hn:x.n.size<=1099511627776):ah Tryz.prog w0 133 [at_ ρ x] (.v (.bool (eh x))):=by
 obtain⟨n,a⟩:=x
 dsimp only at hz hn
 have hL:decide (a.length<=6)=decide ((a.length:Int)<=6):=decide_eq_decide.2 (by omega)
 rw [eh,hL]
 refine W4.aG (by simp [Tryz.ntmps133]) (.v) ?_
 refine gq Ck ?_
 repeat' (first
  |(refine ab.a_ rfl (ad.ag rfl (s4 _ hn) ⟨.v,trivial⟩) (fun _=>?_) (fun _=>?_)<;>refine gq Ck ?_)
  |(refine ab.a_ rfl (ad.ag rfl (wc _ hz) ⟨bC _,trivial⟩) (fun _=>?_) (fun _=>?_)<;>refine gq Ck ?_)
  |(refine bq (fun hb=>?_) (fun hb=>?_)<;>(try simp only [aq] at hb)<;>(first|refine gq Ck ?_))
  |(refine aB fun m hm=>?_;(try rw [af] at hm);refine gq Ck ?_)
  |(refine fq ?_))
 all_goals (refine aC ?_;subst_vars;simp_all<;>(intros;omega))
theorem Tc (o:Int):ah Tryz.prog w0 134 [iv o] (iv (arity o)):=QQ o
theorem w5 (x:Gl) (hz:mI x.a) (hn:x.n.size<=1099511627776):ah Tryz.prog w0 60 [gl ρ x] (.v (.bool (dL x))):=by
 obtain⟨o,n,a⟩:=x
 dsimp only at hz hn
 rw [dL]
 refine abq.aG (by simp [Tryz.ntmps60]) (.v) ?_
 refine gq EL ?_
 repeat' (first
  |(refine ab.a_ rfl (ad.ag rfl (wZ (ρ:=ρ) ⟨n,a⟩ hz hn) ⟨de (ρ:=ρ) ⟨n,a⟩,trivial⟩) (fun _=>?_) (fun _=>?_)<;>refine gq EL ?_)
  |(refine ab.a_ rfl (ad.ag rfl (wc _ hz) ⟨bC _,trivial⟩) (fun _=>?_) (fun _=>?_)<;>refine gq EL ?_)
  |(refine ab.int rfl (ad.ag rfl (Tc _) ⟨.v,trivial⟩) fun _ _=>?_;refine gq EL ?_)
  |(refine bq (fun hb=>?_) (fun hb=>?_)<;>(try simp only [aq] at hb)<;>(first|refine gq EL ?_))
  |(refine aB fun m hm=>?_;(try rw [af] at hm);refine gq EL ?_)
  |(refine fq ?_))
 all_goals (refine aC ?_;subst_vars;simp_all<;>(intros;omega))
end
end
end Go.Proofs.YtbofilglphfceaaGreat
