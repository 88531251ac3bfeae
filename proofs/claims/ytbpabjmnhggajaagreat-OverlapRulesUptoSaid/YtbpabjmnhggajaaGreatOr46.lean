import Derived.Test.YtbpabjmnhggajaaGreatOr45
namespace Go.Proofs.YtbpabjmnhggajaaGreat
set_option linter.all false
open Go.RowKit
variable {ex:Bool}{sz:Nat}
section
set_option maxRecDepth 100000
attribute [local irreducible] ah aG ae ad
def YE:FQ 35 Tryz.f35:=aF Tryz.func35 Tryz.call35
def Kk:List Nat:=[0,2,4]
def YF:FQ 38 Tryz.f38:=aF Tryz.func38 Tryz.call38
def Kl:List Nat:=[0,2,4]
def agj:FQ 34 Tryz.f34:=aF Tryz.func34 Tryz.call34
def mV:List Nat:=[4,10,5,3,0,9,11,1]
def agk:FQ 37 Tryz.f37:=aF Tryz.func37 Tryz.call37
def mW:List Nat:=[4,10,5,3,0,9,11,1]
def an0:FQ 15 Tryz.f15:=aF Tryz.func15 Tryz.call15
def On:List Nat:=[2,4,5,6,7,0,1]
def ou (k:Int) (x:At):At:=⟨x.n,x.a.map (mU k)⟩
def rQ (k:Int) (x:Gl):Gl:=⟨x.op,x.n,x.a.map (mU k)⟩
def nW (k:Int) (r:Rl):Rl:=⟨r.n,r.aM.map (ou k),r.rem.map (ou k),r.guard.map (rQ k),r.body.map (rQ k),r.vars⟩
section
variable {P:Program}{w0:World}{rd dr:Bool}{n:Nat}{Q:Exit->AA->af->Prop}{α:AA}{S:af}{l:List QI}{K:List f_}{T:Type}{ρ:Hd}{f:T->List AV}
theorem ad.YG {c:Option Nat}{d:Option (Nat × Bool)}{m:Nat}{x b:QO}{k i j:Nat}{a:List T}{x0 y:T}(o:bG α.tm d=some true) (p:x.ev α.tm=.pt k sz i j) (q:S.get k=some (.arr sz (ρ.h (List.map f) a) 0 ex)) (h0:a[i]?=some x0) (r:qk (f x0) j (a7 (b.ev α.tm))=f y) (s:(a7 (b.ev α.tm)).all dh=true) (t:m=(a7 (b.ev α.tm)).length) (u:j+(a7 (b.ev α.tm)).length<=(f x0).length)
  (kk:∀g,g=a.set i y->ad P w0 rd n Q (.bc dr l K) (bP c α (.v undef)) (S.set k (some (.arr sz (ρ.h (List.map f) g) 0 ex)))):ad P w0 rd n Q (.bc dr (⟨c,d,.store m x b⟩::l) K) α S:=by
 have h:=kk _ rfl;have v:(ρ.h (List.map f) a)[i]?=some (f x0):=bW h0;have e:(ρ.h (List.map f) a).set i (qk (f x0) j (a7 (b.ev α.tm)))=ρ.h (List.map f) (a.set i y):=by
  rw[r,ρ.eq,ρ.eq,List.map_set]
 rw[<-e]at h;exact ad.op (i:=⟨c,d,.store m x b⟩) o (ae.afn p q s t v u) h
theorem Cv.an1 {t k fz:Nat}{row:List AV}(f:S.get k=some (.arr sz [row] fz ex)) (c:α.tm t=.pt k sz 0 0):Cv w0 n α S ⟨bE α.tm t (.ip row),α.df⟩ (S.set k none):=by
 have g:∀j o,(af.none_.set k (some (.arr sz [row] fz ex))).get j=some o->j=k/\o=.arr sz [row] fz ex:=λj o b=>by
  have b:bE (λ_=>none) k (some (Ob.arr sz [row] fz ex)) j=some o:=b;by_cases e:j=k
  ·subst e;rw[aJ]at b;exact⟨rfl,(oJ_ b).symm⟩
  ·rw[aO _ _ e]at b;cases b
 refine Cv.afm (N:=af.none_.set k (some (.arr sz [row] fz ex))) (S':=S.set k none) (λj o b=>?_) (ac_ _) (λj o b=>?_) (by rw[c];intro h;cases h) ?_
 ·obtain⟨rfl,rfl⟩:=g j o b;exact f
 ·have b:bE S.get k none j=some o:=b;by_cases e:j=k
  ·subst e;rw[aJ]at b;cases b
  ·rw[aO _ _ e]at b;refine⟨b,?_⟩;show bE (λ_=>none) k _ j=none;rw[aO _ _ e]
 ·rw[c];refine aP.pt (row:=row) (aJ _ _ _) rfl (by omega) λq a m d i=>?_;rw[aD_,i]at d;obtain rfl:=oJ_ d;exact .refl _
end
section
variable {w0:World}{ρ:Hd}
theorem S8 {B:Nat}(l:List At):h_ B (.arr sz (ρ.h (List.map (atR ρ)) l) 0 ex):=jS λx _ a b=>wQ x a b
theorem ajR (l:List At):∀row ∈ ρ.h (List.map (atR ρ)) l,∀a ∈ row,Pure a:=by
 rw[ρ.eq];intro row b a c;obtain⟨x,_,rfl⟩:=av_.1 b;exact wQ x a c
theorem S9 (A:Option Addr) (c:Nat):ah Tryz.prog w0 35 [.v (.slice A 0 c)] (.sl true []):=by
 cases A with
 |none =>
  refine st YE Kk ((.sl λr h=>by cases h)) ?_;refine ad.op rfl (ae.nil (b:=true) rfl rfl) ?_;refine gq Kk ?_;refine fq ?_;exact .refl _
 |some A =>
  refine st YE Kk ((.sl λr h=>by cases h)) ?_;refine ad.op rfl (ae.nil (b:=false) rfl rfl) ?_;refine gq Kk ?_;refine ad.op rfl (ae.HL rfl rfl) ?_;refine gq Kk ?_;refine fq ?_;exact .refl _
theorem YH:ah Tryz.prog w0 35 [cL ρ []] (cL ρ []):=by
 have h:ah Tryz.prog w0 35 [cL ρ []] (.sl true []):=by
  rw[cL,bX];exact ah.emp S9
 exact ah.fz h (λS=>by rw[cL,bX];exact aP.wk) (dk _)
theorem YI (x:At) (l:List At) (c:(x::l).length<=100000000000):aG Tryz.prog w0 35 [cL ρ (x::l)] (aq [] 0) (.gr 0 2 (x::l).length) (aq [(0,.arr 2 (ρ.h (List.map (atR ρ)) (x::l)) 0 false)] 1):=by
 obtain⟨R,a⟩:∃R,R=x::l:=⟨_,rfl⟩;have d:Df (aR ρ (atR ρ) false R)=some false:=by rw[a,bX];rfl
 rw[<-a]at c ⊢;unfold cL;refine sc 0 1 YE ?_;refine gq Kk ?_;refine ad.op rfl (ae.nil d rfl) ?_;refine gq Kk ?_;refine ad.qF (f:=atR ρ) (ys:=R) rfl rfl rfl (λ_=>rfl) (by omega) λe len b hlen=>?_;have hlen:len=R.length:=by rw[hlen,b]
 subst b;rw[<-hlen];refine gq Kk ?_;refine fq ?_;exact⟨[(0,0)],.jT rfl rfl,⟨.inl ⟨_,rfl,.same (S8 _)⟩,trivial⟩,rfl⟩
theorem Vy (k:Int) (a:List At) (d:a.length<=100000000000) (v:∀x ∈ a,bp x.a<=100000000000) :
  ah Tryz.prog w0 34 [cL ρ a,.ip [.fn (.func 75) [] [.ip [iv k]]]] (cL ρ (a.map (ou k))):=by
 have L:=um k;have M:Pure (.ip [.fn (.func 75) [] [.ip [iv k]]]):=.ip λb c=>by obtain rfl:=ae_.1 c;exact L
 cases a with
 |nil =>
  have e:=YH (w0:=w0) (ρ:=ρ);refine st agj mV ((dk _)) ?_
  repeat' (first
   |(refine ad.op rfl (pl e) ?_;refine gq mV ?_)
   |refine bq (λc=>?_) (λc=>?_)<;>(try simp only[bL]at c)<;>(first|exact absurd c (by decide)|refine gq mV ?_)
   |refine bS λm g=>?_;(try rw[au]at g);refine gq mV ?_
   |refine cw λ_ _=>?_;refine gq mV ?_
   |refine ll λ_ _=>?_;refine gq mV ?_
   |refine ad.str rfl (ae.cat rfl rfl (by assumption)) λ_ _=>?_;refine gq mV ?_
   |refine ad.ao ?_;refine gq mV ?_
   |refine ad.bh ?_;refine gq mV ?_
   |(refine fq ?_))
  refine ad.aK (σ:=Int) 0 0 [] (λp=>[(4,cL ρ []),(9,.v (.int .i64 m)),(10,.v (.int .i64 p))]) [] (λ_=>[]) (λp=>p=0) (λp=>0) 0 rfl rfl cq ?_;rintro i rfl;refine gq mV ?_
  repeat' (first
   |refine bq (λc=>?_) (λc=>?_)<;>(try simp only[bL]at c)<;>(first|exact absurd c (by decide)|refine gq mV ?_)
   |refine bS λm g=>?_;(try rw[au]at g);refine gq mV ?_
   |refine cw λ_ _=>?_;refine gq mV ?_
   |refine ll λ_ _=>?_;refine gq mV ?_
   |refine ad.str rfl (ae.cat rfl rfl (by assumption)) λ_ _=>?_;refine gq mV ?_
   |refine ad.ao ?_;refine gq mV ?_
   |refine ad.bh ?_;refine gq mV ?_
   |(refine fq ?_))
  all_goals first
   |exfalso;simp only[aN_]at g;omega
   |exact .refl _
 |cons x0 z =>
 have e:=YI (w0:=w0) (ρ:=ρ) x0 z d;obtain⟨a,A⟩:∃a,a=x0::z:=⟨_,rfl⟩;rw[<-A]at e d v ⊢;clear A;obtain⟨R,B⟩:∃R,R=a.map (ou k):=⟨_,rfl⟩;rw[<-B];obtain⟨N,O⟩:∃n,n=a.length:=⟨_,rfl⟩;rw[<-O]at e;refine st agj mV ((dk _)) ?_;refine ad.op rfl (ae.jK [] [(0,some (.arr 2 (ρ.h (List.map (atR ρ)) a) 0 false))] e rfl ⟨.pure (dk _),trivial⟩ (.gr rfl) trivial ⟨⟨0,_,rfl,rfl,.pure (ajR _)⟩,trivial⟩) ?_;refine gq mV ?_;refine ad.int rfl (ae.iz rfl) λm g=>?_;refine gq mV ?_
 refine ad.aK (σ:=Int × List At) 1 1 [] (λp=>[(1,.ip [.fn (.func 75) [] [.ip [iv k]]]),(4,.gr 0 2 N),(9,.v (.int .i64 m)),(10,.v (.int .i64 p.1))]) [] (λp=>[(0,.arr 2 (ρ.h (List.map (atR ρ)) p.2) 0 false)])
  (λp=>∃j:Nat,p.1=j/\j<=a.length/\p.2.length=a.length/\p.2=(a.take j).map (ou k)++a.drop j) (λp=>a.length - p.1.toNat) (0,a) ⟨0,rfl,by simp,rfl,by simp⟩ rfl (by exact⟨sq,rfl,⟨.inl ⟨_,rfl,.same (S8 _)⟩,trivial⟩,rfl,rfl,rfl⟩) ?_
 rintro⟨i,o⟩ ⟨j,r,T,C,q⟩;simp only at r C q;refine gq mV ?_;refine bq (λD=>?_) (λD=>?_)<;>(try simp only[bL]at D)
 rotate_left
 ·refine gq mV ?_;refine ad.ao ?_;refine gq mV ?_;refine ad.fin (by conv=>lhs;cbv) ?_;have h:R=o:=by rw[B,q,aA_ (by omega),aQ_ (by omega),aB_]
  rw[h];exact aP.grow rfl (by omega)
 obtain⟨x,E,F⟩:=aD (l:=a) (k:=j) (by omega);have G:o[j]?=some x:=by
  have d:((a.take j).map (ou k)).length=j:=by rw[aU_,aZ_];omega
  rw[q,be_ (by omega),d,bk_,F];rfl
 have U:j < a.length:=by omega
 have s:=Kj (w0:=w0) (ρ:=ρ) k x.a (v x (bM E));obtain⟨y,H⟩:∃y,y=ou k x:=⟨_,rfl⟩;obtain⟨I,P⟩:=x;simp only at s;obtain⟨Y,J⟩:∃Y,Y=P.map (mU k):=⟨_,rfl⟩;rw[<-J]at s;have t:y=⟨I,Y⟩:=by rw[H,ou,J]
 have u:=bW (ρ:=ρ) (f:=atR ρ) G;rw[atR]at u;simp only at u;refine gq mV ?_;refine ad.op rfl (ae.dg rfl rfl r (by omega)) ?_;refine ad.op rfl (ae.quiet rfl) ?_;refine ad.op rfl (ae.fk rfl rfl u rfl) ?_;refine gq mV ?_;refine ad.op rfl (pl s) ?_;refine gq mV ?_;refine ad.op rfl (ae.dg rfl rfl r (by omega)) ?_;refine ad.op rfl (ae.quiet rfl) ?_;refine ad.YG (f:=atR ρ) (y:=⟨I,Y⟩) rfl rfl rfl G rfl rfl rfl (by exact ac_ _) (λQ K=>?_);refine gq mV ?_;refine cw (λS V=>?_);refine gq mV ?_;refine ad.az (σ:=Int × List At) (S,Q) [] ⟨j+1,by simp only;omega,by omega,by simp only;rw[K,aV_];exact C,?_⟩ ?_ (by exact⟨sq,rfl,⟨.inl ⟨_,rfl,.same (S8 _)⟩,trivial⟩,rfl,rfl,rfl⟩)
 ·simp only;have d:((a.take j).map (ou k)).length=j:=by rw[aU_,aZ_];omega
  rw[K,<-t,q,bC_ _ _ (by omega),d,bk_,F,bW_,bF_,E,aM_,H];simp
 ·simp only;omega
theorem ajS {B:Nat}(l:List Gl):h_ B (.arr sz (ρ.h (List.map (jf ρ)) l) 0 ex):=jS λx _ a b=>qN x a b
theorem ajT (l:List Gl):∀row ∈ ρ.h (List.map (jf ρ)) l,∀a ∈ row,Pure a:=by
 rw[ρ.eq];intro row b a c;obtain⟨x,_,rfl⟩:=av_.1 b;exact qN x a c
theorem S_ (A:Option Addr) (c:Nat):ah Tryz.prog w0 38 [.v (.slice A 0 c)] (.sl true []):=by
 cases A with
 |none =>
  refine st YF Kl ((.sl λr h=>by cases h)) ?_;refine ad.op rfl (ae.nil (b:=true) rfl rfl) ?_;refine gq Kl ?_;refine fq ?_;exact .refl _
 |some A =>
  refine st YF Kl ((.sl λr h=>by cases h)) ?_;refine ad.op rfl (ae.nil (b:=false) rfl rfl) ?_;refine gq Kl ?_;refine ad.op rfl (ae.HL rfl rfl) ?_;refine gq Kl ?_;refine fq ?_;exact .refl _
theorem YJ:ah Tryz.prog w0 38 [cE ρ []] (cE ρ []):=by
 have h:ah Tryz.prog w0 38 [cE ρ []] (.sl true []):=by
  rw[cE,bX];exact ah.emp S_
 exact ah.fz h (λS=>by rw[cE,bX];exact aP.wk) (dM _)
theorem YK (x:Gl) (l:List Gl) (c:(x::l).length<=100000000000):aG Tryz.prog w0 38 [cE ρ (x::l)] (aq [] 0) (.gr 0 3 (x::l).length) (aq [(0,.arr 3 (ρ.h (List.map (jf ρ)) (x::l)) 0 false)] 1):=by
 obtain⟨R,a⟩:∃R,R=x::l:=⟨_,rfl⟩;have d:Df (aR ρ (jf ρ) false R)=some false:=by rw[a,bX];rfl
 rw[<-a]at c ⊢;unfold cE;refine sc 0 1 YF ?_;refine gq Kl ?_;refine ad.op rfl (ae.nil d rfl) ?_;refine gq Kl ?_;refine ad.qF (f:=jf ρ) (ys:=R) rfl rfl rfl (λ_=>rfl) (by omega) λe len b hlen=>?_;have hlen:len=R.length:=by rw[hlen,b]
 subst b;rw[<-hlen];refine gq Kl ?_;refine fq ?_;exact⟨[(0,0)],.jT rfl rfl,⟨.inl ⟨_,rfl,.same (ajS _)⟩,trivial⟩,rfl⟩
theorem Vz (k:Int) (a:List Gl) (d:a.length<=100000000000) (v:∀x ∈ a,bp x.a<=100000000000) :
  ah Tryz.prog w0 37 [cE ρ a,.ip [.fn (.func 75) [] [.ip [iv k]]]] (cE ρ (a.map (rQ k))):=by
 have M:=um k;have N:Pure (.ip [.fn (.func 75) [] [.ip [iv k]]]):=.ip λb c=>by obtain rfl:=ae_.1 c;exact M
 cases a with
 |nil =>
  have e:=YJ (w0:=w0) (ρ:=ρ);refine st agk mW ((dM _)) ?_
  repeat' (first
   |(refine ad.op rfl (pl e) ?_;refine gq mW ?_)
   |refine bq (λc=>?_) (λc=>?_)<;>(try simp only[bL]at c)<;>(first|exact absurd c (by decide)|refine gq mW ?_)
   |refine bS λm g=>?_;(try rw[au]at g);refine gq mW ?_
   |refine cw λ_ _=>?_;refine gq mW ?_
   |refine ll λ_ _=>?_;refine gq mW ?_
   |refine ad.str rfl (ae.cat rfl rfl (by assumption)) λ_ _=>?_;refine gq mW ?_
   |refine ad.ao ?_;refine gq mW ?_
   |refine ad.bh ?_;refine gq mW ?_
   |(refine fq ?_))
  refine ad.aK (σ:=Int) 0 0 [] (λp=>[(4,cE ρ []),(9,.v (.int .i64 m)),(10,.v (.int .i64 p))]) [] (λ_=>[]) (λp=>p=0) (λp=>0) 0 rfl rfl cq ?_;rintro i rfl;refine gq mW ?_
  repeat' (first
   |refine bq (λc=>?_) (λc=>?_)<;>(try simp only[bL]at c)<;>(first|exact absurd c (by decide)|refine gq mW ?_)
   |refine bS λm g=>?_;(try rw[au]at g);refine gq mW ?_
   |refine cw λ_ _=>?_;refine gq mW ?_
   |refine ll λ_ _=>?_;refine gq mW ?_
   |refine ad.str rfl (ae.cat rfl rfl (by assumption)) λ_ _=>?_;refine gq mW ?_
   |refine ad.ao ?_;refine gq mW ?_
   |refine ad.bh ?_;refine gq mW ?_
   |(refine fq ?_))
  all_goals first
   |exfalso;simp only[aN_]at g;omega
   |exact .refl _
 |cons x0 z =>
 have e:=YK (w0:=w0) (ρ:=ρ) x0 z d;obtain⟨a,A⟩:∃a,a=x0::z:=⟨_,rfl⟩;rw[<-A]at e d v ⊢;clear A;obtain⟨R,B⟩:∃R,R=a.map (rQ k):=⟨_,rfl⟩;rw[<-B];obtain⟨O,P⟩:∃n,n=a.length:=⟨_,rfl⟩;rw[<-P]at e;refine st agk mW ((dM _)) ?_;refine ad.op rfl (ae.jK [] [(0,some (.arr 3 (ρ.h (List.map (jf ρ)) a) 0 false))] e rfl ⟨.pure (dM _),trivial⟩ (.gr rfl) trivial ⟨⟨0,_,rfl,rfl,.pure (ajT _)⟩,trivial⟩) ?_;refine gq mW ?_;refine ad.int rfl (ae.iz rfl) λm g=>?_;refine gq mW ?_
 refine ad.aK (σ:=Int × List Gl) 1 1 [] (λp=>[(1,.ip [.fn (.func 75) [] [.ip [iv k]]]),(4,.gr 0 3 O),(9,.v (.int .i64 m)),(10,.v (.int .i64 p.1))]) [] (λp=>[(0,.arr 3 (ρ.h (List.map (jf ρ)) p.2) 0 false)])
  (λp=>∃j:Nat,p.1=j/\j<=a.length/\p.2.length=a.length/\p.2=(a.take j).map (rQ k)++a.drop j) (λp=>a.length - p.1.toNat) (0,a) ⟨0,rfl,by simp,rfl,by simp⟩ rfl cz ?_
 rintro⟨i,o⟩ ⟨j,r,U,C,q⟩;simp only at r C q;refine gq mW ?_;refine bq (λD=>?_) (λD=>?_)<;>(try simp only[bL]at D)
 rotate_left
 ·refine gq mW ?_;refine ad.ao ?_;refine gq mW ?_;refine ad.fin (by conv=>lhs;cbv) ?_;have h:R=o:=by rw[B,q,aA_ (by omega),aQ_ (by omega),aB_]
  rw[h];exact aP.grow rfl (by omega)
 obtain⟨x,E,F⟩:=aD (l:=a) (k:=j) (by omega);have G:o[j]?=some x:=by
  have d:((a.take j).map (rQ k)).length=j:=by rw[aU_,aZ_];omega
  rw[q,be_ (by omega),d,bk_,F];rfl
 have V:j < a.length:=by omega
 have s:=Kj (w0:=w0) (ρ:=ρ) k x.a (v x (bM E));obtain⟨y,H⟩:∃y,y=rQ k x:=⟨_,rfl⟩;obtain⟨I,J,Q⟩:=x;simp only at s;obtain⟨Y,K⟩:∃Y,Y=Q.map (mU k):=⟨_,rfl⟩;rw[<-K]at s;have t:y=⟨I,J,Y⟩:=by rw[H,rQ,K]
 have u:=bW (ρ:=ρ) (f:=jf ρ) G;rw[jf]at u;simp only at u;refine gq mW ?_;refine ad.op rfl (ae.dg rfl rfl r (by omega)) ?_;refine ad.op rfl (ae.quiet rfl) ?_;refine ad.op rfl (ae.fk rfl rfl u rfl) ?_;refine gq mW ?_;refine ad.op rfl (pl s) ?_;refine gq mW ?_;refine ad.op rfl (ae.dg rfl rfl r (by omega)) ?_;refine ad.op rfl (ae.quiet rfl) ?_;refine ad.YG (f:=jf ρ) (y:=⟨I,J,Y⟩) rfl rfl rfl G rfl rfl rfl (by exact ac_ _) (λS L=>?_);refine gq mW ?_;refine cw (λT W=>?_);refine gq mW ?_;refine ad.az (σ:=Int × List Gl) (T,S) [] ⟨j+1,by simp only;omega,by omega,by simp only;rw[L,aV_];exact C,?_⟩ ?_ cz
 ·simp only;have d:((a.take j).map (rQ k)).length=j:=by rw[aU_,aZ_];omega
  rw[L,<-t,q,bC_ _ _ (by omega),d,bk_,F,bW_,bF_,E,aM_,H];simp
 ·simp only;omega
theorem Pu (k:Int) (r:Rl) (h1:r.aM.length<=100000000000) (h2:r.rem.length<=100000000000) (h3:r.guard.length<=100000000000) (h4:r.body.length<=100000000000) (h:∀x ∈ r.aM,bp x.a<=100000000000) (i:∀x ∈ r.rem,bp x.a<=100000000000) (j:∀x ∈ r.guard,bp x.a<=100000000000) (l:∀x ∈ r.body,bp x.a<=100000000000) :
  ah Tryz.prog w0 15 [rl ρ r,iv k] (rl ρ (nW k r)):=by
 have c:=Vy (w0:=w0) (ρ:=ρ) k r.aM h1 h;have d:=Vy (w0:=w0) (ρ:=ρ) k r.rem h2 i;have e:=Vz (w0:=w0) (ρ:=ρ) k r.guard h3 j;have f:=Vz (w0:=w0) (ρ:=ρ) k r.body h4 l;have g:=anY (w0:=w0) k;have s:=um k;have u:Pure (.ip [.fn (.func 75) [] [.ip [iv k]]]):=.ip λb g=>by obtain rfl:=ae_.1 g;exact s
 obtain⟨R,a⟩:∃R,R=nW k r:=⟨_,rfl⟩;rw[<-a];unfold nW at a;obtain⟨n,v,w,y,z,A⟩:=r;simp only at c d e f a;obtain⟨B,m⟩:∃x,x=v.map (ou k):=⟨_,rfl⟩;obtain⟨C,o⟩:∃x,x=w.map (ou k):=⟨_,rfl⟩;obtain⟨D,p⟩:∃x,x=y.map (rQ k):=⟨_,rfl⟩;obtain⟨E,q⟩:∃x,x=z.map (rQ k):=⟨_,rfl⟩;rw[<-m]at c a;rw[<-o]at d a;rw[<-p]at e a;rw[<-q]at f a;clear m o p q h1 h2 h3 h4 h i j l;subst a;refine st an0 On ((fQ _)) ?_;refine ad.op rfl (pl g) ?_;refine ad.yd On 2 (by conv=>lhs;cbv) ?_;refine ad.uC (Cv.an1 (t:=5) rfl rfl) ?_;refine gq On ?_;refine ad.cP rfl (λT=>pl c) ?_;refine gq On ?_;refine ad.cP rfl (λT=>pl d) ?_;refine gq On ?_;refine ad.cP rfl (λT=>pl e) ?_;refine gq On ?_;refine ad.cP rfl (λT=>pl f) ?_;refine gq On ?_;refine ad.fin (by conv=>lhs;cbv) ?_;exact .refl _
end
end
end Go.Proofs.YtbpabjmnhggajaaGreat
