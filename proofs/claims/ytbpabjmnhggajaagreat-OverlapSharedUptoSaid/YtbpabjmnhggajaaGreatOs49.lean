import Derived.Test.YtbpabjmnhggajaaGreatOs48
namespace Go.Proofs.YtbpabjmnhggajaaGreat
set_option linter.unusedVariables false
set_option linter.unusedSimpArgs false
open Go.RowKit
section
set_option maxRecDepth 100000
attribute [local irreducible] ah aC af ad
def Ub:FQ 35 Tryz.f35:=a_ Tryz.func35 Tryz.call35
def GZ:List Nat:=[0,2,4]
def Uc:FQ 38 Tryz.f38:=a_ Tryz.func38 Tryz.call38
def G0:List Nat:=[0,2,4]
def abo:FQ 34 Tryz.f34:=a_ Tryz.func34 Tryz.call34
def kU:List Nat:=[4,10,5,3,0,9,11,1]
def abp:FQ 37 Tryz.f37:=a_ Tryz.func37 Tryz.call37
def kV:List Nat:=[4,10,5,3,0,9,11,1]
def ai8:FQ 15 Tryz.f15:=a_ Tryz.func15 Tryz.call15
def Ke:List Nat:=[2,4,5,6,7,0,1]
def wD (k:Int) (x:At):At:=⟨x.n,x.a.map (sv k)⟩
def vh (k:Int) (x:Gl):Gl:=⟨x.op,x.n,x.a.map (sv k)⟩
def vI (k:Int) (r:Rl):Rl:=⟨r.n,r.aU.map (wD k),r.rem.map (wD k),r.guard.map (vh k),r.body.map (vh k),r.vars⟩
section
variable {P:Program}{w0:World}{rd dr:Bool}{n:Nat}{Q:Exit->AA->ae->Prop}{α:AA}{S:ae}{l:List QI}{K:List ff}{T:Type}{ρ:Hd}{f:T->List AV}
theorem ad.abq {dd:Option Nat}{gg:Option (Nat × Bool)}{m:Nat}{x b:QO}{k i j:Nat}{ex:Bool}{met:List T}{x0 y:T}{sz:Nat}(hw:bm α.tm gg=some true) (hx:x.ev α.tm=.pt k sz i j) (hk:S.get k=some (.arr sz (ρ.h (List.map f) met) 0 ex)) (h0:met[i]?=some x0) (hb:mF (f x0) j (aL (b.ev α.tm))=f y) (hc:(aL (b.ev α.tm)).all bO=true) (hm:m=(aL (b.ev α.tm)).length) (hj:j+(aL (b.ev α.tm)).length<=(f x0).length)
  (kk:∀ IV,IV=met.set i y->ad P w0 rd n Q (.aN dr l K) (bC dd α (.v undef)) (S.set k (some (.arr sz (ρ.h (List.map f) IV) 0 ex)))):ad P w0 rd n Q (.aN dr (⟨dd,gg,.store m x b⟩::l) K) α S:=by
 have h:=kk _ rfl;have DF:(ρ.h (List.map f) met)[i]?=some (f x0):=fN h0;have e:(ρ.h (List.map f) met).set i (mF (f x0) j (aL (b.ev α.tm)))=ρ.h (List.map f) (met.set i y):=by
  rw[hb,ρ.eq,ρ.eq,List.map_set]
 rw[<-e] at h;exact ad.op (i:=⟨dd,gg,.store m x b⟩) hw (af.Z5 hx hk hc hm DF hj) h
theorem Cv.ai9 {t k sz fz:Nat}{row:List AV}{ex:Bool}(hk:S.get k=some (.arr sz [row] fz ex)) (ht:α.tm t=.pt k sz 0 0):Cv w0 n α S ⟨a7 α.tm t (.ip row),α.df⟩ (S.set k none):=by
 have hg:∀ j o,(ae.none_.set k (some (.arr sz [row] fz ex))).get j=some o->j=k/\o=.arr sz [row] fz ex:=fun j o hj=>by
  have hj:a7 (fun _=>none) k (some (Ob.arr sz [row] fz ex)) j=some o:=hj;by_cases e:j=k
  ·subst e;rw[az] at hj;exact⟨rfl,(oJ_ hj).symm⟩
  ·rw[aD _ _ e] at hj;cases hj
 refine Cv.aad (N:=ae.none_.set k (some (.arr sz [row] fz ex))) (S':=S.set k none) (fun j o hj=>?_) (Nat.le_refl _) (fun j o hj=>?_) (by rw[ht];intro h;cases h) ?_
 ·obtain⟨rfl,rfl⟩:=hg j o hj;exact hk
 ·have hj:a7 S.get k none j=some o:=hj;by_cases e:j=k
  ·subst e;rw[az] at hj;cases hj
  ·rw[aD _ _ e] at hj;refine⟨hj,?_⟩;show a7 (fun _=>none) k _ j=none;rw[aD _ _ e]
 ·rw[ht];refine aR.pt (row:=row) (az _ _ _) rfl (by omega) fun q a a' h1 h2=>?_;rw[Nat.zero_add,h2] at h1;obtain rfl:=oJ_ h1;exact .refl _
end
section
variable {w0:World}{ρ:Hd}
theorem On {B sz:Nat}{ex:Bool}(l:List At):fR B (.arr sz (ρ.h (List.map (atR ρ)) l) 0 ex):=eO fun x _ a ha=>wQ x a ha
theorem aeY (l:List At):∀ row ∈ ρ.h (List.map (atR ρ)) l,∀ a ∈ row,Pure a:=by
 rw[ρ.eq];intro row hr a ha;obtain⟨x,_,rfl⟩:=List.mem_map.1 hr;exact wQ x a ha
theorem Oo (A:Option Addr) (c:Nat):ah Tryz.prog w0 35 [.v (.slice A 0 c)] (.sl true []):=by
 cases A with
 |none =>
  refine st Ub GZ ((.sl fun r h=>by cases h)) ?_;refine ad.op rfl (af.nil (b:=true) rfl rfl) ?_;refine gq GZ ?_;refine fq ?_;exact .refl _
 |some A =>
  refine st Ub GZ ((.sl fun r h=>by cases h)) ?_;refine ad.op rfl (af.nil (b:=false) rfl rfl) ?_;refine gq GZ ?_;refine ad.op rfl (af.DR rfl rfl) ?_;refine gq GZ ?_;refine fq ?_;exact .refl _
theorem Ud:ah Tryz.prog w0 35 [dy ρ []] (dy ρ []):=by
 have h:ah Tryz.prog w0 35 [dy ρ []] (.sl true []):=by
  rw[dy,bQ];exact ah.emp Oo
 exact ah.fz h (fun S=>by rw[dy,bQ];exact aR.wk) (b_ _)
theorem Ue (x:At) (l:List At) (hl:(x::l).length<=100000000000):aC Tryz.prog w0 35 [dy ρ (x::l)] (aq [] 0) (.gr 0 2 (x::l).length) (aq [(0,.arr 2 (ρ.h (List.map (atR ρ)) (x::l)) 0 false)] 1):=by
 obtain⟨R,hR⟩:∃ R,R=x::l:=⟨_,rfl⟩;have tt:xd (aX ρ (atR ρ) false R)=some false:=by rw[hR,bQ];rfl
 rw[<-hR] at hl ⊢;unfold dy;refine sc 0 1 Ub ?_;refine gq GZ ?_;refine ad.op rfl (af.nil tt rfl) ?_;refine gq GZ ?_;refine ad.Hf (f:=atR ρ) (ys:=R) rfl rfl rfl (fun _=>rfl) (by omega) fun acc len jP hlen=>?_;have hlen:len=R.length:=by rw[hlen,jP]
 subst jP;rw[<-hlen];refine gq GZ ?_;refine fq ?_;exact⟨[(0,0)],.iR rfl rfl,⟨.inl ⟨_,rfl,.same (On _)⟩,trivial⟩,rfl⟩
theorem Q1 (k:Int) (a:List At) (hl:a.length<=100000000000) (hs:∀ x ∈ a,bP x.a<=100000000000) :
  ah Tryz.prog w0 34 [dy ρ a,.ip [.fn (.func 75) [] [.ip [iv k]]]] (dy ρ (a.map (wD k))):=by
 have vf:=qL k;have Mc:Pure (.ip [.fn (.func 75) [] [.ip [iv k]]]):=.ip fun b hb=>by obtain rfl:=List.mem_singleton.1 hb;exact vf
 cases a with
 |nil =>
  have hc:=Ud (w0:=w0) (ρ:=ρ);refine st abo kU ((b_ _)) ?_
  repeat' (first
   |(refine ad.op rfl (af.aw rfl hc ⟨b_ _,trivial⟩) ?_;refine gq kU ?_)
   |refine bq (fun hb=>?_) (fun hb=>?_)<;>(try simp only[bX] at hb)<;>(first|exact absurd hb (by decide)|refine gq kU ?_)
   |refine cF fun m hm=>?_;(try rw[aE] at hm);refine gq kU ?_
   |refine cz fun _ _=>?_;refine gq kU ?_
   |refine mg fun _ _=>?_;refine gq kU ?_
   |refine ad.str rfl (af.cat rfl rfl (by assumption)) fun _ _=>?_;refine gq kU ?_
   |refine ad.aH ?_;refine gq kU ?_
   |refine ad.cP ?_;refine gq kU ?_
   |(refine fq ?_))
  refine ad.bu (σ:=Int) 0 0 [] (fun p=>[(4,dy ρ []),(9,.v (.int .i64 m)),(10,.v (.int .i64 p))]) [] (fun _=>[]) (fun p=>p=0) (fun p=>0) 0 rfl rfl cq ?_;rintro i rfl;refine gq kU ?_
  repeat' (first
   |refine bq (fun hb=>?_) (fun hb=>?_)<;>(try simp only[bX] at hb)<;>(first|exact absurd hb (by decide)|refine gq kU ?_)
   |refine cF fun m hm=>?_;(try rw[aE] at hm);refine gq kU ?_
   |refine cz fun _ _=>?_;refine gq kU ?_
   |refine mg fun _ _=>?_;refine gq kU ?_
   |refine ad.str rfl (af.cat rfl rfl (by assumption)) fun _ _=>?_;refine gq kU ?_
   |refine ad.aH ?_;refine gq kU ?_
   |refine ad.cP ?_;refine gq kU ?_
   |(refine fq ?_))
  all_goals first
   |exfalso;simp only[List.length_nil] at hm;omega
   |exact .refl _
 |cons x0 l0 =>
 have hc:=Ue (w0:=w0) (ρ:=ρ) x0 l0 hl;obtain⟨a,ha⟩:∃ a,a=x0::l0:=⟨_,rfl⟩;rw[<-ha] at hc hl hs ⊢;clear ha;obtain⟨R,hR⟩:∃ R,R=a.map (wD k):=⟨_,rfl⟩;rw[<-hR];obtain⟨al,aK⟩:∃ n,n=a.length:=⟨_,rfl⟩;rw[<-aK] at hc;refine st abo kU ((b_ _)) ?_;refine ad.op rfl (af.kC [] [(0,some (.arr 2 (ρ.h (List.map (atR ρ)) a) 0 false))] hc rfl ⟨.pure (b_ _),trivial⟩ (.gr rfl) trivial ⟨⟨0,_,rfl,rfl,.pure (aeY _)⟩,trivial⟩) ?_;refine gq kU ?_;refine ad.int rfl (af.pE rfl) fun m hm=>?_;refine gq kU ?_
 refine ad.bu (σ:=Int × List At) 1 1 [] (fun p=>[(1,.ip [.fn (.func 75) [] [.ip [iv k]]]),(4,.gr 0 2 al),(9,.v (.int .i64 m)),(10,.v (.int .i64 p.1))]) [] (fun p=>[(0,.arr 2 (ρ.h (List.map (atR ρ)) p.2) 0 false)])
  (fun p=>∃ j:Nat,p.1=j/\j<=a.length/\p.2.length=a.length/\p.2=(a.take j).map (wD k)++a.drop j) (fun p=>a.length - p.1.toNat) (0,a) ⟨0,rfl,by simp,rfl,by simp⟩ rfl (by exact⟨sq,rfl,⟨.inl ⟨_,rfl,.same (On _)⟩,trivial⟩,rfl,rfl,rfl⟩) ?_
 rintro⟨i,cur⟩ ⟨j,hi,hk,jz,hp⟩;simp only at hi jz hp;refine gq kU ?_;refine bq (fun b8=>?_) (fun b8=>?_)<;>(try simp only[bX] at b8)
 rotate_left
 ·refine gq kU ?_;refine ad.aH ?_;refine gq kU ?_;refine ad.fin (by conv=>lhs;cbv) ?_;have h:R=cur:=by rw[hR,hp,List.drop_of_length_le (by omega),List.take_of_length_le (by omega),List.append_nil]
  rw[h];exact aR.grow rfl (by omega)
 obtain⟨x,hx,bK⟩:=bf (l:=a) (k:=j) (by omega);have i_:cur[j]?=some x:=by
  have hl:((a.take j).map (wD k)).length=j:=by rw[List.length_map,List.length_take];omega
  rw[hp,List.getElem?_append_right (by omega),hl,Nat.sub_self,bK];rfl
 have uZ:j < a.length:=by omega
 have c_:=GY (w0:=w0) (ρ:=ρ) k x.a (hs x (eU hx));obtain⟨y,hy⟩:∃ y,y=wD k x:=⟨_,rfl⟩;obtain⟨xn,xa⟩:=x;simp only at c_;obtain⟨Y,hY⟩:∃ Y,Y=xa.map (sv k):=⟨_,rfl⟩;rw[<-hY] at c_;have hyY:y=⟨xn,Y⟩:=by rw[hy,wD,hY]
 have rx:=fN (ρ:=ρ) (f:=atR ρ) i_;rw[atR] at rx;simp only at rx;refine gq kU ?_;refine ad.op rfl (af.jM rfl rfl hi (by omega)) ?_;refine ad.op rfl (af.quiet rfl) ?_;refine ad.op rfl (af.pP rfl rfl rx rfl) ?_;refine gq kU ?_;refine ad.op rfl (af.aw rfl c_ ⟨aS _,vf,trivial⟩) ?_;refine gq kU ?_;refine ad.op rfl (af.jM rfl rfl hi (by omega)) ?_;refine ad.op rfl (af.quiet rfl) ?_;refine ad.abq (f:=atR ρ) (y:=⟨xn,Y⟩) rfl rfl rfl i_ rfl rfl rfl (by exact Nat.le_refl _) (fun Cz sQ=>?_);refine gq kU ?_;refine cz (fun i3 iC=>?_);refine gq kU ?_;refine ad.aO (σ:=Int × List At) (i3,Cz) [] ⟨j+1,by simp only;omega,by omega,by simp only;rw[sQ,List.length_set];exact jz,?_⟩ ?_ (by exact⟨sq,rfl,⟨.inl ⟨_,rfl,.same (On _)⟩,trivial⟩,rfl,rfl,rfl⟩)
 ·simp only;have hl:((a.take j).map (wD k)).length=j:=by rw[List.length_map,List.length_take];omega
  rw[sQ,<-hyY,hp,List.set_append_right _ _ (by omega),hl,Nat.sub_self,bK,List.set_cons_zero,List.take_add_one,hx,List.map_append,hy];simp
 ·simp only;omega
theorem Oq {B sz:Nat}{ex:Bool}(l:List Gl):fR B (.arr sz (ρ.h (List.map (nJ ρ)) l) 0 ex):=eO fun x _ a ha=>jC x a ha
theorem aeZ (l:List Gl):∀ row ∈ ρ.h (List.map (nJ ρ)) l,∀ a ∈ row,Pure a:=by
 rw[ρ.eq];intro row hr a ha;obtain⟨x,_,rfl⟩:=List.mem_map.1 hr;exact jC x a ha
theorem Ot (A:Option Addr) (c:Nat):ah Tryz.prog w0 38 [.v (.slice A 0 c)] (.sl true []):=by
 cases A with
 |none =>
  refine st Uc G0 ((.sl fun r h=>by cases h)) ?_;refine ad.op rfl (af.nil (b:=true) rfl rfl) ?_;refine gq G0 ?_;refine fq ?_;exact .refl _
 |some A =>
  refine st Uc G0 ((.sl fun r h=>by cases h)) ?_;refine ad.op rfl (af.nil (b:=false) rfl rfl) ?_;refine gq G0 ?_;refine ad.op rfl (af.DR rfl rfl) ?_;refine gq G0 ?_;refine fq ?_;exact .refl _
theorem Uf:ah Tryz.prog w0 38 [cX ρ []] (cX ρ []):=by
 have h:ah Tryz.prog w0 38 [cX ρ []] (.sl true []):=by
  rw[cX,bQ];exact ah.emp Ot
 exact ah.fz h (fun S=>by rw[cX,bQ];exact aR.wk) (cL _)
theorem Ug (x:Gl) (l:List Gl) (hl:(x::l).length<=100000000000):aC Tryz.prog w0 38 [cX ρ (x::l)] (aq [] 0) (.gr 0 3 (x::l).length) (aq [(0,.arr 3 (ρ.h (List.map (nJ ρ)) (x::l)) 0 false)] 1):=by
 obtain⟨R,hR⟩:∃ R,R=x::l:=⟨_,rfl⟩;have tt:xd (aX ρ (nJ ρ) false R)=some false:=by rw[hR,bQ];rfl
 rw[<-hR] at hl ⊢;unfold cX;refine sc 0 1 Uc ?_;refine gq G0 ?_;refine ad.op rfl (af.nil tt rfl) ?_;refine gq G0 ?_;refine ad.Hf (f:=nJ ρ) (ys:=R) rfl rfl rfl (fun _=>rfl) (by omega) fun acc len jP hlen=>?_;have hlen:len=R.length:=by rw[hlen,jP]
 subst jP;rw[<-hlen];refine gq G0 ?_;refine fq ?_;exact⟨[(0,0)],.iR rfl rfl,⟨.inl ⟨_,rfl,.same (Oq _)⟩,trivial⟩,rfl⟩
theorem Q2 (k:Int) (a:List Gl) (hl:a.length<=100000000000) (hs:∀ x ∈ a,bP x.a<=100000000000) :
  ah Tryz.prog w0 37 [cX ρ a,.ip [.fn (.func 75) [] [.ip [iv k]]]] (cX ρ (a.map (vh k))):=by
 have vf:=qL k;have Mc:Pure (.ip [.fn (.func 75) [] [.ip [iv k]]]):=.ip fun b hb=>by obtain rfl:=List.mem_singleton.1 hb;exact vf
 cases a with
 |nil =>
  have hc:=Uf (w0:=w0) (ρ:=ρ);refine st abp kV ((cL _)) ?_
  repeat' (first
   |(refine ad.op rfl (af.aw rfl hc ⟨cL _,trivial⟩) ?_;refine gq kV ?_)
   |refine bq (fun hb=>?_) (fun hb=>?_)<;>(try simp only[bX] at hb)<;>(first|exact absurd hb (by decide)|refine gq kV ?_)
   |refine cF fun m hm=>?_;(try rw[aE] at hm);refine gq kV ?_
   |refine cz fun _ _=>?_;refine gq kV ?_
   |refine mg fun _ _=>?_;refine gq kV ?_
   |refine ad.str rfl (af.cat rfl rfl (by assumption)) fun _ _=>?_;refine gq kV ?_
   |refine ad.aH ?_;refine gq kV ?_
   |refine ad.cP ?_;refine gq kV ?_
   |(refine fq ?_))
  refine ad.bu (σ:=Int) 0 0 [] (fun p=>[(4,cX ρ []),(9,.v (.int .i64 m)),(10,.v (.int .i64 p))]) [] (fun _=>[]) (fun p=>p=0) (fun p=>0) 0 rfl rfl cq ?_;rintro i rfl;refine gq kV ?_
  repeat' (first
   |refine bq (fun hb=>?_) (fun hb=>?_)<;>(try simp only[bX] at hb)<;>(first|exact absurd hb (by decide)|refine gq kV ?_)
   |refine cF fun m hm=>?_;(try rw[aE] at hm);refine gq kV ?_
   |refine cz fun _ _=>?_;refine gq kV ?_
   |refine mg fun _ _=>?_;refine gq kV ?_
   |refine ad.str rfl (af.cat rfl rfl (by assumption)) fun _ _=>?_;refine gq kV ?_
   |refine ad.aH ?_;refine gq kV ?_
   |refine ad.cP ?_;refine gq kV ?_
   |(refine fq ?_))
  all_goals first
   |exfalso;simp only[List.length_nil] at hm;omega
   |exact .refl _
 |cons x0 l0 =>
 have hc:=Ug (w0:=w0) (ρ:=ρ) x0 l0 hl;obtain⟨a,ha⟩:∃ a,a=x0::l0:=⟨_,rfl⟩;rw[<-ha] at hc hl hs ⊢;clear ha;obtain⟨R,hR⟩:∃ R,R=a.map (vh k):=⟨_,rfl⟩;rw[<-hR];obtain⟨al,aK⟩:∃ n,n=a.length:=⟨_,rfl⟩;rw[<-aK] at hc;refine st abp kV ((cL _)) ?_;refine ad.op rfl (af.kC [] [(0,some (.arr 3 (ρ.h (List.map (nJ ρ)) a) 0 false))] hc rfl ⟨.pure (cL _),trivial⟩ (.gr rfl) trivial ⟨⟨0,_,rfl,rfl,.pure (aeZ _)⟩,trivial⟩) ?_;refine gq kV ?_;refine ad.int rfl (af.pE rfl) fun m hm=>?_;refine gq kV ?_
 refine ad.bu (σ:=Int × List Gl) 1 1 [] (fun p=>[(1,.ip [.fn (.func 75) [] [.ip [iv k]]]),(4,.gr 0 3 al),(9,.v (.int .i64 m)),(10,.v (.int .i64 p.1))]) [] (fun p=>[(0,.arr 3 (ρ.h (List.map (nJ ρ)) p.2) 0 false)])
  (fun p=>∃ j:Nat,p.1=j/\j<=a.length/\p.2.length=a.length/\p.2=(a.take j).map (vh k)++a.drop j) (fun p=>a.length - p.1.toNat) (0,a) ⟨0,rfl,by simp,rfl,by simp⟩ rfl (by exact⟨sq,rfl,⟨.inl ⟨_,rfl,.same (Oq _)⟩,trivial⟩,rfl,rfl,rfl⟩) ?_
 rintro⟨i,cur⟩ ⟨j,hi,hk,jz,hp⟩;simp only at hi jz hp;refine gq kV ?_;refine bq (fun b8=>?_) (fun b8=>?_)<;>(try simp only[bX] at b8)
 rotate_left
 ·refine gq kV ?_;refine ad.aH ?_;refine gq kV ?_;refine ad.fin (by conv=>lhs;cbv) ?_;have h:R=cur:=by rw[hR,hp,List.drop_of_length_le (by omega),List.take_of_length_le (by omega),List.append_nil]
  rw[h];exact aR.grow rfl (by omega)
 obtain⟨x,hx,bK⟩:=bf (l:=a) (k:=j) (by omega);have i_:cur[j]?=some x:=by
  have hl:((a.take j).map (vh k)).length=j:=by rw[List.length_map,List.length_take];omega
  rw[hp,List.getElem?_append_right (by omega),hl,Nat.sub_self,bK];rfl
 have uZ:j < a.length:=by omega
 have c_:=GY (w0:=w0) (ρ:=ρ) k x.a (hs x (eU hx));obtain⟨y,hy⟩:∃ y,y=vh k x:=⟨_,rfl⟩;obtain⟨xo,xn,xa⟩:=x;simp only at c_;obtain⟨Y,hY⟩:∃ Y,Y=xa.map (sv k):=⟨_,rfl⟩;rw[<-hY] at c_;have hyY:y=⟨xo,xn,Y⟩:=by rw[hy,vh,hY]
 have rx:=fN (ρ:=ρ) (f:=nJ ρ) i_;rw[nJ] at rx;simp only at rx;refine gq kV ?_;refine ad.op rfl (af.jM rfl rfl hi (by omega)) ?_;refine ad.op rfl (af.quiet rfl) ?_;refine ad.op rfl (af.pP rfl rfl rx rfl) ?_;refine gq kV ?_;refine ad.op rfl (af.aw rfl c_ ⟨aS _,vf,trivial⟩) ?_;refine gq kV ?_;refine ad.op rfl (af.jM rfl rfl hi (by omega)) ?_;refine ad.op rfl (af.quiet rfl) ?_;refine ad.abq (f:=nJ ρ) (y:=⟨xo,xn,Y⟩) rfl rfl rfl i_ rfl rfl rfl (by exact Nat.le_refl _) (fun Cz sQ=>?_);refine gq kV ?_;refine cz (fun i3 iC=>?_);refine gq kV ?_;refine ad.aO (σ:=Int × List Gl) (i3,Cz) [] ⟨j+1,by simp only;omega,by omega,by simp only;rw[sQ,List.length_set];exact jz,?_⟩ ?_ (by exact⟨sq,rfl,⟨.inl ⟨_,rfl,.same (Oq _)⟩,trivial⟩,rfl,rfl,rfl⟩)
 ·simp only;have hl:((a.take j).map (vh k)).length=j:=by rw[List.length_map,List.length_take];omega
  rw[sQ,<-hyY,hp,List.set_append_right _ _ (by omega),hl,Nat.sub_self,bK,List.set_cons_zero,List.take_add_one,hx,List.map_append,hy];simp
 ·simp only;omega
theorem KV (k:Int) (r:Rl) (h1:r.aU.length<=100000000000) (h2:r.rem.length<=100000000000) (h3:r.guard.length<=100000000000) (h4:r.body.length<=100000000000) (s1:∀ x ∈ r.aU,bP x.a<=100000000000) (s2:∀ x ∈ r.rem,bP x.a<=100000000000) (s3:∀ x ∈ r.guard,bP x.a<=100000000000) (s4:∀ x ∈ r.body,bP x.a<=100000000000) :
  ah Tryz.prog w0 15 [rl ρ r,iv k] (rl ρ (vI k r)):=by
 have c1:=Q1 (w0:=w0) (ρ:=ρ) k r.aU h1 s1;have c2:=Q1 (w0:=w0) (ρ:=ρ) k r.rem h2 s2;have c3:=Q2 (w0:=w0) (ρ:=ρ) k r.guard h3 s3;have c4:=Q2 (w0:=w0) (ρ:=ρ) k r.body h4 s4;have hb:=ai7 (w0:=w0) k;have vf:=qL k;have Mc:Pure (.ip [.fn (.func 75) [] [.ip [iv k]]]):=.ip fun b hb=>by obtain rfl:=List.mem_singleton.1 hb;exact vf
 obtain⟨R,hR⟩:∃ R,R=vI k r:=⟨_,rfl⟩;rw[<-hR];unfold vI at hR;obtain⟨n,ke,re,gu,bo,va⟩:=r;simp only at c1 c2 c3 c4 hR;obtain⟨a1,e1⟩:∃ x,x=ke.map (wD k):=⟨_,rfl⟩;obtain⟨a2,e2⟩:∃ x,x=re.map (wD k):=⟨_,rfl⟩;obtain⟨a3,e3⟩:∃ x,x=gu.map (vh k):=⟨_,rfl⟩;obtain⟨a4,e4⟩:∃ x,x=bo.map (vh k):=⟨_,rfl⟩;rw[<-e1] at c1 hR;rw[<-e2] at c2 hR;rw[<-e3] at c3 hR;rw[<-e4] at c4 hR;clear e1 e2 e3 e4 h1 h2 h3 h4 s1 s2 s3 s4;subst hR;refine st ai8 Ke ((nA _)) ?_;refine ad.op rfl (af.aw rfl hb ⟨.v,trivial⟩) ?_;refine ad.yQ Ke 2 (by conv=>lhs;cbv) ?_;refine ad.La (Cv.ai9 (t:=5) rfl rfl) ?_;refine gq Ke ?_;refine ad.fe rfl (fun T=>af.aw rfl c1 ⟨b_ _,Mc,trivial⟩) ?_;refine gq Ke ?_;refine ad.fe rfl (fun T=>af.aw rfl c2 ⟨b_ _,Mc,trivial⟩) ?_;refine gq Ke ?_;refine ad.fe rfl (fun T=>af.aw rfl c3 ⟨cL _,Mc,trivial⟩) ?_;refine gq Ke ?_;refine ad.fe rfl (fun T=>af.aw rfl c4 ⟨cL _,Mc,trivial⟩) ?_;refine gq Ke ?_;refine ad.fin (by conv=>lhs;cbv) ?_;exact .refl _
end
end
end Go.Proofs.YtbpabjmnhggajaaGreat
