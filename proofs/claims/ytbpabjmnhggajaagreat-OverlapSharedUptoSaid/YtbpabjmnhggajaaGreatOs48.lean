import Derived.Test.YtbpabjmnhggajaaGreatOs47
namespace Go.Proofs.YtbpabjmnhggajaaGreat
set_option linter.unusedVariables false
set_option linter.unusedSimpArgs false
open Go.RowKit
section
set_option maxRecDepth 100000
attribute [local irreducible] ah aC af ad
def ai4:FQ 75 Tryz.f75:=a_ Tryz.func75 Tryz.call75
def g75:List Nat:=[1,0,3,21]
def ai5:FQ 33 Tryz.f33:=a_ Tryz.func33 Tryz.call33
def g33:List Nat:=[2,0,1]
def ai6:FQ 77 Tryz.f77:=a_ Tryz.func77 Tryz.call77
def V8:List Nat:=[2,4,6,1,0,7,14]
def abn:FQ 36 Tryz.f36:=a_ Tryz.func36 Tryz.call36
def ru:List Nat:=[5,11,6,4,0,10,12,1]
def QZ (k n:Int):Int:=if (0 < k/\IntKind.i64.wrap (9223372036854775807 - k) < n)\/(k < 0/\n < IntKind.i64.wrap (-9223372036854775808 - k)) then n else IntKind.i64.wrap (n+k)
mutual
def sv (k:Int):Tm->Tm
 |⟨kd,i,n,a⟩=>if kd=1 then ⟨kd,QZ k i,n,a⟩ else if kd=2 then ⟨kd,i,n,xH k a⟩ else ⟨kd,i,n,a⟩
def xH (k:Int):List Tm->List Tm
 |[]=>[]
 |x::l=>sv k x::xH k l
end
theorem qK (k:Int):∀ l,xH k l=l.map (sv k)
 |[]=>by rw[xH];rfl
 |x::l=>by rw[xH,qK k l];rfl
theorem Ak:∀ l:List Tm,l.length<=bP l
 |[]=>by grind
 |x::l=>by
  have:=Ak l;have h:=mq x;rw[bP,List.length_cons];omega
theorem qL (k:Int):Pure (.fn (.func 75) [] [.ip [iv k]]):=.fn (fun a ha=>by grind) fun a ha=>by obtain rfl:=List.mem_singleton.1 ha;exact .ip fun b hb=>by obtain rfl:=List.mem_singleton.1 hb;exact .v
section
variable {w0:World}{ρ:Hd}
theorem aeX (k n:Int):ah Tryz.prog w0 75 [iv n,.ip [iv k]] (iv (QZ k n)):=by
 obtain⟨R,hR⟩:∃ R,R=QZ k n:=⟨_,rfl⟩;rw[<-hR];unfold QZ at hR;refine st ai4 g75 .v ?_
 repeat' (first
  |refine ig g75 (af.X5 rfl rfl rfl) fun _ _=>?_
  |refine cg g75 (fun hb=>?_) fun hb=>?_
  |(refine fq ?_))
 all_goals (refine jD ?_;rw[hR];split<;>omega)
theorem ai7 (k:Int):ah Tryz.prog w0 33 [iv k] (.fn (.func 75) [] [.ip [iv k]]):=by
 refine st ai5 g33 ((qL k)) ?_
 repeat' (first
  |(refine fq ?_))
 exact aR.fns trivial ⟨aR.box (cs:=[iv k]) (cs':=[iv k]) rfl ⟨.refl _,trivial⟩,trivial⟩
theorem GX {f:Tm->Tm}{k:Int}(a:List Tm) (hl:a.length<=100000000000) (ih:∀ x ∈ a,ah Tryz.prog w0 77 [tm ρ x,.fn (.func 75) [] [.ip [iv k]]] (tm ρ (f x))) :
  ah Tryz.prog w0 36 [tl ρ a,.fn (.func 75) [] [.ip [iv k]]] (tl ρ (a.map f)):=by
 have vf:=qL k;cases a with
 |nil =>
  have hc:=J8 (w0:=w0) (ρ:=ρ);refine st abn ru ((aS _)) ?_
  repeat' (first
   |(refine og ru (af.aw rfl hc ⟨aS _,trivial⟩) ?_)
   |refine lg ru fun m hm=>?_
   )
  refine ad.bu (σ:=Int) 0 0 [] (fun p=>[(5,tl ρ []),(10,.v (.int .i64 m)),(11,.v (.int .i64 p))]) [] (fun _=>[]) (fun p=>p=0) (fun p=>0) 0 rfl rfl cq ?_;rintro i rfl;refine gq ru ?_
  repeat' (first
   |refine cg ru (fun hb=>?_) fun hb=>?_
   |refine ad.aH ?_;refine gq ru ?_
   |(refine fq ?_))
  all_goals first
   |exfalso;simp only[List.length_nil] at hm;omega
   |exact .refl _
 |cons x0 l0 =>
 have hc:=J9 (w0:=w0) (ρ:=ρ) x0 l0 hl;obtain⟨a,ha⟩:∃ a,a=x0::l0:=⟨_,rfl⟩;rw[<-ha] at hc hl ih ⊢;clear ha;obtain⟨R,hR⟩:∃ R,R=a.map f:=⟨_,rfl⟩;rw[<-hR];obtain⟨al,aK⟩:∃ n,n=a.length:=⟨_,rfl⟩;rw[<-aK] at hc;refine st abn ru ((aS _)) ?_;refine og ru (af.kC [] [(0,some (.arr 4 (ρ.h (List.map (iL ρ)) a) 0 false))] hc rfl ⟨.pure (aS _),trivial⟩ (.gr rfl) trivial ⟨⟨0,_,rfl,rfl,.pure (J7 _)⟩,trivial⟩) ?_;refine ig ru (af.pE rfl) fun m hm=>?_
 refine ad.bu (σ:=Int × List Tm) 1 1 [] (fun p=>[(1,.fn (.func 75) [] [.ip [iv k]]),(5,.gr 0 4 al),(10,.v (.int .i64 m)),(11,.v (.int .i64 p.1))]) [] (fun p=>[(0,.arr 4 (ρ.h (List.map (iL ρ)) p.2) 0 false)])
  (fun p=>∃ j:Nat,p.1=j/\j<=a.length/\p.2.length=a.length/\p.2=(a.take j).map f++a.drop j) (fun p=>a.length - p.1.toNat) (0,a) ⟨0,rfl,by simp,rfl,by simp⟩ rfl (by exact⟨sq,rfl,⟨.inl ⟨_,rfl,.same (wC _)⟩,trivial⟩,rfl,rfl,rfl⟩) ?_
 rintro⟨i,cur⟩ ⟨j,hi,hk,jz,hp⟩;simp only at hi jz hp;refine gq ru ?_;refine cn (fun b8=>?_) fun b8=>?_;rotate_left
 ·refine gq ru ?_;refine ad.aH ?_;refine gq ru ?_;refine fq ?_;have h:R=cur:=by grind
  rw[h,<-T7];exact aR.grow rfl (by omega)
 obtain⟨x,hx,bK⟩:=bf (l:=a) (k:=j) (by omega);have i_:cur[j]?=some x:=by grind
 have uZ:j < a.length:=by omega
 have c_:=ih x (eU hx);obtain⟨X,hX⟩:∃ X,X=f x:=⟨_,rfl⟩;rw[<-hX] at c_;obtain⟨xk,xi,xn,xa⟩:=x;have rx:=fN (ρ:=ρ) (f:=iL ρ) i_;rw[iL] at rx;simp only at rx;refine gq ru ?_;refine ad.op rfl (af.jM rfl rfl hi (by omega)) ?_;refine og ru (af.pP rfl rfl rx rfl) ?_;refine og ru (af.aw rfl c_ ⟨aT ⟨xk,xi,xn,xa⟩,vf,trivial⟩) ?_;refine ad.op rfl (af.jM rfl rfl hi (by omega)) ?_;refine ad.IU (f:=iL ρ) (y:=X) rfl rfl rfl rfl rfl (fun _=>rfl) rfl (by omega) (fun Cz sQ=>?_);refine gq ru ?_;refine ag ru fun i3 iC=>?_;refine ad.aO (σ:=Int × List Tm) (i3,Cz) [] ⟨j+1,by grind,by omega,by grind,?_⟩ ?_ (by exact⟨sq,rfl,⟨.inl ⟨_,rfl,.same (wC _)⟩,trivial⟩,rfl,rfl,rfl⟩)
 ·simp only;have hl:((a.take j).map f).length=j:=by grind
  rw[sQ,hp,List.set_append_right _ _ (by omega),hl,Nat.sub_self,bK,List.set_cons_zero,List.take_add_one,hx,List.map_append,hX];simp
 ·grind
theorem Q0 (k:Int) (n:Nat):∀ x:Tm,dk x<=n->n<=100000000000->ah Tryz.prog w0 77 [tm ρ x,.fn (.func 75) [] [.ip [iv k]]] (tm ρ (sv k x)):=by
 induction n with
 |zero=>intro x h;have:=mq x;omega
 |succ n ih =>
  intro x hn jb;rw[mq] at hn;have aK:=Ak x.a;have vf:=qL k;have iH:=GX (w0:=w0) (ρ:=ρ) (f:=sv k) (k:=k) x.a (by omega) fun y hy=>ih y (by have:=nB y hy;omega) (by omega);have pG:=aeX (w0:=w0) k x.i;obtain⟨R,hR⟩:∃ R,R=sv k x:=⟨_,rfl⟩;rw[<-hR];obtain⟨kd,i,nm,a⟩:=x;rw[sv,qK] at hR;simp only at iH pG hR;clear ih hn jb aK;obtain⟨A,hA⟩:∃ A,A=a.map (sv k):=⟨_,rfl⟩;rw[<-hA] at iH hR;obtain⟨B,hB⟩:∃ B,B=QZ k i:=⟨_,rfl⟩;rw[<-hB] at pG hR;refine st ai6 V8 ((aT _)) ?_
  repeat' (first
   |(refine og V8 (af.aw rfl iH ⟨aS _,vf,trivial⟩) ?_)
   |(refine og V8 (af.aw rfl pG ⟨.v,.ip fun b hb=>(by obtain rfl:=List.mem_singleton.1 hb;exact .v),trivial⟩) ?_)
   |refine cg V8 (fun hb=>?_) fun hb=>?_
   |(refine fq ?_))
  all_goals clear iH pG
  all_goals first
   |(have h:R=⟨kd,B,nm,a⟩:=by rw[hR,if_pos (by omega)]
     rw[h];exact .refl _)
   |(have h:R=⟨kd,i,nm,A⟩:=by rw[hR,if_neg (by omega),if_pos (by omega)]
     rw[h];exact .refl _)
   |(have h:R=⟨kd,i,nm,a⟩:=by rw[hR,if_neg (by omega),if_neg (by omega)]
     rw[h];exact .refl _)
theorem Ua (k:Int) (x:Tm) (hx:dk x<=100000000000):ah Tryz.prog w0 77 [tm ρ x,.fn (.func 75) [] [.ip [iv k]]] (tm ρ (sv k x)):=Q0 k _ x (Nat.le_refl _) hx
theorem GY (k:Int) (a:List Tm) (hx:bP a<=100000000000):ah Tryz.prog w0 36 [tl ρ a,.fn (.func 75) [] [.ip [iv k]]] (tl ρ (a.map (sv k))) :=
 GX a (by grind[Ak]) fun y hy=>Ua k y (by have:=nB y hy;omega)
end
end
end Go.Proofs.YtbpabjmnhggajaaGreat
