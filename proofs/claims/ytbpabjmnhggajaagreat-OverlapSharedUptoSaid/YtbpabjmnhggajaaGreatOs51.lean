import Derived.Test.YtbpabjmnhggajaaGreatOs50
namespace Go.Proofs.YtbpabjmnhggajaaGreat
set_option linter.unusedVariables false
set_option linter.unusedSimpArgs false
open Go.RowKit
section
set_option maxRecDepth 100000
attribute [local irreducible] ah aC af ad
def ajc:FQ 18 Tryz.f18:=a_ Tryz.func18 Tryz.call18
def Ao:List Nat:=[2,16,8,6,7,5,4,0,1,15,17,14]
def ajd:FQ 45 Tryz.f45:=a_ Tryz.func45 Tryz.call45
def sy:List Nat:=[12,9,6,2,7,4,5,0,1,11,13,10,18,8]
section
variable {w0:World}{ρ:Hd}
theorem OB (p:Pg) (i j:Int) (a b:Rl) (f t:List At) (l:List Int) (hl:l.length<=1000000):ah Tryz.prog w0 18 [.agg (cA ρ p i j a b f t),aX ρ aP false l] (.v (.bool (Ki i j a.aU.length b.aU.length l))):=by
 obtain⟨R,hR⟩:∃ R,R=Ki i j a.aU.length b.aU.length l:=⟨_,rfl⟩;rw[<-hR];unfold Ki at hR;have cw:=jQ (ρ:=ρ) p i j a b f t;obtain⟨ds,rs⟩:=p;obtain⟨an,ak,ar,ag,ab,av⟩:=a;obtain⟨bn,bk,br,bg,gL,bv⟩:=b;have oW:fR 1 (.arr 18 [cA ρ ⟨ds,rs⟩ i j ⟨an,ak,ar,ag,ab,av⟩ ⟨bn,bk,br,bg,gL,bv⟩ f t] 0 true):=fun r hr a ha=>by
  obtain rfl:=List.mem_singleton.1 hr;exact (cw a ha).aV
 clear cw;simp only at hR;unfold cA at oW ⊢;refine st ajc Ao .v ?_;refine ad.gen (fun e:Bool=>.v (.bool e)) rfl (af.bit rfl) fun sm0 Up=>?_;have Up:sm0=decide (i=j):=by grind
 rw[<-Up] at hR;clear Up;refine gq Ao ?_;refine cF fun m hm=>?_;rw[aE] at hm;refine gq Ao ?_;refine ad.bu (σ:=Int × Bool × Bool) 1 1 [] (fun p=>[(2,.pt 0 18 0 0),(5,.v (.bool p.2.1)),(6,.v (.bool p.2.2)),(14,aX ρ aP false l),(15,.v (.int .i64 m)),(16,.v (.int .i64 p.1))]) [] (fun _=>[(0,.arr 18 [cA ρ ⟨ds,rs⟩ i j ⟨an,ak,ar,ag,ab,av⟩ ⟨bn,bk,br,bg,gL,bv⟩ f t] 0 true)]) (fun p=>∃ z:Nat,p.1=z/\z<=l.length/\R=((p.2.1 || Kh ak.length bk.length (l.drop z) z) && !(p.2.2 && Q4 (l.drop z) z))) (fun p=>l.length - p.1.toNat) (0,false,sm0) ⟨0,rfl,by omega,by grind⟩ rfl (by exact⟨sq,rfl,⟨.inl ⟨_,rfl,.same oW⟩,trivial⟩,rfl,rfl,rfl⟩) ?_;rintro⟨i2,rm,sm⟩ ⟨z,hz,zT,hp⟩;simp only at hz hp;clear hR;unfold cA;refine gq Ao ?_;refine cn (fun b8=>?_) fun b8=>?_;rotate_left
 ·rw[List.drop_of_length_le (by omega),Kh,Q4] at hp;refine gq Ao ?_;refine ad.aH ?_;cases rm<;>cases sm
  all_goals
   refine gq Ao ?_
   repeat' (first
    |(refine fq ?_))
  all_goals (subst hp;exact .refl _)
 obtain⟨x,hx,bK⟩:=bf (l:=l) (k:=z) (by omega);rw[bK,Kh,Q4] at hp;refine gq Ao ?_;refine ad.op rfl (af.ind rfl rfl (aY (l:=l) hz hx) (aZ fun _=>rfl)) ?_;cases rm<;>cases sm
 all_goals
  refine gq Ao ?_
  repeat' (first
   |refine cg Ao (fun hb=>?_) fun hb=>?_
   |refine lg Ao fun m hm=>?_
   |refine cz fun _ _=>?_;refine gq Ao ?_
   )
 all_goals (rename_i i3 iC;first
  |refine ad.aO (σ:=Int × Bool × Bool) (i3,false,false) [] ⟨z+1,by grind,by omega,?_⟩ ?_ ⟨⟨.ao rfl (.pt (by decide)),.ao rfl .v,.ao rfl .v,.ao rfl (Pure.aV (bp _)),.ao rfl .v,.ao rfl .v,trivial⟩,rfl,⟨.inl ⟨_,rfl,.same oW⟩,trivial⟩,rfl,rfl,rfl⟩
  |refine ad.aO (σ:=Int × Bool × Bool) (i3,false,true) [] ⟨z+1,by grind,by omega,?_⟩ ?_ ⟨⟨.ao rfl (.pt (by decide)),.ao rfl .v,.ao rfl .v,.ao rfl (Pure.aV (bp _)),.ao rfl .v,.ao rfl .v,trivial⟩,rfl,⟨.inl ⟨_,rfl,.same oW⟩,trivial⟩,rfl,rfl,rfl⟩
  |refine ad.aO (σ:=Int × Bool × Bool) (i3,true,false) [] ⟨z+1,by grind,by omega,?_⟩ ?_ ⟨⟨.ao rfl (.pt (by decide)),.ao rfl .v,.ao rfl .v,.ao rfl (Pure.aV (bp _)),.ao rfl .v,.ao rfl .v,trivial⟩,rfl,⟨.inl ⟨_,rfl,.same oW⟩,trivial⟩,rfl,rfl,rfl⟩
  |refine ad.aO (σ:=Int × Bool × Bool) (i3,true,true) [] ⟨z+1,by grind,by omega,?_⟩ ?_ ⟨⟨.ao rfl (.pt (by decide)),.ao rfl .v,.ao rfl .v,.ao rfl (Pure.aV (bp _)),.ao rfl .v,.ao rfl .v,trivial⟩,rfl,⟨.inl ⟨_,rfl,.same oW⟩,trivial⟩,rfl,rfl,rfl⟩)
 all_goals first
  |simp only;omega
  |rw[hp];grind
theorem Fl {x:Tm}:∀ {F:List At}{l:List Int},x ∈ lG F l->∃ a ∈ F,x ∈ a.a
 |[],_,h=>by simp[lG] at h
 |f::F,[],h=>by simp[lG] at h
 |f::F,m::l,h=>by
  rw[lG,List.mem_append] at h;rcases h with h|h
  ·grind
  ·obtain⟨a,h1,h2⟩:=Fl h;exact⟨a,by grind,h2⟩
theorem Fm {x:Tm}{T:List At}:∀ {l:List Int},x ∈ nQ T l->∃ a ∈ T,x ∈ a.a
 |[],h=>by simp[nQ] at h
 |m::l,h=>by
  rw[nQ,List.mem_append] at h;rcases h with h|h
  ·grind
  ·exact Fm h
theorem Rc (p:Pg) (i j:Int) (a b:Rl) (f t:List At) (l:List Int) (hf:f.length<=1000) (hn:l.length=f.length) (ho:wE t l) (zh:∀ x ∈ f,su 200 x) (yg:∀ x ∈ t,su 200 x):ah Tryz.prog w0 45 [.agg (cA ρ p i j a b f t),aX ρ aP false l] (xD ρ (jk (lG f l) (nQ t l))):=by
 have wB:∀ x ∈ lG f l,x.ok:=fun x hx=>by
  obtain⟨y,h1,h2⟩:=Fl hx;exact (zh y h1).1.mem x h2
 have kO:∀ x ∈ nQ t l,x.ok:=fun x hx=>by
  obtain⟨y,h1,h2⟩:=Fm hx;exact (yg y h1).1.mem x h2
 have hU:(lG f l).length<=100000000->(nQ t l).length<=100000000->_:=fun h1 h2=>J5 (w0:=w0) (ρ:=ρ) h1 h2 wB kO;clear wB kO;obtain⟨U,hU0⟩:∃ U,U=jk (lG f l) (nQ t l):=⟨_,rfl⟩;rw[<-hU0] at hU ⊢;clear hU0;obtain⟨A,hA⟩:∃ A,A=lG f l:=⟨_,rfl⟩;obtain⟨C,hC⟩:∃ C,C=nQ t l:=⟨_,rfl⟩;rw[<-hA,<-hC] at hU;have cw:=jQ (ρ:=ρ) p i j a b f t;obtain⟨ds,rs⟩:=p;obtain⟨an,ak,ar,ag,ab,av⟩:=a;obtain⟨bn,bk,br,bg,gL,bv⟩:=b;have oW:fR 1 (.arr 18 [cA ρ ⟨ds,rs⟩ i j ⟨an,ak,ar,ag,ab,av⟩ ⟨bn,bk,br,bg,gL,bv⟩ f t] 0 true):=fun r hr a ha=>by
  obtain rfl:=List.mem_singleton.1 hr;exact (cw a ha).aV
 clear cw;unfold cA at oW ⊢;refine st ajd sy ((kD _)) ?_;refine cF fun m hm=>?_;rw[aE] at hm;refine gq sy ?_
 refine ad.bu (σ:=Int × (List Tm × Nat) × List Tm × Nat) 1 3 [] (fun p=>[(2,.pt 0 18 0 0),(6,.gr 1 4 p.2.1.2),(7,.gr 2 4 p.2.2.2),(10,aX ρ aP false l),(11,.v (.int .i64 m)),(12,.v (.int .i64 p.1))]) [] (fun p=>[(0,.arr 18 [cA ρ ⟨ds,rs⟩ i j ⟨an,ak,ar,ag,ab,av⟩ ⟨bn,bk,br,bg,gL,bv⟩ f t] 0 true),(1,grT ρ p.2.1.1),(2,grT ρ p.2.2.1)])
  (fun p=>∃ z:Nat,p.1=z/\z<=l.length/\A=p.2.1.1++lG (f.drop z) (l.drop z)/\C=p.2.2.1++nQ t (l.drop z)/\p.2.1.2=p.2.1.1.length/\p.2.2.2=p.2.2.1.length/\p.2.1.1.length<=200*z/\p.2.2.1.length<=200*z) (fun p=>l.length - p.1.toNat) (0,([],0),[],0) ⟨0,rfl,by omega,by grind,by grind,rfl,rfl,by simp,by simp⟩ rfl (by exact⟨sq,rfl,⟨.inl ⟨_,rfl,.same oW⟩,.inr rfl,.inr rfl,trivial⟩,rfl,rfl,rfl⟩) ?_
 rintro⟨i2,⟨a1,n1⟩,a2,n2⟩ ⟨z,hz,zT,ye,fU,kT,jb,lL,qY⟩;simp only at hz ye fU kT jb lL qY;clear hA hC;unfold cA;refine gq sy ?_;refine bq (fun b8=>?_) (fun b8=>?_)<;>(try simp only[bX] at b8)
 rotate_left
 ·rw[List.drop_of_length_le (l:=l) (by omega),nQ,List.append_nil] at fU;have e0:lG (f.drop z) []=[]:=by cases f.drop z<;>rfl
  rw[List.drop_of_length_le (l:=l) (by omega),e0,List.append_nil] at ye;subst ye;subst fU;have hU:=hU (by omega) (by omega);refine gq sy ?_;refine ad.aH ?_;refine gq sy ?_;refine ad.La (Cv.freeze (t:=36) rfl rfl (.inl rfl) (kT.trans (aE (ρ:=ρ) (f:=lr)).symm) (Nat.zero_le _)) ?_;refine ad.La (Cv.freeze (t:=37) rfl rfl (.inl rfl) (jb.trans (aE (ρ:=ρ) (f:=lr)).symm) (Nat.zero_le _)) ?_;refine ad.op rfl (af.aw rfl hU ⟨aS _,aS _,trivial⟩) ?_;refine gq sy ?_;refine fq ?_;exact .refl _
 clear hU;obtain⟨x,hx,bK⟩:=bf (l:=l) (k:=z) (by omega);obtain⟨y,hy,px⟩:=bf (l:=f) (k:=z) (by omega);rw[bK,px,lG] at ye;rw[bK,nQ] at fU;have Iq:=ho.1 x (List.mem_of_getElem? hx);have hy3:=(zh y (List.mem_of_getElem? hy)).2.1;obtain⟨yn,ya⟩:=y;have hy4:=o9 ya;dsimp only at ye hy3;refine gq sy ?_;refine ad.op rfl (af.ind rfl rfl (aY (l:=l) hz hx) (aZ fun _=>rfl)) ?_;refine gq sy ?_;refine bq (fun cy=>?_) (fun cy=>?_)<;>(try simp only[bX] at cy)
 rotate_left
 ·rw[if_pos cy,List.nil_append] at ye fU;refine gq sy ?_;refine cz (fun i3 iC=>?_);refine gq sy ?_;refine ad.aO (σ:=Int × (List Tm × Nat) × List Tm × Nat) (i3,(a1,n1),a2,n2) [] ⟨z+1,by grind,by omega,ye,fU,kT,jb,by grind,by grind⟩ ?_ (by exact⟨sq,rfl,⟨.inl ⟨_,rfl,.same oW⟩,.inl ⟨_,rfl,.same AY⟩,.inl ⟨_,rfl,.same AY⟩,trivial⟩,rfl,rfl,rfl⟩);simp only;omega
 rw[if_neg cy] at ye fU;obtain⟨q,hxq,hq⟩:=Iq.resolve_left cy;obtain⟨u,hu⟩:∃ u,t[q]?=some u:=⟨_,List.getElem?_eq_getElem hq⟩;rw[show x.toNat=q by omega,hu] at fU;have se:=(yg u (List.mem_of_getElem? hu)).2.1;obtain⟨un,ua⟩:=u;have hu4:=o9 ua;dsimp only at fU se;refine gq sy ?_;refine ad.op rfl (af.ind rfl rfl (aY (l:=f) hz hy) (aZ fun _=>rfl)) ?_;refine gq sy ?_;refine ad.SE (f:=lr) (ys:=ya) rfl rfl rfl kT (fun _=>rfl) rfl AJ IT (by omega) (fun b1 k1 amk dV=>?_);refine gq sy ?_;refine ad.op rfl (af.ind rfl rfl (aY (l:=t) hxq hu) (aZ fun _=>rfl)) ?_;refine gq sy ?_;refine ad.SE (f:=lr) (ys:=ua) rfl rfl rfl jb (fun _=>rfl) rfl AJ IT (by omega) (fun b2 k2 aml dP=>?_);refine gq sy ?_;refine cz (fun i3 iC=>?_);refine gq sy ?_;refine ad.aO (σ:=Int × (List Tm × Nat) × List Tm × Nat) (i3,(b1,k1),b2,k2) [(1,3),(2,4)] ⟨z+1,by grind,by omega,by grind,by grind,dV,dP,by grind,by grind⟩ ?_ (by exact⟨sq,rfl,⟨.inl ⟨_,rfl,.same oW⟩,.inl ⟨_,rfl,.same AY⟩,.inl ⟨_,rfl,.same AY⟩,trivial⟩,rfl,rfl,rfl⟩);simp only;omega
end
end
section
set_option maxRecDepth 100000
attribute [local irreducible] ah aC af ad
def V_:FQ 140 Tryz.f140:=a_ Tryz.func140 Tryz.call140
def l8:List Nat:=[0,1,4,6,16]
section
variable {w0:World}{ρ:Hd}
theorem XN (n:Int) (h0:0 < n) (h1:n<=100000000000):aC Tryz.prog w0 140 [.sl true [],iv n] (aq [] 0) (.gr 0 3 0) (aq [(0,.arr 3 (ρ.h (List.map (nJ ρ)) []) 0 false)] 1):=by
 refine sc 0 1 V_ ?_;refine gq l8 ?_;refine cn (fun b8=>?_) fun b8=>?_
 ·grind
 refine gq l8 ?_;refine ig l8 (af.cap (m:=0) rfl) fun c hc=>?_;refine cF fun q hq=>?_;have hq:q=0:=hq;refine gq l8 ?_;refine ag l8 fun d hd=>?_;refine ag l8 fun e he=>?_;refine cn (fun cy=>?_) fun cy=>?_;rotate_left
 ·grind
 refine gq l8 ?_;refine og l8 (af.cap (m:=0) rfl) ?_;refine og l8 (af.aiV rfl rfl) ?_;refine og l8 (af.VJ rfl rfl (by omega) (by omega) (by decide)) ?_;refine og l8 (af.len rfl) ?_;refine ad.op rfl (af.aiW (j:=0) rfl rfl rfl (by decide) (by omega)) ?_;refine ad.La (Cv.ai1 (ρ:=ρ) (nJ ρ) (t:=25) (k:=0) rfl rfl) ?_;refine gq l8 ?_;refine fq ?_;exact⟨[(0,0)],.iR rfl rfl,⟨.inl ⟨_,rfl,.same (eO fun x _ a ha=>jC x a ha)⟩,trivial⟩,rfl⟩
end
def abz:FQ 82 Tryz.f82:=a_ Tryz.func82 Tryz.call82
def fV:List Nat:=[11,3,27,0,6,2,10,12,9,5,20,26,28,25,8]
def vi (ρ:Hd) (x:List Gl):List AV:=[cX ρ x]
theorem Km {ρ:Hd}(L:List (List Gl)):Pure (aX ρ (vi ρ) true L):=eR fun x _ a ha=>by
 obtain rfl:=List.mem_singleton.1 ha;exact cL x
theorem Eh {T:Type}{L:List (List T)}{k:Nat}{x:List T}(h:L[k]?=some x):(L.take (k+1)).flatten=(L.take k).flatten++x:=by
 rw[List.take_add_one,h,List.flatten_append];simp
theorem Uq {T:Type}(L:List (List T)) (k:Nat):(L.take k).flatten.length<=L.flatten.length:=by
 conv=>rhs;rw[<-List.take_append_drop k L,List.flatten_append,List.length_append]
 omega
theorem Ur {ρ:Hd}(l:List Gl):∀ row ∈ ρ.h (List.map (nJ ρ)) l,∀ a ∈ row,Pure a:=by
 rw[ρ.eq];intro row hr a ha;obtain⟨x,_,rfl⟩:=List.mem_map.1 hr;exact jC x a ha
section
variable {w0:World}{ρ:Hd}
theorem XO:ah Tryz.prog w0 140 [.sl true [],iv 0] (.sl true []):=by
 obtain⟨n,hn⟩:∃ n:Int,n=0:=⟨_,rfl⟩;rw[<-hn];refine st V_ l8 ((.sl fun r h=>by grind)) ?_;refine cn (fun b8=>?_) fun b8=>?_
 ·grind
 refine gq l8 ?_;refine ig l8 (af.cap (m:=0) rfl) fun c hc=>?_;refine cF fun q hq=>?_;have hq:q=0:=hq;refine gq l8 ?_;refine ag l8 fun d hd=>?_;refine ag l8 fun e he=>?_;refine cn (fun cy=>?_) fun cy=>?_
 ·grind
 refine gq l8 ?_;refine fq ?_;exact .refl _
theorem Re (L:List (List Gl)) (hl:L.length<=1000) (hz:L.flatten=[]):ah Tryz.prog w0 82 [aX ρ (vi ρ) true L] (cX ρ []):=by
 have hg:=XO (w0:=w0);have hLp:=Km (ρ:=ρ) L;have hx:∀ x ∈ L,x=[]:=fun x hx=>by rw[List.flatten_eq_nil_iff] at hz;exact hz x hx
 clear hz;refine st abz fV ((cL _)) ?_;refine lg fV fun m hm=>?_
 refine ad.bu (σ:=Int × Int) 0 0 [] (fun p=>[(0,aX ρ (vi ρ) true L),(9,aX ρ (vi ρ) true L),(3,.v (.int .i64 p.2)),(10,.v (.int .i64 m)),(11,.v (.int .i64 p.1))]) [] (fun p=>[])
  (fun p=>∃ k:Nat,p.1=k/\k<=L.length/\p.2=0) (fun p=>L.length - p.1.toNat) (0,0) ⟨0,rfl,by simp,rfl⟩ rfl (by exact⟨sq,rfl,trivial,rfl,rfl,rfl⟩) ?_
 rintro⟨i,z⟩ ⟨k,hi,hk,nZ⟩;simp only at hi nZ;refine gq fV ?_;refine cn (fun b8=>?_) fun b8=>?_;rotate_left
 ·refine gq fV ?_;refine ad.aH ?_;rw[nZ];refine gq fV ?_;refine og fV (af.aw rfl hg ⟨.sl (fun r h=>by grind),.v,trivial⟩) ?_;refine lg fV fun m2 gH=>?_
  refine ad.bu (σ:=Int) 0 0 [] (fun p=>[(25,aX ρ (vi ρ) true L),(6,.sl true []),(26,.v (.int .i64 m2)),(27,.v (.int .i64 p))]) [] (fun p=>[])
   (fun p=>∃ k:Nat,p=k/\k<=L.length) (fun p=>L.length - p.toNat) 0 ⟨0,rfl,by simp⟩ rfl (by exact⟨sq,rfl,trivial,rfl,rfl,rfl⟩) ?_
  rintro i2 ⟨k2,kM,dP⟩;refine gq fV ?_;refine cn (fun cy=>?_) fun cy=>?_;rotate_left
  ·refine gq fV ?_;refine ad.aH ?_;refine gq fV ?_;refine fq ?_;rw[cX,bQ];exact aR.wk
  obtain⟨y,hy,px⟩:=bf (l:=L) (k:=k2) (by omega);obtain rfl:=hx y (eU hy);refine gq fV ?_;refine og fV (af.ind rfl rfl (aY (l:=L) kM hy) (aZ (f:=vi ρ) (m:=1) fun _=>rfl)) ?_;refine og fV (af.Es rfl (by show dF _ (cX ρ [])=some [];rw[cX,bQ];exact fL)) ?_;refine ag fV fun i3 iC=>?_;refine ad.aO (σ:=Int) i3 [] ⟨k2+1,by omega,by omega⟩ ?_ (by exact⟨sq,rfl,trivial,rfl,rfl,rfl⟩);omega
 obtain⟨x,Rf,bK⟩:=bf (l:=L) (k:=k) (by omega);obtain rfl:=hx x (eU Rf);refine gq fV ?_;refine og fV (af.ind rfl rfl (aY (l:=L) hi Rf) (aZ (f:=vi ρ) (m:=1) fun _=>rfl)) ?_;refine cF fun q hq=>?_;rw[aE] at hq;have hq:q=0:=hq;refine gq fV ?_;refine ag fV fun z2 LC=>?_;refine cn (fun jo=>?_) fun jo=>?_
 ·grind
 refine gq fV ?_;refine ag fV fun i3 iC=>?_;refine ad.aO (σ:=Int × Int) (i3,z2) [] ⟨k+1,by grind,by omega,by grind⟩ ?_ (by exact⟨sq,rfl,trivial,rfl,rfl,rfl⟩);simp only;omega
theorem Rg (L:List (List Gl)) (hl:L.length<=1000) (h0:0 < L.flatten.length) (h1:L.flatten.length<=100000000000):ah Tryz.prog w0 82 [aX ρ (vi ρ) true L] (cX ρ L.flatten):=by
 obtain⟨R,hR⟩:∃ R,R=L.flatten:=⟨_,rfl⟩;have hle:∀ k,(L.take k).flatten.length<=L.flatten.length:=Uq L;rw[<-hR] at h0 h1 hle ⊢;have hg:=XN (w0:=w0) (ρ:=ρ) R.length (by omega) (by omega);obtain⟨n,hn⟩:∃ n:Int,n=R.length:=⟨_,rfl⟩;rw[<-hn] at hg;have hLp:=Km (ρ:=ρ) L;refine st abz fV ((cL _)) ?_;refine lg fV fun m hm=>?_
 refine ad.bu (σ:=Int × Int) 0 0 [] (fun p=>[(0,aX ρ (vi ρ) true L),(9,aX ρ (vi ρ) true L),(3,.v (.int .i64 p.2)),(10,.v (.int .i64 m)),(11,.v (.int .i64 p.1))]) [] (fun p=>[])
  (fun p=>∃ k:Nat,p.1=k/\k<=L.length/\p.2=(L.take k).flatten.length) (fun p=>L.length - p.1.toNat) (0,0) ⟨0,rfl,by simp,by simp⟩ rfl (by exact⟨sq,rfl,trivial,rfl,rfl,rfl⟩) ?_
 rintro⟨i,z⟩ ⟨k,hi,hk,nZ⟩;simp only at hi nZ;refine gq fV ?_;refine cn (fun b8=>?_) fun b8=>?_;rotate_left
 ·refine gq fV ?_;refine ad.aH ?_;obtain rfl:z=n:=by grind
  refine gq fV ?_;refine og fV (af.kC [] [(0,some (.arr 3 (ρ.h (List.map (nJ ρ)) []) 0 false))] hg rfl ⟨.pure (.sl fun r h=>by grind),.pure .v,trivial⟩ (.gr rfl) trivial ⟨⟨0,_,rfl,rfl,.pure (Ur _)⟩,trivial⟩) ?_;refine lg fV fun m2 gH=>?_
  refine ad.bu (σ:=Int × List Gl × Nat) 1 2 [(1,0)] (fun p=>[(25,aX ρ (vi ρ) true L),(6,.gr 1 3 p.2.2),(26,.v (.int .i64 m2)),(27,.v (.int .i64 p.1))]) [] (fun p=>[(1,.arr 3 (ρ.h (List.map (nJ ρ)) p.2.1) 0 false)])
   (fun p=>∃ k:Nat,p.1=k/\k<=L.length/\p.2.1=(L.take k).flatten/\p.2.2=p.2.1.length) (fun p=>L.length - p.1.toNat) (0,[],0) ⟨0,rfl,by simp,by simp,rfl⟩ rfl (by exact⟨sq,rfl,⟨.inl ⟨_,rfl,.same (eO fun x _ a ha=>jC x a ha)⟩,trivial⟩,rfl,rfl,rfl⟩) ?_
  rintro⟨i2,acc,len⟩ ⟨k2,kM,dP,jP,o3⟩;simp only at kM jP o3;refine gq fV ?_;refine cn (fun cy=>?_) fun cy=>?_;rotate_left
  ·refine gq fV ?_;refine ad.aH ?_;refine gq fV ?_;refine fq ?_;obtain rfl:acc=R:=by grind
   exact aR.grow rfl o3
  obtain⟨y,hy,px⟩:=bf (l:=L) (k:=k2) (by omega);have x9:=hle (k2+1);rw[Eh hy,List.length_append,<-jP] at x9;refine gq fV ?_;refine og fV (af.ind rfl rfl (aY (l:=L) kM hy) (aZ (f:=vi ρ) (m:=1) fun _=>rfl)) ?_;refine ad.SE (f:=nJ ρ) (ys:=y) rfl rfl rfl o3 (fun _=>rfl) rfl (fun _=>rfl) (fun _=>rfl) (by omega) fun vA xl h3 h4=>?_;refine gq fV ?_;refine ag fV fun i3 iC=>?_;refine ad.aO (σ:=Int × List Gl × Nat) (i3,vA,xl) [(1,2)] ⟨k2+1,by grind,by omega,by grind,h4⟩ ?_ (by exact⟨sq,rfl,⟨.inl ⟨_,rfl,.same (eO fun x _ a ha=>jC x a ha)⟩,trivial⟩,rfl,rfl,rfl⟩);simp only;omega
 obtain⟨x,Rf,bK⟩:=bf (l:=L) (k:=k) (by omega);have x9:=hle (k+1);rw[Eh Rf,List.length_append] at x9;refine gq fV ?_;refine og fV (af.ind rfl rfl (aY (l:=L) hi Rf) (aZ (f:=vi ρ) (m:=1) fun _=>rfl)) ?_;refine lg fV fun q hq=>?_;refine ag fV fun z2 LC=>?_;refine cn (fun jo=>?_) fun jo=>?_
 ·grind
 refine gq fV ?_;refine ag fV fun i3 iC=>?_;refine ad.aO (σ:=Int × Int) (i3,z2) [] ⟨k+1,by grind,by omega,by grind⟩ ?_ (by exact⟨sq,rfl,trivial,rfl,rfl,rfl⟩);simp only;omega
theorem Rh (a b:List Gl) (h:(a++b).length<=100000000000):ah Tryz.prog w0 82 [.sl true [[cX ρ a],[cX ρ b]]] (cX ρ (a++b)):=by
 have e:(.sl true [[cX ρ a],[cX ρ b]]:AV)=aX ρ (vi ρ) true [a,b]:=by rw[bQ];rfl
 have ef:[a,b].flatten=a++b:=by simp
 rw[e];by_cases h0:(a++b).length=0
 ·grind[Re]
 ·grind[Rg]
end
end
section
set_option maxRecDepth 100000
attribute [local irreducible] ah aC af ad
def aje:FQ 81 Tryz.f81:=a_ Tryz.func81 Tryz.call81
def g81:List Nat:=[3,4,1,0]
def ajf:FQ 80 Tryz.f80:=a_ Tryz.func80 Tryz.call80
def G5:List Nat:=[4,3,5,0,1,11,2]
def ajg:FQ 46 Tryz.f46:=a_ Tryz.func46 Tryz.call46
def jZ:List Nat:=[7,6,8,35,19,3,9,14,0,2,5,18,20,17,11,34,36,33,1,12,44,13]
section
variable {w0:World}{ρ:Hd}
theorem Ri {env:List Bd}(he:env.length<=1099511627776) (g:At) (hx:bP g.a<=100000000000):ah Tryz.prog w0 81 [kQ ρ env,at_ ρ g] (at_ ρ (xK env g)):=by
 have iH:=Ag (w0:=w0) (ρ:=ρ) (f:=iV env) (env:=env) g.a (by grind[xF]) fun y hy=>J_ he y (by have:=nB y hy;omega);rw[xK];obtain⟨n,a⟩:=g;simp only at iH ⊢;obtain⟨A,hA⟩:∃ A,A=a.map (iV env):=⟨_,rfl⟩;rw[<-hA] at iH ⊢;clear hA hx he;refine st aje g81 ((gF _)) ?_
 repeat' (first
  |(refine og g81 (af.aw rfl iH ⟨cJ _,aS _,trivial⟩) ?_)
  |(refine fq ?_))
 exact .refl _
def CC (b:Bool):Int:=if b then 0 else 6
def Rj (ρ:Hd) (u:List Bd) (s:List Im × Bool) (q n:Nat):List (Nat × Ob):=[(0,.arr 1 [[kQ ρ u]] 0 true),(1,.arr 1 [[iv (CC s.2)]] 0 true),(2,.arr 1 [[.gr q 3 n]] 0 true),(q,.arr 3 (ρ.h (List.map (yR ρ)) s.1) 0 false)]
theorem Wa (u:List Bd) (s:List Im × Bool) (n:Nat) (hn:n=s.1.length) (hs:s.1.length<=100000) (a:At) (hu:u.length<=1099511627776) (ha:bP a.a<=100000000000) (jA:(xK u a).ok) (han:a.n.size<=1099511627776) (n':Nat) (y7:n'=n+1) :
  aC Tryz.prog w0 80 [at_ ρ a,.pt 0 1 0 0,.pt 1 1 0 0,.pt 2 1 0 0] (aq (Rj ρ u s 3 n) 4) (iv n) (aq (Rj ρ u (rV u s a) 4 n') 5):=by
 have h1:=Ri (w0:=w0) (ρ:=ρ) hu a ha;have h2:=AQ (w0:=w0) (ρ:=ρ) (xK u a) jA han;unfold rV Rj;obtain⟨I,ok⟩:=s;simp only at hn hs ⊢;have e0:(⟨((I.length:Nat):Int)+1,a.n,a.a.map (iV u)⟩:Im)=⟨((I.length:Nat):Int)+1,(xK u a).n,(xK u a).a⟩:=rfl;rw[e0];clear e0 jA;obtain⟨b,iK⟩:∃ b,b=xK u a:=⟨_,rfl⟩;rw[<-iK] at h1 h2 ⊢;clear iK;obtain⟨c,hc⟩:∃ c,c=jI b:=⟨_,rfl⟩;rw[<-hc] at h2 ⊢;clear hc;obtain⟨an,aa⟩:=a;obtain⟨bn,ba⟩:=b;refine sc 4 5 ajf ?_;refine gq G5 ?_;refine og G5 (af.aw rfl h1 ⟨cJ _,gF (ρ:=ρ) ⟨an,aa⟩,trivial⟩) ?_;refine ad.op rfl (af.aw rfl h2 ⟨gF (ρ:=ρ) ⟨bn,ba⟩,trivial⟩) ?_;obtain⟨o,ho⟩:∃ o,o=(ok && c):=⟨_,rfl⟩;rw[<-ho];cases c
 all_goals
  refine gq G5 ?_;refine ig G5 (af.pE rfl) fun m hm=>?_;refine ag G5 fun d hd=>?_;refine ad.app (x:=(⟨d,bn,ba⟩:Im)) (f:=yR ρ) rfl rfl rfl hn (fun _=>rfl) rfl rfl rfl rfl (by omega) fun acc len jP hlen=>?_;refine gq G5 ?_;refine ig G5 (af.pE rfl) fun m2 gH=>?_;have lj:len=n+1:=by grind
  refine cz (fun d2 jq=>?_);obtain rfl:n'=len:=by omega
  obtain rfl:d2=(n:Int):=by omega
  obtain rfl:d=((I.length:Nat):Int)+1:=by omega
  rw[<-jP];subst ho;refine gq G5 ?_;refine fq ?_
 ·rw[Bool.and_false];exact⟨[(4,5)],.ao .v,⟨.inl ⟨_,rfl,.same (eG fun a ha=>by obtain rfl:=List.mem_singleton.1 ha;exact cJ _)⟩,.inl ⟨_,rfl,.same (eG fun a ha=>by obtain rfl:=List.mem_singleton.1 ha;exact .v)⟩,.inl ⟨_,rfl,.arr (by exact⟨kq,trivial⟩)⟩,.inl ⟨_,rfl,.same (eO fun x _=>lV x)⟩,trivial⟩,rfl⟩
 ·rw[Bool.and_true];exact⟨[(4,5)],.ao .v,⟨.inl ⟨_,rfl,.same (eG fun a ha=>by obtain rfl:=List.mem_singleton.1 ha;exact cJ _)⟩,.inl ⟨_,rfl,.same (eG fun a ha=>by obtain rfl:=List.mem_singleton.1 ha;exact .v)⟩,.inl ⟨_,rfl,.arr (by exact⟨kq,trivial⟩)⟩,.inl ⟨_,rfl,.same (eO fun x _=>lV x)⟩,trivial⟩,rfl⟩
def Wb (ρ:Hd) (l:List Int) (f:List At) (m:Int) (a b c:Nat) (i:Int):List (Nat × AV):=[(1,aX ρ aP false l),(3,.pt 0 18 0 0),(6,.pt 2 1 0 0),(7,.pt 3 2 0 0),(8,.pt 4 1 0 0),(9,.fn (.func 80) [] [.pt 1 1 0 0,.pt 4 1 0 0,.pt 2 1 0 0]),(a,dy ρ f),(b,.v (.int .i64 m)),(c,.v (.int .i64 i))]
def stO (ρ:Hd) (C:List AV) (u:List Bd) (s:List Im × Bool) (n:Nat) (h:List Int) (k:Nat):List (Nat × Ob):=[(0,.arr 18 [C] 0 true),(1,.arr 1 [[kQ ρ u]] 0 true),(2,.arr 1 [[.gr 5 3 n]] 0 true),(3,.arr 2 [[.gr 6 1 k,.sl true []]] 0 true),(4,.arr 1 [[iv (CC s.2)]] 0 true),(5,.arr 3 (ρ.h (List.map (yR ρ)) s.1) 0 false),(6,.arr 1 (ρ.h (List.map aP) h) 0 false)]
theorem wG {B:Nat}(hB:5<=B):dz B (.fn (.func 80) [] [.pt 1 1 0 0,.pt 4 1 0 0,.pt 2 1 0 0]):=by
 refine .fn (fun a h=>by grind) fun a h=>?_;simp only[List.mem_cons,List.not_mem_nil,or_false] at h;rcases h with rfl|rfl|rfl<;>exact .pt (by omega)
def xM (ρ:Hd) (u:List Bd) (s:List Im × Bool) (q n:Nat):List (Nat × Ob):=[(1,.arr 1 [[kQ ρ u]] 0 true),(4,.arr 1 [[iv (CC s.2)]] 0 true),(2,.arr 1 [[.gr q 3 n]] 0 true),(q,.arr 3 (ρ.h (List.map (yR ρ)) s.1) 0 false)]
def Us (ρ:Hd) (u:List Bd) (s:List Im × Bool) (q nx n:Nat):List (Nat × Option Ob):=[(1,some (.arr 1 [[kQ ρ u]] 0 true)),(4,some (.arr 1 [[iv (CC s.2)]] 0 true)),(2,some (.arr 1 [[.gr (nx+4) 3 n]] 0 true)),(q,none),(nx,none),(nx+1,none),(nx+2,none),(nx+3,none),(nx+4,some (.arr 3 (ρ.h (List.map (yR ρ)) s.1) 0 false))]
theorem Ml (l:List Im):∀ row ∈ ρ.h (List.map (yR ρ)) l,∀ a ∈ row,Pure a:=by
 rw[ρ.eq];intro row hr a ha;obtain⟨x,_,rfl⟩:=List.mem_map.1 hr;exact lV x a ha
theorem Mm {u:List Bd}{s:List Im × Bool}{q n:Nat}{T:ae}(hT:fC T (xM ρ u s q n)):im (aJ [(0,1),(1,4),(2,2),(3,q)]) 4 T (Rj ρ u s 3 n):=by
 have h0:=hT (1,.arr 1 [[kQ ρ u]] 0 true) (by simp[xM]);have h1:=hT (4,.arr 1 [[iv (CC s.2)]] 0 true) (by simp[xM]);have h2:=hT (2,.arr 1 [[.gr q 3 n]] 0 true) (by simp[xM]);have h3:=hT (q,.arr 3 (ρ.h (List.map (yR ρ)) s.1) 0 false) (by simp[xM]);exact⟨⟨_,h0,.row ⟨.pure (cJ _),trivial⟩⟩,⟨_,h1,.row ⟨.pure .v,trivial⟩⟩,⟨_,h2,.row ⟨.gr rfl rfl,trivial⟩⟩,⟨_,h3,.pure (Ml s.1)⟩,trivial⟩
theorem Mn {u:List Bd}{s:List Im × Bool}{q nx n:Nat}:fu (cT (aJ [(0,1),(1,4),(2,2),(3,q)]) 4 nx) (Rj ρ u s 4 n) (Us ρ u s q nx n) :=
 ⟨⟨0,_,rfl,rfl,.row ⟨.pure (cJ _),trivial⟩⟩,⟨1,_,rfl,rfl,.row ⟨.pure .v,trivial⟩⟩,⟨2,_,rfl,rfl,.row ⟨.gr rfl,trivial⟩⟩,⟨4,_,rfl,rfl,.pure (Ml s.1)⟩,trivial⟩
theorem su.Wc {x:At}{u:List Bd}(h:su 200 x) (hs:oG 200 u) (ho:rU u):(xK u x).ok:=by
 have h1:eV (x.a.map (iV u)):=by rw[<-o4];exact A8 ho _ h.1
 refine⟨?_,h1⟩;have h2:=o9 x.a;have h3:=h.2.1;show (x.a.map (iV u)).length<=_;rw[List.length_map];omega
def stP (ρ:Hd) (C:List AV) (u:List Bd) (s:List Im × Bool) (n:Nat) (g:List Int) (k:Nat) (h:List Int) (q:Nat):List (Nat × Ob):=[(0,.arr 18 [C] 0 true),(1,.arr 1 [[kQ ρ u]] 0 true),(2,.arr 1 [[.gr 7 3 n]] 0 true),(3,.arr 2 [[.gr 6 1 k,.gr 8 1 q]] 0 true),(4,.arr 1 [[iv (CC s.2)]] 0 true),(6,.arr 1 (ρ.h (List.map aP) g) 0 false),(7,.arr 3 (ρ.h (List.map (yR ρ)) s.1) 0 false),(8,.arr 1 (ρ.h (List.map aP) h) 0 false)]
def prA (ρ:Hd) (s:List Im × Bool) (h0 h1:List Int):AV:=.aG [C0 ρ s.1,.agg [aX ρ aP false h0,aX ρ aP false h1],iv (CC s.2)]
theorem Ut (s:List Im × Bool) (h0 h1:List Int):Pure (prA ρ s h0 h1):=.aG (EB (qp _) (.agg (wP (bp _) (bp _))) .v)
set_option maxHeartbeats 2000000 in
theorem XP (p:Pg) (i j:Int) (a b:Rl) (f t:List At) (l:List Int) (u:List Bd) (hf:f.length<=1000) (ht:t.length<=1000) (hl:l.length<=1000) (hu:u.length<=1099511627776) (jA:rU u) (Wd:oG 200 u) (zh:∀ x ∈ f,su 200 x) (yg:∀ x ∈ t,su 200 x) :
  ah Tryz.prog w0 46 [.agg (cA ρ p i j a b f t),aX ρ aP false l,kQ ρ u] (prA ρ (lH u l t 0 (nn u f ([],true)) []).1 (upto f.length) (lH u l t 0 (nn u f ([],true)) []).2):=by
 have cw:=jQ (ρ:=ρ) p i j a b f t;obtain⟨ds,rs⟩:=p;obtain⟨an,ak,ar,ag,ab,av⟩:=a;obtain⟨bn,bk,br,bg,gL,bv⟩:=b;have oW:∀ B,fR B (.arr 18 [cA ρ ⟨ds,rs⟩ i j ⟨an,ak,ar,ag,ab,av⟩ ⟨bn,bk,br,bg,gL,bv⟩ f t] 0 true):=fun B r hr a ha=>by
  obtain rfl:=List.mem_singleton.1 hr;exact (cw a ha).aV
 clear cw;unfold cA at oW ⊢;refine st ajg jZ ((Ut _ _ _)) ?_;refine cF fun m hm=>?_;rw[aE] at hm;refine gq jZ ?_;obtain⟨s1,lL⟩:∃ s,s=nn u f ([],true):=⟨_,rfl⟩;rw[<-lL];obtain⟨RT,hRT⟩:∃ s,s=lH u l t 0 s1 []:=⟨_,rfl⟩;rw[<-hRT];have DF:True:=trivial
 refine ad.bu (σ:=Int × ((List Im × Bool) × Nat) × List Int × Nat) 5 7 [] (fun p=>Wb ρ l f m 17 18 19 p.1) [] (fun p=>stO ρ (cA ρ ⟨ds,rs⟩ i j ⟨an,ak,ar,ag,ab,av⟩ ⟨bn,bk,br,bg,gL,bv⟩ f t) u p.2.1.1 p.2.1.2 p.2.2.1 p.2.2.2)
  (fun p=>∃ z:Nat,p.1=z/\z<=f.length/\s1=nn u (f.drop z) p.2.1.1/\p.2.1.1.1.length=z/\p.2.1.2=z/\p.2.2.1=upto z/\p.2.2.2=z) (fun p=>f.length - p.1.toNat) (0,(([],true),0),[],0) ⟨0,rfl,by omega,by grind,rfl,rfl,rfl,rfl⟩ rfl
  ⟨⟨.ao rfl (Pure.aV (bp _)),.ao rfl (.pt (by decide)),.ao rfl (.pt (by decide)),.ao rfl (.pt (by decide)),.ao rfl (.pt (by decide)),.ao rfl (wG (by decide)),.ao rfl (Pure.aV (b_ _)),.ao rfl .v,.ao rfl .v,trivial⟩,rfl,⟨.inl ⟨_,rfl,.same (oW _)⟩,.inl ⟨_,rfl,.same (eG fun a ha=>by obtain rfl:=List.mem_singleton.1 ha;exact cJ _)⟩,.inl ⟨_,rfl,.arr (by exact⟨kq,trivial⟩)⟩,.inl ⟨_,rfl,.arr (by exact⟨kq,trivial⟩)⟩,.inl ⟨_,rfl,.same (eG fun a ha=>by obtain rfl:=List.mem_singleton.1 ha;exact .v)⟩,.inr rfl,.inr rfl,trivial⟩,rfl,rfl,rfl⟩ ?_
 rintro⟨i2,⟨s2,n2⟩,g2,k2⟩ ⟨z,hz,zT,hp,kT,jb,q_,dP⟩;simp only at hz hp kT jb q_ dP;clear lL;unfold Wb stO cA;refine gq jZ ?_;refine bq (fun b8=>?_) (fun b8=>?_)<;>(try simp only[bX] at b8)
 rotate_left
 ·rw[List.drop_of_length_le (by omega),nn] at hp;subst hp;obtain rfl:z=f.length:=by omega
  clear zh DF;refine gq jZ ?_;refine ad.aH ?_;refine gq jZ ?_;refine cF fun m2 gH=>?_;rw[aE] at gH;refine gq jZ ?_
  refine ad.bu (σ:=Int × ((List Im × Bool) × Nat) × List Int × Nat) 7 9 [(7,5)] (fun p=>Wb ρ l t m2 33 34 35 p.1) [] (fun p=>stP ρ (cA ρ ⟨ds,rs⟩ i j ⟨an,ak,ar,ag,ab,av⟩ ⟨bn,bk,br,bg,gL,bv⟩ f t) u p.2.1.1 p.2.1.2 g2 k2 p.2.2.1 p.2.2.2)
   (fun p=>∃ z:Nat,p.1=z/\z<=t.length/\RT=lH u l (t.drop z) z p.2.1.1 p.2.2.1/\p.2.1.1.1.length=p.2.1.2/\p.2.1.2<=1000+z/\p.2.2.1.length=z/\p.2.2.2=z) (fun p=>t.length - p.1.toNat) (0,(s1,n2),[],0) ⟨0,rfl,by omega,hRT,by grind,by grind,rfl,rfl⟩ rfl
   ⟨⟨.ao rfl (Pure.aV (bp _)),.ao rfl (.pt (by decide)),.ao rfl (.pt (by decide)),.ao rfl (.pt (by decide)),.ao rfl (.pt (by decide)),.ao rfl (wG (by decide)),.ao rfl (Pure.aV (b_ _)),.ao rfl .v,.ao rfl .v,trivial⟩,rfl,⟨.inl ⟨_,rfl,.same (oW _)⟩,.inl ⟨_,rfl,.same (eG fun a ha=>by obtain rfl:=List.mem_singleton.1 ha;exact cJ _)⟩,.inl ⟨_,rfl,.arr (by exact⟨kq,trivial⟩)⟩,.inl ⟨_,rfl,.arr (by exact⟨kq,trivial⟩)⟩,.inl ⟨_,rfl,.same (eG fun a ha=>by obtain rfl:=List.mem_singleton.1 ha;exact .v)⟩,.inl ⟨_,rfl,.same er⟩,.inl ⟨_,rfl,.same (eO fun x _=>lV x)⟩,.inr rfl,trivial⟩,rfl,rfl,rfl⟩ ?_
  clear hRT;rintro⟨i4,⟨s4,n4⟩,g4,k4⟩ ⟨y,hy,Pw,hq,We,hn5,Wf,IK⟩;simp only at hy hq We hn5 Wf IK;unfold Wb stP cA;refine gq jZ ?_;refine bq (fun cy=>?_) (fun cy=>?_)<;>(try simp only[bX] at cy)
  rotate_left
  ·rw[List.drop_of_length_le (by omega),lH] at hq;subst hq;refine gq jZ ?_;refine ad.aH ?_;refine gq jZ ?_;refine fq ?_;refine .aG rfl fun i a a' h1 h2=>?_
   match i with
   |0 =>
    obtain rfl:=oJ_ h1;obtain rfl:=oJ_ h2;exact aR.grow rfl We.symm
   |1 =>
    obtain rfl:=oJ_ h1;obtain rfl:=oJ_ h2;refine .agg rfl fun i a a' h1 h2=>?_
    match i with
    |0 =>
     obtain rfl:=oJ_ h1;obtain rfl:=oJ_ h2;rw[<-q_];exact aR.grow rfl (by rw[dP,q_,nq])
    |1 =>
     obtain rfl:=oJ_ h1;obtain rfl:=oJ_ h2;exact aR.grow rfl (IK.trans Wf.symm)
    |i+2=>simp at h1
   |2 =>
    obtain rfl:=oJ_ h1;obtain rfl:=oJ_ h2;exact .refl _
   |i+3=>simp at h1
  obtain⟨x,hx,bK⟩:=bf (l:=t) (k:=y) (by omega);have yq:=yg x (List.mem_of_getElem? hx);have hix:=Vc (w0:=w0) (ρ:=ρ) l i4 (by omega);have xN:=fun n' y7=>Wa (w0:=w0) (ρ:=ρ) u s4 n4 (by omega) (by omega) x hu (by have:=yq.2.1;omega) (su.Wc yq Wd jA) yq.2.2 n' y7;rw[bK,lH,<-hy] at hq;obtain⟨kx,hkx⟩:∃ k,k=du (fun x=>i4 == x) l 0:=⟨_,rfl⟩;rw[<-hkx] at hq hix;obtain⟨s5,hs5⟩:∃ s,s=rV u s4 x:=⟨_,rfl⟩;rw[<-hs5] at hq xN;have hl5:s5.1.length=n4+1:=by grind[rV]
  obtain⟨n5,ajh⟩:∃ n',n'=n4+1:=⟨_,rfl⟩;have xN:=xN n5 ajh;clear hs5 hkx;obtain⟨xn,xa⟩:=x;refine gq jZ ?_;refine ad.op rfl (af.ind rfl rfl (aY (l:=t) hy hx) (aZ fun _=>rfl)) ?_;refine gq jZ ?_;refine ad.op rfl (af.aw rfl hix ⟨bp _,.v,trivial⟩) ?_;refine gq jZ ?_;refine bq (fun jo=>?_) (fun jo=>?_)<;>(try simp only[bX] at jo)
  ·rw[if_pos jo] at hq;refine gq jZ ?_;refine ad.op rfl (af.k_ rfl rfl (by decide) (by decide)) ?_;refine gq jZ ?_;refine ad.app (x:=kx) (f:=aP) rfl rfl rfl (IK.trans Wf.symm) (fun _=>rfl) rfl rfl rfl rfl (by omega) fun g5 k5 hg5 hk5=>?_;refine gq jZ ?_;refine ad.op rfl (af.k_ rfl rfl (by decide) (by decide)) ?_;refine gq jZ ?_;refine cz (fun i6 hi6=>?_);refine gq jZ ?_
   refine ad.aO (σ:=Int × ((List Im × Bool) × Nat) × List Int × Nat) (i6,(s4,n4),g5,k5) [(8,10)] ⟨y+1,by grind,by omega,by grind,We,by grind,by grind,by grind⟩ ?_
    ⟨⟨.ao rfl (Pure.aV (bp _)),.ao rfl (.pt (by decide)),.ao rfl (.pt (by decide)),.ao rfl (.pt (by decide)),.ao rfl (.pt (by decide)),.ao rfl (wG (by decide)),.ao rfl (Pure.aV (b_ _)),.ao rfl .v,.ao rfl .v,trivial⟩,rfl,⟨.inl ⟨_,rfl,.same (oW _)⟩,.inl ⟨_,rfl,.same (eG fun a ha=>by obtain rfl:=List.mem_singleton.1 ha;exact cJ _)⟩,.inl ⟨_,rfl,.arr (by exact⟨kq,trivial⟩)⟩,.inl ⟨_,rfl,.arr (by exact⟨kq,trivial⟩)⟩,.inl ⟨_,rfl,.same (eG fun a ha=>by obtain rfl:=List.mem_singleton.1 ha;exact .v)⟩,.inl ⟨_,rfl,.same er⟩,.inl ⟨_,rfl,.same (eO fun x _=>lV x)⟩,.inl ⟨_,rfl,.same er⟩,trivial⟩,rfl,rfl,rfl⟩
   simp only;omega
  ·rw[if_neg jo] at hq;refine gq jZ ?_;refine ad.fe rfl (fun T=>af.k_ rfl rfl (by decide) (by decide)) ?_;refine gq jZ ?_;refine ad.iJ rfl (a6.kC [(0,1),(1,4),(2,2),(3,7)] (xM ρ u s4 7 n4) (Us ρ u s5 7 10 n5) xN rfl ⟨.pure (gF (ρ:=ρ) ⟨xn,xa⟩),.pt rfl rfl,.pt rfl rfl,.pt rfl rfl,trivial⟩ (.pure .v) (fun p hp=>by simp only[xM,List.mem_cons,List.not_mem_nil,or_false] at hp;rcases hp with rfl|rfl|rfl|rfl<;>rfl) (fun T hT=>Mm hT) Mn) ?_;refine gq jZ ?_;refine ad.A4 (ρ:=ρ) (f:=aP) (acc:=g4) (n4:Int) rfl rfl rfl (IK.trans Wf.symm) (fun _=>rfl) rfl rfl rfl (by omega) fun g5 k5 hg5 hk5=>?_;refine gq jZ ?_;refine ad.fe rfl (fun T=>af.k_ rfl rfl (by decide) (by decide)) ?_;refine gq jZ ?_;refine cz (fun i6 hi6=>?_);refine gq jZ ?_
   refine ad.aO (σ:=Int × ((List Im × Bool) × Nat) × List Int × Nat) (i6,(s5,n5),g5,k5) [(7,14),(8,26)] ⟨y+1,by grind,by omega,by grind,by grind,by grind,by grind,by grind⟩ ?_
    ⟨⟨.ao rfl (Pure.aV (bp _)),.ao rfl (.pt (by decide)),.ao rfl (.pt (by decide)),.ao rfl (.pt (by decide)),.ao rfl (.pt (by decide)),.ao rfl (wG (by decide)),.ao rfl (Pure.aV (b_ _)),.ao rfl .v,.ao rfl .v,trivial⟩,rfl,⟨.inl ⟨_,rfl,.same (oW _)⟩,.inl ⟨_,rfl,.same (eG fun a ha=>by obtain rfl:=List.mem_singleton.1 ha;exact cJ _)⟩,.inl ⟨_,rfl,.arr (by exact⟨kq,trivial⟩)⟩,.inl ⟨_,rfl,.arr (by exact⟨kq,trivial⟩)⟩,.inl ⟨_,rfl,.same (eG fun a ha=>by obtain rfl:=List.mem_singleton.1 ha;exact .v)⟩,.inl ⟨_,rfl,.same er⟩,.inl ⟨_,rfl,.same (eO fun x _=>lV x)⟩,.inl ⟨_,rfl,.same er⟩,trivial⟩,rfl,rfl,rfl⟩
   simp only;omega
 obtain⟨x,hx,bK⟩:=bf (l:=f) (k:=z) (by omega);have yq:=zh x (List.mem_of_getElem? hx);have xN:=fun n' y7=>Wa (w0:=w0) (ρ:=ρ) u s2 n2 (by omega) (by omega) x hu (by have:=yq.2.1;omega) (su.Wc yq Wd jA) yq.2.2 n' y7;rw[bK,nn] at hp;obtain⟨s3,FD⟩:∃ s,s=rV u s2 x:=⟨_,rfl⟩;rw[<-FD] at hp xN;have hl3:s3.1.length=z+1:=by grind[rV]
 obtain⟨n3,yh⟩:∃ n',n'=n2+1:=⟨_,rfl⟩;have xN:=xN n3 yh;clear FD;obtain⟨xn,xa⟩:=x;refine gq jZ ?_;refine ad.op rfl (af.ind rfl rfl (aY (l:=f) hz hx) (aZ fun _=>rfl)) ?_;refine gq jZ ?_;refine ad.fe rfl (fun T=>af.k_ rfl rfl (by decide) (by decide)) ?_;refine gq jZ ?_;refine ad.iJ rfl (a6.kC [(0,1),(1,4),(2,2),(3,5)] (xM ρ u s2 5 n2) (Us ρ u s3 5 8 n3) xN rfl ⟨.pure (gF (ρ:=ρ) ⟨xn,xa⟩),.pt rfl rfl,.pt rfl rfl,.pt rfl rfl,trivial⟩ (.pure .v) (fun p hp=>by simp only[xM,List.mem_cons,List.not_mem_nil,or_false] at hp;rcases hp with rfl|rfl|rfl|rfl<;>rfl) (fun T hT=>Mm hT) Mn) ?_;refine gq jZ ?_;refine ad.A4 (ρ:=ρ) (f:=aP) (acc:=g2) (n2:Int) rfl rfl rfl (by rw[dP,q_,nq]) (fun _=>rfl) rfl rfl rfl (by omega) fun g3 k3 hg3 F6=>?_;refine gq jZ ?_;refine ad.fe rfl (fun T=>af.k_ rfl rfl (by decide) (by decide)) ?_;refine gq jZ ?_;refine cz (fun i3 iC=>?_);refine gq jZ ?_
 refine ad.aO (σ:=Int × ((List Im × Bool) × Nat) × List Int × Nat) (i3,(s3,n3),g3,k3) [(5,12),(6,24)] ⟨z+1,by grind,by omega,hp,hl3,by grind,by simp only;rw[hg3,q_,jb];rfl,by grind[nq]⟩ ?_
  ⟨⟨.ao rfl (Pure.aV (bp _)),.ao rfl (.pt (by decide)),.ao rfl (.pt (by decide)),.ao rfl (.pt (by decide)),.ao rfl (.pt (by decide)),.ao rfl (wG (by decide)),.ao rfl (Pure.aV (b_ _)),.ao rfl .v,.ao rfl .v,trivial⟩,rfl,⟨.inl ⟨_,rfl,.same (oW _)⟩,.inl ⟨_,rfl,.same (eG fun a ha=>by obtain rfl:=List.mem_singleton.1 ha;exact cJ _)⟩,.inl ⟨_,rfl,.arr (by exact⟨kq,trivial⟩)⟩,.inl ⟨_,rfl,.arr (by exact⟨kq,trivial⟩)⟩,.inl ⟨_,rfl,.same (eG fun a ha=>by obtain rfl:=List.mem_singleton.1 ha;exact .v)⟩,.inl ⟨_,rfl,.same (eO fun x _=>lV x)⟩,.inl ⟨_,rfl,.same er⟩,trivial⟩,rfl,rfl,rfl⟩
 simp only;omega
end
end
section
set_option maxRecDepth 100000
attribute [local irreducible] ah aC af ad
theorem OC {ρ:Hd}(x:Int) {ex:Bool}:Wk (.sl ex [[iv x]]) (aX ρ aP false [x]):=by grind[bQ,aP,Wk.sl]
theorem Wg {ρ:Hd}(x y:Int) {ex:Bool}:Wk (.sl ex [[iv x],[iv y]]) (aX ρ aP false [x,y]):=by grind[bQ,aP,Wk.sl]
section
variable {w0:World}{ρ:Hd}
theorem Kn (n:ByteArray) (a b:Int) (g:FuncId) (p e:Int) (nr:ah Tryz.prog w0 286 [.v (.string n)] (.v (.func (.func g) #[] #[]))) (hF:gD a=true->gD b=true->ah Tryz.prog w0 g [iv a,iv b] (nj (p,e))) :
  ah Tryz.prog w0 268 [.v (.string n),iv a,iv b] (nj (if !(gD a && gD b) then (0,5) else if e=0 then (if gD p then (p,0) else (0,5)) else (0,e))):=by
 have h2:=QX (w0:=w0) (ρ:=.plain) a b;have h1:=Kc (w0:=w0) (ρ:=.plain) p;obtain⟨R,hR⟩:∃ R,R=(if !(gD a && gD b) then ((0:Int),(5:Int)) else if e=0 then (if gD p then (p,0) else (0,5)) else (0,e)):=⟨_,rfl⟩;rw[<-hR];obtain⟨A,hA⟩:∃ x,x=gD a:=⟨_,rfl⟩;obtain⟨B,hB⟩:∃ x,x=gD b:=⟨_,rfl⟩;obtain⟨C,hC⟩:∃ x,x=gD p:=⟨_,rfl⟩;rw[<-hA,<-hB] at hR h2;rw[<-hA] at hF;rw[<-hB] at hF;rw[<-hC] at h1 hR;clear hA hB hC;obtain⟨AB,Ko⟩:∃ x,x=(A && B):=⟨_,rfl⟩;rw[<-Ko] at h2 hR;rw[nj] at hF;refine st V5 iD ((lR _)) ?_;refine ad.op rfl (af.aw rfl nr ⟨.v,trivial⟩) ?_;refine gq iD ?_;refine ad.op rfl (af.Jt (b:=false) rfl rfl) ?_;refine gq iD ?_;refine ad.bif rfl (af.pd rfl h2 ⟨bp _,trivial⟩ ⟨Wg a b,trivial⟩) (fun hb=>?_) (fun hb=>?_)<;>refine gq iD ?_
 rotate_left
 ·refine fq ?_;exact kg (by grind)
 subst hb;have CD:=Bool.and_eq_true_iff.1 Ko.symm;have BG:=hF CD.1 CD.2;rw[if_neg (by simp)] at hR;clear hF;refine ad.op rfl (af.aw rfl BG ⟨.v,.v,trivial⟩) ?_;refine gq iD ?_
 repeat' (first
  |(refine ad.bif rfl (af.pd rfl h1 ⟨bp _,trivial⟩ ⟨OC p,trivial⟩) (fun hb=>?_) (fun hb=>?_)<;>refine gq iD ?_)
  |refine bq (fun hb=>?_) (fun hb=>?_)<;>(try simp only[bX] at hb)<;>(first|exact absurd hb (by decide)|refine gq iD ?_)
  |refine cF fun m hm=>?_;(try rw[aE] at hm);refine gq iD ?_
  |refine cz fun _ _=>?_;refine gq iD ?_
  |refine mg fun _ _=>?_;refine gq iD ?_
  |refine ad.str rfl (af.cat rfl rfl (by assumption)) fun _ _=>?_;refine gq iD ?_
  |refine ad.aH ?_;refine gq iD ?_
  |refine ad.cP ?_;refine gq iD ?_
  |(refine fq ?_))
 all_goals clear BG h1 h2 nr Ko CD
 all_goals (refine kg ?_;rw[hR];simp_all;done)
theorem Rk (n:ByteArray) (a b:Int) (g q:FuncId) (p e:Int) (nr:ah Tryz.prog w0 286 [.v (.string n)] (.fn (.func g) [] [.ip [vg q]])) (hF:gD a=true->gD b=true->ah Tryz.prog w0 g [iv a,iv b,.ip [vg q]] (nj (p,e))) :
  ah Tryz.prog w0 268 [.v (.string n),iv a,iv b] (nj (if !(gD a && gD b) then (0,5) else if e=0 then (if gD p then (p,0) else (0,5)) else (0,e))):=by
 have h2:=QX (w0:=w0) (ρ:=.plain) a b;have h1:=Kc (w0:=w0) (ρ:=.plain) p;obtain⟨R,hR⟩:∃ R,R=(if !(gD a && gD b) then ((0:Int),(5:Int)) else if e=0 then (if gD p then (p,0) else (0,5)) else (0,e)):=⟨_,rfl⟩;rw[<-hR];obtain⟨A,hA⟩:∃ x,x=gD a:=⟨_,rfl⟩;obtain⟨B,hB⟩:∃ x,x=gD b:=⟨_,rfl⟩;obtain⟨C,hC⟩:∃ x,x=gD p:=⟨_,rfl⟩;rw[<-hA,<-hB] at hR h2;rw[<-hA] at hF;rw[<-hB] at hF;rw[<-hC] at h1 hR;clear hA hB hC;obtain⟨AB,Ko⟩:∃ x,x=(A && B):=⟨_,rfl⟩;rw[<-Ko] at h2 hR;rw[nj] at hF;refine st V5 iD ((lR _)) ?_;refine ad.op rfl (af.aw rfl nr ⟨.v,trivial⟩) ?_;refine gq iD ?_;refine ad.op rfl (af.Jt (b:=false) rfl rfl) ?_;refine gq iD ?_;refine ad.bif rfl (af.pd rfl h2 ⟨bp _,trivial⟩ ⟨Wg a b,trivial⟩) (fun hb=>?_) (fun hb=>?_)<;>refine gq iD ?_
 rotate_left
 ·refine fq ?_;exact kg (by grind)
 subst hb;have CD:=Bool.and_eq_true_iff.1 Ko.symm;have BG:=hF CD.1 CD.2;rw[if_neg (by simp)] at hR;clear hF;refine ad.op rfl (af.aw rfl BG ⟨.v,.v,.ip fun b hb=>by obtain rfl:=List.mem_singleton.1 hb;exact .v,trivial⟩) ?_;refine gq iD ?_
 repeat' (first
  |(refine ad.bif rfl (af.pd rfl h1 ⟨bp _,trivial⟩ ⟨OC p,trivial⟩) (fun hb=>?_) (fun hb=>?_)<;>refine gq iD ?_)
  |refine bq (fun hb=>?_) (fun hb=>?_)<;>(try simp only[bX] at hb)<;>(first|exact absurd hb (by decide)|refine gq iD ?_)
  |refine cF fun m hm=>?_;(try rw[aE] at hm);refine gq iD ?_
  |refine cz fun _ _=>?_;refine gq iD ?_
  |refine mg fun _ _=>?_;refine gq iD ?_
  |refine ad.str rfl (af.cat rfl rfl (by assumption)) fun _ _=>?_;refine gq iD ?_
  |refine ad.aH ?_;refine gq iD ?_
  |refine ad.cP ?_;refine gq iD ?_
  |(refine fq ?_))
 all_goals clear BG h1 h2 nr Ko CD
 all_goals (refine kg ?_;rw[hR];simp_all;done)
theorem XQ (n:ByteArray) (a b:Int) (bl:eL n=true):ah Tryz.prog w0 268 [.v (.string n),iv a,iv b] (nj (Vu n a b)):=by
 have nr:=V7 (w0:=w0) n;have Ae:∀ x y:Int,gD x=true->gD y=true->-2147483648<=x/\x<=2147483648/\-2147483648<=y/\y<=2147483648:=fun x y h1 h2=>⟨(wv.1 h1).1,(wv.1 h1).2,(wv.1 h2).1,(wv.1 h2).2⟩;have Uu:n.toList=[43]\/n.toList=[45]\/n.toList=[42]\/n.toList=[47]\/n.toList=[37]:=by grind[eL,VZ]
 unfold Ec at nr;unfold Vu P7;simp only[VZ] at nr;rcases Uu with h|h|h|h|h<;>simp only[h] at nr ⊢
 ·exact Kn n a b _ _ _ nr fun h1 h2=>by grind[abl]
 ·exact Kn n a b _ _ _ nr fun h1 h2=>by grind[XI]
 ·exact Kn n a b _ _ _ nr fun h1 h2=>by grind[XJ]
 ·exact Rk n a b _ _ _ _ nr fun h1 h2=>by obtain⟨c1,c2,c3,c4⟩:=Ae a b h1 h2;exact QY _ a b _ fun hb=>Eb a b hb c1 c2
 ·exact Rk n a b _ _ _ _ nr fun h1 h2=>by obtain⟨c1,c2,c3,c4⟩:=Ae a b h1 h2;exact QY _ a b _ fun hb=>aeW a b hb c1 c2 c3 c4
theorem XT (n:ByteArray):E7 (Ec n)=some (!(eL n)):=by
 unfold Ec;by_cases h:eL n=true
 ·rw[h];have Uu:n.toList=[43]\/n.toList=[45]\/n.toList=[42]\/n.toList=[47]\/n.toList=[37]:=by grind[eL,VZ]
  simp only[VZ];rcases Uu with h|h|h|h|h<;>simp only[h]<;>rfl
 ·have h2:=h;unfold eL at h2;simp only[Bool.or_eq_true,beq_iff_eq,not_or] at h2;obtain⟨⟨⟨⟨a1,a2⟩,a3⟩,a4⟩,a5⟩:=h2;rw[if_neg a1,if_neg a2,if_neg a3,if_neg a4,if_neg a5,Bool.eq_false_iff.2 h]
  rfl
theorem abD (x:Tm):ah Tryz.prog w0 267 [tm ρ x] (.v (.bool (decide (x.k=2) && decide (x.a.length=2) && eL x.n))):=by
 have nr:=V7 (w0:=w0) x.n;have hp:=Kd x.n;have hn:=XT x.n;obtain⟨O,hO⟩:∃ O,O=eL x.n:=⟨_,rfl⟩;rw[<-hO] at hn ⊢;clear hO;obtain⟨F,hF⟩:∃ F,F=Ec x.n:=⟨_,rfl⟩;rw[<-hF] at nr hp hn;have key:(∃ f l m,F=.fn f l m/\O=true)\/(∃ f a b,F=.v (.func f a b)/\O=true)\/(F=.v .nilFunc/\O=false):=by
  unfold E7 at hn;split at hn
  ·grind
  ·grind
  ·grind
  ·grind
 clear hF hn hp;obtain⟨k,i,n,a⟩:=x;simp only at nr ⊢;rcases key with ⟨f,l,m,rfl,rfl⟩|⟨f,l,m,rfl,rfl⟩|⟨rfl,rfl⟩
 ·skip;refine st Om fQ .v ?_
  repeat' (first
   |(refine ad.op rfl (af.aw rfl nr ⟨.v,trivial⟩) ?_;refine gq fQ ?_)
   |(refine ad.op rfl (af.Jt (b:=false) rfl rfl) ?_;refine gq fQ ?_)
   |refine bq (fun hb=>?_) (fun hb=>?_)<;>(try simp only[bX] at hb)<;>(first|exact absurd hb (by decide)|refine gq fQ ?_)
   |refine cF fun m hm=>?_;(try rw[aE] at hm);refine gq fQ ?_
   |refine cz fun _ _=>?_;refine gq fQ ?_
   |refine mg fun _ _=>?_;refine gq fQ ?_
   |refine ad.str rfl (af.cat rfl rfl (by assumption)) fun _ _=>?_;refine gq fQ ?_
   |refine ad.aH ?_;refine gq fQ ?_
   |refine ad.cP ?_;refine gq fQ ?_
   |(refine fq ?_))
  all_goals (clear nr;refine eA ?_;simp_all<;>omega)
 ·skip;refine st Om fQ .v ?_
  repeat' (first
   |(refine ad.op rfl (af.aw rfl nr ⟨.v,trivial⟩) ?_;refine gq fQ ?_)
   |(refine ad.op rfl (af.Jt (b:=false) rfl rfl) ?_;refine gq fQ ?_)
   |refine bq (fun hb=>?_) (fun hb=>?_)<;>(try simp only[bX] at hb)<;>(first|exact absurd hb (by decide)|refine gq fQ ?_)
   |refine cF fun m hm=>?_;(try rw[aE] at hm);refine gq fQ ?_
   |refine cz fun _ _=>?_;refine gq fQ ?_
   |refine mg fun _ _=>?_;refine gq fQ ?_
   |refine ad.str rfl (af.cat rfl rfl (by assumption)) fun _ _=>?_;refine gq fQ ?_
   |refine ad.aH ?_;refine gq fQ ?_
   |refine ad.cP ?_;refine gq fQ ?_
   |(refine fq ?_))
  all_goals (clear nr;refine eA ?_;simp_all<;>omega)
 ·skip;refine st Om fQ .v ?_
  repeat' (first
   |(refine ad.op rfl (af.aw rfl nr ⟨.v,trivial⟩) ?_;refine gq fQ ?_)
   |(refine ad.op rfl (af.Jt (b:=true) rfl rfl) ?_;refine gq fQ ?_)
   |refine bq (fun hb=>?_) (fun hb=>?_)<;>(try simp only[bX] at hb)<;>(first|exact absurd hb (by decide)|refine gq fQ ?_)
   |refine cF fun m hm=>?_;(try rw[aE] at hm);refine gq fQ ?_
   |refine cz fun _ _=>?_;refine gq fQ ?_
   |refine mg fun _ _=>?_;refine gq fQ ?_
   |refine ad.str rfl (af.cat rfl rfl (by assumption)) fun _ _=>?_;refine gq fQ ?_
   |refine ad.aH ?_;refine gq fQ ?_
   |refine ad.cP ?_;refine gq fQ ?_
   |(refine fq ?_))
  all_goals (clear nr;refine eA ?_;simp_all<;>omega)
end
end
section
set_option maxRecDepth 100000
attribute [local irreducible] ah aC af ad
def ae1:FQ 143 Tryz.f143:=a_ Tryz.func143 Tryz.call143
def Kp:List Nat:=[2,0,1,5]
def Wh:FQ 243 Tryz.f243:=a_ Tryz.func243 Tryz.call243
def rW:List Nat:=[1,4,5,2,0,8]
def Wi:FQ 142 Tryz.f142:=a_ Tryz.func142 Tryz.call142
def abE:List Nat:=[2,0,3]
theorem abF (x:Tm):tU x=(cN [x]).isEmpty:=by
 unfold tU varsOf;cases cN [x] with
 |nil=>rfl
 |cons a l=>rw[pC,if_neg (by simp)];rfl
section
variable {w0:World}{ρ:Hd}
theorem rC (b:Bool):ah Tryz.prog w0 142 [.v (.bool b)] (iv (pS b)):=by
 cases b
 ·skip;refine st Wi abE .v ?_
  repeat' (first
   |(refine fq ?_))
  exact jD rfl
 ·skip;refine st Wi abE .v ?_
  repeat' (first
   |(refine fq ?_))
  exact jD rfl
theorem Rm (n:Nat):∀ x:Tm,dk x<=n->ah Tryz.prog w0 243 [tm ρ x] (.v (.bool (qA x))):=by
 induction n with
 |zero=>intro x h;have:=mq x;omega
 |succ m ih =>
  intro x hn;rw[mq] at hn;obtain⟨R,hR⟩:∃ R,R=qA x:=⟨_,rfl⟩;rw[<-hR];obtain⟨k,i,n,a⟩:=x;rw[qA] at hR;simp only at hn;have ho:=Db (w0:=w0) n;obtain⟨O,hO⟩:∃ O,O=eL n:=⟨_,rfl⟩;rw[<-hO] at ho hR;clear hO;by_cases hc:a.length=2;rotate_left
  ·clear ih hn;have Fw:R=if k=0\/k=1 then true else false:=by grind
   clear hR;refine st Wh rW .v ?_
   repeat' (first
    |refine bg rW (af.aw rfl ho ⟨.v,trivial⟩) (fun _=>?_) fun _=>?_
    |refine cg rW (fun hb=>?_) fun hb=>?_
    |refine lg rW fun m hm=>?_
    |(refine fq ?_))
   all_goals first
    |exfalso;omega
    |refine eA ?_;rw[Fw];simp_all;done
  match a,hc with
  |[x,y],_ =>
  simp only[bP] at hn;have hx:=ih x (by omega);have hy:=ih y (by omega);clear ih hn;simp only[Nr] at hR;obtain⟨p,hP⟩:∃ P,P=qA x:=⟨_,rfl⟩;obtain⟨q,hQ⟩:∃ Q,Q=qA y:=⟨_,rfl⟩;rw[<-hP] at hx hR;rw[<-hQ] at hy hR;clear hP hQ;refine st Wh rW .v ?_
  repeat' (first
   |refine bg rW (af.aw rfl ho ⟨.v,trivial⟩) (fun _=>?_) fun _=>?_
   |refine og rW (af.ind rfl rfl (fm (l:=[x,y]) (k:=0) rfl rfl) fp) ?_
   |refine og rW (af.ind rfl rfl (fm (l:=[x,y]) (k:=1) rfl rfl) fp) ?_
   |refine bg rW (af.aw rfl hx ⟨aT _,trivial⟩) (fun _=>?_) fun _=>?_
   |refine bg rW (af.aw rfl hy ⟨aT _,trivial⟩) (fun _=>?_) fun _=>?_
   |refine cg rW (fun hb=>?_) fun hb=>?_
   |refine lg rW fun m hm=>?_
   |(refine fq ?_))
  all_goals clear ho hx hy
  all_goals (refine eA ?_;rw[hR];simp_all;done)
theorem Kq (x:Tm):ah Tryz.prog w0 243 [tm ρ x] (.v (.bool (qA x))):=Rm _ x (Nat.le_refl _)
theorem CE (x:Tm) (hx:GU x):ah Tryz.prog w0 143 [tm ρ x] (.v (.bool (tU x))):=by
 have h1:=Ia (w0:=w0) (ρ:=ρ) [x];have h2:=Ls (w0:=w0) (ρ:=ρ) [x] (by simp) ⟨hx.1,trivial⟩;rw[abF];obtain⟨V,hV⟩:∃ V,V=cN [x]:=⟨_,rfl⟩;rw[<-hV] at h2 ⊢;obtain⟨R,hR⟩:∃ R,R=V.isEmpty:=⟨_,rfl⟩;rw[<-hR];clear hV hx;obtain⟨k,i,n,a⟩:=x;refine st ae1 Kp .v ?_;refine og Kp (af.pd rfl h1 ⟨aS _,trivial⟩ ⟨Zk (ρ:=ρ) ⟨k,i,n,a⟩,trivial⟩) ?_
 refine ad.range (σ:=Unit) aP V 3 3 [] [(2,.pt 1 1 0 0)] (fun _=>[(1,.arr 1 [[.v (.bool false)]] 0 true),(2,.df)]) (fun rest _=>rest=V) () rfl (fun a ha=>by grind) (fun a ha=>by obtain rfl:=List.mem_singleton.1 ha;exact .ip fun b hb=>by obtain rfl:=List.mem_singleton.1 hb;exact aS _) h2 rfl rfl rfl
  (by intro p hp;simp only[List.mem_cons,List.not_mem_nil,or_false] at hp;rcases hp with rfl;exact .pt (by decide)) rfl (fun x=>⟨rfl,fun a ha=>by obtain rfl:=List.mem_singleton.1 ha;exact .v⟩)
  ⟨⟨.ao rfl (.pt (by decide)),trivial⟩,rfl,⟨.inl ⟨_,rfl,.arr (by exact⟨kq,trivial⟩)⟩,.inl ⟨_,rfl,.same trivial⟩,trivial⟩,rfl,rfl,rfl⟩ ?_ ?_
 ·rintro y rest _ hv;refine gq Kp ?_;refine ad.ai0 [(1,.arr 1 [[.v (.bool false)]] 0 true),(2,.df)] [] ⟨trivial,rfl,⟨.inl ⟨_,rfl,.arr (by exact⟨kq,trivial⟩)⟩,.inl ⟨_,rfl,.same trivial⟩,trivial⟩,rfl,rfl,rfl⟩ ?_;refine gq Kp ?_;refine fq ?_;exact eA (by grind)
 ·rintro _ hv;refine gq Kp ?_;refine fq ?_;exact eA (by grind)
end
end
section
set_option maxRecDepth 100000
attribute [local irreducible] ah aC af ad
structure Frm where
 g:Gl
 id:Int
 occ:Int
def frR (ρ:Hd) (x:Frm):List AV:=[iv x.g.op,.v (.string x.g.n),tl ρ x.g.a,iv x.id,iv x.occ]
def Ph (ρ:Hd) (l:List Frm):AV:=aX ρ (frR ρ) false l
end
section
set_option maxRecDepth 100000
theorem ae2 (v:Int):eE (vr v):=by grind[vr,eE]
theorem abG {v w:Int}:kH v (vr w) ↔ w=v:=by grind[vr,kH]
theorem Ro {v w:Int}(h:vr v=vr w):v=w:=by
 injection h
theorem Wj (v:Int):(vr v).ok:=by
 rw[vr,Tm.ok,eV];exact⟨by simp,by decide,trivial⟩
def xO (v:Int):Tm:=if v=1 then vr 0 else vr v
theorem abH:yU [(vr 0,vr 1)] xO [1]:=by
 refine⟨⟨fun v=>?_,fun v w h=>?_,fun v w h=>?_,fun e he=>?_,fun f hf v=>?_⟩,?_,fun v=>?_⟩
 ·grind[xO,ae2]
 ·grind[xO,abG]
 ·grind[xO,Ro]
 ·grind[sV,xO]
 ·have h:=hf (vr 0,vr 1) (by simp);simp only[sV] at h;unfold xO;split
  ·grind[sV]
  ·rw[sV]
 ·exact⟨fun y h=>(by grind),trivial⟩
 ·grind[xO,Ro]
theorem abI:jk [vr 0] [vr 1]=([⟨1,vr 0⟩],0):=by
 have r0:dO (vr 0)=true:=by kernel_rfl
 have r1:dO (vr 1)=true:=by kernel_rfl
 have b0:lz (vr 0)=false:=by kernel_rfl
 unfold jk;rw[if_neg (by grind),if_neg (by grind),if_pos (by grind),show [vr 0].zip [vr 1]=[(vr 0,vr 1)] from rfl,FF abH];unfold HW;have e:xO 1=vr 0:=by grind[xO]
 rw[if_neg (by grind)];simp[e]
section
variable {w0:World}
theorem abJ:ah Tryz.prog w0 79 [uA,uB] uR:=by
 have h:=J5 (w0:=w0) (ρ:=.plain) (l:=[vr 0]) (r:=[vr 1]) (by simp) (by simp) (fun x hx=>by grind[Wj]) (fun x hx=>by grind[Wj]);rw[abI] at h;have e1:∀ v:Int,tl .plain [vr v]=.sl false [[.v (.int .i64 1),.v (.int .i64 v),.v (.string ⟨#[]⟩),.sl false []]]:=fun v=>by
  rw[tl,bQ,List.map_cons,List.map_nil,vr,lr,Ez]
  rfl
 have e2:xD .plain ([⟨1,vr 0⟩],0)=uR:=by
  unfold xD;rw[kQ,bQ,List.map_cons,List.map_nil,uD,vr];simp only[tl,bQ,List.map_nil]
  rfl
 rw[e1,e1,e2] at h;exact h
end
end
section
set_option maxRecDepth 100000
section
variable {w0:World}
theorem XU:∀ g,lC g [35,38,42,76,253]=true->∀ A c,ah Tryz.prog w0 g [.v (.slice A 0 c)] (.sl true []):=by
 have h0:jj Tryz.prog w0 (mkE xt [] []):=ud (fun _ _ _=>QJ) fun g h=>by cases h
 intro g hg A c;have hg:=Ct hg;simp only[List.mem_cons,List.not_mem_nil,or_false] at hg;rcases hg with rfl|rfl|rfl|rfl|rfl<;>cases A<;>exact Env.Ep h0 8 (by kernel_rfl)
noncomputable def xE:Env:=mkU xt [35,38,42,76,253] [35,38,42,76,253,140,288]
theorem ae3:jj Tryz.prog w0 xE:=aa3 (fun _ _ _=>QJ) XU abJ
theorem aji:JE xE (N5 xE 60) 6 []=some (.v (.bool true)):=by kernel_rfl
theorem ajj:ah Tryz.prog w0 6 [] (.v (.bool true)):=Env.Ep ae3 60 aji
end
end
end Go.Proofs.YtbpabjmnhggajaaGreat
