import Derived.Test.YtbpabjmnhggajaaGreatOr23
namespace Go.Proofs.YtbpabjmnhggajaaGreat
set_option linter.all false
set_option maxRecDepth 100000
open Go.RowKit
variable {s:List Int}
section
attribute [local irreducible] ah aG ae ad
def aix:FQ 226 Tryz.f226:=aF Tryz.func226 Tryz.call226
def kZ:List Nat:=[8,0,5,4,7,9,1,16]
def aiy:FQ 263 Tryz.f263:=aF Tryz.func263 Tryz.call263
def xc:List Nat:=[8,0,5,4,7,9,1,16]
def aiz:FQ 191 Tryz.f191:=aF Tryz.func191 Tryz.call191
def xd:List Nat:=[8,0,5,4,7,9,1,16]
def aiA:FQ 131 Tryz.f131:=aF Tryz.func131 Tryz.call131
def Xv:List Nat:=[4,0,1]
section
variable {w0:World}{ρ:Hd}
theorem aep (p:Bd->Bool) (l:List Bd) (gid:FuncId) (fs cs:List AV) (o:l.length<=1099511627776) (q:Pure (.fn (.func gid) fs cs)) (h:∀x ∈ l,JH Tryz.prog w0 (.fn (.func gid) fs cs) [bd ρ x] (p x)):ah Tryz.prog w0 263 [eg ρ l,.fn (.func gid) fs cs] (iv (ew p l 0)):=by
 obtain⟨R,c⟩:∃R,R=ew p l 0:=⟨_,rfl⟩;rw[<-c];refine st aiy xc .v ?_
 repeat' (first
  |refine lg xc λm r=>?_
  )
 refine ad.aK (σ:=Int) 0 0 [] (λi=>[(0,eg ρ l),(1,.fn (.func gid) fs cs),(7,.v (.int .i64 m)),(8,.v (.int .i64 i))]) [] (λ_=>[])
  (λi=>∃k:Nat,i=k/\k<=l.length/\R=ew p (l.drop k) k) (λi=>l.length - i.toNat) 0 ⟨0,rfl,by simp,by grind⟩ rfl cz ?_
 rintro i ⟨k,f,s,a⟩;clear c;refine gq xc ?_;by_cases g:k < l.length
 ·obtain⟨x,d,j⟩:=aD g;rw[j,ew]at a;have n:=h x (bM d)
  repeat' (first
   |refine og xc (ae.ind rfl rfl (aB (l:=l) f d) (aA λ_=>rfl)) ?_
   |refine bg xc (ae.fnB rfl rfl n) (λ_=>?_) λ_=>?_
   |refine cg xc (λb=>?_) λb=>?_
   |refine ag xc λ_ _=>?_
   |refine ad.ao ?_;refine gq xc ?_
   |refine ad.bh ?_;refine gq xc ?_
   |(refine fq ?_))
  all_goals first
   |rw[if_pos (by grind)]at a;refine dP ?_;omega
   |(rw[if_neg (by grind)]at a
     refine ad.az (σ:=Int) _ [] ?_ ?_ cz
     ·grind
     ·omega)
   |exfalso;omega
 ·skip
  repeat' (first
   |refine cg xc (λb=>?_) λb=>?_
   |refine ad.ao ?_;refine gq xc ?_
   |(refine fq ?_))
  all_goals first
   |exfalso;omega
   |rw[a,ak_ (by omega)];exact dP rfl
theorem aeq (p:Dc->Bool) (l:List Dc) (gid:FuncId) (fs cs:List AV) (o:l.length<=1099511627776) (q:Pure (.fn (.func gid) fs cs)) (h:∀x ∈ l,JH Tryz.prog w0 (.fn (.func gid) fs cs) [dc x] (p x)):ah Tryz.prog w0 191 [ft ρ l,.fn (.func gid) fs cs] (iv (ew p l 0)):=by
 obtain⟨R,c⟩:∃R,R=ew p l 0:=⟨_,rfl⟩;rw[<-c];refine st aiz xd .v ?_
 repeat' (first
  |refine lg xd λm r=>?_
  )
 refine ad.aK (σ:=Int) 0 0 [] (λi=>[(0,ft ρ l),(1,.fn (.func gid) fs cs),(7,.v (.int .i64 m)),(8,.v (.int .i64 i))]) [] (λ_=>[])
  (λi=>∃k:Nat,i=k/\k<=l.length/\R=ew p (l.drop k) k) (λi=>l.length - i.toNat) 0 ⟨0,rfl,by simp,by grind⟩ rfl cz ?_
 rintro i ⟨k,f,s,a⟩;clear c;refine gq xd ?_;by_cases g:k < l.length
 ·obtain⟨x,d,j⟩:=aD g;rw[j,ew]at a;have n:=h x (bM d)
  repeat' (first
   |refine og xd (ae.ind rfl rfl (aB (l:=l) f d) (aA λ_=>rfl)) ?_
   |refine bg xd (ae.fnB rfl rfl n) (λ_=>?_) λ_=>?_
   |refine cg xd (λb=>?_) λb=>?_
   |refine ag xd λ_ _=>?_
   |refine ad.ao ?_;refine gq xd ?_
   |refine ad.bh ?_;refine gq xd ?_
   |(refine fq ?_))
  all_goals first
   |rw[if_pos (by grind)]at a;refine dP ?_;omega
   |(rw[if_neg (by grind)]at a
     refine ad.az (σ:=Int) _ [] ?_ ?_ cz
     ·grind
     ·omega)
   |exfalso;omega
 ·skip
  repeat' (first
   |refine cg xd (λb=>?_) λb=>?_
   |refine ad.ao ?_;refine gq xd ?_
   |(refine fq ?_))
  all_goals first
   |exfalso;omega
   |rw[a,ak_ (by omega)];exact dP rfl
theorem aer (p:Dc->Bool) (l:List Dc) (gid:FuncId) (fs cs:List AV) (d:l.length<=1099511627776) (a:Pure (.fn (.func gid) fs cs)) (h:∀x ∈ l,JH Tryz.prog w0 (.fn (.func gid) fs cs) [dc x] (p x)):ah Tryz.prog w0 131 [ft ρ l,.fn (.func gid) fs cs] (.v (.bool (l.any p))):=by
 have b:=aeq (w0:=w0) (ρ:=ρ) p l gid fs cs d a h;have c:=w_ p l 0;obtain⟨j,e⟩:∃j,j=ew p l 0:=⟨_,rfl⟩;rw[<-e]at b c;refine st aiA Xv .v ?_
 repeat' (first
  |refine ig Xv (ae.ez rfl b ⟨fW _,a,trivial⟩) λ_ _=>?_
  |refine cg Xv (λf=>?_) λf=>?_
  |(refine fq ?_))
 all_goals (subst_vars;refine bY ?_;rw[<-c];simp_all)
end
end
section
attribute [local irreducible] ah aG ae ad
def amM:FQ 78 Tryz.f78:=aF Tryz.func78 Tryz.call78
def EX:List Nat:=[8,0,5,4,7,9,1,16]
def amN:FQ 44 Tryz.f44:=aF Tryz.func44 Tryz.call44
def g44:List Nat:=[4,0,1]
def aiB:FQ 233 Tryz.f233:=aF Tryz.func233 Tryz.call233
def xe:List Nat:=[8,0,5,4,1,7,9,3,16]
def aiC:FQ 192 Tryz.f192:=aF Tryz.func192 Tryz.call192
def Xw:List Nat:=[4,1,0,3]
def aiD:FQ 133 Tryz.f133:=aF Tryz.func133 Tryz.call133
def aet:List Nat:=[6,0,1,2]
def aiE:FQ 179 Tryz.f179:=aF Tryz.func179 Tryz.call179
def Xx:List Nat:=[2,0,1]
theorem Mn {T:Type}(p:T->Bool):∀(l:List T) (k:Nat),0<=ew p l k->∃(j:Nat) (x:T),ew p l k=((k+j:Nat):Int)/\l[j]?=some x/\l.find? p=some x
 |[],k,h=>by grind[ew]
 |x::l,k,h=>by
  rw[ew]at h ⊢;by_cases c:p x=true
  ·rw[if_pos c];exact⟨0,x,rfl,rfl,by grind⟩
  ·rw[if_neg c]at h ⊢;obtain⟨j,y,a,b,d⟩:=Mn p l (k+1) h;exact⟨j+1,y,by grind,by grind,by grind⟩
theorem Qe {T:Type}(p:T->Bool):∀(l:List T) (k:Nat),ew p l k < 0->l.find? p=none
 |[],k,h=>rfl
 |x::l,k,h=>by
  rw[ew]at h;by_cases c:p x=true
  ·grind
  ·rw[if_neg c]at h;rw[df_];simp[c,Qe p l (k+1) h]
theorem CZ (l:List Int) (v:Int):(l.any λx=>v == x)=l.contains v:=by grind
section
variable {w0:World}{ρ:Hd}
theorem Z6 (l:List Int) (v:Int) (j:l.length<=1099511627776):ah Tryz.prog w0 78 [aR ρ aI false l,iv v] (iv (ew (λx=>v == x) l 0)):=by
 obtain⟨R,c⟩:∃R,R=ew (λx=>v == x) l 0:=⟨_,rfl⟩;rw[<-c];refine st amM EX .v ?_
 repeat' (first
  |refine lg EX λm n=>?_
  )
 refine ad.aK (σ:=Int) 0 0 [] (λi=>[(0,aR ρ aI false l),(1,.v (.int .i64 v)),(7,.v (.int .i64 m)),(8,.v (.int .i64 i))]) [] (λ_=>[]) (λi=>∃k:Nat,i=k/\k<=l.length/\R=ew (λx=>v == x) (l.drop k) k) (λi=>l.length - i.toNat) 0 ⟨0,rfl,by simp,by grind⟩ rfl cq ?_;rintro i ⟨k,e,o,a⟩;clear c;refine gq EX ?_;by_cases f:k < l.length
 ·obtain⟨x,g,h⟩:=aD f;rw[h,ew]at a
  repeat' (first
   |refine og EX (ae.ind rfl rfl (aB (l:=l) e g) (aA λ_=>rfl)) ?_
   |refine cg EX (λb=>?_) λb=>?_
   |refine ag EX λ_ _=>?_
   |refine ad.ao ?_;refine gq EX ?_
   |refine ad.bh ?_;refine gq EX ?_
   |(refine fq ?_))
  all_goals first
   |rw[if_pos (by grind)]at a;refine dP ?_;omega
   |rw[if_neg (by grind)]at a;(refine ad.az (σ:=Int) _ [] ?_ ?_ cq<;>first|omega|exact⟨k+1,by omega,by omega,a⟩)
 ·skip
  repeat' (first
   |refine cg EX (λb=>?_) λb=>?_
   |refine ad.ao ?_;refine gq EX ?_
   |(refine fq ?_))
  all_goals first
   |exfalso;omega
   |rw[a,ak_ (by omega)];exact dP rfl
theorem Mo (l:List Int) (v:Int) (c:l.length<=1099511627776):ah Tryz.prog w0 44 [aR ρ aI false l,iv v] (.v (.bool (l.contains v))):=by
 have b:=Z6 (w0:=w0) (ρ:=ρ) l v c;have a:=w_ (λx=>v == x) l 0;rw[CZ]at a;obtain⟨j,d⟩:∃j,j=ew (λx=>v == x) l 0:=⟨_,rfl⟩;rw[<-d]at b a;refine st amN g44 .v ?_
 repeat' (first
  |refine ig g44 (pl b) λ_ _=>?_
  |refine cg g44 (λe=>?_) λe=>?_
  |(refine fq ?_))
 all_goals (subst_vars;refine bY ?_;rw[<-a];simp_all)
theorem abJ (r:Rl) (a:r.rem.length<=1099511627776):ah Tryz.prog w0 179 [rl ρ r] (.v (.bool r.rem.isEmpty)):=by
 obtain⟨n,e,c,g,b,v⟩:=r;dsimp only at a ⊢;refine st aiE Xx .v ?_
 repeat' (first
  |refine cg Xx (λd=>?_) λd=>?_
  |refine lg Xx λm f=>?_
  |(refine fq ?_))
 all_goals (subst_vars;refine bY ?_;cases c<;>simp_all<;>omega)
theorem Qf (n a:ByteArray) (i b:Int):EqS Tryz.prog 54 (.agg #[.string n,.int .i64 i]) (.agg #[.string a,.int .i64 b]) (n.toList == a.toList && i == b):=by
 refine⟨⟨_,_,rfl,rfl⟩,by kernel_rfl,λw=>?_⟩;have c:Tryz.prog.underlying 54=some (.struct (Tryz.prog.fieldsOf 54)):=by kernel_rfl
 have d:Tryz.prog.stoodInHeld 54=false:=by kernel_rfl
 have e:=Tryz.underlying3;have f:=Tryz.underlying9;have g:=Tryz.isAgg3;have h:=Tryz.isAgg9;rw[run_eql_struct,show (10000:Nat)=9998+1+1 from rfl,run_equalIn_agg w _ 54 _ _ c d];simp only[Program.fieldsOf,Tryz.underlying54];have j:∀w,(Op.equalIn (9998+1) 9 (.string n) (.string a)).run Tryz.prog w=.ok (n.toList == a.toList) w:=λw=>run_equalIn_string w _ _ _ _ f;have k:∀w,(Op.equalIn (9998+1) 3 (.int .i64 i) (.int .i64 b)).run Tryz.prog w=.ok (i == b) w:=λw=>run_equalIn_int w _ _ _ _ _ _ e;cases l:(n.toList == a.toList)<;>cases m:(i == b)<;>simp[Op.eqFields,part,g,h,j,k,l,m]
def He (n:ByteArray) (i:Int) (d:Dc):Bool:=n.toList == d.n.toList && i == d.ar
theorem abK (l:List Dc) (n:ByteArray) (i:Int):l.any (He n i)=l_ l n i:=by grind[l_,He]
theorem aiF (l:List Dc) (n:ByteArray) (a:Int) (r:l.length<=1099511627776):ah Tryz.prog w0 233 [ft ρ l,dc ⟨n,a⟩] (iv (ew (He n a) l 0)):=by
 obtain⟨R,f⟩:∃R,R=ew (He n a) l 0:=⟨_,rfl⟩;rw[<-f];refine st aiB xe .v ?_
 repeat' (first
  |refine lg xe λm s=>?_
  )
 refine ad.aK (σ:=Int) 1 1 [] (λi=>[(0,ft ρ l),(3,.pt 0 2 0 0),(7,.v (.int .i64 m)),(8,.v (.int .i64 i))]) [] (λ_=>[(0,.arr 2 [TZ ⟨n,a⟩] 0 true)]) (λi=>∃k:Nat,i=k/\k<=l.length/\R=ew (He n a) (l.drop k) k) (λi=>l.length - i.toNat) 0 ⟨0,rfl,by simp,by grind⟩ rfl cz ?_;rintro i ⟨k,h,t,b⟩;clear f;refine gq xe ?_;by_cases j:k < l.length
 ·obtain⟨x,o,p⟩:=aD j;rw[p,ew]at b;obtain⟨c,d⟩:=x
  repeat' (first
   |refine og xe (ae.ind rfl rfl (aB (l:=l) h o) (aA λ_=>rfl)) ?_
   |refine bg xe (ae.eqs rfl rfl (Qf n c a d)) (λ_=>?_) λ_=>?_
   |refine cg xe (λe=>?_) λe=>?_
   |refine ag xe λ_ _=>?_
   |refine ad.ao ?_;refine gq xe ?_
   |refine ad.bh ?_;refine gq xe ?_
   |(refine fq ?_))
  ·grind[He,dP]
  ·have q:(n.toList == c.toList && a == d)=false:=by grind
   rw[if_neg (show ¬ He n a ⟨c,d⟩=true from by show ¬ (n.toList == c.toList && a == d)=true;rw[q];simp)]at b
   (refine ad.az (σ:=Int) _ [] ?_ ?_ cz<;>first|omega|exact⟨k+1,by omega,by omega,b⟩)
  ·omega
 ·skip
  repeat' (first
   |refine cg xe (λe=>?_) λe=>?_
   |refine ad.ao ?_;refine gq xe ?_
   |(refine fq ?_))
  all_goals first
   |exfalso;omega
   |rw[b,ak_ (by omega)];exact dP rfl
theorem aeu (l:List Dc) (n:ByteArray) (a:Int) (d:l.length<=1099511627776):ah Tryz.prog w0 192 [ft ρ l,dc ⟨n,a⟩] (.v (.bool (l_ l n a))):=by
 have c:=aiF (w0:=w0) (ρ:=ρ) l n a d;have b:=w_ (He n a) l 0;rw[abK]at b;obtain⟨j,e⟩:∃j,j=ew (He n a) l 0:=⟨_,rfl⟩;rw[<-e]at c b;refine st aiC Xw .v ?_
 repeat' (first
  |refine ig Xw (ae.ez rfl c ⟨fW _,IL ⟨n,a⟩,trivial⟩) λ_ _=>?_
  |refine cg Xw (λf=>?_) λf=>?_
  |(refine fq ?_))
 all_goals (subst_vars;refine bY ?_;rw[<-b];simp_all)
theorem Hf (l:List Dc) (n:ByteArray) (a:Int) (c:l.length<=1099511627776):ah Tryz.prog w0 133 [ft ρ l,.v (.string n),iv a] (.v (.bool (l_ l n a))):=by
 have b:=aeu (w0:=w0) (ρ:=ρ) l n a c;obtain⟨R,d⟩:∃R,R=l_ l n a:=⟨_,rfl⟩;rw[<-d]at b ⊢;refine st aiD aet .v ?_
 repeat' (first
  |refine og aet (ae.ez rfl b ⟨fW _,IL ⟨n,a⟩,trivial⟩) ?_
  |(refine fq ?_))
 exact bY rfl
end
end
section
attribute [local irreducible] ah aG ae ad
def fB (b:Bool):AV:=.v (.bool b)
def JI (s:List Int):List (Int × Bool):=s.map λi=>(i,true)
theorem JJ (s:List Int) (i:Int):aH (JI s) i=if s.contains i then some true else none:=by
 induction s with
 |nil=>rfl
 |cons x s a =>
  rw[JI,aC_,aH,cE_];rw[JI]at a;by_cases h:x=i
  ·grind
  ·grind
theorem Xy {i:Int}(h:s.contains i=false):iy (JI s) i true=JI (s++[i]):=by
 induction s with
 |nil=>rfl
 |cons x s b =>
  rw[cE_,Bool.or_eq_false_iff]at h;have c:¬ x=i:=λe=>by grind
  have a:=b h.2;rw[JI]at a;simp only[JI,aC_,aR_,iy,c,if_false];rw[a];rfl
def aiG (ρ:Hd) (p:List Int × List (Int × Bool) × Nat):List (Nat × Ob):=[(0,.arr 1 [[.gr 4 1 p.2.2]] 0 true),(1,.mp (ρ.h (dW fB) p.2.1)),(2,.arr 1 [[.mp 1]] 0 true),(3,.df),(4,.arr 1 (ρ.h (List.map aI) p.1) 0 false)]
section
variable {w0:World}{ρ:Hd}
theorem abl {B:Nat}{kv:List (Int × Bool)}:h_ B (.mp (ρ.h (dW fB) kv)):=by
 rw[ρ.eq];intro e a;obtain⟨p,_,rfl⟩:=av_.1 a;exact .v
theorem qP {B sz fz:Nat}{ex:Bool}:h_ B (.arr sz (ρ.h (List.map aI) s) fz ex):=jS λx _ a b=>by
 obtain rfl:=ae_.1 b;exact .v
theorem aev (gid:FuncId) (fs cs:List AV) (xs:List Int) (w:xs.length<=1099511627776) (k:∀a ∈ fs,Pure a) (l:∀a ∈ cs,Pure a) (m:Iter Tryz.prog w0 gid fs cs (xs.map aI)) :
  ah Tryz.prog w0 189 [.fn (.func gid) fs cs] (aR ρ aI false (bH [] xs)):=by
 obtain⟨R,n⟩:∃R,R=bH [] xs:=⟨_,rfl⟩;rw[<-n];refine st aiu CY ((bt _)) ?_;refine ad.kQ ρ fB rfl λg b=>?_;subst b;refine gq CY ?_
 refine ad.range (σ:=List Int × List (Int × Bool) × Nat) aI xs 4 5 [] [(3,.pt 0 1 0 0),(4,.pt 2 1 0 0)] (aiG ρ) (λrest p=>R=p.1++bH p.1 rest/\p.1.length+rest.length<=1099511627776/\p.2.1=JI p.1/\p.2.2=p.1.length) ([],[],0) rfl k l m rfl ⟨by grind,by grind,rfl,rfl⟩ rfl
  (by intro p j;simp only[ad_,as_,or_false]at j;rcases j with rfl|rfl<;>exact .pt (by decide)) rfl (λx=>⟨rfl,λa o=>by obtain rfl:=ae_.1 o;exact .v⟩)
  cz ?_ ?_
 ·rintro x rest ⟨s,g,len⟩ ⟨c,hlen,b,d⟩;simp only at c hlen b d;rw[bH]at c;rw[aw_]at hlen;refine gq CY ?_;refine ad.look rfl rfl rfl rfl (λv e=>?_) (λe=>?_)
  ·rw[b,JJ]at e;have h:s.contains x=true:=by grind
   rw[if_pos h]at e c;obtain rfl:=oJ_ e;refine gq CY ?_;refine ad.Mi (s,g,len) [(4,4)] ⟨c,by grind,b,d⟩ cz
  ·rw[b,JJ]at e;have h:s.contains x=false:=by grind
   rw[if_neg (by grind)]at c;refine gq CY ?_;refine ad.oD (v:=true) rfl rfl rfl rfl rfl λq i=>?_;rw[b,Xy h]at i;refine gq CY ?_;refine ad.app (x:=x) (f:=aI) rfl rfl rfl d (λ_=>rfl) rfl rfl rfl rfl (by omega) λr t z u=>?_;refine gq CY ?_;refine ad.Mi (r,q,t) [(4,5)] ⟨by grind,by grind,by grind,u⟩ cz
 ·rintro⟨s,g,len⟩ ⟨c,_,b,d⟩;simp only at c b d;rw[bH,aB_]at c;refine gq CY ?_;subst c;refine fq ?_;exact aP.grow rfl d
theorem mE:∀(l s:List Int),(bH s l).length<=l.length
 |[],s=>ac_ _
 |x::l,s=>by
  rw[bH];split
  ·have:=mE l s;simp;omega
  ·have:=mE l (s++[x]);simp;omega
def varsOf (l:List Tm):List Int:=bH [] (aY l)
theorem JK (l:List Tm) (d:l.length<=1099511627776) (e:dG l) (f:(aY l).length<=1099511627776):ah Tryz.prog w0 189 [.fn (.func 231) [] [.ip [tl ρ l]]] (aR ρ aI false (varsOf l)) :=
 aev _ [] _ _ f (λa c=>by grind) (λa c=>by obtain rfl:=ae_.1 c;exact .ip λb g=>by grind[cG]) (Qd l d e)
theorem aew (x:Tm) {ex:Bool}:Wk (.sl ex [je ρ x]) (tl ρ [x]):=by grind[tl,bX,pM,Wk.sl]
theorem Sg (x:Gl) (e:x.a.length<=1099511627776) (f:dG x.a) (g:(aY x.a).length<=1099511627776):ah Tryz.prog w0 130 [gl ρ x] (aR ρ aI false (varsOf x.a)):=by
 have h:=Mm (w0:=w0) (ρ:=ρ) x.a;have c:=JK (w0:=w0) (ρ:=ρ) x.a e f g;obtain⟨o,n,a⟩:=x;dsimp only at h c ⊢;obtain⟨R,i⟩:∃R,R=varsOf a:=⟨_,rfl⟩;rw[<-i]at c ⊢;clear g e f i;refine st aiw Xu ((bt _)) ?_
 repeat' (first
  |(apply bK Xu h)
  |(refine og Xu (ae.ez rfl c ⟨.fn (λa d=>by cases d) λa d=>by obtain rfl:=ae_.1 d;exact .ip λb j=>by obtain rfl:=ae_.1 j;exact cG _,trivial⟩) ?_)
  |(refine fq ?_))
 exact aP.of_eq rfl
theorem Hg (x:At) (e:x.a.length<=1099511627776) (f:dG x.a) (g:(aY x.a).length<=1099511627776):ah Tryz.prog w0 129 [at_ ρ x] (aR ρ aI false (varsOf x.a)):=by
 have h:=Mm (w0:=w0) (ρ:=ρ) x.a;have c:=JK (w0:=w0) (ρ:=ρ) x.a e f g;obtain⟨n,a⟩:=x;dsimp only at h c ⊢;obtain⟨R,i⟩:∃R,R=varsOf a:=⟨_,rfl⟩;rw[<-i]at c ⊢;clear g e f i;refine st aiv Xt ((bt _)) ?_
 repeat' (first
  |(apply bK Xt h)
  |(refine og Xt (ae.ez rfl c ⟨.fn (λa d=>by cases d) λa d=>by obtain rfl:=ae_.1 d;exact .ip λb j=>by obtain rfl:=ae_.1 j;exact cG _,trivial⟩) ?_)
  |(refine fq ?_))
 exact aP.of_eq rfl
end
end
end Go.Proofs.YtbpabjmnhggajaaGreat
