import Derived.Test.YtbpabjmnhggajaaGreatOr49
namespace Go.Proofs.YtbpabjmnhggajaaGreat
set_option linter.all false
set_option maxRecDepth 100000
open Go.RowKit
section
attribute [local irreducible] ah aG ae ad
theorem To {ρ:Hd}(x:Int) {ex:Bool}:Wk (.sl ex [[iv x]]) (aR ρ aI false [x]):=by grind[bX,aI,Wk.sl]
theorem aa0 {ρ:Hd}(x y:Int) {ex:Bool}:Wk (.sl ex [[iv x],[iv y]]) (aR ρ aI false [x,y]):=by grind[bX,aI,Wk.sl]
section
variable {w0:World}{ρ:Hd}
theorem OE (n:ByteArray) (a b:Int) (g:FuncId) (p e:Int) (q:ah Tryz.prog w0 286 [.v (.string n)] (.v (.func (.func g) #[] #[]))) (f:gJ a=true->gJ b=true->ah Tryz.prog w0 g [iv a,iv b] (lF (p,e))) :
  ah Tryz.prog w0 268 [.v (.string n),iv a,iv b] (lF (if !(gJ a && gJ b) then (0,5) else if e=0 then (if gJ p then (p,0) else (0,5)) else (0,e))):=by
 have h:=VT (w0:=w0) (ρ:=.plain) a b;have i:=OA (w0:=w0) (ρ:=.plain) p;obtain⟨R,d⟩:∃R,R=(if !(gJ a && gJ b) then ((0:Int),(5:Int)) else if e=0 then (if gJ p then (p,0) else (0,5)) else (0,e)):=⟨_,rfl⟩;rw[<-d];obtain⟨A,j⟩:∃x,x=gJ a:=⟨_,rfl⟩;obtain⟨B,k⟩:∃x,x=gJ b:=⟨_,rfl⟩;obtain⟨C,r⟩:∃x,x=gJ p:=⟨_,rfl⟩;rw[<-j,<-k]at d h;rw[<-j]at f;rw[<-k]at f;rw[<-r]at i d;clear j k r;obtain⟨u,l⟩:∃x,x=(A && B):=⟨_,rfl⟩;rw[<-l]at h d;rw[lF]at f;refine st aaW kM ((jA _)) ?_;refine ad.op rfl (pl q) ?_;refine gq kM ?_;refine ad.op rfl (ae.NR (b:=false) rfl rfl) ?_;refine gq kM ?_;refine ad.bif rfl (ae.oZ rfl h ⟨bt _,trivial⟩ ⟨aa0 a b,trivial⟩) (λc=>?_) (λc=>?_)<;>refine gq kM ?_
 rotate_left
 ·refine fq ?_;exact iQ (by grind)
 subst c;have o:=dF_.1 l.symm;have s:=f o.1 o.2;rw[if_neg (by simp)]at d;clear f;refine ad.op rfl (pl s) ?_;refine gq kM ?_
 repeat' (first
  |(refine ad.bif rfl (ae.oZ rfl i ⟨bt _,trivial⟩ ⟨To p,trivial⟩) (λc=>?_) (λc=>?_)<;>refine gq kM ?_)
  |refine bq (λc=>?_) (λc=>?_)<;>(try simp only[bL]at c)<;>(first|exact absurd c (by decide)|refine gq kM ?_)
  |refine bS λm t=>?_;(try rw[au]at t);refine gq kM ?_
  |refine cw λ_ _=>?_;refine gq kM ?_
  |refine ll λ_ _=>?_;refine gq kM ?_
  |refine ad.str rfl (ae.cat rfl rfl (by assumption)) λ_ _=>?_;refine gq kM ?_
  |refine ad.ao ?_;refine gq kM ?_
  |refine ad.bh ?_;refine gq kM ?_
  |(refine fq ?_))
 all_goals clear s i h q l o
 all_goals (refine iQ ?_;rw[d];simp_all;done)
theorem VX (n:ByteArray) (a b:Int) (g q:FuncId) (p e:Int) (r:ah Tryz.prog w0 286 [.v (.string n)] (.fn (.func g) [] [.ip [yV q]])) (f:gJ a=true->gJ b=true->ah Tryz.prog w0 g [iv a,iv b,.ip [yV q]] (lF (p,e))) :
  ah Tryz.prog w0 268 [.v (.string n),iv a,iv b] (lF (if !(gJ a && gJ b) then (0,5) else if e=0 then (if gJ p then (p,0) else (0,5)) else (0,e))):=by
 have h:=VT (w0:=w0) (ρ:=.plain) a b;have i:=OA (w0:=w0) (ρ:=.plain) p;obtain⟨R,d⟩:∃R,R=(if !(gJ a && gJ b) then ((0:Int),(5:Int)) else if e=0 then (if gJ p then (p,0) else (0,5)) else (0,e)):=⟨_,rfl⟩;rw[<-d];obtain⟨A,j⟩:∃x,x=gJ a:=⟨_,rfl⟩;obtain⟨B,k⟩:∃x,x=gJ b:=⟨_,rfl⟩;obtain⟨C,s⟩:∃x,x=gJ p:=⟨_,rfl⟩;rw[<-j,<-k]at d h;rw[<-j]at f;rw[<-k]at f;rw[<-s]at i d;clear j k s;obtain⟨v,l⟩:∃x,x=(A && B):=⟨_,rfl⟩;rw[<-l]at h d;rw[lF]at f;refine st aaW kM ((jA _)) ?_;refine ad.op rfl (pl r) ?_;refine gq kM ?_;refine ad.op rfl (ae.NR (b:=false) rfl rfl) ?_;refine gq kM ?_;refine ad.bif rfl (ae.oZ rfl h ⟨bt _,trivial⟩ ⟨aa0 a b,trivial⟩) (λc=>?_) (λc=>?_)<;>refine gq kM ?_
 rotate_left
 ·refine fq ?_;exact iQ (by grind)
 subst c;have o:=dF_.1 l.symm;have t:=f o.1 o.2;rw[if_neg (by simp)]at d;clear f;refine ad.op rfl (pl t) ?_;refine gq kM ?_
 repeat' (first
  |(refine ad.bif rfl (ae.oZ rfl i ⟨bt _,trivial⟩ ⟨To p,trivial⟩) (λc=>?_) (λc=>?_)<;>refine gq kM ?_)
  |refine bq (λc=>?_) (λc=>?_)<;>(try simp only[bL]at c)<;>(first|exact absurd c (by decide)|refine gq kM ?_)
  |refine bS λm u=>?_;(try rw[au]at u);refine gq kM ?_
  |refine cw λ_ _=>?_;refine gq kM ?_
  |refine ll λ_ _=>?_;refine gq kM ?_
  |refine ad.str rfl (ae.cat rfl rfl (by assumption)) λ_ _=>?_;refine gq kM ?_
  |refine ad.ao ?_;refine gq kM ?_
  |refine ad.bh ?_;refine gq kM ?_
  |(refine fq ?_))
 all_goals clear t i h r l o
 all_goals (refine iQ ?_;rw[d];simp_all;done)
theorem acI (n:ByteArray) (a b:Int) (o:eB n=true):ah Tryz.prog w0 268 [.v (.string n),iv a,iv b] (lF (J6 n a b)):=by
 have e:=aaY (w0:=w0) n;have j:∀x y:Int,gJ x=true->gJ y=true->-2147483648<=x/\x<=2147483648/\-2147483648<=y/\y<=2147483648:=λx y c d=>⟨(uq.1 c).1,(uq.1 c).2,(uq.1 d).1,(uq.1 d).2⟩;have m:n.toList=[43]\/n.toList=[45]\/n.toList=[42]\/n.toList=[47]\/n.toList=[37]:=by grind[eB,Kp]
 unfold H9 at e;unfold J6 J5;simp only[Kp]at e;rcases m with h|h|h|h|h<;>simp only[h]at e ⊢
 ·exact OE n a b _ _ _ e λc d=>by grind[agL]
 ·exact OE n a b _ _ _ e λc d=>by grind[acG]
 ·exact OE n a b _ _ _ e λc d=>by grind[acH]
 ·exact VX n a b _ _ _ _ e λc d=>by obtain⟨f,g,k,l⟩:=j a b c d;exact VU _ a b _ λi=>H8 a b i f g
 ·exact VX n a b _ _ _ _ e λc d=>by obtain⟨f,g,k,l⟩:=j a b c d;exact VU _ a b _ λi=>akb a b i f g k l
theorem acJ (n:ByteArray):I8 (H9 n)=some (!(eB n)):=by
 unfold H9;by_cases h:eB n=true
 ·rw[h];have b:n.toList=[43]\/n.toList=[45]\/n.toList=[42]\/n.toList=[47]\/n.toList=[37]:=by grind[eB,Kp]
  simp only[Kp];rcases b with h|h|h|h|h<;>simp only[h]<;>rfl
 ·have a:=h;unfold eB at a;simp only[cd_,beq_iff_eq,not_or]at a;obtain⟨⟨⟨⟨c,d⟩,e⟩,f⟩,g⟩:=a;rw[if_neg c,if_neg d,if_neg e,if_neg f,if_neg g,dg_.2 h]
  rfl
theorem agO (x:Tm):ah Tryz.prog w0 267 [tm ρ x] (.v (.bool (decide (x.k=2) && decide (x.a.length=2) && eB x.n))):=by
 have d:=aaY (w0:=w0) x.n;have h:=OB x.n;have e:=acJ x.n;obtain⟨O,j⟩:∃O,O=eB x.n:=⟨_,rfl⟩;rw[<-j]at e ⊢;clear j;obtain⟨F,o⟩:∃F,F=H9 x.n:=⟨_,rfl⟩;rw[<-o]at d h e;have key:(∃f l m,F=.fn f l m/\O=true)\/(∃f a b,F=.v (.func f a b)/\O=true)\/(F=.v .nilFunc/\O=false):=by
  unfold I8 at e;split at e
  ·grind
  ·grind
  ·grind
  ·grind
 clear o e h;obtain⟨k,i,n,a⟩:=x;simp only at d ⊢;rcases key with ⟨f,l,m,rfl,rfl⟩|⟨f,l,m,rfl,rfl⟩|⟨rfl,rfl⟩
 ·skip;refine st Tk iV .v ?_
  repeat' (first
   |(refine ad.op rfl (pl d) ?_;refine gq iV ?_)
   |(refine ad.op rfl (ae.NR (b:=false) rfl rfl) ?_;refine gq iV ?_)
   |refine bq (λc=>?_) (λc=>?_)<;>(try simp only[bL]at c)<;>(first|exact absurd c (by decide)|refine gq iV ?_)
   |refine bS λm g=>?_;(try rw[au]at g);refine gq iV ?_
   |refine cw λ_ _=>?_;refine gq iV ?_
   |refine ll λ_ _=>?_;refine gq iV ?_
   |refine ad.str rfl (ae.cat rfl rfl (by assumption)) λ_ _=>?_;refine gq iV ?_
   |refine ad.ao ?_;refine gq iV ?_
   |refine ad.bh ?_;refine gq iV ?_
   |(refine fq ?_))
  all_goals (clear d;refine bY ?_;simp_all<;>omega)
 ·skip;refine st Tk iV .v ?_
  repeat' (first
   |(refine ad.op rfl (pl d) ?_;refine gq iV ?_)
   |(refine ad.op rfl (ae.NR (b:=false) rfl rfl) ?_;refine gq iV ?_)
   |refine bq (λc=>?_) (λc=>?_)<;>(try simp only[bL]at c)<;>(first|exact absurd c (by decide)|refine gq iV ?_)
   |refine bS λm g=>?_;(try rw[au]at g);refine gq iV ?_
   |refine cw λ_ _=>?_;refine gq iV ?_
   |refine ll λ_ _=>?_;refine gq iV ?_
   |refine ad.str rfl (ae.cat rfl rfl (by assumption)) λ_ _=>?_;refine gq iV ?_
   |refine ad.ao ?_;refine gq iV ?_
   |refine ad.bh ?_;refine gq iV ?_
   |(refine fq ?_))
  all_goals (clear d;refine bY ?_;simp_all<;>omega)
 ·skip;refine st Tk iV .v ?_
  repeat' (first
   |(refine ad.op rfl (pl d) ?_;refine gq iV ?_)
   |(refine ad.op rfl (ae.NR (b:=true) rfl rfl) ?_;refine gq iV ?_)
   |refine bq (λc=>?_) (λc=>?_)<;>(try simp only[bL]at c)<;>(first|exact absurd c (by decide)|refine gq iV ?_)
   |refine bS λm g=>?_;(try rw[au]at g);refine gq iV ?_
   |refine cw λ_ _=>?_;refine gq iV ?_
   |refine ll λ_ _=>?_;refine gq iV ?_
   |refine ad.str rfl (ae.cat rfl rfl (by assumption)) λ_ _=>?_;refine gq iV ?_
   |refine ad.ao ?_;refine gq iV ?_
   |refine ad.bh ?_;refine gq iV ?_
   |(refine fq ?_))
  all_goals (clear d;refine bY ?_;simp_all<;>omega)
end
end
section
attribute [local irreducible] ah aG ae ad
def akc:FQ 101 Tryz.f101:=aF Tryz.func101 Tryz.call101
def Tp:List Nat:=[2,0,1]
def aa1:FQ 166 Tryz.f166:=aF Tryz.func166 Tryz.call166
def vF:List Nat:=[1,2,0,10]
def aa2:FQ 100 Tryz.f100:=aF Tryz.func100 Tryz.call100
def agP:List Nat:=[2,0,3]
def akd:FQ 102 Tryz.f102:=aF Tryz.func102 Tryz.call102
def BC:List Nat:=[7,9,4,5,43,6,1,2,18,26,8,10,42,0,44,50,56]
def aoh:FQ 99 Tryz.f99:=aF Tryz.func99 Tryz.call99
def g99:List Nat:=[1,2,0]
def Y6:FQ 58 Tryz.f58:=aF Tryz.func58 Tryz.call58
def rU:List Nat:=[1,3,4,21,2,0,7,22,26,31,34,46,54,62]
def yX (t:Tm):Prop:=t.ok/\cR t<=100000000000
section
variable {w0:World}{ρ:Hd}
theorem Gm (x:Tm) (a:yX x):ah Tryz.prog w0 101 [tm ρ x] (.v (.bool (qq x))):=by
 have b:=abO (w0:=w0) (ρ:=ρ) x a.1 (by have:=yR x;have:=a.2;omega);unfold qq;obtain⟨V,c⟩:∃V,V=varsOf [x]:=⟨_,rfl⟩;rw[<-c]at b ⊢;obtain⟨R,d⟩:∃R,R=V.isEmpty:=⟨_,rfl⟩;rw[<-d];clear a c;refine st akc Tp .v ?_
 repeat' (first
  |(apply bK Tp b)
  |refine cg Tp (λe=>?_) λe=>?_
  |refine lg Tp λm f=>?_
  |(refine fq ?_))
 all_goals (refine bY ?_;rw[d];cases V<;>simp_all<;>omega)
theorem Tq (n:Nat):∀x:Tm,cR x<=n->ah Tryz.prog w0 166 [tm ρ x] (.v (.bool (mN x))):=by
 induction n with
 |zero=>intro x h;have:=iO x;omega
 |succ m d =>
  intro x c;rw[iO]at c;obtain⟨R,b⟩:∃R,R=mN x:=⟨_,rfl⟩;rw[<-b];obtain⟨k,i,n,a⟩:=x;rw[mN]at b;simp only at c;have e:=PX (w0:=w0) n;obtain⟨O,o⟩:∃O,O=eB n:=⟨_,rfl⟩;rw[<-o]at e b;clear o;by_cases t:a.length=2;rotate_left
  ·clear d c;have u:R=if k=0\/k=1 then true else false:=by grind
   clear b;refine st aa1 vF .v ?_
   repeat' (first
    |refine bg vF (pl e) (λ_=>?_) λ_=>?_
    |refine cg vF (λf=>?_) λf=>?_
    |refine lg vF λm v=>?_
    |(refine fq ?_))
   all_goals first
    |exfalso;omega
    |refine bY ?_;rw[u];simp_all;done
  match a,t with
  |[x,y],_ =>
  simp only[bp]at c;have g:=d x (by omega);have j:=d y (by omega);clear d c;simp only[K6]at b;obtain⟨p,r⟩:∃P,P=mN x:=⟨_,rfl⟩;obtain⟨q,s⟩:∃Q,Q=mN y:=⟨_,rfl⟩;rw[<-r]at g b;rw[<-s]at j b;clear r s;refine st aa1 vF .v ?_
  repeat' (first
   |refine bg vF (pl e) (λ_=>?_) λ_=>?_
   |refine og vF (ae.ind rfl rfl (cC (l:=[x,y]) (k:=0) rfl rfl) cD) ?_
   |refine og vF (ae.ind rfl rfl (cC (l:=[x,y]) (k:=1) rfl rfl) cD) ?_
   |refine bg vF (pl g) (λ_=>?_) λ_=>?_
   |refine bg vF (pl j) (λ_=>?_) λ_=>?_
   |refine cg vF (λf=>?_) λf=>?_
   |refine lg vF λm v=>?_
   |(refine fq ?_))
  all_goals clear e g j
  all_goals (refine bY ?_;rw[b];simp_all;done)
theorem Kv (x:Tm):ah Tryz.prog w0 166 [tm ρ x] (.v (.bool (mN x))):=Tq _ x (ac_ _)
theorem Ew (b:Bool):ah Tryz.prog w0 100 [.v (.bool b)] (iv (nR b)):=by
 cases b
 ·skip;refine st aa2 agP .v ?_
  repeat' (first
   |(refine fq ?_))
  exact dP rfl
 ·skip;refine st aa2 agP .v ?_
  repeat' (first
   |(refine fq ?_))
  exact dP rfl
theorem Y7 (op:Int) (a b:Tm) (m:yX a) (h:yX b):ah Tryz.prog w0 102 [iv op,tm ρ a,tm ρ b] (iv (uz op a b)):=by
 have i:=Kv (w0:=w0) (ρ:=ρ) a;have j:=Kv (w0:=w0) (ρ:=ρ) b;have k:=Gm (w0:=w0) (ρ:=ρ) a m;have l:=Gm (w0:=w0) (ρ:=ρ) b h;have d:=VG (w0:=w0) (ρ:=ρ) a;have g:=VG (w0:=w0) (ρ:=ρ) b;obtain⟨R,c⟩:∃R,R=uz op a b:=⟨_,rfl⟩;rw[<-c];unfold uz at c;obtain⟨v,n⟩:∃x,x=mN a:=⟨_,rfl⟩;obtain⟨w,o⟩:∃x,x=mN b:=⟨_,rfl⟩;obtain⟨GA,r⟩:∃x,x=qq a:=⟨_,rfl⟩;obtain⟨GB,s⟩:∃x,x=qq b:=⟨_,rfl⟩;obtain⟨⟨p,e⟩,t⟩:∃x,x=nw a:=⟨_,rfl⟩;obtain⟨⟨q,f⟩,u⟩:∃x,x=nw b:=⟨_,rfl⟩;rw[<-n]at i c;rw[<-o]at j c;rw[<-r]at k c;rw[<-s]at l c;rw[<-t]at d c;rw[<-u]at g c;rw[lF]at d g;simp only at d g c;clear n o r s t u m h;unfold SG at c;refine st akd BC .v ?_
 repeat' (first
  |refine bg BC (pl i) (λ_=>?_) λ_=>?_
  |refine bg BC (pl j) (λ_=>?_) λ_=>?_
  |refine bg BC (pl k) (λ_=>?_) λ_=>?_
  |refine bg BC (pl l) (λ_=>?_) λ_=>?_
  |(apply bK BC d)
  |(apply bK BC g)
  |(apply bK BC (Ew _))
  |refine cg BC (λh=>?_) λh=>?_
  |(refine fq ?_))
 all_goals clear i j k l d g
 all_goals (refine dP ?_;rw[c];simp_all[nR];done)
theorem Gn (g:Gl) (c:mJ 100000000000 g):ah Tryz.prog w0 99 [gl ρ g] (.v (.bool (lD g))):=by
 have d:=AS (w0:=w0) (ρ:=ρ) g (c.nC (by decide)) c.2.2;obtain⟨R,b⟩:∃R,R=lD g:=⟨_,rfl⟩;rw[<-b];unfold lD nN at b;obtain⟨G,e⟩:∃G,G=dE g:=⟨_,rfl⟩;rw[<-e]at d b;obtain⟨o,n,a⟩:=g;simp only at b;clear c e;refine st aoh g99 .v ?_
 repeat' (first
  |refine bg g99 (pl d) (λ_=>?_) λ_=>?_
  |refine cg g99 (λf=>?_) λf=>?_
  |(refine fq ?_))
 all_goals clear d
 all_goals (refine bY ?_;rw[b];simp_all<;>omega)
theorem acK (g:Gl) (c:mJ 100000000000 g) (f:lD g=false):ah Tryz.prog w0 58 [gl ρ g] (iv (kJ g)):=by
 have d:=Gn (w0:=w0) (ρ:=ρ) g c;have e:=AS (w0:=w0) (ρ:=ρ) g (c.nC (by decide)) c.2.2;obtain⟨R,b⟩:∃R,R=kJ g:=⟨_,rfl⟩;rw[<-b];unfold kJ at b;rw[if_neg (by grind)]at b;rw[f]at d;obtain⟨G,h⟩:∃G,G=dE g:=⟨_,rfl⟩;rw[<-h]at e b;obtain⟨o,n,a⟩:=g;simp only at b;clear c h f;refine st Y6 rU .v ?_
 repeat' (first
  |(apply bK rU d)
  |refine bg rU (pl e) (λ_=>?_) λ_=>?_
  |(apply bK rU (Ew _))
  |refine cg rU (λi=>?_) λi=>?_
  |(refine fq ?_))
 all_goals clear d e
 all_goals (refine dP ?_;rw[b];simp_all[nR];done)
theorem acL (op:Int) (n:ByteArray) (x:Tm) (b:mJ 100000000000 ⟨op,n,[x]⟩) (c:lD ⟨op,n,[x]⟩=true) (p:op=11\/op=12):ah Tryz.prog w0 58 [gl ρ ⟨op,n,[x]⟩] (iv (kJ ⟨op,n,[x]⟩)):=by
 have d:=Gn (w0:=w0) (ρ:=ρ) _ b;have f:yX x:=⟨b.1.mem x (by simp),by have:=b.2.1;simp only[bp]at this;omega⟩;have e:=Gm (w0:=w0) (ρ:=ρ) x f;obtain⟨R,a⟩:∃R,R=kJ ⟨op,n,[x]⟩:=⟨_,rfl⟩;rw[<-a];unfold kJ at a;rw[if_pos c]at a;simp only[Nq]at a;rw[c]at d;obtain⟨G,g⟩:∃G,G=qq x:=⟨_,rfl⟩;rw[<-g]at e a;obtain⟨h,i,j,m⟩:=x;simp only at a;clear b g c f;refine st Y6 rU .v ?_
 repeat' (first
  |(apply bK rU d)
  |refine og rU (ae.ind rfl rfl (cC (l:=[⟨h,i,j,m⟩]) (k:=0) rfl rfl) cD) ?_
  |refine bg rU (pl e) (λ_=>?_) λ_=>?_
  |(apply bK rU (Ew _))
  |refine cg rU (λo=>?_) λo=>?_
  |(refine fq ?_))
 all_goals clear d e
 all_goals first
  |exfalso;omega
  |refine dP ?_;rw[a];simp_all[nR];done
theorem acM (op:Int) (n:ByteArray) (x y:Tm) (e:mJ 100000000000 ⟨op,n,[x,y]⟩) (i:lD ⟨op,n,[x,y]⟩=true) (r:op ≠ 11/\op ≠ 12):ah Tryz.prog w0 58 [gl ρ ⟨op,n,[x,y]⟩] (iv (kJ ⟨op,n,[x,y]⟩)):=by
 have j:=Gn (w0:=w0) (ρ:=ρ) _ e;have F:=e.2.1;simp only[bp]at F;have f:yX x:=⟨e.1.mem x (by simp),by omega⟩;have g:yX y:=⟨e.1.mem y (by simp),by omega⟩;have m:=PR (w0:=w0) (ρ:=ρ) x y f.1 g.1;have h:=acC (w0:=w0) (ρ:=ρ) (a:=x) (b:=y) ⟨f.1,by grind[u5]⟩ ⟨g.1,by grind[u5]⟩;have o:dE ⟨op,n,[x,y]⟩=true:=by grind[lD]
 rw[HZ (uA o x (by simp)) (uA o y (by simp))]at h;have p:=Y7 (w0:=w0) (ρ:=ρ) op x y f g;obtain⟨R,d⟩:∃R,R=kJ ⟨op,n,[x,y]⟩:=⟨_,rfl⟩;rw[<-d];unfold kJ at d;rw[if_pos i]at d;simp only[Nq]at d;rw[if_neg r.1,if_neg r.2]at d;rw[i]at j;obtain⟨U,q⟩:∃U,U=X3 x y:=⟨_,rfl⟩;rw[<-q]at d;rw[show decide ((kX fL [(x,y)]).2=0\/(kX fL [(x,y)]).2=6)=U from q.symm]at h;obtain⟨V,s⟩:∃V,V=uz op x y:=⟨_,rfl⟩;rw[<-s]at p d;obtain⟨c,t⟩:∃c,c=(iH x y == 0):=⟨_,rfl⟩;rw[<-t]at m;have u:(iH x y=0) ↔ c=true:=by grind
 simp only[u]at d;clear e q s t u i f g o;obtain⟨v,w,z,A⟩:=x;obtain⟨B,C,D,E⟩:=y;refine st Y6 rU .v ?_
 repeat' (first
  |(apply bK rU j)
  |refine og rU (ae.ind rfl rfl (cC (l:=[⟨v,w,z,A⟩,⟨B,C,D,E⟩]) (k:=0) rfl rfl) cD) ?_
  |refine og rU (ae.ind rfl rfl (cC (l:=[⟨v,w,z,A⟩,⟨B,C,D,E⟩]) (k:=1) rfl rfl) cD) ?_
  |refine bg rU (pl m) (λ_=>?_) λ_=>?_
  |refine bg rU (pl h) (λ_=>?_) λ_=>?_
  |(apply bK rU p)
  |(apply bK rU (Ew _))
  |refine cg rU (λG=>?_) λG=>?_
  |(refine fq ?_))
 all_goals clear j m h p
 all_goals first
  |exfalso;omega
  |refine dP ?_;rw[d];simp_all[nR];done
theorem acN (g:Gl) (f:mJ 100000000000 g):ah Tryz.prog w0 58 [gl ρ g] (iv (kJ g)):=by
 cases d:lD g with
 |false=>exact acK g f d
 |true =>
  have e:=d;unfold lD nN at e;rw[al_,al_,decide_eq_true_eq,decide_eq_true_eq]at e;have b:=H0 e.2 (by omega);obtain⟨op,n,a⟩:=g;simp only at b e;unfold arity at b;by_cases c:op=11\/op=12
  ·rw[if_neg (by omega),if_pos c]at b
   match a,b with
   |[x],_=>exact acL op n x f d c
  ·rw[if_neg (by omega),if_neg c,if_pos (by omega)]at b
   match a,b with
   |[x,y],_=>exact acM op n x y f d ⟨λh=>c (.inl h),λh=>c (.inr h)⟩
end
end
section
attribute [local irreducible] ah aG ae ad
def ake:FQ 143 Tryz.f143:=aF Tryz.func143 Tryz.call143
def OJ:List Nat:=[2,0,1,5]
def aa3:FQ 243 Tryz.f243:=aF Tryz.func243 Tryz.call243
def vG:List Nat:=[1,4,5,2,0,8]
def aa4:FQ 142 Tryz.f142:=aF Tryz.func142 Tryz.call142
def agR:List Nat:=[2,0,3]
theorem agS (x:Tm):qq x=(aY [x]).isEmpty:=by
 unfold qq varsOf;cases aY [x] with
 |nil=>rfl
 |cons a l=>rw[bH,if_neg (by simp)];rfl
section
variable {w0:World}{ρ:Hd}
theorem vd (b:Bool):ah Tryz.prog w0 142 [.v (.bool b)] (iv (nR b)):=by
 cases b
 ·skip;refine st aa4 agR .v ?_
  repeat' (first
   |(refine fq ?_))
  exact dP rfl
 ·skip;refine st aa4 agR .v ?_
  repeat' (first
   |(refine fq ?_))
  exact dP rfl
theorem V5 (n:Nat):∀x:Tm,cR x<=n->ah Tryz.prog w0 243 [tm ρ x] (.v (.bool (mN x))):=by
 induction n with
 |zero=>intro x h;have:=iO x;omega
 |succ m d =>
  intro x c;rw[iO]at c;obtain⟨R,b⟩:∃R,R=mN x:=⟨_,rfl⟩;rw[<-b];obtain⟨k,i,n,a⟩:=x;rw[mN]at b;simp only at c;have e:=G8 (w0:=w0) n;obtain⟨O,o⟩:∃O,O=eB n:=⟨_,rfl⟩;rw[<-o]at e b;clear o;by_cases t:a.length=2;rotate_left
  ·clear d c;have u:R=if k=0\/k=1 then true else false:=by grind
   clear b;refine st aa3 vG .v ?_
   repeat' (first
    |refine bg vG (pl e) (λ_=>?_) λ_=>?_
    |refine cg vG (λf=>?_) λf=>?_
    |refine lg vG λm v=>?_
    |(refine fq ?_))
   all_goals first
    |exfalso;omega
    |refine bY ?_;rw[u];simp_all;done
  match a,t with
  |[x,y],_ =>
  simp only[bp]at c;have g:=d x (by omega);have j:=d y (by omega);clear d c;simp only[K6]at b;obtain⟨p,r⟩:∃P,P=mN x:=⟨_,rfl⟩;obtain⟨q,s⟩:∃Q,Q=mN y:=⟨_,rfl⟩;rw[<-r]at g b;rw[<-s]at j b;clear r s;refine st aa3 vG .v ?_
  repeat' (first
   |refine bg vG (pl e) (λ_=>?_) λ_=>?_
   |refine og vG (ae.ind rfl rfl (cC (l:=[x,y]) (k:=0) rfl rfl) cD) ?_
   |refine og vG (ae.ind rfl rfl (cC (l:=[x,y]) (k:=1) rfl rfl) cD) ?_
   |refine bg vG (pl g) (λ_=>?_) λ_=>?_
   |refine bg vG (pl j) (λ_=>?_) λ_=>?_
   |refine cg vG (λf=>?_) λf=>?_
   |refine lg vG λm v=>?_
   |(refine fq ?_))
  all_goals clear e g j
  all_goals (refine bY ?_;rw[b];simp_all;done)
theorem OK (x:Tm):ah Tryz.prog w0 243 [tm ρ x] (.v (.bool (mN x))):=V5 _ x (ac_ _)
theorem Gp (x:Tm) (d:yX x):ah Tryz.prog w0 143 [tm ρ x] (.v (.bool (qq x))):=by
 have h:=Mm (w0:=w0) (ρ:=ρ) [x];have e:=Qd (w0:=w0) (ρ:=ρ) [x] (by simp) ⟨d.1,trivial⟩;rw[agS];obtain⟨V,f⟩:∃V,V=aY [x]:=⟨_,rfl⟩;rw[<-f]at e ⊢;obtain⟨R,j⟩:∃R,R=V.isEmpty:=⟨_,rfl⟩;rw[<-j];clear f d;obtain⟨k,i,n,a⟩:=x;refine st ake OJ .v ?_;refine og OJ (ae.oZ rfl h ⟨cG _,trivial⟩ ⟨aew (ρ:=ρ) ⟨k,i,n,a⟩,trivial⟩) ?_
 refine ad.range (σ:=Unit) aI V 3 3 [] [(2,.pt 1 1 0 0)] (λ_=>[(1,.arr 1 [[.v (.bool false)]] 0 true),(2,.df)]) (λrest _=>rest=V) () rfl (λa c=>by grind) (λa c=>by obtain rfl:=ae_.1 c;exact .ip λb l=>by obtain rfl:=ae_.1 l;exact cG _) e rfl rfl rfl
  (by intro p g;simp only[ad_,as_,or_false]at g;rcases g with rfl;exact .pt (by decide)) rfl (λx=>⟨rfl,λa c=>by obtain rfl:=ae_.1 c;exact .v⟩)
  cz ?_ ?_
 ·rintro y rest _ m;refine gq OJ ?_;refine ad.uc [(1,.arr 1 [[.v (.bool false)]] 0 true),(2,.df)] [] cz ?_;refine gq OJ ?_;refine fq ?_;exact bY (by grind)
 ·rintro _ m;refine gq OJ ?_;refine fq ?_;exact bY (by grind)
end
end
section
attribute [local irreducible] ah aG ae ad
section
variable {w0:World}{ρ:Hd}
theorem Y8 (n:Nat):∀x:Tm,cR x<=n->ah Tryz.prog w0 244 [tm ρ x] (lF (nw x)):=by
 induction n with
 |zero=>intro x h;have:=iO x;omega
 |succ m z =>
  intro x r;rw[iO]at r;have c:=agO (w0:=w0) (ρ:=ρ) x;have A:=OA (w0:=w0) (ρ:=ρ) x.i;obtain⟨R,b⟩:∃R,R=nw x:=⟨_,rfl⟩;rw[<-b];obtain⟨k,i,n,a⟩:=x;rw[nw]at b;simp only at r c A;obtain⟨I,H⟩:∃I,I=gJ i:=⟨_,rfl⟩;rw[<-H]at A b;by_cases B:k=2/\a.length=2/\eB n=true;rotate_left
  ·rw[show (decide (k=2) && decide (a.length=2) && eB n)=false by
    cases h:(decide (k=2) && decide (a.length=2) && eB n) with
    |false=>rfl
    |true=>rw[al_,al_,decide_eq_true_eq,decide_eq_true_eq]at h;exact absurd ⟨h.1.1,h.1.2,h.2⟩ B]at c
   have S:R=if k=1 then (0,17) else if k=0 then (if I=true then (i,0) else (0,5)) else (0,11):=by rw[b,if_neg B]
   clear z r b B;refine st aaX iL ((jA _)) ?_
   repeat' (first
    |(refine bg iL (ae.oZ rfl A ⟨bt _,trivial⟩ ⟨To i,trivial⟩) (λd=>?_) λd=>?_)
    |(apply bK iL c)
    |refine cg iL (λd=>?_) λd=>?_
    |(refine fq ?_))
   all_goals clear A c
   all_goals (refine iQ ?_;rw[S];simp_all;done)
  obtain⟨rfl,J,C⟩:=B;rw[if_neg (by omega),if_neg (by omega),if_pos ⟨rfl,J,C⟩]at b
  match a,J with
  |[x,y],_ =>
  rw[C]at c;simp only[bp]at r;have D:=z x (by omega);have E:=z y (by omega);have o:=λp q=>acI (w0:=w0) n p q C;clear z r H C;simp only[X2]at b;obtain⟨⟨u,e⟩,K⟩:∃P,P=nw x:=⟨_,rfl⟩;obtain⟨⟨v,f⟩,L⟩:∃Q,Q=nw y:=⟨_,rfl⟩;rw[<-K]at D b;rw[<-L]at E b;simp only at b;have o:=o u v;obtain⟨⟨g,h⟩,M⟩:∃V,V=J6 n u v:=⟨_,rfl⟩;rw[<-M]at o b;rw[lF]at D E o;simp only at D E o;clear K L M;refine st aaX iL ((jA _)) ?_
  repeat' (first
   |(refine og iL (ae.ez rfl c (by exact⟨bQ ⟨2,i,n,[x,y]⟩,trivial⟩)) ?_)
   |exact absurd d (by decide)
   |refine cg iL (λd=>?_) λd=>?_
   )
  all_goals first
   |skip
  refine ad.aK (σ:=Int × Int × Int) 2 2 [] (λp=>[(1,.pt 0 4 0 0),(4,.pt 1 2 0 0),(32,.v (.int .i64 p.1))]) [] (λp=>[(0,.arr 4 [je ρ ⟨2,i,n,[x,y]⟩] 0 true),(1,.arr 2 [[iv p.2.1,iv p.2.2]] 0 true)])
   (λp=>p.1=0\/(p.1=1/\p.2.1=u/\e=0)\/(p.1=2/\p.2.1=u/\p.2.2=v/\e=0/\f=0)) (λp=>2 - p.1.toNat) (0,0,0) (.inl rfl) rfl cz ?_
  rintro⟨j,c0,T⟩ s;simp only at s;rcases s with s|⟨s,F,O⟩|⟨s,F,U,O,X⟩
  ·skip;refine gq iL ?_;refine cn (λt=>?_) λt=>?_;rotate_left
   ·exfalso;omega
   refine gq iL ?_;refine og iL (ae.ind rfl rfl (cC (l:=[x,y]) (k:=0) (by omega) rfl) cD) ?_;apply bK iL D;refine cn (λw=>?_) λw=>?_
   ·refine gq iL ?_
    repeat (refine ad.bh ?_;refine gq iL ?_)
    refine fq ?_;refine iQ ?_;rw[b];simp_all
   refine gq iL ?_;refine og iL (ae.K7 (m:=0) rfl rfl (by omega) (by decide)) ?_;refine ag iL λG W=>?_;refine ad.az (σ:=Int × Int × Int) (G,u,T) [] ?_ ?_ cz
   ·exact .inr (.inl ⟨by simp only;omega,rfl,w⟩)
   ·simp only;omega
  ·skip;refine gq iL ?_;refine cn (λt=>?_) λt=>?_;rotate_left
   ·exfalso;omega
   refine gq iL ?_;refine og iL (ae.ind rfl rfl (cC (l:=[x,y]) (k:=1) (by omega) rfl) cD) ?_;apply bK iL E;refine cn (λw=>?_) λw=>?_
   ·refine gq iL ?_
    repeat (refine ad.bh ?_;refine gq iL ?_)
    refine fq ?_;refine iQ ?_;rw[b];simp_all
   refine gq iL ?_;refine og iL (ae.K7 (m:=1) rfl rfl (by omega) (by decide)) ?_;refine ag iL λG W=>?_;refine ad.az (σ:=Int × Int × Int) (G,c0,v) [] ?_ ?_ cz
   ·exact .inr (.inr ⟨by simp only;omega,F,rfl,O,w⟩)
   ·simp only;omega
  ·skip;refine gq iL ?_;refine cn (λt=>?_) λt=>?_
   ·exfalso;omega
   refine gq iL ?_;refine ad.ao ?_;subst F U;refine gq iL ?_
   repeat' (first
    |refine og iL (ae.K7 (m:=0) rfl rfl rfl (by decide)) ?_
    |refine og iL (ae.K7 (m:=1) rfl rfl rfl (by decide)) ?_
    |(apply bK iL o)
    |(refine fq ?_))
   all_goals (refine iQ ?_;rw[b];simp_all)
theorem Rp (x:Tm):ah Tryz.prog w0 244 [tm ρ x] (lF (nw x)):=Y8 _ x (ac_ _)
end
end
section
attribute [local irreducible] ah aG ae ad
def akf:FQ 205 Tryz.f205:=aF Tryz.func205 Tryz.call205
def BD:List Nat:=[2,3,4,5,6,0,1,9,18,7,8]
def akg:FQ 146 Tryz.f146:=aF Tryz.func146 Tryz.call146
def Ts:List Nat:=[7,8,20,9,6,1,2,4,5,18,0,21,27,33]
def akh:FQ 141 Tryz.f141:=aF Tryz.func141 Tryz.call141
def Y9:List Nat:=[1,2,0]
def Y_:FQ 84 Tryz.f84:=aF Tryz.func84 Tryz.call84
def rV:List Nat:=[1,3,21,35,4,2,0,7,22,26,31,34,41,50]
def wu (a b:Tm):Int × Int × Int:=if !mN a || !mN b then (0,0,2) else if !qq a || !qq b then (0,0,0) else ((nw a).1,(nw b).1,nR (decide ((nw a).2=0) && decide ((nw b).2=0)))
def Tt (p:Int × Int × Int):AV:=.aL [iv p.1,iv p.2.1,iv p.2.2]
theorem V6 (p:Int × Int × Int):Pure (Tt p):=.aL (Iu .v .v .v)
theorem acO {S:af}{a b c:Int}{p:Int × Int × Int}(h:p=(a,b,c)):aP S (.aL [.v (.int .i64 a),.v (.int .i64 b),.v (.int .i64 c)]) (Tt p):=by
 subst h;exact .refl _
theorem Tu (op:Int) (a b:Tm):uz op a b=if (wu a b).2.2=1 then nR (SG op (wu a b).1 (wu a b).2.1) else (wu a b).2.2:=by grind[uz,wu,nw,nR]
section
variable {w0:World}{ρ:Hd}
theorem V7 (a b:Tm) (m:yX a) (h:yX b):ah Tryz.prog w0 205 [tm ρ a,tm ρ b] (Tt (wu a b)):=by
 have i:=OK (w0:=w0) (ρ:=ρ) a;have j:=OK (w0:=w0) (ρ:=ρ) b;have k:=Gp (w0:=w0) (ρ:=ρ) a m;have l:=Gp (w0:=w0) (ρ:=ρ) b h;have d:=Rp (w0:=w0) (ρ:=ρ) a;have g:=Rp (w0:=w0) (ρ:=ρ) b;obtain⟨R,c⟩:∃R,R=wu a b:=⟨_,rfl⟩;rw[<-c];unfold wu at c;obtain⟨v,n⟩:∃x,x=mN a:=⟨_,rfl⟩;obtain⟨w,o⟩:∃x,x=mN b:=⟨_,rfl⟩;obtain⟨GA,r⟩:∃x,x=qq a:=⟨_,rfl⟩;obtain⟨GB,s⟩:∃x,x=qq b:=⟨_,rfl⟩;obtain⟨⟨p,e⟩,t⟩:∃x,x=nw a:=⟨_,rfl⟩;obtain⟨⟨q,f⟩,u⟩:∃x,x=nw b:=⟨_,rfl⟩;rw[<-n]at i c;rw[<-o]at j c;rw[<-r]at k c;rw[<-s]at l c;rw[<-t]at d c;rw[<-u]at g c;rw[lF]at d g;simp only at d g c;clear n o r s t u m h;refine st akf BD ((V6 _)) ?_
 repeat' (first
  |refine bg BD (pl i) (λ_=>?_) λ_=>?_
  |refine bg BD (pl j) (λ_=>?_) λ_=>?_
  |refine bg BD (pl k) (λ_=>?_) λ_=>?_
  |refine bg BD (pl l) (λ_=>?_) λ_=>?_
  |(apply bK BD d)
  |(apply bK BD g)
  |(apply bK BD (vd _))
  |refine cg BD (λh=>?_) λh=>?_
  |(refine fq ?_))
 all_goals clear i j k l d g
 all_goals (refine acO ?_;rw[c];simp_all[nR];done)
theorem Tv (op:Int) (a b:Tm) (f:yX a) (e:yX b):ah Tryz.prog w0 146 [iv op,tm ρ a,tm ρ b] (iv (uz op a b)):=by
 have d:=V7 (w0:=w0) (ρ:=ρ) a b f e;obtain⟨R,c⟩:∃R,R=uz op a b:=⟨_,rfl⟩;rw[<-c];rw[Tu]at c;obtain⟨⟨x,y,s⟩,g⟩:∃V,V=wu a b:=⟨_,rfl⟩;rw[<-g]at d c;rw[Tt]at d;simp only at d c;clear g f e;unfold SG at c;refine st akg Ts .v ?_
 repeat' (first
  |(apply bK Ts d)
  |(apply bK Ts (vd _))
  |refine cg Ts (λe=>?_) λe=>?_
  |(refine fq ?_))
 all_goals clear d
 all_goals (refine dP ?_;rw[c];simp_all[nR];done)
theorem Jg (g:Gl) (c:mJ 100000000000 g):ah Tryz.prog w0 141 [gl ρ g] (.v (.bool (lD g))):=by
 have d:=zJ (w0:=w0) (ρ:=ρ) g (c.ok (by decide)) c.2.2;obtain⟨R,b⟩:∃R,R=lD g:=⟨_,rfl⟩;rw[<-b];unfold lD nN at b;obtain⟨G,e⟩:∃G,G=dE g:=⟨_,rfl⟩;rw[<-e]at d b;obtain⟨o,n,a⟩:=g;simp only at b;clear c e;refine st akh Y9 .v ?_
 repeat' (first
  |refine bg Y9 (pl d) (λ_=>?_) λ_=>?_
  |refine cg Y9 (λf=>?_) λf=>?_
  |(refine fq ?_))
 all_goals clear d
 all_goals (refine bY ?_;rw[b];simp_all<;>omega)
theorem agU (g:Gl) (c:mJ 100000000000 g) (f:lD g=false):ah Tryz.prog w0 84 [gl ρ g] (iv (kJ g)):=by
 have d:=Jg (w0:=w0) (ρ:=ρ) g c;have e:=zJ (w0:=w0) (ρ:=ρ) g (c.ok (by decide)) c.2.2;obtain⟨R,b⟩:∃R,R=kJ g:=⟨_,rfl⟩;rw[<-b];unfold kJ at b;rw[if_neg (by grind)]at b;rw[f]at d;obtain⟨G,h⟩:∃G,G=dE g:=⟨_,rfl⟩;rw[<-h]at e b;obtain⟨o,n,a⟩:=g;simp only at b;clear c h f;refine st Y_ rV .v ?_
 repeat' (first
  |(apply bK rV d)
  |refine bg rV (pl e) (λ_=>?_) λ_=>?_
  |(apply bK rV (vd _))
  |refine cg rV (λi=>?_) λi=>?_
  |(refine fq ?_))
 all_goals clear d e
 all_goals (refine dP ?_;rw[b];simp_all[nR];done)
theorem agV (op:Int) (n:ByteArray) (x:Tm) (b:mJ 100000000000 ⟨op,n,[x]⟩) (c:lD ⟨op,n,[x]⟩=true) (p:op=11\/op=12):ah Tryz.prog w0 84 [gl ρ ⟨op,n,[x]⟩] (iv (kJ ⟨op,n,[x]⟩)):=by
 have d:=Jg (w0:=w0) (ρ:=ρ) _ b;have f:yX x:=⟨b.1.mem x (by simp),by have:=b.2.1;simp only[bp]at this;omega⟩;have e:=Gp (w0:=w0) (ρ:=ρ) x f;obtain⟨R,a⟩:∃R,R=kJ ⟨op,n,[x]⟩:=⟨_,rfl⟩;rw[<-a];unfold kJ at a;rw[if_pos c]at a;simp only[Nq]at a;rw[c]at d;obtain⟨G,g⟩:∃G,G=qq x:=⟨_,rfl⟩;rw[<-g]at e a;obtain⟨h,i,j,m⟩:=x;simp only at a;clear b g c f;refine st Y_ rV .v ?_
 repeat' (first
  |(apply bK rV d)
  |refine og rV (ae.ind rfl rfl (cC (l:=[⟨h,i,j,m⟩]) (k:=0) rfl rfl) cD) ?_
  |refine bg rV (pl e) (λ_=>?_) λ_=>?_
  |(apply bK rV (vd _))
  |refine cg rV (λo=>?_) λo=>?_
  |(refine fq ?_))
 all_goals clear d e
 all_goals first
  |exfalso;omega
  |refine dP ?_;rw[a];simp_all[nR];done
theorem agW (op:Int) (n:ByteArray) (x y:Tm) (e:mJ 100000000000 ⟨op,n,[x,y]⟩) (i:lD ⟨op,n,[x,y]⟩=true) (r:op ≠ 11/\op ≠ 12):ah Tryz.prog w0 84 [gl ρ ⟨op,n,[x,y]⟩] (iv (kJ ⟨op,n,[x,y]⟩)):=by
 have j:=Jg (w0:=w0) (ρ:=ρ) _ e;have F:=e.2.1;simp only[bp]at F;have f:yX x:=⟨e.1.mem x (by simp),by omega⟩;have g:yX y:=⟨e.1.mem y (by simp),by omega⟩;have m:=adI (w0:=w0) (ρ:=ρ) x y f.1 g.1;have h:=Od (w0:=w0) (ρ:=ρ) (a:=x) (b:=y) f.1 g.1;have o:dE ⟨op,n,[x,y]⟩=true:=by grind[lD]
 rw[HZ (uA o x (by simp)) (uA o y (by simp))]at h;have p:=Tv (w0:=w0) (ρ:=ρ) op x y f g;obtain⟨R,d⟩:∃R,R=kJ ⟨op,n,[x,y]⟩:=⟨_,rfl⟩;rw[<-d];unfold kJ at d;rw[if_pos i]at d;simp only[Nq]at d;rw[if_neg r.1,if_neg r.2]at d;rw[i]at j;obtain⟨U,q⟩:∃U,U=X3 x y:=⟨_,rfl⟩;rw[<-q]at d;rw[show decide ((kX fL [(x,y)]).2=0\/(kX fL [(x,y)]).2=6)=U from q.symm]at h;obtain⟨V,s⟩:∃V,V=uz op x y:=⟨_,rfl⟩;rw[<-s]at p d;obtain⟨c,t⟩:∃c,c=(iH x y == 0):=⟨_,rfl⟩;rw[<-t]at m;have u:(iH x y=0) ↔ c=true:=by grind
 simp only[u]at d;clear e q s t u i f g o;obtain⟨v,w,z,A⟩:=x;obtain⟨B,C,D,E⟩:=y;refine st Y_ rV .v ?_
 repeat' (first
  |(apply bK rV j)
  |refine og rV (ae.ind rfl rfl (cC (l:=[⟨v,w,z,A⟩,⟨B,C,D,E⟩]) (k:=0) rfl rfl) cD) ?_
  |refine og rV (ae.ind rfl rfl (cC (l:=[⟨v,w,z,A⟩,⟨B,C,D,E⟩]) (k:=1) rfl rfl) cD) ?_
  |refine bg rV (pl m) (λ_=>?_) λ_=>?_
  |refine bg rV (pl h) (λ_=>?_) λ_=>?_
  |(apply bK rV p)
  |(apply bK rV (vd _))
  |refine cg rV (λG=>?_) λG=>?_
  |(refine fq ?_))
 all_goals clear j m h p
 all_goals first
  |exfalso;omega
  |refine dP ?_;rw[d];simp_all[nR];done
theorem acP (g:Gl) (f:mJ 100000000000 g):ah Tryz.prog w0 84 [gl ρ g] (iv (kJ g)):=by
 cases d:lD g with
 |false=>exact agU g f d
 |true =>
  have e:=d;unfold lD nN at e;rw[al_,al_,decide_eq_true_eq,decide_eq_true_eq]at e;have b:=H0 e.2 (by omega);obtain⟨op,n,a⟩:=g;simp only at b e;unfold arity at b;by_cases c:op=11\/op=12
  ·rw[if_neg (by omega),if_pos c]at b
   match a,b with
   |[x],_=>exact agV op n x f d c
  ·rw[if_neg (by omega),if_neg c,if_pos (by omega)]at b
   match a,b with
   |[x,y],_=>exact agW op n x y f d ⟨λh=>c (.inl h),λh=>c (.inr h)⟩
end
end
end Go.Proofs.YtbpabjmnhggajaaGreat
