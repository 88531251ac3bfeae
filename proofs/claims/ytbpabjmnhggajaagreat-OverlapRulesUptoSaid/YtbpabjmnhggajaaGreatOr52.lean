import Derived.Carry
import Derived.Deep.DeepHandedRow
import Derived.JoinedCond
import Derived.Lib.LaidTab
import Derived.OpenShut
import Derived.ProofKit
import Derived.RecoverIn
import Derived.TacticsIn
import Derived.TacticsInMore
import Derived.Test.YtbpabjmnhggajaaGreatProg
import Derived.Test.YtbpabjmnhggajaaGreatRows
import Derived.Test.YtbpabjmnhggajaaGreatOr51
namespace Go.Proofs.YtbpabjmnhggajaaGreat
set_option linter.all false
set_option maxRecDepth 100000
open Go.RowKit
section
open Go.ChangeShapes Go.WideShapes Go.ChangeAt Go.RowKit
theorem laidOut:laidOutB Tryz.prog=true:=by kernel_rfl
theorem Pv:mapsRowed Tryz.prog=true:=by kernel_rfl
theorem acR:Tryz.prog.stopsHeard=true:=by kernel_rfl
theorem acS:Tryz.prog.mayEnter=true:=by kernel_rfl
theorem fF {a b:Bool}(h:a=true) (k:b=true):(a && b)=true:=by rw[h,k];rfl
end
section
open Go.ChangeShapes Go.WideShapes Go.ChangeAt Go.RowKit
section
variable {H:Type}{enc:TypeId × Value->H}{P:Program}
theorem Cc (c:laidOutB P=true) {W e:World}(f:Below W.heap.size W e):∀{a:List TypeId}{vs:List Value}{ds:List (DataW H)}{ps:List MemPlace},
  (∀t ∈ a,P.readableRec t=true/\t < P.types.size)->DataW.TrodAll enc P W 0 (λ_=>true) true a vs ds ps->(∀x ∈ ps,x.block < W.heap.size) ->
  DataW.TrodAll enc P e 0 (λb=>decide (b < W.heap.size)) true a vs ds ps
 |[],vs,ds,ps,_,h,_=>by
  obtain⟨rfl,rfl,rfl⟩:=trodAll_nil h;exact trodAll_mk0
 |t::a,vs,ds,ps,g,h,i=>by
  obtain⟨v,j,d,k,p,q,rfl,rfl,rfl,l,m⟩:=trodAll_cons h;obtain⟨n,o⟩:=g t (by simp);exact trodAll_cons_mk (Below.trod c n o l f λx r=>i x (by grind)) (Cc c f (λt s=>g t (by grind)) m λx r=>i x (by grind))
theorem Zf {f:Func}{s:ChangeSpec}{W c:World}{args:Array Value}{ds:List (DataW H)}{before:List MemPlace}{d:TypeId}
  (n:laidOutB P=true) (o:∀t ∈ f.params.toList,P.readableRec t=true/\t < P.types.size) (a:s.vars=[]) (k:f.resultTypes=#[d]) (l:P.underlying d=some .bool)
  (e:s.fn H (ds++[])={ results:=[.lit (.bool true)],args:=ds }) (g:DataW.Whole enc P f.params.toList s.vars false W args.toList ds [] before) (m:Below W.heap.size W c) :
  s.post enc P f false true false false W args (.bool true) c:=by
 have b:=g;obtain⟨p,q,r,i,rfl,u,v⟩:=g;rw[a]at i;obtain⟨_,rfl⟩:=trodVars_none i;have w:∀x ∈ p,x.block < W.heap.size:=λx j=>b.lt x (by grind);refine⟨ds,[],p++[],[],p,[],b,?_,?_,?_,World.keptBut_mono (λx j=>⟨j,.inr (.inl (by grind))⟩) (m.frame (· ∈ p++[])),λh=>by grind⟩
 ·rw[e,k];exact trodAll_mk1 (shut_bool l true)
 ·grind[Cc]
 ·rw[e,a]
  rfl
end
theorem own:ownKnob Tryz.prog.godebug=none:=by kernel_rfl
noncomputable def DZ (os:Os):World:=World.holding Tryz.prog os ⟨#[],#[],[]⟩
theorem akj {g:Gh}{w:World}{a b c:AV}{x y z:Value}(h:aN g w a x) (k:aN g w b y) (l:aN g w c z):mj g w [a,b,c] #[x,y,z]:=⟨rfl,λi c z d e=>by grind⟩
end
namespace OverlapRules
open Go.ChangeShapes Go.WideShapes Go.ChangeAt Go.RowKit
theorem k0:(Rows.overlapRulesUptoRow.wf (OpenSpec.ofChange (Rows.OpenSpec.upto Rows.overlapRulesSpec).bare))=true:=by kernel_rfl
theorem k3:(Tryz.f3.params.all (Tryz.prog.readableRec ·))=true:=by kernel_rfl
theorem k4:(namedTie Tryz.prog Rows.overlapRulesUptoRow.named (Rows.OpenSpec.upto Rows.overlapRulesSpec).bare.vars)=true:=by kernel_rfl
theorem k5:((Rows.overlapRulesUptoRow.stops == []))=true:=by kernel_rfl
theorem k6:((Tryz.prog.stops == []))=true:=by kernel_rfl
theorem k7:((Rows.overlapRulesUptoRow.knobs == []))=true:=by kernel_rfl
theorem k8:((Tryz.prog.stopKnobs == []))=true:=by kernel_rfl
theorem k9:((Rows.overlapRulesUptoRow.inPlace == Tryz.prog.inPlace 3))=true:=by kernel_rfl
theorem k10:((Rows.overlapRulesUptoRow.unfollowed == Tryz.prog.unfollowed 3))=true:=by kernel_rfl
theorem k11:((Rows.overlapRulesUptoRow.recurses == Tryz.prog.recurses 3))=true:=by kernel_rfl
theorem k12:((Rows.overlapRulesUptoRow.named == Tryz.prog.varsNamed 3))=true:=by kernel_rfl
theorem k13:((Rows.overlapRulesUptoRow.maps == (Tryz.f3.params.toList++(Rows.OpenSpec.upto Rows.overlapRulesSpec).bare.plain.varTypes Tryz.prog).any (Tryz.prog.mapsRec ·)))=true:=by kernel_rfl
theorem k14:((Rows.overlapRulesUptoRow.ifaces == (Tryz.f3.params.toList++(Rows.OpenSpec.upto Rows.overlapRulesSpec).bare.plain.varTypes Tryz.prog).any (Tryz.prog.ifacesRec ·)))=true:=by kernel_rfl
theorem k15:((Rows.overlapRulesUptoRow.mapsOut == Tryz.prog.mapsAmong Tryz.f3.resultTypes.toList))=true:=by kernel_rfl
theorem k16:((Rows.overlapRulesUptoRow.loops == (Tryz.f3.params.toList++(Rows.OpenSpec.upto Rows.overlapRulesSpec).bare.plain.varTypes Tryz.prog).any (Tryz.prog.loopsFrom ·)))=true:=by kernel_rfl
theorem k17:((Rows.overlapRulesUptoRow.wideKeys == (Tryz.f3.params.toList++(Rows.OpenSpec.upto Rows.overlapRulesSpec).bare.plain.varTypes Tryz.prog++Tryz.f3.resultTypes.toList).any (Tryz.prog.wideKeysFrom ·)))=true:=by kernel_rfl
theorem k18:((Rows.OpenSpec.upto Rows.overlapRulesSpec).bare.vars.all (Tryz.prog.varReadable ·))=true:=by kernel_rfl
theorem k19:(Tryz.f3.resultTypes.all (λt=>Tryz.prog.readableRec t && decide (t < Tryz.prog.types.size)))=true:=by kernel_rfl
theorem k20:((Rows.overlapRulesUptoRow.ifacesOut == Tryz.f3.resultTypes.toList.any (Tryz.prog.ifacesRec ·)))=true:=by kernel_rfl
theorem k21:((Rows.overlapRulesUptoRow.loopsOut == Tryz.f3.resultTypes.toList.any (Tryz.prog.loopsFrom ·)))=true:=by kernel_rfl
theorem k22:((Rows.overlapRulesUptoRow.plainKeys == Tryz.prog.plainKeys))=true:=by kernel_rfl
theorem k23:(Rows.overlapRulesUptoRow.shortTexts.isNone)=true:=by kernel_rfl
theorem k26:((Rows.overlapRulesUptoRow.lifted == Tryz.prog.liftsFinal))=true:=by kernel_rfl
theorem k27:((Tryz.prog.make == some Rows.overlapRulesUptoRow.make))=true:=by kernel_rfl
theorem k28:((Rows.overlapRulesUptoRow.kinds == (if Rows.overlapRulesUptoRow.domain.isEmpty then [] else Tryz.f3.params.toList.map λt=>match Tryz.prog.underlying t with|some (.int k)=>some k|_=>none)))=true:=by kernel_rfl
theorem k29:((Rows.overlapRulesUptoRow.pinned == Rows.overlapRulesUptoRow.pinnedBy))=true:=by kernel_rfl
theorem k30:((Rows.overlapRulesUptoRow.veiled == (Tryz.f3.params.toList++(Rows.OpenSpec.upto Rows.overlapRulesSpec).bare.plain.varTypes Tryz.prog++Tryz.f3.resultTypes.toList).any (Tryz.prog.veiledRec ·)))=true:=by kernel_rfl
theorem k31:(Rows.overlapRulesUptoRow.veiledFits Tryz.prog Tryz.f3.params.toList (Tryz.f3.params.toList++(Rows.OpenSpec.upto Rows.overlapRulesSpec).bare.plain.varTypes Tryz.prog++Tryz.f3.resultTypes.toList))=true:=by kernel_rfl
end OverlapRules
theorem rj {α:Type}{μ:α->Nat}:∀{l:List α}{x:α},x ∈ l->μ x<=gF μ l
 |y::l,x,h=>by
  rw[gF];rcases ad_.1 h with rfl|h
  ·omega
  ·have:=rj (μ:=μ) h;omega
theorem ld {α:Type}{μ:α->Nat}(h:∀x,1<=μ x):∀l:List α,l.length<=gF μ l
 |[]=>ac_ _
 |x::l=>by
  have a:=h x;have b:=ld h l;rw[gF,aw_];omega
theorem xV {α:Type}{μ:α->Nat}:∀a b:List α,gF μ (a++b)=gF μ a+gF μ b
 |[],b=>by rw[aK_,gF];omega
 |x::a,b=>by rw[aR_,gF,gF,xV a b];omega
theorem ag2 (x:Tm):5<=mT x:=by obtain⟨k,i,n,a⟩:=x;rw[mT];omega
theorem Rz (l:List Tm):l.length<=tw l:=by rw[<-lS];exact ld (λx=>by have:=ag2 x;omega) l
mutual
theorem akk:∀(N:Nat) (x:Tm),N<=1099511627776->mT x<=N->x.ok
 |N,⟨k,i,n,a⟩,b,h=>by
  rw[mT]at h;have:=Rz a;rw[Tm.ok,LQ];exact⟨by omega,by omega,H_ N a b (by omega)⟩
theorem H_:∀(N:Nat) (l:List Tm),N<=1099511627776->tw l<=N->dG l
 |N,[],_,_=>by rw[dG];trivial
 |N,x::l,b,h=>by
  rw[tw]at h;rw[dG];exact⟨akk N x b (by omega),H_ N l b (by omega)⟩
end
mutual
theorem acT:∀x:Tm,cY x<=mT x
 |⟨k,i,n,a⟩=>by
  have:=uw a;rw[cY,mT];split<;>omega
theorem uw:∀l:List Tm,bw l<=tw l
 |[]=>by rw[bw,tw];exact ac_ _
 |x::l=>by
  have:=acT x;have:=uw l;rw[bw,tw];omega
end
theorem We {l:List Tm}(h:tw l<=1099511627776):nC l:=⟨H_ _ l (ac_ _) h,ay_ (uw l) h⟩
theorem Wf {x:Gl}(h:w9 x<=1099511627776):JP x:=by
 unfold w9 at h;exact⟨We (by omega),by omega⟩
theorem Ex (x:At):1<=sJ x:=by unfold sJ;omega
theorem Ey (x:Gl):1<=w9 x:=by unfold w9;omega
theorem Wg:∀l:List At,tw (fC l)<=gF sJ l
 |[]=>ac_ _
 |x::l=>by
  have h:=Wg l;rw[show fC (x::l)=x.a++fC l from rfl,<-lS,xV,lS,lS,gF,sJ];omega
theorem Wh:∀l:List Gl,tw (mn l)<=gF w9 l
 |[]=>ac_ _
 |x::l=>by
  have h:=Wh l;rw[show mn (x::l)=x.a++mn l from rfl,<-lS,xV,lS,lS,gF,w9];omega
theorem Tz:∀l:List At,(Db l).length<=gF sJ l
 |[]=>ac_ _
 |x::l=>by
  have h:=Tz l;have a:=A_ x.a;have b:=uw x.a;rw[show Db (x::l)=varsOf x.a++Db l from rfl,af_,gF,sJ];omega
theorem TA:∀l:List Gl,(B0 l).length<=gF w9 l
 |[]=>ac_ _
 |x::l=>by
  have h:=TA l;have a:=A_ x.a;have b:=uw x.a;rw[show B0 (x::l)=varsOf x.a++B0 l from rfl,af_,gF,w9];omega
theorem ag3 {r:Rl}(h:BV r<=1048576):z_ r:=by
 have c:=ld Ex r.aM;have d:=ld Ex r.rem;have e:=ld Ey r.guard;have f:=ld Ey r.body;have g:=Tz r.aM;have i:=Tz r.rem;have j:=TA r.guard;have k:=TA r.body;unfold BV at h;have at_:∀x:At,sJ x<=1048576->nC x.a/\x.n.size<=1099511627776:=λx a=>by
  unfold sJ at a;exact⟨We (by omega),by omega⟩
 refine⟨by omega,by omega,by omega,by omega,by omega,λx a=>at_ x ?_,λx a=>at_ x ?_,λx a=>Wf ?_,λx a=>Wf ?_,?_,?_⟩
 ·have:=rj (μ:=sJ) a;omega
 ·have:=rj (μ:=sJ) a;omega
 ·have:=rj (μ:=w9) a;omega
 ·have:=rj (μ:=w9) a;omega
 ·rw[tB,show Ht [r.aM,r.rem]=Db r.aM++(Db r.rem++[]) from rfl,aB_,af_];omega
 ·rw[yC,show sV [r.guard,r.body]=B0 r.guard++(B0 r.body++[]) from rfl,aB_,af_];omega
theorem ag4 {r:Rl}(h:BV r<=1048576):JZ r:=by
 have c:=ld Ex r.aM;have d:=ld Ex r.rem;have e:=ld Ey r.guard;have f:=ld Ey r.body;unfold BV at h;have a:=Wg (r.aM++r.rem);have b:=Wh (r.guard++r.body);rw[xV]at a b;have k3:tw (fC (r.aM++r.rem)++mn (r.guard++r.body))<=1048576:=by
  rw[<-lS,xV,lS,lS];omega
 have k4:=Rz (fC (r.aM++r.rem)++mn (r.guard++r.body));have k5:=uy (fC (r.aM++r.rem)++mn (r.guard++r.body));have k6:=uw (fC (r.aM++r.rem)++mn (r.guard++r.body));exact⟨by omega,by omega,by omega,H_ _ _ (ac_ _) (by omega),by omega⟩
theorem ag5 {p:Pg}(h:Un p<=1048576):Ac p/\∀r ∈ p.rs,JZ r:=by
 have c:=ld (μ:=JG) (λx=>by unfold JG;omega) p.ds;have f:=ld (μ:=BV) (λx=>by unfold BV;omega) p.rs;unfold Un at h;have a:∀r ∈ p.rs,BV r<=1048576:=λr a=>by
  have:=rj (μ:=BV) a;omega
 refine⟨⟨by omega,by omega,λd e=>?_,λr h=>ag3 (a r h)⟩,λr h=>ag4 (a r h)⟩;have:=rj (μ:=JG) e;unfold JG at this c h;omega
section
attribute [local irreducible] ah aG ae ad
def aon:FQ 51 Tryz.f51:=aF Tryz.func51 Tryz.call51
def D0:List Nat:=[5,0,4,9,1,17]
def aoo:FQ 23 Tryz.f23:=aF Tryz.func23 Tryz.call23
def y4:List Nat:=[11,3,1,2,4,10,8,0,18,50,9]
section
variable {w0:World}{ρ:Hd}
theorem ag6 (l:List Int) (n:Int) (q:l.length<=1000000):ah Tryz.prog w0 51 [aR ρ aI false l,iv n] (.v (.bool (l.contains n))):=by
 obtain⟨R,b⟩:∃R,R=l.contains n:=⟨_,rfl⟩;rw[<-b];refine st aon D0 .v ?_;refine ad.aK (σ:=Int) 0 0 [] (λi=>[(0,aR ρ aI false l),(1,iv n),(5,iv i)]) [] (λ_=>[]) (λi=>∃z:Nat,i=z/\z<=l.length/\R=(l.drop z).contains n) (λi=>l.length - i.toNat) 0 ⟨0,rfl,by omega,by grind⟩ rfl cq ?_;rintro i ⟨z,f,r,a⟩;clear b;refine gq D0 ?_;refine bS λm g=>?_;rw[au]at g;refine gq D0 ?_;refine cn (λh=>?_) λh=>?_;rotate_left
 ·rw[aA_ (by omega)]at a;refine gq D0 ?_;refine ad.ao ?_;refine gq D0 ?_;refine fq ?_;rw[a];exact .refl _
 obtain⟨x,j,o⟩:=aD (l:=l) (k:=z) (by omega);rw[o,cE_]at a;refine gq D0 ?_;refine og D0 (ae.ind rfl rfl (aB (l:=l) f j) (aA λ_=>rfl)) ?_;refine cn (λc=>?_) λc=>?_
 ·subst c;refine gq D0 ?_;refine ad.bh ?_;refine gq D0 ?_;refine fq ?_;rw[a];simp;exact .refl _
 have e:(n == x)=false:=by grind
 rw[e,cZ_]at a;refine gq D0 ?_;refine ag D0 λp s=>?_;refine ad.az (σ:=Int) p [] ⟨z+1,by omega,by omega,a⟩ ?_ cq;omega
theorem Pw (p:Pg) (i j:Nat) (c d:Int) (hi:c=i) (C:d=j) (a b:Rl) (D:p.rs[i]?=some a) (E:p.rs[j]?=some b) (l:List Int) (N:l.length<=1000000) (F:∀m ∈ l,-1<=m):ah Tryz.prog w0 23 [pg ρ p,iv c,iv d,aR ρ aI false l] (.v (.bool (H2 c d a.aM.length b.aM.length l))):=by
 obtain⟨R,h⟩:∃R,R=H2 c d a.aM.length b.aM.length l:=⟨_,rfl⟩;rw[<-h];unfold H2 at h;have g:h_ 1 (.arr 2 [od ρ p] 0 true):=mu (o5 p);have u:=aB (ρ:=ρ) (f:=iE ρ) (l:=p.rs) hi D;have v:=aB (ρ:=ρ) (f:=iE ρ) (l:=p.rs) C E;obtain⟨G,H⟩:=p;obtain⟨O,I,P,ag,Q,S⟩:=a;obtain⟨T,J,br,bg,U,V⟩:=b;simp only at h u v;unfold od at g;refine st aoo y4 .v ?_;refine ad.gen (λe:Bool=>.v (.bool e)) rfl (ae.bit rfl) λw r=>?_;have r:w=decide (c=d):=by grind
 rw[<-r]at h;clear r;refine gq y4 ?_;refine ad.aK (σ:=Int × Bool × Bool) 1 1 [] (λp=>[(1,iv c),(2,iv d),(3,aR ρ aI false l),(4,.pt 0 2 0 0),(9,.v (.bool p.2.1)),(10,.v (.bool p.2.2)),(11,iv p.1)]) [] (λ_=>[(0,.arr 2 [[ft ρ G,LM ρ H]] 0 true)]) (λp=>∃z:Nat,p.1=z/\z<=l.length/\R=((p.2.1 || Km I.length J.length (l.drop z) z) && !(p.2.2 && Kn (l.drop z) z))) (λp=>l.length - p.1.toNat) (0,false,w) ⟨0,rfl,by omega,by grind⟩ rfl (by exact⟨sq,rfl,⟨.inl ⟨_,rfl,.same g⟩,trivial⟩,rfl,rfl,rfl⟩) ?_;rintro⟨W,y,A⟩ ⟨z,s,X,n⟩;simp only at s n;clear h;refine gq y4 ?_;refine bS λm B=>?_;rw[au]at B;refine gq y4 ?_;refine cn (λK=>?_) λK=>?_;rotate_left
 ·rw[aA_ (by omega),Km,Kn]at n;refine gq y4 ?_;refine ad.ao ?_;cases y<;>cases A
  all_goals
   refine gq y4 ?_
   repeat' (first
    |(refine fq ?_))
  all_goals (subst n;exact .refl _)
 obtain⟨x,t,L⟩:=aD (l:=l) (k:=z) (by omega);have Y:=F x (aa_ t);rw[L,Km,Kn]at n;refine gq y4 ?_;refine ad.op rfl (ae.ind rfl rfl (aB (l:=l) s t) (aA λ_=>rfl)) ?_;cases y<;>cases A
 all_goals
  refine gq y4 ?_
  repeat' (first
   |refine og y4 (ae.ind rfl rfl u (aA λ_=>rfl)) ?_
   |refine og y4 (ae.ind rfl rfl (aB (l:=l) s t) (aA λ_=>rfl)) ?_
   |refine og y4 (ae.ind rfl rfl v (aA λ_=>rfl)) ?_
   |refine cg y4 (λM=>?_) λM=>?_
   |refine lg y4 λm B=>?_
   |refine cw λ_ _=>?_;refine gq y4 ?_
   )
 all_goals (rename_i q Z;first
  |refine ad.az (σ:=Int × Bool × Bool) (q,false,false) [] ⟨z+1,by grind,by omega,?_⟩ ?_ ⟨⟨.aC rfl .v,.aC rfl .v,.aC rfl (Pure.bm (bt _)),.aC rfl (.pt (by decide)),.aC rfl .v,.aC rfl .v,.aC rfl .v,trivial⟩,rfl,⟨.inl ⟨_,rfl,.same g⟩,trivial⟩,rfl,rfl,rfl⟩
  |refine ad.az (σ:=Int × Bool × Bool) (q,false,true) [] ⟨z+1,by grind,by omega,?_⟩ ?_ ⟨⟨.aC rfl .v,.aC rfl .v,.aC rfl (Pure.bm (bt _)),.aC rfl (.pt (by decide)),.aC rfl .v,.aC rfl .v,.aC rfl .v,trivial⟩,rfl,⟨.inl ⟨_,rfl,.same g⟩,trivial⟩,rfl,rfl,rfl⟩
  |refine ad.az (σ:=Int × Bool × Bool) (q,true,false) [] ⟨z+1,by grind,by omega,?_⟩ ?_ ⟨⟨.aC rfl .v,.aC rfl .v,.aC rfl (Pure.bm (bt _)),.aC rfl (.pt (by decide)),.aC rfl .v,.aC rfl .v,.aC rfl .v,trivial⟩,rfl,⟨.inl ⟨_,rfl,.same g⟩,trivial⟩,rfl,rfl,rfl⟩
  |refine ad.az (σ:=Int × Bool × Bool) (q,true,true) [] ⟨z+1,by grind,by omega,?_⟩ ?_ ⟨⟨.aC rfl .v,.aC rfl .v,.aC rfl (Pure.bm (bt _)),.aC rfl (.pt (by decide)),.aC rfl .v,.aC rfl .v,.aC rfl .v,trivial⟩,rfl,⟨.inl ⟨_,rfl,.same g⟩,trivial⟩,rfl,rfl,rfl⟩)
 all_goals first
  |simp only;omega
  |rw[n];grind
end
end
section
attribute [local irreducible] ah aG ae ad
def Ia (l:List Gl):Bool:=decide ((l.length:Int)<=6) && l.all BG
def Lb (r:Rl):Bool:=decide (r.aM.length<=3) && (decide (r.rem.length<=3) && (decide (r.aM.length+r.rem.length<=3) && (decide (r.guard.length<=6) && (decide (r.body.length<=6) && (r.aM.all y0 && (r.rem.all y0 && (Ia r.guard && Ia r.body)))))))
def Lc (p:Pg):Bool:=decide (p.ds.length<=12) && (decide (p.rs.length<=8) && p.rs.all Lb)
section
variable {w0:World}{ρ:Hd}
set_option maxHeartbeats 2000000 in
theorem TB (p:Pg) (K:Ac p):ah Tryz.prog w0 5 [pg ρ p] (.v (.bool (Lc p))):=by
 obtain⟨L,M,_,E⟩:=K;obtain⟨R,e⟩:∃R,R=Lc p:=⟨_,rfl⟩;rw[<-e];unfold Lc at e;obtain⟨r,d⟩:=p;dsimp only at e L M E;refine st qf5 g5 .v ?_
 repeat' (first
  |refine cg g5 (λi=>?_) λi=>?_
  |refine lg g5 λm F=>?_
  |(refine fq ?_))
 all_goals first
  |rw[e,decide_eq_false (show ¬ r.length<=12 by omega)];exact bY rfl
  |refine bY ?_;rw[e,decide_eq_false (show ¬ d.length<=8 by omega)];simp;done
  |skip
 rw[decide_eq_true (show r.length<=12 by omega),decide_eq_true (show d.length<=8 by omega),aL_,aL_]at e;refine ad.aK (σ:=Int) 1 1 [] (λq=>[(1,.pt 0 2 0 0),(3,.v (.int .i64 q))]) [] (λ_=>[(0,.arr 2 [od ρ ⟨r,d⟩] 0 true)]) (λq=>∃k:Nat,q=k/\k<=d.length/\R=(d.drop k).all Lb) (λq=>d.length - q.toNat) 0 ⟨0,rfl,by simp,by grind⟩ rfl cz ?_;rintro q ⟨k,O,Y,a⟩;clear e;refine gq g5 ?_;by_cases P:k < d.length
 ·obtain⟨x,G,Q⟩:=aD P;have c:=E x (bM G);have s:=Ry (w0:=w0) (ρ:=ρ) x.aM c.ke λy f=>(c.kx y f).1;have t:=Ry (w0:=w0) (ρ:=ρ) x.rem c.re λy f=>(c.rx y f).1;have u:=OP (w0:=w0) (ρ:=ρ) x.guard 6 c.g λy f=>(c.gx y f).1;have w:=OP (w0:=w0) (ρ:=ρ) x.body 6 c.b λy f=>(c.bx y f).1;have S:=c.ke;have U:=c.re;have V:=c.g;have W:=c.b;rw[Q,aY_,Lb]at a;obtain⟨H,z⟩:∃b,b=x.aM.all y0:=⟨_,rfl⟩;obtain⟨I,A⟩:∃b,b=x.rem.all y0:=⟨_,rfl⟩;obtain⟨B,C⟩:∃b,b=Ia x.guard:=⟨_,rfl⟩;obtain⟨D,h⟩:∃b,b=Ia x.body:=⟨_,rfl⟩;rw[<-z,<-A,<-C,<-h]at a;rw[<-z]at s;rw[<-A]at t;rw[show (decide ((x.guard.length:Int)<=6) && x.guard.all BG)=B from C.symm]at u;rw[show (decide ((x.body.length:Int)<=6) && x.body.all BG)=D from h.symm]at w;obtain⟨T,J⟩:∃T,T=(d.drop (k+1)).all Lb:=⟨_,rfl⟩;rw[<-J]at a;clear z A C h c;obtain⟨n,j,o,g,b,v⟩:=x;dsimp only at a s t u w S U V W;refine ad.int rfl (ae.len rfl) λZ X=>?_;rw[au]at X;refine gq g5 ?_
  repeat' (first
   |refine og g5 (ae.ind rfl rfl (aB (l:=d) O G) (aA λ_=>rfl)) ?_
   |refine bg g5 (pl s) (λ_=>?_) λ_=>?_
   |refine bg g5 (pl t) (λ_=>?_) λ_=>?_
   |refine bg g5 (pl u) (λ_=>?_) λ_=>?_
   |refine bg g5 (pl w) (λ_=>?_) λ_=>?_
   |refine cg g5 (λi=>?_) λi=>?_
   |refine lg g5 λm F=>?_
   |refine ag g5 λ_ _=>?_
   |refine ad.ao ?_;refine gq g5 ?_
   |refine ad.bh ?_;refine gq g5 ?_
   |(refine fq ?_))
  all_goals first
   |exfalso;omega
   |refine bY ?_;rw[a,decide_eq_false (show ¬ j.length<=3 by omega)];simp;done
   |refine bY ?_;rw[a,decide_eq_false (show ¬ o.length<=3 by omega)];simp;done
   |refine bY ?_;rw[a,decide_eq_false (show ¬ j.length+o.length<=3 by omega)];simp;done
   |refine bY ?_;rw[a,decide_eq_false (show ¬ g.length<=6 by omega)];simp;done
   |refine bY ?_;rw[a,decide_eq_false (show ¬ b.length<=6 by omega)];simp;done
   |refine bY ?_;rw[a,show H=false by grind];simp;done
   |refine bY ?_;rw[a,show I=false by grind];simp;done
   |refine bY ?_;rw[a,show B=false by grind];simp;done
   |refine bY ?_;rw[a,show D=false by grind];simp;done
   |(rw[decide_eq_true (show j.length<=3 by omega),decide_eq_true (show o.length<=3 by omega),decide_eq_true (show j.length+o.length<=3 by omega),decide_eq_true (show g.length<=6 by omega),decide_eq_true (show b.length<=6 by omega),show H=true by grind,show I=true by grind,show B=true by grind,show D=true by grind]at a
     simp only[aL_]at a;rw[J]at a;refine ad.az (σ:=Int) _ [] ?_ ?_ cz<;>first|omega|exact⟨k+1,by omega,by omega,a⟩)
 rw[ak_ (by omega),dk_]at a
 repeat' (first
  |refine cg g5 (λi=>?_) λi=>?_
  |refine lg g5 λm F=>?_
  |refine ad.ao ?_;refine gq g5 ?_
  |(refine fq ?_))
 all_goals first
  |exfalso;omega
  |rw[a];exact bY rfl
end
end
section
attribute [local irreducible] ah aG ae ad
def g4:List Nat:=[10,3,1,2,35,69,76,7,11,12,13,6,0,16,8,26,34,36,33,64,68,70,75,77,120]
end
theorem akl (v:Int):eh (vr v):=by grind[vr,eh]
theorem ag8 {v w:Int}:mL v (vr w) ↔ w=v:=by grind[vr,mL]
theorem Wi {v w:Int}(h:vr v=vr w):v=w:=by
 injection h
theorem aa7 (v:Int):(vr v).ok:=by
 rw[vr,Tm.ok,dG];exact⟨by simp,by decide,trivial⟩
def BH (v:Int):Tm:=if v=1 then vr 0 else vr v
theorem ag9:AY [(vr 0,vr 1)] BH [1]:=by
 refine⟨⟨λv=>?_,λv w h=>?_,λv w h=>?_,λe b=>?_,λf a v=>?_⟩,?_,λv=>?_⟩
 ·grind[BH,akl]
 ·grind[BH,ag8]
 ·grind[BH,Wi]
 ·grind[wD,BH]
 ·have h:=a (vr 0,vr 1) (by simp);simp only[wD]at h;unfold BH;split
  ·grind[wD]
  ·rw[wD]
 ·exact⟨λy h=>(by grind),trivial⟩
 ·grind[BH,Wi]
theorem ag_:gL [vr 0] [vr 1]=([⟨1,vr 0⟩],0):=by
 have r0:cd (vr 0)=true:=by kernel_rfl
 have a:cd (vr 1)=true:=by kernel_rfl
 have b:fL (vr 0)=false:=by kernel_rfl
 unfold gL;rw[if_neg (by grind),if_neg (by grind),if_pos (by grind),show [vr 0].zip [vr 1]=[(vr 0,vr 1)] from rfl,CC ag9];unfold IE;have e:BH 1=vr 0:=by grind[BH]
 rw[if_neg (by grind)];simp[e]
section
set_option maxHeartbeats 4000000
attribute [local irreducible] ah aG ae ad
noncomputable instance:FN 228:=⟨_,aF Tryz.func228 Tryz.call228⟩
noncomputable instance:FN 110:=⟨_,aF Tryz.func110 Tryz.call110⟩
noncomputable instance:FN 111:=⟨_,aF Tryz.func111 Tryz.call111⟩
noncomputable instance:FN 112:=⟨_,aF Tryz.func112 Tryz.call112⟩
noncomputable instance:FN 42:=⟨_,aF Tryz.func42 Tryz.call42⟩
noncomputable instance:FN 123:=⟨_,aF Tryz.func123 Tryz.call123⟩
noncomputable instance:FN 185:=⟨_,aF Tryz.func185 Tryz.call185⟩
noncomputable instance:FN 122:=⟨_,aF Tryz.func122 Tryz.call122⟩
noncomputable instance:FN 63:=⟨_,aF Tryz.func63 Tryz.call63⟩
noncomputable instance:FN 124:=⟨_,aF Tryz.func124 Tryz.call124⟩
noncomputable instance:FN 186:=⟨_,aF Tryz.func186 Tryz.call186⟩
noncomputable instance:FN 229:=⟨_,aF Tryz.func229 Tryz.call229⟩
noncomputable instance:FN 273:=⟨_,aF Tryz.func273 Tryz.call273⟩
def a0:At:=⟨⟨#[112]⟩,[vr 0]⟩
def r0 (m:ByteArray):Rl:=⟨⟨#[]⟩,[],[a0],[],[⟨0,m,[vr 0]⟩],1⟩
def p0:Pg:=⟨[⟨⟨#[112]⟩,1⟩,⟨⟨#[113]⟩,1⟩,⟨⟨#[114]⟩,1⟩],[r0 ⟨#[113]⟩,r0 ⟨#[114]⟩]⟩
def s0:EJ:=⟨[],[⟨1,⟨#[112]⟩,[vr 0]⟩],[],[],[],2,2,false⟩
def i0:AV:=aR .plain aI false [1]
def f0:AV:=.fn (.func 185) [] [.ip [i0]]
def c0 (k:Int):AV:=.agg [iv k,i0,eg .plain [⟨0,vr 0⟩]]
section
variable {w0:World}
theorem X7:ah Tryz.prog w0 254 [tl .plain [vr 0],tl .plain [vr 0]] (prs .plain [(vr 0,vr 0)]):=Yg [vr 0] [vr 0] (by decide) rfl
theorem ab8:ah Tryz.prog w0 228 [.sl true [],at_ .plain a0,at_ .plain a0] (.aL [eg .plain [⟨0,vr 0⟩],.v (.bool true)]):=px
theorem X8:ah Tryz.prog w0 42 [i0] i0:=px
theorem acU:ah Tryz.prog w0 123 [i0] f0:=px
theorem X9:ah Tryz.prog w0 185 [iv 0,iv 1,.ip [i0]] (.v (.bool true)):=px
theorem Wj (k:Int):ah Tryz.prog w0 122 [pg .plain p0,Jn .plain s0,iv k,f0] (.fn (.func 183) [] [.ip (od .plain p0),.ip [iv k],.ip (GQ .plain s0),.ip [f0]]):=px
theorem afv (m:ByteArray) (k:Int):ah Tryz.prog w0 63 [rl .plain (r0 m),Jn .plain s0,c0 k] (cE .plain [⟨0,m,[vr 0]⟩]):=px
theorem anq:ah Tryz.prog w0 68 [at_ .plain a0] (.v (.bool true)):=by
 have h:=zI (w0:=w0) (ρ:=.plain) a0 ⟨by decide,by rw[a0,dG,dG];exact⟨aa7 _,trivial⟩⟩ (by decide)
 rwa [show fH a0=true by kernel_rfl]at h
theorem aja:ah Tryz.prog w0 110 [tu .plain s0.store] (.v (.bool true)):=px
theorem ajb:ah Tryz.prog w0 111 [eg .plain []] (.v (.bool true)):=px
theorem ajc:ah Tryz.prog w0 112 [ye .plain []] (.v (.bool true)):=px
end
end
end Go.Proofs.YtbpabjmnhggajaaGreat
