import Derived.RecoverIn
import Derived.TacticsIn
import Derived.TacticsInMore
import Derived.Test.YtbdcmpknicjopaaGreatProg
import Derived.Test.YtbdcmpknicjopaaGreatTp31
namespace Go.Proofs.YtbdcmpknicjopaaGreat
set_option linter.all false
set_option maxRecDepth 100000
open Go.RowKit Proofs.Tryz
variable{B n sz:Nat}{J J':zy9}{L:List (List Int)}{N S S':ah}{O:Hd}{P:Program}{U:AA}{Y:World}{env:List Bd}{ex:Bool}{r:AV}{s s':XS}
namespace TheoryMoves
open Go.ChangeShapes Go.WideShapes Go.ChangeAt Go.RowKit
theorem k0:Rows.theoryMovesUptoRow.wf (OpenSpec.ofChange (Rows.OpenSpec.upto Rows.theoryMovesSpec).bare)=true:=by kernel_rfl
theorem k3:(Tryz.f4.params.all (prog.readableRec ·))=true:=by kernel_rfl
theorem k4:namedTie prog Rows.theoryMovesUptoRow.named (Rows.OpenSpec.upto Rows.theoryMovesSpec).bare.vars=true:=by kernel_rfl
theorem k5:(Rows.theoryMovesUptoRow.stops==[])=true:=by kernel_rfl
theorem k6:(prog.stops==[])=true:=by kernel_rfl
theorem k7:(Rows.theoryMovesUptoRow.knobs==[])=true:=by kernel_rfl
theorem k8:(prog.stopKnobs==[])=true:=by kernel_rfl
theorem k9:(Rows.theoryMovesUptoRow.inPlace==prog.inPlace 4)=true:=by kernel_rfl
theorem k10:(Rows.theoryMovesUptoRow.unfollowed==prog.unfollowed 4)=true:=by kernel_rfl
theorem k11:(Rows.theoryMovesUptoRow.recurses==prog.recurses 4)=true:=by kernel_rfl
theorem k12:(Rows.theoryMovesUptoRow.named==prog.varsNamed 4)=true:=by kernel_rfl
theorem k13:((Rows.theoryMovesUptoRow.maps==(Tryz.f4.params.toList++(Rows.OpenSpec.upto Rows.theoryMovesSpec).bare.plain.varTypes prog).any (prog.mapsRec ·)))=true:=by kernel_rfl
theorem k14:((Rows.theoryMovesUptoRow.ifaces==(Tryz.f4.params.toList++(Rows.OpenSpec.upto Rows.theoryMovesSpec).bare.plain.varTypes prog).any (prog.ifacesRec ·)))=true:=by kernel_rfl
theorem k15:(Rows.theoryMovesUptoRow.mapsOut==prog.mapsAmong Tryz.f4.resultTypes.toList)=true:=by kernel_rfl
theorem k16:((Rows.theoryMovesUptoRow.loops==(Tryz.f4.params.toList++(Rows.OpenSpec.upto Rows.theoryMovesSpec).bare.plain.varTypes prog).any (prog.loopsFrom ·)))=true:=by kernel_rfl
theorem k17:((Rows.theoryMovesUptoRow.wideKeys==(Tryz.f4.params.toList++(Rows.OpenSpec.upto Rows.theoryMovesSpec).bare.plain.varTypes prog++Tryz.f4.resultTypes.toList).any (prog.wideKeysFrom ·)))=true:=by kernel_rfl
theorem k18:((Rows.OpenSpec.upto Rows.theoryMovesSpec).bare.vars.all (prog.varReadable ·))=true:=by kernel_rfl
theorem k19:Tryz.f4.resultTypes.all (λt=>prog.readableRec t&&decide (t<prog.types.size))=true:=by kernel_rfl
theorem k20:((Rows.theoryMovesUptoRow.ifacesOut==Tryz.f4.resultTypes.toList.any (prog.ifacesRec ·)))=true:=by kernel_rfl
theorem k21:((Rows.theoryMovesUptoRow.loopsOut==Tryz.f4.resultTypes.toList.any (prog.loopsFrom ·)))=true:=by kernel_rfl
theorem k22:(Rows.theoryMovesUptoRow.plainKeys==prog.plainKeys)=true:=by kernel_rfl
theorem k23:Rows.theoryMovesUptoRow.shortTexts.isNone=true:=by kernel_rfl
theorem k26:(Rows.theoryMovesUptoRow.lifted==prog.liftsFinal)=true:=by kernel_rfl
theorem k27:(prog.make==some Rows.theoryMovesUptoRow.make)=true:=by kernel_rfl
theorem k28:(Rows.theoryMovesUptoRow.kinds==if Rows.theoryMovesUptoRow.domain.isEmpty then[] else Tryz.f4.params.toList.map λt=>match prog.underlying t with|some (.int k)=>some k|_=>none)=true:=by kernel_rfl
theorem k29:(Rows.theoryMovesUptoRow.pinned==Rows.theoryMovesUptoRow.pinnedBy)=true:=by kernel_rfl
theorem k30:((Rows.theoryMovesUptoRow.veiled==(Tryz.f4.params.toList++(Rows.OpenSpec.upto Rows.theoryMovesSpec).bare.plain.varTypes prog++Tryz.f4.resultTypes.toList).any (prog.veiledRec ·)))=true:=by kernel_rfl
theorem k31:Rows.theoryMovesUptoRow.veiledFits prog Tryz.f4.params.toList (Tryz.f4.params.toList++(Rows.OpenSpec.upto Rows.theoryMovesSpec).bare.plain.varTypes prog++Tryz.f4.resultTypes.toList)=true:=by kernel_rfl
end TheoryMoves
theorem aF.Iy{f:FuncId}{args args':List AV}{b:ah}(l:∀k o,N.get k=some o->S.get k=some o)(c:S.nx<=S'.nx)(y:∀k o,S'.get k=some o->S.get k=some o/\N.get k=none)(d:iP N args args')(h:aF P Y f args' S' r b):aF P Y f args S r b:=by
 refine⟨h.1,λF m A g n w z q s=>?_⟩;let⟨B,C⟩:=q.Iy l c y;have E:nC (g.still N) w args' n:=by
  refine⟨s.1.trans d.len,λi a x t c=>?_⟩;have G:i<args.length:=by rw[d.len];exact(aB_.1 t).1
  have u:=aw_ G;have J:St Y A g ⟨N.get,S.nx⟩ w:=q.forget (ad_ _) λj p K _=>l j p K;have L:=d.at i _ a u t;exact(L.mono (S:=N) (T:=⟨N.get,S.nx⟩) λ_ _ _ _ _ h=>h).rep J (s.2 i _ x u c)
 refine(h.2 F m A (g.still N) n w z C E).mono ?_;rintro e V⟨v,M,rfl,Q,R,k3⟩;exact⟨v,M,rfl,Q,R,B.trans k3⟩
structure Fr where
 t:Tr AV
 ds:List DE
inductive XR where|dn (ex:Exit) (F:Fr) (s:XS)|mr (cf:QF) (F:Fr) (s:XS)|no
abbrev Rec:=Bool->Nat->QF->Fr->XS->XR
structure Env where
 tab:Nat->Option ((QC×List QR)×Nat)ext:Nat->List AV->Option AV
 nat:Nat->List AV->Option Value
 cau:Nat->Option AV
 wm:Nat->Bool
 kok:Nat->Value->Bool
 keq:Value->Value->Bool
 seq:Nat->Value->Value->Option Bool
 sp:Nat->Option Nat
 fx:Nat->Bool
section
variable{E:Env}{rc:Rec}
theorem ao.emp{g:Nat}{r:AV}(h:∀A c,ao P Y g [.v (.slice A 0 c)] r):ao P Y g [.sl ex []] r:=by
 have j:∀A c,∀a∈[AV.v (.slice A 0 c)],Pure a:=λA c a d=>by simp only[ar_]at d;subst d;exact .v
 refine⟨(h none 0).1,ah.none_,((h none 0).Rw (j _ _) ah.none_).1,λF m A g b w n o k=>?_⟩;have p:b.size=1:=k.1;obtain⟨v,rfl⟩:∃v,b=#[v]:=by let⟨l⟩:=b;match l,p with|[x],_=>exact⟨x,rfl⟩
 have q:=k.2 0 _ v rfl rfl;let⟨B,c,e,_,_⟩:=vc q;subst e;refine((h B c).Rw (j _ _) ah.none_).2 F m A g _ w n o ⟨rfl,λi a x d f=>?_⟩;match i,d,f with|0,d,f =>cases oJ_ d;cases oJ_ f;exact .v
end
section
attribute [local irreducible] ao aF D H
def WA:=aC func164 call164
def GZ:List Nat:=[0,2,4]
def apN:=aC func327 call327
def alk:List Nat:=[3,0,2,1]
def apO:=aC func306 call306
def WB:List Nat:=[4,0,6,5,1,3,11]
def apP:=aC func267 call267
def WC:List Nat:=[3,4,8,0,1,9,6,18,5,20]
def ae8:=aC func234 call234
def kK:List Nat:=[5,11,6,4,1,10,12,0]
def apQ:=aC func171 call171
def alm:List Nat:=[3,4,1,0]
def UU(l:List Tm):kp B (.arr sz (O.h (List.map (kR O)) l) 0 ex):=ko λx _ a b=>tO x a b
theorem acH(l:List Tm):∀row∈O.h (List.map (kR O)) l,∀a∈row,Pure a:=by rw[O.eq];intro row b a c;obtain⟨x,_,rfl⟩:=aD_.1 b;exact tO x a c
theorem WD(A:Option Addr)(c:Nat):ab Y 164 [.v (.slice A 0 c)] (.sl true []):=by cases A with|none =>refine st WA GZ (.sl λr h=>X) ?_;refine H.op rfl (D.nil (b:=true) rfl rfl) ?_;refine I GZ ?_;refine fq ?_;exact .refl _|some A =>refine st WA GZ (.sl λr h=>X) ?_;refine H.op rfl (D.nil (b:=false) rfl rfl) ?_;refine I GZ ?_;refine H.op rfl (D.Ol rfl rfl) ?_;refine I GZ ?_;refine fq ?_;exact .refl _
theorem acI:ab Y 164 [tl O []] (tl O []):=by
 have h:ab Y 164 [tl O []] (.sl true []):=by rw[tl,bF];exact ao.emp WD
 exact ao.fz h (λS=>L7) (cZ _)
theorem acJ(x:Tm)(l:List Tm)(c:(x::l).length<=100000000000):aF prog Y 164 [tl O (x::l)] (aw [] 0) (.gr 0 4 (x::l).length) (aw [(0,.arr 4 (O.h (List.map (kR O)) (x::l)) 0 false)] 1):=by
 let⟨R,a⟩:=aq (x::l);have d:FD (aY O (kR O) false R)=some false:=by rw[a,bF];rfl
 rw[<-a]at c⊢;rw[<-Q2];refine sc 0 1 WA ?_;refine I GZ ?_;refine og GZ (D.nil d rfl) ?_;refine H.rP (f:=kR O) (ys:=R) rfl rfl rfl (λ_=>rfl) Z λh len e b=>?_;have b:len=R.length:=X;subst e;rw[<-b];refine I GZ ?_;refine fq ?_;exact⟨[(0,0)],.jB rfl rfl,⟨.inl ⟨_,rfl,.same (UU _)⟩,trivial⟩,rfl⟩
theorem aha(x:Bd)(v:Int):ab Y 327 [bd O x,.ip [iv v]] (.v (.bool (x.v==v))):=by
 let⟨i,k,j,n,a⟩:=x;refine st apN alk .v ?_;repeat' first|refine cg alk (λb=>?_) λb=>?_|refine fq ?_
 all_goals refine aK ?_;simp_all
theorem apR(x:Bd)(v:Int):zg prog Y (.fn (.func 327) [] [.ip [iv v]]) [bd O x] (x.v==v):=⟨_,_,rfl,⟨uu x,.ip λb a=>by cases ar_.1 a;exact .v,trivial⟩,aha x v⟩
theorem ahb(b:List Bd)(v:Int)(m:b.length<=1099511627776):ab Y 306 [a8 O b,iv v] (.aL [tm O (f_ b v).1,.v (.bool (f_ b v).2)]):=by
 have f:Pure (.fn (.func 327) [] [.ip [iv v]]):=.fn (λa c=>X) λa c=>by cases ar_.1 c;exact .ip λb e=>by cases ar_.1 e;exact .v
 have g:=aih (Y:=Y) (O:=O) (λx=>x.v==v) b _ [] _ m f λx _=>apR x v;have h:=Dh (λx:Bd=>x.v==v) b 0;have n:=B1 (λx:Bd=>x.v==v) b 0;let⟨j,i⟩:=aq (dp (λx:Bd=>x.v==v) b 0);rw[<-i]at g h n;let⟨R,d⟩:=aq (f_ b v);rw[<-d];unfold f_ at d;clear i;refine st apO WB (.aL λa c=>by simp only[al_,ax_,or_false]at c;rcases c with rfl|rfl;exact bH _;exact .v) ?_;repeat' first|refine ig WB (D.tt rfl g ⟨bI _,f,trivial⟩ .v ⟨.refl _,aI.fns trivial ⟨aI.box (cs:=[iv v]) (cs':=[iv v]) rfl ⟨.refl _,trivial⟩,trivial⟩,trivial⟩) λ_ _=>?_|refine cg WB (λe=>?_) λe=>?_|refine fq ?_
 grind[LF,Px];let⟨q,⟨t,u,w,y,z⟩,A,p,r⟩:=h Z;rw[r]at d;subst d;refine og WB (D.ind rfl rfl (fm (l:=b) (k:=q) Z p) (ec λ_=>rfl)) ?_;refine fq ?_;exact aI.of_eq rfl
theorem Nz{f:Tm->Tm}(a:List Tm)(g:a.length<=100000000000)(s:∀x∈a,ab Y 267 [a8 O env,tm O x] (tm O (f x))):ab Y 234 [a8 O env,tl O a] (tl O (a.map f)):=by cases a with
 |nil =>
  have c:=acI (Y:=Y) (O:=O);refine st ae8 kK (cZ _) ?_;repeat' first|refine H.op rfl (pl c) ?_;refine I kK ?_|refine bq (λb=>?_) λb=>?_<;>(try simp only[bW]at b)<;>(first|exact dy b|refine I kK ?_)|refine cr λm d=>?_;(try rw[az]at d);refine I kK ?_|refine cK λ_ _=>?_;refine I kK ?_|refine im λ_ _=>?_;refine I kK ?_|refine H.str rfl (D.cat rfl rfl (by assumption)) λ_ _=>?_;refine I kK ?_|refine xG kK ?_|refine rG kK ?_|refine fq ?_
  refine H.g5 (σ:=Int) 0 0 [] (λp=>[(5,tl O []),(10,.v (.int .i64 m)),(11,.v (.int .i64 p))]) [] (λ_=>[]) (λp=>p=0) (λp=>0) 0 rfl rfl cq ?_;rintro i rfl;refine I kK ?_;repeat' first|refine bq (λb=>?_) λb=>?_<;>(try simp only[bW]at b)<;>(first|exact dy b|refine I kK ?_)|refine cr λm d=>?_;(try rw[az]at d);refine I kK ?_|refine cK λ_ _=>?_;refine I kK ?_|refine im λ_ _=>?_;refine I kK ?_|refine H.str rfl (D.cat rfl rfl (by assumption)) λ_ _=>?_;refine I kK ?_|refine xG kK ?_|refine rG kK ?_|refine fq ?_
  all_goals first|exfalso;simp only[bi_]at d;omega|exact .refl _
 |cons t u =>have c:=acJ (Y:=Y) (O:=O) t u g;let⟨a,v⟩:=aq (t::u);rw[<-v]at c g s⊢;clear v;let⟨R,E⟩:=aq (a.map f);rw[<-E];let⟨F,G⟩:=aq a.length;rw[<-G]at c;refine st ae8 kK (cZ _) ?_;refine H.op rfl (D.mc [] [(0,some (.arr 4 (O.h (List.map (kR O)) a) 0 false))] c rfl ⟨.pure (cZ _),trivial⟩ (.gr rfl) trivial ⟨⟨0,_,rfl,rfl,.pure (acH _)⟩,trivial⟩) ?_;refine I kK ?_;refine H.int rfl (D.ng rfl) λm d=>?_;refine I kK ?_;refine cC (τ:=List Tm) 1 1 [] (λp=>[(0,a8 O env),(5,.gr 0 4 F),(10,.v (.int .i64 m)),(11,.v (.int .i64 p.1))]) [] (λp=>[(0,.arr 4 (O.h (List.map (kR O)) p.2) 0 false)]) a.length (λk p=>p.2.length=a.length/\p.2=(a.take k).map f++a.drop k) a ⟨rfl,aB⟩ ?_;rintro i k e j Q⟨J,w⟩;simp only at j J w;refine I kK ?_;refine bq (λz=>?_) λz=>?_<;>(try simp only[bW]at z);rotate_left;refine I kK ?_;refine xG kK ?_;refine H.fin (by conv=>lhs;cbv) ?_;have h:R=e:=X;rw[h,<-Q2];exact aI.grow rfl Z;let⟨x,A,K⟩:=aA (l:=a) (k:=k) Z;have L:e[k]?=some x:=X;have S:k<a.length:=Z;have B:=s x (aZ A);let⟨n,C⟩:=aq (f x);rw[<-C]at B;let⟨T,V,W,xa⟩:=x;have o:=dv (O:=O) (f:=kR O) L;rw[kR]at o;simp only at o;refine I kK ?_;refine H.op rfl (D.eQ rfl rfl j Z) ?_;refine H.op rfl (D.iM rfl rfl o rfl) ?_;refine I kK ?_;refine H.op rfl (pl B) ?_;refine I kK ?_;refine H.op rfl (D.eQ rfl rfl j Z) ?_;refine H.Jj (f:=kR O) (y:=n) rfl rfl rfl rfl rfl (λ_=>rfl) rfl Z λq r=>?_;refine I kK ?_;refine cK λM dU=>?_;refine I kK ?_;refine H.bK (M,q) [] ⟨k+1,X,Z,X,?_⟩ ?_ cz;simp only;have g:((a.take k).map f).length=k:=X;rw[r,w,cZ_ _ _ Z,g,cx_,K,List.set_cons_zero,cb_,A,ba_,C];simp;grind
theorem ZF(q:env.length<=1099511627776)(n:Nat):∀x:Tm,cO x<=n->n<=100000000000->ab Y 267 [a8 O env,tm O x] (tm O (iW env x)):=by induction n with|zero=>intro x h;have:=fJ x;omega|succ n o =>
  intro x p r;rw[fJ]at p;have s:=pW x.a;have j:=Nz (Y:=Y) (O:=O) (f:=iW env) (env:=env) x.a Z λy t=>o y (by have:=lj y t;omega) Z;have e:=ahb (Y:=Y) (O:=O) env x.i q;let⟨d,l⟩:=Nm env x.i;let⟨R,c⟩:=aq (iW env x);rw[<-c];let⟨k,i,m,a⟩:=x;rw[iW,uc]at c;simp only at j e d l c;clear o p r s;let⟨A,v⟩:=aq (a.map (iW env));rw[<-v]at j c;let⟨⟨⟨B,C,un,E⟩,b⟩,w⟩:∃L,L=f_ env i:=⟨_,rfl⟩;rw[<-w]at e d l;simp only at e d l;refine st apP WC (bH _) ?_;repeat' first|apply bk WC j|refine H.op rfl (pl e) ?_;cases b<;>refine I WC ?_|refine cg WC (λz=>?_) λz=>?_|refine fq ?_
  all_goals clear j e
  all_goals first
   |(have h:R=⟨k,i,m,A⟩:=by rw[c,if_neg Z,if_pos Z]
     rw[h];exact .refl _)
   |(have h:R=⟨k,i,m,a⟩:=by rw[c,if_neg Z,if_neg Z]
     rw[h];exact .refl _)|cases g:mI env i with
     |none =>
      have h:R=⟨k,i,m,a⟩:=by rw[c,if_pos Z,g]
      first|rw[h];exact .refl _|rw[g]at d;cases d
     |some u =>
      have h:R=u:=by rw[c,if_pos Z,g]
      first|rw[h,<-l u g];exact .refl _|rw[g]at d;cases d
def acK(a:env.length<=1099511627776)(x:Tm)(b:cO x<=100000000000):ab Y 267 [a8 O env,tm O x] (tm O (iW env x)):=ZF a _ x (ad_ _) b
theorem NC(c:env.length<=1099511627776)(g:Gl)(e:bE g.a<=100000000000):ab Y 171 [a8 O env,gl O g] (gl O (gy env g)):=by
 have b:=Nz (Y:=Y) (O:=O) (f:=iW env) (env:=env) g.a (by grind[pW]) λy h=>acK c y (by have:=lj y h;omega);rw[gy];let⟨o,n,a⟩:=g;simp only at b⊢;let⟨A,d⟩:=aq (a.map (iW env));rw[<-d]at b⊢;clear d e c;refine st apQ alm (jH _) ?_;repeat' first|apply bk alm b|refine fq ?_
 exact .refl _
def Ow:=aC func262 call262
def Ah:List Nat:=[0,2,4]
def ahc(l:List Bd):kp B (.arr sz (O.h (List.map (bP O)) l) 0 ex):=ko λx _ a b=>mz x a b
theorem WE(A:Option Addr)(c:Nat):ab Y 262 [.v (.slice A 0 c)] (.sl true []):=by cases A with|none =>refine st Ow Ah (.sl λr h=>X) ?_;refine og Ah (D.nil (b:=true) rfl rfl) ?_;refine fq ?_;exact .refl _|some A =>refine st Ow Ah (.sl λr h=>X) ?_;refine og Ah (D.nil (b:=false) rfl rfl) ?_;refine og Ah (D.Ol rfl rfl) ?_;refine fq ?_;exact .refl _
theorem R5:ab Y 262 [a8 O []] (.sl true []):=by rw[a8,bF];exact ao.emp WE
theorem acL(x:Bd)(l:List Bd)(c:(x::l).length<=100000000000):aF prog Y 262 [a8 O (x::l)] (aw [] 0) (.gr 0 5 (x::l).length) (aw [(0,.arr 5 (O.h (List.map (bP O)) (x::l)) 0 false)] 1):=by
 let⟨R,a⟩:=aq (x::l);have d:FD (a8 O R)=some false:=by rw[a,a8,bF];rfl
 rw[<-a]at c⊢;refine sc 0 1 Ow ?_;refine I Ah ?_;refine og Ah (D.nil d rfl) ?_;refine H.rP (f:=bP O) (ys:=R) rfl rfl rfl (λ_=>rfl) Z λh len e b=>?_;have b:len=R.length:=X;subst e;rw[<-b];refine I Ah ?_;refine fq ?_;exact⟨[(0,0)],.jB rfl rfl,⟨.inl ⟨_,rfl,.same (ahc _)⟩,trivial⟩,rfl⟩
def apT:=aC func336 call336
def alo:List Nat:=[3,0,2,1]
def gtI(e:List Bd)(y:Bd):Int:=dp (λx=>decide (y.v<x.v)) e 0
theorem K1{T:Type}(p:T->Bool):∀(l:List T)(k j:Nat),dp p l k=((k+j:Nat):Int)->(∀i x,i<j->l[i]?=some x->p x=false)/\∃x,l[j]?=some x/\p x=true|[],k,j,h=>by grind[dp]|a::l,k,j,h=>by rw[dp]at h;by_cases c:p a=true;grind;rw[if_neg c]at h;cases j with|zero=>exfalso;have:=UW p l (k+1);omega|succ j =>let⟨h1,x,h2,h3⟩:=K1 p l (k+1) j X;refine⟨λi z hi hz=>?_,x,X,h3⟩;cases i with|zero=>cases oJ_ hz;exact cn_.2 c|succ i=>exact h1 i z Z X;where UW {T:Type}(p:T->Bool):∀(l:List T)(k:Nat),dp p l k=-1\/(k:Int)<=dp p l k|[],k=>.inl rfl|a::l,k=>by rw[dp];split;grind;rcases UW p l (k+1) with h|h;grind;grind
theorem ahd(e:List Bd)(y:Bd)(j:Nat)(h:gtI e y=j):j<e.length/\nf e y=e.take j++[y]++e.drop j:=by obtain⟨d,x,a,f⟩:=K1 _ e 0 j (by rw[aG_];exact h);have b:=(aB_.1 a).1;refine⟨b,HE e y j Z (λi z g c=>?_) λz c=>?_⟩;grind;grind
theorem acM(e:List Bd)(y:Bd)(h:gtI e y<0):nf e y=e++[y]:=by have b:=B1 (λx:Bd=>decide (y.v<x.v)) e 0 h;rw[HE e y e.length (ad_ _) (λi z c a=>?_) λz a=>X,List.take_length,List.drop_length,aI_];have:=List.find?_eq_none.1 b z (as_ a);rw[decide_eq_true_eq]at this;omega
theorem alp(x y:Bd):ab Y 336 [bd O x,.ip (bP O y)] (.v (.bool (decide (y.v<x.v)))):=by
 let⟨i,k,j,n,a⟩:=x;let⟨c,d,e,f,g⟩:=y;refine st apT alo .v ?_;repeat' first|refine cg alo (λb=>?_) λb=>?_|refine fq ?_
 all_goals refine aK ?_;simp_all
def WG:=aC func337 call337
def eO:List Nat:=[0,1,7,2,8,9,6,16,22,31,68]
def Ox(l:List Bd):kp B (.arr sz (O.h (List.map (bP O)) l) 0 ex):=ko λx _ a b=>mz x a b
theorem ae_(l:List Bd):∀row∈O.h (List.map (bP O)) l,row.length=5/\row.all db=true:=by rw[O.eq];intro row a;obtain⟨x,_,rfl⟩:=aD_.1 a;exact⟨rfl,rfl⟩
theorem at9(w:World)(a b:Addr)(g i j k:Nat)(l m:TypeId)(d c:Nat)(h1:a.block≠b.block)(h2:w.shape? a.block=some (l,d))(h3:w.shape? b.block=some (m,c))(h4:c≠0)(f:d≠0)(h5:w.frozen? b=false)(h6:w.frozen? {block:=b.block,off:=c }=false):(callFunc 365 #[.slice (some a) g i,.slice (some b) j k]).run prog w=.ok (.value (.bool false)) w:=by rw[run_callFunc_extern func365 (by kernel_rfl) (by kernel_rfl) (by kernel_rfl) (e:=Extern.SlicesOverlaps.overlaps f365.params f365.resultTypes) (by kernel_rfl)];have h:=zw9 (P:=prog) w 28 4 102 underlying28 5 λw=>by kernel_rfl a b g i j k h1 l m d c h2 h3 h4 f h5 h6;have e:Extern.SlicesOverlaps.overlaps f365.params f365.resultTypes=Extern.SlicesOverlaps.overlaps #[28,28] #[4]:=rfl;rw[e];simp only[Sem.run_bind,h,Result.andThen_ok]
set_option maxHeartbeats 4000000 in theorem acN(e:List Bd)(y:Bd)(j:Nat)(hj:j<e.length)(hl:e.length<=10000000000):aF prog Y 337 [.gr 0 5 e.length,iv j,.sl true [bP O y]] (aw [(0,.arr 5 (O.h (List.map (bP O)) e) 0 false)] 1) (.gr 1 5 (e.length+1)) (aw [(1,.arr 5 (O.h (List.map (bP O)) (e.take j++[y]++e.drop j)) 0 false)] 2):=by
 refine aF.aki (k:=0) (rows:=O.h (List.map (bP O)) e) rfl Z az.symm λc Gm N L9=>?_;rw[az]at N;let⟨b,p⟩:=aq (O.h (List.map (bP O)) e++Gm);have P:b.length=c:=by rw[p,av_,az];exact N
 have J:b.take e.length=O.h (List.map (bP O)) e:=by rw[p,dW_ (by rw[az];exact ad_ _),aX_ (by rw[az];exact ad_ _)]
 have q:∀row∈b.take e.length,row.length=5/\row.all db=true:=by rw[J];exact ae_ e
 have x:∀row∈b,row.length=5:=by rw[p];intro row a;rcases aN_.1 a with a|a;exact(ae_ e row a).1;exact(L9 row a).1
 rw[<-p];let⟨n,hn⟩:=aq e.length;rw[<-hn]at hj hl N J q⊢;let⟨i,u⟩:∃i:Int,i=j:=⟨_,rfl⟩;rw[<-u];let⟨W,Q⟩:=aq (e.take j++[y]++e.drop j);rw[<-Q];have S:=at9;refine sc 1 2 WG ?_;clear p L9;refine I eO ?_;refine H.CT rfl rfl rfl rfl u Z λo1 l1 c1 _ _ _=>?_;refine I eO ?_;refine cr λm1 z=>?_;have z:m1=1:=z;refine I eO ?_;refine cn (λf=>?_) λf=>?_;omega;clear f;refine I eO ?_;refine lg eO λn2 ez=>?_;refine cn (λf=>?_) λf=>?_;omega;clear f;refine I eO ?_;refine ag eO λs hs=>?_;refine og eO (D.cap rfl) ?_;refine cn (λf=>?_) λf=>?_;have f:s>(c:Int):=f;have M0:c=n:=Z;refine I eO ?_;refine H.apA rfl rfl rfl rfl u Z ?_;refine I eO ?_;refine ag eO λs2 tY=>?_;refine ag eO λs3 T7=>?_;refine H.Wz (m:=n+1-j) rfl rfl rfl rfl Z Z Z Z Z rfl aD λg ff o l8=>?_;refine I eO ?_;refine H.ZC rfl rfl rfl rfl u Z λo2 T zB dI=>?_;refine I eO ?_;have v:g.length=n+1:=by rw[o,av_,bc_,bg_,bA_];omega
 refine H.Mk rfl rfl rfl jd bZ_ Z (aF_ _) λrow a=>by cases ar_.1 a;rfl λrow a=>by cases ar_.1 (bC_ a);rfl λh c3 d=>?_;have d:h=g.take o2++[bP O y].take (Nat.min [bP O y].length T)++g.drop (o2+Nat.min [bP O y].length T):=d;rw[show Nat.min [bP O y].length T=1 from cI_ (by rw[dI,l8];simp;omega),show List.take 1 [bP O y]=[bP O y] from rfl]at d;have V:h.length=n+1:=by rw[d,av_,av_,bc_,bg_,v,bf_];omega
 refine I eO ?_;refine ag eO λs4 hs4=>?_;refine H.ZC (i:=j+1) rfl rfl rfl rfl Z Z λo3 l3 A Rr=>?_;refine I eO ?_;refine H.CT (i:=j) rfl rfl rfl rfl u Z λo4 B c4 w C hc4=>?_;refine I eO ?_;have F:b.take n=b:=aX_ Z;refine H.Mk rfl rfl rfl (Nx rfl Z) (by rw[bc_,bg_];omega) Z (aF_ _) (λrow a=>x row (cw_ (bC_ a))) (λrow a=>(q row (by rw[F];exact cw_ (bC_ (bC_ a)))).2) λK c5 G=>?_;cases(Z:ff=n+1);have p:b=O.h (List.map (bP O)) e:=F.symm.trans J;have e4:(b.drop o4).take B=b.drop j:=by rw[w,C,aG_];exact aX_ (by rw[bg_];omega)
 rw[e4,show Nat.min (b.drop j).length l3=(b.drop j).length from cI_ (by rw[bg_];omega),aX_ (l:=b.drop j) (ad_ _),bg_,A,aG_]at G;have L:=ag8 (E:=b) (R2:=g) (R3:=h) (R4:=K) (r:=bP O y) Z (by rw[bD_]at o;rw[P,M0];exact o) (by rw[zB,aG_]at d;exact d) G;have BJ:K.take (n+1)=O.h (List.map (bP O)) W:=by rw[L,aX_ (by rw[av_,av_,bc_,bg_,bf_];omega),p,Q];simp only[O.eq,ba_,cW_,dt_,aH_,aV_]
 have aub:n+1<=K.length:=by rw[L,av_,av_,bc_,bg_,bf_];omega
 refine H.xy eO 4 (by conv=>lhs;cbv) ?_;refine H.B6 (Cv.akh (t:=9) rfl rfl aub) ?_;rw[BJ];refine I eO ?_;refine fq ?_;exact⟨[(1,1)],.jB rfl rfl,⟨.inl ⟨_,rfl,.same (Ox W)⟩,trivial⟩,rfl⟩;have f:¬s>(c:Int):=f;have M0:n+1<=c:=Z;refine I eO ?_;refine ag eO λs5 hs5=>?_;refine H.apC (i:=n+1) rfl rfl rfl rfl Z Z Z ?_;refine I eO ?_;refine ag eO λs6 hs6=>?_;refine H.CT (i:=j+1) rfl rfl rfl rfl Z Z λo3 l3 c3 A Rr zF=>?_;refine I eO ?_;refine og eO (D.atU rfl rfl rfl Z aD S) ?_;refine ag eO λs7 hs7=>?_;refine H.CT (i:=j+1) rfl rfl rfl rfl Z Z λo4 B c4 w C hc4=>?_;refine I eO ?_;refine H.CT (i:=j) rfl rfl rfl rfl u Z λo5 M c5 ho5 hl5 hc5=>?_;refine I eO ?_;have z:Nat.min ((b.drop o5).take M).length B=n-j:=by rw[show Nat.min ((b.drop o5).take M).length B=B from Nat.min_eq_right (by rw[bc_,bg_];omega)];omega
 have oZ:((b.drop o5).take M).take (n-j)=(b.drop j).take (n-j):=by rw[List.take_take,ho5,aG_,show min (n-j) M=n-j from cI_ Z]
 refine H.Mk rfl rfl rfl (Nx rfl Z) (by rw[bc_,bg_];omega) Z (aF_ _) (λrow a=>x row (cw_ (bC_ a))) (λrow a=>(q row (by rw[z,oZ,<-List.drop_take]at a;exact cw_ a)).2) λg c6 o=>?_;rw[z,oZ]at o;have v:g.length=c:=by rw[o,av_,av_,bc_,bc_,bg_,bg_];omega
 refine I eO ?_;refine H.CT (i:=j) rfl rfl rfl rfl u Z λo7 l7 c7 ho7 hl7 hc7=>?_;refine I eO ?_;refine H.Mk rfl rfl rfl jd bZ_ Z (aF_ _) λrow a=>by cases ar_.1 a;rfl λrow a=>by cases ar_.1 (bC_ a);rfl λh c8 d=>?_;have d:h=g.take o7++[bP O y].take (Nat.min [bP O y].length l7)++g.drop (o7+Nat.min [bP O y].length l7):=d;rw[show Nat.min [bP O y].length l7=1 from cI_ (by rw[hl7];simp;omega),show List.take 1 [bP O y]=[bP O y] from rfl]at d;have V:h.length=c:=by rw[d,av_,av_,bc_,bg_,v,bf_];omega
 have L:=acA (R:=b) (R2:=g) (R3:=h) (n:=n) (r:=bP O y) hj Z (by rw[w,aG_]at o;exact o) (by rw[ho7,aG_]at d;exact d);have BJ:h.take (n+1)=O.h (List.map (bP O)) W:=by rw[L,J,Q];simp only[O.eq,ba_,cW_,dt_,aH_,aV_]
 refine H.xy eO 4 (by conv=>lhs;cbv) ?_;refine H.B6 (Cv.apz (t:=0) rfl rfl Z Z) ?_;rw[BJ];refine I eO ?_;refine fq ?_;exact⟨[(1,0)],.jB rfl rfl,⟨.inl ⟨_,rfl,.same (Ox W)⟩,trivial⟩,rfl⟩
end
theorem acP(e:List Bd)(y:Bd)(h0:0<e.length)(j:e.length<=10000000000):aF prog Y 337 [.gr 0 5 e.length,iv e.length,.sl true [bP O y]] (aw [(0,.arr 5 (O.h (List.map (bP O)) e) 0 false)] 1) (.gr 1 5 (e.length+1)) (aw [(1,.arr 5 (O.h (List.map (bP O)) (e++[y])) 0 false)] 2):=by let⟨n,b⟩:=aq e.length;rw[<-b]at h0 j⊢;let⟨i,c⟩:∃i:Int,i=n:=⟨_,rfl⟩;rw[<-c];let⟨W,d⟩:=aq (e++[y]);rw[<-d];refine sc 1 2 WG ?_;refine I eO ?_;refine og eO (D.atS (i:=n) rfl rfl rfl c (ad_ _) h0) ?_;refine cr λk g=>?_;have g:k=1:=g;refine I eO ?_;refine cn (λa=>?_) λa=>?_;grind;clear a;refine I eO ?_;refine ig eO (D.ng rfl) λp q=>?_;refine cn (λa=>?_) λa=>?_;rotate_left;grind;clear a;refine I eO ?_;refine H.xI (f:=bP O) (ys:=[y]) rfl rfl rfl b (λ_=>rfl) (by rw[bF];rfl) (λ_=>rfl) (λ_=>rfl) X λs l h m=>?_;rw[<-d]at h;have o:l=n+1:=X;subst h o;clear m;refine I eO ?_;refine fq ?_;exact⟨[(1,1)],.jB rfl rfl,⟨.inl ⟨_,rfl,.same (Ox _)⟩,trivial⟩,rfl⟩
theorem acQ(y:Bd):aF prog Y 337 [.sl true [],iv 0,.sl true [bP O y]] (aw [] 0) (.gr 0 5 1) (aw [(0,.arr 5 (O.h (List.map (bP O)) [y]) 0 false)] 1):=by let⟨i,d⟩:∃i:Int,i=0:=⟨_,rfl⟩;rw[<-d];refine sc 0 1 WG ?_;refine I eO ?_;refine og eO (D.acG (l:=i) (h:=0) rfl rfl rfl (λrow o=>X) Z Z aD) ?_;refine cr λe b=>?_;have b:e=1:=b;refine I eO ?_;refine cn (λa=>?_) λa=>?_;grind;clear a;refine I eO ?_;refine cr λg c=>?_;have c:g=0:=c;refine I eO ?_;refine cn (λa=>?_) λa=>?_;rotate_left;grind;clear a;refine I eO ?_;refine H.rP (O:=O) (f:=bP O) (ys:=[y]) rfl rfl (by rw[bF];rfl) (λ_=>rfl) X λq j k m=>?_;have n:j=1:=X;rw[<-k];subst n;clear m;refine I eO ?_;refine fq ?_;exact⟨[(0,0)],.jB rfl rfl,⟨.inl ⟨_,rfl,.same (Ox _)⟩,trivial⟩,rfl⟩
section
attribute [local irreducible] ao aF D H
def afa:=aC func323 call323
def tT:List Nat:=[0,3,5,4,1,10]
theorem wF(l:List Bd):∀row∈O.h (List.map (bP O)) l,∀a∈row,Pure a:=by rw[O.eq];intro row b a c;obtain⟨x,_,rfl⟩:=aD_.1 b;exact mz x a c
theorem alu{S:ah}{i:Nat}{a:Ob}(h1:S.get i=some a):iC S [(i,a)]:=by intro p b;cases ar_.1 b;exact h1
set_option maxHeartbeats 4000000 in theorem ext_cons(e:List Bd)(y:Bd)(h0:0<e.length)(G:e.length<=10000000000):ab Y 323 [a8 O e,bd O y] (a8 O (nf e y)):=by
 have J:Pure (.fn (.func 336) [] [.ip (bP O y)]):=.fn (λa t=>X) λa t=>by cases ar_.1 t;exact .ip λb c=>mz y b c
 have u:=Pj (Y:=Y) (O:=O) (λx=>decide (y.v<x.v)) e _ [] _ Z J λx _=>⟨_,_,rfl,⟨uu x,.ip λb c=>mz y b c,trivial⟩,alp x y⟩;let⟨g,f⟩:=aq (gtI e y);have u:ab Y 308 [a8 O e,.fn (.func 336) [] [.ip (bP O y)]] (iv g):=by rw[f];exact u
 let⟨W,o⟩:=aq (nf e y);have r:=λj (h:gtI e y=(j:Nat))=>ahd e y j h;have v:=acM e y;rw[<-f,<-o]at v;rw[<-f,<-o]at r;rw[<-o];have w:∀q:Int,q=g/\0<=g\/g<0/\q=e.length->aF prog Y 337 [.gr 0 5 e.length,iv q,.sl true [bP O y]] (aw [(0,.arr 5 (O.h (List.map (bP O)) e) 0 false)] 1) (.gr 1 5 (e.length+1)) (aw [(1,.arr 5 (O.h (List.map (bP O)) W) 0 false)] 2):=by rintro q(⟨z,A⟩|⟨z,A⟩);let⟨k,s⟩:=dX_ A;let⟨K,B⟩:=r k s;rw[z,s,B];exact acN e y k K G;rw[A,v z];exact acP e y h0 G
 have C:W.length=e.length+1:=by by_cases h:g<0;grind;let⟨k,s⟩:=dX_ (a:=g) Z;let⟨K,B⟩:=r k s;rw[B,av_,av_,bc_,bg_,bf_];omega
 have E:aF prog Y 262 [a8 O e] (aw [] 0) (.gr 0 5 e.length) (aw [(0,.arr 5 (O.h (List.map (bP O)) e) 0 false)] 1):=by cases e with|nil=>cases h0|cons x l=>exact acL x l Z
 clear f o r v;let⟨L,N⟩:=aq e.length;rw[<-N]at w C E;have M:Pure (.sl true [bP O y]):=.sl λrow S a t=>by grind[mz]
 let⟨i,k,j,n,a⟩:=y;refine st afa tT (bI _) ?_;refine ig tT (D.tt rfl u ⟨bI _,J,trivial⟩ .v ⟨.refl _,aI.fns trivial ⟨aI.box (cs:=bP O ⟨i,⟨k,j,n,a⟩⟩) (cs':=bP O ⟨i,⟨k,j,n,a⟩⟩) rfl (iP.refl _ _),trivial⟩,trivial⟩) λq hq=>?_;refine cn (λc=>?_) λc=>?_;refine I tT ?_;refine cr λm Q=>?_;rw[az]at Q;have F:=w m (.inr ⟨Z,Z⟩);refine I tT ?_;refine H.gD rfl (bm.mc [] [] [(1,some (.arr 5 (O.h (List.map (bP O)) e) 0 false))] E rfl ⟨.pure (bI _),trivial⟩ (.gr rfl) (λp R=>X) (λT d=>trivial) ⟨⟨0,_,rfl,rfl,.pure (wF _)⟩,trivial⟩) ?_;refine I tT ?_;refine H.gD rfl (bm.mc [(0,1)] [(1,.arr 5 (O.h (List.map (bP O)) e) 0 false)] [(1,none),(2,none),(3,some (.arr 5 (O.h (List.map (bP O)) W) 0 false))] F rfl ⟨.gr rfl rfl,.pure .v,.pure M,trivial⟩ (.gr rfl) (alu rfl) (λT d=>⟨⟨_,d (1,_) aB,.pure (wF _)⟩,trivial⟩) ⟨⟨1,_,rfl,rfl,.pure (wF _)⟩,trivial⟩) ?_;refine I tT ?_;refine fq ?_;exact aI.grow rfl X;have F:=w q (.inl ⟨Z,Z⟩);refine I tT ?_;refine H.gD rfl (bm.mc [] [] [(1,some (.arr 5 (O.h (List.map (bP O)) e) 0 false))] E rfl ⟨.pure (bI _),trivial⟩ (.gr rfl) (λp R=>X) (λT d=>trivial) ⟨⟨0,_,rfl,rfl,.pure (wF _)⟩,trivial⟩) ?_;refine I tT ?_;refine H.gD rfl (bm.mc [(0,1)] [(1,.arr 5 (O.h (List.map (bP O)) e) 0 false)] [(1,none),(2,none),(3,some (.arr 5 (O.h (List.map (bP O)) W) 0 false))] F rfl ⟨.gr rfl rfl,.pure .v,.pure M,trivial⟩ (.gr rfl) (alu rfl) (λT d=>⟨⟨_,d (1,_) aB,.pure (wF _)⟩,trivial⟩) ⟨⟨1,_,rfl,rfl,.pure (wF _)⟩,trivial⟩) ?_;refine I tT ?_;refine fq ?_;exact aI.grow rfl X
set_option maxHeartbeats 4000000 in theorem ext_nil(y:Bd):ab Y 323 [a8 O [],bd O y] (a8 O (nf [] y)):=by
 have h:Pure (.fn (.func 336) [] [.ip (bP O y)]):=.fn (λa c=>X) λa c=>by cases ar_.1 c;exact .ip λb d=>mz y b d
 have l:ab Y 308 [a8 O [],.fn (.func 336) [] [.ip (bP O y)]] (iv (-1)):=Pj (Y:=Y) (O:=O) (λx=>decide (y.v<x.v)) [] _ [] _ aD h λx C=>X;have o:=acQ (Y:=Y) (O:=O) y;have s:=R5 (Y:=Y) (O:=O);let⟨W,t⟩:=aq [y];have u:W.length=1:=X;rw[show nf [] y=W from t.symm];have e:O.h (List.map (bP O)) [y]=O.h (List.map (bP O)) W:=X;rw[e]at o;let⟨g,v⟩:∃g:Int,g=-1:=⟨_,rfl⟩;rw[<-v]at l;have w:Pure (.sl true [bP O y]):=.sl λrow z a c=>by grind[mz]
 let⟨i,k,j,n,a⟩:=y;refine st afa tT (bI _) ?_;refine ig tT (D.tt rfl l ⟨bI _,h,trivial⟩ .v ⟨.refl _,aI.fns trivial ⟨aI.box (cs:=bP O ⟨i,⟨k,j,n,a⟩⟩) (cs':=bP O ⟨i,⟨k,j,n,a⟩⟩) rfl (iP.refl _ _),trivial⟩,trivial⟩) λq F=>?_;refine cn (λd=>?_) λd=>?_;rotate_left;grind;refine I tT ?_;refine cr λm f=>?_;rw[az]at f;have f:m=0:=f;have B:aF prog Y 337 [.sl true [],iv m,.sl true [bP O ⟨i,⟨k,j,n,a⟩⟩]] (aw [] 0) (.gr 0 5 1) (aw [(0,.arr 5 (O.h (List.map (bP O)) W) 0 false)] 1):=X;refine I tT ?_;refine H.eK rfl (λT=>pl s) ?_;refine I tT ?_;refine H.gD rfl (bm.mc [] [] [(1,some (.arr 5 (O.h (List.map (bP O)) W) 0 false))] B rfl ⟨.pure (.sl λr z=>X),.pure .v,.pure w,trivial⟩ (.gr rfl) (λp G=>X) (λT J=>trivial) ⟨⟨0,_,rfl,rfl,.pure (wF _)⟩,trivial⟩) ?_;refine I tT ?_;refine fq ?_;exact aI.grow rfl X
theorem WI(e:List Bd)(y:Bd)(a:e.length<=10000000000):ab Y 323 [a8 O e,bd O y] (a8 O (nf e y)):=by cases e with|nil=>exact ext_nil y|cons x l=>exact ext_cons _ y (Nat.succ_pos _) a
def afc:=aC func324 call324
def pY:List Nat:=[0,1,4,6,16]
theorem ahe(n:Int)(h0:0<n)(h1:n<=100000000000):aF prog Y 324 [.sl true [],iv n] (aw [] 0) (.gr 0 8 0) (aw [(0,.arr 8 (O.h (List.map (CK O)) []) 0 false)] 1):=by refine sc 0 1 afc ?_;refine I pY ?_;refine cn (λf=>?_) λf=>?_;grind;refine I pY ?_;refine ig pY (D.cap (m:=0) rfl) λc i=>?_;refine cr λq b=>?_;have b:q=0:=b;refine I pY ?_;refine ag pY λd l=>?_;refine ag pY λe o=>?_;refine cn (λg=>?_) λg=>?_;rotate_left;grind;refine I pY ?_;refine og pY (D.cap (m:=0) rfl) ?_;refine og pY (D.atO rfl rfl) ?_;refine og pY (D.ao9 rfl rfl Z Z aD) ?_;refine og pY (D.len rfl) ?_;refine H.op rfl (D.acz (j:=0) rfl rfl rfl aD Z) ?_;refine H.B6 (Cv.akw (O:=O) (CK O) (t:=25) (k:=0) rfl rfl) ?_;refine I pY ?_;refine fq ?_;exact⟨[(0,0)],.jB rfl rfl,⟨.inl ⟨_,rfl,.same (ko λx _ a h=>z8 x a h)⟩,trivial⟩,rfl⟩
def afd:=aC func301 call301
def fS:List Nat:=[11,3,27,0,6,2,10,12,9,5,20,26,28,25,8]
def Bj(O:Hd)(x:List (Tm×Tm)):List AV:=[vS O x]
theorem R7(L:List (List (Tm×Tm))):Pure (aY O (Bj O) true L):=en λx _ a b=>by cases ar_.1 b;exact oC x
theorem ND{T:Type}{L:List (List T)}{k:Nat}{x:List T}(h:L[k]?=some x):(L.take (k+1)).flatten=(L.take k).flatten++x:=by rw[cb_,h,dY_];simp
theorem ahf{T:Type}(L:List (List T))(k:Nat):(L.take k).flatten.length<=L.flatten.length:=by
 conv=>rhs;rw[<-du_ k L,dY_,av_]
 omega
theorem acR(l:List (Tm×Tm)):∀row∈O.h (List.map (CK O)) l,∀a∈row,Pure a:=by rw[O.eq];intro row b a c;obtain⟨x,_,rfl⟩:=aD_.1 b;exact z8 x a c
theorem ahg:ab Y 324 [.sl true [],iv 0] (.sl true []):=by let⟨n,g⟩:∃n:Int,n=0:=⟨_,rfl⟩;rw[<-g];refine st afc pY (.sl λr h=>X) ?_;refine bq (λa=>?_) λa=>?_<;>(try simp only[bW]at a);grind;refine I pY ?_;refine H.int rfl (D.cap (m:=0) rfl) λc i=>?_;refine I pY ?_;refine cr λq b=>?_;have b:q=0:=b;refine I pY ?_;refine cK λd j=>?_;refine I pY ?_;refine cK λe k=>?_;refine I pY ?_;refine bq (λf=>?_) λf=>?_<;>(try simp only[bW]at f);grind;refine I pY ?_;refine fq ?_;exact .refl _
theorem acS(L:List (List (Tm×Tm)))(G:L.length<=1000)(b:L.flatten=[]):ab Y 301 [aY O (Bj O) true L] (vS O []):=by
 have v:=ahg (Y:=Y);have J:=R7 (O:=O) L;have a:∀x∈L,x=[]:=λx a=>by rw[List.flatten_eq_nil_iff]at b;exact b x a
 clear b;refine st afd fS (oC _) ?_;refine cr λm w=>?_;rw[az]at w;refine I fS ?_;refine cC (τ:=Int) 0 0 [] (λp=>[(0,aY O (Bj O) true L),(9,aY O (Bj O) true L),(3,.v (.int .i64 p.2)),(10,.v (.int .i64 m)),(11,.v (.int .i64 p.1))]) [] (λp=>[]) L.length (λk p=>p.2=0) 0 rfl ?_;rintro i k z e M g;simp only at e g;refine I fS ?_;refine bq (λj=>?_) λj=>?_<;>(try simp only[bW]at j);rotate_left;·refine I fS ?_;refine H.lG ?_;rw[g];refine I fS ?_;refine H.op rfl (D.bO rfl v ⟨.sl λr h=>X,.v,trivial⟩) ?_;refine I fS ?_;refine cr λA B=>?_;rw[az]at B;refine I fS ?_;refine H.g5 (σ:=Int) 0 0 [] (λp=>[(25,aY O (Bj O) true L),(6,.sl true []),(26,.v (.int .i64 A)),(27,.v (.int .i64 p))]) [] (λp=>[]) (λp=>∃k:Nat,p=k/\k<=L.length) (λp=>L.length-p.toNat) 0 ⟨0,rfl,aB⟩ rfl cz ?_;rintro P⟨n,C,Q⟩;refine I fS ?_;refine bq (λo=>?_) λo=>?_<;>(try simp only[bW]at o);rotate_left;refine I fS ?_;refine xG fS ?_;refine fq ?_;rw[vS,bF];exact aI.wk;let⟨y,s,R⟩:=aA (l:=L) (k:=n) Z;cases a y (aZ s);refine I fS ?_;refine H.op rfl (D.ind rfl rfl (fm (l:=L) C s) (ec (f:=Bj O) (m:=1) λ_=>rfl)) ?_;refine I fS ?_;refine H.op rfl (D.Ly rfl (by show iB _ (vS O [])=some [];rw[vS,bF];exact jd)) ?_;refine I fS ?_;refine cK λc E=>?_;refine I fS ?_;refine H.bK c [] ⟨n+1,Z,Z⟩ ?_ cz;omega
 let⟨x,t,S⟩:=aA (l:=L) (k:=k) Z;cases a x (aZ t);refine I fS ?_;refine H.op rfl (D.ind rfl rfl (fm (l:=L) e t) (ec (f:=Bj O) (m:=1) λ_=>rfl)) ?_;refine I fS ?_;refine cr λq d=>?_;rw[az]at d;have d:q=0:=d;refine I fS ?_;refine cK λF T=>?_;refine I fS ?_;refine bq (λu=>?_) λu=>?_<;>(try simp only[bW]at u);grind;refine I fS ?_;refine cK λc E=>?_;refine I fS ?_;exact bN (c,F) [] (k+1) X
theorem acT(L:List (List (Tm×Tm)))(W:L.length<=1000)(h0:0<L.flatten.length)(h1:L.flatten.length<=100000000000):ab Y 301 [aY O (Bj O) true L] (vS O L.flatten):=by
 let⟨R,B⟩:=aq L.flatten;have a:∀k,(L.take k).flatten.length<=L.flatten.length:=ahf L;rw[<-B]at h0 h1 a⊢;have g:=ahe (Y:=Y) (O:=O) R.length Z Z;let⟨n,C⟩:∃n:Int,n=R.length:=⟨_,rfl⟩;rw[<-C]at g;have K2:=R7 (O:=O) L;refine st afd fS (oC _) ?_;refine cr λm E=>?_;rw[az]at E;refine I fS ?_;refine cC (τ:=Int) 0 0 [] (λp=>[(0,aY O (Bj O) true L),(9,aY O (Bj O) true L),(3,.v (.int .i64 p.2)),(10,.v (.int .i64 m)),(11,.v (.int .i64 p.1))]) [] (λp=>[]) L.length (λk p=>p.2=(L.take k).flatten.length) 0 aB ?_;rintro i k z j hk G;simp only at j G;refine I fS ?_;refine bq (λo=>?_) λo=>?_<;>(try simp only[bW]at o);rotate_left;·refine I fS ?_;refine H.lG ?_;cases(X:z=n);refine I fS ?_;refine H.op rfl (D.mc [] [(0,some (.arr 8 (O.h (List.map (CK O)) []) 0 false))] g rfl ⟨.pure (.sl λr h=>X),.pure .v,trivial⟩ (.gr rfl) trivial ⟨⟨0,_,rfl,rfl,.pure (acR _)⟩,trivial⟩) ?_;refine I fS ?_;refine cr λJ K=>?_;rw[az]at K;refine I fS ?_;refine cC (τ:=List (Tm×Tm)×Nat) 1 2 [(1,0)] (λp=>[(25,aY O (Bj O) true L),(6,.gr 1 8 p.2.2),(26,.v (.int .i64 J)),(27,.v (.int .i64 p.1))]) [] (λp=>[(1,.arr 8 (O.h (List.map (CK O)) p.2.1) 0 false)]) L.length (λk p=>p.2.1=(L.take k).flatten/\p.2.2=p.2.1.length) ([],0) ⟨aB,rfl⟩ ?_;rintro i2 b⟨M,len⟩s eT⟨t,c⟩;simp only at s t c;refine I fS ?_;refine bq (λu=>?_) λu=>?_<;>(try simp only[bW]at u);rotate_left;refine I fS ?_;refine xG fS ?_;refine fq ?_;cases(X:M=R);exact aI.grow rfl c;let⟨y,v,d_⟩:=aA (l:=L) (k:=b) Z;have d:=a (b+1);rw[ND v,av_,<-t]at d;refine I fS ?_;refine H.op rfl (D.ind rfl rfl (fm (l:=L) s v) (ec (f:=Bj O) (m:=1) λ_=>rfl)) ?_;refine I fS ?_;refine H.xI (f:=CK O) (ys:=y) rfl rfl rfl c (λ_=>rfl) rfl (λ_=>rfl) (λ_=>rfl) Z λN P h3 Q=>?_;refine I fS ?_;refine cK λe S=>?_;refine I fS ?_;exact bN (e,N,P) [(1,2)] (b+1) ⟨X,Q⟩
 let⟨x,w,aP⟩:=aA (l:=L) (k:=k) Z;have d:=a (k+1);rw[ND w,av_]at d;refine I fS ?_;refine H.op rfl (D.ind rfl rfl (fm (l:=L) j w) (ec (f:=Bj O) (m:=1) λ_=>rfl)) ?_;refine I fS ?_;refine cr λq T=>?_;rw[az]at T;refine I fS ?_;refine cK λV My=>?_;refine I fS ?_;refine bq (λA=>?_) λA=>?_<;>(try simp only[bW]at A);grind;refine I fS ?_;refine cK λe S=>?_;refine I fS ?_;exact bN (e,V) [] (k+1) X
theorem acU(a b:List (Tm×Tm))(h:(a++b).length<=100000000000):ab Y 301 [.sl true [[vS O a],[vS O b]]] (vS O (a++b)):=by
 have e:(.sl true [[vS O a],[vS O b]]:AV)=aY O (Bj O) true [a,b]:=by rw[bF];rfl
 have c:[a,b].flatten=a++b:=aB;rw[e];by_cases d:(a++b).length=0;grind[acS];grind[acT]
end
theorem ao.Iy{P:Program}{g:Nat}{l:List AV}{r a:AV}(h:ao P Y g l r)(b:∀S,aI S r a)(c:Pure a):ao P Y g l a:=by let⟨_,S',d⟩:=h;exact ao.zu d (b _) c
section
attribute [local irreducible] ao aF D H
def apU:=aC func303 call303
def BR:List Nat:=[7,4,2,0,6,8,5,16]
def apV:=aC func338 call338
def alv:List Nat:=[4,5,0,1]
def apW:=aC func339 call339
def alw:List Nat:=[4,5,0,1]
def apX:=aC func340 call340
def alx:List Nat:=[4,5,0,1]
def apY:=aC func343 call343
def WJ:List Nat:=[0,1,4]
def apZ:=aC func342 call342
def R8:List Nat:=[0,1,5,4,19]
def ap0:=aC func367 call367
def acV:List Nat:=[1,5,6,8,2,0]
def ap1:=aC func341 call341
def auc:List Nat:=[2,0,1]
def ap2:=aC func325 call325
def WK:List Nat:=[3,2,0,4,6,8,10,13]
def afe:=aC func305 call305
def lQ:List Nat:=[10,8,1,2,9,6,7,0,14,19,34,36]
def WL:=aC func304 call304
def jM:List Nat:=[1,2,0]
def aff:=aC func266 call266
def jD:List Nat:=[1,32,4,5,7,2,3,0,8,12,24,28,33,45,6]
theorem NF(l:List Int)(j:l.length<=1099511627776):ab Y 303 [aY O aV false l] (.v (.bool (l.all iF))):=by
 let⟨R,b⟩:=aq (l.all iF);rw[<-b];refine st apU BR .v ?_;repeat' first|refine lg BR λm n=>?_
 refine bD 0 0 [] (λi=>[(5,aY O aV false l),(6,.v (.int .i64 m)),(7,.v (.int .i64 i))]) [] (λ_=>[]) l.length (λk=>R=(l.drop k).all iF) (by simpa using b) λi k e o a=>?_;clear b;refine I BR ?_;by_cases f:k<l.length
 ·let⟨x,g,h⟩:=aA f;rw[h,aJ_]at a;let⟨p,d⟩:=aq ((l.drop (k+1)).all iF);rw[<-d]at a;repeat' first|refine og BR (D.bh e g) ?_|refine cg BR (λc=>?_) λc=>?_|refine ag BR λ_ _=>?_|refine xG BR ?_|refine rG BR ?_|refine fq ?_
  all_goals first|refine aK ?_;rw[a];unfold iF;simp_all;omega|omega|exact cB _ [] (k+1) (by rw[a,<-d,wu.2 Z,az_])
 ·skip;repeat' first|refine cg BR (λc=>?_) λc=>?_|refine xG BR ?_|refine fq ?_
  all_goals first|omega|rw[a,aq_ Z];exact aK rfl
theorem R9(x:Int):ab Y 303 [aY O aV false [x]] (.v (.bool (iF x))):=by have:=NF (Y:=Y) (O:=O) [x] aB;simpa using this
theorem ZG(x y:Int):ab Y 303 [aY O aV false [x,y]] (.v (.bool (iF x&&iF y))):=by have:=NF (Y:=Y) (O:=O) [x,y] aB;simpa using this
theorem aly(a b:Int)(h1:-2147483648<=a)(h2:a<=2147483648)(h3:-2147483648<=b)(h4:b<=2147483648):ab Y 338 [iv a,iv b] (mM (a+b,0)):=by
 refine st apV alv (kG _) ?_;repeat' first|refine ag alv λ_ _=>?_|refine fq ?_
 all_goals refine jJ ?_;simp_all
theorem ahh(a b:Int)(h1:-2147483648<=a)(h2:a<=2147483648)(h3:-2147483648<=b)(h4:b<=2147483648):ab Y 339 [iv a,iv b] (mM (a-b,0)):=by
 refine st apW alw (kG _) ?_;repeat' first|refine ag alw λ_ _=>?_|refine fq ?_
 all_goals refine jJ ?_;simp_all
theorem ahi(a b:Int)(h1:-2147483648<=a)(h2:a<=2147483648)(h3:-2147483648<=b)(h4:b<=2147483648):ab Y 340 [iv a,iv b] (mM (a*b,0)):=by
 refine st apX alx (kG _) ?_;repeat' first|refine H.int rfl (D.abP rfl rfl Z Z Z Z) λq c=>?_;have d:=mbd c Z Z Z Z;refine I alx ?_|refine fq ?_
 all_goals refine jJ ?_;simp_all
theorem K3(a b:Int)(f:b≠0)(h1:-2147483648<=a)(h2:a<=2147483648):ab Y 342 [iv a,iv b] (iv (a.fdiv b)):=by
 let⟨R,c⟩:=aq (a.fdiv b);rw[<-c];rw[aeA f]at c;have d:decide (a<0)≠decide (b<0)↔a<0/\¬b<0\/¬a<0/\b<0:=by by_cases h1:a<0<;>by_cases h2:b<0<;>simp[h1,h2]
 simp only[d]at c;clear d;refine st apZ R8 .v ?_;repeat' first|refine H.int rfl (D.ajR rfl rfl Z Z Z) λq g=>?_;have h:=qbd g Z Z;refine I R8 ?_|refine ig R8 (D.ata rfl rfl Z) λr i=>?_|exact dy e|refine cg R8 (λe=>?_) λe=>?_|refine ag R8 λ_ _=>?_|refine fq ?_
 all_goals refine dx ?_;subst_vars;split<;>omega
theorem ap3(a b:Int)(d:b≠0)(h1:-2147483648<=a)(h2:a<=2147483648)(h3:-2147483648<=b)(h4:b<=2147483648):ab Y 343 [iv a,iv b] (iv (a-a.fdiv b*b)):=by
 have c:=K3 (Y:=Y) a b d h1 h2;have e:=Um d h1 h2;let⟨F,f⟩:=aq (a.fdiv b);rw[<-f]at c e⊢;refine st apY WJ .v ?_;repeat' first|apply bk WJ c|refine H.int rfl (D.abP rfl rfl Z Z Z Z) λq c=>?_;have g:=mbd c Z Z Z Z;refine I WJ ?_|refine ag WJ λ_ _=>?_|refine fq ?_
 all_goals refine dx ?_;simp_all
def Bl(f:FuncId):AV:=.v (.func (.func f) #[] #[])
theorem NG(q:FuncId):ab Y 341 [Bl q] (.fn (.func 367) [] [.ip [Bl q]]):=by
 refine st ap1 auc (.fn (λa c=>by cases c) λa c=>by cases ar_.1 c;exact .ip λb d=>by cases ar_.1 d;exact .v) ?_;repeat' first|refine fq ?_
 refine aI.fns ?_ ?_;exact trivial;exact⟨aI.box (cs:=[Bl q]) (cs':=[Bl q]) rfl ⟨.refl _,trivial⟩,trivial⟩
def K4(n:ByteArray):AV:=if n.toList=(⟨⟨[43]⟩⟩:ByteArray).toList then Bl 338 else if n.toList=(⟨⟨[45]⟩⟩:ByteArray).toList then Bl 339 else if n.toList=(⟨⟨[42]⟩⟩:ByteArray).toList then Bl 340 else if n.toList=(⟨⟨[47]⟩⟩:ByteArray).toList then .fn (.func 367) [] [.ip [Bl 342]] else if n.toList=(⟨⟨[37]⟩⟩:ByteArray).toList then .fn (.func 367) [] [.ip [Bl 343]] else .v .nilFunc
theorem R_(n:ByteArray):Pure (K4 n):=by
 have h:∀q,Pure (.fn (.func 367) [] [.ip [Bl q]]):=λq=>.fn (λa c=>by cases c) λa c=>by cases ar_.1 c;exact .ip λb d=>by cases ar_.1 d;exact .v
 unfold K4;repeat' split
 all_goals first|exact h _|exact .v
theorem afg(n:ByteArray):ab Y 325 [.v (.string n)] (K4 n):=by
 have c:=NG (Y:=Y) 342;have d:=NG (Y:=Y) 343;have a:=R_ n;let⟨R,b⟩:=aq (K4 n);rw[<-b]at a⊢;unfold K4 at b;refine st ap2 WK a ?_;repeat' first|apply bk WK c|apply bk WK d|refine cg WK (λe=>?_) λe=>?_|refine fq ?_
 all_goals clear c d a
 all_goals refine aI.of_eq ?_;rw[b];simp_all[Bl];done
theorem ZH(q:FuncId)(a b r:Int)(d:b≠0->ab Y q [iv a,iv b] (iv r)):ab Y 367 [iv a,iv b,.ip [Bl q]] (mM (if b=0 then(0,12) else(r,0))):=by
 let⟨R,c⟩:=aq (if b=0 then((0:Int),(12:Int)) else(r,0));rw[<-c];refine st ap0 acV (kG _) ?_;repeat' first|apply bk acV (d (by assumption))|refine cg acV (λe=>?_) λe=>?_|refine fq ?_
 all_goals refine jJ ?_;rw[c];simp_all
structure Frm where
 g:Gl
 id:Int
 occ:Int
def frR(O:Hd)(x:Frm):List AV:=[iv x.g.op,.v (.string x.g.n),tl O x.g.a,iv x.id,iv x.occ]
def ZI(O:Hd)(l:List Frm):AV:=aY O (frR O) false l
def aud:=aC func28 call28
def gF:List Nat:=[14,15,18,1,22,13,17,6,5,19,20,16,21,12,0,35,41,47,74,96,2,3,4,24,113]
def xZ(O:Hd)(l:List Int):List AV:=[aY O aV false l]
def yu(O:Hd)(L:List (List Int)):AV:=aY O (xZ O) false L
theorem NH(l:List Int):∀a∈xZ O l,Pure a:=λa b=>by cases ar_.1 b;exact bZ _
def tU(L:List (List Int)):Pure (yu O L):=en λx _ a b=>NH x a b
def wG(L:List (List Int)):kp B (.arr sz (O.h (List.map (xZ O)) L) 0 ex):=ko λx _ a b=>NH x a b
theorem acW{S:ah}:aI S (.sl true [[.sl true []]]) (yu O [[]]):=by
 rw[yu,bF,aH_,aV_,xZ,bF,aV_];refine .sl rfl (λi r d b c=>?_) λi j r d a e b c f g=>?_;match i,b,c with|0,b,c=>cases oJ_ b;cases oJ_ c;rfl
 grind[aI.wk]
theorem G0{P0:List Im}{h:At}:∀L:List (List Int),(nu P0 h L).length<=L.length*P0.length|[]=>by grind[nu]|l::L=>by have:=G0 (P0:=P0) (h:=h) L;unfold nu at this⊢;rw[aW_,av_,bq_,aC_,aL_,bx_];have a:=dZ_ (r9 h) P0;omega
theorem WM(P0:List Im)(h:At)(l:List Int)(L:List (List Int)):nu P0 h (l::L)=((P0.filter (r9 h)).map λx=>l++[x.id])++nu P0 h L:=by grind[nu]
theorem ZJ{P0:List Im}{h:At}{i:Nat}(a:∀l∈L,l.length=i):∀l∈nu P0 h L,l.length=i+1:=λl b=>by grind[nu]
theorem Sa{a:ByteArray}{b:List Tm}{x:Im}:r9 ⟨a,b⟩ x=true↔x.n.toList=a.toList/\x.a.length=b.length:=by grind[r9]
theorem Ml:(O.h (List.map (xZ O)) L).length=L.length:=az
theorem WN(p:Pg)(s:c_)(k:Nat)(j:Int)(r:Rl)(mG:j=k)(hk:p.rs[k]?=some r)(hr:KY r)(hs:KZ s)(h3:(r.aQ++r.rem).length<=3)(h5:s.store.length<=500):ab Y 28 [pg O p,kS O s.store,a8 O s.binds,er O s.known,ky O s.bf,iv j] (yu O (Cz s r j)):=by
 have S:=FA (Y:=Y) (O:=O) r X;have aue:=λa h=>apE (Y:=Y) (O:=O) p s k j r a mG hk hr hs h;have jh:=m8 (O:=O) p;let⟨R,v⟩:=aq (Cz s r j);rw[<-v];unfold Cz at v;let⟨B,RY⟩:=aq (r.aQ++r.rem);rw[<-RY]at S v h3;let⟨V,hfE⟩:=aq λa=>Jh s r j a;have WO:∀a:List Int,a.length<=1000000->ab Y 37 [pg O p,kS O s.store,a8 O s.binds,er O s.known,ky O s.bf,iv j,aY O aV false a] (vx O (V a)):=λa h=>X;rw[show(λa=>(Jh s r j a).isSome)=λa=>(V a).isSome by grind]at v;clear aue hfE RY;let⟨W,pr⟩:=p;let⟨sg,c,sb,sf,sk,sn,RZ,sfl⟩:=s;let⟨rn,rk,rr,rg,rb,rv⟩:=r;simp only at h5 v WO hk;clear hr hs;let⟨T,hT⟩:=aq (jf c B [[]]);rw[<-hT]at v;refine st aud gF (tU _) ?_;refine og gF (D.bh mG hk) ?_;apply bk gF S;refine H.cv (Cv.Qy (t:=14) (a':=yu O [[]]) (N:=ah.none_) (λk o h=>by cases h) (ad_ _) (λk o h=>⟨h,rfl⟩) (λh=>by cases show AV.sl true [[.sl true []]]=AV.u from h) acW) ?_;refine cC (τ:=List (List Int)) 1 1 [] (λp=>[(1,kS O c),(2,a8 O sb),(3,er O sk),(4,ky O sf),(5,.v (.int .i64 j)),(6,.pt 0 2 0 0),(13,fI O B),(14,yu O p.2),(15,.v (.int .i64 p.1))]) [] (λ_=>[(0,.arr 2 [jk O ⟨W,pr⟩] 0 true)]) B.length (λi p=>T=jf c (B.drop i) p.2/\p.2.length<=500^i/\∀l∈p.2,l.length=i) [[]] ⟨X,aB,aB⟩ (hC:=by exact⟨by exact⟨.aJ rfl (Pure.bu (dQ _)),.aJ rfl (Pure.bu (bI _)),.aJ rfl (Pure.bu (a7 _)),.aJ rfl (Pure.bu (eN _)),.aJ rfl .v,.aJ rfl (.pt aD),.aJ rfl (Pure.bu (cQ _)),.aJ rfl (Pure.bu (tU _)),.aJ rfl .v,trivial⟩,rfl,⟨.inl ⟨_,rfl,.arr (by exact⟨kq,trivial⟩)⟩,trivial⟩,rfl,rfl,rfl⟩) ?_;rintro ii i L jR Zc⟨d,hL,ql⟩;simp only at jR d hL ql;clear hT;refine I gF ?_;refine lg gF λq1 sw=>?_;refine cn (λbY=>?_) λbY=>?_;rotate_left;·rw[aR_ Z,jf]at d;rw[d]at v;have K2:Pure (yu O L):=tU _;have hL3:∀l∈L,l.length<=1000000:=λl w=>X;have hL4:L.length<=125000000:=aA_ hL (aA_ (dC_ aD (show i<=3 by omega)) aD);clear S d hL ql;refine I gF ?_;refine xG gF ?_;refine cC (τ:=List (List Int)×Nat) 1 2 [] (λp=>[(1,kS O c),(2,a8 O sb),(3,er O sk),(4,ky O sf),(5,.v (.int .i64 j)),(6,.pt 0 2 0 0),(14,yu O L),(21,.gr 1 1 p.2.2),(22,.v (.int .i64 p.1))]) [] (λp=>[(0,.arr 2 [jk O ⟨W,pr⟩] 0 true),(1,.arr 1 (O.h (List.map (xZ O)) p.2.1) 0 false)]) L.length (λz p=>R=p.2.1++(L.drop z).filter (λa=>(V a).isSome)/\p.2.2=p.2.1.length/\p.2.1.length<=z) ([],0) ⟨X,rfl,aB⟩ (hC:=by exact⟨sq,rfl,⟨.inl ⟨_,rfl,.arr (by exact⟨kq,trivial⟩)⟩,.inr rfl,trivial⟩,rfl,rfl,rfl⟩) ?_;rintro zi z⟨C,len⟩y ID⟨d,A,haz⟩;simp only at y d A haz;clear v;refine I gF ?_;refine cr λq4 II=>?_;rw[Ml]at II;refine I gF ?_;refine cn (λbS=>?_) λbS=>?_;rotate_left;refine I gF ?_;refine xG gF ?_;refine fq ?_;rw[aR_ Z,List.filter_nil,aI_]at d;rw[d];exact aI.grow rfl A;let⟨l,w,dI⟩:=aA (l:=L) (k:=z) Z;have he:=WO l (hL3 l (aZ w));rw[dI,cj_]at d;let⟨o,ho⟩:=aq (V l);rw[<-ho]at he d;have rl:=dv (O:=O) (f:=xZ O) w;let⟨e,b,iY,he',vL⟩:=yY (O:=O) o;rw[iY]at he;cases o with|none =>cases(vL:b=false);rw[if_neg aB]at d;refine I gF ?_;refine og gF (D.bh y w) ?_;refine og gF (D.bO rfl he (by exact⟨jh,dQ _,bI _,a7 _,eN _,.v,bZ _,trivial⟩)) ?_;refine ag gF λg E=>?_;exact bN (g,C,len) [] (z+1) ⟨d,A,X⟩ (hC:=by exact⟨sq,rfl,⟨.inl ⟨_,rfl,.arr (by exact⟨kq,trivial⟩)⟩,.inl ⟨_,rfl,.same (wG _)⟩,trivial⟩,rfl,rfl,rfl⟩)|some e1 =>cases(vL:b=true);rw[if_pos aB]at d;refine I gF ?_;refine og gF (D.bh y w) ?_;refine og gF (D.bO rfl he (by exact⟨jh,dQ _,bI _,a7 _,eN _,.v,bZ _,trivial⟩)) ?_;refine og gF (D.bh y w) ?_;refine H.app (x:=l) (f:=xZ O) rfl rfl rfl A (λ_=>rfl) rfl rfl rfl rfl Z λF n2 h1 h2=>?_;refine I gF ?_;refine ag gF λg E=>?_;exact bN (g,F,n2) [(1,2)] (z+1) ⟨X,h2,X⟩ (hC:=by exact⟨sq,rfl,⟨.inl ⟨_,rfl,.arr (by exact⟨kq,trivial⟩)⟩,.inl ⟨_,rfl,.same (wG _)⟩,trivial⟩,rfl,rfl,rfl⟩)
 let⟨⟨n,u⟩,hx,aP⟩:=aA (l:=B) (k:=i) Z;rw[aP,jf]at d;let⟨M,hM⟩:=aq (nu c ⟨n,u⟩ L);have FU:=G0 (P0:=c) (h:=⟨n,u⟩) L;have hMm:=ZJ (P0:=c) (h:=⟨n,u⟩) ql;rw[<-hM]at d FU hMm;have hL2:L.length<=250000:=aA_ hL (aA_ (dC_ aD (show i<=2 by omega)) aD);have hM2:M.length<=L.length*500:=aA_ FU (dO_ _ h5);have K2:Pure (yu O L):=tU _;clear S FU v WO;refine I gF ?_;refine cC (τ:=List (List Int)×Nat) 1 2 [] (λp=>[(1,kS O c),(2,a8 O sb),(3,er O sk),(4,ky O sf),(5,.v (.int .i64 j)),(6,.pt 0 2 0 0),(13,fI O B),(14,yu O L),(15,.v (.int .i64 ii)),(16,.gr 1 1 p.2.2),(17,.v (.int .i64 p.1))]) [] (λp=>[(0,.arr 2 [jk O ⟨W,pr⟩] 0 true),(1,.arr 1 (O.h (List.map (xZ O)) p.2.1) 0 false)]) L.length (λq p=>M=p.2.1++nu c ⟨n,u⟩ (L.drop q)/\p.2.2=p.2.1.length) ([],0) ⟨X,rfl⟩ (hC:=by exact⟨sq,rfl,⟨.inl ⟨_,rfl,.arr (by exact⟨kq,trivial⟩)⟩,.inr rfl,trivial⟩,rfl,rfl,rfl⟩) ?_;rintro qi q⟨C,len⟩hq hql⟨G,A⟩;simp only at hq G A;clear hM;refine I gF ?_;refine cr λq3 yf=>?_;rw[Ml]at yf;refine I gF ?_;refine cn (λgp=>?_) λgp=>?_;rotate_left;rw[aR_ Z,nu,bu_,aI_]at G;refine I gF ?_;refine H.lG ?_;refine H.xQ (H.CE (Cv.freeze (t:=16) (k:=1) (rows:=O.h (List.map (xZ O)) C) (fz:=0) (ex:=false) rfl rfl (.inl rfl) (by grind[az]) (aF_ _)) ?_);refine I gF ?_;refine ag gF λg E=>?_;have oG:Pure (yu O C):=tU _;exact bN (g,C) [] (i+1) ⟨X,X,X⟩ (hC:=by exact⟨by exact⟨.aJ rfl (Pure.bu (dQ _)),.aJ rfl (Pure.bu (bI _)),.aJ rfl (Pure.bu (a7 _)),.aJ rfl (Pure.bu (eN _)),.aJ rfl .v,.aJ rfl (.pt aD),.aJ rfl (Pure.bu (cQ _)),.aJ rfl (Pure.bu (tU _)),.aJ rfl .v,trivial⟩,rfl,⟨.inl ⟨_,rfl,.arr (by exact⟨kq,trivial⟩)⟩,trivial⟩,rfl,rfl,rfl⟩);let⟨l,w,dI⟩:=aA (l:=L) (k:=q) Z;rw[dI,WM]at G;have PU:=ql l (aZ w);let⟨RS,pv⟩:=aq (nu c ⟨n,u⟩ (L.drop (q+1)));rw[<-pv]at G;refine I gF ?_;refine cC (τ:=List (List Int)×Nat) 2 3 [(2,1)] (λp=>[(1,kS O c),(2,a8 O sb),(3,er O sk),(4,ky O sf),(5,.v (.int .i64 j)),(6,.pt 0 2 0 0),(13,fI O B),(14,yu O L),(15,.v (.int .i64 ii)),(16,.gr 2 1 p.2.2),(17,.v (.int .i64 qi)),(18,.v (.int .i64 p.1))]) [] (λp=>[(0,.arr 2 [jk O ⟨W,pr⟩] 0 true),(2,.arr 1 (O.h (List.map (xZ O)) p.2.1) 0 false)]) c.length (λz p=>M=p.2.1++(((c.drop z).filter (r9 ⟨n,u⟩)).map (λx=>l++[x.id])++RS)/\p.2.2=p.2.1.length) (C,len) ⟨X,A⟩ (hC:=by exact⟨sq,rfl,⟨.inl ⟨_,rfl,.arr (by exact⟨kq,trivial⟩)⟩,.inl ⟨_,rfl,.same (wG _)⟩,trivial⟩,rfl,rfl,rfl⟩) ?_;rintro zi z⟨J,ff⟩y ID⟨iL,K⟩;simp only at y iL K;clear G A;refine I gF ?_;refine lg gF λq4 II=>?_;refine cn (λmh=>?_) λmh=>?_;rotate_left;rw[aR_ Z,List.filter_nil,aV_,aO_]at iL;refine I gF ?_;refine xG gF ?_;refine ag gF λg E=>?_;exact bN (g,J,ff) [(1,2)] (q+1) ⟨X,K⟩ (hC:=by exact⟨sq,rfl,⟨.inl ⟨_,rfl,.arr (by exact⟨kq,trivial⟩)⟩,.inl ⟨_,rfl,.same (wG _)⟩,trivial⟩,rfl,rfl,rfl⟩);let⟨⟨P,yn,ya⟩,hy,d_⟩:=aA (l:=c) (k:=z) Z;rw[d_,cj_]at iL;have NO:r9 ⟨n,u⟩ ⟨P,yn,ya⟩=false->M=J++(((c.drop (z+1)).filter (r9 ⟨n,u⟩)).map (λx=>l++[x.id])++RS):=λh=>X;have Q:r9 ⟨n,u⟩ ⟨P,yn,ya⟩=true->M=J++[l++[P]]++(((c.drop (z+1)).filter (r9 ⟨n,u⟩)).map (λx=>l++[x.id])++RS):=λh=>X;clear iL;refine I gF ?_;refine og gF (D.bh y hy) ?_;refine og gF (D.bh jR hx) ?_;refine cn (λqR=>?_) λqR=>?_;rotate_left;refine I gF ?_;refine ag gF λg E=>?_;exact bN (g,J,ff) [(2,2)] (z+1) ⟨NO (cn_.2 λh=>qR (Sa.1 h).1),K⟩ (hC:=by exact⟨sq,rfl,⟨.inl ⟨_,rfl,.arr (by exact⟨kq,trivial⟩)⟩,.inl ⟨_,rfl,.same (wG _)⟩,trivial⟩,rfl,rfl,rfl⟩);refine I gF ?_;refine lg gF λq5 hq5=>?_;refine og gF (D.bh jR hx) ?_;refine lg gF λq6 hq6=>?_;refine cn (λRs=>?_) λRs=>?_;rotate_left;refine I gF ?_;refine ag gF λg E=>?_;exact bN (g,J,ff) [(2,2)] (z+1) ⟨NO (cn_.2 λh=>by have:=(Sa.1 h).2;simp only at this;omega),K⟩ (hC:=by exact⟨sq,rfl,⟨.inl ⟨_,rfl,.arr (by exact⟨kq,trivial⟩)⟩,.inl ⟨_,rfl,.same (wG _)⟩,trivial⟩,rfl,rfl,rfl⟩);have hY:=Q (Sa.2 ⟨qR,X⟩);have hYl:=congrArg List.length hY;rw[av_,av_,bf_]at hYl;clear NO Q;refine I gF ?_;refine og gF (D.bh hq w) ?_;refine H.rP (f:=aV) (ys:=l) rfl rfl rfl (λ_=>rfl) Z λa1 n1 dZ ft=>?_;refine I gF ?_;refine og gF (D.bh y hy) ?_;refine H.app (x:=P) (f:=aV) rfl rfl rfl ft (λ_=>rfl) rfl rfl rfl rfl X λF n2 fA ez=>?_;have axO:F=l++[P]:=X;refine H.B6 (Cv.freeze (t:=89) (k:=5) (rows:=O.h (List.map aV) F) (fz:=0) (ex:=false) rfl rfl (.inl rfl) (by grind[az]) (aF_ _)) ?_;refine I gF ?_;refine H.app (x:=F) (f:=xZ O) rfl rfl rfl K (λ_=>rfl) rfl rfl rfl rfl Z λa3 n3 fD nz=>?_;refine I gF ?_;refine ag gF λg E=>?_;exact bN (g,a3,n3) [(2,6)] (z+1) ⟨X,nz⟩ (hC:=by exact⟨sq,rfl,⟨.inl ⟨_,rfl,.arr (by exact⟨kq,trivial⟩)⟩,.inl ⟨_,rfl,.same (wG _)⟩,trivial⟩,rfl,rfl,rfl⟩)
end
theorem oh{e k:Int}(h:bw e k=0):e=0/\k=0:=by unfold bw at h;split at h;exact⟨by assumption,h⟩;exact absurd h (by assumption)
theorem wH{b:Bool}{e:Int}(a:e≠0)(h:cR b e=0):b=true:=by unfold cR at h;split at h;assumption;exact absurd h a
theorem ZK:∀(vs:List Int)(n:Int)(k:Int->Int),zG vs n k=0->∃m,k m=0/\n<=m/\m<=n+vs.length|[],n,k,h=>⟨n,h,bp_ _,aB⟩|v::vs,n,k,h=>by rw[zG]at h;split at h;let⟨m,a,b,c⟩:=ZK vs _ k h;refine⟨m,a,?_,?_⟩;split at b<;>omega;rw[aC_];split at c<;>omega;cases h
mutual theorem ZL{v:Int}:∀t:Tm,eU t->(oV v t↔v∈eD t) |⟨k,i,n,a⟩,h=>by rw[eU]at h;rw[oV,eD];by_cases b:k=1;rw[if_pos b,if_pos b,ar_];exact eq_comm;rw[if_neg b]at h;rw[if_neg b,if_neg b];by_cases c:k=2;rw[if_pos c];exact Ea a h.1;rw[if_neg c,h.2.resolve_left c,jb];simp;theorem Ea{v:Int}:∀l:List Tm,eW l->(jb v l↔v∈aX l)|[],h=>by rw[jb,aX];simp|x::l,h=>by rw[eW]at h;rw[jb,aX,aN_,ZL x h.1,Ea l h.2];end
theorem Eb{v:Int}{l:List Tm}(h:eW l):v∈varsOf l↔jb v l:=by unfold varsOf;rw[ur,Ea l h];simp
theorem se{x:At}(h:fp x=true)(a:dR x.a):eW x.a/\ld x.a/\tw x.a/\oU x.a/\bE x.a<=200:=by unfold fp at h;rw[au_]at h;exact Ky h.2 a
theorem sj{x:Gl}(h:de x=true)(a:dR x.a):eW x.a/\ld x.a/\tw x.a/\oU x.a/\bE x.a<=200:=by unfold de at h;split at h;exact se (x:=⟨x.n,x.a⟩) h a;rw[au_]at h;exact Ky h.2 a
theorem NI{ds:List Dc}{r:Rl}(h:oK ds r=0):(Cn r=true/\(∀x∈r.aQ,fp x=true)/\(∀x∈r.rem,fp x=true)/\(∀g∈r.guard,de g=true)/\∀g∈r.body,de g=true)/\(∃n,r.vars=n/\0<=n/\n<=(u6 r++AL r).length)/\∀v∈sY [r.guard],v∈u6 r:=by unfold oK Og wM at h;let⟨c,h⟩:=oh h;let⟨d,h⟩:=oh h;let⟨e,h⟩:=oh h;let⟨f,h⟩:=oh h;let⟨i,h⟩:=oh h;refine⟨⟨wH aD c,λx a=>wH aD (lD d x a),λx a=>wH aD (lD e x a),λx a=>wH aD (lD f x a),λx a=>wH aD (lD i x a)⟩,?_⟩;unfold wL at h;let⟨m,h,j,o⟩:=ZK _ _ _ h;let⟨b,h⟩:=oh h;have b:=wH aD b;rw[decide_eq_true_eq]at b;refine⟨⟨m,b,j,Z⟩,λv k=>?_⟩;unfold Dz Kh wK Of Hx at h;let⟨_,h⟩:=oh h;let⟨_,h⟩:=oh h;let⟨_,h⟩:=oh h;let⟨_,h⟩:=oh h;let⟨_,h⟩:=oh h;let⟨_,h⟩:=oh h;let⟨_,h⟩:=oh h;let⟨l,_⟩:=oh h;have:=wH aD (lD l v k);simpa using this
theorem K5{ds:List Dc}:∀(l:List Rl)(k:Nat),(vg ds l k).2=0->∀r∈l,oK ds r=0|[],k,h,r,a=>by cases a|x::l,k,h,r,a=>by rw[vg]at h;split at h;rename_i b;rcases al_.1 a with rfl|a;exact b;exact K5 l _ h r a;rename_i b;exact absurd h b
theorem WQ{p:Pg}(h:(s9 p).2=0):∀r∈p.rs,oK p.ds r=0:=by unfold s9 at h;split at h;exact K5 _ _ h;rename_i a;exact absurd h a
section
attribute [local irreducible] ao aF D H
def auf:=aC func21 call21
def aug:=aC func19 call19
def vX:List Nat:=[4,1,3,2,0,14,19,58,80]
def Bm(x:At):Bool:=yN x.a
def wR(x:Gl):Bool:=yN x.a
def WR(x:Im):Bool:=yN x.a
theorem UX(l:List At)(q:l.length<=1099511627776)(g:∀x∈l,pD x.a):ab Y 40 [fI O l] (.v (.bool (l.all Bm))):=by
 let⟨R,c⟩:=aq (l.all Bm);rw[<-c];refine st at6 ET .v ?_;refine bD 0 0 [] (λi=>[(0,fI O l),(3,.v (.int .i64 i))]) [] (λ_=>[]) l.length (λk=>R=(l.drop k).all Bm) X λi k h r a=>?_;clear c;refine I ET ?_;by_cases j:k<l.length
 ·let⟨x,d,n⟩:=aA j;have e:=g x (aZ d);have f:=R1 (Y:=Y) (O:=O) x.a e.len e.2;rw[n,aJ_,Bm]at a;let⟨B,o⟩:=aq (yN x.a);rw[<-o]at a f;let⟨s,t⟩:=x;repeat' first|refine og ET (D.bh h d) ?_|refine bg ET (pl f) (λ_=>?_) λ_=>?_|refine cg ET (λb=>?_) λb=>?_|refine lg ET λm p=>?_|refine ag ET λ_ _=>?_|refine xG ET ?_|refine rG ET ?_|refine fq ?_
  all_goals first|omega|rw[a,show B=false by grind];exact aK rfl|rw[show B=true by grind,az_]at a;exact cB _ [] (k+1) a
 ·skip;repeat' first|refine cg ET (λb=>?_) λb=>?_|refine lg ET λm p=>?_|refine xG ET ?_|refine fq ?_
  all_goals first|omega|rw[a,aq_ Z];exact aK rfl
theorem Ec(l:List Gl)(n:Int)(r:l.length<=1099511627776)(h:∀x∈l,pD x.a):ab Y 20 [er O l,iv n] (.v (.bool (decide ((l.length:Int)<=n)&&l.all wR))):=by
 let⟨R,c⟩:=aq (decide ((l.length:Int)<=n)&&l.all wR);rw[<-c];refine st at7 Bi .v ?_;repeat' first|refine cg Bi (λb=>?_) λb=>?_|refine lg Bi λm d=>?_|refine fq ?_
 grind[aK];rw[decide_eq_true Z,az_]at c;refine bD 0 0 [] (λi=>[(0,er O l),(5,.v (.int .i64 i))]) [] (λ_=>[]) l.length (λk=>R=(l.drop k).all wR) X λi k j s a=>?_;clear c;refine I Bi ?_;by_cases o:k<l.length
 ·let⟨x,e,p⟩:=aA o;have f:=h x (aZ e);have g:=R1 (Y:=Y) (O:=O) x.a f.len f.2;rw[p,aJ_,wR]at a;let⟨B,q⟩:=aq (yN x.a);rw[<-q]at a g;let⟨t,u,v⟩:=x;repeat' first|refine og Bi (D.bh j e) ?_|refine bg Bi (pl g) (λ_=>?_) λ_=>?_|refine cg Bi (λb=>?_) λb=>?_|refine lg Bi λm d=>?_|refine ag Bi λ_ _=>?_|refine xG Bi ?_|refine rG Bi ?_|refine fq ?_
  all_goals first|omega|rw[a,show B=false by grind];exact aK rfl|rw[show B=true by grind,az_]at a;exact cB _ [] (k+1) a
 ·skip;repeat' first|refine cg Bi (λb=>?_) λb=>?_|refine lg Bi λm d=>?_|refine xG Bi ?_|refine fq ?_
  all_goals first|omega|rw[a,aq_ Z];exact aK rfl
def qf6:=aC func6 call6
def Ai(l:List Gl):Bool:=decide ((l.length:Int)<=6)&&l.all wR
def K6(r:Rl):Bool:=decide (r.aQ.length<=3)&&(decide (r.rem.length<=3)&&(decide (r.aQ.length+r.rem.length<=3)&&(decide (r.guard.length<=6)&&(decide (r.body.length<=6)&&(r.aQ.all Bm&&(r.rem.all Bm&&(Ai r.guard&&Ai r.body)))))))
def HO(p:Pg):Bool:=decide (p.ds.length<=12)&&(decide (p.rs.length<=8)&&p.rs.all K6)
set_option maxHeartbeats 2000000 in theorem WS(p:Pg)(M:Cs p):ab Y 19 [pg O p] (.v (.bool (HO p))):=by
 let⟨N,P,_,E⟩:=M;let⟨R,d⟩:=aq (HO p);rw[<-d];unfold HO at d;let⟨o,e⟩:=p;dsimp only at d N P E;refine st aug vX .v ?_;repeat' first|refine cg vX (λi=>?_) λi=>?_|refine lg vX λm F=>?_|refine fq ?_
 all_goals first|rw[d,decide_eq_false (show¬o.length<=12 by omega)];exact aK rfl|refine aK ?_;rw[d,decide_eq_false (show¬e.length<=8 by omega)];simp;done|skip
 rw[decide_eq_true (show o.length<=12 by omega),decide_eq_true (show e.length<=8 by omega),az_,az_]at d;refine bD 1 1 [] (λq=>[(1,.pt 0 2 0 0),(3,.v (.int .i64 q))]) [] (λ_=>[(0,.arr 2 [jk O ⟨o,e⟩] 0 true)]) e.length (λk=>R=(e.drop k).all K6) X λq k Q hk a=>?_;clear d;refine I vX ?_;by_cases S:k<e.length
 ·let⟨x,G,V⟩:=aA S;have c:=E x (aZ G);have r:=UX (Y:=Y) (O:=O) x.aQ c.ke λy f=>(c.kx y f).1;have s:=UX (Y:=Y) (O:=O) x.rem c.re λy f=>(c.rx y f).1;have t:=Ec (Y:=Y) (O:=O) x.guard 6 c.g λy f=>(c.gx y f).1;have u:=Ec (Y:=Y) (O:=O) x.body 6 c.b λy f=>(c.bx y f).1;have W:=c.ke;have e2:=c.re;have e3:=c.g;have e4:=c.b;rw[V,aJ_,K6]at a;let⟨J,w⟩:=aq (x.aQ.all Bm);let⟨K,h⟩:=aq (x.rem.all Bm);let⟨z,A⟩:=aq (Ai x.guard);let⟨B,C⟩:=aq (Ai x.body);rw[<-w,<-h,<-A,<-C]at a;rw[<-w]at r;rw[<-h]at s;rw[show(decide ((x.guard.length:Int)<=6)&&x.guard.all wR)=z from A.symm]at t;rw[show(decide ((x.body.length:Int)<=6)&&x.body.all wR)=B from C.symm]at u;let⟨T,L⟩:=aq ((e.drop (k+1)).all K6);rw[<-L]at a;clear w h A C c;let⟨n,j,l,g,b,v⟩:=x;dsimp only at a r s t u W e2 e3 e4;refine H.int rfl (D.len rfl) λm0 qO=>?_;rw[az]at qO;refine I vX ?_;repeat' first|refine og vX (D.bh Q G) ?_|refine bg vX (pl r) (λ_=>?_) λ_=>?_|refine bg vX (pl s) (λ_=>?_) λ_=>?_|refine bg vX (pl t) (λ_=>?_) λ_=>?_|refine bg vX (pl u) (λ_=>?_) λ_=>?_|refine cg vX (λi=>?_) λi=>?_|refine lg vX λm F=>?_|refine ag vX λ_ _=>?_|refine xG vX ?_|refine rG vX ?_|refine fq ?_
  all_goals first|omega|refine aK ?_;rw[a,decide_eq_false (show¬j.length<=3 by omega)];simp;done|refine aK ?_;rw[a,decide_eq_false (show¬l.length<=3 by omega)];simp;done|refine aK ?_;rw[a,decide_eq_false (show¬j.length+l.length<=3 by omega)];simp;done|refine aK ?_;rw[a,decide_eq_false (show¬g.length<=6 by omega)];simp;done|refine aK ?_;rw[a,decide_eq_false (show¬b.length<=6 by omega)];simp;done|refine aK ?_;rw[a,show J=false by grind];simp;done|refine aK ?_;rw[a,show K=false by grind];simp;done|refine aK ?_;rw[a,show z=false by grind];simp;done|refine aK ?_;rw[a,show B=false by grind];simp;done|rw[decide_eq_true (show j.length<=3 by omega),decide_eq_true (show l.length<=3 by omega),decide_eq_true (show j.length+l.length<=3 by omega),decide_eq_true (show g.length<=6 by omega),decide_eq_true (show b.length<=6 by omega),show J=true by grind,show K=true by grind,show z=true by grind,show B=true by grind]at a;simp only[az_]at a;rw[L]at a;exact cB _ [] (k+1) a
 rw[aq_ Z,bl_]at a;repeat' first|refine cg vX (λi=>?_) λi=>?_|refine lg vX λm F=>?_|refine xG vX ?_|refine fq ?_
 all_goals first|omega|rw[a];exact aK rfl
end
end Go.Proofs.YtbdcmpknicjopaaGreat
