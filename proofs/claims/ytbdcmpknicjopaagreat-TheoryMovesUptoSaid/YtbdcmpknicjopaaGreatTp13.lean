import Derived.Test.YtbdcmpknicjopaaGreatTp12
namespace Go.Proofs.YtbdcmpknicjopaaGreat
set_option linter.all false
set_option maxRecDepth 100000
open Go.RowKit Proofs.Tryz
variable{B LQ N kt n sz t:Nat}{FJ:List (List AV)}{K:List gw}{O:Hd}{P:Program}{Q:Exit->AA->ah->Prop}{S S':ah}{T:Type}{U aE:AA}{Y:World}{a b i:QO}{c:Value->Bool}{ch:List PanicEntry}{dr ex ex':Bool}{ds:List DE}{es:List (Value×AV)}{l:List QI}{o:Oper}{r r':AV}{s:List Int}{v:Value}{x:List AV}{LR ys:List T}{f:T->List AV}
variable{rows:List (List AV)}{args:List AV}
section
attribute [local irreducible] ao aF D H
def anF:=aC func166 call166
def BA:List Nat:=[8,0,5,4,7,9,1,16]
def anG:=aC func102 call102
def aa1:List Nat:=[4,0,1]
def anH:=aC func257 call257
def zr:List Nat:=[8,0,5,4,1,7,9,3,16]
def anI:=aC func197 call197
def aa2:List Nat:=[4,1,0,3]
def anJ:=aC func128 call128
def aiu:List Nat:=[6,0,1,2]
def anK:=aC func130 call130
def aa3:List Nat:=[2,0,1]
def asu:=aC func83 call83
def g83:List Nat:=[2,0,1]
def anL:=aC func199 call199
def asv:List Nat:=[2,0,1]
def anM:=aC func258 call258
def aiw:List Nat:=[3,0,2,1]
def anN:=aC func131 call131
def Pk:List Nat:=[4,0,6,5,1,12]
def asw:=aC func80 call80
def Fe:List Nat:=[6,4,0,5,10,1,19]
def j6(l:List Im)(id:Int):At×Bool:=match l.find? λx=>x.id==id with|some x=>(⟨x.n,x.a⟩,true)|none=>(⟨⟨#[]⟩,[]⟩,false)
theorem Dh{T:Type}(p:T->Bool):∀(l:List T)(k:Nat),0<=dp p l k->∃(j:Nat) (x:T),dp p l k=((k+j:Nat):Int)/\l[j]?=some x/\l.find? p=some x|[],k,h=>by grind[dp]|x::l,k,h=>by rw[dp]at h⊢;by_cases c:p x=true;rw[if_pos c];exact⟨0,x,rfl,rfl,X⟩;rw[if_neg c]at h⊢;let⟨j,y,a,b,d⟩:=Dh p l (k+1) h;exact⟨j+1,y,X,X,X⟩
theorem B1{T:Type}(p:T->Bool):∀(l:List T)(k:Nat),dp p l k<0->l.find? p=none|[],k,h=>rfl|x::l,k,h=>by rw[dp]at h;by_cases c:p x=true;grind;rw[if_neg c]at h;rw[cC_];simp[c,B1 p l (k+1) h]
theorem Ff(l:List Int)(v:Int):l.any λx=>v==x=l.contains v:=X
theorem anO(l:List Int)(v:Int)(h:l.length<=1099511627776):ab Y 166 [aY O aV false l,iv v] (iv (dp (λx=>v==x) l 0)):=by
 let⟨R,c⟩:=aq (dp (λx=>v==x) l 0);rw[<-c];refine st anF BA .v ?_;repeat' first|refine lg BA λm j=>?_
 refine bD 0 0 [] (λi=>[(0,aY O aV false l),(1,.v (.int .i64 v)),(7,.v (.int .i64 m)),(8,.v (.int .i64 i))]) [] (λ_=>[]) l.length (λk=>R=dp (λx=>v==x) (l.drop k) k) X λi k d n a=>?_;clear c;refine I BA ?_;by_cases e:k<l.length
 ·let⟨x,f,g⟩:=aA e;rw[g,dp]at a;repeat' first|refine og BA (D.bh d f) ?_|refine cg BA (λb=>?_) λb=>?_|refine ag BA λ_ _=>?_|refine xG BA ?_|refine rG BA ?_|refine fq ?_
  all_goals first|rw[if_pos X]at a;refine dx ?_;omega|rw[if_neg X]at a;exact cB _ [] (k+1) a
 ·skip;repeat' first|refine cg BA (λb=>?_) λb=>?_|refine xG BA ?_|refine fq ?_
  all_goals first|omega|rw[a,aq_ Z];exact dx rfl
theorem Pl(l:List Int)(v:Int)(c:l.length<=1099511627776):ab Y 102 [aY O aV false l,iv v] (.v (.bool (l.contains v))):=by
 have b:=anO (Y:=Y) (O:=O) l v c;have a:=tE (λx=>v==x) l 0;rw[Ff]at a;let⟨j,d⟩:=aq (dp (λx=>v==x) l 0);rw[<-d]at b a;refine st anG aa1 .v ?_;repeat' first|refine ig aa1 (pl b) λ_ _=>?_|refine cg aa1 (λe=>?_) λe=>?_|refine fq ?_
 all_goals subst_vars;refine aK ?_;rw[<-a];simp_all
theorem TG(r:Rl)(a:r.rem.length<=1099511627776):ab Y 130 [rl O r] (.v (.bool r.rem.isEmpty)):=by
 let⟨n,e,c,g,b,v⟩:=r;dsimp only at a⊢;refine st anK aa3 .v ?_;repeat' first|refine cg aa3 (λd=>?_) λd=>?_|refine lg aa3 λm f=>?_|refine fq ?_
 all_goals subst_vars;refine aK ?_;cases c<;>simp_all<;>omega
theorem TH(r:Rl)(a:r.rem.length<=1099511627776):ab Y 83 [rl O r] (.v (.bool r.rem.isEmpty)):=by
 let⟨n,e,c,g,b,v⟩:=r;dsimp only at a⊢;refine st asu g83 .v ?_;repeat' first|refine cg g83 (λd=>?_) λd=>?_|refine lg g83 λm f=>?_|refine fq ?_
 all_goals subst_vars;refine aK ?_;cases c<;>simp_all<;>omega
theorem TI(n a:ByteArray)(i b:Int):EqS prog 60 (.agg #[.string n,.int .i64 i]) (.agg #[.string a,.int .i64 b]) (n.toList==a.toList&&i==b):=by
 refine⟨⟨_,_,rfl,rfl⟩,by kernel_rfl,λw=>?_⟩;have c:prog.underlying 60=some (.struct (prog.fieldsOf 60)):=by kernel_rfl
 have d:prog.stoodInHeld 60=false:=by kernel_rfl
 have e:=underlying3;have f:=underlying9;have g:=isAgg3;have h:=isAgg9;rw[run_eql_struct,show(10000:Nat)=9998+1+1 from rfl,run_equalIn_agg w _ 60 _ _ c d];simp only[Program.fieldsOf,underlying60];have j:∀w,(Op.equalIn (9998+1) 9 (.string n) (.string a)).run prog w=.ok (n.toList==a.toList) w:=λw=>run_equalIn_string w _ _ _ _ f;have k:∀w,(Op.equalIn (9998+1) 3 (.int .i64 i) (.int .i64 b)).run prog w=.ok (i==b) w:=λw=>run_equalIn_int w _ _ _ _ _ _ e;cases l:n.toList==a.toList<;>cases m:i==b<;>simp[Op.eqFields,part,g,h,j,k,l,m]
def J4(n:ByteArray)(i:Int)(d:Dc):Bool:=n.toList==d.n.toList&&i==d.ar
theorem af4(l:List Dc)(n:ByteArray)(i:Int):l.any (J4 n i)=i_ l n i:=by grind[i_,J4]
theorem anP(l:List Dc)(n:ByteArray)(a:Int)(q:l.length<=1099511627776):ab Y 257 [g7 O l,dc ⟨n,a⟩] (iv (dp (J4 n a) l 0)):=by
 let⟨R,f⟩:=aq (dp (J4 n a) l 0);rw[<-f];refine st anH zr .v ?_;repeat' first|refine lg zr λm r=>?_
 refine bD 1 1 [] (λi=>[(0,g7 O l),(3,.pt 0 2 0 0),(7,.v (.int .i64 m)),(8,.v (.int .i64 i))]) [] (λ_=>[(0,.arr 2 [XC ⟨n,a⟩] 0 true)]) l.length (λk=>R=dp (J4 n a) (l.drop k) k) X λi k g s b=>?_;clear f;refine I zr ?_;by_cases h:k<l.length
 ·let⟨x,j,o⟩:=aA h;rw[o,dp]at b;let⟨c,d⟩:=x;repeat' first|refine og zr (D.bh g j) ?_|refine bg zr (D.eqs rfl rfl (TI n c a d)) (λ_=>?_) λ_=>?_|refine cg zr (λe=>?_) λe=>?_|refine ag zr λ_ _=>?_|refine xG zr ?_|refine rG zr ?_|refine fq ?_
  grind[J4,dx];have p:(n.toList==c.toList&&a==d)=false:=X;rw[if_neg (show¬J4 n a ⟨c,d⟩=true from by show¬(n.toList==c.toList&&a==d)=true;rw[p];simp)]at b;exact cB _ [] (k+1) b;omega
 ·skip;repeat' first|refine cg zr (λe=>?_) λe=>?_|refine xG zr ?_|refine fq ?_
  all_goals first|omega|rw[b,aq_ Z];exact dx rfl
theorem aix(l:List Dc)(n:ByteArray)(a:Int)(d:l.length<=1099511627776):ab Y 197 [g7 O l,dc ⟨n,a⟩] (.v (.bool (i_ l n a))):=by
 have c:=anP (Y:=Y) (O:=O) l n a d;have b:=tE (J4 n a) l 0;rw[af4]at b;let⟨j,e⟩:=aq (dp (J4 n a) l 0);rw[<-e]at c b;refine st anI aa2 .v ?_;repeat' first|refine ig aa2 (D.bO rfl c ⟨eL _,Lu ⟨n,a⟩,trivial⟩) λ_ _=>?_|refine cg aa2 (λf=>?_) λf=>?_|refine fq ?_
 all_goals subst_vars;refine aK ?_;rw[<-b];simp_all
theorem Di(l:List Dc)(n:ByteArray)(a:Int)(c:l.length<=1099511627776):ab Y 128 [g7 O l,.v (.string n),iv a] (.v (.bool (i_ l n a))):=by
 have b:=aix (Y:=Y) (O:=O) l n a c;let⟨R,d⟩:=aq (i_ l n a);rw[<-d]at b⊢;refine st anJ aiu .v ?_;repeat' first|refine og aiu (D.bO rfl b ⟨eL _,Lu ⟨n,a⟩,trivial⟩) ?_|refine fq ?_
 exact aK rfl
theorem aiy(id:Int):ab Y 199 [iv id] (.fn (.func 258) [] [.ip [iv id]]):=by
 refine st anL asv (.fn (λa c=>X) λa c=>by cases ar_.1 c;exact .ip λb d=>by cases ar_.1 d;exact .v) ?_;repeat' first|refine fq ?_
 refine aI.fns ?_ ?_;exact trivial;exact⟨aI.box (cs:=[iv id]) (cs':=[iv id]) rfl ⟨.refl _,trivial⟩,trivial⟩
theorem af5(x:Im)(id:Int):ab Y 258 [it O x,.ip [iv id]] (.v (.bool (x.id==id))):=by
 let⟨i,n,a⟩:=x;refine st anM aiw .v ?_;repeat' first|refine cg aiw (λb=>?_) λb=>?_|refine fq ?_
 all_goals refine aK ?_;simp_all
theorem anQ(x:Im)(id:Int):zg prog Y (.fn (.func 258) [] [.ip [iv id]]) [it O x] (x.id==id):=⟨_,_,rfl,⟨yR x,.ip λb a=>by cases ar_.1 a;exact .v,trivial⟩,af5 x id⟩
theorem aiz(l:List Im)(id:Int)(n:l.length<=1099511627776):ab Y 131 [kS O l,iv id] (.aL [at_ O (j6 l id).1,.v (.bool (j6 l id).2)]):=by
 have o:=aiy (Y:=Y) id;have g:Pure (.fn (.func 258) [] [.ip [iv id]]):=.fn (λa f=>X) λa f=>by cases ar_.1 f;exact .ip λb h=>by cases ar_.1 h;exact .v
 have m:=aif (Y:=Y) (O:=O) (λx=>x.id==id) l _ [] _ n g λx _=>anQ x id;have c:=Dh (λx:Im=>x.id==id) l 0;have d:=B1 (λx:Im=>x.id==id) l 0;let⟨j,p⟩:=aq (dp (λx:Im=>x.id==id) l 0);rw[<-p]at m c d;let⟨R,e⟩:=aq (j6 l id);rw[<-e];unfold j6 at e;refine st anN Pk (.aL λa f=>by simp only[al_,ax_,or_false]at f;rcases f with rfl|rfl;exact ud _;exact .v) ?_;repeat' first|apply bk Pk o|refine ig Pk (pl m) λ_ _=>?_|refine cg Pk (λh=>?_) λh=>?_|refine fq ?_
 ·let⟨q,x,u,r,s⟩:=c Z;rw[s]at e;subst e;let⟨v,w,y⟩:=x;repeat' first|refine og Pk (D.ind rfl rfl (fm (l:=l) (k:=q) Z r) (ec λ_=>rfl)) ?_|refine fq ?_
  exact aI.of_eq rfl
 rw[d Z]at e;subst e;refine .aL rfl λi a t c d=>?_;match i,c,d with
 |0,c,d =>cases oJ_ c;cases oJ_ d;refine .agg rfl λi a t c d=>?_;match i,c,d with|0,c,d =>cases oJ_ c;cases oJ_ d;exact .refl _|1,c,d =>cases oJ_ c;cases oJ_ d;rw[tl,bF];exact aI.wk
 |1,c,d =>cases oJ_ c;cases oJ_ d;exact .refl _
theorem XP(l:List Im)(id:Int)(s:l.length<=1099511627776):ab Y 80 [kS O l,iv id] (.aL [at_ O (j6 l id).1,.v (.bool (j6 l id).2)]):=by
 let⟨R,f⟩:=aq (j6 l id);rw[<-f];refine st asw Fe (.aL λa g=>by simp only[al_,ax_,or_false]at g;rcases g with rfl|rfl;exact ud _;exact .v) ?_;refine bD 1 1 [] (λi=>[(0,kS O l),(1,.v (.int .i64 id)),(4,.pt 0 2 0 0),(6,.v (.int .i64 i))]) [] (λ_=>[(0,.arr 2 [[.v (.string ⟨#[]⟩),.sl true []]] 0 true)]) l.length (λk=>R=j6 (l.drop k) id) X λi k j t d=>?_;clear f;refine I Fe ?_;by_cases n:k<l.length
 ·let⟨x,o,p⟩:=aA n;rw[p,j6,cC_]at d;let⟨h,u,v⟩:=x;repeat' first|refine og Fe (D.bh j o) ?_|refine cg Fe (λe=>?_) λe=>?_|refine lg Fe λm q=>?_|refine ag Fe λ_ _=>?_|refine xG Fe ?_|refine rG Fe ?_|refine fq ?_
  all_goals first|omega|rw[show(h==id)=true by grind]at d;subst d;exact aI.of_eq rfl|rw[show(h==id)=false by grind]at d;exact cB _ [] (k+1) (by rw[d];rfl)
 ·skip;repeat' first|refine cg Fe (λe=>?_) λe=>?_|refine lg Fe λm q=>?_|refine xG Fe ?_|refine fq ?_
  all_goals first|omega|skip
  rw[aq_ Z,j6]at d;subst d;refine .aL rfl λi a r b c=>?_;match i,b,c with
  |0,b,c =>cases oJ_ b;cases oJ_ c;refine .agg rfl λi a r b c=>?_;match i,b,c with|0,b,c =>cases oJ_ b;cases oJ_ c;exact .refl _|1,b,c =>cases oJ_ b;cases oJ_ c;rw[tl,bF];exact aI.wk
  |1,b,c =>cases oJ_ b;cases oJ_ c;exact .refl _
def fB(b:Bool):AV:=.v (.bool b)
def j7(s:List Int):List (Int×Bool):=s.map λi=>(i,true)
theorem Fg(s:List Int)(i:Int):aH (j7 s) i=if s.contains i then some true else none:=by induction s with|nil=>rfl|cons x s a =>rw[j7,aH_,aH,cX_];rw[j7]at a;by_cases h:x=i;grind;grind
theorem Pm{i:Int}(h:s.contains i=false):gU (j7 s) i true=j7 (s++[i]):=by induction s with|nil=>rfl|cons x s b =>rw[cX_,Bool.or_eq_false_iff]at h;have c:¬x=i:=λe=>X;have a:=b h.2;rw[j7]at a;simp only[j7,aH_,aP_,gU,c,if_false];rw[a];rfl
def anR(O:Hd)(p:List Int×List (Int×Bool)×Nat):List (Nat×Ob):=[(0,.arr 1 [[.gr 4 1 p.2.2]] 0 true),(1,.mp (O.h (dT fB) p.2.1)),(2,.arr 1 [[.mp 1]] 0 true),(3,.df),(4,.arr 1 (O.h (List.map aV) p.1) 0 false)]
theorem Ht{B:Nat}{kv:List (Int×Bool)}:kp B (.mp (O.h (dT fB) kv)):=by rw[O.eq];intro e a;obtain⟨p,_,rfl⟩:=aD_.1 a;exact .v
theorem v_{B fz:Nat}:kp B (.arr sz (O.h (List.map aV) s) fz ex):=ko λx _ a b=>by cases ar_.1 b;exact .v
theorem aiA(gid:FuncId)(fs cs:List AV)(xs:List Int)(z:xs.length<=1099511627776)(l:∀a∈fs,Pure a)(m:∀a∈cs,Pure a)(n:Iter prog Y gid fs cs (xs.map aV)):ab Y 191 [.fn (.func gid) fs cs] (aY O aV false (bQ [] xs)):=by let⟨R,o⟩:=aq (bQ [] xs);rw[<-o];refine st anv Fa (bZ _) ?_;refine H.kN O fB rfl λg b=>?_;subst b;refine I Fa ?_;refine H.range (σ:=List Int×List (Int×Bool)×Nat) aV xs 4 5 [] [(3,.pt 0 1 0 0),(4,.pt 2 1 0 0)] (anR O) (λh p=>R=p.1++bQ p.1 h/\p.1.length+h.length<=1099511627776/\p.2.1=j7 p.1/\p.2.2=p.1.length) ([],[],0) rfl l m n rfl ⟨X,X,rfl,rfl⟩ rfl (by intro p j;simp only[al_,ax_,or_false]at j;rcases j with rfl|rfl<;>exact .pt aD) rfl (λx=>⟨rfl,λa q=>by cases ar_.1 q;exact .v⟩) cz ?_ ?_;rintro x h⟨s,g,len⟩⟨c,k,b,d⟩;simp only at c k b d;rw[bQ]at c;rw[aC_]at k;refine I Fa ?_;refine H.look rfl rfl rfl rfl (λv e=>?_) λe=>?_;rw[b,Fg]at e;have i:s.contains x=true:=X;rw[if_pos i]at e c;cases oJ_ e;refine I Fa ?_;refine H.O7 (s,g,len) [(4,4)] ⟨c,X,b,d⟩ cz;rw[b,Fg]at e;have i:s.contains x=false:=X;rw[if_neg X]at c;refine I Fa ?_;refine H.oW (v:=true) rfl rfl rfl rfl rfl λr t=>?_;rw[b,Pm i]at t;refine I Fa ?_;refine H.app (x:=x) (f:=aV) rfl rfl rfl d (λ_=>rfl) rfl rfl rfl rfl Z λu w B y=>?_;refine I Fa ?_;refine H.O7 (u,r,w) [(4,5)] ⟨X,X,X,y⟩ cz;rintro⟨s,g,len⟩ ⟨c,_,b,d⟩;simp only at c b d;rw[bQ,aI_]at c;refine I Fa ?_;subst c;refine fq ?_;exact aI.grow rfl d
theorem lL:∀(l s:List Int),(bQ s l).length<=l.length|[],s=>ad_ _|x::l,s=>by rw[bQ];split;have:=lL l s;simp;omega;have:=lL l (s++[x]);simp;omega
def varsOf(l:List Tm):List Int:=bQ [] (aX l)
theorem Fh(l:List Tm)(d:l.length<=1099511627776)(e:dR l)(f:(aX l).length<=1099511627776):ab Y 191 [.fn (.func 254) [] [.ip [tl O l]]] (aY O aV false (varsOf l)) :=aiA _ [] _ _ f (λa c=>X) (λa c=>by cases ar_.1 c;exact .ip λb g=>by grind[cZ]) (TB l d e)
theorem XQ(x:Tm):Wk (.sl ex [kR O x]) (tl O [x]):=by grind[tl,bF,qK,Wk.sl]
theorem XT(x:Tm)(d:x.ok)(e:(eD x).length<=1099511627776):ab Y 122 [tm O x] (aY O aV false (varsOf [x])):=by
 have h:=JZ (Y:=Y) (O:=O) [x];have f:=Fh (Y:=Y) (O:=O) [x] aB ⟨d,trivial⟩ (by simpa[aX] using e);let⟨k,i,n,a⟩:=x;let⟨R,g⟩:=aq (varsOf [⟨k,i,n,a⟩]);rw[<-g]at f⊢;clear e d g;refine st anw aaV (bZ _) ?_;repeat' first|refine og aaV (D.jF rfl h ⟨cZ _,trivial⟩ ⟨XQ (O:=O) ⟨k,i,n,a⟩,trivial⟩) ?_|refine og aaV (D.bO rfl f ⟨.fn (λa c=>by cases c) λa c=>by cases ar_.1 c;exact .ip λb j=>by cases ar_.1 j;exact cZ _,trivial⟩) ?_|refine fq ?_
 exact aI.of_eq rfl
theorem Dj(x:Gl)(e:x.a.length<=1099511627776)(f:dR x.a)(g:(aX x.a).length<=1099511627776):ab Y 127 [gl O x] (aY O aV false (varsOf x.a)):=by
 have h:=JZ (Y:=Y) (O:=O) x.a;have c:=Fh (Y:=Y) (O:=O) x.a e f g;let⟨o,n,a⟩:=x;dsimp only at h c⊢;let⟨R,i⟩:=aq (varsOf a);rw[<-i]at c⊢;clear g e f i;refine st anz aaX (bZ _) ?_;repeat' first|apply bk aaX h|refine og aaX (D.bO rfl c ⟨.fn (λa d=>by cases d) λa d=>by cases ar_.1 d;exact .ip λb j=>by cases ar_.1 j;exact cZ _,trivial⟩) ?_|refine fq ?_
 exact aI.of_eq rfl
theorem J5(x:At)(e:x.a.length<=1099511627776)(f:dR x.a)(g:(aX x.a).length<=1099511627776):ab Y 129 [at_ O x] (aY O aV false (varsOf x.a)):=by
 have h:=JZ (Y:=Y) (O:=O) x.a;have c:=Fh (Y:=Y) (O:=O) x.a e f g;let⟨n,a⟩:=x;dsimp only at h c⊢;let⟨R,i⟩:=aq (varsOf a);rw[<-i]at c⊢;clear g e f i;refine st anx aaW (bZ _) ?_;repeat' first|apply bk aaW h|refine og aaW (D.bO rfl c ⟨.fn (λa d=>by cases d) λa d=>by cases ar_.1 d;exact .ip λb j=>by cases ar_.1 j;exact cZ _,trivial⟩) ?_|refine fq ?_
 exact aI.of_eq rfl
end
section
variable{rd:Bool}
theorem Fj{k len:Nat}{o:Oper}(x:res P.toTables o.op=some (.append sz LQ (.t t) b))(h1:U.tm t=.gr k sz len)(J:S.get k=some (.arr sz rows 0 ex))(Q:len=rows.length)(T:∀c,b.ev (bJ U.tm t c)=b.ev U.tm)(V:iB S (b.ev U.tm)=some []):jO P Y n o U S (.gr k sz len) S:=by
 intro F y A g a w z R B C d E;have K:t<n:=by rcases bF_ t n with h|h;grind;have:=d.out t h;rw[h1]at this;cases this
 have e:=d.tm t K;rw[h1]at e;let⟨v,f⟩:∃v,a.tmps.getD t undef=v:=⟨_,rfl⟩;have G:U.tm t≠.u:=X;rw[f]at e;rcases sU e with⟨h,W,rfl⟩|⟨L,c,rfl,hx,i⟩;have j:cN g w n ⟨bJ U.tm t (.sl true []),U.df⟩ a:=d.slot G (by rw[f];exact .nil λ_=>rfl);have l:=D.Ly (P:=P) (Y:=Y) (dr:=false) (U:=⟨bJ U.tm t (.sl true []),U.df⟩) (S:=S) (sz:=sz) (LQ:=LQ) (a:=.t t) (b:=b) (rows:=[]) (aG _ _ _) X n o x;refine l F y A g a w z R B C j λv p q r s k3=>E v p q ?_ s k3;subst h;cases r with|nil u=>cases u rfl;exact .lH|sl u=>exact absurd rfl u
 have j:cN g w n ⟨bJ U.tm t (.ob k sz 0 len none),U.df⟩ a:=d.slot G (by rw[f];have:=aO.ob (g:=g) (w:=w) (k:=k) (sz:=sz) (off:=0) (len:=len) (c:=c) (cx:=none) L (λm h=>X) Z (λ_=>Z) i;rwa[bd_]at this);have l:=D.Vy (P:=P) (Y:=Y) (dr:=false) (U:=⟨bJ U.tm t (.ob k sz 0 len none),U.df⟩) (S:=S) (sz:=sz) (LQ:=LQ) (a:=.t t) (b:=b) (k:=k) (fz:=0) (ex:=ex) (rows:=rows) (sz':=sz) (aG _ _ _) J X n o x;refine l F y A g a w z R B C j λv p q r s k3=>E v p q ?_ s k3;cases r with|ob q1 q2 q3 q4 N=>rw[bd_];exact .gr q1 X N
theorem jd{S:ah}{l:List (List AV)}:iB S (.sl ex l)=some l:=by simp[iB,rowsOf,qT]
theorem H.aa4{a:Option Nat}{d:Option (Nat×Bool)}{k len:Nat}(m:bC U.tm d=some true)(h1:U.tm t=.gr k sz len)(p:S.get k=some (.arr sz (O.h (List.map f) LR) 0 ex))(z:len=LR.length)(q:∀c,b.ev (bJ U.tm t c)=b.ev U.tm)(g:b.ev U.tm=aY O f ex' ys)(s:∀x,(f x).length=sz)(u:∀x,(f x).all db=true)(A:(len+ys.length)*LQ<=35184372088832)(k0:ys=[]->H P Y rd n Q (.bj false l K) (bU a U (.gr k sz len)) S)(kk:∀j r,ys≠[]->j=LR++ys->r=j.length->H P Y rd n Q (.bj false l K) (bU a U (.gr S.nx sz r)) ((S.set k none).new (.arr sz (O.h (List.map f) j) 0 false))):H P Y rd n Q (.bj false (⟨a,d,.append sz LQ (.t t) b⟩::l) K) U S:=by have B:(O.h (List.map f) LR).length=LR.length:=az;rw[bF]at g;cases ys with|nil =>exact H.op (i:=⟨a,d,.append sz LQ (.t t) b⟩) m (λn o v=>Fj v h1 p Z q (by rw[g];exact jd)) (k0 rfl)|cons y ys =>
  have h:=kk _ _ aB rfl rfl;have e:O.h (List.map f) LR++List.map f (y::ys)=O.h (List.map f) (LR++y::ys):=by rw[O.eq,O.eq,ba_]
  rw[<-e,show(LR++y::ys).length=len+(f y::List.map f ys).length by grind]at h;refine H.op (i:=⟨a,d,.append sz LQ (.t t) b⟩) m (D.gy h1 p Z q (by rw[g];exact jd) (by rw[g];exact jd) (λrow w=>?_) X) h;obtain⟨x,_,rfl⟩:=aD_.1 (show row∈List.map f (y::ys) from w);exact⟨s x,u x⟩
theorem yS{o:Op}(h:res P.toTables o=some (.append sz LQ a b)):qf o=false:=by grind[rM,qf]
theorem bm.append{d:Dt}(f:b.ev U.tm=.sl ex FJ)(j:iC S d.F)(h:∀T,iC T d.F->(d.m=true->T.nx=S.nx)->∀e z,eu P e=some z->eJ P e=some sz->kQ P e=some LQ->Nat.blt 0 LQ=true->qt P e (B2 r (eX T d.W d.m)) T FJ (a.ev U.tm)):bm P Y B (.append sz LQ a b) U S r d:=by refine bm.MN λo C E=>by grind[B4,yS] j λT k l o m=>?_;obtain⟨c,t,t2,u,v,e,F,z,rfl,n,p,q,rfl,rfl,s,w,g,i,x,y,A⟩:=rM m;rw[aT]at f;have h:=h T k l e z g i x A;rw[aT]at h;simp only[bV,n,qV,p,q,aH_,aV_,s,w,g,i,y];rw[f];exact bM.mk (a:=FJ) rfl ⟨rfl,h⟩
theorem bm.Ly(c:a.ev U.tm=.sl true rows)(d:b.ev U.tm=.sl ex []):bm P Y B (.append sz LQ a b) U S (.sl true rows) ⟨[],[],false⟩ :=bm.append d (λp f=>X) λT _ _ e z _ _ _ _=>by rw[c];exact⟨rfl,by rw[lM]⟩
theorem bm.Po(d:a.ev U.tm=.sl true [])(f:b.ev U.tm=.sl ex (x::FJ))(h3:∀row∈x::FJ,row.length=sz)(h4:(x::FJ).length*LQ<=35184372088832):bm P Y B (.append sz LQ a b) U S (.ob S.nx sz 0 (x::FJ).length none) ⟨[],[(S.nx,some (.arr sz (x::FJ) 0 false))],true⟩ :=bm.append f (λp c=>X) λT _ g e z k i j c=>by rw[d];simp only[qt,i,j,c];refine⟨λ_ h=>X,h3,X,?_,?_⟩;grind;rw[gK];simp only[eE,<-g rfl];rfl
theorem bm.gy{k len:Nat}(a:U.tm t=.gr k sz len)(E:S.get k=some (.arr sz rows 0 ex))(i:len=rows.length)(F:∀c,b.ev (bJ U.tm t c)=b.ev U.tm)(d:b.ev U.tm=.sl ex' (x::FJ))(h3:∀row∈x::FJ,row.length=sz/\row.all db=true)(h4:(len+(x::FJ).length)*LQ<=35184372088832):bm P Y B (.append sz LQ (.t t) b) U S (.gr S.nx sz (len+(x::FJ).length)) ⟨[(k,.arr sz rows 0 ex)],[(S.nx,some (.arr sz (rows++x::FJ) 0 false)),(k,none)],true⟩:=by
 intro n o f;refine⟨λj=>by grind[B4,yS],show iC S _ fromλp j=>X,λT _ l m=>?_⟩;have e:∀y:QO,y=.t t\/y=b->y.ev (U.only (dS o)).tm=y.ev U.tm:=by let⟨c,t1,t2,u,v,e,G,z,r,w,J,h3,h4,K,_⟩:=rM f;intro y L;have:∃q∈[u,v],y=qo q:=X;obtain⟨q,M,rfl⟩:=this;rw[aT,aT];refine gI λt A=>gJ ?_;rw[r,<-A];have:q∈c.args:=cD_.1 X;show q∈c.operands;simp[Call.operands,this,w]
 have C:(U.only (dS o)).tm t=.gr k sz len:=(e (.t t) (.inl rfl)).trans a;have N:=e b (.inr rfl);have key:∀c,b.ev (bJ (U.only (dS o)).tm t c)=b.ev (U.only (dS o)).tm:=by intro c;cases b with|t s =>by_cases g:s=t;exfalso;subst g;rw[show(QO.t s).ev U.tm=U.tm s from rfl,a]at d;cases d;exact aN _ _ g|_=>rfl
 have h:=Pp (P:=P) (Y:=Y) (n:=n) (U:=U.only (dS o)) (S:=T) (k:=k) (sz:=sz) (LQ:=LQ) (len:=len) (ex:=ex) (b:=b) (rows:=rows) (FJ:=FJ) (x:=x) f C (l (k,.arr sz rows 0 ex) aB) i key (by grind[jd]) (by grind[jd]) h3 h4;rw[gK,<-m rfl];exact h
theorem bm.anS{k len:Nat}(a:U.tm t=.gr k sz len)(x:S.get k=some (.arr sz rows 0 ex))(h:len=rows.length)(A:∀c,b.ev (bJ U.tm t c)=b.ev U.tm)(d:b.ev U.tm=.sl ex' []):bm P Y B (.append sz LQ (.t t) b) U S (.gr k sz len) ⟨[(k,.arr sz rows 0 ex)],[],false⟩:=by
 intro n o f;refine⟨λi=>by grind[B4,yS],show iC S _ fromλp i=>X,λT _ j C=>?_⟩;have e:∀y:QO,y=.t t\/y=b->y.ev (U.only (dS o)).tm=y.ev U.tm:=by let⟨c,t1,t2,u,v,e,E,z,l,m,F,G,J,K,_⟩:=rM f;intro y L;have:∃q∈[u,v],y=qo q:=X;obtain⟨q,M,rfl⟩:=this;rw[aT,aT];refine gI λt r=>gJ ?_;rw[l,<-r];have:q∈c.args:=cD_.1 X;show q∈c.operands;simp[Call.operands,this,m]
 have w:(U.only (dS o)).tm t=.gr k sz len:=(e (.t t) (.inl rfl)).trans a;have N:=e b (.inr rfl);have key:∀c,b.ev (bJ (U.only (dS o)).tm t c)=b.ev (U.only (dS o)).tm:=by intro c;cases b with|t s =>by_cases g:s=t;exfalso;subst g;rw[show(QO.t s).ev U.tm=U.tm s from rfl,a]at d;cases d;exact aN _ _ g|_=>rfl
 rw[show eX T [] false=T from lM];exact Fj f w (j (k,.arr sz rows 0 ex) aB) h key (by grind[jd])
theorem bm.anT{f:QO}{aZ9:List QO}{g:FuncId}{PZ:List AV}{r₀:AV}{so':List (Nat×Ob)}{ob:Ob}(G:aF P Y g args (aw [] 0) r (aw so' 1))(h:fk (f.ev U.tm) (aZ9.map (·.ev U.tm))=some (g,PZ))(J:zt (aW []) 0 PZ args)(l:Rb (dP (aW []) 0 S.nx) r r₀)(s:ix (dP (aW []) 0 S.nx) so' [(S.nx,some ob)])(K:BB so'=true):bm P Y B (.call f aZ9) U S r₀ ⟨[],[(S.nx,some ob)],true⟩:=by
 intro n o x;let⟨c,u,ho,y,L,d⟩:=mq x;refine⟨λM=>by grind[sI,qf],show iC S [] fromλp M=>X,λT _ _ Q=>?_⟩;have e:T.nx=S.nx:=Q rfl;have z:∀q∈(.call c:Op).operands,(U.only (dS o)).ev q=U.ev q:=λq V=>gI λt ht=>gJ X;have W:fk (f.ev (U.only (dS o)).tm) (aZ9.map (·.ev (U.only (dS o)).tm))=some (g,PZ):=by rw[<-h,L,d,aT,aT,jG,jG,z u (show u∈c.operands by simp[Call.operands,y])];congr 1;exact aQ_ λq V=>z q (show q∈c.operands by simp[Call.operands,y];exact .inr X)
 rw[<-e]at l s⊢;intro F mm A C a w nx R hF hS hA oX;let i:ah:=⟨λk=>if k<T.nx then T.get k else none,T.nx⟩;have lu:St Y A C i w:=hS.forget (ad_ _) λj p b _=>X;have hc:=D.nS (P:=P) (Y:=Y) (U:=U.only (dS o)) (T:=i) (m:=[]) (N:=0) (N':=1) (so:=[]) (so':=so') (to:=[(T.nx,some ob)]) (f:=f) (aZ9:=aZ9) G W J l rfl rfl trivial s rfl (λk p hk=>X) (.inr K) n o x;refine hc F mm A C a w nx R hF lu hA λv w' g' k1 E k3=>oX v w' g' k1 ?_ k3;rw[gK];refine E.forget (ad_ _) λj p b aR=>?_;have xH:j<T.nx+1:=E.al j aR;have b:bJ T.get T.nx (some ob) j=some p:=b;show bJ i.get T.nx (some ob) j=some p;by_cases ej:j=T.nx;grind[aG];rw[aN _ _ ej]at b⊢;show(if j<T.nx then T.get j else none)=some p;rw[if_pos Z];exact b
end
def qX(c:Value->Bool):List (Value×AV)->Option Nat|[]=>none|p::es=>if c p.1 then some 0 else(qX c es).map (·+1)
structure Lz(P:Program)(kt:Nat)(v:Value)(es:List (Value×AV))(c:Value->Bool):Prop where
 chk:∀b w,(Instr.checkKey b 10000 kt v).run P w=.ok () w
 str:∃fs,P.underlying kt=some (.struct fs)eq:∀p∈es,∀w,(Op.equal kt v p.1).run P w=.ok (c p.1) w
theorem TJ{c:Value->Bool}:∀{es:List (Value×AV)}{j:Nat},qX c es=some j->∃k a,es[j]?=some (k,a)/\c k=true|[],j,h=>by cases h|p::es,j,h=>by rw[qX]at h;split at h;grind;cases b:qX c es with|none=>rw[b]at h;cases h|some e =>rw[b]at h;cases oJ_ h;let⟨k,a,f,d⟩:=TJ b;exact⟨k,a,X,d⟩
theorem MO{kt:Nat}{v:Value}{c:Value->Bool}{w:World}:∀{es:List (Value×AV)}{L:List MapEntry}{o:Nat},(∀p∈es,∀w,(Op.equal kt v p.1).run P w=.ok (c p.1) w)->L.length=es.length ->(∀(j:Nat)(k:Value)(a:AV)(e:MapEntry),es[j]?=some (k,a)->L[j]?=some e->e.key=k) ->(Instr.findAsking kt v L o).run P w=.ok (match qX c es with|some j=>L[j]?.map λe=>(j+o,e.val)|none=>none) w
 |[],[],o,_,_,_=>rfl|p::es,e::L,o,d,f,h=>by have b:e.key=p.1:=h 0 p.1 p.2 e rfl rfl;have g:=MO (w:=w) (es:=es) (L:=L) (o:=o+1) (λq l=>d q X) X λj k a i m n=>h (j+1) k a i X X;simp only[Instr.findAsking,Sem.run_bind,b,d p aB w,Result.andThen_ok,qX];cases r:c p.1 with|true=>simp[Sem.run_pure]|false =>simp only[if_false,bw_,g];congr 1;cases qX c es with|none=>rfl|some j=>simp only[aK_,cO_];congr 1;funext x;congr 1;omega
 |[],_::_,_,_,f,_=>X|_::_,[],_,_,f,_=>X
theorem Lz.find(h:Lz P kt v es c){g:Gh}{w:World}{entries:Array MapEntry}(m:entries.size=es.length)(n:∀(i:Nat) (k:Value) (a:AV),es[i]?=some (k,a)->∃e:MapEntry,entries[i]?=some e/\e.key=k/\aO g w a e.val):(Instr.findKey kt v entries.toList).run P w=.ok (match qX c es with|some j=>entries[j]?.map λe=>(j,e.val)|none=>none) w:=by let⟨l,d⟩:=h.str;have b:=MO (P:=P) (w:=w) (es:=es) (L:=entries.toList) (o:=0) h.eq X λj k a e p q=>X;simp only[bh_,bz_]at b;simp only[Instr.findKey,Sem.run_bind,run_underlying d,Result.andThen_ok];cases f:entries.toList with|nil =>rw[f]at b;simp only[Instr.findNow,Sem.run_pure];simp only[Instr.findAsking,Sem.run_pure]at b;exact b|cons e L =>
  rw[<-f];have:Instr.findNow (.struct l) v entries.toList 0=none:=by rw[f];simp[Instr.findNow,Instr.sameNow]
  rw[this];exact b
def mK(c:Value->Bool)(es:List (Value×AV)):Option AV:=match qX c es with|some j=>es[j]?.map (·.2)|none=>none
theorem XU{o:Op}{z:AV}{c:Bool}{x:QO}(h:res P.toTables o=some (.mK kt z c x i)):∃t u v b a,o=.lookup t u v c/\x=qo u/\i=qo v/\P.underlying t=some (.map kt b)/\eu P b=some a/\z=lift a:=by cases o with
 |lookup t u v j =>
  simp only[res,cM,kV]at h;split at h;·rename_i f b e;split at h;grind;rename_i _ _ a g d;simp only[oI_,nV.mK.injEq]at h;obtain⟨rfl,rfl,rfl,rfl,rfl⟩:=h;exact⟨_,_,_,_,_,rfl,rfl,rfl,e,d,rfl⟩;rename_i _ a g d;simp only[oI_,nV.mK.injEq]at h;obtain⟨rfl,rfl,rfl,rfl,rfl⟩:=h;exact⟨_,_,_,_,_,rfl,rfl,rfl,e,d,rfl⟩;all_goals cases h
  grind|_ =>
  simp only[res]at h;repeat' split at h
  all_goals cases h
theorem XV{o:Op}{x:QO}(h:res P.toTables o=some (.Ax kt x i b)):∃t u v y a,o=.mapUpdate t u v y/\x=qo u/\i=qo v/\b=qo y/\P.underlying t=some (.map kt a):=by cases o with|mapUpdate t u v y =>simp only[res,cM]at h;split at h;grind;grind|_ =>
  simp only[res]at h;repeat' split at h
  all_goals cases h
theorem XW{t kt r:TypeId}{x i:Operand}{k:Nat}{z:Value}{m:AV}{cm:Bool}(s:o.op=.lookup t x i cm)(u:P.underlying t=some (.map kt r))(M:eu P r=some z)(d:U.ev x=.mp k)(N:S.get k=some (.mp es))(hi:toV (U.ev i)=some v)(l:Lz P kt v es c):a_ P Y n o U S (match mK c es with|some a=>if cm then .aL [a,.v (.bool true)] else a|none=>if cm then .aL [lift z,.v (.bool false)] else lift z) S:=by
 refine a_.quiet λA g q w Q B=>?_;have C:=B.ev x;rw[d]at C;have E:=BZ (B.ev i) hi;let⟨F,R⟩:=uO C;let⟨_,_,entries,clock,G,T,J⟩:=Q.cX k _ N R;have f:=l.find T J;have fin:∀(v:Value)(b:Bool)(a:AV),aO g w a v->aO g w (if cm then .aL [a,.v (.bool b)] else a) (if cm then .tuple #[v,.bool b] else v):=by intro v b a K;cases cm with|false=>exact K|true =>refine .aL rfl λi y x h d=>?_;match i with|0=>simp at h d;subst h d;exact K|1=>simp at h d;subst h d;exact .v|i+2=>simp at h
 unfold mK;cases p:qX c es with|none =>rw[p]at f;refine⟨_,?_,fin z false (lift z) (y7 z)⟩;simp only[execOp,s,F,E,Instr.lookup,Sem.run_bind,run_underlying u,Result.andThen_ok,iO G,Sem.run_pure,l.chk,f,pC M]|some j =>let⟨W,a,L,_⟩:=TJ p;let⟨e,q1,q2,V⟩:=J j _ a L;rw[p]at f;simp only[q1,aK_]at f;simp only[L,aK_];refine⟨_,?_,fin e.val true a V⟩;simp only[execOp,s,F,E,Instr.lookup,Sem.run_bind,run_underlying u,Result.andThen_ok,iO G,Sem.run_pure,l.chk,f]
theorem D.mK{z:AV}{cm:Bool}{x:QO}{k:Nat}(b:x.ev U.tm=.mp k)(d:S.get k=some (.mp es))(hi:toV (i.ev U.tm)=some v)(e:Lz P kt v es c):D P Y false (.mK kt z cm x i) U S (match mK c es with|some a=>if cm then .aL [a,.v (.bool true)] else a|none=>if cm then .aL [z,.v (.bool false)] else z) S:=D.run λn o f=>by obtain⟨t,u,y,l,p,g,rfl,rfl,h,j,rfl⟩:=XU f;rw[aT]at b hi;exact XW (m:=.u) g h j b d hi e
theorem D.Ax{x:QO}{k:Nat}{a:AV}(j:x.ev U.tm=.mp k)(l:S.get k=some (.mp es))(hi:toV (i.ev U.tm)=some v)(m:Lz P kt v es c)(G:qX c es=none)(p:b.ev U.tm=a):D P Y false (.Ax kt x i b) U S (.v undef) (S.set k (some (.mp (es++[(v,a)])))):=D.run λn o J=>by obtain⟨t,u,y,r,et,K,rfl,rfl,rfl,L⟩:=XV J;rw[aT]at j hi p;intro A g q w s f;have z:=f.ev u;have h:=f.ev r;rw[j]at z;rw[p]at h;have M:=BZ (f.ev y) hi;let⟨N,B⟩:=uO z;let⟨x,C⟩:∃x,q.eval r=x:=⟨_,rfl⟩;rw[C]at h;let⟨_,_,entries,clock,E,Q,R⟩:=s.cX k _ l B;have F:=m.find Q R;rw[G]at F;let⟨T,q1,V,W⟩:=s.Fm (P:=P) l B E (entries':=entries.push {key:=v,val:=x,born:=clock }) (clock':=clock+1) (es':=es++[(v,a)]) X (λi key a' hi=>by by_cases c:i<es.length;grind;rw[bv_ Z]at hi;have Pq:i=es.length:=X;subst Pq;simp at hi;obtain⟨rfl,rfl⟩:=hi;exact⟨{key:=v,val:=x,born:=clock },X,rfl,h⟩);refine⟨undef,T,g,.inr ⟨?_,rfl⟩,.v,V,W⟩;simp only[execOp,K,N,M,C,Instr.mapUpdate,Sem.run_bind,run_underlying L,Result.andThen_ok,iO E,m.chk,F,q1,Sem.run_pure]
section
variable{rd:Bool}
def H.Dk{σ:Type}{st:σ->List (Nat×AV)}{so:σ->List (Nat×Ob)}{a:σ->Prop}{μ:σ->Nat}{k:Nat}(h:H P Y rd n Q (.out (.panic ch) K) U S):H P Y rd n (Ev P Y rd n B N st ds so a μ Q K k) (.out (.panic ch) []) U S:=h
end
theorem ao.zu{f:FuncId}(h1:aF P Y f args ah.none_ r' S')(h2:aI S' r' r)(B:Pure r):ao P Y f args r:=by
 refine⟨B,ah.none_,h1.1,λF m A g c w E x G=>(h1.2 F m A g c w E x G).mono ?_⟩;rintro e K⟨v,l,rfl,L,d,n⟩;have a:∀b q,(l.still S').fz b q->g.fz b q\/A b:=by rintro b q(i|⟨k,sz,rows,fz,ex,a,y,rfl,i⟩);exact n.lI b q i;exact .inr (d.cX k _ a y).1
 have M:=h2.rep d L;let⟨u,s⟩:∃u:Gh,u=⟨g.ob,g.cp,λ_=>False,(l.still S').fz,g.fo⟩:=⟨_,rfl⟩;have N:∀k,¬g.al k:=λk a=>absurd (x.al k a) (Nat.not_lt_zero k);have C:Later g w u K:=by rw[s];exact⟨λk a=>N k a,λ_ _=>rfl,λ_ _=>rfl,λb q i=>.inl (n.fz b q i),n.cell⟩
 refine⟨v,u,rfl,?_,?_,{C with size:=n.size,aQ:=n.aQ,lI:=by rw[s];exact a }⟩;rw[s];exact aO.pure (g:=l.still S') (g':=⟨g.ob,g.cp,λ_=>False,(l.still S').fz,g.fo⟩) (λ_ _ h=>h) (λ_ _ _=>rfl) M B;have t:∀k o,¬ah.none_.get k=some o:=λk o h=>by simp[ah.none_]at h
 refine⟨d.base,d.up,d.lo,λk a=>?_,λk o a=>absurd a (t k o),λj k o p z=>absurd z (t j o),?_,λb q Q=>C.fz b q (x.tW b q Q),λk J a=>absurd a (t k _),λk J j o a=>absurd a (t k _),λj k J T z=>absurd z (t j _)⟩;rw[s]at a;exact a.elim;rw[s];rintro b q(i|⟨k,sz,rows,fz,ex,a,y,rfl,i⟩);exact d.dL b q i;exact(d.cX k _ a y).2.1
end Go.Proofs.YtbdcmpknicjopaaGreat
