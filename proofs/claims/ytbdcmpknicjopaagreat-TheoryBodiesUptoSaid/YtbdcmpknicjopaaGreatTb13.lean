import Derived.Test.YtbdcmpknicjopaaGreatTb12
namespace Go.Proofs.YtbdcmpknicjopaaGreat
set_option linter.all false
set_option maxRecDepth 100000
open Go.RowKit Proofs.Tryz
variable{O:Hd}{T:Type}{Y:World}{s:List Int}
section
attribute [local irreducible] ao aF D H
def aov:=aD func166 call166
def B0:List Nat:=[8,0,5,4,7,9,1,16]
def aow:=aD func102 call102
def ab1:List Nat:=[4,0,1]
def aox:=aD func257 call257
def zL:List Nat:=[8,0,5,4,1,7,9,3,16]
def aoy:=aD func197 call197
def ab2:List Nat:=[4,1,0,3]
def aoz:=aD func128 call128
def ajg:List Nat:=[6,0,1,2]
def aoA:=aD func130 call130
def ab3:List Nat:=[2,0,1]
def atJ:=aD func83 call83
def g83:List Nat:=[2,0,1]
def aoB:=aD func199 call199
def atK:List Nat:=[2,0,1]
def aoC:=aD func258 call258
def aji:List Nat:=[3,0,2,1]
def aoD:=aD func131 call131
def PZ:List Nat:=[4,0,6,5,1,12]
def atM:=aD func80 call80
def FT:List Nat:=[6,4,0,5,10,1,19]
def jl(l:List Im)(id:Int):At×Bool:=match l.find? λx=>x.id==id with|some x=>(⟨x.n,x.a⟩,true)|none=>(⟨⟨#[]⟩,[]⟩,false)
theorem DK{T:Type}(p:T->Bool):∀(l:List T)(k:Nat),0<=dp p l k->∃(j:Nat) (x:T),dp p l k=((k+j:Nat):Int)/\l[j]?=some x/\l.find? p=some x|[],k,h=>by grind[dp]|x::l,k,h=>by rw[dp]at h⊢;by_cases c:p x=true;rw[if_pos c];exact⟨0,x,rfl,rfl,I⟩;rw[if_neg c]at h⊢;let⟨j,y,a,b,d⟩:=DK p l (k+1) h;exact⟨j+1,y,I,I,I⟩
theorem Cx{T:Type}(p:T->Bool):∀(l:List T)(k:Nat),dp p l k<0->l.find? p=none|[],k,h=>rfl|x::l,k,h=>by rw[dp]at h;by_cases c:p x=true;grind;rw[if_neg c]at h;rw[cl_];simp[c,Cx p l (k+1) h]
theorem FU(l:List Int)(v:Int):l.any λx=>v==x=l.contains v:=I
theorem aoE(l:List Int)(v:Int)(h:l.length<=1099511627776):ab Y 166 [aY O aR false l,iv v] (iv (dp (λx=>v==x) l 0)):=by
 let⟨R,c⟩:=aq (dp (λx=>v==x) l 0);rw[<-c];refine st aov B0 .v ?_;repeat' first|refine lg B0 λm j=>?_
 refine bE 0 0 [] (λi=>[(0,aY O aR false l),(1,.v (.int .i64 v)),(7,.v (.int .i64 m)),(8,.v (.int .i64 i))]) [] (λ_=>[]) l.length (λk=>R=dp (λx=>v==x) (l.drop k) k) I λi k d n a=>?_;clear c;refine Z B0 ?_;by_cases e:k<l.length
 ·let⟨x,f,g⟩:=aA e;rw[g,dp]at a;repeat' first|refine og B0 (D.bh d f) ?_|refine cg B0 (λb=>?_) λb=>?_|refine ag B0 λ_ _=>?_|refine xG B0 ?_|refine rG B0 ?_|refine fq ?_
  all_goals first|rw[if_pos I]at a;refine dx ?_;omega|rw[if_neg I]at a;exact cw _ [] (k+1) a
 ·skip;repeat' first|refine cg B0 (λb=>?_) λb=>?_|refine xG B0 ?_|refine fq ?_
  all_goals first|omega|rw[a,al_ X];exact dx rfl
theorem P0(l:List Int)(v:Int)(c:l.length<=1099511627776):ab Y 102 [aY O aR false l,iv v] (.v (.bool (l.contains v))):=by
 have b:=aoE (Y:=Y) (O:=O) l v c;have a:=tT (λx=>v==x) l 0;rw[FU]at a;let⟨j,d⟩:=aq (dp (λx=>v==x) l 0);rw[<-d]at b a;refine st aow ab1 .v ?_;repeat' first|refine ig ab1 (pl b) λ_ _=>?_|refine cg ab1 (λe=>?_) λe=>?_|refine fq ?_
 all_goals subst_vars;refine aL ?_;rw[<-a];simp_all
theorem Uz(r:Rl)(a:r.rem.length<=1099511627776):ab Y 130 [rl O r] (.v (.bool r.rem.isEmpty)):=by
 let⟨n,e,c,g,b,v⟩:=r;dsimp only at a⊢;refine st aoA ab3 .v ?_;repeat' first|refine cg ab3 (λd=>?_) λd=>?_|refine lg ab3 λm f=>?_|refine fq ?_
 all_goals subst_vars;refine aL ?_;cases c<;>simp_all<;>omega
theorem UA(r:Rl)(a:r.rem.length<=1099511627776):ab Y 83 [rl O r] (.v (.bool r.rem.isEmpty)):=by
 let⟨n,e,c,g,b,v⟩:=r;dsimp only at a⊢;refine st atJ g83 .v ?_;repeat' first|refine cg g83 (λd=>?_) λd=>?_|refine lg g83 λm f=>?_|refine fq ?_
 all_goals subst_vars;refine aL ?_;cases c<;>simp_all<;>omega
theorem UB(n a:ByteArray)(i b:Int):EqS prog 60 (.agg #[.string n,.int .i64 i]) (.agg #[.string a,.int .i64 b]) (n.toList==a.toList&&i==b):=by
 refine⟨⟨_,_,rfl,rfl⟩,by kernel_rfl,λw=>?_⟩;have c:prog.underlying 60=some (.struct (prog.fieldsOf 60)):=by kernel_rfl
 have d:prog.stoodInHeld 60=false:=by kernel_rfl
 have e:=underlying3;have f:=underlying9;have g:=isAgg3;have h:=isAgg9;rw[run_eql_struct,show(10000:Nat)=9998+1+1 from rfl,run_equalIn_agg w _ 60 _ _ c d];simp only[Program.fieldsOf,underlying60];have j:∀w,(Op.equalIn (9998+1) 9 (.string n) (.string a)).run prog w=.ok (n.toList==a.toList) w:=λw=>run_equalIn_string w _ _ _ _ f;have k:∀w,(Op.equalIn (9998+1) 3 (.int .i64 i) (.int .i64 b)).run prog w=.ok (i==b) w:=λw=>run_equalIn_int w _ _ _ _ _ _ e;cases l:n.toList==a.toList<;>cases m:i==b<;>simp[Op.eqFields,part,g,h,j,k,l,m]
def KG(n:ByteArray)(i:Int)(d:Dc):Bool:=n.toList==d.n.toList&&i==d.ar
theorem agZ(l:List Dc)(n:ByteArray)(i:Int):l.any (KG n i)=jh l n i:=by grind[jh,KG]
theorem aoF(l:List Dc)(n:ByteArray)(a:Int)(q:l.length<=1099511627776):ab Y 257 [h_ O l,dc ⟨n,a⟩] (iv (dp (KG n a) l 0)):=by
 let⟨R,f⟩:=aq (dp (KG n a) l 0);rw[<-f];refine st aox zL .v ?_;repeat' first|refine lg zL λm r=>?_
 refine bE 1 1 [] (λi=>[(0,h_ O l),(3,.pt 0 2 0 0),(7,.v (.int .i64 m)),(8,.v (.int .i64 i))]) [] (λ_=>[(0,.arr 2 [YH ⟨n,a⟩] 0 true)]) l.length (λk=>R=dp (KG n a) (l.drop k) k) I λi k g s b=>?_;clear f;refine Z zL ?_;by_cases h:k<l.length
 ·let⟨x,j,o⟩:=aA h;rw[o,dp]at b;let⟨c,d⟩:=x;repeat' first|refine og zL (D.bh g j) ?_|refine bg zL (D.eqs rfl rfl (UB n c a d)) (λ_=>?_) λ_=>?_|refine cg zL (λe=>?_) λe=>?_|refine ag zL λ_ _=>?_|refine xG zL ?_|refine rG zL ?_|refine fq ?_
  grind[KG,dx];have p:(n.toList==c.toList&&a==d)=false:=I;rw[if_neg (show¬KG n a ⟨c,d⟩=true from by show¬(n.toList==c.toList&&a==d)=true;rw[p];simp)]at b;exact cw _ [] (k+1) b;omega
 ·skip;repeat' first|refine cg zL (λe=>?_) λe=>?_|refine xG zL ?_|refine fq ?_
  all_goals first|omega|rw[b,al_ X];exact dx rfl
theorem ajj(l:List Dc)(n:ByteArray)(a:Int)(d:l.length<=1099511627776):ab Y 197 [h_ O l,dc ⟨n,a⟩] (.v (.bool (jh l n a))):=by
 have c:=aoF (Y:=Y) (O:=O) l n a d;have b:=tT (KG n a) l 0;rw[agZ]at b;let⟨j,e⟩:=aq (dp (KG n a) l 0);rw[<-e]at c b;refine st aoy ab2 .v ?_;repeat' first|refine ig ab2 (D.bM rfl c ⟨eN _,Me ⟨n,a⟩,trivial⟩) λ_ _=>?_|refine cg ab2 (λf=>?_) λf=>?_|refine fq ?_
 all_goals subst_vars;refine aL ?_;rw[<-b];simp_all
theorem DL(l:List Dc)(n:ByteArray)(a:Int)(c:l.length<=1099511627776):ab Y 128 [h_ O l,.v (.string n),iv a] (.v (.bool (jh l n a))):=by
 have b:=ajj (Y:=Y) (O:=O) l n a c;let⟨R,d⟩:=aq (jh l n a);rw[<-d]at b⊢;refine st aoz ajg .v ?_;repeat' first|refine og ajg (D.bM rfl b ⟨eN _,Me ⟨n,a⟩,trivial⟩) ?_|refine fq ?_
 exact aL rfl
theorem ajk(id:Int):ab Y 199 [iv id] (.fn (.func 258) [] [.ip [iv id]]):=by
 refine st aoB atK (.fn (λa c=>I) λa c=>by cases ak_.1 c;exact .ip λb d=>by cases ak_.1 d;exact .v) ?_;repeat' first|refine fq ?_
 refine aH.fns ?_ ?_;exact trivial;exact⟨aH.box (cs:=[iv id]) (cs':=[iv id]) rfl ⟨.refl _,trivial⟩,trivial⟩
theorem ag0(x:Im)(id:Int):ab Y 258 [it O x,.ip [iv id]] (.v (.bool (x.id==id))):=by
 let⟨i,n,a⟩:=x;refine st aoC aji .v ?_;repeat' first|refine cg aji (λb=>?_) λb=>?_|refine fq ?_
 all_goals refine aL ?_;simp_all
theorem aoG(x:Im)(id:Int):zE prog Y (.fn (.func 258) [] [.ip [iv id]]) [it O x] (x.id==id):=⟨_,_,rfl,⟨ze x,.ip λb a=>by cases ak_.1 a;exact .v,trivial⟩,ag0 x id⟩
theorem ajl(l:List Im)(id:Int)(n:l.length<=1099511627776):ab Y 131 [lj O l,iv id] (.aJ [at_ O (jl l id).1,.v (.bool (jl l id).2)]):=by
 have o:=ajk (Y:=Y) id;have g:Pure (.fn (.func 258) [] [.ip [iv id]]):=.fn (λa f=>I) λa f=>by cases ak_.1 f;exact .ip λb h=>by cases ak_.1 h;exact .v
 have m:=ai6 (Y:=Y) (O:=O) (λx=>x.id==id) l _ [] _ n g λx _=>aoG x id;have c:=DK (λx:Im=>x.id==id) l 0;have d:=Cx (λx:Im=>x.id==id) l 0;let⟨j,p⟩:=aq (dp (λx:Im=>x.id==id) l 0);rw[<-p]at m c d;let⟨R,e⟩:=aq (jl l id);rw[<-e];unfold jl at e;refine st aoD PZ (.aJ λa f=>by simp only[ae_,aw_,or_false]at f;rcases f with rfl|rfl;exact uB _;exact .v) ?_;repeat' first|apply a8 PZ o|refine ig PZ (pl m) λ_ _=>?_|refine cg PZ (λh=>?_) λh=>?_|refine fq ?_
 ·let⟨q,x,u,r,s⟩:=c X;rw[s]at e;subst e;let⟨v,w,y⟩:=x;repeat' first|refine og PZ (D.ind rfl rfl (eZ (l:=l) (k:=q) X r) (ec λ_=>rfl)) ?_|refine fq ?_
  exact aH.of_eq rfl
 rw[d X]at e;subst e;refine .aJ rfl λi a t c d=>?_;match i,c,d with
 |0,c,d =>cases oJ_ c;cases oJ_ d;refine .agg rfl λi a t c d=>?_;match i,c,d with|0,c,d =>cases oJ_ c;cases oJ_ d;exact .refl _|1,c,d =>cases oJ_ c;cases oJ_ d;rw[tl,bF];exact aH.wk
 |1,c,d =>cases oJ_ c;cases oJ_ d;exact .refl _
theorem YS(l:List Im)(id:Int)(s:l.length<=1099511627776):ab Y 80 [lj O l,iv id] (.aJ [at_ O (jl l id).1,.v (.bool (jl l id).2)]):=by
 let⟨R,f⟩:=aq (jl l id);rw[<-f];refine st atM FT (.aJ λa g=>by simp only[ae_,aw_,or_false]at g;rcases g with rfl|rfl;exact uB _;exact .v) ?_;refine bE 1 1 [] (λi=>[(0,lj O l),(1,.v (.int .i64 id)),(4,.pt 0 2 0 0),(6,.v (.int .i64 i))]) [] (λ_=>[(0,.arr 2 [[.v (.string ⟨#[]⟩),.sl true []]] 0 true)]) l.length (λk=>R=jl (l.drop k) id) I λi k j t d=>?_;clear f;refine Z FT ?_;by_cases n:k<l.length
 ·let⟨x,o,p⟩:=aA n;rw[p,jl,cl_]at d;let⟨h,u,v⟩:=x;repeat' first|refine og FT (D.bh j o) ?_|refine cg FT (λe=>?_) λe=>?_|refine lg FT λm q=>?_|refine ag FT λ_ _=>?_|refine xG FT ?_|refine rG FT ?_|refine fq ?_
  all_goals first|omega|rw[show(h==id)=true by grind]at d;subst d;exact aH.of_eq rfl|rw[show(h==id)=false by grind]at d;exact cw _ [] (k+1) (by rw[d];rfl)
 ·skip;repeat' first|refine cg FT (λe=>?_) λe=>?_|refine lg FT λm q=>?_|refine xG FT ?_|refine fq ?_
  all_goals first|omega|skip
  rw[al_ X,jl]at d;subst d;refine .aJ rfl λi a r b c=>?_;match i,b,c with
  |0,b,c =>cases oJ_ b;cases oJ_ c;refine .agg rfl λi a r b c=>?_;match i,b,c with|0,b,c =>cases oJ_ b;cases oJ_ c;exact .refl _|1,b,c =>cases oJ_ b;cases oJ_ c;rw[tl,bF];exact aH.wk
  |1,b,c =>cases oJ_ b;cases oJ_ c;exact .refl _
def atN:=aD func57 call57
def E1:List Nat:=[11,5,0,2,8,10,12,9,3,24]
def aoH:=aD func110 call110
def nM:List Nat:=[3,0,2,6,10,45]
def lu{T:Type}(ok:T->Bool)(lt:T->T->Bool):Option T->List T->Bool|_,[]=>true|a,x::l=>ok x&&(match a with|none=>true|some p=>lt p x)&&lu ok lt (some x) l
def AW{T:Type}(lt:T->T->Bool):Option T->T->Bool|none,_=>true|some p,x=>lt p x
theorem j6{ok:T->Bool}{lt:T->T->Bool}{pr:Option T}{x:T}{l:List T}:lu ok lt pr (x::l)=(ok x&&AW lt pr x&&lu ok lt (some x) l):=by cases pr<;>rfl
theorem sm{ok:T->Bool}{lt:T->T->Bool}{pr:Option T}:lu ok lt pr []=true:=by cases pr<;>rfl
def DM(x:Im):Bool:=decide (1<=x.id)&&ft ⟨x.n,x.a⟩
def DN(p x:Im):Bool:=decide (p.id<x.id)
def nV(l:List Im):Bool:=decide ((l.length:Int)<=500)&&lu DM DN none l
def tH:List Int->List Int->Int|[],[]=>0|[],_::_=>-1|_::_,[]=>1|x::a,y::b=>fS (jG x y) (tH a b)
def pf(x y:Fi):Int:=fS (jG x.tV y.tV) (fS (jG x.ids.length y.ids.length) (tH x.ids y.ids))
def u6:List Int->List Int->Bool|_,[]=>true|s,x::l=>decide (1<=x) &&!s.contains x&&u6 (s++[x]) l
def tW(f:Fi):Bool:=decide (0<=f.tV)&&decide (f.tV<40)&&decide (1<=(f.ids.length:Int))&&decide ((f.ids.length:Int)<=4)&&u6 [] f.ids
def lz(l:List Fi):Bool:=decide ((l.length:Int)<=5000)&&lu tW (λp x=>decide (pf p x<0)) none l
def Im.ok(x:Im):Prop:=o6 x.a/\x.n.size<=1099511627776
def Cy{T:Type}(l:List T)(k:Nat)(pr:Option T):Prop:=k=0/\pr=none\/∃y,0<k/\l[k-1]?=some y/\pr=some y
theorem j7{l:List T}{k:Nat}{x:T}(h:l[k]?=some x):Cy l (k+1) (some x):=.inr ⟨x,X,I,rfl⟩
theorem YT(l:List Im)(z:l.length<=1099511627776)(r:∀x∈l,x.ok):ab Y 57 [lj O l] (.v (.bool (nV l))):=by
 let⟨R,g⟩:=aq (nV l);rw[<-g];unfold nV at g;refine st atN E1 .v ?_;repeat' first|refine cg E1 (λa=>?_) λa=>?_|refine lg E1 λm A=>?_|refine fq ?_
 grind[aL];rw[decide_eq_true X,ay_]at g;refine H.ic (σ:=Int×Int) 0 0 [] (λp=>[(3,.v (.int .i64 p.2)),(9,lj O l),(10,.v (.int .i64 m)),(11,.v (.int .i64 p.1))]) [] (λ_=>[]) (λp=>∃(k:Nat) (b:Option Im),p.1=k/\k<=l.length/\R=lu DM DN b (l.drop k)/\(b=none/\p.2=0\/∃y,b=some y/\p.2=y.id/\1<=y.id)) (λp=>l.length-p.1.toNat) (0,0) ⟨0,none,rfl,aB,I,.inl ⟨rfl,rfl⟩⟩ rfl cq ?_;rintro⟨i,j⟩ ⟨k,b,n,C,c,s⟩;simp only at n s;clear g;refine Z E1 ?_;by_cases t:k<l.length
 ·let⟨x,o,u⟩:=aA t;rw[u,j6]at c;let⟨d,e,f⟩:=x;let⟨q,h⟩:=r _ (aW o);have v:=H0 (Y:=Y) (O:=O) ⟨e,f⟩ ⟨q.len,q.1⟩ h;have w:(DM ⟨d,e,f⟩&&AW DN b ⟨d,e,f⟩)=(decide (j<d)&&ft ⟨e,f⟩):=by grind[DM,AW,DN]
  rw[w]at c;repeat' first|refine og E1 (D.bh n o) ?_|refine bg E1 (pl v) (λ_=>?_) λ_=>?_|refine cg E1 (λa=>?_) λa=>?_|refine ag E1 λ_ _=>?_|refine xG E1 ?_|refine rG E1 ?_|refine fq ?_
  all_goals first|omega|refine aL ?_;rw[c,decide_eq_false (show¬j<d by omega)];rfl|refine aL ?_;rw[c,show ft ⟨e,f⟩=false by grind];simp;done|refine H.bO (_,d) [] ?_ ?_ cq;grind;simp only;omega
 ·skip;repeat' first|refine cg E1 (λa=>?_) λa=>?_|refine xG E1 ?_|refine fq ?_
  all_goals first|omega|rw[c,al_ X,sm];exact aL rfl
theorem YU(l:List Im)(y:l.length<=1099511627776)(r:∀x∈l,x.ok):ab Y 110 [lj O l] (.v (.bool (nV l))):=by
 let⟨R,f⟩:=aq (nV l);rw[<-f];unfold nV at f;refine st aoH nM .v ?_;repeat' first|refine cg nM (λc=>?_) λc=>?_|refine lg nM λm h=>?_|refine fq ?_
 refine aL ?_;rw[f,decide_eq_false X];rfl;rw[decide_eq_true X,ay_]at f;refine H.ic (σ:=Int) 0 0 [] (λi=>[(0,lj O l),(3,.v (.int .i64 i))]) [] (λ_=>[]) (λi=>∃(k:Nat) (j:Option Im),i=k/\k<=l.length/\R=lu DM DN j (l.drop k)/\Cy l k j) (λi=>l.length-i.toNat) 0 ⟨0,none,rfl,aB,I,.inl ⟨rfl,rfl⟩⟩ rfl cq ?_;rintro i⟨k,j,o,A,a,s⟩;clear f;refine Z nM ?_;by_cases t:k<l.length
 ·let⟨x,g,u⟩:=aA t;rw[u,j6]at a;let⟨b,d,e⟩:=x;let⟨v,n⟩:=r _ (aW g);have p:=Jv (Y:=Y) (O:=O) ⟨d,e⟩ v n;rw[DM]at a;rcases s with⟨rfl,rfl⟩|⟨⟨q,B,C⟩,E,w,rfl⟩
  ·simp only[AW]at a;repeat' first|refine og nM (D.bh o g) ?_|refine bg nM (pl p) (λ_=>?_) λ_=>?_|refine cg nM (λc=>?_) λc=>?_|refine lg nM λm h=>?_|refine ag nM λ_ _=>?_|refine xG nM ?_|refine rG nM ?_|refine fq ?_
   all_goals first|omega|refine aL ?_;rw[a,decide_eq_false (show¬1<=b by omega)];rfl|refine aL ?_;rw[a,show ft ⟨d,e⟩=false by grind];simp;done|refine H.bO _ [] ?_ ?_ cq;refine⟨0+1,some ⟨b,d,e⟩,X,X,?_,j7 g⟩;rw[a,decide_eq_true (show 1<=b by omega),show ft ⟨d,e⟩=true by grind];rfl;omega
  ·simp only[DN,AW]at a;repeat' first|refine og nM (D.bh o g) ?_|refine og nM (D.ind rfl rfl (eZ (l:=l) (k:=k-1) X w) (ec λ_=>rfl)) ?_|refine bg nM (pl p) (λ_=>?_) λ_=>?_|refine cg nM (λc=>?_) λc=>?_|refine lg nM λm h=>?_|refine ag nM λ_ _=>?_|refine xG nM ?_|refine rG nM ?_|refine fq ?_
   all_goals first|omega|refine aL ?_;rw[a,decide_eq_false (show¬1<=b by omega)];rfl|refine aL ?_;rw[a,decide_eq_false (show¬q<b by omega)];simp;done|refine aL ?_;rw[a,show ft ⟨d,e⟩=false by grind];simp;done|refine H.bO _ [] ?_ ?_ cq;refine⟨k+1,some ⟨b,d,e⟩,X,X,?_,j7 g⟩;rw[a,decide_eq_true (show 1<=b by omega),decide_eq_true (show q<b by omega),show ft ⟨d,e⟩=true by grind];rfl;omega
 ·skip;repeat' first|refine cg nM (λc=>?_) λc=>?_|refine lg nM λm h=>?_|refine xG nM ?_|refine fq ?_
  all_goals first|omega|rw[a,al_ X,sm];exact aL rfl
def fB(b:Bool):AV:=.v (.bool b)
def kg(s:List Int):List (Int×Bool):=s.map λi=>(i,true)
theorem FV(s:List Int)(i:Int):aI (kg s) i=if s.contains i then some true else none:=by induction s with|nil=>rfl|cons x s a =>rw[kg,aF_,aI,cY_];rw[kg]at a;by_cases h:x=i;grind;grind
theorem P1{i:Int}(h:s.contains i=false):g9 (kg s) i true=kg (s++[i]):=by induction s with|nil=>rfl|cons x s b =>rw[cY_,Bool.or_eq_false_iff]at h;have c:¬x=i:=λe=>I;have a:=b h.2;rw[kg]at a;simp only[kg,aF_,aP_,g9,c,if_false];rw[a];rfl
def aoI(O:Hd)(p:List Int×List (Int×Bool)×Nat):List (Nat×Ob):=[(0,.arr 1 [[.gr 4 1 p.2.2]] 0 true),(1,.mp (O.h (dX fB) p.2.1)),(2,.arr 1 [[.mp 1]] 0 true),(3,.df),(4,.arr 1 (O.h (List.map aR) p.1) 0 false)]
theorem H4{B:Nat}{kv:List (Int×Bool)}:kH B (.mp (O.h (dX fB) kv)):=by rw[O.eq];intro e a;obtain⟨p,_,rfl⟩:=aB_.1 a;exact .v
theorem wv{B sz fz:Nat}{ex:Bool}:kH B (.arr sz (O.h (List.map aR) s) fz ex):=kG λx _ a b=>by cases ak_.1 b;exact .v
theorem ajn(gid:FuncId)(fs cs:List AV)(xs:List Int)(z:xs.length<=1099511627776)(l:∀a∈fs,Pure a)(m:∀a∈cs,Pure a)(n:Iter prog Y gid fs cs (xs.map aR)):ab Y 191 [.fn (.func gid) fs cs] (aY O aR false (bT [] xs)):=by let⟨R,o⟩:=aq (bT [] xs);rw[<-o];refine st aom FH (bJ _) ?_;refine H.kX O fB rfl λg b=>?_;subst b;refine Z FH ?_;refine H.range (σ:=List Int×List (Int×Bool)×Nat) aR xs 4 5 [] [(3,.pt 0 1 0 0),(4,.pt 2 1 0 0)] (aoI O) (λh p=>R=p.1++bT p.1 h/\p.1.length+h.length<=1099511627776/\p.2.1=kg p.1/\p.2.2=p.1.length) ([],[],0) rfl l m n rfl ⟨I,I,rfl,rfl⟩ rfl (by intro p j;simp only[ae_,aw_,or_false]at j;rcases j with rfl|rfl<;>exact .pt aC) rfl (λx=>⟨rfl,λa q=>by cases ak_.1 q;exact .v⟩) cz ?_ ?_;rintro x h⟨s,g,len⟩⟨c,k,b,d⟩;simp only at c k b d;rw[bT]at c;rw[aC_]at k;refine Z FH ?_;refine H.look rfl rfl rfl rfl (λv e=>?_) λe=>?_;rw[b,FV]at e;have i:s.contains x=true:=I;rw[if_pos i]at e c;cases oJ_ e;refine Z FH ?_;refine H.PQ (s,g,len) [(4,4)] ⟨c,I,b,d⟩ cz;rw[b,FV]at e;have i:s.contains x=false:=I;rw[if_neg I]at c;refine Z FH ?_;refine H.ph (v:=true) rfl rfl rfl rfl rfl λr t=>?_;rw[b,P1 i]at t;refine Z FH ?_;refine H.app (x:=x) (f:=aR) rfl rfl rfl d (λ_=>rfl) rfl rfl rfl rfl X λu w B y=>?_;refine Z FH ?_;refine H.PQ (u,r,w) [(4,5)] ⟨I,I,I,y⟩ cz;rintro⟨s,g,len⟩ ⟨c,_,b,d⟩;simp only at c b d;rw[bT,aG_]at c;refine Z FH ?_;subst c;refine fq ?_;exact aH.grow rfl d
theorem lW:∀(l s:List Int),(bT s l).length<=l.length|[],s=>aa_ _|x::l,s=>by rw[bT];split;have:=lW l s;simp;omega;have:=lW l (s++[x]);simp;omega
def varsOf(l:List Tm):List Int:=bT [] (aZ l)
theorem FW(l:List Tm)(d:l.length<=1099511627776)(e:dS l)(f:(aZ l).length<=1099511627776):ab Y 191 [.fn (.func 254) [] [.ip [tl O l]]] (aY O aR false (varsOf l)) :=ajn _ [] _ _ f (λa c=>I) (λa c=>by cases ak_.1 c;exact .ip λb g=>by grind[c9]) (Uw l d e)
theorem YV(x:Tm){ex:Bool}:Wk (.sl ex [ld O x]) (tl O [x]):=by grind[tl,bF,qY,Wk.sl]
theorem YW(x:Tm)(d:x.ok)(e:(eF x).length<=1099511627776):ab Y 122 [tm O x] (aY O aR false (varsOf [x])):=by
 have h:=KD (Y:=Y) (O:=O) [x];have f:=FW (Y:=Y) (O:=O) [x] aB ⟨d,trivial⟩ (by simpa[aZ] using e);let⟨k,i,n,a⟩:=x;let⟨R,g⟩:=aq (varsOf [⟨k,i,n,a⟩]);rw[<-g]at f⊢;clear e d g;refine st aon abV (bJ _) ?_;repeat' first|refine og abV (D.jN rfl h ⟨c9 _,trivial⟩ ⟨YV (O:=O) ⟨k,i,n,a⟩,trivial⟩) ?_|refine og abV (D.bM rfl f ⟨.fn (λa c=>by cases c) λa c=>by cases ak_.1 c;exact .ip λb j=>by cases ak_.1 j;exact c9 _,trivial⟩) ?_|refine fq ?_
 exact aH.of_eq rfl
theorem DO(x:Gl)(e:x.a.length<=1099511627776)(f:dS x.a)(g:(aZ x.a).length<=1099511627776):ab Y 127 [gl O x] (aY O aR false (varsOf x.a)):=by
 have h:=KD (Y:=Y) (O:=O) x.a;have c:=FW (Y:=Y) (O:=O) x.a e f g;let⟨o,n,a⟩:=x;dsimp only at h c⊢;let⟨R,i⟩:=aq (varsOf a);rw[<-i]at c⊢;clear g e f i;refine st aop abX (bJ _) ?_;repeat' first|apply a8 abX h|refine og abX (D.bM rfl c ⟨.fn (λa d=>by cases d) λa d=>by cases ak_.1 d;exact .ip λb j=>by cases ak_.1 j;exact c9 _,trivial⟩) ?_|refine fq ?_
 exact aH.of_eq rfl
theorem KH(x:At)(e:x.a.length<=1099511627776)(f:dS x.a)(g:(aZ x.a).length<=1099511627776):ab Y 129 [at_ O x] (aY O aR false (varsOf x.a)):=by
 have h:=KD (Y:=Y) (O:=O) x.a;have c:=FW (Y:=Y) (O:=O) x.a e f g;let⟨n,a⟩:=x;dsimp only at h c⊢;let⟨R,i⟩:=aq (varsOf a);rw[<-i]at c⊢;clear g e f i;refine st aoo abW (bJ _) ?_;repeat' first|apply a8 abW h|refine og abW (D.bM rfl c ⟨.fn (λa d=>by cases d) λa d=>by cases ak_.1 d;exact .ip λb j=>by cases ak_.1 j;exact c9 _,trivial⟩) ?_|refine fq ?_
 exact aH.of_eq rfl
end
end Go.Proofs.YtbdcmpknicjopaaGreat
