import Derived.Test.YtbdcmpknicjopaaGreatTo12
namespace Go.Proofs.YtbdcmpknicjopaaGreat
set_option linter.all false
set_option maxRecDepth 100000
open Go.RowKit Proofs.Tryz
variable{B MO N kt n sz t:Nat}{GL:List (List AV)}{K:List iu}{O:Hd}{P:Program}{Q:Exit->AA->ao->Prop}{S S':ao}{T:Type}{U:World}{Y aI:AA}{a b i:QO}{c:Value->Bool}{ch:List PanicEntry}{dr ex ex':Bool}{ds:List DE}{es:List (Value×AV)}{l:List QI}{o:Oper}{r r':AV}{s:List Int}{v:Value}{x:List AV}{MP ys:List T}{f:T->List AV}
variable{rows:List (List AV)}{args:List AV}
section
attribute [local irreducible] aq aG D I
def apa:=aD func166 call166
def Cg:=[8,0,5,4,7,9,1,16]
def apb:=aD func102 call102
def ace:=[4,0,1]
def apc:=aD func257 call257
def Ac:=[8,0,5,4,1,7,9,3,16]
def apd:=aD func197 call197
def acf:=[4,1,0,3]
def ape:=aD func128 call128
def ajS:=[6,0,1,2]
def apf:=aD func130 call130
def acg:=[2,0,1]
def auF:=aD func83 call83
def g83:=[2,0,1]
def apg:=aD func199 call199
def auG:=[2,0,1]
def aph:=aD func258 call258
def ajU:=[3,0,2,1]
def api:=aD func131 call131
def Qi:=[4,0,6,5,1,12]
def auH:=aD func80 call80
def F3:=[6,4,0,5,10,1,19]
def jT(l:List Im)(id:Int):At×Bool:=match l.find? λx=>x.id==id with|some x=>(⟨x.n,x.a⟩,true)|none=>(⟨⟨#[]⟩,[]⟩,false)
theorem DS{T:Type}(p:T->Bool):∀(l:List T)(k:Nat),0<=de p l k->∃(j:Nat) (x:T),de p l k=((k+j:Nat):Int)/\l[j]?=some x/\l.find? p=some x|[],k,h=>by grind[de]|x::l,k,h=>by rw[de]at h⊢;by_cases c:p x=true;rw[if_pos c];exact⟨0,x,rfl,rfl,Z⟩;rw[if_neg c]at h⊢;let⟨j,y,a,b,d⟩:=DS p l (k+1) h;exact⟨j+1,y,Z,Z,Z⟩
theorem CJ{T:Type}(p:T->Bool):∀(l:List T)(k:Nat),de p l k<0->l.find? p=none|[],k,h=>rfl|x::l,k,h=>by rw[de]at h;by_cases c:p x=true;grind;rw[if_neg c]at h;rw[cJ_];simp[c,CJ p l (k+1) h]
theorem F4(l:List Int)(v:Int):l.any λx=>v==x=l.contains v:=Z
theorem afj(l:List Int)(v:Int)(h:l.length<=1099511627776):ad U 166 [aQ O aH false l,iv v] (iv (de (λx=>v==x) l 0)):=by
 let⟨R,c⟩:=au (de (λx=>v==x) l 0);rw[<-c];refine st apa Cg .v ?_;repeat' first|refine lg Cg λm j=>?_
 refine bL 0 0 [] (λi=>[(0,aQ O aH false l),(1,.v (.int .i64 v)),(7,.v (.int .i64 m)),(8,.v (.int .i64 i))]) [] (λ_=>[]) l.length (λk=>R=de (λx=>v==x) (l.drop k) k) Z λi k d n a=>?_;clear c;refine H Cg ?_;by_cases e:k<l.length
 ·let⟨x,f,g⟩:=aC e;rw[g,de]at a;repeat' first|refine og Cg (D.bw d f) ?_|refine cg Cg (λb=>?_) λb=>?_|refine ag Cg λ_ _=>?_|refine xG Cg ?_|refine rG Cg ?_|refine fq ?_
  all_goals first|rw[if_pos Z]at a;refine dA ?_;omega|rw[if_neg Z]at a;exact cw _ [] (k+1) a
 ·skip;repeat' first|refine cg Cg (λb=>?_) λb=>?_|refine xG Cg ?_|refine fq ?_
  all_goals first|omega|rw[a,ar_ X];exact dA rfl
theorem F5(l:List Int)(v:Int)(c:l.length<=1099511627776):ad U 102 [aQ O aH false l,iv v] (.v (.bool (l.contains v))):=by
 have b:=afj (U:=U) (O:=O) l v c;have a:=tZ (λx=>v==x) l 0;rw[F4]at a;let⟨j,d⟩:=au (de (λx=>v==x) l 0);rw[<-d]at b a;refine st apb ace .v ?_;repeat' first|refine ig ace (pl b) λ_ _=>?_|refine cg ace (λe=>?_) λe=>?_|refine fq ?_
 all_goals subst_vars;refine aO ?_;rw[<-a];simp_all
theorem UO(r:Rl)(a:r.rem.length<=1099511627776):ad U 130 [rl O r] (.v (.bool r.rem.isEmpty)):=by
 let⟨n,e,c,g,b,v⟩:=r;dsimp only at a⊢;refine st apf acg .v ?_;repeat' first|refine cg acg (λd=>?_) λd=>?_|refine lg acg λm f=>?_|refine fq ?_
 all_goals subst_vars;refine aO ?_;cases c<;>simp_all<;>omega
theorem UP(r:Rl)(a:r.rem.length<=1099511627776):ad U 83 [rl O r] (.v (.bool r.rem.isEmpty)):=by
 let⟨n,e,c,g,b,v⟩:=r;dsimp only at a⊢;refine st auF g83 .v ?_;repeat' first|refine cg g83 (λd=>?_) λd=>?_|refine lg g83 λm f=>?_|refine fq ?_
 all_goals subst_vars;refine aO ?_;cases c<;>simp_all<;>omega
theorem UQ(n a:ByteArray)(i b:Int):EqS prog 60 (.agg #[.string n,.int .i64 i]) (.agg #[.string a,.int .i64 b]) (n.toList==a.toList&&i==b):=by
 refine⟨⟨_,_,rfl,rfl⟩,by kernel_rfl,λw=>?_⟩;have c:prog.underlying 60=some (.struct (prog.fieldsOf 60)):=by kernel_rfl
 have d:prog.stoodInHeld 60=false:=by kernel_rfl
 have e:=underlying3;have f:=underlying9;have g:=isAgg3;have h:=isAgg9;rw[run_eql_struct,show(10000:Nat)=9998+1+1 from rfl,run_equalIn_agg w _ 60 _ _ c d];simp only[Program.fieldsOf,underlying60];have j:∀w,(Op.equalIn (9998+1) 9 (.string n) (.string a)).run prog w=.ok (n.toList==a.toList) w:=λw=>run_equalIn_string w _ _ _ _ f;have k:∀w,(Op.equalIn (9998+1) 3 (.int .i64 i) (.int .i64 b)).run prog w=.ok (i==b) w:=λw=>run_equalIn_int w _ _ _ _ _ _ e;cases l:n.toList==a.toList<;>cases m:i==b<;>simp[Op.eqFields,part,g,h,j,k,l,m]
def KY(n:ByteArray)(i:Int)(d:Dc):Bool:=n.toList==d.n.toList&&i==d.ar
theorem ahy(l:List Dc)(n:ByteArray)(i:Int):l.any (KY n i)=jo l n i:=by grind[jo,KY]
theorem apj(l:List Dc)(n:ByteArray)(a:Int)(q:l.length<=1099511627776):ad U 257 [ir O l,dc ⟨n,a⟩] (iv (de (KY n a) l 0)):=by
 let⟨R,f⟩:=au (de (KY n a) l 0);rw[<-f];refine st apc Ac .v ?_;repeat' first|refine lg Ac λm r=>?_
 refine bL 1 1 [] (λi=>[(0,ir O l),(3,.pt 0 2 0 0),(7,.v (.int .i64 m)),(8,.v (.int .i64 i))]) [] (λ_=>[(0,.arr 2 [YN ⟨n,a⟩] 0 true)]) l.length (λk=>R=de (KY n a) (l.drop k) k) Z λi k g s b=>?_;clear f;refine H Ac ?_;by_cases h:k<l.length
 ·let⟨x,j,o⟩:=aC h;rw[o,de]at b;let⟨c,d⟩:=x;repeat' first|refine og Ac (D.bw g j) ?_|refine bg Ac (D.eqs rfl rfl (UQ n c a d)) (λ_=>?_) λ_=>?_|refine cg Ac (λe=>?_) λe=>?_|refine ag Ac λ_ _=>?_|refine xG Ac ?_|refine rG Ac ?_|refine fq ?_
  grind[KY,dA];have p:(n.toList==c.toList&&a==d)=false:=Z;rw[if_neg (show¬KY n a ⟨c,d⟩=true from by show¬(n.toList==c.toList&&a==d)=true;rw[p];simp)]at b;exact cw _ [] (k+1) b;omega
 ·skip;repeat' first|refine cg Ac (λe=>?_) λe=>?_|refine xG Ac ?_|refine fq ?_
  all_goals first|omega|rw[b,ar_ X];exact dA rfl
theorem ajV(l:List Dc)(n:ByteArray)(a:Int)(d:l.length<=1099511627776):ad U 197 [ir O l,dc ⟨n,a⟩] (.v (.bool (jo l n a))):=by
 have c:=apj (U:=U) (O:=O) l n a d;have b:=tZ (KY n a) l 0;rw[ahy]at b;let⟨j,e⟩:=au (de (KY n a) l 0);rw[<-e]at c b;refine st apd acf .v ?_;repeat' first|refine ig acf (D.bU rfl c ⟨eM _,Mx ⟨n,a⟩,trivial⟩) λ_ _=>?_|refine cg acf (λf=>?_) λf=>?_|refine fq ?_
 all_goals subst_vars;refine aO ?_;rw[<-b];simp_all
theorem DT(l:List Dc)(n:ByteArray)(a:Int)(c:l.length<=1099511627776):ad U 128 [ir O l,.v (.string n),iv a] (.v (.bool (jo l n a))):=by
 have b:=ajV (U:=U) (O:=O) l n a c;let⟨R,d⟩:=au (jo l n a);rw[<-d]at b⊢;refine st ape ajS .v ?_;repeat' first|refine og ajS (D.bU rfl b ⟨eM _,Mx ⟨n,a⟩,trivial⟩) ?_|refine fq ?_
 exact aO rfl
theorem ajW(id:Int):ad U 199 [iv id] (.fn (.func 258) [] [.ip [iv id]]):=by
 refine st apg auG (.fn (λa c=>Z) λa c=>by cases ae_.1 c;exact .ip λb d=>by cases ae_.1 d;exact .v) ?_;repeat' first|refine fq ?_
 refine aL.fns ?_ ?_;exact trivial;exact⟨aL.box (cs:=[iv id]) (cs':=[iv id]) rfl ⟨.refl _,trivial⟩,trivial⟩
theorem ahz(x:Im)(id:Int):ad U 258 [it O x,.ip [iv id]] (.v (.bool (x.id==id))):=by
 let⟨i,n,a⟩:=x;refine st aph ajU .v ?_;repeat' first|refine cg ajU (λb=>?_) λb=>?_|refine fq ?_
 all_goals refine aO ?_;simp_all
theorem apk(x:Im)(id:Int):zW prog U (.fn (.func 258) [] [.ip [iv id]]) [it O x] (x.id==id):=⟨_,_,rfl,⟨zr x,.ip λb a=>by cases ae_.1 a;exact .v,trivial⟩,ahz x id⟩
theorem ajX(l:List Im)(id:Int)(n:l.length<=1099511627776):ad U 131 [mH O l,iv id] (.aM [at_ O (jT l id).1,.v (.bool (jT l id).2)]):=by
 have o:=ajW (U:=U) id;have g:Pure (.fn (.func 258) [] [.ip [iv id]]):=.fn (λa f=>Z) λa f=>by cases ae_.1 f;exact .ip λb h=>by cases ae_.1 h;exact .v
 have m:=ajG (U:=U) (O:=O) (λx=>x.id==id) l _ [] _ n g λx _=>apk x id;have c:=DS (λx:Im=>x.id==id) l 0;have d:=CJ (λx:Im=>x.id==id) l 0;let⟨j,p⟩:=au (de (λx:Im=>x.id==id) l 0);rw[<-p]at m c d;let⟨R,e⟩:=au (jT l id);rw[<-e];unfold jT at e;refine st api Qi (.aM λa f=>by simp only[al_,aB_,or_false]at f;rcases f with rfl|rfl;exact ph _;exact .v) ?_;repeat' first|apply bh Qi o|refine ig Qi (pl m) λ_ _=>?_|refine cg Qi (λh=>?_) λh=>?_|refine fq ?_
 ·let⟨q,x,u,r,s⟩:=c X;rw[s]at e;subst e;let⟨v,w,y⟩:=x;repeat' first|refine og Qi (D.ind rfl rfl (du (l:=l) (k:=q) X r) (cJ λ_=>rfl)) ?_|refine fq ?_
  exact aL.of_eq rfl
 rw[d X]at e;subst e;refine .aM rfl λi a t c d=>?_;match i,c,d with
 |0,c,d =>cases oJ_ c;cases oJ_ d;refine .agg rfl λi a t c d=>?_;match i,c,d with|0,c,d =>cases oJ_ c;cases oJ_ d;exact .refl _|1,c,d =>cases oJ_ c;cases oJ_ d;rw[tl,bN];exact aL.wk
 |1,c,d =>cases oJ_ c;cases oJ_ d;exact .refl _
theorem YU(l:List Im)(id:Int)(s:l.length<=1099511627776):ad U 80 [mH O l,iv id] (.aM [at_ O (jT l id).1,.v (.bool (jT l id).2)]):=by
 let⟨R,f⟩:=au (jT l id);rw[<-f];refine st auH F3 (.aM λa g=>by simp only[al_,aB_,or_false]at g;rcases g with rfl|rfl;exact ph _;exact .v) ?_;refine bL 1 1 [] (λi=>[(0,mH O l),(1,.v (.int .i64 id)),(4,.pt 0 2 0 0),(6,.v (.int .i64 i))]) [] (λ_=>[(0,.arr 2 [[.v (.string ⟨#[]⟩),.sl true []]] 0 true)]) l.length (λk=>R=jT (l.drop k) id) Z λi k j t d=>?_;clear f;refine H F3 ?_;by_cases n:k<l.length
 ·let⟨x,o,p⟩:=aC n;rw[p,jT,cJ_]at d;let⟨h,u,v⟩:=x;repeat' first|refine og F3 (D.bw j o) ?_|refine cg F3 (λe=>?_) λe=>?_|refine lg F3 λm q=>?_|refine ag F3 λ_ _=>?_|refine xG F3 ?_|refine rG F3 ?_|refine fq ?_
  all_goals first|omega|rw[show(h==id)=true by grind]at d;subst d;exact aL.of_eq rfl|rw[show(h==id)=false by grind]at d;exact cw _ [] (k+1) (by rw[d];rfl)
 ·skip;repeat' first|refine cg F3 (λe=>?_) λe=>?_|refine lg F3 λm q=>?_|refine xG F3 ?_|refine fq ?_
  all_goals first|omega|skip
  rw[ar_ X,jT]at d;subst d;refine .aM rfl λi a r b c=>?_;match i,b,c with
  |0,b,c =>cases oJ_ b;cases oJ_ c;refine .agg rfl λi a r b c=>?_;match i,b,c with|0,b,c =>cases oJ_ b;cases oJ_ c;exact .refl _|1,b,c =>cases oJ_ b;cases oJ_ c;rw[tl,bN];exact aL.wk
  |1,b,c =>cases oJ_ b;cases oJ_ c;exact .refl _
def fB(b:Bool):AV:=.v (.bool b)
def ky(s:List Int):List (Int×Bool):=s.map λi=>(i,true)
theorem F6(s:List Int)(i:Int):aN (ky s) i=if s.contains i then some true else none:=by induction s with|nil=>rfl|cons x s a =>rw[ky,aK_,aN,db_];rw[ky]at a;by_cases h:x=i;grind;grind
theorem Qj{i:Int}(h:s.contains i=false):iA (ky s) i true=ky (s++[i]):=by induction s with|nil=>rfl|cons x s b =>rw[db_,Bool.or_eq_false_iff]at h;have c:¬x=i:=λe=>Z;have a:=b h.2;rw[ky]at a;simp only[ky,aK_,aX_,iA,c,if_false];rw[a];rfl
def apl(O:Hd)(p:List Int×List (Int×Bool)×Nat):List (Nat×Ob):=[(0,.arr 1 [[.gr 4 1 p.2.2]] 0 true),(1,.mp (O.h (ec fB) p.2.1)),(2,.arr 1 [[.mp 1]] 0 true),(3,.df),(4,.arr 1 (O.h (List.map aH) p.1) 0 false)]
theorem Il{B:Nat}{kv:List (Int×Bool)}:jm B (.mp (O.h (ec fB) kv)):=by rw[O.eq];intro e a;obtain⟨p,_,rfl⟩:=aE_.1 a;exact .v
theorem uc{B fz:Nat}:jm B (.arr sz (O.h (List.map aH) s) fz ex):=jP λx _ a b=>by cases ae_.1 b;exact .v
theorem ajY(gid:FuncId)(fs cs:List AV)(xs:List Int)(z:xs.length<=1099511627776)(l:∀a∈fs,Pure a)(m:∀a∈cs,Pure a)(n:Iter prog U gid fs cs (xs.map aH)):ad U 191 [.fn (.func gid) fs cs] (aQ O aH false (bV [] xs)):=by let⟨R,o⟩:=au (bV [] xs);rw[<-o];refine st ao0 FW (a8 _) ?_;refine I.kY O fB rfl λg b=>?_;subst b;refine H FW ?_;refine I.range (σ:=List Int×List (Int×Bool)×Nat) aH xs 4 5 [] [(3,.pt 0 1 0 0),(4,.pt 2 1 0 0)] (apl O) (λh p=>R=p.1++bV p.1 h/\p.1.length+h.length<=1099511627776/\p.2.1=ky p.1/\p.2.2=p.1.length) ([],[],0) rfl l m n rfl ⟨Z,Z,rfl,rfl⟩ rfl (by intro p j;simp only[al_,aB_,or_false]at j;rcases j with rfl|rfl<;>exact .pt aJ) rfl (λx=>⟨rfl,λa q=>by cases ae_.1 q;exact .v⟩) cz ?_ ?_;rintro x h⟨s,g,len⟩⟨c,k,b,d⟩;simp only at c k b d;rw[bV]at c;rw[aH_]at k;refine H FW ?_;refine I.look rfl rfl rfl rfl (λv e=>?_) λe=>?_;rw[b,F6]at e;have i:s.contains x=true:=Z;rw[if_pos i]at e c;cases oJ_ e;refine H FW ?_;refine I.Wz (s,g,len) [(4,4)] ⟨c,Z,b,d⟩ cz;rw[b,F6]at e;have i:s.contains x=false:=Z;rw[if_neg Z]at c;refine H FW ?_;refine I.pj (v:=true) rfl rfl rfl rfl rfl λr t=>?_;rw[b,Qj i]at t;refine H FW ?_;refine I.app (x:=x) (f:=aH) rfl rfl rfl d (λ_=>rfl) rfl rfl rfl rfl X λu w B y=>?_;refine H FW ?_;refine I.Wz (u,r,w) [(4,5)] ⟨Z,Z,Z,y⟩ cz;rintro⟨s,g,len⟩ ⟨c,_,b,d⟩;simp only at c b d;rw[bV,aI_]at c;refine H FW ?_;subst c;refine fq ?_;exact aL.grow rfl d
theorem lQ:∀(l s:List Int),(bV s l).length<=l.length|[],s=>aj_ _|x::l,s=>by rw[bV];split;have:=lQ l s;simp;omega;have:=lQ l (s++[x]);simp;omega
def varsOf(l:List Tm):List Int:=bV [] (a7 l)
theorem F7(l:List Tm)(d:l.length<=1099511627776)(e:dO l)(f:(a7 l).length<=1099511627776):ad U 191 [.fn (.func 254) [] [.ip [tl O l]]] (aQ O aH false (varsOf l)) :=ajY _ [] _ _ f (λa c=>Z) (λa c=>by cases ae_.1 c;exact .ip λb g=>by grind[cQ]) (UM l d e)
theorem YV(x:Tm):Wk (.sl ex [jG O x]) (tl O [x]):=by grind[tl,bN,qQ,Wk.sl]
theorem YW(x:Tm)(d:x.ok)(e:(eN x).length<=1099511627776):ad U 122 [tm O x] (aQ O aH false (varsOf [x])):=by
 have h:=KV (U:=U) (O:=O) [x];have f:=F7 (U:=U) (O:=O) [x] aE ⟨d,trivial⟩ (by simpa[a7] using e);let⟨k,i,n,a⟩:=x;let⟨R,g⟩:=au (varsOf [⟨k,i,n,a⟩]);rw[<-g]at f⊢;clear e d g;refine st ao1 ab8 (a8 _) ?_;repeat' first|refine og ab8 (D.qu rfl h ⟨cQ _,trivial⟩ ⟨YV (O:=O) ⟨k,i,n,a⟩,trivial⟩) ?_|refine og ab8 (D.bU rfl f ⟨.fn (λa c=>by cases c) λa c=>by cases ae_.1 c;exact .ip λb j=>by cases ae_.1 j;exact cQ _,trivial⟩) ?_|refine fq ?_
 exact aL.of_eq rfl
theorem DU(x:Gl)(e:x.a.length<=1099511627776)(f:dO x.a)(g:(a7 x.a).length<=1099511627776):ad U 127 [gl O x] (aQ O aH false (varsOf x.a)):=by
 have h:=KV (U:=U) (O:=O) x.a;have c:=F7 (U:=U) (O:=O) x.a e f g;let⟨o,n,a⟩:=x;dsimp only at h c⊢;let⟨R,i⟩:=au (varsOf a);rw[<-i]at c⊢;clear g e f i;refine st ao3 ab_ (a8 _) ?_;repeat' first|apply bh ab_ h|refine og ab_ (D.bU rfl c ⟨.fn (λa d=>by cases d) λa d=>by cases ae_.1 d;exact .ip λb j=>by cases ae_.1 j;exact cQ _,trivial⟩) ?_|refine fq ?_
 exact aL.of_eq rfl
theorem KZ(x:At)(e:x.a.length<=1099511627776)(f:dO x.a)(g:(a7 x.a).length<=1099511627776):ad U 129 [at_ O x] (aQ O aH false (varsOf x.a)):=by
 have h:=KV (U:=U) (O:=O) x.a;have c:=F7 (U:=U) (O:=O) x.a e f g;let⟨n,a⟩:=x;dsimp only at h c⊢;let⟨R,i⟩:=au (varsOf a);rw[<-i]at c⊢;clear g e f i;refine st ao2 ab9 (a8 _) ?_;repeat' first|apply bh ab9 h|refine og ab9 (D.bU rfl c ⟨.fn (λa d=>by cases d) λa d=>by cases ae_.1 d;exact .ip λb j=>by cases ae_.1 j;exact cQ _,trivial⟩) ?_|refine fq ?_
 exact aL.of_eq rfl
end
section
variable{rd:Bool}
theorem F8{k len:Nat}{o:Oper}(x:res P.toTables o.op=some (.append sz MO (.t t) b))(h1:Y.tm t=.gr k sz len)(J:S.get k=some (.arr sz rows 0 ex))(Q:len=rows.length)(T:∀c,b.ev (bK Y.tm t c)=b.ev Y.tm)(V:iN S (b.ev Y.tm)=some []):jZ P U n o Y S (.gr k sz len) S:=by
 intro F y A g a w z R B C d E;have K:t<n:=by rcases bF_ t n with h|h;grind;have:=d.out t h;rw[h1]at this;cases this
 have e:=d.tm t K;rw[h1]at e;let⟨v,f⟩:∃v,a.tmps.getD t undef=v:=⟨_,rfl⟩;have G:Y.tm t≠.u:=Z;rw[f]at e;rcases tr e with⟨h,W,rfl⟩|⟨L,c,rfl,hx,i⟩;have j:cR g w n ⟨bK Y.tm t (.sl true []),Y.df⟩ a:=d.slot G (by rw[f];exact .nil λ_=>rfl);have l:=D.MB (P:=P) (U:=U) (dr:=false) (Y:=⟨bK Y.tm t (.sl true []),Y.df⟩) (S:=S) (sz:=sz) (MO:=MO) (a:=.t t) (b:=b) (rows:=[]) (aK _ _ _) Z n o x;refine l F y A g a w z R B C j λv p q r s k3=>E v p q ?_ s k3;subst h;cases r with|nil u=>cases u rfl;exact .lM|sl u=>exact absurd rfl u
 have j:cR g w n ⟨bK Y.tm t (.ob k sz 0 len none),Y.df⟩ a:=d.slot G (by rw[f];have:=aT.ob (g:=g) (w:=w) (k:=k) (sz:=sz) (off:=0) (len:=len) (c:=c) (cx:=none) L (λm h=>Z) X (λ_=>X) i;rwa[be_]at this);have l:=D.WB (P:=P) (U:=U) (dr:=false) (Y:=⟨bK Y.tm t (.ob k sz 0 len none),Y.df⟩) (S:=S) (sz:=sz) (MO:=MO) (a:=.t t) (b:=b) (k:=k) (fz:=0) (ex:=ex) (rows:=rows) (sz':=sz) (aK _ _ _) J Z n o x;refine l F y A g a w z R B C j λv p q r s k3=>E v p q ?_ s k3;cases r with|ob q1 q2 q3 q4 N=>rw[be_];exact .gr q1 Z N
theorem jt{S:ao}{l:List (List AV)}:iN S (.sl ex l)=some l:=by simp[iN,rowsOf,q8]
theorem I.ach{a:Option Nat}{d:Option (Nat×Bool)}{k len:Nat}(m:bJ Y.tm d=some true)(h1:Y.tm t=.gr k sz len)(p:S.get k=some (.arr sz (O.h (List.map f) MP) 0 ex))(z:len=MP.length)(q:∀c,b.ev (bK Y.tm t c)=b.ev Y.tm)(g:b.ev Y.tm=aQ O f ex' ys)(s:∀x,(f x).length=sz)(u:∀x,(f x).all dv=true)(A:(len+ys.length)*MO<=35184372088832)(k0:ys=[]->I P U rd n Q (.bp false l K) (bX a Y (.gr k sz len)) S)(kk:∀j r,ys≠[]->j=MP++ys->r=j.length->I P U rd n Q (.bp false l K) (bX a Y (.gr S.nx sz r)) ((S.set k none).new (.arr sz (O.h (List.map f) j) 0 false))):I P U rd n Q (.bp false (⟨a,d,.append sz MO (.t t) b⟩::l) K) Y S:=by have B:(O.h (List.map f) MP).length=MP.length:=aA;rw[bN]at g;cases ys with|nil =>exact I.op (i:=⟨a,d,.append sz MO (.t t) b⟩) m (λn o v=>F8 v h1 p X q (by rw[g];exact jt)) (k0 rfl)|cons y ys =>
  have h:=kk _ _ aE rfl rfl;have e:O.h (List.map f) MP++List.map f (y::ys)=O.h (List.map f) (MP++y::ys):=by rw[O.eq,O.eq,ba_]
  rw[<-e,show(MP++y::ys).length=len+(f y::List.map f ys).length by grind]at h;refine I.op (i:=⟨a,d,.append sz MO (.t t) b⟩) m (D.gM h1 p X q (by rw[g];exact jt) (by rw[g];exact jt) (λrow w=>?_) Z) h;obtain⟨x,_,rfl⟩:=aE_.1 (show row∈List.map f (y::ys) from w);exact⟨s x,u x⟩
theorem zt{o:Op}(h:res P.toTables o=some (.append sz MO a b)):qw o=false:=by grind[su,qw]
theorem bj.append{d:Dt}(f:b.ev Y.tm=.sl ex GL)(j:gQ S d.F)(h:∀T,gQ T d.F->(d.m=true->T.nx=S.nx)->∀e z,eL P e=some z->eR P e=some sz->k_ P e=some MO->Nat.blt 0 MO=true->qC P e (CK r (fA T d.W d.m)) T GL (a.ev Y.tm)):bj P U B (.append sz MO a b) Y S r d:=by refine bj.NM λo C E=>by grind[CL,zt] j λT k l o m=>?_;obtain⟨c,t,t2,u,v,e,F,z,rfl,n,p,q,rfl,rfl,s,w,g,i,x,y,A⟩:=su m;rw[aY]at f;have h:=h T k l e z g i x A;rw[aY]at h;simp only[b8,n,q_,p,q,aK_,aY_,s,w,g,i,y];rw[f];exact bR.mk (a:=GL) rfl ⟨rfl,h⟩
theorem bj.MB(c:a.ev Y.tm=.sl true rows)(d:b.ev Y.tm=.sl ex []):bj P U B (.append sz MO a b) Y S (.sl true rows) ⟨[],[],false⟩ :=bj.append d (λp f=>Z) λT _ _ e z _ _ _ _=>by rw[c];exact⟨rfl,by rw[lR]⟩
theorem bj.Ql(d:a.ev Y.tm=.sl true [])(f:b.ev Y.tm=.sl ex (x::GL))(h3:∀row∈x::GL,row.length=sz)(h4:(x::GL).length*MO<=35184372088832):bj P U B (.append sz MO a b) Y S (.ob S.nx sz 0 (x::GL).length none) ⟨[],[(S.nx,some (.arr sz (x::GL) 0 false))],true⟩ :=bj.append f (λp c=>Z) λT _ g e z k i j c=>by rw[d];simp only[qC,i,j,c];refine⟨λ_ h=>Z,h3,Z,?_,?_⟩;grind;rw[ij];simp only[eD,<-g rfl];rfl
theorem bj.gM{k len:Nat}(a:Y.tm t=.gr k sz len)(E:S.get k=some (.arr sz rows 0 ex))(i:len=rows.length)(F:∀c,b.ev (bK Y.tm t c)=b.ev Y.tm)(d:b.ev Y.tm=.sl ex' (x::GL))(h3:∀row∈x::GL,row.length=sz/\row.all dv=true)(h4:(len+(x::GL).length)*MO<=35184372088832):bj P U B (.append sz MO (.t t) b) Y S (.gr S.nx sz (len+(x::GL).length)) ⟨[(k,.arr sz rows 0 ex)],[(S.nx,some (.arr sz (rows++x::GL) 0 false)),(k,none)],true⟩:=by
 intro n o f;refine⟨λj=>by grind[CL,zt],show gQ S _ fromλp j=>Z,λT _ l m=>?_⟩;have e:∀y:QO,y=.t t\/y=b->y.ev (Y.only (d_ o)).tm=y.ev Y.tm:=by let⟨c,t1,t2,u,v,e,G,z,r,w,J,h3,h4,K,_⟩:=su f;intro y L;have:∃q∈[u,v],y=qo q:=Z;obtain⟨q,M,rfl⟩:=this;rw[aY,aY];refine h_ λt A=>ic ?_;rw[r,<-A];have:q∈c.args:=dA_.1 Z;show q∈c.operands;simp[Call.operands,this,w]
 have C:(Y.only (d_ o)).tm t=.gr k sz len:=(e (.t t) (.inl rfl)).trans a;have N:=e b (.inr rfl);have key:∀c,b.ev (bK (Y.only (d_ o)).tm t c)=b.ev (Y.only (d_ o)).tm:=by intro c;cases b with|t s =>by_cases g:s=t;exfalso;subst g;rw[show(QO.t s).ev Y.tm=Y.tm s from rfl,a]at d;cases d;exact aR _ _ g|_=>rfl
 have h:=Qm (P:=P) (U:=U) (n:=n) (Y:=Y.only (d_ o)) (S:=T) (k:=k) (sz:=sz) (MO:=MO) (len:=len) (ex:=ex) (b:=b) (rows:=rows) (GL:=GL) (x:=x) f C (l (k,.arr sz rows 0 ex) aE) i key (by grind[jt]) (by grind[jt]) h3 h4;rw[ij,<-m rfl];exact h
theorem bj.apm{k len:Nat}(a:Y.tm t=.gr k sz len)(x:S.get k=some (.arr sz rows 0 ex))(h:len=rows.length)(A:∀c,b.ev (bK Y.tm t c)=b.ev Y.tm)(d:b.ev Y.tm=.sl ex' []):bj P U B (.append sz MO (.t t) b) Y S (.gr k sz len) ⟨[(k,.arr sz rows 0 ex)],[],false⟩:=by
 intro n o f;refine⟨λi=>by grind[CL,zt],show gQ S _ fromλp i=>Z,λT _ j C=>?_⟩;have e:∀y:QO,y=.t t\/y=b->y.ev (Y.only (d_ o)).tm=y.ev Y.tm:=by let⟨c,t1,t2,u,v,e,E,z,l,m,F,G,J,K,_⟩:=su f;intro y L;have:∃q∈[u,v],y=qo q:=Z;obtain⟨q,M,rfl⟩:=this;rw[aY,aY];refine h_ λt r=>ic ?_;rw[l,<-r];have:q∈c.args:=dA_.1 Z;show q∈c.operands;simp[Call.operands,this,m]
 have w:(Y.only (d_ o)).tm t=.gr k sz len:=(e (.t t) (.inl rfl)).trans a;have N:=e b (.inr rfl);have key:∀c,b.ev (bK (Y.only (d_ o)).tm t c)=b.ev (Y.only (d_ o)).tm:=by intro c;cases b with|t s =>by_cases g:s=t;exfalso;subst g;rw[show(QO.t s).ev Y.tm=Y.tm s from rfl,a]at d;cases d;exact aR _ _ g|_=>rfl
 rw[show fA T [] false=T from lR];exact F8 f w (j (k,.arr sz rows 0 ex) aE) h key (by grind[jt])
theorem bj.apn{f:QO}{aZ9:List QO}{g:FuncId}{Q6:List AV}{r₀:AV}{so':List (Nat×Ob)}{ob:Ob}(G:aG P U g args (aw [] 0) r (aw so' 1))(h:fO (f.ev Y.tm) (aZ9.map (·.ev Y.tm))=some (g,Q6))(J:Ad (aU []) 0 Q6 args)(l:Rb (dL (aU []) 0 S.nx) r r₀)(s:fW (dL (aU []) 0 S.nx) so' [(S.nx,some ob)])(K:Ch so'=true):bj P U B (.call f aZ9) Y S r₀ ⟨[],[(S.nx,some ob)],true⟩:=by
 intro n o x;let⟨c,u,ho,y,L,d⟩:=my x;refine⟨λM=>by grind[sY,qw],show gQ S [] fromλp M=>Z,λT _ _ Q=>?_⟩;have e:T.nx=S.nx:=Q rfl;have z:∀q∈(.call c:Op).operands,(Y.only (d_ o)).ev q=Y.ev q:=λq V=>h_ λt ht=>ic Z;have W:fO (f.ev (Y.only (d_ o)).tm) (aZ9.map (·.ev (Y.only (d_ o)).tm))=some (g,Q6):=by rw[<-h,L,d,aY,aY,jQ,jQ,z u (show u∈c.operands by simp[Call.operands,y])];congr 1;exact aQ_ λq V=>z q (show q∈c.operands by simp[Call.operands,y];exact .inr Z)
 rw[<-e]at l s⊢;intro F mm A C a w nx R hF hS hA qv;let i:ao:=⟨λk=>if k<T.nx then T.get k else none,T.nx⟩;have lB:St U A C i w:=hS.forget (aj_ _) λj p b _=>Z;have hc:=D.nZ (P:=P) (U:=U) (Y:=Y.only (d_ o)) (T:=i) (m:=[]) (N:=0) (N':=1) (so:=[]) (so':=so') (to:=[(T.nx,some ob)]) (f:=f) (aZ9:=aZ9) G W J l rfl rfl trivial s rfl (λk p hk=>Z) (.inr K) n o x;refine hc F mm A C a w nx R hF lB hA λv w' g' k1 E k3=>qv v w' g' k1 ?_ k3;rw[ij];refine E.forget (aj_ _) λj p b aV=>?_;have yx:j<T.nx+1:=E.al j aV;have b:bK T.get T.nx (some ob) j=some p:=b;show bK i.get T.nx (some ob) j=some p;by_cases ej:j=T.nx;grind[aK];rw[aR _ _ ej]at b⊢;show(if j<T.nx then T.get j else none)=some p;rw[if_pos X];exact b
end
def rE(c:Value->Bool):List (Value×AV)->Option Nat|[]=>none|p::es=>if c p.1 then some 0 else(rE c es).map (·+1)
structure MC(P:Program)(kt:Nat)(v:Value)(es:List (Value×AV))(c:Value->Bool):Prop where
 chk:∀b w,(Instr.checkKey b 10000 kt v).run P w=.ok () w
 str:∃fs,P.underlying kt=some (.struct fs)eq:∀p∈es,∀w,(Op.equal kt v p.1).run P w=.ok (c p.1) w
theorem UR{c:Value->Bool}:∀{es:List (Value×AV)}{j:Nat},rE c es=some j->∃k a,es[j]?=some (k,a)/\c k=true|[],j,h=>by cases h|p::es,j,h=>by rw[rE]at h;split at h;grind;cases b:rE c es with|none=>rw[b]at h;cases h|some e =>rw[b]at h;cases oJ_ h;let⟨k,a,f,d⟩:=UR b;exact⟨k,a,Z,d⟩
theorem NN{kt:Nat}{v:Value}{c:Value->Bool}{w:World}:∀{es:List (Value×AV)}{L:List MapEntry}{o:Nat},(∀p∈es,∀w,(Op.equal kt v p.1).run P w=.ok (c p.1) w)->L.length=es.length ->(∀(j:Nat)(k:Value)(a:AV)(e:MapEntry),es[j]?=some (k,a)->L[j]?=some e->e.key=k) ->(Instr.findAsking kt v L o).run P w=.ok (match rE c es with|some j=>L[j]?.map λe=>(j+o,e.val)|none=>none) w
 |[],[],o,_,_,_=>rfl|p::es,e::L,o,d,f,h=>by have b:e.key=p.1:=h 0 p.1 p.2 e rfl rfl;have g:=NN (w:=w) (es:=es) (L:=L) (o:=o+1) (λq l=>d q Z) Z λj k a i m n=>h (j+1) k a i Z Z;simp only[Instr.findAsking,Sem.run_bind,b,d p aE w,Result.andThen_ok,rE];cases r:c p.1 with|true=>simp[Sem.run_pure]|false =>simp only[if_false,bz_,g];congr 1;cases rE c es with|none=>rfl|some j=>simp only[aN_,cT_];congr 1;funext x;congr 1;omega
 |[],_::_,_,_,f,_=>Z|_::_,[],_,_,f,_=>Z
theorem MC.find(h:MC P kt v es c){g:Gh}{w:World}{entries:Array MapEntry}(m:entries.size=es.length)(n:∀(i:Nat) (k:Value) (a:AV),es[i]?=some (k,a)->∃e:MapEntry,entries[i]?=some e/\e.key=k/\aT g w a e.val):(Instr.findKey kt v entries.toList).run P w=.ok (match rE c es with|some j=>entries[j]?.map λe=>(j,e.val)|none=>none) w:=by let⟨f,l⟩:=h.str;have b:=NN (P:=P) (w:=w) (es:=es) (L:=entries.toList) (o:=0) h.eq Z λj k a e p q=>Z;simp only[bq_,bE_]at b;simp only[Instr.findKey,Sem.run_bind,run_underlying l,Result.andThen_ok];cases d:entries.toList with|nil =>rw[d]at b;simp only[Instr.findNow,Sem.run_pure];simp only[Instr.findAsking,Sem.run_pure]at b;exact b|cons e L =>
  rw[<-d];have:Instr.findNow (.struct f) v entries.toList 0=none:=by rw[d];simp[Instr.findNow,Instr.sameNow]
  rw[this];exact b
def mN(c:Value->Bool)(es:List (Value×AV)):Option AV:=match rE c es with|some j=>es[j]?.map (·.2)|none=>none
theorem YX{o:Op}{z:AV}{c:Bool}{x:QO}(h:res P.toTables o=some (.mN kt z c x i)):∃t u v b a,o=.lookup t u v c/\x=qo u/\i=qo v/\P.underlying t=some (.map kt b)/\eL P b=some a/\z=lift a:=by cases o with
 |lookup t u v j =>
  simp only[res,cU,lS]at h;split at h;·rename_i f b e;split at h;grind;rename_i _ _ a g d;simp only[oI_,n0.mN.injEq]at h;obtain⟨rfl,rfl,rfl,rfl,rfl⟩:=h;exact⟨_,_,_,_,_,rfl,rfl,rfl,e,d,rfl⟩;rename_i _ a g d;simp only[oI_,n0.mN.injEq]at h;obtain⟨rfl,rfl,rfl,rfl,rfl⟩:=h;exact⟨_,_,_,_,_,rfl,rfl,rfl,e,d,rfl⟩;all_goals cases h
  grind|_ =>
  simp only[res]at h;repeat' split at h
  all_goals cases h
theorem YY{o:Op}{x:QO}(h:res P.toTables o=some (.Bh kt x i b)):∃t u v y a,o=.mapUpdate t u v y/\x=qo u/\i=qo v/\b=qo y/\P.underlying t=some (.map kt a):=by cases o with|mapUpdate t u v y =>simp only[res,cU]at h;split at h;grind;grind|_ =>
  simp only[res]at h;repeat' split at h
  all_goals cases h
theorem YZ{t kt r:TypeId}{x i:Operand}{k:Nat}{z:Value}{m:AV}{cm:Bool}(s:o.op=.lookup t x i cm)(u:P.underlying t=some (.map kt r))(M:eL P r=some z)(d:Y.ev x=.mp k)(N:S.get k=some (.mp es))(hi:toV (Y.ev i)=some v)(l:MC P kt v es c):bt P U n o Y S (match mN c es with|some a=>if cm then .aM [a,.v (.bool true)] else a|none=>if cm then .aM [lift z,.v (.bool false)] else lift z) S:=by
 refine bt.quiet λA g q w Q B=>?_;have C:=B.ev x;rw[d]at C;have E:=CH (B.ev i) hi;let⟨F,R⟩:=vf C;let⟨_,_,entries,clock,G,T,J⟩:=Q.dh k _ N R;have f:=l.find T J;have fin:∀(v:Value)(b:Bool)(a:AV),aT g w a v->aT g w (if cm then .aM [a,.v (.bool b)] else a) (if cm then .tuple #[v,.bool b] else v):=by intro v b a K;cases cm with|false=>exact K|true =>refine .aM rfl λi y x h d=>?_;match i with|0=>simp at h d;subst h d;exact K|1=>simp at h d;subst h d;exact .v|i+2=>simp at h
 unfold mN;cases p:rE c es with|none =>rw[p]at f;refine⟨_,?_,fin z false (lift z) (zH z)⟩;simp only[execOp,s,F,E,Instr.lookup,Sem.run_bind,run_underlying u,Result.andThen_ok,i_ G,Sem.run_pure,l.chk,f,rf M]|some j =>let⟨W,a,L,_⟩:=UR p;let⟨e,q1,q2,V⟩:=J j _ a L;rw[p]at f;simp only[q1,aN_]at f;simp only[L,aN_];refine⟨_,?_,fin e.val true a V⟩;simp only[execOp,s,F,E,Instr.lookup,Sem.run_bind,run_underlying u,Result.andThen_ok,i_ G,Sem.run_pure,l.chk,f]
theorem D.mN{z:AV}{cm:Bool}{x:QO}{k:Nat}(b:x.ev Y.tm=.mp k)(d:S.get k=some (.mp es))(hi:toV (i.ev Y.tm)=some v)(e:MC P kt v es c):D P U false (.mN kt z cm x i) Y S (match mN c es with|some a=>if cm then .aM [a,.v (.bool true)] else a|none=>if cm then .aM [z,.v (.bool false)] else z) S:=D.run λn o f=>by obtain⟨t,u,y,l,p,g,rfl,rfl,h,j,rfl⟩:=YX f;rw[aY]at b hi;exact YZ (m:=.u) g h j b d hi e
theorem D.Bh{x:QO}{k:Nat}{a:AV}(j:x.ev Y.tm=.mp k)(l:S.get k=some (.mp es))(hi:toV (i.ev Y.tm)=some v)(m:MC P kt v es c)(G:rE c es=none)(p:b.ev Y.tm=a):D P U false (.Bh kt x i b) Y S (.v undef) (S.set k (some (.mp (es++[(v,a)])))):=D.run λn o J=>by obtain⟨t,u,y,r,et,K,rfl,rfl,rfl,L⟩:=YY J;rw[aY]at j hi p;intro A g q w s f;have z:=f.ev u;have h:=f.ev r;rw[j]at z;rw[p]at h;have M:=CH (f.ev y) hi;let⟨N,B⟩:=vf z;let⟨x,C⟩:∃x,q.eval r=x:=⟨_,rfl⟩;rw[C]at h;let⟨_,_,entries,clock,E,Q,R⟩:=s.dh k _ l B;have F:=m.find Q R;rw[G]at F;let⟨T,q1,V,W⟩:=s.Gb (P:=P) l B E (entries':=entries.push {key:=v,val:=x,born:=clock }) (clock':=clock+1) (es':=es++[(v,a)]) Z (λi key a' hi=>by by_cases c:i<es.length;grind;rw[br_ X]at hi;have Qo:i=es.length:=Z;subst Qo;simp at hi;obtain⟨rfl,rfl⟩:=hi;exact⟨{key:=v,val:=x,born:=clock },Z,rfl,h⟩);refine⟨undef,T,g,.inr ⟨?_,rfl⟩,.v,V,W⟩;simp only[execOp,K,N,M,C,Instr.mapUpdate,Sem.run_bind,run_underlying L,Result.andThen_ok,i_ E,m.chk,F,q1,Sem.run_pure]
section
variable{rd:Bool}
def I.DV{σ:Type}{st:σ->List (Nat×AV)}{so:σ->List (Nat×Ob)}{a:σ->Prop}{μ:σ->Nat}{k:Nat}(h:I P U rd n Q (.out (.panic ch) K) Y S):I P U rd n (E1 P U rd n B N st ds so a μ Q K k) (.out (.panic ch) []) Y S:=h
end
theorem aq.Ae{f:FuncId}(h1:aG P U f args ao.none_ r' S')(h2:aL S' r' r)(B:Pure r):aq P U f args r:=by
 refine⟨B,ao.none_,h1.1,λF m A g c w E x G=>(h1.2 F m A g c w E x G).mono ?_⟩;rintro e K⟨v,l,rfl,L,d,n⟩;have a:∀b q,(l.still S').fz b q->g.fz b q\/A b:=by rintro b q(i|⟨k,sz,rows,fz,ex,a,y,rfl,i⟩);exact n.lN b q i;exact .inr (d.dh k _ a y).1
 have M:=h2.rep d L;let⟨u,s⟩:∃u:Gh,u=⟨g.ob,g.cp,λ_=>False,(l.still S').fz,g.fo⟩:=⟨_,rfl⟩;have N:∀k,¬g.al k:=λk a=>absurd (x.al k a) (Nat.not_lt_zero k);have C:Later g w u K:=by rw[s];exact⟨λk a=>N k a,λ_ _=>rfl,λ_ _=>rfl,λb q i=>.inl (n.fz b q i),n.cell⟩
 refine⟨v,u,rfl,?_,?_,{C with size:=n.size,aP:=n.aP,lN:=by rw[s];exact a }⟩;rw[s];exact aT.pure (g:=l.still S') (g':=⟨g.ob,g.cp,λ_=>False,(l.still S').fz,g.fo⟩) (λ_ _ h=>h) (λ_ _ _=>rfl) M B;have t:∀k o,¬ao.none_.get k=some o:=λk o h=>by simp[ao.none_]at h
 refine⟨d.base,d.up,d.lo,λk a=>?_,λk o a=>absurd a (t k o),λj k o p z=>absurd z (t j o),?_,λb q Q=>C.fz b q (x.uA b q Q),λk J a=>absurd a (t k _),λk J j o a=>absurd a (t k _),λj k J T z=>absurd z (t j _)⟩;rw[s]at a;exact a.elim;rw[s];rintro b q(i|⟨k,sz,rows,fz,ex,a,y,rfl,i⟩);exact d.dU b q i;exact(d.dh k _ a y).2.1
end Go.Proofs.YtbdcmpknicjopaaGreat
