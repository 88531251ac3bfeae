import Derived.Laws.RangeString
import Derived.Laws.Strings
import Derived.Test.YtbdcmpknicjopaaGreatTb8
namespace Go.Proofs.YtbdcmpknicjopaaGreat
set_option linter.all false
set_option maxRecDepth 100000
open Go.RowKit Proofs.Tryz
variable{O:Hd}{Y:World}
section
attribute [local irreducible] ao aF D H
def arF:=aD func239 call239
def aer:List Nat:=[4,0,1,2,3]
def arG:=aD func299 call299
def Yh:List Nat:=[2,3,4,0,1]
def arH:=aD func215 call215
def aes:List Nat:=[4,0,1,2,3]
def avY:=aD func86 call86
def g86:List Nat:=[4,0,1]
def avZ:=aD func39 call39
def g39:List Nat:=[2,3,4,0,1]
def kC(x y:Gl):Bool:=x.op==y.op&&x.n.toList==y.n.toList&&decide ((x.a.length:Int)=y.a.length)&&iC x.a y.a==0
theorem abp:∀(a b:List Tm)(k:Nat),a.length<=k\/b.length<=k->k<=a.length->k<=b.length->iC (a.drop k) (b.drop k)=jG a.length b.length:=by
 intro a b k h e f;rcases bE_ k a.length with c|c;·let⟨x,g,d⟩:=aA c;rw[d,al_ (show b.length<=k by omega),iC];unfold jG;(repeat' split)<;>first|rfl|omega
 grind[iC,jG]
theorem TJ{a b:List Tm}(n:∀x∈a,∀y,x.ok->y.ok->ab Y 222 [tm O x,tm O y] (iv (eU x y)))(o:dS a)(p:dS b)(u:a.length<=1099511627776)(v:b.length<=1099511627776):ab Y 153 [tl O a,tl O b] (iv (iC a b)):=by
 refine st arB nR .v ?_;repeat' first|exact dF c|refine cg nR (λc=>?_) λc=>?_|refine lg nR λm f=>?_|refine ag nR λ_ _=>?_|refine gT λ_ _=>?_;refine Z nR ?_|refine H.str rfl (D.cat rfl rfl I) λ_ _=>?_;refine Z nR ?_|refine xG nR ?_|refine rG nR ?_|refine fq ?_
 refine bE 0 0 [] (λi=>[(0,tl O a),(1,tl O b),(5,.v (.int .i64 i))]) [] (λ_=>[]) a.length (λk=>k<=b.length/\iC a b=iC (a.drop k) (b.drop k)) ⟨aB,aB⟩ λi k g q ⟨r,d⟩=>?_;refine Z nR ?_;by_cases h:k<a.length/\k<b.length
 ·let⟨x,e,s⟩:=aA h.1;let⟨y,j,t⟩:=aA h.2;rw[s,t,iC,fS]at d;repeat' first|refine og nR (D.ind rfl rfl (cD (l:=a) g e) cE) ?_|refine og nR (D.ind rfl rfl (cD (l:=b) g j) cE) ?_|refine ig nR (pl (n x (aW e) y (o.mem x (aW e)) (p.mem y (aW j)))) λ_ _=>?_|refine ig nR (pl (Dv _ _)) λ_ _=>?_|refine cg nR (λc=>?_) λc=>?_|refine lg nR λm f=>?_|refine ag nR λ_ _=>?_|refine xG nR ?_|refine rG nR ?_|refine fq ?_
  all_goals first|omega|subst_vars;rw[if_neg X]at d;exact dx d.symm|subst_vars;rw[if_pos X]at d;refine H.bO _ [] ?_ ?_ cq;grind;omega
 ·skip;repeat' first|refine ig nR (pl (Dv _ _)) λ_ _=>?_|refine cg nR (λc=>?_) λc=>?_|refine lg nR λm f=>?_|refine xG nR ?_|refine fq ?_
  all_goals first|omega|rw[abp a b k X q r]at d;subst_vars;exact dx d.symm
theorem Yi(k i b c:Int)(n d:ByteArray)(a a':List Tm)(j:∀x∈a,∀y:Tm,x.ok->y.ok->ab Y 222 [tm O x,tm O y] (iv (eU x y)))(l:a.length<=1099511627776)(m:dS a)(o:a'.length<=1099511627776)(p:dS a')(e:iY k=0):ab Y 222 [tm O ⟨k,i,n,a⟩,tm O ⟨b,c,d,a'⟩] (iv (eU ⟨k,i,n,a⟩ ⟨b,c,d,a'⟩)):=by
 have g:ab Y 279 [tm O ⟨k,i,n,a⟩] (iv 0):=by rw[<-e];exact uU _
 have h:ab Y 279 [tm O ⟨b,c,d,a'⟩] (iv (iY b)):=uU _;rw[eU,e];dsimp only;refine st Po mZ .v ?_;repeat' first|apply a8 mZ g|refine ig mZ (pl h) λ_ _=>?_|refine ig mZ (pl (Dv _ _)) λ_ _=>?_|exact dF f|refine cg mZ (λf=>?_) λf=>?_|refine fq ?_
 all_goals subst_vars;refine dx ?_;simp only[fS,CB,true_or,or_true,if_true];(repeat' split)<;>first|rfl|omega
theorem Yj(k i b c:Int)(n d:ByteArray)(a a':List Tm)(j:∀x∈a,∀y:Tm,x.ok->y.ok->ab Y 222 [tm O x,tm O y] (iv (eU x y)))(l:a.length<=1099511627776)(m:dS a)(o:a'.length<=1099511627776)(p:dS a')(e:iY k=1):ab Y 222 [tm O ⟨k,i,n,a⟩,tm O ⟨b,c,d,a'⟩] (iv (eU ⟨k,i,n,a⟩ ⟨b,c,d,a'⟩)):=by
 have g:ab Y 279 [tm O ⟨k,i,n,a⟩] (iv 1):=by rw[<-e];exact uU _
 have h:ab Y 279 [tm O ⟨b,c,d,a'⟩] (iv (iY b)):=uU _;rw[eU,e];dsimp only;refine st Po mZ .v ?_;repeat' first|apply a8 mZ g|refine ig mZ (pl h) λ_ _=>?_|refine ig mZ (pl (Dv _ _)) λ_ _=>?_|exact dF f|refine cg mZ (λf=>?_) λf=>?_|refine fq ?_
 all_goals subst_vars;refine dx ?_;simp only[fS,CB,true_or,or_true,if_true];(repeat' split)<;>first|rfl|omega
theorem Yk(k i c d:Int)(n e:ByteArray)(a a':List Tm)(h:∀x∈a,∀y:Tm,x.ok->y.ok->ab Y 222 [tm O x,tm O y] (iv (eU x y)))(j:a.length<=1099511627776)(l:dS a)(o:a'.length<=1099511627776)(p:dS a')(f:iY k=2):ab Y 222 [tm O ⟨k,i,n,a⟩,tm O ⟨c,d,e,a'⟩] (iv (eU ⟨k,i,n,a⟩ ⟨c,d,e,a'⟩)):=by
 have q:ab Y 279 [tm O ⟨k,i,n,a⟩] (iv 2):=by rw[<-f];exact uU _
 have r:ab Y 279 [tm O ⟨c,d,e,a'⟩] (iv (iY c)):=uU _;rw[eU,f];dsimp only;refine st Po mZ .v ?_;repeat' first|apply a8 mZ q|refine ig mZ (pl r) λ_ _=>?_|refine ig mZ (pl (Dv _ _)) λ_ _=>?_|refine ig mZ (pl (V7 _ _)) λ_ _=>?_|refine ig mZ (pl (TJ (a:=a) (b:=a') h l p j o)) λ_ _=>?_|exact dF g|refine cg mZ (λg=>?_) λg=>?_|refine lg mZ λm s=>?_|refine fq ?_
 all_goals subst_vars;refine dx ?_;simp only[fS,CB,true_or,or_true,if_true];(repeat' split)<;>first|rfl|omega
theorem Yl(k i b c:Int)(n d:ByteArray)(a a':List Tm)(j:∀x∈a,∀y:Tm,x.ok->y.ok->ab Y 222 [tm O x,tm O y] (iv (eU x y)))(l:a.length<=1099511627776)(m:dS a)(o:a'.length<=1099511627776)(p:dS a')(e:iY k=3):ab Y 222 [tm O ⟨k,i,n,a⟩,tm O ⟨b,c,d,a'⟩] (iv (eU ⟨k,i,n,a⟩ ⟨b,c,d,a'⟩)):=by
 have g:ab Y 279 [tm O ⟨k,i,n,a⟩] (iv 3):=by rw[<-e];exact uU _
 have h:ab Y 279 [tm O ⟨b,c,d,a'⟩] (iv (iY b)):=uU _;rw[eU,e];dsimp only;refine st Po mZ .v ?_;repeat' first|apply a8 mZ g|refine ig mZ (pl h) λ_ _=>?_|refine ig mZ (pl (Dv _ _)) λ_ _=>?_|refine ig mZ (pl (V7 _ _)) λ_ _=>?_|exact dF f|refine cg mZ (λf=>?_) λf=>?_|refine fq ?_
 all_goals subst_vars;refine dx ?_;simp only[fS,CB,true_or,or_true,if_true];(repeat' split)<;>first|rfl|omega
theorem aet(k:Int):iY k=0\/iY k=1\/iY k=2\/iY k=3:=by grind[iY]
theorem LW(x y:Tm)(b:x.ok)(c:y.ok):ab Y 222 [tm O x,tm O y] (iv (eU x y)):=by revert y b c;refine Tm.ind (p:=λx=>∀y:Tm,x.ok->y.ok->ab Y 222 [tm O x,tm O y] (iv (eU x y))) ?_ x;intro k i n a d y b c;let⟨e,f,g⟩:=b.out;let⟨j,l,m⟩:=c.out;let⟨o,q,r,s⟩:=y;rcases aet k with h|h|h|h;grind[Yi];grind[Yj];grind[Yk];grind[Yl]
def anB(a b:List Tm)(c:dS a)(d:dS b)(e:a.length<=1099511627776)(f:a.length=b.length):ab Y 320 [tl O a,tl O b] (iv (iC a b)):=V8 (λx _ y g h=>OJ x y g h) c d e f
def aiB(a b:List Tm)(c:dS a)(d:dS b)(e:a.length<=1099511627776)(f:b.length<=1099511627776):ab Y 153 [tl O a,tl O b] (iv (iC a b)):=TJ (λx _ y g h=>LW x y g h) c d e f
theorem Td(x y:Tm)(a:x.ok)(b:y.ok):ab Y 239 [tm O x,tm O y] (.v (.bool (eU x y==0))):=by
 refine st arF aer .v ?_;repeat' first|refine ig aer (pl (OJ (O:=O) x y a b)) λ_ _=>?_|refine cg aer (λc=>?_) λc=>?_|refine fq ?_
 all_goals refine aH.of_eq ?_;simp_all
theorem MN(x y:Tm)(a:x.ok)(b:y.ok):ab Y 215 [tm O x,tm O y] (.v (.bool (eU x y==0))):=by
 refine st arH aes .v ?_;repeat' first|refine ig aes (pl (LW (O:=O) x y a b)) λ_ _=>?_|refine cg aes (λc=>?_) λc=>?_|refine fq ?_
 all_goals refine aH.of_eq ?_;simp_all
theorem abq(a b:List Tm)(c:dS a)(d:dS b)(e:a.length<=1099511627776)(f:b.length<=1099511627776):ab Y 86 [tl O a,tl O b] (.v (.bool (iC a b==0))):=by
 refine st avY g86 .v ?_;repeat' first|refine ig g86 (pl (aiB a b c d e f)) λ_ _=>?_|refine cg g86 (λg=>?_) λg=>?_|refine fq ?_
 all_goals refine aH.of_eq ?_;simp_all
def At.ok(x:At):Prop:=x.a.length<=1099511627776/\dS x.a
def Gl.ok(x:Gl):Prop:=x.a.length<=1099511627776/\dS x.a
theorem ao2(x y:Int):ab Y 193 [aY .plain aR false [x,y]] (iv (CB [x,y])):=ant [x,y] (by simp[Rm])
theorem aio(x y:Gl)(e:x.ok)(f:y.ok):ab Y 299 [gl O x,gl O y] (.v (.bool (kC x y))):=by
 let⟨b,c⟩:=e;let⟨g,d⟩:=f;let⟨o,n,a⟩:=x;let⟨j,k,h⟩:=y;dsimp only at b c g d;rw[kC];dsimp only;refine st arG Yh .v ?_;repeat' first|refine ig Yh (pl (anB a h c d b X)) λ_ _=>?_|refine cg Yh (λi=>?_) λi=>?_|refine lg Yh λm l=>?_|refine fq ?_
 all_goals refine aH.of_eq ?_;subst_vars;simp_all
theorem Sc(x y:Gl)(f:x.ok)(g:y.ok):ab Y 39 [gl O x,gl O y] (.v (.bool (kC x y))):=by
 let⟨b,c⟩:=f;let⟨d,e⟩:=g;let⟨o,n,a⟩:=x;let⟨j,k,h⟩:=y;dsimp only at b c d e;rw[kC];dsimp only;refine st avZ g39 .v ?_;repeat' first|refine bg g39 (pl (abq a h c e b d)) (λ_=>?_) λ_=>?_|refine cg g39 (λi=>?_) λi=>?_|refine lg g39 λm l=>?_|refine fq ?_
 all_goals refine aH.of_eq ?_;subst_vars;simp_all
def arI:=aD func224 call224
def anC:List Nat:=[0,10,2,3,19]
def arJ:=aD func226 call226
def qU:List Nat:=[0,2]
def arK:=aD func155 call155
def wZ:List Nat:=[0,4,1,19]
def arL:=aD func156 call156
def anD:List Nat:=[3,4,2,0]
def av0:=aD func91 call91
def g91:List Nat:=[0,2]
def arM:=aD func281 call281
def lF:List Nat:=[11,6,0,10,12,1,8,2,19,7]
def arN:=aD func225 call225
def anF:List Nat:=[4,0,1]
def arO:=aD func177 call177
def anG:List Nat:=[0,2]
def arP:=aD func243 call243
def anH:List Nat:=[0,2]
def arQ:=aD func176 call176
def w5:List Nat:=[0,3,2,7,39]
def arR:=aD func178 call178
def anI:List Nat:=[0,2]
def agL:=aD func107 call107
def nS:List Nat:=[0,2]
def qV(c:Int):Bool:=decide (97<=c)&&decide (c<=122)
def ER(c:Int):Bool:=decide (65<=c)&&decide (c<=90)
def Nb(c:Int):Bool:=decide (48<=c)&&decide (c<=57)
def Jq(c:Int):Int:=if qV c then 1 else if ER c||c==95 then 2 else if Nb c then 4 else 0
def Js(c:Int):Bool:=qV c||ER c||Nb c||c==95
def AK(c:UInt8):Bool:=Js c.toNat
def TK(s:ByteArray):Bool:=s.toList==(⟨#[99,111,110,115,116,114,97,105,110,116]⟩:ByteArray).toList||s.toList==(⟨#[116,114,117,101]⟩:ByteArray).toList||s.toList==(⟨#[102,97,105,108]⟩:ByteArray).toList||s.toList==(⟨#[105,115]⟩:ByteArray).toList||s.toList==(⟨#[105,110,116]⟩:ByteArray).toList||s.toList==(⟨#[103,114,111,117,110,100]⟩:ByteArray).toList
def IA(l:List UInt8):Bool:=match l with|[]=>false|c::r=>decide (r.length<40)&&qV c.toNat&&r.all AK
def nZ(s:ByteArray):Bool:=IA s.data.toList &&!TK s
def HR:List UInt8->Int->Int|[],_=>-1|c::l,p=>if AK c then HR l (p+1) else p
theorem Wc:∀(l:List UInt8)(p:Int),0<=p->decide (HR l p<0)=l.all AK|[],p,h=>rfl|c::l,p,h=>by simp only[HR,aJ_];split;rename_i a;rw[Wc l _ X,a];rfl;grind
theorem toL_eq(s:ByteArray):s.toList=s.data.toList:=ByteArray.toList_eq s
theorem toL_nil:ByteArray.toList ⟨#[]⟩=[]:=by rw[toL_eq]
theorem Jx{l:List UInt8}{c:UInt8}{r:List UInt8}(h:l=c::r):idx l 0=some c:=by subst h;rfl
theorem pY(s:ByteArray):s.size=s.data.toList.length:=(bm_).symm
theorem aeu(s:ByteArray)(pos:Nat)(h:pos<s.size):s.data.toList.drop pos=s.get! pos::s.data.toList.drop (pos+1):=by
 have a:pos<s.data.toList.length:=by grind[pY]
 rw[bN_ a];congr 1;have b:pos<s.data.size:=h;simp only[Array.getElem_toList,ByteArray.get!];exact(getElem!_pos s.data pos b).symm
theorem get_at(s:ByteArray)(pos:Nat)(h:pos<s.size):s[pos]'h=s.get! pos:=by have a:pos<s.data.size:=h;show s.data[pos]'a=s.data[pos]!;exact(getElem!_pos s.data pos a).symm
theorem Ym(s:ByteArray)(i:Nat)(h:128<=(s.get! i).toNat):128<=(Utf8.decode s i).1:=by
 unfold Utf8.decode;simp only[bz_];repeat' split
 all_goals first|omega|simp_all[Utf8.runeError]<;>omega
theorem aiC{s:ByteArray}{pos p:Nat}{c:Int}(h:pos<s.size)(a:c=((Utf8.decode s pos).1:Nat))(b:p=pos+(Utf8.decode s pos).2):0<=c/\(c>122\/Js c=false->HR (s.data.toList.drop pos) pos=pos)/\(c<=122->Js c=true->p=pos+1/\HR (s.data.toList.drop pos) pos=HR (s.data.toList.drop (pos+1)) ((pos+1:Nat):Int)):=by rw[aeu s pos h,HR];by_cases e:(s.get! pos).toNat<128;have d:=decode_ascii s pos h (by rw[get_at];exact e);rw[get_at]at d;rw[d]at a b;simp only at a b;subst a;refine⟨X,λh=>by grind[AK,Js,qV,ER,Nb],λg f=>⟨b,by rw[if_pos (by exact f)];rfl⟩⟩;grind[Ym,AK,Js,qV,ER,Nb]
theorem anJ(c:Int):ab Y 224 [.v (.int .u8 c)] (.v (.int .u8 (Jq c))):=by
 refine st arI anC .v ?_;repeat' first|refine cg anC (λa=>?_) λa=>?_|refine fq ?_
 all_goals refine aH.of_eq ?_;simp_all[Jq,qV,ER,Nb];try omega
theorem Wd(c:Int):ab Y 177 [.v (.int .u8 c)] (.v (.bool (qV c))):=by
 refine st arO anG .v ?_;repeat' first|refine cg anG (λa=>?_) λa=>?_|refine fq ?_
 all_goals refine aH.of_eq ?_;simp_all[qV];try intros;omega
theorem aiD(c:Int):ab Y 243 [.v (.int .u8 c)] (.v (.bool (ER c))):=by
 refine st arP anH .v ?_;repeat' first|refine cg anH (λa=>?_) λa=>?_|refine fq ?_
 all_goals refine aH.of_eq ?_;simp_all[ER];try intros;omega
theorem anK(s:ByteArray):ab Y 156 [.v (.string s)] (.v (.bool (TK s))):=by
 refine st arL anD .v ?_;repeat' first|refine cg anD (λa=>?_) λa=>?_|refine fq ?_
 all_goals refine aH.of_eq ?_;simp_all[TK]
theorem aiE(s:ByteArray):ab Y 178 [.v (.string s)] (.v (.bool (TK s))):=by
 refine st arR anI .v ?_;repeat' first|refine cg anI (λa=>?_) λa=>?_|refine fq ?_
 all_goals refine aH.of_eq ?_;simp_all[TK]
theorem arS{c:Int}(h1:0<=c)(h2:c<=255):IntKind.u8.wrap c=c:=by unfold IntKind.wrap;simp[IntKind.bits,IntKind.signed];omega
theorem aev(P:Program)(w:World)(t:TypeId)(c:Int):(binOp .and t (.int .u8 (Jq c)) (.int .u8 7)).run P w=.ok (.int .u8 (Jq c)) w:=by unfold Jq;(repeat' split)<;>rfl
theorem aew(P:Program)(w:World)(t:TypeId)(c:Int):(binOp .and t (.int .u8 (Jq c)) (.int .u8 1)).run P w=.ok (.int .u8 (if qV c then 1 else 0)) w:=by unfold Jq;(repeat' split)<;>rfl
theorem aex(c:Int):Jq c=0↔Js c=false:=by grind[Jq,Js,qV,ER,Nb]
theorem aiF(c:Int)(b:0<=c):ab Y 226 [.v (.int .i32 c)] (.v (.bool (decide (c>122) ||!Js c))):=by
 refine st arJ qU .v ?_;repeat' first|refine ig qU (pl (anJ _)) λ_ _=>?_|refine ig qU (D.conv rfl) λ_ _=>?_|exact dF a|refine cg qU (λa=>?_) λa=>?_|refine lg qU λm d=>?_|refine ag qU λ_ _=>?_|refine gT λ_ _=>?_;refine Z qU ?_|refine H.str rfl (D.cat rfl rfl I) λ_ _=>?_;refine Z qU ?_|refine xG qU ?_|refine rG qU ?_|refine fq ?_
 grind[aH.of_eq];rename_i x e y f;rw[arS b X]at e;have g:=aex c;refine ig qU (D.raw (r:=.int .u8 (Jq c)) rfl rfl aB aB λt w=>by grind[aev]) λ_ _=>?_;repeat' first|exact dF a|refine cg qU (λa=>?_) λa=>?_|refine lg qU λm d=>?_|refine ag qU λ_ _=>?_|refine gT λ_ _=>?_;refine Z qU ?_|refine H.str rfl (D.cat rfl rfl I) λ_ _=>?_;refine Z qU ?_|refine xG qU ?_|refine rG qU ?_|refine fq ?_
 all_goals refine aH.of_eq ?_;subst_vars;simp_all
theorem aey(s:ByteArray):ab Y 281 [.v (.string s),.v (.func (.func 226) #[] #[]),.v (.bool true)] (iv (HR s.data.toList 0)):=by
 refine st arM lF .v ?_;repeat' first|refine og lF (D.avL rfl) ?_|exact dF a|refine cg lF (λa=>?_) λa=>?_|refine lg lF λm d=>?_|refine ag lF λ_ _=>?_|refine gT λ_ _=>?_;refine Z lF ?_|refine H.str rfl (D.cat rfl rfl I) λ_ _=>?_;refine Z lF ?_|refine xG lF ?_|refine rG lF ?_|refine fq ?_
 refine H.ic (σ:=Nat) 1 1 [] (λp=>[(1,.v (.func (.func 226) #[] #[])),(2,.v (.bool true)),(10,.pt 0 0 0 0)]) [] (λp=>[(0,.si s p)]) (λp=>p<=s.size/\HR s.data.toList 0=HR (s.data.toList.drop p) p) (λp=>s.size-p) 0 ⟨X,aB⟩ rfl cz ?_;rintro pos⟨o,e⟩;refine Z lF ?_;refine H.aed rfl rfl rfl (λf j c p g h i=>?_) λf=>?_
 ·let⟨k0,k,l⟩:=aiC f h i;refine Z lF ?_;repeat' first|refine bg lF (pl (aiF _ k0)) (λ_=>?_) λ_=>?_|exact dF a|refine cg lF (λa=>?_) λa=>?_|refine lg lF λm d=>?_|refine ag lF λ_ _=>?_|refine gT λ_ _=>?_;refine Z lF ?_|refine H.str rfl (D.cat rfl rfl I) λ_ _=>?_;refine Z lF ?_|refine xG lF ?_|refine rG lF ?_|refine fq ?_
  rename_i b;have b:c>122\/Js c=false:=I;rw[e,k b,g];exact aH.of_eq rfl;rename_i b;have b:c<=122/\Js c=true:=I;let⟨q,r⟩:=l b.1 b.2;refine H.bO _ [] ?_ ?_ cz;grind;omega
 ·refine Z lF ?_;repeat' first|exact dF a|refine cg lF (λa=>?_) λa=>?_|refine lg lF λm d=>?_|refine ag lF λ_ _=>?_|refine gT λ_ _=>?_;refine Z lF ?_|refine H.str rfl (D.cat rfl rfl I) λ_ _=>?_;refine Z lF ?_|refine xG lF ?_|refine rG lF ?_|refine fq ?_
  all_goals rw[e,al_ (by grind[pY])];exact aH.of_eq rfl
theorem aiG(s:ByteArray):ab Y 225 [.v (.string s),.v (.func (.func 226) #[] #[])] (iv (HR s.data.toList 0)):=by
 refine st arN anF .v ?_;repeat' first|refine ig anF (pl (aey _)) λ_ _=>?_|refine fq ?_
 all_goals subst_vars;exact dx rfl
theorem ext1(s:ByteArray){c:UInt8}{r:List UInt8}(h:s.data.toList=c::r):(s.extract 1 s.size).data.toList=r:=by have e:s.size=s.data.toList.length:=pY s;rw[ByteArray.data_extract,Array.toList_extract,h,e,h];simp[List.extract]
theorem anL(s:ByteArray)(hs:s.size<=1099511627776):ab Y 155 [.v (.string s),.v (.int .u8 1)] (.v (.bool (IA s.data.toList))):=by
 have e:=pY s;have A:=toL_nil;have B:=toL_eq s;have i:=@ext1 s;refine st arK wZ .v ?_;rcases b:s.data.toList with _|⟨c,a⟩;all_goals rw[b]at e;simp only[bg_,aC_]at e;repeat' first|refine ig wZ (D.Ws rfl rfl (Jx b)) λ_ _=>?_|refine ig wZ (pl (anJ _)) λ_ _=>?_|refine ig wZ (D.raw (r:=.int .u8 (if qV (c.toNat:Int) then 1 else 0)) rfl rfl aB aB λt w=>by grind[aew]) λ_ _=>?_|refine H.str rfl (D.avJ (h:=(s.size:Int)) rfl rfl rfl X X X) λ_ _=>?_;refine Z wZ ?_|refine ig wZ (pl (aiG _)) λ_ _=>?_|exact dF f|refine cg wZ (λf=>?_) λf=>?_|refine lg wZ λm C=>?_|refine ag wZ λ_ _=>?_|refine gT λ_ _=>?_;refine Z wZ ?_|refine H.str rfl (D.cat rfl rfl (by assumption)) λ_ _=>?_;refine Z wZ ?_|refine xG wZ ?_|refine rG wZ ?_|refine fq ?_
 all_goals try exfalso;simp_all;done
 all_goals try exfalso;simp_all;omega;done
 exact aL rfl;have h:¬a.length<40:=X;exact aL (by simp[IA,h]);rename_i j k l n o p q d;have h:qV c.toNat=false:=by cases h:qV c.toNat with|false=>rfl|true=>rw[h]at d;simp at d;omega
 exact aL (by simp[IA,h]);all_goals
  rename_i j k l n o p q d E u v F g;have h:qV c.toNat=true:=by grind[qV]
  have x:u.data.toList=a:=by rw[v];exact i b
  have y:=Wc a 0 X;rw[x]at g;have z:a.length<40:=X;refine aL ?_;simp only[IA,h];rw[<-y,<-g];simp[z];omega
theorem Cp(s:ByteArray)(hs:s.size<=1099511627776):ab Y 91 [.v (.string s)] (.v (.bool (nZ s))):=by
 refine st av0 g91 .v ?_;repeat' first|refine bg g91 (pl (anL _ hs)) (λ_=>?_) λ_=>?_|refine bg g91 (pl (anK _)) (λ_=>?_) λ_=>?_|refine fq ?_
 all_goals refine aL ?_;simp_all[nZ]
def Pq(s:ByteArray):Bool:=s.data.toList.all AK&&decide (1<=s.size)&&decide (s.size<=40)
theorem TL(c:UInt8):AK c=(qV c.toNat||ER c.toNat||decide (48<=(c.toNat:Int))&&decide ((c.toNat:Int)<=57)||(c.toNat:Int)==95):=rfl
theorem aiH(s:ByteArray)(hs:s.size<=1099511627776):ab Y 176 [.v (.string s)] (.v (.bool (Pq s))):=by
 have d:=pY s;refine st arQ w5 .v ?_;refine bE 0 0 [] (λi=>[(0,.v (.string s)),(3,.v (.int .i64 i))]) [] (λ_=>[]) s.size (λk=>s.data.toList.all AK=(s.data.toList.drop k).all AK) aB λi k j o a=>?_;refine Z w5 ?_;by_cases p:k<s.size
 ·let⟨c,f,g⟩:=aA (l:=s.data.toList) (show k<s.data.toList.length by omega);have h:idx s.data.toList i=some c:=by rw[j];exact Um f
  rw[g,aJ_]at a;repeat' first|refine ig w5 (D.Ws rfl rfl h) λ_ _=>?_|refine bg w5 (pl (Wd _)) (λ_=>?_) λ_=>?_|refine bg w5 (pl (aiD _)) (λ_=>?_) λ_=>?_|refine cg w5 (λb=>?_) λb=>?_|refine lg w5 λm n=>?_|refine ag w5 λ_ _=>?_|refine xG w5 ?_|refine rG w5 ?_|refine fq ?_
  all_goals first
   |(refine aL ?_;have e:AK c=false:=by grind[TL]
     rw[Pq,a,e];rfl)
   |(have e:AK c=true:=by rw[TL];clear a g d h f hs;subst_vars;simp_all<;>omega
     exact cw _ [] (k+1) I)|omega
 ·skip;repeat' first|refine cg w5 (λb=>?_) λb=>?_|refine lg w5 λm n=>?_|refine xG w5 ?_|refine fq ?_
  all_goals first|omega|rename_i q r;refine aL ?_;rw[Pq,a,al_ X];clear a d;simp;omega
theorem DF(s:ByteArray)(hs:s.size<=1099511627776):ab Y 107 [.v (.string s)] (.v (.bool (nZ s))):=by
 have g:=pY s;have d:=aiE (Y:=Y) s;have a:=aiH (Y:=Y) s hs;unfold nZ IA;rcases f:s.data.toList with _|⟨c,h⟩;all_goals rw[Pq,f]at a;rw[f]at g;simp only[bg_,aC_]at g
 ·have e:(List.all [] AK&&decide (1<=s.size)&&decide (s.size<=40))=false:=I;rw[e]at a;refine st agL nS .v ?_;repeat' first|apply a8 nS a|refine bg nS (pl d) (λ_=>?_) λ_=>?_|exact dF b|refine cg nS (λb=>?_) λb=>?_|refine lg nS λm k=>?_|refine ag nS λ_ _=>?_|refine gT λ_ _=>?_;refine Z nS ?_|refine H.str rfl (D.cat rfl rfl I) λ_ _=>?_;refine Z nS ?_|refine xG nS ?_|refine rG nS ?_|refine fq ?_
  all_goals refine aL ?_;simp_all
 ·skip;refine st agL nS .v ?_;repeat' first|refine bg nS (pl a) (λ_=>?_) λ_=>?_|refine bg nS (pl d) (λ_=>?_) λ_=>?_|refine ig nS (D.Ws rfl rfl (Jx f)) λ_ _=>?_|refine bg nS (pl (Wd _)) (λ_=>?_) λ_=>?_|exact dF b|refine cg nS (λb=>?_) λb=>?_|refine lg nS λm k=>?_|refine ag nS λ_ _=>?_|refine gT λ_ _=>?_;refine Z nS ?_|refine H.str rfl (D.cat rfl rfl I) λ_ _=>?_;refine Z nS ?_|refine xG nS ?_|refine rG nS ?_|refine fq ?_
  all_goals
   refine aL ?_;have l:qV c.toNat=true->AK c=true:=by grind[TL]
   have i:decide (1<=s.size)=true:=I;have j:decide (s.size<=40)=decide (h.length<40):=decide_eq_decide.2 X;clear a d hs;subst_vars;simp only[aJ_,i,j,bF_]at*;clear g i j f;cases n:qV (c.toNat:Int)<;>cases o:AK c<;>cases d:h.all AK<;>cases p:decide (h.length<40)<;>simp_all
end
end Go.Proofs.YtbdcmpknicjopaaGreat
