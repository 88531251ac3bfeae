import Derived.Laws.RangeString
import Derived.Laws.Strings
import Derived.Test.YtbdcmpknicjopaaGreatTo9
namespace Go.Proofs.YtbdcmpknicjopaaGreat
set_option linter.all false
set_option maxRecDepth 100000
open Go.RowKit Proofs.Tryz
variable{N:aW}{O:Hd}{U:World}{c h:Nat->Nat}{lo:Nat->Int}{ls:List (Int×Int)}
section
attribute [local irreducible] aq aG D I
def aoo:=aD func224 call224
def aja:=[0,10,2,3,19]
def aop:=aD func226 call226
def qF:=[0,2]
def aoq:=aD func155 call155
def wH:=[0,4,1,19]
def aor:=aD func156 call156
def ajb:=[3,4,2,0]
def aut:=aD func91 call91
def g91:=[0,2]
def aos:=aD func281 call281
def ll:=[11,6,0,10,12,1,8,2,19,7]
def aot:=aD func225 call225
def ajd:=[4,0,1]
def aou:=aD func177 call177
def aje:=[0,2]
def aov:=aD func243 call243
def ajf:=[0,2]
def aow:=aD func176 call176
def wI:=[0,3,2,7,39]
def aox:=aD func178 call178
def ajg:=[0,2]
def ae8:=aD func107 call107
def nJ:=[0,2]
def qG(c:Int):Bool:=decide (97<=c)&&decide (c<=122)
def DG(c:Int):Bool:=decide (65<=c)&&decide (c<=90)
def Mp(c:Int):Bool:=decide (48<=c)&&decide (c<=57)
def I2(c:Int):Int:=if qG c then 1 else if DG c||c==95 then 2 else if Mp c then 4 else 0
def I3(c:Int):Bool:=qG c||DG c||Mp c||c==95
def zL(c:UInt8):Bool:=I3 c.toNat
def PO(s:ByteArray):Bool:=s.toList==(⟨#[99,111,110,115,116,114,97,105,110,116]⟩:ByteArray).toList||s.toList==(⟨#[116,114,117,101]⟩:ByteArray).toList||s.toList==(⟨#[102,97,105,108]⟩:ByteArray).toList||s.toList==(⟨#[105,115]⟩:ByteArray).toList||s.toList==(⟨#[105,110,116]⟩:ByteArray).toList||s.toList==(⟨#[103,114,111,117,110,100]⟩:ByteArray).toList
def Ig(l:List UInt8):Bool:=match l with|[]=>false|c::r=>decide (r.length<40)&&qG c.toNat&&r.all zL
def nX(s:ByteArray):Bool:=Ig s.data.toList &&!PO s
def FL:List UInt8->Int->Int|[],_=>-1|c::l,p=>if zL c then FL l (p+1) else p
theorem Uy:∀(l:List UInt8)(p:Int),0<=p->decide (FL l p<0)=l.all zL|[],p,h=>rfl|c::l,p,h=>by simp only[FL,aL_];split;rename_i a;rw[Uy l _ X,a];rfl;grind
theorem toL_eq(s:ByteArray):s.toList=s.data.toList:=ByteArray.toList_eq s
theorem toL_nil:ByteArray.toList ⟨#[]⟩=[]:=by rw[toL_eq]
theorem JN{l:List UInt8}{c:UInt8}{r:List UInt8}(h:l=c::r):idx l 0=some c:=by subst h;rfl
theorem pX(s:ByteArray):s.size=s.data.toList.length:=(bu_).symm
theorem abR(s:ByteArray)(pos:Nat)(h:pos<s.size):s.data.toList.drop pos=s.get! pos::s.data.toList.drop (pos+1):=by
 have a:pos<s.data.toList.length:=by grind[pX]
 rw[bM_ a];congr 1;have b:pos<s.data.size:=h;simp only[Array.getElem_toList,ByteArray.get!];exact(getElem!_pos s.data pos b).symm
theorem get_at(s:ByteArray)(pos:Nat)(h:pos<s.size):s[pos]'h=s.get! pos:=by have a:pos<s.data.size:=h;show s.data[pos]'a=s.data[pos]!;exact(getElem!_pos s.data pos a).symm
theorem Ww(s:ByteArray)(i:Nat)(h:128<=(s.get! i).toNat):128<=(Utf8.decode s i).1:=by
 unfold Utf8.decode;simp only[bE_];repeat' split
 all_goals first|omega|simp_all[Utf8.runeError]<;>omega
theorem ahd{s:ByteArray}{pos p:Nat}{c:Int}(h:pos<s.size)(a:c=((Utf8.decode s pos).1:Nat))(b:p=pos+(Utf8.decode s pos).2):0<=c/\(c>122\/I3 c=false->FL (s.data.toList.drop pos) pos=pos)/\(c<=122->I3 c=true->p=pos+1/\FL (s.data.toList.drop pos) pos=FL (s.data.toList.drop (pos+1)) ((pos+1:Nat):Int)):=by rw[abR s pos h,FL];by_cases e:(s.get! pos).toNat<128;have d:=decode_ascii s pos h (by rw[get_at];exact e);rw[get_at]at d;rw[d]at a b;simp only at a b;subst a;refine⟨X,λh=>by grind[zL,I3,qG,DG,Mp],λg f=>⟨b,by rw[if_pos (by exact f)];rfl⟩⟩;grind[Ww,zL,I3,qG,DG,Mp]
theorem ajh(c:Int):ad U 224 [.v (.int .u8 c)] (.v (.int .u8 (I2 c))):=by
 refine st aoo aja .v ?_;repeat' first|refine cg aja (λa=>?_) λa=>?_|refine fq ?_
 all_goals refine aL.of_eq ?_;simp_all[I2,qG,DG,Mp];try omega
theorem Uz(c:Int):ad U 177 [.v (.int .u8 c)] (.v (.bool (qG c))):=by
 refine st aou aje .v ?_;repeat' first|refine cg aje (λa=>?_) λa=>?_|refine fq ?_
 all_goals refine aL.of_eq ?_;simp_all[qG];try intros;omega
theorem ahe(c:Int):ad U 243 [.v (.int .u8 c)] (.v (.bool (DG c))):=by
 refine st aov ajf .v ?_;repeat' first|refine cg ajf (λa=>?_) λa=>?_|refine fq ?_
 all_goals refine aL.of_eq ?_;simp_all[DG];try intros;omega
theorem aji(s:ByteArray):ad U 156 [.v (.string s)] (.v (.bool (PO s))):=by
 refine st aor ajb .v ?_;repeat' first|refine cg ajb (λa=>?_) λa=>?_|refine fq ?_
 all_goals refine aL.of_eq ?_;simp_all[PO]
theorem ahf(s:ByteArray):ad U 178 [.v (.string s)] (.v (.bool (PO s))):=by
 refine st aox ajg .v ?_;repeat' first|refine cg ajg (λa=>?_) λa=>?_|refine fq ?_
 all_goals refine aL.of_eq ?_;simp_all[PO]
theorem aoy{c:Int}(h1:0<=c)(h2:c<=255):IntKind.u8.wrap c=c:=by unfold IntKind.wrap;simp[IntKind.bits,IntKind.signed];omega
theorem abS(P:Program)(w:World)(t:TypeId)(c:Int):(binOp .and t (.int .u8 (I2 c)) (.int .u8 7)).run P w=.ok (.int .u8 (I2 c)) w:=by unfold I2;(repeat' split)<;>rfl
theorem abT(P:Program)(w:World)(t:TypeId)(c:Int):(binOp .and t (.int .u8 (I2 c)) (.int .u8 1)).run P w=.ok (.int .u8 (if qG c then 1 else 0)) w:=by unfold I2;(repeat' split)<;>rfl
theorem abU(c:Int):I2 c=0↔I3 c=false:=by grind[I2,I3,qG,DG,Mp]
theorem ahg(c:Int)(b:0<=c):ad U 226 [.v (.int .i32 c)] (.v (.bool (decide (c>122) ||!I3 c))):=by
 refine st aop qF .v ?_;repeat' first|refine ig qF (pl (ajh _)) λ_ _=>?_|refine ig qF (D.conv rfl) λ_ _=>?_|exact dV a|refine cg qF (λa=>?_) λa=>?_|refine lg qF λm d=>?_|refine ag qF λ_ _=>?_|refine iJ λ_ _=>?_;refine H qF ?_|refine I.str rfl (D.cat rfl rfl Z) λ_ _=>?_;refine H qF ?_|refine xG qF ?_|refine rG qF ?_|refine fq ?_
 grind[aL.of_eq];rename_i x e y f;rw[aoy b X]at e;have g:=abU c;refine ig qF (D.raw (r:=.int .u8 (I2 c)) rfl rfl aE aE λt w=>by grind[abS]) λ_ _=>?_;repeat' first|exact dV a|refine cg qF (λa=>?_) λa=>?_|refine lg qF λm d=>?_|refine ag qF λ_ _=>?_|refine iJ λ_ _=>?_;refine H qF ?_|refine I.str rfl (D.cat rfl rfl Z) λ_ _=>?_;refine H qF ?_|refine xG qF ?_|refine rG qF ?_|refine fq ?_
 all_goals refine aL.of_eq ?_;subst_vars;simp_all
theorem abV(s:ByteArray):ad U 281 [.v (.string s),.v (.func (.func 226) #[] #[]),.v (.bool true)] (iv (FL s.data.toList 0)):=by
 refine st aos ll .v ?_;repeat' first|refine og ll (D.auu rfl) ?_|exact dV a|refine cg ll (λa=>?_) λa=>?_|refine lg ll λm d=>?_|refine ag ll λ_ _=>?_|refine iJ λ_ _=>?_;refine H ll ?_|refine I.str rfl (D.cat rfl rfl Z) λ_ _=>?_;refine H ll ?_|refine xG ll ?_|refine rG ll ?_|refine fq ?_
 refine I.eH (σ:=Nat) 1 1 [] (λp=>[(1,.v (.func (.func 226) #[] #[])),(2,.v (.bool true)),(10,.pt 0 0 0 0)]) [] (λp=>[(0,.si s p)]) (λp=>p<=s.size/\FL s.data.toList 0=FL (s.data.toList.drop p) p) (λp=>s.size-p) 0 ⟨X,aE⟩ rfl cz ?_;rintro pos⟨o,e⟩;refine H ll ?_;refine I.abW rfl rfl rfl (λf j c p g h i=>?_) λf=>?_
 ·let⟨k0,k,l⟩:=ahd f h i;refine H ll ?_;repeat' first|refine bg ll (pl (ahg _ k0)) (λ_=>?_) λ_=>?_|exact dV a|refine cg ll (λa=>?_) λa=>?_|refine lg ll λm d=>?_|refine ag ll λ_ _=>?_|refine iJ λ_ _=>?_;refine H ll ?_|refine I.str rfl (D.cat rfl rfl Z) λ_ _=>?_;refine H ll ?_|refine xG ll ?_|refine rG ll ?_|refine fq ?_
  rename_i b;have b:c>122\/I3 c=false:=Z;rw[e,k b,g];exact aL.of_eq rfl;rename_i b;have b:c<=122/\I3 c=true:=Z;let⟨q,r⟩:=l b.1 b.2;refine I.bu _ [] ?_ ?_ cz;grind;omega
 ·refine H ll ?_;repeat' first|exact dV a|refine cg ll (λa=>?_) λa=>?_|refine lg ll λm d=>?_|refine ag ll λ_ _=>?_|refine iJ λ_ _=>?_;refine H ll ?_|refine I.str rfl (D.cat rfl rfl Z) λ_ _=>?_;refine H ll ?_|refine xG ll ?_|refine rG ll ?_|refine fq ?_
  all_goals rw[e,ar_ (by grind[pX])];exact aL.of_eq rfl
theorem ahh(s:ByteArray):ad U 225 [.v (.string s),.v (.func (.func 226) #[] #[])] (iv (FL s.data.toList 0)):=by
 refine st aot ajd .v ?_;repeat' first|refine ig ajd (pl (abV _)) λ_ _=>?_|refine fq ?_
 all_goals subst_vars;exact dA rfl
theorem ext1(s:ByteArray){c:UInt8}{r:List UInt8}(h:s.data.toList=c::r):(s.extract 1 s.size).data.toList=r:=by have e:s.size=s.data.toList.length:=pX s;rw[ByteArray.data_extract,Array.toList_extract,h,e,h];simp[List.extract]
theorem ajj(s:ByteArray)(hs:s.size<=1099511627776):ad U 155 [.v (.string s),.v (.int .u8 1)] (.v (.bool (Ig s.data.toList))):=by
 have e:=pX s;have A:=toL_nil;have B:=toL_eq s;have i:=@ext1 s;refine st aoq wH .v ?_;rcases b:s.data.toList with _|⟨c,a⟩;all_goals rw[b]at e;simp only[bd_,aH_]at e;repeat' first|refine ig wH (D.Wx rfl rfl (JN b)) λ_ _=>?_|refine ig wH (pl (ajh _)) λ_ _=>?_|refine ig wH (D.raw (r:=.int .u8 (if qG (c.toNat:Int) then 1 else 0)) rfl rfl aE aE λt w=>by grind[abT]) λ_ _=>?_|refine I.str rfl (D.auv (h:=(s.size:Int)) rfl rfl rfl X X X) λ_ _=>?_;refine H wH ?_|refine ig wH (pl (ahh _)) λ_ _=>?_|exact dV f|refine cg wH (λf=>?_) λf=>?_|refine lg wH λm C=>?_|refine ag wH λ_ _=>?_|refine iJ λ_ _=>?_;refine H wH ?_|refine I.str rfl (D.cat rfl rfl (by assumption)) λ_ _=>?_;refine H wH ?_|refine xG wH ?_|refine rG wH ?_|refine fq ?_
 all_goals try exfalso;simp_all;done
 all_goals try exfalso;simp_all;omega;done
 exact aO rfl;have h:¬a.length<40:=X;exact aO (by simp[Ig,h]);rename_i j k l n o p q d;have h:qG c.toNat=false:=by cases h:qG c.toNat with|false=>rfl|true=>rw[h]at d;simp at d;omega
 exact aO (by simp[Ig,h]);all_goals
  rename_i j k l n o p q d E u v F g;have h:qG c.toNat=true:=by grind[qG]
  have x:u.data.toList=a:=by rw[v];exact i b
  have y:=Uy a 0 X;rw[x]at g;have z:a.length<40:=X;refine aO ?_;simp only[Ig,h];rw[<-y,<-g];simp[z];omega
theorem Cz(s:ByteArray)(hs:s.size<=1099511627776):ad U 91 [.v (.string s)] (.v (.bool (nX s))):=by
 refine st aut g91 .v ?_;repeat' first|refine bg g91 (pl (ajj _ hs)) (λ_=>?_) λ_=>?_|refine bg g91 (pl (aji _)) (λ_=>?_) λ_=>?_|refine fq ?_
 all_goals refine aO ?_;simp_all[nX]
def O3(s:ByteArray):Bool:=s.data.toList.all zL&&decide (1<=s.size)&&decide (s.size<=40)
theorem PQ(c:UInt8):zL c=(qG c.toNat||DG c.toNat||decide (48<=(c.toNat:Int))&&decide ((c.toNat:Int)<=57)||(c.toNat:Int)==95):=rfl
theorem ahi(s:ByteArray)(hs:s.size<=1099511627776):ad U 176 [.v (.string s)] (.v (.bool (O3 s))):=by
 have f:=pX s;refine st aow wI .v ?_;refine bL 0 0 [] (λi=>[(0,.v (.string s)),(3,.v (.int .i64 i))]) [] (λ_=>[]) s.size (λk=>s.data.toList.all zL=(s.data.toList.drop k).all zL) aE λi k j o a=>?_;refine H wI ?_;by_cases p:k<s.size
 ·let⟨c,g,h⟩:=aC (l:=s.data.toList) (show k<s.data.toList.length by omega);have b:idx s.data.toList i=some c:=by rw[j];exact Uu g
  rw[h,aL_]at a;repeat' first|refine ig wI (D.Wx rfl rfl b) λ_ _=>?_|refine bg wI (pl (Uz _)) (λ_=>?_) λ_=>?_|refine bg wI (pl (ahe _)) (λ_=>?_) λ_=>?_|refine cg wI (λd=>?_) λd=>?_|refine lg wI λm n=>?_|refine ag wI λ_ _=>?_|refine xG wI ?_|refine rG wI ?_|refine fq ?_
  all_goals first
   |(refine aO ?_;have e:zL c=false:=by grind[PQ]
     rw[O3,a,e];rfl)
   |(have e:zL c=true:=by rw[PQ];clear a h f b g hs;subst_vars;simp_all<;>omega
     exact cw _ [] (k+1) Z)|omega
 ·skip;repeat' first|refine cg wI (λd=>?_) λd=>?_|refine lg wI λm n=>?_|refine xG wI ?_|refine fq ?_
  all_goals first|omega|rename_i q r;refine aO ?_;rw[O3,a,ar_ X];clear a f;simp;omega
theorem DH(s:ByteArray)(hs:s.size<=1099511627776):ad U 107 [.v (.string s)] (.v (.bool (nX s))):=by
 have g:=pX s;have d:=ahf (U:=U) s;have a:=ahi (U:=U) s hs;unfold nX Ig;rcases f:s.data.toList with _|⟨c,h⟩;all_goals rw[O3,f]at a;rw[f]at g;simp only[bd_,aH_]at g
 ·have e:(List.all [] zL&&decide (1<=s.size)&&decide (s.size<=40))=false:=Z;rw[e]at a;refine st ae8 nJ .v ?_;repeat' first|apply bh nJ a|refine bg nJ (pl d) (λ_=>?_) λ_=>?_|exact dV b|refine cg nJ (λb=>?_) λb=>?_|refine lg nJ λm k=>?_|refine ag nJ λ_ _=>?_|refine iJ λ_ _=>?_;refine H nJ ?_|refine I.str rfl (D.cat rfl rfl Z) λ_ _=>?_;refine H nJ ?_|refine xG nJ ?_|refine rG nJ ?_|refine fq ?_
  all_goals refine aO ?_;simp_all
 ·skip;refine st ae8 nJ .v ?_;repeat' first|refine bg nJ (pl a) (λ_=>?_) λ_=>?_|refine bg nJ (pl d) (λ_=>?_) λ_=>?_|refine ig nJ (D.Wx rfl rfl (JN f)) λ_ _=>?_|refine bg nJ (pl (Uz _)) (λ_=>?_) λ_=>?_|exact dV b|refine cg nJ (λb=>?_) λb=>?_|refine lg nJ λm k=>?_|refine ag nJ λ_ _=>?_|refine iJ λ_ _=>?_;refine H nJ ?_|refine I.str rfl (D.cat rfl rfl Z) λ_ _=>?_;refine H nJ ?_|refine xG nJ ?_|refine rG nJ ?_|refine fq ?_
  all_goals
   refine aO ?_;have l:qG c.toNat=true->zL c=true:=by grind[PQ]
   have i:decide (1<=s.size)=true:=Z;have j:decide (s.size<=40)=decide (h.length<40):=decide_eq_decide.2 X;clear a d hs;subst_vars;simp only[aL_,i,j,bC_]at*;clear g i j f;cases n:qG (c.toNat:Int)<;>cases o:zL c<;>cases d:h.all zL<;>cases p:decide (h.length<40)<;>simp_all
def auw:=aD func87 call87
def g87:=[1,2,0,5]
def aoz:=aD func298 call298
def ajl:=[1,2,0,5]
def auy:=aD func42 call42
def E0:=[5,4,3,2,0,1,11]
def aoA:=aD func250 call250
def u6:=[5,4,3,2,0,1,11]
def aoB:=aD func252 call252
def zM:=[5,0,4,9,1,17]
def aoC:=aD func118 call118
def ajm:=[0,2,3,10,17]
def qH(x:Tm):List Tm:=if x.k=2 then x.a else[]
mutual def dD:Tm->Nat|⟨k,i,n,a⟩=>if k=2 then 1+bF a else 1def bF:List Tm->Nat|[]=>0|x::l=>dD x+bF l end
mutual def qI:Tm->Nat|⟨k,i,n,a⟩=>if k=2 then 1+lG a else 1def lG:List Tm->Nat|[]=>0|x::l=>max (qI x) (lG l)end
theorem DI(x:Tm):dD x=1+bF (qH x):=by let⟨k,i,n,a⟩:=x;rw[dD,qH];split<;>rfl
theorem Mq(x:Tm):qI x=1+lG (qH x):=by let⟨k,i,n,a⟩:=x;rw[qI,qH];split<;>rfl
theorem uB(x:Tm):1<=dD x:=by rw[DI];omega
theorem ahj:∀x:Tm,qI x<=dD x:=by
 refine Tm.ind ?_;intro k i n a c;have key:∀l:List Tm,(∀x∈l,qI x<=dD x)->lG l<=bF l:=by intro l;induction l with|nil=>intro _;exact aj_ 0|cons x l b =>intro h;have d:=h x aE;have e:=b λy f=>h y Z;rw[lG,bF];omega
 rw[qI,dD];split;grind;grind
theorem Cb:∀(l:List Tm)(k:Nat),bF (l.drop k)<=bF l|[],k=>aE|x::l,0=>aE|x::l,k+1=>by rw[List.drop_succ_cons,bF];have:=Cb l k;omega
theorem y6:∀l:List Tm,l.length<=bF l|[]=>aj_ 0|x::l=>by have:=y6 l;have:=uB x;rw[bF,aH_];omega
theorem Mr(x:Tm):ad U 87 [tm O x] (tl O (qH x)):=by
 let⟨k,i,n,a⟩:=x;refine st auw g87 (cQ _) ?_;repeat' first|refine cg g87 (λb=>?_) λb=>?_|refine fq ?_
 rw[qH,if_pos b];exact aL.of_eq rfl;grind[qH,tl,bN,aL.wk]
theorem ajn(x:Tm):ad U 298 [tm O x] (tl O (qH x)):=by
 let⟨k,i,n,a⟩:=x;refine st aoz ajl (cQ _) ?_;repeat' first|refine cg ajl (λb=>?_) λb=>?_|refine fq ?_
 rw[qH,if_pos b];exact aL.of_eq rfl;grind[qH,tl,bN,aL.wk]
theorem ajo(l:List Int)(v:Int)(h:l.length<=1099511627776):ad U 252 [aQ O aH false l,iv v] (.v (.bool (l.contains v))):=by
 refine st aoB zM .v ?_;refine bL 0 0 [] (λi=>[(0,aQ O aH false l),(1,.v (.int .i64 v)),(5,.v (.int .i64 i))]) [] (λ_=>[]) l.length (λk=>l.contains v=(l.drop k).contains v) aE λi k c j a=>?_;refine H zM ?_;by_cases d:k<l.length
 ·let⟨x,e,f⟩:=aC d;rw[f,db_]at a;repeat' first|refine og zM (D.bw c e) ?_|refine cg zM (λb=>?_) λb=>?_|refine lg zM λm g=>?_|refine ag zM λ_ _=>?_|refine xG zM ?_|refine rG zM ?_|refine fq ?_
  all_goals first|refine I.bu _ [] ?_ ?_ cq;grind;omega|refine aO ?_;rw[a];simp;left;omega|omega
 ·skip;repeat' first|refine cg zM (λb=>?_) λb=>?_|refine lg zM λm g=>?_|refine xG zM ?_|refine fq ?_
  all_goals first|omega|rw[a,ar_ X];exact aO rfl
theorem ahk(o:Int):ad U 118 [iv o] (iv (if o=1\/o=2 then 0 else if o=11\/o=12 then 1 else if o>2/\o<11 then 2 else-1)):=by
 refine st aoC ajm .v ?_;repeat' first|refine cg ajm (λa=>?_) λa=>?_|refine fq ?_
 all_goals refine dA ?_;(repeat' split)<;>first|rfl|omega
theorem Ih(n:Nat):∀x:Tm,dD x<=n->n<=1099511627776->ad U 42 [tm O x] (iv (dD x)):=by induction n with|zero=>intro x h;have:=uB x;omega|succ n e =>
  intro x w z;have f:=DI x;have g:=y6 (qH x);let⟨A,j⟩:=au (qH x);rw[<-j]at f g;have o:ad U 87 [tm O x] (tl O A):=by grind[Mr]
  refine st auy E0 .v ?_;repeat' first|apply bh E0 o
  refine cW (τ:=Int) 1 1 [] (λp=>[(3,.v (.int .i64 p.2)),(4,tl O A),(5,.v (.int .i64 p.1))]) [] (λ_=>[]) A.length (λk p=>0<=p.2/\p.2+bF (A.drop k)=dD x) 1 ⟨aE,Z⟩ ?_;rintro i k c d C⟨q,a⟩;simp only at d q a;refine H E0 ?_;by_cases r:k<A.length
  ·let⟨y,s,t⟩:=aC r;have u:=Cb A k;rw[t,bF]at a u;have E:=uB y;repeat' first|refine og E0 (D.ind rfl rfl (cG (l:=A) d s) cH) ?_|refine ig E0 (pl (e y X X)) λ_ _=>?_|refine cg E0 (λb=>?_) λb=>?_|refine lg E0 λm v=>?_|refine ag E0 λ_ _=>?_|refine xG E0 ?_|refine fq ?_
   all_goals first|omega|refine I.bu (_,_) [] ?_ ?_ cq;grind;simp only;omega
  ·skip;repeat' first|refine cg E0 (λb=>?_) λb=>?_|refine lg E0 λm v=>?_|refine xG E0 ?_|refine fq ?_
   all_goals first|omega|rw[ar_ X,bF]at a;exact dA X
def aoD:=aD func296 call296
def ajp:=[0,2]
def aoE:=aD func249 call249
def sV:=[1,6,4,2,0,7,28,49,3,78,83,92]
def aoF:=aD func183 call183
def PR:=[1,2,0]
def aoG:=aD func119 call119
def wJ:=[4,0,3,2,8,16]
def aoH:=aD func117 call117
def PT:=[1,2,0]
def auz:=aD func55 call55
def UA:=[1,2,0,5]
def eZ(s:ByteArray):Bool:=s.toList==(⟨#[43]⟩:ByteArray).toList||s.toList==(⟨#[45]⟩:ByteArray).toList||s.toList==(⟨#[42]⟩:ByteArray).toList||s.toList==(⟨#[47]⟩:ByteArray).toList||s.toList==(⟨#[37]⟩:ByteArray).toList
def yq(n:ByteArray)(a:List Tm):Bool:=n.toList==(⟨#[]⟩:ByteArray).toList&&a.isEmpty
mutual def lH:Tm->Bool|⟨k,i,n,a⟩=>if k=0 then decide (-2147483648<=i)&&decide (i<=2147483648)&&yq n a else if k=1 then decide (0<=i)&&decide (i<=1048576)&&yq n a else if k=2 then i==0&&(eZ n&&a.length==2||nX n&&decide (a.length<=6))&&kX a else false def kX:List Tm->Bool|[]=>true|x::l=>lH x&&kX l end
def cB(x:Tm):Bool:=lH x&&decide (dD x<=200)&&decide (qI x<=20)
def nS(l:List Tm):Bool:=l.all cB&&decide (bF l<=200)
theorem se{B sz fz:Nat}{row:List AV}{ex:Bool}(h:∀a∈row,Pure a):jm B (.arr sz [row] fz ex):=λr b a c=>by cases ae_.1 b;exact(h a c).bm
theorem abX(n:Nat):∀x:Tm,dD x<=n->n<=1099511627776->ad U 250 [tm O x] (iv (qI x)):=by induction n with|zero=>intro x h;have:=uB x;omega|succ n f =>
  intro x B C;have g:=DI x;have j:=Mq x;have o:=y6 (qH x);have q:=ahj x;let⟨A,r⟩:=au (qH x);rw[<-r]at g o j;have s:ad U 87 [tm O x] (tl O A):=by grind[Mr]
  refine st aoA u6 .v ?_;repeat' first|apply bh u6 s
  refine cW (τ:=Int) 1 1 [] (λp=>[(3,.v (.int .i64 p.2)),(4,tl O A),(5,.v (.int .i64 p.1))]) [] (λ_=>[]) A.length (λk p=>0<=p.2/\max p.2 (lG (A.drop k):Int)=lG A) 0 ⟨aE,aE⟩ ?_;rintro i k c d F⟨t,a⟩;simp only at d t a;refine H u6 ?_;by_cases u:k<A.length
  ·let⟨y,v,e⟩:=aC u;have w:=Cb A k;rw[e,lG]at a;rw[e,bF]at w;have G:=uB y;repeat' first|refine og u6 (D.ind rfl rfl (cG (l:=A) d v) cH) ?_|refine ig u6 (pl (f y X X)) λ_ _=>?_|refine ig u6 (D.max rfl rfl) λ_ _=>?_|refine cg u6 (λb=>?_) λb=>?_|refine lg u6 λm z=>?_|refine ag u6 λ_ _=>?_|refine xG u6 ?_|refine fq ?_
   all_goals first|omega|refine I.bu (_,_) [] ?_ ?_ cq;exact⟨k+1,Z,X,Z,Z⟩;simp only;omega
  ·skip;repeat' first|refine cg u6 (λb=>?_) λb=>?_|refine lg u6 λm z=>?_|refine ag u6 λ_ _=>?_|refine xG u6 ?_|refine fq ?_
   all_goals first|omega|rw[ar_ X,lG]at a;exact dA X
theorem UB(s:ByteArray):ad U 296 [.v (.string s)] (.v (.bool (eZ s))):=by
 refine st aoD ajp .v ?_;repeat' first|refine cg ajp (λa=>?_) λa=>?_|refine fq ?_
 all_goals refine aL.of_eq ?_;simp_all[eZ]
theorem ajq(x:Tm)(d:x.ok):ad U 249 [tm O x] (.v (.bool (lH x))):=by
 revert d;refine Tm.ind (p:=λx=>x.ok->ad U 249 [tm O x] (.v (.bool (lH x)))) ?_ x;intro k i n a s d;let⟨v,t,h⟩:=d.out;dsimp only at v t h;rw[lH];have e:a.isEmpty=decide ((a.length:Int)=0):=by cases a with|nil=>rfl|cons x l=>simp;omega
 rw[yq,e];have f:(a.length==2)=decide ((a.length:Int)=2):=Z;have g:decide (a.length<=6)=decide ((a.length:Int)<=6):=decide_eq_decide.2 X;rw[f,g];let⟨V,b⟩:=au (lH ⟨k,i,n,a⟩);rw[lH,yq,e,f,g]at b;rw[<-b];refine st aoE sV .v ?_;repeat' first|refine bg sV (pl (UB _)) (λ_=>?_) λ_=>?_|refine bg sV (pl (DH _ t)) (λ_=>?_) λ_=>?_|refine cg sV (λc=>?_) λc=>?_|refine lg sV λm u=>?_|refine fq ?_
 all_goals try refine aO ?_;rw[b];clear s d h e f g b;subst_vars;simp_all<;>(intros;omega)
 all_goals
  have C:V=kX a:=Z;clear b e f g;refine bL 1 1 [] (λj=>[(1,.pt 0 4 0 0),(4,.v (.int .i64 j))]) [] (λ_=>[(0,.arr 4 [jG O ⟨k,i,n,a⟩] 0 true)]) a.length (λq=>V=kX (a.drop q)) Z λj q w E o=>?_;refine H sV ?_;by_cases z:q<a.length
  ·let⟨y,r,A⟩:=aC z;rw[A,kX]at o;have B:=s y (aZ r) (h.mem y (aZ r));repeat' first|refine og sV (D.ind rfl rfl (cG (l:=a) w r) cH) ?_|refine bg sV (pl B) (λ_=>?_) λ_=>?_|refine cg sV (λc=>?_) λc=>?_|refine lg sV λm u=>?_|refine ag sV λ_ _=>?_|refine xG sV ?_|refine rG sV ?_|refine fq ?_
   all_goals first|refine I.bu _ [] ?_ ?_ cz;grind;omega|refine aO ?_;rw[o];simp_all;done
  ·skip;repeat' first|refine cg sV (λc=>?_) λc=>?_|refine lg sV λm u=>?_|refine xG sV ?_|refine fq ?_
   all_goals first|omega|rw[o,ar_ X,kX];exact aO rfl
theorem Ny:∀{l:List Tm},∀x∈l,dD x<=bF l|[],x,h=>Z|y::l,x,h=>by rw[bF];rcases al_.1 h with rfl|h;omega;have:=Ny x h;omega
def pM(l:List Tm):Prop:=dO l/\bF l<=1099511627776
theorem pM.len{l:List Tm}(h:pM l):l.length<=1099511627776:=aD_ (y6 l) h.2
def fw(x:At):Bool:=nX x.n&&decide (x.a.length<=6)&&nS x.a
def arity(o:Int):Int:=if o=1\/o=2 then 0 else if o=11\/o=12 then 1 else if o>2/\o<11 then 2 else-1
def dw(x:Gl):Bool:=if x.op=0 then fw ⟨x.n,x.a⟩ else x.n.toList==(⟨#[]⟩:ByteArray).toList&&decide (arity x.op=x.a.length)&&nS x.a
theorem DJ(x:Tm)(a:x.ok)(hs:dD x<=1099511627776):ad U 183 [tm O x] (.v (.bool (cB x))):=by
 refine st aoF PR .v ?_;repeat' first|refine bg PR (pl (ajq (O:=O) x a)) (λ_=>?_) λ_=>?_|refine ig PR (pl (Ih (O:=O) _ x (aj_ _) hs)) λ_ _=>?_|refine ig PR (pl (abX (O:=O) _ x (aj_ _) hs)) λ_ _=>?_|refine cg PR (λb=>?_) λb=>?_|refine fq ?_
 all_goals refine aO ?_;subst_vars;clear hs a;simp_all[cB]<;>(intros;omega)
theorem I4(a:List Tm)(g:pM a):ad U 119 [tl O a] (.v (.bool (nS a))):=by
 have u:=g.len;let⟨o,v⟩:=g;refine st aoG wJ .v ?_;refine cW (τ:=Int) 0 0 [] (λp=>[(0,tl O a),(3,.v (.int .i64 p.2)),(4,.v (.int .i64 p.1))]) [] (λ_=>[]) a.length (λk p=>0<=p.2/\p.2+bF (a.drop k)=bF a/\a.all cB=(a.drop k).all cB) 0 ⟨aE,aE,aE⟩ ?_;rintro i k c h x⟨q,b,d⟩;simp only at h q b;refine H wJ ?_;by_cases r:k<a.length
 ·let⟨y,e,j⟩:=aC r;rw[j,bF]at b;rw[j,aL_]at d;have n:=Ny y (aZ e);have s:=DJ (U:=U) (O:=O) y (o.mem y (aZ e)) X;have t:=Ih (U:=U) (O:=O) _ y (aj_ _) X;repeat' first|refine og wJ (D.ind rfl rfl (cG (l:=a) h e) cH) ?_|refine bg wJ (pl s) (λ_=>?_) λ_=>?_|refine ig wJ (pl t) λ_ _=>?_|refine cg wJ (λf=>?_) λf=>?_|refine lg wJ λm n=>?_|refine ag wJ λ_ _=>?_|refine xG wJ ?_|refine rG wJ ?_|refine fq ?_
  all_goals first|refine I.bu (_,_) [] ?_ ?_ cq;grind;simp only;omega|refine aO ?_;rw[nS,d];simp_all;done
 ·skip;repeat' first|refine cg wJ (λf=>?_) λf=>?_|refine lg wJ λm n=>?_|refine xG wJ ?_|refine fq ?_
  all_goals first|omega|rw[ar_ X]at b d;rw[bF]at b;refine aO ?_;rw[nS,d];simp;omega
theorem JO(x:At)(b:pM x.a)(c:x.n.size<=1099511627776):ad U 117 [at_ O x] (.v (.bool (fw x))):=by
 let⟨n,a⟩:=x;dsimp only at b c;have d:decide (a.length<=6)=decide ((a.length:Int)<=6):=decide_eq_decide.2 X;rw[fw,d];refine st aoH PT .v ?_;repeat' first|refine bg PT (pl (DH _ c)) (λ_=>?_) λ_=>?_|refine bg PT (pl (I4 _ b)) (λ_=>?_) λ_=>?_|refine cg PT (λe=>?_) λe=>?_|refine lg PT λm f=>?_|refine fq ?_
 all_goals refine aO ?_;subst_vars;simp_all<;>(intros;omega)
def ajr(o:Int):ad U 118 [iv o] (iv (arity o)):=ahk o
theorem zN(x:Gl)(b:pM x.a)(c:x.n.size<=1099511627776):ad U 55 [gl O x] (.v (.bool (dw x))):=by
 let⟨o,n,a⟩:=x;dsimp only at b c;rw[dw];refine st auz UA .v ?_;repeat' first|refine bg UA (pl (JO (O:=O) ⟨n,a⟩ b c)) (λ_=>?_) λ_=>?_|refine bg UA (pl (I4 _ b)) (λ_=>?_) λ_=>?_|refine ig UA (pl (ajr _)) λ_ _=>?_|refine cg UA (λd=>?_) λd=>?_|refine lg UA λm e=>?_|refine fq ?_
 all_goals refine aO ?_;subst_vars;simp_all<;>(intros;omega)
end
abbrev KN:=List (Int×Int×Int)
noncomputable def tO(f:Nat->List Nat->KN->Option (Option (Int×Int)×List Nat×KN)):List Nat->List Nat->KN->Int×Int->Option (Option (Int×Int)×List Nat×KN)|[],up,a,q=>some (some q,up,a)|x::l,up,a,q=>match lI up x with|none=>none|some (u,r)=>match f r u a with|none=>none|some (none,b,c)=>some (none,b,c)|some (some p,b,c)=>tO f l b c (min (q.1+p.1) 201,min (max q.2 (p.2+1)) 21)
noncomputable def oU(N:aW)(sh:List (Int×Int)):Nat->List (Int×Unit)->Nat->List Nat->KN->Option (Option (Int×Int)×List Nat×KN)|0,_,_,_,_=>none|m+1,busy,r,up,a=>match aN a (r:Int) with|some q=>some (some q,up,a)|none=>match aN busy (r:Int) with|some _=>some (none,up,a)|none=>match aN sh (r:Int) with|none=>some (some (1,1),up,iA a r (1,1))|some k=>if 0<=k then match N[k.toNat]? with|none=>none|some (_,l)=>match tO (oU N sh m (iA busy r ())) l up a (1,1) with|none=>none|some (none,u,b)=>some (none,u,b)|some (some q,u,b)=>some (some q,u,iA b r q) else none
mutual def I5:Tm->Nat|⟨k,i,n,a⟩=>zO a+1def zO:List Tm->Nat|[]=>0|x::l=>max (I5 x) (zO l)end
def qJ(t:Tm):Int×Int:=(min (cL t:Int) 201,min (I5 t:Int) 21)
def iK(N:aW)(c:Nat->Nat)(sh:Nat->Option Nat):Nat->Nat->Prop|0,_=>False|m+1,C=>∀s,sh C=some s->∀j∈ks N s,iK N c sh m (c j)
section
variable{sh:Nat->Option Nat}
def iK.succ:∀{m C:Nat},iK N c sh m C->iK N c sh (m+1) C|0,_,h=>h.elim|m+1,C,h=>λs a j b=>(h s a j b).succ
theorem iK.le{m a C:Nat}(h:iK N c sh m C)(b:m<=a):iK N c sh a C:=by induction b with|refl=>exact h|step _ d=>exact d.succ
theorem A8:∀{m a C:Nat},iK N c sh m C->m<=a->TF N c sh lo a C=TF N c sh lo m C|0,_,_,h,_=>h.elim|m+1,0,_,_,h=>X|m+1,a+1,C,h,d=>by rw[TF,TF];cases e:sh C with|none=>rfl|some s =>simp only[Tm.mk.injEq,true_and];exact aQ_ λj b=>A8 (h s e j b) X
theorem PU{p:Nat->Prop}:∀(n:Nat),p n->∃m,p m/\∀k,k<m->¬p k:=by intro n;induction n using Nat.strongRecOn with|ind n a =>intro h;by_cases b:∃k,k<n/\p k;grind;grind
end
def tP(busy:List (Int×Unit)):Nat->Nat|0=>0|n+1=>tP busy n+if aN busy (n:Int)=none then 1 else 0
theorem PV{b b':List (Int×Unit)}(h:∀i,aN b' i=none->aN b i=none):∀n,tP b' n<=tP b n|0=>aj_ _|n+1=>by have:=PV h n;rw[tP,tP];by_cases e:aN b' (n:Int)=none;grind;grind
theorem JP{b b':List (Int×Unit)}(h:∀i,aN b' i=none->aN b i=none){r:Nat}(a:aN b (r:Int)=none)(c:aN b' (r:Int)≠none):∀n,r<n->tP b' n<tP b n|0,d=>X|n+1,d=>by rw[tP,tP];by_cases e:r=n;subst e;have:=PV h r;rw[if_pos a,if_neg c];omega;have:=JP h a c n X;by_cases e:aN b' (n:Int)=none;grind;grind
theorem Nz(b:List (Int×Unit)):∀n,tP b n<=n|0=>aj_ _|n+1=>by have:=Nz b n;rw[tP];split<;>omega
section
variable{sh:List (Int×Int)}
def FP(N:aW)(c:Nat->Nat)(sh:List (Int×Int))(lo:Nat->Int)(kn:KN):Prop:=∀(C:Nat) q,aN kn (C:Int)=some q->∃m,iK N c (dx sh) m C/\q=qJ (TF N c (dx sh) lo m C)
structure Ms(N:aW)(c:Nat->Nat)(sh:List (Int×Int)):Prop where
 pos:∀C i,aN sh C=some i->0<=i
 at_:∀C,C<N.length->c C=C->∀s,dx sh C=some s->s<N.length/\c s=C/\(tn N s).k≠1kid:∀i,i<N.length->∀j∈ks N i,j<N.length
def RkC(N:aW)(c:Nat->Nat)(sh:List (Int×Int))(a:Nat->Nat):Prop:=∀C,C<N.length->c C=C->∀s,dx sh C=some s->∀j∈ks N s,a (c j)<a C
theorem PW(l:List Tm)(x:Tm):bC (l++[x])=bC l+cL x:=by induction l with|nil=>simp[bC]|cons y l a=>rw[aX_,bC,bC,a];omega
theorem UC(k i:Int)(n:ByteArray)(a:List Tm):qJ ⟨k,i,n,a⟩=(min (1+bC a:Int) 201,min (max 1 (zO a+1:Int)) 21):=by grind[qJ,cL,I5]
theorem ahl(P:Ms N c sh):∀(d:Nat)(busy:List (Int×Unit))(r:Nat)(up:List Nat)(kn:KN),tP busy N.length<=d->UF up c h->up.length=N.length->r<N.length->c r=r->FP N c sh lo kn ->∃res y f,oU N sh (d+1) busy r up kn=some (res,y,f)/\UF y c h/\y.length=N.length/\FP N c sh lo f/\(∀C q,aN kn C=some q->aN f C=some q)/\(∀q,res=some q->aN f (r:Int)=some q) /\(res=none->∀a,RkC N c sh a->∃b:Nat,b<N.length/\aN busy (b:Int)≠none/\a b<=a r):=by intro d;induction d with
 |zero =>intro busy r up kn hd g u z Q o;rw[oU];cases R:aN kn (r:Int) with|some q=>exact⟨some q,up,kn,rfl,g,u,o,λ_ _ h=>h,λp t=>Z,λh=>Z⟩|none =>cases F:aN busy (r:Int) with|some _=>exact⟨none,up,kn,rfl,g,u,o,λ_ _ h=>h,λp t=>Z,λ_ a _=>⟨r,z,Z,aj_ _⟩⟩|none =>exfalso;have:=JP (b:=busy) (b':=iA busy (r:Int) ()) (r:=r) λi v=>by grind[dm] F (by grind[dm]) N.length z;omega
 |succ d ih =>intro busy r up kn hd g u z Q o;rw[oU];cases R:aN kn (r:Int) with|some q=>exact⟨some q,up,kn,rfl,g,u,o,λ_ _ h=>h,λp t=>Z,λh=>Z⟩|none =>cases F:aN busy (r:Int) with|some _=>exact⟨none,up,kn,rfl,g,u,o,λ_ _ h=>h,λp t=>Z,λ_ a _=>⟨r,z,Z,aj_ _⟩⟩|none =>
    have G:=JP (b:=busy) (b':=iA busy (r:Int) ()) (r:=r) λi v=>by grind[dm] F (by grind[dm]) N.length z;have YJ:∀{f:KN}{q:Int×Int}{m:Nat},FP N c sh lo f->iK N c (dx sh) m r->q=qJ (TF N c (dx sh) lo m r)->FP N c sh lo (iA f r q):=by intro f q m S hW n C p t;rw[dm]at t;split at t;rename_i e;have e:r=C:=X;subst e;cases oJ_ t;exact⟨m,hW,n⟩;exact S C p t
    have PX:∀{f:KN}{q:Int×Int},(∀C p,aN kn C=some p->aN f C=some p)->∀C p,aN kn C=some p->aN (iA f r q) C=some p:=by grind[dm]
    cases e3:aN sh (r:Int) with|none =>
     have f3:dx sh r=none:=by grind[dx]
     refine⟨some (1,1),up,_,rfl,g,u,YJ (m:=1) o (λs hs=>Z) ?_,PX λ_ _ h=>h,λq n=>by grind[dm],λh=>by cases h⟩;rw[TF,f3];simp only[qJ,vr,cL,bC,I5,zO];rfl|some k =>
     have f3:dx sh r=some k.toNat:=by grind[dx]
     let⟨s1,s2,s3⟩:=P.at_ r z Q _ f3;simp only[if_pos (P.pos _ _ e3),zp s1];have key:∀(l:List Nat)(up:List Nat)(kn:KN)(A B:Int),1<=A->1<=B->(∀j∈l,j<N.length)->UF up c h->up.length=N.length->FP N c sh lo kn ->∃res y f,tO (oU N sh (d+1) (iA busy r ())) l up kn (min A 201,min B 21)=some (res,y,f)/\UF y c h/\y.length=N.length/\FP N c sh lo f/\(∀C q,aN kn C=some q->aN f C=some q) /\(∀q,res=some q->∃M,(∀j∈l,iK N c (dx sh) M (c j))/\q=(min (A+bC (l.map λj=>TF N c (dx sh) lo M (c j))) 201,min (max B (zO (l.map λj=>TF N c (dx sh) lo M (c j))+1)) 21)) /\(res=none->∀a,RkC N c sh a->(∀j∈l,a (c j)<a r)->∃b:Nat,b<N.length/\aN busy (b:Int)≠none/\a b<=a r):=by intro l;induction l with|nil =>intro up kn A B hA hB _ g u o;refine⟨_,up,kn,by rw[tO],g,u,o,λ_ _ h=>h,λq n=>⟨0,λj w=>Z,?_⟩,λh=>by cases h⟩;rw[<-oJ_ n];simp[bC,zO];omega|cons j l T =>
       intro up kn A B hA hB w g u o;have NC:=w j aE;let⟨J,r1,I6,l1⟩:=g.lI (k:=j) X;have cj:c j<N.length:=by have:=(g.rt j X).2;omega
       let⟨res,u2,PY,m1,A9,l2,V,KP,W,abY⟩:=ih (iA busy r ()) (c j) J kn X I6 X cj (g.cc X) o;rw[tO,r1];simp only[m1];cases res with|none =>refine⟨none,u2,PY,rfl,A9,l2,V,KP,λq n=>Z,λ_ a E G=>?_⟩;let⟨b,b1,b2,b3⟩:=abY rfl a E;have h4:=G j aE;refine⟨b,b1,λe=>b2 ?_,X⟩;rw[dm,if_neg];grind;intro e5;have e5:r=b:=X;rw[e5]at h4;omega|some p =>
        let⟨x,U,t⟩:=V _ _ (W p rfl);have tj:(min (min A 201+p.1) 201,min (max (min B 21) (p.2+1)) 21)=(min (A+cL (TF N c (dx sh) lo x (c j))) 201,min (max B (I5 (TF N c (dx sh) lo x (c j))+1)) 21):=by rw[t];simp only[qJ,pI_];omega
        simp only[tj];let⟨res,u3,CA,K,L,k3,k4,k5,k6,k7⟩:=T u2 PY (A+cL (TF N c (dx sh) lo x (c j))) (max B (I5 (TF N c (dx sh) lo x (c j))+1)) X X (λi v=>w i Z) A9 l2 V;refine⟨res,u3,CA,K,L,k3,k4,λC q n=>k5 C q (KP C q n),λq n=>?_,λe a E G=>k7 e a E λi v=>G i Z⟩;let⟨M,hM,n⟩:=k6 q n;have R:TF N c (dx sh) lo (max M x) (c j)=TF N c (dx sh) lo x (c j):=A8 U (cl_ _ _);have F:(l.map λj=>TF N c (dx sh) lo (max M x) (c j))=l.map λj=>TF N c (dx sh) lo M (c j):=aQ_ λi v=>A8 (hM i v) (cm_ _ _);refine⟨max M x,λi v=>?_,?_⟩;rcases al_.1 v with rfl|v;exact U.le (cl_ _ _);exact(hM i v).le (cm_ _ _);rw[n,aK_,R,F,bC,zO];congr 1<;>omega
     let⟨res,J,sM,K,L,k3,k4,k5,k6,k7⟩:=key (ks N k.toNat) up kn 1 1 X X (λj w=>P.kid _ s1 j w) g u o;have e0:((min 1 201,min 1 21):Int×Int)=(1,1):=rfl;rw[e0]at K;rw[K];cases res with|none=>exact⟨none,J,sM,rfl,L,k3,k4,k5,λq n=>Z,λ_ a E=>k7 rfl a E λj w=>E r z Q _ f3 j w⟩|some q =>let⟨M,hM,n⟩:=k6 q rfl;refine⟨some q,J,_,rfl,L,k3,YJ (m:=M+1) k4 (λs hs j w=>?_) ?_,PX k5,λp t=>by grind[dm],λh=>Z⟩;grind;grind[TF,UC]
end
noncomputable def A_(N:aW)(sh:List (Int×Int)):List Nat->List Nat->KN->Option (Bool×List Nat×KN)|[],up,a=>some (true,up,a)|k::l,up,a=>match lI up k with|none=>none|some (u,r)=>match oU N sh (N.length+1) [] r u a with|none=>none|some (none,b,c)=>some (false,b,c)|some (some _,b,c)=>A_ N sh l b c
section
variable{sh:List (Int×Int)}
theorem PZ(r:Ms N c sh):∀(l:List Nat)(up:List Nat)(kn:KN),(∀j∈l,j<N.length)->UF up c h->up.length=N.length->FP N c sh lo kn ->∃b f d,A_ N sh l up kn=some (b,f,d)/\UF f c h/\f.length=N.length/\FP N c sh lo d/\(∀C q,aN kn C=some q->aN d C=some q)/\(b=true->∀j∈l,∃q,aN d (c j:Int)=some q)/\(b=false->¬∃g,RkC N c sh g)
 |[],up,kn,_,a,s,m=>⟨true,up,kn,rfl,a,s,m,λ_ _ h=>h,λ_ j n=>Z,λh=>Z⟩|k::l,up,kn,n,a,s,m=>by
  have S:=n k aE;let⟨z,A,B,T⟩:=a.lI (k:=k) X;have E:c k<N.length:=by have:=(a.rt k X).2;omega
  let⟨res,t,u,F,v,w,x,y,G,o⟩:=ahl r N.length [] (c k) z kn (Nz _ _) B X E (a.cc X) m;rw[A_,A];simp only[F];cases res with|none =>refine⟨false,t,u,rfl,v,w,x,y,λh=>Z,λ_ ⟨g,J⟩=>?_⟩;let⟨b,_,K,_⟩:=o rfl g J;exact K rfl|some q =>let⟨b,L,M,P,Q,k3,k4,k5,k6,k7⟩:=PZ r l t u (λi p=>n i Z) v w x;refine⟨b,L,M,P,Q,k3,k4,λC q R=>k5 C q (y C q R),λe i p=>?_,k7⟩;rcases al_.1 p with rfl|p;grind;grind
end
noncomputable def Cc(f:Nat->List Nat->Option (Tm×List Nat)):List Nat->List Nat->Option (List Tm×List Nat)|[],up=>some ([],up)|x::l,up=>match lI up x with|none=>none|some (u,r)=>match f r u with|none=>none|some (t,b)=>match Cc f l b with|none=>none|some (c,a)=>some (t::c,a)
noncomputable def Cd(N:aW)(sh ls:List (Int×Int)):Nat->Nat->List Nat->Option (Tm×List Nat)|0,_,_=>none|m+1,r,up=>match aN sh (r:Int) with|none=>some (vr ((aN ls (r:Int)).getD 0),up)|some k=>if 0<=k then match N[k.toNat]? with|none=>none|some (t,l)=>if l.length=t.a.length then if t.a.length=0 then some (t,up) else match Cc (Cd N sh ls m) l up with|none=>none|some (a,u)=>some (⟨t.k,t.i,t.n,a⟩,u) else none else none
noncomputable def zQ(N:aW)(sh ls vs:List (Int×Int))(kn:KN)(m:Nat):List Int->List Nat->List Bd->Option (Option (List Bd))|[],_,a=>some (some a)|v::l,up,a=>match aN vs v with|none=>none|some k=>if 0<=k then match lI up k.toNat with|none=>none|some (u,r)=>if aN sh (r:Int)=none/\(aN ls (r:Int)).getD 0=v then zQ N sh ls vs kn m l u a else if 200<((aN kn (r:Int)).getD (0,0)).1\/20<((aN kn (r:Int)).getD (0,0)).2 then some none else match Cd N sh ls m r u with|none=>none|some (t,b)=>zQ N sh ls vs kn m l b (a++[⟨v,t⟩]) else none
section
variable{sh:List (Int×Int)}
def Ba(ls:List (Int×Int))(C:Nat):Int:=(aN ls (C:Int)).getD 0
theorem YK(g:gm N)(p:Ms N c sh):∀(m r:Nat)(up:List Nat),iK N c (dx sh) m r->UF up c h->up.length=N.length->r<N.length->c r=r ->∃e,Cd N sh ls m r up=some (TF N c (dx sh) (Ba ls) m r,e)/\UF e c h/\e.length=N.length|0,_,_,h,_,_,_,_=>h.elim|m+1,r,up,y,d,f,z,A=>by rw[Cd,TF];cases B:aN sh (r:Int) with
  |none =>
   have f3:dx sh r=none:=by grind[dx]
   rw[f3];exact⟨up,rfl,d,f⟩|some k =>
   have f3:dx sh r=some k.toNat:=by grind[dx]
   let⟨q,S,T⟩:=p.at_ r z A _ f3;rw[f3];simp only[if_pos (p.pos _ _ B),zp q,if_pos (nY g q)];by_cases s:(tn N k.toNat).a.length=0;rw[if_pos s];have C:ks N k.toNat=[]:=bT_.1 (by grind[nY]);rw[C];refine⟨up,?_,d,f⟩;have v:(tn N k.toNat).a=[]:=bT_.1 s;congr 2;generalize tn N k.toNat=t at v;let⟨a,b,n,l⟩:=t;simp only at v;subst v;rfl;rw[if_neg s];have key:∀(l:List Nat)(up:List Nat),(∀j∈l,j<N.length/\iK N c (dx sh) m (c j))->UF up c h->up.length=N.length->∃e,Cc (Cd N sh ls m) l up=some (l.map λj=>TF N c (dx sh) (Ba ls) m (c j),e)/\UF e c h/\e.length=N.length:=by intro l;induction l with|nil=>intro up _ d f;exact⟨up,rfl,d,f⟩|cons j l w =>
     intro up o d f;let⟨V,E⟩:=o j aE;let⟨F,W,G,l1⟩:=d.lI (k:=j) X;have J:c j<N.length:=by have:=(d.rt j X).2;omega
     let⟨K,m2,L,M⟩:=YK g p m (c j) F E G X J (d.cc X);let⟨P,m3,x,Q⟩:=w K (λi hi=>o i Z) L M;exact⟨P,by grind[Cc],x,Q⟩
   let⟨u,k1,R,k3⟩:=key (ks N k.toNat) up (λj o=>⟨p.kid _ q j o,y _ f3 j o⟩) d f;exact⟨u,Z,R,k3⟩
def iY(t:Tm):Bool:=decide (200<cL t\/20<I5 t)
theorem UD{t:Tm}:200<(qJ t).1\/20<(qJ t).2↔iY t=true:=by grind[qJ,iY]
end
end Go.Proofs.YtbdcmpknicjopaaGreat
