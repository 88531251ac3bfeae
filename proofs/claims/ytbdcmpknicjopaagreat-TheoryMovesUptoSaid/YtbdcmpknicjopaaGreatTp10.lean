import Derived.Laws.RangeString
import Derived.Laws.Strings
import Derived.Test.YtbdcmpknicjopaaGreatTp9
namespace Go.Proofs.YtbdcmpknicjopaaGreat
set_option linter.all false
set_option maxRecDepth 100000
open Go.RowKit Proofs.Tryz
variable{O:Hd}{Y:World}
section
attribute [local irreducible] ao aF D H
def amM:=aC func224 call224
def ahL:List Nat:=[0,10,2,3,19]
def amN:=aC func226 call226
def qx:List Nat:=[0,2]
def amO:=aC func155 call155
def vZ:List Nat:=[0,4,1,19]
def amP:=aC func156 call156
def ahM:List Nat:=[3,4,2,0]
def asm:=aC func91 call91
def g91:List Nat:=[0,2]
def amQ:=aC func281 call281
def kY:List Nat:=[11,6,0,10,12,1,8,2,19,7]
def amR:=aC func225 call225
def ahO:List Nat:=[4,0,1]
def amS:=aC func177 call177
def ahP:List Nat:=[0,2]
def amT:=aC func243 call243
def ahQ:List Nat:=[0,2]
def amU:=aC func176 call176
def v7:List Nat:=[0,3,2,7,39]
def amV:=aC func178 call178
def ahR:List Nat:=[0,2]
def adK:=aC func107 call107
def nE:List Nat:=[0,2]
def qy(c:Int):Bool:=decide (97<=c)&&decide (c<=122)
def C_(c:Int):Bool:=decide (65<=c)&&decide (c<=90)
def Lq(c:Int):Bool:=decide (48<=c)&&decide (c<=57)
def H6(c:Int):Int:=if qy c then 1 else if C_ c||c==95 then 2 else if Lq c then 4 else 0
def H7(c:Int):Bool:=qy c||C_ c||Lq c||c==95
def y_(c:UInt8):Bool:=H7 c.toNat
def OU(s:ByteArray):Bool:=s.toList==(⟨#[99,111,110,115,116,114,97,105,110,116]⟩:ByteArray).toList||s.toList==(⟨#[116,114,117,101]⟩:ByteArray).toList||s.toList==(⟨#[102,97,105,108]⟩:ByteArray).toList||s.toList==(⟨#[105,115]⟩:ByteArray).toList||s.toList==(⟨#[105,110,116]⟩:ByteArray).toList||s.toList==(⟨#[103,114,111,117,110,100]⟩:ByteArray).toList
def Ho(l:List UInt8):Bool:=match l with|[]=>false|c::r=>decide (r.length<40)&&qy c.toNat&&r.all y_
def nR(s:ByteArray):Bool:=Ho s.data.toList &&!OU s
def E8:List UInt8->Int->Int|[],_=>-1|c::l,p=>if y_ c then E8 l (p+1) else p
theorem Tq:∀(l:List UInt8)(p:Int),0<=p->decide (E8 l p<0)=l.all y_|[],p,h=>rfl|c::l,p,h=>by simp only[E8,aJ_];split;rename_i a;rw[Tq l _ Z,a];rfl;grind
theorem toL_eq(s:ByteArray):s.toList=s.data.toList:=ByteArray.toList_eq s
theorem toL_nil:ByteArray.toList ⟨#[]⟩=[]:=by rw[toL_eq]
theorem IU{l:List UInt8}{c:UInt8}{r:List UInt8}(h:l=c::r):idx l 0=some c:=by subst h;rfl
theorem pK(s:ByteArray):s.size=s.data.toList.length:=(bo_).symm
theorem aaF(s:ByteArray)(pos:Nat)(h:pos<s.size):s.data.toList.drop pos=s.get! pos::s.data.toList.drop (pos+1):=by
 have a:pos<s.data.toList.length:=by grind[pK]
 rw[bM_ a];congr 1;have b:pos<s.data.size:=h;simp only[Array.getElem_toList,ByteArray.get!];exact(getElem!_pos s.data pos b).symm
theorem get_at(s:ByteArray)(pos:Nat)(h:pos<s.size):s[pos]'h=s.get! pos:=by have a:pos<s.data.size:=h;show s.data[pos]'a=s.data[pos]!;exact(getElem!_pos s.data pos a).symm
theorem Vu(s:ByteArray)(i:Nat)(h:128<=(s.get! i).toNat):128<=(Utf8.decode s i).1:=by
 unfold Utf8.decode;simp only[bz_];repeat' split
 all_goals first|omega|simp_all[Utf8.runeError]<;>omega
theorem afL{s:ByteArray}{pos p:Nat}{c:Int}(h:pos<s.size)(a:c=((Utf8.decode s pos).1:Nat))(b:p=pos+(Utf8.decode s pos).2):0<=c/\(c>122\/H7 c=false->E8 (s.data.toList.drop pos) pos=pos)/\(c<=122->H7 c=true->p=pos+1/\E8 (s.data.toList.drop pos) pos=E8 (s.data.toList.drop (pos+1)) ((pos+1:Nat):Int)):=by rw[aaF s pos h,E8];by_cases e:(s.get! pos).toNat<128;have d:=decode_ascii s pos h (by rw[get_at];exact e);rw[get_at]at d;rw[d]at a b;simp only at a b;subst a;refine⟨Z,λh=>by grind[y_,H7,qy,C_,Lq],λg f=>⟨b,by rw[if_pos (by exact f)];rfl⟩⟩;grind[Vu,y_,H7,qy,C_,Lq]
theorem ahS(c:Int):ab Y 224 [.v (.int .u8 c)] (.v (.int .u8 (H6 c))):=by
 refine st amM ahL .v ?_;repeat' first|refine cg ahL (λa=>?_) λa=>?_|refine fq ?_
 all_goals refine aI.of_eq ?_;simp_all[H6,qy,C_,Lq];try omega
theorem Ts(c:Int):ab Y 177 [.v (.int .u8 c)] (.v (.bool (qy c))):=by
 refine st amS ahP .v ?_;repeat' first|refine cg ahP (λa=>?_) λa=>?_|refine fq ?_
 all_goals refine aI.of_eq ?_;simp_all[qy];try intros;omega
theorem afM(c:Int):ab Y 243 [.v (.int .u8 c)] (.v (.bool (C_ c))):=by
 refine st amT ahQ .v ?_;repeat' first|refine cg ahQ (λa=>?_) λa=>?_|refine fq ?_
 all_goals refine aI.of_eq ?_;simp_all[C_];try intros;omega
theorem ahT(s:ByteArray):ab Y 156 [.v (.string s)] (.v (.bool (OU s))):=by
 refine st amP ahM .v ?_;repeat' first|refine cg ahM (λa=>?_) λa=>?_|refine fq ?_
 all_goals refine aI.of_eq ?_;simp_all[OU]
theorem afN(s:ByteArray):ab Y 178 [.v (.string s)] (.v (.bool (OU s))):=by
 refine st amV ahR .v ?_;repeat' first|refine cg ahR (λa=>?_) λa=>?_|refine fq ?_
 all_goals refine aI.of_eq ?_;simp_all[OU]
theorem amW{c:Int}(h1:0<=c)(h2:c<=255):IntKind.u8.wrap c=c:=by unfold IntKind.wrap;simp[IntKind.bits,IntKind.signed];omega
theorem aaG(P:Program)(w:World)(t:TypeId)(c:Int):(binOp .and t (.int .u8 (H6 c)) (.int .u8 7)).run P w=.ok (.int .u8 (H6 c)) w:=by unfold H6;(repeat' split)<;>rfl
theorem aaH(P:Program)(w:World)(t:TypeId)(c:Int):(binOp .and t (.int .u8 (H6 c)) (.int .u8 1)).run P w=.ok (.int .u8 (if qy c then 1 else 0)) w:=by unfold H6;(repeat' split)<;>rfl
theorem aaI(c:Int):H6 c=0↔H7 c=false:=by grind[H6,H7,qy,C_,Lq]
theorem afO(c:Int)(b:0<=c):ab Y 226 [.v (.int .i32 c)] (.v (.bool (decide (c>122) ||!H7 c))):=by
 refine st amN qx .v ?_;repeat' first|refine ig qx (pl (ahS _)) λ_ _=>?_|refine ig qx (D.conv rfl) λ_ _=>?_|exact dy a|refine cg qx (λa=>?_) λa=>?_|refine lg qx λm d=>?_|refine ag qx λ_ _=>?_|refine im λ_ _=>?_;refine I qx ?_|refine H.str rfl (D.cat rfl rfl X) λ_ _=>?_;refine I qx ?_|refine xG qx ?_|refine rG qx ?_|refine fq ?_
 grind[aI.of_eq];rename_i x e y f;rw[amW b Z]at e;have g:=aaI c;refine ig qx (D.raw (r:=.int .u8 (H6 c)) rfl rfl aB aB λt w=>by grind[aaG]) λ_ _=>?_;repeat' first|exact dy a|refine cg qx (λa=>?_) λa=>?_|refine lg qx λm d=>?_|refine ag qx λ_ _=>?_|refine im λ_ _=>?_;refine I qx ?_|refine H.str rfl (D.cat rfl rfl X) λ_ _=>?_;refine I qx ?_|refine xG qx ?_|refine rG qx ?_|refine fq ?_
 all_goals refine aI.of_eq ?_;subst_vars;simp_all
theorem aaJ(s:ByteArray):ab Y 281 [.v (.string s),.v (.func (.func 226) #[] #[]),.v (.bool true)] (iv (E8 s.data.toList 0)):=by
 refine st amQ kY .v ?_;repeat' first|refine og kY (D.asn rfl) ?_|exact dy a|refine cg kY (λa=>?_) λa=>?_|refine lg kY λm d=>?_|refine ag kY λ_ _=>?_|refine im λ_ _=>?_;refine I kY ?_|refine H.str rfl (D.cat rfl rfl X) λ_ _=>?_;refine I kY ?_|refine xG kY ?_|refine rG kY ?_|refine fq ?_
 refine H.g5 (σ:=Nat) 1 1 [] (λp=>[(1,.v (.func (.func 226) #[] #[])),(2,.v (.bool true)),(10,.pt 0 0 0 0)]) [] (λp=>[(0,.si s p)]) (λp=>p<=s.size/\E8 s.data.toList 0=E8 (s.data.toList.drop p) p) (λp=>s.size-p) 0 ⟨Z,aB⟩ rfl cz ?_;rintro pos⟨o,e⟩;refine I kY ?_;refine H.aaK rfl rfl rfl (λf j c p g h i=>?_) λf=>?_
 ·let⟨k0,k,l⟩:=afL f h i;refine I kY ?_;repeat' first|refine bg kY (pl (afO _ k0)) (λ_=>?_) λ_=>?_|exact dy a|refine cg kY (λa=>?_) λa=>?_|refine lg kY λm d=>?_|refine ag kY λ_ _=>?_|refine im λ_ _=>?_;refine I kY ?_|refine H.str rfl (D.cat rfl rfl X) λ_ _=>?_;refine I kY ?_|refine xG kY ?_|refine rG kY ?_|refine fq ?_
  rename_i b;have b:c>122\/H7 c=false:=X;rw[e,k b,g];exact aI.of_eq rfl;rename_i b;have b:c<=122/\H7 c=true:=X;let⟨q,r⟩:=l b.1 b.2;refine H.bK _ [] ?_ ?_ cz;grind;omega
 ·refine I kY ?_;repeat' first|exact dy a|refine cg kY (λa=>?_) λa=>?_|refine lg kY λm d=>?_|refine ag kY λ_ _=>?_|refine im λ_ _=>?_;refine I kY ?_|refine H.str rfl (D.cat rfl rfl X) λ_ _=>?_;refine I kY ?_|refine xG kY ?_|refine rG kY ?_|refine fq ?_
  all_goals rw[e,aq_ (by grind[pK])];exact aI.of_eq rfl
theorem afP(s:ByteArray):ab Y 225 [.v (.string s),.v (.func (.func 226) #[] #[])] (iv (E8 s.data.toList 0)):=by
 refine st amR ahO .v ?_;repeat' first|refine ig ahO (pl (aaJ _)) λ_ _=>?_|refine fq ?_
 all_goals subst_vars;exact dx rfl
theorem ext1(s:ByteArray){c:UInt8}{r:List UInt8}(h:s.data.toList=c::r):(s.extract 1 s.size).data.toList=r:=by have e:s.size=s.data.toList.length:=pK s;rw[ByteArray.data_extract,Array.toList_extract,h,e,h];simp[List.extract]
theorem ahU(s:ByteArray)(hs:s.size<=1099511627776):ab Y 155 [.v (.string s),.v (.int .u8 1)] (.v (.bool (Ho s.data.toList))):=by
 have e:=pK s;have A:=toL_nil;have B:=toL_eq s;have i:=@ext1 s;refine st amO vZ .v ?_;rcases b:s.data.toList with _|⟨c,a⟩;all_goals rw[b]at e;simp only[bi_,aC_]at e;repeat' first|refine ig vZ (D.Vv rfl rfl (IU b)) λ_ _=>?_|refine ig vZ (pl (ahS _)) λ_ _=>?_|refine ig vZ (D.raw (r:=.int .u8 (if qy (c.toNat:Int) then 1 else 0)) rfl rfl aB aB λt w=>by grind[aaH]) λ_ _=>?_|refine H.str rfl (D.aso (h:=(s.size:Int)) rfl rfl rfl Z Z Z) λ_ _=>?_;refine I vZ ?_|refine ig vZ (pl (afP _)) λ_ _=>?_|exact dy f|refine cg vZ (λf=>?_) λf=>?_|refine lg vZ λm C=>?_|refine ag vZ λ_ _=>?_|refine im λ_ _=>?_;refine I vZ ?_|refine H.str rfl (D.cat rfl rfl (by assumption)) λ_ _=>?_;refine I vZ ?_|refine xG vZ ?_|refine rG vZ ?_|refine fq ?_
 all_goals try exfalso;simp_all;done
 all_goals try exfalso;simp_all;omega;done
 exact aK rfl;have h:¬a.length<40:=Z;exact aK (by simp[Ho,h]);rename_i j k l n o p q d;have h:qy c.toNat=false:=by cases h:qy c.toNat with|false=>rfl|true=>rw[h]at d;simp at d;omega
 exact aK (by simp[Ho,h]);all_goals
  rename_i j k l n o p q d E u v F g;have h:qy c.toNat=true:=by grind[qy]
  have x:u.data.toList=a:=by rw[v];exact i b
  have y:=Tq a 0 Z;rw[x]at g;have z:a.length<40:=Z;refine aK ?_;simp only[Ho,h];rw[<-y,<-g];simp[z];omega
theorem BV(s:ByteArray)(hs:s.size<=1099511627776):ab Y 91 [.v (.string s)] (.v (.bool (nR s))):=by
 refine st asm g91 .v ?_;repeat' first|refine bg g91 (pl (ahU _ hs)) (λ_=>?_) λ_=>?_|refine bg g91 (pl (ahT _)) (λ_=>?_) λ_=>?_|refine fq ?_
 all_goals refine aK ?_;simp_all[nR]
def N_(s:ByteArray):Bool:=s.data.toList.all y_&&decide (1<=s.size)&&decide (s.size<=40)
theorem OW(c:UInt8):y_ c=(qy c.toNat||C_ c.toNat||decide (48<=(c.toNat:Int))&&decide ((c.toNat:Int)<=57)||(c.toNat:Int)==95):=rfl
theorem afQ(s:ByteArray)(hs:s.size<=1099511627776):ab Y 176 [.v (.string s)] (.v (.bool (N_ s))):=by
 have d:=pK s;refine st amU v7 .v ?_;refine bD 0 0 [] (λi=>[(0,.v (.string s)),(3,.v (.int .i64 i))]) [] (λ_=>[]) s.size (λk=>s.data.toList.all y_=(s.data.toList.drop k).all y_) aB λi k j o a=>?_;refine I v7 ?_;by_cases p:k<s.size
 ·let⟨c,f,g⟩:=aA (l:=s.data.toList) (show k<s.data.toList.length by omega);have h:idx s.data.toList i=some c:=by rw[j];exact Tl f
  rw[g,aJ_]at a;repeat' first|refine ig v7 (D.Vv rfl rfl h) λ_ _=>?_|refine bg v7 (pl (Ts _)) (λ_=>?_) λ_=>?_|refine bg v7 (pl (afM _)) (λ_=>?_) λ_=>?_|refine cg v7 (λb=>?_) λb=>?_|refine lg v7 λm n=>?_|refine ag v7 λ_ _=>?_|refine xG v7 ?_|refine rG v7 ?_|refine fq ?_
  all_goals first
   |(refine aK ?_;have e:y_ c=false:=by grind[OW]
     rw[N_,a,e];rfl)
   |(have e:y_ c=true:=by rw[OW];clear a g d h f hs;subst_vars;simp_all<;>omega
     exact cB _ [] (k+1) X)|omega
 ·skip;repeat' first|refine cg v7 (λb=>?_) λb=>?_|refine lg v7 λm n=>?_|refine xG v7 ?_|refine fq ?_
  all_goals first|omega|rename_i q r;refine aK ?_;rw[N_,a,aq_ Z];clear a d;simp;omega
theorem Da(s:ByteArray)(hs:s.size<=1099511627776):ab Y 107 [.v (.string s)] (.v (.bool (nR s))):=by
 have g:=pK s;have d:=afN (Y:=Y) s;have a:=afQ (Y:=Y) s hs;unfold nR Ho;rcases f:s.data.toList with _|⟨c,h⟩;all_goals rw[N_,f]at a;rw[f]at g;simp only[bi_,aC_]at g
 ·have e:(List.all [] y_&&decide (1<=s.size)&&decide (s.size<=40))=false:=X;rw[e]at a;refine st adK nE .v ?_;repeat' first|apply bk nE a|refine bg nE (pl d) (λ_=>?_) λ_=>?_|exact dy b|refine cg nE (λb=>?_) λb=>?_|refine lg nE λm k=>?_|refine ag nE λ_ _=>?_|refine im λ_ _=>?_;refine I nE ?_|refine H.str rfl (D.cat rfl rfl X) λ_ _=>?_;refine I nE ?_|refine xG nE ?_|refine rG nE ?_|refine fq ?_
  all_goals refine aK ?_;simp_all
 ·skip;refine st adK nE .v ?_;repeat' first|refine bg nE (pl a) (λ_=>?_) λ_=>?_|refine bg nE (pl d) (λ_=>?_) λ_=>?_|refine ig nE (D.Vv rfl rfl (IU f)) λ_ _=>?_|refine bg nE (pl (Ts _)) (λ_=>?_) λ_=>?_|exact dy b|refine cg nE (λb=>?_) λb=>?_|refine lg nE λm k=>?_|refine ag nE λ_ _=>?_|refine im λ_ _=>?_;refine I nE ?_|refine H.str rfl (D.cat rfl rfl X) λ_ _=>?_;refine I nE ?_|refine xG nE ?_|refine rG nE ?_|refine fq ?_
  all_goals
   refine aK ?_;have l:qy c.toNat=true->y_ c=true:=by grind[OW]
   have i:decide (1<=s.size)=true:=X;have j:decide (s.size<=40)=decide (h.length<40):=decide_eq_decide.2 Z;clear a d hs;subst_vars;simp only[aJ_,i,j,bG_]at*;clear g i j f;cases n:qy (c.toNat:Int)<;>cases o:y_ c<;>cases d:h.all y_<;>cases p:decide (h.length<40)<;>simp_all
def asp:=aC func87 call87
def g87:List Nat:=[1,2,0,5]
def amX:=aC func298 call298
def ahV:List Nat:=[1,2,0,5]
def asq:=aC func42 call42
def Et:List Nat:=[5,4,3,2,0,1,11]
def amY:=aC func250 call250
def uK:List Nat:=[5,4,3,2,0,1,11]
def amZ:=aC func252 call252
def zb:List Nat:=[5,0,4,9,1,17]
def am0:=aC func118 call118
def ahW:List Nat:=[0,2,3,10,17]
def qz(x:Tm):List Tm:=if x.k=2 then x.a else[]
mutual def dm:Tm->Nat|⟨k,i,n,a⟩=>if k=2 then 1+bt a else 1def bt:List Tm->Nat|[]=>0|x::l=>dm x+bt l end
mutual def qA:Tm->Nat|⟨k,i,n,a⟩=>if k=2 then 1+lz a else 1def lz:List Tm->Nat|[]=>0|x::l=>max (qA x) (lz l)end
theorem Db(x:Tm):dm x=1+bt (qz x):=by let⟨k,i,n,a⟩:=x;rw[dm,qz];split<;>rfl
theorem Lr(x:Tm):qA x=1+lz (qz x):=by let⟨k,i,n,a⟩:=x;rw[qA,qz];split<;>rfl
theorem tX(x:Tm):1<=dm x:=by rw[Db];omega
theorem afR:∀x:Tm,qA x<=dm x:=by
 refine Tm.ind ?_;intro k i n a c;have key:∀l:List Tm,(∀x∈l,qA x<=dm x)->lz l<=bt l:=by intro l;induction l with|nil=>intro _;exact ad_ 0|cons x l b =>intro h;have d:=h x aB;have e:=b λy f=>h y X;rw[lz,bt];omega
 rw[qA,dm];split;grind;grind
theorem Bx:∀(l:List Tm)(k:Nat),bt (l.drop k)<=bt l|[],k=>aB|x::l,0=>aB|x::l,k+1=>by rw[List.drop_succ_cons,bt];have:=Bx l k;omega
theorem yz:∀l:List Tm,l.length<=bt l|[]=>ad_ 0|x::l=>by have:=yz l;have:=tX x;rw[bt,aC_];omega
theorem Ls(x:Tm):ab Y 87 [tm O x] (tl O (qz x)):=by
 let⟨k,i,n,a⟩:=x;refine st asp g87 (cZ _) ?_;repeat' first|refine cg g87 (λb=>?_) λb=>?_|refine fq ?_
 rw[qz,if_pos b];exact aI.of_eq rfl;grind[qz,tl,bF,aI.wk]
theorem ahX(x:Tm):ab Y 298 [tm O x] (tl O (qz x)):=by
 let⟨k,i,n,a⟩:=x;refine st amX ahV (cZ _) ?_;repeat' first|refine cg ahV (λb=>?_) λb=>?_|refine fq ?_
 rw[qz,if_pos b];exact aI.of_eq rfl;grind[qz,tl,bF,aI.wk]
theorem ahY(l:List Int)(v:Int)(h:l.length<=1099511627776):ab Y 252 [aY O aV false l,iv v] (.v (.bool (l.contains v))):=by
 refine st amZ zb .v ?_;refine bD 0 0 [] (λi=>[(0,aY O aV false l),(1,.v (.int .i64 v)),(5,.v (.int .i64 i))]) [] (λ_=>[]) l.length (λk=>l.contains v=(l.drop k).contains v) aB λi k c j a=>?_;refine I zb ?_;by_cases d:k<l.length
 ·let⟨x,e,f⟩:=aA d;rw[f,cX_]at a;repeat' first|refine og zb (D.bh c e) ?_|refine cg zb (λb=>?_) λb=>?_|refine lg zb λm g=>?_|refine ag zb λ_ _=>?_|refine xG zb ?_|refine rG zb ?_|refine fq ?_
  all_goals first|refine H.bK _ [] ?_ ?_ cq;grind;omega|refine aK ?_;rw[a];simp;left;omega|omega
 ·skip;repeat' first|refine cg zb (λb=>?_) λb=>?_|refine lg zb λm g=>?_|refine xG zb ?_|refine fq ?_
  all_goals first|omega|rw[a,aq_ Z];exact aK rfl
theorem afS(o:Int):ab Y 118 [iv o] (iv (if o=1\/o=2 then 0 else if o=11\/o=12 then 1 else if o>2/\o<11 then 2 else-1)):=by
 refine st am0 ahW .v ?_;repeat' first|refine cg ahW (λa=>?_) λa=>?_|refine fq ?_
 all_goals refine dx ?_;(repeat' split)<;>first|rfl|omega
theorem Hp(n:Nat):∀x:Tm,dm x<=n->n<=1099511627776->ab Y 42 [tm O x] (iv (dm x)):=by induction n with|zero=>intro x h;have:=tX x;omega|succ n e =>
  intro x w z;have f:=Db x;have g:=yz (qz x);let⟨A,j⟩:=aq (qz x);rw[<-j]at f g;have o:ab Y 87 [tm O x] (tl O A):=by grind[Ls]
  refine st asq Et .v ?_;repeat' first|apply bk Et o
  refine cC (τ:=Int) 1 1 [] (λp=>[(3,.v (.int .i64 p.2)),(4,tl O A),(5,.v (.int .i64 p.1))]) [] (λ_=>[]) A.length (λk p=>0<=p.2/\p.2+bt (A.drop k)=dm x) 1 ⟨aB,X⟩ ?_;rintro i k c d C⟨q,a⟩;simp only at d q a;refine I Et ?_;by_cases r:k<A.length
  ·let⟨y,s,t⟩:=aA r;have u:=Bx A k;rw[t,bt]at a u;have E:=tX y;repeat' first|refine og Et (D.ind rfl rfl (cD (l:=A) d s) cE) ?_|refine ig Et (pl (e y Z Z)) λ_ _=>?_|refine cg Et (λb=>?_) λb=>?_|refine lg Et λm v=>?_|refine ag Et λ_ _=>?_|refine xG Et ?_|refine fq ?_
   all_goals first|omega|refine H.bK (_,_) [] ?_ ?_ cq;grind;simp only;omega
  ·skip;repeat' first|refine cg Et (λb=>?_) λb=>?_|refine lg Et λm v=>?_|refine xG Et ?_|refine fq ?_
   all_goals first|omega|rw[aq_ Z,bt]at a;exact dx Z
def am1:=aC func296 call296
def ahZ:List Nat:=[0,2]
def am2:=aC func249 call249
def sG:List Nat:=[1,6,4,2,0,7,28,49,3,78,83,92]
def am3:=aC func183 call183
def OX:List Nat:=[1,2,0]
def am4:=aC func119 call119
def v8:List Nat:=[4,0,3,2,8,16]
def am5:=aC func117 call117
def OY:List Nat:=[1,2,0]
def asr:=aC func55 call55
def Tt:List Nat:=[1,2,0,5]
def eP(s:ByteArray):Bool:=s.toList==(⟨#[43]⟩:ByteArray).toList||s.toList==(⟨#[45]⟩:ByteArray).toList||s.toList==(⟨#[42]⟩:ByteArray).toList||s.toList==(⟨#[47]⟩:ByteArray).toList||s.toList==(⟨#[37]⟩:ByteArray).toList
def xE(n:ByteArray)(a:List Tm):Bool:=n.toList==(⟨#[]⟩:ByteArray).toList&&a.isEmpty
mutual def lA:Tm->Bool|⟨k,i,n,a⟩=>if k=0 then decide (-2147483648<=i)&&decide (i<=2147483648)&&xE n a else if k=1 then decide (0<=i)&&decide (i<=1048576)&&xE n a else if k=2 then i==0&&(eP n&&a.length==2||nR n&&decide (a.length<=6))&&kL a else false def kL:List Tm->Bool|[]=>true|x::l=>lA x&&kL l end
def cI(x:Tm):Bool:=lA x&&decide (dm x<=200)&&decide (qA x<=20)
def nK(l:List Tm):Bool:=l.all cI&&decide (bt l<=200)
theorem Tu{B sz fz:Nat}{row:List AV}{ex:Bool}(h:∀a∈row,Pure a):kp B (.arr sz [row] fz ex):=λr b a c=>by cases ar_.1 b;exact(h a c).bu
theorem aaL(n:Nat):∀x:Tm,dm x<=n->n<=1099511627776->ab Y 250 [tm O x] (iv (qA x)):=by induction n with|zero=>intro x h;have:=tX x;omega|succ n f =>
  intro x B C;have g:=Db x;have j:=Lr x;have o:=yz (qz x);have q:=afR x;let⟨A,r⟩:=aq (qz x);rw[<-r]at g o j;have s:ab Y 87 [tm O x] (tl O A):=by grind[Ls]
  refine st amY uK .v ?_;repeat' first|apply bk uK s
  refine cC (τ:=Int) 1 1 [] (λp=>[(3,.v (.int .i64 p.2)),(4,tl O A),(5,.v (.int .i64 p.1))]) [] (λ_=>[]) A.length (λk p=>0<=p.2/\max p.2 (lz (A.drop k):Int)=lz A) 0 ⟨aB,aB⟩ ?_;rintro i k c d F⟨t,a⟩;simp only at d t a;refine I uK ?_;by_cases u:k<A.length
  ·let⟨y,v,e⟩:=aA u;have w:=Bx A k;rw[e,lz]at a;rw[e,bt]at w;have G:=tX y;repeat' first|refine og uK (D.ind rfl rfl (cD (l:=A) d v) cE) ?_|refine ig uK (pl (f y Z Z)) λ_ _=>?_|refine ig uK (D.max rfl rfl) λ_ _=>?_|refine cg uK (λb=>?_) λb=>?_|refine lg uK λm z=>?_|refine ag uK λ_ _=>?_|refine xG uK ?_|refine fq ?_
   all_goals first|omega|refine H.bK (_,_) [] ?_ ?_ cq;exact⟨k+1,X,Z,X,X⟩;simp only;omega
  ·skip;repeat' first|refine cg uK (λb=>?_) λb=>?_|refine lg uK λm z=>?_|refine ag uK λ_ _=>?_|refine xG uK ?_|refine fq ?_
   all_goals first|omega|rw[aq_ Z,lz]at a;exact dx Z
theorem Tv(s:ByteArray):ab Y 296 [.v (.string s)] (.v (.bool (eP s))):=by
 refine st am1 ahZ .v ?_;repeat' first|refine cg ahZ (λa=>?_) λa=>?_|refine fq ?_
 all_goals refine aI.of_eq ?_;simp_all[eP]
theorem ah0(x:Tm)(d:x.ok):ab Y 249 [tm O x] (.v (.bool (lA x))):=by
 revert d;refine Tm.ind (p:=λx=>x.ok->ab Y 249 [tm O x] (.v (.bool (lA x)))) ?_ x;intro k i n a s d;let⟨v,t,h⟩:=d.out;dsimp only at v t h;rw[lA];have e:a.isEmpty=decide ((a.length:Int)=0):=by cases a with|nil=>rfl|cons x l=>simp;omega
 rw[xE,e];have f:(a.length==2)=decide ((a.length:Int)=2):=X;have g:decide (a.length<=6)=decide ((a.length:Int)<=6):=decide_eq_decide.2 Z;rw[f,g];let⟨V,b⟩:=aq (lA ⟨k,i,n,a⟩);rw[lA,xE,e,f,g]at b;rw[<-b];refine st am2 sG .v ?_;repeat' first|refine bg sG (pl (Tv _)) (λ_=>?_) λ_=>?_|refine bg sG (pl (Da _ t)) (λ_=>?_) λ_=>?_|refine cg sG (λc=>?_) λc=>?_|refine lg sG λm u=>?_|refine fq ?_
 all_goals try refine aK ?_;rw[b];clear s d h e f g b;subst_vars;simp_all<;>(intros;omega)
 all_goals
  have C:V=kL a:=X;clear b e f g;refine bD 1 1 [] (λj=>[(1,.pt 0 4 0 0),(4,.v (.int .i64 j))]) [] (λ_=>[(0,.arr 4 [kR O ⟨k,i,n,a⟩] 0 true)]) a.length (λq=>V=kL (a.drop q)) X λj q w E o=>?_;refine I sG ?_;by_cases z:q<a.length
  ·let⟨y,r,A⟩:=aA z;rw[A,kL]at o;have B:=s y (aZ r) (h.mem y (aZ r));repeat' first|refine og sG (D.ind rfl rfl (cD (l:=a) w r) cE) ?_|refine bg sG (pl B) (λ_=>?_) λ_=>?_|refine cg sG (λc=>?_) λc=>?_|refine lg sG λm u=>?_|refine ag sG λ_ _=>?_|refine xG sG ?_|refine rG sG ?_|refine fq ?_
   all_goals first|refine H.bK _ [] ?_ ?_ cz;grind;omega|refine aK ?_;rw[o];simp_all;done
  ·skip;repeat' first|refine cg sG (λc=>?_) λc=>?_|refine lg sG λm u=>?_|refine xG sG ?_|refine fq ?_
   all_goals first|omega|rw[o,aq_ Z,kL];exact aK rfl
theorem Mx:∀{l:List Tm},∀x∈l,dm x<=bt l|[],x,h=>X|y::l,x,h=>by rw[bt];rcases al_.1 h with rfl|h;omega;have:=Mx x h;omega
def pD(l:List Tm):Prop:=dR l/\bt l<=1099511627776
theorem pD.len{l:List Tm}(h:pD l):l.length<=1099511627776:=aA_ (yz l) h.2
def fp(x:At):Bool:=nR x.n&&decide (x.a.length<=6)&&nK x.a
def arity(o:Int):Int:=if o=1\/o=2 then 0 else if o=11\/o=12 then 1 else if o>2/\o<11 then 2 else-1
def de(x:Gl):Bool:=if x.op=0 then fp ⟨x.n,x.a⟩ else x.n.toList==(⟨#[]⟩:ByteArray).toList&&decide (arity x.op=x.a.length)&&nK x.a
theorem Dd(x:Tm)(a:x.ok)(hs:dm x<=1099511627776):ab Y 183 [tm O x] (.v (.bool (cI x))):=by
 refine st am3 OX .v ?_;repeat' first|refine bg OX (pl (ah0 (O:=O) x a)) (λ_=>?_) λ_=>?_|refine ig OX (pl (Hp (O:=O) _ x (ad_ _) hs)) λ_ _=>?_|refine ig OX (pl (aaL (O:=O) _ x (ad_ _) hs)) λ_ _=>?_|refine cg OX (λb=>?_) λb=>?_|refine fq ?_
 all_goals refine aK ?_;subst_vars;clear hs a;simp_all[cI]<;>(intros;omega)
theorem H8(a:List Tm)(g:pD a):ab Y 119 [tl O a] (.v (.bool (nK a))):=by
 have u:=g.len;let⟨o,v⟩:=g;refine st am4 v8 .v ?_;refine cC (τ:=Int) 0 0 [] (λp=>[(0,tl O a),(3,.v (.int .i64 p.2)),(4,.v (.int .i64 p.1))]) [] (λ_=>[]) a.length (λk p=>0<=p.2/\p.2+bt (a.drop k)=bt a/\a.all cI=(a.drop k).all cI) 0 ⟨aB,aB,aB⟩ ?_;rintro i k c h x⟨q,b,d⟩;simp only at h q b;refine I v8 ?_;by_cases r:k<a.length
 ·let⟨y,e,j⟩:=aA r;rw[j,bt]at b;rw[j,aJ_]at d;have n:=Mx y (aZ e);have s:=Dd (Y:=Y) (O:=O) y (o.mem y (aZ e)) Z;have t:=Hp (Y:=Y) (O:=O) _ y (ad_ _) Z;repeat' first|refine og v8 (D.ind rfl rfl (cD (l:=a) h e) cE) ?_|refine bg v8 (pl s) (λ_=>?_) λ_=>?_|refine ig v8 (pl t) λ_ _=>?_|refine cg v8 (λf=>?_) λf=>?_|refine lg v8 λm n=>?_|refine ag v8 λ_ _=>?_|refine xG v8 ?_|refine rG v8 ?_|refine fq ?_
  all_goals first|refine H.bK (_,_) [] ?_ ?_ cq;grind;simp only;omega|refine aK ?_;rw[nK,d];simp_all;done
 ·skip;repeat' first|refine cg v8 (λf=>?_) λf=>?_|refine lg v8 λm n=>?_|refine xG v8 ?_|refine fq ?_
  all_goals first|omega|rw[aq_ Z]at b d;rw[bt]at b;refine aK ?_;rw[nK,d];simp;omega
theorem IV(x:At)(b:pD x.a)(c:x.n.size<=1099511627776):ab Y 117 [at_ O x] (.v (.bool (fp x))):=by
 let⟨n,a⟩:=x;dsimp only at b c;have d:decide (a.length<=6)=decide ((a.length:Int)<=6):=decide_eq_decide.2 Z;rw[fp,d];refine st am5 OY .v ?_;repeat' first|refine bg OY (pl (Da _ c)) (λ_=>?_) λ_=>?_|refine bg OY (pl (H8 _ b)) (λ_=>?_) λ_=>?_|refine cg OY (λe=>?_) λe=>?_|refine lg OY λm f=>?_|refine fq ?_
 all_goals refine aK ?_;subst_vars;simp_all<;>(intros;omega)
def ah1(o:Int):ab Y 118 [iv o] (iv (arity o)):=afS o
theorem zc(x:Gl)(b:pD x.a)(c:x.n.size<=1099511627776):ab Y 55 [gl O x] (.v (.bool (de x))):=by
 let⟨o,n,a⟩:=x;dsimp only at b c;rw[de];refine st asr Tt .v ?_;repeat' first|refine bg Tt (pl (IV (O:=O) ⟨n,a⟩ b c)) (λ_=>?_) λ_=>?_|refine bg Tt (pl (H8 _ b)) (λ_=>?_) λ_=>?_|refine ig Tt (pl (ah1 _)) λ_ _=>?_|refine cg Tt (λd=>?_) λd=>?_|refine lg Tt λm e=>?_|refine fq ?_
 all_goals refine aK ?_;subst_vars;simp_all<;>(intros;omega)
end
end Go.Proofs.YtbdcmpknicjopaaGreat
