import Derived.Laws.RangeString
import Derived.Laws.Strings
import Derived.Test.YtbpabjmnhggajaaGreatOr15
namespace Go.Proofs.YtbpabjmnhggajaaGreat
set_option linter.all false
open Go.RowKit
section
set_option maxRecDepth 100000
attribute [local irreducible] ah aG ae ad
def ahU:FQ 125 Tryz.f125:=aF Tryz.func125 Tryz.call125
def adJ:List Nat:=[0,10,2,3,19]
def ahV:FQ 127 Tryz.f127:=aF Tryz.func127 Tryz.call127
def oE:List Nat:=[0,2]
def amr:FQ 65 Tryz.f65:=aF Tryz.func65 Tryz.call65
def zx:List Nat:=[0,4,1,19]
def ams:FQ 66 Tryz.f66:=aF Tryz.func66 Tryz.call66
def g66:List Nat:=[3,4,2,0]
def amt:FQ 31 Tryz.f31:=aF Tryz.func31 Tryz.call31
def g31:List Nat:=[0,2]
def ahW:FQ 187 Tryz.f187:=aF Tryz.func187 Tryz.call187
def jU:List Nat:=[11,6,0,10,12,1,8,2,19,7]
def ahX:FQ 126 Tryz.f126:=aF Tryz.func126 Tryz.call126
def adL:List Nat:=[4,0,1]
def amu:FQ 86 Tryz.f86:=aF Tryz.func86 Tryz.call86
def g86:List Nat:=[0,2]
def ahY:FQ 147 Tryz.f147:=aF Tryz.func147 Tryz.call147
def adM:List Nat:=[0,2]
def amv:FQ 85 Tryz.f85:=aF Tryz.func85 Tryz.call85
def zy:List Nat:=[0,3,2,7,39]
def amw:FQ 87 Tryz.f87:=aF Tryz.func87 Tryz.call87
def g87:List Nat:=[0,2]
def adN:FQ 48 Tryz.f48:=aF Tryz.func48 Tryz.call48
def pZ:List Nat:=[0,2]
def oF (c:Int):Bool:=decide (97<=c) && decide (c<=122)
def AP (c:Int):Bool:=decide (65<=c) && decide (c<=90)
def Iz (c:Int):Bool:=decide (48<=c) && decide (c<=57)
def EK (c:Int):Int:=if oF c then 1 else if AP c || c == 95 then 2 else if Iz c then 4 else 0
def EL (c:Int):Bool:=oF c || AP c || Iz c || c == 95
def wU (c:UInt8):Bool:=EL c.toNat
def LW (s:ByteArray):Bool:=s.toList == ((⟨#[99,111,110,115,116,114,97,105,110,116]⟩:ByteArray)).toList || s.toList == ((⟨#[116,114,117,101]⟩:ByteArray)).toList || s.toList == ((⟨#[102,97,105,108]⟩:ByteArray)).toList || s.toList == ((⟨#[105,115]⟩:ByteArray)).toList || s.toList == ((⟨#[105,110,116]⟩:ByteArray)).toList || s.toList == ((⟨#[103,114,111,117,110,100]⟩:ByteArray)).toList
def Ef (l:List UInt8):Bool:=match l with
 |[]=>false
 |c::r=>decide (r.length < 40) && oF c.toNat && r.all wU
def mC (s:ByteArray):Bool:=Ef s.data.toList && !LW s
def Cx:List UInt8->Int->Int
 |[],_=>-1
 |c::l,p=>if wU c then Cx l (p+1) else p
theorem PT:∀(l:List UInt8) (p:Int),0<=p->decide (Cx l p < 0)=l.all wU
 |[],p,h=>rfl
 |c::l,p,h=>by
  simp only[Cx,aY_];split
  ·rename_i a;rw[PT l _ (by omega),a];rfl
  ·grind
theorem toL_eq (s:ByteArray):s.toList=s.data.toList:=ByteArray.toList_eq s
theorem toL_nil:ByteArray.toList ⟨#[]⟩=[]:=by rw[toL_eq]
theorem Fy {l:List UInt8}{c:UInt8}{r:List UInt8}(h:l=c::r):idx l 0=some c:=by subst h;rfl
theorem nJ (s:ByteArray):s.size=s.data.toList.length:=(bh_).symm
theorem WZ (s:ByteArray) (pos:Nat) (h:pos < s.size):s.data.toList.drop pos=s.get! pos::s.data.toList.drop (pos+1):=by
 have a:pos < s.data.toList.length:=by grind[nJ]
 rw[bq_ a];congr 1;have b:pos < s.data.size:=h;simp only[Array.getElem_toList,ByteArray.get!];exact (getElem!_pos s.data pos b).symm
theorem get_at (s:ByteArray) (pos:Nat) (h:pos < s.size):s[pos]'h=s.get! pos:=by
 have a:pos < s.data.size:=h;show s.data[pos]'a=s.data[pos]!;exact (getElem!_pos s.data pos a).symm
theorem R3 (s:ByteArray) (i:Nat) (h:128<=(s.get! i).toNat):128<=(Utf8.decode s i).1:=by
 unfold Utf8.decode;simp only[bs_]
 repeat' split
 all_goals first|omega|simp_all[Utf8.runeError]<;>omega
theorem abo {s:ByteArray}{pos p:Nat}{c:Int}(h:pos < s.size) (a:c=((Utf8.decode s pos).1:Nat)) (b:p=pos+(Utf8.decode s pos).2) :
  0<=c/\((c > 122\/EL c=false)->Cx (s.data.toList.drop pos) pos=pos)/\(c<=122->EL c=true->p=pos+1/\Cx (s.data.toList.drop pos) pos=Cx (s.data.toList.drop (pos+1)) ((pos+1:Nat):Int)):=by
 rw[WZ s pos h,Cx];by_cases e:(s.get! pos).toNat < 128
 ·have d:=decode_ascii s pos h (by rw[get_at];exact e);rw[get_at]at d;rw[d]at a b;simp only at a b;subst a;refine⟨by omega,λh=>by grind[wU,EL,oF,AP,Iz],λg f=>⟨b,by rw[if_pos (by exact f)];rfl⟩⟩
 ·grind[R3,wU,EL,oF,AP,Iz]
section
variable {w0:World}{ρ:Hd}
theorem adO (c:Int):ah Tryz.prog w0 125 [.v (.int .u8 c)] (.v (.int .u8 (EK c))):=by
 refine st ahU adJ .v ?_
 repeat' (first
  |refine cg adJ (λa=>?_) λa=>?_
  |(refine fq ?_))
 all_goals (refine aP.of_eq ?_;simp_all[EK,oF,AP,Iz];try omega)
theorem PU (c:Int):ah Tryz.prog w0 86 [.v (.int .u8 c)] (.v (.bool (oF c))):=by
 refine st amu g86 .v ?_
 repeat' (first
  |refine cg g86 (λa=>?_) λa=>?_
  |(refine fq ?_))
 all_goals (refine aP.of_eq ?_;simp_all[oF];try (intros;omega))
theorem abp (c:Int):ah Tryz.prog w0 147 [.v (.int .u8 c)] (.v (.bool (AP c))):=by
 refine st ahY adM .v ?_
 repeat' (first
  |refine cg adM (λa=>?_) λa=>?_
  |(refine fq ?_))
 all_goals (refine aP.of_eq ?_;simp_all[AP];try (intros;omega))
theorem adP (s:ByteArray):ah Tryz.prog w0 66 [.v (.string s)] (.v (.bool (LW s))):=by
 refine st ams g66 .v ?_
 repeat' (first
  |refine cg g66 (λa=>?_) λa=>?_
  |(refine fq ?_))
 all_goals (refine aP.of_eq ?_;simp_all[LW])
theorem abq (s:ByteArray):ah Tryz.prog w0 87 [.v (.string s)] (.v (.bool (LW s))):=by
 refine st amw g87 .v ?_
 repeat' (first
  |refine cg g87 (λa=>?_) λa=>?_
  |(refine fq ?_))
 all_goals (refine aP.of_eq ?_;simp_all[LW])
theorem ahZ {c:Int}(h1:0<=c) (h2:c<=255):IntKind.u8.wrap c=c:=by
 unfold IntKind.wrap;simp[IntKind.bits,IntKind.signed];omega
theorem W0 (P:Program) (w:World) (t:TypeId) (c:Int):(binOp .and t (.int .u8 (EK c)) (.int .u8 7)).run P w=.ok (.int .u8 (EK c)) w:=by
 unfold EK
 (repeat' split)<;>rfl
theorem W1 (P:Program) (w:World) (t:TypeId) (c:Int):(binOp .and t (.int .u8 (EK c)) (.int .u8 1)).run P w=.ok (.int .u8 (if oF c then 1 else 0)) w:=by
 unfold EK
 (repeat' split)<;>rfl
theorem W2 (c:Int):EK c=0 ↔ EL c=false:=by grind[EK,EL,oF,AP,Iz]
theorem abr (c:Int) (b:0<=c):ah Tryz.prog w0 127 [.v (.int .i32 c)] (.v (.bool (decide (c > 122) || !EL c))):=by
 refine st ahV oE .v ?_
 repeat' (first
  |refine ig oE (pl (adO _)) λ_ _=>?_
  |refine ig oE (ae.conv rfl) λ_ _=>?_
  |exact absurd a (by decide)
  |refine cg oE (λa=>?_) λa=>?_
  |refine lg oE λm d=>?_
  |refine ag oE λ_ _=>?_
  |refine ll λ_ _=>?_;refine gq oE ?_
  |refine ad.str rfl (ae.cat rfl rfl (by grind)) λ_ _=>?_;refine gq oE ?_
  |refine ad.ao ?_;refine gq oE ?_
  |refine ad.bh ?_;refine gq oE ?_
  |(refine fq ?_))
 ·grind[aP.of_eq]
 rename_i x e y f;rw[ahZ b (by omega)]at e;have g:=W2 c;refine ig oE (ae.raw (r:=.int .u8 (EK c)) rfl rfl (by simp) (by simp) (λt w=>by grind[W0])) λ_ _=>?_
 repeat' (first
  |exact absurd a (by decide)
  |refine cg oE (λa=>?_) λa=>?_
  |refine lg oE λm d=>?_
  |refine ag oE λ_ _=>?_
  |refine ll λ_ _=>?_;refine gq oE ?_
  |refine ad.str rfl (ae.cat rfl rfl (by grind)) λ_ _=>?_;refine gq oE ?_
  |refine ad.ao ?_;refine gq oE ?_
  |refine ad.bh ?_;refine gq oE ?_
  |(refine fq ?_))
 all_goals (refine aP.of_eq ?_;subst_vars;simp_all)
theorem W3 (s:ByteArray):ah Tryz.prog w0 187 [.v (.string s),.v (.func (.func 127) #[] #[]),.v (.bool true)] (iv (Cx s.data.toList 0)):=by
 refine st ahW jU .v ?_
 repeat' (first
  |refine og jU (ae.amc rfl) ?_
  |exact absurd a (by decide)
  |refine cg jU (λa=>?_) λa=>?_
  |refine lg jU λm d=>?_
  |refine ag jU λ_ _=>?_
  |refine ll λ_ _=>?_;refine gq jU ?_
  |refine ad.str rfl (ae.cat rfl rfl (by grind)) λ_ _=>?_;refine gq jU ?_
  |refine ad.ao ?_;refine gq jU ?_
  |refine ad.bh ?_;refine gq jU ?_
  |(refine fq ?_))
 refine ad.aK (σ:=Nat) 1 1 [] (λp=>[(1,.v (.func (.func 127) #[] #[])),(2,.v (.bool true)),(10,.pt 0 0 0 0)]) [] (λp=>[(0,.si s p)])
  (λp=>p<=s.size/\Cx s.data.toList 0=Cx (s.data.toList.drop p) p) (λp=>s.size - p) 0 ⟨by omega,by simp⟩ rfl
  cz ?_
 rintro pos ⟨o,e⟩;refine gq jU ?_;refine ad.WG rfl rfl rfl (λf j c p h i k=>?_) (λf=>?_)
 ·obtain⟨k0,l,n⟩:=abo f i k;refine gq jU ?_
  repeat' (first
   |refine bg jU (pl (abr _ k0)) (λ_=>?_) λ_=>?_
   |exact absurd a (by decide)
   |refine cg jU (λa=>?_) λa=>?_
   |refine lg jU λm d=>?_
   |refine ag jU λ_ _=>?_
   |refine ll λ_ _=>?_;refine gq jU ?_
   |refine ad.str rfl (ae.cat rfl rfl (by grind)) λ_ _=>?_;refine gq jU ?_
   |refine ad.ao ?_;refine gq jU ?_
   |refine ad.bh ?_;refine gq jU ?_
   |(refine fq ?_))
  ·rename_i b;have b:c > 122\/EL c=false:=by grind
   rw[e,l b,h];exact aP.of_eq rfl
  ·rename_i b;have b:c<=122/\EL c=true:=by grind
   obtain⟨q,r⟩:=n b.1 b.2;refine ad.az (σ:=Nat) _ [] ?_ ?_ cz
   ·grind
   ·omega
 ·refine gq jU ?_
  repeat' (first
   |exact absurd a (by decide)
   |refine cg jU (λa=>?_) λa=>?_
   |refine lg jU λm d=>?_
   |refine ag jU λ_ _=>?_
   |refine ll λ_ _=>?_;refine gq jU ?_
   |refine ad.str rfl (ae.cat rfl rfl (by grind)) λ_ _=>?_;refine gq jU ?_
   |refine ad.ao ?_;refine gq jU ?_
   |refine ad.bh ?_;refine gq jU ?_
   |(refine fq ?_))
  all_goals (rw[e,ak_ (by grind[nJ])];exact aP.of_eq rfl)
theorem abt (s:ByteArray):ah Tryz.prog w0 126 [.v (.string s),.v (.func (.func 127) #[] #[])] (iv (Cx s.data.toList 0)):=by
 refine st ahX adL .v ?_
 repeat' (first
  |refine ig adL (pl (W3 _)) λ_ _=>?_
  |(refine fq ?_))
 all_goals (subst_vars;exact dP rfl)
theorem ext1 (s:ByteArray) {c:UInt8}{r:List UInt8}(h:s.data.toList=c::r):(s.extract 1 s.size).data.toList=r:=by
 have e:s.size=s.data.toList.length:=nJ s;rw[ByteArray.data_extract,Array.toList_extract,h,e,h];simp[List.extract]
theorem adQ (s:ByteArray) (z:s.size<=1099511627776):ah Tryz.prog w0 65 [.v (.string s),.v (.int .u8 1)] (.v (.bool (Ef s.data.toList))):=by
 have d:=nJ s;have A:=toL_nil;have B:=toL_eq s;have g:=@ext1 s;refine st amr zx .v ?_;rcases a:s.data.toList with _|⟨c,rest⟩
 all_goals
  rw[a]at d;simp only[aN_,aw_]at d
  repeat' (first
   |refine ig zx (ae.R4 rfl rfl (Fy a)) λ_ _=>?_
   |refine ig zx (pl (adO _)) λ_ _=>?_
   |(refine ig zx (ae.raw (r:=.int .u8 (if oF (c.toNat:Int) then 1 else 0)) rfl rfl (by simp) (by simp) (λt w=>by grind[W1])) λ_ _=>?_)
   |refine ad.str rfl (ae.ama (h:=(s.size:Int)) rfl rfl rfl (by omega) (by omega) (by omega)) λ_ _=>?_;refine gq zx ?_
   |refine ig zx (pl (abt _)) λ_ _=>?_
   |exact absurd e (by decide)
   |refine cg zx (λe=>?_) λe=>?_
   |refine lg zx λm C=>?_
   |refine ag zx λ_ _=>?_
   |refine ll λ_ _=>?_;refine gq zx ?_
   |refine ad.str rfl (ae.cat rfl rfl (by assumption)) λ_ _=>?_;refine gq zx ?_
   |refine ad.ao ?_;refine gq zx ?_
   |refine ad.bh ?_;refine gq zx ?_
   |(refine fq ?_))
 all_goals try (exfalso;simp_all;done)
 all_goals try (exfalso;simp_all;omega;done)
 ·exact bY rfl
 ·have h:¬ rest.length < 40:=by omega
  exact bY (by simp[Ef,h])
 ·rename_i i j k l n o p b;have h:oF c.toNat=false:=by
   cases h:oF c.toNat with
   |false=>rfl
   |true=>rw[h]at b;simp at b;omega
  exact bY (by simp[Ef,h])
 all_goals
  rename_i i j k l n o p b D q u E f;have h:oF c.toNat=true:=by grind[oF]
  have v:q.data.toList=rest:=by rw[u];exact g a
  have x:=PT rest 0 (by omega);rw[v]at f;have y:rest.length < 40:=by omega
  refine bY ?_;simp only[Ef,h];rw[<-x,<-f];simp[y];omega
theorem zz (s:ByteArray) (a:s.size<=1099511627776):ah Tryz.prog w0 31 [.v (.string s)] (.v (.bool (mC s))):=by
 refine st amt g31 .v ?_
 repeat' (first
  |refine bg g31 (pl (adQ _ a)) (λ_=>?_) λ_=>?_
  |refine bg g31 (pl (adP _)) (λ_=>?_) λ_=>?_
  |(refine fq ?_))
 all_goals (refine bY ?_;simp_all[mC])
def KU (s:ByteArray):Bool:=s.data.toList.all wU && decide (1<=s.size) && decide (s.size<=40)
theorem LX (c:UInt8):wU c=(oF c.toNat || AP c.toNat || (decide (48<=(c.toNat:Int)) && decide ((c.toNat:Int)<=57)) || (c.toNat:Int) == 95):=rfl
theorem abu (s:ByteArray) (j:s.size<=1099511627776):ah Tryz.prog w0 85 [.v (.string s)] (.v (.bool (KU s))):=by
 have f:=nJ s;refine st amv zy .v ?_
 refine ad.aK (σ:=Int) 0 0 [] (λi=>[(0,.v (.string s)),(3,.v (.int .i64 i))]) [] (λ_=>[])
  (λi=>∃k:Nat,i=k/\k<=s.size/\s.data.toList.all wU=(s.data.toList.drop k).all wU) (λi=>s.size - i.toNat) 0 ⟨0,rfl,by simp,by simp⟩ rfl cq ?_
 rintro i ⟨k,o,q,a⟩;refine gq zy ?_;by_cases r:k < s.size
 ·obtain⟨c,g,h⟩:=aD (l:=s.data.toList) (show k < s.data.toList.length by omega);have b:idx s.data.toList i=some c:=by rw[o];exact PV g
  rw[h,aY_]at a
  repeat' (first
   |refine ig zy (ae.R4 rfl rfl b) λ_ _=>?_
   |refine bg zy (pl (PU _)) (λ_=>?_) λ_=>?_
   |refine bg zy (pl (abp _)) (λ_=>?_) λ_=>?_
   |refine cg zy (λd=>?_) λd=>?_
   |refine lg zy λm p=>?_
   |refine ag zy λ_ _=>?_
   |refine ad.ao ?_;refine gq zy ?_
   |refine ad.bh ?_;refine gq zy ?_
   |(refine fq ?_))
  all_goals first
   |(refine bY ?_
     have e:wU c=false:=by grind[LX]
     rw[KU,a,e];rfl)
   |(have e:wU c=true:=by
       rw[LX];clear a h f b g j;subst_vars;simp_all<;>omega
     refine ad.az (σ:=Int) _ [] ?_ ?_ cq
     ·exact⟨k+1,by omega,by omega,by grind⟩
     ·omega)
   |exfalso;omega
 ·skip
  repeat' (first
   |refine cg zy (λd=>?_) λd=>?_
   |refine lg zy λm p=>?_
   |refine ad.ao ?_;refine gq zy ?_
   |(refine fq ?_))
  all_goals first
   |exfalso;omega
   |rename_i t u;refine bY ?_;rw[KU,a,ak_ (by omega)];clear a f;simp;omega
theorem AQ (s:ByteArray) (h:s.size<=1099511627776):ah Tryz.prog w0 48 [.v (.string s)] (.v (.bool (mC s))):=by
 have g:=nJ s;have d:=abq (w0:=w0) s;have a:=abu (w0:=w0) s h;unfold mC Ef;rcases f:s.data.toList with _|⟨c,rest⟩
 all_goals
  rw[KU,f]at a;rw[f]at g;simp only[aN_,aw_]at g
 ·have e:(List.all [] wU && decide (1<=s.size) && decide (s.size<=40))=false:=by grind
  rw[e]at a;refine st adN pZ .v ?_
  repeat' (first
   |apply bK pZ a
   |refine bg pZ (pl d) (λ_=>?_) λ_=>?_
   |exact absurd b (by decide)
   |refine cg pZ (λb=>?_) λb=>?_
   |refine lg pZ λm k=>?_
   |refine ag pZ λ_ _=>?_
   |refine ll λ_ _=>?_;refine gq pZ ?_
   |refine ad.str rfl (ae.cat rfl rfl (by grind)) λ_ _=>?_;refine gq pZ ?_
   |refine ad.ao ?_;refine gq pZ ?_
   |refine ad.bh ?_;refine gq pZ ?_
   |(refine fq ?_))
  all_goals (refine bY ?_;simp_all)
 ·skip;refine st adN pZ .v ?_
  repeat' (first
   |refine bg pZ (pl a) (λ_=>?_) λ_=>?_
   |refine bg pZ (pl d) (λ_=>?_) λ_=>?_
   |refine ig pZ (ae.R4 rfl rfl (Fy f)) λ_ _=>?_
   |refine bg pZ (pl (PU _)) (λ_=>?_) λ_=>?_
   |exact absurd b (by decide)
   |refine cg pZ (λb=>?_) λb=>?_
   |refine lg pZ λm k=>?_
   |refine ag pZ λ_ _=>?_
   |refine ll λ_ _=>?_;refine gq pZ ?_
   |refine ad.str rfl (ae.cat rfl rfl (by grind)) λ_ _=>?_;refine gq pZ ?_
   |refine ad.ao ?_;refine gq pZ ?_
   |refine ad.bh ?_;refine gq pZ ?_
   |(refine fq ?_))
  all_goals
   refine bY ?_;have l:oF c.toNat=true->wU c=true:=by grind[LX]
   have i:decide (1<=s.size)=true:=by grind
   have j:decide (s.size<=40)=decide (rest.length < 40):=decide_eq_decide.2 (by omega);clear a d h;subst_vars;simp only[aY_,i,j,cD_]at *;clear g i j f;cases n:oF (c.toNat:Int)<;>cases o:wU c<;>cases d:rest.all wU<;>cases p:decide (rest.length < 40)<;>simp_all
end
end
end Go.Proofs.YtbpabjmnhggajaaGreat
