import Derived.Laws.RangeString
import Derived.Laws.Strings
import Derived.Test.YtbpabjmnhggajaaGreatOs18
namespace Go.Proofs.YtbpabjmnhggajaaGreat
set_option linter.unusedVariables false
set_option linter.unusedSimpArgs false
open Go.RowKit
section
set_option maxRecDepth 100000
attribute [local irreducible] ah aC af ad
def acv:FQ 125 Tryz.f125:=a_ Tryz.func125 Tryz.call125
def YX:List Nat:=[0,10,2,3,19]
def acw:FQ 127 Tryz.f127:=a_ Tryz.func127 Tryz.call127
def mE:List Nat:=[0,2]
def ag2:FQ 65 Tryz.f65:=a_ Tryz.func65 Tryz.call65
def vR:List Nat:=[0,4,1,19]
def ag3:FQ 66 Tryz.f66:=a_ Tryz.func66 Tryz.call66
def g66:List Nat:=[3,4,2,0]
def ag4:FQ 31 Tryz.f31:=a_ Tryz.func31 Tryz.call31
def YY:List Nat:=[0,2]
def acx:FQ 187 Tryz.f187:=a_ Tryz.func187 Tryz.call187
def g9:List Nat:=[11,6,0,10,12,1,8,2,19,7]
def acy:FQ 126 Tryz.f126:=a_ Tryz.func126 Tryz.call126
def YZ:List Nat:=[4,0,1]
def qu (c:Int):Bool:=decide (97<=c) && decide (c<=122)
def EG (c:Int):Bool:=decide (65<=c) && decide (c<=90)
def EH (c:Int):Bool:=decide (48<=c) && decide (c<=57)
def Bp (c:Int):Int:=if qu c then 1 else if EG c || c == 95 then 2 else if EH c then 4 else 0
def Bq (c:Int):Bool:=qu c || EG c || EH c || c == 95
def Pm (c:UInt8):Bool:=Bq c.toNat
def Sd (s:ByteArray):Bool:=s.toList == ((⟨#[99,111,110,115,116,114,97,105,110,116]⟩:ByteArray)).toList || s.toList == ((⟨#[116,114,117,101]⟩:ByteArray)).toList || s.toList == ((⟨#[102,97,105,108]⟩:ByteArray)).toList || s.toList == ((⟨#[105,115]⟩:ByteArray)).toList || s.toList == ((⟨#[105,110,116]⟩:ByteArray)).toList || s.toList == ((⟨#[103,114,111,117,110,100]⟩:ByteArray)).toList
def C8 (l:List UInt8):Bool:=match l with
 |[]=>false
 |c::r=>decide (r.length < 40) && qu c.toNat && r.all Pm
def qO (s:ByteArray):Bool:=C8 s.data.toList && !Sd s
def yZ:List UInt8->Int->Int
 |[],_=>-1
 |c::l,p=>if Pm c then yZ l (p+1) else p
theorem Lk:∀ (l:List UInt8) (p:Int),0<=p->decide (yZ l p < 0)=l.all Pm
 |[],p,h=>rfl
 |c::l,p,h=>by
  simp only[yZ,List.all_cons];split
  ·rename_i hc;rw[Lk l _ (by omega),hc];rfl
  ·grind
theorem toL_eq (s:ByteArray):s.toList=s.data.toList:=ByteArray.toList_eq s
theorem toL_nil:ByteArray.toList ⟨#[]⟩=[]:=by rw[toL_eq]
theorem H2 {l:List UInt8}{c:UInt8}{r:List UInt8}(h:l=c::r):idx l 0=some c:=by subst h;rfl
theorem oK (s:ByteArray):s.size=s.data.toList.length:=(Array.length_toList).symm
theorem Se (s:ByteArray) (pos:Nat) (h:pos < s.size):s.data.toList.drop pos=s.get! pos::s.data.toList.drop (pos+1):=by
 have h1:pos < s.data.toList.length:=by grind[oK]
 rw[List.drop_eq_getElem_cons h1];congr 1;have h2:pos < s.data.size:=h;simp only[Array.getElem_toList,ByteArray.get!];exact (getElem!_pos s.data pos h2).symm
theorem get_at (s:ByteArray) (pos:Nat) (h:pos < s.size):s[pos]'h=s.get! pos:=by
 have h2:pos < s.data.size:=h;show s.data[pos]'h2=s.data[pos]!;exact (getElem!_pos s.data pos h2).symm
theorem MS (s:ByteArray) (i:Nat) (h:128<=(s.get! i).toNat):128<=(Utf8.decode s i).1:=by
 unfold Utf8.decode;simp only[Nat.add_zero]
 repeat' split
 all_goals first|omega|simp_all[Utf8.runeError]<;>omega
theorem WC {s:ByteArray}{pos p:Nat}{c:Int}(h:pos < s.size) (hc:c=((Utf8.decode s pos).1:Nat)) (hp:p=pos+(Utf8.decode s pos).2) :
  0<=c/\((c > 122\/Bq c=false)->yZ (s.data.toList.drop pos) pos=pos)/\(c<=122->Bq c=true->p=pos+1/\yZ (s.data.toList.drop pos) pos=yZ (s.data.toList.drop (pos+1)) ((pos+1:Nat):Int)):=by
 rw[Se s pos h,yZ];by_cases hb:(s.get! pos).toNat < 128
 ·have hd:=decode_ascii s pos h (by rw[get_at];exact hb);rw[get_at] at hd;rw[hd] at hc hp;simp only at hc hp;subst hc;refine⟨by omega,fun h=>by grind[Pm,Bq,qu,EG,EH],fun h1 h2=>⟨hp,by rw[if_pos (by exact h2)];rfl⟩⟩
 ·grind[MS,Pm,Bq,qu,EG,EH]
section
variable {w0:World}{ρ:Hd}
theorem Y0 (c:Int):ah Tryz.prog w0 125 [.v (.int .u8 c)] (.v (.int .u8 (Bp c))):=by
 refine st acv YX .v ?_
 repeat' (first
  |refine cg YX (fun hb=>?_) fun hb=>?_
  |(refine fq ?_))
 all_goals (refine aR.of_eq ?_;simp_all[Bp,qu,EG,EH];try omega)
theorem Y1 (s:ByteArray):ah Tryz.prog w0 66 [.v (.string s)] (.v (.bool (Sd s))):=by
 refine st ag3 g66 .v ?_
 repeat' (first
  |refine cg g66 (fun hb=>?_) fun hb=>?_
  |(refine fq ?_))
 all_goals (refine aR.of_eq ?_;simp_all[Sd])
theorem acz {c:Int}(h1:0<=c) (h2:c<=255):IntKind.u8.wrap c=c:=by
 unfold IntKind.wrap;simp[IntKind.bits,IntKind.signed];omega
theorem Sf (P:Program) (w:World) (t:TypeId) (c:Int):(binOp .and t (.int .u8 (Bp c)) (.int .u8 7)).run P w=.ok (.int .u8 (Bp c)) w:=by
 unfold Bp
 (repeat' split)<;>rfl
theorem Sg (P:Program) (w:World) (t:TypeId) (c:Int):(binOp .and t (.int .u8 (Bp c)) (.int .u8 1)).run P w=.ok (.int .u8 (if qu c then 1 else 0)) w:=by
 unfold Bp
 (repeat' split)<;>rfl
theorem Sh (c:Int):Bp c=0 ↔ Bq c=false:=by grind[Bp,Bq,qu,EG,EH]
theorem WD (c:Int) (hc:0<=c):ah Tryz.prog w0 127 [.v (.int .i32 c)] (.v (.bool (decide (c > 122) || !Bq c))):=by
 refine st acw mE .v ?_
 repeat' (first
  |refine ad.int rfl (af.aw rfl (Y0 _) ⟨.v,trivial⟩) fun _ _=>?_;refine gq mE ?_
  |refine ad.int rfl (af.conv rfl) fun _ _=>?_;refine gq mE ?_
  |refine bq (fun hb=>?_) (fun hb=>?_)<;>(try simp only[bX] at hb)<;>(first|exact absurd hb (by decide)|refine gq mE ?_)
  |refine cF fun m hm=>?_;(try rw[aE] at hm);refine gq mE ?_
  |refine cz fun _ _=>?_;refine gq mE ?_
  |refine mg fun _ _=>?_;refine gq mE ?_
  |refine ad.str rfl (af.cat rfl rfl (by assumption)) fun _ _=>?_;refine gq mE ?_
  |refine ad.aH ?_;refine gq mE ?_
  |refine ad.cP ?_;refine gq mE ?_
  |(refine fq ?_))
 ·grind[aR.of_eq]
 rename_i x hx y hy;rw[acz hc (by omega)] at hx;have hz:=Sh c;refine ad.int rfl (af.raw (r:=.int .u8 (Bp c)) rfl rfl (by simp) (by simp) (fun t w=>by grind[Sf])) fun _ _=>?_;refine gq mE ?_
 repeat' (first
  |refine bq (fun hb=>?_) (fun hb=>?_)<;>(try simp only[bX] at hb)<;>(first|exact absurd hb (by decide)|refine gq mE ?_)
  |refine cF fun m hm=>?_;(try rw[aE] at hm);refine gq mE ?_
  |refine cz fun _ _=>?_;refine gq mE ?_
  |refine mg fun _ _=>?_;refine gq mE ?_
  |refine ad.str rfl (af.cat rfl rfl (by assumption)) fun _ _=>?_;refine gq mE ?_
  |refine ad.aH ?_;refine gq mE ?_
  |refine ad.cP ?_;refine gq mE ?_
  |(refine fq ?_))
 all_goals (refine aR.of_eq ?_;subst_vars;simp_all)
theorem Si (s:ByteArray):ah Tryz.prog w0 187 [.v (.string s),.v (.func (.func 127) #[] #[]),.v (.bool true)] (iv (yZ s.data.toList 0)):=by
 refine st acx g9 .v ?_
 repeat' (first
  |refine ad.op rfl (af.X8 rfl) ?_;refine gq g9 ?_
  |refine bq (fun hb=>?_) (fun hb=>?_)<;>(try simp only[bX] at hb)<;>(first|exact absurd hb (by decide)|refine gq g9 ?_)
  |refine cF fun m hm=>?_;(try rw[aE] at hm);refine gq g9 ?_
  |refine cz fun _ _=>?_;refine gq g9 ?_
  |refine mg fun _ _=>?_;refine gq g9 ?_
  |refine ad.str rfl (af.cat rfl rfl (by assumption)) fun _ _=>?_;refine gq g9 ?_
  |refine ad.aH ?_;refine gq g9 ?_
  |refine ad.cP ?_;refine gq g9 ?_
  |(refine fq ?_))
 refine ad.bu (σ:=Nat) 1 1 [] (fun p=>[(1,.v (.func (.func 127) #[] #[])),(2,.v (.bool true)),(10,.pt 0 0 0 0)]) [] (fun p=>[(0,.si s p)])
  (fun p=>p<=s.size/\yZ s.data.toList 0=yZ (s.data.toList.drop p) p) (fun p=>s.size - p) 0 ⟨by omega,by simp⟩ rfl
  ⟨⟨.ao rfl .v,.ao rfl .v,.ao rfl (.pt (by decide)),trivial⟩,rfl,⟨.inl ⟨_,rfl,.same trivial⟩,trivial⟩,rfl,rfl,rfl⟩ ?_
 rintro pos ⟨h1,h2⟩;refine gq g9 ?_;refine ad.MI rfl rfl rfl (fun hp j c p hj hc xZ=>?_) (fun hp=>?_)
 ·obtain⟨k0,k1,k2⟩:=WC hp hc xZ;refine gq g9 ?_
  repeat' (first
   |refine ad.bif rfl (af.aw rfl (WD _ k0) ⟨.v,trivial⟩) (fun _=>?_) (fun _=>?_)<;>refine gq g9 ?_
   |refine bq (fun hb=>?_) (fun hb=>?_)<;>(try simp only[bX] at hb)<;>(first|exact absurd hb (by decide)|refine gq g9 ?_)
   |refine cF fun m hm=>?_;(try rw[aE] at hm);refine gq g9 ?_
   |refine cz fun _ _=>?_;refine gq g9 ?_
   |refine mg fun _ _=>?_;refine gq g9 ?_
   |refine ad.str rfl (af.cat rfl rfl (by assumption)) fun _ _=>?_;refine gq g9 ?_
   |refine ad.aH ?_;refine gq g9 ?_
   |refine ad.cP ?_;refine gq g9 ?_
   |(refine fq ?_))
  ·rename_i hx;have hx:c > 122\/Bq c=false:=by grind
   rw[h2,k1 hx,hj];exact aR.of_eq rfl
  ·rename_i hx;have hx:c<=122/\Bq c=true:=by grind
   obtain⟨e1,e2⟩:=k2 hx.1 hx.2;refine ad.aO (σ:=Nat) _ [] ?_ ?_ ⟨⟨.ao rfl .v,.ao rfl .v,.ao rfl (.pt (by decide)),trivial⟩,rfl,⟨.inl ⟨_,rfl,.same trivial⟩,trivial⟩,rfl,rfl,rfl⟩
   ·grind
   ·omega
 ·refine gq g9 ?_
  repeat' (first
   |refine bq (fun hb=>?_) (fun hb=>?_)<;>(try simp only[bX] at hb)<;>(first|exact absurd hb (by decide)|refine gq g9 ?_)
   |refine cF fun m hm=>?_;(try rw[aE] at hm);refine gq g9 ?_
   |refine cz fun _ _=>?_;refine gq g9 ?_
   |refine mg fun _ _=>?_;refine gq g9 ?_
   |refine ad.str rfl (af.cat rfl rfl (by assumption)) fun _ _=>?_;refine gq g9 ?_
   |refine ad.aH ?_;refine gq g9 ?_
   |refine ad.cP ?_;refine gq g9 ?_
   |(refine fq ?_))
  all_goals (rw[h2,List.drop_eq_nil_of_le (by grind[oK])];exact aR.of_eq rfl)
theorem WE (s:ByteArray):ah Tryz.prog w0 126 [.v (.string s),.v (.func (.func 127) #[] #[])] (iv (yZ s.data.toList 0)):=by
 refine st acy YZ .v ?_
 repeat' (first
  |refine ig YZ (af.aw rfl (Si _) ⟨.v,.v,.v,trivial⟩) fun _ _=>?_
  |(refine fq ?_))
 all_goals (subst_vars;exact jD rfl)
theorem ext1 (s:ByteArray) {c:UInt8}{r:List UInt8}(h:s.data.toList=c::r):(s.extract 1 s.size).data.toList=r:=by
 have e:s.size=s.data.toList.length:=oK s;rw[ByteArray.data_extract,Array.toList_extract,h,e,h];simp[List.extract]
theorem Y2 (s:ByteArray) (hs:s.size<=1099511627776):ah Tryz.prog w0 65 [.v (.string s),.v (.int .u8 1)] (.v (.bool (C8 s.data.toList))):=by
 have bS:=oK s;have tt:=toL_nil;have r7:=toL_eq s;have hx:=@ext1 s;refine st ag2 vR .v ?_;rcases hl:s.data.toList with _|⟨c,rest⟩
 all_goals
  rw[hl] at bS;simp only[List.length_nil,List.length_cons] at bS
  repeat' (first
   |refine ad.int rfl (af.RQ rfl rfl (H2 hl)) fun _ _=>?_;refine gq vR ?_
   |refine ad.int rfl (af.aw rfl (Y0 _) ⟨.v,trivial⟩) fun _ _=>?_;refine gq vR ?_
   |(refine ad.int rfl (af.raw (r:=.int .u8 (if qu (c.toNat:Int) then 1 else 0)) rfl rfl (by simp) (by simp) (fun t w=>by grind[Sg])) fun _ _=>?_;refine gq vR ?_)
   |refine ad.str rfl (af.agO (h:=(s.size:Int)) rfl rfl rfl (by omega) (by omega) (by omega)) fun _ _=>?_;refine gq vR ?_
   |refine ad.int rfl (af.aw rfl (WE _) ⟨.v,.v,trivial⟩) fun _ _=>?_;refine gq vR ?_
   |refine bq (fun hb=>?_) (fun hb=>?_)<;>(try simp only[bX] at hb)<;>(first|exact absurd hb (by decide)|refine gq vR ?_)
   |refine cF fun m hm=>?_;(try rw[aE] at hm);refine gq vR ?_
   |refine cz fun _ _=>?_;refine gq vR ?_
   |refine mg fun _ _=>?_;refine gq vR ?_
   |refine ad.str rfl (af.cat rfl rfl (by assumption)) fun _ _=>?_;refine gq vR ?_
   |refine ad.aH ?_;refine gq vR ?_
   |refine ad.cP ?_;refine gq vR ?_
   |(refine fq ?_))
 all_goals try (exfalso;simp_all;done)
 all_goals try (exfalso;simp_all;omega;done)
 ·exact eA rfl
 ·have h:¬ rest.length < 40:=by omega
  exact eA (by simp[C8,h])
 ·rename_i a1 a2 c1 e1 c2 e2 c3 e3;have h:qu c.toNat=false:=by
   cases h:qu c.toNat with
   |false=>rfl
   |true=>rw[h] at e3;simp at e3;omega
  exact eA (by simp[C8,h])
 all_goals
  rename_i a1 a2 c1 e1 c2 e2 c3 e3 a3 s1 e4 c5 e5;have h:qu c.toNat=true:=by grind[qu]
  have h2:s1.data.toList=rest:=by rw[e4];exact hx hl
  have hn:=Lk rest 0 (by omega);rw[h2] at e5;have h3:rest.length < 40:=by omega
  refine eA ?_;simp only[C8,h];rw[<-hn,<-e5];simp[h3];omega
theorem vS (s:ByteArray) (hs:s.size<=1099511627776):ah Tryz.prog w0 31 [.v (.string s)] (.v (.bool (qO s))):=by
 refine st ag4 YY .v ?_
 repeat' (first
  |refine bg YY (af.aw rfl (Y2 _ hs) ⟨.v,.v,trivial⟩) (fun _=>?_) fun _=>?_
  |refine bg YY (af.aw rfl (Y1 _) ⟨.v,trivial⟩) (fun _=>?_) fun _=>?_
  |(refine fq ?_))
 all_goals (refine eA ?_;simp_all[qO])
end
end
end Go.Proofs.YtbpabjmnhggajaaGreat
