import Derived.Laws.RangeString
import Derived.Laws.Strings
import Derived.Test.YtgjfgekaclobaaaGreatCm23
namespace Go.Proofs.YtgjfgekaclobaaaGreat
set_option linter.unusedVariables false
set_option linter.unusedSimpArgs false
open Go.RowKit
section
set_option maxRecDepth 100000
attribute [local irreducible] av aE ad ab
def NR:CF Tryz.f275:=⟨_,by conv=>lhs;cbv⟩
theorem UH:bQ Tryz.prog 275 NR.1 Tryz.f275.ntmps:=fh Tryz.func275 NR.2 Tryz.call275
def tw:List Nat:=[0,10,2,3,19]
def NS:CF Tryz.f277:=⟨_,by conv=>lhs;cbv⟩
theorem UI:bQ Tryz.prog 277 NS.1 Tryz.f277.ntmps:=fh Tryz.func277 NS.2 Tryz.call277
def jG:List Nat:=[0,2]
def NT:CF Tryz.f201:=⟨_,by conv=>lhs;cbv⟩
theorem UJ:bQ Tryz.prog 201 NT.1 Tryz.f201.ntmps:=fh Tryz.func201 NT.2 Tryz.call201
def mX:List Nat:=[0,4,1,19]
def NU:CF Tryz.f202:=⟨_,by conv=>lhs;cbv⟩
theorem UK:bQ Tryz.prog 202 NU.1 Tryz.f202.ntmps:=fh Tryz.func202 NU.2 Tryz.call202
def tz:List Nat:=[3,4,2,0]
def NV:CF Tryz.f134:=⟨_,by conv=>lhs;cbv⟩
theorem UL:bQ Tryz.prog 134 NV.1 Tryz.f134.ntmps:=fh Tryz.func134 NV.2 Tryz.call134
def qd:List Nat:=[0,2]
def NW:CF Tryz.f327:=⟨_,by conv=>lhs;cbv⟩
theorem UM:bQ Tryz.prog 327 NW.1 Tryz.f327.ntmps:=fh Tryz.func327 NW.2 Tryz.call327
def eT:List Nat:=[11,6,0,10,12,1,8,2,19,7]
def NY:CF Tryz.f276:=⟨_,by conv=>lhs;cbv⟩
theorem UN:bQ Tryz.prog 276 NY.1 Tryz.f276.ntmps:=fh Tryz.func276 NY.2 Tryz.call276
def rL:List Nat:=[4,0,1]
def mh (c:Int):Bool:=decide (97<=c) && decide (c<=122)
def wC (c:Int):Bool:=decide (65<=c) && decide (c<=90)
def wD (c:Int):Bool:=decide (48<=c) && decide (c<=57)
def vz (c:Int):Int:=if mh c then 1 else if wC c || c == 95 then 2 else if wD c then 4 else 0
def tA (c:Int):Bool:=mh c || wC c || wD c || c == 95
def Jr (c:UInt8):Bool:=tA c.toNat
def La (s:ByteArray):Bool:=s.toList == ((⟨#[99,111,110,115,116,114,97,105,110,116]⟩:ByteArray)).toList || s.toList == ((⟨#[116,114,117,101]⟩:ByteArray)).toList || s.toList == ((⟨#[102,97,105,108]⟩:ByteArray)).toList || s.toList == ((⟨#[105,115]⟩:ByteArray)).toList || s.toList == ((⟨#[105,110,116]⟩:ByteArray)).toList || s.toList == ((⟨#[103,114,111,117,110,100]⟩:ByteArray)).toList
def xD (l:List UInt8):Bool:=match l with
 |[]=>false
 |c::r=>decide (r.length < 40) && mh c.toNat && r.all Jr
def pG (s:ByteArray):Bool:=xD s.data.toList && !La s
def tB:List UInt8->Int->Int
 |[],_=>-1
 |c::l,p=>if Jr c then tB l (p+1) else p
theorem Ec:∀ (l:List UInt8) (p:Int),0<=p->decide (tB l p < 0)=l.all Jr
 |[],p,h=>rfl
 |c::l,p,h=>by
  simp only [tB,List.all_cons]
  split
  ·rename_i hc;rw [Ec l _ (by omega),hc];rfl
  ·rename_i hc;simp [hc];omega
theorem toL_eq (s:ByteArray):s.toList=s.data.toList:=ByteArray.toList_eq s
theorem toL_nil:ByteArray.toList ⟨#[]⟩=[]:=by rw [toL_eq]
theorem BJ {l:List UInt8}{c:UInt8}{r:List UInt8}(h:l=c::r):idx l 0=some c:=by subst h;rfl
theorem lH (s:ByteArray):s.size=s.data.toList.length:=(Array.length_toList).symm
theorem Lb (s:ByteArray) (pos:Nat) (h:pos < s.size):s.data.toList.drop pos=s.get! pos::s.data.toList.drop (pos+1):=by
 have h1:pos < s.data.toList.length:=by rw [<-lH];exact h
 rw [List.drop_eq_getElem_cons h1]
 congr 1
 have h2:pos < s.data.size:=h
 simp only [Array.getElem_toList,ByteArray.get!]
 exact (getElem!_pos s.data pos h2).symm
theorem get_at (s:ByteArray) (pos:Nat) (h:pos < s.size):s[pos]'h=s.get! pos:=by
 have h2:pos < s.data.size:=h
 show s.data[pos]'h2=s.data[pos]!
 exact (getElem!_pos s.data pos h2).symm
theorem Ff (s:ByteArray) (i:Nat) (h:128<=(s.get! i).toNat):128<=(Utf8.decode s i).1:=by
 unfold Utf8.decode
 simp only [Nat.add_zero]
 repeat' split
 all_goals first|omega|simp_all [Utf8.runeError]<;>omega
theorem QG {s:ByteArray}{pos p:Nat}{c:Int}(h:pos < s.size) (hc:c=((Utf8.decode s pos).1:Nat)) (hp:p=pos+(Utf8.decode s pos).2) :
  0<=c/\((c > 122\/tA c=false)->tB (s.data.toList.drop pos) pos=pos)/\(c<=122->tA c=true->p=pos+1/\tB (s.data.toList.drop pos) pos=tB (s.data.toList.drop (pos+1)) ((pos+1:Nat):Int)):=by
 rw [Lb s pos h,tB]
 by_cases hb:(s.get! pos).toNat < 128
 ·have hd:=decode_ascii s pos h (by rw [get_at];exact hb)
  rw [get_at] at hd
  rw [hd] at hc hp
  simp only at hc hp
  subst hc
  refine⟨by omega,fun h=>by rw [if_neg];intro h2;unfold Jr tA mh wC wD at h2;unfold tA mh wC wD at h;simp at h h2;omega,fun h1 h2=>⟨hp,by rw [if_pos (by exact h2)];rfl⟩⟩
 ·have:=Ff s pos (by omega)
  refine⟨by omega,fun h=>by rw [if_neg];intro h2;unfold Jr tA mh wC wD at h2;simp at h2;omega,fun h1 h2=>by omega⟩
section
variable {w0:World}{ρ:Hd}
theorem Ss (c:Int):av Tryz.prog w0 275 [.v (.int .u8 c)] (.v (.int .u8 (vz c))):=by
 refine UH.eQ (by simp [Tryz.ntmps275]) (.v) ?_
 refine gq tw ?_
 repeat' (first
  |(refine bq (fun hb=>?_) (fun hb=>?_)<;>(try simp only [bS] at hb)<;>(first|exact absurd hb (by decide)|refine gq tw ?_))
  |(refine bK fun m hm=>?_;(try rw [aF] at hm);refine gq tw ?_)
  |(refine bH fun _ _=>?_;refine gq tw ?_)
  |(refine dx fun _ _=>?_;refine gq tw ?_)
  |(refine ab.str rfl (ad.cat rfl rfl (by assumption)) fun _ _=>?_;refine gq tw ?_)
  |(refine ab.bh ?_;refine gq tw ?_)
  |(refine ab.bO ?_;refine gq tw ?_)
  |(refine fq ?_))
 all_goals (refine bX.of_eq ?_;simp_all [vz,mh,wC,wD];try omega)
theorem Su (s:ByteArray):av Tryz.prog w0 202 [.v (.string s)] (.v (.bool (La s))):=by
 refine UK.eQ (by simp [Tryz.ntmps202]) (.v) ?_
 refine gq tz ?_
 repeat' (first
  |(refine bq (fun hb=>?_) (fun hb=>?_)<;>(try simp only [bS] at hb)<;>(first|exact absurd hb (by decide)|refine gq tz ?_))
  |(refine bK fun m hm=>?_;(try rw [aF] at hm);refine gq tz ?_)
  |(refine bH fun _ _=>?_;refine gq tz ?_)
  |(refine dx fun _ _=>?_;refine gq tz ?_)
  |(refine ab.str rfl (ad.cat rfl rfl (by assumption)) fun _ _=>?_;refine gq tz ?_)
  |(refine ab.bh ?_;refine gq tz ?_)
  |(refine ab.bO ?_;refine gq tz ?_)
  |(refine fq ?_))
 all_goals (refine bX.of_eq ?_;simp_all [La])
theorem UO {c:Int}(h1:0<=c) (h2:c<=255):IntKind.u8.wrap c=c:=by
 unfold IntKind.wrap
 simp [IntKind.bits,IntKind.signed]
 omega
theorem Lc (P:Program) (w:World) (t:TypeId) (c:Int):(binOp .and t (.int .u8 (vz c)) (.int .u8 7)).run P w=.ok (.int .u8 (vz c)) w:=by
 unfold vz
 (repeat' split)<;>rfl
theorem Ld (P:Program) (w:World) (t:TypeId) (c:Int):(binOp .and t (.int .u8 (vz c)) (.int .u8 1)).run P w=.ok (.int .u8 (if mh c then 1 else 0)) w:=by
 unfold vz
 (repeat' split)<;>rfl
theorem Le (c:Int):vz c=0 ↔ tA c=false:=by
 unfold vz tA
 cases mh c<;>cases wC c<;>cases wD c<;>cases h:(c == 95)<;>simp
theorem QH (c:Int) (hc:0<=c):av Tryz.prog w0 277 [.v (.int .i32 c)] (.v (.bool (decide (c > 122) || !tA c))):=by
 refine UI.eQ (by simp [Tryz.ntmps277]) (.v) ?_
 refine gq jG ?_
 repeat' (first
  |(refine ab.int rfl (ad.b9 rfl (Ss _) ⟨.v,trivial⟩) fun _ _=>?_;refine gq jG ?_)
  |(refine ab.int rfl (ad.conv rfl) fun _ _=>?_;refine gq jG ?_)
  |(refine bq (fun hb=>?_) (fun hb=>?_)<;>(try simp only [bS] at hb)<;>(first|exact absurd hb (by decide)|refine gq jG ?_))
  |(refine bK fun m hm=>?_;(try rw [aF] at hm);refine gq jG ?_)
  |(refine bH fun _ _=>?_;refine gq jG ?_)
  |(refine dx fun _ _=>?_;refine gq jG ?_)
  |(refine ab.str rfl (ad.cat rfl rfl (by assumption)) fun _ _=>?_;refine gq jG ?_)
  |(refine ab.bh ?_;refine gq jG ?_)
  |(refine ab.bO ?_;refine gq jG ?_)
  |(refine fq ?_))
 ·refine bX.of_eq ?_;simp_all
 rename_i x hx y hy
 rw [UO hc (by omega)] at hx
 have hz:=Le c
 refine ab.int rfl (ad.raw (r:=.int .u8 (vz c)) rfl rfl (by simp) (by simp) (fun t w=>by rw [hy,hx];exact Lc _ _ _ _)) fun _ _=>?_
 refine gq jG ?_
 repeat' (first
  |(refine bq (fun hb=>?_) (fun hb=>?_)<;>(try simp only [bS] at hb)<;>(first|exact absurd hb (by decide)|refine gq jG ?_))
  |(refine bK fun m hm=>?_;(try rw [aF] at hm);refine gq jG ?_)
  |(refine bH fun _ _=>?_;refine gq jG ?_)
  |(refine dx fun _ _=>?_;refine gq jG ?_)
  |(refine ab.str rfl (ad.cat rfl rfl (by assumption)) fun _ _=>?_;refine gq jG ?_)
  |(refine ab.bh ?_;refine gq jG ?_)
  |(refine ab.bO ?_;refine gq jG ?_)
  |(refine fq ?_))
 all_goals (refine bX.of_eq ?_;subst_vars;simp_all)
theorem Lf (s:ByteArray):av Tryz.prog w0 327 [.v (.string s),.v (.func (.func 277) #[] #[]),.v (.bool true)] (iv (tB s.data.toList 0)):=by
 refine UM.eQ (by simp [Tryz.ntmps327]) (.v) ?_
 refine gq eT ?_
 repeat' (first
  |(refine ab.op rfl (ad.RR rfl) ?_;refine gq eT ?_)
  |(refine bq (fun hb=>?_) (fun hb=>?_)<;>(try simp only [bS] at hb)<;>(first|exact absurd hb (by decide)|refine gq eT ?_))
  |(refine bK fun m hm=>?_;(try rw [aF] at hm);refine gq eT ?_)
  |(refine bH fun _ _=>?_;refine gq eT ?_)
  |(refine dx fun _ _=>?_;refine gq eT ?_)
  |(refine ab.str rfl (ad.cat rfl rfl (by assumption)) fun _ _=>?_;refine gq eT ?_)
  |(refine ab.bh ?_;refine gq eT ?_)
  |(refine ab.bO ?_;refine gq eT ?_)
  |(refine fq ?_))
 refine ab.iK (σ:=Nat) 1 1 [] (fun p=>[(1,.v (.func (.func 277) #[] #[])),(2,.v (.bool true)),(10,.pt 0 0 0 0)]) [] (fun p=>[(0,.si s p)])
  (fun p=>p<=s.size/\tB s.data.toList 0=tB (s.data.toList.drop p) p) (fun p=>s.size - p) 0 ⟨by omega,by simp⟩ rfl
  ⟨⟨.aJ rfl .v,.aJ rfl .v,.aJ rfl (.pt (by decide)),trivial⟩,rfl,⟨.inl ⟨_,rfl,.same trivial⟩,trivial⟩,rfl,rfl,rfl⟩ ?_
 rintro pos ⟨h1,h2⟩
 refine gq eT ?_
 refine ab.E8 rfl rfl rfl (fun hp j c p hj hc hpp=>?_) (fun hp=>?_)
 ·obtain⟨k0,k1,k2⟩:=QG hp hc hpp
  refine gq eT ?_
  repeat' (first
   |(refine ab.bif rfl (ad.b9 rfl (QH _ k0) ⟨.v,trivial⟩) (fun _=>?_) (fun _=>?_)<;>refine gq eT ?_)
   |(refine bq (fun hb=>?_) (fun hb=>?_)<;>(try simp only [bS] at hb)<;>(first|exact absurd hb (by decide)|refine gq eT ?_))
   |(refine bK fun m hm=>?_;(try rw [aF] at hm);refine gq eT ?_)
   |(refine bH fun _ _=>?_;refine gq eT ?_)
   |(refine dx fun _ _=>?_;refine gq eT ?_)
   |(refine ab.str rfl (ad.cat rfl rfl (by assumption)) fun _ _=>?_;refine gq eT ?_)
   |(refine ab.bh ?_;refine gq eT ?_)
   |(refine ab.bO ?_;refine gq eT ?_)
   |(refine fq ?_))
  ·rename_i hx
   have hx:c > 122\/tA c=false:=by simpa using hx
   rw [h2,k1 hx,hj];exact bX.of_eq rfl
  ·rename_i hx
   have hx:c<=122/\tA c=true:=by simpa using hx
   obtain⟨e1,e2⟩:=k2 hx.1 hx.2
   refine ab.d_ (σ:=Nat) _ [] ?_ ?_ ⟨⟨.aJ rfl .v,.aJ rfl .v,.aJ rfl (.pt (by decide)),trivial⟩,rfl,⟨.inl ⟨_,rfl,.same trivial⟩,trivial⟩,rfl,rfl,rfl⟩
   ·subst e1;exact⟨by omega,by rw [h2,e2]⟩
   ·omega
 ·refine gq eT ?_
  repeat' (first
   |(refine bq (fun hb=>?_) (fun hb=>?_)<;>(try simp only [bS] at hb)<;>(first|exact absurd hb (by decide)|refine gq eT ?_))
   |(refine bK fun m hm=>?_;(try rw [aF] at hm);refine gq eT ?_)
   |(refine bH fun _ _=>?_;refine gq eT ?_)
   |(refine dx fun _ _=>?_;refine gq eT ?_)
   |(refine ab.str rfl (ad.cat rfl rfl (by assumption)) fun _ _=>?_;refine gq eT ?_)
   |(refine ab.bh ?_;refine gq eT ?_)
   |(refine ab.bO ?_;refine gq eT ?_)
   |(refine fq ?_))
  all_goals (rw [h2,List.drop_eq_nil_of_le (by rw [<-lH];exact hp)];exact bX.of_eq rfl)
theorem QJ (s:ByteArray):av Tryz.prog w0 276 [.v (.string s),.v (.func (.func 277) #[] #[])] (iv (tB s.data.toList 0)):=by
 refine UN.eQ (by simp [Tryz.ntmps276]) (.v) ?_
 refine gq rL ?_
 repeat' (first
  |(refine ab.int rfl (ad.b9 rfl (Lf _) ⟨.v,.v,.v,trivial⟩) fun _ _=>?_;refine gq rL ?_)
  |(refine bq (fun hb=>?_) (fun hb=>?_)<;>(try simp only [bS] at hb)<;>(first|exact absurd hb (by decide)|refine gq rL ?_))
  |(refine bK fun m hm=>?_;(try rw [aF] at hm);refine gq rL ?_)
  |(refine bH fun _ _=>?_;refine gq rL ?_)
  |(refine dx fun _ _=>?_;refine gq rL ?_)
  |(refine ab.str rfl (ad.cat rfl rfl (by assumption)) fun _ _=>?_;refine gq rL ?_)
  |(refine ab.bh ?_;refine gq rL ?_)
  |(refine ab.bO ?_;refine gq rL ?_)
  |(refine fq ?_))
 all_goals (subst_vars;exact vw rfl)
theorem ext1 (s:ByteArray) {c:UInt8}{r:List UInt8}(h:s.data.toList=c::r):(s.extract 1 s.size).data.toList=r:=by
 have e:s.size=s.data.toList.length:=lH s
 rw [ByteArray.data_extract,Array.toList_extract,h,e,h]
 simp [List.extract]
theorem Sv (s:ByteArray) (hs:s.size<=1099511627776):av Tryz.prog w0 201 [.v (.string s),.v (.int .u8 1)] (.v (.bool (xD s.data.toList))):=by
 have aZ:=lH s
 have KB:=toL_nil
 have tC:=toL_eq s
 have hx:=@ext1 s
 refine UJ.eQ (by simp [Tryz.ntmps201]) (.v) ?_
 refine gq mX ?_
 rcases hl:s.data.toList with _|⟨c,rest⟩
 all_goals
  rw [hl] at aZ
  simp only [List.length_nil,List.length_cons] at aZ
  repeat' (first
   |(refine ab.int rfl (ad.KL rfl rfl (BJ hl)) fun _ _=>?_;refine gq mX ?_)
   |(refine ab.int rfl (ad.b9 rfl (Ss _) ⟨.v,trivial⟩) fun _ _=>?_;refine gq mX ?_)
   |((refine ab.int rfl (ad.raw (r:=.int .u8 (if mh (c.toNat:Int) then 1 else 0)) rfl rfl (by simp) (by simp) (fun t w=>by subst_vars;exact Ld _ _ _ _)) fun _ _=>?_;refine gq mX ?_))
   |(refine ab.str rfl (ad.aaj (h:=(s.size:Int)) rfl rfl rfl (by omega) (by omega) (by omega)) fun _ _=>?_;refine gq mX ?_)
   |(refine ab.int rfl (ad.b9 rfl (QJ _) ⟨.v,.v,trivial⟩) fun _ _=>?_;refine gq mX ?_)
   |(refine bq (fun hb=>?_) (fun hb=>?_)<;>(try simp only [bS] at hb)<;>(first|exact absurd hb (by decide)|refine gq mX ?_))
   |(refine bK fun m hm=>?_;(try rw [aF] at hm);refine gq mX ?_)
   |(refine bH fun _ _=>?_;refine gq mX ?_)
   |(refine dx fun _ _=>?_;refine gq mX ?_)
   |(refine ab.str rfl (ad.cat rfl rfl (by assumption)) fun _ _=>?_;refine gq mX ?_)
   |(refine ab.bh ?_;refine gq mX ?_)
   |(refine ab.bO ?_;refine gq mX ?_)
   |(refine fq ?_))
 all_goals try (exfalso;simp_all;done)
 all_goals try (exfalso;simp_all;omega;done)
 ·exact su rfl
 ·have h:¬ rest.length < 40:=by omega
  exact su (by simp [xD,h])
 ·rename_i a1 a2 c1 e1 c2 e2 c3 e3
  have h:mh c.toNat=false:=by
   cases h:mh c.toNat with
   |false=>rfl
   |true=>rw [h] at e3;simp at e3;omega
  exact su (by simp [xD,h])
 all_goals
  rename_i a1 a2 c1 e1 c2 e2 c3 e3 a3 s1 e4 c5 e5
  have h:mh c.toNat=true:=by
   by_cases h:mh (c.toNat:Int)=true
   ·exact h
   ·rw [if_neg h] at e3;omega
  have h2:s1.data.toList=rest:=by rw [e4];exact hx hl
  have hn:=Ec rest 0 (by omega)
  rw [h2] at e5
  have h3:rest.length < 40:=by omega
  refine su ?_
  simp only [xD,h]
  rw [<-hn,<-e5]
  simp [h3]
  omega
theorem uO (s:ByteArray) (hs:s.size<=1099511627776):av Tryz.prog w0 134 [.v (.string s)] (.v (.bool (pG s))):=by
 refine UL.eQ (by simp [Tryz.ntmps134]) (.v) ?_
 refine gq qd ?_
 repeat' (first
  |(refine ab.bif rfl (ad.b9 rfl (Sv _ hs) ⟨.v,.v,trivial⟩) (fun _=>?_) (fun _=>?_)<;>refine gq qd ?_)
  |(refine ab.bif rfl (ad.b9 rfl (Su _) ⟨.v,trivial⟩) (fun _=>?_) (fun _=>?_)<;>refine gq qd ?_)
  |(refine bq (fun hb=>?_) (fun hb=>?_)<;>(try simp only [bS] at hb)<;>(first|exact absurd hb (by decide)|refine gq qd ?_))
  |(refine bK fun m hm=>?_;(try rw [aF] at hm);refine gq qd ?_)
  |(refine bH fun _ _=>?_;refine gq qd ?_)
  |(refine dx fun _ _=>?_;refine gq qd ?_)
  |(refine ab.str rfl (ad.cat rfl rfl (by assumption)) fun _ _=>?_;refine gq qd ?_)
  |(refine ab.bh ?_;refine gq qd ?_)
  |(refine ab.bO ?_;refine gq qd ?_)
  |(refine fq ?_))
 all_goals (refine su ?_;simp_all [pG])
end
end
end Go.Proofs.YtgjfgekaclobaaaGreat
