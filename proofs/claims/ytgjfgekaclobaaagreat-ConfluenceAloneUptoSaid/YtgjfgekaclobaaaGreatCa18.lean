import Derived.Laws.RangeString
import Derived.Laws.Strings
import Derived.Test.YtgjfgekaclobaaaGreatCa17
namespace Go.Proofs.YtgjfgekaclobaaaGreat
set_option linter.unusedVariables false
set_option linter.unusedSimpArgs false
open Go.RowKit
section
set_option maxRecDepth 100000
attribute [local irreducible] ah aK ae aa
def T5:CF Tryz.f275:=⟨_,by conv=>lhs;cbv⟩
theorem adb:aT Tryz.prog 275 T5.1 Tryz.f275.ntmps:=bX Tryz.func275 T5.2 Tryz.call275
def ZL:List Nat:=[0,10,2,3,19]
def T6:CF Tryz.f277:=⟨_,by conv=>lhs;cbv⟩
theorem ade:aT Tryz.prog 277 T6.1 Tryz.f277.ntmps:=bX Tryz.func277 T6.2 Tryz.call277
def CE:List Nat:=[0,2]
def T7:CF Tryz.f201:=⟨_,by conv=>lhs;cbv⟩
theorem adf:aT Tryz.prog 201 T7.1 Tryz.f201.ntmps:=bX Tryz.func201 T7.2 Tryz.call201
def w6:List Nat:=[0,4,1,19]
def T8:CF Tryz.f202:=⟨_,by conv=>lhs;cbv⟩
theorem adg:aT Tryz.prog 202 T8.1 Tryz.f202.ntmps:=bX Tryz.func202 T8.2 Tryz.call202
def ZM:List Nat:=[3,4,2,0]
def T9:CF Tryz.f134:=⟨_,by conv=>lhs;cbv⟩
theorem adh:aT Tryz.prog 134 T9.1 Tryz.f134.ntmps:=bX Tryz.func134 T9.2 Tryz.call134
def QL:List Nat:=[0,2]
def T_:CF Tryz.f327:=⟨_,by conv=>lhs;cbv⟩
theorem adi:aT Tryz.prog 327 T_.1 Tryz.f327.ntmps:=bX Tryz.func327 T_.2 Tryz.call327
def ve:List Nat:=[11,6,0,10,12,1,8,2,19,7]
def Ua:CF Tryz.f276:=⟨_,by conv=>lhs;cbv⟩
theorem adj:aT Tryz.prog 276 Ua.1 Tryz.f276.ntmps:=bX Tryz.func276 Ua.2 Tryz.call276
def ZN:List Nat:=[4,0,1]
def oz (c:Int):Bool:=decide (97<=c) && decide (c<=122)
def Aj (c:Int):Bool:=decide (65<=c) && decide (c<=90)
def Ak (c:Int):Bool:=decide (48<=c) && decide (c<=57)
def zn (c:Int):Int:=if oz c then 1 else if Aj c || c == 95 then 2 else if Ak c then 4 else 0
def w7 (c:Int):Bool:=oz c || Aj c || Ak c || c == 95
def Ow (c:UInt8):Bool:=w7 c.toNat
def QM (s:ByteArray):Bool:=s.toList == ((⟨#[99,111,110,115,116,114,97,105,110,116]⟩:ByteArray)).toList || s.toList == ((⟨#[116,114,117,101]⟩:ByteArray)).toList || s.toList == ((⟨#[102,97,105,108]⟩:ByteArray)).toList || s.toList == ((⟨#[105,115]⟩:ByteArray)).toList || s.toList == ((⟨#[105,110,116]⟩:ByteArray)).toList || s.toList == ((⟨#[103,114,111,117,110,100]⟩:ByteArray)).toList
def Bn (l:List UInt8):Bool:=match l with
 |[]=>false
 |c::r=>decide (r.length < 40) && oz c.toNat && r.all Ow
def mJ (s:ByteArray):Bool:=Bn s.data.toList && !QM s
def w8:List UInt8->Int->Int
 |[],_=>-1
 |c::l,p=>if Ow c then w8 l (p+1) else p
theorem IJ:∀ (l:List UInt8) (p:Int),0<=p->decide (w8 l p < 0)=l.all Ow
 |[],p,h=>rfl
 |c::l,p,h=>by
  simp only [w8,List.all_cons]
  split
  ·rename_i hc;rw [IJ l _ (by omega),hc];rfl
  ·rename_i hc;simp [hc];omega
theorem toL_eq (s:ByteArray):s.toList=s.data.toList:=ByteArray.toList_eq s
theorem toL_nil:ByteArray.toList ⟨#[]⟩=[]:=by rw [toL_eq]
theorem FN {l:List UInt8}{c:UInt8}{r:List UInt8}(h:l=c::r):idx l 0=some c:=by subst h;rfl
theorem nJ (s:ByteArray):s.size=s.data.toList.length:=(Array.length_toList).symm
theorem QN (s:ByteArray) (pos:Nat) (h:pos < s.size):s.data.toList.drop pos=s.get! pos::s.data.toList.drop (pos+1):=by
 have h1:pos < s.data.toList.length:=by rw [<-nJ];exact h
 rw [List.drop_eq_getElem_cons h1]
 congr 1
 have h2:pos < s.data.size:=h
 simp only [Array.getElem_toList,ByteArray.get!]
 exact (getElem!_pos s.data pos h2).symm
theorem get_at (s:ByteArray) (pos:Nat) (h:pos < s.size):s[pos]'h=s.get! pos:=by
 have h2:pos < s.data.size:=h
 show s.data[pos]'h2=s.data[pos]!
 exact (getElem!_pos s.data pos h2).symm
theorem JX (s:ByteArray) (i:Nat) (h:128<=(s.get! i).toNat):128<=(Utf8.decode s i).1:=by
 unfold Utf8.decode
 simp only [Nat.add_zero]
 repeat' split
 all_goals first|omega|simp_all [Utf8.runeError]<;>omega
theorem XQ {s:ByteArray}{pos p:Nat}{c:Int}(h:pos < s.size) (hc:c=((Utf8.decode s pos).1:Nat)) (hp:p=pos+(Utf8.decode s pos).2) :
  0<=c/\((c > 122\/w7 c=false)->w8 (s.data.toList.drop pos) pos=pos)/\(c<=122->w7 c=true->p=pos+1/\w8 (s.data.toList.drop pos) pos=w8 (s.data.toList.drop (pos+1)) ((pos+1:Nat):Int)):=by
 rw [QN s pos h,w8]
 by_cases hb:(s.get! pos).toNat < 128
 ·have hd:=decode_ascii s pos h (by rw [get_at];exact hb)
  rw [get_at] at hd
  rw [hd] at hc hp
  simp only at hc hp
  subst hc
  refine⟨by omega,fun h=>by rw [if_neg];intro h2;unfold Ow w7 oz Aj Ak at h2;unfold w7 oz Aj Ak at h;simp at h h2;omega,fun h1 h2=>⟨hp,by rw [if_pos (by exact h2)];rfl⟩⟩
 ·have:=JX s pos (by omega)
  refine⟨by omega,fun h=>by rw [if_neg];intro h2;unfold Ow w7 oz Aj Ak at h2;simp at h2;omega,fun h1 h2=>by omega⟩
section
variable {w0:World}{ρ:Hd}
theorem ZO (c:Int):ah Tryz.prog w0 275 [.v (.int .u8 c)] (.v (.int .u8 (zn c))):=by
 refine adb.bu (by simp [Tryz.ntmps275]) (.v) ?_
 refine gq ZL ?_
 repeat' (first
  |(refine bq (fun hb=>?_) (fun hb=>?_)<;>(try simp only [aM] at hb)<;>(first|refine gq ZL ?_))
  |(refine fq ?_))
 all_goals (refine bp.of_eq ?_;simp_all [zn,oz,Aj,Ak];try omega)
theorem ZP (s:ByteArray):ah Tryz.prog w0 202 [.v (.string s)] (.v (.bool (QM s))):=by
 refine adg.bu (by simp [Tryz.ntmps202]) (.v) ?_
 refine gq ZM ?_
 repeat' (first
  |(refine bq (fun hb=>?_) (fun hb=>?_)<;>(try simp only [aM] at hb)<;>(first|refine gq ZM ?_))
  |(refine fq ?_))
 all_goals (refine bp.of_eq ?_;simp_all [QM])
theorem adk {c:Int}(h1:0<=c) (h2:c<=255):IntKind.u8.wrap c=c:=by
 unfold IntKind.wrap
 simp [IntKind.bits,IntKind.signed]
 omega
theorem QP (P:Program) (w:World) (t:TypeId) (c:Int):(binOp .and t (.int .u8 (zn c)) (.int .u8 7)).run P w=.ok (.int .u8 (zn c)) w:=by
 unfold zn
 (repeat' split)<;>rfl
theorem QQ (P:Program) (w:World) (t:TypeId) (c:Int):(binOp .and t (.int .u8 (zn c)) (.int .u8 1)).run P w=.ok (.int .u8 (if oz c then 1 else 0)) w:=by
 unfold zn
 (repeat' split)<;>rfl
theorem QS (c:Int):zn c=0 ↔ w7 c=false:=by
 unfold zn w7
 cases oz c<;>cases Aj c<;>cases Ak c<;>cases h:(c == 95)<;>simp
theorem XT (c:Int) (hc:0<=c):ah Tryz.prog w0 277 [.v (.int .i32 c)] (.v (.bool (decide (c > 122) || !w7 c))):=by
 refine ade.bu (by simp [Tryz.ntmps277]) (.v) ?_
 refine gq CE ?_
 repeat' (first
  |(refine aa.int rfl (ae.aL rfl (ZO _) ⟨.v,trivial⟩) fun _ _=>?_;refine gq CE ?_)
  |(refine aa.int rfl (ae.conv rfl) fun _ _=>?_;refine gq CE ?_)
  |(refine bq (fun hb=>?_) (fun hb=>?_)<;>(try simp only [aM] at hb)<;>(first|refine gq CE ?_))
  |(refine fq ?_))
 ·refine bp.of_eq ?_;simp_all
 rename_i x hx y hy
 rw [adk hc (by omega)] at hx
 have hz:=QS c
 refine aa.int rfl (ae.raw (r:=.int .u8 (zn c)) rfl rfl (by simp) (by simp) (fun t w=>by rw [hy,hx];exact QP _ _ _ _)) fun _ _=>?_
 refine gq CE ?_
 repeat' (first
  |(refine bq (fun hb=>?_) (fun hb=>?_)<;>(try simp only [aM] at hb)<;>(first|refine gq CE ?_))
  |(refine fq ?_))
 all_goals (refine bp.of_eq ?_;subst_vars;simp_all)
theorem QT (s:ByteArray):ah Tryz.prog w0 327 [.v (.string s),.v (.func (.func 277) #[] #[]),.v (.bool true)] (iv (w8 s.data.toList 0)):=by
 refine adi.bu (by simp [Tryz.ntmps327]) (.v) ?_
 refine gq ve ?_
 repeat' (first
  |(refine aa.op rfl (ae.Y1 rfl) ?_;refine gq ve ?_)
  )
 refine aa.bP (σ:=Nat) 1 1 [] (fun p=>[(1,.v (.func (.func 277) #[] #[])),(2,.v (.bool true)),(10,.pt 0 0 0 0)]) [] (fun p=>[(0,.si s p)])
  (fun p=>p<=s.size/\w8 s.data.toList 0=w8 (s.data.toList.drop p) p) (fun p=>s.size - p) 0 ⟨by omega,by simp⟩ rfl
  ⟨⟨.aB rfl .v,.aB rfl .v,.aB rfl (.pt (by decide)),trivial⟩,rfl,⟨.inl ⟨_,rfl,.same trivial⟩,trivial⟩,rfl,rfl,rfl⟩ ?_
 rintro pos ⟨h1,h2⟩
 refine gq ve ?_
 refine aa.JO rfl rfl rfl (fun hp j c p hj hc jI=>?_) (fun hp=>?_)
 ·obtain⟨k0,k1,k2⟩:=XQ hp hc jI
  refine gq ve ?_
  repeat' (first
   |(refine aa.bif rfl (ae.aL rfl (XT _ k0) ⟨.v,trivial⟩) (fun _=>?_) (fun _=>?_)<;>refine gq ve ?_)
   |(refine bq (fun hb=>?_) (fun hb=>?_)<;>(try simp only [aM] at hb)<;>(first|exact absurd hb (by decide)|refine gq ve ?_))
   |(refine aa.iB ?_;refine gq ve ?_)
   |(refine fq ?_))
  ·rename_i hx
   have hx:c > 122\/w7 c=false:=by simpa using hx
   rw [h2,k1 hx,hj];exact bp.of_eq rfl
  ·rename_i hx
   have hx:c<=122/\w7 c=true:=by simpa using hx
   obtain⟨e1,e2⟩:=k2 hx.1 hx.2
   refine aa.bm (σ:=Nat) _ [] ?_ ?_ ⟨⟨.aB rfl .v,.aB rfl .v,.aB rfl (.pt (by decide)),trivial⟩,rfl,⟨.inl ⟨_,rfl,.same trivial⟩,trivial⟩,rfl,rfl,rfl⟩
   ·subst e1;exact⟨by omega,by rw [h2,e2]⟩
   ·omega
 ·refine gq ve ?_
  repeat' (first
   |(refine aa.aR ?_;refine gq ve ?_)
   |(refine fq ?_))
  all_goals (rw [h2,List.drop_eq_nil_of_le (by rw [<-nJ];exact hp)];exact bp.of_eq rfl)
theorem XU (s:ByteArray):ah Tryz.prog w0 276 [.v (.string s),.v (.func (.func 277) #[] #[])] (iv (w8 s.data.toList 0)):=by
 refine adj.bu (by simp [Tryz.ntmps276]) (.v) ?_
 refine gq ZN ?_
 repeat' (first
  |(refine aa.int rfl (ae.aL rfl (QT _) ⟨.v,.v,.v,trivial⟩) fun _ _=>?_;refine gq ZN ?_)
  |(refine fq ?_))
 all_goals (subst_vars;exact oU rfl)
theorem ext1 (s:ByteArray) {c:UInt8}{r:List UInt8}(h:s.data.toList=c::r):(s.extract 1 s.size).data.toList=r:=by
 have e:s.size=s.data.toList.length:=nJ s
 rw [ByteArray.data_extract,Array.toList_extract,h,e,h]
 simp [List.extract]
theorem ZQ (s:ByteArray) (hs:s.size<=1099511627776):ah Tryz.prog w0 201 [.v (.string s),.v (.int .u8 1)] (.v (.bool (Bn s.data.toList))):=by
 have bh:=nJ s
 have vf:=toL_nil
 have tX:=toL_eq s
 have hx:=@ext1 s
 refine adf.bu (by simp [Tryz.ntmps201]) (.v) ?_
 refine gq w6 ?_
 rcases hl:s.data.toList with _|⟨c,rest⟩
 all_goals
  rw [hl] at bh
  simp only [List.length_nil,List.length_cons] at bh
  repeat' (first
   |(refine aa.int rfl (ae.Qr rfl rfl (FN hl)) fun _ _=>?_;refine gq w6 ?_)
   |(refine aa.int rfl (ae.aL rfl (ZO _) ⟨.v,trivial⟩) fun _ _=>?_;refine gq w6 ?_)
   |((refine aa.int rfl (ae.raw (r:=.int .u8 (if oz (c.toNat:Int) then 1 else 0)) rfl rfl (by simp) (by simp) (fun t w=>by subst_vars;exact QQ _ _ _ _)) fun _ _=>?_;refine gq w6 ?_))
   |(refine aa.str rfl (ae.ajD (h:=(s.size:Int)) rfl rfl rfl (by omega) (by omega) (by omega)) fun _ _=>?_;refine gq w6 ?_)
   |(refine aa.int rfl (ae.aL rfl (XU _) ⟨.v,.v,trivial⟩) fun _ _=>?_;refine gq w6 ?_)
   |(refine bq (fun hb=>?_) (fun hb=>?_)<;>(try simp only [aM] at hb)<;>(first|refine gq w6 ?_))
   |(refine bL fun m hm=>?_;(try rw [aF] at hm);refine gq w6 ?_)
   |(refine fq ?_))
 all_goals try (exfalso;simp_all;done)
 all_goals try (exfalso;simp_all;omega;done)
 ·exact eQ rfl
 ·have h:¬ rest.length < 40:=by omega
  exact eQ (by simp [Bn,h])
 ·rename_i a1 a2 c1 e1 c2 e2 c3 e3
  have h:oz c.toNat=false:=by
   cases h:oz c.toNat with
   |false=>rfl
   |true=>rw [h] at e3;simp at e3;omega
  exact eQ (by simp [Bn,h])
 all_goals
  rename_i a1 a2 c1 e1 c2 e2 c3 e3 a3 s1 e4 c5 e5
  have h:oz c.toNat=true:=by
   by_cases h:oz (c.toNat:Int)=true
   ·exact h
   ·rw [if_neg h] at e3;omega
  have h2:s1.data.toList=rest:=by rw [e4];exact hx hl
  have hn:=IJ rest 0 (by omega)
  rw [h2] at e5
  have h3:rest.length < 40:=by omega
  refine eQ ?_
  simp only [Bn,h]
  rw [<-hn,<-e5]
  simp [h3]
  omega
theorem tY (s:ByteArray) (hs:s.size<=1099511627776):ah Tryz.prog w0 134 [.v (.string s)] (.v (.bool (mJ s))):=by
 refine adh.bu (by simp [Tryz.ntmps134]) (.v) ?_
 refine gq QL ?_
 repeat' (first
  |(refine aa.bif rfl (ae.aL rfl (ZQ _ hs) ⟨.v,.v,trivial⟩) (fun _=>?_) (fun _=>?_)<;>refine gq QL ?_)
  |(refine aa.bif rfl (ae.aL rfl (ZP _) ⟨.v,trivial⟩) (fun _=>?_) (fun _=>?_)<;>refine gq QL ?_)
  |(refine fq ?_))
 all_goals (refine eQ ?_;simp_all [mJ])
end
end
end Go.Proofs.YtgjfgekaclobaaaGreat
