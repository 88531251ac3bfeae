import Derived.Laws.RangeString
import Derived.Laws.Strings
import Derived.Test.YtgphljokbodciaaGreatS13
namespace Go.Proofs.YtgphljokbodciaaGreat
set_option linter.unusedVariables false
set_option linter.unusedSimpArgs false
open Go.RowKit
section
set_option maxRecDepth 100000
attribute [local irreducible] ah aV ad ab
def Pt:CF Tryz.f381:=⟨_,by conv=>lhs;cbv⟩
theorem Zl:aD Tryz.prog 381 Pt.1 Tryz.f381.ntmps:=aO Tryz.func381 Pt.2 Tryz.call381
def U1:List Nat:=[0,10,2,3,19]
def Pu:CF Tryz.f383:=⟨_,by conv=>lhs;cbv⟩
theorem Zm:aD Tryz.prog 383 Pu.1 Tryz.f383.ntmps:=aO Tryz.func383 Pu.2 Tryz.call383
def z_:List Nat:=[0,2]
def Pv:CF Tryz.f281:=⟨_,by conv=>lhs;cbv⟩
theorem Zn:aD Tryz.prog 281 Pv.1 Tryz.f281.ntmps:=aO Tryz.func281 Pv.2 Tryz.call281
def u7:List Nat:=[0,4,1,19]
def Pw:CF Tryz.f282:=⟨_,by conv=>lhs;cbv⟩
theorem Zo:aD Tryz.prog 282 Pw.1 Tryz.f282.ntmps:=aO Tryz.func282 Pw.2 Tryz.call282
def U2:List Nat:=[3,4,2,0]
def Px:CF Tryz.f155:=⟨_,by conv=>lhs;cbv⟩
theorem Zp:aD Tryz.prog 155 Px.1 Tryz.f155.ntmps:=aO Tryz.func155 Px.2 Tryz.call155
def MH:List Nat:=[0,2]
def Py:CF Tryz.f465:=⟨_,by conv=>lhs;cbv⟩
theorem Zq:aD Tryz.prog 465 Py.1 Tryz.f465.ntmps:=aO Tryz.func465 Py.2 Tryz.call465
def tQ:List Nat:=[11,6,0,10,12,1,8,2,19,7]
def Pz:CF Tryz.f382:=⟨_,by conv=>lhs;cbv⟩
theorem Zr:aD Tryz.prog 382 Pz.1 Tryz.f382.ntmps:=aO Tryz.func382 Pz.2 Tryz.call382
def U3:List Nat:=[4,0,1]
def PA:CF Tryz.f299:=⟨_,by conv=>lhs;cbv⟩
theorem Zs:aD Tryz.prog 299 PA.1 Tryz.f299.ntmps:=aO Tryz.func299 PA.2 Tryz.call299
def U4:List Nat:=[0,2]
def PC:CF Tryz.f398:=⟨_,by conv=>lhs;cbv⟩
theorem Zt:aD Tryz.prog 398 PC.1 Tryz.f398.ntmps:=aO Tryz.func398 PC.2 Tryz.call398
def U5:List Nat:=[0,2]
def PD:CF Tryz.f298:=⟨_,by conv=>lhs;cbv⟩
theorem Zu:aD Tryz.prog 298 PD.1 Tryz.f298.ntmps:=aO Tryz.func298 PD.2 Tryz.call298
def ov:List Nat:=[0,3,2,7,39]
def PE:CF Tryz.f300:=⟨_,by conv=>lhs;cbv⟩
theorem Zv:aD Tryz.prog 300 PE.1 Tryz.f300.ntmps:=aO Tryz.func300 PE.2 Tryz.call300
def U6:List Nat:=[0,2]
def PF:CF Tryz.f172:=⟨_,by conv=>lhs;cbv⟩
theorem PG:aD Tryz.prog 172 PF.1 Tryz.f172.ntmps:=aO Tryz.func172 PF.2 Tryz.call172
def xP:List Nat:=[0,2]
def j8 (c:Int):Bool:=decide (97<=c) && decide (c<=122)
def sN (c:Int):Bool:=decide (65<=c) && decide (c<=90)
def xQ (c:Int):Bool:=decide (48<=c) && decide (c<=57)
def w6 (c:Int):Int:=if j8 c then 1 else if sN c || c == 95 then 2 else if xQ c then 4 else 0
def u_ (c:Int):Bool:=j8 c || sN c || xQ c || c == 95
def qK (c:UInt8):Bool:=u_ c.toNat
def CS (s:ByteArray):Bool:=s.toList == ((⟨#[99,111,110,115,116,114,97,105,110,116]⟩:ByteArray)).toList || s.toList == ((⟨#[116,114,117,101]⟩:ByteArray)).toList || s.toList == ((⟨#[102,97,105,108]⟩:ByteArray)).toList || s.toList == ((⟨#[105,115]⟩:ByteArray)).toList || s.toList == ((⟨#[105,110,116]⟩:ByteArray)).toList || s.toList == ((⟨#[103,114,111,117,110,100]⟩:ByteArray)).toList
def wy (l:List UInt8):Bool:=match l with
 |[]=>false
 |c::r=>decide (r.length < 40) && j8 c.toNat && r.all qK
def gJ (s:ByteArray):Bool:=wy s.data.toList && !CS s
def vb:List UInt8->Int->Int
 |[],_=>-1
 |c::l,p=>if qK c then vb l (p+1) else p
theorem Fv:∀ (l:List UInt8) (p:Int),0<=p->decide (vb l p < 0)=l.all qK
 |[],p,h=>rfl
 |c::l,p,h=>by
  simp only [vb,List.all_cons]
  split
  ·rename_i hc;rw [Fv l _ (by omega),hc];rfl
  ·rename_i hc;simp [hc];omega
theorem toL_eq (s:ByteArray):s.toList=s.data.toList:=ByteArray.toList_eq s
theorem toL_nil:ByteArray.toList ⟨#[]⟩=[]:=by rw [toL_eq]
theorem xR {l:List UInt8}{c:UInt8}{r:List UInt8}(h:l=c::r):idx l 0=some c:=by subst h;rfl
theorem j9 (s:ByteArray):s.size=s.data.toList.length:=(Array.length_toList).symm
theorem MI (s:ByteArray) (pos:Nat) (h:pos < s.size):s.data.toList.drop pos=s.get! pos::s.data.toList.drop (pos+1):=by
 have h1:pos < s.data.toList.length:=by rw [<-j9];exact h
 rw [List.drop_eq_getElem_cons h1]
 congr 1
 have h2:pos < s.data.size:=h
 simp only [Array.getElem_toList,ByteArray.get!]
 exact (getElem!_pos s.data pos h2).symm
theorem get_at (s:ByteArray) (pos:Nat) (h:pos < s.size):s[pos]'h=s.get! pos:=by
 have h2:pos < s.data.size:=h
 show s.data[pos]'h2=s.data[pos]!
 exact (getElem!_pos s.data pos h2).symm
theorem G8 (s:ByteArray) (i:Nat) (h:128<=(s.get! i).toNat):128<=(Utf8.decode s i).1:=by
 unfold Utf8.decode
 simp only [Nat.add_zero]
 repeat' split
 all_goals first|omega|simp_all [Utf8.runeError]<;>omega
theorem Tu {s:ByteArray}{pos p:Nat}{c:Int}(h:pos < s.size) (hc:c=((Utf8.decode s pos).1:Nat)) (hp:p=pos+(Utf8.decode s pos).2) :
  0<=c/\((c > 122\/u_ c=false)->vb (s.data.toList.drop pos) pos=pos)/\(c<=122->u_ c=true->p=pos+1/\vb (s.data.toList.drop pos) pos=vb (s.data.toList.drop (pos+1)) ((pos+1:Nat):Int)):=by
 rw [MI s pos h,vb]
 by_cases hb:(s.get! pos).toNat < 128
 ·have hd:=decode_ascii s pos h (by rw [get_at];exact hb)
  rw [get_at] at hd
  rw [hd] at hc hp
  simp only at hc hp
  subst hc
  refine⟨by omega,fun h=>by rw [if_neg];intro h2;unfold qK u_ j8 sN xQ at h2;unfold u_ j8 sN xQ at h;simp at h h2;omega,fun h1 h2=>⟨hp,by rw [if_pos (by exact h2)];rfl⟩⟩
 ·have:=G8 s pos (by omega)
  refine⟨by omega,fun h=>by rw [if_neg];intro h2;unfold qK u_ j8 sN xQ at h2;simp at h2;omega,fun h1 h2=>by omega⟩
section
variable {w0:World}{ρ:Hd}
theorem U7 (c:Int):ah Tryz.prog w0 381 [.v (.int .u8 c)] (.v (.int .u8 (w6 c))):=by
 refine Zl.aH (by simp [Tryz.ntmps381]) (.v) ?_
 refine gq U1 ?_
 repeat' (first
  |(refine bq (fun hb=>?_) (fun hb=>?_)<;>(try simp only [aq] at hb)<;>(first|refine gq U1 ?_))
  |(refine fq ?_))
 all_goals (refine aX.of_eq ?_;simp_all [w6,j8,sN,xQ];try omega)
theorem Fw (c:Int):ah Tryz.prog w0 299 [.v (.int .u8 c)] (.v (.bool (j8 c))):=by
 refine Zs.aH (by simp [Tryz.ntmps299]) (.v) ?_
 refine gq U4 ?_
 repeat' (first
  |(refine bq (fun hb=>?_) (fun hb=>?_)<;>(try simp only [aq] at hb)<;>(first|refine gq U4 ?_))
  |(refine fq ?_))
 all_goals (refine aX.of_eq ?_;simp_all [j8];try (intros;omega))
theorem Tv (c:Int):ah Tryz.prog w0 398 [.v (.int .u8 c)] (.v (.bool (sN c))):=by
 refine Zt.aH (by simp [Tryz.ntmps398]) (.v) ?_
 refine gq U5 ?_
 repeat' (first
  |(refine bq (fun hb=>?_) (fun hb=>?_)<;>(try simp only [aq] at hb)<;>(first|refine gq U5 ?_))
  |(refine fq ?_))
 all_goals (refine aX.of_eq ?_;simp_all [sN];try (intros;omega))
theorem U8 (s:ByteArray):ah Tryz.prog w0 282 [.v (.string s)] (.v (.bool (CS s))):=by
 refine Zo.aH (by simp [Tryz.ntmps282]) (.v) ?_
 refine gq U2 ?_
 repeat' (first
  |(refine bq (fun hb=>?_) (fun hb=>?_)<;>(try simp only [aq] at hb)<;>(first|refine gq U2 ?_))
  |(refine fq ?_))
 all_goals (refine aX.of_eq ?_;simp_all [CS])
theorem Tw (s:ByteArray):ah Tryz.prog w0 300 [.v (.string s)] (.v (.bool (CS s))):=by
 refine Zv.aH (by simp [Tryz.ntmps300]) (.v) ?_
 refine gq U6 ?_
 repeat' (first
  |(refine bq (fun hb=>?_) (fun hb=>?_)<;>(try simp only [aq] at hb)<;>(first|refine gq U6 ?_))
  |(refine fq ?_))
 all_goals (refine aX.of_eq ?_;simp_all [CS])
theorem Zw {c:Int}(h1:0<=c) (h2:c<=255):IntKind.u8.wrap c=c:=by
 unfold IntKind.wrap
 simp [IntKind.bits,IntKind.signed]
 omega
theorem MJ (P:Program) (w:World) (t:TypeId) (c:Int):(binOp .and t (.int .u8 (w6 c)) (.int .u8 7)).run P w=.ok (.int .u8 (w6 c)) w:=by
 unfold w6
 (repeat' split)<;>rfl
theorem MK (P:Program) (w:World) (t:TypeId) (c:Int):(binOp .and t (.int .u8 (w6 c)) (.int .u8 1)).run P w=.ok (.int .u8 (if j8 c then 1 else 0)) w:=by
 unfold w6
 (repeat' split)<;>rfl
theorem ML (c:Int):w6 c=0 ↔ u_ c=false:=by
 unfold w6 u_
 cases j8 c<;>cases sN c<;>cases xQ c<;>cases h:(c == 95)<;>simp
theorem Tx (c:Int) (hc:0<=c):ah Tryz.prog w0 383 [.v (.int .i32 c)] (.v (.bool (decide (c > 122) || !u_ c))):=by
 refine Zm.aH (by simp [Tryz.ntmps383]) (.v) ?_
 refine gq z_ ?_
 repeat' (first
  |(refine ab.int rfl (ad.ag rfl (U7 _) ⟨.v,trivial⟩) fun _ _=>?_;refine gq z_ ?_)
  |(refine ab.int rfl (ad.conv rfl) fun _ _=>?_;refine gq z_ ?_)
  |(refine bq (fun hb=>?_) (fun hb=>?_)<;>(try simp only [aq] at hb)<;>(first|refine gq z_ ?_))
  |(refine fq ?_))
 ·refine aX.of_eq ?_;simp_all
 rename_i x hx y hy
 rw [Zw hc (by omega)] at hx
 have hz:=ML c
 refine ab.int rfl (ad.raw (r:=.int .u8 (w6 c)) rfl rfl (by simp) (by simp) (fun t w=>by rw [hy,hx];exact MJ _ _ _ _)) fun _ _=>?_
 refine gq z_ ?_
 repeat' (first
  |(refine bq (fun hb=>?_) (fun hb=>?_)<;>(try simp only [aq] at hb)<;>(first|refine gq z_ ?_))
  |(refine fq ?_))
 all_goals (refine aX.of_eq ?_;subst_vars;simp_all)
theorem MM (s:ByteArray):ah Tryz.prog w0 465 [.v (.string s),.v (.func (.func 383) #[] #[]),.v (.bool true)] (iv (vb s.data.toList 0)):=by
 refine Zq.aH (by simp [Tryz.ntmps465]) (.v) ?_
 refine gq tQ ?_
 repeat' (first
  |(refine ab.op rfl (ad.U9 rfl) ?_;refine gq tQ ?_)
  )
 refine ab.aP (σ:=Nat) 1 1 [] (fun p=>[(1,.v (.func (.func 383) #[] #[])),(2,.v (.bool true)),(10,.pt 0 0 0 0)]) [] (fun p=>[(0,.si s p)])
  (fun p=>p<=s.size/\vb s.data.toList 0=vb (s.data.toList.drop p) p) (fun p=>s.size - p) 0 ⟨by omega,by simp⟩ rfl
  ⟨⟨.aC rfl .v,.aC rfl .v,.aC rfl (.pt (by decide)),trivial⟩,rfl,⟨.inl ⟨_,rfl,.same trivial⟩,trivial⟩,rfl,rfl,rfl⟩ ?_
 rintro pos ⟨h1,h2⟩
 refine gq tQ ?_
 refine ab.G9 rfl rfl rfl (fun hp j c p hj hc lq=>?_) (fun hp=>?_)
 ·obtain⟨k0,k1,k2⟩:=Tu hp hc lq
  refine gq tQ ?_
  repeat' (first
   |(refine ab.bif rfl (ad.ag rfl (Tx _ k0) ⟨.v,trivial⟩) (fun _=>?_) (fun _=>?_)<;>refine gq tQ ?_)
   |(refine bq (fun hb=>?_) (fun hb=>?_)<;>(try simp only [aq] at hb)<;>(first|exact absurd hb (by decide)|refine gq tQ ?_))
   |(refine ab.bK ?_;refine gq tQ ?_)
   |(refine fq ?_))
  ·rename_i hx
   have hx:c > 122\/u_ c=false:=by simpa using hx
   rw [h2,k1 hx,hj];exact aX.of_eq rfl
  ·rename_i hx
   have hx:c<=122/\u_ c=true:=by simpa using hx
   obtain⟨e1,e2⟩:=k2 hx.1 hx.2
   refine ab.aK (σ:=Nat) _ [] ?_ ?_ ⟨⟨.aC rfl .v,.aC rfl .v,.aC rfl (.pt (by decide)),trivial⟩,rfl,⟨.inl ⟨_,rfl,.same trivial⟩,trivial⟩,rfl,rfl,rfl⟩
   ·subst e1;exact⟨by omega,by rw [h2,e2]⟩
   ·omega
 ·refine gq tQ ?_
  repeat' (first
   |(refine ab.ao ?_;refine gq tQ ?_)
   |(refine fq ?_))
  all_goals (rw [h2,List.drop_eq_nil_of_le (by rw [<-j9];exact hp)];exact aX.of_eq rfl)
theorem Ty (s:ByteArray):ah Tryz.prog w0 382 [.v (.string s),.v (.func (.func 383) #[] #[])] (iv (vb s.data.toList 0)):=by
 refine Zr.aH (by simp [Tryz.ntmps382]) (.v) ?_
 refine gq U3 ?_
 repeat' (first
  |(refine ab.int rfl (ad.ag rfl (MM _) ⟨.v,.v,.v,trivial⟩) fun _ _=>?_;refine gq U3 ?_)
  |(refine fq ?_))
 all_goals (subst_vars;exact dK rfl)
theorem ext1 (s:ByteArray) {c:UInt8}{r:List UInt8}(h:s.data.toList=c::r):(s.extract 1 s.size).data.toList=r:=by
 have e:s.size=s.data.toList.length:=j9 s
 rw [ByteArray.data_extract,Array.toList_extract,h,e,h]
 simp [List.extract]
theorem U_ (s:ByteArray) (hs:s.size<=1099511627776):ah Tryz.prog w0 281 [.v (.string s),.v (.int .u8 1)] (.v (.bool (wy s.data.toList))):=by
 have bI:=j9 s
 have Va:=toL_nil
 have vc:=toL_eq s
 have hx:=@ext1 s
 refine Zn.aH (by simp [Tryz.ntmps281]) (.v) ?_
 refine gq u7 ?_
 rcases hl:s.data.toList with _|⟨c,rest⟩
 all_goals
  rw [hl] at bI
  simp only [List.length_nil,List.length_cons] at bI
  repeat' (first
   |(refine ab.int rfl (ad.CT rfl rfl (xR hl)) fun _ _=>?_;refine gq u7 ?_)
   |(refine ab.int rfl (ad.ag rfl (U7 _) ⟨.v,trivial⟩) fun _ _=>?_;refine gq u7 ?_)
   |((refine ab.int rfl (ad.raw (r:=.int .u8 (if j8 (c.toNat:Int) then 1 else 0)) rfl rfl (by simp) (by simp) (fun t w=>by subst_vars;exact MK _ _ _ _)) fun _ _=>?_;refine gq u7 ?_))
   |(refine ab.str rfl (ad.afu (h:=(s.size:Int)) rfl rfl rfl (by omega) (by omega) (by omega)) fun _ _=>?_;refine gq u7 ?_)
   |(refine ab.int rfl (ad.ag rfl (Ty _) ⟨.v,.v,trivial⟩) fun _ _=>?_;refine gq u7 ?_)
   |(refine bq (fun hb=>?_) (fun hb=>?_)<;>(try simp only [aq] at hb)<;>(first|refine gq u7 ?_))
   |(refine az fun m hm=>?_;(try rw [af] at hm);refine gq u7 ?_)
   |(refine fq ?_))
 all_goals try (exfalso;simp_all;done)
 all_goals try (exfalso;simp_all;omega;done)
 ·exact aI rfl
 ·have h:¬ rest.length < 40:=by omega
  exact aI (by simp [wy,h])
 ·rename_i a1 a2 c1 e1 c2 e2 c3 e3
  have h:j8 c.toNat=false:=by
   cases h:j8 c.toNat with
   |false=>rfl
   |true=>rw [h] at e3;simp at e3;omega
  exact aI (by simp [wy,h])
 all_goals
  rename_i a1 a2 c1 e1 c2 e2 c3 e3 a3 s1 e4 c5 e5
  have h:j8 c.toNat=true:=by
   by_cases h:j8 (c.toNat:Int)=true
   ·exact h
   ·rw [if_neg h] at e3;omega
  have h2:s1.data.toList=rest:=by rw [e4];exact hx hl
  have hn:=Fv rest 0 (by omega)
  rw [h2] at e5
  have h3:rest.length < 40:=by omega
  refine aI ?_
  simp only [wy,h]
  rw [<-hn,<-e5]
  simp [h3]
  omega
theorem s6 (s:ByteArray) (hs:s.size<=1099511627776):ah Tryz.prog w0 155 [.v (.string s)] (.v (.bool (gJ s))):=by
 refine Zp.aH (by simp [Tryz.ntmps155]) (.v) ?_
 refine gq MH ?_
 repeat' (first
  |(refine ab.bif rfl (ad.ag rfl (U_ _ hs) ⟨.v,.v,trivial⟩) (fun _=>?_) (fun _=>?_)<;>refine gq MH ?_)
  |(refine ab.bif rfl (ad.ag rfl (U8 _) ⟨.v,trivial⟩) (fun _=>?_) (fun _=>?_)<;>refine gq MH ?_)
  |(refine fq ?_))
 all_goals (refine aI ?_;simp_all [gJ])
def Ck (s:ByteArray):Bool:=s.data.toList.all qK && decide (1<=s.size) && decide (s.size<=40)
theorem CU (c:UInt8):qK c=(j8 c.toNat || sN c.toNat || (decide (48<=(c.toNat:Int)) && decide ((c.toNat:Int)<=57)) || (c.toNat:Int) == 95):=rfl
theorem Tz (s:ByteArray) (hs:s.size<=1099511627776):ah Tryz.prog w0 298 [.v (.string s)] (.v (.bool (Ck s))):=by
 have bI:=j9 s
 refine Zu.aH (by simp [Tryz.ntmps298]) (.v) ?_
 refine gq ov ?_
 refine ab.aP (σ:=Int) 0 0 [] (fun i=>[(0,.v (.string s)),(3,.v (.int .i64 i))]) [] (fun _=>[])
  (fun i=>∃ k:Nat,i=k/\k<=s.size/\s.data.toList.all qK=(s.data.toList.drop k).all qK) (fun i=>s.size - i.toNat) 0 ⟨0,rfl,by simp,by simp⟩ rfl cq ?_
 rintro i ⟨k,hi,hk,hp⟩
 refine gq ov ?_
 by_cases au:k < s.size
 ·obtain⟨c,hc,gK⟩:=aA (l:=s.data.toList) (show k < s.data.toList.length by omega)
  have MN:idx s.data.toList i=some c:=by rw [hi];exact Fx hc
  rw [gK,List.all_cons] at hp
  repeat' (first
   |(refine ab.int rfl (ad.CT rfl rfl MN) fun _ _=>?_;refine gq ov ?_)
   |(refine ab.bif rfl (ad.ag rfl (Fw _) ⟨.v,trivial⟩) (fun _=>?_) (fun _=>?_)<;>refine gq ov ?_)
   |(refine ab.bif rfl (ad.ag rfl (Tv _) ⟨.v,trivial⟩) (fun _=>?_) (fun _=>?_)<;>refine gq ov ?_)
   |(refine bq (fun hb=>?_) (fun hb=>?_)<;>(try simp only [aq] at hb)<;>(first|refine gq ov ?_))
   |(refine az fun m hm=>?_;(try rw [af] at hm);refine gq ov ?_)
   |(refine aS fun _ _=>?_;refine gq ov ?_)
   |(refine ab.ao ?_;refine gq ov ?_)
   |(refine ab.bK ?_;refine gq ov ?_)
   |(refine fq ?_))
  all_goals first
   |(refine aI ?_
     have e:qK c=false:=by
      rw [CU];clear hp gK bI MN hc hs;subst_vars;simp_all<;>omega
     rw [Ck,hp,e];rfl)
   |(have e:qK c=true:=by
       rw [CU];clear hp gK bI MN hc hs;subst_vars;simp_all<;>omega
     refine ab.aK (σ:=Int) _ [] ?_ ?_ cq
     ·exact⟨k+1,by omega,by omega,by rw [hp,e];rfl⟩
     ·omega)
   |(exfalso;omega)
 ·skip
  repeat' (first
   |(refine bq (fun hb=>?_) (fun hb=>?_)<;>(try simp only [aq] at hb)<;>(first|refine gq ov ?_))
   |(refine az fun m hm=>?_;(try rw [af] at hm);refine gq ov ?_)
   |(refine ab.ao ?_;refine gq ov ?_)
   |(refine fq ?_))
  all_goals first
   |(exfalso;omega)
   |(rename_i h1 h2;refine aI ?_;rw [Ck,hp,List.drop_eq_nil_of_le (by omega)];clear hp bI;simp;omega)
theorem tR (s:ByteArray) (hs:s.size<=1099511627776):ah Tryz.prog w0 172 [.v (.string s)] (.v (.bool (gJ s))):=by
 have bI:=j9 s
 have hr:=Tw (w0:=w0) s
 have hw:=Tz (w0:=w0) s hs
 unfold gJ wy
 rcases hl:s.data.toList with _|⟨c,rest⟩
 all_goals
  rw [Ck,hl] at hw
  rw [hl] at bI
  simp only [List.length_nil,List.length_cons] at bI
 ·have e:(List.all [] qK && decide (1<=s.size) && decide (s.size<=40))=false:=by simp [bI]
  rw [e] at hw
  refine PG.aH (by simp [Tryz.ntmps172]) (.v) ?_
  refine gq xP ?_
  repeat' (first
   |(refine ab.op rfl (ad.ag rfl hw ⟨.v,trivial⟩) ?_;refine gq xP ?_)
   |(refine fq ?_))
  all_goals (refine aI ?_;simp_all)
 ·skip
  refine PG.aH (by simp [Tryz.ntmps172]) (.v) ?_
  refine gq xP ?_
  repeat' (first
   |(refine ab.bif rfl (ad.ag rfl hw ⟨.v,trivial⟩) (fun _=>?_) (fun _=>?_)<;>refine gq xP ?_)
   |(refine ab.bif rfl (ad.ag rfl hr ⟨.v,trivial⟩) (fun _=>?_) (fun _=>?_)<;>refine gq xP ?_)
   |(refine ab.int rfl (ad.CT rfl rfl (xR hl)) fun _ _=>?_;refine gq xP ?_)
   |(refine ab.bif rfl (ad.ag rfl (Fw _) ⟨.v,trivial⟩) (fun _=>?_) (fun _=>?_)<;>refine gq xP ?_)
   |(refine fq ?_))
  all_goals
   refine aI ?_
   have hk:j8 c.toNat=true->qK c=true:=by rw [CU];intro h;simp [h]
   have e1:decide (1<=s.size)=true:=by simp [bI]
   have e2:decide (s.size<=40)=decide (rest.length < 40):=decide_eq_decide.2 (by omega)
   clear hw hr hs
   subst_vars
   simp only [List.all_cons,e1,e2,Bool.and_true] at *
   clear bI e1 e2 hl
   cases KD:j8 (c.toNat:Int)<;>cases ho:qK c<;>cases hr:rest.all qK<;>cases hd:decide (rest.length < 40)<;>simp_all
end
end
end Go.Proofs.YtgphljokbodciaaGreat
