import Derived.Laws.RangeString
import Derived.Laws.Strings
import Derived.Test.YtbofilglphfceaaGreatQ14
namespace Go.Proofs.YtbofilglphfceaaGreat
set_option linter.unusedVariables false
set_option linter.unusedSimpArgs false
open Go.RowKit
section
set_option maxRecDepth 100000
attribute [local irreducible] ah bc ad ab
def NK:CF Tryz.f267:=⟨_,by conv=>lhs;cbv⟩
theorem WI:aH Tryz.prog 267 NK.1 Tryz.f267.ntmps:=aQ Tryz.func267 NK.2 Tryz.call267
def SP:List Nat:=[0,10,2,3,19]
def NL:CF Tryz.f269:=⟨_,by conv=>lhs;cbv⟩
theorem WJ:aH Tryz.prog 269 NL.1 Tryz.f269.ntmps:=aQ Tryz.func269 NL.2 Tryz.call269
def zu:List Nat:=[0,2]
def NM:CF Tryz.f183:=⟨_,by conv=>lhs;cbv⟩
theorem WK:aH Tryz.prog 183 NM.1 Tryz.f183.ntmps:=aQ Tryz.func183 NM.2 Tryz.call183
def um:List Nat:=[0,4,1,19]
def NN:CF Tryz.f184:=⟨_,by conv=>lhs;cbv⟩
theorem WL:aH Tryz.prog 184 NN.1 Tryz.f184.ntmps:=aQ Tryz.func184 NN.2 Tryz.call184
def SQ:List Nat:=[3,4,2,0]
def NO:CF Tryz.f103:=⟨_,by conv=>lhs;cbv⟩
theorem WM:aH Tryz.prog 103 NO.1 Tryz.f103.ntmps:=aQ Tryz.func103 NO.2 Tryz.call103
def La:List Nat:=[0,2]
def NP:CF Tryz.f323:=⟨_,by conv=>lhs;cbv⟩
theorem WN:aH Tryz.prog 323 NP.1 Tryz.f323.ntmps:=aQ Tryz.func323 NP.2 Tryz.call323
def sZ:List Nat:=[11,6,0,10,12,1,8,2,19,7]
def NQ:CF Tryz.f268:=⟨_,by conv=>lhs;cbv⟩
theorem WO:aH Tryz.prog 268 NQ.1 Tryz.f268.ntmps:=aQ Tryz.func268 NQ.2 Tryz.call268
def SR:List Nat:=[4,0,1]
def NR:CF Tryz.f205:=⟨_,by conv=>lhs;cbv⟩
theorem WQ:aH Tryz.prog 205 NR.1 Tryz.f205.ntmps:=aQ Tryz.func205 NR.2 Tryz.call205
def SS:List Nat:=[0,2]
def NS:CF Tryz.f278:=⟨_,by conv=>lhs;cbv⟩
theorem WR:aH Tryz.prog 278 NS.1 Tryz.f278.ntmps:=aQ Tryz.func278 NS.2 Tryz.call278
def SU:List Nat:=[0,2]
def NT:CF Tryz.f204:=⟨_,by conv=>lhs;cbv⟩
theorem WS:aH Tryz.prog 204 NT.1 Tryz.f204.ntmps:=aQ Tryz.func204 NT.2 Tryz.call204
def nI:List Nat:=[0,3,2,7,39]
def NU:CF Tryz.f206:=⟨_,by conv=>lhs;cbv⟩
theorem WT:aH Tryz.prog 206 NU.1 Tryz.f206.ntmps:=aQ Tryz.func206 NU.2 Tryz.call206
def SV:List Nat:=[0,2]
def NV:CF Tryz.f120:=⟨_,by conv=>lhs;cbv⟩
theorem NW:aH Tryz.prog 120 NV.1 Tryz.f120.ntmps:=aQ Tryz.func120 NV.2 Tryz.call120
def wW:List Nat:=[0,2]
def jN (c:Int):Bool:=decide (97<=c) && decide (c<=122)
def rQ (c:Int):Bool:=decide (65<=c) && decide (c<=90)
def wX (c:Int):Bool:=decide (48<=c) && decide (c<=57)
def wb (c:Int):Int:=if jN c then 1 else if rQ c || c == 95 then 2 else if wX c then 4 else 0
def uo (c:Int):Bool:=jN c || rQ c || wX c || c == 95
def pV (c:UInt8):Bool:=uo c.toNat
def Ce (s:ByteArray):Bool:=s.toList == ((⟨#[99,111,110,115,116,114,97,105,110,116]⟩:ByteArray)).toList || s.toList == ((⟨#[116,114,117,101]⟩:ByteArray)).toList || s.toList == ((⟨#[102,97,105,108]⟩:ByteArray)).toList || s.toList == ((⟨#[105,115]⟩:ByteArray)).toList || s.toList == ((⟨#[105,110,116]⟩:ByteArray)).toList || s.toList == ((⟨#[103,114,111,117,110,100]⟩:ByteArray)).toList
def vF (l:List UInt8):Bool:=match l with
 |[]=>false
 |c::r=>decide (r.length < 40) && jN c.toNat && r.all pV
def gk (s:ByteArray):Bool:=vF s.data.toList && !Ce s
def uq:List UInt8->Int->Int
 |[],_=>-1
 |c::l,p=>if pV c then uq l (p+1) else p
theorem EI:∀ (l:List UInt8) (p:Int),0<=p->decide (uq l p < 0)=l.all pV
 |[],p,h=>rfl
 |c::l,p,h=>by
  simp only [uq,List.all_cons]
  split
  ·rename_i hc;rw [EI l _ (by omega),hc];rfl
  ·rename_i hc;simp [hc];omega
theorem toL_eq (s:ByteArray):s.toList=s.data.toList:=ByteArray.toList_eq s
theorem toL_nil:ByteArray.toList ⟨#[]⟩=[]:=by rw [toL_eq]
theorem wY {l:List UInt8}{c:UInt8}{r:List UInt8}(h:l=c::r):idx l 0=some c:=by subst h;rfl
theorem jO (s:ByteArray):s.size=s.data.toList.length:=(Array.length_toList).symm
theorem Lb (s:ByteArray) (pos:Nat) (h:pos < s.size):s.data.toList.drop pos=s.get! pos::s.data.toList.drop (pos+1):=by
 have h1:pos < s.data.toList.length:=by rw [<-jO];exact h
 rw [List.drop_eq_getElem_cons h1]
 congr 1
 have h2:pos < s.data.size:=h
 simp only [Array.getElem_toList,ByteArray.get!]
 exact (getElem!_pos s.data pos h2).symm
theorem get_at (s:ByteArray) (pos:Nat) (h:pos < s.size):s[pos]'h=s.get! pos:=by
 have h2:pos < s.data.size:=h
 show s.data[pos]'h2=s.data[pos]!
 exact (getElem!_pos s.data pos h2).symm
theorem FZ (s:ByteArray) (i:Nat) (h:128<=(s.get! i).toNat):128<=(Utf8.decode s i).1:=by
 unfold Utf8.decode
 simp only [Nat.add_zero]
 repeat' split
 all_goals first|omega|simp_all [Utf8.runeError]<;>omega
theorem QH {s:ByteArray}{pos p:Nat}{c:Int}(h:pos < s.size) (hc:c=((Utf8.decode s pos).1:Nat)) (hp:p=pos+(Utf8.decode s pos).2) :
  0<=c/\((c > 122\/uo c=false)->uq (s.data.toList.drop pos) pos=pos)/\(c<=122->uo c=true->p=pos+1/\uq (s.data.toList.drop pos) pos=uq (s.data.toList.drop (pos+1)) ((pos+1:Nat):Int)):=by
 rw [Lb s pos h,uq]
 by_cases hb:(s.get! pos).toNat < 128
 ·have hd:=decode_ascii s pos h (by rw [get_at];exact hb)
  rw [get_at] at hd
  rw [hd] at hc hp
  simp only at hc hp
  subst hc
  refine⟨by omega,fun h=>by rw [if_neg];intro h2;unfold pV uo jN rQ wX at h2;unfold uo jN rQ wX at h;simp at h h2;omega,fun h1 h2=>⟨hp,by rw [if_pos (by exact h2)];rfl⟩⟩
 ·have:=FZ s pos (by omega)
  refine⟨by omega,fun h=>by rw [if_neg];intro h2;unfold pV uo jN rQ wX at h2;simp at h2;omega,fun h1 h2=>by omega⟩
section
variable {w0:World}{ρ:Hd}
theorem SW (c:Int):ah Tryz.prog w0 267 [.v (.int .u8 c)] (.v (.int .u8 (wb c))):=by
 refine WI.aG (by simp [Tryz.ntmps267]) (.v) ?_
 refine gq SP ?_
 repeat' (first
  |(refine bq (fun hb=>?_) (fun hb=>?_)<;>(try simp only [aq] at hb)<;>(first|refine gq SP ?_))
  |(refine fq ?_))
 all_goals (refine aU.of_eq ?_;simp_all [wb,jN,rQ,wX];try omega)
theorem EJ (c:Int):ah Tryz.prog w0 205 [.v (.int .u8 c)] (.v (.bool (jN c))):=by
 refine WQ.aG (by simp [Tryz.ntmps205]) (.v) ?_
 refine gq SS ?_
 repeat' (first
  |(refine bq (fun hb=>?_) (fun hb=>?_)<;>(try simp only [aq] at hb)<;>(first|refine gq SS ?_))
  |(refine fq ?_))
 all_goals (refine aU.of_eq ?_;simp_all [jN];try (intros;omega))
theorem QJ (c:Int):ah Tryz.prog w0 278 [.v (.int .u8 c)] (.v (.bool (rQ c))):=by
 refine WR.aG (by simp [Tryz.ntmps278]) (.v) ?_
 refine gq SU ?_
 repeat' (first
  |(refine bq (fun hb=>?_) (fun hb=>?_)<;>(try simp only [aq] at hb)<;>(first|refine gq SU ?_))
  |(refine fq ?_))
 all_goals (refine aU.of_eq ?_;simp_all [rQ];try (intros;omega))
theorem SX (s:ByteArray):ah Tryz.prog w0 184 [.v (.string s)] (.v (.bool (Ce s))):=by
 refine WL.aG (by simp [Tryz.ntmps184]) (.v) ?_
 refine gq SQ ?_
 repeat' (first
  |(refine bq (fun hb=>?_) (fun hb=>?_)<;>(try simp only [aq] at hb)<;>(first|refine gq SQ ?_))
  |(refine fq ?_))
 all_goals (refine aU.of_eq ?_;simp_all [Ce])
theorem QK (s:ByteArray):ah Tryz.prog w0 206 [.v (.string s)] (.v (.bool (Ce s))):=by
 refine WT.aG (by simp [Tryz.ntmps206]) (.v) ?_
 refine gq SV ?_
 repeat' (first
  |(refine bq (fun hb=>?_) (fun hb=>?_)<;>(try simp only [aq] at hb)<;>(first|refine gq SV ?_))
  |(refine fq ?_))
 all_goals (refine aU.of_eq ?_;simp_all [Ce])
theorem WU {c:Int}(h1:0<=c) (h2:c<=255):IntKind.u8.wrap c=c:=by
 unfold IntKind.wrap
 simp [IntKind.bits,IntKind.signed]
 omega
theorem Lc (P:Program) (w:World) (t:TypeId) (c:Int):(binOp .and t (.int .u8 (wb c)) (.int .u8 7)).run P w=.ok (.int .u8 (wb c)) w:=by
 unfold wb
 (repeat' split)<;>rfl
theorem Ld (P:Program) (w:World) (t:TypeId) (c:Int):(binOp .and t (.int .u8 (wb c)) (.int .u8 1)).run P w=.ok (.int .u8 (if jN c then 1 else 0)) w:=by
 unfold wb
 (repeat' split)<;>rfl
theorem Le (c:Int):wb c=0 ↔ uo c=false:=by
 unfold wb uo
 cases jN c<;>cases rQ c<;>cases wX c<;>cases h:(c == 95)<;>simp
theorem QL (c:Int) (hc:0<=c):ah Tryz.prog w0 269 [.v (.int .i32 c)] (.v (.bool (decide (c > 122) || !uo c))):=by
 refine WJ.aG (by simp [Tryz.ntmps269]) (.v) ?_
 refine gq zu ?_
 repeat' (first
  |(refine ab.int rfl (ad.ag rfl (SW _) ⟨.v,trivial⟩) fun _ _=>?_;refine gq zu ?_)
  |(refine ab.int rfl (ad.conv rfl) fun _ _=>?_;refine gq zu ?_)
  |(refine bq (fun hb=>?_) (fun hb=>?_)<;>(try simp only [aq] at hb)<;>(first|refine gq zu ?_))
  |(refine fq ?_))
 ·refine aU.of_eq ?_;simp_all
 rename_i x hx y hy
 rw [WU hc (by omega)] at hx
 have hz:=Le c
 refine ab.int rfl (ad.raw (r:=.int .u8 (wb c)) rfl rfl (by simp) (by simp) (fun t w=>by rw [hy,hx];exact Lc _ _ _ _)) fun _ _=>?_
 refine gq zu ?_
 repeat' (first
  |(refine bq (fun hb=>?_) (fun hb=>?_)<;>(try simp only [aq] at hb)<;>(first|refine gq zu ?_))
  |(refine fq ?_))
 all_goals (refine aU.of_eq ?_;subst_vars;simp_all)
theorem Lf (s:ByteArray):ah Tryz.prog w0 323 [.v (.string s),.v (.func (.func 269) #[] #[]),.v (.bool true)] (iv (uq s.data.toList 0)):=by
 refine WN.aG (by simp [Tryz.ntmps323]) (.v) ?_
 refine gq sZ ?_
 repeat' (first
  |(refine ab.op rfl (ad.SY rfl) ?_;refine gq sZ ?_)
  )
 refine ab.aP (σ:=Nat) 1 1 [] (fun p=>[(1,.v (.func (.func 269) #[] #[])),(2,.v (.bool true)),(10,.pt 0 0 0 0)]) [] (fun p=>[(0,.si s p)])
  (fun p=>p<=s.size/\uq s.data.toList 0=uq (s.data.toList.drop p) p) (fun p=>s.size - p) 0 ⟨by omega,by simp⟩ rfl
  ⟨⟨.aD rfl .v,.aD rfl .v,.aD rfl (.pt (by decide)),trivial⟩,rfl,⟨.inl ⟨_,rfl,.same trivial⟩,trivial⟩,rfl,rfl,rfl⟩ ?_
 rintro pos ⟨h1,h2⟩
 refine gq sZ ?_
 refine ab.F0 rfl rfl rfl (fun hp j c p hj hc nq=>?_) (fun hp=>?_)
 ·obtain⟨k0,k1,k2⟩:=QH hp hc nq
  refine gq sZ ?_
  repeat' (first
   |(refine ab.a_ rfl (ad.ag rfl (QL _ k0) ⟨.v,trivial⟩) (fun _=>?_) (fun _=>?_)<;>refine gq sZ ?_)
   |(refine bq (fun hb=>?_) (fun hb=>?_)<;>(try simp only [aq] at hb)<;>(first|exact absurd hb (by decide)|refine gq sZ ?_))
   |(refine ab.bJ ?_;refine gq sZ ?_)
   |(refine fq ?_))
  ·rename_i hx
   have hx:c > 122\/uo c=false:=by simpa using hx
   rw [h2,k1 hx,hj];exact aU.of_eq rfl
  ·rename_i hx
   have hx:c<=122/\uo c=true:=by simpa using hx
   obtain⟨e1,e2⟩:=k2 hx.1 hx.2
   refine ab.aL (σ:=Nat) _ [] ?_ ?_ ⟨⟨.aD rfl .v,.aD rfl .v,.aD rfl (.pt (by decide)),trivial⟩,rfl,⟨.inl ⟨_,rfl,.same trivial⟩,trivial⟩,rfl,rfl,rfl⟩
   ·subst e1;exact⟨by omega,by rw [h2,e2]⟩
   ·omega
 ·refine gq sZ ?_
  repeat' (first
   |(refine ab.ao ?_;refine gq sZ ?_)
   |(refine fq ?_))
  all_goals (rw [h2,List.drop_eq_nil_of_le (by rw [<-jO];exact hp)];exact aU.of_eq rfl)
theorem QM (s:ByteArray):ah Tryz.prog w0 268 [.v (.string s),.v (.func (.func 269) #[] #[])] (iv (uq s.data.toList 0)):=by
 refine WO.aG (by simp [Tryz.ntmps268]) (.v) ?_
 refine gq SR ?_
 repeat' (first
  |(refine ab.int rfl (ad.ag rfl (Lf _) ⟨.v,.v,.v,trivial⟩) fun _ _=>?_;refine gq SR ?_)
  |(refine fq ?_))
 all_goals (subst_vars;exact dI rfl)
theorem ext1 (s:ByteArray) {c:UInt8}{r:List UInt8}(h:s.data.toList=c::r):(s.extract 1 s.size).data.toList=r:=by
 have e:s.size=s.data.toList.length:=jO s
 rw [ByteArray.data_extract,Array.toList_extract,h,e,h]
 simp [List.extract]
theorem S0 (s:ByteArray) (hs:s.size<=1099511627776):ah Tryz.prog w0 183 [.v (.string s),.v (.int .u8 1)] (.v (.bool (vF s.data.toList))):=by
 have bH:=jO s
 have FI:=toL_nil
 have ur:=toL_eq s
 have hx:=@ext1 s
 refine WK.aG (by simp [Tryz.ntmps183]) (.v) ?_
 refine gq um ?_
 rcases hl:s.data.toList with _|⟨c,rest⟩
 all_goals
  rw [hl] at bH
  simp only [List.length_nil,List.length_cons] at bH
  repeat' (first
   |(refine ab.int rfl (ad.Cg rfl rfl (wY hl)) fun _ _=>?_;refine gq um ?_)
   |(refine ab.int rfl (ad.ag rfl (SW _) ⟨.v,trivial⟩) fun _ _=>?_;refine gq um ?_)
   |((refine ab.int rfl (ad.raw (r:=.int .u8 (if jN (c.toNat:Int) then 1 else 0)) rfl rfl (by simp) (by simp) (fun t w=>by subst_vars;exact Ld _ _ _ _)) fun _ _=>?_;refine gq um ?_))
   |(refine ab.str rfl (ad.abo (h:=(s.size:Int)) rfl rfl rfl (by omega) (by omega) (by omega)) fun _ _=>?_;refine gq um ?_)
   |(refine ab.int rfl (ad.ag rfl (QM _) ⟨.v,.v,trivial⟩) fun _ _=>?_;refine gq um ?_)
   |(refine bq (fun hb=>?_) (fun hb=>?_)<;>(try simp only [aq] at hb)<;>(first|refine gq um ?_))
   |(refine aB fun m hm=>?_;(try rw [af] at hm);refine gq um ?_)
   |(refine fq ?_))
 all_goals try (exfalso;simp_all;done)
 all_goals try (exfalso;simp_all;omega;done)
 ·exact aC rfl
 ·have h:¬ rest.length < 40:=by omega
  exact aC (by simp [vF,h])
 ·rename_i a1 a2 c1 e1 c2 e2 c3 e3
  have h:jN c.toNat=false:=by
   cases h:jN c.toNat with
   |false=>rfl
   |true=>rw [h] at e3;simp at e3;omega
  exact aC (by simp [vF,h])
 all_goals
  rename_i a1 a2 c1 e1 c2 e2 c3 e3 a3 s1 e4 c5 e5
  have h:jN c.toNat=true:=by
   by_cases h:jN (c.toNat:Int)=true
   ·exact h
   ·rw [if_neg h] at e3;omega
  have h2:s1.data.toList=rest:=by rw [e4];exact hx hl
  have hn:=EI rest 0 (by omega)
  rw [h2] at e5
  have h3:rest.length < 40:=by omega
  refine aC ?_
  simp only [vF,h]
  rw [<-hn,<-e5]
  simp [h3]
  omega
theorem sh (s:ByteArray) (hs:s.size<=1099511627776):ah Tryz.prog w0 103 [.v (.string s)] (.v (.bool (gk s))):=by
 refine WM.aG (by simp [Tryz.ntmps103]) (.v) ?_
 refine gq La ?_
 repeat' (first
  |(refine ab.a_ rfl (ad.ag rfl (S0 _ hs) ⟨.v,.v,trivial⟩) (fun _=>?_) (fun _=>?_)<;>refine gq La ?_)
  |(refine ab.a_ rfl (ad.ag rfl (SX _) ⟨.v,trivial⟩) (fun _=>?_) (fun _=>?_)<;>refine gq La ?_)
  |(refine fq ?_))
 all_goals (refine aC ?_;simp_all [gk])
def Bp (s:ByteArray):Bool:=s.data.toList.all pV && decide (1<=s.size) && decide (s.size<=40)
theorem Ch (c:UInt8):pV c=(jN c.toNat || rQ c.toNat || (decide (48<=(c.toNat:Int)) && decide ((c.toNat:Int)<=57)) || (c.toNat:Int) == 95):=rfl
theorem QN (s:ByteArray) (hs:s.size<=1099511627776):ah Tryz.prog w0 204 [.v (.string s)] (.v (.bool (Bp s))):=by
 have bH:=jO s
 refine WS.aG (by simp [Tryz.ntmps204]) (.v) ?_
 refine gq nI ?_
 refine ab.aP (σ:=Int) 0 0 [] (fun i=>[(0,.v (.string s)),(3,.v (.int .i64 i))]) [] (fun _=>[])
  (fun i=>∃ k:Nat,i=k/\k<=s.size/\s.data.toList.all pV=(s.data.toList.drop k).all pV) (fun i=>s.size - i.toNat) 0 ⟨0,rfl,by simp,by simp⟩ rfl cq ?_
 rintro i ⟨k,hi,hk,hp⟩
 refine gq nI ?_
 by_cases au:k < s.size
 ·obtain⟨c,hc,ga⟩:=az (l:=s.data.toList) (show k < s.data.toList.length by omega)
  have Lg:idx s.data.toList i=some c:=by rw [hi];exact EK hc
  rw [ga,List.all_cons] at hp
  repeat' (first
   |(refine ab.int rfl (ad.Cg rfl rfl Lg) fun _ _=>?_;refine gq nI ?_)
   |(refine ab.a_ rfl (ad.ag rfl (EJ _) ⟨.v,trivial⟩) (fun _=>?_) (fun _=>?_)<;>refine gq nI ?_)
   |(refine ab.a_ rfl (ad.ag rfl (QJ _) ⟨.v,trivial⟩) (fun _=>?_) (fun _=>?_)<;>refine gq nI ?_)
   |(refine bq (fun hb=>?_) (fun hb=>?_)<;>(try simp only [aq] at hb)<;>(first|refine gq nI ?_))
   |(refine aB fun m hm=>?_;(try rw [af] at hm);refine gq nI ?_)
   |(refine aS fun _ _=>?_;refine gq nI ?_)
   |(refine ab.ao ?_;refine gq nI ?_)
   |(refine ab.bJ ?_;refine gq nI ?_)
   |(refine fq ?_))
  all_goals first
   |(refine aC ?_
     have e:pV c=false:=by
      rw [Ch];clear hp ga bH Lg hc hs;subst_vars;simp_all<;>omega
     rw [Bp,hp,e];rfl)
   |(have e:pV c=true:=by
       rw [Ch];clear hp ga bH Lg hc hs;subst_vars;simp_all<;>omega
     refine ab.aL (σ:=Int) _ [] ?_ ?_ cq
     ·exact⟨k+1,by omega,by omega,by rw [hp,e];rfl⟩
     ·omega)
   |(exfalso;omega)
 ·skip
  repeat' (first
   |(refine bq (fun hb=>?_) (fun hb=>?_)<;>(try simp only [aq] at hb)<;>(first|refine gq nI ?_))
   |(refine aB fun m hm=>?_;(try rw [af] at hm);refine gq nI ?_)
   |(refine ab.ao ?_;refine gq nI ?_)
   |(refine fq ?_))
  all_goals first
   |(exfalso;omega)
   |(rename_i h1 h2;refine aC ?_;rw [Bp,hp,List.drop_eq_nil_of_le (by omega)];clear hp bH;simp;omega)
theorem s4 (s:ByteArray) (hs:s.size<=1099511627776):ah Tryz.prog w0 120 [.v (.string s)] (.v (.bool (gk s))):=by
 have bH:=jO s
 have hr:=QK (w0:=w0) s
 have hw:=QN (w0:=w0) s hs
 unfold gk vF
 rcases hl:s.data.toList with _|⟨c,rest⟩
 all_goals
  rw [Bp,hl] at hw
  rw [hl] at bH
  simp only [List.length_nil,List.length_cons] at bH
 ·have e:(List.all [] pV && decide (1<=s.size) && decide (s.size<=40))=false:=by simp [bH]
  rw [e] at hw
  refine NW.aG (by simp [Tryz.ntmps120]) (.v) ?_
  refine gq wW ?_
  repeat' (first
   |(refine ab.op rfl (ad.ag rfl hw ⟨.v,trivial⟩) ?_;refine gq wW ?_)
   |(refine fq ?_))
  all_goals (refine aC ?_;simp_all)
 ·skip
  refine NW.aG (by simp [Tryz.ntmps120]) (.v) ?_
  refine gq wW ?_
  repeat' (first
   |(refine ab.a_ rfl (ad.ag rfl hw ⟨.v,trivial⟩) (fun _=>?_) (fun _=>?_)<;>refine gq wW ?_)
   |(refine ab.a_ rfl (ad.ag rfl hr ⟨.v,trivial⟩) (fun _=>?_) (fun _=>?_)<;>refine gq wW ?_)
   |(refine ab.int rfl (ad.Cg rfl rfl (wY hl)) fun _ _=>?_;refine gq wW ?_)
   |(refine ab.a_ rfl (ad.ag rfl (EJ _) ⟨.v,trivial⟩) (fun _=>?_) (fun _=>?_)<;>refine gq wW ?_)
   |(refine fq ?_))
  all_goals
   refine aC ?_
   have hk:jN c.toNat=true->pV c=true:=by rw [Ch];intro h;simp [h]
   have e1:decide (1<=s.size)=true:=by simp [bH]
   have e2:decide (s.size<=40)=decide (rest.length < 40):=decide_eq_decide.2 (by omega)
   clear hw hr hs
   subst_vars
   simp only [List.all_cons,e1,e2,Bool.and_true] at *
   clear bH e1 e2 hl
   cases Jg:jN (c.toNat:Int)<;>cases ho:pV c<;>cases hr:rest.all pV<;>cases hd:decide (rest.length < 40)<;>simp_all
end
end
end Go.Proofs.YtbofilglphfceaaGreat
