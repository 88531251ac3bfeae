import Derived.Lib.Bytealg
import Derived.Test.YtgjfgekaclobaaaGreatCm27
namespace Go.Proofs.YtgjfgekaclobaaaGreat
set_option linter.unusedVariables false
set_option linter.unusedSimpArgs false
open Go.RowKit
section
set_option maxRecDepth 100000
attribute [local irreducible] av aE ad ab
def N7:CF Tryz.f420:=⟨_,by conv=>lhs;cbv⟩
theorem UR:bQ Tryz.prog 420 N7.1 Tryz.f420.ntmps:=fh Tryz.func420 N7.2 Tryz.call420
def rN:List Nat:=[4,0,1]
def N8:CF Tryz.f398:=⟨_,by conv=>lhs;cbv⟩
theorem US:bQ Tryz.prog 398 N8.1 Tryz.f398.ntmps:=fh Tryz.func398 N8.2 Tryz.call398
def qh:List Nat:=[8,0,1,5,9,10,6,11,12,13,4,16,24,31,36,59,64,73,7,93,107,114,132,139]
def N9:CF Tryz.f359:=⟨_,by conv=>lhs;cbv⟩
theorem UT:bQ Tryz.prog 359 N9.1 Tryz.f359.ntmps:=fh Tryz.func359 N9.2 Tryz.call359
def rO:List Nat:=[4,0,1]
def N_:CF Tryz.f329:=⟨_,by conv=>lhs;cbv⟩
theorem UU:bQ Tryz.prog 329 N_.1 Tryz.f329.ntmps:=fh Tryz.func329 N_.2 Tryz.call329
def rP:List Nat:=[4,0,1]
def Oa:CF Tryz.f280:=⟨_,by conv=>lhs;cbv⟩
theorem Oc:bQ Tryz.prog 280 Oa.1 Tryz.f280.ntmps:=fh Tryz.func280 Oa.2 Tryz.call280
def kf:List Nat:=[0,2]
def nM:ByteArray:=⟨#[43,45,42,47,37]⟩
section
variable {w0:World}{ρ:Hd}
theorem ibs (s:ByteArray) (c:Int) (w:World):(callFunc 431 #[.string s,.int .u8 c]).run Tryz.prog w=.ok (.value (.int .i64 (Lib.indexByte s.data.toList c.toNat.toUInt8))) w:=by
 rw [run_callFunc_extern Tryz.func431 (by kernel_rfl) (by kernel_rfl) (by kernel_rfl) (e:=Extern.BytealgIndexByte.indexByte) (by kernel_rfl),Lib.run_indexByteString]
 rfl
theorem Dj (s:ByteArray) (c:Int):av Tryz.prog w0 420 [.v (.string s),.v (.int .u8 c)] (iv (Lib.indexByte s.data.toList c.toNat.toUInt8)):=by
 refine UR.eQ (by simp [Tryz.ntmps420]) (.v) ?_
 refine gq rN ?_
 repeat' (first
  |(refine ab.int rfl (ad.ext (xs:=[.string s,.int .u8 c]) rfl rfl (ibs s c)) fun _ _=>?_;refine gq rN ?_)
  |(refine bq (fun hb=>?_) (fun hb=>?_)<;>(try simp only [bS] at hb)<;>(first|exact absurd hb (by decide)|refine gq rN ?_))
  |(refine bK fun m hm=>?_;(try rw [aF] at hm);refine gq rN ?_)
  |(refine bH fun _ _=>?_;refine gq rN ?_)
  |(refine dx fun _ _=>?_;refine gq rN ?_)
  |(refine ab.str rfl (ad.cat rfl rfl (by assumption)) fun _ _=>?_;refine gq rN ?_)
  |(refine ab.bh ?_;refine gq rN ?_)
  |(refine ab.bO ?_;refine gq rN ?_)
  |(refine fq ?_))
 all_goals (subst_vars;exact vw rfl)
theorem Lp (n:ByteArray) (c:UInt8) (h:n.data.toList=[c]):av Tryz.prog w0 398 [.v (.string nM),.v (.string n)] (iv (Lib.indexByte nM.data.toList c)):=by
 have aZ:=lH n
 rw [h] at aZ
 have tC:=toL_eq n
 rw [h] at tC
 have hi:idx n.data.toList 0=some c:=BJ h
 refine US.eQ (by simp [Tryz.ntmps398]) (.v) ?_
 refine gq qh ?_
 repeat' (first
  |(refine ab.int rfl (ad.KL rfl rfl hi) fun _ _=>?_;refine gq qh ?_)
  |(refine ab.int rfl (ad.b9 rfl (Dj _ _) ⟨.v,.v,trivial⟩) fun _ _=>?_;refine gq qh ?_)
  |(refine bq (fun hb=>?_) (fun hb=>?_)<;>(try simp only [bS] at hb)<;>(first|exact absurd hb (by decide)|refine gq qh ?_))
  |(refine bK fun m hm=>?_;(try rw [aF] at hm);refine gq qh ?_)
  |(refine bH fun _ _=>?_;refine gq qh ?_)
  |(refine dx fun _ _=>?_;refine gq qh ?_)
  |(refine ab.str rfl (ad.cat rfl rfl (by assumption)) fun _ _=>?_;refine gq qh ?_)
  |(refine ab.bh ?_;refine gq qh ?_)
  |(refine ab.bO ?_;refine gq qh ?_)
  |(refine fq ?_))
 all_goals first
  |(exfalso;simp only [List.length_cons,List.length_nil] at aZ;omega)
  |(exfalso;rename_i hb;rw [tC,toL_eq] at hb;simp at hb;done)
  |(subst_vars;exact vw (by simp [nM]))
theorem QV (n:ByteArray) (c:UInt8) (h:n.data.toList=[c]):av Tryz.prog w0 359 [.v (.string nM),.v (.string n)] (iv (Lib.indexByte nM.data.toList c)):=by
 have hi:=Lp (w0:=w0) n c h
 obtain⟨r,hr⟩:∃ r,r=Lib.indexByte nM.data.toList c:=⟨_,rfl⟩
 rw [<-hr] at hi ⊢
 refine UT.eQ (by simp [Tryz.ntmps359]) (.v) ?_
 refine gq rO ?_
 repeat' (first
  |(refine ab.op rfl (ad.b9 rfl hi ⟨.v,.v,trivial⟩) ?_;refine gq rO ?_)
  |(refine bq (fun hb=>?_) (fun hb=>?_)<;>(try simp only [bS] at hb)<;>(first|exact absurd hb (by decide)|refine gq rO ?_))
  |(refine bK fun m hm=>?_;(try rw [aF] at hm);refine gq rO ?_)
  |(refine bH fun _ _=>?_;refine gq rO ?_)
  |(refine dx fun _ _=>?_;refine gq rO ?_)
  |(refine ab.str rfl (ad.cat rfl rfl (by assumption)) fun _ _=>?_;refine gq rO ?_)
  |(refine ab.bh ?_;refine gq rO ?_)
  |(refine ab.bO ?_;refine gq rO ?_)
  |(refine fq ?_))
 all_goals exact vw rfl
theorem Fg (n:ByteArray) (c:UInt8) (h:n.data.toList=[c]):av Tryz.prog w0 329 [.v (.string nM),.v (.string n)] (.v (.bool (decide (Lib.indexByte nM.data.toList c>=0)))):=by
 have hi:=QV (w0:=w0) n c h
 obtain⟨r,hr⟩:∃ r,r=Lib.indexByte nM.data.toList c:=⟨_,rfl⟩
 rw [<-hr] at hi ⊢
 refine UU.eQ (by simp [Tryz.ntmps329]) (.v) ?_
 refine gq rP ?_
 repeat' (first
  |(refine ab.op rfl (ad.b9 rfl hi ⟨.v,.v,trivial⟩) ?_;refine gq rP ?_)
  |(refine bq (fun hb=>?_) (fun hb=>?_)<;>(try simp only [bS] at hb)<;>(first|exact absurd hb (by decide)|refine gq rP ?_))
  |(refine bK fun m hm=>?_;(try rw [aF] at hm);refine gq rP ?_)
  |(refine bH fun _ _=>?_;refine gq rP ?_)
  |(refine dx fun _ _=>?_;refine gq rP ?_)
  |(refine ab.str rfl (ad.cat rfl rfl (by assumption)) fun _ _=>?_;refine gq rP ?_)
  |(refine ab.bh ?_;refine gq rP ?_)
  |(refine ab.bO ?_;refine gq rP ?_)
  |(refine fq ?_))
 all_goals (refine su ?_;simp_all)
theorem SA (n:ByteArray) (c:UInt8) (h:n.data.toList=[c]):ir n=decide (Lib.indexByte nM.data.toList c>=0):=by
 have e:nM.data.toList=[43,45,42,47,37]:=rfl
 rw [ir,toL_eq n,h,e]
 simp only [toL_eq]
 have b:∀ d:UInt8,([c] == [d])=(d == c):=fun d=>by
  rw [Bool.eq_iff_iff];simp;exact eq_comm
 rw [b,b,b,b,b]
 unfold Lib.indexByte Lib.indexByte Lib.indexByte Lib.indexByte Lib.indexByte Lib.indexByte
 cases (43:UInt8) == c<;>cases (45:UInt8) == c<;>cases (42:UInt8) == c<;>cases (47:UInt8) == c<;>cases (37:UInt8) == c<;>rfl
theorem Lq (n:ByteArray) (h:n.size ≠ 1):ir n=false:=by
 rw [lH] at h
 rw [ir]
 simp only [toL_eq]
 have b:∀ d:UInt8,(n.data.toList == [d])=false:=fun d=>by
  rw [beq_eq_false_iff_ne];intro e;rw [e] at h;exact h rfl
 rw [b,b,b,b,b];rfl
theorem SB (n:ByteArray):av Tryz.prog w0 280 [.v (.string n)] (.v (.bool (ir n))):=by
 have aZ:=lH n
 by_cases h1:n.size=1
 ·obtain⟨c,h⟩:∃ c,n.data.toList=[c]:=by
   rw [h1] at aZ
   match hl:n.data.toList,aZ with
   |[c],_=>exact⟨c,rfl⟩
   |[],h=>simp at h
   |_::_::_,h=>simp at h
  rw [SA n c h]
  have hi:=Fg (w0:=w0) n c h
  obtain⟨r,hr⟩:∃ r,r=decide (Lib.indexByte nM.data.toList c>=0):=⟨_,rfl⟩
  rw [<-hr] at hi ⊢
  refine Oc.eQ (by simp [Tryz.ntmps280]) (.v) ?_
  refine gq kf ?_
  repeat' (first
   |(refine ab.bif rfl (ad.b9 rfl hi ⟨.v,.v,trivial⟩) (fun _=>?_) (fun _=>?_)<;>refine gq kf ?_)
   |(refine bq (fun hb=>?_) (fun hb=>?_)<;>(try simp only [bS] at hb)<;>(first|exact absurd hb (by decide)|refine gq kf ?_))
   |(refine bK fun m hm=>?_;(try rw [aF] at hm);refine gq kf ?_)
   |(refine bH fun _ _=>?_;refine gq kf ?_)
   |(refine dx fun _ _=>?_;refine gq kf ?_)
   |(refine ab.str rfl (ad.cat rfl rfl (by assumption)) fun _ _=>?_;refine gq kf ?_)
   |(refine ab.bh ?_;refine gq kf ?_)
   |(refine ab.bO ?_;refine gq kf ?_)
   |(refine fq ?_))
  all_goals first
   |(exfalso;omega)
   |(refine su ?_;rename_i hx;rw [hx])
 ·rw [Lq n h1]
  refine Oc.eQ (by simp [Tryz.ntmps280]) (.v) ?_
  refine gq kf ?_
  repeat' (first
   |(refine bq (fun hb=>?_) (fun hb=>?_)<;>(try simp only [bS] at hb)<;>(first|exact absurd hb (by decide)|refine gq kf ?_))
   |(refine bK fun m hm=>?_;(try rw [aF] at hm);refine gq kf ?_)
   |(refine bH fun _ _=>?_;refine gq kf ?_)
   |(refine dx fun _ _=>?_;refine gq kf ?_)
   |(refine ab.str rfl (ad.cat rfl rfl (by assumption)) fun _ _=>?_;refine gq kf ?_)
   |(refine ab.bh ?_;refine gq kf ?_)
   |(refine ab.bO ?_;refine gq kf ?_)
   |(refine fq ?_))
  all_goals first
   |exact su rfl
   |(exfalso;omega)
end
end
end Go.Proofs.YtgjfgekaclobaaaGreat
