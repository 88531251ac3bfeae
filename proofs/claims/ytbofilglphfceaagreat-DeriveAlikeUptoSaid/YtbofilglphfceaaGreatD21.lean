import Derived.Test.YtbofilglphfceaaGreatProg
import Derived.Test.YtbofilglphfceaaGreatD20
namespace Go.Proofs.YtbofilglphfceaaGreat
set_option linter.unusedVariables false
set_option linter.unusedSimpArgs false
open Go.RowKit
section
set_option maxRecDepth 100000
attribute [local irreducible] ag aR aa ab
def vf:Nat:=1099511627776
mutual
def Tm.ok:Tm->Prop
 |⟨k,i,n,a⟩=>a.length<=vf/\n.size<=vf/\eO a
def eO:List Tm->Prop
 |[]=>True
 |x::l=>x.ok/\eO l
end
theorem eO.mem:∀ {l:List Tm},eO l->∀ x ∈ l,x.ok
 |[],_,x,h=>by cases h
 |y::l,hk,x,h=>by
  rw [eO] at hk
  rcases List.mem_cons.1 h with rfl|h
  ·exact hk.1
  ·exact hk.2.mem x h
theorem Tm.ok.out {t:Tm}(h:t.ok):t.a.length<=1099511627776/\t.n.size<=1099511627776/\eO t.a:=by
 obtain⟨k,i,n,a⟩:=t
 rw [Tm.ok] at h
 exact h
def F3:CF Tryz.f288:=⟨_,by conv=>lhs;cbv⟩
theorem Li:bN Tryz.prog 288 F3.1 Tryz.f288.ntmps:=cd Tryz.func288 F3.2 Tryz.call288
def I5:List Nat:=[3,2,0,4,6,8]
def F4:CF Tryz.f266:=⟨_,by conv=>lhs;cbv⟩
theorem Lj:bN Tryz.prog 266 F4.1 Tryz.f266.ntmps:=cd Tryz.func266 F4.2 Tryz.call266
def I6:List Nat:=[4,2,0,1,5,7,9]
def F5:CF Tryz.f265:=⟨_,by conv=>lhs;cbv⟩
theorem Lk:bN Tryz.prog 265 F5.1 Tryz.f265.ntmps:=cd Tryz.func265 F5.2 Tryz.call265
def I7:List Nat:=[0,1,4,5,9]
def F6:CF Tryz.f264:=⟨_,by conv=>lhs;cbv⟩
theorem Ll:bN Tryz.prog 264 F6.1 Tryz.f264.ntmps:=cd Tryz.func264 F6.2 Tryz.call264
def I8:List Nat:=[0,1,4,5,9]
def F7:CF Tryz.f275:=⟨_,by conv=>lhs;cbv⟩
theorem Lm:bN Tryz.prog 275 F7.1 Tryz.f275.ntmps:=cd Tryz.func275 F7.2 Tryz.call275
def I9:List Nat:=[0,2]
def F8:CF Tryz.f328:=⟨_,by conv=>lhs;cbv⟩
theorem Ln:bN Tryz.prog 328 F8.1 Tryz.f328.ntmps:=cd Tryz.func328 F8.2 Tryz.call328
def I_:List Nat:=[0,2]
def F9:CF Tryz.f197:=⟨_,by conv=>lhs;cbv⟩
theorem Lo:bN Tryz.prog 197 F9.1 Tryz.f197.ntmps:=cd Tryz.func197 F9.2 Tryz.call197
def DZ:List Nat:=[0,1,6,4,5,11,12,13,16,19]
def F_:CF Tryz.f289:=⟨_,by conv=>lhs;cbv⟩
theorem Lp:bN Tryz.prog 289 F_.1 Tryz.f289.ntmps:=cd Tryz.func289 F_.2 Tryz.call289
def D0:List Nat:=[0,1,6,4,5,11,12,13,16,19]
def Ga:CF Tryz.f196:=⟨_,by conv=>lhs;cbv⟩
theorem Lq:bN Tryz.prog 196 Ga.1 Tryz.f196.ntmps:=cd Tryz.func196 Ga.2 Tryz.call196
def mz:List Nat:=[8,5,3,2,0,7,9,6,14]
def Gb:CF Tryz.f217:=⟨_,by conv=>lhs;cbv⟩
theorem Lr:bN Tryz.prog 217 Gb.1 Tryz.f217.ntmps:=cd Tryz.func217 Gb.2 Tryz.call217
def oK:List Nat:=[2,3,20,5,21,6,7,4,0,1,16,29,39,47]
def Gc:CF Tryz.f136:=⟨_,by conv=>lhs;cbv⟩
theorem Ls:bN Tryz.prog 136 Gc.1 Tryz.f136.ntmps:=cd Tryz.func136 Gc.2 Tryz.call136
def kD:List Nat:=[9,0,5,6,4,8,10,1,22]
def Gd:CF Tryz.f180:=⟨_,by conv=>lhs;cbv⟩
theorem uw:bN Tryz.prog 180 Gd.1 Tryz.f180.ntmps:=cd Tryz.func180 Gd.2 Tryz.call180
def en:List Nat:=[2,3,5,15,16,4,0,1,12,24,34,41,54,61]
def Ge:CF Tryz.f263:=⟨_,by conv=>lhs;cbv⟩
theorem Lt:bN Tryz.prog 263 Ge.1 Tryz.f263.ntmps:=cd Tryz.func263 Ge.2 Tryz.call263
def eR:List Nat:=[5,0,1,6,4,16,29]
def bK (k:Int):Int:=if k=1 then 0 else if k=0 then 1 else if k=2 then 2 else 3
def cL (a b:Int):Int:=if a < b then -1 else if b < a then 1 else 0
def lF (a b:ByteArray):Int:=if Op.bytesLess a.toList b.toList then -1 else if (Op.bytesLess a.toList b.toList || a.toList == b.toList) then 0 else 1
def kM:List Int->Int
 |[]=>0
 |x::l=>if x=0 then kM l else x
def bL (a b:Int):Int:=if a=0 then b else a
mutual
def c_:Tm->Tm->Int
 |⟨k,i,n,a⟩,y=>bL (cL (bK k) (bK y.k)) (if bK k=0\/bK k=1 then cL i y.i else if bK k=2 then bL (cL a.length y.a.length) (bL (lF n y.n) (cG a y.a)) else bL (cL k y.k) (bL (cL i y.i) (lF n y.n)))
def cG:List Tm->List Tm->Int
 |[],m=>cL 0 m.length
 |x::l,[]=>1
 |x::l,y::m=>bL (c_ x y) (cG l m)
end
section
variable {w0:World}{ρ:Hd}
set_option maxRecDepth 100000
theorem Ja (k:Int):ag Tryz.prog w0 288 [iv k] (iv (bK k)):=by
 refine Li.bc (by simp [Tryz.ntmps288]) (.v) ?_
 refine gq I5 ?_
 repeat' (first
  |(refine bq (fun hb=>?_) (fun hb=>?_)<;>(try simp only [aJ] at hb)<;>(first|refine gq I5 ?_))
  |(refine fq ?_))
 all_goals (refine bG.of_eq ?_;simp_all [bK,iv])
theorem iX (x:Tm):ag Tryz.prog w0 266 [tm ρ x] (iv (bK x.k)):=by
 obtain⟨k,i,n,a⟩:=x
 refine Lj.bc (by simp [Tryz.ntmps266]) (.v) ?_
 refine gq I6 ?_
 repeat' (first
  |(refine bq (fun hb=>?_) (fun hb=>?_)<;>(try simp only [aJ] at hb)<;>(first|refine gq I6 ?_))
  |(refine fq ?_))
 all_goals (refine bG.of_eq ?_;simp_all [bK,iv])
theorem lG (a b:Int):ag Tryz.prog w0 265 [iv a,iv b] (iv (cL a b)):=by
 refine Lk.bc (by simp [Tryz.ntmps265]) (.v) ?_
 refine gq I7 ?_
 repeat' (first
  |(refine bq (fun hb=>?_) (fun hb=>?_)<;>(try simp only [aJ] at hb)<;>(first|refine gq I7 ?_))
  |(refine fq ?_))
 all_goals (refine bG.of_eq ?_;simp only [cL,iv];(repeat' split)<;>first|rfl|omega)
theorem sG (a b:ByteArray):ag Tryz.prog w0 264 [.v (.string a),.v (.string b)] (iv (lF a b)):=by
 refine Ll.bc (by simp [Tryz.ntmps264]) (.v) ?_
 refine gq I8 ?_
 repeat' (first
  |(refine bq (fun hb=>?_) (fun hb=>?_)<;>(try simp only [aJ] at hb)<;>(first|refine gq I8 ?_))
  |(refine fq ?_))
 all_goals (refine bG.of_eq ?_;simp_all [lF,iv])
theorem Jb (a:Int):ag Tryz.prog w0 275 [iv a] (.v (.bool false)):=by
 refine Lm.bc (by simp [Tryz.ntmps275]) (.v) ?_
 refine gq I9 ?_
 repeat' (first
  |(refine bq (fun hb=>?_) (fun hb=>?_)<;>(try simp only [aJ] at hb)<;>(first|exact absurd hb (by decide)|refine gq I9 ?_))
  |(refine fq ?_))
 all_goals (refine bG.of_eq ?_;simp_all)
theorem Jc (a:ByteArray):ag Tryz.prog w0 328 [.v (.string a)] (.v (.bool false)):=by
 refine Ln.bc (by simp [Tryz.ntmps328]) (.v) ?_
 refine gq I_ ?_
 repeat' (first
  |(refine bq (fun hb=>?_) (fun hb=>?_)<;>(try simp only [aJ] at hb)<;>(first|exact absurd hb (by decide)|refine gq I_ ?_))
  |(refine fq ?_))
 all_goals (refine bG.of_eq ?_;simp_all)
theorem rL (a b:Int):ag Tryz.prog w0 197 [iv a,iv b] (iv (cL a b)):=by
 refine Lo.bc (by simp [Tryz.ntmps197]) (.v) ?_
 refine gq DZ ?_
 repeat' (first
  |(refine ab.op rfl (aa.aB rfl (Jb _) ⟨.v,trivial⟩) ?_;refine gq DZ ?_)
  |(refine bq (fun hb=>?_) (fun hb=>?_)<;>(try simp only [aJ] at hb)<;>(first|refine gq DZ ?_))
  |(refine fq ?_))
 all_goals (refine bG.of_eq ?_;simp only [cL,iv];(repeat' split)<;>first|rfl|omega)
theorem CB (a b:ByteArray):ag Tryz.prog w0 289 [.v (.string a),.v (.string b)] (iv (lF a b)):=by
 refine Lp.bc (by simp [Tryz.ntmps289]) (.v) ?_
 refine gq D0 ?_
 repeat' (first
  |(refine ab.op rfl (aa.aB rfl (Jc _) ⟨.v,trivial⟩) ?_;refine gq D0 ?_)
  |(refine bq (fun hb=>?_) (fun hb=>?_)<;>(try simp only [aJ] at hb)<;>(first|refine gq D0 ?_))
  |(refine fq ?_))
 all_goals (refine bG.of_eq ?_;simp_all [lF,iv])
theorem gR {S:U}{a b:Int}(h:a=b):bG S (.v (.int .i64 a)) (iv b):=by subst h;exact bG.refl _
theorem aT {S:U}{a b:Bool}(h:a=b):bG S (.v (.bool a)) (.v (.bool b)):=by subst h;exact bG.refl _
theorem Jd (l:List Int) (hl:l.length<=vf):ag Tryz.prog w0 196 [dZ ρ gH false l] (iv (kM l)):=by
 rw [vf] at hl
 refine Lq.bc (by simp [Tryz.ntmps196]) (.v) ?_
 refine gq mz ?_
 repeat' (first
  |(refine aS fun m hm=>?_;(try rw [aq] at hm);refine gq mz ?_)
  )
 refine ab.cO (σ:=Int) 0 0 [] (fun i=>[(3,.v (.int .i64 0)),(6,dZ ρ gH false l),(7,.v (.int .i64 m)),(8,.v (.int .i64 i))]) [] (fun _=>[])
  (fun i=>∃ k:Nat,i=k/\k<=l.length/\kM l=kM (l.drop k)) (fun i=>l.length - i.toNat) 0 ⟨0,rfl,by simp,by simp⟩ rfl cq ?_
 rintro i ⟨k,hi,hk,hp⟩
 refine gq mz ?_
 by_cases au:k < l.length
 ·obtain⟨x,hx,bI⟩:∃ x,l[k]?=some x/\l.drop k=x::l.drop (k+1):=⟨l[k],List.getElem?_eq_getElem au,List.drop_eq_getElem_cons au⟩
  rw [bI,kM] at hp
  repeat' (first
   |(refine ab.op rfl (aa.ind rfl rfl (bg (l:=l) hi hx) (ba fun _=>rfl)) ?_;refine gq mz ?_)
   |(refine bq (fun hb=>?_) (fun hb=>?_)<;>(try simp only [aJ] at hb)<;>(first|refine gq mz ?_))
   |(refine cQ fun _ _=>?_;refine gq mz ?_)
   |(refine ab.aK ?_;refine gq mz ?_)
   |(refine ab.de ?_;refine gq mz ?_)
   |(refine fq ?_))
  ·rw [if_neg (by assumption)] at hp;exact gR hp.symm
  ·rw [if_pos (by assumption)] at hp
   refine ab.cK (σ:=Int) _ [] ?_ ?_ cq
   ·exact⟨k+1,by omega,by omega,hp⟩
   ·omega
  ·omega
 ·skip
  repeat' (first
   |(refine bq (fun hb=>?_) (fun hb=>?_)<;>(try simp only [aJ] at hb)<;>(first|refine gq mz ?_))
   |(refine ab.aK ?_;refine gq mz ?_)
   |(refine fq ?_))
  ·omega
  ·rw [hp,List.drop_eq_nil_of_le (by omega)];exact gR rfl
end
end
end Go.Proofs.YtbofilglphfceaaGreat
