import Derived.Test.YtgjfgekaclobaaaGreatProg
import Derived.Test.YtgjfgekaclobaaaGreatCm30
import Derived.Test.YtgjfgekaclobaaaGreatCm36
namespace Go.Proofs.YtgjfgekaclobaaaGreat
set_option linter.unusedVariables false
set_option linter.unusedSimpArgs false
open Go.RowKit
section
set_option maxRecDepth 100000
theorem B4 {α:Type}:∀ l:List α,wa (fun _=>1) l=l.length
 |[]=>rfl
 |x::l=>by rw [wa,B4 l,List.length_cons];omega
theorem Q2 (n:Nat):qz Tryz.prog n 38 1 (fun l=>[dw .plain fc false l]) (fun l=>l.length+1):=by
 have h:=(qz.slice Tryz.underlying38 (by kernel_rfl) (by decide) (qz.int (n:=n) Tryz.underlying3)).less (Nat.le_succ n)
 simp only [B4] at h
 exact h
end
section
set_option maxRecDepth 100000
attribute [local irreducible] av aE ad ab
end

section
set_option maxRecDepth 100000
attribute [local irreducible] av aE ad ab
end
section
set_option maxRecDepth 100000
end
section
set_option maxRecDepth 100000
attribute [local irreducible] av aE ad ab
end
section
set_option maxRecDepth 100000
attribute [local irreducible] av aE ad ab
end
section
set_option maxRecDepth 100000
attribute [local irreducible] av aE ad ab
def Fi.ok (f:Fi):Prop:=f.ids.length<=1099511627776
end
section
set_option maxRecDepth 100000
attribute [local irreducible] av aE ad ab
end
section
set_option maxRecDepth 100000
attribute [local irreducible] av aE ad ab
end
section
set_option maxRecDepth 100000
attribute [local irreducible] av aE ad ab
end
section
set_option maxRecDepth 100000
attribute [local irreducible] av aE ad ab
end
section
set_option maxRecDepth 100000
attribute [local irreducible] av aE ad ab
end


section
set_option maxRecDepth 100000
attribute [local irreducible] av aE ad ab
def ZC:CF Tryz.f6:=⟨_,by conv=>lhs;cbv⟩
theorem ZD:bQ Tryz.prog 6 ZC.1 Tryz.f6.ntmps:=fh Tryz.func6 ZC.2 Tryz.call6
def g6:List Nat:=[0,1,5,4,9,17,6,7]
section
variable {w0:World}{ρ:Hd}
theorem LL (hL:av Tryz.prog w0 21 [] (.v (.bool true))) (a b:List Int) (ha:a.length<=1099511627776) (hb:b.length<=1099511627776):av Tryz.prog w0 6 [dw ρ fc false a,dw ρ fc false b] (.v (.bool true)):=by
 by_cases hn:a.length<=200/\b.length<=200
 ·obtain⟨k_,dF⟩:=hn
  have h1:=oC (w0:=w0) (ρ:=ρ) a ha
  have h2:=oC (w0:=w0) (ρ:=ρ) b hb
  have h3:=QX (w0:=w0) (ρ:=ρ) a ha
  have h4:=oC (w0:=w0) (ρ:=ρ) (a++b) (by rw [List.length_append];omega)
  have h5:=oC (w0:=w0) (ρ:=ρ) (b++a) (by rw [List.length_append];omega)
  have h6:=oC (w0:=w0) (ρ:=.plain) [dW a 1,dW b 1] (by simp)
  have h7:=oC (w0:=w0) (ρ:=ρ) [] (by simp)
  rw [JC] at h5
  rw [Lr] at h6
  generalize dW (a++b) 1=X at h4 h5 h6
  generalize dW a 1=A at h1 h3 h6
  generalize dW b 1=B at h2 h6
  refine ZD.eQ (by simp [Tryz.ntmps6]) (.v) ?_
  refine gq g6 ?_
  repeat' (first
   |(refine ab.op rfl (ad.b9 rfl hL trivial) ?_;refine gq g6 ?_)
   |(refine bq (fun hb=>?_) (fun hb=>?_)<;>(try simp only [bS] at hb)<;>(first|exact absurd hb (by decide)|refine gq g6 ?_))
   |(refine bK fun m hm=>?_;(try rw [aF] at hm);refine gq g6 ?_)
   |(refine bH fun _ _=>?_;refine gq g6 ?_)
   |(refine dx fun _ _=>?_;refine gq g6 ?_)
   |(refine ab.str rfl (ad.cat rfl rfl (by assumption)) fun _ _=>?_;refine gq g6 ?_)
   |(refine ab.bh ?_;refine gq g6 ?_)
   |(refine ab.bO ?_;refine gq g6 ?_)
   |(refine fq ?_))
  all_goals first
   |(exfalso;omega)
   |skip
  refine ab.Oh (f:=fc) (ys:=a) rfl rfl rfl (fun _=>rfl) (by omega) fun acc len yR hlen=>?_
  refine gq g6 ?_
  refine ab.SE (f:=fc) (ys:=b) rfl rfl rfl hlen (fun _=>rfl) rfl (fun _=>rfl) (fun _=>rfl) (by rw [hlen,yR];omega) fun LM aaI AL AM=>?_
  refine gq g6 ?_
  obtain rfl:LM=a++b:=by rw [AL,yR]
  refine ab.op rfl (ad.E4 rfl h4 ⟨g9 _,trivial⟩ .v ⟨bX.grow rfl AM,trivial⟩) ?_
  refine gq g6 ?_
  clear yR hlen AL AM
  refine ab.Oh (f:=fc) (ys:=b) rfl rfl rfl (fun _=>rfl) (by omega) fun acc len yR hlen=>?_
  refine gq g6 ?_
  refine ab.SE (f:=fc) (ys:=a) rfl rfl rfl hlen (fun _=>rfl) rfl (fun _=>rfl) (fun _=>rfl) (by rw [hlen,yR];omega) fun LM aaI AL AM=>?_
  refine gq g6 ?_
  obtain rfl:LM=b++a:=by rw [AL,yR]
  refine ab.op rfl (ad.E4 rfl h5 ⟨g9 _,trivial⟩ .v ⟨bX.grow rfl AM,trivial⟩) ?_
  refine gq g6 ?_
  repeat' (first
   |(refine ab.op rfl (ad.b9 rfl h1 ⟨g9 _,trivial⟩) ?_;refine gq g6 ?_)
   |(refine ab.op rfl (ad.b9 rfl h2 ⟨g9 _,trivial⟩) ?_;refine gq g6 ?_)
   |(refine ab.op rfl (ad.b9 rfl h3 ⟨g9 _,trivial⟩) ?_;refine gq g6 ?_)
   |(refine ab.op rfl (ad.Bb rfl h6 ⟨g9 _,trivial⟩ ⟨Wk.sl,trivial⟩) ?_;refine gq g6 ?_)
   |(refine ab.op rfl (ad.Bb rfl h7 ⟨g9 _,trivial⟩ ⟨Wk.nil,trivial⟩) ?_;refine gq g6 ?_)
   |(refine bq (fun hb=>?_) (fun hb=>?_)<;>(try simp only [bS] at hb)<;>(first|exact absurd hb (by decide)|refine gq g6 ?_))
   |(refine bK fun m hm=>?_;(try rw [aF] at hm);refine gq g6 ?_)
   |(refine bH fun _ _=>?_;refine gq g6 ?_)
   |(refine dx fun _ _=>?_;refine gq g6 ?_)
   |(refine ab.str rfl (ad.cat rfl rfl (by assumption)) fun _ _=>?_;refine gq g6 ?_)
   |(refine ab.bh ?_;refine gq g6 ?_)
   |(refine ab.bO ?_;refine gq g6 ?_)
   |(refine fq ?_))
  all_goals first
   |(exfalso;omega)
   |exact bX.refl _
 ·skip
  refine ZD.eQ (by simp [Tryz.ntmps6]) (.v) ?_
  refine gq g6 ?_
  repeat' (first
   |(refine ab.op rfl (ad.b9 rfl hL trivial) ?_;refine gq g6 ?_)
   |(refine bq (fun hb=>?_) (fun hb=>?_)<;>(try simp only [bS] at hb)<;>(first|exact absurd hb (by decide)|refine gq g6 ?_))
   |(refine bK fun m hm=>?_;(try rw [aF] at hm);refine gq g6 ?_)
   |(refine bH fun _ _=>?_;refine gq g6 ?_)
   |(refine dx fun _ _=>?_;refine gq g6 ?_)
   |(refine ab.str rfl (ad.cat rfl rfl (by assumption)) fun _ _=>?_;refine gq g6 ?_)
   |(refine ab.bh ?_;refine gq g6 ?_)
   |(refine ab.bO ?_;refine gq g6 ?_)
   |(refine fq ?_))
  all_goals first
   |(exfalso;omega)
   |exact bX.refl _
end
end
section
variable {P:Program}{w0:World}{α:AA}{S:aa}{dr rd:Bool}{n:Nat}{Q:Exit->AA->aa->Prop}{l:List QI}{K:List ig}{ρ:Hd}{T:Type}{f:T->List AV}{dd:Option Nat}{gg:Option (Nat × Bool)}
theorem h_ {met:List T}{i:Nat}{x:T}(h:met[i]?=some x):(ρ.h (List.map f) met)[i]?=some (f x):=by rw [ρ.eq,List.getElem?_map,h];rfl
theorem ab.Nv {by_:Nat}{a b:QO}{i:Int}{m:Nat}{sz:Nat}(ρ:Hd) (f:T->List AV) (x0:T) (hw:bB α.tm gg=some true) (h1:a.ev α.tm=.v (.int .i64 i)) (h2:b.ev α.tm=.v (.int .i64 i)) (hi:i=m) (hs:(f x0).length=sz) (hy:m*by_<=35184372088832) (h6:m<=9223372036854775807)
  (kk:∀ met,met=List.replicate m x0->ab P w0 rd n Q (.aR dr l K) (bJ dd α (.ob S.nx sz 0 m none)) (S.new (.arr sz (ρ.h (List.map f) met) 0 true))):ab P w0 rd n Q (.aR dr (⟨dd,gg,.g7 (f x0) by_ a b⟩::l) K) α S:=by
 have h:=kk _ rfl
 rw [ρ.eq,List.map_replicate] at h
 subst hs hi
 exact ab.op (i:=⟨dd,gg,.g7 (f x0) by_ a b⟩) hw (by simpa using ad.Nv (P:=P) (w0:=w0) (dr:=dr) (z:=f x0) (by_:=by_) (S:=S) h1 h2 (by omega) rfl (by omega) (by omega)) h
theorem ad.aaJ {m p:Nat}{x i:QO}{k off len:Nat}{cx:Option Nat}{ik:IntKind}{j:Int}(h1:x.ev α.tm=.ob k m off len cx) (h2:i.ev α.tm=.v (.int ik j)) (hp:j=p) (h4:p < len):ad P w0 dr (.lx m x i) α S (.pt k m (off+p) 0) S:=by
 subst hp
 exact ad.RO h1 h2 (by omega) (by omega)
theorem ad.o8 {k:LK}{x:QO}{b sz i j fz:Nat}{ex:Bool}{rows:List (List AV)}{row:List AV}{a:AV}(hx:x.ev α.tm=.pt b sz i j) (hk:S.get b=some (.arr sz rows fz ex)) (hi:rows[i]?=some row) (ha:l7 k row j=some a):ad P w0 dr (.load k x) α S a S :=
 ad.quiet (by simp only [fT,hx,jt,hk,Nat.beq_refl,hi,ha])
theorem ad.aaK {n:Nat}{x b:QO}{k sz i j:Nat}{ex:Bool}{rows:List (List AV)}{row:List AV}(hx:x.ev α.tm=.pt k sz i j) (hk:S.get k=some (.arr sz rows 0 ex)) (hc:(aG (b.ev α.tm)).all bl=true) (hn:n=(aG (b.ev α.tm)).length) (hi:rows[i]?=some row)
  (hj:j+(aG (b.ev α.tm)).length<=row.length):ad P w0 dr (.store n x b) α S (.v undef) (S.set k (some (.arr sz (rows.set i (kO row j (aG (b.ev α.tm)))) 0 ex))):=by
 refine ad.of rfl fun o hr=>?_
 cases o<;>simp only [res,cL] at hr<;>(repeat' split at hr)<;>(try cases hr)
 rename_i hs
 rw [aD] at hx hc hn hj ⊢
 simp only [aK,hx]
 refine aL.mk (a:=_) ?_ ⟨rfl,rfl⟩
 simp only [kV,hk,hs,hc,hn,Nat.beq_refl,Bool.and_self,hi,Nat.ble_eq_true_of_le hj]
theorem ab.LN {m:Nat}{x b:QO}{k i:Nat}{ex:Bool}{met:List T}{y:T}{sz:Nat}(hw:bB α.tm gg=some true) (hx:x.ev α.tm=.pt k sz i 0) (hk:S.get k=some (.arr sz (ρ.h (List.map f) met) 0 ex)) (hb:aG (b.ev α.tm)=f y) (hc:(f y).all bl=true) (hl:∀ x,(f x).length=sz) (hm:m=sz) (hi:i < met.length)
  (kk:∀ SS,SS=met.set i y->ab P w0 rd n Q (.aR dr l K) (bJ dd α (.v undef)) (S.set k (some (.arr sz (ρ.h (List.map f) SS) 0 ex)))):ab P w0 rd n Q (.aR dr (⟨dd,gg,.store m x b⟩::l) K) α S:=by
 have h:=kk _ rfl
 have hx0:(ρ.h (List.map f) met)[i]?=some (f met[i]):=h_ (List.getElem?_eq_getElem hi)
 have e:(ρ.h (List.map f) met).set i (kO (f met[i]) 0 (aG (b.ev α.tm)))=ρ.h (List.map f) (met.set i y):=by
  rw [hb,ρ.eq,ρ.eq,List.map_set]
  congr 1
  unfold kO
  rw [hl,hl,Nat.beq_refl]
  rfl
 rw [<-e] at h
 exact ab.op (i:=⟨dd,gg,.store m x b⟩) hw (ad.aaK hx hk (by rw [hb];exact hc) (by rw [hb,hl];exact hm) hx0 (by rw [hb,hl,hl];omega)) h
end
mutual
def yS:Tm->Prop
 |⟨k,i,n,a⟩=>(k=1->0<=i)/\rW a
def rW:List Tm->Prop
 |[]=>True
 |x::l=>yS x/\rW l
end
theorem B5 {n:ByteArray}{a:List Tm}(h:qe n a=true):n=⟨#[]⟩/\a=[]:=by
 unfold qe at h
 rw [Bool.and_eq_true] at h
 exact⟨Ji.1 (eq_of_beq h.1),List.isEmpty_iff.1 h.2⟩
mutual
theorem B6:∀ x:Tm,ml x=true->x.ok->dP x/\iy x/\yS x/\vA x/\gp x=fB x
 |⟨k,i,n,a⟩,h,ho=>by
  rw [ml] at h
  rw [Tm.ok] at ho
  rw [dP,iy,yS,vA,gp,fB]
  by_cases h0:k=0
  ·rw [if_pos h0] at h
   simp only [Bool.and_eq_true,decide_eq_true_eq] at h
   obtain⟨rfl,rfl⟩:=B5 h.2
   rw [if_neg (by omega),if_neg (by omega)]
   exact⟨⟨by rw [gd];trivial,.inr rfl⟩,⟨by simp,ho.2.1,by rw [iB];trivial⟩,⟨by omega,by rw [rW];trivial⟩,⟨by omega,by rw [rQ];trivial⟩,by rw [dU]⟩
  ·rw [if_neg h0] at h
   by_cases h1:k=1
   ·rw [if_pos h1] at h
    simp only [Bool.and_eq_true,decide_eq_true_eq] at h
    obtain⟨rfl,rfl⟩:=B5 h.2
    rw [if_pos h1,if_neg (by omega)]
    exact⟨⟨rfl,rfl⟩,⟨by simp,ho.2.1,by rw [iB];trivial⟩,⟨fun _=>h.1.1,by rw [rW];trivial⟩,⟨fun _=>⟨h.1.1,by omega⟩,by rw [rQ];trivial⟩,by rw [dU]⟩
   ·rw [if_neg h1] at h
    split at h
    ·rename_i h2
     simp only [Bool.and_eq_true,Bool.or_eq_true,beq_iff_eq,decide_eq_true_eq] at h
     obtain⟨p1,p2,p3,p4,p5⟩:=z7 a h.2 ho.2.2
     rw [if_neg h1,if_pos h2]
     refine⟨⟨p1,.inl h2⟩,⟨?_,ho.2.1,p2⟩,⟨fun e=>absurd e h1,p3⟩,⟨fun e=>absurd e h1,p4⟩,by omega⟩
     rcases h.1.2 with h3|h3<;>omega
    ·cases h
theorem z7:∀ l:List Tm,pH l=true->sr l->gd l/\iB l/\rW l/\rQ l/\dU l=fW l
 |[],_,_=>⟨by rw [gd];trivial,by rw [iB];trivial,by rw [rW];trivial,by rw [rQ];trivial,by rw [dU,fW]⟩
 |x::l,h,ho=>by
  rw [pH,Bool.and_eq_true] at h
  rw [sr] at ho
  obtain⟨a1,a2,a3,a4,a5⟩:=B6 x h.1 ho.1
  obtain⟨b1,b2,b3,b4,b5⟩:=z7 l h.2 ho.2
  exact⟨by rw [gd];exact⟨a1,b1⟩,by rw [iB];exact⟨a2,b2⟩,by rw [rW];exact⟨a3,b3⟩,by rw [rQ];exact⟨a4,b4⟩,by rw [dU,fW,a5,b5]⟩
end
theorem z8 {x:Tm}(h:eM x=true) (ho:x.ok):dP x/\iy x/\yS x/\vA x/\gp x<=200:=by
 unfold eM at h
 simp only [Bool.and_eq_true,decide_eq_true_eq] at h
 obtain⟨p1,p2,p3,p4,p5⟩:=B6 x h.1.1 ho
 exact⟨p1,p2,p3,p4,by omega⟩
end Go.Proofs.YtgjfgekaclobaaaGreat
