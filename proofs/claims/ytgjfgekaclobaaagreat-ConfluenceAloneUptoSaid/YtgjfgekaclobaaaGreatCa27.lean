import Derived.Test.YtgjfgekaclobaaaGreatCa26
namespace Go.Proofs.YtgjfgekaclobaaaGreat
set_option linter.unusedVariables false
set_option linter.unusedSimpArgs false
open Go.RowKit
section
set_option maxRecDepth 100000
attribute [local irreducible] ah aK ae aa
def UC:CF Tryz.f116:=⟨_,by conv=>lhs;cbv⟩
theorem adG:aT Tryz.prog 116 UC.1 Tryz.f116.ntmps:=bX Tryz.func116 UC.2 Tryz.call116
def tD:List Nat:=[8,0,5,4,7,9,1,16]
def UD:CF Tryz.f209:=⟨_,by conv=>lhs;cbv⟩
theorem adH:aT Tryz.prog 209 UD.1 Tryz.f209.ntmps:=bX Tryz.func209 UD.2 Tryz.call209
def Rf:List Nat:=[4,0,1]
def UE:CF Tryz.f284:=⟨_,by conv=>lhs;cbv⟩
theorem adI:aT Tryz.prog 284 UE.1 Tryz.f284.ntmps:=bX Tryz.func284 UE.2 Tryz.call284
def rW:List Nat:=[8,0,5,4,1,7,9,3,16]
def UG:CF Tryz.f217:=⟨_,by conv=>lhs;cbv⟩
theorem adJ:aT Tryz.prog 217 UG.1 Tryz.f217.ntmps:=bX Tryz.func217 UG.2 Tryz.call217
def Rg:List Nat:=[4,1,0,3]
def UH:CF Tryz.f142:=⟨_,by conv=>lhs;cbv⟩
theorem adK:aT Tryz.prog 142 UH.1 Tryz.f142.ntmps:=bX Tryz.func142 UH.2 Tryz.call142
def aag:List Nat:=[6,0,1,2]
theorem F0 (l:List Int) (v:Int):(l.any fun x=>v == x)=l.contains v:=by
 induction l with
 |nil=>rfl
 |cons x l ih=>rw [List.any_cons,List.contains_cons,ih]
section
variable {w0:World}{ρ:Hd}
theorem adL (l:List Int) (v:Int) (hl:l.length<=1099511627776):ah Tryz.prog w0 116 [cE ρ cM false l,iv v] (iv (gD (fun x=>v == x) l 0)):=by
 obtain⟨R,hR⟩:∃ R,R=gD (fun x=>v == x) l 0:=⟨_,rfl⟩
 rw [<-hR]
 refine adG.bu (by simp [Tryz.ntmps116]) (.v) ?_
 refine gq tD ?_
 repeat' (first
  |(refine bL fun m hm=>?_;(try rw [aF] at hm);refine gq tD ?_)
  )
 refine aa.bP (σ:=Int) 0 0 [] (fun i=>[(0,cE ρ cM false l),(1,.v (.int .i64 v)),(7,.v (.int .i64 m)),(8,.v (.int .i64 i))]) [] (fun _=>[]) (fun i=>∃ k:Nat,i=k/\k<=l.length/\R=gD (fun x=>v == x) (l.drop k) k) (fun i=>l.length - i.toNat) 0 ⟨0,rfl,by simp,by simpa using hR⟩ rfl cq ?_
 rintro i ⟨k,hi,hk,hp⟩
 clear hR
 refine gq tD ?_
 by_cases aA:k < l.length
 ·obtain⟨x,hx,cg⟩:=cd aA
  rw [cg,gD] at hp
  repeat' (first
   |(refine aa.op rfl (ae.ind rfl rfl (bU (l:=l) hi hx) (bV fun _=>rfl)) ?_;refine gq tD ?_)
   |(refine bq (fun hb=>?_) (fun hb=>?_)<;>(try simp only [aM] at hb)<;>(first|refine gq tD ?_))
   |(refine cr fun _ _=>?_;refine gq tD ?_)
   |(refine aa.aR ?_;refine gq tD ?_)
   |(refine aa.iB ?_;refine gq tD ?_)
   |(refine fq ?_))
  all_goals first
   |(rw [if_pos (by simp_all)] at hp;refine oU ?_;omega)
   |(rw [if_neg (by simp_all)] at hp;(refine aa.bm (σ:=Int) _ [] ?_ ?_ cq<;>first|omega|exact⟨k+1,by omega,by omega,hp⟩))
 ·skip
  repeat' (first
   |(refine bq (fun hb=>?_) (fun hb=>?_)<;>(try simp only [aM] at hb)<;>(first|refine gq tD ?_))
   |(refine aa.aR ?_;refine gq tD ?_)
   |(refine fq ?_))
  all_goals first
   |(exfalso;omega)
   |(rw [hp,List.drop_eq_nil_of_le (by omega)];exact oU rfl)
theorem OM (l:List Int) (v:Int) (hl:l.length<=1099511627776):ah Tryz.prog w0 209 [cE ρ cM false l,iv v] (.v (.bool (l.contains v))):=by
 have hI:=adL (w0:=w0) (ρ:=ρ) l v hl
 have po:=rS (fun x=>v == x) l 0
 rw [F0] at po
 obtain⟨j,hj⟩:∃ j,j=gD (fun x=>v == x) l 0:=⟨_,rfl⟩
 rw [<-hj] at hI po
 refine adH.bu (by simp [Tryz.ntmps209]) (.v) ?_
 refine gq Rf ?_
 repeat' (first
  |(refine aa.int rfl (ae.aL rfl hI ⟨gy _,.v,trivial⟩) fun _ _=>?_;refine gq Rf ?_)
  |(refine bq (fun hb=>?_) (fun hb=>?_)<;>(try simp only [aM] at hb)<;>(first|refine gq Rf ?_))
  |(refine fq ?_))
 all_goals (subst_vars;refine eQ ?_;rw [<-po];simp_all)
theorem IW (n n':ByteArray) (i i':Int):OB Tryz.prog 77 (.agg #[.string n,.int .i64 i]) (.agg #[.string n',.int .i64 i']) (n.toList == n'.toList && i == i'):=by
 refine⟨⟨_,_,rfl,rfl⟩,by kernel_rfl,fun w=>?_⟩
 have hS:Tryz.prog.underlying 77=some (.struct (Tryz.prog.fieldsOf 77)):=by kernel_rfl
 have hp:Tryz.prog.stoodInHeld 77=false:=by kernel_rfl
 have u3:=Tryz.underlying3
 have u9:=Tryz.underlying9
 have a3:=Tryz.isAgg3
 have a9:=Tryz.isAgg9
 rw [run_eql_struct,show (10000:Nat)=9998+1+1 from rfl,run_equalIn_agg w _ 77 _ _ hS hp]
 simp only [Program.fieldsOf,Tryz.underlying77]
 have e1:∀ w,(Op.equalIn (9998+1) 9 (.string n) (.string n')).run Tryz.prog w=.ok (n.toList == n'.toList) w:=fun w=>run_equalIn_string w _ _ _ _ u9
 have e2:∀ w,(Op.equalIn (9998+1) 3 (.int .i64 i) (.int .i64 i')).run Tryz.prog w=.ok (i == i') w:=fun w=>run_equalIn_int w _ _ _ _ _ _ u3
 cases h1:(n.toList == n'.toList)<;>cases h2:(i == i')<;>simp [Op.eqFields,part,a3,a9,e1,e2,h1,h2]
def Bw (n:ByteArray) (i:Int) (d:Dc):Bool:=n.toList == d.n.toList && i == d.ar
theorem X9 (l:List Dc) (n:ByteArray) (i:Int):l.any (Bw n i)=vm l n i:=by
 unfold vm
 congr 1
 funext d
 unfold Bw
 rw [Bool.eq_iff_iff]
 simp only [Bool.and_eq_true,beq_iff_eq]
 constructor<;>rintro⟨h1,h2⟩<;>exact⟨h1.symm,h2.symm⟩
theorem adM (l:List Dc) (n:ByteArray) (a:Int) (hl:l.length<=1099511627776):ah Tryz.prog w0 284 [gI ρ l,dc ⟨n,a⟩] (iv (gD (Bw n a) l 0)):=by
 obtain⟨R,hR⟩:∃ R,R=gD (Bw n a) l 0:=⟨_,rfl⟩
 rw [<-hR]
 refine adI.bu (by simp [Tryz.ntmps284]) (.v) ?_
 refine gq rW ?_
 repeat' (first
  |(refine bL fun m hm=>?_;(try rw [aF] at hm);refine gq rW ?_)
  )
 refine aa.bP (σ:=Int) 1 1 [] (fun i=>[(0,gI ρ l),(3,.pt 0 2 0 0),(7,.v (.int .i64 m)),(8,.v (.int .i64 i))]) [] (fun _=>[(0,.arr 2 [Og ⟨n,a⟩] 0 true)]) (fun i=>∃ k:Nat,i=k/\k<=l.length/\R=gD (Bw n a) (l.drop k) k) (fun i=>l.length - i.toNat) 0 ⟨0,rfl,by simp,by simpa using hR⟩ rfl (by exact⟨sq,rfl,⟨.inl ⟨_,rfl,.arr (by exact⟨kq,trivial⟩)⟩,trivial⟩,rfl,rfl,rfl⟩) ?_
 rintro i ⟨k,hi,hk,hp⟩
 clear hR
 refine gq rW ?_
 by_cases aA:k < l.length
 ·obtain⟨x,hx,cg⟩:=cd aA
  rw [cg,gD] at hp
  obtain⟨xn,xa⟩:=x
  repeat' (first
   |(refine aa.op rfl (ae.ind rfl rfl (bU (l:=l) hi hx) (bV fun _=>rfl)) ?_;refine gq rW ?_)
   |(refine aa.bif rfl (ae.eqs rfl rfl (IW n xn a xa)) (fun _=>?_) (fun _=>?_)<;>refine gq rW ?_)
   |(refine bq (fun hb=>?_) (fun hb=>?_)<;>(try simp only [aM] at hb)<;>(first|refine gq rW ?_))
   |(refine cr fun _ _=>?_;refine gq rW ?_)
   |(refine aa.aR ?_;refine gq rW ?_)
   |(refine aa.iB ?_;refine gq rW ?_)
   |(refine fq ?_))
  ·have hq:(n.toList == xn.toList && a == xa)=true:=by assumption
   rw [if_pos (show Bw n a ⟨xn,xa⟩=true from hq)] at hp
   refine oU ?_;omega
  ·have hq:(n.toList == xn.toList && a == xa)=false:=by assumption
   rw [if_neg (show ¬ Bw n a ⟨xn,xa⟩=true from by show ¬ (n.toList == xn.toList && a == xa)=true;rw [hq];simp)] at hp
   (refine aa.bm (σ:=Int) _ [] ?_ ?_ (by exact⟨sq,rfl,⟨.inl ⟨_,rfl,.arr (by exact⟨kq,trivial⟩)⟩,trivial⟩,rfl,rfl,rfl⟩)<;>first|omega|exact⟨k+1,by omega,by omega,hp⟩)
  ·omega
 ·skip
  repeat' (first
   |(refine bq (fun hb=>?_) (fun hb=>?_)<;>(try simp only [aM] at hb)<;>(first|refine gq rW ?_))
   |(refine aa.aR ?_;refine gq rW ?_)
   |(refine fq ?_))
  all_goals first
   |(exfalso;omega)
   |(rw [hp,List.drop_eq_nil_of_le (by omega)];exact oU rfl)
theorem aah (l:List Dc) (n:ByteArray) (a:Int) (hl:l.length<=1099511627776):ah Tryz.prog w0 217 [gI ρ l,dc ⟨n,a⟩] (.v (.bool (vm l n a))):=by
 have hI:=adM (w0:=w0) (ρ:=ρ) l n a hl
 have po:=rS (Bw n a) l 0
 rw [X9] at po
 obtain⟨j,hj⟩:∃ j,j=gD (Bw n a) l 0:=⟨_,rfl⟩
 rw [<-hj] at hI po
 refine adJ.bu (by simp [Tryz.ntmps217]) (.v) ?_
 refine gq Rg ?_
 repeat' (first
  |(refine aa.int rfl (ae.aL rfl hI ⟨dK _,CL ⟨n,a⟩,trivial⟩) fun _ _=>?_;refine gq Rg ?_)
  |(refine bq (fun hb=>?_) (fun hb=>?_)<;>(try simp only [aM] at hb)<;>(first|refine gq Rg ?_))
  |(refine fq ?_))
 all_goals (subst_vars;refine eQ ?_;rw [<-po];simp_all)
theorem J_ (l:List Dc) (n:ByteArray) (a:Int) (hl:l.length<=1099511627776):ah Tryz.prog w0 142 [gI ρ l,.v (.string n),iv a] (.v (.bool (vm l n a))):=by
 have hI:=aah (w0:=w0) (ρ:=ρ) l n a hl
 obtain⟨R,hR⟩:∃ R,R=vm l n a:=⟨_,rfl⟩
 rw [<-hR] at hI ⊢
 refine adK.bu (by simp [Tryz.ntmps142]) (.v) ?_
 refine gq aag ?_
 repeat' (first
  |(refine aa.op rfl (ae.aL rfl hI ⟨dK _,CL ⟨n,a⟩,trivial⟩) ?_;refine gq aag ?_)
  |(refine fq ?_))
 exact eQ rfl
end
end
end Go.Proofs.YtgjfgekaclobaaaGreat
