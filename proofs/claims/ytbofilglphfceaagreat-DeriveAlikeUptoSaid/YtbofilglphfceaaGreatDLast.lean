/- DeriveAlike holds (its Upto form): for every input whose bulk is at most 1048576 the call returns true, and the input reads afterwards as before. -/
import Derived.Test.YtbofilglphfceaaGreatD53
namespace Go.Proofs.YtbofilglphfceaaGreat
set_option linter.unusedVariables false
set_option linter.unusedSimpArgs false
open Go.RowKit
section
namespace DeriveAlike
open Go.ChangeShapes Go.WideShapes Go.ChangeAt Go.RowKit
open Go.ChangeMaps (open_string shut_string)
set_option maxRecDepth 100000 in
theorem Fv (H:Type) (enc:TypeId × Value->H) (W:World) (base:Nat) (args:Array Value) (ds gs:List (DataW H)) (before:List MemPlace)
  (jR:∀ (j:Nat) t v,Tryz.f5.params[j]?=some t->args[j]?=some v->Value.okWide Tryz.prog W .any base t v)
  (hW:DataW.Whole enc Tryz.prog Tryz.f5.params.toList Rows.deriveAlikeSpec.vars false W args.toList ds gs before) (hB:Rows.uptoBulkAll (ds++gs)<=1048576) :
  Calls Tryz.prog 5 args W fun e W'=>∃ v,e=.returned v/\Rows.deriveAlikeSpec.post enc Tryz.prog Tryz.f5 false true false false W args v W':=by
 have T9:=hW
 obtain⟨p,q,hA,hV,rfl,oM,Tb⟩:=hW
 obtain⟨rfl,rfl⟩:=trodVars_none hV
 have tD:=hA
 rw [Tryz.params5] at hA jR
 obtain⟨v0,UE,d0,UF,p0,q0,aH,rfl,rfl,h0,r0⟩:=trodAll_cons hA
 obtain⟨v1,UG,d1,UH,p1,q1,rfl,rfl,rfl,h1,r1⟩:=trodAll_cons r0
 obtain⟨v2,UI,d2,UJ,p2,q2,rfl,rfl,rfl,h2,r2⟩:=trodAll_cons r1
 obtain⟨rfl,rfl,rfl⟩:=trodAll_nil r2
 obtain rfl:args=#[v0,v1,v2]:=by cases args;simp_all
 simp only [List.cons_append,List.nil_append,Rows.uptoBulkAll] at hB
 obtain⟨x0,w0,e0⟩:=xO (jR 0 32 v0 rfl rfl) h0
 obtain⟨x1,w1,e1⟩:=xO (jR 1 32 v1 rfl rfl) h1
 obtain⟨x2,e2,u2⟩:=Kf h2 (jR 2 5 v2 rfl rfl)
 have k0:=Dh (s:=x0) (by omega)
 have k1:=Dh (s:=x1) (by omega)
 refine ((Dq (w0:=W) RU x0 x1 x2 k0 k1 u2.1 u2.2).calls (Oj e0 e1 e2)).mono fun e W' ⟨he,hb⟩=>?_
 subst he
 exact⟨_,rfl,Fh laidOut (by rw [Tryz.params5];simp only [List.mem_cons,List.not_mem_nil,or_false];intro t ht;rcases ht with rfl|rfl|rfl<;>exact⟨by kernel_rfl,by decide +kernel⟩) rfl rfl Tryz.underlying4 rfl T9 hb⟩
theorem Fw (os:Os):laidMet Tryz.prog Rows.deriveAlikeUptoRow.laid ((o_ os).forCall (fun _ _=>0) ⟨#[],#[.agg #[.slice none 0 0,.slice none 0 0,.slice none 0 0,.slice none 0 0,.slice none 0 0,.int .i64 0,.int .i64 0,.bool false],.agg #[.slice none 0 0,.slice none 0 0,.slice none 0 0,.slice none 0 0,.slice none 0 0,.int .i64 0,.int .i64 0,.bool false],.int .u8 0],[]⟩).memory :=
 laidMet_of_run' 8 (by kernel_rfl) (by kernel_rfl)
theorem reads (os:Os) {H:Type}(enc:TypeId × Value->H):∃ Dx,DataW.whole enc Tryz.prog ((o_ os).forCall (fun _ _=>0) ⟨#[],#[.agg #[.slice none 0 0,.slice none 0 0,.slice none 0 0,.slice none 0 0,.slice none 0 0,.int .i64 0,.int .i64 0,.bool false],.agg #[.slice none 0 0,.slice none 0 0,.slice none 0 0,.slice none 0 0,.slice none 0 0,.int .i64 0,.int .i64 0,.bool false],.int .u8 0],[]⟩).memory Tryz.f5.params.toList Rows.deriveAlikeSpec.vars false ((#[.agg #[.slice none 0 0,.slice none 0 0,.slice none 0 0,.slice none 0 0,.slice none 0 0,.int .i64 0,.int .i64 0,.bool false],.agg #[.slice none 0 0,.slice none 0 0,.slice none 0 0,.slice none 0 0,.slice none 0 0,.int .i64 0,.int .i64 0,.bool false],.int .u8 0]:Array Value)).toList 8=some ([.agg [.nil,.nil,.nil,.nil,.nil,.lit (.int .i64 0),.lit (.int .i64 0),.lit (.bool false)],.agg [.nil,.nil,.nil,.nil,.nil,.lit (.int .i64 0),.lit (.int .i64 0),.lit (.bool false)],.lit (.int .u8 0)],[],Dx) :=
 ⟨[],by kernel_rfl⟩
set_option maxRecDepth 100000 in
theorem lifted (os:Os) (started:os.Started) (H:Type) (enc:TypeId × Value->H) (F:Stop.Interp) :
  ReturnsInHanded {} Tryz.checked os 5 .any ((Rows.OpenSpec.upto Rows.deriveAlikeSpec).preRow enc Tryz.prog Tryz.f5 Rows.deriveAlikeUptoRow.domain false Rows.deriveAlikeUptoRow.laid) (((Rows.OpenSpec.upto Rows.deriveAlikeSpec).at F).post enc Tryz.prog Tryz.f5 false true false false):=by
 obtain⟨Dx,hx⟩:=reads os enc
 refine returnsInHanded_of_row (C:=Tryz.checked) (s:=Rows.OpenSpec.upto Rows.deriveAlikeSpec) own started (by kernel_rfl) Tryz.func5
  (witness_row_at (enc:=enc) (C:=Tryz.checked) false (o_ os) #[.agg #[.slice none 0 0,.slice none 0 0,.slice none 0 0,.slice none 0 0,.slice none 0 0,.int .i64 0,.int .i64 0,.bool false],.agg #[.slice none 0 0,.slice none 0 0,.slice none 0 0,.slice none 0 0,.slice none 0 0,.int .i64 0,.int .i64 0,.bool false],.int .u8 0] rfl (by kernel_rfl) (by kernel_rfl) (by kernel_rfl)
   (OpenSpec.preRow_of_cond 8 hx (by kernel_rfl) (fun k hk=>by obtain rfl:=Option.some.inj hk;kernel_rfl) (by kernel_rfl) (Fw os))) ?_
 intro W base args ds gs before jR hW _ hk _ _ _ _
 exact Fv H enc W base args ds gs before jR hW (of_decide_eq_true (hk _ rfl))
set_option maxRecDepth 100000 in
theorem closed:joinedFacts Tryz.prog 5 Tryz.f5 (Rows.OpenSpec.upto Rows.deriveAlikeSpec).bare Rows.deriveAlikeUptoRow=true:=by
 unfold joinedFacts
 exact ck (ck (ck (ck (ck (ck (ck (ck (ck (ck (ck (ck (ck (ck (ck (ck (ck (ck (ck (ck (ck (ck (ck (ck (ck (ck (ck (ck (ck (ck (ck k0 laidOut) wB) k3) k4) k5) k6) k7) k8) k9) Tc) Td) Te) Tg) Th) Ti) Tk) Tl) To) Tp) Tq) Ts) Tt) Tu) HH) HI) Tv) Tw) Tx) Ty) Tz) TA
theorem said:Rows.DeriveAlikeUptoSaid :=
 OpenClaim.holds_of_cond 5 Tryz.f5 rfl rfl rfl rfl rfl rfl rfl ⟨rfl,rfl,rfl,rfl,rfl⟩ rfl rfl rfl rfl rfl (by kernel_rfl) Tryz.func5 closed
  (of_decide_eq_true (by kernel_rfl)) (by unfold Func.isWrapper;first|(rw [if_pos (by decide +kernel)];kernel_rfl)|(rw [if_neg (by decide +kernel)];exact⟨rfl,rfl⟩))
  (fun os started H enc _ F=>by rw [OpenClaim.pre_eq_preRow];exact lifted os started H enc F)
end DeriveAlike
end
end Go.Proofs.YtbofilglphfceaaGreat
