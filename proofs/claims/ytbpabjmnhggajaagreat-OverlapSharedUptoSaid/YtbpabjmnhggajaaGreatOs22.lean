import Derived.Lib.Bytealg
import Derived.Test.YtbpabjmnhggajaaGreatOs21
namespace Go.Proofs.YtbpabjmnhggajaaGreat
set_option linter.unusedVariables false
set_option linter.unusedSimpArgs false
open Go.RowKit
theorem Sn (x:Tm):1<=pB x:=by rw[Ln];omega
theorem w9 (d:Int):∀ (l:List Tm) (h:∀ x ∈ l,∀ c,0<=c->((bh x d c).1=(oB x && decide ((dX x:Int)<=c) && decide ((pB x:Int)<=d)))/\((bh x d c).1=true->(bh x d c).2=c - dX x)) (c:Int),0<=c->0<=d ->
  ((cD l d c).1=(kX l && decide ((bL l:Int)<=c) && decide ((lY l:Int)<=d)))/\((cD l d c).1=true->(cD l d c).2=c - bL l)
 |[],h,c,hc,hd=>by grind[cD,kX,bL,lY]
 |x::l,h,c,hc,hd=>by
  obtain⟨h1,h2⟩:=h x (by simp) c hc;rw[cD,kX,bL,lY];cases hv:(bh x d c).1 with
  |false =>
   rw[hv] at h1;rw[if_neg (by simp)];refine⟨?_,fun h=>by grind⟩;show false=_;cases hf:oB x<;>cases hg:kX l<;>simp only[hf,Bool.true_and,Bool.false_and,Bool.and_false,Bool.and_true] at h1 ⊢
   all_goals try rfl
   symm
   replace h1:=h1.symm
   rw[Bool.and_eq_false_iff,decide_eq_false_iff_not,decide_eq_false_iff_not] at h1 ⊢;omega
  |true =>
   rw[if_pos rfl];have h3:=h2 hv;rw[hv] at h1;have h4:oB x=true/\(dX x:Int)<=c/\(pB x:Int)<=d:=by grind
   obtain⟨h5,h6⟩:=w9 d l (fun y hy=>h y (by grind)) (c - dX x) (by omega) hd;rw[h3];refine⟨?_,fun h=>by grind⟩;rw[h5,h4.1,Bool.true_and];have e1:decide ((bL l:Int)<=c - dX x)=decide (((dX x+bL l:Nat):Int)<=c):=decide_eq_decide.2 (by omega);have e2:decide ((lY l:Int)<=d)=decide (((max (pB x) (lY l):Nat):Int)<=d):=decide_eq_decide.2 (by omega);rw[e1,e2]
theorem H8 (x:Tm):∀ (d c:Int),0<=c->((bh x d c).1=(oB x && decide ((dX x:Int)<=c) && decide ((pB x:Int)<=d)))/\((bh x d c).1=true->(bh x d c).2=c - dX x):=by
 refine Tm.ind (p:=fun x=>∀ (d c:Int),0<=c->((bh x d c).1=(oB x && decide ((dX x:Int)<=c) && decide ((pB x:Int)<=d)))/\((bh x d c).1=true->(bh x d c).2=c - dX x)) ?_ x;intro k i n a ih d c hc;have hs:=uM ⟨k,i,n,a⟩;have hd:=Sn ⟨k,i,n,a⟩;have qY:=Cc ⟨k,i,n,a⟩;have jq:=Ln ⟨k,i,n,a⟩;by_cases h0:c - 1 < 0\/d < 1
 ·grind[bh]
 have hA:=w9 (d - 1) a (fun y hy c hc=>ih y hy (d - 1) c hc) (c - 1);by_cases h2:k=2
 ·grind[oM,bh,oB,bL,lY,eL,qO]
 ·grind[oM,bL,lY,bh,oB]
theorem Sp (x:Tm):(bh x 20 200).1=dO x:=by grind[H8,dO,dX,pB]
section
set_option maxRecDepth 100000
attribute [local irreducible] ah aC af ad
def acD:FQ 173 Tryz.f173:=a_ Tryz.func173 Tryz.call173
def Za:List Nat:=[2,0,3,1]
def ag8:FQ 68 Tryz.f68:=a_ Tryz.func68 Tryz.call68
def Pq:List Nat:=[1,2,0,3]
theorem FN:∀ l:List Tm,bL l<=200->l.all dO=(kX l && decide ((lY l:Int)<=20))
 |[],_=>by rw[kX,lY];rfl
 |x::l,h=>by
  rw[bL] at h;rw[List.all_cons,FN l (by omega),kX,lY,dO];have e1:decide (dX x<=200)=true:=decide_eq_true (by omega);have e2:decide (((max (pB x) (lY l):Nat):Int)<=20)=(decide (pB x<=20) && decide ((lY l:Int)<=20)):=by grind
  rw[e1,e2];cases oB x<;>cases kX l<;>cases decide (pB x<=20)<;>simp
theorem FO (l:List Tm):(cD l 20 200).1=qv l:=by grind[w9,H8,qv,bL,FN,kX]
section
variable {w0:World}{ρ:Hd}
theorem Sq (oY:∀ s:ByteArray,ah Tryz.prog w0 230 [.v (.string s)] (.v (.bool (eL s)))) (x:Tm) (hx:x.ok):ah Tryz.prog w0 173 [tm ρ x] (.v (.bool (dO x))):=by
 have bH:=EL (ρ:=ρ) oY x 20 200 hx (by omega) (by omega) (by omega) (by omega);have hr:=Sp x;obtain⟨⟨b,c1⟩,nK⟩:∃ p,p=bh x 20 200:=⟨_,rfl⟩;rw[<-nK] at bH hr;simp only at bH hr;rw[<-hr];clear hr nK oY;refine st acD Za .v ?_
 repeat' (first
  |(refine bg Za (af.po (m:=[(0,1)]) (to:=[(1,some (fT c1))]) bH rfl ⟨Rn.pt rfl rfl,Rn.pure (aT _),Rn.pure .v,trivial⟩ (Rb.pure .v) rfl rfl ⟨⟨_,rfl,kP.pure (iS _)⟩,trivial⟩ ⟨⟨0,_,rfl,rfl,lK.pure (iS _)⟩,trivial⟩ rfl (by repeat (first|exact (fun _ _ h=>by grind)|refine qw ?_ rfl)) (.inr rfl)) (fun hb=>?_) fun hb=>?_)
  |(refine fq ?_))
 all_goals (refine eA ?_;rw[hb])
theorem Sr (oY:∀ s:ByteArray,ah Tryz.prog w0 230 [.v (.string s)] (.v (.bool (eL s)))) (x:At) (hx:x.ok) (hn:x.n.size<=1099511627776):ah Tryz.prog w0 68 [at_ ρ x] (.v (.bool (jI x))):=by
 obtain⟨n,a⟩:=x;obtain⟨hl,hk⟩:=hx;dsimp only at hl hk hn;have bH:=vW (w0:=w0) (ρ:=ρ) (a:=a) 20 (fun y hy c' h0 h1=>⟨(gI y _ _ h0).1,(gI y _ _ h0).2,EL (ρ:=ρ) oY y 20 c' (hk.mem y hy) h0 h1 (by omega) (by omega)⟩) hl 200 (by omega) (by omega);have hr:=FO a;obtain⟨⟨b,c1⟩,nK⟩:∃ p,p=cD a 20 200:=⟨_,rfl⟩;rw[<-nK] at bH hr;simp only at bH hr;have hL:decide (a.length<=6)=decide ((a.length:Int)<=6):=decide_eq_decide.2 (by omega);rw[jI,hL,<-hr];clear hr nK oY;refine st ag8 Pq .v ?_
 repeat' (first
  |refine bg Pq (af.aw rfl (vS _ hn) ⟨.v,trivial⟩) (fun _=>?_) fun _=>?_
  |(refine bg Pq (af.po (m:=[(0,1)]) (to:=[(1,some (fT c1))]) bH rfl ⟨Rn.pt rfl rfl,Rn.pure (aS _),Rn.pure .v,trivial⟩ (Rb.pure .v) rfl rfl ⟨⟨_,rfl,kP.pure (iS _)⟩,trivial⟩ ⟨⟨0,_,rfl,rfl,lK.pure (iS _)⟩,trivial⟩ rfl (by repeat (first|exact (fun _ _ h=>by grind)|refine qw ?_ rfl)) (.inr rfl)) (fun hb=>?_) fun hb=>?_)
  |refine cg Pq (fun hb=>?_) fun hb=>?_
  |refine lg Pq fun m hm=>?_
  |(refine fq ?_))
 all_goals (clear bH;refine eA ?_;subst_vars;simp_all<;>(intros;omega))
end
end
section
set_option maxRecDepth 100000
attribute [local irreducible] ah aC af ad
def acE:FQ 303 Tryz.f303:=a_ Tryz.func303 Tryz.call303
def Zb:List Nat:=[4,0,1]
def acF:FQ 289 Tryz.f289:=a_ Tryz.func289 Tryz.call289
def H9:List Nat:=[8,0,1,5,9,10,6,11,12,13,4,16,24,31,36,59,64,73,7,93,107,114,132,139]
def acG:FQ 274 Tryz.f274:=a_ Tryz.func274 Tryz.call274
def Zc:List Nat:=[4,0,1]
def acH:FQ 258 Tryz.f258:=a_ Tryz.func258 Tryz.call258
def Ss:List Nat:=[4,0,1]
def Va:FQ 230 Tryz.f230:=a_ Tryz.func230 Tryz.call230
def Cd:List Nat:=[0,2]
def rL:ByteArray:=⟨#[43,45,42,47,37]⟩
section
variable {w0:World}{ρ:Hd}
theorem ibs (s:ByteArray) (c:Int) (w:World):(callFunc 311 #[.string s,.int .u8 c]).run Tryz.prog w=.ok (.value (.int .i64 (Lib.indexByte s.data.toList c.toNat.toUInt8))) w:=by
 rw[run_callFunc_extern Tryz.func311 (by kernel_rfl) (by kernel_rfl) (by kernel_rfl) (e:=Extern.BytealgIndexByte.indexByte) (by kernel_rfl),Lib.run_indexByteString]
 rfl
theorem KC (s:ByteArray) (c:Int):ah Tryz.prog w0 303 [.v (.string s),.v (.int .u8 c)] (iv (Lib.indexByte s.data.toList c.toNat.toUInt8)):=by
 refine st acE Zb .v ?_
 repeat' (first
  |refine ig Zb (af.ext (xs:=[.string s,.int .u8 c]) rfl rfl (ibs s c)) fun _ _=>?_
  |(refine fq ?_))
 all_goals (subst_vars;exact jD rfl)
theorem Su (n:ByteArray) (c:UInt8) (h:n.data.toList=[c]):ah Tryz.prog w0 289 [.v (.string rL),.v (.string n)] (iv (Lib.indexByte rL.data.toList c)):=by
 have bS:=oK n;rw[h] at bS;have r7:=toL_eq n;rw[h] at r7;have hi:idx n.data.toList 0=some c:=H2 h;refine st acF H9 .v ?_
 repeat' (first
  |refine ig H9 (af.RQ rfl rfl hi) fun _ _=>?_
  |refine ig H9 (af.aw rfl (KC _ _) ⟨.v,.v,trivial⟩) fun _ _=>?_
  |refine cg H9 (fun hb=>?_) fun hb=>?_
  |refine lg H9 fun m hm=>?_
  |(refine fq ?_))
 all_goals first
  |exfalso;simp only[List.length_cons,List.length_nil] at bS;omega
  |exfalso;rename_i hb;rw[r7,toL_eq] at hb;simp at hb;done
  |subst_vars;exact jD (by simp[rL])
theorem WQ (n:ByteArray) (c:UInt8) (h:n.data.toList=[c]):ah Tryz.prog w0 274 [.v (.string rL),.v (.string n)] (iv (Lib.indexByte rL.data.toList c)):=by
 have hi:=Su (w0:=w0) n c h;obtain⟨r,hr⟩:∃ r,r=Lib.indexByte rL.data.toList c:=⟨_,rfl⟩;rw[<-hr] at hi ⊢;refine st acG Zc .v ?_
 repeat' (first
  |refine og Zc (af.aw rfl hi ⟨.v,.v,trivial⟩) ?_
  |(refine fq ?_))
 all_goals exact jD rfl
theorem MX (n:ByteArray) (c:UInt8) (h:n.data.toList=[c]):ah Tryz.prog w0 258 [.v (.string rL),.v (.string n)] (.v (.bool (decide (Lib.indexByte rL.data.toList c>=0)))):=by
 have hi:=WQ (w0:=w0) n c h;obtain⟨r,hr⟩:∃ r,r=Lib.indexByte rL.data.toList c:=⟨_,rfl⟩;rw[<-hr] at hi ⊢;refine st acH Ss .v ?_
 repeat' (first
  |refine og Ss (af.aw rfl hi ⟨.v,.v,trivial⟩) ?_
  |refine cg Ss (fun hb=>?_) fun hb=>?_
  |(refine fq ?_))
 all_goals (refine eA ?_;simp_all)
theorem Zd (n:ByteArray) (c:UInt8) (h:n.data.toList=[c]):eL n=decide (Lib.indexByte rL.data.toList c>=0):=by
 have e:rL.data.toList=[43,45,42,47,37]:=rfl;rw[eL,toL_eq n,h,e];simp only[toL_eq];have b:∀ d:UInt8,([c] == [d])=(d == c):=fun d=>by grind
 rw[b,b,b,b,b];unfold Lib.indexByte Lib.indexByte Lib.indexByte Lib.indexByte Lib.indexByte Lib.indexByte;cases (43:UInt8) == c<;>cases (45:UInt8) == c<;>cases (42:UInt8) == c<;>cases (47:UInt8) == c<;>cases (37:UInt8) == c<;>rfl
theorem Sv (n:ByteArray) (h:n.size ≠ 1):eL n=false:=by
 rw[oK] at h;rw[eL];simp only[toL_eq];have b:∀ d:UInt8,(n.data.toList == [d])=false:=fun d=>by grind
 rw[b,b,b,b,b];rfl
theorem Db (n:ByteArray):ah Tryz.prog w0 230 [.v (.string n)] (.v (.bool (eL n))):=by
 have bS:=oK n;by_cases h1:n.size=1
 ·obtain⟨c,h⟩:∃ c,n.data.toList=[c]:=by
   rw[h1] at bS
   match hl:n.data.toList,bS with
   |[c],_=>exact⟨c,rfl⟩
   |[],h=>simp at h
   |_::_::_,h=>simp at h
  rw[Zd n c h];have hi:=MX (w0:=w0) n c h;obtain⟨r,hr⟩:∃ r,r=decide (Lib.indexByte rL.data.toList c>=0):=⟨_,rfl⟩;rw[<-hr] at hi ⊢;refine st Va Cd .v ?_
  repeat' (first
   |refine bg Cd (af.aw rfl hi ⟨.v,.v,trivial⟩) (fun _=>?_) fun _=>?_
   |refine cg Cd (fun hb=>?_) fun hb=>?_
   |refine lg Cd fun m hm=>?_
   |(refine fq ?_))
  all_goals first
   |exfalso;omega
   |refine eA ?_;rename_i hx;rw[hx]
 ·rw[Sv n h1];refine st Va Cd .v ?_
  repeat' (first
   |refine cg Cd (fun hb=>?_) fun hb=>?_
   |refine lg Cd fun m hm=>?_
   |(refine fq ?_))
  all_goals first
   |exact eA rfl
   |exfalso;omega
end
end
end Go.Proofs.YtbpabjmnhggajaaGreat
