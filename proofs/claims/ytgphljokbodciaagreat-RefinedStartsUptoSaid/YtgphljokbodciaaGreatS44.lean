import Derived.Carry
import Derived.Deep.DeepHandedRow
import Derived.Lib.LaidTab
import Derived.OpenShut
import Derived.ProofKit
import Derived.Test.YtgphljokbodciaaGreatRows
import Derived.Test.YtgphljokbodciaaGreatS43
namespace Go.Proofs.YtgphljokbodciaaGreat
set_option linter.unusedVariables false
set_option linter.unusedSimpArgs false
open Go.RowKit
section
open Go.ChangeShapes Go.WideShapes Go.ChangeAt Go.RowKit
section
variable {H:Type}{enc:TypeId × Value->H}{P:Program}
theorem uO (hl:laidOutB P=true) {W W':World}(hb:Below W.heap.size W W'):∀ {ts:List TypeId}{vs:List Value}{ds:List (DataW H)}{ps:List MemPlace},
  (∀ t ∈ ts,P.readableRec t=true/\t < P.types.size)->DataW.TrodAll enc P W 0 (fun _=>true) true ts vs ds ps->(∀ x ∈ ps,x.block < W.heap.size) ->
  DataW.TrodAll enc P W' 0 (fun b=>decide (b < W.heap.size)) true ts vs ds ps
 |[],vs,ds,ps,_,h,_=>by
  obtain⟨rfl,rfl,rfl⟩:=trodAll_nil h
  exact trodAll_mk0
 |t::ts,vs,ds,ps,ht,h,au=>by
  obtain⟨v,vs',d,ds',p,q,rfl,rfl,rfl,h1,h2⟩:=trodAll_cons h
  obtain⟨hr,hs⟩:=ht t (by simp)
  exact trodAll_cons_mk (Below.trod hl hr hs h1 hb fun x hx=>au x (by simp [hx])) (uO hl hb (fun t ht'=>ht t (by simp [ht'])) h2 fun x hx=>au x (by simp [hx]))
theorem Ok {f:Func}{s:ChangeSpec}{W W':World}{args:Array Value}{ds:List (DataW H)}{before:List MemPlace}{tb:TypeId}
  (hl:laidOutB P=true) (hts:∀ t ∈ f.params.toList,P.readableRec t=true/\t < P.types.size) (Sf:s.vars=[]) (dG:f.resultTypes=#[tb]) (htb:P.underlying tb=some .bool)
  (D4:s.fn H (ds++[])={ results:=[.lit (.bool true)],args:=ds }) (hW:DataW.Whole enc P f.params.toList s.vars false W args.toList ds [] before) (hb:Below W.heap.size W W') :
  s.post enc P f false true false false W args (.bool true) W':=by
 have hW':=hW
 obtain⟨p,q,hA,hV,rfl,pL,hnd⟩:=hW
 rw [Sf] at hV
 obtain⟨_,rfl⟩:=trodVars_none hV
 have au:∀ x ∈ p,x.block < W.heap.size:=fun x hx=>hW'.lt x (by simp [hx])
 refine⟨ds,[],p++[],[],p,[],hW',?_,?_,?_,World.keptBut_mono (fun x hx=>⟨hx,.inr (.inl (by simpa using hx))⟩) (hb.frame (· ∈ p++[])),fun h=>by cases h⟩
 ·rw [D4,dG]
  exact trodAll_mk1 (shut_bool htb true)
 ·rw [D4]
  exact uO hl hb hts hA au
 ·rw [D4,Sf]
  rfl
end
theorem own:ownKnob Tryz.prog.godebug=none:=by kernel_rfl
noncomputable def v5 (os:Os):World:=World.holding Tryz.prog os ⟨#[],#[],[]⟩
theorem ada {g:Gh}{w:World}{a b c:AV}{x y z:Value}(h:aL g w a x) (k:aL g w b y) (l:aL g w c z):jL g w [a,b,c] #[x,y,z]:=⟨rfl,fun i c z hc hz=>by
 match i with
 |0=>simp at hc hz;subst hc hz;exact h
 |1=>simp at hc hz;subst hc hz;exact k
 |2=>simp at hc hz;subst hc hz;exact l
 |i+3=>simp at hc⟩
end
section
set_option maxRecDepth 100000
attribute [local irreducible] ah aV ad ab
def Ka (p:Pg) (s:rZ) (x:Gl):Bool:=q_ p.ds x && fg (varsOf x.a) s.fresh s.binds
end
theorem LU {o:Int}(h:o < 0\/12 < o):arity o=-1:=by
 unfold arity
 rw [if_neg (by omega),if_neg (by omega),if_neg (by omega)]
theorem LV {x:Gl}(h:eS x=true):0<=x.op/\x.op<=12:=by
 by_cases hc:x.op < 0\/12 < x.op
 ·exfalso
  unfold eS at h
  rw [if_neg (by omega),LU hc,Bool.and_eq_true,Bool.and_eq_true] at h
  have:=of_decide_eq_true h.1.2
  omega
 ·omega
theorem Us (p:Pg) (s:rZ) (x:Gl):JX p s x=Ka p s x:=by
 unfold JX Ka q_
 cases hG:eS x with
 |false=>rfl
 |true =>
  have ho:=LV hG
  rw [Bool.true_and,Bool.true_and,Bool.and_comm]
  congr 1
  unfold tA
  rw [Bool.eq_iff_iff]
  by_cases h0:x.op=0
  ·simp [h0]
  ·simp [h0];omega
theorem Ut (p:Pg) (s:rZ) (x:Im):JY p s x=uz p s.next s.fresh s.binds x:=by
 unfold JY uz
 rw [Bool.and_assoc,Bool.and_assoc,Bool.and_comm (fg _ _ _)]
theorem Uu (p:Pg) (s:rZ) (x:Fi) (h:0<=x.jM):JW p s x=sB p s.store x:=by
 unfold JW sB
 rw [decide_eq_true h,Bool.true_and]
 cases p.rs[x.jM.toNat]? with
 |none=>rfl
 |some r =>
  simp only
  cases hr:r.rem with
  |nil=>simp
  |cons y l=>rfl
theorem bind_eq (s:rZ) (x:Bd) (h:nE s.binds=true) (hx:x ∈ s.binds):zH s x=uA s.fresh s.binds x:=by
 unfold zH uA fg
 have h1:=List.all_eq_true.1 (List.all_eq_true.1 h x hx)
 congr 1
 generalize varsOf [x.t]=vs at h1
 induction vs with
 |nil=>rfl
 |cons v vs ih =>
  have hv:=h1 v (by simp)
  rw [List.any_cons,List.all_cons,<-ih fun y hy=>h1 y (by simp [hy]),hv,Bool.and_true,Bool.not_or]
  congr 1
  rw [Bool.eq_iff_iff]
  simp
theorem all_congr {T:Type}{f g:T->Bool}:∀ {l:List T},(∀ x ∈ l,f x=g x)->l.all f=l.all g
 |[],_=>rfl
 |x::l,h=>by rw [List.all_cons,List.all_cons,h x (by simp),all_congr fun y hy=>h y (by simp [hy])]
section
set_option maxRecDepth 100000
attribute [local irreducible] ah aV ad ab
section
variable {w0:World}{ρ:Hd}
theorem sD {a:AV}:Wk a a:=fun _ _ _ h=>h
theorem nc (g:FuncId):Pure (.fn (.func g) [] []):=.fn (fun a ha=>by cases ha) fun a ha=>by cases ha
theorem Ff (a b:List Im) (ha:a.length<=1099511627776) (gj:b.length<=1099511627776) (pR:∀ x ∈ a,x.ok) (mw:∀ x ∈ b,x.ok):ah Tryz.prog w0 142 [fN ρ a,fN ρ b] (.v (.bool (de oM a b))):=by
 have hE:=aaC (w0:=w0) (ρ:=ρ) oM a b 267 [] [] ha gj (nc _) fun x hx y hy=>⟨_,_,rfl,⟨mV x,mV y,trivial⟩,Xi x y (pR x hx) (mw y hy)⟩
 obtain⟨R,hR⟩:∃ R,R=de oM a b:=⟨_,rfl⟩
 rw [<-hR] at hE ⊢
 clear hR pR mw
 refine ac6.aH (by simp [Tryz.ntmps142]) (.v) ?_
 refine gq Xf ?_
 repeat' (first
  |(refine ab.bif rfl (ad.nt rfl hE ⟨ct _,ct _,nc _,trivial⟩ ⟨sD,sD,Cs,trivial⟩) (fun _=>?_) (fun _=>?_)<;>refine gq Xf ?_)
  |(refine fq ?_))
 all_goals (rw [show R=_ by assumption];exact aI rfl)
theorem Fg (a b:List Bd) (ha:a.length<=1099511627776) (gj:b.length<=1099511627776) (pR:∀ x ∈ a,x.ok) (mw:∀ x ∈ b,x.ok):ah Tryz.prog w0 143 [eL ρ a,eL ρ b] (.v (.bool (de oN a b))):=by
 have hE:=aaD (w0:=w0) (ρ:=ρ) oN a b 270 [] [] ha gj (nc _) fun x hx y hy=>⟨_,_,rfl,⟨ou x,ou y,trivial⟩,Xj x y (pR x hx) (mw y hy)⟩
 obtain⟨R,hR⟩:∃ R,R=de oN a b:=⟨_,rfl⟩
 rw [<-hR] at hE ⊢
 clear hR pR mw
 refine ac7.aH (by simp [Tryz.ntmps143]) (.v) ?_
 refine gq Xg ?_
 repeat' (first
  |(refine ab.bif rfl (ad.nt rfl hE ⟨b8 _,b8 _,nc _,trivial⟩ ⟨sD,sD,Cs,trivial⟩) (fun _=>?_) (fun _=>?_)<;>refine gq Xg ?_)
  |(refine fq ?_))
 all_goals (rw [show R=_ by assumption];exact aI rfl)
theorem Kb (a b:List Fi) (ha:a.length<=1099511627776) (gj:b.length<=1099511627776) (pR:∀ x ∈ a,x.ok) (mw:∀ x ∈ b,x.ok):ah Tryz.prog w0 144 [gW ρ a,gW ρ b] (.v (.bool (de oO a b))):=by
 have hE:=aaE (w0:=w0) (ρ:=ρ) oO a b 273 [] [] ha gj (nc _) fun x hx y hy=>⟨_,_,rfl,⟨eh x,eh y,trivial⟩,Xk x y (pR x hx) (mw y hy)⟩
 obtain⟨R,hR⟩:∃ R,R=de oO a b:=⟨_,rfl⟩
 rw [<-hR] at hE ⊢
 clear hR pR mw
 refine ac8.aH (by simp [Tryz.ntmps144]) (.v) ?_
 refine gq Xh ?_
 repeat' (first
  |(refine ab.bif rfl (ad.nt rfl hE ⟨cN _,cN _,nc _,trivial⟩ ⟨sD,sD,Cs,trivial⟩) (fun _=>?_) (fun _=>?_)<;>refine gq Xh ?_)
  |(refine fq ?_))
 all_goals (rw [show R=_ by assumption];exact aI rfl)
end
end
section
set_option maxRecDepth 100000
attribute [local irreducible] ah aV ad ab
def Sg:CF Tryz.f101:=⟨_,by conv=>lhs;cbv⟩
theorem adb:aD Tryz.prog 101 Sg.1 Tryz.f101.ntmps:=aO Tryz.func101 Sg.2 Tryz.call101
def mO:List Nat:=[5,0,1,4,10,14,41]
def Sh:CF Tryz.f102:=⟨_,by conv=>lhs;cbv⟩
theorem ade:aD Tryz.prog 102 Sh.1 Tryz.f102.ntmps:=aO Tryz.func102 Sh.2 Tryz.call102
def mP:List Nat:=[5,0,1,4,10,20,47]
def Si:CF Tryz.f103:=⟨_,by conv=>lhs;cbv⟩
theorem adf:aD Tryz.prog 103 Si.1 Tryz.f103.ntmps:=aO Tryz.func103 Si.2 Tryz.call103
def mQ:List Nat:=[5,0,1,4,10,20,32]
section
variable {w0:World}{ρ:Hd}
theorem Fh (a b:List Im) (ha:a.length<=1099511627776) (gj:b.length<=1099511627776) (pR:∀ x ∈ a,Im.ok x) (mw:∀ x ∈ b,Im.ok x):ah Tryz.prog w0 101 [fN ρ a,fN ρ b] (.v (.bool (de oM a b))):=by
 obtain⟨R,hR⟩:∃ R,R=de oM a b:=⟨_,rfl⟩
 rw [<-hR]
 refine adb.aH (by simp [Tryz.ntmps101]) (.v) ?_
 refine gq mO ?_
 repeat' (first
  |(refine bq (fun hb=>?_) (fun hb=>?_)<;>(try simp only [aq] at hb)<;>(first|refine gq mO ?_))
  |(refine az fun m hm=>?_;(try rw [af] at hm);refine gq mO ?_)
  |(refine fq ?_))
 ·rw [ny (by omega)] at hR
  rw [hR];exact aI rfl
 have hle:a.length=b.length:=by omega
 refine ab.aP (σ:=Int) 0 0 [] (fun i=>[(0,fN ρ a),(1,fN ρ b),(5,.v (.int .i64 i))]) [] (fun _=>[]) (fun i=>∃ k:Nat,i=k/\k<=a.length/\R=de oM (a.drop k) (b.drop k)) (fun i=>a.length - i.toNat) 0 ⟨0,rfl,by simp,by simpa using hR⟩ rfl cq ?_
 rintro i ⟨k,hi,hk,hp⟩
 clear hR
 refine gq mO ?_
 by_cases au:k < a.length
 ·obtain⟨x,hx,aQ⟩:=aA au
  obtain⟨y,hy,cT⟩:=aA (l:=b) (k:=k) (by omega)
  have dY:=pR x (aZ hx)
  have tB:=mw y (aZ hy)
  rw [aQ,cT,de] at hp
  have jb:=cX (ρ:=ρ) ⟨x.n,x.a⟩
  have hyp:=cX (ρ:=ρ) ⟨y.n,y.a⟩
  have hS:=MF (w0:=w0) (ρ:=ρ) ⟨x.n,x.a⟩ ⟨y.n,y.a⟩ ⟨dY.1.len,dY.1.1⟩ ⟨tB.1.len,tB.1.1⟩
  rw [oM] at hp
  obtain⟨B,hB⟩:∃ b,b=(sM ⟨x.n,x.a⟩ ⟨y.n,y.a⟩ == 0):=⟨_,rfl⟩
  rw [<-hB] at hp hS
  clear hB dY tB
  obtain⟨xi,xn,xa⟩:=x
  obtain⟨yi,yn,ya⟩:=y
  dsimp only at hp
  repeat' (first
   |(refine ab.op rfl (ad.ind rfl rfl (ay (l:=a) hi hx) (aw fun _=>rfl)) ?_;refine gq mO ?_)
   |(refine ab.op rfl (ad.ind rfl rfl (ay (l:=b) hi hy) (aw fun _=>rfl)) ?_;refine gq mO ?_)
   |(refine ab.bif rfl (ad.ag rfl hS ⟨jb,hyp,trivial⟩) (fun _=>?_) (fun _=>?_)<;>refine gq mO ?_)
   |(refine bq (fun hb=>?_) (fun hb=>?_)<;>(try simp only [aq] at hb)<;>(first|refine gq mO ?_))
   |(refine az fun m hm=>?_;(try rw [af] at hm);refine gq mO ?_)
   |(refine aS fun _ _=>?_;refine gq mO ?_)
   |(refine ab.ao ?_;refine gq mO ?_)
   |(refine ab.bK ?_;refine gq mO ?_)
   |(refine fq ?_))
  all_goals first
   |(exfalso;omega)
   |(rw [hp,show (xi == yi)=false from beq_eq_false_iff_ne.2 (by omega)];exact aI rfl)
   |(rw [hp,show B=false by assumption];refine aI ?_;simp;done)
   |(rw [show B=true by assumption,show (xi == yi)=true from beq_iff_eq.2 (by omega),Bool.true_and,Bool.true_and] at hp
     refine ab.aK (σ:=Int) _ [] ?_ ?_ cq<;>first|omega|exact⟨k+1,by omega,by omega,hp⟩)
 ·rw [List.drop_eq_nil_of_le (by omega),List.drop_eq_nil_of_le (by omega),de] at hp
  repeat' (first
   |(refine bq (fun hb=>?_) (fun hb=>?_)<;>(try simp only [aq] at hb)<;>(first|refine gq mO ?_))
   |(refine az fun m hm=>?_;(try rw [af] at hm);refine gq mO ?_)
   |(refine ab.ao ?_;refine gq mO ?_)
   |(refine fq ?_))
  all_goals first
   |(exfalso;omega)
   |(rw [hp];exact aI rfl)
theorem Fj (a b:List Bd) (ha:a.length<=1099511627776) (gj:b.length<=1099511627776) (pR:∀ x ∈ a,Bd.ok x) (mw:∀ x ∈ b,Bd.ok x):ah Tryz.prog w0 102 [eL ρ a,eL ρ b] (.v (.bool (de oN a b))):=by
 obtain⟨R,hR⟩:∃ R,R=de oN a b:=⟨_,rfl⟩
 rw [<-hR]
 refine ade.aH (by simp [Tryz.ntmps102]) (.v) ?_
 refine gq mP ?_
 repeat' (first
  |(refine bq (fun hb=>?_) (fun hb=>?_)<;>(try simp only [aq] at hb)<;>(first|refine gq mP ?_))
  |(refine az fun m hm=>?_;(try rw [af] at hm);refine gq mP ?_)
  |(refine fq ?_))
 ·rw [ny (by omega)] at hR
  rw [hR];exact aI rfl
 have hle:a.length=b.length:=by omega
 refine ab.aP (σ:=Int) 0 0 [] (fun i=>[(0,eL ρ a),(1,eL ρ b),(5,.v (.int .i64 i))]) [] (fun _=>[]) (fun i=>∃ k:Nat,i=k/\k<=a.length/\R=de oN (a.drop k) (b.drop k)) (fun i=>a.length - i.toNat) 0 ⟨0,rfl,by simp,by simpa using hR⟩ rfl cq ?_
 rintro i ⟨k,hi,hk,hp⟩
 clear hR
 refine gq mP ?_
 by_cases au:k < a.length
 ·obtain⟨x,hx,aQ⟩:=aA au
  obtain⟨y,hy,cT⟩:=aA (l:=b) (k:=k) (by omega)
  have dY:=pR x (aZ hx)
  have tB:=mw y (aZ hy)
  rw [aQ,cT,de] at hp
  have hS:=Tq (w0:=w0) (ρ:=ρ) x.t y.t dY.1 tB.1
  rw [oN] at hp
  obtain⟨B,hB⟩:∃ b,b=(fR x.t y.t == 0):=⟨_,rfl⟩
  rw [<-hB] at hp hS
  clear hB dY tB
  obtain⟨xv,xk,xi,xn,xa⟩:=x
  obtain⟨yv,yk,yi,yn,ya⟩:=y
  dsimp only at hp
  repeat' (first
   |(refine ab.op rfl (ad.ind rfl rfl (ay (l:=a) hi hx) (aw fun _=>rfl)) ?_;refine gq mP ?_)
   |(refine ab.op rfl (ad.ind rfl rfl (ay (l:=b) hi hy) (aw fun _=>rfl)) ?_;refine gq mP ?_)
   |(refine ab.bif rfl (ad.ag rfl hS ⟨bf (ρ:=ρ) ⟨xk,xi,xn,xa⟩,bf (ρ:=ρ) ⟨yk,yi,yn,ya⟩,trivial⟩) (fun _=>?_) (fun _=>?_)<;>refine gq mP ?_)
   |(refine bq (fun hb=>?_) (fun hb=>?_)<;>(try simp only [aq] at hb)<;>(first|refine gq mP ?_))
   |(refine az fun m hm=>?_;(try rw [af] at hm);refine gq mP ?_)
   |(refine aS fun _ _=>?_;refine gq mP ?_)
   |(refine ab.ao ?_;refine gq mP ?_)
   |(refine ab.bK ?_;refine gq mP ?_)
   |(refine fq ?_))
  all_goals first
   |(exfalso;omega)
   |(rw [hp,show (xv == yv)=false from beq_eq_false_iff_ne.2 (by omega)];exact aI rfl)
   |(rw [hp,show B=false by assumption];refine aI ?_;simp;done)
   |(rw [show B=true by assumption,show (xv == yv)=true from beq_iff_eq.2 (by omega),Bool.true_and,Bool.true_and] at hp
     refine ab.aK (σ:=Int) _ [] ?_ ?_ cq<;>first|omega|exact⟨k+1,by omega,by omega,hp⟩)
 ·rw [List.drop_eq_nil_of_le (by omega),List.drop_eq_nil_of_le (by omega),de] at hp
  repeat' (first
   |(refine bq (fun hb=>?_) (fun hb=>?_)<;>(try simp only [aq] at hb)<;>(first|refine gq mP ?_))
   |(refine az fun m hm=>?_;(try rw [af] at hm);refine gq mP ?_)
   |(refine ab.ao ?_;refine gq mP ?_)
   |(refine fq ?_))
  all_goals first
   |(exfalso;omega)
   |(rw [hp];exact aI rfl)
theorem Kc (a b:List Fi) (ha:a.length<=1099511627776) (gj:b.length<=1099511627776) (pR:∀ x ∈ a,Fi.ok x) (mw:∀ x ∈ b,Fi.ok x):ah Tryz.prog w0 103 [gW ρ a,gW ρ b] (.v (.bool (de oO a b))):=by
 obtain⟨R,hR⟩:∃ R,R=de oO a b:=⟨_,rfl⟩
 rw [<-hR]
 refine adf.aH (by simp [Tryz.ntmps103]) (.v) ?_
 refine gq mQ ?_
 repeat' (first
  |(refine bq (fun hb=>?_) (fun hb=>?_)<;>(try simp only [aq] at hb)<;>(first|refine gq mQ ?_))
  |(refine az fun m hm=>?_;(try rw [af] at hm);refine gq mQ ?_)
  |(refine fq ?_))
 ·rw [ny (by omega)] at hR
  rw [hR];exact aI rfl
 have hle:a.length=b.length:=by omega
 refine ab.aP (σ:=Int) 0 0 [] (fun i=>[(0,gW ρ a),(1,gW ρ b),(5,.v (.int .i64 i))]) [] (fun _=>[]) (fun i=>∃ k:Nat,i=k/\k<=a.length/\R=de oO (a.drop k) (b.drop k)) (fun i=>a.length - i.toNat) 0 ⟨0,rfl,by simp,by simpa using hR⟩ rfl cq ?_
 rintro i ⟨k,hi,hk,hp⟩
 clear hR
 refine gq mQ ?_
 by_cases au:k < a.length
 ·obtain⟨x,hx,aQ⟩:=aA au
  obtain⟨y,hy,cT⟩:=aA (l:=b) (k:=k) (by omega)
  have dY:=pR x (aZ hx)
  have tB:=mw y (aZ hy)
  rw [aQ,cT,de] at hp
  have jb:=eh (ρ:=ρ) x
  have hyp:=eh (ρ:=ρ) y
  have hS:=K7 (w0:=w0) (ρ:=ρ) x y dY tB
  rw [oO] at hp
  obtain⟨C,hC⟩:∃ b,b=mJ x y:=⟨_,rfl⟩
  rw [<-hC] at hp hS
  clear hC dY tB
  obtain⟨xr,xs⟩:=x
  obtain⟨yr,ys⟩:=y
  repeat' (first
   |(refine ab.op rfl (ad.ind rfl rfl (ay (l:=a) hi hx) (aw fun _=>rfl)) ?_;refine gq mQ ?_)
   |(refine ab.op rfl (ad.ind rfl rfl (ay (l:=b) hi hy) (aw fun _=>rfl)) ?_;refine gq mQ ?_)
   |((refine ab.int rfl (ad.ag rfl hS ⟨jb,hyp,trivial⟩) fun d hd=>?_;refine gq mQ ?_))
   |(refine bq (fun hb=>?_) (fun hb=>?_)<;>(try simp only [aq] at hb)<;>(first|refine gq mQ ?_))
   |(refine az fun m hm=>?_;(try rw [af] at hm);refine gq mQ ?_)
   |(refine aS fun _ _=>?_;refine gq mQ ?_)
   |(refine ab.ao ?_;refine gq mQ ?_)
   |(refine ab.bK ?_;refine gq mQ ?_)
   |(refine fq ?_))
  all_goals first
   |(exfalso;omega)
   |(rw [hp,show (C == 0)=false from beq_eq_false_iff_ne.2 (by omega)];exact aI rfl)
   |(rw [show (C == 0)=true from beq_iff_eq.2 (by omega),Bool.true_and] at hp
     refine ab.aK (σ:=Int) _ [] ?_ ?_ cq<;>first|omega|exact⟨k+1,by omega,by omega,hp⟩)
 ·rw [List.drop_eq_nil_of_le (by omega),List.drop_eq_nil_of_le (by omega),de] at hp
  repeat' (first
   |(refine bq (fun hb=>?_) (fun hb=>?_)<;>(try simp only [aq] at hb)<;>(first|refine gq mQ ?_))
   |(refine az fun m hm=>?_;(try rw [af] at hm);refine gq mQ ?_)
   |(refine ab.ao ?_;refine gq mQ ?_)
   |(refine fq ?_))
  all_goals first
   |(exfalso;omega)
   |(rw [hp];exact aI rfl)
end
end
section
set_option maxRecDepth 100000
theorem nf (a:Int):eQ a a=0:=by unfold eQ;rw [if_neg (by omega),if_neg (by omega)]
theorem Eu:∀ l:List UInt8,Op.bytesLess l l=false
 |[]=>rfl
 |x::l=>by
  simp only [Op.bytesLess]
  have:=Eu l
  simp [this]
theorem BV (a:ByteArray):tP a a=0:=by
 unfold tP
 rw [Eu]
 simp
mutual
theorem BW:∀ t:Tm,fR t t=0
 |⟨k,i,n,a⟩=>by
  have h:=qj a
  rw [fR]
  simp only [nf,BV,h,cR,if_true]
  split<;>first|rfl|(split<;>rfl)
theorem qj:∀ l:List Tm,e_ l l=0
 |[]=>by rw [e_];exact nf 0
 |x::l=>by rw [e_,BW x,qj l];rfl
end
theorem zL:∀ l:List Int,kZ l l=0
 |[]=>rfl
 |x::l=>by rw [kZ,nf,zL l];rfl
theorem rK {T:Type}{p:T->T->Bool}(h:∀ x,p x x=true):∀ l,de p l l=true
 |[]=>rfl
 |x::l=>by rw [de,h x,rK h l];rfl
end
end Go.Proofs.YtgphljokbodciaaGreat
