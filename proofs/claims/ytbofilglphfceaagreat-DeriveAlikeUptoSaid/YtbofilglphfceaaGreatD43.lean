import Derived.Carry
import Derived.Deep.DeepHandedRow
import Derived.Lib.LaidTab
import Derived.OpenShut
import Derived.ProofKit
import Derived.Test.YtbofilglphfceaaGreatRows
import Derived.Test.YtbofilglphfceaaGreatD42
namespace Go.Proofs.YtbofilglphfceaaGreat
set_option linter.unusedVariables false
set_option linter.unusedSimpArgs false
open Go.RowKit
section
open Go.ChangeShapes Go.WideShapes Go.ChangeAt Go.RowKit
section
variable {H:Type}{enc:TypeId × Value->H}{P:Program}
theorem nY (hl:laidOutB P=true) {W W':World}(hb:Below W.heap.size W W'):∀ {ts:List TypeId}{vs:List Value}{ds:List (DataW H)}{ps:List MemPlace},
  (∀ t ∈ ts,P.readableRec t=true/\t < P.types.size)->DataW.TrodAll enc P W 0 (fun _=>true) true ts vs ds ps->(∀ x ∈ ps,x.block < W.heap.size) ->
  DataW.TrodAll enc P W' 0 (fun b=>decide (b < W.heap.size)) true ts vs ds ps
 |[],vs,ds,ps,_,h,_=>by
  obtain⟨rfl,rfl,rfl⟩:=trodAll_nil h
  exact trodAll_mk0
 |t::ts,vs,ds,ps,ht,h,au=>by
  obtain⟨v,Ux,d,Uy,p,q,rfl,rfl,rfl,h1,h2⟩:=trodAll_cons h
  obtain⟨hr,hs⟩:=ht t (by simp)
  exact trodAll_cons_mk (Below.trod hl hr hs h1 hb fun x hx=>au x (by simp [hx])) (nY hl hb (fun t S9=>ht t (by simp [S9])) h2 fun x hx=>au x (by simp [hx]))
theorem Fh {f:Func}{s:ChangeSpec}{W W':World}{args:Array Value}{ds:List (DataW H)}{before:List MemPlace}{tb:TypeId}
  (hl:laidOutB P=true) (S_:∀ t ∈ f.params.toList,P.readableRec t=true/\t < P.types.size) (G3:s.vars=[]) (iK:f.resultTypes=#[tb]) (Ta:P.underlying tb=some .bool)
  (uX:s.fn H (ds++[])={ results:=[.lit (.bool true)],args:=ds }) (hW:DataW.Whole enc P f.params.toList s.vars false W args.toList ds [] before) (hb:Below W.heap.size W W') :
  s.post enc P f false true false false W args (.bool true) W':=by
 have PE:=hW
 obtain⟨p,q,hA,hV,rfl,oM,Tb⟩:=hW
 rw [G3] at hV
 obtain⟨_,rfl⟩:=trodVars_none hV
 have au:∀ x ∈ p,x.block < W.heap.size:=fun x hx=>PE.lt x (by simp [hx])
 refine⟨ds,[],p++[],[],p,[],PE,?_,?_,?_,World.keptBut_mono (fun x hx=>⟨hx,.inr (.inl (by simpa using hx))⟩) (hb.frame (· ∈ p++[])),fun h=>by cases h⟩
 ·rw [uX,iK]
  exact trodAll_mk1 (shut_bool Ta true)
 ·rw [uX]
  exact nY hl hb S_ hA au
 ·rw [uX,G3]
  rfl
end
theorem own:ownKnob Tryz.prog.godebug=none:=by kernel_rfl
noncomputable def o_ (os:Os):World:=World.holding Tryz.prog os ⟨#[],#[],[]⟩
theorem Oj {g:Gh}{w:World}{a b c:AV}{x y z:Value}(h:ao g w a x) (k:ao g w b y) (l:ao g w c z):ia g w [a,b,c] #[x,y,z]:=⟨rfl,fun i c z hc hz=>by
 match i with
 |0=>simp at hc hz;subst hc hz;exact h
 |1=>simp at hc hz;subst hc hz;exact k
 |2=>simp at hc hz;subst hc hz;exact l
 |i+3=>simp at hc⟩
end
section
set_option maxRecDepth 100000
attribute [local irreducible] ag aR aa ab
structure Kd (p:Pg):Prop where
 ds:p.ds.length<=1099511627776
 rs:p.rs.length<=1099511627776
 dn:∀ d ∈ p.ds,d.n.size<=1099511627776
 rr:∀ r ∈ p.rs,TH r
end
section
set_option maxRecDepth 100000
attribute [local irreducible] ag aR aa ab
end

section
set_option maxRecDepth 100000
attribute [local irreducible] ag aR aa ab
def PF (P:Program) (w0:World) (so:List (Nat × Ob)) (N:Nat) (F:AV) (xs:List AV) (b:Bool):Prop:=∃ gid args,fh F xs=some (gid,args)/\(∀ a ∈ args,da N a)/\aR P w0 gid args (bu so N) (.v (.bool b)) (bu so N)
def xY (N:Nat) (o:Ob):Prop:=rA N o/\∀ J,o ≠ .fo J
section
variable {P:Program}{w0:World}{dr:Bool}{N:Nat}{so:List (Nat × Ob)}{T:U}{α:AA}
theorem aa.TI {f:QO}{qs:List QO}{F:AV}{l:List AV}{b:Bool}(h:PF P w0 so N F l b) (hf:f.ev α.tm=F) (ha:qs.map (·.ev α.tm)=l) (hT:vl so N T):aa P w0 dr (.call f qs) α T (.v (.bool b)) T:=by
 obtain⟨gid,args,h1,h2,h3⟩:=h
 exact aa.LD h3 (by rw [hf,ha];exact h1) hT h2 .v
theorem H9 {o0 o1 o2:Ob}(h0:T.get 0=some o0) (h1:T.get 1=some o1) (h2:T.get 2=some o2) (hn:Nat.ble 3 T.nx=true) (k0:xY 3 o0) (k1:xY 3 o1) (k2:xY 3 o2):vl [(0,o0),(1,o1),(2,o2)] 3 T:=by
 refine⟨Nat.le_of_ble_eq_true hn,fun j o h=>?_,fun j hj=>?_⟩
 ·match j,h with
  |0,h=>obtain rfl:=Option.some.inj h;exact⟨by decide,h0,k0.1,k0.2⟩
  |1,h=>obtain rfl:=Option.some.inj h;exact⟨by decide,h1,k1.1,k1.2⟩
  |2,h=>obtain rfl:=Option.some.inj h;exact⟨by decide,h2,k2.1,k2.2⟩
  |j+3,h=>cases h
 ·match j,hj with
  |0,_=>exact⟨_,rfl⟩
  |1,_=>exact⟨_,rfl⟩
  |2,_=>exact⟨_,rfl⟩
end
section
variable {w0:World}{ρ:Hd}
theorem oq {o0 o1 o2:Ob}(k0:xY 3 o0) (k1:xY 3 o1) (k2:xY 3 o2) (p:Int->Bool) (l:List Int) (gid:FuncId) (fs cs:List AV) (hl:l.length<=1099511627776) (hF:da 3 (.fn (.func gid) fs cs)) (h:∀ x ∈ l,PF Tryz.prog w0 [(0,o0),(1,o1),(2,o2)] 3 (.fn (.func gid) fs cs) [iv x] (p x)) :
  aR Tryz.prog w0 203 [dZ ρ gH false l,.fn (.func gid) fs cs] (bu [(0,o0),(1,o1),(2,o2)] 3) (iv (v3 p l 0)) (bu [(0,o0),(1,o1),(2,o2)] 3):=by
 obtain⟨R,hR⟩:∃ R,R=v3 p l 0:=⟨_,rfl⟩
 rw [<-hR]
 refine bN.Qd 3 3 _ N9 (by simp [Tryz.ntmps203]) rfl rfl ?_
 refine gq lP ?_
 repeat' (first
  |(refine aS fun m hm=>?_;(try rw [aq] at hm);refine gq lP ?_)
  )
 refine ab.cO (σ:=Int) 3 3 [] (fun i=>[(0,dZ ρ gH false l),(1,.fn (.func gid) fs cs),(7,.v (.int .i64 m)),(8,.v (.int .i64 i))]) [] (fun _=>[(0,o0),(1,o1),(2,o2)])
  (fun i=>∃ k:Nat,i=k/\k<=l.length/\R=v3 p (l.drop k) k) (fun i=>l.length - i.toNat) 0 ⟨0,rfl,by simp,by simpa using hR⟩ rfl ⟨⟨.aV rfl (Pure.d_ (fB _)),.aV rfl hF,.aV rfl .v,.aV rfl .v,trivial⟩,rfl,⟨.inl ⟨_,rfl,.same k0.1⟩,.inl ⟨_,rfl,.same k1.1⟩,.inl ⟨_,rfl,.same k2.1⟩,trivial⟩,rfl,rfl,rfl⟩ ?_
 rintro i ⟨k,hi,hk,hp⟩
 clear hR
 refine gq lP ?_
 by_cases au:k < l.length
 ·obtain⟨x,hx,bI⟩:=aU au
  rw [bI,v3] at hp
  have hf:=h x (bO hx)
  obtain⟨B,hB⟩:∃ B,B=p x:=⟨_,rfl⟩
  rw [<-hB] at hp hf
  repeat' (first
   |(refine ab.op rfl (aa.ind rfl rfl (bg (l:=l) hi hx) (ba fun _=>rfl)) ?_;refine gq lP ?_)
   |(refine ab.bif rfl (aa.TI hf rfl rfl (H9 rfl rfl rfl rfl k0 k1 k2)) (fun _=>?_) (fun _=>?_)<;>refine gq lP ?_)
   |(refine bq (fun hb=>?_) (fun hb=>?_)<;>(try simp only [aJ] at hb)<;>(first|refine gq lP ?_))
   |(refine cQ fun _ _=>?_;refine gq lP ?_)
   |(refine ab.aK ?_;refine gq lP ?_)
   |(refine ab.de ?_;refine gq lP ?_)
   |(refine fq ?_))
  all_goals first
   |(exfalso;omega)
   |(rw [if_pos (by assumption)] at hp;rw [show R=i by omega];exact⟨[],.aV .v,⟨.inl ⟨_,rfl,.same k0.1⟩,.inl ⟨_,rfl,.same k1.1⟩,.inl ⟨_,rfl,.same k2.1⟩,trivial⟩,rfl⟩)
   |(rw [if_neg (by rw [show B=false by assumption];simp)] at hp
     refine ab.cK (σ:=Int) _ [] ?_ ?_ ⟨⟨.aV rfl (Pure.d_ (fB _)),.aV rfl hF,.aV rfl .v,.aV rfl .v,trivial⟩,rfl,⟨.inl ⟨_,rfl,.same k0.1⟩,.inl ⟨_,rfl,.same k1.1⟩,.inl ⟨_,rfl,.same k2.1⟩,trivial⟩,rfl,rfl,rfl⟩
     ·exact⟨k+1,by omega,by omega,hp⟩
     ·omega)
 ·skip
  repeat' (first
   |(refine bq (fun hb=>?_) (fun hb=>?_)<;>(try simp only [aJ] at hb)<;>(first|refine gq lP ?_))
   |(refine ab.aK ?_;refine gq lP ?_)
   |(refine fq ?_))
  all_goals first
   |(exfalso;omega)
   |(rw [show R=-1 by rw [hp,List.drop_eq_nil_of_le (by omega)];rfl];exact⟨[],.aV .v,⟨.inl ⟨_,rfl,.same k0.1⟩,.inl ⟨_,rfl,.same k1.1⟩,.inl ⟨_,rfl,.same k2.1⟩,trivial⟩,rfl⟩)
end
end
section
set_option maxRecDepth 100000
attribute [local irreducible] ag aR aa ab
end
section
set_option maxRecDepth 100000
attribute [local irreducible] ag aR aa ab
end
section
set_option maxRecDepth 100000
end
section
set_option maxRecDepth 100000
attribute [local irreducible] ag aR aa ab
structure jE (s:eN):Prop where
 gl:s.goals.length<=1099511627776
 st:s.store.length<=1099511627776
 bl:s.binds.length<=1099511627776
 fl:s.cn.length<=1099511627776
 kl:s.known.length<=1099511627776
 gx:∀ x ∈ s.goals,sd x
 sx:∀ x ∈ s.store,x.ok
 bx:∀ x ∈ s.binds,x.ok
 fx:∀ x ∈ s.cn,x.ok
 kx:∀ x ∈ s.known,sd x
end
section
set_option maxRecDepth 100000
attribute [local irreducible] ag aR aa ab
end
section
set_option maxRecDepth 100000
attribute [local irreducible] ag aR aa ab
end
section
set_option maxRecDepth 100000
attribute [local irreducible] ag aR aa ab
end

theorem jW {α:Type}{μ:α->Nat}:∀ {l:List α}{x:α},x ∈ l->μ x<=eS μ l
 |y::l,x,h=>by
  rw [eS]
  rcases List.mem_cons.1 h with rfl|h
  ·omega
  ·have:=jW (μ:=μ) h
   omega
theorem iM {α:Type}{μ:α->Nat}(h:∀ x,1<=μ x):∀ l:List α,l.length<=eS μ l
 |[]=>Nat.le_refl _
 |x::l=>by
  have h1:=h x
  have h2:=iM h l
  rw [eS,List.length_cons]
  omega
theorem Ke (x:Tm):5<=mT x:=by obtain⟨k,i,n,a⟩:=x;rw [mT];omega
theorem H_ (l:List Tm):l.length<=kr l:=by rw [<-pF];exact iM (fun x=>by have:=Ke x;omega) l
mutual
theorem G4:∀ (N:Nat) (x:Tm),N<=1099511627776->mT x<=N->x.ok
 |N,⟨k,i,n,a⟩,hN,h=>by
  rw [mT] at h
  have:=H_ a
  rw [Tm.ok,vf]
  exact⟨by omega,by omega,v9 N a hN (by omega)⟩
theorem v9:∀ (N:Nat) (l:List Tm),N<=1099511627776->kr l<=N->eO l
 |N,[],_,_=>by rw [eO];trivial
 |N,x::l,hN,h=>by
  rw [kr] at h
  rw [eO]
  exact⟨G4 N x hN (by omega),v9 N l hN (by omega)⟩
end
mutual
theorem xZ:∀ x:Tm,fS x<=mT x
 |⟨k,i,n,a⟩=>by
  have:=qT a
  rw [fS,mT]
  split<;>omega
theorem qT:∀ l:List Tm,b_ l<=kr l
 |[]=>by rw [b_,kr];exact Nat.le_refl _
 |x::l=>by
  have:=xZ x
  have:=qT l
  rw [b_,kr]
  omega
end
theorem Df {l:List Tm}(h:kr l<=1099511627776):rR l:=⟨v9 _ l (Nat.le_refl _) h,Nat.le_trans (qT l) h⟩
theorem Dg {x:Gl}(h:oZ x<=1099511627776):sd x:=by
 unfold oZ at h
 exact⟨Df (by omega),by omega⟩
theorem x8 (x:Gl):1<=oZ x:=by unfold oZ;omega
theorem Dh {s:eN}(h:vw s<=1048576):jE s:=by
 have a1:=iM x8 s.goals
 have a2:=iM (μ:=tR) (fun x=>by unfold tR;omega) s.store
 have a3:=iM (μ:=tS) (fun x=>by unfold tS;omega) s.binds
 have a4:=iM (μ:=tT) (fun x=>by unfold tT;omega) s.cn
 have a5:=iM x8 s.known
 unfold vw at h
 refine⟨by omega,by omega,by omega,by omega,by omega,fun x hx=>Dg ?_,fun x hx=>?_,fun x hx=>?_,fun x hx=>?_,fun x hx=>Dg ?_⟩
 ·have:=jW (μ:=oZ) hx;omega
 ·have h1:=jW (μ:=tR) hx
  have h2:tR x=x.n.size+kr x.a+5:=rfl
  exact⟨Df (by omega),by omega⟩
 ·have h1:=jW (μ:=tS) hx
  have h2:tS x=mT x.t+2:=rfl
  have h3:=xZ x.t
  exact⟨G4 _ _ (Nat.le_refl _) (by omega),by omega⟩
 ·have h1:=jW (μ:=tT) hx
  have h2:tT x=x.ids.length+3:=rfl
  show x.ids.length<=1099511627776
  omega
 ·have:=jW (μ:=oZ) hx;omega
section
set_option maxRecDepth 100000
section
variable {w:World}{r:Reach}{b0:Nat}{v:Value}{H:Type}{enc:TypeId × Value->H}{sp:Nat->Bool}{held:Bool}{d:DataW H}{ps:List MemPlace}
theorem Kf (h:DataW.Trod enc Tryz.prog w 0 sp held 5 v d ps) (jR:Value.okWide Tryz.prog w r b0 5 v):∃ x:Int,ao (g0 w) w (.v (.int .u8 x)) v/\0<=x/\x<=255:=by
 unfold Value.okWide at jR
 rw [Tryz.underlying5] at jR
 cases v with
 |int k z =>
  obtain⟨rfl,hz⟩:=jR
  exact⟨z,.v,hz.1,hz.2⟩
 |_=>cases jR
end
end
end Go.Proofs.YtbofilglphfceaaGreat
