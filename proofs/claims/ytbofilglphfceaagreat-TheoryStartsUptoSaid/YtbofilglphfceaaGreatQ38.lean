import Derived.Test.YtbofilglphfceaaGreatQ35
import Derived.Test.YtbofilglphfceaaGreatQ37
namespace Go.Proofs.YtbofilglphfceaaGreat
set_option linter.unusedVariables false
set_option linter.unusedSimpArgs false
open Go.RowKit
section
set_option maxRecDepth 100000
attribute [local irreducible] ah bc ad ab
def UY:CF Tryz.f45:=⟨_,by conv=>lhs;cbv⟩
theorem abY:aH Tryz.prog 45 UY.1 Tryz.f45.ntmps:=aQ Tryz.func45 UY.2 Tryz.call45
def eB:List Nat:=[5,0,17,58,66,4,3,2,16,18,15,50,57,59,56,7,65,67,64,9,11,76]
def fU (_:Unit):AV:=.agg []
theorem me {B:Nat}{ρ:Hd}{kv:List (Int × Unit)}:oy B (.mp (ρ.h (ku fU) kv)):=by
 rw [ρ.eq]
 intro e he
 obtain⟨p,_,rfl⟩:=List.mem_map.1 he
 exact .agg fun a ha=>by cases ha
def tr (kv:List (Int × Unit)) (v:Int):Bool:=(jK kv v).isSome
theorem C_ (kv:List (Int × Unit)) (i v:Int):tr (l9 kv i ()) v=(tr kv v || i == v):=by
 unfold tr
 rw [I7]
 by_cases h:i=v
 ·rw [if_pos h];simp [h]
 ·rw [if_neg h];simp [h]
section
variable {w0:World}{ρ:Hd}
theorem J8 (b:List Bd) (hl:b.length<=1099511627776) (mu:∀ x ∈ b,x.ok):ah Tryz.prog w0 45 [eJ ρ b] (.v (.bool (iO b))):=by
 obtain⟨R,hR⟩:∃ R,R=iO b:=⟨_,rfl⟩
 rw [<-hR]
 unfold iO at hR
 obtain⟨AP,JK⟩:∃ AP,AP=m4 b:=⟨_,rfl⟩
 rw [<-JK] at hR
 refine abY.aG (by simp [Tryz.ntmps45]) (.v) ?_
 refine gq eB ?_
 refine ab.int rfl (ad.len rfl) fun m hm=>?_;rw [af] at hm
 refine gq eB ?_
 refine ab.xP ρ fU rfl rfl fun UZ Da=>?_
 refine gq eB ?_
 refine ab.int rfl (ad.len rfl) fun m1 J9=>?_;rw [af] at J9
 refine gq eB ?_
 refine ab.aP (σ:=Int × List (Int × Unit)) 1 1 [] (fun p=>[(0,eJ ρ b),(3,.mp 0),(15,eJ ρ b),(16,.v (.int .i64 m1)),(17,.v (.int .i64 p.1))]) [] (fun p=>[(0,.mp (ρ.h (ku fU) p.2))])
  (fun p=>∃ (k:Nat) (pr:Option Bd),p.1=k/\k<=b.length/\R=(ij CH CI pr (b.drop k) && AP)/\su b k pr/\∀ v,tr p.2 v=e7 (b.take k) v) (fun p=>b.length - p.1.toNat) (0,UZ) ⟨0,none,rfl,by simp,by simpa using hR,.inl ⟨rfl,rfl⟩,fun v=>by rw [Da];rfl⟩ rfl (by exact⟨sq,rfl,⟨.inl ⟨_,rfl,.same me⟩,trivial⟩,rfl,rfl,rfl⟩) ?_
 rintro⟨i,kv⟩ ⟨k,pr,hi,dS,hp,mY,jj⟩
 simp only at hi jj
 clear hR
 refine gq eB ?_
 by_cases au:k < b.length
 ·obtain⟨x,hx,aO⟩:=az au
  obtain⟨jG,oz⟩:=mu x (aY hx)
  have yG:∀ v,(e7 (b.take k) v || x.v == v)=e7 (b.take (k+1)) v:=fun v=>by
   unfold e7
   rw [List.take_add_one,hx]
   simp
  rw [aO,ja] at hp
  have hV:=QY (w0:=w0) (ρ:=ρ) x.t jG
  obtain⟨xv,xk,xi,xn,xa⟩:=x
  dsimp only at hV yG
  rw [CH] at hp
  dsimp only at hp
  obtain⟨V,CJ⟩:∃ V,V=gE ⟨xk,xi,xn,xa⟩:=⟨_,rfl⟩
  rw [<-CJ] at hV hp
  rcases mY with ⟨rfl,rfl⟩|⟨⟨yv,yk,yi,yn,ya⟩,Ud,hy,rfl⟩
  ·simp only [rh,Bool.and_true] at hp
   repeat' (first
    |(refine ab.op rfl (ad.ind rfl rfl (ay (l:=b) hi hx) (aw fun _=>rfl)) ?_;refine gq eB ?_)
    |(refine ab.a_ rfl (ad.ag rfl hV ⟨ba (ρ:=ρ) ⟨xk,xi,xn,xa⟩,trivial⟩) (fun _=>?_) (fun _=>?_)<;>refine gq eB ?_)
    |((refine ab.jL (v:=()) rfl rfl rfl rfl rfl (fun sd uF=>?_);refine gq eB ?_))
    |(refine bq (fun hb=>?_) (fun hb=>?_)<;>(try simp only [aq] at hb)<;>(first|refine gq eB ?_))
    |(refine aB fun m hm=>?_;(try rw [af] at hm);refine gq eB ?_)
    |(refine aS fun _ _=>?_;refine gq eB ?_)
    |(refine ab.ao ?_;refine gq eB ?_)
    |(refine ab.bJ ?_;refine gq eB ?_)
    |(refine fq ?_))
   all_goals first
    |(exfalso;omega)
    |(refine aC ?_;rw [hp,decide_eq_false (show ¬ 0<=xv by omega)];rfl)
    |(refine aC ?_;rw [hp,decide_eq_false (show ¬ xv<=1048576 by omega)];simp;done)
    |(refine aC ?_;rw [hp,show V=false by assumption];simp;done)
    |(refine ab.aL (σ:=Int × List (Int × Unit)) (_,sd) [] ?_ ?_ (by exact⟨sq,rfl,⟨.inl ⟨_,rfl,.same me⟩,trivial⟩,rfl,rfl,rfl⟩)
      ·refine⟨0+1,some _,by simp only;omega,by omega,?_,eS hx,fun v=>by simp only;rw [uF,C_,jj,yG]⟩
       rw [hp,show V=true by assumption,decide_eq_true (show 0<=xv by omega),decide_eq_true (show xv<=1048576 by omega)];rfl
      ·simp only;omega)
  ·simp only [rh,CI] at hp
   repeat' (first
    |(refine ab.op rfl (ad.ind rfl rfl (ay (l:=b) hi hx) (aw fun _=>rfl)) ?_;refine gq eB ?_)
    |(refine ab.op rfl (ad.ind rfl rfl (ay (l:=b) (k:=k - 1) (by omega) hy) (aw fun _=>rfl)) ?_;refine gq eB ?_)
    |(refine ab.a_ rfl (ad.ag rfl hV ⟨ba (ρ:=ρ) ⟨xk,xi,xn,xa⟩,trivial⟩) (fun _=>?_) (fun _=>?_)<;>refine gq eB ?_)
    |((refine ab.jL (v:=()) rfl rfl rfl rfl rfl (fun sd uF=>?_);refine gq eB ?_))
    |(refine bq (fun hb=>?_) (fun hb=>?_)<;>(try simp only [aq] at hb)<;>(first|refine gq eB ?_))
    |(refine aB fun m hm=>?_;(try rw [af] at hm);refine gq eB ?_)
    |(refine aS fun _ _=>?_;refine gq eB ?_)
    |(refine ab.ao ?_;refine gq eB ?_)
    |(refine ab.bJ ?_;refine gq eB ?_)
    |(refine fq ?_))
   all_goals first
    |(exfalso;omega)
    |(refine aC ?_;rw [hp,decide_eq_false (show ¬ 0<=xv by omega)];rfl)
    |(refine aC ?_;rw [hp,decide_eq_false (show ¬ xv<=1048576 by omega)];simp;done)
    |(refine aC ?_;rw [hp,decide_eq_false (show ¬ yv < xv by omega)];simp;done)
    |(refine aC ?_;rw [hp,show V=false by assumption];simp;done)
    |(refine ab.aL (σ:=Int × List (Int × Unit)) (_,sd) [] ?_ ?_ (by exact⟨sq,rfl,⟨.inl ⟨_,rfl,.same me⟩,trivial⟩,rfl,rfl,rfl⟩)
      ·refine⟨k+1,some _,by simp only;omega,by omega,?_,eS hx,fun v=>by simp only;rw [uF,C_,jj,yG]⟩
       rw [hp,show V=true by assumption,decide_eq_true (show 0<=xv by omega),decide_eq_true (show xv<=1048576 by omega),decide_eq_true (show yv < xv by omega)];rfl
      ·simp only;omega)
 rw [List.drop_eq_nil_of_le (by omega),ll,Bool.true_and,JK,m4] at hp
 have sg:∀ v,tr kv v=e7 b v:=fun v=>by rw [jj,List.take_of_length_le (by omega)]
 clear JK jj Da
 repeat' (first
  |(refine ab.int rfl (ad.len rfl) fun m2 g_=>?_;rw [af] at g_;refine gq eB ?_)
  |(refine bq (fun hb=>?_) (fun hb=>?_)<;>(try simp only [aq] at hb)<;>(first|refine gq eB ?_))
  |(refine ab.ao ?_;refine gq eB ?_)
  )
 all_goals first
  |(exfalso;omega)
  |skip
 refine ab.aP (σ:=Int) 1 1 [] (fun j=>[(3,.mp 0),(56,eJ ρ b),(57,.v (.int .i64 m2)),(58,.v (.int .i64 j))]) [] (fun _=>[(0,.mp (ρ.h (ku fU) kv))])
  (fun j=>∃ q:Nat,j=q/\q<=b.length/\R=(b.drop q).all fun x=>(varsOf [x.t]).all fun v=>!e7 b v) (fun j=>b.length - j.toNat) 0 ⟨0,rfl,by simp,by simpa using hp⟩ rfl (by exact⟨sq,rfl,⟨.inl ⟨_,rfl,.same me⟩,trivial⟩,rfl,rfl,rfl⟩) ?_
 rintro j ⟨q,hj,hq,dN⟩
 clear hp
 refine gq eB ?_
 by_cases gu:q < b.length
 ·obtain⟨x,hx,aO⟩:=az gu
  obtain⟨jG,oz⟩:=mu x (aY hx)
  rw [aO,List.all_cons] at dN
  have PH:(aT [x.t]).length<=1099511627776:=by
   rw [aT,aT,List.append_nil]
   exact Nat.le_trans (jY _) oz
  have hV:=Jp (w0:=w0) (ρ:=ρ) x.t jG (by first|exact Nat.le_trans (jY _) oz)
  have sn:(varsOf [x.t]).length<=1099511627776:=Nat.le_trans (fQ _ _) PH
  obtain⟨vs,ir⟩:∃ vs,vs=varsOf [x.t]:=⟨_,rfl⟩
  rw [<-ir] at dN hV sn
  obtain⟨xv,xk,xi,xn,xa⟩:=x
  repeat' (first
   |(refine ab.op rfl (ad.ind rfl rfl (ay (l:=b) hj hx) (aw fun _=>rfl)) ?_;refine gq eB ?_)
   |(refine ab.op rfl (ad.ag rfl hV ⟨ba (ρ:=ρ) ⟨xk,xi,xn,xa⟩,trivial⟩) ?_;refine gq eB ?_)
   |(refine ab.int rfl (ad.len rfl) fun m3 Fb=>?_;rw [af] at Fb;refine gq eB ?_)
   |(refine bq (fun hb=>?_) (fun hb=>?_)<;>(try simp only [aq] at hb)<;>(first|refine gq eB ?_))
   |(refine ab.ao ?_;refine gq eB ?_)
   |(refine fq ?_))
  all_goals first
   |(exfalso;omega)
   |skip
  refine ab.aP (σ:=Int) 2 2 [] (fun t=>[(3,.mp 0),(56,eJ ρ b),(57,.v (.int .i64 m2)),(58,.v (.int .i64 j)),(64,b8 ρ bF false vs),(65,.v (.int .i64 m3)),(66,.v (.int .i64 t))]) [] (fun _=>[(0,.mp (ρ.h (ku fU) kv))])
   (fun t=>∃ k:Nat,t=k/\k<=vs.length/\R=(((vs.drop k).all fun v=>!e7 b v) && (b.drop (q+1)).all fun x=>(varsOf [x.t]).all fun v=>!e7 b v)) (fun t=>vs.length - t.toNat) 0 ⟨0,rfl,by simp,by simpa using dN⟩ rfl (by exact⟨sq,rfl,⟨.inl ⟨_,rfl,.same me⟩,trivial⟩,rfl,rfl,rfl⟩) ?_
  rintro t ⟨k,ht,hk,C3⟩
  clear dN
  refine gq eB ?_
  by_cases kf:k < vs.length
  ·obtain⟨v,hv,JI⟩:=az kf
   rw [JI,List.all_cons,<-sg v] at C3
   repeat' (first
    |(refine ab.op rfl (ad.ind rfl rfl (ay (l:=vs) ht hv) (aw fun _=>rfl)) ?_;refine gq eB ?_)
    |((refine ab.look rfl rfl rfl rfl (fun u hu=>?_) (fun hu=>?_)<;>refine gq eB ?_))
    |(refine bq (fun hb=>?_) (fun hb=>?_)<;>(try simp only [aq] at hb)<;>(first|refine gq eB ?_))
    |(refine aS fun _ _=>?_;refine gq eB ?_)
    |(refine ab.ao ?_;refine gq eB ?_)
    |(refine ab.bJ ?_;refine gq eB ?_)
    |(refine fq ?_))
   all_goals first
    |(exfalso;omega)
    |(refine aC ?_;rw [C3,show tr kv v=true by rw [tr,hu];rfl];rfl)
    |(refine ab.aL (σ:=Int) _ [] ?_ ?_ (by exact⟨sq,rfl,⟨.inl ⟨_,rfl,.same me⟩,trivial⟩,rfl,rfl,rfl⟩)
      ·exact⟨k+1,by omega,by omega,by rw [C3,show tr kv v=false by rw [tr,hu];rfl];rfl⟩
      ·omega)
  ·rw [List.drop_eq_nil_of_le (by omega),List.all_nil,Bool.true_and] at C3
   repeat' (first
    |(refine bq (fun hb=>?_) (fun hb=>?_)<;>(try simp only [aq] at hb)<;>(first|refine gq eB ?_))
    |(refine aS fun _ _=>?_;refine gq eB ?_)
    |(refine ab.ao ?_;refine gq eB ?_)
    )
   all_goals first
    |(exfalso;omega)
    |(refine ab.aL (σ:=Int) _ [] ?_ ?_ (by exact⟨sq,rfl,⟨.inl ⟨_,rfl,.same me⟩,trivial⟩,rfl,rfl,rfl⟩)
      ·exact⟨q+1,by omega,by omega,C3⟩
      ·omega)
 ·skip
  repeat' (first
   |(refine bq (fun hb=>?_) (fun hb=>?_)<;>(try simp only [aq] at hb)<;>(first|refine gq eB ?_))
   |(refine ab.ao ?_;refine gq eB ?_)
   |(refine fq ?_))
  all_goals first
   |(exfalso;omega)
   |(rw [dN,List.drop_eq_nil_of_le (by omega)];exact aC rfl)
end
end
section
set_option maxRecDepth 100000
attribute [local irreducible] ah bc ad ab
def U0:CF Tryz.f12:=⟨_,by conv=>lhs;cbv⟩
theorem abZ:aH Tryz.prog 12 U0.1 Tryz.f12.ntmps:=aQ Tryz.func12 U0.2 Tryz.call12
def lF:List Nat:=[3,7,71,2,4,0,1,6,16,46,62,70,72,69,9]
theorem yH {T:Type}{ok:T->Bool}{lt:T->T->Bool}:∀ {l:List T}{pr:Option T},ij ok lt pr l=true->∀ x ∈ l,ok x=true
 |[],_,_,x,hx=>by cases hx
 |y::l,pr,h,x,hx=>by
  rw [ja,Bool.and_eq_true,Bool.and_eq_true] at h
  rcases List.mem_cons.1 hx with rfl|hx
  ·exact h.1.1
  ·exact yH h.2 x hx
theorem uZ {l:List Fi}(h:gW l=true):∀ x ∈ l,0<=x.kG:=by
 intro x hx
 unfold gW at h
 rw [Bool.and_eq_true] at h
 have:=yH h.2 x hx
 by_cases h0:0<=x.kG
 ·exact h0
 ·obtain⟨r,ids⟩:=x
  rw [xh (.inl (by simp only at h0;omega))] at this
  cases this
theorem J_ {s:List Int}{i:Int}(h:s.contains i=true):l9 (eX s) i true=eX s:=by
 induction s with
 |nil=>cases h
 |cons x s ih =>
  by_cases e:x=i
  ·subst e
   simp [eX,l9]
  ·have h1:s.contains i=true:=by
    rw [List.contains_cons,Bool.or_eq_true] at h
    exact h.resolve_left (by simp;exact fun h=>e h.symm)
   have:=ih h1
   simp only [eX,List.map_cons,l9,if_neg e] at this ⊢
   rw [this]
def Db (s:List Int) (i:Int):List Int:=if s.contains i=true then s else s++[i]
theorem Md (s:List Int) (i:Int):l9 (eX s) i true=eX (Db s i):=by
 unfold Db
 cases h:s.contains i with
 |true=>rw [J_ h];rfl
 |false=>rw [Cy h];rfl
theorem Me (s:List Int) (i v:Int):(Db s i).contains v=(s.contains v || i == v):=by
 unfold Db
 cases h:s.contains i with
 |true =>
  rw [if_pos rfl]
  by_cases e:i=v
  ·subst e;rw [h];simp
  ·rw [beq_eq_false_iff_ne.2 e,Bool.or_false]
 |false =>
  rw [if_neg (by simp)]
  rw [Bool.eq_iff_iff,Bool.or_eq_true,List.contains_iff_mem,List.contains_iff_mem,List.mem_append,List.mem_singleton,beq_iff_eq]
  exact or_congr Iff.rfl eq_comm
def Ka (ρ:Hd) (p:Pg) (s:dP):Ob:=.arr 11 [[dG ρ p.ds,Ep ρ p.rs,cO ρ s.goals,fJ ρ s.store,eJ ρ s.binds,gO ρ s.cg,cO ρ s.known,iv s.next,iv s.fresh,.v (.bool s.failed),.mp 2]] 0 true
def yI (s:dP):Bool:=decide (s.goals.length<=1000) && decide (s.known.length<=500) && decide (1<=s.next) && decide (s.next<=2147483648) && decide (0<=s.fresh) && decide (s.fresh<=1048576)
def r9 (p:Pg) (s:dP):Bool:=decide ((oE p).2=0) && (yI s && (jy s.store && (iO s.binds && (gW s.cg && (s.goals.all (ru p s) && (s.store.all (ry p s) && (s.known.all (oG s) && (s.cg.all (rq p s) && s.binds.all (tq s)))))))))
structure v8 (s:dP):Prop where
 gl:s.goals.length<=1099511627776
 st:s.store.length<=1099511627776
 bl:s.binds.length<=1099511627776
 fl:s.cg.length<=1099511627776
 kl:s.known.length<=1099511627776
 gx:∀ x ∈ s.goals,r6 x
 sx:∀ x ∈ s.store,x.ok
 bx:∀ x ∈ s.binds,x.ok
 fx:∀ x ∈ s.cg,x.ok
 kx:∀ x ∈ s.known,r6 x
section
variable {w0:World}{ρ:Hd}{T:ae}{α:AA}
theorem Dd (kv:List (Int × Bool)):∀ e ∈ ρ.h (ku fB) kv,Pure e.2:=by
 rw [ρ.eq]
 intro e he
 obtain⟨p,_,rfl⟩:=List.mem_map.1 he
 exact .v
theorem ad.U1 {f:QO}{kz:List QO}{g h:FuncId}{L:AV}{b:Bool}{p:Pg}{s:dP}{kv:List (Int × Bool)}(hc:bc Tryz.prog w0 g [L,.fn (.func h) [.pt 0 11 0 0] []] (aM [(0,ny ρ p s),(1,mB ρ kv)] 2) (.v (.bool b)) (aM [(0,ny ρ p s),(1,mB ρ kv)] 2)) (hL:Pure L)
  (Yz:eL (f.ev α.tm) (kz.map (·.ev α.tm))=some (g,[L,.fn (.func h) [.pt 3 11 0 0] []])) (h3:T.get 3=some (Ka ρ p s)) (h2:T.get 2=some (mB ρ kv)) (hn:Nat.ble 4 T.nx=true) (nG:∀ k o,T.get k=some o->k < T.nx) :
  ad Tryz.prog w0 false (.call f kz) α T (.v (.bool b)) ⟨fM T.get [(3,some (Ka ρ p s)),(2,some (mB ρ kv))],T.nx+2⟩:=by
 have hle:=Nat.le_of_ble_eq_true hn
 refine ad.iS (m:=[(0,3),(1,2)]) hc Yz ⟨Rn.pure hL,Rn.fn ⟨Rn.pt rfl rfl,trivial⟩ trivial,trivial⟩ (Rb.pure .v) rfl ?_ ⟨⟨_,h3,?_⟩,⟨_,h2,?_⟩,trivial⟩ ⟨⟨0,_,rfl,rfl,?_⟩,⟨1,_,rfl,rfl,?_⟩,trivial⟩ rfl nG (.inr rfl)
 ·have h3:Nat.blt 3 T.nx=true:=Nat.ble_eq_true_of_le (by omega)
  have h2:Nat.blt 2 T.nx=true:=Nat.ble_eq_true_of_le (by omega)
  show (Nat.blt 3 T.nx && (Nat.blt 2 T.nx && true))=true
  rw [h3,h2];rfl
 ·exact hO.row ⟨Rn.pure (bU _),Rn.pure (kH _),Rn.pure (bw _),Rn.pure (cb _),Rn.pure (bT _),Rn.pure (cJ _),Rn.pure (bw _),Rn.pure .v,Rn.pure .v,Rn.pure .v,Rn.mp rfl rfl,trivial⟩
 ·exact hO.mp (Dd kv)
 ·exact iD.row ⟨Rb.pure (bU _),Rb.pure (kH _),Rb.pure (bw _),Rb.pure (cb _),Rb.pure (bT _),Rb.pure (cJ _),Rb.pure (bw _),Rb.pure .v,Rb.pure .v,Rb.pure .v,Rb.mp rfl,trivial⟩
 ·exact iD.mp (Dd kv)
end
end
section
set_option maxRecDepth 100000
attribute [local irreducible] ah bc ad ab
def PL:CF Tryz.f138:=⟨_,by conv=>lhs;cbv⟩
theorem YA:aH Tryz.prog 138 PL.1 Tryz.f138.ntmps:=aQ Tryz.func138 PL.2 Tryz.call138
def Mf:List Nat:=[2,3,4,0,1]
def PM:CF Tryz.f141:=⟨_,by conv=>lhs;cbv⟩
theorem YB:aH Tryz.prog 141 PM.1 Tryz.f141.ntmps:=aQ Tryz.func141 PM.2 Tryz.call141
def Mg:List Nat:=[2,3,4,0,1]
def PN:CF Tryz.f144:=⟨_,by conv=>lhs;cbv⟩
theorem YC:aH Tryz.prog 144 PN.1 Tryz.f144.ntmps:=aQ Tryz.func144 PN.2 Tryz.call144
def Mh:List Nat:=[4,0,1,2,3]
def U2:CF Tryz.f63:=⟨_,by conv=>lhs;cbv⟩
theorem ab0:aH Tryz.prog 63 U2.1 Tryz.f63.ntmps:=aQ Tryz.func63 U2.2 Tryz.call63
def g63:List Nat:=[4,0,1]
def U3:CF Tryz.f64:=⟨_,by conv=>lhs;cbv⟩
theorem ab1:aH Tryz.prog 64 U3.1 Tryz.f64.ntmps:=aQ Tryz.func64 U3.2 Tryz.call64
def g64:List Nat:=[4,0,1]
def U4:CF Tryz.f65:=⟨_,by conv=>lhs;cbv⟩
theorem ab2:aH Tryz.prog 65 U4.1 Tryz.f65.ntmps:=aQ Tryz.func65 U4.2 Tryz.call65
def g65:List Nat:=[4,0,1]
def U5:CF Tryz.f14:=⟨_,by conv=>lhs;cbv⟩
theorem ab3:aH Tryz.prog 14 U5.1 Tryz.f14.ntmps:=aQ Tryz.func14 U5.2 Tryz.call14
def De:List Nat:=[2,3,4,0,1]
def nX (x y:Im):Bool:=x.id == y.id && rP ⟨x.n,x.a⟩ ⟨y.n,y.a⟩ == 0
def nY (x y:Bd):Bool:=x.v == y.v && fy x.t y.t == 0
def nZ (x y:Fi):Bool:=mc x y == 0
def pb (s t:dP):Bool:=cR iy s.goals t.goals && (cR nX s.store t.store && (cR nY s.binds t.binds && (cR nZ s.cg t.cg && (cR iy s.known t.known && (s.next == t.next && (s.fresh == t.fresh && s.failed == t.failed))))))
theorem yJ {g:FuncId}:Wk (.v (.func (.func g) #[] #[])) (.fn (.func g) [] []):=fun gg w x h=>by
 have e:=ca h
 subst e
 exact .fn rfl rfl (fun i a y h=>by simp at h) (fun i a y h=>by simp at h)
section
variable {w0:World}{ρ:Hd}
theorem U6 (x y:Im) (hx:x.ok) (hy:y.ok):ah Tryz.prog w0 138 [it ρ x,it ρ y] (.v (.bool (nX x y))):=by
 have hA:=QG (w0:=w0) (ρ:=ρ) ⟨x.n,x.a⟩ ⟨y.n,y.a⟩ ⟨hx.1.len,hx.1.1⟩ ⟨hy.1.len,hy.1.1⟩
 have gn:=de (ρ:=ρ) ⟨x.n,x.a⟩
 have hyp:=de (ρ:=ρ) ⟨y.n,y.a⟩
 unfold nX
 obtain⟨B,hB⟩:∃ b,b=(rP ⟨x.n,x.a⟩ ⟨y.n,y.a⟩ == 0):=⟨_,rfl⟩
 rw [<-hB] at hA ⊢
 clear hB
 obtain⟨xi,xn,xa⟩:=x
 obtain⟨yi,yn,ya⟩:=y
 refine YA.aG (by simp [Tryz.ntmps138]) (.v) ?_
 refine gq Mf ?_
 repeat' (first
  |(refine ab.a_ rfl (ad.ag rfl hA ⟨gn,hyp,trivial⟩) (fun _=>?_) (fun _=>?_)<;>refine gq Mf ?_)
  |(refine bq (fun hb=>?_) (fun hb=>?_)<;>(try simp only [aq] at hb)<;>(first|refine gq Mf ?_))
  |(refine fq ?_))
 all_goals first
  |(refine aC ?_;rw [show B=true by assumption,show (xi == yi)=true from beq_iff_eq.2 (by omega)];rfl)
  |(refine aC ?_;rw [show B=false by assumption];simp;done)
  |(refine aC ?_;rw [show (xi == yi)=false from beq_eq_false_iff_ne.2 (by omega)];rfl)
theorem U7 (x y:Bd) (hx:x.ok) (hy:y.ok):ah Tryz.prog w0 141 [bd ρ x,bd ρ y] (.v (.bool (nY x y))):=by
 have hA:=SO (w0:=w0) (ρ:=ρ) x.t y.t hx.1 hy.1
 unfold nY
 obtain⟨B,hB⟩:∃ b,b=(fy x.t y.t == 0):=⟨_,rfl⟩
 rw [<-hB] at hA ⊢
 clear hB
 obtain⟨xv,xk,xi,xn,xa⟩:=x
 obtain⟨yv,yk,yi,yn,ya⟩:=y
 refine YB.aG (by simp [Tryz.ntmps141]) (.v) ?_
 refine gq Mg ?_
 repeat' (first
  |(refine ab.a_ rfl (ad.ag rfl hA ⟨ba (ρ:=ρ) ⟨xk,xi,xn,xa⟩,ba (ρ:=ρ) ⟨yk,yi,yn,ya⟩,trivial⟩) (fun _=>?_) (fun _=>?_)<;>refine gq Mg ?_)
  |(refine bq (fun hb=>?_) (fun hb=>?_)<;>(try simp only [aq] at hb)<;>(first|refine gq Mg ?_))
  |(refine fq ?_))
 all_goals first
  |(refine aC ?_;rw [show B=true by assumption,show (xv == yv)=true from beq_iff_eq.2 (by omega)];rfl)
  |(refine aC ?_;rw [show B=false by assumption];simp;done)
  |(refine aC ?_;rw [show (xv == yv)=false from beq_eq_false_iff_ne.2 (by omega)];rfl)
theorem U8 (x y:Fi) (hx:x.ok) (hy:y.ok):ah Tryz.prog w0 144 [fi ρ x,fi ρ y] (.v (.bool (nZ x y))):=by
 have hA:=JC (w0:=w0) (ρ:=ρ) x y hx hy
 unfold nZ
 obtain⟨C,hC⟩:∃ b,b=mc x y:=⟨_,rfl⟩
 rw [<-hC] at hA ⊢
 clear hC
 have gn:=eu (ρ:=ρ) x
 have hyp:=eu (ρ:=ρ) y
 obtain⟨xr,xs⟩:=x
 obtain⟨yr,ys⟩:=y
 refine YC.aG (by simp [Tryz.ntmps144]) (.v) ?_
 refine gq Mh ?_
 repeat' (first
  |((refine ab.int rfl (ad.ag rfl hA ⟨gn,hyp,trivial⟩) fun d hd=>?_;refine gq Mh ?_))
  |(refine bq (fun hb=>?_) (fun hb=>?_)<;>(try simp only [aq] at hb)<;>(first|refine gq Mh ?_))
  |(refine fq ?_))
 all_goals first
  |(refine aC ?_;rw [show (C == 0)=true from beq_iff_eq.2 (by omega)];done)
  |(refine aC ?_;rw [show (C == 0)=false from beq_eq_false_iff_ne.2 (by omega)];done)
end
end
end Go.Proofs.YtbofilglphfceaaGreat
