import Derived.Test.YtgjfgekaclobaaaGreatCm51
import Derived.Test.YtgjfgekaclobaaaGreatCm52
namespace Go.Proofs.YtgjfgekaclobaaaGreat
set_option linter.unusedVariables false
set_option linter.unusedSimpArgs false
open Go.RowKit
section
set_option maxRecDepth 100000
section
variable {w:World}{r:Reach}{b0:Nat}{v:Value}{H:Type}{enc:TypeId × Value->H}{sp:Nat->Bool}{held:Bool}{d:DataW H}{ps:List MemPlace}
theorem C9 (se:Value.okWide Tryz.prog w r b0 38 v) (h:DataW.Trod enc Tryz.prog w 0 sp held 38 v d ps):∃ x:List Int,x.length<=Rows.uptoBulk d/\aA (g0 w) w (dw .plain fc false x) v:=by
 obtain⟨fuel,hf⟩:=h
 have hc:v.cells.toList=[v]:=by
  unfold Value.okWide at se
  rw [Tryz.underlying38] at se
  cases v with
  |slice A l c=>rfl
  |_=>cases se
 rw [hc] at hf
 obtain⟨x,h1,_,h2⟩:=Q2 (fuel+1) H enc w sp held fuel (by omega) _ _ rfl hf
 exact⟨x,by simp only at h1;omega,h2 0 _ _ rfl rfl⟩
end
end
section
set_option maxRecDepth 100000
section
variable {w0:World}
theorem Ry:∀ g,iC g [83,220,288,297,310]=true->∀ A c,av Tryz.prog w0 g [.v (.slice A 0 c)] (.sl true []):=by
 have h0:eC Tryz.prog w0 (Tq xt [] []):=o9 (fun _ _ _=>Kp) fun g h=>by cases h
 intro g hg A c
 have hg:=wS hg
 simp only [List.mem_cons,List.not_mem_nil,or_false] at hg
 rcases hg with rfl|rfl|rfl|rfl|rfl<;>cases A<;>exact Env.eQ h0 8 (by kernel_rfl)
noncomputable def xE:Env:=ZP xt [83,220,288,297,310] [83,84,137,220,255,288,297,310,366,388,393]
theorem aS (hu:av Tryz.prog w0 292 [uA,uB] uR):eC Tryz.prog w0 xE:=Ts (fun _ _ _=>Kp) Ry hu
end
end
section
set_option maxRecDepth 100000
def ix (n:Int):AV:=.v (.int .i64 n)
def bx (b:Bool):AV:=.v (.bool b)
def sx (l:List UInt8):AV:=.v (.string ⟨l.toArray⟩)
def M6:Bool->Bool->Bool
 |true,true=>true
 |false,false=>true
 |_,_=>false
theorem EN:∀ {a b:Bool},M6 a b=true->a=b
 |true,true,_=>rfl
 |false,false,_=>rfl
def M7:Value->Value->Bool
 |.int .i64 a,.int .i64 b=>decide (a=b)
 |.bool a,.bool b=>M6 a b
 |.string a,.string b=>J6 a.data.toList b.data.toList
 |_,_=>false
theorem Rz {a b:Value}(h:M7 a b=true):a=b:=by
 unfold M7 at h
 split at h
 ·rw [of_decide_eq_true h]
 ·rw [EN h]
 ·rename_i a b
  rw [CG,beq_iff_eq] at h
  congr 1
  cases a;cases b
  simp only [ByteArray.mk.injEq]
  exact Array.toList_inj.1 h
 ·cases h
def ze (f:AV->AV->Bool):List AV->List AV->Bool
 |[],[]=>true
 |a::l,b::m=>match f a b with|true=>ze f l m|false=>false
 |_,_=>false
theorem u7 {f:AV->AV->Bool}(hf:∀ a b,f a b=true->a=b):∀ {l m:List AV},ze f l m=true->l=m
 |[],[],_=>rfl
 |a::l,b::m,h=>by
  unfold ze at h
  split at h
  ·rename_i e;rw [hf _ _ e,u7 hf h]
  ·cases h
def IE (f:AV->AV->Bool):List (List AV)->List (List AV)->Bool
 |[],[]=>true
 |a::l,b::m=>match ze f a b with|true=>IE f l m|false=>false
 |_,_=>false
theorem EO {f:AV->AV->Bool}(hf:∀ a b,f a b=true->a=b):∀ {l m:List (List AV)},IE f l m=true->l=m
 |[],[],_=>rfl
 |a::l,b::m,h=>by
  unfold IE at h
  split at h
  ·rename_i e;rw [u7 hf e,EO hf h]
  ·cases h
def Ks:Nat->AV->AV->Bool
 |0,_,_=>false
 |n+1,a,b=>match a,b with
  |.v x,.v y=>M7 x y
  |.agg l,.agg m=>ze (Ks n) l m
  |.sl e l,.sl e' m=>match M6 e e' with|true=>IE (Ks n) l m|false=>false
  |_,_=>false
theorem C_:∀ {n:Nat}{a b:AV},Ks n a b=true->a=b
 |0,_,_,h=>by cases h
 |n+1,a,b,h=>by
  unfold Ks at h
  split at h
  ·rw [Rz h]
  ·rw [u7 (fun a b=>C_) h]
  ·split at h
   ·rename_i e;rw [EN e,EO (fun a b=>C_) h]
   ·cases h
  ·cases h
abbrev Fa:=Nat × List AV × AV
def zf (g:Nat) (az:List AV):List Fa->Option AV
 |[]=>none
 |f::fs=>match Nat.beq f.1 g with
  |true=>match ze (Ks 30) f.2.1 az with|true=>some f.2.2|false=>zf g az fs
  |false=>zf g az fs
section
variable {w0:World}
def aw (w0:World) (fs:List Fa):Prop:=∀ f ∈ fs,av Tryz.prog w0 f.1 f.2.1 f.2.2/\du f.2.1
theorem zg {g:Nat}{az:List AV}{r:AV}:∀ {fs:List Fa},aw w0 fs->zf g az fs=some r->av Tryz.prog w0 g az r/\du az
 |[],_,h=>by cases h
 |f::fs,hf,h=>by
  have hf2:aw w0 fs:=fun x hx=>hf x (List.mem_cons_of_mem _ hx)
  unfold zf at h
  split at h
  ·rename_i e
   split at h
   ·rename_i e2
    obtain rfl:=Option.some.inj h
    rw [<-Nat.eq_of_beq_eq_true e,<-u7 (fun a b=>C_) e2]
    exact hf f List.mem_cons_self
   ·exact zg hf2 h
  ·exact zg hf2 h
def Da (E:Env) (fs:List Fa):Env:={ E with ext:=fun g az=>match E.ext g az with|some r=>some r|none=>zf g az fs }
theorem u_ {E:Env}(h:eC Tryz.prog w0 E) {fs:List Fa}(hf:aw w0 fs):eC Tryz.prog w0 (Da E fs) where
 seq:=h.seq
 key:=h.key
 x7:=h.x7
 qR:=h.qR
 nat:=h.nat
 ext:=fun g az r e=>by
  have e:(match E.ext g az with|some r=>some r|none=>zf g az fs)=some r:=e
  split at e
  ·rename_i e2
   obtain rfl:=Option.some.inj e
   exact h.ext _ _ _ e2
  ·exact zg hf e
theorem aw.nil:aw w0 []:=fun _ h=>by cases h
theorem aw.cons {E:Env}(h:eC Tryz.prog w0 E) {fs:List Fa}(hf:aw w0 fs) {f:Fa}(e:y9 (Da E fs) (Cx (Da E fs) 60) f.1 f.2.1=some f.2.2):aw w0 (f::fs):=by
 intro x hx
 rcases List.mem_cons.1 hx with rfl|hx
 ·exact ox (u_ h hf) (oy (u_ h hf) 60) e
 ·exact hf x hx
theorem aw.last {E:Env}(h:eC Tryz.prog w0 E) {fs:List Fa}(hf:aw w0 fs) {g:Nat}{r:AV}(e:y9 (Da E fs) (Cx (Da E fs) 60) g []=some r):av Tryz.prog w0 g [] r :=
 (ox (u_ h hf) (oy (u_ h hf) 60) e).1
end
end
section
set_option maxRecDepth 100000
attribute [local irreducible] av aE ad ab
def O7:CF Tryz.f340:=⟨_,by conv=>lhs;cbv⟩
theorem XN:bQ Tryz.prog 340 O7.1 Tryz.f340.ntmps:=fh Tryz.func340 O7.2 Tryz.call340
def cr:List Nat:=[0,11,21,43,10,14,8,2,3,20,22,5,4,7,34,42,44,41,13,75,89]
def O8:CF Tryz.f374:=⟨_,by conv=>lhs;cbv⟩
theorem XO:bQ Tryz.prog 374 O8.1 Tryz.f374.ntmps:=fh Tryz.func374 O8.2 Tryz.call374
def abR:List Nat:=[2,0,1]
section
variable {P:Program}{w0:World}{rd:Bool}{n:Nat}{Q:Exit->AA->aa->Prop}{α:AA}{S:aa}{l:List QI}{K:List ig}{T:Type}{ρ:Hd}{f:T->AV}{kv:List (Int × T)}
theorem ab.Kt {d:Option Nat}{g:Option (Nat × Bool)}{z:AV}{x i:QO}{k:Nat}{m:Int}{z0:T}(hw:bB α.tm g=some true) (hx:x.ev α.tm=.mp k) (hS:S.get k=some (.mp (ρ.h (cu f) kv))) (hi:i.ev α.tm=.v (.int .i64 m)) (hz:f z0=z)
  (k1:∀ v,v=(ao kv m).getD z0->ab P w0 rd n Q (.aR false l K) (bJ d α (f v)) S):ab P w0 rd n Q (.aR false (⟨d,g,.look z false x i⟩::l) K) α S :=
 ab.look (ρ:=ρ) (f:=f) (kv:=kv) hw hx hS hi (fun v hv=>k1 v (by rw [hv];rfl)) fun hn=>by rw [<-hz];exact k1 z0 (by rw [hn];rfl)
theorem ab.RA {d:Option Nat}{g:Option (Nat × Bool)}{z:AV}{x i:QO}{k:Nat}{m:Int}{z0:T}(hw:bB α.tm g=some true) (hx:x.ev α.tm=.mp k) (hS:S.get k=some (.mb (ρ.h (cu f) kv))) (hi:i.ev α.tm=.v (.int .i64 m)) (hz:f z0=z)
  (k1:∀ v,v=(ao kv m).getD z0->ab P w0 rd n Q (.aR false l K) (bJ d α (f v)) S):ab P w0 rd n Q (.aR false (⟨d,g,.look z false x i⟩::l) K) α S :=
 ab.mw (ρ:=ρ) (f:=f) (kv:=kv) hw hx hS hi (fun v hv=>k1 v (by rw [hv];rfl)) fun hn=>by rw [<-hz];exact k1 z0 (by rw [hn];rfl)
end
theorem RB {ρ:Hd}{B:Nat}(l:List Bd):kH B (.arr 5 (ρ.h (List.map (pC ρ)) l) 0 false):=by
 show ∀ row ∈ ρ.h (List.map (pC ρ)) l,∀ a ∈ row,cC B a
 rw [ρ.eq]
 intro row hr a ha
 obtain⟨x,_,rfl⟩:=List.mem_map.1 hr
 exact Pure.bT (wi x a ha)
theorem gS9 {ρ:Hd}{S:aa}{nl ul:Nat}{Nd:aU}{vs sh ls:List (Int × Int)}{up:List Nat}{kn:KN}(h0:S.get 0=some (gO nl ul):=by rfl) (h1:S.get 1=some (cN ρ Nd):=by rfl) (h2:S.get 2=some (aY ρ vs):=by rfl) (h3:S.get 3=some (cO ρ up):=by rfl)
  (h4:S.get 4=some (cP ρ sh):=by rfl) (h5:S.get 5=some (aY ρ ls):=by rfl) (h6:S.get 6=some (cQ ρ kn):=by rfl) (kL:Nat.ble S.nx 9=true:=by rfl):eI 9 [] 10 S [(0,gO nl ul),(1,cN ρ Nd),(2,aY ρ vs),(3,cO ρ up),(4,cP ρ sh),(5,aY ρ ls),(6,cQ ρ kn),(9,.arr 5 (ρ.h (List.map (pC ρ)) []) 0 false)] :=
 ⟨.inl ⟨_,h0,.same (lq (by omega))⟩,.inl ⟨_,h1,.same (gv _)⟩,.inl ⟨_,h2,.same (bY _)⟩,.inl ⟨_,h3,.same (fD _)⟩,.inl ⟨_,h4,.same (fE _)⟩,.inl ⟨_,h5,.same (bY _)⟩,.inl ⟨_,h6,.same (fF _)⟩,.inr kL,trivial⟩
theorem M8 {j:Nat}{ρ:Hd}{S:aa}{nl ul:Nat}{Nd:aU}{vs sh ls:List (Int × Int)}{up:List Nat}{kn:KN}{acc:List Bd}(h9:S.get j=some (.arr 5 (ρ.h (List.map (pC ρ)) acc) 0 false):=by rfl) (h0:S.get 0=some (gO nl ul):=by rfl) (h1:S.get 1=some (cN ρ Nd):=by rfl) (h2:S.get 2=some (aY ρ vs):=by rfl) (h3:S.get 3=some (cO ρ up):=by rfl)
  (h4:S.get 4=some (cP ρ sh):=by rfl) (h5:S.get 5=some (aY ρ ls):=by rfl) (h6:S.get 6=some (cQ ρ kn):=by rfl):eI 9 [(9,j)] 10 S [(0,gO nl ul),(1,cN ρ Nd),(2,aY ρ vs),(3,cO ρ up),(4,cP ρ sh),(5,aY ρ ls),(6,cQ ρ kn),(9,.arr 5 (ρ.h (List.map (pC ρ)) acc) 0 false)] :=
 ⟨.inl ⟨_,h0,.same (lq (by omega))⟩,.inl ⟨_,h1,.same (gv _)⟩,.inl ⟨_,h2,.same (bY _)⟩,.inl ⟨_,h3,.same (fD _)⟩,.inl ⟨_,h4,.same (fE _)⟩,.inl ⟨_,h5,.same (bY _)⟩,.inl ⟨_,h6,.same (fF _)⟩,.inl ⟨_,h9,.same (RB _)⟩,trivial⟩
def T1 (ρ:Hd):Option (List Bd)->AV
 |none=>.aC [.sl true [],iv 6]
 |some o=>.aC [DZ ρ o,iv 0]
section
variable {w0:World}{ρ:Hd}
theorem T3 (G:Nat->Option Ob):aE Tryz.prog w0 374 [.mp 2] ⟨G,8⟩ (.fn (.func 406) [] [.pt 8 1 0 0]) ⟨aX G 8 (some (.arr 1 [[.mp 2]] 0 true)),9⟩:=by
 obtain⟨r,S',h,h1,h2⟩:=bQ.w8 (w0:=w0) (S:=⟨G,8⟩) (args:=[.mp 2]) (R:=fun r S'=>r=.fn (.func 406) [] [.pt 8 1 0 0]/\S'=⟨aX G 8 (some (.arr 1 [[.mp 2]] 0 true)),9⟩) XO (by simp [Tryz.ntmps374]) (by
  refine gq abR ?_
  refine fq ?_
  exact⟨rfl,rfl⟩)
 subst h1 h2
 exact h
theorem M9 {N:aU}{vs sh ls:List (Int × Int)}{nl ul:Nat}(hN:zY N) (dz:nl=N.length) (jy:ul<=1099511627776) (Ja:nl<=1099511627776) {up:List Nat}{cw:List Nat}{db:KN}{b:Bool}(hu:up.length=ul) (T4:vs.length<=1000000000000) (vK:(vs.map (·.1)).Nodup) (O9:∀ x ∈ vs.map (·.1),0<=x/\x<=1099511627776)
  (hm:pI N sh (List.range nl) up []=some (b,cw,db)) {R:AV}(nC:Pure R) (hb:b=false->R=.aC [.sl true [],iv 13]) (dF:b=true->∃ L M ro,qF L/\(∀ v,v ∈ L ↔ v ∈ vs.map (·.1))/\L.length<=100000000000/\oU N sh ls vs db M L cw []=some ro/\R=T1 ρ ro) :
  aE Tryz.prog w0 340 [.pt 0 6 0 0] (au (gX ρ nl ul N vs up sh ls []) 7) R (au [] 7):=by
 refine bQ.jl 7 7 _ XN (by simp [Tryz.ntmps340]) rfl rfl ?_
 unfold gX
 refine gq cr ?_
 refine ab.ft ρ ub rfl (fun bz ym=>?_)
 refine gq cr ?_
 refine ab.int rfl (ad.wI rfl) fun e he=>?_
 refine gq cr ?_
 refine ab.iK (σ:=Int × List Nat × KN) 8 8 [] (fun p=>[(0,.pt 0 6 0 0),(2,.sl true []),(3,iv 0),(4,.mp 7),(20,iv e),(21,iv p.1)]) []
  (fun p=>[(0,gO nl ul),(1,cN ρ N),(2,aY ρ vs),(3,cO ρ p.2.1),(4,cP ρ sh),(5,aY ρ ls),(6,cQ ρ p.2.2),(7,sB ρ bz)])
  (fun p=>∃ i:Nat,p.1=i/\i<=nl/\p.2.1.length=ul/\qn p.2.2/\pI N sh ((List.range nl).drop i) p.2.1 p.2.2=some (b,cw,db)) (fun p=>nl - p.1.toNat)
  (0,up,[]) ⟨0,rfl,by simp,hu,(fun C p h=>by cases h),by simpa using hm⟩ rfl (by exact⟨sq,rfl,C3,rfl,rfl,rfl⟩) ?_
 rintro⟨ii,eF,ke⟩ ⟨i,sA,wX,fG,dL,cd⟩
 simp only at sA wX fG dL cd
 refine gq cr ?_
 refine bq (fun dF=>?_) (fun dF=>?_)<;>(try simp only [bS] at dF)
 ·have lf:i < nl:=by omega
  have hx:(List.range nl)[i]?=some i:=by rw [List.getElem?_range lf]
  obtain⟨xa,xb⟩:=List.getElem?_eq_some_iff.1 hx
  rw [List.drop_eq_getElem_cons xa,xb,pI] at cd
  split at cd
  ·cases cd
  rename_i u2 cl hr
  have c1:=qU (w0:=w0) (ρ:=ρ) (s:=⟨N,vs,⟨eF,sh,ls⟩⟩) (kn:=ke) (by simp only;omega) hr
  have gu:u2.length=ul:=by rw [eG hr,fG]
  simp only at c1
  rw [<-eD dz fG,<-eD dz gu,<-sA] at c1
  obtain⟨ro,u3,qH,qT⟩:∃ ro u3 qH,iu N sh (N.length+1) bz cl u2 ke=some (ro,u3,qH):=by
   rw [ym]
   cases qT:iu N sh (N.length+1) [] cl u2 ke with
   |none=>rw [qT] at cd;cases cd
   |some w=>exact⟨w.1,w.2.1,w.2.2,rfl⟩
  have T5:=qT
  rw [ym] at T5
  rw [T5] at cd
  obtain⟨k3,l3,p3⟩:=r9 _ qT dL
  have c2:aE Tryz.prog w0 372 [.pt 0 6 0 0,iv cl,.mp 7] (au (gB ρ nl ul N vs u2 sh ls ke bz) 8) (uu ro) (au (gB ρ nl ul N vs u3 sh ls qH bz) 8):=TP hN dz jy _ gu dL qT
  have oe:u3.length=ul:=by omega
  refine gq cr ?_
  refine ab.op rfl (ad.iz c1 rfl (Nat.le_of_ble_eq_true rfl) (bW (by decide)) (jB) (bW (by decide)) (mB (by decide) .v) .v) ?_
  refine gq cr ?_
  refine ab.op rfl (ad.iz c2 rfl (Nat.le_of_ble_eq_true rfl) (u6 (by decide)) (Km) (u6 (by decide)) (Kn (by decide) .v) (Pure.bT (kp ro))) ?_
  cases ro with
  |none =>
   simp only [Option.some.injEq,Prod.mk.injEq] at cd
   obtain⟨rfl,rfl,rfl⟩:=cd
   rw [hb rfl] at nC ⊢
   rw [uu]
   refine gq cr ?_
   refine ab.bO ?_
   refine gq cr ?_
   refine fq ?_
   exact⟨[],.aJ (Pure.bT nC),trivial,rfl⟩
  |some pq =>
   rw [uu]
   refine gq cr ?_
   refine bH (fun i3 Ki=>?_)
   refine gq cr ?_
   refine ab.d_ (σ:=Int × List Nat × KN) (i3,u3,qH) [] ⟨i+1,by simp only;omega,by omega,oe,k3,cd⟩ ?_ (by exact⟨sq,rfl,C3,rfl,rfl,rfl⟩)
   simp only;omega
 ·have lf:i=nl:=by omega
  rw [lf,List.drop_of_length_le (by rw [List.length_range];omega),pI] at cd
  simp only [Option.some.injEq,Prod.mk.injEq] at cd
  obtain⟨rfl,rfl,rfl⟩:=cd
  refine gq cr ?_
  refine ab.bh ?_
  refine gq cr ?_
  obtain⟨L,M,ro,Db,fI,Kq,EU,rfl⟩:=dF rfl
  clear hb dF dL
  refine ab.op rfl (ad.call rfl (T3 _) (fun h=>by cases h)) ?_
  refine gq cr ?_
  refine ab.op rfl (ad.call rfl (M5 (kb:=8) (km:=2) (L:=L) rfl rfl vK O9 T4 Db fI) (fun h=>by cases h)) ?_
  refine gq cr ?_
  refine bK fun q hq=>?_
  rw [aF] at hq
  refine gq cr ?_
  refine ab.iK (σ:=Int × List Nat × List Bd × Nat) 9 10 [] (fun p=>[(0,.pt 0 6 0 0),(8,.gr 9 5 p.2.2.2),(41,dw ρ fc false L),(42,iv q),(43,iv p.1)]) []
   (fun p=>[(0,gO nl ul),(1,cN ρ N),(2,aY ρ vs),(3,cO ρ p.2.1),(4,cP ρ sh),(5,aY ρ ls),(6,cQ ρ ke),(9,.arr 5 (ρ.h (List.map (pC ρ)) p.2.2.1) 0 false)])
   (fun p=>∃ i:Nat,p.1=i/\i<=L.length/\p.2.1.length=ul/\p.2.2.2=p.2.2.1.length/\p.2.2.1.length<=i/\oU N sh ls vs ke M (L.drop i) p.2.1 p.2.2.1=some ro) (fun p=>L.length - p.1.toNat)
   (0,eF,[],0) ⟨0,rfl,by simp,fG,rfl,by simp,by simpa using EU⟩ rfl (by exact⟨sq,rfl,gS9,rfl,rfl,rfl⟩) ?_
  rintro⟨ii,upx,acc,al⟩ ⟨i,sA,wX,fG,aH,jX,cd⟩
  simp only at sA wX fG aH jX cd
  clear EU
  refine gq cr ?_
  refine bq (fun dF=>?_) (fun dF=>?_)<;>(try simp only [bS] at dF)
  ·have lf:i < L.length:=by omega
   obtain⟨v,hx,iN⟩:=oA lf
   rw [iN,oU] at cd
   split at cd
   ·cases cd
   rename_i k hk
   split at cd
   rotate_left
   ·cases cd
   rename_i Zp
   split at cd
   ·cases cd
   rename_i u2 cl hr
   have c1:=qU (w0:=w0) (ρ:=ρ) (s:=⟨N,vs,⟨upx,sh,ls⟩⟩) (kn:=ke) (by simp only;omega) hr
   have gu:u2.length=ul:=by rw [eG hr,fG]
   simp only at c1
   rw [<-eD dz fG,<-eD dz gu,show ((k.toNat:Nat):Int)=k by omega] at c1
   obtain⟨ci,CP⟩:∃ ci:Int,ci=cl:=⟨_,rfl⟩
   rw [<-CP] at c1 cd
   refine gq cr ?_
   refine ab.op rfl (ad.ind rfl rfl (ky (l:=L) sA hx) (kz fun _=>rfl)) ?_
   refine gq cr ?_
   refine ab.mw (ρ:=ρ) (f:=iv) (kv:=vs) rfl rfl rfl rfl (fun k2 eN=>?_) (fun eN=>?_)
   rotate_left
   ·rw [hk] at eN;cases eN
   rw [hk] at eN
   obtain rfl:=Option.some.inj eN
   refine gq cr ?_
   refine ab.op rfl (ad.iz c1 rfl (Nat.le_of_ble_eq_true rfl) (bW (by decide)) (jB) (bW (by decide)) (mB (by decide) .v) .v) ?_
   refine gq cr ?_
   refine ab.look (ρ:=ρ) (f:=iv) (kv:=sh) rfl rfl rfl rfl (fun si Au=>?_) (fun Au=>?_)
   ·rw [if_neg (by rw [Au];rintro⟨h,_⟩;cases h)] at cd
    refine gq cr ?_
    refine ab.Kt (ρ:=ρ) (f:=vL) (kv:=ke) (z0:=(0,0)) rfl rfl rfl rfl rfl (fun q2 nB=>?_)
    rw [<-nB] at cd
    obtain⟨q3,q4⟩:=q2
    simp only at cd
    refine gq cr ?_
    refine bq (fun Ku=>?_) (fun Ku=>?_)<;>(try simp only [bS] at Ku)
    ·rw [if_pos (.inl (by omega))] at cd
     obtain rfl:=Option.some.inj cd
     refine gq cr ?_
     refine ab.bO ?_
     refine gq cr ?_
     refine fq ?_
     exact⟨[],.aJ (Pure.bT nC),trivial,rfl⟩
    ·refine gq cr ?_
     refine bq (fun qW=>?_) (fun qW=>?_)<;>(try simp only [bS] at qW)
     ·rw [if_pos (.inr (by omega))] at cd
      obtain rfl:=Option.some.inj cd
      refine gq cr ?_
      refine ab.bO ?_
      refine gq cr ?_
      refine fq ?_
      exact⟨[],.aJ (Pure.bT nC),trivial,rfl⟩
     ·rw [if_neg (by omega)] at cd
      split at cd
      ·cases cd
      rename_i tx u3 Az
      have c2:=CU (w0:=w0) (ρ:=ρ) (vs:=vs) (kn:=ke) hN dz jy _ gu Az
      have oe:u3.length=ul:=by rw [r7 M _ _ _ _ Az,gu]
      rw [<-CP] at c2
      refine gq cr ?_
      refine ab.op rfl (ad.iz c2 rfl (Nat.le_of_ble_eq_true rfl) (bW (by decide)) (jB) (bW (by decide)) (mB (by decide) .v) (Pure.bT (dN tx))) ?_
      refine gq cr ?_
      refine ab.app (x:=(⟨v,tx⟩:Bd)) (f:=pC ρ) rfl rfl rfl aH (fun _=>rfl) rfl rfl rfl rfl (by omega) (fun dk oa yp p_=>?_)
      refine gq cr ?_
      refine bH (fun i3 Ki=>?_)
      refine gq cr ?_
      refine ab.d_ (σ:=Int × List Nat × List Bd × Nat) (i3,u3,dk,oa) [(9,11)] ⟨i+1,by simp only;omega,by omega,oe,p_,by simp only;rw [yp,List.length_append,List.length_singleton];omega,by simp only;rw [yp];exact cd⟩ ?_ (by exact⟨sq,rfl,M8,rfl,rfl,rfl⟩)
      simp only;omega
   ·refine gq cr ?_
    refine ab.RA (ρ:=ρ) (f:=iv) (kv:=ls) (z0:=0) rfl rfl rfl rfl rfl (fun lv hlv=>?_)
    refine gq cr ?_
    refine bq (fun oQ=>?_) (fun oQ=>?_)<;>(try simp only [bS] at oQ)
    ·rw [if_pos ⟨Au,by rw [<-hlv];exact oQ⟩] at cd
     refine gq cr ?_
     refine bH (fun i3 Ki=>?_)
     refine gq cr ?_
     refine ab.d_ (σ:=Int × List Nat × List Bd × Nat) (i3,u2,acc,al) [(9,9)] ⟨i+1,by simp only;omega,by omega,gu,aH,by simp only;omega,cd⟩ ?_ (by exact⟨sq,rfl,M8,rfl,rfl,rfl⟩)
     simp only;omega
    ·rw [if_neg (by rintro⟨_,h⟩;rw [<-hlv] at h;exact oQ h)] at cd
     refine gq cr ?_
     refine ab.Kt (ρ:=ρ) (f:=vL) (kv:=ke) (z0:=(0,0)) rfl rfl rfl rfl rfl (fun q2 nB=>?_)
     rw [<-nB] at cd
     obtain⟨q3,q4⟩:=q2
     simp only at cd
     refine gq cr ?_
     refine bq (fun Ku=>?_) (fun Ku=>?_)<;>(try simp only [bS] at Ku)
     ·rw [if_pos (.inl (by omega))] at cd
      obtain rfl:=Option.some.inj cd
      refine gq cr ?_
      refine ab.bO ?_
      refine gq cr ?_
      refine fq ?_
      exact⟨[],.aJ (Pure.bT nC),trivial,rfl⟩
     ·refine gq cr ?_
      refine bq (fun qW=>?_) (fun qW=>?_)<;>(try simp only [bS] at qW)
      ·rw [if_pos (.inr (by omega))] at cd
       obtain rfl:=Option.some.inj cd
       refine gq cr ?_
       refine ab.bO ?_
       refine gq cr ?_
       refine fq ?_
       exact⟨[],.aJ (Pure.bT nC),trivial,rfl⟩
      ·rw [if_neg (by omega)] at cd
       split at cd
       ·cases cd
       rename_i tx u3 Az
       have c2:=CU (w0:=w0) (ρ:=ρ) (vs:=vs) (kn:=ke) hN dz jy _ gu Az
       have oe:u3.length=ul:=by rw [r7 M _ _ _ _ Az,gu]
       rw [<-CP] at c2
       refine gq cr ?_
       refine ab.op rfl (ad.iz c2 rfl (Nat.le_of_ble_eq_true rfl) (bW (by decide)) (jB) (bW (by decide)) (mB (by decide) .v) (Pure.bT (dN tx))) ?_
       refine gq cr ?_
       refine ab.app (x:=(⟨v,tx⟩:Bd)) (f:=pC ρ) rfl rfl rfl aH (fun _=>rfl) rfl rfl rfl rfl (by omega) (fun dk oa yp p_=>?_)
       refine gq cr ?_
       refine bH (fun i3 Ki=>?_)
       refine gq cr ?_
       refine ab.d_ (σ:=Int × List Nat × List Bd × Nat) (i3,u3,dk,oa) [(9,11)] ⟨i+1,by simp only;omega,by omega,oe,p_,by simp only;rw [yp,List.length_append,List.length_singleton];omega,by simp only;rw [yp];exact cd⟩ ?_ (by exact⟨sq,rfl,M8,rfl,rfl,rfl⟩)
       simp only;omega
  ·have lf:i=L.length:=by omega
   rw [lf,List.drop_of_length_le (Nat.le_refl _),oU] at cd
   obtain rfl:=Option.some.inj cd
   refine gq cr ?_
   refine ab.bh ?_
   refine ab.TH (ab.Zf (Cv.freeze (t:=8) (k:=9) (rows:=ρ.h (List.map (pC ρ)) acc) (fz:=0) (ex:=false) rfl rfl (.inl rfl) (by rw [aF];exact aH) (Nat.zero_le _)) ?_)
   refine gq cr ?_
   refine fq ?_
   exact⟨[],.aJ (Pure.bT nC),trivial,rfl⟩
end
end
section
set_option maxRecDepth 100000
theorem iE (c:Int):Pure (.aC [.sl true [],iv c]):=.aC fun a ha=>by
 simp only [List.mem_cons,List.not_mem_nil,or_false] at ha
 rcases ha with rfl|rfl
 ·exact .sl fun r hr=>by cases hr
 ·exact .v
section
variable {w0:World}{ρ:Hd}
theorem M_ {l r:List Tm}(og:av Tryz.prog w0 336 [tl ρ l] (.v (.bool false))):aE Tryz.prog w0 292 [tl ρ l,tl ρ r] (au [] 0) (.aC [.sl true [],iv 2]) (au [] 0):=by
 refine bQ.jl 0 0 _ AP (by simp [Tryz.ntmps292]) rfl rfl ?_
 refine gq dR ?_
 refine ab.op rfl (ad.b9 rfl og ⟨cy _,trivial⟩) ?_
 refine gq dR ?_
 refine fq ?_
 exact⟨[],.aJ (Pure.bT (iE 2)),trivial,rfl⟩
theorem Na {l r:List Tm}(og:av Tryz.prog w0 336 [tl ρ l] (.v (.bool true))) (qX:av Tryz.prog w0 336 [tl ρ r] (.v (.bool false))):aE Tryz.prog w0 292 [tl ρ l,tl ρ r] (au [] 0) (.aC [.sl true [],iv 2]) (au [] 0):=by
 refine bQ.jl 0 0 _ AP (by simp [Tryz.ntmps292]) rfl rfl ?_
 refine gq dR ?_
 refine ab.op rfl (ad.b9 rfl og ⟨cy _,trivial⟩) ?_
 refine gq dR ?_
 refine ab.op rfl (ad.b9 rfl qX ⟨cy _,trivial⟩) ?_
 refine gq dR ?_
 refine fq ?_
 exact⟨[],.aJ (Pure.bT (iE 2)),trivial,rfl⟩
theorem Nb {l r:List Tm}(og:av Tryz.prog w0 336 [tl ρ l] (.v (.bool true))) (qX:av Tryz.prog w0 336 [tl ρ r] (.v (.bool true))) (hlen:l.length ≠ r.length):aE Tryz.prog w0 292 [tl ρ l,tl ρ r] (au [] 0) (.aC [.sl true [],iv 9]) (au [] 0):=by
 refine bQ.jl 0 0 _ AP (by simp [Tryz.ntmps292]) rfl rfl ?_
 refine gq dR ?_
 refine ab.op rfl (ad.b9 rfl og ⟨cy _,trivial⟩) ?_
 refine gq dR ?_
 refine ab.op rfl (ad.b9 rfl qX ⟨cy _,trivial⟩) ?_
 refine gq dR ?_
 refine bK fun q1 xH=>?_
 rw [aF] at xH
 refine gq dR ?_
 refine bK fun q2 nB=>?_
 rw [aF] at nB
 refine gq dR ?_
 refine bq (fun fA=>?_) (fun fA=>?_)<;>(try simp only [bS] at fA)
 rotate_left
 ·exfalso;omega
 refine gq dR ?_
 refine fq ?_
 exact⟨[],.aJ (Pure.bT (iE 9)),trivial,rfl⟩
end
end
section
set_option maxRecDepth 100000
attribute [local irreducible] av aE ad ab
section
variable {w0:World}{ρ:Hd}
theorem m9 {l r:List Tm}{ex:Bool}{rows:List (List AV)}{cc:Int}(hp:Pure (.aC [.sl ex rows,iv cc])) (h:aE Tryz.prog w0 292 [tl ρ l,tl ρ r] (au [] 0) (.aC [.sl ex rows,iv cc]) (au [] 0)):av Tryz.prog w0 292 [tl ρ l,tl ρ r] (.aC [.sl ex rows,iv cc]) :=
 av.Jz (S':=au [] 0) h (.refl _) hp
end
end
section
set_option maxRecDepth 100000
def uw (N:aU):Prop:=∀ i,i < N.length->(tn N i).k=1->0<=(tn N i).i/\(tn N i).i<=1099511627776
theorem uw.push {N:aU}(h:uw N) {t:Tm}{l:List Nat}(ht:t.k=1->0<=t.i/\t.i<=1099511627776):uw (N++[(t,l)]):=by
 intro i hi hk
 by_cases e:i < N.length
 ·have hp:∀ i,i < N.length->(N++[(t,l)])[i]?=N[i]?:=fun i hi=>List.getElem?_append_left hi
  rw [(cT hp e).1] at hk ⊢
  exact h i e hk
 ·have:i=N.length:=by rw [List.length_append,List.length_singleton] at hi;omega
  subst this
  rw [g_.1] at hk ⊢
  exact ht hk
mutual
theorem qY:∀ (N:aU) (t:Tm),uw N->vA t->uw (jF N t).1
 |N,⟨k,i,n,a⟩,h,ht=>by
  rw [vA] at ht
  rw [jF]
  split
  ·exact h
  ·exact (Dd N a h ht.2).push ht.1
theorem Dd:∀ (N:aU) (l:List Tm),uw N->rQ l->uw (dC N l).1
 |N,[],h,_=>by rw [dC];exact h
 |N,x::l,h,ht=>by
  rw [rQ] at ht
  rw [dC]
  exact Dd _ l (qY N x h ht.1) ht.2
end
theorem my.vb {l:List (Tm × Tm)}{s s':PS}{b:Bool}(h:my l s b s'):GI s->uw s.N->(∀ e ∈ l,(dP e.1/\iy e.1/\vA e.1)/\dP e.2/\iy e.2/\vA e.2)->GI s'/\uw s'.N:=by
 induction h with
 |nil=>exact fun h1 h2 _=>⟨h1,h2⟩
 |@no a b l s j m h =>
  intro h1 h2 he
  obtain⟨⟨w1,a1,v1⟩,w2,a2,v2⟩:=he (a,b) (by simp)
  simp only at w1 a1 v1 w2 a2 v2
  have g1:=(h1.add w1 a1).1
  have g2:=(g1.add w2 a2).1
  have e1:=(lT s a h1.V w1).1
  have e2:=(lT (a6 s a).1 b g1.V w2).1
  refine⟨g2.join h,?_⟩
  show uw (a6 (a6 s a).1 b).1.N
  rw [e2]
  refine qY _ _ ?_ v2
  rw [e1]
  exact qY _ _ h2 v1
 |@go a b l s s' j m r h k ih =>
  intro h1 h2 he
  obtain⟨⟨w1,a1,v1⟩,w2,a2,v2⟩:=he (a,b) (by simp)
  simp only at w1 a1 v1 w2 a2 v2
  have g1:=(h1.add w1 a1).1
  have g2:=(g1.add w2 a2).1
  have e1:=(lT s a h1.V w1).1
  have e2:=(lT (a6 s a).1 b g1.V w2).1
  refine ih (g2.join h) ?_ fun e hx=>he e (by simp [hx])
  show uw (a6 (a6 s a).1 b).1.N
  rw [e2]
  refine qY _ _ ?_ v2
  rw [e1]
  exact qY _ _ h2 v1
theorem Kv:∀ {l m:List Int},l.Nodup->(∀ x ∈ l,x ∈ m)->l.length<=m.length
 |[],m,_,_=>Nat.zero_le _
 |x::l,m,hn,hs=>by
  rw [List.nodup_cons] at hn
  have h1:=Kv (l:=l) (m:=m.erase x) hn.2 fun y hy=>(List.mem_erase_of_ne (fun e=>hn.1 (by rw [<-e];exact hy))).2 (hs y (by simp [hy]))
  have h2:=List.length_erase_of_mem (hs x (by simp))
  have h3:0 < m.length:=List.length_pos_of_mem (hs x (by simp))
  rw [List.length_cons]
  omega
noncomputable def IF (l r:List Tm):List Bd × Int:=if (l.any fun x=>!(eM x))=true then ([],2) else if (r.any fun x=>!(eM x))=true then ([],2) else if l.length=r.length then qc oV (l.zip r) else ([],9)
def zh (ρ:Hd) (p:List Bd × Int):AV:=.aC [DZ ρ p.1,iv p.2]
theorem kq {ρ:Hd}(p:List Bd × Int):Pure (zh ρ p):=.aC (yH (oR _) .v)
theorem qZ {ρ:Hd}{S:aa}{c:Int}:bX S (.aC [.sl true [],iv c]) (zh ρ ([],c)):=by
 refine .aC rfl fun i a a' h1 h2=>?_
 match i with
 |0 =>
  obtain rfl:=Option.some.inj h1
  obtain rfl:=Option.some.inj h2
  rw [DZ,ij]
  exact bX.wk
 |1 =>
  obtain rfl:=Option.some.inj h1
  obtain rfl:=Option.some.inj h2
  exact .refl _
 |i+2=>simp at h1
theorem Kw:∀ (E:List (Tm × Tm)),(∀ e ∈ E,gp e.1<=200/\gp e.2<=200)->sw E<=400*E.length
 |[],_=>by simp [sw]
 |e::E,h=>by
  have h1:=h e (by simp)
  have h2:=Kw E fun x hx=>h x (by simp [hx])
  rw [sw,List.length_cons]
  omega
theorem av.fz {P:Program}{w0:World}{g:Nat}{l:List AV}{r r':AV}(h:av P w0 g l r) (hf:∀ S,bX S r r') (hp:Pure r'):av P w0 g l r':=by
 obtain⟨_,S',h2⟩:=h
 exact av.Jz h2 (hf _) hp
section
variable {w0:World}{ρ:Hd}
theorem T6 {l r:List Tm}(hl:l.length<=100000000) (hr:r.length<=100000000) (vP:∀ x ∈ l,x.ok) (jv:∀ x ∈ r,x.ok):av Tryz.prog w0 292 [tl ρ l,tl ρ r] (zh ρ (IF l r)):=by
 have og:=C4 (w0:=w0) (ρ:=ρ) l (by omega) vP
 have qX:=C4 (w0:=w0) (ρ:=ρ) r (by omega) jv
 unfold IF
 by_cases c1:(l.any fun x=>!(eM x))=true
 ·rw [if_pos c1]
  rw [c1] at og
  exact av.fz (m9 (iE 2) (M_ og)) (fun S=>qZ) (kq _)
 rw [if_neg c1]
 rw [Bool.not_eq_true] at c1
 rw [c1] at og
 by_cases c2:(r.any fun x=>!(eM x))=true
 ·rw [if_pos c2]
  rw [c2] at qX
  exact av.fz (m9 (iE 2) (Na og qX)) (fun S=>qZ) (kq _)
 rw [if_neg c2]
 rw [Bool.not_eq_true] at c2
 rw [c2] at qX
 by_cases c3:l.length=r.length
 rotate_left
 ·rw [if_neg c3]
  exact av.fz (m9 (iE 9) (Nb og qX c3)) (fun S=>qZ) (kq _)
 rw [if_pos c3]
 have vN:∀ x ∈ l,dP x/\iy x/\yS x/\vA x/\gp x<=200:=fun x hx=>z8 (by
  have:=List.any_eq_false.1 c1 x hx
  simpa using this) (vP x hx)
 have vO:∀ x ∈ r,dP x/\iy x/\yS x/\vA x/\gp x<=200:=fun x hx=>z8 (by
  have:=List.any_eq_false.1 c2 x hx
  simpa using this) (jv x hx)
 have hE:∀ e ∈ l.zip r,e.1 ∈ l/\e.2 ∈ r:=fun e he=>⟨(List.of_mem_zip he).1,(List.of_mem_zip he).2⟩
 have aZ:sw (l.zip r)<=100000000000:=by
  have:=Kw (l.zip r) fun e he=>⟨(vN _ (hE e he).1).2.2.2.2,(vO _ (hE e he).2).2.2.2.2⟩
  rw [List.length_zip] at this
  omega
 obtain⟨b,s',hA,hf,ht⟩:=Q1 (l.zip r) (fun e he=>⟨⟨(vN _ (hE e he).1).1,(vN _ (hE e he).1).2.1⟩,(vO _ (hE e he).2).1,(vO _ (hE e he).2).2.1⟩) aZ
 have Nc:∀ x ∈ l,dP x/\iy x:=fun x hx=>⟨(vN x hx).1,(vN x hx).2.1⟩
 have Nf:∀ x ∈ r,dP x/\iy x:=fun x hx=>⟨(vO x hx).1,(vO x hx).2.1⟩
 have bad:(b=true->aE Tryz.prog w0 340 [.pt 0 6 0 0] (au (gS ρ s' []) 7) (.aC [.sl true [],iv 13]) (au [] 7))->qc oV (l.zip r)=([],13)->av Tryz.prog w0 292 [tl ρ l,tl ρ r] (zh ρ (qc oV (l.zip r))):=fun h1 h2=>by
  rw [h2]
  exact av.fz (m9 (iE 13) (ID (by omega) og qX Nc Nf c3 aZ hA (.sl fun r hr=>by cases hr) (fun _=>⟨⟨rfl,rfl⟩,rfl⟩) h1)) (fun S=>qZ) (kq _)
 cases b with
 |false=>exact bad (fun h=>by cases h) (hf rfl)
 |true =>
  obtain⟨hV,pM,hle,b2,up,kn,hm,T7,T8⟩:=ht rfl
  obtain⟨yo,T9⟩:=hA.vb .nil (fun i hi=>by cases hi) fun e he=>⟨⟨(vN _ (hE e he).1).1,(vN _ (hE e he).1).2.1,(vN _ (hE e he).1).2.2.2.1⟩,(vO _ (hE e he).2).1,(vO _ (hE e he).2).2.1,(vO _ (hE e he).2).2.2.2.1⟩
  have IC:∀ x ∈ s'.vs.map (·.1),∃ i,i < s'.N.length/\(tn s'.N i).k=1/\(tn s'.N i).i=x:=fun x hx=>by
   obtain⟨k,hk⟩:=nu.1 hx
   rw [hV.vs] at hk
   cases hv:jE s'.N x with
   |none=>rw [hv] at hk;cases hk
   |some j=>exact⟨j,tr hv⟩
  have O9:∀ x ∈ s'.vs.map (·.1),0<=x/\x<=1099511627776:=fun x hx=>by
   obtain⟨i,h1,h2,h3⟩:=IC x hx
   have:=T9 i h1 h2
   rw [h3] at this
   exact this
  have T4:s'.vs.length<=s'.N.length:=by
   have:=Kv (l:=s'.vs.map (·.1)) (m:=s'.N.map fun x=>x.1.i) hV.nd fun x hx=>by
    obtain⟨i,h1,h2,h3⟩:=IC x hx
    refine List.mem_map.2 ⟨s'.N[i],List.getElem_mem h1,?_⟩
    rw [<-h3]
    unfold tn
    rw [List.getElem?_eq_getElem h1]
    rfl
   rwa [List.length_map,List.length_map] at this
  obtain⟨N,vs,⟨OH,sh,ls⟩⟩:=s'
  simp only at hV pM hle hm T7 T8 yo T9 O9 T4
  have hu:OH.length=N.length:=hV.up
  have hG:∀ {R:AV},Pure R->(b2=false->R=.aC [.sl true [],iv 13])->(b2=true->∃ L M ro,qF L/\(∀ v,v ∈ L ↔ v ∈ vs.map (·.1))/\L.length<=100000000000/\oU N sh ls vs kn M L up []=some ro/\R=T1 ρ ro) ->
    aE Tryz.prog w0 340 [.pt 0 6 0 0] (au (gS ρ ⟨N,vs,⟨OH,sh,ls⟩⟩ []) 7) R (au [] 7):=fun hp h1 h2=>by
   rw [<-eD (nl:=N.length) (ul:=N.length) rfl hu]
   exact M9 (zY.of yo.G yo.A) rfl (by simp only at *;omega) (by simp only at *;omega) hu (by simp only at *;omega) hV.nd O9 hm hp h1 h2
  cases b2 with
  |false=>exact bad (fun _=>hG (iE 13) (fun _=>rfl) fun h=>by cases h) (T7 rfl)
  |true =>
   have hs:=List.mergeSort_perm (vs.map (·.1)) (fun x y=>decide (x<=y))
   obtain⟨L,hL⟩:∃ L,L=(vs.map (·.1)).mergeSort (fun x y=>decide (x<=y)):=⟨_,rfl⟩
   have Db:qF L:=by
    rw [hL]
    refine nR ?_ (hs.nodup_iff.2 hV.nd)
    have:=List.pairwise_mergeSort (le:=fun x y:Int=>decide (x<=y)) (fun a b c h1 h2=>by simp only [decide_eq_true_eq] at *;omega) (fun a b=>by simp only [Bool.or_eq_true,decide_eq_true_eq];omega) (vs.map (·.1))
    exact this.imp fun h=>by simpa using h
   have fI:∀ v,v ∈ L ↔ v ∈ vs.map (·.1):=fun v=>by rw [hL];exact hs.mem_iff
   have Kq:L.length<=100000000000:=by rw [hL,List.length_mergeSort,List.length_map];omega
   obtain⟨M,ro,ho,he⟩:=T8 rfl L Db fI
   rw [he]
   cases ro with
   |none =>
    exact av.fz (m9 (iE 6) (ID (by omega) og qX Nc Nf c3 aZ hA (.sl fun r hr=>by cases hr) (fun h=>by cases h) fun _=>hG (iE 6) (fun h=>by cases h) fun _=>⟨L,M,none,Db,fI,Kq,ho,rfl⟩)) (fun S=>qZ) (kq _)
   |some o =>
    exact m9 (kq (o,0)) (ID (by omega) og qX Nc Nf c3 aZ hA (oR o) (fun h=>by cases h) fun _=>hG (kq (o,0)) (fun h=>by cases h) fun _=>⟨L,M,some o,Db,fI,Kq,ho,rfl⟩)
end
end
end Go.Proofs.YtgjfgekaclobaaaGreat
