import Derived.Test.YtgjfgekaclobaaaGreatCa46
namespace Go.Proofs.YtgjfgekaclobaaaGreat
set_option linter.unusedVariables false
set_option linter.unusedSimpArgs false
open Go.RowKit
section
set_option maxRecDepth 100000
attribute [local irreducible] ah aK ae aa
def VL:CF Tryz.f297:=⟨_,by conv=>lhs;cbv⟩
theorem Nu:aT Tryz.prog 297 VL.1 Tryz.f297.ntmps:=bX Tryz.func297 VL.2 Tryz.call297
def yn:List Nat:=[0,2,4]
def VM:CF Tryz.f349:=⟨_,by conv=>lhs;cbv⟩
theorem agL:aT Tryz.prog 349 VM.1 Tryz.f349.ntmps:=bX Tryz.func349 VM.2 Tryz.call349
def S_:List Nat:=[1,0,3,21]
def VN:CF Tryz.f308:=⟨_,by conv=>lhs;cbv⟩
theorem agM:aT Tryz.prog 308 VN.1 Tryz.f308.ntmps:=bX Tryz.func308 VN.2 Tryz.call308
def ali:List Nat:=[2,0,1]
def VO:CF Tryz.f350:=⟨_,by conv=>lhs;cbv⟩
theorem agN:aT Tryz.prog 350 VO.1 Tryz.f350.ntmps:=bX Tryz.func350 VO.2 Tryz.call350
def Nv:List Nat:=[2,4,6,1,0,7,14]
def VP:CF Tryz.f311:=⟨_,by conv=>lhs;cbv⟩
theorem VQ:aT Tryz.prog 311 VP.1 Tryz.f311.ntmps:=bX Tryz.func311 VP.2 Tryz.call311
def mz:List Nat:=[5,11,6,4,0,10,12,1]
def PO (k n:Int):Int:=if (0 < k/\IntKind.i64.wrap (9223372036854775807 - k) < n)\/(k < 0/\n < IntKind.i64.wrap (-9223372036854775808 - k)) then n else IntKind.i64.wrap (n+k)
mutual
def uK (k:Int):Tm->Tm
 |⟨kd,i,n,a⟩=>if kd=1 then ⟨kd,PO k i,n,a⟩ else if kd=2 then ⟨kd,i,n,HB k a⟩ else ⟨kd,i,n,a⟩
def HB (k:Int):List Tm->List Tm
 |[]=>[]
 |x::l=>uK k x::HB k l
end
theorem HC (k:Int):∀ l,HB k l=l.map (uK k)
 |[]=>by rw [HB];rfl
 |x::l=>by rw [HB,HC k l];rfl
theorem yo:∀ l:List Tm,l.length<=cN l
 |[]=>by rw [cN];exact Nat.le_refl _
 |x::l=>by
  have:=yo l
  have h:=Hs x
  rw [cN,List.length_cons]
  omega
theorem ah.fz3 {P:Program}{w0:World}{g:Nat}{l:List AV}{r r':AV}(h:ah P w0 g l r) (hf:∀ S,bp S r r') (hp:Pure r'):ah P w0 g l r':=by
 unfold ah at h
 obtain⟨_,S',h2⟩:=h
 exact ah.xm h2 (hf _) hp
theorem VR {ρ:Hd}(l:List Tm):cE ρ (lh ρ) false l=tl ρ l:=by
 rw [tl,cO,cO]
 congr 1
 exact List.map_congr_left fun x _=>(sP x).symm
theorem Ta {S:ad}{ρ:Hd}:bp S (.sl true []) (tl ρ []):=by rw [tl,cO];exact bp.wk
theorem AO {ρ:Hd}{B sz:Nat}{ex:Bool}(l:List Tm):fV B (.arr sz (ρ.h (List.map (lh ρ)) l) 0 ex):=yF fun x _ a ha=>pb x a ha
theorem PQ {ρ:Hd}(l:List Tm):∀ row ∈ ρ.h (List.map (lh ρ)) l,∀ a ∈ row,Pure a:=by
 rw [ρ.eq]
 intro row hr a ha
 obtain⟨x,_,rfl⟩:=List.mem_map.1 hr
 exact pb x a ha
theorem pA (k:Int):Pure (.fn (.func 349) [] [.ip [iv k]]):=.fn (fun a ha=>by cases ha) fun a ha=>by obtain rfl:=List.mem_singleton.1 ha;exact .ip fun b hb=>by obtain rfl:=List.mem_singleton.1 hb;exact .v
section
variable {w0:World}{ρ:Hd}
theorem H_ (A:Option Addr) (c:Nat):ah Tryz.prog w0 297 [.v (.slice A 0 c)] (.sl true []):=by
 cases A with
 |none =>
  refine Nu.bu (by simp [Tryz.ntmps297]) ((.sl fun r h=>by cases h)) ?_
  refine gq yn ?_
  refine aa.op rfl (ae.nil (b:=true) rfl rfl) ?_
  refine gq yn ?_
  refine fq ?_
  exact .refl _
 |some A =>
  refine Nu.bu (by simp [Tryz.ntmps297]) ((.sl fun r h=>by cases h)) ?_
  refine gq yn ?_
  refine aa.op rfl (ae.nil (b:=false) rfl rfl) ?_
  refine gq yn ?_
  refine aa.op rfl (ae.BX rfl rfl) ?_
  refine gq yn ?_
  refine fq ?_
  exact .refl _
theorem PR:ah Tryz.prog w0 297 [tl ρ []] (tl ρ []):=by
 have h:ah Tryz.prog w0 297 [tl ρ []] (.sl true []):=by
  rw [tl,cO]
  exact ah.emp H_
 exact ah.fz3 h (fun S=>Ta) (bl _)
theorem PT (x:Tm) (l:List Tm) (hl:(x::l).length<=100000000000):aK Tryz.prog w0 297 [tl ρ (x::l)] (au [] 0) (.gr 0 4 (x::l).length) (au [(0,.arr 4 (ρ.h (List.map (lh ρ)) (x::l)) 0 false)] 1):=by
 obtain⟨R,hR⟩:∃ R,R=x::l:=⟨_,rfl⟩
 have vf:xv (cE ρ (lh ρ) false R)=some false:=by rw [hR,cO];rfl
 rw [<-hR] at hl ⊢
 rw [<-VR]
 refine aT.fM 0 1 _ Nu (by simp [Tryz.ntmps297]) rfl rfl ?_
 refine gq yn ?_
 refine aa.op rfl (ae.nil vf rfl) ?_
 refine gq yn ?_
 refine aa.J6 (f:=lh ρ) (ys:=R) rfl rfl rfl (fun _=>rfl) (by omega) fun acc len kV hlen=>?_
 have hlen:len=R.length:=by rw [hlen,kV]
 subst kV
 rw [<-hlen]
 refine gq yn ?_
 refine fq ?_
 exact⟨[(0,0)],.jc rfl rfl,⟨.inl ⟨_,rfl,.same (AO _)⟩,trivial⟩,rfl⟩
theorem agO (k n:Int):ah Tryz.prog w0 349 [iv n,.ip [iv k]] (iv (PO k n)):=by
 obtain⟨R,hR⟩:∃ R,R=PO k n:=⟨_,rfl⟩
 rw [<-hR]
 unfold PO at hR
 refine agL.bu (by simp [Tryz.ntmps349]) (.v) ?_
 refine gq S_ ?_
 repeat' (first
  |(refine aa.int rfl (ae.YY rfl rfl rfl) fun _ _=>?_;refine gq S_ ?_)
  |(refine bq (fun hb=>?_) (fun hb=>?_)<;>(try simp only [aM] at hb)<;>(first|refine gq S_ ?_))
  |(refine fq ?_))
 all_goals (refine oU ?_;rw [hR];split<;>omega)
theorem alj (k:Int):ah Tryz.prog w0 308 [iv k] (.fn (.func 349) [] [.ip [iv k]]):=by
 refine agM.bu (by simp [Tryz.ntmps308]) ((pA k)) ?_
 refine gq ali ?_
 repeat' (first
  |(refine fq ?_))
 exact bp.fns trivial ⟨bp.box (cs:=[iv k]) (cs':=[iv k]) rfl ⟨.refl _,trivial⟩,trivial⟩
theorem EG {f:Tm->Tm}{k:Int}(a:List Tm) (hl:a.length<=100000000000) (ih:∀ x ∈ a,ah Tryz.prog w0 350 [tm ρ x,.fn (.func 349) [] [.ip [iv k]]] (tm ρ (f x))) :
  ah Tryz.prog w0 311 [tl ρ a,.fn (.func 349) [] [.ip [iv k]]] (tl ρ (a.map f)):=by
 have yp:=pA k
 cases a with
 |nil =>
  have hc:=PR (w0:=w0) (ρ:=ρ)
  refine VQ.bu (by simp [Tryz.ntmps311]) ((bl _)) ?_
  refine gq mz ?_
  repeat' (first
   |((refine aa.op rfl (ae.aL rfl hc ⟨bl _,trivial⟩) ?_;refine gq mz ?_))
   |(refine bL fun m hm=>?_;(try rw [aF] at hm);refine gq mz ?_)
   )
  refine aa.bP (σ:=Int) 0 0 [] (fun p=>[(5,tl ρ []),(10,.v (.int .i64 m)),(11,.v (.int .i64 p))]) [] (fun _=>[]) (fun p=>p=0) (fun p=>0) 0 rfl rfl cq ?_
  rintro i rfl
  refine gq mz ?_
  repeat' (first
   |(refine bq (fun hb=>?_) (fun hb=>?_)<;>(try simp only [aM] at hb)<;>(first|refine gq mz ?_))
   |(refine aa.aR ?_;refine gq mz ?_)
   |(refine fq ?_))
  all_goals first
   |(exfalso;simp only [List.length_nil] at hm;omega)
   |exact .refl _
 |cons x0 l0 =>
 have hc:=PT (w0:=w0) (ρ:=ρ) x0 l0 hl
 obtain⟨a,ha⟩:∃ a,a=x0::l0:=⟨_,rfl⟩
 rw [<-ha] at hc hl ih ⊢
 clear ha
 obtain⟨R,hR⟩:∃ R,R=a.map f:=⟨_,rfl⟩
 rw [<-hR]
 obtain⟨al,aO⟩:∃ n,n=a.length:=⟨_,rfl⟩
 rw [<-aO] at hc
 refine VQ.bu (by simp [Tryz.ntmps311]) ((bl _)) ?_
 refine gq mz ?_
 refine aa.op rfl (ae.oK [] [(0,some (.arr 4 (ρ.h (List.map (lh ρ)) a) 0 false))] hc rfl ⟨.pure (bl _),trivial⟩ (.gr rfl) trivial ⟨⟨0,_,rfl,rfl,.pure (PQ _)⟩,trivial⟩) ?_
 refine gq mz ?_
 refine aa.int rfl (ae.qk rfl) fun m hm=>?_
 refine gq mz ?_
 refine aa.bP (σ:=Int × List Tm) 1 1 [] (fun p=>[(1,.fn (.func 349) [] [.ip [iv k]]),(5,.gr 0 4 al),(10,.v (.int .i64 m)),(11,.v (.int .i64 p.1))]) [] (fun p=>[(0,.arr 4 (ρ.h (List.map (lh ρ)) p.2) 0 false)])
  (fun p=>∃ j:Nat,p.1=j/\j<=a.length/\p.2.length=a.length/\p.2=(a.take j).map f++a.drop j) (fun p=>a.length - p.1.toNat) (0,a) ⟨0,rfl,by simp,rfl,by simp⟩ rfl (by exact⟨sq,rfl,⟨.inl ⟨_,rfl,.same (AO _)⟩,trivial⟩,rfl,rfl,rfl⟩) ?_
 rintro⟨i,cur⟩ ⟨j,hi,hk,lf,hp⟩
 simp only at hi lf hp
 refine gq mz ?_
 refine bq (fun eB=>?_) (fun eB=>?_)<;>(try simp only [aM] at eB)
 rotate_left
 ·refine gq mz ?_
  refine aa.aR ?_
  refine gq mz ?_
  refine aa.fin (by conv=>lhs;cbv) ?_
  have h:R=cur:=by rw [hR,hp,List.drop_of_length_le (by omega),List.take_of_length_le (by omega),List.append_nil]
  rw [h,<-VR]
  exact bp.grow rfl (by omega)
 obtain⟨x,hx,cg⟩:=cd (l:=a) (k:=j) (by omega)
 have jw:cur[j]?=some x:=by
  have hl:((a.take j).map f).length=j:=by rw [List.length_map,List.length_take];omega
  rw [hp,List.getElem?_append_right (by omega),hl,Nat.sub_self,cg];rfl
 have pY:j < a.length:=by omega
 have dv:=ih x (g8 hx)
 obtain⟨X,hX⟩:∃ X,X=f x:=⟨_,rfl⟩
 rw [<-hX] at dv
 obtain⟨xk,xi,xn,xa⟩:=x
 have rx:=fU (ρ:=ρ) (f:=lh ρ) jw
 rw [lh] at rx
 simp only at rx
 refine gq mz ?_
 refine aa.op rfl (ae.jU rfl rfl hi (by omega)) ?_
 refine aa.op rfl (ae.oX rfl rfl rx rfl) ?_
 refine gq mz ?_
 refine aa.op rfl (ae.aL rfl dv ⟨cK ⟨xk,xi,xn,xa⟩,yp,trivial⟩) ?_
 refine gq mz ?_
 refine aa.op rfl (ae.jU rfl rfl hi (by omega)) ?_
 refine aa.Kx (f:=lh ρ) (y:=X) rfl rfl rfl rfl rfl (fun _=>rfl) rfl (by omega) (fun HD tp=>?_)
 refine gq mz ?_
 refine cr (fun i3 td=>?_)
 refine gq mz ?_
 refine aa.bm (σ:=Int × List Tm) (i3,HD) [] ⟨j+1,by simp only;omega,by omega,by simp only;rw [tp,List.length_set];exact lf,?_⟩ ?_ (by exact⟨sq,rfl,⟨.inl ⟨_,rfl,.same (AO _)⟩,trivial⟩,rfl,rfl,rfl⟩)
 ·simp only
  have hl:((a.take j).map f).length=j:=by rw [List.length_map,List.length_take];omega
  rw [tp,hp,List.set_append_right _ _ (by omega),hl,Nat.sub_self,cg,List.set_cons_zero,List.take_add_one,hx,List.map_append,hX]
  simp
 ·simp only;omega
theorem PU (k:Int) (n:Nat):∀ x:Tm,fX x<=n->n<=100000000000->ah Tryz.prog w0 350 [tm ρ x,.fn (.func 349) [] [.ip [iv k]]] (tm ρ (uK k x)):=by
 induction n with
 |zero=>intro x h;have:=Hs x;omega
 |succ n ih =>
  intro x hn wb
  rw [Hs] at hn
  have aO:=yo x.a
  have yp:=pA k
  have l4:=EG (w0:=w0) (ρ:=ρ) (f:=uK k) (k:=k) x.a (by omega) fun y hy=>ih y (by have:=q_ y hy;omega) (by omega)
  have jn:=agO (w0:=w0) k x.i
  obtain⟨R,hR⟩:∃ R,R=uK k x:=⟨_,rfl⟩
  rw [<-hR]
  obtain⟨kd,i,nm,a⟩:=x
  rw [uK,HC] at hR
  simp only at l4 jn hR
  clear ih hn wb aO
  obtain⟨A,hA⟩:∃ A,A=a.map (uK k):=⟨_,rfl⟩
  rw [<-hA] at l4 hR
  obtain⟨B,hB⟩:∃ B,B=PO k i:=⟨_,rfl⟩
  rw [<-hB] at jn hR
  refine agN.bu (by simp [Tryz.ntmps350]) ((cK _)) ?_
  refine gq Nv ?_
  repeat' (first
   |((refine aa.op rfl (ae.aL rfl l4 ⟨bl _,yp,trivial⟩) ?_;refine gq Nv ?_))
   |((refine aa.op rfl (ae.aL rfl jn ⟨.v,.ip fun b hb=>(by obtain rfl:=List.mem_singleton.1 hb;exact .v),trivial⟩) ?_;refine gq Nv ?_))
   |(refine bq (fun hb=>?_) (fun hb=>?_)<;>(try simp only [aM] at hb)<;>(first|refine gq Nv ?_))
   |(refine fq ?_))
  all_goals clear l4 jn
  all_goals first
   |(have h:R=⟨kd,B,nm,a⟩:=by rw [hR,if_pos (by omega)]
     rw [h];exact .refl _)
   |(have h:R=⟨kd,i,nm,A⟩:=by rw [hR,if_neg (by omega),if_pos (by omega)]
     rw [h];exact .refl _)
   |(have h:R=⟨kd,i,nm,a⟩:=by rw [hR,if_neg (by omega),if_neg (by omega)]
     rw [h];exact .refl _)
theorem Tb (k:Int) (x:Tm) (hx:fX x<=100000000000):ah Tryz.prog w0 350 [tm ρ x,.fn (.func 349) [] [.ip [iv k]]] (tm ρ (uK k x)):=PU k _ x (Nat.le_refl _) hx
theorem EH (k:Int) (a:List Tm) (hx:cN a<=100000000000):ah Tryz.prog w0 311 [tl ρ a,.fn (.func 349) [] [.ip [iv k]]] (tl ρ (a.map (uK k))) :=
 EG a (by have:=yo a;omega) fun y hy=>Tb k y (by have:=q_ y hy;omega)
end
end
end Go.Proofs.YtgjfgekaclobaaaGreat
