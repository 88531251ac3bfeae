import Derived.Test.YtgjfgekaclobaaaGreatCa47
namespace Go.Proofs.YtgjfgekaclobaaaGreat
set_option linter.unusedVariables false
set_option linter.unusedSimpArgs false
open Go.RowKit
section
set_option maxRecDepth 100000
attribute [local irreducible] ah aK ae aa
def VV:CF Tryz.f310:=⟨_,by conv=>lhs;cbv⟩
theorem Nw:aT Tryz.prog 310 VV.1 Tryz.f310.ntmps:=bX Tryz.func310 VV.2 Tryz.call310
def yq:List Nat:=[0,2,4]
def ab2:CF Tryz.f83:=⟨_,by conv=>lhs;cbv⟩
theorem Td:aT Tryz.prog 83 ab2.1 Tryz.f83.ntmps:=bX Tryz.func83 ab2.2 Tryz.call83
def EI:List Nat:=[0,2,4]
def VW:CF Tryz.f309:=⟨_,by conv=>lhs;cbv⟩
theorem VX:aT Tryz.prog 309 VW.1 Tryz.f309.ntmps:=bX Tryz.func309 VW.2 Tryz.call309
def mB:List Nat:=[4,10,5,3,0,9,11,1]
def VY:CF Tryz.f312:=⟨_,by conv=>lhs;cbv⟩
theorem VZ:aT Tryz.prog 312 VY.1 Tryz.f312.ntmps:=bX Tryz.func312 VY.2 Tryz.call312
def mC:List Nat:=[4,10,5,3,0,9,11,1]
def V0:CF Tryz.f250:=⟨_,by conv=>lhs;cbv⟩
theorem agQ:aT Tryz.prog 250 V0.1 Tryz.f250.ntmps:=bX Tryz.func250 V0.2 Tryz.call250
def AP:List Nat:=[2,4,5,6,7,0,1]
def sv (k:Int) (x:At):At:=⟨x.n,x.a.map (uK k)⟩
def yr (k:Int) (x:Gl):Gl:=⟨x.op,x.n,x.a.map (uK k)⟩
def Dq (k:Int) (r:Rl):Rl:=⟨r.n,r.a7.map (sv k),r.rem.map (sv k),r.guard.map (yr k),r.body.map (yr k),r.vars⟩
section
variable {P:Program}{w0:World}{rd dr:Bool}{n:Nat}{Q:Exit->AA->ad->Prop}{α:AA}{S:ad}{l:List QI}{K:List fc}{T:Type}{ρ:Hd}{f:T->List AV}
theorem aa.ab3 {dd:Option Nat}{gg:Option (Nat × Bool)}{m:Nat}{x b:QO}{k i j:Nat}{ex:Bool}{met:List T}{x0 y:T}{sz:Nat}(hw:bD α.tm gg=some true) (hx:x.ev α.tm=.pt k sz i j) (hk:S.get k=some (.arr sz (ρ.h (List.map f) met) 0 ex)) (h0:met[i]?=some x0) (hb:lJ (f x0) j (aP (b.ev α.tm))=f y) (hc:(aP (b.ev α.tm)).all bQ=true) (hm:m=(aP (b.ev α.tm)).length) (hj:j+(aP (b.ev α.tm)).length<=(f x0).length)
  (kk:∀ Gj,Gj=met.set i y->aa P w0 rd n Q (.aU dr l K) (bS dd α (.v undef)) (S.set k (some (.arr sz (ρ.h (List.map f) Gj) 0 ex)))):aa P w0 rd n Q (.aU dr (⟨dd,gg,.store m x b⟩::l) K) α S:=by
 have h:=kk _ rfl
 have Gk:(ρ.h (List.map f) met)[i]?=some (f x0):=fU h0
 have e:(ρ.h (List.map f) met).set i (lJ (f x0) j (aP (b.ev α.tm)))=ρ.h (List.map f) (met.set i y):=by
  rw [hb,ρ.eq,ρ.eq,List.map_set]
 rw [<-e] at h
 exact aa.op (i:=⟨dd,gg,.store m x b⟩) hw (ae.aaM hx hk hc hm Gk hj) h
theorem Cv.alo {t k sz fz:Nat}{row:List AV}{ex:Bool}(hk:S.get k=some (.arr sz [row] fz ex)) (ht:α.tm t=.pt k sz 0 0):Cv w0 n α S ⟨a8 α.tm t (.ip row),α.df⟩ (S.set k none):=by
 have hg:∀ j o,(ad.none_.set k (some (.arr sz [row] fz ex))).get j=some o->j=k/\o=.arr sz [row] fz ex:=fun j o hj=>by
  have hj:a8 (fun _=>none) k (some (Ob.arr sz [row] fz ex)) j=some o:=hj
  by_cases e:j=k
  ·subst e;rw [aq] at hj;exact⟨rfl,(oJ_ hj).symm⟩
  ·rw [aC _ _ e] at hj;cases hj
 refine Cv.aaW (N:=ad.none_.set k (some (.arr sz [row] fz ex))) (S':=S.set k none) (fun j o hj=>?_) (Nat.le_refl _) (fun j o hj=>?_) (by rw [ht];intro h;cases h) ?_
 ·obtain⟨rfl,rfl⟩:=hg j o hj
  exact hk
 ·have hj:a8 S.get k none j=some o:=hj
  by_cases e:j=k
  ·subst e;rw [aq] at hj;cases hj
  ·rw [aC _ _ e] at hj
   refine⟨hj,?_⟩
   show a8 (fun _=>none) k _ j=none
   rw [aC _ _ e]
 ·rw [ht]
  refine bp.pt (row:=row) (aq _ _ _) rfl (by omega) fun q a a' h1 h2=>?_
  rw [Nat.zero_add,h2] at h1
  obtain rfl:=oJ_ h1
  exact .refl _
end
section
variable {w0:World}{ρ:Hd}
theorem Nx {B sz:Nat}{ex:Bool}(l:List At):fV B (.arr sz (ρ.h (List.map (atR ρ)) l) 0 ex):=yF fun x _ a ha=>u0 x a ha
theorem agR (l:List At):∀ row ∈ ρ.h (List.map (atR ρ)) l,∀ a ∈ row,Pure a:=by
 rw [ρ.eq]
 intro row hr a ha
 obtain⟨x,_,rfl⟩:=List.mem_map.1 hr
 exact u0 x a ha
theorem Ny (A:Option Addr) (c:Nat):ah Tryz.prog w0 310 [.v (.slice A 0 c)] (.sl true []):=by
 cases A with
 |none =>
  refine Nw.bu (by simp [Tryz.ntmps310]) ((.sl fun r h=>by cases h)) ?_
  refine gq yq ?_
  refine aa.op rfl (ae.nil (b:=true) rfl rfl) ?_
  refine gq yq ?_
  refine fq ?_
  exact .refl _
 |some A =>
  refine Nw.bu (by simp [Tryz.ntmps310]) ((.sl fun r h=>by cases h)) ?_
  refine gq yq ?_
  refine aa.op rfl (ae.nil (b:=false) rfl rfl) ?_
  refine gq yq ?_
  refine aa.op rfl (ae.BX rfl rfl) ?_
  refine gq yq ?_
  refine fq ?_
  exact .refl _
theorem Te:ah Tryz.prog w0 310 [dh ρ []] (dh ρ []):=by
 have h:ah Tryz.prog w0 310 [dh ρ []] (.sl true []):=by
  rw [dh,cO]
  exact ah.emp Ny
 exact ah.fz3 h (fun S=>by rw [dh,cO];exact bp.wk) (dy _)
theorem Tg (x:At) (l:List At) (hl:(x::l).length<=100000000000):aK Tryz.prog w0 310 [dh ρ (x::l)] (au [] 0) (.gr 0 2 (x::l).length) (au [(0,.arr 2 (ρ.h (List.map (atR ρ)) (x::l)) 0 false)] 1):=by
 obtain⟨R,hR⟩:∃ R,R=x::l:=⟨_,rfl⟩
 have vf:xv (cE ρ (atR ρ) false R)=some false:=by rw [hR,cO];rfl
 rw [<-hR] at hl ⊢
 unfold dh
 refine aT.fM 0 1 _ Nw (by simp [Tryz.ntmps310]) rfl rfl ?_
 refine gq yq ?_
 refine aa.op rfl (ae.nil vf rfl) ?_
 refine gq yq ?_
 refine aa.J6 (f:=atR ρ) (ys:=R) rfl rfl rfl (fun _=>rfl) (by omega) fun acc len kV hlen=>?_
 have hlen:len=R.length:=by rw [hlen,kV]
 subst kV
 rw [<-hlen]
 refine gq yq ?_
 refine fq ?_
 exact⟨[(0,0)],.jc rfl rfl,⟨.inl ⟨_,rfl,.same (Nx _)⟩,trivial⟩,rfl⟩
theorem PW (k:Int) (a:List At) (hl:a.length<=100000000000) (hs:∀ x ∈ a,cN x.a<=100000000000) :
  ah Tryz.prog w0 309 [dh ρ a,.ip [.fn (.func 349) [] [.ip [iv k]]]] (dh ρ (a.map (sv k))):=by
 have yp:=pA k
 have Jy:Pure (.ip [.fn (.func 349) [] [.ip [iv k]]]):=.ip fun b hb=>by obtain rfl:=List.mem_singleton.1 hb;exact yp
 cases a with
 |nil =>
  have hc:=Te (w0:=w0) (ρ:=ρ)
  refine VX.bu (by simp [Tryz.ntmps309]) ((dy _)) ?_
  refine gq mB ?_
  repeat' (first
   |((refine aa.op rfl (ae.aL rfl hc ⟨dy _,trivial⟩) ?_;refine gq mB ?_))
   |(refine bL fun m hm=>?_;(try rw [aF] at hm);refine gq mB ?_)
   )
  refine aa.bP (σ:=Int) 0 0 [] (fun p=>[(4,dh ρ []),(9,.v (.int .i64 m)),(10,.v (.int .i64 p))]) [] (fun _=>[]) (fun p=>p=0) (fun p=>0) 0 rfl rfl cq ?_
  rintro i rfl
  refine gq mB ?_
  repeat' (first
   |(refine bq (fun hb=>?_) (fun hb=>?_)<;>(try simp only [aM] at hb)<;>(first|refine gq mB ?_))
   |(refine aa.aR ?_;refine gq mB ?_)
   |(refine fq ?_))
  all_goals first
   |(exfalso;simp only [List.length_nil] at hm;omega)
   |exact .refl _
 |cons x0 l0 =>
 have hc:=Tg (w0:=w0) (ρ:=ρ) x0 l0 hl
 obtain⟨a,ha⟩:∃ a,a=x0::l0:=⟨_,rfl⟩
 rw [<-ha] at hc hl hs ⊢
 clear ha
 obtain⟨R,hR⟩:∃ R,R=a.map (sv k):=⟨_,rfl⟩
 rw [<-hR]
 obtain⟨al,aO⟩:∃ n,n=a.length:=⟨_,rfl⟩
 rw [<-aO] at hc
 refine VX.bu (by simp [Tryz.ntmps309]) ((dy _)) ?_
 refine gq mB ?_
 refine aa.op rfl (ae.oK [] [(0,some (.arr 2 (ρ.h (List.map (atR ρ)) a) 0 false))] hc rfl ⟨.pure (dy _),trivial⟩ (.gr rfl) trivial ⟨⟨0,_,rfl,rfl,.pure (agR _)⟩,trivial⟩) ?_
 refine gq mB ?_
 refine aa.int rfl (ae.qk rfl) fun m hm=>?_
 refine gq mB ?_
 refine aa.bP (σ:=Int × List At) 1 1 [] (fun p=>[(1,.ip [.fn (.func 349) [] [.ip [iv k]]]),(4,.gr 0 2 al),(9,.v (.int .i64 m)),(10,.v (.int .i64 p.1))]) [] (fun p=>[(0,.arr 2 (ρ.h (List.map (atR ρ)) p.2) 0 false)])
  (fun p=>∃ j:Nat,p.1=j/\j<=a.length/\p.2.length=a.length/\p.2=(a.take j).map (sv k)++a.drop j) (fun p=>a.length - p.1.toNat) (0,a) ⟨0,rfl,by simp,rfl,by simp⟩ rfl (by exact⟨sq,rfl,⟨.inl ⟨_,rfl,.same (Nx _)⟩,trivial⟩,rfl,rfl,rfl⟩) ?_
 rintro⟨i,cur⟩ ⟨j,hi,hk,lf,hp⟩
 simp only at hi lf hp
 refine gq mB ?_
 refine bq (fun eB=>?_) (fun eB=>?_)<;>(try simp only [aM] at eB)
 rotate_left
 ·refine gq mB ?_
  refine aa.aR ?_
  refine gq mB ?_
  refine aa.fin (by conv=>lhs;cbv) ?_
  have h:R=cur:=by rw [hR,hp,List.drop_of_length_le (by omega),List.take_of_length_le (by omega),List.append_nil]
  rw [h]
  exact bp.grow rfl (by omega)
 obtain⟨x,hx,cg⟩:=cd (l:=a) (k:=j) (by omega)
 have jw:cur[j]?=some x:=by
  have hl:((a.take j).map (sv k)).length=j:=by rw [List.length_map,List.length_take];omega
  rw [hp,List.getElem?_append_right (by omega),hl,Nat.sub_self,cg];rfl
 have pY:j < a.length:=by omega
 have dv:=EH (w0:=w0) (ρ:=ρ) k x.a (hs x (g8 hx))
 obtain⟨y,hy⟩:∃ y,y=sv k x:=⟨_,rfl⟩
 obtain⟨xn,xa⟩:=x
 simp only at dv
 obtain⟨Y,hY⟩:∃ Y,Y=xa.map (uK k):=⟨_,rfl⟩
 rw [<-hY] at dv
 have hyY:y=⟨xn,Y⟩:=by rw [hy,sv,hY]
 have rx:=fU (ρ:=ρ) (f:=atR ρ) jw
 rw [atR] at rx
 simp only at rx
 refine gq mB ?_
 refine aa.op rfl (ae.jU rfl rfl hi (by omega)) ?_
 refine aa.op rfl (ae.quiet rfl) ?_
 refine aa.op rfl (ae.oX rfl rfl rx rfl) ?_
 refine gq mB ?_
 refine aa.op rfl (ae.aL rfl dv ⟨bl _,yp,trivial⟩) ?_
 refine gq mB ?_
 refine aa.op rfl (ae.jU rfl rfl hi (by omega)) ?_
 refine aa.op rfl (ae.quiet rfl) ?_
 refine aa.ab3 (f:=atR ρ) (y:=⟨xn,Y⟩) rfl rfl rfl jw rfl rfl rfl (by exact Nat.le_refl _) (fun HD tp=>?_)
 refine gq mB ?_
 refine cr (fun i3 td=>?_)
 refine gq mB ?_
 refine aa.bm (σ:=Int × List At) (i3,HD) [] ⟨j+1,by simp only;omega,by omega,by simp only;rw [tp,List.length_set];exact lf,?_⟩ ?_ (by exact⟨sq,rfl,⟨.inl ⟨_,rfl,.same (Nx _)⟩,trivial⟩,rfl,rfl,rfl⟩)
 ·simp only
  have hl:((a.take j).map (sv k)).length=j:=by rw [List.length_map,List.length_take];omega
  rw [tp,<-hyY,hp,List.set_append_right _ _ (by omega),hl,Nat.sub_self,cg,List.set_cons_zero,List.take_add_one,hx,List.map_append,hy]
  simp
 ·simp only;omega
theorem Nz {B sz:Nat}{ex:Bool}(l:List Gl):fV B (.arr sz (ρ.h (List.map (sQ ρ)) l) 0 ex):=yF fun x _ a ha=>u5 x a ha
theorem agS (l:List Gl):∀ row ∈ ρ.h (List.map (sQ ρ)) l,∀ a ∈ row,Pure a:=by
 rw [ρ.eq]
 intro row hr a ha
 obtain⟨x,_,rfl⟩:=List.mem_map.1 hr
 exact u5 x a ha
theorem NA (A:Option Addr) (c:Nat):ah Tryz.prog w0 83 [.v (.slice A 0 c)] (.sl true []):=by
 cases A with
 |none =>
  refine Td.bu (by simp [Tryz.ntmps83]) ((.sl fun r h=>by cases h)) ?_
  refine gq EI ?_
  refine aa.op rfl (ae.nil (b:=true) rfl rfl) ?_
  refine gq EI ?_
  refine fq ?_
  exact .refl _
 |some A =>
  refine Td.bu (by simp [Tryz.ntmps83]) ((.sl fun r h=>by cases h)) ?_
  refine gq EI ?_
  refine aa.op rfl (ae.nil (b:=false) rfl rfl) ?_
  refine gq EI ?_
  refine aa.op rfl (ae.BX rfl rfl) ?_
  refine gq EI ?_
  refine fq ?_
  exact .refl _
theorem Th:ah Tryz.prog w0 83 [eP ρ []] (eP ρ []):=by
 have h:ah Tryz.prog w0 83 [eP ρ []] (.sl true []):=by
  rw [eP,cO]
  exact ah.emp NA
 exact ah.fz3 h (fun S=>by rw [eP,cO];exact bp.wk) (dz _)
theorem Ti (x:Gl) (l:List Gl) (hl:(x::l).length<=100000000000):aK Tryz.prog w0 83 [eP ρ (x::l)] (au [] 0) (.gr 0 3 (x::l).length) (au [(0,.arr 3 (ρ.h (List.map (sQ ρ)) (x::l)) 0 false)] 1):=by
 obtain⟨R,hR⟩:∃ R,R=x::l:=⟨_,rfl⟩
 have vf:xv (cE ρ (sQ ρ) false R)=some false:=by rw [hR,cO];rfl
 rw [<-hR] at hl ⊢
 unfold eP
 refine aT.fM 0 1 _ Td (by simp [Tryz.ntmps83]) rfl rfl ?_
 refine gq EI ?_
 refine aa.op rfl (ae.nil vf rfl) ?_
 refine gq EI ?_
 refine aa.J6 (f:=sQ ρ) (ys:=R) rfl rfl rfl (fun _=>rfl) (by omega) fun acc len kV hlen=>?_
 have hlen:len=R.length:=by rw [hlen,kV]
 subst kV
 rw [<-hlen]
 refine gq EI ?_
 refine fq ?_
 exact⟨[(0,0)],.jc rfl rfl,⟨.inl ⟨_,rfl,.same (Nz _)⟩,trivial⟩,rfl⟩
theorem PX (k:Int) (a:List Gl) (hl:a.length<=100000000000) (hs:∀ x ∈ a,cN x.a<=100000000000) :
  ah Tryz.prog w0 312 [eP ρ a,.ip [.fn (.func 349) [] [.ip [iv k]]]] (eP ρ (a.map (yr k))):=by
 have yp:=pA k
 have Jy:Pure (.ip [.fn (.func 349) [] [.ip [iv k]]]):=.ip fun b hb=>by obtain rfl:=List.mem_singleton.1 hb;exact yp
 cases a with
 |nil =>
  have hc:=Th (w0:=w0) (ρ:=ρ)
  refine VZ.bu (by simp [Tryz.ntmps312]) ((dz _)) ?_
  refine gq mC ?_
  repeat' (first
   |((refine aa.op rfl (ae.aL rfl hc ⟨dz _,trivial⟩) ?_;refine gq mC ?_))
   |(refine bL fun m hm=>?_;(try rw [aF] at hm);refine gq mC ?_)
   )
  refine aa.bP (σ:=Int) 0 0 [] (fun p=>[(4,eP ρ []),(9,.v (.int .i64 m)),(10,.v (.int .i64 p))]) [] (fun _=>[]) (fun p=>p=0) (fun p=>0) 0 rfl rfl cq ?_
  rintro i rfl
  refine gq mC ?_
  repeat' (first
   |(refine bq (fun hb=>?_) (fun hb=>?_)<;>(try simp only [aM] at hb)<;>(first|refine gq mC ?_))
   |(refine aa.aR ?_;refine gq mC ?_)
   |(refine fq ?_))
  all_goals first
   |(exfalso;simp only [List.length_nil] at hm;omega)
   |exact .refl _
 |cons x0 l0 =>
 have hc:=Ti (w0:=w0) (ρ:=ρ) x0 l0 hl
 obtain⟨a,ha⟩:∃ a,a=x0::l0:=⟨_,rfl⟩
 rw [<-ha] at hc hl hs ⊢
 clear ha
 obtain⟨R,hR⟩:∃ R,R=a.map (yr k):=⟨_,rfl⟩
 rw [<-hR]
 obtain⟨al,aO⟩:∃ n,n=a.length:=⟨_,rfl⟩
 rw [<-aO] at hc
 refine VZ.bu (by simp [Tryz.ntmps312]) ((dz _)) ?_
 refine gq mC ?_
 refine aa.op rfl (ae.oK [] [(0,some (.arr 3 (ρ.h (List.map (sQ ρ)) a) 0 false))] hc rfl ⟨.pure (dz _),trivial⟩ (.gr rfl) trivial ⟨⟨0,_,rfl,rfl,.pure (agS _)⟩,trivial⟩) ?_
 refine gq mC ?_
 refine aa.int rfl (ae.qk rfl) fun m hm=>?_
 refine gq mC ?_
 refine aa.bP (σ:=Int × List Gl) 1 1 [] (fun p=>[(1,.ip [.fn (.func 349) [] [.ip [iv k]]]),(4,.gr 0 3 al),(9,.v (.int .i64 m)),(10,.v (.int .i64 p.1))]) [] (fun p=>[(0,.arr 3 (ρ.h (List.map (sQ ρ)) p.2) 0 false)])
  (fun p=>∃ j:Nat,p.1=j/\j<=a.length/\p.2.length=a.length/\p.2=(a.take j).map (yr k)++a.drop j) (fun p=>a.length - p.1.toNat) (0,a) ⟨0,rfl,by simp,rfl,by simp⟩ rfl (by exact⟨sq,rfl,⟨.inl ⟨_,rfl,.same (Nz _)⟩,trivial⟩,rfl,rfl,rfl⟩) ?_
 rintro⟨i,cur⟩ ⟨j,hi,hk,lf,hp⟩
 simp only at hi lf hp
 refine gq mC ?_
 refine bq (fun eB=>?_) (fun eB=>?_)<;>(try simp only [aM] at eB)
 rotate_left
 ·refine gq mC ?_
  refine aa.aR ?_
  refine gq mC ?_
  refine aa.fin (by conv=>lhs;cbv) ?_
  have h:R=cur:=by rw [hR,hp,List.drop_of_length_le (by omega),List.take_of_length_le (by omega),List.append_nil]
  rw [h]
  exact bp.grow rfl (by omega)
 obtain⟨x,hx,cg⟩:=cd (l:=a) (k:=j) (by omega)
 have jw:cur[j]?=some x:=by
  have hl:((a.take j).map (yr k)).length=j:=by rw [List.length_map,List.length_take];omega
  rw [hp,List.getElem?_append_right (by omega),hl,Nat.sub_self,cg];rfl
 have pY:j < a.length:=by omega
 have dv:=EH (w0:=w0) (ρ:=ρ) k x.a (hs x (g8 hx))
 obtain⟨y,hy⟩:∃ y,y=yr k x:=⟨_,rfl⟩
 obtain⟨xo,xn,xa⟩:=x
 simp only at dv
 obtain⟨Y,hY⟩:∃ Y,Y=xa.map (uK k):=⟨_,rfl⟩
 rw [<-hY] at dv
 have hyY:y=⟨xo,xn,Y⟩:=by rw [hy,yr,hY]
 have rx:=fU (ρ:=ρ) (f:=sQ ρ) jw
 rw [sQ] at rx
 simp only at rx
 refine gq mC ?_
 refine aa.op rfl (ae.jU rfl rfl hi (by omega)) ?_
 refine aa.op rfl (ae.quiet rfl) ?_
 refine aa.op rfl (ae.oX rfl rfl rx rfl) ?_
 refine gq mC ?_
 refine aa.op rfl (ae.aL rfl dv ⟨bl _,yp,trivial⟩) ?_
 refine gq mC ?_
 refine aa.op rfl (ae.jU rfl rfl hi (by omega)) ?_
 refine aa.op rfl (ae.quiet rfl) ?_
 refine aa.ab3 (f:=sQ ρ) (y:=⟨xo,xn,Y⟩) rfl rfl rfl jw rfl rfl rfl (by exact Nat.le_refl _) (fun HD tp=>?_)
 refine gq mC ?_
 refine cr (fun i3 td=>?_)
 refine gq mC ?_
 refine aa.bm (σ:=Int × List Gl) (i3,HD) [] ⟨j+1,by simp only;omega,by omega,by simp only;rw [tp,List.length_set];exact lf,?_⟩ ?_ (by exact⟨sq,rfl,⟨.inl ⟨_,rfl,.same (Nz _)⟩,trivial⟩,rfl,rfl,rfl⟩)
 ·simp only
  have hl:((a.take j).map (yr k)).length=j:=by rw [List.length_map,List.length_take];omega
  rw [tp,<-hyY,hp,List.set_append_right _ _ (by omega),hl,Nat.sub_self,cg,List.set_cons_zero,List.take_add_one,hx,List.map_append,hy]
  simp
 ·simp only;omega
theorem Ia (k:Int) (r:Rl) (h1:r.a7.length<=100000000000) (h2:r.rem.length<=100000000000) (h3:r.guard.length<=100000000000) (h4:r.body.length<=100000000000) (s1:∀ x ∈ r.a7,cN x.a<=100000000000) (s2:∀ x ∈ r.rem,cN x.a<=100000000000) (s3:∀ x ∈ r.guard,cN x.a<=100000000000) (s4:∀ x ∈ r.body,cN x.a<=100000000000) :
  ah Tryz.prog w0 250 [rl ρ r,iv k] (rl ρ (Dq k r)):=by
 have c1:=PW (w0:=w0) (ρ:=ρ) k r.a7 h1 s1
 have c2:=PW (w0:=w0) (ρ:=ρ) k r.rem h2 s2
 have c3:=PX (w0:=w0) (ρ:=ρ) k r.guard h3 s3
 have c4:=PX (w0:=w0) (ρ:=ρ) k r.body h4 s4
 have hb:=alj (w0:=w0) k
 have yp:=pA k
 have Jy:Pure (.ip [.fn (.func 349) [] [.ip [iv k]]]):=.ip fun b hb=>by obtain rfl:=List.mem_singleton.1 hb;exact yp
 obtain⟨R,hR⟩:∃ R,R=Dq k r:=⟨_,rfl⟩
 rw [<-hR]
 unfold Dq at hR
 obtain⟨n,ke,re,gu,bo,va⟩:=r
 simp only at c1 c2 c3 c4 hR
 obtain⟨a1,e1⟩:∃ x,x=ke.map (sv k):=⟨_,rfl⟩
 obtain⟨a2,e2⟩:∃ x,x=re.map (sv k):=⟨_,rfl⟩
 obtain⟨a3,e3⟩:∃ x,x=gu.map (yr k):=⟨_,rfl⟩
 obtain⟨a4,e4⟩:∃ x,x=bo.map (yr k):=⟨_,rfl⟩
 rw [<-e1] at c1 hR
 rw [<-e2] at c2 hR
 rw [<-e3] at c3 hR
 rw [<-e4] at c4 hR
 clear e1 e2 e3 e4 h1 h2 h3 h4 s1 s2 s3 s4
 subst hR
 refine agQ.bu (by simp [Tryz.ntmps250]) ((nW _)) ?_
 refine gq AP ?_
 refine aa.op rfl (ae.aL rfl hb ⟨.v,trivial⟩) ?_
 refine aa.goG AP 2 (by conv=>lhs;cbv) ?_
 refine aa.TR (Cv.alo (t:=5) rfl rfl) ?_
 refine gq AP ?_
 refine aa.gm rfl (fun T=>ae.aL rfl c1 ⟨dy _,Jy,trivial⟩) ?_
 refine gq AP ?_
 refine aa.gm rfl (fun T=>ae.aL rfl c2 ⟨dy _,Jy,trivial⟩) ?_
 refine gq AP ?_
 refine aa.gm rfl (fun T=>ae.aL rfl c3 ⟨dz _,Jy,trivial⟩) ?_
 refine gq AP ?_
 refine aa.gm rfl (fun T=>ae.aL rfl c4 ⟨dz _,Jy,trivial⟩) ?_
 refine gq AP ?_
 refine aa.fin (by conv=>lhs;cbv) ?_
 exact .refl _
end
end
end Go.Proofs.YtgjfgekaclobaaaGreat
