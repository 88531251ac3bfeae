import Derived.Test.YtgjfgekaclobaaaGreatCa29
namespace Go.Proofs.YtgjfgekaclobaaaGreat
set_option linter.unusedVariables false
set_option linter.unusedSimpArgs false
open Go.RowKit
section
set_option maxRecDepth 100000
attribute [local irreducible] ah aK ae aa
def vw (w0:World) (f:FuncId) (args:List AV) (E:Int):Prop:=EU Tryz.prog w0 f args (decide (E=0)) (.aE []) (mM E)
section
variable {w0:World}{ρ:Hd}{rd:Bool}{n:Nat}{α:AA}{S S':ad}{Q:Exit->AA->ad->Prop}{l:List QI}{K:List fc}{r:AV}{ex:Exit}
theorem EW {f:FuncId}{q:QC × List QR}{args:List AV}{E:Int}(F:aT Tryz.prog f q n) (aY:args.length<=n) (h:aa Tryz.prog w0 false n (w_ q.2 (fun r' S=>decide (E=0)=true/\bp S r' (.aE [])) (fun zp S=>decide (E=0)=false/\zp=mM E)) (.run q.1 []) ⟨j_ args,[]⟩ ad.none_):vw w0 f args E :=
 aT.Ud F aY (.aE fun a ha=>by cases ha) h
theorem Au {qs:List QR}{E:Int}(he:A0 ex=true) (h:uV qs ex α S=some (.aE [],S')) (k:E=0):aa Tryz.prog w0 rd n (w_ qs (fun r' S=>decide (E=0)=true/\bp S r' (.aE [])) (fun zp S=>decide (E=0)=false/\zp=mM E)) (.out ex []) α S :=
 aa.xc he h ⟨decide_eq_true k,.refl _⟩
theorem kR {qs:List QR}{E e:Int}(hd:α.df=[]) (hz:decide (e=0)=false) (k:E=e):aa Tryz.prog w0 rd n (w_ qs (fun r' S=>decide (E=0)=true/\bp S r' (.aE [])) (fun zp S=>decide (E=0)=false/\zp=mM E)) (.out (.panic (mM e)) []) α S :=
 aa.ZX hd ⟨by rw [k];exact hz,by rw [k]⟩
theorem aa.m_ {b:Bool}{e:Int}{d:Option Nat}{gd:Option (Nat × Bool)}{f:QO}{fe:List QO}(hw:bD α.tm gd=some true) (h:dM (f.ev α.tm) (fe.map (·.ev α.tm))=some (133,[.v (.bool b),.v (.int .i64 e)]))
  (k1:b=true->aa Tryz.prog w0 rd n Q (.aU false l K) (bS d α (.aE [])) S) (k2:b=false->aa Tryz.prog w0 rd n Q (.out (.panic (mM e)) K) α S):aa Tryz.prog w0 rd n Q (.aU false (⟨d,gd,.call f fe⟩::l) K) α S :=
 aa.yN hw h (aai b e) ⟨.v,.v,trivial⟩ (.aE fun a ha=>by cases ha) (fH.refl _ _) k1 k2
theorem aa.qV {E:Int}{d:Option Nat}{gd:Option (Nat × Bool)}{f:QO}{fe:List QO}{g:FuncId}{args:List AV}(hw:bD α.tm gd=some true) (h:dM (f.ev α.tm) (fe.map (·.ev α.tm))=some (g,args)) (hc:vw w0 g args E) (hp:dm args)
  (k1:E=0->aa Tryz.prog w0 rd n Q (.aU false l K) (bS d α (.aE [])) S) (k2:¬ E=0->aa Tryz.prog w0 rd n Q (.out (.panic (mM E)) K) α S):aa Tryz.prog w0 rd n Q (.aU false (⟨d,gd,.call f fe⟩::l) K) α S :=
 aa.yN hw h hc hp (.aE fun a ha=>by cases ha) (fH.refl _ _) (fun h=>k1 (of_decide_eq_true h)) (fun h=>k2 (of_decide_eq_false h))
end
def UL:CF Tryz.f208:=⟨_,by conv=>lhs;cbv⟩
theorem adV:aT Tryz.prog 208 UL.1 Tryz.f208.ntmps:=bX Tryz.func208 UL.2 Tryz.call208
def aas:List Nat:=[0,2]
def UM:CF Tryz.f279:=⟨_,by conv=>lhs;cbv⟩
theorem adW:aT Tryz.prog 279 UM.1 Tryz.f279.ntmps:=bX Tryz.func279 UM.2 Tryz.call279
def aat:List Nat:=[3,0,2,1]
def UN:CF Tryz.f206:=⟨_,by conv=>lhs;cbv⟩
theorem adX:aT Tryz.prog 206 UN.1 Tryz.f206.ntmps:=bX Tryz.func206 UN.2 Tryz.call206
def Kr:List Nat:=[0,4,1,6,2]
def UO:CF Tryz.f207:=⟨_,by conv=>lhs;cbv⟩
theorem adY:aT Tryz.prog 207 UO.1 Tryz.f207.ntmps:=bX Tryz.func207 UO.2 Tryz.call207
def qm:List Nat:=[8,5,1,7,9,6,14,0]
def yV (o:Int):Bool:=decide (5<=o) && decide (o<=12)
def named (n:ByteArray) (d:Dc):Bool:=d.n.toList == n.toList
def s5 (ds:List Dc) (n:ByteArray) (a:Int):Int:=if ds.any (named n) then (if vm ds n a then 0 else 9) else 7
def qV (ds:List Dc) (g:Gl):Int:=if g.op=0 then s5 ds g.n g.a.length else 0
def cD (e k:Int):Int:=if e=0 then k else e
theorem cH {e k:Int}(h:e=0):cD e k=k:=by rw [cD,if_pos h]
theorem iZ {e k:Int}(h:¬ e=0):cD e k=e:=by rw [cD,if_neg h]
def oH (ds:List Dc):List Gl->Int
 |[]=>0
 |g::l=>cD (qV ds g) (oH ds l)
section
variable {w0:World}{ρ:Hd}
theorem OY (o:Int):ah Tryz.prog w0 208 [iv o] (.v (.bool (yV o))):=by
 refine adV.bu (by simp [Tryz.ntmps208]) (.v) ?_
 refine gq aas ?_
 repeat' (first
  |(refine bq (fun hb=>?_) (fun hb=>?_)<;>(try simp only [aM] at hb)<;>(first|refine gq aas ?_))
  |(refine fq ?_))
 all_goals (subst_vars;refine eQ ?_;rw [yV,Bool.eq_iff_iff];simp;omega)
theorem Yh (d:Dc) (n:ByteArray):ah Tryz.prog w0 279 [dc d,.ip [.v (.string n)]] (.v (.bool (named n d))):=by
 obtain⟨dn,da⟩:=d
 refine adW.bu (by simp [Tryz.ntmps279]) (.v) ?_
 refine gq aat ?_
 repeat' (first
  |(refine bq (fun hb=>?_) (fun hb=>?_)<;>(try simp only [aM] at hb)<;>(first|refine gq aat ?_))
  |(refine fq ?_))
 all_goals (subst_vars;refine eQ ?_;unfold named;simp_all)
theorem CX (ds:List Dc) (n:ByteArray) (a:Int) (hd:ds.length<=1099511627776):vw w0 206 [gI ρ ds,.v (.string n),iv a] (s5 ds n a):=by
 have hF:Pure (.fn (.func 279) [] [.ip [.v (.string n)]]):=.fn (fun a ha=>by cases ha) fun a ha=>by obtain rfl:=List.mem_singleton.1 ha;exact .ip fun b hb=>by obtain rfl:=List.mem_singleton.1 hb;exact .v
 have h1:=aad (w0:=w0) (ρ:=ρ) (named n) ds _ [] _ hd hF (fun x _=>⟨_,_,rfl,⟨CL x,.ip fun b hb=>by obtain rfl:=List.mem_singleton.1 hb;exact .v,trivial⟩,Yh x n⟩)
 have h2:=J_ (w0:=w0) (ρ:=ρ) ds n a hd
 unfold s5
 obtain⟨b1,e1⟩:∃ b,b=ds.any (named n):=⟨_,rfl⟩
 obtain⟨b2,e2⟩:∃ b,b=vm ds n a:=⟨_,rfl⟩
 rw [<-e1] at h1
 rw [<-e2] at h2
 rw [<-e1,<-e2]
 clear e1 e2
 refine EW adX (by simp [Tryz.ntmps206]) ?_
 refine gq Kr ?_
 repeat' (first
  |(refine aa.op rfl (ae.AZ rfl h1 ⟨dK _,hF,trivial⟩ .v ⟨.refl _,bp.fns trivial ⟨bp.box (cs:=[.v (.string n)]) (cs':=[.v (.string n)]) rfl ⟨.refl _,trivial⟩,trivial⟩,trivial⟩) ?_;refine gq Kr ?_)
  |(refine aa.op rfl (ae.aL rfl h2 ⟨dK _,.v,.v,trivial⟩) ?_;refine gq Kr ?_)
  |(refine aa.m_ rfl rfl (fun hb=>?_) (fun hb=>?_)<;>(try simp only [aM] at hb)<;>(first|refine gq Kr ?_))
  |(refine Au rfl (by conv=>lhs;cbv) ?_)
  |(refine kR rfl (by first|rfl ) ?_)
  )
 all_goals (subst_vars;simp)
theorem I4 (ds:List Dc) (l:List Gl) (hd:ds.length<=1099511627776) (hl:l.length<=1099511627776) (hz:∀ g ∈ l,g.a.length<=1099511627776):vw w0 207 [gI ρ ds,eP ρ l] (oH ds l):=by
 obtain⟨R,hR⟩:∃ R,R=oH ds l:=⟨_,rfl⟩
 rw [<-hR]
 refine EW adY (by simp [Tryz.ntmps207]) ?_
 refine gq qm ?_
 repeat' (first
  |(refine bL fun m hm=>?_;(try rw [aF] at hm);refine gq qm ?_)
  )
 refine aa.bP (σ:=Int) 0 0 [] (fun i=>[(0,gI ρ ds),(6,eP ρ l),(7,.v (.int .i64 m)),(8,.v (.int .i64 i))]) [] (fun _=>[]) (fun i=>∃ k:Nat,i=k/\k<=l.length/\R=oH ds (l.drop k)) (fun i=>l.length - i.toNat) 0 ⟨0,rfl,by simp,by simpa using hR⟩ rfl cq ?_
 rintro i ⟨k,hi,hk,hp⟩
 clear hR
 refine gq qm ?_
 by_cases aA:k < l.length
 ·obtain⟨x,hx,cg⟩:=cd aA
  rw [cg,oH] at hp
  have OZ:=hz x (List.mem_of_getElem? hx)
  obtain⟨o,n,a⟩:=x
  dsimp only at OZ
  have hD:=CX (w0:=w0) (ρ:=ρ) ds n a.length hd
  have hC:qV ds ⟨o,n,a⟩=if o=0 then s5 ds n a.length else 0:=rfl
  obtain⟨D,hD1⟩:∃ D,D=s5 ds n a.length:=⟨_,rfl⟩
  rw [<-hD1] at hC hD
  obtain⟨C,Ge⟩:∃ C,C=qV ds ⟨o,n,a⟩:=⟨_,rfl⟩
  rw [<-Ge] at hC hp
  obtain⟨q,hq⟩:∃ q:Int,q=a.length:=⟨_,rfl⟩
  rw [<-hq] at hD
  clear hD1 Ge
  repeat' (first
   |(refine aa.op rfl (ae.ind rfl rfl (bU (l:=l) hi hx) (bV fun _=>rfl)) ?_;refine gq qm ?_)
   |(refine aa.int rfl (ae.len rfl) fun m hm=>?_;rw [aF] at hm;obtain rfl:m=q:=(by omega);refine gq qm ?_)
   |(refine aa.qV rfl rfl (hD) (by repeat' (first|exact trivial|(refine⟨?_,?_⟩;(first|exact .v|exact dK _ )))) (fun he=>?_) (fun he=>?_)<;>refine gq qm ?_)
   |(refine aa.qj ?_;refine gq qm ?_)
   |(refine Au rfl (by conv=>lhs;cbv) ?_)
   |(refine kR rfl (by first|exact decide_eq_false (by assumption)) ?_)
   |(refine bq (fun hb=>?_) (fun hb=>?_)<;>(try simp only [aM] at hb)<;>(first|refine gq qm ?_))
   |(refine cr fun _ _=>?_;refine gq qm ?_)
   |(refine aa.aR ?_;refine gq qm ?_)
   )
  all_goals first
   |(exfalso;omega)
   |(have e:C=0:=by (rw [hC];simp_all)
     rw [cH e] at hp;(refine aa.bm (σ:=Int) _ [] ?_ ?_ cq<;>first|omega|exact⟨k+1,by omega,by omega,hp⟩))
   |(have e:C=D:=by (rw [hC];simp_all)
     rw [iZ (by omega)] at hp;rw [hp,e])
 ·skip
  repeat' (first
   |(refine Au rfl (by conv=>lhs;cbv) ?_)
   |(refine bq (fun hb=>?_) (fun hb=>?_)<;>(try simp only [aM] at hb)<;>(first|refine gq qm ?_))
   |(refine aa.aR ?_;refine gq qm ?_)
   )
  all_goals first
   |(exfalso;omega)
   |(rw [hp,List.drop_eq_nil_of_le (by omega)];rfl)
end
end
end Go.Proofs.YtgjfgekaclobaaaGreat
