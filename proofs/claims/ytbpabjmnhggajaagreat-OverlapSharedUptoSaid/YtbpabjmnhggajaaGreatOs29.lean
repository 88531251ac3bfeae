import Derived.Test.YtbpabjmnhggajaaGreatOs27
namespace Go.Proofs.YtbpabjmnhggajaaGreat
set_option linter.unusedVariables false
set_option linter.unusedSimpArgs false
open Go.RowKit
section
set_option maxRecDepth 100000
attribute [local irreducible] ah aC af ad
def xh (w0:World) (f:FuncId) (args:List AV) (E:Int):Prop:=Hc Tryz.prog w0 f args (decide (E=0)) (.aG []) (nE E)
section
variable {w0:World}{ρ:Hd}{rd:Bool}{n:Nat}{α:AA}{S S':ae}{Q:Exit->AA->ae->Prop}{l:List QI}{K:List ff}{r:AV}{ex:Exit}
theorem Hh {f:FuncId}{q:QC × List QR}{args:List AV}{E:Int}(F:mK Tryz.prog f q n) (bj:args.length<=n) (h:ad Tryz.prog w0 false n (y_ q.2 (fun r' S=>decide (E=0)=true/\aR S r' (.aG [])) (fun Bv S=>decide (E=0)=false/\Bv=nE E)) (.run q.1 []) ⟨kG args,[]⟩ ae.none_):xh w0 f args E :=
 mK.U_ F bj (.aG fun a ha=>by grind) h
theorem Cj {qs:List QR}{E:Int}(he:CK ex=true) (h:yw qs ex α S=some (.aG [],S')) (k:E=0):ad Tryz.prog w0 rd n (y_ qs (fun r' S=>decide (E=0)=true/\aR S r' (.aG [])) (fun Bv S=>decide (E=0)=false/\Bv=nE E)) (.out ex []) α S :=
 ad.za he h ⟨decide_eq_true k,.refl _⟩
theorem l6 {qs:List QR}{E e:Int}(hd:α.df=[]) (hz:decide (e=0)=false) (k:E=e):ad Tryz.prog w0 rd n (y_ qs (fun r' S=>decide (E=0)=true/\aR S r' (.aG [])) (fun Bv S=>decide (E=0)=false/\Bv=nE E)) (.out (.panic (nE e)) []) α S :=
 ad.Y9 hd ⟨by grind,by rw[k]⟩
theorem ad.nX {b:Bool}{e:Int}{d:Option Nat}{gd:Option (Nat × Bool)}{f:QO}{fM:List QO}(hw:bm α.tm gd=some true) (h:dW (f.ev α.tm) (fM.map (·.ev α.tm))=some (30,[.v (.bool b),.v (.int .i64 e)]))
  (k1:b=true->ad Tryz.prog w0 rd n Q (.aN false l K) (bC d α (.aG [])) S) (k2:b=false->ad Tryz.prog w0 rd n Q (.out (.panic (nE e)) K) α S):ad Tryz.prog w0 rd n Q (.aN false (⟨d,gd,.call f fM⟩::l) K) α S :=
 ad.AP hw h (Zy b e) ⟨.v,.v,trivial⟩ (.aG fun a ha=>by grind) (eY.refl _ _) k1 k2
theorem ad.sM {E:Int}{d:Option Nat}{gd:Option (Nat × Bool)}{f:QO}{fM:List QO}{g:FuncId}{args:List AV}(hw:bm α.tm gd=some true) (h:dW (f.ev α.tm) (fM.map (·.ev α.tm))=some (g,args)) (hc:xh w0 g args E) (hp:dK args)
  (k1:E=0->ad Tryz.prog w0 rd n Q (.aN false l K) (bC d α (.aG [])) S) (k2:¬ E=0->ad Tryz.prog w0 rd n Q (.out (.panic (nE E)) K) α S):ad Tryz.prog w0 rd n Q (.aN false (⟨d,gd,.call f fM⟩::l) K) α S :=
 ad.AP hw h hc hp (.aG fun a ha=>by grind) (eY.refl _ _) (fun h=>k1 (of_decide_eq_true h)) (fun h=>k2 (of_decide_eq_false h))
end
def ahl:FQ 74 Tryz.f74:=a_ Tryz.func74 Tryz.call74
def g74:List Nat:=[0,2]
def ac5:FQ 132 Tryz.f132:=a_ Tryz.func132 Tryz.call132
def ZC:List Nat:=[3,0,2,1]
def ahm:FQ 72 Tryz.f72:=a_ Tryz.func72 Tryz.call72
def Vj:List Nat:=[0,4,1,6,2]
def ahn:FQ 73 Tryz.f73:=a_ Tryz.func73 Tryz.call73
def x8:List Nat:=[8,5,1,7,9,6,14,0]
def sN (o:Int):Bool:=decide (5<=o) && decide (o<=12)
def named (n:ByteArray) (d:Dc):Bool:=d.n.toList == n.toList
def uP (ds:List Dc) (n:ByteArray) (a:Int):Int:=if ds.any (named n) then (if w_ ds n a then 0 else 9) else 7
def sM (ds:List Dc) (g:Gl):Int:=if g.op=0 then uP ds g.n g.a.length else 0
def cH (e k:Int):Int:=if e=0 then k else e
theorem cR {e k:Int}(h:e=0):cH e k=k:=by rw[cH,if_pos h]
theorem ju {e k:Int}(h:¬ e=0):cH e k=e:=by rw[cH,if_neg h]
def pJ (ds:List Dc):List Gl->Int
 |[]=>0
 |g::l=>cH (sM ds g) (pJ ds l)
section
variable {w0:World}{ρ:Hd}
theorem PM (o:Int):ah Tryz.prog w0 74 [iv o] (.v (.bool (sN o))):=by
 refine st ahl g74 .v ?_
 repeat' (first
  |refine cg g74 (fun hb=>?_) fun hb=>?_
  |(refine fq ?_))
 all_goals (subst_vars;refine eA ?_;rw[sN,Bool.eq_iff_iff];simp;omega)
theorem WZ (d:Dc) (n:ByteArray):ah Tryz.prog w0 132 [dc d,.ip [.v (.string n)]] (.v (.bool (named n d))):=by
 obtain⟨dn,da⟩:=d;refine st ac5 ZC .v ?_
 repeat' (first
  |refine cg ZC (fun hb=>?_) fun hb=>?_
  |(refine fq ?_))
 all_goals (subst_vars;refine eA ?_;unfold named;simp_all)
theorem ET (ds:List Dc) (n:ByteArray) (a:Int) (hd:ds.length<=1099511627776):xh w0 72 [gk ρ ds,.v (.string n),iv a] (uP ds n a):=by
 have hF:Pure (.fn (.func 132) [] [.ip [.v (.string n)]]):=.fn (fun a ha=>by cases ha) fun a ha=>by obtain rfl:=List.mem_singleton.1 ha;exact .ip fun b hb=>by obtain rfl:=List.mem_singleton.1 hb;exact .v
 have h1:=Zh (w0:=w0) (ρ:=ρ) (named n) ds _ [] _ hd hF (fun x _=>⟨_,_,rfl,⟨EM x,.ip fun b hb=>by obtain rfl:=List.mem_singleton.1 hb;exact .v,trivial⟩,WZ x n⟩);have h2:=M0 (w0:=w0) (ρ:=ρ) ds n a hd;unfold uP;obtain⟨b1,e1⟩:∃ b,b=ds.any (named n):=⟨_,rfl⟩;obtain⟨b2,e2⟩:∃ b,b=w_ ds n a:=⟨_,rfl⟩;rw[<-e1] at h1;rw[<-e2] at h2;rw[<-e1,<-e2];clear e1 e2;refine Hh ahm.2 (by simp[Tryz.ntmps72]) ?_;refine gq Vj ?_
 repeat' (first
  |refine og Vj (af.Az rfl h1 ⟨dU _,hF,trivial⟩ .v ⟨.refl _,aR.fns trivial ⟨aR.box (cs:=[.v (.string n)]) (cs':=[.v (.string n)]) rfl ⟨.refl _,trivial⟩,trivial⟩,trivial⟩) ?_
  |refine og Vj (af.aw rfl h2 ⟨dU _,.v,.v,trivial⟩) ?_
  |refine ad.nX rfl rfl (fun hb=>?_) (fun hb=>?_)<;>(try simp only[bX] at hb)<;>(first|refine gq Vj ?_)
  |refine Cj rfl (by conv=>lhs;cbv) ?_
  |refine l6 rfl (by first|rfl ) ?_
  )
 all_goals (subst_vars;simp)
theorem LA (ds:List Dc) (l:List Gl) (hd:ds.length<=1099511627776) (hl:l.length<=1099511627776) (hz:∀ g ∈ l,g.a.length<=1099511627776):xh w0 73 [gk ρ ds,cX ρ l] (pJ ds l):=by
 obtain⟨R,hR⟩:∃ R,R=pJ ds l:=⟨_,rfl⟩;rw[<-hR];refine Hh ahn.2 (by simp[Tryz.ntmps73]) ?_;refine gq x8 ?_
 repeat' (first
  |refine lg x8 fun m hm=>?_
  )
 refine ad.bu (σ:=Int) 0 0 [] (fun i=>[(0,gk ρ ds),(6,cX ρ l),(7,.v (.int .i64 m)),(8,.v (.int .i64 i))]) [] (fun _=>[]) (fun i=>∃ k:Nat,i=k/\k<=l.length/\R=pJ ds (l.drop k)) (fun i=>l.length - i.toNat) 0 ⟨0,rfl,by simp,by simpa using hR⟩ rfl cq ?_;rintro i ⟨k,hi,hk,hp⟩;clear hR;refine gq x8 ?_;by_cases aA:k < l.length
 ·obtain⟨x,hx,bK⟩:=bf aA;rw[bK,pJ] at hp;have Iq:=hz x (List.mem_of_getElem? hx);obtain⟨o,n,a⟩:=x;dsimp only at Iq;have hD:=ET (w0:=w0) (ρ:=ρ) ds n a.length hd;have hC:sM ds ⟨o,n,a⟩=if o=0 then uP ds n a.length else 0:=rfl
  obtain⟨D,hD1⟩:∃ D,D=uP ds n a.length:=⟨_,rfl⟩;rw[<-hD1] at hC hD;obtain⟨C,Ir⟩:∃ C,C=sM ds ⟨o,n,a⟩:=⟨_,rfl⟩;rw[<-Ir] at hC hp;obtain⟨q,hq⟩:∃ q:Int,q=a.length:=⟨_,rfl⟩;rw[<-hq] at hD;clear hD1 Ir
  repeat' (first
   |refine og x8 (af.ind rfl rfl (aY (l:=l) hi hx) (aZ fun _=>rfl)) ?_
   |refine ad.int rfl (af.len rfl) fun m hm=>?_;rw[aE] at hm;obtain rfl:m=q:=(by omega);refine gq x8 ?_
   |refine ad.sM rfl rfl (hD) (by repeat' (first|exact trivial|(refine⟨?_,?_⟩;(first|exact .v|exact dU _ )))) (fun he=>?_) (fun he=>?_)<;>refine gq x8 ?_
   |refine ad.rM ?_;refine gq x8 ?_
   |refine Cj rfl (by conv=>lhs;cbv) ?_
   |refine l6 rfl (by first|exact decide_eq_false (by assumption)) ?_
   |refine cg x8 (fun hb=>?_) fun hb=>?_
   |refine ag x8 fun _ _=>?_
   |refine ad.aH ?_;refine gq x8 ?_
   )
  all_goals first
   |exfalso;omega
   |(have e:C=0:=by (rw[hC];simp_all)
     rw[cR e] at hp;(refine ad.aO (σ:=Int) _ [] ?_ ?_ cq<;>first|omega|exact⟨k+1,by omega,by omega,hp⟩))
   |(have e:C=D:=by (rw[hC];simp_all)
     rw[ju (by omega)] at hp;rw[hp,e])
 ·skip
  repeat' (first
   |refine Cj rfl (by conv=>lhs;cbv) ?_
   |refine cg x8 (fun hb=>?_) fun hb=>?_
   |refine ad.aH ?_;refine gq x8 ?_
   )
  all_goals first
   |exfalso;omega
   |rw[hp,List.drop_eq_nil_of_le (by omega)];rfl
end
end
end Go.Proofs.YtbpabjmnhggajaaGreat
