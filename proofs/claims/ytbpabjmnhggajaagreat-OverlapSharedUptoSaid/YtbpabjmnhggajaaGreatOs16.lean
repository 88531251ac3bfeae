import Derived.Test.YtbpabjmnhggajaaGreatProg
import Derived.Test.YtbpabjmnhggajaaGreatOs15
namespace Go.Proofs.YtbpabjmnhggajaaGreat
set_option linter.unusedVariables false
set_option linter.unusedSimpArgs false
open Go.RowKit
section
set_option maxRecDepth 100000
mutual
def mT:Tm->Nat
 |⟨k,i,n,a⟩=>n.size+qf a+5
def qf:List Tm->Nat
 |[]=>0
 |x::l=>mT x+qf l
end
theorem jt:∀ l,eT mT l=qf l
 |[]=>by rw[qf];rfl
 |x::l=>by rw[qf,eT,jt l]
def pw (x:At):Nat:=x.n.size+qf x.a+3
def tj (x:Gl):Nat:=x.n.size+qf x.a+4
def Fy (x:Dc):Nat:=x.n.size+3
def xY (x:Rl):Nat:=x.n.size+eT pw x.aU+eT pw x.rem+eT tj x.guard+eT tj x.body+7
def O7 (x:Pg):Nat:=eT Fy x.ds+eT xY x.rs+3
theorem ab9:∀ n,dg Tryz.prog n 52 4 lr mT:=by
 intro n
 induction n with
 |zero=>intro H enc w sp held m hm;omega
 |succ n ih =>
  intro H enc w sp held m hm cs d hl h;obtain⟨k,xs,rfl,hx,hd,hf⟩:=dg.fields Tryz.underlying52 h;have hb:=mW (xs:=xs);rw[hx] at hb;obtain⟨x0,b0,_,h0⟩:=dg.part (i:=0) (n:=k+1) (dg.int Tryz.underlying3) (by omega) (by kernel_rfl) (by omega) (hf 0 3 0 rfl);obtain⟨x1,b1,_,h1⟩:=dg.part (i:=1) (n:=k+1) (dg.int Tryz.underlying3) (by omega) (by kernel_rfl) (by omega) (hf 1 3 1 rfl);obtain⟨x2,b2,_,h2⟩:=dg.part (i:=2) (n:=k+1) (dg.str Tryz.underlying9) (by omega) (by kernel_rfl) (by omega) (hf 2 9 2 rfl);obtain⟨x3,b3,_,h3⟩:=dg.part (i:=3) (dg.slice Tryz.underlying50 (by kernel_rfl) (by decide) ih) (by omega) (by kernel_rfl) (by omega) (hf 3 50 3 rfl);refine⟨⟨x0,x1,x2,x3⟩,?_,by rw[pv (ρ:=.plain)];rfl,fun j a v ha hv=>?_⟩
  ·grind[mT,jt,nz]
  ·rw[pv (ρ:=.plain)] at ha
   match j with
   |0=>exact h0 0 a v ha hv
   |1=>exact h1 0 a v ha hv
   |2=>exact h2 0 a v ha hv
   |3=>exact h3 0 a v ha hv
   |j+4=>cases ha
theorem U1 (n:Nat):dg Tryz.prog n 50 1 (fun l=>[tl .plain l]) (fun l=>qf l+1):=by
 have h:=(dg.slice Tryz.underlying50 (by kernel_rfl) (by decide) (ab9 n)).less (Nat.le_succ n);simp only[jt] at h;exact h
theorem ab_ (n:Nat):dg Tryz.prog n 56 2 (atR .plain) pw:=by
 intro H enc w sp held m hm cs d hl h;obtain⟨k,xs,rfl,hx,hd,hf⟩:=dg.fields Tryz.underlying56 h;have hb:=mW (xs:=xs);rw[hx] at hb;obtain⟨x0,b0,_,h0⟩:=dg.part (i:=0) (n:=k+1) (dg.str Tryz.underlying9) (by omega) (by kernel_rfl) (by omega) (hf 0 9 0 rfl);obtain⟨x1,b1,_,h1⟩:=dg.part (i:=1) (n:=k+1) (U1 (k+1)) (by omega) (by kernel_rfl) (by omega) (hf 1 50 1 rfl);refine⟨⟨x0,x1⟩,?_,rfl,fun j a v ha hv=>?_⟩
 ·grind[nz,pw]
 ·match j with
  |0=>exact h0 0 a v ha hv
  |1=>exact h1 0 a v ha hv
  |j+2=>cases ha
theorem O8 (n:Nat):dg Tryz.prog n 45 1 (fun l=>[dy .plain l]) (fun l=>eT pw l+1):=(dg.slice Tryz.underlying45 (by kernel_rfl) (by decide) (ab_ n)).less (Nat.le_succ n)
theorem aca (n:Nat):dg Tryz.prog n 58 3 (nJ .plain) tj:=by
 intro H enc w sp held m hm cs d hl h;obtain⟨k,xs,rfl,hx,hd,hf⟩:=dg.fields Tryz.underlying58 h;have hb:=mW (xs:=xs);rw[hx] at hb;obtain⟨x0,b0,_,h0⟩:=dg.part (i:=0) (n:=k+1) (dg.int Tryz.underlying3) (by omega) (by kernel_rfl) (by omega) (hf 0 3 0 rfl);obtain⟨x1,b1,_,h1⟩:=dg.part (i:=1) (n:=k+1) (dg.str Tryz.underlying9) (by omega) (by kernel_rfl) (by omega) (hf 1 9 1 rfl);obtain⟨x2,b2,_,h2⟩:=dg.part (i:=2) (n:=k+1) (U1 (k+1)) (by omega) (by kernel_rfl) (by omega) (hf 2 50 2 rfl);refine⟨⟨x0,x1,x2⟩,?_,rfl,fun j a v ha hv=>?_⟩
 ·grind[nz,tj,pw]
 ·match j with
  |0=>exact h0 0 a v ha hv
  |1=>exact h1 0 a v ha hv
  |2=>exact h2 0 a v ha hv
  |j+3=>cases ha
theorem O9 (n:Nat):dg Tryz.prog n 34 1 (fun l=>[cX .plain l]) (fun l=>eT tj l+1):=(dg.slice Tryz.underlying34 (by kernel_rfl) (by decide) (aca n)).less (Nat.le_succ n)
theorem acb (n:Nat):dg Tryz.prog n 54 2 (O6) Fy:=by
 intro H enc w sp held m hm cs d hl h;obtain⟨k,xs,rfl,hx,hd,hf⟩:=dg.fields Tryz.underlying54 h;have hb:=mW (xs:=xs);rw[hx] at hb;obtain⟨x0,b0,_,h0⟩:=dg.part (i:=0) (n:=k+1) (dg.str Tryz.underlying9) (by omega) (by kernel_rfl) (by omega) (hf 0 9 0 rfl);obtain⟨x1,b1,_,h1⟩:=dg.part (i:=1) (n:=k+1) (dg.int Tryz.underlying3) (by omega) (by kernel_rfl) (by omega) (hf 1 3 1 rfl);refine⟨⟨x0,x1⟩,?_,rfl,fun j a v ha hv=>?_⟩
 ·grind[nz,Fy,pw]
 ·match j with
  |0=>exact h0 0 a v ha hv
  |1=>exact h1 0 a v ha hv
  |j+2=>cases ha
theorem YE (n:Nat):dg Tryz.prog n 22 1 (fun l=>[gk .plain l]) (fun l=>eT Fy l+1):=(dg.slice Tryz.underlying22 (by kernel_rfl) (by decide) (acb n)).less (Nat.le_succ n)
theorem acd (n:Nat):dg Tryz.prog n 47 6 (lu .plain) xY:=by
 intro H enc w sp held m hm cs d hl h;obtain⟨k,xs,rfl,hx,hd,hf⟩:=dg.fields Tryz.underlying47 h;have hb:=mW (xs:=xs);rw[hx] at hb;obtain⟨x0,b0,_,h0⟩:=dg.part (i:=0) (n:=k+1) (dg.str Tryz.underlying9) (by omega) (by kernel_rfl) (by omega) (hf 0 9 0 rfl);obtain⟨x1,b1,_,h1⟩:=dg.part (i:=1) (n:=k+1) (O8 (k+1)) (by omega) (by kernel_rfl) (by omega) (hf 1 45 1 rfl);obtain⟨x2,b2,_,h2⟩:=dg.part (i:=2) (n:=k+1) (O8 (k+1)) (by omega) (by kernel_rfl) (by omega) (hf 2 45 2 rfl);obtain⟨x3,b3,_,h3⟩:=dg.part (i:=3) (n:=k+1) (O9 (k+1)) (by omega) (by kernel_rfl) (by omega) (hf 3 34 3 rfl);obtain⟨x4,b4,_,h4⟩:=dg.part (i:=4) (n:=k+1) (O9 (k+1)) (by omega) (by kernel_rfl) (by omega) (hf 4 34 4 rfl);obtain⟨x5,b5,_,h5⟩:=dg.part (i:=5) (n:=k+1) (dg.int Tryz.underlying3) (by omega) (by kernel_rfl) (by omega) (hf 5 3 5 rfl);refine⟨⟨x0,x1,x2,x3,x4,x5⟩,?_,rfl,fun j a v ha hv=>?_⟩
 ·grind[nz,xY,pw]
 ·match j with
  |0=>exact h0 0 a v ha hv
  |1=>exact h1 0 a v ha hv
  |2=>exact h2 0 a v ha hv
  |3=>exact h3 0 a v ha hv
  |4=>exact h4 0 a v ha hv
  |5=>exact h5 0 a v ha hv
  |j+6=>cases ha
theorem YF (n:Nat):dg Tryz.prog n 23 1 (fun l=>[Fx .plain l]) (fun l=>eT xY l+1):=(dg.slice Tryz.underlying23 (by kernel_rfl) (by decide) (acd n)).less (Nat.le_succ n)
theorem ace (n:Nat):dg Tryz.prog n 25 2 (tg .plain) O7:=by
 intro H enc w sp held m hm cs d hl h;obtain⟨k,xs,rfl,hx,hd,hf⟩:=dg.fields Tryz.underlying25 h;have hb:=mW (xs:=xs);rw[hx] at hb;obtain⟨x0,b0,_,h0⟩:=dg.part (i:=0) (n:=k+1) (YE (k+1)) (by omega) (by kernel_rfl) (by omega) (hf 0 22 0 rfl);obtain⟨x1,b1,_,h1⟩:=dg.part (i:=1) (n:=k+1) (YF (k+1)) (by omega) (by kernel_rfl) (by omega) (hf 1 23 1 rfl);refine⟨⟨x0,x1⟩,?_,rfl,fun j a v ha hv=>?_⟩
 ·grind[nz,O7,pw]
 ·match j with
  |0=>exact h0 0 a v ha hv
  |1=>exact h1 0 a v ha hv
  |j+2=>cases ha
theorem MO {P:Program}{w:World}{r:Reach}{b0:Nat}{t:TypeId}{v:Value}{fs:Array Field}(ht:P.underlying t=some (.struct fs)) (h:Value.okWide P w r b0 t v):∃ cs,v=.agg cs/\cs.size=P.cellsOf t:=by
 unfold Value.okWide at h;rw[ht] at h;obtain⟨cs,e,hs,_⟩:=h;exact⟨cs,e,hs⟩
section
variable {w:World}{r:Reach}{b0:Nat}{v:Value}{H:Type}{enc:TypeId × Value->H}{sp:Nat->Bool}{held:Bool}{d:DataW H}{ps:List MemPlace}
theorem YG (qt:Value.okWide Tryz.prog w r b0 25 v) (h:DataW.Trod enc Tryz.prog w 0 sp held 25 v d ps):∃ x:Pg,O7 x<=Rows.uptoBulk d/\aF (g0 w) w (pg .plain x) v:=by
 obtain⟨fuel,hf⟩:=h;obtain⟨cs,rfl,bS⟩:=MO Tryz.underlying25 qt;have hs:cs.size=2:=bS.trans (by kernel_rfl);obtain⟨x,h1,_,h2⟩:=ace (fuel+1) H enc w sp held fuel (by omega) _ _ (by rw[Array.length_toList];exact hs) hf;refine⟨x,h1,.agg (by grind) fun i a y ha hy=>h2 i a y ha ?_⟩;rw[<-hy];exact Array.getElem?_toList
theorem Lf (h:DataW.Trod enc Tryz.prog w 0 sp held 3 v d ps) (qt:Value.okWide Tryz.prog w r b0 3 v):∃ x:Int,aF (g0 w) w (iv x) v:=by
 unfold Value.okWide at qt;rw[Tryz.underlying3] at qt;cases v with
 |int k z=>obtain⟨rfl,_⟩:=qt;exact⟨z,.v⟩
 |_=>cases qt
end
end
section
set_option maxRecDepth 100000
attribute [local irreducible] ah aC af ad
def HR:Nat:=1099511627776
mutual
def Tm.ok:Tm->Prop
 |⟨k,i,n,a⟩=>a.length<=HR/\n.size<=HR/\eV a
def eV:List Tm->Prop
 |[]=>True
 |x::l=>x.ok/\eV l
end
theorem eV.mem:∀ {l:List Tm},eV l->∀ x ∈ l,x.ok
 |[],_,x,h=>by grind
 |y::l,hk,x,h=>by
  rw[eV] at hk;rcases List.mem_cons.1 h with rfl|h
  ·grind
  ·exact hk.2.mem x h
theorem Tm.ok.out {t:Tm}(h:t.ok):t.a.length<=1099511627776/\t.n.size<=1099511627776/\eV t.a:=by
 obtain⟨k,i,n,a⟩:=t;rw[Tm.ok] at h;exact h
def acf:FQ 240 Tryz.f240:=a_ Tryz.func240 Tryz.call240
def YH:List Nat:=[3,2,0,4,6,8]
def acg:FQ 248 Tryz.f248:=a_ Tryz.func248 Tryz.call248
def YI:List Nat:=[0,2]
def ach:FQ 265 Tryz.f265:=a_ Tryz.func265 Tryz.call265
def YJ:List Nat:=[0,2]
def aci:FQ 221 Tryz.f221:=a_ Tryz.func221 Tryz.call221
def R6:List Nat:=[0,1,6,4,5,11,12,13,16,19]
def acj:FQ 241 Tryz.f241:=a_ Tryz.func241 Tryz.call241
def R7:List Nat:=[0,1,6,4,5,11,12,13,16,19]
def ack:FQ 220 Tryz.f220:=a_ Tryz.func220 Tryz.call220
def vt:List Nat:=[8,5,3,2,0,7,9,6,14]
def acm:FQ 203 Tryz.f203:=a_ Tryz.func203 Tryz.call203
def yS:List Nat:=[2,3,20,5,21,6,7,4,0,1,16,29,39,47]
def acn:FQ 242 Tryz.f242:=a_ Tryz.func242 Tryz.call242
def rK:List Nat:=[9,0,5,6,4,8,10,1,22]
def wT (k:Int):Int:=if k=1 then 0 else if k=0 then 1 else if k=2 then 2 else 3
def tq (a b:Int):Int:=if a < b then -1 else if b < a then 1 else 0
def MP (a b:ByteArray):Int:=if Op.bytesLess a.toList b.toList then -1 else if (Op.bytesLess a.toList b.toList || a.toList == b.toList) then 0 else 1
def HS:List Int->Int
 |[]=>0
 |x::l=>if x=0 then HS l else x
def uE (a b:Int):Int:=if a=0 then b else a
mutual
def wU:Tm->Tm->Int
 |⟨k,i,n,a⟩,y=>uE (tq (wT k) (wT y.k)) (if wT k=0\/wT k=1 then tq i y.i else if wT k=2 then uE (tq a.length y.a.length) (uE (MP n y.n) (uF a y.a)) else uE (tq k y.k) (uE (tq i y.i) (MP n y.n)))
def uF:List Tm->List Tm->Int
 |[],m=>tq 0 m.length
 |x::l,[]=>1
 |x::l,y::m=>uE (wU x y) (uF l m)
end
section
variable {w0:World}{ρ:Hd}
set_option maxRecDepth 100000
theorem YK (k:Int):ah Tryz.prog w0 240 [iv k] (iv (wT k)):=by
 refine st acf YH .v ?_
 repeat' (first
  |refine bq (fun hb=>?_) (fun hb=>?_)<;>(try simp only[bX] at hb)<;>(first|refine gq YH ?_)
  |(refine fq ?_))
 all_goals (refine aR.of_eq ?_;simp_all[wT,iv])
theorem YL (a:Int):ah Tryz.prog w0 248 [iv a] (.v (.bool false)):=by
 refine st acg YI .v ?_
 repeat' (first
  |refine bq (fun hb=>?_) (fun hb=>?_)<;>(try simp only[bX] at hb)<;>(first|exact absurd hb (by decide)|refine gq YI ?_)
  |(refine fq ?_))
 all_goals (refine aR.of_eq ?_;simp_all)
theorem YM (a:ByteArray):ah Tryz.prog w0 265 [.v (.string a)] (.v (.bool false)):=by
 refine st ach YJ .v ?_
 repeat' (first
  |refine bq (fun hb=>?_) (fun hb=>?_)<;>(try simp only[bX] at hb)<;>(first|exact absurd hb (by decide)|refine gq YJ ?_)
  |(refine fq ?_))
 all_goals (refine aR.of_eq ?_;simp_all)
theorem YN (a b:Int):ah Tryz.prog w0 221 [iv a,iv b] (iv (tq a b)):=by
 refine st aci R6 .v ?_
 repeat' (first
  |refine ad.op rfl (af.aw rfl (YL _) ⟨.v,trivial⟩) ?_;refine gq R6 ?_
  |refine bq (fun hb=>?_) (fun hb=>?_)<;>(try simp only[bX] at hb)<;>(first|refine gq R6 ?_)
  |(refine fq ?_))
 all_goals (refine aR.of_eq ?_;simp only[tq,iv];(repeat' split)<;>first|rfl|omega)
theorem YO (a b:ByteArray):ah Tryz.prog w0 241 [.v (.string a),.v (.string b)] (iv (MP a b)):=by
 refine st acj R7 .v ?_
 repeat' (first
  |refine ad.op rfl (af.aw rfl (YM _) ⟨.v,trivial⟩) ?_;refine gq R7 ?_
  |refine bq (fun hb=>?_) (fun hb=>?_)<;>(try simp only[bX] at hb)<;>(first|refine gq R7 ?_)
  |(refine fq ?_))
 all_goals (refine aR.of_eq ?_;simp_all[MP,iv])
theorem jD {S:ae}{a b:Int}(h:a=b):aR S (.v (.int .i64 a)) (iv b):=by subst h;exact aR.refl _
theorem eA {S:ae}{a b:Bool}(h:a=b):aR S (.v (.bool a)) (.v (.bool b)):=by subst h;exact aR.refl _
theorem ag1 (l:List Int) (hl:l.length<=HR):ah Tryz.prog w0 220 [aX ρ aP false l] (iv (HS l)):=by
 rw[HR] at hl;refine st ack vt .v ?_
 repeat' (first
  |refine cF fun m hm=>?_;(try rw[aE] at hm);refine gq vt ?_
  )
 refine ad.bu (σ:=Int) 0 0 [] (fun i=>[(3,.v (.int .i64 0)),(6,aX ρ aP false l),(7,.v (.int .i64 m)),(8,.v (.int .i64 i))]) [] (fun _=>[])
  (fun i=>∃ k:Nat,i=k/\k<=l.length/\HS l=HS (l.drop k)) (fun i=>l.length - i.toNat) 0 ⟨0,rfl,by simp,by simp⟩ rfl cq ?_
 rintro i ⟨k,hi,hk,hp⟩;refine gq vt ?_;by_cases aA:k < l.length
 ·obtain⟨x,hx,bK⟩:∃ x,l[k]?=some x/\l.drop k=x::l.drop (k+1):=⟨l[k],List.getElem?_eq_getElem aA,List.drop_eq_getElem_cons aA⟩;rw[bK,HS] at hp
  repeat' (first
   |refine ad.op rfl (af.ind rfl rfl (aY (l:=l) hi hx) (aZ fun _=>rfl)) ?_;refine gq vt ?_
   |refine bq (fun hb=>?_) (fun hb=>?_)<;>(try simp only[bX] at hb)<;>(first|refine gq vt ?_)
   |refine cz fun _ _=>?_;refine gq vt ?_
   |refine ad.aH ?_;refine gq vt ?_
   |refine ad.cP ?_;refine gq vt ?_
   |(refine fq ?_))
  ·grind[jD]
  ·rw[if_pos (by grind)] at hp;refine ad.aO (σ:=Int) _ [] ?_ ?_ cq
   ·grind
   ·omega
  ·omega
 ·skip
  repeat' (first
   |refine bq (fun hb=>?_) (fun hb=>?_)<;>(try simp only[bX] at hb)<;>(first|refine gq vt ?_)
   |refine ad.aH ?_;refine gq vt ?_
   |(refine fq ?_))
  ·omega
  ·rw[hp,List.drop_eq_nil_of_le (by omega)];exact jD rfl
end
end
section
variable {P:Program}{w0:World}{rd dr:Bool}{n:Nat}{Q:Exit->AA->ae->Prop}{α au MQ:AA}{S S' S1 S2:ae}{i:QI}{l:List QI}{K:List ff}{r:AV}{cf U2 U3:QF}
theorem og (G:List Nat) (h:af P w0 dr i.q α S r S') (k:ad P w0 rd n Q cf au S1) (hw:bm α.tm i.g=some true:=by rfl) (g:nU G 400 (.aN dr l K) (bC i.d α r) S'=(cf,au,S1):=by conv=>lhs;cbv):ad P w0 rd n Q (.aN dr (i::l) K) α S:=ad.op hw h (ad.yQ G 400 g k)
theorem bg (G:List Nat) {e:Bool}(h:af P w0 dr i.q α S (.v (.bool e)) S') (k1:e=true->ad P w0 rd n Q U2 au S1) (k2:e=false->ad P w0 rd n Q U3 MQ S2) (hw:bm α.tm i.g=some true:=by rfl) (g1:nU G 400 (.aN dr l K) (bC i.d α (.v (.bool true))) S'=(U2,au,S1):=by conv=>lhs;cbv) (g2:nU G 400 (.aN dr l K) (bC i.d α (.v (.bool false))) S'=(U3,MQ,S2):=by conv=>lhs;cbv):ad P w0 rd n Q (.aN dr (i::l) K) α S:=ad.bif hw h (fun e=>ad.yQ G 400 g1 (k1 e)) fun e=>ad.yQ G 400 g2 (k2 e)
theorem cg (G:List Nat) {e:Bool}{p1 p2:Prop}(k1:p1->ad P w0 rd n Q U2 au S1) (k2:p2->ad P w0 rd n Q U3 MQ S2) (hw:bm α.tm i.g=some true:=by rfl) (h:af P w0 dr i.q α S (.v (.bool e)) S':=by exact af.bit rfl) (q1:(e=true)=p1:=by conv=>lhs;(try simp only[bX])) (q2:(e=false)=p2:=by conv=>lhs;(try simp only[bX])) (g1:nU G 400 (.aN dr l K) (bC i.d α (.v (.bool true))) S'=(U2,au,S1):=by conv=>lhs;cbv) (g2:nU G 400 (.aN dr l K) (bC i.d α (.v (.bool false))) S'=(U3,MQ,S2):=by conv=>lhs;cbv):ad P w0 rd n Q (.aN dr (i::l) K) α S:=ad.bif hw h (fun e=>ad.yQ G 400 g1 (k1 (q1 ▸ e))) fun e=>ad.yQ G 400 g2 (k2 (q2 ▸ e))
theorem cn {e:Bool}{p1 p2:Prop}(k1:p1->ad P w0 rd n Q (.aN dr l K) (bC i.d α (.v (.bool true))) S') (k2:p2->ad P w0 rd n Q (.aN dr l K) (bC i.d α (.v (.bool false))) S') (hw:bm α.tm i.g=some true:=by rfl) (h:af P w0 dr i.q α S (.v (.bool e)) S':=by exact af.bit rfl) (q1:(e=true)=p1:=by conv=>lhs;(try simp only[bX])) (q2:(e=false)=p2:=by conv=>lhs;(try simp only[bX])):ad P w0 rd n Q (.aN dr (i::l) K) α S:=ad.bif hw h (fun e=>k1 (q1 ▸ e)) fun e=>k2 (q2 ▸ e)
theorem ig (G:List Nat) {ik:IntKind}{e:Int}{cf:Int->QF}{au:Int->AA}{S1:Int->ae}(h:af P w0 dr i.q α S (.v (.int ik e)) S') (k:∀ d,d=e->ad P w0 rd n Q (cf d) (au d) (S1 d)) (hw:bm α.tm i.g=some true:=by rfl) (g:∀ d,nU G 400 (.aN dr l K) (bC i.d α (.v (.int ik d))) S'=(cf d,au d,S1 d):=by intro d;conv=>lhs;cbv):ad P w0 rd n Q (.aN dr (i::l) K) α S:=ad.int hw h fun d e=>ad.yQ G 400 (g d) (k d e)
theorem lg (G:List Nat) {ik:IntKind}{e f:Int}{cf:Int->QF}{au:Int->AA}{S1:Int->ae}(k:∀ d,d=f->ad P w0 rd n Q (cf d) (au d) (S1 d)) (hw:bm α.tm i.g=some true:=by rfl) (h:af P w0 dr i.q α S (.v (.int ik e)) S':=by exact af.len rfl) (q:e=f:=by conv=>lhs;(try rw[aE])) (g:∀ d,nU G 400 (.aN dr l K) (bC i.d α (.v (.int ik d))) S'=(cf d,au d,S1 d):=by intro d;conv=>lhs;cbv):ad P w0 rd n Q (.aN dr (i::l) K) α S:=ad.int hw h fun d e=>ad.yQ G 400 (g d) (k d (q ▸ e))
theorem ag (G:List Nat) {ik:IntKind}{e:Int}{cf:Int->QF}{au:Int->AA}{S1:Int->ae}(k:∀ d,d=e->ad P w0 rd n Q (cf d) (au d) (S1 d)) (hw:bm α.tm i.g=some true:=by rfl) (h:af P w0 dr i.q α S (.v (.int ik e)) S':=by exact af.wJ rfl rfl rfl (by omega) (by omega)) (g:∀ d,nU G 400 (.aN dr l K) (bC i.d α (.v (.int ik d))) S'=(cf d,au d,S1 d):=by intro d;conv=>lhs;cbv):ad P w0 rd n Q (.aN dr (i::l) K) α S:=ad.int hw h fun d e=>ad.yQ G 400 (g d) (k d e)
end
end Go.Proofs.YtbpabjmnhggajaaGreat
