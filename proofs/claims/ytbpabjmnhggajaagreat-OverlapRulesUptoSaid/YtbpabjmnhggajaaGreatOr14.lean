import Derived.Test.YtbpabjmnhggajaaGreatProg
import Derived.Test.YtbpabjmnhggajaaGreatOr13
namespace Go.Proofs.YtbpabjmnhggajaaGreat
set_option linter.all false
set_option maxRecDepth 100000
open Go.RowKit
variable {e:Bool}{ik:IntKind}{P:Prop}
section
attribute [local irreducible] ah aG ae ad
def LQ:Nat:=1099511627776
mutual
def Tm.ok:Tm->Prop
 |⟨k,i,n,a⟩=>a.length<=LQ/\n.size<=LQ/\dG a
def dG:List Tm->Prop
 |[]=>True
 |x::l=>x.ok/\dG l
end
theorem dG.mem:∀{l:List Tm},dG l->∀x ∈ l,x.ok
 |[],_,x,h=>by grind
 |y::l,a,x,h=>by
  rw[dG]at a;rcases ad_.1 h with rfl|h
  ·grind
  ·exact a.2.mem x h
theorem Tm.ok.out {t:Tm}(h:t.ok):t.a.length<=1099511627776/\t.n.size<=1099511627776/\dG t.a:=by
 obtain⟨k,i,n,a⟩:=t;rw[Tm.ok]at h;exact h
def ahB:FQ 240 Tryz.f240:=aF Tryz.func240 Tryz.call240
def adx:List Nat:=[3,2,0,4,6,8]
def ahC:FQ 214 Tryz.f214:=aF Tryz.func214 Tryz.call214
def ady:List Nat:=[4,2,0,1,5,7,9]
def ahD:FQ 213 Tryz.f213:=aF Tryz.func213 Tryz.call213
def adz:List Nat:=[0,1,4,5,9]
def ahE:FQ 215 Tryz.f215:=aF Tryz.func215 Tryz.call215
def adA:List Nat:=[0,1,4,5,9]
def ahF:FQ 248 Tryz.f248:=aF Tryz.func248 Tryz.call248
def adB:List Nat:=[0,2]
def ahG:FQ 265 Tryz.f265:=aF Tryz.func265 Tryz.call265
def adC:List Nat:=[0,2]
def ahH:FQ 221 Tryz.f221:=aF Tryz.func221 Tryz.call221
def WQ:List Nat:=[0,1,6,4,5,11,12,13,16,19]
def ahI:FQ 241 Tryz.f241:=aF Tryz.func241 Tryz.call241
def WR:List Nat:=[0,1,6,4,5,11,12,13,16,19]
def ahJ:FQ 220 Tryz.f220:=aF Tryz.func220 Tryz.call220
def zb:List Nat:=[8,5,3,2,0,7,9,6,14]
def ahK:FQ 203 Tryz.f203:=aF Tryz.func203 Tryz.call203
def Cw:List Nat:=[2,3,20,5,21,6,7,4,0,1,16,29,39,47]
def ahL:FQ 242 Tryz.f242:=aF Tryz.func242 Tryz.call242
def vl:List Nat:=[9,0,5,6,4,8,10,1,22]
def KT:FQ 168 Tryz.f168:=aF Tryz.func168 Tryz.call168
def lz:List Nat:=[2,3,5,15,16,4,0,1,12,24,34,41,54,61]
def ahM:FQ 216 Tryz.f216:=aF Tryz.func216 Tryz.call216
def ml:List Nat:=[5,0,1,6,4,16,29]
def jG (k:Int):Int:=if k=1 then 0 else if k=0 then 1 else if k=2 then 2 else 3
def iG (a b:Int):Int:=if a < b then -1 else if b < a then 1 else 0
def AN (a b:ByteArray):Int:=if Op.bytesLess a.toList b.toList then -1 else if (Op.bytesLess a.toList b.toList || a.toList == b.toList) then 0 else 1
def BT:List Int->Int
 |[]=>0
 |x::l=>if x=0 then BT l else x
def fh (a b:Int):Int:=if a=0 then b else a
mutual
def iH:Tm->Tm->Int
 |⟨k,i,n,a⟩,y=>fh (iG (jG k) (jG y.k)) (if jG k=0\/jG k=1 then iG i y.i else if jG k=2 then fh (iG a.length y.a.length) (fh (AN n y.n) (jH a y.a)) else fh (iG k y.k) (fh (iG i y.i) (AN n y.n)))
def jH:List Tm->List Tm->Int
 |[],m=>iG 0 m.length
 |x::l,[]=>1
 |x::l,y::m=>fh (iH x y) (jH l m)
end
section
variable {w0:World}{ρ:Hd}
theorem adD (k:Int):ah Tryz.prog w0 240 [iv k] (iv (jG k)):=by
 refine st ahB adx .v ?_
 repeat' (first
  |refine bq (λa=>?_) (λa=>?_)<;>(try simp only[bL]at a)<;>(first|refine gq adx ?_)
  |(refine fq ?_))
 all_goals (refine aP.of_eq ?_;simp_all[jG,iv])
theorem ru (x:Tm):ah Tryz.prog w0 214 [tm ρ x] (iv (jG x.k)):=by
 obtain⟨k,i,n,a⟩:=x;refine st ahC ady .v ?_
 repeat' (first
  |refine bq (λb=>?_) (λb=>?_)<;>(try simp only[bL]at b)<;>(first|refine gq ady ?_)
  |(refine fq ?_))
 all_goals (refine aP.of_eq ?_;simp_all[jG,iv])
theorem wS (a b:Int):ah Tryz.prog w0 213 [iv a,iv b] (iv (iG a b)):=by
 refine st ahD adz .v ?_
 repeat' (first
  |refine bq (λc=>?_) (λc=>?_)<;>(try simp only[bL]at c)<;>(first|refine gq adz ?_)
  |(refine fq ?_))
 all_goals (refine aP.of_eq ?_;simp only[iG,iv];(repeat' split)<;>first|rfl|omega)
theorem Iw (a b:ByteArray):ah Tryz.prog w0 215 [.v (.string a),.v (.string b)] (iv (AN a b)):=by
 refine st ahE adA .v ?_
 repeat' (first
  |refine bq (λc=>?_) (λc=>?_)<;>(try simp only[bL]at c)<;>(first|refine gq adA ?_)
  |(refine fq ?_))
 all_goals (refine aP.of_eq ?_;simp_all[AN,iv])
theorem adE (a:Int):ah Tryz.prog w0 248 [iv a] (.v (.bool false)):=by
 refine st ahF adB .v ?_
 repeat' (first
  |refine bq (λb=>?_) (λb=>?_)<;>(try simp only[bL]at b)<;>(first|exact absurd b (by decide)|refine gq adB ?_)
  |(refine fq ?_))
 all_goals (refine aP.of_eq ?_;simp_all)
theorem adF (a:ByteArray):ah Tryz.prog w0 265 [.v (.string a)] (.v (.bool false)):=by
 refine st ahG adC .v ?_
 repeat' (first
  |refine bq (λb=>?_) (λb=>?_)<;>(try simp only[bL]at b)<;>(first|exact absurd b (by decide)|refine gq adC ?_)
  |(refine fq ?_))
 all_goals (refine aP.of_eq ?_;simp_all)
theorem adG (a b:Int):ah Tryz.prog w0 221 [iv a,iv b] (iv (iG a b)):=by
 refine st ahH WQ .v ?_
 repeat' (first
  |refine ad.op rfl (ae.ez rfl (adE _) ⟨.v,trivial⟩) ?_;refine gq WQ ?_
  |refine bq (λc=>?_) (λc=>?_)<;>(try simp only[bL]at c)<;>(first|refine gq WQ ?_)
  |(refine fq ?_))
 all_goals (refine aP.of_eq ?_;simp only[iG,iv];(repeat' split)<;>first|rfl|omega)
theorem adH (a b:ByteArray):ah Tryz.prog w0 241 [.v (.string a),.v (.string b)] (iv (AN a b)):=by
 refine st ahI WR .v ?_
 repeat' (first
  |refine ad.op rfl (ae.ez rfl (adF _) ⟨.v,trivial⟩) ?_;refine gq WR ?_
  |refine bq (λc=>?_) (λc=>?_)<;>(try simp only[bL]at c)<;>(first|refine gq WR ?_)
  |(refine fq ?_))
 all_goals (refine aP.of_eq ?_;simp_all[AN,iv])
theorem dP {S:af}{a b:Int}(h:a=b):aP S (.v (.int .i64 a)) (iv b):=by subst h;exact aP.refl _
theorem bY {S:af}{a b:Bool}(h:a=b):aP S (.v (.bool a)) (.v (.bool b)):=by subst h;exact aP.refl _
theorem amq (l:List Int) (d:l.length<=LQ):ah Tryz.prog w0 220 [aR ρ aI false l] (iv (BT l)):=by
 rw[LQ]at d;refine st ahJ zb .v ?_
 repeat' (first
  |refine bS λm e=>?_;(try rw[au]at e);refine gq zb ?_
  )
 refine ad.aK (σ:=Int) 0 0 [] (λi=>[(3,.v (.int .i64 0)),(6,aR ρ aI false l),(7,.v (.int .i64 m)),(8,.v (.int .i64 i))]) [] (λ_=>[])
  (λi=>∃k:Nat,i=k/\k<=l.length/\BT l=BT (l.drop k)) (λi=>l.length - i.toNat) 0 ⟨0,rfl,by simp,by simp⟩ rfl cq ?_
 rintro i ⟨k,g,n,b⟩;refine gq zb ?_;by_cases c:k < l.length
 ·obtain⟨x,h,j⟩:∃x,l[k]?=some x/\l.drop k=x::l.drop (k+1):=⟨l[k],ai_ c,bq_ c⟩;rw[j,BT]at b
  repeat' (first
   |refine ad.op rfl (ae.ind rfl rfl (aB (l:=l) g h) (aA λ_=>rfl)) ?_;refine gq zb ?_
   |refine bq (λa=>?_) (λa=>?_)<;>(try simp only[bL]at a)<;>(first|refine gq zb ?_)
   |refine cw λ_ _=>?_;refine gq zb ?_
   |refine ad.ao ?_;refine gq zb ?_
   |refine ad.bh ?_;refine gq zb ?_
   |(refine fq ?_))
  ·grind[dP]
  ·rw[if_pos (by grind)]at b;refine ad.az (σ:=Int) _ [] ?_ ?_ cq
   ·grind
   ·omega
  ·omega
 ·skip
  repeat' (first
   |refine bq (λa=>?_) (λa=>?_)<;>(try simp only[bL]at a)<;>(first|refine gq zb ?_)
   |refine ad.ao ?_;refine gq zb ?_
   |(refine fq ?_))
  ·omega
  ·rw[b,ak_ (by omega)];exact dP rfl
end
end
section
variable {P:Program}{w0:World}{rd dr:Bool}{n:Nat}{Q:Exit->AA->af->Prop}{α aE RX:AA}{S S' S1 S2:af}{i:QI}{l:List QI}{K:List f_}{r:AV}{cf ZM ZN:QF}
theorem og (G:List Nat) (h:ae P w0 dr i.q α S r S') (k:ad P w0 rd n Q cf aE S1) (a:bG α.tm i.g=some true:=by rfl) (g:nh G 400 (.bc dr l K) (bP i.d α r) S'=(cf,aE,S1):=by conv=>lhs;cbv):ad P w0 rd n Q (.bc dr (i::l) K) α S:=ad.op a h (ad.yd G 400 g k)
theorem bg (G:List Nat) (h:ae P w0 dr i.q α S (.v (.bool e)) S') (a:e=true->ad P w0 rd n Q ZM aE S1) (b:e=false->ad P w0 rd n Q ZN RX S2) (c:bG α.tm i.g=some true:=by rfl) (d:nh G 400 (.bc dr l K) (bP i.d α (.v (.bool true))) S'=(ZM,aE,S1):=by conv=>lhs;cbv) (g2:nh G 400 (.bc dr l K) (bP i.d α (.v (.bool false))) S'=(ZN,RX,S2):=by conv=>lhs;cbv):ad P w0 rd n Q (.bc dr (i::l) K) α S:=ad.bif c h (λe=>ad.yd G 400 d (a e)) λe=>ad.yd G 400 g2 (b e)
theorem cg (G:List Nat) {a b:Prop}(c:a->ad P w0 rd n Q ZM aE S1) (d:b->ad P w0 rd n Q ZN RX S2) (f:bG α.tm i.g=some true:=by rfl) (h:ae P w0 dr i.q α S (.v (.bool e)) S':=by exact ae.bit rfl) (q1:(e=true)=a:=by conv=>lhs;(try simp only[bL])) (g:(e=false)=b:=by conv=>lhs;(try simp only[bL])) (j:nh G 400 (.bc dr l K) (bP i.d α (.v (.bool true))) S'=(ZM,aE,S1):=by conv=>lhs;cbv) (g2:nh G 400 (.bc dr l K) (bP i.d α (.v (.bool false))) S'=(ZN,RX,S2):=by conv=>lhs;cbv):ad P w0 rd n Q (.bc dr (i::l) K) α S:=ad.bif f h (λe=>ad.yd G 400 j (c (q1 ▸ e))) λe=>ad.yd G 400 g2 (d (g ▸ e))
theorem cn {a b:Prop}(c:a->ad P w0 rd n Q (.bc dr l K) (bP i.d α (.v (.bool true))) S') (d:b->ad P w0 rd n Q (.bc dr l K) (bP i.d α (.v (.bool false))) S') (f:bG α.tm i.g=some true:=by rfl) (h:ae P w0 dr i.q α S (.v (.bool e)) S':=by exact ae.bit rfl) (q1:(e=true)=a:=by conv=>lhs;(try simp only[bL])) (g:(e=false)=b:=by conv=>lhs;(try simp only[bL])):ad P w0 rd n Q (.bc dr (i::l) K) α S:=ad.bif f h (λe=>c (q1 ▸ e)) λe=>d (g ▸ e)
theorem ig (G:List Nat) {e:Int}{cf:Int->QF}{aE:Int->AA}{S1:Int->af}(h:ae P w0 dr i.q α S (.v (.int ik e)) S') (k:∀d,d=e->ad P w0 rd n Q (cf d) (aE d) (S1 d)) (a:bG α.tm i.g=some true:=by rfl) (g:∀d,nh G 400 (.bc dr l K) (bP i.d α (.v (.int ik d))) S'=(cf d,aE d,S1 d):=by intro d;conv=>lhs;cbv):ad P w0 rd n Q (.bc dr (i::l) K) α S:=ad.int a h λd e=>ad.yd G 400 (g d) (k d e)
theorem lg (G:List Nat) {e f:Int}{cf:Int->QF}{aE:Int->AA}{S1:Int->af}(k:∀d,d=f->ad P w0 rd n Q (cf d) (aE d) (S1 d)) (a:bG α.tm i.g=some true:=by rfl) (h:ae P w0 dr i.q α S (.v (.int ik e)) S':=by exact ae.len rfl) (q:e=f:=by conv=>lhs;(try rw[au])) (g:∀d,nh G 400 (.bc dr l K) (bP i.d α (.v (.int ik d))) S'=(cf d,aE d,S1 d):=by intro d;conv=>lhs;cbv):ad P w0 rd n Q (.bc dr (i::l) K) α S:=ad.int a h λd e=>ad.yd G 400 (g d) (k d (q ▸ e))
theorem ag (G:List Nat) {e:Int}{cf:Int->QF}{aE:Int->AA}{S1:Int->af}(k:∀d,d=e->ad P w0 rd n Q (cf d) (aE d) (S1 d)) (a:bG α.tm i.g=some true:=by rfl) (h:ae P w0 dr i.q α S (.v (.int ik e)) S':=by exact ae.yf rfl rfl rfl (by omega) (by omega)) (g:∀d,nh G 400 (.bc dr l K) (bP i.d α (.v (.int ik d))) S'=(cf d,aE d,S1 d):=by intro d;conv=>lhs;cbv):ad P w0 rd n Q (.bc dr (i::l) K) α S:=ad.int a h λd e=>ad.yd G 400 (g d) (k d e)
end
theorem pq (h:P:=by first|exact .v|exact bt _|exact cG _|exact dk _|exact dM _|exact fA _|exact qO _|exact tL _|exact fW _|exact tN _|exact bQ _|exact lN _|exact lO _|exact Ec _|exact zw _|exact wC _|exact fQ _|exact pN _|exact wR _|assumption|fail):P:=h
theorem kz (h:P:=by (repeat' (first|exact trivial|(refine⟨?_,?_⟩;first|exact .aC .v|exact .kO|exact .jT rfl rfl|exact .ni rfl rfl|exact .sv rfl rfl|exact .aC (.pt (by decide))|exact .aC (.gr (by decide))|exact .aC (.mp (by decide))|exact .aC wz|exact .aC (Pure.bm pq)|exact .aC .u|exact .aC (.ip λb a=>(by assumption:∀b ∈ _,Pure b) b a |>.bm))))):P:=h
theorem cz (h:P:=by
 refine⟨?_,rfl,?_,rfl,rfl,rfl⟩
 ·repeat' (first|exact trivial|(refine⟨?_,?_⟩;first|exact .aC rfl .v|exact .aC rfl (.pt (by decide))|exact .kO rfl|exact .jT rfl rfl|exact .ni rfl rfl|exact .sv rfl rfl|exact .new rfl rfl|exact .aC rfl (.gr (by decide))|exact .aC rfl (.mp (by decide))|exact .aC rfl (.ob (by decide))|exact .aC rfl (.yl (by decide))|exact .aC rfl wz|exact .aC rfl (Pure.bm pq)|exact .aC rfl .u|exact .aC rfl (abj (by decide))))
 ·repeat' (first|exact trivial|(refine⟨?_,?_⟩;first|exact .inr rfl|(refine .inl ⟨_,rfl,?_⟩;first|exact .same trivial|exact .same qP|exact .same (by assumption)|exact .same abk|exact .same abl|exact .same Ed|exact .same (fy _)|exact .same (eK _)|exact .same (nj _)|exact .same (mq _)|exact .same (lP _)|exact .same (lQ _)|exact .same (nk _)|exact .same (Ee _)|exact .same (abm _)|exact .same (o6 (by omega))|exact .same (sw (by decide))|exact .same (ln (by decide))|exact .same (jS λx _=>tK x)|exact .same (jS λx _=>qN x)|exact .same (jS λx _=>wT x)|exact .same (jS λx _ a b=>LR x a b)|exact .arr ⟨kz,trivial⟩|exact .same (mu λa b=>by obtain rfl:=ae_.1 b;exact pq)))) ):P:=h
theorem pz (h:P:=by first|((repeat' (first|exact trivial|(refine⟨?_,?_⟩;exact pq)));done)|exact AO (m:=60) rfl):P:=h
section
variable {P:Program}{w0:World}{rd dr:Bool}{n:Nat}{Q:Exit->AA->af->Prop}{α aE:AA}{S S1:af}{d:Option Nat}{y:Option (Nat × Bool)}{l:List QI}{K:List f_}{r:AV}{cf:QF}{f:QO}{bs:List QO}{g:FuncId}{args:List AV}
theorem pl (a:ah P w0 g args r) (h:eV (f.ev α.tm) (bs.map (·.ev α.tm))=some (g,args):=by rfl) (b:kc args:=by exact pz):ae P w0 dr (.call f bs) α S r S:=ae.ez h a b
theorem bK (G:List Nat) (a:ah P w0 g args r) (k:ad P w0 rd n Q cf aE S1) (h:eV (f.ev α.tm) (bs.map (·.ev α.tm))=some (g,args):=by rfl) (b:kc args:=by exact pz) (c:bG α.tm y=some true:=by rfl) (e:nh G 400 (.bc dr l K) (bP d α r) S=(cf,aE,S1):=by conv=>lhs;cbv):ad P w0 rd n Q (.bc dr (⟨d,y,.call f bs⟩::l) K) α S:=ad.op c (ae.ez h a b) (ad.yd G 400 e k)
end
section
attribute [local irreducible] ah aG ae ad
theorem aD {T:Type}{l:List T}{k:Nat}(h:k < l.length):∃x,l[k]?=some x/\l.drop k=x::l.drop (k+1):=⟨l[k],ai_ h,bq_ h⟩
theorem bM {T:Type}{l:List T}{k:Nat}{x:T}(h:l[k]?=some x):x ∈ l:=aa_ h
section
variable {w0:World}{ρ:Hd}
theorem Jo {a b:Int}(h:iG a b=0):a=b:=by grind[iG]
theorem ahN (x y z:Int):ah Tryz.prog w0 220 [aR .plain aI false [x,y,z]] (iv (BT [x,y,z])):=amq [x,y,z] (by simp[LQ])
theorem T5:jH [] []=0:=by simp[jH,iG]
theorem abn {a b:List Tm}(h:∀x ∈ a,∀y,x.ok->y.ok->ah Tryz.prog w0 203 [tm ρ x,tm ρ y] (iv (iH x y))) (j:dG a) (n:dG b) (s:a.length<=1099511627776) (t:a.length=b.length) :
  ah Tryz.prog w0 242 [tl ρ a,tl ρ b] (iv (jH a b)):=by
 refine st ahL vl .v ?_
 repeat' (first
  |refine lg vl λm u=>?_
  )
 refine ad.aK (σ:=Int) 0 0 [] (λi=>[(0,tl ρ a),(1,tl ρ b),(8,.v (.int .i64 m)),(9,.v (.int .i64 i))]) [] (λ_=>[])
  (λi=>∃k:Nat,i=k/\k<=a.length/\jH a b=jH (a.drop k) (b.drop k)) (λi=>a.length - i.toNat) 0 ⟨0,rfl,by simp,by simp⟩ rfl cq ?_
 rintro i ⟨k,e,v,f⟩;refine gq vl ?_;by_cases p:k < a.length
 ·obtain⟨x,c,q⟩:=aD p;obtain⟨y,g,r⟩:=aD (show k < b.length by omega);rw[q,r,jH,fh]at f
  repeat' (first
   |refine og vl (ae.ind rfl rfl (cC (l:=a) e c) cD) ?_
   |refine og vl (ae.ind rfl rfl (cC (l:=b) e g) cD) ?_
   |refine ig vl (pl (h x (bM c) y (j.mem x (bM c)) (n.mem y (bM g)))) λ_ _=>?_
   |refine cg vl (λd=>?_) λd=>?_
   |refine ag vl λ_ _=>?_
   |refine ad.ao ?_;refine gq vl ?_
   |refine ad.bh ?_;refine gq vl ?_
   |(refine fq ?_))
  ·grind[dP]
  ·subst_vars;rw[if_pos (by grind)]at f;refine ad.az (σ:=Int) _ [] ?_ ?_ cq
   ·grind
   ·omega
  ·omega
 ·skip
  repeat' (first
   |refine cg vl (λd=>?_) λd=>?_
   |refine ad.ao ?_;refine gq vl ?_
   |(refine fq ?_))
  ·omega
  ·grind[T5,dP]
theorem T6 (x y:Tm) (c:x.ok) (d:y.ok):ah Tryz.prog w0 203 [tm ρ x,tm ρ y] (iv (iH x y)):=by
 revert y c d;refine Tm.ind (p:=λx=>∀y:Tm,x.ok->y.ok->ah Tryz.prog w0 203 [tm ρ x,tm ρ y] (iv (iH x y))) ?_ x;intro k i n a h y c d;obtain⟨e,j,f⟩:=c.out;obtain⟨l,o,g⟩:=d.out;obtain⟨s,t,u,q⟩:=y;dsimp only at e j f l o g;rw[iH];dsimp only;refine st ahK Cw .v ?_
 repeat' (first
  |refine ig Cw (pl (adD _)) λ_ _=>?_
  |refine ig Cw (pl (adG _ _)) λ_ _=>?_
  |refine ig Cw (pl (adH _ _)) λ_ _=>?_
  |refine ig Cw (pl (abn (a:=a) (b:=q) h f g e (by grind[Jo]))) λ_ _=>?_
  |refine ig Cw (ae.oZ rfl (ahN _ _ _) ⟨bt _,trivial⟩ ⟨Wk.sl,trivial⟩) λ_ _=>?_
  |refine cg Cw (λr=>?_) λr=>?_
  |refine lg Cw λm v=>?_
  |(refine fq ?_))
 all_goals (subst_vars;refine dP ?_;simp only[fh,BT];(repeat' split)<;>first|rfl|omega)
end
end
section
variable {P:Program}{w0:World}{α:AA}{S:af}
theorem ae.ext {f:QO}{aZ9:List QO}{g:FuncId}{xs:List Value}{v:Value}(h:f.ev α.tm=.v (.func (.func g) #[] #[])) (i:aZ9.map (·.ev α.tm)=xs.map .v) (j:∀w:World,(callFunc g xs.toArray).run P w=.ok (.value v) w):ae P w0 false (.call f aZ9) α S (.v v) S:=by
 refine ae.run λn o k=>?_;obtain⟨c,u,m,p,rfl,rfl⟩:=lV k;rw[jt]at i;rw[aW]at h;refine a8.quiet λA C q w D b=>?_;have d:=b.ev u;rw[h]at d;have r:=b_ d;have key:∀(l:List Operand) (xs:List Value),l.map α.ev=xs.map AV.v->l.map q.eval=xs:=by
  intro l
  induction l with
  |nil =>
   intro xs h;cases xs with
   |nil=>rfl
   |cons x xs=>cases h
  |cons y l s =>
   intro xs h;cases xs with
   |nil=>cases h
   |cons x xs =>
    rw[aC_,aC_]at h;injection h with t z;have e:=b.ev y;rw[t]at e;rw[aC_,b_ e,s xs z]
 have B:c.args.map q.eval=xs.toArray:=by grind
 refine⟨v,?_,.v⟩;have a:=j w;simp[execOp,m,p,r,B,a,resolve,invoke,Deferred.ofValue]
end
end Go.Proofs.YtbpabjmnhggajaaGreat
