import Derived.Lib.Bytealg
import Derived.Test.YtbofilglphfceaaGreatProg
import Derived.Test.YtbofilglphfceaaGreatD27
namespace Go.Proofs.YtbofilglphfceaaGreat
set_option linter.unusedVariables false
set_option linter.unusedSimpArgs false
open Go.RowKit
section
set_option maxRecDepth 100000
mutual
def mT:Tm->Nat
 |⟨k,i,n,a⟩=>n.size+kr a+5
def kr:List Tm->Nat
 |[]=>0
 |x::l=>mT x+kr l
end
theorem pF:∀ l,eS mT l=kr l
 |[]=>by rw [kr];rfl
 |x::l=>by rw [kr,eS,pF l]
theorem vv {α:Type}:∀ l:List α,eS (fun _=>1) l=l.length
 |[]=>rfl
 |x::l=>by rw [eS,vv l,List.length_cons];omega
def tQ (x:At):Nat:=x.n.size+kr x.a+3
def oZ (x:Gl):Nat:=x.n.size+kr x.a+4
def tR (x:Im):Nat:=x.n.size+kr x.a+5
def tS (x:Bd):Nat:=mT x.t+2
def tT (x:Fi):Nat:=x.ids.length+3
def vw (x:eN):Nat:=eS oZ x.goals+eS tR x.store+eS tS x.binds+eS tT x.cn+eS oZ x.known+9
theorem GC:∀ n,bw Tryz.prog n 81 4 mI mT:=by
 intro n
 induction n with
 |zero=>intro H enc w sp held m hm;omega
 |succ n ih =>
  intro H enc w sp held m hm cs d hl h
  obtain⟨k,xs,rfl,hx,hd,hf⟩:=bw.fields Tryz.underlying81 h
  have hb:=fJ (xs:=xs)
  rw [hx] at hb
  obtain⟨x0,b0,_,h0⟩:=bw.part (i:=0) (n:=k+1) (bw.int Tryz.underlying3) (by omega) (by kernel_rfl) (by omega) (hf 0 3 0 rfl)
  obtain⟨x1,b1,_,h1⟩:=bw.part (i:=1) (n:=k+1) (bw.int Tryz.underlying3) (by omega) (by kernel_rfl) (by omega) (hf 1 3 1 rfl)
  obtain⟨x2,b2,_,h2⟩:=bw.part (i:=2) (n:=k+1) (bw.str Tryz.underlying9) (by omega) (by kernel_rfl) (by omega) (hf 2 9 2 rfl)
  obtain⟨x3,b3,_,h3⟩:=bw.part (i:=3) (bw.slice Tryz.underlying69 (by kernel_rfl) (by decide) ih) (by omega) (by kernel_rfl) (by omega) (hf 3 69 3 rfl)
  refine⟨⟨x0,x1,x2,x3⟩,?_,by rw [pA (ρ:=.plain)];rfl,fun j a v ha hv=>?_⟩
  ·rw [hd,<-hb,mT]
   rw [pF] at b3
   simp only [List.size_toArray,List.length_cons,List.length_nil,gD,Nat.reduceAdd] at *
   omega
  ·rw [pA (ρ:=.plain)] at ha
   match j with
   |0=>exact h0 0 a v ha hv
   |1=>exact h1 0 a v ha hv
   |2=>exact h2 0 a v ha hv
   |3=>exact h3 0 a v ha hv
   |j+4=>cases ha
theorem GD (n:Nat):bw Tryz.prog n 69 1 (fun l=>[tl .plain l]) (fun l=>kr l+1):=by
 have h:=(bw.slice Tryz.underlying69 (by kernel_rfl) (by decide) (GC n)).less (Nat.le_succ n)
 simp only [pF] at h
 exact h
theorem HP (n:Nat):bw Tryz.prog n 50 1 (fun l=>[dZ .plain gH false l]) (fun l=>l.length+1):=by
 have h:=(bw.slice Tryz.underlying50 (by kernel_rfl) (by decide) (bw.int (n:=n) Tryz.underlying3)).less (Nat.le_succ n)
 simp only [vv] at h
 exact h
theorem LI (n:Nat):bw Tryz.prog n 88 2 (atR .plain) tQ:=by
 intro H enc w sp held m hm cs d hl h
 obtain⟨k,xs,rfl,hx,hd,hf⟩:=bw.fields Tryz.underlying88 h
 have hb:=fJ (xs:=xs)
 rw [hx] at hb
 obtain⟨x0,b0,_,h0⟩:=bw.part (i:=0) (n:=k+1) (bw.str Tryz.underlying9) (by omega) (by kernel_rfl) (by omega) (hf 0 9 0 rfl)
 obtain⟨x1,b1,_,h1⟩:=bw.part (i:=1) (n:=k+1) (GD (k+1)) (by omega) (by kernel_rfl) (by omega) (hf 1 69 1 rfl)
 refine⟨⟨x0,x1⟩,?_,rfl,fun j a v ha hv=>?_⟩
 ·rw [hd,<-hb]
  simp only [List.size_toArray,List.length_cons,List.length_nil,gD,Nat.reduceAdd,tQ,tQ] at *
  omega
 ·match j with
  |0=>exact h0 0 a v ha hv
  |1=>exact h1 0 a v ha hv
  |j+2=>cases ha
theorem LL (n:Nat):bw Tryz.prog n 71 3 (tI .plain) oZ:=by
 intro H enc w sp held m hm cs d hl h
 obtain⟨k,xs,rfl,hx,hd,hf⟩:=bw.fields Tryz.underlying71 h
 have hb:=fJ (xs:=xs)
 rw [hx] at hb
 obtain⟨x0,b0,_,h0⟩:=bw.part (i:=0) (n:=k+1) (bw.int Tryz.underlying3) (by omega) (by kernel_rfl) (by omega) (hf 0 3 0 rfl)
 obtain⟨x1,b1,_,h1⟩:=bw.part (i:=1) (n:=k+1) (bw.str Tryz.underlying9) (by omega) (by kernel_rfl) (by omega) (hf 1 9 1 rfl)
 obtain⟨x2,b2,_,h2⟩:=bw.part (i:=2) (n:=k+1) (GD (k+1)) (by omega) (by kernel_rfl) (by omega) (hf 2 69 2 rfl)
 refine⟨⟨x0,x1,x2⟩,?_,rfl,fun j a v ha hv=>?_⟩
 ·rw [hd,<-hb]
  simp only [List.size_toArray,List.length_cons,List.length_nil,gD,Nat.reduceAdd,oZ,tQ] at *
  omega
 ·match j with
  |0=>exact h0 0 a v ha hv
  |1=>exact h1 0 a v ha hv
  |2=>exact h2 0 a v ha hv
  |j+3=>cases ha
theorem CQ (n:Nat):bw Tryz.prog n 26 1 (fun l=>[gd .plain l]) (fun l=>eS oZ l+1):=(bw.slice Tryz.underlying26 (by kernel_rfl) (by decide) (LL n)).less (Nat.le_succ n)
theorem LM (n:Nat):bw Tryz.prog n 90 3 (F0 .plain) tR:=by
 intro H enc w sp held m hm cs d hl h
 obtain⟨k,xs,rfl,hx,hd,hf⟩:=bw.fields Tryz.underlying90 h
 have hb:=fJ (xs:=xs)
 rw [hx] at hb
 obtain⟨x0,b0,_,h0⟩:=bw.part (i:=0) (n:=k+1) (bw.int Tryz.underlying3) (by omega) (by kernel_rfl) (by omega) (hf 0 3 0 rfl)
 obtain⟨x1,b1,_,h1⟩:=bw.part (i:=1) (n:=k+1) (LI (k+1)) (by omega) (by kernel_rfl) (by omega) (hf 1 88 1 rfl)
 refine⟨⟨x0,x1.n,x1.a⟩,?_,rfl,fun j a v ha hv=>?_⟩
 ·rw [hd,<-hb]
  simp only [List.size_toArray,List.length_cons,List.length_nil,gD,Nat.reduceAdd,tR,tQ] at *
  omega
 ·match j with
  |0=>exact h0 0 a v ha hv
  |1=>exact h1 0 a v ha hv
  |2=>exact h1 1 a v ha hv
  |j+3=>cases ha
theorem JE (n:Nat):bw Tryz.prog n 27 1 (fun l=>[ko .plain l]) (fun l=>eS tR l+1):=(bw.slice Tryz.underlying27 (by kernel_rfl) (by decide) (LM n)).less (Nat.le_succ n)
theorem LN (n:Nat):bw Tryz.prog n 83 5 (Cu .plain) tS:=by
 intro H enc w sp held m hm cs d hl h
 obtain⟨k,xs,rfl,hx,hd,hf⟩:=bw.fields Tryz.underlying83 h
 have hb:=fJ (xs:=xs)
 rw [hx] at hb
 obtain⟨x0,b0,_,h0⟩:=bw.part (i:=0) (n:=k+1) (bw.int Tryz.underlying3) (by omega) (by kernel_rfl) (by omega) (hf 0 3 0 rfl)
 obtain⟨x1,b1,_,h1⟩:=bw.part (i:=1) (n:=k+1) (GC (k+1)) (by omega) (by kernel_rfl) (by omega) (hf 1 81 1 rfl)
 refine⟨⟨x0,x1⟩,?_,rfl,fun j a v ha hv=>?_⟩
 ·rw [hd,<-hb]
  simp only [List.size_toArray,List.length_cons,List.length_nil,gD,Nat.reduceAdd,tS,tQ] at *
  omega
 ·have e:mI x1=xq .plain x1:=pA x1
  rw [e] at h1
  match j with
  |0=>exact h0 0 a v ha hv
  |1=>exact h1 0 a v ha hv
  |2=>exact h1 1 a v ha hv
  |3=>exact h1 2 a v ha hv
  |4=>exact h1 3 a v ha hv
  |j+5=>cases ha
theorem JF (n:Nat):bw Tryz.prog n 29 1 (fun l=>[kp .plain l]) (fun l=>eS tS l+1):=(bw.slice Tryz.underlying29 (by kernel_rfl) (by decide) (LN n)).less (Nat.le_succ n)
theorem LO (n:Nat):bw Tryz.prog n 94 2 (xu .plain) tT:=by
 intro H enc w sp held m hm cs d hl h
 obtain⟨k,xs,rfl,hx,hd,hf⟩:=bw.fields Tryz.underlying94 h
 have hb:=fJ (xs:=xs)
 rw [hx] at hb
 obtain⟨x0,b0,_,h0⟩:=bw.part (i:=0) (n:=k+1) (bw.int Tryz.underlying3) (by omega) (by kernel_rfl) (by omega) (hf 0 3 0 rfl)
 obtain⟨x1,b1,_,h1⟩:=bw.part (i:=1) (n:=k+1) (HP (k+1)) (by omega) (by kernel_rfl) (by omega) (hf 1 50 1 rfl)
 refine⟨⟨x0,x1⟩,?_,rfl,fun j a v ha hv=>?_⟩
 ·rw [hd,<-hb]
  simp only [List.size_toArray,List.length_cons,List.length_nil,gD,Nat.reduceAdd,tT,tQ] at *
  omega
 ·match j with
  |0=>exact h0 0 a v ha hv
  |1=>exact h1 0 a v ha hv
  |j+2=>cases ha
theorem JG (n:Nat):bw Tryz.prog n 30 1 (fun l=>[jC .plain l]) (fun l=>eS tT l+1):=(bw.slice Tryz.underlying30 (by kernel_rfl) (by decide) (LO n)).less (Nat.le_succ n)
theorem JH (n:Nat):bw Tryz.prog n 32 8 (pX .plain) vw:=by
 intro H enc w sp held m hm cs d hl h
 obtain⟨k,xs,rfl,hx,hd,hf⟩:=bw.fields Tryz.underlying32 h
 have hb:=fJ (xs:=xs)
 rw [hx] at hb
 obtain⟨x0,b0,_,h0⟩:=bw.part (i:=0) (n:=k+1) (CQ (k+1)) (by omega) (by kernel_rfl) (by omega) (hf 0 26 0 rfl)
 obtain⟨x1,b1,_,h1⟩:=bw.part (i:=1) (n:=k+1) (JE (k+1)) (by omega) (by kernel_rfl) (by omega) (hf 1 27 1 rfl)
 obtain⟨x2,b2,_,h2⟩:=bw.part (i:=2) (n:=k+1) (JF (k+1)) (by omega) (by kernel_rfl) (by omega) (hf 2 29 2 rfl)
 obtain⟨x3,b3,_,h3⟩:=bw.part (i:=3) (n:=k+1) (JG (k+1)) (by omega) (by kernel_rfl) (by omega) (hf 3 30 3 rfl)
 obtain⟨x4,b4,_,h4⟩:=bw.part (i:=4) (n:=k+1) (CQ (k+1)) (by omega) (by kernel_rfl) (by omega) (hf 4 26 4 rfl)
 obtain⟨x5,b5,_,h5⟩:=bw.part (i:=5) (n:=k+1) (bw.int Tryz.underlying3) (by omega) (by kernel_rfl) (by omega) (hf 5 3 5 rfl)
 obtain⟨x6,b6,_,h6⟩:=bw.part (i:=6) (n:=k+1) (bw.int Tryz.underlying3) (by omega) (by kernel_rfl) (by omega) (hf 6 3 6 rfl)
 obtain⟨x7,b7,_,h7⟩:=bw.part (i:=7) (n:=k+1) (bw.bool Tryz.underlying4) (by omega) (by kernel_rfl) (by omega) (hf 7 4 7 rfl)
 refine⟨⟨x0,x1,x2,x3,x4,x5,x6,x7⟩,?_,rfl,fun j a v ha hv=>?_⟩
 ·rw [hd,<-hb]
  simp only [List.size_toArray,List.length_cons,List.length_nil,gD,Nat.reduceAdd,vw,tQ] at *
  omega
 ·match j with
  |0=>exact h0 0 a v ha hv
  |1=>exact h1 0 a v ha hv
  |2=>exact h2 0 a v ha hv
  |3=>exact h3 0 a v ha hv
  |4=>exact h4 0 a v ha hv
  |5=>exact h5 0 a v ha hv
  |6=>exact h6 0 a v ha hv
  |7=>exact h7 0 a v ha hv
  |j+8=>cases ha
theorem yX {P:Program}{w:World}{r:Reach}{b0:Nat}{t:TypeId}{v:Value}{fs:Array Field}(ht:P.underlying t=some (.struct fs)) (h:Value.okWide P w r b0 t v):∃ cs,v=.agg cs/\cs.size=P.cellsOf t:=by
 unfold Value.okWide at h
 rw [ht] at h
 obtain⟨cs,e,hs,_⟩:=h
 exact⟨cs,e,hs⟩
section
variable {w:World}{r:Reach}{b0:Nat}{v:Value}{H:Type}{enc:TypeId × Value->H}{sp:Nat->Bool}{held:Bool}{d:DataW H}{ps:List MemPlace}
theorem xO (jR:Value.okWide Tryz.prog w r b0 32 v) (h:DataW.Trod enc Tryz.prog w 0 sp held 32 v d ps):∃ x:eN,vw x<=Rows.uptoBulk d/\ao (g0 w) w (l8 .plain x) v:=by
 obtain⟨fuel,hf⟩:=h
 obtain⟨cs,rfl,a7⟩:=yX Tryz.underlying32 jR
 have hs:cs.size=8:=a7.trans (by kernel_rfl)
 obtain⟨x,h1,_,h2⟩:=JH (fuel+1) H enc w sp held fuel (by omega) _ _ (by rw [Array.length_toList];exact hs) hf
 refine⟨x,h1,.agg (by rw [hs];rfl) fun i a y ha hy=>h2 i a y ha ?_⟩
 rw [<-hy]
 exact Array.getElem?_toList
end
end
section
set_option maxRecDepth 100000
attribute [local irreducible] ag aR aa ab
end
section
set_option maxRecDepth 100000
attribute [local irreducible] ag aR aa ab
def rR (l:List Tm):Prop:=eO l/\b_ l<=1099511627776
theorem rR.len {l:List Tm}(h:rR l):l.length<=1099511627776:=Nat.le_trans (nA l) h.2
end
section
set_option maxRecDepth 100000
attribute [local irreducible] ag aR aa ab
end

section
set_option maxRecDepth 100000
attribute [local irreducible] ag aR aa ab
end
section
set_option maxRecDepth 100000
attribute [local irreducible] ag aR aa ab
end
section
set_option maxRecDepth 100000
attribute [local irreducible] ag aR aa ab
end
section
variable {P:Program}{w0:World}{α:AA}{S:U}{dr rd:Bool}{n:Nat}{Q:Exit->AA->U->Prop}{l:List QI}{K:List ji}{ρ:Hd}{T:Type}{f:T->List AV}{dd:Option Nat}{gg:Option (Nat × Bool)}
theorem xJ {met:List T}{i:Nat}{x:T}(h:met[i]?=some x):(ρ.h (List.map f) met)[i]?=some (f x):=by rw [ρ.eq,List.getElem?_map,h];rfl
theorem ab.FM {by_:Nat}{a b:QO}{i:Int}{m:Nat}{sz:Nat}(ρ:Hd) (f:T->List AV) (x0:T) (hw:ca α.tm gg=some true) (h1:a.ev α.tm=.v (.int .i64 i)) (h2:b.ev α.tm=.v (.int .i64 i)) (hi:i=m) (hs:(f x0).length=sz) (hy:m*by_<=35184372088832) (h6:m<=9223372036854775807)
  (kk:∀ met,met=List.replicate m x0->ab P w0 rd n Q (.bB dr l K) (cH dd α (.ob S.nx sz 0 m none)) (S.new (.arr sz (ρ.h (List.map f) met) 0 true))):ab P w0 rd n Q (.bB dr (⟨dd,gg,.eB (f x0) by_ a b⟩::l) K) α S:=by
 have h:=kk _ rfl
 rw [ρ.eq,List.map_replicate] at h
 subst hs hi
 exact ab.op (i:=⟨dd,gg,.eB (f x0) by_ a b⟩) hw (by simpa using aa.FM (P:=P) (w0:=w0) (dr:=dr) (z:=f x0) (by_:=by_) (S:=S) h1 h2 (by omega) rfl (by omega) (by omega)) h
theorem aa.Ju {m p:Nat}{x i:QO}{k off len:Nat}{cx:Option Nat}{ik:IntKind}{j:Int}(h1:x.ev α.tm=.ob k m off len cx) (h2:i.ev α.tm=.v (.int ik j)) (hp:j=p) (h4:p < len):aa P w0 dr (.kT m x i) α S (.pt k m (off+p) 0) S:=by
 subst hp
 exact aa.Iw h1 h2 (by omega) (by omega)
theorem aa.SL {k:LK}{x:QO}{b sz i j fz:Nat}{ex:Bool}{rows:List (List AV)}{row:List AV}{a:AV}(hx:x.ev α.tm=.pt b sz i j) (hk:S.get b=some (.arr sz rows fz ex)) (hi:rows[i]?=some row) (ha:kc k row j=some a):aa P w0 dr (.load k x) α S a S :=
 aa.quiet (by simp only [dY,hx,fY,hk,Nat.beq_refl,hi,ha])
theorem aa.Qt {n:Nat}{x b:QO}{k sz i j:Nat}{ex:Bool}{rows:List (List AV)}{row:List AV}(hx:x.ev α.tm=.pt k sz i j) (hk:S.get k=some (.arr sz rows 0 ex)) (hc:(aA (b.ev α.tm)).all bp=true) (hn:n=(aA (b.ev α.tm)).length) (hi:rows[i]?=some row)
  (hj:j+(aA (b.ev α.tm)).length<=row.length):aa P w0 dr (.store n x b) α S (.v undef) (S.set k (some (.arr sz (rows.set i (ib row j (aA (b.ev α.tm)))) 0 ex))):=by
 refine aa.of rfl fun o hr=>?_
 cases o<;>simp only [res,cA] at hr<;>(repeat' split at hr)<;>(try cases hr)
 rename_i hs
 rw [ay] at hx hc hn hj ⊢
 simp only [aE,hx]
 refine aD.mk (a:=_) ?_ ⟨rfl,rfl⟩
 simp only [iq,hk,hs,hc,hn,Nat.beq_refl,Bool.and_self,hi,Nat.ble_eq_true_of_le hj]
theorem ab.Qu {m:Nat}{x b:QO}{k i:Nat}{ex:Bool}{met:List T}{y:T}{sz:Nat}(hw:ca α.tm gg=some true) (hx:x.ev α.tm=.pt k sz i 0) (hk:S.get k=some (.arr sz (ρ.h (List.map f) met) 0 ex)) (hb:aA (b.ev α.tm)=f y) (hc:(f y).all bp=true) (hl:∀ x,(f x).length=sz) (hm:m=sz) (hi:i < met.length)
  (kk:∀ Jv,Jv=met.set i y->ab P w0 rd n Q (.bB dr l K) (cH dd α (.v undef)) (S.set k (some (.arr sz (ρ.h (List.map f) Jv) 0 ex)))):ab P w0 rd n Q (.bB dr (⟨dd,gg,.store m x b⟩::l) K) α S:=by
 have h:=kk _ rfl
 have CM:(ρ.h (List.map f) met)[i]?=some (f met[i]):=xJ (List.getElem?_eq_getElem hi)
 have e:(ρ.h (List.map f) met).set i (ib (f met[i]) 0 (aA (b.ev α.tm)))=ρ.h (List.map f) (met.set i y):=by
  rw [hb,ρ.eq,ρ.eq,List.map_set]
  congr 1
  unfold ib
  rw [hl,hl,Nat.beq_refl]
  rfl
 rw [<-e] at h
 exact ab.op (i:=⟨dd,gg,.store m x b⟩) hw (aa.Qt hx hk (by rw [hb];exact hc) (by rw [hb,hl];exact hm) CM (by rw [hb,hl,hl];omega)) h
end
end Go.Proofs.YtbofilglphfceaaGreat
