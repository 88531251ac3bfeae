import Derived.Test.YtgphljokbodciaaGreatS9
namespace Go.Proofs.YtgphljokbodciaaGreat
set_option linter.unusedVariables false
set_option linter.unusedSimpArgs false
open Go.RowKit
def kX {T:Type}(f:T->AV) (l:List (Int × T)):List (Value × AV):=l.map fun p=>(eN p.1,f p.2)
def j5 {T:Type}:List (Int × T)->Int->Option T
 |[],_=>none
 |p::l,i=>if p.1=i then some p.2 else j5 l i
def qA {T:Type}:List (Int × T)->Int->T->List (Int × T)
 |[],i,v=>[(i,v)]
 |p::l,i,v=>if p.1=i then (i,v)::l else p::qA l i v
theorem Kt {T:Type}{l:List (Int × T)}{i j:Int}{v:T}:j5 (qA l i v) j=if i=j then some v else j5 l j:=by
 induction l with
 |nil=>simp [qA,j5]
 |cons p l ih =>
  simp only [qA]
  by_cases h:p.1=i
  ·rw [if_pos h]
   by_cases e:i=j
   ·simp [j5,e]
   ·simp only [j5,if_neg e]
    rw [if_neg (by rw [h];exact e)]
  ·rw [if_neg h]
   simp only [j5]
   by_cases e:p.1=j
   ·rw [if_pos e,if_pos e,if_neg (by rw [<-e];exact fun h'=>h h'.symm)]
   ·rw [if_neg e,if_neg e,ih]
section
variable {T:Type}{f:T->AV}{l:List (Int × T)}
theorem z5:qB (kX f l):=fun p hp=>by
 obtain⟨q,_,rfl⟩:=List.mem_map.1 hp
 exact⟨_,rfl⟩
theorem Ku (i:Int):tJ (kX f l) i=(j5 l i).map f:=by
 induction l with
 |nil=>rfl
 |cons p l ih =>
  simp only [kX,List.map_cons,tJ,lh,eN,j5] at ih ⊢
  by_cases h:p.1=i
  ·simp [h]
  ·simp only [h,decide_false,if_false]
   rw [<-ih]
   cases lh (l.map fun p=>(Value.int .i64 p.1,f p.2)) i with
   |none=>rfl
   |some j=>simp
theorem CB (i:Int) (v:T):xI (kX f l) i (f v)=kX f (qA l i v):=by
 induction l with
 |nil=>rfl
 |cons p l ih =>
  simp only [kX,List.map_cons,xI,lh,eN,qA] at ih ⊢
  by_cases h:p.1=i
  ·simp [h,eN]
  ·simp only [h,decide_false,if_false,List.map_cons]
   rw [<-ih]
   cases lh (l.map fun p=>(Value.int .i64 p.1,f p.2)) i with
   |none=>rfl
   |some j=>simp
end
section
variable {P:Program}{w0:World}{rd:Bool}{n B:Nat}{α:AA}{S S':ae}{Q:Exit->AA->ae->Prop}{r:AV}{l:List QI}{K:List iq}{V:List (Nat × Nat)}{lg:List (List Nat × List Nat × Bool)}{rs:List Nat}
theorem uT {o:Op}{x:Option QO}(h:res P.toTables o=some (.eZ x)):∃ t y kt et,o=.makeMap t y/\x=y.map qo/\P.underlying t=some (.map kt et):=by
 cases o with
 |makeMap t y =>
  simp only [res,b_] at h
  split at h
  ·rename_i kt et hu
   simp only [Option.some.injEq,dz.eZ.injEq] at h
   exact⟨_,_,_,_,rfl,h.symm,hu⟩
  ·cases h
 |_ =>
  simp only [res] at h
  repeat' split at h
  all_goals cases h
theorem ad.eZ:ad P w0 false (.eZ none) α S (.mp S.nx) (S.new (.mp [])):=ad.run fun n o hr=>by
 obtain⟨t,y,kt,et,ho,hy,hu⟩:=uT hr
 cases y with
 |some y=>cases hy
 |none=>exact A6 ho
theorem ad.yD {x:QO}{kk:IntKind}{m:Int}(hx:x.ev α.tm=.v (.int kk m)):ad P w0 false (.eZ (some x)) α S (.mp S.nx) (S.new (.mp [])):=ad.run fun n o hr=>by
 obtain⟨t,y,kt,et,ho,hy,hu⟩:=uT hr
 cases y with
 |none=>cases hy
 |some y =>
  obtain rfl:=Option.some.inj hy
  rw [aU] at hx
  exact GX ho hu hx
theorem Mq {o:Op}{z:AV}{c:Bool}{x i:QO}(h:res P.toTables o=some (.look z c x i)):∃ t u v kt et kk zv,o=.lookup t u v c/\x=qo u/\i=qo v/\P.underlying t=some (.map kt et)/\P.underlying kt=some (.int kk)/\cY P et=some zv/\z=lift zv:=by
 cases o with
 |lookup t u v c' =>
  simp only [res,b_,gV] at h
  split at h
  ·rename_i kt et hu
   split at h
   ·rename_i kk zv hk hz
    simp only [Option.some.injEq,dz.look.injEq] at h
    obtain⟨rfl,rfl,rfl,rfl⟩:=h
    exact⟨_,_,_,_,_,_,_,rfl,rfl,rfl,hu,hk,hz,rfl⟩
   all_goals cases h
  ·cases h
 |_ =>
  simp only [res] at h
  repeat' split at h
  all_goals cases h
theorem ad.look {z:AV}{c:Bool}{x i:QO}{k:Nat}{es:List (Value × AV)}{m:Int}(hx:x.ev α.tm=.mp k) (hS:S.get k=some (.mp es)) (hk:qB es) (hi:i.ev α.tm=.v (.int .i64 m)) :
  ad P w0 false (.look z c x i) α S (match tJ es m with|some a=>(if c then .bc [a,.v (.bool true)] else a)|none=>(if c then .bc [z,.v (.bool false)] else z)) S:=ad.run fun n o hr=>by
 obtain⟨t,u,v,kt,et,kk,zv,ho,rfl,rfl,h1,h2,h3,rfl⟩:=Mq hr
 rw [aU] at hx hi
 exact Mr ho h1 h2 h3 hx hS hk hi
theorem CC {o:Op}{x i b:QO}(h:res P.toTables o=some (.j6 x i b)):∃ t u v y kt et kk,o=.mapUpdate t u v y/\x=qo u/\i=qo v/\b=qo y/\P.underlying t=some (.map kt et)/\P.underlying kt=some (.int kk):=by
 cases o with
 |mapUpdate t u v y =>
  simp only [res,b_] at h
  split at h
  ·rename_i kt et hu
   split at h
   ·rename_i kk hk
    simp only [Option.some.injEq,dz.j6.injEq] at h
    obtain⟨rfl,rfl,rfl⟩:=h
    exact⟨_,_,_,_,_,_,_,rfl,rfl,rfl,rfl,hu,hk⟩
   all_goals cases h
  ·cases h
 |_ =>
  simp only [res] at h
  repeat' split at h
  all_goals cases h
theorem ad.j6 {x i b:QO}{k:Nat}{es:List (Value × AV)}{m:Int}{a:AV}(hx:x.ev α.tm=.mp k) (hS:S.get k=some (.mp es)) (hk:qB es) (hi:i.ev α.tm=.v (.int .i64 m)) (hb:b.ev α.tm=a) :
  ad P w0 false (.j6 x i b) α S (.v undef) (S.set k (some (.mp (xI es m a)))):=ad.run fun n o hr=>by
 obtain⟨t,u,v,y,kt,et,kk,ho,rfl,rfl,rfl,h1,h2⟩:=CC hr
 rw [aU] at hx hi hb
 exact CD ho h1 h2 hx hS hk hi hb
variable {ρ:Hd}{T:Type}{f:T->AV}{kv:List (Int × T)}
theorem ab.look {d:Option Nat}{g:Option (Nat × Bool)}{z:AV}{c:Bool}{x i:QO}{k:Nat}{m:Int}(hw:cb α.tm g=some true) (hx:x.ev α.tm=.mp k) (hS:S.get k=some (.mp (ρ.h (kX f) kv))) (hi:i.ev α.tm=.v (.int .i64 m))
  (k1:∀ v,j5 kv m=some v->ab P w0 rd n Q (.bz false l K) (cG d α (if c then .bc [f v,.v (.bool true)] else f v)) S) (k2:j5 kv m=none->ab P w0 rd n Q (.bz false l K) (cG d α (if c then .bc [z,.v (.bool false)] else z)) S) :
  ab P w0 rd n Q (.bz false (⟨d,g,.look z c x i⟩::l) K) α S:=by
 have h:=ad.look (P:=P) (w0:=w0) (z:=z) (c:=c) hx hS (by rw [ρ.eq];exact z5) hi
 rw [ρ.eq,Ku] at h
 refine ab.op (i:=⟨d,g,.look z c x i⟩) hw h ?_
 cases hl:j5 kv m with
 |some v=>exact k1 v hl
 |none=>exact k2 hl
theorem ab.j6 {d:Option Nat}{g:Option (Nat × Bool)}{x i b:QO}{k:Nat}{m:Int}{v:T}(hw:cb α.tm g=some true) (hx:x.ev α.tm=.mp k) (hS:S.get k=some (.mp (ρ.h (kX f) kv))) (hi:i.ev α.tm=.v (.int .i64 m)) (hb:b.ev α.tm=f v)
  (k1:∀ sY,sY=qA kv m v->ab P w0 rd n Q (.bz false l K) (cG d α (.v undef)) (S.set k (some (.mp (ρ.h (kX f) sY))))):ab P w0 rd n Q (.bz false (⟨d,g,.j6 x i b⟩::l) K) α S:=by
 have h:=ad.j6 (P:=P) (w0:=w0) hx hS (by rw [ρ.eq];exact z5) hi hb
 rw [ρ.eq,CB,<-ρ.eq (kX f)] at h
 exact ab.op (i:=⟨d,g,.j6 x i b⟩) hw h (k1 _ rfl)
theorem ab.eZ {d:Option Nat}{g:Option (Nat × Bool)}(ρ:Hd) (f:T->AV) (hw:cb α.tm g=some true) (k1:∀ kv:List (Int × T),kv=[]->ab P w0 rd n Q (.bz false l K) (cG d α (.mp S.nx)) (S.new (.mp (ρ.h (kX f) kv)))):ab P w0 rd n Q (.bz false (⟨d,g,.eZ none⟩::l) K) α S:=by
 have h:=k1 [] rfl
 rw [ρ.eq] at h
 exact ab.op (i:=⟨d,g,.eZ none⟩) hw ad.eZ h
theorem ab.yD {d:Option Nat}{g:Option (Nat × Bool)}{x:QO}{kk:IntKind}{m:Int}(ρ:Hd) (f:T->AV) (hw:cb α.tm g=some true) (hx:x.ev α.tm=.v (.int kk m)) (k1:∀ kv:List (Int × T),kv=[]->ab P w0 rd n Q (.bz false l K) (cG d α (.mp S.nx)) (S.new (.mp (ρ.h (kX f) kv)))):ab P w0 rd n Q (.bz false (⟨d,g,.eZ (some x)⟩::l) K) α S:=by
 have h:=k1 [] rfl
 rw [ρ.eq] at h
 exact ab.op (i:=⟨d,g,.eZ (some x)⟩) hw (ad.yD hx) h
end
section
variable {ι:Nat->Nat}{M:Nat}
theorem Rn.pure {a:AV}(h:Pure a):Rn ι M a a:=fun g w x hr=>aL.pure (g:=g) (g':=g.pre ι M) (fun _ _ h=>h) (fun _ _ _=>rfl) hr h
theorem Rn.gr {j k sz len:Nat}(h:k=ι j) (hj:Nat.blt j M=true):Rn ι M (.gr k sz len) (.gr j sz len):=fun g w x hr=>by
 subst h
 cases hr with
 |iW=>exact .iW
 |gr hk hx hle=>exact .gr (g:=g.pre ι M) (k:=j) ⟨dZ hj,hk⟩ hx hle
theorem Rn.nil {j sz:Nat}:Rn ι M (.sl true []) (.gr j sz 0):=fun g w x hr=>by
 cases hr with
 |nil hc=>rw [hc rfl];exact .iW
 |sl hn=>exact absurd rfl hn
theorem Rn.pt {j k sz i q:Nat}(h:k=ι j) (hj:Nat.blt j M=true):Rn ι M (.pt k sz i q) (.pt j sz i q):=fun g w x hr=>by
 subst h
 cases hr with
 |pt hk=>exact .pt (g:=g.pre ι M) (k:=j) ⟨dZ hj,hk⟩
theorem Rn.yl {j k:Nat}(h:k=ι j) (hj:Nat.blt j M=true):Rn ι M (.yl k) (.yl j):=fun g w x hr=>by
 subst h
 cases hr with
 |yl hk=>exact .yl (g:=g.pre ι M) (k:=j) ⟨dZ hj,hk⟩
def CE (ι:Nat->Nat) (M:Nat):List AV->List AV->Prop
 |[],[]=>True
 |a::l,b::m=>Rn ι M a b/\CE ι M l m
 |_,_=>False
theorem CE.at:∀ {l m:List AV},CE ι M l m->l.length=m.length/\∀ (i:Nat) (b:AV),m[i]?=some b->∃ a,l[i]?=some a/\Rn ι M a b
 |[],[],_=>⟨rfl,fun i b h=>by simp at h⟩
 |a::l,b::m,hc=>⟨by simp [hc.2.at.1],fun i c h=>by
  cases i with
  |zero=>simp at h;subst h;exact⟨a,rfl,hc.1⟩
  |succ i=>simp at h;obtain⟨d,h1,h2⟩:=hc.2.at.2 i c h;exact⟨d,by simpa using h1,h2⟩⟩
 |[],_::_,h=>h.elim
 |_::_,[],h=>h.elim
theorem kF.pure {sz fz:Nat}{rows:List (List AV)}{ex:Bool}(h:∀ row ∈ rows,∀ a ∈ row,Pure a):kF ι M (.arr sz rows fz ex) (.arr sz rows fz ex):=by
 refine⟨fun g w b cp hr=>?_,fun J h=>by cases h⟩
 obtain⟨cs,ty,h1,h2,h3,h4,h5,h6,h7⟩:=hr
 refine⟨cs,ty,h1,h2,h3,h4,fun i row hr=>⟨(h5 i row hr).1,fun j a ha=>?_⟩,h6,h7⟩
 obtain⟨x,hx,dO⟩:=(h5 i row hr).2 j a ha
 exact⟨x,hx,Rn.pure (h _ (List.mem_of_getElem? hr) _ (List.mem_of_getElem? ha)) g w x dO⟩
theorem kF.fo {J:iX}:kF ι M (.fo J) (.fo J):=⟨fun g w b cp hr=>hr,fun J' h=>h⟩
theorem Rb.pure {a:AV}(h:Pure a):Rb ι a a:=fun gc g w x hB hr=>aL.pure (g:=gc) (g':=g) (fun b q hq=>by rw [hB.fz];exact hq) (fun _ _ _=>rfl) hr h
theorem Rb.gr {j k sz len:Nat}(h:k=ι j):Rb ι (.gr j sz len) (.gr k sz len):=fun gc g w x hB hr=>by
 subst h
 cases hr with
 |iW=>exact .iW
 |gr hk hx hle=>rw [<-hB.ob j hk];exact .gr (hB.al j hk) (by rw [hB.cp j hk];exact hx) hle
theorem Rb.ob {j k sz off len:Nat}{cx:Option Nat}(h:k=ι j):Rb ι (.ob j sz off len cx) (.ob k sz off len cx):=fun gc g w x hB hr=>by
 subst h
 cases hr with
 |ob hk hc hp hx hle=>rw [<-hB.ob j hk];exact .ob (hB.al j hk) hc (by rw [hB.cp j hk];exact hp) (by rw [hB.cp j hk];exact hx) hle
theorem kY.pure {sz fz:Nat}{rows:List (List AV)}{ex:Bool}(h:∀ row ∈ rows,∀ a ∈ row,Pure a):kY ι (.arr sz rows fz ex) (.arr sz rows fz ex):=by
 refine⟨fun gc g w b cp hB _ hr=>?_,fun J h=>by cases h⟩
 obtain⟨cs,ty,h1,h2,h3,h4,h5,h6,h7⟩:=hr
 refine⟨cs,ty,h1,h2,h3,h4,fun i row hr=>⟨(h5 i row hr).1,fun j a ha=>?_⟩,h6,by rw [hB.fz];exact h7⟩
 obtain⟨x,hx,dO⟩:=(h5 i row hr).2 j a ha
 exact⟨x,hx,Rb.pure (h _ (List.mem_of_getElem? hr) _ (List.mem_of_getElem? ha)) gc g w x hB dO⟩
theorem kY.fo {J:iX}:kY ι (.fo J) (.fo J):=⟨fun gc g w b cp hB hf hr=>⟨by rw [hB.fz,hf J rfl];exact hr.1,hr.2⟩,fun J' h=>h⟩
end
def CG (f:Nat->Nat):List Nat->Bool
 |[]=>true
 |j::l=>l.all (fun i=>!Nat.beq (f i) (f j)) && CG f l
theorem Fp {f:Nat->Nat}:∀ {l:List Nat},CG f l=true->∀ i j,i ∈ l->j ∈ l->f i=f j->i=j
 |[],_,i,j,h,_,_=>by cases h
 |a::l,hd,i,j,hi,hj,e=>by
  simp only [CG,Bool.and_eq_true,List.all_eq_true,Bool.not_eq_true'] at hd
  have ne:∀ x ∈ l,f x ≠ f a:=fun x hx h=>by
   have:=hd.1 x hx
   rw [h,Nat.beq_refl] at this
   cases this
  rcases List.mem_cons.1 hi with h1|h1
  ·rcases List.mem_cons.1 hj with h2|h2
   ·rw [h1,h2]
   ·exact absurd (by rw [<-e,h1]) (ne _ h2)
  ·rcases List.mem_cons.1 hj with h2|h2
   ·exact absurd (by rw [e,h2]) (ne _ h1)
   ·exact Fp hd.2 i j h1 h2 e
def yE (ι:Nat->Nat) (M:Nat) (T:ae):List (Nat × Ob)->Prop
 |[]=>True
 |p::l=>(∃ cr,T.get (ι p.1)=some cr/\kF ι M cr p.2)/\yE ι M T l
def oT (o:Nat->Nat) (so:List (Nat × Ob)):List (Nat × Option Ob)->Prop
 |[]=>True
 |(k,none)::l=>oT o so l
 |(k,some eO)::l=>(∃ j p,o j=k/\iS so j=some p/\kY o p eO)/\oT o so l
theorem yE.mem {ι:Nat->Nat}{M:Nat}{T:ae}:∀ {l:List (Nat × Ob)},yE ι M T l->∀ p ∈ l,∃ cr,T.get (ι p.1)=some cr/\kF ι M cr p.2
 |[],_,p,h=>by cases h
 |q::l,hc,p,h=>by
  rcases List.mem_cons.1 h with rfl|h
  ·exact hc.1
  ·exact hc.2.mem p h
theorem oT.mem {o:Nat->Nat}{so:List (Nat × Ob)}:∀ {l:List (Nat × Option Ob)},oT o so l->∀ k eO,(k,some eO) ∈ l->∃ j p,o j=k/\iS so j=some p/\kY o p eO
 |[],_,k,eO,h=>by cases h
 |(a,none)::l,hc,k,eO,h=>by
  rcases List.mem_cons.1 h with h|h
  ·cases h
  ·exact oT.mem (l:=l) hc k eO h
 |(a,some b)::l,hc,k,eO,h=>by
  rcases List.mem_cons.1 h with h|h
  ·injection h with h1 h2;injection h2 with h2;subst h1 h2;exact hc.1
  ·exact oT.mem (l:=l) hc.2 k eO h
def xJ:List (Nat × Ob)->Bool
 |[]=>true
 |(_,.fo _)::_=>false
 |_::l=>xJ l
theorem Fq:∀ {l:List (Nat × Ob)}{j:Nat}{J:iX},xJ l=true->iS l j ≠ some (.fo J)
 |[],j,J,_,h=>by cases h
 |(a,o)::l,j,J,hn,h=>by
  have hl:xJ l=true:=by cases o<;>first|exact hn|cases hn
  simp only [iS] at h
  split at h
  ·obtain rfl:=Option.some.inj h;cases hn
  ·exact Fq hl h
section
variable {P:Program}{w0:World}{rd:Bool}{n:Nat}{α:AA}{T:ae}{Q:Exit->AA->ae->Prop}{K:List iq}{l:List QI}
theorem To {m:List (Nat × Nat)}{N N':Nat}{so so':List (Nat × Ob)}{to:List (Nat × Option Ob)}(hi:CG (bX m) (List.range N)=true) (au:(List.range N).all (fun j=>Nat.blt (bX m j) T.nx)=true)
  (hS:yE (bX m) N T so) (hT:oT (gP (bX m) N T.nx) so' to) (hc:(List.range N).all (fun j=>(to.map (·.1)).contains (bX m j))=true) (pI:to.all (fun p=>true)=true) (qC:∀ k o,T.get k=some o->k < T.nx)
  (hf:(∀ k J,T.get k=some (.fo J)->∃ j,j < N/\bX m j=k)\/xJ so'=true):Fits (bX m) (aE so N) (aE so' N') T ⟨gQ T.get to,T.nx+N'⟩:=by
 refine⟨fun i j h1 h2 e=>Fp hi i j (List.mem_range.2 h1) (List.mem_range.2 h2) e,fun j hj=>dZ (List.all_eq_true.1 au j (List.mem_range.2 hj)),fun j o ho=>hS.mem _ (jq ho),fun k eO hk=>?_,.inl rfl,?_⟩
 ·have hk:gQ T.get to k=some eO:=hk
  have key:∀ {l:List (Nat × Option Ob)},gQ T.get l k=some eO->(k,some eO) ∈ l\/(k ∉ l.map (·.1)/\T.get k=some eO):=by
   intro l
   induction l with
   |nil=>exact fun h=>.inr ⟨by simp,h⟩
   |cons p l ih =>
    intro h
    rw [gQ] at h
    by_cases e:k=p.1
    ·rw [e,aG] at h
     exact .inl (by rw [e,<-h];simp)
    ·rw [aN _ _ e] at h
     rcases ih h with h1|⟨h1,h2⟩
     ·exact .inl (by simp [h1])
     ·exact .inr ⟨by simp only [List.map_cons,List.mem_cons,not_or];exact⟨e,h1⟩,h2⟩
  rcases key hk with h|⟨h1,h2⟩
  ·obtain⟨j,p,e1,e2,e3⟩:=hT.mem k eO h
   exact .inl ⟨j,p,e1,e2,e3⟩
  ·refine .inr ⟨qC k eO h2,fun j hj e=>h1 ?_,h2⟩
   have:=List.all_eq_true.1 hc j (List.mem_range.2 hj)
   rw [<-e]
   simpa using this
 ·rcases hf with h|h
  ·exact .inl h
  ·exact .inr fun j J=>Fq h
theorem ad.jJ {f:QO}{aZ9:List QO}{g:FuncId}{args gI:List AV}{r qD:AV}{m:List (Nat × Nat)}{N N':Nat}{so so':List (Nat × Ob)}{to:List (Nat × Option Ob)}(bL:aV P w0 g args (aE so N) r (aE so' N'))
  (h:e7 (f.ev α.tm) (aZ9.map (·.ev α.tm))=some (g,gI)) (ha:CE (bX m) N gI args) (hr:Rb (gP (bX m) N T.nx) r qD)
  (hi:CG (bX m) (List.range N)=true) (au:(List.range N).all (fun j=>Nat.blt (bX m j) T.nx)=true) (hS:yE (bX m) N T so) (hT:oT (gP (bX m) N T.nx) so' to) (hc:(List.range N).all (fun j=>(to.map (·.1)).contains (bX m j))=true)
  (qC:∀ k o,T.get k=some o->k < T.nx) (hf:(∀ k J,T.get k=some (.fo J)->∃ j,j < N/\bX m j=k)\/xJ so'=true):ad P w0 false (.call f aZ9) α T qD ⟨gQ T.get to,T.nx+N'⟩ :=
 ad.call h (bL.frame (To hi au hS hT hc (by simp) qC hf) ha.at.1 (fun i a b h1 h2=>by
  obtain⟨a',h3,h4⟩:=ha.at.2 i b h2
  rw [h3] at h1
  rw [<-Option.some.inj h1];exact h4) hr) fun e=>by cases e
theorem Cv.canon {B N:Nat}{m:List (Nat × Nat)}{l:List (Nat × AV)}{ds:List DE}{so:List (Nat × Ob)}(hn:Nat.ble T.nx B=true) (hC:Canon B N m α T l ds so):Cv w0 n α T (d_ l ds) (aE so N):=by
 intro A g a w hS hA
 refine⟨_,hC.st hS,hC.GY hA,(Ext.refl A g w).e8 (Nat.le_of_ble_eq_true hC.bn) fun k hk=>?_⟩
 exact Nat.lt_of_lt_of_le (hS.al k hk) (Nat.le_of_ble_eq_true hn)
end
section
variable {P:Program}{w0:World}{rd:Bool}{n:Nat}{α:AA}{S:ae}{Q Q':Exit->AA->ae->Prop}{K:List iq}{l:List QI}{dr:Bool}
theorem fV.mono {c:QC}(hm:∀ ex α S,Q ex α S->Q' ex α S) (h:fV P w0 rd n c Q α S):fV P w0 rd n c Q' α S:=by
 intro c0 hc hd
 obtain⟨ex,bN,bZ,h1,h2⟩:=h c0 hc hd
 exact⟨ex,bN,bZ,h1,hm _ _ _ h2⟩
theorem cU.mono (hm:∀ ex α S,Q ex α S->Q' ex α S):∀ (K:List iq) (ex:Exit) (α:AA) (S:ae),cU P w0 rd n Q K ex α S->cU P w0 rd n Q' K ex α S
 |[],ex,α,S,h=>hm _ _ _ h
 |.seq b::K,ex,α,S,h=>by
  cases ex with
  |normal=>exact fV.mono (cU.mono hm K) h
  |_=>exact cU.mono hm K _ _ _ h
 |.qE id::K,ex,α,S,h=>by
  cases ex with
  |exit j =>
   simp only [cU] at h ⊢
   cases hj:Nat.beq j id with
   |true=>rw [hj] at h;exact cU.mono hm K _ _ _ h
   |false=>rw [hj] at h;exact cU.mono hm K _ _ _ h
  |_=>exact cU.mono hm K _ _ _ h
 |.uU::K,ex,α,S,h=>by
  cases ex with
  |goto l=>exact h
  |_=>exact cU.mono hm K _ _ _ h
theorem rW:∀ (K L:List iq),cU P w0 rd n Q (K++L)=cU P w0 rd n (cU P w0 rd n Q L) K
 |[],L=>rfl
 |.seq b::K,L=>by
  rw [List.cons_append,cU,cU,rW K L]
 |.qE id::K,L=>by
  rw [List.cons_append,cU,cU,rW K L]
 |.uU::K,L=>by
  rw [List.cons_append,cU,cU,rW K L]
theorem eg.mono {Q Q':AA->ae->Prop}{E E':List PanicEntry->AA->ae->Prop}(hm:∀ α S,Q α S->Q' α S) (he:∀ ch α S,E ch α S->E' ch α S) (h:eg P w0 n dr l Q E α S):eg P w0 n dr l Q' E' α S:=by
 intro ops rest hr
 have h:=h ops rest hr
 cases dr with
 |false=>exact fun j hj=>(h j hj).imp (fun ⟨bN,bZ,h1,h2⟩=>⟨bN,bZ,h1,hm _ _ h2⟩) fun ⟨ch,bN,bZ,h1,h2⟩=>⟨ch,bN,bZ,h1,he _ _ _ h2⟩
 |true =>
  intro j hj
  obtain⟨bN,bZ,h1,h2⟩:=h j hj
  exact⟨bN,bZ,h1,hm _ _ h2⟩
def GZ {σ:Type}(P:Program) (w0:World) (rd:Bool) (n B N:Nat) (st:σ->List (Nat × AV)) (ds:List DE) (so:σ->List (Nat × Ob)) (I:σ->Prop) (Q:Exit->AA->ae->Prop) (K:List iq):Exit->AA->ae->Prop :=
 fun ex α S=>match ex with|.normal=>∃ s m,I s/\Nat.ble S.nx B=true/\Canon B N m α S (st s) ds (so s)|e=>ab P w0 rd n Q (.out e K) α S
theorem ab.aft {σ:Type}(j B N:Nat) (st:σ->List (Nat × AV)) (ds:List DE) (so:σ->List (Nat × Ob)) (I:σ->Prop) {b:QC}{K':List iq}(hj:K.drop j=.seq b::K')
  (h:ab P w0 rd n (GZ P w0 rd n B N st ds so I Q (.seq b::K')) (.bz dr l (K.take j)) α S) (k:∀ s,I s->ab P w0 rd n Q (.run b K') (d_ (st s) ds) (aE (so s) N)):ab P w0 rd n Q (.bz dr l K) α S:=by
 rw [<-List.take_append_drop j K,hj]
 have key:∀ ex α S,cU P w0 rd n (GZ P w0 rd n B N st ds so I Q (.seq b::K')) (K.take j) ex α S->cU P w0 rd n Q (K.take j++.seq b::K') ex α S:=?_
 ·exact eg.mono (fun α S hq=>key _ _ _ hq) (fun ch α S hq=>key _ _ _ hq) h
 intro ex α S hq
 rw [rW]
 refine cU.mono (fun ex α S hq=>?_) _ _ _ _ hq
 cases ex with
 |normal =>
  obtain⟨s,m,hI,hn,hC⟩:=hq
  exact ab.cvO (Cv.canon hn hC) (k s hI)
 |_=>exact hq
theorem ab.UH {σ:Type}{B N:Nat}{ds:List DE}{st:σ->List (Nat × AV)}{so:σ->List (Nat × Ob)}{I:σ->Prop}(s:σ) (m:List (Nat × Nat)) (hI:I s) (hn:Nat.ble S.nx B=true) (hC:Canon B N m α S (st s) ds (so s)) :
  ab P w0 rd n (GZ P w0 rd n B N st ds so I Q K) (.out .normal []) α S:=⟨s,m,hI,hn,hC⟩
end
def jr:List Nat->(Nat->AV)->Nat->AV
 |[],f=>fun _=>.u
 |t::G,f=>match f t with|.u=>jr G f|a=>bP (jr G f) t a
theorem uV:∀ (G:List Nat) (f:Nat->AV) (s:Nat),jr G f s=f s\/jr G f s=.u
 |[],f,s=>.inr rfl
 |t::G,f,s=>by
  have ih:=uV G f s
  have key:jr (t::G) f=jr G f\/jr (t::G) f=bP (jr G f) t (f t):=by
   rw [jr]
   cases f t with
   |u=>exact .inl rfl
   |_=>exact .inr rfl
  rcases key with h|h<;>rw [h]
  ·exact ih
  ·by_cases h:s=t
   ·subst h;rw [aG];exact .inl rfl
   ·rw [aN _ _ h];exact ih
def xK (G:List Nat):Nat->QF->AA->ae->QF × AA × ae
 |0,c,α,S=>(c,α,S)
 |m+1,c,α,S=>match c with
  |.out .normal (.seq b::K)=>match α with|⟨f,d⟩=>xK G m (.run b K) ⟨jr G f,d⟩ S
  |c=>match uW c α S with
   |some (c',aB,S')=>xK G m c' aB S'
   |none=>(c,α,S)
section
variable {P:Program}{w0:World}{rd:Bool}{n:Nat}{Q:Exit->AA->ae->Prop}
theorem Cv.prune (G:List Nat) {α:AA}{S:ae}:Cv w0 n α S ⟨jr G α.tm,α.df⟩ S:=by
 intro A g a w hS hA
 refine⟨g,hS,?_,Ext.refl A g w⟩
 refine⟨hA.size,fun t ht=>?_,fun t ht=>?_,hA.df,hA.sZ⟩
 ·rcases uV G α.tm t with h|h
  ·show aL g w (jr G α.tm t) _
   rw [h];exact hA.tm t ht
  ·show aL g w (jr G α.tm t) _
   rw [h];exact .u
 ·show jr G α.tm t=.u
  rcases uV G α.tm t with h|h
  ·rw [h];exact hA.out t ht
  ·exact h
theorem tK (G:List Nat):∀ {m:Nat}{cf qF:QF}{α aB:AA}{S S':ae},xK G m cf α S=(qF,aB,S')->ab P w0 rd n Q qF aB S'->ab P w0 rd n Q cf α S
 |0,cf,qF,α,aB,S,S',h,k=>by
  simp only [xK,Prod.mk.injEq] at h
  obtain⟨rfl,rfl,rfl⟩:=h
  exact k
 |m+1,cf,qF,α,aB,S,S',h,k=>by
  unfold xK at h
  split at h
  ·rename_i b K
   cases α
   exact ab.cv (c:=b) (K:=K) (Cv.prune G) (tK (m:=m) G h k)
  ·split at h
   ·rename_i c1 a1 s1 hm
    exact Kv hm (tK G h k)
   ·simp only [Prod.mk.injEq] at h
    obtain⟨rfl,rfl,rfl⟩:=h
    exact k
theorem ab.goG (G:List Nat) (m:Nat) {cf qF:QF}{α aB:AA}{S S':ae}(h:xK G m cf α S=(qF,aB,S')) (k:ab P w0 rd n Q qF aB S'):ab P w0 rd n Q cf α S:=tK G h k
end
section
variable {P:Program}{w0:World}{α:AA}{S:ae}
theorem ad.raw {op:BinOp}{isB:BK}{x y:QO}{k k':IntKind}{a b:Int}{r:Value}(h1:x.ev α.tm=.v (.int k a)) (h2:y.ev α.tm=.v (.int k' b)) (hq:op ≠ .eql) (hn:op ≠ .neq)
  (h:∀ (t:TypeId) (w:World),(binOp op t (.int k a) (.int k' b)).run P w=.ok r w):ad P w0 false (.bin op isB x y) α S (.v r) S:=by
 refine ad.run fun n o hr=>?_
 obtain⟨t,u,v,s,ho,rfl,rfl,hB⟩:=qn hr
 rw [aU] at h1 h2
 refine bg.quiet fun A g q w hS hA=>?_
 have e1:=hA.ev u
 have e2:=hA.ev v
 rw [h1] at e1
 rw [h2] at e2
 refine⟨_,?_,.v⟩
 have hg:∀ (u v:Operand) (x y:Value),eqGuard op t u v x y=pure ():=by
  intro u v x y
  cases op<;>first|rfl|exact absurd rfl hq|exact absurd rfl hn
 simp [execOp,ho,cd e1,cd e2,hg,h]
end
section
variable {P:Program}{w0:World}{n:Nat}{S S':ae}{f:FuncId}{args:List AV}{r r':AV}{B N:Nat}{m:List (Nat × Nat)}{so:List (Nat × Ob)}
theorem aV.canon (h:aV P w0 f args S r S') (hn:Nat.ble S.nx B=true) (hr:g8 B m N r r') (ho:rX B m N S' so) (hd:nq B m (so.map (·.1))=true) (hb:Nat.ble B N=true):aV P w0 f args S r' (aE so N):=by
 refine⟨h.1,fun F mm A g bO w hF hS hA=>(h.2 F mm A g bO w hF hS hA).mono ?_⟩
 rintro e w' ⟨v,g',rfl,h3,h4,h5⟩
 have hC:Canon B N m ⟨fun _=>.u,[]⟩ S' [] [] so:=⟨trivial,rfl,ho,hd,hb,rfl⟩
 have hN:=Nat.le_of_ble_eq_true hb
 exact⟨v,g'.e8 B N (bX m),rfl,g8.rep hN hr h3,hC.st h4,h5.e8 hN fun k hk=>Nat.lt_of_lt_of_le (hS.al k hk) (Nat.le_of_ble_eq_true hn)⟩
theorem aD.dw {q:QC × List QR}(B N:Nat) (so:List (Nat × Ob)) (F:aD P f q n) (bD:args.length<=n) (hn:Nat.ble S.nx B=true) (hb:Nat.ble B N=true)
  (h:ab P w0 false n (nr q.2 fun r S'=>∃ m,g8 B m N r r'/\rX B m N S' so/\nq B m (so.map (·.1))=true) (.run q.1 []) ⟨kP args,[]⟩ S):aV P w0 f args S r' (aE so N):=by
 obtain⟨r,S',h1,m,h2,h3,h4⟩:=aD.A7 F bD h
 exact h1.canon hn h2 h3 h4 hb
end
section
variable {P:Program}{w0:World}{α:AA}{S:ae}
theorem ad.ext {f:QO}{aZ9:List QO}{g:FuncId}{xs:List Value}{v:Value}(h:f.ev α.tm=.v (.func (.func g) #[] #[])) (ha:aZ9.map (·.ev α.tm)=xs.map .v) (hx:∀ w:World,(callFunc g xs.toArray).run P w=.ok (.value v) w):ad P w0 false (.call f aZ9) α S (.v v) S:=by
 refine ad.run fun n o hr=>?_
 obtain⟨c,u,ho,hu,rfl,rfl⟩:=lj hr
 rw [lO] at ha
 rw [aU] at h
 refine bg.quiet fun A g' q w hS hA=>?_
 have e1:=hA.ev u
 rw [h] at e1
 have e2:=cd e1
 have key:∀ (l:List Operand) (xs:List Value),l.map α.ev=xs.map AV.v->l.map q.eval=xs:=by
  intro l
  induction l with
  |nil =>
   intro xs h
   cases xs with
   |nil=>rfl
   |cons x xs=>cases h
  |cons y l ih =>
   intro xs h
   cases xs with
   |nil=>cases h
   |cons x xs =>
    rw [List.map_cons,List.map_cons] at h
    injection h with h1 h2
    have e5:=hA.ev y
    rw [h1] at e5
    rw [List.map_cons,cd e5,ih xs h2]
 have e3:c.args.map q.eval=xs.toArray:=by
  apply Array.toList_inj.1
  rw [Array.toList_map,key _ _ ha]
 refine⟨v,?_,.v⟩
 have UI:=hx w
 simp [execOp,ho,hu,e2,e3,UI,resolve,invoke,Deferred.ofValue]
end
def uX (P:Program) (w0:World) (f:FuncId) (args:List AV) (S:ae) (ch:List PanicEntry) (S':ae):Prop :=
 (∀ (xs:Array Value) (w:World),(callFunc f xs).run P w=.ok (.enter f xs) w) /\
 ∀ (F:Fence) (m:Nat) (A:Nat->Prop) (g:Gh) (bO:Array Value) (w:World),iF F->St w0 A g S w->jL g w args bO ->
  CallsIn F m P f bO w fun e w'=>∃ g',e=.panicked ch/\St w0 A g' S' w'/\Ext A g w g' w'
def pW (P:Program) (w0:World) (f:FuncId) (args:List AV) (ch:List PanicEntry):Prop:=∃ S',uX P w0 f args ae.none_ ch S'
section
variable {P:Program}{w0:World}{rd:Bool}{n:Nat}{α aB:AA}{S S':ae}{Q:Exit->AA->ae->Prop}{ex:Exit}{r:AV}{i:QI}{l:List QI}{K:List iq}{ch:List PanicEntry}
theorem pW.Ms {f:FuncId}{args dN:List AV}(h:pW P w0 f args ch) (hp:∀ a ∈ args,Pure a) (S:ae) (hl:dN.length=args.length) (hf:∀ (i:Nat) (a0 a:AV),dN[i]?=some a0->args[i]?=some a->aX S a0 a):uX P w0 f dN S ch S:=by
 obtain⟨S1,h1,h2⟩:=h
 refine⟨h1,fun F m A g bO w hF hS hA=>?_⟩
 have au:∀ b q,(g.still S).fz b q->b < w.heap.size:=by
  rintro b q (hq|⟨k,sz,rows,fz,ex,hk,bG,rfl,hq⟩)
  ·exact hS.cK b q hq
  ·exact (hS.cH k _ hk bG).2.1
 refine (h2 F m _ _ bO w hF (hS.inner (g.still S).fz (fun _ _ h=>.inl h) au) ⟨hA.1.trans hl,fun i a x ha hx=>?_⟩).mono ?_
 ·have hi:i < dN.length:=by rw [hl];exact (List.getElem?_eq_some_iff.1 ha).1
  have yF:=List.getElem?_eq_getElem hi
  exact aL.pure (g:=g.still S) (g':=⟨g.ob,g.cp,fun _=>False,(g.still S).fz,g.fo⟩) (fun _ _ h=>h) (fun _ _ _=>rfl) ((hf i _ a yF ha).rep hS (hA.2 i _ x yF hx)) (hp a (List.mem_of_getElem? ha))
 ·rintro e w' ⟨g1,rfl,h4,h5⟩
  obtain⟨hE,cZ⟩:=hS.outer (fun _ _ h=>.inl h) au h4 h5
  exact⟨_,rfl,cZ,hE⟩
theorem pW.CH {f:FuncId}{args dN:List AV}(h:pW P w0 f args ch) (hp:c_ args) {S:ae}(hf:fE S dN args):uX P w0 f dN S ch S:=h.Ms hp.all S hf.len hf.at
theorem Mt {o:Oper}{c:Call}{f:Operand}{gf:FuncId}{args:List AV}(ho:o.op=.call c) (hc:c.callee=.value f)
  (hf:∀ (A:Nat->Prop) (g:Gh) (a:Act) (w:World),St w0 A g S w->b7 g w n α a->∃ first cap,a.eval f=.func (.func gf) first cap/\jL g w args (first++c.args.map a.eval++cap)) (h:uX P w0 gf args S ch S'):OpP P w0 n o α S ch S':=by
 intro F m A g a w next Q hF hS hA mB
 rw [Oper.semAt_eq _ _ _ (fun c' e=>by rw [ho] at e;cases e)]
 obtain⟨first,cap,he,hr⟩:=hf A g a w hS hA
 have cu:(execOp a.eval o).run P w=.ok (.enter gf (first++c.args.map a.eval++cap)) w:=by
  simp only [execOp,ho,resolve,hc,he,Deferred.ofValue,Sem.run_bind,Sem.run_pure,Result.andThen_ok,invoke]
  exact h.1 _ w
 rw [cu,Oper.uponIn_enter]
 refine⟨fun hd=>(by rw [hF.2.1] at hd;cases hd),(h.2 F (m - 1) A g _ w hF hS hr).mono ?_⟩
 rintro e w' ⟨g',rfl,h2,h3⟩
 exact mB w' g' h2 h3
theorem qG.call {f:QO}{aZ9:List QO}{g:FuncId}{args:List AV}(h:e7 (f.ev α.tm) (aZ9.map (·.ev α.tm))=some (g,args)) (hc:uX P w0 g args S ch S'):qG P w0 (.call f aZ9) α S ch S':=by
 intro n o hr
 obtain⟨c,u,ho,hu,rfl,rfl⟩:=lj hr
 rw [lO,aU] at h
 unfold e7 at h
 refine Mt ho hu (fun A g' a w hS hA=>?_) hc
 have h1:=hA.ev u
 split at h
 ·rename_i g2 x y he
  split at h
  ·rename_i e1 e2
   injection h with h;injection h with h3 h4
   subst h3 h4
   rw [he] at h1
   have e3:x=#[]:=by cases x;simp at e1;rw [e1]
   have e4:y=#[]:=by cases y;simp at e2;rw [e2]
   subst e3 e4
   refine⟨#[],#[],cd h1,?_⟩
   rw [Array.empty_append,Array.append_empty]
   exact mG hA c.args
  ·cases h
 ·rename_i g2 x y he
  injection h with h;injection h with h3 h4
  subst h3 h4
  rw [he] at h1
  obtain⟨cs,ds,h5,h6,h7⟩:=uY h1
  exact⟨cs,ds,h5,fY (fY h6 (mG hA c.args)) h7⟩
 ·cases h
theorem qG.ag {f:QO}{aZ9:List QO}{g:FuncId}{args dN:List AV}(h:e7 (f.ev α.tm) (aZ9.map (·.ev α.tm))=some (g,dN)) (hc:pW P w0 g args ch) (hp:c_ args) (hf:fE S dN args):qG P w0 (.call f aZ9) α S ch S:=qG.call h (hc.CH hp hf)
theorem ab.uZ (hw:cb α.tm i.g=some true) (h:qG P w0 i.q α S ch S') (k:ab P w0 rd n Q (.out (.panic ch) K) α S'):ab P w0 rd n Q (.bz false (i::l) K) α S:=eg.uZ hw h k
def toV:AV->Option Value
 |.v x=>some x
 |.agg l=>match toVs l with|some cs=>some (.agg cs.toArray)|none=>none
 |_=>none
where toVs:List AV->Option (List Value)
 |[]=>some []
 |a::l=>match toV a,toVs l with|some x,some cs=>some (x::cs)|_,_=>none
theorem toVs_at:∀ {l:List AV}{cs:List Value},toV.toVs l=some cs->cs.length=l.length/\∀ (i:Nat) (a:AV),l[i]?=some a->∃ x,cs[i]?=some x/\toV a=some x
 |[],cs,h=>by
  simp only [toV.toVs,Option.some.injEq] at h
  subst h
  exact⟨rfl,fun i a h=>by simp at h⟩
 |a::l,cs,h=>by
  simp only [toV.toVs] at h
  split at h
  ·rename_i x cs' h1 h2
   obtain rfl:=Option.some.inj h
   obtain⟨k1,k2⟩:=toVs_at h2
   refine⟨by simp [k1],fun i b hb=>?_⟩
   cases i with
   |zero=>simp at hb;subst hb;exact⟨x,rfl,h1⟩
   |succ i=>simp at hb;simpa using k2 i b hb
  ·cases h
theorem s4 {g:Gh}{w:World}{a:AV}{y:Value}(hr:aL g w a y):∀ {x:Value},toV a=some x->y=x:=by
 induction hr with
 |v=>intro x h;simp only [toV,Option.some.injEq] at h;exact h
 |@agg l cs hs h ih =>
  intro x hx
  simp only [toV] at hx
  split at hx
  ·rename_i cs' hc
   obtain rfl:=Option.some.inj hx
   obtain⟨k1,k2⟩:=toVs_at hc
   congr 1
   apply Array.ext
   ·simp [hs,k1]
   ·intro i h1 h2
    have hi:i < l.length:=by rw [<-hs];exact h1
    obtain⟨x,e1,e2⟩:=k2 i _ (List.getElem?_eq_getElem hi)
    have e3:=ih i _ _ (List.getElem?_eq_getElem hi) (Array.getElem?_eq_getElem h1) e2
    rw [e3]
    have:=(List.getElem?_eq_some_iff.1 e1)
    simp [<-this.2]
  ·cases hx
 |_=>intro x h;simp [toV] at h
theorem Mu {o:Op}{t:Nat}{x:QO}(h:res P.toTables o=some (.z6 t x)):∃ u,o=.makeInterface t u/\x=qo u:=by
 cases o with
 |makeInterface t' u =>
  simp only [res,Option.some.injEq] at h
  injection h with h1 h2
  subst h1
  exact⟨u,rfl,h2.symm⟩
 |_ =>
  simp only [res] at h
  repeat' split at h
  all_goals cases h
def isIf (T:Tables) (t:TypeId):Bool:=match eP T t with|some (.interface _)=>true|some _=>false|none=>true
theorem ad.z6 {t:Nat}{x:QO}{v:Value}(hx:toV (x.ev α.tm)=some v) (ht:isIf P.toTables t=false):ad P w0 false (.z6 t x) α S (.v (.iface t v)) S:=by
 refine ad.run fun n o hr=>?_
 obtain⟨u,ho,rfl⟩:=Mu hr
 rw [aU] at hx
 refine bg.quiet fun A g a w hS hA=>⟨.iface t v,?_,.v⟩
 have e:=s4 (hA.ev u) hx
 unfold isIf at ht
 rw [b_] at ht
 simp only [execOp,ho,e,Instr.makeInterface]
 cases hu:P.underlying t with
 |none=>rw [hu] at ht;cases ht
 |some d =>
  have hu':(underlying t).run P w=.ok d w:=by simp [underlying,hu]
  rw [hu] at ht
  cases d<;>simp_all
theorem Tp {o:Op}{x:QO}(h:res P.toTables o=some (.uZ x)):∃ u,o=.panic u/\x=qo u:=by
 cases o with
 |panic u =>
  simp only [res,Option.some.injEq] at h
  injection h with h1
  exact⟨u,rfl,h1.symm⟩
 |_ =>
  simp only [res] at h
  repeat' split at h
  all_goals cases h
theorem qG.uZ {x:QO}{t:TypeId}{v:Value}(hx:x.ev α.tm=.v (.iface t v)):qG P w0 (.uZ x) α S [{ v:=.iface t v,recovered:=false }] S:=by
 intro n o hr
 obtain⟨u,ho,rfl⟩:=Tp hr
 rw [aU] at hx
 intro F m A g a w next Q hF hS hA mB
 rw [Oper.semAt_eq _ _ _ (fun c' e=>by rw [ho] at e;cases e)]
 have e:=hA.ev u
 rw [hx] at e
 have e:=cd e
 have cu:(execOp a.eval o).run P w=.halt (.panic (.iface t v)) w:=by
  simp [execOp,ho,e,Instr.panic,goPanic]
 rw [cu,Oper.uponIn_panic]
 exact mB w g hS (Ext.refl ..)
def u0 (qs:List QR) (R:AV->ae->Prop) (E:List PanicEntry->ae->Prop) (ex:Exit) (α:AA) (S:ae):Prop:=match ex with
 |.panic ch=>α.df=[]/\E ch S
 |ex=>nr qs R ex α S
theorem ab.u4 {qs:List QR}{R:AV->ae->Prop}{E:List PanicEntry->ae->Prop}(he:Cg ex=true) (h:tL qs ex α S=some (r,S')) (k:R r S'):ab P w0 rd n (u0 qs R E) (.out ex []) α S:=by
 show u0 qs R E ex α S
 cases ex<;>first|exact⟨r,S',h,k⟩|cases he
theorem ab.UJ {qs:List QR}{R:AV->ae->Prop}{E:List PanicEntry->ae->Prop}(hd:α.df=[]) (k:E ch S):ab P w0 rd n (u0 qs R E) (.out (.panic ch) []) α S:=⟨hd,k⟩
theorem uX.UK {f:FuncId}{fn:Func}{c:Code}{args:List AV}(hf:P.funcs[f]?=some fn) (hb:fn.body=some c) (hc:∀ (xs:Array Value) (w:World),(callFunc f xs).run P w=.ok (.enter f xs) w)
  (hn:fn.ntmps=n) (bD:args.length<=n) (hd:aB.df=[]) (h:cy P w0 false n c ⟨kP args,[]⟩ S (.panic ch) aB S'):uX P w0 f args S ch S':=by
 refine⟨hc,fun F m A g bO w hF hS hA=>?_⟩
 have key:CallsIn F.plain m P f bO w fun e w'=>∃ g',e=.panicked ch/\St w0 A g' S' w'/\Ext A g w g' w':=by
  refine callsIn_of_wp_marks hf hb (hF.1 f) ?_ rfl
  rw [hn]
  refine wpIn_mono (h F.plain m A g _ w hF.plain rfl hS (yG hA bD)) ?_
  rintro ex' a' w' ⟨rfl,g',h1,h2,h3⟩
  show LeavesInM F.plain m P fn a'.tmps _ a'.defers (.panicking ch) w'
  rw [h2.df,hd]
  exact⟨g',rfl,h1,h3⟩
 exact key
theorem aD.O2 {f:FuncId}{q:QC × List QR}{args:List AV}{b:Bool}(F:aD P f q n) (bD:args.length<=n) (hp:Pure r) (h:ab P w0 false n (u0 q.2 (fun r' S=>b=true/\aX S r' r) (fun wZ S=>b=false/\wZ=ch)) (.run q.1 []) ⟨kP args,[]⟩ ae.none_) :
  (b=true->ah P w0 f args r)/\(b=false->pW P w0 f args ch):=by
 obtain⟨fn,c,hf,hb,hn,hr,hq,hd,hc⟩:=F.out
 obtain⟨ex,aB,S',h1,h2⟩:=h c hq hd
 have h2:u0 q.2 (fun r' S=>b=true/\aX S r' r) (fun wZ S=>b=false/\wZ=ch) ex aB S':=h2
 have nrm:nr q.2 (fun r' S=>b=true/\aX S r' r) ex aB S'->(b=true->ah P w0 f args r)/\(b=false->pW P w0 f args ch):=fun h3=>by
  obtain⟨r',S1,h4,h5,h6⟩:=h3
  have h7:nr q.2 (fun r' S=>aX S r' r) ex aB S':=⟨r',S1,h4,h6⟩
  exact⟨fun _=>ah.of_wp hf hb hc hn bD hp ⟨ex,aB,S',h1,u5 hr h7⟩,fun e=>absurd (h5.symm.trans e) (by simp)⟩
 cases ex with
 |panic wZ =>
  obtain⟨k1,k2,rfl⟩:=h2
  exact⟨fun e=>absurd (k2.symm.trans e) (by simp),fun _=>⟨S',uX.UK hf hb hc hn bD k1 h1⟩⟩
 |_=>exact nrm h2
def Ch (P:Program) (w0:World) (f:FuncId) (args:List AV) (b:Bool) (r:AV) (ch:List PanicEntry):Prop:=(b=true->ah P w0 f args r)/\(b=false->pW P w0 f args ch)
theorem ab.wu {b:Bool}{d:Option Nat}{gd:Option (Nat × Bool)}{f:QO}{aZ9:List QO}{g:FuncId}{args dN:List AV}(hw:cb α.tm gd=some true) (h:e7 (f.ev α.tm) (aZ9.map (·.ev α.tm))=some (g,dN)) (hc:Ch P w0 g args b r ch) (hp:c_ args) (hs:qH r) (hf:fE S dN args)
  (k1:b=true->ab P w0 rd n Q (.bz false l K) (cG d α r) S) (k2:b=false->ab P w0 rd n Q (.out (.panic ch) K) α S):ab P w0 rd n Q (.bz false (⟨d,gd,.call f aZ9⟩::l) K) α S:=by
 cases b with
 |true=>exact ab.op hw (ad.wv h (hc.1 rfl) hp hs hf) (k1 rfl)
 |false=>exact ab.uZ hw (qG.ag h (hc.2 rfl) hp hf) (k2 rfl)
end
end Go.Proofs.YtgphljokbodciaaGreat
