import Derived.Test.YtbofilglphfceaaGreatQ10
namespace Go.Proofs.YtbofilglphfceaaGreat
set_option linter.unusedVariables false
set_option linter.unusedSimpArgs false
open Go.RowKit
def ku {T:Type}(f:T->AV) (l:List (Int × T)):List (Value × AV):=l.map fun p=>(eN p.1,f p.2)
def jK {T:Type}:List (Int × T)->Int->Option T
 |[],_=>none
 |p::l,i=>if p.1=i then some p.2 else jK l i
def l9 {T:Type}:List (Int × T)->Int->T->List (Int × T)
 |[],i,v=>[(i,v)]
 |p::l,i,v=>if p.1=i then (i,v)::l else p::l9 l i v
theorem I7 {T:Type}{l:List (Int × T)}{i j:Int}{v:T}:jK (l9 l i v) j=if i=j then some v else jK l j:=by
 induction l with
 |nil=>simp [l9,jK]
 |cons p l ih =>
  simp only [l9]
  by_cases h:p.1=i
  ·rw [if_pos h]
   by_cases e:i=j
   ·simp [jK,e]
   ·simp only [jK,if_neg e]
    rw [if_neg (by rw [h];exact e)]
  ·rw [if_neg h]
   simp only [jK]
   by_cases e:p.1=j
   ·rw [if_pos e,if_pos e,if_neg (by rw [<-e];exact fun h'=>h h'.symm)]
   ·rw [if_neg e,if_neg e,ih]
section
variable {T:Type}{f:T->AV}{l:List (Int × T)}
theorem zo:rN (ku f l):=fun p hp=>by
 obtain⟨q,_,rfl⟩:=List.mem_map.1 hp
 exact⟨_,rfl⟩
theorem I8 (i:Int):vC (ku f l) i=(jK l i).map f:=by
 induction l with
 |nil=>rfl
 |cons p l ih =>
  simp only [ku,List.map_cons,vC,kF,eN,jK] at ih ⊢
  by_cases h:p.1=i
  ·simp [h]
  ·simp only [h,decide_false,if_false]
   rw [<-ih]
   cases kF (l.map fun p=>(Value.int .i64 p.1,f p.2)) i with
   |none=>rfl
   |some j=>simp
theorem BZ (i:Int) (v:T):wP (ku f l) i (f v)=ku f (l9 l i v):=by
 induction l with
 |nil=>rfl
 |cons p l ih =>
  simp only [ku,List.map_cons,wP,kF,eN,l9] at ih ⊢
  by_cases h:p.1=i
  ·simp [h,eN]
  ·simp only [h,decide_false,if_false,List.map_cons]
   rw [<-ih]
   cases kF (l.map fun p=>(Value.int .i64 p.1,f p.2)) i with
   |none=>rfl
   |some j=>simp
end
section
variable {P:Program}{w0:World}{rd:Bool}{n B:Nat}{α:AA}{S S':ae}{Q:Exit->AA->ae->Prop}{r:AV}{l:List QI}{K:List iC}{V:List (Nat × Nat)}{lg:List (List Nat × List Nat × Bool)}{rs:List Nat}
theorem Ar {o:Op}{x:Option QO}(h:res P.toTables o=some (.fH x)):∃ t y kt et,o=.makeMap t y/\x=y.map qo/\P.underlying t=some (.map kt et):=by
 cases o with
 |makeMap t y =>
  simp only [res,b9] at h
  split at h
  ·rename_i kt et hu
   simp only [Option.some.injEq,dm.fH.injEq] at h
   exact⟨_,_,_,_,rfl,h.symm,hu⟩
  ·cases h
 |_ =>
  simp only [res] at h
  repeat' split at h
  all_goals cases h
theorem ad.fH:ad P w0 false (.fH none) α S (.mp S.nx) (S.new (.mp [])):=ad.run fun n o hr=>by
 obtain⟨t,y,kt,et,ho,hy,hu⟩:=Ar hr
 cases y with
 |some y=>cases hy
 |none=>exact I9 ho
theorem ad.xP {x:QO}{kk:IntKind}{m:Int}(hx:x.ev α.tm=.v (.int kk m)):ad P w0 false (.fH (some x)) α S (.mp S.nx) (S.new (.mp [])):=ad.run fun n o hr=>by
 obtain⟨t,y,kt,et,ho,hy,hu⟩:=Ar hr
 cases y with
 |none=>cases hy
 |some y =>
  obtain rfl:=Option.some.inj hy
  rw [aR] at hx
  exact FQ ho hu hx
theorem KX {o:Op}{z:AV}{c:Bool}{x i:QO}(h:res P.toTables o=some (.look z c x i)):∃ t u v kt et kk zv,o=.lookup t u v c/\x=qo u/\i=qo v/\P.underlying t=some (.map kt et)/\P.underlying kt=some (.int kk)/\c_ P et=some zv/\z=lift zv:=by
 cases o with
 |lookup t u v c' =>
  simp only [res,b9,gD] at h
  split at h
  ·rename_i kt et hu
   split at h
   ·rename_i kk zv hk hz
    simp only [Option.some.injEq,dm.look.injEq] at h
    obtain⟨rfl,rfl,rfl,rfl⟩:=h
    exact⟨_,_,_,_,_,_,_,rfl,rfl,rfl,hu,hk,hz,rfl⟩
   all_goals cases h
  ·cases h
 |_ =>
  simp only [res] at h
  repeat' split at h
  all_goals cases h
theorem ad.look {z:AV}{c:Bool}{x i:QO}{k:Nat}{es:List (Value × AV)}{m:Int}(hx:x.ev α.tm=.mp k) (hS:S.get k=some (.mp es)) (hk:rN es) (hi:i.ev α.tm=.v (.int .i64 m)) :
  ad P w0 false (.look z c x i) α S (match vC es m with|some a=>(if c then .bg [a,.v (.bool true)] else a)|none=>(if c then .bg [z,.v (.bool false)] else z)) S:=ad.run fun n o hr=>by
 obtain⟨t,u,v,kt,et,kk,zv,ho,rfl,rfl,h1,h2,h3,rfl⟩:=KX hr
 rw [aR] at hx hi
 exact KY ho h1 h2 h3 hx hS hk hi
theorem B0 {o:Op}{x i b:QO}(h:res P.toTables o=some (.jL x i b)):∃ t u v y kt et kk,o=.mapUpdate t u v y/\x=qo u/\i=qo v/\b=qo y/\P.underlying t=some (.map kt et)/\P.underlying kt=some (.int kk):=by
 cases o with
 |mapUpdate t u v y =>
  simp only [res,b9] at h
  split at h
  ·rename_i kt et hu
   split at h
   ·rename_i kk hk
    simp only [Option.some.injEq,dm.jL.injEq] at h
    obtain⟨rfl,rfl,rfl⟩:=h
    exact⟨_,_,_,_,_,_,_,rfl,rfl,rfl,rfl,hu,hk⟩
   all_goals cases h
  ·cases h
 |_ =>
  simp only [res] at h
  repeat' split at h
  all_goals cases h
theorem ad.jL {x i b:QO}{k:Nat}{es:List (Value × AV)}{m:Int}{a:AV}(hx:x.ev α.tm=.mp k) (hS:S.get k=some (.mp es)) (hk:rN es) (hi:i.ev α.tm=.v (.int .i64 m)) (hb:b.ev α.tm=a) :
  ad P w0 false (.jL x i b) α S (.v undef) (S.set k (some (.mp (wP es m a)))):=ad.run fun n o hr=>by
 obtain⟨t,u,v,y,kt,et,kk,ho,rfl,rfl,rfl,h1,h2⟩:=B0 hr
 rw [aR] at hx hi hb
 exact B4 ho h1 h2 hx hS hk hi hb
variable {ρ:Hd}{T:Type}{f:T->AV}{kv:List (Int × T)}
theorem ab.look {d:Option Nat}{g:Option (Nat × Bool)}{z:AV}{c:Bool}{x i:QO}{k:Nat}{m:Int}(hw:cj α.tm g=some true) (hx:x.ev α.tm=.mp k) (hS:S.get k=some (.mp (ρ.h (ku f) kv))) (hi:i.ev α.tm=.v (.int .i64 m))
  (k1:∀ v,jK kv m=some v->ab P w0 rd n Q (.bD false l K) (cD d α (if c then .bg [f v,.v (.bool true)] else f v)) S) (k2:jK kv m=none->ab P w0 rd n Q (.bD false l K) (cD d α (if c then .bg [z,.v (.bool false)] else z)) S) :
  ab P w0 rd n Q (.bD false (⟨d,g,.look z c x i⟩::l) K) α S:=by
 have h:=ad.look (P:=P) (w0:=w0) (z:=z) (c:=c) hx hS (by rw [ρ.eq];exact zo) hi
 rw [ρ.eq,I8] at h
 refine ab.op (i:=⟨d,g,.look z c x i⟩) hw h ?_
 cases hl:jK kv m with
 |some v=>exact k1 v hl
 |none=>exact k2 hl
theorem ab.jL {d:Option Nat}{g:Option (Nat × Bool)}{x i b:QO}{k:Nat}{m:Int}{v:T}(hw:cj α.tm g=some true) (hx:x.ev α.tm=.mp k) (hS:S.get k=some (.mp (ρ.h (ku f) kv))) (hi:i.ev α.tm=.v (.int .i64 m)) (hb:b.ev α.tm=f v)
  (k1:∀ sd,sd=l9 kv m v->ab P w0 rd n Q (.bD false l K) (cD d α (.v undef)) (S.set k (some (.mp (ρ.h (ku f) sd))))):ab P w0 rd n Q (.bD false (⟨d,g,.jL x i b⟩::l) K) α S:=by
 have h:=ad.jL (P:=P) (w0:=w0) hx hS (by rw [ρ.eq];exact zo) hi hb
 rw [ρ.eq,BZ,<-ρ.eq (ku f)] at h
 exact ab.op (i:=⟨d,g,.jL x i b⟩) hw h (k1 _ rfl)
theorem ab.fH {d:Option Nat}{g:Option (Nat × Bool)}(ρ:Hd) (f:T->AV) (hw:cj α.tm g=some true) (k1:∀ kv:List (Int × T),kv=[]->ab P w0 rd n Q (.bD false l K) (cD d α (.mp S.nx)) (S.new (.mp (ρ.h (ku f) kv)))):ab P w0 rd n Q (.bD false (⟨d,g,.fH none⟩::l) K) α S:=by
 have h:=k1 [] rfl
 rw [ρ.eq] at h
 exact ab.op (i:=⟨d,g,.fH none⟩) hw ad.fH h
theorem ab.xP {d:Option Nat}{g:Option (Nat × Bool)}{x:QO}{kk:IntKind}{m:Int}(ρ:Hd) (f:T->AV) (hw:cj α.tm g=some true) (hx:x.ev α.tm=.v (.int kk m)) (k1:∀ kv:List (Int × T),kv=[]->ab P w0 rd n Q (.bD false l K) (cD d α (.mp S.nx)) (S.new (.mp (ρ.h (ku f) kv)))):ab P w0 rd n Q (.bD false (⟨d,g,.fH (some x)⟩::l) K) α S:=by
 have h:=k1 [] rfl
 rw [ρ.eq] at h
 exact ab.op (i:=⟨d,g,.fH (some x)⟩) hw (ad.xP hx) h
end
section
variable {ι:Nat->Nat}{M:Nat}
theorem Rn.pure {a:AV}(h:Pure a):Rn ι M a a:=fun g w x hr=>aJ.pure (g:=g) (g':=g.pre ι M) (fun _ _ h=>h) (fun _ _ _=>rfl) hr h
theorem Rn.gr {j k sz len:Nat}(h:k=ι j) (hj:Nat.blt j M=true):Rn ι M (.gr k sz len) (.gr j sz len):=fun g w x hr=>by
 subst h
 cases hr with
 |iQ=>exact .iQ
 |gr hk hx hle=>exact .gr (g:=g.pre ι M) (k:=j) ⟨dR hj,hk⟩ hx hle
theorem Rn.nil {j sz:Nat}:Rn ι M (.sl true []) (.gr j sz 0):=fun g w x hr=>by
 cases hr with
 |nil hc=>rw [hc rfl];exact .iQ
 |sl hn=>exact absurd rfl hn
theorem Rn.pt {j k sz i q:Nat}(h:k=ι j) (hj:Nat.blt j M=true):Rn ι M (.pt k sz i q) (.pt j sz i q):=fun g w x hr=>by
 subst h
 cases hr with
 |pt hk=>exact .pt (g:=g.pre ι M) (k:=j) ⟨dR hj,hk⟩
theorem Rn.mp {j k:Nat}(h:k=ι j) (hj:Nat.blt j M=true):Rn ι M (.mp k) (.mp j):=fun g w x hr=>by
 subst h
 cases hr with
 |mp hk=>exact .mp (g:=g.pre ι M) (k:=j) ⟨dR hj,hk⟩
theorem Rn.yl {j k:Nat}(h:k=ι j) (hj:Nat.blt j M=true):Rn ι M (.yl k) (.yl j):=fun g w x hr=>by
 subst h
 cases hr with
 |yl hk=>exact .yl (g:=g.pre ι M) (k:=j) ⟨dR hj,hk⟩
def v_ (ι:Nat->Nat) (M:Nat):List AV->List AV->Prop
 |[],[]=>True
 |a::l,b::m=>Rn ι M a b/\v_ ι M l m
 |_,_=>False
theorem v_.at:∀ {l m:List AV},v_ ι M l m->l.length=m.length/\∀ (i:Nat) (b:AV),m[i]?=some b->∃ a,l[i]?=some a/\Rn ι M a b
 |[],[],_=>⟨rfl,fun i b h=>by simp at h⟩
 |a::l,b::m,hc=>⟨by simp [hc.2.at.1],fun i c h=>by
  cases i with
  |zero=>simp at h;subst h;exact⟨a,rfl,hc.1⟩
  |succ i=>simp at h;obtain⟨d,h1,h2⟩:=hc.2.at.2 i c h;exact⟨d,by simpa using h1,h2⟩⟩
 |[],_::_,h=>h.elim
 |_::_,[],h=>h.elim
theorem Rn.fn {f:Fn}{l m l' m':List AV}(h:v_ ι M l m) (k:v_ ι M l' m'):Rn ι M (.fn f l l') (.fn f m m'):=fun g w x hr=>by
 cases hr with
 |fn h1 h2 h3 h4 =>
  refine .fn (h1.trans h.at.1) (h2.trans k.at.1) (fun i b y hb hy=>?_) (fun i b y hb hy=>?_)
  ·obtain⟨a,e1,e2⟩:=h.at.2 i b hb
   exact e2 g w y (h3 i a y e1 hy)
  ·obtain⟨a,e1,e2⟩:=k.at.2 i b hb
   exact e2 g w y (h4 i a y e1 hy)
theorem hO.pure {sz fz:Nat}{rows:List (List AV)}{ex:Bool}(h:∀ row ∈ rows,∀ a ∈ row,Pure a):hO ι M (.arr sz rows fz ex) (.arr sz rows fz ex):=by
 refine⟨fun g w b cp hr=>?_,fun J h=>by cases h⟩
 obtain⟨cs,ty,h1,h2,h3,h4,h5,h6,h7⟩:=hr
 refine⟨cs,ty,h1,h2,h3,h4,fun i row hr=>⟨(h5 i row hr).1,fun j a ha=>?_⟩,h6,h7⟩
 obtain⟨x,hx,dw⟩:=(h5 i row hr).2 j a ha
 exact⟨x,hx,Rn.pure (h _ (List.mem_of_getElem? hr) _ (List.mem_of_getElem? ha)) g w x dw⟩
theorem hO.row {sz fz:Nat}{r0 r1:List AV}{ex:Bool}(h:v_ ι M r0 r1):hO ι M (.arr sz [r0] fz ex) (.arr sz [r1] fz ex):=by
 refine⟨fun g w b cp hr=>?_,fun J h=>by cases h⟩
 obtain⟨cs,ty,h1,h2,h3,h4,h5,h6,h7⟩:=hr
 refine⟨cs,ty,h1,h2,h3,h4,fun i row hr=>?_,h6,h7⟩
 cases i with
 |succ i=>simp at hr
 |zero =>
  simp at hr
  subst hr
  obtain⟨q1,q2⟩:=h5 0 r0 rfl
  refine⟨by rw [<-h.at.1];exact q1,fun j a ha=>?_⟩
  obtain⟨a0,e1,e2⟩:=h.at.2 j a ha
  obtain⟨x,hx,dw⟩:=q2 j a0 e1
  exact⟨x,hx,e2 g w x dw⟩
theorem hO.mp {es:List (Value × AV)}(h:∀ e ∈ es,Pure e.2):hO ι M (.mp es) (.mp es):=by
 refine⟨fun g w b cp hr=>?_,fun J h=>by cases h⟩
 obtain⟨entries,clock,h1,h2,h3⟩:=hr
 refine⟨entries,clock,h1,h2,fun i k a ha=>?_⟩
 obtain⟨e,he,hk,hr⟩:=h3 i k a ha
 exact⟨e,he,hk,Rn.pure (h _ (List.mem_of_getElem? ha)) g w _ hr⟩
theorem hO.fo {J:lz}:hO ι M (.fo J) (.fo J):=⟨fun g w b cp hr=>hr,fun J' h=>h⟩
theorem Rb.pure {a:AV}(h:Pure a):Rb ι a a:=fun gc g w x hB hr=>aJ.pure (g:=gc) (g':=g) (fun b q hq=>by rw [hB.fz];exact hq) (fun _ _ _=>rfl) hr h
theorem Rb.gr {j k sz len:Nat}(h:k=ι j):Rb ι (.gr j sz len) (.gr k sz len):=fun gc g w x hB hr=>by
 subst h
 cases hr with
 |iQ=>exact .iQ
 |gr hk hx hle=>rw [<-hB.ob j hk];exact .gr (hB.al j hk) (by rw [hB.cp j hk];exact hx) hle
theorem Rb.mp {j k:Nat}(h:k=ι j):Rb ι (.mp j) (.mp k):=fun gc g w x hB hr=>by
 subst h
 cases hr with
 |mp hk=>rw [<-hB.ob j hk];exact .mp (hB.al j hk)
theorem Rb.ob {j k sz off len:Nat}{cx:Option Nat}(h:k=ι j):Rb ι (.ob j sz off len cx) (.ob k sz off len cx):=fun gc g w x hB hr=>by
 subst h
 cases hr with
 |ob hk hc hp hx hle=>rw [<-hB.ob j hk];exact .ob (hB.al j hk) hc (by rw [hB.cp j hk];exact hp) (by rw [hB.cp j hk];exact hx) hle
def Nk (ι:Nat->Nat):List AV->List AV->Prop
 |[],[]=>True
 |a::l,b::m=>Rb ι a b/\Nk ι l m
 |_,_=>False
theorem Nk.at:∀ {l m:List AV},Nk ι l m->l.length=m.length/\∀ (i:Nat) (b:AV),m[i]?=some b->∃ a,l[i]?=some a/\Rb ι a b
 |[],[],_=>⟨rfl,fun i b h=>by simp at h⟩
 |a::l,b::m,hc=>⟨by simp [hc.2.at.1],fun i c h=>by
  cases i with
  |zero=>simp at h;subst h;exact⟨a,rfl,hc.1⟩
  |succ i=>simp at h;obtain⟨d,h1,h2⟩:=hc.2.at.2 i c h;exact⟨d,by simpa using h1,h2⟩⟩
 |[],_::_,h=>h.elim
 |_::_,[],h=>h.elim
theorem iD.pure {sz fz:Nat}{rows:List (List AV)}{ex:Bool}(h:∀ row ∈ rows,∀ a ∈ row,Pure a):iD ι (.arr sz rows fz ex) (.arr sz rows fz ex):=by
 refine⟨fun gc g w b cp hB _ hr=>?_,fun J h=>by cases h⟩
 obtain⟨cs,ty,h1,h2,h3,h4,h5,h6,h7⟩:=hr
 refine⟨cs,ty,h1,h2,h3,h4,fun i row hr=>⟨(h5 i row hr).1,fun j a ha=>?_⟩,h6,by rw [hB.fz];exact h7⟩
 obtain⟨x,hx,dw⟩:=(h5 i row hr).2 j a ha
 exact⟨x,hx,Rb.pure (h _ (List.mem_of_getElem? hr) _ (List.mem_of_getElem? ha)) gc g w x hB dw⟩
theorem iD.row {sz fz:Nat}{r0 r1:List AV}{ex:Bool}(h:Nk ι r0 r1):iD ι (.arr sz [r0] fz ex) (.arr sz [r1] fz ex):=by
 refine⟨fun gc g w b cp hB _ hr=>?_,fun J h=>by cases h⟩
 obtain⟨cs,ty,h1,h2,h3,h4,h5,h6,h7⟩:=hr
 refine⟨cs,ty,h1,h2,h3,h4,fun i row hr=>?_,h6,by rw [hB.fz];exact h7⟩
 cases i with
 |succ i=>simp at hr
 |zero =>
  simp at hr
  subst hr
  obtain⟨q1,q2⟩:=h5 0 r0 rfl
  refine⟨by rw [<-h.at.1];exact q1,fun j a ha=>?_⟩
  obtain⟨a0,e1,e2⟩:=h.at.2 j a ha
  obtain⟨x,hx,dw⟩:=q2 j a0 e1
  exact⟨x,hx,e2 gc g w x hB dw⟩
theorem iD.mp {es:List (Value × AV)}(h:∀ e ∈ es,Pure e.2):iD ι (.mp es) (.mp es):=by
 refine⟨fun gc g w b cp hB _ hr=>?_,fun J h=>by cases h⟩
 obtain⟨entries,clock,h1,h2,h3⟩:=hr
 refine⟨entries,clock,h1,h2,fun i k a ha=>?_⟩
 obtain⟨e,he,hk,hr⟩:=h3 i k a ha
 exact⟨e,he,hk,Rb.pure (h _ (List.mem_of_getElem? ha)) gc g w _ hB hr⟩
theorem iD.fo {J:lz}:iD ι (.fo J) (.fo J):=⟨fun gc g w b cp hB hf hr=>⟨by rw [hB.fz,hf J rfl];exact hr.1,hr.2⟩,fun J' h=>h⟩
end
def B5 (f:Nat->Nat):List Nat->Bool
 |[]=>true
 |j::l=>l.all (fun i=>!Nat.beq (f i) (f j)) && B5 f l
theorem ED {f:Nat->Nat}:∀ {l:List Nat},B5 f l=true->∀ i j,i ∈ l->j ∈ l->f i=f j->i=j
 |[],_,i,j,h,_,_=>by cases h
 |a::l,hd,i,j,hi,hj,e=>by
  simp only [B5,Bool.and_eq_true,List.all_eq_true,Bool.not_eq_true'] at hd
  have ne:∀ x ∈ l,f x ≠ f a:=fun x hx h=>by
   have:=hd.1 x hx
   rw [h,Nat.beq_refl] at this
   cases this
  rcases List.mem_cons.1 hi with h1|h1
  ·rcases List.mem_cons.1 hj with h2|h2
   ·rw [h1,h2]
   ·exact absurd (by rw [<-e,h1]) (ne _ h2)
  ·rcases List.mem_cons.1 hj with h2|h2
   ·exact absurd (by rw [e,h2]) (ne _ h1)
   ·exact ED hd.2 i j h1 h2 e
def xQ (ι:Nat->Nat) (M:Nat) (T:ae):List (Nat × Ob)->Prop
 |[]=>True
 |p::l=>(∃ ck,T.get (ι p.1)=some ck/\hO ι M ck p.2)/\xQ ι M T l
def oh (o:Nat->Nat) (so:List (Nat × Ob)):List (Nat × Option Ob)->Prop
 |[]=>True
 |(k,none)::l=>oh o so l
 |(k,some eE)::l=>(∃ j p,o j=k/\ix so j=some p/\iD o p eE)/\oh o so l
theorem xQ.mem {ι:Nat->Nat}{M:Nat}{T:ae}:∀ {l:List (Nat × Ob)},xQ ι M T l->∀ p ∈ l,∃ ck,T.get (ι p.1)=some ck/\hO ι M ck p.2
 |[],_,p,h=>by cases h
 |q::l,hc,p,h=>by
  rcases List.mem_cons.1 h with rfl|h
  ·exact hc.1
  ·exact hc.2.mem p h
theorem oh.mem {o:Nat->Nat}{so:List (Nat × Ob)}:∀ {l:List (Nat × Option Ob)},oh o so l->∀ k eE,(k,some eE) ∈ l->∃ j p,o j=k/\ix so j=some p/\iD o p eE
 |[],_,k,eE,h=>by cases h
 |(a,none)::l,hc,k,eE,h=>by
  rcases List.mem_cons.1 h with h|h
  ·cases h
  ·exact oh.mem (l:=l) hc k eE h
 |(a,some b)::l,hc,k,eE,h=>by
  rcases List.mem_cons.1 h with h|h
  ·injection h with h1 h2;injection h2 with h2;subst h1 h2;exact hc.1
  ·exact oh.mem (l:=l) hc.2 k eE h
def wQ:List (Nat × Ob)->Bool
 |[]=>true
 |(_,.fo _)::_=>false
 |_::l=>wQ l
theorem EE:∀ {l:List (Nat × Ob)}{j:Nat}{J:lz},wQ l=true->ix l j ≠ some (.fo J)
 |[],j,J,_,h=>by cases h
 |(a,o)::l,j,J,hn,h=>by
  have hl:wQ l=true:=by cases o<;>first|exact hn|cases hn
  simp only [ix] at h
  split at h
  ·obtain rfl:=Option.some.inj h;cases hn
  ·exact EE hl h
section
variable {P:Program}{w0:World}{rd:Bool}{n:Nat}{α:AA}{T:ae}{Q:Exit->AA->ae->Prop}{K:List iC}{l:List QI}
theorem QB {m:List (Nat × Nat)}{N N':Nat}{so so':List (Nat × Ob)}{to:List (Nat × Option Ob)}(hi:B5 (bX m) (List.range N)=true) (au:(List.range N).all (fun j=>Nat.blt (bX m j) T.nx)=true)
  (hS:xQ (bX m) N T so) (hT:oh (gw (bX m) N T.nx) so' to) (hc:(List.range N).all (fun j=>(to.map (·.1)).contains (bX m j))=true) (o4:to.all (fun p=>true)=true) (nG:∀ k o,T.get k=some o->k < T.nx)
  (hf:(∀ k J,T.get k=some (.fo J)->∃ j,j < N/\bX m j=k)\/wQ so'=true):Fits (bX m) (aM so N) (aM so' N') T ⟨fM T.get to,T.nx+N'⟩:=by
 refine⟨fun i j h1 h2 e=>ED hi i j (List.mem_range.2 h1) (List.mem_range.2 h2) e,fun j hj=>dR (List.all_eq_true.1 au j (List.mem_range.2 hj)),fun j o ho=>hS.mem _ (iR ho),fun k eE hk=>?_,.inl rfl,?_⟩
 ·have hk:fM T.get to k=some eE:=hk
  have key:∀ {l:List (Nat × Option Ob)},fM T.get l k=some eE->(k,some eE) ∈ l\/(k ∉ l.map (·.1)/\T.get k=some eE):=by
   intro l
   induction l with
   |nil=>exact fun h=>.inr ⟨by simp,h⟩
   |cons p l ih =>
    intro h
    rw [fM] at h
    by_cases e:k=p.1
    ·rw [e,aE] at h
     exact .inl (by rw [e,<-h];simp)
    ·rw [aK _ _ e] at h
     rcases ih h with h1|⟨h1,h2⟩
     ·exact .inl (by simp [h1])
     ·exact .inr ⟨by simp only [List.map_cons,List.mem_cons,not_or];exact⟨e,h1⟩,h2⟩
  rcases key hk with h|⟨h1,h2⟩
  ·obtain⟨j,p,e1,e2,e3⟩:=hT.mem k eE h
   exact .inl ⟨j,p,e1,e2,e3⟩
  ·refine .inr ⟨nG k eE h2,fun j hj e=>h1 ?_,h2⟩
   have:=List.all_eq_true.1 hc j (List.mem_range.2 hj)
   rw [<-e]
   simpa using this
 ·rcases hf with h|h
  ·exact .inl h
  ·exact .inr fun j J=>EE h
theorem ad.iS {f:QO}{aZ9:List QO}{g:FuncId}{args gj:List AV}{r pQ:AV}{m:List (Nat × Nat)}{N N':Nat}{so so':List (Nat × Ob)}{to:List (Nat × Option Ob)}(bI:bc P w0 g args (aM so N) r (aM so' N'))
  (h:eL (f.ev α.tm) (aZ9.map (·.ev α.tm))=some (g,gj)) (ha:v_ (bX m) N gj args) (hr:Rb (gw (bX m) N T.nx) r pQ)
  (hi:B5 (bX m) (List.range N)=true) (au:(List.range N).all (fun j=>Nat.blt (bX m j) T.nx)=true) (hS:xQ (bX m) N T so) (hT:oh (gw (bX m) N T.nx) so' to) (hc:(List.range N).all (fun j=>(to.map (·.1)).contains (bX m j))=true)
  (nG:∀ k o,T.get k=some o->k < T.nx) (hf:(∀ k J,T.get k=some (.fo J)->∃ j,j < N/\bX m j=k)\/wQ so'=true):ad P w0 false (.call f aZ9) α T pQ ⟨fM T.get to,T.nx+N'⟩ :=
 ad.call h (bI.frame (QB hi au hS hT hc (by simp) nG hf) ha.at.1 (fun i a b h1 h2=>by
  obtain⟨a',h3,h4⟩:=ha.at.2 i b h2
  rw [h3] at h1
  rw [<-Option.some.inj h1];exact h4) hr) fun e=>by cases e
theorem Cv.canon {B N:Nat}{m:List (Nat × Nat)}{l:List (Nat × AV)}{ds:List Nat}{so:List (Nat × Ob)}(hn:Nat.ble T.nx B=true) (hC:Canon B N m α T l ds so):Cv w0 n α T (dX l ds) (aM so N):=by
 intro A g a w hS hA
 refine⟨_,hC.st hS,hC.FN hA,(Ext.refl A g w).e_ (Nat.le_of_ble_eq_true hC.bn) fun k hk=>?_⟩
 exact Nat.lt_of_lt_of_le (hS.al k hk) (Nat.le_of_ble_eq_true hn)
end
section
variable {P:Program}{w0:World}{rd:Bool}{n:Nat}{α:AA}{S:ae}{Q Q':Exit->AA->ae->Prop}{K:List iC}{l:List QI}{dr:Bool}
theorem fE.mono {c:QC}(hm:∀ ex α S,Q ex α S->Q' ex α S) (h:fE P w0 rd n c Q α S):fE P w0 rd n c Q' α S:=by
 intro c0 hc hd
 obtain⟨ex,bK,bZ,h1,h2⟩:=h c0 hc hd
 exact⟨ex,bK,bZ,h1,hm _ _ _ h2⟩
theorem cS.mono (hm:∀ ex α S,Q ex α S->Q' ex α S):∀ (K:List iC) (ex:Exit) (α:AA) (S:ae),cS P w0 rd n Q K ex α S->cS P w0 rd n Q' K ex α S
 |[],ex,α,S,h=>hm _ _ _ h
 |.seq b::K,ex,α,S,h=>by
  cases ex with
  |normal=>exact fE.mono (cS.mono hm K) h
  |_=>exact cS.mono hm K _ _ _ h
 |.qY id::K,ex,α,S,h=>by
  cases ex with
  |exit j =>
   simp only [cS] at h ⊢
   cases hj:Nat.beq j id with
   |true=>rw [hj] at h;exact cS.mono hm K _ _ _ h
   |false=>rw [hj] at h;exact cS.mono hm K _ _ _ h
  |_=>exact cS.mono hm K _ _ _ h
 |.uc::K,ex,α,S,h=>by
  cases ex with
  |goto l=>exact h
  |_=>exact cS.mono hm K _ _ _ h
theorem qZ:∀ (K L:List iC),cS P w0 rd n Q (K++L)=cS P w0 rd n (cS P w0 rd n Q L) K
 |[],L=>rfl
 |.seq b::K,L=>by
  rw [List.cons_append,cS,cS,qZ K L]
 |.qY id::K,L=>by
  rw [List.cons_append,cS,cS,qZ K L]
 |.uc::K,L=>by
  rw [List.cons_append,cS,cS,qZ K L]
theorem ea.mono {Q Q':AA->ae->Prop}{E E':List PanicEntry->AA->ae->Prop}(hm:∀ α S,Q α S->Q' α S) (he:∀ ch α S,E ch α S->E' ch α S) (h:ea P w0 n dr l Q E α S):ea P w0 n dr l Q' E' α S:=by
 intro ops rest hr
 have h:=h ops rest hr
 cases dr with
 |false=>exact fun j hj=>(h j hj).imp (fun ⟨bK,bZ,h1,h2⟩=>⟨bK,bZ,h1,hm _ _ h2⟩) fun ⟨ch,bK,bZ,h1,h2⟩=>⟨ch,bK,bZ,h1,he _ _ _ h2⟩
 |true =>
  intro j hj
  obtain⟨bK,bZ,h1,h2⟩:=h j hj
  exact⟨bK,bZ,h1,hm _ _ h2⟩
def FR {σ:Type}(P:Program) (w0:World) (rd:Bool) (n B N:Nat) (st:σ->List (Nat × AV)) (ds:List Nat) (so:σ->List (Nat × Ob)) (I:σ->Prop) (Q:Exit->AA->ae->Prop) (K:List iC):Exit->AA->ae->Prop :=
 fun ex α S=>match ex with|.normal=>∃ s m,I s/\Nat.ble S.nx B=true/\Canon B N m α S (st s) ds (so s)|e=>ab P w0 rd n Q (.out e K) α S
theorem ab.abi {σ:Type}(j B N:Nat) (st:σ->List (Nat × AV)) (ds:List Nat) (so:σ->List (Nat × Ob)) (I:σ->Prop) {b:QC}{K':List iC}(hj:K.drop j=.seq b::K')
  (h:ab P w0 rd n (FR P w0 rd n B N st ds so I Q (.seq b::K')) (.bD dr l (K.take j)) α S) (k:∀ s,I s->ab P w0 rd n Q (.run b K') (dX (st s) ds) (aM (so s) N)):ab P w0 rd n Q (.bD dr l K) α S:=by
 rw [<-List.take_append_drop j K,hj]
 have key:∀ ex α S,cS P w0 rd n (FR P w0 rd n B N st ds so I Q (.seq b::K')) (K.take j) ex α S->cS P w0 rd n Q (K.take j++.seq b::K') ex α S:=?_
 ·exact ea.mono (fun α S hq=>key _ _ _ hq) (fun ch α S hq=>key _ _ _ hq) h
 intro ex α S hq
 rw [qZ]
 refine cS.mono (fun ex α S hq=>?_) _ _ _ _ hq
 cases ex with
 |normal =>
  obtain⟨s,m,hI,hn,hC⟩:=hq
  exact ab.cvO (Cv.canon hn hC) (k s hI)
 |_=>exact hq
theorem ab.Sp {σ:Type}{B N:Nat}{ds:List Nat}{st:σ->List (Nat × AV)}{so:σ->List (Nat × Ob)}{I:σ->Prop}(s:σ) (m:List (Nat × Nat)) (hI:I s) (hn:Nat.ble S.nx B=true) (hC:Canon B N m α S (st s) ds (so s)) :
  ab P w0 rd n (FR P w0 rd n B N st ds so I Q K) (.out .normal []) α S:=⟨s,m,hI,hn,hC⟩
end
def iT:List Nat->(Nat->AV)->Nat->AV
 |[],f=>fun _=>.u
 |t::G,f=>match f t with|.u=>iT G f|a=>bO (iT G f) t a
theorem ud:∀ (G:List Nat) (f:Nat->AV) (s:Nat),iT G f s=f s\/iT G f s=.u
 |[],f,s=>.inr rfl
 |t::G,f,s=>by
  have ih:=ud G f s
  have key:iT (t::G) f=iT G f\/iT (t::G) f=bO (iT G f) t (f t):=by
   rw [iT]
   cases f t with
   |u=>exact .inl rfl
   |_=>exact .inr rfl
  rcases key with h|h<;>rw [h]
  ·exact ih
  ·by_cases h:s=t
   ·subst h;rw [aE];exact .inl rfl
   ·rw [aK _ _ h];exact ih
def wR (G:List Nat):Nat->QF->AA->ae->QF × AA × ae
 |0,c,α,S=>(c,α,S)
 |m+1,c,α,S=>match c with
  |.out .normal (.seq b::K)=>match α with|⟨f,d⟩=>wR G m (.run b K) ⟨iT G f,d⟩ S
  |c=>match ue c α S with
   |some (c',aA,S')=>wR G m c' aA S'
   |none=>(c,α,S)
section
variable {P:Program}{w0:World}{rd:Bool}{n:Nat}{Q:Exit->AA->ae->Prop}
theorem Cv.prune (G:List Nat) {α:AA}{S:ae}:Cv w0 n α S ⟨iT G α.tm,α.df⟩ S:=by
 intro A g a w hS hA
 refine⟨g,hS,?_,Ext.refl A g w⟩
 refine⟨hA.size,fun t ht=>?_,fun t ht=>?_,hA.df,hA.sb⟩
 ·rcases ud G α.tm t with h|h
  ·show aJ g w (iT G α.tm t) _
   rw [h];exact hA.tm t ht
  ·show aJ g w (iT G α.tm t) _
   rw [h];exact .u
 ·show iT G α.tm t=.u
  rcases ud G α.tm t with h|h
  ·rw [h];exact hA.out t ht
  ·exact h
theorem sT (G:List Nat):∀ {m:Nat}{cf pR:QF}{α aA:AA}{S S':ae},wR G m cf α S=(pR,aA,S')->ab P w0 rd n Q pR aA S'->ab P w0 rd n Q cf α S
 |0,cf,pR,α,aA,S,S',h,k=>by
  simp only [wR,Prod.mk.injEq] at h
  obtain⟨rfl,rfl,rfl⟩:=h
  exact k
 |m+1,cf,pR,α,aA,S,S',h,k=>by
  unfold wR at h
  split at h
  ·rename_i b K
   cases α
   exact ab.cv (c:=b) (K:=K) (Cv.prune G) (sT (m:=m) G h k)
  ·split at h
   ·rename_i c1 a1 s1 hm
    exact I_ hm (sT G h k)
   ·simp only [Prod.mk.injEq] at h
    obtain⟨rfl,rfl,rfl⟩:=h
    exact k
theorem ab.goG (G:List Nat) (m:Nat) {cf pR:QF}{α aA:AA}{S S':ae}(h:wR G m cf α S=(pR,aA,S')) (k:ab P w0 rd n Q pR aA S'):ab P w0 rd n Q cf α S:=sT G h k
end
section
variable {P:Program}{w0:World}{α:AA}{S:ae}
theorem ad.raw {op:BinOp}{isB:BK}{x y:QO}{k k':IntKind}{a b:Int}{r:Value}(h1:x.ev α.tm=.v (.int k a)) (h2:y.ev α.tm=.v (.int k' b)) (hq:op ≠ .eql) (hn:op ≠ .neq)
  (h:∀ (t:TypeId) (w:World),(binOp op t (.int k a) (.int k' b)).run P w=.ok r w):ad P w0 false (.bin op isB x y) α S (.v r) S:=by
 refine ad.run fun n o hr=>?_
 obtain⟨t,u,v,s,ho,rfl,rfl,hB⟩:=pG hr
 rw [aR] at h1 h2
 refine bf.quiet fun A g q w hS hA=>?_
 have e1:=hA.ev u
 have e2:=hA.ev v
 rw [h1] at e1
 rw [h2] at e2
 refine⟨_,?_,.v⟩
 have hg:∀ (u v:Operand) (x y:Value),eqGuard op t u v x y=pure ():=by
  intro u v x y
  cases op<;>first|rfl|exact absurd rfl hq|exact absurd rfl hn
 simp [execOp,ho,ca e1,ca e2,hg,h]
end
section
variable {P:Program}{w0:World}{n:Nat}{S S':ae}{f:FuncId}{args:List AV}{r r':AV}{B N:Nat}{m:List (Nat × Nat)}{so:List (Nat × Ob)}
theorem bc.canon (h:bc P w0 f args S r S') (hn:Nat.ble S.nx B=true) (hr:gF B m N r r') (ho:q8 B m N S' so) (hd:mN B m (so.map (·.1))=true) (hb:Nat.ble B N=true):bc P w0 f args S r' (aM so N):=by
 refine⟨h.1,fun F mm A g bL w hF hS hA=>(h.2 F mm A g bL w hF hS hA).mono ?_⟩
 rintro e w' ⟨v,g',rfl,h3,h4,h5⟩
 have hC:Canon B N m ⟨fun _=>.u,[]⟩ S' [] [] so:=⟨trivial,rfl,ho,hd,hb,rfl⟩
 have hN:=Nat.le_of_ble_eq_true hb
 exact⟨v,g'.e_ B N (bX m),rfl,gF.rep hN hr h3,hC.st h4,h5.e_ hN fun k hk=>Nat.lt_of_lt_of_le (hS.al k hk) (Nat.le_of_ble_eq_true hn)⟩
theorem aH.jM {q:QC × List QR}(B N:Nat) (so:List (Nat × Ob)) (F:aH P f q n) (bA:args.length<=n) (hn:Nat.ble S.nx B=true) (hb:Nat.ble B N=true)
  (h:ab P w0 false n (mO q.2 fun r S'=>∃ m,gF B m N r r'/\q8 B m N S' so/\mN B m (so.map (·.1))=true) (.run q.1 []) ⟨kg args,[]⟩ S):bc P w0 f args S r' (aM so N):=by
 obtain⟨r,S',h1,m,h2,h3,h4⟩:=aH.As F bA h
 exact h1.canon hn h2 h3 h4 hb
end
section
variable {P:Program}{w0:World}{α:AA}{S:ae}
theorem ad.ext {f:QO}{aZ9:List QO}{g:FuncId}{xs:List Value}{v:Value}(h:f.ev α.tm=.v (.func (.func g) #[] #[])) (ha:aZ9.map (·.ev α.tm)=xs.map .v) (hx:∀ w:World,(callFunc g xs.toArray).run P w=.ok (.value v) w):ad P w0 false (.call f aZ9) α S (.v v) S:=by
 refine ad.run fun n o hr=>?_
 obtain⟨c,u,ho,hu,rfl,rfl⟩:=l7 hr
 rw [ml] at ha
 rw [aR] at h
 refine bf.quiet fun A g' q w hS hA=>?_
 have e1:=hA.ev u
 rw [h] at e1
 have e2:=ca e1
 have key:∀ (l:List Operand) (xs:List Value),l.map α.ev=xs.map AV.v->l.map q.eval=xs:=by
  intro l
  induction l with
  |nil =>
   intro xs h
   cases xs with
   |nil=>rfl
   |cons x xs=>cases h
  |cons y l ih =>
   intro xs h
   cases xs with
   |nil=>cases h
   |cons x xs =>
    rw [List.map_cons,List.map_cons] at h
    injection h with h1 h2
    have e5:=hA.ev y
    rw [h1] at e5
    rw [List.map_cons,ca e5,ih xs h2]
 have e3:c.args.map q.eval=xs.toArray:=by
  apply Array.toList_inj.1
  rw [Array.toList_map,key _ _ ha]
 refine⟨v,?_,.v⟩
 have Sq:=hx w
 simp [execOp,ho,hu,e2,e3,Sq,resolve,invoke,Deferred.ofValue]
end
def uf (P:Program) (w0:World) (f:FuncId) (args:List AV) (S:ae) (ch:List PanicEntry) (S':ae):Prop :=
 (∀ (xs:Array Value) (w:World),(callFunc f xs).run P w=.ok (.enter f xs) w) /\
 ∀ (F:Fence) (m:Nat) (A:Nat->Prop) (g:Gh) (bL:Array Value) (w:World),g7 F->St w0 A g S w->jm g w args bL ->
  CallsIn F m P f bL w fun e w'=>∃ g',e=.panicked ch/\St w0 A g' S' w'/\Ext A g w g' w'
def pe (P:Program) (w0:World) (f:FuncId) (args:List AV) (ch:List PanicEntry):Prop:=∃ S',uf P w0 f args ae.none_ ch S'
section
variable {P:Program}{w0:World}{rd:Bool}{n:Nat}{α aA:AA}{S S':ae}{Q:Exit->AA->ae->Prop}{ex:Exit}{r:AV}{i:QI}{l:List QI}{K:List iC}{ch:List PanicEntry}
theorem pe.KZ {f:FuncId}{args dO:List AV}(h:pe P w0 f args ch) (hp:∀ a ∈ args,Pure a) (S:ae) (hl:dO.length=args.length) (hf:∀ (i:Nat) (a0 a:AV),dO[i]?=some a0->args[i]?=some a->aU S a0 a):uf P w0 f dO S ch S:=by
 obtain⟨S1,h1,h2⟩:=h
 refine⟨h1,fun F m A g bL w hF hS hA=>?_⟩
 have au:∀ b q,(g.still S).fz b q->b < w.heap.size:=by
  rintro b q (hq|⟨k,sz,rows,fz,ex,hk,bN,rfl,hq⟩)
  ·exact hS.cG b q hq
  ·exact (hS.cC k _ hk bN).2.1
 refine (h2 F m _ _ bL w hF (hS.inner (g.still S).fz (fun _ _ h=>.inl h) au) ⟨hA.1.trans hl,fun i a x ha hx=>?_⟩).mono ?_
 ·have hi:i < dO.length:=by rw [hl];exact (List.getElem?_eq_some_iff.1 ha).1
  have Ja:=List.getElem?_eq_getElem hi
  exact aJ.pure (g:=g.still S) (g':=⟨g.ob,g.cp,fun _=>False,(g.still S).fz,g.fo⟩) (fun _ _ h=>h) (fun _ _ _=>rfl) ((hf i _ a Ja ha).rep hS (hA.2 i _ x Ja hx)) (hp a (List.mem_of_getElem? ha))
 ·rintro e w' ⟨g1,rfl,h4,h5⟩
  obtain⟨hE,dg⟩:=hS.outer (fun _ _ h=>.inl h) au h4 h5
  exact⟨_,rfl,dg,hE⟩
theorem pe.B6 {f:FuncId}{args dO:List AV}(h:pe P w0 f args ch) (hp:db args) {S:ae}(hf:ff S dO args):uf P w0 f dO S ch S:=h.KZ hp.all S hf.len hf.at
theorem K0 {o:Oper}{c:Call}{f:Operand}{gf:FuncId}{args:List AV}(ho:o.op=.call c) (hc:c.callee=.value f)
  (hf:∀ (A:Nat->Prop) (g:Gh) (a:Act) (w:World),St w0 A g S w->bY g w n α a->∃ first cap,a.eval f=.func (.func gf) first cap/\jm g w args (first++c.args.map a.eval++cap)) (h:uf P w0 gf args S ch S'):OpP P w0 n o α S ch S':=by
 intro F m A g a w next Q hF hS hA lY
 rw [Oper.semAt_eq _ _ _ (fun c' e=>by rw [ho] at e;cases e)]
 obtain⟨first,cap,he,hr⟩:=hf A g a w hS hA
 have cr:(execOp a.eval o).run P w=.ok (.enter gf (first++c.args.map a.eval++cap)) w:=by
  simp only [execOp,ho,resolve,hc,he,Deferred.ofValue,Sem.run_bind,Sem.run_pure,Result.andThen_ok,invoke]
  exact h.1 _ w
 rw [cr,Oper.uponIn_enter]
 refine⟨fun hd=>(by rw [hF.2.1] at hd;cases hd),(h.2 F (m - 1) A g _ w hF hS hr).mono ?_⟩
 rintro e w' ⟨g',rfl,h2,h3⟩
 exact lY w' g' h2 h3
theorem pS.call {f:QO}{aZ9:List QO}{g:FuncId}{args:List AV}(h:eL (f.ev α.tm) (aZ9.map (·.ev α.tm))=some (g,args)) (hc:uf P w0 g args S ch S'):pS P w0 (.call f aZ9) α S ch S':=by
 intro n o hr
 obtain⟨c,u,ho,hu,rfl,rfl⟩:=l7 hr
 rw [ml,aR] at h
 unfold eL at h
 refine K0 ho hu (fun A g' a w hS hA=>?_) hc
 have h1:=hA.ev u
 split at h
 ·rename_i g2 x y he
  split at h
  ·rename_i e1 e2
   injection h with h;injection h with h3 h4
   subst h3 h4
   rw [he] at h1
   have e3:x=#[]:=by cases x;simp at e1;rw [e1]
   have e4:y=#[]:=by cases y;simp at e2;rw [e2]
   subst e3 e4
   refine⟨#[],#[],ca h1,?_⟩
   rw [Array.empty_append,Array.append_empty]
   exact l_ hA c.args
  ·cases h
 ·rename_i g2 x y he
  injection h with h;injection h with h3 h4
  subst h3 h4
  rw [he] at h1
  obtain⟨cs,ds,h5,h6,h7⟩:=ub h1
  exact⟨cs,ds,h5,fF (fF h6 (l_ hA c.args)) h7⟩
 ·cases h
theorem pS.ag {f:QO}{aZ9:List QO}{g:FuncId}{args dO:List AV}(h:eL (f.ev α.tm) (aZ9.map (·.ev α.tm))=some (g,dO)) (hc:pe P w0 g args ch) (hp:db args) (hf:ff S dO args):pS P w0 (.call f aZ9) α S ch S:=pS.call h (hc.B6 hp hf)
theorem ab.ug (hw:cj α.tm i.g=some true) (h:pS P w0 i.q α S ch S') (k:ab P w0 rd n Q (.out (.panic ch) K) α S'):ab P w0 rd n Q (.bD false (i::l) K) α S:=ea.ug hw h k
def toV:AV->Option Value
 |.v x=>some x
 |.agg l=>match toVs l with|some cs=>some (.agg cs.toArray)|none=>none
 |_=>none
where toVs:List AV->Option (List Value)
 |[]=>some []
 |a::l=>match toV a,toVs l with|some x,some cs=>some (x::cs)|_,_=>none
theorem toVs_at:∀ {l:List AV}{cs:List Value},toV.toVs l=some cs->cs.length=l.length/\∀ (i:Nat) (a:AV),l[i]?=some a->∃ x,cs[i]?=some x/\toV a=some x
 |[],cs,h=>by
  simp only [toV.toVs,Option.some.injEq] at h
  subst h
  exact⟨rfl,fun i a h=>by simp at h⟩
 |a::l,cs,h=>by
  simp only [toV.toVs] at h
  split at h
  ·rename_i x cs' h1 h2
   obtain rfl:=Option.some.inj h
   obtain⟨k1,k2⟩:=toVs_at h2
   refine⟨by simp [k1],fun i b hb=>?_⟩
   cases i with
   |zero=>simp at hb;subst hb;exact⟨x,rfl,h1⟩
   |succ i=>simp at hb;simpa using k2 i b hb
  ·cases h
theorem se {g:Gh}{w:World}{a:AV}{y:Value}(hr:aJ g w a y):∀ {x:Value},toV a=some x->y=x:=by
 induction hr with
 |v=>intro x h;simp only [toV,Option.some.injEq] at h;exact h
 |@agg l cs hs h ih =>
  intro x hx
  simp only [toV] at hx
  split at hx
  ·rename_i cs' hc
   obtain rfl:=Option.some.inj hx
   obtain⟨k1,k2⟩:=toVs_at hc
   congr 1
   apply Array.ext
   ·simp [hs,k1]
   ·intro i h1 h2
    have hi:i < l.length:=by rw [<-hs];exact h1
    obtain⟨x,e1,e2⟩:=k2 i _ (List.getElem?_eq_getElem hi)
    have e3:=ih i _ _ (List.getElem?_eq_getElem hi) (Array.getElem?_eq_getElem h1) e2
    rw [e3]
    have:=(List.getElem?_eq_some_iff.1 e1)
    simp [<-this.2]
  ·cases hx
 |_=>intro x h;simp [toV] at h
theorem K1 {o:Op}{t:Nat}{x:QO}(h:res P.toTables o=some (.zp t x)):∃ u,o=.makeInterface t u/\x=qo u:=by
 cases o with
 |makeInterface t' u =>
  simp only [res,Option.some.injEq] at h
  injection h with h1 h2
  subst h1
  exact⟨u,rfl,h2.symm⟩
 |_ =>
  simp only [res] at h
  repeat' split at h
  all_goals cases h
def isIf (T:Tables) (t:TypeId):Bool:=match eF T t with|some (.interface _)=>true|some _=>false|none=>true
theorem ad.zp {t:Nat}{x:QO}{v:Value}(hx:toV (x.ev α.tm)=some v) (ht:isIf P.toTables t=false):ad P w0 false (.zp t x) α S (.v (.iface t v)) S:=by
 refine ad.run fun n o hr=>?_
 obtain⟨u,ho,rfl⟩:=K1 hr
 rw [aR] at hx
 refine bf.quiet fun A g a w hS hA=>⟨.iface t v,?_,.v⟩
 have e:=se (hA.ev u) hx
 unfold isIf at ht
 rw [b9] at ht
 simp only [execOp,ho,e,Instr.makeInterface]
 cases hu:P.underlying t with
 |none=>rw [hu] at ht;cases ht
 |some d =>
  have hu':(underlying t).run P w=.ok d w:=by simp [underlying,hu]
  rw [hu] at ht
  cases d<;>simp_all
theorem QD {o:Op}{x:QO}(h:res P.toTables o=some (.ug x)):∃ u,o=.panic u/\x=qo u:=by
 cases o with
 |panic u =>
  simp only [res,Option.some.injEq] at h
  injection h with h1
  exact⟨u,rfl,h1.symm⟩
 |_ =>
  simp only [res] at h
  repeat' split at h
  all_goals cases h
theorem pS.ug {x:QO}{t:TypeId}{v:Value}(hx:x.ev α.tm=.v (.iface t v)):pS P w0 (.ug x) α S [{ v:=.iface t v,recovered:=false }] S:=by
 intro n o hr
 obtain⟨u,ho,rfl⟩:=QD hr
 rw [aR] at hx
 intro F m A g a w next Q hF hS hA lY
 rw [Oper.semAt_eq _ _ _ (fun c' e=>by rw [ho] at e;cases e)]
 have e:=hA.ev u
 rw [hx] at e
 have e:=ca e
 have cr:(execOp a.eval o).run P w=.halt (.panic (.iface t v)) w:=by
  simp [execOp,ho,e,Instr.panic,goPanic]
 rw [cr,Oper.uponIn_panic]
 exact lY w g hS (Ext.refl ..)
def uh (qs:List QR) (R:AV->ae->Prop) (E:List PanicEntry->ae->Prop) (ex:Exit) (α:AA) (S:ae):Prop:=match ex with
 |.panic ch=>α.df=[]/\E ch S
 |ex=>mO qs R ex α S
theorem ab.ui {qs:List QR}{R:AV->ae->Prop}{E:List PanicEntry->ae->Prop}(he:Bl ex=true) (h:sU qs ex α S=some (r,S')) (k:R r S'):ab P w0 rd n (uh qs R E) (.out ex []) α S:=by
 show uh qs R E ex α S
 cases ex<;>first|exact⟨r,S',h,k⟩|cases he
theorem ab.Sr {qs:List QR}{R:AV->ae->Prop}{E:List PanicEntry->ae->Prop}(hd:α.df=[]) (k:E ch S):ab P w0 rd n (uh qs R E) (.out (.panic ch) []) α S:=⟨hd,k⟩
theorem uf.Ss {f:FuncId}{fn:Func}{c:Code}{args:List AV}(hf:P.funcs[f]?=some fn) (hb:fn.body=some c) (hc:∀ (xs:Array Value) (w:World),(callFunc f xs).run P w=.ok (.enter f xs) w)
  (hn:fn.ntmps=n) (bA:args.length<=n) (hd:aA.df=[]) (h:cu P w0 false n c ⟨kg args,[]⟩ S (.panic ch) aA S'):uf P w0 f args S ch S':=by
 refine⟨hc,fun F m A g bL w hF hS hA=>?_⟩
 have key:CallsIn F.plain m P f bL w fun e w'=>∃ g',e=.panicked ch/\St w0 A g' S' w'/\Ext A g w g' w':=by
  refine callsIn_of_wp_marks hf hb (hF.1 f) ?_ rfl
  rw [hn]
  refine wpIn_mono (h F.plain m A g _ w hF.plain rfl hS (xR hA bA)) ?_
  rintro ex' a' w' ⟨rfl,g',h1,h2,h3⟩
  show LeavesInM F.plain m P fn a'.tmps _ a'.defers (.panicking ch) w'
  rw [h2.df,hd]
  exact⟨g',rfl,h1,h3⟩
 exact key
theorem aH.Nl {f:FuncId}{q:QC × List QR}{args:List AV}{b:Bool}(F:aH P f q n) (bA:args.length<=n) (hp:Pure r) (h:ab P w0 false n (uh q.2 (fun r' S=>b=true/\aU S r' r) (fun wa S=>b=false/\wa=ch)) (.run q.1 []) ⟨kg args,[]⟩ ae.none_) :
  (b=true->ah P w0 f args r)/\(b=false->pe P w0 f args ch):=by
 obtain⟨fn,c,hf,hb,hn,hr,hq,hd,hc⟩:=F.out
 obtain⟨ex,aA,S',h1,h2⟩:=h c hq hd
 have h2:uh q.2 (fun r' S=>b=true/\aU S r' r) (fun wa S=>b=false/\wa=ch) ex aA S':=h2
 have nrm:mO q.2 (fun r' S=>b=true/\aU S r' r) ex aA S'->(b=true->ah P w0 f args r)/\(b=false->pe P w0 f args ch):=fun h3=>by
  obtain⟨r',S1,h4,h5,h6⟩:=h3
  have h7:mO q.2 (fun r' S=>aU S r' r) ex aA S':=⟨r',S1,h4,h6⟩
  exact⟨fun _=>ah.of_wp hf hb hc hn bA hp ⟨ex,aA,S',h1,uj hr h7⟩,fun e=>absurd (h5.symm.trans e) (by simp)⟩
 cases ex with
 |panic wa =>
  obtain⟨k1,k2,rfl⟩:=h2
  exact⟨fun e=>absurd (k2.symm.trans e) (by simp),fun _=>⟨S',uf.Ss hf hb hc hn bA k1 h1⟩⟩
 |_=>exact nrm h2
def Bm (P:Program) (w0:World) (f:FuncId) (args:List AV) (b:Bool) (r:AV) (ch:List PanicEntry):Prop:=(b=true->ah P w0 f args r)/\(b=false->pe P w0 f args ch)
theorem ab.vD {b:Bool}{d:Option Nat}{gd:Option (Nat × Bool)}{f:QO}{aZ9:List QO}{g:FuncId}{args dO:List AV}(hw:cj α.tm gd=some true) (h:eL (f.ev α.tm) (aZ9.map (·.ev α.tm))=some (g,dO)) (hc:Bm P w0 g args b r ch) (hp:db args) (hs:pT r) (hf:ff S dO args)
  (k1:b=true->ab P w0 rd n Q (.bD false l K) (cD d α r) S) (k2:b=false->ab P w0 rd n Q (.out (.panic ch) K) α S):ab P w0 rd n Q (.bD false (⟨d,gd,.call f aZ9⟩::l) K) α S:=by
 cases b with
 |true=>exact ab.op hw (ad.pf h (hc.1 rfl) hp hs hf) (k1 rfl)
 |false=>exact ab.ug hw (pS.ag h (hc.2 rfl) hp hf) (k2 rfl)
end
end Go.Proofs.YtbofilglphfceaaGreat
