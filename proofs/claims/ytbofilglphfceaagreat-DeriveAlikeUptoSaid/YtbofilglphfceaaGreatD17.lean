import Derived.Test.YtbofilglphfceaaGreatD16
namespace Go.Proofs.YtbofilglphfceaaGreat
set_option linter.unusedVariables false
set_option linter.unusedSimpArgs false
open Go.RowKit
section
variable {P:Program}{w0:World}{rd:Bool}{n:Nat}{o:Op}{α:AA}{S S':U}{r:AV}{q:cj}{dr:Bool}
def e_ (f:Nat->AV):Option QO->Int->Option Int
 |none,d=>some d
 |some x,_=>match x.ev f with
  |.v (.int _ i)=>some i
  |_=>none
theorem px {lo:Option Operand}{d i:Int}(h:e_ α.tm (lo.map qo) d=some i):fP (lo.map α.ev) d=some i:=by
 cases lo with
 |none=>exact h
 |some x =>
  simp only [Option.map_some,e_,ay] at h
  simp only [Option.map_some,fP]
  split at h
  ·rename_i e;rw [e];exact h
  ·cases h
theorem HE {k:SK}{x:QO}{lo hi:Option QO}(h:res P.toTables o=some (.slice k x lo hi none)):∃ t u l1 h1,o=.slice t u l1 h1 none/\x=qo u/\lo=l1.map qo/\hi=h1.map qo /\
  ((k=.str/\P.underlying t=some .string)\/∃ e m,k=.sl m/\P.underlying t=some (.slice e)/\bV P e=some m):=by
 cases o with
 |slice t u l1 h1 m1 =>
  simp only [res,aZ,cA] at h
  split at h
  ·rename_i hu
   simp only [Option.some.injEq,cj.slice.injEq,Option.map_eq_none_iff] at h
   obtain⟨rfl,rfl,rfl,rfl,rfl⟩:=h
   exact⟨_,_,_,_,rfl,rfl,rfl,rfl,.inl ⟨rfl,hu⟩⟩
  ·rename_i e hu
   split at h
   ·rename_i m hs
    simp only [Option.some.injEq,cj.slice.injEq,Option.map_eq_none_iff] at h
    obtain⟨rfl,rfl,rfl,rfl,rfl⟩:=h
    exact⟨_,_,_,_,rfl,rfl,rfl,rfl,.inr ⟨_,_,rfl,hu,hs⟩⟩
   ·cases h
  ·cases h
 |_ =>
  simp only [res] at h
  repeat' split at h
  all_goals cases h
theorem aa.P7 {m:Nat}{x:QO}{lo hi:Option QO}{ex:Bool}{rows:List (List AV)}{l h:Int}(h1:x.ev α.tm=.sl ex rows) (h2:e_ α.tm lo 0=some l) (h3:e_ α.tm hi rows.length=some h) (h0:∀ row ∈ rows,row.length=m) (h4:0<=l) (h5:l<=h) (h6:h<=rows.length) :
  aa P w0 dr (.slice (.sl m) x lo hi none) α S (.sl false ((rows.take h.toNat).drop l.toNat)) S:=by
 refine aa.of rfl fun o hr=>?_
 obtain⟨t,u,l1,i1,rfl,rfl,rfl,rfl,hu|⟨e,m',hk,hu,hs⟩⟩:=HE hr
 ·cases hu.1
 ·injection hk with hk
  subst hk
  rw [ay] at h1
  simp only [aE,f_,Option.map_none,h1,hu,px h2,px h3,hs]
  exact⟨fun row hr=>by rw [h0 row hr],rfl,h4,h5,h6,rfl,rfl⟩
theorem gw {sz by_:Nat}{a b:QO}(h:res P.toTables o=some (.append sz by_ a b)):∃ c t t2 u v e e2 z,o=.call c/\c.callee=.builtin .append/\c.argTypes.toList=[t,t2]/\c.args.toList=[u,v]/\a=qo u/\b=qo v/\du P t=some e/\du P t2=some e2/\bY P e=some z /\
  bV P e=some sz/\dk P e=some by_/\Nat.beq z.cells.size sz=true/\Nat.blt 0 by_=true:=by
 cases o<;>simp only [res,aZ,cA,fX,dX,fp] at h<;>(repeat' split at h)<;>(try cases h)
 rename_i hb
 simp only [Bool.and_eq_true] at hb
 exact⟨_,_,_,_,_,_,_,_,rfl,by assumption,by assumption,by assumption,rfl,rfl,by assumption,by assumption,by assumption,by assumption,by assumption,hb.1,hb.2⟩
def cu (S:U) (b:AV):Option (List (List AV)):=match rowsOf S b,ig b with
 |some l,some k=>match Nat.beq k l.length with|true=>some l|false=>none
 |_,_=>none
theorem bX {S:U}{b:AV}{l:List (List AV)}(h:cu S b=some l):rowsOf S b=some l/\ig b=some l.length:=by
 unfold cu at h
 split at h
 ·rename_i h1 h2
  split at h
  ·rename_i e
   obtain rfl:=Option.some.inj h
   rw [Nat.eq_of_beq_eq_true e] at h2
   exact⟨h1,h2⟩
  ·cases h
 ·cases h
theorem aa.append {sz by_:Nat}{a b:QO}{more:List (List AV)}(hm:rowsOf S (b.ev α.tm)=some more) (hl:ig (b.ev α.tm)=some more.length)
  (h:∀ e z,bY P e=some z->bV P e=some sz->dk P e=some by_->Nat.blt 0 by_=true->eV P e (nS r S') S more (a.ev α.tm)):aa P w0 dr (.append sz by_ a b) α S r S':=by
 refine aa.of rfl fun o hr=>?_
 obtain⟨c,t,t2,u,v,e,e2,z,rfl,h1,h2,h3,rfl,rfl,h4,h5,h6,h7,h8,h9,FL⟩:=gw hr
 rw [ay] at hm hl h
 simp only [aE,h1,gO,h2,h3,List.map_cons,List.map_nil,h4,h5,h6,h7,h9]
 exact aD.mk hm ⟨hl,h e z h6 h7 h8 FL⟩
theorem aa.yA {sz by_:Nat}{a b:QO}{rows:List (List AV)}(h1:a.ev α.tm=.sl true rows) (hm:cu S (b.ev α.tm)=some []):aa P w0 dr (.append sz by_ a b) α S (.sl true rows) S:=by
 refine aa.append (bX hm).1 (bX hm).2 fun e z hz hs hb hp=>?_
 rw [h1]
 exact⟨rfl,rfl⟩
theorem aa.uP {sz by_:Nat}{a b:QO}{rows more:List (List AV)}{x:List AV}(h1:a.ev α.tm=.sl true rows) (hm:cu S (b.ev α.tm)=some (x::more)) (h2:∀ row ∈ rows,row.length=sz) (h3:∀ row ∈ x::more,row.length=sz)
  (h4:(rows.length+(x::more).length)*by_<=35184372088832):aa P w0 dr (.append sz by_ a b) α S (.ob S.nx sz 0 (rows.length+(x::more).length) none) (S.new (.arr sz (rows++x::more) 0 false)):=by
 refine aa.append (bX hm).1 (bX hm).2 fun e z hz hs hb hp=>?_
 rw [h1]
 simp only [eV,hs,hb,hp]
 exact⟨h2,h3,h4,rfl,rfl⟩
theorem aa.yB {sz by_ k fz len:Nat}{ex:Bool}{a b:QO}{rows more:List (List AV)}{x:List AV}(h1:a.ev α.tm=.ob k sz 0 len none) (hk:S.get k=some (.arr sz rows fz ex)) (hm:cu S (b.ev α.tm)=some (x::more)) (h0:fz<=len) (h2:len<=rows.length)
  (h3:∀ row ∈ x::more,row.length=sz/\row.all bp=true) (h4:(len+(x::more).length)*by_<=35184372088832) :
  aa P w0 dr (.append sz by_ a b) α S (.ob S.nx sz 0 (len+(x::more).length) none) ((S.set k none).new (.arr sz (rows.take len++x::more) fz false)):=by
 refine aa.append (bX hm).1 (bX hm).2 fun e z hz hs hb hp=>?_
 rw [h1]
 simp only [eV]
 refine aD.mk (lD hk) ?_
 simp only [hs,hb,hp,Nat.beq_refl,Bool.and_self,Bool.true_and]
 exact⟨h0,h2,h3,h4,rfl,rfl⟩
theorem aa.uu {sz by_ k fz len sz':Nat}{ex:Bool}{a b:QO}{rows:List (List AV)}(h1:a.ev α.tm=.ob k sz' 0 len none) (hk:S.get k=some (.arr sz' rows fz ex)) (hm:cu S (b.ev α.tm)=some []) :
  aa P w0 dr (.append sz by_ a b) α S (.ob k sz' 0 len none) S:=by
 refine aa.append (bX hm).1 (bX hm).2 fun e z hz hs hb hp=>?_
 rw [h1]
 simp only [eV]
 exact aD.mk (lD hk) ⟨rfl,rfl⟩
theorem sw {z:List AV}{by_:Nat}{l c:QO}(h:res P.toTables o=some (.eB z by_ l c)):∃ t u v e zv sz,o=.makeSlice t u v/\l=qo u/\c=qo v/\du P t=some e/\bY P e=some zv/\bV P e=some sz/\dk P e=some by_ /\
  z=zv.cells.toList.map aO/\Nat.beq zv.cells.size sz=true/\Nat.blt 0 sz=true:=by
 cases o with
 |makeSlice t u v =>
  simp only [res,cA,fX,dX,fp] at h
  split at h
  ·rename_i e he
   split at h
   ·rename_i zv sz b1 hz hs hb
    split at h
    ·rename_i hc
     simp only [Bool.and_eq_true] at hc
     simp only [Option.some.injEq,cj.eB.injEq] at h
     obtain⟨rfl,rfl,rfl,rfl⟩:=h
     exact⟨_,_,_,_,_,_,rfl,rfl,rfl,he,hz,hs,hb,rfl,hc.1,hc.2⟩
    ·cases h
   ·cases h
  ·cases h
 |_ =>
  simp only [res] at h
  repeat' split at h
  all_goals cases h
theorem aa.FM {z:List AV}{by_:Nat}{l c:QO}{k k':IntKind}{a b:Int}(h1:l.ev α.tm=.v (.int k a)) (h2:c.ev α.tm=.v (.int k' b)) (h3:0<=a) (h4:a=b) (h5:a*by_<=35184372088832) (h6:a<=9223372036854775807) :
  aa P w0 dr (.eB z by_ l c) α S (.ob S.nx z.length 0 a.toNat none) (S.new (.arr z.length (List.replicate a.toNat z) 0 true)):=by
 refine aa.of rfl fun o hr=>?_
 obtain⟨t,u,v,e,zv,sz,rfl,rfl,rfl,e1,e2,e3,e4,rfl,e5,e6⟩:=sw hr
 have hz:(zv.cells.toList.map aO).length=sz:=by rw [<-Nat.eq_of_beq_eq_true e5];simp
 rw [ay] at h1 h2
 rw [hz]
 simp only [aE,h1,h2,e1,e2,e3,e4,e5,e6,Bool.and_self]
 exact⟨h3,h4,h5,h6,rfl,rfl⟩
theorem aa.P8 {x:QO}{s:ByteArray}(h1:x.ev α.tm=.v (.string s)):aa P w0 dr (.ot x) α S (.pt S.nx 0 0 0) (S.new (.si s 0)):=by
 refine aa.of rfl fun o hr=>?_
 cases o<;>simp only [res,aZ] at hr<;>(repeat' split at hr)<;>(try cases hr)
 rw [ay] at h1
 simp only [aE, *]
 exact⟨rfl,rfl⟩
theorem aa.P9 {x:QO}{k sz pos:Nat}{s:ByteArray}(h1:x.ev α.tm=.pt k sz 0 0) (hk:S.get k=some (.si s pos)) (hp:pos < s.size) :
  aa P w0 dr (.po x) α S (.aL [.v (.bool true),.v (.int .i64 pos),.v (.int .i32 (Utf8.decode s pos).1)]) (S.set k (some (.si s (pos+(Utf8.decode s pos).2)))):=by
 refine aa.of rfl fun o hr=>?_
 cases o<;>simp only [res,aZ] at hr<;>(repeat' split at hr)<;>(try cases hr)
 rw [ay] at h1
 simp only [aE,h1]
 refine aD.mk (a:=(s,pos)) (by simp only [uQ,hk]) ⟨true,by simpa using hp,rfl,rfl⟩
theorem aa.P_ {x:QO}{k sz pos:Nat}{s:ByteArray}(h1:x.ev α.tm=.pt k sz 0 0) (hk:S.get k=some (.si s pos)) (hp:s.size<=pos):aa P w0 dr (.po x) α S (.aL [.v (.bool false)]) S:=by
 refine aa.of rfl fun o hr=>?_
 cases o<;>simp only [res,aZ] at hr<;>(repeat' split at hr)<;>(try cases hr)
 rw [ay] at h1
 simp only [aE,h1]
 refine aD.mk (a:=(s,pos)) (by simp only [uQ,hk]) ⟨false,by simpa using hp,rfl,rfl⟩
end
section
variable {P:Program}{w0:World}{rd:Bool}{n:Nat}{α:AA}{S:U}{ex:Exit}{rs:Array ResultVar}{r r':AV}{Q:Exit->AA->U->Prop}{l:List QI}{K:List ji}{dr:Bool}
theorem aa.IB {ρ:Hd}{T:Type}{f:T->List AV}{xs:List T}{m:Nat}{x:QO}{lo hi:Option QO}{ex:Bool}{i j:Int}(h1:x.ev α.tm=.sl ex (ρ.h (List.map f) xs)) (h2:e_ α.tm lo 0=some i) (h3:e_ α.tm hi (ρ.h (List.map f) xs).length=some j)
  (h0:∀ x,(f x).length=m) (h4:0<=i) (h5:i<=j) (h6:j<=xs.length):aa P w0 dr (.slice (.sl m) x lo hi none) α S (dZ ρ f false ((xs.take j.toNat).drop i.toNat)) S:=by
 have:=aa.P7 (P:=P) (w0:=w0) (dr:=dr) (S:=S) h1 h2 h3 (ba h0) h4 h5 (by rw [aq];exact h6)
 rw [jj,List.map_drop,List.map_take,<-ρ.eq (List.map f) xs]
 exact this
theorem aa.Ld {ρ:Hd}{T:Type}{f:T->List AV}{xs:List T}{m:Nat}{x:QO}{lo:QO}{ex:Bool}{k:IntKind}{i:Int}(h1:x.ev α.tm=.sl ex (ρ.h (List.map f) xs)) (h2:lo.ev α.tm=.v (.int k i))
  (h0:∀ x,(f x).length=m) (h4:0<=i) (h5:i<=xs.length):aa P w0 dr (.slice (.sl m) x (some lo) none none) α S (dZ ρ f false (xs.drop i.toNat)) S:=by
 have:=aa.IB (P:=P) (w0:=w0) (dr:=dr) (S:=S) (lo:=some lo) (hi:=none) (i:=i) (j:=xs.length) h1 (by simp only [e_,h2]) (by simp only [e_,aq]) h0 h4 h5 (by omega)
 simpa using this
def Wk (a b:AV):Prop:=∀ (g:Gh) (w:World) (x:Value),ao g w a x->ao g w b x
def tz:List AV->List AV->Prop
 |[],[]=>True
 |a::l,b::m=>Wk a b/\tz l m
 |_,_=>False
theorem Wk.refl (a:AV):Wk a a:=fun _ _ _ h=>h
theorem tz.len:∀ {l m:List AV},tz l m->l.length=m.length
 |[],[],_=>rfl
 |_::_,_::_,h=>by simp [h.2.len]
 |[],_::_,h=>h.elim
 |_::_,[],h=>h.elim
theorem tz.at:∀ {l m:List AV},tz l m->∀ (i:Nat) (b:AV),m[i]?=some b->∃ a,l[i]?=some a/\Wk a b
 |[],[],_,i,b,h=>by simp at h
 |a::l,b::m,hw,i,c,h=>by
  cases i with
  |zero=>simp at h;subst h;exact⟨a,rfl,hw.1⟩
  |succ i=>simp at h;obtain⟨d,h1,h2⟩:=hw.2.at i c h;exact⟨d,by simpa using h1,h2⟩
 |[],_::_,h,_,_,_=>h.elim
 |_::_,[],h,_,_,_=>h.elim
theorem Wk.agg {l m:List AV}(h:tz l m):Wk (.agg l) (.agg m):=fun g w x hr=>by
 cases hr with
 |agg hs hh =>
  refine .agg (hs.trans h.len) fun i b y hb hy=>?_
  obtain⟨a,h1,h2⟩:=h.at i b hb
  exact h2 _ _ _ (hh i a y h1 hy)
theorem Wk.sl {ex:Bool}{rows:List (List AV)}:Wk (.sl ex rows) (.sl false rows):=fun g w x hr=>by
 cases hr with
 |nil hc=>exact .nil (fun h=>by cases h)
 |sl hn hc hle hl h hr=>exact .sl hn (fun h=>by cases h) hle hl h hr
theorem Wk.nil {ρ:Hd}{T:Type}{f:T->List AV}{ex:Bool}:Wk (.sl ex []) (dZ ρ f false []):=by rw [jj];exact Wk.sl
theorem aR.wk {f:FuncId}{args ff:List AV}{S':U}(h:aR P w0 f args S r S') (hw:tz ff args):aR P w0 f ff S r S':=by
 refine⟨h.1,fun F m A g bz w hF hS hA=>h.2 F m A g bz w hF hS ⟨hA.1.trans hw.len,fun i a x ha hx=>?_⟩⟩
 obtain⟨b,h1,h2⟩:=hw.at i a ha
 exact h2 _ _ _ (hA.2 i b x h1 hx)
theorem aa.ea {f:QO}{aZ9:List QO}{g:FuncId}{args ff:List AV}(h:fh (f.ev α.tm) (aZ9.map (·.ev α.tm))=some (g,ff)) (hc:ag P w0 g args r) (hp:cF args) (hw:tz ff args):aa P w0 dr (.call f aZ9) α S r S:=aa.call h ((hc.yj hp S).wk hw) fun _=>rfl
variable {ρ:Hd}{T:Type}{f:T->List AV}{acc:List T}{x:T}
theorem sy {B:Nat}{ex:Bool}:da B (.sl ex []):=.sl fun r hr=>by cases hr
theorem HF {B sz fz:Nat}{ex:Bool}(h:∀ x ∈ acc,∀ a ∈ f x,Pure a):rA B (.arr sz (ρ.h (List.map f) acc) fz ex):=by
 rw [ρ.eq]
 intro row hr a ha
 obtain⟨x,hx,rfl⟩:=List.mem_map.1 hr
 exact (h x hx a ha).d_
end
def Gh.pre (g:Gh) (ι:Nat->Nat) (M:Nat):Gh:=⟨fun j=>g.ob (ι j),fun j=>g.cp (ι j),fun j=>j < M/\g.al (ι j),g.fz,g.fo⟩
def Rn (ι:Nat->Nat) (M:Nat) (a b:AV):Prop:=∀ (g:Gh) (w:World) (x:Value),ao g w a x->ao (g.pre ι M) w b x
def IC (ι:Nat->Nat) (M:Nat) (bf o:Ob):Prop:=(∀ (g:Gh) (w:World) (b cp:Nat),cN g w b cp bf->cN (g.pre ι M) w b cp o)/\∀ J,o=.fo J->bf=.fo J
structure Bk (ι:Nat->Nat) (gc g:Gh):Prop where
 al:∀ j,gc.al j->g.al (ι j)
 ob:∀ j,gc.al j->g.ob (ι j)=gc.ob j
 cp:∀ j,gc.al j->g.cp (ι j)=gc.cp j
 fz:g.fz=gc.fz
def Rb (ι:Nat->Nat) (b a:AV):Prop:=∀ (gc g:Gh) (w:World) (x:Value),Bk ι gc g->ao gc w b x->ao g w a x
def w9 (ι:Nat->Nat) (o cW:Ob):Prop:=(∀ (gc g:Gh) (w:World) (b cp:Nat),Bk ι gc g->(∀ J,o=.fo J->g.fo=gc.fo)->cN gc w b cp o->cN g w b cp cW)/\∀ J,cW=.fo J->o=.fo J
def fy (ι:Nat->Nat) (M T:Nat) (j:Nat):Nat:=match Nat.blt j M with|true=>ι j|false=>T+j
theorem jN {ι:Nat->Nat}{M T j:Nat}(h:j < M):fy ι M T j=ι j:=by
 have:Nat.blt j M=true:=Nat.ble_eq_true_of_le h
 simp only [fy,this]
theorem jO {ι:Nat->Nat}{M T j:Nat}(h:M<=j):fy ι M T j=T+j:=by
 have:Nat.blt j M=false:=by
  cases e:Nat.blt j M with
  |false=>rfl
  |true=>exact absurd (Nat.le_of_ble_eq_true e) (by omega)
 simp only [fy,this]
structure Fits (ι:Nat->Nat) (S S' T T':U):Prop where
 inj:∀ i j,i < S.nx->j < S.nx->ι i=ι j->i=j
 lt:∀ j,j < S.nx->ι j < T.nx
 hS:∀ j o,S.get j=some o->∃ bf,T.get (ι j)=some bf/\IC ι S.nx bf o
 hT:∀ k cW,T'.get k=some cW->(∃ j o,fy ι S.nx T.nx j=k/\S'.get j=some o/\w9 (fy ι S.nx T.nx) o cW)\/(k < T.nx/\(∀ j,j < S.nx->ι j ≠ k)/\T.get k=some cW)
 nx:T'.nx=T.nx+S'.nx\/(S'.nx<=S.nx/\T'.nx=T.nx)
 fo:(∀ k J,T.get k=some (.fo J)->∃ j,j < S.nx/\ι j=k)\/(∀ j J,S'.get j ≠ some (.fo J))
section
variable {w0:World}{A:Nat->Prop}{g:Gh}{S S' T T':U}{w:World}{ι:Nat->Nat}
def sA (gc:Gh) (S:U) (w:World) (b:Nat):Prop:=w.heap.size<=b\/∃ j o,S.get j=some o/\gc.al j/\(b=gc.ob j\/∃ J,o=.fo J/\gc.fo (gc.ob j) b)
theorem Fits.sub (hF:Fits ι S S' T T') (hT:St w0 A g T w) {b:Nat}(h:sA (g.pre ι S.nx) S w b):A b:=by
 rcases h with h|⟨j,o,h1,h2,h3⟩
 ·exact hT.up b h
 ·obtain⟨bf,h4,h5,h6⟩:=hF.hS j o h1
  rcases h3 with rfl|⟨J,rfl,h7⟩
  ·exact (hT.bE _ bf h4 h2.2).1
  ·exact (hT.eM _ J (by rw [<-h6 J rfl];exact h4) h2.2 b h7).1
theorem Fits.inner (hF:Fits ι S S' T T') (hT:St w0 A g T w):St w0 (sA (g.pre ι S.nx) S w) (g.pre ι S.nx) S w :=
 ⟨hT.base,fun b hb=>.inl hb,fun b hb=>hT.lo b (hF.sub hT hb),fun k hk=>hk.1,fun k o hk ha=>by
   obtain⟨bf,h4,h5,h6⟩:=hF.hS k o hk
   obtain⟨h7,h8,h9⟩:=hT.bE _ bf h4 ha.2
   exact⟨.inr ⟨k,o,hk,ha,.inl rfl⟩,h8,h5 _ _ _ _ h9⟩,
  fun j k o p hj hk aj ak e=>by
   obtain⟨bf,h4,_⟩:=hF.hS j o hj
   obtain⟨nj,h5,_⟩:=hF.hS k p hk
   exact hF.inj j k aj.1 ak.1 (hT.inj _ _ bf nj h4 h5 aj.2 ak.2 e),
  hT.bM,hT.j7,fun k J hk ha c hc=>by
   obtain⟨bf,h4,_,h6⟩:=hF.hS k _ hk
   exact⟨.inr ⟨k,_,hk,ha,.inr ⟨J,rfl,hc⟩⟩,(hT.eM _ J (by rw [<-h6 J rfl];exact h4) ha.2 c hc).2⟩,
  fun k J j o hk ha hj aj aM hc=>by
   obtain⟨bf,h4,_,h6⟩:=hF.hS k _ hk
   obtain⟨nj,h5,_⟩:=hF.hS j o hj
   exact hT.fW _ J _ nj (by rw [<-h6 J rfl];exact h4) ha.2 h5 aj.2 (fun e=>aM (hF.inj j k aj.1 ha.1 e)) hc,
  fun j k J J' hj hk aj ak=>by
   obtain⟨bf,h4,_,h6⟩:=hF.hS j _ hj
   obtain⟨nj,h5,_,h7⟩:=hF.hS k _ hk
   exact hF.inj j k aj.1 ak.1 (hT.iQ _ _ J J' (by rw [<-h6 J rfl];exact h4) (by rw [<-h7 J' rfl];exact h5) aj.2 ak.2)⟩
theorem Fits.ID (hF:Fits ι S S' T T') {i j:Nat}(h:fy ι S.nx T.nx i=fy ι S.nx T.nx j):i=j:=by
 rcases Nat.lt_or_ge i S.nx with h1|h1<;>rcases Nat.lt_or_ge j S.nx with h2|h2
 ·rw [jN h1,jN h2] at h;exact hF.inj i j h1 h2 h
 ·rw [jN h1,jO h2] at h;have:=hF.lt i h1;omega
 ·rw [jO h1,jN h2] at h;have:=hF.lt j h2;omega
 ·rw [jO h1,jO h2] at h;omega
theorem Fits.outer (hF:Fits ι S S' T T') (hT:St w0 A g T w) {gc:Gh}{w':World}(ew:St w0 (sA (g.pre ι S.nx) S w) gc S' w') (hE:Ext (sA (g.pre ι S.nx) S w) (g.pre ι S.nx) w gc w') :
  ∃ g',St w0 A g' T' w'/\Ext A g w g' w'/\Bk (fy ι S.nx T.nx) gc g':=by
 classical
 obtain⟨X,FN,IE⟩:∃ X:Nat->Nat->Prop,(∀ j J,S'.get j=some (.fo J)->X=gc.fo)/\(∀ k J,T.get k=some (.fo J)->(∀ j,j < S.nx->ι j ≠ k)->X=g.fo):=by
  rcases hF.fo with h|h
  ·exact⟨gc.fo,fun _ _ _=>rfl,fun k J hk hn=>by obtain⟨j,h1,h2⟩:=h k J hk;exact absurd h2 (hn j h1)⟩
  ·exact⟨g.fo,fun j J hj=>absurd hj (h j J),fun _ _ _ _=>rfl⟩
 let o:=fy ι S.nx T.nx
 let g':Gh:=⟨fun k=>if h:∃ j,o j=k then gc.ob h.choose else g.ob k,fun k=>if h:∃ j,o j=k then gc.cp h.choose else g.cp k,fun k=>if h:∃ j,o j=k then gc.al h.choose else g.al k,gc.fz,X⟩
 have ch:∀ j (h:∃ i,o i=o j),h.choose=j:=fun j h=>hF.ID h.choose_spec
 have e1:∀ j,g'.ob (o j)=gc.ob j:=fun j=>by
  have h:∃ i,o i=o j:=⟨j,rfl⟩
  show (if h:∃ i,o i=o j then gc.ob h.choose else _)=_
  rw [dif_pos h,ch j h]
 have e2:∀ j,g'.cp (o j)=gc.cp j:=fun j=>by
  have h:∃ i,o i=o j:=⟨j,rfl⟩
  show (if h:∃ i,o i=o j then gc.cp h.choose else _)=_
  rw [dif_pos h,ch j h]
 have e3:∀ j,g'.al (o j)=gc.al j:=fun j=>by
  have h:∃ i,o i=o j:=⟨j,rfl⟩
  show (if h:∃ i,o i=o j then gc.al h.choose else _)=_
  rw [dif_pos h,ch j h]
 have f1:∀ k,(∀ j,o j ≠ k)->g'.ob k=g.ob k:=fun k hk=>dif_neg fun ⟨j,hj⟩=>hk j hj
 have f2:∀ k,(∀ j,o j ≠ k)->g'.cp k=g.cp k:=fun k hk=>dif_neg fun ⟨j,hj⟩=>hk j hj
 have f3:∀ k,(∀ j,o j ≠ k)->g'.al k=g.al k:=fun k hk=>dif_neg fun ⟨j,hj⟩=>hk j hj
 have aV:∀ k,g.al k->(∃ j,j < S.nx/\o j=k/\ι j=k/\(g.pre ι S.nx).al j)\/∀ j,o j ≠ k:=by
  intro k hk
  by_cases h:∃ j,o j=k
  ·obtain⟨j,hj⟩:=h
   rcases Nat.lt_or_ge j S.nx with h1|h1
   ·have h2:ι j=k:=by rw [<-hj];exact (jN h1).symm
    exact .inl ⟨j,h1,hj,h2,h1,by rw [h2];exact hk⟩
   ·have h2:o j=T.nx+j:=jO h1
    have:=hT.al k hk
    omega
  ·exact .inr fun j hj=>h ⟨j,hj⟩
 have free:∀ k,k < T.nx->(∀ j,j < S.nx->ι j ≠ k)->∀ j,o j ≠ k:=by
  intro k hk h j hj
  rcases Nat.lt_or_ge j S.nx with h1|h1
  ·exact h j h1 (by rw [<-hj];exact (jN h1).symm)
  ·have h2:o j=T.nx+j:=jO h1
   omega
 have out:∀ k p,T.get k=some p->g.al k->(∀ j,j < S.nx->ι j ≠ k)->¬ sA (g.pre ι S.nx) S w (g.ob k):=by
  rintro k p hk ha hn (h|⟨j,q,h1,h2,h3⟩)
  ·exact absurd (hT.bE k p hk ha).2.1 (by omega)
  ·obtain⟨bf,h4,_,h6⟩:=hF.hS j q h1
   rcases h3 with h3|⟨J,rfl,h7⟩
   ·exact hn j h2.1 (hT.inj k (ι j) p bf hk h4 ha h2.2 h3).symm
   ·exact hT.fW (ι j) J k p (by rw [<-h6 J rfl];exact h4) h2.2 hk ha (fun e=>hn j h2.1 e.symm) h7
 have hL:Later g w g' w':=by
  refine⟨fun k hk=>?_,fun k hk=>?_,fun k hk=>?_,hE.fz,hE.cell⟩
  ·rcases aV k hk with ⟨j,h1,h2,h3,h4⟩|h
   ·rw [<-h2,e3];exact hE.al j h4
   ·rw [f3 k h];exact hk
  ·rcases aV k hk with ⟨j,h1,h2,h3,h4⟩|h
   ·rw [<-h2,e1,hE.ob j h4,h2,<-h3];rfl
   ·exact f1 k h
  ·rcases aV k hk with ⟨j,h1,h2,h3,h4⟩|h
   ·rw [<-h2,e2,hE.cp j h4,h2,<-h3];rfl
   ·exact f2 k h
 have Sl:Ext A g w g' w':={ hL with size:=hE.size,bR:=fun b hb hA=>hE.bR b hb fun h=>hA (hF.sub hT h),eu:=fun b q h=>(hE.eu b q h).imp id (hF.sub hT) }
 have hB:Bk o gc g':=⟨fun j hj=>by rw [e3];exact hj,fun j _=>e1 j,fun j _=>e2 j,rfl⟩
 refine⟨g',⟨ew.base,fun b hb=>hT.up b (Nat.le_trans hE.size hb),hT.lo,fun k hk=>?_,fun k cW hk ha=>?_,fun k l cW oC hk hl ak kn e=>?_,ew.bM,ew.j7,fun k J hk ha c hc=>?_,fun k J l oC hk ha hl kn aM hc=>?_,fun k l J J' hk hl ak kn=>?_⟩,Sl,hB⟩
 ·by_cases h:∃ j,o j=k
  ·obtain⟨j,rfl⟩:=h
   rw [e3] at hk
   have h1:=ew.al j hk
   rcases Nat.lt_or_ge j S.nx with h2|h2
   ·rw [show o j=ι j from jN h2];have:=hF.lt j h2;rcases hF.nx with e|⟨_,e⟩<;>omega
   ·rw [show o j=T.nx+j from jO h2];rcases hF.nx with e|⟨_,e⟩<;>omega
  ·rw [f3 k fun j hj=>h ⟨j,hj⟩] at hk
   have:=hT.al k hk
   rcases hF.nx with e|⟨_,e⟩<;>omega
 ·rcases hF.hT k cW hk with ⟨j,p,rfl,h1,h2,h3⟩|⟨h1,h2,h3⟩
  ·have bU:gc.al j:=by rw [<-e3];exact ha
   obtain⟨h4,h5,h6⟩:=ew.bE j p h1 bU
   rw [show g'.ob (fy ι S.nx T.nx j)=gc.ob j from e1 j,show g'.cp (fy ι S.nx T.nx j)=gc.cp j from e2 j]
   exact⟨hF.sub hT h4,h5,h2 gc g' w' _ _ hB (fun J hJ=>FN j J (by rw [<-hJ];exact h1)) h6⟩
  ·have hn:=free k h1 h2
   rw [f3 k hn] at ha
   rw [f1 k hn,f2 k hn]
   obtain⟨h4,h5,h6⟩:=hT.bE k cW h3 ha
   have kK:=out k cW h3 ha h2
   refine⟨h4,Nat.lt_of_lt_of_le h5 hE.size,h6.later hL (hE.bR _ h5 kK) (fun q hq=>(hE.eu _ q hq).resolve_right kK) fun J hJ=>?_⟩
   subst hJ
   have O9:∀ c,g.fo (g.ob k) c->¬ sA (g.pre ι S.nx) S w c:=by
    rintro c hc (h|⟨j,q,q1,q2,q3⟩)
    ·exact absurd (hT.eM k J h3 ha c hc).2 (by omega)
    ·obtain⟨bf,q4,_,q6⟩:=hF.hS j q q1
     rcases q3 with rfl|⟨J',rfl,q7⟩
     ·exact hT.fW k J _ bf h3 ha q4 q2.2 (h2 j q2.1) hc
     ·exact h2 j q2.1 (hT.iQ _ _ J' J (by rw [<-q6 J' rfl];exact q4) h3 q2.2 ha)
   refine⟨by show X (g.ob k)=g.fo (g.ob k);rw [IE k J h3 h2],hE.size,fun c hc=>hE.bR c (hT.eM k J h3 ha c hc).2 (O9 c hc),fun c q hc hq=>(hE.eu c q hq).resolve_right (O9 c hc)⟩
 ·rcases hF.hT k cW hk with ⟨i,p,rfl,h1,h2⟩|⟨h1,h2,h3⟩<;>rcases hF.hT l oC hl with ⟨j,q,rfl,k1,k2⟩|⟨k1,k2,k3⟩
  ·have e':gc.ob i=gc.ob j:=by rw [<-e1,<-e1];exact e
   rw [ew.inj i j p q h1 k1 (by rw [<-e3];exact ak) (by rw [<-e3];exact kn) e']
  ·have hn:=free l k1 k2
   rw [f3 l hn] at kn
   rw [f1 l hn,show g'.ob (fy ι S.nx T.nx i)=gc.ob i from e1 i] at e
   exact absurd (e ▸ (ew.bE i p h1 (by rw [<-e3];exact ak)).1) (out l oC k3 kn k2)
  ·have hn:=free k h1 h2
   rw [f3 k hn] at ak
   rw [f1 k hn,show g'.ob (fy ι S.nx T.nx j)=gc.ob j from e1 j] at e
   exact absurd (e ▸ (ew.bE j q k1 (by rw [<-e3];exact kn)).1) (out k cW h3 ak h2)
  ·have hn:=free k h1 h2
   have hm:=free l k1 k2
   rw [f3 k hn] at ak
   rw [f3 l hm] at kn
   rw [f1 k hn,f1 l hm] at e
   exact hT.inj k l cW oC h3 k3 ak kn e
 ·rcases hF.hT k _ hk with ⟨j,p,rfl,h1,h2,h3⟩|⟨h1,h2,h3⟩
  ·have hp:S'.get j=some (.fo J):=by rw [<-h3 J rfl];exact h1
   have j6:gc.fo (gc.ob j) c:=by rw [<-FN j J hp,<-e1 j];exact hc
   obtain⟨h4,h5⟩:=ew.eM j J hp (by rw [<-e3];exact ha) c j6
   exact⟨hF.sub hT h4,h5⟩
  ·have hn:=free k h1 h2
   rw [f3 k hn] at ha
   have j6:g.fo (g.ob k) c:=by rw [<-IE k J h3 h2,<-f1 k hn];exact hc
   obtain⟨h4,h5⟩:=hT.eM k J h3 ha c j6
   exact⟨h4,Nat.lt_of_lt_of_le h5 hE.size⟩
 ·rcases hF.hT k _ hk with ⟨i,p,rfl,h1,h2,h3⟩|⟨h1,h2,h3⟩
  ·have hp:S'.get i=some (.fo J):=by rw [<-h3 J rfl];exact h1
   have bU:gc.al i:=by rw [<-e3];exact ha
   rcases hF.hT l oC hl with ⟨j,q,rfl,k1,k2⟩|⟨k1,k2,k3⟩
   ·have j6:gc.fo (gc.ob i) (gc.ob j):=by rw [<-FN i J hp,<-e1 i,<-e1 j];exact hc
    exact ew.fW i J j q hp bU k1 (by rw [<-e3];exact kn) (fun e=>aM (by rw [e])) j6
   ·have hn:=free l k1 k2
    rw [f3 l hn] at kn
    have j6:gc.fo (gc.ob i) (g.ob l):=by rw [<-FN i J hp,<-e1 i,<-f1 l hn];exact hc
    exact out l oC k3 kn k2 (ew.eM i J hp bU _ j6).1
  ·have hn:=free k h1 h2
   rw [f3 k hn] at ha
   have hX:=IE k J h3 h2
   rcases hF.hT l oC hl with ⟨j,q,rfl,k1,k2⟩|⟨k1,k2,k3⟩
   ·have j6:g.fo (g.ob k) (gc.ob j):=by rw [<-hX,<-f1 k hn,<-e1 j];exact hc
    rcases (ew.bE j q k1 (by rw [<-e3];exact kn)).1 with h|⟨i,q,q1,q2,q3⟩
    ·exact absurd (hT.eM k J h3 ha _ j6).2 (by omega)
    ·obtain⟨bf,q4,_,q6⟩:=hF.hS i q q1
     rcases q3 with q3|⟨J',rfl,q7⟩
     ·rw [q3] at j6;exact hT.fW k J _ bf h3 ha q4 q2.2 (h2 i q2.1) j6
     ·exact h2 i q2.1 (hT.iQ _ _ J' J (by rw [<-q6 J' rfl];exact q4) h3 q2.2 ha)
   ·have hm:=free l k1 k2
    rw [f3 l hm] at kn
    have j6:g.fo (g.ob k) (g.ob l):=by rw [<-hX,<-f1 k hn,<-f1 l hm];exact hc
    exact hT.fW k J l oC h3 ha k3 kn aM j6
 ·rcases hF.hT k _ hk with ⟨i,p,rfl,h1,h2,h3⟩|⟨h1,h2,h3⟩<;>rcases hF.hT l _ hl with ⟨j,q,rfl,k1,k2,k3⟩|⟨k1,k2,k3⟩
  ·rw [ew.iQ i j J J' (by rw [<-h3 J rfl];exact h1) (by rw [<-k3 J' rfl];exact k1) (by rw [<-e3];exact ak) (by rw [<-e3];exact kn)]
  ·rcases hF.fo with h|h
   ·obtain⟨x,h4,h5⟩:=h l J' k3
    exact absurd h5 (k2 x h4)
   ·exact absurd (by rw [<-h3 J rfl];exact h1) (h i J)
  ·rcases hF.fo with h|h
   ·obtain⟨x,h4,h5⟩:=h k J h3
    exact absurd h5 (h2 x h4)
   ·exact absurd (by rw [<-k3 J' rfl];exact k1) (h j J')
  ·rw [f3 k (free k h1 h2)] at ak
   rw [f3 l (free l k1 k2)] at kn
   exact hT.iQ k l J J' h3 k3 ak kn
end
section
variable {P:Program}{w0:World}{S S' T T':U}{ι:Nat->Nat}{f:FuncId}{args fA:List AV}{r oD:AV}
theorem aR.frame (h:aR P w0 f args S r S') (hF:Fits ι S S' T T') (hl:fA.length=args.length) (ha:∀ (i:Nat) (a b:AV),fA[i]?=some a->args[i]?=some b->Rn ι S.nx a b) (hr:Rb (fy ι S.nx T.nx) r oD):aR P w0 f fA T oD T':=by
 refine⟨h.1,fun F m A g bz w hW hT hA=>(h.2 F m _ _ bz w hW (hF.inner hT) ⟨hA.1.trans hl,fun i b x hb hx=>?_⟩).mono ?_⟩
 ·have hi:i < fA.length:=by rw [hl];exact (List.getElem?_eq_some_iff.1 hb).1
  have h0:=List.getElem?_eq_getElem hi
  exact ha i _ b h0 hb _ _ _ (hA.2 i _ x h0 hx)
 ·rintro e w' ⟨v,gc,rfl,h1,h2,h3⟩
  obtain⟨g',k1,k2,k3⟩:=hF.outer hT h2 h3
  exact⟨v,g',rfl,hr gc g' w' v k3 h1,k1,k2⟩
end
end Go.Proofs.YtbofilglphfceaaGreat
