import Derived.Test.YtgjfgekaclobaaaGreatCm16
namespace Go.Proofs.YtgjfgekaclobaaaGreat
set_option linter.unusedVariables false
set_option linter.unusedSimpArgs false
open Go.RowKit
section
variable {P:Program}{w0:World}{rd:Bool}{n:Nat}{o:Op}{α:AA}{S S':aa}{r:AV}{q:cB}{dr:Bool}
def j8 (f:Nat->AV):Option QO->Int->Option Int
 |none,d=>some d
 |some x,_=>match x.ev f with
  |.v (.int _ i)=>some i
  |_=>none
theorem uI {lo:Option Operand}{d i:Int}(h:j8 α.tm (lo.map qo) d=some i):iS (lo.map α.ev) d=some i:=by
 cases lo with
 |none=>exact h
 |some x =>
  simp only [Option.map_some,j8,aD] at h
  simp only [Option.map_some,iS]
  split at h
  ·rename_i e;rw [e];exact h
  ·cases h
theorem Qx {k:SK}{x:QO}{lo hi:Option QO}(h:res P.toTables o=some (.slice k x lo hi none)):∃ t u l1 h1,o=.slice t u l1 h1 none/\x=qo u/\lo=l1.map qo/\hi=h1.map qo /\
  ((k=.str/\P.underlying t=some .string)\/∃ e m,k=.sl m/\P.underlying t=some (.slice e)/\bZ P e=some m):=by
 cases o with
 |slice t u l1 h1 m1 =>
  simp only [res,a7,cL] at h
  split at h
  ·rename_i hu
   simp only [Option.some.injEq,cB.slice.injEq,Option.map_eq_none_iff] at h
   obtain⟨rfl,rfl,rfl,rfl,rfl⟩:=h
   exact⟨_,_,_,_,rfl,rfl,rfl,rfl,.inl ⟨rfl,hu⟩⟩
  ·rename_i e hu
   split at h
   ·rename_i m hs
    simp only [Option.some.injEq,cB.slice.injEq,Option.map_eq_none_iff] at h
    obtain⟨rfl,rfl,rfl,rfl,rfl⟩:=h
    exact⟨_,_,_,_,rfl,rfl,rfl,rfl,.inr ⟨_,_,rfl,hu,hs⟩⟩
   ·cases h
  ·cases h
 |_ =>
  simp only [res] at h
  repeat' split at h
  all_goals cases h
theorem ad.aaj {x:QO}{lo hi:Option QO}{s:ByteArray}{l h:Int}(h1:x.ev α.tm=.v (.string s)) (h2:j8 α.tm lo 0=some l) (h3:j8 α.tm hi s.size=some h) (h4:0<=l) (h5:l<=h) (h6:h<=s.size) :
  ad P w0 dr (.slice .str x lo hi none) α S (.v (.string (s.extract l.toNat h.toNat))) S:=by
 refine ad.of rfl fun o hr=>?_
 obtain⟨t,u,l1,i1,rfl,rfl,rfl,rfl,hu|⟨e,m,hk,_⟩⟩:=Qx hr
 ·rw [aD] at h1
  simp only [aK,jw,Option.map_none,h1,hu.2,uI h2,uI h3]
  exact⟨h4,h5,h6,rfl,rfl⟩
 ·cases hk
theorem kA {sz by_:Nat}{a b:QO}(h:res P.toTables o=some (.append sz by_ a b)):∃ c t t2 u v e e2 z,o=.call c/\c.callee=.builtin .append/\c.argTypes.toList=[t,t2]/\c.args.toList=[u,v]/\a=qo u/\b=qo v/\eu P t=some e/\eu P t2=some e2/\b8 P e=some z /\
  bZ P e=some sz/\fe P e=some by_/\Nat.beq z.cells.size sz=true/\Nat.blt 0 by_=true:=by
 cases o<;>simp only [res,a7,cL,jr,eK,ic] at h<;>(repeat' split at h)<;>(try cases h)
 rename_i hb
 simp only [Bool.and_eq_true] at hb
 exact⟨_,_,_,_,_,_,_,_,rfl,by assumption,by assumption,by assumption,rfl,rfl,by assumption,by assumption,by assumption,by assumption,by assumption,hb.1,hb.2⟩
def cI (S:aa) (b:AV):Option (List (List AV)):=match rowsOf S b,kQ b with
 |some l,some k=>match Nat.beq k l.length with|true=>some l|false=>none
 |_,_=>none
theorem cG {S:aa}{b:AV}{l:List (List AV)}(h:cI S b=some l):rowsOf S b=some l/\kQ b=some l.length:=by
 unfold cI at h
 split at h
 ·rename_i h1 h2
  split at h
  ·rename_i e
   obtain rfl:=Option.some.inj h
   rw [Nat.eq_of_beq_eq_true e] at h2
   exact⟨h1,h2⟩
  ·cases h
 ·cases h
theorem ad.append {sz by_:Nat}{a b:QO}{more:List (List AV)}(hm:rowsOf S (b.ev α.tm)=some more) (hl:kQ (b.ev α.tm)=some more.length)
  (h:∀ e z,b8 P e=some z->bZ P e=some sz->fe P e=some by_->Nat.blt 0 by_=true->g8 P e (nT r S') S more (a.ev α.tm)):ad P w0 dr (.append sz by_ a b) α S r S':=by
 refine ad.of rfl fun o hr=>?_
 obtain⟨c,t,t2,u,v,e,e2,z,rfl,h1,h2,h3,rfl,rfl,h4,h5,h6,h7,h8,h9,DL⟩:=kA hr
 rw [aD] at hm hl h
 simp only [aK,h1,j6,h2,h3,List.map_cons,List.map_nil,h4,h5,h6,h7,h9]
 exact aL.mk hm ⟨hl,h e z h6 h7 h8 DL⟩
theorem ad.KR {sz by_:Nat}{a b:QO}{rows:List (List AV)}(h1:a.ev α.tm=.sl true rows) (hm:cI S (b.ev α.tm)=some []):ad P w0 dr (.append sz by_ a b) α S (.sl true rows) S:=by
 refine ad.append (cG hm).1 (cG hm).2 fun e z hz hs hb hp=>?_
 rw [h1]
 exact⟨rfl,rfl⟩
theorem ad.A9 {sz by_:Nat}{a b:QO}{rows more:List (List AV)}{x:List AV}(h1:a.ev α.tm=.sl true rows) (hm:cI S (b.ev α.tm)=some (x::more)) (h2:∀ row ∈ rows,row.length=sz) (h3:∀ row ∈ x::more,row.length=sz)
  (h4:(rows.length+(x::more).length)*by_<=35184372088832):ad P w0 dr (.append sz by_ a b) α S (.ob S.nx sz 0 (rows.length+(x::more).length) none) (S.new (.arr sz (rows++x::more) 0 false)):=by
 refine ad.append (cG hm).1 (cG hm).2 fun e z hz hs hb hp=>?_
 rw [h1]
 simp only [g8,hs,hb,hp]
 exact⟨h2,h3,h4,rfl,rfl⟩
theorem ad.E7 {sz by_ k fz len:Nat}{ex:Bool}{a b:QO}{rows more:List (List AV)}{x:List AV}(h1:a.ev α.tm=.ob k sz 0 len none) (hk:S.get k=some (.arr sz rows fz ex)) (hm:cI S (b.ev α.tm)=some (x::more)) (h0:fz<=len) (h2:len<=rows.length)
  (h3:∀ row ∈ x::more,row.length=sz/\row.all bl=true) (h4:(len+(x::more).length)*by_<=35184372088832) :
  ad P w0 dr (.append sz by_ a b) α S (.ob S.nx sz 0 (len+(x::more).length) none) ((S.set k none).new (.arr sz (rows.take len++x::more) fz false)):=by
 refine ad.append (cG hm).1 (cG hm).2 fun e z hz hs hb hp=>?_
 rw [h1]
 simp only [g8]
 refine aL.mk (oP hk) ?_
 simp only [hs,hb,hp,Nat.beq_refl,Bool.and_self,Bool.true_and]
 exact⟨h0,h2,h3,h4,rfl,rfl⟩
theorem ad.AH {sz by_ k fz len sz':Nat}{ex:Bool}{a b:QO}{rows:List (List AV)}(h1:a.ev α.tm=.ob k sz' 0 len none) (hk:S.get k=some (.arr sz' rows fz ex)) (hm:cI S (b.ev α.tm)=some []) :
  ad P w0 dr (.append sz by_ a b) α S (.ob k sz' 0 len none) S:=by
 refine ad.append (cG hm).1 (cG hm).2 fun e z hz hs hb hp=>?_
 rw [h1]
 simp only [g8]
 exact aL.mk (oP hk) ⟨rfl,rfl⟩
theorem DM {z:List AV}{by_:Nat}{l c:QO}(h:res P.toTables o=some (.g7 z by_ l c)):∃ t u v e zv sz,o=.makeSlice t u v/\l=qo u/\c=qo v/\eu P t=some e/\b8 P e=some zv/\bZ P e=some sz/\fe P e=some by_ /\
  z=zv.cells.toList.map a8/\Nat.beq zv.cells.size sz=true/\Nat.blt 0 sz=true:=by
 cases o with
 |makeSlice t u v =>
  simp only [res,cL,jr,eK,ic] at h
  split at h
  ·rename_i e he
   split at h
   ·rename_i zv sz b1 hz hs hb
    split at h
    ·rename_i hc
     simp only [Bool.and_eq_true] at hc
     simp only [Option.some.injEq,cB.g7.injEq] at h
     obtain⟨rfl,rfl,rfl,rfl⟩:=h
     exact⟨_,_,_,_,_,_,rfl,rfl,rfl,he,hz,hs,hb,rfl,hc.1,hc.2⟩
    ·cases h
   ·cases h
  ·cases h
 |_ =>
  simp only [res] at h
  repeat' split at h
  all_goals cases h
theorem ad.Nv {z:List AV}{by_:Nat}{l c:QO}{k k':IntKind}{a b:Int}(h1:l.ev α.tm=.v (.int k a)) (h2:c.ev α.tm=.v (.int k' b)) (h3:0<=a) (h4:a=b) (h5:a*by_<=35184372088832) (h6:a<=9223372036854775807) :
  ad P w0 dr (.g7 z by_ l c) α S (.ob S.nx z.length 0 a.toNat none) (S.new (.arr z.length (List.replicate a.toNat z) 0 true)):=by
 refine ad.of rfl fun o hr=>?_
 obtain⟨t,u,v,e,zv,sz,rfl,rfl,rfl,e1,e2,e3,e4,rfl,e5,e6⟩:=DM hr
 have hz:(zv.cells.toList.map a8).length=sz:=by rw [<-Nat.eq_of_beq_eq_true e5];simp
 rw [aD] at h1 h2
 rw [hz]
 simp only [aK,h1,h2,e1,e2,e3,e4,e5,e6,Bool.and_self]
 exact⟨h3,h4,h5,h6,rfl,rfl⟩
theorem ad.RR {x:QO}{s:ByteArray}(h1:x.ev α.tm=.v (.string s)):ad P w0 dr (.sS x) α S (.pt S.nx 0 0 0) (S.new (.si s 0)):=by
 refine ad.of rfl fun o hr=>?_
 cases o<;>simp only [res,a7] at hr<;>(repeat' split at hr)<;>(try cases hr)
 rw [aD] at h1
 simp only [aK, *]
 exact⟨rfl,rfl⟩
theorem ad.E8 {x:QO}{k sz pos:Nat}{s:ByteArray}(h1:x.ev α.tm=.pt k sz 0 0) (hk:S.get k=some (.si s pos)) (hp:pos < s.size) :
  ad P w0 dr (.oq x) α S (.aC [.v (.bool true),.v (.int .i64 pos),.v (.int .i32 (Utf8.decode s pos).1)]) (S.set k (some (.si s (pos+(Utf8.decode s pos).2)))):=by
 refine ad.of rfl fun o hr=>?_
 cases o<;>simp only [res,a7] at hr<;>(repeat' split at hr)<;>(try cases hr)
 rw [aD] at h1
 simp only [aK,h1]
 refine aL.mk (a:=(s,pos)) (by simp only [A_,hk]) ⟨true,by simpa using hp,rfl,rfl⟩
theorem ad.RS {x:QO}{k sz pos:Nat}{s:ByteArray}(h1:x.ev α.tm=.pt k sz 0 0) (hk:S.get k=some (.si s pos)) (hp:s.size<=pos):ad P w0 dr (.oq x) α S (.aC [.v (.bool false)]) S:=by
 refine ad.of rfl fun o hr=>?_
 cases o<;>simp only [res,a7] at hr<;>(repeat' split at hr)<;>(try cases hr)
 rw [aD] at h1
 simp only [aK,h1]
 refine aL.mk (a:=(s,pos)) (by simp only [A_,hk]) ⟨false,by simpa using hp,rfl,rfl⟩
end
section
variable {P:Program}{w0:World}{rd:Bool}{n:Nat}{α:AA}{S:aa}{ex:Exit}{rs:Array ResultVar}{r r':AV}{Q:Exit->AA->aa->Prop}{l:List QI}{K:List ig}{dr:Bool}
theorem ab.E8 {d:Option Nat}{g:Option (Nat × Bool)}{x:QO}{k sz pos:Nat}{s:ByteArray}(hw:bB α.tm g=some true) (h1:x.ev α.tm=.pt k sz 0 0) (hk:S.get k=some (.si s pos))
  (k1:pos < s.size->∀ (j c:Int) (p:Nat),j=pos->c=(Utf8.decode s pos).1->p=pos+(Utf8.decode s pos).2->ab P w0 rd n Q (.aR dr l K) (bJ d α (.aC [.v (.bool true),.v (.int .i64 j),.v (.int .i32 c)])) (S.set k (some (.si s p))))
  (k2:s.size<=pos->ab P w0 rd n Q (.aR dr l K) (bJ d α (.aC [.v (.bool false)])) S):ab P w0 rd n Q (.aR dr (⟨d,g,.oq x⟩::l) K) α S:=by
 rcases Nat.lt_or_ge pos s.size with h|h
 ·exact ab.op (i:=⟨d,g,.oq x⟩) hw (ad.E8 h1 hk h) (k1 h _ _ _ rfl rfl rfl)
 ·exact ab.op (i:=⟨d,g,.oq x⟩) hw (ad.RS h1 hk h) (k2 h)
def Wk (a b:AV):Prop:=∀ (g:Gh) (w:World) (x:Value),aA g w a x->aA g w b x
def Ba:List AV->List AV->Prop
 |[],[]=>True
 |a::l,b::m=>Wk a b/\Ba l m
 |_,_=>False
theorem Wk.refl (a:AV):Wk a a:=fun _ _ _ h=>h
theorem Ba.len:∀ {l m:List AV},Ba l m->l.length=m.length
 |[],[],_=>rfl
 |_::_,_::_,h=>by simp [h.2.len]
 |[],_::_,h=>h.elim
 |_::_,[],h=>h.elim
theorem Ba.at:∀ {l m:List AV},Ba l m->∀ (i:Nat) (b:AV),m[i]?=some b->∃ a,l[i]?=some a/\Wk a b
 |[],[],_,i,b,h=>by simp at h
 |a::l,b::m,hw,i,c,h=>by
  cases i with
  |zero=>simp at h;subst h;exact⟨a,rfl,hw.1⟩
  |succ i=>simp at h;obtain⟨d,h1,h2⟩:=hw.2.at i c h;exact⟨d,by simpa using h1,h2⟩
 |[],_::_,h,_,_,_=>h.elim
 |_::_,[],h,_,_,_=>h.elim
theorem Wk.sl {ex:Bool}{rows:List (List AV)}:Wk (.sl ex rows) (.sl false rows):=fun g w x hr=>by
 cases hr with
 |nil hc=>exact .nil (fun h=>by cases h)
 |sl hn hc hle hl h hr=>exact .sl hn (fun h=>by cases h) hle hl h hr
theorem Wk.nil {ρ:Hd}{T:Type}{f:T->List AV}{ex:Bool}:Wk (.sl ex []) (dw ρ f false []):=by rw [ij];exact Wk.sl
theorem aE.wk {f:FuncId}{args iH:List AV}{S':aa}(h:aE P w0 f args S r S') (hw:Ba iH args):aE P w0 f iH S r S':=by
 refine⟨h.1,fun F m A g aV w hF hS hA=>h.2 F m A g aV w hF hS ⟨hA.1.trans hw.len,fun i a x ha hx=>?_⟩⟩
 obtain⟨b,h1,h2⟩:=hw.at i a ha
 exact h2 _ _ _ (hA.2 i b x h1 hx)
theorem ad.Bb {f:QO}{aZ9:List QO}{g:FuncId}{args iH:List AV}(h:dZ (f.ev α.tm) (aZ9.map (·.ev α.tm))=some (g,iH)) (hc:av P w0 g args r) (hp:du args) (hw:Ba iH args):ad P w0 dr (.call f aZ9) α S r S:=ad.call h ((hc.AW hp S).wk hw) fun _=>rfl
variable {ρ:Hd}{T:Type}{f:T->List AV}{acc:List T}{x:T}
theorem yC {B:Nat}{ex:Bool}:cC B (.sl ex []):=.sl fun r hr=>by cases hr
end
def Gh.pre (g:Gh) (ι:Nat->Nat) (M:Nat):Gh:=⟨fun j=>g.ob (ι j),fun j=>g.cp (ι j),fun j=>j < M/\g.al (ι j),g.fz,g.fo⟩
def Rn (ι:Nat->Nat) (M:Nat) (a b:AV):Prop:=∀ (g:Gh) (w:World) (x:Value),aA g w a x->aA (g.pre ι M) w b x
def kJ (ι:Nat->Nat) (M:Nat) (bm o:Ob):Prop:=(∀ (g:Gh) (w:World) (b cp:Nat),cH g w b cp bm->cH (g.pre ι M) w b cp o)/\∀ J,o=.fo J->bm=.fo J
structure Bk (ι:Nat->Nat) (gc g:Gh):Prop where
 al:∀ j,gc.al j->g.al (ι j)
 ob:∀ j,gc.al j->g.ob (ι j)=gc.ob j
 cp:∀ j,gc.al j->g.cp (ι j)=gc.cp j
 fz:g.fz=gc.fz
def Rb (ι:Nat->Nat) (b a:AV):Prop:=∀ (gc g:Gh) (w:World) (x:Value),Bk ι gc g->aA gc w b x->aA g w a x
def l_ (ι:Nat->Nat) (o dv:Ob):Prop:=(∀ (gc g:Gh) (w:World) (b cp:Nat),Bk ι gc g->(∀ J,o=.fo J->g.fo=gc.fo)->cH gc w b cp o->cH g w b cp dv)/\∀ J,dv=.fo J->o=.fo J
def da (ι:Nat->Nat) (M T:Nat) (j:Nat):Nat:=match Nat.blt j M with|true=>ι j|false=>T+j
theorem kB {ι:Nat->Nat}{M T j:Nat}(h:j < M):da ι M T j=ι j:=by
 have:Nat.blt j M=true:=Nat.ble_eq_true_of_le h
 simp only [da,this]
theorem mU {ι:Nat->Nat}{M T j:Nat}(h:M<=j):da ι M T j=T+j:=by
 have:Nat.blt j M=false:=by
  cases e:Nat.blt j M with
  |false=>rfl
  |true=>exact absurd (Nat.le_of_ble_eq_true e) (by omega)
 simp only [da,this]
structure na (ι:Nat->Nat) (S S' T T':aa):Prop where
 inj:∀ i j,i < S.nx->j < S.nx->ι i=ι j->i=j
 lt:∀ j,j < S.nx->ι j < T.nx
 hS:∀ j o,S.get j=some o->∃ bm,T.get (ι j)=some bm/\kJ ι S.nx bm o
 hT:∀ k dv,T'.get k=some dv->(∃ j o,da ι S.nx T.nx j=k/\S'.get j=some o/\l_ (da ι S.nx T.nx) o dv)\/(k < T.nx/\(∀ j,j < S.nx->ι j ≠ k)/\T.get k=some dv)
 nx:T'.nx=T.nx+S'.nx\/(S'.nx<=S.nx/\T'.nx=T.nx)
structure Fits (ι:Nat->Nat) (S S' T T':aa):Prop where
 inj:∀ i j,i < S.nx->j < S.nx->ι i=ι j->i=j
 lt:∀ j,j < S.nx->ι j < T.nx
 hS:∀ j o,S.get j=some o->∃ bm,T.get (ι j)=some bm/\kJ ι S.nx bm o
 hT:∀ k dv,T'.get k=some dv->(∃ j o,da ι S.nx T.nx j=k/\S'.get j=some o/\l_ (da ι S.nx T.nx) o dv)\/(k < T.nx/\(∀ j,j < S.nx->ι j ≠ k)/\T.get k=some dv)
 nx:T'.nx=T.nx+S'.nx\/(S'.nx<=S.nx/\T'.nx=T.nx)
 fo:(∀ k J,T.get k=some (.fo J)->∃ j,j < S.nx/\ι j=k)\/(∀ j J,S'.get j ≠ some (.fo J))
section
variable {w0:World}{A:Nat->Prop}{g:Gh}{S S' T T':aa}{w:World}{ι:Nat->Nat}
def yD (gc:Gh) (S:aa) (w:World) (b:Nat):Prop:=w.heap.size<=b\/∃ j o,S.get j=some o/\gc.al j/\(b=gc.ob j\/∃ J,o=.fo J/\gc.fo (gc.ob j) b)
theorem Fits.y (h:Fits ι S S' T T'):na ι S S' T T':=⟨h.inj,h.lt,h.hS,h.hT,h.nx⟩
theorem na.sub (hF:na ι S S' T T') (hT:St w0 A g T w) {b:Nat}(h:yD (g.pre ι S.nx) S w b):A b:=by
 rcases h with h|⟨j,o,h1,h2,h3⟩
 ·exact hT.up b h
 ·obtain⟨bm,h4,h5,h6⟩:=hF.hS j o h1
  rcases h3 with rfl|⟨J,rfl,h7⟩
  ·exact (hT.bj _ bm h4 h2.2).1
  ·exact (hT.fp _ J (by rw [<-h6 J rfl];exact h4) h2.2 b h7).1
theorem na.inner (hF:na ι S S' T T') (hT:St w0 A g T w):St w0 (yD (g.pre ι S.nx) S w) (g.pre ι S.nx) S w :=
 ⟨hT.base,fun b hb=>.inl hb,fun b hb=>hT.lo b (hF.sub hT hb),fun k hk=>hk.1,fun k o hk ha=>by
   obtain⟨bm,h4,h5,h6⟩:=hF.hS k o hk
   obtain⟨h7,h8,h9⟩:=hT.bj _ bm h4 ha.2
   exact⟨.inr ⟨k,o,hk,ha,.inl rfl⟩,h8,h5 _ _ _ _ h9⟩,
  fun j k o p hj hk aj ak e=>by
   obtain⟨bm,h4,_⟩:=hF.hS j o hj
   obtain⟨rA,h5,_⟩:=hF.hS k p hk
   exact hF.inj j k aj.1 ak.1 (hT.inj _ _ bm rA h4 h5 aj.2 ak.2 e),
  hT.bM,hT.lM,fun k J hk ha c hc=>by
   obtain⟨bm,h4,_,h6⟩:=hF.hS k _ hk
   exact⟨.inr ⟨k,_,hk,ha,.inr ⟨J,rfl,hc⟩⟩,(hT.fp _ J (by rw [<-h6 J rfl];exact h4) ha.2 c hc).2⟩,
  fun k J j o hk ha hj aj aP hc=>by
   obtain⟨bm,h4,_,h6⟩:=hF.hS k _ hk
   obtain⟨rA,h5,_⟩:=hF.hS j o hj
   exact hT.iF _ J _ rA (by rw [<-h6 J rfl];exact h4) ha.2 h5 aj.2 (fun e=>aP (hF.inj j k aj.1 ha.1 e)) hc,
  fun j k J J' hj hk aj ak=>by
   obtain⟨bm,h4,_,h6⟩:=hF.hS j _ hj
   obtain⟨rA,h5,_,h7⟩:=hF.hS k _ hk
   exact hF.inj j k aj.1 ak.1 (hT.kD _ _ J J' (by rw [<-h6 J rfl];exact h4) (by rw [<-h7 J' rfl];exact h5) aj.2 ak.2)⟩
theorem na.RT (hF:na ι S S' T T') {i j:Nat}(h:da ι S.nx T.nx i=da ι S.nx T.nx j):i=j:=by
 rcases Nat.lt_or_ge i S.nx with h1|h1<;>rcases Nat.lt_or_ge j S.nx with h2|h2
 ·rw [kB h1,kB h2] at h;exact hF.inj i j h1 h2 h
 ·rw [kB h1,mU h2] at h;have:=hF.lt i h1;omega
 ·rw [mU h1,kB h2] at h;have:=hF.lt j h2;omega
 ·rw [mU h1,mU h2] at h;omega
theorem na.outer (hF:na ι S S' T T') (hT:St w0 A g T w) {gc:Gh}{w':World}(dO:St w0 (yD (g.pre ι S.nx) S w) gc S' w') (hE:Ext (yD (g.pre ι S.nx) S w) (g.pre ι S.nx) w gc w')
  (vh:(∀ k J,T.get k=some (.fo J)->g.al k->∃ j,j < S.nx/\ι j=k)\/(∀ j J,S'.get j ≠ some (.fo J))):∃ g',St w0 A g' T' w'/\Ext A g w g' w'/\Bk (da ι S.nx T.nx) gc g':=by
 classical
 obtain⟨X,Nw,RU⟩:∃ X:Nat->Nat->Prop,(∀ j J,S'.get j=some (.fo J)->X=gc.fo)/\(∀ k J,T.get k=some (.fo J)->g.al k->(∀ j,j < S.nx->ι j ≠ k)->X=g.fo):=by
  rcases vh with h|h
  ·exact⟨gc.fo,fun _ _ _=>rfl,fun k J hk ha hn=>by obtain⟨j,h1,h2⟩:=h k J hk ha;exact absurd h2 (hn j h1)⟩
  ·exact⟨g.fo,fun j J hj=>absurd hj (h j J),fun _ _ _ _ _=>rfl⟩
 let o:=da ι S.nx T.nx
 let g':Gh:=⟨fun k=>if h:∃ j,o j=k then gc.ob h.choose else g.ob k,fun k=>if h:∃ j,o j=k then gc.cp h.choose else g.cp k,fun k=>if h:∃ j,o j=k then gc.al h.choose else g.al k,gc.fz,X⟩
 have ch:∀ j (h:∃ i,o i=o j),h.choose=j:=fun j h=>hF.RT h.choose_spec
 have e1:∀ j,g'.ob (o j)=gc.ob j:=fun j=>by
  have h:∃ i,o i=o j:=⟨j,rfl⟩
  show (if h:∃ i,o i=o j then gc.ob h.choose else _)=_
  rw [dif_pos h,ch j h]
 have e2:∀ j,g'.cp (o j)=gc.cp j:=fun j=>by
  have h:∃ i,o i=o j:=⟨j,rfl⟩
  show (if h:∃ i,o i=o j then gc.cp h.choose else _)=_
  rw [dif_pos h,ch j h]
 have e3:∀ j,g'.al (o j)=gc.al j:=fun j=>by
  have h:∃ i,o i=o j:=⟨j,rfl⟩
  show (if h:∃ i,o i=o j then gc.al h.choose else _)=_
  rw [dif_pos h,ch j h]
 have f1:∀ k,(∀ j,o j ≠ k)->g'.ob k=g.ob k:=fun k hk=>dif_neg fun ⟨j,hj⟩=>hk j hj
 have f2:∀ k,(∀ j,o j ≠ k)->g'.cp k=g.cp k:=fun k hk=>dif_neg fun ⟨j,hj⟩=>hk j hj
 have f3:∀ k,(∀ j,o j ≠ k)->g'.al k=g.al k:=fun k hk=>dif_neg fun ⟨j,hj⟩=>hk j hj
 have aJ:∀ k,g.al k->(∃ j,j < S.nx/\o j=k/\ι j=k/\(g.pre ι S.nx).al j)\/∀ j,o j ≠ k:=by
  intro k hk
  by_cases h:∃ j,o j=k
  ·obtain⟨j,hj⟩:=h
   rcases Nat.lt_or_ge j S.nx with h1|h1
   ·have h2:ι j=k:=by rw [<-hj];exact (kB h1).symm
    exact .inl ⟨j,h1,hj,h2,h1,by rw [h2];exact hk⟩
   ·have h2:o j=T.nx+j:=mU h1
    have:=hT.al k hk
    omega
  ·exact .inr fun j hj=>h ⟨j,hj⟩
 have free:∀ k,k < T.nx->(∀ j,j < S.nx->ι j ≠ k)->∀ j,o j ≠ k:=by
  intro k hk h j hj
  rcases Nat.lt_or_ge j S.nx with h1|h1
  ·exact h j h1 (by rw [<-hj];exact (kB h1).symm)
  ·have h2:o j=T.nx+j:=mU h1
   omega
 have out:∀ k p,T.get k=some p->g.al k->(∀ j,j < S.nx->ι j ≠ k)->¬ yD (g.pre ι S.nx) S w (g.ob k):=by
  rintro k p hk ha hn (h|⟨j,q,h1,h2,h3⟩)
  ·exact absurd (hT.bj k p hk ha).2.1 (by omega)
  ·obtain⟨bm,h4,_,h6⟩:=hF.hS j q h1
   rcases h3 with h3|⟨J,rfl,h7⟩
   ·exact hn j h2.1 (hT.inj k (ι j) p bm hk h4 ha h2.2 h3).symm
   ·exact hT.iF (ι j) J k p (by rw [<-h6 J rfl];exact h4) h2.2 hk ha (fun e=>hn j h2.1 e.symm) h7
 have hL:Later g w g' w':=by
  refine⟨fun k hk=>?_,fun k hk=>?_,fun k hk=>?_,hE.fz,hE.cell⟩
  ·rcases aJ k hk with ⟨j,h1,h2,h3,h4⟩|h
   ·rw [<-h2,e3];exact hE.al j h4
   ·rw [f3 k h];exact hk
  ·rcases aJ k hk with ⟨j,h1,h2,h3,h4⟩|h
   ·rw [<-h2,e1,hE.ob j h4,h2,<-h3];rfl
   ·exact f1 k h
  ·rcases aJ k hk with ⟨j,h1,h2,h3,h4⟩|h
   ·rw [<-h2,e2,hE.cp j h4,h2,<-h3];rfl
   ·exact f2 k h
 have hEx:Ext A g w g' w':={ hL with size:=hE.size,cD:=fun b hb hA=>hE.cD b hb fun h=>hA (hF.sub hT h),eW:=fun b q h=>(hE.eW b q h).imp id (hF.sub hT) }
 have hB:Bk o gc g':=⟨fun j hj=>by rw [e3];exact hj,fun j _=>e1 j,fun j _=>e2 j,rfl⟩
 refine⟨g',⟨dO.base,fun b hb=>hT.up b (Nat.le_trans hE.size hb),hT.lo,fun k hk=>?_,fun k dv hk ha=>?_,fun k l dv s7 hk hl ak mc e=>?_,dO.bM,dO.lM,fun k J hk ha c hc=>?_,fun k J l s7 hk ha hl mc aP hc=>?_,fun k l J J' hk hl ak mc=>?_⟩,hEx,hB⟩
 ·by_cases h:∃ j,o j=k
  ·obtain⟨j,rfl⟩:=h
   rw [e3] at hk
   have h1:=dO.al j hk
   rcases Nat.lt_or_ge j S.nx with h2|h2
   ·rw [show o j=ι j from kB h2];have:=hF.lt j h2;rcases hF.nx with e|⟨_,e⟩<;>omega
   ·rw [show o j=T.nx+j from mU h2];rcases hF.nx with e|⟨_,e⟩<;>omega
  ·rw [f3 k fun j hj=>h ⟨j,hj⟩] at hk
   have:=hT.al k hk
   rcases hF.nx with e|⟨_,e⟩<;>omega
 ·rcases hF.hT k dv hk with ⟨j,p,rfl,h1,h2,h3⟩|⟨h1,h2,h3⟩
  ·have bL:gc.al j:=by rw [<-e3];exact ha
   obtain⟨h4,h5,h6⟩:=dO.bj j p h1 bL
   rw [show g'.ob (da ι S.nx T.nx j)=gc.ob j from e1 j,show g'.cp (da ι S.nx T.nx j)=gc.cp j from e2 j]
   exact⟨hF.sub hT h4,h5,h2 gc g' w' _ _ hB (fun J hJ=>Nw j J (by rw [<-hJ];exact h1)) h6⟩
  ·have hn:=free k h1 h2
   rw [f3 k hn] at ha
   rw [f1 k hn,f2 k hn]
   obtain⟨h4,h5,h6⟩:=hT.bj k dv h3 ha
   have eY:=out k dv h3 ha h2
   refine⟨h4,Nat.lt_of_lt_of_le h5 hE.size,h6.later hL (hE.cD _ h5 eY) (fun q hq=>(hE.eW _ q hq).resolve_right eY) fun J hJ=>?_⟩
   subst hJ
   have Y5:∀ c,g.fo (g.ob k) c->¬ yD (g.pre ι S.nx) S w c:=by
    rintro c hc (h|⟨j,q,q1,q2,q3⟩)
    ·exact absurd (hT.fp k J h3 ha c hc).2 (by omega)
    ·obtain⟨bm,q4,_,q6⟩:=hF.hS j q q1
     rcases q3 with rfl|⟨J',rfl,q7⟩
     ·exact hT.iF k J _ bm h3 ha q4 q2.2 (h2 j q2.1) hc
     ·exact h2 j q2.1 (hT.kD _ _ J' J (by rw [<-q6 J' rfl];exact q4) h3 q2.2 ha)
   refine⟨by show X (g.ob k)=g.fo (g.ob k);rw [RU k J h3 ha h2],hE.size,fun c hc=>hE.cD c (hT.fp k J h3 ha c hc).2 (Y5 c hc),fun c q hc hq=>(hE.eW c q hq).resolve_right (Y5 c hc)⟩
 ·rcases hF.hT k dv hk with ⟨i,p,rfl,h1,h2⟩|⟨h1,h2,h3⟩<;>rcases hF.hT l s7 hl with ⟨j,q,rfl,k1,k2⟩|⟨k1,k2,k3⟩
  ·have e':gc.ob i=gc.ob j:=by rw [<-e1,<-e1];exact e
   rw [dO.inj i j p q h1 k1 (by rw [<-e3];exact ak) (by rw [<-e3];exact mc) e']
  ·have hn:=free l k1 k2
   rw [f3 l hn] at mc
   rw [f1 l hn,show g'.ob (da ι S.nx T.nx i)=gc.ob i from e1 i] at e
   exact absurd (e ▸ (dO.bj i p h1 (by rw [<-e3];exact ak)).1) (out l s7 k3 mc k2)
  ·have hn:=free k h1 h2
   rw [f3 k hn] at ak
   rw [f1 k hn,show g'.ob (da ι S.nx T.nx j)=gc.ob j from e1 j] at e
   exact absurd (e ▸ (dO.bj j q k1 (by rw [<-e3];exact mc)).1) (out k dv h3 ak h2)
  ·have hn:=free k h1 h2
   have hm:=free l k1 k2
   rw [f3 k hn] at ak
   rw [f3 l hm] at mc
   rw [f1 k hn,f1 l hm] at e
   exact hT.inj k l dv s7 h3 k3 ak mc e
 ·rcases hF.hT k _ hk with ⟨j,p,rfl,h1,h2,h3⟩|⟨h1,h2,h3⟩
  ·have hp:S'.get j=some (.fo J):=by rw [<-h3 J rfl];exact h1
   have lX:gc.fo (gc.ob j) c:=by rw [<-Nw j J hp,<-e1 j];exact hc
   obtain⟨h4,h5⟩:=dO.fp j J hp (by rw [<-e3];exact ha) c lX
   exact⟨hF.sub hT h4,h5⟩
  ·have hn:=free k h1 h2
   rw [f3 k hn] at ha
   have lX:g.fo (g.ob k) c:=by rw [<-RU k J h3 ha h2,<-f1 k hn];exact hc
   obtain⟨h4,h5⟩:=hT.fp k J h3 ha c lX
   exact⟨h4,Nat.lt_of_lt_of_le h5 hE.size⟩
 ·rcases hF.hT k _ hk with ⟨i,p,rfl,h1,h2,h3⟩|⟨h1,h2,h3⟩
  ·have hp:S'.get i=some (.fo J):=by rw [<-h3 J rfl];exact h1
   have bL:gc.al i:=by rw [<-e3];exact ha
   rcases hF.hT l s7 hl with ⟨j,q,rfl,k1,k2⟩|⟨k1,k2,k3⟩
   ·have lX:gc.fo (gc.ob i) (gc.ob j):=by rw [<-Nw i J hp,<-e1 i,<-e1 j];exact hc
    exact dO.iF i J j q hp bL k1 (by rw [<-e3];exact mc) (fun e=>aP (by rw [e])) lX
   ·have hn:=free l k1 k2
    rw [f3 l hn] at mc
    have lX:gc.fo (gc.ob i) (g.ob l):=by rw [<-Nw i J hp,<-e1 i,<-f1 l hn];exact hc
    exact out l s7 k3 mc k2 (dO.fp i J hp bL _ lX).1
  ·have hn:=free k h1 h2
   rw [f3 k hn] at ha
   have hX:=RU k J h3 ha h2
   rcases hF.hT l s7 hl with ⟨j,q,rfl,k1,k2⟩|⟨k1,k2,k3⟩
   ·have lX:g.fo (g.ob k) (gc.ob j):=by rw [<-hX,<-f1 k hn,<-e1 j];exact hc
    rcases (dO.bj j q k1 (by rw [<-e3];exact mc)).1 with h|⟨i,q,q1,q2,q3⟩
    ·exact absurd (hT.fp k J h3 ha _ lX).2 (by omega)
    ·obtain⟨bm,q4,_,q6⟩:=hF.hS i q q1
     rcases q3 with q3|⟨J',rfl,q7⟩
     ·rw [q3] at lX;exact hT.iF k J _ bm h3 ha q4 q2.2 (h2 i q2.1) lX
     ·exact h2 i q2.1 (hT.kD _ _ J' J (by rw [<-q6 J' rfl];exact q4) h3 q2.2 ha)
   ·have hm:=free l k1 k2
    rw [f3 l hm] at mc
    have lX:g.fo (g.ob k) (g.ob l):=by rw [<-hX,<-f1 k hn,<-f1 l hm];exact hc
    exact hT.iF k J l s7 h3 ha k3 mc aP lX
 ·rcases hF.hT k _ hk with ⟨i,p,rfl,h1,h2,h3⟩|⟨h1,h2,h3⟩<;>rcases hF.hT l _ hl with ⟨j,q,rfl,k1,k2,k3⟩|⟨k1,k2,k3⟩
  ·rw [dO.kD i j J J' (by rw [<-h3 J rfl];exact h1) (by rw [<-k3 J' rfl];exact k1) (by rw [<-e3];exact ak) (by rw [<-e3];exact mc)]
  ·rcases vh with h|h
   ·obtain⟨x,h4,h5⟩:=h l J' k3 (by rw [f3 l (free l k1 k2)] at mc;exact mc)
    exact absurd h5 (k2 x h4)
   ·exact absurd (by rw [<-h3 J rfl];exact h1) (h i J)
  ·rcases vh with h|h
   ·obtain⟨x,h4,h5⟩:=h k J h3 (by rw [f3 k (free k h1 h2)] at ak;exact ak)
    exact absurd h5 (h2 x h4)
   ·exact absurd (by rw [<-k3 J' rfl];exact k1) (h j J')
  ·rw [f3 k (free k h1 h2)] at ak
   rw [f3 l (free l k1 k2)] at mc
   exact hT.kD k l J J' h3 k3 ak mc
end
section
variable {P:Program}{w0:World}{S S' T T':aa}{ι:Nat->Nat}{f:FuncId}{args dB:List AV}{r lE:AV}
theorem aE.frame (h:aE P w0 f args S r S') (hF:Fits ι S S' T T') (hl:dB.length=args.length) (ha:∀ (i:Nat) (a b:AV),dB[i]?=some a->args[i]?=some b->Rn ι S.nx a b) (hr:Rb (da ι S.nx T.nx) r lE):aE P w0 f dB T lE T':=by
 refine⟨h.1,fun F m A g aV w hW hT hA=>(h.2 F m _ _ aV w hW (hF.y.inner hT) ⟨hA.1.trans hl,fun i b x hb hx=>?_⟩).mono ?_⟩
 ·have hi:i < dB.length:=by rw [hl];exact (List.getElem?_eq_some_iff.1 hb).1
  have h0:=List.getElem?_eq_getElem hi
  exact ha i _ b h0 hb _ _ _ (hA.2 i _ x h0 hx)
 ·rintro e w' ⟨v,gc,rfl,h1,h2,h3⟩
  obtain⟨g',k1,k2,k3⟩:=hF.y.outer hT h2 h3 (hF.fo.imp (fun h k J hk _=>h k J hk) id)
  exact⟨v,g',rfl,hr gc g' w' v k3 h1,k1,k2⟩
end
end Go.Proofs.YtgjfgekaclobaaaGreat
