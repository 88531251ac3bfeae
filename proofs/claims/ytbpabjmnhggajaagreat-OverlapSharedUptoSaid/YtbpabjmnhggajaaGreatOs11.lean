import Derived.Test.YtbpabjmnhggajaaGreatOs10
namespace Go.Proofs.YtbpabjmnhggajaaGreat
set_option linter.unusedVariables false
set_option linter.unusedSimpArgs false
open Go.RowKit
section
variable {P:Program}{w0:World}{rd:Bool}{n:Nat}{o:Op}{α:AA}{S S':ae}{r:AV}{q:ee}{dr:Bool}
def mU (f:Nat->AV):Option QO->Int->Option Int
 |none,d=>some d
 |some x,_=>match x.ev f with
  |.v (.int _ i)=>some i
  |_=>none
theorem AE {lo:Option Operand}{d i:Int}(h:mU α.tm (lo.map qo) d=some i):j6 (lo.map α.ev) d=some i:=by
 cases lo with
 |none=>exact h
 |some x =>
  simp only[Option.map_some,mU,aI] at h;simp only[Option.map_some,j6];split at h
  ·grind
  ·grind
theorem Wv {k:SK}{x:QO}{lo hi:Option QO}(h:res P.toTables o=some (.slice k x lo hi none)):∃ t u l1 h1,o=.slice t u l1 h1 none/\x=qo u/\lo=l1.map qo/\hi=h1.map qo /\
  ((k=.str/\P.underlying t=some .string)\/∃ e m,k=.sl m/\P.underlying t=some (.slice e)/\cY P e=some m):=by
 cases o with
 |slice t u l1 h1 m1 =>
  simp only[res,bE,dS] at h;split at h
  ·rename_i hu;simp only[oI_,ee.slice.injEq,Option.map_eq_none_iff] at h;obtain⟨rfl,rfl,rfl,rfl,rfl⟩:=h;exact⟨_,_,_,_,rfl,rfl,rfl,rfl,.inl ⟨rfl,hu⟩⟩
  ·rename_i e hu;split at h
   ·rename_i m hs;simp only[oI_,ee.slice.injEq,Option.map_eq_none_iff] at h;obtain⟨rfl,rfl,rfl,rfl,rfl⟩:=h;exact⟨_,_,_,_,rfl,rfl,rfl,rfl,.inr ⟨_,_,rfl,hu,hs⟩⟩
   ·grind
  ·grind
 |_ =>
  simp only[res] at h
  repeat' split at h
  all_goals cases h
theorem af.agO {x:QO}{lo hi:Option QO}{s:ByteArray}{l h:Int}(h1:x.ev α.tm=.v (.string s)) (h2:mU α.tm lo 0=some l) (h3:mU α.tm hi s.size=some h) (h4:0<=l) (h5:l<=h) (h6:h<=s.size) :
  af P w0 dr (.slice .str x lo hi none) α S (.v (.string (s.extract l.toNat h.toNat))) S:=by
 refine af.of rfl fun o hr=>?_;obtain⟨t,u,l1,i1,rfl,rfl,rfl,rfl,hu|⟨e,m,hk,_⟩⟩:=Wv hr
 ·rw[aI] at h1;simp only[a8,ln,Option.map_none,h1,hu.2,AE h2,AE h3];exact⟨h4,h5,h6,rfl,rfl⟩
 ·grind
theorem my {sz by_:Nat}{a b:QO}(h:res P.toTables o=some (.append sz by_ a b)):∃ c t t2 u v e e2 z,o=.call c/\c.callee=.builtin .append/\c.argTypes.toList=[t,t2]/\c.args.toList=[u,v]/\a=qo u/\b=qo v/\fZ P t=some e/\fZ P t2=some e2/\de P e=some z /\
  cY P e=some sz/\iu P e=some by_/\Nat.beq z.cells.size sz=true/\Nat.blt 0 by_=true:=by
 cases o<;>simp only[res,bE,dS,me,gU,kh] at h<;>(repeat' split at h)<;>(try cases h)
 rename_i hb;simp only[Bool.and_eq_true] at hb;exact⟨_,_,_,_,_,_,_,_,rfl,by grind,by assumption,by grind,rfl,rfl,by assumption,by assumption,by grind,by grind,by grind,hb.1,hb.2⟩
def dF (S:ae) (b:AV):Option (List (List AV)):=match rowsOf S b,nR b with
 |some l,some k=>match Nat.beq k l.length with|true=>some l|false=>none
 |_,_=>none
theorem dH {S:ae}{b:AV}{l:List (List AV)}(h:dF S b=some l):rowsOf S b=some l/\nR b=some l.length:=by
 unfold dF at h;split at h
 ·rename_i h1 h2;split at h
  ·rename_i e;obtain rfl:=oJ_ h;rw[Nat.eq_of_beq_eq_true e] at h2;exact⟨h1,h2⟩
  ·grind
 ·grind
theorem af.append {sz by_:Nat}{a b:QO}{more:List (List AV)}(hm:rowsOf S (b.ev α.tm)=some more) (hl:nR (b.ev α.tm)=some more.length)
  (h:∀ e z,de P e=some z->cY P e=some sz->iu P e=some by_->Nat.blt 0 by_=true->j_ P e (td r S') S more (a.ev α.tm)):af P w0 dr (.append sz by_ a b) α S r S':=by
 refine af.of rfl fun o hr=>?_;obtain⟨c,t,t2,u,v,e,e2,z,rfl,h1,h2,h3,rfl,rfl,h4,h5,h6,h7,h8,h9,K3⟩:=my hr;rw[aI] at hm hl h;simp only[a8,h1,mR,h2,h3,List.map_cons,List.map_nil,h4,h5,h6,h7,h9];exact bc.mk hm ⟨hl,h e z h6 h7 h8 K3⟩
theorem af.Es {sz by_:Nat}{a b:QO}{rows:List (List AV)}(h1:a.ev α.tm=.sl true rows) (hm:dF S (b.ev α.tm)=some []):af P w0 dr (.append sz by_ a b) α S (.sl true rows) S:=by
 refine af.append (dH hm).1 (dH hm).2 fun e z hz hs hb hp=>?_;rw[h1];exact⟨rfl,rfl⟩
theorem af.Et {sz by_:Nat}{a b:QO}{rows more:List (List AV)}{x:List AV}(h1:a.ev α.tm=.sl true rows) (hm:dF S (b.ev α.tm)=some (x::more)) (h2:∀ row ∈ rows,row.length=sz) (h3:∀ row ∈ x::more,row.length=sz)
  (h4:(rows.length+(x::more).length)*by_<=35184372088832):af P w0 dr (.append sz by_ a b) α S (.ob S.nx sz 0 (rows.length+(x::more).length) none) (S.new (.arr sz (rows++x::more) 0 false)):=by
 refine af.append (dH hm).1 (dH hm).2 fun e z hz hs hb hp=>?_;rw[h1];simp only[j_,hs,hb,hp];exact⟨h2,h3,h4,rfl,rfl⟩
theorem af.MH {sz by_ k fz len:Nat}{ex:Bool}{a b:QO}{rows more:List (List AV)}{x:List AV}(h1:a.ev α.tm=.ob k sz 0 len none) (hk:S.get k=some (.arr sz rows fz ex)) (hm:dF S (b.ev α.tm)=some (x::more)) (h0:fz<=len) (h2:len<=rows.length)
  (h3:∀ row ∈ x::more,row.length=sz/\row.all bO=true) (h4:(len+(x::more).length)*by_<=35184372088832) :
  af P w0 dr (.append sz by_ a b) α S (.ob S.nx sz 0 (len+(x::more).length) none) ((S.set k none).new (.arr sz (rows.take len++x::more) fz false)):=by
 refine af.append (dH hm).1 (dH hm).2 fun e z hz hs hb hp=>?_;rw[h1];simp only[j_];refine bc.mk (te hk) ?_;simp only[hs,hb,hp,Nat.beq_refl,Bool.and_self,Bool.true_and];exact⟨h0,h2,h3,h4,rfl,rfl⟩
theorem af.CQ {sz by_ k fz len sz':Nat}{ex:Bool}{a b:QO}{rows:List (List AV)}(h1:a.ev α.tm=.ob k sz' 0 len none) (hk:S.get k=some (.arr sz' rows fz ex)) (hm:dF S (b.ev α.tm)=some []) :
  af P w0 dr (.append sz by_ a b) α S (.ob k sz' 0 len none) S:=by
 refine af.append (dH hm).1 (dH hm).2 fun e z hz hs hb hp=>?_;rw[h1];simp only[j_];exact bc.mk (te hk) ⟨rfl,rfl⟩
theorem K4 {z:List AV}{by_:Nat}{l c:QO}(h:res P.toTables o=some (.iI z by_ l c)):∃ t u v e zv sz,o=.makeSlice t u v/\l=qo u/\c=qo v/\fZ P t=some e/\de P e=some zv/\cY P e=some sz/\iu P e=some by_ /\
  z=zv.cells.toList.map bJ/\Nat.beq zv.cells.size sz=true/\Nat.blt 0 sz=true:=by
 cases o with
 |makeSlice t u v =>
  simp only[res,dS,me,gU,kh] at h;split at h
  ·rename_i e he;split at h
   ·rename_i zv sz b1 hz hs hb;split at h
    ·rename_i hc;simp only[Bool.and_eq_true] at hc;simp only[oI_,ee.iI.injEq] at h;obtain⟨rfl,rfl,rfl,rfl⟩:=h;exact⟨_,_,_,_,_,_,rfl,rfl,rfl,he,hz,hs,hb,rfl,hc.1,hc.2⟩
    ·grind
   ·grind
  ·grind
 |_ =>
  simp only[res] at h
  repeat' split at h
  all_goals cases h
theorem af.UO {z:List AV}{by_:Nat}{l c:QO}{k k':IntKind}{a b:Int}(h1:l.ev α.tm=.v (.int k a)) (h2:c.ev α.tm=.v (.int k' b)) (h3:0<=a) (h4:a=b) (h5:a*by_<=35184372088832) (h6:a<=9223372036854775807) :
  af P w0 dr (.iI z by_ l c) α S (.ob S.nx z.length 0 a.toNat none) (S.new (.arr z.length (List.replicate a.toNat z) 0 true)):=by
 refine af.of rfl fun o hr=>?_;obtain⟨t,u,v,e,zv,sz,rfl,rfl,rfl,e1,e2,e3,e4,rfl,e5,e6⟩:=K4 hr;have hz:(zv.cells.toList.map bJ).length=sz:=by rw[<-Nat.eq_of_beq_eq_true e5];simp
 rw[aI] at h1 h2;rw[hz];simp only[a8,h1,h2,e1,e2,e3,e4,e5,e6,Bool.and_self];exact⟨h3,h4,h5,h6,rfl,rfl⟩
theorem af.X8 {x:QO}{s:ByteArray}(h1:x.ev α.tm=.v (.string s)):af P w0 dr (.yD x) α S (.pt S.nx 0 0 0) (S.new (.si s 0)):=by
 refine af.of rfl fun o hr=>?_;cases o<;>simp only[res,bE] at hr<;>(repeat' split at hr)<;>(try cases hr)
 rw[aI] at h1;simp only[a8, *];exact⟨rfl,rfl⟩
theorem af.MI {x:QO}{k sz pos:Nat}{s:ByteArray}(h1:x.ev α.tm=.pt k sz 0 0) (hk:S.get k=some (.si s pos)) (hp:pos < s.size) :
  af P w0 dr (.sE x) α S (.aG [.v (.bool true),.v (.int .i64 pos),.v (.int .i32 (Utf8.decode s pos).1)]) (S.set k (some (.si s (pos+(Utf8.decode s pos).2)))):=by
 refine af.of rfl fun o hr=>?_;cases o<;>simp only[res,bE] at hr<;>(repeat' split at hr)<;>(try cases hr)
 rw[aI] at h1;simp only[a8,h1];refine bc.mk (a:=(s,pos)) (by grind[HB]) ⟨true,by grind,rfl,rfl⟩
theorem af.X9 {x:QO}{k sz pos:Nat}{s:ByteArray}(h1:x.ev α.tm=.pt k sz 0 0) (hk:S.get k=some (.si s pos)) (hp:s.size<=pos):af P w0 dr (.sE x) α S (.aG [.v (.bool false)]) S:=by
 refine af.of rfl fun o hr=>?_;cases o<;>simp only[res,bE] at hr<;>(repeat' split at hr)<;>(try cases hr)
 rw[aI] at h1;simp only[a8,h1];refine bc.mk (a:=(s,pos)) (by grind[HB]) ⟨false,by grind,rfl,rfl⟩
end
section
variable {P:Program}{w0:World}{rd:Bool}{n:Nat}{α:AA}{S:ae}{ex:Exit}{rs:Array ResultVar}{r r':AV}{Q:Exit->AA->ae->Prop}{l:List QI}{K:List ff}{dr:Bool}
theorem ad.MI {d:Option Nat}{g:Option (Nat × Bool)}{x:QO}{k sz pos:Nat}{s:ByteArray}(hw:bm α.tm g=some true) (h1:x.ev α.tm=.pt k sz 0 0) (hk:S.get k=some (.si s pos))
  (k1:pos < s.size->∀ (j c:Int) (p:Nat),j=pos->c=(Utf8.decode s pos).1->p=pos+(Utf8.decode s pos).2->ad P w0 rd n Q (.aN dr l K) (bC d α (.aG [.v (.bool true),.v (.int .i64 j),.v (.int .i32 c)])) (S.set k (some (.si s p))))
  (k2:s.size<=pos->ad P w0 rd n Q (.aN dr l K) (bC d α (.aG [.v (.bool false)])) S):ad P w0 rd n Q (.aN dr (⟨d,g,.sE x⟩::l) K) α S:=by
 rcases Nat.lt_or_ge pos s.size with h|h
 ·exact ad.op (i:=⟨d,g,.sE x⟩) hw (af.MI h1 hk h) (k1 h _ _ _ rfl rfl rfl)
 ·exact ad.op (i:=⟨d,g,.sE x⟩) hw (af.X9 h1 hk h) (k2 h)
theorem ad.gen {i:QI}{S':ae}{T:Type}(F:T->AV) {p:T}(hw:bm α.tm i.g=some true) (h:af P w0 dr i.q α S (F p) S') (k:∀ p',p'=p->ad P w0 rd n Q (.aN dr l K) (bC i.d α (F p')) S'):ad P w0 rd n Q (.aN dr (i::l) K) α S:=ad.op hw h (k p rfl)
def Wk (a b:AV):Prop:=∀ (g:Gh) (w:World) (x:Value),aF g w a x->aF g w b x
def HC:List AV->List AV->Prop
 |[],[]=>True
 |a::l,b::m=>Wk a b/\HC l m
 |_,_=>False
theorem Wk.refl (a:AV):Wk a a:=fun _ _ _ h=>h
theorem HC.len:∀ {l m:List AV},HC l m->l.length=m.length
 |[],[],_=>rfl
 |_::_,_::_,h=>by simp[h.2.len]
 |[],_::_,h=>h.elim
 |_::_,[],h=>h.elim
theorem HC.at:∀ {l m:List AV},HC l m->∀ (i:Nat) (b:AV),m[i]?=some b->∃ a,l[i]?=some a/\Wk a b
 |[],[],_,i,b,h=>by grind
 |a::l,b::m,hw,i,c,h=>by
  cases i with
  |zero=>simp at h;subst h;exact⟨a,rfl,hw.1⟩
  |succ i=>simp at h;obtain⟨d,h1,h2⟩:=hw.2.at i c h;exact⟨d,by grind,h2⟩
 |[],_::_,h,_,_,_=>h.elim
 |_::_,[],h,_,_,_=>h.elim
theorem Wk.sl {ex:Bool}{rows:List (List AV)}:Wk (.sl ex rows) (.sl false rows):=fun g w x hr=>by
 cases hr with
 |nil hc=>exact .nil (fun h=>by grind)
 |sl hn hc hle hl h hr=>exact .sl hn (fun h=>by grind) hle hl h hr
theorem aC.wk {f:FuncId}{args eF:List AV}{S':ae}(h:aC P w0 f args S r S') (hw:HC eF args):aC P w0 f eF S r S':=by
 refine⟨h.1,fun F m A g args' w hF hS hA=>h.2 F m A g args' w hF hS ⟨hA.1.trans hw.len,fun i a x ha hx=>?_⟩⟩;obtain⟨b,h1,h2⟩:=hw.at i a ha;exact h2 _ _ _ (hA.2 i b x h1 hx)
theorem af.pd {f:QO}{aZ9:List QO}{g:FuncId}{args eF:List AV}(h:dW (f.ev α.tm) (aZ9.map (·.ev α.tm))=some (g,eF)) (hc:ah P w0 g args r) (hp:dK args) (hw:HC eF args):af P w0 dr (.call f aZ9) α S r S:=af.call h ((hc.BX hp S).wk hw) fun _=>rfl
variable {ρ:Hd}{T:Type}{f:T->List AV}{acc:List T}{x:T}
theorem AF {B:Nat}{ex:Bool}:dz B (.sl ex []):=.sl fun r hr=>by grind
theorem eO {B sz fz:Nat}{ex:Bool}(h:∀ x ∈ acc,∀ a ∈ f x,Pure a):fR B (.arr sz (ρ.h (List.map f) acc) fz ex):=by
 rw[ρ.eq];intro row hr a ha;obtain⟨x,hx,rfl⟩:=List.mem_map.1 hr;exact (h x hx a ha).aV
end
def Gh.pre (g:Gh) (ι:Nat->Nat) (M:Nat):Gh:=⟨fun j=>g.ob (ι j),fun j=>g.cp (ι j),fun j=>j < M/\g.al (ι j),g.fz,g.fo⟩
def Rn (ι:Nat->Nat) (M:Nat) (a b:AV):Prop:=∀ (g:Gh) (w:World) (x:Value),aF g w a x->aF (g.pre ι M) w b x
def kP (ι:Nat->Nat) (M:Nat) (bY o:Ob):Prop:=(∀ (g:Gh) (w:World) (b cp:Nat),dJ g w b cp bY->dJ (g.pre ι M) w b cp o)/\∀ J,o=.fo J->bY=.fo J
structure Bk (ι:Nat->Nat) (gc g:Gh):Prop where
 al:∀ j,gc.al j->g.al (ι j)
 ob:∀ j,gc.al j->g.ob (ι j)=gc.ob j
 cp:∀ j,gc.al j->g.cp (ι j)=gc.cp j
 fz:g.fz=gc.fz
def Rb (ι:Nat->Nat) (b a:AV):Prop:=∀ (gc g:Gh) (w:World) (x:Value),Bk ι gc g->aF gc w b x->aF g w a x
def lK (ι:Nat->Nat) (o eS:Ob):Prop:=(∀ (gc g:Gh) (w:World) (b cp:Nat),Bk ι gc g->(∀ J,o=.fo J->g.fo=gc.fo)->dJ gc w b cp o->dJ g w b cp eS)/\∀ J,eS=.fo J->o=.fo J
def cT (ι:Nat->Nat) (M T:Nat) (j:Nat):Nat:=match Nat.blt j M with|true=>ι j|false=>T+j
theorem ny {ι:Nat->Nat}{M T j:Nat}(h:j < M):cT ι M T j=ι j:=by
 have:Nat.blt j M=true:=Nat.ble_eq_true_of_le h;simp only[cT,this]
theorem sT {ι:Nat->Nat}{M T j:Nat}(h:M<=j):cT ι M T j=T+j:=by
 have:Nat.blt j M=false:=by
  cases e:Nat.blt j M with
  |false=>rfl
  |true=>exact absurd (Nat.le_of_ble_eq_true e) (by omega)
 simp only[cT,this]
structure pe (ι:Nat->Nat) (S S' T T':ae):Prop where
 inj:∀ i j,i < S.nx->j < S.nx->ι i=ι j->i=j
 lt:∀ j,j < S.nx->ι j < T.nx
 hS:∀ j o,S.get j=some o->∃ bY,T.get (ι j)=some bY/\kP ι S.nx bY o
 hT:∀ k eS,T'.get k=some eS->(∃ j o,cT ι S.nx T.nx j=k/\S'.get j=some o/\lK (cT ι S.nx T.nx) o eS)\/(k < T.nx/\(∀ j,j < S.nx->ι j ≠ k)/\T.get k=some eS)
 nx:T'.nx=T.nx+S'.nx\/(S'.nx<=S.nx/\T'.nx=T.nx)
structure Fits (ι:Nat->Nat) (S S' T T':ae):Prop where
 inj:∀ i j,i < S.nx->j < S.nx->ι i=ι j->i=j
 lt:∀ j,j < S.nx->ι j < T.nx
 hS:∀ j o,S.get j=some o->∃ bY,T.get (ι j)=some bY/\kP ι S.nx bY o
 hT:∀ k eS,T'.get k=some eS->(∃ j o,cT ι S.nx T.nx j=k/\S'.get j=some o/\lK (cT ι S.nx T.nx) o eS)\/(k < T.nx/\(∀ j,j < S.nx->ι j ≠ k)/\T.get k=some eS)
 nx:T'.nx=T.nx+S'.nx\/(S'.nx<=S.nx/\T'.nx=T.nx)
 fo:(∀ k J,T.get k=some (.fo J)->∃ j,j < S.nx/\ι j=k)\/(∀ j J,S'.get j ≠ some (.fo J))
section
variable {w0:World}{A:Nat->Prop}{g:Gh}{S S' T T':ae}{w:World}{ι:Nat->Nat}
def Eu (gc:Gh) (S:ae) (w:World) (b:Nat):Prop:=w.heap.size<=b\/∃ j o,S.get j=some o/\gc.al j/\(b=gc.ob j\/∃ J,o=.fo J/\gc.fo (gc.ob j) b)
theorem Fits.y (h:Fits ι S S' T T'):pe ι S S' T T':=⟨h.inj,h.lt,h.hS,h.hT,h.nx⟩
theorem pe.sub (hF:pe ι S S' T T') (hT:St w0 A g T w) {b:Nat}(h:Eu (g.pre ι S.nx) S w b):A b:=by
 rcases h with h|⟨j,o,h1,h2,h3⟩
 ·exact hT.up b h
 ·obtain⟨bY,h4,h5,h6⟩:=hF.hS j o h1;rcases h3 with rfl|⟨J,rfl,h7⟩
  ·exact (hT.bT _ bY h4 h2.2).1
  ·exact (hT.iE _ J (by grind) h2.2 b h7).1
theorem pe.inner (hF:pe ι S S' T T') (hT:St w0 A g T w):St w0 (Eu (g.pre ι S.nx) S w) (g.pre ι S.nx) S w :=
 ⟨hT.base,fun b hb=>.inl hb,fun b hb=>hT.lo b (hF.sub hT hb),fun k hk=>hk.1,fun k o hk ha=>by
   obtain⟨bY,h4,h5,h6⟩:=hF.hS k o hk;obtain⟨h7,h8,h9⟩:=hT.bT _ bY h4 ha.2;exact⟨.inr ⟨k,o,hk,ha,.inl rfl⟩,h8,h5 _ _ _ _ h9⟩,
  fun j k o p hj hk aj ak e=>by
   obtain⟨bY,h4,_⟩:=hF.hS j o hj;obtain⟨wK,h5,_⟩:=hF.hS k p hk;exact hF.inj j k aj.1 ak.1 (hT.inj _ _ bY wK h4 h5 aj.2 ak.2 e),
  hT.cK,hT.oT,fun k J hk ha c hc=>by
   obtain⟨bY,h4,_,h6⟩:=hF.hS k _ hk;exact⟨.inr ⟨k,_,hk,ha,.inr ⟨J,rfl,hc⟩⟩,(hT.iE _ J (by grind) ha.2 c hc).2⟩,
  fun k J j o hk ha hj aj bU hc=>by
   obtain⟨bY,h4,_,h6⟩:=hF.hS k _ hk;obtain⟨wK,h5,_⟩:=hF.hS j o hj;exact hT.kL _ J _ wK (by grind) ha.2 h5 aj.2 (fun e=>bU (hF.inj j k aj.1 ha.1 e)) hc,
  fun j k J J' hj hk aj ak=>by
   obtain⟨bY,h4,_,h6⟩:=hF.hS j _ hj;obtain⟨wK,h5,_,h7⟩:=hF.hS k _ hk;exact hF.inj j k aj.1 ak.1 (hT.mQ _ _ J J' (by grind) (by grind) aj.2 ak.2)⟩
theorem pe.X_ (hF:pe ι S S' T T') {i j:Nat}(h:cT ι S.nx T.nx i=cT ι S.nx T.nx j):i=j:=by
 rcases Nat.lt_or_ge i S.nx with h1|h1<;>rcases Nat.lt_or_ge j S.nx with h2|h2
 ·rw[ny h1,ny h2] at h;exact hF.inj i j h1 h2 h
 ·rw[ny h1,sT h2] at h;have:=hF.lt i h1;omega
 ·rw[sT h1,ny h2] at h;have:=hF.lt j h2;omega
 ·grind[sT]
theorem pe.outer (hF:pe ι S S' T T') (hT:St w0 A g T w) {gc:Gh}{w':World}(fk:St w0 (Eu (g.pre ι S.nx) S w) gc S' w') (hE:Ext (Eu (g.pre ι S.nx) S w) (g.pre ι S.nx) w gc w')
  (Ht:(∀ k J,T.get k=some (.fo J)->g.al k->∃ j,j < S.nx/\ι j=k)\/(∀ j J,S'.get j ≠ some (.fo J))):∃ g',St w0 A g' T' w'/\Ext A g w g' w'/\Bk (cT ι S.nx T.nx) gc g':=by
 classical
 obtain⟨X,hX1,hX2⟩:∃ X:Nat->Nat->Prop,(∀ j J,S'.get j=some (.fo J)->X=gc.fo)/\(∀ k J,T.get k=some (.fo J)->g.al k->(∀ j,j < S.nx->ι j ≠ k)->X=g.fo):=by
  rcases Ht with h|h
  ·exact⟨gc.fo,fun _ _ _=>rfl,fun k J hk ha hn=>by grind⟩
  ·exact⟨g.fo,fun j J hj=>absurd hj (h j J),fun _ _ _ _ _=>rfl⟩
 let o:=cT ι S.nx T.nx
 let g':Gh:=⟨fun k=>if h:∃ j,o j=k then gc.ob h.choose else g.ob k,fun k=>if h:∃ j,o j=k then gc.cp h.choose else g.cp k,fun k=>if h:∃ j,o j=k then gc.al h.choose else g.al k,gc.fz,X⟩
 have ch:∀ j (h:∃ i,o i=o j),h.choose=j:=fun j h=>hF.X_ h.choose_spec;have e1:∀ j,g'.ob (o j)=gc.ob j:=fun j=>by
  have h:∃ i,o i=o j:=⟨j,rfl⟩;show (if h:∃ i,o i=o j then gc.ob h.choose else _)=_;rw[dif_pos h,ch j h]
 have e2:∀ j,g'.cp (o j)=gc.cp j:=fun j=>by
  have h:∃ i,o i=o j:=⟨j,rfl⟩;show (if h:∃ i,o i=o j then gc.cp h.choose else _)=_;rw[dif_pos h,ch j h]
 have e3:∀ j,g'.al (o j)=gc.al j:=fun j=>by
  have h:∃ i,o i=o j:=⟨j,rfl⟩;show (if h:∃ i,o i=o j then gc.al h.choose else _)=_;rw[dif_pos h,ch j h]
 have f1:∀ k,(∀ j,o j ≠ k)->g'.ob k=g.ob k:=fun k hk=>dif_neg fun ⟨j,hj⟩=>hk j hj;have f2:∀ k,(∀ j,o j ≠ k)->g'.cp k=g.cp k:=fun k hk=>dif_neg fun ⟨j,hj⟩=>hk j hj;have f3:∀ k,(∀ j,o j ≠ k)->g'.al k=g.al k:=fun k hk=>dif_neg fun ⟨j,hj⟩=>hk j hj;have ao:∀ k,g.al k->(∃ j,j < S.nx/\o j=k/\ι j=k/\(g.pre ι S.nx).al j)\/∀ j,o j ≠ k:=by
  intro k hk;by_cases h:∃ j,o j=k
  ·obtain⟨j,hj⟩:=h;rcases Nat.lt_or_ge j S.nx with h1|h1
   ·have h2:ι j=k:=by grind[ny]
    exact .inl ⟨j,h1,hj,h2,h1,by grind⟩
   ·have h2:o j=T.nx+j:=sT h1;have:=hT.al k hk;omega
  ·grind
 have free:∀ k,k < T.nx->(∀ j,j < S.nx->ι j ≠ k)->∀ j,o j ≠ k:=by grind[ny,sT]
 have out:∀ k p,T.get k=some p->g.al k->(∀ j,j < S.nx->ι j ≠ k)->¬ Eu (g.pre ι S.nx) S w (g.ob k):=by
  rintro k p hk ha hn (h|⟨j,q,h1,h2,h3⟩)
  ·exact absurd (hT.bT k p hk ha).2.1 (by omega)
  ·obtain⟨bY,h4,_,h6⟩:=hF.hS j q h1;rcases h3 with h3|⟨J,rfl,h7⟩
   ·exact hn j h2.1 (hT.inj k (ι j) p bY hk h4 ha h2.2 h3).symm
   ·exact hT.kL (ι j) J k p (by grind) h2.2 hk ha (fun e=>hn j h2.1 e.symm) h7
 have hL:Later g w g' w':=by
  refine⟨fun k hk=>?_,fun k hk=>?_,fun k hk=>?_,hE.fz,hE.cell⟩
  ·rcases ao k hk with ⟨j,h1,h2,h3,h4⟩|h
   ·rw[<-h2,e3];exact hE.al j h4
   ·grind
  ·rcases ao k hk with ⟨j,h1,h2,h3,h4⟩|h
   ·rw[<-h2,e1,hE.ob j h4,h2,<-h3];rfl
   ·grind
  ·rcases ao k hk with ⟨j,h1,h2,h3,h4⟩|h
   ·rw[<-h2,e2,hE.cp j h4,h2,<-h3];rfl
   ·grind
 have hEx:Ext A g w g' w':={ hL with size:=hE.size,aU:=fun b hb hA=>hE.aU b hb fun h=>hA (hF.sub hT h),h_:=fun b q h=>(hE.h_ b q h).imp id (hF.sub hT) };have hB:Bk o gc g':=⟨fun j hj=>by grind,fun j _=>e1 j,fun j _=>e2 j,rfl⟩;refine⟨g',⟨fk.base,fun b hb=>hT.up b (Nat.le_trans hE.size hb),hT.lo,fun k hk=>?_,fun k eS hk ha=>?_,fun k l eS yE hk hl ak xX e=>?_,fk.cK,fk.oT,fun k J hk ha c hc=>?_,fun k J l yE hk ha hl xX bU hc=>?_,fun k l J J' hk hl ak xX=>?_⟩,hEx,hB⟩
 ·by_cases h:∃ j,o j=k
  ·obtain⟨j,rfl⟩:=h;rw[e3] at hk;have h1:=fk.al j hk;rcases Nat.lt_or_ge j S.nx with h2|h2
   ·rw[show o j=ι j from ny h2];have:=hF.lt j h2;rcases hF.nx with e|⟨_,e⟩<;>omega
   ·rw[show o j=T.nx+j from sT h2];rcases hF.nx with e|⟨_,e⟩<;>omega
  ·rw[f3 k fun j hj=>h ⟨j,hj⟩] at hk;have:=hT.al k hk;rcases hF.nx with e|⟨_,e⟩<;>omega
 ·rcases hF.hT k eS hk with ⟨j,p,rfl,h1,h2,h3⟩|⟨h1,h2,h3⟩
  ·have cM:gc.al j:=by grind
   obtain⟨h4,h5,h6⟩:=fk.bT j p h1 cM;rw[show g'.ob (cT ι S.nx T.nx j)=gc.ob j from e1 j,show g'.cp (cT ι S.nx T.nx j)=gc.cp j from e2 j];exact⟨hF.sub hT h4,h5,h2 gc g' w' _ _ hB (fun J hJ=>hX1 j J (by grind)) h6⟩
  ·have hn:=free k h1 h2;rw[f3 k hn] at ha;rw[f1 k hn,f2 k hn];obtain⟨h4,h5,h6⟩:=hT.bT k eS h3 ha;have gT:=out k eS h3 ha h2;refine⟨h4,Nat.lt_of_lt_of_le h5 hE.size,h6.later hL (hE.aU _ h5 gT) (fun q hq=>(hE.h_ _ q hq).resolve_right gT) fun J hJ=>?_⟩;subst hJ;have HD:∀ c,g.fo (g.ob k) c->¬ Eu (g.pre ι S.nx) S w c:=by
    rintro c hc (h|⟨j,q,q1,q2,q3⟩)
    ·exact absurd (hT.iE k J h3 ha c hc).2 (by omega)
    ·obtain⟨bY,q4,_,q6⟩:=hF.hS j q q1;rcases q3 with rfl|⟨J',rfl,q7⟩
     ·exact hT.kL k J _ bY h3 ha q4 q2.2 (h2 j q2.1) hc
     ·exact h2 j q2.1 (hT.mQ _ _ J' J (by grind) h3 q2.2 ha)
   refine⟨by grind,hE.size,fun c hc=>hE.aU c (hT.iE k J h3 ha c hc).2 (HD c hc),fun c q hc hq=>(hE.h_ c q hq).resolve_right (HD c hc)⟩
 ·rcases hF.hT k eS hk with ⟨i,p,rfl,h1,h2⟩|⟨h1,h2,h3⟩<;>rcases hF.hT l yE hl with ⟨j,q,rfl,k1,k2⟩|⟨k1,k2,k3⟩
  ·have e':gc.ob i=gc.ob j:=by grind
   rw[fk.inj i j p q h1 k1 (by grind) (by grind) e']
  ·have hn:=free l k1 k2;rw[f3 l hn] at xX;rw[f1 l hn,show g'.ob (cT ι S.nx T.nx i)=gc.ob i from e1 i] at e;exact absurd (e ▸ (fk.bT i p h1 (by grind)).1) (out l yE k3 xX k2)
  ·have hn:=free k h1 h2;rw[f3 k hn] at ak;rw[f1 k hn,show g'.ob (cT ι S.nx T.nx j)=gc.ob j from e1 j] at e;exact absurd (e ▸ (fk.bT j q k1 (by grind)).1) (out k eS h3 ak h2)
  ·have hn:=free k h1 h2;have hm:=free l k1 k2;rw[f3 k hn] at ak;rw[f3 l hm] at xX;rw[f1 k hn,f1 l hm] at e;exact hT.inj k l eS yE h3 k3 ak xX e
 ·rcases hF.hT k _ hk with ⟨j,p,rfl,h1,h2,h3⟩|⟨h1,h2,h3⟩
  ·have hp:S'.get j=some (.fo J):=by grind
   have nH:gc.fo (gc.ob j) c:=by grind
   obtain⟨h4,h5⟩:=fk.iE j J hp (by grind) c nH;exact⟨hF.sub hT h4,h5⟩
  ·have hn:=free k h1 h2;rw[f3 k hn] at ha;have nH:g.fo (g.ob k) c:=by grind
   obtain⟨h4,h5⟩:=hT.iE k J h3 ha c nH;exact⟨h4,Nat.lt_of_lt_of_le h5 hE.size⟩
 ·rcases hF.hT k _ hk with ⟨i,p,rfl,h1,h2,h3⟩|⟨h1,h2,h3⟩
  ·have hp:S'.get i=some (.fo J):=by grind
   have cM:gc.al i:=by grind
   rcases hF.hT l yE hl with ⟨j,q,rfl,k1,k2⟩|⟨k1,k2,k3⟩
   ·have nH:gc.fo (gc.ob i) (gc.ob j):=by grind
    exact fk.kL i J j q hp cM k1 (by grind) (fun e=>bU (by rw[e])) nH
   ·have hn:=free l k1 k2;rw[f3 l hn] at xX;have nH:gc.fo (gc.ob i) (g.ob l):=by grind
    exact out l yE k3 xX k2 (fk.iE i J hp cM _ nH).1
  ·have hn:=free k h1 h2;rw[f3 k hn] at ha;have hX:=hX2 k J h3 ha h2;rcases hF.hT l yE hl with ⟨j,q,rfl,k1,k2⟩|⟨k1,k2,k3⟩
   ·have nH:g.fo (g.ob k) (gc.ob j):=by grind
    rcases (fk.bT j q k1 (by grind)).1 with h|⟨i,q,q1,q2,q3⟩
    ·exact absurd (hT.iE k J h3 ha _ nH).2 (by omega)
    ·obtain⟨bY,q4,_,q6⟩:=hF.hS i q q1;rcases q3 with q3|⟨J',rfl,q7⟩
     ·rw[q3] at nH;exact hT.kL k J _ bY h3 ha q4 q2.2 (h2 i q2.1) nH
     ·exact h2 i q2.1 (hT.mQ _ _ J' J (by grind) h3 q2.2 ha)
   ·have hm:=free l k1 k2;rw[f3 l hm] at xX;have nH:g.fo (g.ob k) (g.ob l):=by grind
    exact hT.kL k J l yE h3 ha k3 xX bU nH
 ·rcases hF.hT k _ hk with ⟨i,p,rfl,h1,h2,h3⟩|⟨h1,h2,h3⟩<;>rcases hF.hT l _ hl with ⟨j,q,rfl,k1,k2,k3⟩|⟨k1,k2,k3⟩
  ·rw[fk.mQ i j J J' (by grind) (by grind) (by grind) (by grind)]
  ·grind
  ·grind
  ·rw[f3 k (free k h1 h2)] at ak;rw[f3 l (free l k1 k2)] at xX;exact hT.mQ k l J J' h3 k3 ak xX
end
section
variable {P:Program}{w0:World}{S S' T T':ae}{ι:Nat->Nat}{f:FuncId}{args args₀:List AV}{r r₀:AV}
theorem aC.frame (h:aC P w0 f args S r S') (hF:Fits ι S S' T T') (hl:args₀.length=args.length) (ha:∀ (i:Nat) (a b:AV),args₀[i]?=some a->args[i]?=some b->Rn ι S.nx a b) (hr:Rb (cT ι S.nx T.nx) r r₀):aC P w0 f args₀ T r₀ T':=by
 refine⟨h.1,fun F m A g args' w hW hT hA=>(h.2 F m _ _ args' w hW (hF.y.inner hT) ⟨hA.1.trans hl,fun i b x hb hx=>?_⟩).mono ?_⟩
 ·have hi:i < args₀.length:=by grind
  have h0:=List.getElem?_eq_getElem hi;exact ha i _ b h0 hb _ _ _ (hA.2 i _ x h0 hx)
 ·rintro e w' ⟨v,gc,rfl,h1,h2,h3⟩;obtain⟨g',k1,k2,k3⟩:=hF.y.outer hT h2 h3 (hF.fo.imp (fun h k J hk _=>h k J hk) id);exact⟨v,g',rfl,hr gc g' w' v k3 h1,k1,k2⟩
theorem aC.Ya (h:aC P w0 f args S r S') (hF:pe ι S S' T T') (hl:args₀.length=args.length) (ha:∀ (i:Nat) (a b:AV),args₀[i]?=some a->args[i]?=some b->Rn ι S.nx a b) (hr:Rb (cT ι S.nx T.nx) r r₀)
  (hy:∀ (A:Nat->Prop) (g:Gh) (w:World) (args':Array Value),St w0 A g T w->jc g w args₀ args'->∀ k J,T.get k=some (.fo J)->g.al k->∃ j,j < S.nx/\ι j=k):aC P w0 f args₀ T r₀ T':=by
 refine⟨h.1,fun F m A g args' w hW hT hA=>(h.2 F m _ _ args' w hW (hF.inner hT) ⟨hA.1.trans hl,fun i b x hb hx=>?_⟩).mono ?_⟩
 ·have hi:i < args₀.length:=by grind
  have h0:=List.getElem?_eq_getElem hi;exact ha i _ b h0 hb _ _ _ (hA.2 i _ x h0 hx)
 ·rintro e w' ⟨v,gc,rfl,h1,h2,h3⟩;obtain⟨g',k1,k2,k3⟩:=hF.outer hT h2 h3 (.inl (hy A g w args' hT hA));exact⟨v,g',rfl,hr gc g' w' v k3 h1,k1,k2⟩
end
end Go.Proofs.YtbpabjmnhggajaaGreat
