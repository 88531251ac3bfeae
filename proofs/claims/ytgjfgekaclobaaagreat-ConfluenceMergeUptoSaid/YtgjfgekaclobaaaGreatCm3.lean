import Derived.Laws.AppendOwn
import Derived.Laws.CopyRow
import Derived.Room.Entries
import Derived.Test.YtgjfgekaclobaaaGreatCm2
namespace Go.Proofs.YtgjfgekaclobaaaGreat
set_option linter.unusedVariables false
set_option linter.unusedSimpArgs false
open Go.RowKit
theorem dV (b o j:Nat):(⟨b,o,none⟩:Addr).add j=⟨b,o+j,none⟩:=by unfold Addr.add;split<;>simp_all
section
variable {P:Program}{g:Gh}{w:World}{S:aa}{t:TypeId}
theorem gz {n:Nat}(h:bZ P t=some n):∃ i,P.info? t=some i/\i.size=n:=by
 unfold bZ at h
 obtain⟨i,hi,e⟩:=Option.map_eq_some_iff.1 h
 exact⟨i,hi,e⟩
theorem bF {n:Nat}(h:bZ P t=some n):(sizeOf t).run P w=.ok n w:=by
 obtain⟨i,hi,rfl⟩:=gz h
 simp [sizeOf,typeInfo,hi]
theorem iX {z:Value}(h:b8 P t=some z):(zeroValue t).run P w=.ok z w:=by
 unfold b8 at h
 obtain⟨i,hi,e⟩:=Option.bind_eq_some_iff.1 h
 simp [zeroValue,typeInfo,hi,e]
theorem rR {b:Bool}(h:EZ P t=some b):(isAgg t).run P w=.ok b w:=by
 unfold EZ at h
 cases hd:P.underlying t with
 |none=>rw [hd] at h;cases h
 |some d =>
  rw [hd] at h
  simp only [isAgg,Sem.run_bind,run_underlying hd,Result.andThen_ok]
  cases d<;>simp_all
def Cells (g:Gh) (w:World) (b o:Nat) (row:List AV):Prop:=∀ (j:Nat) (a:AV),row[j]?=some a->∃ x,w.cell? ⟨b,o+j,none⟩=some x/\aA g w a x
theorem Cells.list {b:Nat}:∀ {row:List AV}{o:Nat},Cells g w b o row->∃ cs:List Value,cs.length=row.length/\(∀ j x,cs[j]?=some x->w.cell? ⟨b,o+j,none⟩=some x)/\∀ (j:Nat) (a:AV) (x:Value),row[j]?=some a->cs[j]?=some x->aA g w a x
 |[],o,h=>⟨[],rfl,fun j x hx=>by simp at hx,fun j a x ha=>by simp at ha⟩
 |a::row,o,h=>by
  obtain⟨x,hx,hr⟩:=h 0 a rfl
  obtain⟨cs,hl,h1,h2⟩:=Cells.list (row:=row) (o:=o+1) (fun j a ha=>by
   obtain⟨y,hy,xM⟩:=h (j+1) a (by simpa using ha)
   exact⟨y,by rw [<-hy];congr 2;omega,xM⟩)
  refine⟨x::cs,by simp [hl],fun j y hy=>?_,fun j a' y ha hy=>?_⟩
  ·cases j with
   |zero=>simp at hy;subst hy;exact hx
   |succ j=>simp at hy;rw [<-h1 j y hy];congr 2;omega
  ·cases j with
   |zero=>simp at ha hy;subst ha hy;exact hr
   |succ j=>simp at ha hy;exact h2 j a' y ha hy
theorem Cells.drop {b o:Nat}{row:List AV}(h:Cells g w b o row) (j:Nat):Cells g w b (o+j) (row.drop j):=fun i a ha=>by
 rw [List.getElem?_drop] at ha
 obtain⟨x,hx,hr⟩:=h (j+i) a ha
 exact⟨x,by rw [<-hx];congr 2;omega,hr⟩
theorem Cells.take {b o:Nat}{row:List AV}(h:Cells g w b o row) (n:Nat):Cells g w b o (row.take n):=fun i a ha=>by
 rw [List.getElem?_take] at ha
 split at ha
 ·exact h i a ha
 ·cases ha
theorem Ei (row:List AV) (j n:Nat):E0 row j n=(row.drop j).take n:=by
 unfold E0
 split
 ·rename_i h
  have:=Nat.eq_of_beq_eq_true h
  subst this
  simp
 ·rfl
theorem vB {row:List AV}{j b o:Nat}{r:AV}(h:kr P t row j=some r) (hc:Cells g w b o row):∃ x,(loadVar t ⟨b,o+j,none⟩).run P w=.ok x w/\aA g w r x:=by
 unfold kr at h
 split at h
 ·rename_i n ha hs
  split at h
  ·rename_i hle
   have hle:=Nat.le_of_ble_eq_true hle
   obtain rfl:=Option.some.inj h
   rw [Ei]
   obtain⟨cs,hl,h1,h2⟩:=((hc.drop j).take n).list
   have hn:cs.length=n:=by rw [hl,List.length_take,List.length_drop];omega
   refine⟨.agg cs.toArray,?_,.agg (by simp [hl]) (fun i a x ha hx=>h2 i a x ha (by simpa using hx))⟩
   have:=run_loadCells_list (P:=P) (w:=w) ⟨b,o+j,none⟩ cs (fun i v hv=>by rw [dV];exact h1 i v hv)
   simp only [loadVar,Sem.run_bind,rR ha,Result.andThen_ok,if_true,bF hs]
   rw [<-hn,this]
   rfl
  ·cases h
 ·rename_i ha
  obtain⟨x,hx,hr⟩:=hc j r h
  refine⟨x,?_,hr⟩
  simp only [loadVar,Sem.run_bind,rR ha,Result.andThen_ok,if_false,Bool.false_eq_true,run_load,hx]
 ·cases h
theorem JB {cp b sz:Nat}{rows:List (List AV)}{fz:Nat}{ex:Bool}(h:cH g w b cp (.arr sz rows fz ex)) {i:Nat}{row:List AV}(hr:rows[i]?=some row):Cells g w b (i*sz) row:=by
 obtain⟨cs,ty,h1,h2,h3,h4,h5,h6,h7⟩:=h
 intro j a ha
 obtain⟨x,hx,cK⟩:=(h5 i row hr).2 j a ha
 exact⟨x,by rw [cell_of_row _ _ _ cs ty (0,0) h1];exact hx,cK⟩
theorem wJ {cs:List AV}{v:Value}(h:aA g w (.ip cs) v):∃ b o,v=.pointer (some ⟨b,o,none⟩)/\Cells g w b o cs:=by
 cases h with
 |ip h hr=>exact⟨_,_,rfl,fun j a ha=>⟨_,(h j a ha).2,hr j a ha⟩⟩
theorem vC {w0:World}{A:Nat->Prop}{a r:AV}{v:Value}(hS:St w0 A g S w) (h:pc P S t a=some r) (hv:aA g w a v):∃ b o x,v=.pointer (some ⟨b,o,none⟩)/\(loadVar t ⟨b,o,none⟩).run P w=.ok x w/\aA g w r x:=by
 unfold pc at h
 split at h
 ·rename_i row
  obtain⟨b,o,rfl,hc⟩:=wJ hv
  obtain⟨x,hx,hr⟩:=vB h hc
  exact⟨b,o,x,rfl,by simpa using hx,hr⟩
 ·rename_i k sz i j
  split at h
  ·rename_i sz' rows fz ex hk
   split at h
   ·rename_i aZ
    have aZ:=Nat.eq_of_beq_eq_true aZ
    subst aZ
    split at h
    ·rename_i row eU
     cases hv with
     |pt aB =>
      obtain⟨x,hx,hr⟩:=vB h (JB (hS.bj k _ hk aB).2.2 eU)
      exact⟨_,_,x,rfl,hx,hr⟩
    ·cases h
   ·cases h
  ·cases h
 ·cases h
theorem ot {a:AV}{x:Value}(h:bl a=true) (hr:aA g w a x):x.oneCell'=true:=by
 cases hr<;>simp_all [bl,Value.oneCell']
theorem mo {a:AV}{x:Value}(h:(aG a).all bl=true) (hr:aA g w a x):x.cells.size=(aG a).length/\(∀ (i:Nat) (b:AV) (y:Value),(aG a)[i]?=some b->x.cells[i]?=some y->aA g w b y)/\∀ y ∈ x.cells.toList,y.oneCell'=true:=by
 have one:aG a=[a]->x.cells.size=(aG a).length/\(∀ (i:Nat) (b:AV) (y:Value),(aG a)[i]?=some b->x.cells[i]?=some y->aA g w b y):=by
  intro e
  rw [e] at h ⊢
  have h1:x.oneCell'=true:=ot (by simpa using h) hr
  have e1:x.cells=#[x]:=by cases x<;>simp_all [Value.cells,Value.oneCell']
  rw [e1]
  refine⟨rfl,fun i b y h1 h2=>?_⟩
  cases i with
  |zero=>simp at h1 h2;subst h1 h2;exact hr
  |succ i=>simp at h1
 have key:x.cells.size=(aG a).length/\(∀ (i:Nat) (b:AV) (y:Value),(aG a)[i]?=some b->x.cells[i]?=some y->aA g w b y):=by
  cases a with
  |agg l=>cases hr with|agg hs h'=>exact⟨hs,h'⟩
  |_=>exact one rfl
 refine⟨key.1,key.2,fun y hy=>?_⟩
 obtain⟨i,hi,rfl⟩:=List.getElem_of_mem hy
 have eL:i < (aG a).length:=by rw [<-key.1];simpa using hi
 have h1:(aG a)[i]?=some (aG a)[i]:=List.getElem?_eq_getElem eL
 have h2:x.cells[i]?=some x.cells.toList[i]:=by rw [Array.getElem_toList,Array.getElem?_eq_getElem]
 exact ot (List.all_eq_true.1 h _ (List.getElem_mem eL)) (key.2 i _ _ h1 h2)
theorem yL (row:List AV) (j:Nat) (cs:List AV):kO row j cs=row.take j++cs++row.drop (j+cs.length):=by
 unfold kO
 split
 ·rename_i h
  have:=Nat.eq_of_beq_eq_true h
  simp [this]
 ·rfl
theorem vD {row:List AV}{j:Nat}{cs:List AV}(h:j+cs.length<=row.length):(kO row j cs).length=row.length:=by
 rw [yL]
 simp
 omega
theorem oB {α:Type}(row cs:List α) (j:Nat) (h:j+cs.length<=row.length) (q:Nat):(row.take j++cs++row.drop (j+cs.length))[q]?=if q < j then row[q]? else if q < j+cs.length then cs[q - j]? else row[q]?:=by
 by_cases h1:q < j
 ·rw [if_pos h1,List.append_assoc,List.getElem?_append_left (by simp;omega),List.getElem?_take,if_pos h1]
 ·rw [if_neg h1]
  by_cases h2:q < j+cs.length
  ·rw [if_pos h2,List.append_assoc,List.getElem?_append_right (by simp;omega),List.getElem?_append_left (by simp;omega)]
   congr 1
   simp
   omega
  ·rw [if_neg h2,List.getElem?_append_right (by simp;omega),List.getElem?_drop]
   congr 1
   simp
   omega
theorem tG {w0:World}{A:Nat->Prop}{a b:AV}{v x:Value}{S':aa}(hS:St w0 A g S w) (h:kV P S t b a=some S') (hv:aA g w a v) (hx:aA g w b x) :
  ∃ c o w',v=.pointer (some ⟨c,o,none⟩)/\(storeVar t ⟨c,o,none⟩ x).run P w=.ok () w'/\S'.nx=S.nx/\Ext A g w g w'/\St w0 A g S' w':=by
 unfold kV at h
 split at h
 ·rename_i k sz i j
  split at h
  ·rename_i sz' rows ex hk
   split at h
   ·rename_i hc
    simp only [Bool.and_eq_true] at hc
    obtain⟨⟨aZ,jQ⟩,hn⟩:=hc
    have aZ:=Nat.eq_of_beq_eq_true aZ
    subst aZ
    split at hn
    ·rename_i n hs
     have hn:=Nat.eq_of_beq_eq_true hn
     split at h
     ·rename_i row eU
      split at h
      ·rename_i hle
       have hle:=Nat.le_of_ble_eq_true hle
       obtain rfl:=Option.some.inj h
       obtain⟨Fh,aau,aav⟩:=mo jQ hx
       cases hv with
       |pt aB =>
        obtain⟨k2,k3,k4⟩:=hS.bj k _ hk aB
        obtain⟨cs,ty,h1,h2,h3,h4,h5,h6,h7⟩:=k4
        have Ej:i < rows.length:=(List.getElem?_eq_some_iff.1 eU).1
        have eX:=(h5 i row eU).1
        have hmul:i*sz+sz<=rows.length*sz:=by
         have:=Nat.mul_le_mul_right sz (show i+1<=rows.length from Ej)
         rwa [Nat.add_mul,Nat.one_mul] at this
        have aeg:rows.length*sz<=g.cp k*sz:=Nat.mul_le_mul_right sz h3
        have dD:(i*sz+j)+0+x.cells.toList.length<=cs.size:=by rw [Array.length_toList,Fh];omega
        have bw:=run_storeCells_at P (g.ob k) (i*sz+j) ty x.cells.toList 0 cs w h1 dD aav
        simp only [Nat.add_zero] at bw
        obtain⟨cs',mV⟩:∃ cs',cs'=(cs.toList.take (i*sz+j)++x.cells.toList++cs.toList.drop (i*sz+j+x.cells.toList.length)).toArray:=⟨_,rfl⟩
        rw [<-mV] at bw
        have gA:∀ q,cs'[q]?=if q < i*sz+j then cs[q]? else if q < i*sz+j+(aG b).length then x.cells[q - (i*sz+j)]? else cs[q]?:=by
         intro q
         rw [mV,List.getElem?_toArray,oB _ _ _ (by simpa using dD)]
         simp only [Array.getElem?_toList,Array.length_toList,Fh]
        have hlen:cs'.size=cs.size:=by
         rw [mV]
         simp
         simp at dD
         omega
        obtain⟨hE,b_⟩:=hS.row hk aB h1 (cs':=cs') (ob:=.arr sz (rows.set i (kO row j (aG b))) 0 ex) (fun J=>⟨by simp,by simp⟩) (fun q hq=>absurd ((h7 q).1 hq) (by simp)) (fun hL=>by
         refine⟨cs',ty,setRow_heap w _ cs cs' ty (0,0) h1,hlen.trans h2,by simpa using h3,fun he=>by simpa using h4 he,fun i' aM fg=>?_,Nat.zero_le _,h7⟩
         by_cases e:i'=i
         ·subst e
          rw [List.getElem?_set_self Ej] at fg
          obtain rfl:=Option.some.inj fg
          refine⟨(vD hle).trans eX,fun j' a' bL=>?_⟩
          rw [yL,oB _ _ _ hle] at bL
          rw [gA]
          by_cases c1:j' < j
          ·rw [if_pos c1] at bL
           rw [if_pos (by omega)]
           obtain⟨y,hy,xM⟩:=(h5 _ row eU).2 j' a' bL
           exact⟨y,hy,xM.later hL⟩
          ·rw [if_neg c1] at bL
           rw [if_neg (by omega)]
           by_cases c2:j' < j+(aG b).length
           ·rw [if_pos c2] at bL
            rw [if_pos (by omega),show i'*sz+j' - (i'*sz+j)=j' - j by omega]
            have SF:j' - j < x.cells.size:=by rw [Fh];omega
            exact⟨x.cells[j' - j],Array.getElem?_eq_getElem SF,(aau _ _ _ bL (Array.getElem?_eq_getElem SF)).later hL⟩
           ·rw [if_neg c2] at bL
            rw [if_neg (by omega)]
            obtain⟨y,hy,xM⟩:=(h5 _ row eU).2 j' a' bL
            exact⟨y,hy,xM.later hL⟩
         ·rw [List.getElem?_set_ne (Ne.symm e)] at fg
          refine⟨(h5 i' aM fg).1,fun j' a' bL=>?_⟩
          obtain⟨y,hy,xM⟩:=(h5 i' aM fg).2 j' a' bL
          have eJ:j' < sz:=by rw [<-(h5 i' aM fg).1];exact (List.getElem?_eq_some_iff.1 bL).1
          refine⟨y,?_,xM.later hL⟩
          rw [gA]
          rcases Nat.lt_or_gt_of_ne e with c|c
          ·have:i'*sz+sz<=i*sz:=by
            have:=Nat.mul_le_mul_right sz (show i'+1<=i from c)
            rwa [Nat.add_mul,Nat.one_mul] at this
           rw [if_pos (by omega)]
           exact hy
          ·have:i*sz+sz<=i'*sz:=by
            have:=Nat.mul_le_mul_right sz (show i+1<=i' from c)
            rwa [Nat.add_mul,Nat.one_mul] at this
           rw [if_neg (by omega),if_neg (by omega)]
           exact hy)
        refine⟨_,_,_,rfl,?_,rfl,hE,b_⟩
        have e:x.cells.size=n:=Fh.trans hn.symm
        simp only [storeVar,Sem.run_bind,bF hs,Result.andThen_ok,e,ne_eq,not_true,if_false]
        exact bw
      ·cases h
     ·cases h
    ·cases hn
   ·cases h
  ·cases h
 ·cases h
end
inductive yM {α β:Type}(R:α->β->Prop):List α->List β->Prop where
 |nil:yM R [] []
 |cons {a:α}{b:β}{l:List α}{m:List β}(h:R a b) (t:yM R l m):yM R (a::l) (b::m)
section
variable {P:Program}{g:Gh}{w:World}{S:aa}
theorem tH (off:Nat):∀ (l:List Value) (k:Nat) (cs:Array Value),((l.zipIdx k).foldl (fun cs (p:Value × Nat)=>cs.setIfInBounds (off+p.2) p.1) cs).size=cs.size /\
  (off+k+l.length<=cs.size->∀ q,((l.zipIdx k).foldl (fun cs (p:Value × Nat)=>cs.setIfInBounds (off+p.2) p.1) cs)[q]?=if q < off+k then cs[q]? else if q < off+k+l.length then l[q - (off+k)]? else cs[q]?)
 |[],k,cs=>⟨rfl,fun _ q=>by simp only [List.length_nil,Nat.add_zero,List.zipIdx_nil,List.foldl_nil];split<;>first|rfl|(rename_i c;rw [if_neg c])⟩
 |v::l,k,cs=>by
  obtain⟨h1,h2⟩:=tH off l (k+1) (cs.setIfInBounds (off+k) v)
  simp only [List.zipIdx_cons,List.foldl_cons]
  refine⟨by rw [h1];simp,fun hle q=>?_⟩
  simp only [List.length_cons] at hle
  rw [h2 (by simp;omega) q]
  simp only [Array.getElem?_setIfInBounds,List.length_cons]
  by_cases c1:q < off+k
  ·rw [if_pos (by omega),if_neg (by omega),if_pos c1]
  ·rw [if_neg c1]
   by_cases c2:q=off+k
   ·subst c2
    rw [if_pos (by omega),if_pos rfl,if_pos (by omega),if_pos (by omega)]
    simp
   ·rw [if_neg (show ¬ q < off+(k+1) by omega)]
    by_cases c3:q < off+k+(l.length+1)
    ·rw [if_pos (by omega),if_pos c3,show q - (off+k)=(q - (off+(k+1)))+1 by omega]
     simp
    ·rw [if_neg (by omega),if_neg c3,if_neg (by omega)]
def lC (g:Gh) (w:World) (l:List AV) (cs:Array Value):Prop:=cs.size=l.length/\∀ (i:Nat) (a:AV) (x:Value),l[i]?=some a->cs[i]?=some x->aA g w a x
theorem lC.a8 (cs:Array Value):lC g w (cs.toList.map a8) cs:=by
 refine⟨by simp,fun i a x h1 h2=>?_⟩
 simp only [List.getElem?_map,Option.map_eq_some_iff] at h1
 obtain⟨y,hy,rfl⟩:=h1
 have:some x=some y:=by rw [<-h2,<-hy,Array.getElem?_toList]
 obtain rfl:=Option.some.inj this
 exact iZ x
theorem lC.lay {l:List AV}{cs cs':Array Value}(h:lC g w l cs) {a:AV}{x:Value}(ha:(aG a).all bl=true) (hx:aA g w a x) {off:Nat}(hle:off+(aG a).length<=l.length)
  (hs:cs'.size=cs.size) (gA:∀ q,cs'[q]?=if q < off then cs[q]? else if q < off+x.cells.size then x.cells[q - off]? else cs[q]?):lC g w (kO l off (aG a)) cs':=by
 obtain⟨c1,c2,c3⟩:=mo ha hx
 refine⟨by rw [hs,h.1,vD hle],fun i b y h1 h2=>?_⟩
 rw [yL,oB _ _ _ hle] at h1
 rw [gA,c1] at h2
 by_cases d1:i < off
 ·rw [if_pos d1] at h1 h2;exact h.2 i b y h1 h2
 ·rw [if_neg d1] at h1 h2
  by_cases d2:i < off+(aG a).length
  ·rw [if_pos d2] at h1 h2;exact c2 _ b y h1 h2
  ·rw [if_neg d2] at h1 h2;exact h.2 i b y h1 h2
theorem rS {place:Nat->Option (Nat × Nat)}:∀ {parts:List (Nat × AV)}{tI:List (Nat × Value)}{l r:List AV}{cs:Array Value},rf place l parts=some r->lC g w l cs ->
  yM (fun (p:Nat × AV) (q:Nat × Value)=>p.1=q.1/\aA g w p.2 q.2) parts tI->∃ cs',Instr.fill place cs tI=some cs'/\lC g w r cs'
 |[],_,l,r,cs,h,hl,hp=>by
  cases hp
  obtain rfl:=Option.some.inj h
  exact⟨cs,rfl,hl⟩
 |(i,a)::rest,_,l,r,cs,h,hl,hp=>by
  cases hp with
  |@cons _ q _ kx hq uS =>
   obtain⟨j,x⟩:=q
   obtain⟨e,hx⟩:=hq
   simp only at e hx
   subst e
   simp only [rf] at h
   split at h
   ·rename_i off size tJ
    split at h
    ·rename_i hc
     simp only [Bool.and_eq_true] at hc
     obtain⟨⟨e1,e2⟩,e3⟩:=hc
     have e1:=Nat.eq_of_beq_eq_true e1
     have e2:=Nat.le_of_ble_eq_true e2
     obtain⟨c1,c2,c3⟩:=mo e3 hx
     have f:=tH off x.cells.toList 0 cs
     have dD:off+x.cells.size<=cs.size:=by rw [hl.1,c1];omega
     have f2:=f.2 (by simpa using dD)
     have jT:=hl.lay (cs':=(x.cells.toList.zipIdx 0).foldl (fun cs (p:Value × Nat)=>cs.setIfInBounds (off+p.2) p.1) cs) (off:=off) e3 hx (by omega) f.1 (fun q=>by
      rw [f2 q]
      simp only [Nat.add_zero,Array.length_toList,Array.getElem?_toList])
     obtain⟨cs',h1,h2⟩:=rS h jT uS
     refine⟨cs',?_,h2⟩
     rw [<-h1]
     simp only [Instr.fill,tJ]
     rw [if_neg (by simp only [Bool.or_eq_true,decide_eq_true_eq,not_or];omega)]
     congr 1
     rw [<-Array.foldl_toList,Array.toList_zipIdx]
    ·cases h
   ·cases h
theorem pK {n:Nat}{α:AA}{a:Act}(hA:bf g w n α a):∀ (parts:List (Nat × Operand)),
  yM (fun (p:Nat × AV) (q:Nat × Value)=>p.1=q.1/\aA g w p.2 q.2) (parts.map fun (i,x)=>(i,α.ev x)) (parts.map fun (i,x)=>(i,a.eval x))
 |[]=>.nil
 |(i,x)::rest=>.cons ⟨rfl,hA.ev x⟩ (pK hA rest)
theorem zU:∀ (fs:List Field),(fs.all fun (f:Field)=>(bZ P f.type).isSome)=true->∃ pl:List (Nat × Nat),fs.mapM (fun (f:Field)=>(P.info? f.type).map fun i=>(f.offset,i.size))=some pl /\
  ∀ i:Nat,pl[i]?=match fs[i]? with|some f=>(match bZ P f.type with|some n=>some (f.offset,n)|none=>none)|none=>none
 |[],_=>⟨[],by simp,fun i=>by simp⟩
 |f::fs,h=>by
  simp only [List.all_cons,Bool.and_eq_true] at h
  obtain⟨n,hn⟩:=Option.isSome_iff_exists.1 h.1
  obtain⟨pl,h1,h2⟩:=zU fs h.2
  have Ek:=hn
  unfold bZ at Ek
  obtain⟨i,hi,e⟩:=Option.map_eq_some_iff.1 Ek
  refine⟨(f.offset,n)::pl,by simp [List.mapM_cons,hi,h1,e],fun i=>?_⟩
  cases i with
  |zero=>simp [hn]
  |succ i=>simpa using h2 i
theorem Dk {n:Nat}{α:AA}{a:Act}{t:TypeId}{parts:Array (Nat × Operand)}{r:AV}(hA:bf g w n α a) (h:oF P t (parts.toList.map fun (i,x)=>(i,α.ev x))=some r) :
  ∃ v,(Instr.build t (parts.map fun (i,x)=>(i,a.eval x))).run P w=.ok v w/\aA g w r v:=by
 have hp:=pK hA parts.toList
 unfold oF at h
 split at h
 ·rename_i cs hz
  have Zs:=hz
  unfold b8 at Zs
  obtain⟨it,Oi,nV⟩:=Option.bind_eq_some_iff.1 Zs
  split at h
  ·rename_i fs hu
   split at h
   ·rename_i jQ
    obtain⟨l,hl,rfl⟩:=Option.map_eq_some_iff.1 h
    obtain⟨cs',h1,h2⟩:=rS hl (lC.a8 cs) hp
    obtain⟨pl,h3,h4⟩:=zU fs.toList jQ
    refine⟨.agg cs',run_build w t _ cs' ?_,.agg h2.1 h2.2⟩
    have e:A4 P fs=fun x=>pl.toArray[x]?:=by
     funext i
     rw [List.getElem?_toArray,h4 i,Array.getElem?_toList]
     rfl
    rw [e] at h1
    simp only [Program.built,Oi,hu,nV,h3,Array.toList_map]
    exact h1
   ·cases h
  ·rename_i len e hu
   split at h
   ·rename_i m hm
    obtain⟨l,hl,rfl⟩:=Option.map_eq_some_iff.1 h
    obtain⟨cs',h1,h2⟩:=rS hl (lC.a8 cs) hp
    refine⟨.agg cs',run_build w t _ cs' ?_,.agg h2.1 h2.2⟩
    obtain⟨ie,hie,rfl⟩:=gz hm
    simp only [Program.built,Oi,hu,nV,hie,Array.toList_map]
    exact h1
   ·cases h
  ·cases h
 ·cases h
end
end Go.Proofs.YtgjfgekaclobaaaGreat
