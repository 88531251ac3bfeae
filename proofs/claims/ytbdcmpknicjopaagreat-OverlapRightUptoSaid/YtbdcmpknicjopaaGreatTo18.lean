import Derived.Test.YtbdcmpknicjopaaGreatTo17
namespace Go.Proofs.YtbdcmpknicjopaaGreat
set_option linter.all false
set_option maxRecDepth 100000
open Go.RowKit Proofs.Tryz
variable{E e:Int}{K:List iu}{O:Hd}{Q:Exit->AA->ao->Prop}{S S':ao}{U:World}{Y:AA}{cs fs:List AV}{d:Option Nat}{ex:Exit}{g:FuncId}{j8:List QO}{l:List QI}{n:Nat}{qs:List QR}{r:AV}
variable{args:List AV}
section
attribute [local irreducible] aq aG D I
def D6(U:World)(f:FuncId)(args:List AV)(E:Int):Prop:=O6 prog U f args (decide (E=0)) (.aM []) (sA E)
section
variable{rd:Bool}
theorem O8{f:FuncId}{q:QC×List QR}(F:qx prog f q n)(b:args.length<=n)(h:I prog U false n (Gu q.2 (λc S=>decide (E=0)=true/\aL S c (.aM [])) λd S=>decide (E=0)=false/\d=sA E) (.run q.1 []) ⟨qc args,[]⟩ ao.none_):D6 U f args E :=qx.afs F b (.aM λa e=>Z) h
def J6(a:O7 ex=true)(h:MM qs ex Y S=some (.aM [],S'))(k:E=0):I prog U rd n (Gu qs (λb S=>decide (E=0)=true/\aL S b (.aM [])) λc S=>decide (E=0)=false/\c=sA E) (.out ex []) Y S :=I.akm a h ⟨decide_eq_true k,.refl _⟩
theorem sZ(a:Y.df=[])(d:decide (e=0)=false)(k:E=e):I prog U rd n (Gu qs (λb S=>decide (E=0)=true/\aL S b (.aM [])) λc S=>decide (E=0)=false/\c=sA E) (.out (.panic (sA e)) []) Y S :=I.akl a ⟨Z,by rw[k]⟩
theorem I.vq{b:Bool}{gd:Option (Nat×Bool)}{f:QO}(c:bJ Y.tm gd=some true)(h:fO (f.ev Y.tm) (j8.map (·.ev Y.tm))=some (90,[.v (.bool b),.v (.int .i64 e)]))(g:b=true->I prog U rd n Q (.bp false l K) (bX d Y (.aM [])) S)(i:b=false->I prog U rd n Q (.out (.panic (sA e)) K) Y S):I prog U rd n Q (.bp false (⟨d,gd,.call f j8⟩::l) K) Y S :=I.afv c h (akk b e) ⟨.v,.v,trivial⟩ (.aM λa j=>Z) (jl.refl _ _) g i
theorem I.vt{gd:Option (Nat×Bool)}{f:QO}(b:bJ Y.tm gd=some true)(h:fO (f.ev Y.tm) (j8.map (·.ev Y.tm))=some (g,args))(c:D6 U g args E)(e:iZ args)(i:E=0->I prog U rd n Q (.bp false l K) (bX d Y (.aM [])) S)(j:¬E=0->I prog U rd n Q (.out (.panic (sA E)) K) Y S):I prog U rd n Q (.bp false (⟨d,gd,.call f j8⟩::l) K) Y S :=I.afv b h c e (.aM λa k=>Z) (jl.refl _ _) (λh=>i (of_decide_eq_true h)) λh=>j (of_decide_eq_false h)
end
def ap5:=aD func162 call162
def akn:=[0,2]
def ap6:=aD func228 call228
def ako:=[3,0,2,1]
def ap7:=aD func160 call160
def WM:=[0,4,1,6,2]
def ap8:=aD func161 call161
def yy:=[8,5,1,7,9,6,14,0]
def ny(o:Int):Bool:=decide (5<=o)&&decide (o<=12)
def named(n:ByteArray)(d:Dc):Bool:=d.n.toList==n.toList
def sB(ds:List Dc)(n:ByteArray)(a:Int):Int:=if ds.any (named n) then if jo ds n a then 0 else 9 else 7
def vt(ds:List Dc)(g:Gl):Int:=if g.op=0 then sB ds g.n g.a.length else 0
def bG(e k:Int):Int:=if e=0 then k else e
theorem b_{k:Int}(h:e=0):bG e k=k:=by rw[bG,if_pos h]
theorem eK{k:Int}(h:¬e=0):bG e k=e:=by rw[bG,if_neg h]
def lW(ds:List Dc):List Gl->Int|[]=>0|g::l=>bG (vt ds g) (lW ds l)
theorem Zm(o:Int):ad U 162 [iv o] (.v (.bool (ny o))):=by
 refine st ap5 akn .v ?_;repeat' first|refine cg akn (λa=>?_) λa=>?_|refine fq ?_
 all_goals subst_vars;refine aO ?_;rw[ny,bG_];simp;omega
theorem ahH(d:Dc)(n:ByteArray):ad U 228 [dc d,.ip [.v (.string n)]] (.v (.bool (named n d))):=by
 let⟨dn,b⟩:=d;refine st ap6 ako .v ?_;repeat' first|refine cg ako (λa=>?_) λa=>?_|refine fq ?_
 all_goals subst_vars;refine aO ?_;unfold named;simp_all
theorem U1(ds:List Dc)(n:ByteArray)(a:Int)(g:ds.length<=1099511627776):D6 U 160 [ir O ds,.v (.string n),iv a] (sB ds n a):=by
 have h:Pure (.fn (.func 228) [] [.ip [.v (.string n)]]):=.fn (λa d=>by cases d) λa d=>by cases ae_.1 d;exact .ip λb c=>by cases ae_.1 c;exact .v
 have i:=ajK (U:=U) (O:=O) (named n) ds _ [] _ g h λx _=>⟨_,_,rfl,⟨Mx x,.ip λb c=>by cases ae_.1 c;exact .v,trivial⟩,ahH x n⟩;have j:=DT (U:=U) (O:=O) ds n a g;unfold sB;let⟨l,e⟩:=au (ds.any (named n));let⟨m,f⟩:=au (jo ds n a);rw[<-e]at i;rw[<-f]at j;rw[<-e,<-f];clear e f;refine O8 ap7.2 (by simp[ntmps160]) ?_;refine H WM ?_;repeat' first|refine og WM (D.tU rfl i ⟨eM _,h,trivial⟩ .v ⟨.refl _,aL.fns trivial ⟨aL.box (cs:=[.v (.string n)]) (cs':=[.v (.string n)]) rfl ⟨.refl _,trivial⟩,trivial⟩,trivial⟩) ?_|refine og WM (D.bU rfl j ⟨eM _,.v,.v,trivial⟩) ?_|refine I.vq rfl rfl (λc=>?_) λc=>?_<;>(try simp only[bT]at c)<;>(first|refine H WM ?_)|refine J6 rfl (by conv=>lhs;cbv) ?_|refine sZ rfl (by first|rfl) ?_
 all_goals subst_vars;simp
theorem U2(ds:List Dc)(l:List Gl)(u:ds.length<=1099511627776)(F:l.length<=1099511627776)(v:∀g∈l,g.a.length<=1099511627776):D6 U 161 [ir O ds,dI O l] (lW ds l):=by
 let⟨R,d⟩:=au (lW ds l);rw[<-d];refine O8 ap8.2 (by simp[ntmps161]) ?_;refine H yy ?_;repeat' first|refine lg yy λm p=>?_
 refine bL 0 0 [] (λi=>[(0,ir O ds),(6,dI O l),(7,.v (.int .i64 m)),(8,.v (.int .i64 i))]) [] (λ_=>[]) l.length (λk=>R=lW ds (l.drop k)) (by simpa using d) λi k w G b=>?_;clear d;refine H yy ?_;by_cases y:k<l.length
 ·let⟨x,r,z⟩:=aC y;rw[z,lW]at b;have A:=v x (as_ r);let⟨o,n,a⟩:=x;dsimp only at A;have f:=U1 (U:=U) (O:=O) ds n a.length u;have c:vt ds ⟨o,n,a⟩=if o=0 then sB ds n a.length else 0:=rfl;let⟨h,s⟩:=au (sB ds n a.length);rw[<-s]at c f;let⟨C,t⟩:=au (vt ds ⟨o,n,a⟩);rw[<-t]at c b;let⟨q,B⟩:∃q:Int,q=a.length:=⟨_,rfl⟩;rw[<-B]at f;clear s t;repeat' first|refine og yy (D.bw w r) ?_|refine I.int rfl (D.len rfl) λm p=>?_;rw[aA]at p;cases(X:m=q);refine H yy ?_|refine I.vt rfl rfl f (by repeat' first|exact trivial|refine⟨?_,?_⟩;first|exact .v|exact eM _) (λE=>?_) λE=>?_<;>refine H yy ?_|refine I.DV ?_;refine H yy ?_|refine J6 rfl (by conv=>lhs;cbv) ?_|refine sZ rfl (by first|exact decide_eq_false (by assumption)) ?_|refine cg yy (λj=>?_) λj=>?_|refine ag yy λ_ _=>?_|refine xG yy ?_
  all_goals first
   |omega
   |(have e:C=0:=by rw[c];simp_all
     rw[b_ e]at b;exact cw _ [] (k+1) b)
   |(have e:C=h:=by rw[c];simp_all
     rw[eK X]at b;rw[b,e])
 ·skip;repeat' first|refine J6 rfl (by conv=>lhs;cbv) ?_|refine cg yy (λj=>?_) λj=>?_|refine xG yy ?_
  all_goals first|omega|rw[b,ar_ X];rfl
def ap9:=aD func158 call158
def qd:=[10,16,3,2,0,9,11,8,5,15,17,14,7]
def ap_:=aD func159 call159
def qe:=[10,16,3,2,0,9,11,8,5,15,17,14,7]
def Je(a:List Tm):Prop:=a.length<=1099511627776/\dO a/\(a7 a).length<=1099511627776
def au1(x:At)(h1:x.a.length<=1099511627776)(h2:dO x.a)(h3:(a7 x.a).length<=1099511627776):ad U 129 [at_ O x] (aQ O aH false (varsOf x.a)):=KZ x h1 h2 h3
def au2(x:Gl)(h1:x.a.length<=1099511627776)(h2:dO x.a)(h3:(a7 x.a).length<=1099511627776):ad U 127 [gl O x] (aQ O aH false (varsOf x.a)):=DU x h1 h2 h3
def E6(l:List At):List Int:=l.flatMap λx=>varsOf x.a
def Jf(L:List (List At)):List Int:=L.flatMap E6
def rowAt(O:Hd)(l:List At):List AV:=[dW O l]
theorem WN(L:List (List At)):Pure (aQ O (rowAt O) true L):=eW λx _ a b=>by cases ae_.1 b;exact bP x
theorem au3(L:List (List At))(hl:L.length<=1099511627776)(C:∀l∈L,l.length<=1099511627776/\∀x∈l,Je x.a)(R:List Int)(o:R=Jf L)(hn:R.length<=1099511627776):∃len,len=R.length/\aG prog U 158 [aQ O (rowAt O) true L] (aw [] 0) (.gr 0 1 len) (aw [(0,tu O R)] 1):=by
 refine⟨_,rfl,?_⟩;let⟨E,F⟩:=au R.length;rw[<-F];have G:=WN (O:=O) L;refine sc 0 1 ap9 ?_;refine H qd ?_;repeat' first|refine lg qd λm hm=>?_
 refine cW (τ:=List Int×Nat) 0 1 [] (λp=>[(3,.gr 0 1 p.2.2),(8,aQ O (rowAt O) true L),(9,.v (.int .i64 m)),(10,.v (.int .i64 p.1))]) [] (λp=>[(0,tu O p.2.1)]) L.length (λk p=>R=p.2.1++Jf (L.drop k)/\p.2.2=p.2.1.length) ([],0) ⟨by simpa using o,rfl⟩ ?_;rintro j k⟨K,len⟩r hk⟨c,e⟩;simp only at r c e;clear o;refine H qd ?_;by_cases M:k<L.length
 ·let⟨y,s,N⟩:=aC M;let⟨Sn,g⟩:=C y (as_ s);let⟨P,t⟩:=au (Jf (L.drop (k+1)));rw[N,Jf,bo_,<-Jf,<-t]at c;repeat' first|refine og qd (D.bw r s) ?_|refine I.int rfl (D.len rfl) λQ S=>?_;rw[aA]at S;refine H qd ?_|refine cg qd (λb=>?_) λb=>?_|refine xG qd ?_|refine fq ?_
  all_goals first|omega|skip
  refine cW (τ:=List Int×Nat) 1 2 [(1,0)] (λp=>[(3,.gr 1 1 p.2.2),(8,aQ O (rowAt O) true L),(9,.v (.int .i64 m)),(10,.v (.int .i64 j)),(14,dW O y),(15,.v (.int .i64 Q)),(16,.v (.int .i64 p.1))]) [] (λp=>[(1,tu O p.2.1)]) y.length (λq p=>R=p.2.1++(E6 (y.drop q)++P)/\p.2.2=p.2.1.length) (K,len) ⟨by simpa using c,e⟩ ?_;rintro i q⟨h,u⟩v hq⟨a,d⟩;simp only at v a d;clear c e;refine H qd ?_;by_cases T:q<y.length
  ·let⟨x,w,W⟩:=aC T;let⟨Bq,Gv,n⟩:=g x (as_ w);have z:=au1 (U:=U) (O:=O) x Bq Gv n;rw[W,E6,bo_,<-E6]at a;let⟨V,A⟩:=au (varsOf x.a);rw[<-A]at a z;have ml:h.length+V.length<=1099511627776:=by have:=congrArg List.length a;simp only[ay_]at this;omega
   clear A;let⟨xn,xa⟩:=x;repeat' first|refine og qd (D.bw v w) ?_|apply bh qd z|refine I.ach (f:=aH) rfl rfl rfl d (λ_=>rfl) rfl (λ_=>rfl) (λ_=>rfl) X (λB=>?_) λoF wL B mj mh=>?_<;>refine H qd ?_|refine cg qd (λb=>?_) λb=>?_|refine ag qd λ_ _=>?_|refine xG qd ?_
   all_goals first|omega|exact cO (_,h,u) [(1,1)] (q+1) ⟨by rw[a,B];rfl,d⟩|exact cO (_,oF,wL) [(1,3)] (q+1) ⟨by rw[a,mj];simp only[bt_],mh⟩
  ·rw[ar_ X,E6,bO_,aS_]at a;repeat' first|refine cg qd (λb=>?_) λb=>?_|refine ag qd λ_ _=>?_|refine xG qd ?_
   all_goals first|omega|exact cO (_,h,u) [(0,1)] (k+1) ⟨by rw[a,t],d⟩
 ·rw[ar_ X,Jf,bO_,aI_]at c;repeat' first|refine cg qd (λb=>?_) λb=>?_|refine xG qd ?_|refine fq ?_
  all_goals first|omega|skip
  subst c;cases(X:len=E);exact⟨[(0,0)],.jz rfl rfl,⟨.inl ⟨_,rfl,.same uc⟩,trivial⟩,rfl⟩
def CR(l:List Gl):List Int:=l.flatMap λx=>varsOf x.a
def tw(L:List (List Gl)):List Int:=L.flatMap CR
def Lb(O:Hd)(l:List Gl):List AV:=[dI O l]
theorem WO(L:List (List Gl)):Pure (aQ O (Lb O) true L):=eW λx _ a b=>by cases ae_.1 b;exact a6 x
theorem au4(L:List (List Gl))(hl:L.length<=1099511627776)(C:∀l∈L,l.length<=1099511627776/\∀x∈l,Je x.a)(R:List Int)(o:R=tw L)(hn:R.length<=1099511627776):∃len,len=R.length/\aG prog U 159 [aQ O (Lb O) true L] (aw [] 0) (.gr 0 1 len) (aw [(0,tu O R)] 1):=by
 refine⟨_,rfl,?_⟩;let⟨E,F⟩:=au R.length;rw[<-F];have G:=WO (O:=O) L;refine sc 0 1 ap_ ?_;refine H qe ?_;repeat' first|refine lg qe λm hm=>?_
 refine cW (τ:=List Int×Nat) 0 1 [] (λp=>[(3,.gr 0 1 p.2.2),(8,aQ O (Lb O) true L),(9,.v (.int .i64 m)),(10,.v (.int .i64 p.1))]) [] (λp=>[(0,tu O p.2.1)]) L.length (λk p=>R=p.2.1++tw (L.drop k)/\p.2.2=p.2.1.length) ([],0) ⟨by simpa using o,rfl⟩ ?_;rintro j k⟨K,len⟩r hk⟨c,e⟩;simp only at r c e;clear o;refine H qe ?_;by_cases M:k<L.length
 ·let⟨y,s,N⟩:=aC M;let⟨Sn,g⟩:=C y (as_ s);let⟨P,t⟩:=au (tw (L.drop (k+1)));rw[N,tw,bo_,<-tw,<-t]at c;repeat' first|refine og qe (D.bw r s) ?_|refine I.int rfl (D.len rfl) λQ S=>?_;rw[aA]at S;refine H qe ?_|refine cg qe (λb=>?_) λb=>?_|refine xG qe ?_|refine fq ?_
  all_goals first|omega|skip
  refine cW (τ:=List Int×Nat) 1 2 [(1,0)] (λp=>[(3,.gr 1 1 p.2.2),(8,aQ O (Lb O) true L),(9,.v (.int .i64 m)),(10,.v (.int .i64 j)),(14,dI O y),(15,.v (.int .i64 Q)),(16,.v (.int .i64 p.1))]) [] (λp=>[(1,tu O p.2.1)]) y.length (λq p=>R=p.2.1++(CR (y.drop q)++P)/\p.2.2=p.2.1.length) (K,len) ⟨by simpa using c,e⟩ ?_;rintro i q⟨h,u⟩v hq⟨a,d⟩;simp only at v a d;clear c e;refine H qe ?_;by_cases T:q<y.length
  ·let⟨x,w,W⟩:=aC T;let⟨Bq,Gv,n⟩:=g x (as_ w);have z:=au2 (U:=U) (O:=O) x Bq Gv n;rw[W,CR,bo_,<-CR]at a;let⟨V,A⟩:=au (varsOf x.a);rw[<-A]at a z;have ml:h.length+V.length<=1099511627776:=by have:=congrArg List.length a;simp only[ay_]at this;omega
   clear A;let⟨xo,xn,xa⟩:=x;repeat' first|refine og qe (D.bw v w) ?_|apply bh qe z|refine I.ach (f:=aH) rfl rfl rfl d (λ_=>rfl) rfl (λ_=>rfl) (λ_=>rfl) X (λB=>?_) λoF wL B mj mh=>?_<;>refine H qe ?_|refine cg qe (λb=>?_) λb=>?_|refine ag qe λ_ _=>?_|refine xG qe ?_
   all_goals first|omega|exact cO (_,h,u) [(1,1)] (q+1) ⟨by rw[a,B];rfl,d⟩|exact cO (_,oF,wL) [(1,3)] (q+1) ⟨by rw[a,mj];simp only[bt_],mh⟩
  ·rw[ar_ X,CR,bO_,aS_]at a;repeat' first|refine cg qe (λb=>?_) λb=>?_|refine ag qe λ_ _=>?_|refine xG qe ?_
   all_goals first|omega|exact cO (_,h,u) [(0,1)] (k+1) ⟨by rw[a,t],d⟩
 ·rw[ar_ X,tw,bO_,aI_]at c;repeat' first|refine cg qe (λb=>?_) λb=>?_|refine xG qe ?_|refine fq ?_
  all_goals first|omega|skip
  subst c;cases(X:len=E);exact⟨[(0,0)],.jz rfl rfl,⟨.inl ⟨_,rfl,.same uc⟩,trivial⟩,rfl⟩
theorem akr(L:List (List Gl))(a:L.length<=1099511627776)(b:∀l∈L,l.length<=1099511627776/\∀x∈l,Je x.a)(c:(tw L).length<=1099511627776):ad U 159 [aQ O (Lb O) true L] (aQ O aH false (tw L)):=by let⟨len,d,e⟩:=au4 (U:=U) (O:=O) L a b _ rfl c;exact aq.Ae e (aL.grow rfl d) (a8 _)
end
theorem WQ{F:Fence}(b:mu F)(n:Nat)(p:Addr)(w:World):CallsDIn F.plain n prog 154 #[.pointer (some p)] .returning w λe c w'=>e=.returned (.tuple #[])/\c=.returning/\w'=w:=by refine callsDIn_of_wpSIn func154 rfl (b.1 _) λa cs d=>?_;simp only[ntmps154,bv_,aH_,bd_,Nat.reduceAdd,Nat.reduceSub,dd_,de_,df_,dg_,aS_,aX_];apply wpSIn_seq;apply wpSIn_region;simp[wpOpsSIn,go_sem,recoverD,d,Exit.thenS,b.1];refine wpSIn_of_wpIn rfl ?_;refine wpIn_block (wpIn_seq (wpIn_region ?_));simp[wpOpsIn,go_sem];refine wpIn_cond (t:=true) (by simp[Act.eval]) ?_;simp only[if_true];refine wpIn_region ?_;simp[wpOpsIn,go_sem,bodyPostS,results,results154,Exit.inBlock];cases a;simp_all
theorem WR{F:Fence}(d:mu F)(n:Nat)(b:Nat)(x a:Int)(w:World)(i:w.cell? ⟨b,0,none⟩=some (.int .i64 x))(j:w.frozen? ⟨b,0,none⟩=false)(f:b<w.heap.size):CallsDIn F.plain n prog 154 #[.pointer (some ⟨b,0,none⟩)] (.panicking (sA a)) w λe k w'=>e=.returned (.tuple #[])/\k=.panicking [{v:=WH a,recovered:=true }] /\w'=(w.alloc (.cells #[.int .i64 a] 212)).setCell ⟨b,0,none⟩ (.int .i64 a):=by
 have g:(w.alloc (.cells #[.int .i64 a] 212)).heap[b]?=w.heap[b]?:=by simp only[World.alloc];rw[Array.getElem?_push_lt f,aM_ f]
 have l:(w.alloc (.cells #[.int .i64 a] 212)).cell? ⟨b,0,none⟩=some (.int .i64 x):=(World.cell?_of_block g).trans i;have m:(w.alloc (.cells #[.int .i64 a] 212)).frozen? ⟨b,0,none⟩=false:=by rw[<-j];simp only[World.frozen?,g]
 refine callsDIn_of_wpSIn func154 rfl (d.1 _) λo cs p=>?_;simp only[ntmps154,bv_,aH_,bd_,Nat.reduceAdd,Nat.reduceSub,dd_,de_,df_,dg_,aS_,aX_];apply wpSIn_seq;apply wpSIn_region;simp[wpOpsSIn,go_sem,recoverD,p,Exit.thenS,d.1,sA];refine wpSIn_of_wpIn rfl ?_;refine wpIn_block (wpIn_seq (wpIn_region ?_));simp[wpOpsIn,go_sem,WH];refine wpIn_cond (t:=false) (by simp[Act.eval]) ?_;simp only[bz_,if_false];refine wpIn_seq (wpIn_region ?_);have q:∀w,(underlying 212).run prog w=.ok (.struct (prog.fieldsOf 212)) w:=λw=>by
  have h:prog.underlying 212=some (.struct (prog.fieldsOf 212)):=by kernel_rfl
  simp[underlying,h]
 have c:∀w,(Instr.typeAssert (.iface 212 (.agg #[.int .i64 a])) 20 212 true).run prog w=.ok (.tuple #[.agg #[.int .i64 a],.bool true]) w:=λw=>by simp[Instr.typeAssert,q]
 simp[wpOpsIn,go_sem,c];refine wpIn_cond (t:=true) (by simp[Act.eval]) ?_;simp only[if_true];refine wpIn_seq (wpIn_region ?_);simp[wpOpsIn,go_sem];refine wpIn_region ?_;simp[wpOpsIn,go_sem,l,m];simp[bodyPostS,results,results154,Exit.inBlock]
def akt(a e:Int):ao:=(o9 ao.none_ [iv a]).2.set 0 (some (.arr 1 [[iv e]] 0 true))
theorem CS{A:Nat->Prop}{g2:Gh}{S:ao}{d:World}{a:Int}{b:Nat}(m:St U A g2 S d)(h0:S.get 0=some (.arr 1 [[iv a]] 0 true))(n:g2.al 0)(p:g2.ob 0=b):d.cell? ⟨b,0,none⟩=some (.int .i64 a)/\d.frozen? ⟨b,0,none⟩=false/\b<d.heap.size/\Ext A g2 d g2 (d.setCell ⟨b,0,none⟩ (.int .i64 e))/\St U A g2 (S.set 0 (some (.arr 1 [[iv e]] 0 true))) (d.setCell ⟨b,0,none⟩ (.int .i64 e)):=by
 let⟨t,k3,cells,u,h,G,J,K,v,L,M⟩:=m.dh 0 _ h0 n;rw[p]at t k3 h;let⟨x,y,l⟩:=(v 0 _ rfl).2 0 _ rfl;have l:=cF l;subst l;have q:d.cell? ⟨b,0,none⟩=some (.int .i64 a):=by rw[cell_of_row d b _ cells u (0,0) h];simpa using y
 have r:d.frozen? ⟨b,0,none⟩=false:=by simp[World.frozen?,h]
 have z:uZ prog S 69 (iv e) (.pt 0 1 0 0)=some (S.set 0 (some (.arr 1 [[iv e]] 0 true))):=by
  have:eR prog 69=some 1:=by kernel_rfl
  simp only[uZ,h0,this];rfl
 have B:aT g2 d (.pt 0 1 0 0) (.pointer (some ⟨b,0,none⟩)):=by have:=aT.pt (g:=g2) (w:=d) (k:=0) (sz:=1) (i:=0) (j:=0) n;rw[p]at this;exact this
 let⟨c,o,P,s,f,_,C,E⟩:=FG m z B (x:=.int .i64 e) .v;simp only[Value.pointer.injEq,oI_,Addr.mk.injEq,and_true]at s;obtain⟨rfl,rfl⟩:=s;have F:(storeVar 69 ⟨b,0,none⟩ (.int .i64 e)).run prog d=.ok () (d.setCell ⟨b,0,none⟩ (.int .i64 e)):=by simp[go_sem,q,r]
 rw[F]at f;injection f with _ f;subst f;exact⟨q,r,k3,C,E⟩
theorem acC(u:iZ (fs++cs))(h:ad U g (fs++cs) (.aM [])):ad U 88 [.fn (.func g) fs cs] (iv 0):=by
 refine⟨.v,akt 0 0,call88,λF m A S b w c T V=>?_⟩;let⟨z,B⟩:=V;obtain⟨C,rfl⟩:∃C,b=#[C]:=by let⟨l⟩:=b;match l,z with|[x],_=>exact⟨x,rfl⟩
 obtain⟨o,p,rfl,W,fE⟩:=Gy (B 0 _ _ rfl rfl);clear B z;have E:=Gz (U:=U) (A:=A) (cs:=[iv 0]) (cells:=#[.int .i64 0]) (ty:=69) T ⟨rfl,λi a x d j=>by match i,d,j with|0,d,j=>cases oJ_ d;cases oJ_ j;exact .v⟩;let⟨k,G⟩:∃k:World,k=w.alloc (.cells #[.int .i64 0] 69):=⟨_,rfl⟩;rw[<-G]at E;let⟨q,J,oQ,K⟩:=E;have mG:nI q k (fs++cs) (o++p):=by have:=m9 W fE;exact⟨this.1,λi a x d j=>(this.2 i a x d j).later K.toLater⟩
 have cM:=(h.WS u (o9 ao.none_ [iv 0]).2).2 F.plain (m-1) A q (o++p) k c.plain oQ mG;have key:CallsIn F.plain m prog 88 #[.func (.func g) o p] w λe r=>∃v s,e=.returned v/\aT s r (iv 0) v/\St U A s (akt 0 0) r/\Ext A S w s r:=by
  refine callsIn_of_wp_defers func88 rfl (c.1 _) ?_ rfl;simp only[ntmps88,bv_,aH_,bd_,Nat.reduceAdd,Nat.reduceSub,dd_,de_,df_,dg_,aS_,aX_];refine wpIn_seq (wpIn_region ?_);simp[wpOpsIn,go_sem];rw[<-G];have CT:∀(fn:Fn)(first cap:Array Value)(w:World),(Instr.makeFunc fn first cap).run prog w=.ok (.func fn first cap) w:=λ_ _ _ _=>rfl;refine wpIn_seq (wpIn_region ?_);simp[wpOpsIn,go_sem,CT];refine wpIn_seq (wpIn_region ?_);simp[wpOpsIn,go_sem];refine⟨c.1 g,?_⟩;rw[(h.WS u ao.none_).1 (o++p) k,Oper.uponIn_enter];refine⟨λn=>(by rw[show F.plain.depth=F.depth from rfl,c.2.1]at n;cases n),cM.mono ?_⟩;rintro e w2⟨v,L,rfl,_,yR,t⟩;simp only;let⟨M,qE⟩:q.al 0/\q.ob 0=w.heap.size:=by generalize N:Value.pointer (some ⟨w.heap.size,0,none⟩)=y at J;cases J with|pt hk=>simp[o9,ao.none_]at N;exact⟨hk,N.symm⟩
  have P:=t.al 0 M;have Q:L.ob 0=w.heap.size:=(t.ob 0 M).trans qE;let⟨hc,hz,az,Br,R⟩:=CS (e:=0) yR rfl P Q;refine wpIn_seq (wpIn_region ?_);simp[wpOpsIn,go_sem,hc,hz];refine wpIn_ret ?_;refine leavesIn_cons (f:=154) (args:=#[.pointer (some ⟨w.heap.size,0,none⟩)]) aE (λn=>by rw[show F.plain.depth=F.depth from rfl,c.2.1]at n;cases n) (by simp[go_sem]) (λg hg=>c.1 g) ?_;refine(WQ c _ _ _).mono ?_;rintro e u' qy⟨rfl,rfl,rfl⟩;have Ao:(w2.setCell ⟨w.heap.size,0,none⟩ (.int .i64 0)).cell? ⟨w.heap.size,0,none⟩=some (.int .i64 0):=(CS (e:=0) R rfl P Q).1;simp[LeavesIn,settle,results,results88,go_sem,Ao];exact⟨L,.v,R,(K.trans t).trans Br⟩
 exact key
theorem acD{b:Int}(L:iZ (fs++cs))(h:za prog U g (fs++cs) (sA b)):ad U 88 [.fn (.func g) fs cs] (iv b):=by
 refine⟨.v,(o9 (o9 ao.none_ [iv 0]).2 [iv b]).2.set 0 (some (.arr 1 [[iv b]] 0 true)),call88,λF m A gh c w k hS hA=>?_⟩;let⟨M,N⟩:=hA;obtain⟨P,rfl⟩:∃P,c=#[P]:=by let⟨l⟩:=c;match l,M with|[x],_=>exact⟨x,rfl⟩
 obtain⟨r,s,rfl,dZ,fE⟩:=Gy (N 0 _ _ rfl rfl);clear N M;have Q:=Gz (U:=U) (A:=A) (cs:=[iv 0]) (cells:=#[.int .i64 0]) (ty:=69) hS ⟨rfl,λi a x d j=>by match i,d,j with|0,d,j=>cases oJ_ d;cases oJ_ j;exact .v⟩;let⟨n,R⟩:∃n:World,n=w.alloc (.cells #[.int .i64 0] 69):=⟨_,rfl⟩;rw[<-R]at Q;let⟨t,T,oQ,V⟩:=Q;have mG:nI t n (fs++cs) (r++s):=by have:=m9 dZ fE;exact⟨this.1,λi a x d j=>(this.2 i a x d j).later V.toLater⟩
 have cM:=(h.QX L (S:=(o9 ao.none_ [iv 0]).2) (jl.refl _ _)).2 F.plain (m-1) A t (r++s) n k.plain oQ mG;have key:CallsIn F.plain m prog 88 #[.func (.func g) r s] w λe u=>∃v z,e=.returned v/\aT z u (iv b) v/\St U A z ((o9 (o9 ao.none_ [iv 0]).2 [iv b]).2.set 0 (some (.arr 1 [[iv b]] 0 true))) u/\Ext A gh w z u:=by
  refine callsIn_of_wp_defers func88 rfl (k.1 _) ?_ rfl;simp only[ntmps88,bv_,aH_,bd_,Nat.reduceAdd,Nat.reduceSub,dd_,de_,df_,dg_,aS_,aX_];refine wpIn_seq (wpIn_region ?_);simp[wpOpsIn,go_sem];rw[<-R];have CT:∀(fn:Fn)(first cap:Array Value)(w:World),(Instr.makeFunc fn first cap).run prog w=.ok (.func fn first cap) w:=λ_ _ _ _=>rfl;refine wpIn_seq (wpIn_region ?_);simp[wpOpsIn,go_sem,CT];refine wpIn_seq (wpIn_region ?_);simp[wpOpsIn,go_sem];refine⟨k.1 g,?_⟩;rw[(h.QX L (S:=ao.none_) (jl.refl _ _)).1 (r++s) n,Oper.uponIn_enter];refine⟨λo=>(by rw[show F.plain.depth=F.depth from rfl,k.2.1]at o;cases o),cM.mono ?_⟩;rintro e w2⟨g2,rfl,W,B⟩;simp only;let⟨lP,qE⟩:t.al 0/\t.ob 0=w.heap.size:=by generalize hv:Value.pointer (some ⟨w.heap.size,0,none⟩)=y at T;cases T with|pt hk=>simp[o9,ao.none_]at hv;exact⟨hk,hv.symm⟩
  have C:=B.al 0 lP;have QW:g2.ob 0=w.heap.size:=(B.ob 0 lP).trans qE;let⟨hc,hz,az,_,_⟩:=CS (e:=0) W rfl C QW;have E:=Gz (U:=U) (A:=A) (cs:=[iv b]) (cells:=#[.int .i64 b]) (ty:=212) W ⟨rfl,λi a x d j=>by match i,d,j with|0,d,j=>cases oJ_ d;cases oJ_ j;exact .v⟩;let⟨g3,hr3,E7,G⟩:=E;have Bs:=G.al 0 C;have p:g3.ob 0=w.heap.size:=(G.ob 0 C).trans QW;let⟨Ao,hz3,s8,J,q⟩:=CS (e:=b) E7 rfl Bs p;have K:=(CS (e:=b) q rfl Bs p).1;show LeavesIn F.plain m prog f88 _ _ _ (.panicking (sA b)) w2;refine leavesIn_cons (f:=154) (args:=#[.pointer (some ⟨w.heap.size,0,none⟩)]) aE (λo=>by rw[show F.plain.depth=F.depth from rfl,k.2.1]at o;cases o) (by simp[go_sem]) (λg hg=>k.1 g) ?_;refine(WR k _ _ 0 b _ hc hz az).mono ?_;rintro e u' qy⟨rfl,rfl,rfl⟩;simp[LeavesIn,settle,results,results88,go_sem,K];exact⟨g3,.v,q,((V.trans B).trans G).trans J⟩
 exact key
theorem acE{b:Bool}{a:Int}(c:iZ (fs++cs))(h:O6 prog U g (fs++cs) b (.aM []) (sA a)):ad U 88 [.fn (.func g) fs cs] (iv (if b then 0 else a)):=by cases b with|true=>exact acC c (h.1 rfl)|false=>exact acD c (h.2 rfl)
section
attribute [local irreducible] aq aG D I
def au5:=aD func58 call58
def jA:=[5,0,17,58,66,4,3,2,16,18,15,50,57,59,56,7,65,67,64,9,11,76]
def fU(_:Unit):AV:=.agg []
theorem uj{B:Nat}{O:Hd}{kv:List (Int×Unit)}:jm B (.mp (O.h (ec fU) kv)):=by rw[O.eq];intro e b;obtain⟨p,_,rfl⟩:=aE_.1 b;exact .agg λa c=>by cases c
def D7(kv:List (Int×Unit))(v:Int):Bool:=(aN kv v).isSome
theorem QY(kv:List (Int×Unit))(i v:Int):D7 (iA kv i ()) v=(D7 kv v||i==v):=by unfold D7;rw[dm];by_cases h:i=v;rw[if_pos h];simp[h];rw[if_neg h];simp[h]
theorem Zp(b:List Bd)(hl:b.length<=1099511627776)(T:∀x∈b,x.ok):ad U 58 [a_ O b] (.v (.bool (nc b))):=by
 let⟨R,g⟩:=au (nc b);rw[<-g];unfold nc at g;let⟨AP,B⟩:=au (vj b);rw[<-B]at g;refine st au5 jA .v ?_;refine I.int rfl (D.len rfl) λm C=>?_;rw[aA]at C;refine H jA ?_;refine I.QZ O fU rfl rfl λBo W=>?_;refine H jA ?_;refine I.int rfl (D.len rfl) λm1 dG=>?_;rw[aA]at dG;refine H jA ?_;refine I.eH (σ:=Int×List (Int×Unit)) 1 1 [] (λp=>[(0,a_ O b),(3,.mp 0),(15,a_ O b),(16,.v (.int .i64 m1)),(17,.v (.int .i64 p.1))]) [] (λp=>[(0,.mp (O.h (ec fU) p.2))]) (λp=>∃(k:Nat) (E:Option Bd),p.1=k/\k<=b.length/\R=(lj MF Qu E (b.drop k)&&AP)/\CM b k E/\∀v,D7 p.2 v=kC (b.take k) v) (λp=>b.length-p.1.toNat) (0,Bo) ⟨0,none,rfl,aE,by simpa using g,.inl ⟨rfl,rfl⟩,λv=>by rw[W];rfl⟩ rfl (by exact⟨sq,rfl,⟨.inl ⟨_,rfl,.same uj⟩,trivial⟩,rfl,rfl,rfl⟩) ?_;rintro⟨i,h⟩ ⟨k,E,F,eF,a,tt,n⟩;simp only at F n;clear g;refine H jA ?_;by_cases az:k<b.length
 ·let⟨x,e,G⟩:=aC az;let⟨J,K⟩:=T x (aZ e);have L:∀v,(kC (b.take k) v||x.v==v)=kC (b.take (k+1)) v:=λv=>by unfold kC;rw[bP_,e];simp
  rw[G,j_]at a;have f:=UI (U:=U) (O:=O) x.t J;let⟨d,o,r,s,w⟩:=x;dsimp only at f L;rw[MF]at a;dsimp only at a;let⟨V,Qw⟩:=au (cB ⟨o,r,s,w⟩);rw[<-Qw]at f a;rcases tt with⟨rfl,rfl⟩|⟨⟨yv,yk,yi,yn,ya⟩,hkp,hy,rfl⟩
  ·simp only[Bi,bC_]at a;repeat' first|refine og jA (D.bw F e) ?_|refine bg jA (D.bU rfl f ⟨bM (O:=O) ⟨o,r,s,w⟩,trivial⟩) (λ_=>?_) λ_=>?_|refine I.pj (v:=()) rfl rfl rfl rfl rfl λM N=>?_;refine H jA ?_|refine cg jA (λc=>?_) λc=>?_|refine lg jA λm C=>?_|refine ag jA λ_ _=>?_|refine xG jA ?_|refine rG jA ?_|refine fq ?_
   all_goals first|omega|refine aO ?_;rw[a,decide_eq_false (show¬0<=d by omega)];rfl|refine aO ?_;rw[a,decide_eq_false (show¬d<=1048576 by omega)];simp;done|refine aO ?_;rw[a,show V=false by assumption];simp;done|refine I.bu (_,M) [] ?_ ?_ (by exact⟨sq,rfl,⟨.inl ⟨_,rfl,.same uj⟩,trivial⟩,rfl,rfl,rfl⟩);refine⟨0+1,some _,by simp only;omega,X,?_,kc e,λv=>by simp only;rw[N,QY,n,L]⟩;rw[a,show V=true by assumption,decide_eq_true (show 0<=d by omega),decide_eq_true (show d<=1048576 by omega)];rfl;simp only;omega
  ·simp only[Bi,Qu]at a;repeat' first|refine og jA (D.bw F e) ?_|refine og jA (D.ind rfl rfl (du (l:=b) (k:=k-1) X hy) (cJ λ_=>rfl)) ?_|refine bg jA (D.bU rfl f ⟨bM (O:=O) ⟨o,r,s,w⟩,trivial⟩) (λ_=>?_) λ_=>?_|refine I.pj (v:=()) rfl rfl rfl rfl rfl λM N=>?_;refine H jA ?_|refine cg jA (λc=>?_) λc=>?_|refine lg jA λm C=>?_|refine ag jA λ_ _=>?_|refine xG jA ?_|refine rG jA ?_|refine fq ?_
   all_goals first|omega|refine aO ?_;rw[a,decide_eq_false (show¬0<=d by omega)];rfl|refine aO ?_;rw[a,decide_eq_false (show¬d<=1048576 by omega)];simp;done|refine aO ?_;rw[a,decide_eq_false (show¬yv<d by omega)];simp;done|refine aO ?_;rw[a,show V=false by assumption];simp;done|refine I.bu (_,M) [] ?_ ?_ (by exact⟨sq,rfl,⟨.inl ⟨_,rfl,.same uj⟩,trivial⟩,rfl,rfl,rfl⟩);refine⟨k+1,some _,by simp only;omega,X,?_,kc e,λv=>by simp only;rw[N,QY,n,L]⟩;rw[a,show V=true by assumption,decide_eq_true (show 0<=d by omega),decide_eq_true (show d<=1048576 by omega),decide_eq_true (show yv<d by omega)];rfl;simp only;omega
 rw[ar_ X,sv,az_,B,vj]at a;have qR:∀v,D7 h v=kC b v:=λv=>by rw[n,aW_ X]
 clear B n W;repeat' first|refine I.int rfl (D.len rfl) λm2 iW=>?_;rw[aA]at iW;refine H jA ?_|refine cg jA (λc=>?_) λc=>?_|refine xG jA ?_
 all_goals first|omega|skip
 refine bL 1 1 [] (λj=>[(3,.mp 0),(56,a_ O b),(57,.v (.int .i64 m2)),(58,.v (.int .i64 j))]) [] (λ_=>[(0,.mp (O.h (ec fU) h))]) b.length (λq=>R=(b.drop q).all λx=>(varsOf [x.t]).all λv=>!kC b v) (by simpa using a) (hC:=by exact⟨sq,rfl,⟨.inl ⟨_,rfl,.same uj⟩,trivial⟩,rfl,rfl,rfl⟩) λj q hj hq y=>?_;clear a;refine H jA ?_;by_cases jK:q<b.length
 ·let⟨x,e,G⟩:=aC jK;let⟨J,K⟩:=T x (aZ e);rw[G,aL_]at y;have Q:(a7 [x.t]).length<=1099511627776:=by rw[a7,a7,aI_];exact aD_ (p_ _) K
  have f:=YW (U:=U) (O:=O) x.t J (by first|exact aD_ (p_ _) K);have xH:(varsOf [x.t]).length<=1099511627776:=aD_ (lQ _ _) Q;let⟨A,m7⟩:=au (varsOf [x.t]);rw[<-m7]at y f xH;let⟨d,o,r,s,w⟩:=x;repeat' first|refine og jA (D.bw hj e) ?_|refine og jA (D.bU rfl f ⟨bM (O:=O) ⟨o,r,s,w⟩,trivial⟩) ?_|refine I.int rfl (D.len rfl) λm3 NU=>?_;rw[aA]at NU;refine H jA ?_|refine cg jA (λc=>?_) λc=>?_|refine xG jA ?_|refine fq ?_
  all_goals first|omega|skip
  refine bL 2 2 [] (λt=>[(3,.mp 0),(56,a_ O b),(57,.v (.int .i64 m2)),(58,.v (.int .i64 j)),(64,aQ O aH false A),(65,.v (.int .i64 m3)),(66,.v (.int .i64 t))]) [] (λ_=>[(0,.mp (O.h (ec fU) h))]) A.length (λk=>R=(((A.drop k).all λv=>!kC b v)&&(b.drop (q+1)).all λx=>(varsOf [x.t]).all λv=>!kC b v)) (by simpa using y) (hC:=by exact⟨sq,rfl,⟨.inl ⟨_,rfl,.same uj⟩,trivial⟩,rfl,rfl,rfl⟩) λt k ht hk z=>?_;clear y;refine H jA ?_;by_cases s8:k<A.length
  ·let⟨v,hv,Qv⟩:=aC s8;rw[Qv,aL_,<-qR v]at z;repeat' first|refine og jA (D.bw ht hv) ?_|refine I.look rfl rfl rfl rfl (λu S=>?_) λS=>?_<;>refine H jA ?_|refine cg jA (λc=>?_) λc=>?_|refine ag jA λ_ _=>?_|refine xG jA ?_|refine rG jA ?_|refine fq ?_
   all_goals first|omega|refine aO ?_;rw[z,show D7 h v=true by rw[D7,S];rfl];rfl|exact cw _ [] (k+1) (by rw[z,show D7 h v=false by rw[D7,S];rfl];rfl) (hC:=by exact⟨sq,rfl,⟨.inl ⟨_,rfl,.same uj⟩,trivial⟩,rfl,rfl,rfl⟩)
  ·rw[ar_ X,bn_,az_]at z;repeat' first|refine cg jA (λc=>?_) λc=>?_|refine ag jA λ_ _=>?_|refine xG jA ?_
   all_goals first|omega|exact cw _ [] (q+1) z (hC:=by exact⟨sq,rfl,⟨.inl ⟨_,rfl,.same uj⟩,trivial⟩,rfl,rfl,rfl⟩)
 ·skip;repeat' first|refine cg jA (λc=>?_) λc=>?_|refine xG jA ?_|refine fq ?_
  all_goals first|omega|rw[y,ar_ X];exact aO rfl
end
end Go.Proofs.YtbdcmpknicjopaaGreat
