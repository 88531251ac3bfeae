import Derived.RecoverIn
import Derived.TacticsIn
import Derived.TacticsInMore
import Derived.Test.YtbdcmpknicjopaaGreatProg
import Derived.Test.YtbdcmpknicjopaaGreatTo32
namespace Go.Proofs.YtbdcmpknicjopaaGreat
set_option linter.all false
set_option maxRecDepth 100000
open Go.RowKit Proofs.Tryz
variable{B b0:Nat}{O:Hd}{S:ao}{U w:World}{ds:List Dc}{ps:List MemPlace}{s:List Im×Bool}{sp:Nat->Bool}{u:List Bd}{v:Value}{zzH:Type}{d:DataW zzH}{enc:TypeId×Value->zzH}
variable{r:Rl}
section
attribute [local irreducible] aq aG D I
structure Frm where
 g:Gl
 id:Int
 occ:Int
def frR(O:Hd)(x:Frm):List AV:=[iv x.g.op,.v (.string x.g.n),tl O x.g.a,iv x.id,iv x.occ]
def frs(O:Hd)(l:List Frm):AV:=aQ O (frR O) false l
def awp:=aD func49 call49
def g49:=[1,2,0]
def awq:=aD func25 call25
def g25:=[1,3,2,0]
theorem aiL(r:Rl)(h:r.aP.length+r.rem.length<=549755813888):ad U 49 [rl O r] (iv ((r.aP.length+r.rem.length:Nat):Int)):=by
 let⟨n,a,c,g,b,v⟩:=r;dsimp only at h⊢;let⟨R,d⟩:∃R:Int,R=((a.length+c.length:Nat):Int):=⟨_,rfl⟩;rw[<-d];refine st awp g49 .v ?_;repeat' first|refine lg g49 λm e=>?_|refine ag g49 λ_ _=>?_|refine fq ?_
 all_goals subst_vars;exact dA X
theorem xg(r:Rl)(h:r.aP.length+r.rem.length<=549755813888):ad U 25 [rl O r] (dW O (r.aP++r.rem)):=by
 have a:=aiL (U:=U) (O:=O) r h;have i:=fQ (O:=O) r;let⟨n,c,d,g,b,v⟩:=r;dsimp only at h a⊢;let⟨R,j⟩:=au (c++d);rw[<-j];let⟨N,k⟩:=au (c.length+d.length);rw[<-k]at a;let⟨M,e⟩:∃M:Int,M=(N:Int):=⟨_,rfl⟩;rw[<-e]at a;refine st awq g25 (bP _) ?_;repeat' first|refine og g25 (D.bU rfl a ⟨i,trivial⟩) ?_
 refine I.avV (m:=N) O (atR O) rfl rfl rfl e rfl X X λs t=>?_;refine H g25 ?_;refine I.amA (f:=atR O) (ys:=c) rfl rfl rfl Z rfl (λ_=>rfl) (λ_=>rfl) Z λu w x o=>?_;refine H g25 ?_;refine I.amA (f:=atR O) (ys:=d) rfl rfl rfl o rfl (λ_=>rfl) (λ_=>rfl) Z λp y z q=>?_;refine H g25 ?_;refine fq ?_;cases(Z:p=R);exact aL.avW rfl q
def qf8:=aD func8 call8
def g8:=[3,18,6,2,51,9,5,7,4,0,1,19,17,45,50,52,49,64,12,87]
def Cw(O:Hd)(i j:Int)(s:dp)(a b:List Int):List AV:=[iv i,iv j,dI O s.goals,mH O s.store,a_ O s.binds,mX O s.bE,dI O s.known,iv s.next,iv s.fresh,.v (.bool s.failed),aQ O aH false a,aQ O aH false b]
def EM(st:List Im)(F:List Int->Bool)(MP:List Int):List Int->Bool|[]=>F MP|n::l=>decide (0<=n)&&match st[n.toNat]? with|some x=>EM st F (MP++[x.id]) l|none=>false
def r8(a:List Rl)(st:List Im)(F:List Int->Bool)(k:Int)(h:List Int):Bool :=decide (0<=k)&&match a[k.toNat]? with|some r=>decide (h.length=(r.aP++r.rem).length)&&EM st F [] h|none=>false
theorem OJ(p:Pg)(s:dp)(i j:Int)(a b:List Int)(F:Int->List Int->Bool)(mJ:∀r∈p.rs,r.aP.length+r.rem.length<=549755813888)(ha:a.length<=1000000)(v:b.length<=1000000)(hF:∀k ids,ids.length<=1000000->∃w N,Pure w/\ad U 16 [pg O p,yT O s,iv k,aQ O aH false ids] (.aM [w,iv N,.v (.bool (F k ids))])):ad U 8 [pg O p,.agg (Cw O i j s a b)] (.v (.bool (r8 p.rs s.store (F i) i a&&r8 p.rs s.store (F j) j b))):=by
 have lA:=lx (O:=O) p;have pQ:=nv (O:=O) s;have hH:=λr hr=>xg (U:=U) (O:=O) r (mJ r hr);let⟨A,G⟩:=au (r8 p.rs s.store (F i) i a);let⟨B,J⟩:=au (r8 p.rs s.store (F j) j b);rw[<-G,<-J];obtain⟨ds,C⟩:=p;obtain⟨M,u,P,Q,R,S,T,V⟩:=s;dsimp only at hH mJ G J;have KU:Pure (.agg [iv i,iv j]):=.agg (s_ .v .v);refine st qf8 g8 .v ?_;refine bL 2 2 [(0,0),(1,1)] (λn=>[(2,.pt 0 2 0 0),(3,.pt 1 12 0 0),(17,.agg [iv i,iv j]),(18,iv n)]) [] (λ_=>[(0,.arr 2 [oP O ⟨ds,C⟩] 0 true),(1,.arr 12 [Cw O i j ⟨M,u,P,Q,R,S,T,V⟩ a b] 0 true)]) 2 (λk=>(A&&B)=([A,B].drop k).all id) (by simp) ?_;rintro n k hn hk d;refine H g8 ?_;refine cg g8 (λaz=>?_) λaz=>?_;rotate_left;obtain rfl:k=2:=by omega
 refine xG g8 ?_;refine fq ?_;rw[d];exact aO rfl;have az:k<2:=by omega
 let⟨c,h,e,hh,g,d,hc⟩:∃(c:Int) (h:List Int) (e:Bool),h.length<=1000000/\e=r8 C u (F c) c h/\(A&&B)=(e&&([A,B].drop (k+1)).all id)/\(k=0/\c=i/\h=a\/k=1/\c=j/\h=b):=by rcases(by omega:k=0\/k=1) with rfl|rfl;exact⟨i,a,A,ha,G,d,.inl ⟨rfl,rfl,rfl⟩⟩;exact⟨j,b,B,v,J,d,.inr ⟨rfl,rfl,rfl⟩⟩
 let⟨E,hE⟩:=au (([A,B].drop (k+1)).all id);rw[<-hE]at d;clear G J;unfold r8 at g;cases z:C[c.toNat]? with
 |none =>
  have hle:=cn_.1 z;rw[z,bx_]at g;subst g;rw[bm_]at d;rcases hc with⟨W,rfl,rfl⟩|⟨W,rfl,rfl⟩;rotate_left;obtain rfl:n=1:=by omega
  rotate_left;obtain rfl:n=0:=by omega
  all_goals
   repeat' first|refine cg g8 (λv=>?_) λv=>?_|refine lg g8 λm hm=>?_|refine og g8 (D.Cj rfl rfl rfl (by decide) (by decide)) ?_|refine rG g8 ?_;refine fq ?_
   all_goals first|exfalso;omega|rw[d];exact aO rfl|skip
 |some r =>
  have jK:=(aC_.1 z).1;have hP:=hH r (as_ z);have tF:=fQ (O:=O) r;rw[z]at g;dsimp only at g;let⟨L,hL⟩:=au (r.aP++r.rem);rw[<-hL]at hP g;rcases hc with⟨W,rfl,rfl⟩|⟨W,rfl,rfl⟩;rotate_left;obtain rfl:n=1:=by omega
  rotate_left;obtain rfl:n=0:=by omega
  all_goals
   repeat' first
    |refine cg g8 (λv=>?_) λv=>?_|refine lg g8 λm hm=>?_|refine og g8 (D.Cj rfl rfl rfl (by decide) (by decide)) ?_|refine og g8 (D.qS rfl rfl (by decide) (by decide)) ?_
    |(have we:c=(c.toNat:Int):=by omega
      refine og g8 (D.bw we z) ?_)|refine og g8 (pl hP) ?_|refine rG g8 ?_;refine fq ?_
   all_goals first|exfalso;omega|rw[d,g,decide_eq_false (show¬(0:Int)<=c by omega)];exact aO rfl|rw[d,g,decide_eq_false (show¬h.length=L.length by omega)];refine aO ?_;simp;done|skip
  all_goals
   have gK:h.length=L.length:=by omega
   rw[decide_eq_true (show(0:Int)<=c by omega),decide_eq_true gK,az_,az_]at g;first|refine cW (τ:=List Int×Nat) 2 3 [] (λp=>[(2,.pt 0 2 0 0),(3,.pt 1 12 0 0),(5,iv 0),(6,iv c),(7,.gr 2 1 p.2.2),(17,.agg [iv c,iv j]),(18,iv 0),(49,aQ O aH false h),(50,iv m),(51,iv p.1)]) [] (λp=>[(0,.arr 2 [oP O ⟨ds,C⟩] 0 true),(1,.arr 12 [Cw O c j ⟨M,u,P,Q,R,S,T,V⟩ h b] 0 true),(2,.arr 1 (O.h (List.map aH) p.2.1) 0 false)]) h.length (λk p=>e=EM u (F c) p.2.1 (h.drop k)/\p.2.2=p.2.1.length/\p.2.1.length=k) ([],0) ⟨g,rfl,rfl⟩ ?_|refine cW (τ:=List Int×Nat) 2 3 [] (λp=>[(2,.pt 0 2 0 0),(3,.pt 1 12 0 0),(5,iv 1),(6,iv c),(7,.gr 2 1 p.2.2),(17,.agg [iv i,iv c]),(18,iv 1),(49,aQ O aH false h),(50,iv m),(51,iv p.1)]) [] (λp=>[(0,.arr 2 [oP O ⟨ds,C⟩] 0 true),(1,.arr 12 [Cw O i c ⟨M,u,P,Q,R,S,T,V⟩ a h] 0 true),(2,.arr 1 (O.h (List.map aH) p.2.1) 0 false)]) h.length (λk p=>e=EM u (F c) p.2.1 (h.drop k)/\p.2.2=p.2.1.length/\p.2.1.length=k) ([],0) ⟨g,rfl,rfl⟩ ?_
   rintro q k2⟨MP,len⟩hq eF⟨o,h2,h3⟩;simp only at o h2 h3;refine H g8 ?_;refine cg g8 (λhl=>?_) λhl=>?_
   ·let⟨y,hy,en⟩:=aC (l:=h) (k:=k2) (by omega);rw[en,EM]at o;refine og g8 (D.bw hq hy) ?_;repeat' first|refine cg g8 (λv=>?_) λv=>?_|refine lg g8 λm hm=>?_|refine rG g8 ?_;refine rG g8 ?_;refine fq ?_;rw[d,o,decide_eq_false (show¬(0:Int)<=y by omega)];exact aO rfl|refine rG g8 ?_;refine rG g8 ?_;refine fq ?_;rw[d,o,cC_ (show u.length<=y.toNat by omega)];refine aO ?_;simp;done
    cases hs:u[y.toNat]? with|none=>have:=cn_.1 hs;omega|some x =>
     rw[hs,decide_eq_true (show(0:Int)<=y by omega),az_]at o;have AG:y=(y.toNat:Int):=by omega
     refine og g8 (D.bw AG hs) ?_;refine I.app (x:=x.id) (f:=aH) rfl rfl rfl h2 (λ_=>rfl) rfl rfl rfl rfl (by omega) λdE dg dP nk=>?_;refine H g8 ?_;refine ag g8 λ_ _=>?_;subst dP;exact cO (_,_,_) [(2,3)] (k2+1) ⟨o,nk,by simp only[ay_,bf_];omega⟩
   obtain rfl:k2=h.length:=by omega
   rw[dD_,EM]at o;let⟨w,N,hZ,K⟩:=hF c MP (by omega);refine xG g8 ?_;refine I.Aj (Cv.freeze (t:=81) rfl rfl (.inl rfl) (h2.trans (aA (O:=O) (f:=aH)).symm) (aF_ _)) ?_;cases hf:F c MP with|false =>rw[hf]at K o;refine og g8 (D.bU rfl K (by exact⟨lA,pQ,.v,a8 _,trivial⟩)) ?_;refine rG g8 ?_;refine fq ?_;rw[d,o];exact aO rfl|true =>rw[hf]at K o;refine og g8 (D.bU rfl K (by exact⟨lA,pQ,.v,a8 _,trivial⟩)) ?_;refine ag g8 λ_ _=>?_;exact cw _ [] (k+1) (by rw[d,o,az_,hE])
end
theorem arZ(n:Nat):bY prog n 34 2 (λx:List Int×List Int=>[aQ .plain aH false x.1,aQ .plain aH false x.2]) λ_=>0:=by
 intro zzH enc w sp held m s f d t h;let⟨g,k,u,_,_,z,l⟩:=DataW.trod_array underlying34 h;have q (i:Nat) (o:i<2):∃y,g[i]?=some y/\DataW.trod enc prog w 0 sp held k 33 ((f.drop i).take (prog.cellsOf 33))=some y:=by have b:=l i o;rw[show prog.cellsOf 33=1 by kernel_rfl,Nat.mul_one,ax_ (by omega)]at b;exact⟨_,ax_ (by omega),b⟩
 let⟨x0,_,_,p⟩:=bY.part (i:=0) (n:=k+1) (MJ (k+1)) X (by kernel_rfl) X (q 0 X);let⟨r,_,_,b⟩:=bY.part (i:=1) (n:=k+1) (MJ (k+1)) X (by kernel_rfl) X (q 1 X);refine⟨(x0,r),aF_ _,rfl,λj a v c e=>?_⟩;match j with|0=>exact p 0 a v c e|1=>exact b 0 a v c e|j+2=>cases c
section
variable{r:Reach}{held:Bool}
theorem aeg(q:Value.okWide prog w r b0 36 v)(h:DataW.Trod enc prog w 0 sp held 36 v d ps):∃x:(Int×Int)×dp×List Int×List Int,QD x.2.1<=Rows.uptoBulk d/\aT (g0 w) w (.agg (Cw .plain x.1.1 x.1.2 x.2.1 x.2.2.1 x.2.2.2)) v:=by
 let⟨fuel,g⟩:=h;obtain⟨f,rfl,s⟩:=K7 underlying36 q;have j:f.size=12:=s.trans (by kernel_rfl);have t:f.toList.length=12:=by rw[bu_];exact j
 obtain⟨k,l,rfl,u,z,g⟩:=bY.fields underlying36 g;have m:=kO (xs:=l);rw[u]at m;let⟨x0,b0,_,A⟩:=bY.part (i:=0) (n:=k+1) (bY.int underlying3) X (by kernel_rfl) (show 0+1<=f.toList.length by omega) (g 0 3 0 rfl);let⟨B,F,_,C⟩:=bY.part (i:=1) (n:=k+1) (bY.int underlying3) X (by kernel_rfl) (show 1+1<=f.toList.length by omega) (g 1 3 1 rfl);let⟨E,G,_,e⟩:=bY.part (i:=2) (n:=k+1) (aki (k+1)) X (by kernel_rfl) (show 2+8<=f.toList.length by omega) (g 2 32 2 rfl);let⟨o,J,_,p⟩:=bY.part (i:=3) (n:=k+1) (arZ (k+1)) X (by kernel_rfl) (show 10+2<=f.toList.length by omega) (g 3 34 10 rfl);refine⟨((x0,B),E,o.1,o.2),?_,.agg (by rw[j];rfl) λi a y c b=>?_⟩;rw[z,<-m];simp only[bv_,aH_,bd_,nw,Nat.reduceAdd]at*;omega;have b:f.toList[i]?=some y:=by rw[<-b];exact bq_
 match i with|0=>exact A 0 a y c b|1=>exact C 0 a y c b|2=>exact e 0 a y c b|3=>exact e 1 a y c b|4=>exact e 2 a y c b|5=>exact e 3 a y c b|6=>exact e 4 a y c b|7=>exact e 5 a y c b|8=>exact e 6 a y c b|9=>exact e 7 a y c b|10=>exact p 0 a y c b|11=>exact p 1 a y c b|i+12=>cases c
end
section
attribute [local irreducible] aq aG D I
def Pp:=aD func262 call262
def AY:=[0,2,4]
def aiM{sz:Nat}{ex:Bool}(l:List Bd):jm B (.arr sz (O.h (List.map (bS O)) l) 0 ex):=jP λx _ a b=>mD x a b
theorem X7(A:Option Addr)(c:Nat):ad U 262 [.v (.slice A 0 c)] (.sl true []):=by cases A with|none =>refine st Pp AY (.sl λr h=>Z) ?_;refine og AY (D.nil (b:=true) rfl rfl) ?_;refine fq ?_;exact .refl _|some A =>refine st Pp AY (.sl λr h=>Z) ?_;refine og AY (D.nil (b:=false) rfl rfl) ?_;refine og AY (D.D5 rfl rfl) ?_;refine fq ?_;exact .refl _
theorem Tk:ad U 262 [a_ O []] (.sl true []):=by rw[a_,bN];exact aq.emp X7
theorem aeh(x:Bd)(l:List Bd)(c:(x::l).length<=100000000000):aG prog U 262 [a_ O (x::l)] (aw [] 0) (.gr 0 5 (x::l).length) (aw [(0,.arr 5 (O.h (List.map (bS O)) (x::l)) 0 false)] 1):=by
 let⟨R,a⟩:=au (x::l);have d:Am (a_ O R)=some false:=by rw[a,a_,bN];rfl
 rw[<-a]at c⊢;refine sc 0 1 Pp ?_;refine H AY ?_;refine og AY (D.nil d rfl) ?_;refine I.pZ (f:=bS O) (ys:=R) rfl rfl rfl (λ_=>rfl) X λh len e b=>?_;have b:len=R.length:=Z;subst e;rw[<-b];refine H AY ?_;refine fq ?_;exact⟨[(0,0)],.jz rfl rfl,⟨.inl ⟨_,rfl,.same (aiM _)⟩,trivial⟩,rfl⟩
def ar0:=aD func336 call336
def am7:=[3,0,2,1]
def gtI(e:List Bd)(y:Bd):Int:=de (λx=>decide (y.v<x.v)) e 0
theorem L6{T:Type}(p:T->Bool):∀(l:List T)(k j:Nat),de p l k=((k+j:Nat):Int)->(∀i x,i<j->l[i]?=some x->p x=false)/\∃x,l[j]?=some x/\p x=true|[],k,j,h=>by grind[de]|a::l,k,j,h=>by rw[de]at h;by_cases c:p a=true;grind;rw[if_neg c]at h;cases j with|zero=>exfalso;have:=VX p l (k+1);omega|succ j =>let⟨h1,x,h2,h3⟩:=L6 p l (k+1) j Z;refine⟨λi z hi hz=>?_,x,Z,h3⟩;cases i with|zero=>cases oJ_ hz;exact di_.2 c|succ i=>exact h1 i z X Z;where VX {T:Type}(p:T->Bool):∀(l:List T)(k:Nat),de p l k=-1\/(k:Int)<=de p l k|[],k=>.inl rfl|a::l,k=>by rw[de];split;grind;rcases VX p l (k+1) with h|h;grind;grind
theorem aiN(e:List Bd)(y:Bd)(j:Nat)(h:gtI e y=j):j<e.length/\nq e y=e.take j++[y]++e.drop j:=by obtain⟨d,x,a,f⟩:=L6 _ e 0 j (by rw[aJ_];exact h);have b:=(aC_.1 a).1;refine⟨b,Iy e y j X (λi z g c=>?_) λz c=>?_⟩;grind;grind
theorem aei(e:List Bd)(y:Bd)(h:gtI e y<0):nq e y=e++[y]:=by have b:=CJ (λx:Bd=>decide (y.v<x.v)) e 0 h;rw[Iy e y e.length (aj_ _) (λi z c a=>?_) λz a=>Z,List.take_length,dD_,aI_];have:=List.find?_eq_none.1 b z (as_ a);rw[decide_eq_true_eq]at this;omega
theorem am8(x y:Bd):ad U 336 [bd O x,.ip (bS O y)] (.v (.bool (decide (y.v<x.v)))):=by
 let⟨i,k,j,n,a⟩:=x;let⟨c,d,e,f,g⟩:=y;refine st ar0 am7 .v ?_;repeat' first|refine cg am7 (λb=>?_) λb=>?_|refine fq ?_
 all_goals refine aO ?_;simp_all
end
theorem aej(e:List Bd)(y:Bd)(h0:0<e.length)(j:e.length<=10000000000):aG prog U 337 [.gr 0 5 e.length,iv e.length,.sl true [bS O y]] (aw [(0,.arr 5 (O.h (List.map (bS O)) e) 0 false)] 1) (.gr 1 5 (e.length+1)) (aw [(1,.arr 5 (O.h (List.map (bS O)) (e++[y])) 0 false)] 2):=by let⟨n,b⟩:=au e.length;rw[<-b]at h0 j⊢;let⟨i,c⟩:∃i:Int,i=n:=⟨_,rfl⟩;rw[<-c];let⟨W,d⟩:=au (e++[y]);rw[<-d];refine sc 1 2 XP ?_;refine H eY ?_;refine og eY (D.av6 (i:=n) rfl rfl rfl c (aj_ _) h0) ?_;refine b9 λk g=>?_;have g:k=1:=g;refine H eY ?_;refine cn (λa=>?_) λa=>?_;grind;clear a;refine H eY ?_;refine ig eY (D.kS rfl) λp q=>?_;refine cn (λa=>?_) λa=>?_;rotate_left;grind;clear a;refine H eY ?_;refine I.vh (f:=bS O) (ys:=[y]) rfl rfl rfl b (λ_=>rfl) (by rw[bN];rfl) (λ_=>rfl) (λ_=>rfl) Z λs l h m=>?_;rw[<-d]at h;have o:l=n+1:=Z;subst h o;clear m;refine H eY ?_;refine fq ?_;exact⟨[(1,1)],.jz rfl rfl,⟨.inl ⟨_,rfl,.same (Po _)⟩,trivial⟩,rfl⟩
theorem aek(y:Bd):aG prog U 337 [.sl true [],iv 0,.sl true [bS O y]] (aw [] 0) (.gr 0 5 1) (aw [(0,.arr 5 (O.h (List.map (bS O)) [y]) 0 false)] 1):=by let⟨i,d⟩:∃i:Int,i=0:=⟨_,rfl⟩;rw[<-d];refine sc 0 1 XP ?_;refine H eY ?_;refine og eY (D.acB (l:=i) (h:=0) rfl rfl rfl (λrow o=>Z) X X aJ) ?_;refine b9 λe b=>?_;have b:e=1:=b;refine H eY ?_;refine cn (λa=>?_) λa=>?_;grind;clear a;refine H eY ?_;refine b9 λg c=>?_;have c:g=0:=c;refine H eY ?_;refine cn (λa=>?_) λa=>?_;rotate_left;grind;clear a;refine H eY ?_;refine I.pZ (O:=O) (f:=bS O) (ys:=[y]) rfl rfl (by rw[bN];rfl) (λ_=>rfl) Z λq j k m=>?_;have n:j=1:=Z;rw[<-k];subst n;clear m;refine H eY ?_;refine fq ?_;exact⟨[(0,0)],.jz rfl rfl,⟨.inl ⟨_,rfl,.same (Po _)⟩,trivial⟩,rfl⟩
section
attribute [local irreducible] aq aG D I
def agG:=aD func323 call323
def uy:=[0,3,5,4,1,10]
theorem xh(l:List Bd):∀row∈O.h (List.map (bS O)) l,∀a∈row,Pure a:=by rw[O.eq];intro row b a c;obtain⟨x,_,rfl⟩:=aE_.1 b;exact mD x a c
theorem am9{i:Nat}{a:Ob}(h1:S.get i=some a):gQ S [(i,a)]:=by intro p b;cases ae_.1 b;exact h1
set_option maxHeartbeats 4000000 in theorem ext_cons(e:List Bd)(y:Bd)(h0:0<e.length)(G:e.length<=10000000000):ad U 323 [a_ O e,bd O y] (a_ O (nq e y)):=by
 have J:Pure (.fn (.func 336) [] [.ip (bS O y)]):=.fn (λa t=>Z) λa t=>by cases ae_.1 t;exact .ip λb c=>mD y b c
 have u:=Qh (U:=U) (O:=O) (λx=>decide (y.v<x.v)) e _ [] _ X J λx _=>⟨_,_,rfl,⟨uO x,.ip λb c=>mD y b c,trivial⟩,am8 x y⟩;let⟨g,f⟩:=au (gtI e y);have u:ad U 308 [a_ O e,.fn (.func 336) [] [.ip (bS O y)]] (iv g):=by rw[f];exact u
 let⟨W,o⟩:=au (nq e y);have r:=λj (h:gtI e y=(j:Nat))=>aiN e y j h;have v:=aei e y;rw[<-f,<-o]at v;rw[<-f,<-o]at r;rw[<-o];have w:∀q:Int,q=g/\0<=g\/g<0/\q=e.length->aG prog U 337 [.gr 0 5 e.length,iv q,.sl true [bS O y]] (aw [(0,.arr 5 (O.h (List.map (bS O)) e) 0 false)] 1) (.gr 1 5 (e.length+1)) (aw [(1,.arr 5 (O.h (List.map (bS O)) W) 0 false)] 2):=by rintro q(⟨z,A⟩|⟨z,A⟩);let⟨k,s⟩:=cP_ A;let⟨K,B⟩:=r k s;rw[z,s,B];exact adX e y k K G;rw[A,v z];exact aej e y h0 G
 have C:W.length=e.length+1:=by by_cases h:g<0;grind;let⟨k,s⟩:=cP_ (a:=g) X;let⟨K,B⟩:=r k s;rw[B,ay_,ay_,aV_,bi_,bf_];omega
 have E:aG prog U 262 [a_ O e] (aw [] 0) (.gr 0 5 e.length) (aw [(0,.arr 5 (O.h (List.map (bS O)) e) 0 false)] 1):=by cases e with|nil=>cases h0|cons x l=>exact aeh x l X
 clear f o r v;let⟨L,N⟩:=au e.length;rw[<-N]at w C E;have M:Pure (.sl true [bS O y]):=.sl λrow S a t=>by grind[mD]
 let⟨i,k,j,n,a⟩:=y;refine st agG uy (bH _) ?_;refine ig uy (D.tU rfl u ⟨bH _,J,trivial⟩ .v ⟨.refl _,aL.fns trivial ⟨aL.box (cs:=bS O ⟨i,⟨k,j,n,a⟩⟩) (cs':=bS O ⟨i,⟨k,j,n,a⟩⟩) rfl (jl.refl _ _),trivial⟩,trivial⟩) λq hq=>?_;refine cn (λc=>?_) λc=>?_;refine H uy ?_;refine b9 λm Q=>?_;rw[aA]at Q;have F:=w m (.inr ⟨X,X⟩);refine H uy ?_;refine I.eV rfl (bj.ja [] [] [(1,some (.arr 5 (O.h (List.map (bS O)) e) 0 false))] E rfl ⟨.pure (bH _),trivial⟩ (.gr rfl) (λp R=>Z) (λT d=>trivial) ⟨⟨0,_,rfl,rfl,.pure (xh _)⟩,trivial⟩) ?_;refine H uy ?_;refine I.eV rfl (bj.ja [(0,1)] [(1,.arr 5 (O.h (List.map (bS O)) e) 0 false)] [(1,none),(2,none),(3,some (.arr 5 (O.h (List.map (bS O)) W) 0 false))] F rfl ⟨.gr rfl rfl,.pure .v,.pure M,trivial⟩ (.gr rfl) (am9 rfl) (λT d=>⟨⟨_,d (1,_) aE,.pure (xh _)⟩,trivial⟩) ⟨⟨1,_,rfl,rfl,.pure (xh _)⟩,trivial⟩) ?_;refine H uy ?_;refine fq ?_;exact aL.grow rfl Z;have F:=w q (.inl ⟨X,X⟩);refine H uy ?_;refine I.eV rfl (bj.ja [] [] [(1,some (.arr 5 (O.h (List.map (bS O)) e) 0 false))] E rfl ⟨.pure (bH _),trivial⟩ (.gr rfl) (λp R=>Z) (λT d=>trivial) ⟨⟨0,_,rfl,rfl,.pure (xh _)⟩,trivial⟩) ?_;refine H uy ?_;refine I.eV rfl (bj.ja [(0,1)] [(1,.arr 5 (O.h (List.map (bS O)) e) 0 false)] [(1,none),(2,none),(3,some (.arr 5 (O.h (List.map (bS O)) W) 0 false))] F rfl ⟨.gr rfl rfl,.pure .v,.pure M,trivial⟩ (.gr rfl) (am9 rfl) (λT d=>⟨⟨_,d (1,_) aE,.pure (xh _)⟩,trivial⟩) ⟨⟨1,_,rfl,rfl,.pure (xh _)⟩,trivial⟩) ?_;refine H uy ?_;refine fq ?_;exact aL.grow rfl Z
set_option maxHeartbeats 4000000 in theorem ext_nil(y:Bd):ad U 323 [a_ O [],bd O y] (a_ O (nq [] y)):=by
 have h:Pure (.fn (.func 336) [] [.ip (bS O y)]):=.fn (λa c=>Z) λa c=>by cases ae_.1 c;exact .ip λb d=>mD y b d
 have l:ad U 308 [a_ O [],.fn (.func 336) [] [.ip (bS O y)]] (iv (-1)):=Qh (U:=U) (O:=O) (λx=>decide (y.v<x.v)) [] _ [] _ aJ h λx C=>Z;have o:=aek (U:=U) (O:=O) y;have s:=Tk (U:=U) (O:=O);let⟨W,t⟩:=au [y];have u:W.length=1:=Z;rw[show nq [] y=W from t.symm];have e:O.h (List.map (bS O)) [y]=O.h (List.map (bS O)) W:=Z;rw[e]at o;let⟨g,v⟩:∃g:Int,g=-1:=⟨_,rfl⟩;rw[<-v]at l;have w:Pure (.sl true [bS O y]):=.sl λrow z a c=>by grind[mD]
 let⟨i,k,j,n,a⟩:=y;refine st agG uy (bH _) ?_;refine ig uy (D.tU rfl l ⟨bH _,h,trivial⟩ .v ⟨.refl _,aL.fns trivial ⟨aL.box (cs:=bS O ⟨i,⟨k,j,n,a⟩⟩) (cs':=bS O ⟨i,⟨k,j,n,a⟩⟩) rfl (jl.refl _ _),trivial⟩,trivial⟩) λq F=>?_;refine cn (λd=>?_) λd=>?_;rotate_left;grind;refine H uy ?_;refine b9 λm f=>?_;rw[aA]at f;have f:m=0:=f;have B:aG prog U 337 [.sl true [],iv m,.sl true [bS O ⟨i,⟨k,j,n,a⟩⟩]] (aw [] 0) (.gr 0 5 1) (aw [(0,.arr 5 (O.h (List.map (bS O)) W) 0 false)] 1):=Z;refine H uy ?_;refine I.dF rfl (λT=>pl s) ?_;refine H uy ?_;refine I.eV rfl (bj.ja [] [] [(1,some (.arr 5 (O.h (List.map (bS O)) W) 0 false))] B rfl ⟨.pure (.sl λr z=>Z),.pure .v,.pure w,trivial⟩ (.gr rfl) (λp G=>Z) (λT J=>trivial) ⟨⟨0,_,rfl,rfl,.pure (xh _)⟩,trivial⟩) ?_;refine H uy ?_;refine fq ?_;exact aL.grow rfl Z
theorem X9(e:List Bd)(y:Bd)(a:e.length<=10000000000):ad U 323 [a_ O e,bd O y] (a_ O (nq e y)):=by cases e with|nil=>exact ext_nil y|cons x l=>exact ext_cons _ y (Nat.succ_pos _) a
def agI:=aD func324 call324
def ql:=[0,1,4,6,16]
theorem aiO(n:Int)(h0:0<n)(h1:n<=100000000000):aG prog U 324 [.sl true [],iv n] (aw [] 0) (.gr 0 8 0) (aw [(0,.arr 8 (O.h (List.map (Dp O)) []) 0 false)] 1):=by refine sc 0 1 agI ?_;refine H ql ?_;refine cn (λf=>?_) λf=>?_;grind;refine H ql ?_;refine ig ql (D.cap (m:=0) rfl) λc i=>?_;refine b9 λq b=>?_;have b:q=0:=b;refine H ql ?_;refine ag ql λd l=>?_;refine ag ql λe o=>?_;refine cn (λg=>?_) λg=>?_;rotate_left;grind;refine H ql ?_;refine og ql (D.cap (m:=0) rfl) ?_;refine og ql (D.av3 rfl rfl) ?_;refine og ql (D.art rfl rfl X X aJ) ?_;refine og ql (D.len rfl) ?_;refine I.op rfl (D.amK (j:=0) rfl rfl rfl aJ X) ?_;refine I.Aj (Cv.amT (O:=O) (Dp O) (t:=25) (k:=0) rfl rfl) ?_;refine H ql ?_;refine fq ?_;exact⟨[(0,0)],.jz rfl rfl,⟨.inl ⟨_,rfl,.same (jP λx _ a h=>AT x a h)⟩,trivial⟩,rfl⟩
def agJ:=aD func301 call301
def gw:=[11,3,27,0,6,2,10,12,9,5,20,26,28,25,8]
def B1(O:Hd)(x:List (Tm×Tm)):List AV:=[wD O x]
theorem Tl(L:List (List (Tm×Tm))):Pure (aQ O (B1 O) true L):=eW λx _ a b=>by cases ae_.1 b;exact oL x
theorem OK{T:Type}{L:List (List T)}{k:Nat}{x:List T}(h:L[k]?=some x):(L.take (k+1)).flatten=(L.take k).flatten++x:=by rw[bP_,h,dY_];simp
theorem aiP{T:Type}(L:List (List T))(k:Nat):(L.take k).flatten.length<=L.flatten.length:=by
 conv=>rhs;rw[<-dw_ k L,dY_,ay_]
 omega
theorem ael(l:List (Tm×Tm)):∀row∈O.h (List.map (Dp O)) l,∀a∈row,Pure a:=by rw[O.eq];intro row b a c;obtain⟨x,_,rfl⟩:=aE_.1 b;exact AT x a c
theorem aiQ:ad U 324 [.sl true [],iv 0] (.sl true []):=by let⟨n,g⟩:∃n:Int,n=0:=⟨_,rfl⟩;rw[<-g];refine st agI ql (.sl λr h=>Z) ?_;refine bq (λa=>?_) λa=>?_<;>(try simp only[bT]at a);grind;refine H ql ?_;refine I.int rfl (D.cap (m:=0) rfl) λc i=>?_;refine H ql ?_;refine b9 λq b=>?_;have b:q=0:=b;refine H ql ?_;refine cN λd j=>?_;refine H ql ?_;refine cN λe k=>?_;refine H ql ?_;refine bq (λf=>?_) λf=>?_<;>(try simp only[bT]at f);grind;refine H ql ?_;refine fq ?_;exact .refl _
theorem aem(L:List (List (Tm×Tm)))(J:L.length<=1000)(b:L.flatten=[]):ad U 301 [aQ O (B1 O) true L] (wD O []):=by
 have v:=aiQ (U:=U);have w:=Tl (O:=O) L;have a:∀x∈L,x=[]:=λx a=>by rw[List.flatten_eq_nil_iff]at b;exact b x a
 clear b;refine st agJ gw (oL _) ?_;refine b9 λm A=>?_;rw[aA]at A;refine H gw ?_;refine cW (τ:=Int) 0 0 [] (λp=>[(0,aQ O (B1 O) true L),(9,aQ O (B1 O) true L),(3,.v (.int .i64 p.2)),(10,.v (.int .i64 m)),(11,.v (.int .i64 p.1))]) [] (λp=>[]) L.length (λk p=>p.2=0) 0 rfl ?_;rintro i k z e M g;simp only at e g;refine H gw ?_;refine bq (λj=>?_) λj=>?_<;>(try simp only[bT]at j);rotate_left;·refine H gw ?_;refine I.gp ?_;rw[g];refine H gw ?_;refine I.op rfl (D.bU rfl v ⟨.sl λr h=>Z,.v,trivial⟩) ?_;refine H gw ?_;refine b9 λB C=>?_;rw[aA]at C;refine H gw ?_;refine I.eH (σ:=Int) 0 0 [] (λp=>[(25,aQ O (B1 O) true L),(6,.sl true []),(26,.v (.int .i64 B)),(27,.v (.int .i64 p))]) [] (λp=>[]) (λp=>∃k:Nat,p=k/\k<=L.length) (λp=>L.length-p.toNat) 0 ⟨0,rfl,aE⟩ rfl cz ?_;rintro P⟨n,E,Q⟩;refine H gw ?_;refine bq (λo=>?_) λo=>?_<;>(try simp only[bT]at o);rotate_left;refine H gw ?_;refine xG gw ?_;refine fq ?_;rw[wD,bN];exact aL.wk;let⟨y,s,R⟩:=aC (l:=L) (k:=n) X;cases a y (aZ s);refine H gw ?_;refine I.op rfl (D.ind rfl rfl (du (l:=L) E s) (cJ (f:=B1 O) (m:=1) λ_=>rfl)) ?_;refine H gw ?_;refine I.op rfl (D.MB rfl (by show iN _ (wD O [])=some [];rw[wD,bN];exact jt)) ?_;refine H gw ?_;refine cN λc F=>?_;refine H gw ?_;refine I.bu c [] ⟨n+1,X,X⟩ ?_ cz;omega
 let⟨x,t,S⟩:=aC (l:=L) (k:=k) X;cases a x (aZ t);refine H gw ?_;refine I.op rfl (D.ind rfl rfl (du (l:=L) e t) (cJ (f:=B1 O) (m:=1) λ_=>rfl)) ?_;refine H gw ?_;refine b9 λq d=>?_;rw[aA]at d;have d:q=0:=d;refine H gw ?_;refine cN λG T=>?_;refine H gw ?_;refine bq (λu=>?_) λu=>?_<;>(try simp only[bT]at u);grind;refine H gw ?_;refine cN λc F=>?_;refine H gw ?_;exact cO (c,G) [] (k+1) Z
theorem aen(L:List (List (Tm×Tm)))(hl:L.length<=1000)(h0:0<L.flatten.length)(h1:L.flatten.length<=100000000000):ad U 301 [aQ O (B1 O) true L] (wD O L.flatten):=by
 let⟨R,B⟩:=au L.flatten;have a:∀k,(L.take k).flatten.length<=L.flatten.length:=aiP L;rw[<-B]at h0 h1 a⊢;have g:=aiO (U:=U) (O:=O) R.length X X;let⟨n,C⟩:∃n:Int,n=R.length:=⟨_,rfl⟩;rw[<-C]at g;have E:=Tl (O:=O) L;refine st agJ gw (oL _) ?_;refine b9 λm F=>?_;rw[aA]at F;refine H gw ?_;refine cW (τ:=Int) 0 0 [] (λp=>[(0,aQ O (B1 O) true L),(9,aQ O (B1 O) true L),(3,.v (.int .i64 p.2)),(10,.v (.int .i64 m)),(11,.v (.int .i64 p.1))]) [] (λp=>[]) L.length (λk p=>p.2=(L.take k).flatten.length) 0 aE ?_;rintro i k z j hk J;simp only at j J;refine H gw ?_;refine bq (λo=>?_) λo=>?_<;>(try simp only[bT]at o);rotate_left;·refine H gw ?_;refine I.gp ?_;cases(Z:z=n);refine H gw ?_;refine I.op rfl (D.ja [] [(0,some (.arr 8 (O.h (List.map (Dp O)) []) 0 false))] g rfl ⟨.pure (.sl λr h=>Z),.pure .v,trivial⟩ (.gr rfl) trivial ⟨⟨0,_,rfl,rfl,.pure (ael _)⟩,trivial⟩) ?_;refine H gw ?_;refine b9 λK M=>?_;rw[aA]at M;refine H gw ?_;refine cW (τ:=List (Tm×Tm)×Nat) 1 2 [(1,0)] (λp=>[(25,aQ O (B1 O) true L),(6,.gr 1 8 p.2.2),(26,.v (.int .i64 K)),(27,.v (.int .i64 p.1))]) [] (λp=>[(1,.arr 8 (O.h (List.map (Dp O)) p.2.1) 0 false)]) L.length (λk p=>p.2.1=(L.take k).flatten/\p.2.2=p.2.1.length) ([],0) ⟨aE,rfl⟩ ?_;rintro i2 b⟨N,len⟩s eF⟨t,c⟩;simp only at s t c;refine H gw ?_;refine bq (λu=>?_) λu=>?_<;>(try simp only[bT]at u);rotate_left;refine H gw ?_;refine xG gw ?_;refine fq ?_;cases(Z:N=R);exact aL.grow rfl c;let⟨y,v,en⟩:=aC (l:=L) (k:=b) X;have d:=a (b+1);rw[OK v,ay_,<-t]at d;refine H gw ?_;refine I.op rfl (D.ind rfl rfl (du (l:=L) s v) (cJ (f:=B1 O) (m:=1) λ_=>rfl)) ?_;refine H gw ?_;refine I.vh (f:=Dp O) (ys:=y) rfl rfl rfl c (λ_=>rfl) rfl (λ_=>rfl) (λ_=>rfl) X λP Q h3 S=>?_;refine H gw ?_;refine cN λe T=>?_;refine H gw ?_;exact cO (e,P,Q) [(1,2)] (b+1) ⟨Z,S⟩
 let⟨x,w,aS⟩:=aC (l:=L) (k:=k) X;have d:=a (k+1);rw[OK w,ay_]at d;refine H gw ?_;refine I.op rfl (D.ind rfl rfl (du (l:=L) j w) (cJ (f:=B1 O) (m:=1) λ_=>rfl)) ?_;refine H gw ?_;refine b9 λq V=>?_;rw[aA]at V;refine H gw ?_;refine cN λW YI=>?_;refine H gw ?_;refine bq (λA=>?_) λA=>?_<;>(try simp only[bT]at A);grind;refine H gw ?_;refine cN λe T=>?_;refine H gw ?_;exact cO (e,W) [] (k+1) Z
theorem aeo(a b:List (Tm×Tm))(h:(a++b).length<=100000000000):ad U 301 [.sl true [[wD O a],[wD O b]]] (wD O (a++b)):=by
 have e:(.sl true [[wD O a],[wD O b]]:AV)=aQ O (B1 O) true [a,b]:=by rw[bN];rfl
 have c:[a,b].flatten=a++b:=aE;rw[e];by_cases d:(a++b).length=0;grind[aem];grind[aen]
end
theorem aq.G0{P:Program}{g:Nat}{l:List AV}{r a:AV}(h:aq P U g l r)(b:∀S,aL S r a)(c:Pure a):aq P U g l a:=by let⟨_,e,d⟩:=h;exact aq.Ae d (b _) c
section
attribute [local irreducible] aq aG D I
def L7:=aD func300 call300
def pL:=[3,0,10,7,4,5,6,1,11,19,37,62]
def ar1:=aD func261 call261
def yL:=[1,0,4,5,11,8,22,6,7]
def agK:=aD func202 call202
def EN:=[4,5,6,7,1,2,21,0]
def prv(O:Hd)(p:Tm×Tm):AV:=.agg (Dp O p)
def To(O:Hd)(E:List Bd)(L:List (Tm×Tm))(B:Bool):AV:=.aM [a_ O E,wD O L,.v (.bool B)]
def yh(E:List Bd)(L:List (Tm×Tm))(B:Bool):Pure (To O E L B):=.aM (M_ (bH _) (oL _) .v)
theorem Pq{a a' c c':AV}{b:Bool}(h:aL S a a')(k:aL S c c'):aL S (.aM [a,c,.v (.bool b)]) (.aM [a',c',.v (.bool b)]):=by refine .aM rfl λi x f d e=>?_;match i,d,e with|0,d,e=>cases oJ_ d;cases oJ_ e;exact h|1,d,e=>cases oJ_ d;cases oJ_ e;exact k|2,d,e=>cases oJ_ d;cases oJ_ e;exact .refl _
theorem EO:aL S (.sl true []) (wD O []):=by rw[wD,bN];exact aL.wk
theorem HQ:aL S (.sl true []) (a_ O []):=by rw[a_,bN];exact aL.wk
def Nl(p:Tm×Tm):Prop:=p.1.ok/\p.2.ok
theorem Tp:∀{a b:List Tm},dO a->dO b->∀q∈a.zip b,Nl q|[],b,_,_,q,h=>by rw[dz_]at h;cases h|x::a,[],_,_,q,h=>by rw[List.zip_nil_right]at h;cases h|x::a,y::b,c,d,q,h=>by rw[dO]at c d;rw[dc_]at h;rcases al_.1 h with rfl|h;exact⟨c.1,d.1⟩;exact Tp c.2 d.2 q h
theorem VY{t:Tm}(h:t.ok):dO t.a:=by let⟨k,i,n,a⟩:=t;rw[Tm.ok]at h;exact h.2.2
theorem aa2{e:List Bd}{p:Tm×Tm}(c:fC e)(a:Nl p):fC (gV e p).1/\(∀q∈(gV e p).2.1,Nl q)/\(gV e p).1.length+pc (gV e p).2.1<=e.length+cL p.1:=by unfold gV;have:=ff p.1;split;split;grind[pc];exact⟨c.ins a.2,λq h=>Z,by grind[pc,JT]⟩;split;split;have d:=Ik p.1.a p.2.a;exact⟨c,Tp (VY a.1) (VY a.2),Z⟩;exact⟨λb h=>Z,λq h=>Z,by grind[pc]⟩;grind[pc]
theorem VZ:∀l:List (Tm×Tm),l.length<=pc l|[]=>aF_ _|p::l=>by rw[pc,aH_];have:=VZ l;have:=ff p.1;omega
theorem aa3(p:Tm×Tm)(l:List (Tm×Tm))(e:List Bd):qL (p::l) e=match gV e p with|(e',m,true)=>qL (m++l) e'|(_,_,false)=>none:=by grind[qL,YR,gV,Qc]
theorem aep(e:List Bd)(b:e.length<=100000000000):ad U 262 [a_ O e] (a_ O e):=by cases e with|nil=>exact Tk.G0 (λS=>HQ) (bH _)|cons x l =>
  let⟨R,a⟩:=au (x::l);have c:Am (a_ O R)=some false:=by rw[a,a_,bN];rfl
  rw[<-a]at b⊢;refine st Pp AY (bH _) ?_;refine og AY (D.nil c rfl) ?_;refine I.pZ (f:=bS O) (ys:=R) rfl rfl rfl (λ_=>rfl) X λd len g h=>?_;refine H AY ?_;refine fq ?_;cases(g:d=R);exact aL.grow rfl h
theorem am_(e:List Bd)(i:Int)(n:ByteArray)(a:List Tm)(t:Tm)(v:e.length<=10000000000)(m:fC e)(h2:t.ok):ad U 300 [a_ O e,prv O (⟨1,i,n,a⟩,t)] (To O (gV e (⟨1,i,n,a⟩,t)).1 (gV e (⟨1,i,n,a⟩,t)).2.1 (gV e (⟨1,i,n,a⟩,t)).2.2):=by
 let⟨⟨E,L,B⟩,b⟩:∃R,R=gV e (⟨1,i,n,a⟩,t):=⟨_,rfl⟩;rw[<-b];unfold gV at b;rw[if_pos rfl]at b;simp only at b⊢;have o:=VR (U:=U) (O:=O) e i X;have g:=Ef e i;have h:=Ix e i;let⟨j,p⟩:=au (wW e i);rw[<-p]at o g h;have c:=X9 (U:=U) (O:=O) e ⟨i,t⟩ v;clear p;by_cases w:0<=j
 ·let⟨q,x,F,y,d⟩:=g w;rw[d]at b;simp only[pI_]at b;obtain⟨rfl,rfl,r⟩:=b;have s:=Ti (U:=U) (O:=O) x.t t (m.Ff d) h2;rw[<-r]at s;clear r d c h g m h2;let⟨G,J,K,M,N⟩:=x;let⟨z,A,tn,C⟩:=t;refine st L7 pL (yh _ _ _) ?_;repeat' first|refine ig pL (pl o) λ_ _=>?_|refine og pL (D.ind rfl rfl (du (l:=E) (k:=q) X y) (cJ λ_=>rfl)) ?_|apply bh pL s|exact dV f|refine cg pL (λf=>?_) λf=>?_|refine fq ?_
  all_goals first|omega|exact Pq (.refl _) EO
 ·rw[h X]at b;simp only[pI_]at b;obtain⟨u,rfl,rfl⟩:=b;rw[<-u]at c;clear u g h m h2;let⟨z,A,tn,C⟩:=t;refine st L7 pL (yh _ _ _) ?_;repeat' first|refine ig pL (pl o) λ_ _=>?_|apply bh pL c|exact dV f|refine cg pL (λf=>?_) λf=>?_|refine fq ?_
  all_goals first|omega|exact Pq (.refl _) EO
theorem anb(e:List Bd)(i:Int)(n:ByteArray)(a:List Tm)(t:Tm)(j:a.length<=100000000000):ad U 300 [a_ O e,prv O (⟨2,i,n,a⟩,t)] (To O (gV e (⟨2,i,n,a⟩,t)).1 (gV e (⟨2,i,n,a⟩,t)).2.1 (gV e (⟨2,i,n,a⟩,t)).2.2):=by
 let⟨⟨E,L,B⟩,b⟩:∃R,R=gV e (⟨2,i,n,a⟩,t):=⟨_,rfl⟩;rw[<-b];unfold gV at b;rw[if_neg (show¬(2:Int)=1 by decide),if_pos rfl]at b;simp only at b⊢;have c:=Tc (U:=U) (O:=O) a t.a j;let⟨k,q,tn,l⟩:=t;simp only at b c;by_cases f:k=2/\tn.toList=n.toList/\a.length=l.length
 ·rw[if_pos f]at b;simp only[pI_]at b;obtain⟨rfl,h,rfl⟩:=b;let⟨o,r,p⟩:=f;have c:=c p;rw[<-h]at c;subst o;clear h;refine st L7 pL (yh _ _ _) ?_;repeat' first|refine b9 λm g=>?_;rw[aA]at g;refine H pL ?_|apply bh pL c|exact dV d|refine cg pL (λd=>?_) λd=>?_|refine fq ?_
  all_goals first|omega|exfalso;simp_all;done|exact .refl _
 ·rw[if_neg f]at b;simp only[pI_]at b;obtain⟨rfl,rfl,rfl⟩:=b;clear c;refine st L7 pL (yh _ _ _) ?_;repeat' first|refine b9 λm g=>?_;rw[aA]at g;refine H pL ?_|exact dV d|refine cg pL (λd=>?_) λd=>?_|refine fq ?_
  all_goals first|exact Pq HQ EO|exfalso;simp_all;omega
theorem anc(e:List Bd)(k i:Int)(n:ByteArray)(a:List Tm)(t:Tm)(h1:¬k=1)(h2:¬k=2)(c:(⟨k,i,n,a⟩:Tm).ok)(d:t.ok):ad U 300 [a_ O e,prv O (⟨k,i,n,a⟩,t)] (To O (gV e (⟨k,i,n,a⟩,t)).1 (gV e (⟨k,i,n,a⟩,t)).2.1 (gV e (⟨k,i,n,a⟩,t)).2.2):=by
 let⟨⟨E,L,B⟩,b⟩:∃R,R=gV e (⟨k,i,n,a⟩,t):=⟨_,rfl⟩;rw[<-b];unfold gV at b;rw[if_neg h1,if_neg h2]at b;simp only[pI_]at b⊢;obtain⟨rfl,rfl,f⟩:=b;have g:=Ti (U:=U) (O:=O) _ t c d;rw[<-f]at g;clear f c d;let⟨j,l,tn,o⟩:=t;refine st L7 pL (yh _ _ _) ?_;repeat' first|apply bh pL g|refine cg pL (λh=>?_) λh=>?_|refine lg pL λm p=>?_|refine fq ?_
 all_goals first|omega|exact Pq (.refl _) EO
theorem ane(e:List Bd)(p:Tm×Tm)(d:e.length<=10000000000)(f:fC e)(b:Nl p)(h:cL p.1<=100000000000):ad U 300 [a_ O e,prv O p] (To O (gV e p).1 (gV e p).2.1 (gV e p).2.2):=by let⟨⟨k,i,n,a⟩,t⟩:=p;by_cases c:k=1;subst c;exact am_ e i n a t d f b.2;by_cases g:k=2;grind[anb,ff,uT];exact anc e k i n a t c g b.1 b.2
theorem anf(e:List Bd)(l:List (Tm×Tm))(s:e.length+pc l<=10000000000)(t:fC e)(u:∀q∈l,Nl q):ad U 261 [a_ O e,wD O l] (w8 O (qL l e)):=by let⟨R,g⟩:=au (qL l e);rw[<-g];have G:=oL (O:=O) l;refine st ar1 yL (rP _) ?_;refine I.eH (σ:=List Bd×List (Tm×Tm)) 0 0 [] (λp=>[(0,a_ O p.1),(1,wD O p.2)]) [] (λp=>[]) (λp=>R=qL p.2 p.1/\p.1.length+pc p.2<=10000000000/\fC p.1/\∀q∈p.2,Nl q) (λp=>pc p.2) (e,l) ⟨g,s,t,u⟩ rfl cz ?_;rintro⟨f,m⟩ ⟨d,v,h,b⟩;simp only at d v h b;clear g s t u;refine H yL ?_;refine lg yL λc S=>?_;cases m with|nil =>refine cn (λi=>?_) λi=>?_;grind;refine H yL ?_;refine xG yL ?_;refine fq ?_;rw[d];exact .refl _|cons p m =>refine cn (λi=>?_) λi=>?_;rotate_left;grind;rw[pc]at v;have j:=ane (U:=U) (O:=O) f p X h (b p aE) X;have w:=aca f p;let⟨q1,x,y⟩:=aa2 h (b p aE);rw[aa3]at d;let⟨⟨E,L,B⟩,z⟩:∃R,R=gV f p:=⟨_,rfl⟩;rw[<-z]at j w q1 x y d;simp only at j w q1 x y d;clear z;have A:=aeo (U:=U) (O:=O) L m (by grind[VZ]);let⟨M,n⟩:=au (L++m);let⟨W,J⟩:=au (p::m);have o:W[0]?=some p:=Z;have r:W.drop 1=m:=Z;have K:1<=W.length:=Z;rw[<-n]at A;have N:=oL (O:=O) M;rw[<-J];have P:=AT (O:=O) p;let⟨⟨T,V,pn,pa⟩,⟨tk,ti,tn,ta⟩⟩:=p;refine H yL ?_;refine og yL (D.ind rfl rfl (du (l:=W) (k:=0) rfl o) (cJ λ_=>rfl)) ?_;refine I.op rfl (D.bU rfl j ⟨bH _,.agg P,trivial⟩) ?_;cases B with|false =>refine H yL ?_;refine rG yL ?_;refine fq ?_;rw[d];exact mC|true =>refine H yL ?_;refine I.op rfl (D.Ej rfl rfl (λ_=>rfl) aJ X) ?_;rw[show(1:Int).toNat=1 from rfl,r];refine H yL ?_;refine I.op rfl (D.bU rfl A ⟨.sl λrow C a F=>by simp only[al_,aB_,or_false]at C;rcases C with rfl|rfl;cases ae_.1 F;exact oL _;cases ae_.1 F;exact oL _,trivial⟩) ?_;refine H yL ?_;refine I.bu (E,M) [] ⟨Z,by grind[MA],q1,λq hq=>?_⟩ ?_ cz;grind;grind[MA,pc]
theorem aiR(e:List Bd)(x y:At)(t:e.length+bC x.a<=10000000000)(l:fC e)(o:x.ok)(p:y.ok):ad U 202 [a_ O e,at_ O x,at_ O y] (w8 O (qj x y e)):=by
 have h:=aep (U:=U) (O:=O) e X;have d:=Tc (U:=U) (O:=O) x.a y.a (by grind[uT]);have f:=anf (U:=U) (O:=O) e (x.a.zip y.a) (by grind[Ik]) l (Tp o.2 p.2);let⟨R,c⟩:=au (qj x y e);rw[<-c];unfold qj at c;rw[FZ]at c;let⟨i,q⟩:=au (x.a.zip y.a);rw[<-q]at d f c;let⟨Q,r⟩:=au (qL i e);rw[<-r]at f c;let⟨z,A,s,u,v⟩:=zB (O:=O) Q;rw[s]at f;clear q r t l o p;let⟨n,a⟩:=x;let⟨w,b⟩:=y;simp only at d c;by_cases g:n.toList=w.toList/\a.length=b.length
 ·rw[if_pos g]at c;have d:=d g.2;let⟨B,C⟩:=g;refine st agK EN (rP _) ?_;repeat' first|refine b9 λm j=>?_;rw[aA]at j;refine H EN ?_|apply bh EN h|apply bh EN d|refine og EN (D.bU rfl f ⟨bH _,oL _,trivial⟩) ?_|refine cg EN (λk=>?_) λk=>?_|refine fq ?_
  all_goals clear h d f
  all_goals first|omega|exfalso;simp_all;done|rw[c,s];exact .refl _
 ·rw[if_neg g]at c;subst c;clear h d f;refine st agK EN (rP _) ?_;repeat' first|refine b9 λm j=>?_;rw[aA]at j;refine H EN ?_|refine cg EN (λk=>?_) λk=>?_|refine fq ?_
  all_goals first|exact mC|exfalso;simp_all;omega
def ar2:=aD func201 call201
def iC:=[0,34,6,1,27,33,35,32,2,8,57]
def xR(O:Hd)(s:dp)(r:Rl)(k:Int)(hs:List At)(F:AV):List AV:=[dI O s.goals,mH O s.store,a_ O s.binds,mX O s.bE,dI O s.known,iv s.next,iv s.fresh,.v (.bool s.failed),.v (.string r.n),dW O r.aP,dW O r.rem,dI O r.guard,dI O r.body,iv r.vars,iv k,dW O hs,F,.yl 0]
def xO(O:Hd)(s:dp)(r:Rl)(k:Int)(hs:List At)(F:AV):Ob:=.arr 18 [xR O s r k hs F] 0 true
theorem Tq{s:dp}{k:Int}{hs:List At}{F:AV}(c:Pure F)(e:1<=B):jm B (xO O s r k hs F):=λrow d a b=>by cases ae_.1 d;simp only[xR,al_,aB_,or_false]at b;rcases b with rfl|rfl|rfl|rfl|rfl|rfl|rfl|rfl|rfl|rfl|rfl|rfl|rfl|rfl|rfl|rfl|rfl|rfl;exact(a6 _).bm;exact(dY _).bm;exact(bH _).bm;exact(fm _).bm;exact(a6 _).bm;exact .v;exact .v;exact .v;exact .v;exact(bP _).bm;exact(bP _).bm;exact(a6 _).bm;exact(a6 _).bm;exact .v;exact .v;exact(bP _).bm;exact c.bm;exact .yl X
set_option maxHeartbeats 1000000 in theorem Up(s:dp)(r:Rl)(ML:Int)(hs:List At)(w:Nat)(fs cs:List AV)(J:eU)(jI:Pure (.fn (.func w) fs cs))(ids:List Int)(env:List Bd)(n:Jz s)(y:Fs r)(uw:ids.length<=1000000)(S:env.length<=1099511627776)(T:fC env)(V:g_ 200 env):aG prog U 201 [.pt 1 18 0 0,aQ O aH false ids,a_ O env] (aw [(0,.fo J),(1,xO O s r ML hs (.fn (.func w) fs cs))] 2) (.v (.bool (mQ s r ML s.fresh ids env))) (aw [(0,.fo J),(1,xO O s r ML hs (.fn (.func w) fs cs))] 2):=by
 have t:=Tq (O:=O) (s:=s) (r:=r) (k:=ML) (hs:=hs) jI (B:=2) aJ;have z:=UO (U:=U) (O:=O) r (by have:=y.hn;rw[ay_]at this;omega);have u:=amW (U:=U) (O:=O) s.bE ⟨ML,ids⟩ (by have:=n.fn;omega) λx e=>by have:=n.fa x e;omega (by simp only;omega);have v:∀g∈r.guard,ad U 79 [a_ O env,iv s.fresh,gl O g] (gl O (gL env s.fresh g))/\ad U 260 [a_ O s.binds,dI O s.known,gl O (gL env s.fresh g)] (iv (tI s.binds s.known (gL env s.fresh g))):=λg M =>⟨S7 S n.f0 n.f1 g (aD_ (y.ga g M).1.2.1 aJ) (y.ga g M).2,arW s.binds s.known _ (by have:=n.bn;omega) (by have:=n.kn;omega) n.bs n.bo (((y.ga g M).1.ins V T aJ).mono aJ) λx e=>(n.ka x e).mono aJ⟩;have Jo:=y.gn;let⟨R,c⟩:=au (mQ s r ML s.fresh ids env);rw[<-c];unfold mQ M0 at c;let⟨b1,N⟩:=au r.rem.isEmpty;let⟨b2,P⟩:=au (Es s.bE ⟨ML,ids⟩);rw[<-N,<-P]at c;rw[<-N]at z;rw[<-P]at u;clear N P n y uw S T V;let⟨goals,store,f,Q,h,next,fresh,failed⟩:=s;let⟨rn,G,K,rg,L,rv⟩:=r;dsimp only at u v Jo c;have tF:=fQ (O:=O) ⟨rn,G,K,rg,L,rv⟩;refine sc 2 2 ar2 ?_;refine H iC ?_;cases b1<;>cases b2;all_goals refine I.op rfl (pl z) ?_
 all_goals refine H iC ?_
 rotate_left 2
 ·apply bh iC u;simp only[bm_,bx_,cq_,az_]at c;refine lg iC λm W=>?_;refine bL 2 2 [] (λi=>[(0,.pt 1 18 0 0),(2,a_ O env),(32,dI O rg),(33,.v (.int .i64 m)),(34,.v (.int .i64 i))]) [] (λ_=>[(0,.fo J),(1,xO O ⟨goals,store,f,Q,h,next,fresh,failed⟩ ⟨rn,G,K,rg,L,rv⟩ ML hs (.fn (.func w) fs cs))]) rg.length (λk=>R=(rg.drop k).all λg=>decide (tI f h (gL env fresh g)=1)) (by simpa using c) λi k A hk a=>?_;clear c;refine H iC ?_;by_cases E:k<rg.length
  ·let⟨x,e,F⟩:=aC E;let⟨j,d⟩:=v x (aZ e);rw[F,aL_]at a;let⟨b,o⟩:=au (gL env fresh x);rw[<-o]at j d a;let⟨C,p⟩:=au (tI f h b);rw[<-p]at d a;let⟨RS,q⟩:=au ((rg.drop (k+1)).all λg=>decide (tI f h (gL env fresh g)=1));rw[<-q]at a;let⟨xo,xn,xa⟩:=x;let⟨Xo,Xn,Xa⟩:=b;clear o p v z u;repeat' first|refine og iC (D.bw A e) ?_|apply bh iC j|refine ig iC (pl d) λ_ _=>?_|refine cg iC (λl=>?_) λl=>?_|refine ag iC λ_ _=>?_|refine xG iC ?_|refine rG iC ?_|refine fq ?_
   all_goals clear j d
   all_goals first|omega|cases(show R=false by rw[a,decide_eq_false X,bm_]);exact⟨[],.aF .v,⟨.inl ⟨_,rfl,.same trivial⟩,.inl ⟨_,rfl,.same t⟩,trivial⟩,rfl⟩|exact cw _ [] (k+1) (by rw[a,decide_eq_true X,az_,<-q])
  ·skip;repeat' first|refine cg iC (λl=>?_) λl=>?_|refine xG iC ?_|refine fq ?_
   all_goals first|omega|cases(show R=true by rw[a,ar_ X,bn_]);exact⟨[],.aF .v,⟨.inl ⟨_,rfl,.same trivial⟩,.inl ⟨_,rfl,.same t⟩,trivial⟩,rfl⟩
 apply bh iC u;refine fq ?_;simp only[cj_,cX_,bm_]at c;subst c;exact⟨[],.aF .v,⟨.inl ⟨_,rfl,.same trivial⟩,.inl ⟨_,rfl,.same t⟩,trivial⟩,rfl⟩
 ·skip;simp only[bm_,bx_,cq_,az_]at c;refine lg iC λm W=>?_;refine bL 2 2 [] (λi=>[(0,.pt 1 18 0 0),(2,a_ O env),(32,dI O rg),(33,.v (.int .i64 m)),(34,.v (.int .i64 i))]) [] (λ_=>[(0,.fo J),(1,xO O ⟨goals,store,f,Q,h,next,fresh,failed⟩ ⟨rn,G,K,rg,L,rv⟩ ML hs (.fn (.func w) fs cs))]) rg.length (λk=>R=(rg.drop k).all λg=>decide (tI f h (gL env fresh g)=1)) (by simpa using c) λi k A hk a=>?_;clear c;refine H iC ?_;by_cases E:k<rg.length
  ·let⟨x,e,F⟩:=aC E;let⟨j,d⟩:=v x (aZ e);rw[F,aL_]at a;let⟨b,o⟩:=au (gL env fresh x);rw[<-o]at j d a;let⟨C,p⟩:=au (tI f h b);rw[<-p]at d a;let⟨RS,q⟩:=au ((rg.drop (k+1)).all λg=>decide (tI f h (gL env fresh g)=1));rw[<-q]at a;let⟨xo,xn,xa⟩:=x;let⟨Xo,Xn,Xa⟩:=b;clear o p v z u;repeat' first|refine og iC (D.bw A e) ?_|apply bh iC j|refine ig iC (pl d) λ_ _=>?_|refine cg iC (λl=>?_) λl=>?_|refine ag iC λ_ _=>?_|refine xG iC ?_|refine rG iC ?_|refine fq ?_
   all_goals clear j d
   all_goals first|omega|cases(show R=false by rw[a,decide_eq_false X,bm_]);exact⟨[],.aF .v,⟨.inl ⟨_,rfl,.same trivial⟩,.inl ⟨_,rfl,.same t⟩,trivial⟩,rfl⟩|exact cw _ [] (k+1) (by rw[a,decide_eq_true X,az_,<-q])
  ·skip;repeat' first|refine cg iC (λl=>?_) λl=>?_|refine xG iC ?_|refine fq ?_
   all_goals first|omega|cases(show R=true by rw[a,ar_ X,bn_]);exact⟨[],.aF .v,⟨.inl ⟨_,rfl,.same trivial⟩,.inl ⟨_,rfl,.same t⟩,trivial⟩,rfl⟩
 ·skip;simp only[bm_,bx_,cq_,az_]at c;refine lg iC λm W=>?_;refine bL 2 2 [] (λi=>[(0,.pt 1 18 0 0),(2,a_ O env),(32,dI O rg),(33,.v (.int .i64 m)),(34,.v (.int .i64 i))]) [] (λ_=>[(0,.fo J),(1,xO O ⟨goals,store,f,Q,h,next,fresh,failed⟩ ⟨rn,G,K,rg,L,rv⟩ ML hs (.fn (.func w) fs cs))]) rg.length (λk=>R=(rg.drop k).all λg=>decide (tI f h (gL env fresh g)=1)) (by simpa using c) λi k A hk a=>?_;clear c;refine H iC ?_;by_cases E:k<rg.length
  ·let⟨x,e,F⟩:=aC E;let⟨j,d⟩:=v x (aZ e);rw[F,aL_]at a;let⟨b,o⟩:=au (gL env fresh x);rw[<-o]at j d a;let⟨C,p⟩:=au (tI f h b);rw[<-p]at d a;let⟨RS,q⟩:=au ((rg.drop (k+1)).all λg=>decide (tI f h (gL env fresh g)=1));rw[<-q]at a;let⟨xo,xn,xa⟩:=x;let⟨Xo,Xn,Xa⟩:=b;clear o p v z u;repeat' first|refine og iC (D.bw A e) ?_|apply bh iC j|refine ig iC (pl d) λ_ _=>?_|refine cg iC (λl=>?_) λl=>?_|refine ag iC λ_ _=>?_|refine xG iC ?_|refine rG iC ?_|refine fq ?_
   all_goals clear j d
   all_goals first|omega|cases(show R=false by rw[a,decide_eq_false X,bm_]);exact⟨[],.aF .v,⟨.inl ⟨_,rfl,.same trivial⟩,.inl ⟨_,rfl,.same t⟩,trivial⟩,rfl⟩|exact cw _ [] (k+1) (by rw[a,decide_eq_true X,az_,<-q])
  ·skip;repeat' first|refine cg iC (λl=>?_) λl=>?_|refine xG iC ?_|refine fq ?_
   all_goals first|omega|cases(show R=true by rw[a,ar_ X,bn_]);exact⟨[],.aF .v,⟨.inl ⟨_,rfl,.same trivial⟩,.inl ⟨_,rfl,.same t⟩,trivial⟩,rfl⟩
end
section
def g6:=[3,4,0,1,2]
def l8:=[0,1,2,7,8,9,6,22,26,36,40,49,53,62]
attribute [local irreducible] aq aG D I
def Ps(x:Bd):Bool:=decide (dD x.t<=60)
def L8(x:Fi):Bool:=decide (x.ids.length<=8)
def Ds(a:List Im)(b:List Bd)(f:List Fi):Bool:=decide (a.length<=9)&&(decide (b.length<=20)&&(decide (f.length<=30)&&(a.all XT&&(b.all Ps&&f.all L8))))
set_option maxHeartbeats 2000000 in theorem aiS(d:List Im)(b:List Bd)(f:List Fi)(S:d.length<=1099511627776)(T:b.length<=1099511627776)(V:f.length<=1099511627776)(n:∀x∈d,x.ok)(v:∀x∈b,x.ok)(w:∀x∈f,x.ok):ad U 21 [mH O d,a_ O b,mX O f] (.v (.bool (Ds d b f))):=by
 let⟨R,e⟩:=au (Ds d b f);rw[<-e];unfold Ds at e;refine st awj l8 .v ?_;repeat' first|refine cg l8 (λc=>?_) λc=>?_|refine lg l8 λm i=>?_|refine fq ?_
 all_goals first|rw[e,decide_eq_false (show¬d.length<=9 by omega)];exact aO rfl|refine aO ?_;rw[e,decide_eq_false (show¬b.length<=20 by omega)];simp;done|refine aO ?_;rw[e,decide_eq_false (show¬f.length<=30 by omega)];simp;done|skip
 rw[decide_eq_true (show d.length<=9 by omega),decide_eq_true (show b.length<=20 by omega),decide_eq_true (show f.length<=30 by omega)]at e;simp only[az_]at e;let⟨y,o⟩:=au (b.all Ps&&f.all L8);rw[<-o]at e;refine bL 0 0 [] (λq=>[(0,mH O d),(1,a_ O b),(2,mX O f),(7,.v (.int .i64 q))]) [] (λ_=>[]) d.length (λk=>R=((d.drop k).all XT&&y)) Z λq k A W a=>?_;clear e;refine H l8 ?_;by_cases C:k<d.length
 ·let⟨x,g,j⟩:=aC C;have h:=n x (aZ g);have r:=S9 (U:=U) (O:=O) x.a h.1.len h.1.2;rw[j,aL_,XT,cp_]at a;let⟨B,E⟩:=au (zl x.a);rw[<-E]at a r;let⟨F,G,J⟩:=x;repeat' first|refine og l8 (D.bw A g) ?_|refine bg l8 (pl r) (λ_=>?_) λ_=>?_|refine cg l8 (λc=>?_) λc=>?_|refine lg l8 λm i=>?_|refine ag l8 λ_ _=>?_|refine xG l8 ?_|refine rG l8 ?_|refine fq ?_
  all_goals first|omega|rw[a,show B=false by grind];exact aO rfl|rw[show B=true by grind,az_]at a;exact cw _ [] (k+1) a
 rw[ar_ X,bn_,az_,o]at a;clear o;repeat' first|refine cg l8 (λc=>?_) λc=>?_|refine lg l8 λm i=>?_|refine xG l8 ?_
 all_goals first|omega|skip
 let⟨K,p⟩:=au (f.all L8);rw[<-p]at a;refine I.eH (σ:=Int) 0 0 [] (λq=>[(1,a_ O b),(2,mX O f),(8,.v (.int .i64 q))]) [] (λ_=>[]) (λq=>∃k:Nat,q=k/\k<=b.length/\R=((b.drop k).all Ps&&K)) (λq=>b.length-q.toNat) 0 ⟨0,rfl,aE,Z⟩ rfl cq ?_;clear a;rintro q2⟨s,M,eF,a⟩;refine H l8 ?_;by_cases N:s<b.length
 ·let⟨x,g,j⟩:=aC N;have h:=v x (aZ g);have t:=Ih (U:=U) (O:=O) _ x.t (aj_ _) h.2;rw[j,aL_,Ps,cp_]at a;let⟨z,u⟩:=au (dD x.t);rw[<-u]at a t;have BC:=bM (O:=O) x.t;clear u;let⟨xv,xk,F,G,J⟩:=x;repeat' first|refine og l8 (D.bw M g) ?_|refine ig l8 (pl t) λ_ _=>?_|refine cg l8 (λc=>?_) λc=>?_|refine lg l8 λm i=>?_|refine ag l8 λ_ _=>?_|refine xG l8 ?_|refine rG l8 ?_|refine fq ?_
  all_goals first|omega|rw[a,decide_eq_false (show¬z<=60 by omega)];exact aO rfl|rw[decide_eq_true (show z<=60 by omega),az_]at a;exact cw _ [] (s+1) a
 rw[ar_ X,bn_,az_,p]at a;clear p;repeat' first|refine cg l8 (λc=>?_) λc=>?_|refine lg l8 λm i=>?_|refine xG l8 ?_
 all_goals first|omega|skip
 refine I.eH (σ:=Int) 0 0 [] (λq=>[(2,mX O f),(9,.v (.int .i64 q))]) [] (λ_=>[]) (λq=>∃k:Nat,q=k/\k<=f.length/\R=(f.drop k).all L8) (λq=>f.length-q.toNat) 0 ⟨0,rfl,aE,Z⟩ rfl cq ?_;clear a;rintro q3⟨k3,P,Bs,a⟩;refine H l8 ?_;by_cases Q:k3<f.length
 ·let⟨x,g,j⟩:=aC Q;have h:=w x (aZ g);unfold Fi.ok at h;rw[j,aL_,L8]at a;let⟨xr,l⟩:=x;dsimp only at a h;repeat' first|refine og l8 (D.bw P g) ?_|refine cg l8 (λc=>?_) λc=>?_|refine lg l8 λm i=>?_|refine ag l8 λ_ _=>?_|refine xG l8 ?_|refine rG l8 ?_|refine fq ?_
  all_goals first|omega|rw[a,decide_eq_false (show¬l.length<=8 by omega)];exact aO rfl|rw[decide_eq_true (show l.length<=8 by omega),az_]at a;exact cw _ [] (k3+1) a
 rw[ar_ X,bn_]at a;repeat' first|refine cg l8 (λc=>?_) λc=>?_|refine lg l8 λm i=>?_|refine xG l8 ?_|refine fq ?_
 all_goals first|omega|rw[a];exact aO rfl
def AZ(p:Pg)(s:dp):Bool:=IM p&&(decide ((s.goals.length:Int)<=10)&&s.goals.all xz&&(AX s.known&&Ds s.store s.binds s.bE))
theorem aiT(p:Pg)(s:dp)(j:Fb p)(hs:Jr s):ad U 6 [pg O p,yT O s] (.v (.bool (AZ p s))):=by
 have k:=X3 (U:=U) (O:=O) p j;have b:=EF (U:=U) (O:=O) s.goals 10 hs.gl λy c=>(hs.gx y c).1;have d:=EF (U:=U) (O:=O) s.known 6 hs.kl λy c=>(hs.kx y c).1;have e:=aiS (U:=U) (O:=O) s.store s.binds s.bE hs.st hs.bl hs.fl hs.sx hs.bx hs.fx;have q:=lx (O:=O) p;let⟨R,a⟩:=au (AZ p s);rw[<-a];unfold AZ AX at a;let⟨l,f⟩:=au (IM p);let⟨m,g⟩:=au (decide ((s.goals.length:Int)<=10)&&s.goals.all xz);let⟨n,h⟩:=au (decide ((s.known.length:Int)<=6)&&s.known.all xz);let⟨o,i⟩:=au (Ds s.store s.binds s.bE);rw[<-f,<-g,<-h,<-i]at a;rw[<-f]at k;rw[<-g]at b;rw[<-h]at d;rw[<-i]at e;clear f g h i hs j;let⟨ds,r⟩:=p;let⟨goals,store,t,u,v,next,fresh,failed⟩:=s;dsimp only at b d e;refine st qf6 g6 .v ?_;repeat' first|refine bg g6 (pl k) (λ_=>?_) λ_=>?_|refine bg g6 (pl b) (λ_=>?_) λ_=>?_|refine bg g6 (pl d) (λ_=>?_) λ_=>?_|refine bg g6 (pl e) (λ_=>?_) λ_=>?_|refine fq ?_
 all_goals first|refine aO ?_;rw[a,show l=false by grind];rfl|refine aO ?_;rw[a,show m=false by grind];simp;done|refine aO ?_;rw[a,show n=false by grind];simp;done|refine aO ?_;rw[a,show o=false by grind];simp;done|refine aO ?_;rw[a,show l=true by grind,show m=true by grind,show n=true by grind,show o=true by grind];rfl
end
theorem X_(h:oW ds r=0)(c:Bv r):zA r:=by
 let⟨⟨m,d,e,f,n⟩,_,i⟩:=OB h;have j:∀x∈r.aP++r.rem,fy x.a:=λx a=>by rcases aO_.1 a with a|a;exact(sH (d x a) (c.kx x a).1.1).1;exact(sH (e x a) (c.rx x a).1.1).1
 have b:∀g∈r.guard,fy g.a:=λg b=>(sI (f g b) (c.gx g b).1.1).1;refine⟨j,b,λg o v p=>?_⟩;have k:v∈tw [r.guard]:=by grind[tw,CR,EB]
 have:=i v k;unfold vw Jf E6 at this;rw[bo_,bo_,bO_,aI_]at this;rcases aO_.1 this with l|l;grind[EB];grind[EB]
theorem ani(h:oW ds r=0)(a:Bv r):Fs r:=by let⟨⟨d,i,j,e,f⟩,⟨n,l,m,k⟩,_⟩:=OB h;unfold CX at d;simp only[aw_,decide_eq_true_eq]at d;have o:=a.av;have b:=a.gv;rw[ay_]at k;exact⟨Z,λx c=>by rcases aO_.1 c with c|c;exact⟨(a.kx x c).1.1,(sH (i x c) (a.kx x c).1.1).2.2.2.2,(a.kx x c).2⟩;exact⟨(a.rx x c).1.1,(sH (j x c) (a.rx x c).1.1).2.2.2.2,(a.rx x c).2⟩,by omega,λg b=>⟨⟨(a.gx g b).1.1,(sI (e g b) (a.gx g b).1.1).2.2.2.2,(a.gx g b).2⟩,(sI (e g b) (a.gx g b).1.1).2.2.2.1⟩,by omega,λg b=>⟨⟨(a.bx g b).1.1,(sI (f g b) (a.bx g b).1.1).2.2.2.2,(a.bx g b).2⟩,(sI (f g b) (a.bx g b).1.1).2.2.2.1⟩,X,X⟩
theorem B2{T:Type}{ok:T->Bool}{lt:T->T->Bool}:∀{l:List T}{b:Option T},lj ok lt b l=true->∀x∈l,ok x=true|[],_,_,x,a=>Z|y::l,b,h,x,a=>by rw[j_,aw_,aw_]at h;rcases al_.1 a with rfl|a;grind;exact B2 h.2 x a
theorem Ts:∀{l:List Im}{p:Im},lj DW DX (some p) l=true->∀x∈l,p.id<x.id
 |[],_,_,x,a=>Z|y::l,p,h,x,a=>by
  rw[j_,aw_,aw_]at h;have b:p.id<y.id:=by grind[Bi,DX]
  rcases al_.1 a with rfl|a;grind;have:=Ts h.2 x a;omega
theorem Tt:∀{l:List Im}{a:Option Im},lj DW DX a l=true->Lz l|[],_,_=>by unfold Lz;simp|y::l,a,h=>by rw[j_,aw_,aw_]at h;have:=Tt h.2;unfold Lz at this⊢;rw[aK_,bU_];refine⟨λb=>?_,this⟩;let⟨x,c,e⟩:=aE_.1 b;have:=Ts h.2 x c;omega
structure RtB(p:Pg)(s:dp):Prop where
 st:Jz s
 ru:∀r∈p.rs,Fs r
 cl:∀r∈p.rs,zA r
 nd:Lz s.store
 s5:s.store.length<=500g1:s.goals.length<=1000gr:∀g∈s.goals,dw g=true
 kr:∀g∈s.known,dw g=true
 sr:∀x∈s.store,fw ⟨x.n,x.a⟩=true
 bc:nc s.binds=true
 fc:lu s.bE=true
theorem aa4{p:Pg}{s:dp}(h:kD p s=true)(q:Fb p)(hs:Jr s)(v:s.binds.length<=1000000):RtB p s:=by
 unfold kD at h;simp only[aw_,decide_eq_true_eq]at h;let⟨l,t,w,e,u,f,y,z,A,c⟩:=h;have l:=Xt l;unfold GR at t;simp only[aw_,decide_eq_true_eq]at t;have m:=w;unfold nU at m;rw[aw_,decide_eq_true_eq]at m;have d:=e;unfold nc at d;rw[aw_]at d;have n:=u;unfold lu at n;rw[aw_,decide_eq_true_eq]at n;have i:∀x∈s.store,fw ⟨x.n,x.a⟩=true:=λx a=>by have:=B2 m.2 x a;unfold DW at this;rw[aw_]at this;exact this.2
 have j:∀x∈s.known,dw x=true:=λx a=>by grind[vK]
 have o:∀b∈s.binds,0<=b.v/\b.v<=1048576/\cB b.t=true:=λb c=>by have:=B2 d.1 b c;unfold MF at this;simp only[aw_,decide_eq_true_eq]at this;exact⟨this.1.1,this.1.2,this.2⟩
 refine⟨⟨X,λx a=>⟨(hs.sx x a).1.1,(sH (i x a) (hs.sx x a).1.1).2.2.2.2,(hs.sx x a).2⟩,v,λb c=>(hs.bx b c).1,λb c=>(xK (o b c).2.2 (hs.bx b c).1).2.2.2.2,by omega,λg f=>⟨(hs.kx g f).1.1,(sI (j g f) (hs.kx g f).1.1).2.2.2.2,(hs.kx g f).2⟩,X,λx a=>?_,X,X⟩,λr k=>ani (l r k) (q.rr r k),λr k=>X_ (l r k) (q.rr r k),Tt m.2,X,X,λg B=>?_,j,i,e,u⟩;have:=B2 n.2 x a;unfold ue at this;simp only[aw_,decide_eq_true_eq]at this;omega;grind[zb]
theorem aa5{p:Pg}{s:dp}(h:AZ p s=true):(∀r∈p.rs,(r.aP++r.rem).length<=3)/\s.binds.length<=20/\s.store.length<=9/\p.rs.length<=8/\s.goals.length<=10/\s.bE.length<=30/\s.known.length<=6:=by unfold AZ IM Ds AX at h;simp only[aw_,decide_eq_true_eq]at h;let⟨⟨f,g,a⟩,⟨i,j⟩,⟨k,l⟩,m,n,o,b,c,d⟩:=h;refine⟨λr e=>?_,X,X,X,X,X,X⟩;have:=bb_.1 a r e;unfold L4 at this;simp only[aw_,decide_eq_true_eq]at this;rw[ay_];exact this.2.2.1
section
attribute [local irreducible] aq aG D I
def awr:=aD func46 call46
def HT:=[2,16,8,6,7,5,4,0,1,15,17,14]
def ar3:=aD func103 call103
def te:=[12,9,6,2,7,4,5,0,1,11,13,10,18,8]
theorem Yc(p:Pg)(i j:Int)(a b:Rl)(f t:List At)(l:List Int)(W:l.length<=1000000):ad U 46 [.agg (dC O p i j a b f t),aQ O aH false l] (.v (.bool (Fy i j a.aP.length b.aP.length l))):=by
 obtain⟨R,g⟩:∃R,R=Fy i j a.aP.length b.aP.length l:=⟨_,rfl⟩;rw[<-g];unfold Fy at g;have v:=qk (O:=O) p i j a b f t;obtain⟨ds,w⟩:=p;obtain⟨y,s,A,ag,B,C⟩:=a;obtain⟨E,u,br,bg,F,G⟩:=b;have d:jm 1 (.arr 18 [dC O ⟨ds,w⟩ i j ⟨y,s,A,ag,B,C⟩ ⟨E,u,br,bg,F,G⟩ f t] 0 true):=λr N a P=>by obtain rfl:=ae_.1 N;exact(v a P).bm
 clear v;simp only at g;unfold dC at d⊢;refine st awr HT .v ?_;refine I.gen (λe:Bool=>.v (.bool e)) rfl (D.bit rfl) λh c=>?_;have c:h=decide (i=j):=by grind
 rw[<-c]at g;clear c;refine H HT ?_;refine b9 λm J=>?_;rw[aA]at J;refine H HT ?_;refine I.eH (σ:=Int×Bool×Bool) 1 1 [] (λp=>[(2,.pt 0 18 0 0),(5,.v (.bool p.2.1)),(6,.v (.bool p.2.2)),(14,aQ O aH false l),(15,.v (.int .i64 m)),(16,.v (.int .i64 p.1))]) [] (λ_=>[(0,.arr 18 [dC O ⟨ds,w⟩ i j ⟨y,s,A,ag,B,C⟩ ⟨E,u,br,bg,F,G⟩ f t] 0 true)]) (λp=>∃z:Nat,p.1=z/\z<=l.length/\R=((p.2.1||VU s.length u.length (l.drop z) z) &&!(p.2.2&&smL (l.drop z) z))) (λp=>l.length-p.1.toNat) (0,false,h) ⟨0,rfl,by omega,by grind⟩ rfl (by exact⟨sq,rfl,⟨.inl ⟨_,rfl,.same d⟩,trivial⟩,rfl,rfl,rfl⟩) ?_;rintro⟨i2,K,L⟩ ⟨z,M,Fv,n⟩;simp only at M n;clear g;unfold dC;refine H HT ?_;refine cn (λQ=>?_) λQ=>?_;rotate_left
 ·rw[aP_ (by omega),VU,smL]at n;refine H HT ?_;refine I.gp ?_;cases K<;>cases L;all_goals refine H HT ?_;repeat' first|refine fq ?_
  all_goals subst n;exact .refl _
 obtain⟨x,S,T⟩:=aC (l:=l) (k:=z) (by omega);rw[T,VU,smL]at n;refine H HT ?_;refine I.op rfl (D.ind rfl rfl (du (l:=l) M S) (cJ λ_=>rfl)) ?_;cases K<;>cases L;all_goals refine H HT ?_;repeat' first|refine cg HT (λV=>?_) λV=>?_|refine lg HT λm J=>?_|refine cN λ_ _=>?_;refine H HT ?_
 all_goals rename_i q eu;first|refine I.bu (σ:=Int×Bool×Bool) (q,false,false) [] ⟨z+1,by grind,by omega,?_⟩ ?_ ⟨⟨.aF rfl (.pt (by decide)),.aF rfl .v,.aF rfl .v,.aF rfl (Pure.bm (a8 _)),.aF rfl .v,.aF rfl .v,trivial⟩,rfl,⟨.inl ⟨_,rfl,.same d⟩,trivial⟩,rfl,rfl,rfl⟩|refine I.bu (σ:=Int×Bool×Bool) (q,false,true) [] ⟨z+1,by grind,by omega,?_⟩ ?_ ⟨⟨.aF rfl (.pt (by decide)),.aF rfl .v,.aF rfl .v,.aF rfl (Pure.bm (a8 _)),.aF rfl .v,.aF rfl .v,trivial⟩,rfl,⟨.inl ⟨_,rfl,.same d⟩,trivial⟩,rfl,rfl,rfl⟩|refine I.bu (σ:=Int×Bool×Bool) (q,true,false) [] ⟨z+1,by grind,by omega,?_⟩ ?_ ⟨⟨.aF rfl (.pt (by decide)),.aF rfl .v,.aF rfl .v,.aF rfl (Pure.bm (a8 _)),.aF rfl .v,.aF rfl .v,trivial⟩,rfl,⟨.inl ⟨_,rfl,.same d⟩,trivial⟩,rfl,rfl,rfl⟩|refine I.bu (σ:=Int×Bool×Bool) (q,true,true) [] ⟨z+1,by grind,by omega,?_⟩ ?_ ⟨⟨.aF rfl (.pt (by decide)),.aF rfl .v,.aF rfl .v,.aF rfl (Pure.bm (a8 _)),.aF rfl .v,.aF rfl .v,trivial⟩,rfl,⟨.inl ⟨_,rfl,.same d⟩,trivial⟩,rfl,rfl,rfl⟩
 all_goals first|simp only;omega|rw[n];grind
theorem V0{x:Tm}:∀{F:List At}{l:List Int},x∈BZ F l->∃a∈F,x∈a.a|[],_,h=>by simp[BZ]at h|f::F,[],h=>by simp[BZ]at h|f::F,m::l,h=>by rw[BZ,aO_]at h;rcases h with h|h;grind;obtain⟨a,c,b⟩:=V0 h;exact⟨a,by grind,b⟩
theorem V1{x:Tm}{T:List At}:∀{l:List Int},x∈Dq T l->∃a∈T,x∈a.a|[],h=>by simp[Dq]at h|m::l,h=>by rw[Dq,aO_]at h;rcases h with h|h;grind;exact V1 h
theorem aa6(p:Pg)(i j:Int)(a b:Rl)(f t:List At)(l:List Int)(hf:f.length<=1000)(hn:l.length=f.length)(ho:okL t l)(K:∀x∈f,tL 200 x)(L:∀x∈t,tL 200 x):ad U 103 [.agg (dC O p i j a b f t),aQ O aH false l] (Eu O (nQ (BZ f l) (Dq t l))):=by
 have M:∀x∈BZ f l,x.ok:=λx e=>by obtain⟨y,h,n⟩:=V0 e;exact(K y h).1.mem x n
 have N:∀x∈Dq t l,x.ok:=λx e=>by obtain⟨y,h,n⟩:=V1 e;exact(L y h).1.mem x n
 have g:(BZ f l).length<=100000000->(Dq t l).length<=100000000->_:=λh n=>aak (U:=U) (O:=O) h n M N;clear M N;obtain⟨o,P⟩:∃o,o=nQ (BZ f l) (Dq t l):=⟨_,rfl⟩;rw[<-P]at g⊢;clear P;obtain⟨A,Q⟩:∃A,A=BZ f l:=⟨_,rfl⟩;obtain⟨C,R⟩:∃C,C=Dq t l:=⟨_,rfl⟩;rw[<-Q,<-R]at g;have S:=qk (O:=O) p i j a b f t;obtain⟨ds,T⟩:=p;obtain⟨V,W,ar,ag,ab,av⟩:=a;obtain⟨bn,bk,br,bg,lE,bv⟩:=b;have qR:jm 1 (.arr 18 [dC O ⟨ds,T⟩ i j ⟨V,W,ar,ag,ab,av⟩ ⟨bn,bk,br,bg,lE,bv⟩ f t] 0 true):=λr hr a ha=>by obtain rfl:=ae_.1 hr;exact(S a ha).bm
 clear S;unfold dC at qR⊢;refine st ar3 te (iz _) ?_;refine b9 λm hm=>?_;rw[aA]at hm;refine H te ?_;refine I.eH (σ:=Int×(List Tm×Nat)×List Tm×Nat) 1 3 [] (λp=>[(2,.pt 0 18 0 0),(6,.gr 1 4 p.2.1.2),(7,.gr 2 4 p.2.2.2),(10,aQ O aH false l),(11,.v (.int .i64 m)),(12,.v (.int .i64 p.1))]) [] (λp=>[(0,.arr 18 [dC O ⟨ds,T⟩ i j ⟨V,W,ar,ag,ab,av⟩ ⟨bn,bk,br,bg,lE,bv⟩ f t] 0 true),(1,Zy O p.2.1.1),(2,Zy O p.2.2.1)]) (λp=>∃z:Nat,p.1=z/\z<=l.length/\A=p.2.1.1++BZ (f.drop z) (l.drop z)/\C=p.2.2.1++Dq t (l.drop z)/\p.2.1.2=p.2.1.1.length/\p.2.2.2=p.2.2.1.length/\p.2.1.1.length<=200*z/\p.2.2.1.length<=200*z) (λp=>l.length-p.1.toNat) (0,([],0),[],0) ⟨0,rfl,by omega,by grind,by grind,rfl,rfl,by simp,by simp⟩ rfl cz ?_;rintro⟨i2,⟨a1,n1⟩,a2,n2⟩ ⟨z,B,Fv,d,c,v,w,fF,sL⟩;simp only at B d c v w fF sL;clear Q R;unfold dC;refine H te ?_;refine bq (λbD=>?_) λbD=>?_<;>(try simp only[bT]at bD);rotate_left;rw[aP_ (l:=l) (by omega),Dq,aI_]at c;have e0:BZ (f.drop z) []=[]:=by cases f.drop z<;>rfl
 rw[aP_ (l:=l) (by omega),e0,aI_]at d;subst d;subst c;have g:=g (by omega) (by omega);refine H te ?_;refine I.gp ?_;refine H te ?_;refine I.Aj (Cv.freeze (t:=36) rfl rfl (.inl rfl) (v.trans (aA (O:=O) (f:=kN)).symm) (aF_ _)) ?_;refine I.Aj (Cv.freeze (t:=37) rfl rfl (.inl rfl) (w.trans (aA (O:=O) (f:=kN)).symm) (aF_ _)) ?_;refine I.op rfl (pl g) ?_;refine H te ?_;refine fq ?_;exact .refl _;clear g;obtain⟨x,e,aS⟩:=aC (l:=l) (k:=z) (by omega);obtain⟨y,hy,en⟩:=aC (l:=f) (k:=z) (by omega);rw[aS,en,BZ]at d;rw[aS,Dq]at c;have oN:=ho.1 x (as_ e);have E:=(K y (as_ hy)).2.1;obtain⟨yn,ya⟩:=y;have hy4:=uT ya;dsimp only at d E;refine H te ?_;refine I.op rfl (D.ind rfl rfl (du (l:=l) B e) (cJ λ_=>rfl)) ?_;refine H te ?_;refine bq (λs=>?_) λs=>?_<;>(try simp only[bT]at s);rotate_left;rw[if_pos s,aS_]at d c;refine H te ?_;refine cN λF eu=>?_;refine H te ?_;refine I.bu (σ:=Int×(List Tm×Nat)×List Tm×Nat) (F,(a1,n1),a2,n2) [] ⟨z+1,by grind,by omega,d,c,v,w,by grind,by grind⟩ ?_ cz;simp only;omega;rw[if_neg s]at d c;obtain⟨q,G,hq⟩:=oN.resolve_left s;obtain⟨u,J⟩:∃u,t[q]?=some u:=⟨_,ax_ hq⟩;rw[show x.toNat=q by omega,J]at c;have yV:=(L u (as_ J)).2.1;obtain⟨un,ua⟩:=u;have hu4:=uT ua;dsimp only at c yV;refine H te ?_;refine I.op rfl (D.ind rfl rfl (du (l:=f) B hy) (cJ λ_=>rfl)) ?_;refine H te ?_;refine I.vh (f:=kN) (ys:=ya) rfl rfl rfl v (λ_=>rfl) rfl uM Au (by omega) λb1 k1 azS lP=>?_;refine H te ?_;refine I.op rfl (D.ind rfl rfl (du (l:=t) G J) (cJ λ_=>rfl)) ?_;refine H te ?_;refine I.vh (f:=kN) (ys:=ua) rfl rfl rfl w (λ_=>rfl) rfl uM Au (by omega) λb2 k2 azT eF=>?_;refine H te ?_;refine cN λF eu=>?_;refine H te ?_;refine I.bu (σ:=Int×(List Tm×Nat)×List Tm×Nat) (F,(b1,k1),b2,k2) [(1,3),(2,4)] ⟨z+1,by grind,by omega,by grind,by grind,lP,eF,by grind,by grind⟩ ?_ cz;simp only;omega
def ar4:=aD func169 call169
def anj:=[3,4,1,0]
def ar5:=aD func168 call168
def HU:=[4,3,5,0,1,11,2]
def ar6:=aD func104 call104
def jX:=[7,6,8,35,19,3,9,14,0,2,5,18,20,17,11,34,36,33,1,12,44,13]
theorem aa7{env:List Bd}(c:env.length<=1099511627776)(g:At)(e:bC g.a<=100000000000):ad U 169 [a_ O env,at_ O g] (at_ O (EI env g)):=by
 have b:=HD (U:=U) (O:=O) (f:=fT env) (env:=env) g.a (by grind[oK]) λy h=>S4 c y (by have:=jx y h;omega);rw[EI];obtain⟨n,a⟩:=g;simp only at b⊢;obtain⟨A,d⟩:∃A,A=a.map (fT env):=⟨_,rfl⟩;rw[<-d]at b⊢;clear d e c;refine st ar4 anj (ph _) ?_;repeat' first|apply bh anj b|refine fq ?_
 exact .refl _
def KB(b:Bool):Int:=if b then 0 else 6
def pso(O:Hd)(u:List Bd)(s:List Im×Bool)(q n:Nat):List (Nat×Ob):=[(0,.arr 1 [[a_ O u]] 0 true),(1,.arr 1 [[iv (KB s.2)]] 0 true),(2,.arr 1 [[.gr q 3 n]] 0 true),(q,.arr 3 (O.h (List.map (E4 O)) s.1) 0 false)]
theorem agN(u:List Bd)(s:List Im×Bool)(n:Nat)(k:n=s.1.length)(hs:s.1.length<=100000)(a:At)(w:u.length<=1099511627776)(e:bC a.a<=100000000000)(l:(EI u a).ok)(h:a.n.size<=1099511627776)(i:Nat)(B:i=n+1):aG prog U 168 [at_ O a,.pt 0 1 0 0,.pt 1 1 0 0,.pt 2 1 0 0] (aw (pso O u s 3 n) 4) (iv n) (aw (pso O u (HL u s a) 4 i) 5):=by
 have p:=aa7 (U:=U) (O:=O) w a e;have j:=Ii (U:=U) (O:=O) (EI u a) l h;unfold HL pso;obtain⟨g,ok⟩:=s;simp only at k hs⊢;have q:(⟨((g.length:Nat):Int)+1,a.n,a.a.map (fT u)⟩:Im)=⟨((g.length:Nat):Int)+1,(EI u a).n,(EI u a).a⟩:=rfl;rw[q];clear q l;obtain⟨b,r⟩:∃b,b=EI u a:=⟨_,rfl⟩;rw[<-r]at p j⊢;clear r;obtain⟨c,t⟩:∃c,c=fw b:=⟨_,rfl⟩;rw[<-t]at j⊢;clear t;obtain⟨C,E⟩:=a;obtain⟨y,z⟩:=b;refine sc 4 5 ar5 ?_;refine H HU ?_;apply bh HU p;refine I.op rfl (pl j) ?_;obtain⟨o,v⟩:∃o,o=(ok&&c):=⟨_,rfl⟩;rw[<-v];cases c;all_goals
  refine H HU ?_;refine ig HU (D.kS rfl) λm F=>?_;refine ag HU λd G=>?_;refine I.app (x:=(⟨d,y,z⟩:Im)) (f:=E4 O) rfl rfl rfl k (λ_=>rfl) rfl rfl rfl rfl (by omega) λJ len A K=>?_;refine H HU ?_;refine ig HU (D.kS rfl) λL M=>?_;have N:len=n+1:=by grind
  refine cN λd2 P=>?_;obtain rfl:i=len:=by omega
  obtain rfl:d2=(n:Int):=by omega
  obtain rfl:d=((g.length:Nat):Int)+1:=by omega
  rw[<-A];subst v;refine H HU ?_;refine fq ?_
 rw[bx_];exact⟨[(4,5)],.aF .v,⟨.inl ⟨_,rfl,.same (se λa e=>by obtain rfl:=ae_.1 e;exact bH _)⟩,.inl ⟨_,rfl,.same (se λa e=>by obtain rfl:=ae_.1 e;exact .v)⟩,.inl ⟨_,rfl,.arr (by exact⟨kq,trivial⟩)⟩,.inl ⟨_,rfl,.same (jP λx _=>xl x)⟩,trivial⟩,rfl⟩;rw[bC_];exact⟨[(4,5)],.aF .v,⟨.inl ⟨_,rfl,.same (se λa e=>by obtain rfl:=ae_.1 e;exact bH _)⟩,.inl ⟨_,rfl,.same (se λa e=>by obtain rfl:=ae_.1 e;exact .v)⟩,.inl ⟨_,rfl,.arr (by exact⟨kq,trivial⟩)⟩,.inl ⟨_,rfl,.same (jP λx _=>xl x)⟩,trivial⟩,rfl⟩
def stS(O:Hd)(l:List Int)(f:List At)(m:Int)(a b c:Nat)(i:Int):List (Nat×AV):=[(1,aQ O aH false l),(3,.pt 0 18 0 0),(6,.pt 2 1 0 0),(7,.pt 3 2 0 0),(8,.pt 4 1 0 0),(9,.fn (.func 168) [] [.pt 1 1 0 0,.pt 4 1 0 0,.pt 2 1 0 0]),(a,dW O f),(b,.v (.int .i64 m)),(c,.v (.int .i64 i))]
def stO(O:Hd)(C:List AV)(u:List Bd)(s:List Im×Bool)(n:Nat)(h:List Int)(k:Nat):List (Nat×Ob):=[(0,.arr 18 [C] 0 true),(1,.arr 1 [[a_ O u]] 0 true),(2,.arr 1 [[.gr 5 3 n]] 0 true),(3,.arr 2 [[.gr 6 1 k,.sl true []]] 0 true),(4,.arr 1 [[iv (KB s.2)]] 0 true),(5,.arr 3 (O.h (List.map (E4 O)) s.1) 0 false),(6,.arr 1 (O.h (List.map aH) h) 0 false)]
theorem aiU(b:5<=B):eI B (.fn (.func 168) [] [.pt 1 1 0 0,.pt 4 1 0 0,.pt 2 1 0 0]):=by refine .fn λa h=>by grind λa h=>?_;simp only[al_,aB_,or_false]at h;rcases h with rfl|rfl|rfl<;>exact .pt (by omega)
def EP(O:Hd)(u:List Bd)(s:List Im×Bool)(q n:Nat):List (Nat×Ob):=[(1,.arr 1 [[a_ O u]] 0 true),(4,.arr 1 [[iv (KB s.2)]] 0 true),(2,.arr 1 [[.gr q 3 n]] 0 true),(q,.arr 3 (O.h (List.map (E4 O)) s.1) 0 false)]
def aes(O:Hd)(u:List Bd)(s:List Im×Bool)(q a n:Nat):List (Nat×Option Ob):=[(1,some (.arr 1 [[a_ O u]] 0 true)),(4,some (.arr 1 [[iv (KB s.2)]] 0 true)),(2,some (.arr 1 [[.gr (a+4) 3 n]] 0 true)),(q,none),(a,none),(a+1,none),(a+2,none),(a+3,none),(a+4,some (.arr 3 (O.h (List.map (E4 O)) s.1) 0 false))]
theorem V4(l:List Im):∀row∈O.h (List.map (E4 O)) l,∀a∈row,Pure a:=by rw[O.eq];intro row b a c;obtain⟨x,_,rfl⟩:=aE_.1 b;exact xl x a c
theorem V5{q n:Nat}{T:ao}(a:gQ T (EP O u s q n)):jE (aU [(0,1),(1,4),(2,2),(3,q)]) 4 T (pso O u s 3 n):=by have b:=a (1,.arr 1 [[a_ O u]] 0 true) (by simp[EP]);have c:=a (4,.arr 1 [[iv (KB s.2)]] 0 true) (by simp[EP]);have d:=a (2,.arr 1 [[.gr q 3 n]] 0 true) (by simp[EP]);have e:=a (q,.arr 3 (O.h (List.map (E4 O)) s.1) 0 false) (by simp[EP]);exact⟨⟨_,b,.row ⟨.pure (bH _),trivial⟩⟩,⟨_,c,.row ⟨.pure .v,trivial⟩⟩,⟨_,d,.row ⟨.gr rfl rfl,trivial⟩⟩,⟨_,e,.pure (V4 s.1)⟩,trivial⟩
def V6{q a n:Nat}:fW (dL (aU [(0,1),(1,4),(2,2),(3,q)]) 4 a) (pso O u s 4 n) (aes O u s q a n) :=⟨⟨0,_,rfl,rfl,.row ⟨.pure (bH _),trivial⟩⟩,⟨1,_,rfl,rfl,.row ⟨.pure .v,trivial⟩⟩,⟨2,_,rfl,rfl,.row ⟨.gr rfl,trivial⟩⟩,⟨4,_,rfl,rfl,.pure (V4 s.1)⟩,trivial⟩
theorem tL.agP{x:At}(h:tL 200 x)(hs:g_ 200 u)(a:fC u):(EI u x).ok:=by
 have b:dO (x.a.map (fT u)):=by rw[<-rq];exact IG a _ h.1
 refine⟨?_,b⟩;have c:=uT x.a;have d:=h.2.1;show(x.a.map (fT u)).length<=_;rw[bk_];omega
def stP(O:Hd)(C:List AV)(u:List Bd)(s:List Im×Bool)(n:Nat)(g:List Int)(k:Nat)(h:List Int)(q:Nat):List (Nat×Ob):=[(0,.arr 18 [C] 0 true),(1,.arr 1 [[a_ O u]] 0 true),(2,.arr 1 [[.gr 7 3 n]] 0 true),(3,.arr 2 [[.gr 6 1 k,.gr 8 1 q]] 0 true),(4,.arr 1 [[iv (KB s.2)]] 0 true),(6,.arr 1 (O.h (List.map aH) g) 0 false),(7,.arr 3 (O.h (List.map (E4 O)) s.1) 0 false),(8,.arr 1 (O.h (List.map aH) h) 0 false)]
def prA(O:Hd)(s:List Im×Bool)(h0 h1:List Int):AV:=.aM [mH O s.1,.agg [aQ O aH false h0,aQ O aH false h1],iv (KB s.2)]
def aet(s:List Im×Bool)(h0 h1:List Int):Pure (prA O s h0 h1):=.aM (M_ (dY _) (.agg (s_ (a8 _) (a8 _))) .v)
set_option maxHeartbeats 2000000 in theorem aiV(p:Pg)(i j:Int)(a b:Rl)(f t:List At)(l:List Int)(u:List Bd)(hf:f.length<=1000)(ht:t.length<=1000)(hl:l.length<=1000)(hu:u.length<=1099511627776)(mY:fC u)(C:g_ 200 u)(Qn:∀x∈f,tL 200 x)(Oi:∀x∈t,tL 200 x):ad U 104 [.agg (dC O p i j a b f t),aQ O aH false l,a_ O u] (prA O (EJ u l t 0 (HM u f ([],true)) []).1 (upto f.length) (EJ u l t 0 (HM u f ([],true)) []).2):=by
 have dy:=qk (O:=O) p i j a b f t;obtain⟨ds,Q⟩:=p;obtain⟨R,S,V,ag,W,av⟩:=a;obtain⟨bn,bk,br,bg,lE,bv⟩:=b;have qR:∀B,jm B (.arr 18 [dC O ⟨ds,Q⟩ i j ⟨R,S,V,ag,W,av⟩ ⟨bn,bk,br,bg,lE,bv⟩ f t] 0 true):=λB r hr a ha=>by obtain rfl:=ae_.1 hr;exact(dy a ha).bm
 clear dy;unfold dC at qR⊢;refine st ar6 jX (aet _ _ _) ?_;refine b9 λm hm=>?_;rw[aA]at hm;refine H jX ?_;obtain⟨s1,fF⟩:∃s,s=HM u f ([],true):=⟨_,rfl⟩;rw[<-fF];obtain⟨RT,n⟩:∃s,s=EJ u l t 0 s1 []:=⟨_,rfl⟩;rw[<-n];have K5:True:=trivial;refine I.eH (σ:=Int×((List Im×Bool)×Nat)×List Int×Nat) 5 7 [] (λp=>stS O l f m 17 18 19 p.1) [] (λp=>stO O (dC O ⟨ds,Q⟩ i j ⟨R,S,V,ag,W,av⟩ ⟨bn,bk,br,bg,lE,bv⟩ f t) u p.2.1.1 p.2.1.2 p.2.2.1 p.2.2.2) (λp=>∃z:Nat,p.1=z/\z<=f.length/\s1=HM u (f.drop z) p.2.1.1/\p.2.1.1.1.length=z/\p.2.1.2=z/\p.2.2.1=upto z/\p.2.2.2=z) (λp=>f.length-p.1.toNat) (0,(([],true),0),[],0) ⟨0,rfl,by omega,by grind,rfl,rfl,rfl,rfl⟩ rfl cz ?_;rintro⟨i2,⟨s2,E⟩,g2,k2⟩ ⟨z,hz,Fv,c,eX,dS,F,eF⟩;simp only at hz c eX dS F eF;clear fF;unfold stS stO dC;refine H jX ?_;refine bq (λbD=>?_) λbD=>?_<;>(try simp only[bT]at bD);rotate_left
 ·rw[aP_ (by omega),HM]at c;subst c;obtain rfl:z=f.length:=by omega
  clear Qn K5;refine H jX ?_;refine I.gp ?_;refine H jX ?_;refine b9 λm2 iW=>?_;rw[aA]at iW;refine H jX ?_;refine I.eH (σ:=Int×((List Im×Bool)×Nat)×List Int×Nat) 7 9 [(7,5)] (λp=>stS O l t m2 33 34 35 p.1) [] (λp=>stP O (dC O ⟨ds,Q⟩ i j ⟨R,S,V,ag,W,av⟩ ⟨bn,bk,br,bg,lE,bv⟩ f t) u p.2.1.1 p.2.1.2 g2 k2 p.2.2.1 p.2.2.2) (λp=>∃z:Nat,p.1=z/\z<=t.length/\RT=EJ u l (t.drop z) z p.2.1.1 p.2.2.1/\p.2.1.1.1.length=p.2.1.2/\p.2.1.2<=1000+z/\p.2.2.1.length=z/\p.2.2.2=z) (λp=>t.length-p.1.toNat) (0,(s1,E),[],0) ⟨0,rfl,by omega,n,by grind,by grind,rfl,rfl⟩ rfl cz ?_;clear n;rintro⟨i4,⟨M,w⟩,g4,k4⟩ ⟨y,hy,Sn,g,o,hn5,d,N⟩;simp only at hy g o hn5 d N;unfold stS stP dC;refine H jX ?_;refine bq (λcd=>?_) λcd=>?_<;>(try simp only[bT]at cd);rotate_left;rw[aP_ (by omega),EJ]at g;subst g;refine H jX ?_;refine I.gp ?_;refine H jX ?_;refine fq ?_;refine .aM rfl λi a a' h A=>?_;match i with
  |0 =>obtain rfl:=oJ_ h;obtain rfl:=oJ_ A;exact aL.grow rfl o.symm|1 =>obtain rfl:=oJ_ h;obtain rfl:=oJ_ A;refine .agg rfl λi a a' h A=>?_;match i with|0 =>obtain rfl:=oJ_ h;obtain rfl:=oJ_ A;rw[<-F];exact aL.grow rfl (by rw[eF,F,EK])|1 =>obtain rfl:=oJ_ h;obtain rfl:=oJ_ A;exact aL.grow rfl (N.trans d.symm)|i+2=>simp at h
  |2 =>obtain rfl:=oJ_ h;obtain rfl:=oJ_ A;exact .refl _|i+3=>simp at h
  obtain⟨x,G,aS⟩:=aC (l:=t) (k:=y) (by omega);have q:=Oi x (as_ G);have J:=afj (U:=U) (O:=O) l i4 (by omega);have e:=λv zK=>agN (U:=U) (O:=O) u M w (by omega) (by omega) x hu (by have:=q.2.1;omega) (tL.agP q C mY) q.2.2 v zK;rw[aS,EJ,<-hy]at g;obtain⟨kx,ZR⟩:∃k,k=de (λx=>i4==x) l 0:=⟨_,rfl⟩;rw[<-ZR]at g J;obtain⟨s5,K⟩:∃s,s=HL u M x:=⟨_,rfl⟩;rw[<-K]at g e;have hl5:s5.1.length=w+1:=by grind[HL]
  obtain⟨n5,aws⟩:∃v,v=w+1:=⟨_,rfl⟩;have e:=e n5 aws;clear K ZR;obtain⟨xn,xa⟩:=x;refine H jX ?_;refine I.op rfl (D.ind rfl rfl (du (l:=t) hy G) (cJ λ_=>rfl)) ?_;refine H jX ?_;refine I.op rfl (pl J) ?_;refine H jX ?_;refine bq (λP=>?_) λP=>?_<;>(try simp only[bT]at P);rw[if_pos P]at g;refine H jX ?_;refine I.op rfl (D.qS rfl rfl (by decide) (by decide)) ?_;refine H jX ?_;refine I.app (x:=kx) (f:=aH) rfl rfl rfl (N.trans d.symm) (λ_=>rfl) rfl rfl rfl rfl (by omega) λg5 k5 hg5 hk5=>?_;refine H jX ?_;refine I.op rfl (D.qS rfl rfl (by decide) (by decide)) ?_;refine H jX ?_;refine cN λi6 hi6=>?_;refine H jX ?_;refine I.bu (σ:=Int×((List Im×Bool)×Nat)×List Int×Nat) (i6,(M,w),g5,k5) [(8,10)] ⟨y+1,by grind,by omega,by grind,o,by grind,by grind,by grind⟩ ?_ cz;simp only;omega;rw[if_neg P]at g;refine H jX ?_;refine I.dF rfl (λT=>D.qS rfl rfl (by decide) (by decide)) ?_;refine H jX ?_;refine I.eV rfl (bj.ja [(0,1),(1,4),(2,2),(3,7)] (EP O u M 7 w) (aes O u s5 7 10 n5) e rfl ⟨.pure (ph (O:=O) ⟨xn,xa⟩),.pt rfl rfl,.pt rfl rfl,.pt rfl rfl,trivial⟩ (.pure .v) λp c=>by simp only[EP,al_,aB_,or_false]at c;rcases c with rfl|rfl|rfl|rfl<;>rfl (λT hT=>V5 hT) V6) ?_;refine H jX ?_;refine I.zf (O:=O) (f:=aH) (MP:=g4) (w:Int) rfl rfl rfl (N.trans d.symm) (λ_=>rfl) rfl rfl rfl (by omega) λg5 k5 hg5 hk5=>?_;refine H jX ?_;refine I.dF rfl (λT=>D.qS rfl rfl (by decide) (by decide)) ?_;refine H jX ?_;refine cN λi6 hi6=>?_;refine H jX ?_;refine I.bu (σ:=Int×((List Im×Bool)×Nat)×List Int×Nat) (i6,(s5,n5),g5,k5) [(7,14),(8,26)] ⟨y+1,by grind,by omega,by grind,by grind,by grind,by grind,by grind⟩ ?_ cz;simp only;omega
 obtain⟨x,G,aS⟩:=aC (l:=f) (k:=z) (by omega);have q:=Qn x (as_ G);have e:=λv zK=>agN (U:=U) (O:=O) u s2 E (by omega) (by omega) x hu (by have:=q.2.1;omega) (tL.agP q C mY) q.2.2 v zK;rw[aS,HM]at c;obtain⟨s3,Li⟩:∃s,s=HL u s2 x:=⟨_,rfl⟩;rw[<-Li]at c e;have Su:s3.1.length=z+1:=by grind[HL]
 obtain⟨n3,nE⟩:∃v,v=E+1:=⟨_,rfl⟩;have e:=e n3 nE;clear Li;obtain⟨xn,xa⟩:=x;refine H jX ?_;refine I.op rfl (D.ind rfl rfl (du (l:=f) hz G) (cJ λ_=>rfl)) ?_;refine H jX ?_;refine I.dF rfl (λT=>D.qS rfl rfl (by decide) (by decide)) ?_;refine H jX ?_;refine I.eV rfl (bj.ja [(0,1),(1,4),(2,2),(3,5)] (EP O u s2 5 E) (aes O u s3 5 8 n3) e rfl ⟨.pure (ph (O:=O) ⟨xn,xa⟩),.pt rfl rfl,.pt rfl rfl,.pt rfl rfl,trivial⟩ (.pure .v) λp c=>by simp only[EP,al_,aB_,or_false]at c;rcases c with rfl|rfl|rfl|rfl<;>rfl (λT hT=>V5 hT) V6) ?_;refine H jX ?_;refine I.zf (O:=O) (f:=aH) (MP:=g2) (E:Int) rfl rfl rfl (by rw[eF,F,EK]) (λ_=>rfl) rfl rfl rfl (by omega) λg3 k3 hg3 Bs=>?_;refine H jX ?_;refine I.dF rfl (λT=>D.qS rfl rfl (by decide) (by decide)) ?_;refine H jX ?_;refine cN λi3 eu=>?_;refine H jX ?_;refine I.bu (σ:=Int×((List Im×Bool)×Nat)×List Int×Nat) (i3,(s3,n3),g3,k3) [(5,12),(6,24)] ⟨z+1,by grind,by omega,c,Su,by grind,by simp only;rw[hg3,F,dS];rfl,by grind[EK]⟩ ?_ cz;simp only;omega
def Fz(O:Hd)(x:Pr):List AV:=[iv x.i,iv x.j,dI O x.st.goals,mH O x.st.store,a_ O x.st.binds,mX O x.st.bE,dI O x.st.known,iv x.st.next,iv x.st.fresh,.v (.bool x.st.failed),aQ O aH false x.h0,aQ O aH false x.h1]
theorem Tv(x:Pr):∀a∈Fz O x,Pure a:=by simp[Fz,a6,dY,bH,fm,a8,Pure.v,iv]
def awt:=aD func22 call22
def wF:=[10,3,1,6,7,2,11,12,15,0,9,38,69,70,74,83,14,85,13]
def V7(O:Hd)(l:List Pr):AV:=aQ O (Fz O) false l
def L9(O:Hd)(x:List Pr×Int):AV:=.aM [V7 O x.1,iv x.2]
def aeu(l:List Pr):Pure (V7 O l):=eW λx _ a b=>Tv x a b
def aev(x:List Pr×Int):Pure (L9 O x):=.aM (s_ (aeu _) .v)
theorem anm{a:AV}{l:List Pr}{e:Int}(h:aL S a (V7 O l)):aL S (.aM [a,iv e]) (L9 O (l,e)):=by have zzH:jl S [a,iv e] [V7 O l,iv e]:=⟨h,.refl _,trivial⟩;exact .aM zzH.len zzH.at
end
theorem ar7(v:Int):e_ (vr v):=by grind[vr,e_]
theorem ann{v w:Int}:nK v (vr w)↔w=v:=by grind[vr,nK]
theorem aa9{v w:Int}(h:vr v=vr w):v=w:=by injection h
theorem Pt(v:Int):(vr v).ok:=by rw[vr,Tm.ok,dO];exact⟨by simp,by decide,trivial⟩
def ES(v:Int):Tm:=if v=1 then vr 0 else vr v
theorem ano:DN [(vr 0,vr 1)] ES [1]:=by refine⟨⟨λv=>?_,λv w h=>?_,λv w h=>?_,λe b=>?_,λf a v=>?_⟩,?_,λv=>?_⟩;grind[ES,ar7];grind[ES,ann];grind[ES,aa9];grind[Du,ES];have h:=a (vr 0,vr 1) (by simp);simp only[Du]at h;unfold ES;split;grind[Du];rw[Du];exact⟨λy h=>by grind,trivial⟩;grind[ES,aa9]
theorem anp:nQ [vr 0] [vr 1]=([⟨1,vr 0⟩],0):=by
 have r0:cB (vr 0)=true:=by kernel_rfl
 have a:cB (vr 1)=true:=by kernel_rfl
 have b0:iY (vr 0)=false:=by kernel_rfl
 unfold nQ;rw[if_neg (by grind),if_neg (by grind),if_pos (by grind),show[vr 0].zip [vr 1]=[(vr 0,vr 1)] from rfl,FV ano];unfold P9;have e:ES 1=vr 0:=by grind[ES]
 rw[if_neg (by grind)];simp[e]
end Go.Proofs.YtbdcmpknicjopaaGreat
